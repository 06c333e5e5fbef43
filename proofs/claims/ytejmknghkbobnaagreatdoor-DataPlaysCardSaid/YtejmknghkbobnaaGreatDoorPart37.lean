import Derived.Test.YtejmknghkbobnaaGreatDoorPart36
set_option linter.all false
set_option maxRecDepth 100000
set_option maxHeartbeats 0
namespace Go.Proofs.YtejmknghkbobnaaGreatDoor
open Go.Proofs.Tryz
open Go.RowKit Go.Maps
abbrev eZ (wh f kd off n size:Int)(lv:Value)(s:ByteArray):Array Value:=#[.int .u8 wh,.int .u8 f,.int .i64 kd,.int .i64 off,.int .i64 n,.int .i64 size,lv,.string s]
abbrev aK (L0 L1 L2:Value)(z0 z1:Int):Array Value:=#[L0,L1,L2,.int .i64 z0,.int .i64 z1]
abbrev az (wh kd size off n:Int)(lv:Value)(s:ByteArray)(pv:Value):Array Value:=#[.int .i64 wh,.int .i64 kd,.int .i64 size,.int .i64 off,.int .i64 n,lv,.string s,pv]
abbrev fP:Array Value:=#[.int .i64 0,.int .i64 0,.int .i64 0,.int .i64 0,.int .i64 0,.slice none 0 0,.string ⟨#[]⟩,.slice none 0 0]
def OfRaw (w:World)(kd off n size:Int)(lv:Value)(s:ByteArray)(e:Ending)(w':World):Prop:=
 Zr w w'/\∃ci pv,(ci=0\/ci=2\/ci=3\/ci=5\/ci=6)/\e=.returned (.agg (az ci kd size off n lv s pv))/\∃ps:List ByteArray,w'.ownsRow w.heap.size 9 1 pv ps.length (ps.map .string)
def zb0 (w:World)(kd off n size:Int)(lv:Value)(s:ByteArray)(e:Ending)(w':World):Prop:=
 Zr w w'/\∃ci pv,(ci=0\/ci=2\/ci=3\/ci=5\/ci=6)/\e=.returned (.agg (az ci kd size off n lv s pv))/\∃ps:List ByteArray,w'.ownsRow w.heap.size 9 1 pv ps.length (ps.map .string)/\ps.length<=901/\∀p∈ps,p.size<=1000
theorem z5f {s:ByteArray}{D c:Nat}(K:s.size<=900)(J:1<=D)(h:D*c<=s.size):(cE s D c++[cZ s D c]).length<=901/\∀p∈cE s D c++[cZ s D c],p.size<=1000:=by
 have I:c<=900:=by
  have:1*c<=D*c:=Nat.mul_le_mul_right _ J
  omega
 refine⟨by rw[kY,ed];simp;omega,fun p A=>?_⟩
 rcases lE.1 A with A|A
 ·unfold cE at A;obtain⟨i,-,rfl⟩:=List.mem_map.1 A;unfold jH;rw[ByteArray.size_extract];omega
 ·simp only[mg]at A;subst A;rw[iU];omega
theorem zbD (a0 a1 a2:Option Addr)(n0 k0 n1 k1 n2 k2:Nat)(z0 z1:Int)(wh f kd off n size:Int)(A:Option Addr)(m c:Nat)(s:ByteArray)(hs:s.size<=900)(hf:0<=f/\f<=255)(cQ:0<=wh/\wh<=255)(cP:wh % 8=7)(hz:-9223372036854775808<=size/\size<=9223372036854775807)(w:World):
  Calls prog 26 #[.agg (eZ wh f kd off n size (.slice A m c) s),.agg (aK (.slice a0 n0 k0) (.slice a1 n1 k1) (.slice a2 n2 k2) z0 z1)] w (zb0 w kd off n size (.slice A m c) s):=by
 obtain⟨wA,hA⟩:=zex (((w.alloc (.cells (eZ wh f kd off n size (.slice A m c) s) 81)).alloc (.cells (aK (.slice a0 n0 k0) (.slice a1 n1 k1) (.slice a2 n2 k2) z0 z1) 75)).alloc (.cells fP 78));have bA:Blk wA w.heap.size 81 (eZ wh f kd off n size (.slice A m c) s):=by rw[hA];exact zbn
 have bB:Blk wA (w.heap.size+1) 75 (aK (.slice a0 n0 k0) (.slice a1 n1 k1) (.slice a2 n2 k2) z0 z1):=by rw[hA];exact zbn
 have bC:Blk wA (w.heap.size+1+1) 78 fP:=by rw[hA];exact zbn
 have B1:Zr w wA:=by rw[hA];exact zgr
 obtain⟨f2,cL⟩:∃f2:Nat,f % 2=f2:=⟨(f % 2).toNat,by omega⟩
 have d7:wh.tmod 8=7:=by rw[<-cP];exact lI cQ.1
 clear cP cQ;have h1:f.tmod 2=f2:=by rw[<-cL];exact lI hf.1
 have h3:IntKind.u8.wrap (f2:Int)=f2:=by rw[IntKind.wrap_u8];omega
 have h5:IntKind.i64.wrap (f2:Int)=f2:=by rw[kW];omega
 have dv:(0:Int)<=(f2:Int):=by omega
 have dT:(f2:Int)<2:=by omega
 have d1:(f2:Int)<3:=by omega
 have bZ:f2=0\/f2=1:=by omega
 obtain⟨fa,fn,fc,zf,cB⟩:∃(fa:Option Addr) (fn fc:Nat) (zf:Int),∀W,Blk W (w.heap.size+1) 75 (aK (.slice a0 n0 k0) (.slice a1 n1 k1) (.slice a2 n2 k2) z0 z1)->W.cell? ⟨w.heap.size+1,f2,none⟩=some (.slice fa fn fc)/\W.cell? ⟨w.heap.size+1,3+f2,none⟩=some (.int .i64 zf):=by
  rcases bZ with rfl|rfl
  ·exact⟨a0,n0,k0,z0,fun W b=>⟨(b.cells _).trans rfl,(b.cells _).trans rfl⟩⟩
  ·exact⟨a1,n1,k1,z1,fun W b=>⟨(b.cells _).trans rfl,(b.cells _).trans rfl⟩⟩
 clear cL bZ;have g1:f.tmod 5=f % 5:=lI hf.1;have g3:IntKind.u8.wrap (f % 5)=f % 5:=by rw[IntKind.wrap_u8];omega
 have cR:wA.heap.size=w.heap.size+1+1+1:=by rw[hA];simp
 have cS:=kD cR;clear cR;obtain⟨q,hq⟩:∃q:Nat,size % 97=q:=⟨(size % 97).toNat,by omega⟩
 obtain⟨g5,db⟩:∃g5:Nat,f % 5=g5:=⟨(f % 5).toNat,by omega⟩
 have d4:q<97:=by omega
 have d2:(0:Int)<=(g5:Int):=by omega
 have d3:(g5:Int)<5:=by omega
 obtain⟨q1,d5⟩:∃q1:Nat,q1=1+q:=⟨_,rfl⟩;have cJ:∀W,Calls prog 80 #[.string s,.int .i64 (1+(q:Int))] W (z2i s q1 W):=fun W=>by
  have h:=z8n s (by omega) q1 (by omega) W
  rwa [show (q1:Int)=1+(q:Int)from by omega]at h
 have h9:IntKind.i64.wrap (1+(q:Int))=1+(q:Int):=by rw[kW];omega
 have bQ:=kD cJ;clear cJ;rw[db]at g1 g3;have c9:∃U:Int,(#[Value.int .i64 0,.int .i64 2,.int .i64 3,.int .i64 5,.int .i64 6])[g5]?=some (.int .i64 U)/\(U=0\/U=2\/U=3\/U=5\/U=6):=by
  have h:g5=0\/g5=1\/g5=2\/g5=3\/g5=4:=by omega
  rcases h with rfl|rfl|rfl|rfl|rfl
  ·exact⟨0,rfl,by simp⟩
  ·exact⟨2,rfl,by simp⟩
  ·exact⟨3,rfl,by simp⟩
  ·exact⟨5,rfl,by simp⟩
  ·exact⟨6,rfl,by simp⟩
 obtain⟨U,bW,bX⟩:=c9;have an:=kD (And.intro bW bX);have b9:=fun W=>iy size 97 hz (by omega) W
 rw[hq]at b9;have ck:=kD b9;have HQ:=kD hq;clear bW bX b9 hq;have cC:∀W,Blk W w.heap.size 81 (eZ wh f kd off n size (.slice A m c) s)->Blk W (w.heap.size+1) 75 (aK (.slice a0 n0 k0) (.slice a1 n1 k1) (.slice a2 n2 k2) z0 z1)->W.cell? ⟨w.heap.size,0,none⟩=some (.int .u8 wh)/\W.cell? ⟨w.heap.size,7,none⟩=some (.string s)/\W.cell? ⟨w.heap.size+1,f2,none⟩=some (.slice fa fn fc):=fun W b1 b2=>⟨by rw[b1.cells];rfl,by rw[b1.cells];rfl,(cB W b2).1⟩
 have cD:∀W,Blk W w.heap.size 81 (eZ wh f kd off n size (.slice A m c) s)->W.cell? ⟨w.heap.size,1,none⟩=some (.int .u8 f)/\W.cell? ⟨w.heap.size,2,none⟩=some (.int .i64 kd)/\W.cell? ⟨w.heap.size,3,none⟩=some (.int .i64 off)/\W.cell? ⟨w.heap.size,4,none⟩=some (.int .i64 n)/\W.cell? ⟨w.heap.size,5,none⟩=some (.int .i64 size)/\W.cell? ⟨w.heap.size,6,none⟩=some (.slice A m c)/\W.cell? ⟨w.heap.size,7,none⟩=some (.string s):=fun W b1=>⟨by rw[b1.cells];rfl,by rw[b1.cells];rfl,by rw[b1.cells];rfl,by rw[b1.cells];rfl,by rw[b1.cells];rfl,by rw[b1.cells];rfl,by rw[b1.cells];rfl⟩
 have cg:=kD cC;have V:=kD cD;clear cC cD;have bR:Hid (∀D,q1*D<=s.size->(cE s q1 D++[cZ s q1 D]).length<=901/\∀p∈cE s q1 D++[cZ s q1 D],p.size<=1000):=kD fun D h=>z5f hs (by omega) h
 unfold zb0;go_enter func26,ntmps26
 focus
  have cA:=bA.cells;obtain⟨cX,cz⟩:=cB _ bB;have b8:=cz;rw[hA]at b8;simp only[fP]at b8;have lA:=bA.lt;have lB:=bB.lt;go_wp2_with fail
  rw[<-hA];clear hA;go_wp2_with fail
  clear cA cX cz b8;refine zrm [.take 0,.take 1,.take 2,.take 3,.take 4,.take 5,.take 6,.take 7,.take 8,.take 9,.take 10,.take 11,.one 12,.one 13] 13 (fun w'=>w'.cell? ⟨w.heap.size,0,none⟩=some (.int .u8 wh)/\w'.cell? ⟨w.heap.size,7,none⟩=some (.string s)/\w'.cell? ⟨w.heap.size+1,f2,none⟩=some (.slice fa fn fc)) (cg.out _ bA.drew bB.drew) ?_
  simp only[kR,kS,Ms.fill,kT,kV];iterate 12 refine ztk ?_
  obtain⟨X0,bK⟩:=zex ((wA.alloc (.cells fP 78)).drew);have b3:Blk X0 w.heap.size 81 (eZ wh f kd off n size (.slice A m c) s):=by rw[bK];exact(bA.alloc _).drew
  have cl:Blk X0 (w.heap.size+1) 75 (aK (.slice a0 n0 k0) (.slice a1 n1 k1) (.slice a2 n2 k2) z0 z1):=by rw[bK];exact(bB.alloc _).drew
  have cm:Blk X0 (w.heap.size+1+1) 78 fP:=by rw[bK];exact(bC.alloc _).drew
  have b6:Blk X0 wA.heap.size 78 fP:=by rw[bK];exact(Blk.new _ _ _).drew
  have cc:Zr w X0:=by rw[bK];exact(B1.alloc B1.size _).drew
  refine ah (by rfl) fun K I=>?_
  go_simp;rw[<-bK];refine I _ _ (fun _=>cg.out _ b3 cl) ?_
  clear I K bK;refine ah (by rfl) fun K I=>?_
  have cM:=aF (ty:=78) (vs:=az 7 8 zf 0 0 (.slice fa fn fc) s (.slice none 0 0)) b6 rfl (by simp[Value.oneCell']) (by kernel_rfl)
  refine zob cM ?_;refine I _ _ (fun h=>absurd h (by decide)) ?_
  clear I K;refine ax ?_;have c8:wA.heap.size=w.heap.size+1+1+1:=cS.out;obtain⟨X,hX⟩:=zex (X0.setRow wA.heap.size (az 7 8 zf 0 0 (.slice fa fn fc) s (.slice none 0 0)));have b4:Blk X w.heap.size 81 (eZ wh f kd off n size (.slice A m c) s):=by rw[hX];exact(ak _ _ _ _ (by omega)).trans b3
  have cn:Blk X (w.heap.size+1+1) 78 fP:=by rw[hX];exact(ak _ _ _ _ (by omega)).trans cm
  have b7:Blk X wA.heap.size 78 (az 7 8 zf 0 0 (.slice fa fn fc) s (.slice none 0 0)):=by rw[hX];exact b6.setRow
  have BX:Zr w X:=by rw[hX];exact Below.setRow cc (by omega) _
  rw[<-hX];have bU:w.heap.size+1+1≠wA.heap.size:=by omega
  have bT:w.heap.size<=wA.heap.size:=by omega
  clear hX cM b3 cl cm b6 cc bA bB bC B1 lA lB c8;generalize wA.heap.size=CB at *;obtain⟨cK,lK⟩:=b7.zc;go_wp2_with fail
  clear cK lK;refine z1O (.take 1 (.take 2 (.take 3 (.take 6 (.take 7 (.take 8 (.take 9 (.take 10 (.take 11 (.take 12 (.take 13 (.take 14 (.take 15 (.take 16 (.take 17 (.take 18 (.take 19 (.take 20 (.take 21
   (.fork 0 22 (.mix [.take 4,.take 5,.one 22,.one 23,.one 24,.one 25,.one 26]) (.fork 0 23 (.mix [.take 4,.take 5,.one 23,.one 24,.one 25,.one 26]) (.fork 0 24 (.mix [.take 4,.take 5,.one 24,.one 25,.one 26]) (.mix [.one 0,.one 4,.one 5,.one 25,.one 26])))))))))))))))))))))))
   26 (fun W=>W.cell? ⟨w.heap.size,1,none⟩=some (.int .u8 f)/\W.cell? ⟨w.heap.size,2,none⟩=some (.int .i64 kd)/\W.cell? ⟨w.heap.size,3,none⟩=some (.int .i64 off)/\W.cell? ⟨w.heap.size,4,none⟩=some (.int .i64 n)/\W.cell? ⟨w.heap.size,5,none⟩=some (.int .i64 size)/\W.cell? ⟨w.heap.size,6,none⟩=some (.slice A m c)/\W.cell? ⟨w.heap.size,7,none⟩=some (.string s)) (by kernel_rfl) (by kernel_rfl) (fun _ _ _ _ _ h=>h) (V.out _ b4.drew) ?_
  simp only[Pl.fill,kR,kS,Ms.fill,kT,kV];iterate 19 (refine zax (by rfl) ?_ (fun w' d6=>?_) ?_;rotate_left;(focus (go_simp;(try with_reducible rfl)));(try simp only[Act.put,kJ,kH,kI]))
  have bM:=b4.drew;have bO:=cn.drew;have bP:=b7.drew;have BD:=BX.drew;generalize X.drew=Y at *;clear b4 cn b7 BX;refine z2W (fun K I=>?_) (fun K I=>?_)
  focus
   go_simp;obtain⟨Y1,hY⟩:=zex (Y.alloc (.cells #[.int .i64 0,.int .i64 2,.int .i64 3,.int .i64 5,.int .i64 6] 3));have a6:Blk Y1 w.heap.size 81 (eZ wh f kd off n size (.slice A m c) s):=by rw[hY];exact bM.alloc _
   have bu:Blk Y1 (w.heap.size+1+1) 78 fP:=by rw[hY];exact bO.alloc _
   have bD:Blk Y1 CB 78 (az 7 8 zf 0 0 (.slice fa fn fc) s (.slice none 0 0)):=by rw[hY];exact bP.alloc _
   have bk:Blk Y1 Y.heap.size 3 #[.int .i64 0,.int .i64 2,.int .i64 3,.int .i64 5,.int .i64 6]:=by rw[hY];exact zbn
   have B1:Zr w Y1:=by rw[hY];exact BD.alloc BD.size _
   rw[<-hY];refine I _ _ (V.out _ a6) ?_;clear I K hY;refine z2X (fun W=>(W.cell? ⟨w.heap.size,1,none⟩=some (.int .u8 f)/\W.cell? ⟨w.heap.size,2,none⟩=some (.int .i64 kd)/\W.cell? ⟨w.heap.size,3,none⟩=some (.int .i64 off)/\W.cell? ⟨w.heap.size,4,none⟩=some (.int .i64 n)/\W.cell? ⟨w.heap.size,5,none⟩=some (.int .i64 size)/\W.cell? ⟨w.heap.size,6,none⟩=some (.slice A m c)/\W.cell? ⟨w.heap.size,7,none⟩=some (.string s))/\W.cell? ⟨Y.heap.size,g5,none⟩=some (.int .i64 U)) (fun _ h=>h.1) ⟨V.out _ a6,(bk.cells g5).trans an.out.1⟩ ?_
   iterate 2 refine ztk ?_
   refine ah (by rfl) fun K I=>?_
   go_simp;refine(ck.out _).mono ?_;rintro e W' ⟨rfl,bJ⟩;replace bJ:=bJ.symm;subst bJ;refine I _ _ (fun _=>⟨V.out _ a6,(bk.cells g5).trans an.out.1⟩) ?_
   clear I K;refine ah (by rfl) fun K I=>?_
   go_simp;refine I _ _ (fun _=>⟨V.out _ a6,(bk.cells g5).trans an.out.1⟩) ?_
   clear I K;refine ah (by rfl) fun K I=>?_
   go_simp;have bn:=bQ.out Y1;refine Calls.mono bn ?_;clear bn;rintro e bt ⟨T,D,cb,rfl,bp,-,-,ac⟩;obtain⟨O,S,rfl⟩:=aw ac;have bF:=kD (bR.out _ bp);clear bp;have ca:=bD.lt;have a8:=a6.mD T;have bw:=bu.mD T;have ba:=bD.mD T;have bb:=bk.mD T;have bN:=B1.trans (T.mono B1.size);have zB:=B1.size;have br:∀M,(Value.slice O (D+1) S).ownBlock=some M->M≠CB:=fun M h0=>by have:=(ce ac M h0).1;omega
   have a7:=aI ac zB;have bL:∀M,(Value.slice O (D+1) S).ownBlock=some M->M≠w.heap.size+1+1:=fun M h0=>by have:=(ce ac M h0).1;have:=bu.lt;omega
   refine I _ _ (fun _=>⟨V.out _ a8,(bb.cells g5).trans an.out.1⟩) ?_
   clear I K;refine ah (by rfl) fun K I=>?_
   go_simp;refine I _ _ (fun _=>⟨V.out _ a8,(bb.cells g5).trans an.out.1⟩) ?_
   clear I K;refine ah (by rfl) fun K I=>?_
   have aL:=aF (ty:=78) (vs:=az U kd size off n (.slice A m c) s (.slice O (D+1) S)) ba rfl (by simp[Value.oneCell']) (by kernel_rfl)
   refine zob aL ?_;refine I _ _ (fun h=>absurd h (by decide)) ?_
   clear I K;refine ax ?_;have ao:=ba.setRow (cs':=az U kd size off n (.slice A m c) s (.slice O (D+1) S));have J:=bw.mO (k:=CB) (cs':=az U kd size off n (.slice A m c) s (.slice O (D+1) S)) bU;have bc:=Below.setRow bN bT (az U kd size off n (.slice A m c) s (.slice O (D+1) S));have ab:(bt.setRow CB (az U kd size off n (.slice A m c) s (.slice O (D+1) S))).ownsRow w.heap.size 9 1 (.slice O (D+1) S) (D+1) ((cE s q1 D++[cZ s q1 D]).map .string):=ar a7 fun M h0=>ak _ _ _ _ (br M h0)
   obtain⟨b0,av⟩:=zex (bt.setRow CB (az U kd size off n (.slice A m c) s (.slice O (D+1) S)));rw[<-av]at ao J bc ab |-;clear av aL a7 br ac T;obtain⟨cK,lK⟩:=ao.zc;have lC:=J.lt;have bG:=aF (ty:=78) (vs:=az U kd size off n (.slice A m c) s (.slice O (D+1) S)) J rfl (by simp[Value.oneCell']) (by kernel_rfl)
   go_wp2_with (refine zsb bG ?_)
   have cF:=(J.setRow (cs':=az U kd size off n (.slice A m c) s (.slice O (D+1) S))).cells;refine bodyPost_ret (v:=.agg (az U kd size off n (.slice A m c) s (.slice O (D+1) S))) (by simp[results,results26,go_sem,cF]) rfl ?_
   have bq:(cE s q1 D++[cZ s q1 D]).length=D+1:=by simp[ed]
   exact⟨Below.setRow bc (by omega) _,U,(.slice O (D+1) S),an.out.2,rfl,_,by rw[bq];exact ar ab fun M h0=>ak _ _ _ _ (fun e0=>by have:=(ce ab M h0).1;exact bL M h0 e0),bF.out⟩
  go_simp;refine(ck.out _).mono ?_;rintro e W' ⟨rfl,bJ⟩;replace bJ:=bJ.symm;subst bJ;refine I _ _ (V.out _ bM) ?_;clear I K;refine z2W (fun K I=>?_) (fun K I=>?_)
  focus
   go_simp;obtain⟨Y1,hY⟩:=zex (Y.alloc (.cells #[.int .i64 0,.int .i64 2,.int .i64 3,.int .i64 5,.int .i64 6] 3));have a6:Blk Y1 w.heap.size 81 (eZ wh f kd off n size (.slice A m c) s):=by rw[hY];exact bM.alloc _
   have bu:Blk Y1 (w.heap.size+1+1) 78 fP:=by rw[hY];exact bO.alloc _
   have bD:Blk Y1 CB 78 (az 7 8 zf 0 0 (.slice fa fn fc) s (.slice none 0 0)):=by rw[hY];exact bP.alloc _
   have bk:Blk Y1 Y.heap.size 3 #[.int .i64 0,.int .i64 2,.int .i64 3,.int .i64 5,.int .i64 6]:=by rw[hY];exact zbn
   have B1:Zr w Y1:=by rw[hY];exact BD.alloc BD.size _
   rw[<-hY];refine I _ _ (V.out _ a6) ?_;clear I K hY;refine z2X (fun W=>(W.cell? ⟨w.heap.size,1,none⟩=some (.int .u8 f)/\W.cell? ⟨w.heap.size,2,none⟩=some (.int .i64 kd)/\W.cell? ⟨w.heap.size,3,none⟩=some (.int .i64 off)/\W.cell? ⟨w.heap.size,4,none⟩=some (.int .i64 n)/\W.cell? ⟨w.heap.size,5,none⟩=some (.int .i64 size)/\W.cell? ⟨w.heap.size,6,none⟩=some (.slice A m c)/\W.cell? ⟨w.heap.size,7,none⟩=some (.string s))/\W.cell? ⟨Y.heap.size,g5,none⟩=some (.int .i64 U)) (fun _ h=>h.1) ⟨V.out _ a6,(bk.cells g5).trans an.out.1⟩ ?_
   iterate 2 refine ztk ?_
   refine ah (by rfl) fun K I=>?_
   go_simp;refine I _ _ (fun _=>⟨V.out _ a6,(bk.cells g5).trans an.out.1⟩) ?_
   clear I K;refine ah (by rfl) fun K I=>?_
   go_simp;have bn:=bQ.out Y1;refine Calls.mono bn ?_;clear bn;rintro e bt ⟨T,D,cb,rfl,bp,-,-,ac⟩;obtain⟨O,S,rfl⟩:=aw ac;have bF:=kD (bR.out _ bp);clear bp;have ca:=bD.lt;have a8:=a6.mD T;have bw:=bu.mD T;have ba:=bD.mD T;have bb:=bk.mD T;have bN:=B1.trans (T.mono B1.size);have zB:=B1.size;have br:∀M,(Value.slice O (D+1) S).ownBlock=some M->M≠CB:=fun M h0=>by have:=(ce ac M h0).1;omega
   have a7:=aI ac zB;have bL:∀M,(Value.slice O (D+1) S).ownBlock=some M->M≠w.heap.size+1+1:=fun M h0=>by have:=(ce ac M h0).1;have:=bu.lt;omega
   refine I _ _ (fun _=>⟨V.out _ a8,(bb.cells g5).trans an.out.1⟩) ?_
   clear I K;refine ah (by rfl) fun K I=>?_
   go_simp;refine I _ _ (fun _=>⟨V.out _ a8,(bb.cells g5).trans an.out.1⟩) ?_
   clear I K;refine ah (by rfl) fun K I=>?_
   have aL:=aF (ty:=78) (vs:=az U kd size off n (.slice A m c) s (.slice O (D+1) S)) ba rfl (by simp[Value.oneCell']) (by kernel_rfl)
   refine zob aL ?_;refine I _ _ (fun h=>absurd h (by decide)) ?_
   clear I K;refine ax ?_;have ao:=ba.setRow (cs':=az U kd size off n (.slice A m c) s (.slice O (D+1) S));have J:=bw.mO (k:=CB) (cs':=az U kd size off n (.slice A m c) s (.slice O (D+1) S)) bU;have bc:=Below.setRow bN bT (az U kd size off n (.slice A m c) s (.slice O (D+1) S));have ab:(bt.setRow CB (az U kd size off n (.slice A m c) s (.slice O (D+1) S))).ownsRow w.heap.size 9 1 (.slice O (D+1) S) (D+1) ((cE s q1 D++[cZ s q1 D]).map .string):=ar a7 fun M h0=>ak _ _ _ _ (br M h0)
   obtain⟨b0,av⟩:=zex (bt.setRow CB (az U kd size off n (.slice A m c) s (.slice O (D+1) S)));rw[<-av]at ao J bc ab |-;clear av aL a7 br ac T;obtain⟨cK,lK⟩:=ao.zc;have lC:=J.lt;have bG:=aF (ty:=78) (vs:=az U kd size off n (.slice A m c) s (.slice O (D+1) S)) J rfl (by simp[Value.oneCell']) (by kernel_rfl)
   go_wp2_with (refine zsb bG ?_)
   have cF:=(J.setRow (cs':=az U kd size off n (.slice A m c) s (.slice O (D+1) S))).cells;refine bodyPost_ret (v:=.agg (az U kd size off n (.slice A m c) s (.slice O (D+1) S))) (by simp[results,results26,go_sem,cF]) rfl ?_
   have bq:(cE s q1 D++[cZ s q1 D]).length=D+1:=by simp[ed]
   exact⟨Below.setRow bc (by omega) _,U,(.slice O (D+1) S),an.out.2,rfl,_,by rw[bq];exact ar ab fun M h0=>ak _ _ _ _ (fun e0=>by have:=(ce ab M h0).1;exact bL M h0 e0),bF.out⟩
  go_simp;refine I _ _ (V.out _ bM) ?_;clear I K;refine z2W (fun K I=>?_) (fun K I=>?_)
  focus
   go_simp;obtain⟨Y1,hY⟩:=zex (Y.alloc (.cells #[.int .i64 0,.int .i64 2,.int .i64 3,.int .i64 5,.int .i64 6] 3));have a6:Blk Y1 w.heap.size 81 (eZ wh f kd off n size (.slice A m c) s):=by rw[hY];exact bM.alloc _
   have bu:Blk Y1 (w.heap.size+1+1) 78 fP:=by rw[hY];exact bO.alloc _
   have bD:Blk Y1 CB 78 (az 7 8 zf 0 0 (.slice fa fn fc) s (.slice none 0 0)):=by rw[hY];exact bP.alloc _
   have bk:Blk Y1 Y.heap.size 3 #[.int .i64 0,.int .i64 2,.int .i64 3,.int .i64 5,.int .i64 6]:=by rw[hY];exact zbn
   have B1:Zr w Y1:=by rw[hY];exact BD.alloc BD.size _
   rw[<-hY];refine I _ _ (V.out _ a6) ?_;clear I K hY;refine z2X (fun W=>(W.cell? ⟨w.heap.size,1,none⟩=some (.int .u8 f)/\W.cell? ⟨w.heap.size,2,none⟩=some (.int .i64 kd)/\W.cell? ⟨w.heap.size,3,none⟩=some (.int .i64 off)/\W.cell? ⟨w.heap.size,4,none⟩=some (.int .i64 n)/\W.cell? ⟨w.heap.size,5,none⟩=some (.int .i64 size)/\W.cell? ⟨w.heap.size,6,none⟩=some (.slice A m c)/\W.cell? ⟨w.heap.size,7,none⟩=some (.string s))/\W.cell? ⟨Y.heap.size,g5,none⟩=some (.int .i64 U)) (fun _ h=>h.1) ⟨V.out _ a6,(bk.cells g5).trans an.out.1⟩ ?_
   iterate 2 refine ztk ?_
   refine ah (by rfl) fun K I=>?_
   go_simp;have bn:=bQ.out Y1;refine Calls.mono bn ?_;clear bn;rintro e bt ⟨T,D,cb,rfl,bp,-,-,ac⟩;obtain⟨O,S,rfl⟩:=aw ac;have bF:=kD (bR.out _ bp);clear bp;have ca:=bD.lt;have a8:=a6.mD T;have bw:=bu.mD T;have ba:=bD.mD T;have bb:=bk.mD T;have bN:=B1.trans (T.mono B1.size);have zB:=B1.size;have br:∀M,(Value.slice O (D+1) S).ownBlock=some M->M≠CB:=fun M h0=>by have:=(ce ac M h0).1;omega
   have a7:=aI ac zB;have bL:∀M,(Value.slice O (D+1) S).ownBlock=some M->M≠w.heap.size+1+1:=fun M h0=>by have:=(ce ac M h0).1;have:=bu.lt;omega
   refine I _ _ (fun _=>⟨V.out _ a8,(bb.cells g5).trans an.out.1⟩) ?_
   clear I K;refine ah (by rfl) fun K I=>?_
   go_simp;refine I _ _ (fun _=>⟨V.out _ a8,(bb.cells g5).trans an.out.1⟩) ?_
   clear I K;refine ah (by rfl) fun K I=>?_
   have aL:=aF (ty:=78) (vs:=az U kd size off n (.slice A m c) s (.slice O (D+1) S)) ba rfl (by simp[Value.oneCell']) (by kernel_rfl)
   refine zob aL ?_;refine I _ _ (fun h=>absurd h (by decide)) ?_
   clear I K;refine ax ?_;have ao:=ba.setRow (cs':=az U kd size off n (.slice A m c) s (.slice O (D+1) S));have J:=bw.mO (k:=CB) (cs':=az U kd size off n (.slice A m c) s (.slice O (D+1) S)) bU;have bc:=Below.setRow bN bT (az U kd size off n (.slice A m c) s (.slice O (D+1) S));have ab:(bt.setRow CB (az U kd size off n (.slice A m c) s (.slice O (D+1) S))).ownsRow w.heap.size 9 1 (.slice O (D+1) S) (D+1) ((cE s q1 D++[cZ s q1 D]).map .string):=ar a7 fun M h0=>ak _ _ _ _ (br M h0)
   obtain⟨b0,av⟩:=zex (bt.setRow CB (az U kd size off n (.slice A m c) s (.slice O (D+1) S)));rw[<-av]at ao J bc ab |-;clear av aL a7 br ac T;obtain⟨cK,lK⟩:=ao.zc;have lC:=J.lt;have bG:=aF (ty:=78) (vs:=az U kd size off n (.slice A m c) s (.slice O (D+1) S)) J rfl (by simp[Value.oneCell']) (by kernel_rfl)
   go_wp2_with (refine zsb bG ?_)
   have cF:=(J.setRow (cs':=az U kd size off n (.slice A m c) s (.slice O (D+1) S))).cells;refine bodyPost_ret (v:=.agg (az U kd size off n (.slice A m c) s (.slice O (D+1) S))) (by simp[results,results26,go_sem,cF]) rfl ?_
   have bq:(cE s q1 D++[cZ s q1 D]).length=D+1:=by simp[ed]
   exact⟨Below.setRow bc (by omega) _,U,(.slice O (D+1) S),an.out.2,rfl,_,by rw[bq];exact ar ab fun M h0=>ak _ _ _ _ (fun e0=>by have:=(ce ab M h0).1;exact bL M h0 e0),bF.out⟩
  go_simp;have bn:=bQ.out Y;refine Calls.mono bn ?_;clear bn;rintro e Zz ⟨T,D,cb,rfl,bp,-,-,ac⟩;obtain⟨O,S,rfl⟩:=aw ac;have bF:=kD (bR.out _ bp);clear bp;have ca:=bP.lt;have b5:=bM.mD T;have cU:=bO.mD T;have cW:=bP.mD T;have Bz:=BD.trans (T.mono BD.size);have zB:=BD.size;have br:∀M,(Value.slice O (D+1) S).ownBlock=some M->M≠CB:=fun M h0=>by have:=(ce ac M h0).1;omega
  have a7:=aI ac zB;have bL:∀M,(Value.slice O (D+1) S).ownBlock=some M->M≠w.heap.size+1+1:=fun M h0=>by have:=(ce ac M h0).1;have:=bO.lt;omega
  refine I _ _ (V.out _ b5) ?_;clear I K;refine z2X (fun W=>W.cell? ⟨w.heap.size,1,none⟩=some (.int .u8 f)/\W.cell? ⟨w.heap.size,2,none⟩=some (.int .i64 kd)/\W.cell? ⟨w.heap.size,3,none⟩=some (.int .i64 off)/\W.cell? ⟨w.heap.size,4,none⟩=some (.int .i64 n)/\W.cell? ⟨w.heap.size,5,none⟩=some (.int .i64 size)/\W.cell? ⟨w.heap.size,6,none⟩=some (.slice A m c)/\W.cell? ⟨w.heap.size,7,none⟩=some (.string s)) (fun _ h=>h) (V.out _ b5) ?_
  refine ah (by rfl) fun K I=>?_
  go_simp;obtain⟨Yy,hY⟩:=zex (Zz.alloc (.cells #[.int .i64 0,.int .i64 2,.int .i64 3,.int .i64 5,.int .i64 6] 3));have bS:Blk Yy w.heap.size 81 (eZ wh f kd off n size (.slice A m c) s):=by rw[hY];exact b5.alloc _
  have cT:Blk Yy (w.heap.size+1+1) 78 fP:=by rw[hY];exact cU.alloc _
  have co:Blk Yy CB 78 (az 7 8 zf 0 0 (.slice fa fn fc) s (.slice none 0 0)):=by rw[hY];exact cW.alloc _
  have cw:Blk Yy Zz.heap.size 3 #[.int .i64 0,.int .i64 2,.int .i64 3,.int .i64 5,.int .i64 6]:=by rw[hY];exact zbn
  have By:Zr w Yy:=by rw[hY];exact Bz.alloc Bz.size _
  rw[<-hY];have ds:Yy.ownsRow w.heap.size 9 1 (.slice O (D+1) S) (D+1) ((cE s q1 D++[cZ s q1 D]).map .string):=by rw[hY];exact aq a7 ((kF _ _).alloc (kE _) _)
  refine I _ _ (fun _=>V.out _ bS) ?_
  clear I K hY a7;have a7:=ds;have cN:=(cw.cells g5).trans an.out.1;have lN:=cw.lt;refine ah (by rfl) fun K I=>?_
  go_simp;refine I _ _ (fun _=>V.out _ bS) ?_
  clear I K;refine ah (by rfl) fun K I=>?_
  go_simp;refine I _ _ (fun _=>V.out _ bS) ?_
  clear I K;refine ah (by rfl) fun K I=>?_
  go_simp;refine I _ _ (fun _=>V.out _ bS) ?_
  clear I K;refine ah (by rfl) fun K I=>?_
  have aL:=aF (ty:=78) (vs:=az U kd size off n (.slice A m c) s (.slice O (D+1) S)) co rfl (by simp[Value.oneCell']) (by kernel_rfl)
  refine zob aL ?_;refine I _ _ (fun h=>absurd h (by decide)) ?_
  clear I K;refine ax ?_;have ao:=co.setRow (cs':=az U kd size off n (.slice A m c) s (.slice O (D+1) S));have J:=cT.mO (k:=CB) (cs':=az U kd size off n (.slice A m c) s (.slice O (D+1) S)) bU;have bc:=Below.setRow By bT (az U kd size off n (.slice A m c) s (.slice O (D+1) S));have ab:(Yy.setRow CB (az U kd size off n (.slice A m c) s (.slice O (D+1) S))).ownsRow w.heap.size 9 1 (.slice O (D+1) S) (D+1) ((cE s q1 D++[cZ s q1 D]).map .string):=ar a7 fun M h0=>ak _ _ _ _ (br M h0)
  obtain⟨b0,av⟩:=zex (Yy.setRow CB (az U kd size off n (.slice A m c) s (.slice O (D+1) S)));rw[<-av]at ao J bc ab |-;clear av aL a7 br ac T;obtain⟨cK,lK⟩:=ao.zc;have lC:=J.lt;have bG:=aF (ty:=78) (vs:=az U kd size off n (.slice A m c) s (.slice O (D+1) S)) J rfl (by simp[Value.oneCell']) (by kernel_rfl)
  go_wp2_with (refine zsb bG ?_)
  have cF:=(J.setRow (cs':=az U kd size off n (.slice A m c) s (.slice O (D+1) S))).cells;refine bodyPost_ret (v:=.agg (az U kd size off n (.slice A m c) s (.slice O (D+1) S))) (by simp[results,results26,go_sem,cF]) rfl ?_
  have bq:(cE s q1 D++[cZ s q1 D]).length=D+1:=by simp[ed]
  exact⟨Below.setRow bc (by omega) _,U,(.slice O (D+1) S),an.out.2,rfl,_,by rw[bq];exact ar ab fun M h0=>ak _ _ _ _ (fun e0=>by have:=(ce ab M h0).1;exact bL M h0 e0),bF.out⟩
end Go.Proofs.YtejmknghkbobnaaGreatDoor
