import Derived.Test.YtejmknghkbobnaaGreatDoorPart38
set_option linter.all false
set_option maxRecDepth 100000
set_option maxHeartbeats 0
namespace Go.Proofs.YtejmknghkbobnaaGreatDoor
open Go.Proofs.Tryz
open Go.RowKit Go.Maps
theorem z6T (a0 a1 T c:Option Addr)(n0 k0 n1 k1 V U D A:Nat)(z0 z1:Int)(wh f kd off n size:Int)(xl:Value)(s:ByteArray)(ck cz co cn:Int)(cl:Value)(cs:ByteArray)(cp pv:Value)(t:ByteArray)(z:Int)(hf:0<=f/\f<=255)(a7:0<=wh/\wh<=255)(a6:wh % 8≠7)(f2:Nat)(av:f % 2=f2)(w:World):
  Calls prog 31 #[.agg (aK (.slice a0 n0 k0) (.slice a1 n1 k1) (.slice T V U) z0 z1),.agg (eZ wh f kd off n size xl s),.agg (az 0 ck cz co cn cl cs cp),.agg (bH (.slice c D A) pv t z 0)] w fun e w'=>
   e=.returned (.agg (((aK (.slice a0 n0 k0) (.slice a1 n1 k1) (.slice T V U) z0 z1).setIfInBounds f2 (.slice c D A)).setIfInBounds (3+f2) (.int .i64 z)))/\Zr w w':=by
 obtain⟨J,hA⟩:=zex (((((w.alloc (.cells (aK (.slice a0 n0 k0) (.slice a1 n1 k1) (.slice T V U) z0 z1) 75)).alloc (.cells (eZ wh f kd off n size xl s) 81)).alloc (.cells (az 0 ck cz co cn cl cs cp) 78)).alloc (.cells (bH (.slice c D A) pv t z 0) 83)).alloc (.cells (aK (.slice none 0 0) (.slice none 0 0) (.slice none 0 0) 0 0) 75));have bB:Blk J w.heap.size 75 (aK (.slice a0 n0 k0) (.slice a1 n1 k1) (.slice T V U) z0 z1):=by rw[hA];exact zbn
 have bX:Blk J (w.heap.size+1) 81 (eZ wh f kd off n size xl s):=by rw[hA];exact zbn
 have bC:Blk J (w.heap.size+1+1) 78 (az 0 ck cz co cn cl cs cp):=by rw[hA];exact zbn
 have bN:Blk J (w.heap.size+1+1+1) 83 (bH (.slice c D A) pv t z 0):=by rw[hA];exact zbn
 have bR:Blk J (w.heap.size+1+1+1+1) 75 (aK (.slice none 0 0) (.slice none 0 0) (.slice none 0 0) 0 0):=by rw[hA];exact zbn
 have BA:Zr w J:=by rw[hA];exact zgr
 have h1:f.tmod 2=f2:=by rw[<-av];exact lI hf.1
 have h3:IntKind.u8.wrap (f2:Int)=f2:=by rw[IntKind.wrap_u8];omega
 have h5:IntKind.i64.wrap (f2:Int)=f2:=by rw[kW];omega
 have g1:wh.tmod 8=wh % 8:=lI a7.1;have g3:IntKind.u8.wrap (wh % 8)=wh % 8:=by rw[IntKind.wrap_u8];omega
 have g7:(wh % 8==7)=false:=by simpa using a6
 have aL:f2=0\/f2=1:=by omega
 obtain⟨cB,lB⟩:=bB.zc;obtain⟨cX,lX⟩:=bX.zc;obtain⟨cC,lC⟩:=bC.zc;obtain⟨cN,lN⟩:=bN.zc;clear hf a7 a6 av;go_enter func31,ntmps31
 go_wp2_with fail
 rw[<-hA];clear hA;have ao:∀W,Blk W (w.heap.size+1+1+1) 83 (bH (.slice c D A) pv t z 0)->Blk W (w.heap.size+1+1) 78 (az 0 ck cz co cn cl cs cp)->W.cell? ⟨w.heap.size+1+1+1,0,none⟩=some (.slice c D A)/\W.cell? ⟨w.heap.size+1+1+1,3,none⟩=some (.int .i64 z)/\W.cell? ⟨w.heap.size+1+1,4,none⟩=some (.int .i64 cn):=fun W b b'=>⟨(b.cells 0).trans rfl,(b.cells 3).trans rfl,(b'.cells 4).trans rfl⟩
 have M:=kD ao;have ac:=bB.drew;have S:=bN.drew;have O:=bC.drew;have an:=bR.drew;clear ao;rcases aL with rfl|rfl
 focus
  go_wp2_with fail
  clear cX lX cC lC;have fB:=bB.free;refine zrm [.take 0,.take 1,.take 2,.take 3,.take 4,.take 5,.take 6,.take 9,.take 7,.one 8,.take 10,.one 11] 12 (fun W=>W.cell? ⟨w.heap.size+1+1+1,0,none⟩=some (.slice c D A)/\W.cell? ⟨w.heap.size+1+1+1,3,none⟩=some (.int .i64 z)/\W.cell? ⟨w.heap.size+1+1,4,none⟩=some (.int .i64 cn)) (M.out _ S O) ?_
  simp only[kR,kS,Ms.fill,kT,kV];iterate 9 refine ztk ?_
  refine ah (by rfl) fun K hK=>?_
  go_simp;refine hK _ _ (fun _=>M.out _ (S.far (p:=⟨w.heap.size,_,none⟩) (by simp<;>omega) _) (O.far (p:=⟨w.heap.size,_,none⟩) (by simp<;>omega) _)) ?_
  clear hK K;refine ztk ?_
  refine ah (by rfl) fun K hK=>?_
  go_simp;refine hK _ _ (fun _=>M.out _ ((S.far (p:=⟨w.heap.size,_,none⟩) (by simp<;>omega) _).far (p:=⟨w.heap.size,_,none⟩) (by simp<;>omega) _) ((O.far (p:=⟨w.heap.size,_,none⟩) (by simp<;>omega) _).far (p:=⟨w.heap.size,_,none⟩) (by simp<;>omega) _)) ?_
  clear hK K;refine ax ?_;have b2:Blk ((J.drew.setCell ⟨w.heap.size,0,none⟩ (.slice c D A)).setCell ⟨w.heap.size,3,none⟩ (.int .i64 z)) w.heap.size 75 (aK (.slice c D A) (.slice a1 n1 k1) (.slice T V U) z z1):=(ac.mG 0 (.slice c D A)).mG 3 (.int .i64 z);have r2:Blk ((J.drew.setCell ⟨w.heap.size,0,none⟩ (.slice c D A)).setCell ⟨w.heap.size,3,none⟩ (.int .i64 z)) (w.heap.size+1+1+1+1) 75 (aK (.slice none 0 0) (.slice none 0 0) (.slice none 0 0) 0 0):=(an.far (p:=⟨w.heap.size,_,none⟩) (by simp<;>omega) _).far (p:=⟨w.heap.size,_,none⟩) (by simp<;>omega) _
  have B2:Zr w ((J.drew.setCell ⟨w.heap.size,0,none⟩ (.slice c D A)).setCell ⟨w.heap.size,3,none⟩ (.int .i64 z)):=(BA.drew.setCell (p:=⟨w.heap.size,0,none⟩) (kE _) _).setCell (p:=⟨w.heap.size,3,none⟩) (kE _) _;have Y:=aF (ty:=75) (vs:=aK (.slice c D A) (.slice a1 n1 k1) (.slice T V U) z z1) r2 rfl (by simp[Value.oneCell']) (by kernel_rfl)
  have lR:=r2.lt;obtain⟨V2,I⟩:=zex ((J.drew.setCell ⟨w.heap.size,0,none⟩ (.slice c D A)).setCell ⟨w.heap.size,3,none⟩ (.int .i64 z));have ab:V2=(((J.setCell ⟨w.heap.size,0,none⟩ (.slice c D A)).setCell ⟨w.heap.size,3,none⟩ (.int .i64 z))).drew:=I;have c2:=b2.cells;rw[<-I]at c2 Y B2 r2 lR;first|rw[<-I]|rw[<-ab]
  have l2:=b2.lt;rw[<-I]at l2;clear I ab b2 cB lB cN lN fB;go_wp2_with (refine zsb Y ?_)
  have cF:=(r2.setRow (cs':=aK (.slice c D A) (.slice a1 n1 k1) (.slice T V U) z z1)).cells;refine bodyPost_ret (v:=.agg (aK (.slice c D A) (.slice a1 n1 k1) (.slice T V U) z z1)) (by simp[results,results31,go_sem,cF]) rfl ?_
  exact⟨rfl,Below.setRow B2 (by omega) _⟩
 focus
  go_wp2_with fail
  clear cX lX cC lC;have fB:=bB.free;refine zrm [.take 0,.take 1,.take 2,.take 3,.take 4,.take 5,.take 6,.take 9,.take 7,.one 8,.take 10,.one 11] 12 (fun W=>W.cell? ⟨w.heap.size+1+1+1,0,none⟩=some (.slice c D A)/\W.cell? ⟨w.heap.size+1+1+1,3,none⟩=some (.int .i64 z)/\W.cell? ⟨w.heap.size+1+1,4,none⟩=some (.int .i64 cn)) (M.out _ S O) ?_
  simp only[kR,kS,Ms.fill,kT,kV];iterate 9 refine ztk ?_
  refine ah (by rfl) fun K hK=>?_
  go_simp;refine hK _ _ (fun _=>M.out _ (S.far (p:=⟨w.heap.size,_,none⟩) (by simp<;>omega) _) (O.far (p:=⟨w.heap.size,_,none⟩) (by simp<;>omega) _)) ?_
  clear hK K;refine ztk ?_
  refine ah (by rfl) fun K hK=>?_
  go_simp;refine hK _ _ (fun _=>M.out _ ((S.far (p:=⟨w.heap.size,_,none⟩) (by simp<;>omega) _).far (p:=⟨w.heap.size,_,none⟩) (by simp<;>omega) _) ((O.far (p:=⟨w.heap.size,_,none⟩) (by simp<;>omega) _).far (p:=⟨w.heap.size,_,none⟩) (by simp<;>omega) _)) ?_
  clear hK K;refine ax ?_;have b2:Blk ((J.drew.setCell ⟨w.heap.size,1,none⟩ (.slice c D A)).setCell ⟨w.heap.size,4,none⟩ (.int .i64 z)) w.heap.size 75 (aK (.slice a0 n0 k0) (.slice c D A) (.slice T V U) z0 z):=(ac.mG 1 (.slice c D A)).mG 4 (.int .i64 z);have r2:Blk ((J.drew.setCell ⟨w.heap.size,1,none⟩ (.slice c D A)).setCell ⟨w.heap.size,4,none⟩ (.int .i64 z)) (w.heap.size+1+1+1+1) 75 (aK (.slice none 0 0) (.slice none 0 0) (.slice none 0 0) 0 0):=(an.far (p:=⟨w.heap.size,_,none⟩) (by simp<;>omega) _).far (p:=⟨w.heap.size,_,none⟩) (by simp<;>omega) _
  have B2:Zr w ((J.drew.setCell ⟨w.heap.size,1,none⟩ (.slice c D A)).setCell ⟨w.heap.size,4,none⟩ (.int .i64 z)):=(BA.drew.setCell (p:=⟨w.heap.size,1,none⟩) (kE _) _).setCell (p:=⟨w.heap.size,4,none⟩) (kE _) _;have Y:=aF (ty:=75) (vs:=aK (.slice a0 n0 k0) (.slice c D A) (.slice T V U) z0 z) r2 rfl (by simp[Value.oneCell']) (by kernel_rfl)
  have lR:=r2.lt;obtain⟨V2,I⟩:=zex ((J.drew.setCell ⟨w.heap.size,1,none⟩ (.slice c D A)).setCell ⟨w.heap.size,4,none⟩ (.int .i64 z));have ab:V2=(((J.setCell ⟨w.heap.size,1,none⟩ (.slice c D A)).setCell ⟨w.heap.size,4,none⟩ (.int .i64 z))).drew:=I;have c2:=b2.cells;rw[<-I]at c2 Y B2 r2 lR;first|rw[<-I]|rw[<-ab]
  have l2:=b2.lt;rw[<-I]at l2;clear I ab b2 cB lB cN lN fB;go_wp2_with (refine zsb Y ?_)
  have cF:=(r2.setRow (cs':=aK (.slice a0 n0 k0) (.slice c D A) (.slice T V U) z0 z)).cells;refine bodyPost_ret (v:=.agg (aK (.slice a0 n0 k0) (.slice c D A) (.slice T V U) z0 z)) (by simp[results,results31,go_sem,cF]) rfl ?_
  exact⟨rfl,Below.setRow B2 (by omega) _⟩
theorem zag (a0 a1 T c:Option Addr)(n0 k0 n1 k1 V U D A:Nat)(z0 z1:Int)(wh f kd off n size:Int)(xl:Value)(s:ByteArray)(ck cz co cn:Int)(cl:Value)(cs:ByteArray)(cp pv:Value)(t:ByteArray)(z:Int)(hf:0<=f/\f<=255)(a7:0<=wh/\wh<=255)(a6:wh % 8≠7)(f2:Nat)(av:f % 2=f2)(w:World):
  Calls prog 31 #[.agg (aK (.slice a0 n0 k0) (.slice a1 n1 k1) (.slice T V U) z0 z1),.agg (eZ wh f kd off n size xl s),.agg (az 2 ck cz co cn cl cs cp),.agg (bH (.slice c D A) pv t z 0)] w fun e w'=>
   e=.returned (.agg (((aK (.slice a0 n0 k0) (.slice a1 n1 k1) (.slice T V U) z0 z1).setIfInBounds f2 (.slice c D A)).setIfInBounds (3+f2) (.int .i64 cn)))/\Zr w w':=by
 obtain⟨J,hA⟩:=zex (((((w.alloc (.cells (aK (.slice a0 n0 k0) (.slice a1 n1 k1) (.slice T V U) z0 z1) 75)).alloc (.cells (eZ wh f kd off n size xl s) 81)).alloc (.cells (az 2 ck cz co cn cl cs cp) 78)).alloc (.cells (bH (.slice c D A) pv t z 0) 83)).alloc (.cells (aK (.slice none 0 0) (.slice none 0 0) (.slice none 0 0) 0 0) 75));have bB:Blk J w.heap.size 75 (aK (.slice a0 n0 k0) (.slice a1 n1 k1) (.slice T V U) z0 z1):=by rw[hA];exact zbn
 have bX:Blk J (w.heap.size+1) 81 (eZ wh f kd off n size xl s):=by rw[hA];exact zbn
 have bC:Blk J (w.heap.size+1+1) 78 (az 2 ck cz co cn cl cs cp):=by rw[hA];exact zbn
 have bN:Blk J (w.heap.size+1+1+1) 83 (bH (.slice c D A) pv t z 0):=by rw[hA];exact zbn
 have bR:Blk J (w.heap.size+1+1+1+1) 75 (aK (.slice none 0 0) (.slice none 0 0) (.slice none 0 0) 0 0):=by rw[hA];exact zbn
 have BA:Zr w J:=by rw[hA];exact zgr
 have h1:f.tmod 2=f2:=by rw[<-av];exact lI hf.1
 have h3:IntKind.u8.wrap (f2:Int)=f2:=by rw[IntKind.wrap_u8];omega
 have h5:IntKind.i64.wrap (f2:Int)=f2:=by rw[kW];omega
 have g1:wh.tmod 8=wh % 8:=lI a7.1;have g3:IntKind.u8.wrap (wh % 8)=wh % 8:=by rw[IntKind.wrap_u8];omega
 have g7:(wh % 8==7)=false:=by simpa using a6
 have aL:f2=0\/f2=1:=by omega
 obtain⟨cB,lB⟩:=bB.zc;obtain⟨cX,lX⟩:=bX.zc;obtain⟨cC,lC⟩:=bC.zc;obtain⟨cN,lN⟩:=bN.zc;clear hf a7 a6 av;go_enter func31,ntmps31
 go_wp2_with fail
 rw[<-hA];clear hA;have ao:∀W,Blk W (w.heap.size+1+1+1) 83 (bH (.slice c D A) pv t z 0)->Blk W (w.heap.size+1+1) 78 (az 2 ck cz co cn cl cs cp)->W.cell? ⟨w.heap.size+1+1+1,0,none⟩=some (.slice c D A)/\W.cell? ⟨w.heap.size+1+1+1,3,none⟩=some (.int .i64 z)/\W.cell? ⟨w.heap.size+1+1,4,none⟩=some (.int .i64 cn):=fun W b b'=>⟨(b.cells 0).trans rfl,(b.cells 3).trans rfl,(b'.cells 4).trans rfl⟩
 have M:=kD ao;have ac:=bB.drew;have S:=bN.drew;have O:=bC.drew;have an:=bR.drew;clear ao;rcases aL with rfl|rfl
 focus
  go_wp2_with fail
  clear cX lX cC lC;have fB:=bB.free;refine zrm [.take 0,.take 1,.take 2,.take 3,.take 4,.take 5,.take 6,.take 9,.take 7,.one 8,.take 10,.one 11] 12 (fun W=>W.cell? ⟨w.heap.size+1+1+1,0,none⟩=some (.slice c D A)/\W.cell? ⟨w.heap.size+1+1+1,3,none⟩=some (.int .i64 z)/\W.cell? ⟨w.heap.size+1+1,4,none⟩=some (.int .i64 cn)) (M.out _ S O) ?_
  simp only[kR,kS,Ms.fill,kT,kV];iterate 9 refine ztk ?_
  refine ah (by rfl) fun K hK=>?_
  go_simp;refine hK _ _ (fun _=>M.out _ (S.far (p:=⟨w.heap.size,_,none⟩) (by simp<;>omega) _) (O.far (p:=⟨w.heap.size,_,none⟩) (by simp<;>omega) _)) ?_
  clear hK K;refine ztk ?_
  refine ah (by rfl) fun K hK=>?_
  go_simp;refine hK _ _ (fun _=>M.out _ ((S.far (p:=⟨w.heap.size,_,none⟩) (by simp<;>omega) _).far (p:=⟨w.heap.size,_,none⟩) (by simp<;>omega) _) ((O.far (p:=⟨w.heap.size,_,none⟩) (by simp<;>omega) _).far (p:=⟨w.heap.size,_,none⟩) (by simp<;>omega) _)) ?_
  clear hK K;refine ax ?_;have b2:Blk ((J.drew.setCell ⟨w.heap.size,0,none⟩ (.slice c D A)).setCell ⟨w.heap.size,3,none⟩ (.int .i64 cn)) w.heap.size 75 (aK (.slice c D A) (.slice a1 n1 k1) (.slice T V U) cn z1):=(ac.mG 0 (.slice c D A)).mG 3 (.int .i64 cn);have r2:Blk ((J.drew.setCell ⟨w.heap.size,0,none⟩ (.slice c D A)).setCell ⟨w.heap.size,3,none⟩ (.int .i64 cn)) (w.heap.size+1+1+1+1) 75 (aK (.slice none 0 0) (.slice none 0 0) (.slice none 0 0) 0 0):=(an.far (p:=⟨w.heap.size,_,none⟩) (by simp<;>omega) _).far (p:=⟨w.heap.size,_,none⟩) (by simp<;>omega) _
  have B2:Zr w ((J.drew.setCell ⟨w.heap.size,0,none⟩ (.slice c D A)).setCell ⟨w.heap.size,3,none⟩ (.int .i64 cn)):=(BA.drew.setCell (p:=⟨w.heap.size,0,none⟩) (kE _) _).setCell (p:=⟨w.heap.size,3,none⟩) (kE _) _;have Y:=aF (ty:=75) (vs:=aK (.slice c D A) (.slice a1 n1 k1) (.slice T V U) cn z1) r2 rfl (by simp[Value.oneCell']) (by kernel_rfl)
  have lR:=r2.lt;obtain⟨V2,I⟩:=zex ((J.drew.setCell ⟨w.heap.size,0,none⟩ (.slice c D A)).setCell ⟨w.heap.size,3,none⟩ (.int .i64 cn));have ab:V2=(((J.setCell ⟨w.heap.size,0,none⟩ (.slice c D A)).setCell ⟨w.heap.size,3,none⟩ (.int .i64 cn))).drew:=I;have c2:=b2.cells;rw[<-I]at c2 Y B2 r2 lR;first|rw[<-I]|rw[<-ab]
  have l2:=b2.lt;rw[<-I]at l2;clear I ab b2 cB lB cN lN fB;go_wp2_with (refine zsb Y ?_)
  have cF:=(r2.setRow (cs':=aK (.slice c D A) (.slice a1 n1 k1) (.slice T V U) cn z1)).cells;refine bodyPost_ret (v:=.agg (aK (.slice c D A) (.slice a1 n1 k1) (.slice T V U) cn z1)) (by simp[results,results31,go_sem,cF]) rfl ?_
  exact⟨rfl,Below.setRow B2 (by omega) _⟩
 focus
  go_wp2_with fail
  clear cX lX cC lC;have fB:=bB.free;refine zrm [.take 0,.take 1,.take 2,.take 3,.take 4,.take 5,.take 6,.take 9,.take 7,.one 8,.take 10,.one 11] 12 (fun W=>W.cell? ⟨w.heap.size+1+1+1,0,none⟩=some (.slice c D A)/\W.cell? ⟨w.heap.size+1+1+1,3,none⟩=some (.int .i64 z)/\W.cell? ⟨w.heap.size+1+1,4,none⟩=some (.int .i64 cn)) (M.out _ S O) ?_
  simp only[kR,kS,Ms.fill,kT,kV];iterate 9 refine ztk ?_
  refine ah (by rfl) fun K hK=>?_
  go_simp;refine hK _ _ (fun _=>M.out _ (S.far (p:=⟨w.heap.size,_,none⟩) (by simp<;>omega) _) (O.far (p:=⟨w.heap.size,_,none⟩) (by simp<;>omega) _)) ?_
  clear hK K;refine ztk ?_
  refine ah (by rfl) fun K hK=>?_
  go_simp;refine hK _ _ (fun _=>M.out _ ((S.far (p:=⟨w.heap.size,_,none⟩) (by simp<;>omega) _).far (p:=⟨w.heap.size,_,none⟩) (by simp<;>omega) _) ((O.far (p:=⟨w.heap.size,_,none⟩) (by simp<;>omega) _).far (p:=⟨w.heap.size,_,none⟩) (by simp<;>omega) _)) ?_
  clear hK K;refine ax ?_;have b2:Blk ((J.drew.setCell ⟨w.heap.size,1,none⟩ (.slice c D A)).setCell ⟨w.heap.size,4,none⟩ (.int .i64 cn)) w.heap.size 75 (aK (.slice a0 n0 k0) (.slice c D A) (.slice T V U) z0 cn):=(ac.mG 1 (.slice c D A)).mG 4 (.int .i64 cn);have r2:Blk ((J.drew.setCell ⟨w.heap.size,1,none⟩ (.slice c D A)).setCell ⟨w.heap.size,4,none⟩ (.int .i64 cn)) (w.heap.size+1+1+1+1) 75 (aK (.slice none 0 0) (.slice none 0 0) (.slice none 0 0) 0 0):=(an.far (p:=⟨w.heap.size,_,none⟩) (by simp<;>omega) _).far (p:=⟨w.heap.size,_,none⟩) (by simp<;>omega) _
  have B2:Zr w ((J.drew.setCell ⟨w.heap.size,1,none⟩ (.slice c D A)).setCell ⟨w.heap.size,4,none⟩ (.int .i64 cn)):=(BA.drew.setCell (p:=⟨w.heap.size,1,none⟩) (kE _) _).setCell (p:=⟨w.heap.size,4,none⟩) (kE _) _;have Y:=aF (ty:=75) (vs:=aK (.slice a0 n0 k0) (.slice c D A) (.slice T V U) z0 cn) r2 rfl (by simp[Value.oneCell']) (by kernel_rfl)
  have lR:=r2.lt;obtain⟨V2,I⟩:=zex ((J.drew.setCell ⟨w.heap.size,1,none⟩ (.slice c D A)).setCell ⟨w.heap.size,4,none⟩ (.int .i64 cn));have ab:V2=(((J.setCell ⟨w.heap.size,1,none⟩ (.slice c D A)).setCell ⟨w.heap.size,4,none⟩ (.int .i64 cn))).drew:=I;have c2:=b2.cells;rw[<-I]at c2 Y B2 r2 lR;first|rw[<-I]|rw[<-ab]
  have l2:=b2.lt;rw[<-I]at l2;clear I ab b2 cB lB cN lN fB;go_wp2_with (refine zsb Y ?_)
  have cF:=(r2.setRow (cs':=aK (.slice a0 n0 k0) (.slice c D A) (.slice T V U) z0 cn)).cells;refine bodyPost_ret (v:=.agg (aK (.slice a0 n0 k0) (.slice c D A) (.slice T V U) z0 cn)) (by simp[results,results31,go_sem,cF]) rfl ?_
  exact⟨rfl,Below.setRow B2 (by omega) _⟩
theorem z6S (a0 K a2 S:Option Addr)(n0 M V O n2 k2 U T:Nat)(z0 Y:Int)(c f kd off n size:Int)(xl:Value)(s:ByteArray)(cw ck cz co cn:Int)(cl:Value)(cs:ByteArray)(cp pv:Value)(t:ByteArray)(z e0:Int)(hf:0<=f/\f<=255)(J:0<=c/\c<=255)(I:c % 8≠7)(w:World):
  Calls prog 31 #[.agg (aK (.slice a0 n0 M) (.slice K V O) (.slice a2 n2 k2) z0 Y),.agg (eZ c f kd off n size xl s),.agg (az 5 ck cz co cn cl cs cp),.agg (bH (.slice S U T) pv t z 0)] w fun e w'=>
   e=.returned (.agg (aK (.slice a0 n0 M) (.slice K V O) (.slice S U T) z0 Y))/\Zr w w':=by
 obtain⟨A,D⟩:∃A:Nat,f % 2=A:=⟨(f % 2).toNat,by omega⟩
 have h1:f.tmod 2=A:=by rw[<-D];exact lI hf.1
 have h3:IntKind.u8.wrap (A:Int)=A:=by rw[IntKind.wrap_u8];omega
 have h5:IntKind.i64.wrap (A:Int)=A:=by rw[kW];omega
 have g1:c.tmod 8=c % 8:=lI J.1;have g3:IntKind.u8.wrap (c % 8)=c % 8:=by rw[IntKind.wrap_u8];omega
 have g7:(c % 8==7)=false:=by simpa using I
 clear hf J I D;go_enter func31,ntmps31
 go_wp2_with fail
 refine bodyPost_ret (v:=.agg (aK (.slice a0 n0 M) (.slice K V O) (.slice S U T) z0 Y)) (by simp[results,results31,go_sem]) rfl ?_
 exact⟨rfl,zgr⟩
theorem z3X (a0 O S la:Option Addr)(n0 T Y U n2 V ln lk:Nat)(z0 z1:Int)(A f kd off n size:Int)(xl:Value)(s:ByteArray)(I ck cz co cn:Int)(cl:Value)(cs:ByteArray)(cp pv:Value)(t:ByteArray)(z e0:Int)(hf:0<=f/\f<=255)(M:0<=A/\A<=255)(K:A % 8≠7)(c:I=3\/I=6)(w:World):
  Calls prog 31 #[.agg (aK (.slice a0 n0 T) (.slice O Y U) (.slice S n2 V) z0 z1),.agg (eZ A f kd off n size xl s),.agg (az I ck cz co cn cl cs cp),.agg (bH (.slice la ln lk) pv t z 0)] w fun e w'=>
   e=.returned (.agg ((aK (.slice a0 n0 T) (.slice O Y U) (.slice S n2 V) z0 z1)))/\Zr w w':=by
 obtain⟨D,J⟩:∃D:Nat,f % 2=D:=⟨(f % 2).toNat,by omega⟩
 have h1:f.tmod 2=D:=by rw[<-J];exact lI hf.1
 have h3:IntKind.u8.wrap (D:Int)=D:=by rw[IntKind.wrap_u8];omega
 have h5:IntKind.i64.wrap (D:Int)=D:=by rw[kW];omega
 have g1:A.tmod 8=A % 8:=lI M.1;have g3:IntKind.u8.wrap (A % 8)=A % 8:=by rw[IntKind.wrap_u8];omega
 have g7:(A % 8==7)=false:=by simpa using K
 have q0:(I==0)=false:=by rcases c with rfl|rfl<;>rfl
 have q2:(I==2)=false:=by rcases c with rfl|rfl<;>rfl
 have q5:(I==5)=false:=by rcases c with rfl|rfl<;>rfl
 clear hf M K J c;go_enter func31,ntmps31
 go_wp2_with fail
 refine bodyPost_ret (v:=.agg ((aK (.slice a0 n0 T) (.slice O Y U) (.slice S n2 V) z0 z1))) (by simp[results,results31,go_sem]) rfl ?_
 exact⟨rfl,zgr⟩
theorem zah (a0 J K la:Option Addr)(n0 O U S V T ln lk:Nat)(z0 Y:Int)(A f kd off n size:Int)(xl:Value)(s:ByteArray)(cw ck cz co cn:Int)(cl:Value)(cs:ByteArray)(cp pv:Value)(t:ByteArray)(z M:Int)(hf:0<=f/\f<=255)(I:0<=A/\A<=255)(he:M≠0)(w:World):
  Calls prog 31 #[.agg (aK (.slice a0 n0 O) (.slice J U S) (.slice K V T) z0 Y),.agg (eZ A f kd off n size xl s),.agg (az cw ck cz co cn cl cs cp),.agg (bH (.slice la ln lk) pv t z M)] w fun e w'=>
   e=.returned (.agg ((aK (.slice a0 n0 O) (.slice J U S) (.slice K V T) z0 Y)))/\Zr w w':=by
 obtain⟨c,D⟩:∃c:Nat,f % 2=c:=⟨(f % 2).toNat,by omega⟩
 have h1:f.tmod 2=c:=by rw[<-D];exact lI hf.1
 have h3:IntKind.u8.wrap (c:Int)=c:=by rw[IntKind.wrap_u8];omega
 have h5:IntKind.i64.wrap (c:Int)=c:=by rw[kW];omega
 have g1:A.tmod 8=A % 8:=lI I.1;have g3:IntKind.u8.wrap (A % 8)=A % 8:=by rw[IntKind.wrap_u8];omega
 have qe:(M != 0)=true:=by simpa using he
 clear hf I D he;go_enter func31,ntmps31
 go_wp2_with fail
 refine bodyPost_ret (v:=.agg ((aK (.slice a0 n0 O) (.slice J U S) (.slice K V T) z0 Y))) (by simp[results,results31,go_sem]) rfl ?_
 exact⟨rfl,zgr⟩
def z7U (w:World)(C:Int)(L:Value)(z off n:Int)(lv:Value)(s:ByteArray)(q1:Nat)(e:Ending)(w':World):Prop:=
 Zr w w'/\(((C=0\/C=1)/\e=.returned (.agg (az 0 8 z (off % (z+1)) 0 L s (.slice none 0 0))))\/(C=2/\e=.returned (.agg (az 2 8 z 0 (n % 800) L s (.slice none 0 0))))\/((C=3\/C=4)/\e=.returned (.agg (az 3 8 z (off % (z+1)) (n % 800) L s (.slice none 0 0)))) \/
  ((C=5\/C=6)/\∃kk pv,e=.returned (.agg (az C 7 z 0 0 lv s pv))/\q1*kk<=s.size/\(cZ s q1 kk).size<=q1/\(kk=0\/0<(cZ s q1 kk).size)/\w'.ownsRow w.heap.size 9 1 pv (kk+1) ((cE s q1 kk++[cZ s q1 kk]).map .string)))
theorem zcE (bk:Array Value)(T a2:Option Addr)(nL U n2 k2:Nat)(z wh f kd off n size:Int)(xl:Value)(s:ByteArray)(b9:s.size<=1000)(hz:0<=z/\z<=10000)(bc:-9223372036854775808<=off/\off<=9223372036854775807)(hn:-9223372036854775808<=n/\n<=9223372036854775807)(bS:-9223372036854775808<=size/\size<=9223372036854775807)
  (hf:0<=f/\f<=255) (bT:0<=wh/\wh<=255) (C:Int) (hC:wh % 8=C) (bX:C<7) (f2:Nat) (bP:f % 2=f2) (hL:bk[f2]?=some (.slice T nL U)) (hZ:bk[3+f2]?=some (.int .i64 z)) (h2:bk[2]?=some (.slice a2 n2 k2)) (w:World):
  Calls prog 26 #[.agg (eZ wh f kd off n size xl s),.agg bk] w (z7U w C (.slice T nL U) z off n (.slice a2 n2 k2) s (1+size % 97).toNat):=by
 obtain⟨q,hq⟩:∃q:Nat,size % 97=q:=⟨(size % 97).toNat,by omega⟩
 obtain⟨q1,bQ⟩:∃q1:Nat,q1=1+q:=⟨_,rfl⟩;rw[show (1+size % 97).toNat=q1 from by omega]
 have bO:∀W,Calls prog 80 #[.string s,.int .i64 (1+(q:Int))] W (z2i s q1 W):=fun W=>by
  have h:=z8n s (by omega) q1 (by omega) W
  rwa [show (q1:Int)=1+(q:Int)from by omega]at h
 have h9:IntKind.i64.wrap (1+(q:Int))=1+(q:Int):=by rw[kW];omega
 have bF:=fun W=>iy size 97 bS (by omega) W
 rw[hq]at bF;have bJ:=kD bO;have bL:=kD bF;have b7:=kD bQ;have bp:=kD fun W=>iy off (z+1) bc (by omega) W
 have bq:=kD fun W=>iy n 800 hn (by omega) W
 have b8:IntKind.i64.wrap (z+1)=z+1:=by rw[kW];omega
 clear bO bF hq bQ bS bc hn;obtain⟨wA,hA⟩:=zex (((w.alloc (.cells (eZ wh f kd off n size xl s) 81)).alloc (.cells bk 75)).alloc (.cells fP 78));have J:Blk wA w.heap.size 81 (eZ wh f kd off n size xl s):=by rw[hA];exact zbn
 have I:Blk wA (w.heap.size+1) 75 bk:=by rw[hA];exact zbn
 have bC:Blk wA (w.heap.size+1+1) 78 fP:=by rw[hA];exact zbn
 have BA:Zr w wA:=by rw[hA];exact zgr
 have bU:wA.heap.size=w.heap.size+1+1+1:=by rw[hA];simp
 have h1:f.tmod 2=f2:=by rw[<-bP];exact lI hf.1
 have g1:wh.tmod 8=C:=by rw[<-hC];exact lI bT.1
 have h3:IntKind.u8.wrap (f2:Int)=f2:=by rw[IntKind.wrap_u8];omega
 have h5:IntKind.i64.wrap (f2:Int)=f2:=by rw[kW];omega
 have g3:IntKind.u8.wrap C=C:=by rw[IntKind.wrap_u8];omega
 have g5:IntKind.i64.wrap C=C:=by rw[kW];omega
 have b4:(0:Int)<=f2:=by omega
 have bW:0<=C:=by omega
 have b6:(f2:Int)<2:=by omega
 have b5:(f2:Int)<3:=by omega
 have hS:∀W,Blk W w.heap.size 81 (eZ wh f kd off n size xl s)->Blk W (w.heap.size+1) 75 bk->W.cell? ⟨w.heap.size,0,none⟩=some (.int .u8 wh)/\W.cell? ⟨w.heap.size,7,none⟩=some (.string s)/\W.cell? ⟨w.heap.size+1,f2,none⟩=some (.slice T nL U)/\W.cell? ⟨w.heap.size+1,2,none⟩=some (.slice a2 n2 k2)/\W.cell? ⟨w.heap.size,5,none⟩=some (.int .i64 size)/\W.cell? ⟨w.heap.size,4,none⟩=some (.int .i64 n)/\W.cell? ⟨w.heap.size,3,none⟩=some (.int .i64 off):=fun W b1 b2=>⟨(b1.cells 0).trans rfl,(b1.cells 7).trans rfl,(b2.cells f2).trans hL,(b2.cells 2).trans h2,(b1.cells 5).trans rfl,(b1.cells 4).trans rfl,(b1.cells 3).trans rfl⟩
 have HS:=kD hS;obtain⟨cA,lA⟩:=J.zc;have cB:=(I.cells (3+f2)).trans hZ;have lB:=I.lt;have bM:=kD bU;clear hS hf bT hC bP bU;go_enter func26,ntmps26
 go_wp2_with fail
 rw[<-hA];clear hA;go_wp2_with fail
 clear cA lA cB lB;refine zrm [.take 0,.take 1,.take 2,.take 3,.take 4,.take 5,.take 6,.take 7,.take 8,.take 9,.take 10,.take 11,.one 12,.one 13] 13 (fun W=>W.cell? ⟨w.heap.size,0,none⟩=some (.int .u8 wh)/\W.cell? ⟨w.heap.size,7,none⟩=some (.string s)/\W.cell? ⟨w.heap.size+1,f2,none⟩=some (.slice T nL U)/\W.cell? ⟨w.heap.size+1,2,none⟩=some (.slice a2 n2 k2)/\W.cell? ⟨w.heap.size,5,none⟩=some (.int .i64 size)/\W.cell? ⟨w.heap.size,4,none⟩=some (.int .i64 n)/\W.cell? ⟨w.heap.size,3,none⟩=some (.int .i64 off)) (HS.out _ J.drew I.drew) ?_
 simp only[kR,kS,Ms.fill,kT,kV];iterate 12 refine ztk ?_
 obtain⟨X0,a6⟩:=zex ((wA.alloc (.cells fP 78)).drew);have br:Blk X0 w.heap.size 81 (eZ wh f kd off n size xl s):=by rw[a6];exact(J.alloc _).drew
 have bt:Blk X0 (w.heap.size+1) 75 bk:=by rw[a6];exact(I.alloc _).drew
 have bN:Blk X0 (w.heap.size+1+1) 78 fP:=by rw[a6];exact(bC.alloc _).drew
 have bu:Blk X0 wA.heap.size 78 fP:=by rw[a6];exact(Blk.new _ _ _).drew
 have bG:Zr w X0:=by rw[a6];exact(BA.alloc BA.size _).drew
 refine ah (by rfl) fun K D=>?_
 go_simp;rw[<-a6];refine D _ _ (fun _=>HS.out _ br bt) ?_
 clear D K a6;refine ah (by rfl) fun K D=>?_
 have bR:=aF (ty:=78) (vs:=(az C 8 z 0 0 (.slice T nL U) s (.slice none 0 0))) bu rfl (by simp[Value.oneCell']) (by kernel_rfl)
 refine zob bR ?_;refine D _ _ (fun h=>absurd h (by decide)) ?_
 clear D K;refine ax ?_;have bZ:wA.heap.size=w.heap.size+1+1+1:=bM.out;obtain⟨X,hX⟩:=zex (X0.setRow wA.heap.size (az C 8 z 0 0 (.slice T nL U) s (.slice none 0 0)));have M:Blk X w.heap.size 81 (eZ wh f kd off n size xl s):=by rw[hX];exact br.mO (by omega)
 have S:Blk X (w.heap.size+1) 75 bk:=by rw[hX];exact bt.mO (by omega)
 have ab:Blk X (w.heap.size+1+1) 78 fP:=by rw[hX];exact bN.mO (by omega)
 have ac:Blk X wA.heap.size 78 (az C 8 z 0 0 (.slice T nL U) s (.slice none 0 0)):=by rw[hX];exact bu.setRow
 have BX:Zr w X:=by rw[hX];exact Below.setRow bG (by omega) _
 rw[<-hX];have an:w.heap.size+1+1≠wA.heap.size:=by omega
 have a7:w.heap.size≠wA.heap.size:=by omega
 have a8:w.heap.size+1≠wA.heap.size:=by omega
 have ao:w.heap.size<=wA.heap.size:=by omega
 clear hX bR br bt bN bu bG J I bC BA bZ bM;generalize wA.heap.size=A at *;obtain⟨cK,lK⟩:=ac.zc;have fK:=ac.free;obtain⟨cA,lA⟩:=M.zc;have a1:(C=0\/C=1)\/C=2\/(C=3\/C=4)\/(C=5\/C=6):=by omega
 obtain⟨c,hc⟩:=zex C;have bn:=kD hc;clear g1 g3 g5 bX bW hc;rcases a1 with a1|rfl|a1|a1
 ·rcases a1 with rfl|rfl
  all_goals
   go_wp2_with fail
   refine(bp.out _).mono ?_;rintro e X' ⟨rfl,O⟩;replace O:=O.symm;subst O;have r2:=(ab.far (p:=⟨A,0,none⟩) an (.int .i64 0)).far (p:=⟨A,3,none⟩) an (.int .i64 (off % (z+1)));have B2:=(BX.setCell (p:=⟨A,0,none⟩) ao (.int .i64 0)).setCell (p:=⟨A,3,none⟩) ao (.int .i64 (off % (z+1)));have av:=aF (ty:=78) (vs:=az 0 8 z (off % (z+1)) 0 (.slice T nL U) s (.slice none 0 0)) r2 rfl (by simp[Value.oneCell']) (by kernel_rfl)
   have lR:=ab.lt;go_wp2_with (refine zsb av ?_)
   have cF:=(r2.setRow (cs':=az 0 8 z (off % (z+1)) 0 (.slice T nL U) s (.slice none 0 0))).cells;refine bodyPost_ret (v:=.agg (az 0 8 z (off % (z+1)) 0 (.slice T nL U) s (.slice none 0 0))) (by simp[results,results26,go_sem,cF]) rfl ?_
   unfold z7U;exact⟨Below.setRow B2 (by omega) _,.inl ⟨by simp,rfl⟩⟩
 ·go_wp2_with fail
  refine(bq.out _).mono ?_;rintro e X' ⟨rfl,O⟩;replace O:=O.symm;subst O;have r2:=ab.far (p:=⟨A,4,none⟩) an (.int .i64 (n % 800));have B2:=BX.setCell (p:=⟨A,4,none⟩) ao (.int .i64 (n % 800));have av:=aF (ty:=78) (vs:=az 2 8 z 0 (n % 800) (.slice T nL U) s (.slice none 0 0)) r2 rfl (by simp[Value.oneCell']) (by kernel_rfl)
  have lR:=ab.lt;go_wp2_with (refine zsb av ?_)
  have cF:=(r2.setRow (cs':=az 2 8 z 0 (n % 800) (.slice T nL U) s (.slice none 0 0))).cells;refine bodyPost_ret (v:=.agg (az 2 8 z 0 (n % 800) (.slice T nL U) s (.slice none 0 0))) (by simp[results,results26,go_sem,cF]) rfl ?_
  unfold z7U;exact⟨Below.setRow B2 (by omega) _,.inr (.inl ⟨rfl,rfl⟩)⟩
 ·rcases a1 with rfl|rfl
  all_goals
   go_wp2_with fail
   clear cA lA;refine zrm [.take 0,.take 1,.take 2,.take 3,.take 5,.take 6,.take 8,.one 4,.one 7,.one 9,.take 10,.one 11,.take 12,.one 13] 14 (fun W=>W.cell? ⟨w.heap.size,0,none⟩=some (.int .u8 wh)/\W.cell? ⟨w.heap.size,7,none⟩=some (.string s)/\W.cell? ⟨w.heap.size+1,f2,none⟩=some (.slice T nL U)/\W.cell? ⟨w.heap.size+1,2,none⟩=some (.slice a2 n2 k2)/\W.cell? ⟨w.heap.size,5,none⟩=some (.int .i64 size)/\W.cell? ⟨w.heap.size,4,none⟩=some (.int .i64 n)/\W.cell? ⟨w.heap.size,3,none⟩=some (.int .i64 off)) (HS.out _ M.drew S.drew) ?_
   simp only[kR,kS,Ms.fill,kT,kV];iterate 7 refine ztk ?_
   refine ah (by rfl) fun K D=>?_
   go_simp;refine(bp.out _).mono ?_;rintro e X' ⟨rfl,rfl⟩;refine D _ _ (fun _=>HS.out _ M.drew S.drew) ?_
   clear D K;refine ah (by rfl) fun K D=>?_
   go_simp;refine(bq.out _).mono ?_;rintro e X' ⟨rfl,rfl⟩;refine D _ _ (fun _=>HS.out _ M.drew S.drew) ?_
   clear D K;rw[<-bn.out]at ac;obtain⟨Y,hY⟩:=zex X.drew;have J:Blk Y w.heap.size 81 (eZ wh f kd off n size xl s):=by rw[hY];exact M.drew
   have I:Blk Y (w.heap.size+1) 75 bk:=by rw[hY];exact S.drew
   have bC:Blk Y (w.heap.size+1+1) 78 fP:=by rw[hY];exact ab.drew
   have bK:Blk Y A 78 (az c 8 z 0 0 (.slice T nL U) s (.slice none 0 0)):=by rw[hY];exact ac.drew
   have B2:Zr w Y:=by rw[hY];exact BX.drew
   rw[<-hY];clear M S ab ac BX hY cK lK fK bp bq;obtain⟨cK,lK⟩:=bK.zc;have fK:=bK.free;refine ah (by rfl) fun K D=>?_
   go_simp;replace J:=J.far (p:=⟨A,0,none⟩) a7 (.int .i64 3);replace I:=I.far (p:=⟨A,0,none⟩) a8 (.int .i64 3);refine D _ _ (fun _=>HS.out _ J I) ?_
   clear D K;refine ztk ?_
   refine ah (by rfl) fun K D=>?_
   go_simp;replace J:=J.far (p:=⟨A,3,none⟩) a7 (.int .i64 (off % (z+1)));replace I:=I.far (p:=⟨A,3,none⟩) a8 (.int .i64 (off % (z+1)));refine D _ _ (fun _=>HS.out _ J I) ?_
   clear D K;refine ztk ?_
   refine ah (by rfl) fun K D=>?_
   go_simp;replace J:=J.far (p:=⟨A,4,none⟩) a7 (.int .i64 (n % 800));replace I:=I.far (p:=⟨A,4,none⟩) a8 (.int .i64 (n % 800));refine D _ _ (fun _=>HS.out _ J I) ?_
   clear D K;refine ax ?_;replace bK:=((bK.mG 0 (.int .i64 3)).mG 3 (.int .i64 (off % (z+1)))).mG 4 (.int .i64 (n % 800));replace bC:=((bC.far (p:=⟨A,0,none⟩) an (.int .i64 3)).far (p:=⟨A,3,none⟩) an (.int .i64 (off % (z+1)))).far (p:=⟨A,4,none⟩) an (.int .i64 (n % 800));replace B2:=((B2.setCell (p:=⟨A,0,none⟩) ao (.int .i64 3)).setCell (p:=⟨A,3,none⟩) ao (.int .i64 (off % (z+1)))).setCell (p:=⟨A,4,none⟩) ao (.int .i64 (n % 800));generalize World.setCell _ _ (Value.int .i64 (n % 800))=V at *;have av:=aF (ty:=78) (vs:=az 3 8 z (off % (z+1)) (n % 800) (.slice T nL U) s (.slice none 0 0)) bC rfl (by simp[Value.oneCell']) (by kernel_rfl)
   have lR:=bC.lt;clear lK fK cK J I;have cK:∀j,V.cell? ⟨A,j,none⟩=(az 3 8 z (off % (z+1)) (n % 800) (.slice T nL U) s (.slice none 0 0))[j]?:=bK.cells;have lK:=bK.lt;go_wp2_with (refine zsb av ?_)
   have cF:=(bC.setRow (cs':=az 3 8 z (off % (z+1)) (n % 800) (.slice T nL U) s (.slice none 0 0))).cells;refine bodyPost_ret (v:=.agg (az 3 8 z (off % (z+1)) (n % 800) (.slice T nL U) s (.slice none 0 0))) (by simp[results,results26,go_sem,cF]) rfl ?_
   unfold z7U;exact⟨Below.setRow B2 (by omega) _,.inr (.inr (.inl ⟨by simp,rfl⟩))⟩
 ·rcases a1 with rfl|rfl
  all_goals
   go_wp2_with fail
   rw[<-bn.out]at ac;clear cA lA cK lK fK;refine zrm [.take 0,.take 1,.take 2,.take 3,.take 4,.take 5,.take 6,.take 10,.one 7,.one 8,.one 9,.one 11,.take 12,.one 13,.take 14,.one 15] 16 (fun W=>W.cell? ⟨w.heap.size,0,none⟩=some (.int .u8 wh)/\W.cell? ⟨w.heap.size,7,none⟩=some (.string s)/\W.cell? ⟨w.heap.size+1,f2,none⟩=some (.slice T nL U)/\W.cell? ⟨w.heap.size+1,2,none⟩=some (.slice a2 n2 k2)/\W.cell? ⟨w.heap.size,5,none⟩=some (.int .i64 size)/\W.cell? ⟨w.heap.size,4,none⟩=some (.int .i64 n)/\W.cell? ⟨w.heap.size,3,none⟩=some (.int .i64 off)) (HS.out _ M.drew S.drew) ?_
   simp only[kR,kS,Ms.fill,kT,kV];iterate 8 refine ztk ?_
   refine ah (by rfl) fun K D=>?_
   go_simp;refine(bL.out _).mono ?_;rintro e X' ⟨rfl,O⟩;replace O:=O.symm;subst O;refine D _ _ (fun _=>HS.out _ M.drew S.drew) ?_
   clear D K;refine ah (by rfl) fun K D=>?_
   go_simp;refine D _ _ (fun _=>HS.out _ M.drew S.drew) ?_
   clear D K;refine ah (by rfl) fun K D=>?_
   go_simp;refine Calls.mono (bJ.out X.drew) ?_;rintro e Z ⟨ba,kk,ca,rfl,m1,m2,m3,bb⟩;obtain⟨Ap,cp,rfl⟩:=aw bb;have J:=M.drew.mD ba;have I:=S.drew.mD ba;have bC:=ab.drew.mD ba;have bK:=ac.drew.mD ba;have B2:=BX.drew.trans (ba.mono BX.drew.size);have b3:A<X.heap.size:=ac.lt;have bw:∀q0,(Value.slice Ap (kk+1) cp).ownBlock=some q0->q0≠A:=fun q0 h0=>by have:=(ce bb q0 h0).1;have h2:X.drew.heap.size=X.heap.size:=rfl;omega
   have b0:∀q0,(Value.slice Ap (kk+1) cp).ownBlock=some q0->q0≠w.heap.size+1+1:=fun q0 h0=>by have:=(ce bb q0 h0).1;have:=ab.lt;have h2:X.drew.heap.size=X.heap.size:=rfl;omega
   have bD:=aI bb BX.drew.size;refine D _ _ (fun _=>HS.out _ J I) ?_
   have HM:=kD (And.intro m1 (And.intro m2 m3));clear D K M S ab ac BX ba bb b3 m1 m2 m3 bL bJ;obtain⟨cK,lK⟩:=bK.zc;have fK:=bK.free;refine ah (by rfl) fun K D=>?_
   go_simp;replace J:=J.far (p:=⟨A,1,none⟩) a7 (.int .i64 7);replace I:=I.far (p:=⟨A,1,none⟩) a8 (.int .i64 7);refine D _ _ (fun _=>HS.out _ J I) ?_
   clear D K;refine ztk ?_
   refine ah (by rfl) fun K D=>?_
   go_simp;replace J:=J.far (p:=⟨A,5,none⟩) a7 (.slice a2 n2 k2);replace I:=I.far (p:=⟨A,5,none⟩) a8 (.slice a2 n2 k2);refine D _ _ (fun _=>HS.out _ J I) ?_
   clear D K;refine ztk ?_
   refine ah (by rfl) fun K D=>?_
   go_simp;replace J:=J.far (p:=⟨A,7,none⟩) a7 (.slice Ap (kk+1) cp);replace I:=I.far (p:=⟨A,7,none⟩) a8 (.slice Ap (kk+1) cp);refine D _ _ (fun _=>HS.out _ J I) ?_
   clear D K;refine ax ?_;replace bK:=((bK.mG 1 (.int .i64 7)).mG 5 (.slice a2 n2 k2)).mG 7 (.slice Ap (kk+1) cp);replace bC:=((bC.far (p:=⟨A,1,none⟩) an (.int .i64 7)).far (p:=⟨A,5,none⟩) an (.slice a2 n2 k2)).far (p:=⟨A,7,none⟩) an (.slice Ap (kk+1) cp);replace B2:=((B2.setCell (p:=⟨A,1,none⟩) ao (.int .i64 7)).setCell (p:=⟨A,5,none⟩) ao (.slice a2 n2 k2)).setCell (p:=⟨A,7,none⟩) ao (.slice Ap (kk+1) cp);replace bD:=ar bD fun q0 h0=>(Below.heap_setCell (Z.setCell ⟨A,1,none⟩ (.int .i64 7) |>.setCell ⟨A,5,none⟩ (.slice a2 n2 k2)) ⟨A,7,none⟩ (.slice Ap (kk+1) cp) _ (bw q0 h0)).trans ((Below.heap_setCell _ _ _ _ (bw q0 h0)).trans (Below.heap_setCell _ _ _ _ (bw q0 h0)))
   generalize World.setCell _ _ (Value.slice Ap (kk+1) cp)=V at *;have av:=aF (ty:=78) (vs:=az c 7 z 0 0 (.slice a2 n2 k2) s (.slice Ap (kk+1) cp)) bC rfl (by simp[Value.oneCell']) (by kernel_rfl)
   have lR:=bC.lt;clear lK fK cK J I;have cK:∀j,V.cell? ⟨A,j,none⟩=(az c 7 z 0 0 (.slice a2 n2 k2) s (.slice Ap (kk+1) cp))[j]?:=bK.cells;have lK:=bK.lt;go_wp2_with (refine zsb av ?_)
   have cF:=(bC.setRow (cs':=az c 7 z 0 0 (.slice a2 n2 k2) s (.slice Ap (kk+1) cp))).cells;refine bodyPost_ret (v:=.agg (az c 7 z 0 0 (.slice a2 n2 k2) s (.slice Ap (kk+1) cp))) (by simp[results,results26,go_sem,cF]) rfl ?_
   obtain rfl:=bn.out;unfold z7U;exact⟨Below.setRow B2 (by omega) _,.inr (.inr (.inr ⟨by simp,kk,_,rfl,HM.out.1,HM.out.2.1,HM.out.2.2,ar bD fun q0 h0=>ak _ _ _ _ (b0 q0 h0)⟩))⟩
theorem z4z {w:World}{A:Option Addr}{xs:List ActV}(h:Reads w A (xs.flatMap actL)){k:Nat}(O:k<xs.length):
  ∃b off,A=some ⟨b,off,none⟩/\b<w.heap.size/\w.cell? ⟨b,off+k*8,none⟩=some (.int .u8 xs[k].wh)/\w.cell? ⟨b,off+k*8+1,none⟩=some (.int .u8 xs[k].f)/\w.cell? ⟨b,off+k*8+2,none⟩=some (.int .i64 xs[k].kd) /\
   w.cell? ⟨b,off+k*8+3,none⟩=some (.int .i64 xs[k].off)/\w.cell? ⟨b,off+k*8+4,none⟩=some (.int .i64 xs[k].n)/\w.cell? ⟨b,off+k*8+5,none⟩=some (.int .i64 xs[k].size)/\w.cell? ⟨b,off+k*8+6,none⟩=some (.slice xs[k].A xs[k].m xs[k].c)/\w.cell? ⟨b,off+k*8+7,none⟩=some (.string xs[k].s):=by
 have J:∀j,j<8->(xs.flatMap actL)[k*8+j]?=(actL xs[k])[j]?:=fun j D=>eb (f:=actL) (m:=8) (fun _ _=>rfl) D O
 rcases h with h|⟨b,off,K,I,M⟩
 ·exfalso
  have:=J 0 (by omega)
  rw[h]at this;simp[actL]at this
 ·have g:∀j u,j<8->(actL xs[k])[j]?=some u->w.cell? ⟨b,off+k*8+j,none⟩=some u:=fun j u D S=>by rw[Nat.add_assoc];exact M _ _ ((J j D).trans S)
  exact⟨b,off,K,I,g 0 _ (by omega) rfl,g 1 _ (by omega) rfl,g 2 _ (by omega) rfl,g 3 _ (by omega) rfl,g 4 _ (by omega) rfl,g 5 _ (by omega) rfl,g 6 _ (by omega) rfl,g 7 _ (by omega) rfl⟩
def upd {α:Type}(g:Nat->α)(i:Nat)(v:α)(k:Nat):α:=if k=i then v else g k
theorem two (c:Nat)(h:c<2):c=0\/c=1:=by omega
def zck (w w':World)(f2:Nat)(sl:Nat->Value)(zs:Nat->Int)(cw ck cz co cn:Int)(cl:Value)(P:Option Addr)(pn:Nat):Prop:=
 (cw=0/\ck=8/\cz=zs f2/\0<=co/\co<=cz/\cn=0/\cl=sl f2) \/
 (cw=2/\ck=8/\cz=zs f2/\co=0/\0<=cn/\cn<800/\cl=sl f2) \/
 (cw=3/\ck=8/\cz=zs f2/\0<=co/\co<=cz/\0<=cn/\cn<800/\cl=sl f2) \/
 ((cw=5\/cw=6)/\ck=7/\cz=zs f2/\co=0/\cn=0/\cl=sl 2/\∃ps:List ByteArray,ps.length=pn/\pn<=901/\(∀p∈ps,p.size<=1000)/\Reads w' P (ps.map .string)/\∀a,P=some a->w.heap.size<=a.block/\a.block<w'.heap.size)
def zcj (w:World)(f2:Nat)(sl:Nat->Value)(zs:Nat->Int)(s:ByteArray)(e:Ending)(w':World):Prop:=
 Zr w w'/\∃cw ck cz co cn cl P pn pc,e=.returned (.agg (az cw ck cz co cn cl s (.slice P pn pc)))/\zck w w' f2 sl zs cw ck cz co cn cl P pn
theorem zcC (a0 a1 O:Option Addr)(n0 k0 n1 k1 V U:Nat)(A:Nat->Int)(K f kd off n size:Int)(xl:Value)(s:ByteArray)(a7:s.size<=900)(hz:∀k,k<2->0<=A k/\A k<=10000)(T:-9223372036854775808<=off/\off<=9223372036854775807)(hn:-9223372036854775808<=n/\n<=9223372036854775807)(an:-9223372036854775808<=size/\size<=9223372036854775807)
  (hf:0<=f/\f<=255) (ao:0<=K/\K<=255) (a8:K % 8≠7) (c:Nat) (ab:f % 2=c) (Y:Nat->Value) (e0:Y 0=.slice a0 n0 k0) (e1:Y 1=.slice a1 n1 k1) (e2:Y 2=.slice O V U) (w:World):
  Calls prog 26 #[.agg (eZ K f kd off n size xl s),.agg (aK (.slice a0 n0 k0) (.slice a1 n1 k1) (.slice O V U) (A 0) (A 1))] w (zcj w c Y A s):=by
 have I:c<2:=by omega
 obtain⟨aL,nL,kL,hL,D⟩:∃aL nL kL,(aK (.slice a0 n0 k0) (.slice a1 n1 k1) (.slice O V U) (A 0) (A 1))[c]?=some (.slice aL nL kL)/\Y c=.slice aL nL kL:=by
  rcases two c I with rfl|rfl
  ·exact⟨_,_,_,rfl,e0⟩
  ·exact⟨_,_,_,rfl,e1⟩
 have hZ:(aK (.slice a0 n0 k0) (.slice a1 n1 k1) (.slice O V U) (A 0) (A 1))[3+c]?=some (.int .i64 (A c)):=by rcases two c I with rfl|rfl<;>rfl
 have av:=hz c I;have p1:0<=off % (A c+1)/\off % (A c+1)<=A c:=⟨Int.emod_nonneg _ (by omega),by have:=Int.emod_lt_of_pos off (show 0<A c+1 by omega);omega⟩
 have m2:0<=n % 800/\n % 800<800:=by omega
 refine(zcE _ aL O nL kL V U (A c) K f kd off n size xl s (by omega) av T hn an hf ao (K % 8) rfl (by omega) c ab hL hZ rfl w).mono fun e w' ⟨hb,h⟩=>?_
 rcases h with ⟨-,S⟩|⟨-,S⟩|⟨-,S⟩|⟨hC,M,pv,rfl,h1,h2,-,ho⟩
 ·exact⟨hb,0,8,A c,_,0,_,none,0,0,S,.inl ⟨rfl,rfl,rfl,p1.1,p1.2,rfl,D.symm⟩⟩
 ·exact⟨hb,2,8,A c,0,_,_,none,0,0,S,.inr (.inl ⟨rfl,rfl,rfl,rfl,m2.1,m2.2,D.symm⟩)⟩
 ·exact⟨hb,3,8,A c,_,_,_,none,0,0,S,.inr (.inr (.inl ⟨rfl,rfl,rfl,p1.1,p1.2,m2.1,m2.2,D.symm⟩))⟩
 obtain⟨q1,ac⟩:=zex ((1+size % 97).toNat);rw[<-ac]at h1 h2 ho;obtain⟨P,pc,rfl⟩:=aw ho;have a6:M<=900:=by
  have:1*M<=q1*M:=Nat.mul_le_mul_right _ (by omega)
  omega
 refine⟨hb,K % 8,7,A c,0,0,_,P,M+1,pc,rfl,.inr (.inr (.inr ⟨hC,rfl,rfl,rfl,rfl,e2.symm,cE s q1 M++[cZ s q1 M],by rw[kY,ed];rfl,by omega,fun p J=>?_,Reads.ng ho,fun a e=>?_⟩))⟩
 ·rcases lE.1 J with J|J
  ·unfold cE at J;obtain⟨i,-,rfl⟩:=List.mem_map.1 J;unfold jH;rw[ByteArray.size_extract];omega
  ·simp only[mg]at J;subst J;rw[iU];omega
 ·subst e;exact ce ho a.block rfl
def z9N (w w':World)(F':List Nat)(f2:Nat)(y':TxS)(x:DevS)(ls:Nat->List Int)(tx:Nat->ByteArray)(s:ByteArray)(cw co cn:Int)(LA:Option Addr)(ln lk:Nat)(t:ByteArray)(z:Int)(ls':Nat->List Int)(tx':Nat->ByteArray):Prop:=
 BookOk y' x (ls' 0) (ls' 1) (ls' 2) (tx' 0) (tx' 1) /\
 ((cw=0/\∃L,ln=L.length/\Keeps w' F' LA lk L/\(∀a,LA=some a->w.heap.size<=a.block)/\ls'=upd ls f2 L/\tx'=upd tx f2 (bx (tx f2) s co (tx f2).size)/\z=(bx (tx f2) s co (tx f2).size).size) \/
  (cw=2/\∃L,ln=L.length/\Keeps w' F' LA lk L/\(∀a,LA=some a->w.heap.size<=a.block)/\ls'=upd ls f2 L/\tx'=upd tx f2 (eL (tx f2) cn (tx f2).size)/\cn=(eL (tx f2) cn (tx f2).size).size) \/
  (cw=3/\ls'=ls/\tx'=tx/\t=(tx f2).extract (min co (tx f2).size).toNat (min co (tx f2).size+min cn ((tx f2).size - min co (tx f2).size)).toNat) \/
  (cw=5/\∃L,ln=L.length/\Keeps w' F' LA lk L/\(∀a,LA=some a->w.heap.size<=a.block)/\ls'=upd ls 2 L/\tx'=tx) \/
  (cw=6/\ls'=ls/\tx'=tx))
def zcV (w:World)(T:Nat)(F:List Nat)(D:Nat)(B:List Nat)(f2:Nat)(x:DevS)(ls:Nat->List Int)(tx:Nat->ByteArray)(s:ByteArray)(cw co cn:Int)(e:Ending)(w':World):Prop:=
 ∃LA ln lk pv t z E y' F',e=.returned (.agg (bH (.slice LA ln lk) pv t z E))/\(∃PA pn pk,pv=.slice PA pn pk)/\TD w' T F' D y' B x/\Grow w F w' F'/\(E=0->∃ls' tx',z9N w w' F' f2 y' x ls tx s cw co cn LA ln lk t z ls' tx')
end Go.Proofs.YtejmknghkbobnaaGreatDoor
