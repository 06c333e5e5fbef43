import Derived.Test.YtejmknghkbobnaaGreatDoorPart00
import Derived.Test.YtejmknghkbobnaaGreatDoorPart40
import Derived.Test.YtejmknghkbobnaaGreatDoorPart31
import Derived.Test.YtejmknghkbobnaaGreatDoorPart18
set_option linter.unusedVariables false
set_option linter.unusedSimpArgs false
set_option maxRecDepth 100000
set_option maxHeartbeats 8000000
namespace Go.Proofs.YtejmknghkbobnaaGreatDoor
open Go.Proofs.Tryz
open Go.RowKit Go.Maps
theorem zbk (w:World)(b:Bool):Reads (w.alloc (.cells #[.bool b] 4)) (some ⟨w.heap.size,0,none⟩) [.bool b]:=by
 have:=Blk.new w 4 #[.bool b]
 exact .inr ⟨_,0,rfl,this.lt,fun k u hu=>by rw[zi8];exact(this.cells k).trans (by simpa using hu)⟩
theorem zcH {w:World}{base:Nat}{l:List Bool}{A:Option Addr}{c:Nat}(h:w.ownsRow base 4 1 (.slice A l.length c) l.length (l.map .bool))(hb:base≤w.heap.size)(hl:l.length≤900)(r:Bool):
  ∃A' c' w',(Builtin.append_ #[45,45] 45 #[.slice A l.length c,.slice (some ⟨w.heap.size,0,none⟩) 1 1]).run prog (w.alloc (.cells #[.bool r] 4))=.ok (.slice A' (l.length+1) c') w' ∧
   w'.ownsRow base 4 1 (.slice A' (l++[r]).length c') (l++[r]).length ((l++[r]).map .bool)∧Below base w w':=by
 have b1:Below w.heap.size w (w.alloc (.cells #[.bool r] 4)):=(zho _ _).alloc (zhT _) _;obtain⟨v,w',h1,h2,h3,-⟩:=zfg (z0a h b1) (zhS hb b1.size) (some ⟨w.heap.size,0,none⟩) 1 1 [.bool r] rfl (by omega) (zbk w r) (by simp[Value.oneCell'])
 obtain⟨A',c',rfl⟩:=z0G h2;have e1:(l++[r]).length=l.length+1:=by rw[zhF];rfl
 have e2:(l++[r]).map Value.bool=l.map .bool++[.bool r]:=by rw[List.map_append];simp
 exact⟨A',c',w',h1,by rw[e1,e2];exact h2,(b1.mono hb).trans h3⟩
theorem RTx.bits {w:World}{P:Nat→Prop}{x:DevS}{y:TxS}{tv:Array Value}(h:RTx w P x y tv):∃W wc N nc,tv[16]?=some (.slice W y.was.length wc)∧tv[20]?=some (.slice N y.now.length nc)∧Reads w W (y.was.map .bool)∧Reads w N (y.now.map .bool):=by
 obtain⟨p,rfl,h⟩:=h;exact⟨p.W,p.wc,p.N,p.nc,rfl,rfl,h.was,h.now⟩
theorem zeR {a b:List Bool}{i:Nat}(ha:i<a.length)(hb:i<b.length):(orL a b).take (i+1)=(orL a b).take i++[a[i]||b[i]]:=by
 have h:i<(orL a b).length:=by unfold orL;rw[List.length_zipWith];omega
 rw[zhE h];have e:(orL a b)[i]=(a[i]||b[i]):=by simp[orL]
 rw[e]
theorem z9h {fn:Func}{m R:Nat}{ty t:TypeId}{tmps:Array Value}{w:World}{cs:Array Value}{fr:Nat × Nat}{fs:_}(hr:fn.results=#[.cell m ty])(hm:tmps.getD m undef=.pointer (some ⟨R,0,none⟩))
  (hg:w.heap[R]?=some (.cells cs t fr)) (hu:prog.underlying ty=some (.struct fs)) (hi:(prog.info? ty).map (·.size)=some cs.size):
  (results fn tmps).run prog w=.ok (.agg cs) w:=by
 have h:=run_loadVar_row (P:=prog) w R t ty cs fr _ hg hu rfl hi;have h1:(asAddr (.pointer (some ⟨R,0,none⟩))).run prog w=.ok ⟨R,0,none⟩ w:=rfl;have hm':tmps[m]?.getD undef=.pointer (some ⟨R,0,none⟩):=by simpa using hm
 simp[results,hr,hm',h1,h]
theorem z3S {W:World}{D:Nat}{t:TypeId}{sv:Array Value}(b:Blk W D t sv)(h:sv.size=4):(Instr.loadAt 47 (.pointer (some ⟨D,0,none⟩))).run prog W=.ok (.agg sv) W:=by
 simp only[Instr.loadAt,Instr.sureAddr,Sem.run_bind,Sem.run_pure,Result.andThen];exact run_loadVar_row W D t 47 sv (0,0) _ b underlying47 rfl (by rw[h];kernel_rfl)
theorem zfy {w:World}{P:Nat→Prop}{x:DevS}{y:TxS}{tv:Array Value}(hq:RTx w P x y tv)(ok:y.Ok):
  Calls prog 148 #[.agg tv] w fun e w'=>∃A c,e=.returned (.agg #[.int .i64 y.s,.int .i64 y.j,.int .i64 y.i,.slice A y.may.length c])∧w'.ownsRow w.heap.size 4 1 (.slice A y.may.length c) y.may.length (y.may.map .bool)∧Below w.heap.size w w':=by
 obtain⟨w0,hw0⟩:∃w0,w0=(w.alloc (.cells tv 50)).alloc (.cells #[.int .i64 0,.int .i64 0,.int .i64 0,.slice none 0 0] 47):=⟨_,rfl⟩;have bT:Blk w0 w.heap.size 50 tv:=by rw[hw0];exact(Blk.new _ _ _).alloc _
 have bR:Blk w0 (w.heap.size+1) 47 #[.int .i64 0,.int .i64 0,.int .i64 0,.slice none 0 0]:=by rw[hw0];exact Blk.new' (by simp)
 have B0:Below w.heap.size w w0:=by rw[hw0];(repeat' (first|with_reducible (first|exact zho _ _|assumption|refine zhp ?_ ?_ _|refine zhq ?_|refine z00 ?_ _|refine zhr ?_ ?_ _|exact zhT _)|omega|(simp;done)|(simp;omega)))
 have hQ0:=hq.below B0;have hsz:=hq.size;obtain⟨n5,n6,n7,-,-⟩:=hq.nums;obtain⟨W,wc,N,nc,n16,n20,hRW,hRN⟩:=hQ0.bits;have hl1:=ok.was;have hl2:=ok.now;have hbd:=z10 ok.rg;have c5:=(bT.cells 5).trans n5;have c6:=(bT.cells 6).trans n6;have c7:=(bT.cells 7).trans n7;have lT:=bT.lt;clear hq hQ0;obtain⟨M,hM⟩:∃M,M=w0.heap.size:=⟨_,rfl⟩;obtain⟨w1,hw1⟩:∃w1,w1=w0.alloc (.cells #[.int .i64 y.s,.int .i64 y.j,.int .i64 y.i,.slice none 0 0] 47):=⟨_,rfl⟩;have bM1:Blk w1 M 47 #[.int .i64 y.s,.int .i64 y.j,.int .i64 y.i,.slice none 0 0]:=by rw[hw1,hM];exact Blk.new _ _ _
 have B1:Below M w0 w1:=by rw[hw1];exact(zho _ _).alloc (Nat.le_of_eq hM) _
 go_enter func148,ntmps148
 go_upto_region 1 with fail
 rw[←hw0];clear hw0;go_upto_region 3 with fail
 rw[←hw1,←hM];have hzM:w.heap.size+1<M:=by rw[hM];exact bR.lt
 have hz1:M+1≤w1.heap.size:=bM1.lt;have HBT:=zhs (And.intro bT (And.intro bR B0));have HRD:=zhs (And.intro hRN hRW);have HHM:=zhs hM;have hln:y.was.length=y.now.length:=by rw[hl1,hl2]
 have hln9:y.now.length≤800:=by rw[hl2];unfold rgB;omega
 clear hw1 bT bR B0 hRN hRW c5 c6 c7 lT hM n5 n6 n7 hl1 hl2 hbd;go_wp2_with fail
 go_loopw [4] (fun v4 wr=>∃(i:Nat) (A:Option Addr) (c:Nat) (out:List Bool),i≤y.now.length∧v4=.int .i64 i∧out=(orL y.now y.was).take i∧out.length=i∧wr.ownsRow (M+1) 4 1 (.slice A out.length c) out.length (out.map .bool)∧Blk wr M 47 #[.int .i64 y.s,.int .i64 y.j,.int .i64 y.i,.slice A out.length c]∧Below M w0 wr∧M+1≤wr.heap.size) (fun v4 _=>y.now.length - (RowKit.intOf v4).toNat)
 case atStart=>exact⟨0,none,0,[],zi9 _,rfl,rfl,rfl,World.ownsRow_nil _ _ _ _,bM1,B1,hz1⟩
 case round=>
  obtain⟨i,A,c,out,hi,rfl,hout,hol,hown,bM,hB,hzr⟩:=hrel;have bT:=HBT.out.1.below hB (show w.heap.size<M by omega)
  have HO:=zhs hown;have HOUT:=zhs hout;have cT20:=(bT.cells 20).trans n20;have cT16:=(bT.cells 16).trans n16;have cM:=bM.cells;have lM:=bM.lt;have lT:=bT.lt;clear hown hout;by_cases hlt:i<y.now.length
  ·as_aux_lemma=>
   have hlt':(i:Int)<y.now.length:=by omega
   obtain⟨bN,oN,rfl,hbN,eN⟩:=HRD.out.1.at_ (k:=i) (by simpa using hlt)
   obtain⟨bW,oW,rfl,hbW,eW⟩:=HRD.out.2.at_ (k:=i) (by simpa[hln]using hlt)
   have hNN:out++[y.now[i]||y.was[i]'(by omega)]=(orL y.now y.was).take (i+1):=by
    rw[zeR hlt (by omega)]
    exact congrArg (·++_) HOUT.out
   simp only[List.getElem_map]at eN eW;generalize y.now[i]=bn at *;generalize y.was[i]'(by omega)=bw at *
   have fN:=(hB.cell (p:=⟨bN,oN+i,none⟩) (by rw[HHM.out];exact hbN)).trans eN
   have fW:=(hB.cell (p:=⟨bW,oW+i,none⟩) (by rw[HHM.out];exact hbW)).trans eW
   have hS1:∀V,Below (M+1) wr V→V.cell? ⟨M,3,none⟩=some (.slice A i c)∧V.cell? ⟨w.heap.size,20,none⟩=some (.slice (some ⟨bN,oN,none⟩) y.now.length nc)∧V.cell? ⟨w.heap.size,16,none⟩=some (.slice (some ⟨bW,oW,none⟩) y.now.length wc)∧V.cell? ⟨bN,oN+i,none⟩=some (.bool bn)∧V.cell? ⟨bW,oW+i,none⟩=some (.bool bw):=fun V hb=>by
    have hbM:bN<M+1:=by have:=HHM.out;omega
    have hbM2:bW<M+1:=by have:=HHM.out;omega
    refine⟨?_,?_,?_,(hb.cell (p:=⟨bN,oN+i,none⟩) hbM).trans fN,(hb.cell (p:=⟨bW,oW+i,none⟩) hbM2).trans fW⟩
    ·rw[←hol];exact((bM.below hb (by omega)).cells 3).trans rfl
    ·exact(bT.below hb (by omega) |>.cells 20).trans n20
    ·rw[←hln];exact(bT.below hb (by omega) |>.cells 16).trans n16
   obtain⟨X,hX⟩:∃X,X=wr.drew:=⟨_,rfl⟩;have bX:Below wr.heap.size wr X:=by rw[hX];exact(zho _ _).drew
   have hoX:=z0a HO.out bX;obtain⟨A3,c3,w3,hr3,ho3,hb3⟩:=zcH hoX (zhS hzr bX.size) (by omega) (bn||bw)
   have hB3:Below (M+1) wr w3:=(bX.mono hzr).trans hb3;have hBX1:Below (M+1) wr (X.alloc (.cells #[.bool (bn||bw)] 4)):=(bX.mono hzr).alloc (by have:=bX.size;omega) _
   have bM3:=(bM.below hB3 (by omega)).set_ 3 (.slice A3 (i+1) c3)
   have ho4:(w3.setCell ⟨M,3,none⟩ (.slice A3 (i+1) c3)).ownsRow (M+1) 4 1 (.slice A3 (out++[bn||bw]).length c3) (out++[bn||bw]).length ((out++[bn||bw]).map .bool):=z0c ho3 fun q hq=>Below.heap_setCell w3 _ _ q (by have:=(ho3.lt q hq).1;show q≠M;omega)
   have hB4:Below M w0 (w3.setCell ⟨M,3,none⟩ (.slice A3 (i+1) c3)):=zhr (hB.trans (hB3.mono (by omega))) (zhT _) _
   have hz4:M+1≤(w3.setCell ⟨M,3,none⟩ (.slice A3 (i+1) c3)).heap.size:=by have:=hB3.size;simp;omega
   have bM3':=bM.below hB3 (by omega)
   have lM3:=bM3'.lt;have fM3:=bM3'.free;have cM3:=(bM3'.cells 3).trans (show _=some (Value.slice A out.length c)from rfl)
   have HF:=zhs (And.intro ho4 (And.intro bM3 (And.intro hB4 hz4)));have HN2:=zhs hNN;have hol1:(out++[bn||bw]).length=i+1:=by rw[zhF,hol];rfl
   clear ho3 hb3 ho4 bM3 hB4 hz4 hNN hoX bM3' eN eW fN fW;rw[hol]at hr3 cM3;go_upto_region 5 with fail
   refine z13 (Us.takes [0,1,2,3,4,5,6,7,8,9,10,11,12,13,14,15] (.one 16 (.one 17 (Us.pures [18] (.late 19 .done))))) 19 (fun V=>V.cell? ⟨M,3,none⟩=some (.slice A i c)∧V.cell? ⟨w.heap.size,20,none⟩=some (.slice (some ⟨bN,oN,none⟩) y.now.length nc)∧V.cell? ⟨w.heap.size,16,none⟩=some (.slice (some ⟨bW,oW,none⟩) y.now.length wc)∧V.cell? ⟨bN,oN+i,none⟩=some (.bool bn)∧V.cell? ⟨bW,oW+i,none⟩=some (.bool bw)) (by kernel_rfl) (by kernel_rfl) (fun _ _ _ _ _ h=>h) (hS1 _ ((zho _ _).drew)) ?_
   rw[←hX];clear hX;simp only[Us.takes,Us.pures,Us.fill,zhy,zhz];(try simp only[Act.put,zht,zhu,zhv])
   iterate 9 (refine z0K (by rfl) ?_ (fun w' hw'=>?_) ?_;rotate_left;(focus (go_simp;(try with_reducible rfl)));(try simp only[Act.put,zht,zhu,zhv]))
   cases bn
   ·simp only[Bool.false_or]at hr3 hBX1 HF HN2 hol1;iterate 7 (refine z0K (by rfl) ?_ (fun w' hw'=>?_) ?_;rotate_left;(focus (go_simp;(try with_reducible rfl)));(try simp only[Act.put,zht,zhu,zhv]))
    refine z1b fun K hK=>?_
    go_simp;refine hK _ _ (hS1 _ hBX1) ?_;clear hK K;refine z1b fun K hK=>?_
    refine z1A _ _ _ rfl _ _ _ rfl rfl hr3 ?_;refine hK _ _ (hS1 _ hB3) ?_;clear hK K;(try simp only[Act.put,zht,zhu,zhv])
    iterate 1 (refine z1s (by rfl) ?_ (fun w' hw'=>?_) ?_;rotate_left;(focus (go_simp;(try with_reducible rfl)));(try simp only[Act.put,zht,zhu,zhv]))
    refine z0H fun K hK=>?_
    go_simp;refine hK _ _ ?_;clear hK K;refine z1G ?_;clear hS1 bX hr3 hB3 hBX1 lM3 fM3 cM3 cM lM lT cT20 cT16 bT bM;go_wp2_with fail
    go_roundw
    case rel=>exact⟨i+1,A3,c3,out++[bw],by omega,by go_num,HN2.out,hol1,by rw[hol1];exact(hol1▸HF.out.1),by rw[hol1];exact HF.out.2.1,HF.out.2.2.1,HF.out.2.2.2⟩
    case measure=>simp[RowKit.intOf];omega
   ·simp only[Bool.true_or]at hr3 hBX1 HF HN2 hol1;iterate 6 (refine zgx (by rfl) ?_;(try simp only[Act.put,zht,zhu,zhv]))
    iterate 1 (refine z0K (by rfl) ?_ (fun w' hw'=>?_) ?_;rotate_left;(focus (go_simp;(try with_reducible rfl)));(try simp only[Act.put,zht,zhu,zhv]))
    refine z1b fun K hK=>?_
    go_simp;refine hK _ _ (hS1 _ hBX1) ?_;clear hK K;refine z1b fun K hK=>?_
    refine z1A _ _ _ rfl _ _ _ rfl rfl hr3 ?_;refine hK _ _ (hS1 _ hB3) ?_;clear hK K;(try simp only[Act.put,zht,zhu,zhv])
    iterate 1 (refine z1s (by rfl) ?_ (fun w' hw'=>?_) ?_;rotate_left;(focus (go_simp;(try with_reducible rfl)));(try simp only[Act.put,zht,zhu,zhv]))
    refine z0H fun K hK=>?_
    go_simp;refine hK _ _ ?_;clear hK K;refine z1G ?_;clear hS1 bX hr3 hB3 hBX1 lM3 fM3 cM3 cM lM lT cT20 cT16 bT bM;go_wp2_with fail
    go_roundw
    case rel=>exact⟨i+1,A3,c3,out++[true],by omega,by go_num,HN2.out,hol1,by rw[hol1];exact(hol1▸HF.out.1),by rw[hol1];exact HF.out.2.1,HF.out.2.2.1,HF.out.2.2.2⟩
    case measure=>simp[RowKit.intOf];omega
  ·as_aux_lemma=>
   have hd9:¬((i:Int)<y.now.length):=by omega
   have hin:i=y.now.length:=by omega
   have hout2:out=y.may:=by
    rw[HOUT.out];unfold TxS.may;exact List.take_of_length_le (by unfold orL;rw[List.length_zipWith];omega)
   have bR:=HBT.out.2.1.below hB hzM;obtain⟨vs,hvs⟩:∃vs:Array Value,vs=#[.int .i64 y.s,.int .i64 y.j,.int .i64 y.i,.slice A out.length c]:=⟨_,rfl⟩;have hst:=z0q (ty:=47) (vs:=vs) bR (by rw[hvs];rfl) (by rw[hvs];simp[Value.oneCell']) (by rw[hvs];kernel_rfl)
   have bR1:=bR.setRow (cs':=vs);have hfin:=Below.setRow (HBT.out.2.2.trans (hB.mono (show w.heap.size≤M by omega))) (show w.heap.size≤w.heap.size+1 by omega) vs
   have ho5:(wr.setRow (w.heap.size+1) vs).ownsRow w.heap.size 4 1 (.slice A out.length c) out.length (out.map .bool):=z0c (z0y HO.out (by omega)) fun q hq=>z0b _ _ _ _ (by have:=(HO.out.lt q hq).1;omega)
   have HF:=zhs (And.intro ho5 hfin);have cR1:=bR1.cells;have lR1:=bR1.lt;clear ho5 hfin HOUT bT cT16;have l1:=z3S (sv:=vs) (by rw[hvs];exact bM) (by rw[hvs];rfl)
   clear bM bR;go_wp2_with (first|(refine z02 (by rfl) _ _ rfl (.agg vs) (.pointer (some ⟨M,0,none⟩)) rfl l1 ?_)|(refine z01 rfl _ _ _ rfl _ _ rfl rfl hst ?_))
   rw[hvs]at bR1 HF;rw[hout2]at bR1 HF;clear hst l1 hvs;refine bodyPost_ret (z9h (cs:=#[.int .i64 y.s,.int .i64 y.j,.int .i64 y.i,.slice A y.may.length c]) rfl rfl bR1 underlying47 (by kernel_rfl)) rfl ?_
   exact⟨A,c,rfl,HF.out.1,HF.out.2⟩
theorem RTx.setBits {w:World}{P:Nat→Prop}{x:DevS}{y:TxS}{tv:Array Value}{A:Option Addr}{c:Nat}{us:List Bool}(h:RTx w P x y tv)(hR:Reads w A (us.map .bool))(hL:us=[]∨Lies P A)(hcap:us.length≤c):
  RTx w P x { y with now:=us,changed:=true } ((tv.toList.take 17++(#[.int .i64 y.s,.int .i64 y.j,.int .i64 y.i,.slice A us.length c]:Array Value).toList++tv.toList.drop (17+(#[.int .i64 y.s,.int .i64 y.j,.int .i64 y.i,.slice A us.length c]:Array Value).toList.length)).toArray.setIfInBounds 22 (.bool true)):=by
 obtain⟨p,rfl,h⟩:=h;exact⟨{ p with N:=A,nc:=c },rfl,h.dev,h.was,hR,h.run,h.lw,hL,h.ll,hcap,h.lc⟩
def TxS.chg (y:TxS)(us:List Bool)(n:Nat):Int × TxS:=if y.changeE n≠0 then (12,y.brk)else (0,y.change us n)
theorem z7r {w:World}{P:Nat→Prop}{x:DevS}{y:TxS}{tv:Array Value}(hq:RTx w P x y tv)(ok:y.Ok)(hc:y.Clean)(A:Option Addr)(c:Nat)(us:List Bool)(hR:Reads w A (us.map .bool))(hL:us=[]∨Lies P A)(hcap:us.length≤c)(n:Nat)(Bl:Option Addr)(cb:Nat):
  Calls prog 150 #[.agg tv,.agg #[.int .i64 y.s,.int .i64 y.j,.int .i64 y.i,.slice A us.length c],.slice Bl n cb] w (RTgot w P x (y.chg us n)):=by
 obtain⟨vs,hvs⟩:∃vs:Array Value,vs=#[.int .i64 y.s,.int .i64 y.j,.int .i64 y.i,.slice A us.length c]:=⟨_,rfl⟩;have hSB:RTx w P x { y with now:=us,changed:=true } ((tv.toList.take 17++vs.toList++tv.toList.drop (17+vs.toList.length)).toArray.setIfInBounds 22 (.bool true)):=by rw[hvs];exact hq.setBits hR hL hcap
 have hvz:vs.size=4:=by rw[hvs];rfl
 have hv1:vs.all (·.oneCell')=true:=by rw[hvs];simp[Value.oneCell']
 rw[←hvs];clear hvs hR hL hcap;obtain⟨w0,hw0⟩:∃w0,w0=((w.alloc (.cells tv 50)).alloc (.cells vs 47)).alloc (.cells txZ 50):=⟨_,rfl⟩;have bT:Blk w0 w.heap.size 50 tv:=by rw[hw0];exact((Blk.new _ _ _).alloc _).alloc _
 have bS:Blk w0 (w.heap.size+1) 47 vs:=by rw[hw0];exact(Blk.new' (by simp)).alloc _
 have bR:Blk w0 (w.heap.size+1+1) 50 txZ:=by rw[hw0];exact Blk.new' (by simp)
 have B0:Below w.heap.size w w0:=by rw[hw0];(repeat' (first|with_reducible (first|exact zho _ _|assumption|refine zhp ?_ ?_ _|refine zhq ?_|refine z00 ?_ _|refine zhr ?_ ?_ _|exact zhT _)|omega|(simp;done)|(simp;omega)))
 have hQ0:=hq.apt B0 w0.heap.size;have hSB0:=hSB.apt B0 w0.heap.size;have hsz:=hq.size;have hone:=hq.one;have zR:=zhs bR.lt;have c22:=(bT.cells 22).trans hq.flags.1;have lT:=bT.lt;have HCG:Hid (y.chg us n=if y.changeE n≠0 then (12,y.brk)else (0,y.change us n)):=zhs rfl
 have HCE:Hid (y.changeE n=if n=0 then 0 else if y.changed=false∧y.left<1 then 12 else 0):=zhs rfl
 have HCH:Hid (y.change us n=if n=0 then y else if y.changed=false∧y.left<1 then y else { y with now:=us,changed:=true }):=zhs rfl
 clear hq hSB;unfold txZ txR at hw0;go_enter func150,ntmps150
 go_upto_region 1 with fail
 rw[←hw0];clear hw0;by_cases hn:n=0
 ·as_aux_lemma=>
  have HH:Hid (y.chg us n=(0,y)):=zhs (by rw[HCG.out,HCE.out,HCH.out,if_pos hn,if_pos hn];rfl)
  have hn':((n:Int)==0)=true:=by rw[hn];rfl
  have l1:=z0n bT hsz;have hst:=z0v bR rfl hsz hone;have bR2:=bR.setRow (cs':=tv);have hfin:=RTgot.mk (R:=w.heap.size+1+1) 0 hQ0 B0 (by omega) zR.out
  clear HCG HCE HCH hn c22 lT hSB0;go_wp2_with (first|(refine z02 (by rfl) _ _ rfl (.agg tv) (.pointer (some ⟨w.heap.size,0,none⟩)) rfl l1 ?_)|(refine z01 rfl _ _ _ rfl _ _ rfl rfl hst ?_))
  refine bodyPost_ret (z08 (cs:=tv) rfl rfl rfl bR2 underlying50 (by rw[hsz];kernel_rfl)) rfl ?_
  rw[HH.out];exact hfin
 have hn':((n:Int)==0)=false:=by rw[beq_eq_false_iff_ne];omega
 go_upto_region 3 with fail
 by_cases hch:y.changed=false
 ·rw[hch]at c22;have hl:=z9P hQ0 ok hc;have l1:=z0n bT hsz;go_wp2_with (refine z02 (by rfl) _ _ rfl (.agg tv) (.pointer (some ⟨w.heap.size,0,none⟩)) rfl l1 ?_)
  refine hl.mono ?_;rintro e w1 ⟨rfl,hb1⟩;clear hl l1;by_cases hlt:y.left<1
  ·as_aux_lemma=>
   have HH:Hid (y.chg us n=(12,y.brk)):=zhs (by rw[HCG.out,HCE.out,if_neg hn,if_pos (show y.changed=false∧y.left<1 from ⟨hch,hlt⟩)];rfl)
   clear HCG HCE HCH hn hSB0;have bT1:=bT.belowAll hb1;have bR1:=bR.belowAll hb1;have B1:=B0.trans (hb1.mono B0.size);have hbr:=z2y (hQ0.below hb1) 12;have l1:=z0n bT1 hsz;clear bT bR B0 hQ0 c22 lT;go_wp2_with (refine z02 (by rfl) _ _ rfl (.agg tv) (.pointer (some ⟨w.heap.size,0,none⟩)) rfl l1 ?_)
   refine hbr.mono ?_;rintro e w9 ⟨tv9,rfl,hq9,hb9⟩;have hsz9:=hq9.size;have hst:=z0v (bR1.belowAll hb9) rfl hsz9 hq9.one;have bR9:=(bR1.belowAll hb9).setRow (cs':=tv9);have hfin:=RTgot.mk (R:=w.heap.size+1+1) 12 hq9 (B1.trans (hb9.mono B1.size)) (by omega) zR.out
   clear hbr l1;go_wp2_with (refine z01 rfl _ _ _ rfl _ _ rfl rfl hst ?_)
   refine bodyPost_ret (z08 (cs:=tv9) rfl rfl rfl bR9 underlying50 (by rw[hsz9];kernel_rfl)) rfl ?_
   rw[HH.out];exact hfin
  have hno:¬(y.changed=false∧y.left<1):=fun h=>hlt h.2
  as_aux_lemma=>
  have HH:Hid (y.chg us n=(0,{ y with now:=us,changed:=true })):=zhs (by rw[HCG.out,HCE.out,HCH.out,if_neg hn,if_neg hn,if_neg hno,if_neg hno];rfl)
  clear HCG HCE HCH hn hno hQ0;have bT1:=bT.belowAll hb1;have bS1:=bS.belowAll hb1;have bR1:=bR.belowAll hb1;have B1:=B0.trans (hb1.mono B0.size);have hS1:=hSB0.below hb1;clear bT bS bR B0 hSB0 c22 lT;have l2:=z3S bS1 hvz;have hst1:=z2b (ty:=47) (o:=17) (vs:=vs) bT1 (by rw[hsz,hvz];decide) hv1 (by rw[hvz];kernel_rfl)
  have hT:w.heap.size<w0.heap.size:=by have:=zR.out;omega
  have hQ2:=hS1.row (g:=w.heap.size) (Apt_.ne (zhT _) hT) (tv.toList.take 17++vs.toList++tv.toList.drop (17+vs.toList.length)).toArray;have bT2:=bT1.setRow (cs':=(tv.toList.take 17++vs.toList++tv.toList.drop (17+vs.toList.length)).toArray);have bR2:=bR1.rowFar (cs':=(tv.toList.take 17++vs.toList++tv.toList.drop (17+vs.toList.length)).toArray) (show w.heap.size+1+1≠w.heap.size by omega)
  have B2:=Below.setRow B1 (zhT _) (tv.toList.take 17++vs.toList++tv.toList.drop (17+vs.toList.length)).toArray;have hs17:=hS1.size;obtain⟨t17,ht17⟩:∃t17:Array Value,t17=(tv.toList.take 17++vs.toList++tv.toList.drop (17+vs.toList.length)).toArray:=⟨_,rfl⟩;rw[←ht17]at hst1 hQ2 bT2 bR2 B2 hs17;clear ht17 hS1 bT1 bR1 B1;have hs17':t17.size=25:=by simpa using hs17
  have c22:=(bT2.cells 22).trans (Array.getElem?_eq_getElem (by omega))
  have lT2:=bT2.lt;have fT2:=bT2.free;have bT3:=bT2.set_ 22 (.bool true);have bR3:=bR2.far (p:=⟨w.heap.size,22,none⟩) (show w.heap.size+1+1≠w.heap.size by omega) (.bool true)
  have B3:=zhr B2 (p:=⟨w.heap.size,22,none⟩) (zhT w.heap.size) (.bool true);have hQ3:=hQ2.cell (q:=⟨w.heap.size,22,none⟩) (Apt_.ne (zhT _) hT) (.bool true);clear hQ2 B2;generalize t17[22]=u17 at *;go_upto_region 5 with fail
  go_upto_region 6 with (first|(refine z02 (by rfl) _ _ rfl (.agg vs) (.pointer (some ⟨w.heap.size+1,0,none⟩)) rfl l2 ?_)|(refine z01 rfl _ _ _ rfl _ _ rfl rfl hst1 ?_))
  clear c22 lT2 fT2 bT2 bR2 l2 hst1;generalize (w1.setRow w.heap.size t17).setCell ⟨w.heap.size,22,none⟩ (.bool true)=W3 at *;generalize t17.setIfInBounds 22 (.bool true)=tv3 at *;have hsz3:=hQ3.size;have l3:=z0n bT3 hsz3;have hst:=z0v bR3 rfl hsz3 hQ3.one;have bR4:=bR3.setRow (cs':=tv3);have hfin:=RTgot.mk (R:=w.heap.size+1+1) 0 hQ3 B3 (by omega) zR.out
  go_wp2_with (first|(refine z02 (by rfl) _ _ rfl (.agg tv3) (.pointer (some ⟨w.heap.size,0,none⟩)) rfl l3 ?_)|(refine z01 rfl _ _ _ rfl _ _ rfl rfl hst ?_))
  refine bodyPost_ret (z08 (cs:=tv3) rfl rfl rfl bR4 underlying50 (by rw[hsz3];kernel_rfl)) rfl ?_
  rw[HH.out];exact hfin
 ·have hch':y.changed=true:=by cases h:y.changed with
   | true=>rfl
   | false=>exact absurd h hch
  rw[hch']at c22;have hno:¬(y.changed=false∧y.left<1):=fun h=>hch h.1
  obtain⟨w1,hw1⟩:∃w1,w1=w0:=⟨_,rfl⟩;have hb1:Below w0.heap.size w0 w1:=by rw[hw1];exact zho _ _
  clear hch;go_upto_region 5 with fail
  rw[←hw1];clear hw1;as_aux_lemma=>
  have HH:Hid (y.chg us n=(0,{ y with now:=us,changed:=true })):=zhs (by rw[HCG.out,HCE.out,HCH.out,if_neg hn,if_neg hn,if_neg hno,if_neg hno];rfl)
  clear HCG HCE HCH hn hno hQ0;have bT1:=bT.belowAll hb1;have bS1:=bS.belowAll hb1;have bR1:=bR.belowAll hb1;have B1:=B0.trans (hb1.mono B0.size);have hS1:=hSB0.below hb1;clear bT bS bR B0 hSB0 c22 lT;have l2:=z3S bS1 hvz;have hst1:=z2b (ty:=47) (o:=17) (vs:=vs) bT1 (by rw[hsz,hvz];decide) hv1 (by rw[hvz];kernel_rfl)
  have hT:w.heap.size<w0.heap.size:=by have:=zR.out;omega
  have hQ2:=hS1.row (g:=w.heap.size) (Apt_.ne (zhT _) hT) (tv.toList.take 17++vs.toList++tv.toList.drop (17+vs.toList.length)).toArray;have bT2:=bT1.setRow (cs':=(tv.toList.take 17++vs.toList++tv.toList.drop (17+vs.toList.length)).toArray);have bR2:=bR1.rowFar (cs':=(tv.toList.take 17++vs.toList++tv.toList.drop (17+vs.toList.length)).toArray) (show w.heap.size+1+1≠w.heap.size by omega)
  have B2:=Below.setRow B1 (zhT _) (tv.toList.take 17++vs.toList++tv.toList.drop (17+vs.toList.length)).toArray;have hs17:=hS1.size;obtain⟨t17,ht17⟩:∃t17:Array Value,t17=(tv.toList.take 17++vs.toList++tv.toList.drop (17+vs.toList.length)).toArray:=⟨_,rfl⟩;rw[←ht17]at hst1 hQ2 bT2 bR2 B2 hs17;clear ht17 hS1 bT1 bR1 B1;have hs17':t17.size=25:=by simpa using hs17
  have c22:=(bT2.cells 22).trans (Array.getElem?_eq_getElem (by omega))
  have lT2:=bT2.lt;have fT2:=bT2.free;have bT3:=bT2.set_ 22 (.bool true);have bR3:=bR2.far (p:=⟨w.heap.size,22,none⟩) (show w.heap.size+1+1≠w.heap.size by omega) (.bool true)
  have B3:=zhr B2 (p:=⟨w.heap.size,22,none⟩) (zhT w.heap.size) (.bool true);have hQ3:=hQ2.cell (q:=⟨w.heap.size,22,none⟩) (Apt_.ne (zhT _) hT) (.bool true);clear hQ2 B2;generalize t17[22]=u17 at *;go_upto_region 6 with (first|(refine z02 (by rfl) _ _ rfl (.agg vs) (.pointer (some ⟨w.heap.size+1,0,none⟩)) rfl l2 ?_)|(refine z01 rfl _ _ _ rfl _ _ rfl rfl hst1 ?_))
  clear c22 lT2 fT2 bT2 bR2 l2 hst1;generalize (w1.setRow w.heap.size t17).setCell ⟨w.heap.size,22,none⟩ (.bool true)=W3 at *;generalize t17.setIfInBounds 22 (.bool true)=tv3 at *;have hsz3:=hQ3.size;have l3:=z0n bT3 hsz3;have hst:=z0v bR3 rfl hsz3 hQ3.one;have bR4:=bR3.setRow (cs':=tv3);have hfin:=RTgot.mk (R:=w.heap.size+1+1) 0 hQ3 B3 (by omega) zR.out
  go_wp2_with (first|(refine z02 (by rfl) _ _ rfl (.agg tv3) (.pointer (some ⟨w.heap.size,0,none⟩)) rfl l3 ?_)|(refine z01 rfl _ _ _ rfl _ _ rfl rfl hst ?_))
  refine bodyPost_ret (z08 (cs:=tv3) rfl rfl rfl bR4 underlying50 (by rw[hsz3];kernel_rfl)) rfl ?_
  rw[HH.out];exact hfin
theorem z7D {l:List Int}{p:Nat}{x:Int}(hp:p<l.length)(h:x∉l.take p)(hne:l[p]≠x):x∉l.take (p+1):=by
 rw[zhE hp];simp only[zi0,zi4,not_or];exact⟨h,fun e=>hne e.symm⟩
theorem z9l {l:List Int}{p k:Nat}(hp:p<k)(hk:k≤l.length):l[p]'(by omega)∈l.take k:=
 List.mem_iff_getElem.2 ⟨p,by rw[zi6];omega,by simp⟩
theorem z5i (n lo hi:Int)(w:World)(m:Nat):
  Calls prog 178 #[.int .i64 n,.int .i64 lo,.int .i64 hi] (w.drewN m) fun e w''=>e=.returned (.bool (!outB n lo hi))∧∃q,w''=w.drewN q:=
 (z1D n lo hi (w.drewN m)).mono fun e w' ⟨he,hw⟩=>⟨he,m,hw.symm⟩
theorem zc6 (s j i:Int)(A Bl:Option Addr)(c cb:Nat)(us:List Bool)(l:List Int)(hus:us.length≤1000)(hl:l.length≤1000)(w:World)(hB:Reads w Bl (l.map (.int .i64))):
  Calls prog 239 #[.agg #[.int .i64 s,.int .i64 j,.int .i64 i,.slice A us.length c],.slice Bl l.length cb] w fun e w'=>e=.returned (.int .i64 (LsE us.length l l.length))∧Below w.heap.size w w':=by
 have hwr:IntKind.i64.wrap ((us.length:Int) - 1)=(us.length:Int) - 1:=by rw[IntKind.wrap_i64];omega
 go_enter func239,ntmps239
 go_wp2_with fail
 obtain⟨W1,hW1⟩:∃W1,W1=w.alloc (.cells #[.int .i64 s,.int .i64 j,.int .i64 i,.slice A us.length c] 47):=⟨_,rfl⟩;rw[←hW1];have bS1:Blk W1 w.heap.size 47 #[.int .i64 s,.int .i64 j,.int .i64 i,.slice A us.length c]:=by rw[hW1];exact Blk.new _ _ _
 have hB1:Below w.heap.size w W1:=by rw[hW1];exact(zho _ _).alloc (zhT _) _
 have lS:=bS1.lt;clear hW1;go_loopw [5,6] (fun q _ wr=>∃k:Nat,k≤l.length∧q=.int .i64 k∧LsE us.length l k=0∧Below W1.heap.size W1 wr) (fun q _ _=>l.length - (RowKit.intOf q).toNat)
 case atStart=>exact⟨0,zi9 _,rfl,rfl,zho _ _⟩
 case round=>
  obtain⟨k,hk,rfl,hno,hnx⟩:=hrel;have bS2:=bS1.below hnx lS;have cS:=bS2.cells;have B2:Below w.heap.size w wr:=hB1.trans (hnx.mono (by omega))
  have hBw:=hB.below B2;by_cases hlt:k<l.length
  ·obtain⟨b,off,hBA,hb,hc⟩:=hBw.at_ (k:=k) (by simpa using hlt)
   have hcs:∀q (h:q<l.length),wr.cell? ⟨b,off+q,none⟩=some (.int .i64 l[q]):=by
    intro q h;obtain⟨b',off',hA',_,hc'⟩:=hBw.at_ (k:=q) (by simpa using h)
    rw[hBA]at hA';simp only[Option.some.injEq,Addr.mk.injEq,and_true]at hA';obtain⟨rfl,rfl⟩:=hA';rw[hc',List.getElem_map]
   have HCS:=zhs hcs;clear hcs;rw[List.getElem_map]at hc;have hst:=z5B hno;have hgd:l.getD k 0=l[k]:=by simp[zhw,hlt]
   unfold za0 at hst;rw[hgd]at hst;clear hgd;by_cases ho:l[k]<0∨(us.length:Int) - 1<l[k]
   ·rw[if_pos ho]at hst;have hT:LsE us.length l l.length=7:=by rw[z4k (m:=l.length) (by rw[hst];decide) (by omega),hst]
    have HT:=zhs hT;have hO:=z2g ho;clear hst hT;generalize l[k]=x at hc ho hO;subst hBA;go_wp2_with fail
    go_quiet (exact z5i _ _ _ _ _)
    go_wp2
    go_ret
    exact⟨by rw[HT.out];rfl,by (repeat' (first|with_reducible (first|exact zho _ _|assumption|refine zhp ?_ ?_ _|refine zhq ?_|refine z00 ?_ _|refine zhr ?_ ?_ _|exact zhT _)|omega|(simp;done)|(simp;omega)))⟩
   ·rw[if_neg ho]at hst;have hO:=z2e ho;have HST:=zhs hst;clear hst ho;have hxx:∃x,l[k]=x:=⟨_,rfl⟩;obtain⟨x,hx⟩:=hxx;rw[hx]at hc hO;have HX:=zhs hx;clear hx;subst hBA;go_wp2_with fail
    go_quiet (exact z5i _ _ _ _ _)
    go_wp2_with fail
    obtain⟨W3,hW3⟩:∃W3,W3=wr.drewN nq:=⟨_,rfl⟩;rw[←hW3];have HC3:Hid (∀q (h:q<l.length),W3.cell? ⟨b,off+q,none⟩=some (.int .i64 l[q])):=by rw[hW3];exact HCS
    have hc3:W3.cell? ⟨b,off+k,none⟩=some (.int .i64 x):=by rw[hW3];exact hc
    have hb3:b<W3.heap.size:=by rw[hW3];exact hb
    have hnx3:Below W1.heap.size W1 W3:=by rw[hW3];exact z00 hnx _
    clear hW3 hc hb HCS bS2 cS B2 hBw;go_loopw [6] (fun q wr=>∃p:Nat,p≤k∧q=.int .i64 p∧x∉l.take p∧Below W3.heap.size W3 wr) (fun q _=>k - (RowKit.intOf q).toNat)
    case atStart=>exact⟨0,zi9 _,rfl,by simp,zho _ _⟩
    case round=>
     obtain⟨p,hp,rfl,hnm,hny⟩:=hrel;by_cases hpk:p<k
     ·have hcp:=(hny.cell (p:=⟨b,off+p,none⟩) hb3).trans (HC3.out p (by omega))
      have hck:=(hny.cell (p:=⟨b,off+k,none⟩) hb3).trans hc3;by_cases hyx:l[p]'(by omega)=x
      ·have hT:LsE us.length l l.length=8:=by
        have h8:LsE us.length l (k+1)=8:=by
         rw[HST.out,HX.out,if_pos];rw[←hyx];exact z9l hpk (by omega)
        rw[z4k (m:=l.length) (by rw[h8];decide) (by omega),h8]
       rw[hyx]at hcp;have HT:=zhs hT;clear hT hyx;go_wp2_with fail
       go_quiet (fail)
       go_wp2
       go_ret
       exact⟨by rw[HT.out];rfl,by have:=hnx3.size;exact z00 (hB1.trans ((hnx3.mono (by omega)).trans (hny.mono (by omega)))) _⟩
      ·have hd:(l[p]'(by omega)==x)=false:=by simpa using hyx
       have HM:=zhs (z7D (by omega) hnm hyx)
       clear hyx hnm;generalize l[p]'(by omega)=y at hcp hd
       go_wp2_with fail
       go_quiet (fail)
       go_wp2
       go_roundw
       case rel=>exact⟨p+1,by omega,by go_num,HM.out,z00 hny _⟩
       case measure=>simp[RowKit.intOf];omega
     ·obtain rfl:p=k:=by omega
      have HM:=zhs hnm;clear hnm;go_wp2_with fail
      go_roundw
      case rel=>exact⟨p+1,by omega,by go_num,by rw[HST.out,HX.out,if_neg HM.out],hnx3.trans (hny.mono hnx3.size)⟩
      case measure=>simp[RowKit.intOf];omega
  ·obtain rfl:k=l.length:=by omega
   have HN:=zhs hno;clear hno;go_wp2_with fail
   go_ret
   exact⟨by rw[HN.out];rfl,B2⟩
def TnGo (s j i:Int)(us:List Bool)(l:List Int)(u:Bool)(al:Int)(k:Nat)(E:Int):Prop:=
 (E≠0∧TnE s j i us l u al=E)∨(E=0∧CkE s j i us.length=0∧LsE us.length l l.length=0∧z2l us (l.take k) u=false)
theorem zen (s j i:Int)(A Bl:Option Addr)(c cb:Nat)(us:List Bool)(l:List Int)(E:Int)(hE:LsE us.length l l.length=E)(hus:us.length≤1000)(hl:l.length≤1000)(w:World)(hB:Reads w Bl (l.map (.int .i64))):
  Calls prog 239 #[.agg #[.int .i64 s,.int .i64 j,.int .i64 i,.slice A us.length c],.slice Bl l.length cb] w fun e w'=>e=.returned (.int .i64 E)∧Below w.heap.size w w':=by
 subst hE;exact zc6 s j i A Bl c cb us l hus hl w hB
theorem z8L (s j i:Int)(A Bl:Option Addr)(c cb:Nat)(us:List Bool)(l:List Int)(u:Bool)(al:Int)(hal:al≠0)(hus:us.length≤1000)(hl:l.length≤1000)(w:World)(hR:Reads w A (us.map .bool))(hB:Reads w Bl (l.map (.int .i64))):
  Calls prog 208 #[.agg #[.int .i64 s,.int .i64 j,.int .i64 i,.slice A us.length c],.slice Bl l.length cb,.bool u,.int .i64 al] w (TnPost s j i A c us l u al w):=by
 have hml:us.length≤maxLen:=by unfold maxLen;omega
 have HAL:=zhs hal;clear hal;by_cases hE:CkE s j i us.length=0
 rotate_left;focus
  have hE':(CkE s j i us.length==0)=false:=by simpa using hE
  have ST:Hid (TnGo s j i us l u al 0 (CkE s j i us.length)):=zhs (.inl ⟨hE,by unfold TnE;rw[if_neg hE]⟩)
  clear hE;go_enter func208,ntmps208
  go_wp2_with fail
  refine(z1x s j i A us.length c _ hml).mono ?_;rintro e w9 ⟨rfl,hb9⟩;have bS:Blk w9 w.heap.size 47 #[.int .i64 s,.int .i64 j,.int .i64 i,.slice A us.length c]:=Blk.belowAll (by (repeat' (first|(with_reducible assumption)|exact Blk.new' (by simp)|refine Blk.alloc ?_ _))) hb9
  have bR:Blk w9 (w.heap.size+1) 47 #[.int .i64 0,.int .i64 0,.int .i64 0,.slice none 0 0]:=Blk.belowAll (by (repeat' (first|(with_reducible assumption)|exact Blk.new' (by simp)|refine Blk.alloc ?_ _))) hb9
  have B9:Below w.heap.size w w9:=z1W hb9;clear hb9;go_wp2_with fail
 rotate_left;focus
  have hE':(CkE s j i us.length==0)=true:=by simpa using hE
  have hLL:∃E,LsE us.length l l.length=E:=⟨_,rfl⟩;obtain⟨E,hLE⟩:=hLL;have ST:Hid (TnGo s j i us l u al 0 E):=zhs (by
   by_cases h0:E=0
   ·exact .inr ⟨h0,hE,by rw[hLE];exact h0,rfl⟩
   ·exact .inl ⟨h0,by unfold TnE;rw[if_pos hE,if_neg (by rw[hLE];exact h0),hLE]⟩)
  have HLE:=zhs hLE;clear hE hLE;go_enter func208,ntmps208
  go_wp2_with fail
  refine(z1x s j i A us.length c _ hml).mono ?_;rintro e w1 ⟨rfl,hb1⟩;have bS1:Blk w1 w.heap.size 47 #[.int .i64 s,.int .i64 j,.int .i64 i,.slice A us.length c]:=Blk.belowAll (by (repeat' (first|(with_reducible assumption)|exact Blk.new' (by simp)|refine Blk.alloc ?_ _))) hb1
  have bR1:Blk w1 (w.heap.size+1) 47 #[.int .i64 0,.int .i64 0,.int .i64 0,.slice none 0 0]:=Blk.belowAll (by (repeat' (first|(with_reducible assumption)|exact Blk.new' (by simp)|refine Blk.alloc ?_ _))) hb1
  have B1:Below w.heap.size w w1:=z1W hb1;clear hb1;have cS:=bS1.cells;have lS:=bS1.lt;go_wp2_with fail
  refine(zen s j i A Bl c cb us l E HLE.out hus hl _ (hB.below B1)).mono ?_;rintro e w9 ⟨rfl,hb9⟩;have bS:=bS1.belowAll hb9;have bR:=bR1.belowAll hb9;have B9:Below w.heap.size w w9:=B1.trans (hb9.mono B1.size);clear hb9 bS1 bR1 B1 cS lS;go_wp2_with fail
 all_goals
  have lS:=bS.lt;have lR:=bR.lt;go_loopw [10,11] (fun v q wr=>∃(k:Nat) (E:Int),k≤l.length∧v=.int .i64 E∧q=.int .i64 k∧TnGo s j i us l u al k E∧Below w9.heap.size w9 wr) (fun _ q _=>l.length - (RowKit.intOf q).toNat)
  case atStart=>exact⟨0,_,zi9 _,rfl,rfl,ST.out,zho _ _⟩
  case round=>
   obtain⟨k,E,hk,rfl,rfl,hD,hnx⟩:=hrel;have bS2:=bS.belowAll hnx;have bR2:=bR.belowAll hnx;have cS:=bS2.cells;have cR:=bR2.cells;have fR:=bR2.free;have lR2:=bR2.lt;have B2:Below w.heap.size w wr:=B9.trans (hnx.mono B9.size);have hRw:=hR.below B2;have hBw:=hB.below B2;rcases hD with ⟨hE0,hT⟩|⟨rfl,hC,hL,hno⟩
   ·have hEE:(E==0)=false:=by simpa using hE0
    have hEE':(E != 0)=true:=by simpa using hE0
    have HT:=zhs hT;have HE0:=zhs hE0;clear hT hE0 hBw hRw;by_cases hlt:k<l.length
    all_goals
     go_wp2_with fail
     refine bodyPost_ret (v:=.tuple #[.agg #[.int .i64 s,.int .i64 j,.int .i64 i,.slice A us.length c],.int .i64 E]) (by simp[results,results208,go_sem,cR,lR2]) rfl ?_
     exact TnPost.bad HE0.out HT.out (by (repeat' (first|with_reducible (first|exact zho _ _|assumption|refine zhp ?_ ?_ _|refine zhq ?_|refine z00 ?_ _|refine zhr ?_ ?_ _|exact zhT _)|omega|(simp;done)|(simp;omega))))
   ·have hpos:=(z6l hC).2.2;have hin:=zdr hL;have hT:TnE s j i us l u al=if z2l us l u=true then al else 0:=by
     unfold TnE;rw[if_pos hC,if_pos hL]
    have HT:=zhs hT;have HC:=zhs hC;have HL:=zhs hL;have HIN:=zhs hin;clear hT hC hL hin;by_cases hlt:k<l.length
    ·have hx:=HIN.out l[k] (zhQ hlt);have hst:z2l us (l.take (k+1)) u=(us.getD l[k].toNat false==u):=by
      rw[zhE hlt];unfold z2l at hno ⊢;rw[List.any_append,hno];simp
     have hall:(us.getD l[k].toNat false==u)=true→z2l us l u=true:=fun h=>by
      unfold z2l;exact List.any_eq_true.2 ⟨l[k],zhQ hlt,h⟩
     have HST:=zhs hst;have HALL:=zhs hall;clear hst hall hno;obtain⟨b,off,hBA,hb,hc⟩:=hBw.at_ (k:=k) (by simpa using hlt)
     rw[List.getElem_map]at hc;generalize l[k]=x at hc hx HST HALL;obtain⟨xn,rfl⟩:=Int.eq_ofNat_of_zero_le hx.1;simp only[zhU]at HST HALL;have hxn:xn<us.length:=by omega
     obtain⟨b2,off2,hA,hb2,hc2⟩:=hRw.at_ (k:=xn) (by simpa using hxn)
     rw[List.getElem_map]at hc2;have hg:us.getD xn false=us[xn]:=by simp[zhw,hxn]
     rw[hg]at HST HALL;clear hg;generalize us[xn]=y at hc2 HST HALL;subst hBA hA;cases hu:(y==u)
     ·go_wp2_with fail
      go_quiet (fail)
      go_wp2
      go_roundw
      case rel=>exact⟨k+1,0,by omega,rfl,by go_num,.inr ⟨rfl,HC.out,HL.out,by rw[HST.out];exact hu⟩,z00 hnx _⟩
      case measure=>simp[RowKit.intOf];omega
     ·have HT2:Hid (TnE s j i us l u al=al):=zhs (by rw[HT.out,HALL.out hu];rfl)
      clear HST HALL HT;go_wp2_with fail
      go_quiet (fail)
      go_wp2
      go_roundw
      case rel=>exact⟨k+1,al,by omega,rfl,by go_num,.inl ⟨HAL.out,HT2.out⟩,z00 hnx _⟩
      case measure=>simp[RowKit.intOf];omega
    ·obtain rfl:k=l.length:=by omega
     rw[zia]at hno;have HT2:Hid (TnE s j i us l u al=0):=zhs (by rw[HT.out,hno];rfl)
     clear HT hno;go_wp2_with fail
     refine(z81 s j i A Bl c cb us l u _ hRw (by omega) hus hBw hl HIN.out).mono ?_
     rintro e w6 ⟨g,cap,rfl,hown6,hb6⟩;have bR6:=bR2.belowAll hb6;have B6:=B2.trans (hb6.mono B2.size);have hz5:=B2.size;have hz6:=hnx.size;clear cR fR;have cR:=bR6.cells;have fR:=bR6.free;have lR6:=bR6.lt;go_wp2_with fail
     refine bodyPost_ret (v:=.tuple #[.agg #[.int .i64 s,.int .i64 j,.int .i64 i,.slice (some ⟨g,0,none⟩) us.length cap],.int .i64 0]) (by simp[results,results208,go_sem,cR,lR6]) rfl ?_
     refine⟨by (repeat' (first|with_reducible (first|exact zho _ _|assumption|refine zhp ?_ ?_ _|refine zhq ?_|refine z00 ?_ _|refine zhr ?_ ?_ _|exact zhT _)|omega|(simp;done)|(simp;omega))),.inr ⟨HT2.out,g,cap,rfl,z0D (base:=w.heap.size+2) ?_ (by omega)⟩⟩
     exact ownsRow_setCell_below (ownsRow_setCell_below (ownsRow_setCell_below (ownsRow_setCell_below (z0D hown6 (by omega)) (by simp) _) (by simp) _) (by simp) _) (by simp) _
end Go.Proofs.YtejmknghkbobnaaGreatDoor
