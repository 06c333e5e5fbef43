import Derived.Test.YtejmknghkbobnaaGreatDoorPart06
set_option linter.all false
set_option maxRecDepth 100000
set_option maxHeartbeats 0
namespace Go.Proofs.YtejmknghkbobnaaGreatDoor
open Go.Proofs.Tryz
open Go.RowKit Go.Maps
theorem Tryz.pY:(prog.info? 128).map (fun i=>(i.zero,i.size,i.bytes))=some (some (.agg (fill (.int .u8 0) 128)),128,128):=by kernel_rfl
theorem aS {P:Program}{A:Array Oper}{rest:List Oper}{o:Oper}{a:Act}{w w':World}{Q:Exit->Act->World->Prop}(D:o.guard=none)(s x:Operand)(t:TypeId)(J:o.op=.call { callee:=.builtin .append,args:=#[s,x],argTypes:=#[t,t] })(p q v:Value)(K:a.eval s=p)(M:a.eval x=q)
  (c:(Builtin.append_ #[t,t] o.type #[p,q]).run P w=.ok v w') (h:wpList P A Q rest (a.put o.dst v) w'):wpList P A Q (o::rest) a w:=by
 refine wpList_plain D fun _ I=>?_
 unfold Oper.wp execOp;simp only[J,resolve,invoke,builtin,Sem.run_bind,Sem.run_pure,Result.andThen_ok,List.map_toArray,kR,kS,K,M,c];exact I _ _ h
theorem z8l (A:Option Addr)(n c:Nat)(xs:List Value)(hx:xs.length=n*128)(hn:n<=1000)(w:World)(hR:Reads w A xs)(hA:A=none->n=0)(h1:∀u∈xs,u.oneCell'=true):
  Calls prog 55 #[.slice A n c] w fun e w'=>∃v,e=.returned v/\w'.ownsRow w.heap.size 128 128 v n xs/\Zr w w':=by
 obtain⟨i,z,U,S,an,Y,ao⟩:∃i z,prog.info? 128=some i/\i.zero=some z/\i.size=128/\i.bytes=128/\z.cells.size=128:=by
  have D:((prog.info? 128).bind fun i=>i.zero.map fun z=>(i.size,i.bytes,z.cells.size))=some (128,128,128):=by kernel_rfl
  cases U:prog.info? 128 with
  | none=>rw[U]at D;cases D
  | some i=>
   rw[U]at D;cases S:i.zero with
   | none=>rw[Option.bind_some,S]at D;cases D
   | some z=>
    rw[Option.bind_some,S]at D;simp only[Option.map_some,lx,Prod.mk.injEq]at D;exact⟨i,z,rfl,S,D.1,D.2.1,D.2.2⟩
 have aL:=fun (w:World)=>Lib.run_eql_slice_nil (P:=prog) w 31 128 A n c 0 0 underlying31
 rcases A with _|ad
 ·have ac:=hA rfl;subst ac;obtain rfl:xs=[]:=md (by omega)
  go_enter func55,ntmps55
  go_wp2_with fail
  go_ret
  exact⟨_,rfl,World.ownsRow_nil _ _ _ _,kF _ _⟩
 ·obtain⟨V,M⟩:=zex (w.alloc (.cells #[] 128));have J:V.ownsRow w.heap.size 128 128 (.slice (some ⟨w.heap.size,0,none⟩) 0 0) 0 []:=by rw[M];exact World.ownsRow_made w #[] 0 (kE _) (by simp) rfl
  have T:Zr w V:=by rw[M];exact(kF _ _).alloc (kE _) _
  have I:∀j u,xs[j]?=some u->V.cell? (ad.add j)=some u:=fun j u hu=>by
   rcases hR.below T with h|⟨b,off,hb,a1,hc⟩
   ·subst h;simp at hu
   ·cases hb;rw[ep];exact hc j u hu
  obtain⟨v1,w1,O,K,ab,-,av⟩:=run_append_own_at (P:=prog) V w.heap.size 31 31 128 i z 128 128 underlying31 U S an Y ao (by omega) _ _ _ J ad n c xs hx I h1 (by simp only[maxLen];omega) (by omega) T.size
  go_enter func55,ntmps55
  go_wp2_with (refine aS rfl _ _ _ rfl (.slice (some ⟨w.heap.size,0,none⟩) 0 0) (.slice (some ad) n c) v1 rfl rfl (by rw[<-M];exact O) ?_)
  go_ret
  exact⟨v1,rfl,by simpa using K,T.grown ab T.size (fun k hk=>by simp[Value.ownBlock]at hk;omega)⟩
theorem z8k (A:Option Addr)(n c:Nat)(xs:List Value)(hx:xs.length=n*129)(hn:n<=1000)(w:World)(hR:Reads w A xs)(hA:A=none->n=0)(h1:∀u∈xs,u.oneCell'=true):
  Calls prog 56 #[.slice A n c] w fun e w'=>∃v,e=.returned v/\w'.ownsRow w.heap.size 130 129 v n xs/\Zr w w':=by
 obtain⟨i,z,U,S,an,Y,ao⟩:∃i z,prog.info? 130=some i/\i.zero=some z/\i.size=129/\i.bytes=136/\z.cells.size=129:=by
  have D:((prog.info? 130).bind fun i=>i.zero.map fun z=>(i.size,i.bytes,z.cells.size))=some (129,136,129):=by kernel_rfl
  cases U:prog.info? 130 with
  | none=>rw[U]at D;cases D
  | some i=>
   rw[U]at D;cases S:i.zero with
   | none=>rw[Option.bind_some,S]at D;cases D
   | some z=>
    rw[Option.bind_some,S]at D;simp only[Option.map_some,lx,Prod.mk.injEq]at D;exact⟨i,z,rfl,S,D.1,D.2.1,D.2.2⟩
 have aL:=fun (w:World)=>Lib.run_eql_slice_nil (P:=prog) w 32 130 A n c 0 0 underlying32
 rcases A with _|ad
 ·have ac:=hA rfl;subst ac;obtain rfl:xs=[]:=md (by omega)
  go_enter func56,ntmps56
  go_wp2_with fail
  go_ret
  exact⟨_,rfl,World.ownsRow_nil _ _ _ _,kF _ _⟩
 ·obtain⟨V,M⟩:=zex (w.alloc (.cells #[] 130));have J:V.ownsRow w.heap.size 130 129 (.slice (some ⟨w.heap.size,0,none⟩) 0 0) 0 []:=by rw[M];exact World.ownsRow_made w #[] 0 (kE _) (by simp) rfl
  have T:Zr w V:=by rw[M];exact(kF _ _).alloc (kE _) _
  have I:∀j u,xs[j]?=some u->V.cell? (ad.add j)=some u:=fun j u hu=>by
   rcases hR.below T with h|⟨b,off,hb,a1,hc⟩
   ·subst h;simp at hu
   ·cases hb;rw[ep];exact hc j u hu
  obtain⟨v1,w1,O,K,ab,-,av⟩:=run_append_own_at (P:=prog) V w.heap.size 32 32 130 i z 129 136 underlying32 U S an Y ao (by omega) _ _ _ J ad n c xs hx I h1 (by simp only[maxLen];omega) (by omega) T.size
  go_enter func56,ntmps56
  go_wp2_with (refine aS rfl _ _ _ rfl (.slice (some ⟨w.heap.size,0,none⟩) 0 0) (.slice (some ad) n c) v1 rfl rfl (by rw[<-M];exact O) ?_)
  go_ret
  exact⟨v1,rfl,by simpa using K,T.grown ab T.size (fun k hk=>by simp[Value.ownBlock]at hk;omega)⟩
theorem aT {W:World}{g:Nat}{t ty:TypeId}{cur:Array Value}{vs:Array Value}(b:Blk W g t cur)(I:cur.size=vs.size)(A:vs.all (·.oneCell')=true)(c:(sizeOf ty).run prog W=.ok vs.size W):
  (Instr.storeAt ty (.pointer (some ⟨g,0,none⟩)) (.agg vs)).run prog W=.ok () (W.setRow g vs):=by
 have h:=dE (P:=prog) (w:=W) (ty:=ty) (t:=t) (g:=g) (o:=0) (cur:=cur) (vs:=vs.toList) b (by simp;omega) (fun v D=>by
  have:=Array.all_eq_true'.1 A v (by simpa using D)
  exact this) (by simpa using c)
 have e:(cur.toList.take 0++vs.toList++cur.toList.drop (0+vs.toList.length)).toArray=vs:=by
  rw[mm,mo,List.drop_of_length_le (by simp;omega),mp]
 rw[e]at h;simpa using h
def ap (sv cv:Value)(tk pw:Int)(off:Bool):Array Value:=#[sv,cv,.int .i64 tk,.int .i64 pw,.bool off]
theorem zaK (D S c M:Nat)(cv:Value)(x:DevS)(ok:x.Ok)(w:World)(m:DevMem w D S c M cv x):
  Calls prog 12 #[.pointer (some ⟨D,0,none⟩)] w fun e w'=>∃sv ab,e=.returned (.agg (ap sv ab x.taken x.power x.off))/\w'.ownsRow w.heap.size 128 128 sv x.stable.length (x.stable.flatMap bd)/\w'.ownsRow w.heap.size 130 129 ab x.cache.length (x.cache.flatMap dwV)/\Zr w w':=by
 obtain⟨A,cc,g,b3,hA⟩:=z0S m;subst b3;have hL:=ok.len;have hN:=ok.hi;have bD:=m.dev;unfold fu at bD;have bF:=fun W (b:Blk W D 133 #[.slice (some ⟨S,0,none⟩) x.stable.length c,.slice A x.cache.length cc,.int .i64 x.taken,.int .i64 x.power,.bool x.off,.map (some M)])=>z0U D S x.stable.length c (.slice A x.cache.length cc) x.taken x.power x.off M W b
 obtain⟨w0,J⟩:=zex (w.alloc (.cells (ap (.slice none 0 0) (.slice none 0 0) 0 0 false) 34));obtain⟨w1,T⟩:=zex (w0.alloc (.cells (ap (.slice (some ⟨S,0,none⟩) x.stable.length c) (.slice A x.cache.length cc) x.taken x.power x.off) 34));have bt:Blk w0 D 133 #[.slice (some ⟨S,0,none⟩) x.stable.length c,.slice A x.cache.length cc,.int .i64 x.taken,.int .i64 x.power,.bool x.off,.map (some M)]:=by rw[J];exact bD.alloc _
 have bk:Blk w1 w.heap.size 34 (ap (.slice none 0 0) (.slice none 0 0) 0 0 false):=by rw[T,J];exact zbn
 have av:Blk w1 (w.heap.size+1) 34 (ap (.slice (some ⟨S,0,none⟩) x.stable.length c) (.slice A x.cache.length cc) x.taken x.power x.off):=by rw[T,J];exact zbn
 have B0:Zr w w0:=by rw[J];exact zgr
 have B1:Zr w w1:=by rw[T];exact B0.alloc B0.size _
 have Rs:Reads w (some ⟨S,0,none⟩) (x.stable.flatMap bd):=.inr ⟨S,0,rfl,(m.sta.lt S rfl).2,fun j u hu=>by rw[ld];exact go m.sta hu⟩
 have Rc:Reads w A (x.cache.flatMap dwV):=by
  by_cases h0:0<x.cache.length
  ·have b1:=hA h0;subst b1;exact .inr ⟨g,0,rfl,(m.cac.lt g rfl).2,fun j u hu=>by rw[ld];exact go m.cac hu⟩
  ·left
   have:x.cache=[]:=md (by omega)
   rw[this];rfl
 have bM:(x.stable.flatMap bd).length=x.stable.length*128:=m.sta.1;have bL:(x.cache.flatMap dwV).length=x.cache.length*129:=m.cac.1;have bO:∀u∈x.stable.flatMap bd,u.oneCell'=true:=fun u hu=>by
  obtain⟨s,_,hs⟩:=List.mem_flatMap.1 hu;exact jo s u hs
 have bN:∀u∈x.cache.flatMap dwV,u.oneCell'=true:=fun u hu=>by
  obtain⟨s,_,hs⟩:=List.mem_flatMap.1 hu;exact iP s u hs
 have b2:A=none->x.cache.length=0:=fun h=>by
  by_cases h0:0<x.cache.length
  ·have:=hA h0;rw[h]at this;cases this
  ·omega
 have bA:=z8l (some ⟨S,0,none⟩) x.stable.length c (x.stable.flatMap bd) bM (by omega) w1.drew ((Rs.below B1).below (kF _ _).drew) (fun h=>by cases h) bO
 obtain⟨bS,b4⟩:=bt.zc;have bB:w1.cell? ⟨w.heap.size+1,0,none⟩=some (.slice (some ⟨S,0,none⟩) x.stable.length c)/\w1.cell? ⟨w.heap.size+1,1,none⟩=some (.slice A x.cache.length cc):=⟨by rw[av.cells];rfl,by rw[av.cells];rfl⟩
 have bq:=Rc.below B1;clear Rs Rc B0 bD m;have bc:=bF w0 bt;have bK:w0.heap.size=w.heap.size+1:=by rw[J];simp
 have z1:=B1.size;have bp:=kD bK;clear bK;have bP:=kD T;unfold ap at J T bk av;go_enter func12,ntmps12
 go_wp2_with fail
 rw[<-J];refine bc.mono ?_;rintro e w' ⟨rfl,bn⟩;replace bn:=bn.symm;subst bn;clear bc bF J;go_wp2_with fail
 rw[<-T,bp.out];clear T bS b4;refine zrm [.take 0,.take 1,.take 3,.take 4,.one 2,.take 6,.one 5,.one 7,.one 8,.one 9] 7 (fun w'=>w'.cell? ⟨w.heap.size+1,0,none⟩=some (.slice (some ⟨S,0,none⟩) x.stable.length c)/\w'.cell? ⟨w.heap.size+1,1,none⟩=some (.slice A x.cache.length cc)) bB ?_
 simp only[kR,kS,Ms.fill,kT,kV];iterate 4 refine ztk ?_
 refine ah (by rfl) fun K Y=>?_
 go_simp;refine bA.mono ?_;rintro e w2 ⟨sv,rfl,a6,ac⟩;have ba:=av.drew.mD ac;have bu:=bk.drew.mD ac;have B2:Zr w w2:=B1.drew.trans (ac.mono z1);have br:=(bq.below (kF _ _).drew).below ac;have a7:w2.ownsRow w.heap.size 128 128 sv x.stable.length (x.stable.flatMap bd):=aI a6 z1;have bJ:∀g,sv.ownBlock=some g->w1.heap.size<=g:=fun g e=>(a6.lt g e).1
 have z2:w1.heap.size<=w2.heap.size:=ac.size;refine Y _ _ (fun _=>⟨by rw[ba.cells];rfl,by rw[ba.cells];rfl⟩) ?_
 clear Y K bA ac bB av bk bq a6;iterate 1 refine ztk ?_
 refine ah (by rfl) fun K Y=>?_
 go_simp;refine(z8k A x.cache.length cc (x.cache.flatMap dwV) bL (by omega) w2 br b2 bN).mono ?_
 rintro e w3 ⟨ab,rfl,a1,aL⟩;have O:=ba.mD aL;have bw:=bu.mD aL;have B3:Zr w w3:=B2.trans (aL.mono B2.size);have V:=aq a7 aL;have U:w3.ownsRow w.heap.size 130 129 ab x.cache.length (x.cache.flatMap dwV):=aI a1 B2.size;have bb:∀g,ab.ownBlock=some g->w1.heap.size<=g:=fun g e=>kO z2 (a1.lt g e).1
 refine Y _ _ (fun _=>⟨by rw[O.cells];rfl,by rw[O.cells];rfl⟩) ?_
 clear Y K aL ba bu B2 br a7 a1 z2;obtain⟨S',c',rfl,-,-⟩:=dA V (by have:=ok.lo;omega)
 obtain⟨A',I,g',bC,-⟩:∃A' I g',ab=.slice A' x.cache.length I/\(0<x.cache.length->A'=some ⟨g',0,none⟩):=by
  rcases U.2 with ⟨rfl,h0⟩|⟨g,bX,b8,rfl,-⟩
  ·exact⟨none,0,0,by rw[h0],by omega⟩
  ·exact⟨_,bX,g,rfl,fun _=>rfl⟩
 subst bC;have bW:=O.cells;have b0:=O.free;have b6:=O.lt;refine ah (by rfl) fun K Y=>?_
 go_simp;refine Y _ _ (fun h=>absurd h (by decide)) ?_
 clear Y K;refine ah (by rfl) fun K Y=>?_
 go_simp;refine Y _ _ (fun h=>absurd h (by decide)) ?_
 clear Y K;refine ah (by rfl) fun K Y=>?_
 go_simp;refine Y _ _ (fun h=>absurd h (by decide)) ?_
 clear Y K;refine ax ?_;obtain⟨w4,an⟩:=zex ((w3.setCell ⟨w.heap.size+1,0,none⟩ (.slice (some ⟨S',0,none⟩) x.stable.length c')).setCell ⟨w.heap.size+1,1,none⟩ (.slice A' x.cache.length I));have zz:w.heap.size+1<w1.heap.size:=by have:=bp.out;rw[bP.out];simp;omega
 have bR:Blk w4 (w.heap.size+1) 34 #[.slice (some ⟨S',0,none⟩) x.stable.length c',.slice A' x.cache.length I,.int .i64 x.taken,.int .i64 x.power,.bool x.off]:=by rw[an];exact(O.mG 0 _).mG 1 _
 have ao:Blk w4 w.heap.size 34 #[.slice none 0 0,.slice none 0 0,.int .i64 0,.int .i64 0,.bool false]:=by rw[an];exact(bw.far (by simp) _).far (by simp) _
 have B4:Zr w w4:=by rw[an];exact(B3.setCell (by simp) _).setCell (by simp) _
 have k4:KeepEx w3.heap.size [w.heap.size+1] w3 w4:=by rw[an];exact(KeepEx.setCell _ (.inl (by simp)) _).trans (KeepEx.setCell _ (.inl (by simp)) _)
 rw[<-an];clear an bW b0 b6 O bw B3;have a8:=ar V (fun g e=>k4.block g (V.lt g e).2 (by have:=bJ g e;simp;omega))
 have a2:=ar U (fun g e=>k4.block g (U.lt g e).2 (by have:=bb g e;simp;omega))
 obtain⟨b7,b9⟩:=bR.zc;have bT:=ao.cells;have bZ:=ao.free;have b5:=ao.lt;have bG:=aT (ty:=34) (vs:=ap (.slice (some ⟨S',0,none⟩) x.stable.length c') (.slice A' x.cache.length I) x.taken x.power x.off) ao rfl (by simp[ap,Value.oneCell']) (by kernel_rfl)
 unfold ap at bG;clear bZ bT b5;go_wp2_with (refine zsb bG ?_)
 have bQ:=ao.setRow (cs':=#[.slice (some ⟨S',0,none⟩) x.stable.length c',.slice A' x.cache.length I,.int .i64 x.taken,.int .i64 x.power,.bool x.off]);have bU:=bQ.cells;have k5:KeepEx w4.heap.size [w.heap.size] w4 (w4.setRow w.heap.size #[.slice (some ⟨S',0,none⟩) x.stable.length c',.slice A' x.cache.length I,.int .i64 x.taken,.int .i64 x.power,.bool x.off]):=KeepEx.setRow _ (.inl (by simp)) _
 refine bodyPost_ret (v:=.agg #[.slice (some ⟨S',0,none⟩) x.stable.length c',.slice A' x.cache.length I,.int .i64 x.taken,.int .i64 x.power,.bool x.off]) (by simp[results,results12,go_sem,bU]) rfl ?_
 exact⟨_,_,rfl,ar a8 (fun g e=>k5.block g (a8.lt g e).2 (by have:=bJ g e;simp;omega)),ar a2 (fun g e=>k5.block g (a2.lt g e).2 (by have:=bb g e;simp;omega)),Below.setRow B4 (kE _) _⟩
theorem z4U (c:Value)(w:World):
  Calls prog 177 #[.slice none 0 0,c] w fun e A=>e=.returned (.int .i64 (-1))/\A=w:=by
 go_enter func177,ntmps177
 go_wp2_with fail
 refine wp_loop_rounds 1 ?_;rw[rounds_succ];go_wp2_with fail
 go_ret
 exact⟨rfl,rfl⟩
theorem z1H (c:Value)(w:World):
  Calls prog 101 #[.slice none 0 0,c] w fun e A=>e=.returned (.bool false)/\A=w:=by
 go_enter func101,ntmps101
 go_wp2_with fail
 refine(z4U c w).mono ?_;rintro e D ⟨rfl,rfl⟩;go_wp2_with fail
 go_ret
 exact⟨rfl,rfl⟩
theorem z6V (S c:Nat)(x:DevS)(ok:x.Ok)(hc:x.cache=[])(w:World)(hH:HalfAt w)(bb:w.ownsRow 0 128 128 (.slice (some ⟨S,0,none⟩) x.stable.length c) x.stable.length (x.stable.flatMap bd)):
  Calls prog 41 #[.agg #[.slice (some ⟨S,0,none⟩) x.stable.length c,.slice none 0 0,.int .i64 x.taken,.int .i64 x.power,.bool x.off]] w fun e w'=>
   ∃D F,e=.returned (.tuple #[.pointer (some ⟨D,0,none⟩),.int .i64 0])/\DevAt w' D F x/\Zr w w'/\∀b∈F,w.heap.size<=b:=by
 have bu:∀(fn:Fn) (first U:Array Value) (w:World),(Instr.makeFunc fn first U).run prog w=.ok (.func fn first U) w:=fun _ _ _ _=>rfl
 have hlo:=ok.lo;have bt:=ok.hi;have bA:=ok.tk;have bw:=ok.pw;have d1:decide ((x.stable.length:Int)<64)=false:=decide_eq_false (by omega)
 have d2:decide (256<(x.stable.length:Int))=false:=decide_eq_false (by omega)
 have d3:decide (x.taken<0)=false:=decide_eq_false (by omega)
 have d4:decide (1000000000000<x.taken)=false:=decide_eq_false (by omega)
 have d5:decide (x.power < -1)=false:=decide_eq_false (by omega)
 have d6:decide (1000000000000<x.power)=false:=decide_eq_false (by omega)
 have a8:=@run_makeMap prog;obtain⟨A,O⟩:=zex ((w.alloc (.cells #[.slice (some ⟨S,0,none⟩) x.stable.length c,.slice none 0 0,.int .i64 x.taken,.int .i64 x.power,.bool x.off] 34)).alloc (.cells #[.int .i64 x.stable.length] 3));have b0:Blk A w.heap.size 34 #[.slice (some ⟨S,0,none⟩) x.stable.length c,.slice none 0 0,.int .i64 x.taken,.int .i64 x.power,.bool x.off]:=by rw[O];exact zbn
 have b1:Blk A (w.heap.size+1) 3 #[.int .i64 x.stable.length]:=by rw[O];exact zbn
 have B0:Zr w A:=by rw[O];exact zgr
 have z0:A.heap.size=w.heap.size+2:=by rw[O];simp
 obtain⟨c0,l0⟩:=b0.zc;obtain⟨c1,l1⟩:=b1.zc;have HZ:=kD z0;clear z0;go_enter func41,ntmps41
 go_wp2_with fail
 rw[<-O];go_wp2_with fail
 refine(z1H _ A).mono ?_;rintro e w' ⟨rfl,aL⟩;replace aL:=aL.symm;subst aL;clear O;go_wp2_with fail
 obtain⟨W,hW⟩:=zex ((A.alloc (.map #[] 0)).alloc (.cells #[.slice (some ⟨S,0,none⟩) x.stable.length c,.slice none 0 0,.int .i64 x.taken,.int .i64 x.power,.bool x.off,.map (some A.heap.size)] 133));have a7:x.cache.length=0:=by rw[hc];rfl
 have BW:Zr w W:=by rw[hW];exact(B0.alloc B0.size _).alloc (by have:=B0.size;simp;omega) _
 have bP:Blk W w.heap.size 34 #[.slice (some ⟨S,0,none⟩) x.stable.length c,.slice none 0 0,.int .i64 x.taken,.int .i64 x.power,.bool x.off]:=by rw[hW];exact(b0.alloc _).alloc _
 have mW:DevMem W (A.heap.size+1) S c A.heap.size (.slice none 0 0) x:=by
  refine⟨by rw[hW];exact zbn,aq bb BW,?_,?_⟩
  ·rw[hc];exact World.ownsRow_nil _ _ _ _
  ·rw[hc,hW];exact(World.ownsMap_made _ _ _ _).alloc _
 have zW:W.heap.size=A.heap.size+2:=by rw[hW];simp
 have an:=kD zW;rw[<-hW];clear hW a8 zW c0 l0 c1 l1 b0 b1;refine(zaK _ S c _ _ x ok W mW).mono ?_;rintro e w3 ⟨sv,ao,rfl,ac,J,M⟩;obtain⟨S',c',rfl,br,a6⟩:=dA ac (by omega)
 obtain⟨A',I,ab,av⟩:∃A' I,ao=.slice A' x.cache.length I/\(∀g,ao.ownBlock=some g->W.heap.size<=g/\g<w3.heap.size):=by
  refine(fun h=>?_) (fun g e=>J.lt g e:∀g,ao.ownBlock=some g->W.heap.size<=g/\g<w3.heap.size)
  rcases J.2 with ⟨rfl,h0⟩|⟨g,U,bp,rfl,-⟩
  ·exact⟨none,0,by rw[h0],h⟩
  ·exact⟨_,U,rfl,h⟩
 rw[ab]at J av;subst ab;have T:=mW.dev.mD M;have a2:=bP.mD M;have B3:Zr w w3:=BW.trans (M.mono BW.size);have ba:=aU mW.map (M.block _ mW.map.lt);have z3:A.heap.size+2<=w3.heap.size:=by have:=M.size;have:=an.out;omega
 have bc:A.heap.size+2<=S':=by have:=an.out;omega
 have V:∀g,(Value.slice A' x.cache.length I).ownBlock=some g->A.heap.size+2<=g/\g<w3.heap.size:=fun g e=>by have:=av g e;have:=an.out;omega
 clear av M bP BW mW;unfold fu at T;have bk:=T.cells;have bq:=T.free;have bC:=T.lt;obtain⟨bn,bD⟩:=a2.zc;unfold ap;have bF:w.heap.size≠A.heap.size+1:=by have:=HZ.out;omega
 go_wp2_with fail
 refine wp_loop_rounds 1 ?_;rw[rounds_succ];go_wp2_with fail
 go_ret2
 obtain⟨W5,Y⟩:=zex (((((w3.setCell ⟨A.heap.size+1,0,none⟩ (.slice (some ⟨S',0,none⟩) x.stable.length c')).setCell ⟨A.heap.size+1,1,none⟩ (.slice A' x.cache.length I)).setCell ⟨A.heap.size+1,2,none⟩ (.int .i64 x.taken)).setCell ⟨A.heap.size+1,3,none⟩ (.int .i64 x.power)).setCell ⟨A.heap.size+1,4,none⟩ (.bool x.off));have a1:Blk W5 (A.heap.size+1) 133 (fu S' x.stable.length c' (.slice A' x.cache.length I) x.taken x.power x.off A.heap.size):=by
  rw[Y];exact((((T.mG 0 _).mG 1 _).mG 2 _).mG 3 _).mG 4 _
 have k5:KeepEx w3.heap.size [A.heap.size+1] w3 W5:=by
  rw[Y];exact((((KeepEx.setCell _ (.inl (by simp)) _).trans (KeepEx.setCell _ (.inl (by simp)) _)).trans (KeepEx.setCell _ (.inl (by simp)) _)).trans (KeepEx.setCell _ (.inl (by simp)) _)).trans (KeepEx.setCell _ (.inl (by simp)) _)
 have z5:=k5.size;have bB:=HZ.out;have bG:=B0.size;have B5:Zr w W5:=B3.trans (k5.nK B3.size (by intro k hk;simp at hk;omega))
 have lS:S'<w3.heap.size:=a6;rw[a7]at Y;rw[<-Y];refine⟨A.heap.size+1,[A.heap.size+1,S',A.heap.size]++(Value.slice A' x.cache.length I).ownBlock.toList,rfl,⟨ok,hH.below B5 hH.1,⟨S',c',A.heap.size,.slice A' x.cache.length I,⟨a1,?_,?_,?_⟩,by simp,by simp,by simp,fun g e=>by simp[e]⟩,fun b K=>?_⟩,B5,fun b K=>?_⟩
 ·exact ar (aI ac (kP _)) (fun g e=>by cases e;exact k5.block S' lS (by simp;omega))
 ·exact ar (aI J (kP _)) (fun g e=>k5.block g (V g e).2 (by have:=V g e;simp;omega))
 ·exact aU ba (k5.block _ (by omega) (by simp))
 ·rcases lE.1 K with K|K
  ·simp at K
   have:=hH.1
   rcases K with rfl|rfl|rfl<;>omega
  ·have:=V b (by simpa using K)
   have:=hH.1
   omega
 ·rcases lE.1 K with K|K
  ·simp at K
   rcases K with rfl|rfl|rfl<;>omega
  ·have:=V b (by simpa using K)
   omega
def aV (n:Nat):DevS:=⟨List.replicate n zsec,[],0,-1,false⟩
theorem jF {n:Nat}(h:64<=n/\n<=256):(aV n).Ok:=
 ⟨by show 64<=(List.replicate n zsec).length;simp;omega,by show (List.replicate n zsec).length<=256;simp;omega,fun s A=>by
  obtain rfl:=mv A;exact⟨am,fi⟩,fun p c=>(by cases c),by show 0<=400;omega,by show (0:Int)<=0/\(0:Int)<=1000000000000;omega,by show (-1:Int)<=-1/\(-1:Int)<=1000000000000;omega⟩
theorem gZ (n:Nat):((List.replicate n zsec).flatMap bd).length=n*128:=by
 induction n with
 | zero=>rfl
 | succ n ih=>rw[List.replicate_succ,m9,kY,ih,dy,am,Nat.add_mul];omega
theorem z8w (n:Nat):∀u∈(List.replicate n zsec).flatMap bd,u=.int .u8 0:=by
 intro u c;obtain⟨s,A,c⟩:=List.mem_flatMap.1 c;obtain rfl:=mv A;unfold bd at c;obtain⟨y,D,rfl⟩:=List.mem_map.1 c;rw[mv (show y∈List.replicate 128 (0:Int)from D)]
theorem z8U (k:Nat):∀u∈(madeCells (fill (.int .u8 0) 128) k).toList,u=Value.int .u8 0:=by
 intro u A;unfold madeCells at A;simp only[Array.toList_map,List.mem_map]at A;obtain⟨i,-,rfl⟩:=A;rw[z2C];have c:i % (Array.replicate 128 (Value.int .u8 0)).size<(Array.replicate 128 (Value.int .u8 0)).size:=by rw[Array.size_replicate];exact Nat.mod_lt _ (by omega)
 rw[getElem!_pos (Array.replicate 128 (Value.int .u8 0)) _ c];simp
theorem z3Z (n:Nat):madeCells (fill (.int .u8 0) 128) (n*128)=((List.replicate n zsec).flatMap bd).toArray:=by
 apply Array.toList_inj.1
 rw[List.eq_replicate_of_mem (z8U (n*128)),List.eq_replicate_of_mem (z8w n)];simp only[Array.length_toList,gZ,size_madeCells]
theorem zbB (n:Nat)(hn:64<=n/\n<=256)(w:World)(V:HalfAt w):
  Calls prog 7 #[.int .i64 n] w fun e T=>∃D F,e=.returned (.tuple #[.pointer (some ⟨D,0,none⟩),.int .i64 0])/\DevAt T D F (aV n)/\Zr w T/\∀b∈F,w.heap.size<=b:=by
 have ab:min (n:Int) 257=n:=by omega
 obtain⟨i,Y,hz,O,K⟩:=info_parts Tryz.pY;have J:=run_make (P:=prog) w 31 128 i _ underlying31 Y hz .i64 .i64 n n (by omega) (Int.le_refl _) (by rw[K];omega) (by omega)
 rw[lO,O]at J;obtain⟨A,c⟩:=zex (w.alloc (.cells ((List.replicate n zsec).flatMap bd).toArray 128));have ac:(Instr.makeSlice 31 (.int .i64 n) (.int .i64 n)).run prog w=.ok (.slice (some ⟨w.heap.size,0,none⟩) n n) A:=by
  rw[J,c];show Result.ok _ (w.alloc (.cells (madeCells (fill (.int .u8 0) 128) (n*128)) 128))=_
  rw[z3Z]
 have U:Zr w A:=by rw[c];exact(kF _ _).alloc (kE _) _
 have S:A.ownsRow 0 128 128 (.slice (some ⟨w.heap.size,0,none⟩) n n) n ((List.replicate n zsec).flatMap bd):=by
  refine⟨gZ n,.inr ⟨w.heap.size,n,_,rfl,kP _,by rw[c];exact heap_alloc_new w _,kE _,by simp only[maxLen];omega,by simp only[List.size_toArray];exact gZ n,?_⟩⟩
  rw[mj (by rw[gZ n];exact kE _)]
 have I:=z6V w.heap.size n (aV n) (jF hn) rfl A (V.below U V.1) (by
  show A.ownsRow 0 _ 128 (.slice (some ⟨w.heap.size,0,none⟩) (List.replicate n zsec).length n) (List.replicate n zsec).length _
  rw[m4];exact S)
 have M:Calls prog 41 #[.agg #[.slice (some ⟨w.heap.size,0,none⟩) n n,.slice none 0 0,.int .i64 0,.int .i64 (-1),.bool false]] A fun e T=>∃D F,e=.returned (.tuple #[.pointer (some ⟨D,0,none⟩),.int .i64 0])/\DevAt T D F (aV n)/\Zr A T/\∀b∈F,A.heap.size<=b:=by
  have e:(aV n).stable.length=n:=m4;rw[e]at I;exact I
 clear J I Y hz O K S c;go_enter func7,ntmps7
 go_wp2_with fail
 refine M.mono ?_;rintro e w1 ⟨D,F,rfl,hd,hb,hF⟩;go_wp2_with fail
 go_ret2
 exact⟨D,F,rfl,hd,U.trans (hb.mono U.size),fun b hm=>kO U.size (hF b hm)⟩
theorem z2Z (D:Nat)(F:List Nat)(x:DevS)(a kind seq:Int)(s:ByteArray)(hs:s.size<=maxLen)(hq:0<=seq/\seq<4294967296)(w:World)(h:DevAt w D F x):
  Calls prog 118 #[.pointer (some ⟨D,0,none⟩),.int .i64 a,.int .i64 kind,.int .u32 seq,.string s] w fun e w'=>e=.returned (.int .i64 (x.put a kind seq s).1)/\∃T,DevAt w' D T (x.put a kind seq s).2/\Grow w F w' T:=by
 have hz:=cy;have I:=zaM a kind seq s hs hq w h.half;unfold eI at I;unfold DevS.put;by_cases J:bY a kind s.size=0
 ·have hl:=dP a kind seq s (iV J).2.2.2.2;have ab:=gp seq J;rw[if_pos J];rw[if_pos J,J]at I;generalize cq a kind seq s=M at *;clear J;go_enter func118,ntmps118
  go_wp2_with fail
  refine I.mono ?_;rintro e A ⟨c,rfl⟩;have K:=h.below c;have S:=c.size;have U:Blk (A.alloc (.cells (ag zsec) 128)) A.heap.size 128 (ag zsec):=Blk.new _ _ _;have bX:Blk ((A.alloc (.cells (ag zsec) 128)).setRow A.heap.size (ag M)) A.heap.size 128 (ag M):=U.setRow;have Y:DevAt ((A.alloc (.cells (ag zsec) 128)).setRow A.heap.size (ag M)) D F x:=(K.alloc _).row (K.far (kE _)) (by have:=K.half.1;omega) _
  have V:Zr w ((A.alloc (.cells (ag zsec) 128)).setRow A.heap.size (ag M)):=Below.setRow (c.alloc S _) S _;have ac:=z4x D F x a M ⟨hl,ab⟩ _ Y;clear I c K;go_wp2_with (first
   | (refine aA rfl _ _ rfl A.heap.size M rfl rfl U am hl ?_)
   | (refine aY rfl _ rfl A.heap.size rfl bX hl ?_))
  refine ac.mono ?_;rintro e w3 ⟨rfl,T,h3,g3⟩;go_wp2_with fail
  go_ret
  exact⟨rfl,T,h3,(Grow.of_below V F).trans g3⟩
 ·rw[if_neg J];rw[if_neg J]at I;obtain⟨E,O⟩:=zxe (bY a kind s.size);rw[O]at I J |-;have an:(E != 0)=true:=by simpa using J
  clear O;go_enter func118,ntmps118
  go_wp2_with fail
  refine I.mono ?_;rintro e A ⟨c,rfl⟩;have K:=h.below c;have S:=c.size;have U:Blk (A.alloc (.cells (ag zsec) 128)) A.heap.size 128 (ag zsec):=Blk.new _ _ _;have Y:DevAt ((A.alloc (.cells (ag zsec) 128)).setRow A.heap.size (ag zsec)) D F x:=(K.alloc _).row (K.far (kE _)) (by have:=K.half.1;omega) _
  have V:Zr w ((A.alloc (.cells (ag zsec) 128)).setRow A.heap.size (ag zsec)):=Below.setRow (c.alloc S _) S _;clear I c K J;go_wp2_with (refine aA rfl _ _ rfl A.heap.size zsec rfl rfl U am am ?_)
  go_ret
  exact⟨rfl,F,Y,Grow.of_below V F⟩
theorem z3i (n:Nat)(hn:n<=10)(J:Nat->FuncId)(first D:Nat->Array Value)(B:Nat)(cs:Array Value)(I:Nat->World->Prop)(Z:Int->World->Prop)
  (O:∀k,k<n->∀args W,(callFunc (J k) args).run prog W=.ok (.enter (J k) args) W)
  (M:∀k,k<n->cs[k]?=some (.func (.func (J k)) (first k) (D k)))
  (hB:∀k W,k<n->I k W->Blk W B 58 cs)
  (c:∀k,k<n->∀W,I k W->Calls prog (J k) (first k++D k) W fun e V=>∃E,e=.returned (.int .i64 E)/\(E=0->I (k+1) V)/\(E≠0->Z E V))
  (S:∀W,I n W->Z 0 W) (w:World) (h0:I 0 w):
  Calls prog 114 #[.slice (some ⟨B,0,none⟩) n n] w fun e w'=>∃E,e=.returned (.int .i64 E)/\Z E w':=by
 go_enter func114,ntmps114
 go_wp2_with fail
 go_loopw [2,4,5,8] (fun _ _ _ q wr=>∃k:Nat,k<=n/\q=.int .i64 k/\I k wr) (fun _ _ _ q _=>n - (intOf q).toNat)
 case atStart=>exact⟨0,kP _,rfl,h0⟩
 case round=>
  obtain⟨k,hk,rfl,K⟩:=hrel;by_cases A:k<n
  ·have bB:=hB k wr A K;have cB:=bB.cells k;rw[M k A]at cB;have lB:=bB.lt;have hs:=c k A wr K;have he:=O k A;generalize J k=f at *;clear hB O M c;go_wp2_with fail
   refine hs.mono ?_;rintro e V ⟨E,rfl,T,U⟩;by_cases Y:E=0
   ·subst Y;replace T:=T rfl;clear U hs K;go_wp2_with fail
    go_roundw
    case rel=>exact⟨k+1,by omega,by go_num,T⟩
    case measure=>simp[intOf];omega
   ·have ab:(E != 0)=true:=by simpa using Y
    replace U:=U Y;clear T hs K;go_wp2_with fail
    go_ret
    exact⟨E,rfl,U⟩
  ·obtain rfl:k=n:=by omega
   have hz:=S wr K;go_wp2_with fail
   go_ret
   exact⟨0,rfl,hz⟩
theorem zcP (A D:FuncId)(K c1 M c2:Array Value)(B:Nat)(w:World)(J:World->Prop)(Z:Int->World->Prop)
  (V:∀args W,(callFunc A args).run prog W=.ok (.enter A args) W) (Y:∀args W,(callFunc D args).run prog W=.ok (.enter D args) W)
  (T:Blk w B 58 #[.func (.func A) K c1,.func (.func D) M c2]) (U:∀W,J W->Blk W B 58 #[.func (.func A) K c1,.func (.func D) M c2])
  (s1:Calls prog A (K++c1) w fun e I=>∃E,e=.returned (.int .i64 E)/\(E=0->J I)/\(E≠0->Z E I))
  (s2:∀W,J W->Calls prog D (M++c2) W fun e I=>∃E,e=.returned (.int .i64 E)/\Z E I):
  Calls prog 114 #[.slice (some ⟨B,0,none⟩) 2 2] w fun e w'=>∃E,e=.returned (.int .i64 E)/\Z E w':=by
 refine z3i 2 (by omega) (fun k=>if k=0 then A else D) (fun k=>if k=0 then K else M) (fun k=>if k=0 then c1 else c2) B #[.func (.func A) K c1,.func (.func D) M c2] (fun k W=>if k=0 then W=w else if k=1 then J W else Z 0 W) Z ?_ ?_ ?_ ?_ ?_ w rfl
 ·intro k O;rcases (by omega:k=0\/k=1)with rfl|rfl
  ·exact V
  ·exact Y
 ·intro k O;rcases (by omega:k=0\/k=1)with rfl|rfl<;>rfl
 ·intro k W O c;rcases (by omega:k=0\/k=1)with rfl|rfl
  ·have c:W=w:=c;subst c;exact T
  ·exact U W c
 ·intro k O W c;rcases (by omega:k=0\/k=1)with rfl|rfl
  ·have c:W=w:=c;subst c;exact s1
  ·refine(s2 W c).mono ?_;rintro e I ⟨E,rfl,S⟩;exact⟨E,rfl,fun h=>by subst h;exact S,fun _=>S⟩
 ·exact fun W h=>h
theorem zdc (D I M:FuncId)(O c1 S c2 a3 T:Array Value)(B:Nat)(w:World)(J K:World->Prop)(Z:Int->World->Prop)
  (e1:∀args W,(callFunc D args).run prog W=.ok (.enter D args) W) (e2:∀args W,(callFunc I args).run prog W=.ok (.enter I args) W) (e3:∀args W,(callFunc M args).run prog W=.ok (.enter M args) W)
  (b0:Blk w B 58 #[.func (.func D) O c1,.func (.func I) S c2,.func (.func M) a3 T]) (V:∀W,J W\/K W->Blk W B 58 #[.func (.func D) O c1,.func (.func I) S c2,.func (.func M) a3 T])
  (s1:Calls prog D (O++c1) w fun e A=>∃E,e=.returned (.int .i64 E)/\(E=0->J A)/\(E≠0->Z E A))
  (s2:∀W,J W->Calls prog I (S++c2) W fun e A=>∃E,e=.returned (.int .i64 E)/\(E=0->K A)/\(E≠0->Z E A))
  (s3:∀W,K W->Calls prog M (a3++T) W fun e A=>∃E,e=.returned (.int .i64 E)/\Z E A):
  Calls prog 114 #[.slice (some ⟨B,0,none⟩) 3 3] w fun e w'=>∃E,e=.returned (.int .i64 E)/\Z E w':=by
 refine z3i 3 (by omega) (fun k=>if k=0 then D else if k=1 then I else M) (fun k=>if k=0 then O else if k=1 then S else a3) (fun k=>if k=0 then c1 else if k=1 then c2 else T) B #[.func (.func D) O c1,.func (.func I) S c2,.func (.func M) a3 T] (fun k W=>if k=0 then W=w else if k=1 then J W else if k=2 then K W else Z 0 W) Z ?_ ?_ ?_ ?_ ?_ w rfl
 ·intro k U;rcases (by omega:k=0\/k=1\/k=2)with rfl|rfl|rfl
  ·exact e1
  ·exact e2
  ·exact e3
 ·intro k U;rcases (by omega:k=0\/k=1\/k=2)with rfl|rfl|rfl<;>rfl
 ·intro k W U c;rcases (by omega:k=0\/k=1\/k=2)with rfl|rfl|rfl
  ·have c:W=w:=c;subst c;exact b0
  ·exact V W (.inl c)
  ·exact V W (.inr c)
 ·intro k U W c;rcases (by omega:k=0\/k=1\/k=2)with rfl|rfl|rfl
  ·have c:W=w:=c;subst c;exact s1
  ·exact s2 W c
  ·refine(s3 W c).mono ?_;rintro e A ⟨E,rfl,Y⟩;exact⟨E,rfl,fun h=>by subst h;exact Y,fun _=>Y⟩
 ·exact fun W h=>h
theorem gM:prog.built 128 []=some (ag zsec):=by kernel_rfl
theorem z0P {x:DevS}{a:Int}{k m:Nat}(h:(x.blanks a k).1≠0)(c:k<=m):x.blanks a m=x.blanks a k:=by
 induction m with
 | zero=>
  have e:k=0:=by omega
  rw[e]
 | succ m ih=>
  by_cases e:k=m+1
  ·rw[e]
  ·have ih:=ih (by omega)
   show (if (x.blanks a m).1≠0 then x.blanks a m else _)=_
   rw[ih,if_pos h]
theorem z20 (F Z:Int)(w:World):
  Calls prog 116 #[.agg #[.int .i64 F,.int .i64 Z]] w fun e A=>e=.returned (.int .i64 (aO F Z))/\Zr w A:=by
 by_cases D:Z<8
 rotate_left;by_cases I:96<Z
 rotate_left;by_cases a3:F<0
 rotate_left;by_cases a4:256 - Z<F
 rotate_left
 all_goals
  first
   | (have c:Hid (aO F Z=0):=kD (by unfold aO;rw[if_neg (by omega)]))
   | (have c:Hid (aO F Z=7):=kD (by unfold aO;rw[if_pos (by omega)]))
  go_enter func116,ntmps116
  (try (have J:IntKind.i64.wrap (256 - Z)=256 - Z:=by rw[kW];omega))
  go_wp2_with fail
  go_ret
  exact⟨by rw[c.out];rfl,zgr⟩
def da (w:World)(D:Nat)(F:List Nat)(p:Int × DevS)(e:Ending)(w':World):Prop:=e=.returned (.int .i64 p.1)/\∃F',DevAt w' D F' p.2/\Grow w F w' F'
theorem zd6 (J:Nat)(F Z:Int)(w:World)(c:Blk w J 109 #[.int .i64 F,.int .i64 Z]):
  Calls prog 115 #[.pointer (some ⟨J,0,none⟩)] w fun e D=>e=.returned (.int .i64 (aO F Z))/\Zr w D:=by
 obtain⟨I,K⟩:=c.zc;go_enter func115,ntmps115
 go_wp2_with fail
 refine(z20 F Z w).mono ?_;rintro e M ⟨rfl,A⟩;go_wp2_with fail
 go_ret
 exact⟨rfl,A⟩
theorem zd7 (D c J:Nat)(F Z:Int)(B:List Nat)(x:DevS)(w:World)(h:DevAt w D B x)(I:Blk w c 27 #[.pointer (some ⟨D,0,none⟩)])(A:Blk w J 109 #[.int .i64 F,.int .i64 Z]):
  Calls prog 117 #[.pointer (some ⟨c,0,none⟩),.pointer (some ⟨J,0,none⟩)] w (da w D B (x.put F 1 0 ⟨#[]⟩)):=by
 obtain⟨O,T⟩:=A.zc;obtain⟨S,U⟩:=I.zc;have M:=z2Z D B x F 1 0 ⟨#[]⟩ (by decide) (by omega) w h
 unfold da;go_enter func117,ntmps117
 go_wp2_with fail
 refine M.mono ?_;rintro e V ⟨rfl,K⟩;go_wp2_with fail
 go_ret
 exact⟨rfl,K⟩
theorem zd8 (D U J:Nat)(F Z:Int)(hc:aO F Z=0)(B:List Nat)(x:DevS)(w:World)(h:DevAt w D B x)(bP:Blk w U 27 #[.pointer (some ⟨D,0,none⟩)])(nP:U∉B)(bJ:Blk w J 109 #[.int .i64 F,.int .i64 Z])(nJ:J∉B):
  Calls prog 119 #[.pointer (some ⟨J,0,none⟩),.pointer (some ⟨U,0,none⟩)] w (da w D B (x.blanks (F+1) (Z - 1).toNat)):=by
 have ao:8<=Z/\Z<=96/\0<=F/\F<=256 - Z:=by unfold aO at hc;split at hc<;>omega
 clear hc;obtain⟨z,rfl⟩:=lz (show 0<=Z by omega)
 unfold da;have av:∀w:World,(Instr.build 128 #[]).run prog w=.ok (.agg (ag zsec)) w:=fun w=>run_build w _ _ _ gM
 rw[show (((z:Int) - 1).toNat)=z - 1 by omega]
 have lP:=bP.lt;have lJ:=bJ.lt;go_enter func119,ntmps119
 go_wp2_with fail
 go_loopw [3,4] (fun q _ wr=>∃k:Nat,k+1<=z/\q=.int .i64 ((k:Int)+1)/\(x.blanks (F+1) k).1=0/\∃A,DevAt wr D A (x.blanks (F+1) k).2/\Grow w B wr A) (fun q _ _=>z - (intOf q).toNat)
 case atStart=>exact⟨0,by omega,rfl,rfl,B,h,Grow.refl _ _⟩
 case round=>
  obtain⟨k,hk,rfl,h0,A,hd,M⟩:=hrel;have Y:=M.blk bP nP;have V:=M.blk bJ nJ;obtain⟨cP,a2⟩:=Y.zc;obtain⟨cJ,a1⟩:=V.zc;by_cases aL:k+1<z
  ·have S:x.blanks (F+1) (k+1)=(x.blanks (F+1) k).2.write (F+((k:Int)+1)) zsec:=by
    show (if (x.blanks (F+1) k).1≠0 then _ else _)=_
    rw[if_neg (by rw[h0];simp),show F+1+(k:Int)=F+((k:Int)+1) by omega]
   have T:=z4x D A (x.blanks (F+1) k).2 (F+((k:Int)+1)) zsec ⟨am,fi⟩ wr hd;rw[<-S]at T;have c:(x.blanks (F+1) (k+1)).1≠0->x.blanks (F+1) (z - 1)=x.blanks (F+1) (k+1):=fun ac=>z0P ac (by omega)
   generalize hp:x.blanks (F+1) (k+1)=p at *;have HP:=kD hp;clear hp;clear S h0 hd;have an:(k:Int)+1<z:=by omega
   have HF:=kD c;clear c;go_wp2_with fail
   refine T.mono ?_;rintro e w1 ⟨rfl,B1,K,O⟩;by_cases I:p.1=0
   ·have ab:(p.1 != 0)=false:=by simpa using I
    have HE:=kD I;clear I;go_wp2_with fail
    go_roundw
    case rel=>exact⟨k+1,by omega,by go_num,by rw[HP.out];exact HE.out,B1,by rw[HP.out];exact K,M.trans O⟩
    case measure=>simp[intOf];omega
   ·have ab:(p.1 != 0)=true:=by simpa using I
    go_wp2_with fail
    go_ret
    rw[HF.out I];exact⟨rfl,B1,K,M.trans O⟩
  ·obtain rfl:z=k+1:=by omega
   go_wp2_with fail
   go_ret
   exact⟨by rw[Nat.add_sub_cancel,h0];rfl,A,hd,M⟩
def Stay (wA:World)(D:Nat)(B:List Nat)(W:World)(x:DevS):Prop:=∃B',DevAt W D B' x/\Grow wA B W B'
theorem Stay.refl {w:World}{D:Nat}{B:List Nat}{x:DevS}(h:DevAt w D B x):Stay w D B w x:=⟨B,h,Grow.refl _ _⟩
theorem Stay.open_ {J W:World}{D:Nat}{B:List Nat}{x:DevS}(h:Stay J D B W x):∃c,DevAt W D c x/\Grow J B W c/\(∀g t A,Blk J g t A->g∉B->Blk W g t A/\g∉c):=by
 obtain⟨c,M,I⟩:=h;exact⟨c,M,I,fun g t A b K=>⟨I.blk b K,I.og K b.lt⟩⟩
theorem Stay.blk {c W:World}{D:Nat}{B:List Nat}{x:DevS}(h:Stay c D B W x){g:Nat}{t:TypeId}{cs:Array Value}(b:Blk c g t cs)(I:g∉B):Blk W g t cs:=by
 obtain⟨J,K,A⟩:=h;exact A.blk b I
theorem Stay.pO {J W A:World}{D:Nat}{B I:List Nat}{x:DevS}(g:Grow J B W I)(h:∃c,DevAt A D c x/\Grow W I A c):Stay J D B A x:=by
 obtain⟨c,K,M⟩:=h;exact⟨c,K,g.trans M⟩
theorem Stay.below {J W A:World}{D:Nat}{B:List Nat}{x:DevS}(h:Stay J D B W x)(I:Zr W A):Stay J D B A x:=by
 obtain⟨c,K,M⟩:=h;exact⟨c,K.below I,M.trans (Grow.of_below I c)⟩
theorem Stay.did {w A W:World}{D:Nat}{B:List Nat}{x:DevS}(K:Zr w A)(h:Stay A D B W x):∃c,DevAt W D c x/\Grow w B W c:=by
 obtain⟨c,I,J⟩:=h;exact⟨c,I,(Grow.of_below K B).trans J⟩
def z2F (f:FuncId)(first cap:Array Value):Value:=.func (.func f) first cap
theorem eJ {f:FuncId}{args c:Array Value}{w:World}{R A:Ending->World->Prop}(h:Calls prog f args w R)(e:args=c)(I:∀e D,R e D->A e D):Calls prog f c w A:=by
 subst e;exact h.mono I
theorem z4X (D:Nat)(F Z:Int)(B:List Nat)(x:DevS)(w:World)(h:DevAt w D B x):
  Calls prog 49 #[.pointer (some ⟨D,0,none⟩),.agg #[.int .i64 F,.int .i64 Z]] w (da w D B (x.nH F Z)):=by
 have aL:∀(fn:Fn) (first Y:Array Value) (w:World),(Instr.makeFunc fn first Y).run prog w=.ok (.func fn first Y) w:=fun _ _ _ _=>rfl
 obtain⟨J,T⟩:=zex (((w.alloc (.cells #[.pointer (some ⟨D,0,none⟩)] 27)).alloc (.cells #[.int .i64 F,.int .i64 Z] 109)).alloc (.cells #[z2F 115 #[] #[.pointer (some ⟨w.heap.size+1,0,none⟩)],z2F 117 #[] #[.pointer (some ⟨w.heap.size,0,none⟩),.pointer (some ⟨w.heap.size+1,0,none⟩)],z2F 119 #[] #[.pointer (some ⟨w.heap.size+1,0,none⟩),.pointer (some ⟨w.heap.size,0,none⟩)],z2F 121 #[.pointer (some ⟨D,0,none⟩)] #[]] 58));have bP:Blk J w.heap.size 27 #[.pointer (some ⟨D,0,none⟩)]:=by rw[T];exact zbn
 have bJ:Blk J (w.heap.size+1) 109 #[.int .i64 F,.int .i64 Z]:=by rw[T];exact zbn
 have bS:=by have:=Blk.new' (w:=(w.alloc (.cells #[.pointer (some ⟨D,0,none⟩)] 27)).alloc (.cells #[.int .i64 F,.int .i64 Z] 109)) (t:=58) (cs:=#[z2F 115 #[] #[.pointer (some ⟨w.heap.size+1,0,none⟩)],z2F 117 #[] #[.pointer (some ⟨w.heap.size,0,none⟩),.pointer (some ⟨w.heap.size+1,0,none⟩)],z2F 119 #[] #[.pointer (some ⟨w.heap.size+1,0,none⟩),.pointer (some ⟨w.heap.size,0,none⟩)],z2F 121 #[.pointer (some ⟨D,0,none⟩)] #[]]) (g:=w.heap.size+2) (by simp);rw[<-T]at this;exact this
 have hb:Zr w J:=by rw[T];exact zgr
 have nP:w.heap.size∉B:=h.far (kE _);have nJ:w.heap.size+1∉B:=h.far (by omega)
 have nS:w.heap.size+2∉B:=h.far (by omega)
 have h0:Stay J D B J x:=Stay.refl (h.below hb);have O:=z3i 4 (by omega) (fun k=>[115,117,119,121].getD k 0) (fun k=>[#[],#[],#[],#[.pointer (some ⟨D,0,none⟩)]].getD k #[]) (fun k=>[#[.pointer (some ⟨w.heap.size+1,0,none⟩)],#[.pointer (some ⟨w.heap.size,0,none⟩),.pointer (some ⟨w.heap.size+1,0,none⟩)],#[.pointer (some ⟨w.heap.size+1,0,none⟩),.pointer (some ⟨w.heap.size,0,none⟩)],#[]].getD k #[]) (w.heap.size+2) _
  (fun k W=>Stay J D B W ([x,x,(x.put F 1 0 ⟨#[]⟩).2,((x.put F 1 0 ⟨#[]⟩).2.blanks (F+1) (Z - 1).toNat).2,((x.put F 1 0 ⟨#[]⟩).2.blanks (F+1) (Z - 1).toNat).2.flush.2].getD k x)/\(1<=k->aO F Z=0)/\(2<=k->(x.put F 1 0 ⟨#[]⟩).1=0)/\(3<=k->((x.put F 1 0 ⟨#[]⟩).2.blanks (F+1) (Z - 1).toNat).1=0)/\(4<=k->((x.put F 1 0 ⟨#[]⟩).2.blanks (F+1) (Z - 1).toNat).2.flush.1=0))
  (fun E W=>E=(x.nH F Z).1/\Stay J D B W (x.nH F Z).2)
  (by
   intro k hk args W;rcases (by omega:k=0\/k=1\/k=2\/k=3)with rfl|rfl|rfl|rfl<;>kernel_rfl)
  (by
   intro k hk;rcases (by omega:k=0\/k=1\/k=2\/k=3)with rfl|rfl|rfl|rfl<;>rfl)
  (fun k W hk hI=>hI.1.blk bS nS)
  (by
   intro k hk W hI;obtain⟨M,I,S,h3,h4⟩:=hI;obtain⟨B',hd,U,ac⟩:=M.open_;obtain⟨V,av⟩:=ac _ _ _ bP nP;obtain⟨K,ao⟩:=ac _ _ _ bJ nJ;rcases (by omega:k=0\/k=1\/k=2\/k=3)with rfl|rfl|rfl|rfl
   ·refine eJ (zd6 _ F Z W K) rfl ?_;rintro e W' ⟨rfl,ab⟩;refine⟨_,rfl,fun A=>⟨M.below ab,fun _=>A,by omega,by omega,by omega⟩,fun A=>?_⟩
    unfold DevS.nH;rw[if_pos A];exact⟨rfl,M.below ab⟩
   ·refine eJ (zd7 D _ _ F Z B' x W hd V K) rfl ?_;rintro e W' ⟨rfl,c⟩;refine⟨_,rfl,fun A=>⟨Stay.pO U c,fun _=>I (by omega),fun _=>A,by omega,by omega⟩,fun A=>?_⟩
    unfold DevS.nH;rw[if_neg (by rw[I (by omega)];simp),if_pos A]
    exact⟨rfl,Stay.pO U c⟩
   ·refine eJ (zd8 D _ _ F Z (I (by omega)) B' (x.put F 1 0 ⟨#[]⟩).2 W hd V av K ao) rfl ?_
    rintro e W' ⟨rfl,c⟩;refine⟨_,rfl,fun A=>⟨Stay.pO U c,fun _=>I (by omega),fun _=>S (by omega),fun _=>A,by omega⟩,fun A=>?_⟩
    unfold DevS.nH;rw[if_neg (by rw[I (by omega)];simp),if_neg (by rw[S (by omega)];simp),if_pos A]
    exact⟨rfl,Stay.pO U c⟩
   ·refine eJ (jz D B' ((x.put F 1 0 ⟨#[]⟩).2.blanks (F+1) (Z - 1).toNat).2 W hd) rfl ?_;rintro e W' ⟨rfl,c,an⟩;refine⟨_,rfl,fun A=>⟨Stay.pO U ⟨_,c,an⟩,fun _=>I (by omega),fun _=>S (by omega),fun _=>h3 (by omega),fun _=>A⟩,fun A=>?_⟩
    unfold DevS.nH;rw[if_neg (by rw[I (by omega)];simp),if_neg (by rw[S (by omega)];simp),if_neg (by rw[h3 (by omega)];simp)]
    exact⟨rfl,Stay.pO U ⟨_,c,an⟩⟩)
  (by
   rintro W ⟨M,I,S,h3,h4⟩;unfold DevS.nH;rw[if_neg (by rw[I (by omega)];simp),if_neg (by rw[S (by omega)];simp),if_neg (by rw[h3 (by omega)];simp)]
   exact⟨(h4 (by omega)).symm,M⟩)
  J ⟨h0,by omega,by omega,by omega,by omega⟩
 unfold da;clear h0 nP nJ nS bP bJ bS;go_enter func49,ntmps49
 go_wp2_with fail
 unfold z2F at T;rw[<-T];refine O.mono ?_;rintro e w' ⟨E,rfl,rfl,M⟩;go_wp2_with fail
 go_ret
 exact⟨rfl,M.did hb⟩
end Go.Proofs.YtejmknghkbobnaaGreatDoor
