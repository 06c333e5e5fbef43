import Derived.Test.YtejmknghkbobnaaGreatDoorPart12
set_option linter.all false
set_option maxRecDepth 100000
set_option maxHeartbeats 0
namespace Go.Proofs.YtejmknghkbobnaaGreatDoor
open Go.Proofs.Tryz
open Go.RowKit
def bg (us:List Bool)(bl:List Int)(v:Bool):List Bool:=bl.foldl (fun us b=>us.set b.toNat v) us
theorem cH (us:List Bool)(c:List Int)(v:Bool):(bg us c v).length=us.length:=by
 unfold bg;induction c generalizing us with
 | nil=>rfl
 | cons b c ih=>rw[List.foldl_cons,ih];simp
theorem jp (us:List Bool)(c:List Int)(v:Bool)(k:Nat)(h:k<c.length):bg us (c.take (k+1)) v=(bg us (c.take k) v).set (c[k]).toNat v:=by
 unfold bg;rw[kZ h,List.foldl_append];rfl
def z7Z (s j i:Int)(us:List Bool)(bl:List Int)(v:Bool)(w:World)(e:Ending)(w':World):Prop:=
 ∃g cap,e=.returned (.agg #[.int .i64 s,.int .i64 j,.int .i64 i,.slice (some ⟨g,0,none⟩) us.length cap]) /\
  w'.ownsRow w.heap.size 4 1 (.slice (some ⟨g,0,none⟩) us.length cap) us.length ((bg us bl v).map .bool)/\Zr w w'
theorem z9y (s j i:Int)(A Bl:Option Addr)(c cb:Nat)(us:List Bool)(I:List Int)(v:Bool)(w:World)(hR:Reads w A (us.map .bool))(h0:0<us.length)(hn:us.length<=1000)
  (a6:Reads w Bl (I.map (.int .i64))) (hm:I.length<=1000) (av:∀b∈I,0<=b/\b<us.length):
  Calls prog 173 #[.agg #[.int .i64 s,.int .i64 j,.int .i64 i,.slice A us.length c],.slice Bl I.length cb,.bool v] w (z7Z s j i us I v w):=by
 have hA:A≠none:=by
  obtain⟨b,off,rfl,_⟩:=hR.at_ (k:=0) (by simpa using h0)
  simp
 have a2:=kD av;clear av;go_enter func173,ntmps173
 go_wp2_with (
  go_at_call 153;refine(jx A c us _ ((hR.alloc _).alloc _) hA hn).mono ?_;rintro e w1 ⟨v1,rfl,D,K⟩;obtain⟨g,M,rfl,ao,a7⟩:=dA D h0;have b0:Blk w1 _ _ _:=(K.block _ (by simp;omega)).trans (hp20 _ _ _);have b1:Blk w1 _ _ _:=(K.block _ (by simp)).trans (hp21 _ _ _);have c0:=b0.cells;have c1:=b1.cells;have f0:=b0.free;have f1:=b1.free;obtain⟨hz,bn⟩:=sz2 K;replace K:=eE K)
 obtain⟨V,J⟩:=zex (w1.setCell ⟨w.heap.size,3,none⟩ (.slice (some ⟨g,0,none⟩) us.length M));rw[<-J];have B0:Blk V w.heap.size 47 #[.int .i64 s,.int .i64 j,.int .i64 i,.slice (some ⟨g,0,none⟩) us.length M]:=by rw[J];exact b0.mG 3 _
 have B1:Blk V (w.heap.size+1) 47 #[.int .i64 0,.int .i64 0,.int .i64 0,.slice none 0 0]:=by rw[J];exact b1.far (by simp) _
 have HO:V.ownsRow (w.heap.size+2) 4 1 (.slice (some ⟨g,0,none⟩) us.length M) us.length (us.map .bool):=by rw[J];exact ownsRow_setCell_below (aI D (by simp)) (by simp) _
 have HB:Zr w V:=by rw[J];exact K.setCell (by simp) _
 have a8:w.heap.size+2<=g:=by simpa using ao
 have hz:w.heap.size+2<=V.heap.size:=by rw[J];simp;omega
 clear J D K b0 b1 ao a7 hR;go_loopw [15] (fun q wr=>∃k:Nat,k<=I.length/\q=.int .i64 k/\wr.ownsRow (w.heap.size+2) 4 1 (.slice (some ⟨g,0,none⟩) us.length M) us.length ((bg us (I.take k) v).map .bool)/\Below (w.heap.size+2) V wr) (fun q _=>I.length - (intOf q).toNat)
 case atStart=>exact⟨0,kP _,rfl,HO,kF _ _⟩
 case round=>
  obtain⟨k,hk,rfl,D,O⟩:=hrel;have Y:=B0.below O (by omega)
  have ab:=B1.below O (by omega)
  have c0:=Y.cells;have c1:=ab.cells;have f0:=Y.free;have f1:=ab.free;have a1:Zr w wr:=HB.trans (O.mono (by omega))
  have bp:w.heap.size+2<=wr.heap.size:=kO hz O.size;by_cases U:k<I.length
  ·obtain⟨bq,oq,rfl,ba,ac⟩:=(a6.below a1).at_ (k:=k) (by simpa using U)
   have T:=a2.out I[k] (li U);have aL:=kD (jp us I v k U);rw[lf]at ac;generalize I[k]=x at T aL ac;obtain⟨bc,bk⟩:=T;have S:(bg us (I.take k) v).length=us.length:=cH _ _ _;have an:=D.cellAt x.toNat (by omega)
   rw[mq,kQ (by omega),Option.map_some]at an
   have bb:=D.frozenAt x.toNat;generalize (bg us (I.take k) v)[x.toNat]=ux at an;have HL:=kD S;clear S;go_wp2
   go_roundw
   case rel=>exact⟨k+1,by omega,by go_num,by rw[aL.out,List.map_set];exact(D.stored _ _).1,O.setCell (p:=⟨g,x.toNat,none⟩) a8 _⟩
   case measure=>simp[intOf];omega
  ·obtain rfl:k=I.length:=by omega
   rw[lj]at D;go_wp2
   refine bodyPost_ret (v:=.agg #[.int .i64 s,.int .i64 j,.int .i64 i,.slice (some ⟨g,0,none⟩) us.length M]) (by simp[results,results173,go_sem,c1]) rfl ?_
   refine⟨g,M,rfl,?_,zgr⟩
   exact aI (ownsRow_setCell_below (ownsRow_setCell_below (ownsRow_setCell_below (ownsRow_setCell_below D (by simp) _) (by simp) _) (by simp) _) (by simp) _) (by omega)
theorem z3l (s j i:Int)(A Bl:Option Addr)(c cb:Nat)(us:List Bool)(J:List Int)(v:Bool)(w:World)(hR:Reads w A (us.map .bool))(h0:0<us.length)(hn:us.length<=1000)
  (bk:Reads w Bl (J.map (.int .i64))) (hm:J.length<=1000) (a2:∀b∈J,0<=b/\b<us.length):
  Calls prog 207 #[.agg #[.int .i64 s,.int .i64 j,.int .i64 i,.slice A us.length c],.slice Bl J.length cb,.bool v] w (z7Z s j i us J v w):=by
 have hA:A≠none:=by
  obtain⟨b,off,rfl,_⟩:=hR.at_ (k:=0) (by simpa using h0)
  simp
 have bc:=kD a2;clear a2;go_enter func207,ntmps207
 have O:(((w.alloc (.cells #[.int .i64 s,.int .i64 j,.int .i64 i,.slice A us.length c] 47)).alloc (.cells #[.int .i64 0,.int .i64 0,.int .i64 0,.slice none 0 0] 47)).alloc (.cells #[] 4)).ownsRow (w.heap.size+2) 4 1 (.slice (some ⟨w.heap.size+2,0,none⟩) 0 0) 0 []:=by
  have:=World.ownsRow_made (e:=4) (size:=1) (base:=w.heap.size+2) ((w.alloc (.cells #[.int .i64 s,.int .i64 j,.int .i64 i,.slice A us.length c] 47)).alloc (.cells #[.int .i64 0,.int .i64 0,.int .i64 0,.slice none 0 0] 47)) #[] 0 (by simp) (by simp) rfl
  simpa using this
 obtain⟨i0,hi,a7,a8,ba⟩:=info_parts Tryz.info4;have U:=kD (jZ us);go_wp2_with (at_builtin;refine dj _ rfl (.tmp 8) (.tmp 10) _ rfl (w.heap.size+2) 4 i0 (.bool false) 1 underlying45 hi a7 a8 ba rfl (.slice (some ⟨w.heap.size+2,0,none⟩) 0 0) 0 [] rfl O A us.length c (us.map .bool) rfl (by simp) (by simp[hA]) (((hR.alloc _).alloc _).alloc _) U.out (by simp only[maxLen];omega) (by omega) (by simp) ?_;intro v1 w1 D I an;have bp:=I;obtain⟨g,M,rfl,a1,bn⟩:=dA D (by omega);have b0:Blk w1 _ _ _:=(Blk.alloc (Blk.alloc (Blk.new w _ _) _) _).grown I (by simp[Value.ownBlock]);have b1:Blk w1 _ _ _:=(Blk.alloc (Blk.new' (w:=w.alloc _) (g:=w.heap.size+1) (by simp)) _).grown I (by simp[Value.ownBlock]);have c0:=b0.cells;have c1:=b1.cells;have f0:=b0.free;have f1:=b1.free;have ao:Zr w w1:=(((kF _ w).alloc (kE _) _).alloc (by simp) _ |>.alloc (by simp;omega) _).grown I (by simp;omega) (by intro k hk;simp[Value.ownBlock]at hk;omega);clear I bp an O)
 simp only[ld,mo]at D;obtain⟨W1,K⟩:=zex (w1.setCell ⟨w.heap.size,3,none⟩ (.slice (some ⟨g,0,none⟩) us.length M));rw[<-K];have B0:Blk W1 w.heap.size 47 #[.int .i64 s,.int .i64 j,.int .i64 i,.slice (some ⟨g,0,none⟩) us.length M]:=by rw[K];exact b0.mG 3 _
 have B1:Blk W1 (w.heap.size+1) 47 #[.int .i64 0,.int .i64 0,.int .i64 0,.slice none 0 0]:=by rw[K];exact b1.far (by simp) _
 have HO:W1.ownsRow (w.heap.size+2) 4 1 (.slice (some ⟨g,0,none⟩) us.length M) us.length (us.map .bool):=by rw[K];exact ownsRow_setCell_below (aI D (by simp)) (by simp) _
 have HB:Zr w W1:=by rw[K];exact ao.setCell (by simp) _
 have br:w.heap.size+2<=g:=by simpa using a1
 have hz:w.heap.size+2<=W1.heap.size:=by rw[K];simp;omega
 clear K D ao b0 b1 a1 bn hR hi a7 a8 ba U;go_loopw [7] (fun q wr=>∃k:Nat,k<=J.length/\q=.int .i64 k/\wr.ownsRow (w.heap.size+2) 4 1 (.slice (some ⟨g,0,none⟩) us.length M) us.length ((bg us (J.take k) v).map .bool)/\Below (w.heap.size+2) W1 wr) (fun q _=>J.length - (intOf q).toNat)
 case atStart=>exact⟨0,kP _,rfl,HO,kF _ _⟩
 case round=>
  obtain⟨k,hk,rfl,D,S⟩:=hrel;have ab:=B0.below S (by omega)
  have ac:=B1.below S (by omega)
  have c0:=ab.cells;have c1:=ac.cells;have f0:=ab.free;have f1:=ac.free;have bb:Zr w wr:=HB.trans (S.mono (by omega))
  have bB:w.heap.size+2<=wr.heap.size:=kO hz S.size;by_cases Y:k<J.length
  ·obtain⟨bq,oq,rfl,bt,av⟩:=(bk.below bb).at_ (k:=k) (by simpa using Y)
   have V:=bc.out J[k] (li Y);have a6:=kD (jp us J v k Y);rw[lf]at av;generalize J[k]=x at V a6 av;obtain⟨bw,bA⟩:=V;have T:(bg us (J.take k) v).length=us.length:=cH _ _ _;have aL:=D.cellAt x.toNat (by omega)
   rw[mq,kQ (by omega),Option.map_some]at aL
   have bu:=D.frozenAt x.toNat;generalize (bg us (J.take k) v)[x.toNat]=ux at aL;have HL:=kD T;clear T;go_wp2
   go_region
   all_goals go_wp2
   go_roundw
   case rel=>exact⟨k+1,by omega,by go_num,by rw[a6.out,List.map_set];exact(D.stored _ _).1,(S.setCell (p:=⟨g,x.toNat,none⟩) br _).drew⟩
   case measure=>simp[intOf];omega
  ·obtain rfl:k=J.length:=by omega
   rw[lj]at D;go_wp2
   refine bodyPost_ret (v:=.agg #[.int .i64 s,.int .i64 j,.int .i64 i,.slice (some ⟨g,0,none⟩) us.length M]) (by simp[results,results207,go_sem,c1]) rfl ?_
   refine⟨g,M,rfl,?_,zgr⟩
   exact aI (ownsRow_setCell_below (ownsRow_setCell_below (ownsRow_setCell_below (ownsRow_setCell_below D (by simp) _) (by simp) _) (by simp) _) (by simp) _) (by omega)
open Go.Shelf
attribute [local go_sem] Oper.semAt_some
theorem za9 (s j i near:Int)(A:Option Addr)(n c:Nat)(w:World):
  Calls prog 171 #[.agg #[.int .i64 s,.int .i64 j,.int .i64 i,.slice A n c],.int .i64 near] w fun e K=>
   e=.returned (.func (.func 217) #[] #[.pointer (some ⟨w.heap.size,0,none⟩),.pointer (some ⟨w.heap.size+1,0,none⟩)]) /\
   K=(w.alloc (.cells #[.int .i64 s,.int .i64 j,.int .i64 i,.slice A n c] 47)).alloc (.cells #[.int .i64 near] 3):=by
 have J:∀(I:Fn) (first D:Array Value) (w:World),(Instr.makeFunc I first D).run prog w=.ok (.func I first D) w:=fun _ _ _ _=>rfl
 go_enter func171,ntmps171
 go_wp2
 go_ret
 exact⟨rfl,rfl⟩
theorem z6O (F:Fence)(n:Nat)(h7:F.fn 217)(Y:F.round=none)(hn:1<=n)(O M K:Nat)(s j i:Int)(A:Option Addr)(c near:Nat)(us:List Bool)(D:near<us.length)(ab:us.length<=1000)
  (w:World) (bs:List Nat) (an:O∉bs) (ac:M∉bs) (T:O<K) (S:M<K) (ao:K<=w.heap.size)
  (b0:Blk w O 47 #[.int .i64 s,.int .i64 j,.int .i64 i,.slice A us.length c]) (b1:Blk w M 3 #[.int .i64 near])
  (b off:Nat) (hA:A=some ⟨b,off,none⟩) (hb:b<K) (xb:b∉bs) (V:∀k (h:k<us.length),w.cell? ⟨b,off+k,none⟩=some (.bool us[k])):
  SeqStopsK F n prog 217 #[.pointer (some ⟨O,0,none⟩),.pointer (some ⟨M,0,none⟩)] (fun x:Int=>#[Value.int .i64 x]) (KeepEx K bs) (fun ys=>ys=ew us near)
   (fun I=>∃k,k<=us.length/\I=aM us near k) us.length w:=fun l J Jx W U _ _ hY h0=>by
 refine za7 F n h7 Y hn l O M K s j i A c near us D ab T S bs an ac J Jx (fun I x W h hl _ _=>hY I x W h hl) W (b0.mD U).cells ?_ b off hA hb xb ?_ h0
 ·have:=(b1.mD U).cells 0
  simpa using this
 ·intro k h;exact(U.cell (p:=⟨b,off+k,none⟩) (by show b<_;omega)).trans (V k h)
def ay (us:List Bool)(near many:Nat):List Int:=(ew us near).take many
theorem z16 (us:List Bool)(near k m:Nat)(h:k<=m):aM us near k <+: aM us near m:=by
 unfold aM;obtain⟨d,rfl⟩:∃d,m=k+d:=⟨m - k,by omega⟩
 rw[List.range_add,List.filter_append,List.map_append];exact List.prefix_append _ _
theorem z1P {us:List Bool}{near many:Nat}(h:(ew us near).length<=many):ay us near many=ew us near:=mj h
theorem z4B {us:List Bool}{near many k:Nat}{c:List Int}{x:Int}(A:k<=us.length)(h:aM us near k=c++[x])(D:c.length=many):ay us near many=c:=by
 obtain⟨r,I⟩:=z16 us near k us.length A;unfold ay ew;rw[<-I,h,<-D];simp
theorem fj {us:List Bool}{near many:Nat}(A:0<us.length):∀b∈ay us near many,0<=b/\b<(us.length:Int):=by
 intro b c;have c:=List.mem_of_mem_take c;unfold ew aM at c;simp only[List.mem_map]at c;obtain⟨k,_,rfl⟩:=c;exact⟨Int.emod_nonneg _ (by omega),Int.emod_lt_of_pos _ (by omega)⟩
theorem aw {W:World}{base:Nat}{e:TypeId}{size:Nat}{v:Value}{k:Nat}{xs:List Value}(h:W.ownsRow base e size v k xs):∃a c,v=.slice a k c:=by
 rcases h.2 with ⟨rfl,rfl⟩|⟨g,c,_,rfl,_⟩
 ·exact⟨_,_,rfl⟩
 ·exact⟨_,_,rfl⟩
def z2k (B base:Nat)(l:List Int)(W:World):Prop:=
 ∃v,Boxed W B 53 v/\W.ownsRow base 3 1 v l.length (l.map (Value.int .i64))/\(v=.slice none 0 0↔l=[])
theorem z1c (B base C:Nat):OwnFrom C (fun (l:List Int) W=>z2k B base l W):=
 Own.from (holdsRow_own base B 53 3 1 (fun l:List Int=>l.length) (fun l=>l.map (Value.int .i64)) (fun l v=>v=.slice none 0 0↔l=[])) C
theorem Tryz.info3:(prog.info? 3).map (fun i=>(i.zero,i.size,i.bytes))=some (some (.int .i64 0),1,8):=by kernel_rfl
def z0H (s j i:Int)(A:Option Addr)(c near many:Nat)(us:List Bool)(w:World)(e:Ending)(w':World):Prop:=
 Zr w w'/\(((ew us near).length<many/\e=.returned (.tuple #[.agg #[.int .i64 s,.int .i64 j,.int .i64 i,.slice A us.length c],.slice none 0 0,.int .i64 11])) \/
  (many<=(ew us near).length/\∃g cap av cv,e=.returned (.tuple #[.agg #[.int .i64 s,.int .i64 j,.int .i64 i,.slice (some ⟨g,0,none⟩) us.length cap],.slice av (ay us near many).length cv,.int .i64 0]) /\
   w'.ownsRow w.heap.size 4 1 (.slice (some ⟨g,0,none⟩) us.length cap) us.length ((bg us (ay us near many) true).map .bool) /\
   w'.ownsRow w.heap.size 3 1 (.slice av (ay us near many).length cv) (ay us near many).length ((ay us near many).map (.int .i64))))
theorem z6m (s j i:Int)(A:Option Addr)(c near many:Nat)(us:List Bool)(bB:near<us.length)(bU:us.length<=1000)(w:World)
  (hR:Reads w A (us.map .bool)) (hE:CkE s j i us.length=0):
  Calls prog 95 #[.agg #[.int .i64 s,.int .i64 j,.int .i64 i,.slice A us.length c],.int .i64 near,.int .i64 many] w (z0H s j i A c near many us w):=by
 refine gW func95 rfl ?_;simp only[ntmps95,List.size_toArray,lr,lH,Nat.reduceAdd,Nat.reduceSub,Array.replicate_succ,Array.replicate_zero,List.push_toArray,List.append_toArray,mo,List.cons_append];have HE:=kD hE;clear hE;have cp:(CkE s j i us.length != 0)=false:=by simp[HE.out]
 have cD:decide ((many:Int)<0)=false:=by simp
 have cw:outB near 0 ((us.length:Int) - 1)=false:=eo (by omega)
 go_wp2_with fail
 refine(g8 s j i A us.length c _ (by unfold maxLen;omega)).mono ?_
 rintro e M ⟨rfl,U⟩;have bS:Blk M w.heap.size 47 #[.int .i64 s,.int .i64 j,.int .i64 i,.slice A us.length c]:=Blk.mD zbn U
 have bM:Blk M (w.heap.size+1) 3 #[.int .i64 many]:=Blk.mD zbn U
 have bR:Blk M (w.heap.size+2) 47 #[.int .i64 0,.int .i64 0,.int .i64 0,.slice none 0 0]:=Blk.mD zbn U
 have bL:Blk M (w.heap.size+3) 53 #[.slice none 0 0]:=Blk.mD zbn U
 replace U:Zr w M:=z3D (dq U)
 have cS:=bS.cells;have cM:=bM.cells;have cR:=bR.cells;have cL:=bL.cells;go_wp2_with (first
  | (go_at_call 172;refine(dd _ _ _ _).mono ?_;rintro e w' ⟨rfl,rfl⟩)
  | (go_at_call 171;refine(za9 _ _ _ _ _ _ _ _).mono ?_;rintro e w' ⟨rfl,rfl⟩))
 obtain⟨b,off,hA,hb,_⟩:=hR.at_ (k:=0) (by simp;omega)
 have bP:∀k (h:k<us.length),w.cell? ⟨b,off+k,none⟩=some (.bool us[k]):=by
  intro k h;obtain⟨b',cn,bt,_,b7⟩:=hR.at_ (k:=k) (by simpa using h)
  rw[hA]at bt;simp only[lx,Addr.mk.injEq,and_true]at bt;obtain⟨rfl,rfl⟩:=bt;rw[b7,lf]
 have HA:=kD hA;clear hA;obtain⟨i0,hi,cg,ci,ck⟩:=info_parts Tryz.info3;have hz:w.heap.size+3<M.heap.size:=bL.lt;obtain⟨W1,O⟩:=zex ((M.alloc (.cells #[.int .i64 s,.int .i64 j,.int .i64 i,.slice A us.length c] 47)).alloc (.cells #[.int .i64 near] 3));rw[<-O];have bN:Blk W1 w.heap.size 47 #[.int .i64 s,.int .i64 j,.int .i64 i,.slice A us.length c]:=by rw[O];exact(bS.alloc _).alloc _
 have bn:Blk W1 (w.heap.size+1) 3 #[.int .i64 many]:=by rw[O];exact(bM.alloc _).alloc _
 have bJ:Blk W1 (w.heap.size+2) 47 #[.int .i64 0,.int .i64 0,.int .i64 0,.slice none 0 0]:=by rw[O];exact(bR.alloc _).alloc _
 have bF:Boxed W1 (w.heap.size+3) 53 (.slice none 0 0):=by rw[O];exact(bL.alloc _).alloc _
 have bC:Blk W1 M.heap.size 47 #[.int .i64 s,.int .i64 j,.int .i64 i,.slice A us.length c]:=by rw[O];exact zbn
 have bD:Blk W1 (M.heap.size+1) 3 #[.int .i64 near]:=by rw[O];exact zbn
 have bu:Zr w W1:=by rw[O];exact(U.alloc U.size _).alloc (by simp;omega) _
 have cF:W1.heap.size=M.heap.size+2:=by rw[O];simp
 have bb:∀k (h:k<us.length),W1.cell? ⟨b,off+k,none⟩=some (.bool us[k]):=fun k h=>(bu.cell (p:=⟨b,off+k,none⟩) hb).trans (bP k h)
 clear O bS bM bR bL cS cM cR cL U bP;have bZ:=kD bb;have b1:=kD hi;clear bb;refine kA (n:=6) (fun D W=>W.heap[D]?=some (.deferred (some []))/\M.heap.size+2<=D/\z2k (w.heap.size+3) (M.heap.size+2) (ay us near many) W/\KeepEx (M.heap.size+2) [w.heap.size+3] W1 W) ?loop ?after
 case loop=>
  refine wpIn_rangeFunc_ownG rfl (by omega) (gf:=217) (lb:=#[.pointer (some ⟨M.heap.size,0,none⟩),.pointer (some ⟨M.heap.size+1,0,none⟩)]) rfl trivial (enters_of func217 (by kernel_rfl) rfl)
   (z6O Fence.wide (6 - 1) trivial rfl (by omega) M.heap.size (M.heap.size+1) (M.heap.size+2) s j i A c near us bB bU W1 [w.heap.size+3] (by simp;omega) (by simp;omega) (by omega) (by omega) (by omega) bC bD b off HA.out (by omega) (by simp;omega) bZ.out)
   zad (zac (by omega)) (kF _ _) (fun _=>rfl)
   (fun S W=>(z2k (w.heap.size+3) (M.heap.size+2) S W/\KeepEx (M.heap.size+2) [w.heap.size+3] W1 W)/\S.length<=many)
   (fun c S W=>c=.exit 0/\∃an x,S=an++[x]/\an.length=many/\z2k (w.heap.size+3) (M.heap.size+2) an W/\KeepEx (M.heap.size+2) [w.heap.size+3] W1 W)
   (OwnFrom.and (OwnFrom.and (z1c _ _ _) (fC (by omega) (by omega))) z2T)
   (fun c s X Y bX hs hg hr=>by
    obtain⟨hc,p,x,hp,hl,hx,hk⟩:=hs;exact⟨hc,p,x,hp,hl,z1c _ _ _ p X Y bX hx hg hr,fC (β:=Unit) (by omega) (by omega) () X Y bX hk hg hr⟩)
   ⟨⟨⟨_,bF,World.ownsRow_nil _ _ _ _,by simp⟩,KeepEx.refl _ _ _⟩,by simp⟩
   (fun x=>{ tmps:=#[.agg #[.int .i64 s,.int .i64 j,.int .i64 i,.slice A us.length c],.int .i64 near,.int .i64 many,.pointer (some ⟨w.heap.size,0,none⟩),undef,.pointer (some ⟨w.heap.size+1,0,none⟩),.pointer (some ⟨w.heap.size+1+1,0,none⟩),.pointer (some ⟨w.heap.size+1+1+1,0,none⟩),.int .i64 0,.int .i64 (CkE s j i us.length),.int .i64 x,
    .agg #[.int .i64 s,.int .i64 j,.int .i64 i,.slice A us.length c],.int .i64 (CkE s j i us.length),.int .i64 (CkE s j i us.length),.bool false,undef,undef,.int .i64 near,.pointer (some ⟨w.heap.size,3,none⟩),.slice A us.length c,.int .i64 us.length,.int .i64 (us.length - 1),.bool false,.bool false,.int .i64 many,.bool false,.bool false,undef,
    .agg #[.int .i64 s,.int .i64 j,.int .i64 i,.slice A us.length c],.int .i64 near,.func (.func 217) #[] #[.pointer (some ⟨M.heap.size,0,none⟩),.pointer (some ⟨M.heap.size+1,0,none⟩)],.int .i64 x,undef,undef,undef,undef,undef,undef,undef,undef,undef,undef,undef,undef,undef,undef,undef,undef,undef],defers:=[] }) ?assign ?body ?done ?stop
  case assign=>
   intro l x W K V;gi_wp2
   exact V
  case body=>
   rintro l S x W ⟨⟨⟨v,hv,I,a1⟩,V⟩,hm⟩ cC;have cM:=(V.blk bn (by omega) (by simp)).cells
   obtain⟨av,cv,rfl⟩:=aw I;have hc:=hv.cell;have hf:=hv.frozen;have cb:=V.size;have HN:=kD a1;clear a1;by_cases he:S.length=many
   ·have hd:((S.length:Int)==(many:Int))=true:=by simp[he]
    have b0:=kD he;clear he;gi_wp2
    exact⟨KeepsFrom.refl _ _,rfl,S,x,rfl,b0.out,⟨_,hv,I,HN.out⟩,V⟩
   ·have hd:((S.length:Int)==(many:Int))=false:=by simp;omega
    have hi:=b1.out;gi_wp2_with (gi_at_builtin;refine wpListIn_append_own _ rfl _ _ 53 rfl (M.heap.size+2) 3 i0 (.int .i64 0) 1 8 underlying53 hi cg ci ck rfl (by decide) _ _ _ rfl (I.alloc _) ⟨W.heap.size,0,none⟩ 1 1 [.int .i64 x] rfl rfl (cell_one_new _ _ _) (by simp[Value.oneCell']) (by simp only[maxLen];omega) (by omega) (by simp;omega) ?_;intro v' w2 a2 bA _;obtain⟨g',cl,rfl⟩:=ownsRow_succ a2;obtain⟨bW,cc,ca,b8,J⟩:=iN hv I (by omega) (by omega) a2 bA;have cz:=bW.cell;have cA:=bW.frozen)
    exact⟨b8.from _,J,⟨⟨_,cc,by simpa using ca,by simp⟩,V.trans J⟩,by simp;omega⟩
  case done=>
   rintro D ys W hD rfl ⟨⟨aL,V⟩,hm⟩ T;exact⟨.inl rfl,D,rfl,T,by omega,by rw[z1P hm];exact aL,V⟩
  case stop=>
   rintro D c S W hD ⟨k,hk,bT⟩ ⟨rfl,an,x,hp,hl,aL,V⟩ T;exact wpIn_exit ⟨.inr rfl,D,rfl,T,by omega,by rw[z4B hk (bT.symm.trans hp) hl];exact aL,V⟩
 case after=>
  rintro D W ⟨T,hD,⟨v,hv,I,a1⟩,V⟩;obtain⟨av,cv,rfl⟩:=aw I;have a8:=V.blk bN (by omega) (by simp)
  have bp:=V.blk bn (by omega) (by simp)
  have ab:=V.blk bJ (by omega) (by simp)
  have cS:=a8.cells;have cM:=bp.cells;have cR:=ab.cells;have fR:=ab.free;have hc:=hv.cell;have hf:=hv.frozen;have cb:=V.size;have bw:Zr w W:=bu.trans (V.nK (by omega) (by simp))
  have bc:(ay us near many).length=min many (ew us near).length:=by simp[ay]
  have ac:=kD bc;have cB:(ay us near many).length<=many:=by omega
  clear bc bu bN bn bJ bF bC bD;have b9:(ay us near many).length<=1000:=by rw[ac.out];have:=i6 us near us.length;unfold ew;omega
  have b2:=kD (fj (us:=us) (near:=near) (many:=many) (by omega))
  by_cases bQ:(ew us near).length<many
  ·have hd:decide ((ay us near many).length<many)=true:=by simp;rw[ac.out];omega
   have co:=kD (by rw[ac.out];omega:(ay us near many).length≠many)
   go_wp2
   refine z3U (C:=bodyPostM Fence.wide 9 prog Tryz.f95 (z0H s j i A c near many us w) Exit.ret _)
    (F:=fun Wf=>Blk Wf (w.heap.size+2) 47 #[.int .i64 s,.int .i64 j,.int .i64 i,.slice A us.length c]/\Blk Wf (w.heap.size+3) 53 #[.slice none 0 0]/\Wf.heap[D]?=some (.deferred (some []))/\Zr w Wf) ?_ ?_
   ·refine⟨((((ab.mG 0 _).mG 1 _).mG 2 _).mG 3 _).far (by simp) _,Blk.mG ((((Blk.far hv (by simp) _).far (by simp) _).far (by simp) _).far (by simp) _) 0 _,?_,zgr⟩
    (repeat (first|(with_reducible exact T)|refine(Below.heap_setCell _ _ _ _ (by simp;omega)).trans ?_))
   ·clear T cS cM cR fR hc hf hv I a8 bp ab V;rintro Wf ⟨BR,BL,ao,bk⟩;have br:=(z2q (o:=.deferred none) BR (by omega:_≠D)).cells
    have bq:=(z2q (o:=.deferred none) BL (by omega:_≠D)).cells
    refine jE (.tuple #[.agg #[.int .i64 s,.int .i64 j,.int .i64 i,.slice A us.length c],.slice none 0 0,.int .i64 11]) ao (by simp[results,results95,go_sem,br,bq]) ?_
    exact⟨z0O bk (by omega),.inl ⟨bQ,rfl⟩⟩
  ·have hd:decide ((ay us near many).length<many)=false:=by simp;rw[ac.out];omega
   have b6:Hid (Reads W.drew A (us.map .bool)):=kD (hR.below bw.drew);have b5:Hid (Reads W.drew av ((ay us near many).map (.int .i64))):=kD ((Reads.ng I).below (kF _ _).drew);go_wp2_with fail
   go_region_held3 (fun w'=>w'.cell? ⟨w.heap.size,0,none⟩=some (.int .i64 s)/\w'.cell? ⟨w.heap.size,1,none⟩=some (.int .i64 j)/\w'.cell? ⟨w.heap.size,2,none⟩=some (.int .i64 i)/\w'.cell? ⟨w.heap.size,3,none⟩=some (.slice A us.length c) /\
     w'.cell? ⟨w.heap.size+3,0,none⟩=some (.slice av (ay us near many).length cv))
    (first|(go_keep;done)|((try dsimp only);refine⟨?_,?_,?_,?_,?_⟩<;>(first|(go_keep;done)|(simp[go_sem, *];done))))
    ((go_at_call 173;refine(z9y s j i A av c cv us (ay us near many) true W.drew b6.out (by omega) bU b5.out b9 b2.out).mono ?_;rintro e w2 ⟨g,ba,rfl,a6,J⟩;have cS:=(a8.drew.mD J).cells;have cR:=(ab.drew.mD J).cells;have fR:=(ab.drew.mD J).free;have hc:=(Blk.mD (Blk.drew hv) J).cells;have hf:=(Blk.mD (Blk.drew hv) J).free))
   have bK:=ab.drew.mD J;have bG:=Blk.mD (Blk.drew hv) J;have a7:=aq (W:=W.drew) I J;have bO:w2.heap[D]?=some (.deferred (some [])):=(J.block D (lu.1 T).1).trans T;have cm:Zr w w2:=bw.trans ((kF _ _).drew.trans (J.mono bw.size));have cJ:M.heap.size+2<=W.heap.size:=by omega
   have cK:w.heap.size+3<W.drew.heap.size:=by show _<W.heap.size;omega
   go_wp2
   refine z3U (C:=bodyPostM Fence.wide 9 prog Tryz.f95 (z0H s j i A c near many us w) Exit.ret _)
    (F:=fun Wf=>Blk Wf (w.heap.size+2) 47 #[.int .i64 s,.int .i64 j,.int .i64 i,.slice (some ⟨g,0,none⟩) us.length ba]/\Blk Wf (w.heap.size+3) 53 #[.slice av (ay us near many).length cv]/\Wf.heap[D]?=some (.deferred (some []))/\Zr w Wf /\
     Wf.ownsRow W.drew.heap.size 4 1 (.slice (some ⟨g,0,none⟩) us.length ba) us.length ((bg us (ay us near many) true).map .bool) /\
     Wf.ownsRow (M.heap.size+2) 3 1 (.slice av (ay us near many).length cv) (ay us near many).length ((ay us near many).map (.int .i64))) ?_ ?_
   ·refine⟨((((bK.mG 0 _).mG 1 _).mG 2 _).mG 3 _).far (by simp) _,Blk.mG ((((Blk.far bG (by simp) _).far (by simp) _).far (by simp) _).far (by simp) _) 0 _,?_,zgr,?_,?_⟩
    ·(repeat (first|(with_reducible exact bO)|refine(Below.heap_setCell _ _ _ _ (by simp;omega)).trans ?_))
    ·(repeat (first|(with_reducible exact a6)|refine ownsRow_setCell_below ?_ (by simp;omega) _))
    ·(repeat (first|(with_reducible exact a7)|refine ownsRow_setCell_below ?_ (by simp;omega) _))
   ·clear T cS cM cR fR hc hf hv I a8 bp ab V bK bG a7 bO a6;rintro Wf ⟨BR,BL,ao,bk,b3,b4⟩;have br:=(z2q (o:=.deferred none) BR (by omega:_≠D)).cells
    have bq:=(z2q (o:=.deferred none) BL (by omega:_≠D)).cells
    refine jE (.tuple #[.agg #[.int .i64 s,.int .i64 j,.int .i64 i,.slice (some ⟨g,0,none⟩) us.length ba],.slice av (ay us near many).length cv,.int .i64 0]) ao (by simp[results,results95,go_sem,br,bq]) ?_
    exact⟨z0O bk (by omega),.inr ⟨by omega,g,ba,av,cv,rfl,aI (ownsRow_putObj b3 _ ao rfl) (by omega),aI (ownsRow_putObj b4 _ ao rfl) (by omega)⟩⟩
open Go.Maps
theorem KeepEx.widen {B:Nat}{bs c:List Nat}{w w':World}(h:KeepEx B bs w w')(I:∀k,k∈bs->k∈c):KeepEx B c w w':=⟨h.os,h.tape,h.output,h.size,fun k A D=>h.block k A (fun e=>D (I k e))⟩
theorem Reads.qj {w w':World}{F F':List Nat}{A:Option Addr}{xs:List Value}(h:Reads w A xs)(g:Grow w F w' F')(I:∀a,A=some a->a.block∉F):Reads w' A xs:=by
 rcases h with h|⟨b,off,rfl,c,D⟩
 ·exact .inl h
 ·exact .inr ⟨b,off,rfl,lh c g.keep.size,fun k u J=>(World.cell?_of_block (w:=w) (a:=⟨b,off+k,none⟩) (g.keep.block b c (I _ rfl))).trans (D k u J)⟩
theorem ce {w:World}{base:Nat}{e:TypeId}{size:Nat}{v:Value}{n:Nat}{xs:List Value}(h:w.ownsRow base e size v n xs):∀q,v.ownBlock=some q->base<=q/\q<w.heap.size:=by
 intro q c;rcases h.2 with ⟨rfl,-⟩|⟨g,A,D,rfl,I,J,-⟩
 ·cases c
 ·cases c;exact⟨I,(lu.1 J).1⟩
structure SlI (w:World)(A:Option Addr)(c:Nat)(l:List Int):Prop where
 reads:Reads w A (l.map (.int .i64))
 nil:A=none->l=[]/\c=0
 cap:l.length<=c
theorem SlI.below {w w':World}{A:Option Addr}{c:Nat}{l:List Int}(h:SlI w A c l)(D:Zr w w'):SlI w' A c l:=⟨h.reads.below D,h.nil,h.cap⟩
theorem SlI.ng {w:World}{base:Nat}{v:Value}{l:List Int}(h:w.ownsRow base 3 1 v l.length (l.map (.int .i64))):∃A c,v=.slice A l.length c/\SlI w A c l:=by
 rcases h.2 with ⟨rfl,J⟩|⟨g,D,I,rfl,-,-,K,-⟩
 ·obtain rfl:=List.length_eq_zero_iff.1 J;exact⟨none,0,rfl,.inl rfl,fun _=>⟨rfl,rfl⟩,kE _⟩
 ·exact⟨_,D,rfl,Reads.ng h,(fun e=>by cases e),K⟩
structure TD (w:World)(T:Nat)(F:List Nat)(D:Nat)(y:TxS)(B:List Nat)(x:DevS):Prop where
 tx:TxAt w T F D y
 dev:DevAt w D B x
 dis:∀b∈F,b∉B
theorem TD.below {w w':World}{T:Nat}{F:List Nat}{D:Nat}{y:TxS}{B:List Nat}{x:DevS}(h:TD w T F D y B x)(c:Zr w w'):TD w' T F D y B x:=⟨h.tx.below c,h.dev.below c,h.dis⟩
theorem TD.F0 {w:World}{T:Nat}{F:List Nat}{D:Nat}{y:TxS}{B:List Nat}{x:DevS}(h:TD w T F D y B x):0∉F:=fun c=>by have:=(h.tx.lt 0 c).1;omega
theorem TD.grow {w w':World}{T:Nat}{F F':List Nat}{D:Nat}{y I:TxS}{B:List Nat}{x:DevS}(h:TD w T F D y B x)(K:TxAt w' T F' D I)(g:Grow w F w' F'):TD w' T F' D I B x:=
 ⟨K,h.dev.grow g h.dis h.F0,fun b J A=>by
  rcases g.new b J with c|c
  ·exact h.dis b c A
  ·have:=(h.dev.lt b A).2;omega⟩
theorem TD.mG {w:World}{T:Nat}{F:List Nat}{D:Nat}{y:TxS}{B:List Nat}{x:DevS}(h:TD w T F D y B x){p:Addr}(I:p.block∉F)(A:p.block∉B)(c:p.block≠0)(u:Value):TD (w.setCell p u) T F D y B x:=
 ⟨h.tx.mG I u,h.dev.mG A c u,h.dis⟩
theorem TD.keep {w w':World}{T:Nat}{F:List Nat}{D:Nat}{y:TxS}{B:List Nat}{x:DevS}(h:TD w T F D y B x)(A:∀b,b∈F\/b∈B\/b=0->w'.heap[b]?=w.heap[b]?)(I:w.heap.size<=w'.heap.size):TD w' T F D y B x:=
 ⟨h.tx.frame (fun b c=>A b (.inl c)) I,h.dev.frame (fun b c=>A b (.inr c)) I,h.dis⟩
structure GrowN (n0:Nat)(w:World)(F:List Nat)(w':World)(F':List Nat):Prop where
 keep:KeepEx n0 F w w'
 new:∀b∈F',b∈F\/n0<=b
theorem GrowN.refl (n0:Nat)(w:World)(F:List Nat):GrowN n0 w F w F:=⟨KeepEx.refl _ _ _,fun _ h=>.inl h⟩
theorem GrowN.trans {n0:Nat}{w J K:World}{F A D:List Nat}(h:GrowN n0 w F J A)(k:GrowN n0 J A K D):GrowN n0 w F K D:=
 ⟨⟨k.keep.os.trans h.keep.os,k.keep.tape.trans h.keep.tape,k.keep.output.trans h.keep.output,kO h.keep.size k.keep.size,fun b c I=>(k.keep.block b c (fun O=>(h.new b O).elim I (fun S=>by omega))).trans (h.keep.block b c I)⟩,
  fun b c=>(k.new b c).elim (fun M=>h.new b M) .inr⟩
theorem Grow.toN {n0:Nat}{w w':World}{F F':List Nat}(h:Grow w F w' F')(I:n0<=w.heap.size):GrowN n0 w F w' F':=
 ⟨⟨h.keep.os,h.keep.tape,h.keep.output,h.keep.size,fun b c A=>h.keep.block b (by omega) A⟩,fun b c=>(h.new b c).imp id (fun D=>by omega)⟩
theorem GrowN.of_below {n0:Nat}{w w':World}(h:Zr w w')(c:n0<=w.heap.size)(F:List Nat):GrowN n0 w F w' F:=(Grow.of_below h F).toN c
theorem GrowN.mG {n0:Nat}{w V:World}{F F':List Nat}(h:GrowN n0 w F V F'){p:Addr}(c:n0<=p.block)(u:Value):GrowN n0 w F (V.setCell p u) F':=
 ⟨h.keep.trans (KeepEx.setCell V (.inr c) u),h.new⟩
theorem GrowN.qI {w w':World}{F F':List Nat}(h:GrowN w.heap.size w F w' F'):Grow w F w' F':=⟨h.keep,h.new⟩
theorem z41 {n:Nat}(D:64<=n/\n<=256){a:Int}(A:0<=a/\a<n):(aV n).ge a=70:=by
 have c:(aV n).reads a=zsec:=by
  show (List.replicate n zsec).getD a.toNat []=zsec
  rw[kN,List.getElem?_replicate,if_pos (by omega)];rfl
 show ko false (List.replicate n zsec).length a ((aV n).reads a)=70
 unfold ko;rw[if_pos (show Go.Proofs.YtejmknghkbobnaaGreatDoor.atE _ _ a=0 from by unfold Go.Proofs.YtejmknghkbobnaaGreatDoor.atE;rw[if_neg (by simp),if_neg (by rw[m4];omega)]),c]
 unfold cY;rw[if_neg (by omega),if_pos rfl]
theorem z5U {x:DevS}{a:Int}(h:x.ge a=70):x.fr a=noFr:=by unfold DevS.fr;rw[h,if_neg (by decide)]
def yA:TxS:=⟨64,8,40,List.replicate 14 false,List.replicate 14 false,[],false,false,false⟩
end Go.Proofs.YtejmknghkbobnaaGreatDoor
