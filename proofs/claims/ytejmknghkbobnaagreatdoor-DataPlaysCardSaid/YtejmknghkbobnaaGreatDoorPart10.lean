import Derived.Test.YtejmknghkbobnaaGreatDoorPart09
set_option linter.all false
set_option maxRecDepth 100000
set_option maxHeartbeats 0
namespace Go.Proofs.YtejmknghkbobnaaGreatDoor
open Go.Proofs.Tryz
open Go.RowKit Go.Maps
theorem z01 (D:Nat)(F Z:Int)(c:0<=F/\F<=256/\0<=Z/\Z<=256)(B:List Nat)(x:DevS)(f:Fr)(w:World)(h:DevAt w D B x):
  Calls prog 200 #[.pointer (some ⟨D,0,none⟩),.agg #[.int .i64 F,.int .i64 Z],.agg #[.int .i64 f.kind,.int .u32 f.seq,.string f.data]] w fun e K=>e=.returned (.tuple #[.agg (recC (aB f)),.bool (dp x.stable.length F Z f)])/\Zr w K:=by
 by_cases A:f.kind≠2\/f.data.size<3\/99<f.data.size
 ·have I:aB f=z5b:=by unfold aB;rw[if_pos A]
  have J:dp x.stable.length F Z f=false:=by unfold dp;rw[if_pos A]
  rw[I,J];exact z7l D F Z B x f w A
 ·exact z5i D F Z c B x f w h (by omega) (by omega) (by omega)
theorem z62 {n F Z:Int}{f:Fr}(h:dp n F Z f=true):(-9223372036854775808<=(aB f).at_/\(aB f).at_<=9223372036854775807)/\(aB f).data.size<=maxLen:=by
 unfold dp at h;by_cases c:f.kind≠2\/f.data.size<3\/99<f.data.size
 ·rw[if_pos c]at h;cases h
 ·unfold aB;rw[if_neg c];refine⟨⟨(bits_within .or .i64 _ _).1,(bits_within .or .i64 _ _).2⟩,?_⟩
  show (f.data.extract 3 f.data.size).size<=_
  rw[ByteArray.size_extract];unfold maxLen;omega
theorem z9D (s t:ByteArray):(s.toList==t.toList)=decide (s=t):=by
 rw[Bool.eq_iff_iff,beq_iff_eq,decide_eq_true_iff,ByteArray.toList_eq,ByteArray.toList_eq];constructor
 ·intro h;apply ByteArray.ext;exact Array.toList_inj.1 h
 ·rintro rfl;rfl
def eR (n F Z q:Int)(E:Int)(f:Fr)(R:List Rec):Bool:=!(E==0&&f.seq==aD q)||!dp n F Z f||decide ((aB f).at_∈R.map (·.at_))||decide ((R.length:Int)=cj Z)
def eC (q:Int)(E:Int)(f:Fr)(R:List Rec):Bool:=(E==0&&f.seq==aD q)&&f.kind==3&&decide (f.data=aH R.length)
theorem z1e {x:DevS}{F Z q:Int}{k:Nat}(h:(x.mM F Z q k).stop=false):x.mM F Z q (k+1)=if dI (x.ge (F+(k+1)))then ⟨true,x.ge (F+(k+1)),[],false⟩else if eR x.stable.length F Z q (x.ge (F+(k+1))) (x.fr (F+(k+1))) (x.mM F Z q k).run then ⟨true,0,(x.mM F Z q k).run,eC q (x.ge (F+(k+1))) (x.fr (F+(k+1))) (x.mM F Z q k).run⟩else ⟨false,0,(x.mM F Z q k).run++[aB (x.fr (F+(k+1)))],false⟩:=by
 rw[show F+((k:Int)+1)=F+1+k by omega]
 show (if (x.mM F Z q k).stop=true then _ else _)=_
 rw[if_neg (by rw[h];simp)]
 rfl
theorem jD {x:DevS}{F Z q:Int}{k m:Nat}(h:(x.mM F Z q k).stop=true)(c:k<=m):x.mM F Z q m=x.mM F Z q k:=by
 induction m with
 | zero=>
  have e:k=0:=by omega
  rw[e]
 | succ m ih=>
  by_cases e:k=m+1
  ·rw[e]
  ·have ih:=ih (by omega)
   show (if (x.mM F Z q m).stop=true then x.mM F Z q m else _)=_
   rw[ih,if_pos h]
def z5G (r:Int × Int × List Rec × Bool)(w:World)(e:Ending)(w':World):Prop:=
 Zr w w'/\∃A c,e=.returned (.tuple #[.agg #[.int .u32 r.2.1,.slice A r.2.2.1.length c,.bool r.2.2.2],.int .i64 r.1])/\RunAt w' A r.2.2.1/\∀ad,A=some ad->w.heap.size<=ad.block
theorem z1C {P:Program}{A:Array Oper}{rest:List Oper}{o:Oper}{a:Act}{w w':World}{Q:Exit->Act->World->Prop}(D:o.guard=none)(s x:Operand)(t:TypeId)(J:o.op=.call { callee:=.builtin .append,args:=#[s,x],argTypes:=#[t,t] })(p q v:Value)(K:a.eval s=p)(M:a.eval x=q)
  (c:(Builtin.append_ #[t,t] o.type #[p,q]).run P w=.ok v w') (h:wpList P A Q rest (a.put o.dst v) w'):wpList P A Q (o::rest) a w:=by
 refine wpList_plain D fun _ I=>?_
 unfold Oper.wp execOp;simp only[J,resolve,invoke,builtin,Sem.run_bind,Sem.run_pure,Result.andThen_ok,List.map_toArray,kR,kS,K,M,c];exact I _ _ h
theorem Tryz.o9:(prog.info? 118).map (fun i=>(i.zero,i.size,i.bytes))=some (some (.agg #[.int .i64 0,.int .i64 0,.string ⟨#[]⟩]),3,32):=by kernel_rfl
theorem z1g {w:World}{base:Nat}{e:TypeId}{size n:Nat}{v:Value}{xs:List Value}(h:w.ownsRow base e size v n xs):∃A c,v=.slice A n c/\Reads w A xs/\∀ad,A=some ad->base<=ad.block:=by
 have S:=h.1;rcases h.2 with ⟨rfl,J⟩|⟨g,D,I,rfl,K,M,-⟩
 ·subst J;exact⟨none,0,rfl,.inl (md (by simpa using S)),fun _ e=>by cases e⟩
 ·exact⟨some ⟨g,0,none⟩,D,rfl,.inr ⟨g,0,rfl,(lu.1 M).1,fun j u O=>by rw[ld];exact go h O⟩,fun _ e=>by cases e;exact K⟩
theorem zan (D:Nat)(F Z:Int)(B:List Nat)(x:DevS)(w:World)(h:DevAt w D B x):
  Calls prog 137 #[.pointer (some ⟨D,0,none⟩),.agg #[.int .i64 F,.int .i64 Z]] w (z5G (x.look F Z) w):=by
 obtain⟨wA,hA⟩:=zex ((w.alloc (.cells #[.int .i64 F,.int .i64 Z] 109)).alloc (.cells #[.int .u32 0,.slice none 0 0,.bool false] 216));have bJ:Blk wA w.heap.size 109 #[.int .i64 F,.int .i64 Z]:=by rw[hA];exact zbn
 have I:Blk wA (w.heap.size+1) 216 #[.int .u32 0,.slice none 0 0,.bool false]:=by rw[hA];exact zbn
 have BA:Zr w wA:=by rw[hA];exact zgr
 have cM:=z2G D F Z B x wA (h.below BA);obtain⟨cJ,lJ⟩:=bJ.zc;have lX:=I.lt;unfold z5G;go_enter func137,ntmps137
 go_wp2_with fail
 rw[<-hA];clear hA;go_wp2_with fail
 refine cM.mono ?_;rintro e w1 ⟨rfl,cW⟩;have e1:=bJ.mD cW;have bO:=I.mD cW;have B1:=BA.trans (cW.mono BA.size);clear cM cW cJ lJ lX bJ I BA;by_cases hE:(x.head F Z).1=0
 rotate_left
 ·have HL:Hid (x.look F Z=((x.head F Z).1,0,[],false)):=kD (by unfold DevS.look;rw[if_pos hE])
  generalize (x.head F Z).1=E at *;generalize (x.head F Z).2=q at *;have gV:(E != 0)=true:=by simpa using hE
  have d8:=bO.cells;have ea:=bO.free;have ds:=bO.lt;clear hE;go_wp2_with fail
  have bb:=(((bO.mG 0 (.int .u32 q)).mG 0 (.int .u32 0)).mG 1 (.slice none 0 0)).mG 2 (.bool false);have cb:=bb.cells;clear d8 ea ds;refine bodyPost_ret (v:=.tuple #[.agg #[.int .u32 0,.slice none 0 0,.bool false],.int .i64 E]) (by simp[results,results137,go_sem,cb]) rfl ?_
  refine⟨(((B1.setCell (p:=⟨w.heap.size+1,0,none⟩) (by simp) _).setCell (p:=⟨w.heap.size+1,0,none⟩) (by simp) _).setCell (p:=⟨w.heap.size+1,1,none⟩) (by simp) _).setCell (p:=⟨w.heap.size+1,2,none⟩) (by simp) _,none,0,by rw[HL.out];rfl,by rw[HL.out];exact .inl rfl,fun _ e=>by cases e⟩
 have g1:=i7 hE;have hq:=iC x F Z;have HL:Hid (x.look F Z=if (x.mM F Z (x.head F Z).2 (Z - 1).toNat).e≠0 then ((x.mM F Z (x.head F Z).2 (Z - 1).toNat).e,0,[],false)else (0,(x.head F Z).2,(x.mM F Z (x.head F Z).2 (Z - 1).toNat).run,(x.mM F Z (x.head F Z).2 (Z - 1).toNat).whole)):=kD (by unfold DevS.look;rw[if_neg (by rw[hE];simp)])
 rw[hE];clear hE;generalize (x.head F Z).2=q at *;obtain⟨z,rfl⟩:=lz (show 0<=Z by omega)
 rw[show ((z:Int) - 1).toNat=z - 1 by omega]at HL
 have d8:=bO.cells;have ea:=bO.free;have ds:=bO.lt;have gg:=@run_makeMap prog;go_wp2_with fail
 obtain⟨M,hM⟩:=zex w1.heap.size;obtain⟨w2,cC⟩:=zex ((w1.setCell ⟨w.heap.size+1,0,none⟩ (.int .u32 q)).alloc (.map #[] 0));have fR:Blk w2 w.heap.size 109 #[.int .i64 F,.int .i64 z]:=by rw[cC];exact(e1.far (by simp) _).alloc _
 have fT:Blk w2 (w.heap.size+1) 216 #[.int .u32 q,.slice none 0 0,.bool false]:=by rw[cC];exact(bO.mG 0 _).alloc _
 have fv:PlacesAt w2 M 0 (([]:List Rec).map (·.at_)):=by
  rw[cC,hM,show w1.heap.size=(w1.setCell ⟨w.heap.size+1,0,none⟩ (.int .u32 q)).heap.size by simp]
  exact World.ownsMap_made _ _ _ _
 have B2:Zr w w2:=by rw[cC];exact(B1.setCell (by simp) _).alloc (by have:=B1.size;simp;omega) _
 have g2:w.heap.size+1<M:=by rw[hM];exact ds
 rw[<-hM,<-cC];clear cC hM gg d8 ea ds e1 bO B1;go_loopw [7,8,9,10,11,12] (fun i _ _ _ _ _ wr=>∃k:Nat,k+1<=z/\i=.int .i64 ((k:Int)+1)/\(x.mM F z q k).stop=false/\(x.mM F z q k).e=0/\(x.mM F z q k).whole=false/\(x.mM F z q k).run.length<=k/\∃v,Blk wr (w.heap.size+1) 216 #[.int .u32 q,v,.bool false]/\wr.ownsRow (M+1) 118 3 v (x.mM F z q k).run.length ((x.mM F z q k).run.flatMap bE)/\PlacesAt wr M (x.mM F z q k).run.length ((x.mM F z q k).run.map (·.at_))/\Blk wr w.heap.size 109 #[.int .i64 F,.int .i64 z]/\Zr w wr/\M<wr.heap.size) (fun i _ _ _ _ _ _=>z - (intOf i).toNat)
 case atStart=>exact⟨0,by omega,rfl,rfl,rfl,rfl,kE _,.slice none 0 0,fT,World.ownsRow_nil _ _ _ _,fv,fR,B2,fv.lt⟩
 case round=>
  obtain⟨k,hk,rfl,fK,fn,fL,f3,v,I,S,hp,bJ,hB,d1⟩:=hrel;generalize cP:x.mM F z q k=lk at *;obtain⟨st,le,R,wh⟩:=lk;simp only at fK fn fL f3 S hp
  subst fK fn fL;have cX:=I.cells;have fX:=I.free;have lX:=I.lt;obtain⟨cJ,lJ⟩:=bJ.zc;by_cases g5:k+1<z
  ·have ej:=d1;have d2:=z0y D B x (F+((k:Int)+1)) wr (h.below hB);have ck:=z1e (x:=x) (F:=F) (Z:=z) (q:=q) (k:=k) (by rw[cP])
   rw[cP]at ck;have co:Hid ((x.mM F z q (k+1)).stop=true->x.mM F z q (z - 1)=x.mM F z q (k+1)):=kD (fun hs=>jD hs (by omega))
   have br:=kD ck;clear ck cP;have cF:0<=F/\F<=256/\0<=(z:Int)/\(z:Int)<=256:=by omega
   have gN:(k:Int)+1<z:=by omega
   go_wp2_with fail
   refine d2.mono ?_;rintro e w3 ⟨cc,rfl⟩;generalize x.ge (F+((k:Int)+1))=E at *;generalize x.fr (F+((k:Int)+1))=f at *;have B3:=hB.trans (cc.mono hB.size);have e8:=I.mD cc;have e4:=bJ.mD cc;have cQ:=aq S cc;have fB:PlacesAt w3 M R.length (R.map (·.at_)):=aU hp (cc.block M ej);have fc:M<w3.heap.size:=lh ej cc.size;clear d2 cc I bJ S hp hB ej d1 cX fX lX cJ lJ;have fl:=z6u E (w3.alloc (.cells #[.int .i64 f.kind,.int .u32 f.seq,.string f.data] 190));have eW:Blk (w3.alloc (.cells #[.int .i64 f.kind,.int .u32 f.seq,.string f.data] 190)) w3.heap.size 190 #[.int .i64 f.kind,.int .u32 f.seq,.string f.data]:=Blk.new _ _ _;go_wp2_with fail
   refine fl.mono ?_;rintro e w4 ⟨rfl,b7⟩;obtain⟨FB,eg⟩:=zex w3.heap.size;have bN:=eW.mD b7;have bb:=(e8.alloc _).mD b7;have b1:=(e4.alloc _).mD b7;have a1:=aq (aq cQ ((kF _ _).alloc (kE _) _)) b7;have bS:M<w4.heap.size:=by have:=b7.size;simp at this;omega
   have cl:PlacesAt w4 M R.length (R.map (·.at_)):=aU (fB.alloc _) (b7.block M (by simp;omega))
   have B4:Zr w w4:=(B3.alloc B3.size _).trans (b7.mono (by have:=B3.size;simp;omega))
   have g0:w.heap.size+1<FB:=by rw[eg];omega
   rw[<-eg]at bN |-;clear eg fl b7 e8 e4 cQ fB eW B3 fc;have cg:=h.below B4;obtain⟨bk,hbk⟩:=zxe (dI E);rw[hbk]at br |-;cases bk;rotate_left
   ·have T:Hid (x.look F z=(E,0,[],false)):=kD (by
     have h1:x.mM F z q (k+1)=⟨true,E,[],false⟩:=by rw[br.out];rfl
     have h2:E≠0:=by intro e;subst e;revert hbk;decide
     rw[HL.out,co.out (by rw[h1]),h1]
     exact if_pos h2)
    have cb:=bb.cells;have f2:=bb.free;have cS:=bb.lt;clear br co HL hbk a1 cl bN b1 cg;go_wp2_with fail
    have bA:=((bb.mG 0 (.int .u32 0)).mG 1 (.slice none 0 0)).mG 2 (.bool false);have f1:=bA.cells;clear cb f2 cS;refine bodyPost_ret (v:=.tuple #[.agg #[.int .u32 0,.slice none 0 0,.bool false],.int .i64 E]) (by simp[results,results137,go_sem,f1]) rfl ?_
    refine⟨((B4.setCell (p:=⟨w.heap.size+1,0,none⟩) (by simp) _).setCell (p:=⟨w.heap.size+1,1,none⟩) (by simp) _).setCell (p:=⟨w.heap.size+1,2,none⟩) (by simp) _,none,0,by rw[T.out];rfl,by rw[T.out];exact .inl rfl,fun _ e=>by cases e⟩
   have ck:=br.out;rw[if_neg (by simp)]at ck
   have br:=kD ck;clear ck hbk;obtain⟨cb,cS⟩:=bb.zc;obtain⟨d6,ey⟩:=bN.zc;obtain⟨d7,ez⟩:=b1.zc;by_cases e0:E=0
   rotate_left;focus
    have b8:Hid ((E==0&&f.seq==aD q)=false):=kD (by simp[e0])
    have fM:(E==0)=false:=by simpa using e0
    clear e0;go_wp2_with fail
    refine(z01 D F z cF B x f w4 cg).mono ?_;rintro e w5 ⟨rfl,O⟩;have B5:=B4.trans (O.mono B4.size);have bA:=bb.mD O;have b2:=b1.mD O;have b0:=bN.mD O;have aL:=aq a1 O;have b9:PlacesAt w5 M R.length (R.map (·.at_)):=aU cl (O.block M bS);have b5:M<w5.heap.size:=lh bS O.size;clear O cg bb b1 bN a1 cl B4 bS;unfold recC;go_wp2_with fail
    obtain⟨RB,a8⟩:=zex w5.heap.size;obtain⟨W,hW⟩:=zex (w5.alloc (.cells #[.int .i64 (aB f).at_,.int .i64 (aB f).kind,.string (aB f).data] 118));have bR:Blk W RB 118 #[.int .i64 (aB f).at_,.int .i64 (aB f).kind,.string (aB f).data]:=by rw[hW,a8];exact zbn
    have BW:Zr w W:=by rw[hW];exact B5.alloc B5.size _
    have I:=(bA.alloc (.cells #[.int .i64 (aB f).at_,.int .i64 (aB f).kind,.string (aB f).data] 118));have bJ:=(b2.alloc (.cells #[.int .i64 (aB f).at_,.int .i64 (aB f).kind,.string (aB f).data] 118));have bF:=(b0.alloc (.cells #[.int .i64 (aB f).at_,.int .i64 (aB f).kind,.string (aB f).data] 118));have S:W.ownsRow (M+1) 118 3 v R.length (R.flatMap bE):=by rw[hW];exact aq aL ((kF _ _).alloc (kE _) _)
    have hp:PlacesAt W M R.length (R.map (·.at_)):=by rw[hW];exact b9.alloc _
    have b6:M<W.heap.size:=by rw[hW];simp;omega
    have fk:M<RB:=by rw[a8];exact b5
    rw[<-hW]at I bJ bF;rw[<-hW,<-a8];clear hW a8 B5 bA b2 b0 aL b9 b5;have lX:=I.lt;have lJ:=bJ.lt;have lF:=bF.lt;have lR:=bR.lt;have ac:W.cell? ⟨RB,0,none⟩=some (.int .i64 (aB f).at_)/\W.cell? ⟨w.heap.size+1,1,none⟩=some v/\W.cell? ⟨w.heap.size,0,none⟩=some (.int .i64 F)/\W.cell? ⟨w.heap.size,1,none⟩=some (.int .i64 z):=⟨by rw[bR.cells];rfl,by rw[I.cells];rfl,by rw[bJ.cells];rfl,by rw[bJ.cells];rfl⟩
    clear cb cS d6 ey d7 ez
   rotate_left;by_cases s0:f.seq=(q+1) % 4294967296
   rotate_left;focus
    have b8:Hid ((E==0&&f.seq==aD q)=false):=kD (by unfold aD;simp[s0])
    have fM:(E==0)=true:=by simpa using e0
    have gm:(f.seq==(q+1) % 4294967296)=false:=by simpa using s0
    clear e0 s0;go_wp2_with fail
    refine(z01 D F z cF B x f w4 cg).mono ?_;rintro e w5 ⟨rfl,O⟩;have B5:=B4.trans (O.mono B4.size);have bA:=bb.mD O;have b2:=b1.mD O;have b0:=bN.mD O;have aL:=aq a1 O;have b9:PlacesAt w5 M R.length (R.map (·.at_)):=aU cl (O.block M bS);have b5:M<w5.heap.size:=lh bS O.size;clear O cg bb b1 bN a1 cl B4 bS;unfold recC;go_wp2_with fail
    obtain⟨RB,a8⟩:=zex w5.heap.size;obtain⟨W,hW⟩:=zex (w5.alloc (.cells #[.int .i64 (aB f).at_,.int .i64 (aB f).kind,.string (aB f).data] 118));have bR:Blk W RB 118 #[.int .i64 (aB f).at_,.int .i64 (aB f).kind,.string (aB f).data]:=by rw[hW,a8];exact zbn
    have BW:Zr w W:=by rw[hW];exact B5.alloc B5.size _
    have I:=(bA.alloc (.cells #[.int .i64 (aB f).at_,.int .i64 (aB f).kind,.string (aB f).data] 118));have bJ:=(b2.alloc (.cells #[.int .i64 (aB f).at_,.int .i64 (aB f).kind,.string (aB f).data] 118));have bF:=(b0.alloc (.cells #[.int .i64 (aB f).at_,.int .i64 (aB f).kind,.string (aB f).data] 118));have S:W.ownsRow (M+1) 118 3 v R.length (R.flatMap bE):=by rw[hW];exact aq aL ((kF _ _).alloc (kE _) _)
    have hp:PlacesAt W M R.length (R.map (·.at_)):=by rw[hW];exact b9.alloc _
    have b6:M<W.heap.size:=by rw[hW];simp;omega
    have fk:M<RB:=by rw[a8];exact b5
    rw[<-hW]at I bJ bF;rw[<-hW,<-a8];clear hW a8 B5 bA b2 b0 aL b9 b5;have lX:=I.lt;have lJ:=bJ.lt;have lF:=bF.lt;have lR:=bR.lt;have ac:W.cell? ⟨RB,0,none⟩=some (.int .i64 (aB f).at_)/\W.cell? ⟨w.heap.size+1,1,none⟩=some v/\W.cell? ⟨w.heap.size,0,none⟩=some (.int .i64 F)/\W.cell? ⟨w.heap.size,1,none⟩=some (.int .i64 z):=⟨by rw[bR.cells];rfl,by rw[I.cells];rfl,by rw[bJ.cells];rfl,by rw[bJ.cells];rfl⟩
    clear cb cS d6 ey d7 ez
   rotate_left;rotate_left;focus
    have b8:Hid ((E==0&&f.seq==aD q)=true):=kD (by unfold aD;simp[s0,e0])
    have fM:(E==0)=true:=by simpa using e0
    have gm:(f.seq==(q+1) % 4294967296)=true:=by simpa using s0
    clear e0 s0;go_wp2_with fail
    refine(z01 D F z cF B x f w4 cg).mono ?_;rintro e w5 ⟨rfl,O⟩;have B5:=B4.trans (O.mono B4.size);have bA:=bb.mD O;have b2:=b1.mD O;have b0:=bN.mD O;have aL:=aq a1 O;have b9:PlacesAt w5 M R.length (R.map (·.at_)):=aU cl (O.block M bS);have b5:M<w5.heap.size:=lh bS O.size;clear O cg bb b1 bN a1 cl B4 bS;unfold recC;go_wp2_with fail
    obtain⟨RB,a8⟩:=zex w5.heap.size;obtain⟨W,hW⟩:=zex (w5.alloc (.cells #[.int .i64 (aB f).at_,.int .i64 (aB f).kind,.string (aB f).data] 118));have bR:Blk W RB 118 #[.int .i64 (aB f).at_,.int .i64 (aB f).kind,.string (aB f).data]:=by rw[hW,a8];exact zbn
    have BW:Zr w W:=by rw[hW];exact B5.alloc B5.size _
    have I:=(bA.alloc (.cells #[.int .i64 (aB f).at_,.int .i64 (aB f).kind,.string (aB f).data] 118));have bJ:=(b2.alloc (.cells #[.int .i64 (aB f).at_,.int .i64 (aB f).kind,.string (aB f).data] 118));have bF:=(b0.alloc (.cells #[.int .i64 (aB f).at_,.int .i64 (aB f).kind,.string (aB f).data] 118));have S:W.ownsRow (M+1) 118 3 v R.length (R.flatMap bE):=by rw[hW];exact aq aL ((kF _ _).alloc (kE _) _)
    have hp:PlacesAt W M R.length (R.map (·.at_)):=by rw[hW];exact b9.alloc _
    have b6:M<W.heap.size:=by rw[hW];simp;omega
    have fk:M<RB:=by rw[a8];exact b5
    rw[<-hW]at I bJ bF;rw[<-hW,<-a8];clear hW a8 B5 bA b2 b0 aL b9 b5;have lX:=I.lt;have lJ:=bJ.lt;have lF:=bF.lt;have lR:=bR.lt;have ac:W.cell? ⟨RB,0,none⟩=some (.int .i64 (aB f).at_)/\W.cell? ⟨w.heap.size+1,1,none⟩=some v/\W.cell? ⟨w.heap.size,0,none⟩=some (.int .i64 F)/\W.cell? ⟨w.heap.size,1,none⟩=some (.int .i64 z):=⟨by rw[bR.cells];rfl,by rw[I.cells];rfl,by rw[bJ.cells];rfl,by rw[bJ.cells];rfl⟩
    clear cb cS d6 ey d7 ez;obtain⟨A,c,rfl,ab,a7⟩:=z1g S;have ba:Hid (∀wb,eR x.stable.length F z q E f R=true->eC q E f R=wb->x.look F z=(0,q,R,wb)):=kD (by
     intro wb h1 h2;have h3:x.mM F z q (k+1)=⟨true,0,R,wb⟩:=by rw[br.out,h1,h2];rfl
     rw[HL.out,co.out (by rw[h3]),h3]
     exact if_neg (by simp))
    have cD:Hid (eR x.stable.length F z q E f R=false->x.mM F z q (k+1)=⟨false,0,R++[aB f],false⟩):=kD (by
     intro h1;rw[br.out,h1];rfl)
    clear br co HL;obtain⟨ib,bU⟩:=zxe (dp x.stable.length F z f);have cL:=show eR x.stable.length F z q E f R=(!(E==0&&f.seq==aD q)||!dp x.stable.length F z f||decide ((aB f).at_∈R.map (·.at_))||decide ((R.length:Int)=cj z))from rfl
    have cR:=show eC q E f R=((E==0&&f.seq==aD q)&&f.kind==3&&decide (f.data=aH R.length))from rfl
    rw[b8.out,bU]at cL;rw[b8.out]at cR;have av:=kD cL;have bC:=kD cR;have fQ:=kD bU;clear cL cR b8;rw[bU];cases ib;focus
     clear S hp bU cD fQ;by_cases k3:f.kind=3
     ·have cN:(f.kind==3)=true:=by simpa using k3
      obtain⟨db,f4⟩:=zxe (f.data.toList==(aH R.length).toList);have T:Hid (x.look F z=(0,q,R,db)):=kD (ba.out db (by rw[av.out];rfl) (by rw[bC.out,cN,<-z9D,f4];rfl))
      clear ba av bC k3;refine zrm [.take 0,.take 1,.take 2,.take 3,.take 4,.take 5,.take 6,.take 7,.take 8,.take 9,.take 10,.take 11,.take 12,.take 13,.take 14,.take 15,.take 16,.one 17,.take 18,.take 19] 20 (fun J=>J.cell? ⟨RB,0,none⟩=some (.int .i64 (aB f).at_)/\J.cell? ⟨w.heap.size+1,1,none⟩=some (.slice A R.length c)/\J.cell? ⟨w.heap.size,0,none⟩=some (.int .i64 F)/\J.cell? ⟨w.heap.size,1,none⟩=some (.int .i64 z)) ac ?_
      simp only[kR,kS,Ms.fill,kT,kV];iterate 7 refine ztk ?_
      iterate 4 ((first|refine zsa ?_|refine zse ?_))
      iterate 2 refine ztk ?_
      iterate 6 ((first|refine zsa ?_|refine zse ?_))
      iterate 1 refine ztk ?_
      refine ax ?_;go_wp2_with fail
      have I:=I.drew;have bF:=bF.drew;have BW:=BW.drew;have ab:=ab.below (kF _ _).drew;generalize W.drew=V at *;have bB:V.cell? ⟨FB,0,none⟩=some (.int .i64 f.kind)/\V.cell? ⟨FB,2,none⟩=some (.string f.data)/\V.cell? ⟨w.heap.size+1,1,none⟩=some (.slice A R.length c):=⟨by rw[bF.cells];rfl,by rw[bF.cells];rfl,by rw[I.cells];rfl⟩
      have bt:=I.cells;have bu:=I.free;refine zrm [.take 0,.take 1,.take 2,.take 3,.take 4,.take 5,.take 6,.take 7,.take 8,.take 9,.take 10,.take 11,.one 12,.take 13,.take 14,.take 15,.one 16] 17 (fun J=>J.cell? ⟨FB,0,none⟩=some (.int .i64 f.kind)/\J.cell? ⟨FB,2,none⟩=some (.string f.data)/\J.cell? ⟨w.heap.size+1,1,none⟩=some (.slice A R.length c)) bB ?_
      simp only[kR,kS,Ms.fill,kT,kV];iterate 12 refine ztk ?_
      refine ah (by rfl) fun K hK=>?_
      go_simp;refine(iJ R.length V.drew).mono ?_;rintro e w7 ⟨rfl,cK⟩;have cU:=bF.drew.mD cK;have d5:=I.drew.mD cK;have B7:=BW.drew.trans (cK.mono BW.size);have ab:=(ab.below (kF _ _).drew).below cK;refine hK _ _ (fun _=>⟨by rw[cU.cells];rfl,by rw[cU.cells];rfl,by rw[d5.cells];rfl⟩) ?_
      clear hK K bt bu cK BW bF I bB;have bF:=cU;have I:=d5;have BW:=B7;clear cU d5 B7;have bt:=I.cells;have bu:=I.free;have lX:=I.lt;iterate 3 refine ztk ?_
      refine ah (by rfl) fun K hK=>?_
      go_simp;have ao:=(bF.far (p:=⟨w.heap.size+1,2,none⟩) (by simp;omega) (.bool db))
      have a6:=(I.mG 2 (.bool db));refine hK _ _ (fun _=>⟨by rw[ao.cells];rfl,by rw[ao.cells];rfl,by rw[a6.cells];rfl⟩) ?_
      clear ao a6 hK K;refine ax ?_;obtain⟨U,hU⟩:=zex (w7.setCell ⟨w.heap.size+1,2,none⟩ (.bool db));have Y:Blk U (w.heap.size+1) 216 #[.int .u32 q,.slice A R.length c,.bool db]:=by rw[hU];exact(I.mG 2 _)
      have BU:Zr w U:=by rw[hU];exact(BW.setCell (by simp) _)
      have kU:KeepEx w7.heap.size [w.heap.size+1] w7 U:=by rw[hU];exact(KeepEx.setCell _ (.inl (by simp)) _)
      rw[<-hU];clear hU bt bu lX ac;have bP:=Y.cells;have bQ:=Y.free;have bZ:=Y.lt;go_wp2_with fail
      have a2:=((Y.mG 0 (.int .u32 q)).mG 1 (.slice A R.length c)).mG 2 (.bool db);have k8:=((kU.trans (KeepEx.setCell (p:=⟨w.heap.size+1,0,none⟩) U (.inl (by simp)) (.int .u32 q))).trans (KeepEx.setCell (p:=⟨w.heap.size+1,1,none⟩) _ (.inl (by simp)) (.slice A R.length c))).trans (KeepEx.setCell (p:=⟨w.heap.size+1,2,none⟩) _ (.inl (by simp)) (.bool db))
      have bc:=a2.cells;clear bP bQ bZ;refine bodyPost_ret (v:=.tuple #[.agg #[.int .u32 q,.slice A R.length c,.bool db],.int .i64 0]) (by simp[results,results137,go_sem,bc]) rfl ?_
      exact⟨((BU.setCell (p:=⟨w.heap.size+1,0,none⟩) (by simp) _).setCell (p:=⟨w.heap.size+1,1,none⟩) (by simp) _).setCell (p:=⟨w.heap.size+1,2,none⟩) (by simp) _,A,c,by rw[T.out],by rw[T.out];exact Reads.grow ab (F:=[w.heap.size+1]) (F':=[w.heap.size+1]) ⟨k8,fun b hb=>.inl hb⟩ (fun ad e=>by have:=a7 ad e;simp;omega),fun ad e=>by have:=a7 ad e;omega⟩
     ·have cN:(f.kind==3)=false:=by simpa using k3
      have T:Hid (x.look F z=(0,q,R,false)):=kD (ba.out false (by rw[av.out];rfl) (by rw[bC.out,cN];rfl))
      clear ba av bC k3;refine zrm [.take 0,.take 1,.take 2,.take 3,.take 4,.take 5,.take 6,.take 7,.take 8,.take 9,.take 10,.take 11,.take 12,.take 13,.take 14,.take 15,.take 16,.one 17,.take 18,.take 19] 20 (fun J=>J.cell? ⟨RB,0,none⟩=some (.int .i64 (aB f).at_)/\J.cell? ⟨w.heap.size+1,1,none⟩=some (.slice A R.length c)/\J.cell? ⟨w.heap.size,0,none⟩=some (.int .i64 F)/\J.cell? ⟨w.heap.size,1,none⟩=some (.int .i64 z)) ac ?_
      simp only[kR,kS,Ms.fill,kT,kV];iterate 7 refine ztk ?_
      iterate 4 ((first|refine zsa ?_|refine zse ?_))
      iterate 2 refine ztk ?_
      iterate 6 ((first|refine zsa ?_|refine zse ?_))
      iterate 1 refine ztk ?_
      refine ax ?_;go_wp2_with fail
      have I:=I.drew;have bF:=bF.drew;have BW:=BW.drew;have ab:=ab.below (kF _ _).drew;generalize W.drew=V at *;have bB:V.cell? ⟨FB,0,none⟩=some (.int .i64 f.kind)/\V.cell? ⟨FB,2,none⟩=some (.string f.data)/\V.cell? ⟨w.heap.size+1,1,none⟩=some (.slice A R.length c):=⟨by rw[bF.cells];rfl,by rw[bF.cells];rfl,by rw[I.cells];rfl⟩
      have bt:=I.cells;have bu:=I.free;refine zrm [.take 0,.take 1,.take 2,.take 3,.take 4,.take 5,.take 6,.take 7,.take 8,.take 9,.take 10,.take 11,.one 12,.take 13,.take 14,.take 15,.one 16] 17 (fun J=>J.cell? ⟨FB,0,none⟩=some (.int .i64 f.kind)/\J.cell? ⟨FB,2,none⟩=some (.string f.data)/\J.cell? ⟨w.heap.size+1,1,none⟩=some (.slice A R.length c)) bB ?_
      simp only[kR,kS,Ms.fill,kT,kV];iterate 7 refine ztk ?_
      iterate 7 ((first|refine zsa ?_|refine zse ?_))
      iterate 2 refine ztk ?_
      refine ah (by rfl) fun K hK=>?_
      go_simp;have ao:=(bF.far (p:=⟨w.heap.size+1,2,none⟩) (by simp;omega) (.bool false)).drew
      have a6:=(I.mG 2 (.bool false)).drew;refine hK _ _ (fun _=>⟨by rw[ao.cells];rfl,by rw[ao.cells];rfl,by rw[a6.cells];rfl⟩) ?_
      clear ao a6 hK K;refine ax ?_;obtain⟨U,hU⟩:=zex ((V.setCell ⟨w.heap.size+1,2,none⟩ (.bool false)).drew);have Y:Blk U (w.heap.size+1) 216 #[.int .u32 q,.slice A R.length c,.bool false]:=by rw[hU];exact(I.mG 2 _).drew
      have BU:Zr w U:=by rw[hU];exact(BW.setCell (by simp) _).drew
      have kU:KeepEx V.heap.size [w.heap.size+1] V U:=by rw[hU];exact(KeepEx.setCell _ (.inl (by simp)) _).trans (KeepEx.of_below (kF _ _).drew)
      rw[<-hU];clear hU bt bu lX ac;have bP:=Y.cells;have bQ:=Y.free;have bZ:=Y.lt;go_wp2_with fail
      have a2:=((Y.mG 0 (.int .u32 q)).mG 1 (.slice A R.length c)).mG 2 (.bool false);have k8:=((kU.trans (KeepEx.setCell (p:=⟨w.heap.size+1,0,none⟩) U (.inl (by simp)) (.int .u32 q))).trans (KeepEx.setCell (p:=⟨w.heap.size+1,1,none⟩) _ (.inl (by simp)) (.slice A R.length c))).trans (KeepEx.setCell (p:=⟨w.heap.size+1,2,none⟩) _ (.inl (by simp)) (.bool false))
      have bc:=a2.cells;clear bP bQ bZ;refine bodyPost_ret (v:=.tuple #[.agg #[.int .u32 q,.slice A R.length c,.bool false],.int .i64 0]) (by simp[results,results137,go_sem,bc]) rfl ?_
      exact⟨((BU.setCell (p:=⟨w.heap.size+1,0,none⟩) (by simp) _).setCell (p:=⟨w.heap.size+1,1,none⟩) (by simp) _).setCell (p:=⟨w.heap.size+1,2,none⟩) (by simp) _,A,c,by rw[T.out],by rw[T.out];exact Reads.grow ab (F:=[w.heap.size+1]) (F':=[w.heap.size+1]) ⟨k8,fun b hb=>.inl hb⟩ (fun ad e=>by have:=a7 ad e;simp;omega),fun ad e=>by have:=a7 ad e;omega⟩
    have ft:f.kind=2:=by
     unfold dp at bU;by_cases hb:f.kind≠2\/f.data.size<3\/99<f.data.size
     ·rw[if_pos hb]at bU;cases bU
     ·omega
    have cN:(f.kind==3)=false:=by simp[ft]
    have T:Hid (eR x.stable.length F z q E f R=true->x.look F z=(0,q,R,false)):=kD (fun h1=>ba.out false h1 (by rw[bC.out,cN];rfl))
    obtain⟨c9,g7⟩:=z62 bU;clear ba bC bU ft;have fF:PlacesAt W.drew M R.length (R.map (·.at_)):=hp;have bL:=fF.look c9;clear fF;by_cases bD:(aB f).at_∈R.map (·.at_)
    ·have T:Hid (x.look F z=(0,q,R,false)):=kD (T.out (by rw[av.out,decide_eq_true bD];rfl))
     rw[decide_eq_true bD]at bL;have cA:=And.intro ac.1 (And.intro ac.2.1 (And.intro ac.2.2.1 (And.intro ac.2.2.2 bL)));clear av cD bD S hp;refine zrm [.take 0,.take 1,.take 2,.take 3,.take 4,.take 5,.take 6,.take 7,.take 8,.take 9,.take 10,.take 11,.take 12,.take 13,.take 14,.take 15,.take 16,.one 17,.take 18,.take 19] 20 (fun J=>J.cell? ⟨RB,0,none⟩=some (.int .i64 (aB f).at_)/\J.cell? ⟨w.heap.size+1,1,none⟩=some (.slice A R.length c)/\J.cell? ⟨w.heap.size,0,none⟩=some (.int .i64 F)/\J.cell? ⟨w.heap.size,1,none⟩=some (.int .i64 z)/\(Instr.lookup 275 (.map (some M)) (.int .i64 (aB f).at_) false).run prog J=.ok (.bool true) J) cA ?_
     simp only[kR,kS,Ms.fill,kT,kV];iterate 13 refine ztk ?_
     iterate 6 ((first|refine zsa ?_|refine zse ?_))
     iterate 1 refine ztk ?_
     refine ax ?_;go_wp2_with fail
     have I:=I.drew;have bF:=bF.drew;have BW:=BW.drew;have ab:=ab.below (kF _ _).drew;generalize W.drew=V at *;have bB:V.cell? ⟨FB,0,none⟩=some (.int .i64 f.kind)/\V.cell? ⟨FB,2,none⟩=some (.string f.data)/\V.cell? ⟨w.heap.size+1,1,none⟩=some (.slice A R.length c):=⟨by rw[bF.cells];rfl,by rw[bF.cells];rfl,by rw[I.cells];rfl⟩
     have bt:=I.cells;have bu:=I.free;refine zrm [.take 0,.take 1,.take 2,.take 3,.take 4,.take 5,.take 6,.take 7,.take 8,.take 9,.take 10,.take 11,.one 12,.take 13,.take 14,.take 15,.one 16] 17 (fun J=>J.cell? ⟨FB,0,none⟩=some (.int .i64 f.kind)/\J.cell? ⟨FB,2,none⟩=some (.string f.data)/\J.cell? ⟨w.heap.size+1,1,none⟩=some (.slice A R.length c)) bB ?_
     simp only[kR,kS,Ms.fill,kT,kV];iterate 7 refine ztk ?_
     iterate 7 ((first|refine zsa ?_|refine zse ?_))
     iterate 2 refine ztk ?_
     refine ah (by rfl) fun K hK=>?_
     go_simp;have ao:=(bF.far (p:=⟨w.heap.size+1,2,none⟩) (by simp;omega) (.bool false)).drew
     have a6:=(I.mG 2 (.bool false)).drew;refine hK _ _ (fun _=>⟨by rw[ao.cells];rfl,by rw[ao.cells];rfl,by rw[a6.cells];rfl⟩) ?_
     clear ao a6 hK K;refine ax ?_;obtain⟨U,hU⟩:=zex ((V.setCell ⟨w.heap.size+1,2,none⟩ (.bool false)).drew);have Y:Blk U (w.heap.size+1) 216 #[.int .u32 q,.slice A R.length c,.bool false]:=by rw[hU];exact(I.mG 2 _).drew
     have BU:Zr w U:=by rw[hU];exact(BW.setCell (by simp) _).drew
     have kU:KeepEx V.heap.size [w.heap.size+1] V U:=by rw[hU];exact(KeepEx.setCell _ (.inl (by simp)) _).trans (KeepEx.of_below (kF _ _).drew)
     rw[<-hU];clear hU bt bu lX ac;have bP:=Y.cells;have bQ:=Y.free;have bZ:=Y.lt;go_wp2_with fail
     have a2:=((Y.mG 0 (.int .u32 q)).mG 1 (.slice A R.length c)).mG 2 (.bool false);have k8:=((kU.trans (KeepEx.setCell (p:=⟨w.heap.size+1,0,none⟩) U (.inl (by simp)) (.int .u32 q))).trans (KeepEx.setCell (p:=⟨w.heap.size+1,1,none⟩) _ (.inl (by simp)) (.slice A R.length c))).trans (KeepEx.setCell (p:=⟨w.heap.size+1,2,none⟩) _ (.inl (by simp)) (.bool false))
     have bc:=a2.cells;clear bP bQ bZ;refine bodyPost_ret (v:=.tuple #[.agg #[.int .u32 q,.slice A R.length c,.bool false],.int .i64 0]) (by simp[results,results137,go_sem,bc]) rfl ?_
     exact⟨((BU.setCell (p:=⟨w.heap.size+1,0,none⟩) (by simp) _).setCell (p:=⟨w.heap.size+1,1,none⟩) (by simp) _).setCell (p:=⟨w.heap.size+1,2,none⟩) (by simp) _,A,c,by rw[T.out],by rw[T.out];exact Reads.grow ab (F:=[w.heap.size+1]) (F':=[w.heap.size+1]) ⟨k8,fun b hb=>.inl hb⟩ (fun ad e=>by have:=a7 ad e;simp;omega),fun ad e=>by have:=a7 ad e;omega⟩
    have bT:=av.out;rw[decide_eq_false bD]at bT bL;have av:=kD bT;have cA:=And.intro ac.1 (And.intro ac.2.1 (And.intro ac.2.2.1 (And.intro ac.2.2.2 bL)));have g6:cj z<=80:=by unfold cj;omega
    by_cases bG:(R.length:Int)=cj z
    ·have T:Hid (x.look F z=(0,q,R,false)):=kD (T.out (by rw[av.out,decide_eq_true bG];rfl))
     have f5:((R.length:Int)==cj z)=true:=by simpa using bG
     clear av cD bT bG;refine zrm [.take 0,.take 1,.take 2,.take 3,.take 4,.take 5,.take 6,.take 7,.take 8,.take 9,.take 10,.take 11,.take 12,.take 13,.take 14,.take 15,.take 16,.one 17,.take 18,.take 19] 20 (fun J=>J.cell? ⟨RB,0,none⟩=some (.int .i64 (aB f).at_)/\J.cell? ⟨w.heap.size+1,1,none⟩=some (.slice A R.length c)/\J.cell? ⟨w.heap.size,0,none⟩=some (.int .i64 F)/\J.cell? ⟨w.heap.size,1,none⟩=some (.int .i64 z)/\(Instr.lookup 275 (.map (some M)) (.int .i64 (aB f).at_) false).run prog J=.ok (.bool false) J) cA ?_
     simp only[kR,kS,Ms.fill,kT,kV];iterate 17 refine ztk ?_
     refine ah (by rfl) fun K hK=>?_
     go_simp;refine(z2O F z (by omega) W.drew).mono ?_
     rintro e V ⟨rfl,an⟩;have cw:=bR.drew.mD an;have ca:=I.drew.mD an;have cT:=bF.drew.mD an;have b3:=bJ.drew.mD an;have cB:PlacesAt V M R.length (R.map (·.at_)):=aU hp (an.block M b6);have bp:=aq (aq S (kF _ _).drew) an;have B6:Zr w V:=BW.drew.trans (an.mono BW.size);have cm:=(ab.below (kF _ _).drew).below an;have fd:M<V.heap.size:=lh b6 an.size;have bw:=cB.look c9;rw[decide_eq_false bD]at bw;refine hK _ _ (fun _=>⟨by rw[cw.cells];rfl,by rw[ca.cells];rfl,by rw[b3.cells];rfl,by rw[b3.cells];rfl,bw⟩) ?_
     clear hK K bR I bF bJ hp S BW ab b6 ac cA bL lX lJ lF lR an;iterate 2 refine ztk ?_
     refine ax ?_;go_wp2_with fail
     have I:=ca;have bF:=cT;have BW:=B6;have ab:=cm;clear ca cT B6 cm bw cB bp cw b3;have lX:=I.lt;have ac:=trivial;have bB:V.cell? ⟨FB,0,none⟩=some (.int .i64 f.kind)/\V.cell? ⟨FB,2,none⟩=some (.string f.data)/\V.cell? ⟨w.heap.size+1,1,none⟩=some (.slice A R.length c):=⟨by rw[bF.cells];rfl,by rw[bF.cells];rfl,by rw[I.cells];rfl⟩
     have bt:=I.cells;have bu:=I.free;refine zrm [.take 0,.take 1,.take 2,.take 3,.take 4,.take 5,.take 6,.take 7,.take 8,.take 9,.take 10,.take 11,.one 12,.take 13,.take 14,.take 15,.one 16] 17 (fun J=>J.cell? ⟨FB,0,none⟩=some (.int .i64 f.kind)/\J.cell? ⟨FB,2,none⟩=some (.string f.data)/\J.cell? ⟨w.heap.size+1,1,none⟩=some (.slice A R.length c)) bB ?_
     simp only[kR,kS,Ms.fill,kT,kV];iterate 7 refine ztk ?_
     iterate 7 ((first|refine zsa ?_|refine zse ?_))
     iterate 2 refine ztk ?_
     refine ah (by rfl) fun K hK=>?_
     go_simp;have ao:=(bF.far (p:=⟨w.heap.size+1,2,none⟩) (by simp;omega) (.bool false)).drew
     have a6:=(I.mG 2 (.bool false)).drew;refine hK _ _ (fun _=>⟨by rw[ao.cells];rfl,by rw[ao.cells];rfl,by rw[a6.cells];rfl⟩) ?_
     clear ao a6 hK K;refine ax ?_;obtain⟨U,hU⟩:=zex ((V.setCell ⟨w.heap.size+1,2,none⟩ (.bool false)).drew);have Y:Blk U (w.heap.size+1) 216 #[.int .u32 q,.slice A R.length c,.bool false]:=by rw[hU];exact(I.mG 2 _).drew
     have BU:Zr w U:=by rw[hU];exact(BW.setCell (by simp) _).drew
     have kU:KeepEx V.heap.size [w.heap.size+1] V U:=by rw[hU];exact(KeepEx.setCell _ (.inl (by simp)) _).trans (KeepEx.of_below (kF _ _).drew)
     rw[<-hU];clear hU bt bu lX ac;have bP:=Y.cells;have bQ:=Y.free;have bZ:=Y.lt;go_wp2_with fail
     have a2:=((Y.mG 0 (.int .u32 q)).mG 1 (.slice A R.length c)).mG 2 (.bool false);have k8:=((kU.trans (KeepEx.setCell (p:=⟨w.heap.size+1,0,none⟩) U (.inl (by simp)) (.int .u32 q))).trans (KeepEx.setCell (p:=⟨w.heap.size+1,1,none⟩) _ (.inl (by simp)) (.slice A R.length c))).trans (KeepEx.setCell (p:=⟨w.heap.size+1,2,none⟩) _ (.inl (by simp)) (.bool false))
     have bc:=a2.cells;clear bP bQ bZ;refine bodyPost_ret (v:=.tuple #[.agg #[.int .u32 q,.slice A R.length c,.bool false],.int .i64 0]) (by simp[results,results137,go_sem,bc]) rfl ?_
     exact⟨((BU.setCell (p:=⟨w.heap.size+1,0,none⟩) (by simp) _).setCell (p:=⟨w.heap.size+1,1,none⟩) (by simp) _).setCell (p:=⟨w.heap.size+1,2,none⟩) (by simp) _,A,c,by rw[T.out],by rw[T.out];exact Reads.grow ab (F:=[w.heap.size+1]) (F':=[w.heap.size+1]) ⟨k8,fun b hb=>.inl hb⟩ (fun ad e=>by have:=a7 ad e;simp;omega),fun ad e=>by have:=a7 ad e;omega⟩
    ·have fo:=cD.out (by rw[av.out,decide_eq_false bG];rfl)
     have cp:=kD fo;have f5:((R.length:Int)==cj z)=false:=by simpa using bG
     clear av cD bT bG fo T;refine zrm [.take 0,.take 1,.take 2,.take 3,.take 4,.take 5,.take 6,.take 7,.take 8,.take 9,.take 10,.take 11,.take 12,.take 13,.take 14,.take 15,.take 16,.one 17,.take 18,.take 19] 20 (fun J=>J.cell? ⟨RB,0,none⟩=some (.int .i64 (aB f).at_)/\J.cell? ⟨w.heap.size+1,1,none⟩=some (.slice A R.length c)/\J.cell? ⟨w.heap.size,0,none⟩=some (.int .i64 F)/\J.cell? ⟨w.heap.size,1,none⟩=some (.int .i64 z)/\(Instr.lookup 275 (.map (some M)) (.int .i64 (aB f).at_) false).run prog J=.ok (.bool false) J) cA ?_
     simp only[kR,kS,Ms.fill,kT,kV];iterate 17 refine ztk ?_
     refine ah (by rfl) fun K hK=>?_
     go_simp;refine(z2O F z (by omega) W.drew).mono ?_
     rintro e V ⟨rfl,an⟩;have cw:=bR.drew.mD an;have ca:=I.drew.mD an;have cT:=bF.drew.mD an;have b3:=bJ.drew.mD an;have cB:PlacesAt V M R.length (R.map (·.at_)):=aU hp (an.block M b6);have bp:=aq (aq S (kF _ _).drew) an;have B6:Zr w V:=BW.drew.trans (an.mono BW.size);have cm:=(ab.below (kF _ _).drew).below an;have fd:M<V.heap.size:=lh b6 an.size;have bw:=cB.look c9;rw[decide_eq_false bD]at bw;refine hK _ _ (fun _=>⟨by rw[cw.cells];rfl,by rw[ca.cells];rfl,by rw[b3.cells];rfl,by rw[b3.cells];rfl,bw⟩) ?_
     clear hK K bR I bF bJ hp S BW ab b6 ac cA bL lX lJ lF lR an;iterate 2 refine ztk ?_
     refine ax ?_;obtain⟨w8,ev,fD,ci⟩:=cB.add (by simp only[maxLen];omega) c9
     obtain⟨iD,f7,fs,fq,d3⟩:=info_parts Tryz.o9;have fS:=cw.grown ci (by simp;omega)
     have a2:=ca.grown ci (by simp;omega)
     have e5:=b3.grown ci (by simp;omega)
     have B8:=B6.grown ci B6.size (by intro p hp;cases hp;omega)
     have en:M<w8.heap.size:=lh fd ci.size;have bq:=ar bp (fun g e=>ci.block g ((bp.lt g e).2) (by intro e2;cases e2;have:=(bp.lt _ e).1;omega))
     obtain⟨w9,ex⟩:=zex (w8.alloc (.cells #[.int .i64 (aB f).at_,.int .i64 (aB f).kind,.string (aB f).data] 118));have e6:Blk w9 w8.heap.size 118 #[.int .i64 (aB f).at_,.int .i64 (aB f).kind,.string (aB f).data]:=by rw[ex];exact zbn
     have bM:Zr w8 w9:=by rw[ex];exact(kF _ _).alloc (kE _) _
     obtain⟨g9,dv,cn,bW,bK,-,es⟩:=run_append_own_at (P:=prog) w9 (M+1) 48 48 118 iD _ 3 32 underlying48 f7 fs fq d3 rfl (by omega) _ _ _ (aq bq bM) ⟨w8.heap.size,0,none⟩ 1 1 (bE (aB f)) rfl (fun j u hu=>by rw[ep,ld,e6.cells];simpa[bE]using hu) (by intro u hu;simp[bE]at hu;rcases hu with rfl|rfl|rfl<;>rfl) (by simp only[maxLen];omega) (by omega) (by have:=bM.size;omega)
     have nX:some (w.heap.size+1)≠(Value.slice A R.length c).ownBlock:=fun e=>by have:=(bq.lt _ e.symm).1;omega
     have nJ:some w.heap.size≠(Value.slice A R.length c).ownBlock:=fun e=>by have:=(bq.lt _ e.symm).1;omega
     have nM:some M≠(Value.slice A R.length c).ownBlock:=fun e=>by have:=(bq.lt _ e.symm).1;omega
     have b4:=(a2.mD bM).grown bK nX;have dT:=(e5.mD bM).grown bK nJ;have B9:Zr w w9:=B8.trans (bM.mono B8.size);have eN:=B9.grown bK B9.size (fun g e=>by have:=(bq.lt _ e).1;omega)
     have d4:PlacesAt dv M (R.length+1) (R.map (·.at_)++[(aB f).at_]):=aU fD ((bK.block M (lh en bM.size) nM).trans (bM.block M en));have gF:M<dv.heap.size:=by have:=bK.size;have:=bM.size;omega
     obtain⟨fW,gs⟩:=cw.zc;obtain⟨f0,gA⟩:=fS.zc;obtain⟨bc,gB⟩:=a2.zc;have e9:=b4.cells;have fa:=b4.free;have fN:=b4.lt;obtain⟨cz,bn,rfl,g3,g4⟩:=dA bW (by omega)
     clear bq bp fD cB ci bK bM B9 B8 e6 en nX nJ nM e5 b3 cT cm bw d3 fs fq ca;go_wp2_with (refine z1C rfl _ _ _ rfl (.slice A R.length c) (.slice (some ⟨w8.heap.size,0,none⟩) 1 1) _ rfl rfl (by rw[<-ex];exact cn) ?_)
     have e7:=b4.mG 1 (.slice (some ⟨cz,0,none⟩) (R.length+1) bn);have e3:=dT.far (p:=⟨w.heap.size+1,1,none⟩) (by simp) (.slice (some ⟨cz,0,none⟩) (R.length+1) bn)
     have fO:=eN.setCell (p:=⟨w.heap.size+1,1,none⟩) (by simp) (.slice (some ⟨cz,0,none⟩) (R.length+1) bn)
     have c8:=ar bW (fun g e=>Below.heap_setCell dv ⟨w.heap.size+1,1,none⟩ (.slice (some ⟨cz,0,none⟩) (R.length+1) bn) g (fun e2=>by simp only[Value.ownBlock,lx]at e;simp only at e2;omega))
     have fA:PlacesAt (dv.setCell ⟨w.heap.size+1,1,none⟩ (.slice (some ⟨cz,0,none⟩) (R.length+1) bn)) M (R.length+1) (R.map (·.at_)++[(aB f).at_]):=aU d4 (Below.heap_setCell _ _ _ _ (by simp;omega))
     clear fW gs f0 gA bc gB e9 fa fN bW d4 b4 dT eN ev cn es br;go_roundw
     case rel=>
      refine⟨k+1,by omega,by go_num,by rw[cp.out],by rw[cp.out],by rw[cp.out],by rw[cp.out];simp;omega,.slice (some ⟨cz,0,none⟩) (R.length+1) bn,e7,?_,?_,e3,fO,by simp;omega⟩
      ·rw[cp.out];simp only[kY,lr,lH,List.flatMap_append,m9,List.flatMap_nil,mp];exact c8
      ·rw[cp.out];simp only[kY,lr,lH,List.map_append,kR,kS];exact fA
     case measure=>simp[intOf];omega
   all_goals
    obtain⟨A,c,rfl,ab,a7⟩:=z1g S;have T:Hid (x.look F z=(0,q,R,false)):=kD (by
     have h1:eR x.stable.length F z q E f R=true:=by unfold eR;rw[b8.out];rfl
     have h2:eC q E f R=false:=by unfold eC;rw[b8.out];rfl
     have h3:x.mM F z q (k+1)=⟨true,0,R,false⟩:=by rw[br.out,h1,h2];rfl
     rw[HL.out,co.out (by rw[h3]),h3]
     exact if_neg (by simp))
    clear br co HL S hp b8;refine zrm [.take 0,.take 1,.take 2,.take 3,.take 4,.take 5,.take 6,.take 7,.take 8,.take 9,.take 10,.take 11,.take 12,.take 13,.take 14,.take 15,.take 16,.one 17,.take 18,.take 19] 20 (fun J=>J.cell? ⟨RB,0,none⟩=some (.int .i64 (aB f).at_)/\J.cell? ⟨w.heap.size+1,1,none⟩=some (.slice A R.length c)/\J.cell? ⟨w.heap.size,0,none⟩=some (.int .i64 F)/\J.cell? ⟨w.heap.size,1,none⟩=some (.int .i64 z)) ac ?_
    simp only[kR,kS,Ms.fill,kT,kV];iterate 3 refine ztk ?_
    iterate 2 ((first|refine zsa ?_|refine zse ?_))
    iterate 2 refine ztk ?_
    iterate 4 ((first|refine zsa ?_|refine zse ?_))
    iterate 2 refine ztk ?_
    iterate 6 ((first|refine zsa ?_|refine zse ?_))
    iterate 1 refine ztk ?_
    refine ax ?_;go_wp2_with fail
    have I:=I.drew;have bF:=bF.drew;have BW:=BW.drew;have ab:=ab.below (kF _ _).drew;generalize W.drew=V at *;have bB:V.cell? ⟨FB,0,none⟩=some (.int .i64 f.kind)/\V.cell? ⟨FB,2,none⟩=some (.string f.data)/\V.cell? ⟨w.heap.size+1,1,none⟩=some (.slice A R.length c):=⟨by rw[bF.cells];rfl,by rw[bF.cells];rfl,by rw[I.cells];rfl⟩
    have bt:=I.cells;have bu:=I.free;refine zrm [.take 0,.take 1,.take 2,.take 3,.take 4,.take 5,.take 6,.take 7,.take 8,.take 9,.take 10,.take 11,.one 12,.take 13,.take 14,.take 15,.one 16] 17 (fun J=>J.cell? ⟨FB,0,none⟩=some (.int .i64 f.kind)/\J.cell? ⟨FB,2,none⟩=some (.string f.data)/\J.cell? ⟨w.heap.size+1,1,none⟩=some (.slice A R.length c)) bB ?_
    simp only[kR,kS,Ms.fill,kT,kV];iterate 2 refine ztk ?_
    iterate 3 ((first|refine zsa ?_|refine zse ?_))
    iterate 2 refine ztk ?_
    iterate 7 ((first|refine zsa ?_|refine zse ?_))
    iterate 2 refine ztk ?_
    refine ah (by rfl) fun K hK=>?_
    go_simp;have ao:=(bF.far (p:=⟨w.heap.size+1,2,none⟩) (by simp;omega) (.bool false)).drew
    have a6:=(I.mG 2 (.bool false)).drew;refine hK _ _ (fun _=>⟨by rw[ao.cells];rfl,by rw[ao.cells];rfl,by rw[a6.cells];rfl⟩) ?_
    clear ao a6 hK K;refine ax ?_;obtain⟨U,hU⟩:=zex ((V.setCell ⟨w.heap.size+1,2,none⟩ (.bool false)).drew);have Y:Blk U (w.heap.size+1) 216 #[.int .u32 q,.slice A R.length c,.bool false]:=by rw[hU];exact(I.mG 2 _).drew
    have BU:Zr w U:=by rw[hU];exact(BW.setCell (by simp) _).drew
    have kU:KeepEx V.heap.size [w.heap.size+1] V U:=by rw[hU];exact(KeepEx.setCell _ (.inl (by simp)) _).trans (KeepEx.of_below (kF _ _).drew)
    rw[<-hU];clear hU bt bu lX ac;have bP:=Y.cells;have bQ:=Y.free;have bZ:=Y.lt;go_wp2_with fail
    have a2:=((Y.mG 0 (.int .u32 q)).mG 1 (.slice A R.length c)).mG 2 (.bool false);have k8:=((kU.trans (KeepEx.setCell (p:=⟨w.heap.size+1,0,none⟩) U (.inl (by simp)) (.int .u32 q))).trans (KeepEx.setCell (p:=⟨w.heap.size+1,1,none⟩) _ (.inl (by simp)) (.slice A R.length c))).trans (KeepEx.setCell (p:=⟨w.heap.size+1,2,none⟩) _ (.inl (by simp)) (.bool false))
    have bc:=a2.cells;clear bP bQ bZ;refine bodyPost_ret (v:=.tuple #[.agg #[.int .u32 q,.slice A R.length c,.bool false],.int .i64 0]) (by simp[results,results137,go_sem,bc]) rfl ?_
    exact⟨((BU.setCell (p:=⟨w.heap.size+1,0,none⟩) (by simp) _).setCell (p:=⟨w.heap.size+1,1,none⟩) (by simp) _).setCell (p:=⟨w.heap.size+1,2,none⟩) (by simp) _,A,c,by rw[T.out],by rw[T.out];exact Reads.grow ab (F:=[w.heap.size+1]) (F':=[w.heap.size+1]) ⟨k8,fun b hb=>.inl hb⟩ (fun ad e=>by have:=a7 ad e;simp;omega),fun ad e=>by have:=a7 ad e;omega⟩
  ·obtain rfl:z=k+1:=by omega
   obtain⟨A,c,rfl,ab,a7⟩:=z1g S;have T:Hid (x.look F ((k+1:Nat):Int)=(0,q,R,false)):=kD (by rw[HL.out,Nat.add_sub_cancel,cP];rfl)
   clear cP S hp HL;go_wp2_with fail
   have a2:=((I.mG 0 (.int .u32 q)).mG 1 (.slice A R.length c)).mG 2 (.bool false);have k8:=((KeepEx.setCell (p:=⟨w.heap.size+1,0,none⟩) (B:=wr.heap.size) (bs:=[w.heap.size+1]) wr (.inl (by simp)) (.int .u32 q)).trans (KeepEx.setCell (p:=⟨w.heap.size+1,1,none⟩) _ (.inl (by simp)) (.slice A R.length c))).trans (KeepEx.setCell (p:=⟨w.heap.size+1,2,none⟩) _ (.inl (by simp)) (.bool false))
   have bc:=a2.cells;clear cX fX lX;refine bodyPost_ret (v:=.tuple #[.agg #[.int .u32 q,.slice A R.length c,.bool false],.int .i64 0]) (by simp[results,results137,go_sem,bc]) rfl ?_
   exact⟨((hB.setCell (p:=⟨w.heap.size+1,0,none⟩) (by simp) _).setCell (p:=⟨w.heap.size+1,1,none⟩) (by simp) _).setCell (p:=⟨w.heap.size+1,2,none⟩) (by simp) _,A,c,by rw[T.out],by rw[T.out];exact Reads.grow ab (F:=[w.heap.size+1]) (F':=[w.heap.size+1]) ⟨k8,fun b hb=>.inl hb⟩ (fun ad e=>by have:=a7 ad e;simp;omega),fun ad e=>by have:=a7 ad e;omega⟩
end Go.Proofs.YtejmknghkbobnaaGreatDoor
