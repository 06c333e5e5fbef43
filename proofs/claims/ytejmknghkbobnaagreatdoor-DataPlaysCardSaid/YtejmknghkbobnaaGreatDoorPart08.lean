import Derived.Test.YtejmknghkbobnaaGreatDoorPart07
import Derived.Deep.DeepFit
set_option linter.all false
set_option maxRecDepth 100000
set_option maxHeartbeats 0
namespace Go.Proofs.YtejmknghkbobnaaGreatDoor
open Go.Proofs.Tryz
open Go.RowKit Go.Maps
theorem z0y (D:Nat)(B:List Nat)(x:DevS)(a:Int)(w:World)(h:DevAt w D B x):
  Calls prog 98 #[.pointer (some ⟨D,0,none⟩),.int .i64 a] w fun e c=>Zr w c/\e=.returned (.tuple #[.agg #[.int .i64 (x.fr a).kind,.int .u32 (x.fr a).seq,.string (x.fr a).data],.int .i64 (x.ge a)]):=by
 have:=zbv D B x a w h
 rw[zb2]at this;exact this
theorem zcu (x:DevS)(a:Int):0<=(x.fr a).seq/\(x.fr a).seq<4294967296:=by
 unfold DevS.fr;split
 ·exact gH _ _ _
 ·exact⟨by decide,by decide⟩
theorem jN {s:ByteArray}:s.toList.isEmpty=true↔s=⟨#[]⟩:=by
 rw[<-decide_eq_emptyBytes s,decide_eq_true_iff];exact Iff.rfl
theorem z2G (D:Nat)(F Z:Int)(B:List Nat)(x:DevS)(w:World)(h:DevAt w D B x):
  Calls prog 187 #[.pointer (some ⟨D,0,none⟩),.agg #[.int .i64 F,.int .i64 Z]] w (Zq (.tuple #[.int .u32 (x.head F Z).2,.int .i64 (x.head F Z).1]) w):=by
 have I:=z20 F Z (w.alloc (.cells #[.int .i64 F,.int .i64 Z] 109));have Y:Blk (w.alloc (.cells #[.int .i64 F,.int .i64 Z] 109)) w.heap.size 109 #[.int .i64 F,.int .i64 Z]:=Blk.new _ _ _;by_cases M:aO F Z=0
 rotate_left
 ·have A:Hid (x.head F Z=(aO F Z,0)):=kD (by unfold DevS.head;rw[if_pos M])
  generalize aO F Z=E at *;have ao:(E != 0)=true:=by simpa using M
  clear Y M;go_enter func187,ntmps187
  go_wp2_with fail
  refine I.mono ?_;rintro e w1 ⟨rfl,K⟩;go_wp2_with fail
  go_ret2
  exact⟨by rw[A.out];rfl,dq K⟩
 have c:Hid (x.head F Z=if x.ge F≠0 then (x.ge F,0)else if (x.fr F).kind≠1\/(x.fr F).data≠⟨#[]⟩then (6,0)else (0,(x.fr F).seq)):=kD (by unfold DevS.head;rw[if_neg (by rw[M];simp)])
 rw[M]at I;clear M;go_enter func187,ntmps187
 go_wp2_with fail
 refine I.mono ?_;rintro e w1 ⟨rfl,K⟩;have ab:=Y.mD K;obtain⟨cJ,lJ⟩:=ab.zc;have h1:=h.below (dq K);have V:=dq K;clear K Y;go_wp2_with fail
 refine(z0y D B x F w1 h1).mono ?_;rintro e w2 ⟨S,rfl⟩;have B2:=V.trans (S.mono V.size);have Z2:=B2.size;clear S V h1 I cJ lJ;generalize x.ge F=E at *;generalize x.fr F=f at *;by_cases U:E=0
 rotate_left
 ·have A:Hid (x.head F Z=(E,0)):=kD (by rw[c.out,if_pos U])
  have an:(E != 0)=true:=by simpa using U
  clear U c;go_wp2_with fail
  go_ret2
  exact⟨by rw[A.out];rfl,zgr⟩
 subst U;by_cases J:f.kind=1
 ·by_cases O:f.data=⟨#[]⟩
  ·have A:Hid (x.head F Z=(0,f.seq)):=kD (by rw[c.out,if_neg (by simp),if_neg (by simp[J,O])])
   have T:(f.kind != 1)=false:=by simpa using J
   have ac:f.data.toList.isEmpty=true:=jN.2 O;clear J O c;go_wp2_with fail
   go_ret2
   exact⟨by rw[A.out];rfl,zgr⟩
  ·have A:Hid (x.head F Z=(6,0)):=kD (by rw[c.out,if_neg (by simp),if_pos (by simp[O])])
   have T:(f.kind != 1)=false:=by simpa using J
   have ac:f.data.toList.isEmpty=false:=by rw[Bool.eq_false_iff];exact fun h=>O (jN.1 h)
   clear J O c;go_wp2_with fail
   go_ret2
   exact⟨by rw[A.out];rfl,zgr⟩
 ·have A:Hid (x.head F Z=(6,0)):=kD (by rw[c.out,if_neg (by simp),if_pos (by simp[J])])
  have T:(f.kind != 1)=true:=by simpa using J
  clear J c;go_wp2_with fail
  go_ret2
  exact⟨by rw[A.out];rfl,zgr⟩
theorem z8F (A:Option Addr)(c:Nat)(xs:List Int)(hl:xs.length<=1000000)(v:Int)(w:World)(U:Reads w A (xs.map (.int .i64))):
  Calls prog 241 #[.slice A xs.length c,.int .i64 v] w fun e w'=>(∃i:Int,e=.returned (.int .i64 i)/\decide (0<=i)=decide (v∈xs))/\w'=w:=by
 go_enter func241,ntmps241
 go_wp2_with fail
 go_loopw [4,5,8] (fun _ _ q wr=>∃k:Nat,k<=xs.length/\q=.int .i64 k/\(∀j,j<k->xs.getD j 0≠v)/\wr=w) (fun _ _ q _=>xs.length - (intOf q).toNat)
 case atStart=>exact⟨0,kP _,rfl,fun j h=>absurd h (by omega),rfl⟩
 case round=>
  obtain⟨k,hk,rfl,D,Y⟩:=hrel;subst Y;by_cases J:k<xs.length
  ·obtain⟨b,off,rfl,hb,S⟩:=U.at_ (k:=k) (by simpa using J)
   rw[lf]at S;by_cases K:v=xs[k]
   ·have M:v∈xs:=by rw[K];exact li J
    have I:(v==xs[k])=true:=by simpa using K
    generalize xs[k]=y at S I;have O:=kD M;clear K M D;go_wp2_with fail
    go_ret
    exact⟨⟨k,rfl,by simp[O.out]⟩,rfl⟩
   ·have I:(v==xs[k])=false:=by simpa using K
    have V:Hid (∀j,j<k+1->xs.getD j 0≠v):=kD (by
     intro j hj;by_cases e:j=k
     ·subst e;simp[kN,J];exact fun h=>K h.symm
     ·exact D j (by omega))
    generalize xs[k]=y at S I;clear K D;go_wp2_with fail
    go_roundw
    case rel=>exact⟨k+1,by omega,by go_num,V.out,by first|trivial|rfl⟩
    case measure=>simp[intOf];omega
  ·obtain rfl:k=xs.length:=by omega
   have M:v∉xs:=by
    intro h;obtain⟨i,T,rfl⟩:=List.mem_iff_getElem.1 h;exact D i T (by simp[kN,T])
   have O:=kD M;clear M D;go_wp2_with fail
   go_ret
   exact⟨⟨-1,rfl,by simp[O.out]⟩,rfl⟩
theorem z3O (A:Option Addr)(c:Nat)(xs:List Int)(J:xs.length<=1000000)(v:Int)(w:World)(D:Reads w A (xs.map (.int .i64))):
  Calls prog 212 #[.slice A xs.length c,.int .i64 v] w fun e K=>e=.returned (.bool (decide (v∈xs)))/\K=w:=by
 go_enter func212,ntmps212
 go_wp2_with fail
 refine(z8F A c xs J v w D).mono ?_;rintro e M ⟨⟨i,rfl,I⟩,rfl⟩;go_wp2_with fail
 go_ret
 exact⟨by rw[<-I];rfl,rfl⟩
theorem z8E (A:Option Addr)(c:Nat)(xs:List Int)(hl:xs.length<=1000000)(v:Int)(w:World)(U:Reads w A (xs.map (.int .i64))):
  Calls prog 246 #[.slice A xs.length c,.int .i64 v] w fun e w'=>(∃i:Int,e=.returned (.int .i64 i)/\decide (0<=i)=decide (v∈xs))/\w'=w:=by
 go_enter func246,ntmps246
 go_wp2_with fail
 go_loopw [4,5,8] (fun _ _ q wr=>∃k:Nat,k<=xs.length/\q=.int .i64 k/\(∀j,j<k->xs.getD j 0≠v)/\wr=w) (fun _ _ q _=>xs.length - (intOf q).toNat)
 case atStart=>exact⟨0,kP _,rfl,fun j h=>absurd h (by omega),rfl⟩
 case round=>
  obtain⟨k,hk,rfl,D,Y⟩:=hrel;subst Y;by_cases J:k<xs.length
  ·obtain⟨b,off,rfl,hb,S⟩:=U.at_ (k:=k) (by simpa using J)
   rw[lf]at S;by_cases K:v=xs[k]
   ·have M:v∈xs:=by rw[K];exact li J
    have I:(v==xs[k])=true:=by simpa using K
    generalize xs[k]=y at S I;have O:=kD M;clear K M D;go_wp2_with fail
    go_ret
    exact⟨⟨k,rfl,by simp[O.out]⟩,rfl⟩
   ·have I:(v==xs[k])=false:=by simpa using K
    have V:Hid (∀j,j<k+1->xs.getD j 0≠v):=kD (by
     intro j hj;by_cases e:j=k
     ·subst e;simp[kN,J];exact fun h=>K h.symm
     ·exact D j (by omega))
    generalize xs[k]=y at S I;clear K D;go_wp2_with fail
    go_roundw
    case rel=>exact⟨k+1,by omega,by go_num,V.out,by first|trivial|rfl⟩
    case measure=>simp[intOf];omega
  ·obtain rfl:k=xs.length:=by omega
   have M:v∉xs:=by
    intro h;obtain⟨i,T,rfl⟩:=List.mem_iff_getElem.1 h;exact D i T (by simp[kN,T])
   have O:=kD M;clear M D;go_wp2_with fail
   go_ret
   exact⟨⟨-1,rfl,by simp[O.out]⟩,rfl⟩
theorem z3N (A:Option Addr)(c:Nat)(xs:List Int)(J:xs.length<=1000000)(v:Int)(w:World)(D:Reads w A (xs.map (.int .i64))):
  Calls prog 228 #[.slice A xs.length c,.int .i64 v] w fun e K=>e=.returned (.bool (decide (v∈xs)))/\K=w:=by
 go_enter func228,ntmps228
 go_wp2_with fail
 refine(z8E A c xs J v w D).mono ?_;rintro e M ⟨⟨i,rfl,I⟩,rfl⟩;go_wp2_with fail
 go_ret
 exact⟨by rw[<-I];rfl,rfl⟩
theorem z1Z (F Z a:Int)(h:0<=F/\F<=256/\0<=Z/\Z<=256)(w:World):
  Calls prog 225 #[.agg #[.int .i64 F,.int .i64 Z],.int .i64 a] w fun e A=>e=.returned (.bool (cx F Z a))/\Zr w A:=by
 have J:IntKind.i64.wrap (F+Z)=F+Z:=by rw[kW];omega
 by_cases D:a<F
 rotate_left;by_cases I:a<F+Z
 rotate_left
 all_goals
  first
   | (have c:Hid (cx F Z a=true):=kD (by unfold cx;simp;omega))
   | (have c:Hid (cx F Z a=false):=kD (by unfold cx;simp;omega))
  go_enter func225,ntmps225
  go_wp2_with fail
  go_ret
  exact⟨by rw[c.out];rfl,zgr⟩
theorem z2O (F Z:Int)(h:0<=Z/\Z<=256)(w:World):
  Calls prog 201 #[.agg #[.int .i64 F,.int .i64 Z]] w fun e c=>e=.returned (.int .i64 (cj Z))/\Zr w c:=by
 have A:IntKind.i64.wrap (Z - 2)=Z - 2:=by rw[kW];omega
 unfold cj;go_enter func201,ntmps201
 go_wp2_with fail
 go_ret
 exact⟨rfl,zgr⟩
theorem iJ (n:Int)(w:World):
  Calls prog 190 #[.int .i64 n] w fun e K=>e=.returned (.string (aH n))/\Zr w K:=by
 have c:Blk (w.alloc (.cells #[.int .u8 (n % 256),.int .u8 (n / 256 % 256)] 5)) w.heap.size 5 #[.int .u8 (n % 256),.int .u8 (n / 256 % 256)]:=Blk.new _ _ _;have A:Reads (w.alloc (.cells #[.int .u8 (n % 256),.int .u8 (n / 256 % 256)] 5)) (some ⟨w.heap.size,0,none⟩) ([n % 256,n / 256 % 256].map (Value.int .u8)):=.inr ⟨_,0,rfl,c.lt,fun j u J=>by rw[ld,c.cells];simpa using J⟩
 have I:=dR _ 2 2 _ rfl _ A;have D:Hid (strOfNums [n % 256,n / 256 % 256]=aH n):=kD rfl;clear c A;go_enter func190,ntmps190
 go_wp2_with fail
 go_ret
 exact⟨by rw[<-D.out];rfl,zgr⟩
theorem z6u (E:Int)(w:World):
  Calls prog 199 #[.int .i64 E] w fun e K=>e=.returned (.bool (dI E))/\Zr w K:=by
 have c:Blk (w.alloc (.cells #[.int .i64 1,.int .i64 13,.int .i64 7] 28)) w.heap.size 28 #[.int .i64 1,.int .i64 13,.int .i64 7]:=Blk.new _ _ _;have D:Reads (w.alloc (.cells #[.int .i64 1,.int .i64 13,.int .i64 7] 28)) (some ⟨w.heap.size,0,none⟩) ([1,13,7].map (Value.int .i64)):=.inr ⟨_,0,rfl,c.lt,fun j u J=>by rw[ld,c.cells];simpa using J⟩
 have A:=z3N _ 3 [1,13,7] (by decide) E _ D
 have I:Hid (dI E=(decide (E=1)||(decide (E=13)||decide (E=7)))):=kD (by unfold dI;rw[Bool.or_assoc];rfl)
 clear c D;go_enter func199,ntmps199
 go_wp2_with fail
 refine A.mono ?_;rintro e M ⟨rfl,rfl⟩;go_wp2_with fail
 go_ret
 exact⟨by rw[I.out];rfl,zgr⟩
theorem zaR {s:ByteArray}{k:Nat}(h:k<s.size):(cf s).getD k 0=(s[k].toNat:Int):=by
 have c:k<s.data.toList.length:=by rw[Array.length_toList];exact h
 unfold cf;rw[kN,mq,kQ c];rfl
theorem dW (s:ByteArray)(i:Int)(k:Nat)(hi:i=(k:Int))(h:k<s.size)(w:World):(Instr.index 9 (.string s) (.int .i64 i)).run prog w=.ok (.int .u8 ((cf s).getD k 0)) w:=by
 subst hi;rw[run_index_string (P:=prog) w 9 s .i64 (k:Int) underlying9,dif_pos (by omega),zaR h]
 rfl
def recC (r:Rec):Array Value:=#[.int .i64 r.at_,.int .i64 r.kind,.string r.data]
theorem z7l (D:Nat)(F Z:Int)(B:List Nat)(x:DevS)(f:Fr)(w:World)(c:f.kind≠2\/f.data.size<3\/99<f.data.size):
  Calls prog 200 #[.pointer (some ⟨D,0,none⟩),.agg #[.int .i64 F,.int .i64 Z],.agg #[.int .i64 f.kind,.int .u32 f.seq,.string f.data]] w fun e O=>e=.returned (.tuple #[.agg (recC z5b),.bool false])/\Zr w O:=by
 unfold z5b recC;by_cases A:f.kind=2
 by_cases S:f.data.size<3
 rotate_left;by_cases a3:99<f.data.size
 rotate_left
 ·omega
 rotate_left
 all_goals
  first
   | (have I:(f.kind != 2)=true:=by simpa using A)
   | (have I:(f.kind != 2)=false:=by simpa using A)
  clear c A;have J:Blk (((w.alloc (.cells #[.int .i64 F,.int .i64 Z] 109)).alloc (.cells #[.int .i64 f.kind,.int .u32 f.seq,.string f.data] 190)).alloc (.cells #[.int .i64 0,.int .i64 0,.string ⟨#[]⟩] 118)) (w.heap.size+1+1) 118 #[.int .i64 0,.int .i64 0,.string ⟨#[]⟩]:=Blk.new' (by simp)
  obtain⟨K,M⟩:=J.zc;go_enter func200,ntmps200
  go_wp2_with fail
  refine bodyPost_ret (v:=.tuple #[.agg #[.int .i64 0,.int .i64 0,.string ⟨#[]⟩],.bool false]) (by simp[results,results200,go_sem,K,M]) rfl ?_
  exact⟨rfl,zgr⟩
theorem z5i (D:Nat)(F Z:Int)(bk:0<=F/\F<=256/\0<=Z/\Z<=256)(B:List Nat)(x:DevS)(f:Fr)(w:World)(h:DevAt w D B x)(hk:f.kind=2)(h3:3<=f.data.size)(bc:f.data.size<=99):
  Calls prog 200 #[.pointer (some ⟨D,0,none⟩),.agg #[.int .i64 F,.int .i64 Z],.agg #[.int .i64 f.kind,.int .u32 f.seq,.string f.data]] w fun e U=>e=.returned (.tuple #[.agg (recC (aB f)),.bool (dp x.stable.length F Z f)])/\Zr w U:=by
 obtain⟨fk,fq,c⟩:=f;simp only at hk h3 bc
 subst hk;go_enter func200,ntmps200
 go_wp2_with fail
 obtain⟨W,hW⟩:=zex (((w.alloc (.cells #[.int .i64 F,.int .i64 Z] 109)).alloc (.cells #[.int .i64 2,.int .u32 fq,.string c] 190)).alloc (.cells #[.int .i64 0,.int .i64 0,.string ⟨#[]⟩] 118));have bJ:Blk W w.heap.size 109 #[.int .i64 F,.int .i64 Z]:=by rw[hW];exact zbn
 have bF:Blk W (w.heap.size+1) 190 #[.int .i64 2,.int .u32 fq,.string c]:=by rw[hW];exact zbn
 have bR:Blk W (w.heap.size+1+1) 118 #[.int .i64 0,.int .i64 0,.string ⟨#[]⟩]:=by rw[hW];exact zbn
 have hB:Zr w W:=by rw[hW];exact zgr
 rw[<-hW];clear hW;obtain⟨cF,lF⟩:=bF.zc;refine wp_region_still_tail 18 (by kernel_rfl) (by kernel_rfl) ?_
 simp only[List.take_succ_cons,mm,List.drop_succ_cons,List.drop_zero];change wpStill _ _ W.drew _ _ _
 have Y:Hid (aB ⟨2,fq,c⟩=⟨bits .or .i64 ((cf c).getD 0 0) ((cf c).getD 1 0*256),(cf c).getD 2 0,c.extract 3 c.size⟩):=kD (by unfold aB;rw[if_neg (by simp only;omega)])
 have aL:Hid (dp x.stable.length F Z ⟨2,fq,c⟩=(decide ((aB ⟨2,fq,c⟩).at_<x.stable.length)&&!cx F Z (aB ⟨2,fq,c⟩).at_&&decide (0<(aB ⟨2,fq,c⟩).kind))):=kD (by unfold dp;rw[if_neg (by simp only;omega)])
 have bn:=dW c 0 0 rfl (by omega)
 have bp:=dW c 1 1 rfl (by omega)
 have bq:=dW c 2 2 rfl (by omega)
 have y0:=aZ (d9 c) 0;have y1:=aZ (d9 c) 1;have y2:=aZ (d9 c) 2;have bb:(3:Int)<=c.size:=by omega
 generalize (cf c).getD 0 0=d0 at *;generalize (cf c).getD 1 0=d1 at *;generalize (cf c).getD 2 0=S at *;have br:IntKind.i64.wrap d0=d0:=by rw[kW];omega
 have bt:IntKind.i64.wrap d1=d1:=by rw[kW];omega
 have bu:IntKind.i64.wrap S=S:=by rw[kW];omega
 have bw:IntKind.i64.wrap (d1*256)=d1*256:=by rw[kW];omega
 repeat still_step
 refine wpStill_nil ?_;change wpList _ _ _ _ _ W.drew
 clear bn bp bq bb br bt bu bw;generalize bits BinOp.or IntKind.i64 d0 (d1*256)=I at *;have cR:=bR.cells;have fR:=bR.free;have lR:=bR.lt;go_wp2_with fail
 obtain⟨V,hV⟩:=zex ((((W.setCell ⟨w.heap.size+1+1,0,none⟩ (.int .i64 I)).setCell ⟨w.heap.size+1+1,1,none⟩ (.int .i64 S)).setCell ⟨w.heap.size+1+1,2,none⟩ (.string (c.extract 3 c.size))).drew);have O:Blk V (w.heap.size+1+1) 118 #[.int .i64 I,.int .i64 S,.string (c.extract 3 c.size)]:=by rw[hV];exact(((bR.mG 0 _).mG 1 _).mG 2 _).drew
 have ab:Blk V w.heap.size 109 #[.int .i64 F,.int .i64 Z]:=by rw[hV];exact(((bJ.far (by simp;omega) _).far (by simp;omega) _).far (by simp;omega) _).drew
 have ac:Zr w V:=by rw[hV];exact kK (((hB.setCell (by simp;omega) _).setCell (by simp;omega) _).setCell (by simp;omega) _)
 rw[<-hV];clear hV cR fR lR bR bF cF lF bJ hB;have hd:=h.below ac;have an:V.cell? ⟨w.heap.size+1+1,0,none⟩=some (.int .i64 I)/\V.cell? ⟨w.heap.size+1+1,1,none⟩=some (.int .i64 S)/\V.cell? ⟨w.heap.size+1+1,2,none⟩=some (.string (c.extract 3 c.size))/\V.cell? ⟨w.heap.size,0,none⟩=some (.int .i64 F)/\V.cell? ⟨w.heap.size,1,none⟩=some (.int .i64 Z):=⟨by rw[O.cells];rfl,by rw[O.cells];rfl,by rw[O.cells];rfl,by rw[ab.cells];rfl,by rw[ab.cells];rfl⟩
 have lV:=O.lt;rw[Y.out]at aL;have HB:∀b:Bool,dp x.stable.length F Z ⟨2,fq,c⟩=b->Hid (dp x.stable.length F Z ⟨2,fq,c⟩=b):=fun _ h=>kD h
 have a7:=gq D B x V.drew hd.drew;have a8:=z1Z F Z I bk V.drew;by_cases c1:I<x.stable.length
 ·have a6:decide (I<(x.stable.length:Int))=true:=decide_eq_true c1;have HE:=HB (!cx F Z I&&decide (0<S)) (by rw[aL.out];simp only[a6,Bool.true_and])
  clear c1;refine zrm [.take 0,.take 1,.take 2,.take 3,.one 4,.take 5,.take 6,.take 7,.take 8,.take 9,.one 10,.take 11,.take 12,.take 13,.take 14,.take 15,.take 16,.take 17,.one 18,.one 19] 20 (fun U=>U.cell? ⟨w.heap.size+1+1,0,none⟩=some (.int .i64 I)/\U.cell? ⟨w.heap.size+1+1,1,none⟩=some (.int .i64 S)/\U.cell? ⟨w.heap.size+1+1,2,none⟩=some (.string (c.extract 3 c.size))/\U.cell? ⟨w.heap.size,0,none⟩=some (.int .i64 F)/\U.cell? ⟨w.heap.size,1,none⟩=some (.int .i64 Z)) an ?_
  simp only[kR,kS,Ms.fill,kT,kV];iterate 4 refine ztk ?_
  refine ah (by rfl) fun K J=>?_
  go_simp;refine a7.mono ?_;rintro e U ⟨rfl,rfl⟩;refine J _ _ (fun _=>an) ?_
  clear J K;iterate 5 refine ztk ?_
  refine ah (by rfl) fun K J=>?_
  go_simp;refine a8.mono ?_;rintro e w5 ⟨rfl,ao⟩;have T:=O.drew.mD ao;have a1:=ab.drew.mD ao;have B5:Zr w w5:=ac.drew.trans (ao.mono ac.size);have l5:=T.lt;have h5:w5.cell? ⟨w.heap.size+1+1,0,none⟩=some (.int .i64 I)/\w5.cell? ⟨w.heap.size+1+1,1,none⟩=some (.int .i64 S)/\w5.cell? ⟨w.heap.size+1+1,2,none⟩=some (.string (c.extract 3 c.size))/\w5.cell? ⟨w.heap.size,0,none⟩=some (.int .i64 F)/\w5.cell? ⟨w.heap.size,1,none⟩=some (.int .i64 Z):=⟨by rw[T.cells];rfl,by rw[T.cells];rfl,by rw[T.cells];rfl,by rw[a1.cells];rfl,by rw[a1.cells];rfl⟩
  refine J _ _ (fun _=>h5) ?_
  clear J K a7 a8 ao;have A:=((T.mG 0 (.int .i64 I)).mG 1 (.int .i64 S)).mG 2 (.string (c.extract 3 c.size));have M:=((a1.far (p:=⟨w.heap.size+1+1,0,none⟩) (by simp;omega) (.int .i64 I)).far (p:=⟨w.heap.size+1+1,1,none⟩) (by simp;omega) (.int .i64 S)).far (p:=⟨w.heap.size+1+1,2,none⟩) (by simp;omega) (.string (c.extract 3 c.size))
  have B6:=((B5.setCell (p:=⟨w.heap.size+1+1,0,none⟩) (by simp;omega) (.int .i64 I)).setCell (p:=⟨w.heap.size+1+1,1,none⟩) (by simp;omega) (.int .i64 S)).setCell (p:=⟨w.heap.size+1+1,2,none⟩) (by simp;omega) (.string (c.extract 3 c.size))
  have bB:=T.cells;have bD:=T.free;obtain⟨ib,ba⟩:=zxe (cx F Z I);rw[ba]at HE |-;clear ba;cases ib
  all_goals
   iterate 3 refine ztk ?_
   first
    | (iterate 3 ((first|refine zsa ?_|refine zse ?_)))
    | (iterate 3 refine ztk ?_)
   iterate 1 refine ztk ?_
   refine ah (by rfl) fun K J=>?_
   go_simp;refine J _ _ (fun _=>⟨by rw[A.cells];rfl,by rw[A.cells];rfl,by rw[A.cells];rfl,by rw[M.cells];rfl,by rw[M.cells];rfl⟩) ?_
   clear J K;refine ah (by rfl) fun K J=>?_
   go_simp;refine J _ _ (fun _=>⟨by rw[A.cells];rfl,by rw[A.cells];rfl,by rw[A.cells];rfl,by rw[M.cells];rfl,by rw[M.cells];rfl⟩) ?_
   clear J K;refine ax ?_;obtain⟨a2,bA⟩:=A.zc;go_wp2_with fail
   refine bodyPost_ret (v:=.tuple #[.agg #[.int .i64 I,.int .i64 S,.string (c.extract 3 c.size)],.bool _]) (by simp[results,results200,go_sem,a2];try rfl) rfl ?_
   exact⟨by unfold recC;rw[Y.out,HE.out]<;>try rfl,B6⟩
 ·have a6:decide (I<(x.stable.length:Int))=false:=decide_eq_false c1;have HE:=HB false (by rw[aL.out];simp only[a6,Bool.false_and])
  clear c1;refine zrm [.take 0,.take 1,.take 2,.take 3,.one 4,.take 5,.take 6,.take 7,.take 8,.take 9,.one 10,.take 11,.take 12,.take 13,.take 14,.take 15,.take 16,.take 17,.one 18,.one 19] 20 (fun U=>U.cell? ⟨w.heap.size+1+1,0,none⟩=some (.int .i64 I)/\U.cell? ⟨w.heap.size+1+1,1,none⟩=some (.int .i64 S)/\U.cell? ⟨w.heap.size+1+1,2,none⟩=some (.string (c.extract 3 c.size))/\U.cell? ⟨w.heap.size,0,none⟩=some (.int .i64 F)/\U.cell? ⟨w.heap.size,1,none⟩=some (.int .i64 Z)) an ?_
  simp only[kR,kS,Ms.fill,kT,kV];iterate 4 refine ztk ?_
  refine ah (by rfl) fun K J=>?_
  go_simp;refine a7.mono ?_;rintro e U ⟨rfl,rfl⟩;refine J _ _ (fun _=>an) ?_
  clear J K;iterate 2 refine ztk ?_
  iterate 5 ((first|refine zsa ?_|refine zse ?_))
  iterate 2 refine ztk ?_
  iterate 3 ((first|refine zsa ?_|refine zse ?_))
  iterate 1 refine ztk ?_
  have A:=(((O.mG 0 (.int .i64 I)).mG 1 (.int .i64 S)).mG 2 (.string (c.extract 3 c.size))).drew;have M:=(((ab.far (p:=⟨w.heap.size+1+1,0,none⟩) (by simp;omega) (.int .i64 I)).far (p:=⟨w.heap.size+1+1,1,none⟩) (by simp;omega) (.int .i64 S)).far (p:=⟨w.heap.size+1+1,2,none⟩) (by simp;omega) (.string (c.extract 3 c.size))).drew
  have B6:=kK (((ac.setCell (p:=⟨w.heap.size+1+1,0,none⟩) (by simp;omega) (.int .i64 I)).setCell (p:=⟨w.heap.size+1+1,1,none⟩) (by simp;omega) (.int .i64 S)).setCell (p:=⟨w.heap.size+1+1,2,none⟩) (by simp;omega) (.string (c.extract 3 c.size)))
  have bC:=O.cells;have bG:=O.free;focus
   refine ah (by rfl) fun K J=>?_
   go_simp;refine J _ _ (fun _=>⟨by rw[A.cells];rfl,by rw[A.cells];rfl,by rw[A.cells];rfl,by rw[M.cells];rfl,by rw[M.cells];rfl⟩) ?_
   clear J K;refine ah (by rfl) fun K J=>?_
   go_simp;refine J _ _ (fun _=>⟨by rw[A.cells];rfl,by rw[A.cells];rfl,by rw[A.cells];rfl,by rw[M.cells];rfl,by rw[M.cells];rfl⟩) ?_
   clear J K;refine ax ?_;obtain⟨a2,bA⟩:=A.zc;go_wp2_with fail
   refine bodyPost_ret (v:=.tuple #[.agg #[.int .i64 I,.int .i64 S,.string (c.extract 3 c.size)],.bool false]) (by simp[results,results200,go_sem,a2]) rfl ?_
   exact⟨by unfold recC;rw[Y.out,HE.out]<;>try rfl,B6⟩
def io (l:List Int):DataW Unit:=l.foldl (fun D a=>D.put (.int .i64 a) (.lit (.bool true))) (.map [])
theorem z0j (l:List Int)(a:Int):io (l++[a])=(io l).put (.int .i64 a) (.lit (.bool true)):=by
 unfold io;rw[List.foldl_append];rfl
theorem z2Y (l:List Int):IsMap (io l):=by
 unfold io;have:∀D:DataW Unit,IsMap D->IsMap (l.foldl (fun D a=>D.put (.int .i64 a) (.lit (.bool true))) D):=by
  induction l with
  | nil=>exact fun D h=>h
  | cons a r ih=>exact fun D h=>ih _ (h.put _ _)
 exact this _ isMap_empty
theorem z7e (l:List Int)(a:Int):(io l).atKey (.int .i64 a) (.lit (.bool false))=.lit (.bool (decide (a∈l))):=by
 have A:∀(n:Nat) (l:List Int),l.length=n->(io l).atKey (.int .i64 a) (.lit (.bool false))=.lit (.bool (decide (a∈l))):=by
  intro n;induction n with
  | zero=>
   intro l h;obtain rfl:=md h;rfl
  | succ n ih=>
   intro l h;have c:l≠[]:=by intro e;subst e;cases h
   rw[<-List.dropLast_concat_getLast c,z0j];have I:=ih l.dropLast (by rw[List.length_dropLast];omega)
   by_cases e:l.getLast c=a
   ·rw[e,atKey_put_same (z2Y _) (show WideAt.IsKeyLit (.int .i64 a)from trivial)]
    simp
   ·rw[atKey_put_other (by intro x;cases x;exact e rfl),I]
    have D:¬a=l.getLast c:=fun h=>e h.symm
    simp[D]
 exact A _ l rfl
theorem ky {P:Program}{e:TypeId}(c:P.underlying e=some .bool){v:Value}{z:DataW Unit × List MemPlace}(h:plainElem P e v=some z):∃b,v=.bool b/\z=(.lit (.bool b),[]):=by
 unfold plainElem at h;rw[c]at h;cases v<;>simp at h
 subst h;exact⟨_,rfl,rfl⟩
abbrev PlacesAt (w:World)(M n:Nat)(l:List Int):Prop:=w.ownsMap prog 3 (plainElem prog 4) M n (io l)
theorem z4w {a:Int}(h:-9223372036854775808<=a/\a<=9223372036854775807):(Lit.int .i64 a).wf=true:=by
 simp[Lit.wf,IntKind.min,IntKind.max,IntKind.signed,IntKind.bits];omega
theorem PlacesAt.look {w:World}{M n:Nat}{l:List Int}(h:PlacesAt w M n l){a:Int}(I:-9223372036854775808<=a/\a<=9223372036854775807):(Instr.lookup 275 (.map (some M)) (.int .i64 a) false).run prog w=.ok (.bool (decide (a∈l))) w:=by
 have J:(zeroValue 4).run prog w=.ok (.bool false) w:=by kernel_rfl
 obtain⟨v,ps,c,D⟩:=World.ownsMap.lookup h gw underlying275 J (plainElem_bool underlying4 false) (keyOf_int_mk underlying3 (z4w I));rw[z7e]at D;obtain⟨b,rfl,A⟩:=ky underlying4 D;simp only[Prod.mk.injEq,DataW.lit.injEq,Lit.bool.injEq]at A;rw[c,A.1]
theorem PlacesAt.add {w:World}{M n:Nat}{l:List Int}(h:PlacesAt w M n l)(K:n<maxLen){a:Int}(J:-9223372036854775808<=a/\a<=9223372036854775807):∃c,(Instr.mapUpdate 275 (.map (some M)) (.int .i64 a) (.bool true)).run prog w=.ok () c/\PlacesAt c M (n+1) (l++[a])/\w.grownBy c (some M):=by
 obtain⟨c,A,D,I⟩:=World.ownsMap.update h gw underlying275 K (keyOf_int_mk underlying3 (z4w J)) (plainElem_bool underlying4 true);refine⟨c,A,?_,I⟩
 unfold PlacesAt;rw[z0j];exact D
def RunAt (w:World)(A:Option Addr)(l:List Rec):Prop:=Reads w A (l.flatMap bE)
theorem RunAt.at_ {w:World}{A:Option Addr}{l:List Rec}(h:RunAt w A l){k:Nat}(c:k<l.length):
  ∃b off,A=some ⟨b,off,none⟩/\b<w.heap.size/\w.cell? ⟨b,off+k*3,none⟩=some (.int .i64 l[k].at_)/\w.cell? ⟨b,off+k*3+1,none⟩=some (.int .i64 l[k].kind)/\w.cell? ⟨b,off+k*3+2,none⟩=some (.string l[k].data):=by
 rcases h with h|⟨b,off,J,I,D⟩
 ·exfalso
  have:=eb (f:=bE) (m:=3) (fun _ _=>rfl) (i:=k) (j:=0) (by omega) c
  rw[h]at this;simp[bE]at this
 ·refine⟨b,off,J,I,?_,?_,?_⟩
  ·exact D (k*3) _ (by have:=eb (f:=bE) (m:=3) (fun _ _=>rfl) (i:=k) (j:=0) (by omega) c;simpa[bE]using this)
  ·rw[Nat.add_assoc];exact D (k*3+1) _ (by have:=eb (f:=bE) (m:=3) (fun _ _=>rfl) (i:=k) (j:=1) (by omega) c;simpa[bE]using this)
  ·rw[Nat.add_assoc];exact D (k*3+2) _ (by have:=eb (f:=bE) (m:=3) (fun _ _=>rfl) (i:=k) (j:=2) (by omega) c;simpa[bE]using this)
def gv (l:List Rec):Prop:=l.length<=1000/\∀r∈l,(-9223372036854775808<=r.at_/\r.at_<=9223372036854775807)/\r.data.size<=maxLen
theorem z09 {n F Z:Int}{l:List Rec}{k m:Nat}(h:cd n F Z l k≠0)(c:k<=m):cd n F Z l m=cd n F Z l k:=by
 induction m with
 | zero=>
  have e:k=0:=by omega
  rw[e]
 | succ m ih=>
  by_cases e:k=m+1
  ·rw[e]
  ·have ih:=ih (by omega)
   show (if cd n F Z l m≠0 then cd n F Z l m else _)=_
   rw[ih,if_pos h]
theorem z08 {n F Z:Int}{l:List Rec}{k:Nat}(h:cd n F Z l k=0)(c:k<l.length):cd n F Z l (k+1)=im n F Z (l.take k) l[k]:=by
 show (if cd n F Z l k≠0 then _ else _)=_
 rw[if_neg (by rw[h];simp)]
 simp[kN,c]
theorem z9J (D:Nat)(F Z:Int)(bL:0<=F/\F<=256/\0<=Z/\Z<=256)(B:List Nat)(x:DevS)(A:Option Addr)(c:Nat)(l:List Rec)(a6:gv l)(w:World)(h:DevAt w D B x)(hr:RunAt w A l):
  Calls prog 188 #[.pointer (some ⟨D,0,none⟩),.agg #[.int .i64 F,.int .i64 Z],.slice A l.length c] w (Zq (.int .i64 (cV x.stable.length F Z l)) w):=by
 have bW:=h.ok.hi;have bX:=a6.1;have bJ:Blk (w.alloc (.cells #[.int .i64 F,.int .i64 Z] 109)) w.heap.size 109 #[.int .i64 F,.int .i64 Z]:=Blk.new _ _ _;have bt:=z2O F Z (by omega) (w.alloc (.cells #[.int .i64 F,.int .i64 Z] 109))
 have b0:cj Z<=80:=by unfold cj;omega
 go_enter func188,ntmps188
 go_wp2_with fail
 refine bt.mono ?_;rintro e w1 ⟨rfl,aL⟩;have ao:=bJ.mD aL;have B1:=dq aL;have Z1:=B1.size;have bT:=ao.lt;clear bt aL bJ;by_cases hm:cj Z<l.length
 ·have HE:Hid (cV x.stable.length F Z l=12):=kD (by unfold cV;rw[if_pos hm])
  go_wp2_with fail
  go_ret
  exact⟨by rw[HE.out];rfl,B1⟩
 have HE:Hid (cV x.stable.length F Z l=cd x.stable.length F Z l l.length):=kD (by unfold cV;rw[if_neg hm])
 have bN:=@run_makeMap prog;go_wp2_with fail
 clear bN hm;have a7:PlacesAt (w1.alloc (.map #[] 0)) w1.heap.size 0 ((l.take 0).map (·.at_)):=World.ownsMap_made _ _ _ _;have B2:Zr w (w1.alloc (.map #[] 0)):=B1.alloc Z1 _;have bc:Blk (w1.alloc (.map #[] 0)) w.heap.size 109 #[.int .i64 F,.int .i64 Z]:=ao.alloc _;have bB:w.heap.size≠w1.heap.size:=by omega
 obtain⟨M,hM⟩:=zex w1.heap.size;obtain⟨W2,bq⟩:=zex (w1.alloc (.map #[] 0));have bM:w.heap.size<=M:=by omega
 rw[<-hM]at a7 bB |-;rw[<-bq]at a7 B2 bc |-;clear hM bq B1 ao bT Z1;go_loopw [9,18] (fun _ q wr=>∃k:Nat,k<=l.length/\q=.int .i64 k/\cd x.stable.length F Z l k=0/\PlacesAt wr M k ((l.take k).map (·.at_))/\Blk wr w.heap.size 109 #[.int .i64 F,.int .i64 Z]/\Zr w wr) (fun _ q _=>l.length - (intOf q).toNat)
 case atStart=>exact⟨0,kP _,rfl,rfl,a7,bc,B2⟩
 case round=>
  obtain⟨k,hk,rfl,hv,hp,bJ,hB⟩:=hrel;by_cases ac:k<l.length
  ·obtain⟨b,off,rfl,bU,c0,c1,c2⟩:=RunAt.at_ (Reads.below hr hB) ac;have bb:=z08 hv ac;have ba:=(a6.2 _ (li ac)).1;have bA:=(a6.2 _ (li ac)).2;unfold maxLen at bA;have bC:Hid ((l.take (k+1)).map (·.at_)=(l.take k).map (·.at_)++[l[k].at_]):=kD (by rw[kZ ac,List.map_append];rfl)
   have U:Hid (cd x.stable.length F Z l (k+1)≠0->cd x.stable.length F Z l l.length=cd x.stable.length F Z l (k+1)):=kD (fun bO=>z09 bO (by omega))
   rw[bb]at U;have bD:=kD bb;clear bb;generalize l[k]=r at *;obtain⟨I,K,sv⟩:=r;simp only at c0 c1 c2 ba bA
   have S:=z1Z F Z I bL (wr.alloc (.cells #[.int .i64 I,.int .i64 K,.string sv] 118));have bw:=show im x.stable.length F Z (l.take k) ⟨I,K,sv⟩=_ from rfl
   have O:Hid (im x.stable.length F Z (l.take k) ⟨I,K,sv⟩=if F<=I/\I<F+Z then 2 else if I<0\/(x.stable.length:Int)<=I\/K<1\/255<K then 7 else if 96<sv.size then 3 else if I∈(l.take k).map (·.at_)then 8 else 0):=kD rfl
   clear bw;have HV:=kD hv;clear hv;have bp:Blk (wr.alloc (.cells #[.int .i64 I,.int .i64 K,.string sv] 118)) wr.heap.size 118 #[.int .i64 I,.int .i64 K,.string sv]:=Blk.new _ _ _;have zr:=hB.size;obtain⟨cJ,lJ⟩:=bJ.zc;go_wp2_with fail
   refine S.mono ?_;rintro e w4 ⟨rfl,Y⟩;have bR:=bp.mD Y;have bk:=(bJ.alloc _).mD Y;have bZ:=hp.lt;have bu:PlacesAt w4 M k ((l.take k).map (·.at_)):=aU (hp.alloc _) (Y.block M (by simp;omega))
   have V:Zr w w4:=(hB.alloc zr _).trans (Y.mono (by simp;omega))
   have a1:=h.below V;clear Y S bp c0 c1 c2 cJ lJ hp bJ;obtain⟨cR,lR⟩:=bR.zc;by_cases S:F<=I/\I<F+Z
   ·have ab:cx F Z I=true:=by unfold cx;simp;exact S
    have J:Hid (im x.stable.length F Z (l.take k) ⟨I,K,sv⟩=2):=kD (by rw[O.out,if_pos S])
    rw[ab];clear S ab;go_wp2_with fail
    go_ret
    exact⟨by rw[HE.out,U.out (by rw[J.out];decide),J.out];rfl,V⟩
   have ab:cx F Z I=false:=by unfold cx;simp;omega
   rw[ab];have T:=O.out;rw[if_neg S]at T;have O:=kD T;clear T S ab;by_cases hb:I<0\/(x.stable.length:Int)<=I\/K<1\/255<K
   ·have J:Hid (im x.stable.length F Z (l.take k) ⟨I,K,sv⟩=7):=kD (by rw[O.out,if_pos hb])
    by_cases b1:I<0
    rotate_left;by_cases b2:(x.stable.length:Int)<=I
    rotate_left;by_cases b3:K<1
    rotate_left;by_cases b4:255<K
    rotate_left
    ·exfalso;omega
    all_goals
     clear hb;(try (have d1:decide (I<0)=false:=decide_eq_false (by omega)))
     (try (have d1:decide (I<0)=true:=decide_eq_true (by omega)))
     (try (have d2:decide ((x.stable.length:Int)<=I)=false:=decide_eq_false (by omega)))
     (try (have d2:decide ((x.stable.length:Int)<=I)=true:=decide_eq_true (by omega)))
     (try (have d3:decide (K<1)=false:=decide_eq_false (by omega)))
     (try (have d3:decide (K<1)=true:=decide_eq_true (by omega)))
     (try (have d4:decide (255<K)=false:=decide_eq_false (by omega)))
     (try (have d4:decide (255<K)=true:=decide_eq_true (by omega)))
     go_wp2_with fail
     go_quiet ((go_at_call 113;exact Calls.quiet_of_same (gq D B x _ (a1.drewN _))))
     go_wp2_with fail
     go_ret
     exact⟨by rw[HE.out,U.out (by rw[J.out];decide),J.out];rfl,aa V _⟩
   ·have T:=O.out;rw[if_neg hb]at T;have O:=kD T;clear T;have d1:decide (I<0)=false:=by simp;omega
    have d2:decide ((x.stable.length:Int)<=I)=false:=by simp;omega
    have d3:decide (K<1)=false:=by simp;omega
    have d4:decide (255<K)=false:=by simp;omega
    go_wp2_with fail
    go_quiet ((go_at_call 113;exact Calls.quiet_of_same (gq D B x _ (a1.drewN _))))
    have a8:PlacesAt (w4.drewN nq) M k ((l.take k).map (·.at_)):=bu;have bn:Blk (w4.drewN nq) w.heap.size 109 #[.int .i64 F,.int .i64 Z]:=bk;have bG:Blk (w4.drewN nq) wr.heap.size 118 #[.int .i64 I,.int .i64 K,.string sv]:=bR;have an:=aa V nq;generalize w4.drewN nq=w5 at *;clear bu bk bR V a1 cR lR d1 d2 d3 d4;obtain⟨cR,lR⟩:=bG.zc;by_cases hs:96<sv.size
    ·have J:Hid (im x.stable.length F Z (l.take k) ⟨I,K,sv⟩=3):=kD (by rw[O.out,if_pos hs])
     have bS:(96:Int)<sv.size:=by omega
     go_wp2_with fail
     go_ret
     exact⟨by rw[HE.out,U.out (by rw[J.out];decide),J.out];rfl,an⟩
    have bS:(sv.size:Int)<=96:=by omega
    have br:=a8.look ba;by_cases hm:I∈(l.take k).map (·.at_)
    ·have J:Hid (im x.stable.length F Z (l.take k) ⟨I,K,sv⟩=8):=kD (by rw[O.out,if_neg hs,if_pos hm])
     rw[decide_eq_true hm]at br;clear hm hs;go_wp2_with fail
     go_ret
     exact⟨by rw[HE.out,U.out (by rw[J.out];decide),J.out];rfl,an⟩
    ·have J:Hid (cd x.stable.length F Z l (k+1)=0):=kD (by rw[bD.out,O.out,if_neg hs,if_neg hm])
     rw[decide_eq_false hm]at br;obtain⟨w6,bQ,bP,a2⟩:=a8.add (by simp only[maxLen];omega) ba
     have bF:=bn.grown a2 (by simp;exact bB)
     have bK:=an.grown a2 an.size (by intro q hq;cases hq;exact bM)
     clear hm hs bn a2 a8;go_wp2_with fail
     go_roundw
     case rel=>exact⟨k+1,by omega,by go_num,J.out,by rw[bC.out];exact bP,bF,bK⟩
     case measure=>simp[intOf];omega
  ·obtain rfl:k=l.length:=by omega
   have HV:=kD hv;clear hv hp;go_wp2_with fail
   go_ret
   exact⟨by rw[HE.out,HV.out];rfl,hB⟩
theorem Grow.box {w K w':World}{g:Nat}{B D:List Nat}(c:KeepEx w.heap.size [g] w K)(h:Grow K B w' D):Grow w (g::B) w' (g::D):=
 ⟨⟨h.keep.os.trans c.os,h.keep.tape.trans c.tape,h.keep.output.trans c.output,kO c.size h.keep.size,fun k I J=>by
    have M:k≠g:=fun e=>J (by simp[e])
    have O:k∉B:=fun e=>J (by simp[e])
    exact(h.keep.block k (lh I c.size) O).trans (c.block k I (by simpa using M))⟩,
  fun b A=>by
   rcases lp.1 A with rfl|A
   ·exact .inl (by simp)
   ·rcases h.new b A with e|e
    ·exact .inl (by simp[e])
    ·exact .inr (kO c.size e)⟩
theorem Grow.qL {w w':World}{B c:List Nat}(h:Grow w B w' c)(g:Nat):Grow w (g::B) w' (g::c):=Grow.box (KeepEx.refl _ _ _) h
theorem zb3 (D c K M:Nat)(a kind q:Int)(ha:0<=a/\a<=1000000)(hq:0<=q/\q<4294967296)(s:ByteArray)(hs:s.size<=maxLen)(B:List Nat)(x:DevS)(w:World)(h:DevAt w D B x)
  (J:Blk w c 3 #[.int .i64 a]) (T:c∉B) (U:c≠0) (Y:Blk w K 27 #[.pointer (some ⟨D,0,none⟩)]) (ab:c≠K) (bQ:Blk w M 188 #[.int .u32 q]) (ac:c≠M):
  Calls prog 189 #[.int .i64 kind,.string s,.pointer (some ⟨c,0,none⟩),.pointer (some ⟨K,0,none⟩),.pointer (some ⟨M,0,none⟩)] w fun e V=>
   e=.returned (.int .i64 (x.put (a+1) kind (aD q) s).1)/\∃A,DevAt V D A (x.put (a+1) kind (aD q) s).2/\Grow w (c::B) V (c::A)/\Blk V c 3 #[.int .i64 (a+1)]/\c∉A:=by
 have hw:IntKind.i64.wrap (a+1)=a+1:=by rw[kW];omega
 have cA:=J.cells;have fA:=J.free;have lA:=J.lt;obtain⟨cD,lD⟩:=Y.zc;obtain⟨cQ,lQ⟩:=bQ.zc;have hd:DevAt (w.setCell ⟨c,0,none⟩ (.int .i64 (a+1))) D B x:=h.mG T U _;have hp:=z2Z D B x (a+1) kind ((q+1) % 4294967296) s hs (by omega) _ hd
 have I:Blk (w.setCell ⟨c,0,none⟩ (.int .i64 (a+1))) c 3 #[.int .i64 (a+1)]:=J.mG 0 _;have k1:KeepEx w.heap.size [c] w (w.setCell ⟨c,0,none⟩ (.int .i64 (a+1))):=KeepEx.setCell _ (.inl (by simp)) _
 unfold aD;go_enter func189,ntmps189
 go_wp2_with fail
 refine hp.mono ?_;rintro e w1 ⟨rfl,A,S,O⟩;go_wp2_with fail
 go_ret
 exact⟨rfl,A,S,Grow.box k1 O,O.blk I T,O.og T I.lt⟩
theorem fm {B:List Nat}{a g:Nat}(c:g≠a)(A:g∉B):g∉a::B:=by simp;exact⟨c,A⟩
theorem zcx (D I O S U V:Nat)(a q:Int)(ha:0<=a/\a<=1000000)(hq:0<=q/\q<4294967296)(A:Option Addr)(n c:Nat)(hn:n<=1000)(B:List Nat)(x:DevS)(w:World)(h:DevAt w D B x)
  (bA:Blk w I 3 #[.int .i64 a]) (nA:I∉B) (a6:I≠0) (bD:Blk w O 27 #[.pointer (some ⟨D,0,none⟩)]) (a7:I≠O) (bQ:Blk w S 188 #[.int .u32 q]) (a8:I≠S)
  (bF:Blk w U 268 #[.func (.func 189) #[] #[.pointer (some ⟨I,0,none⟩),.pointer (some ⟨O,0,none⟩),.pointer (some ⟨S,0,none⟩)]]) (nF:U∉I::B) (bR:Blk w V 48 #[.slice A n c]) (nR:V∉I::B):
  Calls prog 191 #[.pointer (some ⟨U,0,none⟩),.pointer (some ⟨V,0,none⟩)] w fun e w'=>
   e=.returned (.int .i64 (x.put (a+1) 3 (aD q) (aH n)).1)/\∃B',DevAt w' D B' (x.put (a+1) 3 (aD q) (aH n)).2/\Grow w (I::B) w' (I::B'):=by
 have cF:=bF.cells;have cR:=bR.cells;have lF:=bF.lt;have lR:=bR.lt;have ab:w.cell? ⟨U,0,none⟩=some (.func (.func 189) #[] #[.pointer (some ⟨I,0,none⟩),.pointer (some ⟨O,0,none⟩),.pointer (some ⟨S,0,none⟩)])/\w.cell? ⟨V,0,none⟩=some (.slice A n c):=⟨by rw[cF];rfl,by rw[cR];rfl⟩
 have an:=iJ n w.drew;go_enter func191,ntmps191
 go_wp2_with fail
 refine zrm [.take 0,.take 1,.take 2,.one 3,.one 4,.one 5] 6 (fun w'=>w'.cell? ⟨U,0,none⟩=some (.func (.func 189) #[] #[.pointer (some ⟨I,0,none⟩),.pointer (some ⟨O,0,none⟩),.pointer (some ⟨S,0,none⟩)])/\w'.cell? ⟨V,0,none⟩=some (.slice A n c)) ab ?_
 simp only[kR,kS,Ms.fill,kT,kV];iterate 3 refine ztk ?_
 refine ah (by rfl) fun K M=>?_
 go_simp;refine an.mono ?_;rintro e w1 ⟨rfl,J⟩;have T:=bF.drew.mD J;have Y:=bR.drew.mD J;have ao:=bA.drew.mD J;have av:=bD.drew.mD J;have a1:=bQ.drew.mD J;have h1:=h.drew.below J;have g1:Grow w (I::B) w1 (I::B):=Grow.of_below ((kF w.heap.size w).drew.trans J) _;refine M _ _ (fun _=>⟨by rw[T.cells];rfl,by rw[Y.cells];rfl⟩) ?_
 clear M K an cF cR lF lR ab;refine ah (by rfl) fun K M=>?_
 have cF:=T.cells;go_simp;refine(zb3 D I O S a 3 q ha hq (aH n) (by show (strOfNums _).size<=_;rw[strOfNums_size];simp[maxLen]) B x w1 h1 ao nA a6 av a7 a1 a8).mono ?_
 rintro e w2 ⟨rfl,B',h2,g2,-,-⟩;have aL:=g2.blk T nF;have a2:=g2.blk Y nR;have ac:w2.cell? ⟨U,0,none⟩=some (.func (.func 189) #[] #[.pointer (some ⟨I,0,none⟩),.pointer (some ⟨O,0,none⟩),.pointer (some ⟨S,0,none⟩)])/\w2.cell? ⟨V,0,none⟩=some (.slice A n c):=⟨by rw[aL.cells];rfl,by rw[a2.cells];rfl⟩
 refine M _ _ (fun _=>ac) ?_
 clear M K cF;refine ah (by rfl) fun K M=>?_
 go_simp;refine M _ _ (fun _=>ac) ?_
 clear M K;refine ax ?_;go_wp2_with fail
 go_ret
 exact⟨rfl,B',h2,g1.trans g2⟩
end Go.Proofs.YtejmknghkbobnaaGreatDoor
