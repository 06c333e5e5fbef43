import Derived.Test.YtejmknghkbobnaaGreatDoorPart22
set_option linter.all false
set_option maxRecDepth 100000
set_option maxHeartbeats 0
namespace Go.Proofs.YtejmknghkbobnaaGreatDoor
open Go.Proofs.Tryz
open Go.RowKit
theorem z4S (us:List Bool)(near k:Nat):(aM us near k).length=(List.range k).countP fun i=>us[(near+i) % us.length]?==some false:=by
 unfold aM;rw[lZ,List.countP_eq_length_filter]
theorem iB (us:List Bool)(a m:Nat)(h:a+m<=us.length):((List.range m).countP fun i=>us[a+i]?==some false)=fU ((us.drop a).take m):=by
 induction m with
 | zero=>simp[fU]
 | succ m ih=>
  rw[List.range_succ,List.countP_append,ih (by omega)]
  have A:m<(us.drop a).length:=by simp;omega
  unfold fU;rw[kZ A,List.countP_append];congr 1
  have c:us[a+m]?=some (us.drop a)[m]:=by rw[List.getElem_drop,kQ (by omega)]
  simp only[List.countP_cons,List.countP_nil,c];cases (us.drop a)[m]<;>simp
theorem z3T {us:List Bool}{near:Nat}(h:near<us.length):(ew us near).length=fU us:=by
 unfold ew;rw[z4S];have c:List.range us.length=List.range (us.length - near)++(List.range near).map (us.length - near+·):=by
  rw[<-List.range_add];congr 1;omega
 rw[c,List.countP_append,List.countP_map];have D:((List.range (us.length - near)).countP fun i=>us[(near+i) % us.length]?==some false)=fU ((us.drop near).take (us.length - near)):=by
  rw[<-iB us near (us.length - near) (by omega)]
  apply List.countP_congr
  intro i A;simp only[List.mem_range]at A;rw[lY (by omega)]
 have I:((List.range near).countP ((fun i=>us[(near+i) % us.length]?==some false)∘(us.length - near+·)))=fU ((us.drop 0).take near):=by
  rw[<-iB us 0 near (by omega)]
  apply List.countP_congr
  intro i A;simp only[List.mem_range]at A;have:(near+(us.length - near+i)) % us.length=0+i:=by
   rw[show near+(us.length - near+i)=i+us.length from by omega,Nat.add_mod_right,lY (by omega)];omega
  simp only[Function.comp,this]
 rw[D,I];unfold fU;have:us.countP (!·)=(us.take near++us.drop near).countP (!·):=by rw[List.take_append_drop]
 rw[this,List.countP_append,List.drop_zero,mj (by simp)]
 omega
theorem Tryz.info5:(prog.info? 5).map (fun i=>(i.zero,i.size,i.bytes))=some (some (.int .u8 0),1,1):=by kernel_rfl
theorem z9T:∀x:Fin 256,∀m:Fin 8,gk (x.val:Int) m.val=false->(x.val:Int)+2 ^ m.val % 256<=255/\orv (x.val:Int) m.val=(x.val:Int)+2 ^ m.val % 256:=by decide +kernel
theorem zbe {x:Int}(h:0<=x/\x<256){m:Nat}(A:m<8)(c:gk x m=false):x+2 ^ m % 256<=255/\orv x m=x+2 ^ m % 256:=by
 obtain⟨y,rfl⟩:=z5S h;exact z9T y ⟨m,A⟩ c
theorem z6J (s j i:Int)(A:Option Addr)(c:Nat)(us:List Bool)(bn:us.length<=1000)(w:World)(hR:Reads w A (us.map .bool))(hE:CkE s j i us.length=0):
  Calls prog 46 #[.agg #[.int .i64 s,.int .i64 j,.int .i64 i,.slice A us.length c]] w (z2j s j i us w):=by
 have a8:=(z2u hE).2.2;have bb:(CkE s j i us.length != 0)=false:=by simpa using hE
 have HE:=kD hE;clear hE;obtain⟨i0,hi,ac,an,ao⟩:=info_parts Tryz.info5;have a6:∀w:World,(Instr.makeSlice 113 (.int .i64 96) (.int .i64 96)).run prog w=.ok (.slice (some ⟨w.heap.size,0,none⟩) 96 96) (w.alloc (.cells (fill (.int .u8 0) 96) 5)):=by
  intro w;have:=run_make (P:=prog) w 113 5 i0 (.int .u8 0) underlying113 hi ac .i64 .i64 96 96 (by omega) (Int.le_refl _) (by rw[ao];omega) (by omega)
  rw[this,an];simp[fill,Value.cells]
 clear hi ac an ao;go_enter func46,ntmps46
 go_wp2_with fail
 refine(eK s j i A us.length c _ (by unfold maxLen;omega)).mono ?_
 rintro e K ⟨rfl,I⟩;have bS:Blk K w.heap.size 47 #[.int .i64 s,.int .i64 j,.int .i64 i,.slice A us.length c]:=Blk.mD zbn I
 replace I:Zr w K:=dq I
 obtain⟨cS,a1⟩:=bS.zc;go_wp2_with fail
 obtain⟨T,D⟩:=zex (K.alloc (.cells (fill (.int .u8 0) 96) 5));rw[<-D];have O:Blk T K.heap.size 5 (fill (.int .u8 0) 96):=by rw[D];exact zbn
 have av:Blk T w.heap.size 47 #[.int .i64 s,.int .i64 j,.int .i64 i,.slice A us.length c]:=by rw[D];exact bS.alloc _
 have U:Zr w T:=by rw[D];exact I.alloc I.size _
 have bk:T.heap.size=K.heap.size+1:=by rw[D];simp
 clear D bS cS I a6;go_loopw [6] (fun q wr=>∃k:Nat,k<=us.length/\q=.int .i64 k/\Blk wr K.heap.size 5 (ag (dZ us k))/\Below K.heap.size T wr) (fun q _=>us.length - (intOf q).toNat)
 case atStart=>exact⟨0,kP _,rfl,by rw[show dZ us 0=List.replicate 96 0 from rfl,fZ];exact O,kF _ _⟩
 case round=>
  obtain⟨k,hk,rfl,O,J⟩:=hrel;have fO:=O.free;have aL:=av.below J a1;have cS:=aL.cells;by_cases S:k<us.length
  ·obtain⟨b,off,rfl,hb,hc⟩:=(hR.below (U.trans (J.mono (by omega)))).at_ (k:=k) (by simpa using S)
   rw[lf]at hc;have a2:k / 8<96:=by omega
   have V:wr.cell? ⟨K.heap.size,k / 8,none⟩=some (.int .u8 ((dZ us k).getD (k / 8) 0)):=by rw[O.cells];exact bv (by rw[ei];exact a2)
   cases hu:us[k]<;>rw[hu]at hc
   ·have hs:=kD (z0Z (us:=us) (k:=k) (by rw[kQ S,hu]))
    clear hu V;go_wp2
    go_roundw
    case rel=>exact⟨k+1,by omega,by go_num,by rw[hs.out];exact O,J⟩
    case measure=>simp[intOf];omega
   ·have hs:=kD (z2B (us:=us) (k:=k) (by rw[kQ S,hu]))
    have Y:=aZ (kn us k) (k / 8);have M:gk ((dZ us k).getD (k / 8) 0) (k % 8)=false:=by
     have:=ke (us:=us) (by omega) (k:=k) (by omega) k
     simpa[gx]using this
    obtain⟨a7,ab⟩:=zbe Y (Nat.mod_lt k (by omega:0<8)) M
    clear hu M;have HX:=kD ab;clear ab;generalize hx:(dZ us k).getD (k / 8) 0=x at V hs Y a7 HX;clear hx;have bc:0<=(2:Int) ^ (k % 8) % 256:=Int.emod_nonneg _ (by omega)
    go_wp2
    go_region
    all_goals go_wp2
    go_roundw
    case rel=>exact⟨k+1,by omega,by go_num,by rw[hs.out,HX.out,<-dl];exact(O.mG _ _).drew,(J.setCell (p:=⟨K.heap.size,k / 8,none⟩) (kE _) _).drew⟩
    case measure=>simp[intOf];omega
  ·obtain rfl:k=us.length:=by omega
   have ba:Zr w wr:=U.trans (J.mono (by omega))
   go_wp2
   go_ret2
   exact⟨zgr,.inr ⟨HE.out,K.heap.size,rfl,by omega,el O⟩⟩
theorem z10 (s j i:Int)(A:Option Addr)(c:Nat)(us:List Bool)(J:us.length<=1000)(w:World)(O:Reads w A (us.map .bool)):
  Calls prog 46 #[.agg #[.int .i64 s,.int .i64 j,.int .i64 i,.slice A us.length c]] w (z2j s j i us w):=by
 by_cases I:CkE s j i us.length=0
 ·exact z6J s j i A c us J w O I
 ·have M:(CkE s j i us.length != 0)=true:=by simpa using I
  have K:=kD I;clear I;go_enter func46,ntmps46
  go_wp2_with fail
  refine(eK s j i A us.length c _ (by unfold maxLen;omega)).mono ?_
  rintro e S ⟨rfl,D⟩;replace D:Zr w S:=dq D
  go_wp2_with fail
  go_ret2
  exact⟨D,.inl ⟨K.out,rfl⟩⟩
theorem z9Y:∀x:Fin 256,∀m:Fin 8,gk (x.val:Int) m.val=(((x.val:Int) / 2 ^ m.val).tmod 2==1):=by decide +kernel
theorem zbi {x:Int}(h:0<=x/\x<256){m:Nat}(c:m<8):gk x m=((x / 2 ^ m).tmod 2==1):=by
 obtain⟨y,rfl⟩:=z5S h;exact z9Y y ⟨m,c⟩
def DecFail (s j i:Int)(xs:List Int)(E:Int):Prop:=
 E≠0/\((rgE s j i≠0/\E=rgE s j i)\/(rgE s j i=0/\xs.length≠96/\E=3)\/(rgE s j i=0/\xs.length=96/\¬eS xs (rgB s j i).toNat 768/\E=6))
def z0v (s j i:Int)(xs:List Int)(B B0 k:Nat)(wr:World):Prop:=
 rgE s j i=0/\xs.length=96/\eS xs (rgB s j i).toNat k/\∃g,B0<=g/\g≠B/\Blk wr g 4 (fy (fJ xs (rgB s j i).toNat k))/\Blk wr B 47 #[.int .i64 s,.int .i64 j,.int .i64 i,.slice (some ⟨g,0,none⟩) (rgB s j i).toNat (rgB s j i).toNat]
theorem DecFail.post {s j i:Int}{xs:List Int}{E:Int}{w w':World}(h:DecFail s j i xs E)(D:Zr w w'):
  z0J s j i xs w (.returned (.tuple #[.agg #[.int .i64 0,.int .i64 0,.int .i64 0,.slice none 0 0],.int .i64 E])) w':=by
 rcases h.2 with ⟨c,rfl⟩|⟨c,A,rfl⟩|⟨c,A,I,rfl⟩
 ·exact⟨D,.inl ⟨c,rfl⟩⟩
 ·exact⟨D,.inr (.inl ⟨c,A,rfl⟩)⟩
 ·exact⟨D,.inr (.inr (.inl ⟨c,A,I,rfl⟩))⟩
theorem z4O (s j i:Int)(A:Option Addr)(c:Nat)(xs:List Int)(bC:xs.length<=1000)(bt:bj xs)(w:World)(hR:Reads w A (xs.map (.int .u8))):
  Calls prog 140 #[.agg #[.int .i64 s,.int .i64 j,.int .i64 i],.slice A xs.length c] w (z0J s j i xs w):=by
 go_enter func140,ntmps140
 go_wp2_with fail
 refine(z5Y s j i _).mono ?_;rintro e O ⟨K,⟨J,rfl⟩|⟨J,g,rfl,hg,an⟩⟩;focus
  have br:(rgE s j i==0)=false:=by simpa using J
  have ST:Hid (∀wr:World,∀B B0:Nat,DecFail s j i xs (rgE s j i)\/(rgE s j i=0/\z0v s j i xs B B0 0 wr)):=kD (fun _ _ _=>.inl ⟨J,.inl ⟨J,rfl⟩⟩)
  have HE:=kD J;clear J;have I:Blk O (w.heap.size+1) 47 #[.int .i64 0,.int .i64 0,.int .i64 0,.slice none 0 0]:=Blk.mD zbn K
  have Y:Zr w O:=eE K;clear K;have lR:=I.lt;go_wp2_with fail
  have a8:=I.alloc (.cells #[.int .i64 0,.int .i64 0,.int .i64 0,.slice none 0 0] 47);have B2:=Y.alloc Y.size (.cells #[.int .i64 0,.int .i64 0,.int .i64 0,.slice none 0 0] 47);have ao:=kD (ST.out (O.alloc (.cells #[.int .i64 0,.int .i64 0,.int .i64 0,.slice none 0 0] 47)) O.heap.size (w.heap.size+2));clear ST I Y
 rotate_left;focus
  have I:Blk O (w.heap.size+1) 47 #[.int .i64 0,.int .i64 0,.int .i64 0,.slice none 0 0]:=Blk.mD zbn K
  have V:Blk O g 4 (fill (.bool false) (rgB s j i).toNat):=an;have Y:Zr w O:=eE K;clear K an;have lR:=I.lt;have aL:w.heap.size+2<=g:=by simpa using hg
  have bk:g<O.heap.size:=V.lt;have br:(rgE s j i==0)=true:=by simpa using J
  have a8:=I.alloc (.cells #[.int .i64 s,.int .i64 j,.int .i64 i,.slice (some ⟨g,0,none⟩) (rgB s j i).toNat (rgB s j i).toNat] 47);have B2:=Y.alloc Y.size (.cells #[.int .i64 s,.int .i64 j,.int .i64 i,.slice (some ⟨g,0,none⟩) (rgB s j i).toNat (rgB s j i).toNat] 47);by_cases av:xs.length=96
  focus
   have hn:((xs.length:Int) != 96)=false:=by rw[av];rfl
   have ao:Hid (DecFail s j i xs 0\/(0=(0:Int)/\z0v s j i xs O.heap.size (w.heap.size+2) 0 (O.alloc (.cells #[.int .i64 s,.int .i64 j,.int .i64 i,.slice (some ⟨g,0,none⟩) (rgB s j i).toNat (rgB s j i).toNat] 47)))):=
    kD (.inr ⟨rfl,J,av,fun b _ h=>absurd h (by omega),g,aL,by omega,by rw[show fJ xs (rgB s j i).toNat 0=List.replicate _ false from rfl,iM];exact V.alloc _,Blk.new _ _ _⟩)
   have HE:=kD J;clear J V aL hg bk I Y;go_wp2_with fail
  rotate_left;focus
   have hn:((xs.length:Int) != 96)=true:=by simp;omega
   have ao:Hid (DecFail s j i xs 3\/(3=(0:Int)/\z0v s j i xs O.heap.size (w.heap.size+2) 0 (O.alloc (.cells #[.int .i64 s,.int .i64 j,.int .i64 i,.slice (some ⟨g,0,none⟩) (rgB s j i).toNat (rgB s j i).toNat] 47)))):=
    kD (.inl ⟨by decide,.inr (.inl ⟨J,av,rfl⟩)⟩)
   have HE:=kD J;clear J V aL hg bk I Y;go_wp2_with fail
  rotate_left
 all_goals
  go_loopw [7,8,9] (fun v q _ wr=>∃(k:Nat) (E:Int),k<=768/\v=.int .i64 E/\q=.int .i64 k/\(DecFail s j i xs E\/(E=0/\z0v s j i xs O.heap.size (w.heap.size+2) k wr))/\Blk wr (w.heap.size+1) 47 #[.int .i64 0,.int .i64 0,.int .i64 0,.slice none 0 0]/\Zr w wr) (fun _ q _ _=>768 - (intOf q).toNat)
  case atStart=>exact⟨0,_,kP _,rfl,rfl,(by simpa using ao.out),a8,B2⟩
  case round=>
   obtain⟨k,E,hk,rfl,rfl,hD,I,a6⟩:=hrel;have cR:=I.cells;have fR:=I.free;have lR:=I.lt;rcases hD with hD|⟨rfl,a7,D,a2,g2,bc,ac,bQ,bW⟩
   ·have bA:(E==0)=false:=by simpa using hD.1
    have bw:(E != 0)=true:=by simpa using hD.1
    have HD:=kD hD;clear hD;by_cases bn:k<768
    all_goals
     go_wp2_with fail
     refine bodyPost_ret (v:=.tuple #[.agg #[.int .i64 0,.int .i64 0,.int .i64 0,.slice none 0 0],.int .i64 E]) (by simp[results,results140,go_sem,cR,lR]) rfl ?_
     exact HD.out.post (zgr)
   ·first
    | exact absurd D (by assumption)
    | exact absurd a7 HE.out
    | (
      skip
      unfold z0J;generalize ba:(rgB s j i).toNat=n at *;have T:=kD ba;clear ba;have U:=kD a7;clear a7;have fQ:=bQ.free;have cW:=bW.cells;have fW:=bW.free;have lW:=bW.lt;have lQ:=bQ.lt;by_cases bn:k<768
      ·have a1:k / 8<xs.length:=by omega
       obtain⟨b,off,rfl,hb,hc⟩:=(hR.below a6).at_ (k:=k / 8) (by simpa using a1)
       rw[lf]at hc;have bD:0<=(k:Int) / 8/\(k:Int) / 8<96:=by omega
       have ab:gx xs k=gk xs[k / 8] (k % 8):=by unfold gx;simp[a1]
       have HB:=kD ab;clear ab;have bp:=bt _ (li a1);generalize xs[k / 8]=x at hc HB bp;have M:=zbi bp (Nat.mod_lt k (by omega:0<8))
       by_cases S:k<n
       ·have hd:=decide_eq_true S;have bB:wr.cell? ⟨g2,k,none⟩=some (.bool ((fJ xs n k).getD k false)):=by rw[bQ.cells];exact kg (by rw[dc];exact S)
        have hs:=kD (z4N (xs:=xs) S);have bq:=kD M;clear M;go_wp2_with fail
        go_roundw
        case rel=>exact⟨k+1,0,by omega,rfl,by go_num,.inr ⟨rfl,U.out,D,fun b h1 h2=>by rw[T.out]at h1;exact a2 b h1 (by omega),g2,bc,ac,by rw[T.out,hs.out,HB.out,bq.out,<-kh];exact bQ.mG _ _,by rw[T.out];exact bW.far (by simp;omega) _⟩,I.far (by simp;omega) _,zgr⟩
        case measure=>simp[intOf];omega
       ·have hd:=decide_eq_false S;have hs:=kD (z2y (xs:=xs) S);cases hbt:gk x (k % 8)
        ·have bb:((x / 2 ^ (k % 8)).tmod 2==1)=false:=by rw[<-M];exact hbt
         have HT:=kD hbt;clear hbt M;go_wp2_with fail
         go_roundw
         case rel=>exact⟨k+1,0,by omega,rfl,by go_num,.inr ⟨rfl,U.out,D,fun b h1 h2=>by
          rw[T.out]at h1;by_cases hbk:b=k
          ·subst hbk;rw[HB.out,HT.out]
          ·exact a2 b h1 (by omega),g2,bc,ac,by rw[T.out,hs.out];exact bQ,by rw[T.out];exact bW⟩,I,a6⟩
         case measure=>simp[intOf];omega
        ·have bb:((x / 2 ^ (k % 8)).tmod 2==1)=true:=by rw[<-M];exact hbt
         have HT:=kD hbt;clear hbt M;go_wp2_with fail
         go_roundw
         case rel=>exact⟨k+1,6,by omega,rfl,by go_num,.inl ⟨by decide,.inr (.inr ⟨U.out,D,fun h=>(by rw[T.out]at h;have:=h k (by omega) bn;rw[HB.out,HT.out]at this;cases this),rfl⟩)⟩,I,a6⟩
         case measure=>simp[intOf];omega
      ·obtain rfl:k=768:=by omega
       go_wp2_with fail
       refine bodyPost_ret (v:=.tuple #[.agg #[.int .i64 s,.int .i64 j,.int .i64 i,.slice (some ⟨g2,0,none⟩) n n],.int .i64 0]) (by simp[results,results140,go_sem,cR,lR]) rfl ?_
       have bu:eS xs (rgB s j i).toNat 768:=by rw[T.out];exact a2
       refine⟨zgr,.inr (.inr (.inr ⟨U.out,D,bu,g2,by rw[T.out],by omega,?_⟩))⟩
       rw[T.out];exact z1k (t:=4) (by (repeat' (first|(with_reducible exact bQ)|refine Blk.far ?_ (by simp;omega) _))))
open Go.Maps
theorem au {D:Func}{m n R:Nat}{ty t:TypeId}{tmps:Array Value}{w:World}{cs:Array Value}{I:Nat × Nat}{e:Int}{J:_}(T:D.results=#[.cell m ty,.tmp n])(O:tmps.getD m undef=.pointer (some ⟨R,0,none⟩))(S:tmps.getD n undef=.int .i64 e)
  (M:w.heap[R]?=some (.cells cs t I)) (U:prog.underlying ty=some (.struct J)) (hi:(prog.info? ty).map (·.size)=some cs.size):
  (results D tmps).run prog w=.ok (.tuple #[.agg cs,.int .i64 e]) w:=by
 have h:=run_loadVar_row (P:=prog) w R t ty cs I _ M U rfl hi;have K:(asAddr (.pointer (some ⟨R,0,none⟩))).run prog w=.ok ⟨R,0,none⟩ w:=rfl;have c:tmps[m]?.getD undef=.pointer (some ⟨R,0,none⟩):=by simpa using O
 have A:tmps[n]?.getD undef=.int .i64 e:=by simpa using S
 simp[results,T,c,A,K,h]
theorem ct {P:Program}{I:Array Oper}{rest:List Oper}{o:Oper}{a:Act}{w:World}{Q:Exit->Act->World->Prop}(K:o.guard=none)(t:TypeId)(c:Array (Nat × Operand))(M:o.op=.build t c)(A:Array Value)
  (J:P.built t (c.toList.map fun p=>(p.1,a.eval p.2))=some A) (h:wpList P I Q rest (a.put o.dst (.agg A)) w):wpList P I Q (o::rest) a w:=by
 have D:P.built t (c.map fun (i,x)=>(i,a.eval x)).toList=some A:=by rw[Array.toList_map];exact J
 refine wpList_build K t c M (by rw[D];rfl) ?_
 rw[D];exact h
def txR (D0:Option Addr)(n c:Nat)(C0:Option Addr)(nc cc:Nat)(tk pw:Int)(off:Bool)(s j i r1 r2 r3 r4 r5:Int)(A:Option Addr)(na ca:Nat)(B:Option Addr)(nb cb:Nat)(W0:Option Addr)(nw cw:Nat)(ch br en:Bool):Array Value:=
 #[.slice D0 n c,.slice C0 nc cc,.int .i64 tk,.int .i64 pw,.bool off,.int .i64 s,.int .i64 j,.int .i64 i,.int .i64 r1,.int .i64 r2,.int .i64 r3,.int .i64 r4,.int .i64 r5,.int .i64 s,.int .i64 j,.int .i64 i,.slice A na ca,.int .i64 s,.int .i64 j,.int .i64 i,.slice B nb cb,.slice W0 nw cw,.bool ch,.bool br,.bool en]
def txZ:Array Value:=txR none 0 0 none 0 0 0 0 false 0 0 0 0 0 0 0 0 none 0 0 none 0 0 none 0 0 false false false
theorem Tryz.qE (J:Option Addr)(n c:Nat)(C0:Option Addr)(nc K:Nat)(Y M:Int)(off:Bool)(s j i O S T U V:Int)(A:Option Addr)(I D:Nat):
 prog.built 50 [(0,.agg #[.slice J n c,.slice C0 nc K,.int .i64 Y,.int .i64 M,.bool off]),(1,.agg #[.int .i64 s,.int .i64 j,.int .i64 i]),(2,.agg #[.int .i64 O,.int .i64 S,.int .i64 T,.int .i64 U,.int .i64 V]),(3,.agg #[.int .i64 s,.int .i64 j,.int .i64 i,.slice A I D]),(4,.agg #[.int .i64 s,.int .i64 j,.int .i64 i,.slice A I D])]=some (txR J n c C0 nc K Y M off s j i O S T U V A I D A I D none 0 0 false false false):=by kernel_rfl
theorem Tryz.oG:prog.built 50 []=some txZ:=by kernel_rfl
def z2l (w:World)(D0:Option Addr)(c:Nat)(C0:Option Addr)(nc cc:Nat)(s j i:Int)(x:DevS)(e:Ending)(w':World):Prop:=
 Zr w w'/\∃E,x.oH s j i E/\((E≠0/\e=.returned (.tuple #[.agg txZ,.int .i64 E])) \/
  (E=0/\∃g,w.heap.size<=g/\e=.returned (.tuple #[.agg (txR D0 x.stable.length c C0 nc cc x.taken x.power x.off s j i 1 (1+j) (2+j) (2+j+i) (s - (2+j+i)) (some ⟨g,0,none⟩) (rgB s j i).toNat (rgB s j i).toNat (some ⟨g,0,none⟩) (rgB s j i).toNat (rgB s j i).toNat none 0 0 false false false),.int .i64 0]) /\
   Reads w' (some ⟨g,0,none⟩) ((fJ (cf (x.fr (1+j)).data) (rgB s j i).toNat 768).map .bool)))
theorem z7i (S c:Nat)(C0:Option Addr)(nc cc:Nat)(s j i:Int)(x:DevS)(hlo:64<=x.stable.length)(bZ:(x.fr (1+j)).data.size<=1000)(w:World)
  (U:bi x.stable.length s j i=0->∀W,Zr w W->Calls prog 132 #[.agg (ap (.slice (some ⟨S,0,none⟩) x.stable.length c) (.slice C0 nc cc) x.taken x.power x.off),.int .i64 (1+j)] W fun e w'=>Zr W w'/\e=.returned (.tuple #[.agg #[.int .i64 (x.fr (1+j)).kind,.int .u32 (x.fr (1+j)).seq,.string (x.fr (1+j)).data],.int .i64 (x.ge (1+j))])):
  Calls prog 61 #[.agg (ap (.slice (some ⟨S,0,none⟩) x.stable.length c) (.slice C0 nc cc) x.taken x.power x.off),.agg #[.int .i64 s,.int .i64 j,.int .i64 i]] w (z2l w (some ⟨S,0,none⟩) c C0 nc cc s j i x):=by
 have hf:=fun W=>z4a (.slice C0 nc cc) S x.stable.length c x.taken x.power s j i x.off W
 have bp:bi x.stable.length s j i=fitE x.stable.length s j i:=by
  unfold bi fitE;by_cases h1:rgE s j i=0
  ·rw[if_neg (by simpa using h1),if_neg (by omega)]
   by_cases h2:(x.stable.length:Int)=s
   ·rw[if_neg (by simpa using h2),if_neg (by simp[h2]),h1]
   ·rw[if_pos h2,if_pos ⟨h1,h2⟩]
  ·rw[if_pos h1,if_neg (by simp[h1])]
 obtain⟨w0,K⟩:=zex (((w.alloc (.cells (ap (.slice (some ⟨S,0,none⟩) x.stable.length c) (.slice C0 nc cc) x.taken x.power x.off) 34)).alloc (.cells #[.int .i64 s,.int .i64 j,.int .i64 i] 23)).alloc (.cells txZ 50));have bD:Blk w0 w.heap.size 34 (ap (.slice (some ⟨S,0,none⟩) x.stable.length c) (.slice C0 nc cc) x.taken x.power x.off):=by rw[K];exact zbn
 have bL:Blk w0 (w.heap.size+1) 23 #[.int .i64 s,.int .i64 j,.int .i64 i]:=by rw[K];exact zbn
 have bT:Blk w0 (w.heap.size+1+1) 50 txZ:=by rw[K];exact zbn
 have B0:Zr w w0:=by rw[K];exact zgr
 unfold ap at *;unfold txZ txR at K;by_cases hE:fitE x.stable.length s j i=0
 rotate_left
 ·have HB:Hid (x.oH s j i (fitE x.stable.length s j i)):=kD (.inl ⟨by rw[bp];exact hE,bp.symm⟩)
  have HN:=kD hE;unfold z2l;clear U bp bZ;go_enter func61,ntmps61
  go_upto_region 1 with fail
  rw[<-K];clear K;have cD:=bD.cells;have cL:=bL.cells;have lD:=bD.lt;have lL:=bL.lt;go_wp2_with fail
  refine(hf w0).mono ?_;rintro e w1 ⟨T,rfl⟩;have bu:=bT.mD T;have B1:=B0.trans (T.mono B0.size);obtain⟨a1,a2,a3,a4,a5,hv⟩:∃a1 a2 a3 a4 a5:Int,rgV s j i=.agg #[.int .i64 a1,.int .i64 a2,.int .i64 a3,.int .i64 a4,.int .i64 a5]:=⟨_,_,_,_,_,rfl⟩;rw[hv];clear hv hf;generalize fitE x.stable.length s j i=E at *;have hd:(E != 0)=true:=by simpa using hE
  clear hE;have ab:=bu.alloc (.cells #[.int .i64 a1,.int .i64 a2,.int .i64 a3,.int .i64 a4,.int .i64 a5] 44);have A:=aT (ty:=50) (vs:=txZ) ab rfl (by simp[txZ,txR,Value.oneCell']) (by kernel_rfl)
  have a6:=ab.setRow (cs':=txZ);obtain⟨W3,bU⟩:=zex (World.setRow (w1.alloc (.cells #[.int .i64 a1,.int .i64 a2,.int .i64 a3,.int .i64 a4,.int .i64 a5] 44)) (w.heap.size+1+1) txZ);have B3:Zr w W3:=by rw[bU];exact Below.setRow (B1.alloc B1.size _) (by omega) _
  rw[<-bU]at A a6;clear bU ab;go_wp2_with (first|(refine ct rfl 50 _ rfl txZ Tryz.oG ?_)|(refine zsb A ?_))
  refine bodyPost_ret (au (cs:=txZ) rfl rfl rfl a6 underlying50 rfl) rfl ?_;exact⟨B3,E,HB.out,.inl ⟨HN.out,rfl⟩⟩
 have bw:bi x.stable.length s j i=0:=bp.trans hE;replace U:=U bw;obtain⟨bX,cP⟩:=iQ bw;obtain⟨r1,r2,r3,r4,r5⟩:=ir bX;have hv:rgV s j i=.agg #[.int .i64 1,.int .i64 (1+j),.int .i64 (2+j),.int .i64 (2+j+i),.int .i64 (s - (2+j+i))]:=by unfold rgV;rw[r1,r2,r3,r4,r5]
 rw[hv,hE]at hf;have HE:=kD bw;have co:=kD bX;clear hE bw bp hv r1 r2 r3 r4 r5 bX cP;unfold z2l;go_enter func61,ntmps61
 go_upto_region 1 with fail
 rw[<-K];clear K;have cD:=bD.cells;have cL:=bL.cells;have lD:=bD.lt;have lL:=bL.lt;go_wp2_with fail
 refine(hf w0).mono ?_;rintro e w1 ⟨T,rfl⟩;have bu:=bT.mD T;have bG:=bD.mD T;have b6:=bL.mD T;have B1:=B0.trans (T.mono B0.size);clear hf T cD cL lD lL bD bL bT B0;obtain⟨RB,bR⟩:=zex w1.heap.size;obtain⟨w2,bC⟩:=zex (w1.alloc (.cells #[.int .i64 1,.int .i64 (1+j),.int .i64 (2+j),.int .i64 (2+j+i),.int .i64 (s - (2+j+i))] 44));have b8:Blk w2 RB 44 #[.int .i64 1,.int .i64 (1+j),.int .i64 (2+j),.int .i64 (2+j+i),.int .i64 (s - (2+j+i))]:=by rw[bC,bR];exact zbn
 have ab:=bu.alloc (.cells #[.int .i64 1,.int .i64 (1+j),.int .i64 (2+j),.int .i64 (2+j+i),.int .i64 (s - (2+j+i))] 44);have bJ:=bG.alloc (.cells #[.int .i64 1,.int .i64 (1+j),.int .i64 (2+j),.int .i64 (2+j+i),.int .i64 (s - (2+j+i))] 44);have bN:=b6.alloc (.cells #[.int .i64 1,.int .i64 (1+j),.int .i64 (2+j),.int .i64 (2+j+i),.int .i64 (s - (2+j+i))] 44);have B2:=B1.alloc B1.size (.cells #[.int .i64 1,.int .i64 (1+j),.int .i64 (2+j),.int .i64 (2+j+i),.int .i64 (s - (2+j+i))] 44);rw[<-bC]at ab bJ bN B2;obtain⟨cD,lD⟩:=bG.zc;go_wp2_with fail
 rw[<-bC,<-bR];clear bC bR bu bG b6 B1;refine(U w2 B2).mono ?_;rintro e w3 ⟨a8,rfl⟩;have a6:=ab.mD a8;have b2:=bJ.mD a8;have bO:=bN.mD a8;have b9:=b8.mD a8;have B3:=B2.trans (a8.mono B2.size);clear U a8 cD lD ab bJ bN b8 B2;have M:Hid (∀E,x.oH s j i E↔(bi x.stable.length s j i≠0/\E=bi x.stable.length s j i) \/
 (bi x.stable.length s j i=0/\x.ge (1+j)≠0/\E=x.ge (1+j)) \/
 (bi x.stable.length s j i=0/\x.ge (1+j)=0/\¬(i9 (x.fr (1+j)).data (rgB s j i).toNat/\(x.fr (1+j)).kind=5)/\E=6) \/
 (bi x.stable.length s j i=0/\x.ge (1+j)=0/\i9 (x.fr (1+j)).data (rgB s j i).toNat/\(x.fr (1+j)).kind=5/\E=0)):=kD fun E=>Iff.rfl
 generalize x.ge (1+j)=GE at *;obtain⟨f,bW⟩:=zex (x.fr (1+j));have cn:=kD bW;rw[<-bW]at bZ M |-;clear bW;obtain⟨fk,fs,fd⟩:=f;simp only at bZ M |-
 obtain⟨w4,Y⟩:=zex (w3.alloc (.cells #[.int .i64 fk,.int .u32 fs,.string fd] 190));obtain⟨FB,bA⟩:=zex w3.heap.size;have bM:Blk w4 FB 190 #[.int .i64 fk,.int .u32 fs,.string fd]:=by rw[Y,bA];exact zbn
 have bk:Blk w4 (w.heap.size+1+1) 50 txZ:=by rw[Y];exact a6.alloc _
 have bK:=b2.alloc (.cells #[.int .i64 fk,.int .u32 fs,.string fd] 190);have bt:=bO.alloc (.cells #[.int .i64 fk,.int .u32 fs,.string fd] 190);have bP:=b9.alloc (.cells #[.int .i64 fk,.int .u32 fs,.string fd] 190);have B4:Zr w w4:=by rw[Y];exact B3.alloc B3.size _
 rw[<-Y]at bK bt bP;by_cases hG:GE=0
 rotate_left
 ·have cT:(GE != 0)=true:=by simpa using hG
  have HN:=kD hG;have A:=aT (ty:=50) (vs:=txZ) bk rfl (by simp[txZ,txR,Value.oneCell']) (by kernel_rfl)
  have a7:=bk.setRow (cs':=txZ);have B5:Zr w (w4.setRow (w.heap.size+1+1) txZ):=Below.setRow B4 (by omega) _
  obtain⟨W5,cl⟩:=zex (w4.setRow (w.heap.size+1+1) txZ);rw[<-cl]at A a7 B5;rw[Y]at A;clear hG cl bk a6 Y bA;go_wp2_with (first|(refine ct rfl 50 _ rfl txZ Tryz.oG ?_)|(refine zsb A ?_))
  refine bodyPost_ret (au (cs:=txZ) rfl rfl rfl a7 underlying50 rfl) rfl ?_;exact⟨B5,GE,(M.out _).2 (.inr (.inl ⟨HE.out,HN.out,rfl⟩)),.inl ⟨HN.out,rfl⟩⟩
 subst hG;obtain⟨cB,cQ⟩:=bO.zc;go_wp2_with fail
 rw[<-Y,<-bA];clear Y bA a6 b2 bO b9 B3 cB cQ;obtain⟨cF,lF⟩:=bM.zc;obtain⟨cL,lL⟩:=bt.zc;obtain⟨w5,ca,cJ,an,ci⟩:=z5P w4 fd;have z4:=B4.size;have bn:=z4O s j i (some ⟨w4.heap.size,0,none⟩) ca (cf fd) (by rw[dg];omega) (d9 fd) w5 ci
 rw[dg]at bn;have a7:=bk.mD an;have b3:=bK.mD an;have b7:=bt.mD an;have b4:=bM.mD an;have cb:=bP.mD an;have B5:=B4.trans (an.mono z4);clear z4;go_simp;go_wp2_with fail
 refine bn.mono ?_;rintro e w6 ⟨ao,cK⟩;have D:=a7.mD ao;have ba:=b3.mD ao;have bb:=b7.mD ao;have b5:=b4.mD ao;have bc:=cb.mD ao;have B6:=B5.trans (ao.mono B5.size);have z5:=B5.size;have zT:=a7.lt;obtain⟨cF,lF⟩:=b5.zc;clear bn ao b4 a7 b3 b7 cb B5 an ci cJ cL lL bM bk bK bt bP B4;rcases cK with ⟨cN,-⟩|⟨-,ac,rfl⟩|⟨-,ac,bq,rfl⟩|⟨-,ac,bq,g,rfl,hg,bB⟩
 ·exact absurd co.out cN
 ·have HX:Hid (¬(i9 fd (rgB s j i).toNat/\fk=5)):=kD fun hh=>ac hh.1.1
  have V:(fk != 5)=true\/(fk != 5)=false:=by cases (fk != 5)<;>simp
  have A:=aT (ty:=50) (vs:=txZ) (D.alloc (.cells #[.int .i64 0,.int .i64 0,.int .i64 0,.slice none 0 0] 47)) rfl (by simp[txZ,txR,Value.oneCell']) (by kernel_rfl)
  have I:=(D.alloc (.cells #[.int .i64 0,.int .i64 0,.int .i64 0,.slice none 0 0] 47)).setRow (cs':=txZ);have B7:=Below.setRow (B6.alloc B6.size (.cells #[.int .i64 0,.int .i64 0,.int .i64 0,.slice none 0 0] 47)) (g:=w.heap.size+1+1) (by omega) txZ
  obtain⟨W7,O⟩:=zex ((w6.alloc (.cells #[.int .i64 0,.int .i64 0,.int .i64 0,.slice none 0 0] 47)).setRow (w.heap.size+1+1) txZ);rw[<-O]at A I B7;clear O D ba bb bc ac;rcases V with V|V <;>
  ·go_wp2_with (first|(refine ct rfl 50 _ rfl txZ Tryz.oG ?_)|(refine zsb A ?_))
   refine bodyPost_ret (au (cs:=txZ) rfl rfl rfl I underlying50 rfl) rfl ?_;exact⟨B7,6,(M.out _).2 (.inr (.inr (.inl ⟨HE.out,by first|trivial|rfl,HX.out,rfl⟩))),.inl ⟨by decide,rfl⟩⟩
 ·have HX:Hid (¬(i9 fd (rgB s j i).toNat/\fk=5)):=kD fun hh=>bq hh.1.2
  have V:(fk != 5)=true\/(fk != 5)=false:=by cases (fk != 5)<;>simp
  have A:=aT (ty:=50) (vs:=txZ) (D.alloc (.cells #[.int .i64 0,.int .i64 0,.int .i64 0,.slice none 0 0] 47)) rfl (by simp[txZ,txR,Value.oneCell']) (by kernel_rfl)
  have I:=(D.alloc (.cells #[.int .i64 0,.int .i64 0,.int .i64 0,.slice none 0 0] 47)).setRow (cs':=txZ);have B7:=Below.setRow (B6.alloc B6.size (.cells #[.int .i64 0,.int .i64 0,.int .i64 0,.slice none 0 0] 47)) (g:=w.heap.size+1+1) (by omega) txZ
  obtain⟨W7,O⟩:=zex ((w6.alloc (.cells #[.int .i64 0,.int .i64 0,.int .i64 0,.slice none 0 0] 47)).setRow (w.heap.size+1+1) txZ);rw[<-O]at A I B7;clear O D ba bb bc ac bq;rcases V with V|V <;>
  ·go_wp2_with (first|(refine ct rfl 50 _ rfl txZ Tryz.oG ?_)|(refine zsb A ?_))
   refine bodyPost_ret (au (cs:=txZ) rfl rfl rfl I underlying50 rfl) rfl ?_;exact⟨B7,6,(M.out _).2 (.inr (.inr (.inl ⟨HE.out,by first|trivial|rfl,HX.out,rfl⟩))),.inl ⟨by decide,rfl⟩⟩
 have b0:Hid (i9 fd (rgB s j i).toNat):=kD ⟨ac,bq⟩;clear ac bq;obtain⟨J,bQ⟩:=zex ((rgB s j i).toNat);rw[<-bQ]at bB b0 M |-;have b1:=kD bQ;clear bQ;by_cases hk:fk=5
 rotate_left
 ·have HX:Hid (¬(i9 fd J/\fk=5)):=kD fun hh=>hk hh.2
  have V:(fk != 5)=true:=by simpa using hk
  have A:=aT (ty:=50) (vs:=txZ) (D.alloc (.cells #[.int .i64 s,.int .i64 j,.int .i64 i,.slice (some ⟨g,0,none⟩) J J] 47)) rfl (by simp[txZ,txR,Value.oneCell']) (by kernel_rfl)
  have I:=(D.alloc (.cells #[.int .i64 s,.int .i64 j,.int .i64 i,.slice (some ⟨g,0,none⟩) J J] 47)).setRow (cs':=txZ);have B7:=Below.setRow (B6.alloc B6.size (.cells #[.int .i64 s,.int .i64 j,.int .i64 i,.slice (some ⟨g,0,none⟩) J J] 47)) (g:=w.heap.size+1+1) (by omega) txZ
  obtain⟨W7,O⟩:=zex ((w6.alloc (.cells #[.int .i64 s,.int .i64 j,.int .i64 i,.slice (some ⟨g,0,none⟩) J J] 47)).setRow (w.heap.size+1+1) txZ);rw[<-O]at A I B7;clear O D ba bb bc hk bB;go_wp2_with (first|(refine ct rfl 50 _ rfl txZ Tryz.oG ?_)|(refine zsb A ?_))
  refine bodyPost_ret (au (cs:=txZ) rfl rfl rfl I underlying50 rfl) rfl ?_;exact⟨B7,6,(M.out _).2 (.inr (.inr (.inl ⟨HE.out,by first|trivial|rfl,HX.out,rfl⟩))),.inl ⟨by decide,rfl⟩⟩
 subst hk;obtain⟨w7,bF⟩:=zex (w6.alloc (.cells #[.int .i64 s,.int .i64 j,.int .i64 i,.slice (some ⟨g,0,none⟩) J J] 47));obtain⟨SB,bS⟩:=zex w6.heap.size;have av:Zr w6 w7:=by rw[bF];exact(kF _ _).alloc (kE _) _
 have cA:Blk w7 SB 47 #[.int .i64 s,.int .i64 j,.int .i64 i,.slice (some ⟨g,0,none⟩) J J]:=by rw[bF,bS];exact zbn
 have I:=D.mD av;have cp:=ba.mD av;have cw:=bb.mD av;have cz:=bc.mD av;have B7:=B6.trans (av.mono B6.size);have cC:=bB.below av;go_upto_region 10 with fail
 rw[<-bF,<-bS];have cM:g≠w.heap.size+1+1:=by omega
 clear bF bS av D ba bb bc bB B6 cF lF b5;obtain⟨cD,lD⟩:=cp.zc;obtain⟨cL,lL⟩:=cw.zc;obtain⟨cR,lR⟩:=cz.zc;obtain⟨cS,lS⟩:=cA.zc;obtain⟨tx,br⟩:=zex (txR (some ⟨S,0,none⟩) x.stable.length c C0 nc cc x.taken x.power x.off s j i 1 (1+j) (2+j) (2+j+i) (s - (2+j+i)) (some ⟨g,0,none⟩) J J (some ⟨g,0,none⟩) J J none 0 0 false false false);have hbt:=Tryz.qE (some ⟨S,0,none⟩) x.stable.length c C0 nc cc x.taken x.power x.off s j i 1 (1+j) (2+j) (2+j+i) (s - (2+j+i)) (some ⟨g,0,none⟩) J J;rw[<-br]at hbt;have aL:tx.size=25:=by rw[br];rfl
 have A:=aT (ty:=50) (vs:=tx) I (by rw[aL];rfl) (by rw[br];simp[txR,Value.oneCell']) (by rw[aL];kernel_rfl)
 have cg:=I.setRow (cs':=tx);have B8:=Below.setRow B7 (g:=w.heap.size+1+1) (by omega) tx
 have ck:Reads (w7.setRow (w.heap.size+1+1) tx) (some ⟨g,0,none⟩) ((fJ (cf fd) J 768).map .bool):=by
  rcases cC with h0|⟨b,off,he,hl,hc⟩
  ·exact .inl h0
  ·cases he;exact .inr ⟨g,0,rfl,by simpa using hl,fun k v hv=>(World.cell?_of_block (w:=w7) (a:=⟨g,0+k,none⟩) (ak _ _ _ _ (show g≠w.heap.size+1+1 from cM))).trans (hc k v hv)⟩
 obtain⟨W8,cm⟩:=zex (w7.setRow (w.heap.size+1+1) tx);rw[<-cm]at A cg B8 ck;have HT:=kD br;have HS:=kD aL;clear cm br aL;go_wp2_with (first|(refine ct rfl 50 _ rfl tx (by refine(congrArg (prog.built 50) ?_).trans hbt;rfl) ?_)|(refine zsb A ?_))
 refine bodyPost_ret (au (cs:=tx) rfl rfl rfl cg underlying50 (by rw[HS.out];rfl)) rfl ?_
 exact⟨B8,0,(M.out _).2 (.inr (.inr (.inr ⟨HE.out,by first|trivial|rfl,b0.out,by first|trivial|rfl,rfl⟩))),.inr ⟨rfl,g,kO z5 hg,by rw[HT.out,b1.out],by rw[<-b1.out,<-cn.out];exact ck⟩⟩
end Go.Proofs.YtejmknghkbobnaaGreatDoor
