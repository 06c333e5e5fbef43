import Derived.Test.YtejmknghkbobnaaGreatDoorPart14
set_option linter.all false
set_option maxRecDepth 100000
set_option maxHeartbeats 0
namespace Go.Proofs.YtejmknghkbobnaaGreatDoor
open Go.Proofs.Tryz
open Go.RowKit
theorem zcc (w:World):(zeroValue 290).run prog w=.ok (.agg (fill (.bool false) 256)) w:=by kernel_rfl
theorem zc9 (s j i:Int)(A Bl:Option Addr)(c cb:Nat)(us:List Bool)(l:List Int)(u:Bool)(al:Int)(bq:al≠0)(bw:us.length<=1000)(hl:l.length<=1000)(w:World)(hR:Reads w A (us.map .bool))(hB:Reads w Bl (l.map (.int .i64)))(hE:CkE s j i us.length=0):
  Calls prog 174 #[.agg #[.int .i64 s,.int .i64 j,.int .i64 i,.slice A us.length c],.slice Bl l.length cb,.bool u,.int .i64 al] w (TnPost s j i A c us l u al w):=by
 have bQ:=(z2u hE).2.2;have bT:(CkE s j i us.length != 0)=false:=by simpa using hE
 have HE:=kD hE;have bA:=kD bq;clear hE bq;have bb:=zcc;go_enter func174,ntmps174
 go_wp2_with fail
 refine(g8 s j i A us.length c _ (by unfold maxLen;omega)).mono ?_
 rintro e V ⟨rfl,S⟩;have bS:Blk V w.heap.size 47 #[.int .i64 s,.int .i64 j,.int .i64 i,.slice A us.length c]:=Blk.mD zbn S
 have bU:Blk V (w.heap.size+1) 4 #[.bool u]:=Blk.mD zbn S
 have bR:Blk V (w.heap.size+2) 47 #[.int .i64 0,.int .i64 0,.int .i64 0,.slice none 0 0]:=Blk.mD zbn S
 have B1:Zr w V:=z3D S;clear S;have cS:=bS.cells;have cU:=bU.cells;have lS:=bS.lt;have lU:=bU.lt;have lR:=bR.lt;go_wp2_with fail
 obtain⟨W1,I⟩:=zex (V.alloc (.cells (fill (.bool false) 256) 290));rw[<-I];have bM:Blk W1 V.heap.size 290 (fill (.bool false) 256):=by rw[I];exact zbn
 have bD:Blk W1 w.heap.size 47 #[.int .i64 s,.int .i64 j,.int .i64 i,.slice A us.length c]:=by rw[I];exact bS.alloc _
 have bG:Blk W1 (w.heap.size+1) 4 #[.bool u]:=by rw[I];exact bU.alloc _
 have bC:Blk W1 (w.heap.size+2) 47 #[.int .i64 0,.int .i64 0,.int .i64 0,.slice none 0 0]:=by rw[I];exact bR.alloc _
 have bK:Zr w W1:=by rw[I];exact B1.alloc B1.size _
 have bW:W1.heap.size=V.heap.size+1:=by rw[I];simp
 clear I bS bU bR cS cU B1 bb;go_loopw [13,22] (fun _ q wr=>∃k:Nat,k<=l.length/\q=.int .i64 k/\LsE us.length l k=0/\Blk wr V.heap.size 290 (fy (metL l k))/\Below V.heap.size W1 wr) (fun _ q _=>l.length - (intOf q).toNat)
 case atStart=>exact⟨0,kP _,rfl,rfl,by rw[show metL l 0=List.replicate 256 false from rfl,iM];exact bM,kF _ _⟩
 case round=>
  obtain⟨k,hk,rfl,av,bM,T⟩:=hrel;have ab:=bD.below T lS;have ac:=bG.below T lU;have O:=bC.below T lR;have cS:=ab.cells;have cU:=ac.cells;have cR:=O.cells;have fR:=O.free;have fM:=bM.free;have lM:=bM.lt;have bc:=O.lt;have B2:Zr w wr:=bK.trans (T.mono (by omega))
  have bp:=hR.below B2;have a7:=hB.below B2;by_cases a8:k<l.length
  ·obtain⟨b,off,a6,hb,hc⟩:=a7.at_ (k:=k) (by simpa using a8)
   rw[lf]at hc;have D:=iA av;have bt:l.getD k 0=l[k]:=by simp[kN,a8]
   unfold iv at D;rw[bt]at D;clear bt;have ao:=z8W a8;by_cases ho:l[k]<0\/(us.length:Int) - 1<l[k]
   ·rw[if_pos ho]at D;have hT:TnE s j i us l u al=7:=by
     have:=gT (m:=l.length) (by rw[D];decide) (by omega)
     unfold TnE;rw[if_pos HE.out,this,D];rfl
    have HT:=kD hT;have hO:=eB ho;clear D ao hT;generalize l[k]=x at hc ho hO;subst a6;go_wp2_with (go_at_call 172;refine(dd _ _ _ _).mono ?_;rintro e w' ⟨rfl,rfl⟩);refine bodyPost_ret (v:=.tuple #[.agg #[.int .i64 s,.int .i64 j,.int .i64 i,.slice A us.length c],.int .i64 7]) (by simp[results,results174,go_sem,cR,bc]) rfl ?_
    exact TnPost.bad (by decide) HT.out (zgr)
   ·rw[if_neg ho]at D;have hO:=eo ho;have U:0<=l[k]/\l[k]<(us.length:Int):=by omega
    have an:=zbA av (by omega) l[k].toNat (by omega)
    rw[Int.toNat_of_nonneg U.1]at an;have K:wr.cell? ⟨V.heap.size,l[k].toNat,none⟩=some (.bool ((metL l k).getD l[k].toNat false)):=by rw[bM.cells];exact kg (by rw[z54];omega)
    rw[an]at K;by_cases M:l[k]∈l.take k
    ·rw[if_pos M]at D;rw[decide_eq_true M]at K;have hT:TnE s j i us l u al=8:=by
      have:=gT (m:=l.length) (by rw[D];decide) (by omega)
      unfold TnE;rw[if_pos HE.out,this,D];rfl
     have HT:=kD hT;clear D ao hT an M ho;generalize l[k]=x at hc hO U K;obtain⟨xn,rfl⟩:=lz U.1;simp only[lO]at K;subst a6;go_wp2_with (go_at_call 172;refine(dd _ _ _ _).mono ?_;rintro e w' ⟨rfl,rfl⟩);refine bodyPost_ret (v:=.tuple #[.agg #[.int .i64 s,.int .i64 j,.int .i64 i,.slice A us.length c],.int .i64 8]) (by simp[results,results174,go_sem,cR,bc]) rfl ?_
     exact TnPost.bad (by decide) HT.out (zgr)
    ·rw[if_neg M]at D;rw[decide_eq_false M]at K;have bB:=kD D;have aL:=kD ao;clear D ao an M ho;generalize l[k]=x at hc hO U K aL;obtain⟨xn,rfl⟩:=lz U.1;simp only[lO]at K aL;subst a6;go_wp2_with (go_at_call 172;refine(dd _ _ _ _).mono ?_;rintro e w' ⟨rfl,rfl⟩);go_roundw
     case rel=>exact⟨k+1,by omega,by go_num,bB.out,by rw[aL.out,<-kh];exact bM.mG _ _,T.setCell (p:=⟨V.heap.size,xn,none⟩) (kE _) _⟩
     case measure=>simp[intOf];omega
  ·obtain rfl:k=l.length:=by omega
   have bu:=z4y av;have hT:TnE s j i us l u al=if eY us l u=true then al else 0:=by
    unfold TnE;rw[if_pos HE.out,if_pos av]
   have HT:=kD hT;clear hT;have bk:=kD bu;clear bu;go_wp2_with fail
   refine(z0r s j i A Bl c cb us l u w.heap.size (w.heap.size+1) bk.out bw hl _ bp a7 ab ac).mono ?_;rintro e w5 ⟨rfl,J⟩;have bF:=ab.mD J;have bJ:=ac.mD J;have Y:=O.mD J;have B5:=B2.trans (J.mono B2.size);have bN:=bp.below J;have bL:=a7.below J;clear J ab ac O cS cU cR fR bc;have cS:=bF.cells;have cU:=bJ.cells;have cR:=Y.cells;have fR:=Y.free;have bO:=Y.lt;cases hh:eY us l u
   ·have a1:Hid (TnE s j i us l u al=0):=kD (by rw[HT.out,hh];rfl)
    clear hh HT;go_wp2_with fail
    refine(z9y s j i A Bl c cb us l u _ bN (by omega) bw bL hl bk.out).mono ?_
    rintro e w6 ⟨g,bn,rfl,ba,br⟩;have a2:=Y.mD br;have B6:=B5.trans (br.mono B5.size);clear cR fR;have cR:=a2.cells;have fR:=a2.free;have bP:=a2.lt;go_wp2_with fail
    refine bodyPost_ret (v:=.tuple #[.agg #[.int .i64 s,.int .i64 j,.int .i64 i,.slice (some ⟨g,0,none⟩) us.length bn],.int .i64 0]) (by simp[results,results174,go_sem,cR,bP]) rfl ?_
    have bX:=B5.size;refine⟨zgr,.inr ⟨a1.out,g,bn,rfl,aI (base:=w.heap.size+3) ?_ (by omega)⟩⟩
    exact ownsRow_setCell_below (ownsRow_setCell_below (ownsRow_setCell_below (ownsRow_setCell_below (aI ba (by omega)) (by simp) _) (by simp) _) (by simp) _) (by simp) _
   ·have a1:Hid (TnE s j i us l u al=al):=kD (by rw[HT.out,hh];rfl)
    clear hh HT;go_wp2_with fail
    refine bodyPost_ret (v:=.tuple #[.agg #[.int .i64 s,.int .i64 j,.int .i64 i,.slice A us.length c],.int .i64 al]) (by simp[results,results174,go_sem,cR,bO]) rfl ?_
    exact TnPost.bad bA.out a1.out (zgr)
theorem z6h (s j i:Int)(A J:Option Addr)(c T:Nat)(us:List Bool)(l:List Int)(u:Bool)(al:Int)(M:al≠0)(O:us.length<=1000)(hl:l.length<=1000)(w:World)(hR:Reads w A (us.map .bool))(hB:Reads w J (l.map (.int .i64))):
  Calls prog 174 #[.agg #[.int .i64 s,.int .i64 j,.int .i64 i,.slice A us.length c],.slice J l.length T,.bool u,.int .i64 al] w (TnPost s j i A c us l u al w):=by
 by_cases I:CkE s j i us.length=0
 ·exact zc9 s j i A J c T us l u al M O hl w hR hB I
 ·have ab:(CkE s j i us.length != 0)=true:=by simpa using I
  have U:TnE s j i us l u al=CkE s j i us.length:=by unfold TnE;rw[if_neg I]
  have Y:=kD U;have V:=kD I;clear I U;go_enter func174,ntmps174
  go_wp2_with fail
  refine(g8 s j i A us.length c _ (by unfold maxLen;omega)).mono ?_
  rintro e S ⟨rfl,D⟩;have bS:Blk S w.heap.size 47 #[.int .i64 s,.int .i64 j,.int .i64 i,.slice A us.length c]:=Blk.mD zbn D
  have K:Blk S (w.heap.size+2) 47 #[.int .i64 0,.int .i64 0,.int .i64 0,.slice none 0 0]:=Blk.mD zbn D
  have B1:Zr w S:=z3D D;clear D;have cS:=bS.cells;have cR:=K.cells;have fR:=K.free;have lR:=K.lt;go_wp2_with fail
  refine bodyPost_ret (v:=.tuple #[.agg #[.int .i64 s,.int .i64 j,.int .i64 i,.slice A us.length c],.int .i64 (CkE s j i us.length)]) (by simp[results,results174,go_sem,cR,lR]) rfl ?_
  exact TnPost.bad V.out Y.out (zgr)
theorem zaT (s j i:Int)(A K:Option Addr)(c V:Nat)(us:List Bool)(l:List Int)(S:us.length<=1000)(hl:l.length<=1000)(w:World)(hR:Reads w A (us.map .bool))(hB:Reads w K (l.map (.int .i64))):
  Calls prog 96 #[.agg #[.int .i64 s,.int .i64 j,.int .i64 i,.slice A us.length c],.slice K l.length V] w (TnPost s j i A c us l true 9 w):=by
 go_enter func96,ntmps96
 go_wp2_with fail
 refine(z6h s j i A K c V us l true 9 (by decide) S hl _ ((hR.alloc _).alloc _) ((hB.alloc _).alloc _)).mono ?_
 rintro e w1 ⟨D,⟨O,rfl⟩|⟨O,g,I,rfl,J⟩⟩
 all_goals
  have T:=kD O;clear O;have M:Blk w1 (w.heap.size+1) 47 #[.int .i64 0,.int .i64 0,.int .i64 0,.slice none 0 0]:=Blk.mD zbn D
  have B1:Zr w w1:=eE D;clear D;have U:=M.cells;have fR:=M.free;have Y:=M.lt;go_wp2_with fail
 ·refine bodyPost_ret (v:=.tuple #[.agg #[.int .i64 s,.int .i64 j,.int .i64 i,.slice A us.length c],.int .i64 (TnE s j i us l true 9)]) (by simp[results,results96,go_sem,U,Y]) rfl ?_
  exact⟨zgr,.inl ⟨T.out,rfl⟩⟩
 ·refine bodyPost_ret (v:=.tuple #[.agg #[.int .i64 s,.int .i64 j,.int .i64 i,.slice (some ⟨g,0,none⟩) us.length I],.int .i64 0]) (by simp[results,results96,go_sem,U,Y]) rfl ?_
  refine⟨zgr,.inr ⟨T.out,g,I,rfl,aI (base:=w.heap.size+2) ?_ (by omega)⟩⟩
  exact ownsRow_setCell_below (ownsRow_setCell_below (ownsRow_setCell_below (ownsRow_setCell_below (aI J (by simp)) (by simp) _) (by simp) _) (by simp) _) (by simp) _
theorem z8A (s j i:Int)(A K:Option Addr)(c V:Nat)(us:List Bool)(l:List Int)(S:us.length<=1000)(hl:l.length<=1000)(w:World)(hR:Reads w A (us.map .bool))(hB:Reads w K (l.map (.int .i64))):
  Calls prog 100 #[.agg #[.int .i64 s,.int .i64 j,.int .i64 i,.slice A us.length c],.slice K l.length V] w (TnPost s j i A c us l false 4 w):=by
 go_enter func100,ntmps100
 go_wp2_with fail
 refine(z6h s j i A K c V us l false 4 (by decide) S hl _ ((hR.alloc _).alloc _) ((hB.alloc _).alloc _)).mono ?_
 rintro e w1 ⟨D,⟨O,rfl⟩|⟨O,g,I,rfl,J⟩⟩
 all_goals
  have T:=kD O;clear O;have M:Blk w1 (w.heap.size+1) 47 #[.int .i64 0,.int .i64 0,.int .i64 0,.slice none 0 0]:=Blk.mD zbn D
  have B1:Zr w w1:=eE D;clear D;have U:=M.cells;have fR:=M.free;have Y:=M.lt;go_wp2_with fail
 ·refine bodyPost_ret (v:=.tuple #[.agg #[.int .i64 s,.int .i64 j,.int .i64 i,.slice A us.length c],.int .i64 (TnE s j i us l false 4)]) (by simp[results,results100,go_sem,U,Y]) rfl ?_
  exact⟨zgr,.inl ⟨T.out,rfl⟩⟩
 ·refine bodyPost_ret (v:=.tuple #[.agg #[.int .i64 s,.int .i64 j,.int .i64 i,.slice (some ⟨g,0,none⟩) us.length I],.int .i64 0]) (by simp[results,results100,go_sem,U,Y]) rfl ?_
  refine⟨zgr,.inr ⟨T.out,g,I,rfl,aI (base:=w.heap.size+2) ?_ (by omega)⟩⟩
  exact ownsRow_setCell_below (ownsRow_setCell_below (ownsRow_setCell_below (ownsRow_setCell_below (aI J (by simp)) (by simp) _) (by simp) _) (by simp) _) (by simp) _
open Go.Maps
def TxS.look (y:TxS)(a:Int):Option Rec:=if a=1+y.j/\y.changed=true then some ⟨1+y.j,5,gn y.now⟩else bf y.writes a
def TxS.ou (y:TxS)(x:DevS)(a:Int):Int × ByteArray × Int:=
 match y.look a with|some r=>(r.kind,r.data,0)|none=>((x.fr a).kind,(x.fr a).data,x.ge a)
def TxS.read (y:TxS)(x:DevS)(a:Int):Int × ByteArray × Int:=
 if y.mF≠0 then (0,⟨#[]⟩,y.mF)else if a<0\/y.s<=a then (0,⟨#[]⟩,7)else y.ou x a
def TxS.nD (y:TxS)(a k:Int)(n:Nat):Int:=
 if (1<=a/\a<1+y.j)\/a=1+y.j then 2 else if (a<0\/y.s<=a)\/k<1\/255<k then 7 else if 96<n then 3 else if (bf y.writes a).isNone=true/\y.left<1 then 12 else 0
def TxS.brk (y:TxS):TxS:={ y with broken:=true }
def TxS.write (y:TxS)(a k:Int)(d:ByteArray):Int × TxS:=
 if y.mF≠0 then (y.mF,y)else if y.nD a k d.size≠0 then (y.nD a k d.size,y.brk)else (0,{ y with writes:=aJ y.writes ⟨a,k,d⟩ })
def orL (a b:List Bool):List Bool:=List.zipWith (·||·) a b
def TxS.may (y:TxS):List Bool:=orL y.now y.was
def TxS.nI (y:TxS)(near many:Int):Int:=
 if AlE y.s y.j y.i y.may near many≠0 then AlE y.s y.j y.i y.may near many else y.mP (ay y.may near.toNat many.toNat).length
def TxS.take (y:TxS)(near many:Int):Int × TxS:=
 if y.mF≠0 then (y.mF,y)else if y.nI near many≠0 then (y.nI near many,y.brk)
 else (0,y.change (bg y.now (ay y.may near.toNat many.toNat) true) (ay y.may near.toNat many.toNat).length)
def TxS.nC (y:TxS)(near many:Int):List Int:=
 if y.mF≠0 then []else if y.nI near many≠0 then []else ay y.may near.toNat many.toNat
def TxS.nY (y:TxS)(l:List Int):Int:=
 if TnE y.s y.j y.i y.now l false 4≠0 then TnE y.s y.j y.i y.now l false 4 else y.mP l.length
def TxS.free (y:TxS)(l:List Int):Int × TxS:=
 if y.mF≠0 then (y.mF,y)else if y.nY l≠0 then (y.nY l,y.brk)else (0,y.change (bg y.now l false) l.length)
theorem z15 {us:List Bool}{near k:Nat}{x:Int}(h:x∈aM us near k):∃i,i<k/\us[(near+i) % us.length]?=some false/\x=(((near+i) % us.length:Nat):Int):=by
 unfold aM at h;simp only[List.mem_map,List.mem_filter,List.mem_range,beq_iff_eq]at h;obtain⟨i,⟨c,A⟩,rfl⟩:=h;exact⟨i,c,A,by simp⟩
theorem zaP {n near i k:Nat}(hi:i<k)(D:k<n)(I:near<n)(h:(near+i) % n=(near+k) % n):False:=by
 have c:near+i<n\/n<=near+i:=by omega
 have A:near+k<n\/n<=near+k:=by omega
 rcases c with c|c<;>rcases A with A|A
 ·rw[lY c,lY A]at h;omega
 ·rw[lY c,Nat.mod_eq_sub_mod A,lY (by omega)]at h;omega
 ·rw[lY A,Nat.mod_eq_sub_mod c,lY (by omega)]at h;omega
 ·rw[Nat.mod_eq_sub_mod c,Nat.mod_eq_sub_mod A,lY (by omega),lY (by omega)]at h;omega
theorem z14 {us:List Bool}{near:Nat}(S:near<us.length):∀k,k<=us.length->∀p,(A:p<(aM us near k).length)->(aM us near k)[p]∉(aM us near k).take p:=by
 intro k;induction k with
 | zero=>intro _ p A;rw[jA]at A;simp at A
 | succ k ih=>
  intro T p A;have ih:=ih (by omega)
  have K:(near+k) % us.length<us.length:=Nat.mod_lt _ (by omega)
  cases hu:us[(near+k) % us.length]
  ·have J:=je (us:=us) (near:=near) (k:=k) (by rw[kQ K,hu])
   have c:((near:Int)+(k:Int)) % (us.length:Int)=(((near+k) % us.length:Nat):Int):=by simp
   simp only[J,kY,List.length_singleton]at A |-;by_cases I:p<(aM us near k).length
   ·rw[List.getElem_append_left I,List.take_append_of_le_length (by omega)]
    exact ih p I
   ·have:p=(aM us near k).length:=by omega
    subst this;rw[List.getElem_append_right (by omega),List.take_append_of_le_length (by omega),lj]
    simp only[Nat.sub_self,List.getElem_singleton];rw[c];intro D;obtain⟨i,O,_,M⟩:=z15 D;have:(near+k) % us.length=(near+i) % us.length:=by exact_mod_cast M
    exact zaP O (by omega) S this.symm
  ·have J:=iS (us:=us) (near:=near) (k:=k) (by rw[kQ K,hu])
   simp only[J]at A |-;exact ih p A
theorem z6n {us:List Bool}{f mn:Nat}(M:f<us.length):LsE us.length (ay us f mn) (ay us f mn).length=0:=by
 refine zci (fun k c=>?_) (kE _)
 have A:=fj (us:=us) (near:=f) (many:=mn) (by omega) _ (li c)
 refine⟨A.1,A.2,?_⟩
 have D:k<(ew us f).length:=by unfold ay at c;rw[kX]at c;omega
 have h:=z14 M us.length (kE _) k D;have J:k<mn:=by unfold ay at c;rw[kX]at c;omega
 have I:(ay us f mn)[k]=(ew us f)[k]:=by
  have:(ay us f mn)[k]?=(ew us f)[k]?:=by unfold ay;rw[mh,if_pos J]
  rw[kQ c,kQ D]at this;exact Option.some.inj this
 have K:(ay us f mn).take k=(ew us f).take k:=by unfold ay;rw[List.take_take,Nat.min_eq_left (by omega)]
 rw[I,K];exact h
theorem z0L {us:List Bool}{f mn:Nat}{b:Int}(h:b∈ay us f mn):us.getD b.toNat false=false:=by
 obtain⟨i,_,c,rfl⟩:=z15 (List.mem_of_mem_take h);rw[kN,lO,c];rfl
theorem z2n {us:List Bool}{f mn:Nat}(A:f<us.length):∀x∈ay us f mn,0<=x:=fun x c=>(fj (by omega) x c).1
theorem dm {a b:List Bool}(h:a.length=b.length):(orL a b).length=a.length:=by unfold orL;rw[List.length_zipWith,h,Nat.min_self]
theorem zau {a b:List Bool}(h:a.length=b.length)(k:Nat):(orL a b).getD k false=(a.getD k false||b.getD k false):=by
 unfold orL;rw[kN,kN,kN,List.getElem?_zipWith];by_cases c:k<a.length
 ·rw[kQ c,kQ (h▸c)];rfl
 ·rw[List.getElem?_eq_none (by omega),List.getElem?_eq_none (by omega)];rfl
theorem z6f {s j i:Int}{us A:List Bool}{f mn:Nat}(c:us.length=A.length)(M:CkE s j i us.length=0)(S:f<us.length):TnE s j i us (ay (orL us A) f mn) true 9=0:=by
 unfold TnE;rw[if_pos M];have D:=z6n (us:=orL us A) (f:=f) (mn:=mn) (by rw[dm c];exact S)
 rw[dm c]at D;rw[if_pos D,if_neg];intro h;obtain⟨b,O,I⟩:=List.any_eq_true.1 h;have J:=z0L O;rw[zau c]at J;have K:us.getD b.toNat false=false:=by cases h:us.getD b.toNat false<;>simp_all
 rw[K]at I;exact absurd I (by decide)
def zRec:Rec:=⟨0,0,⟨#[]⟩⟩
theorem zce (w:World):(zeroValue 118).run prog w=.ok (.agg (recC zRec)) w:=by
 obtain⟨J,c,A,I,D⟩:=info_parts Tryz.o9;unfold zeroValue;simp[Sem.run_bind,typeInfo,c,A,go_sem,Result.andThen]
 rfl
theorem zcy {w:World}{M:Nat}{l:List Rec}{E:DataW Unit}(D:RecMap E l)(I:w.ownsMap prog 3 iG M l.length E){a:Int}(J:-9223372036854775808<=a/\a<=9223372036854775807):
  (Instr.lookup 146 (.map (some M)) (.int .i64 a) true).run prog w=.ok (.tuple #[.agg (recC ((bf l a).getD zRec)),.bool (bf l a).isSome]) w:=by
 obtain⟨v,ps,c,A⟩:=I.look_ok gw underlying146 (zce w) (z1n zRec) (keyOf_int_mk underlying3 (z4w J));rw[c,D.has_];rw[D.at_]at A;cases h:bf l a with
 | none=>rw[h]at A;rw[z63 A];rfl
 | some r=>rw[h]at A;rw[z63 A];rfl
theorem z7G (D:Value)(E:Int)(a:Int)(w:World)(h:StE w D E)(I:E≠0):
  Calls prog 36 #[D,.int .i64 a] w fun e K=>e=.returned (.tuple #[.int .i64 0,.string ⟨#[]⟩,.int .i64 E])/\Zr w K:=by
 have A:=dz D E w h;have J:(E != 0)=true:=by simpa using I
 clear I;go_enter func36,ntmps36
 go_wp2_with fail
 refine A.mono ?_;rintro e M ⟨rfl,c⟩;go_wp2_with fail
 refine bodyPost_ret (v:=.tuple #[.int .i64 0,.string ⟨#[]⟩,.int .i64 E]) (by simp[results,results36,go_sem]) rfl ?_
 exact⟨rfl,c⟩
theorem z4u (T:Nat)(F:List Nat)(D:Nat)(y:TxS)(a:Int)(w:World)(h:TxAt w T F D y)(S:y.mF=0)(K:a<0\/y.s<=a):
  Calls prog 36 #[.pointer (some ⟨T,0,none⟩),.int .i64 a] w fun e Y=>e=.returned (.tuple #[.int .i64 0,.string ⟨#[]⟩,.int .i64 7])/\Zr w Y:=by
 have A:=dz _ _ w h.st;rw[S]at A;rcases Int.lt_or_le a 0 with I|I
 ·have U:decide (a<0)=true:=by simpa using I
  clear K I h;go_enter func36,ntmps36
  go_wp2_with fail
  refine A.mono ?_;rintro e O ⟨rfl,c⟩;go_wp2_with fail
  refine bodyPost_ret (v:=.tuple #[.int .i64 0,.string ⟨#[]⟩,.int .i64 7]) (by simp[results,results36,go_sem]) rfl ?_
  exact⟨rfl,c⟩
 ·have U:decide (a<0)=false:=by simpa using I
  have V:decide (y.s<=a)=true:=by simp;omega
  clear K;go_enter func36,ntmps36
  go_wp2_with fail
  refine A.mono ?_;rintro e O ⟨rfl,c⟩;obtain⟨ok,⟨M,wv,nv,J,-⟩,lt⟩:=h.below c;have c1:O.cell? ⟨T,1,none⟩=some (.int .i64 y.s):=(J.cells 1).trans rfl;have lT:=J.lt;clear J ok lt h;go_wp2_with fail
  refine bodyPost_ret (v:=.tuple #[.int .i64 0,.string ⟨#[]⟩,.int .i64 7]) (by simp[results,results36,go_sem]) rfl ?_
  exact⟨rfl,c⟩
theorem z9H (T:Nat)(F:List Nat)(D:Nat)(y:TxS)(B:List Nat)(x:DevS)(a:Int)(w:World)(h:TxAt w T F D y)(hd:DevAt w D B x)(hE:y.mF=0)(ha:0<=a/\a<y.s):
  Calls prog 36 #[.pointer (some ⟨T,0,none⟩),.int .i64 a] w (Zq (.tuple #[.int .i64 (y.ou x a).1,.string (y.ou x a).2.1,.int .i64 (y.ou x a).2.2]) w):=by
 have O:=dz _ _ w h.st;rw[hE]at O;obtain⟨bu,bw⟩:=ha;have bG:decide (a<0)=false:=by simpa using bu
 have bJ:decide (y.s<=a)=false:=by simpa using bw
 have bD:=h.ok.bds;have HR:Hid (y.ou x a=match y.look a with|some r=>(r.kind,r.data,0)|none=>((x.fr a).kind,(x.fr a).data,x.ge a)):=kD rfl
 have HC:Hid (y.look a=if a=1+y.j/\y.changed=true then some ⟨1+y.j,5,gn y.now⟩else bf y.writes a):=kD rfl
 go_enter func36,ntmps36
 go_wp2_with fail
 refine O.mono ?_;rintro e U ⟨rfl,ab⟩;have bq:=hd.below ab;have bC:=h.below ab;clear O;obtain⟨ok,⟨M,wv,nv,bT,hT,hM,bt,⟨E,bb,hO⟩,hw,⟨A,c,rfl,hn,bA⟩⟩,lt⟩:=h.below ab;have lk:=zcy bb hO (a:=a) (by omega)
 obtain⟨cT,lT⟩:=bT.zc;have c1:U.cell? ⟨T,1,none⟩=some (.int .i64 y.s):=(cT 1).trans rfl;have c5:U.cell? ⟨T,5,none⟩=some (.int .i64 (1+y.j)):=(cT 5).trans rfl;have a1:U.cell? ⟨T,17,none⟩=some (.map (some M)):=(cT 17).trans rfl;have ac:U.cell? ⟨T,18,none⟩=some (.bool y.changed):=(cT 18).trans rfl;have c0:U.cell? ⟨T,0,none⟩=some (.pointer (some ⟨D,0,none⟩)):=(cT 0).trans rfl;clear cT hO hw bb hd h;generalize hr:(bf y.writes a).getD zRec=r at lk;obtain⟨ra,rk,rd⟩:=r;unfold recC at lk;simp only at lk
 have bk:Hid (CkE y.s y.j y.i y.now.length=0):=kD (by rw[ok.now];exact z2v ok.rg)
 have bn:Hid (y.now.length<=1000):=kD (by omega)
 have HT:=kD bT;obtain⟨W,hW⟩:=zex (U.alloc (.cells #[.int .i64 ra,.int .i64 rk,.string rd] 118));have bX:Blk W U.heap.size 118 #[.int .i64 ra,.int .i64 rk,.string rd]:=by rw[hW];exact zbn
 have I:Blk W T 148 (txC D y.s y.j y.i wv (.slice A y.now.length c) M y.changed y.broken y.ended):=by rw[hW];exact bT.alloc _
 have BW:Zr w W:=by rw[hW];exact ab.alloc ab.size _
 have br:DevAt W D B x:=by rw[hW];exact bq.alloc _
 have bB:Reads W A (y.now.map .bool):=by rw[hW];exact hn.alloc _
 have bc:W.heap.size=U.heap.size+1:=by rw[hW];simp
 have HZ:=kD bc;clear bc;clear bT ok hn hM bt bA lt hT;by_cases hA:a=1+y.j/\y.changed=true
 ·obtain⟨an,ba⟩:=hA;have HX:Hid (y.ou x a=(5,gn y.now,0)):=kD (by rw[HR.out,HC.out,if_pos ⟨an,ba⟩])
  rw[ba]at ac;have hq:(a==1+y.j)=true:=by simpa using an
  have a2:W.drew.cell? ⟨T,13,none⟩=some (.int .i64 y.s):=(I.drew.cells 13).trans rfl;have a6:W.drew.cell? ⟨T,14,none⟩=some (.int .i64 y.j):=(I.drew.cells 14).trans rfl;have a7:W.drew.cell? ⟨T,15,none⟩=some (.int .i64 y.i):=(I.drew.cells 15).trans rfl;have a8:W.drew.cell? ⟨T,16,none⟩=some (.slice A y.now.length c):=(I.drew.cells 16).trans rfl;have HD:=kD (And.intro a2 (And.intro a6 (And.intro a7 a8)));clear a2 a6 a7 a8 hr an;go_wp2_with fail
  rw[<-hW];clear hW lk c1 c5 a1 ac c0 lT;refine zrm [.take 0,.take 1,.take 2,.take 3,.take 4,.take 5,.take 6,.one 7,.one 8,.one 9] 8 (fun w'=>w'.cell? ⟨T,13,none⟩=some (.int .i64 y.s)/\w'.cell? ⟨T,14,none⟩=some (.int .i64 y.j)/\w'.cell? ⟨T,15,none⟩=some (.int .i64 y.i)/\w'.cell? ⟨T,16,none⟩=some (.slice A y.now.length c)) HD.out ?_
  simp only[kR,kS,Ms.fill,kT,kV];iterate 7 refine ztk ?_
  refine ah (by rfl) fun K hK=>?_
  go_simp;refine(kf T 148 _ (1+y.j) y.s y.j y.i A c y.now bn.out bk.out W.drew I.drew rfl (bB.below (kF _ _).drew)).mono ?_;rintro e w2 ⟨rfl,ao⟩;have V:Zr W w2:=(kF _ _).drew.trans ao;have S:=I.lt;refine hK _ _ (fun _=>⟨?_,?_,?_,?_⟩) ?_
  focus (exact(V.cell (p:=⟨T,13,none⟩) S).trans HD.out.1)
  focus (exact(V.cell (p:=⟨T,14,none⟩) S).trans HD.out.2.1)
  focus (exact(V.cell (p:=⟨T,15,none⟩) S).trans HD.out.2.2.1)
  focus (exact(V.cell (p:=⟨T,16,none⟩) S).trans HD.out.2.2.2)
  clear hK K;have aL:=bX.mD V;refine ah (by rfl) fun K hK=>?_
  have O:=aF (ty:=118) (vs:=#[.int .i64 (1+y.j),.int .i64 5,.string (gn y.now)]) aL rfl (by simp[Value.oneCell']) (by kernel_rfl)
  obtain⟨w3,J⟩:=zex (w2.setRow U.heap.size #[.int .i64 (1+y.j),.int .i64 5,.string (gn y.now)]);rw[<-J]at O;have av:=kD J;clear J;refine zob O ?_;refine hK _ _ (fun h=>absurd h (by decide)) ?_
  clear hK K;refine ah (by rfl) fun K hK=>?_
  go_simp;refine hK _ _ (fun h=>absurd h (by decide)) ?_
  clear hK K;refine ax ?_;have bp:Blk w3 U.heap.size 118 #[.int .i64 (1+y.j),.int .i64 5,.string (gn y.now)]:=by rw[av.out];exact aL.setRow
  have B3:Zr w w3:=by rw[av.out];exact Below.setRow (BW.trans (V.mono BW.size)) ab.size _
  clear O;obtain⟨cX,lX⟩:=bp.zc;have e1:w3.cell? ⟨U.heap.size,1,none⟩=some (.int .i64 5):=(cX 1).trans rfl;have e2:w3.cell? ⟨U.heap.size,2,none⟩=some (.string (gn y.now)):=(cX 2).trans rfl;clear cX;go_wp2_with fail
  go_quiet (fail)
  go_wp2_with fail
  rw[HX.out];refine bodyPost_ret (v:=.tuple #[.int .i64 5,.string (gn y.now),.int .i64 0]) (by simp[results,results36,go_sem]) rfl ?_
  exact⟨rfl,aa B3 _⟩
 have HX:Hid (y.look a=bf y.writes a):=kD (by rw[HC.out,if_neg hA])
 have hq:(a==1+y.j)=false\/((a==1+y.j)=true/\y.changed=false):=by
  by_cases h1:a=1+y.j
  ·exact .inr ⟨by simpa using h1,by cases hc:y.changed;rfl;exact absurd ⟨h1,hc⟩ hA⟩
  ·exact .inl (by simpa using h1)
 clear hA;cases hs:bf y.writes a with
 | some r=>
  have HV:Hid (y.ou x a=(rk,rd,0)):=kD (by rw[HR.out,HX.out,hs];rw[hs]at hr;cases hr;rfl)
  rw[hs]at lk;clear hr hs;have lk:=lk;simp only[Option.isSome_some]at lk;obtain⟨cX,lX⟩:=bX.zc;have e1:W.cell? ⟨U.heap.size,1,none⟩=some (.int .i64 rk):=(cX 1).trans rfl;have e2:W.cell? ⟨U.heap.size,2,none⟩=some (.string rd):=(cX 2).trans rfl;clear cX;have Y:W.cell? ⟨T,18,none⟩=some (.bool y.changed):=(I.cells 18).trans rfl;rcases hq with hq|⟨hq,hch⟩
  rotate_left;focus
   rw[hch]at ac;rw[hch]at Y;rw[hW]at Y
  all_goals
   go_wp2_with fail
   rw[<-hW];go_wp2_with fail
   go_quiet (fail)
   go_wp2_with fail
   rw[HV.out];refine bodyPost_ret (v:=.tuple #[.int .i64 rk,.string rd,.int .i64 0]) (by simp[results,results36,go_sem]) rfl ?_
   exact⟨rfl,aa BW _⟩
 | none=>
  have HV:Hid (y.ou x a=((x.fr a).kind,(x.fr a).data,x.ge a)):=kD (by rw[HR.out,HX.out,hs])
  rw[hs]at lk;clear hr hs;have lk:=lk;simp only[Option.isSome_none]at lk;have Y:W.cell? ⟨T,18,none⟩=some (.bool y.changed):=(I.cells 18).trans rfl;have W0:W.cell? ⟨T,0,none⟩=some (.pointer (some ⟨D,0,none⟩)):=(I.cells 0).trans rfl;rcases hq with hq|⟨hq,hch⟩
  rotate_left;focus
   rw[hch]at ac;rw[hch]at Y
  all_goals
   have S:=I.lt;rw[hW]at Y W0 S;go_wp2_with fail
   rw[<-hW];clear hW Y W0 S lk c1 c5 a1 ac c0 lT;refine(z0y D B x a W br).mono ?_;rintro e w2 ⟨ao,rfl⟩;have B2:=BW.trans (ao.mono BW.size);generalize x.ge a=GE at *;generalize x.fr a=f at *;obtain⟨fk,fs,fd⟩:=f;obtain⟨w3,J⟩:=zex (w2.alloc (.cells #[.int .i64 fk,.int .u32 fs,.string fd] 190));have bF:Blk w3 w2.heap.size 190 #[.int .i64 fk,.int .u32 fs,.string fd]:=by rw[J];exact zbn
   have B3:Zr w w3:=by rw[J];exact B2.alloc B2.size _
   have e0:w3.cell? ⟨w2.heap.size,0,none⟩=some (.int .i64 fk):=(bF.cells 0).trans rfl;have e2:w3.cell? ⟨w2.heap.size,2,none⟩=some (.string fd):=(bF.cells 2).trans rfl;have lF:=bF.lt;go_wp2_with fail
   rw[<-J];clear J;go_quiet (fail)
   go_wp2_with fail
   rw[HV.out];refine bodyPost_ret (v:=.tuple #[.int .i64 fk,.string fd,.int .i64 GE]) (by simp[results,results36,go_sem]) rfl ?_
   exact⟨rfl,aa B3 _⟩
theorem zbS (T:Nat)(F:List Nat)(D:Nat)(y:TxS)(B:List Nat)(x:DevS)(a:Int)(w:World)(h:TxAt w T F D y)(I:DevAt w D B x):
  Calls prog 36 #[.pointer (some ⟨T,0,none⟩),.int .i64 a] w fun e J=>e=.returned (.tuple #[.int .i64 (y.read x a).1,.string (y.read x a).2.1,.int .i64 (y.read x a).2.2])/\Zr w J:=by
 unfold TxS.read;by_cases c:y.mF=0
 ·rw[if_neg (by simpa using c)]
  by_cases A:a<0\/y.s<=a
  ·rw[if_pos A];exact z4u T F D y a w h c A
  ·rw[if_neg A];exact z9H T F D y B x a w h I c (by omega)
 ·rw[if_pos (by simpa using c)];exact z7G _ _ a w h.st c
def TxS.after (y:TxS)(E:Int):TxS:=if badE E=true then y.brk else y
theorem z8f {E:Int}(h:E=0\/E=1\/E=9):badE E=false:=by unfold badE;rcases h with rfl|rfl|rfl<;>decide
theorem z5M {E:Int}(c:E≠0)(A:E≠1)(D:E≠9):badE E=true:=by unfold badE;simp[c,A,D]
theorem z4Y {V:Func}{tmps:Array Value}{S:Ending->World->Prop}{T R:Nat}{F:List Nat}{D:Nat}{y:TxS}{E:Int}{W:World}(A:TxAt W T F D y)(I:Blk W R 28 #[.int .i64 E])(O:R∉F)
  (h:∀c,TxAt c T F D (y.after E)->Blk c R 28 #[.int .i64 E]->Grow W F c F->∃v,(results V tmps).run prog c=.ok v c/\S (.returned v) c):
  Leaves prog V tmps S [{ target:=.fn (.func 94) #[],args:=#[.pointer (some ⟨T,0,none⟩),.pointer (some ⟨R,0,none⟩)] }] .returning W:=by
 have U:=(I.cells 0).trans rfl;refine leaves_cons (f:=94) (args:=#[.pointer (some ⟨T,0,none⟩),.pointer (some ⟨R,0,none⟩)]) (by simp) (by simp[go_sem]) ?_
 by_cases J:E=0\/E=1\/E=9
 ·refine(z4R T R E .returning W U I.lt J).mono ?_;rintro e u' w' ⟨rfl,rfl,rfl⟩;refine h _ ?_ I (Grow.refl _ _);unfold TxS.after;rw[z8f J,if_neg (by simp)]
  exact A
 ·have Y:E≠0:=fun e=>J (.inl e)
  have h1:E≠1:=fun e=>J (.inr (.inl e))
  have h9:E≠9:=fun e=>J (.inr (.inr e))
  refine(z6L T R F D y E .returning W A U I.lt Y h1 h9).mono ?_;rintro e u' w' ⟨rfl,rfl,rfl⟩;have K:T∈F:=by obtain⟨-,⟨M,wv,nv,-,A,-⟩,-⟩:=A;exact A
  refine h _ ?_ (I.far (fun e=>O (by rw[e];exact K)) _) ?_
  ·unfold TxS.after;rw[z5M Y h1 h9,if_pos rfl];exact A.broken
  ·refine⟨⟨rfl,rfl,rfl,by simp,fun b _ hn=>Below.heap_setCell W _ _ b (fun e=>hn (by rw[e];exact K))⟩,fun b hb=>.inl hb⟩
theorem z93 {w:World}{M n:Nat}{E:DataW Unit}(h:w.ownsMap prog 3 iG M n E):w.ownsMap prog 3 iG M (Maps.size E) E:=by
 obtain⟨A,c,D,F,I,rfl⟩:=h;exact⟨A,c,D,F,by simp[Maps.size,Go.length_sorted],rfl⟩
theorem TxAt.puts {w w':World}{T M:Nat}{F:List Nat}{D:Nat}{y:TxS}{wv nv:Value}{r:Rec}{E:DataW Unit}{n:Nat}(ok:y.Ok)(bT:Blk w T 148 (txC D y.s y.j y.i wv nv M y.changed y.broken y.ended))(hT:T∈F)(hM:M∈F)(O:M≠T)(hE:RecMap E y.writes)
  (hw:SlB w F T M wv y.was) (hn:SlB w F T M nv y.now) (lt:∀b∈F,0<b/\b<w.heap.size)
  (hO:w'.ownsMap prog 3 iG M n (E.put (.int .i64 r.at_) (kC r))) (hg:w.grownBy w' (some M))
  (hr:0<=r.at_/\r.at_<y.s/\1<=r.kind/\r.kind<=255/\r.data.data.size<=112) (I:(bf y.writes r.at_).isSome=true\/1<=y.left):
  TxAt w' T F D { y with writes:=aJ y.writes r }:=by
 have Y:∀b,b<w.heap.size->b≠M->w'.heap[b]?=w.heap[b]?:=fun b Y ab=>hg.block b Y (fun e=>ab (by cases e;rfl))
 have hs:w.heap.size<=w'.heap.size:=hg.size;have sl:∀v l,SlB w F T M v l->SlB w' F T M v l:=by
  rintro v l ⟨A,c,U,K,V⟩;refine⟨A,c,U,?_,V⟩
  rcases K with K|⟨b,off,rfl,I,hc⟩
  ·exact .inl K
  ·exact .inr ⟨b,off,rfl,lh I hs,fun k u hu=>(World.cell?_of_block (w:=w) (a:=⟨b,off+k,none⟩) (Y b I (V _ rfl).2.2)).trans (hc k u hu)⟩
 have S:=z93 hO;have J:=hE.put r;rw[J.size_]at S;refine⟨⟨ok.rg,ok.was,ok.now,fun q hq=>?_,?_⟩,⟨M,wv,nv,(Y T (lt T hT).2 (Ne.symm O)).trans bT,hT,hM,O,⟨_,J,S⟩,sl _ _ hw,sl _ _ hn⟩,fun b hm=>⟨(lt b hm).1,lh (lt b hm).2 hs⟩⟩
 ·rcases i8 hq with rfl|hq
  ·exact hr
  ·exact ok.recs q hq
 ·have U:=ok.len;have K:=f9 hE.asc r;unfold TxS.left at U I |-;show 0<=y.most - ((aJ y.writes r).length:Int) - _
  rw[K];split
  ·exact U
  ·rename_i V
   rcases I with I|I
   ·exact absurd I V
   ·simp only;omega
theorem ec {O:Func}{tmps:Array Value}{M:Ending->World->Prop}{T R:Nat}{F0 F:List Nat}{D:Nat}{y:TxS}{E:Int}{v:Value}{w V:World}(hT:TxAt V T F D y)(U:Blk V R 28 #[.int .i64 E])(J:R∉F)(Y:Grow w F0 V F)
  (I:∀c,c.cell? ⟨R,0,none⟩=some (.int .i64 E)->R<c.heap.size->(results O tmps).run prog c=.ok v c) (hP:∀c,TxAt c T F D (y.after E)->Grow w F0 c F->Grow V F c F->M (.returned v) c):
  Leaves prog O tmps M [{ target:=.fn (.func 94) #[],args:=#[.pointer (some ⟨T,0,none⟩),.pointer (some ⟨R,0,none⟩)] }] .returning V:=
 z4Y hT U J fun c K A S=>⟨v,I c ((A.cells 0).trans rfl) A.lt,hP c K (Y.trans S) S⟩
theorem eD {c:Func}{tmps:Array Value}{W:World}{R n:Nat}{t:TypeId}{E:Int}(I:c.results=#[.cell n t])(A:tmps.getD n undef=.pointer (some ⟨R,0,none⟩))(J:t=28)(D:W.cell? ⟨R,0,none⟩=some (.int .i64 E)):(results c tmps).run prog W=.ok (.int .i64 E) W:=by
 subst J;rw[Array.getD_eq_getD_getElem?]at A;simp[results,I,A,go_sem,D]
theorem TxS.nU {y:TxS}{E:Int}(c:E≠0)(A:E≠1)(D:E≠9):y.after E=y.brk:=by unfold TxS.after;rw[z5M c A D,if_pos rfl]
theorem TxS.oQ {y:TxS}:y.after 0=y:=by unfold TxS.after;rw[z8f (.inl rfl),if_neg (by simp)]
theorem TxAt.TF {w:World}{T:Nat}{F:List Nat}{D:Nat}{y:TxS}(h:TxAt w T F D y):T∈F:=by obtain⟨-,⟨M,I,A,-,c,-⟩,-⟩:=h;exact c
theorem TxAt.drewN {w:World}{T:Nat}{F:List Nat}{D:Nat}{y:TxS}(h:TxAt w T F D y)(n:Nat):TxAt (w.drewN n) T F D y:=h.below (aa (kF _ _) n)
theorem Blk.drewN {w:World}{g:Nat}{t:TypeId}{cs:Array Value}(h:Blk w g t cs)(n:Nat):Blk (w.drewN n) g t cs:=h.mD (aa (kF _ _) n)
theorem Grow.cellAt {w V:World}{F F':List Nat}(h:Grow w F V F'){p:Addr}(c:w.heap.size<=p.block)(u:Value):Grow w F (V.setCell p u) F':=
 ⟨h.keep.trans (KeepEx.setCell V (.inr c) u),h.new⟩
theorem z5B (K:Value)(E a k:Int)(d:ByteArray)(w:World)(h:StE w K E)(S:E≠0):
  Calls prog 35 #[K,.int .i64 a,.int .i64 k,.string d] w fun e Y=>e=.returned (.int .i64 E)/\Zr w Y:=by
 obtain⟨M,J⟩:=zex (w.alloc (.cells #[.int .i64 0] 28));have O:Blk M w.heap.size 28 #[.int .i64 0]:=by rw[J];exact zbn
 have I:Zr w M:=by rw[J];exact zgr
 have D:=dz K E M (h.below I);have V:(E != 0)=true:=by simpa using S
 clear S;go_enter_defers func35,ntmps35
 go_wp2_with fail
 rw[<-J];go_wp2_with fail
 refine D.mono ?_;rintro e w1 ⟨rfl,A⟩;have T:=I.trans (A.mono I.size);have c:=O.mD A;clear J D A O I;obtain⟨cR,lR⟩:=c.zc;have fR:=c.free;go_wp2_with fail
 have U:=(c.mG 0 (.int .i64 E)).cells;refine⟨.int .i64 E,eD (n:=8) (t:=28) (by rfl) (by simp) rfl ((U 0).trans rfl),rfl,?_⟩
 exact kG (p:=⟨w.heap.size,0,none⟩) T (kE _) _
theorem TxS.oK {y:TxS}{a k:Int}{d:ByteArray}{E:Int}(A:y.mF=0)(h:y.nD a k d.size=E)(c:E≠0):y.write a k d=(E,y.brk):=by
 unfold TxS.write;rw[if_neg (by simpa using A),if_pos (by rw[h];exact c),h]
theorem TxS.qc {y:TxS}{a k:Int}{d:ByteArray}(c:y.mF=0)(h:y.nD a k d.size=0):y.write a k d=(0,{ y with writes:=aJ y.writes ⟨a,k,d⟩ }):=by
 unfold TxS.write;rw[if_neg (by simpa using c),if_neg (by simpa using h)]
end Go.Proofs.YtejmknghkbobnaaGreatDoor
