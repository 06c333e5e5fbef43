import Derived.Test.YtejmknghkbobnaaGreatDoorPart29
set_option linter.all false
set_option maxRecDepth 100000
set_option maxHeartbeats 0
namespace Go.Proofs.YtejmknghkbobnaaGreatDoor
open Go.Proofs.Tryz
open Go.RowKit Go.Maps
structure TxP where
 A:Option Addr
 c:Nat
 C:Option Addr
 d:Nat
 W:Option Addr
 wc:Nat
 N:Option Addr
 nc:Nat
 L:Option Addr
 lc:Nat
def rtC (p:TxP)(x:DevS)(y:TxS):Array Value:=
 txR p.A x.stable.length p.c p.C x.cache.length p.d x.taken x.power x.off y.s y.j y.i 1 (1+y.j) (2+y.j) (2+y.j+y.i) (y.s - (2+y.j+y.i)) p.W y.was.length p.wc p.N y.now.length p.nc p.L y.writes.length p.lc y.changed y.broken y.ended
structure RTp (w:World)(P:Nat->Prop)(x:DevS)(y:TxS)(p:TxP):Prop where
 dev:RSt w P p.A p.C x
 was:Reads w p.W (y.was.map .bool)
 now:Reads w p.N (y.now.map .bool)
 run:RunAt w p.L y.writes
 lw:y.was=[]\/Lies P p.W
 ln:y.now=[]\/Lies P p.N
 ll:y.writes=[]\/Lies P p.L
 nc:y.now.length<=p.nc
 lc:y.writes.length<=p.lc
def RTx (w:World)(P:Nat->Prop)(x:DevS)(y:TxS)(tv:Array Value):Prop:=∃p,tv=rtC p x y/\RTp w P x y p
theorem z1d {w:World}{P Q:Nat->Prop}{A:Option Addr}{α:Type}{l:List α}{xs:List Value}(h:l=[]\/Lies P A)(D:Reads w A xs)(I:l≠[]->xs≠[])(k:∀b,P b->b<w.heap.size->Q b):l=[]\/Lies Q A:=by
 rcases h with h|h
 ·exact .inl h
 ·by_cases c:l=[]
  ·exact .inl c
  ·exact .inr fun a e=>⟨k _ (h a e).1 (D.block_lt (I c) a e),(h a e).2⟩
theorem ks {w w':World}{P:Nat->Prop}{A:Option Addr}{α:Type}{l:List α}{xs:List Value}(h:l=[]\/Lies P A)(c:Reads w A xs)(K:l=[]->xs=[])(D:∀b,P b->b<w.heap.size->w'.heap[b]?=w.heap[b]?)(J:w.heap.size<=w'.heap.size):Reads w' A xs:=by
 rcases h with h|h
 ·exact .inl (K h)
 ·exact c.frame (fun a e I=>D _ (h a e).1 I) J
theorem zb4 {l:List Bool}(h:l≠[]):l.map Value.bool≠[]:=fun e=>h (List.map_eq_nil_iff.1 e)
theorem zb7 {l:List Rec}(h:l≠[]):l.flatMap bE≠[]:=fun e=>by
 have:=gO l
 rw[e]at this;simp only[lH]at this;exact h (md (by omega))
section
variable {w w':World}{P Q:Nat->Prop}{x:DevS}{y:TxS}{p:TxP}{tv:Array Value}
theorem RTp.below (h:RTp w P x y p)(c:Zr w w'):RTp w' P x y p:=⟨h.dev.below c,h.was.below c,h.now.below c,Reads.below h.run c,h.lw,h.ln,h.ll,h.nc,h.lc⟩
theorem RTp.mono (h:RTp w P x y p)(k:∀b,P b->b<w.heap.size->Q b):RTp w Q x y p:=
 ⟨h.dev.mono k,h.was,h.now,h.run,z1d h.lw h.was zb4 k,z1d h.ln h.now zb4 k,z1d h.ll h.run zb7 k,h.nc,h.lc⟩
theorem RTp.frame (h:RTp w P x y p)(c:∀b,P b->b<w.heap.size->w'.heap[b]?=w.heap[b]?)(A:w.heap.size<=w'.heap.size):RTp w' P x y p:=
 ⟨h.dev.frame c A,ks h.lw h.was (fun e=>by rw[e];rfl) c A,ks h.ln h.now (fun e=>by rw[e];rfl) c A,ks h.ll h.run (fun e=>by rw[e];rfl) c A,h.lw,h.ln,h.ll,h.nc,h.lc⟩
theorem RTx.size (h:RTx w P x y tv):tv.size=25:=by obtain⟨p,rfl,h⟩:=h;rfl
theorem RTx.one (h:RTx w P x y tv):tv.all (·.oneCell')=true:=by obtain⟨p,rfl,h⟩:=h;simp[rtC,txR,Value.oneCell']
theorem RTx.below (h:RTx w P x y tv)(c:Zr w w'):RTx w' P x y tv:=by obtain⟨p,e,h⟩:=h;exact⟨p,e,h.below c⟩
theorem RTx.mono (h:RTx w P x y tv)(k:∀b,P b->b<w.heap.size->Q b):RTx w Q x y tv:=by obtain⟨p,e,h⟩:=h;exact⟨p,e,h.mono k⟩
theorem RTx.frame (h:RTx w P x y tv)(c:∀b,P b->b<w.heap.size->w'.heap[b]?=w.heap[b]?)(A:w.heap.size<=w'.heap.size):RTx w' P x y tv:=by obtain⟨p,e,h⟩:=h;exact⟨p,e,h.frame c A⟩
theorem RTx.row (h:RTx w P x y tv){g:Nat}(A:∀b,P b->b≠g)(cs:Array Value):RTx (w.setRow g cs) P x y tv:=h.frame (fun b c _=>ak w g b cs (A b c)) (by simp)
theorem RTx.cell (h:RTx w P x y tv){q:Addr}(A:∀b,P b->b≠q.block)(u:Value):RTx (w.setCell q u) P x y tv:=h.frame (fun b c _=>Below.heap_setCell w q u b (A b c)) (by simp)
theorem RTx.apt {c:World}(h:RTx w P x y tv)(I:Zr w c)(E:Nat):RTx c (Apt_ P w.heap.size E) x y tv:=(h.mono fun _ A D=>⟨A,.inl D⟩).below I
theorem RTx.oD {B E:Nat}(h:RTx w (Apt_ P B E) x y tv):RTx w P x y tv:=h.mono fun _ c _=>c.1
theorem RTx.brk (h:RTx w P x y tv):RTx w P x y.brk (tv.setIfInBounds 23 (.bool true)):=by obtain⟨p,rfl,h⟩:=h;exact⟨p,rfl,h.dev,h.was,h.now,h.run,h.lw,h.ln,h.ll,h.nc,h.lc⟩
theorem RTx.flags (h:RTx w P x y tv):tv[22]?=some (.bool y.changed)/\tv[23]?=some (.bool y.broken)/\tv[24]?=some (.bool y.ended):=by obtain⟨p,rfl,h⟩:=h;exact⟨rfl,rfl,rfl⟩
theorem RTx.nums (h:RTx w P x y tv):tv[5]?=some (.int .i64 y.s)/\tv[6]?=some (.int .i64 y.j)/\tv[7]?=some (.int .i64 y.i)/\tv[8]?=some (.int .i64 1)/\tv[9]?=some (.int .i64 (1+y.j)):=by obtain⟨p,rfl,h⟩:=h;exact⟨rfl,rfl,rfl,rfl,rfl⟩
end
theorem aN {W:World}{D:Nat}{t:TypeId}{tv:Array Value}(b:Blk W D t tv)(h:tv.size=25):(Instr.loadAt 50 (.pointer (some ⟨D,0,none⟩))).run prog W=.ok (.agg tv) W:=by
 simp only[Instr.loadAt,Instr.sureAddr,Sem.run_bind,Sem.run_pure,Result.andThen];exact run_loadVar_row W D t 50 tv (0,0) _ b underlying50 rfl (by rw[h];kernel_rfl)
theorem aR {W:World}{R:Nat}{t:TypeId}{cs tv:Array Value}(b:Blk W R t cs)(c:cs.size=25)(h:tv.size=25)(A:tv.all (·.oneCell')=true):(Instr.storeAt 50 (.pointer (some ⟨R,0,none⟩)) (.agg tv)).run prog W=.ok () (W.setRow R tv):=
 aT (ty:=50) (vs:=tv) b (by rw[c,h]) A (by rw[h];kernel_rfl)
def RTgot (w:World)(P:Nat->Prop)(x:DevS)(r:Int × TxS)(e:Ending)(w':World):Prop:=
 ∃tv,e=.returned (.tuple #[.agg tv,.int .i64 r.1])/\RTx w' P x r.2 tv/\Zr w w'
theorem RTgot.mk {w W:World}{P:Nat->Prop}{x:DevS}{c R:Nat}{z:TxS}{tv:Array Value}(e:Int)(J:RTx W (Apt_ P w.heap.size c) x z tv)(I:Zr w W)(A:w.heap.size<=R)(D:R<c):RTgot w P x (e,z) (.returned (.tuple #[.agg tv,.int .i64 e])) (W.setRow R tv):=
 ⟨tv,rfl,(J.row (Apt_.ne A D) tv).oD,Below.setRow I A tv⟩
theorem iH {w:World}{P:Nat->Prop}{x:DevS}{y:TxS}{tv:Array Value}(I:RTx w P x y tv):
  Calls prog 62 #[.agg tv] w (Zq (.int .i64 y.mF) w):=by
 obtain⟨-,A,D⟩:=I.flags;have c:Blk (w.alloc (.cells tv 50)) w.heap.size 50 tv:=Blk.new _ _ _;have K:=(c.cells 23).trans A;have M:=(c.cells 24).trans D;have O:=c.lt;have J:Hid (y.mF=if y.broken||y.ended then 9 else 0):=kD rfl
 clear I A D c;generalize y.broken=b at *;generalize y.ended=e at *;cases b<;>cases e
 all_goals
  go_enter func62,ntmps62
  go_wp2_with fail
  go_ret
  exact⟨by rw[J.out];rfl,zgr⟩
theorem gc {w:World}{P:Nat->Prop}{x:DevS}{y:TxS}{tv:Array Value}(U:RTx w P x y tv)(E:Int):
  Calls prog 145 #[.agg tv,.int .i64 E] w (RTgot w P x (E,y.brk)):=by
 obtain⟨D,c⟩:=zex ((w.alloc (.cells tv 50)).alloc (.cells txZ 50));have M:Blk D w.heap.size 50 tv:=by rw[c];exact zbn
 have Y:Blk D (w.heap.size+1) 50 txZ:=by rw[c];exact zbn
 have V:Zr w D:=by rw[c];exact zgr
 have O:=U.apt V D.heap.size;have ao:=U.size;have zR:=kD Y.lt;have hb:=(M.cells 23).trans U.flags.2.1;have lT:=M.lt;have fT:=M.free;have ac:=M.mG 23 (.bool true);have I:Blk (D.setCell ⟨w.heap.size,23,none⟩ (.bool true)) (w.heap.size+1) 50 txZ:=(Below.heap_setCell D _ _ _ (by show w.heap.size+1≠w.heap.size;omega)).trans Y
 have B1:Zr w (D.setCell ⟨w.heap.size,23,none⟩ (.bool true)):=kG V (kE _) _;have J:=(O.cell (q:=⟨w.heap.size,23,none⟩) (Apt_.ne (kE _) (by have:=zR.out;omega)) (.bool true)).brk
 have A:=J.size;have K:=J.one;clear U O;unfold txZ txR at c;go_enter func145,ntmps145
 go_upto_region 1 with fail
 rw[<-c];clear c;go_upto_region 2 with fail
 generalize D.setCell ⟨w.heap.size,23,none⟩ (.bool true)=W1 at *;generalize tv.setIfInBounds 23 (.bool true)=T at *;have l1:=aN ac A;have an:=aR I rfl A K;have ab:=I.setRow (cs':=T);have S:=RTgot.mk (R:=w.heap.size+1) E J B1 (by omega) zR.out
 clear hb lT fT M Y I V B1;go_wp2_with (first|(refine zlw l1 ?_)|(refine zsb an ?_))
 exact bodyPost_ret (au (cs:=T) rfl rfl rfl ab underlying50 (by rw[A];kernel_rfl)) rfl S
theorem z1a {l:List Rec}{b:Rec}(h:∀r∈l,r.at_<b.at_):aJ l b=l++[b]:=by
 induction l with
 | nil=>rfl
 | cons x t ih=>
  have A:=h x (me ..);unfold aJ;rw[if_neg (by omega),if_neg (by omega),ih fun r c=>h r (ly _ c)]
  rfl
theorem z1Y {l:List Rec}{b r:Rec}(h:∀r∈l,r.at_<b.at_)(c:b.at_<r.at_):aJ (l++[r]) b=l++[b]++[r]:=by
 induction l with
 | nil=>
  show aJ [r] b=_
  unfold aJ;rw[if_pos c];rfl
 | cons x t ih=>
  have A:=h x (me ..);show aJ (x::(t++[r])) b=_
  unfold aJ;rw[if_neg (by omega),if_neg (by omega),ih fun r c=>h r (ly _ c)]
  rfl
theorem z1b {l:List Rec}{b r:Rec}(h:∃x∈l,b.at_<=x.at_):aJ (l++[r]) b=aJ l b++[r]:=by
 induction l with
 | nil=>obtain⟨x,J,-⟩:=h;cases J
 | cons x t ih=>
  show aJ (x::(t++[r])) b=_
  unfold aJ;by_cases c:b.at_<x.at_
  ·rw[if_pos c,if_pos c];rfl
  ·rw[if_neg c,if_neg c];by_cases A:b.at_=x.at_
   ·rw[if_pos A,if_pos A];rfl
   ·rw[if_neg A,if_neg A,ih (by
     obtain⟨z,D,I⟩:=h;rcases lp.1 D with rfl|D
     ·omega
     ·exact⟨z,D,I⟩)]
    rfl
def RcS (y:TxS)(i:Nat)(d:Bool)(out:List Rec):Prop:=
 (i=y.writes.length+1/\out=y.recs)\/(i<=y.writes.length/\((y.changed=false/\d=true/\out=y.writes.take i)\/(y.changed=true/\d=false/\out=y.writes.take i/\∀r∈y.writes.take i,r.at_<1+y.j)\/(y.changed=true/\d=true/\out=aJ (y.writes.take i) y.oh/\∃r∈y.writes.take i,1+y.j<r.at_)))
def RcM (y:TxS)(i:Nat)(d:Bool)(out:List Rec):Prop:=(i=y.writes.length->out=y.recs)/\(∀hi:i<y.writes.length,RcS y (i+1) d (out++[y.writes[i]]))
section
variable {y:TxS}{i:Nat}{d:Bool}{out:List Rec}
theorem zaA (y:TxS):RcS y 0 (!y.changed) []:=by
 refine .inr ⟨kP _,?_⟩;cases h:y.changed
 ·exact .inl ⟨rfl,rfl,rfl⟩
 ·exact .inr (.inl ⟨rfl,rfl,rfl,fun r c=>by simp at c⟩)
theorem zbO (M:y.Clean)(h:RcS y i false out)(hi:i<=y.writes.length)(A:∀c:i<y.writes.length,1+y.j<y.writes[i].at_):RcM y i true (out++[y.oh]):=by
 rcases h with ⟨h,-⟩|⟨-,⟨-,h,-⟩|⟨I,-,J,D⟩|⟨-,h,-⟩⟩
 ·omega
 ·cases h
 ·subst J;refine⟨fun K=>?_,fun c=>?_⟩
  ·rw[K,lj]at D |-;unfold TxS.recs;rw[if_pos I,z1a D]
  ·refine .inr ⟨c,.inr (.inr ⟨I,rfl,?_,y.writes[i],?_,A c⟩)⟩
   ·rw[kZ c,z1Y D (A c)]
   ·rw[kZ c];exact mu _ (mg.2 rfl)
 ·cases h
theorem zaz (S:y.Clean)(h:RcS y i d out)(hi:i<=y.writes.length)(A:d=true\/∃c:i<y.writes.length,¬1+y.j<y.writes[i].at_):RcM y i d out:=by
 rcases h with ⟨h,-⟩|⟨-,⟨I,J,K⟩|⟨I,J,K,O⟩|⟨I,J,K,r,D,O⟩⟩
 ·omega
 ·subst K;refine⟨fun M=>?_,fun c=>.inr ⟨c,.inl ⟨I,J,?_⟩⟩⟩
  ·unfold TxS.recs;rw[M,lj,I];rfl
  ·rw[kZ c]
 ·subst K;rcases A with A|⟨c,A⟩
  ·rw[J]at A;cases A
  ·refine⟨fun M=>by omega,fun _=>.inr ⟨c,.inr (.inl ⟨I,J,?_,?_⟩)⟩⟩
   ·rw[kZ c]
   ·intro r D;rw[kZ c]at D;rcases lE.1 D with D|D
    ·exact O r D
    ·have e:r=y.writes[i]:=by simpa using D
     rw[e];rcases S.out _ (li c)with h|h
     ·have:=S.j0;omega
     ·exact absurd h A
 ·subst K;refine⟨fun M=>?_,fun c=>.inr ⟨c,.inr (.inr ⟨I,J,?_,r,?_,O⟩)⟩⟩
  ·unfold TxS.recs;rw[if_pos I,M,lj]
  ·rw[kZ c,z1b ⟨r,D,by show 1+y.j<=r.at_;omega⟩]
  ·rw[kZ c];exact mt _ D
theorem zbP (h:RcS y (y.writes.length+1) d out):out=y.recs:=by
 rcases h with ⟨-,h⟩|⟨h,-⟩
 ·exact h
 ·omega
theorem z0C (c:y.Clean)(h:RcS y i d out):out.length<=y.writes.length+1:=by
 rcases h with ⟨-,rfl⟩|⟨-,⟨-,-,rfl⟩|⟨-,-,rfl,-⟩|⟨-,-,rfl,-⟩⟩
 ·rw[z1o c];split<;>omega
 ·rw[kX];omega
 ·rw[kX];omega
 ·have:Asc (y.writes.take i):=List.Pairwise.sublist (List.take_sublist _ _) c.asc
  rw[f9 this];split<;>(rw[kX];omega)
end
theorem jL (w:World)(r:Rec):Reads (w.alloc (.cells #[.int .i64 r.at_,.int .i64 r.kind,.string r.data] 118)) (some ⟨w.heap.size,0,none⟩) (bE r):=by
 have b:=Blk.new w 118 #[.int .i64 r.at_,.int .i64 r.kind,.string r.data];exact .inr ⟨_,0,rfl,b.lt,fun j u c=>by rw[ld];exact(b.cells j).trans (by simpa[bE]using c)⟩
theorem ic {w:World}{base:Nat}{l:List Rec}{A:Option Addr}{c:Nat}(h:w.ownsRow base 118 3 (.slice A l.length c) l.length (l.flatMap bE))(M:base<=w.heap.size)(V:l.length<=900)(r:Rec):
  ∃D I w',(Builtin.append_ #[48,48] 48 #[.slice A l.length c,.slice (some ⟨w.heap.size,0,none⟩) 1 1]).run prog (w.alloc (.cells #[.int .i64 r.at_,.int .i64 r.kind,.string r.data] 118))=.ok (.slice D (l.length+1) I) w' /\
   w'.ownsRow base 118 3 (.slice D (l++[r]).length I) (l++[r]).length ((l++[r]).flatMap bE)/\Below base w w':=by
 have J:Zr w (w.alloc (.cells #[.int .i64 r.at_,.int .i64 r.kind,.string r.data] 118)):=(kF _ _).alloc (kE _) _;obtain⟨v,w',T,K,U,-⟩:=z8a (aq h J) (kO M J.size) (some ⟨w.heap.size,0,none⟩) 1 1 (bE r) rfl (by omega) (jL w r) (z65 r)
 obtain⟨D,I,rfl⟩:=aw K;have O:(l++[r]).length=l.length+1:=by rw[kY];rfl
 have S:(l++[r]).flatMap bE=l.flatMap bE++bE r:=by rw[List.flatMap_append];simp
 exact⟨D,I,w',T,by rw[O,S];exact K,(J.mono M).trans U⟩
def rcB (y:TxS)(k:Nat)(d:Bool):Bool:=!d&&(decide (k=y.writes.length)||decide (1+y.j<(y.writes.getD k default).at_))
theorem zay {y:TxS}{k:Nat}{d:Bool}(A:k<=y.writes.length):(rcB y k d=true->d=false/\∀h:k<y.writes.length,1+y.j<y.writes[k].at_)/\(rcB y k d=false->d=true\/∃h:k<y.writes.length,¬1+y.j<y.writes[k].at_):=by
 unfold rcB;cases d
 ·by_cases h:k<y.writes.length
  ·rw[kN,kQ h,decide_eq_false (by omega:¬k=y.writes.length)]
   refine⟨fun e=>⟨rfl,fun _=>by simpa using e⟩,fun e=>.inr ⟨h,by simpa using e⟩⟩
  ·rw[decide_eq_true (by omega:k=y.writes.length)]
   exact⟨fun _=>⟨rfl,fun c=>absurd c h⟩,fun e=>by simp at e⟩
 ·exact⟨fun e=>by simp at e,fun _=>.inl rfl⟩
theorem Tryz.qo (a:Int)(s:ByteArray):prog.built 118 [(0,.int .i64 a),(1,.int .i64 5),(2,.string s)]=some #[.int .i64 a,.int .i64 5,.string s]:=by kernel_rfl
theorem z03 {w:World}{P:Nat->Prop}{x:DevS}{y:TxS}{tv:Array Value}(hq:RTx w P x y tv)(ok:y.Ok)(hc:y.Clean):
  Calls prog 63 #[.agg tv] w fun e w'=>∃A c,e=.returned (.slice A y.recs.length c)/\w'.ownsRow w.heap.size 118 3 (.slice A y.recs.length c) y.recs.length (y.recs.flatMap bE)/\Zr w w':=by
 obtain⟨Y,bk⟩:=zex (w.alloc (.cells tv 50));have bT:Blk Y w.heap.size 50 tv:=by rw[bk];exact zbn
 have B0:Zr w Y:=by rw[bk];exact zgr
 have bF:w.heap.size<Y.heap.size:=bT.lt;obtain⟨hch,-,-⟩:=hq.flags;have bL:=hq.nums.2.2.2.2;have b1:y.writes.length<=80:=by have:=ok.len;unfold TxS.left TxS.most at this;split at this<;>omega
 have b0:y.now.length<=1000:=by rw[ok.now];have:=(ir ok.rg).2.2.2.2;have:=de ok.rg;omega
 have b4:=de ok.rg;obtain⟨p,bC,hp⟩:=hq;have bN:=kw ok;have bG:∀W,Zr w W->RunAt W p.L y.writes:=fun W hW=>Reads.below hp.run hW
 have bJ:∀W,Zr w W->Reads W p.N (y.now.map .bool):=fun W hW=>hp.now.below hW
 have bD:=kD bG;have bQ:=kD (fun (W:World) (hW:Zr w W)=>z10 y.s y.j y.i p.N p.nc y.now b0 W (bJ W hW))
 have bP:=kD bN;have bn:tv[21]?=some (.slice p.L y.writes.length p.lc):=by rw[bC];rfl
 have U:tv[17]?=some (.int .i64 y.s)/\tv[18]?=some (.int .i64 y.j)/\tv[19]?=some (.int .i64 y.i)/\tv[20]?=some (.slice p.N y.now.length p.nc):=by rw[bC];exact⟨rfl,rfl,rfl,rfl⟩
 have a6:∀W,Zr Y W->W.cell? ⟨w.heap.size,9,none⟩=some (.int .i64 (1+y.j))/\W.cell? ⟨w.heap.size,21,none⟩=some (.slice p.L y.writes.length p.lc)/\W.cell? ⟨w.heap.size,22,none⟩=some (.bool y.changed)/\W.cell? ⟨w.heap.size,17,none⟩=some (.int .i64 y.s)/\W.cell? ⟨w.heap.size,18,none⟩=some (.int .i64 y.j)/\W.cell? ⟨w.heap.size,19,none⟩=some (.int .i64 y.i)/\W.cell? ⟨w.heap.size,20,none⟩=some (.slice p.N y.now.length p.nc)/\w.heap.size<W.heap.size:=fun W hW=>by
  have b:=bT.mD hW;exact⟨(b.cells 9).trans bL,(b.cells 21).trans bn,(b.cells 22).trans hch,(b.cells 17).trans U.1,(b.cells 18).trans U.2.1,(b.cells 19).trans U.2.2.1,(b.cells 20).trans U.2.2.2,b.lt⟩
 have aL:=kD a6;clear hch bL hp bN bG bJ bn U bC a6;go_enter func63,ntmps63
 go_upto_region 2 with fail
 rw[<-bk];obtain⟨c9,I,S,J,K,M,O,lT⟩:=aL.out Y (kF _ _);clear bk;go_wp2_with fail
 clear c9 I S J K M O lT;go_loopw [3,4,5] (fun v3 v4 v5 wr=>∃(k:Nat) (d:Bool) (A:Option Addr) (c:Nat) (out:List Rec),k<=y.writes.length+1/\v5=.int .i64 k/\v4=.bool d/\v3=.slice A out.length c/\RcS y k d out/\wr.ownsRow Y.heap.size 118 3 (.slice A out.length c) out.length (out.flatMap bE)/\Zr Y wr) (fun _ _ v5 _=>y.writes.length+1 - (RowKit.intOf v5).toNat)
 case atStart=>exact⟨0,!y.changed,none,0,[],kP _,rfl,rfl,rfl,zaA y,World.ownsRow_nil _ _ _ _,kF _ _⟩
 case round=>
  obtain⟨k,d,A,c,out,hk,rfl,rfl,rfl,bB,br,hB⟩:=hrel;obtain⟨c9,I,S,J,K,M,O,lT⟩:=aL.out wr hB;have HO:=kD br;have ac:=kD bB;have b7:=z0C hc bB;clear br bB;by_cases bA:k<=y.writes.length
  rotate_left
  ·obtain rfl:k=y.writes.length+1:=by omega
   have bp:=zbP ac.out;have HE:=kD bp;have b6:¬((y.writes.length:Int)+1<=y.writes.length):=by omega
   have bW:¬(((y.writes.length+1:Nat):Int)<=y.writes.length):=by omega
   clear bp;go_wp2_with fail
   go_ret
   refine⟨A,c,by rw[HE.out];rfl,?_,B0.trans (hB.mono B0.size)⟩
   have:=be HO.out (Nat.le_of_lt bF)
   rw[HE.out]at this;exact this
  have b2:(k:Int)<=y.writes.length:=by omega
  have ab:Hid ((rcB y k d=true->d=false/\∀h:k<y.writes.length,1+y.j<y.writes[k].at_)/\(rcB y k d=false->d=true\/∃h:k<y.writes.length,¬1+y.j<y.writes[k].at_)):=kD (zay bA);go_upto_region 6 with fail
  go_cut [38]from 18 to 37 (fun s38 wx=>s38=.bool (rcB y k d)/\wx=wr.drew)
  case first=>
   as_aux_lemma=>
    have bt:Hid (∀d,rcB y k d=(!d&&(decide (k=y.writes.length)||decide (1+y.j<(y.writes.getD k default).at_)))):=kD fun _=>rfl
    have ao:(wr.drew).cell? ⟨w.heap.size,9,none⟩=some (.int .i64 (1+y.j))/\(wr.drew).cell? ⟨w.heap.size,21,none⟩=some (.slice p.L y.writes.length p.lc):=⟨c9,I⟩;clear ab HO ac S J K M O;cases d;rotate_left
    ·have HV:Hid (rcB y k true=false):=kD (by rw[bt.out];rfl)
     clear c9 I;refine zrm [.take 0,.take 1,.take 2,.take 3,.take 4,.take 5,.take 6,.take 7,.take 8,.take 9,.take 10,.take 11,.take 12,.take 13,.take 14,.take 15,.take 16,.take 17,.take 18,.take 19,.take 20] 21 (fun W=>W.cell? ⟨w.heap.size,9,none⟩=some (.int .i64 (1+y.j))/\W.cell? ⟨w.heap.size,21,none⟩=some (.slice p.L y.writes.length p.lc)) ao ?_
     simp only[kR,kS,Ms.fill,kT,kV];iterate 3 refine ztk ?_
     iterate 17 ((first|refine zsa ?_|refine zse ?_))
     iterate 1 refine ztk ?_
     refine ax ?_;go_wp2_with fail
     go_meet
     case rel=>exact⟨by rw[HV.out],rfl⟩
    by_cases bc:k=y.writes.length
    ·have HV:Hid (rcB y k false=true):=kD (by rw[bt.out,decide_eq_true bc];rfl)
     have bZ:((k:Int)==(y.writes.length:Int))=true:=by rw[beq_iff_eq];omega
     clear c9 I bc;refine zrm [.take 0,.take 1,.take 2,.take 3,.take 4,.take 5,.take 6,.take 7,.take 8,.take 9,.take 10,.take 11,.take 12,.take 13,.take 14,.take 15,.take 16,.take 17,.take 18,.take 19,.take 20] 21 (fun W=>W.cell? ⟨w.heap.size,9,none⟩=some (.int .i64 (1+y.j))/\W.cell? ⟨w.heap.size,21,none⟩=some (.slice p.L y.writes.length p.lc)) ao ?_
     simp only[kR,kS,Ms.fill,kT,kV];iterate 9 refine ztk ?_
     iterate 10 ((first|refine zsa ?_|refine zse ?_))
     iterate 2 refine ztk ?_
     refine ax ?_;go_wp2_with fail
     go_meet
     case rel=>exact⟨by rw[HV.out],rfl⟩
    ·have a7:k<y.writes.length:=by omega
     obtain⟨b,off,hpL,bU,e0,-,-⟩:=RunAt.at_ (bD.out wr (B0.trans (hB.mono B0.size))) a7;have HV:Hid (rcB y k false=decide (1+y.j<y.writes[k].at_)):=kD (by rw[bt.out,decide_eq_false bc,kN,kQ a7];rfl)
     have bZ:((k:Int)==(y.writes.length:Int))=false:=by rw[beq_eq_false_iff_ne];omega
     have bX:(k:Int)<y.writes.length:=by omega
     rw[hpL]at ao I;generalize y.writes[k].at_=av at *;have bS:=And.intro ao.1 (And.intro ao.2 (show (wr.drew).cell? ⟨b,off+k*3,none⟩=some (.int .i64 av)from e0))
     clear c9 I bc ao e0 hpL;refine zrm [.take 0,.take 1,.take 2,.take 3,.take 4,.take 5,.take 6,.take 7,.take 8,.take 9,.take 10,.take 11,.take 12,.take 13,.take 14,.take 15,.take 16,.take 17,.take 18,.take 19,.take 20] 21 (fun W=>W.cell? ⟨w.heap.size,9,none⟩=some (.int .i64 (1+y.j))/\W.cell? ⟨w.heap.size,21,none⟩=some (.slice (some ⟨b,off,none⟩) y.writes.length p.lc)/\W.cell? ⟨b,off+k*3,none⟩=some (.int .i64 av)) bS ?_
     simp only[kR,kS,Ms.fill,kT,kV];iterate 21 refine ztk ?_
     refine ax ?_;go_wp2_with fail
     go_meet
     case rel=>exact⟨by rw[HV.out],rfl⟩
  case rest=>
   obtain⟨rfl,hwc⟩:=hcut;have an:Zr Y wc:=by rw[hwc];exact hB.drew
   have bu:=kD (show wc.ownsRow Y.heap.size 118 3 (.slice A out.length c) out.length (out.flatMap bE) by rw[hwc];exact ar HO.out fun _ _=>rfl)
   clear hwc c9 I S J K M O lT HO hB;go_upto_if 38 with fail
   go_cut [3,4]from 38 to 53 (fun s3 s4 wx=>∃(d2:Bool) (A2:Option Addr) (c2:Nat) (D:List Rec),s4=.bool d2/\s3=.slice A2 D.length c2/\RcM y k d2 D/\D.length<=y.writes.length+2/\wx.ownsRow Y.heap.size 118 3 (.slice A2 D.length c2) D.length (D.flatMap bE)/\Zr Y wx)
   case first=>
    as_aux_lemma=>
     obtain⟨cb,bM⟩:=zxe (rcB y k d);rw[bM]at ab |-;clear bM;cases cb
     ·have HM:=kD (zaz hc ac.out bA (ab.out.2 rfl));go_wp2_with fail
      go_meet
      case rel=>exact⟨d,A,c,out,rfl,rfl,HM.out,by omega,bu.out,an⟩
     ·obtain⟨rfl,bq⟩:=ab.out.1 rfl;have HM:=kD (zbO hc ac.out bA bq);clear ab bq ac;obtain⟨c9,I,S,J,K,M,O,lT⟩:=aL.out wc an;have bO:=bQ.out wc (B0.trans (an.mono B0.size));go_wp2_with fail
      refine bO.mono ?_;rintro e w2 ⟨bw,he⟩;obtain⟨-,g,rfl,hg,bK⟩:=he.resolve_left (fun h=>h.1 bP.out)
      have T:=an.trans (bw.mono an.size);have bb:=kD (aq bu.out bw);have b5:=dR (some ⟨g,0,none⟩) 96 96 (dZ y.now y.now.length) (ei _ _) w2 bK;have bR:Hid (y.oh=⟨1+y.j,5,strOfNums (dZ y.now y.now.length)⟩):=kD rfl;generalize strOfNums (dZ y.now y.now.length)=ms at *;clear c9 I S J K M O lT bO bw bK he;obtain⟨c9,I,S,J,K,M,O,lT⟩:=aL.out w2 T;obtain⟨A3,c3,w3,V,a8,a2⟩:=ic bb.out T.size (by omega) ⟨1+y.j,5,ms⟩
      have a1:=T.trans a2;have HF:=kD (And.intro a8 a1);clear a8 a1 a2;simp only at V
      go_wp2_with (first|(refine ct rfl 118 _ rfl #[.int .i64 (1+y.j),.int .i64 5,.string ms] (Tryz.qo _ _) ?_)|(refine aS rfl _ _ _ rfl (.slice A out.length c) (.slice (some ⟨w2.heap.size,0,none⟩) 1 1) (.slice A3 (out.length+1) c3) rfl rfl V ?_))
      go_meet
      case rel=>exact⟨true,A3,c3,out++[y.oh],rfl,by rw[kY];rfl,HM.out,by rw[kY];show out.length+1<=_;omega,by rw[bR.out];exact HF.out.1,HF.out.2⟩
   case rest=>
    as_aux_lemma=>
     obtain⟨d2,A2,c2,D,rfl,rfl,hm,b3,ba,T⟩:=hcut;have HM:=kD hm;have bb:=kD ba;obtain⟨c9,I,S,J,K,M,O,lT⟩:=aL.out wc T;clear hm ba bu ac ab an;by_cases a7:k<y.writes.length
     ·obtain⟨b,off,hpL,bU,e0,e1,e2⟩:=RunAt.at_ (bD.out wc (B0.trans (T.mono B0.size))) a7;have bX:(k:Int)<y.writes.length:=by omega
      have HS:=kD (HM.out.2 a7);rw[hpL]at I;generalize y.writes[k]=r at *;obtain⟨ra,rk,rd⟩:=r;simp only at e0 e1 e2
      obtain⟨A3,c3,w3,V,a8,a2⟩:=ic bb.out T.size (by omega) ⟨ra,rk,rd⟩
      have a1:=T.trans a2;have HF:=kD (And.intro a8 a1);clear a8 a1 a2 hpL c9 S J K M O;simp only at V
      go_wp2_with (refine aS rfl _ _ _ rfl (.slice A2 D.length c2) (.slice (some ⟨wc.heap.size,0,none⟩) 1 1) (.slice A3 (D.length+1) c3) rfl rfl V ?_)
      go_roundw
      case rel=>exact⟨k+1,d2,A3,c3,D++[⟨ra,rk,rd⟩],by omega,by go_num,rfl,by rw[kY];rfl,HS.out,HF.out.1,HF.out.2⟩
      case measure=>simp[RowKit.intOf]<;>omega
     ·obtain rfl:k=y.writes.length:=by omega
      have bW:¬((y.writes.length:Int)<y.writes.length):=by omega
      have HE:=kD (HM.out.1 rfl);clear c9 S J K M O;go_wp2_with fail
      go_roundw
      case rel=>exact⟨y.writes.length+1,d2,A2,c2,D,by omega,by go_num,rfl,rfl,.inl ⟨rfl,HE.out⟩,bb.out,T⟩
      case measure=>simp[RowKit.intOf]<;>omega
def natsV (l:List Nat):List Value:=l.map fun i:Nat=>Value.int .i64 (i:Int)
def keptW (x:DevS)(keep:List Nat):List (Int × List Int):=keep.map fun i=>x.cache.getD i (0,[])
theorem z0m (s j i:Int)(w:World):
  Calls prog 44 #[.agg #[.int .i64 s,.int .i64 j,.int .i64 i]] w (Zq (.agg #[.int .i64 (rgJ s j i),.int .i64 j]) w):=by
 obtain⟨I,c⟩:=zex ((w.alloc (.cells #[.int .i64 s,.int .i64 j,.int .i64 i] 23)).alloc (.cells #[.int .i64 0,.int .i64 0] 109));have M:Blk I w.heap.size 23 #[.int .i64 s,.int .i64 j,.int .i64 i]:=by rw[c];exact zbn
 have U:Blk I (w.heap.size+1) 109 #[.int .i64 0,.int .i64 0]:=by rw[c];exact zbn
 have K:Zr w I:=by rw[c];exact zgr
 go_enter func44,ntmps44
 go_upto_region 1 with fail
 rw[<-c];clear c;obtain⟨V,lL⟩:=M.zc;go_wp2_with fail
 refine(dN s j i I).mono ?_;rintro e w1 ⟨rfl,A⟩;have O:=M.mD A;have D:=U.mD A;have B1:=K.trans (A.mono K.size);obtain⟨T,a3,a4,a5,Y⟩:∃T a3 a4 a5:Int,rgV s j i=.agg #[.int .i64 (rgJ s j i),.int .i64 T,.int .i64 a3,.int .i64 a4,.int .i64 a5]:=⟨_,_,_,_,rfl⟩;rw[Y];obtain⟨J,S⟩:=zxe (rgJ s j i);have HJ:=kD S;rw[S];clear S;clear Y V lL M U K A;obtain⟨V,lL⟩:=O.zc;have cR:=D.cells;have fR:=D.free;have lR:=D.lt;go_wp2_with fail
 refine bodyPost_ret (v:=.agg #[.int .i64 J,.int .i64 j]) (by simp[results,results44,go_sem,cR,lR]) rfl ?_
 exact⟨by rw[HJ.out],zgr⟩
theorem z8J {y:TxS}(c:y.Clean):y.left=cj y.j - y.recs.length:=by
 unfold TxS.left TxS.most cj;rw[z1o c];split<;>omega
theorem z9k {w:World}{P:Nat->Prop}{x:DevS}{y:TxS}{tv:Array Value}(hq:RTx w P x y tv)(ok:y.Ok)(hc:y.Clean):
  Calls prog 146 #[.agg tv] w (Zq (.int .i64 y.left) w):=by
 obtain⟨O,S⟩:=zex (w.alloc (.cells tv 50));have bT:Blk O w.heap.size 50 tv:=by rw[S];exact zbn
 have B0:Zr w O:=by rw[S];exact zgr
 have aL:=hq.size;obtain⟨n5,n6,n7,-,-⟩:=hq.nums;have a2:=de ok.rg;have hJ:=(ir ok.rg).1;have HQ:=kD hq;have HL:=kD (z8J hc);have a7:y.recs.length<=81:=by have:=z0C hc (i:=y.writes.length+1) (d:=true) (out:=y.recs) (.inl ⟨rfl,rfl⟩);have:=ok.len;unfold TxS.left TxS.most at this;split at this<;>omega
 have a6:(0:Int)<=cj y.j/\cj y.j<=80:=by unfold cj;omega
 have ab:=fun W=>z0m y.s y.j y.i W
 rw[hJ]at ab;have J:∀W,Zr O W->Blk W w.heap.size 50 tv/\W.cell? ⟨w.heap.size,5,none⟩=some (.int .i64 y.s)/\W.cell? ⟨w.heap.size,6,none⟩=some (.int .i64 y.j)/\W.cell? ⟨w.heap.size,7,none⟩=some (.int .i64 y.i):=fun W hW=>by
  have b:=bT.mD hW;exact⟨b,(b.cells 5).trans n5,(b.cells 6).trans n6,(b.cells 7).trans n7⟩
 clear hq;go_enter func146,ntmps146
 go_upto_region 1 with fail
 rw[<-S];clear S;refine zrm [.take 0,.take 1,.take 4,.one 2,.one 3,.one 5,.take 6,.take 7,.one 8] 9 (fun W=>Blk W w.heap.size 50 tv/\W.cell? ⟨w.heap.size,5,none⟩=some (.int .i64 y.s)/\W.cell? ⟨w.heap.size,6,none⟩=some (.int .i64 y.j)/\W.cell? ⟨w.heap.size,7,none⟩=some (.int .i64 y.i)) (J _ (kF _ _).drew) ?_
 simp only[kR,kS,Ms.fill,kT,kV];iterate 2 refine ztk ?_
 refine ai (by rfl) (.agg tv) (fun w' a1=>cr 50 _ rfl rfl (aN a1.1 aL)) ?_
 (try simp only[Act.put,kJ,kH,kI])
 refine ah (by rfl) fun K I=>?_
 go_simp;refine(ab O.drew).mono ?_;rintro e w1 ⟨rfl,an⟩;have M:Zr O w1:=(kF _ _).drew.trans an;refine I _ _ (fun _=>J _ M) ?_
 clear I K;refine ah (by rfl) fun K I=>?_
 go_simp;refine(z1t 1 y.j (by omega) w1).mono ?_
 rintro e w2 ⟨rfl,ao⟩;have D:Zr O w2:=M.trans (ao.mono M.size);refine I _ _ (fun _=>J _ D) ?_
 clear I K;have V:=B0.trans (D.mono B0.size);have U:=z03 (HQ.out.below V) ok hc;refine ah (by rfl) fun K I=>?_
 go_simp;refine U.mono ?_;rintro e w3 ⟨A,c,rfl,av,Y⟩;have T:Zr O w3:=D.trans (Y.mono D.size);have ac:=V.trans (Y.mono V.size);refine I _ _ (fun _=>J _ T) ?_
 clear I K U av;have a8:IntKind.i64.wrap (cj y.j - y.recs.length)=cj y.j - y.recs.length:=by rw[kW];omega
 iterate 2 refine ztk ?_
 refine ah (by rfl) fun K I=>?_
 go_simp;refine I _ _ (fun _=>J _ T) ?_
 clear I K;refine ax ?_;go_wp2_with fail
 go_ret
 exact⟨by rw[HL.out];rfl,ac⟩
theorem z7h {w:World}{P:Nat->Prop}{x:DevS}{y:TxS}{tv:Array Value}(V:RTx w P x y tv)(ok:y.Ok)(hc:y.Clean):
  Calls prog 72 #[.agg tv] w fun e w'=>Zr w w'/\((y.mF≠0/\e=.returned (.tuple #[.slice none 0 0,.int .i64 y.mF]))\/(y.mF=0/\∃A c,e=.returned (.tuple #[.slice A y.recs.length c,.int .i64 0])/\w'.ownsRow w.heap.size 118 3 (.slice A y.recs.length c) y.recs.length (y.recs.flatMap bE))):=by
 obtain⟨w0,D⟩:=zex (w.alloc (.cells tv 50));have bT:Blk w0 w.heap.size 50 tv:=by rw[D];exact zbn
 have Y:Zr w w0:=by rw[D];exact zgr
 have U:=V.size;have HQ:=kD V;have T:=iH (V.below Y);clear V;go_enter func72,ntmps72
 go_upto_region 1 with fail
 rw[<-D];clear D;have l0:=aN bT U;go_wp2_with (refine zlw l0 ?_)
 refine T.mono ?_;rintro e w1 ⟨rfl,S⟩;have ab:=bT.mD S;have M:=Y.trans (S.mono Y.size);have l1:=aN ab U;clear T l0;by_cases J:y.mF=0
 rotate_left
 ·obtain⟨E,K⟩:=zex y.mF;have O:=kD K;rw[<-K]at J |-;have HN:=kD J;have an:(E != 0)=true:=by simpa using J
  clear J K;go_wp2_with fail
  go_ret2
  refine⟨M,.inl ⟨?_,?_⟩⟩<;>first|exact HN.out|(rw[<-O.out];exact HN.out)|rfl|(rw[<-O.out];try rfl)
 have HE:=kD J;rw[J];clear J;have I:=z03 (HQ.out.below M) ok hc;go_wp2_with (refine zlw l1 ?_)
 refine I.mono ?_;rintro e w2 ⟨A,c,rfl,ho,ac⟩;have HO:=kD ho;clear I ho;go_wp2_with fail
 go_ret2
 exact⟨M.trans (ac.mono M.size),.inr ⟨HE.out,A,c,rfl,be HO.out M.size⟩⟩
theorem z9c {w:World}{P:Nat->Prop}{x:DevS}{y:TxS}{tv:Array Value}(hq:RTx w P x y tv):
  Calls prog 71 #[.agg tv] w fun e w'=>Zr w w'/\((y.mF≠0/\e=.returned (.tuple #[.agg #[.int .i64 0,.int .i64 0,.int .i64 0,.slice none 0 0],.int .i64 y.mF]))\/(y.mF=0/\∃A c,e=.returned (.tuple #[.agg #[.int .i64 y.s,.int .i64 y.j,.int .i64 y.i,.slice A y.now.length c],.int .i64 0])/\Reads w A (y.now.map .bool))):=by
 obtain⟨w0,I⟩:=zex ((w.alloc (.cells tv 50)).alloc (.cells #[.int .i64 0,.int .i64 0,.int .i64 0,.slice none 0 0] 47));have bT:Blk w0 w.heap.size 50 tv:=by rw[I];exact zbn
 have bR:Blk w0 (w.heap.size+1) 47 #[.int .i64 0,.int .i64 0,.int .i64 0,.slice none 0 0]:=by rw[I];exact zbn
 have B0:Zr w w0:=by rw[I];exact zgr
 have ab:=hq.size;have U:=iH (hq.below B0);obtain⟨p,V,hp⟩:=hq;have J:tv[17]?=some (.int .i64 y.s)/\tv[18]?=some (.int .i64 y.j)/\tv[19]?=some (.int .i64 y.i)/\tv[20]?=some (.slice p.N y.now.length p.nc):=by rw[V];exact⟨rfl,rfl,rfl,rfl⟩
 have Y:=kD hp.now;clear V hp;go_enter func71,ntmps71
 go_upto_region 1 with fail
 rw[<-I];clear I;have l0:=aN bT ab;go_wp2_with (refine zlw l0 ?_)
 refine U.mono ?_;rintro e w1 ⟨rfl,O⟩;have D:=bT.mD O;have T:=bR.mD O;have B1:=B0.trans (O.mono B0.size);obtain⟨cR,lR⟩:=T.zc;have fR:=T.free;clear U l0;by_cases K:y.mF=0
 rotate_left
 ·obtain⟨E,M⟩:=zex y.mF;have S:=kD M;rw[<-M]at K |-;have Y:=kD K;have aL:(E != 0)=true:=by simpa using K
  clear K M;go_wp2_with fail
  refine bodyPost_ret (v:=.tuple #[.agg #[.int .i64 0,.int .i64 0,.int .i64 0,.slice none 0 0],.int .i64 E]) (by simp[results,results71,go_sem,cR,lR]) rfl ?_
  refine⟨zgr,.inl ⟨?_,?_⟩⟩<;>first|exact Y.out|(rw[<-S.out];exact Y.out)|rfl|(rw[<-S.out];try rfl)
 have HE:=kD K;rw[K];clear K;have ac:=(D.cells 17).trans J.1;have an:=(D.cells 18).trans J.2.1;have ao:=(D.cells 19).trans J.2.2.1;have av:=(D.cells 20).trans J.2.2.2;have lT:=D.lt;go_wp2_with fail
 refine bodyPost_ret (v:=.tuple #[.agg #[.int .i64 y.s,.int .i64 y.j,.int .i64 y.i,.slice p.N y.now.length p.nc],.int .i64 0]) (by simp[results,results71,go_sem,cR,lR]) rfl ?_
 exact⟨zgr,.inr ⟨HE.out,p.N,p.nc,rfl,Y.out⟩⟩
theorem RTx.sv {w:World}{P:Nat->Prop}{x:DevS}{y:TxS}{tv:Array Value}(h:RTx w P x y tv):RSv w P x (tv.toList.take 5).toArray:=by
 obtain⟨p,rfl,h⟩:=h;exact⟨p.A,p.c,p.C,p.d,rfl,h.dev⟩
theorem z2U {w:World}{base:Nat}{e:TypeId}{size n m c:Nat}{A:Option Addr}{xs:List Value}(h:w.ownsRow base e size (.slice A m c) n xs):n<=c:=by
 rcases h.2 with ⟨D,rfl⟩|⟨g,I,J,D,_,_,K,_⟩
 ·omega
 ·injection D with _ _ h3;omega
theorem zd2 (w:World):(isAgg 34).run prog w=.ok true w:=by kernel_rfl
theorem zaU {W:World}{D:Nat}{t:TypeId}{tv:Array Value}(b:Blk W D t tv)(h:tv.size=25):(Instr.loadAt 34 (.pointer (some ⟨D,0,none⟩))).run prog W=.ok (.agg (tv.toList.take 5).toArray) W:=by
 have A:(tv.toList.take 5).length=5:=by rw[kX];simp[h]
 refine eQ (vs:=tv.toList.take 5) (b.at_ 0 _ fun j u c=>?_) (zd2 W) (by rw[A];kernel_rfl)
 rw[ld];rw[mh]at c;split at c
 ·simpa using c
 ·cases c
end Go.Proofs.YtejmknghkbobnaaGreatDoor
