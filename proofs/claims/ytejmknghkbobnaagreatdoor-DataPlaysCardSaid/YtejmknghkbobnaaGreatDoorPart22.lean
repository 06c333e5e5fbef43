import Derived.Test.YtejmknghkbobnaaGreatDoorPart21
set_option linter.all false
set_option maxRecDepth 100000
set_option maxHeartbeats 0
namespace Go.Proofs.YtejmknghkbobnaaGreatDoor
open Go.Proofs.Tryz
open Go.RowKit Go.Maps
theorem zaG (n:Nat)(hn:64<=n/\n<=256)(w:World):
  Calls prog 8 #[.int .i64 n] w fun e w'=>∃S,w.heap.size<=S/\e=.returned (.tuple #[.agg (ap (.slice (some ⟨S,0,none⟩) n n) (.slice none 0 0) 0 (-1) false),.int .i64 0])/\w'.ownsRow w.heap.size 128 128 (.slice (some ⟨S,0,none⟩) n n) n ((List.replicate n zsec).flatMap bd)/\Zr w w':=by
 obtain⟨c,D⟩:=zex (w.alloc (.cells (ap (.slice none 0 0) (.slice none 0 0) 0 0 false) 34));obtain⟨i,hi,hz,an,ac⟩:=info_parts Tryz.pY;have V:=run_make (P:=prog) c 31 128 i _ underlying31 hi hz .i64 .i64 n n (by omega) (Int.le_refl _) (by rw[ac];omega) (by omega)
 rw[lO,an]at V;obtain⟨Y,K⟩:=zex (c.alloc (.cells ((List.replicate n zsec).flatMap bd).toArray 128));have M:(Instr.makeSlice 31 (.int .i64 n) (.int .i64 n)).run prog c=.ok (.slice (some ⟨c.heap.size,0,none⟩) n n) Y:=by
  rw[V,K];show Result.ok _ (c.alloc (.cells (madeCells (fill (.int .u8 0) 128) (n*128)) 128))=_
  rw[z3Z]
 clear V hi hz an ac;have T:Blk c w.heap.size 34 (ap (.slice none 0 0) (.slice none 0 0) 0 0 false):=by rw[D];exact zbn
 have B0:Zr w c:=by rw[D];exact(kF _ _).alloc (kE _) _
 have av:=T.lt;have O:Zr c Y:=by rw[K];exact(kF _ _).alloc (kE _) _
 have ao:Y.ownsRow c.heap.size 128 128 (.slice (some ⟨c.heap.size,0,none⟩) n n) n ((List.replicate n zsec).flatMap bd):=by
  refine⟨gZ n,.inr ⟨c.heap.size,n,_,rfl,kE _,by rw[K];exact heap_alloc_new c _,kE _,by simp only[maxLen];omega,by simp only[List.size_toArray];exact gZ n,?_⟩⟩
  rw[mj (by rw[gZ n];exact kE _)]
 have U:=T.mD O;have B1:=B0.trans (O.mono B0.size);have J:=aT (ty:=34) (vs:=ap (.slice (some ⟨c.heap.size,0,none⟩) n n) (.slice none 0 0) 0 (-1) false) U rfl (by simp[ap,Value.oneCell']) (by kernel_rfl)
 have hS:c.heap.size=w.heap.size+1:=by rw[D];simp
 have I:=U.setRow (cs':=ap (.slice (some ⟨c.heap.size,0,none⟩) n n) (.slice none 0 0) 0 (-1) false);have A:(Y.setRow w.heap.size (ap (.slice (some ⟨c.heap.size,0,none⟩) n n) (.slice none 0 0) 0 (-1) false)).ownsRow c.heap.size 128 128 (.slice (some ⟨c.heap.size,0,none⟩) n n) n ((List.replicate n zsec).flatMap bd):=
  ar ao fun q hq=>by
   have aL:q=c.heap.size:=by first|(cases hq;rfl)|(simpa using hq.symm)|(simpa using hq)
   exact ak _ _ _ _ (by omega)
 have B2:Zr w (Y.setRow w.heap.size (ap (.slice (some ⟨c.heap.size,0,none⟩) n n) (.slice none 0 0) 0 (-1) false)):=Below.setRow B1 (kE _) _;rw[hS]at M J I A B2;unfold ap at J D I A B2;rw[D]at M;clear ao U B1 T B0 O D K;obtain⟨W2,ab⟩:=zex (Y.setRow w.heap.size #[.slice (some ⟨w.heap.size+1,0,none⟩) n n,.slice none 0 0,.int .i64 0,.int .i64 (-1),.bool false]);rw[<-ab]at J I A B2;clear ab;obtain⟨cR,lR⟩:=I.zc;have n1:¬(n:Int)<64:=by omega
 have n2:¬256<(n:Int):=by omega
 go_enter func8,ntmps8
 go_wp2_with (refine zsb J ?_)
 refine bodyPost_ret (v:=.tuple #[.agg (ap (.slice (some ⟨w.heap.size+1,0,none⟩) n n) (.slice none 0 0) 0 (-1) false),.int .i64 0]) (by simp[results,results8,go_sem,cR,lR,ap]) rfl ?_
 exact⟨_,Nat.le_succ _,rfl,be A (Nat.le_succ _),B2⟩
theorem SecAt.mD {B:Nat}{w w':World}{p:Addr}{xs:List Int}(h:SecAt w p xs)(c:Below B w w')(D:p.block<B):SecAt w' p xs:=
 ⟨h.1,h.2.1,fun j A=>(c.cell (p:=⟨p.block,p.off+j,none⟩) D).trans (h.2.2 j A)⟩
theorem z7t {C0:Option Addr}{d0:Nat}(S n c k:Nat)(tk pw:Int)(off:Bool)(xs:List Int)(hk:k<n)(hn:n<=256)(w:World)(ac:S<w.heap.size)(hS:SecAt w ⟨S,k*128,none⟩ xs):
  Calls prog 226 #[.agg (ap (.slice (some ⟨S,0,none⟩) n c) (.slice C0 0 d0) tk pw off),.int .i64 k] w (Zq (.agg (ag xs)) w):=by
 have hz:=cy;have K:=hS.1;obtain⟨A,D⟩:=zex ((w.alloc (.cells (ap (.slice (some ⟨S,0,none⟩) n c) (.slice C0 0 d0) tk pw off) 34)).alloc (.cells (ag zsec) 128));have bD:Blk A w.heap.size 34 (ap (.slice (some ⟨S,0,none⟩) n c) (.slice C0 0 d0) tk pw off):=by rw[D];exact zbn
 have bR:Blk A (w.heap.size+1) 128 (ag zsec):=by rw[D];exact zbn
 have V:Zr w A:=by rw[D];exact zgr
 have ab:=hS.mD V ac;unfold ap at *;go_enter func226,ntmps226
 go_upto_region 1 with fail
 rw[<-D];clear D;obtain⟨cD,lD⟩:=bD.zc;have ao:(k:Int)<n:=by omega
 have bT:Blk (A.alloc (.cells (ag zsec) 128)) A.heap.size 128 (ag zsec):=Blk.new _ _ _;go_wp2_with (first
  | (refine ix rfl _ rfl ⟨S,k*128,none⟩ (by first|rfl|simp) ab ?_)
  | (refine aA rfl _ _ rfl A.heap.size xs rfl rfl bT am K ?_;obtain⟨U,J⟩:=zex (World.setRow (A.alloc (.cells (ag zsec) 128)) A.heap.size (ag xs));rw[<-J];have I:Zr A U:=(by rw[J];exact Below.setRow ((kF _ _).alloc (kE _) _) (kE _) _);have T:Blk U A.heap.size 128 (ag xs):=(by rw[J];exact Blk.setRow bT);have M:=bD.mD I;have O:=bR.mD I;have an:=M.cells;have B1:Zr w U:=V.trans (I.mono V.size);clear J I))
 have l0:=T.lt;have av:=M.lt;go_loopw [6] (fun q wr=>q=.int .i64 0/\wr=U) (fun _ _=>0)
 case atStart=>exact⟨rfl,rfl⟩
 case round=>
  obtain⟨rfl,hw⟩:=hrel;subst hw;go_wp2_with (first
   | (refine aY rfl _ rfl A.heap.size rfl T K ?_)
   | (refine aA rfl _ _ rfl (w.heap.size+1) xs rfl rfl O am K ?_))
  have Y:=O.setRow (cs':=ag xs);refine bodyPost_ret (results_cell_row rfl _ _ (w.heap.size+1) 128 (ag xs) (0,0) _ rfl Y underlying128 rfl (by rw[dJ,K];exact ij)) rfl ?_
  exact⟨rfl,Below.setRow B1 (by omega) _⟩
theorem z4d {C0:Option Addr}{d0:Nat}(S n c k:Nat)(T O:Int)(xs:List Int)(hk:k<n)(hn:n<=256)(w:World)(I:S<w.heap.size)(Y:SecAt w ⟨S,k*128,none⟩ xs):
  Calls prog 196 #[.agg (ap (.slice (some ⟨S,0,none⟩) n c) (.slice C0 0 d0) T O false),.int .i64 k] w (Zq (.tuple #[.agg (ag xs),.int .i64 0]) w):=by
 have hz:=cy;have K:=Y.1;obtain⟨U,A⟩:=zex ((w.alloc (.cells (ap (.slice (some ⟨S,0,none⟩) n c) (.slice C0 0 d0) T O false) 34)).alloc (.cells (ag zsec) 128));have bD:Blk U w.heap.size 34 (ap (.slice (some ⟨S,0,none⟩) n c) (.slice C0 0 d0) T O false):=by rw[A];exact zbn
 have bR:Blk U (w.heap.size+1) 128 (ag zsec):=by rw[A];exact zbn
 have M:Zr w U:=by rw[A];exact zgr
 have V:=Y.mD M I;have hr:=z7t (C0:=C0) (d0:=d0) S n c k T O false xs hk hn U (lh I M.size) V;unfold ap at *;go_enter func196,ntmps196
 go_upto_region 1 with fail
 rw[<-A];clear A;obtain⟨cD,lD⟩:=bD.zc;have ac:¬(n:Int)<=k:=by omega
 have ab:¬(k:Int)<0:=by omega
 go_wp2_with fail
 refine hr.mono ?_;rintro e w1 ⟨rfl,J⟩;have D:=bR.mD J;have B1:=M.trans (J.mono M.size);go_wp2_with (refine aA rfl _ _ rfl (w.heap.size+1) xs rfl rfl D am K ?_)
 refine bodyPost_ret (fp rfl rfl rfl (D.setRow (cs':=ag xs)) K) rfl ?_;exact⟨rfl,Below.setRow B1 (by omega) _⟩
theorem z8Z (a:Int)(xs:List Int):∃x y z,jf a xs=#[.int .i64 x,.int .u32 y,.string z]:=by
 unfold jf;split
 ·exact⟨_,_,_,rfl⟩
 ·exact⟨_,_,_,rfl⟩
theorem zaF {C0:Option Addr}{d0:Nat}(S n c k:Nat)(tk Y:Int)(xs:List Int)(av:bj xs)(hk:k<n)(hn:n<=256)(w:World)(O:S<w.heap.size)(hS:SecAt w ⟨S,k*128,none⟩ xs):
  Calls prog 132 #[.agg (ap (.slice (some ⟨S,0,none⟩) n c) (.slice C0 0 d0) tk Y false),.int .i64 k] w (OpenPost k xs w):=by
 have hz:=cy;have M:=hS.1;obtain⟨w0,A⟩:=zex ((w.alloc (.cells (ap (.slice (some ⟨S,0,none⟩) n c) (.slice C0 0 d0) tk Y false) 34)).alloc (.cells #[Value.int .i64 0,Value.int .u32 0,Value.string ⟨#[]⟩] 190));have bD:Blk w0 w.heap.size 34 (ap (.slice (some ⟨S,0,none⟩) n c) (.slice C0 0 d0) tk Y false):=by rw[A];exact zbn
 have bR:Blk w0 (w.heap.size+1) 190 #[Value.int .i64 0,Value.int .u32 0,Value.string ⟨#[]⟩]:=by rw[A];exact zbn
 have V:Zr w w0:=by rw[A];exact zgr
 have ao:=hS.mD V O;have hr:=z4d (C0:=C0) (d0:=d0) S n c k tk Y xs hk hn w0 (lh O V.size) ao;unfold ap at *;go_enter func132,ntmps132
 go_upto_region 1 with fail
 rw[<-A];clear A;obtain⟨cD,lD⟩:=bD.zc;go_wp2_with fail
 refine hr.mono ?_;rintro e I ⟨rfl,T⟩;have ab:=bR.mD T;have B1:=V.trans (T.mono V.size);have bT:Blk (I.alloc (.cells (ag zsec) 128)) I.heap.size 128 (ag zsec):=Blk.new _ _ _;go_wp2_with (first
  | (refine aY rfl _ rfl I.heap.size rfl an M ?_)
  | (refine aA rfl _ _ rfl I.heap.size xs rfl rfl bT am M ?_;obtain⟨W2,D⟩:=zex (World.setRow (I.alloc (.cells (ag zsec) 128)) I.heap.size (ag xs));rw[<-D];have K:Zr I W2:=(by rw[D];exact Below.setRow ((kF _ _).alloc (kE _) _) (kE _) _);have an:Blk W2 I.heap.size 128 (ag xs):=(by rw[D];exact Blk.setRow bT);have ac:=ab.mD K;have B2:Zr w W2:=B1.trans (K.mono B1.size);clear D K))
 refine(z9l k xs M av _).mono ?_;rintro e w3 ⟨U,rfl⟩;have J:=ac.mD U;have B3:=B2.trans (U.mono B2.size);obtain⟨x,y,z,hv⟩:=z8Z k xs;have cR:=J.cells;have fR:=J.free;have lR:=J.lt;have HV:=kD hv;rw[hv];generalize hE:cY k xs=E;have HE:=kD hE;clear hv hE;go_wp2_with fail
 refine bodyPost_ret (v:=.tuple #[.agg #[.int .i64 x,.int .u32 y,.string z],.int .i64 E]) (by simp[results,results132,go_sem,cR,lR]) rfl ?_
 exact⟨zgr,by rw[HV.out,HE.out]⟩
def stV (A:Option Addr)(c:Nat)(C:Option Addr)(d:Nat)(x:DevS):Value:=.agg (ap (.slice A x.stable.length c) (.slice C x.cache.length d) x.taken x.power x.off)
def Lies (P:Nat->Prop)(A:Option Addr):Prop:=∀a,A=some a->P a.block/\a=⟨a.block,0,none⟩
theorem Lies.some {P:Nat->Prop}{b:Nat}(h:P b):Lies P (some ⟨b,0,Option.none⟩):=fun a e=>(by cases e;exact⟨h,rfl⟩)
theorem Lies.mono {P Q:Nat->Prop}{A:Option Addr}(h:Lies P A)(k:∀b,P b->Q b):Lies Q A:=fun a e=>⟨k _ (h a e).1,(h a e).2⟩
structure RSt (w:World)(P:Nat->Prop)(A:Option Addr)(C:Option Addr)(x:DevS):Prop where
 ok:x.Ok
 sta:Reads w A (x.stable.flatMap bd)
 cac:Reads w C (x.cache.flatMap dwV)
 la:Lies P A
 lc:x.cache=[]\/Lies P C
theorem RSt.below {w w':World}{P:Nat->Prop}{A C:Option Addr}{x:DevS}(h:RSt w P A C x)(c:Zr w w'):RSt w' P A C x:=⟨h.ok,h.sta.below c,h.cac.below c,h.la,h.lc⟩
theorem Reads.block_lt {w:World}{A:Option Addr}{xs:List Value}(h:Reads w A xs)(I:xs≠[]):∀a,A=some a->a.block<w.heap.size:=fun a e=>by
 rcases h with h|⟨b,off,c,D,-⟩
 ·exact absurd h I
 ·rw[e]at c;cases c;exact D
theorem Reads.frame {w w':World}{A:Option Addr}{xs:List Value}(h:Reads w A xs)(D:∀a,A=some a->a.block<w.heap.size->w'.heap[a.block]?=w.heap[a.block]?)(J:w.heap.size<=w'.heap.size):Reads w' A xs:=by
 rcases h with h|⟨b,off,rfl,c,I⟩
 ·exact .inl h
 ·exact .inr ⟨b,off,rfl,lh c J,fun k u K=>(World.cell?_of_block (w:=w) (a:=⟨b,off+k,none⟩) (D ⟨b,off,none⟩ rfl c)).trans (I k u K)⟩
theorem gP {l:List (List Int)}(h:∀s∈l,s.length=128):(l.flatMap bd).length=l.length*128:=by
 induction l with
 | nil=>rfl
 | cons s t ih=>
  rw[m9,kY,ih (fun s c=>h s (ly _ c)),lr]
  have:=h s (me ..)
  simp only[bd,lZ,this];omega
theorem z0x {l:List (Int × List Int)}(h:∀p∈l,p.2.length=128):(l.flatMap dwV).length=l.length*129:=by
 induction l with
 | nil=>rfl
 | cons s t ih=>
  rw[m9,kY,ih (fun s c=>h s (ly _ c)),lr]
  have:=h s (me ..)
  simp only[dwV,bd,lr,lZ,this];omega
theorem zar {l:List (List Int)}:∀u∈l.flatMap bd,u.oneCell'=true:=fun u A=>by
 obtain⟨s,_,c⟩:=List.mem_flatMap.1 A;exact jo s u c
theorem z8Y {l:List (Int × List Int)}:∀u∈l.flatMap dwV,u.oneCell'=true:=fun u A=>by
 obtain⟨s,_,c⟩:=List.mem_flatMap.1 A;exact iP s u c
theorem RSt.sne {w:World}{P:Nat->Prop}{A C:Option Addr}{x:DevS}(h:RSt w P A C x):x.stable.flatMap bd≠[]:=fun e=>by
 have c:=gP fun s D=>(h.ok.sec s D).1
 rw[e]at c;have:=h.ok.lo
 simp only[lH]at c;omega
theorem RSt.cne {w:World}{P:Nat->Prop}{A C:Option Addr}{x:DevS}(h:RSt w P A C x)(D:x.cache≠[]):x.cache.flatMap dwV≠[]:=fun e=>by
 have c:=z0x fun s I=>(h.ok.cac s I).2.2.1
 rw[e]at c;have:x.cache.length≠0:=fun h=>D (md h)
 simp only[lH]at c;omega
theorem RSt.mono {w:World}{P Q:Nat->Prop}{A C:Option Addr}{x:DevS}(h:RSt w P A C x)(k:∀b,P b->b<w.heap.size->Q b):RSt w Q A C x:=
 ⟨h.ok,h.sta,h.cac,fun a e=>⟨k _ (h.la a e).1 (h.sta.block_lt h.sne a e),(h.la a e).2⟩,by
  by_cases D:x.cache=[]
  ·exact .inl D
  ·rcases h.lc with c|c
   ·exact absurd c D
   ·exact .inr fun a e=>⟨k _ (c a e).1 (h.cac.block_lt (h.cne D) a e),(c a e).2⟩⟩
theorem RSt.frame {w w':World}{P:Nat->Prop}{A C:Option Addr}{x:DevS}(h:RSt w P A C x)(I:∀b,P b->b<w.heap.size->w'.heap[b]?=w.heap[b]?)(K:w.heap.size<=w'.heap.size):RSt w' P A C x:=
 ⟨h.ok,h.sta.frame (fun a e c=>I _ (h.la a e).1 c) K,by
  by_cases J:x.cache=[]
  ·exact .inl (by rw[J];rfl)
  ·rcases h.lc with c|c
   ·exact absurd c J
   ·exact h.cac.frame (fun a e D=>I _ (c a e).1 D) K,h.la,h.lc⟩
theorem RSt.row {w:World}{P:Nat->Prop}{A C:Option Addr}{x:DevS}(h:RSt w P A C x){g:Nat}(D:∀b,P b->b≠g)(cs:Array Value):RSt (w.setRow g cs) P A C x:=h.frame (fun b c _=>ak w g b cs (D b c)) (by simp)
theorem RSt.cell {w:World}{P:Nat->Prop}{A C:Option Addr}{x:DevS}(h:RSt w P A C x){p:Addr}(D:∀b,P b->b≠p.block)(u:Value):RSt (w.setCell p u) P A C x:=h.frame (fun b c _=>Below.heap_setCell w p u b (D b c)) (by simp)
def Apt_ (P:Nat->Prop)(B E:Nat)(b:Nat):Prop:=P b/\(b<B\/E<=b)
theorem Apt_.new {P:Nat->Prop}{B E:Nat}(D:∀b,B<=b->P b)(c:B<=E):∀b,E<=b->Apt_ P B E b:=fun b A=>⟨D b (kO c A),.inr A⟩
theorem Apt_.ne {P:Nat->Prop}{B E g:Nat}(A:B<=g)(D:g<E):∀b,Apt_ P B E b->b≠g:=fun b c e=>by rcases c.2 with h|h<;>omega
theorem RSt.apt {w c:World}{P:Nat->Prop}{A C:Option Addr}{x:DevS}(h:RSt w P A C x)(J:Zr w c)(E:Nat):RSt c (Apt_ P w.heap.size E) A C x:=(h.mono fun _ D I=>⟨D,.inl I⟩).below J
theorem z6B (A:Option Addr)(n c:Nat)(xs:List Value)(hx:xs.length=n*128)(hn:n<=1000)(w:World)(hR:Reads w A xs)(h1:∀u∈xs,u.oneCell'=true):
  ∃v w',(Builtin.append_ #[31,31] 31 #[.slice (some ⟨w.heap.size,0,none⟩) 0 0,.slice A n c]).run prog (w.alloc (.cells #[] 128))=.ok v w'/\w'.ownsRow w.heap.size 128 128 v n xs/\Zr w w':=by
 obtain⟨i,z,S,U,ao,ab,av⟩:∃i z,prog.info? 128=some i/\i.zero=some z/\i.size=128/\i.bytes=128/\z.cells.size=128:=by
  have I:((prog.info? 128).bind fun i=>i.zero.map fun z=>(i.size,i.bytes,z.cells.size))=some (128,128,128):=by kernel_rfl
  cases S:prog.info? 128 with
  | none=>rw[S]at I;cases I
  | some i=>
   rw[S]at I;cases U:i.zero with
   | none=>rw[Option.bind_some,U]at I;cases I
   | some z=>
    rw[Option.bind_some,U]at I;simp only[Option.map_some,lx,Prod.mk.injEq]at I;exact⟨i,z,rfl,U,I.1,I.2.1,I.2.2⟩
 obtain⟨V,M⟩:=zex (w.alloc (.cells #[] 128));have D:V.ownsRow w.heap.size 128 128 (.slice (some ⟨w.heap.size,0,none⟩) 0 0) 0 []:=by rw[M];exact World.ownsRow_made w #[] 0 (kE _) (by simp) rfl
 have O:Zr w V:=by rw[M];exact(kF _ _).alloc (kE _) _
 rw[<-M];rcases A with _|ad
 ·rcases hR with h|⟨b,off,Y,-⟩
  ·subst h;have an:n=0:=by simp at hx;omega
   subst an;exact⟨_,_,dh V w.heap.size _ _ _ i 128 underlying31 S _ _ _ D c,D,O⟩
  ·cases Y
 ·have J:∀j u,xs[j]?=some u->V.cell? (ad.add j)=some u:=fun j u hu=>by
   rcases hR.below O with h|⟨b,off,Y,a1,hc⟩
   ·subst h;simp at hu
   ·cases Y;rw[ep];exact hc j u hu
  obtain⟨v1,w1,T,K,ac,-,aL⟩:=run_append_own_at (P:=prog) V w.heap.size 31 31 128 i z 128 128 underlying31 S U ao ab av (by omega) _ _ _ D ad n c xs hx J h1 (by simp only[maxLen];omega) (by omega) O.size
  exact⟨v1,w1,T,by simpa using K,O.grown ac O.size (fun k hk=>by simp[Value.ownBlock]at hk;omega)⟩
theorem z6A (A:Option Addr)(n c:Nat)(xs:List Value)(hx:xs.length=n*129)(hn:n<=1000)(w:World)(hR:Reads w A xs)(h1:∀u∈xs,u.oneCell'=true):
  ∃v w',(Builtin.append_ #[32,32] 32 #[.slice (some ⟨w.heap.size,0,none⟩) 0 0,.slice A n c]).run prog (w.alloc (.cells #[] 130))=.ok v w'/\w'.ownsRow w.heap.size 130 129 v n xs/\Zr w w':=by
 obtain⟨i,z,S,U,ao,ab,av⟩:∃i z,prog.info? 130=some i/\i.zero=some z/\i.size=129/\i.bytes=136/\z.cells.size=129:=by
  have I:((prog.info? 130).bind fun i=>i.zero.map fun z=>(i.size,i.bytes,z.cells.size))=some (129,136,129):=by kernel_rfl
  cases S:prog.info? 130 with
  | none=>rw[S]at I;cases I
  | some i=>
   rw[S]at I;cases U:i.zero with
   | none=>rw[Option.bind_some,U]at I;cases I
   | some z=>
    rw[Option.bind_some,U]at I;simp only[Option.map_some,lx,Prod.mk.injEq]at I;exact⟨i,z,rfl,U,I.1,I.2.1,I.2.2⟩
 obtain⟨V,M⟩:=zex (w.alloc (.cells #[] 130));have D:V.ownsRow w.heap.size 130 129 (.slice (some ⟨w.heap.size,0,none⟩) 0 0) 0 []:=by rw[M];exact World.ownsRow_made w #[] 0 (kE _) (by simp) rfl
 have O:Zr w V:=by rw[M];exact(kF _ _).alloc (kE _) _
 rw[<-M];rcases A with _|ad
 ·rcases hR with h|⟨b,off,Y,-⟩
  ·subst h;have an:n=0:=by simp at hx;omega
   subst an;exact⟨_,_,dh V w.heap.size _ _ _ i 129 underlying32 S _ _ _ D c,D,O⟩
  ·cases Y
 ·have J:∀j u,xs[j]?=some u->V.cell? (ad.add j)=some u:=fun j u hu=>by
   rcases hR.below O with h|⟨b,off,Y,a1,hc⟩
   ·subst h;simp at hu
   ·cases Y;rw[ep];exact hc j u hu
  obtain⟨v1,w1,T,K,ac,-,aL⟩:=run_append_own_at (P:=prog) V w.heap.size 32 32 130 i z 129 136 underlying32 S U ao ab av (by omega) _ _ _ D ad n c xs hx J h1 (by simp only[maxLen];omega) (by omega) O.size
  exact⟨v1,w1,T,by simpa using K,O.grown ac O.size (fun k hk=>by simp[Value.ownBlock]at hk;omega)⟩
def zbd (w:World)(x:DevS)(e:Ending)(w':World):Prop:=
 ∃sv cv,e=.returned (.agg (ap sv cv x.taken x.power x.off))/\w'.ownsRow w.heap.size 128 128 sv x.stable.length (x.stable.flatMap bd)/\w'.ownsRow w.heap.size 130 129 cv x.cache.length (x.cache.flatMap dwV)/\Zr w w'
theorem z9d (P:Nat->Prop)(A C:Option Addr)(c d:Nat)(x:DevS)(w:World)(h:RSt w P A C x):
  Calls prog 129 #[stV A c C d x] w (zbd w x):=by
 have hN:=h.ok.hi;have hL:=h.ok.len;obtain⟨w0,S⟩:=zex ((w.alloc (.cells (ap (.slice A x.stable.length c) (.slice C x.cache.length d) x.taken x.power x.off) 34)).alloc (.cells (ap (.slice none 0 0) (.slice none 0 0) 0 0 false) 34));have bD:Blk w0 w.heap.size 34 (ap (.slice A x.stable.length c) (.slice C x.cache.length d) x.taken x.power x.off):=by rw[S];exact zbn
 have bR:Blk w0 (w.heap.size+1) 34 (ap (.slice none 0 0) (.slice none 0 0) 0 0 false):=by rw[S];exact zbn
 have B0:Zr w w0:=by rw[S];exact zgr
 have z0:w.heap.size+2=w0.heap.size:=by rw[S];simp
 have h0:=h.below B0;obtain⟨sv,w1,Y,K,T⟩:=z6B A x.stable.length c _ (gP fun s hs=>(h.ok.sec s hs).1) (by omega) w0 h0.sta zar
 obtain⟨I,J,rfl⟩:=aw K;have an:=bD.mD T;have a7:=bR.mD T;have B1:=B0.trans (T.mono B0.size);unfold stV ap at *;go_enter func129,ntmps129
 go_upto_region 1 with fail
 rw[<-S];clear S;obtain⟨cD,lD⟩:=bD.zc;obtain⟨bn,bw⟩:=an.zc;have bt:=an.free;go_upto_region 2 with (first
  | (refine aS rfl _ _ _ rfl (.slice (some ⟨w0.heap.size,0,none⟩) 0 0) (.slice A x.stable.length c) (.slice I x.stable.length J) rfl rfl Y ?_))
 have ao:Blk (w1.setCell ⟨w.heap.size,0,none⟩ (.slice I x.stable.length J)) w.heap.size 34 #[.slice I x.stable.length J,.slice C x.cache.length d,.int .i64 x.taken,.int .i64 x.power,.bool x.off]:=an.mG 0 (.slice I x.stable.length J);have a8:Blk (w1.setCell ⟨w.heap.size,0,none⟩ (.slice I x.stable.length J)) (w.heap.size+1) 34 #[.slice none 0 0,.slice none 0 0,.int .i64 0,.int .i64 0,.bool false]:=(Below.heap_setCell w1 ⟨w.heap.size,0,none⟩ _ (w.heap.size+1) (by simp)).trans a7
 have B2:Zr w (w1.setCell ⟨w.heap.size,0,none⟩ (.slice I x.stable.length J)):=kG B1 (kE _) _;have D:(w1.setCell ⟨w.heap.size,0,none⟩ (.slice I x.stable.length J)).ownsRow w0.heap.size 128 128 (.slice I x.stable.length J) x.stable.length (x.stable.flatMap bd):=
  ar K fun q V=>Below.heap_setCell w1 ⟨w.heap.size,0,none⟩ _ q (by have:=(K.lt q V).1;simp;omega)
 obtain⟨W2,a2⟩:=zex (w1.setCell ⟨w.heap.size,0,none⟩ (.slice I x.stable.length J));rw[<-a2]at ao a8 B2 D |-;have z2:=kD (show W2.heap.size=w1.heap.size by rw[a2];simp)
 clear a2;clear cD lD bn bw bt an a7 bD bR Y K;have h2:=h.below B2;obtain⟨cv,w3,ab,M,U⟩:=z6A C x.cache.length d _ (z0x fun s hs=>(h.ok.cac s hs).2.2.1) (by omega) W2 h2.cac z8Y
 obtain⟨a3,O,rfl⟩:=aw M;have av:=ao.mD U;have bk:=a8.mD U;have B3:=B2.trans (U.mono B2.size);have ac:w3.ownsRow w0.heap.size 128 128 (.slice I x.stable.length J) x.stable.length (x.stable.flatMap bd):=ar D fun q V=>U.block q (D.lt q V).2
 obtain⟨bp,bA⟩:=ao.zc;obtain⟨bq,bB⟩:=av.zc;have bu:=av.free;go_upto_region 3 with (first
  | (refine aS rfl _ _ _ rfl (.slice (some ⟨W2.heap.size,0,none⟩) 0 0) (.slice C x.cache.length d) (.slice a3 x.cache.length O) rfl rfl ab ?_))
 have a6:Blk (w3.setCell ⟨w.heap.size,1,none⟩ (.slice a3 x.cache.length O)) w.heap.size 34 #[.slice I x.stable.length J,.slice a3 x.cache.length O,.int .i64 x.taken,.int .i64 x.power,.bool x.off]:=av.mG 1 (.slice a3 x.cache.length O);have aL:Blk (w3.setCell ⟨w.heap.size,1,none⟩ (.slice a3 x.cache.length O)) (w.heap.size+1) 34 #[.slice none 0 0,.slice none 0 0,.int .i64 0,.int .i64 0,.bool false]:=(Below.heap_setCell w3 ⟨w.heap.size,1,none⟩ _ (w.heap.size+1) (by simp)).trans bk
 have B4:Zr w (w3.setCell ⟨w.heap.size,1,none⟩ (.slice a3 x.cache.length O)):=kG B3 (kE _) _;have bJ:=U.size;have o2:(w3.setCell ⟨w.heap.size,1,none⟩ (.slice a3 x.cache.length O)).ownsRow w0.heap.size 128 128 (.slice I x.stable.length J) x.stable.length (x.stable.flatMap bd):=
  ar ac fun q V=>Below.heap_setCell w3 ⟨w.heap.size,1,none⟩ _ q (by have:=(D.lt q V).1;simp;omega)
 have o3:(w3.setCell ⟨w.heap.size,1,none⟩ (.slice a3 x.cache.length O)).ownsRow W2.heap.size 130 129 (.slice a3 x.cache.length O) x.cache.length (x.cache.flatMap dwV):=
  ar M fun q V=>Below.heap_setCell w3 ⟨w.heap.size,1,none⟩ _ q (by have:=(M.lt q V).1;have:=B2.size;have:=z2.out;have:=T.size;simp;omega)
 obtain⟨W4,bb⟩:=zex (w3.setCell ⟨w.heap.size,1,none⟩ (.slice a3 x.cache.length O));rw[<-bb]at a6 aL B4 o2 o3 |-;clear bb bp bA bq bB bu ab M D ac;obtain⟨bF,bG⟩:=a6.zc;have bc:=aT (ty:=34) (vs:=ap (.slice I x.stable.length J) (.slice a3 x.cache.length O) x.taken x.power x.off) aL rfl (by simp[ap,Value.oneCell']) (by kernel_rfl)
 have ba:=aL.setRow (cs':=ap (.slice I x.stable.length J) (.slice a3 x.cache.length O) x.taken x.power x.off);unfold ap at bc ba;go_wp2_with (first
  | (refine zsb bc ?_))
 obtain⟨br,bC⟩:=ba.zc;have z3:=B2.size;refine bodyPost_ret (v:=.agg (ap (.slice I x.stable.length J) (.slice a3 x.cache.length O) x.taken x.power x.off)) (by simp[results,results129,go_sem,br,bC,ap]) rfl ?_
 refine⟨_,_,rfl,be (ar o2 fun q V=>ak _ _ _ _ (by have:=(o2.lt q V).1;omega)) (by omega),be (ar o3 fun q V=>ak _ _ _ _ (by have:=(o3.lt q V).1;have:=z2.out;have:=T.size;omega)) z3,Below.setRow B4 (Nat.le_succ _) _⟩
theorem z94 {w:World}{base J n:Nat}{t:TypeId}{v:Value}{xs:List Value}(h:w.ownsRow base t J v n xs)(M:0<n):∃S c,v=.slice (some ⟨S,0,none⟩) n c/\base<=S:=by
 rcases h.2 with ⟨_,K⟩|⟨g,A,D,rfl,I,-⟩
 ·omega
 ·exact⟨g,A,rfl,I⟩
theorem z1u (P:Nat->Prop)(A C:Option Addr)(c d:Nat)(x:DevS)(w:World)(h:RSt w P A C x):
  Calls prog 180 #[stV A c C d x] w fun e w'=>∃sv,e=.returned (.agg (ap sv (.slice none 0 0) x.taken x.power x.off))/\w'.ownsRow w.heap.size 128 128 sv x.stable.length (x.mX.stable.flatMap bd)/\Zr w w':=by
 have hN:=h.ok.hi;have hlo:=h.ok.lo;have hL:=h.ok.len;obtain⟨w0,Y⟩:=zex ((w.alloc (.cells (ap (.slice A x.stable.length c) (.slice C x.cache.length d) x.taken x.power x.off) 34)).alloc (.cells (ap (.slice none 0 0) (.slice none 0 0) 0 0 false) 34));have bD:Blk w0 w.heap.size 34 (ap (.slice A x.stable.length c) (.slice C x.cache.length d) x.taken x.power x.off):=by rw[Y];exact zbn
 have bR:Blk w0 (w.heap.size+1) 34 (ap (.slice none 0 0) (.slice none 0 0) 0 0 false):=by rw[Y];exact zbn
 have B0:Zr w w0:=by rw[Y];exact zgr
 have z0:w.heap.size+2=w0.heap.size:=by rw[Y];simp
 have h0:=h.below B0;have hc:=z9d P A C c d x w0 h0;unfold stV ap at hc;unfold stV ap at *;go_enter func180,ntmps180
 go_upto_region 1 with fail
 rw[<-Y];clear Y;obtain⟨cD,lD⟩:=bD.zc;go_wp2_with fail
 refine hc.mono ?_;rintro e w1 ⟨sv,cv,rfl,T,U,aL⟩;obtain⟨S,K,rfl,hS⟩:=z94 T (by omega)
 obtain⟨a2,c2,rfl⟩:=aw U;have bb:=bD.mD aL;have bt:=bR.mD aL;have B1:=B0.trans (aL.mono B0.size);have ac:=aT (ty:=34) (vs:=ap (.slice (some ⟨S,0,none⟩) x.stable.length K) (.slice a2 x.cache.length c2) x.taken x.power x.off) bb rfl (by simp[ap,Value.oneCell']) (by kernel_rfl)
 have bp:=bb.setRow (cs':=ap (.slice (some ⟨S,0,none⟩) x.stable.length K) (.slice a2 x.cache.length c2) x.taken x.power x.off);have bu:=bt.mO (cs':=ap (.slice (some ⟨S,0,none⟩) x.stable.length K) (.slice a2 x.cache.length c2) x.taken x.power x.off) (show w.heap.size+1≠w.heap.size by omega)
 unfold ap at *;clear cD lD bD bR hc h0;go_wp2_with (first
  | (refine zsb ac ?_))
 obtain⟨W2,ab⟩:=zex (w1.setRow w.heap.size #[.slice (some ⟨S,0,none⟩) x.stable.length K,.slice a2 x.cache.length c2,.int .i64 x.taken,.int .i64 x.power,.bool x.off]);have bP:W2.ownsRow w0.heap.size 128 128 (.slice (some ⟨S,0,none⟩) x.stable.length K) x.stable.length (x.stable.flatMap bd):=by
  rw[ab];exact ar T fun q O=>ak _ _ _ _ (by have:=(T.lt q O).1;omega)
 have bQ:W2.ownsRow w0.heap.size 130 129 (.slice a2 x.cache.length c2) x.cache.length (x.cache.flatMap dwV):=by
  rw[ab];exact ar U fun q O=>ak _ _ _ _ (by have:=(U.lt q O).1;omega)
 have B2:Zr w W2:=by rw[ab];exact Below.setRow B1 (kE _) _
 rw[<-ab]at bp bu |-;clear ab T U B1 aL ac bb bt;have Z0:=kD z0;clear z0;go_loopw [3] (fun q wr=>∃k:Nat,k<=x.cache.length/\q=.int .i64 k/\Blk wr w.heap.size 34 #[.slice (some ⟨S,0,none⟩) x.stable.length K,.slice a2 x.cache.length c2,.int .i64 x.taken,.int .i64 x.power,.bool x.off]/\Blk wr (w.heap.size+1) 34 #[.slice none 0 0,.slice none 0 0,.int .i64 0,.int .i64 0,.bool false]/\wr.ownsRow w0.heap.size 128 128 (.slice (some ⟨S,0,none⟩) x.stable.length K) x.stable.length ((dt x.stable (x.cache.take k)).flatMap bd)/\wr.ownsRow w0.heap.size 130 129 (.slice a2 x.cache.length c2) x.cache.length (x.cache.flatMap dwV)/\Zr w wr) (fun q _=>x.cache.length - (intOf q).toNat)
 case atStart=>exact⟨0,by omega,rfl,bp,bu,bP,bQ,B2⟩
 case round=>
  obtain⟨k,hk,rfl,V,a1,D,I,Bk⟩:=hrel;obtain⟨bB,bN⟩:=V.zc;by_cases bn:k<x.cache.length
  ·obtain⟨g,c4,hg,b4⟩:=z94 I (by omega)
   cases hg;obtain⟨h0,h1,h2,h3⟩:=h.ok.cac _ (li bn);obtain⟨p,hp⟩:=zxe (x.cache[k]);have J:=iX (st:=x.stable) bn;rw[hp]at h0 h1 h2 h3 J;have bk:∀j u,(dwV p)[j]?=some u->wr.cell? ⟨g,k*129+j,none⟩=some u:=fun j u hu=>go I (by
    have hj:j<129:=by have:=(mf.1 hu).1;rw[dS,h2]at this;exact this
    show (x.cache.flatMap dwV)[k*129+j]?=some u
    rw[eb (fun q O=>by rw[dS,(h.ok.cac q O).2.2.1]) hj bn,hp];exact hu)
   obtain⟨pn,a6⟩:=lz h0;have b3:wr.cell? ⟨g,k*129,none⟩=some (.int .i64 pn):=by rw[<-a6];exact bk 0 _ rfl
   rw[a6]at h1;have M:(bd p.2).length=128:=by rw[dy,h2]
   have bM:gz wr.drew ⟨g,k*129+1,none⟩ (bd p.2):=⟨rfl,fun j u hu=>by
    show wr.cell? ⟨g,k*129+1+j,none⟩=some u
    rw[Nat.add_assoc];exact bk (1+j) u (by rw[Nat.add_comm];simpa[dwV]using hu)⟩
   have a8:=eQ (P:=prog) (w:=wr.drew) (ty:=128) bM (z83 _) (by rw[M];exact z1w _)
   have b5:(k:Int)<x.cache.length:=by omega
   go_wp2_with fail
   refine wp_region_still_tail 15 (by kernel_rfl) (by kernel_rfl) ?_
   simp only[List.take_succ_cons,mm,List.drop_succ_cons,List.drop_zero];change wpStill _ _ wr.drew _ _ _
   repeat (first|(refine z0q rfl _ _ rfl (.agg (bd p.2).toArray) (.pointer (some ⟨g,k*129+1,none⟩)) rfl a8 ?_)|still_step)
   refine wpStill_nil ?_;change wpList _ _ _ _ _ wr.drew
   have av:wr.drew.ownsRow w0.heap.size 128 128 (.slice (some ⟨S,0,none⟩) x.stable.length K) x.stable.length ((dt x.stable (x.cache.take k)).flatMap bd):=ar D fun q O=>rfl
   have bW:S≠g:=fun e=>by
    rcases D.2 with ⟨hv,-⟩|⟨S',c5,b0,hv,-,bK,-⟩
    ·cases hv
    ·cases hv;rcases I.2 with ⟨hv,-⟩|⟨g',c6,b1,hv,-,bL,-⟩
     ·cases hv
     ·cases hv;rw[e]at bK;rw[bK]at bL;cases bL
   obtain⟨bC,bS,a7,ao⟩:=z26 av (pn*128) (bd p.2) (by rw[M];omega)
   have an:=dE (P:=prog) (w:=wr.drew) (ty:=128) bS a7 (jo p.2) (by rw[M];exact z1w _)
   obtain⟨R,hR⟩:=zex ((bC.toList.take (pn*128)++bd p.2++bC.toList.drop (pn*128+(bd p.2).length)).toArray);rw[<-hR]at an ao;have hZ:=Z0.out;have bX:w.heap.size≠S:=by omega
   have bF:w.heap.size+1≠S:=by omega
   have bq:=V.drew.mO (cs':=R) bX;have bw:=a1.drew.mO (cs':=R) bF;have bO:(wr.drew.setRow S R).ownsRow w0.heap.size 130 129 (.slice (some ⟨g,0,none⟩) x.cache.length c2) x.cache.length (x.cache.flatMap dwV):=ar I fun q O=>(ak _ _ _ _ (fun e=>by subst e;cases O;exact bW rfl))
   have B3:Zr w (wr.drew.setRow S R):=Below.setRow Bk.drew (by omega) _
   have ba:(wr.drew.setRow S R).ownsRow w0.heap.size 128 128 (.slice (some ⟨S,0,none⟩) x.stable.length K) x.stable.length ((dt x.stable (x.cache.take (k+1))).flatMap bd):=by
    rw[J,z2D (f:=bd) (m:=128) (fun s hs=>by rw[dy];exact(jq h.ok.sec (fun q O=>(h.ok.cac q (List.mem_of_mem_take O)).2.2) s hs).1) M (by rw[aW];omega),a6]
    exact ao
   obtain⟨W3,bG⟩:=zex (wr.drew.setRow S R);rw[<-bG]at an bq bw bO B3 ba;clear bG ao bS a7 J a6 bM bk a8 bB bN V a1 D I Bk av hR hZ;go_wp2_with (refine zsb an ?_)
   go_roundw
   case rel=>exact⟨k+1,by omega,by go_num,bq,bw,ba,bO,B3⟩
   case measure=>simp[intOf];omega
  ·obtain rfl:k=x.cache.length:=by omega
   rw[lj]at D;have bU:=V.free;go_upto_region 7 with fail
   have br:Blk (wr.setCell ⟨w.heap.size,1,none⟩ (.slice none 0 0)) w.heap.size 34 #[.slice (some ⟨S,0,none⟩) x.stable.length K,.slice none 0 0,.int .i64 x.taken,.int .i64 x.power,.bool x.off]:=V.mG 1 (.slice none 0 0);have bc:Blk (wr.setCell ⟨w.heap.size,1,none⟩ (.slice none 0 0)) (w.heap.size+1) 34 #[.slice none 0 0,.slice none 0 0,.int .i64 0,.int .i64 0,.bool false]:=(Below.heap_setCell wr ⟨w.heap.size,1,none⟩ _ (w.heap.size+1) (by simp)).trans a1
   have B4:Zr w (wr.setCell ⟨w.heap.size,1,none⟩ (.slice none 0 0)):=kG Bk (kE _) _;have hZ:=Z0.out;have o2:(wr.setCell ⟨w.heap.size,1,none⟩ (.slice none 0 0)).ownsRow w0.heap.size 128 128 (.slice (some ⟨S,0,none⟩) x.stable.length K) x.stable.length ((dt x.stable x.cache).flatMap bd):=
    ar D fun q O=>Below.heap_setCell wr ⟨w.heap.size,1,none⟩ _ q (by have:=(D.lt q O).1;simp;omega)
   obtain⟨W4,bJ⟩:=zex (wr.setCell ⟨w.heap.size,1,none⟩ (.slice none 0 0));rw[<-bJ]at br bc B4 o2 |-;clear bJ bB bN bU V a1 D I Bk hZ;obtain⟨b2,b6⟩:=br.zc;have ac:=aT (ty:=34) (vs:=ap (.slice (some ⟨S,0,none⟩) x.stable.length K) (.slice none 0 0) x.taken x.power x.off) bc rfl (by simp[ap,Value.oneCell']) (by kernel_rfl)
   have bA:=bc.setRow (cs':=ap (.slice (some ⟨S,0,none⟩) x.stable.length K) (.slice none 0 0) x.taken x.power x.off);unfold ap at ac bA;go_wp2_with (first
    | (refine zsb ac ?_))
   obtain⟨bT,bZ⟩:=bA.zc;have hZ:=Z0.out;refine bodyPost_ret (v:=.agg (ap (.slice (some ⟨S,0,none⟩) x.stable.length K) (.slice none 0 0) x.taken x.power x.off)) (by simp[results,results180,go_sem,bT,bZ,ap]) rfl ?_
   refine⟨_,rfl,be (ar o2 fun q O=>ak _ _ _ _ (by have:=(o2.lt q O).1;omega)) (by omega),Below.setRow B4 (Nat.le_succ _) _⟩
def DevS.limit (x:DevS)(n:Int):DevS:={ x with power:=n }
theorem eU {w:World}{base I n:Nat}{t:TypeId}{A:Option Addr}{c:Nat}{xs:List Value}(h:w.ownsRow base t I (.slice A n c) n xs)(S:xs.length=n*I):Reads w A xs:=by
 rcases h.2 with ⟨D,M⟩|⟨g,J,K,D,T,-⟩
 ·left
  exact md (by rw[S,M,Nat.zero_mul])
 ·cases D;exact .inr ⟨g,0,rfl,(h.lt g rfl).2,fun j u O=>by rw[ld];exact go h O⟩
theorem gl {w:World}{P:Nat->Prop}{base O n c:Nat}{t:TypeId}{A:Option Addr}{xs:List Value}(h:w.ownsRow base t O (.slice A n c) n xs)(K:∀b,base<=b->P b):Lies P A:=fun a e=>by
 subst e;rcases h.2 with ⟨D,-⟩|⟨g,I,J,D,M,-⟩
 ·cases D
 ·cases D;exact⟨K g M,rfl⟩
def RGot (w:World)(P:Nat->Prop)(p:Int × DevS)(e:Ending)(w':World):Prop:=
 ∃A c C d,e=.returned (.tuple #[stV A c C d p.2,.int .i64 p.1])/\RSt w' P A C p.2/\Zr w w'
theorem z7p (P:Nat->Prop)(A C:Option Addr)(c d:Nat)(x:DevS)(w:World)(hP:∀b,w.heap.size<=b->P b)(Y:RSt w P A C x):
  Calls prog 107 #[stV A c C d x] w (RGot w P x.flush):=by
 obtain⟨O,D⟩:=zex ((w.alloc (.cells (ap (.slice A x.stable.length c) (.slice C x.cache.length d) x.taken x.power x.off) 34)).alloc (.cells (ap (.slice none 0 0) (.slice none 0 0) 0 0 false) 34));have bD:Blk O w.heap.size 34 (ap (.slice A x.stable.length c) (.slice C x.cache.length d) x.taken x.power x.off):=by rw[D];exact zbn
 have bR:Blk O (w.heap.size+1) 34 (ap (.slice none 0 0) (.slice none 0 0) 0 0 false):=by rw[D];exact zbn
 have S:Zr w O:=by rw[D];exact zgr
 have z0:=kD (show O.heap.size=w.heap.size+2 by rw[D];simp)
 have hs:=z1u P A C c d x O (Y.below S);have ab:=aT (ty:=34) (vs:=ap (.slice A x.stable.length c) (.slice C x.cache.length d) x.taken x.power x.off) bR rfl (by simp[ap,Value.oneCell']) (by kernel_rfl)
 have U:=bR.setRow (cs':=ap (.slice A x.stable.length c) (.slice C x.cache.length d) x.taken x.power x.off);unfold stV ap at *;go_enter func107,ntmps107
 go_upto_region 1 with fail
 rw[<-D];clear D;obtain⟨cD,lD⟩:=bD.zc;cases ho:x.off
 ·rw[ho]at cD hs;go_wp2_with fail
  refine hs.mono ?_;rintro e w1 ⟨sv,rfl,I,T⟩;obtain⟨K,M,rfl⟩:=aw I;have V:=bR.mD T;have B1:=S.trans (T.mono S.size);have ac:=aT (ty:=34) (vs:=ap (.slice K x.stable.length M) (.slice none 0 0) x.taken x.power false) V rfl (by simp[ap,Value.oneCell']) (by kernel_rfl)
  have an:=V.setRow (cs':=ap (.slice K x.stable.length M) (.slice none 0 0) x.taken x.power false);obtain⟨av,a2⟩:=an.zc;have hz:=z0.out;have J:(w1.setRow (w.heap.size+1) (ap (.slice K x.stable.length M) (.slice none 0 0) x.taken x.power false)).ownsRow O.heap.size 128 128 (.slice K x.stable.length M) x.stable.length (x.mX.stable.flatMap bd):=
   ar I fun q Y=>ak _ _ _ _ (by have:=(I.lt q Y).1;omega)
  have B3:Zr w (w1.setRow (w.heap.size+1) (ap (.slice K x.stable.length M) (.slice none 0 0) x.taken x.power false)):=Below.setRow B1 (Nat.le_succ _) _;clear hz;unfold ap at *;go_wp2_with (refine zsb ac ?_)
  refine bodyPost_ret (v:=.tuple #[.agg #[.slice K x.stable.length M,.slice none 0 0,.int .i64 x.taken,.int .i64 x.power,.bool false],.int .i64 0]) (by simp[results,results107,go_sem,av,a2]) rfl ?_
  have hl:x.mX.stable.length=x.stable.length:=aW _ _;refine⟨K,M,none,0,?_,?_,B3⟩
  ·simp[DevS.flush,ho,kB,stV,ap,hl,DevS.mX]
   exact(aW _ _).symm
  ·have hf:=Y.ok.mX;have e:x.flush.2=x.mX:=by simp[DevS.flush,ho]
   rw[e];exact⟨hf,eU J (by rw[gP fun s hs=>(hf.sec s hs).1,hl]),.inl rfl,gl J (fun b hb=>hP b (kO (by rw[z0.out];omega) hb)),.inl rfl⟩
 ·rw[ho]at cD ab U;obtain⟨ao,aL⟩:=U.zc;go_wp2_with (refine zsb ab ?_)
  refine bodyPost_ret (v:=.tuple #[.agg #[.slice A x.stable.length c,.slice C x.cache.length d,.int .i64 x.taken,.int .i64 x.power,.bool true],.int .i64 13]) (by simp[results,results107,go_sem,ao,aL]) rfl ?_
  have e:x.flush=(13,x):=by simp[DevS.flush,ho,kB]
  rw[e];refine⟨A,c,C,d,by simp[stV,ap,ho],Y.below (Below.setRow S (Nat.le_succ _) _),Below.setRow S (Nat.le_succ _) _⟩
def fitE (n:Nat)(s j i:Int):Int:=if rgE s j i=0/\(n:Int)≠s then 6 else rgE s j i
theorem z4a (cv:Value)(S n c:Nat)(tk pw s j i:Int)(off:Bool)(w:World):
  Calls prog 42 #[.agg (ap (.slice (some ⟨S,0,none⟩) n c) cv tk pw off),.agg #[.int .i64 s,.int .i64 j,.int .i64 i]] w fun e w'=>Zr w w'/\e=.returned (.tuple #[rgV s j i,.int .i64 (fitE n s j i)]):=by
 obtain⟨Y,I⟩:=zex (((w.alloc (.cells (ap (.slice (some ⟨S,0,none⟩) n c) cv tk pw off) 34)).alloc (.cells #[.int .i64 s,.int .i64 j,.int .i64 i] 23)).alloc (.cells #[.int .i64 0,.int .i64 0,.int .i64 0,.int .i64 0,.int .i64 0] 44));have bD:Blk Y w.heap.size 34 (ap (.slice (some ⟨S,0,none⟩) n c) cv tk pw off):=by rw[I];exact zbn
 have bL:Blk Y (w.heap.size+1) 23 #[.int .i64 s,.int .i64 j,.int .i64 i]:=by rw[I];exact zbn
 have bR:Blk Y (w.heap.size+2) 44 #[.int .i64 0,.int .i64 0,.int .i64 0,.int .i64 0,.int .i64 0]:=by rw[I];exact zbn
 have B0:Zr w Y:=by rw[I];exact zgr
 unfold ap at *;go_enter func42,ntmps42
 go_upto_region 1 with fail
 rw[<-I];clear I;have cD:=bD.cells;have cL:=bL.cells;have lD:=bD.lt;have lL:=bL.lt;go_wp2_with fail
 refine(dN s j i Y).mono ?_;rintro e w1 ⟨rfl,J⟩;have U:=bD.mD J;have V:=bL.mD J;have K:=bR.mD J;have B1:=B0.trans (J.mono B0.size);have cD:=U.cells;have cL:=V.cells;have cR:=K.cells;have fR:=K.free;have lD:=U.lt;have lL:=V.lt;have lR:=K.lt;have A:fitE n s j i=if rgE s j i=0/\(n:Int)≠s then 6 else rgE s j i:=rfl
 obtain⟨O,T,a3,a4,a5,hv⟩:∃O T a3 a4 a5:Int,rgV s j i=.agg #[.int .i64 O,.int .i64 T,.int .i64 a3,.int .i64 a4,.int .i64 a5]:=⟨_,_,_,_,_,rfl⟩;have HV:=kD hv;rw[hv];clear hv;generalize rgE s j i=E at A |-;by_cases hE:E=0
 ·subst hE;by_cases D:(n:Int)=s
  ·rw[if_neg (by simp[D])]at A
   have hd:((n:Int) != s)=false:=by simpa using D
   have M:=kD A;clear A D;go_wp2_with fail
   refine bodyPost_ret (v:=.tuple #[.agg #[.int .i64 O,.int .i64 T,.int .i64 a3,.int .i64 a4,.int .i64 a5],.int .i64 0]) (by simp[results,results42,go_sem,cR,lR]) rfl ?_
   exact⟨zgr,by rw[HV.out,M.out]⟩
  ·rw[if_pos ⟨rfl,D⟩]at A;have hd:((n:Int) != s)=true:=by simpa using D
   have M:=kD A;clear A D;go_wp2_with fail
   refine bodyPost_ret (v:=.tuple #[.agg #[.int .i64 O,.int .i64 T,.int .i64 a3,.int .i64 a4,.int .i64 a5],.int .i64 6]) (by simp[results,results42,go_sem,cR,lR]) rfl ?_
   exact⟨zgr,by rw[HV.out,M.out]⟩
 ·rw[if_neg (by simp[hE])]at A
  have hd:(E==0)=false:=by simpa using hE
  have M:=kD A;clear A hE;go_wp2_with fail
  refine bodyPost_ret (v:=.tuple #[.agg #[.int .i64 O,.int .i64 T,.int .i64 a3,.int .i64 a4,.int .i64 a5],.int .i64 E]) (by simp[results,results42,go_sem,cR,lR]) rfl ?_
  exact⟨zgr,by rw[HV.out,M.out]⟩
def fU (us:List Bool):Nat:=us.countP (!·)
theorem z2Q (us:List Bool):fU us<=us.length:=List.countP_le_length
theorem z75 (us:List Bool)(k:Nat)(h:k<us.length):fU (us.take (k+1))=fU (us.take k)+if us[k]=false then 1 else 0:=by
 unfold fU;rw[kZ h,List.countP_append];cases us[k]<;>simp
theorem z4b (s j i:Int)(A:Option Addr)(c:Nat)(us:List Bool)(w:World)(M:Reads w A (us.map .bool))(Y:us.length<=1000):
  Calls prog 206 #[.agg #[.int .i64 s,.int .i64 j,.int .i64 i,.slice A us.length c]] w fun e S=>e=.returned (.int .i64 (fU us))/\Zr w S:=by
 go_enter func206,ntmps206
 go_wp2
 go_loop [3,4] (fun n i=>∃k:Nat,k<=us.length/\i=.int .i64 k/\n=.int .i64 (fU (us.take k))) (fun _ i=>us.length - (intOf i).toNat)
 case atStart=>exact⟨0,by omega,rfl,rfl⟩
 case round=>
  obtain⟨k,U,rfl,rfl⟩:=hrel;by_cases D:k<us.length
  ·obtain⟨b,off,rfl,T,J⟩:=M.at_ (k:=k) (by simpa using D)
   rw[lf]at J;have O:=z2Q (us.take k);have K:=z75 us k D;have I:=kD K;have V:(us.take k).length<=k:=List.length_take_le _ _;clear K;cases hu:us[k]<;>rw[hu]at J I
   all_goals
    clear hu;go_wp2
    go_round
    case rel=>exact⟨k+1,by omega,by go_num,by rw[I.out];simp⟩
    case measure=>simp[intOf];omega
  ·go_wp2
   go_ret
   refine⟨z1r (by rw[mj (by omega)]),?_⟩
   exact(kF _ _).alloc (kE _) _
open Go.Shelf
attribute [local go_sem] Oper.semAt_some
def zcg (s j i:Int)(us:List Bool):Int:=if CkE s j i us.length=0 then ((ew us 0).length:Int)else 0
end Go.Proofs.YtejmknghkbobnaaGreatDoor
