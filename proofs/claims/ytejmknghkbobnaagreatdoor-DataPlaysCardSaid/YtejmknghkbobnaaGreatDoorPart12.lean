import Derived.Test.YtejmknghkbobnaaGreatDoorPart11
import Derived.Laws.IdiomStrings
import Derived.Defers
set_option linter.all false
set_option maxRecDepth 100000
set_option maxHeartbeats 0
namespace Go.Proofs.YtejmknghkbobnaaGreatDoor
open Go.Proofs.Tryz
open Go.RowKit Go.Maps
structure TxS where
 s:Int
 j:Int
 i:Int
 was:List Bool
 now:List Bool
 writes:List Rec
 changed:Bool
 broken:Bool
 ended : Bool
def TxS.most (y:TxS):Int:=min (y.j - 2) 80
def TxS.left (y:TxS):Int:=y.most - y.writes.length - (if y.changed then 1 else 0)
def TxS.mF (y:TxS):Int:=if y.broken||y.ended then 9 else 0
structure TxS.Ok (y:TxS):Prop where
 rg:rgE y.s y.j y.i=0
 was:y.was.length=(rgB y.s y.j y.i).toNat
 now:y.now.length=(rgB y.s y.j y.i).toNat
 recs:∀r∈y.writes,0<=r.at_/\r.at_<y.s/\1<=r.kind/\r.kind<=255/\r.data.data.size<=112
 len:0<=y.left
abbrev txC (D:Nat)(s j i:Int)(wv nv:Value)(M:Nat)(ch br en:Bool):Array Value:=
 #[.pointer (some ⟨D,0,none⟩),.int .i64 s,.int .i64 j,.int .i64 i,.int .i64 1,.int .i64 (1+j),.int .i64 (2+j),.int .i64 (2+j+i),.int .i64 (s - (2+j+i)),.int .i64 s,.int .i64 j,.int .i64 i,wv,.int .i64 s,.int .i64 j,.int .i64 i,nv,.map (some M),.bool ch,.bool br,.bool en]
def SlB (w:World)(F:List Nat)(T M:Nat)(v:Value)(l:List Bool):Prop:=
 ∃A c,v=.slice A l.length c/\Reads w A (l.map .bool)/\∀a,A=some a->a.block∈F/\a.block≠T/\a.block≠M
def zcm (w:World)(M:Nat)(l:List Rec):Prop:=∃E,RecMap E l/\w.ownsMap prog 3 iG M l.length E
structure TxAt (w:World)(T:Nat)(F:List Nat)(D:Nat)(y:TxS):Prop where
 ok:y.Ok
 mem:∃M wv nv,Blk w T 148 (txC D y.s y.j y.i wv nv M y.changed y.broken y.ended)/\T∈F/\M∈F/\M≠T/\zcm w M y.writes/\SlB w F T M wv y.was/\SlB w F T M nv y.now
 lt:∀b∈F,0<b/\b<w.heap.size
theorem TxAt.frame {w w':World}{T:Nat}{F:List Nat}{D:Nat}{y:TxS}(h:TxAt w T F D y)(K:∀b∈F,w'.heap[b]?=w.heap[b]?)(hs:w.heap.size<=w'.heap.size):TxAt w' T F D y:=by
 obtain⟨ok,⟨M,wv,nv,bT,V,U,J,⟨E,hE,hO⟩,hw,hn⟩,lt⟩:=h;have sl:∀v l,SlB w F T M v l->SlB w' F T M v l:=by
  rintro v l ⟨A,c,h1,I,S⟩;refine⟨A,c,h1,?_,S⟩
  rcases I with I|⟨b,off,rfl,hl,hc⟩
  ·exact .inl I
  ·have O:=(S _ rfl).1;exact .inr ⟨b,off,rfl,lh hl hs,fun k u hu=>(World.cell?_of_block (w:=w) (a:=⟨b,off+k,none⟩) (K b O)).trans (hc k u hu)⟩
 exact⟨ok,⟨M,wv,nv,(K T V).trans bT,V,U,J,⟨E,hE,aU hO (K M U)⟩,sl _ _ hw,sl _ _ hn⟩,fun b Y=>⟨(lt b Y).1,lh (lt b Y).2 hs⟩⟩
theorem TxAt.below {w w':World}{T:Nat}{F:List Nat}{D:Nat}{y:TxS}(h:TxAt w T F D y)(c:Zr w w'):TxAt w' T F D y:=
 h.frame (fun b A=>c.block b (h.lt b A).2) c.size
theorem TxAt.alloc {w:World}{T:Nat}{F:List Nat}{D:Nat}{y:TxS}(h:TxAt w T F D y)(o:Obj):TxAt (w.alloc o) T F D y:=h.below ((kF _ _).alloc (kE _) _)
theorem TxAt.drew {w:World}{T:Nat}{F:List Nat}{D:Nat}{y:TxS}(h:TxAt w T F D y):TxAt w.drew T F D y:=h.below (kF _ _).drew
theorem TxAt.mG {w:World}{T:Nat}{F:List Nat}{D:Nat}{y:TxS}(h:TxAt w T F D y){p:Addr}(A:p.block∉F)(u:Value):TxAt (w.setCell p u) T F D y:=
 h.frame (fun b c=>Below.heap_setCell w p u b (fun e=>by subst e;exact A c)) (by simp)
theorem TxAt.far {w:World}{T:Nat}{F:List Nat}{D:Nat}{y:TxS}(h:TxAt w T F D y){g:Nat}(A:w.heap.size<=g):g∉F:=fun c=>by have:=(h.lt g c).2;omega
theorem DevAt.grow {w w':World}{D:Nat}{B F F':List Nat}{x:DevS}(h:DevAt w D B x)(g:Grow w F w' F')(J:∀b∈F,b∉B)(I:0∉F):DevAt w' D B x:=
 h.frame (fun b c=>g.keep.block b (by rcases c with c|rfl;exact(h.lt b c).2;exact h.half.1) (fun A=>by rcases c with c|rfl;exact J b A c;exact I A)) g.keep.size
def StE (w:World)(tv:Value)(E:Int):Prop:=
 (tv=.pointer none/\E=1)\/(∃T cs,tv=.pointer (some ⟨T,0,none⟩)/\Blk w T 148 cs/\((E=1/\cs[17]?=some (.map none))\/(∃M br en,cs[17]?=some (.map (some M))/\cs[19]?=some (.bool br)/\cs[20]?=some (.bool en)/\E=if br||en then 9 else 0)))
theorem TxAt.st {w:World}{T:Nat}{F:List Nat}{D:Nat}{y:TxS}(h:TxAt w T F D y):StE w (.pointer (some ⟨T,0,none⟩)) y.mF:=by
 obtain⟨ok,⟨M,I,A,c,-⟩,lt⟩:=h;exact .inr ⟨T,_,rfl,c,.inr ⟨M,y.broken,y.ended,rfl,rfl,rfl,rfl⟩⟩
theorem StE.below {w w':World}{c:Value}{E:Int}(h:StE w c E)(J:Zr w w'):StE w' c E:=by
 rcases h with h|⟨T,D,I,A,h⟩
 ·exact .inl h
 ·exact .inr ⟨T,D,I,A.mD J,h⟩
theorem dz (U:Value)(E:Int)(w:World)(h:StE w U E):
  Calls prog 90 #[U] w (Zq (.int .i64 E) w):=by
 have qT:∀(w:World) (r:Option Nat),(binOp .eql 146 (.map r) (.map none)).run prog w=.ok (.bool r.isNone) w:=fun w r=>run_eql_map_nil w _ _ _ r underlying146
 rcases h with ⟨rfl,rfl⟩|⟨T,cs,rfl,J,h⟩
 ·go_enter func90,ntmps90
  go_wp2_with fail
  go_ret
  exact⟨rfl,zgr⟩
 ·obtain⟨A,lT⟩:=J.zc;rcases h with ⟨rfl,c⟩|⟨M,O,S,c,D,I,rfl⟩
  ·have K:w.cell? ⟨T,17,none⟩=some (.map none):=(A 17).trans c;clear A c J;go_enter func90,ntmps90
   go_wp2_with fail
   go_ret
   exact⟨rfl,zgr⟩
  ·have K:w.cell? ⟨T,17,none⟩=some (.map (some M)):=(A 17).trans c;have V:w.cell? ⟨T,19,none⟩=some (.bool O):=(A 19).trans D;have Y:w.cell? ⟨T,20,none⟩=some (.bool S):=(A 20).trans I;clear A c D I J;cases O<;>cases S
   all_goals
    go_enter func90,ntmps90
    go_wp2_with fail
    go_ret
    exact⟨rfl,zgr⟩
theorem TxS.Ok.bds {y:TxS}(h:y.Ok):64<=y.s/\y.s<=256/\8<=y.j/\y.j<=96/\1<=y.i/\y.i<=60/\8<=y.s - (2+y.j+y.i)/\(y.was.length:Int)=y.s - (2+y.j+y.i)/\(y.now.length:Int)=y.s - (2+y.j+y.i):=by
 have c:=de h.rg;have A:rgB y.s y.j y.i=y.s - (2+y.j+y.i):=(ir h.rg).2.2.2.2;have D:=h.was;have I:=h.now;omega
theorem TxS.Ok.pG {y:TxS}(h:y.Ok):0<=y.left/\y.left<=80/\(y.writes.length:Int)<=80:=by
 have c:=h.len;have A:=h.bds;have e:y.left=min (y.j - 2) 80 - y.writes.length - (if y.changed then 1 else 0):=rfl
 cases hc:y.changed
 ·rw[hc,if_neg (by simp)]at e;omega
 ·rw[hc,if_pos rfl]at e;omega
theorem z2J (T:Nat)(F:List Nat)(D:Nat)(y:TxS)(w:World)(h:TxAt w T F D y):
  Calls prog 93 #[.pointer (some ⟨T,0,none⟩)] w (Zq (.int .i64 y.left) w):=by
 have hb:=h.ok.bds;have hl:=h.ok.pG;have c:y.left=min (y.j - 2) 80 - y.writes.length - (if y.changed then 1 else 0):=rfl
 obtain⟨ok,⟨M,wv,nv,O,hT,hM,Y,⟨E,S,U⟩,hw,hn⟩,lt⟩:=h;obtain⟨J,lT⟩:=O.zc;have c2:w.cell? ⟨T,2,none⟩=some (.int .i64 y.j):=(J 2).trans rfl;have V:w.cell? ⟨T,17,none⟩=some (.map (some M)):=(J 17).trans rfl;have I:w.cell? ⟨T,18,none⟩=some (.bool y.changed):=(J 18).trans rfl;have K:=fun (n:Nat) ty=>World.ownsMap.len (w:=w.drewN n) (aU U (by simp)) underlying146 ty
 have A:=S.size_;simp only[A]at K;clear J O ok hw hn S A U;have ab:IntKind.i64.wrap (y.j - 2)=y.j - 2:=by rw[kW];omega
 generalize hm:min (y.j - 2) 80=m at *;go_enter func93,ntmps93
 go_wp2_with fail
 have ac:IntKind.i64.wrap (m - y.writes.length)=m - y.writes.length:=by rw[kW];omega
 go_quiet (fail)
 cases hch:y.changed
 ·rw[hch]at I c;rw[if_neg (by simp)]at c
  go_wp2_with fail
  go_ret
  exact⟨by rw[c,Int.sub_zero];rfl,zgr⟩
 ·rw[hch]at I c;rw[if_pos rfl]at c;have an:IntKind.i64.wrap (m - y.writes.length - 1)=m - y.writes.length - 1:=by rw[kW];omega
  go_wp2_with fail
  go_ret
  exact⟨by rw[c];rfl,zgr⟩
theorem aG {P:Program}{o:Oper}{a:Act}{w w':World}{K:Act->World->Prop}{Q:Exit->Act->World->Prop}(ty:TypeId)(x y:Operand)(A:o.op=.store ty x y)(p v:Value)
  (D:a.eval x=p) (I:a.eval y=v) (c:(Instr.storeAt ty p v).run P w=.ok () w') (h:K (a.put o.dst undef) w'):o.wp P a w K Q:=by
 unfold Oper.wp execOp;simp only[A,D,I,Sem.run_bind,Sem.run_pure,Result.andThen_ok,c];exact h
theorem zob {P:Program}{o:Oper}{a:Act}{w w':World}{K:Act->World->Prop}{Q:Exit->Act->World->Prop}{ty:TypeId}{x y:Operand}{p v:Value}(A:(Instr.storeAt ty p v).run P w=.ok () w')(h:K (a.put o.dst undef) w')(c:o.op=.store ty x y:=by rfl)(D:a.eval x=p:=by rfl)(I:a.eval y=v:=by rfl):o.wp P a w K Q:=aG ty x y c p v D I A h
theorem be {w:World}{base c:Nat}{e:TypeId}{size:Nat}{v:Value}{n:Nat}{xs:List Value}(h:w.ownsRow base e size v n xs)(M:c<=base):w.ownsRow c e size v n xs:=
 ⟨h.1,h.2.imp id fun ⟨g,A,D,I,J,K⟩=>⟨g,A,D,I,kO M J,K⟩⟩
theorem Reads.some_ {w:World}{A:Option Addr}{xs:List Value}(h:Reads w A xs)(c:0<xs.length):A≠none:=by
 rcases h with rfl|⟨b,off,rfl,-⟩
 ·simp at c
 ·simp
theorem z1Q (K:Value)(E:Int)(w:World)(h:StE w K E)(S:E≠0):
  Calls prog 70 #[K] w fun e Y=>e=.returned (.tuple #[.agg #[.int .i64 0,.int .i64 0,.int .i64 0,.slice none 0 0],.int .i64 E])/\Zr w Y:=by
 obtain⟨M,J⟩:=zex (w.alloc (.cells #[.int .i64 0,.int .i64 0,.int .i64 0,.slice none 0 0] 47));have O:Blk M w.heap.size 47 #[.int .i64 0,.int .i64 0,.int .i64 0,.slice none 0 0]:=by rw[J];exact zbn
 have I:Zr w M:=by rw[J];exact zgr
 have c:=dz K E M (h.below I);have V:(E != 0)=true:=by simpa using S
 clear S;go_enter func70,ntmps70
 go_wp2_with fail
 rw[<-J];go_wp2_with fail
 refine c.mono ?_;rintro e w1 ⟨rfl,D⟩;have T:=I.trans (D.mono I.size);have A:=O.mD D;clear J c D O I;obtain⟨cR,lR⟩:=A.zc;have c:=aF (ty:=47) (vs:=#[.int .i64 0,.int .i64 0,.int .i64 0,.slice none 0 0]) A rfl (by simp[Value.oneCell']) (by kernel_rfl)
 go_wp2_with (refine zsb c ?_)
 have U:=(A.setRow (cs':=#[.int .i64 0,.int .i64 0,.int .i64 0,.slice none 0 0])).cells;refine bodyPost_ret (v:=.tuple #[.agg #[.int .i64 0,.int .i64 0,.int .i64 0,.slice none 0 0],.int .i64 E]) (by simp[results,results70,go_sem,U]) rfl ?_
 exact⟨rfl,Below.setRow T (kE _) _⟩
theorem z3E (T:Nat)(F:List Nat)(D:Nat)(y:TxS)(w:World)(h:TxAt w T F D y)(hE:y.mF=0):
  Calls prog 70 #[.pointer (some ⟨T,0,none⟩)] w fun e w'=>∃v,e=.returned (.tuple #[.agg #[.int .i64 y.s,.int .i64 y.j,.int .i64 y.i,v],.int .i64 0])/\w'.ownsRow w.heap.size 4 1 v y.now.length (y.now.map .bool)/\Zr w w':=by
 have a2:=h.ok.bds;obtain⟨wA,hA⟩:=zex (w.alloc (.cells #[.int .i64 0,.int .i64 0,.int .i64 0,.slice none 0 0] 47));have bR:Blk wA w.heap.size 47 #[.int .i64 0,.int .i64 0,.int .i64 0,.slice none 0 0]:=by rw[hA];exact zbn
 have BA:Zr w wA:=by rw[hA];exact zgr
 have ac:=h.below BA;have S:=dz _ _ wA ac.st;rw[hE]at S;go_enter func70,ntmps70
 go_wp2_with fail
 rw[<-hA];go_wp2_with fail
 refine S.mono ?_;rintro e U ⟨rfl,V⟩;have B1:=BA.trans (V.mono BA.size);have an:=bR.mD V;obtain⟨ok,⟨M,wv,nv,bT,hT,hM,a1,hO,hw,⟨A,c,rfl,hn,a6⟩⟩,lt⟩:=ac.below V;have a7:wA.heap.size=w.heap.size+1:=by rw[hA];simp
 clear hA S V bR BA ac;obtain⟨cT,Y⟩:=bT.zc;have c1:U.cell? ⟨T,1,none⟩=some (.int .i64 y.s):=(cT 1).trans rfl;have c2:U.cell? ⟨T,2,none⟩=some (.int .i64 y.j):=(cT 2).trans rfl;have c3:U.cell? ⟨T,3,none⟩=some (.int .i64 y.i):=(cT 3).trans rfl;have ab:U.cell? ⟨T,16,none⟩=some (.slice A y.now.length c):=(cT 16).trans rfl;clear cT bT hO hw;go_wp2_with fail
 refine zrm [.take 0,.take 1,.take 2,.take 3,.take 4,.take 5,.take 6,.take 7,.take 8,.take 9,.one 10,.one 11,.one 12,.one 13] 12 (fun w'=>w'.cell? ⟨T,1,none⟩=some (.int .i64 y.s)/\w'.cell? ⟨T,2,none⟩=some (.int .i64 y.j)/\w'.cell? ⟨T,3,none⟩=some (.int .i64 y.i)/\w'.cell? ⟨T,16,none⟩=some (.slice A y.now.length c)) ⟨c1,c2,c3,ab⟩ ?_
 simp only[kR,kS,Ms.fill,kT,kV];iterate 10 refine ztk ?_
 refine ah (by rfl) fun K O=>?_
 go_simp;refine(jx A c y.now U.drew (Reads.below hn (kF _ _).drew) (hn.some_ (by rw[lZ];omega)) (by omega)).mono ?_
 rintro e w2 ⟨v,rfl,ho,av⟩;obtain⟨g,J,rfl⟩:∃g J,v=.slice (some ⟨g,0,none⟩) y.now.length J:=by
  rcases ho.2 with ⟨-,h0⟩|⟨g,J,aL,hv,-⟩
  ·omega
  ·exact⟨g,J,hv⟩
 have I:Zr U w2:=(kF _ _).drew.trans av;have B2:=B1.trans (I.mono B1.size);have ao:=an.mD I;refine O _ _ (fun _=>⟨?_,?_,?_,?_⟩) ?_
 focus (exact(I.cell (p:=⟨T,1,none⟩) Y).trans c1)
 focus (exact(I.cell (p:=⟨T,2,none⟩) Y).trans c2)
 focus (exact(I.cell (p:=⟨T,3,none⟩) Y).trans c3)
 focus (exact(I.cell (p:=⟨T,16,none⟩) Y).trans ab)
 clear O K;refine ah (by rfl) fun K O=>?_
 go_simp;refine O _ _ (fun _=>⟨?_,?_,?_,?_⟩) ?_
 focus (exact(I.cell (p:=⟨T,1,none⟩) Y).trans c1)
 focus (exact(I.cell (p:=⟨T,2,none⟩) Y).trans c2)
 focus (exact(I.cell (p:=⟨T,3,none⟩) Y).trans c3)
 focus (exact(I.cell (p:=⟨T,16,none⟩) Y).trans ab)
 clear O K;refine ah (by rfl) fun K O=>?_
 have S:=aF (ty:=47) (vs:=#[.int .i64 y.s,.int .i64 y.j,.int .i64 y.i,.slice (some ⟨g,0,none⟩) y.now.length J]) ao rfl (by simp[Value.oneCell']) (by kernel_rfl)
 have cF:=(ao.setRow (cs':=#[.int .i64 y.s,.int .i64 y.j,.int .i64 y.i,.slice (some ⟨g,0,none⟩) y.now.length J])).cells;refine zob S ?_;refine O _ _ (fun h=>absurd h (by decide)) ?_
 clear O K;refine ah (by rfl) fun K O=>?_
 go_simp;refine O _ _ (fun h=>absurd h (by decide)) ?_
 clear O K;refine ax ?_;go_wp2_with fail
 refine bodyPost_ret (v:=.tuple #[.agg #[.int .i64 y.s,.int .i64 y.j,.int .i64 y.i,.slice (some ⟨g,0,none⟩) y.now.length J],.int .i64 0]) (by simp[results,results70,go_sem,cF]) rfl ?_
 have z1:=B1.size;have z2:=an.lt;refine⟨_,rfl,?_,Below.setRow B2 (kE _) _⟩
 have hg:U.heap.size<=g:=(ho.lt g rfl).1;refine be (base:=U.drew.heap.size) (ar ho fun g' e=>?_) (show w.heap.size<=U.heap.size from z1)
 cases e;exact ak _ _ _ _ (show g≠w.heap.size by omega)
theorem z5P (w:World)(s:ByteArray):∃I c,(convert 9 113 (.string s)).run prog w=.ok (.slice (some ⟨w.heap.size,0,none⟩) s.size c) I/\Zr w I/\Reads I (some ⟨w.heap.size,0,none⟩) ((cf s).map (.int .u8)):=by
 refine⟨_,_,run_bytes_of_string w 9 113 5 s underlying9 underlying113 underlying5,(kF _ _).drew.alloc (kE _) _,?_⟩
 refine .inr ⟨w.heap.size,0,rfl,by simp,fun j u K=>?_⟩
 have J:j<s.size:=by
  have:=(mf.1 K).1
  rwa [lZ,dg]at this
 have M:=bytesRow_at s (grownCap w s.size 0 5) j J;have b:∀(w:World) (A:Array Value) (q:Nat × Nat),(w.alloc (.cells A 5 q)).cell? ⟨w.heap.size,j,none⟩=A[j]?:=fun w A q=>by
  unfold World.cell?;rw[hp1 w (.cells A 5 q)];rfl
 rw[ld];refine(b w.drew _ _).trans ?_;rw[M,<-K];unfold cf;have D:j<s.data.toList.length:=J;simp[mq,kQ D]
def i9 (d:ByteArray)(nb:Nat):Prop:=(cf d).length=96/\eS (cf d) nb 768
def DevS.oH (x:DevS)(s j i:Int)(E:Int):Prop:=
 (bi x.stable.length s j i≠0/\E=bi x.stable.length s j i) \/
 (bi x.stable.length s j i=0/\x.ge (1+j)≠0/\E=x.ge (1+j)) \/
 (bi x.stable.length s j i=0/\x.ge (1+j)=0/\¬(i9 (x.fr (1+j)).data (rgB s j i).toNat/\(x.fr (1+j)).kind=5)/\E=6) \/
 (bi x.stable.length s j i=0/\x.ge (1+j)=0/\i9 (x.fr (1+j)).data (rgB s j i).toNat/\(x.fr (1+j)).kind=5/\E=0)
def DevS.begins (x:DevS)(s j i:Int):TxS:=
 ⟨s,j,i,fJ (cf (x.fr (1+j)).data) (rgB s j i).toNat 768,fJ (cf (x.fr (1+j)).data) (rgB s j i).toNat 768,[],false,false,false⟩
def z0I (w:World)(D:Nat)(s j i:Int)(x:DevS)(e:Ending)(w':World):Prop:=
 Zr w w'/\∃E,x.oH s j i E/\((E≠0/\e=.returned (.tuple #[.pointer none,.int .i64 E])) \/
  (E=0/\∃T F,e=.returned (.tuple #[.pointer (some ⟨T,0,none⟩),.int .i64 0])/\TxAt w' T F D (x.begins s j i)/\∀b∈F,w.heap.size<=b))
theorem z8g (D:Nat)(s j i:Int)(B:List Nat)(x:DevS)(w:World)(h:DevAt w D B x)(bM:(x.fr (1+j)).data.size<=1000):
  Calls prog 37 #[.pointer (some ⟨D,0,none⟩),.agg #[.int .i64 s,.int .i64 j,.int .i64 i]] w (z0I w D s j i x):=by
 obtain⟨wA,hA⟩:=zex (w.alloc (.cells #[.int .i64 s,.int .i64 j,.int .i64 i] 23));have bL:Blk wA w.heap.size 23 #[.int .i64 s,.int .i64 j,.int .i64 i]:=by rw[hA];exact zbn
 have BA:Zr w wA:=by rw[hA];exact zgr
 have O:=z5T D s j i B x wA (h.below BA);obtain⟨cL,lL⟩:=bL.zc;by_cases V:bi x.stable.length s j i=0
 rotate_left
 ·have HB:Hid (x.oH s j i (bi x.stable.length s j i)):=kD (.inl ⟨V,rfl⟩);have HN:=kD V;have hv:j5 D x.stable.length s j i=PV none 0 0 0 0 0 0 0 0:=by unfold j5;rw[if_neg V];rfl
  rw[hv]at O;generalize bi x.stable.length s j i=E at *;have bP:(E != 0)=true:=by simpa using V
  clear V hv;unfold z0I;go_enter func37,ntmps37
  go_wp2_with fail
  rw[<-hA];go_wp2_with fail
  refine O.mono ?_;rintro e w1 ⟨rfl,K⟩;have B1:=BA.trans (K.mono BA.size);clear hA;go_wp2_with fail
  go_ret2
  exact⟨B1.alloc B1.size _,E,HB.out,.inl ⟨HN.out,rfl⟩⟩
 obtain⟨ao,bU⟩:=iQ V;have bR:=de ao;obtain⟨r1,r2,r3,r4,r5⟩:=ir ao;have hv:j5 D x.stable.length s j i=PV (some ⟨D,0,none⟩) s j i 1 (1+j) (2+j) (2+j+i) (s - (2+j+i)):=by unfold j5 z97;rw[if_pos V,r1,r2,r3,r4,r5];rfl
 rw[hv,V]at O;have HE:=kD V;have av:=kD ao;clear V hv r1 r2 r3 r4 r5 ao;unfold z0I;go_enter func37,ntmps37
 go_wp2_with fail
 rw[<-hA];go_wp2_with fail
 refine O.mono ?_;rintro e w1 ⟨rfl,K⟩;have B1:=BA.trans (K.mono BA.size);have bc:=bL.mD K;clear hA K cL lL bL BA O;obtain⟨PB,a7⟩:=zex w1.heap.size;obtain⟨w2,T⟩:=zex (w1.alloc (.cells (PV (some ⟨D,0,none⟩) s j i 1 (1+j) (2+j) (2+j+i) (s - (2+j+i))) 120));have a2:Blk w2 PB 120 (PV (some ⟨D,0,none⟩) s j i 1 (1+j) (2+j) (2+j+i) (s - (2+j+i))):=by rw[T,a7];exact zbn
 have bk:Blk w2 w.heap.size 23 #[.int .i64 s,.int .i64 j,.int .i64 i]:=by rw[T];exact bc.alloc _
 have B2:Zr w w2:=by rw[T];exact B1.alloc B1.size _
 go_wp2_with fail
 rw[<-T,<-a7];clear T a7 bc B1;obtain⟨cP,lP⟩:=a2.zc;go_wp2_with fail
 refine(z0y D B x (1+j) w2 (h.below B2)).mono ?_;rintro e w3 ⟨ab,rfl⟩;have B3:=B2.trans (ab.mono B2.size);have bp:=a2.mD ab;have a1:=bk.mD ab;clear cP lP a2 bk ab B2;have ba:Hid (x.begins s j i=⟨s,j,i,fJ (cf (x.fr (1+j)).data) (rgB s j i).toNat 768,fJ (cf (x.fr (1+j)).data) (rgB s j i).toNat 768,[],false,false,false⟩):=kD rfl;have A:Hid (∀E,x.oH s j i E↔(bi x.stable.length s j i≠0/\E=bi x.stable.length s j i) \/
 (bi x.stable.length s j i=0/\x.ge (1+j)≠0/\E=x.ge (1+j)) \/
 (bi x.stable.length s j i=0/\x.ge (1+j)=0/\¬(i9 (x.fr (1+j)).data (rgB s j i).toNat/\(x.fr (1+j)).kind=5)/\E=6) \/
 (bi x.stable.length s j i=0/\x.ge (1+j)=0/\i9 (x.fr (1+j)).data (rgB s j i).toNat/\(x.fr (1+j)).kind=5/\E=0)):=kD fun E=>Iff.rfl
 generalize x.ge (1+j)=GE at *;generalize x.fr (1+j)=f at *;obtain⟨fk,fs,U⟩:=f;simp only at bM ba A |-
 by_cases hG:GE=0
 rotate_left
 ·have bQ:(GE != 0)=true:=by simpa using hG
  have HN:=kD hG;clear hG;go_wp2_with fail
  go_ret2
  exact⟨B3.alloc B3.size _,GE,(A.out _).2 (.inr (.inl ⟨HE.out,HN.out,rfl⟩)),.inl ⟨HN.out,rfl⟩⟩
 subst hG;obtain⟨FB,a6⟩:=zex w3.heap.size;obtain⟨w4,I⟩:=zex (w3.alloc (.cells #[.int .i64 fk,.int .u32 fs,.string U] 190));have aL:Blk w4 FB 190 #[.int .i64 fk,.int .u32 fs,.string U]:=by rw[I,a6];exact zbn
 have bq:Blk w4 PB 120 (PV (some ⟨D,0,none⟩) s j i 1 (1+j) (2+j) (2+j+i) (s - (2+j+i))):=by rw[I];exact bp.alloc _
 have bn:Blk w4 w.heap.size 23 #[.int .i64 s,.int .i64 j,.int .i64 i]:=by rw[I];exact a1.alloc _
 have B4:Zr w w4:=by rw[I];exact B3.alloc B3.size _
 obtain⟨bD,bN⟩:=a1.zc;go_wp2_with fail
 rw[<-I,<-a6];clear I a6 bp a1 B3 bD bN;obtain⟨cF,lF⟩:=aL.zc;obtain⟨cL,lL⟩:=bn.zc;obtain⟨w5,cc,bF,ac,bt⟩:=z5P w4 U;have z4:=B4.size;have M:=z6E s j i (some ⟨w4.heap.size,0,none⟩) cc (cf U) (by rw[dg];simp only[maxLen];omega) w5 bt
 rw[dg]at M;have bb:=aL.mD ac;have br:=bq.mD ac;have B5:=B4.trans (ac.mono z4);go_simp;go_wp2_with fail
 refine M.mono ?_;rintro e J ⟨an,bG⟩;have bB:=bb.mD an;have bC:=br.mD an;have Y:=B5.trans (an.mono B5.size);have z5:=B5.size;clear M an bb br B5 ac bt bF cF lF cL lL aL bq bn B4;obtain⟨cF,lF⟩:=bB.zc;obtain⟨cP,lP⟩:=bC.zc;rcases bG with ⟨bK,-⟩|⟨-,c,rfl⟩|⟨-,c,S,rfl⟩|⟨-,c,S,g,rfl,hg,a8⟩
 ·exact absurd av.out bK
 ·have HX:Hid (¬(i9 U (rgB s j i).toNat/\fk=5)):=kD fun hh=>c hh.1.1
  clear c;go_wp2_with fail
  go_ret2
  exact⟨Y.alloc Y.size _,6,(A.out _).2 (.inr (.inr (.inl ⟨HE.out,by first|trivial|rfl,HX.out,rfl⟩))),.inl ⟨by decide,rfl⟩⟩
 ·have HX:Hid (¬(i9 U (rgB s j i).toNat/\fk=5)):=kD fun hh=>S hh.1.2
  clear c S;go_wp2_with fail
  go_ret2
  exact⟨Y.alloc Y.size _,6,(A.out _).2 (.inr (.inr (.inl ⟨HE.out,by first|trivial|rfl,HX.out,rfl⟩))),.inl ⟨by decide,rfl⟩⟩
 have bA:Hid (i9 U (rgB s j i).toNat):=kD ⟨c,S⟩;clear c S;by_cases hk:fk=5
 rotate_left
 ·have HX:Hid (¬(i9 U (rgB s j i).toNat/\fk=5)):=kD fun hh=>hk hh.2
  have bT:(fk != 5)=true:=by simpa using hk
  clear hk;go_wp2_with fail
  go_ret2
  exact⟨Y.alloc Y.size _,6,(A.out _).2 (.inr (.inr (.inl ⟨HE.out,by first|trivial|rfl,HX.out,rfl⟩))),.inl ⟨by decide,rfl⟩⟩
 subst hk;have bJ:=@run_makeMap prog;go_wp2_with fail
 go_ret2
 clear bJ cF lF cP lP;have z6:=Y.size;obtain⟨o,ho⟩:∃o:Obj,o=.cells #[.int .i64 s,.int .i64 j,.int .i64 i,.slice (some ⟨g,0,none⟩) (rgB s j i).toNat (rgB s j i).toNat] 47:=⟨_,rfl⟩;have bw:(J.alloc o).heap.size=J.heap.size+1:=by simp
 have bO:((J.alloc o).alloc (.map #[] 0)).heap.size=J.heap.size+2:=by simp
 have bS:g<J.heap.size:=by
  rcases a8 with h0|⟨b,off,he,hl,-⟩
  ·have h1:=congrArg List.length h0;have h2:=(ir av.out).2.2.2.2;rw[lZ,dc]at h1;simp only[lH]at h1;omega
  ·cases he;exact hl
 have bX:w.heap.size<=g:=kO z5 hg;have bW:0<w.heap.size:=h.half.1;refine⟨?_,0,(A.out _).2 (.inr (.inr (.inr ⟨HE.out,by first|trivial|rfl,bA.out,by first|trivial|rfl,rfl⟩))),.inr ⟨rfl,J.heap.size+2,[J.heap.size+2,J.heap.size+1,g],?_,?_,?_⟩⟩
 ·exact((Y.alloc Y.size _).alloc (by simp;omega) _).alloc (by simp;omega) _
 ·rfl
 ·have bu:∀W,Reads W (some ⟨g,0,none⟩) ((fJ (cf U) (rgB s j i).toNat 768).map .bool)->SlB W [J.heap.size+2,J.heap.size+1,g] (J.heap.size+2) (J.heap.size+1) (.slice (some ⟨g,0,none⟩) (rgB s j i).toNat (rgB s j i).toNat) (fJ (cf U) (rgB s j i).toNat 768):=fun W hW=>
   ⟨some ⟨g,0,none⟩,(rgB s j i).toNat,by rw[dc],hW,fun a ha=>by cases ha;exact⟨by simp,by show g≠_;omega,by show g≠_;omega⟩⟩
  rw[ba.out];refine⟨⟨av.out,dc _ _ _,dc _ _ _,fun r hr=>(by cases hr),?_⟩,⟨J.heap.size+1,.slice (some ⟨g,0,none⟩) (rgB s j i).toNat (rgB s j i).toNat,.slice (some ⟨g,0,none⟩) (rgB s j i).toNat (rgB s j i).toNat,?_,by simp,by simp,by omega,⟨.map [],RecMap.empty,?_⟩,?_,?_⟩,?_⟩
  ·show 0<=min (j - 2) 80 - (([]:List Rec).length:Int) - (if false then 1 else 0)
   simp;omega
  ·exact zbn
  ·rw[<-bw,ho];exact(World.ownsMap_made _ _ _ _).alloc _
  ·exact bu _ (Reads.below a8 ((((kF _ _).alloc (kE _) _).alloc (by simp) _).alloc (by simp;omega) _))
  ·exact bu _ (Reads.below a8 ((((kF _ _).alloc (kE _) _).alloc (by simp) _).alloc (by simp;omega) _))
  ·intro b hb;simp only[lp,List.mem_nil_iff,or_false]at hb;simp only[World.size_alloc];rcases hb with rfl|rfl|rfl<;>omega
 ·intro b hb;simp only[lp,List.mem_nil_iff,or_false]at hb;rcases hb with rfl|rfl|rfl<;>omega
def TxS.mP (y:TxS)(n:Nat):Int:=if n=0 then 0 else if y.changed=false/\y.left<1 then 12 else 0
def TxS.change (y:TxS)(us:List Bool)(n:Nat):TxS:=if n=0 then y else if y.changed=false/\y.left<1 then y else { y with now:=us,changed:=true }
def z9S (w:World)(T:Nat)(F:List Nat)(D:Nat)(E:Int)(y:TxS)(e:Ending)(w':World):Prop:=e=.returned (.int .i64 E)/\∃F',TxAt w' T F' D y/\Grow w F w' F'
theorem iY {W:World}{g o:Nat}{t ty:TypeId}{cur:Array Value}{vs:Array Value}(b:Blk W g t cur)(D:o+vs.size<=cur.size)(A:vs.all (·.oneCell')=true)(c:(sizeOf ty).run prog W=.ok vs.size W):
  (Instr.storeAt ty (.pointer (some ⟨g,o,none⟩)) (.agg vs)).run prog W=.ok () (W.setRow g (cur.toList.take o++vs.toList++cur.toList.drop (o+vs.toList.length)).toArray):=by
 have h:=dE (P:=prog) (w:=W) (ty:=ty) (t:=t) (g:=g) (o:=o) (cur:=cur) (vs:=vs.toList) b (by simpa using D) (fun v I=>by
  have:=Array.all_eq_true'.1 A v (by simpa using I)
  exact this) (by simpa using c)
 simpa using h
theorem z3J (T:Nat)(F:List Nat)(D:Nat)(y:TxS)(g I n cl:Nat)(Al:Option Addr)(us:List Bool)(aL:us.length=y.now.length)(w:World)(h:TxAt w T F D y)(hR:Reads w (some ⟨g,0,none⟩) (us.map .bool))(hg:0<g)(a7:g∉F):
  Calls prog 97 #[.pointer (some ⟨T,0,none⟩),.agg #[.int .i64 y.s,.int .i64 y.j,.int .i64 y.i,.slice (some ⟨g,0,none⟩) us.length I],.slice Al n cl] w fun e w'=>e=.returned (.int .i64 (y.mP n))/\∃F',TxAt w' T F' D (y.change us n)/\KeepEx w.heap.size F w w'/\∀b∈F',b∈F\/b=g:=by
 have bt:=kD aL;clear aL;obtain⟨wA,hA⟩:=zex (w.alloc (.cells #[.int .i64 y.s,.int .i64 y.j,.int .i64 y.i,.slice (some ⟨g,0,none⟩) us.length I] 47));have bS:Blk wA w.heap.size 47 #[.int .i64 y.s,.int .i64 y.j,.int .i64 y.i,.slice (some ⟨g,0,none⟩) us.length I]:=by rw[hA];exact zbn
 have BA:Zr w wA:=by rw[hA];exact zgr
 have a6:=h.below BA;have HE:Hid (y.mP n=if n=0 then 0 else if y.changed=false/\y.left<1 then 12 else 0):=kD rfl
 have HC:Hid (y.change us n=if n=0 then y else if y.changed=false/\y.left<1 then y else { y with now:=us,changed:=true }):=kD rfl
 by_cases hn:n=0
 ·subst hn;go_enter func97,ntmps97
  go_wp2_with fail
  go_ret
  rw[<-hA];exact⟨by rw[HE.out];rfl,F,by rw[HC.out];exact a6,KeepEx.of_below BA,fun b J=>.inl J⟩
 have bF:((n:Int)==0)=false:=by rw[beq_eq_false_iff_ne];omega
 have HN:=kD hn;have ac:=z2J T F D y wA a6;obtain⟨M0,bK,bJ,ba,-⟩:=h.mem;have a8:w.cell? ⟨T,18,none⟩=some (.bool y.changed):=(ba.cells 18).trans rfl;have bG:=ba.lt;clear ba;clear hn;have a1:=a6;obtain⟨ok,⟨M,wv,nv,bT,hT,hM,ao,hO,hw,bu⟩,lt⟩:=a6;obtain⟨cT,lT⟩:=bT.zc;obtain⟨cS,lS⟩:=bS.zc;have bk:wA.cell? ⟨T,18,none⟩=some (.bool y.changed):=(cT 18).trans rfl;have hB:∀wz,Zr wA wz->(y.changed=true\/¬y.left<1)->(HX:Hid (y.mP n=0/\y.change us n={ y with now:=us,changed:=true }))->True:=fun _ _ _ _=>trivial
 cases hch:y.changed;rotate_left
 ·have HX:Hid (y.mP n=0/\y.change us n={ y with now:=us,changed:=true }):=kD (by rw[HE.out,HC.out,if_neg HN.out,if_neg HN.out,hch,if_neg (by simp),if_neg (by simp)];exact⟨rfl,rfl⟩)
  rw[hch]at bk a8;clear cT;have an:=iY (ty:=47) (o:=13) (vs:=#[.int .i64 y.s,.int .i64 y.j,.int .i64 y.i,.slice (some ⟨g,0,none⟩) us.length I]) bT (by simp) (by simp[Value.oneCell']) (by kernel_rfl)
  have bn:((txC D y.s y.j y.i wv nv M y.changed y.broken y.ended).toList.take 13++(#[.int .i64 y.s,.int .i64 y.j,.int .i64 y.i,.slice (some ⟨g,0,none⟩) us.length I]:Array Value).toList++(txC D y.s y.j y.i wv nv M y.changed y.broken y.ended).toList.drop (13+(#[.int .i64 y.s,.int .i64 y.j,.int .i64 y.i,.slice (some ⟨g,0,none⟩) us.length I]:Array Value).toList.length)).toArray=txC D y.s y.j y.i wv (.slice (some ⟨g,0,none⟩) us.length I) M y.changed y.broken y.ended:=rfl;rw[bn]at an;obtain⟨W2,O⟩:=zex (wA.setRow T (txC D y.s y.j y.i wv (.slice (some ⟨g,0,none⟩) us.length I) M y.changed y.broken y.ended));have K:Blk W2 T 148 (txC D y.s y.j y.i wv (.slice (some ⟨g,0,none⟩) us.length I) M y.changed y.broken y.ended):=by rw[O];exact bT.setRow
  rw[<-O,hA]at an;have V:=kD O;have HA:=kD hA;clear O hA;have c2:W2.cell? ⟨T,18,none⟩=some (.bool y.changed):=(K.cells 18).trans rfl;rw[hch]at c2;have l2:=K.lt;have f2:=K.free;go_enter func97,ntmps97
  go_wp2_with (refine zsb an ?_)
  go_ret
  have bc:=K.mG 18 (.bool true);have hk:∀b,b≠T->(W2.setCell ⟨T,18,none⟩ (.bool true)).heap[b]?=wA.heap[b]?:=fun b J=>(Below.heap_setCell W2 ⟨T,18,none⟩ _ b J).trans (by rw[V.out];exact ak wA T b _ J)
  have S:(W2.setCell ⟨T,18,none⟩ (.bool true)).heap.size=wA.heap.size:=by rw[V.out];simp
  have bD:wA.heap.size=w.heap.size+1:=by rw[HA.out];simp
  have bB:=(h.lt T hT).2;refine⟨by rw[HX.out.1];rfl,g::F,?_,?_,?_⟩
  focus
   rw[HX.out.2];obtain⟨E,hE,hO⟩:=hO;have aL:=bt.out;have bC:=ok.bds;have bq:g<w.heap.size:=by
    rcases hR with h0|⟨b,off,he,hl,-⟩
    ·have:=congrArg List.length h0
     rw[lZ]at this;simp only[lH]at this;omega
    ·cases he;exact hl
   have a2:g≠T:=fun e=>a7 (by rw[e];exact hT)
   have bp:g≠M:=fun e=>a7 (by rw[e];exact hM)
   have hl:=ok.len;refine⟨⟨ok.rg,ok.was,aL.trans ok.now,ok.recs,?_⟩,⟨M,wv,.slice (some ⟨g,0,none⟩) us.length I,?_,ly _ hT,ly _ hM,ao,⟨E,hE,aU hO (hk M ao)⟩,?_,?_⟩,?_⟩
   focus
    unfold TxS.left at hl |-;rw[hch]at hl;exact hl
   focus exact bc
   focus
    obtain⟨A,c,h1,h2,h3⟩:=hw;refine⟨A,c,h1,?_,fun a ha=>⟨ly _ (h3 a ha).1,(h3 a ha).2⟩⟩
    rcases h2 with h2|⟨b,off,rfl,ab,hc⟩
    ·exact .inl h2
    ·exact .inr ⟨b,off,rfl,by rw[S];exact ab,fun k u hu=>(World.cell?_of_block (w:=wA) (a:=⟨b,off+k,none⟩) (hk b (h3 _ rfl).2.1)).trans (hc k u hu)⟩
   focus
    refine⟨some ⟨g,0,none⟩,I,rfl,?_,fun a ha=>by cases ha;exact⟨me,a2,bp⟩⟩
    rcases hR with h0|⟨b,off,he,ab,hc⟩
    ·exact .inl h0
    ·cases he;exact .inr ⟨g,0,rfl,by rw[S];omega,fun k u hu=>(World.cell?_of_block (w:=w) (a:=⟨g,0+k,none⟩) ((hk g a2).trans (BA.block g bq))).trans (hc k u hu)⟩
   focus
    intro b J;rw[S];rcases lp.1 J with rfl|J
    ·exact⟨by omega,by omega⟩
    ·exact lt b J
  focus
   have Y:Below 0 wA (W2.setCell ⟨T,18,none⟩ (.bool true)):=by rw[V.out];exact(Below.setRow (kF 0 wA) (kP _) _).setCell (p:=⟨T,18,none⟩) (kP _) _
   exact⟨Y.os.trans BA.os,Y.tape.trans BA.tape,Y.output.trans BA.output,by rw[S];omega,fun b J hn=>(hk b (fun e=>hn (by rw[e];exact hT))).trans (BA.block b J)⟩
  focus
   intro b J;rcases lp.1 J with rfl|J
   ·exact .inr rfl
   ·exact .inl J
 ·rw[hch]at bk a8;clear cT;by_cases U:y.left<1
  ·have HX:Hid (y.mP n=12/\y.change us n=y):=kD (by rw[HE.out,HC.out,if_neg HN.out,if_neg HN.out,if_pos ⟨hch,U⟩,if_pos ⟨hch,U⟩];exact⟨rfl,rfl⟩)
   rw[hA]at ac;have ab:decide (y.left<1)=true:=by simpa using U
   clear hB;go_enter func97,ntmps97
   go_wp2_with fail
   rw[<-hA]at ac |-;refine ac.mono ?_;rintro e w1 ⟨rfl,av⟩;go_wp2_with fail
   go_ret
   exact⟨by rw[HX.out.1];rfl,F,by rw[HX.out.2];exact a1.below av,KeepEx.of_below (BA.trans (av.mono BA.size)),fun b J=>.inl J⟩
  ·have HX:Hid (y.mP n=0/\y.change us n={ y with now:=us,changed:=true }):=kD (by rw[HE.out,HC.out,if_neg HN.out,if_neg HN.out,if_neg (fun hh=>U hh.2),if_neg (fun hh=>U hh.2)];exact⟨rfl,rfl⟩)
   rw[hA]at ac;have ab:decide (y.left<1)=false:=by simpa using U
   have HL:=kD U;clear hB U;go_enter func97,ntmps97
   go_wp2_with fail
   rw[<-hA]at ac |-;clear hA;refine ac.mono ?_;rintro e w1 ⟨rfl,av⟩;have B1:=BA.trans (av.mono BA.size);have bw:=bS.mD av;have bA:=a1.below av;clear ok bT hT hM ao hO hw bu lt bS cS lS bk ac a1 lT;clear M wv nv;obtain⟨ok,⟨M,wv,nv,bb,hT,hM,ao,hO,hw,bu⟩,lt⟩:=bA;obtain⟨cS,lS⟩:=bw.zc;have lT:=bb.lt;have an:=iY (ty:=47) (o:=13) (vs:=#[.int .i64 y.s,.int .i64 y.j,.int .i64 y.i,.slice (some ⟨g,0,none⟩) us.length I]) bb (by simp) (by simp[Value.oneCell']) (by kernel_rfl)
   have bn:((txC D y.s y.j y.i wv nv M y.changed y.broken y.ended).toList.take 13++(#[.int .i64 y.s,.int .i64 y.j,.int .i64 y.i,.slice (some ⟨g,0,none⟩) us.length I]:Array Value).toList++(txC D y.s y.j y.i wv nv M y.changed y.broken y.ended).toList.drop (13+(#[.int .i64 y.s,.int .i64 y.j,.int .i64 y.i,.slice (some ⟨g,0,none⟩) us.length I]:Array Value).toList.length)).toArray=txC D y.s y.j y.i wv (.slice (some ⟨g,0,none⟩) us.length I) M y.changed y.broken y.ended:=rfl;rw[bn]at an;obtain⟨W2,O⟩:=zex (w1.setRow T (txC D y.s y.j y.i wv (.slice (some ⟨g,0,none⟩) us.length I) M y.changed y.broken y.ended));have K:Blk W2 T 148 (txC D y.s y.j y.i wv (.slice (some ⟨g,0,none⟩) us.length I) M y.changed y.broken y.ended):=by rw[O];exact bb.setRow
   rw[<-O]at an;have V:=kD O;clear O;have c2:W2.cell? ⟨T,18,none⟩=some (.bool y.changed):=(K.cells 18).trans rfl;rw[hch]at c2;have l2:=K.lt;have f2:=K.free;go_wp2_with (refine zsb an ?_)
   go_ret
   have bc:=K.mG 18 (.bool true);have hk:∀b,b≠T->(W2.setCell ⟨T,18,none⟩ (.bool true)).heap[b]?=w1.heap[b]?:=fun b J=>(Below.heap_setCell W2 ⟨T,18,none⟩ _ b J).trans (by rw[V.out];exact ak w1 T b _ J)
   have S:(W2.setCell ⟨T,18,none⟩ (.bool true)).heap.size=w1.heap.size:=by rw[V.out];simp
   have bD:w.heap.size<=w1.heap.size:=B1.size;have bB:=(h.lt T hT).2;refine⟨by rw[HX.out.1];rfl,g::F,?_,?_,?_⟩
   focus
    rw[HX.out.2];obtain⟨E,hE,hO⟩:=hO;have aL:=bt.out;have bC:=ok.bds;have bq:g<w.heap.size:=by
     rcases hR with h0|⟨b,off,he,hl,-⟩
     ·have:=congrArg List.length h0
      rw[lZ]at this;simp only[lH]at this;omega
     ·cases he;exact hl
    have a2:g≠T:=fun e=>a7 (by rw[e];exact hT)
    have bp:g≠M:=fun e=>a7 (by rw[e];exact hM)
    have hl:=ok.len;refine⟨⟨ok.rg,ok.was,aL.trans ok.now,ok.recs,?_⟩,⟨M,wv,.slice (some ⟨g,0,none⟩) us.length I,?_,ly _ hT,ly _ hM,ao,⟨E,hE,aU hO (hk M ao)⟩,?_,?_⟩,?_⟩
    focus
     have br:=HL.out;unfold TxS.left TxS.most at hl br |-;rw[hch]at hl br;simp only[Bool.false_eq_true,if_false,if_true]at hl br |-;omega
    focus exact bc
    focus
     obtain⟨A,c,h1,h2,h3⟩:=hw;refine⟨A,c,h1,?_,fun a ha=>⟨ly _ (h3 a ha).1,(h3 a ha).2⟩⟩
     rcases h2 with h2|⟨b,off,rfl,ab,hc⟩
     ·exact .inl h2
     ·exact .inr ⟨b,off,rfl,by rw[S];exact ab,fun k u hu=>(World.cell?_of_block (w:=w1) (a:=⟨b,off+k,none⟩) (hk b (h3 _ rfl).2.1)).trans (hc k u hu)⟩
    focus
     refine⟨some ⟨g,0,none⟩,I,rfl,?_,fun a ha=>by cases ha;exact⟨me,a2,bp⟩⟩
     rcases hR with h0|⟨b,off,he,ab,hc⟩
     ·exact .inl h0
     ·cases he;exact .inr ⟨g,0,rfl,by rw[S];omega,fun k u hu=>(World.cell?_of_block (w:=w) (a:=⟨g,0+k,none⟩) ((hk g a2).trans (B1.block g bq))).trans (hc k u hu)⟩
    focus
     intro b J;rw[S];rcases lp.1 J with rfl|J
     ·exact⟨by omega,by omega⟩
     ·exact lt b J
   focus
    have Y:Below 0 w1 (W2.setCell ⟨T,18,none⟩ (.bool true)):=by rw[V.out];exact(Below.setRow (kF 0 w1) (kP _) _).setCell (p:=⟨T,18,none⟩) (kP _) _
    exact⟨Y.os.trans B1.os,Y.tape.trans B1.tape,Y.output.trans B1.output,by rw[S];omega,fun b J hn=>(hk b (fun e=>hn (by rw[e];exact hT))).trans (B1.block b J)⟩
   focus
    intro b J;rcases lp.1 J with rfl|J
    ·exact .inr rfl
    ·exact .inl J
theorem TxAt.broken {w:World}{T:Nat}{F:List Nat}{D:Nat}{y:TxS}(h:TxAt w T F D y):TxAt (w.setCell ⟨T,19,none⟩ (.bool true)) T F D { y with broken:=true }:=by
 obtain⟨ok,⟨M,wv,nv,V,hT,hM,I,⟨E,hE,hO⟩,hw,hn⟩,lt⟩:=h;have S:∀b,b≠T->(w.setCell ⟨T,19,none⟩ (.bool true)).heap[b]?=w.heap[b]?:=fun b J=>Below.heap_setCell w ⟨T,19,none⟩ _ b J
 have U:∀v l,SlB w F T M v l->SlB (w.setCell ⟨T,19,none⟩ (.bool true)) F T M v l:=by
  rintro v l ⟨A,c,Y,K,O⟩;refine⟨A,c,Y,?_,O⟩
  rcases K with K|⟨b,off,rfl,hl,hc⟩
  ·exact .inl K
  ·exact .inr ⟨b,off,rfl,by simpa using hl,fun k u hu=>(World.cell?_of_block (w:=w) (a:=⟨b,off+k,none⟩) (S b (O _ rfl).2.1)).trans (hc k u hu)⟩
 exact⟨⟨ok.rg,ok.was,ok.now,ok.recs,ok.len⟩,⟨M,wv,nv,V.mG 19 (.bool true),hT,hM,I,⟨E,hE,aU hO (S M I)⟩,U _ _ hw,U _ _ hn⟩,fun b J=>⟨(lt b J).1,by simpa using (lt b J).2⟩⟩
theorem jT {P:Program}{c:Func}{R:Ending->World->Prop}{a:Act}{w:World}(I:c.results=#[])(D:a.defers=[])(A:R (.returned (.tuple #[])) w):bodyPost P c R .normal a w:=
 bodyPost_end (v:=.tuple #[]) (by simp[results,I,go_sem]) D A
def badE (e:Int):Bool:=decide (e≠0/\e≠1/\e≠9)
theorem z4R (T R:Nat)(c:Int)(u:FrameMode)(w:World)(J:w.cell? ⟨R,0,none⟩=some (.int .i64 c))(K:R<w.heap.size)(A:c=0\/c=1\/c=9):
  CallsD prog 94 #[.pointer (some ⟨T,0,none⟩),.pointer (some ⟨R,0,none⟩)] u w fun e D I=>D=u/\(e=.returned (.tuple #[])/\I=w):=by
 rcases A with rfl|rfl|rfl
 all_goals
  go_enter_d func94,ntmps94
  go_wp2_with fail
  refine jT (by rfl) rfl ?_
  exact⟨rfl,rfl⟩
theorem z6L (T R:Nat)(F:List Nat)(D:Nat)(y:TxS)(c:Int)(u:FrameMode)(w:World)(h:TxAt w T F D y)(hR:w.cell? ⟨R,0,none⟩=some (.int .i64 c))(lR:R<w.heap.size)(I:c≠0)(J:c≠1)(K:c≠9):
  CallsD prog 94 #[.pointer (some ⟨T,0,none⟩),.pointer (some ⟨R,0,none⟩)] u w fun e S U=>S=u/\(e=.returned (.tuple #[])/\U=w.setCell ⟨T,19,none⟩ (.bool true)):=by
 obtain⟨ok,⟨M,wv,nv,A,-⟩,lt⟩:=h;have O:w.cell? ⟨T,19,none⟩=some (.bool y.broken):=(A.cells 19).trans rfl;have lT:=A.lt;have fT:=A.free;have V:(c != 0)=true:=by simpa using I
 have Y:(c != 1)=true:=by simpa using J
 have b9:(c != 9)=true:=by simpa using K
 clear A ok lt I J K;go_enter_d func94,ntmps94
 go_wp2_with fail
 refine jT (by rfl) rfl ?_
 exact⟨rfl,rfl⟩
open Go.Shelf
attribute [local go_sem] Oper.semAt_some
def aM (us:List Bool)(near k:Nat):List Int:=
 ((List.range k).filter fun (i:Nat)=>us[(near+i) % us.length]?==some false).map fun (i:Nat)=>((near:Int)+(i:Int)) % (us.length:Int)
theorem jA (us:List Bool)(near:Nat):aM us near 0=[]:=by simp[aM]
theorem je {us:List Bool}{near k:Nat}(h:us[(near+k) % us.length]?=some false):aM us near (k+1)=aM us near k++[((near:Int)+(k:Int)) % (us.length:Int)]:=by
 simp[aM,List.range_succ,List.filter_append,h]
theorem iS {us:List Bool}{near k:Nat}(h:us[(near+k) % us.length]?=some true):aM us near (k+1)=aM us near k:=by
 simp[aM,List.range_succ,List.filter_append,h]
theorem i6 (us:List Bool)(near k:Nat):(aM us near k).length<=k:=by
 unfold aM;rw[lZ];exact kO (List.length_filter_le _ _) (by simp)
def ew (us:List Bool)(near:Nat):List Int:=aM us near us.length
theorem za7 (F:Fence)(n:Nat)(h7:F.fn 217)(a7:F.round=none)(hn:1<=n)(l T S n₀:Nat)(s j i:Int)(A:Option Addr)(c near:Nat)(us:List Bool)(a6:near<us.length)(bn:us.length<=1000)(ao:T<n₀)(an:S<n₀)(bs:List Nat)(ba:T∉bs)(a8:S∉bs)(J Jx:List Int->World->Prop)
  (hY:∀D (x:Int) W,J D W->D.length<us.length->0<=x->x<(us.length:Int)->YieldAt F (n - 1) prog l #[.int .i64 x] W fun e O=>
   (e=.returned (.bool true)/\J (D++[x]) O/\KeepEx n₀ bs W O)\/(e=.returned (.bool false)/\Jx (D++[x]) O))
  (W:World) (M:∀j',W.cell? ⟨T,j',none⟩=(#[.int .i64 s,.int .i64 j,.int .i64 i,.slice A us.length c]:Array Value)[j']?) (aL:W.cell? ⟨S,0,none⟩=some (.int .i64 near))
  (b off:Nat) (hA:A=some ⟨b,off,none⟩) (hb:b<n₀) (xb:b∉bs) (ab:∀k (h:k<us.length),W.cell? ⟨b,off+k,none⟩=some (.bool us[k])) (h0:J [] W):
  CallsIn F n prog 217 #[.func (.yield l) #[] #[],.pointer (some ⟨T,0,none⟩),.pointer (some ⟨S,0,none⟩)] W fun e O=>(∃v,e=.returned v) /\
   ((∃ys,ys=ew us near/\J ys O)\/(∃D,(∃k,k<=us.length/\D=aM us near k)/\Jx D O)):=by
 subst hA;have Y:=M 3;simp only[List.getElem?_toArray,mr,mw]at Y;refine callsIn_of_wp func217 rfl h7 ?_ a7;simp only[ntmps217,List.size_toArray,lr,lH,Nat.reduceAdd,Nat.reduceSub,Array.replicate_succ,Array.replicate_zero,List.push_toArray,List.append_toArray,mo,List.cons_append];have HC:=kD M;clear M;have ac:=kD ab;clear ab;gi_wp2
 gi_loopw [9] (fun q wr=>∃k:Nat,k<=us.length/\q=.int .i64 k/\J (aM us near k) wr/\KeepEx n₀ bs W wr)
  (fun q _=>us.length - (intOf q).toNat)
 case atStart=>exact⟨0,kP _,rfl,by rw[jA];exact h0,KeepEx.refl _ _ _⟩
 case round=>
  obtain⟨k,hk,rfl,K,I⟩:=hrel;have bb:=(I.cell (p:=⟨T,3,none⟩) ao ba).trans Y;have bc:=(I.cell (p:=⟨S,0,none⟩) an a8).trans aL;by_cases bk:k<us.length
  ·have hm:(near+k) % us.length<us.length:=Nat.mod_lt _ (by omega)
   have a1:=(I.cell (p:=⟨b,off+(near+k) % us.length,none⟩) hb xb).trans (ac.out _ hm);have hl:=i6 us near k;have V:0<=((near:Int)+(k:Int)) % (us.length:Int)/\((near:Int)+(k:Int)) % (us.length:Int)<(us.length:Int):=⟨Int.emod_nonneg _ (by omega),Int.emod_lt_of_pos _ (by omega)⟩
   cases hu:us[(near+k) % us.length]<;>rw[hu]at a1
   ·have hr:=kD (je (us:=us) (near:=near) (k:=k) (by rw[kQ hm,hu]))
    obtain⟨fn,tmps,assign,body,hy,hR⟩:=hY _ (((near:Int)+(k:Int)) % (us.length:Int)) wr K (by omega) V.1 V.2
    clear hu;gi_wp2
    refine hR.mono ?_;rintro e W3 (⟨rfl,av,a2⟩|⟨rfl,U⟩)
    ·gi_wp2
     go_roundw
     case rel=>exact⟨k+1,by omega,by simp,by rw[hr.out];exact av,I.trans a2⟩
     case measure=>simp[intOf];omega
    ·gi_wp2
     refine bodyPost_ret (results_none rfl _ _ _) rfl ?_;exact⟨⟨_,rfl⟩,.inr ⟨_,⟨k+1,by omega,hr.out.symm⟩,U⟩⟩
   ·have hr:=kD (iS (us:=us) (near:=near) (k:=k) (by rw[kQ hm,hu]))
    clear hu;gi_wp2
    refine⟨fun _ h=>(by cases h),?_⟩
    gi_wp2
    go_roundw
    case rel=>exact⟨k+1,by omega,by simp,by rw[hr.out];exact K,I⟩
    case measure=>simp[intOf];omega
  ·obtain rfl:k=us.length:=by omega
   gi_wp2
   go_end0
   exact⟨⟨_,rfl⟩,.inl ⟨_,rfl,K⟩⟩
end Go.Proofs.YtejmknghkbobnaaGreatDoor
