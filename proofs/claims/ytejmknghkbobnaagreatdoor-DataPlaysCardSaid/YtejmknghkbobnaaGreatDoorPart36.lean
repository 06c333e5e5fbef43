import Derived.Test.YtejmknghkbobnaaGreatDoorPart35
set_option linter.all false
set_option maxRecDepth 100000
set_option maxHeartbeats 0
namespace Go.Proofs.YtejmknghkbobnaaGreatDoor
open Go.Proofs.Tryz
open Go.RowKit Go.Maps
theorem z5w (A Bl:Option Addr)(c d:Nat)(D lb:List ByteArray)(a8:D.length<=100000)(ba:lb.length<=100000)(w:World)(hA:Reads w A (D.map .string))(hB:Reads w Bl (lb.map .string)):
  Calls prog 88 #[.slice A D.length c,.slice Bl lb.length d] w (Zq (.bool (decide (D=lb))) w):=by
 by_cases Y:D.length=lb.length
 rotate_left
 ·have hd:decide (D=lb)=false:=decide_eq_false fun e=>Y (by rw[e])
  have HD:=kD hd;have hq:((D.length:Int) != (lb.length:Int))=true:=by simp;omega
  clear hd Y;go_enter func88,ntmps88
  go_wp2_with fail
  go_ret
  exact⟨by rw[HD.out];rfl,kF _ _⟩
 ·have hq:((D.length:Int) != (lb.length:Int))=false:=by simp;omega
  have HL:=kD Y;clear Y;go_enter func88,ntmps88
  go_wp2_with fail
  go_loopw [5] (fun q wr=>∃k:Nat,k<=D.length/\q=.int .i64 k/\D.take k=lb.take k/\Zr w wr) (fun q _=>D.length - (RowKit.intOf q).toNat)
  case atStart=>exact⟨0,kP _,rfl,by simp,kF _ _⟩
  case round=>
   obtain⟨k,hk,rfl,M,J⟩:=hrel;by_cases K:k<D.length
   ·have I:k<lb.length:=by have:=HL.out;omega
    obtain⟨b1,o1,rfl,a6,ao⟩:=(hA.below J).at_ (k:=k) (by simpa using K)
    obtain⟨b2,o2,rfl,a7,av⟩:=(hB.below J).at_ (k:=k) (by simpa using I)
    rw[lf]at ao av;have O:D.take (k+1)=D.take k++[D[k]]:=by rw[kZ K]
    have U:lb.take (k+1)=lb.take k++[lb[k]]:=by rw[kZ I]
    have ab:Hid (D[k]≠lb[k]->decide (D=lb)=false):=kD fun aL=>decide_eq_false fun e=>aL (by subst e;rfl)
    have HT:=kD M;have a1:=kD hA;have a2:=kD hB;have ac:=kD O;have an:=kD U;generalize D[k]=x at *;generalize lb[k]=z at *;clear O U M hA hB;by_cases V:x=z
    ·subst V;go_wp2_with fail
     go_quiet (fail)
     go_wp2_with fail
     go_roundw
     case rel=>exact⟨k+1,by omega,by go_num,by rw[ac.out,an.out,HT.out],aa J _⟩
     case measure=>simp[RowKit.intOf];omega
    ·have hn:(x.toList==z.toList)=false:=z2s V;have HF:=kD (ab.out V);clear V;go_wp2_with fail
     go_quiet (fail)
     go_wp2_with fail
     go_ret
     exact⟨by rw[HF.out];rfl,aa J _⟩
   ·obtain rfl:k=D.length:=by omega
    have HD:Hid (decide (D=lb)=true):=kD (decide_eq_true (by rw[lj,HL.out,lj]at M;exact M))
    clear M;go_wp2_with fail
    go_ret
    exact⟨by rw[HD.out];rfl,J⟩
def gU (s:ByteArray)(w:World)(e:Ending)(w':World):Prop:=
 Zr w w'/\((768<s.size/\e=.returned (.tuple #[.slice none 0 0,.int .i64 3])) \/
  (s.size<=768/\∃v,e=.returned (.tuple #[v,.int .i64 0])/\w'.ownsRow w.heap.size 9 1 v (bh s).length ((bh s).map .string)))
theorem z2c (s:ByteArray)(hs:s.size<=100000)(w:World):
  Calls prog 167 #[.string s] w (gU s w):=by
 by_cases h:768<s.size
 ·have hd:(768:Int)<(s.size:Int):=by omega
  have U:=kD h;clear h;unfold gU;go_enter func167,ntmps167
  go_wp2_with fail
  go_ret2
  exact⟨kF _ _,.inl ⟨U.out,rfl⟩⟩
 ·have hd:¬(768:Int)<(s.size:Int):=by omega
  have U:Hid (s.size<=768):=kD (by omega)
  have H0:=kD (z33 s);obtain⟨i0,hi,aL,a2,a1⟩:=info_parts Tryz.oO;clear h;unfold gU;go_enter func167,ntmps167
  go_wp2_with fail
  go_loopw [0,4] (fun q v wr=>∃k:Nat,k<=eO s.size/\q=.string (dV s k)/\wr.ownsRow w.heap.size 9 1 v k (((List.range k).map (j4 s)).map .string)/\Zr w wr) (fun q _ _=>match q with|.string r=>r.size|_=>0)
  case atStart=>exact⟨0,kP _,by rw[z33],World.ownsRow_nil _ _ _ _,kF _ _⟩
  case round=>
   obtain⟨k,hk,rfl,c,hb⟩:=hrel;obtain⟨av,cv,rfl⟩:=aw c;have K:=iq s k;have ac:=hb.size;by_cases ao:96*k<s.size
   ·have an:k<eO s.size:=by unfold eO;omega
    have a8:k<10:=by have:=U.out;omega
    have V:=kD (z1p s k);have HT:=kD (z1q s k);have HS:=kD K;have Y:=kD (z1T s k);have a7:=kD (iq s (k+1));have O:0<(dV s k).size:=by omega
    generalize dV s k=r at *;clear K;obtain⟨m,hm⟩:∃m:Nat,m=min r.size 96:=⟨_,rfl⟩;have J:m=min (s.size - 96*k) 96:=by rw[hm,HS.out]
    have bb:min (r.size:Int) 96=(m:Int):=by omega
    have bc:m<=r.size:=by omega
    have ba:0<m:=by omega
    have HX:=kD (V.out m J);have ab:=kD (HT.out m r.size J HS.out);have HM:=kD hm;clear hm J;go_wp2_with (at_builtin;refine wpList_append_own _ rfl _ _ 76 rfl w.heap.size 9 i0 (.string ⟨#[]⟩) 1 16 underlying76 hi aL a2 a1 rfl (by decide) _ _ _ rfl (c.alloc _) ⟨wr.heap.size,0,none⟩ 1 1 [.string (r.extract 0 m)] rfl rfl (cell_one_new _ _ _) (by simp[Value.oneCell']) (by simp only[maxLen];omega) (by omega) (by simp;omega) ?_;intro v' w4 A D _;obtain⟨g',a6,rfl,_,_⟩:=dA A (by omega))
    have M:Zr w w4:=(hb.alloc ac _).grown D (by simp;omega) (fun q hq=>(c.lt q hq).1)
    go_wp2_with fail
    go_roundw
    case rel=>exact⟨k+1,an,by rw[ab.out],by rw[Y.out,<-HX.out];simpa using A,M⟩
    case measure=>simp;omega
   ·have I:k=eO s.size:=by unfold eO at hk |-;omega
    have O:(dV s k).size=0:=by omega
    have HO:Hid (wr.ownsRow w.heap.size 9 1 (.slice av k cv) (bh s).length ((bh s).map .string)):=kD (by rw[dL,<-I];unfold bh;rw[<-I];exact c)
    clear I K ao hk;generalize dV s k=r at *;go_wp2_with fail
    go_ret2
    exact⟨hb,.inr ⟨U.out,_,rfl,HO.out⟩⟩
theorem dB {K:Func}{m n i k R:Nat}{ty t:TypeId}{tmps:Array Value}{w:World}{cs:Array Value}{M:Nat × Nat}{v:Value}{q e:Int}{O:_}(hr:K.results=#[.cell m ty,.tmp n,.tmp i,.tmp k])(hm:tmps.getD m undef=.pointer (some ⟨R,0,none⟩))(hn:tmps.getD n undef=v)(A:tmps.getD i undef=.int .i64 q)(Y:tmps.getD k undef=.int .i64 e)
  (V:w.heap[R]?=some (.cells cs t M)) (hu:prog.underlying ty=some (.struct O)) (hi:(prog.info? ty).map (·.size)=some cs.size):
  (results K tmps).run prog w=.ok (.tuple #[.agg cs,v,.int .i64 q,.int .i64 e]) w:=by
 have h:=run_loadVar_row (P:=prog) w R t ty cs M _ V hu rfl hi;have U:(asAddr (.pointer (some ⟨R,0,none⟩))).run prog w=.ok ⟨R,0,none⟩ w:=rfl;have I:tmps[m]?.getD undef=.pointer (some ⟨R,0,none⟩):=by simpa using hm
 have J:tmps[n]?.getD undef=v:=by simpa using hn
 have c:tmps[i]?.getD undef=.int .i64 q:=by simpa using A
 have D:tmps[k]?.getD undef=.int .i64 e:=by simpa using Y
 simp[results,hr,I,J,c,D,U,h]
def RDw (w:World)(P:Nat->Prop)(x:DevS)(r:Int × TxS × List Int × Int)(e:Ending)(w':World):Prop:=
 ∃tv A c,e=.returned (.tuple #[.agg tv,.slice A r.2.2.1.length c,.int .i64 r.2.2.2,.int .i64 r.1])/\RTx w' P x r.2.1 tv/\(Reads w' A (r.2.2.1.map (.int .i64))/\∀a,A=some a->w.heap.size<=a.block)/\Zr w w'
theorem RDw.nil {w W:World}{P:Nat->Prop}{x:DevS}{A R:Nat}{z:TxS}{c:Array Value}(K:RTx W (Apt_ P w.heap.size A) x z c)(J:Zr w W)(D:w.heap.size<=R)(I:R<A)(e:Int):RDw w P x (e,z,[],0) (.returned (.tuple #[.agg c,.slice none 0 0,.int .i64 0,.int .i64 e])) (W.setRow R c):=
 ⟨c,none,0,rfl,(K.row (Apt_.ne D I) c).oD,⟨Reads.nil,fun _ h=>by cases h⟩,Below.setRow J D c⟩
theorem z4g {y:TxS}{x:DevS}{kd:Int}{l:List Int}{size:Int}(h:0<=size)(I:(l.length:Int)=(size+95) / 96):
  y.nz x kd l size (min 0 size) (min 0 size+min size (size - min 0 size)) l.length=y.text x kd l size 0 size:=by
 have c:min 0 size=0:=by omega
 have A:(0:Int)+min size (size - 0)=size:=by omega
 rw[c,A,TxS.pI h];split
 ·rename_i D
  subst D;have:l.length=0:=by omega
  unfold TxS.text;rw[this];rfl
 ·rfl
theorem z4P {o s:ByteArray}{c:Nat}(h:c<=o.size):(bx o s c o.size).size=max o.size (c+s.size):=by
 unfold bx;simp only[ByteArray.size_append,ByteArray.size_extract];omega
theorem z0X {y:TxS}{x:DevS}{kd:Int}{l:List Int}{t:ByteArray}(h:aC y l=0)(I:t.size<=768):y.mQ x kd l (bh t)=y.store x kd l (bh t):=by
 unfold TxS.mQ;rw[if_neg (by simpa using h),if_neg]
 rintro (c|c)
 ·rw[dL]at c;unfold eO at c;omega
 ·unfold eA at c;obtain⟨p,D,A⟩:=List.any_eq_true.1 c;have:=gX t p D
  have A:=of_decide_eq_true A;omega
theorem z6I {o s:ByteArray}{c:Nat}(h:c<=o.size):bx o s c o.size=if c+s.size<o.size then o.extract 0 c++s++o.extract (c+s.size) o.size else o.extract 0 c++s:=by
 unfold bx;split
 ·rw[show (min ((c:Int)+s.size) o.size).toNat=c+s.size by omega];rfl
 ·rw[show (min ((c:Int)+s.size) o.size).toNat=o.size by omega,ByteArray.oU]
  exact ByteArray.append_empty
theorem zaJ {w:World}{P:Nat->Prop}{x:DevS}{y:TxS}{tv:Array Value}(hq:RTx w P x y tv)(ba:x.Calm)(hP:∀b,w.heap.size<=b->P b)(ok:y.Ok)(hc:y.Clean)(kd:Int)(A:Option Addr)(c:Nat)(l:List Int)(hl:l.length<=1000)(hA:SlI w A c l)(size off:Int)(s:ByteArray)(cN:s.size<=10000):
  Calls prog 83 #[.agg tv,.int .i64 kd,.slice A l.length c,.int .i64 size,.int .i64 off,.string s] w (RDw w P x (y.mJ x kd l size off s)):=by
 obtain⟨w0,aL⟩:=zex ((w.alloc (.cells tv 50)).alloc (.cells txZ 50));have B0:Zr w w0:=by rw[aL];exact zgr
 obtain⟨E0,bQ⟩:=zex w0.heap.size;have bn:StW w P x E0 y tv w0:=⟨bQ▸hq.apt B0 w0.heap.size,by rw[aL];exact zbn,by rw[aL];exact zbn,B0,by omega⟩
 have b5:E0=w.heap.size+2:=by rw[bQ,aL];simp
 have HN:Hid (∀b,E0<=b->Apt_ P w.heap.size E0 b):=kD (Apt_.new hP (by omega))
 have cb:=ji bn.q ok A c l hl (hA.below B0);have HA:=kD (hA.below B0);have a2:=kD b5;have bD:=hq.one;have av:=hq.size;have HR:Hid (y.mJ x kd l size off s=(if aQ y l size (eu size off) (dY off s.size)≠0 then (aQ y l size (eu size off) (dY off s.size),y,[],0)
 else if (y.text x kd l size 0 size).2≠0 then ((y.text x kd l size 0 size).2,y,[],0)
 else if (y.store x kd l (bh (bx (y.text x kd l size 0 size).1 s off size))).1≠0 then ((y.store x kd l (bh (bx (y.text x kd l size 0 size).1 s off size))).1,(y.store x kd l (bh (bx (y.text x kd l size 0 size).1 s off size))).2.1,[],0)
 else (0,(y.store x kd l (bh (bx (y.text x kd l size 0 size).1 s off size))).2.1,(y.store x kd l (bh (bx (y.text x kd l size 0 size).1 s off size))).2.2,(bx (y.text x kd l size 0 size).1 s off size).size):Int × TxS × List Int × Int)):=kD rfl
 have bM:=kD (fun h0:aC y l=0=>z1x (size:=size) (bad:=eu size off) (long:=dY off s.size) h0)
 have b3:Hid (fw size=true->0<=size/\size<=768):=kD fun h=>of_decide_eq_true h
 clear hq hP hA bQ b5 B0;unfold txZ txR at aL;go_enter func83,ntmps83
 go_upto_region 1 with fail
 rw[<-aL];clear aL;have l0:=bn.load;go_wp2_with (refine zlw l0 ?_)
 refine cb.mono ?_;rintro e w1 ⟨rfl,bS⟩;have ab:=bn.below bS;have bJ:=kD (HA.out.below bS);clear cb l0 bn bS HA;have l1:=ab.load;have ao:=aR ab.r rfl av bD;have Y:=ab.r.setRow (cs':=tv);have K:=kD (RDw.nil (R:=w.heap.size+1) ab.q ab.b (by omega) (by have:=a2.out;omega))
 have bL:=kD ab;clear ab;by_cases M:aC y l=0
 rotate_left
 ·as_aux_lemma=>
  have HX:Hid (y.mJ x kd l size off s=(aC y l,y,[],0)):=kD (by
   have e1:aQ y l size (eu size off) (dY off s.size)=aC y l:=by unfold aQ;rw[if_pos M]
   rw[HR.out,e1,if_pos M])
  clear HR bM;generalize aC y l=E at *;have cL:(E==0)=false:=by simpa using M
  have cM:(E != 0)=true:=by simpa using M
  clear M;go_wp2_with (first|(refine zlw l1 ?_)|(refine zsb ao ?_))
  refine bodyPost_ret (dB (cs:=tv) rfl rfl rfl rfl rfl Y underlying50 (by rw[av];kernel_rfl)) rfl ?_
  rw[HX.out];exact K.out E
 have HS:=kD (bM.out M);have cm:=kD M;rw[M];clear M bM;have O:=fun h=>z04 A c l hl size (b3.out h) w1
 have hd:(fw size=false/\aQ y l size (eu size off) (dY off s.size)=7)\/(fw size=true/\decide (off<0)=true/\aQ y l size (eu size off) (dY off s.size)=7)\/(fw size=true/\decide (off<0)=false/\decide (size<off)=true/\aQ y l size (eu size off) (dY off s.size)=7)\/(fw size=true/\decide (off<0)=false/\decide (size<off)=false/\eu size off=false):=by
  rw[HS.out];unfold eu;cases fw size<;>cases decide (off<0)<;>cases decide (size<off)<;>simp
 by_cases an:fw size=true/\decide (off<0)=false/\decide (size<off)=false
 rotate_left
 ·as_aux_lemma=>
  have HX:Hid (aQ y l size (eu size off) (dY off s.size)=7->y.mJ x kd l size off s=(7,y,[],0)):=kD fun e1=>by rw[HR.out,e1,if_pos (by decide)]
  clear HR HS O;rcases hd with ⟨h1,h7⟩|⟨h1,h2,h7⟩|⟨h1,h2,h3,h7⟩|⟨h1,h2,h3,-⟩
  case inr.inr.inr=>exact absurd ⟨h1,h2,h3⟩ an
  all_goals
   have co:=kD (HX.out h7);clear an h7 HX;go_wp2_with (first|(refine(bV size _).mono ?_;rintro e w' ⟨rfl,rfl⟩)|(refine zlw l1 ?_)|(refine zsb ao ?_))
   refine bodyPost_ret (dB (cs:=tv) rfl rfl rfl rfl rfl Y underlying50 (by rw[av];kernel_rfl)) rfl ?_
   rw[co.out];exact K.out 7
 obtain⟨h1,h2,h3⟩:=an;have bA:eu size off=false:=by unfold eu;rw[h2,h3];rfl
 have br:=b3.out h1;have cK:0<=off/\off<=size:=by have:=of_decide_eq_false h2;have:=of_decide_eq_false h3;omega
 have O:=O h1;have hw:IntKind.i64.wrap (off+s.size)=off+s.size:=by rw[kW];omega
 have bb:dY off s.size=decide (768<off+s.size):=by unfold dY;rw[show wrap64 (off+s.size)=off+s.size by unfold wrap64;omega]
 have a1:Hid (aQ y l size (eu size off) (dY off s.size)=if 768<off+(s.size:Int)then 3 else if (l.length:Int)≠(size+95) / 96 then 6 else 0):=kD (by rw[HS.out,h1,bA,bb];simp)
 clear hd HS bb bA;by_cases bt:768<off+(s.size:Int)
 ·as_aux_lemma=>
  have HX:Hid (y.mJ x kd l size off s=(3,y,[],0)):=kD (by
   have e1:=a1.out;rw[if_pos bt]at e1;rw[HR.out,e1,if_pos (by decide)])
  clear HR a1 O;go_wp2_with (first|(refine(bV size _).mono ?_;rintro e w' ⟨rfl,rfl⟩)|(refine zlw l1 ?_)|(refine zsb ao ?_))
  refine bodyPost_ret (dB (cs:=tv) rfl rfl rfl rfl rfl Y underlying50 (by rw[av];kernel_rfl)) rfl ?_
  rw[HX.out];exact K.out 3
 by_cases D:(l.length:Int)=(size+95) / 96
 rotate_left
 ·as_aux_lemma=>
  have HX:Hid (y.mJ x kd l size off s=(6,y,[],0)):=kD (by
   have e1:=a1.out;rw[if_neg bt,if_pos D]at e1;rw[HR.out,e1,if_pos (by decide)])
  rw[if_pos D]at O;clear HR a1 D;go_wp2_with (first|(refine(bV size _).mono ?_;rintro e w' ⟨rfl,rfl⟩)|(refine O.mono ?_;rintro e w' ⟨rfl,rfl⟩)|(refine zlw l1 ?_)|(refine zsb ao ?_))
  refine bodyPost_ret (dB (cs:=tv) rfl rfl rfl rfl rfl Y underlying50 (by rw[av];kernel_rfl)) rfl ?_
  rw[HX.out];exact K.out 6
 rw[if_neg (by simpa using D)]at O
 have e0:=a1.out;rw[if_neg bt,if_neg (by simpa using D)]at e0
 have b1:=HR.out;rw[e0,if_neg (by decide)]at b1
 have a6:=kD b1;have bw:=z5p bL.out.q ba ok hc kd A c l bJ.out.reads size 0 size br D (by omega) br.1
 rw[z4g br.1 D]at bw;have bK:=kD (jO (y:=y) (x:=x) (kd:=kd) (l:=l) br.1 D);clear HR a1 e0 b1 D;generalize y.text x kd l size 0 size=T at *;obtain⟨o,E⟩:=T;simp only at a6 bK bw
 go_wp2_with (first|(refine(bV size _).mono ?_;rintro e w' ⟨rfl,rfl⟩)|(refine O.mono ?_;rintro e w' ⟨rfl,rfl⟩)|(refine zlw l1 ?_))
 refine bw.mono ?_;rintro e w3 ⟨rfl,bT⟩;have ac:=bL.out.below bT;have cl:=kD (bJ.out.below bT);clear bw O l1 ao Y K bL bJ bT;have l3:=ac.load;by_cases M:E=0
 rotate_left
 ·as_aux_lemma=>
  have HX:Hid (y.mJ x kd l size off s=(E,y,[],0)):=kD (by rw[a6.out,if_pos M])
  have cp:(E != 0)=true:=by simpa using M
  have ao:=aR ac.r rfl av bD;have Y:=ac.r.setRow (cs':=tv);have K:=kD (RDw.nil (R:=w.heap.size+1) ac.q ac.b (by omega) (by have:=a2.out;omega))
  clear M a6;go_wp2_with (first|(refine zlw l3 ?_)|(refine zsb ao ?_))
  refine bodyPost_ret (dB (cs:=tv) rfl rfl rfl rfl rfl Y underlying50 (by rw[av];kernel_rfl)) rfl ?_
  rw[HX.out];exact K.out E
 subst M;have cA:(o.size:Int)=size:=bK.out rfl;obtain⟨J,cz⟩:∃J:Nat,off=J:=⟨off.toNat,by omega⟩
 subst cz;subst cA;have bC:J<=o.size:=by omega
 have cB:J+s.size<=768/\o.size<=768:=by omega
 have bN:=kD (z6I (s:=s) bC);have cn:Hid ((bx o s J o.size).size<=768):=kD (by rw[z4P bC];omega)
 have a7:Hid (y.mJ x kd l o.size J s=if (y.store x kd l (bh (bx o s J o.size))).1≠0 then ((y.store x kd l (bh (bx o s J o.size))).1,(y.store x kd l (bh (bx o s J o.size))).2.1,[],0)else (0,(y.store x kd l (bh (bx o s J o.size))).2.1,(y.store x kd l (bh (bx o s J o.size))).2.2,((bx o s J o.size).size:Int))):=kD (by rw[a6.out,if_neg (by decide)])
 generalize bx o s J o.size=t at *;clear a6 bK hw bt;have bW:¬9223372036854775807<min J o.size+s.size:=by omega
 have bX:¬9223372036854775807<J+s.size:=by omega
 have cg:min J o.size=J:=by omega
 go_upto_if 82 with fail
 go_cut [18]from 82 to 88 (fun s18 wx=>s18=.string t/\wx=w3)
 case first=>
  as_aux_lemma=>
  by_cases cc:J+s.size<o.size
  ·have HT:Hid (t=o.extract 0 J++s++o.extract (J+s.size) o.size):=kD (by rw[bN.out,if_pos cc])
   have cw:¬9223372036854775807<J+s.size+(o.size - (J+s.size)):=by omega
   have cF:J+s.size<=o.size:=by omega
   go_wp2_with fail
   go_meet
   case rel=>exact⟨by rw[HT.out],rfl⟩
  ·have HT:Hid (t=o.extract 0 J++s):=kD (by rw[bN.out,if_neg cc])
   go_wp2_with fail
   go_meet
   case rel=>exact⟨by rw[HT.out],rfl⟩
 case rest=>
 obtain⟨rfl,hwx⟩:=hcut;replace hwx:=hwx.symm;subst hwx;clear bW bX bN cg;have ck:=cn.out;have b2:=z2c t (by omega) w3
 unfold gU at b2;go_wp2_with fail
 refine b2.mono ?_;rintro e w5 ⟨ca,⟨cC,-⟩|⟨-,v5,rfl,bZ⟩⟩
 ·exact absurd ck (by omega)
 obtain⟨P5,p5,rfl⟩:=aw bZ;have a8:=ac.below ca;have l5:=a8.load;have U:=z3a a8.q ba (fun b hb=>HN.out b (kO a8.n hb)) ok hc kd A c l hl (cl.out.below ca) P5 p5 (bh t) (by rw[dL];unfold eO;omega) (fun p hp=>by have:=gX t p hp;omega) (Reads.ng bZ)
 rw[z0X cm.out ck]at U;unfold RSto at U;have bk:=kD a8;have cD:Hid (t.size=t.size):=kD rfl;clear b2 l3 ac bZ a8;generalize y.store x kd l (bh t)=r at *;obtain⟨E,z,L⟩:=r;simp only at a7 U
 go_wp2_with (refine zlw l5 ?_)
 refine U.mono ?_;rintro e w6 ⟨I,A6,c6,rfl,bu,⟨b6,bR⟩,bU⟩;have V:=bu.size;have bc:=bu.one;obtain⟨W7,bp⟩:=zex (World.setRow (w6.alloc (.cells txZ 50)) w6.heap.size I);have bF:=aR (Blk.new w6 50 txZ) rfl V bc;have b7:Blk W7 w6.heap.size 50 I:=by rw[bp];exact Blk.setRow (Blk.new _ _ _)
 have bq:Zr w6 W7:=by rw[bp];exact Below.setRow ((kF _ _).alloc (kE _) _) (kE _) _
 have bP:=bU.trans (bq.mono bU.size);have cJ:=bk.out.n;have bO:=bk.out.r.mD bP;have b0:=bu.below bq;have b8:=b6.below bq;have B7:=bk.out.b.trans (bP.mono bk.out.b.size);have l7:=aN b7 V;have bG:=aR bO rfl V bc;have b4:=bO.setRow (cs':=I);have bB:=RDw.nil (R:=w.heap.size+1) b0 B7 (by omega) (by have:=a2.out;omega) E
 have ci:=(b0.row (Apt_.ne (P:=P) (B:=w.heap.size) (E:=E0) (g:=w.heap.size+1) (by omega) (by have:=a2.out;omega)) I).oD
 have b9:Reads (W7.setRow (w.heap.size+1) I) A6 (L.map (.int .i64)):=b8.frame (fun a e _=>ak _ _ _ _ (by have:=bR a e;have:=a2.out;omega)) (by simp)
 have HG:Hid (RTx (W7.setRow (w.heap.size+1) I) P x z I/\(Reads (W7.setRow (w.heap.size+1) I) A6 (L.map (.int .i64))/\∀a,A6=some a->w.heap.size<=a.block)/\Zr w (W7.setRow (w.heap.size+1) I)):=kD ⟨ci,⟨b9,fun a e=>by have:=bR a e;have:=a2.out;omega⟩,Below.setRow B7 (by omega) I⟩
 clear U l5 bu b6 bR bU b0 b8 ci b9;go_upto_region 18 with (refine zsb bF ?_)
 rw[<-bp];clear bp bF bq bP b7 bO;by_cases M:E=0
 rotate_left
 ·have HX:Hid (y.mJ x kd l o.size J s=(E,z,[],0)):=kD (by rw[a7.out,if_pos M])
  have cp:(E != 0)=true:=by simpa using M
  clear M a7;go_wp2_with (first|(refine zlw l7 ?_)|(refine zsb bG ?_))
  refine bodyPost_ret (dB (cs:=I) rfl rfl rfl rfl rfl b4 underlying50 (by rw[V];kernel_rfl)) rfl ?_
  rw[HX.out];exact bB
 ·subst M;have HX:Hid (y.mJ x kd l o.size J s=(0,z,L,(t.size:Int))):=kD (by rw[a7.out,if_neg (by decide)])
  clear a7 bB;go_wp2_with (first|(refine zlw l7 ?_)|(refine zsb bG ?_))
  refine bodyPost_ret (dB (cs:=I) rfl rfl rfl rfl rfl b4 underlying50 (by rw[V];kernel_rfl)) rfl ?_
  rw[HX.out];exact⟨I,A6,c6,rfl,HG.out.1,HG.out.2.1,HG.out.2.2⟩
theorem zcI {w:World}{P:Nat->Prop}{x:DevS}{y:TxS}{tv:Array Value}(hq:RTx w P x y tv)(a6:x.Calm)(hP:∀b,w.heap.size<=b->P b)(ok:y.Ok)(hc:y.Clean)(kd:Int)(A:Option Addr)(c:Nat)(l:List Int)(hl:l.length<=1000)(hA:SlI w A c l)(size to_:Int):
  Calls prog 84 #[.agg tv,.int .i64 kd,.slice A l.length c,.int .i64 size,.int .i64 to_] w (RSto w P x (y.ni x kd l size to_)):=by
 obtain⟨w0,ac⟩:=zex ((w.alloc (.cells tv 50)).alloc (.cells txZ 50));have B0:Zr w w0:=by rw[ac];exact zgr
 obtain⟨E0,bC⟩:=zex w0.heap.size;have ba:StW w P x E0 y tv w0:=⟨bC▸hq.apt B0 w0.heap.size,by rw[ac];exact zbn,by rw[ac];exact zbn,B0,by omega⟩
 have bU:E0=w.heap.size+2:=by rw[bC,ac];simp
 have HN:Hid (∀b,E0<=b->Apt_ P w.heap.size E0 b):=kD (Apt_.new hP (by omega))
 have b1:=ji ba.q ok A c l hl (hA.below B0);have HA:=kD (hA.below B0);have a1:=kD bU;have bq:=hq.one;have av:=hq.size;have HR:Hid (y.ni x kd l size to_=(if aQ y l size (f8 to_) false≠0 then (aQ y l size (f8 to_) false,y,[])
 else if (y.text x kd l size 0 size).2≠0 then ((y.text x kd l size 0 size).2,y,[])
 else y.store x kd l (bh (eL (y.text x kd l size 0 size).1 to_ size)):Int × TxS × List Int)):=kD rfl
 have bA:=kD (fun h0:aC y l=0=>z1x (size:=size) (bad:=f8 to_) (long:=false) h0)
 have bR:Hid (fw size=true->0<=size/\size<=768):=kD fun h=>of_decide_eq_true h
 clear hq hP hA bC bU B0;unfold txZ txR at ac;go_enter func84,ntmps84
 go_upto_region 1 with fail
 rw[<-ac];clear ac;have l0:=ba.load;go_wp2_with (refine zlw l0 ?_)
 refine b1.mono ?_;rintro e w1 ⟨rfl,bF⟩;have Y:=ba.below bF;have bt:=kD (HA.out.below bF);clear b1 l0 ba bF HA;have l1:=Y.load;have ao:=aR Y.r rfl av bq;have an:=Y.r.setRow (cs':=tv);have J:=kD (fun E=>RSto.nil (R:=w.heap.size+1) E Y.q Y.b (by omega) (by have:=a1.out;omega))
 have bw:=kD Y;clear Y;by_cases hE:aC y l=0
 rotate_left
 ·as_aux_lemma=>
  have HX:Hid (y.ni x kd l size to_=(aC y l,y,[])):=kD (by
   have e1:aQ y l size (f8 to_) false=aC y l:=by unfold aQ;rw[if_pos hE]
   rw[HR.out,e1,if_pos hE])
  clear HR bA;generalize aC y l=E at *;have cA:(E==0)=false:=by simpa using hE
  have cB:(E != 0)=true:=by simpa using hE
  clear hE;go_wp2_with (first|(refine zlw l1 ?_)|(refine zsb ao ?_))
  refine bodyPost_ret (cu (cs:=tv) rfl rfl rfl rfl an underlying50 (by rw[av];kernel_rfl)) rfl ?_
  rw[HX.out];exact J.out E
 have HS:=kD (bA.out hE);have b6:=kD hE;rw[hE];clear hE bA;have M:=fun h=>z04 A c l hl size (bR.out h) w1
 have cz:=bV to_;by_cases K:fw size=true/\fw to_=true
 rotate_left
 ·as_aux_lemma=>
  have HX:Hid (y.ni x kd l size to_=(7,y,[])):=kD (by
   have e1:aQ y l size (f8 to_) false=7:=by
    rw[HS.out,if_pos];by_cases h1:fw size=true
    ·right
     have h2:fw to_=false:=by cases e:fw to_;rfl;exact absurd ⟨h1,e⟩ K
     have h3:=of_decide_eq_false h2;unfold f8;rw[Bool.or_eq_true];by_cases h4:to_<0
     ·exact .inl (decide_eq_true h4)
     ·exact .inr (decide_eq_true (by omega))
    ·left;simpa using h1
   rw[HR.out,e1,if_pos (by decide)])
  clear HR HS M;have hd:fw size=false\/(fw size=true/\fw to_=false):=by
   cases h1:fw size
   ·exact .inl rfl
   ·cases h2:fw to_
    ·exact .inr ⟨rfl,rfl⟩
    ·exact absurd ⟨h1,h2⟩ K
  rcases hd with h1|⟨h1,h2⟩
  all_goals
   clear K;go_wp2_with (first|(go_at_call 164;first|(refine(bV size _).mono ?_;rintro e w' ⟨rfl,rfl⟩)|(refine(bV to_ _).mono ?_;rintro e w' ⟨rfl,rfl⟩))|(refine zlw l1 ?_)|(refine zsb ao ?_))
   refine bodyPost_ret (cu (cs:=tv) rfl rfl rfl rfl an underlying50 (by rw[av];kernel_rfl)) rfl ?_
   rw[HX.out];exact J.out 7
 obtain⟨h1,h2⟩:=K;have hbt:0<=to_/\to_<=768:=of_decide_eq_true h2;have bp:f8 to_=false:=by unfold f8;rw[decide_eq_false (by omega),decide_eq_false (by omega)];rfl
 have bb:=bR.out h1;have M:=M h1;have a7:Hid (aQ y l size (f8 to_) false=if (l.length:Int)≠(size+95) / 96 then 6 else 0):=kD (by rw[HS.out,h1,bp];simp)
 clear HS bp;by_cases D:(l.length:Int)=(size+95) / 96
 rotate_left
 ·as_aux_lemma=>
  have HX:Hid (y.ni x kd l size to_=(6,y,[])):=kD (by
   have e1:=a7.out;rw[if_pos D]at e1;rw[HR.out,e1,if_pos (by decide)])
  rw[if_pos D]at M;clear HR a7 D;go_wp2_with (first|(go_at_call 164;first|(refine(bV size _).mono ?_;rintro e w' ⟨rfl,rfl⟩)|(refine(bV to_ _).mono ?_;rintro e w' ⟨rfl,rfl⟩))|(refine M.mono ?_;rintro e w' ⟨rfl,rfl⟩)|(refine zlw l1 ?_)|(refine zsb ao ?_))
  refine bodyPost_ret (cu (cs:=tv) rfl rfl rfl rfl an underlying50 (by rw[av];kernel_rfl)) rfl ?_
  rw[HX.out];exact J.out 6
 rw[if_neg (by simpa using D)]at M
 have e0:=a7.out;rw[if_neg (by simpa using D)]at e0
 have bO:=HR.out;rw[e0,if_neg (by decide)]at bO
 have aL:=kD bO;have bn:=z5p bw.out.q a6 ok hc kd A c l bt.out.reads size 0 size bb D (by omega) bb.1
 rw[z4g bb.1 D]at bn;have bu:=kD (jO (y:=y) (x:=x) (kd:=kd) (l:=l) bb.1 D);clear HR a7 e0 bO D;generalize y.text x kd l size 0 size=T at *;obtain⟨o,E⟩:=T;simp only at aL bu bn
 go_wp2_with (first|(go_at_call 164;first|(refine(bV size _).mono ?_;rintro e w' ⟨rfl,rfl⟩)|(refine(bV to_ _).mono ?_;rintro e w' ⟨rfl,rfl⟩))|(refine M.mono ?_;rintro e w' ⟨rfl,rfl⟩)|(refine zlw l1 ?_))
 refine bn.mono ?_;rintro e w3 ⟨rfl,bG⟩;have ab:=bw.out.below bG;have bQ:=kD (bt.out.below bG);clear bn M l1 ao an J bw bt bG;have l3:=ab.load;by_cases hE:E=0
 rotate_left
 ·as_aux_lemma=>
  have HX:Hid (y.ni x kd l size to_=(E,y,[])):=kD (by rw[aL.out,if_pos hE])
  have cm:(E != 0)=true:=by simpa using hE
  have ao:=aR ab.r rfl av bq;have an:=ab.r.setRow (cs':=tv);have J:=kD (fun E=>RSto.nil (R:=w.heap.size+1) E ab.q ab.b (by omega) (by have:=a1.out;omega))
  clear hE aL;go_wp2_with (first|(refine zlw l3 ?_)|(refine zsb ao ?_))
  refine bodyPost_ret (cu (cs:=tv) rfl rfl rfl rfl an underlying50 (by rw[av];kernel_rfl)) rfl ?_
  rw[HX.out];exact J.out E
 subst hE;have b9:(o.size:Int)=size:=bu.out rfl;obtain⟨V,cb⟩:∃V:Nat,to_=V:=⟨to_.toNat,by omega⟩
 subst cb;subst b9;obtain⟨O,bL⟩:∃O:Nat,max ((V:Int) - o.size) 0=O:=⟨_,(Int.toNat_of_nonneg (by omega)).symm⟩
 have ca:V<=768/\o.size<=768:=by omega
 have b8:V<=o.size+O:=by omega
 have ck:O<=768:=by omega
 have HT:Hid (eL o V o.size=(o++iz O).extract 0 V):=kD (by unfold eL;rw[bL];rfl)
 have bT:Hid (y.ni x kd l o.size V=y.store x kd l (bh (eL o V o.size))):=kD (by rw[aL.out,if_neg (by decide)])
 have bS:=kD bL;have b4:=z1E O;clear aL bu bL h2 M;go_upto_if 56 with fail
 go_cut [14]from 56 to 63 (fun s14 wx=>s14=.string (o++iz O)/\Zr w3 wx)
 case first=>
  as_aux_lemma=>
  by_cases co:(o.size:Int)<V
  ·have cp:=ku O (by omega) w3
   have cn:=z1S O (w3.alloc (.cells (fill (.int .u8 0) O) 5)) (z29 w3 O) O;have cg:¬9223372036854775807<o.size+O:=by omega
   have cl:IntKind.i64.wrap ((V:Int) - o.size)=(O:Int):=by rw[kW];have:=bS.out;omega
   go_wp2_with fail
   go_meet
   case rel=>exact⟨rfl,(kF _ _).alloc (kE _) _⟩
  ·have hz:Hid (o++iz O=o):=kD (by
    obtain rfl:O=0:=by have:=bS.out;omega
    exact ByteArray.append_empty)
   go_wp2_with fail
   go_meet
   case rel=>exact⟨by rw[hz.out],kF _ _⟩
 case rest=>
 obtain⟨rfl,bK⟩:=hcut;have bZ:=ab.below bK;have b5:=kD (bQ.out.below bK);clear ab bQ bK l3;have bP:(eL o V o.size).size<=768:=by rw[HT.out];simp only[ByteArray.size_extract];omega
 have ci:V<=(o++iz O).size:=by rw[ByteArray.size_append,b4];exact b8
 have bk:=z2c (eL o V o.size) (by omega) wc
 unfold gU at bk;generalize o++iz O=oz at *;go_upto_region 13 with fail
 rw[HT.out]at bk bP bT;have HZ:=kD bP;clear HT b4;go_wp2_with fail
 generalize oz.extract 0 V=t at *;refine bk.mono ?_;rintro e w5 ⟨b0,⟨cc,-⟩|⟨-,v5,rfl,bM⟩⟩
 ·exact absurd HZ.out (by omega)
 obtain⟨P5,p5,rfl⟩:=aw bM;have a2:=bZ.below b0;have l5:=a2.load;have U:=z3a a2.q a6 (fun b hb=>HN.out b (kO a2.n hb)) ok hc kd A c l hl (b5.out.below b0) P5 p5 (bh t) (by rw[dL];unfold eO;omega) (fun p hp=>by have:=gX t p hp;omega) (Reads.ng bM)
 rw[z0X b6.out bP,<-bT.out]at U;unfold RSto at U;have a8:=kD a2;clear bk bZ bM a2;generalize y.ni x kd l o.size V=r at *;obtain⟨E,z,L⟩:=r;simp only at U
 go_wp2_with (refine zlw l5 ?_)
 refine U.mono ?_;rintro e w6 ⟨I,A6,c6,rfl,bc,⟨bW,bD⟩,bJ⟩;have br:=bc.size;have bN:=bc.one;have cw:=a8.out.n;have bB:=a8.out.r.mD bJ;have B6:=a8.out.b.trans (bJ.mono a8.out.b.size);have b3:=aR bB rfl br bN;have b7:=bB.setRow (cs':=I);have b2:=(bc.row (Apt_.ne (P:=P) (B:=w.heap.size) (E:=E0) (g:=w.heap.size+1) (by omega) (by have:=a1.out;omega)) I).oD
 have bX:Reads (w6.setRow (w.heap.size+1) I) A6 (L.map (.int .i64)):=bW.frame (fun a e _=>ak _ _ _ _ (by have:=bD a e;have:=a1.out;omega)) (by simp)
 have HG:Hid (RTx (w6.setRow (w.heap.size+1) I) P x z I/\(Reads (w6.setRow (w.heap.size+1) I) A6 (L.map (.int .i64))/\∀a,A6=some a->w.heap.size<=a.block)/\Zr w (w6.setRow (w.heap.size+1) I)):=kD ⟨b2,⟨bX,fun a e=>by have:=bD a e;have:=a1.out;omega⟩,Below.setRow B6 (by omega) I⟩
 clear U l5 bc bW bD bJ b2 bX bB;go_wp2_with (refine zsb b3 ?_)
 refine bodyPost_ret (cu (cs:=I) rfl rfl rfl rfl b7 underlying50 (by rw[br];kernel_rfl)) rfl ?_
 exact⟨I,A6,c6,rfl,HG.out.1,HG.out.2.1,HG.out.2.2⟩
abbrev dG (E:Int):Array Value:=#[.slice none 0 0,.slice none 0 0,.string ⟨#[]⟩,.int .i64 0,.int .i64 E]
theorem z23 (j i:Int)(D:0<=j/\j<=255)(hi:0<=i/\i<=255)(w:World):
  Calls prog 24 #[.int .u8 j,.int .u8 i] w fun e I=>e=.returned (.agg #[.int .i64 64,.int .i64 (8+j % 21),.int .i64 (1+i % 26)])/\Zr w I:=by
 have J:j.tmod 21=j % 21:=lI D.1;have K:i.tmod 26=i % 26:=lI hi.1;have M:IntKind.u8.wrap (j % 21)=j % 21:=by rw[IntKind.wrap_u8];omega
 have O:IntKind.u8.wrap (i % 26)=i % 26:=by rw[IntKind.wrap_u8];omega
 have U:IntKind.i64.wrap (j % 21)=j % 21:=by rw[kW];omega
 have V:IntKind.i64.wrap (i % 26)=i % 26:=by rw[kW];omega
 have Y:IntKind.i64.wrap (8+j % 21)=8+j % 21:=by rw[kW];omega
 have h8:IntKind.i64.wrap (1+i % 26)=1+i % 26:=by rw[kW];omega
 go_enter func24,ntmps24
 go_wp2_with fail
 have c:=Blk.new w 23 #[.int .i64 64,.int .i64 (8+j % 21),.int .i64 (1+i % 26)];obtain⟨A,lF⟩:=c.zc;refine bodyPost_ret (v:=.agg #[.int .i64 64,.int .i64 (8+j % 21),.int .i64 (1+i % 26)]) (by simp[results,results24,go_sem,A]) rfl ?_
 exact⟨rfl,(kF _ _).alloc (kE _) _⟩
theorem iy (n m:Int)(hn:-9223372036854775808<=n/\n<=9223372036854775807)(hm:1<=m/\m<=1000000)(w:World):
  Calls prog 79 #[.int .i64 n,.int .i64 m] w fun e V=>e=.returned (.int .i64 (n % m))/\V=w:=by
 have Y:¬m<1:=by omega
 have J:m≠0:=by omega
 have M:n.tmod m<m:=Int.tmod_lt_of_pos _ (by omega)
 have K:-m<n.tmod m:=by have:=Int.lt_tmod_of_pos n (b:=m) (by omega);omega
 have hw:IntKind.i64.wrap (n.tmod m)=n.tmod m:=by rw[kW];omega
 have c:n.tmod m=n % m - ((if 0<=n\/m ∣ n then 0 else m.natAbs:Nat):Int):=Int.tmod_eq_emod
 have A:0<=n % m/\n % m<m:=⟨Int.emod_nonneg _ J,Int.emod_lt_of_pos _ (by omega)⟩
 by_cases O:n.tmod m<0
 ·have D:n.tmod m+m=n % m:=by
   split at c
   ·omega
   ·rw[c];omega
  have I:=kD D;have U:IntKind.i64.wrap (n.tmod m+m)=n.tmod m+m:=by rw[kW];omega
  clear c D A;go_enter func79,ntmps79
  go_wp2_with fail
  go_ret
  exact⟨by rw[<-I.out];rfl,rfl⟩
 ·have D:n.tmod m=n % m:=by
   split at c
   ·omega
   ·rw[c]at O;omega
  have I:=kD D;clear c D A;go_enter func79,ntmps79
  go_wp2_with fail
  go_ret
  exact⟨by rw[<-I.out];rfl,rfl⟩
def jH (s:ByteArray)(n k:Nat):ByteArray:=s.extract (n*k) (n*k+n)
def cZ (s:ByteArray)(n k:Nat):ByteArray:=s.extract (n*k) s.size
def cE (s:ByteArray)(n k:Nat):List ByteArray:=(List.range k).map (jH s n)
theorem zbT (s:ByteArray)(n:Nat):cZ s n 0=s:=by unfold cZ;simp
theorem iU (s:ByteArray)(n k:Nat):(cZ s n k).size=s.size - n*k:=by unfold cZ;simp
theorem z7n (s:ByteArray)(n k:Nat)(h:n*k+n<=s.size):(cZ s n k).extract 0 n=jH s n k:=by
 unfold cZ jH;rw[ByteArray.extract_extract];congr 1;omega
theorem z7o (s:ByteArray)(n k z:Nat)(h:n*k+n<=s.size)(c:z=s.size - n*k):(cZ s n k).extract n z=cZ s n (k+1):=by
 unfold cZ;rw[ByteArray.extract_extract,Nat.mul_succ];congr 1;omega
theorem z42 (s:ByteArray)(n k:Nat):cE s n (k+1)=cE s n k++[jH s n k]:=by unfold cE;rw[List.range_succ,List.map_append];rfl
theorem ed (s:ByteArray)(n k:Nat):(cE s n k).length=k:=by unfold cE;simp
def z2i (s:ByteArray)(n:Nat)(w:World)(e:Ending)(w':World):Prop:=
 Zr w w'/\∃k v,e=.returned v/\n*k<=s.size/\(cZ s n k).size<=n/\(k=0\/0<(cZ s n k).size)/\w'.ownsRow w.heap.size 9 1 v (k+1) ((cE s n k++[cZ s n k]).map .string)
theorem z8n (s:ByteArray)(hs:s.size<=1000)(n:Nat)(hn:1<=n/\n<=1000)(w:World):
  Calls prog 80 #[.string s,.int .i64 n] w (z2i s n w):=by
 obtain⟨i0,hi,Y,ac,ab⟩:=info_parts Tryz.oO;unfold z2i;go_enter func80,ntmps80
 go_wp2_with fail
 go_loopw [0,5] (fun q v wr=>∃k:Nat,n*k<=s.size/\k<=s.size/\(k=0\/0<(cZ s n k).size)/\q=.string (cZ s n k)/\wr.ownsRow w.heap.size 9 1 v k ((cE s n k).map .string)/\Zr w wr) (fun q _ _=>match q with|.string r=>r.size|_=>0)
 case atStart=>exact⟨0,by omega,by omega,.inl rfl,by rw[zbT],World.ownsRow_nil _ _ _ _,kF _ _⟩
 case round=>
  obtain⟨k,hk,a6,K,rfl,A,hb⟩:=hrel;obtain⟨av,cv,rfl⟩:=aw A;have M:=iU s n k;have U:=hb.size;by_cases a7:n<(cZ s n k).size
  ·have V:n*k+n<=s.size:=by omega
   have an:=kD (z7n s n k V);have HT:=kD (z7o s n k (cZ s n k).size V M);have a1:=kD (z42 s n k);have HK:Hid (n*(k+1)<=s.size/\k+1<=s.size/\0<(cZ s n (k+1)).size):=kD (by rw[iU,Nat.mul_succ];have:k<=n*k:=Nat.le_mul_of_pos_left _ (by omega);omega)
   clear K M;generalize cZ s n k=r at *;have a8:n<=r.size:=by omega
   go_wp2_with (at_builtin;refine wpList_append_own _ rfl _ _ 76 rfl w.heap.size 9 i0 (.string ⟨#[]⟩) 1 16 underlying76 hi Y ac ab rfl (by decide) _ _ _ rfl (A.alloc _) ⟨wr.heap.size,0,none⟩ 1 1 [.string (r.extract 0 n)] rfl rfl (cell_one_new _ _ _) (by simp[Value.oneCell']) (by simp only[maxLen];omega) (by omega) (by simp;omega) ?_;intro v' w4 c D _;obtain⟨g',O,rfl,_,_⟩:=dA c (by omega))
   have I:Zr w w4:=(hb.alloc U _).grown D (by simp;omega) (fun q hq=>(A.lt q hq).1)
   go_wp2_with fail
   go_roundw
   case rel=>exact⟨k+1,HK.out.1,HK.out.2.1,.inr HK.out.2.2,by rw[HT.out],by rw[a1.out,<-an.out];simpa using c,I⟩
   case measure=>simp;omega
  ·have HR:Hid ((cZ s n k).size<=n):=kD (by omega)
   have a2:k<=1000:=by omega
   have HP:Hid (∀(W:World) (v':Value),W.ownsRow w.heap.size 9 1 v' (k+1) ((cE s n k).map .string++[.string (cZ s n k)])->W.ownsRow w.heap.size 9 1 v' (k+1) ((cE s n k++[cZ s n k]).map .string)):=kD fun W v' h=>by rw[List.map_append];exact h
   clear M;have ao:=kD K;have aL:=kD hk;generalize hr:cZ s n k=r at *;have J:=kD hr;clear hr K;go_wp2_with (at_builtin;refine wpList_append_own _ rfl _ _ 76 rfl w.heap.size 9 i0 (.string ⟨#[]⟩) 1 16 underlying76 hi Y ac ab rfl (by decide) _ _ _ rfl (A.alloc _) ⟨wr.heap.size,0,none⟩ 1 1 [.string r] rfl rfl (cell_one_new _ _ _) (by simp[Value.oneCell']) (by simp only[maxLen];omega) (by omega) (by simp;omega) ?_;intro v' w4 c D _;obtain⟨g',O,rfl,_,_⟩:=dA c (by omega))
   have I:Zr w w4:=(hb.alloc U _).grown D (by simp;omega) (fun q hq=>(A.lt q hq).1)
   go_wp2_with fail
   go_ret
   exact⟨I,k,_,rfl,aL.out,by rw[J.out];exact HR.out,by rw[J.out];exact ao.out,by rw[J.out];exact HP.out _ _ c⟩
open Go
section
variable {P:Program}{ops:Array Oper}{Q:Exit->Act->World->Prop}{S:World->Prop}{T:Nat}
theorem z3z {c:World->Prop}(D:∀w,c w->S w):∀(f:Nat) (L:Array Bool) (a:Act) (w:World),anyS P ops Q c T f L a w->anyS P ops Q S T f L a w
 | 0,_,_,_,h=>h
 | f+1,_,_,_,h=>⟨h.1,fun i J=>wpOp_mono (fun I K A=>⟨fun k=>D _ (A.1 k),z3z D f _ I K A.2⟩) (h.2 i J)⟩
inductive Pl where
 | mix (ms:List Ms)
 | take (k:Nat) (r:Pl)
 | fork (i j:Nat) (p q:Pl)
def plN:Pl->Nat
 | .mix ms=>mixN ms
 | .take _ r=>plN r+1
 | .fork _ _ p _=>plN p+1
def plB (ops:Array Oper)(T:Nat):Pl->Array Bool->Bool
 | .mix ms,L=>mixB ops T ms L
 | .take k r,L=>decide (k<ops.size)&&(Region.ready .any ops L).contains k&&Region.free .any ops L k&&((List.range ops.size).all fun j=>decide (j<T)||Region.waitsFor .any ops j k)&&plB ops T r (L.setIfInBounds k true)
 | .fork i j p q,L=>decide (i<T)&&decide (j<T)&&bare ops i&&bare ops j&&decide (Region.ready .any ops L=[i,j]\/Region.ready .any ops L=[j,i])&&decide (plN p=plN q)&&plB ops T p (L.setIfInBounds i true)&&plB ops T q (L.setIfInBounds j true)
inductive Po where
 | mix (ms:List Mi)
 | take (k:Nat) (o:Oper) (r:Po)
 | fork (i:Nat) (oi:Oper) (j:Nat) (oj:Oper) (p q:Po)
def Pl.fill (l:List Oper)(d:Oper):Pl->Po
 | .mix ms=>.mix (ms.map (Ms.fill l d))
 | .take k r=>.take k (l.getD k d) (Pl.fill l d r)
 | .fork i j p q=>.fork i (l.getD i d) j (l.getD j d) (Pl.fill l d p) (Pl.fill l d q)
def plT (P:Program)(ops:Array Oper)(Q:Exit->Act->World->Prop)(S:World->Prop)(T:Nat):Po->Act->World->Prop
 | .mix ms,a,w=>∃S':World->Prop,(∀w,S' w->S w)/\S' w/\il P ops Q S' T ms a w
 | .take _ o r,a,w=>∃v,YieldsIf P ops S o v a/\plT P ops Q S T r (a.put o.dst v) w
 | .fork _ oi _ oj p q,a,w=>oi.wp P a w (fun a' w'=>S w'/\plT P ops Q S T p a' w') Q/\oj.wp P a w (fun a' w'=>S w'/\plT P ops Q S T q a' w') Q
theorem jv {l:List Oper}{d:Oper}(D:Region.noSelect l.toArray=true)(K:∀c a d v w,Q (.panic c) (Act.put a d v) w->Q (.panic c) a w):
  ∀(pl:Pl) (L:Array Bool) (a:Act) (w:World),S w->plB l.toArray T pl L=true->plT P l.toArray Q S T (pl.fill l d) a w->anyS P l.toArray Q S T (plN pl) L a w
 | .mix ms,L,a,w,_,hB,h=>by
  obtain⟨S',hs,I,h⟩:=h;exact z3z hs _ _ _ _ (j8 (S:=S') D K ms L a w (.inl I) hB h)
 | .take k r,L,a,w,hS,hB,h=>by
  simp only[plB,lq,List.all_eq_true,Bool.or_eq_true,decide_eq_true_eq,List.mem_range]at hB;obtain⟨⟨⟨⟨I,A⟩,V⟩,Y⟩,h4⟩:=hB;have I:l.toArray[k]?=some (l.getD k d):=by
   have I:k<l.length:=by simpa using I
   simp[kN,I]
  obtain⟨v,hy,h⟩:=h;refine kb I D (fun j hj ab=>(Y j ab).resolve_left (by omega)) K _ L a w (Region.free_spec I V) (by simpa using A) hy hS ?_
  exact jv D K r _ _ _ hS h4 h
 | .fork i j p q,L,a,w,hS,hB,h=>by
  simp only[plB,lq,decide_eq_true_eq]at hB;obtain⟨⟨⟨⟨⟨⟨⟨hi,hj⟩,b1⟩,b2⟩,A⟩,hn⟩,V⟩,Y⟩:=hB;obtain⟨H1,H2⟩:=h;have M:∀k,k∈Region.ready .any l.toArray L->k=i\/k=j:=fun k J=>by
   rcases A with A|A
   ·rw[A]at J;simpa using J
   ·rw[A]at J;simpa[or_comm]using J
  refine⟨fun e=>(by rcases A with A|A<;>(rw[A]at e;cases e)),fun k J=>?_⟩
  rcases M k J with rfl|rfl
  ·refine dk (dH (d:=d) b1) b1 (Oper.wp_mono ?_ H1);rintro O w' ⟨s1,U⟩;exact⟨fun _=>s1,jv D K p _ O w' s1 V U⟩
  ·refine dk (dH (d:=d) b2) b2 (Oper.wp_mono ?_ H2);rintro O w' ⟨s1,U⟩;refine⟨fun _=>s1,?_⟩
   have:=jv D K q _ O w' s1 Y U
   rwa [<-hn]at this
theorem z1O {id:Nat}{a:Act}{w:World}{o:Oper}{l:List Oper}(D:Pl)(T:Nat)(S:World->Prop)(O:P.follows .mixedOrders=true)
  (A:(Region.noSelect (o::l).toArray&&decide (plN D=(o::l).length)&&plB (o::l).toArray T D (Array.replicate (o::l).length false))=true)
  (I:∀c a t v w,Q (.panic c) (Act.put a (some t) v) w->Q (.panic c) a w) (M:S w.drew)
  (h:plT P (o::l).toArray Q S T (D.fill (o::l) o) a w.drew):(Code.region id (o::l).toArray true).wp P Q a w:=by
 have K:∀c a d v w,Q (.panic c) (Act.put a d v) w->Q (.panic c) a w:=fun c a d v w h=>by
  cases d with
  | none=>exact h
  | some t=>exact I c a t v w h
 simp only[lq,decide_eq_true_eq]at A;obtain⟨⟨J,U⟩,A⟩:=A;refine wp_region_any O ?_;have H:=jv (P:=P) (Q:=Q) (S:=S) (T:=T) J K D (Array.replicate (o::l).length false) a w.drew M A h;rw[U]at H;have:=j9 _ _ _ _ H
 simpa using this
theorem zax {k:Nat}{o:Oper}{r:Po}{a:Act}{w:World}(c:Region.wanted o (yielded ops a.tmps)=true)(v:Value)(A:∀w,S w->(execOp a.eval o).run P w=.ok (.value v) w)
 (h:plT P ops Q S T r (a.put o.dst v) w):plT P ops Q S T (.take k o r) a w:=⟨v,.inl ⟨c,A⟩,h⟩
theorem z2W {oi oj:Oper}{i j:Nat}{p q:Po}{a:Act}{w:World}
  (D:∀K:Act->World->Prop,(∀A c,S c->plT P ops Q S T p A c->K A c)->oi.wp P a w K Q) (I:∀K:Act->World->Prop,(∀A c,S c->plT P ops Q S T q A c->K A c)->oj.wp P a w K Q):plT P ops Q S T (.fork i oi j oj p q) a w:=
 ⟨D _ fun _ _ x y=>⟨x,y⟩,I _ fun _ _ x y=>⟨x,y⟩⟩
theorem z2X {A:List Mi}{a:Act}{w:World}(c:World->Prop)(I:∀w,c w->S w)(D:c w)(h:il P ops Q c T A a w):plT P ops Q S T (.mix A) a w:=⟨c,I,D,h⟩
end
end Go.Proofs.YtejmknghkbobnaaGreatDoor
