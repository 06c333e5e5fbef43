import Derived.Test.YtejmknghkbobnaaGreatDoorPart00
import Derived.Test.YtejmknghkbobnaaGreatDoorPart46
import Derived.Test.YtejmknghkbobnaaGreatDoorPart39
import Derived.Test.YtejmknghkbobnaaGreatDoorPart30
import Derived.Test.YtejmknghkbobnaaGreatDoorPart45
set_option linter.unusedVariables false
set_option linter.unusedSimpArgs false
set_option maxRecDepth 100000
set_option maxHeartbeats 8000000
namespace Go.Proofs.YtejmknghkbobnaaGreatDoor
open Go.Proofs.Tryz
open Go.RowKit Go.Maps
theorem z7x {x:DevS}{s j i E E':Int}(h:x.beginE s j i E)(h':x.beginE s j i E'):E=E':=by
 rcases h with ⟨a,rfl⟩|⟨a,b,rfl⟩|⟨a,b,c,rfl⟩|⟨a,b,c,d,rfl⟩<;>rcases h' with ⟨a',rfl⟩|⟨a',b',rfl⟩|⟨a',b',c',rfl⟩|⟨a',b',c',d',rfl⟩<;>first|rfl|(exfalso;first|exact a a'|exact a' a|exact b b'|exact b' b|exact c ⟨c',d'⟩|exact c' ⟨c,d⟩)
theorem RSv.off4 {w:World}{P:Nat→Prop}{x:DevS}{tv:Array Value}(h:RSv w P x (tv.toList.take 5).toArray):tv[4]?=some (.bool x.off):=by
 obtain⟨A,c,C,d,he,-⟩:=h;have h4:=congrArg (fun a:Array Value=>a[4]?) he
 simpa[z09,List.getElem?_take]using h4
structure Mid (w W:World)(PB D:Nat)(F B B':List Nat)(x xd xr:DevS)(tp:Value)(tv tv':Array Value)(s j i:Int):Prop where
 dev:DevAt W D B' xd
 box:Blk W PB 52 (z0O D tp tv' s j i)
 size:tv'.size=25
 one:tv'.all (·.oneCell')=true
 sv:RSv W (Far (PB::(F++B'))) xr (tv'.toList.take 5).toArray
 pb:PB∉F++B'
 p0:PB≠0
 fl:∀b∈F,b<w.heap.size∧b∉B'
 grow:Grow w (PB::(F++B)) W (PB::(F++B'))
 old:∀y,RTx w (Far (PB::(F++B))) x y tv→RTx W (Far (PB::(F++B'))) xr y tv'
 tx:∀T y,TxAt w T F D y→TxAt W T F D y
section
variable {w W W':World}{PB D:Nat}{F B B' B2:List Nat}{x xd xd' xr xr':DevS}{tp:Value}{tv tv' sv:Array Value}{s j i:Int}
theorem Mid.lts (m:Mid w W PB D F B B' x xd xr tp tv tv' s j i):∀b,W.heap.size≤b→Far (PB::(F++B')) b:=Far.new fun b hm=>by
 rcases List.mem_cons.1 hm with rfl|hm
 ·exact m.box.lt
 ·rcases zi0.1 hm with hm|hm
  ·exact zhR (m.fl b hm).1 m.grow.keep.size
  ·exact(m.dev.lt b hm).2
theorem Mid.below (m:Mid w W PB D F B B' x xd xr tp tv tv' s j i)(hb:Below W.heap.size W W'):Mid w W' PB D F B B' x xd xr tp tv tv' s j i:=
 ⟨m.dev.below hb,m.box.belowAll hb,m.size,m.one,m.sv.below hb,m.pb,m.p0,m.fl,m.grow.trans (Grow.of_below hb _),fun y h=>(m.old y h).below hb,fun T y h=>(m.tx T y h).below hb⟩
theorem z6C (h:sv.size=5):((tv'.toList.take 0++sv.toList++tv'.toList.drop (0+sv.toList.length)).toArray.toList.take 5).toArray=sv:=by
 have h5:sv.toList.length=5:=by simpa using h
 simp only[List.toList_toArray,zi2,zi3];rw[List.take_append_of_le_length (by omega),List.take_of_length_le (by omega)]
theorem Mid.store (m:Mid w W PB D F B B' x xd xr tp tv tv' s j i)(hq:RSv W (Far (PB::(F++B'))) xr' sv):
  Mid w (W.setRow PB (z0O D tp (tv'.toList.take 0++sv.toList++tv'.toList.drop (0+sv.toList.length)).toArray s j i)) PB D F B B' x xd xr' tp tv (tv'.toList.take 0++sv.toList++tv'.toList.drop (0+sv.toList.length)).toArray s j i:=by
 have hne:∀b,Far (PB::(F++B')) b→b≠PB:=fun b hb e=>hb (by rw[e];exact zhK ..)
 have h5:sv.toList.length=5:=by simpa using hq.size
 have h25:tv'.toList.length=25:=by simpa using m.size
 refine⟨m.dev.row (fun hm=>m.pb (zhI _ hm)) m.p0 _,Blk.setRow m.box,?_,?_,?_,m.pb,m.p0,m.fl,⟨m.grow.keep.trans (KeepEx.setRow _ (.inl (zhK ..)) _),m.grow.new⟩,fun y h=>((m.old y h).putsv hq).row hne _,fun T y h=>(m.tx T y h).row (fun hm=>m.pb (zhH _ hm)) _⟩
 ·simp[h5,h25,hq.size]
  try omega
 ·have h1:=hq.one;have h2:=m.one;rw[Array.all_eq_true']at h1 h2 ⊢;intro v hv;simp only[zi2,zi3,zi8,List.mem_toArray,zi0,Array.mem_toList_iff]at hv;rcases hv with hv|hv
  ·exact h1 v hv
  ·exact h2 v (by simpa using List.mem_of_mem_drop hv)
 ·rw[z6C hq.size];exact hq.row hne _
theorem Mid.to (m:Mid w W PB D F B B' x xd xr tp tv tv' s j i)(hd:DevAt W' D B2 xd')(g:Grow W B' W' B2):Mid w W' PB D F B B2 x xd' xr tp tv tv' s j i:=by
 have gF:Grow W (F++B') W' (F++B2):=⟨g.keep.widen fun k hk=>zhI _ hk,fun b hb=>(zi0.1 hb).elim (fun hb=>.inl (zhH _ hb)) (fun hb=>(g.new b hb).imp (zhI _) id)⟩
 have gP:=gF.cons_ PB;exact⟨hd,gF.blk m.box m.pb,m.size,m.one,m.sv.grow gP,gF.notin m.pb m.box.lt,m.p0,fun b hb=>⟨(m.fl b hb).1,g.notin (m.fl b hb).2 (zhR (m.fl b hb).1 m.grow.keep.size)⟩,m.grow.trans gP,fun y h=>(m.old y h).grow gP,fun T y h=>(m.tx T y h).grow g fun b hb=>(m.fl b hb).2⟩
theorem Mid.cells (m:Mid w W PB D F B B' x xd xr tp tv tv' s j i):W.cell? ⟨PB,0,none⟩=some (.pointer (some ⟨D,0,none⟩))∧W.cell? ⟨PB,1,none⟩=some tp∧W.cell? ⟨PB,6,none⟩=some (.bool xr.off)∧W.cell? ⟨PB,27,none⟩=some (.int .i64 s)∧W.cell? ⟨PB,28,none⟩=some (.int .i64 j)∧W.cell? ⟨PB,29,none⟩=some (.int .i64 i):=by
 have c:=m.box.cells;obtain⟨h1,h2,h3⟩:=zgr (D:=D) (tp:=tp) (s:=s) (j:=j) (i:=i) m.size;exact⟨(c 0).trans zej,(c 1).trans z9F,(c 6).trans ((z84 m.size (k:=4) (by decide)).trans m.sv.off4),(c 27).trans h1,(c 28).trans h2,(c 29).trans h3⟩
def zcK (w:World)(PB D:Nat)(F B:List Nat)(x:DevS)(tp:Value)(tv:Array Value)(s j i:Int)(e:Ending)(w':World):Prop:=
 e=.returned (.bool true)∧∃B' tv',((∃E,(x.power_ j).beginE s j i E∧E≠0∧Mid w w' PB D F B B' x (x.power_ j) (x.power_ j) tp tv tv' s j i) ∨
  ((x.power_ j).beginE s j i 0∧∃T F',DevAt w' D B' (x.power_ j)∧Blk w' PB 52 (z0O D (.pointer (some ⟨T,0,none⟩)) tv' s j i)∧TxAt w' T F' D ((x.power_ j).begins s j i)∧(∀b∈F',w.heap.size≤b∧b∉B')∧PB∉F'++B' ∧
   RTx w' (Far (PB::(F'++B'))) (x.power_ j) ((x.power_ j).begins s j i) tv'∧Grow w (PB::(F++B)) w' (PB::(F'++B'))))
def z24 (tv sv:Array Value):Array Value:=(tv.toList.take 0++sv.toList++tv.toList.drop (0+sv.toList.length)).toArray
theorem Mid.put (m:Mid w W PB D F B B' x xd xr tp tv tv' s j i)(hq:RSv W (Far (PB::(F++B'))) xr' sv):
  Mid w (W.setRow PB (z0O D tp (z24 tv' sv) s j i)) PB D F B B' x xd xr' tp tv (z24 tv' sv) s j i∧(Instr.storeAt 34 (.pointer (some ⟨PB,2,none⟩)) (.agg sv)).run prog W=.ok () (W.setRow PB (z0O D tp (z24 tv' sv) s j i)):=
 ⟨m.store hq,z4U m.box m.size hq.size hq.one⟩
theorem zb1 {P:Nat→Prop}{G:Nat}(h:RSv W P x sv)(hG:W.heap.size≤G):RSv W (fun b=>P b∧b≠G) x sv:=h.mono fun b h1 h2=>⟨h1,by omega⟩
theorem zb9 {D:Nat}{B:List Nat}(h:DevAt W D B x):
  Calls prog 37 #[.pointer (some ⟨D,0,none⟩),.agg #[.int .i64 s,.int .i64 j,.int .i64 i]] W fun e w'=>Below W.heap.size W w'∧∃E p F2,x.beginE s j i E∧e=.returned (.tuple #[.pointer p,.int .i64 E])∧(∀b∈F2,W.heap.size≤b∧b<w'.heap.size)∧((E≠0∧p=none)∨(E=0∧∃T,p=some ⟨T,0,none⟩∧TxAt w' T F2 D (x.begins s j i))):=by
 refine(z6N D s j i B x W h (zgQ h.ok _)).mono ?_;rintro e w' ⟨hb,E,hE,⟨h5,rfl⟩|⟨rfl,T,F2,rfl,ht,hF⟩⟩
 ·exact⟨hb,E,none,[],hE,rfl,fun b hb=>(by cases hb),.inl ⟨h5,rfl⟩⟩
 ·exact⟨hb,0,_,F2,hE,rfl,fun b hb=>⟨hF b hb,(ht.lt b hb).2⟩,.inr ⟨rfl,T,rfl,ht⟩⟩
def zhh (PB D:Nat)(tp:Value)(tv:Array Value)(s j i:Int)(W:World):Prop:=Blk W PB 52 (z0O D tp tv s j i)∧W.cell? ⟨PB,0,none⟩=some (.pointer (some ⟨D,0,none⟩))∧W.cell? ⟨PB,27,none⟩=some (.int .i64 s)∧W.cell? ⟨PB,28,none⟩=some (.int .i64 j)∧W.cell? ⟨PB,29,none⟩=some (.int .i64 i)
theorem Mid.pc (m:Mid w W PB D F B B' x xd xr tp tv tv' s j i):zhh PB D tp tv' s j i W:=⟨m.box,m.cells.1,m.cells.2.2.2.1,m.cells.2.2.2.2.1,m.cells.2.2.2.2.2⟩
theorem z8S (m0:Mid w w PB D F B B x x x tp tv tv s j i){n:Nat}(hs:z1d n x)(hcalm:x.Calm)(hrg:rgE s j i=0)(hn:(n:Int)=s):
  Calls prog 13 #[.pointer (some ⟨PB,0,none⟩)] w (zcK w PB D F B x tp tv s j i):=by
 have hps:=z3W hs hcalm hrg hn;have hjr:=fun W=>z2J s j i W
 rw[show rgJ s j i=1 from (z3R hrg).1]at hjr
 have HPS:=zhs hps;have M0:=zhs m0;have HC:=zhs hcalm;obtain⟨-,-,c6,-,-,-⟩:=m0.cells;have lP:=m0.box.lt;obtain⟨b,ho⟩:∃b,x.off=b:=⟨_,rfl⟩;have HO:=zhs ho;rw[ho]at c6;clear hps hs hn m0 hcalm ho;go_enter func13,ntmps13
 go_upto_region 1 with fail
 go_upto_if 17 with fail
 go_cut [3,4,5,6,7]from 18 to 77 (fun s3 s4 s5 s6 s7 wx=>∃B' tv',Mid w wx PB D F B B' x (x.power_ j) (x.power_ j) tp tv tv' s j i)
 case first=>
  as_aux_lemma=>
   cases b
   ·go_wp2_with fail
    go_meet
    case rel=>
     have e:x.power_ j=x:=by unfold DevS.power_;rw[HO.out];rfl
     rw[e];exact⟨B,tv,M0.out⟩
   have e:x.power_ j=((x.crashed []).replay 1 j).2.2:=by unfold DevS.power_;rw[HO.out];rfl
   have HE:=zhs e;clear HPS e;have lS:=z3x M0.out.box M0.out.size;have hcr:=zgm M0.out.sv M0.out.lts;go_upto_region 2 with fail
   go_wp2_with (refine z02 (by rfl) _ _ rfl (.agg (tv.toList.take 5).toArray) (.pointer (some ⟨PB,2,none⟩)) rfl lS ?_)
   refine hcr.mono ?_;rintro e w1 ⟨sv1,rfl,hq1,hb1⟩;obtain⟨m2,hst⟩:=(M0.out.below hb1).put hq1;clear hcr lS;go_upto_region 3 with (refine z01 rfl _ _ _ rfl _ _ rfl rfl hst ?_)
   generalize w1.setRow PB (z0O D tp (z24 tv sv1) s j i)=W2 at *;generalize z24 tv sv1=tv2 at *;clear hst hb1 hq1 c6;have hrr:=fun W (P:Nat→Prop) (hq:RSv W P (x.crashed []) (tv2.toList.take 5).toArray) (hP:∀b,W.heap.size≤b→P b)=>zeU hq (.inl rfl) hP 1 j
   obtain⟨y,hy⟩:∃y,y=x.crashed []:=⟨_,rfl⟩;obtain⟨r,hr⟩:∃r,r=y.replay 1 j:=⟨_,rfl⟩;have HY:=zhs hy;have HR:=zhs hr;simp only[←hy,←hr]at m2 hrr HE;unfold RAv at hrr;clear hy hr;obtain⟨rn,re,rd⟩:=r;simp only at hrr HE
   have hS:∀W,Below W2.heap.size W2 W→Blk W PB 52 (z0O D tp tv2 s j i)∧W.cell? ⟨PB,0,none⟩=some (.pointer (some ⟨D,0,none⟩))∧W.cell? ⟨PB,27,none⟩=some (.int .i64 s)∧W.cell? ⟨PB,28,none⟩=some (.int .i64 j)∧W.cell? ⟨PB,29,none⟩=some (.int .i64 i):=fun W hW=>(m2.below hW).pc
   have hsz2:=m2.size;(try simp only[Act.put,zht,zhu,zhv])
   go_cut [3,4,5]from 31 to 45 (fun s3 s4 s5 wx=>∃G sv4,s3=.pointer (some ⟨G,0,none⟩)∧s4=.int .i64 rn∧s5=.int .i64 re∧Mid w wx PB D F B B x x y tp tv tv2 s j i∧RSv wx (Far (PB::(F++B))) rd sv4∧Blk wx G 34 sv4)
   case first=>
    as_aux_lemma=>
     refine z13 (Us.takes [0,1,2,3,4,5,6,7,8] (.fork 9 15 (.fork 10 15 (Us.takes [11,12] (Us.pures [13,14] (.one 15 (.late 16 (.late 17 (.late 18 .done)))))) (.one 10 (Us.takes [11,12] (Us.pures [13,14] (.late 16 (.late 17 (.late 18 .done))))))) (.one 9 (.one 10 (Us.takes [11,12] (Us.pures [13,14] (.late 16 (.late 17 (.late 18 .done))))))))) 16 (fun W=>Blk W PB 52 (z0O D tp tv2 s j i)∧W.cell? ⟨PB,0,none⟩=some (.pointer (some ⟨D,0,none⟩))∧W.cell? ⟨PB,27,none⟩=some (.int .i64 s)∧W.cell? ⟨PB,28,none⟩=some (.int .i64 j)∧W.cell? ⟨PB,29,none⟩=some (.int .i64 i)) (by kernel_rfl) (by kernel_rfl) (fun _ _ _ _ _ h=>h) (hS _ (zho _ _).drew) ?_
     simp only[Us.takes,Us.pures,Us.fill,zhy,zhz];iterate 4 (refine z0K (by rfl) ?_ (fun w' hw'=>?_) ?_;rotate_left;(focus (go_simp;(try with_reducible rfl)));(try simp only[Act.put,zht,zhu,zhv]))
     refine z0K (by rfl) (.agg (tv2.toList.take 5).toArray) (fun w' hw'=>z0w 34 _ rfl rfl (z3x hw'.1 hsz2)) ?_
     (try simp only[Act.put,zht,zhu,zhv])
     iterate 4 (refine z0K (by rfl) ?_ (fun w' hw'=>?_) ?_;rotate_left;(focus (go_simp;(try with_reducible rfl)));(try simp only[Act.put,zht,zhu,zhv]))
     have hX0:Below W2.heap.size W2 W2.drew:=(zho _ _).drew;generalize W2.drew=X0 at hX0 ⊢;refine z3X (fun K hK=>?_) (fun K hK=>?_)
     ·go_simp;refine(hjr X0).mono ?_;rintro e w3 ⟨rfl,hb3'⟩;have hb3:Below W2.heap.size W2 w3:=hX0.trans (hb3'.mono hX0.size);refine hK _ _ (hS _ hb3) ?_;clear hK K hb3';refine z3X (fun K hK=>?_) (fun K hK=>?_)
      ·go_simp;refine(hrr w3 _ (m2.below hb3).sv (m2.below hb3).lts).mono ?_;rintro e w4 ⟨sv4,rfl,hq4,hb4'⟩;have hb4:Below W2.heap.size W2 w4:=hb3.trans (hb4'.mono hb3.size);refine hK _ _ (hS _ hb4) ?_;clear hK K;iterate 2 (refine z0K (by rfl) ?_ (fun w' hw'=>?_) ?_;rotate_left;(focus (go_simp;(try with_reducible rfl)));(try simp only[Act.put,zht,zhu,zhv]))
       iterate 2 (refine z1s (by rfl) ?_ (fun w' hw'=>?_) ?_;rotate_left;(focus (go_simp;(try with_reducible rfl)));(try simp only[Act.put,zht,zhu,zhv]))
       refine z1b fun K hK=>?_
       go_simp;obtain⟨w5,hA⟩:∃w5,w5=World.alloc w4 (.cells svZ 34):=⟨_,rfl⟩;have bG:Blk w5 w4.heap.size 34 svZ:=by rw[hA];exact Blk.new _ _ _
       have hb5:Below W2.heap.size W2 w5:=by rw[hA];exact hb4.alloc hb4.size _
       have hbA:Below w4.heap.size w4 w5:=by rw[hA];exact(zho _ _).alloc (zhT _) _
       unfold svZ at hA;rw[←hA];clear hA;refine hK _ _ (hS _ hb5) ?_;clear hK K;have hz2:=hb4.size;have hq5:=(zb1 hq4 (zhT _)).below hbA;have hst:=z0l bG rfl hq5.size hq5.one;have bG2:=bG.setRow (cs':=sv4);refine z0H fun K hK=>?_
       refine z0h _ _ _ rfl _ _ rfl rfl hst ?_;refine hK _ _ ?_;clear hK K hst;(try simp only[Act.put,zht,zhu,zhv])
       refine z0H fun K hK=>?_
       go_simp;refine hK _ _ ?_;clear hK K;refine z0H fun K hK=>?_
       go_simp;refine hK _ _ ?_;clear hK K;refine z1G ?_;go_wp2_with fail
       go_meet
       case rel=>exact⟨w4.heap.size,sv4,rfl,rfl,rfl,m2.below (Below.setRow hb5 hz2 sv4),(hq5.row (fun b hP=>hP.2) sv4).mono (fun b h1 _=>h1.1),bG2⟩
      ·go_simp;obtain⟨w4,hA⟩:∃w4,w4=World.alloc w3 (.cells svZ 34):=⟨_,rfl⟩;have bG:Blk w4 w3.heap.size 34 svZ:=by rw[hA];exact Blk.new _ _ _
       have hb4:Below W2.heap.size W2 w4:=by rw[hA];exact hb3.alloc hb3.size _
       have hbA:Below w3.heap.size w3 w4:=by rw[hA];exact(zho _ _).alloc (zhT _) _
       unfold svZ at hA;rw[←hA];clear hA;refine hK _ _ (hS _ hb4) ?_;clear hK K;have hz2:=hb3.size;have hzG:=bG.lt;refine z1b fun K hK=>?_
       go_simp;refine(hrr w4 _ (((zb1 m2.sv hz2).below hb4)) (fun b hb=>⟨(m2.below hb4).lts b hb,by have:=hzG;omega⟩)).mono ?_
       rintro e w5 ⟨sv4,rfl,hq4,hb5'⟩;have hb5:Below W2.heap.size W2 w5:=hb4.trans (hb5'.mono hb4.size);refine hK _ _ (hS _ hb5) ?_;clear hK K;have hq5:=hq4;replace bG:=bG.belowAll hb5';iterate 2 (refine z0K (by rfl) ?_ (fun w' hw'=>?_) ?_;rotate_left;(focus (go_simp;(try with_reducible rfl)));(try simp only[Act.put,zht,zhu,zhv]))
       iterate 2 (refine z1s (by rfl) ?_ (fun w' hw'=>?_) ?_;rotate_left;(focus (go_simp;(try with_reducible rfl)));(try simp only[Act.put,zht,zhu,zhv]))
       have hst:=z0l bG rfl hq5.size hq5.one;have bG2:=bG.setRow (cs':=sv4);refine z0H fun K hK=>?_
       refine z0h _ _ _ rfl _ _ rfl rfl hst ?_;refine hK _ _ ?_;clear hK K hst;(try simp only[Act.put,zht,zhu,zhv])
       refine z0H fun K hK=>?_
       go_simp;refine hK _ _ ?_;clear hK K;refine z0H fun K hK=>?_
       go_simp;refine hK _ _ ?_;clear hK K;refine z1G ?_;go_wp2_with fail
       go_meet
       case rel=>exact⟨w3.heap.size,sv4,rfl,rfl,rfl,m2.below (Below.setRow hb5 hz2 sv4),(hq5.row (fun b hP=>hP.2) sv4).mono (fun b h1 _=>h1.1),bG2⟩
     ·go_simp;obtain⟨w3,hA⟩:∃w3,w3=World.alloc X0 (.cells svZ 34):=⟨_,rfl⟩;have bG:Blk w3 X0.heap.size 34 svZ:=by rw[hA];exact Blk.new _ _ _
      have hb3:Below W2.heap.size W2 w3:=by rw[hA];exact hX0.alloc hX0.size _
      have hbA:Below X0.heap.size X0 w3:=by rw[hA];exact(zho _ _).alloc (zhT _) _
      unfold svZ at hA;rw[←hA];clear hA;refine hK _ _ (hS _ hb3) ?_;clear hK K;have hz2:=hX0.size;have hzG3:=bG.lt;refine z1b fun K hK=>?_
      go_simp;refine(hjr w3).mono ?_;rintro e w4 ⟨rfl,hb4'⟩;have hb4:Below W2.heap.size W2 w4:=hb3.trans (hb4'.mono hb3.size);refine hK _ _ (hS _ hb4) ?_;replace bG:=bG.belowAll hb4';have hzG:=bG.lt;clear hK K hb4';refine z1b fun K hK=>?_
      go_simp;refine(hrr w4 _ (((zb1 m2.sv hz2).below hb4)) (fun b hb=>⟨(m2.below hb4).lts b hb,by have:=hzG;omega⟩)).mono ?_
      rintro e w5 ⟨sv4,rfl,hq4,hb5'⟩;have hb5:Below W2.heap.size W2 w5:=hb4.trans (hb5'.mono hb4.size);refine hK _ _ (hS _ hb5) ?_;clear hK K;have hq5:=hq4;replace bG:=bG.belowAll hb5';iterate 2 (refine z0K (by rfl) ?_ (fun w' hw'=>?_) ?_;rotate_left;(focus (go_simp;(try with_reducible rfl)));(try simp only[Act.put,zht,zhu,zhv]))
      iterate 2 (refine z1s (by rfl) ?_ (fun w' hw'=>?_) ?_;rotate_left;(focus (go_simp;(try with_reducible rfl)));(try simp only[Act.put,zht,zhu,zhv]))
      have hst:=z0l bG rfl hq5.size hq5.one;have bG2:=bG.setRow (cs':=sv4);refine z0H fun K hK=>?_
      refine z0h _ _ _ rfl _ _ rfl rfl hst ?_;refine hK _ _ ?_;clear hK K hst;(try simp only[Act.put,zht,zhu,zhv])
      refine z0H fun K hK=>?_
      go_simp;refine hK _ _ ?_;clear hK K;refine z0H fun K hK=>?_
      go_simp;refine hK _ _ ?_;clear hK K;refine z1G ?_;go_wp2_with fail
      go_meet
      case rel=>exact⟨X0.heap.size,sv4,rfl,rfl,rfl,m2.below (Below.setRow hb5 hz2 sv4),(hq5.row (fun b hP=>hP.2) sv4).mono (fun b h1 _=>h1.1),bG2⟩
   case rest=>
    as_aux_lemma=>
     obtain⟨G,sv4,rfl,rfl,rfl,mc,hq,bG⟩:=hcut;have l3:=z0z bG hq.size;obtain⟨m4,hst⟩:=mc.put hq;go_upto_region 5 with (first|(refine z02 (by rfl) _ _ rfl (.agg sv4) (.pointer (some ⟨G,0,none⟩)) rfl l3 ?_)|(refine z01 rfl _ _ _ rfl _ _ rfl rfl hst ?_))
     generalize wc.setRow PB (z0O D tp (z24 tv2 sv4) s j i)=W4 at *;generalize z24 tv2 sv4=tv4 at *;have c0:=m4.cells.1;have lP4:=m4.box.lt;have hcr:=zcU D B x none 0 [] (fun i hi=>(by cases hi)) List.Pairwise.nil (by simp) W4 m4.dev Reads.nil (fun ad h=>(by cases h))
     clear hst mc hq bG l3;go_wp2_with fail
     refine hcr.mono ?_;rintro e w5 ⟨rfl,B5,hd5,g5⟩;have m5:=m4.to hd5 g5;simp only[←HY.out]at m5;clear hcr hd5 g5 m4 c0 lP4;go_upto_region 7 with fail
     have hrp:=fun W (hW:Below w5.heap.size w5 W)=>zcn D 1 j B5 y W (m5.below hW).dev
     simp only[←HR.out]at hrp;unfold z5R at hrp;refine z06 [.take 0,.take 1,.take 2,.take 3,.take 4,.take 5,.take 6,.take 7,.one 8,.one 9,.take 10,.take 11,.take 12,.one 13,.one 14] 15 (fun W=>Blk W PB 52 (z0O D tp tv4 s j i)∧W.cell? ⟨PB,0,none⟩=some (.pointer (some ⟨D,0,none⟩))∧W.cell? ⟨PB,27,none⟩=some (.int .i64 s)∧W.cell? ⟨PB,28,none⟩=some (.int .i64 j)∧W.cell? ⟨PB,29,none⟩=some (.int .i64 i)) (by kernel_rfl) (by kernel_rfl) (fun _ _ _ _ _ h=>h) (m5.below (zho _ _).drew).pc ?_
     simp only[zhY,zhZ,Ms.fill,zhy,zhz];iterate 8 (refine z04 (by rfl) ?_ (fun w' hw'=>?_) ?_;rotate_left;(focus (go_simp;(try with_reducible rfl)));(try simp only[Act.put,zht,zhu,zhv]))
     have hX0:Below w5.heap.size w5 w5.drew:=(zho _ _).drew;generalize w5.drew=X0 at hX0 ⊢;refine z05 (by rfl) fun K hK=>?_
     go_simp;refine(hjr X0).mono ?_;rintro e w6 ⟨rfl,hb6'⟩;have hb6:=hX0.trans (hb6'.mono hX0.size);refine hK _ _ (fun _=>(m5.below hb6).pc) ?_
     clear hK K hb6';refine z05 (by rfl) fun K hK=>?_
     go_simp;refine(hrp w6 hb6).mono ?_;rintro e w7 ⟨rfl,B7,hd7,g7⟩;have m7:=(m5.below hb6).to hd7 g7;refine hK _ _ (fun _=>m7.pc) ?_
     clear hK K hrp hd7 g7;iterate 3 (refine z04 (by rfl) ?_ (fun w' hw'=>?_) ?_;rotate_left;(focus (go_simp;(try with_reducible rfl)));(try simp only[Act.put,zht,zhu,zhv]))
     refine z05 (by rfl) fun K hK=>?_
     go_simp;refine hK _ _ (fun _=>m7.pc) ?_
     clear hK K;refine z05 (by rfl) fun K hK=>?_
     go_simp;refine hK _ _ (fun _=>m7.pc) ?_
     clear hK K;refine z0f ?_;go_wp2_with fail
     go_meet
     case rel=>exact⟨B7,tv4,by rw[HE.out];exact m7⟩
 case rest=>
  as_aux_lemma=>
   obtain⟨W1,rfl⟩:∃W1,W1=wc:=⟨_,rfl⟩;obtain⟨B1,tv1,m⟩:=hcut;obtain⟨x1,hx1⟩:∃x1,x1=x.power_ j:=⟨_,rfl⟩;have HX:=zhs hx1;rw[←hx1]at m HPS;have hps:=HPS.out;have hbg:=fun W (hW:Below W1.heap.size W1 W)=>zb9 (s:=s) (j:=j) (i:=i) (m.below hW).dev
   have hP0:=m.pc;clear hx1 hjr HC M0 HO c6;go_upto_region 10 with fail
   go_cut [8,9]from 78 to 89 (fun s8 s9 wx=>∃E p F2,s8=.pointer p∧s9=.int .i64 E∧x1.beginE s j i E∧(∀b∈F2,W1.heap.size≤b∧b<wx.heap.size)∧Below W1.heap.size W1 wx∧((E≠0∧p=none)∨(E=0∧∃T,p=some ⟨T,0,none⟩∧TxAt wx T F2 D (x1.begins s j i))))
   case first=>
    as_aux_lemma=>
     refine z06 [.take 0,.take 1,.take 2,.take 3,.take 4,.take 5,.take 6,.take 7,.one 8,.take 9,.take 10,.take 11,.one 12,.one 13] 14 (fun W=>Blk W PB 52 (z0O D tp tv1 s j i)∧W.cell? ⟨PB,0,none⟩=some (.pointer (some ⟨D,0,none⟩))∧W.cell? ⟨PB,27,none⟩=some (.int .i64 s)∧W.cell? ⟨PB,28,none⟩=some (.int .i64 j)∧W.cell? ⟨PB,29,none⟩=some (.int .i64 i)) (by kernel_rfl) (by kernel_rfl) (fun _ _ _ _ _ h=>h) (m.below (zho _ _).drew).pc ?_
     simp only[zhY,zhZ,Ms.fill,zhy,zhz];iterate 8 (refine z04 (by rfl) ?_ (fun w' hw'=>?_) ?_;rotate_left;(focus (go_simp;(try with_reducible rfl)));(try simp only[Act.put,zht,zhu,zhv]))
     have hX0:Below W1.heap.size W1 W1.drew:=(zho _ _).drew;generalize W1.drew=X0 at hX0 ⊢;refine z05 (by rfl) fun K hK=>?_
     go_simp;refine(hbg X0 hX0).mono ?_;rintro e w2 ⟨hb2',E,p,F2,hE,rfl,hF2,hT⟩;have hb2:=hX0.trans (hb2'.mono hX0.size);have m2:=m.below hb2;refine hK _ _ (fun _=>m2.pc) ?_
     clear hK K hbg;iterate 3 (refine z04 (by rfl) ?_ (fun w' hw'=>?_) ?_;rotate_left;(focus (go_simp;(try with_reducible rfl)));(try simp only[Act.put,zht,zhu,zhv]))
     refine z05 (by rfl) fun K hK=>?_
     go_simp;refine hK _ _ (fun _=>m2.pc) ?_
     clear hK K;refine z05 (by rfl) fun K hK=>?_
     go_simp;refine hK _ _ (fun _=>m2.pc) ?_
     clear hK K;refine z0f ?_;go_wp2_with fail
     go_meet
     case rel=>exact⟨E,p,F2,rfl,rfl,hE,fun b hb=>⟨zhS hX0.size (hF2 b hb).1,(hF2 b hb).2⟩,hb2,hT⟩
   case rest=>
    as_aux_lemma=>
     obtain⟨W2,rfl⟩:∃W2,W2=wc:=⟨_,rfl⟩;obtain⟨E,p,F2,rfl,rfl,hE,hF2,hb2,hT⟩:=hcut;have m2:=m.below hb2;have hsz2:=m2.size;have hsv2:RSv W2 (fun b=>Far (PB::(F++B1)) b∧b∉F2) x1 (tv1.toList.take 5).toArray:=(m.sv.mono fun b h1 h2=>⟨h1,fun hm=>by have:=(hF2 b hm).1;omega⟩).below hb2
     have hN2:∀b,W2.heap.size≤b→(fun b=>Far (PB::(F++B1)) b∧b∉F2) b:=fun b hb=>⟨m2.lts b hb,fun hm=>by have:=(hF2 b hm).2;omega⟩
     have hrb:=fun W (P:Nat→Prop) (hq:RSv W P x1 (tv1.toList.take 5).toArray) (hP:∀b,W.heap.size≤b→P b)=>zfX hq hps.2 hP s j i
     unfold zgB at hrb;have HE1:=zhs hE;have HT:=zhs hT;have HF2:=zhs hF2;have HM:=zhs m;have HB2:=zhs hb2;clear hE hT hF2 m hb2 hbg hP0;go_upto_region 11 with fail
     have hS:∀W,Below W2.heap.size W2 W→Blk W PB 52 (z0O D tp tv1 s j i)∧W.cell? ⟨PB,0,none⟩=some (.pointer (some ⟨D,0,none⟩))∧W.cell? ⟨PB,27,none⟩=some (.int .i64 s)∧W.cell? ⟨PB,28,none⟩=some (.int .i64 j)∧W.cell? ⟨PB,29,none⟩=some (.int .i64 i):=fun W hW=>(m2.below hW).pc
     go_cut [10,11]from 90 to 102 (fun s10 s11 wx=>∃G tvb,s10=.pointer (some ⟨G,0,none⟩)∧s11=.int .i64 E∧tvb.size=25∧tvb.all (·.oneCell')=true∧Below W2.heap.size W2 wx∧W2.heap.size≤G∧Blk wx G 50 tvb∧(E=0→RTx wx (fun b=>Far (PB::(F++B1)) b∧b∉F2) x1 (x1.begins s j i) tvb))
     case first=>
      as_aux_lemma=>
       refine z13 (Us.takes [0,1,2,3,4,5,6,7,8] (.fork 9 13 (Us.takes [10,11] (.pure 12 (.one 13 (.late 14 (.late 15 .done))))) (.one 9 (Us.takes [10,11] (.pure 12 (.late 14 (.late 15 .done))))))) 14 (fun W=>Blk W PB 52 (z0O D tp tv1 s j i)∧W.cell? ⟨PB,0,none⟩=some (.pointer (some ⟨D,0,none⟩))∧W.cell? ⟨PB,27,none⟩=some (.int .i64 s)∧W.cell? ⟨PB,28,none⟩=some (.int .i64 j)∧W.cell? ⟨PB,29,none⟩=some (.int .i64 i)) (by kernel_rfl) (by kernel_rfl) (fun _ _ _ _ _ h=>h) (hS _ (zho _ _).drew) ?_
       simp only[Us.takes,Us.pures,Us.fill,zhy,zhz];iterate 4 (refine z0K (by rfl) ?_ (fun w' hw'=>?_) ?_;rotate_left;(focus (go_simp;(try with_reducible rfl)));(try simp only[Act.put,zht,zhu,zhv]))
       refine z0K (by rfl) (.agg (tv1.toList.take 5).toArray) (fun w' hw'=>z0w 34 _ rfl rfl (z3x hw'.1 hsz2)) ?_
       (try simp only[Act.put,zht,zhu,zhv])
       iterate 4 (refine z0K (by rfl) ?_ (fun w' hw'=>?_) ?_;rotate_left;(focus (go_simp;(try with_reducible rfl)));(try simp only[Act.put,zht,zhu,zhv]))
       have hX0:Below W2.heap.size W2 W2.drew:=(zho _ _).drew;generalize W2.drew=X0 at hX0 ⊢;refine z3X (fun K hK=>?_) (fun K hK=>?_)
       ·go_simp;refine(hrb X0 _ (hsv2.below hX0) (fun b hb=>hN2 b (zhS hX0.size hb))).mono ?_
        rintro e w3 ⟨hb3',E',tvb,hE',rfl,hsz,hone,hT'⟩;have hb3:=hX0.trans (hb3'.mono hX0.size);obtain rfl:=z7x HE1.out hE';refine hK _ _ (hS _ hb3) ?_;clear hK K;iterate 2 (refine z0K (by rfl) ?_ (fun w' hw'=>?_) ?_;rotate_left;(focus (go_simp;(try with_reducible rfl)));(try simp only[Act.put,zht,zhu,zhv]))
        iterate 1 (refine z1s (by rfl) ?_ (fun w' hw'=>?_) ?_;rotate_left;(focus (go_simp;(try with_reducible rfl)));(try simp only[Act.put,zht,zhu,zhv]))
        refine z1b fun K hK=>?_
        go_simp;obtain⟨w4,hA⟩:∃w4,w4=World.alloc w3 (.cells txZ 50):=⟨_,rfl⟩;have bG:Blk w4 w3.heap.size 50 txZ:=by rw[hA];exact Blk.new _ _ _
        have hb4:Below W2.heap.size W2 w4:=by rw[hA];exact hb3.alloc hb3.size _
        have hbA:Below w3.heap.size w3 w4:=by rw[hA];exact(zho _ _).alloc (zhT _) _
        unfold txZ txR at hA;rw[←hA];clear hA;refine hK _ _ (hS _ hb4) ?_;clear hK K;have hst:=z0v bG rfl hsz hone;have bG2:=bG.setRow (cs':=tvb);refine z0H fun K hK=>?_
        refine z0h _ _ _ rfl _ _ rfl rfl hst ?_;refine hK _ _ ?_;clear hK K hst;(try simp only[Act.put,zht,zhu,zhv])
        refine z0H fun K hK=>?_
        go_simp;refine hK _ _ ?_;clear hK K;refine z1G ?_;go_wp2_with fail
        go_meet
        case rel=>
         refine⟨w3.heap.size,tvb,rfl,rfl,hsz,hone,Below.setRow hb4 hb3.size tvb,hb3.size,bG2,fun h0=>?_⟩
         exact((((hT' h0).mono (Q:=fun b=>(Far (PB::(F++B1)) b∧b∉F2)∧b≠w3.heap.size) fun b h1 h2=>⟨h1,by omega⟩).below hbA).row (fun b hP=>hP.2) tvb).mono fun b h1 _=>h1.1
       ·go_simp;obtain⟨w3,hA⟩:∃w3,w3=World.alloc X0 (.cells txZ 50):=⟨_,rfl⟩;have bG:Blk w3 X0.heap.size 50 txZ:=by rw[hA];exact Blk.new _ _ _
        have hb3:Below W2.heap.size W2 w3:=by rw[hA];exact hX0.alloc hX0.size _
        have hbA:Below X0.heap.size X0 w3:=by rw[hA];exact(zho _ _).alloc (zhT _) _
        unfold txZ txR at hA;rw[←hA];clear hA;refine hK _ _ (hS _ hb3) ?_;clear hK K;have hz:=hX0.size;have hzG:=bG.lt;have hsv3:RSv w3 (fun b=>(Far (PB::(F++B1)) b∧b∉F2)∧b≠X0.heap.size) x1 (tv1.toList.take 5).toArray:=(zb1 hsv2 hz).below hb3
        refine z1b fun K hK=>?_
        go_simp;refine(hrb w3 _ hsv3 (fun b hb=>⟨hN2 b (zhS hb3.size hb),by omega⟩)).mono ?_
        rintro e w4 ⟨hb4',E',tvb,hE',rfl,hsz,hone,hT'⟩;have hb4:=hb3.trans (hb4'.mono hb3.size);obtain rfl:=z7x HE1.out hE';refine hK _ _ (hS _ hb4) ?_;clear hK K;iterate 2 (refine z0K (by rfl) ?_ (fun w' hw'=>?_) ?_;rotate_left;(focus (go_simp;(try with_reducible rfl)));(try simp only[Act.put,zht,zhu,zhv]))
        iterate 1 (refine z1s (by rfl) ?_ (fun w' hw'=>?_) ?_;rotate_left;(focus (go_simp;(try with_reducible rfl)));(try simp only[Act.put,zht,zhu,zhv]))
        have bG4:=bG.belowAll hb4';have hst:=z0v bG4 rfl hsz hone;have bG2:=bG4.setRow (cs':=tvb);refine z0H fun K hK=>?_
        refine z0h _ _ _ rfl _ _ rfl rfl hst ?_;refine hK _ _ ?_;clear hK K hst;(try simp only[Act.put,zht,zhu,zhv])
        refine z0H fun K hK=>?_
        go_simp;refine hK _ _ ?_;clear hK K;refine z1G ?_;go_wp2_with fail
        go_meet
        case rel=>
         refine⟨X0.heap.size,tvb,rfl,rfl,hsz,hone,Below.setRow hb4 hz tvb,hz,bG2,fun h0=>?_⟩
         exact((hT' h0).row (fun b hP=>hP.2) tvb).mono fun b h1 _=>h1.1
     case rest=>
      as_aux_lemma=>
       obtain⟨W3,rfl⟩:∃W3,W3=wc:=⟨_,rfl⟩;obtain⟨G,tvb,rfl,rfl,hsz,hone,hb3,hG2,bG,hRT⟩:=hcut;have hGne:=zhs (show G≠PB by have:=m2.box.lt;omega)
       clear hG2;have m3:=m2.below hb3;by_cases hE0:E=0
       rotate_left
       ·obtain⟨-,rfl⟩:=HT.out.resolve_right (fun h=>hE0 h.1)
        have hq0:(E != 0)=true:=by simpa using hE0
        have hq1:(E==0)=false:=by simpa using hE0
        have HN0:=zhs hE0;clear hE0 hRT hrb hsv2 hN2;go_wp2_with fail
        go_ret
        exact⟨rfl,B1,tv1,.inl ⟨E,by rw[←HX.out];exact HE1.out,HN0.out,by rw[←HX.out];exact m3⟩⟩
       subst hE0;obtain⟨-,T,rfl,hTx⟩:=HT.out.resolve_left (fun h=>h.1 rfl)
       have hRT0:=hRT rfl;have hTx3:=hTx.below hb3;have HF:=zhs hRT0;clear hRT hrb hsv2 hN2 HT;go_upto_region 15 with fail
       have hGP:G≠PB:=hGne.out;have hX0:Below W3.heap.size W3 W3.drew:=(zho _ _).drew;have m4:=m3.below hX0;have bG4:=bG.belowAll hX0;have HTX4:=zhs (hTx3.below hX0);have HF4:=zhs (HF.out.below hX0);refine z06 [.take 0,.take 1,.take 2,.take 3,.take 4,.take 5,.one 6,.take 7,.take 8,.one 9] 10 (fun W=>Blk W G 50 tvb) (by kernel_rfl) (by kernel_rfl) (fun _ _ _ _ _ h=>h) bG4 ?_
       simp only[zhY,zhZ,Ms.fill,zhy,zhz];clear hRT0 hTx3 bG m3;generalize W3.drew=X0 at *;have hS9:∀W,(∀b,b≠PB→W.heap[b]?=X0.heap[b]?)→Blk W G 50 tvb:=fun W hW=>(hW G hGP).trans bG4
       have c1:=m4.cells.2.1;have bP:=m4.box;have lP3:=bP.lt;have fP:=bP.free;have bP4:=bP.set_ 1 (.pointer (some ⟨T,0,none⟩));rw[zfa]at bP4;have hst:=z4V bP4 m4.size hsz hone;have bP5:=bP4.setRow (cs':=z0O D (.pointer (some ⟨T,0,none⟩)) tvb s j i);iterate 3 (refine z04 (by rfl) ?_ (fun w' hw'=>?_) ?_;rotate_left;(focus (go_simp;(try with_reducible rfl)));(try simp only[Act.put,zht,zhu,zhv]))
       refine z04 (by rfl) (.agg tvb) (fun w' hw'=>z0w 50 _ rfl rfl (z0n hw' hsz)) ?_
       (try simp only[Act.put,zht,zhu,zhv])
       iterate 2 (refine z04 (by rfl) ?_ (fun w' hw'=>?_) ?_;rotate_left;(focus (go_simp;(try with_reducible rfl)));(try simp only[Act.put,zht,zhu,zhv]))
       refine z05 (by rfl) fun K hK=>?_
       go_simp;refine hK _ _ (fun _=>hS9 _ fun b hb=>Below.heap_setCell _ _ _ b hb) ?_
       clear hK K;iterate 2 (refine z04 (by rfl) ?_ (fun w' hw'=>?_) ?_;rotate_left;(focus (go_simp;(try with_reducible rfl)));(try simp only[Act.put,zht,zhu,zhv]))
       refine z05 (by rfl) fun K hK=>?_
       refine z0h _ _ _ rfl _ _ rfl rfl hst ?_;refine hK _ _ (fun _=>hS9 _ fun b hb=>(z0b _ _ _ _ hb).trans (Below.heap_setCell _ _ _ b hb)) ?_
       clear hK K hst;(try simp only[Act.put,zht,zhu,zhv])
       refine z0f ?_;go_wp2_with fail
       go_ret
       have hpb:PB∉F2∧PB∉B1:=⟨fun hm=>by have:=(HF2.out _ hm).1;have:=HM.out.box.lt;omega,fun hm=>m4.pb (zhI _ hm)⟩
       have hne:∀b,(fun b=>Far (PB::(F++B1)) b∧b∉F2) b→b≠PB:=fun b hb e=>hb.1 (by rw[e];exact zhK ..)
       refine⟨rfl,B1,tvb,.inr ⟨by rw[←HX.out];exact HE1.out,T,F2,?_,bP5,?_,fun b hb=>⟨zhS (HM.out.grow.keep.size) (HF2.out b hb).1,fun hm=>by have:=(HF2.out b hb).1;have:=(HM.out.dev.lt b hm).2;omega⟩,fun hm=>(zi0.1 hm).elim hpb.1 hpb.2,?_,?_⟩⟩
       ·rw[←HX.out];exact(m4.dev.set_ (p:=⟨PB,1,none⟩) hpb.2 m4.p0 _).row hpb.2 m4.p0 _
       ·rw[←HX.out];exact(HTX4.out.set_ (p:=⟨PB,1,none⟩) hpb.1 _).row hpb.1 _
       ·rw[←HX.out];refine((HF4.out.cell (q:=⟨PB,1,none⟩) hne _).row hne _).mono fun b h1 _ hm=>?_
        rcases List.mem_cons.1 hm with rfl|hm
        ·exact h1.1 (zhK ..)
        ·rcases zi0.1 hm with hm|hm
         ·exact h1.2 hm
         ·exact h1.1 (zhJ _ (zhI _ hm))
       ·have g:=m4.grow;refine⟨(g.keep.trans (KeepEx.setCell (p:=⟨PB,1,none⟩) _ (.inl (zhK ..)) _)).trans (KeepEx.setRow _ (.inl (zhK ..)) _),fun b hb=>?_⟩
        rcases List.mem_cons.1 hb with rfl|hb
        ·exact .inl (zhK ..)
        ·rcases zi0.1 hb with hb|hb
         ·exact .inr (zhS (HM.out.grow.keep.size) (HF2.out b hb).1)
         ·exact g.new b (zhJ _ (zhI _ hb))
end
open Go.ChangeShapes Go.WideShapes Go.ChangeAt Go.Deep
theorem Tryz.cellsInt:prog.cellsOf 3=1:=by kernel_rfl
theorem Tryz.cellsU8:prog.cellsOf 5=1:=by kernel_rfl
theorem Tryz.cellsStr:prog.cellsOf 9=1:=by kernel_rfl
theorem Tryz.cellsInts:prog.cellsOf 53=1:=by kernel_rfl
theorem Tryz.cellsStep:prog.cellsOf 55=6:=by kernel_rfl
theorem z8Z {f:Int}(h:(Lit.int .u8 f).wf=true):0≤f∧f≤255:=by
 simp[Lit.wf,IntKind.min,IntKind.max,IntKind.bits,IntKind.signed]at h;omega
theorem z4N {f:Int}(h:(Lit.int .i64 f).wf=true):-9223372036854775808≤f∧f≤9223372036854775807:=by
 simp[Lit.wf,IntKind.min,IntKind.max,IntKind.bits,IntKind.signed]at h;omega
section
variable {H:Type}{enc:TypeId × Value→H}{W:World}
theorem zbA {fuel:Nat}{v:Value}{x:DataW H × List MemPlace}(h:DataW.trod enc prog W 0 (fun _=>true) true fuel 53 [v]=some x):
  ∃(A:Option Addr) (n c:Nat) (xs:List Int),v=.slice A n c∧xs.length=n∧Reads W A (xs.map (Value.int .i64))∧n≤c∧c≤maxLen∧(A=none→n=0∧c=0):=
 zcb (Value.int .i64) underlying53 Tryz.cellsInt (fun n cs x hx=>by obtain⟨b,rfl,_⟩:=DataW.trod_int underlying3 hx;exact⟨b,rfl⟩) h
theorem z6h {fuel:Nat}{cs:List Value}(hsz:cs.length=6){x:DataW H × List MemPlace}(h:DataW.trod enc prog W 0 (fun _=>true) true fuel 55 cs=some x):
  ∃a:StepV,cs=z5r a∧StepOk W a:=by
 match cs,hsz with
 | [c0,c1,c2,c3,c4,c5],_=>
  obtain⟨xs,n,_,_,_,hlen,hg⟩:=DataW.trod_struct underlying55 h;have g0:DataW.trod enc prog W 0 (fun _=>true) true n 5 [c0]=xs[0]?:=by have:=hg 0 _ rfl;simpa[Tryz.cellsU8,Value.cells]using this
  have g1:DataW.trod enc prog W 0 (fun _=>true) true n 3 [c1]=xs[1]?:=by have:=hg 1 _ rfl;simpa[Tryz.cellsInt,Value.cells]using this
  have g2:DataW.trod enc prog W 0 (fun _=>true) true n 3 [c2]=xs[2]?:=by have:=hg 2 _ rfl;simpa[Tryz.cellsInt,Value.cells]using this
  have g3:DataW.trod enc prog W 0 (fun _=>true) true n 3 [c3]=xs[3]?:=by have:=hg 3 _ rfl;simpa[Tryz.cellsInt,Value.cells]using this
  have g4:DataW.trod enc prog W 0 (fun _=>true) true n 9 [c4]=xs[4]?:=by have:=hg 4 _ rfl;simpa[Tryz.cellsStr,Value.cells]using this
  have g5:DataW.trod enc prog W 0 (fun _=>true) true n 53 [c5]=xs[5]?:=by have:=hg 5 _ rfl;simpa[Tryz.cellsInts,Value.cells]using this
  clear hg;match xs,hlen with
  | [y0,y1,y2,y3,y4,y5],_=>
   simp only[zhC,zhD]at g0 g1 g2 g3 g4 g5;obtain⟨a0,e0,_,w0⟩:=DataW.trod_int underlying5 g0;obtain⟨a1,e1,_,w1⟩:=DataW.trod_int underlying3 g1;obtain⟨a2,e2,_,w2⟩:=DataW.trod_int underlying3 g2;obtain⟨a3,e3,_,w3⟩:=DataW.trod_int underlying3 g3;obtain⟨s,e4,_,w4⟩:=DataW.trod_string underlying9 g4;simp at e0 e1 e2 e3 e4
   subst e0 e1 e2 e3 e4;obtain⟨A,m,c,l,rfl,q1,q2,q3,q4,q5⟩:=zbA g5;subst q1;exact⟨⟨a0,a1,a2,a3,s,A,l,c⟩,rfl,z8Z w0,z4N w1,z4N w2,z4N w3,q2,⟨q3,q4⟩,w4⟩
theorem zbl {fuel:Nat}{v:Value}{x:DataW H × List MemPlace}(h:DataW.trod enc prog W 0 (fun _=>true) true fuel 24 [v]=some x):
  ∃(A:Option Addr) (c:Nat) (xs:List StepV),v=.slice A xs.length c∧Reads W A (xs.flatMap z5r)∧(∀a∈xs,StepOk W a)∧xs.length≤maxLen:=by
 obtain⟨A,n,c,xs,h1,h2,h3,h4,h5,h6,-⟩:=zdh z5r (StepOk W) 6 (by omega) underlying24 Tryz.cellsStep (fun n cs x hsz hx=>z6h hsz hx) h
 subst h2;exact⟨A,c,xs,h1,h3,fun a ha=>(h4 a ha).2,by omega⟩
theorem zch {r:Reach}{b0:Nat}{v:Value}{d:DataW H}{p:List MemPlace}(hv:Value.okWide prog W r b0 24 v)(h:DataW.Trod enc prog W 0 (fun _=>true) true 24 v d p):
  ∃(A:Option Addr) (c:Nat) (xs:List StepV),v=.slice A xs.length c∧Reads W A (xs.flatMap z5r)∧(∀a∈xs,StepOk W a)∧xs.length≤maxLen:=by
 obtain⟨a0,l0,c0,rfl⟩:=okWide_slice underlying24 hv;obtain⟨fuel,hf⟩:=h;exact zbl (v:=.slice a0 l0 c0) (by simpa[Value.cells]using hf)
end
end Go.Proofs.YtejmknghkbobnaaGreatDoor
