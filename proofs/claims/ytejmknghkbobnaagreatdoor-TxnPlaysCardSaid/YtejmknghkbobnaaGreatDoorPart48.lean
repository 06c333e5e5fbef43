import Derived.Test.YtejmknghkbobnaaGreatDoorPart00
import Derived.Test.YtejmknghkbobnaaGreatDoorPart44
import Derived.Test.YtejmknghkbobnaaGreatDoorPart47
import Derived.Test.YtejmknghkbobnaaGreatDoorRows
import Derived.Test.YtejmknghkbobnaaGreatDoorCards
import Derived.Test.YtejmknghkbobnaaGreatDoorTie
import Derived.ProofKit
import Derived.Lib.LaidTab
import Derived.Lib.SmallJoins
import Derived.LaidMore
import Derived.OpenShut
import Derived.Stop.Joined
import Derived.SevenTiedAt
set_option linter.unusedVariables false
set_option linter.unusedSimpArgs false
set_option maxRecDepth 100000
set_option maxHeartbeats 8000000
namespace Go.Proofs.YtejmknghkbobnaaGreatDoor
open Go.Proofs.Tryz
open Go.RowKit Go.Maps
theorem z8t {x:DevS}{F Z:Int}{l:List Rec}(h:(x.commit F Z l).1=0):(x.commit F Z l).2.cache=[]:=by
 unfold DevS.commit at h ⊢;by_cases h1:(x.log F Z l).1≠0
 ·rw[if_pos h1]at h;exact absurd h h1
 ·rw[if_neg h1]at h ⊢;by_cases h2:((x.log F Z l).2.apply F Z).2.1≠0
  ·rw[if_pos h2]at h;exact absurd h h2
  ·rw[if_neg h2]at h ⊢;exact(z9U h).2
theorem zbZ {x:DevS}{s j i:Int}(h:(x.tfmt s j i).1=0):(x.tfmt s j i).2.cache=[]:=by
 unfold DevS.tfmt at h ⊢;by_cases h1:z0R x.stable.length s j i≠0
 ·rw[if_pos h1]at h;exact absurd h h1
 ·rw[if_neg h1]at h ⊢;by_cases h2:(x.jfmt 1 j).1≠0
  ·rw[if_pos h2]at h;exact absurd h h2
  ·rw[if_neg h2]at h ⊢;exact z8t h
theorem rg64:rgE 64 8 40=0:=by decide
theorem yA_clean:yA.Clean:=z9v (by decide) _
theorem z6E (w:World):Calls prog 38 #[] w fun e w'=>e=.returned (.agg #[.int .i64 64,.int .i64 8,.int .i64 40])∧Below w.heap.size w w':=by
 obtain⟨wA,hA⟩:∃wA,wA=w.alloc (.cells #[.int .i64 64,.int .i64 8,.int .i64 40] 23):=⟨_,rfl⟩;have bR:Blk wA w.heap.size 23 #[.int .i64 64,.int .i64 8,.int .i64 40]:=by rw[hA];exact(by (repeat' (first|(with_reducible assumption)|exact Blk.new' (by simp)|refine Blk.alloc ?_ _)))
 have BA:Below w.heap.size w wA:=by rw[hA];(repeat' (first|with_reducible (first|exact zho _ _|assumption|refine zhp ?_ ?_ _|refine zhq ?_|refine z00 ?_ _|refine zhr ?_ ?_ _|exact zhT _)|omega|(simp;done)|(simp;omega)))
 go_enter func38,ntmps38
 go_wp2_with fail
 rw[←hA];clear hA;have cF:=bR.cells;refine bodyPost_ret (v:=.agg #[.int .i64 64,.int .i64 8,.int .i64 40]) (by simp[results,results38,go_sem,cF]) rfl ?_
 exact⟨rfl,BA⟩
def zd6 (w:World)(e:Ending)(w':World):Prop:=
 ∃D T F B y,e=.returned (.tuple #[.pointer (some ⟨D,0,none⟩),.pointer (some ⟨T,0,none⟩)])∧Fresh y 64 8 40 1000000∧y.cache=[]∧Play w w' T F D yA B y
theorem zaj (w:World)(hH:HalfAt w):Calls prog 32 #[] w (zd6 w):=by
 obtain⟨y,hy,hF⟩:=z5b rg64 1000000 (by omega)
 rw[show ((64:Int).toNat)=64 from rfl]at hy
 have hcache:y.cache=[]:=by have h:=zbZ (x:=z1a 64) (s:=64) (j:=8) (i:=40) (by rw[hy]);rw[hy]at h;exact h
 obtain⟨hb1,hb2,hb3⟩:=z60 rg64 hF;have hnew:=zd9 64 (by omega) w hH
 have hp0:=hH.1;unfold zd6;go_enter func32,ntmps32
 go_wp2_with fail
 refine hnew.mono ?_;rintro e w1 ⟨D,B0,rfl,hd1,hw1,hB0⟩;clear hnew hH;go_wp2_with fail
 refine(z6E w1).mono ?_;rintro e w2 ⟨rfl,hb12⟩;have B2:=hw1.trans (hb12.mono hw1.size);have hd2:=hd1.below hb12;clear hd1 hw1 hb12;go_wp2_with fail
 refine(z5Q D 64 8 40 B0 (z1a 64) w2 hd2).mono ?_;rintro e w3 ⟨rfl,B,hd3,g3⟩;rw[hy]at hd3 ⊢;have B3:Below w.heap.size w w3:=B2.trans (g3.below B2.size hB0);have hBB:=g3.lo B2.size hB0;have Hb1:=zhs hb1;have Hb2:=zhs hb2;have HF:=zhs hF;have HC:=zhs hcache;clear hy hb1 hb2 hF hcache hd2 g3 B2 hB0;go_wp2_with fail
 refine(z6E w3).mono ?_;rintro e w4 ⟨rfl,hb4⟩;have B4:=B3.trans (hb4.mono B3.size);have hd4:=hd3.below hb4;clear hd3 B3 hb4;go_wp2_with fail
 refine(z6N D 64 8 40 B y w4 hd4 hb3).mono ?_;rintro e w5 ⟨hb5,E,hE,⟨h5,-⟩|⟨-,T,F,rfl,ht,hFF⟩⟩
 ·exact absurd ((Hb1.out E).1 hE) h5
 rw[Hb2.out]at ht;have B5:=B4.trans (hb5.mono B4.size);have hd5:=hd4.below hb5;have hlt:=hd4.lt;clear hb5 hE;go_wp2_with fail
 go_ret2
 exact⟨D,T,F,B,y,rfl,HF.out,HC.out,⟨⟨ht,hd5,fun b hb hm=>by have:=hFF b hb;have:=(hlt b hm).2;omega⟩,B5,fun b hb=>by have:=hFF b hb;have:=B4.size;omega,hBB⟩⟩
theorem zeY:z1V 64 8 40 yA.may=14∧z1V 64 8 40 kT2.may=11:=by decide +kernel
theorem kT1_clean:kT1.Clean:=yA_clean.take _ _
theorem z8K:kT2.Clean:=kT1_clean.write _ _ _
theorem z3V (w:World)(hH:HalfAt w):Calls prog 6 #[] w fun e w'=>e=.returned (.bool true)∧Below w.heap.size w w':=by
 have hbg:=zaj w hH;obtain⟨a1,a2,a3,a4,a5,a6,a7,a8,a9,-,-,a12,a13⟩:=zer;obtain⟨c1,c2⟩:=zeY;go_enter func6,ntmps6
 go_wp2_with fail
 refine hbg.mono ?_;rintro e w1 ⟨D,T,F1,B,x,rfl,hF,-,h1⟩;have hL:=hF.live;have f1:=z9O T F1 D yA w1 h1.td.tx rfl;rw[show z1V yA.s yA.j yA.i yA.may=14 from c1,a8]at f1
 clear hbg hH;go_wp2_with fail
 refine f1.mono ?_;rintro e w2 ⟨rfl,hb2⟩;have h2:=h1.below hb2;have f2:=z8u h2 12 3;rw[a1,a2]at f2;clear f1 hb2 h1;go_wp2_with fail
 refine f2.mono ?_;rintro e w3 ⟨A3,cc3,rfl,F3,h3,-,k3⟩;have f3:=z33 (y:=kT1) h3 50 8 ⟨#[97,98]⟩ (by omega) (by decide)
 rw[a3]at f3;clear f2 h2;go_wp2_with fail
 refine f3.mono ?_;rintro e w4 ⟨rfl,F4,h4,g4⟩;have k4:=k3.grow g4;have r4:kT2.read x 50=(8,⟨#[97,98]⟩,0):=by
  unfold TxS.read TxS.readR;rw[if_neg (by rw[a7];decide),if_neg (by decide),a4]
 have f4:=z5L (y:=kT2) h4 50;rw[r4]at f4;clear f3 h3 k3 g4;go_wp2_with fail
 refine f4.mono ?_;rintro e w5 ⟨rfl,hb5⟩;have h5:=Play.below (y:=kT2) h4 hb5;have k5:=k4.below hb5;have f5:=z9O T F4 D kT2 w5 h5.td.tx a7;rw[show z1V kT2.s kT2.j kT2.i kT2.may=11 from c2,a9]at f5
 clear f4 hb5 h4 k4 r4;go_wp2_with fail
 refine f5.mono ?_;rintro e w6 ⟨rfl,hb6⟩;have h6:=h5.below hb6;have k6:=k5.below hb6;obtain⟨x',hcm,hL',hw,-⟩:=zae (x:=x) (y:=kT2) (N:=1000) h6.td.tx.ok z8K (hL.mono (by omega)) (fun h=>by rw[a6]at h;cases h)
 have f6:=z9V (y:=kT2) h6 z8K a7 hcm;obtain⟨hr1,q,hr2⟩:=hw ⟨50,8,⟨#[97,98]⟩⟩ (by rw[a5];simp)
 clear f5 hb6 h5 k5 hw hL hF;go_wp2_with fail
 refine f6.mono ?_;rintro e w7 ⟨rfl,B7,h7,g7⟩;have k7:=k6.grow g7;clear f6 h6 k6 g7;go_wp2_with fail
 refine(z6E w7).mono ?_;rintro e w8 ⟨rfl,hb8⟩;have h8:=h7.below hb8;have k8:=k7.below hb8;have f8:=zbM h8 rg64 hL';clear h7 k7 hb8;go_wp2_with fail
 refine f8.mono ?_;rintro e w9 ⟨U,F9,rfl,h9,g9⟩;have k9:=k8.grow g9;replace h9:Play w w9 U F9 D kU B7 x':=h9
 have r9:kU.read x' 50=(8,⟨#[97,98]⟩,0):=by
  unfold TxS.read TxS.readR;rw[if_neg (by decide),if_neg (by decide),show kU.look 50=none from rfl]
  show ((x'.fr 50).kind,(x'.fr 50).data,x'.ge 50)=_
  rw[hr1,hr2]
 have HR:=zhs r9;clear f8 h8 k8 g9 hr1 hr2 r9 hcm hL';obtain⟨wS,hS⟩:∃wS,wS=w9.alloc (.cells #[.int .i64 12,.int .i64 13,.int .i64 0] 3):=⟨_,rfl⟩;have bS:Below w9.heap.size w9 wS:=by rw[hS];(repeat' (first|with_reducible (first|exact zho _ _|assumption|refine zhp ?_ ?_ _|refine zhq ?_|refine z00 ?_ _|refine zhr ?_ ?_ _|exact zhT _)|omega|(simp;done)|(simp;omega)))
 have rS:Reads wS (some ⟨w9.heap.size,0,none⟩) ([12,13,0].map (.int .i64)):=by
  have:=Blk.new w9 3 #[.int .i64 12,.int .i64 13,.int .i64 0]
  rw[←hS]at this;exact .inr ⟨_,0,rfl,this.lt,fun k u hu=>by rw[zi8];exact(this.cells k).trans (by simpa using hu)⟩
 have h10:=h9.below bS;have fS:Calls prog 39 #[.slice A3 3 cc3,.slice (some ⟨w9.heap.size,0,none⟩) 3 3] wS fun e w'=>e=.returned (.bool true)∧Below wS.heap.size wS w':=by
  simpa using z5k A3 (some ⟨w9.heap.size,0,none⟩) cc3 3 [12,13,0] [12,13,0] (by simp) (by simp) wS (k9.below bS).sl.reads rS
 have HS:=zhs hS;clear hS bS rS k9 h9;go_wp2_with fail
 rw[←HS.out];refine fS.mono ?_;rintro e w11 ⟨rfl,hb11⟩;have h11:=h10.below hb11;have f11:=z5L h11 50;rw[HR.out]at f11;clear fS HS hb11 h10;go_wp2_with fail
 refine f11.mono ?_;rintro e w12 ⟨rfl,hb12⟩;have h12:=h11.below hb12;have f12:=z33 h12 3 8 ⟨#[]⟩ (by omega) (by decide)
 rw[a12]at f12;clear f11 h11 hb12;go_wp2_with fail
 refine f12.mono ?_;rintro e w13 ⟨rfl,F13,h13,-⟩;have f13:=z96 h13 none 0 [] (by simp) Reads.nil
 rw[a13]at f13;clear f12 h12;go_wp2_with fail
 refine f13.mono ?_;rintro e w14 ⟨rfl,F14,h14,-⟩;have f14:=z7c h14 (by decide +kernel)
 clear f13 h13;go_wp2_with fail
 refine f14.mono ?_;rintro e w15 ⟨rfl,F15,h15,-⟩;have f15:=z65 U F15 D _ w15 h15.td.tx rfl;clear f14 h14;go_wp2_with fail
 refine f15.mono ?_;rintro e w16 ⟨rfl,rfl⟩;have B16:=h15.bl;clear f15 h15;go_wp2_with fail
 go_ret
 exact⟨rfl,B16⟩
structure Duo (w0 w:World)(PB T:Nat)(F:List Nat)(D:Nat)(B:List Nat)(y:TxS)(x:DevS)(tv:Array Value)(s j i:Int)(n:Nat):Prop where
 play:Play w0 w T F D y B x
 box:Blk w PB 52 (z0O D (.pointer (some ⟨T,0,none⟩)) tv s j i)
 ref:RTx w (Far (PB::(F++B))) x y tv
 pb:PB∉F++B
 p0:PB≠0
 po:w0.heap.size≤PB
 clean:y.Clean
 sound:z1d n x
 calm:x.Calm
 ys:y.s=s∧y.j=j∧y.i=i
section
variable {w0 w w':World}{PB T:Nat}{F:List Nat}{D:Nat}{B:List Nat}{y:TxS}{x:DevS}{tv:Array Value}{s j i:Int}{n:Nat}
theorem Duo.below (h:Duo w0 w PB T F D B y x tv s j i n)(hb:Below w.heap.size w w'):Duo w0 w' PB T F D B y x tv s j i n:=
 ⟨h.play.below hb,h.box.belowAll hb,h.ref.below hb,h.pb,h.p0,h.po,h.clean,h.sound,h.calm,h.ys⟩
theorem Duo.mid (h:Duo w0 w PB T F D B y x tv s j i n):Mid w w PB D F B B x x x (.pointer (some ⟨T,0,none⟩)) tv tv s j i:=
 ⟨h.play.td.dev,h.box,h.ref.size,h.ref.one,h.ref.sv,h.pb,h.p0,fun b hb=>⟨(h.play.td.tx.lt b hb).2,h.play.td.dis b hb⟩,Grow.refl _ _,fun _ h=>h,fun _ _ h=>h⟩
theorem Duo.los (h:Duo w0 w PB T F D B y x tv s j i n):∀b∈PB::(F++B),w0.heap.size≤b:=fun b hb=>by
 rcases List.mem_cons.1 hb with rfl|hb
 ·exact h.po
 ·exact(zi0.1 hb).elim (h.play.fl b) (h.play.bb b)
theorem Duo.again (h:Duo w0 w PB T F D B y x tv s j i n)(hrg:rgE s j i=0)(hn:(n:Int)=s):
  Calls prog 13 #[.pointer (some ⟨PB,0,none⟩)] w fun e w'=>e=.returned (.bool true)∧∃T' F' B' y' x' tv',Duo w0 w' PB T' F' D B' y' x' tv' s j i n:=by
 refine(z8S h.mid h.sound h.calm hrg hn).mono ?_;obtain⟨hs,hc⟩:=z3W h.sound h.calm hrg hn;rintro e w' ⟨rfl,B',tv',⟨E,hE,h0,m⟩|⟨hE,T',F',hd,hbx,ht,hF,hpb,hr,g⟩⟩
 ·have hl:=m.grow.lo h.play.bl.size h.los;exact⟨rfl,T,F,B',y,_,tv',⟨⟨m.tx T y h.play.td.tx,m.dev,fun b hb=>(m.fl b hb).2⟩,h.play.bl.trans (m.grow.below h.play.bl.size h.los),h.play.fl,fun b hb=>hl b (zhJ _ (zhI _ hb))⟩,m.box,m.old y h.ref,m.pb,h.p0,h.po,h.clean,hs,hc,h.ys⟩
 ·have hl:=g.lo h.play.bl.size h.los;have hj:=(z10 hrg).2.2.1;exact⟨rfl,T',F',B',_,_,tv',⟨⟨ht,hd,fun b hb=>(hF b hb).2⟩,h.play.bl.trans (g.below h.play.bl.size h.los),fun b hb=>hl b (zhJ _ (zhH _ hb)),fun b hb=>hl b (zhJ _ (zhI _ hb))⟩,hbx,hr,hpb,h.p0,h.po,z5j _ (by omega),hs,hc,⟨rfl,rfl,rfl⟩⟩
theorem z9s {B:List Nat}{z:DevS}{tv:Array Value}(m:Mid w w PB D [] B B z z z (.pointer none) tv tv s j i)(hs:z1d n z)(hc:z.Calm)(hrg:rgE s j i=0)(hn:(n:Int)=s)(hoff:z.off=false)(hb:∀E,z.beginE s j i E→E=0)(hw:Below w0.heap.size w0 w)(hpo:w0.heap.size≤PB)(hB:∀b∈B,w0.heap.size≤b):
  Calls prog 13 #[.pointer (some ⟨PB,0,none⟩)] w fun e w'=>e=.returned (.bool true)∧∃T' F' B' y' x' tv',Duo w0 w' PB T' F' D B' y' x' tv' s j i n:=by
 have hlo:∀b∈PB::([]++B),w0.heap.size≤b:=fun b hb=>by
  rcases List.mem_cons.1 hb with rfl|hb
  ·exact hpo
  ·exact hB b hb
 refine(z8S m hs hc hrg hn).mono ?_;have hp:z.power_ j=z:=by unfold DevS.power_;rw[hoff];rfl
 obtain⟨hs',hc'⟩:=z3W hs hc hrg hn;rintro e w' ⟨rfl,B',tv',⟨E,hE,h0,-⟩|⟨hE,T',F',hd,hbx,ht,hF,hpb,hr,g⟩⟩
 ·rw[hp]at hE;exact absurd (hb E hE) h0
 ·have hl:=g.lo hw.size hlo;have hj:=(z10 hrg).2.2.1;exact⟨rfl,T',F',B',_,_,tv',⟨⟨ht,hd,fun b hb=>(hF b hb).2⟩,hw.trans (g.below hw.size hlo),fun b hb=>hl b (zhJ _ (zhH _ hb)),fun b hb=>hl b (zhJ _ (zhI _ hb))⟩,hbx,hr,hpb,m.p0,hpo,z5j _ (by omega),hs',hc',⟨rfl,rfl,rfl⟩⟩
structure Half' (w0 w:World)(PB G T:Nat)(F:List Nat)(D:Nat)(B:List Nat)(y:TxS)(x:DevS)(tv tv2:Array Value)(s j i:Int)(n:Nat):Prop where
 play:Play w0 w T F D y B x
 box:Blk w PB 52 (z0O D (.pointer (some ⟨T,0,none⟩)) tv s j i)
 got:Blk w G 50 tv2
 ref:RTx w (Far (PB::(F++B))) x y tv2
 size:tv.size=25
 pb:PB∉F++B
 p0:PB≠0
 po:w0.heap.size≤PB
 clean:y.Clean
 sound:z1d n x
 calm:x.Calm
 ys:y.s=s∧y.j=j∧y.i=i
theorem Half'.put {G:Nat}{tv2:Array Value}(h:Half' w0 w PB G T F D B y x tv tv2 s j i n):
  (Instr.loadAt 50 (.pointer (some ⟨G,0,none⟩))).run prog w=.ok (.agg tv2) w∧(Instr.storeAt 50 (.pointer (some ⟨PB,2,none⟩)) (.agg tv2)).run prog w=.ok () (w.setRow PB (z0O D (.pointer (some ⟨T,0,none⟩)) tv2 s j i)) ∧
   Duo w0 (w.setRow PB (z0O D (.pointer (some ⟨T,0,none⟩)) tv2 s j i)) PB T F D B y x tv2 s j i n:=
 ⟨z0n h.got h.ref.size,z4V h.box h.size h.ref.size h.ref.one,h.play.row h.po h.pb h.p0 _,Blk.setRow h.box,h.ref.row (fun b hb e=>hb (by rw[e];exact zhK ..)) _,h.pb,h.p0,h.po,h.clean,h.sound,h.calm,h.ys⟩
def DevS.limR (x:DevS)(m:Int):Int × DevS:=if m < -1∨1000000000000<m then (7,x)else (0,x.limit m)
theorem zbv (h:z1d n x)(hc:x.Calm){m:Int}(hm:-1≤m):z1d n (x.limR m).2∧(x.limR m).2.Calm:=by
 unfold DevS.limR;split
 ·exact⟨h,hc⟩
 ·exact zak h hc (by omega)
theorem zeX (h:Play w0 w T F D y B x)(m:Int)(hm:-1≤m):Calls prog 19 #[.pointer (some ⟨D,0,none⟩),.int .i64 m] w fun e w'=>e=.returned (.int .i64 (x.limR m).1)∧Play w0 w' T F D y B (x.limR m).2∧Grow w (F++B) w' (F++B):=by
 unfold DevS.limR;by_cases hb:m≤1000000000000
 ·rw[if_neg (by omega)]
  obtain⟨S,c,M,cv,mm,hD,-⟩:=h.td.dev.mem;refine(zd1 D B x w h.td.dev m ⟨hm,hb⟩).mono ?_;rintro e w' ⟨he,rfl⟩;have g:Grow w B (w.setCell ⟨D,3,none⟩ (.int .i64 m)) B:=⟨KeepEx.setCell _ (.inl hD) _,fun b hb=>.inl hb⟩
  have gg:Grow w (F++B) (w.setCell ⟨D,3,none⟩ (.int .i64 m)) (F++B):=⟨KeepEx.setCell _ (.inl (zhI _ hD)) _,fun b hb=>.inl hb⟩
  exact⟨he,h.keep ⟨h.td.tx.grow g h.td.dis,h.td.dev.limit ⟨hm,hb⟩,h.td.dis⟩ gg,gg⟩
 ·rw[if_pos (by omega)]
  refine(zep D B x w h.td.dev m (by omega)).mono ?_
  rintro e w' ⟨he,rfl⟩;exact⟨he,h,Grow.refl _ _⟩
theorem zdx (hn:64≤n∧n≤256):Calls prog 8 #[.int .i64 n] w fun e w'=>∃sv,e=.returned (.tuple #[.agg sv,.int .i64 0])∧(∀P:Nat→Prop,(∀b,w.heap.size≤b→P b)→RSv w' P (z1a n) sv)∧Below w.heap.size w w':=by
 refine(zf3 n hn w).mono ?_;rintro e w' ⟨S,-,rfl,own,hb⟩;exact⟨_,rfl,fun P hP=>zg3 hn own hP,hb⟩
theorem z8r {B:List Nat}(h:DevAt w D B x):Calls prog 12 #[.pointer (some ⟨D,0,none⟩)] w fun e w'=>∃sv,e=.returned (.agg sv)∧RSv w' (fun _=>True) x sv∧Below w.heap.size w w':=by
 obtain⟨S,c,M,cv,m,-⟩:=h.mem;refine(zaO D S c M cv x h.ok w m).mono ?_;rintro e w' ⟨sv,cv,rfl,o1,o2,hb⟩;exact⟨_,rfl,zee h.ok o1 o2 fun _ _=>trivial,hb⟩
end
open Go.ChangeShapes Go.WideShapes Go.ChangeAt Go.Joins
theorem Tryz.own:ownKnob prog.godebug=none:=by kernel_rfl
theorem Tryz.laidOut:laidOutB prog=true:=by kernel_rfl
theorem gHalf : prog.globalNamed "limewash/sums.half" = some 0 := by kernel_rfl
def half1 : List (String × DataW Unit) := [("limewash/sums.half", Rows.laid_limewash_sums_half)]
theorem zfe (os:Os)(args:Array Value):laidMetH prog half1 ((World.doorLaid prog 400 os).forCall (fun _ _=>0) ⟨#[],args,[]⟩).memory:=
 laidMetH_of_parts3 (fuel:=8) (laidMet_of_run' 8 (by kernel_rfl) (by kernel_rfl)) (by kernel_rfl) (by kernel_rfl)
theorem gHalfType:(prog.globals[0]?).map (·.type)=some 332:=by kernel_rfl
theorem z8w {W:World}(h:laidMetH prog half1 W):HalfAt W:=by
 rw[MakeChecks.laidMetH_plain _ _ _ (by kernel_rfl)]at h
 have hT : Lib.TabIs prog W "limewash/sums.half" .u32 halfL := Lib.tabIs_of_head (n := 16) (e := 188) gHalf gHalfType (by kernel_rfl) (by kernel_rfl) (by kernel_rfl) (by kernel_rfl) h
 have hc:∀j,j<16→W.cell? ⟨0,j,none⟩=some (.int .u32 (halfL.getD j 0)):=fun j hj=>hT.cell gHalf j hj
 exact⟨block_lt_of_cell (hc 0 (by omega)),hc⟩
end Go.Proofs.YtejmknghkbobnaaGreatDoor
