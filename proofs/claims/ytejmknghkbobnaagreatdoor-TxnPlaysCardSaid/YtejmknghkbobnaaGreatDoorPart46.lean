import Derived.Test.YtejmknghkbobnaaGreatDoorPart00
import Derived.Test.YtejmknghkbobnaaGreatDoorPart45
import Derived.Test.YtejmknghkbobnaaGreatDoorPart43
import Derived.Test.YtejmknghkbobnaaGreatDoorPart30
set_option linter.unusedVariables false
set_option linter.unusedSimpArgs false
set_option maxRecDepth 100000
set_option maxHeartbeats 8000000
namespace Go.Proofs.YtejmknghkbobnaaGreatDoor
open Go.Proofs.Tryz
open Go.RowKit Go.Maps
theorem zgC (s j i:Int)(A B:Option Addr)(c d:Nat)(xs:List Bool)(w:World)(hx:Reads w A (xs.map .bool))(hy:Reads w B (xs.map .bool))(hn:xs.length≤1000):
  Calls prog 73 #[.agg #[.int .i64 s,.int .i64 j,.int .i64 i,.slice A xs.length c],.agg #[.int .i64 s,.int .i64 j,.int .i64 i,.slice B xs.length d]] w fun e w'=>
   e=.returned (.bool true)∧Below w.heap.size w w':=by
 have h:=zeG s j i s j i A B c d xs xs w hx hy (by unfold maxLen;omega) (by unfold maxLen;omega)
 exact h.mono fun e w' ⟨he,hb⟩=>⟨by rw[he];simp[z7P],hb⟩
theorem z1C {fn:Func}{m n R:Nat}{ty t:TypeId}{tmps:Array Value}{w:World}{cs:Array Value}{fr:Nat × Nat}{v:Value}{fs:_}(hr:fn.results=#[.cell m ty,.tmp n])(hm:tmps.getD m undef=.pointer (some ⟨R,0,none⟩))(hn:tmps.getD n undef=v)
  (hg:w.heap[R]?=some (.cells cs t fr)) (hu:prog.underlying ty=some (.struct fs)) (hi:(prog.info? ty).map (·.size)=some cs.size):
  (results fn tmps).run prog w=.ok (.tuple #[.agg cs,v]) w:=by
 have h:=run_loadVar_row (P:=prog) w R t ty cs fr _ hg hu rfl hi;have h1:(asAddr (.pointer (some ⟨R,0,none⟩))).run prog w=.ok ⟨R,0,none⟩ w:=rfl;have hm':tmps[m]?.getD undef=.pointer (some ⟨R,0,none⟩):=by simpa using hm
 have hn':tmps[n]?.getD undef=v:=by simpa using hn
 simp[results,hr,hm',hn',h1,h]
theorem zdA (tv:Value)(E:Int)(w:World)(h:StE w tv E)(hE:E≠0):
  Calls prog 33 #[tv] w fun e w'=>e=.returned (.tuple #[.int .i64 0,.int .i64 0,.int .i64 E])∧Below w.heap.size w w':=by
 have hst:=z19 tv E w h;have hE':(E != 0)=true:=by simpa using hE
 clear h hE;go_enter func33,ntmps33
 go_wp2_with fail
 refine hst.mono ?_;rintro e w1 ⟨rfl,hb1⟩;clear hst;go_wp2_with fail
 refine bodyPost_ret (v:=.tuple #[.int .i64 0,.int .i64 0,.int .i64 E]) (by simp[results,results33,go_sem]) rfl ?_
 exact⟨rfl,hb1⟩
def OnePost (w0 w:World)(PB T:Nat)(F:List Nat)(D:Nat)(y:TxS)(B:List Nat)(x:DevS)(e:Ending)(w':World):Prop:=
 ∃tv F',e=.returned (.tuple #[.agg tv,.bool true])∧Play w0 w' T F' D y B x∧Grow w (F++B) w' (F'++B)∧RTx w' (Far (PB::(F'++B))) x y tv
section
variable {w0 w:World}{T:Nat}{F:List Nat}{D:Nat}{y:TxS}{B:List Nat}{x:DevS}{tv:Array Value}{PB:Nat}
theorem Grow.put {w w1:World}{G G':List Nat}(g:Grow w G w1 G'){R:Nat}(hR:w.heap.size≤R)(cs:Array Value):Grow w G (w1.setRow R cs) G':=
 ⟨g.keep.trans (KeepEx.setRow _ (.inr hR) cs),g.new⟩
theorem Play.row (h:Play w0 w T F D y B x){R:Nat}(hR:w0.heap.size≤R)(hF:R∉F++B)(h0:R≠0)(cs:Array Value):Play w0 (w.setRow R cs) T F D y B x:=
 ⟨h.td.keep (fun b hb=>z0b w R b cs (fun e=>by subst e;rcases hb with hb|hb|hb;exact hF (zhH _ hb);exact hF (zhI _ hb);exact h0 hb)) (by simp),Below.setRow h.bl hR cs,h.fl,h.bb⟩
theorem Play.lts (h:Play w0 w T F D y B x):∀b∈F++B,0<b∧b<w.heap.size:=fun b hb=>(zi0.1 hb).elim (fun hb=>h.td.tx.lt b hb) (fun hb=>h.td.dev.lt b hb)
theorem OnePost.mk {w2 w3:World}{F':List Nat}{y':TxS}{tv':Array Value}{R:Nat}(h3:Play w0 w3 T F' D y' B x)(B2:Below w.heap.size w w2)(g3:Grow w2 (F++B) w3 (F'++B))(hq:RTx w3 (Far (R::PB::(F'++B))) x y' tv')(hw0:w0.heap.size≤w.heap.size)(h1:w.heap.size≤R)(h2:R<w2.heap.size)(hG:∀b∈F++B,0<b∧b<w.heap.size)(h0:0<w.heap.size):
  OnePost w0 w PB T F D y' B x (.returned (.tuple #[.agg tv',.bool true])) (w3.setRow R tv'):=
 ⟨tv',F',rfl,h3.row (by omega) (g3.notin (fun hm=>by have:=hG _ hm;omega) h2) (by omega) _,((Grow.of_below B2 _).trans g3).put h1 _,
  (hq.row (fun b hb e=>hb (by rw[e];exact zhK ..)) tv').mono fun b h1 _ hm=>h1 (zhJ _ hm)⟩
theorem z3c {w:World}{G:List Nat}{R:Nat}(hq:RTx w (Far G) x y tv)(hR:w.heap.size≤R):RTx w (Far (R::G)) x y tv:=hq.mono fun b h1 h2 hm=>by
 rcases List.mem_cons.1 hm with e|e
 ·omega
 ·exact h1 e
theorem zew {y:TxS}(ok:y.Ok)(near many:Int):(y.takeL near many).length≤1000:=by
 unfold TxS.takeL;split
 ·exact zi9 _
 ·split
  ·exact zi9 _
  ·rename_i h
   have h0:y.takeE near many=0:=by simpa using h
   unfold TxS.takeE at h0;split at h0
   ·rename_i h1;exact absurd h0 h1
   ·rename_i h1;exact(zaR ok (by simpa using h1)).2
def TxS.blk (y:TxS):(Int × Int × Int) × List Bool × Int:=if y.stateE≠0 then ((0,0,0),[],y.stateE)else ((y.s,y.j,y.i),y.now,0)
def TxS.rcs (y:TxS):List Rec × Int:=if y.stateE≠0 then ([],y.stateE)else (y.recs,0)
def z6I (y:TxS)(w:World)(e:Ending)(w':World):Prop:=
 ∃A c,e=.returned (.tuple #[.agg #[.int .i64 y.blk.1.1,.int .i64 y.blk.1.2.1,.int .i64 y.blk.1.2.2,.slice A y.blk.2.1.length c],.int .i64 y.blk.2.2])∧Reads w' A (y.blk.2.1.map .bool)∧Below w.heap.size w w'
def z6f (y:TxS)(w:World)(e:Ending)(w':World):Prop:=
 ∃A c,e=.returned (.tuple #[.slice A y.rcs.1.length c,.int .i64 y.rcs.2])∧RunAt w' A y.rcs.1∧Below w.heap.size w w'
theorem zfR (ok:y.Ok):y.blk.2.1.length≤1000:=by
 unfold TxS.blk;split
 ·exact zi9 _
 ·exact zhS (z7F ok) (by decide)
theorem zg8 (ok:y.Ok)(hc:y.Clean):y.rcs.1.length≤1000:=by
 unfold TxS.rcs;split
 ·exact zi9 _
 ·have:=z5G hc (i:=y.writes.length+1) (d:=true) (out:=y.recs) (.inl ⟨rfl,rfl⟩)
  have:=ok.len
  unfold TxS.left TxS.most at this;show y.recs.length≤1000
  split at this<;>omega
theorem zeP (w:World)(h:TxAt w T F D y):Calls prog 33 #[.pointer (some ⟨T,0,none⟩)] w fun e w'=>e=.returned (.tuple #[.int .i64 y.lefts.1,.int .i64 y.lefts.2.1,.int .i64 y.lefts.2.2])∧Below w.heap.size w w':=by
 unfold TxS.lefts;by_cases hE:y.stateE=0
 ·rw[if_neg (by simpa using hE)]
  exact z9O T F D y w h hE
 ·rw[if_pos hE];exact zdA _ _ w h.st hE
theorem zfU (w:World)(h:TxAt w T F D y):Calls prog 70 #[.pointer (some ⟨T,0,none⟩)] w (z6I y w):=by
 unfold z6I TxS.blk;by_cases hE:y.stateE=0
 ·rw[if_neg (by simpa using hE)]
  refine(zdD T F D y w h hE).mono ?_;rintro e w' ⟨v,rfl,ho,hb⟩;obtain⟨A,c,rfl⟩:=z0G ho;exact⟨A,c,rfl,Reads.of_own ho,hb⟩
 ·rw[if_pos hE];refine(zbe _ _ w h.st hE).mono ?_;rintro e w' ⟨rfl,hb⟩;exact⟨none,0,rfl,Reads.nil,hb⟩
theorem zeK {w:World}{P:Nat→Prop}(hq:RTx w P x y tv):Calls prog 71 #[.agg tv] w (z6I y w):=by
 unfold z6I TxS.blk;refine(zdF hq).mono ?_;rintro e w' ⟨hb,⟨hE,rfl⟩|⟨hE,A,c,rfl,hR⟩⟩
 ·rw[if_pos hE];exact⟨none,0,rfl,Reads.nil,hb⟩
 ·simp only[if_neg (show ¬y.stateE≠0 by simpa using hE)]
  exact⟨A,c,rfl,hR.below hb,hb⟩
theorem zgU (w:World)(h:TxAt w T F D y)(hc:y.Clean):Calls prog 64 #[.pointer (some ⟨T,0,none⟩)] w (z6f y w):=by
 unfold z6f TxS.rcs;by_cases hE:y.stateE=0
 ·rw[if_neg (by simpa using hE)]
  refine(z7A T F D y w h hc hE).mono ?_;rintro e w' ⟨v,rfl,ho,hb⟩;obtain⟨A,c,rfl⟩:=z0G ho;exact⟨A,c,rfl,Reads.of_own3 ho,hb⟩
 ·rw[if_pos hE];refine(z49 _ _ w h.st hE).mono ?_;rintro e w' ⟨rfl,hb⟩;exact⟨none,0,rfl,Reads.nil,hb⟩
theorem zgy {w:World}{P:Nat→Prop}(hq:RTx w P x y tv)(ok:y.Ok)(hc:y.Clean):Calls prog 72 #[.agg tv] w (z6f y w):=by
 unfold z6f TxS.rcs;refine(zcf hq ok hc).mono ?_;rintro e w' ⟨hb,⟨hE,rfl⟩|⟨hE,A,c,rfl,hR⟩⟩
 ·rw[if_pos hE];exact⟨none,0,rfl,Reads.nil,hb⟩
 ·rw[if_neg (by simpa using hE)]
  exact⟨A,c,rfl,Reads.of_own3 hR,hb⟩
theorem zhn (h:Play w0 w T F D y B x)(hPl:PB<w.heap.size)(hcl:y.Clean)(hcalm:x.Calm)(hq:RTx w (Far (PB::(F++B))) x y tv)(wh at_ kd n:Int)(s:ByteArray)(hwh:0≤wh)(sv:Value)(hw:wh % 9=0)(ha:-9223372036854775808≤at_∧at_≤9223372036854775807)(hs:s.size≤300):
  Calls prog 20 #[.pointer (some ⟨T,0,none⟩),.agg tv,.agg #[.int .u8 wh,.int .i64 at_,.int .i64 kd,.int .i64 n,.string s,sv]] w (OnePost w0 w PB T F D (y.write at_ kd s).2 B x):=by
 obtain⟨wA,hA⟩:∃wA,wA=((w.alloc (.cells tv 50)).alloc (.cells #[.int .u8 wh,.int .i64 at_,.int .i64 kd,.int .i64 n,.string s,sv] 55)).alloc (.cells txZ 50):=⟨_,rfl⟩;have bT:Blk wA w.heap.size 50 tv:=by rw[hA];exact((Blk.new _ _ _).alloc _).alloc _
 have bS:Blk wA (w.heap.size+1) 55 #[.int .u8 wh,.int .i64 at_,.int .i64 kd,.int .i64 n,.string s,sv]:=by rw[hA];exact(Blk.new' (by simp)).alloc _
 have bR:Blk wA (w.heap.size+1+1) 50 txZ:=by rw[hA];exact Blk.new' (by simp)
 have BA:Below w.heap.size w wA:=by rw[hA];(repeat' (first|with_reducible (first|exact zho _ _|assumption|refine zhp ?_ ?_ _|refine zhq ?_|refine z00 ?_ _|refine zhr ?_ ?_ _|exact zhT _)|omega|(simp;done)|(simp;omega)))
 have hp:=h.below BA;have HG:=zhs h.lts;have hG:=h.lts;have h00:=zhs h.td.dev.half.1;have HW0:=zhs h.size;have zR:=zhs bR.lt;have hQ:=(z3c hq (R:=w.heap.size+1+1) (by omega)).below BA
 have HN:∀b,wA.heap.size≤b→Far ((w.heap.size+1+1)::PB::(F++B)) b:=Far.new (by
  have:=BA.size;have:=bR.lt
  intro b hm;rcases List.mem_cons.1 hm with rfl|hm
  ·omega
  ·rcases List.mem_cons.1 hm with rfl|hm
   ·omega
   ·have:=hG b hm;omega)
 have HN:=zhs HN;have hsz:=hq.size;have hone:=hq.one;have ok:=h.td.tx.ok;have g1:wh.tmod 9=0:=by rw[←hw];exact zhV hwh
 unfold txZ txR at hA;clear hG hq h hwh hw;go_enter func20,ntmps20
 go_upto_region 1 with fail
 rw[←hA];clear hA;have cS:=bS.cells;have lS:=bS.lt;have hrw:=z82 hQ HN.out ok hcl at_ kd s (by unfold maxLen;omega)
 have hpw:=fun W (hW:Below wA.heap.size wA W)=>z33 (hp.below hW) at_ kd s ha (by omega)
 clear hQ ok hcl hcalm hs ha hp;generalize y.write at_ kd s=r at *;obtain⟨E,y'⟩:=r;simp only at hpw hrw ⊢
 have lT:=z0n bT hsz;go_upto_region 5 with fail
 go_wp2_with (refine z02 (by rfl) _ _ rfl (.agg tv) (.pointer (some ⟨w.heap.size,0,none⟩)) rfl lT ?_)
 refine hrw.mono ?_;rintro e w1 ⟨tv1,rfl,hq1,hb1⟩;simp only at hq1 ⊢
 clear hrw lT;have hsz1:=hq1.size;have hone1:=hq1.one;obtain⟨W2,hW2⟩:∃W2,W2=World.setRow (w1.alloc (.cells txZ 50)) w1.heap.size tv1:=⟨_,rfl⟩;have hst8:=z0v (Blk.new w1 50 txZ) rfl hsz1 hone1;have b8:Blk W2 w1.heap.size 50 tv1:=by rw[hW2];exact Blk.setRow (Blk.new _ _ _)
 have hb2:Below w1.heap.size w1 W2:=by rw[hW2];exact Below.setRow ((zho _ _).alloc (zhT _) _) (zhT _) _
 go_upto_region 6 with (refine z01 rfl _ _ _ rfl _ _ rfl rfl hst8 ?_)
 rw[←hW2];clear hW2 hst8;have hB2:=hb1.trans (hb2.mono hb1.size);have bS2:=bS.belowAll hB2;have bR2:=bR.belowAll hB2;have BB2:=BA.trans (hB2.mono BA.size);have hq2:=hq1.below hb2;have hz8:w.heap.size≤w1.heap.size:=zhS BA.size hb1.size;have hS:∀W,Grow W2 (F++B) W (F++B)→Blk W w1.heap.size 50 tv1∧W.cell? ⟨w.heap.size+1,1,none⟩=some (.int .i64 at_)∧W.cell? ⟨w.heap.size+1,2,none⟩=some (.int .i64 kd)∧W.cell? ⟨w.heap.size+1,4,none⟩=some (.string s):=fun W g=>by
  have b:=g.blk bS2 (fun hm=>by have:=HG.out _ hm;omega)
  exact⟨g.blk b8 (fun hm=>by have:=HG.out _ hm;omega),(b.cells 1).trans rfl,(b.cells 2).trans rfl,(b.cells 4).trans rfl⟩
 refine z06 [.take 0,.take 1,.take 2,.take 3,.take 4,.take 5,.take 6,.take 7,.take 9,.one 8,.take 10,.one 11,.one 12] 13 (fun W=>Blk W w1.heap.size 50 tv1∧W.cell? ⟨w.heap.size+1,1,none⟩=some (.int .i64 at_)∧W.cell? ⟨w.heap.size+1,2,none⟩=some (.int .i64 kd)∧W.cell? ⟨w.heap.size+1,4,none⟩=some (.string s)) (by kernel_rfl) (by kernel_rfl) (fun _ _ _ _ _ h=>h) (hS _ (Grow.of_below (zho _ _).drew _)) ?_
 simp only[zhY,zhZ,Ms.fill,zhy,zhz];refine z04 (by rfl) (.agg tv1) (fun w' hw'=>z0w 50 _ rfl rfl (z0n hw'.1 hsz1)) ?_
 (try simp only[Act.put,zht,zhu,zhv])
 iterate 7 (refine z04 (by rfl) ?_ (fun w' hw'=>?_) ?_;rotate_left;(focus (go_simp;(try with_reducible rfl)));(try simp only[Act.put,zht,zhu,zhv]))
 iterate 1 (refine z04 (by rfl) ?_ (fun w' hw'=>?_) ?_;rotate_left;(focus (go_simp;(try with_reducible rfl)));(try simp only[Act.put,zht,zhu,zhv]))
 refine z05 (by rfl) fun K hK=>?_
 go_simp;refine(hpw W2.drew (hB2.trans ((zho _ _).drew.mono hB2.size))).mono ?_;rintro e w3 ⟨rfl,F',h3,g3⟩;have g3':Grow W2 (F++B) w3 (F'++B):=(Grow.of_below (zho _ _).drew _).trans g3;have hS3:Grow W2 (F++B) w3 (F++B):=⟨g3'.keep,fun b hb=>.inl hb⟩
 refine hK _ _ (fun _=>hS _ hS3) ?_
 clear hK K hpw g3;have bR3:Blk w3 (w.heap.size+1+1) 50 txZ:=g3'.blk bR2 (fun hm=>by have:=HG.out _ hm;omega)
 have hst:=z0v bR3 rfl hsz1 hone1;have bR4:=bR3.setRow (cs':=tv1);have hq3:=hq2.grow ((g3'.cons_ PB).cons_ (w.heap.size+1+1));have hfin:=OnePost.mk h3 BB2 g3' hq3 HW0.out (by omega) (zhR zR.out hB2.size) HG.out h00.out
 iterate 1 (refine z04 (by rfl) ?_ (fun w' hw'=>?_) ?_;rotate_left;(focus (go_simp;(try with_reducible rfl)));(try simp only[Act.put,zht,zhu,zhv]))
 have bS3:=g3'.blk bS2 (fun hm=>by have:=HG.out _ hm;omega)
 have hSX:Blk (w3.setRow (w.heap.size+1+1) tv1) w1.heap.size 50 tv1∧(w3.setRow (w.heap.size+1+1) tv1).cell? ⟨w.heap.size+1,1,none⟩=some (.int .i64 at_)∧(w3.setRow (w.heap.size+1+1) tv1).cell? ⟨w.heap.size+1,2,none⟩=some (.int .i64 kd)∧(w3.setRow (w.heap.size+1+1) tv1).cell? ⟨w.heap.size+1,4,none⟩=some (.string s):=by
  have hz:=zR.out;have b:=(bS3.rowFar (cs':=tv1) (show w.heap.size+1≠w.heap.size+1+1 by omega)).cells
  exact⟨(hS _ hS3).1.rowFar (by have:=hb1.size;omega),(b 1).trans rfl,(b 2).trans rfl,(b 4).trans rfl⟩
 refine z05 (by rfl) fun K hK=>?_
 refine z0h _ _ _ rfl _ _ rfl rfl hst ?_;refine hK _ _ (fun _=>hSX) ?_
 clear hK K hst;(try simp only[Act.put,zht,zhu,zhv])
 refine z05 (by rfl) fun K hK=>?_
 go_simp;refine hK _ _ (fun _=>hSX) ?_
 clear hK K;refine z0f ?_;go_wp2_with fail
 refine bodyPost_ret (z1C (cs:=tv1) rfl rfl rfl bR4 underlying50 (by rw[hsz1];kernel_rfl)) rfl ?_
 exact hfin
theorem zhl (h:Play w0 w T F D y B x)(hPl:PB<w.heap.size)(hcl:y.Clean)(hcalm:x.Calm)(hq:RTx w (Far (PB::(F++B))) x y tv)(wh at_ kd n:Int)(s:ByteArray)(hwh:0≤wh)(sv:Value)(hw:wh % 9=1)(ha:-9223372036854775808≤at_∧at_≤9223372036854775807)(hs:s.size≤300):
  Calls prog 20 #[.pointer (some ⟨T,0,none⟩),.agg tv,.agg #[.int .u8 wh,.int .i64 at_,.int .i64 kd,.int .i64 n,.string s,sv]] w (OnePost w0 w PB T F D (y.write at_ kd s).2 B x):=by
 obtain⟨wA,hA⟩:∃wA,wA=((w.alloc (.cells tv 50)).alloc (.cells #[.int .u8 wh,.int .i64 at_,.int .i64 kd,.int .i64 n,.string s,sv] 55)).alloc (.cells txZ 50):=⟨_,rfl⟩;have bT:Blk wA w.heap.size 50 tv:=by rw[hA];exact((Blk.new _ _ _).alloc _).alloc _
 have bS:Blk wA (w.heap.size+1) 55 #[.int .u8 wh,.int .i64 at_,.int .i64 kd,.int .i64 n,.string s,sv]:=by rw[hA];exact(Blk.new' (by simp)).alloc _
 have bR:Blk wA (w.heap.size+1+1) 50 txZ:=by rw[hA];exact Blk.new' (by simp)
 have BA:Below w.heap.size w wA:=by rw[hA];(repeat' (first|with_reducible (first|exact zho _ _|assumption|refine zhp ?_ ?_ _|refine zhq ?_|refine z00 ?_ _|refine zhr ?_ ?_ _|exact zhT _)|omega|(simp;done)|(simp;omega)))
 have hp:=h.below BA;have HG:=zhs h.lts;have hG:=h.lts;have h00:=zhs h.td.dev.half.1;have HW0:=zhs h.size;have zR:=zhs bR.lt;have hQ:=(z3c hq (R:=w.heap.size+1+1) (by omega)).below BA
 have HN:∀b,wA.heap.size≤b→Far ((w.heap.size+1+1)::PB::(F++B)) b:=Far.new (by
  have:=BA.size;have:=bR.lt
  intro b hm;rcases List.mem_cons.1 hm with rfl|hm
  ·omega
  ·rcases List.mem_cons.1 hm with rfl|hm
   ·omega
   ·have:=hG b hm;omega)
 have HN:=zhs HN;have hsz:=hq.size;have hone:=hq.one;have ok:=h.td.tx.ok;have g1:wh.tmod 9=1:=by rw[←hw];exact zhV hwh
 unfold txZ txR at hA;clear hG hq h hwh hw;go_enter func20,ntmps20
 go_upto_region 1 with fail
 rw[←hA];clear hA;have cS:=bS.cells;have lS:=bS.lt;have hrw:=z82 hQ HN.out ok hcl at_ kd s (by unfold maxLen;omega)
 have hpw:=fun W (hW:Below wA.heap.size wA W)=>z33 (hp.below hW) at_ kd s ha (by omega)
 clear hQ ok hcl hcalm hs ha hp;generalize y.write at_ kd s=r at *;obtain⟨E,y'⟩:=r;simp only at hpw hrw ⊢
 have lT:=z0n bT hsz;go_upto_region 5 with fail
 go_wp2_with (refine z02 (by rfl) _ _ rfl (.agg tv) (.pointer (some ⟨w.heap.size,0,none⟩)) rfl lT ?_)
 refine hrw.mono ?_;rintro e w1 ⟨tv1,rfl,hq1,hb1⟩;simp only at hq1 ⊢
 clear hrw lT;have hsz1:=hq1.size;have hone1:=hq1.one;obtain⟨W2,hW2⟩:∃W2,W2=World.setRow (w1.alloc (.cells txZ 50)) w1.heap.size tv1:=⟨_,rfl⟩;have hst8:=z0v (Blk.new w1 50 txZ) rfl hsz1 hone1;have b8:Blk W2 w1.heap.size 50 tv1:=by rw[hW2];exact Blk.setRow (Blk.new _ _ _)
 have hb2:Below w1.heap.size w1 W2:=by rw[hW2];exact Below.setRow ((zho _ _).alloc (zhT _) _) (zhT _) _
 go_upto_region 6 with (refine z01 rfl _ _ _ rfl _ _ rfl rfl hst8 ?_)
 rw[←hW2];clear hW2 hst8;have hB2:=hb1.trans (hb2.mono hb1.size);have bS2:=bS.belowAll hB2;have bR2:=bR.belowAll hB2;have BB2:=BA.trans (hB2.mono BA.size);have hq2:=hq1.below hb2;have hz8:w.heap.size≤w1.heap.size:=zhS BA.size hb1.size;have hS:∀W,Grow W2 (F++B) W (F++B)→Blk W w1.heap.size 50 tv1∧W.cell? ⟨w.heap.size+1,1,none⟩=some (.int .i64 at_)∧W.cell? ⟨w.heap.size+1,2,none⟩=some (.int .i64 kd)∧W.cell? ⟨w.heap.size+1,4,none⟩=some (.string s):=fun W g=>by
  have b:=g.blk bS2 (fun hm=>by have:=HG.out _ hm;omega)
  exact⟨g.blk b8 (fun hm=>by have:=HG.out _ hm;omega),(b.cells 1).trans rfl,(b.cells 2).trans rfl,(b.cells 4).trans rfl⟩
 refine z06 [.take 0,.take 1,.take 2,.take 3,.take 4,.take 5,.take 6,.take 7,.take 9,.one 8,.take 10,.one 11,.one 12] 13 (fun W=>Blk W w1.heap.size 50 tv1∧W.cell? ⟨w.heap.size+1,1,none⟩=some (.int .i64 at_)∧W.cell? ⟨w.heap.size+1,2,none⟩=some (.int .i64 kd)∧W.cell? ⟨w.heap.size+1,4,none⟩=some (.string s)) (by kernel_rfl) (by kernel_rfl) (fun _ _ _ _ _ h=>h) (hS _ (Grow.of_below (zho _ _).drew _)) ?_
 simp only[zhY,zhZ,Ms.fill,zhy,zhz];refine z04 (by rfl) (.agg tv1) (fun w' hw'=>z0w 50 _ rfl rfl (z0n hw'.1 hsz1)) ?_
 (try simp only[Act.put,zht,zhu,zhv])
 iterate 7 (refine z04 (by rfl) ?_ (fun w' hw'=>?_) ?_;rotate_left;(focus (go_simp;(try with_reducible rfl)));(try simp only[Act.put,zht,zhu,zhv]))
 iterate 1 (refine z04 (by rfl) ?_ (fun w' hw'=>?_) ?_;rotate_left;(focus (go_simp;(try with_reducible rfl)));(try simp only[Act.put,zht,zhu,zhv]))
 refine z05 (by rfl) fun K hK=>?_
 go_simp;refine(hpw W2.drew (hB2.trans ((zho _ _).drew.mono hB2.size))).mono ?_;rintro e w3 ⟨rfl,F',h3,g3⟩;have g3':Grow W2 (F++B) w3 (F'++B):=(Grow.of_below (zho _ _).drew _).trans g3;have hS3:Grow W2 (F++B) w3 (F++B):=⟨g3'.keep,fun b hb=>.inl hb⟩
 refine hK _ _ (fun _=>hS _ hS3) ?_
 clear hK K hpw g3;have bR3:Blk w3 (w.heap.size+1+1) 50 txZ:=g3'.blk bR2 (fun hm=>by have:=HG.out _ hm;omega)
 have hst:=z0v bR3 rfl hsz1 hone1;have bR4:=bR3.setRow (cs':=tv1);have hq3:=hq2.grow ((g3'.cons_ PB).cons_ (w.heap.size+1+1));have hfin:=OnePost.mk h3 BB2 g3' hq3 HW0.out (by omega) (zhR zR.out hB2.size) HG.out h00.out
 iterate 1 (refine z04 (by rfl) ?_ (fun w' hw'=>?_) ?_;rotate_left;(focus (go_simp;(try with_reducible rfl)));(try simp only[Act.put,zht,zhu,zhv]))
 have bS3:=g3'.blk bS2 (fun hm=>by have:=HG.out _ hm;omega)
 have hSX:Blk (w3.setRow (w.heap.size+1+1) tv1) w1.heap.size 50 tv1∧(w3.setRow (w.heap.size+1+1) tv1).cell? ⟨w.heap.size+1,1,none⟩=some (.int .i64 at_)∧(w3.setRow (w.heap.size+1+1) tv1).cell? ⟨w.heap.size+1,2,none⟩=some (.int .i64 kd)∧(w3.setRow (w.heap.size+1+1) tv1).cell? ⟨w.heap.size+1,4,none⟩=some (.string s):=by
  have hz:=zR.out;have b:=(bS3.rowFar (cs':=tv1) (show w.heap.size+1≠w.heap.size+1+1 by omega)).cells
  exact⟨(hS _ hS3).1.rowFar (by have:=hb1.size;omega),(b 1).trans rfl,(b 2).trans rfl,(b 4).trans rfl⟩
 refine z05 (by rfl) fun K hK=>?_
 refine z0h _ _ _ rfl _ _ rfl rfl hst ?_;refine hK _ _ (fun _=>hSX) ?_
 clear hK K hst;(try simp only[Act.put,zht,zhu,zhv])
 refine z05 (by rfl) fun K hK=>?_
 go_simp;refine hK _ _ (fun _=>hSX) ?_
 clear hK K;refine z0f ?_;go_wp2_with fail
 refine bodyPost_ret (z1C (cs:=tv1) rfl rfl rfl bR4 underlying50 (by rw[hsz1];kernel_rfl)) rfl ?_
 exact hfin
theorem zh9 (h:Play w0 w T F D y B x)(hPl:PB<w.heap.size)(hcl:y.Clean)(hcalm:x.Calm)(hq:RTx w (Far (PB::(F++B))) x y tv)(wh at_ kd n:Int)(s:ByteArray)(hwh:0≤wh)(sv:Value)(hw:wh % 9=2)(ha:-9223372036854775808≤at_∧at_≤9223372036854775807)(hs:s.size≤300):
  Calls prog 20 #[.pointer (some ⟨T,0,none⟩),.agg tv,.agg #[.int .u8 wh,.int .i64 at_,.int .i64 kd,.int .i64 n,.string s,sv]] w (OnePost w0 w PB T F D (y.write at_ kd s).2 B x):=by
 obtain⟨wA,hA⟩:∃wA,wA=((w.alloc (.cells tv 50)).alloc (.cells #[.int .u8 wh,.int .i64 at_,.int .i64 kd,.int .i64 n,.string s,sv] 55)).alloc (.cells txZ 50):=⟨_,rfl⟩;have bT:Blk wA w.heap.size 50 tv:=by rw[hA];exact((Blk.new _ _ _).alloc _).alloc _
 have bS:Blk wA (w.heap.size+1) 55 #[.int .u8 wh,.int .i64 at_,.int .i64 kd,.int .i64 n,.string s,sv]:=by rw[hA];exact(Blk.new' (by simp)).alloc _
 have bR:Blk wA (w.heap.size+1+1) 50 txZ:=by rw[hA];exact Blk.new' (by simp)
 have BA:Below w.heap.size w wA:=by rw[hA];(repeat' (first|with_reducible (first|exact zho _ _|assumption|refine zhp ?_ ?_ _|refine zhq ?_|refine z00 ?_ _|refine zhr ?_ ?_ _|exact zhT _)|omega|(simp;done)|(simp;omega)))
 have hp:=h.below BA;have HG:=zhs h.lts;have hG:=h.lts;have h00:=zhs h.td.dev.half.1;have HW0:=zhs h.size;have zR:=zhs bR.lt;have hQ:=(z3c hq (R:=w.heap.size+1+1) (by omega)).below BA
 have HN:∀b,wA.heap.size≤b→Far ((w.heap.size+1+1)::PB::(F++B)) b:=Far.new (by
  have:=BA.size;have:=bR.lt
  intro b hm;rcases List.mem_cons.1 hm with rfl|hm
  ·omega
  ·rcases List.mem_cons.1 hm with rfl|hm
   ·omega
   ·have:=hG b hm;omega)
 have HN:=zhs HN;have hsz:=hq.size;have hone:=hq.one;have ok:=h.td.tx.ok;have g1:wh.tmod 9=2:=by rw[←hw];exact zhV hwh
 unfold txZ txR at hA;clear hG hq h hwh hw;go_enter func20,ntmps20
 go_upto_region 1 with fail
 rw[←hA];clear hA;have cS:=bS.cells;have lS:=bS.lt;have hrw:=z82 hQ HN.out ok hcl at_ kd s (by unfold maxLen;omega)
 have hpw:=fun W (hW:Below wA.heap.size wA W)=>z33 (hp.below hW) at_ kd s ha (by omega)
 clear hQ ok hcl hcalm hs ha hp;generalize y.write at_ kd s=r at *;obtain⟨E,y'⟩:=r;simp only at hpw hrw ⊢
 have lT:=z0n bT hsz;go_upto_region 5 with fail
 go_wp2_with (refine z02 (by rfl) _ _ rfl (.agg tv) (.pointer (some ⟨w.heap.size,0,none⟩)) rfl lT ?_)
 refine hrw.mono ?_;rintro e w1 ⟨tv1,rfl,hq1,hb1⟩;simp only at hq1 ⊢
 clear hrw lT;have hsz1:=hq1.size;have hone1:=hq1.one;obtain⟨W2,hW2⟩:∃W2,W2=World.setRow (w1.alloc (.cells txZ 50)) w1.heap.size tv1:=⟨_,rfl⟩;have hst8:=z0v (Blk.new w1 50 txZ) rfl hsz1 hone1;have b8:Blk W2 w1.heap.size 50 tv1:=by rw[hW2];exact Blk.setRow (Blk.new _ _ _)
 have hb2:Below w1.heap.size w1 W2:=by rw[hW2];exact Below.setRow ((zho _ _).alloc (zhT _) _) (zhT _) _
 go_upto_region 6 with (refine z01 rfl _ _ _ rfl _ _ rfl rfl hst8 ?_)
 rw[←hW2];clear hW2 hst8;have hB2:=hb1.trans (hb2.mono hb1.size);have bS2:=bS.belowAll hB2;have bR2:=bR.belowAll hB2;have BB2:=BA.trans (hB2.mono BA.size);have hq2:=hq1.below hb2;have hz8:w.heap.size≤w1.heap.size:=zhS BA.size hb1.size;have hS:∀W,Grow W2 (F++B) W (F++B)→Blk W w1.heap.size 50 tv1∧W.cell? ⟨w.heap.size+1,1,none⟩=some (.int .i64 at_)∧W.cell? ⟨w.heap.size+1,2,none⟩=some (.int .i64 kd)∧W.cell? ⟨w.heap.size+1,4,none⟩=some (.string s):=fun W g=>by
  have b:=g.blk bS2 (fun hm=>by have:=HG.out _ hm;omega)
  exact⟨g.blk b8 (fun hm=>by have:=HG.out _ hm;omega),(b.cells 1).trans rfl,(b.cells 2).trans rfl,(b.cells 4).trans rfl⟩
 refine z06 [.take 0,.take 1,.take 2,.take 3,.take 4,.take 5,.take 6,.take 7,.take 9,.one 8,.take 10,.one 11,.one 12] 13 (fun W=>Blk W w1.heap.size 50 tv1∧W.cell? ⟨w.heap.size+1,1,none⟩=some (.int .i64 at_)∧W.cell? ⟨w.heap.size+1,2,none⟩=some (.int .i64 kd)∧W.cell? ⟨w.heap.size+1,4,none⟩=some (.string s)) (by kernel_rfl) (by kernel_rfl) (fun _ _ _ _ _ h=>h) (hS _ (Grow.of_below (zho _ _).drew _)) ?_
 simp only[zhY,zhZ,Ms.fill,zhy,zhz];refine z04 (by rfl) (.agg tv1) (fun w' hw'=>z0w 50 _ rfl rfl (z0n hw'.1 hsz1)) ?_
 (try simp only[Act.put,zht,zhu,zhv])
 iterate 7 (refine z04 (by rfl) ?_ (fun w' hw'=>?_) ?_;rotate_left;(focus (go_simp;(try with_reducible rfl)));(try simp only[Act.put,zht,zhu,zhv]))
 iterate 1 (refine z04 (by rfl) ?_ (fun w' hw'=>?_) ?_;rotate_left;(focus (go_simp;(try with_reducible rfl)));(try simp only[Act.put,zht,zhu,zhv]))
 refine z05 (by rfl) fun K hK=>?_
 go_simp;refine(hpw W2.drew (hB2.trans ((zho _ _).drew.mono hB2.size))).mono ?_;rintro e w3 ⟨rfl,F',h3,g3⟩;have g3':Grow W2 (F++B) w3 (F'++B):=(Grow.of_below (zho _ _).drew _).trans g3;have hS3:Grow W2 (F++B) w3 (F++B):=⟨g3'.keep,fun b hb=>.inl hb⟩
 refine hK _ _ (fun _=>hS _ hS3) ?_
 clear hK K hpw g3;have bR3:Blk w3 (w.heap.size+1+1) 50 txZ:=g3'.blk bR2 (fun hm=>by have:=HG.out _ hm;omega)
 have hst:=z0v bR3 rfl hsz1 hone1;have bR4:=bR3.setRow (cs':=tv1);have hq3:=hq2.grow ((g3'.cons_ PB).cons_ (w.heap.size+1+1));have hfin:=OnePost.mk h3 BB2 g3' hq3 HW0.out (by omega) (zhR zR.out hB2.size) HG.out h00.out
 iterate 1 (refine z04 (by rfl) ?_ (fun w' hw'=>?_) ?_;rotate_left;(focus (go_simp;(try with_reducible rfl)));(try simp only[Act.put,zht,zhu,zhv]))
 have bS3:=g3'.blk bS2 (fun hm=>by have:=HG.out _ hm;omega)
 have hSX:Blk (w3.setRow (w.heap.size+1+1) tv1) w1.heap.size 50 tv1∧(w3.setRow (w.heap.size+1+1) tv1).cell? ⟨w.heap.size+1,1,none⟩=some (.int .i64 at_)∧(w3.setRow (w.heap.size+1+1) tv1).cell? ⟨w.heap.size+1,2,none⟩=some (.int .i64 kd)∧(w3.setRow (w.heap.size+1+1) tv1).cell? ⟨w.heap.size+1,4,none⟩=some (.string s):=by
  have hz:=zR.out;have b:=(bS3.rowFar (cs':=tv1) (show w.heap.size+1≠w.heap.size+1+1 by omega)).cells
  exact⟨(hS _ hS3).1.rowFar (by have:=hb1.size;omega),(b 1).trans rfl,(b 2).trans rfl,(b 4).trans rfl⟩
 refine z05 (by rfl) fun K hK=>?_
 refine z0h _ _ _ rfl _ _ rfl rfl hst ?_;refine hK _ _ (fun _=>hSX) ?_
 clear hK K hst;(try simp only[Act.put,zht,zhu,zhv])
 refine z05 (by rfl) fun K hK=>?_
 go_simp;refine hK _ _ (fun _=>hSX) ?_
 clear hK K;refine z0f ?_;go_wp2_with fail
 refine bodyPost_ret (z1C (cs:=tv1) rfl rfl rfl bR4 underlying50 (by rw[hsz1];kernel_rfl)) rfl ?_
 exact hfin
theorem zhe (h:Play w0 w T F D y B x)(hPl:PB<w.heap.size)(hcl:y.Clean)(hcalm:x.Calm)(hq:RTx w (Far (PB::(F++B))) x y tv)(wh at_ kd n:Int)(s:ByteArray)(hwh:0≤wh)(sv:Value)(hw:wh % 9=3):
  Calls prog 20 #[.pointer (some ⟨T,0,none⟩),.agg tv,.agg #[.int .u8 wh,.int .i64 at_,.int .i64 kd,.int .i64 n,.string s,sv]] w (OnePost w0 w PB T F D y B x):=by
 obtain⟨wA,hA⟩:∃wA,wA=((w.alloc (.cells tv 50)).alloc (.cells #[.int .u8 wh,.int .i64 at_,.int .i64 kd,.int .i64 n,.string s,sv] 55)).alloc (.cells txZ 50):=⟨_,rfl⟩;have bT:Blk wA w.heap.size 50 tv:=by rw[hA];exact((Blk.new _ _ _).alloc _).alloc _
 have bS:Blk wA (w.heap.size+1) 55 #[.int .u8 wh,.int .i64 at_,.int .i64 kd,.int .i64 n,.string s,sv]:=by rw[hA];exact(Blk.new' (by simp)).alloc _
 have bR:Blk wA (w.heap.size+1+1) 50 txZ:=by rw[hA];exact Blk.new' (by simp)
 have BA:Below w.heap.size w wA:=by rw[hA];(repeat' (first|with_reducible (first|exact zho _ _|assumption|refine zhp ?_ ?_ _|refine zhq ?_|refine z00 ?_ _|refine zhr ?_ ?_ _|exact zhT _)|omega|(simp;done)|(simp;omega)))
 have hp:=h.below BA;have HG:=zhs h.lts;have hG:=h.lts;have h00:=zhs h.td.dev.half.1;have HW0:=zhs h.size;have zR:=zhs bR.lt;have hQ:=(z3c hq (R:=w.heap.size+1+1) (by omega)).below BA
 have HN:∀b,wA.heap.size≤b→Far ((w.heap.size+1+1)::PB::(F++B)) b:=Far.new (by
  have:=BA.size;have:=bR.lt
  intro b hm;rcases List.mem_cons.1 hm with rfl|hm
  ·omega
  ·rcases List.mem_cons.1 hm with rfl|hm
   ·omega
   ·have:=hG b hm;omega)
 have HN:=zhs HN;have hsz:=hq.size;have hone:=hq.one;have ok:=h.td.tx.ok;have g1:wh.tmod 9=3:=by rw[←hw];exact zhV hwh
 unfold txZ txR at hA;clear hG hq h hwh hw;go_enter func20,ntmps20
 go_upto_region 1 with fail
 rw[←hA];clear hA;have cS:=bS.cells;have lS:=bS.lt;have hpr:=z5L hp at_;have hrr:=fun W (hW:Below wA.heap.size wA W)=>zgk (hQ.below hW) hcalm ok hcl at_
 have HQ:=zhs hQ;have HP:=zhs hp;clear hQ ok hcl hcalm hp;unfold z2t at hrr;generalize y.read x at_=r at *;obtain⟨k,d,E⟩:=r;simp only at hpr hrr
 have lT:=z0n bT hsz;go_upto_region 8 with fail
 go_wp2_with fail
 refine hpr.mono ?_;rintro e w1 ⟨rfl,hb1⟩;have bT1:=bT.belowAll hb1;have bS1:=bS.belowAll hb1;have bR1:=bR.belowAll hb1;have cS:=bS1.cells;have lS:=bS1.lt;have lT:=z0n bT1 hsz;go_wp2_with (refine z02 (by rfl) _ _ rfl (.agg tv) (.pointer (some ⟨w.heap.size,0,none⟩)) rfl lT ?_)
 refine(hrr w1 hb1).mono ?_;rintro e w2 ⟨rfl,hb2⟩;have hb3:=hb1.trans (hb2.mono hb1.size);have bT2:=bT.belowAll hb3;have bR2:=bR.belowAll hb3;have B2:=BA.trans (hb3.mono BA.size);have lT:=z0n bT2 hsz;have hst:=z0v bR2 rfl hsz hone;have bR4:=bR2.setRow (cs':=tv);have hfin:=OnePost.mk (HP.out.below hb3) B2 (Grow.refl _ _) (HQ.out.below hb3) HW0.out (by omega) bR2.lt HG.out h00.out
 clear hrr hpr bT bS bR bT1 bS1 bR1 BA hb1 hb2;go_wp2_with (first|(refine z02 (by rfl) _ _ rfl (.agg tv) (.pointer (some ⟨w.heap.size,0,none⟩)) rfl lT ?_)|(refine z01 rfl _ _ _ rfl _ _ rfl rfl hst ?_))
 refine bodyPost_ret (z1C (cs:=tv) rfl rfl rfl bR4 underlying50 (by rw[hsz];kernel_rfl)) rfl ?_
 exact hfin
theorem zhg (h:Play w0 w T F D y B x)(hPl:PB<w.heap.size)(hcl:y.Clean)(hcalm:x.Calm)(hq:RTx w (Far (PB::(F++B))) x y tv)(wh at_ kd n:Int)(s:ByteArray)(hwh:0≤wh)(sv:Value)(hw:wh % 9=4):
  Calls prog 20 #[.pointer (some ⟨T,0,none⟩),.agg tv,.agg #[.int .u8 wh,.int .i64 at_,.int .i64 kd,.int .i64 n,.string s,sv]] w (OnePost w0 w PB T F D (y.take at_ n).2 B x):=by
 obtain⟨wA,hA⟩:∃wA,wA=((w.alloc (.cells tv 50)).alloc (.cells #[.int .u8 wh,.int .i64 at_,.int .i64 kd,.int .i64 n,.string s,sv] 55)).alloc (.cells txZ 50):=⟨_,rfl⟩;have bT:Blk wA w.heap.size 50 tv:=by rw[hA];exact((Blk.new _ _ _).alloc _).alloc _
 have bS:Blk wA (w.heap.size+1) 55 #[.int .u8 wh,.int .i64 at_,.int .i64 kd,.int .i64 n,.string s,sv]:=by rw[hA];exact(Blk.new' (by simp)).alloc _
 have bR:Blk wA (w.heap.size+1+1) 50 txZ:=by rw[hA];exact Blk.new' (by simp)
 have BA:Below w.heap.size w wA:=by rw[hA];(repeat' (first|with_reducible (first|exact zho _ _|assumption|refine zhp ?_ ?_ _|refine zhq ?_|refine z00 ?_ _|refine zhr ?_ ?_ _|exact zhT _)|omega|(simp;done)|(simp;omega)))
 have hp:=h.below BA;have HG:=zhs h.lts;have hG:=h.lts;have h00:=zhs h.td.dev.half.1;have HW0:=zhs h.size;have zR:=zhs bR.lt;have hQ:=(z3c hq (R:=w.heap.size+1+1) (by omega)).below BA
 have HN:∀b,wA.heap.size≤b→Far ((w.heap.size+1+1)::PB::(F++B)) b:=Far.new (by
  have:=BA.size;have:=bR.lt
  intro b hm;rcases List.mem_cons.1 hm with rfl|hm
  ·omega
  ·rcases List.mem_cons.1 hm with rfl|hm
   ·omega
   ·have:=hG b hm;omega)
 have HN:=zhs HN;have hsz:=hq.size;have hone:=hq.one;have ok:=h.td.tx.ok;have g1:wh.tmod 9=4:=by rw[←hw];exact zhV hwh
 unfold txZ txR at hA;clear hG hq h hwh hw;go_enter func20,ntmps20
 go_upto_region 1 with fail
 rw[←hA];clear hA;have cS:=bS.cells;have lS:=bS.lt;have hpr:=z8u hp at_ n;have hrr:=fun (W:World) (P:Nat→Prop) (hq:RTx W P x y tv) (hP:∀b,W.heap.size≤b→P b)=>zfZ hq hP ok hcl at_ n
 have HQ:=zhs hQ;have hLl:(y.takeL at_ n).length≤1000:=zew ok at_ n;clear hQ ok hcl hcalm hp;unfold RTake at hrr;generalize y.takeL at_ n=L at *;generalize y.take at_ n=r at *;obtain⟨E,y'⟩:=r;simp only at hpr hrr ⊢
 have lT:=z0n bT hsz;go_upto_region 12 with fail
 go_wp2_with fail
 refine hpr.mono ?_;rintro e w1 ⟨A1,c1,rfl,F',h1,g1',hk1⟩;clear hpr;have bT1:=g1'.blk bT (fun hm=>by have:=HG.out _ hm;omega)
 have bS1:=g1'.blk bS (fun hm=>by have:=HG.out _ hm;omega)
 have bR1:=g1'.blk bR (fun hm=>by have:=HG.out _ hm;omega)
 have hQ1:=HQ.out.grow ((g1'.cons_ PB).cons_ (w.heap.size+1+1));have hN1:∀b,w1.heap.size≤b→Far ((w.heap.size+1+1)::PB::(F'++B)) b:=Far.new (by
  have:=BA.size;have:=bR1.lt;have:=g1'.keep.size
  intro b hm;rcases List.mem_cons.1 hm with rfl|hm
  ·omega
  ·rcases List.mem_cons.1 hm with rfl|hm
   ·omega
   ·exact(h1.lts b hm).2)
 have hrt:=hrr w1 _ hQ1 hN1;have cS:=bS1.cells;have lS:=bS1.lt;have lT:=z0n bT1 hsz;clear hrr hN1 bT bS bR;go_wp2_with (refine z02 (by rfl) _ _ rfl (.agg tv) (.pointer (some ⟨w.heap.size,0,none⟩)) rfl lT ?_)
 refine hrt.mono ?_;rintro e w3 ⟨tv1,A3,c3,rfl,hq3,hR3,hb3⟩;simp only at hq3 ⊢
 clear hrt lT;have hsz1:=hq3.size;have hone1:=hq3.one;obtain⟨W2,hW2⟩:∃W2,W2=World.setRow (w3.alloc (.cells txZ 50)) w3.heap.size tv1:=⟨_,rfl⟩;have hst8:=z0v (Blk.new w3 50 txZ) rfl hsz1 hone1;have b8:Blk W2 w3.heap.size 50 tv1:=by rw[hW2];exact Blk.setRow (Blk.new _ _ _)
 have hb2:Below w3.heap.size w3 W2:=by rw[hW2];exact Below.setRow ((zho _ _).alloc (zhT _) _) (zhT _) _
 go_upto_region 14 with (refine z01 rfl _ _ _ rfl _ _ rfl rfl hst8 ?_)
 rw[←hW2];clear hW2 hst8;have hB2:=hb3.trans (hb2.mono hb3.size);have bR2:=bR1.belowAll hB2;have g2:Grow wA (F++B) W2 (F'++B):=g1'.trans (Grow.of_below hB2 _);have h2:=h1.below hB2;have hq2:=hq3.below hb2;have hk2:=(hk1.below hB2).sl.reads;have hR2:=hR3.below hb2;have hsame:=fun W (hW:Below W2.heap.size W2 W)=>z5k A1 A3 c1 c3 L L (by omega) (by omega) W (hk2.below hW) (hR2.below hW)
 simp only[decide_true]at hsame;have hS:∀W,Below W2.heap.size W2 W→Blk W w3.heap.size 50 tv1:=fun W hW=>b8.belowAll hW
 refine z06 [.take 0,.take 1,.take 2,.one 3,.take 4,.take 5,.take 6,.take 7,.take 8,.one 9,.one 10] 11 (fun W=>Blk W w3.heap.size 50 tv1) (by kernel_rfl) (by kernel_rfl) (fun _ _ _ _ _ h=>h) (hS _ (zho _ _).drew) ?_
 simp only[zhY,zhZ,Ms.fill,zhy,zhz];refine z04 (by rfl) (.agg tv1) (fun w' hw'=>z0w 50 _ rfl rfl (z0n hw' hsz1)) ?_
 (try simp only[Act.put,zht,zhu,zhv])
 iterate 2 (refine z04 (by rfl) ?_ (fun w' hw'=>?_) ?_;rotate_left;(focus (go_simp;(try with_reducible rfl)));(try simp only[Act.put,zht,zhu,zhv]))
 refine z05 (by rfl) fun K hK=>?_
 go_simp;refine(hsame W2.drew (zho _ _).drew).mono ?_;rintro e w4 ⟨rfl,hb4⟩;have hb4':Below W2.heap.size W2 w4:=(zho _ _).drew.trans hb4;refine hK _ _ (fun _=>hS _ hb4') ?_
 clear hK K hsame;have bR3:=bR2.belowAll hb4';have hst:=z0v bR3 rfl hsz1 hone1;have bR4:=bR3.setRow (cs':=tv1);have g4:=g2.trans (Grow.of_below hb4' _);have hfin:=OnePost.mk (h2.below hb4') BA g4 (hq2.below hb4') HW0.out (by omega) zR.out HG.out h00.out
 iterate 5 (refine z04 (by rfl) ?_ (fun w' hw'=>?_) ?_;rotate_left;(focus (go_simp;(try with_reducible rfl)));(try simp only[Act.put,zht,zhu,zhv]))
 have hSX:Blk (w4.setRow (w.heap.size+1+1) tv1) w3.heap.size 50 tv1:=(hS _ hb4').rowFar (by have:=zR.out;have:=g1'.keep.size;have:=hb3.size;omega)
 refine z05 (by rfl) fun K hK=>?_
 refine z0h _ _ _ rfl _ _ rfl rfl hst ?_;refine hK _ _ (fun _=>hSX) ?_
 clear hK K hst;(try simp only[Act.put,zht,zhu,zhv])
 refine z05 (by rfl) fun K hK=>?_
 go_simp;refine hK _ _ (fun _=>hSX) ?_
 clear hK K;refine z0f ?_;go_wp2_with fail
 refine bodyPost_ret (z1C (cs:=tv1) rfl rfl rfl bR4 underlying50 (by rw[hsz1];kernel_rfl)) rfl ?_
 exact hfin
theorem zhj (h:Play w0 w T F D y B x)(hPl:PB<w.heap.size)(hcl:y.Clean)(hcalm:x.Calm)(hq:RTx w (Far (PB::(F++B))) x y tv)(wh at_ kd n:Int)(s:ByteArray)(hwh:0≤wh)(A:Option Addr)(l:List Int)(c:Nat)(hw:wh % 9=5)(hl:l.length≤1000)(hR:Reads w A (l.map (.int .i64))):
  Calls prog 20 #[.pointer (some ⟨T,0,none⟩),.agg tv,.agg #[.int .u8 wh,.int .i64 at_,.int .i64 kd,.int .i64 n,.string s,.slice A l.length c]] w (OnePost w0 w PB T F D (y.free l).2 B x):=by
 obtain⟨wA,hA⟩:∃wA,wA=((w.alloc (.cells tv 50)).alloc (.cells #[.int .u8 wh,.int .i64 at_,.int .i64 kd,.int .i64 n,.string s,.slice A l.length c] 55)).alloc (.cells txZ 50):=⟨_,rfl⟩;have bT:Blk wA w.heap.size 50 tv:=by rw[hA];exact((Blk.new _ _ _).alloc _).alloc _
 have bS:Blk wA (w.heap.size+1) 55 #[.int .u8 wh,.int .i64 at_,.int .i64 kd,.int .i64 n,.string s,.slice A l.length c]:=by rw[hA];exact(Blk.new' (by simp)).alloc _
 have bR:Blk wA (w.heap.size+1+1) 50 txZ:=by rw[hA];exact Blk.new' (by simp)
 have BA:Below w.heap.size w wA:=by rw[hA];(repeat' (first|with_reducible (first|exact zho _ _|assumption|refine zhp ?_ ?_ _|refine zhq ?_|refine z00 ?_ _|refine zhr ?_ ?_ _|exact zhT _)|omega|(simp;done)|(simp;omega)))
 have hp:=h.below BA;have HG:=zhs h.lts;have hG:=h.lts;have h00:=zhs h.td.dev.half.1;have HW0:=zhs h.size;have zR:=zhs bR.lt;have hQ:=(z3c hq (R:=w.heap.size+1+1) (by omega)).below BA
 have HN:∀b,wA.heap.size≤b→Far ((w.heap.size+1+1)::PB::(F++B)) b:=Far.new (by
  have:=BA.size;have:=bR.lt
  intro b hm;rcases List.mem_cons.1 hm with rfl|hm
  ·omega
  ·rcases List.mem_cons.1 hm with rfl|hm
   ·omega
   ·have:=hG b hm;omega)
 have HN:=zhs HN;have hsz:=hq.size;have hone:=hq.one;have ok:=h.td.tx.ok;have g1:wh.tmod 9=5:=by rw[←hw];exact zhV hwh
 unfold txZ txR at hA;clear hG hq h hwh hw;go_enter func20,ntmps20
 go_upto_region 1 with fail
 rw[←hA];clear hA;have cS:=bS.cells;have lS:=bS.lt;have hrw:=zfY hQ HN.out ok hcl A c l hl (hR.below BA);have hpw:=fun W (hW:Below wA.heap.size wA W)=>z96 (hp.below hW) A c l hl ((hR.below BA).below hW)
 clear hQ ok hcl hcalm hR hp;generalize y.free l=r at *;obtain⟨E,y'⟩:=r;simp only at hpw hrw ⊢
 have lT:=z0n bT hsz;go_upto_region 16 with fail
 go_wp2_with (refine z02 (by rfl) _ _ rfl (.agg tv) (.pointer (some ⟨w.heap.size,0,none⟩)) rfl lT ?_)
 refine hrw.mono ?_;rintro e w1 ⟨tv1,rfl,hq1,hb1⟩;simp only at hq1 ⊢
 clear hrw lT;have hsz1:=hq1.size;have hone1:=hq1.one;obtain⟨W2,hW2⟩:∃W2,W2=World.setRow (w1.alloc (.cells txZ 50)) w1.heap.size tv1:=⟨_,rfl⟩;have hst8:=z0v (Blk.new w1 50 txZ) rfl hsz1 hone1;have b8:Blk W2 w1.heap.size 50 tv1:=by rw[hW2];exact Blk.setRow (Blk.new _ _ _)
 have hb2:Below w1.heap.size w1 W2:=by rw[hW2];exact Below.setRow ((zho _ _).alloc (zhT _) _) (zhT _) _
 go_upto_region 17 with (refine z01 rfl _ _ _ rfl _ _ rfl rfl hst8 ?_)
 rw[←hW2];clear hW2 hst8;have hB2:=hb1.trans (hb2.mono hb1.size);have bS2:=bS.belowAll hB2;have bR2:=bR.belowAll hB2;have BB2:=BA.trans (hB2.mono BA.size);have hq2:=hq1.below hb2;have hz8:w.heap.size≤w1.heap.size:=zhS BA.size hb1.size;have hS:∀W,Grow W2 (F++B) W (F++B)→Blk W w1.heap.size 50 tv1∧W.cell? ⟨w.heap.size+1,5,none⟩=some (.slice A l.length c):=fun W g=>by
  have b:=g.blk bS2 (fun hm=>by have:=HG.out _ hm;omega)
  exact⟨g.blk b8 (fun hm=>by have:=HG.out _ hm;omega),(b.cells 5).trans rfl⟩
 refine z06 [.take 0,.take 1,.take 2,.take 3,.take 5,.one 4,.take 6,.one 7,.one 8] 9 (fun W=>Blk W w1.heap.size 50 tv1∧W.cell? ⟨w.heap.size+1,5,none⟩=some (.slice A l.length c)) (by kernel_rfl) (by kernel_rfl) (fun _ _ _ _ _ h=>h) (hS _ (Grow.of_below (zho _ _).drew _)) ?_
 simp only[zhY,zhZ,Ms.fill,zhy,zhz];refine z04 (by rfl) (.agg tv1) (fun w' hw'=>z0w 50 _ rfl rfl (z0n hw'.1 hsz1)) ?_
 (try simp only[Act.put,zht,zhu,zhv])
 iterate 3 (refine z04 (by rfl) ?_ (fun w' hw'=>?_) ?_;rotate_left;(focus (go_simp;(try with_reducible rfl)));(try simp only[Act.put,zht,zhu,zhv]))
 iterate 1 (refine z04 (by rfl) ?_ (fun w' hw'=>?_) ?_;rotate_left;(focus (go_simp;(try with_reducible rfl)));(try simp only[Act.put,zht,zhu,zhv]))
 refine z05 (by rfl) fun K hK=>?_
 go_simp;refine(hpw W2.drew (hB2.trans ((zho _ _).drew.mono hB2.size))).mono ?_;rintro e w3 ⟨rfl,F',h3,g3⟩;have g3':Grow W2 (F++B) w3 (F'++B):=(Grow.of_below (zho _ _).drew _).trans g3;have hS3:Grow W2 (F++B) w3 (F++B):=⟨g3'.keep,fun b hb=>.inl hb⟩
 refine hK _ _ (fun _=>hS _ hS3) ?_
 clear hK K hpw g3;have bR3:Blk w3 (w.heap.size+1+1) 50 txZ:=g3'.blk bR2 (fun hm=>by have:=HG.out _ hm;omega)
 have hst:=z0v bR3 rfl hsz1 hone1;have bR4:=bR3.setRow (cs':=tv1);have hq3:=hq2.grow ((g3'.cons_ PB).cons_ (w.heap.size+1+1));have hfin:=OnePost.mk h3 BB2 g3' hq3 HW0.out (by omega) (zhR zR.out hB2.size) HG.out h00.out
 iterate 1 (refine z04 (by rfl) ?_ (fun w' hw'=>?_) ?_;rotate_left;(focus (go_simp;(try with_reducible rfl)));(try simp only[Act.put,zht,zhu,zhv]))
 have bS3:=g3'.blk bS2 (fun hm=>by have:=HG.out _ hm;omega)
 have hSX:Blk (w3.setRow (w.heap.size+1+1) tv1) w1.heap.size 50 tv1∧(w3.setRow (w.heap.size+1+1) tv1).cell? ⟨w.heap.size+1,5,none⟩=some (.slice A l.length c):=by
  have hz:=zR.out;have b:=(bS3.rowFar (cs':=tv1) (show w.heap.size+1≠w.heap.size+1+1 by omega)).cells
  exact⟨(hS _ hS3).1.rowFar (by have:=hb1.size;omega),(b 5).trans rfl⟩
 refine z05 (by rfl) fun K hK=>?_
 refine z0h _ _ _ rfl _ _ rfl rfl hst ?_;refine hK _ _ (fun _=>hSX) ?_
 clear hK K hst;(try simp only[Act.put,zht,zhu,zhv])
 refine z05 (by rfl) fun K hK=>?_
 go_simp;refine hK _ _ (fun _=>hSX) ?_
 clear hK K;refine z0f ?_;go_wp2_with fail
 refine bodyPost_ret (z1C (cs:=tv1) rfl rfl rfl bR4 underlying50 (by rw[hsz1];kernel_rfl)) rfl ?_
 exact hfin
theorem zhc (h:Play w0 w T F D y B x)(hPl:PB<w.heap.size)(hcl:y.Clean)(hcalm:x.Calm)(hq:RTx w (Far (PB::(F++B))) x y tv)(wh at_ kd n:Int)(s:ByteArray)(hwh:0≤wh)(sv:Value)(hw:wh % 9=6):
  Calls prog 20 #[.pointer (some ⟨T,0,none⟩),.agg tv,.agg #[.int .u8 wh,.int .i64 at_,.int .i64 kd,.int .i64 n,.string s,sv]] w (OnePost w0 w PB T F D y B x):=by
 obtain⟨wA,hA⟩:∃wA,wA=((w.alloc (.cells tv 50)).alloc (.cells #[.int .u8 wh,.int .i64 at_,.int .i64 kd,.int .i64 n,.string s,sv] 55)).alloc (.cells txZ 50):=⟨_,rfl⟩;have bT:Blk wA w.heap.size 50 tv:=by rw[hA];exact((Blk.new _ _ _).alloc _).alloc _
 have bS:Blk wA (w.heap.size+1) 55 #[.int .u8 wh,.int .i64 at_,.int .i64 kd,.int .i64 n,.string s,sv]:=by rw[hA];exact(Blk.new' (by simp)).alloc _
 have bR:Blk wA (w.heap.size+1+1) 50 txZ:=by rw[hA];exact Blk.new' (by simp)
 have BA:Below w.heap.size w wA:=by rw[hA];(repeat' (first|with_reducible (first|exact zho _ _|assumption|refine zhp ?_ ?_ _|refine zhq ?_|refine z00 ?_ _|refine zhr ?_ ?_ _|exact zhT _)|omega|(simp;done)|(simp;omega)))
 have hp:=h.below BA;have HG:=zhs h.lts;have hG:=h.lts;have h00:=zhs h.td.dev.half.1;have HW0:=zhs h.size;have zR:=zhs bR.lt;have hQ:=(z3c hq (R:=w.heap.size+1+1) (by omega)).below BA
 have HN:∀b,wA.heap.size≤b→Far ((w.heap.size+1+1)::PB::(F++B)) b:=Far.new (by
  have:=BA.size;have:=bR.lt
  intro b hm;rcases List.mem_cons.1 hm with rfl|hm
  ·omega
  ·rcases List.mem_cons.1 hm with rfl|hm
   ·omega
   ·have:=hG b hm;omega)
 have HN:=zhs HN;have hsz:=hq.size;have hone:=hq.one;have ok:=h.td.tx.ok;have g1:wh.tmod 9=6:=by rw[←hw];exact zhV hwh
 unfold txZ txR at hA;clear hG hq h hwh hw;go_enter func20,ntmps20
 go_upto_region 1 with fail
 rw[←hA];clear hA;have cS:=bS.cells;have lS:=bS.lt;have HQ:=zhs hQ;have HP:=zhs hp;have h18:=zeP wA hp.td.tx;have h19:=fun W (hW:Below wA.heap.size wA W)=>zeQ (hQ.below hW) ok hcl
 have h20:=fun W (hW:Below wA.heap.size wA W)=>zfU W (hp.td.tx.below hW)
 have h21:=fun W (hW:Below wA.heap.size wA W)=>zeK (hQ.below hW)
 have h22:=fun W (hW:Below wA.heap.size wA W)=>zgU W (hp.td.tx.below hW) hcl
 have h23:=fun W (hW:Below wA.heap.size wA W)=>zgy (hQ.below hW) ok hcl
 have hl1:=zfR ok;have hl2:=zg8 ok hcl;unfold z6I at h20 h21;unfold z6f at h22 h23;clear hQ hp ok hcl hcalm;generalize y.lefts=r1 at *;generalize y.blk=r2 at *;generalize y.rcs=r3 at *;obtain⟨q1,q2,q3⟩:=r1;obtain⟨⟨s1,j1,i1⟩,us,q4⟩:=r2;obtain⟨l,q5⟩:=r3;simp only at h18 h19 h20 h21 h22 h23 hl1 hl2
 have lT:=z0n bT hsz;go_upto_region 18 with fail
 go_wp2_with fail
 refine h18.mono ?_;rintro e w1 ⟨rfl,hb1⟩;have lT:=z0n (bT.belowAll hb1) hsz;clear h18;go_wp2_with (refine z02 (by rfl) _ _ rfl (.agg tv) (.pointer (some ⟨w.heap.size,0,none⟩)) rfl lT ?_)
 refine(h19 w1 hb1).mono ?_;rintro e w2 ⟨rfl,hb2'⟩;have hb2:=hb1.trans (hb2'.mono hb1.size);clear h19 hb1 hb2' lT;go_wp2_with fail
 refine(h20 w2 hb2).mono ?_;rintro e w3 ⟨A3,c3,rfl,hR3,hb3'⟩;have hb3:=hb2.trans (hb3'.mono hb2.size);clear h20 hb2 hb3';obtain⟨w4,hw4⟩:∃w4,w4=w3.alloc (.cells #[.int .i64 s1,.int .i64 j1,.int .i64 i1,.slice A3 us.length c3] 47):=⟨_,rfl⟩;have b4:Blk w4 w3.heap.size 47 #[.int .i64 s1,.int .i64 j1,.int .i64 i1,.slice A3 us.length c3]:=by rw[hw4];exact Blk.new _ _ _
 have hb4':Below w3.heap.size w3 w4:=by rw[hw4];exact(zho _ _).alloc (zhT _) _
 have hb4:=hb3.trans (hb4'.mono hb3.size);have hR4:=hR3.below hb4';have lT:=z0n (bT.belowAll hb4) hsz;have HZ3:=zhs hb3.size;go_upto_region 21 with fail
 rw[←hw4];clear hw4 hb4' hb3 hR3;go_wp2_with (refine z02 (by rfl) _ _ rfl (.agg tv) (.pointer (some ⟨w.heap.size,0,none⟩)) rfl lT ?_)
 refine(h21 w4 hb4).mono ?_;rintro e w5 ⟨A5,c5,rfl,hR5,hb5'⟩;have hb5:=hb4.trans (hb5'.mono hb4.size);have b5:=b4.belowAll hb5';have HZ5:=zhs hb5.size;have hR45:=hR4.below hb5';clear h21 lT hb4 hb5' b4 hR4;obtain⟨w6,hw6⟩:∃w6,w6=w5.alloc (.cells #[.int .i64 s1,.int .i64 j1,.int .i64 i1,.slice A5 us.length c5] 47):=⟨_,rfl⟩;have c6:Blk w6 w5.heap.size 47 #[.int .i64 s1,.int .i64 j1,.int .i64 i1,.slice A5 us.length c5]:=by rw[hw6];exact Blk.new _ _ _
 have hb6':Below w5.heap.size w5 w6:=by rw[hw6];exact(zho _ _).alloc (zhT _) _
 have hb6:=hb5.trans (hb6'.mono hb5.size);have b6:=b5.belowAll hb6';have hR6:=hR5.below hb6';have hR46:=hR45.below hb6';go_upto_region 22 with fail
 rw[←hw6];clear hw6 hb6' hb5 hR5 hR45 b5;go_wp2_with fail
 refine(h22 w6 hb6).mono ?_;rintro e w7 ⟨A7,c7,rfl,hR7,hb7'⟩;have hb7:=hb6.trans (hb7'.mono hb6.size);have b7:=b6.belowAll hb7';have d7:=c6.belowAll hb7';have hR67:=hR6.below hb7';have hR47:=hR46.below hb7';have lT:=z0n (bT.belowAll hb7) hsz;clear h22 hb7' hb6 b6 c6 hR6 hR46;go_wp2_with (refine z02 (by rfl) _ _ rfl (.agg tv) (.pointer (some ⟨w.heap.size,0,none⟩)) rfl lT ?_)
 refine(h23 w7 hb7).mono ?_;rintro e w8 ⟨A8,c8,rfl,hR8,hb8'⟩;have hb8:=hb7.trans (hb8'.mono hb7.size);have b8:=b7.belowAll hb8';have d8:=d7.belowAll hb8';have hR68:=hR67.below hb8';have hR48:=hR47.below hb8';have hR78:=Reads.below hR7 hb8';have bT8:=bT.belowAll hb8;have bR8:=bR.belowAll hb8;clear h23 hb8' hb7 b7 d7 hR67 hR47 hR7 lT;have hS:∀W,Below w8.heap.size w8 W→Blk W w.heap.size 50 tv∧Blk W w3.heap.size 47 #[.int .i64 s1,.int .i64 j1,.int .i64 i1,.slice A3 us.length c3]∧Blk W w5.heap.size 47 #[.int .i64 s1,.int .i64 j1,.int .i64 i1,.slice A5 us.length c5]:=fun W hW=>⟨bT8.belowAll hW,b8.belowAll hW,d8.belowAll hW⟩
 have h17:=fun W (hW:Below w8.heap.size w8 W)=>zgC s1 j1 i1 A3 A5 c3 c5 us W (hR48.below hW) (hR68.below hW) hl1
 have h27:=fun W (hW:Below w8.heap.size w8 W)=>z8E (c1:=c7) (c2:=c8) hl2 (Reads.below hR78 hW) (Reads.below hR8 hW)
 go_upto_region 24 with fail
 refine z06 [.take 0,.take 1,.take 2,.take 3,.take 4,.take 5,.take 6,.take 7,.take 8,.take 9,.take 10,.take 11,.take 12,.take 13,.take 14,.take 15,.take 16,.one 17,.take 18,.take 19,.take 20,.take 21,.take 22,.take 23,.take 24,.take 25,.take 26,.one 27,.take 28,.take 29,.take 30,.take 31,.take 32,.take 33,.one 34,.one 35] 36 (fun W=>Blk W w.heap.size 50 tv∧Blk W w3.heap.size 47 #[.int .i64 s1,.int .i64 j1,.int .i64 i1,.slice A3 us.length c3]∧Blk W w5.heap.size 47 #[.int .i64 s1,.int .i64 j1,.int .i64 i1,.slice A5 us.length c5]) (by kernel_rfl) (by kernel_rfl) (fun _ _ _ _ _ h=>h) (hS _ (zho _ _).drew) ?_
 simp only[zhY,zhZ,Ms.fill,zhy,zhz];refine z04 (by rfl) (.agg tv) (fun w' hw'=>z0w 50 _ rfl rfl (z0n hw'.1 hsz)) ?_
 (try simp only[Act.put,zht,zhu,zhv])
 iterate 14 (refine z04 (by rfl) ?_ (fun w' hw'=>?_) ?_;rotate_left;(focus (go_simp;(try with_reducible rfl)));(try simp only[Act.put,zht,zhu,zhv]))
 refine z04 (by rfl) (.agg #[.int .i64 s1,.int .i64 j1,.int .i64 i1,.slice A3 us.length c3]) (fun w' hw'=>z0w 47 _ rfl rfl (z3S hw'.2.1 rfl)) ?_
 (try simp only[Act.put,zht,zhu,zhv])
 refine z04 (by rfl) (.agg #[.int .i64 s1,.int .i64 j1,.int .i64 i1,.slice A5 us.length c5]) (fun w' hw'=>z0w 47 _ rfl rfl (z3S hw'.2.2 rfl)) ?_
 (try simp only[Act.put,zht,zhu,zhv])
 refine z05 (by rfl) fun K hK=>?_
 go_simp;refine(h17 w8.drew (zho _ _).drew).mono ?_;rintro e w9 ⟨rfl,hb9'⟩;have hb9:Below w8.heap.size w8 w9:=(zho _ _).drew.trans hb9';refine hK _ _ (fun _=>hS _ hb9) ?_
 clear hK K h17;iterate 9 (refine z04 (by rfl) ?_ (fun w' hw'=>?_) ?_;rotate_left;(focus (go_simp;(try with_reducible rfl)));(try simp only[Act.put,zht,zhu,zhv]))
 refine z05 (by rfl) fun K hK=>?_
 go_simp;refine(h27 w9 hb9).mono ?_;rintro e wX ⟨rfl,hbX'⟩;have hbX:=hb9.trans (hbX'.mono hb9.size);refine hK _ _ (fun _=>hS _ hbX) ?_
 clear hK K h27;iterate 6 (refine z04 (by rfl) ?_ (fun w' hw'=>?_) ?_;rotate_left;(focus (go_simp;(try with_reducible rfl)));(try simp only[Act.put,zht,zhu,zhv]))
 have hbY:=hb8.trans (hbX.mono hb8.size);have bR9:=bR.belowAll hbY;have hst:=z0v bR9 rfl hsz hone;have bRX:=bR9.setRow (cs':=tv);have hfin:=OnePost.mk (HP.out.below hbY) (BA.trans (hbY.mono BA.size)) (Grow.refl _ _) (HQ.out.below hbY) HW0.out (by omega) bR9.lt HG.out h00.out
 have hSX:Blk (wX.setRow (w.heap.size+1+1) tv) w.heap.size 50 tv∧Blk (wX.setRow (w.heap.size+1+1) tv) w3.heap.size 47 #[.int .i64 s1,.int .i64 j1,.int .i64 i1,.slice A3 us.length c3]∧Blk (wX.setRow (w.heap.size+1+1) tv) w5.heap.size 47 #[.int .i64 s1,.int .i64 j1,.int .i64 i1,.slice A5 us.length c5]:=by
  have h3:=HZ3.out;have h5:=HZ5.out;have hz:=zR.out;obtain⟨x1,x2,x3⟩:=hS _ hbX;exact⟨x1.rowFar (by omega),x2.rowFar (by omega),x3.rowFar (by omega)⟩
 refine z05 (by rfl) fun K hK=>?_
 refine z0h _ _ _ rfl _ _ rfl rfl hst ?_;refine hK _ _ (fun _=>hSX) ?_
 clear hK K hst;(try simp only[Act.put,zht,zhu,zhv])
 refine z05 (by rfl) fun K hK=>?_
 go_simp;refine hK _ _ (fun _=>hSX) ?_
 clear hK K;refine z0f ?_;go_wp2_with fail
 refine bodyPost_ret (z1C (cs:=tv) rfl rfl rfl bRX underlying50 (by rw[hsz];kernel_rfl)) rfl ?_
 exact hfin
theorem zgw (h:Play w0 w T F D y B x)(hPl:PB<w.heap.size)(hcl:y.Clean)(hcalm:x.Calm)(hq:RTx w (Far (PB::(F++B))) x y tv)(a:StepV)(ok:StepOk w0 a)(hbig:bigB a=false)(h7:a.wh % 9<7):
  Calls prog 20 #[.pointer (some ⟨T,0,none⟩),.agg tv,.agg (zgp a)] w (OnePost w0 w PB T F D (y.step a) B x):=by
 obtain⟨wh,at_,kd,n,s,A,l,c⟩:=a;have hw0:0≤wh:=ok.wh.1;have hb:s.size≤300∧l.length≤300:=by unfold bigB at hbig;simp at hbig;omega
 have hR:Reads w A (l.map (.int .i64)):=h.reads ok.list;have hat:-9223372036854775808≤at_∧at_≤9223372036854775807:=ok.at_;unfold zgp TxS.step;simp only at h7 ⊢
 have hm:wh % 9=0∨wh % 9=1∨wh % 9=2∨wh % 9=3∨wh % 9=4∨wh % 9=5∨wh % 9=6:=by omega
 rcases hm with hm|hm|hm|hm|hm|hm|hm
 ·rw[if_pos (by omega)];exact zhn h hPl hcl hcalm hq wh at_ kd n s hw0 _ hm hat hb.1
 ·rw[if_pos (by omega)];exact zhl h hPl hcl hcalm hq wh at_ kd n s hw0 _ hm hat hb.1
 ·rw[if_pos (by omega)];exact zh9 h hPl hcl hcalm hq wh at_ kd n s hw0 _ hm hat hb.1
 ·rw[if_neg (by omega),if_neg (by omega),if_neg (by omega)];exact zhe h hPl hcl hcalm hq wh at_ kd n s hw0 _ hm
 ·rw[if_neg (by omega),if_pos hm];exact zhg h hPl hcl hcalm hq wh at_ kd n s hw0 _ hm
 ·rw[if_neg (by omega),if_neg (by omega),if_pos hm];exact zhj h hPl hcl hcalm hq wh at_ kd n s hw0 A l c hm (by omega) hR
 ·rw[if_neg (by omega),if_neg (by omega),if_neg (by omega)];exact zhc h hPl hcl hcalm hq wh at_ kd n s hw0 _ hm
end
end Go.Proofs.YtejmknghkbobnaaGreatDoor
