import Derived.Test.YtejmknghkbobnaaGreatDoorPart00
import Derived.Test.YtejmknghkbobnaaGreatDoorPart15
import Derived.Test.YtejmknghkbobnaaGreatDoorPart07
import Derived.Laws.IdiomStrings
set_option linter.unusedVariables false
set_option linter.unusedSimpArgs false
set_option maxRecDepth 100000
set_option maxHeartbeats 8000000
namespace Go.Proofs.YtejmknghkbobnaaGreatDoor
open Go.Proofs.Tryz
open Go.RowKit Go.Maps
theorem z36 {n s j i:Int}(h:z0R n s j i=0):rgE s j i=0∧n=s:=by
 unfold z0R at h;by_cases h1:rgE s j i=0
 ·rw[if_neg (by simpa using h1)]at h
  split at h
  ·omega
  ·split at h
   ·omega
   ·exact⟨h1,by omega⟩
 ·rw[if_pos h1]at h;exact absurd h h1
def z0L (s j i:Int):Rec:=⟨1+j,5,mapS (List.replicate (rgB s j i).toNat false)⟩
def DevS.tfmt (x:DevS)(s j i:Int):Int × DevS:=
 if z0R x.stable.length s j i≠0 then (z0R x.stable.length s j i,x)else if (x.jfmt 1 j).1≠0 then x.jfmt 1 j else (x.jfmt 1 j).2.commit 1 j [z0L s j i]
theorem z7M {s j i:Int}(h:rgE s j i=0):CkE s j i (rgB s j i).toNat=0:=by
 unfold CkE;have:=zah s j i
 rw[if_pos h,if_pos (by omega)]
theorem z5Q (D:Nat)(s j i:Int)(B:List Nat)(x:DevS)(w:World)(h:DevAt w D B x):
  Calls prog 10 #[.pointer (some ⟨D,0,none⟩),.agg #[.int .i64 s,.int .i64 j,.int .i64 i]] w (z1j w D B (x.tfmt s j i)):=by
 obtain⟨wA,hA⟩:∃wA,wA=w.alloc (.cells #[.int .i64 s,.int .i64 j,.int .i64 i] 23):=⟨_,rfl⟩;have bL:Blk wA w.heap.size 23 #[.int .i64 s,.int .i64 j,.int .i64 i]:=by rw[hA];exact(by (repeat' (first|(with_reducible assumption)|exact Blk.new' (by simp)|refine Blk.alloc ?_ _)))
 have BA:Below w.heap.size w wA:=by rw[hA];(repeat' (first|with_reducible (first|exact zho _ _|assumption|refine zhp ?_ ?_ _|refine zhq ?_|refine z00 ?_ _|refine zhr ?_ ?_ _|exact zhT _)|omega|(simp;done)|(simp;omega)))
 have hfi:=zaS D s j i B x wA (h.below BA);have HT:=show x.tfmt s j i=if z0R x.stable.length s j i≠0 then (z0R x.stable.length s j i,x)else if (x.jfmt 1 j).1≠0 then x.jfmt 1 j else (x.jfmt 1 j).2.commit 1 j [z0L s j i]from rfl
 have HT0:=zhs HT;have cL:=bL.cells;have lL:=bL.lt;clear HT;unfold z1j;by_cases hE:z0R x.stable.length s j i=0
 rotate_left
 ·have HL:Hid (x.tfmt s j i=(z0R x.stable.length s j i,x)):=zhs (by rw[HT0.out,if_pos hE])
  have hv:z5s D x.stable.length s j i=PV none 0 0 0 0 0 0 0 0:=by unfold z5s;rw[if_neg hE];rfl
  rw[hv]at hfi;generalize z0R x.stable.length s j i=E at *;have hE':(E != 0)=true:=by simpa using hE
  clear hE hv HT0;go_enter func10,ntmps10
  go_wp2_with fail
  rw[←hA];go_wp2_with fail
  refine hfi.mono ?_;rintro e w1 ⟨rfl,hb1⟩;have B1:=BA.trans (hb1.mono BA.size);clear hA;go_wp2_with fail
  go_ret
  exact⟨by rw[HL.out];rfl,B,by rw[HL.out];exact(h.below B1).alloc _,Grow.of_below (B1.alloc B1.size _) B⟩
 obtain⟨hrg,hns⟩:=z36 hE;have hbd:=z10 hrg;obtain⟨r1,r2,r3,r4,r5⟩:=z3R hrg;have hv:z5s D x.stable.length s j i=PV (some ⟨D,0,none⟩) s j i 1 (1+j) (2+j) (2+j+i) (s - (2+j+i)):=by unfold z5s ze9;rw[if_pos hE,r1,r2,r3,r4,r5];rfl
 rw[hv,hE]at hfi;have hck:=z7M hrg;have hnew:=fun W=>ze7 s j i W
 have HT1:Hid (x.tfmt s j i=if (x.jfmt 1 j).1≠0 then x.jfmt 1 j else (x.jfmt 1 j).2.commit 1 j [z0L s j i]):=zhs (by rw[HT0.out,if_neg (by rw[hE];simp)])
 obtain⟨nb,hnb⟩:∃nb,(rgB s j i).toNat=nb:=⟨_,rfl⟩;have hnb2:(nb:Int)=s - (2+j+i):=by omega
 have HFR:Hid (z0L s j i=⟨1+j,5,mapS (List.replicate nb false)⟩):=zhs (by unfold z0L;rw[hnb])
 rw[hnb]at hck;have HNB:=zhs hnb;have HCK:=zhs hck;have HRG:=zhs hrg;clear hE hv HT0 r1 r2 r3 r4 r5 hrg hnb hck;go_enter func10,ntmps10
 go_wp2_with fail
 rw[←hA];go_wp2_with fail
 refine hfi.mono ?_;rintro e w1 ⟨rfl,hb1⟩;have B1:=BA.trans (hb1.mono BA.size);have bL1:=bL.belowAll hb1;clear hA hb1 cL lL bL BA hfi;obtain⟨PB,hPB⟩:∃PB,PB=w1.heap.size:=⟨_,rfl⟩;obtain⟨w2,hw2⟩:∃w2,w2=w1.alloc (.cells (PV (some ⟨D,0,none⟩) s j i 1 (1+j) (2+j) (2+j+i) (s - (2+j+i))) 120):=⟨_,rfl⟩;have bP2:Blk w2 PB 120 (PV (some ⟨D,0,none⟩) s j i 1 (1+j) (2+j) (2+j+i) (s - (2+j+i))):=by rw[hw2,hPB];exact Blk.new _ _ _
 have bL2:Blk w2 w.heap.size 23 #[.int .i64 s,.int .i64 j,.int .i64 i]:=by rw[hw2];exact bL1.alloc _
 have B2:Below w.heap.size w w2:=by rw[hw2];exact B1.alloc B1.size _
 have hPB2:w.heap.size≤PB:=by rw[hPB];exact B1.size
 go_wp2_with fail
 rw[←hw2,←hPB];clear hw2 hPB bL1 B1;refine(z3v PB _ _ j 1 w2 bP2 rfl rfl).mono ?_;rintro e w3 ⟨rfl,hb3⟩;have bP3:=bP2.belowAll hb3;have bL3:=bL2.belowAll hb3;have B3:=B2.trans (hb3.mono B2.size);clear bP2 bL2 B2 hb3;go_wp2_with fail
 refine(z9T D 1 j B x w3 (h.below B3)).mono ?_;unfold z1j;rintro e w4 ⟨rfl,B4,hd4,hg4⟩;obtain⟨p,hp⟩:∃p,x.jfmt 1 j=p:=⟨_,rfl⟩;rw[hp]at hd4 HT1 ⊢;have nP:PB∉B:=h.far hPB2;have nL:w.heap.size∉B:=h.far (zhT _);have bP4:=hg4.blk bP3 nP;have bL4:=hg4.blk bL3 nL;have gw4:=(Grow.of_below B3 B).trans hg4;have nP4:=hg4.notin nP bP3.lt;have nL4:=hg4.notin nL bL3.lt;clear hp bP3 bL3 nP nL hg4 B3;by_cases hE:p.1=0
 rotate_left
 ·have HL:Hid (x.tfmt s j i=p):=zhs (by rw[HT1.out,if_pos hE])
  have hE':(p.1 != 0)=true:=by simpa using hE
  clear hE HT1;go_wp2_with fail
  go_ret
  exact⟨by rw[HL.out];rfl,B4,by rw[HL.out];exact hd4,gw4⟩
 have HL:Hid (x.tfmt s j i=p.2.commit 1 j [⟨1+j,5,mapS (List.replicate nb false)⟩]):=zhs (by rw[HT1.out,if_neg (by rw[hE];simp),HFR.out])
 have hE':(p.1 != 0)=false:=by simpa using hE
 clear hE HT1 HFR;have cL4:=bL4.cells;have lL4:=bL4.lt;go_wp2_with fail
 refine(hnew w4).mono ?_;rintro e w5 ⟨hb5,he⟩;obtain⟨-,us,rfl,hus,hcells⟩:=he.resolve_left (fun hh=>hh.1 HRG.out)
 rw[HNB.out]at hcells ⊢;obtain⟨SB,hSB⟩:∃SB,SB=w5.heap.size:=⟨_,rfl⟩;obtain⟨w6,hw6⟩:∃w6,w6=w5.alloc (.cells #[.int .i64 s,.int .i64 j,.int .i64 i,.slice (some ⟨us,0,none⟩) nb nb] 47):=⟨_,rfl⟩;have bS6:Blk w6 SB 47 #[.int .i64 s,.int .i64 j,.int .i64 i,.slice (some ⟨us,0,none⟩) nb nb]:=by rw[hw6,hSB];exact Blk.new _ _ _
 have B56:Below w5.heap.size w5 w6:=by rw[hw6];exact(zho _ _).alloc (zhT _) _
 have z45:=hb5.size;have B46:Below w4.heap.size w4 w6:=hb5.trans (B56.mono z45);have bP6:=bP4.belowAll B46;have hR6:Reads w6 (some ⟨us,0,none⟩) ((List.replicate nb false).map .bool):=by
  have b:Blk w5 us 4 (z2Q (List.replicate nb false)):=by rw[z3L];exact hcells
  refine Reads.below (.inr ⟨us,0,rfl,b.lt,fun k u hu=>?_⟩) B56
  rw[zi8,b.cells];show (((List.replicate nb false).map Value.bool).toArray)[k]?=some u
  rw[List.getElem?_toArray];exact hu
 have hd6:=hd4.below B46;have hSBl:w4.heap.size≤SB:=by rw[hSB];exact z45
 have nS6:SB∉B4:=hd4.far hSBl;go_wp2_with fail
 rw[←hw6,←hSB];clear hw6 hSB hcells B56 hb5 z45 cL4 lL4 bP4;have hS0:w6.cell? ⟨SB,0,none⟩=some (.int .i64 s)∧w6.cell? ⟨SB,1,none⟩=some (.int .i64 j)∧w6.cell? ⟨SB,2,none⟩=some (.int .i64 i)∧w6.cell? ⟨SB,3,none⟩=some (.slice (some ⟨us,0,none⟩) nb nb):=⟨by rw[bS6.cells];rfl,by rw[bS6.cells];rfl,by rw[bS6.cells];rfl,by rw[bS6.cells];rfl⟩
 have hSk:∀W,Blk W SB 47 #[.int .i64 s,.int .i64 j,.int .i64 i,.slice (some ⟨us,0,none⟩) nb nb]→W.cell? ⟨SB,0,none⟩=some (.int .i64 s)∧W.cell? ⟨SB,1,none⟩=some (.int .i64 j)∧W.cell? ⟨SB,2,none⟩=some (.int .i64 i)∧W.cell? ⟨SB,3,none⟩=some (.slice (some ⟨us,0,none⟩) nb nb):=fun W b=>⟨by rw[b.cells];rfl,by rw[b.cells];rfl,by rw[b.cells];rfl,by rw[b.cells];rfl⟩
 refine z06 [.take 0,.take 2,.one 1,.one 3,.one 4,.one 5,.one 6] 7 (fun w'=>w'.cell? ⟨SB,0,none⟩=some (.int .i64 s)∧w'.cell? ⟨SB,1,none⟩=some (.int .i64 j)∧w'.cell? ⟨SB,2,none⟩=some (.int .i64 i)∧w'.cell? ⟨SB,3,none⟩=some (.slice (some ⟨us,0,none⟩) nb nb)) (by kernel_rfl) (by kernel_rfl) (fun _ _ _ _ _ h=>h) hS0 ?_
 simp only[zhY,zhZ,Ms.fill,zhy,zhz];iterate 2 (refine z04 (by rfl) ?_ (fun w' hw'=>?_) ?_;rotate_left;(focus (go_simp;(try with_reducible rfl)));(try simp only[Act.put,zht,zhu,zhv]))
 refine z05 (by rfl) fun K hK=>?_
 go_simp;refine(z3v PB _ _ j 1 w6.drew bP6.drew rfl rfl).mono ?_;rintro e w7 ⟨rfl,hb7⟩;have B67:Below w6.heap.size w6 w7:=(zho _ _).drew.trans hb7;have bP7:=bP6.belowAll B67;have bS7:=bS6.belowAll B67;have hR7:=hR6.below B67;have B47:Below w4.heap.size w4 w7:=B46.trans (B67.mono B46.size);refine hK _ _ (fun _=>hSk _ bS7) ?_
 clear hK K hb7 B67 bP6 bS6 hR6 B46 hS0 hd6;refine z05 (by rfl) fun K hK=>?_
 go_simp;have hbm:=z51 PB _ _ (1+j) s j i (some ⟨us,0,none⟩) nb (List.replicate nb false) (by rw[zhG];omega) (by rw[zhG];exact HCK.out) w7 bP7 rfl hR7
 rw[zhG]at hbm;refine hbm.mono ?_;rintro e w8 ⟨rfl,hb8⟩;have bS8:=bS7.belowAll hb8;have B48:Below w4.heap.size w4 w8:=B47.trans (hb8.mono B47.size);refine hK _ _ (fun _=>hSk _ bS8) ?_
 clear hK K hbm hb8 bP7 bS7 hR7 B47;have hms:=z20 (List.replicate nb false);generalize mapS (List.replicate nb false)=ms at *;obtain⟨w9,hw9⟩:∃w9,w9=w8.alloc (.cells #[.int .i64 (1+j),.int .i64 5,.string ms] 118):=⟨_,rfl⟩;have bN9:Blk w9 w8.heap.size 118 #[.int .i64 (1+j),.int .i64 5,.string ms]:=by rw[hw9];exact Blk.new _ _ _
 have B89:Below w8.heap.size w8 w9:=by rw[hw9];exact(zho _ _).alloc (zhT _) _
 have bS9:=bS8.belowAll B89;have B49:Below w4.heap.size w4 w9:=B48.trans (B89.mono B48.size);refine z05 (by rfl) fun K hK=>?_
 go_simp;rw[←hw9];refine hK _ _ (fun _=>hSk _ bS9) ?_
 have z8:=B48.size;clear hK K hw9 bS8 B89 B48;have hcm:=z7v D 1 j B4 p.2 (some ⟨w8.heap.size,0,none⟩) 1 [⟨1+j,5,ms⟩] ⟨by simp,fun r hr=>by
  have e:r=⟨1+j,5,ms⟩:=by simpa using hr
  subst e;exact⟨by simp only;omega,by simp only[maxLen];omega⟩⟩ w9 (hd4.below B49) (.inr ⟨w8.heap.size,0,rfl,bN9.lt,fun k u hu=>by
   rw[zi8,bN9.cells];simpa[recV]using hu⟩) (fun ad e=>by cases e;exact hd4.far z8)
 unfold z1j at hcm;refine z05 (by rfl) fun K hK=>?_
 go_simp;refine hcm.mono ?_;rintro e w10 ⟨rfl,B10,hd10,hg10⟩;have bS10:=hg10.blk bS9 nS6;refine hK _ _ (fun _=>hSk _ bS10) ?_
 clear hK K hcm;refine z05 (by rfl) fun K hK=>?_
 go_simp;refine hK _ _ (fun _=>hSk _ bS10) ?_
 clear hK K;refine z0f ?_;go_wp2_with fail
 go_ret
 rw[HL.out];exact⟨rfl,B10,hd10,(gw4.trans (Grow.of_below B49 B4)).trans hg10⟩
structure TxS where
 s:Int
 j:Int
 i:Int
 was:List Bool
 now:List Bool
 writes:List Rec
 changed:Bool
 broken:Bool
 ended : Bool
def TxS.most (y:TxS):Int:=min (y.j - 2) 80
def TxS.left (y:TxS):Int:=y.most - y.writes.length - (if y.changed then 1 else 0)
def TxS.stateE (y:TxS):Int:=if y.broken||y.ended then 9 else 0
structure TxS.Ok (y:TxS):Prop where
 rg:rgE y.s y.j y.i=0
 was:y.was.length=(rgB y.s y.j y.i).toNat
 now:y.now.length=(rgB y.s y.j y.i).toNat
 recs:∀r∈y.writes,0≤r.at_∧r.at_<y.s∧1≤r.kind∧r.kind≤255∧r.data.data.size≤112
 len:0≤y.left
abbrev txC (D:Nat)(s j i:Int)(wv nv:Value)(M:Nat)(ch br en:Bool):Array Value:=
 #[.pointer (some ⟨D,0,none⟩),.int .i64 s,.int .i64 j,.int .i64 i,.int .i64 1,.int .i64 (1+j),.int .i64 (2+j),.int .i64 (2+j+i),.int .i64 (s - (2+j+i)),.int .i64 s,.int .i64 j,.int .i64 i,wv,.int .i64 s,.int .i64 j,.int .i64 i,nv,.map (some M),.bool ch,.bool br,.bool en]
def SlB (w:World)(F:List Nat)(T M:Nat)(v:Value)(l:List Bool):Prop:=
 ∃A c,v=.slice A l.length c∧Reads w A (l.map .bool)∧∀a,A=some a→a.block∈F∧a.block≠T∧a.block≠M
def zgF (w:World)(M:Nat)(l:List Rec):Prop:=∃E,RecMap E l∧w.ownsMap prog 3 recR M l.length E
structure TxAt (w:World)(T:Nat)(F:List Nat)(D:Nat)(y:TxS):Prop where
 ok:y.Ok
 mem:∃M wv nv,Blk w T 148 (txC D y.s y.j y.i wv nv M y.changed y.broken y.ended)∧T∈F∧M∈F∧M≠T∧zgF w M y.writes∧SlB w F T M wv y.was∧SlB w F T M nv y.now
 lt:∀b∈F,0<b∧b<w.heap.size
theorem TxAt.frame {w w':World}{T:Nat}{F:List Nat}{D:Nat}{y:TxS}(h:TxAt w T F D y)(hb:∀b∈F,w'.heap[b]?=w.heap[b]?)(hs:w.heap.size≤w'.heap.size):TxAt w' T F D y:=by
 obtain⟨ok,⟨M,wv,nv,bT,hT,hM,hMT,⟨E,hE,hO⟩,hw,hn⟩,lt⟩:=h;have sl:∀v l,SlB w F T M v l→SlB w' F T M v l:=by
  rintro v l ⟨A,c,h1,h2,h3⟩;refine⟨A,c,h1,?_,h3⟩
  rcases h2 with h2|⟨b,off,rfl,hl,hc⟩
  ·exact .inl h2
  ·have hbF:=(h3 _ rfl).1;exact .inr ⟨b,off,rfl,zhR hl hs,fun k u hu=>(World.cell?_of_block (w:=w) (a:=⟨b,off+k,none⟩) (hb b hbF)).trans (hc k u hu)⟩
 exact⟨ok,⟨M,wv,nv,(hb T hT).trans bT,hT,hM,hMT,⟨E,hE,z0j hO (hb M hM)⟩,sl _ _ hw,sl _ _ hn⟩,fun b hm=>⟨(lt b hm).1,zhR (lt b hm).2 hs⟩⟩
theorem TxAt.below {w w':World}{T:Nat}{F:List Nat}{D:Nat}{y:TxS}(h:TxAt w T F D y)(hb:Below w.heap.size w w'):TxAt w' T F D y:=
 h.frame (fun b hm=>hb.block b (h.lt b hm).2) hb.size
theorem TxAt.alloc {w:World}{T:Nat}{F:List Nat}{D:Nat}{y:TxS}(h:TxAt w T F D y)(o:Obj):TxAt (w.alloc o) T F D y:=h.below ((zho _ _).alloc (zhT _) _)
theorem TxAt.drew {w:World}{T:Nat}{F:List Nat}{D:Nat}{y:TxS}(h:TxAt w T F D y):TxAt w.drew T F D y:=h.below (zho _ _).drew
theorem TxAt.set_ {w:World}{T:Nat}{F:List Nat}{D:Nat}{y:TxS}(h:TxAt w T F D y){p:Addr}(hp:p.block∉F)(u:Value):TxAt (w.setCell p u) T F D y:=
 h.frame (fun b hm=>Below.heap_setCell w p u b (fun e=>by subst e;exact hp hm)) (by simp)
theorem TxAt.row {w:World}{T:Nat}{F:List Nat}{D:Nat}{y:TxS}(h:TxAt w T F D y){g:Nat}(hp:g∉F)(cs:Array Value):TxAt (w.setRow g cs) T F D y:=
 h.frame (fun b hm=>z0b w g b cs (fun e=>by subst e;exact hp hm)) (by simp)
theorem TxAt.far {w:World}{T:Nat}{F:List Nat}{D:Nat}{y:TxS}(h:TxAt w T F D y){g:Nat}(hg:w.heap.size≤g):g∉F:=fun hm=>by have:=(h.lt g hm).2;omega
theorem TxAt.grow {w w':World}{T:Nat}{F B B':List Nat}{D:Nat}{y:TxS}(h:TxAt w T F D y)(g:Grow w B w' B')(hn:∀b∈F,b∉B):TxAt w' T F D y:=
 h.frame (fun b hm=>g.keep.block b (h.lt b hm).2 (hn b hm)) g.keep.size
theorem DevAt.grow {w w':World}{D:Nat}{B F F':List Nat}{x:DevS}(h:DevAt w D B x)(g:Grow w F w' F')(hn:∀b∈F,b∉B)(h0:0∉F):DevAt w' D B x:=
 h.frame (fun b hm=>g.keep.block b (by rcases hm with hm|rfl;exact(h.lt b hm).2;exact h.half.1) (fun hf=>by rcases hm with hm|rfl;exact hn b hf hm;exact h0 hf)) g.keep.size
def StE (w:World)(tv:Value)(E:Int):Prop:=
 (tv=.pointer none∧E=1)∨(∃T cs,tv=.pointer (some ⟨T,0,none⟩)∧Blk w T 148 cs∧((E=1∧cs[17]?=some (.map none))∨(∃M br en,cs[17]?=some (.map (some M))∧cs[19]?=some (.bool br)∧cs[20]?=some (.bool en)∧E=if br||en then 9 else 0)))
theorem TxAt.st {w:World}{T:Nat}{F:List Nat}{D:Nat}{y:TxS}(h:TxAt w T F D y):StE w (.pointer (some ⟨T,0,none⟩)) y.stateE:=by
 obtain⟨ok,⟨M,wv,nv,bT,-⟩,lt⟩:=h;exact .inr ⟨T,_,rfl,bT,.inr ⟨M,y.broken,y.ended,rfl,rfl,rfl,rfl⟩⟩
theorem StE.below {w w':World}{tv:Value}{E:Int}(h:StE w tv E)(hb:Below w.heap.size w w'):StE w' tv E:=by
 rcases h with h|⟨T,cs,h1,bT,h⟩
 ·exact .inl h
 ·exact .inr ⟨T,cs,h1,bT.belowAll hb,h⟩
theorem z19 (tv:Value)(E:Int)(w:World)(h:StE w tv E):
  Calls prog 90 #[tv] w fun e w'=>e=.returned (.int .i64 E)∧Below w.heap.size w w':=by
 have qT:∀(w:World) (r:Option Nat),(binOp .eql 146 (.map r) (.map none)).run prog w=.ok (.bool r.isNone) w:=fun w r=>run_eql_map_nil w _ _ _ r underlying146
 rcases h with ⟨rfl,rfl⟩|⟨T,cs,rfl,bT,h⟩
 ·go_enter func90,ntmps90
  go_wp2_with fail
  go_ret
  exact⟨rfl,by (repeat' (first|with_reducible (first|exact zho _ _|assumption|refine zhp ?_ ?_ _|refine zhq ?_|refine z00 ?_ _|refine zhr ?_ ?_ _|exact zhT _)|omega|(simp;done)|(simp;omega)))⟩
 ·have cT:=bT.cells;have lT:=bT.lt;rcases h with ⟨rfl,h17⟩|⟨M,br,en,h17,h19,h20,rfl⟩
  ·have c17:w.cell? ⟨T,17,none⟩=some (.map none):=(cT 17).trans h17;clear cT h17 bT;go_enter func90,ntmps90
   go_wp2_with fail
   go_ret
   exact⟨rfl,by (repeat' (first|with_reducible (first|exact zho _ _|assumption|refine zhp ?_ ?_ _|refine zhq ?_|refine z00 ?_ _|refine zhr ?_ ?_ _|exact zhT _)|omega|(simp;done)|(simp;omega)))⟩
  ·have c17:w.cell? ⟨T,17,none⟩=some (.map (some M)):=(cT 17).trans h17;have c19:w.cell? ⟨T,19,none⟩=some (.bool br):=(cT 19).trans h19;have c20:w.cell? ⟨T,20,none⟩=some (.bool en):=(cT 20).trans h20;clear cT h17 h19 h20 bT;cases br<;>cases en
   all_goals
    go_enter func90,ntmps90
    go_wp2_with fail
    go_ret
    exact⟨rfl,by (repeat' (first|with_reducible (first|exact zho _ _|assumption|refine zhp ?_ ?_ _|refine zhq ?_|refine z00 ?_ _|refine zhr ?_ ?_ _|exact zhT _)|omega|(simp;done)|(simp;omega)))⟩
theorem TxS.Ok.bds {y:TxS}(h:y.Ok):64≤y.s∧y.s≤256∧8≤y.j∧y.j≤96∧1≤y.i∧y.i≤60∧8≤y.s - (2+y.j+y.i)∧(y.was.length:Int)=y.s - (2+y.j+y.i)∧(y.now.length:Int)=y.s - (2+y.j+y.i):=by
 have h1:=z10 h.rg;have h2:rgB y.s y.j y.i=y.s - (2+y.j+y.i):=(z3R h.rg).2.2.2.2;have h3:=h.was;have h4:=h.now;omega
theorem TxS.Ok.left_bds {y:TxS}(h:y.Ok):0≤y.left∧y.left≤80∧(y.writes.length:Int)≤80:=by
 have h1:=h.len;have h2:=h.bds;have e:y.left=min (y.j - 2) 80 - y.writes.length - (if y.changed then 1 else 0):=rfl
 cases hc:y.changed
 ·rw[hc,if_neg (by simp)]at e;omega
 ·rw[hc,if_pos rfl]at e;omega
theorem z5v (T:Nat)(F:List Nat)(D:Nat)(y:TxS)(w:World)(h:TxAt w T F D y):
  Calls prog 93 #[.pointer (some ⟨T,0,none⟩)] w fun e w'=>e=.returned (.int .i64 y.left)∧Below w.heap.size w w':=by
 have hb:=h.ok.bds;have hl:=h.ok.left_bds;have hlf:y.left=min (y.j - 2) 80 - y.writes.length - (if y.changed then 1 else 0):=rfl
 obtain⟨ok,⟨M,wv,nv,bT,hT,hM,hMT,⟨E,hE,hO⟩,hw,hn⟩,lt⟩:=h;have cT:=bT.cells;have lT:=bT.lt;have c2:w.cell? ⟨T,2,none⟩=some (.int .i64 y.j):=(cT 2).trans rfl;have c17:w.cell? ⟨T,17,none⟩=some (.map (some M)):=(cT 17).trans rfl;have c18:w.cell? ⟨T,18,none⟩=some (.bool y.changed):=(cT 18).trans rfl;have hln:=fun (n:Nat) ty=>World.ownsMap.len (w:=w.drewN n) (z0j hO (by simp)) underlying146 ty
 have hszE:=hE.size_;simp only[hszE]at hln;clear cT bT ok hw hn hE hszE hO;have hj1:IntKind.i64.wrap (y.j - 2)=y.j - 2:=by rw[IntKind.wrap_i64];omega
 generalize hm:min (y.j - 2) 80=m at *;go_enter func93,ntmps93
 go_wp2_with fail
 have hj2:IntKind.i64.wrap (m - y.writes.length)=m - y.writes.length:=by rw[IntKind.wrap_i64];omega
 go_quiet (fail)
 cases hch:y.changed
 ·rw[hch]at c18 hlf;rw[if_neg (by simp)]at hlf
  go_wp2_with fail
  go_ret
  exact⟨by rw[hlf,Int.sub_zero];rfl,by (repeat' (first|with_reducible (first|exact zho _ _|assumption|refine zhp ?_ ?_ _|refine zhq ?_|refine z00 ?_ _|refine zhr ?_ ?_ _|exact zhT _)|omega|(simp;done)|(simp;omega)))⟩
 ·rw[hch]at c18 hlf;rw[if_pos rfl]at hlf;have hj3:IntKind.i64.wrap (m - y.writes.length - 1)=m - y.writes.length - 1:=by rw[IntKind.wrap_i64];omega
  go_wp2_with fail
  go_ret
  exact⟨by rw[hlf];rfl,by (repeat' (first|with_reducible (first|exact zho _ _|assumption|refine zhp ?_ ?_ _|refine zhq ?_|refine z00 ?_ _|refine zhr ?_ ?_ _|exact zhT _)|omega|(simp;done)|(simp;omega)))⟩
theorem z0h {P:Program}{o:Oper}{a:Act}{w w':World}{K:Act→World→Prop}{Q:Exit→Act→World→Prop}(ty:TypeId)(x y:Operand)(ho:o.op=.store ty x y)(p v:Value)
  (hx:a.eval x=p) (hy:a.eval y=v) (hrun:(Instr.storeAt ty p v).run P w=.ok () w') (h:K (a.put o.dst undef) w'):o.wp P a w K Q:=by
 unfold Oper.wp execOp;simp only[ho,hx,hy,Sem.run_bind,Sem.run_pure,Result.andThen_ok,hrun];exact h
theorem z0y {w:World}{base base':Nat}{e:TypeId}{size:Nat}{v:Value}{n:Nat}{xs:List Value}(h:w.ownsRow base e size v n xs)(hb:base'≤base):w.ownsRow base' e size v n xs:=
 ⟨h.1,h.2.imp id fun ⟨g,cap,cur,h1,h2,h3⟩=>⟨g,cap,cur,h1,zhS hb h2,h3⟩⟩
theorem Reads.some_ {w:World}{A:Option Addr}{xs:List Value}(h:Reads w A xs)(hn:0<xs.length):A≠none:=by
 rcases h with rfl|⟨b,off,rfl,-⟩
 ·simp at hn
 ·simp
theorem zbe (tv:Value)(E:Int)(w:World)(h:StE w tv E)(hE:E≠0):
  Calls prog 70 #[tv] w fun e w'=>e=.returned (.tuple #[.agg #[.int .i64 0,.int .i64 0,.int .i64 0,.slice none 0 0],.int .i64 E])∧Below w.heap.size w w':=by
 obtain⟨wA,hA⟩:∃wA,wA=w.alloc (.cells #[.int .i64 0,.int .i64 0,.int .i64 0,.slice none 0 0] 47):=⟨_,rfl⟩;have bR:Blk wA w.heap.size 47 #[.int .i64 0,.int .i64 0,.int .i64 0,.slice none 0 0]:=by rw[hA];exact(by (repeat' (first|(with_reducible assumption)|exact Blk.new' (by simp)|refine Blk.alloc ?_ _)))
 have BA:Below w.heap.size w wA:=by rw[hA];(repeat' (first|with_reducible (first|exact zho _ _|assumption|refine zhp ?_ ?_ _|refine zhq ?_|refine z00 ?_ _|refine zhr ?_ ?_ _|exact zhT _)|omega|(simp;done)|(simp;omega)))
 have hst:=z19 tv E wA (h.below BA);have hE':(E != 0)=true:=by simpa using hE
 clear hE;go_enter func70,ntmps70
 go_wp2_with fail
 rw[←hA];go_wp2_with fail
 refine hst.mono ?_;rintro e w1 ⟨rfl,hb1⟩;have B1:=BA.trans (hb1.mono BA.size);have bR1:=bR.belowAll hb1;clear hA hst hb1 bR BA;have cR:=bR1.cells;have lR:=bR1.lt;have hst:=z1L (ty:=47) (vs:=#[.int .i64 0,.int .i64 0,.int .i64 0,.slice none 0 0]) bR1 rfl (by simp[Value.oneCell']) (by kernel_rfl)
 go_wp2_with (refine z01 rfl _ _ _ rfl _ _ rfl rfl hst ?_)
 have cF:=(bR1.setRow (cs':=#[.int .i64 0,.int .i64 0,.int .i64 0,.slice none 0 0])).cells;refine bodyPost_ret (v:=.tuple #[.agg #[.int .i64 0,.int .i64 0,.int .i64 0,.slice none 0 0],.int .i64 E]) (by simp[results,results70,go_sem,cF]) rfl ?_
 exact⟨rfl,Below.setRow B1 (zhT _) _⟩
theorem zdD (T:Nat)(F:List Nat)(D:Nat)(y:TxS)(w:World)(h:TxAt w T F D y)(hE:y.stateE=0):
  Calls prog 70 #[.pointer (some ⟨T,0,none⟩)] w fun e w'=>∃v,e=.returned (.tuple #[.agg #[.int .i64 y.s,.int .i64 y.j,.int .i64 y.i,v],.int .i64 0])∧w'.ownsRow w.heap.size 4 1 v y.now.length (y.now.map .bool)∧Below w.heap.size w w':=by
 have hbd:=h.ok.bds;obtain⟨wA,hA⟩:∃wA,wA=w.alloc (.cells #[.int .i64 0,.int .i64 0,.int .i64 0,.slice none 0 0] 47):=⟨_,rfl⟩;have bR:Blk wA w.heap.size 47 #[.int .i64 0,.int .i64 0,.int .i64 0,.slice none 0 0]:=by rw[hA];exact(by (repeat' (first|(with_reducible assumption)|exact Blk.new' (by simp)|refine Blk.alloc ?_ _)))
 have BA:Below w.heap.size w wA:=by rw[hA];(repeat' (first|with_reducible (first|exact zho _ _|assumption|refine zhp ?_ ?_ _|refine zhq ?_|refine z00 ?_ _|refine zhr ?_ ?_ _|exact zhT _)|omega|(simp;done)|(simp;omega)))
 have hA1:=h.below BA;have hst:=z19 _ _ wA hA1.st;rw[hE]at hst;go_enter func70,ntmps70
 go_wp2_with fail
 rw[←hA];go_wp2_with fail
 refine hst.mono ?_;rintro e w1 ⟨rfl,hb1⟩;have B1:=BA.trans (hb1.mono BA.size);have bR1:=bR.belowAll hb1;obtain⟨ok,⟨M,wv,nv,bT,hT,hM,hMT,hO,hw,⟨A,c,rfl,hn,hnF⟩⟩,lt⟩:=hA1.below hb1;have hzA:wA.heap.size=w.heap.size+1:=by rw[hA];simp
 clear hA hst hb1 bR BA hA1;have cT:=bT.cells;have lT:=bT.lt;have c1:w1.cell? ⟨T,1,none⟩=some (.int .i64 y.s):=(cT 1).trans rfl;have c2:w1.cell? ⟨T,2,none⟩=some (.int .i64 y.j):=(cT 2).trans rfl;have c3:w1.cell? ⟨T,3,none⟩=some (.int .i64 y.i):=(cT 3).trans rfl;have c16:w1.cell? ⟨T,16,none⟩=some (.slice A y.now.length c):=(cT 16).trans rfl;clear cT bT hO hw;go_wp2_with fail
 refine z06 [.take 0,.take 1,.take 2,.take 3,.take 4,.take 5,.take 6,.take 7,.take 8,.take 9,.one 10,.one 11,.one 12,.one 13] 12 (fun w'=>w'.cell? ⟨T,1,none⟩=some (.int .i64 y.s)∧w'.cell? ⟨T,2,none⟩=some (.int .i64 y.j)∧w'.cell? ⟨T,3,none⟩=some (.int .i64 y.i)∧w'.cell? ⟨T,16,none⟩=some (.slice A y.now.length c)) (by kernel_rfl) (by kernel_rfl) (fun _ _ _ _ _ h=>h) ⟨c1,c2,c3,c16⟩ ?_
 simp only[zhY,zhZ,Ms.fill,zhy,zhz];iterate 10 (refine z04 (by rfl) ?_ (fun w' hw'=>?_) ?_;rotate_left;(focus (go_simp;(try with_reducible rfl)));(try simp only[Act.put,zht,zhu,zhv]))
 refine z05 (by rfl) fun K hK=>?_
 go_simp;refine(z4v A c y.now w1.drew (Reads.below hn (zho _ _).drew) (hn.some_ (by rw[zhX];omega)) (by omega)).mono ?_
 rintro e w2 ⟨v,rfl,ho,hb2⟩;obtain⟨g,cap,rfl⟩:∃g cap,v=.slice (some ⟨g,0,none⟩) y.now.length cap:=by
  rcases ho.2 with ⟨-,h0⟩|⟨g,cap,cur,hv,-⟩
  ·omega
  ·exact⟨g,cap,hv⟩
 have B12:Below w1.heap.size w1 w2:=(zho _ _).drew.trans hb2;have B2:=B1.trans (B12.mono B1.size);have bR2:=bR1.belowAll B12;refine hK _ _ (fun _=>⟨?_,?_,?_,?_⟩) ?_
 focus (exact(B12.cell (p:=⟨T,1,none⟩) lT).trans c1)
 focus (exact(B12.cell (p:=⟨T,2,none⟩) lT).trans c2)
 focus (exact(B12.cell (p:=⟨T,3,none⟩) lT).trans c3)
 focus (exact(B12.cell (p:=⟨T,16,none⟩) lT).trans c16)
 clear hK K;refine z05 (by rfl) fun K hK=>?_
 go_simp;refine hK _ _ (fun _=>⟨?_,?_,?_,?_⟩) ?_
 focus (exact(B12.cell (p:=⟨T,1,none⟩) lT).trans c1)
 focus (exact(B12.cell (p:=⟨T,2,none⟩) lT).trans c2)
 focus (exact(B12.cell (p:=⟨T,3,none⟩) lT).trans c3)
 focus (exact(B12.cell (p:=⟨T,16,none⟩) lT).trans c16)
 clear hK K;refine z05 (by rfl) fun K hK=>?_
 have hst:=z1L (ty:=47) (vs:=#[.int .i64 y.s,.int .i64 y.j,.int .i64 y.i,.slice (some ⟨g,0,none⟩) y.now.length cap]) bR2 rfl (by simp[Value.oneCell']) (by kernel_rfl)
 have cF:=(bR2.setRow (cs':=#[.int .i64 y.s,.int .i64 y.j,.int .i64 y.i,.slice (some ⟨g,0,none⟩) y.now.length cap])).cells;refine z0h _ _ _ rfl _ _ rfl rfl hst ?_;refine hK _ _ (fun h=>absurd h (by decide)) ?_
 clear hK K;refine z05 (by rfl) fun K hK=>?_
 go_simp;refine hK _ _ (fun h=>absurd h (by decide)) ?_
 clear hK K;refine z0f ?_;go_wp2_with fail
 refine bodyPost_ret (v:=.tuple #[.agg #[.int .i64 y.s,.int .i64 y.j,.int .i64 y.i,.slice (some ⟨g,0,none⟩) y.now.length cap],.int .i64 0]) (by simp[results,results70,go_sem,cF]) rfl ?_
 have z1:=B1.size;have z2:=bR1.lt;refine⟨_,rfl,?_,Below.setRow B2 (zhT _) _⟩
 have hg:w1.heap.size≤g:=(ho.lt g rfl).1;refine z0y (base:=w1.drew.heap.size) (z0c ho fun g' e=>?_) (show w.heap.size≤w1.heap.size from z1)
 cases e;exact z0b _ _ _ _ (show g≠w.heap.size by omega)
theorem zaN (w:World)(s:ByteArray):∃w' c,(convert 9 113 (.string s)).run prog w=.ok (.slice (some ⟨w.heap.size,0,none⟩) s.size c) w'∧Below w.heap.size w w'∧Reads w' (some ⟨w.heap.size,0,none⟩) ((strL s).map (.int .u8)):=by
 refine⟨_,_,run_bytes_of_string w 9 113 5 s underlying9 underlying113 underlying5,(zho _ _).drew.alloc (zhT _) _,?_⟩
 refine .inr ⟨w.heap.size,0,rfl,by simp,fun j u hu=>?_⟩
 have hj:j<s.size:=by
  have:=(zhM.1 hu).1
  rwa [zhX,z17]at this
 have hb:=bytesRow_at s (grownCap w s.size 0 5) j hj;have b:∀(w:World) (cs:Array Value) (q:Nat × Nat),(w.alloc (.cells cs 5 q)).cell? ⟨w.heap.size,j,none⟩=cs[j]?:=fun w cs q=>by
  unfold World.cell?;rw[hp1 w (.cells cs 5 q)];rfl
 rw[zi8];refine(b w.drew _ _).trans ?_;rw[hb,←hu];unfold strL;have hj':j<s.data.toList.length:=hj;simp[zi1,zhx hj']
def z3P (d:ByteArray)(nb:Nat):Prop:=(strL d).length=96∧z1X (strL d) nb 768
def DevS.beginE (x:DevS)(s j i:Int)(E:Int):Prop:=
 (z0R x.stable.length s j i≠0∧E=z0R x.stable.length s j i) ∨
 (z0R x.stable.length s j i=0∧x.ge (1+j)≠0∧E=x.ge (1+j)) ∨
 (z0R x.stable.length s j i=0∧x.ge (1+j)=0∧¬(z3P (x.fr (1+j)).data (rgB s j i).toNat∧(x.fr (1+j)).kind=5)∧E=6) ∨
 (z0R x.stable.length s j i=0∧x.ge (1+j)=0∧z3P (x.fr (1+j)).data (rgB s j i).toNat∧(x.fr (1+j)).kind=5∧E=0)
def DevS.begins (x:DevS)(s j i:Int):TxS:=
 ⟨s,j,i,decS (strL (x.fr (1+j)).data) (rgB s j i).toNat 768,decS (strL (x.fr (1+j)).data) (rgB s j i).toNat 768,[],false,false,false⟩
def z63 (w:World)(D:Nat)(s j i:Int)(x:DevS)(e:Ending)(w':World):Prop:=
 Below w.heap.size w w'∧∃E,x.beginE s j i E∧((E≠0∧e=.returned (.tuple #[.pointer none,.int .i64 E])) ∨
  (E=0∧∃T F,e=.returned (.tuple #[.pointer (some ⟨T,0,none⟩),.int .i64 0])∧TxAt w' T F D (x.begins s j i)∧∀b∈F,w.heap.size≤b))
theorem z6N (D:Nat)(s j i:Int)(B:List Nat)(x:DevS)(w:World)(h:DevAt w D B x)(hsz:(x.fr (1+j)).data.size≤1000):
  Calls prog 37 #[.pointer (some ⟨D,0,none⟩),.agg #[.int .i64 s,.int .i64 j,.int .i64 i]] w (z63 w D s j i x):=by
 obtain⟨wA,hA⟩:∃wA,wA=w.alloc (.cells #[.int .i64 s,.int .i64 j,.int .i64 i] 23):=⟨_,rfl⟩;have bL:Blk wA w.heap.size 23 #[.int .i64 s,.int .i64 j,.int .i64 i]:=by rw[hA];exact(by (repeat' (first|(with_reducible assumption)|exact Blk.new' (by simp)|refine Blk.alloc ?_ _)))
 have BA:Below w.heap.size w wA:=by rw[hA];(repeat' (first|with_reducible (first|exact zho _ _|assumption|refine zhp ?_ ?_ _|refine zhq ?_|refine z00 ?_ _|refine zhr ?_ ?_ _|exact zhT _)|omega|(simp;done)|(simp;omega)))
 have hfi:=zaS D s j i B x wA (h.below BA);have cL:=bL.cells;have lL:=bL.lt;by_cases hE:z0R x.stable.length s j i=0
 rotate_left
 ·have HB:Hid (x.beginE s j i (z0R x.stable.length s j i)):=zhs (.inl ⟨hE,rfl⟩);have HN:=zhs hE;have hv:z5s D x.stable.length s j i=PV none 0 0 0 0 0 0 0 0:=by unfold z5s;rw[if_neg hE];rfl
  rw[hv]at hfi;generalize z0R x.stable.length s j i=E at *;have hE':(E != 0)=true:=by simpa using hE
  clear hE hv;unfold z63;go_enter func37,ntmps37
  go_wp2_with fail
  rw[←hA];go_wp2_with fail
  refine hfi.mono ?_;rintro e w1 ⟨rfl,hb1⟩;have B1:=BA.trans (hb1.mono BA.size);clear hA;go_wp2_with fail
  go_ret2
  exact⟨B1.alloc B1.size _,E,HB.out,.inl ⟨HN.out,rfl⟩⟩
 obtain⟨hrg,hns⟩:=z36 hE;have hbd:=z10 hrg;obtain⟨r1,r2,r3,r4,r5⟩:=z3R hrg;have hv:z5s D x.stable.length s j i=PV (some ⟨D,0,none⟩) s j i 1 (1+j) (2+j) (2+j+i) (s - (2+j+i)):=by unfold z5s ze9;rw[if_pos hE,r1,r2,r3,r4,r5];rfl
 rw[hv,hE]at hfi;have HE:=zhs hE;have HRG:=zhs hrg;clear hE hv r1 r2 r3 r4 r5 hrg;unfold z63;go_enter func37,ntmps37
 go_wp2_with fail
 rw[←hA];go_wp2_with fail
 refine hfi.mono ?_;rintro e w1 ⟨rfl,hb1⟩;have B1:=BA.trans (hb1.mono BA.size);have bL1:=bL.belowAll hb1;clear hA hb1 cL lL bL BA hfi;obtain⟨PB,hPB⟩:∃PB,PB=w1.heap.size:=⟨_,rfl⟩;obtain⟨w2,hw2⟩:∃w2,w2=w1.alloc (.cells (PV (some ⟨D,0,none⟩) s j i 1 (1+j) (2+j) (2+j+i) (s - (2+j+i))) 120):=⟨_,rfl⟩;have bP2:Blk w2 PB 120 (PV (some ⟨D,0,none⟩) s j i 1 (1+j) (2+j) (2+j+i) (s - (2+j+i))):=by rw[hw2,hPB];exact Blk.new _ _ _
 have bL2:Blk w2 w.heap.size 23 #[.int .i64 s,.int .i64 j,.int .i64 i]:=by rw[hw2];exact bL1.alloc _
 have B2:Below w.heap.size w w2:=by rw[hw2];exact B1.alloc B1.size _
 go_wp2_with fail
 rw[←hw2,←hPB];clear hw2 hPB bL1 B1;have cP:=bP2.cells;have lP:=bP2.lt;go_wp2_with fail
 refine(z4h D B x (1+j) w2 (h.below B2)).mono ?_;rintro e w3 ⟨hb3,rfl⟩;have B3:=B2.trans (hb3.mono B2.size);have bP3:=bP2.belowAll hb3;have bL3:=bL2.belowAll hb3;clear cP lP bP2 bL2 hb3 B2;have HBG:Hid (x.begins s j i=⟨s,j,i,decS (strL (x.fr (1+j)).data) (rgB s j i).toNat 768,decS (strL (x.fr (1+j)).data) (rgB s j i).toNat 768,[],false,false,false⟩):=zhs rfl;have HBE:Hid (∀E,x.beginE s j i E↔(z0R x.stable.length s j i≠0∧E=z0R x.stable.length s j i) ∨
 (z0R x.stable.length s j i=0∧x.ge (1+j)≠0∧E=x.ge (1+j)) ∨
 (z0R x.stable.length s j i=0∧x.ge (1+j)=0∧¬(z3P (x.fr (1+j)).data (rgB s j i).toNat∧(x.fr (1+j)).kind=5)∧E=6) ∨
 (z0R x.stable.length s j i=0∧x.ge (1+j)=0∧z3P (x.fr (1+j)).data (rgB s j i).toNat∧(x.fr (1+j)).kind=5∧E=0)):=zhs fun E=>Iff.rfl
 generalize x.ge (1+j)=GE at *;generalize x.fr (1+j)=f at *;obtain⟨fk,fs,fd⟩:=f;simp only at hsz HBG HBE ⊢
 by_cases hG:GE=0
 rotate_left
 ·have hG':(GE != 0)=true:=by simpa using hG
  have HN:=zhs hG;clear hG;go_wp2_with fail
  go_ret2
  exact⟨B3.alloc B3.size _,GE,(HBE.out _).2 (.inr (.inl ⟨HE.out,HN.out,rfl⟩)),.inl ⟨HN.out,rfl⟩⟩
 subst hG;obtain⟨FB,hFB⟩:∃FB,FB=w3.heap.size:=⟨_,rfl⟩;obtain⟨w4,hw4⟩:∃w4,w4=w3.alloc (.cells #[.int .i64 fk,.int .u32 fs,.string fd] 190):=⟨_,rfl⟩;have bF4:Blk w4 FB 190 #[.int .i64 fk,.int .u32 fs,.string fd]:=by rw[hw4,hFB];exact Blk.new _ _ _
 have bP4:Blk w4 PB 120 (PV (some ⟨D,0,none⟩) s j i 1 (1+j) (2+j) (2+j+i) (s - (2+j+i))):=by rw[hw4];exact bP3.alloc _
 have bL4:Blk w4 w.heap.size 23 #[.int .i64 s,.int .i64 j,.int .i64 i]:=by rw[hw4];exact bL3.alloc _
 have B4:Below w.heap.size w w4:=by rw[hw4];exact B3.alloc B3.size _
 have cL3:=bL3.cells;have lL3:=bL3.lt;go_wp2_with fail
 rw[←hw4,←hFB];clear hw4 hFB bP3 bL3 B3 cL3 lL3;have cF:=bF4.cells;have lF:=bF4.lt;have cL:=bL4.cells;have lL:=bL4.lt;obtain⟨w5,cc,hcv,hb5,hR5⟩:=zaN w4 fd;have z4:=B4.size;have hdec:=zcc s j i (some ⟨w4.heap.size,0,none⟩) cc (strL fd) (by rw[z17];simp only[maxLen];omega) w5 hR5
 rw[z17]at hdec;have bF5:=bF4.belowAll hb5;have bP5:=bP4.belowAll hb5;have B5:=B4.trans (hb5.mono z4);go_simp;go_wp2_with fail
 refine hdec.mono ?_;rintro e w6 ⟨hb6,hd6⟩;have bF6:=bF5.belowAll hb6;have bP6:=bP5.belowAll hb6;have B6:=B5.trans (hb6.mono B5.size);have z5:=B5.size;clear hdec hb6 bF5 bP5 B5 hb5 hR5 hcv cF lF cL lL bF4 bP4 bL4 B4;have cF:=bF6.cells;have lF:=bF6.lt;have cP:=bP6.cells;have lP:=bP6.lt;rcases hd6 with ⟨hne,-⟩|⟨-,h96,rfl⟩|⟨-,h96,hna,rfl⟩|⟨-,h96,hna,g,rfl,hg,hR6⟩
 ·exact absurd HRG.out hne
 ·have HX:Hid (¬(z3P fd (rgB s j i).toNat∧fk=5)):=zhs fun hh=>h96 hh.1.1
  clear h96;go_wp2_with fail
  go_ret2
  exact⟨B6.alloc B6.size _,6,(HBE.out _).2 (.inr (.inr (.inl ⟨HE.out,by first|trivial|rfl,HX.out,rfl⟩))),.inl ⟨by decide,rfl⟩⟩
 ·have HX:Hid (¬(z3P fd (rgB s j i).toNat∧fk=5)):=zhs fun hh=>hna hh.1.2
  clear h96 hna;go_wp2_with fail
  go_ret2
  exact⟨B6.alloc B6.size _,6,(HBE.out _).2 (.inr (.inr (.inl ⟨HE.out,by first|trivial|rfl,HX.out,rfl⟩))),.inl ⟨by decide,rfl⟩⟩
 have HMO:Hid (z3P fd (rgB s j i).toNat):=zhs ⟨h96,hna⟩;clear h96 hna;by_cases hk:fk=5
 rotate_left
 ·have HX:Hid (¬(z3P fd (rgB s j i).toNat∧fk=5)):=zhs fun hh=>hk hh.2
  have hk':(fk != 5)=true:=by simpa using hk
  clear hk;go_wp2_with fail
  go_ret2
  exact⟨B6.alloc B6.size _,6,(HBE.out _).2 (.inr (.inr (.inl ⟨HE.out,by first|trivial|rfl,HX.out,rfl⟩))),.inl ⟨by decide,rfl⟩⟩
 subst hk;have hmm:=@run_makeMap prog;go_wp2_with fail
 go_ret2
 clear hmm cF lF cP lP;have z6:=B6.size;obtain⟨o,ho⟩:∃o:Obj,o=.cells #[.int .i64 s,.int .i64 j,.int .i64 i,.slice (some ⟨g,0,none⟩) (rgB s j i).toNat (rgB s j i).toNat] 47:=⟨_,rfl⟩;have hsz1:(w6.alloc o).heap.size=w6.heap.size+1:=by simp
 have hsz2:((w6.alloc o).alloc (.map #[] 0)).heap.size=w6.heap.size+2:=by simp
 have hgl:g<w6.heap.size:=by
  rcases hR6 with h0|⟨b,off,he,hl,-⟩
  ·have h1:=congrArg List.length h0;have h2:=(z3R HRG.out).2.2.2.2;rw[zhX,z18]at h1;simp only[zhP]at h1;omega
  ·cases he;exact hl
 have hwl:w.heap.size≤g:=zhS z5 hg;have hw0:0<w.heap.size:=h.half.1;refine⟨?_,0,(HBE.out _).2 (.inr (.inr (.inr ⟨HE.out,by first|trivial|rfl,HMO.out,by first|trivial|rfl,rfl⟩))),.inr ⟨rfl,w6.heap.size+2,[w6.heap.size+2,w6.heap.size+1,g],?_,?_,?_⟩⟩
 ·exact((B6.alloc B6.size _).alloc (by simp;omega) _).alloc (by simp;omega) _
 ·rfl
 ·have hsl:∀W,Reads W (some ⟨g,0,none⟩) ((decS (strL fd) (rgB s j i).toNat 768).map .bool)→SlB W [w6.heap.size+2,w6.heap.size+1,g] (w6.heap.size+2) (w6.heap.size+1) (.slice (some ⟨g,0,none⟩) (rgB s j i).toNat (rgB s j i).toNat) (decS (strL fd) (rgB s j i).toNat 768):=fun W hW=>
   ⟨some ⟨g,0,none⟩,(rgB s j i).toNat,by rw[z18],hW,fun a ha=>by cases ha;exact⟨by simp,by show g≠_;omega,by show g≠_;omega⟩⟩
  rw[HBG.out];refine⟨⟨HRG.out,z18 _ _ _,z18 _ _ _,fun r hr=>(by cases hr),?_⟩,⟨w6.heap.size+1,.slice (some ⟨g,0,none⟩) (rgB s j i).toNat (rgB s j i).toNat,.slice (some ⟨g,0,none⟩) (rgB s j i).toNat (rgB s j i).toNat,?_,by simp,by simp,by omega,⟨.map [],RecMap.empty,?_⟩,?_,?_⟩,?_⟩
  ·show 0≤min (j - 2) 80 - (([]:List Rec).length:Int) - (if false then 1 else 0)
   simp;omega
  ·exact Blk.new' (by simp)
  ·rw[←hsz1,ho];exact(World.ownsMap_made _ _ _ _).alloc _
  ·exact hsl _ (Reads.below hR6 ((((zho _ _).alloc (zhT _) _).alloc (by simp) _).alloc (by simp;omega) _))
  ·exact hsl _ (Reads.below hR6 ((((zho _ _).alloc (zhT _) _).alloc (by simp) _).alloc (by simp;omega) _))
  ·intro b hb;simp only[List.mem_cons,List.mem_nil_iff,or_false]at hb;simp only[World.size_alloc];rcases hb with rfl|rfl|rfl<;>omega
 ·intro b hb;simp only[List.mem_cons,List.mem_nil_iff,or_false]at hb;rcases hb with rfl|rfl|rfl<;>omega
end Go.Proofs.YtejmknghkbobnaaGreatDoor
