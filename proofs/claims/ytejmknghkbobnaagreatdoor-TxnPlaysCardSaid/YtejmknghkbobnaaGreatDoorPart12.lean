import Derived.Test.YtejmknghkbobnaaGreatDoorPart00
import Derived.Test.YtejmknghkbobnaaGreatDoorPart11
import Derived.Laws.EntriesVeiled
set_option linter.unusedVariables false
set_option linter.unusedSimpArgs false
set_option maxRecDepth 100000
set_option maxHeartbeats 8000000
namespace Go.Proofs.YtejmknghkbobnaaGreatDoor
open Go.Proofs.Tryz
open Go.RowKit Go.Maps
theorem z4y {x:DevS}{l:List (Int × Fr)}{k m:Nat}(h:(x.puts l k).1≠0)(hm:k≤m):x.puts l m=x.puts l k:=by
 induction m with
 | zero=>
  have e:k=0:=by omega
  rw[e]
 | succ m ih=>
  by_cases e:k=m+1
  ·rw[e]
  ·have ih:=ih (by omega)
   show (if (x.puts l m).1≠0 then x.puts l m else _)=_
   rw[ih,if_pos h]
theorem z4u {x:DevS}{l:List (Int × Fr)}{k:Nat}(h:(x.puts l k).1=0){a:Int}{f:Fr}(hk:l.getD k default=(a,f)):x.puts l (k+1)=(x.puts l k).2.put a f.kind f.seq f.data:=by
 show (if (x.puts l k).1≠0 then _ else _)=_
 rw[if_neg (by rw[h];simp),hk]
theorem zav {F q:Int}{l:List Rec}{k:Nat}(hk:k<l.length):(logL F q l).getD k default=(F+1+k,⟨2,q,logS l[k]⟩):=by
 unfold logL;simp[zhw,hk]
theorem z1Q (F q:Int)(l:List Rec):(logL F q l).length=l.length:=by unfold logL;simp
theorem zds (r:Rec):logS r=z0k r.at_++strOfNums [r.kind % 256]++r.data:=by
 apply ByteArray.ext
 simp only[logS,bstr,ByteArray.data_append]
theorem z9k {n F Z:Int}{l:List Rec}(h:z0X n F Z l=0):(l.length:Int)≤z0Z Z∧∀k (hk:k<l.length),recE n F Z (l.take k) l[k]=0:=by
 unfold z0X at h;split at h
 ·omega
 ·rename_i hm
  refine⟨by omega,fun k hk=>?_⟩
  have hz:∀m,m≤l.length→z0N n F Z l m=0:=fun m hm=>by
   by_cases e:z0N n F Z l m=0
   ·exact e
   ·exact absurd ((z4M e hm).symm.trans h) e
  rw[←z3K (hz k (by omega)) hk]
  exact hz (k+1) (by omega)
theorem z8J {n F Z:Int}{l:List Rec}{r:Rec}(h:recE n F Z l r=0):¬(F≤r.at_∧r.at_<F+Z)∧0≤r.at_∧r.at_<n∧1≤r.kind∧r.kind≤255∧r.data.size≤96∧r.at_∉l.map (·.at_):=by
 unfold recE at h;split at h
 ·omega
 ·split at h
  ·omega
  ·split at h
   ·omega
   ·split at h
    ·omega
    ·exact⟨by assumption,by omega,by omega,by omega,by omega,by omega,by assumption⟩
theorem z3E (x:DevS)(F Z:Int):0≤(x.head F Z).2∧(x.head F Z).2<4294967296:=by
 unfold DevS.head;split
 ·exact⟨Int.le_refl 0,by show (0:Int)<4294967296;decide⟩
 ·split
  ·exact⟨Int.le_refl 0,by show (0:Int)<4294967296;decide⟩
  ·split
   ·exact⟨Int.le_refl 0,by show (0:Int)<4294967296;decide⟩
   ·exact zfE x F
theorem z2s {x:DevS}{F Z:Int}(h:(x.head F Z).1=0):0≤F∧F≤256 - Z∧8≤Z∧Z≤96:=by
 unfold DevS.head at h;by_cases hc:z0p F Z=0
 ·unfold z0p at hc;split at hc<;>omega
 ·rw[if_pos hc]at h;exact absurd h hc
theorem Grow.uncons {w wL W:World}{g:Nat}{B B':List Nat}(h:Grow wL (g::B) W (g::B'))(hb:Below w.heap.size w wL)(hg:w.heap.size≤g):Grow w B W B':=
 ⟨⟨h.keep.os.trans hb.os,h.keep.tape.trans hb.tape,h.keep.output.trans hb.output,zhS hb.size h.keep.size,fun k hk hn=>(h.keep.block k (zhR hk hb.size) (z2k (by omega) hn)).trans (hb.block k hk)⟩,
  fun b hm=>by
   rcases h.new b (zhJ _ hm)with e|e
   ·rcases List.mem_cons.1 e with rfl|e
    ·exact .inr hg
    ·exact .inl e
   ·exact .inr (zhS hb.size e)⟩
theorem z2w {p:Int × DevS}(h:p.1=0):DevS.done p=p.2.flush:=by unfold DevS.done;rw[if_neg (by rw[h];simp)]
theorem z3f {p:Int × DevS}(h:p.1≠0):DevS.done p=p:=by unfold DevS.done;rw[if_pos h]
theorem zbB {W:World}{g:Nat}{t:TypeId}{v:Int}(b:Blk W g t #[.int .u8 v]):(convert 113 9 (.slice (some ⟨g,0,none⟩) 1 1)).run prog W=.ok (.string (strOfNums [v])) W:=
 z1T (some ⟨g,0,none⟩) 1 1 [v] rfl W (.inr ⟨g,0,rfl,b.lt,fun j u hu=>by rw[zi8,b.cells];simpa using hu⟩)
theorem Reads.grow {w w':World}{F F':List Nat}{A:Option Addr}{xs:List Value}(h:Reads w A xs)(g:Grow w F w' F')(hA:∀ad,A=some ad→ad.block∉F):Reads w' A xs:=by
 rcases h with h|⟨b,off,hb,hlt,hc⟩
 ·exact .inl h
 ·exact .inr ⟨b,off,hb,zhR hlt g.keep.size,fun j u hu=>(World.cell?_of_block (w:=w) (a:=⟨b,off+j,none⟩) (g.keep.block b hlt (hA _ hb))).trans (hc j u hu)⟩
theorem zgf (D:Nat)(F Z:Int)(B:List Nat)(x:DevS)(A:Option Addr)(c:Nat)(l:List Rec)(hok:z37 l)(w:World)(h:DevAt w D B x)(hr:RunAt w A l)(hAB:∀ad,A=some ad→ad.block∉B):
  Calls prog 123 #[.pointer (some ⟨D,0,none⟩),.agg #[.int .i64 F,.int .i64 Z],.slice A l.length c] w (z1j w D B (x.log F Z l)):=by
 have hmf:∀(fn:Fn) (first cap:Array Value) (w:World),(Instr.makeFunc fn first cap).run prog w=.ok (.func fn first cap) w:=fun _ _ _ _=>rfl
 have hl1:=hok.1;obtain⟨wA,hA⟩:∃wA,wA=((w.alloc (.cells #[.pointer (some ⟨D,0,none⟩)] 27)).alloc (.cells #[.int .i64 F,.int .i64 Z] 109)).alloc (.cells #[.slice A l.length c] 48):=⟨_,rfl⟩;have bP:Blk wA w.heap.size 27 #[.pointer (some ⟨D,0,none⟩)]:=by rw[hA];exact(by (repeat' (first|(with_reducible assumption)|exact Blk.new' (by simp)|refine Blk.alloc ?_ _)))
 have bJ:Blk wA (w.heap.size+1) 109 #[.int .i64 F,.int .i64 Z]:=by rw[hA];exact(by (repeat' (first|(with_reducible assumption)|exact Blk.new' (by simp)|refine Blk.alloc ?_ _)))
 have bR:Blk wA (w.heap.size+1+1) 48 #[.slice A l.length c]:=by rw[hA];exact Blk.new' (by simp)
 have BA:Below w.heap.size w wA:=by rw[hA];(repeat' (first|with_reducible (first|exact zho _ _|assumption|refine zhp ?_ ?_ _|refine zhq ?_|refine z00 ?_ _|refine zhr ?_ ?_ _|exact zhT _)|omega|(simp;done)|(simp;omega)))
 have zA:wA.heap.size=w.heap.size+3:=by rw[hA];simp
 have hdA:=h.below BA;have hhead:=z85 D F Z B x wA hdA;have hq:=z3E x F Z;unfold z1j;have cP:=bP.cells;have cJ:=bJ.cells;have cR:=bR.cells;have lP:=bP.lt;have lJ:=bJ.lt;have lR:=bR.lt;have ZA:=zhs zA;clear zA;go_enter func123,ntmps123
 go_wp2_with fail
 rw[←hA];clear hA;go_wp2_with fail
 refine hhead.mono ?_;rintro e w1 ⟨rfl,hb1⟩;have B1:=BA.trans (hb1.mono BA.size);have bP1:=bP.belowAll hb1;have bJ1:=bJ.belowAll hb1;have bR1:=bR.belowAll hb1;have hd1:=h.below B1;have z1:w.heap.size+3≤w1.heap.size:=by have:=hb1.size;have:=ZA.out;omega
 clear hb1 cP cJ cR lP lJ lR bP bJ bR hdA hhead BA ZA;by_cases hE:(x.head F Z).1=0
 rotate_left
 ·have HL:Hid (x.log F Z l=((x.head F Z).1,x)):=zhs (by unfold DevS.log;rw[if_pos hE])
  generalize (x.head F Z).1=E at *;generalize (x.head F Z).2=q at *;have hE':(E != 0)=true:=by simpa using hE
  clear hE;go_wp2_with fail
  go_ret
  exact⟨by rw[HL.out];rfl,B,by rw[HL.out];exact hd1.alloc _,Grow.of_below (B1.alloc B1.size _) B⟩
 have hFZ:=z2s hE;have HL1:Hid (x.log F Z l=if z0X x.stable.length F Z l≠0 then (z0X x.stable.length F Z l,x)else if (x.puts (logL F (next (x.head F Z).2) l) l.length).1≠0 then x.puts (logL F (next (x.head F Z).2) l) l.length else DevS.done ((x.puts (logL F (next (x.head F Z).2) l) l.length).2.put (F+1+l.length) 3 (next (x.head F Z).2) (z0k l.length))):=zhs (by unfold DevS.log;rw[if_neg (by rw[hE];simp)])
 rw[hE];clear hE;generalize (x.head F Z).2=q at *;have bQ1:Blk (w1.alloc (.cells #[.int .u32 q] 188)) w1.heap.size 188 #[.int .u32 q]:=Blk.new _ _ _;have hval:=zcG D F Z (by omega) B x A c l hok (w1.alloc (.cells #[.int .u32 q] 188)) (hd1.alloc _) (Reads.below hr (B1.alloc B1.size _))
 have cP1:=bP1.cells;have cJ1:=bJ1.cells;have cR1:=bR1.cells;have lP1:=bP1.lt;have lJ1:=bJ1.lt;have lR1:=bR1.lt;go_wp2_with fail
 refine hval.mono ?_;rintro e w2 ⟨rfl,hb2⟩;have bP2:=(bP1.alloc _).belowAll hb2;have bJ2:=(bJ1.alloc _).belowAll hb2;have bR2:=(bR1.alloc _).belowAll hb2;have bQ2:=bQ1.belowAll hb2;have B2:Below w.heap.size w w2:=(B1.alloc B1.size _).trans (hb2.mono (by have:=B1.size;simp;omega))
 have hd2:=h.below B2;have z2:w1.heap.size+1≤w2.heap.size:=by have:=hb2.size;simpa using this
 clear hb2 bP1 bJ1 bR1 bQ1 cP1 cJ1 cR1 lP1 lJ1 lR1 hval hd1 B1;by_cases hE:z0X x.stable.length F Z l=0
 rotate_left
 ·have HL:Hid (x.log F Z l=(z0X x.stable.length F Z l,x)):=zhs (by rw[HL1.out,if_pos hE])
  generalize z0X x.stable.length F Z l=E at *;have hE':(E != 0)=true:=by simpa using hE
  clear hE;go_wp2_with fail
  go_ret
  exact⟨by rw[HL.out];rfl,B,by rw[HL.out];exact hd2,Grow.of_below B2 B⟩
 have HL:Hid (x.log F Z l=if (x.puts (logL F (next q) l) l.length).1≠0 then x.puts (logL F (next q) l) l.length else DevS.done ((x.puts (logL F (next q) l) l.length).2.put (F+1+l.length) 3 (next q) (z0k l.length))):=zhs (by rw[HL1.out,if_neg (by rw[hE];simp)])
 obtain⟨hvl,hva⟩:=z9k hE;have HVA:=zhs hva;rw[hE];clear hE hva HL1;have cP2:=bP2.cells;have cJ2:=bJ2.cells;have cR2:=bR2.cells;have lP2:=bP2.lt;have lJ2:=bJ2.lt;have lR2:=bR2.lt;have lQ2:=bQ2.lt;go_wp2_with fail
 obtain⟨PQ,hPQ⟩:∃PQ,PQ=w1.heap.size:=⟨_,rfl⟩;obtain⟨PA,hPA⟩:∃PA,PA=w2.heap.size:=⟨_,rfl⟩;rw[←hPQ]at bQ2 lQ2 z2 ⊢;rw[←hPA]at z2 ⊢;obtain⟨wL,hL⟩:∃wL,wL=(w2.alloc (.cells #[.int .i64 F] 3)).alloc (.cells #[.func (.func 189) #[] #[.pointer (some ⟨PA,0,none⟩),.pointer (some ⟨w.heap.size,0,none⟩),.pointer (some ⟨PQ,0,none⟩)]] 268):=⟨_,rfl⟩;have bPL:Blk wL w.heap.size 27 #[.pointer (some ⟨D,0,none⟩)]:=by rw[hL];exact(bP2.alloc _).alloc _
 have bQL:Blk wL PQ 188 #[.int .u32 q]:=by rw[hL];exact(bQ2.alloc _).alloc _
 have bRL:Blk wL (w.heap.size+1+1) 48 #[.slice A l.length c]:=by rw[hL];exact(bR2.alloc _).alloc _
 have bAL:Blk wL PA 3 #[.int .i64 F]:=by rw[hL,hPA];exact(by (repeat' (first|(with_reducible assumption)|exact Blk.new' (by simp)|refine Blk.alloc ?_ _)))
 have bFL:Blk wL (PA+1) 268 #[.func (.func 189) #[] #[.pointer (some ⟨PA,0,none⟩),.pointer (some ⟨w.heap.size,0,none⟩),.pointer (some ⟨PQ,0,none⟩)]]:=by rw[hL,hPA];exact Blk.new' (by simp)
 have BL:Below w.heap.size w wL:=by rw[hL];exact(B2.alloc B2.size _).alloc (by have:=B2.size;simp;omega) _
 have hdL:=h.below BL;have hrL:RunAt wL A l:=Reads.below hr BL;rw[←hL];have y1:=B2.size;have nA:PA∉B:=h.far (by omega)
 have PAw:w.heap.size≤PA:=by omega
 have nA0:PA≠0:=by have:=h.half.1;omega
 have nAP:PA≠w.heap.size:=by omega
 have nAQ:PA≠PQ:=by omega
 have nP:w.heap.size∉PA::B:=z2k (by omega) (h.far (zhT _))
 have nQ:PQ∉PA::B:=z2k (by omega) (h.far (by omega))
 have nR:w.heap.size+1+1∉PA::B:=z2k (by omega) (h.far (by omega))
 have nF:PA+1∉PA::B:=z2k (by omega) (h.far (by omega))
 have hAL:∀ad,A=some ad→l=[]∨ad.block∉PA::B:=fun ad e=>by
  rcases hr with h'|⟨b,off,hb,hlt,hc⟩
  ·left
   cases l with
   | nil=>rfl
   | cons r t=>simp[recV]at h'
  ·right
   rw[hb]at e;cases e;exact z2k (by show b≠PA;omega) (hAB _ hb)
 clear hL hPA cP2 cJ2 cR2 lP2 lJ2 lR2 lQ2 bP2 bJ2 bR2 bQ2 hd2 B2 hPQ z1 z2 y1;obtain⟨L,hLL⟩:∃L,L=logL F (next q) l:=⟨_,rfl⟩;rw[←hLL]at HL;have HLG:Hid (∀k (hk:k<l.length),L.getD k default=(F+1+k,⟨2,next q,logS l[k]⟩)):=zhs (fun k hk=>by rw[hLL];exact zav hk)
 clear hLL;go_loopw [13,14,36] (fun _ _ i wr=>∃k:Nat,k≤l.length∧i=.int .i64 k∧(x.puts L k).1=0∧∃B',DevAt wr D B' (x.puts L k).2∧Grow wL (PA::B) wr (PA::B')∧PA∉B'∧Blk wr PA 3 #[.int .i64 (F+k)]) (fun _ _ i _=>l.length - (intOf i).toNat)
 case atStart=>exact⟨0,zi9 _,rfl,rfl,B,hdL,Grow.refl _ _,nA,by simpa using bAL⟩
 case round=>
  obtain⟨k,hk,rfl,h0,B',hd,hg,nA',bA⟩:=hrel;have bFk:=hg.blk bFL nF;have bPk:=hg.blk bPL nP;have bQk:=hg.blk bQL nQ;have bRk:=hg.blk bRL nR;by_cases hlt:k<l.length
  ·have hne:l≠[]:=by intro e;subst e;simp at hlt
   have hrk:RunAt wr A l:=Reads.grow hrL hg (fun ad e=>(hAL ad e).resolve_left hne)
   obtain⟨b,off,rfl,hbl,c0,c1,c2⟩:=hrk.at_ hlt;obtain⟨-,ha0,ha1,hk1,hk2,hs96,-⟩:=z8J (HVA.out k hlt);have HNX:Hid (x.puts L (k+1)=(x.puts L k).2.put (F+k+1) 2 (next q) (z0k l[k].at_++strOfNums [l[k].kind]++l[k].data)):=zhs (by
    rw[z4u h0 (HLG.out k hlt),zds,show F+1+(k:Int)=F+k+1 by omega,show l[k].kind % 256=l[k].kind by omega])
   have HFI:Hid ((x.puts L (k+1)).1≠0→x.log F Z l=x.puts L (k+1)):=zhs (fun hne=>by rw[HL.out,z4y hne (by omega),if_pos hne])
   generalize l[k]=r at *;obtain⟨av,kv,sv⟩:=r;simp only at c0 c1 c2 ha0 ha1 hk1 hk2 hs96 HNX
   have hkm:IntKind.u8.wrap kv=kv:=by rw[IntKind.wrap_u8'];omega
   have bX:Blk (wr.alloc (.cells #[.int .i64 av,.int .i64 kv,.string sv] 118)) wr.heap.size 118 #[.int .i64 av,.int .i64 kv,.string sv]:=Blk.new _ _ _;have bFX:=bFk.alloc (.cells #[.int .i64 av,.int .i64 kv,.string sv] 118);have BX:Below wr.heap.size wr (wr.alloc (.cells #[.int .i64 av,.int .i64 kv,.string sv] 118)):=(zho _ _).alloc (zhT _) _;have cRk:=bRk.cells;have lRk:=bRk.lt;clear h0;go_wp2_with fail
   obtain⟨X,hX⟩:∃X,X=wr.alloc (.cells #[.int .i64 av,.int .i64 kv,.string sv] 118):=⟨_,rfl⟩;rw[←hX]at bX bFX BX ⊢;clear hX cRk lRk c0 c1 c2;have zX:=BX.size;have lX:=bX.lt;have hS0:X.cell? ⟨PA+1,0,none⟩=some (.func (.func 189) #[] #[.pointer (some ⟨PA,0,none⟩),.pointer (some ⟨w.heap.size,0,none⟩),.pointer (some ⟨PQ,0,none⟩)])∧X.cell? ⟨wr.heap.size,0,none⟩=some (.int .i64 av)∧X.cell? ⟨wr.heap.size,1,none⟩=some (.int .i64 kv)∧X.cell? ⟨wr.heap.size,2,none⟩=some (.string sv):=⟨by rw[bFX.cells];rfl,by rw[bX.cells];rfl,by rw[bX.cells];rfl,by rw[bX.cells];rfl⟩
   have hS1:∀W,Below X.heap.size X W→W.cell? ⟨PA+1,0,none⟩=some (.func (.func 189) #[] #[.pointer (some ⟨PA,0,none⟩),.pointer (some ⟨w.heap.size,0,none⟩),.pointer (some ⟨PQ,0,none⟩)])∧W.cell? ⟨wr.heap.size,0,none⟩=some (.int .i64 av)∧W.cell? ⟨wr.heap.size,1,none⟩=some (.int .i64 kv)∧W.cell? ⟨wr.heap.size,2,none⟩=some (.string sv):=fun W hb=>⟨by rw[(bFX.belowAll hb).cells];rfl,by rw[(bX.belowAll hb).cells];rfl,by rw[(bX.belowAll hb).cells];rfl,by rw[(bX.belowAll hb).cells];rfl⟩
   refine z06 [.take 0,.take 1,.take 2,.take 4,.take 5,.take 6,.take 10,.take 11,.par 3 [7,8],.one 9,.one 12,.one 13,.one 14] 15 (fun w'=>w'.cell? ⟨PA+1,0,none⟩=some (.func (.func 189) #[] #[.pointer (some ⟨PA,0,none⟩),.pointer (some ⟨w.heap.size,0,none⟩),.pointer (some ⟨PQ,0,none⟩)])∧w'.cell? ⟨wr.heap.size,0,none⟩=some (.int .i64 av)∧w'.cell? ⟨wr.heap.size,1,none⟩=some (.int .i64 kv)∧w'.cell? ⟨wr.heap.size,2,none⟩=some (.string sv)) (by kernel_rfl) (by kernel_rfl) (fun _ _ _ _ _ h=>h) hS0 ?_
   simp only[zhY,zhZ,Ms.fill,zhy,zhz];iterate 8 (refine z04 (by rfl) ?_ (fun w' hw'=>?_) ?_;rotate_left;(focus (go_simp;(try with_reducible rfl)));(try simp only[Act.put,zht,zhu,zhv]))
   refine z7U fun K0 hK0=>?_
   refine z2V (fun K hK=>?_) (fun K hK=>?_)
   focus
    go_simp;refine(z3z av X.drew).mono ?_;rintro e w1 ⟨rfl,hb1⟩;have hb1':Below X.heap.size X w1:=(zho _ _).drew.trans hb1;refine hK _ _ (hS1 _ hb1') ?_;clear hK K;have bS:Blk (w1.alloc (.cells #[.int .u8 kv] 5)) w1.heap.size 5 #[.int .u8 kv]:=Blk.new _ _ _;have hb3:Below X.heap.size X (w1.alloc (.cells #[.int .u8 kv] 5)):=hb1'.alloc hb1'.size _;have hcv:=zbB bS;refine z1q (fun K hK=>?_)
    go_simp;refine hK _ _ (hS1 _ hb3) ?_;clear hK K;refine z1q (fun K hK=>?_)
    go_simp;refine hK _ _ (hS1 _ hb3) ?_;clear hK K;refine z2u ?_;refine hK0 _ _ ?_;clear hK0 K0 hcv bS hb1 hb1';generalize w1.alloc (.cells #[.int .u8 kv] 5)=w3 at *
   rotate_left;focus
    have bS:Blk (X.alloc (.cells #[.int .u8 kv] 5)).drew X.heap.size 5 #[.int .u8 kv]:=(Blk.new _ _ _).drew;have hb3:Below X.heap.size X (X.alloc (.cells #[.int .u8 kv] 5)).drew:=((zho _ _).alloc (zhT _) _).drew;obtain⟨X2,hX2⟩:∃X2,X2=(X.alloc (.cells #[.int .u8 kv] 5)).drew:=⟨_,rfl⟩;go_simp;rw[←hX2]at bS hb3 ⊢;refine hK _ _ (hS1 _ hb3) ?_;clear hK K hX2;have z2:=hb3.size;refine z2V (fun K hK=>?_) (fun K hK=>?_)
    focus
     go_simp;refine(z3z av X2).mono ?_;rintro e w3 ⟨rfl,hb1⟩;have hb3:Below X.heap.size X w3:=hb3.trans (hb1.mono z2);refine hK _ _ (hS1 _ hb3) ?_;clear hK K;have hcv:=zbB (bS.belowAll hb1);refine z1q (fun K hK=>?_)
     go_simp;refine hK _ _ (hS1 _ hb3) ?_;clear hK K;refine z2u ?_;refine hK0 _ _ ?_;clear hK0 K0 hcv bS hb1
    rotate_left;focus
     have hcv:=zbB bS;go_simp;refine hK _ _ (hS1 _ hb3) ?_;clear hK K;refine z8m (fun K hK=>?_)
     go_simp;refine(z3z av X2).mono ?_;rintro e w3 ⟨rfl,hb1⟩;have hb3:Below X.heap.size X w3:=hb3.trans (hb1.mono z2);refine hK _ _ (hS1 _ hb3) ?_;clear hK K;refine hK0 _ _ ?_;clear hK0 K0 hcv bS hb1
   all_goals
    have hbw:Below wr.heap.size wr w3:=BX.trans (hb3.mono zX);have hd3:=hd.below hbw;have bA3:=bA.belowAll hbw;have bP3:=bPk.belowAll hbw;have bQ3:=bQk.belowAll hbw;have bF3:=bFX.belowAll hb3;have hS3:=hS1 _ hb3;have hz1:(z0k av).size=2:=by show (strOfNums _).size=2;rw[strOfNums_size];rfl
    have hz2:(strOfNums [kv]).size=1:=by rw[strOfNums_size];rfl
    have hz3:¬9223372036854775807<(z0k av).size+(strOfNums [kv]).size+sv.size:=by omega
    have hz4:¬9223372036854775807<(z0k av).size+(strOfNums [kv]).size:=by omega
    have hz5:(z0k av++strOfNums [kv]++sv).size≤maxLen:=by rw[ByteArray.size_append,ByteArray.size_append];unfold maxLen;omega
    have HZ5:=zhs hz5;clear hz1 hz2 hz5;refine z05 (by rfl) fun K hK=>?_
    go_simp;refine hK _ _ (fun _=>hS3) ?_
    clear hK K;refine z05 (by rfl) fun K hK=>?_
    go_simp;refine hK _ _ (fun _=>hS3) ?_
    clear hK K;refine z05 (by rfl) fun K hK=>?_
    go_simp;refine(zfA D PA w.heap.size PQ (F+k) 2 q (by omega) hq (z0k av++strOfNums [kv]++sv) HZ5.out B' _ w3 hd3 bA3 nA' nA0 bP3 nAP bQ3 nAQ).mono ?_
    rintro e w4 ⟨rfl,B4,hd4,hg4,bA4,nA4⟩;rw[←HNX.out];have HP:Hid (x.puts L (k+1)=x.puts L (k+1)):=zhs rfl;obtain⟨p,hp⟩:∃p,x.puts L (k+1)=p:=⟨_,rfl⟩;rw[←HNX.out]at hd4;rw[hp]at hd4 HFI ⊢;have HP:=zhs hp;clear hp HNX;have bF4:=hg4.blk bF3 (hg.notin nF bFL.lt);have gN:Grow wL (PA::B) w4 (PA::B4):=(hg.trans (Grow.of_below hbw _)).trans hg4;have hX4:w4.cell? ⟨PA+1,0,none⟩=some (.func (.func 189) #[] #[.pointer (some ⟨PA,0,none⟩),.pointer (some ⟨w.heap.size,0,none⟩),.pointer (some ⟨PQ,0,none⟩)])∧w4.cell? ⟨wr.heap.size,0,none⟩=some (.int .i64 av)∧w4.cell? ⟨wr.heap.size,1,none⟩=some (.int .i64 kv)∧w4.cell? ⟨wr.heap.size,2,none⟩=some (.string sv):=by
     have bX4:=hg4.blk (bX.belowAll hb3) (z2k (by have:=bA.lt;omega) (hd.far (zhT _)))
     exact⟨by rw[bF4.cells];rfl,by rw[bX4.cells];rfl,by rw[bX4.cells];rfl,by rw[bX4.cells];rfl⟩
    refine hK _ _ (fun _=>hX4) ?_
    clear hK K;refine z05 (by rfl) fun K hK=>?_
    go_simp;refine hK _ _ (fun _=>hX4) ?_
    clear hK K;refine z0f ?_;clear hX4 hS3 hS1 hS0;by_cases hE:p.1=0
    ·have hE':(p.1 != 0)=false:=by simpa using hE
     have HE:=zhs hE;clear hE;have bA5:Blk w4 PA 3 #[.int .i64 (F+((k+1:Nat):Int))]:=by
      rw[show F+((k+1:Nat):Int)=F+k+1 by omega];exact bA4
     go_wp2_with fail
     go_roundw
     case rel=>exact⟨k+1,by omega,by go_num,by rw[HP.out];exact HE.out,B4,by rw[HP.out];exact hd4,gN,nA4,bA5⟩
     case measure=>simp[intOf];omega
    ·have hE':(p.1 != 0)=true:=by simpa using hE
     have HE:=zhs hE;clear hE;go_wp2_with fail
     go_ret
     rw[HFI.out HE.out];exact⟨rfl,B4,hd4,gN.uncons BL PAw⟩
  ·obtain rfl:k=l.length:=by omega
   have HLE:Hid (x.log F Z l=DevS.done ((x.puts L l.length).2.put (F+l.length+1) 3 (next q) (z0k l.length))):=zhs (by rw[HL.out,if_neg (by rw[h0];simp),show F+1+(l.length:Int)=F+l.length+1 by omega])
   generalize (x.puts L l.length).2=y at *;obtain⟨p,hp⟩:∃p,y.put (F+l.length+1) 3 (next q) (z0k l.length)=p:=⟨_,rfl⟩;rw[hp]at HLE;have HP:=zhs hp;obtain⟨wT,hT⟩:∃wT,wT=wr.alloc (.cells #[.func (.func 191) #[] #[.pointer (some ⟨PA+1,0,none⟩),.pointer (some ⟨w.heap.size+1+1,0,none⟩)],.func (.func 121) #[.pointer (some ⟨D,0,none⟩)] #[]] 58):=⟨_,rfl⟩;have bT:Blk wT wr.heap.size 58 #[.func (.func 191) #[] #[.pointer (some ⟨PA+1,0,none⟩),.pointer (some ⟨w.heap.size+1+1,0,none⟩)],.func (.func 121) #[.pointer (some ⟨D,0,none⟩)] #[]]:=by rw[hT];exact Blk.new _ _ _
   have BT:Below wr.heap.size wr wT:=by rw[hT];exact(zho _ _).alloc (zhT _) _
   have hdT:=hd.below BT;have bAT:=bA.belowAll BT;have bFT:=bFk.belowAll BT;have bPT:=bPk.belowAll BT;have bQT:=bQk.belowAll BT;have bRT:=bRk.belowAll BT;have nT:wr.heap.size∉PA::B':=z2k (by have:=bA.lt;omega) (hd.far (zhT _))
   have nF':=hg.notin nF bFL.lt;have nR':=hg.notin nR bRL.lt;have hthen:=zh0 191 121 #[] #[.pointer (some ⟨PA+1,0,none⟩),.pointer (some ⟨w.heap.size+1+1,0,none⟩)] #[.pointer (some ⟨D,0,none⟩)] #[] wr.heap.size wT
    (fun W=>p.1=0∧∃B2,DevAt W D B2 p.2∧Grow wT (PA::B') W (PA::B2)) (fun E W=>E=(DevS.done p).1∧∃B2,DevAt W D B2 (DevS.done p).2∧Grow wT (PA::B') W (PA::B2))
    (fun _ _=>by kernel_rfl) (fun _ _=>by kernel_rfl) bT (fun W hJ=>by
     obtain⟨-,B2,-,g2⟩:=hJ;exact g2.blk bT nT)
    (by
     refine z1Z (zgO D PA w.heap.size PQ (PA+1) (w.heap.size+1+1) (F+l.length) q (by omega) hq A l.length c hl1 B' y wT hdT bAT nA' nA0 bPT nAP bQT nAQ bFT nF' bRT nR') rfl ?_
     rintro e W' ⟨rfl,B2,hd2,hg2⟩;rw[hp]at hd2 ⊢;refine⟨_,rfl,fun hE=>⟨hE,B2,hd2,hg2⟩,fun hE=>?_⟩
     rw[z3f hE];exact⟨rfl,B2,hd2,hg2⟩)
    (by
     rintro W ⟨hE,B2,hd2,hg2⟩;refine z1Z (z4g D B2 p.2 W hd2) rfl ?_;rintro e W' ⟨rfl,hd3,hg3⟩;refine⟨_,rfl,?_⟩
     rw[z2w hE];exact⟨rfl,B2,hd3,hg2.trans (hg3.cons_ PA)⟩)
   have cPk:=bPk.cells;have lPk:=bPk.lt;clear hp bT hdT bAT bFT bPT bQT bRT nT h0 hd bA;go_wp2_with fail
   rw[←hT];refine hthen.mono ?_;rintro e w' ⟨E,rfl,rfl,B2,hd2,hg2⟩;clear hT hthen;go_wp2_with fail
   go_ret
   rw[HLE.out];exact⟨rfl,B2,hd2,((hg.trans (Grow.of_below BT _)).trans hg2).uncons BL PAw⟩
end Go.Proofs.YtejmknghkbobnaaGreatDoor
