import Derived.Test.YtejmknghkbobnaaGreatDoorPart00
import Derived.Test.YtejmknghkbobnaaGreatDoorPart48
import Derived.Test.YtejmknghkbobnaaGreatDoorPart30
import Derived.Test.YtejmknghkbobnaaGreatDoorPart47
set_option linter.unusedVariables false
set_option linter.unusedSimpArgs false
set_option maxRecDepth 100000
set_option maxHeartbeats 8000000
namespace Go.Proofs.YtejmknghkbobnaaGreatDoor
open Go.Proofs.Tryz
open Go.RowKit Go.Maps
theorem Tryz.builtPair (D:Nat)(s j i:Int):prog.built 52 [(0,.pointer (some ⟨D,0,none⟩)),(3,.agg #[.int .i64 s,.int .i64 j,.int .i64 i])]=some (z0O D (.pointer none) txZ s j i):=by kernel_rfl
theorem zbu {tv sv:Array Value}(h1:sv.all (·.oneCell')=true)(h2:tv.all (·.oneCell')=true):(z24 tv sv).all (·.oneCell')=true:=by
 unfold z24;rw[Array.all_eq_true']at h1 h2 ⊢;intro v hv;simp only[zi2,zi3,zi8,List.mem_toArray,zi0,Array.mem_toList_iff]at hv;rcases hv with hv|hv
 ·exact h1 v hv
 ·exact h2 v (by simpa using List.mem_of_mem_drop hv)
theorem z8W (k8:Int)(hk8:0≤k8∧k8≤255)(s j i:Int)(A:Option Addr)(c:Nat)(xs:List StepV)(hl:xs.length≤maxLen)(w:World)(hok:∀a∈xs,StepOk w a)(hH:HalfAt w)(hR:Reads w A (xs.flatMap z5r)):
  Calls prog 3 #[.int .u8 k8,.agg #[.int .i64 s,.int .i64 j,.int .i64 i],.slice A xs.length c] w fun e w'=>e=.returned (.bool true)∧Below w.heap.size w w':=by
 obtain⟨n,hn,hnq⟩:∃n:Nat,(64≤n∧n≤256)∧(64:Int)+k8 % 193=n:=⟨(64+k8 % 193).toNat,by omega,by omega⟩
 have g1:k8.tmod 193=k8 % 193:=zhV hk8.1;obtain⟨w0,hw0⟩:∃w0,w0=w.alloc (.cells #[.int .i64 s,.int .i64 j,.int .i64 i] 23):=⟨_,rfl⟩;have bL0:Blk w0 w.heap.size 23 #[.int .i64 s,.int .i64 j,.int .i64 i]:=by rw[hw0];exact Blk.new _ _ _
 have B0:Below w.heap.size w w0:=by rw[hw0];(repeat' (first|with_reducible (first|exact zho _ _|assumption|refine zhp ?_ ?_ _|refine zhq ?_|refine z00 ?_ _|refine zhr ?_ ?_ _|exact zhT _)|omega|(simp;done)|(simp;omega)))
 have hp0:=hH.1;have HH:=zhs hH;have HOK:=zhs hok;have HR:=zhs hR;have hs:∀a∈xs,a.s.size≤maxLen∧a.l.length≤maxLen:=fun a ha=>⟨(hok a ha).str,zhS (hok a ha).cap.1 (hok a ha).cap.2⟩
 have f1:=zf9 A c xs hl hs w0 (hR.below B0);unfold maxLen at hl;clear hH hok hR hs;go_enter func3,ntmps3
 go_upto_region 1 with fail
 rw[←hw0];clear hw0;go_wp2_with fail
 refine f1.mono ?_;rintro e w1 ⟨rfl,hb1⟩;have B1:=B0.trans (hb1.mono B0.size);have bL:=bL0.belowAll hb1;clear f1 bL0 hb1 B0;by_cases hlong:z7a xs=true
 ·rw[hlong];have haw:=z3V w1 (HH.out.below B1 hp0);go_wp2_with fail
  refine haw.mono ?_;rintro e w3 ⟨rfl,hb3⟩;go_wp2_with fail
  go_ret
  exact⟨rfl,B1.trans (hb3.mono B1.size)⟩
 have hlong':z7a xs=false:=by simpa using hlong
 rw[hlong'];have HB:Hid (∀a∈xs,bigB a=false):=zhs (fun a ha=>by
  unfold z7a at hlong';simp only[Bool.or_eq_false_iff]at hlong';have:=List.any_eq_false.1 hlong'.1 a ha
  simpa using this)
 clear hlong hlong';go_wp2_with fail
 refine(zd9 n hn w1 (HH.out.below B1 hp0)).mono ?_;rintro e w2 ⟨D,Bd,rfl,hd2,hb2,hBd⟩;go_wp2_with fail
 refine(zdx hn).mono ?_;rintro e w3 ⟨sv3,rfl,hsv,hb3⟩;have hFar:∀b,w2.heap.size≤b→Far Bd b:=Far.new fun b hb=>(hd2.lt b hb).2
 have hq3:RSv w3 (Far (w3.heap.size::Bd)) (z1a n) sv3:=by
  refine(hsv _ hFar).mono fun b h1 h2 hm=>?_
  rcases List.mem_cons.1 hm with e|e
  ·omega
  ·exact h1 e
 obtain⟨SB,hSB⟩:∃SB,SB=w3.heap.size:=⟨_,rfl⟩;have hst:=z0l (Blk.new w3 34 svZ) rfl hq3.size hq3.one;obtain⟨w4,hw4⟩:∃w4,w4=World.setRow (w3.alloc (.cells svZ 34)) w3.heap.size sv3:=⟨_,rfl⟩;have bS4:Blk w4 SB 34 sv3:=by rw[hw4,hSB];exact Blk.setRow (Blk.new _ _ _)
 have hb4:Below w3.heap.size w3 w4:=by rw[hw4];exact Below.setRow ((zho _ _).alloc (zhT _) _) (zhT _) _
 have hq4:RSv w4 (Far (SB::Bd)) (z1a n) sv3:=by
  rw[hw4,hSB];exact(hq3.below ((zho _ _).alloc (zhT _) _)).row (fun b hb e=>hb (by rw[e];exact zhK ..)) _
 go_upto_region 6 with (refine z01 rfl _ _ _ rfl _ _ rfl rfl hst ?_)
 rw[←hw4,←hSB];have hb24:=hb3.trans (hb4.mono hb3.size);have hd4:=hd2.below hb24;have bL4:=(bL.belowAll hb2).belowAll hb24;have B4:=B1.trans ((hb2.trans (hb24.mono hb2.size)).mono B1.size);have hSB0:=zhs (show w2.heap.size≤SB by rw[hSB];exact hb3.size)
 have HBd:=zhs (fun b hb=>(⟨hBd b hb,(hd2.lt b hb).2⟩:w1.heap.size≤b∧b<w2.heap.size))
 have hLB:=zhs (show w.heap.size<w1.heap.size from bL.lt)
 have hSBlt:=bS4.lt;have hN4:∀b,w4.heap.size≤b→Far (SB::Bd) b:=Far.new fun b hm=>by
  rcases List.mem_cons.1 hm with rfl|hm
  ·exact hSBlt
  ·exact(hd4.lt b hm).2
 clear hst hw4 hSB hsv hq3 hd2 hb24 hb3 hb4 hBd hFar bL hSBlt;have hfm:=zce hq4 (.inl rfl) hN4 s j i;have hsz4:=hq4.size;have l4:=z0z bS4 hsz4;have cL:=bL4.cells;have lL:=bL4.lt;obtain⟨r,hr⟩:∃r,(z1a n).tfmt s j i=r:=⟨_,rfl⟩;rw[hr]at hfm;go_wp2_with (refine z02 (by rfl) _ _ rfl (.agg sv3) (.pointer (some ⟨SB,0,none⟩)) rfl l4 ?_)
 refine hfm.mono ?_;rintro e w5 ⟨sv5,rfl,hq5,hb5⟩;have bS5:=bS4.belowAll hb5;have bL5:=bL4.belowAll hb5;have hd5:=hd4.below hb5;have B5:=B4.trans (hb5.mono B4.size);have hz5:=zhs (zhS hb2.size (zhT w2.heap.size));have hst:=z0l bS5 hsz4 hq5.size hq5.one;have hsz5:=hq5.size;have hone5:=hq5.one;go_upto_region 7 with (refine z01 rfl _ _ _ rfl _ _ rfl rfl hst ?_)
 have hp1:w.heap.size<SB:=by have:=hSB0.out;have:=hb2.size;have:=hLB.out;omega
 have bS6:=bS5.setRow (cs':=sv5);have bL6:=bL5.rowFar (cs':=sv5) (show w.heap.size≠SB by omega)
 have hSBd:SB∉Bd:=fun hm=>by have:=(HBd.out SB hm).2;have:=hSB0.out;omega
 have hd6:=hd5.row hSBd (by omega) sv5
 have hq6:=hq5.row (fun b hb e=>hb (by rw[e];exact zhK ..)) sv5
 have B6:=Below.setRow B5 (g:=SB) (by omega) sv5
 generalize w5.setRow SB sv5=w6 at *;clear hst hfm l4 cL lL bS4 bL4 hd4 hq4 hN4 B4 bS5 bL5 hd5 hq5 B5 hb5 hz5;have hS6:∀W,Grow w6 Bd W Bd→Blk W SB 34 sv5∧W.cell? ⟨w.heap.size,0,none⟩=some (.int .i64 s)∧W.cell? ⟨w.heap.size,1,none⟩=some (.int .i64 j)∧W.cell? ⟨w.heap.size,2,none⟩=some (.int .i64 i):=fun W g=>by
  have b:=(g.blk bL6 (fun hm=>by have:=(HBd.out _ hm).1;have:=hLB.out;omega)).cells
  exact⟨g.blk bS6 hSBd,(b 0).trans rfl,(b 1).trans rfl,(b 2).trans rfl⟩
 refine z06 [.take 0,.take 1,.take 2,.take 3,.take 4,.take 6,.one 5,.take 7,.take 8,.take 9,.take 10,.take 12,.one 11,.one 13,.take 14,.take 15] 16 (fun W=>Blk W SB 34 sv5∧W.cell? ⟨w.heap.size,0,none⟩=some (.int .i64 s)∧W.cell? ⟨w.heap.size,1,none⟩=some (.int .i64 j)∧W.cell? ⟨w.heap.size,2,none⟩=some (.int .i64 i)) (by kernel_rfl) (by kernel_rfl) (fun _ _ _ _ _ h=>h) (hS6 _ (Grow.of_below (zho _ _).drew _)) ?_
 simp only[zhY,zhZ,Ms.fill,zhy,zhz];iterate 6 (refine z04 (by rfl) ?_ (fun w' hw'=>?_) ?_;rotate_left;(focus (go_simp;(try with_reducible rfl)));(try simp only[Act.put,zht,zhu,zhv]))
 refine z05 (by rfl) fun K hK=>?_
 go_simp;have hf7:=z5Q D s j i Bd (z1a n) w6.drew hd6.drew;rw[hr]at hf7;refine hf7.mono ?_;rintro e w7 ⟨rfl,B7,hd7,g7'⟩;have g7:Grow w6 Bd w7 B7:=(Grow.of_below (zho _ _).drew _).trans g7';refine hK _ _ (fun _=>hS6 _ ⟨g7.keep,fun b hb=>.inl hb⟩) ?_
 clear hK K hf7 g7';iterate 4 (refine z04 (by rfl) ?_ (fun w' hw'=>?_) ?_;rotate_left;(focus (go_simp;(try with_reducible rfl)));(try simp only[Act.put,zht,zhu,zhv]))
 refine z04 (by rfl) (.agg sv5) (fun w' hw'=>z0w 34 _ rfl rfl (z0z hw'.1 hsz5)) ?_
 (try simp only[Act.put,zht,zhu,zhv])
 have hg6:∀W,Below w7.heap.size w7 W→Grow w6 Bd W Bd:=fun W hW=>⟨g7.keep.trans (KeepEx.of_below (hW.mono g7.keep.size)),fun b hb=>.inl hb⟩
 refine z05 (by rfl) fun K hK=>?_
 go_simp;refine(z8r hd7).mono ?_;rintro e w8 ⟨sv8,rfl,hq8,hb8⟩;refine hK _ _ (fun _=>hS6 _ (hg6 _ hb8)) ?_
 clear hK K;have hq7:=hq6.grow (g7.cons_ SB);refine z05 (by rfl) fun K hK=>?_
 go_simp;refine(zfD hq8 (hq7.below hb8)).mono ?_;rintro e w9 ⟨rfl,hb9'⟩;have hb9:=hb8.trans (hb9'.mono hb8.size);refine hK _ _ (fun _=>hS6 _ (hg6 _ hb9)) ?_
 clear hK K hb9';iterate 2 (refine z04 (by rfl) ?_ (fun w' hw'=>?_) ?_;rotate_left;(focus (go_simp;(try with_reducible rfl)));(try simp only[Act.put,zht,zhu,zhv]))
 refine z0f ?_;obtain⟨bS9,cL0,cL1,cL2⟩:=hS6 _ (hg6 _ hb9);have lL9:w.heap.size<w9.heap.size:=by have:=hLB.out;have:=hb2.size;have:=bS9.lt;omega
 have hd9:=hd7.below hb9;have hq9:=hq7.below hb9;have hB7:∀b∈B7,w.heap.size≤b:=g7.lo B6.size fun b hb=>by have:=(HBd.out b hb).1;have:=hLB.out;omega
 have B9:Below w.heap.size w w9:=B6.trans ((g7.below B6.size fun b hb=>by have:=(HBd.out b hb).1;have:=hLB.out;omega).trans (hb9.mono (zhS B6.size g7.keep.size)))
 have hSB7:SB∉B7:=g7.notin hSBd bS6.lt;clear hS6 hg6 hq8 hb8 hq7 hd7 hq6 hd6 bS6 bL6 B6 g7 hb9 hSBd;by_cases hE:r.1=0
 rotate_left
 ·as_aux_lemma=>
  obtain⟨E,z⟩:=r;have hE':(E != 0)=true:=by simpa using hE
  have haw:=z3V w9 (HH.out.below B9 hp0);clear hE;go_wp2_with fail
  refine haw.mono ?_;rintro e w3 ⟨rfl,hb3⟩;go_wp2_with fail
  go_ret
  exact⟨rfl,B9.trans (hb3.mono B9.size)⟩
 have hgood:=zem (n:=n) (s:=s) (j:=j) (i:=i) (by rw[hr];exact hE)
 have hsnd:=zc7 (x:=z1a n) (n:=n) (s:=s) (j:=j) (i:=i) ⟨z4C hn,zhG⟩ (.inl rfl);rw[hr]at hgood hsnd;obtain⟨E0,z⟩:=r;simp only at hE hgood hsnd hq9 hd9
 subst hE;obtain⟨hrg,hns,hoff,hbg⟩:=hgood;have HG:=zhs (And.intro hrg (And.intro hns (And.intro hoff hbg)));have HSN:=zhs hsnd;clear hr hrg hns hoff hbg hsnd;have l9:=z0z bS9 hsz5;go_upto_region 12 with (refine z0A rfl 52 _ rfl (z0O D (.pointer none) txZ s j i) (Tryz.builtPair D s j i) ?_)
 obtain⟨PB,hPB⟩:∃PB,PB=w9.heap.size:=⟨_,rfl⟩;obtain⟨wa,hwa⟩:∃wa,wa=w9.alloc (.cells (z0O D (.pointer none) txZ s j i) 52):=⟨_,rfl⟩;have bP:Blk wa PB 52 (z0O D (.pointer none) txZ s j i):=by rw[hwa,hPB];exact Blk.new _ _ _
 have hba:Below w9.heap.size w9 wa:=by rw[hwa];exact(zho _ _).alloc (zhT _) _
 rw[←hwa,←hPB];have bSa:=bS9.belowAll hba;have hda:=hd9.below hba;have Ba:=B9.trans (hba.mono B9.size);have hPB7:PB∉B7:=fun hm=>by have:=(hd9.lt PB hm).2;omega
 have hqa:RSv wa (Far (PB::B7)) z sv5:=((hq9.mono (Q:=Far (PB::B7)) fun b h1 h2 hm=>by
  rcases List.mem_cons.1 hm with e|e
  ·omega
  ·exact h1 (zhJ _ e)).below hba)
 have hPBw:w.heap.size≤PB:=by rw[hPB];exact B9.size
 obtain⟨wb,hwb⟩:∃wb,wb=wa.setRow PB (z0O D (.pointer none) (z24 txZ sv5) s j i):=⟨_,rfl⟩;have hstS:(Instr.storeAt 34 (.pointer (some ⟨PB,2,none⟩)) (.agg sv5)).run prog wa=.ok () wb:=by rw[hwb];exact z4U bP rfl hsz5 hone5
 have la:=z0z bSa hsz5;have hne:∀b,Far (PB::B7) b→b≠PB:=fun b hb e=>hb (by rw[e];exact zhK ..)
 have m0:Mid wb wb PB D [] B7 B7 z z z (.pointer none) (z24 txZ sv5) (z24 txZ sv5) s j i:=by
  rw[hwb];refine⟨hda.row hPB7 (by omega) _,Blk.setRow bP,?_,?_,?_,hPB7,by omega,fun b hb=>(by cases hb),Grow.refl _ _,fun _ h=>h,fun _ _ h=>h⟩
  ·unfold z24;have h5:sv5.toList.length=5:=by simpa using hsz5
   simp[h5]
   rfl
  ·exact zbu hone5 (by simp[txZ,txR,Value.oneCell'])
  ·have e:((z24 txZ sv5).toList.take 5).toArray=sv5:=z6C hsz5;rw[e];exact hqa.row hne _
 have Bb:Below w.heap.size w wb:=by rw[hwb];exact Below.setRow Ba (g:=PB) hPBw _
 have hag:=z9s (n:=n) m0 HSN.out.1 HSN.out.2 HG.out.1 HG.out.2.1 HG.out.2.2.1 HG.out.2.2.2 Bb hPBw hB7;clear hwa bS9 cL0 cL1 cL2 lL9 hd9 hq9 B9 hSB7 l9 hPB hwb m0 hne hqa hPB7 hda bSa hba bP Ba;go_upto_region 13 with (first|(refine z02 (by rfl) _ _ rfl (.agg sv5) (.pointer (some ⟨SB,0,none⟩)) rfl la ?_)|(refine z01 rfl _ _ _ rfl _ _ rfl rfl hstS ?_))
 clear hstS la;go_wp2_with fail
 refine hag.mono ?_;rintro e wc ⟨rfl,T,F,B,y,x,tv,h0⟩;obtain⟨c0,c1,-,-,-,-⟩:=h0.mid.cells;have lP:=h0.box.lt;clear hag Bb;go_wp2_with fail
 clear c0 c1 lP;go_loopw [14] (fun q wr=>∃(k:Nat) (T:Nat) (F:List Nat) (B:List Nat) (y:TxS) (x:DevS) (tv:Array Value),k≤xs.length∧q=.int .i64 k∧Duo w wr PB T F D B y x tv s j i n) (fun q _=>xs.length - (RowKit.intOf q).toNat)
 case atStart=>exact⟨0,T,F,B,y,x,tv,zi9 _,rfl,h0⟩
 case round=>
  obtain⟨k,T1,F1,B1,y1,x1,tv1,hk,rfl,hd⟩:=hrel;clear h0;by_cases hlt:k<xs.length
  rotate_left
  ·as_aux_lemma=>
   obtain rfl:k=xs.length:=by omega
   have haw:=z3V wr (HH.out.below hd.play.bl hp0);have Bw:=hd.play.bl;clear hd;go_wp2_with fail
   refine haw.mono ?_;rintro e w3 ⟨rfl,hb3⟩;go_wp2_with fail
   go_ret
   exact⟨rfl,Bw.trans (hb3.mono Bw.size)⟩
  as_aux_lemma=>
  obtain⟨b,off,rfl,hbl,e0,e1,e2,e3,e4,e5⟩:=z80 (hd.play.reads HR.out) hlt;have hm:=zhQ hlt;have hoka:=HOK.out _ hm;have hbig:=HB.out _ hm;have HA:=zhs (And.intro hoka hbig);have hrd:=fun W (hW:Below w.heap.size w W)=>z80 (HR.out.below hW) hlt
  generalize xs[k]=a at *;obtain⟨wh,at_,kd,nn,st,Al,la,ca⟩:=a;have hwh:=hoka.wh;simp only at e0 e1 e2 e3 e4 e5 hwh hrd
  have g1:wh.tmod 9=wh % 9:=zhV hwh.1;have g3:IntKind.u8.wrap (wh % 9)=wh % 9:=by rw[IntKind.wrap_u8];omega
  clear hm hoka hbig hwh;go_upto_block 2 with fail
  clear e0;go_cut [15]from 82 to 207 (fun s15 wx=>s15=.bool true∧∃T F B y x tv,Duo w wx PB T F D B y x tv s j i n)
  case first=>
   as_aux_lemma=>
    have hm9:wh % 9<7∨wh % 9=7∨wh % 9=8:=by omega
    have HW9:=zhs (show wh % 9=wh % 9 from rfl)
    rcases hm9 with h7|h7|h7
    ·as_aux_lemma=>
     have q7:(wh % 9==7)=false:=by simp;omega
     have q8:(wh % 9==8)=false:=by simp;omega
     have hone:=fun W (hW:Below wr.heap.size wr W)=>zgw (hd.below hW).play (hd.below hW).box.lt hd.clean hd.calm (hd.below hW).ref ⟨wh,at_,kd,nn,st,Al,la,ca⟩ HA.out.1 HA.out.2 h7
     have HCL:Hid ((y1.step ⟨wh,at_,kd,nn,st,Al,la,ca⟩).Clean∧(y1.step ⟨wh,at_,kd,nn,st,Al,la,ca⟩).s=s∧(y1.step ⟨wh,at_,kd,nn,st,Al,la,ca⟩).j=j∧(y1.step ⟨wh,at_,kd,nn,st,Al,la,ca⟩).i=i):=zhs (by
      have hlk:=zd2 y1 ⟨wh,at_,kd,nn,st,Al,la,ca⟩;exact⟨zcr hd.clean _,hlk.s.trans hd.ys.1,hlk.j.trans hd.ys.2.1,hlk.i.trans hd.ys.2.2⟩)
     generalize y1.step ⟨wh,at_,kd,nn,st,Al,la,ca⟩=y' at *;unfold zgp OnePost at hone;simp only at hone
     clear HW9;generalize wh % 9=r at *;go_upto_region 20 with fail
     have hS:∀W,Below w.heap.size w W→Grow wr (F1++B1) W (F1++B1)→Blk W PB 52 (z0O D (.pointer (some ⟨T1,0,none⟩)) tv1 s j i)∧W.cell? ⟨PB,1,none⟩=some (.pointer (some ⟨T1,0,none⟩))∧W.cell? ⟨b,off+k*6,none⟩=some (.int .u8 wh)∧W.cell? ⟨b,off+k*6+1,none⟩=some (.int .i64 at_)∧W.cell? ⟨b,off+k*6+2,none⟩=some (.int .i64 kd)∧W.cell? ⟨b,off+k*6+3,none⟩=some (.int .i64 nn)∧W.cell? ⟨b,off+k*6+4,none⟩=some (.string st)∧W.cell? ⟨b,off+k*6+5,none⟩=some (.slice Al la.length ca):=fun W hW g=>by
      have bP:=g.blk hd.box hd.pb;obtain⟨b',off',he,-,c0,c1,c2,c3,c4,c5⟩:=hrd W hW;obtain⟨rfl,rfl⟩:b=b'∧off=off':=by simpa using he
      exact⟨bP,(bP.cells 1).trans z9F,c0,c1,c2,c3,c4,c5⟩
     have hsz1:=hd.ref.size;refine z13 (Us.takes [0,1,2,3,4,5,6,7,8,9,10,11,12] (.one 13 (Us.takes [14,15] (Us.pures [16,17,18] (.late 19 (.late 20 .done)))))) 17 (fun W=>Blk W PB 52 (z0O D (.pointer (some ⟨T1,0,none⟩)) tv1 s j i)∧W.cell? ⟨PB,1,none⟩=some (.pointer (some ⟨T1,0,none⟩))∧W.cell? ⟨b,off+k*6,none⟩=some (.int .u8 wh)∧W.cell? ⟨b,off+k*6+1,none⟩=some (.int .i64 at_)∧W.cell? ⟨b,off+k*6+2,none⟩=some (.int .i64 kd)∧W.cell? ⟨b,off+k*6+3,none⟩=some (.int .i64 nn)∧W.cell? ⟨b,off+k*6+4,none⟩=some (.string st)∧W.cell? ⟨b,off+k*6+5,none⟩=some (.slice Al la.length ca)) (by kernel_rfl) (by kernel_rfl) (fun _ _ _ _ _ h=>h) (hS _ (hd.play.bl.trans ((zho _ _).drew.mono hd.play.bl.size)) (Grow.of_below (zho _ _).drew _)) ?_
     simp only[Us.takes,Us.pures,Us.fill,zhy,zhz];iterate 8 (refine z0K (by rfl) ?_ (fun w' hw'=>?_) ?_;rotate_left;(focus (go_simp;(try with_reducible rfl)));(try simp only[Act.put,zht,zhu,zhv]))
     refine z0K (by rfl) (.agg tv1) (fun w' hw'=>z0w 50 _ rfl rfl (z67 hw'.1 hsz1)) ?_
     (try simp only[Act.put,zht,zhu,zhv])
     iterate 4 (refine z0K (by rfl) ?_ (fun w' hw'=>?_) ?_;rotate_left;(focus (go_simp;(try with_reducible rfl)));(try simp only[Act.put,zht,zhu,zhv]))
     have hX0:Below wr.heap.size wr wr.drew:=(zho _ _).drew;have hd0:=hd.below hX0;generalize wr.drew=X0 at hX0 hd0 ⊢;refine z1b fun K hK=>?_
     go_simp;refine(hone X0 hX0).mono ?_;rintro e w2 ⟨tv2,F2,rfl,p2,g2',hq2⟩;have g2:=(Grow.of_below hX0 (F1++B1)).trans g2';have gF:Grow wr (F1++B1) w2 (F1++B1):=⟨g2.keep,fun b hb=>.inl hb⟩
     refine hK _ _ (hS _ p2.bl gF) ?_;clear hK K hone;iterate 2 (refine z0K (by rfl) ?_ (fun w' hw'=>?_) ?_;rotate_left;(focus (go_simp;(try with_reducible rfl)));(try simp only[Act.put,zht,zhu,zhv]))
     iterate 3 (refine z1s (by rfl) ?_ (fun w' hw'=>?_) ?_;rotate_left;(focus (go_simp;(try with_reducible rfl)));(try simp only[Act.put,zht,zhu,zhv]))
     have bP2:=gF.blk hd.box hd.pb;have hst:=z4V bP2 hsz1 hq2.size hq2.one;have hpb2:=g2.notin hd.pb hd.box.lt;have hfin:Duo w (w2.setRow PB (z0O D (.pointer (some ⟨T1,0,none⟩)) tv2 s j i)) PB T1 F2 D B1 y' x1 tv2 s j i n:=⟨p2.row hd.po hpb2 hd.p0 _,Blk.setRow bP2,hq2.row (fun b hb e=>hb (by rw[e];exact zhK ..)) _,hpb2,hd.p0,hd.po,HCL.out.1,hd.sound,hd.calm,HCL.out.2⟩
     clear hS hd hd0 hX0 g2 g2' gF bP2 hq2 p2;refine z0H fun K hK=>?_
     refine z0h _ _ _ rfl _ _ rfl rfl hst ?_;refine hK _ _ ?_;clear hK K hst;(try simp only[Act.put,zht,zhu,zhv])
     refine z0H fun K hK=>?_
     go_simp;refine hK _ _ ?_;clear hK K;refine z1G ?_;go_wp2_with fail
     go_meet
     case rel=>exact⟨rfl,T1,F2,B1,y',x1,tv2,hfin⟩
    ·as_aux_lemma=>
     rw[h7]at g1;clear HW9 HA e1 e2 e4 e5;have c1:=hd.mid.cells.2.1;have lP:=hd.box.lt;have lT:=z67 hd.box hd.ref.size;have hab:=zeA hd.ref;rw[show (if y1.ended then (9,y1)else (0,y1.end_))=y1.abortR from rfl]at hab
     have HAB:Hid (y1.abortR.2=y1∨y1.abortR.2=y1.end_):=zhs (by unfold TxS.abortR;split<;>simp)
     have hpa:=fun W (hW:Below wr.heap.size wr W)=>zad (hd.below hW).play
     generalize y1.abortR=r at *;obtain⟨Ea,ya⟩:=r;simp only at hab hpa HAB
     go_upto_region 22 with fail
     go_wp2_with (refine z02 (by rfl) _ _ rfl (.agg tv1) (.pointer (some ⟨PB,2,none⟩)) rfl lT ?_)
     refine hab.mono ?_;rintro e w2 ⟨tva,rfl,hqa,hb2⟩;have hst:=z0v (Blk.new w2 50 txZ) rfl hqa.size hqa.one;obtain⟨W3,hW3⟩:∃W3,W3=World.setRow (w2.alloc (.cells txZ 50)) w2.heap.size tva:=⟨_,rfl⟩;have bG:Blk W3 w2.heap.size 50 tva:=by rw[hW3];exact Blk.setRow (Blk.new _ _ _)
     have hb3:Below w2.heap.size w2 W3:=by rw[hW3];exact Below.setRow ((zho _ _).alloc (zhT _) _) (zhT _) _
     go_upto_region 23 with (refine z01 rfl _ _ _ rfl _ _ rfl rfl hst ?_)
     rw[←hW3];have hB3:=hb2.trans (hb3.mono hb2.size);have hd3:=hd.below hB3;have hqa3:=hqa.below hb3;obtain⟨G,hG⟩:∃G,G=w2.heap.size:=⟨_,rfl⟩;rw[←hG]at bG ⊢;have hGz:wr.heap.size≤G:=by rw[hG];exact hb2.size
     have hGl:=bG.lt;obtain⟨b',off',he,-,-,-,-,e3,-,-⟩:=hrd W3 hd3.play.bl;obtain⟨rfl,rfl⟩:b=b'∧off=off':=by simpa using he
     clear hst hW3 hG hb3 hb2 hqa lT c1 hab he;go_upto_if 129 with fail
     generalize (nn.tmod 2==0)=ev;go_cut [15,16,17]from 82 to 207 (fun s15 s16 s17 wx=>s15=.bool true∧s16=.pointer (some ⟨G,0,none⟩)∧∃tv2 F2 B2 y2 x2,Half' w wx PB G T1 F2 D B2 y2 x2 tv1 tv2 s j i n)
     case first=>
      as_aux_lemma=>
       have lP3:=hd3.box.lt;have hGP:G∉PB::(F1++B1):=fun hm=>by
        rcases List.mem_cons.1 hm with e|hm
        ·have:=hd.box.lt;omega
        ·have:=(hd.play.lts G hm).2;omega
       cases ev
       ·have c1:=hd3.mid.cells.2.1;have hp3:=hpa W3 hB3;clear hrd;go_wp2_with fail
        refine hp3.mono ?_;rintro e w4 ⟨rfl,F4,h4,g4⟩;go_wp2_with fail
        go_meet
        have gF:Grow W3 (F1++B1) w4 (F1++B1):=⟨g4.keep,fun b hb=>.inl hb⟩
        have hpb4:=g4.notin hd3.pb lP3;have hys:ya.Clean∧ya.s=s∧ya.j=j∧ya.i=i:=by
         rcases HAB.out with h|h<;>rw[h]
         ·exact⟨hd.clean,hd.ys⟩
         ·exact⟨z99 hd.clean,hd.ys⟩
        case rel=>exact⟨rfl,rfl,tva,F4,B1,ya,x1,h4,gF.blk hd3.box hd3.pb,gF.blk bG (fun hm=>hGP (zhJ _ hm)),hqa3.grow (g4.cons_ PB),hd3.ref.size,hpb4,hd.p0,hd.po,hys.1,hd.sound,hd.calm,hys.2⟩
       ·have lT:=z67 hd3.box hd3.ref.size;have hq3:RTx W3 (Far (G::PB::(F1++B1))) x1 y1 tv1:=(hd.ref.mono (Q:=Far (G::PB::(F1++B1))) fun b h1 h2 hm=>by
         rcases List.mem_cons.1 hm with e|e
         ·omega
         ·exact h1 e).below hB3
        have hN3:∀b,W3.heap.size≤b→Far (G::PB::(F1++B1)) b:=Far.new fun b hm=>by
         rcases List.mem_cons.1 hm with rfl|hm
         ·exact hGl
         ·rcases List.mem_cons.1 hm with rfl|hm
          ·exact lP3
          ·exact(hd3.play.lts b hm).2
        have hcm:=zdq hq3 hd.calm hN3 hd.play.td.tx.ok hd.clean;have hpc:=fun W (hW:Below W3.heap.size W3 W)=>z5f (hd3.below hW).play hd.clean
        clear hrd;go_upto_region 24 with fail
        go_wp2_with (refine z02 (by rfl) _ _ rfl (.agg tv1) (.pointer (some ⟨PB,2,none⟩)) rfl lT ?_)
        refine hcm.mono ?_;rintro e w4 hh;have hh':∃tvc Ec yc xc,e=.returned (.tuple #[.agg tvc,.int .i64 Ec])∧RTx w4 (Far (G::PB::(F1++B1))) xc yc tvc∧Below W3.heap.size W3 w4∧((y1.stateE≠0∧Ec=y1.stateE∧yc=y1∧xc=x1)∨(y1.stateE=0∧Ec=(y1.commit x1).1∧yc=y1.end_∧xc=(y1.commit x1).2)):=by
         rcases hh with ⟨h0,tvc,he,hq,hb⟩|⟨h0,tvc,he,hq,hb⟩
         ·exact⟨tvc,_,_,_,he,hq,hb,.inl ⟨h0,rfl,rfl,rfl⟩⟩
         ·exact⟨tvc,_,_,_,he,hq,hb,.inr ⟨h0,rfl,rfl,rfl⟩⟩
        obtain⟨tvc,Ec,yc,xc,rfl,hqc,hb4,hcase⟩:=hh';have hst:=z0v (bG.belowAll hb4) hqa3.size hqc.size hqc.one;have hszc:=hqc.size;have bG5:=(bG.belowAll hb4).setRow (cs':=tvc);go_upto_region 25 with (refine z01 rfl _ _ _ rfl _ _ rfl rfl hst ?_)
        have hd4:=hd3.below hb4;have hGn:G∉F1++B1:=fun hm=>hGP (zhJ _ hm)
        have h5:=hd4.play.row (R:=G) (zhS hd.play.bl.size hGz) hGn (fun e=>by have:=hd.play.td.dev.half.1;omega) tvc
        have bP5:=hd4.box.rowFar (k:=G) (cs':=tvc) (fun e=>hGP (by rw[←e];exact zhK ..))
        have hq5:=hqc.row (fun b hb e=>hb (by rw[e];exact zhK ..)) tvc
        have hpc:=z5f h5 hd.clean;generalize w4.setRow G tvc=w5 at *;have c1:=(bP5.cells 1).trans z9F;have lP5:=bP5.lt;clear hst hcm lT hq3 hN3;have hsz1:=hd.ref.size;have hq6:=hq5.mono (Q:=Far (PB::(F1++B1))) fun b h1 _ hm=>h1 (zhJ _ hm)
        have hrg1:rgE y1.s y1.j y1.i=0:=hd.play.td.tx.ok.rg;have hcs:=z8h (y:=y1) hd.sound hd.calm hrg1 (by rw[hd.ys.1];exact HG.out.2.1)
        go_wp2_with fail
        refine hpc.mono ?_;rintro e w6 (⟨h0,rfl,p6,g6⟩|⟨h0,rfl,B6,p6,g6⟩)
        ·rcases hcase with ⟨-,rfl,rfl,rfl⟩|⟨h9,-⟩
         rotate_left
         ·exact absurd h9 h0
         clear hpc h0;go_wp2_with fail
         go_meet
         case rel=>exact⟨rfl,rfl,tvc,F1,B1,_,_,p6,g6.blk bP5 hd.pb,g6.blk bG5 hGn,hq6.grow (g6.cons_ PB),hsz1,hd.pb,hd.p0,hd.po,hd.clean,hd.sound,hd.calm,hd.ys⟩
        ·rcases hcase with ⟨h9,-⟩|⟨-,rfl,rfl,rfl⟩
         ·exact absurd h0 h9
         clear hpc h0;have gF:Grow w5 (F1++B1) w6 (F1++B1):=⟨g6.keep,fun b hb=>.inl hb⟩
         have hpb6:=g6.notin hd.pb lP5;go_wp2_with fail
         go_meet
         case rel=>exact⟨rfl,rfl,tvc,F1,B6,_,_,p6,gF.blk bP5 hd.pb,gF.blk bG5 hGn,hq6.grow (g6.cons_ PB),hsz1,hpb6,hd.p0,hd.po,z99 hd.clean,hcs.1,hcs.2,hd.ys⟩
     case rest=>
      as_aux_lemma=>
       obtain⟨rfl,rfl,tv2,F2,B2,y2,x2,hh⟩:=hcut;obtain⟨lG,hst,h2⟩:=hh.put;have lP3:=hh.box.lt;go_upto_region 28 with (first|(refine z02 (by rfl) _ _ rfl (.agg tv2) (.pointer (some ⟨G,0,none⟩)) rfl lG ?_)|(refine z01 rfl _ _ _ rfl _ _ rfl rfl hst ?_))
       have hag:=h2.again HG.out.1 HG.out.2.1;generalize wc.setRow PB (z0O D (.pointer (some ⟨T1,0,none⟩)) tv2 s j i)=w6 at *;have lP6:=h2.box.lt;clear hh lG hst h2 lP3;go_wp2_with fail
       refine hag.mono ?_;rintro e w7 ⟨rfl,T7,F7,B7',y7,x7,tv7,h7'⟩;go_wp2_with fail
       go_meet
       case rel=>exact⟨rfl,T7,F7,B7',y7,x7,tv7,h7'⟩
    ·rw[h7]at g1;clear HW9 HA e1 e2 e4 e5 hrd;go_upto_region 31 with fail
     have hmx:-1≤max nn (-1):=by omega
     generalize max nn (-1)=m at hmx ⊢;have lS:=z3x hd.box hd.ref.size;have hlm:=zgv hd.ref.sv m;rw[show (if m < -1∨1000000000000<m then (7,x1)else (0,x1.limit m))=x1.limR m from rfl]at hlm
     have hlp:=fun W (hp:Play w W T1 F1 D y1 B1 x1)=>zeX hp m hmx
     have HLS:=zhs (zbv hd.sound hd.calm hmx);have lP:=hd.box.lt;have hsz1:=hd.ref.size;generalize x1.limR m=r at *;obtain⟨Er,xr⟩:=r;simp only at hlm hlp
     clear hmx;go_wp2_with (refine z02 (by rfl) _ _ rfl (.agg (tv1.toList.take 5).toArray) (.pointer (some ⟨PB,2,none⟩)) rfl lS ?_)
     refine hlm.mono ?_;rintro e w2 ⟨sv2,rfl,hq2,hb2⟩;simp only at hq2
     have hst8:=z0l (Blk.new w2 34 svZ) rfl hq2.size hq2.one;obtain⟨W3,hW3⟩:∃W3,W3=World.setRow (w2.alloc (.cells svZ 34)) w2.heap.size sv2:=⟨_,rfl⟩;have bG:Blk W3 w2.heap.size 34 sv2:=by rw[hW3];exact Blk.setRow (Blk.new _ _ _)
     have hb3:Below w2.heap.size w2 W3:=by rw[hW3];exact Below.setRow ((zho _ _).alloc (zhT _) _) (zhT _) _
     go_upto_region 32 with (refine z01 rfl _ _ _ rfl _ _ rfl rfl hst8 ?_)
     rw[←hW3];have hd3:=hd.below (hb2.trans (hb3.mono hb2.size));have l3:=z0z bG hq2.size;obtain⟨w4,hw4⟩:∃w4,w4=W3.setRow PB (z0O D (.pointer (some ⟨T1,0,none⟩)) (z24 tv1 sv2) s j i):=⟨_,rfl⟩;have hst:(Instr.storeAt 34 (.pointer (some ⟨PB,2,none⟩)) (.agg sv2)).run prog W3=.ok () w4:=by rw[hw4];exact z4U hd3.box hsz1 hq2.size hq2.one
     have p4:Play w w4 T1 F1 D y1 B1 x1:=by rw[hw4];exact hd3.play.row hd.po hd.pb hd.p0 _
     have bP4:Blk w4 PB 52 (z0O D (.pointer (some ⟨T1,0,none⟩)) (z24 tv1 sv2) s j i):=by rw[hw4];exact Blk.setRow hd3.box
     have hq4:RTx w4 (Far (PB::(F1++B1))) xr y1 (z24 tv1 sv2):=by
      rw[hw4];exact(hd3.ref.putsv (hq2.below hb3)).row (fun b hb e=>hb (by rw[e];exact zhK ..)) _
     have lP3:=hd3.box.lt;clear hW3 hw4 hb2 hb3 hst8 lS hlm;go_upto_region 33 with (first|(refine z02 (by rfl) _ _ rfl (.agg sv2) (.pointer (some ⟨w2.heap.size,0,none⟩)) rfl l3 ?_)|(refine z01 rfl _ _ _ rfl _ _ rfl rfl hst ?_))
     have c0:=(bP4.cells 0).trans zej;have lP4:=bP4.lt;have hl5:=hlp w4 p4;clear hst l3 bG hlp hd3;go_wp2_with fail
     refine hl5.mono ?_;rintro e w5 ⟨rfl,p5,g5⟩;go_wp2_with fail
     go_meet
     case rel=>exact⟨rfl,T1,F1,B1,y1,xr,z24 tv1 sv2,p5,g5.blk bP4 hd.pb,hq4.grow (g5.cons_ PB),hd.pb,hd.p0,hd.po,hd.clean,HLS.out.1,HLS.out.2,hd.ys⟩
  case rest=>
   as_aux_lemma=>
    obtain⟨rfl,T2,F2,B2,y2,x2,tv2,h2⟩:=hcut;clear hd hbl e1 e2 e3 e4 e5 g1 g3;go_upto_region 34 with fail
    have hS:∀W,Below wc.heap.size wc W→Blk W PB 52 (z0O D (.pointer (some ⟨T2,0,none⟩)) tv2 s j i)∧W.cell? ⟨PB,0,none⟩=some (.pointer (some ⟨D,0,none⟩)):=fun W hW=>⟨(h2.below hW).box,(h2.below hW).mid.cells.1⟩
    have hsz2:=h2.ref.size;refine z06 [.take 0,.take 1,.take 2,.take 3,.take 4,.take 5,.take 6,.take 8,.take 9,.take 10,.take 11,.take 12,.one 7,.one 13,.take 14,.take 15] 16 (fun W=>Blk W PB 52 (z0O D (.pointer (some ⟨T2,0,none⟩)) tv2 s j i)∧W.cell? ⟨PB,0,none⟩=some (.pointer (some ⟨D,0,none⟩))) (by kernel_rfl) (by kernel_rfl) (fun _ _ _ _ _ h=>h) (hS _ (zho _ _).drew) ?_
    simp only[zhY,zhZ,Ms.fill,zhy,zhz];have hX0:Below wc.heap.size wc wc.drew:=(zho _ _).drew;generalize wc.drew=X0 at hX0 ⊢;iterate 11 (refine z04 (by rfl) ?_ (fun w' hw'=>?_) ?_;rotate_left;(focus (go_simp;(try with_reducible rfl)));(try simp only[Act.put,zht,zhu,zhv]))
    refine z04 (by rfl) (.agg (tv2.toList.take 5).toArray) (fun w' hw'=>z0w 34 _ rfl rfl (z3x hw'.1 hsz2)) ?_
    (try simp only[Act.put,zht,zhu,zhv])
    have hd3:=h2.below hX0;refine z05 (by rfl) fun K hK=>?_
    go_simp;refine(z8r hd3.play.td.dev).mono ?_;rintro e w8 ⟨sv8,rfl,hq8,hb8'⟩;have hb8:=hX0.trans (hb8'.mono hX0.size);refine hK _ _ (fun _=>hS _ hb8) ?_
    clear hK K hb8';refine z05 (by rfl) fun K hK=>?_
    go_simp;refine(zfD hq8 (h2.below hb8).ref.sv).mono ?_;rintro e w9 ⟨rfl,hb9'⟩;have hb9:=hb8.trans (hb9'.mono hb8.size);refine hK _ _ (fun _=>hS _ hb9) ?_
    clear hK K hb9' hq8 hd3;iterate 2 (refine z04 (by rfl) ?_ (fun w' hw'=>?_) ?_;rotate_left;(focus (go_simp;(try with_reducible rfl)));(try simp only[Act.put,zht,zhu,zhv]))
    refine z0f ?_;have h9:=h2.below hb9;clear h2 hS hb9 hb8 hX0 hsz2;go_wp2_with fail
    go_roundw
    case rel=>exact⟨k+1,T2,F2,B2,y2,x2,tv2,by omega,by go_num,h9⟩
    case measure=>simp[RowKit.intOf]<;>omega
open Go.ChangeShapes Go.WideShapes Go.ChangeAt Go.Joins Go.Deep
theorem Tryz.cellsLayP:prog.cellsOf 23=3:=by kernel_rfl
theorem Tryz.cellsIntP:prog.cellsOf 3=1:=by kernel_rfl
section
variable {H:Type}{enc:TypeId × Value→H}{W:World}
theorem zey {r:Reach}{bb:Nat}{v:Value}{d:DataW H}{p:List MemPlace}(hv:Value.okWide prog W r bb 23 v)(h:DataW.Trod enc prog W 0 (fun _=>true) true 23 v d p):
  ∃a b c:Int,v=.agg #[.int .i64 a,.int .i64 b,.int .i64 c]:=by
 obtain⟨cs,rfl,hsz⟩:=okWide_struct underlying23 hv;rw[Tryz.cellsLayP]at hsz;obtain⟨l0⟩:=cs;obtain⟨fuel,hf⟩:=h;have hf2:DataW.trod enc prog W 0 (fun _=>true) true fuel 23 l0=some (d,p):=by simpa[Value.cells]using hf
 match l0,hsz with
 | [c0,c1,c2],_=>
  obtain⟨xs,n,_,_,_,hlen,hg⟩:=DataW.trod_struct underlying23 hf2;have g0:DataW.trod enc prog W 0 (fun _=>true) true n 3 [c0]=xs[0]?:=by have:=hg 0 _ rfl;simpa[Tryz.cellsIntP,Value.cells]using this
  have g1:DataW.trod enc prog W 0 (fun _=>true) true n 3 [c1]=xs[1]?:=by have:=hg 1 _ rfl;simpa[Tryz.cellsIntP,Value.cells]using this
  have g2:DataW.trod enc prog W 0 (fun _=>true) true n 3 [c2]=xs[2]?:=by have:=hg 2 _ rfl;simpa[Tryz.cellsIntP,Value.cells]using this
  clear hg;match xs,hlen with
  | [y0,y1,y2],_=>
   simp only[zhC,zhD]at g0 g1 g2;obtain⟨a0,e0,_,w0⟩:=DataW.trod_int underlying3 g0;obtain⟨a1,e1,_,w1⟩:=DataW.trod_int underlying3 g1;obtain⟨a2,e2,_,w2⟩:=DataW.trod_int underlying3 g2;simp at e0 e1 e2
   subst e0 e1 e2;exact⟨a0,a1,a2,rfl⟩
end
theorem z6y (os:Os)(started:os.Started)(H:Type)(enc:TypeId × Value→H):
  ReturnsInHanded {} Tryz.checked os 3 .any (fun w args=>(Rows.txnPlaysSpec.pre enc prog Tryz.f3 [] false w args∧laidMetH prog half1 w)∧sizedMet enc prog Tryz.f3 (OpenSpec.ofChange Rows.txnPlaysSpec) false w args)
   (Rows.txnPlaysSpec.post enc prog Tryz.f3 false true false false):=by
 refine returnsInHanded_of_change_and (C:=Tryz.checked) (X:=fun w _=>laidMetH prog half1 w) (fun _ _ _ hh h=>h.of_heap hh) Tryz.own started (by kernel_rfl) func3
  (ChangeSpec.witness_shaped (enc:=enc) (C:=Tryz.checked) (os:=os) (X:=fun w _=>laidMetH prog half1 w) false (World.doorLaid prog 400 os) #[.int .u8 0,.agg #[.int .i64 0,.int .i64 0,.int .i64 0],.slice none 0 0] 8 rfl (World.shaped_of_RefB (by kernel_rfl) (by kernel_rfl)) (by kernel_rfl) (by kernel_rfl) (by kernel_rfl) (zfe os _)) ?_
 intro W base args ds gs before hval0 hW _ _ hL _;have hval:∀(j:Nat) t v,Tryz.f3.params[j]?=some t→args[j]?=some v→Value.okWide prog W .any base t v:=hval0;have hW':=hW;obtain⟨p,q,hA0,hV,rfl,hfz,hnd⟩:=hW;have hA:DataW.TrodAll enc prog W 0 (fun _=>true) true Tryz.f3.params.toList args.toList ds p:=hA0
 rw[params3]at hA hval;obtain⟨v0,v1,v2,d0,d1,d2,p0,p1,p2,rfl,rfl,rfl,h0,h1,h2⟩:=trodAll_three hA;obtain⟨rfl,rfl⟩:=trodVars_none hV;have hH:=z8w hL;have h0k:=h0;have h1k:=h1;have h2k:=h2;clear hA0 hval0;simp only[zi5,List.append_assoc]at hW';have hlt0:∀x∈p0,x.block<W.heap.size:=fun x hx=>by simpa using hW'.lt x (by simp[hx])
 have hlt1:∀x∈p1,x.block<W.heap.size:=fun x hx=>by simpa using hW'.lt x (by simp[hx])
 have hlt2:∀x∈p2,x.block<W.heap.size:=fun x hx=>by simpa using hW'.lt x (by simp[hx])
 obtain⟨k8,rfl,hd0,_,hw8⟩:=open_int underlying5 (hval 0 5 v0 rfl rfl) h0;obtain⟨s,j,i,rfl⟩:=zey (hval 1 23 v1 rfl rfl) h1;obtain⟨A,c,xs,rfl,hR,hok,hl⟩:=zch (hval 2 24 v2 rfl rfl) h2;refine(z8W k8 (z8Z hw8) s j i A c xs hl W hok hH hR).mono fun e W' ⟨he,hnx⟩=>?_
 subst he;refine⟨_,rfl,_,_,_,[],p0++(p1++p2),[],hW',?_,?_,rfl,hnx.frame _,fun h=>by cases h⟩
 ·exact trodAll_mk1 (shut_bool underlying4 true)
 ·exact trodAll_mk3 (Below.trod Tryz.laidOut (by kernel_rfl) (of_decide_eq_true (by kernel_rfl)) h0k hnx hlt0) (Below.trod Tryz.laidOut (by kernel_rfl) (of_decide_eq_true (by kernel_rfl)) h1k hnx hlt1) (Below.trod Tryz.laidOut (by kernel_rfl) (of_decide_eq_true (by kernel_rfl)) h2k hnx hlt2)
theorem z7b:Rows.TxnPlaysSaid:=
 OpenClaim.holds_of_wide 3 Tryz.f3 rfl rfl rfl rfl rfl rfl rfl ⟨rfl,rfl,rfl,rfl,rfl⟩ rfl rfl rfl rfl rfl (by kernel_rfl) func3 (by kernel_rfl)
  (of_decide_eq_true (by kernel_rfl)) (by unfold Func.isWrapper;first|(rw[if_pos (by decide +kernel)];kernel_rfl)|(rw[if_neg (by decide +kernel)];exact⟨rfl,rfl⟩))
  (fun os started H enc _=>z6y os started H enc)
theorem txnPlaysCard_holds:Rows.TxnPlaysCardSaid:=
 Claim7.holds_tied_plain_at .later [] [.data] true (true, "923e89126de76aaf192b6716f88a00228ad1135a80823431eaf3619d81b59a0f") false
  z7b (fun _ h=>by cases h) (by kernel_rfl) (fun _ h=>by cases h) txnPlays_row_tie rfl ⟨rfl,rfl⟩ (by kernel_rfl) rfl
  (fun f fn hf hfn=>by
   obtain rfl : f = 3 := Option.some.inj ((show prog.funcNamed "limewash/limewashlaw10.TxnPlays" = some 3 by kernel_rfl).symm.trans hf) |>.symm
   obtain rfl:fn=Tryz.f3:=(Option.some.inj (func3.symm.trans hfn)).symm;exact⟨by kernel_rfl,fun j t ht=>by
    rw[params3]at ht;have hm:t∈[5,23,24]:=by simpa using Array.mem_of_getElem? ht
    have hall:([5,23,24].all fun u=>!Tryz.prog.wantsStandIn u)=true:=by kernel_rfl
    exact(show prog.wantsStandIn t=false by simpa using List.all_eq_true.1 hall t hm)⟩)
  (by kernel_rfl)
#print axioms txnPlaysCard_holds
end Go.Proofs.YtejmknghkbobnaaGreatDoor
