import Derived.Test.YtejmknghkbobnaaGreatDoorPart00
import Derived.Test.YtejmknghkbobnaaGreatDoorPart27
set_option linter.unusedVariables false
set_option linter.unusedSimpArgs false
set_option maxRecDepth 100000
set_option maxHeartbeats 8000000
namespace Go.Proofs.YtejmknghkbobnaaGreatDoor
open Go.Proofs.Tryz
open Go.RowKit Go.Maps
theorem z0w {P:Program}{o:Oper}{a:Act}{v p:Value}{w:World}(ty:TypeId)(x:Operand)(ho:o.op=.load ty x)(hx:a.eval x=p)(hrun:(Instr.loadAt ty p).run P w=.ok v w):(execOp a.eval o).run P w=.ok (.value v) w:=by
 unfold execOp;simp only[ho,hx,Sem.run_bind,Sem.run_pure,Result.andThen_ok,hrun]
theorem zhd {w:World}{P:Nat→Prop}{x:DevS}{sv:Array Value}(hq:RSv w P x sv)(hs:x.Calm)(hP:∀b,w.heap.size≤b→P b)(F Z:Int)(A:Option Addr)(c:Nat)(l:List Rec)(hlc:l.length≤c)(hok:z37 l)(hr:RunAt w A l):
  Calls prog 109 #[.agg sv,.agg #[.int .i64 F,.int .i64 Z],.slice A l.length c] w (RGv w P (x.log F Z l)):=by
 obtain⟨w0,hw0⟩:∃w0,w0=((w.alloc (.cells sv 34)).alloc (.cells #[.int .i64 F,.int .i64 Z] 109)).alloc (.cells svZ 34):=⟨_,rfl⟩;have bD:Blk w0 w.heap.size 34 sv:=by rw[hw0];exact((Blk.new _ _ _).alloc _).alloc _
 have bJ:Blk w0 (w.heap.size+1) 109 #[.int .i64 F,.int .i64 Z]:=by rw[hw0];exact(Blk.new' (by simp)).alloc _
 have bR:Blk w0 (w.heap.size+1+1) 34 svZ:=by rw[hw0];exact Blk.new' (by simp)
 have B0:Below w.heap.size w w0:=by rw[hw0];(repeat' (first|with_reducible (first|exact zho _ _|assumption|refine zhp ?_ ?_ _|refine zhq ?_|refine z00 ?_ _|refine zhr ?_ ?_ _|exact zhT _)|omega|(simp;done)|(simp;omega)))
 have hQ0:=hq.apt B0 w0.heap.size;have HN:=zhs (Apt_.new hP B0.size);have hsz:=hq.size;have hone:=hq.one;have hl1:=hok.1;have zR:=zhs bR.lt;have hhd:=z8Q hQ0 hs F Z;unfold z2D at hhd;have HC:Hid (x.log F Z l=if (x.head F Z).1≠0 then ((x.head F Z).1,x)else
  if z0X x.stable.length F Z l≠0 then (z0X x.stable.length F Z l,x)else
  if (x.puts (logL F (next (x.head F Z).2) l) l.length).1≠0 then x.puts (logL F (next (x.head F Z).2) l) l.length else
  DevS.done ((x.puts (logL F (next (x.head F Z).2) l) l.length).2.put (F+1+l.length) 3 (next (x.head F Z).2) (z0k l.length))):=zhs rfl
 have hck:=@z2s x F Z;have hsq:=z3E x F Z;have HVA:=@z9k x.stable.length F Z l;have HQ:=zhs hQ0;have HR:=zhs (Reads.below hr B0);have HAD:Hid (0<l.length→∀ad,A=some ad→ad.block≠w.heap.size):=zhs fun h0 ad e=>by
  have:=Reads.block_lt hr (fun e2=>by have h1:=z2F l;rw[e2]at h1;simp at h1;omega) ad e
  omega
 clear hq hQ0 hP hr;unfold svZ at hw0;go_enter func109,ntmps109
 go_upto_region 1 with fail
 rw[←hw0];clear hw0;have cJ:=bJ.cells;have lJ:=bJ.lt;have l0:=z0z bD hsz;go_wp2_with (refine z02 (by rfl) _ _ rfl (.agg sv) (.pointer (some ⟨w.heap.size,0,none⟩)) rfl l0 ?_)
 refine hhd.mono ?_;rintro e w1 ⟨rfl,hb1⟩;have B1:=B0.trans (hb1.mono B0.size);have bD1:=bD.belowAll hb1;have bJ1:=bJ.belowAll hb1;have bR1:=bR.belowAll hb1;have hQ1:=HQ.out.below hb1;have hr1:=Reads.below HR.out hb1;have HZ1:=zhs hb1.size;clear hhd bD bJ bR B0 hb1 cJ lJ l0;have l1:=z0z bD1 hsz;by_cases hE:(x.head F Z).1=0
 rotate_left
 ·have HH:Hid (x.log F Z l=((x.head F Z).1,x)):=zhs (by rw[HC.out,if_pos hE])
  clear HC hck hsq HVA;generalize (x.head F Z).1=E at *;generalize (x.head F Z).2=q at *;have hE':(E != 0)=true:=by simpa using hE
  have hE2:(E==0)=false:=by simpa using hE
  have hst:=z0l bR1 rfl hsz hone;have bR2:=bR1.setRow (cs':=sv);have hfin:=RGv.mk (R:=w.heap.size+1+1) E hQ1 B1 (by omega) zR.out
  clear hE;go_wp2_with (first|(refine z02 (by rfl) _ _ rfl (.agg sv) (.pointer (some ⟨w.heap.size,0,none⟩)) rfl l1 ?_)|(refine z01 rfl _ _ _ rfl _ _ rfl rfl hst ?_))
  refine bodyPost_ret (z08 (cs:=sv) rfl rfl rfl bR2 underlying34 (by rw[hsz];kernel_rfl)) rfl ?_
  rw[HH.out];exact hfin
 have hFZ:=hck hE;have HC1:Hid (x.log F Z l=if z0X x.stable.length F Z l≠0 then (z0X x.stable.length F Z l,x)else
  if (x.puts (logL F (next (x.head F Z).2) l) l.length).1≠0 then x.puts (logL F (next (x.head F Z).2) l) l.length else
  DevS.done ((x.puts (logL F (next (x.head F Z).2) l) l.length).2.put (F+1+l.length) 3 (next (x.head F Z).2) (z0k l.length))):=zhs (by rw[HC.out,if_neg (by rw[hE];simp)])
 rw[hE];clear hE HC hck;generalize (x.head F Z).2=q at *;have hva:=zfO hQ1 F Z (by omega) A c l hlc hok hr1
 have cJ:=bJ1.cells;have lJ:=bJ1.lt;go_wp2_with (refine z02 (by rfl) _ _ rfl (.agg sv) (.pointer (some ⟨w.heap.size,0,none⟩)) rfl l1 ?_)
 refine hva.mono ?_;rintro e w2 ⟨rfl,hb2⟩;have B2:=B1.trans (hb2.mono B1.size);have bD2:=bD1.belowAll hb2;have bJ2:=bJ1.belowAll hb2;have bR2:=bR1.belowAll hb2;have hQ2:=hQ1.below hb2;have HR2:=zhs (Reads.below hr1 hb2);have HZ2:=zhs (zhS HZ1.out hb2.size);clear hva bD1 bJ1 bR1 B1 hb2 cJ lJ l1 hQ1 hr1 HQ HR;have l2:=z0z bD2 hsz;by_cases hV:z0X x.stable.length F Z l=0
 rotate_left
 ·have HH:Hid (x.log F Z l=(z0X x.stable.length F Z l,x)):=zhs (by rw[HC1.out,if_pos hV])
  clear HC1 HVA;generalize z0X x.stable.length F Z l=E at *;have hE':(E != 0)=true:=by simpa using hV
  have hst:=z0l bR2 rfl hsz hone;have bR3:=bR2.setRow (cs':=sv);have hfin:=RGv.mk (R:=w.heap.size+1+1) E hQ2 B2 (by omega) zR.out
  clear hV;go_wp2_with (first|(refine z02 (by rfl) _ _ rfl (.agg sv) (.pointer (some ⟨w.heap.size,0,none⟩)) rfl l2 ?_)|(refine z01 rfl _ _ _ rfl _ _ rfl rfl hst ?_))
  refine bodyPost_ret (z08 (cs:=sv) rfl rfl rfl bR3 underlying34 (by rw[hsz];kernel_rfl)) rfl ?_
  rw[HH.out];exact hfin
 have HVL:=zhs (HVA hV);have HC2:Hid (x.log F Z l=if (x.puts (logL F (next q) l) l.length).1≠0 then x.puts (logL F (next q) l) l.length else
  DevS.done ((x.puts (logL F (next q) l) l.length).2.put (F+1+l.length) 3 (next q) (z0k l.length))):=zhs (by rw[HC1.out,if_neg (by rw[hV];simp)])
 rw[hV];clear hV HC1 HVA;have hwr:IntKind.u32.wrap (q+1)=next q:=by unfold next;rw[IntKind.wrap_u32]
 have hnx:0≤next q∧next q<4294967296:=by unfold next;omega
 obtain⟨q1,hq1⟩:∃q1,next q=q1:=⟨_,rfl⟩;rw[hq1]at hwr hnx HC2;obtain⟨L,hLL⟩:∃L,L=logL F q1 l:=⟨_,rfl⟩;rw[←hLL]at HC2;have HLG:Hid (∀k (hk:k<l.length),L.getD k default=(F+1+k,⟨2,q1,logS l[k]⟩)):=zhs (fun k hk=>by rw[hLL];exact zav hk)
 clear hLL hq1;go_wp2_with fail
 go_loopw [9,10] (fun e9 i wr=>∃(k:Nat) (svk:Array Value),k≤l.length∧i=.int .i64 k∧e9=.int .i64 (x.puts L k).1∧RSv wr (Apt_ P w.heap.size w0.heap.size) (x.puts L k).2 svk∧Blk wr w.heap.size 34 svk∧Blk wr (w.heap.size+1) 109 #[.int .i64 F,.int .i64 Z]∧Blk wr (w.heap.size+1+1) 34 svZ∧Below w.heap.size w wr∧w0.heap.size≤wr.heap.size∧RunAt wr A l) (fun _ i _=>l.length - (intOf i).toNat)
 case atStart=>exact⟨0,sv,zi9 _,rfl,rfl,hQ2,bD2,bJ2,bR2,B2,HZ2.out,HR2.out⟩
 case round=>
  obtain⟨k,svk,hk,rfl,rfl,hqk,bDk,bJk,bRk,hB,hzr,hrk⟩:=hrel;have cJ:=bJk.cells;have lJ:=bJk.lt;have hszk:=hqk.size;have honek:=hqk.one;have lk:=z0z bDk hszk;by_cases hE:(x.puts L k).1=0
  rotate_left
  ·as_aux_lemma=>
   have HH:Hid (x.log F Z l=((x.puts L k).1,(x.puts L k).2)):=zhs (by
    have h:=z4y (l:=L) hE hk;rw[HC2.out,h,if_pos hE])
   generalize (x.puts L k).1=E at *;generalize (x.puts L k).2=zz at *;have hE':(E==0)=false:=by simpa using hE
   have hE2:(E != 0)=true:=by simpa using hE
   have hst:=z0l bRk rfl hszk honek;have bR4:=bRk.setRow (cs':=svk);have hfin:=RGv.mk (R:=w.heap.size+1+1) E hqk hB (by omega) zR.out
   clear hE;by_cases hlt:(k:Int)<l.length
   all_goals
    go_wp2_with (first|(refine z02 (by rfl) _ _ rfl (.agg svk) (.pointer (some ⟨w.heap.size,0,none⟩)) rfl lk ?_)|(refine z01 rfl _ _ _ rfl _ _ rfl rfl hst ?_))
    refine bodyPost_ret (z08 (cs:=svk) rfl rfl rfl bR4 underlying34 (by rw[hszk];kernel_rfl)) rfl ?_
    rw[HH.out];exact hfin
  by_cases hlt:k<l.length
  ·as_aux_lemma=>
   obtain⟨b,off,rfl,hbl,c0,c1,c2⟩:=hrk.at_ hlt;have HRK:=zhs hrk;obtain⟨-,ha0,ha1,hk1,hk2,hs96,-⟩:=z8J (HVL.out.2 k hlt);have hnn:(x.stable.length:Int)≤256:=by have:=hQ2.ok.hi;omega
   have HNX:Hid (x.puts L (k+1)=(x.puts L k).2.put (F+1+k) 2 q1 (z0k l[k].at_++strOfNums [l[k].kind]++l[k].data)):=zhs (by
    rw[z4u hE (HLG.out k hlt),zds,show l[k].kind % 256=l[k].kind by omega])
   generalize l[k]=r at *;obtain⟨av,kv,sx⟩:=r;simp only at c0 c1 c2 ha0 ha1 hk1 hk2 hs96 HNX
   rw[hE];generalize (x.puts L k).2=y at *;have hkm:IntKind.u8.wrap kv=kv:=by rw[IntKind.wrap_u8'];omega
   have hlt':(k:Int)<l.length:=by omega
   clear hE;go_upto_region 11 with fail
   obtain⟨X,hX⟩:∃X,X=wr.alloc (.cells #[.int .i64 av,.int .i64 kv,.string sx] 118):=⟨_,rfl⟩;have bX:Blk X wr.heap.size 118 #[.int .i64 av,.int .i64 kv,.string sx]:=by rw[hX];exact Blk.new _ _ _
   have BX:Below wr.heap.size wr X:=by rw[hX];exact(zho _ _).alloc (zhT _) _
   rw[←hX];clear hX c0 c1 c2 cJ lJ lk;have zX:=BX.size;have bDX:=bDk.belowAll BX;have bJX:=bJk.belowAll BX;have hS1:∀W,Below X.heap.size X W→Blk W w.heap.size 34 svk∧W.cell? ⟨w.heap.size+1,0,none⟩=some (.int .i64 F)∧W.cell? ⟨wr.heap.size,0,none⟩=some (.int .i64 av)∧W.cell? ⟨wr.heap.size,1,none⟩=some (.int .i64 kv)∧W.cell? ⟨wr.heap.size,2,none⟩=some (.string sx):=fun W hb=>by
    have c:=(bX.belowAll hb).cells;exact⟨bDX.belowAll hb,((bJX.belowAll hb).cells 0).trans rfl,(c 0).trans rfl,(c 1).trans rfl,(c 2).trans rfl⟩
   have e1:IntKind.i64.wrap (F+1)=F+1:=by rw[IntKind.wrap_i64];omega
   have e2:IntKind.i64.wrap (F+1+k)=F+1+k:=by rw[IntKind.wrap_i64];omega
   have htwo:=fun W=>z7S av (by omega) (by omega) W
   refine z13 (Us.takes [0,1,2,3,4,5,6,7,8,10,11,12,16,17] (.fork 9 13 (.one 13 (.one 14 (Us.pures [15,18] (.one 19 (Us.pures [20,21,22] (.late 23 (.late 24 .done))))))) (.fork 9 14 (.one 14 (Us.pures [15,18] (.one 19 (Us.pures [20,21,22] (.late 23 (.late 24 .done)))))) (.one 9 (Us.pures [15,18] (.one 19 (Us.pures [20,21,22] (.late 23 (.late 24 .done))))))))) 23 (fun W=>Blk W w.heap.size 34 svk∧W.cell? ⟨w.heap.size+1,0,none⟩=some (.int .i64 F)∧W.cell? ⟨wr.heap.size,0,none⟩=some (.int .i64 av)∧W.cell? ⟨wr.heap.size,1,none⟩=some (.int .i64 kv)∧W.cell? ⟨wr.heap.size,2,none⟩=some (.string sx)) (by kernel_rfl) (by kernel_rfl) (fun _ _ _ _ _ h=>h) (hS1 _ (zho _ _).drew) ?_
   simp only[Us.takes,Us.pures,Us.fill,zhy,zhz];refine z0K (by rfl) (.agg svk) (fun w' hw'=>z0w 34 _ rfl rfl (z0z hw'.1 hszk)) ?_
   (try simp only[Act.put,zht,zhu,zhv])
   iterate 13 (refine z0K (by rfl) ?_ (fun w' hw'=>?_) ?_;rotate_left;(focus (go_simp;(try with_reducible rfl)));(try simp only[Act.put,zht,zhu,zhv]))
   refine z3X (fun K hK=>?_) (fun K hK=>?_)
   focus
    go_simp;refine(htwo X.drew).mono ?_;rintro e w5 ⟨rfl,hb5⟩;have hb5':Below X.heap.size X w5:=(zho _ _).drew.trans hb5;refine hK _ _ (hS1 _ hb5') ?_;clear hK K;have bS:Blk (w5.alloc (.cells #[.int .u8 kv] 5)) w5.heap.size 5 #[.int .u8 kv]:=Blk.new _ _ _;have hb3:Below X.heap.size X (w5.alloc (.cells #[.int .u8 kv] 5)):=hb5'.alloc hb5'.size _;have hcv:=zbB bS;refine z1b (fun K hK=>?_)
    go_simp;refine hK _ _ (hS1 _ hb3) ?_;clear hK K;refine z1b (fun K hK=>?_)
    go_simp;refine hK _ _ (hS1 _ hb3) ?_;clear hK K hcv bS hb5 hb5';generalize w5.alloc (.cells #[.int .u8 kv] 5)=w3 at *
   rotate_left;focus
    have bS:Blk (X.alloc (.cells #[.int .u8 kv] 5)).drew X.heap.size 5 #[.int .u8 kv]:=(Blk.new _ _ _).drew;have hb3:Below X.heap.size X (X.alloc (.cells #[.int .u8 kv] 5)).drew:=((zho _ _).alloc (zhT _) _).drew;obtain⟨X2,hX2⟩:∃X2,X2=(X.alloc (.cells #[.int .u8 kv] 5)).drew:=⟨_,rfl⟩;go_simp;rw[←hX2]at bS hb3 ⊢;refine hK _ _ (hS1 _ hb3) ?_;clear hK K hX2;have z2:=hb3.size;refine z3X (fun K hK=>?_) (fun K hK=>?_)
    focus
     go_simp;refine(htwo X2).mono ?_;rintro e w3 ⟨rfl,hb5⟩;have hb3:Below X.heap.size X w3:=hb3.trans (hb5.mono z2);refine hK _ _ (hS1 _ hb3) ?_;clear hK K;have hcv:=zbB (bS.belowAll hb5);refine z1b (fun K hK=>?_)
     go_simp;refine hK _ _ (hS1 _ hb3) ?_;clear hK K hcv bS hb5
    rotate_left;focus
     have hcv:=zbB bS;go_simp;refine hK _ _ (hS1 _ hb3) ?_;clear hK K;refine z1b (fun K hK=>?_)
     go_simp;refine(htwo X2).mono ?_;rintro e w3 ⟨rfl,hb5⟩;have hb3:Below X.heap.size X w3:=hb3.trans (hb5.mono z2);refine hK _ _ (hS1 _ hb3) ?_;clear hK K hcv bS hb5
   all_goals
    have hbw:Below wr.heap.size wr w3:=BX.trans (hb3.mono zX);have hz1:(z0k av).size=2:=by show (strOfNums _).size=2;rw[strOfNums_size];rfl
    have hz2:(strOfNums [kv]).size=1:=by rw[strOfNums_size];rfl
    have hz3:¬9223372036854775807<(z0k av).size+(strOfNums [kv]).size+sx.size:=by omega
    have hz4:¬9223372036854775807<(z0k av).size+(strOfNums [kv]).size:=by omega
    have hz5:(z0k av++strOfNums [kv]++sx).size≤maxLen:=by rw[ByteArray.size_append,ByteArray.size_append];unfold maxLen;omega
    have hput:=zdE (hqk.below hbw) (fun b hb=>HN.out b (zhS hzr (zhS hbw.size hb))) (F+1+k) 2 q1 hnx (z0k av++strOfNums [kv]++sx) hz5
    rw[←HNX.out]at hput;obtain⟨p,hp⟩:∃p,x.puts L (k+1)=p:=⟨_,rfl⟩;rw[hp]at hput;have HP:=zhs hp;clear hz1 hz2 hz5 hp HNX;iterate 2 (refine z1s (by rfl) ?_ (fun w' hw'=>?_) ?_;rotate_left;(focus (go_simp;(try with_reducible rfl)));(try simp only[Act.put,zht,zhu,zhv]))
    refine z1b fun K hK=>?_
    go_simp;refine hput.mono ?_;rintro e w5 ⟨sv5,rfl,hq5,hb5⟩;have hb5':Below X.heap.size X w5:=hb3.trans (hb5.mono hb3.size);refine hK _ _ (hS1 _ hb5') ?_;clear hK K hput hz3 hz4;iterate 3 (refine z1s (by rfl) ?_ (fun w' hw'=>?_) ?_;rotate_left;(focus (go_simp;(try with_reducible rfl)));(try simp only[Act.put,zht,zhu,zhv]))
    have B5:=Below.setRow (hB.trans ((hbw.trans (hb5.mono hbw.size)).mono hB.size)) (zhT _) sv5;have bD5:=(bDk.belowAll hbw).belowAll hb5;have hst:=z0l bD5 hszk hq5.size hq5.one;have bD6:=bD5.setRow (cs':=sv5);have bJ6:=((bJk.belowAll hbw).belowAll hb5).rowFar (cs':=sv5) (show w.heap.size+1≠w.heap.size by omega)
    have bR6:=((bRk.belowAll hbw).belowAll hb5).rowFar (cs':=sv5) (show w.heap.size+1+1≠w.heap.size by omega)
    have hQ6:=hq5.row (Apt_.ne (zhT _) (by have:=zR.out;omega)) sv5
    have hz6:w0.heap.size≤(w5.setRow w.heap.size sv5).heap.size:=by have h1:=hb5.size;have h2:=hbw.size;simp;omega
    have hr6:RunAt (w5.setRow w.heap.size sv5) (some ⟨b,off,none⟩) l:=Reads.frame (Reads.below (Reads.below HRK.out hbw) hb5) (fun ad e hl=>z0b _ _ _ _ (HAD.out (by omega) _ e)) (by simp)
    refine z0H fun K hK=>?_
    refine z0h _ _ _ rfl _ _ rfl rfl hst ?_;refine hK _ _ ?_;clear hK K hst;(try simp only[Act.put,zht,zhu,zhv])
    generalize w5.setRow w.heap.size sv5=W6 at *;refine z0H fun K hK=>?_
    go_simp;refine hK _ _ ?_;clear hK K;refine z1G ?_;clear hS1 bX bDX bJX bDk bJk bRk hq5 hqk;go_wp2_with fail
    go_roundw
    case rel=>exact⟨k+1,sv5,by omega,by go_num,by rw[HP.out],by rw[HP.out];exact hQ6,bD6,bJ6,bR6,B5,hz6,hr6⟩
    case measure=>simp[intOf];omega
  ·as_aux_lemma=>
   obtain rfl:k=l.length:=by omega
   have HLE:Hid (x.log F Z l=DevS.done ((x.puts L l.length).2.put (F+1+l.length) 3 q1 (z0k l.length))):=zhs (by rw[HC2.out,if_neg (by rw[hE];simp)])
   rw[hE];clear hE;generalize (x.puts L l.length).2=y at *;have e1:IntKind.i64.wrap (F+1)=F+1:=by rw[IntKind.wrap_i64];omega
   have e2:IntKind.i64.wrap (F+1+l.length)=F+1+l.length:=by rw[IntKind.wrap_i64];omega
   have hS1:∀W,Below wr.heap.size wr W→Blk W w.heap.size 34 svk∧W.cell? ⟨w.heap.size+1,0,none⟩=some (.int .i64 F):=fun W hb=>⟨bDk.belowAll hb,((bJk.belowAll hb).cells 0).trans rfl⟩
   have hsl:(z0k l.length).size≤maxLen:=by
    have:(z0k l.length).size=2:=by show (strOfNums _).size=2;rw[strOfNums_size];rfl
    rw[this];unfold maxLen;omega
   clear cJ lJ lk;go_upto_region 13 with fail
   refine z13 (Us.takes [0,1,2,3,4,5,6,7,8,9] (.one 10 (.one 11 (Us.pures [12,13,14] (.late 15 (.late 16 .done)))))) 15 (fun W=>Blk W w.heap.size 34 svk∧W.cell? ⟨w.heap.size+1,0,none⟩=some (.int .i64 F)) (by kernel_rfl) (by kernel_rfl) (fun _ _ _ _ _ h=>h) (hS1 _ (zho _ _).drew) ?_
   simp only[Us.takes,Us.pures,Us.fill,zhy,zhz];refine z0K (by rfl) (.agg svk) (fun w' hw'=>z0w 34 _ rfl rfl (z0z hw'.1 hszk)) ?_
   (try simp only[Act.put,zht,zhu,zhv])
   iterate 9 (refine z0K (by rfl) ?_ (fun w' hw'=>?_) ?_;rotate_left;(focus (go_simp;(try with_reducible rfl)));(try simp only[Act.put,zht,zhu,zhv]))
   refine z1b fun K hK=>?_
   go_simp;refine(z7S l.length (by omega) (by omega) wr.drew).mono ?_
   rintro e w3 ⟨rfl,hb3⟩;have hb3':Below wr.heap.size wr w3:=(zho _ _).drew.trans hb3;refine hK _ _ (hS1 _ hb3') ?_;clear hK K;have hput:=zdE (hqk.below hb3') (fun b hb=>HN.out b (zhS hzr (zhS hb3'.size hb))) (F+1+l.length) 3 q1 hnx (z0k l.length) hsl
   obtain⟨p,hp⟩:∃p,y.put (F+1+l.length) 3 q1 (z0k l.length)=p:=⟨_,rfl⟩;rw[hp]at hput HLE;clear hp;refine z1b fun K hK=>?_
   go_simp;refine hput.mono ?_;rintro e w5 ⟨sv5,rfl,hq5,hb5⟩;have hb5':Below wr.heap.size wr w5:=hb3'.trans (hb5.mono hb3'.size);refine hK _ _ (hS1 _ hb5') ?_;clear hK K hput;iterate 3 (refine z1s (by rfl) ?_ (fun w' hw'=>?_) ?_;rotate_left;(focus (go_simp;(try with_reducible rfl)));(try simp only[Act.put,zht,zhu,zhv]))
   have B5:=Below.setRow (hB.trans (hb5'.mono hB.size)) (zhT _) sv5;have bD5:=bDk.belowAll hb5';have hsz5:=hq5.size;have hone5:=hq5.one;have hst:=z0l bD5 hszk hsz5 hone5;have bD6:=bD5.setRow (cs':=sv5);have bR6:=(bRk.belowAll hb5').rowFar (cs':=sv5) (show w.heap.size+1+1≠w.heap.size by omega)
   have hQ6:=hq5.row (Apt_.ne (zhT _) (by have:=zR.out;omega)) sv5
   have HN6:Hid (∀b,(w5.setRow w.heap.size sv5).heap.size≤b→Apt_ P w.heap.size w0.heap.size b):=zhs fun b hb=>HN.out b (zhS hzr (zhS hb5'.size (by simpa using hb)))
   refine z0H fun K hK=>?_
   refine z0h _ _ _ rfl _ _ rfl rfl hst ?_;refine hK _ _ ?_;clear hK K hst;(try simp only[Act.put,zht,zhu,zhv])
   generalize w5.setRow w.heap.size sv5=W6 at *;refine z0H fun K hK=>?_
   go_simp;refine hK _ _ ?_;clear hK K;refine z1G ?_;clear hS1 bDk bJk bRk hq5 hqk bD5;have l6:=z0z bD6 hsz5;by_cases hE:p.1=0
   rotate_left
   ·have HH:Hid (x.log F Z l=(p.1,p.2)):=zhs (by rw[HLE.out,z3f hE])
    generalize p.1=E at *;have hE':(E != 0)=true:=by simpa using hE
    have hst:=z0l bR6 rfl hsz5 hone5;have bR7:=bR6.setRow (cs':=sv5);have hfin:=RGv.mk (R:=w.heap.size+1+1) E hQ6 B5 (by omega) zR.out
    clear hE;go_wp2_with (first|(refine z02 (by rfl) _ _ rfl (.agg sv5) (.pointer (some ⟨w.heap.size,0,none⟩)) rfl l6 ?_)|(refine z01 rfl _ _ _ rfl _ _ rfl rfl hst ?_))
    refine bodyPost_ret (z08 (cs:=sv5) rfl rfl rfl bR7 underlying34 (by rw[hsz5];kernel_rfl)) rfl ?_
    rw[HH.out];exact hfin
   have HH:Hid (x.log F Z l=p.2.flush):=zhs (by rw[HLE.out,z2w hE])
   rw[hE];clear hE;have hfl:=z7B hQ6 HN6.out;generalize p.2=z at *;go_wp2_with (refine z02 (by rfl) _ _ rfl (.agg sv5) (.pointer (some ⟨w.heap.size,0,none⟩)) rfl l6 ?_)
   refine hfl.mono ?_;rintro e w7 ⟨sv7,rfl,hq7,hb7⟩;have hsz7:=hq7.size;have hst:=z0l (bR6.belowAll hb7) rfl hsz7 hq7.one;have bR8:=(bR6.belowAll hb7).setRow (cs':=sv7);have hfin:=RGv.mk (R:=w.heap.size+1+1) z.flush.1 hq7 (B5.trans (hb7.mono B5.size)) (by omega) zR.out
   clear hfl l6 bD6 bR6 hb7;go_wp2_with (refine z01 rfl _ _ _ rfl _ _ rfl rfl hst ?_)
   refine bodyPost_ret (z08 (cs:=sv7) rfl rfl rfl bR8 underlying34 (by rw[hsz7];kernel_rfl)) rfl ?_
   rw[HH.out];exact hfin
def RAv (w:World)(P:Nat→Prop)(r:Int × Int × DevS)(e:Ending)(w':World):Prop:=
 ∃sv,e=.returned (.tuple #[.agg sv,.int .i64 r.1,.int .i64 r.2.1])∧RSv w' P r.2.2 sv∧Below w.heap.size w w'
theorem RAv.mk {w W:World}{P:Nat→Prop}{E0 R:Nat}{z:DevS}{sv:Array Value}(n e:Int)(hq:RSv W (Apt_ P w.heap.size E0) z sv)(hB:Below w.heap.size w W)(h1:w.heap.size≤R)(h2:R<E0):RAv w P (n,e,z) (.returned (.tuple #[.agg sv,.int .i64 n,.int .i64 e])) (W.setRow R sv):=
 ⟨sv,rfl,(hq.row (Apt_.ne h1 h2) sv).unapt,Below.setRow hB h1 sv⟩
theorem z0C {fn:Func}{m n k R:Nat}{ty t:TypeId}{tmps:Array Value}{w:World}{cs:Array Value}{fr:Nat × Nat}{i e:Int}{fs:_}(hr:fn.results=#[.cell m ty,.tmp n,.tmp k])(hm:tmps.getD m undef=.pointer (some ⟨R,0,none⟩))(hn:tmps.getD n undef=.int .i64 i)(hk:tmps.getD k undef=.int .i64 e)
  (hg:w.heap[R]?=some (.cells cs t fr)) (hu:prog.underlying ty=some (.struct fs)) (hi:(prog.info? ty).map (·.size)=some cs.size):
  (results fn tmps).run prog w=.ok (.tuple #[.agg cs,.int .i64 i,.int .i64 e]) w:=by
 have h:=run_loadVar_row (P:=prog) w R t ty cs fr _ hg hu rfl hi;have h1:(asAddr (.pointer (some ⟨R,0,none⟩))).run prog w=.ok ⟨R,0,none⟩ w:=rfl;have hm':tmps[m]?.getD undef=.pointer (some ⟨R,0,none⟩):=by simpa using hm
 have hn':tmps[n]?.getD undef=.int .i64 i:=by simpa using hn
 have hk':tmps[k]?.getD undef=.int .i64 e:=by simpa using hk
 simp[results,hr,hm',hn',hk',h1,h]
theorem z8A {x:DevS}{F Z:Int}(h:(x.look F Z).1=0):(x.head F Z).1=0∧(x.head F Z).2=(x.look F Z).2.1:=by
 unfold DevS.look at h ⊢;by_cases h0:(x.head F Z).1=0
 ·rw[if_neg (by rw[h0];simp)]at h ⊢
  refine⟨h0,?_⟩
  by_cases h1:(x.lookTo F Z (x.head F Z).2 (Z - 1).toNat).e=0
  ·rw[if_neg (by rw[h1];simp)]
  ·rw[if_pos h1]at h;exact absurd h h1
 ·rw[if_pos h0]at h;exact absurd h h0
theorem zcz {w:World}{P:Nat→Prop}{x:DevS}{sv:Array Value}(hq:RSv w P x sv)(hs:x.Calm)(hP:∀b,w.heap.size≤b→P b)(F Z:Int):
  Calls prog 110 #[.agg sv,.agg #[.int .i64 F,.int .i64 Z]] w (RAv w P (x.apply F Z)):=by
 obtain⟨w0,hw0⟩:∃w0,w0=((w.alloc (.cells sv 34)).alloc (.cells #[.int .i64 F,.int .i64 Z] 109)).alloc (.cells svZ 34):=⟨_,rfl⟩;have bD:Blk w0 w.heap.size 34 sv:=by rw[hw0];exact((Blk.new _ _ _).alloc _).alloc _
 have bJ:Blk w0 (w.heap.size+1) 109 #[.int .i64 F,.int .i64 Z]:=by rw[hw0];exact(Blk.new' (by simp)).alloc _
 have bR:Blk w0 (w.heap.size+1+1) 34 svZ:=by rw[hw0];exact Blk.new' (by simp)
 have B0:Below w.heap.size w w0:=by rw[hw0];(repeat' (first|with_reducible (first|exact zho _ _|assumption|refine zhp ?_ ?_ _|refine zhq ?_|refine z00 ?_ _|refine zhr ?_ ?_ _|exact zhT _)|omega|(simp;done)|(simp;omega)))
 have hQ0:=hq.apt B0 w0.heap.size;have HN:=zhs (Apt_.new hP B0.size);have hsz:=hq.size;have hone:=hq.one;have zR:=zhs bR.lt;have hlk:=zfJ hQ0 hs F Z;have hok:=z7C x F Z;have hlh:=@z8A x F Z;have hsq:=z89 x F Z;have HA:Hid (x.apply F Z=if (x.look F Z).1≠0 then (0,(x.look F Z).1,x)else if (x.look F Z).2.2.2=false then (0,9,x)else
  if (x.applies (x.look F Z).2.1 (x.look F Z).2.2.1).1≠0 then (0,x.applies (x.look F Z).2.1 (x.look F Z).2.2.1)else (((x.look F Z).2.2.1.length:Int),x.applies (x.look F Z).2.1 (x.look F Z).2.2.1)):=zhs rfl
 have hhd:=fun (W:World) (hW:Below w0.heap.size w0 W)=>z8Q (hQ0.below hW) hs F Z
 unfold z2D at hhd;have HHD:=zhs hhd;generalize x.look F Z=lk at *;obtain⟨E,q,l,wh⟩:=lk;simp only at hok hlh hsq HA
 have hl1:=hok.1;have HOK:=zhs hok;have HQ:=zhs hQ0;unfold z6g at hlk;simp only at hlk
 clear hq hQ0 hP hok hhd;unfold svZ at hw0;go_enter func110,ntmps110
 go_upto_region 1 with fail
 rw[←hw0];clear hw0;have cJ:=bJ.cells;have lJ:=bJ.lt;have l0:=z0z bD hsz;go_wp2_with (refine z02 (by rfl) _ _ rfl (.agg sv) (.pointer (some ⟨w.heap.size,0,none⟩)) rfl l0 ?_)
 refine hlk.mono ?_;rintro e w1 ⟨hb1,A,c,rfl,own1⟩;have B1:=B0.trans (hb1.mono B0.size);have bD1:=bD.belowAll hb1;have bJ1:=bJ.belowAll hb1;have bR1:=bR.belowAll hb1;have hQ1:=HQ.out.below hb1;have HB1:=zhs hb1;have HO1:=zhs own1;clear hlk bD bJ bR B0 hb1 cJ lJ l0 own1;have l1:=z0z bD1 hsz;have hst:=z0l bR1 rfl hsz hone;have bR2:=bR1.setRow (cs':=sv);by_cases hE:E=0
 rotate_left
 ·have HH:Hid (x.apply F Z=(0,E,x)):=zhs (by rw[HA.out,if_pos hE])
  have hE':(E != 0)=true:=by simpa using hE
  have hE2:(E==0)=false:=by simpa using hE
  have hfin:=RAv.mk (R:=w.heap.size+1+1) 0 E hQ1 B1 (by omega) zR.out
  clear hE HA hlh;go_wp2_with (first|(refine z02 (by rfl) _ _ rfl (.agg sv) (.pointer (some ⟨w.heap.size,0,none⟩)) rfl l1 ?_)|(refine z01 rfl _ _ _ rfl _ _ rfl rfl hst ?_))
  refine bodyPost_ret (z0C (cs:=sv) rfl rfl rfl rfl bR2 underlying34 (by rw[hsz];kernel_rfl)) rfl ?_
  rw[HH.out];exact hfin
 subst hE;obtain⟨hh1,hh2⟩:=hlh rfl;rw[hh1,hh2]at HHD;clear hh1 hh2 hlh;cases wh
 ·have HH:Hid (x.apply F Z=(0,9,x)):=zhs (by rw[HA.out,if_neg (by simp),if_pos rfl])
  have hfin:=RAv.mk (R:=w.heap.size+1+1) 0 9 hQ1 B1 (by omega) zR.out
  clear HA;go_wp2_with (first|(refine z02 (by rfl) _ _ rfl (.agg sv) (.pointer (some ⟨w.heap.size,0,none⟩)) rfl l1 ?_)|(refine z01 rfl _ _ _ rfl _ _ rfl rfl hst ?_))
  refine bodyPost_ret (z0C (cs:=sv) rfl rfl rfl rfl bR2 underlying34 (by rw[hsz];kernel_rfl)) rfl ?_
  rw[HH.out];exact hfin
 clear hst bR2;have HA1:Hid (x.apply F Z=if (x.applies q l).1≠0 then (0,x.applies q l)else ((l.length:Int),x.applies q l)):=zhs (by rw[HA.out,if_neg (by simp),if_neg (by simp)])
 have hhd:=HHD.out w1 HB1.out;have cJ:=bJ1.cells;have lJ:=bJ1.lt;clear HA;go_wp2_with (refine z02 (by rfl) _ _ rfl (.agg sv) (.pointer (some ⟨w.heap.size,0,none⟩)) rfl l1 ?_)
 refine hhd.mono ?_;rintro e w2 ⟨rfl,hb2⟩;have B2:=B1.trans (hb2.mono B1.size);have bD2:=bD1.belowAll hb2;have bR2:=bR1.belowAll hb2;have hQ2:=hQ1.below hb2;have HO2:=zhs (z0a HO1.out hb2);have HZ2:=zhs (zhS HB1.out.size hb2.size);clear hhd HHD bD1 bJ1 bR1 B1 hb2 cJ lJ l1 hQ1 HO1 HQ HB1;have hwr:IntKind.u32.wrap (q+1)=next q:=by unfold next;rw[IntKind.wrap_u32]
 have hnx:0≤next q∧next q<4294967296:=by unfold next;omega
 obtain⟨q1,hq1⟩:∃q1,next q=q1:=⟨_,rfl⟩;obtain⟨L,hLL⟩:∃L,L=appL q1 l:=⟨_,rfl⟩;have HAP:Hid (x.applies q l=DevS.done (x.puts L l.length)):=zhs (by rw[hLL,←hq1];rfl)
 rw[hq1]at hwr hnx;have HLG:Hid (∀k (hk:k<l.length),L.getD k default=(l[k].at_,⟨l[k].kind,q1,l[k].data⟩)):=zhs (fun k hk=>by rw[hLL];exact zb5 hk)
 clear hLL hq1;have HNE:=zhs (z0c (w':=w2) HO2.out fun _ _=>rfl)
 clear HNE;go_wp2_with fail
 go_loopw [9,12] (fun e9 i wr=>∃(k:Nat) (svk:Array Value),k≤l.length∧i=.int .i64 k∧e9=.int .i64 (x.puts L k).1∧RSv wr (Apt_ P w.heap.size w0.heap.size) (x.puts L k).2 svk∧Blk wr w.heap.size 34 svk∧Blk wr (w.heap.size+1+1) 34 svZ∧Below w.heap.size w wr∧w0.heap.size≤wr.heap.size∧wr.ownsRow w0.heap.size 118 3 (.slice A l.length c) l.length (l.flatMap recV)) (fun _ i _=>l.length - (intOf i).toNat)
 case atStart=>exact⟨0,sv,zi9 _,rfl,rfl,hQ2,bD2,bR2,B2,HZ2.out,HO2.out⟩
 case round=>
  obtain⟨k,svk,hk,rfl,rfl,hqk,bDk,bRk,hB,hzr,hown⟩:=hrel;have hszk:=hqk.size;have honek:=hqk.one;have lk:=z0z bDk hszk;by_cases hE:(x.puts L k).1=0
  rotate_left
  ·as_aux_lemma=>
   have HH:Hid (x.apply F Z=(0,(x.puts L k).1,(x.puts L k).2)):=zhs (by
    have h:=z4y (l:=L) hE hk;rw[HA1.out,HAP.out,h,z3f hE,if_pos hE])
   generalize (x.puts L k).1=E at *;generalize (x.puts L k).2=zz at *;have hE':(E==0)=false:=by simpa using hE
   have hE2:(E != 0)=true:=by simpa using hE
   have hst:=z0l bRk rfl hszk honek;have bR4:=bRk.setRow (cs':=svk);have hfin:=RAv.mk (R:=w.heap.size+1+1) 0 E hqk hB (by omega) zR.out
   clear hE;by_cases hlt:(k:Int)<l.length
   all_goals
    go_wp2_with (first|(refine z02 (by rfl) _ _ rfl (.agg svk) (.pointer (some ⟨w.heap.size,0,none⟩)) rfl lk ?_)|(refine z01 rfl _ _ _ rfl _ _ rfl rfl hst ?_))
    refine bodyPost_ret (z0C (cs:=svk) rfl rfl rfl rfl bR4 underlying34 (by rw[hszk];kernel_rfl)) rfl ?_
    rw[HH.out];exact hfin
  by_cases hlt:k<l.length
  ·as_aux_lemma=>
   have hrk:RunAt wr A l:=z1z hown (z2F l);obtain⟨b,off,rfl,hbl,c0,c1,c2⟩:=hrk.at_ hlt;have HO:=zhs hown;have hrs:=(HOK.out.2 _ (zhQ hlt)).2;have HNX:Hid (x.puts L (k+1)=(x.puts L k).2.put l[k].at_ l[k].kind q1 l[k].data):=zhs (by rw[z4u hE (HLG.out k hlt)])
   generalize l[k]=r at *;obtain⟨av,kv,sx⟩:=r;simp only at c0 c1 c2 hrs HNX
   rw[hE];generalize (x.puts L k).2=y at *;have hlt':(k:Int)<l.length:=by omega
   have hk0:(0:Int)≤k:=by omega
   clear hE hown hrk;go_upto_region 10 with fail
   clear lk;have hS1:∀W,Below wr.heap.size wr W→Blk W w.heap.size 34 svk∧W.cell? ⟨b,off+k*3,none⟩=some (.int .i64 av)∧W.cell? ⟨b,off+k*3+1,none⟩=some (.int .i64 kv)∧W.cell? ⟨b,off+k*3+2,none⟩=some (.string sx):=fun W hb=>
    ⟨bDk.belowAll hb,(hb.cell (p:=⟨b,off+k*3,none⟩) hbl).trans c0,(hb.cell (p:=⟨b,off+k*3+1,none⟩) hbl).trans c1,(hb.cell (p:=⟨b,off+k*3+2,none⟩) hbl).trans c2⟩
   have hput:=zdE (hqk.below (zho wr.heap.size wr).drew) (fun b hb=>HN.out b (zhS hzr hb)) av kv q1 hnx sx hrs
   rw[←HNX.out]at hput;obtain⟨p,hp⟩:∃p,x.puts L (k+1)=p:=⟨_,rfl⟩;rw[hp]at hput;have HP:=zhs hp;clear hp HNX c0 c1 c2;refine z13 (Us.takes [0,1,2,3,4,5,6,7,8,9,10,11,12,13,14,15,16,17] (.one 18 (Us.pures [19,20,21] (.late 22 (.late 23 .done))))) 22 (fun W=>Blk W w.heap.size 34 svk∧W.cell? ⟨b,off+k*3,none⟩=some (.int .i64 av)∧W.cell? ⟨b,off+k*3+1,none⟩=some (.int .i64 kv)∧W.cell? ⟨b,off+k*3+2,none⟩=some (.string sx)) (by kernel_rfl) (by kernel_rfl) (fun _ _ _ _ _ h=>h) (hS1 _ (zho _ _).drew) ?_
   simp only[Us.takes,Us.pures,Us.fill,zhy,zhz];refine z0K (by rfl) (.agg svk) (fun w' hw'=>z0w 34 _ rfl rfl (z0z hw'.1 hszk)) ?_
   (try simp only[Act.put,zht,zhu,zhv])
   iterate 17 (refine z0K (by rfl) ?_ (fun w' hw'=>?_) ?_;rotate_left;(focus (go_simp;(try with_reducible rfl)));(try simp only[Act.put,zht,zhu,zhv]))
   refine z1b fun K hK=>?_
   go_simp;refine hput.mono ?_;rintro e w5 ⟨sv5,rfl,hq5,hb5⟩;have hb5':Below wr.heap.size wr w5:=(zho _ _).drew.trans hb5;refine hK _ _ (hS1 _ hb5') ?_;clear hK K hput;iterate 3 (refine z1s (by rfl) ?_ (fun w' hw'=>?_) ?_;rotate_left;(focus (go_simp;(try with_reducible rfl)));(try simp only[Act.put,zht,zhu,zhv]))
   have B5:=Below.setRow (hB.trans (hb5'.mono hB.size)) (zhT _) sv5;have bD5:=bDk.belowAll hb5';have hst:=z0l bD5 hszk hq5.size hq5.one;have bD6:=bD5.setRow (cs':=sv5);have bR6:=(bRk.belowAll hb5').rowFar (cs':=sv5) (show w.heap.size+1+1≠w.heap.size by omega)
   have hQ6:=hq5.row (Apt_.ne (zhT _) (by have:=zR.out;omega)) sv5
   have hz6:w0.heap.size≤(w5.setRow w.heap.size sv5).heap.size:=by have h1:=hb5'.size;simp;omega
   have ho5:=z0a HO.out hb5';have ho6:(w5.setRow w.heap.size sv5).ownsRow w0.heap.size 118 3 (.slice (some ⟨b,off,none⟩) l.length c) l.length (l.flatMap recV):=z0c ho5 fun g hg=>z0b _ _ _ _ (by have:=(ho5.lt g hg).1;have:=zR.out;omega)
   refine z0H fun K hK=>?_
   refine z0h _ _ _ rfl _ _ rfl rfl hst ?_;refine hK _ _ ?_;clear hK K hst ho5;(try simp only[Act.put,zht,zhu,zhv])
   generalize w5.setRow w.heap.size sv5=W6 at *;refine z0H fun K hK=>?_
   go_simp;refine hK _ _ ?_;clear hK K;refine z1G ?_;clear hS1 bDk bRk hq5 hqk;go_wp2_with fail
   go_roundw
   case rel=>exact⟨k+1,sv5,by omega,by go_num,by rw[HP.out],by rw[HP.out];exact hQ6,bD6,bR6,B5,hz6,ho6⟩
   case measure=>simp[intOf];omega
  ·as_aux_lemma=>
   obtain rfl:k=l.length:=by omega
   have HLE:Hid (x.applies q l=(x.puts L l.length).2.flush):=zhs (by rw[HAP.out,z2w hE])
   rw[hE];clear hE hown;generalize (x.puts L l.length).2=y at *;have hfl:=z7B hqk (fun b hb=>HN.out b (zhS hzr hb))
   obtain⟨p,hp⟩:∃p,y.flush=p:=⟨_,rfl⟩;rw[hp]at hfl HLE;clear hp;go_wp2_with (refine z02 (by rfl) _ _ rfl (.agg svk) (.pointer (some ⟨w.heap.size,0,none⟩)) rfl lk ?_)
   refine hfl.mono ?_;rintro e w5 ⟨sv5,rfl,hq5,hb5⟩;have hsz5:=hq5.size;have hone5:=hq5.one;have B5:=Below.setRow (hB.trans (hb5.mono hB.size)) (zhT _) sv5;have bD5:=bDk.belowAll hb5;have hst:=z0l bD5 hszk hsz5 hone5;have bD6:=bD5.setRow (cs':=sv5);have bR6:=(bRk.belowAll hb5).rowFar (cs':=sv5) (show w.heap.size+1+1≠w.heap.size by omega)
   have hQ6:=hq5.row (Apt_.ne (zhT _) (by have:=zR.out;omega)) sv5
   clear hfl lk bDk bRk hb5 hq5 bD5 hqk;go_upto_region 13 with (refine z01 rfl _ _ _ rfl _ _ rfl rfl hst ?_)
   generalize w5.setRow w.heap.size sv5=W6 at *;clear hst;have l6:=z0z bD6 hsz5;have hst:=z0l bR6 rfl hsz5 hone5;have bR7:=bR6.setRow (cs':=sv5);by_cases hE:p.1=0
   rotate_left
   ·have HH:Hid (x.apply F Z=(0,p.1,p.2)):=zhs (by rw[HA1.out,HLE.out,if_pos hE])
    generalize p.1=E at *;generalize p.2=zz at *;have hE':(E != 0)=true:=by simpa using hE
    have hfin:=RAv.mk (R:=w.heap.size+1+1) 0 E hQ6 B5 (by omega) zR.out
    clear hE;go_wp2_with (first|(refine z02 (by rfl) _ _ rfl (.agg sv5) (.pointer (some ⟨w.heap.size,0,none⟩)) rfl l6 ?_)|(refine z01 rfl _ _ _ rfl _ _ rfl rfl hst ?_))
    refine bodyPost_ret (z0C (cs:=sv5) rfl rfl rfl rfl bR7 underlying34 (by rw[hsz5];kernel_rfl)) rfl ?_
    rw[HH.out];exact hfin
   ·have HH:Hid (x.apply F Z=((l.length:Int),0,p.2)):=zhs (by rw[HA1.out,HLE.out,if_neg (by rw[hE];simp),←hE])
    rw[hE];clear hE;generalize p.2=zz at *;have hfin:=RAv.mk (R:=w.heap.size+1+1) l.length 0 hQ6 B5 (by omega) zR.out
    go_wp2_with (first|(refine z02 (by rfl) _ _ rfl (.agg sv5) (.pointer (some ⟨w.heap.size,0,none⟩)) rfl l6 ?_)|(refine z01 rfl _ _ _ rfl _ _ rfl rfl hst ?_))
    refine bodyPost_ret (z0C (cs:=sv5) rfl rfl rfl rfl bR7 underlying34 (by rw[hsz5];kernel_rfl)) rfl ?_
    rw[HH.out];exact hfin
theorem z8U {p:Int × DevS}(h:(DevS.done p).1=0):(DevS.done p).2.cache=[]:=by
 unfold DevS.done at h ⊢;by_cases h1:p.1=0
 ·rw[if_neg (by rw[h1];simp)]at h ⊢
  unfold DevS.flush at h ⊢;simp only at h ⊢
  cases ho:p.2.off
  ·rw[if_neg (by simp)];rfl
  ·rw[ho]at h;exact absurd (show (13:Int)=0 from h) (by decide)
 ·rw[if_pos h1]at h;exact absurd h h1
theorem zeS {x:DevS}{F Z:Int}{l:List Rec}(h:(x.log F Z l).1=0):(x.log F Z l).2.cache=[]:=by
 unfold DevS.log at h ⊢;split
 ·rename_i h1;rw[if_pos h1]at h;exact absurd h h1
 ·rename_i h1
  rw[if_neg h1]at h;split
  ·rename_i h2;rw[if_pos h2]at h;exact absurd h h2
  ·rename_i h2
   rw[if_neg h2]at h;split
   ·rename_i h3;rw[if_pos h3]at h;exact absurd h h3
   ·rename_i h3;rw[if_neg h3]at h;exact z8U h
theorem z7m {x:DevS}{F Z:Int}(h:(x.apply F Z).2.1=0):(x.apply F Z).2.2.cache=[]:=by
 unfold DevS.apply at h ⊢;split
 ·rename_i h1;rw[if_pos h1]at h;exact absurd h h1
 ·rename_i h1
  rw[if_neg h1]at h;split
  ·rename_i h2;rw[if_pos h2]at h;exact absurd (show (9:Int)=0 from h) (by decide)
  ·rename_i h2
   rw[if_neg h2]at h;split
   ·rename_i h3;rw[if_pos h3]at h;exact absurd h h3
   ·rename_i h3;rw[if_neg h3]at h;exact z8U h
theorem z5x {w:World}{P:Nat→Prop}{x:DevS}{sv:Array Value}(hq:RSv w P x sv)(hs:x.Calm)(hP:∀b,w.heap.size≤b→P b)(F Z:Int)(A:Option Addr)(c:Nat)(l:List Rec)(hlc:l.length≤c)(hok:z37 l)(hr:RunAt w A l):
  Calls prog 47 #[.agg sv,.agg #[.int .i64 F,.int .i64 Z],.slice A l.length c] w (RGv w P (x.commit F Z l)):=by
 obtain⟨w0,hw0⟩:∃w0,w0=((w.alloc (.cells sv 34)).alloc (.cells #[.int .i64 F,.int .i64 Z] 109)).alloc (.cells svZ 34):=⟨_,rfl⟩;have bD:Blk w0 w.heap.size 34 sv:=by rw[hw0];exact((Blk.new _ _ _).alloc _).alloc _
 have bJ:Blk w0 (w.heap.size+1) 109 #[.int .i64 F,.int .i64 Z]:=by rw[hw0];exact(Blk.new' (by simp)).alloc _
 have bR:Blk w0 (w.heap.size+1+1) 34 svZ:=by rw[hw0];exact Blk.new' (by simp)
 have B0:Below w.heap.size w w0:=by rw[hw0];(repeat' (first|with_reducible (first|exact zho _ _|assumption|refine zhp ?_ ?_ _|refine zhq ?_|refine z00 ?_ _|refine zhr ?_ ?_ _|exact zhT _)|omega|(simp;done)|(simp;omega)))
 have hQ0:=hq.apt B0 w0.heap.size;have HN:=zhs (Apt_.new hP B0.size);have hsz:=hq.size;have zR:=zhs bR.lt;have hlg:=zhd hQ0 hs HN.out F Z A c l hlc hok (Reads.below hr B0);have HC:Hid (x.commit F Z l=if (x.log F Z l).1≠0 then x.log F Z l else
  if ((x.log F Z l).2.apply F Z).2.1≠0 then ((x.log F Z l).2.apply F Z).2 else ((x.log F Z l).2.apply F Z).2.2.clear F Z):=zhs rfl
 have hcm:=@zeS x F Z l;obtain⟨p,hp⟩:∃p,x.log F Z l=p:=⟨_,rfl⟩;rw[hp]at hlg HC hcm;clear hp hq hQ0 hP hr;unfold svZ at hw0;go_enter func47,ntmps47
 go_upto_region 1 with fail
 rw[←hw0];clear hw0;have cJ:=bJ.cells;have lJ:=bJ.lt;have l0:=z0z bD hsz;go_wp2_with (refine z02 (by rfl) _ _ rfl (.agg sv) (.pointer (some ⟨w.heap.size,0,none⟩)) rfl l0 ?_)
 refine hlg.mono ?_;rintro e w1 ⟨sv1,rfl,hq1,hb1⟩;have hsz1:=hq1.size;have hone1:=hq1.one;have hst:=z0l (bD.belowAll hb1) hsz hsz1 hone1;have bD2:=(bD.belowAll hb1).setRow (cs':=sv1);have bJ2:=(bJ.belowAll hb1).rowFar (cs':=sv1) (show w.heap.size+1≠w.heap.size by omega)
 have bR2:=(bR.belowAll hb1).rowFar (cs':=sv1) (show w.heap.size+1+1≠w.heap.size by omega)
 have hQ2:=hq1.row (Apt_.ne (zhT _) (by have:=zR.out;omega)) sv1
 have B2:=Below.setRow (B0.trans (hb1.mono B0.size)) (zhT _) sv1;have hz2:w0.heap.size≤(w1.setRow w.heap.size sv1).heap.size:=by have:=hb1.size;simp;omega
 have HZ2:=zhs hz2;clear hlg l0 bD bJ bR B0 hb1 hq1 cJ lJ hz2;go_upto_region 2 with (refine z01 rfl _ _ _ rfl _ _ rfl rfl hst ?_)
 generalize w1.setRow w.heap.size sv1=W2 at *;clear hst;have l2:=z0z bD2 hsz1;by_cases hE:p.1=0
 rotate_left
 ·have HH:Hid (x.commit F Z l=(p.1,p.2)):=zhs (by rw[HC.out,if_pos hE])
  clear HC hcm;generalize p.1=E at *;generalize p.2=zz at *;have hE':(E != 0)=true:=by simpa using hE
  have hst:=z0l bR2 rfl hsz1 hone1;have bR3:=bR2.setRow (cs':=sv1);have hfin:=RGv.mk (R:=w.heap.size+1+1) E hQ2 B2 (by omega) zR.out
  clear hE;go_wp2_with (first|(refine z02 (by rfl) _ _ rfl (.agg sv1) (.pointer (some ⟨w.heap.size,0,none⟩)) rfl l2 ?_)|(refine z01 rfl _ _ _ rfl _ _ rfl rfl hst ?_))
  refine bodyPost_ret (z08 (cs:=sv1) rfl rfl rfl bR3 underlying34 (by rw[hsz1];kernel_rfl)) rfl ?_
  rw[HH.out];exact hfin
 have hcalm:=hcm hE;have HC1:Hid (x.commit F Z l=if (p.2.apply F Z).2.1≠0 then (p.2.apply F Z).2 else (p.2.apply F Z).2.2.clear F Z):=zhs (by rw[HC.out,if_neg (by rw[hE];simp)])
 rw[hE];clear hE HC hcm;generalize p.2=y at *;have hap:=zcz hQ2 (.inl hcalm) (fun b hb=>HN.out b (zhS HZ2.out hb)) F Z
 have hcm:=@z7m y F Z;obtain⟨r,hr⟩:∃r,y.apply F Z=r:=⟨_,rfl⟩;rw[hr]at hap HC1 hcm;have cJ:=bJ2.cells;have lJ:=bJ2.lt;clear hr hcalm;go_wp2_with (refine z02 (by rfl) _ _ rfl (.agg sv1) (.pointer (some ⟨w.heap.size,0,none⟩)) rfl l2 ?_)
 refine hap.mono ?_;rintro e w3 ⟨sv3,rfl,hq3,hb3⟩;have hsz3:=hq3.size;have hone3:=hq3.one;have hst:=z0l (bD2.belowAll hb3) hsz1 hsz3 hone3;have bD4:=(bD2.belowAll hb3).setRow (cs':=sv3);have bJ4:=(bJ2.belowAll hb3).rowFar (cs':=sv3) (show w.heap.size+1≠w.heap.size by omega)
 have bR4:=(bR2.belowAll hb3).rowFar (cs':=sv3) (show w.heap.size+1+1≠w.heap.size by omega)
 have hQ4:=hq3.row (Apt_.ne (zhT _) (by have:=zR.out;omega)) sv3
 have B4:=Below.setRow (B2.trans (hb3.mono B2.size)) (zhT _) sv3;have HZ4:Hid (w0.heap.size≤(w3.setRow w.heap.size sv3).heap.size):=zhs (by have h1:=hb3.size;have h2:=HZ2.out;simp;omega)
 clear hap l2 bD2 bJ2 bR2 B2 hb3 hq3 hQ2 cJ lJ;go_upto_region 5 with (refine z01 rfl _ _ _ rfl _ _ rfl rfl hst ?_)
 generalize w3.setRow w.heap.size sv3=W4 at *;clear hst;have l4:=z0z bD4 hsz3;by_cases hE:r.2.1=0
 rotate_left
 ·have HH:Hid (x.commit F Z l=(r.2.1,r.2.2)):=zhs (by rw[HC1.out,if_pos hE])
  clear HC1 hcm;generalize r.2.1=E at *;generalize r.2.2=zz at *;have hE':(E != 0)=true:=by simpa using hE
  have hst:=z0l bR4 rfl hsz3 hone3;have bR5:=bR4.setRow (cs':=sv3);have hfin:=RGv.mk (R:=w.heap.size+1+1) E hQ4 B4 (by omega) zR.out
  clear hE;go_wp2_with (first|(refine z02 (by rfl) _ _ rfl (.agg sv3) (.pointer (some ⟨w.heap.size,0,none⟩)) rfl l4 ?_)|(refine z01 rfl _ _ _ rfl _ _ rfl rfl hst ?_))
  refine bodyPost_ret (z08 (cs:=sv3) rfl rfl rfl bR5 underlying34 (by rw[hsz3];kernel_rfl)) rfl ?_
  rw[HH.out];exact hfin
 have hcalm:=hcm hE;have HC2:Hid (x.commit F Z l=r.2.2.clear F Z):=zhs (by rw[HC1.out,if_neg (by rw[hE];simp)])
 rw[hE];clear hE HC1 hcm;generalize r.2.2=z at *;have hcl:=z9E hQ4 (.inl hcalm) (fun b hb=>HN.out b (zhS HZ4.out hb)) F Z
 have cJ:=bJ4.cells;have lJ:=bJ4.lt;clear hcalm;go_wp2_with (refine z02 (by rfl) _ _ rfl (.agg sv3) (.pointer (some ⟨w.heap.size,0,none⟩)) rfl l4 ?_)
 refine hcl.mono ?_;rintro e w5 ⟨sv5,rfl,hq5,hb5⟩;have hsz5:=hq5.size;have hst:=z0l (bR4.belowAll hb5) rfl hsz5 hq5.one;have bR6:=(bR4.belowAll hb5).setRow (cs':=sv5);have hfin:=RGv.mk (R:=w.heap.size+1+1) (z.clear F Z).1 hq5 (B4.trans (hb5.mono B4.size)) (by omega) zR.out
 clear hcl l4 bD4 bJ4 bR4 hb5 cJ lJ;go_wp2_with (refine z01 rfl _ _ _ rfl _ _ rfl rfl hst ?_)
 refine bodyPost_ret (z08 (cs:=sv5) rfl rfl rfl bR6 underlying34 (by rw[hsz5];kernel_rfl)) rfl ?_
 rw[HC2.out];exact hfin
end Go.Proofs.YtejmknghkbobnaaGreatDoor
