import Derived.Test.YtejmknghkbobnaaGreatDoorPart00
import Derived.Test.YtejmknghkbobnaaGreatDoorPart13
import Derived.Maps.AppendAt
set_option linter.unusedVariables false
set_option linter.unusedSimpArgs false
set_option maxRecDepth 100000
set_option maxHeartbeats 8000000
namespace Go.Proofs.YtejmknghkbobnaaGreatDoor
open Go.Proofs.Tryz
open Go.RowKit Go.Maps
theorem z54 (D:Nat)(F Z:Int)(hFZ:0≤F∧F≤256∧0≤Z∧Z≤256)(B:List Nat)(x:DevS)(f:Fr)(w:World)(h:DevAt w D B x):
  Calls prog 200 #[.pointer (some ⟨D,0,none⟩),.agg #[.int .i64 F,.int .i64 Z],.agg #[.int .i64 f.kind,.int .u32 f.seq,.string f.data]] w fun e w'=>e=.returned (.tuple #[.agg (recC (z0i f)),.bool (z1F x.stable.length F Z f)])∧Below w.heap.size w w':=by
 by_cases hb:f.kind≠2∨f.data.size<3∨99<f.data.size
 ·have h1:z0i f=z9r:=by unfold z0i;rw[if_pos hb]
  have h2:z1F x.stable.length F Z f=false:=by unfold z1F;rw[if_pos hb]
  rw[h1,h2];exact zbG D F Z B x f w hb
 ·exact z9u D F Z hFZ B x f w h (by omega) (by omega) (by omega)
theorem zb0 {n F Z:Int}{f:Fr}(h:z1F n F Z f=true):(-9223372036854775808≤(z0i f).at_∧(z0i f).at_≤9223372036854775807)∧(z0i f).data.size≤maxLen:=by
 unfold z1F at h;by_cases hb:f.kind≠2∨f.data.size<3∨99<f.data.size
 ·rw[if_pos hb]at h;cases h
 ·unfold z0i;rw[if_neg hb];refine⟨⟨(bits_within .or .i64 _ _).1,(bits_within .or .i64 _ _).2⟩,?_⟩
  show (f.data.extract 3 f.data.size).size≤_
  rw[ByteArray.size_extract];unfold maxLen;omega
theorem zdp (s t:ByteArray):(s.toList==t.toList)=decide (s=t):=by
 rw[Bool.eq_iff_iff,beq_iff_eq,decide_eq_true_iff,ByteArray.toList_eq,ByteArray.toList_eq];constructor
 ·intro h;apply ByteArray.ext;exact Array.toList_inj.1 h
 ·rintro rfl;rfl
def z26 (n F Z q:Int)(E:Int)(f:Fr)(R:List Rec):Bool:=!(E==0&&f.seq==next q)||!z1F n F Z f||decide ((z0i f).at_∈R.map (·.at_))||decide ((R.length:Int)=z0Z Z)
def z1K (q:Int)(E:Int)(f:Fr)(R:List Rec):Bool:=(E==0&&f.seq==next q)&&f.kind==3&&decide (f.data=z0k R.length)
theorem z6M {x:DevS}{F Z q:Int}{k:Nat}(h:(x.lookTo F Z q k).stop=false):x.lookTo F Z q (k+1)=if z1c (x.ge (F+(k+1)))then ⟨true,x.ge (F+(k+1)),[],false⟩else if z26 x.stable.length F Z q (x.ge (F+(k+1))) (x.fr (F+(k+1))) (x.lookTo F Z q k).run then ⟨true,0,(x.lookTo F Z q k).run,z1K q (x.ge (F+(k+1))) (x.fr (F+(k+1))) (x.lookTo F Z q k).run⟩else ⟨false,0,(x.lookTo F Z q k).run++[z0i (x.fr (F+(k+1)))],false⟩:=by
 rw[show F+((k:Int)+1)=F+1+k by omega]
 show (if (x.lookTo F Z q k).stop=true then _ else _)=_
 rw[if_neg (by rw[h];simp)]
 rfl
theorem z4i {x:DevS}{F Z q:Int}{k m:Nat}(h:(x.lookTo F Z q k).stop=true)(hm:k≤m):x.lookTo F Z q m=x.lookTo F Z q k:=by
 induction m with
 | zero=>
  have e:k=0:=by omega
  rw[e]
 | succ m ih=>
  by_cases e:k=m+1
  ·rw[e]
  ·have ih:=ih (by omega)
   show (if (x.lookTo F Z q m).stop=true then x.lookTo F Z q m else _)=_
   rw[ih,if_pos h]
def zau (r:Int × Int × List Rec × Bool)(w:World)(e:Ending)(w':World):Prop:=
 Below w.heap.size w w'∧∃A c,e=.returned (.tuple #[.agg #[.int .u32 r.2.1,.slice A r.2.2.1.length c,.bool r.2.2.2],.int .i64 r.1])∧RunAt w' A r.2.2.1∧∀ad,A=some ad→w.heap.size≤ad.block
theorem z6G {P:Program}{ops:Array Oper}{rest:List Oper}{o:Oper}{a:Act}{w w':World}{Q:Exit→Act→World→Prop}(hgd:o.guard=none)(s x:Operand)(t:TypeId)(ho:o.op=.call { callee:=.builtin .append,args:=#[s,x],argTypes:=#[t,t] })(p q v:Value)(hs:a.eval s=p)(hx:a.eval x=q)
  (hrun:(Builtin.append_ #[t,t] o.type #[p,q]).run P w=.ok v w') (h:wpList P ops Q rest (a.put o.dst v) w'):wpList P ops Q (o::rest) a w:=by
 refine wpList_plain hgd fun _ hK=>?_
 unfold Oper.wp execOp;simp only[ho,resolve,invoke,builtin,Sem.run_bind,Sem.run_pure,Result.andThen_ok,List.map_toArray,zhY,zhZ,hs,hx,hrun];exact hK _ _ h
theorem Tryz.infoRec:(prog.info? 118).map (fun i=>(i.zero,i.size,i.bytes))=some (some (.agg #[.int .i64 0,.int .i64 0,.string ⟨#[]⟩]),3,32):=by kernel_rfl
theorem z6z {w:World}{base:Nat}{e:TypeId}{size n:Nat}{v:Value}{xs:List Value}(h:w.ownsRow base e size v n xs):∃A c,v=.slice A n c∧Reads w A xs∧∀ad,A=some ad→base≤ad.block:=by
 have hx:=h.1;rcases h.2 with ⟨rfl,h0⟩|⟨g,cap,cur,rfl,hg,hh,-⟩
 ·subst h0;exact⟨none,0,rfl,.inl (List.eq_nil_of_length_eq_zero (by simpa using hx)),fun _ e=>by cases e⟩
 ·exact⟨some ⟨g,0,none⟩,cap,rfl,.inr ⟨g,0,rfl,(zhW.1 hh).1,fun j u hu=>by rw[zi8];exact z2n h hu⟩,fun _ e=>by cases e;exact hg⟩
theorem zat (D:Nat)(F Z:Int)(B:List Nat)(x:DevS)(w:World)(h:DevAt w D B x):
  Calls prog 137 #[.pointer (some ⟨D,0,none⟩),.agg #[.int .i64 F,.int .i64 Z]] w (zau (x.look F Z) w):=by
 obtain⟨wA,hA⟩:∃wA,wA=(w.alloc (.cells #[.int .i64 F,.int .i64 Z] 109)).alloc (.cells #[.int .u32 0,.slice none 0 0,.bool false] 216):=⟨_,rfl⟩;have bJ:Blk wA w.heap.size 109 #[.int .i64 F,.int .i64 Z]:=by rw[hA];exact(by (repeat' (first|(with_reducible assumption)|exact Blk.new' (by simp)|refine Blk.alloc ?_ _)))
 have bX:Blk wA (w.heap.size+1) 216 #[.int .u32 0,.slice none 0 0,.bool false]:=by rw[hA];exact(by (repeat' (first|(with_reducible assumption)|exact Blk.new' (by simp)|refine Blk.alloc ?_ _)))
 have BA:Below w.heap.size w wA:=by rw[hA];(repeat' (first|with_reducible (first|exact zho _ _|assumption|refine zhp ?_ ?_ _|refine zhq ?_|refine z00 ?_ _|refine zhr ?_ ?_ _|exact zhT _)|omega|(simp;done)|(simp;omega)))
 have hhead:=z85 D F Z B x wA (h.below BA);have cJ:=bJ.cells;have lJ:=bJ.lt;have lX:=bX.lt;unfold zau;go_enter func137,ntmps137
 go_wp2_with fail
 rw[←hA];clear hA;go_wp2_with fail
 refine hhead.mono ?_;rintro e w1 ⟨rfl,hb1⟩;have bJ1:=bJ.belowAll hb1;have bX1:=bX.belowAll hb1;have B1:=BA.trans (hb1.mono BA.size);clear hhead hb1 cJ lJ lX bJ bX BA;by_cases hE:(x.head F Z).1=0
 rotate_left
 ·have HL:Hid (x.look F Z=((x.head F Z).1,0,[],false)):=zhs (by unfold DevS.look;rw[if_pos hE])
  generalize (x.head F Z).1=E at *;generalize (x.head F Z).2=q at *;have hE':(E != 0)=true:=by simpa using hE
  have cX1:=bX1.cells;have fX1:=bX1.free;have lX1:=bX1.lt;clear hE;go_wp2_with fail
  have bX4:=(((bX1.set_ 0 (.int .u32 q)).set_ 0 (.int .u32 0)).set_ 1 (.slice none 0 0)).set_ 2 (.bool false);have cX4:=bX4.cells;clear cX1 fX1 lX1;refine bodyPost_ret (v:=.tuple #[.agg #[.int .u32 0,.slice none 0 0,.bool false],.int .i64 E]) (by simp[results,results137,go_sem,cX4]) rfl ?_
  refine⟨(((B1.setCell (p:=⟨w.heap.size+1,0,none⟩) (by simp) _).setCell (p:=⟨w.heap.size+1,0,none⟩) (by simp) _).setCell (p:=⟨w.heap.size+1,1,none⟩) (by simp) _).setCell (p:=⟨w.heap.size+1,2,none⟩) (by simp) _,none,0,by rw[HL.out];rfl,by rw[HL.out];exact .inl rfl,fun _ e=>by cases e⟩
 have hFZ:=z2s hE;have hq:=z3E x F Z;have HL:Hid (x.look F Z=if (x.lookTo F Z (x.head F Z).2 (Z - 1).toNat).e≠0 then ((x.lookTo F Z (x.head F Z).2 (Z - 1).toNat).e,0,[],false)else (0,(x.head F Z).2,(x.lookTo F Z (x.head F Z).2 (Z - 1).toNat).run,(x.lookTo F Z (x.head F Z).2 (Z - 1).toNat).whole)):=zhs (by unfold DevS.look;rw[if_neg (by rw[hE];simp)])
 rw[hE];clear hE;generalize (x.head F Z).2=q at *;obtain⟨z,rfl⟩:=Int.eq_ofNat_of_zero_le (show 0≤Z by omega)
 rw[show ((z:Int) - 1).toNat=z - 1 by omega]at HL
 have cX1:=bX1.cells;have fX1:=bX1.free;have lX1:=bX1.lt;have hmm:=@run_makeMap prog;go_wp2_with fail
 obtain⟨M,hM⟩:∃M,M=w1.heap.size:=⟨_,rfl⟩;obtain⟨w2,hw2⟩:∃w2,w2=(w1.setCell ⟨w.heap.size+1,0,none⟩ (.int .u32 q)).alloc (.map #[] 0):=⟨_,rfl⟩;have bJ2:Blk w2 w.heap.size 109 #[.int .i64 F,.int .i64 z]:=by rw[hw2];exact(bJ1.far (by simp) _).alloc _
 have bX2:Blk w2 (w.heap.size+1) 216 #[.int .u32 q,.slice none 0 0,.bool false]:=by rw[hw2];exact(bX1.set_ 0 _).alloc _
 have hp0:PlacesAt w2 M 0 (([]:List Rec).map (·.at_)):=by
  rw[hw2,hM,show w1.heap.size=(w1.setCell ⟨w.heap.size+1,0,none⟩ (.int .u32 q)).heap.size by simp]
  exact World.ownsMap_made _ _ _ _
 have B2:Below w.heap.size w w2:=by rw[hw2];exact(B1.setCell (by simp) _).alloc (by have:=B1.size;simp;omega) _
 have hMl:w.heap.size+1<M:=by rw[hM];exact lX1
 rw[←hM,←hw2];clear hw2 hM hmm cX1 fX1 lX1 bJ1 bX1 B1;go_loopw [7,8,9,10,11,12] (fun i _ _ _ _ _ wr=>∃k:Nat,k+1≤z∧i=.int .i64 ((k:Int)+1)∧(x.lookTo F z q k).stop=false∧(x.lookTo F z q k).e=0∧(x.lookTo F z q k).whole=false∧(x.lookTo F z q k).run.length≤k∧∃v,Blk wr (w.heap.size+1) 216 #[.int .u32 q,v,.bool false]∧wr.ownsRow (M+1) 118 3 v (x.lookTo F z q k).run.length ((x.lookTo F z q k).run.flatMap recV)∧PlacesAt wr M (x.lookTo F z q k).run.length ((x.lookTo F z q k).run.map (·.at_))∧Blk wr w.heap.size 109 #[.int .i64 F,.int .i64 z]∧Below w.heap.size w wr∧M<wr.heap.size) (fun i _ _ _ _ _ _=>z - (intOf i).toNat)
 case atStart=>exact⟨0,by omega,rfl,rfl,rfl,rfl,zhT _,.slice none 0 0,bX2,World.ownsRow_nil _ _ _ _,hp0,bJ2,B2,hp0.lt⟩
 case round=>
  obtain⟨k,hk,rfl,hst,he0,hwh,hRl,v,bX,hown,hp,bJ,hB,hMlt⟩:=hrel;generalize hlk:x.lookTo F z q k=lk at *;obtain⟨st,le,R,wh⟩:=lk;simp only at hst he0 hwh hRl hown hp
  subst hst he0 hwh;have cX:=bX.cells;have fX:=bX.free;have lX:=bX.lt;have cJ:=bJ.cells;have lJ:=bJ.lt;by_cases hlt:k+1<z
  ·have hM3:=hMlt;have hget:=z4h D B x (F+((k:Int)+1)) wr (h.below hB);have hls:=z6M (x:=x) (F:=F) (Z:=z) (q:=q) (k:=k) (by rw[hlk])
   rw[hlk]at hls;have HFI:Hid ((x.lookTo F z q (k+1)).stop=true→x.lookTo F z q (z - 1)=x.lookTo F z q (k+1)):=zhs (fun hs=>z4i hs (by omega))
   have HLS:=zhs hls;clear hls hlk;have hFZ':0≤F∧F≤256∧0≤(z:Int)∧(z:Int)≤256:=by omega
   have hlt':(k:Int)+1<z:=by omega
   go_wp2_with fail
   refine hget.mono ?_;rintro e w3 ⟨hb3,rfl⟩;generalize x.ge (F+((k:Int)+1))=E at *;generalize x.fr (F+((k:Int)+1))=f at *;have B3:=hB.trans (hb3.mono hB.size);have bX3:=bX.belowAll hb3;have bJ3:=bJ.belowAll hb3;have hown3:=z0a hown hb3;have hp3:PlacesAt w3 M R.length (R.map (·.at_)):=z0j hp (hb3.block M hM3);have hM3':M<w3.heap.size:=zhR hM3 hb3.size;clear hget hb3 bX bJ hown hp hB hM3 hMlt cX fX lX cJ lJ;have hbr:=z7f E (w3.alloc (.cells #[.int .i64 f.kind,.int .u32 f.seq,.string f.data] 190));have bF3:Blk (w3.alloc (.cells #[.int .i64 f.kind,.int .u32 f.seq,.string f.data] 190)) w3.heap.size 190 #[.int .i64 f.kind,.int .u32 f.seq,.string f.data]:=Blk.new _ _ _;go_wp2_with fail
   refine hbr.mono ?_;rintro e w4 ⟨rfl,hb4⟩;obtain⟨FB,hFB⟩:∃FB,FB=w3.heap.size:=⟨_,rfl⟩;have bF4:=bF3.belowAll hb4;have bX4:=(bX3.alloc _).belowAll hb4;have bJ4:=(bJ3.alloc _).belowAll hb4;have hown4:=z0a (z0a hown3 ((zho _ _).alloc (zhT _) _)) hb4;have hM4:M<w4.heap.size:=by have:=hb4.size;simp at this;omega
   have hp4:PlacesAt w4 M R.length (R.map (·.at_)):=z0j (hp3.alloc _) (hb4.block M (by simp;omega))
   have B4:Below w.heap.size w w4:=(B3.alloc B3.size _).trans (hb4.mono (by have:=B3.size;simp;omega))
   have hFX:w.heap.size+1<FB:=by rw[hFB];omega
   rw[←hFB]at bF4 ⊢;clear hFB hbr hb4 bX3 bJ3 hown3 hp3 bF3 B3 hM3';have hd4:=h.below B4;obtain⟨bk,hbk⟩:∃bk,z1c E=bk:=⟨_,rfl⟩;rw[hbk]at HLS ⊢;cases bk;rotate_left
   ·have HLE:Hid (x.look F z=(E,0,[],false)):=zhs (by
     have h1:x.lookTo F z q (k+1)=⟨true,E,[],false⟩:=by rw[HLS.out];rfl
     have h2:E≠0:=by intro e;subst e;revert hbk;decide
     rw[HL.out,HFI.out (by rw[h1]),h1]
     exact if_pos h2)
    have cX4:=bX4.cells;have fX4:=bX4.free;have lX4:=bX4.lt;clear HLS HFI HL hbk hown4 hp4 bF4 bJ4 hd4;go_wp2_with fail
    have bX5:=((bX4.set_ 0 (.int .u32 0)).set_ 1 (.slice none 0 0)).set_ 2 (.bool false);have cX5:=bX5.cells;clear cX4 fX4 lX4;refine bodyPost_ret (v:=.tuple #[.agg #[.int .u32 0,.slice none 0 0,.bool false],.int .i64 E]) (by simp[results,results137,go_sem,cX5]) rfl ?_
    refine⟨((B4.setCell (p:=⟨w.heap.size+1,0,none⟩) (by simp) _).setCell (p:=⟨w.heap.size+1,1,none⟩) (by simp) _).setCell (p:=⟨w.heap.size+1,2,none⟩) (by simp) _,none,0,by rw[HLE.out];rfl,by rw[HLE.out];exact .inl rfl,fun _ e=>by cases e⟩
   have hls:=HLS.out;rw[if_neg (by simp)]at hls
   have HLS:=zhs hls;clear hls hbk;have cX4:=bX4.cells;have lX4:=bX4.lt;have cF4:=bF4.cells;have lF4:=bF4.lt;have cJ4:=bJ4.cells;have lJ4:=bJ4.lt;by_cases e0:E=0
   rotate_left;focus
    have hmb:Hid ((E==0&&f.seq==next q)=false):=zhs (by simp[e0])
    have hx1:(E==0)=false:=by simpa using e0
    clear e0;go_wp2_with fail
    refine(z54 D F z hFZ' B x f w4 hd4).mono ?_;rintro e w5 ⟨rfl,hb5⟩;have B5:=B4.trans (hb5.mono B4.size);have bX5:=bX4.belowAll hb5;have bJ5:=bJ4.belowAll hb5;have bF5:=bF4.belowAll hb5;have hown5:=z0a hown4 hb5;have hp5:PlacesAt w5 M R.length (R.map (·.at_)):=z0j hp4 (hb5.block M hM4);have hM5:M<w5.heap.size:=zhR hM4 hb5.size;clear hb5 hd4 bX4 bJ4 bF4 hown4 hp4 B4 hM4;unfold recC;go_wp2_with fail
    obtain⟨RB,hRB⟩:∃RB,RB=w5.heap.size:=⟨_,rfl⟩;obtain⟨W,hW⟩:∃W,W=w5.alloc (.cells #[.int .i64 (z0i f).at_,.int .i64 (z0i f).kind,.string (z0i f).data] 118):=⟨_,rfl⟩;have bR:Blk W RB 118 #[.int .i64 (z0i f).at_,.int .i64 (z0i f).kind,.string (z0i f).data]:=by rw[hW,hRB];exact Blk.new _ _ _
    have BW:Below w.heap.size w W:=by rw[hW];exact B5.alloc B5.size _
    have bX:=(bX5.alloc (.cells #[.int .i64 (z0i f).at_,.int .i64 (z0i f).kind,.string (z0i f).data] 118));have bJ:=(bJ5.alloc (.cells #[.int .i64 (z0i f).at_,.int .i64 (z0i f).kind,.string (z0i f).data] 118));have bF:=(bF5.alloc (.cells #[.int .i64 (z0i f).at_,.int .i64 (z0i f).kind,.string (z0i f).data] 118));have hown:W.ownsRow (M+1) 118 3 v R.length (R.flatMap recV):=by rw[hW];exact z0a hown5 ((zho _ _).alloc (zhT _) _)
    have hp:PlacesAt W M R.length (R.map (·.at_)):=by rw[hW];exact hp5.alloc _
    have hMW:M<W.heap.size:=by rw[hW];simp;omega
    have hMR:M<RB:=by rw[hRB];exact hM5
    rw[←hW]at bX bJ bF;rw[←hW,←hRB];clear hW hRB B5 bX5 bJ5 bF5 hown5 hp5 hM5;have lX:=bX.lt;have lJ:=bJ.lt;have lF:=bF.lt;have lR:=bR.lt;have hS0:W.cell? ⟨RB,0,none⟩=some (.int .i64 (z0i f).at_)∧W.cell? ⟨w.heap.size+1,1,none⟩=some v∧W.cell? ⟨w.heap.size,0,none⟩=some (.int .i64 F)∧W.cell? ⟨w.heap.size,1,none⟩=some (.int .i64 z):=⟨by rw[bR.cells];rfl,by rw[bX.cells];rfl,by rw[bJ.cells];rfl,by rw[bJ.cells];rfl⟩
    clear cX4 lX4 cF4 lF4 cJ4 lJ4
   rotate_left;by_cases s0:f.seq=(q+1) % 4294967296
   rotate_left;focus
    have hmb:Hid ((E==0&&f.seq==next q)=false):=zhs (by unfold next;simp[s0])
    have hx1:(E==0)=true:=by simpa using e0
    have hx2:(f.seq==(q+1) % 4294967296)=false:=by simpa using s0
    clear e0 s0;go_wp2_with fail
    refine(z54 D F z hFZ' B x f w4 hd4).mono ?_;rintro e w5 ⟨rfl,hb5⟩;have B5:=B4.trans (hb5.mono B4.size);have bX5:=bX4.belowAll hb5;have bJ5:=bJ4.belowAll hb5;have bF5:=bF4.belowAll hb5;have hown5:=z0a hown4 hb5;have hp5:PlacesAt w5 M R.length (R.map (·.at_)):=z0j hp4 (hb5.block M hM4);have hM5:M<w5.heap.size:=zhR hM4 hb5.size;clear hb5 hd4 bX4 bJ4 bF4 hown4 hp4 B4 hM4;unfold recC;go_wp2_with fail
    obtain⟨RB,hRB⟩:∃RB,RB=w5.heap.size:=⟨_,rfl⟩;obtain⟨W,hW⟩:∃W,W=w5.alloc (.cells #[.int .i64 (z0i f).at_,.int .i64 (z0i f).kind,.string (z0i f).data] 118):=⟨_,rfl⟩;have bR:Blk W RB 118 #[.int .i64 (z0i f).at_,.int .i64 (z0i f).kind,.string (z0i f).data]:=by rw[hW,hRB];exact Blk.new _ _ _
    have BW:Below w.heap.size w W:=by rw[hW];exact B5.alloc B5.size _
    have bX:=(bX5.alloc (.cells #[.int .i64 (z0i f).at_,.int .i64 (z0i f).kind,.string (z0i f).data] 118));have bJ:=(bJ5.alloc (.cells #[.int .i64 (z0i f).at_,.int .i64 (z0i f).kind,.string (z0i f).data] 118));have bF:=(bF5.alloc (.cells #[.int .i64 (z0i f).at_,.int .i64 (z0i f).kind,.string (z0i f).data] 118));have hown:W.ownsRow (M+1) 118 3 v R.length (R.flatMap recV):=by rw[hW];exact z0a hown5 ((zho _ _).alloc (zhT _) _)
    have hp:PlacesAt W M R.length (R.map (·.at_)):=by rw[hW];exact hp5.alloc _
    have hMW:M<W.heap.size:=by rw[hW];simp;omega
    have hMR:M<RB:=by rw[hRB];exact hM5
    rw[←hW]at bX bJ bF;rw[←hW,←hRB];clear hW hRB B5 bX5 bJ5 bF5 hown5 hp5 hM5;have lX:=bX.lt;have lJ:=bJ.lt;have lF:=bF.lt;have lR:=bR.lt;have hS0:W.cell? ⟨RB,0,none⟩=some (.int .i64 (z0i f).at_)∧W.cell? ⟨w.heap.size+1,1,none⟩=some v∧W.cell? ⟨w.heap.size,0,none⟩=some (.int .i64 F)∧W.cell? ⟨w.heap.size,1,none⟩=some (.int .i64 z):=⟨by rw[bR.cells];rfl,by rw[bX.cells];rfl,by rw[bJ.cells];rfl,by rw[bJ.cells];rfl⟩
    clear cX4 lX4 cF4 lF4 cJ4 lJ4
   rotate_left;rotate_left;focus
    have hmb:Hid ((E==0&&f.seq==next q)=true):=zhs (by unfold next;simp[s0,e0])
    have hx1:(E==0)=true:=by simpa using e0
    have hx2:(f.seq==(q+1) % 4294967296)=true:=by simpa using s0
    clear e0 s0;go_wp2_with fail
    refine(z54 D F z hFZ' B x f w4 hd4).mono ?_;rintro e w5 ⟨rfl,hb5⟩;have B5:=B4.trans (hb5.mono B4.size);have bX5:=bX4.belowAll hb5;have bJ5:=bJ4.belowAll hb5;have bF5:=bF4.belowAll hb5;have hown5:=z0a hown4 hb5;have hp5:PlacesAt w5 M R.length (R.map (·.at_)):=z0j hp4 (hb5.block M hM4);have hM5:M<w5.heap.size:=zhR hM4 hb5.size;clear hb5 hd4 bX4 bJ4 bF4 hown4 hp4 B4 hM4;unfold recC;go_wp2_with fail
    obtain⟨RB,hRB⟩:∃RB,RB=w5.heap.size:=⟨_,rfl⟩;obtain⟨W,hW⟩:∃W,W=w5.alloc (.cells #[.int .i64 (z0i f).at_,.int .i64 (z0i f).kind,.string (z0i f).data] 118):=⟨_,rfl⟩;have bR:Blk W RB 118 #[.int .i64 (z0i f).at_,.int .i64 (z0i f).kind,.string (z0i f).data]:=by rw[hW,hRB];exact Blk.new _ _ _
    have BW:Below w.heap.size w W:=by rw[hW];exact B5.alloc B5.size _
    have bX:=(bX5.alloc (.cells #[.int .i64 (z0i f).at_,.int .i64 (z0i f).kind,.string (z0i f).data] 118));have bJ:=(bJ5.alloc (.cells #[.int .i64 (z0i f).at_,.int .i64 (z0i f).kind,.string (z0i f).data] 118));have bF:=(bF5.alloc (.cells #[.int .i64 (z0i f).at_,.int .i64 (z0i f).kind,.string (z0i f).data] 118));have hown:W.ownsRow (M+1) 118 3 v R.length (R.flatMap recV):=by rw[hW];exact z0a hown5 ((zho _ _).alloc (zhT _) _)
    have hp:PlacesAt W M R.length (R.map (·.at_)):=by rw[hW];exact hp5.alloc _
    have hMW:M<W.heap.size:=by rw[hW];simp;omega
    have hMR:M<RB:=by rw[hRB];exact hM5
    rw[←hW]at bX bJ bF;rw[←hW,←hRB];clear hW hRB B5 bX5 bJ5 bF5 hown5 hp5 hM5;have lX:=bX.lt;have lJ:=bJ.lt;have lF:=bF.lt;have lR:=bR.lt;have hS0:W.cell? ⟨RB,0,none⟩=some (.int .i64 (z0i f).at_)∧W.cell? ⟨w.heap.size+1,1,none⟩=some v∧W.cell? ⟨w.heap.size,0,none⟩=some (.int .i64 F)∧W.cell? ⟨w.heap.size,1,none⟩=some (.int .i64 z):=⟨by rw[bR.cells];rfl,by rw[bX.cells];rfl,by rw[bJ.cells];rfl,by rw[bJ.cells];rfl⟩
    clear cX4 lX4 cF4 lF4 cJ4 lJ4;obtain⟨A,c,rfl,hRd,hAb⟩:=z6z hown;have HSTOP:Hid (∀wb,z26 x.stable.length F z q E f R=true→z1K q E f R=wb→x.look F z=(0,q,R,wb)):=zhs (by
     intro wb h1 h2;have h3:x.lookTo F z q (k+1)=⟨true,0,R,wb⟩:=by rw[HLS.out,h1,h2];rfl
     rw[HL.out,HFI.out (by rw[h3]),h3]
     exact if_neg (by simp))
    have HGO:Hid (z26 x.stable.length F z q E f R=false→x.lookTo F z q (k+1)=⟨false,0,R++[z0i f],false⟩):=zhs (by
     intro h1;rw[HLS.out,h1];rfl)
    clear HLS HFI HL;obtain⟨ib,hib⟩:∃ib,z1F x.stable.length F z f=ib:=⟨_,rfl⟩;have hend:=show z26 x.stable.length F z q E f R=(!(E==0&&f.seq==next q)||!z1F x.stable.length F z f||decide ((z0i f).at_∈R.map (·.at_))||decide ((R.length:Int)=z0Z z))from rfl
    have hwho:=show z1K q E f R=((E==0&&f.seq==next q)&&f.kind==3&&decide (f.data=z0k R.length))from rfl
    rw[hmb.out,hib]at hend;rw[hmb.out]at hwho;have HEND:=zhs hend;have HWHO:=zhs hwho;have HIB:=zhs hib;clear hend hwho hmb;rw[hib];cases ib;focus
     clear hown hp hib HGO HIB;by_cases k3:f.kind=3
     ·have hk3:(f.kind==3)=true:=by simpa using k3
      obtain⟨db,hdb⟩:∃db,(f.data.toList==(z0k R.length).toList)=db:=⟨_,rfl⟩;have HLE:Hid (x.look F z=(0,q,R,db)):=zhs (HSTOP.out db (by rw[HEND.out];rfl) (by rw[HWHO.out,hk3,←zdp,hdb];rfl))
      clear HSTOP HEND HWHO k3;refine z06 [.take 0,.take 1,.take 2,.take 3,.take 4,.take 5,.take 6,.take 7,.take 8,.take 9,.take 10,.take 11,.take 12,.take 13,.take 14,.take 15,.take 16,.one 17,.take 18,.take 19] 20 (fun W'=>W'.cell? ⟨RB,0,none⟩=some (.int .i64 (z0i f).at_)∧W'.cell? ⟨w.heap.size+1,1,none⟩=some (.slice A R.length c)∧W'.cell? ⟨w.heap.size,0,none⟩=some (.int .i64 F)∧W'.cell? ⟨w.heap.size,1,none⟩=some (.int .i64 z)) (by kernel_rfl) (by kernel_rfl) (fun _ _ _ _ _ h=>h) hS0 ?_
      simp only[zhY,zhZ,Ms.fill,zhy,zhz];iterate 7 (refine z04 (by rfl) ?_ (fun w' hw'=>?_) ?_;rotate_left;(focus (go_simp;(try with_reducible rfl)));(try simp only[Act.put,zht,zhu,zhv]))
      iterate 4 ((first|(refine z0E (by rfl) ?_)|(refine z0F (by rfl) ?_));(try simp only[Act.put,zht,zhu,zhv]))
      iterate 2 (refine z04 (by rfl) ?_ (fun w' hw'=>?_) ?_;rotate_left;(focus (go_simp;(try with_reducible rfl)));(try simp only[Act.put,zht,zhu,zhv]))
      iterate 6 ((first|(refine z0E (by rfl) ?_)|(refine z0F (by rfl) ?_));(try simp only[Act.put,zht,zhu,zhv]))
      iterate 1 (refine z04 (by rfl) ?_ (fun w' hw'=>?_) ?_;rotate_left;(focus (go_simp;(try with_reducible rfl)));(try simp only[Act.put,zht,zhu,zhv]))
      refine z0f ?_;go_wp2_with fail
      have bX:=bX.drew;have bF:=bF.drew;have BW:=BW.drew;have hRd:=hRd.below (zho _ _).drew;generalize W.drew=V at *;have hS4:V.cell? ⟨FB,0,none⟩=some (.int .i64 f.kind)∧V.cell? ⟨FB,2,none⟩=some (.string f.data)∧V.cell? ⟨w.heap.size+1,1,none⟩=some (.slice A R.length c):=⟨by rw[bF.cells];rfl,by rw[bF.cells];rfl,by rw[bX.cells];rfl⟩
      have cXW:=bX.cells;have fXW:=bX.free;refine z06 [.take 0,.take 1,.take 2,.take 3,.take 4,.take 5,.take 6,.take 7,.take 8,.take 9,.take 10,.take 11,.one 12,.take 13,.take 14,.take 15,.one 16] 17 (fun W'=>W'.cell? ⟨FB,0,none⟩=some (.int .i64 f.kind)∧W'.cell? ⟨FB,2,none⟩=some (.string f.data)∧W'.cell? ⟨w.heap.size+1,1,none⟩=some (.slice A R.length c)) (by kernel_rfl) (by kernel_rfl) (fun _ _ _ _ _ h=>h) hS4 ?_
      simp only[zhY,zhZ,Ms.fill,zhy,zhz];iterate 12 (refine z04 (by rfl) ?_ (fun w' hw'=>?_) ?_;rotate_left;(focus (go_simp;(try with_reducible rfl)));(try simp only[Act.put,zht,zhu,zhv]))
      refine z05 (by rfl) fun K hK=>?_
      go_simp;refine(z3z R.length V.drew).mono ?_;rintro e w7 ⟨rfl,hb7⟩;have bF7:=bF.drew.belowAll hb7;have bX7:=bX.drew.belowAll hb7;have B7:=BW.drew.trans (hb7.mono BW.size);have hRd:=(hRd.below (zho _ _).drew).below hb7;refine hK _ _ (fun _=>⟨by rw[bF7.cells];rfl,by rw[bF7.cells];rfl,by rw[bX7.cells];rfl⟩) ?_
      clear hK K cXW fXW hb7 BW bF bX hS4;have bF:=bF7;have bX:=bX7;have BW:=B7;clear bF7 bX7 B7;have cXW:=bX.cells;have fXW:=bX.free;have lX:=bX.lt;iterate 3 (refine z04 (by rfl) ?_ (fun w' hw'=>?_) ?_;rotate_left;(focus (go_simp;(try with_reducible rfl)));(try simp only[Act.put,zht,zhu,zhv]))
      refine z05 (by rfl) fun K hK=>?_
      go_simp;have bFS:=(bF.far (p:=⟨w.heap.size+1,2,none⟩) (by simp;omega) (.bool db))
      have bXS:=(bX.set_ 2 (.bool db));refine hK _ _ (fun _=>⟨by rw[bFS.cells];rfl,by rw[bFS.cells];rfl,by rw[bXS.cells];rfl⟩) ?_
      clear bFS bXS hK K;refine z0f ?_;obtain⟨U,hU⟩:∃U,U=(w7.setCell ⟨w.heap.size+1,2,none⟩ (.bool db)):=⟨_,rfl⟩;have bXU:Blk U (w.heap.size+1) 216 #[.int .u32 q,.slice A R.length c,.bool db]:=by rw[hU];exact(bX.set_ 2 _)
      have BU:Below w.heap.size w U:=by rw[hU];exact(BW.setCell (by simp) _)
      have kU:KeepEx w7.heap.size [w.heap.size+1] w7 U:=by rw[hU];exact(KeepEx.setCell _ (.inl (by simp)) _)
      rw[←hU];clear hU cXW fXW lX hS0;have cXU:=bXU.cells;have fXU:=bXU.free;have lXU:=bXU.lt;go_wp2_with fail
      have bX8:=((bXU.set_ 0 (.int .u32 q)).set_ 1 (.slice A R.length c)).set_ 2 (.bool db);have k8:=((kU.trans (KeepEx.setCell (p:=⟨w.heap.size+1,0,none⟩) U (.inl (by simp)) (.int .u32 q))).trans (KeepEx.setCell (p:=⟨w.heap.size+1,1,none⟩) _ (.inl (by simp)) (.slice A R.length c))).trans (KeepEx.setCell (p:=⟨w.heap.size+1,2,none⟩) _ (.inl (by simp)) (.bool db))
      have cX8:=bX8.cells;clear cXU fXU lXU;refine bodyPost_ret (v:=.tuple #[.agg #[.int .u32 q,.slice A R.length c,.bool db],.int .i64 0]) (by simp[results,results137,go_sem,cX8]) rfl ?_
      exact⟨((BU.setCell (p:=⟨w.heap.size+1,0,none⟩) (by simp) _).setCell (p:=⟨w.heap.size+1,1,none⟩) (by simp) _).setCell (p:=⟨w.heap.size+1,2,none⟩) (by simp) _,A,c,by rw[HLE.out],by rw[HLE.out];exact Reads.grow hRd (F:=[w.heap.size+1]) (F':=[w.heap.size+1]) ⟨k8,fun b hb=>.inl hb⟩ (fun ad e=>by have:=hAb ad e;simp;omega),fun ad e=>by have:=hAb ad e;omega⟩
     ·have hk3:(f.kind==3)=false:=by simpa using k3
      have HLE:Hid (x.look F z=(0,q,R,false)):=zhs (HSTOP.out false (by rw[HEND.out];rfl) (by rw[HWHO.out,hk3];rfl))
      clear HSTOP HEND HWHO k3;refine z06 [.take 0,.take 1,.take 2,.take 3,.take 4,.take 5,.take 6,.take 7,.take 8,.take 9,.take 10,.take 11,.take 12,.take 13,.take 14,.take 15,.take 16,.one 17,.take 18,.take 19] 20 (fun W'=>W'.cell? ⟨RB,0,none⟩=some (.int .i64 (z0i f).at_)∧W'.cell? ⟨w.heap.size+1,1,none⟩=some (.slice A R.length c)∧W'.cell? ⟨w.heap.size,0,none⟩=some (.int .i64 F)∧W'.cell? ⟨w.heap.size,1,none⟩=some (.int .i64 z)) (by kernel_rfl) (by kernel_rfl) (fun _ _ _ _ _ h=>h) hS0 ?_
      simp only[zhY,zhZ,Ms.fill,zhy,zhz];iterate 7 (refine z04 (by rfl) ?_ (fun w' hw'=>?_) ?_;rotate_left;(focus (go_simp;(try with_reducible rfl)));(try simp only[Act.put,zht,zhu,zhv]))
      iterate 4 ((first|(refine z0E (by rfl) ?_)|(refine z0F (by rfl) ?_));(try simp only[Act.put,zht,zhu,zhv]))
      iterate 2 (refine z04 (by rfl) ?_ (fun w' hw'=>?_) ?_;rotate_left;(focus (go_simp;(try with_reducible rfl)));(try simp only[Act.put,zht,zhu,zhv]))
      iterate 6 ((first|(refine z0E (by rfl) ?_)|(refine z0F (by rfl) ?_));(try simp only[Act.put,zht,zhu,zhv]))
      iterate 1 (refine z04 (by rfl) ?_ (fun w' hw'=>?_) ?_;rotate_left;(focus (go_simp;(try with_reducible rfl)));(try simp only[Act.put,zht,zhu,zhv]))
      refine z0f ?_;go_wp2_with fail
      have bX:=bX.drew;have bF:=bF.drew;have BW:=BW.drew;have hRd:=hRd.below (zho _ _).drew;generalize W.drew=V at *;have hS4:V.cell? ⟨FB,0,none⟩=some (.int .i64 f.kind)∧V.cell? ⟨FB,2,none⟩=some (.string f.data)∧V.cell? ⟨w.heap.size+1,1,none⟩=some (.slice A R.length c):=⟨by rw[bF.cells];rfl,by rw[bF.cells];rfl,by rw[bX.cells];rfl⟩
      have cXW:=bX.cells;have fXW:=bX.free;refine z06 [.take 0,.take 1,.take 2,.take 3,.take 4,.take 5,.take 6,.take 7,.take 8,.take 9,.take 10,.take 11,.one 12,.take 13,.take 14,.take 15,.one 16] 17 (fun W'=>W'.cell? ⟨FB,0,none⟩=some (.int .i64 f.kind)∧W'.cell? ⟨FB,2,none⟩=some (.string f.data)∧W'.cell? ⟨w.heap.size+1,1,none⟩=some (.slice A R.length c)) (by kernel_rfl) (by kernel_rfl) (fun _ _ _ _ _ h=>h) hS4 ?_
      simp only[zhY,zhZ,Ms.fill,zhy,zhz];iterate 7 (refine z04 (by rfl) ?_ (fun w' hw'=>?_) ?_;rotate_left;(focus (go_simp;(try with_reducible rfl)));(try simp only[Act.put,zht,zhu,zhv]))
      iterate 7 ((first|(refine z0E (by rfl) ?_)|(refine z0F (by rfl) ?_));(try simp only[Act.put,zht,zhu,zhv]))
      iterate 2 (refine z04 (by rfl) ?_ (fun w' hw'=>?_) ?_;rotate_left;(focus (go_simp;(try with_reducible rfl)));(try simp only[Act.put,zht,zhu,zhv]))
      refine z05 (by rfl) fun K hK=>?_
      go_simp;have bFS:=(bF.far (p:=⟨w.heap.size+1,2,none⟩) (by simp;omega) (.bool false)).drew
      have bXS:=(bX.set_ 2 (.bool false)).drew;refine hK _ _ (fun _=>⟨by rw[bFS.cells];rfl,by rw[bFS.cells];rfl,by rw[bXS.cells];rfl⟩) ?_
      clear bFS bXS hK K;refine z0f ?_;obtain⟨U,hU⟩:∃U,U=(V.setCell ⟨w.heap.size+1,2,none⟩ (.bool false)).drew:=⟨_,rfl⟩;have bXU:Blk U (w.heap.size+1) 216 #[.int .u32 q,.slice A R.length c,.bool false]:=by rw[hU];exact(bX.set_ 2 _).drew
      have BU:Below w.heap.size w U:=by rw[hU];exact(BW.setCell (by simp) _).drew
      have kU:KeepEx V.heap.size [w.heap.size+1] V U:=by rw[hU];exact(KeepEx.setCell _ (.inl (by simp)) _).trans (KeepEx.of_below (zho _ _).drew)
      rw[←hU];clear hU cXW fXW lX hS0;have cXU:=bXU.cells;have fXU:=bXU.free;have lXU:=bXU.lt;go_wp2_with fail
      have bX8:=((bXU.set_ 0 (.int .u32 q)).set_ 1 (.slice A R.length c)).set_ 2 (.bool false);have k8:=((kU.trans (KeepEx.setCell (p:=⟨w.heap.size+1,0,none⟩) U (.inl (by simp)) (.int .u32 q))).trans (KeepEx.setCell (p:=⟨w.heap.size+1,1,none⟩) _ (.inl (by simp)) (.slice A R.length c))).trans (KeepEx.setCell (p:=⟨w.heap.size+1,2,none⟩) _ (.inl (by simp)) (.bool false))
      have cX8:=bX8.cells;clear cXU fXU lXU;refine bodyPost_ret (v:=.tuple #[.agg #[.int .u32 q,.slice A R.length c,.bool false],.int .i64 0]) (by simp[results,results137,go_sem,cX8]) rfl ?_
      exact⟨((BU.setCell (p:=⟨w.heap.size+1,0,none⟩) (by simp) _).setCell (p:=⟨w.heap.size+1,1,none⟩) (by simp) _).setCell (p:=⟨w.heap.size+1,2,none⟩) (by simp) _,A,c,by rw[HLE.out],by rw[HLE.out];exact Reads.grow hRd (F:=[w.heap.size+1]) (F':=[w.heap.size+1]) ⟨k8,fun b hb=>.inl hb⟩ (fun ad e=>by have:=hAb ad e;simp;omega),fun ad e=>by have:=hAb ad e;omega⟩
    have hk2:f.kind=2:=by
     unfold z1F at hib;by_cases hb:f.kind≠2∨f.data.size<3∨99<f.data.size
     ·rw[if_pos hb]at hib;cases hib
     ·omega
    have hk3:(f.kind==3)=false:=by simp[hk2]
    have HLE:Hid (z26 x.stable.length F z q E f R=true→x.look F z=(0,q,R,false)):=zhs (fun h1=>HSTOP.out false h1 (by rw[HWHO.out,hk3];rfl))
    obtain⟨hrA,hrS⟩:=zb0 hib;clear HSTOP HWHO hib hk2;have hpd:PlacesAt W.drew M R.length (R.map (·.at_)):=hp;have hlk0:=hpd.look hrA;clear hpd;by_cases hdup:(z0i f).at_∈R.map (·.at_)
    ·have HLE:Hid (x.look F z=(0,q,R,false)):=zhs (HLE.out (by rw[HEND.out,decide_eq_true hdup];rfl))
     rw[decide_eq_true hdup]at hlk0;have hS1:=And.intro hS0.1 (And.intro hS0.2.1 (And.intro hS0.2.2.1 (And.intro hS0.2.2.2 hlk0)));clear HEND HGO hdup hown hp;refine z06 [.take 0,.take 1,.take 2,.take 3,.take 4,.take 5,.take 6,.take 7,.take 8,.take 9,.take 10,.take 11,.take 12,.take 13,.take 14,.take 15,.take 16,.one 17,.take 18,.take 19] 20 (fun W'=>W'.cell? ⟨RB,0,none⟩=some (.int .i64 (z0i f).at_)∧W'.cell? ⟨w.heap.size+1,1,none⟩=some (.slice A R.length c)∧W'.cell? ⟨w.heap.size,0,none⟩=some (.int .i64 F)∧W'.cell? ⟨w.heap.size,1,none⟩=some (.int .i64 z)∧(Instr.lookup 275 (.map (some M)) (.int .i64 (z0i f).at_) false).run prog W'=.ok (.bool true) W') (by kernel_rfl) (by kernel_rfl) (fun _ _ _ _ _ h=>h) hS1 ?_
     simp only[zhY,zhZ,Ms.fill,zhy,zhz];iterate 13 (refine z04 (by rfl) ?_ (fun w' hw'=>?_) ?_;rotate_left;(focus (go_simp;(try with_reducible rfl)));(try simp only[Act.put,zht,zhu,zhv]))
     iterate 6 ((first|(refine z0E (by rfl) ?_)|(refine z0F (by rfl) ?_));(try simp only[Act.put,zht,zhu,zhv]))
     iterate 1 (refine z04 (by rfl) ?_ (fun w' hw'=>?_) ?_;rotate_left;(focus (go_simp;(try with_reducible rfl)));(try simp only[Act.put,zht,zhu,zhv]))
     refine z0f ?_;go_wp2_with fail
     have bX:=bX.drew;have bF:=bF.drew;have BW:=BW.drew;have hRd:=hRd.below (zho _ _).drew;generalize W.drew=V at *;have hS4:V.cell? ⟨FB,0,none⟩=some (.int .i64 f.kind)∧V.cell? ⟨FB,2,none⟩=some (.string f.data)∧V.cell? ⟨w.heap.size+1,1,none⟩=some (.slice A R.length c):=⟨by rw[bF.cells];rfl,by rw[bF.cells];rfl,by rw[bX.cells];rfl⟩
     have cXW:=bX.cells;have fXW:=bX.free;refine z06 [.take 0,.take 1,.take 2,.take 3,.take 4,.take 5,.take 6,.take 7,.take 8,.take 9,.take 10,.take 11,.one 12,.take 13,.take 14,.take 15,.one 16] 17 (fun W'=>W'.cell? ⟨FB,0,none⟩=some (.int .i64 f.kind)∧W'.cell? ⟨FB,2,none⟩=some (.string f.data)∧W'.cell? ⟨w.heap.size+1,1,none⟩=some (.slice A R.length c)) (by kernel_rfl) (by kernel_rfl) (fun _ _ _ _ _ h=>h) hS4 ?_
     simp only[zhY,zhZ,Ms.fill,zhy,zhz];iterate 7 (refine z04 (by rfl) ?_ (fun w' hw'=>?_) ?_;rotate_left;(focus (go_simp;(try with_reducible rfl)));(try simp only[Act.put,zht,zhu,zhv]))
     iterate 7 ((first|(refine z0E (by rfl) ?_)|(refine z0F (by rfl) ?_));(try simp only[Act.put,zht,zhu,zhv]))
     iterate 2 (refine z04 (by rfl) ?_ (fun w' hw'=>?_) ?_;rotate_left;(focus (go_simp;(try with_reducible rfl)));(try simp only[Act.put,zht,zhu,zhv]))
     refine z05 (by rfl) fun K hK=>?_
     go_simp;have bFS:=(bF.far (p:=⟨w.heap.size+1,2,none⟩) (by simp;omega) (.bool false)).drew
     have bXS:=(bX.set_ 2 (.bool false)).drew;refine hK _ _ (fun _=>⟨by rw[bFS.cells];rfl,by rw[bFS.cells];rfl,by rw[bXS.cells];rfl⟩) ?_
     clear bFS bXS hK K;refine z0f ?_;obtain⟨U,hU⟩:∃U,U=(V.setCell ⟨w.heap.size+1,2,none⟩ (.bool false)).drew:=⟨_,rfl⟩;have bXU:Blk U (w.heap.size+1) 216 #[.int .u32 q,.slice A R.length c,.bool false]:=by rw[hU];exact(bX.set_ 2 _).drew
     have BU:Below w.heap.size w U:=by rw[hU];exact(BW.setCell (by simp) _).drew
     have kU:KeepEx V.heap.size [w.heap.size+1] V U:=by rw[hU];exact(KeepEx.setCell _ (.inl (by simp)) _).trans (KeepEx.of_below (zho _ _).drew)
     rw[←hU];clear hU cXW fXW lX hS0;have cXU:=bXU.cells;have fXU:=bXU.free;have lXU:=bXU.lt;go_wp2_with fail
     have bX8:=((bXU.set_ 0 (.int .u32 q)).set_ 1 (.slice A R.length c)).set_ 2 (.bool false);have k8:=((kU.trans (KeepEx.setCell (p:=⟨w.heap.size+1,0,none⟩) U (.inl (by simp)) (.int .u32 q))).trans (KeepEx.setCell (p:=⟨w.heap.size+1,1,none⟩) _ (.inl (by simp)) (.slice A R.length c))).trans (KeepEx.setCell (p:=⟨w.heap.size+1,2,none⟩) _ (.inl (by simp)) (.bool false))
     have cX8:=bX8.cells;clear cXU fXU lXU;refine bodyPost_ret (v:=.tuple #[.agg #[.int .u32 q,.slice A R.length c,.bool false],.int .i64 0]) (by simp[results,results137,go_sem,cX8]) rfl ?_
     exact⟨((BU.setCell (p:=⟨w.heap.size+1,0,none⟩) (by simp) _).setCell (p:=⟨w.heap.size+1,1,none⟩) (by simp) _).setCell (p:=⟨w.heap.size+1,2,none⟩) (by simp) _,A,c,by rw[HLE.out],by rw[HLE.out];exact Reads.grow hRd (F:=[w.heap.size+1]) (F':=[w.heap.size+1]) ⟨k8,fun b hb=>.inl hb⟩ (fun ad e=>by have:=hAb ad e;simp;omega),fun ad e=>by have:=hAb ad e;omega⟩
    have hend2:=HEND.out;rw[decide_eq_false hdup]at hend2 hlk0;have HEND:=zhs hend2;have hS1:=And.intro hS0.1 (And.intro hS0.2.1 (And.intro hS0.2.2.1 (And.intro hS0.2.2.2 hlk0)));have hmz:z0Z z≤80:=by unfold z0Z;omega
    by_cases hful:(R.length:Int)=z0Z z
    ·have HLE:Hid (x.look F z=(0,q,R,false)):=zhs (HLE.out (by rw[HEND.out,decide_eq_true hful];rfl))
     have hfd:((R.length:Int)==z0Z z)=true:=by simpa using hful
     clear HEND HGO hend2 hful;refine z06 [.take 0,.take 1,.take 2,.take 3,.take 4,.take 5,.take 6,.take 7,.take 8,.take 9,.take 10,.take 11,.take 12,.take 13,.take 14,.take 15,.take 16,.one 17,.take 18,.take 19] 20 (fun W'=>W'.cell? ⟨RB,0,none⟩=some (.int .i64 (z0i f).at_)∧W'.cell? ⟨w.heap.size+1,1,none⟩=some (.slice A R.length c)∧W'.cell? ⟨w.heap.size,0,none⟩=some (.int .i64 F)∧W'.cell? ⟨w.heap.size,1,none⟩=some (.int .i64 z)∧(Instr.lookup 275 (.map (some M)) (.int .i64 (z0i f).at_) false).run prog W'=.ok (.bool false) W') (by kernel_rfl) (by kernel_rfl) (fun _ _ _ _ _ h=>h) hS1 ?_
     simp only[zhY,zhZ,Ms.fill,zhy,zhz];iterate 17 (refine z04 (by rfl) ?_ (fun w' hw'=>?_) ?_;rotate_left;(focus (go_simp;(try with_reducible rfl)));(try simp only[Act.put,zht,zhu,zhv]))
     refine z05 (by rfl) fun K hK=>?_
     go_simp;refine(z8i F z (by omega) W.drew).mono ?_
     rintro e V ⟨rfl,hb6⟩;have bR6:=bR.drew.belowAll hb6;have bX6:=bX.drew.belowAll hb6;have bF6:=bF.drew.belowAll hb6;have bJ6:=bJ.drew.belowAll hb6;have hp6:PlacesAt V M R.length (R.map (·.at_)):=z0j hp (hb6.block M hMW);have hown6:=z0a (z0a hown (zho _ _).drew) hb6;have B6:Below w.heap.size w V:=BW.drew.trans (hb6.mono BW.size);have hRd6:=(hRd.below (zho _ _).drew).below hb6;have hM6:M<V.heap.size:=zhR hMW hb6.size;have hlk6:=hp6.look hrA;rw[decide_eq_false hdup]at hlk6;refine hK _ _ (fun _=>⟨by rw[bR6.cells];rfl,by rw[bX6.cells];rfl,by rw[bJ6.cells];rfl,by rw[bJ6.cells];rfl,hlk6⟩) ?_
     clear hK K bR bX bF bJ hp hown BW hRd hMW hS0 hS1 hlk0 lX lJ lF lR hb6;iterate 2 (refine z04 (by rfl) ?_ (fun w' hw'=>?_) ?_;rotate_left;(focus (go_simp;(try with_reducible rfl)));(try simp only[Act.put,zht,zhu,zhv]))
     refine z0f ?_;go_wp2_with fail
     have bX:=bX6;have bF:=bF6;have BW:=B6;have hRd:=hRd6;clear bX6 bF6 B6 hRd6 hlk6 hp6 hown6 bR6 bJ6;have lX:=bX.lt;have hS0:=trivial;have hS4:V.cell? ⟨FB,0,none⟩=some (.int .i64 f.kind)∧V.cell? ⟨FB,2,none⟩=some (.string f.data)∧V.cell? ⟨w.heap.size+1,1,none⟩=some (.slice A R.length c):=⟨by rw[bF.cells];rfl,by rw[bF.cells];rfl,by rw[bX.cells];rfl⟩
     have cXW:=bX.cells;have fXW:=bX.free;refine z06 [.take 0,.take 1,.take 2,.take 3,.take 4,.take 5,.take 6,.take 7,.take 8,.take 9,.take 10,.take 11,.one 12,.take 13,.take 14,.take 15,.one 16] 17 (fun W'=>W'.cell? ⟨FB,0,none⟩=some (.int .i64 f.kind)∧W'.cell? ⟨FB,2,none⟩=some (.string f.data)∧W'.cell? ⟨w.heap.size+1,1,none⟩=some (.slice A R.length c)) (by kernel_rfl) (by kernel_rfl) (fun _ _ _ _ _ h=>h) hS4 ?_
     simp only[zhY,zhZ,Ms.fill,zhy,zhz];iterate 7 (refine z04 (by rfl) ?_ (fun w' hw'=>?_) ?_;rotate_left;(focus (go_simp;(try with_reducible rfl)));(try simp only[Act.put,zht,zhu,zhv]))
     iterate 7 ((first|(refine z0E (by rfl) ?_)|(refine z0F (by rfl) ?_));(try simp only[Act.put,zht,zhu,zhv]))
     iterate 2 (refine z04 (by rfl) ?_ (fun w' hw'=>?_) ?_;rotate_left;(focus (go_simp;(try with_reducible rfl)));(try simp only[Act.put,zht,zhu,zhv]))
     refine z05 (by rfl) fun K hK=>?_
     go_simp;have bFS:=(bF.far (p:=⟨w.heap.size+1,2,none⟩) (by simp;omega) (.bool false)).drew
     have bXS:=(bX.set_ 2 (.bool false)).drew;refine hK _ _ (fun _=>⟨by rw[bFS.cells];rfl,by rw[bFS.cells];rfl,by rw[bXS.cells];rfl⟩) ?_
     clear bFS bXS hK K;refine z0f ?_;obtain⟨U,hU⟩:∃U,U=(V.setCell ⟨w.heap.size+1,2,none⟩ (.bool false)).drew:=⟨_,rfl⟩;have bXU:Blk U (w.heap.size+1) 216 #[.int .u32 q,.slice A R.length c,.bool false]:=by rw[hU];exact(bX.set_ 2 _).drew
     have BU:Below w.heap.size w U:=by rw[hU];exact(BW.setCell (by simp) _).drew
     have kU:KeepEx V.heap.size [w.heap.size+1] V U:=by rw[hU];exact(KeepEx.setCell _ (.inl (by simp)) _).trans (KeepEx.of_below (zho _ _).drew)
     rw[←hU];clear hU cXW fXW lX hS0;have cXU:=bXU.cells;have fXU:=bXU.free;have lXU:=bXU.lt;go_wp2_with fail
     have bX8:=((bXU.set_ 0 (.int .u32 q)).set_ 1 (.slice A R.length c)).set_ 2 (.bool false);have k8:=((kU.trans (KeepEx.setCell (p:=⟨w.heap.size+1,0,none⟩) U (.inl (by simp)) (.int .u32 q))).trans (KeepEx.setCell (p:=⟨w.heap.size+1,1,none⟩) _ (.inl (by simp)) (.slice A R.length c))).trans (KeepEx.setCell (p:=⟨w.heap.size+1,2,none⟩) _ (.inl (by simp)) (.bool false))
     have cX8:=bX8.cells;clear cXU fXU lXU;refine bodyPost_ret (v:=.tuple #[.agg #[.int .u32 q,.slice A R.length c,.bool false],.int .i64 0]) (by simp[results,results137,go_sem,cX8]) rfl ?_
     exact⟨((BU.setCell (p:=⟨w.heap.size+1,0,none⟩) (by simp) _).setCell (p:=⟨w.heap.size+1,1,none⟩) (by simp) _).setCell (p:=⟨w.heap.size+1,2,none⟩) (by simp) _,A,c,by rw[HLE.out],by rw[HLE.out];exact Reads.grow hRd (F:=[w.heap.size+1]) (F':=[w.heap.size+1]) ⟨k8,fun b hb=>.inl hb⟩ (fun ad e=>by have:=hAb ad e;simp;omega),fun ad e=>by have:=hAb ad e;omega⟩
    ·have hgo:=HGO.out (by rw[HEND.out,decide_eq_false hful];rfl)
     have HNX:=zhs hgo;have hfd:((R.length:Int)==z0Z z)=false:=by simpa using hful
     clear HEND HGO hend2 hful hgo HLE;refine z06 [.take 0,.take 1,.take 2,.take 3,.take 4,.take 5,.take 6,.take 7,.take 8,.take 9,.take 10,.take 11,.take 12,.take 13,.take 14,.take 15,.take 16,.one 17,.take 18,.take 19] 20 (fun W'=>W'.cell? ⟨RB,0,none⟩=some (.int .i64 (z0i f).at_)∧W'.cell? ⟨w.heap.size+1,1,none⟩=some (.slice A R.length c)∧W'.cell? ⟨w.heap.size,0,none⟩=some (.int .i64 F)∧W'.cell? ⟨w.heap.size,1,none⟩=some (.int .i64 z)∧(Instr.lookup 275 (.map (some M)) (.int .i64 (z0i f).at_) false).run prog W'=.ok (.bool false) W') (by kernel_rfl) (by kernel_rfl) (fun _ _ _ _ _ h=>h) hS1 ?_
     simp only[zhY,zhZ,Ms.fill,zhy,zhz];iterate 17 (refine z04 (by rfl) ?_ (fun w' hw'=>?_) ?_;rotate_left;(focus (go_simp;(try with_reducible rfl)));(try simp only[Act.put,zht,zhu,zhv]))
     refine z05 (by rfl) fun K hK=>?_
     go_simp;refine(z8i F z (by omega) W.drew).mono ?_
     rintro e V ⟨rfl,hb6⟩;have bR6:=bR.drew.belowAll hb6;have bX6:=bX.drew.belowAll hb6;have bF6:=bF.drew.belowAll hb6;have bJ6:=bJ.drew.belowAll hb6;have hp6:PlacesAt V M R.length (R.map (·.at_)):=z0j hp (hb6.block M hMW);have hown6:=z0a (z0a hown (zho _ _).drew) hb6;have B6:Below w.heap.size w V:=BW.drew.trans (hb6.mono BW.size);have hRd6:=(hRd.below (zho _ _).drew).below hb6;have hM6:M<V.heap.size:=zhR hMW hb6.size;have hlk6:=hp6.look hrA;rw[decide_eq_false hdup]at hlk6;refine hK _ _ (fun _=>⟨by rw[bR6.cells];rfl,by rw[bX6.cells];rfl,by rw[bJ6.cells];rfl,by rw[bJ6.cells];rfl,hlk6⟩) ?_
     clear hK K bR bX bF bJ hp hown BW hRd hMW hS0 hS1 hlk0 lX lJ lF lR hb6;iterate 2 (refine z04 (by rfl) ?_ (fun w' hw'=>?_) ?_;rotate_left;(focus (go_simp;(try with_reducible rfl)));(try simp only[Act.put,zht,zhu,zhv]))
     refine z0f ?_;obtain⟨w8,hrun8,hp8,hg8⟩:=hp6.add (by simp only[maxLen];omega) hrA
     obtain⟨iD,hiD,hiz,his,hib8⟩:=info_parts Tryz.infoRec;have bR8:=bR6.grown hg8 (by simp;omega)
     have bX8:=bX6.grown hg8 (by simp;omega)
     have bJ8:=bJ6.grown hg8 (by simp;omega)
     have B8:=B6.grown hg8 B6.size (by intro p hp;cases hp;omega)
     have hM8:M<w8.heap.size:=zhR hM6 hg8.size;have hown8:=z0c hown6 (fun g e=>hg8.block g ((hown6.lt g e).2) (by intro e2;cases e2;have:=(hown6.lt _ e).1;omega))
     obtain⟨w9,hw9⟩:∃w9,w9=w8.alloc (.cells #[.int .i64 (z0i f).at_,.int .i64 (z0i f).kind,.string (z0i f).data] 118):=⟨_,rfl⟩;have bN9:Blk w9 w8.heap.size 118 #[.int .i64 (z0i f).at_,.int .i64 (z0i f).kind,.string (z0i f).data]:=by rw[hw9];exact Blk.new _ _ _
     have B98:Below w8.heap.size w8 w9:=by rw[hw9];exact(zho _ _).alloc (zhT _) _
     obtain⟨v10,w10,hrun10,hown10,hg10,-,hat10⟩:=run_append_own_at (P:=prog) w9 (M+1) 48 48 118 iD _ 3 32 underlying48 hiD hiz his hib8 rfl (by omega) _ _ _ (z0a hown8 B98) ⟨w8.heap.size,0,none⟩ 1 1 (recV (z0i f)) rfl (fun j u hu=>by rw[z1P,zi8,bN9.cells];simpa[recV]using hu) (by intro u hu;simp[recV]at hu;rcases hu with rfl|rfl|rfl<;>rfl) (by simp only[maxLen];omega) (by omega) (by have:=B98.size;omega)
     have nX:some (w.heap.size+1)≠(Value.slice A R.length c).ownBlock:=fun e=>by have:=(hown8.lt _ e.symm).1;omega
     have nJ:some w.heap.size≠(Value.slice A R.length c).ownBlock:=fun e=>by have:=(hown8.lt _ e.symm).1;omega
     have nM:some M≠(Value.slice A R.length c).ownBlock:=fun e=>by have:=(hown8.lt _ e.symm).1;omega
     have bX10:=(bX8.belowAll B98).grown hg10 nX;have bJ10:=(bJ8.belowAll B98).grown hg10 nJ;have B9:Below w.heap.size w w9:=B8.trans (B98.mono B8.size);have B10:=B9.grown hg10 B9.size (fun g e=>by have:=(hown8.lt _ e).1;omega)
     have hp10:PlacesAt w10 M (R.length+1) (R.map (·.at_)++[(z0i f).at_]):=z0j hp8 ((hg10.block M (zhR hM8 B98.size) nM).trans (B98.block M hM8));have hM10:M<w10.heap.size:=by have:=hg10.size;have:=B98.size;omega
     have cR6:=bR6.cells;have lR6:=bR6.lt;have cR8:=bR8.cells;have lR8:=bR8.lt;have cX8:=bX8.cells;have lX8:=bX8.lt;have cX10:=bX10.cells;have fX10:=bX10.free;have lX10:=bX10.lt;obtain⟨g10,cap10,rfl,hgb,hgl⟩:=z2f hown10 (by omega)
     clear hown8 hown6 hp8 hp6 hg8 hg10 B98 B9 B8 bN9 hM8 nX nJ nM bJ8 bJ6 bF6 hRd6 hlk6 hib8 hiz his bX6;go_wp2_with (refine z6G rfl _ _ _ rfl (.slice A R.length c) (.slice (some ⟨w8.heap.size,0,none⟩) 1 1) _ rfl rfl (by rw[←hw9];exact hrun10) ?_)
     have bX11:=bX10.set_ 1 (.slice (some ⟨g10,0,none⟩) (R.length+1) cap10);have bJ11:=bJ10.far (p:=⟨w.heap.size+1,1,none⟩) (by simp) (.slice (some ⟨g10,0,none⟩) (R.length+1) cap10)
     have B11:=B10.setCell (p:=⟨w.heap.size+1,1,none⟩) (by simp) (.slice (some ⟨g10,0,none⟩) (R.length+1) cap10)
     have hown11:=z0c hown10 (fun g e=>Below.heap_setCell w10 ⟨w.heap.size+1,1,none⟩ (.slice (some ⟨g10,0,none⟩) (R.length+1) cap10) g (fun e2=>by simp only[Value.ownBlock,Option.some.injEq]at e;simp only at e2;omega))
     have hp11:PlacesAt (w10.setCell ⟨w.heap.size+1,1,none⟩ (.slice (some ⟨g10,0,none⟩) (R.length+1) cap10)) M (R.length+1) (R.map (·.at_)++[(z0i f).at_]):=z0j hp10 (Below.heap_setCell _ _ _ _ (by simp;omega))
     clear cR6 lR6 cR8 lR8 cX8 lX8 cX10 fX10 lX10 hown10 hp10 bX10 bJ10 B10 hrun8 hrun10 hat10 HLS;go_roundw
     case rel=>
      refine⟨k+1,by omega,by go_num,by rw[HNX.out],by rw[HNX.out],by rw[HNX.out],by rw[HNX.out];simp;omega,.slice (some ⟨g10,0,none⟩) (R.length+1) cap10,bX11,?_,?_,bJ11,B11,by simp;omega⟩
      ·rw[HNX.out];simp only[zhF,zhO,zhP,List.flatMap_append,zhN,List.flatMap_nil,zi5];exact hown11
      ·rw[HNX.out];simp only[zhF,zhO,zhP,List.map_append,zhY,zhZ];exact hp11
     case measure=>simp[intOf];omega
   all_goals
    obtain⟨A,c,rfl,hRd,hAb⟩:=z6z hown;have HLE:Hid (x.look F z=(0,q,R,false)):=zhs (by
     have h1:z26 x.stable.length F z q E f R=true:=by unfold z26;rw[hmb.out];rfl
     have h2:z1K q E f R=false:=by unfold z1K;rw[hmb.out];rfl
     have h3:x.lookTo F z q (k+1)=⟨true,0,R,false⟩:=by rw[HLS.out,h1,h2];rfl
     rw[HL.out,HFI.out (by rw[h3]),h3]
     exact if_neg (by simp))
    clear HLS HFI HL hown hp hmb;refine z06 [.take 0,.take 1,.take 2,.take 3,.take 4,.take 5,.take 6,.take 7,.take 8,.take 9,.take 10,.take 11,.take 12,.take 13,.take 14,.take 15,.take 16,.one 17,.take 18,.take 19] 20 (fun W'=>W'.cell? ⟨RB,0,none⟩=some (.int .i64 (z0i f).at_)∧W'.cell? ⟨w.heap.size+1,1,none⟩=some (.slice A R.length c)∧W'.cell? ⟨w.heap.size,0,none⟩=some (.int .i64 F)∧W'.cell? ⟨w.heap.size,1,none⟩=some (.int .i64 z)) (by kernel_rfl) (by kernel_rfl) (fun _ _ _ _ _ h=>h) hS0 ?_
    simp only[zhY,zhZ,Ms.fill,zhy,zhz];iterate 3 (refine z04 (by rfl) ?_ (fun w' hw'=>?_) ?_;rotate_left;(focus (go_simp;(try with_reducible rfl)));(try simp only[Act.put,zht,zhu,zhv]))
    iterate 2 ((first|(refine z0E (by rfl) ?_)|(refine z0F (by rfl) ?_));(try simp only[Act.put,zht,zhu,zhv]))
    iterate 2 (refine z04 (by rfl) ?_ (fun w' hw'=>?_) ?_;rotate_left;(focus (go_simp;(try with_reducible rfl)));(try simp only[Act.put,zht,zhu,zhv]))
    iterate 4 ((first|(refine z0E (by rfl) ?_)|(refine z0F (by rfl) ?_));(try simp only[Act.put,zht,zhu,zhv]))
    iterate 2 (refine z04 (by rfl) ?_ (fun w' hw'=>?_) ?_;rotate_left;(focus (go_simp;(try with_reducible rfl)));(try simp only[Act.put,zht,zhu,zhv]))
    iterate 6 ((first|(refine z0E (by rfl) ?_)|(refine z0F (by rfl) ?_));(try simp only[Act.put,zht,zhu,zhv]))
    iterate 1 (refine z04 (by rfl) ?_ (fun w' hw'=>?_) ?_;rotate_left;(focus (go_simp;(try with_reducible rfl)));(try simp only[Act.put,zht,zhu,zhv]))
    refine z0f ?_;go_wp2_with fail
    have bX:=bX.drew;have bF:=bF.drew;have BW:=BW.drew;have hRd:=hRd.below (zho _ _).drew;generalize W.drew=V at *;have hS4:V.cell? ⟨FB,0,none⟩=some (.int .i64 f.kind)∧V.cell? ⟨FB,2,none⟩=some (.string f.data)∧V.cell? ⟨w.heap.size+1,1,none⟩=some (.slice A R.length c):=⟨by rw[bF.cells];rfl,by rw[bF.cells];rfl,by rw[bX.cells];rfl⟩
    have cXW:=bX.cells;have fXW:=bX.free;refine z06 [.take 0,.take 1,.take 2,.take 3,.take 4,.take 5,.take 6,.take 7,.take 8,.take 9,.take 10,.take 11,.one 12,.take 13,.take 14,.take 15,.one 16] 17 (fun W'=>W'.cell? ⟨FB,0,none⟩=some (.int .i64 f.kind)∧W'.cell? ⟨FB,2,none⟩=some (.string f.data)∧W'.cell? ⟨w.heap.size+1,1,none⟩=some (.slice A R.length c)) (by kernel_rfl) (by kernel_rfl) (fun _ _ _ _ _ h=>h) hS4 ?_
    simp only[zhY,zhZ,Ms.fill,zhy,zhz];iterate 2 (refine z04 (by rfl) ?_ (fun w' hw'=>?_) ?_;rotate_left;(focus (go_simp;(try with_reducible rfl)));(try simp only[Act.put,zht,zhu,zhv]))
    iterate 3 ((first|(refine z0E (by rfl) ?_)|(refine z0F (by rfl) ?_));(try simp only[Act.put,zht,zhu,zhv]))
    iterate 2 (refine z04 (by rfl) ?_ (fun w' hw'=>?_) ?_;rotate_left;(focus (go_simp;(try with_reducible rfl)));(try simp only[Act.put,zht,zhu,zhv]))
    iterate 7 ((first|(refine z0E (by rfl) ?_)|(refine z0F (by rfl) ?_));(try simp only[Act.put,zht,zhu,zhv]))
    iterate 2 (refine z04 (by rfl) ?_ (fun w' hw'=>?_) ?_;rotate_left;(focus (go_simp;(try with_reducible rfl)));(try simp only[Act.put,zht,zhu,zhv]))
    refine z05 (by rfl) fun K hK=>?_
    go_simp;have bFS:=(bF.far (p:=⟨w.heap.size+1,2,none⟩) (by simp;omega) (.bool false)).drew
    have bXS:=(bX.set_ 2 (.bool false)).drew;refine hK _ _ (fun _=>⟨by rw[bFS.cells];rfl,by rw[bFS.cells];rfl,by rw[bXS.cells];rfl⟩) ?_
    clear bFS bXS hK K;refine z0f ?_;obtain⟨U,hU⟩:∃U,U=(V.setCell ⟨w.heap.size+1,2,none⟩ (.bool false)).drew:=⟨_,rfl⟩;have bXU:Blk U (w.heap.size+1) 216 #[.int .u32 q,.slice A R.length c,.bool false]:=by rw[hU];exact(bX.set_ 2 _).drew
    have BU:Below w.heap.size w U:=by rw[hU];exact(BW.setCell (by simp) _).drew
    have kU:KeepEx V.heap.size [w.heap.size+1] V U:=by rw[hU];exact(KeepEx.setCell _ (.inl (by simp)) _).trans (KeepEx.of_below (zho _ _).drew)
    rw[←hU];clear hU cXW fXW lX hS0;have cXU:=bXU.cells;have fXU:=bXU.free;have lXU:=bXU.lt;go_wp2_with fail
    have bX8:=((bXU.set_ 0 (.int .u32 q)).set_ 1 (.slice A R.length c)).set_ 2 (.bool false);have k8:=((kU.trans (KeepEx.setCell (p:=⟨w.heap.size+1,0,none⟩) U (.inl (by simp)) (.int .u32 q))).trans (KeepEx.setCell (p:=⟨w.heap.size+1,1,none⟩) _ (.inl (by simp)) (.slice A R.length c))).trans (KeepEx.setCell (p:=⟨w.heap.size+1,2,none⟩) _ (.inl (by simp)) (.bool false))
    have cX8:=bX8.cells;clear cXU fXU lXU;refine bodyPost_ret (v:=.tuple #[.agg #[.int .u32 q,.slice A R.length c,.bool false],.int .i64 0]) (by simp[results,results137,go_sem,cX8]) rfl ?_
    exact⟨((BU.setCell (p:=⟨w.heap.size+1,0,none⟩) (by simp) _).setCell (p:=⟨w.heap.size+1,1,none⟩) (by simp) _).setCell (p:=⟨w.heap.size+1,2,none⟩) (by simp) _,A,c,by rw[HLE.out],by rw[HLE.out];exact Reads.grow hRd (F:=[w.heap.size+1]) (F':=[w.heap.size+1]) ⟨k8,fun b hb=>.inl hb⟩ (fun ad e=>by have:=hAb ad e;simp;omega),fun ad e=>by have:=hAb ad e;omega⟩
  ·obtain rfl:z=k+1:=by omega
   obtain⟨A,c,rfl,hRd,hAb⟩:=z6z hown;have HLE:Hid (x.look F ((k+1:Nat):Int)=(0,q,R,false)):=zhs (by rw[HL.out,Nat.add_sub_cancel,hlk];rfl)
   clear hlk hown hp HL;go_wp2_with fail
   have bX8:=((bX.set_ 0 (.int .u32 q)).set_ 1 (.slice A R.length c)).set_ 2 (.bool false);have k8:=((KeepEx.setCell (p:=⟨w.heap.size+1,0,none⟩) (B:=wr.heap.size) (bs:=[w.heap.size+1]) wr (.inl (by simp)) (.int .u32 q)).trans (KeepEx.setCell (p:=⟨w.heap.size+1,1,none⟩) _ (.inl (by simp)) (.slice A R.length c))).trans (KeepEx.setCell (p:=⟨w.heap.size+1,2,none⟩) _ (.inl (by simp)) (.bool false))
   have cX8:=bX8.cells;clear cX fX lX;refine bodyPost_ret (v:=.tuple #[.agg #[.int .u32 q,.slice A R.length c,.bool false],.int .i64 0]) (by simp[results,results137,go_sem,cX8]) rfl ?_
   exact⟨((hB.setCell (p:=⟨w.heap.size+1,0,none⟩) (by simp) _).setCell (p:=⟨w.heap.size+1,1,none⟩) (by simp) _).setCell (p:=⟨w.heap.size+1,2,none⟩) (by simp) _,A,c,by rw[HLE.out],by rw[HLE.out];exact Reads.grow hRd (F:=[w.heap.size+1]) (F':=[w.heap.size+1]) ⟨k8,fun b hb=>.inl hb⟩ (fun ad e=>by have:=hAb ad e;simp;omega),fun ad e=>by have:=hAb ad e;omega⟩
end Go.Proofs.YtejmknghkbobnaaGreatDoor
