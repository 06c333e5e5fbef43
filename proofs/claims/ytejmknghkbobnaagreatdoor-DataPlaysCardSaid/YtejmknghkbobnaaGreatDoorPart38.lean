import Derived.Test.YtejmknghkbobnaaGreatDoorPart37
set_option linter.all false
set_option maxRecDepth 100000
set_option maxHeartbeats 0
namespace Go.Proofs.YtejmknghkbobnaaGreatDoor
open Go.Proofs.Tryz
open Go.RowKit Go.Maps
abbrev bH (lv pv:Value)(t:ByteArray)(z e:Int):Array Value:=#[lv,pv,.string t,.int .i64 z,.int .i64 e]
structure Mid (n m:Nat)(w1 W:World):Prop where
 os:W.os=w1.os
 tape:W.tape=w1.tape
 output:W.output=w1.output
 size:W.heap.size=w1.heap.size
 block:∀b,b<n\/m<=b->W.heap[b]?=w1.heap[b]?
theorem Mid.refl (n m:Nat)(w:World):Mid n m w w:=⟨rfl,rfl,rfl,rfl,fun _ _=>rfl⟩
theorem Mid.mG {n m:Nat}{c W:World}(h:Mid n m c W){p:Addr}(D:n<=p.block)(I:p.block<m)(u:Value):Mid n m c (W.setCell p u):=
 ⟨h.os,h.tape,h.output,by simpa using h.size,fun b A=>(Below.heap_setCell W p u b (fun e=>by omega)).trans (h.block b A)⟩
theorem Mid.row {n m:Nat}{c W:World}(h:Mid n m c W){g:Nat}(D:n<=g)(I:g<m)(cs:Array Value):Mid n m c (W.setRow g cs):=
 ⟨h.os,h.tape,h.output,by simpa using h.size,fun b A=>(ak W g b cs (fun e=>by omega)).trans (h.block b A)⟩
theorem Mid.below {w A J W:World}(h:Mid w.heap.size A.heap.size J W)(D:Zr w A)(K:Zr A J):Zr w W:=
 have c:=D.trans (K.mono D.size);⟨h.os.trans c.os,h.tape.trans c.tape,h.output.trans c.output,by have:=c.size;have:=h.size;omega,fun b I=>(h.block b (.inl I)).trans (c.block b I)⟩
theorem Mid.own {w c D W:World}(h:Mid w.heap.size c.heap.size D W)(I:Zr w c){e:TypeId}{size:Nat}{v:Value}{n:Nat}{xs:List Value}(A:D.ownsRow c.heap.size e size v n xs):W.ownsRow w.heap.size e size v n xs:=
 aI (ar A fun q J=>h.block q (.inr (ce A q J).1)) I.size
theorem Mid.did {w J K W:World}{T:Nat}{F:List Nat}{D:Nat}{y:TxS}{B:List Nat}{x:DevS}{z:TxS}{L:List Int}{v:Value}(h:Mid w.heap.size J.heap.size K W)(A:Zr w J)(I:TD w T F D y B x)(U:z3t J T F D B x z L v K):z3t w T F D B x z L v W:=by
 obtain⟨Y,M,ht,g,hq⟩:=U;have S:∀b∈F,b<w.heap.size:=fun b c=>(I.tx.lt b c).2
 have O:∀b∈B,b<w.heap.size:=fun b c=>(I.dev.lt b c).2
 refine⟨h.own A Y,M,ht.keep (fun b c=>h.block b ?_) (Nat.le_of_eq h.size.symm),⟨?_,fun b c=>?_⟩,hq⟩
 ·rcases c with c|c|rfl
  ·exact(g.new b c).imp (S b) id
  ·exact .inl (O b c)
  ·exact .inl I.dev.half.1
 ·have k:=g.keep;exact⟨h.os.trans (k.os.trans A.os),h.tape.trans (k.tape.trans A.tape),h.output.trans (k.output.trans A.output),by have:=k.size;have:=A.size;have:=h.size;omega,fun b c V=>((h.block b (.inl c)).trans (k.block b (by have:=A.size;omega) V)).trans (A.block b c)⟩
 ·exact(g.new b c).imp id (fun h9=>by have:=A.size;omega)
theorem z6G (T:Nat)(F:List Nat)(D:Nat)(y:TxS)(B:List Nat)(x:DevS)(kd size off n:Int)(A:Option Addr)(c:Nat)(l:List Int)(hl:l.length<=1000)(s:ByteArray)(pv:Value)(ao:-9223372036854775808<=size/\size<=9223372036854775807)(ac:-9223372036854775808<=off/\off<=9223372036854775807)(an:s.size<=10000)(w:World)(h:TD w T F D y B x)(hA:SlI w A c l):
  Calls prog 27 #[.pointer (some ⟨T,0,none⟩),.agg (az 0 kd size off n (.slice A l.length c) s pv)] w fun e w'=>∃v,e=.returned (.agg (bH v (.slice none 0 0) ⟨#[]⟩ (y.mJ x kd l size off s).2.2.2 (y.mJ x kd l size off s).1))/\z3t w T F D B x (y.mJ x kd l size off s).2.1 (y.mJ x kd l size off s).2.2.1 v w':=by
 obtain⟨J,I⟩:=zex (((w.alloc (.cells (az 0 kd size off n (.slice A l.length c) s pv) 78)).alloc (.cells (dG 0) 83)).alloc (.cells (dG 0) 83));have bC:Blk J w.heap.size 78 (az 0 kd size off n (.slice A l.length c) s pv):=by rw[I];exact zbn
 have bR:Blk J (w.heap.size+1) 83 (dG 0):=by rw[I];exact(Blk.new' (by simp)).alloc _
 have bA:Blk J (w.heap.size+1+1) 83 (dG 0):=by rw[I];exact zbn
 have BA:Zr w J:=by rw[I];exact zgr
 have aL:w.heap.size+1+1<J.heap.size:=bA.lt;have S:=z0Y T F D y B x kd A c l hl size off s an ao ac J (h.below BA) (hA.below BA);obtain⟨cC,lC⟩:=bC.zc;go_enter func27,ntmps27
 go_wp2_with fail
 rw[<-I];go_wp2_with fail
 refine S.mono ?_;rintro e U ⟨v,rfl,hd⟩;have V:∀b,w.heap.size<=b->b<J.heap.size->U.heap[b]?=J.heap[b]?:=fun b h1 h2=>hd.2.choose_spec.2.1.keep.block b h2 (fun hm=>by have:=(h.tx.lt b hm).2;omega)
 obtain⟨K,M,rfl⟩:=aw hd.1;have Y:Blk U (w.heap.size+1) 83 (dG 0):=(V _ (by omega) (by omega)).trans bR
 have O:Blk U (w.heap.size+1+1) 83 (dG 0):=(V _ (by omega) (by omega)).trans bA
 clear S cC lC bC bR bA I V;have b2:Blk (((U.setCell ⟨w.heap.size+1+1,0,none⟩ (.slice K (y.mJ x kd l size off s).2.2.1.length M)).setCell ⟨w.heap.size+1+1,3,none⟩ (.int .i64 (y.mJ x kd l size off s).2.2.2)).setCell ⟨w.heap.size+1+1,4,none⟩ (.int .i64 (y.mJ x kd l size off s).1)) (w.heap.size+1+1) 83 (bH (.slice K (y.mJ x kd l size off s).2.2.1.length M) (.slice none 0 0) ⟨#[]⟩ (y.mJ x kd l size off s).2.2.2 (y.mJ x kd l size off s).1):=(((O.mG 0 (.slice K (y.mJ x kd l size off s).2.2.1.length M)).mG 3 (.int .i64 (y.mJ x kd l size off s).2.2.2)).mG 4 (.int .i64 (y.mJ x kd l size off s).1));have r2:Blk (((U.setCell ⟨w.heap.size+1+1,0,none⟩ (.slice K (y.mJ x kd l size off s).2.2.1.length M)).setCell ⟨w.heap.size+1+1,3,none⟩ (.int .i64 (y.mJ x kd l size off s).2.2.2)).setCell ⟨w.heap.size+1+1,4,none⟩ (.int .i64 (y.mJ x kd l size off s).1)) (w.heap.size+1) 83 (dG 0):=(((Y.far (p:=⟨w.heap.size+1+1,0,none⟩) (by simp) (.slice K (y.mJ x kd l size off s).2.2.1.length M)).far (p:=⟨w.heap.size+1+1,3,none⟩) (by simp) (.int .i64 (y.mJ x kd l size off s).2.2.2)).far (p:=⟨w.heap.size+1+1,4,none⟩) (by simp) (.int .i64 (y.mJ x kd l size off s).1))
 have hM:Mid w.heap.size J.heap.size U ((((U.setCell ⟨w.heap.size+1+1,0,none⟩ (.slice K (y.mJ x kd l size off s).2.2.1.length M)).setCell ⟨w.heap.size+1+1,3,none⟩ (.int .i64 (y.mJ x kd l size off s).2.2.2)).setCell ⟨w.heap.size+1+1,4,none⟩ (.int .i64 (y.mJ x kd l size off s).1)).setRow (w.heap.size+1) (bH (.slice K (y.mJ x kd l size off s).2.2.1.length M) (.slice none 0 0) ⟨#[]⟩ (y.mJ x kd l size off s).2.2.2 (y.mJ x kd l size off s).1)):=Mid.row ((((Mid.refl w.heap.size J.heap.size U).mG (p:=⟨w.heap.size+1+1,0,none⟩) (by show w.heap.size<=w.heap.size+1+1;omega) (by show w.heap.size+1+1<J.heap.size;omega) (.slice K (y.mJ x kd l size off s).2.2.1.length M)).mG (p:=⟨w.heap.size+1+1,3,none⟩) (by show w.heap.size<=w.heap.size+1+1;omega) (by show w.heap.size+1+1<J.heap.size;omega) (.int .i64 (y.mJ x kd l size off s).2.2.2)).mG (p:=⟨w.heap.size+1+1,4,none⟩) (by show w.heap.size<=w.heap.size+1+1;omega) (by show w.heap.size+1+1<J.heap.size;omega) (.int .i64 (y.mJ x kd l size off s).1)) (by omega) (by omega) _
 have ab:=aF (ty:=83) (vs:=bH (.slice K (y.mJ x kd l size off s).2.2.1.length M) (.slice none 0 0) ⟨#[]⟩ (y.mJ x kd l size off s).2.2.2 (y.mJ x kd l size off s).1) r2 rfl (by simp[Value.oneCell']) (by kernel_rfl)
 have HM:=kD hM;have cA:=O.cells;have fA:=O.free;have lA:=O.lt;have lR:=Y.lt;clear hM;go_wp2_with (refine zsb ab ?_)
 have cF:=(r2.setRow (cs':=bH (.slice K (y.mJ x kd l size off s).2.2.1.length M) (.slice none 0 0) ⟨#[]⟩ (y.mJ x kd l size off s).2.2.2 (y.mJ x kd l size off s).1)).cells;refine bodyPost_ret (v:=.agg (bH (.slice K (y.mJ x kd l size off s).2.2.1.length M) (.slice none 0 0) ⟨#[]⟩ (y.mJ x kd l size off s).2.2.2 (y.mJ x kd l size off s).1)) (by simp[results,results27,go_sem,cF]) rfl ?_
 have hM:=HM.out;exact⟨_,rfl,hM.did BA h hd⟩
theorem za2 (T:Nat)(F:List Nat)(D:Nat)(y:TxS)(B:List Nat)(x:DevS)(kd size off n:Int)(A:Option Addr)(c:Nat)(l:List Int)(hl:l.length<=1000)(s:ByteArray)(pv:Value)(ac:-9223372036854775808<=size/\size<=9223372036854775807)(hn:-9223372036854775808<=n/\n<=9223372036854775807)(w:World)(h:TD w T F D y B x)(hA:SlI w A c l):
  Calls prog 27 #[.pointer (some ⟨T,0,none⟩),.agg (az 2 kd size off n (.slice A l.length c) s pv)] w fun e w'=>∃v,e=.returned (.agg (bH v (.slice none 0 0) ⟨#[]⟩ 0 (y.ni x kd l size n).1))/\z3t w T F D B x (y.ni x kd l size n).2.1 (y.ni x kd l size n).2.2 v w':=by
 obtain⟨J,I⟩:=zex (((w.alloc (.cells (az 2 kd size off n (.slice A l.length c) s pv) 78)).alloc (.cells (dG 0) 83)).alloc (.cells (dG 0) 83));have bC:Blk J w.heap.size 78 (az 2 kd size off n (.slice A l.length c) s pv):=by rw[I];exact zbn
 have bR:Blk J (w.heap.size+1) 83 (dG 0):=by rw[I];exact(Blk.new' (by simp)).alloc _
 have bA:Blk J (w.heap.size+1+1) 83 (dG 0):=by rw[I];exact zbn
 have BA:Zr w J:=by rw[I];exact zgr
 have an:w.heap.size+1+1<J.heap.size:=bA.lt;have S:=z4M T F D y B x kd A c l hl size n ac J (h.below BA) (hA.below BA);obtain⟨cC,lC⟩:=bC.zc;go_enter func27,ntmps27
 go_wp2_with fail
 rw[<-I];go_wp2_with fail
 refine S.mono ?_;rintro e U ⟨v,rfl,hd⟩;have V:∀b,w.heap.size<=b->b<J.heap.size->U.heap[b]?=J.heap[b]?:=fun b h1 h2=>hd.2.choose_spec.2.1.keep.block b h2 (fun hm=>by have:=(h.tx.lt b hm).2;omega)
 obtain⟨K,M,rfl⟩:=aw hd.1;have Y:Blk U (w.heap.size+1) 83 (dG 0):=(V _ (by omega) (by omega)).trans bR
 have O:Blk U (w.heap.size+1+1) 83 (dG 0):=(V _ (by omega) (by omega)).trans bA
 clear S cC lC bC bR bA I V;have b2:Blk ((U.setCell ⟨w.heap.size+1+1,0,none⟩ (.slice K (y.ni x kd l size n).2.2.length M)).setCell ⟨w.heap.size+1+1,4,none⟩ (.int .i64 (y.ni x kd l size n).1)) (w.heap.size+1+1) 83 (bH (.slice K (y.ni x kd l size n).2.2.length M) (.slice none 0 0) ⟨#[]⟩ 0 (y.ni x kd l size n).1):=((O.mG 0 (.slice K (y.ni x kd l size n).2.2.length M)).mG 4 (.int .i64 (y.ni x kd l size n).1));have r2:Blk ((U.setCell ⟨w.heap.size+1+1,0,none⟩ (.slice K (y.ni x kd l size n).2.2.length M)).setCell ⟨w.heap.size+1+1,4,none⟩ (.int .i64 (y.ni x kd l size n).1)) (w.heap.size+1) 83 (dG 0):=((Y.far (p:=⟨w.heap.size+1+1,0,none⟩) (by simp) (.slice K (y.ni x kd l size n).2.2.length M)).far (p:=⟨w.heap.size+1+1,4,none⟩) (by simp) (.int .i64 (y.ni x kd l size n).1))
 have hM:Mid w.heap.size J.heap.size U (((U.setCell ⟨w.heap.size+1+1,0,none⟩ (.slice K (y.ni x kd l size n).2.2.length M)).setCell ⟨w.heap.size+1+1,4,none⟩ (.int .i64 (y.ni x kd l size n).1)).setRow (w.heap.size+1) (bH (.slice K (y.ni x kd l size n).2.2.length M) (.slice none 0 0) ⟨#[]⟩ 0 (y.ni x kd l size n).1)):=Mid.row (((Mid.refl w.heap.size J.heap.size U).mG (p:=⟨w.heap.size+1+1,0,none⟩) (by show w.heap.size<=w.heap.size+1+1;omega) (by show w.heap.size+1+1<J.heap.size;omega) (.slice K (y.ni x kd l size n).2.2.length M)).mG (p:=⟨w.heap.size+1+1,4,none⟩) (by show w.heap.size<=w.heap.size+1+1;omega) (by show w.heap.size+1+1<J.heap.size;omega) (.int .i64 (y.ni x kd l size n).1)) (by omega) (by omega) _
 have ab:=aF (ty:=83) (vs:=bH (.slice K (y.ni x kd l size n).2.2.length M) (.slice none 0 0) ⟨#[]⟩ 0 (y.ni x kd l size n).1) r2 rfl (by simp[Value.oneCell']) (by kernel_rfl)
 have HM:=kD hM;have cA:=O.cells;have fA:=O.free;have lA:=O.lt;have lR:=Y.lt;clear hM;go_wp2_with (refine zsb ab ?_)
 have cF:=(r2.setRow (cs':=bH (.slice K (y.ni x kd l size n).2.2.length M) (.slice none 0 0) ⟨#[]⟩ 0 (y.ni x kd l size n).1)).cells;refine bodyPost_ret (v:=.agg (bH (.slice K (y.ni x kd l size n).2.2.length M) (.slice none 0 0) ⟨#[]⟩ 0 (y.ni x kd l size n).1)) (by simp[results,results27,go_sem,cF]) rfl ?_
 have hM:=HM.out;exact⟨_,rfl,hM.did BA h hd⟩
theorem z8q (T:Nat)(F:List Nat)(D:Nat)(y:TxS)(B:List Nat)(x:DevS)(kd size off n:Int)(A:Option Addr)(c:Nat)(l:List Int)(hl:l.length<=1000)(s:ByteArray)(pv:Value)(ac:-9223372036854775808<=size/\size<=9223372036854775807)(w:World)(h:TD w T F D y B x)(hA:SlI w A c l):
  Calls prog 27 #[.pointer (some ⟨T,0,none⟩),.agg (az 3 kd size off n (.slice A l.length c) s pv)] w (Zq (.agg (bH (.slice none 0 0) (.slice none 0 0) (y.mZ x kd l size off n).1 0 (y.mZ x kd l size off n).2)) w):=by
 obtain⟨J,I⟩:=zex (((w.alloc (.cells (az 3 kd size off n (.slice A l.length c) s pv) 78)).alloc (.cells (dG 0) 83)).alloc (.cells (dG 0) 83));have bC:Blk J w.heap.size 78 (az 3 kd size off n (.slice A l.length c) s pv):=by rw[I];exact zbn
 have bR:Blk J (w.heap.size+1) 83 (dG 0):=by rw[I];exact(Blk.new' (by simp)).alloc _
 have bA:Blk J (w.heap.size+1+1) 83 (dG 0):=by rw[I];exact zbn
 have Y:Zr w J:=by rw[I];exact zgr
 have an:w.heap.size+1+1<J.heap.size:=bA.lt;have M:=z2A T F D y B x kd A c l hl size off n ac J (h.tx.below Y) (h.dev.below Y) (hA.below Y);obtain⟨cC,lC⟩:=bC.zc;go_enter func27,ntmps27
 go_wp2_with fail
 rw[<-I];go_wp2_with fail
 refine M.mono ?_;rintro e O ⟨rfl,V⟩;have S:∀b,w.heap.size<=b->b<J.heap.size->O.heap[b]?=J.heap[b]?:=fun b _ h2=>V.block b h2
 have U:Blk O (w.heap.size+1) 83 (dG 0):=(S _ (by omega) (by omega)).trans bR
 have K:Blk O (w.heap.size+1+1) 83 (dG 0):=(S _ (by omega) (by omega)).trans bA
 clear M cC lC bC bR bA I S;have b2:Blk ((O.setCell ⟨w.heap.size+1+1,2,none⟩ (.string (y.mZ x kd l size off n).1)).setCell ⟨w.heap.size+1+1,4,none⟩ (.int .i64 (y.mZ x kd l size off n).2)) (w.heap.size+1+1) 83 (bH (.slice none 0 0) (.slice none 0 0) (y.mZ x kd l size off n).1 0 (y.mZ x kd l size off n).2):=((K.mG 2 (.string (y.mZ x kd l size off n).1)).mG 4 (.int .i64 (y.mZ x kd l size off n).2));have r2:Blk ((O.setCell ⟨w.heap.size+1+1,2,none⟩ (.string (y.mZ x kd l size off n).1)).setCell ⟨w.heap.size+1+1,4,none⟩ (.int .i64 (y.mZ x kd l size off n).2)) (w.heap.size+1) 83 (dG 0):=((U.far (p:=⟨w.heap.size+1+1,2,none⟩) (by simp) (.string (y.mZ x kd l size off n).1)).far (p:=⟨w.heap.size+1+1,4,none⟩) (by simp) (.int .i64 (y.mZ x kd l size off n).2))
 have hM:Mid w.heap.size J.heap.size O (((O.setCell ⟨w.heap.size+1+1,2,none⟩ (.string (y.mZ x kd l size off n).1)).setCell ⟨w.heap.size+1+1,4,none⟩ (.int .i64 (y.mZ x kd l size off n).2)).setRow (w.heap.size+1) (bH (.slice none 0 0) (.slice none 0 0) (y.mZ x kd l size off n).1 0 (y.mZ x kd l size off n).2)):=Mid.row (((Mid.refl w.heap.size J.heap.size O).mG (p:=⟨w.heap.size+1+1,2,none⟩) (by show w.heap.size<=w.heap.size+1+1;omega) (by show w.heap.size+1+1<J.heap.size;omega) (.string (y.mZ x kd l size off n).1)).mG (p:=⟨w.heap.size+1+1,4,none⟩) (by show w.heap.size<=w.heap.size+1+1;omega) (by show w.heap.size+1+1<J.heap.size;omega) (.int .i64 (y.mZ x kd l size off n).2)) (by omega) (by omega) _
 have ab:=aF (ty:=83) (vs:=bH (.slice none 0 0) (.slice none 0 0) (y.mZ x kd l size off n).1 0 (y.mZ x kd l size off n).2) r2 rfl (by simp[Value.oneCell']) (by kernel_rfl)
 have HM:=kD hM;have cA:=K.cells;have fA:=K.free;have lA:=K.lt;have lR:=U.lt;clear hM;go_wp2_with (refine zsb ab ?_)
 have cF:=(r2.setRow (cs':=bH (.slice none 0 0) (.slice none 0 0) (y.mZ x kd l size off n).1 0 (y.mZ x kd l size off n).2)).cells;refine bodyPost_ret (v:=.agg (bH (.slice none 0 0) (.slice none 0 0) (y.mZ x kd l size off n).1 0 (y.mZ x kd l size off n).2)) (by simp[results,results27,go_sem,cF]) rfl ?_
 have hM:=HM.out;exact⟨rfl,hM.below Y V⟩
theorem z6F (T:Nat)(F:List Nat)(D:Nat)(y:TxS)(B:List Nat)(x:DevS)(kd size off n:Int)(A:Option Addr)(c:Nat)(l:List Int)(hl:l.length<=1000)(s:ByteArray)  (w:World)(h:TD w T F D y B x)(hA:SlI w A c l)(P:Option Addr)(pc:Nat)(ps:List ByteArray)(hm:ps.length<=1000)(ao:∀p∈ps,p.size<=1000000)(hp:Reads w P (ps.map .string))(ac:∀a,P=some a->a.block∉F/\a.block<w.heap.size):
  Calls prog 27 #[.pointer (some ⟨T,0,none⟩),.agg (az 5 kd size off n (.slice A l.length c) s (.slice P ps.length pc))] w fun e w'=>∃v,e=.returned (.agg (bH v (.slice none 0 0) ⟨#[]⟩ 0 (y.mQ x kd l ps).1))/\z3t w T F D B x (y.mQ x kd l ps).2.1 (y.mQ x kd l ps).2.2 v w':=by
 obtain⟨J,I⟩:=zex (((w.alloc (.cells (az 5 kd size off n (.slice A l.length c) s (.slice P ps.length pc)) 78)).alloc (.cells (dG 0) 83)).alloc (.cells (dG 0) 83));have bC:Blk J w.heap.size 78 (az 5 kd size off n (.slice A l.length c) s (.slice P ps.length pc)):=by rw[I];exact zbn
 have bR:Blk J (w.heap.size+1) 83 (dG 0):=by rw[I];exact(Blk.new' (by simp)).alloc _
 have bA:Blk J (w.heap.size+1+1) 83 (dG 0):=by rw[I];exact zbn
 have Y:Zr w J:=by rw[I];exact zgr
 have aL:w.heap.size+1+1<J.heap.size:=bA.lt;have S:=z8s T F D y B x kd A c l hl P pc ps hm ao J (h.below Y) (hA.below Y) (hp.below Y) (fun a e=>⟨(ac a e).1,lh (ac a e).2 Y.size⟩)
 obtain⟨cC,lC⟩:=bC.zc;go_enter func27,ntmps27
 go_wp2_with fail
 rw[<-I];go_wp2_with fail
 refine S.mono ?_;rintro e U ⟨v,rfl,hd⟩;have V:∀b,w.heap.size<=b->b<J.heap.size->U.heap[b]?=J.heap[b]?:=fun b h1 h2=>hd.2.choose_spec.2.1.keep.block b h2 (fun hm=>by have:=(h.tx.lt b hm).2;omega)
 obtain⟨K,M,rfl⟩:=aw hd.1;have ab:Blk U (w.heap.size+1) 83 (dG 0):=(V _ (by omega) (by omega)).trans bR
 have O:Blk U (w.heap.size+1+1) 83 (dG 0):=(V _ (by omega) (by omega)).trans bA
 clear S cC lC bC bR bA I V;have b2:Blk ((U.setCell ⟨w.heap.size+1+1,0,none⟩ (.slice K (y.mQ x kd l ps).2.2.length M)).setCell ⟨w.heap.size+1+1,4,none⟩ (.int .i64 (y.mQ x kd l ps).1)) (w.heap.size+1+1) 83 (bH (.slice K (y.mQ x kd l ps).2.2.length M) (.slice none 0 0) ⟨#[]⟩ 0 (y.mQ x kd l ps).1):=((O.mG 0 (.slice K (y.mQ x kd l ps).2.2.length M)).mG 4 (.int .i64 (y.mQ x kd l ps).1));have r2:Blk ((U.setCell ⟨w.heap.size+1+1,0,none⟩ (.slice K (y.mQ x kd l ps).2.2.length M)).setCell ⟨w.heap.size+1+1,4,none⟩ (.int .i64 (y.mQ x kd l ps).1)) (w.heap.size+1) 83 (dG 0):=((ab.far (p:=⟨w.heap.size+1+1,0,none⟩) (by simp) (.slice K (y.mQ x kd l ps).2.2.length M)).far (p:=⟨w.heap.size+1+1,4,none⟩) (by simp) (.int .i64 (y.mQ x kd l ps).1))
 have hM:Mid w.heap.size J.heap.size U (((U.setCell ⟨w.heap.size+1+1,0,none⟩ (.slice K (y.mQ x kd l ps).2.2.length M)).setCell ⟨w.heap.size+1+1,4,none⟩ (.int .i64 (y.mQ x kd l ps).1)).setRow (w.heap.size+1) (bH (.slice K (y.mQ x kd l ps).2.2.length M) (.slice none 0 0) ⟨#[]⟩ 0 (y.mQ x kd l ps).1)):=Mid.row (((Mid.refl w.heap.size J.heap.size U).mG (p:=⟨w.heap.size+1+1,0,none⟩) (by show w.heap.size<=w.heap.size+1+1;omega) (by show w.heap.size+1+1<J.heap.size;omega) (.slice K (y.mQ x kd l ps).2.2.length M)).mG (p:=⟨w.heap.size+1+1,4,none⟩) (by show w.heap.size<=w.heap.size+1+1;omega) (by show w.heap.size+1+1<J.heap.size;omega) (.int .i64 (y.mQ x kd l ps).1)) (by omega) (by omega) _
 have an:=aF (ty:=83) (vs:=bH (.slice K (y.mQ x kd l ps).2.2.length M) (.slice none 0 0) ⟨#[]⟩ 0 (y.mQ x kd l ps).1) r2 rfl (by simp[Value.oneCell']) (by kernel_rfl)
 have HM:=kD hM;have cA:=O.cells;have fA:=O.free;have lA:=O.lt;have lR:=ab.lt;clear hM;go_wp2_with (refine zsb an ?_)
 have cF:=(r2.setRow (cs':=bH (.slice K (y.mQ x kd l ps).2.2.length M) (.slice none 0 0) ⟨#[]⟩ 0 (y.mQ x kd l ps).1)).cells;refine bodyPost_ret (v:=.agg (bH (.slice K (y.mQ x kd l ps).2.2.length M) (.slice none 0 0) ⟨#[]⟩ 0 (y.mQ x kd l ps).1)) (by simp[results,results27,go_sem,cF]) rfl ?_
 have hM:=HM.out;exact⟨_,rfl,hM.did Y h hd⟩
theorem z8p (T:Nat)(F:List Nat)(D:Nat)(y:TxS)(B:List Nat)(x:DevS)(kd size off n:Int)(A:Option Addr)(c:Nat)(l:List Int)(hl:l.length<=1000)(s:ByteArray)(pv:Value)  (w:World)(h:TD w T F D y B x)(hA:SlI w A c l):
  Calls prog 27 #[.pointer (some ⟨T,0,none⟩),.agg (az 6 kd size off n (.slice A l.length c) s pv)] w fun e w'=>∃v,e=.returned (.agg (bH (.slice none 0 0) v ⟨#[]⟩ 0 (y.mY x kd l).2))/\w'.ownsRow w.heap.size 9 1 v (y.mY x kd l).1.length ((y.mY x kd l).1.map .string)/\Zr w w':=by
 obtain⟨J,I⟩:=zex (((w.alloc (.cells (az 6 kd size off n (.slice A l.length c) s pv) 78)).alloc (.cells (dG 0) 83)).alloc (.cells (dG 0) 83));have bC:Blk J w.heap.size 78 (az 6 kd size off n (.slice A l.length c) s pv):=by rw[I];exact zbn
 have bR:Blk J (w.heap.size+1) 83 (dG 0):=by rw[I];exact(Blk.new' (by simp)).alloc _
 have bA:Blk J (w.heap.size+1+1) 83 (dG 0):=by rw[I];exact zbn
 have Y:Zr w J:=by rw[I];exact zgr
 have ao:w.heap.size+1+1<J.heap.size:=bA.lt;have S:=za1 T F D y B x kd A c l hl J (h.tx.below Y) (h.dev.below Y) (hA.below Y);obtain⟨cC,lC⟩:=bC.zc;go_enter func27,ntmps27
 go_wp2_with fail
 rw[<-I];go_wp2_with fail
 refine S.mono ?_;rintro e U ⟨ac,v,rfl,ho⟩;obtain⟨K,M,rfl⟩:=aw ho;have V:∀b,w.heap.size<=b->b<J.heap.size->U.heap[b]?=J.heap[b]?:=fun b _ h2=>ac.block b h2
 have ab:Blk U (w.heap.size+1) 83 (dG 0):=(V _ (by omega) (by omega)).trans bR
 have O:Blk U (w.heap.size+1+1) 83 (dG 0):=(V _ (by omega) (by omega)).trans bA
 clear S cC lC bC bR bA I V;have b2:Blk ((U.setCell ⟨w.heap.size+1+1,1,none⟩ (.slice K (y.mY x kd l).1.length M)).setCell ⟨w.heap.size+1+1,4,none⟩ (.int .i64 (y.mY x kd l).2)) (w.heap.size+1+1) 83 (bH (.slice none 0 0) (.slice K (y.mY x kd l).1.length M) ⟨#[]⟩ 0 (y.mY x kd l).2):=((O.mG 1 (.slice K (y.mY x kd l).1.length M)).mG 4 (.int .i64 (y.mY x kd l).2));have r2:Blk ((U.setCell ⟨w.heap.size+1+1,1,none⟩ (.slice K (y.mY x kd l).1.length M)).setCell ⟨w.heap.size+1+1,4,none⟩ (.int .i64 (y.mY x kd l).2)) (w.heap.size+1) 83 (dG 0):=((ab.far (p:=⟨w.heap.size+1+1,1,none⟩) (by simp) (.slice K (y.mY x kd l).1.length M)).far (p:=⟨w.heap.size+1+1,4,none⟩) (by simp) (.int .i64 (y.mY x kd l).2))
 have hM:Mid w.heap.size J.heap.size U (((U.setCell ⟨w.heap.size+1+1,1,none⟩ (.slice K (y.mY x kd l).1.length M)).setCell ⟨w.heap.size+1+1,4,none⟩ (.int .i64 (y.mY x kd l).2)).setRow (w.heap.size+1) (bH (.slice none 0 0) (.slice K (y.mY x kd l).1.length M) ⟨#[]⟩ 0 (y.mY x kd l).2)):=Mid.row (((Mid.refl w.heap.size J.heap.size U).mG (p:=⟨w.heap.size+1+1,1,none⟩) (by show w.heap.size<=w.heap.size+1+1;omega) (by show w.heap.size+1+1<J.heap.size;omega) (.slice K (y.mY x kd l).1.length M)).mG (p:=⟨w.heap.size+1+1,4,none⟩) (by show w.heap.size<=w.heap.size+1+1;omega) (by show w.heap.size+1+1<J.heap.size;omega) (.int .i64 (y.mY x kd l).2)) (by omega) (by omega) _
 have an:=aF (ty:=83) (vs:=bH (.slice none 0 0) (.slice K (y.mY x kd l).1.length M) ⟨#[]⟩ 0 (y.mY x kd l).2) r2 rfl (by simp[Value.oneCell']) (by kernel_rfl)
 have HM:=kD hM;have cA:=O.cells;have fA:=O.free;have lA:=O.lt;have lR:=ab.lt;clear hM;go_wp2_with (refine zsb an ?_)
 have cF:=(r2.setRow (cs':=bH (.slice none 0 0) (.slice K (y.mY x kd l).1.length M) ⟨#[]⟩ 0 (y.mY x kd l).2)).cells;refine bodyPost_ret (v:=.agg (bH (.slice none 0 0) (.slice K (y.mY x kd l).1.length M) ⟨#[]⟩ 0 (y.mY x kd l).2)) (by simp[results,results27,go_sem,cF]) rfl ?_
 have hM:=HM.out;exact⟨_,rfl,hM.own Y ho,hM.below Y ac⟩
end Go.Proofs.YtejmknghkbobnaaGreatDoor
