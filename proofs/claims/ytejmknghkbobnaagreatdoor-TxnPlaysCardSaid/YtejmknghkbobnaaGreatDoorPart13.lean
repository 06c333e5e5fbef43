import Derived.Test.YtejmknghkbobnaaGreatDoorPart00
import Derived.Test.YtejmknghkbobnaaGreatDoorPart12
set_option linter.unusedVariables false
set_option linter.unusedSimpArgs false
set_option maxRecDepth 100000
set_option maxHeartbeats 8000000
namespace Go.Proofs.YtejmknghkbobnaaGreatDoor
open Go.Proofs.Tryz
open Go.RowKit Go.Maps
theorem zb5 {q:Int}{l:List Rec}{k:Nat}(hk:k<l.length):(appL q l).getD k default=(l[k].at_,⟨l[k].kind,q,l[k].data⟩):=by
 unfold appL;simp[zhw,hk]
theorem zaZ (D:Nat)(q:Int)(hq:0≤q∧q<4294967296)(wh:Bool)(B:List Nat)(x:DevS)(A:Option Addr)(c:Nat)(l:List Rec)(hok:z37 l)(w:World)(h:DevAt w D B x)(hr:RunAt w A l)(hAB:∀ad,A=some ad→ad.block∉B):
  Calls prog 138 #[.pointer (some ⟨D,0,none⟩),.agg #[.int .u32 q,.slice A l.length c,.bool wh]] w (z1j w D B (x.applies q l)):=by
 have hl1:=hok.1;obtain⟨wA,hA⟩:∃wA,wA=w.alloc (.cells #[.int .u32 q,.slice A l.length c,.bool wh] 216):=⟨_,rfl⟩;have bX:Blk wA w.heap.size 216 #[.int .u32 q,.slice A l.length c,.bool wh]:=by rw[hA];exact(by (repeat' (first|(with_reducible assumption)|exact Blk.new' (by simp)|refine Blk.alloc ?_ _)))
 have BA:Below w.heap.size w wA:=by rw[hA];(repeat' (first|with_reducible (first|exact zho _ _|assumption|refine zhp ?_ ?_ _|refine zhq ?_|refine z00 ?_ _|refine zhr ?_ ?_ _|exact zhT _)|omega|(simp;done)|(simp;omega)))
 have hdA:=h.below BA;have hrA:RunAt wA A l:=Reads.below hr BA;have nX:w.heap.size∉B:=h.far (zhT _);have cX:=bX.cells;have lX:=bX.lt;obtain⟨L,hL⟩:∃L,L=appL (next q) l:=⟨_,rfl⟩;have HL:Hid (x.applies q l=DevS.done (x.puts L l.length)):=zhs (by rw[hL];rfl)
 have HLG:Hid (∀k (hk:k<l.length),L.getD k default=(l[k].at_,⟨l[k].kind,next q,l[k].data⟩)):=zhs (fun k hk=>by rw[hL];exact zb5 hk)
 clear hL;unfold z1j;go_enter func138,ntmps138
 go_wp2_with fail
 rw[←hA];clear hA;go_wp2_with fail
 go_loopw [6,7,11] (fun _ _ i wr=>∃k:Nat,k≤l.length∧i=.int .i64 k∧(x.puts L k).1=0∧∃B',DevAt wr D B' (x.puts L k).2∧Grow wA B wr B') (fun _ _ i _=>l.length - (intOf i).toNat)
 case atStart=>exact⟨0,zi9 _,rfl,rfl,B,hdA,Grow.refl _ _⟩
 case round=>
  obtain⟨k,hk,rfl,h0,B',hd,hg⟩:=hrel;have bXk:=hg.blk bX nX;by_cases hlt:k<l.length
  ·have hrk:RunAt wr A l:=Reads.grow hrA hg hAB;obtain⟨b,off,rfl,hbl,c0,c1,c2⟩:=hrk.at_ hlt;have hsz:=(hok.2 _ (zhQ hlt)).2;have HNX:Hid (x.puts L (k+1)=(x.puts L k).2.put l[k].at_ l[k].kind (next q) l[k].data):=zhs (z4u h0 (HLG.out k hlt));have HFI:Hid ((x.puts L (k+1)).1≠0→x.applies q l=x.puts L (k+1)):=zhs (fun hne=>by rw[HL.out,z4y hne (by omega:k+1≤l.length),z3f hne])
   generalize l[k]=r at *;obtain⟨av,kv,sv⟩:=r;simp only at c0 c1 c2 hsz HNX
   have BX:Below wr.heap.size wr (wr.alloc (.cells #[.int .i64 av,.int .i64 kv,.string sv] 118)):=(zho _ _).alloc (zhT _) _;have hp:=z7K D B' (x.puts L k).2 av kv ((q+1) % 4294967296) sv hsz (by omega) _ (hd.below BX)
   have cXk:=bXk.cells;have lXk:=bXk.lt;obtain⟨p,hpp⟩:∃p,x.puts L (k+1)=p:=⟨_,rfl⟩;have hp':(x.puts L k).2.put av kv ((q+1) % 4294967296) sv=p:=by rw[←hpp,HNX.out];rfl
   rw[hp']at hp;rw[hpp]at HFI;have HP:=zhs hpp;clear hp' hpp HNX h0 hd;go_wp2_with fail
   refine hp.mono ?_;rintro e w1 ⟨rfl,B1,hd1,hg1⟩;have gN:=(hg.trans (Grow.of_below BX _)).trans hg1;clear hp;by_cases hE:p.1=0
   ·have hE':(p.1 != 0)=false:=by simpa using hE
    have HE:=zhs hE;clear hE;go_wp2_with fail
    go_roundw
    case rel=>exact⟨k+1,by omega,by go_num,by rw[HP.out];exact HE.out,B1,by rw[HP.out];exact hd1,gN⟩
    case measure=>simp[intOf];omega
   ·have hE':(p.1 != 0)=true:=by simpa using hE
    have HE:=zhs hE;clear hE;go_wp2_with fail
    go_ret
    rw[HFI.out HE.out];exact⟨rfl,B1,hd1,(Grow.of_below BA B).trans gN⟩
  ·obtain rfl:k=l.length:=by omega
   have HLE:Hid (x.applies q l=(x.puts L l.length).2.flush):=zhs (by rw[HL.out,z2w h0])
   have hfl:=z4g D B' _ wr hd;clear h0;go_wp2_with fail
   refine hfl.mono ?_;rintro e w1 ⟨rfl,hd1,hg1⟩;go_wp2_with fail
   go_ret
   rw[HLE.out];exact⟨rfl,B',hd1,((Grow.of_below BA B).trans hg).trans hg1⟩
end Go.Proofs.YtejmknghkbobnaaGreatDoor
