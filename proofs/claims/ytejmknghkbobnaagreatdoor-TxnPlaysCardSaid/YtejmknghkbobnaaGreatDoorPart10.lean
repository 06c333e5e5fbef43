import Derived.Test.YtejmknghkbobnaaGreatDoorPart00
import Derived.Test.YtejmknghkbobnaaGreatDoorPart09
import Derived.Test.YtejmknghkbobnaaGreatDoorPart07
import Derived.Test.YtejmknghkbobnaaGreatDoorPart04
import Derived.Deep.DeepFit
set_option linter.unusedVariables false
set_option linter.unusedSimpArgs false
set_option maxRecDepth 100000
set_option maxHeartbeats 8000000
namespace Go.Proofs.YtejmknghkbobnaaGreatDoor
open Go.Proofs.Tryz
open Go.RowKit Go.Maps
theorem z8d (n:Nat)(hn:n≤10)(fs:Nat→FuncId)(first cap:Nat→Array Value)(B:Nat)(cs:Array Value)(I:Nat→World→Prop)(Z:Int→World→Prop)
  (hen:∀k,k<n→∀args W,(callFunc (fs k) args).run prog W=.ok (.enter (fs k) args) W)
  (hcs:∀k,k<n→cs[k]?=some (.func (.func (fs k)) (first k) (cap k)))
  (hB:∀k W,k<n→I k W→Blk W B 58 cs)
  (hstep:∀k,k<n→∀W,I k W→Calls prog (fs k) (first k++cap k) W fun e W'=>∃E,e=.returned (.int .i64 E)∧(E=0→I (k+1) W')∧(E≠0→Z E W'))
  (hend:∀W,I n W→Z 0 W) (w:World) (h0:I 0 w):
  Calls prog 114 #[.slice (some ⟨B,0,none⟩) n n] w fun e w'=>∃E,e=.returned (.int .i64 E)∧Z E w':=by
 go_enter func114,ntmps114
 go_wp2_with fail
 go_loopw [2,4,5,8] (fun _ _ _ q wr=>∃k:Nat,k≤n∧q=.int .i64 k∧I k wr) (fun _ _ _ q _=>n - (intOf q).toNat)
 case atStart=>exact⟨0,zi9 _,rfl,h0⟩
 case round=>
  obtain⟨k,hk,rfl,hI⟩:=hrel;by_cases hlt:k<n
  ·have bB:=hB k wr hlt hI;have cB:=bB.cells k;rw[hcs k hlt]at cB;have lB:=bB.lt;have hs:=hstep k hlt wr hI;have he:=hen k hlt;generalize fs k=f at *;clear hB hen hcs hstep;go_wp2_with fail
   refine hs.mono ?_;rintro e W' ⟨E,rfl,h1,h2⟩;by_cases hE:E=0
   ·subst hE;replace h1:=h1 rfl;clear h2 hs hI;go_wp2_with fail
    go_roundw
    case rel=>exact⟨k+1,by omega,by go_num,h1⟩
    case measure=>simp[intOf];omega
   ·have hE':(E != 0)=true:=by simpa using hE
    replace h2:=h2 hE;clear h1 hs hI;go_wp2_with fail
    go_ret
    exact⟨E,rfl,h2⟩
  ·obtain rfl:k=n:=by omega
   have hz:=hend wr hI;go_wp2_with fail
   go_ret
   exact⟨0,rfl,hz⟩
theorem zh0 (f1 f2:FuncId)(a1 c1 a2 c2:Array Value)(B:Nat)(w:World)(J:World→Prop)(Z:Int→World→Prop)
  (e1:∀args W,(callFunc f1 args).run prog W=.ok (.enter f1 args) W) (e2:∀args W,(callFunc f2 args).run prog W=.ok (.enter f2 args) W)
  (b0:Blk w B 58 #[.func (.func f1) a1 c1,.func (.func f2) a2 c2]) (b1:∀W,J W→Blk W B 58 #[.func (.func f1) a1 c1,.func (.func f2) a2 c2])
  (s1:Calls prog f1 (a1++c1) w fun e W'=>∃E,e=.returned (.int .i64 E)∧(E=0→J W')∧(E≠0→Z E W'))
  (s2:∀W,J W→Calls prog f2 (a2++c2) W fun e W'=>∃E,e=.returned (.int .i64 E)∧Z E W'):
  Calls prog 114 #[.slice (some ⟨B,0,none⟩) 2 2] w fun e w'=>∃E,e=.returned (.int .i64 E)∧Z E w':=by
 refine z8d 2 (by omega) (fun k=>if k=0 then f1 else f2) (fun k=>if k=0 then a1 else a2) (fun k=>if k=0 then c1 else c2) B #[.func (.func f1) a1 c1,.func (.func f2) a2 c2] (fun k W=>if k=0 then W=w else if k=1 then J W else Z 0 W) Z ?_ ?_ ?_ ?_ ?_ w rfl
 ·intro k hk;rcases (by omega:k=0∨k=1)with rfl|rfl
  ·exact e1
  ·exact e2
 ·intro k hk;rcases (by omega:k=0∨k=1)with rfl|rfl<;>rfl
 ·intro k W hk hI;rcases (by omega:k=0∨k=1)with rfl|rfl
  ·have hI:W=w:=hI;subst hI;exact b0
  ·exact b1 W hI
 ·intro k hk W hI;rcases (by omega:k=0∨k=1)with rfl|rfl
  ·have hI:W=w:=hI;subst hI;exact s1
  ·refine(s2 W hI).mono ?_;rintro e W' ⟨E,rfl,hz⟩;exact⟨E,rfl,fun h=>by subst h;exact hz,fun _=>hz⟩
 ·exact fun W h=>h
theorem zhf (f1 f2 f3:FuncId)(a1 c1 a2 c2 a3 c3:Array Value)(B:Nat)(w:World)(J K:World→Prop)(Z:Int→World→Prop)
  (e1:∀args W,(callFunc f1 args).run prog W=.ok (.enter f1 args) W) (e2:∀args W,(callFunc f2 args).run prog W=.ok (.enter f2 args) W) (e3:∀args W,(callFunc f3 args).run prog W=.ok (.enter f3 args) W)
  (b0:Blk w B 58 #[.func (.func f1) a1 c1,.func (.func f2) a2 c2,.func (.func f3) a3 c3]) (b1:∀W,J W∨K W→Blk W B 58 #[.func (.func f1) a1 c1,.func (.func f2) a2 c2,.func (.func f3) a3 c3])
  (s1:Calls prog f1 (a1++c1) w fun e W'=>∃E,e=.returned (.int .i64 E)∧(E=0→J W')∧(E≠0→Z E W'))
  (s2:∀W,J W→Calls prog f2 (a2++c2) W fun e W'=>∃E,e=.returned (.int .i64 E)∧(E=0→K W')∧(E≠0→Z E W'))
  (s3:∀W,K W→Calls prog f3 (a3++c3) W fun e W'=>∃E,e=.returned (.int .i64 E)∧Z E W'):
  Calls prog 114 #[.slice (some ⟨B,0,none⟩) 3 3] w fun e w'=>∃E,e=.returned (.int .i64 E)∧Z E w':=by
 refine z8d 3 (by omega) (fun k=>if k=0 then f1 else if k=1 then f2 else f3) (fun k=>if k=0 then a1 else if k=1 then a2 else a3) (fun k=>if k=0 then c1 else if k=1 then c2 else c3) B #[.func (.func f1) a1 c1,.func (.func f2) a2 c2,.func (.func f3) a3 c3] (fun k W=>if k=0 then W=w else if k=1 then J W else if k=2 then K W else Z 0 W) Z ?_ ?_ ?_ ?_ ?_ w rfl
 ·intro k hk;rcases (by omega:k=0∨k=1∨k=2)with rfl|rfl|rfl
  ·exact e1
  ·exact e2
  ·exact e3
 ·intro k hk;rcases (by omega:k=0∨k=1∨k=2)with rfl|rfl|rfl<;>rfl
 ·intro k W hk hI;rcases (by omega:k=0∨k=1∨k=2)with rfl|rfl|rfl
  ·have hI:W=w:=hI;subst hI;exact b0
  ·exact b1 W (.inl hI)
  ·exact b1 W (.inr hI)
 ·intro k hk W hI;rcases (by omega:k=0∨k=1∨k=2)with rfl|rfl|rfl
  ·have hI:W=w:=hI;subst hI;exact s1
  ·exact s2 W hI
  ·refine(s3 W hI).mono ?_;rintro e W' ⟨E,rfl,hz⟩;exact⟨E,rfl,fun h=>by subst h;exact hz,fun _=>hz⟩
 ·exact fun W h=>h
theorem z2X:prog.built 128 []=some (z03 zsec):=by kernel_rfl
theorem z68 {x:DevS}{a:Int}{k m:Nat}(h:(x.blanks a k).1≠0)(hm:k≤m):x.blanks a m=x.blanks a k:=by
 induction m with
 | zero=>
  have e:k=0:=by omega
  rw[e]
 | succ m ih=>
  by_cases e:k=m+1
  ·rw[e]
  ·have ih:=ih (by omega)
   show (if (x.blanks a m).1≠0 then x.blanks a m else _)=_
   rw[ih,if_pos h]
theorem z7q (F Z:Int)(w:World):
  Calls prog 116 #[.agg #[.int .i64 F,.int .i64 Z]] w fun e w'=>e=.returned (.int .i64 (z0p F Z))∧Below w.heap.size w w':=by
 by_cases a1:Z<8
 rotate_left;by_cases a2:96<Z
 rotate_left;by_cases a3:F<0
 rotate_left;by_cases a4:256 - Z<F
 rotate_left
 all_goals
  first
   | (have HE:Hid (z0p F Z=0):=zhs (by unfold z0p;rw[if_neg (by omega)]))
   | (have HE:Hid (z0p F Z=7):=zhs (by unfold z0p;rw[if_pos (by omega)]))
  go_enter func116,ntmps116
  (try (have hw:IntKind.i64.wrap (256 - Z)=256 - Z:=by rw[IntKind.wrap_i64];omega))
  go_wp2_with fail
  go_ret
  exact⟨by rw[HE.out];rfl,by (repeat' (first|with_reducible (first|exact zho _ _|assumption|refine zhp ?_ ?_ _|refine zhq ?_|refine z00 ?_ _|refine zhr ?_ ?_ _|exact zhT _)|omega|(simp;done)|(simp;omega)))⟩
def z1j (w:World)(D:Nat)(F:List Nat)(p:Int × DevS)(e:Ending)(w':World):Prop:=e=.returned (.int .i64 p.1)∧∃F',DevAt w' D F' p.2∧Grow w F w' F'
theorem zha (J:Nat)(F Z:Int)(w:World)(bJ:Blk w J 109 #[.int .i64 F,.int .i64 Z]):
  Calls prog 115 #[.pointer (some ⟨J,0,none⟩)] w fun e w'=>e=.returned (.int .i64 (z0p F Z))∧Below w.heap.size w w':=by
 have cJ:=bJ.cells;have lJ:=bJ.lt;go_enter func115,ntmps115
 go_wp2_with fail
 refine(z7q F Z w).mono ?_;rintro e w1 ⟨rfl,hb⟩;go_wp2_with fail
 go_ret
 exact⟨rfl,hb⟩
theorem zhk (D PD J:Nat)(F Z:Int)(B:List Nat)(x:DevS)(w:World)(h:DevAt w D B x)(bP:Blk w PD 27 #[.pointer (some ⟨D,0,none⟩)])(bJ:Blk w J 109 #[.int .i64 F,.int .i64 Z]):
  Calls prog 117 #[.pointer (some ⟨PD,0,none⟩),.pointer (some ⟨J,0,none⟩)] w (z1j w D B (x.put F 1 0 ⟨#[]⟩)):=by
 have cJ:=bJ.cells;have lJ:=bJ.lt;have cP:=bP.cells;have lP:=bP.lt;have hp:=z7K D B x F 1 0 ⟨#[]⟩ (by decide) (by omega) w h
 unfold z1j;go_enter func117,ntmps117
 go_wp2_with fail
 refine hp.mono ?_;rintro e w1 ⟨rfl,hd⟩;go_wp2_with fail
 go_ret
 exact⟨rfl,hd⟩
theorem zhi (D PD J:Nat)(F Z:Int)(hc:z0p F Z=0)(B:List Nat)(x:DevS)(w:World)(h:DevAt w D B x)(bP:Blk w PD 27 #[.pointer (some ⟨D,0,none⟩)])(nP:PD∉B)(bJ:Blk w J 109 #[.int .i64 F,.int .i64 Z])(nJ:J∉B):
  Calls prog 119 #[.pointer (some ⟨J,0,none⟩),.pointer (some ⟨PD,0,none⟩)] w (z1j w D B (x.blanks (F+1) (Z - 1).toNat)):=by
 have hFZ:8≤Z∧Z≤96∧0≤F∧F≤256 - Z:=by unfold z0p at hc;split at hc<;>omega
 clear hc;obtain⟨z,rfl⟩:=Int.eq_ofNat_of_zero_le (show 0≤Z by omega)
 unfold z1j;have hbz:∀w:World,(Instr.build 128 #[]).run prog w=.ok (.agg (z03 zsec)) w:=fun w=>run_build w _ _ _ z2X
 rw[show (((z:Int) - 1).toNat)=z - 1 by omega]
 have lP:=bP.lt;have lJ:=bJ.lt;go_enter func119,ntmps119
 go_wp2_with fail
 go_loopw [3,4] (fun q _ wr=>∃k:Nat,k+1≤z∧q=.int .i64 ((k:Int)+1)∧(x.blanks (F+1) k).1=0∧∃B',DevAt wr D B' (x.blanks (F+1) k).2∧Grow w B wr B') (fun q _ _=>z - (intOf q).toNat)
 case atStart=>exact⟨0,by omega,rfl,rfl,B,h,Grow.refl _ _⟩
 case round=>
  obtain⟨k,hk,rfl,h0,B',hd,hg⟩:=hrel;have bP':=hg.blk bP nP;have bJ':=hg.blk bJ nJ;have cP:=bP'.cells;have lP':=bP'.lt;have cJ:=bJ'.cells;have lJ':=bJ'.lt;by_cases hlt:k+1<z
  ·have hst:x.blanks (F+1) (k+1)=(x.blanks (F+1) k).2.write (F+((k:Int)+1)) zsec:=by
    show (if (x.blanks (F+1) k).1≠0 then _ else _)=_
    rw[if_neg (by rw[h0];simp),show F+1+(k:Int)=F+((k:Int)+1) by omega]
   have hwr:=z9j D B' (x.blanks (F+1) k).2 (F+((k:Int)+1)) zsec ⟨z07,z29⟩ wr hd;rw[←hst]at hwr;have hfin:(x.blanks (F+1) (k+1)).1≠0→x.blanks (F+1) (z - 1)=x.blanks (F+1) (k+1):=fun hne=>z68 hne (by omega)
   generalize hp:x.blanks (F+1) (k+1)=p at *;have HP:=zhs hp;clear hp;clear hst h0 hd;have hlt':(k:Int)+1<z:=by omega
   have HF:=zhs hfin;clear hfin;go_wp2_with fail
   refine hwr.mono ?_;rintro e w1 ⟨rfl,B1,hd1,hg1⟩;by_cases hE:p.1=0
   ·have hE':(p.1 != 0)=false:=by simpa using hE
    have HE:=zhs hE;clear hE;go_wp2_with fail
    go_roundw
    case rel=>exact⟨k+1,by omega,by go_num,by rw[HP.out];exact HE.out,B1,by rw[HP.out];exact hd1,hg.trans hg1⟩
    case measure=>simp[intOf];omega
   ·have hE':(p.1 != 0)=true:=by simpa using hE
    go_wp2_with fail
    go_ret
    rw[HF.out hE];exact⟨rfl,B1,hd1,hg.trans hg1⟩
  ·obtain rfl:z=k+1:=by omega
   go_wp2_with fail
   go_ret
   exact⟨by rw[Nat.add_sub_cancel,h0];rfl,B',hd,hg⟩
def Stay (wA:World)(D:Nat)(B:List Nat)(W:World)(x:DevS):Prop:=∃B',DevAt W D B' x∧Grow wA B W B'
theorem Stay.refl {w:World}{D:Nat}{B:List Nat}{x:DevS}(h:DevAt w D B x):Stay w D B w x:=⟨B,h,Grow.refl _ _⟩
theorem Stay.open_ {wA W:World}{D:Nat}{B:List Nat}{x:DevS}(h:Stay wA D B W x):∃B',DevAt W D B' x∧Grow wA B W B'∧(∀g t cs,Blk wA g t cs→g∉B→Blk W g t cs∧g∉B'):=by
 obtain⟨B',h1,h2⟩:=h;exact⟨B',h1,h2,fun g t cs b hg=>⟨h2.blk b hg,h2.notin hg b.lt⟩⟩
theorem Stay.blk {wA W:World}{D:Nat}{B:List Nat}{x:DevS}(h:Stay wA D B W x){g:Nat}{t:TypeId}{cs:Array Value}(b:Blk wA g t cs)(hg:g∉B):Blk W g t cs:=by
 obtain⟨B',h1,h2⟩:=h;exact h2.blk b hg
theorem Stay.then_ {wA W W':World}{D:Nat}{B B':List Nat}{x:DevS}(g:Grow wA B W B')(h:∃B'',DevAt W' D B'' x∧Grow W B' W' B''):Stay wA D B W' x:=by
 obtain⟨B'',h1,h2⟩:=h;exact⟨B'',h1,g.trans h2⟩
theorem Stay.below {wA W W':World}{D:Nat}{B:List Nat}{x:DevS}(h:Stay wA D B W x)(hb:Below W.heap.size W W'):Stay wA D B W' x:=by
 obtain⟨B',h1,h2⟩:=h;exact⟨B',h1.below hb,h2.trans (Grow.of_below hb B')⟩
theorem Stay.did {w wA W:World}{D:Nat}{B:List Nat}{x:DevS}(hb:Below w.heap.size w wA)(h:Stay wA D B W x):∃B',DevAt W D B' x∧Grow w B W B':=by
 obtain⟨B',h1,h2⟩:=h;exact⟨B',h1,(Grow.of_below hb B).trans h2⟩
def z7Y (f:FuncId)(first cap:Array Value):Value:=.func (.func f) first cap
theorem z1Z {f:FuncId}{args args':Array Value}{w:World}{R R':Ending→World→Prop}(h:Calls prog f args w R)(e:args=args')(hR:∀e w',R e w'→R' e w'):Calls prog f args' w R':=by
 subst e;exact h.mono hR
theorem z9T (D:Nat)(F Z:Int)(B:List Nat)(x:DevS)(w:World)(h:DevAt w D B x):
  Calls prog 49 #[.pointer (some ⟨D,0,none⟩),.agg #[.int .i64 F,.int .i64 Z]] w (z1j w D B (x.jfmt F Z)):=by
 have hmf:∀(fn:Fn) (first cap:Array Value) (w:World),(Instr.makeFunc fn first cap).run prog w=.ok (.func fn first cap) w:=fun _ _ _ _=>rfl
 obtain⟨wA,hA⟩:∃wA,wA=((w.alloc (.cells #[.pointer (some ⟨D,0,none⟩)] 27)).alloc (.cells #[.int .i64 F,.int .i64 Z] 109)).alloc (.cells #[z7Y 115 #[] #[.pointer (some ⟨w.heap.size+1,0,none⟩)],z7Y 117 #[] #[.pointer (some ⟨w.heap.size,0,none⟩),.pointer (some ⟨w.heap.size+1,0,none⟩)],z7Y 119 #[] #[.pointer (some ⟨w.heap.size+1,0,none⟩),.pointer (some ⟨w.heap.size,0,none⟩)],z7Y 121 #[.pointer (some ⟨D,0,none⟩)] #[]] 58):=⟨_,rfl⟩;have bP:Blk wA w.heap.size 27 #[.pointer (some ⟨D,0,none⟩)]:=by rw[hA];exact(by (repeat' (first|(with_reducible assumption)|exact Blk.new' (by simp)|refine Blk.alloc ?_ _)))
 have bJ:Blk wA (w.heap.size+1) 109 #[.int .i64 F,.int .i64 Z]:=by rw[hA];exact(by (repeat' (first|(with_reducible assumption)|exact Blk.new' (by simp)|refine Blk.alloc ?_ _)))
 have bS:=by have:=Blk.new' (w:=(w.alloc (.cells #[.pointer (some ⟨D,0,none⟩)] 27)).alloc (.cells #[.int .i64 F,.int .i64 Z] 109)) (t:=58) (cs:=#[z7Y 115 #[] #[.pointer (some ⟨w.heap.size+1,0,none⟩)],z7Y 117 #[] #[.pointer (some ⟨w.heap.size,0,none⟩),.pointer (some ⟨w.heap.size+1,0,none⟩)],z7Y 119 #[] #[.pointer (some ⟨w.heap.size+1,0,none⟩),.pointer (some ⟨w.heap.size,0,none⟩)],z7Y 121 #[.pointer (some ⟨D,0,none⟩)] #[]]) (g:=w.heap.size+2) (by simp);rw[←hA]at this;exact this
 have hb:Below w.heap.size w wA:=by rw[hA];(repeat' (first|with_reducible (first|exact zho _ _|assumption|refine zhp ?_ ?_ _|refine zhq ?_|refine z00 ?_ _|refine zhr ?_ ?_ _|exact zhT _)|omega|(simp;done)|(simp;omega)))
 have nP:w.heap.size∉B:=h.far (zhT _);have nJ:w.heap.size+1∉B:=h.far (by omega)
 have nS:w.heap.size+2∉B:=h.far (by omega)
 have h0:Stay wA D B wA x:=Stay.refl (h.below hb);have hthen:=z8d 4 (by omega) (fun k=>[115,117,119,121].getD k 0) (fun k=>[#[],#[],#[],#[.pointer (some ⟨D,0,none⟩)]].getD k #[]) (fun k=>[#[.pointer (some ⟨w.heap.size+1,0,none⟩)],#[.pointer (some ⟨w.heap.size,0,none⟩),.pointer (some ⟨w.heap.size+1,0,none⟩)],#[.pointer (some ⟨w.heap.size+1,0,none⟩),.pointer (some ⟨w.heap.size,0,none⟩)],#[]].getD k #[]) (w.heap.size+2) _
  (fun k W=>Stay wA D B W ([x,x,(x.put F 1 0 ⟨#[]⟩).2,((x.put F 1 0 ⟨#[]⟩).2.blanks (F+1) (Z - 1).toNat).2,((x.put F 1 0 ⟨#[]⟩).2.blanks (F+1) (Z - 1).toNat).2.flush.2].getD k x)∧(1≤k→z0p F Z=0)∧(2≤k→(x.put F 1 0 ⟨#[]⟩).1=0)∧(3≤k→((x.put F 1 0 ⟨#[]⟩).2.blanks (F+1) (Z - 1).toNat).1=0)∧(4≤k→((x.put F 1 0 ⟨#[]⟩).2.blanks (F+1) (Z - 1).toNat).2.flush.1=0))
  (fun E W=>E=(x.jfmt F Z).1∧Stay wA D B W (x.jfmt F Z).2)
  (by
   intro k hk args W;rcases (by omega:k=0∨k=1∨k=2∨k=3)with rfl|rfl|rfl|rfl<;>kernel_rfl)
  (by
   intro k hk;rcases (by omega:k=0∨k=1∨k=2∨k=3)with rfl|rfl|rfl|rfl<;>rfl)
  (fun k W hk hI=>hI.1.blk bS nS)
  (by
   intro k hk W hI;obtain⟨hs,h1,h2,h3,h4⟩:=hI;obtain⟨B',hd,hg,hbl⟩:=hs.open_;obtain⟨bP',nP'⟩:=hbl _ _ _ bP nP;obtain⟨bJ',nJ'⟩:=hbl _ _ _ bJ nJ;rcases (by omega:k=0∨k=1∨k=2∨k=3)with rfl|rfl|rfl|rfl
   ·refine z1Z (zha _ F Z W bJ') rfl ?_;rintro e W' ⟨rfl,hb'⟩;refine⟨_,rfl,fun hE=>⟨hs.below hb',fun _=>hE,by omega,by omega,by omega⟩,fun hE=>?_⟩
    unfold DevS.jfmt;rw[if_pos hE];exact⟨rfl,hs.below hb'⟩
   ·refine z1Z (zhk D _ _ F Z B' x W hd bP' bJ') rfl ?_;rintro e W' ⟨rfl,hd'⟩;refine⟨_,rfl,fun hE=>⟨Stay.then_ hg hd',fun _=>h1 (by omega),fun _=>hE,by omega,by omega⟩,fun hE=>?_⟩
    unfold DevS.jfmt;rw[if_neg (by rw[h1 (by omega)];simp),if_pos hE]
    exact⟨rfl,Stay.then_ hg hd'⟩
   ·refine z1Z (zhi D _ _ F Z (h1 (by omega)) B' (x.put F 1 0 ⟨#[]⟩).2 W hd bP' nP' bJ' nJ') rfl ?_
    rintro e W' ⟨rfl,hd'⟩;refine⟨_,rfl,fun hE=>⟨Stay.then_ hg hd',fun _=>h1 (by omega),fun _=>h2 (by omega),fun _=>hE,by omega⟩,fun hE=>?_⟩
    unfold DevS.jfmt;rw[if_neg (by rw[h1 (by omega)];simp),if_neg (by rw[h2 (by omega)];simp),if_pos hE]
    exact⟨rfl,Stay.then_ hg hd'⟩
   ·refine z1Z (z4g D B' ((x.put F 1 0 ⟨#[]⟩).2.blanks (F+1) (Z - 1).toNat).2 W hd) rfl ?_;rintro e W' ⟨rfl,hd',hg'⟩;refine⟨_,rfl,fun hE=>⟨Stay.then_ hg ⟨_,hd',hg'⟩,fun _=>h1 (by omega),fun _=>h2 (by omega),fun _=>h3 (by omega),fun _=>hE⟩,fun hE=>?_⟩
    unfold DevS.jfmt;rw[if_neg (by rw[h1 (by omega)];simp),if_neg (by rw[h2 (by omega)];simp),if_neg (by rw[h3 (by omega)];simp)]
    exact⟨rfl,Stay.then_ hg ⟨_,hd',hg'⟩⟩)
  (by
   rintro W ⟨hs,h1,h2,h3,h4⟩;unfold DevS.jfmt;rw[if_neg (by rw[h1 (by omega)];simp),if_neg (by rw[h2 (by omega)];simp),if_neg (by rw[h3 (by omega)];simp)]
   exact⟨(h4 (by omega)).symm,hs⟩)
  wA ⟨h0,by omega,by omega,by omega,by omega⟩
 unfold z1j;clear h0 nP nJ nS bP bJ bS;go_enter func49,ntmps49
 go_wp2_with fail
 unfold z7Y at hA;rw[←hA];refine hthen.mono ?_;rintro e w' ⟨E,rfl,rfl,hs⟩;go_wp2_with fail
 go_ret
 exact⟨rfl,hs.did hb⟩
theorem z4h (D:Nat)(B:List Nat)(x:DevS)(a:Int)(w:World)(h:DevAt w D B x):
  Calls prog 98 #[.pointer (some ⟨D,0,none⟩),.int .i64 a] w fun e w'=>Below w.heap.size w w'∧e=.returned (.tuple #[.agg #[.int .i64 (x.fr a).kind,.int .u32 (x.fr a).seq,.string (x.fr a).data],.int .i64 (x.ge a)]):=by
 have:=zgd D B x a w h
 rw[zfB]at this;exact this
theorem zfE (x:DevS)(a:Int):0≤(x.fr a).seq∧(x.fr a).seq<4294967296:=by
 unfold DevS.fr;split
 ·exact z2I _ _ _
 ·exact⟨by decide,by decide⟩
theorem z4j {s:ByteArray}:s.toList.isEmpty=true↔s=⟨#[]⟩:=by
 rw[←decide_eq_emptyBytes s,decide_eq_true_iff];exact Iff.rfl
theorem z85 (D:Nat)(F Z:Int)(B:List Nat)(x:DevS)(w:World)(h:DevAt w D B x):
  Calls prog 187 #[.pointer (some ⟨D,0,none⟩),.agg #[.int .i64 F,.int .i64 Z]] w fun e w'=>e=.returned (.tuple #[.int .u32 (x.head F Z).2,.int .i64 (x.head F Z).1])∧Below w.heap.size w w':=by
 have hck:=z7q F Z (w.alloc (.cells #[.int .i64 F,.int .i64 Z] 109));have bJ:Blk (w.alloc (.cells #[.int .i64 F,.int .i64 Z] 109)) w.heap.size 109 #[.int .i64 F,.int .i64 Z]:=Blk.new _ _ _;by_cases hc:z0p F Z=0
 rotate_left
 ·have HH:Hid (x.head F Z=(z0p F Z,0)):=zhs (by unfold DevS.head;rw[if_pos hc])
  generalize z0p F Z=E at *;have hc':(E != 0)=true:=by simpa using hc
  clear bJ hc;go_enter func187,ntmps187
  go_wp2_with fail
  refine hck.mono ?_;rintro e w1 ⟨rfl,hb⟩;go_wp2_with fail
  go_ret2
  exact⟨by rw[HH.out];rfl,z1E hb⟩
 have HH0:Hid (x.head F Z=if x.ge F≠0 then (x.ge F,0)else if (x.fr F).kind≠1∨(x.fr F).data≠⟨#[]⟩then (6,0)else (0,(x.fr F).seq)):=zhs (by unfold DevS.head;rw[if_neg (by rw[hc];simp)])
 rw[hc]at hck;clear hc;go_enter func187,ntmps187
 go_wp2_with fail
 refine hck.mono ?_;rintro e w1 ⟨rfl,hb⟩;have bJ1:=bJ.belowAll hb;have cJ:=bJ1.cells;have lJ:=bJ1.lt;have h1:=h.below (z1E hb);have B1:=z1E hb;clear hb bJ;go_wp2_with fail
 refine(z4h D B x F w1 h1).mono ?_;rintro e w2 ⟨hb2,rfl⟩;have B2:=B1.trans (hb2.mono B1.size);have Z2:=B2.size;clear hb2 B1 h1 hck cJ lJ;generalize x.ge F=E at *;generalize x.fr F=f at *;by_cases hE:E=0
 rotate_left
 ·have HH:Hid (x.head F Z=(E,0)):=zhs (by rw[HH0.out,if_pos hE])
  have hE':(E != 0)=true:=by simpa using hE
  clear hE HH0;go_wp2_with fail
  go_ret2
  exact⟨by rw[HH.out];rfl,by (repeat' (first|with_reducible (first|exact zho _ _|assumption|refine zhp ?_ ?_ _|refine zhq ?_|refine z00 ?_ _|refine zhr ?_ ?_ _|exact zhT _)|omega|(simp;done)|(simp;omega)))⟩
 subst hE;by_cases hk:f.kind=1
 ·by_cases hd:f.data=⟨#[]⟩
  ·have HH:Hid (x.head F Z=(0,f.seq)):=zhs (by rw[HH0.out,if_neg (by simp),if_neg (by simp[hk,hd])])
   have hk':(f.kind != 1)=false:=by simpa using hk
   have hd':f.data.toList.isEmpty=true:=z4j.2 hd;clear hk hd HH0;go_wp2_with fail
   go_ret2
   exact⟨by rw[HH.out];rfl,by (repeat' (first|with_reducible (first|exact zho _ _|assumption|refine zhp ?_ ?_ _|refine zhq ?_|refine z00 ?_ _|refine zhr ?_ ?_ _|exact zhT _)|omega|(simp;done)|(simp;omega)))⟩
  ·have HH:Hid (x.head F Z=(6,0)):=zhs (by rw[HH0.out,if_neg (by simp),if_pos (by simp[hd])])
   have hk':(f.kind != 1)=false:=by simpa using hk
   have hd':f.data.toList.isEmpty=false:=by rw[Bool.eq_false_iff];exact fun h=>hd (z4j.1 h)
   clear hk hd HH0;go_wp2_with fail
   go_ret2
   exact⟨by rw[HH.out];rfl,by (repeat' (first|with_reducible (first|exact zho _ _|assumption|refine zhp ?_ ?_ _|refine zhq ?_|refine z00 ?_ _|refine zhr ?_ ?_ _|exact zhT _)|omega|(simp;done)|(simp;omega)))⟩
 ·have HH:Hid (x.head F Z=(6,0)):=zhs (by rw[HH0.out,if_neg (by simp),if_pos (by simp[hk])])
  have hk':(f.kind != 1)=true:=by simpa using hk
  clear hk HH0;go_wp2_with fail
  go_ret2
  exact⟨by rw[HH.out];rfl,by (repeat' (first|with_reducible (first|exact zho _ _|assumption|refine zhp ?_ ?_ _|refine zhq ?_|refine z00 ?_ _|refine zhr ?_ ?_ _|exact zhT _)|omega|(simp;done)|(simp;omega)))⟩
theorem zgY (A:Option Addr)(c:Nat)(xs:List Int)(hl:xs.length≤1000000)(v:Int)(w:World)(hX:Reads w A (xs.map (.int .i64))):
  Calls prog 241 #[.slice A xs.length c,.int .i64 v] w fun e w'=>(∃i:Int,e=.returned (.int .i64 i)∧decide (0≤i)=decide (v∈xs))∧w'=w:=by
 go_enter func241,ntmps241
 go_wp2_with fail
 go_loopw [4,5,8] (fun _ _ q wr=>∃k:Nat,k≤xs.length∧q=.int .i64 k∧(∀j,j<k→xs.getD j 0≠v)∧wr=w) (fun _ _ q _=>xs.length - (intOf q).toNat)
 case atStart=>exact⟨0,zi9 _,rfl,fun j h=>absurd h (by omega),rfl⟩
 case round=>
  obtain⟨k,hk,rfl,hne,hw⟩:=hrel;subst hw;by_cases hlt:k<xs.length
  ·obtain⟨b,off,rfl,hb,hc⟩:=hX.at_ (k:=k) (by simpa using hlt)
   rw[List.getElem_map]at hc;by_cases he:v=xs[k]
   ·have hm:v∈xs:=by rw[he];exact zhQ hlt
    have he':(v==xs[k])=true:=by simpa using he
    generalize xs[k]=y at hc he';have HM:=zhs hm;clear he hm hne;go_wp2_with fail
    go_ret
    exact⟨⟨k,rfl,by simp[HM.out]⟩,rfl⟩
   ·have he':(v==xs[k])=false:=by simpa using he
    have hs:Hid (∀j,j<k+1→xs.getD j 0≠v):=zhs (by
     intro j hj;by_cases e:j=k
     ·subst e;simp[zhw,hlt];exact fun h=>he h.symm
     ·exact hne j (by omega))
    generalize xs[k]=y at hc he';clear he hne;go_wp2_with fail
    go_roundw
    case rel=>exact⟨k+1,by omega,by go_num,hs.out,by first|trivial|rfl⟩
    case measure=>simp[intOf];omega
  ·obtain rfl:k=xs.length:=by omega
   have hm:v∉xs:=by
    intro h;obtain⟨i,hi,rfl⟩:=List.mem_iff_getElem.1 h;exact hne i hi (by simp[zhw,hi])
   have HM:=zhs hm;clear hm hne;go_wp2_with fail
   go_ret
   exact⟨⟨-1,rfl,by simp[HM.out]⟩,rfl⟩
theorem zdl (A:Option Addr)(c:Nat)(xs:List Int)(hl:xs.length≤1000000)(v:Int)(w:World)(hX:Reads w A (xs.map (.int .i64))):
  Calls prog 246 #[.slice A xs.length c,.int .i64 v] w fun e w'=>(∃i:Int,e=.returned (.int .i64 i)∧decide (0≤i)=decide (v∈xs))∧w'=w:=by
 go_enter func246,ntmps246
 go_wp2_with fail
 go_loopw [4,5,8] (fun _ _ q wr=>∃k:Nat,k≤xs.length∧q=.int .i64 k∧(∀j,j<k→xs.getD j 0≠v)∧wr=w) (fun _ _ q _=>xs.length - (intOf q).toNat)
 case atStart=>exact⟨0,zi9 _,rfl,fun j h=>absurd h (by omega),rfl⟩
 case round=>
  obtain⟨k,hk,rfl,hne,hw⟩:=hrel;subst hw;by_cases hlt:k<xs.length
  ·obtain⟨b,off,rfl,hb,hc⟩:=hX.at_ (k:=k) (by simpa using hlt)
   rw[List.getElem_map]at hc;by_cases he:v=xs[k]
   ·have hm:v∈xs:=by rw[he];exact zhQ hlt
    have he':(v==xs[k])=true:=by simpa using he
    generalize xs[k]=y at hc he';have HM:=zhs hm;clear he hm hne;go_wp2_with fail
    go_ret
    exact⟨⟨k,rfl,by simp[HM.out]⟩,rfl⟩
   ·have he':(v==xs[k])=false:=by simpa using he
    have hs:Hid (∀j,j<k+1→xs.getD j 0≠v):=zhs (by
     intro j hj;by_cases e:j=k
     ·subst e;simp[zhw,hlt];exact fun h=>he h.symm
     ·exact hne j (by omega))
    generalize xs[k]=y at hc he';clear he hne;go_wp2_with fail
    go_roundw
    case rel=>exact⟨k+1,by omega,by go_num,hs.out,by first|trivial|rfl⟩
    case measure=>simp[intOf];omega
  ·obtain rfl:k=xs.length:=by omega
   have hm:v∉xs:=by
    intro h;obtain⟨i,hi,rfl⟩:=List.mem_iff_getElem.1 h;exact hne i hi (by simp[zhw,hi])
   have HM:=zhs hm;clear hm hne;go_wp2_with fail
   go_ret
   exact⟨⟨-1,rfl,by simp[HM.out]⟩,rfl⟩
theorem z9a (A:Option Addr)(c:Nat)(xs:List Int)(hl:xs.length≤1000000)(v:Int)(w:World)(hX:Reads w A (xs.map (.int .i64))):
  Calls prog 228 #[.slice A xs.length c,.int .i64 v] w fun e w'=>e=.returned (.bool (decide (v∈xs)))∧w'=w:=by
 go_enter func228,ntmps228
 go_wp2_with fail
 refine(zdl A c xs hl v w hX).mono ?_;rintro e w1 ⟨⟨i,rfl,hi⟩,rfl⟩;go_wp2_with fail
 go_ret
 exact⟨by rw[←hi];rfl,rfl⟩
theorem z7i (F Z a:Int)(h:0≤F∧F≤256∧0≤Z∧Z≤256)(w:World):
  Calls prog 225 #[.agg #[.int .i64 F,.int .i64 Z],.int .i64 a] w fun e w'=>e=.returned (.bool (z0U F Z a))∧Below w.heap.size w w':=by
 have hw:IntKind.i64.wrap (F+Z)=F+Z:=by rw[IntKind.wrap_i64];omega
 by_cases a1:a<F
 rotate_left;by_cases a2:a<F+Z
 rotate_left
 all_goals
  first
   | (have HE:Hid (z0U F Z a=true):=zhs (by unfold z0U;simp;omega))
   | (have HE:Hid (z0U F Z a=false):=zhs (by unfold z0U;simp;omega))
  go_enter func225,ntmps225
  go_wp2_with fail
  go_ret
  exact⟨by rw[HE.out];rfl,by (repeat' (first|with_reducible (first|exact zho _ _|assumption|refine zhp ?_ ?_ _|refine zhq ?_|refine z00 ?_ _|refine zhr ?_ ?_ _|exact zhT _)|omega|(simp;done)|(simp;omega)))⟩
theorem z8i (F Z:Int)(h:0≤Z∧Z≤256)(w:World):
  Calls prog 201 #[.agg #[.int .i64 F,.int .i64 Z]] w fun e w'=>e=.returned (.int .i64 (z0Z Z))∧Below w.heap.size w w':=by
 have hw:IntKind.i64.wrap (Z - 2)=Z - 2:=by rw[IntKind.wrap_i64];omega
 unfold z0Z;go_enter func201,ntmps201
 go_wp2_with fail
 go_ret
 exact⟨rfl,by (repeat' (first|with_reducible (first|exact zho _ _|assumption|refine zhp ?_ ?_ _|refine zhq ?_|refine z00 ?_ _|refine zhr ?_ ?_ _|exact zhT _)|omega|(simp;done)|(simp;omega)))⟩
theorem z3z (n:Int)(w:World):
  Calls prog 190 #[.int .i64 n] w fun e w'=>e=.returned (.string (z0k n))∧Below w.heap.size w w':=by
 have bS:Blk (w.alloc (.cells #[.int .u8 (n % 256),.int .u8 (n / 256 % 256)] 5)) w.heap.size 5 #[.int .u8 (n % 256),.int .u8 (n / 256 % 256)]:=Blk.new _ _ _;have hR:Reads (w.alloc (.cells #[.int .u8 (n % 256),.int .u8 (n / 256 % 256)] 5)) (some ⟨w.heap.size,0,none⟩) ([n % 256,n / 256 % 256].map (Value.int .u8)):=.inr ⟨_,0,rfl,bS.lt,fun j u hu=>by rw[zi8,bS.cells];simpa using hu⟩
 have hcv:=z1T _ 2 2 _ rfl _ hR;have HS:Hid (strOfNums [n % 256,n / 256 % 256]=z0k n):=zhs rfl;clear bS hR;go_enter func190,ntmps190
 go_wp2_with fail
 go_ret
 exact⟨by rw[←HS.out];rfl,by (repeat' (first|with_reducible (first|exact zho _ _|assumption|refine zhp ?_ ?_ _|refine zhq ?_|refine z00 ?_ _|refine zhr ?_ ?_ _|exact zhT _)|omega|(simp;done)|(simp;omega)))⟩
theorem z7f (E:Int)(w:World):
  Calls prog 199 #[.int .i64 E] w fun e w'=>e=.returned (.bool (z1c E))∧Below w.heap.size w w':=by
 have bS:Blk (w.alloc (.cells #[.int .i64 1,.int .i64 13,.int .i64 7] 28)) w.heap.size 28 #[.int .i64 1,.int .i64 13,.int .i64 7]:=Blk.new _ _ _;have hR:Reads (w.alloc (.cells #[.int .i64 1,.int .i64 13,.int .i64 7] 28)) (some ⟨w.heap.size,0,none⟩) ([1,13,7].map (Value.int .i64)):=.inr ⟨_,0,rfl,bS.lt,fun j u hu=>by rw[zi8,bS.cells];simpa using hu⟩
 have hct:=z9a _ 3 [1,13,7] (by decide) E _ hR
 have HB:Hid (z1c E=(decide (E=1)||(decide (E=13)||decide (E=7)))):=zhs (by unfold z1c;rw[Bool.or_assoc];rfl)
 clear bS hR;go_enter func199,ntmps199
 go_wp2_with fail
 refine hct.mono ?_;rintro e w1 ⟨rfl,rfl⟩;go_wp2_with fail
 go_ret
 exact⟨by rw[HB.out];rfl,by (repeat' (first|with_reducible (first|exact zho _ _|assumption|refine zhp ?_ ?_ _|refine zhq ?_|refine z00 ?_ _|refine zhr ?_ ?_ _|exact zhT _)|omega|(simp;done)|(simp;omega)))⟩
theorem zeD {s:ByteArray}{k:Nat}(h:k<s.size):(strL s).getD k 0=(s[k].toNat:Int):=by
 have h2:k<s.data.toList.length:=by rw[Array.length_toList];exact h
 unfold strL;rw[zhw,zi1,zhx h2];rfl
theorem z1o (s:ByteArray)(i:Int)(k:Nat)(hi:i=(k:Int))(h:k<s.size)(w:World):(Instr.index 9 (.string s) (.int .i64 i)).run prog w=.ok (.int .u8 ((strL s).getD k 0)) w:=by
 subst hi;rw[run_index_string (P:=prog) w 9 s .i64 (k:Int) underlying9,dif_pos (by omega),zeD h]
 rfl
def recC (r:Rec):Array Value:=#[.int .i64 r.at_,.int .i64 r.kind,.string r.data]
theorem zbG (D:Nat)(F Z:Int)(B:List Nat)(x:DevS)(f:Fr)(w:World)(hbad:f.kind≠2∨f.data.size<3∨99<f.data.size):
  Calls prog 200 #[.pointer (some ⟨D,0,none⟩),.agg #[.int .i64 F,.int .i64 Z],.agg #[.int .i64 f.kind,.int .u32 f.seq,.string f.data]] w fun e w'=>e=.returned (.tuple #[.agg (recC z9r),.bool false])∧Below w.heap.size w w':=by
 unfold z9r recC;by_cases a1:f.kind=2
 by_cases a2:f.data.size<3
 rotate_left;by_cases a3:99<f.data.size
 rotate_left
 ·omega
 rotate_left
 all_goals
  first
   | (have hk':(f.kind != 2)=true:=by simpa using a1)
   | (have hk':(f.kind != 2)=false:=by simpa using a1)
  clear hbad a1;have bR:Blk (((w.alloc (.cells #[.int .i64 F,.int .i64 Z] 109)).alloc (.cells #[.int .i64 f.kind,.int .u32 f.seq,.string f.data] 190)).alloc (.cells #[.int .i64 0,.int .i64 0,.string ⟨#[]⟩] 118)) (w.heap.size+1+1) 118 #[.int .i64 0,.int .i64 0,.string ⟨#[]⟩]:=Blk.new' (by simp)
  have cR:=bR.cells;have lR:=bR.lt;go_enter func200,ntmps200
  go_wp2_with fail
  refine bodyPost_ret (v:=.tuple #[.agg #[.int .i64 0,.int .i64 0,.string ⟨#[]⟩],.bool false]) (by simp[results,results200,go_sem,cR,lR]) rfl ?_
  exact⟨rfl,by (repeat' (first|with_reducible (first|exact zho _ _|assumption|refine zhp ?_ ?_ _|refine zhq ?_|refine z00 ?_ _|refine zhr ?_ ?_ _|exact zhT _)|omega|(simp;done)|(simp;omega)))⟩
theorem z9u (D:Nat)(F Z:Int)(hFZ:0≤F∧F≤256∧0≤Z∧Z≤256)(B:List Nat)(x:DevS)(f:Fr)(w:World)(h:DevAt w D B x)(hk:f.kind=2)(h3:3≤f.data.size)(h99:f.data.size≤99):
  Calls prog 200 #[.pointer (some ⟨D,0,none⟩),.agg #[.int .i64 F,.int .i64 Z],.agg #[.int .i64 f.kind,.int .u32 f.seq,.string f.data]] w fun e w'=>e=.returned (.tuple #[.agg (recC (z0i f)),.bool (z1F x.stable.length F Z f)])∧Below w.heap.size w w':=by
 obtain⟨fk,fq,fd⟩:=f;simp only at hk h3 h99
 subst hk;go_enter func200,ntmps200
 go_wp2_with fail
 obtain⟨W,hW⟩:∃W,W=(((w.alloc (.cells #[.int .i64 F,.int .i64 Z] 109)).alloc (.cells #[.int .i64 2,.int .u32 fq,.string fd] 190)).alloc (.cells #[.int .i64 0,.int .i64 0,.string ⟨#[]⟩] 118)):=⟨_,rfl⟩;have bJ:Blk W w.heap.size 109 #[.int .i64 F,.int .i64 Z]:=by rw[hW];exact(by (repeat' (first|(with_reducible assumption)|exact Blk.new' (by simp)|refine Blk.alloc ?_ _)))
 have bF:Blk W (w.heap.size+1) 190 #[.int .i64 2,.int .u32 fq,.string fd]:=by rw[hW];exact(by (repeat' (first|(with_reducible assumption)|exact Blk.new' (by simp)|refine Blk.alloc ?_ _)))
 have bR:Blk W (w.heap.size+1+1) 118 #[.int .i64 0,.int .i64 0,.string ⟨#[]⟩]:=by rw[hW];exact Blk.new' (by simp)
 have hB:Below w.heap.size w W:=by rw[hW];(repeat' (first|with_reducible (first|exact zho _ _|assumption|refine zhp ?_ ?_ _|refine zhq ?_|refine z00 ?_ _|refine zhr ?_ ?_ _|exact zhT _)|omega|(simp;done)|(simp;omega)))
 rw[←hW];clear hW;have cF:=bF.cells;have lF:=bF.lt;refine wp_region_still_tail 18 (by kernel_rfl) (by kernel_rfl) ?_
 simp only[List.take_succ_cons,zi2,List.drop_succ_cons,List.drop_zero];change wpStill _ _ W.drew _ _ _
 have HREC:Hid (z0i ⟨2,fq,fd⟩=⟨bits .or .i64 ((strL fd).getD 0 0) ((strL fd).getD 1 0*256),(strL fd).getD 2 0,fd.extract 3 fd.size⟩):=zhs (by unfold z0i;rw[if_neg (by simp only;omega)])
 have HIS:Hid (z1F x.stable.length F Z ⟨2,fq,fd⟩=(decide ((z0i ⟨2,fq,fd⟩).at_<x.stable.length)&&!z0U F Z (z0i ⟨2,fq,fd⟩).at_&&decide (0<(z0i ⟨2,fq,fd⟩).kind))):=zhs (by unfold z1F;rw[if_neg (by simp only;omega)])
 have hi0:=z1o fd 0 0 rfl (by omega)
 have hi1:=z1o fd 1 1 rfl (by omega)
 have hi2:=z1o fd 2 2 rfl (by omega)
 have y0:=z0x (z14 fd) 0;have y1:=z0x (z14 fd) 1;have y2:=z0x (z14 fd) 2;have h3i:(3:Int)≤fd.size:=by omega
 generalize (strL fd).getD 0 0=d0 at *;generalize (strL fd).getD 1 0=d1 at *;generalize (strL fd).getD 2 0=d2 at *;have hw0:IntKind.i64.wrap d0=d0:=by rw[IntKind.wrap_i64];omega
 have hw1:IntKind.i64.wrap d1=d1:=by rw[IntKind.wrap_i64];omega
 have hw2:IntKind.i64.wrap d2=d2:=by rw[IntKind.wrap_i64];omega
 have hw3:IntKind.i64.wrap (d1*256)=d1*256:=by rw[IntKind.wrap_i64];omega
 repeat still_step
 refine wpStill_nil ?_;change wpList _ _ _ _ _ W.drew
 clear hi0 hi1 hi2 h3i hw0 hw1 hw2 hw3;generalize bits BinOp.or IntKind.i64 d0 (d1*256)=av at *;have cR:=bR.cells;have fR:=bR.free;have lR:=bR.lt;go_wp2_with fail
 obtain⟨V,hV⟩:∃V,V=(((W.setCell ⟨w.heap.size+1+1,0,none⟩ (.int .i64 av)).setCell ⟨w.heap.size+1+1,1,none⟩ (.int .i64 d2)).setCell ⟨w.heap.size+1+1,2,none⟩ (.string (fd.extract 3 fd.size))).drew:=⟨_,rfl⟩;have bRV:Blk V (w.heap.size+1+1) 118 #[.int .i64 av,.int .i64 d2,.string (fd.extract 3 fd.size)]:=by rw[hV];exact(((bR.set_ 0 _).set_ 1 _).set_ 2 _).drew
 have bJV:Blk V w.heap.size 109 #[.int .i64 F,.int .i64 Z]:=by rw[hV];exact(((bJ.far (by simp;omega) _).far (by simp;omega) _).far (by simp;omega) _).drew
 have hBV:Below w.heap.size w V:=by rw[hV];exact zhq (((hB.setCell (by simp;omega) _).setCell (by simp;omega) _).setCell (by simp;omega) _)
 rw[←hV];clear hV cR fR lR bR bF cF lF bJ hB;have hd:=h.below hBV;have hV0:V.cell? ⟨w.heap.size+1+1,0,none⟩=some (.int .i64 av)∧V.cell? ⟨w.heap.size+1+1,1,none⟩=some (.int .i64 d2)∧V.cell? ⟨w.heap.size+1+1,2,none⟩=some (.string (fd.extract 3 fd.size))∧V.cell? ⟨w.heap.size,0,none⟩=some (.int .i64 F)∧V.cell? ⟨w.heap.size,1,none⟩=some (.int .i64 Z):=⟨by rw[bRV.cells];rfl,by rw[bRV.cells];rfl,by rw[bRV.cells];rfl,by rw[bJV.cells];rfl,by rw[bJV.cells];rfl⟩
 have lV:=bRV.lt;rw[HREC.out]at HIS;have HB:∀b:Bool,z1F x.stable.length F Z ⟨2,fq,fd⟩=b→Hid (z1F x.stable.length F Z ⟨2,fq,fd⟩=b):=fun _ h=>zhs h
 have hsd:=z2z D B x V.drew hd.drew;have hid:=z7i F Z av hFZ V.drew;by_cases c1:av<x.stable.length
 ·have hd1:decide (av<(x.stable.length:Int))=true:=decide_eq_true c1;have HE:=HB (!z0U F Z av&&decide (0<d2)) (by rw[HIS.out];simp only[hd1,Bool.true_and])
  clear c1;refine z06 [.take 0,.take 1,.take 2,.take 3,.one 4,.take 5,.take 6,.take 7,.take 8,.take 9,.one 10,.take 11,.take 12,.take 13,.take 14,.take 15,.take 16,.take 17,.one 18,.one 19] 20 (fun w'=>w'.cell? ⟨w.heap.size+1+1,0,none⟩=some (.int .i64 av)∧w'.cell? ⟨w.heap.size+1+1,1,none⟩=some (.int .i64 d2)∧w'.cell? ⟨w.heap.size+1+1,2,none⟩=some (.string (fd.extract 3 fd.size))∧w'.cell? ⟨w.heap.size,0,none⟩=some (.int .i64 F)∧w'.cell? ⟨w.heap.size,1,none⟩=some (.int .i64 Z)) (by kernel_rfl) (by kernel_rfl) (fun _ _ _ _ _ h=>h) hV0 ?_
  simp only[zhY,zhZ,Ms.fill,zhy,zhz];iterate 4 (refine z04 (by rfl) ?_ (fun w' hw'=>?_) ?_;rotate_left;(focus (go_simp;(try with_reducible rfl)));(try simp only[Act.put,zht,zhu,zhv]))
  refine z05 (by rfl) fun K hK=>?_
  go_simp;refine hsd.mono ?_;rintro e w' ⟨rfl,rfl⟩;refine hK _ _ (fun _=>hV0) ?_
  clear hK K;iterate 5 (refine z04 (by rfl) ?_ (fun w' hw'=>?_) ?_;rotate_left;(focus (go_simp;(try with_reducible rfl)));(try simp only[Act.put,zht,zhu,zhv]))
  refine z05 (by rfl) fun K hK=>?_
  go_simp;refine hid.mono ?_;rintro e w5 ⟨rfl,hb5⟩;have bR5:=bRV.drew.belowAll hb5;have bJ5:=bJV.drew.belowAll hb5;have B5:Below w.heap.size w w5:=hBV.drew.trans (hb5.mono hBV.size);have l5:=bR5.lt;have h5:w5.cell? ⟨w.heap.size+1+1,0,none⟩=some (.int .i64 av)∧w5.cell? ⟨w.heap.size+1+1,1,none⟩=some (.int .i64 d2)∧w5.cell? ⟨w.heap.size+1+1,2,none⟩=some (.string (fd.extract 3 fd.size))∧w5.cell? ⟨w.heap.size,0,none⟩=some (.int .i64 F)∧w5.cell? ⟨w.heap.size,1,none⟩=some (.int .i64 Z):=⟨by rw[bR5.cells];rfl,by rw[bR5.cells];rfl,by rw[bR5.cells];rfl,by rw[bJ5.cells];rfl,by rw[bJ5.cells];rfl⟩
  refine hK _ _ (fun _=>h5) ?_
  clear hK K hsd hid hb5;have bR6:=((bR5.set_ 0 (.int .i64 av)).set_ 1 (.int .i64 d2)).set_ 2 (.string (fd.extract 3 fd.size));have bJ6:=((bJ5.far (p:=⟨w.heap.size+1+1,0,none⟩) (by simp;omega) (.int .i64 av)).far (p:=⟨w.heap.size+1+1,1,none⟩) (by simp;omega) (.int .i64 d2)).far (p:=⟨w.heap.size+1+1,2,none⟩) (by simp;omega) (.string (fd.extract 3 fd.size))
  have B6:=((B5.setCell (p:=⟨w.heap.size+1+1,0,none⟩) (by simp;omega) (.int .i64 av)).setCell (p:=⟨w.heap.size+1+1,1,none⟩) (by simp;omega) (.int .i64 d2)).setCell (p:=⟨w.heap.size+1+1,2,none⟩) (by simp;omega) (.string (fd.extract 3 fd.size))
  have cR5:=bR5.cells;have fR5:=bR5.free;obtain⟨ib,hin⟩:∃ib,z0U F Z av=ib:=⟨_,rfl⟩;rw[hin]at HE ⊢;clear hin;cases ib
  all_goals
   iterate 3 (refine z04 (by rfl) ?_ (fun w' hw'=>?_) ?_;rotate_left;(focus (go_simp;(try with_reducible rfl)));(try simp only[Act.put,zht,zhu,zhv]))
   first
    | (iterate 3 ((first|(refine z0E (by rfl) ?_)|(refine z0F (by rfl) ?_));(try simp only[Act.put,zht,zhu,zhv])))
    | (iterate 3 (refine z04 (by rfl) ?_ (fun w' hw'=>?_) ?_;rotate_left;(focus (go_simp;(try with_reducible rfl)));(try simp only[Act.put,zht,zhu,zhv])))
   iterate 1 (refine z04 (by rfl) ?_ (fun w' hw'=>?_) ?_;rotate_left;(focus (go_simp;(try with_reducible rfl)));(try simp only[Act.put,zht,zhu,zhv]))
   refine z05 (by rfl) fun K hK=>?_
   go_simp;refine hK _ _ (fun _=>⟨by rw[bR6.cells];rfl,by rw[bR6.cells];rfl,by rw[bR6.cells];rfl,by rw[bJ6.cells];rfl,by rw[bJ6.cells];rfl⟩) ?_
   clear hK K;refine z05 (by rfl) fun K hK=>?_
   go_simp;refine hK _ _ (fun _=>⟨by rw[bR6.cells];rfl,by rw[bR6.cells];rfl,by rw[bR6.cells];rfl,by rw[bJ6.cells];rfl,by rw[bJ6.cells];rfl⟩) ?_
   clear hK K;refine z0f ?_;have cR6:=bR6.cells;have lR6:=bR6.lt;go_wp2_with fail
   refine bodyPost_ret (v:=.tuple #[.agg #[.int .i64 av,.int .i64 d2,.string (fd.extract 3 fd.size)],.bool _]) (by simp[results,results200,go_sem,cR6];try rfl) rfl ?_
   exact⟨by unfold recC;rw[HREC.out,HE.out]<;>try rfl,B6⟩
 ·have hd1:decide (av<(x.stable.length:Int))=false:=decide_eq_false c1;have HE:=HB false (by rw[HIS.out];simp only[hd1,Bool.false_and])
  clear c1;refine z06 [.take 0,.take 1,.take 2,.take 3,.one 4,.take 5,.take 6,.take 7,.take 8,.take 9,.one 10,.take 11,.take 12,.take 13,.take 14,.take 15,.take 16,.take 17,.one 18,.one 19] 20 (fun w'=>w'.cell? ⟨w.heap.size+1+1,0,none⟩=some (.int .i64 av)∧w'.cell? ⟨w.heap.size+1+1,1,none⟩=some (.int .i64 d2)∧w'.cell? ⟨w.heap.size+1+1,2,none⟩=some (.string (fd.extract 3 fd.size))∧w'.cell? ⟨w.heap.size,0,none⟩=some (.int .i64 F)∧w'.cell? ⟨w.heap.size,1,none⟩=some (.int .i64 Z)) (by kernel_rfl) (by kernel_rfl) (fun _ _ _ _ _ h=>h) hV0 ?_
  simp only[zhY,zhZ,Ms.fill,zhy,zhz];iterate 4 (refine z04 (by rfl) ?_ (fun w' hw'=>?_) ?_;rotate_left;(focus (go_simp;(try with_reducible rfl)));(try simp only[Act.put,zht,zhu,zhv]))
  refine z05 (by rfl) fun K hK=>?_
  go_simp;refine hsd.mono ?_;rintro e w' ⟨rfl,rfl⟩;refine hK _ _ (fun _=>hV0) ?_
  clear hK K;iterate 2 (refine z04 (by rfl) ?_ (fun w' hw'=>?_) ?_;rotate_left;(focus (go_simp;(try with_reducible rfl)));(try simp only[Act.put,zht,zhu,zhv]))
  iterate 5 ((first|(refine z0E (by rfl) ?_)|(refine z0F (by rfl) ?_));(try simp only[Act.put,zht,zhu,zhv]))
  iterate 2 (refine z04 (by rfl) ?_ (fun w' hw'=>?_) ?_;rotate_left;(focus (go_simp;(try with_reducible rfl)));(try simp only[Act.put,zht,zhu,zhv]))
  iterate 3 ((first|(refine z0E (by rfl) ?_)|(refine z0F (by rfl) ?_));(try simp only[Act.put,zht,zhu,zhv]))
  iterate 1 (refine z04 (by rfl) ?_ (fun w' hw'=>?_) ?_;rotate_left;(focus (go_simp;(try with_reducible rfl)));(try simp only[Act.put,zht,zhu,zhv]))
  have bR6:=(((bRV.set_ 0 (.int .i64 av)).set_ 1 (.int .i64 d2)).set_ 2 (.string (fd.extract 3 fd.size))).drew;have bJ6:=(((bJV.far (p:=⟨w.heap.size+1+1,0,none⟩) (by simp;omega) (.int .i64 av)).far (p:=⟨w.heap.size+1+1,1,none⟩) (by simp;omega) (.int .i64 d2)).far (p:=⟨w.heap.size+1+1,2,none⟩) (by simp;omega) (.string (fd.extract 3 fd.size))).drew
  have B6:=zhq (((hBV.setCell (p:=⟨w.heap.size+1+1,0,none⟩) (by simp;omega) (.int .i64 av)).setCell (p:=⟨w.heap.size+1+1,1,none⟩) (by simp;omega) (.int .i64 d2)).setCell (p:=⟨w.heap.size+1+1,2,none⟩) (by simp;omega) (.string (fd.extract 3 fd.size)))
  have cRV:=bRV.cells;have fRV:=bRV.free;focus
   refine z05 (by rfl) fun K hK=>?_
   go_simp;refine hK _ _ (fun _=>⟨by rw[bR6.cells];rfl,by rw[bR6.cells];rfl,by rw[bR6.cells];rfl,by rw[bJ6.cells];rfl,by rw[bJ6.cells];rfl⟩) ?_
   clear hK K;refine z05 (by rfl) fun K hK=>?_
   go_simp;refine hK _ _ (fun _=>⟨by rw[bR6.cells];rfl,by rw[bR6.cells];rfl,by rw[bR6.cells];rfl,by rw[bJ6.cells];rfl,by rw[bJ6.cells];rfl⟩) ?_
   clear hK K;refine z0f ?_;have cR6:=bR6.cells;have lR6:=bR6.lt;go_wp2_with fail
   refine bodyPost_ret (v:=.tuple #[.agg #[.int .i64 av,.int .i64 d2,.string (fd.extract 3 fd.size)],.bool false]) (by simp[results,results200,go_sem,cR6]) rfl ?_
   exact⟨by unfold recC;rw[HREC.out,HE.out]<;>try rfl,B6⟩
end Go.Proofs.YtejmknghkbobnaaGreatDoor
