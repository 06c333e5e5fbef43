import Derived.Test.YtejmknghkbobnaaGreatDoorPart00
import Derived.Test.YtejmknghkbobnaaGreatDoorPart20
import Derived.Test.YtejmknghkbobnaaGreatDoorPart05
import Derived.Deep.CutRange
import Derived.Deep.CutBlock
import Derived.Test.YtejmknghkbobnaaGreatDoorPart09
import Derived.Test.YtejmknghkbobnaaGreatDoorPart16
import Derived.Test.YtejmknghkbobnaaGreatDoorPart08
set_option linter.unusedVariables false
set_option linter.unusedSimpArgs false
set_option maxRecDepth 100000
set_option maxHeartbeats 8000000
namespace Go.Proofs.YtejmknghkbobnaaGreatDoor
open Go.Proofs.Tryz
open Go.RowKit
theorem z1k {ops:Array Oper}{rest:List Oper}{o:Oper}{a:Act}{w:World}{Q:Exit→Act→World→Prop}(hw:Region.wanted o (yielded ops a.tmps)=true)(x:Operand)(ho:o.op=.load 128 x)
  (g:Nat) (hx:a.eval x=.pointer (some ⟨g,0,none⟩)) {t:TypeId} {l:List Int} (b:Blk w g t (z03 l)) (hl:l.length=128)
  (h:wpList prog ops Q rest (a.put o.dst (.agg (z03 l))) w):wpList prog ops Q (o::rest) a w:=
 wpList_step fun K hK=>by
  rw[if_pos hw];exact wp_load_row 128 x ho g hx t (z03 l) (0,0) _ b underlying128 rfl (by rw[z1v,hl];exact z32) (hK _ _ h)
theorem zh8 (xs ys:List Int)(hx:xs.length=128)(hy:ys.length=128)(w:World):
  (binOp .neq 128 (.agg (z03 xs)) (.agg (z03 ys))).run prog w=.ok (.bool (!decide (xs=ys))) w:=by
 have h:=zfh xs ys hx hy w;rw[run_eql_struct]at h;rw[run_neq_struct];cases e:(Op.equalIn 10000 128 (.agg (z03 xs)) (.agg (z03 ys))).run prog w with
 | ok b w'=>
  rw[e]at h;simp only[Result.andThen_ok,Result.ok.injEq,Value.bool.injEq]at h;obtain⟨rfl,rfl⟩:=h;rfl
 | _=>rw[e]at h;cases h
theorem z2H (n:Nat)(x:Int)(hx:x=(n:Int))(ha:n≤124)(xs:List Int)(hl:xs.length=128)(hbx:z0V xs)(w:World):
  Calls prog 227 #[.agg (z03 xs),.int .i64 x] w fun e w'=>e=.returned (.int .u32 (z0o xs n))∧Below w.heap.size w w':=by
 subst hx;exact z7H n ha xs hl hbx w
theorem zdi (a:Int)(xs:List Int)(hl:xs.length=128)(hbx:z0V xs)(w:World):
  Calls prog 197 #[.int .i64 a,.agg (z03 xs)] w (OpenPost a xs w):=by
 have hbz:∀w:World,(binOp .eql 128 (.agg (z03 xs)) (.agg (z03 zsec))).run prog w=.ok (.bool (decide (xs=zsec))) w:=fun w=>zfh xs zsec hl z07 w
 have hz:=z0S;have hRE:=zhs (z9W (a:=a) hl hbx);have bS0:Blk ((w.alloc (.cells (z03 xs) 128)).alloc (.cells #[Value.int .i64 0,Value.int .u32 0,Value.string ⟨#[]⟩] 190)) w.heap.size 128 (z03 xs):=(Blk.new _ _ _).alloc _;have bR0:Blk ((w.alloc (.cells (z03 xs) 128)).alloc (.cells #[Value.int .i64 0,Value.int .u32 0,Value.string ⟨#[]⟩] 190)) (w.heap.size+1) 190 #[Value.int .i64 0,Value.int .u32 0,Value.string ⟨#[]⟩]:=Blk.new' (by simp)
 have B0:Below w.heap.size w ((w.alloc (.cells (z03 xs) 128)).alloc (.cells #[Value.int .i64 0,Value.int .u32 0,Value.string ⟨#[]⟩] 190)):=by (repeat' (first|with_reducible (first|exact zho _ _|assumption|refine zhp ?_ ?_ _|refine zhq ?_|refine z00 ?_ _|refine zhr ?_ ?_ _|exact zhT _)|omega|(simp;done)|(simp;omega)))
 by_cases a1:a<0∨256≤a
 ·have hE:z1g a xs=7:=by unfold z1g;rw[if_pos a1]
  have HE:=zhs hE;clear hE;have cR:=bR0.cells;have lR:=bR0.lt;by_cases a2:a<0
  all_goals
   go_enter func197,ntmps197
   go_wp2_with fail
   refine bodyPost_ret (v:=.tuple #[.agg #[Value.int .i64 0,Value.int .u32 0,Value.string ⟨#[]⟩],.int .i64 7]) (by simp[results,results197,go_sem,cR,lR]) rfl ?_
   exact OpenPost.bad HE.out (by decide) (by (repeat' (first|with_reducible (first|exact zho _ _|assumption|refine zhp ?_ ?_ _|refine zhq ?_|refine z00 ?_ _|refine zhr ?_ ?_ _|exact zhT _)|omega|(simp;done)|(simp;omega))))
 ·have a2:¬a<0:=by omega
  have a3:¬256≤a:=by omega
  by_cases hzs:xs=zsec
  ·have hE:z1g a xs=70:=by unfold z1g;rw[if_neg a1,if_pos hzs]
   have HE:=zhs hE;have hd:decide (xs=zsec)=true:=decide_eq_true hzs;clear hE hzs;have cR:=bR0.cells;have lR:=bR0.lt;go_enter func197,ntmps197
   go_wp2_with (refine z0u rfl _ rfl w.heap.size rfl bS0 hl ?_)
   refine bodyPost_ret (v:=.tuple #[.agg #[Value.int .i64 0,Value.int .u32 0,Value.string ⟨#[]⟩],.int .i64 70]) (by simp[results,results197,go_sem,cR,lR]) rfl ?_
   exact OpenPost.bad HE.out (by decide) (by (repeat' (first|with_reducible (first|exact zho _ _|assumption|refine zhp ?_ ?_ _|refine zhq ?_|refine z00 ?_ _|refine zhr ?_ ?_ _|exact zhT _)|omega|(simp;done)|(simp;omega))))
  have hd:decide (xs=zsec)=false:=decide_eq_false hzs;have HZ:=zhs hzs;clear hzs;go_enter func197,ntmps197
  go_wp2_with (refine z0u rfl _ rfl w.heap.size rfl bS0 hl ?_)
  obtain⟨W0,hW0⟩:∃W0,W0=(w.alloc (.cells (z03 xs) 128)).alloc (.cells #[Value.int .i64 0,Value.int .u32 0,Value.string ⟨#[]⟩] 190):=⟨_,rfl⟩;rw[←hW0]at bS0 bR0 B0 ⊢;clear hW0;refine z06 [.take 0,.take 2,.one 1,.one 3,.one 4] 5 (fun W=>Blk W w.heap.size 128 (z03 xs)) (by kernel_rfl) (by kernel_rfl) (fun _ _ _ _ _ h=>h) bS0.drew ?_
  simp only[zhY,zhZ,Ms.fill,zhy,zhz];refine z04 (by rfl) (.agg (z03 xs)) (fun w' hw'=>by unfold execOp;simp only[Sem.run_bind,Sem.run_pure];exact(congrArg (fun r=>Result.andThen r _) (hw'.loadSecAt hl)).trans rfl) ?_
  try simp only[Act.put,zht,zhu,zhv]
  refine z04 (by rfl) (.slice (some ⟨w.heap.size,0,none⟩) 124 128) (fun w' hw'=>by go_simp) ?_
  try simp only[Act.put,zht,zhu,zhv]
  refine z05 (by rfl) fun K hK=>?_
  go_simp;refine(z2H 124 124 rfl (by omega) xs hl hbx _).mono ?_
  rintro e w1 ⟨rfl,hb1⟩;have bS1:=bS0.drew.belowAll hb1;have bR1:=bR0.drew.belowAll hb1;have B1:Below w.heap.size w w1:=B0.drew.trans (hb1.mono B0.size);refine hK _ _ (fun _=>bS1) ?_
  clear hK K hb1 bS0 bR0 B0;refine z05 (by rfl) fun K hK=>?_
  go_simp;refine(zdR (some ⟨w.heap.size,0,none⟩) 124 128 (xs.take 124) (by rw[zi6];omega) (by omega) (z3N hbx _) _ (by rw[List.map_take];exact(z2d bS1).take 124)).mono ?_
  rintro e w2 ⟨rfl,rfl⟩;refine hK _ _ (fun _=>bS1) ?_
  clear hK K;refine z05 (by rfl) fun K hK=>?_
  go_simp;refine hK _ _ (fun _=>bS1) ?_
  clear hK K;refine z0f ?_;have cR:=bR1.cells;have fR:=bR1.free;have lR:=bR1.lt;have lS:=bS1.lt;by_cases hsum:z0o xs 124≠crc (xs.take 124)
  ·have hd2:(z0o xs 124 != crc (xs.take 124))=true:=by simpa using hsum
   have hE0:Hid (z1g a xs=71):=zhs (by unfold z1g;rw[if_neg a1,if_neg HZ.out,if_pos hsum])
   clear hsum;go_wp2_with fail
   refine bodyPost_ret (v:=.tuple #[.agg #[Value.int .i64 0,Value.int .u32 0,Value.string ⟨#[]⟩],.int .i64 71]) (by simp[results,results197,go_sem,cR,lR]) rfl ?_
   exact OpenPost.bad hE0.out (by decide) (by (repeat' (first|with_reducible (first|exact zho _ _|assumption|refine zhp ?_ ?_ _|refine zhq ?_|refine z00 ?_ _|refine zhr ?_ ?_ _|exact zhT _)|omega|(simp;done)|(simp;omega))))
  have hd2:(z0o xs 124 != crc (xs.take 124))=false:=by simpa using hsum
  have hE0:Hid (z1g a xs=if 256≤z0o xs 120∨112<xs.getD 2 0 then 6 else if z11 (z0o xs 120) (xs.getD 1 0) (z0t xs).size≠0∨z15 (z0o xs 120) (xs.getD 1 0) (z0o xs 4) (z0t xs)≠xs then 6 else if z0o xs 120≠a then 72 else 0):=
   zhs (by rw[←hRE.out];unfold z86;rw[if_neg a1,if_neg HZ.out,if_neg hsum])
  clear hsum hRE;go_wp2_with (refine z0u rfl _ rfl w.heap.size rfl bS1 hl ?_)
  refine(z2H 120 120 rfl (by omega) xs hl hbx _).mono ?_
  rintro e w3 ⟨rfl,hb3⟩;have bS3:=bS1.belowAll hb3;have bR3:=bR1.belowAll hb3;have B3:Below w.heap.size w w3:=B1.trans (hb3.mono B1.size);clear hb3 bS1 bR1 B1 cR fR lR lS;go_wp2_with fail
  have y1:=z0x hbx 1;obtain⟨x1,hx1⟩:∃x1,xs.getD 1 0=x1:=⟨_,rfl⟩;rw[hx1]at y1 hE0;have hc1:∀W,Blk W w.heap.size 128 (z03 xs)→W.cell? ⟨w.heap.size,1,none⟩=some (.int .u8 x1):=fun W b=>by rw[b.cells,←hx1];exact z0J (by omega)
  have HX1:=zhs hx1;have HC1:=zhs hc1;clear hx1 hc1;have hwx:IntKind.i64.wrap x1=x1:=by rw[IntKind.wrap_i64];omega
  go_cut [7]from 29 to 77 (fun s7 wx=>∃N,s7=.pointer (some ⟨N,0,none⟩)∧Below w.heap.size w wx∧w.heap.size+1<N∧Blk wx w.heap.size 128 (z03 xs)∧Blk wx (w.heap.size+1) 190 #[Value.int .i64 0,Value.int .u32 0,Value.string ⟨#[]⟩]∧Blk wx N 190 #[.int .i64 x1,.int .u32 (z0o xs 4),.string ⟨#[]⟩])
  case first=>
   as_aux_lemma=>
    refine z06 [.take 0,.take 1,.take 2,.take 3,.par 6 [4,5],.one 7] 7 (fun W=>Blk W w.heap.size 128 (z03 xs)) (by kernel_rfl) (by kernel_rfl) (fun _ _ _ _ _ h=>h) bS3.drew ?_
    simp only[zhY,zhZ,Ms.fill,zhy,zhz];refine z04 (by rfl) (.pointer (some ⟨w.heap.size,1,none⟩)) (fun w' hw'=>by go_simp) ?_
    try simp only[Act.put,zht,zhu,zhv]
    refine z04 (by rfl) (.int .u8 x1) (fun w' hw'=>by have h1:=HC1.out w' hw';go_simp) ?_
    try simp only[Act.put,zht,zhu,zhv]
    refine z04 (by rfl) (.int .i64 x1) (fun w' hw'=>by go_simp) ?_
    try simp only[Act.put,zht,zhu,zhv]
    refine z04 (by rfl) (.agg (z03 xs)) (fun w' hw'=>by unfold execOp;simp only[Sem.run_bind,Sem.run_pure];exact(congrArg (fun r=>Result.andThen r _) (hw'.loadSecAt hl)).trans rfl) ?_
    try simp only[Act.put,zht,zhu,zhv]
    refine z7U fun K0 hK0=>?_
    refine z2V (fun K hK=>?_) (fun K hK=>?_)
    ·obtain⟨X,hX⟩:∃X,X=(w3.alloc (.cells #[Value.int .i64 0,Value.int .u32 0,Value.string ⟨#[]⟩] 190)).drew:=⟨_,rfl⟩;have bX:Blk X w3.heap.size 190 #[Value.int .i64 0,Value.int .u32 0,Value.string ⟨#[]⟩]:=by rw[hX];exact(Blk.new _ _ _).drew
     have BX:Below w3.heap.size w3 X:=by rw[hX];exact((zho _ _).alloc (zhT _) _).drew
     go_simp;rw[←hX];refine hK _ _ (bS3.belowAll BX) ?_;clear hK K hX;refine z1q (fun K hK=>?_)
     go_simp;refine(z2H 4 4 rfl (by omega) xs hl hbx _).mono ?_
     rintro e w5 ⟨rfl,hb5⟩;have bX5:=bX.belowAll hb5;have B5:=BX.trans (hb5.mono BX.size);refine hK _ _ (bS3.belowAll B5) ?_;clear hK K;refine z1q (fun K hK=>?_)
     go_simp;refine hK _ _ (bS3.belowAll B5) ?_;clear hK K;refine z2u ?_;refine hK0 _ _ ?_;clear hK0 K0;refine z05 (by rfl) fun K hK=>?_
     have hst:=z1L (ty:=190) (vs:=#[.int .i64 x1,.int .u32 (z0o xs 4),.string ⟨#[]⟩]) bX5 rfl (by simp[Value.oneCell']) (by kernel_rfl)
     refine z0h _ _ _ rfl _ _ rfl rfl hst ?_;refine hK _ _ (fun h=>absurd h (by decide)) ?_
     clear hK K;refine z0f ?_;have l3:=bR3.lt;go_wp2_with fail
     go_meet
     case rel=>exact⟨w3.heap.size,rfl,Below.setRow (B3.trans (B5.mono B3.size)) B3.size _,l3,(bS3.belowAll B5).rowFar (by have:=bS3.lt;omega),(bR3.belowAll B5).rowFar (by omega),bX5.setRow⟩
    ·go_simp;refine(z2H 4 4 rfl (by omega) xs hl hbx _).mono ?_
     rintro e w5 ⟨rfl,hb5⟩;have B5:Below w3.heap.size w3 w5:=(zho _ _).drew.trans hb5;have z5:=B5.size;refine hK _ _ (bS3.belowAll B5) ?_;clear hK K;refine z2V (fun K hK=>?_) (fun K hK=>?_)
     ·obtain⟨X,hX⟩:∃X,X=w5.alloc (.cells #[Value.int .i64 0,Value.int .u32 0,Value.string ⟨#[]⟩] 190):=⟨_,rfl⟩;have bX:Blk X w5.heap.size 190 #[Value.int .i64 0,Value.int .u32 0,Value.string ⟨#[]⟩]:=by rw[hX];exact Blk.new _ _ _
      have BX:Below w3.heap.size w3 X:=by rw[hX];exact B5.alloc B5.size _
      go_simp;rw[←hX];refine hK _ _ (bS3.belowAll BX) ?_;clear hK K hX;refine z1q (fun K hK=>?_)
      go_simp;refine hK _ _ (bS3.belowAll BX) ?_;clear hK K;refine z2u ?_;refine hK0 _ _ ?_;clear hK0 K0;refine z05 (by rfl) fun K hK=>?_
      have hst:=z1L (ty:=190) (vs:=#[.int .i64 x1,.int .u32 (z0o xs 4),.string ⟨#[]⟩]) bX rfl (by simp[Value.oneCell']) (by kernel_rfl)
      refine z0h _ _ _ rfl _ _ rfl rfl hst ?_;refine hK _ _ (fun h=>absurd h (by decide)) ?_
      clear hK K;refine z0f ?_;have l3:=bR3.lt;go_wp2_with fail
      go_meet
      case rel=>exact⟨w5.heap.size,rfl,Below.setRow (B3.trans (BX.mono B3.size)) (by have:=B3.size;omega) _,by omega,(bS3.belowAll BX).rowFar (by have:=bS3.lt;omega),(bR3.belowAll BX).rowFar (by omega),bX.setRow⟩
     ·go_simp;refine hK _ _ (bS3.belowAll B5) ?_;clear hK K;refine z8m (fun K hK=>?_)
      obtain⟨X,hX⟩:∃X,X=w5.alloc (.cells #[Value.int .i64 0,Value.int .u32 0,Value.string ⟨#[]⟩] 190):=⟨_,rfl⟩;have bX:Blk X w5.heap.size 190 #[Value.int .i64 0,Value.int .u32 0,Value.string ⟨#[]⟩]:=by rw[hX];exact Blk.new _ _ _
      have BX:Below w3.heap.size w3 X:=by rw[hX];exact B5.alloc B5.size _
      go_simp;rw[←hX];refine hK _ _ (bS3.belowAll BX) ?_;clear hK K hX;refine hK0 _ _ ?_;clear hK0 K0;refine z05 (by rfl) fun K hK=>?_
      have hst:=z1L (ty:=190) (vs:=#[.int .i64 x1,.int .u32 (z0o xs 4),.string ⟨#[]⟩]) bX rfl (by simp[Value.oneCell']) (by kernel_rfl)
      refine z0h _ _ _ rfl _ _ rfl rfl hst ?_;refine hK _ _ (fun h=>absurd h (by decide)) ?_
      clear hK K;refine z0f ?_;have l3:=bR3.lt;go_wp2_with fail
      go_meet
      case rel=>exact⟨w5.heap.size,rfl,Below.setRow (B3.trans (BX.mono B3.size)) (by have:=B3.size;omega) _,by omega,(bS3.belowAll BX).rowFar (by have:=bS3.lt;omega),(bR3.belowAll BX).rowFar (by omega),bX.setRow⟩
  clear HC1 hwx bS3 bR3 B3;obtain⟨N,rfl,hB,hN,bS,bR,bN⟩:=hcut;have lS:=bS.lt;have lN:=bN.lt;have cR:=bR.cells;have fR:=bR.free;have lR:=bR.lt;have hq:=z35 xs 120;have y2:=z0x hbx 2;obtain⟨x2,hx2⟩:∃x2,xs.getD 2 0=x2:=⟨_,rfl⟩;have g2:wc.cell? ⟨w.heap.size,2,none⟩=some (.int .u8 x2):=by rw[bS.cells,←hx2];exact z0J (by omega)
  rw[hx2]at hE0 y2;have HX2:=zhs hx2;clear hx2;by_cases c4:256≤z0o xs 120
  ·rw[if_pos (Or.inl c4)]at hE0;have hd4:decide (256≤z0o xs 120)=true:=decide_eq_true c4;go_wp2_with fail
   refine bodyPost_ret (v:=.tuple #[.agg #[Value.int .i64 0,Value.int .u32 0,Value.string ⟨#[]⟩],.int .i64 6]) (by simp[results,results197,go_sem,cR,lR]) rfl ?_
   exact OpenPost.bad hE0.out (by decide) (by (repeat' (first|with_reducible (first|exact zho _ _|assumption|refine zhp ?_ ?_ _|refine zhq ?_|refine z00 ?_ _|refine zhr ?_ ?_ _|exact zhT _)|omega|(simp;done)|(simp;omega))))
  have hd4:decide (256≤z0o xs 120)=false:=decide_eq_false c4;by_cases c5:112<x2
  ·rw[if_pos (Or.inr c5)]at hE0;go_wp2_with fail
   refine bodyPost_ret (v:=.tuple #[.agg #[Value.int .i64 0,Value.int .u32 0,Value.string ⟨#[]⟩],.int .i64 6]) (by simp[results,results197,go_sem,cR,lR]) rfl ?_
   exact OpenPost.bad hE0.out (by decide) (by (repeat' (first|with_reducible (first|exact zho _ _|assumption|refine zhp ?_ ?_ _|refine zhq ?_|refine z00 ?_ _|refine zhr ?_ ?_ _|exact zhT _)|omega|(simp;done)|(simp;omega))))
  rw[if_neg (by omega)]at hE0
  obtain⟨m,rfl⟩:=Int.eq_ofNat_of_zero_le y2.1;have hm:m≤112:=by omega
  have hal:prog.arrayLen 128=128:=by kernel_rfl
  have hsz:∀w:World,(sizeOf (prog.elem 128)).run prog w=.ok 1 w:=fun w=>by kernel_rfl
  have hsl2:∀w0:World,(Instr.sliceAt 128 (.pointer (some ⟨w.heap.size,0,none⟩)) (some (.int .i64 8)) (some (.int .i64 (8+(m:Int)))) none).run prog w0=.ok (.slice (some ⟨w.heap.size,8,none⟩) m 120) w0:=fun w0=>by
   rw[run_sliceAt_array_lh w0 128 _ (by kernel_rfl) .i64 .i64 8 (8+(m:Int)) (by omega) (by omega) (by rw[hal];omega),hsz]
   have h1:(8+(m:Int)).toNat=8+m:=by omega
   have h2:(8:Int).toNat=8:=rfl;simp only[Result.andThen_ok,slicedAt,h1,h2,Nat.mul_one,hal];rw[show 8+m - 8=m by omega]
   simp[Addr.add]
  clear hal hsz;have hcv:=z1T (some ⟨w.heap.size,8,none⟩) m 120 ((xs.take (8+m)).drop 8) (by rw[zi7,zi6];omega) wc (z7j bS 8 (8+m))
  have hos:strOfNums ((xs.take (8+m)).drop 8)=z0t xs:=by unfold z0t;rw[HX2.out,zhU]
  rw[hos]at hcv;have hos2:(z0t xs).size=m:=by rw[←hos,strOfNums_size,zi7,zi6];omega
  have HOS:=zhs hos2;clear hos hos2;have cN:=bN.cells;have fN:=bN.free;go_wp2_with fail
  have hsz:=HOS.out;refine(z9n (z0o xs 120) x1 (z0o xs 4) (z0t xs) (by rw[hsz];simp only[maxLen];omega) (z35 xs 4) _).mono ?_
  rintro e w6 ⟨hb6,rfl⟩;have bS6:Blk w6 w.heap.size 128 (z03 xs):=Blk.belowAll (by first|exact bS.far (by simp;omega) _|exact bS.far _ (by simp;omega)) hb6
  have bR6:Blk w6 (w.heap.size+1) 190 #[Value.int .i64 0,Value.int .u32 0,Value.string ⟨#[]⟩]:=Blk.belowAll (by first|exact bR.far (by simp;omega) _|exact bR.far _ (by simp;omega)) hb6
  have bN6:Blk w6 N 190 #[.int .i64 x1,.int .u32 (z0o xs 4),.string (z0t xs)]:=(bN.set_ 2 (.string (z0t xs))).belowAll hb6;have B6:Below w.heap.size w w6:=(hB.setCell (p:=⟨N,2,none⟩) (by show w.heap.size≤N;omega) _).trans (hb6.mono (by have:=hB.size;simpa using this))
  clear hb6 bS bR bN hB cR fR lR cN fN lS lN g2 hcv hsl2;have lS:=bS6.lt;have lN:=bN6.lt;have cR:=bR6.cells;have fR:=bR6.free;have lR:=bR6.lt;have cN:=bN6.cells;have hLl:(if z11 (z0o xs 120) x1 (z0t xs).size=0 then z15 (z0o xs 120) x1 (z0o xs 4) (z0t xs)else zsec).length=128:=by
   split
   ·exact z1n _ _ _ _ (by omega)
   ·exact z07
  by_cases hE:z11 (z0o xs 120) x1 (z0t xs).size=0
  rotate_left
  ·rw[if_pos (Or.inl hE)]at hE0;have hd7:(z11 (z0o xs 120) x1 (z0t xs).size != 0)=true:=by simpa using hE
   rw[if_neg hE]at hLl ⊢;generalize z11 (z0o xs 120) x1 (z0t xs).size=E at *;have bT:Blk (w6.alloc (.cells (z03 zsec) 128)) w6.heap.size 128 (z03 zsec):=Blk.new _ _ _;clear hE;clear cR fR lR cN;go_wp2_with (refine z0d rfl _ _ rfl w6.heap.size (zsec) rfl rfl bT z07 z07 ?_;obtain⟨W7,hW7⟩:∃W7,W7=World.setRow (w6.alloc (.cells (z03 zsec) 128)) w6.heap.size (z03 (zsec)):=⟨_,rfl⟩;rw[←hW7];have hB7:Below w6.heap.size w6 W7:=(by rw[hW7];exact Below.setRow ((zho _ _).alloc (zhT _) _) (zhT _) _);have bT7:Blk W7 w6.heap.size 128 (z03 (zsec)):=(by rw[hW7];exact Blk.setRow bT);have bS7:=bS6.belowAll hB7;have bR7:=bR6.belowAll hB7;have bN7:=bN6.belowAll hB7;have cR:=bR7.cells;have fR:=bR7.free;have lR:=bR7.lt;have cN:=bN7.cells;have B7:Below w.heap.size w W7:=B6.trans (hB7.mono B6.size);have e8:=bT7.loadSecAt z07;have e3:=bS7.loadSecAt hl;clear hW7 hB7)
   refine bodyPost_ret (v:=.tuple #[.agg #[Value.int .i64 0,Value.int .u32 0,Value.string ⟨#[]⟩],.int .i64 6]) (by simp[results,results197,go_sem,cR,lR]) rfl ?_
   exact OpenPost.bad hE0.out (by decide) (by (repeat' (first|with_reducible (first|exact zho _ _|assumption|refine zhp ?_ ?_ _|refine zhq ?_|refine z00 ?_ _|refine zhr ?_ ?_ _|exact zhT _)|omega|(simp;done)|(simp;omega))))
  rw[if_pos hE]at hLl ⊢;rw[hE]at hE0 ⊢;clear hE;have hne:=fun w=>zh8 (z15 (z0o xs 120) x1 (z0o xs 4) (z0t xs)) xs hLl hl w
  generalize hLL:z15 (z0o xs 120) x1 (z0o xs 4) (z0t xs)=L at *;have bT:Blk (w6.alloc (.cells (z03 zsec) 128)) w6.heap.size 128 (z03 zsec):=Blk.new _ _ _;clear cR fR lR cN hLL;by_cases hL:L=xs
  rotate_left
  ·rw[if_pos (Or.inr hL)]at hE0;have hd8:decide (L=xs)=false:=decide_eq_false hL;rw[hd8]at hne;clear hL hd8;go_wp2_with (first|(refine z0d rfl _ _ rfl w6.heap.size (L) rfl rfl bT z07 hLl ?_;obtain⟨W7,hW7⟩:∃W7,W7=World.setRow (w6.alloc (.cells (z03 zsec) 128)) w6.heap.size (z03 (L)):=⟨_,rfl⟩;rw[←hW7];have hB7:Below w6.heap.size w6 W7:=(by rw[hW7];exact Below.setRow ((zho _ _).alloc (zhT _) _) (zhT _) _);have bT7:Blk W7 w6.heap.size 128 (z03 (L)):=(by rw[hW7];exact Blk.setRow bT);have bS7:=bS6.belowAll hB7;have bR7:=bR6.belowAll hB7;have bN7:=bN6.belowAll hB7;have cR:=bR7.cells;have fR:=bR7.free;have lR:=bR7.lt;have cN:=bN7.cells;have B7:Below w.heap.size w W7:=B6.trans (hB7.mono B6.size);clear hW7 hB7)|(refine z1k (by rfl) _ rfl w6.heap.size rfl bT7 hLl ?_)|(refine z1k (by rfl) _ rfl w.heap.size rfl bS7 hl ?_))
   refine bodyPost_ret (v:=.tuple #[.agg #[Value.int .i64 0,Value.int .u32 0,Value.string ⟨#[]⟩],.int .i64 6]) (by simp[results,results197,go_sem,cR,lR]) rfl ?_
   exact OpenPost.bad hE0.out (by decide) (by (repeat' (first|with_reducible (first|exact zho _ _|assumption|refine zhp ?_ ?_ _|refine zhq ?_|refine z00 ?_ _|refine zhr ?_ ?_ _|exact zhT _)|omega|(simp;done)|(simp;omega))))
  rw[if_neg (by simp[hL])]at hE0
  have hd8:decide (L=xs)=true:=decide_eq_true hL;rw[hd8]at hne;clear hL hd8;by_cases hpl:z0o xs 120=a
  rotate_left
  ·rw[if_pos hpl]at hE0;have hd6:(z0o xs 120 != a)=true:=by simpa using hpl
   clear hpl;go_wp2_with (first|(refine z0d rfl _ _ rfl w6.heap.size (L) rfl rfl bT z07 hLl ?_;obtain⟨W7,hW7⟩:∃W7,W7=World.setRow (w6.alloc (.cells (z03 zsec) 128)) w6.heap.size (z03 (L)):=⟨_,rfl⟩;rw[←hW7];have hB7:Below w6.heap.size w6 W7:=(by rw[hW7];exact Below.setRow ((zho _ _).alloc (zhT _) _) (zhT _) _);have bT7:Blk W7 w6.heap.size 128 (z03 (L)):=(by rw[hW7];exact Blk.setRow bT);have bS7:=bS6.belowAll hB7;have bR7:=bR6.belowAll hB7;have bN7:=bN6.belowAll hB7;have cR:=bR7.cells;have fR:=bR7.free;have lR:=bR7.lt;have cN:=bN7.cells;have B7:Below w.heap.size w W7:=B6.trans (hB7.mono B6.size);clear hW7 hB7)|(refine z1k (by rfl) _ rfl w6.heap.size rfl bT7 hLl ?_)|(refine z1k (by rfl) _ rfl w.heap.size rfl bS7 hl ?_))
   refine bodyPost_ret (v:=.tuple #[.agg #[Value.int .i64 0,Value.int .u32 0,Value.string ⟨#[]⟩],.int .i64 72]) (by simp[results,results197,go_sem,cR,lR]) rfl ?_
   exact OpenPost.bad hE0.out (by decide) (by (repeat' (first|with_reducible (first|exact zho _ _|assumption|refine zhp ?_ ?_ _|refine zhq ?_|refine z00 ?_ _|refine zhr ?_ ?_ _|exact zhT _)|omega|(simp;done)|(simp;omega))))
  rw[if_neg (by simpa using hpl)]at hE0
  have hd6:(z0o xs 120 != a)=false:=by simpa using hpl
  clear hpl;go_wp2_with (first|(refine z0d rfl _ _ rfl w6.heap.size (L) rfl rfl bT z07 hLl ?_;obtain⟨W7,hW7⟩:∃W7,W7=World.setRow (w6.alloc (.cells (z03 zsec) 128)) w6.heap.size (z03 (L)):=⟨_,rfl⟩;rw[←hW7];have hB7:Below w6.heap.size w6 W7:=(by rw[hW7];exact Below.setRow ((zho _ _).alloc (zhT _) _) (zhT _) _);have bT7:Blk W7 w6.heap.size 128 (z03 (L)):=(by rw[hW7];exact Blk.setRow bT);have bS7:=bS6.belowAll hB7;have bR7:=bR6.belowAll hB7;have bN7:=bN6.belowAll hB7;have cR:=bR7.cells;have fR:=bR7.free;have lR:=bR7.lt;have cN:=bN7.cells;have B7:Below w.heap.size w W7:=B6.trans (hB7.mono B6.size);clear hW7 hB7)|(refine z1k (by rfl) _ rfl w6.heap.size rfl bT7 hLl ?_)|(refine z1k (by rfl) _ rfl w.heap.size rfl bS7 hl ?_))
  refine bodyPost_ret (v:=.tuple #[.agg #[.int .i64 x1,.int .u32 (z0o xs 4),.string (z0t xs)],.int .i64 0]) (by simp[results,results197,go_sem,cR,lR]) rfl ?_
  refine⟨by (repeat' (first|with_reducible (first|exact zho _ _|assumption|refine zhp ?_ ?_ _|refine zhq ?_|refine z00 ?_ _|refine zhr ?_ ?_ _|exact zhT _)|omega|(simp;done)|(simp;omega))),?_⟩
  unfold z5O;rw[hE0.out,if_pos rfl,HX1.out]
open Go.Maps
theorem zf3 (n:Nat)(hn:64≤n∧n≤256)(w:World):
  Calls prog 8 #[.int .i64 n] w fun e w'=>∃S,w.heap.size≤S∧e=.returned (.tuple #[.agg (z09 (.slice (some ⟨S,0,none⟩) n n) (.slice none 0 0) 0 (-1) false),.int .i64 0])∧w'.ownsRow w.heap.size 128 128 (.slice (some ⟨S,0,none⟩) n n) n ((List.replicate n zsec).flatMap secV)∧Below w.heap.size w w':=by
 obtain⟨w0,hw0⟩:∃w0,w0=w.alloc (.cells (z09 (.slice none 0 0) (.slice none 0 0) 0 0 false) 34):=⟨_,rfl⟩;obtain⟨i,hi,hz,hsz,hby⟩:=info_parts Tryz.infoSec3;have hmk:=run_make (P:=prog) w0 31 128 i _ underlying31 hi hz .i64 .i64 n n (by omega) (Int.le_refl _) (by rw[hby];omega) (by omega)
 rw[zhU,hsz]at hmk;obtain⟨w1,hw1⟩:∃w1,w1=w0.alloc (.cells ((List.replicate n zsec).flatMap secV).toArray 128):=⟨_,rfl⟩;have hmk2:(Instr.makeSlice 31 (.int .i64 n) (.int .i64 n)).run prog w0=.ok (.slice (some ⟨w0.heap.size,0,none⟩) n n) w1:=by
  rw[hmk,hw1];show Result.ok _ (w0.alloc (.cells (madeCells (fill (.int .u8 0) 128) (n*128)) 128))=_
  rw[z8N]
 clear hmk hi hz hsz hby;have bR0:Blk w0 w.heap.size 34 (z09 (.slice none 0 0) (.slice none 0 0) 0 0 false):=by rw[hw0];exact Blk.new _ _ _
 have B0:Below w.heap.size w w0:=by rw[hw0];exact(zho _ _).alloc (zhT _) _
 have hlt:=bR0.lt;have B01:Below w0.heap.size w0 w1:=by rw[hw1];exact(zho _ _).alloc (zhT _) _
 have own:w1.ownsRow w0.heap.size 128 128 (.slice (some ⟨w0.heap.size,0,none⟩) n n) n ((List.replicate n zsec).flatMap secV):=by
  refine⟨z3g n,.inr ⟨w0.heap.size,n,_,rfl,zhT _,by rw[hw1];exact heap_alloc_new w0 _,zhT _,by simp only[maxLen];omega,by simp only[List.size_toArray];exact z3g n,?_⟩⟩
  rw[List.take_of_length_le (by rw[z3g n];exact zhT _)]
 have bR1:=bR0.belowAll B01;have B1:=B0.trans (B01.mono B0.size);have hst:=z0q (ty:=34) (vs:=z09 (.slice (some ⟨w0.heap.size,0,none⟩) n n) (.slice none 0 0) 0 (-1) false) bR1 rfl (by simp[z09,Value.oneCell']) (by kernel_rfl)
 have hS:w0.heap.size=w.heap.size+1:=by rw[hw0];simp
 have bR2:=bR1.setRow (cs':=z09 (.slice (some ⟨w0.heap.size,0,none⟩) n n) (.slice none 0 0) 0 (-1) false);have own2:(w1.setRow w.heap.size (z09 (.slice (some ⟨w0.heap.size,0,none⟩) n n) (.slice none 0 0) 0 (-1) false)).ownsRow w0.heap.size 128 128 (.slice (some ⟨w0.heap.size,0,none⟩) n n) n ((List.replicate n zsec).flatMap secV):=
  z0c own fun q hq=>by
   have hq2:q=w0.heap.size:=by first|(cases hq;rfl)|(simpa using hq.symm)|(simpa using hq)
   exact z0b _ _ _ _ (by omega)
 have B2:Below w.heap.size w (w1.setRow w.heap.size (z09 (.slice (some ⟨w0.heap.size,0,none⟩) n n) (.slice none 0 0) 0 (-1) false)):=Below.setRow B1 (zhT _) _;rw[hS]at hmk2 hst bR2 own2 B2;unfold z09 at hst hw0 bR2 own2 B2;rw[hw0]at hmk2;clear own bR1 B1 bR0 B0 B01 hw0 hw1;obtain⟨W2,hW2⟩:∃W2,W2=w1.setRow w.heap.size #[.slice (some ⟨w.heap.size+1,0,none⟩) n n,.slice none 0 0,.int .i64 0,.int .i64 (-1),.bool false]:=⟨_,rfl⟩;rw[←hW2]at hst bR2 own2 B2;clear hW2;have cR:=bR2.cells;have lR:=bR2.lt;have n1:¬(n:Int)<64:=by omega
 have n2:¬256<(n:Int):=by omega
 go_enter func8,ntmps8
 go_wp2_with (refine z01 rfl _ _ _ rfl _ _ rfl rfl hst ?_)
 refine bodyPost_ret (v:=.tuple #[.agg (z09 (.slice (some ⟨w.heap.size+1,0,none⟩) n n) (.slice none 0 0) 0 (-1) false),.int .i64 0]) (by simp[results,results8,go_sem,cR,lR,z09]) rfl ?_
 exact⟨_,Nat.le_succ _,rfl,z0y own2 (Nat.le_succ _),B2⟩
theorem SecAt.belowAll {B:Nat}{w w':World}{p:Addr}{xs:List Int}(h:SecAt w p xs)(hb:Below B w w')(hp:p.block<B):SecAt w' p xs:=
 ⟨h.1,h.2.1,fun j hj=>(hb.cell (p:=⟨p.block,p.off+j,none⟩) hp).trans (h.2.2 j hj)⟩
theorem zbc {C0:Option Addr}{d0:Nat}(S n c k:Nat)(tk pw:Int)(off:Bool)(xs:List Int)(hk:k<n)(hn:n≤256)(w:World)(hSb:S<w.heap.size)(hS:SecAt w ⟨S,k*128,none⟩ xs):
  Calls prog 226 #[.agg (z09 (.slice (some ⟨S,0,none⟩) n c) (.slice C0 0 d0) tk pw off),.int .i64 k] w fun e w'=>e=.returned (.agg (z03 xs))∧Below w.heap.size w w':=by
 have hz:=z0S;have hxl:=hS.1;obtain⟨w0,hw0⟩:∃w0,w0=(w.alloc (.cells (z09 (.slice (some ⟨S,0,none⟩) n c) (.slice C0 0 d0) tk pw off) 34)).alloc (.cells (z03 zsec) 128):=⟨_,rfl⟩;have bD:Blk w0 w.heap.size 34 (z09 (.slice (some ⟨S,0,none⟩) n c) (.slice C0 0 d0) tk pw off):=by rw[hw0];exact(Blk.new _ _ _).alloc _
 have bR:Blk w0 (w.heap.size+1) 128 (z03 zsec):=by rw[hw0];exact Blk.new' (by simp)
 have B0:Below w.heap.size w w0:=by rw[hw0];(repeat' (first|with_reducible (first|exact zho _ _|assumption|refine zhp ?_ ?_ _|refine zhq ?_|refine z00 ?_ _|refine zhr ?_ ?_ _|exact zhT _)|omega|(simp;done)|(simp;omega)))
 have hS0:=hS.belowAll B0 hSb;unfold z09 at *;go_enter func226,ntmps226
 go_upto_region 1 with fail
 rw[←hw0];clear hw0;have cD:=bD.cells;have lD:=bD.lt;have hkn:(k:Int)<n:=by omega
 have bT:Blk (w0.alloc (.cells (z03 zsec) 128)) w0.heap.size 128 (z03 zsec):=Blk.new _ _ _;go_wp2_with (first
  | (refine z30 rfl _ rfl ⟨S,k*128,none⟩ (by first|rfl|simp) hS0 ?_)
  | (refine z0d rfl _ _ rfl w0.heap.size xs rfl rfl bT z07 hxl ?_;obtain⟨W1,hW1⟩:∃W1,W1=World.setRow (w0.alloc (.cells (z03 zsec) 128)) w0.heap.size (z03 xs):=⟨_,rfl⟩;rw[←hW1];have hB1:Below w0.heap.size w0 W1:=(by rw[hW1];exact Below.setRow ((zho _ _).alloc (zhT _) _) (zhT _) _);have bT1:Blk W1 w0.heap.size 128 (z03 xs):=(by rw[hW1];exact Blk.setRow bT);have bD1:=bD.belowAll hB1;have bR1:=bR.belowAll hB1;have cD1:=bD1.cells;have B1:Below w.heap.size w W1:=B0.trans (hB1.mono B0.size);clear hW1 hB1))
 have l0:=bT1.lt;have lD1:=bD1.lt;go_loopw [6] (fun q wr=>q=.int .i64 0∧wr=W1) (fun _ _=>0)
 case atStart=>exact⟨rfl,rfl⟩
 case round=>
  obtain⟨rfl,hw⟩:=hrel;subst hw;go_wp2_with (first
   | (refine z0u rfl _ rfl w0.heap.size rfl bT1 hxl ?_)
   | (refine z0d rfl _ _ rfl (w.heap.size+1) xs rfl rfl bR1 z07 hxl ?_))
  have bR2:=bR1.setRow (cs':=z03 xs);refine bodyPost_ret (results_cell_row rfl _ _ (w.heap.size+1) 128 (z03 xs) (0,0) _ rfl bR2 underlying128 rfl (by rw[z1v,hxl];exact z32)) rfl ?_
  exact⟨rfl,Below.setRow B1 (by omega) _⟩
theorem z8P {C0:Option Addr}{d0:Nat}(S n c k:Nat)(tk pw:Int)(xs:List Int)(hk:k<n)(hn:n≤256)(w:World)(hSb:S<w.heap.size)(hS:SecAt w ⟨S,k*128,none⟩ xs):
  Calls prog 196 #[.agg (z09 (.slice (some ⟨S,0,none⟩) n c) (.slice C0 0 d0) tk pw false),.int .i64 k] w fun e w'=>e=.returned (.tuple #[.agg (z03 xs),.int .i64 0])∧Below w.heap.size w w':=by
 have hz:=z0S;have hxl:=hS.1;obtain⟨w0,hw0⟩:∃w0,w0=(w.alloc (.cells (z09 (.slice (some ⟨S,0,none⟩) n c) (.slice C0 0 d0) tk pw false) 34)).alloc (.cells (z03 zsec) 128):=⟨_,rfl⟩;have bD:Blk w0 w.heap.size 34 (z09 (.slice (some ⟨S,0,none⟩) n c) (.slice C0 0 d0) tk pw false):=by rw[hw0];exact(Blk.new _ _ _).alloc _
 have bR:Blk w0 (w.heap.size+1) 128 (z03 zsec):=by rw[hw0];exact Blk.new' (by simp)
 have B0:Below w.heap.size w w0:=by rw[hw0];(repeat' (first|with_reducible (first|exact zho _ _|assumption|refine zhp ?_ ?_ _|refine zhq ?_|refine z00 ?_ _|refine zhr ?_ ?_ _|exact zhT _)|omega|(simp;done)|(simp;omega)))
 have hS0:=hS.belowAll B0 hSb;have hr:=zbc (C0:=C0) (d0:=d0) S n c k tk pw false xs hk hn w0 (zhR hSb B0.size) hS0;unfold z09 at *;go_enter func196,ntmps196
 go_upto_region 1 with fail
 rw[←hw0];clear hw0;have cD:=bD.cells;have lD:=bD.lt;have hkn:¬(n:Int)≤k:=by omega
 have hk0:¬(k:Int)<0:=by omega
 go_wp2_with fail
 refine hr.mono ?_;rintro e w1 ⟨rfl,hb1⟩;have bR1:=bR.belowAll hb1;have B1:=B0.trans (hb1.mono B0.size);go_wp2_with (refine z0d rfl _ _ rfl (w.heap.size+1) xs rfl rfl bR1 z07 hxl ?_)
 refine bodyPost_ret (z2a rfl rfl rfl (bR1.setRow (cs':=z03 xs)) hxl) rfl ?_;exact⟨rfl,Below.setRow B1 (by omega) _⟩
theorem zdI (a:Int)(xs:List Int):∃x y z,z5O a xs=#[.int .i64 x,.int .u32 y,.string z]:=by
 unfold z5O;split
 ·exact⟨_,_,_,rfl⟩
 ·exact⟨_,_,_,rfl⟩
theorem zfm {C0:Option Addr}{d0:Nat}(S n c k:Nat)(tk pw:Int)(xs:List Int)(hbx:z0V xs)(hk:k<n)(hn:n≤256)(w:World)(hSb:S<w.heap.size)(hS:SecAt w ⟨S,k*128,none⟩ xs):
  Calls prog 132 #[.agg (z09 (.slice (some ⟨S,0,none⟩) n c) (.slice C0 0 d0) tk pw false),.int .i64 k] w (OpenPost k xs w):=by
 have hz:=z0S;have hxl:=hS.1;obtain⟨w0,hw0⟩:∃w0,w0=(w.alloc (.cells (z09 (.slice (some ⟨S,0,none⟩) n c) (.slice C0 0 d0) tk pw false) 34)).alloc (.cells #[Value.int .i64 0,Value.int .u32 0,Value.string ⟨#[]⟩] 190):=⟨_,rfl⟩;have bD:Blk w0 w.heap.size 34 (z09 (.slice (some ⟨S,0,none⟩) n c) (.slice C0 0 d0) tk pw false):=by rw[hw0];exact(Blk.new _ _ _).alloc _
 have bR:Blk w0 (w.heap.size+1) 190 #[Value.int .i64 0,Value.int .u32 0,Value.string ⟨#[]⟩]:=by rw[hw0];exact Blk.new' (by simp)
 have B0:Below w.heap.size w w0:=by rw[hw0];(repeat' (first|with_reducible (first|exact zho _ _|assumption|refine zhp ?_ ?_ _|refine zhq ?_|refine z00 ?_ _|refine zhr ?_ ?_ _|exact zhT _)|omega|(simp;done)|(simp;omega)))
 have hS0:=hS.belowAll B0 hSb;have hr:=z8P (C0:=C0) (d0:=d0) S n c k tk pw xs hk hn w0 (zhR hSb B0.size) hS0;unfold z09 at *;go_enter func132,ntmps132
 go_upto_region 1 with fail
 rw[←hw0];clear hw0;have cD:=bD.cells;have lD:=bD.lt;go_wp2_with fail
 refine hr.mono ?_;rintro e w1 ⟨rfl,hb1⟩;have bR1:=bR.belowAll hb1;have B1:=B0.trans (hb1.mono B0.size);have bT:Blk (w1.alloc (.cells (z03 zsec) 128)) w1.heap.size 128 (z03 zsec):=Blk.new _ _ _;go_wp2_with (first
  | (refine z0u rfl _ rfl w1.heap.size rfl bT2 hxl ?_)
  | (refine z0d rfl _ _ rfl w1.heap.size xs rfl rfl bT z07 hxl ?_;obtain⟨W2,hW2⟩:∃W2,W2=World.setRow (w1.alloc (.cells (z03 zsec) 128)) w1.heap.size (z03 xs):=⟨_,rfl⟩;rw[←hW2];have hB2:Below w1.heap.size w1 W2:=(by rw[hW2];exact Below.setRow ((zho _ _).alloc (zhT _) _) (zhT _) _);have bT2:Blk W2 w1.heap.size 128 (z03 xs):=(by rw[hW2];exact Blk.setRow bT);have bR2:=bR1.belowAll hB2;have B2:Below w.heap.size w W2:=B1.trans (hB2.mono B1.size);clear hW2 hB2))
 refine(zdi k xs hxl hbx _).mono ?_;rintro e w3 ⟨hb3,rfl⟩;have bR3:=bR2.belowAll hb3;have B3:=B2.trans (hb3.mono B2.size);obtain⟨x,y,z,hv⟩:=zdI k xs;have cR:=bR3.cells;have fR:=bR3.free;have lR:=bR3.lt;have HV:=zhs hv;rw[hv];generalize hE:z1g k xs=E;have HE:=zhs hE;clear hv hE;go_wp2_with fail
 refine bodyPost_ret (v:=.tuple #[.agg #[.int .i64 x,.int .u32 y,.string z],.int .i64 E]) (by simp[results,results132,go_sem,cR,lR]) rfl ?_
 exact⟨by (repeat' (first|with_reducible (first|exact zho _ _|assumption|refine zhp ?_ ?_ _|refine zhq ?_|refine z00 ?_ _|refine zhr ?_ ?_ _|exact zhT _)|omega|(simp;done)|(simp;omega))),by rw[HV.out,HE.out]⟩
def stV (A:Option Addr)(c:Nat)(C:Option Addr)(d:Nat)(x:DevS):Value:=.agg (z09 (.slice A x.stable.length c) (.slice C x.cache.length d) x.taken x.power x.off)
def Lies (P:Nat→Prop)(A:Option Addr):Prop:=∀a,A=some a→P a.block∧a=⟨a.block,0,none⟩
theorem Lies.some {P:Nat→Prop}{b:Nat}(h:P b):Lies P (some ⟨b,0,Option.none⟩):=fun a e=>(by cases e;exact⟨h,rfl⟩)
theorem Lies.mono {P Q:Nat→Prop}{A:Option Addr}(h:Lies P A)(k:∀b,P b→Q b):Lies Q A:=fun a e=>⟨k _ (h a e).1,(h a e).2⟩
structure RSt (w:World)(P:Nat→Prop)(A:Option Addr)(C:Option Addr)(x:DevS):Prop where
 ok:x.Ok
 sta:Reads w A (x.stable.flatMap secV)
 cac:Reads w C (x.cache.flatMap dwV)
 la:Lies P A
 lc:x.cache=[]∨Lies P C
theorem RSt.below {w w':World}{P:Nat→Prop}{A C:Option Addr}{x:DevS}(h:RSt w P A C x)(hb:Below w.heap.size w w'):RSt w' P A C x:=⟨h.ok,h.sta.below hb,h.cac.below hb,h.la,h.lc⟩
theorem Reads.block_lt {w:World}{A:Option Addr}{xs:List Value}(h:Reads w A xs)(hx:xs≠[]):∀a,A=some a→a.block<w.heap.size:=fun a e=>by
 rcases h with h|⟨b,off,e2,hl,-⟩
 ·exact absurd h hx
 ·rw[e]at e2;cases e2;exact hl
theorem Reads.frame {w w':World}{A:Option Addr}{xs:List Value}(h:Reads w A xs)(hb:∀a,A=some a→a.block<w.heap.size→w'.heap[a.block]?=w.heap[a.block]?)(hs:w.heap.size≤w'.heap.size):Reads w' A xs:=by
 rcases h with h|⟨b,off,rfl,hl,hc⟩
 ·exact .inl h
 ·exact .inr ⟨b,off,rfl,zhR hl hs,fun k u hu=>(World.cell?_of_block (w:=w) (a:=⟨b,off+k,none⟩) (hb ⟨b,off,none⟩ rfl hl)).trans (hc k u hu)⟩
theorem z2B {l:List (List Int)}(h:∀s∈l,s.length=128):(l.flatMap secV).length=l.length*128:=by
 induction l with
 | nil=>rfl
 | cons s t ih=>
  rw[zhN,zhF,ih (fun s hs=>h s (zhJ _ hs)),zhO]
  have:=h s (zhK ..)
  simp only[secV,zhX,this];omega
theorem z5A {l:List (Int × List Int)}(h:∀p∈l,p.2.length=128):(l.flatMap dwV).length=l.length*129:=by
 induction l with
 | nil=>rfl
 | cons s t ih=>
  rw[zhN,zhF,ih (fun s hs=>h s (zhJ _ hs)),zhO]
  have:=h s (zhK ..)
  simp only[dwV,secV,zhO,zhX,this];omega
theorem zfs {l:List (List Int)}:∀u∈l.flatMap secV,u.oneCell'=true:=fun u hu=>by
 obtain⟨s,_,hs⟩:=List.mem_flatMap.1 hu;exact z3H s u hs
theorem zdM {l:List (Int × List Int)}:∀u∈l.flatMap dwV,u.oneCell'=true:=fun u hu=>by
 obtain⟨s,_,hs⟩:=List.mem_flatMap.1 hu;exact z3o s u hs
theorem RSt.sne {w:World}{P:Nat→Prop}{A C:Option Addr}{x:DevS}(h:RSt w P A C x):x.stable.flatMap secV≠[]:=fun e=>by
 have h1:=z2B fun s hs=>(h.ok.sec s hs).1
 rw[e]at h1;have:=h.ok.lo
 simp only[zhP]at h1;omega
theorem RSt.cne {w:World}{P:Nat→Prop}{A C:Option Addr}{x:DevS}(h:RSt w P A C x)(hc:x.cache≠[]):x.cache.flatMap dwV≠[]:=fun e=>by
 have h1:=z5A fun s hs=>(h.ok.cac s hs).2.2.1
 rw[e]at h1;have:x.cache.length≠0:=fun h=>hc (List.eq_nil_of_length_eq_zero h)
 simp only[zhP]at h1;omega
theorem RSt.mono {w:World}{P Q:Nat→Prop}{A C:Option Addr}{x:DevS}(h:RSt w P A C x)(k:∀b,P b→b<w.heap.size→Q b):RSt w Q A C x:=
 ⟨h.ok,h.sta,h.cac,fun a e=>⟨k _ (h.la a e).1 (h.sta.block_lt h.sne a e),(h.la a e).2⟩,by
  by_cases hc:x.cache=[]
  ·exact .inl hc
  ·rcases h.lc with hl|hl
   ·exact absurd hl hc
   ·exact .inr fun a e=>⟨k _ (hl a e).1 (h.cac.block_lt (h.cne hc) a e),(hl a e).2⟩⟩
theorem RSt.frame {w w':World}{P:Nat→Prop}{A C:Option Addr}{x:DevS}(h:RSt w P A C x)(hb:∀b,P b→b<w.heap.size→w'.heap[b]?=w.heap[b]?)(hs:w.heap.size≤w'.heap.size):RSt w' P A C x:=
 ⟨h.ok,h.sta.frame (fun a e hl=>hb _ (h.la a e).1 hl) hs,by
  by_cases hc:x.cache=[]
  ·exact .inl (by rw[hc];rfl)
  ·rcases h.lc with hl|hl
   ·exact absurd hl hc
   ·exact h.cac.frame (fun a e hlt=>hb _ (hl a e).1 hlt) hs,h.la,h.lc⟩
theorem RSt.row {w:World}{P:Nat→Prop}{A C:Option Addr}{x:DevS}(h:RSt w P A C x){g:Nat}(hg:∀b,P b→b≠g)(cs:Array Value):RSt (w.setRow g cs) P A C x:=h.frame (fun b hb _=>z0b w g b cs (hg b hb)) (by simp)
theorem RSt.cell {w:World}{P:Nat→Prop}{A C:Option Addr}{x:DevS}(h:RSt w P A C x){p:Addr}(hg:∀b,P b→b≠p.block)(u:Value):RSt (w.setCell p u) P A C x:=h.frame (fun b hb _=>Below.heap_setCell w p u b (hg b hb)) (by simp)
def Apt_ (P:Nat→Prop)(B E:Nat)(b:Nat):Prop:=P b∧(b<B∨E≤b)
theorem Apt_.new {P:Nat→Prop}{B E:Nat}(hP:∀b,B≤b→P b)(hBE:B≤E):∀b,E≤b→Apt_ P B E b:=fun b hb=>⟨hP b (zhS hBE hb),.inr hb⟩
theorem Apt_.ne {P:Nat→Prop}{B E g:Nat}(h1:B≤g)(h2:g<E):∀b,Apt_ P B E b→b≠g:=fun b hb e=>by rcases hb.2 with h|h<;>omega
theorem RSt.apt {w w0:World}{P:Nat→Prop}{A C:Option Addr}{x:DevS}(h:RSt w P A C x)(hb:Below w.heap.size w w0)(E:Nat):RSt w0 (Apt_ P w.heap.size E) A C x:=(h.mono fun _ h1 h2=>⟨h1,.inl h2⟩).below hb
theorem zcl (A:Option Addr)(n c:Nat)(xs:List Value)(hx:xs.length=n*128)(hn:n≤1000)(w:World)(hR:Reads w A xs)(h1:∀u∈xs,u.oneCell'=true):
  ∃v w',(Builtin.append_ #[31,31] 31 #[.slice (some ⟨w.heap.size,0,none⟩) 0 0,.slice A n c]).run prog (w.alloc (.cells #[] 128))=.ok v w'∧w'.ownsRow w.heap.size 128 128 v n xs∧Below w.heap.size w w':=by
 obtain⟨i,z,hi,hz,hsz,hby,hzs⟩:∃i z,prog.info? 128=some i∧i.zero=some z∧i.size=128∧i.bytes=128∧z.cells.size=128:=by
  have h0:((prog.info? 128).bind fun i=>i.zero.map fun z=>(i.size,i.bytes,z.cells.size))=some (128,128,128):=by kernel_rfl
  cases hi:prog.info? 128 with
  | none=>rw[hi]at h0;cases h0
  | some i=>
   rw[hi]at h0;cases hz:i.zero with
   | none=>rw[Option.bind_some,hz]at h0;cases h0
   | some z=>
    rw[Option.bind_some,hz]at h0;simp only[Option.map_some,Option.some.injEq,Prod.mk.injEq]at h0;exact⟨i,z,rfl,hz,h0.1,h0.2.1,h0.2.2⟩
 obtain⟨w0,hw0⟩:∃w0,w0=w.alloc (.cells #[] 128):=⟨_,rfl⟩;have hown0:w0.ownsRow w.heap.size 128 128 (.slice (some ⟨w.heap.size,0,none⟩) 0 0) 0 []:=by rw[hw0];exact World.ownsRow_made w #[] 0 (zhT _) (by simp) rfl
 have B0:Below w.heap.size w w0:=by rw[hw0];exact(zho _ _).alloc (zhT _) _
 rw[←hw0];rcases A with _|ad
 ·rcases hR with h|⟨b,off,hb,-⟩
  ·subst h;have hn0:n=0:=by simp at hx;omega
   subst hn0;exact⟨_,_,z16 w0 w.heap.size _ _ _ i 128 underlying31 hi _ _ _ hown0 c,hown0,B0⟩
  ·cases hb
 ·have hcells:∀j u,xs[j]?=some u→w0.cell? (ad.add j)=some u:=fun j u hu=>by
   rcases hR.below B0 with h|⟨b,off,hb,hlt,hc⟩
   ·subst h;simp at hu
   ·cases hb;rw[z1P];exact hc j u hu
  obtain⟨v1,w1,hrun,hown1,hg1,-,hat1⟩:=run_append_own_at (P:=prog) w0 w.heap.size 31 31 128 i z 128 128 underlying31 hi hz hsz hby hzs (by omega) _ _ _ hown0 ad n c xs hx hcells h1 (by simp only[maxLen];omega) (by omega) B0.size
  exact⟨v1,w1,hrun,by simpa using hown1,B0.grown hg1 B0.size (fun k hk=>by simp[Value.ownBlock]at hk;omega)⟩
theorem zc2 (A:Option Addr)(n c:Nat)(xs:List Value)(hx:xs.length=n*129)(hn:n≤1000)(w:World)(hR:Reads w A xs)(h1:∀u∈xs,u.oneCell'=true):
  ∃v w',(Builtin.append_ #[32,32] 32 #[.slice (some ⟨w.heap.size,0,none⟩) 0 0,.slice A n c]).run prog (w.alloc (.cells #[] 130))=.ok v w'∧w'.ownsRow w.heap.size 130 129 v n xs∧Below w.heap.size w w':=by
 obtain⟨i,z,hi,hz,hsz,hby,hzs⟩:∃i z,prog.info? 130=some i∧i.zero=some z∧i.size=129∧i.bytes=136∧z.cells.size=129:=by
  have h0:((prog.info? 130).bind fun i=>i.zero.map fun z=>(i.size,i.bytes,z.cells.size))=some (129,136,129):=by kernel_rfl
  cases hi:prog.info? 130 with
  | none=>rw[hi]at h0;cases h0
  | some i=>
   rw[hi]at h0;cases hz:i.zero with
   | none=>rw[Option.bind_some,hz]at h0;cases h0
   | some z=>
    rw[Option.bind_some,hz]at h0;simp only[Option.map_some,Option.some.injEq,Prod.mk.injEq]at h0;exact⟨i,z,rfl,hz,h0.1,h0.2.1,h0.2.2⟩
 obtain⟨w0,hw0⟩:∃w0,w0=w.alloc (.cells #[] 130):=⟨_,rfl⟩;have hown0:w0.ownsRow w.heap.size 130 129 (.slice (some ⟨w.heap.size,0,none⟩) 0 0) 0 []:=by rw[hw0];exact World.ownsRow_made w #[] 0 (zhT _) (by simp) rfl
 have B0:Below w.heap.size w w0:=by rw[hw0];exact(zho _ _).alloc (zhT _) _
 rw[←hw0];rcases A with _|ad
 ·rcases hR with h|⟨b,off,hb,-⟩
  ·subst h;have hn0:n=0:=by simp at hx;omega
   subst hn0;exact⟨_,_,z16 w0 w.heap.size _ _ _ i 129 underlying32 hi _ _ _ hown0 c,hown0,B0⟩
  ·cases hb
 ·have hcells:∀j u,xs[j]?=some u→w0.cell? (ad.add j)=some u:=fun j u hu=>by
   rcases hR.below B0 with h|⟨b,off,hb,hlt,hc⟩
   ·subst h;simp at hu
   ·cases hb;rw[z1P];exact hc j u hu
  obtain⟨v1,w1,hrun,hown1,hg1,-,hat1⟩:=run_append_own_at (P:=prog) w0 w.heap.size 32 32 130 i z 129 136 underlying32 hi hz hsz hby hzs (by omega) _ _ _ hown0 ad n c xs hx hcells h1 (by simp only[maxLen];omega) (by omega) B0.size
  exact⟨v1,w1,hrun,by simpa using hown1,B0.grown hg1 B0.size (fun k hk=>by simp[Value.ownBlock]at hk;omega)⟩
end Go.Proofs.YtejmknghkbobnaaGreatDoor
