import Derived.Test.YtejmknghkbobnaaGreatDoorPart00
import Derived.Test.YtejmknghkbobnaaGreatDoorPart04
import Derived.Laws.BytesArg
set_option linter.unusedVariables false
set_option linter.unusedSimpArgs false
set_option maxRecDepth 100000
set_option maxHeartbeats 8000000
namespace Go.Proofs.YtejmknghkbobnaaGreatDoor
open Go.Proofs.Tryz
open Go.RowKit
def z5W (xs:List Int):Bool:=((xs.take 120).drop (8+(xs.getD 2 0).toNat)).all (·==0)
def z1g (a:Int)(xs:List Int):Int:=
 if a<0∨256≤a then 7 else if xs=zsec then 70 else if z0o xs 124≠crc (xs.take 124)then 71 else
 if xs.getD 0 0≠76∨xs.getD 1 0=0∨120<8+xs.getD 2 0∨xs.getD 3 0≠0∨256≤z0o xs 120 then 6 else
 if z5W xs=false then 6 else if z0o xs 120≠a then 72 else 0
def z0t (xs:List Int):ByteArray:=strOfNums ((xs.take (8+(xs.getD 2 0).toNat)).drop 8)
def z5O (a:Int)(xs:List Int):Array Value:=if z1g a xs=0 then #[.int .i64 (xs.getD 1 0),.int .u32 (z0o xs 4),.string (z0t xs)]else #[Value.int .i64 0,Value.int .u32 0,Value.string ⟨#[]⟩]
def OpenPost (a:Int)(xs:List Int)(w:World)(e:Ending)(w':World):Prop:=
 Below w.heap.size w w'∧e=.returned (.tuple #[.agg (z5O a xs),.int .i64 (z1g a xs)])
theorem OpenPost.bad {a:Int}{xs:List Int}{w w':World}{E:Int}(hE:z1g a xs=E)(h0:E≠0)(hb:Below w.heap.size w w'):OpenPost a xs w (.returned (.tuple #[.agg #[Value.int .i64 0,Value.int .u32 0,Value.string ⟨#[]⟩],.int .i64 E])) w':=by
 subst hE;refine⟨hb,?_⟩
 unfold z5O;rw[if_neg h0]
theorem z1T (A:Option Addr)(n c:Nat)(xs:List Int)(hn:xs.length=n)(w:World)(hR:Reads w A (xs.map (.int .u8))):
  (convert 113 9 (.slice A n c)).run prog w=.ok (.string (strOfNums xs)) w:=by
 rcases hR with h|⟨b,off,rfl,hb,hc⟩
 ·have hx:xs=[]:=by simpa using h
  subst hx;have hn0:n=0:=by simpa using hn.symm
  subst hn0;rcases A with _|a
  ·exact run_convert_bytes_nil w 113 5 underlying113 underlying5 0 c 9 underlying9
  ·rw[run_convert_bytes_string w 113 9 5 _ 0 c underlying113 underlying5 underlying9,run_bytesToString w a 0 c [] (by simp[loadCells,loadCellsFrom])]
   rfl
 ·exact run_convert_bytes_arg w 113 5 underlying113 underlying5 b off n c xs hn (fun i hi=>by
   have:=hc i (.int .u8 (xs.getD i 0)) (by simp[zhx (show i<xs.length by omega)])
   exact this) 9 underlying9
theorem z7j {w:World}{g:Nat}{t:TypeId}{l:List Int}(h:Blk w g t (z03 l))(k n:Nat):Reads w (some ⟨g,k,none⟩) (((l.take n).drop k).map (Value.int .u8)):=
 .inr ⟨g,k,rfl,h.lt,fun j u hu=>by
  rw[h.cells];unfold z03;rw[List.map_drop,List.getElem?_drop,List.map_take,List.getElem?_take]at hu;split at hu
  ·simpa using hu
  ·cases hu⟩
theorem z7R {xs:List Int}{m:Nat}(hm:xs.getD 2 0=(m:Int))(hl:xs.length=128)(h112:m≤112):z5W xs=true↔∀p,p<112 - m→xs.getD (8+m+p) 0=0:=by
 unfold z5W;rw[hm,zhU,List.all_eq_true];constructor
 ·intro h p hp;have h1:((xs.take 120).drop (8+m))[p]?=some (xs.getD (8+m+p) 0):=by
   rw[List.getElem?_drop,List.getElem?_take,if_pos (by omega),zhw,zhx (by omega)];rfl
  have:=h _ (List.mem_of_getElem? h1)
  simpa using this
 ·intro h x hx;obtain⟨p,hp,rfl⟩:=List.mem_iff_getElem.1 hx;have hp2:p<112 - m:=by rw[zi7,zi6]at hp;omega
  have:=h p hp2
  rw[List.getElem_drop,List.getElem_take];rw[zhw,zhx (by omega)]at this
  simpa using this
theorem zf1 (a:Int)(xs:List Int)(hl:xs.length=128)(hbx:z0V xs)(w:World)(hH:HalfAt w):
  Calls prog 176 #[.int .i64 a,.agg (z03 xs)] w (OpenPost a xs w):=by
 have hbz:∀w:World,(binOp .eql 128 (.agg (z03 xs)) (.agg (z03 zsec))).run prog w=.ok (.bool (decide (xs=zsec))) w:=fun w=>zfh xs zsec hl z07 w
 have hz:=z0S;by_cases a1:a<0∨256≤a
 ·have hE:z1g a xs=7:=by unfold z1g;rw[if_pos a1]
  have HE:=zhs hE;clear hE;by_cases a2:a<0
  all_goals
   go_enter func176,ntmps176
   go_wp2_with fail
   have bR:Blk (((w.alloc (.cells (z03 xs) 128)).alloc (.cells #[Value.int .i64 0,Value.int .u32 0,Value.string ⟨#[]⟩] 190)).alloc (.cells #[Value.int .i64 0,Value.int .u32 0,Value.string ⟨#[]⟩] 190)) (w.heap.size+1) 190 #[Value.int .i64 0,Value.int .u32 0,Value.string ⟨#[]⟩]:=(Blk.new' (by simp)).alloc _
   have cR:=bR.cells;have lR:=bR.lt;refine bodyPost_ret (v:=.tuple #[.agg #[Value.int .i64 0,Value.int .u32 0,Value.string ⟨#[]⟩],.int .i64 7]) (by simp[results,results176,go_sem,cR,lR]) rfl ?_
   exact OpenPost.bad HE.out (by decide) (by (repeat' (first|with_reducible (first|exact zho _ _|assumption|refine zhp ?_ ?_ _|refine zhq ?_|refine z00 ?_ _|refine zhr ?_ ?_ _|exact zhT _)|omega|(simp;done)|(simp;omega))))
 ·have a2:¬a<0:=by omega
  have a3:¬256≤a:=by omega
  go_enter func176,ntmps176
  go_wp2_with fail
  have bS0:Blk (((w.alloc (.cells (z03 xs) 128)).alloc (.cells #[Value.int .i64 0,Value.int .u32 0,Value.string ⟨#[]⟩] 190)).alloc (.cells #[Value.int .i64 0,Value.int .u32 0,Value.string ⟨#[]⟩] 190)) w.heap.size 128 (z03 xs):=(by (repeat' (first|(with_reducible assumption)|exact Blk.new' (by simp)|refine Blk.alloc ?_ _)))
  refine(z2Y w.heap.size 4 4 rfl (by omega) xs hl _ bS0).mono ?_
  rintro e w1 ⟨rfl,rfl⟩;go_wp2_with fail
  refine(z2Y w.heap.size 120 120 rfl (by omega) xs hl _ (bS0.alloc _)).mono ?_
  rintro e w1 ⟨rfl,rfl⟩;go_wp2_with fail
  refine(z2Y w.heap.size 124 124 rfl (by omega) xs hl _ ((bS0.alloc _).alloc _)).mono ?_
  rintro e w1 ⟨rfl,rfl⟩;obtain⟨W4,hW4⟩:∃W4,W4=((((((w.alloc (.cells (z03 xs) 128)).alloc (.cells #[Value.int .i64 0,Value.int .u32 0,Value.string ⟨#[]⟩] 190)).alloc (.cells #[Value.int .i64 0,Value.int .u32 0,Value.string ⟨#[]⟩] 190)).alloc (.cells #[.slice (some ⟨w.heap.size,4,none⟩) 4 4] 113)).alloc (.cells #[.slice (some ⟨w.heap.size,120,none⟩) 4 4] 113)).alloc (.cells #[.slice (some ⟨w.heap.size,124,none⟩) 4 4] 113)):=⟨_,rfl⟩;have bS:Blk W4 w.heap.size 128 (z03 xs):=by rw[hW4];exact(by (repeat' (first|(with_reducible assumption)|exact Blk.new' (by simp)|refine Blk.alloc ?_ _)))
  have bR:Blk W4 (w.heap.size+1) 190 #[Value.int .i64 0,Value.int .u32 0,Value.string ⟨#[]⟩]:=by rw[hW4];exact((((Blk.new' (by simp)).alloc _).alloc _).alloc _).alloc _
  have bN:Blk W4 (w.heap.size+1+1) 190 #[Value.int .i64 0,Value.int .u32 0,Value.string ⟨#[]⟩]:=by rw[hW4];exact(((Blk.new' (by simp)).alloc _).alloc _).alloc _
  have b3:Blk W4 (w.heap.size+1+1+1) 113 #[.slice (some ⟨w.heap.size,4,none⟩) 4 4]:=by rw[hW4];exact(by (repeat' (first|(with_reducible assumption)|exact Blk.new' (by simp)|refine Blk.alloc ?_ _)))
  have b4:Blk W4 (w.heap.size+1+1+1+1) 113 #[.slice (some ⟨w.heap.size,120,none⟩) 4 4]:=by rw[hW4];exact(by (repeat' (first|(with_reducible assumption)|exact Blk.new' (by simp)|refine Blk.alloc ?_ _)))
  have b5:Blk W4 (w.heap.size+1+1+1+1+1) 113 #[.slice (some ⟨w.heap.size,124,none⟩) 4 4]:=by rw[hW4];exact(by (repeat' (first|(with_reducible assumption)|exact Blk.new' (by simp)|refine Blk.alloc ?_ _)))
  have B4:Below w.heap.size w W4:=by rw[hW4];(repeat' (first|with_reducible (first|exact zho _ _|assumption|refine zhp ?_ ?_ _|refine zhq ?_|refine z00 ?_ _|refine zhr ?_ ?_ _|exact zhT _)|omega|(simp;done)|(simp;omega)))
  rw[←hW4];clear hW4;have lS:=bS.lt;have l5:=b5.lt;have g0:W4.cell? ⟨w.heap.size,0,none⟩=some (.int .u8 (xs.getD 0 0)):=by rw[bS.cells];exact z0J (by omega)
  have g1:W4.cell? ⟨w.heap.size,1,none⟩=some (.int .u8 (xs.getD 1 0)):=by rw[bS.cells];exact z0J (by omega)
  have g2:W4.cell? ⟨w.heap.size,2,none⟩=some (.int .u8 (xs.getD 2 0)):=by rw[bS.cells];exact z0J (by omega)
  have g3:W4.cell? ⟨w.heap.size,3,none⟩=some (.int .u8 (xs.getD 3 0)):=by rw[bS.cells];exact z0J (by omega)
  have y2:=z0x hbx 2;have hHr:=hH.below B4 hH.1;obtain⟨x0,hx0⟩:∃x0,xs.getD 0 0=x0:=⟨_,rfl⟩;obtain⟨x1,hx1⟩:∃x1,xs.getD 1 0=x1:=⟨_,rfl⟩;obtain⟨x2,hx2⟩:∃x2,xs.getD 2 0=x2:=⟨_,rfl⟩;obtain⟨x3,hx3⟩:∃x3,xs.getD 3 0=x3:=⟨_,rfl⟩;have y0:=z0x hbx 0;have y1:=z0x hbx 1;have y3:=z0x hbx 3;rw[hx0]at g0 y0;rw[hx1]at g1 y1;rw[hx2]at g2 y2;rw[hx3]at g3 y3;have HX0:=zhs hx0;have HX1:=zhs hx1;have HX2:=zhs hx2;have HX3:=zhs hx3;clear hx0 hx1 hx2 hx3;have cR:=bR.cells;have fR:=bR.free;have lR:=bR.lt;have cN:=bN.cells;by_cases hzs:xs=zsec
  ·have hE:z1g a xs=70:=by unfold z1g;rw[if_neg a1,if_pos hzs]
   have HE:=zhs hE;have hd:decide (xs=zsec)=true:=decide_eq_true hzs;clear hE hzs;go_wp2_with (refine z0u rfl _ rfl w.heap.size rfl bS hl ?_)
   refine bodyPost_ret (v:=.tuple #[.agg #[Value.int .i64 0,Value.int .u32 0,Value.string ⟨#[]⟩],.int .i64 70]) (by simp[results,results176,go_sem,cR,lR]) rfl ?_
   exact OpenPost.bad HE.out (by decide) (by (repeat' (first|with_reducible (first|exact zho _ _|assumption|refine zhp ?_ ?_ _|refine zhq ?_|refine z00 ?_ _|refine zhr ?_ ?_ _|exact zhT _)|omega|(simp;done)|(simp;omega))))
  ·have hd:decide (xs=zsec)=false:=decide_eq_false hzs;have HZ:=zhs hzs;clear hzs;go_wp2_with (refine z0u rfl _ rfl w.heap.size rfl bS hl ?_)
   by_cases hsum:z0o xs 124=crc (xs.take 124)
   rotate_left;focus
    have hd2:(z0o xs 124 != crc (xs.take 124))=true:=by simpa using hsum
    have hE0:Hid (z1g a xs=71):=zhs (by unfold z1g;rw[if_neg a1,if_neg HZ.out,if_pos hsum])
    have hst:True:=trivial
   rotate_left;focus
    have hd2:(z0o xs 124 != crc (xs.take 124))=false:=by simpa using hsum
    have hE0:Hid (z1g a xs=if x0≠76∨x1=0∨120<8+x2∨x3≠0∨256≤z0o xs 120 then 6 else if z5W xs=false then 6 else if z0o xs 120≠a then 72 else 0):=
     zhs (by unfold z1g;rw[if_neg a1,if_neg HZ.out,if_neg (by simpa using hsum),HX0.out,HX1.out,HX2.out,HX3.out])
    have hst:True:=trivial
   all_goals clear hst hsum
   all_goals go_region_held3 (fun _=>True) (first|(trivial;done)|(go_keep;done))
    (first
     | (go_at_call 243;refine(z3G w.heap.size (w.heap.size+1+1+1+1+1) 124 (by omega) xs hl hbx W4.drew bS.drew b5.drew).mono ?_;rintro e w' ⟨rfl,rfl⟩)
     | (go_at_call 243;refine(z3G w.heap.size (w.heap.size+1+1+1+1+1) 124 (by omega) xs hl hbx w5 bS5 b55).mono ?_;rintro e w' ⟨rfl,rfl⟩)
     | (go_at_call 221;refine(zfF (some ⟨w.heap.size,0,none⟩) 124 128 (xs.take 124) (by rw[zi6];omega) (by omega) (z3N hbx _) W4.drew (hHr.below (zho _ _).drew hHr.1) (by rw[List.map_take];exact(z2d bS.drew).take 124)).mono ?_;rintro e w5 ⟨rfl,hb5⟩;have bS5:=bS.drew.belowAll hb5;have b55:=b5.drew.belowAll hb5))
   all_goals
    have bR5:=bR.drew.belowAll hb5;have bN5:=bN.drew.belowAll hb5;have b35:=b3.drew.belowAll hb5;have b45:=b4.drew.belowAll hb5;have B5:Below w.heap.size w w5:=B4.drew.trans (hb5.mono B4.size);have q0:w5.cell? ⟨w.heap.size,0,none⟩=some (.int .u8 x0):=by rw[bS5.cells,←HX0.out];exact z0J (by omega)
    have q1:w5.cell? ⟨w.heap.size,1,none⟩=some (.int .u8 x1):=by rw[bS5.cells,←HX1.out];exact z0J (by omega)
    have q3:w5.cell? ⟨w.heap.size,3,none⟩=some (.int .u8 x3):=by rw[bS5.cells,←HX3.out];exact z0J (by omega)
    clear hb5 cR fR lR cN g0 g1 g2 g3 B4 hHr;have cR:=bR5.cells;have fR:=bR5.free;have lR:=bR5.lt;have cN:=bN5.cells;have lS5:=bS5.lt
   ·have hrb:=z2I xs 120 4;by_cases hform:x0≠76∨x1=0∨120<8+x2∨x3≠0∨256≤z0o xs 120
    ·rw[if_pos hform]at hE0;by_cases c4:256≤z0o xs 120
     all_goals
      first|have hd4:decide (256≤z0o xs 120)=true:=decide_eq_true c4|have hd4:decide (256≤z0o xs 120)=false:=decide_eq_false c4
      have HF:=zhs hform;have HC4:=zhs c4;clear hform c4;go_wp2_with fail
      all_goals
       first
        | (
          refine bodyPost_ret (v:=.tuple #[.agg #[Value.int .i64 0,Value.int .u32 0,Value.string ⟨#[]⟩],.int .i64 6]) (by simp[results,results176,go_sem,cR,lR]) rfl ?_
          exact OpenPost.bad hE0.out (by decide) (by (repeat' (first|with_reducible (first|exact zho _ _|assumption|refine zhp ?_ ?_ _|refine zhq ?_|refine z00 ?_ _|refine zhr ?_ ?_ _|exact zhT _)|omega|(simp;done)|(simp;omega)))))
        | (
          refine(z3G w.heap.size (w.heap.size+1+1+1+1) 120 (by omega) xs hl hbx w5 bS5 b45).mono ?_
          rintro e w' ⟨rfl,rfl⟩;go_wp2_with fail
          all_goals first
           | (
            refine bodyPost_ret (v:=.tuple #[.agg #[Value.int .i64 0,Value.int .u32 0,Value.string ⟨#[]⟩],.int .i64 6]) (by simp[results,results176,go_sem,cR,lR]) rfl ?_
            exact OpenPost.bad hE0.out (by decide) (by (repeat' (first|with_reducible (first|exact zho _ _|assumption|refine zhp ?_ ?_ _|refine zhq ?_|refine z00 ?_ _|refine zhr ?_ ?_ _|exact zhT _)|omega|(simp;done)|(simp;omega)))))
           | (exfalso;have:=HF.out;have:=HC4.out;omega))
    ·rw[if_neg hform]at hE0;have hall:x0=76∧x1≠0∧x2≤112∧x3=0∧z0o xs 120<256:=by omega
     obtain⟨rfl,hx1,hx2,rfl,hx4⟩:=hall;have hd1:(x1==0)=false:=by simpa using hx1
     have hd4:decide (256≤z0o xs 120)=false:=by simpa using hx4
     clear hform;obtain⟨m,rfl⟩:=Int.eq_ofNat_of_zero_le y2.1;have hm:m≤112:=by omega
     have hal:prog.arrayLen 128=128:=by kernel_rfl
     have hsz:∀w:World,(sizeOf (prog.elem 128)).run prog w=.ok 1 w:=fun w=>by kernel_rfl
     have hsl1:∃off,(m<112→off=8+m)∧∀w0:World,(Instr.sliceAt 128 (.pointer (some ⟨w.heap.size,0,none⟩)) (some (.int .i64 (8+(m:Int)))) (some (.int .i64 120)) (some (.int .i64 120))).run prog w0=.ok (.slice (some ⟨w.heap.size,off,none⟩) (112 - m) (112 - m)) w0:=by
      refine⟨if m=112 then 0 else 8+m,fun h=>by rw[if_neg (by omega)],fun w0=>?_⟩
      rw[run_sliceAt_array_lhm w0 128 _ (by kernel_rfl) .i64 .i64 .i64 (8+(m:Int)) 120 120 (by omega) (by omega) (by omega) (by rw[hal];omega),hsz]
      have h1:(8+(m:Int)).toNat=8+m:=by omega
      have h2:(120:Int).toNat=120:=rfl;simp only[Result.andThen_ok,slicedAt,h1,h2,Nat.mul_one];rw[show 120 - (8+m)=112 - m by omega]
      by_cases h:m=112
      ·rw[if_pos (by omega),if_pos h]
      ·rw[if_neg (by omega),if_neg h];simp[Addr.add]
     obtain⟨off,hoff,hsl1⟩:=hsl1;have HOFF:=zhs hoff;clear hoff;have hsl2:∀w0:World,(Instr.sliceAt 128 (.pointer (some ⟨w.heap.size,0,none⟩)) (some (.int .i64 8)) (some (.int .i64 (8+(m:Int)))) none).run prog w0=.ok (.slice (some ⟨w.heap.size,8,none⟩) m 120) w0:=fun w0=>by
      rw[run_sliceAt_array_lh w0 128 _ (by kernel_rfl) .i64 .i64 8 (8+(m:Int)) (by omega) (by omega) (by rw[hal];omega),hsz]
      have h1:(8+(m:Int)).toNat=8+m:=by omega
      have h2:(8:Int).toNat=8:=rfl;simp only[Result.andThen_ok,slicedAt,h1,h2,Nat.mul_one,hal];rw[show 8+m - 8=m by omega]
      simp[Addr.add]
     have hsm:IntKind.i64.wrap ((112 - m:Nat):Int)=((112 - m:Nat):Int):=by rw[IntKind.wrap_i64];omega
     go_wp2_with fail
     refine(z3G w.heap.size (w.heap.size+1+1+1+1) 120 (by omega) xs hl hbx w5 bS5 b45).mono ?_
     rintro e v1 ⟨rfl,rfl⟩;go_wp2_with fail
     go_loopw [15,79] (fun _ q wr=>∃k:Nat,k≤112 - m∧q=.int .i64 k∧(∀p,p<k→xs.getD (8+m+p) 0=0)∧wr=v1) (fun _ q _=>(112 - m) - (intOf q).toNat)
     case atStart=>exact⟨0,zi9 _,rfl,fun p h=>absurd h (by omega),rfl⟩
     case round=>
      obtain⟨k,hk,rfl,hz0,hw⟩:=hrel;subst hw;by_cases hlt:k<112 - m
      ·have ho:=HOFF.out (by omega)
       subst ho;have hc:wr.cell? ⟨w.heap.size,8+m+k,none⟩=some (.int .u8 (xs.getD (8+m+k) 0)):=by rw[bS5.cells];exact z0J (by omega)
       have hpd:=(z7R HX2.out hl hm).1;by_cases hb:xs.getD (8+m+k) 0=0
       ·rw[hb]at hc;have HB:=zhs hb;have HZ0:=zhs hz0;clear hb hpd hz0;go_wp2_with fail
        go_roundw
        case rel=>exact⟨k+1,by omega,by go_num,fun p hp=>by
         by_cases hpk:p=k
         ·subst hpk;exact HB.out
         ·exact HZ0.out p (by omega),by first|trivial|rfl⟩
        case measure=>simp[intOf];omega
       ·have hpf:z5W xs=false:=by
         cases hq:z5W xs
         ·rfl
         ·exact absurd (hpd hq k hlt) hb
        rw[if_pos hpf]at hE0;have hd5:(xs.getD (8+m+k) 0 != 0)=true:=by simpa using hb
        generalize xs.getD (8+m+k) 0=y at hc hd5;clear hpd hb hpf hz0;go_wp2_with fail
        refine bodyPost_ret (v:=.tuple #[.agg #[Value.int .i64 0,Value.int .u32 0,Value.string ⟨#[]⟩],.int .i64 6]) (by simp[results,results176,go_sem,cR,lR]) rfl ?_
        exact OpenPost.bad hE0.out (by decide) (by (repeat' (first|with_reducible (first|exact zho _ _|assumption|refine zhp ?_ ?_ _|refine zhq ?_|refine z00 ?_ _|refine zhr ?_ ?_ _|exact zhT _)|omega|(simp;done)|(simp;omega))))
      ·obtain rfl:k=112 - m:=by omega
       have hpad:z5W xs=true:=(z7R HX2.out hl hm).2 hz0;rw[if_neg (by rw[hpad];simp)]at hE0
       clear hz0 hpad;go_wp2_with fail
       refine(z3G w.heap.size (w.heap.size+1+1+1+1) 120 (by omega) xs hl hbx wr bS5 b45).mono ?_
       rintro e v2 ⟨rfl,rfl⟩;by_cases hpl:z0o xs 120=a
       ·rw[if_neg (by simpa using hpl)]at hE0
        have hd6:(z0o xs 120 != a)=false:=by simpa using hpl
        clear hpl;go_wp2_with fail
        have hos:z0t xs=strOfNums ((xs.take (8+m)).drop 8):=by unfold z0t;rw[HX2.out,zhU]
        have hcv:=z1T (some ⟨w.heap.size,8,none⟩) m 120 ((xs.take (8+m)).drop 8) (by rw[zi7,zi6];omega) v2.drew (z7j bS5.drew 8 (8+m))
        have hwx:IntKind.i64.wrap x1=x1:=by rw[IntKind.wrap_i64];omega
        have HOS:=zhs hos;clear hos hsl1 HOFF;refine z06 [.take 0,.take 1,.take 2,.take 3,.take 5,.take 6,.take 7,.one 4,.one 8,.one 9,.one 10] 9 (fun w'=>w'=v2.drew) (by kernel_rfl) (by kernel_rfl) (fun _ _ _ _ _ h=>h) rfl ?_
        simp only[zhY,zhZ,Ms.fill,zhy,zhz];iterate 7 (refine z04 (by rfl) ?_ (fun w' hw'=>?_) ?_;rotate_left;(focus (subst hw';go_simp;(try with_reducible rfl)));(try simp only[Act.put,zht,zhu,zhv]))
        refine z05 (by rfl) fun K hK=>?_
        go_simp;refine(z3G w.heap.size (w.heap.size+1+1+1) 4 (by omega) xs hl hbx v2.drew bS5.drew b35.drew).mono ?_
        rintro e w' ⟨rfl,rfl⟩;refine hK _ _ (fun _=>rfl) ?_
        clear hK K;refine z05 (by rfl) fun K hK=>?_
        go_simp;refine hK _ _ (fun _=>rfl) ?_
        clear hK K;refine z05 (by rfl) fun K hK=>?_
        go_simp;refine hK _ _ (fun h=>absurd h (by omega)) ?_
        clear hK K;refine z05 (by rfl) fun K hK=>?_
        go_simp;refine hK _ _ (fun h=>absurd h (by omega)) ?_
        clear hK K;refine z0f ?_
        all_goals
         go_wp2_with fail
         refine bodyPost_ret (v:=.tuple #[.agg #[.int .i64 x1,.int .u32 (z0o xs 4),.string (strOfNums ((xs.take (8+m)).drop 8))],.int .i64 0]) (by simp[results,results176,go_sem,cR,lR]) rfl ?_
         refine⟨by (repeat' (first|with_reducible (first|exact zho _ _|assumption|refine zhp ?_ ?_ _|refine zhq ?_|refine z00 ?_ _|refine zhr ?_ ?_ _|exact zhT _)|omega|(simp;done)|(simp;omega))),?_⟩
         unfold z5O;rw[hE0.out,if_pos rfl,HX1.out,HOS.out]
       ·rw[if_pos hpl]at hE0;have hd6:(z0o xs 120 != a)=true:=by simpa using hpl
        clear hpl;go_wp2_with fail
        refine bodyPost_ret (v:=.tuple #[.agg #[Value.int .i64 0,Value.int .u32 0,Value.string ⟨#[]⟩],.int .i64 72]) (by simp[results,results176,go_sem,cR,lR]) rfl ?_
        exact OpenPost.bad hE0.out (by decide) (by (repeat' (first|with_reducible (first|exact zho _ _|assumption|refine zhp ?_ ?_ _|refine zhq ?_|refine z00 ?_ _|refine zhr ?_ ?_ _|exact zhT _)|omega|(simp;done)|(simp;omega))))
   ·go_wp2_with fail
    refine bodyPost_ret (v:=.tuple #[.agg #[Value.int .i64 0,Value.int .u32 0,Value.string ⟨#[]⟩],.int .i64 71]) (by simp[results,results176,go_sem,cR,lR]) rfl ?_
    exact OpenPost.bad hE0.out (by decide) (by (repeat' (first|with_reducible (first|exact zho _ _|assumption|refine zhp ?_ ?_ _|refine zhq ?_|refine z00 ?_ _|refine zhr ?_ ?_ _|exact zhT _)|omega|(simp;done)|(simp;omega))))
end Go.Proofs.YtejmknghkbobnaaGreatDoor
