import Derived.Test.YtejmknghkbobnaaGreatDoorPart43
set_option linter.all false
set_option maxRecDepth 100000
set_option maxHeartbeats 0
namespace Go.Proofs.YtejmknghkbobnaaGreatDoor
open Go.Proofs.Tryz
open Go.ChangeShapes Go.WideShapes Go.ChangeAt Go.RowKit Go.Joins Go.Deep
theorem z43 (os:Os)(J:os.Started)(H:Type)(enc:TypeId × Value->H):
  ReturnsInHanded {} Tryz.checked os 4 .any (fun w args=>(Rows.dataPlaysSpec.pre enc prog Tryz.f4 [] false w args/\laidMetH prog half1 w)/\sizedMet enc prog Tryz.f4 (OpenSpec.ofChange Rows.dataPlaysSpec) false w args)
   (Rows.dataPlaysSpec.post enc prog Tryz.f4 false true false false):=by
 refine returnsInHanded_of_change_and (C:=Tryz.checked) (X:=fun w _=>laidMetH prog half1 w) (fun _ _ _ hh h=>h.of_heap hh) Tryz.own J (by kernel_rfl) func4
  (ChangeSpec.witness_shaped (enc:=enc) (C:=Tryz.checked) (os:=os) (X:=fun w _=>laidMetH prog half1 w) false (World.doorLaid prog 400 os) #[.agg #[.int .u8 0,.int .u8 0],.slice none 0 0] 8 rfl (World.shaped_of_RefB (by kernel_rfl) (by kernel_rfl)) (by kernel_rfl) (by kernel_rfl) (by kernel_rfl) (za3 os _)) ?_
 intro W base args ds gs U I hW _ _ hL _;have D:∀(j:Nat) t v,Tryz.f4.params[j]?=some t->args[j]?=some v->Value.okWide prog W .any base t v:=I;have K:=hW;obtain⟨p,q,O,hV,rfl,an,ao⟩:=hW;have hA:DataW.TrodAll enc prog W 0 (fun _=>true) true Tryz.f4.params.toList args.toList ds p:=O
 rw[params4]at hA D;obtain⟨v0,v1,d0,d1,p0,p1,rfl,rfl,rfl,h0,h1⟩:=trodAll_two hA;obtain⟨rfl,rfl⟩:=trodVars_none hV;have hH:=z3V hL;have V:=h0;have Y:=h1;clear O I;simp only[mp]at K;have S:∀x∈p0,x.block<W.heap.size:=fun x hx=>by simpa using K.lt x (by simp[hx])
 have T:∀x∈p1,x.block<W.heap.size:=fun x hx=>by simpa using K.lt x (by simp[hx])
 obtain⟨jn,ac,rfl,hj,hi⟩:=z7d (D 0 65 v0 rfl rfl) h0;obtain⟨A,c,xs,rfl,hR,ab,hl⟩:=z91 (D 1 66 v1 rfl rfl) h1;refine(z2x jn ac hj hi A c xs hl W ab hH hR).mono fun e W' ⟨he,M⟩=>?_
 subst he;refine⟨_,rfl,_,_,_,[],p0++p1,[],K,?_,?_,rfl,M.frame _,fun h=>by cases h⟩
 ·exact trodAll_mk1 (shut_bool underlying4 true)
 ·exact trodAll_mk2 (Below.trod Tryz.laidOut (by kernel_rfl) (of_decide_eq_true (by kernel_rfl)) V M S) (Below.trod Tryz.laidOut (by kernel_rfl) (of_decide_eq_true (by kernel_rfl)) Y M T)
theorem z0T:Rows.DataPlaysSaid:=
 OpenClaim.holds_of_wide 4 Tryz.f4 rfl rfl rfl rfl rfl rfl rfl ⟨rfl,rfl,rfl,rfl,rfl⟩ rfl rfl rfl rfl rfl (by kernel_rfl) func4 (by kernel_rfl)
  (of_decide_eq_true (by kernel_rfl)) (by unfold Func.isWrapper;first|(rw[if_pos (by decide +kernel)];kernel_rfl)|(rw[if_neg (by decide +kernel)];exact⟨rfl,rfl⟩))
  (fun D c H A _=>z43 D c H A)
theorem dataPlaysCard_holds:Rows.DataPlaysCardSaid:=
 Claim7.holds_tied_plain_at .later [] [.data] true (true, "923e89126de76aaf192b6716f88a00228ad1135a80823431eaf3619d81b59a0f") false
  z0T (fun _ h=>by cases h) (by kernel_rfl) (fun _ h=>by cases h) dataPlays_row_tie rfl ⟨rfl,rfl⟩ (by kernel_rfl) rfl
  (fun f I hf A=>by
   obtain rfl : f = 4 := Option.some.inj ((show prog.funcNamed "limewash/limewashlaw12.DataPlays" = some 4 by kernel_rfl).symm.trans hf) |>.symm
   obtain rfl:I=Tryz.f4:=(Option.some.inj (func4.symm.trans A)).symm;exact⟨by kernel_rfl,fun j t D=>by
    rw[params4]at D;have J:t∈[65,66]:=by simpa using Array.mem_of_getElem? D
    have c:([65,66].all fun u=>!Tryz.prog.wantsStandIn u)=true:=by kernel_rfl
    exact(show prog.wantsStandIn t=false by simpa using List.all_eq_true.1 c t J)⟩)
  (by kernel_rfl)
#print axioms dataPlaysCard_holds
end Go.Proofs.YtejmknghkbobnaaGreatDoor
