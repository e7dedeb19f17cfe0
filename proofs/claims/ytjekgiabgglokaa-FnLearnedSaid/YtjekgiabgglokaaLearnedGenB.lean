import Derived.Test.YtjekgiabgglokaaLearnedGenA
import Derived.Test.YtjekgiabgglokaaProg
set_option linter.unusedVariables false
set_option linter.unusedSimpArgs false
set_option linter.unusedSectionVars false
namespace Go.Proofs
open Go.Ide
noncomputable def iF (a0:eC)(a1:List (List Int))(a2:List (List Int))(s7:Int×List Nat×List Nat×List Nat)(gN:Int×List Nat×List Nat):Option ((Int×List Nat×List Nat)⊕((List Nat×List Nat))):=
 bif (decide (gN.1<(ai (List.getD a1 (Int.toNat s7.1) ([]:List Int))))) then
  az ((0:Int)≤gN.1∧gN.1<ai (List.getD a1 (Int.toNat s7.1) ([]:List Int))) (
   az ((0:Int)≤gN.1∧gN.1<ai (List.getD a2 (Int.toNat s7.1) ([]:List Int))) (
    az ((0:Int)≤(al .i64 (aU .i64 (List.getD (List.getD a2 (Int.toNat s7.1) ([]:List Int)) (Int.toNat gN.1) (0:Int)) a0.2.1) (List.getD (List.getD a1 (Int.toNat s7.1) ([]:List Int)) (Int.toNat gN.1) (0:Int)))∧(al .i64 (aU .i64 (List.getD (List.getD a2 (Int.toNat s7.1) ([]:List Int)) (Int.toNat gN.1) (0:Int)) a0.2.1) (List.getD (List.getD a1 (Int.toNat s7.1) ([]:List Int)) (Int.toNat gN.1) (0:Int)))<ai gN.2.2) (
     (some (List.set gN.2.2 (Int.toNat (al .i64 (aU .i64 (List.getD (List.getD a2 (Int.toNat s7.1) ([]:List Int)) (Int.toNat gN.1) (0:Int)) a0.2.1) (List.getD (List.getD a1 (Int.toNat s7.1) ([]:List Int)) (Int.toNat gN.1) (0:Int)))) (av .add .f32 (List.getD gN.2.2 (Int.toNat (al .i64 (aU .i64 (List.getD (List.getD a2 (Int.toNat s7.1) ([]:List Int)) (Int.toNat gN.1) (0:Int)) a0.2.1) (List.getD (List.getD a1 (Int.toNat s7.1) ([]:List Int)) (Int.toNat gN.1) (0:Int)))) (0:Nat)) (1065353216:Nat)))).bind fun Tp=>
     az ((0:Int)≤(al .i64 gN.1 (1:Int))∧(al .i64 gN.1 (1:Int))<ai (List.getD a2 (Int.toNat s7.1) ([]:List Int))) (
      az ((0:Int)≤(al .i64 (aU .i64 (List.getD (List.getD a2 (Int.toNat s7.1) ([]:List Int)) (Int.toNat gN.1) (0:Int)) a0.1) (List.getD (List.getD a2 (Int.toNat s7.1) ([]:List Int)) (Int.toNat (al .i64 gN.1 (1:Int))) (0:Int)))∧(al .i64 (aU .i64 (List.getD (List.getD a2 (Int.toNat s7.1) ([]:List Int)) (Int.toNat gN.1) (0:Int)) a0.1) (List.getD (List.getD a2 (Int.toNat s7.1) ([]:List Int)) (Int.toNat (al .i64 gN.1 (1:Int))) (0:Int)))<ai gN.2.1) (
       some (.inl ((al .i64 gN.1 (1:Int)),(List.set gN.2.1 (Int.toNat (al .i64 (aU .i64 (List.getD (List.getD a2 (Int.toNat s7.1) ([]:List Int)) (Int.toNat gN.1) (0:Int)) a0.1) (List.getD (List.getD a2 (Int.toNat s7.1) ([]:List Int)) (Int.toNat (al .i64 gN.1 (1:Int))) (0:Int)))) (av .add .f32 (List.getD gN.2.1 (Int.toNat (al .i64 (aU .i64 (List.getD (List.getD a2 (Int.toNat s7.1) ([]:List Int)) (Int.toNat gN.1) (0:Int)) a0.1) (List.getD (List.getD a2 (Int.toNat s7.1) ([]:List Int)) (Int.toNat (al .i64 gN.1 (1:Int))) (0:Int)))) (0:Nat)) (1065353216:Nat))),Tp)))))))
 else
  some (.inr (gN.2.1,gN.2.2))
noncomputable def kT (a0:eC)(a1:List (List Int))(a2:List (List Int))(s7:Int×List Nat×List Nat×List Nat):Option ((Int×List Nat×List Nat×List Nat)⊕((List Nat×List Nat×List Nat)⊕Unit)):=
 bif (decide (s7.1<(ai a1))) then
  az ((0:Int)≤s7.1∧s7.1<ai a1) (
   az ((0:Int)≤s7.1∧s7.1<ai a2) (
    (eG (a0.1,a0.2.1,a0.2.2.1,a0.2.2.2.1,a0.2.2.2.2) (List.getD a1 (Int.toNat s7.1) ([]:List Int)) (List.getD a2 (Int.toNat s7.1) ([]:List Int))).bind fun kB=>
    bif (!kB) then
     some (.inr (.inr ()))
    else
     az ((0:Int)≤(0:Int)∧(0:Int)<ai (List.getD a2 (Int.toNat s7.1) ([]:List Int))) (
      az ((0:Int)≤(List.getD (List.getD a2 (Int.toNat s7.1) ([]:List Int)) (Int.toNat (0:Int)) (0:Int))∧(List.getD (List.getD a2 (Int.toNat s7.1) ([]:List Int)) (Int.toNat (0:Int)) (0:Int))<ai s7.2.1) (
       (some (List.set s7.2.1 (Int.toNat (List.getD (List.getD a2 (Int.toNat s7.1) ([]:List Int)) (Int.toNat (0:Int)) (0:Int))) (av .add .f32 (List.getD s7.2.1 (Int.toNat (List.getD (List.getD a2 (Int.toNat s7.1) ([]:List Int)) (Int.toNat (0:Int)) (0:Int))) (0:Nat)) (1065353216:Nat)))).bind fun Bt=>
       (rounds (iF a0 a1 a2 s7) ((0:Int),s7.2.2.1,s7.2.2.2)).bind fun UU=>
       some (.inl ((al .i64 s7.1 (1:Int)),Bt,UU.1,UU.2))))))
 else
  some (.inr (.inl (s7.2.1,s7.2.2.1,s7.2.2.2)))
noncomputable def iP (a0:eC)(a1:List (List Int))(a2:List (List Int)):Option ((eC)×Bool):=
 (show Option (Bool) from
  (cw (a0.1,a0.2.1,a0.2.2.1,a0.2.2.2.1,a0.2.2.2.2) a1).bind fun V5=>
  bif (!V5) then
   some true
  else
   some ((ai a2) != (ai a1))).bind fun v1=>
 bif v1 then
  some (((0:Int),(0:Int),([]:List Nat),([]:List Nat),([]:List Nat)),false)
 else
  (dK (a0.1,a0.2.1,a0.2.2.1,a0.2.2.2.1,a0.2.2.2.2)).bind fun y5=>
  (rounds (kT a0 a1 a2) ((0:Int),y5.1,y5.2.1,y5.2.2)).bind fun r8=>match r8 with
   | .inl r9=>
    (gq (a0.1,a0.2.1,a0.2.2.1,a0.2.2.2.1,a0.2.2.2.2) (r9.1,r9.2.1,r9.2.2)).bind fun fP=>
    some ((fP.1.1,fP.1.2.1,fP.1.2.2.1,fP.1.2.2.2.1,fP.1.2.2.2.2),fP.2)
   | .inr Kt=>
    some (((0:Int),(0:Int),([]:List Nat),([]:List Nat),([]:List Nat)),false)
theorem RS {a0:eC}{a1:List (List Int)}{a2:List (List Int)}{r:(eC)×Bool}(hr:iP a0 a1 a2=some r):CallOK Try.prog 29 [.au tM a0,.au (.sl bM) a1,.au (.sl bM) a2] [⟨true,tM,r.1⟩,⟨false,.bool,r.2⟩] []:=by
 unfold iP at hr;refine ij [(true,tM),(false,.bool)] Try.func29 rfl [] fun cx hX hF=> ?_;show HT cx ⟨[(0,.agg [iC a0.1,iC a0.2.1,lC a0.2.2.1,lC a0.2.2.2.1,lC a0.2.2.2.2]),(1,.one (.aq (.sl bM) a1)),(2,.one (.aq (.sl bM) a2))],[],0⟩ _ _;refine ay (aO 3) ⟨[(1,.one (.aq (.sl bM) a1)),(2,.one (.aq (.sl bM) a2)),(3,pV 0 0),(6,pV 1 0)],[(1,.box [iC (0:Int),iC (0:Int),.ar,.ar,.ar]),(0,cb a0)],2⟩ hX aN ?_;refine HT.seq ?_;obtain ⟨qW,bz,hr⟩:=af hr;refine HT.join (fun (v1:Bool)=>⟨[(1,.one (.aq (.sl bM) a1)),(2,.one (.aq (.sl bM) a2)),(3,pV 0 0),(6,pV 1 0),(24,bV v1)],[(0,cb a0),(1,.box [iC (0:Int),iC (0:Int),.ar,.ar,.ar])],2⟩) (fun v=>v=qW) (fun v1 ov=> ?_) (fun cont=> ?_);subst ov;rcases an hr with ⟨dD,hr⟩|⟨dD,hr⟩
 refine HT.aK rfl dD ?_;refine ay (aO 3) ⟨[(6,pV 1 0),(7,bV false)],[(1,.box [iC (0:Int),iC (0:Int),.ar,.ar,.ar])],2⟩ hX aN ?_;have hr:=ae hr;subst hr;exact HT.ret (aM (rO [.agg [iC (0:Int),iC (0:Int),.ar,.ar,.ar],bV false] [] [] trivial));refine HT.aJ rfl dD ?_;refine HT.skip (aj ?_);obtain ⟨y5,JX,hr⟩:=af hr;refine ay [oH,⟨none,.call [.au tM] [⟨true,(.st (.pair aY (.pair aY aY))),y5⟩] []⟩,oH,oH] ⟨[(1,.one (.aq (.sl bM) a1)),(2,.one (.aq (.sl bM) a2)),(3,pV 0 0),(6,pV 1 0),(8,pV 5 0)],[(5,.box [.all 2,.all 3,.all 4]),(2,.seq tF y5.1),(3,.seq tF y5.2.1),(4,.seq tF y5.2.2),(0,cb a0),(1,.box [iC (0:Int),iC (0:Int),.ar,.ar,.ar])],6⟩ hX (aC (L0 JX) aN) ?_;refine HT.seq ?_;refine ay (aO 3) ⟨[(2,.one (.aq (.sl bM) a2)),(3,pV 0 0),(6,pV 1 0),(8,pV 5 0),(28,.one (.aq (.sl bM) a1)),(29,iV (ai a1)),(30,iV (0:Int))],[(5,.box [.all 2,.all 3,.all 4]),(2,.seq tF y5.1),(3,.seq tF y5.2.1),(4,.seq tF y5.2.2),(0,cb a0),(1,.box [iC (0:Int),iC (0:Int),.ar,.ar,.ar])],6⟩ hX aN ?_;refine HT.block ?_;obtain ⟨r8,Ru,hr⟩:=af hr;refine HT.ct (fun (s7:Int×List Nat×List Nat×List Nat)=>⟨[(2,.one (.aq (.sl bM) a2)),(3,pV 0 0),(6,pV 1 0),(8,pV 2 0),(28,.one (.aq (.sl bM) a1)),(29,iV (ai a1)),(30,iV s7.1)],[(0,cb a0),(1,.box [iC (0:Int),iC (0:Int),.ar,.ar,.ar]),(2,.box [.all 3,.all 4,.all 5]),(3,.seq tF s7.2.1),(4,.seq tF s7.2.2.1),(5,.seq tF s7.2.2.2)],6⟩) (fun (r8:(List Nat×List Nat×List Nat)⊕Unit)=>match r8 with| .inl r9=>(.exit 0,⟨[(3,pV 0 0),(6,pV 1 0),(8,pV 2 0)],[(0,cb a0),(1,.box [iC (0:Int),iC (0:Int),.ar,.ar,.ar]),(2,.box [.all 3,.all 4,.all 5]),(3,.seq tF r9.1),(4,.seq tF r9.2.1),(5,.seq tF r9.2.2)],6⟩)| .inr Kt=>(.ret,⟨[(6,pV 0 0),(7,bV false)],[(0,.box [iC (0:Int),iC (0:Int),.ar,.ar,.ar])],1⟩)) (Le.re [(0,0),(1,1),(5,2),(2,3),(3,4),(4,5)] [] hX (by kernel_rfl)) Ru ?_ (fun s7 ZW di JW=> ?_);rcases r8 with r9|Kt
 refine (aZ (aj ?_));obtain ⟨fP,pF,hr⟩:=af hr;refine ay [oH,oH,⟨none,.call [.au tM,.au (.st (.pair aY (.pair aY aY)))] [⟨true,tM,fP.1⟩,⟨false,.bool,fP.2⟩] []⟩,oH,oH,oH,oH] ⟨[(6,pV 1 0),(7,bV fP.2)],[(1,.box [iC fP.1.1,iC fP.1.2.1,.all 6,.all 7,.all 8]),(6,.seq tF fP.1.2.2.1),(7,.seq tF fP.1.2.2.2.1),(8,.seq tF fP.1.2.2.2.2)],9⟩ hX (aC (L4 pF) aN) ?_;have hr:=ae hr;subst hr;exact HT.ret (rO [.agg [iC fP.1.1,iC fP.1.2.1,.all 6,.all 7,.all 8],bV fP.2] [6,7,8] [] trivial);have hr:=ae hr;subst hr;exact (bE (aM (rO [.agg [iC (0:Int),iC (0:Int),.ar,.ar,.ar],bV false] [] [] trivial)));refine ay [oH] ⟨[(2,.one (.aq (.sl bM) a2)),(3,pV 0 0),(6,pV 1 0),(8,pV 2 0),(28,.one (.aq (.sl bM) a1)),(29,iV (ai a1)),(30,iV s7.1),(31,bV (decide (s7.1<(ai a1))))],[(0,cb a0),(1,.box [iC (0:Int),iC (0:Int),.ar,.ar,.ar]),(2,.box [.all 3,.all 4,.all 5]),(3,.seq tF s7.2.1),(4,.seq tF s7.2.2.1),(5,.seq tF s7.2.2.2)],6⟩ hX aN ?_;refine HT.seq ?_;rcases an di with ⟨oN,di⟩|⟨oN,di⟩
 refine HT.aK rfl oN ?_;refine HT.skip (aj ?_);refine HT.seq ?_;refine HT.block ?_;obtain ⟨vJ,di⟩:=ao di;refine ay (aO 5) ⟨[(2,.one (.aq (.sl bM) a2)),(3,pV 0 0),(6,pV 1 0),(8,pV 2 0),(9,iV s7.1),(10,nV (List.getD a1 (Int.toNat s7.1) ([]:List Int))),(28,.one (.aq (.sl bM) a1)),(29,iV (ai a1)),(30,iV s7.1)],[(0,cb a0),(1,.box [iC (0:Int),iC (0:Int),.ar,.ar,.ar]),(2,.box [.all 3,.all 4,.all 5]),(3,.seq tF s7.2.1),(4,.seq tF s7.2.2.1),(5,.seq tF s7.2.2.2)],6⟩ hX (aC vJ aN) ?_;refine HT.seq ?_;obtain ⟨Dp,di⟩:=ao di;obtain ⟨kB,He,di⟩:=af di;refine HT.D7 6 [o0,o0,o0,o0,⟨oH,[2,3]⟩,⟨oH,[2,3,4]⟩] [(rL 6),(rL 7)] [⟨none,.call [.au tM,.au bM,.au bM] [⟨false,.bool,kB⟩] []⟩,oH] ⟨[(2,.one (.aq (.sl bM) a2)),(3,pV 0 0),(6,pV 1 0),(8,pV 2 0),(9,iV s7.1),(10,nV (List.getD a1 (Int.toNat s7.1) ([]:List Int))),(28,.one (.aq (.sl bM) a1)),(29,iV (ai a1)),(30,iV s7.1),(42,bV (!kB))],[(0,cb a0),(1,.box [iC (0:Int),iC (0:Int),.ar,.ar,.ar]),(2,.box [.all 3,.all 4,.all 5]),(3,.seq tF s7.2.1),(4,.seq tF s7.2.2.1),(5,.seq tF s7.2.2.2)],6⟩ hX (by kernel_rfl) (by kernel_rfl) (aC Dp (aC (RR He) aN)) ?_;rcases an di with ⟨sG,di⟩|⟨sG,di⟩
 refine HT.aK rfl sG ?_;refine ay (aO 3) ⟨[(6,pV 1 0),(7,bV false)],[(1,.box [iC (0:Int),iC (0:Int),.ar,.ar,.ar])],6⟩ hX aN ?_;have di:=ae di;subst di;exact HT.qV (Le.re [(1,0)] [] hX (by kernel_rfl)) (aM (bE (aM (iz (JW (.inr ()) rfl)))));refine HT.aJ rfl sG ?_;refine HT.skip (aj ?_);refine ay (aO 5) ⟨[(2,.one (.aq (.sl bM) a2)),(3,pV 0 0),(6,pV 1 0),(8,pV 2 0),(10,nV (List.getD a1 (Int.toNat s7.1) ([]:List Int))),(11,nV (List.getD a2 (Int.toNat s7.1) ([]:List Int))),(28,.one (.aq (.sl bM) a1)),(29,iV (ai a1)),(30,iV s7.1)],[(0,cb a0),(1,.box [iC (0:Int),iC (0:Int),.ar,.ar,.ar]),(2,.box [.all 3,.all 4,.all 5]),(3,.seq tF s7.2.1),(4,.seq tF s7.2.2.1),(5,.seq tF s7.2.2.2)],6⟩ hX (aC Dp aN) ?_;obtain ⟨RK,di⟩:=ao di;obtain ⟨J2,di⟩:=ao di;refine HT.D7 5 [o0,⟨oH,[0]⟩,o0,⟨oH,[2]⟩,⟨oH,[2,3]⟩] [(rL 5),(rL 6),(rL 7),(rL 8),(rL 9)] (aO 5) ⟨[(2,.one (.aq (.sl bM) a2)),(3,pV 0 0),(6,pV 1 0),(8,pV 2 0),(10,nV (List.getD a1 (Int.toNat s7.1) ([]:List Int))),(11,nV (List.getD a2 (Int.toNat s7.1) ([]:List Int))),(28,.one (.aq (.sl bM) a1)),(29,iV (ai a1)),(30,iV s7.1)],[(3,.seq tF (List.set s7.2.1 (Int.toNat (List.getD (List.getD a2 (Int.toNat s7.1) ([]:List Int)) (Int.toNat (0:Int)) (0:Int))) (av .add .f32 (List.getD s7.2.1 (Int.toNat (List.getD (List.getD a2 (Int.toNat s7.1) ([]:List Int)) (Int.toNat (0:Int)) (0:Int))) (0:Nat)) (1065353216:Nat)))),(0,cb a0),(1,.box [iC (0:Int),iC (0:Int),.ar,.ar,.ar]),(2,.box [.all 3,.all 4,.all 5]),(4,.seq tF s7.2.2.1),(5,.seq tF s7.2.2.2)],6⟩ hX (by kernel_rfl) (by kernel_rfl) (aC RK (aC J2 (aC (gy J2) (aC J2 (aC (gy J2) aN))))) ?_;obtain ⟨Bt,Hf,di⟩:=af di;have Hf:=fh Hf;refine (Le.cv (s:=⟨[(3,3),(0,0),(1,1),(2,2),(4,4),(5,5)],[],[],false⟩) (own:=[]) (ps:=[a2=a2,(List.getD a1 (Int.toNat s7.1) ([]:List Int))=(List.getD a1 (Int.toNat s7.1) ([]:List Int)),(List.getD a2 (Int.toNat s7.1) ([]:List Int))=(List.getD a2 (Int.toNat s7.1) ([]:List Int)),a1=a1,(ai a1)=(ai a1),s7.1=s7.1,Bt=(List.set s7.2.1 (Int.toNat (List.getD (List.getD a2 (Int.toNat s7.1) ([]:List Int)) (Int.toNat (0:Int)) (0:Int))) (av .add .f32 (List.getD s7.2.1 (Int.toNat (List.getD (List.getD a2 (Int.toNat s7.1) ([]:List Int)) (Int.toNat (0:Int)) (0:Int))) (0:Nat)) (1065353216:Nat))),a0.1=a0.1,a0.2.1=a0.2.1,a0.2.2.1=a0.2.2.1,a0.2.2.2.1=a0.2.2.2.1,a0.2.2.2.2=a0.2.2.2.2,(0:Int)=(0:Int),(0:Int)=(0:Int),s7.2.2.1=s7.2.2.1,s7.2.2.2=s7.2.2.2]) (st':=⟨[(2,.one (.aq (.sl bM) a2)),(3,pV 0 0),(6,pV 1 0),(8,pV 2 0),(10,nV (List.getD a1 (Int.toNat s7.1) ([]:List Int))),(11,nV (List.getD a2 (Int.toNat s7.1) ([]:List Int))),(28,.one (.aq (.sl bM) a1)),(29,iV (ai a1)),(30,iV s7.1)],[(3,.seq tF Bt),(0,cb a0),(1,.box [iC (0:Int),iC (0:Int),.ar,.ar,.ar]),(2,.box [.all 3,.all 4,.all 5]),(4,.seq tF s7.2.2.1),(5,.seq tF s7.2.2.2)],6⟩) hX.own (fun h=>by cases h) (by kernel_rfl) ⟨rfl,rfl,rfl,rfl,rfl,rfl,Hf,rfl,rfl,rfl,rfl,rfl,rfl,rfl,rfl,rfl,trivial⟩).ht ?_;refine ay (aO 3) ⟨[(2,.one (.aq (.sl bM) a2)),(3,pV 0 0),(6,pV 1 0),(8,pV 2 0),(11,nV (List.getD a2 (Int.toNat s7.1) ([]:List Int))),(28,.one (.aq (.sl bM) a1)),(29,iV (ai a1)),(30,iV s7.1),(57,nV (List.getD a1 (Int.toNat s7.1) ([]:List Int))),(58,iV (ai (List.getD a1 (Int.toNat s7.1) ([]:List Int)))),(59,iV (0:Int))],[(3,.seq tF Bt),(0,cb a0),(1,.box [iC (0:Int),iC (0:Int),.ar,.ar,.ar]),(2,.box [.all 3,.all 4,.all 5]),(4,.seq tF s7.2.2.1),(5,.seq tF s7.2.2.2)],6⟩ hX aN ?_;refine HT.block ?_;obtain ⟨Z0,Hc,di⟩:=af di;refine HT.ct (fun (gN:Int×List Nat×List Nat)=>⟨[(2,.one (.aq (.sl bM) a2)),(3,pV 0 0),(6,pV 1 0),(8,pV 2 0),(11,nV (List.getD a2 (Int.toNat s7.1) ([]:List Int))),(28,.one (.aq (.sl bM) a1)),(29,iV (ai a1)),(30,iV s7.1),(57,nV (List.getD a1 (Int.toNat s7.1) ([]:List Int))),(58,iV (ai (List.getD a1 (Int.toNat s7.1) ([]:List Int)))),(59,iV gN.1)],[(0,cb a0),(1,.box [iC (0:Int),iC (0:Int),.ar,.ar,.ar]),(2,.box [.all 3,.all 4,.all 5]),(3,.seq tF Bt),(4,.seq tF gN.2.1),(5,.seq tF gN.2.2)],6⟩) (fun (UU:(List Nat×List Nat))=>(.exit 2,⟨[(2,.one (.aq (.sl bM) a2)),(3,pV 0 0),(6,pV 1 0),(8,pV 2 0),(28,.one (.aq (.sl bM) a1)),(29,iV (ai a1)),(30,iV s7.1)],[(0,cb a0),(1,.box [iC (0:Int),iC (0:Int),.ar,.ar,.ar]),(2,.box [.all 3,.all 4,.all 5]),(3,.seq tF Bt),(4,.seq tF UU.1),(5,.seq tF UU.2)],6⟩)) (Le.re [(0,0),(1,1),(2,2),(3,3),(4,4),(5,5)] [] hX (by kernel_rfl)) Hc ?_ (fun gN x29 pI Ye=> ?_);refine (aZ (bC (aj ?_)));have di:=ae di;subst di;exact HT.cR (aO 2) [(0,0),(1,1),(2,2),(3,3),(4,4),(5,5)] [] hX (by kernel_rfl) aN (fun _ h=>(bJ ⟨((al .i64 s7.1 (1:Int)),Bt,Z0.1,Z0.2),rfl,h⟩));refine ay [oH] ⟨[(2,.one (.aq (.sl bM) a2)),(3,pV 0 0),(6,pV 1 0),(8,pV 2 0),(11,nV (List.getD a2 (Int.toNat s7.1) ([]:List Int))),(28,.one (.aq (.sl bM) a1)),(29,iV (ai a1)),(30,iV s7.1),(57,nV (List.getD a1 (Int.toNat s7.1) ([]:List Int))),(58,iV (ai (List.getD a1 (Int.toNat s7.1) ([]:List Int)))),(59,iV gN.1),(60,bV (decide (gN.1<(ai (List.getD a1 (Int.toNat s7.1) ([]:List Int))))))],[(0,cb a0),(1,.box [iC (0:Int),iC (0:Int),.ar,.ar,.ar]),(2,.box [.all 3,.all 4,.all 5]),(3,.seq tF Bt),(4,.seq tF gN.2.1),(5,.seq tF gN.2.2)],6⟩ hX aN ?_;refine HT.seq ?_;rcases an pI with ⟨jE,pI⟩|⟨jE,pI⟩
 refine HT.aK rfl jE ?_;refine HT.skip (aj ?_);refine HT.seq ?_;refine HT.block ?_;obtain ⟨Yf,pI⟩:=ao pI;refine ay (aO 5) ⟨[(2,.one (.aq (.sl bM) a2)),(3,pV 0 0),(6,pV 1 0),(8,pV 2 0),(11,nV (List.getD a2 (Int.toNat s7.1) ([]:List Int))),(12,iV gN.1),(13,iV (List.getD (List.getD a1 (Int.toNat s7.1) ([]:List Int)) (Int.toNat gN.1) (0:Int))),(28,.one (.aq (.sl bM) a1)),(29,iV (ai a1)),(30,iV s7.1),(57,nV (List.getD a1 (Int.toNat s7.1) ([]:List Int))),(58,iV (ai (List.getD a1 (Int.toNat s7.1) ([]:List Int)))),(59,iV gN.1)],[(0,cb a0),(1,.box [iC (0:Int),iC (0:Int),.ar,.ar,.ar]),(2,.box [.all 3,.all 4,.all 5]),(3,.seq tF Bt),(4,.seq tF gN.2.1),(5,.seq tF gN.2.2)],6⟩ hX (aC Yf aN) ?_;obtain ⟨UW,pI⟩:=ao pI;obtain ⟨OA,pI⟩:=ao pI;refine HT.D7 11 [o0,⟨oH,[0]⟩,o0,o0,⟨oH,[2,3]⟩,⟨oH,[2,3,4]⟩,o0,⟨oH,[6]⟩,⟨oH,[2,3,4,5,6,7]⟩,o0,⟨oH,[2,3,4,5,6,7,8,9]⟩] [(rL 11),(rL 12),(rL 13),(rL 14),(rL 15)] (aO 5) ⟨[(2,.one (.aq (.sl bM) a2)),(3,pV 0 0),(6,pV 1 0),(8,pV 2 0),(11,nV (List.getD a2 (Int.toNat s7.1) ([]:List Int))),(12,iV gN.1),(28,.one (.aq (.sl bM) a1)),(29,iV (ai a1)),(30,iV s7.1),(57,nV (List.getD a1 (Int.toNat s7.1) ([]:List Int))),(58,iV (ai (List.getD a1 (Int.toNat s7.1) ([]:List Int)))),(59,iV gN.1)],[(5,.seq tF (List.set gN.2.2 (Int.toNat (al .i64 (aU .i64 (List.getD (List.getD a2 (Int.toNat s7.1) ([]:List Int)) (Int.toNat gN.1) (0:Int)) a0.2.1) (List.getD (List.getD a1 (Int.toNat s7.1) ([]:List Int)) (Int.toNat gN.1) (0:Int)))) (av .add .f32 (List.getD gN.2.2 (Int.toNat (al .i64 (aU .i64 (List.getD (List.getD a2 (Int.toNat s7.1) ([]:List Int)) (Int.toNat gN.1) (0:Int)) a0.2.1) (List.getD (List.getD a1 (Int.toNat s7.1) ([]:List Int)) (Int.toNat gN.1) (0:Int)))) (0:Nat)) (1065353216:Nat)))),(0,cb a0),(1,.box [iC (0:Int),iC (0:Int),.ar,.ar,.ar]),(2,.box [.all 3,.all 4,.all 5]),(3,.seq tF Bt),(4,.seq tF gN.2.1)],6⟩ hX (by kernel_rfl) (by kernel_rfl) (aC UW (aC OA (aC (gy OA) (aC OA (aC (gy OA) aN))))) ?_;obtain ⟨Tp,RT,pI⟩:=af pI;have RT:=fh RT;refine (Le.cv (s:=⟨[(5,5),(0,0),(1,1),(2,2),(3,3),(4,4)],[],[],false⟩) (own:=[]) (ps:=[a2=a2,(List.getD a2 (Int.toNat s7.1) ([]:List Int))=(List.getD a2 (Int.toNat s7.1) ([]:List Int)),gN.1=gN.1,a1=a1,(ai a1)=(ai a1),s7.1=s7.1,(List.getD a1 (Int.toNat s7.1) ([]:List Int))=(List.getD a1 (Int.toNat s7.1) ([]:List Int)),(ai (List.getD a1 (Int.toNat s7.1) ([]:List Int)))=(ai (List.getD a1 (Int.toNat s7.1) ([]:List Int))),gN.1=gN.1,Tp=(List.set gN.2.2 (Int.toNat (al .i64 (aU .i64 (List.getD (List.getD a2 (Int.toNat s7.1) ([]:List Int)) (Int.toNat gN.1) (0:Int)) a0.2.1) (List.getD (List.getD a1 (Int.toNat s7.1) ([]:List Int)) (Int.toNat gN.1) (0:Int)))) (av .add .f32 (List.getD gN.2.2 (Int.toNat (al .i64 (aU .i64 (List.getD (List.getD a2 (Int.toNat s7.1) ([]:List Int)) (Int.toNat gN.1) (0:Int)) a0.2.1) (List.getD (List.getD a1 (Int.toNat s7.1) ([]:List Int)) (Int.toNat gN.1) (0:Int)))) (0:Nat)) (1065353216:Nat))),a0.1=a0.1,a0.2.1=a0.2.1,a0.2.2.1=a0.2.2.1,a0.2.2.2.1=a0.2.2.2.1,a0.2.2.2.2=a0.2.2.2.2,(0:Int)=(0:Int),(0:Int)=(0:Int),Bt=Bt,gN.2.1=gN.2.1]) (st':=⟨[(2,.one (.aq (.sl bM) a2)),(3,pV 0 0),(6,pV 1 0),(8,pV 2 0),(11,nV (List.getD a2 (Int.toNat s7.1) ([]:List Int))),(12,iV gN.1),(28,.one (.aq (.sl bM) a1)),(29,iV (ai a1)),(30,iV s7.1),(57,nV (List.getD a1 (Int.toNat s7.1) ([]:List Int))),(58,iV (ai (List.getD a1 (Int.toNat s7.1) ([]:List Int)))),(59,iV gN.1)],[(5,.seq tF Tp),(0,cb a0),(1,.box [iC (0:Int),iC (0:Int),.ar,.ar,.ar]),(2,.box [.all 3,.all 4,.all 5]),(3,.seq tF Bt),(4,.seq tF gN.2.1)],6⟩) hX.own (fun h=>by cases h) (by kernel_rfl) ⟨rfl,rfl,rfl,rfl,rfl,rfl,rfl,rfl,rfl,RT,rfl,rfl,rfl,rfl,rfl,rfl,rfl,rfl,rfl,trivial⟩).ht ?_;obtain ⟨J0,pI⟩:=ao pI;obtain ⟨OB,pI⟩:=ao pI;refine HT.PT 15 [o0,⟨oH,[0]⟩,o0,o0,⟨oH,[2,3]⟩,⟨oH,[2,3,4]⟩,o0,⟨oH,[6]⟩,⟨oH,[2,3,4,5,6,7]⟩,o0,o0,⟨oH,[10]⟩,⟨oH,[9,10,11]⟩,⟨oH,[9,10,11,12]⟩,⟨oH,[2,3,4,5,6,7,8,9,10,11,12,13]⟩] [(rL 15),(rL 16),(rL 17),(rL 18),(rL 19)] (aO 5) ⟨[(2,.one (.aq (.sl bM) a2)),(3,pV 0 0),(6,pV 1 0),(8,pV 2 0),(11,nV (List.getD a2 (Int.toNat s7.1) ([]:List Int))),(28,.one (.aq (.sl bM) a1)),(29,iV (ai a1)),(30,iV s7.1),(57,nV (List.getD a1 (Int.toNat s7.1) ([]:List Int))),(58,iV (ai (List.getD a1 (Int.toNat s7.1) ([]:List Int)))),(59,iV gN.1)],[(4,.seq tF (List.set gN.2.1 (Int.toNat (al .i64 (aU .i64 (List.getD (List.getD a2 (Int.toNat s7.1) ([]:List Int)) (Int.toNat gN.1) (0:Int)) a0.1) (List.getD (List.getD a2 (Int.toNat s7.1) ([]:List Int)) (Int.toNat (al .i64 gN.1 (1:Int))) (0:Int)))) (av .add .f32 (List.getD gN.2.1 (Int.toNat (al .i64 (aU .i64 (List.getD (List.getD a2 (Int.toNat s7.1) ([]:List Int)) (Int.toNat gN.1) (0:Int)) a0.1) (List.getD (List.getD a2 (Int.toNat s7.1) ([]:List Int)) (Int.toNat (al .i64 gN.1 (1:Int))) (0:Int)))) (0:Nat)) (1065353216:Nat)))),(5,.seq tF Tp),(0,cb a0),(1,.box [iC (0:Int),iC (0:Int),.ar,.ar,.ar]),(2,.box [.all 3,.all 4,.all 5]),(3,.seq tF Bt)],6⟩ hX (by kernel_rfl) (by kernel_rfl) (aC UW (aC J0 (aC OB (aC (gy OB) (aC OB (aC (gy OB) aN)))))) (bC (aj ?_));have pI:=ae pI;subst pI;exact HT.cR (aO 2) [(0,0),(1,1),(2,2),(3,3),(4,4),(5,5)] [] hX (by kernel_rfl) aN (fun _ h=>(bJ ⟨((al .i64 gN.1 (1:Int)),(List.set gN.2.1 (Int.toNat (al .i64 (aU .i64 (List.getD (List.getD a2 (Int.toNat s7.1) ([]:List Int)) (Int.toNat gN.1) (0:Int)) a0.1) (List.getD (List.getD a2 (Int.toNat s7.1) ([]:List Int)) (Int.toNat (al .i64 gN.1 (1:Int))) (0:Int)))) (av .add .f32 (List.getD gN.2.1 (Int.toNat (al .i64 (aU .i64 (List.getD (List.getD a2 (Int.toNat s7.1) ([]:List Int)) (Int.toNat gN.1) (0:Int)) a0.1) (List.getD (List.getD a2 (Int.toNat s7.1) ([]:List Int)) (Int.toNat (al .i64 gN.1 (1:Int))) (0:Int)))) (0:Nat)) (1065353216:Nat))),Tp),rfl,h⟩));refine HT.aJ rfl jE ?_;have pI:=ae pI;subst pI;exact HT.cr (Le.re [(0,0),(1,1),(2,2),(3,3),(4,4),(5,5)] [] hX (by kernel_rfl)) (bF (bI (Ye (gN.2.1,gN.2.2) rfl)));refine HT.aJ rfl oN ?_;have di:=ae di;subst di;exact HT.cr (Le.re [(0,0),(1,1),(2,2),(3,3),(4,4),(5,5)] [] hX (by kernel_rfl)) (bF (bI (JW (.inl (s7.2.1,s7.2.2.1,s7.2.2.2)) rfl)));obtain ⟨V5,UX,bz⟩:=af bz;rcases an bz with ⟨iX,bz⟩|⟨iX,bz⟩
 exact HT.cR [oH,oH,⟨none,.call [.au tM,.au (.sl bM)] [⟨false,.bool,V5⟩] []⟩,oH,oH,oT,oT,oT,oT,oT,vT] [(0,0),(1,1)] [] hX (by kernel_rfl) (aC (wW UX) (aC iX (aC iX (aC iX (aC iX (aC iX (aC iX aN))))))) (fun _ h=>(aj (h.ht (cont true (ae bz)))));exact HT.cR [oH,oH,⟨none,.call [.au tM,.au (.sl bM)] [⟨false,.bool,V5⟩] []⟩,oH,oH,oF,oF,oF,oF,oF,vF] [(0,0),(1,1)] [] hX (by kernel_rfl) (aC (wW UX) (aC iX (aC iX (aC iX (aC iX (aC iX (aC iX aN))))))) (fun _ h=>(aj (h.ht (cont ((ai a2) != (ai a1)) (ae bz)))))
noncomputable def kU (a0:Int)(a1:Int)(a2:Int):Option (Bool):=
 (show Option (Bool) from
  bif (decide (a0≥a1)) then
   some (decide (a0≤a2))
  else
   some false).bind fun v1=>
 some v1
theorem nB {a0:Int}{a1:Int}{a2:Int}{r:Bool}(hr:kU a0 a1 a2=some r):CallOK Try.prog 89 [.au tI a0,.au tI a1,.au tI a2] [⟨false,.bool,r⟩] []:=by
 unfold kU at hr;refine ij [(false,.bool)] Try.func89 rfl [] fun cx hX hF=> ?_;show HT cx ⟨[(0,iV a0),(1,iV a1),(2,iV a2)],[],0⟩ _ _;refine ay [oH] ⟨[(0,iV a0),(1,iV a1),(2,iV a2)],[],0⟩ hX aN ?_;obtain ⟨qW,bz,hr⟩:=af hr;refine HT.join (fun (v1:Bool)=>⟨[(6,bV v1)],[],0⟩) (fun v=>v=qW) (fun v1 ov=> ?_) (fun cont=> ?_);subst ov;have hr:=ae hr;subst hr;exact HT.ret (rO [bV v1] [] [] trivial);rcases an bz with ⟨dD,bz⟩|⟨dD,bz⟩
 exact HT.cR [oH,oH,oH,oH,oT,oT,oT,vT,oH] [] [] hX (by kernel_rfl) (aC dD (aC dD (aC dD (aC dD aN)))) (fun _ h=>(aj (h.ht (cont (decide (a0≤a2)) (ae bz)))));exact HT.cR [oH,oH,oH,oH,oF,oF,oF,vF,oH] [] [] hX (by kernel_rfl) (aC dD (aC dD (aC dD (aC dD aN)))) (fun _ h=>(aj (h.ht (cont false (ae bz)))))
noncomputable def kC (a0:List Int)(a1:Int)(s1:Int):Option ((Int)⊕(Unit⊕Unit)):=
 bif (decide (s1<(ai a0))) then
  az ((0:Int)≤s1∧s1<ai a0) (
   (kU (List.getD a0 (Int.toNat s1) (0:Int)) (0:Int) (lO .i64 a1 (1:Int))).bind fun fP=>
   bif (!fP) then
    some (.inr (.inr ()))
   else
    some (.inl (al .i64 s1 (1:Int))))
 else
  some (.inr (.inl ()))
noncomputable def jS (a0:List Int)(a1:Int):Option (Bool):=
 (rounds (kC a0 a1) (0:Int)).bind fun r2=>match r2 with
  | .inl r3=>
   some (decide ((ai a0)≤(12:Int)))
  | .inr r4=>
   some false
theorem IA {a0:List Int}{a1:Int}{r:Bool}(hr:jS a0 a1=some r):CallOK Try.prog 119 [.au bM a0,.au tI a1] [⟨false,.bool,r⟩] []:=by
 unfold jS at hr;refine ij [(false,.bool)] Try.func119 rfl [] fun cx hX hF=> ?_;show HT cx ⟨[(0,nV a0),(1,iV a1)],[],0⟩ _ _;refine ay [oH] ⟨[(0,nV a0),(1,iV a1)],[],0⟩ hX aN ?_;refine HT.seq ?_;refine ay [oH] ⟨[(0,nV a0),(1,iV a1),(5,iV (0:Int))],[],0⟩ hX aN ?_;refine HT.block ?_;obtain ⟨r2,Di,hr⟩:=af hr;refine HT.ct (fun (s1:Int)=>⟨[(0,nV a0),(1,iV a1),(5,iV s1)],[],0⟩) (fun (r2:Unit⊕Unit)=>match r2 with| .inl r3=>(.exit 0,⟨[(0,nV a0)],[],0⟩)| .inr r4=>(.ret,⟨[(4,bV false)],[],0⟩)) (Le.re [] [] hX (by kernel_rfl)) Di ?_ (fun s1 x5 dm BZ=> ?_);rcases r2 with r3|r4
 refine (aZ (aj ?_));refine ay (aO 4) ⟨[(4,bV (decide ((ai a0)≤(12:Int))))],[],0⟩ hX aN ?_;have hr:=ae hr;subst hr;exact HT.ret (rO [bV (decide ((ai a0)≤(12:Int)))] [] [] trivial);have hr:=ae hr;subst hr;exact (bE (aM (rO [bV false] [] [] trivial)));refine HT.seq ?_;refine ay (aO 4) ⟨[(0,nV a0),(1,iV a1),(5,iV s1),(9,bV (decide (s1<(ai a0))))],[],0⟩ hX aN ?_;rcases an dm with ⟨iN,dm⟩|⟨iN,dm⟩
 refine HT.aK rfl iN ?_;refine HT.skip (aj ?_);refine HT.seq ?_;refine HT.block ?_;obtain ⟨LR,dm⟩:=ao dm;obtain ⟨fP,pF,dm⟩:=af dm;refine ay [oH,oH,oH,oH,oH,oH,⟨none,.call [.au tI,.au tI,.au tI] [⟨false,.bool,fP⟩] []⟩,oH] ⟨[(0,nV a0),(1,iV a1),(5,iV s1),(19,bV (!fP))],[],0⟩ hX (aC LR (aC (nB pF) aN)) ?_;rcases an dm with ⟨cg,dm⟩|⟨cg,dm⟩
 refine HT.aK rfl cg ?_;refine ay [oH] ⟨[(4,bV false)],[],0⟩ hX aN ?_;have dm:=ae dm;subst dm;exact HT.qV (Le.re [] [] hX (by kernel_rfl)) (bE (aM (iz (BZ (.inr ()) rfl))));refine HT.aJ rfl cg ?_;refine HT.skip (bC (aj ?_));have dm:=ae dm;subst dm;exact HT.cR (aO 3) [] [] hX (by kernel_rfl) aN (fun _ h=>(bJ ⟨(al .i64 s1 (1:Int)),rfl,h⟩));refine HT.aJ rfl iN ?_;have dm:=ae dm;subst dm;exact HT.cr (Le.re [] [] hX (by kernel_rfl)) (bF (bI (BZ (.inl ()) rfl)))
noncomputable def kp (a0:Nat):Option (Bool):=
 (show Option (Bool) from
  bif (rT .f32 a0 (0:Nat)) then
   some (vm .f32 a0 (1065353216:Nat))
  else
   some false).bind fun v1=>
 some v1
theorem OC {a0:Nat}{r:Bool}(hr:kp a0=some r):CallOK Try.prog 132 [.au tF a0] [⟨false,.bool,r⟩] []:=by
 unfold kp at hr;refine ij [(false,.bool)] Try.func132 rfl [] fun cx hX hF=> ?_;show HT cx ⟨[(0,fV a0)],[],0⟩ _ _;refine ay [oH] ⟨[(0,fV a0)],[],0⟩ hX aN ?_;obtain ⟨qW,bz,hr⟩:=af hr;refine HT.join (fun (v1:Bool)=>⟨[(2,bV v1)],[],0⟩) (fun v=>v=qW) (fun v1 ov=> ?_) (fun cont=> ?_);subst ov;have hr:=ae hr;subst hr;exact HT.ret (rO [bV v1] [] [] trivial);rcases an bz with ⟨dD,bz⟩|⟨dD,bz⟩
 exact HT.cR [oH,oH,oH,oT,oT,vT,oH] [] [] hX (by kernel_rfl) (aC dD (aC dD (aC dD aN))) (fun _ h=>(aj (h.ht (cont (vm .f32 a0 (1065353216:Nat)) (ae bz)))));exact HT.cR [oH,oH,oH,oF,oF,vF,oH] [] [] hX (by kernel_rfl) (aC dD (aC dD (aC dD aN))) (fun _ h=>(aj (h.ht (cont false (ae bz)))))
noncomputable def hH (a0:List Nat)(s1:Nat×Int):Option ((Nat×Int)⊕(Nat⊕Unit)):=
 bif (decide (s1.2<(ai a0))) then
  az ((0:Int)≤s1.2∧s1.2<ai a0) (
   (kp (List.getD a0 (Int.toNat s1.2) (0:Nat))).bind fun o8=>
   bif (!o8) then
    some (.inr (.inr ()))
   else
    some (.inl ((av .add .f32 s1.1 (List.getD a0 (Int.toNat s1.2) (0:Nat))),(al .i64 s1.2 (1:Int)))))
 else
  some (.inr (.inl s1.1))
noncomputable def jF (a0:List Nat):Option (Bool):=
 (rounds (hH a0) ((0:Nat),(0:Int))).bind fun r2=>match r2 with
  | .inl r3=>
   (show Option (Bool) from
    bif (vm .f32 (av .sub .f32 r3 (1065353216:Nat)) (981668463:Nat)) then
     some (rT .f32 (av .sub .f32 r3 (1065353216:Nat)) (3129152111:Nat))
    else
     some false).bind fun v4=>
   some v4
  | .inr r8=>
   some false
theorem yF {a0:List Nat}{r:Bool}(hr:jF a0=some r):CallOK Try.prog 118 [.au aY a0] [⟨false,.bool,r⟩] []:=by
 unfold jF at hr;refine ij [(false,.bool)] Try.func118 rfl [] fun cx hX hF=> ?_;show HT cx ⟨[(0,lV a0)],[],0⟩ _ _;refine ay [oH] ⟨[(0,lV a0)],[],0⟩ hX aN ?_;refine ay [oH] ⟨[(0,lV a0),(3,fV (0:Nat))],[],0⟩ hX aN ?_;refine HT.seq ?_;refine ay (aO 3) ⟨[(0,lV a0),(3,fV (0:Nat)),(6,iV (ai a0)),(7,iV (0:Int))],[],0⟩ hX aN ?_;refine HT.block ?_;obtain ⟨r2,LY,hr⟩:=af hr;refine HT.ct (fun (s1:Nat×Int)=>⟨[(0,lV a0),(3,fV s1.1),(6,iV (ai a0)),(7,iV s1.2)],[],0⟩) (fun (r2:Nat⊕Unit)=>match r2 with| .inl r3=>(.exit 0,⟨[(3,fV r3)],[],0⟩)| .inr r8=>(.ret,⟨[(2,bV false)],[],0⟩)) (Le.re [] [] hX (by kernel_rfl)) LY ?_ (fun s1 x9 cf wT=> ?_);rcases r2 with r3|r8
 refine (aZ (aj ?_));obtain ⟨UL,Dg,hr⟩:=af hr;refine HT.join (fun (v4:Bool)=>⟨[(2,bV v4)],[],0⟩) (fun v=>v=UL) (fun v4 UM=> ?_) (fun cont=> ?_);subst UM;have hr:=ae hr;subst hr;exact HT.ret (rO [bV v4] [] [] trivial);rcases an Dg with ⟨kQ,Dg⟩|⟨kQ,Dg⟩
 exact HT.cR [oH,oH,oH,oH,oT,oT,oT,vT,oH] [] [] hX (by kernel_rfl) (aC kQ (aC kQ (aC kQ (aC kQ aN)))) (fun _ h=>(aj (h.ht (cont (rT .f32 (av .sub .f32 r3 (1065353216:Nat)) (3129152111:Nat)) (ae Dg)))));exact HT.cR [oH,oH,oH,oH,oF,oF,oF,vF,oH] [] [] hX (by kernel_rfl) (aC kQ (aC kQ (aC kQ (aC kQ aN)))) (fun _ h=>(aj (h.ht (cont false (ae Dg)))));have hr:=ae hr;subst hr;exact (bE (aM (rO [bV false] [] [] trivial)));refine ay [oH] ⟨[(0,lV a0),(3,fV s1.1),(6,iV (ai a0)),(7,iV s1.2),(8,bV (decide (s1.2<(ai a0))))],[],0⟩ hX aN ?_;refine HT.seq ?_;rcases an cf with ⟨cg,cf⟩|⟨cg,cf⟩
 refine HT.aK rfl cg ?_;refine HT.skip (aj ?_);refine HT.seq ?_;refine HT.block ?_;refine ay (aO 2) ⟨[(0,lV a0),(3,fV s1.1),(4,iV s1.2),(6,iV (ai a0)),(7,iV s1.2)],[],0⟩ hX aN ?_;refine HT.seq ?_;obtain ⟨wU,cf⟩:=ao cf;obtain ⟨o8,G1,cf⟩:=af cf;refine ay [oH,oH,oH,oH,⟨none,.call [.au tF] [⟨false,.bool,o8⟩] []⟩,oH] ⟨[(0,lV a0),(3,fV s1.1),(4,iV s1.2),(6,iV (ai a0)),(7,iV s1.2),(15,bV (!o8))],[],0⟩ hX (aC wU (aC (OC G1) aN)) ?_;rcases an cf with ⟨oN,cf⟩|⟨oN,cf⟩
 refine HT.aK rfl oN ?_;refine ay [oH] ⟨[(2,bV false)],[],0⟩ hX aN ?_;have cf:=ae cf;subst cf;exact HT.qV (Le.re [] [] hX (by kernel_rfl)) (aM (bE (aM (iz (wT (.inr ()) rfl)))));refine HT.aJ rfl oN ?_;refine HT.skip (aj ?_);refine HT.xM (aO 7) ⟨[(0,lV a0),(3,fV (av .add .f32 s1.1 (List.getD a0 (Int.toNat s1.2) (0:Nat)))),(6,iV (ai a0)),(7,iV s1.2)],[],0⟩ hX (by kernel_rfl) (aC wU aN) (bC (aj ?_));have cf:=ae cf;subst cf;exact HT.cR (aO 2) [] [] hX (by kernel_rfl) aN (fun _ h=>(bJ ⟨((av .add .f32 s1.1 (List.getD a0 (Int.toNat s1.2) (0:Nat))),(al .i64 s1.2 (1:Int))),rfl,h⟩));refine HT.aJ rfl cg ?_;have cf:=ae cf;subst cf;exact HT.cr (Le.re [] [] hX (by kernel_rfl)) (bF (bI (wT (.inl s1.1) rfl)))
noncomputable def mW (a0:eC)(s5:Int):Option ((Int)⊕(Unit⊕Unit)):=
 bif (decide (s5<a0.1)) then
  (show Option (Bool) from
   az ((0:Int)≤(aU .i64 s5 a0.1)∧(aU .i64 s5 a0.1)≤(al .i64 (aU .i64 s5 a0.1) a0.1)∧(al .i64 (aU .i64 s5 a0.1) a0.1)≤ai a0.2.2.2.1) (
    (jF (cut a0.2.2.2.1 (aU .i64 s5 a0.1) (al .i64 (aU .i64 s5 a0.1) a0.1))).bind fun yC=>
    bif (!yC) then
     some true
    else
     az ((0:Int)≤(aU .i64 s5 a0.2.1)∧(aU .i64 s5 a0.2.1)≤(al .i64 (aU .i64 s5 a0.2.1) a0.2.1)∧(al .i64 (aU .i64 s5 a0.2.1) a0.2.1)≤ai a0.2.2.2.2) (
      (jF (cut a0.2.2.2.2 (aU .i64 s5 a0.2.1) (al .i64 (aU .i64 s5 a0.2.1) a0.2.1))).bind fun V6=>
      some (!V6)))).bind fun V7=>
  bif V7 then
   some (.inr (.inr ()))
  else
   some (.inl (al .i64 s5 (1:Int)))
 else
  some (.inr (.inl ()))
noncomputable def kV (a0:eC):Option (Bool):=
 (show Option (Bool) from
  (kU a0.1 (1:Int) (5:Int)).bind fun PY=>
  bif (!PY) then
   some true
  else
   (kU a0.2.1 (1:Int) (4:Int)).bind fun RU=>
   bif (!RU) then
    some true
   else
    bif ((ai a0.2.2.1) != a0.1) then
     some true
    else
     bif ((ai a0.2.2.2.1) != (aU .i64 a0.1 a0.1)) then
      some true
     else
      bif ((ai a0.2.2.2.2) != (aU .i64 a0.1 a0.2.1)) then
       some true
      else
       (jF a0.2.2.1).bind fun Nx=>
       some (!Nx)).bind fun v1=>
 bif v1 then
  some false
 else
  (rounds (mW a0) (0:Int)).bind fun r6=>match r6 with
   | .inl r7=>
    some true
   | .inr r8=>
    some false
theorem w7 {a0:eC}{r:Bool}(hr:kV a0=some r):CallOK Try.prog 75 [.gO tM a0] [⟨false,.bool,r⟩] []:=by
 unfold kV at hr;refine ij [(false,.bool)] Try.func75 rfl [] fun cx hX hF=> ?_;show HT cx ⟨[(0,.one (.ip tM a0 0))],[],0⟩ _ _;refine ay [oH] ⟨[(0,.one (.ip tM a0 0))],[],0⟩ hX aN ?_;refine ay (aO 5) ⟨[(0,.one (.ip tM a0 0)),(3,iV a0.1)],[],0⟩ hX aN ?_;refine ay (aO 5) ⟨[(0,.one (.ip tM a0 0)),(3,iV a0.1),(4,iV a0.2.1)],[],0⟩ hX aN ?_;refine HT.seq ?_;obtain ⟨qW,bz,hr⟩:=af hr;refine HT.join (fun (v1:Bool)=>⟨[(0,.one (.ip tM a0 0)),(3,iV a0.1),(4,iV a0.2.1),(60,bV v1)],[],0⟩) (fun v=>v=qW) (fun v1 ov=> ?_) (fun cont=> ?_);subst ov;rcases an hr with ⟨dD,hr⟩|⟨dD,hr⟩
 refine HT.aK rfl dD ?_;refine ay [oH] ⟨[(2,bV false)],[],0⟩ hX aN ?_;have hr:=ae hr;subst hr;exact HT.ret (aM (rO [bV false] [] [] trivial));refine HT.aJ rfl dD ?_;refine HT.skip (aj ?_);refine HT.seq ?_;refine ay [oH] ⟨[(0,.one (.ip tM a0 0)),(3,iV a0.1),(4,iV a0.2.1),(5,iV (0:Int))],[],0⟩ hX aN ?_;refine HT.block ?_;obtain ⟨r6,RJ,hr⟩:=af hr;refine HT.ct (fun (s5:Int)=>⟨[(0,.one (.ip tM a0 0)),(3,iV a0.1),(4,iV a0.2.1),(5,iV s5)],[],0⟩) (fun (r6:Unit⊕Unit)=>match r6 with| .inl r7=>(.exit 0,⟨[],[],0⟩)| .inr r8=>(.ret,⟨[(2,bV false)],[],0⟩)) (Le.re [] [] hX (by kernel_rfl)) RJ ?_ (fun s5 x9 cf wT=> ?_);rcases r6 with r7|r8
 refine (aZ (aj ?_));refine ay [oH] ⟨[(2,bV true)],[],0⟩ hX aN ?_;have hr:=ae hr;subst hr;exact HT.ret (rO [bV true] [] [] trivial);have hr:=ae hr;subst hr;exact (bE (aM (rO [bV false] [] [] trivial)));refine HT.seq ?_;refine ay (aO 3) ⟨[(0,.one (.ip tM a0 0)),(3,iV a0.1),(4,iV a0.2.1),(5,iV s5),(63,bV (decide (s5<a0.1)))],[],0⟩ hX aN ?_;rcases an cf with ⟨cg,cf⟩|⟨cg,cf⟩
 refine HT.aK rfl cg ?_;refine HT.skip (aj ?_);refine HT.seq ?_;refine HT.block ?_;obtain ⟨Yg,w8,cf⟩:=af cf;refine HT.join (fun (V7:Bool)=>⟨[(0,.one (.ip tM a0 0)),(3,iV a0.1),(4,iV a0.2.1),(5,iV s5),(97,bV V7)],[],0⟩) (fun v=>v=Yg) (fun V7 Yh=> ?_) (fun cont=> ?_);subst Yh;rcases an cf with ⟨oN,cf⟩|⟨oN,cf⟩
 refine HT.aK rfl oN ?_;refine ay [oH] ⟨[(2,bV false)],[],0⟩ hX aN ?_;have cf:=ae cf;subst cf;exact HT.qV (Le.re [] [] hX (by kernel_rfl)) (bE (aM (iz (wT (.inr ()) rfl))));refine HT.aJ rfl oN ?_;refine HT.skip (bC (aj ?_));have cf:=ae cf;subst cf;exact HT.cR (aO 3) [] [] hX (by kernel_rfl) aN (fun _ h=>(bJ ⟨(al .i64 s5 (1:Int)),rfl,h⟩));obtain ⟨vJ,w8⟩:=ao w8;obtain ⟨yC,Br,w8⟩:=af w8;rcases an w8 with ⟨fa,w8⟩|⟨fa,w8⟩
 exact HT.cR [oH,oH,oH,oH,oH,oH,oH,oH,oH,oH,oH,oH,oH,⟨none,.call [.au aY] [⟨false,.bool,yC⟩] []⟩,oH,oH,oT,oT,oT,oT,oT,oT,oT,oT,oT,oT,oT,oT,oT,oT,oT,vT] [] [] hX (by kernel_rfl) (aC vJ (aC (yF Br) (aC fa (aC fa (aC fa (aC fa (aC fa (aC fa (aC fa (aC fa (aC fa (aC fa (aC fa (aC fa (aC fa (aC fa (aC fa (aC fa aN)))))))))))))))))) (fun _ h=>(aj (h.ht (cont true (ae w8)))));obtain ⟨RM,w8⟩:=ao w8;obtain ⟨V6,Yi,w8⟩:=af w8;exact HT.cR [oH,oH,oH,oH,oH,oH,oH,oH,oH,oH,oH,oH,oH,⟨none,.call [.au aY] [⟨false,.bool,yC⟩] []⟩,oH,oH,oF,oF,oF,oF,oF,oF,oF,oF,oF,oF,oF,oF,oF,⟨some false,.call [.au aY] [⟨false,.bool,V6⟩] []⟩,oF,vF] [] [] hX (by kernel_rfl) (aC vJ (aC (yF Br) (aC fa (aC fa (aC fa (aC fa (aC fa (aC fa (aC fa (aC fa (aC fa (aC fa (aC fa (aC fa (aC fa (aC RM (aC fa (aC (yF Yi) (aC fa (aC fa aN)))))))))))))))))))) (fun _ h=>(aj (h.ht (cont (!V6) (ae w8)))));refine HT.aJ rfl cg ?_;have cf:=ae cf;subst cf;exact HT.cr (Le.re [] [] hX (by kernel_rfl)) (bF (bI (wT (.inl ()) rfl)));obtain ⟨PY,J3,bz⟩:=af bz;rcases an bz with ⟨lR,bz⟩|⟨lR,bz⟩
 exact HT.cR [oH,⟨none,.call [.au tI,.au tI,.au tI] [⟨false,.bool,PY⟩] []⟩,oH,oH,oT,oT,oT,vT,oH,oT,oT,oT,oT,oT,oT,oT,vT,oH,oT,oT,oT,oT,oT,oT,oT,oT,oT,vT,oH,oT,oT,oT,oT,oT,oT,oT,oT,oT,vT,oH,oT,oT,oT,oT,oT,oT,vT] [] [] hX (by kernel_rfl) (aC (nB J3) (aC lR (aC lR (aC lR (aC lR (dZ (dZ (dZ (dZ (dZ (dZ (dZ (dZ (aT (aT (aT aN)))))))))))))))) (fun _ h=>(aj (h.ht (cont true (ae bz)))));obtain ⟨RU,Ma,bz⟩:=af bz;rcases an bz with ⟨hJ,bz⟩|⟨hJ,bz⟩
 exact HT.cR [oH,⟨none,.call [.au tI,.au tI,.au tI] [⟨false,.bool,PY⟩] []⟩,oH,oH,oF,⟨some false,.call [.au tI,.au tI,.au tI] [⟨false,.bool,RU⟩] []⟩,oF,vF,oH,oT,oT,oT,oT,oT,oT,oT,vT,oH,oT,oT,oT,oT,oT,oT,oT,oT,oT,vT,oH,oT,oT,oT,oT,oT,oT,oT,oT,oT,vT,oH,oT,oT,oT,oT,oT,oT,vT] [] [] hX (by kernel_rfl) (aC (nB J3) (aC lR (aC lR (aC (nB Ma) (aC lR (aC lR (aC hJ (aC hJ (aC hJ (aC hJ (aC hJ (aC hJ (aC hJ (aC hJ (dZ (dZ (dZ (dZ (dZ (dZ (aT (aT (aT aN))))))))))))))))))))))) (fun _ h=>(aj (h.ht (cont true (ae bz)))));rcases an bz with ⟨gj,bz⟩|⟨gj,bz⟩
 exact HT.cR [oH,⟨none,.call [.au tI,.au tI,.au tI] [⟨false,.bool,PY⟩] []⟩,oH,oH,oF,⟨some false,.call [.au tI,.au tI,.au tI] [⟨false,.bool,RU⟩] []⟩,oF,vF,oH,oF,oF,oF,oF,oF,oF,oF,vF,oH,oT,oT,oT,oT,oT,oT,oT,oT,oT,vT,oH,oT,oT,oT,oT,oT,oT,oT,oT,oT,vT,oH,oT,oT,oT,oT,oT,oT,vT] [] [] hX (by kernel_rfl) (aC (nB J3) (aC lR (aC lR (aC (nB Ma) (aC lR (aC lR (aC hJ (aC hJ (aC hJ (aC hJ (aC hJ (aC hJ (aC hJ (aC hJ (aC gj (aC gj (aC gj (aC gj (aC gj (aC gj (aC gj (aC gj (aC gj (aC gj (dZ (dZ (dZ (dZ (aT aN))))))))))))))))))))))))))))) (fun _ h=>(aj (h.ht (cont true (ae bz)))));rcases an bz with ⟨jE,bz⟩|⟨jE,bz⟩
 exact HT.cR [oH,⟨none,.call [.au tI,.au tI,.au tI] [⟨false,.bool,PY⟩] []⟩,oH,oH,oF,⟨some false,.call [.au tI,.au tI,.au tI] [⟨false,.bool,RU⟩] []⟩,oF,vF,oH,oF,oF,oF,oF,oF,oF,oF,vF,oH,oF,oF,oF,oF,oF,oF,oF,oF,oF,vF,oH,oT,oT,oT,oT,oT,oT,oT,oT,oT,vT,oH,oT,oT,oT,oT,oT,oT,vT] [] [] hX (by kernel_rfl) (aC (nB J3) (aC lR (aC lR (aC (nB Ma) (aC lR (aC lR (aC hJ (aC hJ (aC hJ (aC hJ (aC hJ (aC hJ (aC hJ (aC hJ (aC gj (aC gj (aC gj (aC gj (aC gj (aC gj (aC gj (aC gj (aC gj (aC gj (aC jE (aC jE (aC jE (aC jE (aC jE (aC jE (aC jE (aC jE (aC jE (aC jE (dZ (aT (aT (aT aN)))))))))))))))))))))))))))))))))))))) (fun _ h=>(aj (h.ht (cont true (ae bz)))));rcases an bz with ⟨uO,bz⟩|⟨uO,bz⟩
 exact HT.cR [oH,⟨none,.call [.au tI,.au tI,.au tI] [⟨false,.bool,PY⟩] []⟩,oH,oH,oF,⟨some false,.call [.au tI,.au tI,.au tI] [⟨false,.bool,RU⟩] []⟩,oF,vF,oH,oF,oF,oF,oF,oF,oF,oF,vF,oH,oF,oF,oF,oF,oF,oF,oF,oF,oF,vF,oH,oF,oF,oF,oF,oF,oF,oF,oF,oF,vF,oH,oT,oT,oT,oT,oT,oT,vT] [] [] hX (by kernel_rfl) (aC (nB J3) (aC lR (aC lR (aC (nB Ma) (aC lR (aC lR (aC hJ (aC hJ (aC hJ (aC hJ (aC hJ (aC hJ (aC hJ (aC hJ (aC gj (aC gj (aC gj (aC gj (aC gj (aC gj (aC gj (aC gj (aC gj (aC gj (aC jE (aC jE (aC jE (aC jE (aC jE (aC jE (aC jE (aC jE (aC jE (aC jE (aC uO (aC uO (aC uO (aC uO (aC uO (aC uO (aC uO aN))))))))))))))))))))))))))))))))))))))))) (fun _ h=>(aj (h.ht (cont true (ae bz)))));obtain ⟨Nx,RF,bz⟩:=af bz;exact HT.cR [oH,⟨none,.call [.au tI,.au tI,.au tI] [⟨false,.bool,PY⟩] []⟩,oH,oH,oF,⟨some false,.call [.au tI,.au tI,.au tI] [⟨false,.bool,RU⟩] []⟩,oF,vF,oH,oF,oF,oF,oF,oF,oF,oF,vF,oH,oF,oF,oF,oF,oF,oF,oF,oF,oF,vF,oH,oF,oF,oF,oF,oF,oF,oF,oF,oF,vF,oH,oF,oF,oF,oF,⟨some false,.call [.au aY] [⟨false,.bool,Nx⟩] []⟩,oF,vF] [] [] hX (by kernel_rfl) (aC (nB J3) (aC lR (aC lR (aC (nB Ma) (aC lR (aC lR (aC hJ (aC hJ (aC hJ (aC hJ (aC hJ (aC hJ (aC hJ (aC hJ (aC gj (aC gj (aC gj (aC gj (aC gj (aC gj (aC gj (aC gj (aC gj (aC gj (aC jE (aC jE (aC jE (aC jE (aC jE (aC jE (aC jE (aC jE (aC jE (aC jE (aC uO (aC uO (aC uO (aC uO (aC uO (aC (yF RF) (aC uO (aC uO aN)))))))))))))))))))))))))))))))))))))))))) (fun _ h=>(aj (h.ht (cont (!Nx) (ae bz)))))
noncomputable def jT (a0:eC)(a1:List (List Int))(s5:Int):Option ((Int)⊕(Unit⊕Unit)):=
 bif (decide (s5<(ai a1))) then
  az ((0:Int)≤s5∧s5<ai a1) (
   (jS (List.getD a1 (Int.toNat s5) ([]:List Int)) a0.2.1).bind fun o8=>
   bif (!o8) then
    some (.inr (.inr ()))
   else
    some (.inl (al .i64 s5 (1:Int))))
 else
  some (.inr (.inl ()))
noncomputable def kq (a0:eC)(a1:List (List Int)):Option (Bool):=
 (show Option (Bool) from
  (kV (a0.1,a0.2.1,a0.2.2.1,a0.2.2.2.1,a0.2.2.2.2)).bind fun yC=>
  bif (!yC) then
   some true
  else
   bif (decide ((ai a1)<(1:Int))) then
    some true
   else
    some (decide ((ai a1)>(16:Int)))).bind fun v1=>
 bif v1 then
  some false
 else
  (rounds (jT a0 a1) (0:Int)).bind fun r6=>match r6 with
   | .inl r7=>
    some true
   | .inr r8=>
    some false
theorem RW {a0:eC}{a1:List (List Int)}{r:Bool}(hr:kq a0 a1=some r):CallOK Try.prog 76 [.gO tM a0,.au (.sl bM) a1] [⟨false,.bool,r⟩] []:=by
 unfold kq at hr;refine ij [(false,.bool)] Try.func76 rfl [] fun cx hX hF=> ?_;show HT cx ⟨[(0,.one (.ip tM a0 0)),(1,.one (.aq (.sl bM) a1))],[],0⟩ _ _;refine ay [oH] ⟨[(0,.one (.ip tM a0 0)),(1,.one (.aq (.sl bM) a1))],[],0⟩ hX aN ?_;refine HT.seq ?_;obtain ⟨qW,bz,hr⟩:=af hr;refine HT.join (fun (v1:Bool)=>⟨[(0,.one (.ip tM a0 0)),(1,.one (.aq (.sl bM) a1)),(18,bV v1)],[],0⟩) (fun v=>v=qW) (fun v1 ov=> ?_) (fun cont=> ?_);subst ov;rcases an hr with ⟨dD,hr⟩|⟨dD,hr⟩
 refine HT.aK rfl dD ?_;refine ay [oH] ⟨[(4,bV false)],[],0⟩ hX aN ?_;have hr:=ae hr;subst hr;exact HT.ret (aM (rO [bV false] [] [] trivial));refine HT.aJ rfl dD ?_;refine HT.skip (aj ?_);refine HT.seq ?_;refine ay (aO 3) ⟨[(0,.one (.ip tM a0 0)),(1,.one (.aq (.sl bM) a1)),(20,iV (ai a1)),(21,iV (0:Int))],[],0⟩ hX aN ?_;refine HT.block ?_;obtain ⟨r6,LY,hr⟩:=af hr;refine HT.ct (fun (s5:Int)=>⟨[(0,.one (.ip tM a0 0)),(1,.one (.aq (.sl bM) a1)),(20,iV (ai a1)),(21,iV s5)],[],0⟩) (fun (r6:Unit⊕Unit)=>match r6 with| .inl r7=>(.exit 0,⟨[],[],0⟩)| .inr r8=>(.ret,⟨[(4,bV false)],[],0⟩)) (Le.re [] [] hX (by kernel_rfl)) LY ?_ (fun s5 x9 cf wT=> ?_);rcases r6 with r7|r8
 refine (aZ (aj ?_));refine ay [oH] ⟨[(4,bV true)],[],0⟩ hX aN ?_;have hr:=ae hr;subst hr;exact HT.ret (rO [bV true] [] [] trivial);have hr:=ae hr;subst hr;exact (bE (aM (rO [bV false] [] [] trivial)));refine ay [oH] ⟨[(0,.one (.ip tM a0 0)),(1,.one (.aq (.sl bM) a1)),(20,iV (ai a1)),(21,iV s5),(22,bV (decide (s5<(ai a1))))],[],0⟩ hX aN ?_;refine HT.seq ?_;rcases an cf with ⟨cg,cf⟩|⟨cg,cf⟩
 refine HT.aK rfl cg ?_;refine HT.skip (aj ?_);refine HT.seq ?_;refine HT.block ?_;refine ay (aO 2) ⟨[(0,.one (.ip tM a0 0)),(1,.one (.aq (.sl bM) a1)),(5,iV s5),(20,iV (ai a1)),(21,iV s5)],[],0⟩ hX aN ?_;obtain ⟨wU,cf⟩:=ao cf;obtain ⟨o8,G1,cf⟩:=af cf;refine HT.D7 8 [o0,o0,⟨oH,[0,1]⟩,⟨oH,[0,1,2]⟩,o0,⟨oH,[4]⟩,⟨oH,[4,5]⟩,⟨oH,[4,5,6]⟩] [(rL 8),(rL 9)] [⟨none,.call [.au bM,.au tI] [⟨false,.bool,o8⟩] []⟩,oH] ⟨[(0,.one (.ip tM a0 0)),(1,.one (.aq (.sl bM) a1)),(20,iV (ai a1)),(21,iV s5),(33,bV (!o8))],[],0⟩ hX (by kernel_rfl) (by kernel_rfl) (aC wU (aC (IA G1) aN)) ?_;rcases an cf with ⟨oN,cf⟩|⟨oN,cf⟩
 refine HT.aK rfl oN ?_;refine ay [oH] ⟨[(4,bV false)],[],0⟩ hX aN ?_;have cf:=ae cf;subst cf;exact HT.qV (Le.re [] [] hX (by kernel_rfl)) (bE (aM (iz (wT (.inr ()) rfl))));refine HT.aJ rfl oN ?_;refine HT.skip (bC (aj ?_));have cf:=ae cf;subst cf;exact HT.cR (aO 2) [] [] hX (by kernel_rfl) aN (fun _ h=>(bJ ⟨(al .i64 s5 (1:Int)),rfl,h⟩));refine HT.aJ rfl cg ?_;have cf:=ae cf;subst cf;exact HT.cr (Le.re [] [] hX (by kernel_rfl)) (bF (bI (wT (.inl ()) rfl)));obtain ⟨yC,Br,bz⟩:=af bz;rcases an bz with ⟨fa,bz⟩|⟨fa,bz⟩
 exact HT.cR [oH,⟨none,.call [.gO tM] [⟨false,.bool,yC⟩] []⟩,oH,oH,oT,oT,oT,vT,oH,oT,oT,oT,vT] [] [] hX (by kernel_rfl) (aC (w7 Br) (aC fa (aC fa (aC fa (aC fa (dZ aN)))))) (fun _ h=>(aj (h.ht (cont true (ae bz)))));rcases an bz with ⟨sG,bz⟩|⟨sG,bz⟩
 exact HT.cR [oH,⟨none,.call [.gO tM] [⟨false,.bool,yC⟩] []⟩,oH,oH,oF,oF,oF,vF,oH,oT,oT,oT,vT] [] [] hX (by kernel_rfl) (aC (w7 Br) (aC fa (aC fa (aC fa (aC fa (aC sG (aC sG (aC sG (aC sG aN))))))))) (fun _ h=>(aj (h.ht (cont true (ae bz)))));exact HT.cR [oH,⟨none,.call [.gO tM] [⟨false,.bool,yC⟩] []⟩,oH,oH,oF,oF,oF,vF,oH,oF,oF,oF,vF] [] [] hX (by kernel_rfl) (aC (w7 Br) (aC fa (aC fa (aC fa (aC fa (aC sG (aC sG (aC sG (aC sG aN))))))))) (fun _ h=>(aj (h.ht (cont (decide ((ai a1)>(16:Int))) (ae bz)))))
noncomputable def lT (a0:eC)(a1:List Int):Option (Bool):=
 (show Option (Bool) from
  (kV (a0.1,a0.2.1,a0.2.2.1,a0.2.2.2.1,a0.2.2.2.2)).bind fun y4=>
  bif y4 then
   (jS a1 a0.2.1).bind fun y7=>
   some y7
  else
   some false).bind fun v1=>
 some v1
theorem OD {a0:eC}{a1:List Int}{r:Bool}(hr:lT a0 a1=some r):CallOK Try.prog 133 [.gO tM a0,.au bM a1] [⟨false,.bool,r⟩] []:=by
 unfold lT at hr;refine ij [(false,.bool)] Try.func133 rfl [] fun cx hX hF=> ?_;show HT cx ⟨[(0,.one (.ip tM a0 0)),(1,nV a1)],[],0⟩ _ _;refine ay [oH] ⟨[(0,.one (.ip tM a0 0)),(1,nV a1)],[],0⟩ hX aN ?_;obtain ⟨qW,bz,hr⟩:=af hr;refine HT.join (fun (v1:Bool)=>⟨[(4,bV v1)],[],0⟩) (fun v=>v=qW) (fun v1 ov=> ?_) (fun cont=> ?_);subst ov;have hr:=ae hr;subst hr;exact HT.ret (rO [bV v1] [] [] trivial);obtain ⟨y4,rI,bz⟩:=af bz;rcases an bz with ⟨gQ,bz⟩|⟨gQ,bz⟩
 obtain ⟨y7,BY,bz⟩:=af bz;exact HT.cR [oH,⟨none,.call [.gO tM] [⟨false,.bool,y4⟩] []⟩,oH,oT,oT,oT,oT,oT,⟨some true,.call [.au bM,.au tI] [⟨false,.bool,y7⟩] []⟩,vT,oH] [] [] hX (by kernel_rfl) (aC (w7 rI) (aC gQ (aC gQ (aC gQ (aC gQ (aC gQ (aC gQ (aC (IA BY) (aC gQ aN))))))))) (fun _ h=>(aj (h.ht (cont y7 (ae bz)))));exact HT.cR [oH,⟨none,.call [.gO tM] [⟨false,.bool,y4⟩] []⟩,oH,oF,oF,oF,oF,oF,oF,vF,oH] [] [] hX (by kernel_rfl) (aC (w7 rI) (aC gQ (aC gQ (aC gQ (aC gQ (aC gQ (aC gQ (aC gQ aN)))))))) (fun _ h=>(aj (h.ht (cont false (ae bz)))))
noncomputable def lU (a0:Nat):Option (Bool):=
 some (pz .f32 (av .sub .f32 a0 a0) (0:Nat))
theorem RX {a0:Nat}{r:Bool}(hr:lU a0=some r):CallOK Try.prog 98 [.au tF a0] [⟨false,.bool,r⟩] []:=by
 unfold lU at hr;refine ij [(false,.bool)] Try.func98 rfl [] fun cx hX hF=> ?_;show HT cx ⟨[(0,fV a0)],[],0⟩ _ _;refine ay [oH] ⟨[(0,fV a0)],[],0⟩ hX aN ?_;refine ay (aO 5) ⟨[(2,bV (pz .f32 (av .sub .f32 a0 a0) (0:Nat)))],[],0⟩ hX aN ?_;have hr:=ae hr;subst hr;exact HT.ret (rO [bV (pz .f32 (av .sub .f32 a0 a0) (0:Nat))] [] [] trivial)
noncomputable def hZ (a0:Nat):Option (Nat×Bool):=
 (lU a0).bind fun y1=>
 bif (!y1) then
  some ((0:Nat),false)
 else
  some (a0,true)
theorem Mb {a0:Nat}{r:Nat×Bool}(hr:hZ a0=some r):CallOK Try.prog 45 [.au tF a0] [⟨false,tF,r.1⟩,⟨false,.bool,r.2⟩] []:=by
 unfold hZ at hr;refine ij [(false,tF),(false,.bool)] Try.func45 rfl [] fun cx hX hF=> ?_;show HT cx ⟨[(0,fV a0)],[],0⟩ _ _;refine ay (aO 2) ⟨[(0,fV a0)],[],0⟩ hX aN ?_;refine HT.seq ?_;obtain ⟨y1,eV,hr⟩:=af hr;refine ay [oH,⟨none,.call [.au tF] [⟨false,.bool,y1⟩] []⟩,oH] ⟨[(0,fV a0),(6,bV (!y1))],[],0⟩ hX (aC (RX eV) aN) ?_;rcases an hr with ⟨m6,hr⟩|⟨m6,hr⟩
 refine HT.aK rfl m6 ?_;refine ay (aO 2) ⟨[(2,fV (0:Nat)),(3,bV false)],[],0⟩ hX aN ?_;have hr:=ae hr;subst hr;exact HT.ret (aM (rO [fV (0:Nat),bV false] [] [] trivial));refine HT.aJ rfl m6 ?_;refine HT.skip (aj ?_);refine ay (aO 3) ⟨[(2,fV a0),(3,bV true)],[],0⟩ hX aN ?_;have hr:=ae hr;subst hr;exact HT.ret (rO [fV a0,bV true] [] [] trivial)
noncomputable def kE (a0:eC)(a1:List Nat)(a2:Int)(s1:Int×List Nat)(s8:Nat×Int):Option ((Nat×Int)⊕(Nat)):=
 bif (decide (s8.2<a0.1)) then
  az ((0:Int)≤s8.2∧s8.2<ai a1) (
   az ((0:Int)≤(al .i64 (aU .i64 s8.2 a0.2.1) a2)∧(al .i64 (aU .i64 s8.2 a0.2.1) a2)<ai a0.2.2.2.2) (
    az ((0:Int)≤(al .i64 (aU .i64 s8.2 a0.1) s1.1)∧(al .i64 (aU .i64 s8.2 a0.1) s1.1)<ai a0.2.2.2.1) (
     some (.inl ((av .add .f32 s8.1 (av .mul .f32 (av .mul .f32 (List.getD a1 (Int.toNat s8.2) (0:Nat)) (List.getD a0.2.2.2.2 (Int.toNat (al .i64 (aU .i64 s8.2 a0.2.1) a2)) (0:Nat))) (List.getD a0.2.2.2.1 (Int.toNat (al .i64 (aU .i64 s8.2 a0.1) s1.1)) (0:Nat)))),(al .i64 s8.2 (1:Int)))))))
 else
  some (.inr s8.1)
noncomputable def kF (a0:eC)(a1:List Nat)(a2:Int)(s1:Int×List Nat):Option ((Int×List Nat)⊕(List Nat)):=
 bif (decide (s1.1<a0.1)) then
  (rounds (kE a0 a1 a2 s1) ((0:Nat),(0:Int))).bind fun Ab=>
  az (List.length s1.2+List.length ([Ab]:List Nat)≤bO) (
   some (.inl ((al .i64 s1.1 (1:Int)),(s1.2++([Ab]:List Nat)))))
 else
  some (.inr s1.2)
noncomputable def lW (a0:eC)(a1:List Nat)(a2:Int):Option (List Nat):=
 (rounds (kF a0 a1 a2) ((0:Int),([]:List Nat))).bind fun r3=>
 some r3
theorem OE {a0:eC}{a1:List Nat}{a2:Int}{r:List Nat}(hr:lW a0 a1 a2=some r):CallOK Try.prog 134 [.gO tM a0,.au aY a1,.au tI a2] [⟨true,aY,r⟩] []:=by
 unfold lW at hr;refine ij [(true,aY)] Try.func134 rfl [] fun cx hX hF=> ?_;show HT cx ⟨[(0,.one (.ip tM a0 0)),(1,lV a1),(2,iV a2)],[],0⟩ _ _;refine ay [oH] ⟨[(0,.one (.ip tM a0 0)),(1,lV a1),(2,iV a2)],[],0⟩ hX aN ?_;refine ay (aO 2) ⟨[(0,.one (.ip tM a0 0)),(1,lV a1),(2,iV a2),(7,.one (.ar))],[],0⟩ hX aN ?_;refine HT.seq ?_;refine ay [oH] ⟨[(0,.one (.ip tM a0 0)),(1,lV a1),(2,iV a2),(7,.one (.ar)),(8,iV (0:Int))],[],0⟩ hX aN ?_;refine HT.block ?_;obtain ⟨r2,GY,hr⟩:=af hr;refine HT.ct (fun (s1:Int×List Nat)=>⟨[(0,.one (.ip tM a0 0)),(1,lV a1),(2,iV a2),(7,aV 0),(8,iV s1.1)],[(0,.seq tF s1.2)],1⟩) (fun (r3:List Nat)=>(.exit 0,⟨[(7,aV 0)],[(0,.seq tF r3)],1⟩)) (Le.re [] [0] hX (by kernel_rfl)) GY ?_ (fun s1 x4 rS UN=> ?_);refine (aZ (aj ?_));refine ay (aO 2) ⟨[(6,aV 0)],[(0,.seq tF r2)],1⟩ hX aN ?_;have hr:=ae hr;subst hr;exact HT.ret (rO [aV 0] [0] [] trivial);refine HT.seq ?_;refine ay (aO 6) ⟨[(0,.one (.ip tM a0 0)),(1,lV a1),(2,iV a2),(7,aV 0),(8,iV s1.1),(17,bV (decide (s1.1<a0.1)))],[(0,.seq tF s1.2)],1⟩ hX aN ?_;rcases an rS with ⟨kQ,rS⟩|⟨kQ,rS⟩
 refine HT.aK rfl kQ ?_;refine HT.skip (aj ?_);refine HT.seq ?_;refine HT.block ?_;refine ay [oH] ⟨[(0,.one (.ip tM a0 0)),(1,lV a1),(2,iV a2),(7,aV 0),(8,iV s1.1),(9,fV (0:Nat))],[(0,.seq tF s1.2)],1⟩ hX aN ?_;refine HT.seq ?_;refine ay [oH] ⟨[(0,.one (.ip tM a0 0)),(1,lV a1),(2,iV a2),(7,aV 0),(8,iV s1.1),(9,fV (0:Nat)),(10,iV (0:Int))],[(0,.seq tF s1.2)],1⟩ hX aN ?_;refine HT.block ?_;obtain ⟨r9,Rh,rS⟩:=af rS;refine HT.ct (fun (s8:Nat×Int)=>⟨[(0,.one (.ip tM a0 0)),(1,lV a1),(2,iV a2),(7,aV 0),(8,iV s1.1),(9,fV s8.1),(10,iV s8.2)],[(0,.seq tF s1.2)],1⟩) (fun (Ab:Nat)=>(.exit 2,⟨[(0,.one (.ip tM a0 0)),(1,lV a1),(2,iV a2),(7,aV 0),(8,iV s1.1),(9,fV Ab)],[(0,.seq tF s1.2)],1⟩)) (Le.re [(0,0)] [] hX (by kernel_rfl)) Rh ?_ (fun s8 XL cA Dk=> ?_);refine (aZ (aj ?_));obtain ⟨sC,rS⟩:=ao rS;refine HT.xM [oH,oH,⟨none,.ty tF⟩,⟨none,.ty tF⟩,oH] ⟨[(0,.one (.ip tM a0 0)),(1,lV a1),(2,iV a2),(7,aV 2),(8,iV s1.1)],[(2,.seq tF (s1.2++([r9]:List Nat)))],3⟩ hX (by kernel_rfl) (aC sC aN) (bC (aj ?_));have rS:=ae rS;subst rS;exact HT.cR (aO 3) [(2,0)] [] hX (by kernel_rfl) aN (fun _ h=>(bJ ⟨((al .i64 s1.1 (1:Int)),(s1.2++([r9]:List Nat))),rfl,h⟩));refine HT.seq ?_;refine ay (aO 6) ⟨[(0,.one (.ip tM a0 0)),(1,lV a1),(2,iV a2),(7,aV 0),(8,iV s1.1),(9,fV s8.1),(10,iV s8.2),(25,bV (decide (s8.2<a0.1)))],[(0,.seq tF s1.2)],1⟩ hX aN ?_;rcases an cA with ⟨iW,cA⟩|⟨iW,cA⟩
 refine HT.aK rfl iW ?_;refine HT.skip (aj ?_);refine HT.seq ?_;refine HT.block ?_;obtain ⟨tX,cA⟩:=ao cA;obtain ⟨vJ,cA⟩:=ao cA;obtain ⟨Dp,cA⟩:=ao cA;refine HT.PT 35 [o0,o0,o0,⟨oH,[1,2]⟩,⟨oH,[1,2,3]⟩,o0,⟨oH,[5]⟩,⟨oH,[5,6]⟩,⟨oH,[5,6,7]⟩,o0,o0,⟨oH,[10]⟩,⟨oH,[10,11]⟩,⟨oH,[10,11,12]⟩,⟨oH,[9,10,11,12,13]⟩,o0,⟨oH,[9,10,11,12,13,14,15]⟩,⟨oH,[5,6,7,8,9,10,11,12,13,14,15,16]⟩,⟨oH,[5,6,7,8,9,10,11,12,13,14,15,16,17]⟩,⟨oH,[1,2,3,4,5,6,7,8,9,10,11,12,13,14,15,16,17,18]⟩,o0,⟨oH,[20]⟩,⟨oH,[20,21]⟩,⟨oH,[20,21,22]⟩,o0,o0,⟨oH,[25]⟩,⟨oH,[25,26]⟩,⟨oH,[25,26,27]⟩,⟨oH,[24,25,26,27,28]⟩,o0,⟨oH,[24,25,26,27,28,29,30]⟩,⟨oH,[20,21,22,23,24,25,26,27,28,29,30,31]⟩,⟨oH,[20,21,22,23,24,25,26,27,28,29,30,31,32]⟩,⟨oH,[1,2,3,4,5,6,7,8,9,10,11,12,13,14,15,16,17,18,19,20,21,22,23,24,25,26,27,28,29,30,31,32,33]⟩] [(rL 35),(rL 36)] (aO 2) ⟨[(0,.one (.ip tM a0 0)),(1,lV a1),(2,iV a2),(7,aV 0),(8,iV s1.1),(9,fV (av .add .f32 s8.1 (av .mul .f32 (av .mul .f32 (List.getD a1 (Int.toNat s8.2) (0:Nat)) (List.getD a0.2.2.2.2 (Int.toNat (al .i64 (aU .i64 s8.2 a0.2.1) a2)) (0:Nat))) (List.getD a0.2.2.2.1 (Int.toNat (al .i64 (aU .i64 s8.2 a0.1) s1.1)) (0:Nat))))),(10,iV s8.2)],[(0,.seq tF s1.2)],1⟩ hX (by kernel_rfl) (by kernel_rfl) (aC tX (aC vJ (aC Dp aN))) (bC (aj ?_));have cA:=ae cA;subst cA;exact HT.cR (aO 3) [(0,0)] [] hX (by kernel_rfl) aN (fun _ h=>(bJ ⟨((av .add .f32 s8.1 (av .mul .f32 (av .mul .f32 (List.getD a1 (Int.toNat s8.2) (0:Nat)) (List.getD a0.2.2.2.2 (Int.toNat (al .i64 (aU .i64 s8.2 a0.2.1) a2)) (0:Nat))) (List.getD a0.2.2.2.1 (Int.toNat (al .i64 (aU .i64 s8.2 a0.1) s1.1)) (0:Nat)))),(al .i64 s8.2 (1:Int))),rfl,h⟩));refine HT.aJ rfl iW ?_;have cA:=ae cA;subst cA;exact HT.cr (Le.re [(0,0)] [] hX (by kernel_rfl)) (bF (bI (Dk s8.1 rfl)));refine HT.aJ rfl kQ ?_;have rS:=ae rS;subst rS;exact HT.cr (Le.re [(0,0)] [] hX (by kernel_rfl)) (bF (bI (UN s1.2 rfl)))
theorem RY:tn Try.prog 139 .f64 .u64:=fun b w=>by
 rw [run_callFunc_extern (fn:=Try.f139) (e:=Extern.MathFloatBits.float64bits) Try.func139 (by kernel_rfl) (by kernel_rfl) (by rfl) (by rfl)];rfl
noncomputable def Ah (a0:Nat):Option (Nat):=
 az (a0≠(9221120237041090560:Nat)) (
  none)
theorem OF {a0:Nat}{r:Nat}(hr:Ah a0=some r):CallOK Try.prog 142 [.au (.aX .f64) a0] [⟨false,(.aX .f64),r⟩] []:=by
 unfold Ah at hr;refine ij [(false,(.aX .f64))] Try.func142 rfl [] fun cx hX hF=> ?_;show HT cx ⟨[(0,.one (.aq (.aX .f64) a0))],[],0⟩ _ _;refine ay [oH] ⟨[(0,.one (.aq (.aX .f64) a0))],[],0⟩ hX aN ?_;obtain ⟨uX,hr⟩:=ao hr;cases hr
noncomputable def qX (a0:Nat)(a1:Int):Option (Bool):=
 (show Option (Nat) from
  bif (a1==(0:Int)) then
   (Ah a0).bind fun y5=>
   some y5
  else
   bif (decide (a1<(0:Int))) then
    some (A7 .f64 a0)
   else
    some a0).bind fun v1=>
 some (qI .f64 v1 (9218868437227405311:Nat))
theorem OG {a0:Nat}{a1:Int}{r:Bool}(hr:qX a0 a1=some r):CallOK Try.prog 141 [.au (.aX .f64) a0,.au tI a1] [⟨false,.bool,r⟩] []:=by
 unfold qX at hr;refine ij [(false,.bool)] Try.func141 rfl [] fun cx hX hF=> ?_;show HT cx ⟨[(0,.one (.aq (.aX .f64) a0)),(1,iV a1)],[],0⟩ _ _;refine ay [oH] ⟨[(0,.one (.aq (.aX .f64) a0)),(1,iV a1)],[],0⟩ hX aN ?_;obtain ⟨qW,bz,hr⟩:=af hr;refine HT.join (fun (v1:Nat)=>⟨[(0,.one (.aq (.aX .f64) v1))],[],0⟩) (fun v=>v=qW) (fun v1 ov=> ?_) (fun cont=> ?_);subst ov;refine ay (aO 3) ⟨[(4,bV (qI .f64 v1 (9218868437227405311:Nat)))],[],0⟩ hX aN ?_;have hr:=ae hr;subst hr;exact HT.ret (rO [bV (qI .f64 v1 (9218868437227405311:Nat))] [] [] trivial);refine ay (aO 2) ⟨[(0,.one (.aq (.aX .f64) a0)),(1,iV a1),(6,bV (a1==(0:Int)))],[],0⟩ hX aN ?_;rcases an bz with ⟨dD,bz⟩|⟨dD,bz⟩
 refine HT.aK rfl dD ?_;obtain ⟨y5,JX,bz⟩:=af bz;exact HT.cR [oH,⟨none,.call [.au (.aX .f64)] [⟨false,(.aX .f64),y5⟩] []⟩,oH] [] [] hX (by kernel_rfl) (aC (OF JX) aN) (fun _ h=>(aj (h.ht (cont y5 (ae bz)))));refine HT.aJ rfl dD ?_;refine ay (aO 2) ⟨[(0,.one (.aq (.aX .f64) a0)),(10,bV (decide (a1<(0:Int))))],[],0⟩ hX aN ?_;rcases an bz with ⟨kQ,bz⟩|⟨kQ,bz⟩
 refine HT.aK rfl kQ ?_;exact HT.cR (aO 3) [] [] hX (by kernel_rfl) aN (fun _ h=>(aj (h.ht (cont (A7 .f64 a0) (ae bz)))));refine HT.aJ rfl kQ ?_;refine HT.skip (aj ?_);exact (Le.re [] [] hX (by kernel_rfl)).ht (cont a0 (ae bz))
noncomputable def fX (tY:Nat)(nC:Nat×Int):Option ((Nat×Int)⊕(Nat)):=
 bif (decide (nC.2≥(1:Int))) then
  some (.inl ((av .add .f64 (av .quo .f64 (4607182418800017408:Nat) (eg .f64 nC.2)) (av .mul .f64 (av .mul .f64 tY tY) nC.1)),(lO .i64 nC.2 (2:Int))))
 else
  some (.inr nC.1)
noncomputable def iG (Ea:Nat×Int):Option ((Nat×Int)⊕((Nat×Int))):=
 bif (aX .f64 Ea.1 (4604930618986332160:Nat)) then
  some (.inl ((av .mul .f64 Ea.1 (4611686018427387904:Nat)),(lO .i64 Ea.2 (1:Int))))
 else
  some (.inr (Ea.1,Ea.2))
noncomputable def iH (ix:Nat×Int):Option ((Nat×Int)⊕((Nat×Int))):=
 bif (rT .f64 ix.1 (4609434218613702656:Nat)) then
  some (.inl ((av .quo .f64 ix.1 (4611686018427387904:Nat)),(al .i64 ix.2 (1:Int))))
 else
  some (.inr (ix.1,ix.2))
noncomputable def iQ (a0:Nat):Option (Nat):=
 (show Option (Bool) from
  bif (!(pz .f64 a0 a0)) then
   some true
  else
   some (aX .f64 a0 (0:Nat))).bind fun v1=>
 bif v1 then
  (vL).bind fun y5=>
  some y5
 else
  bif (pz .f64 a0 (0:Nat)) then
   (vK (-1:Int)).bind fun y8=>
   some y8
  else
   (qX a0 (1:Int)).bind fun fP=>
   bif fP then
    some a0
   else
    (rounds (iH) (a0,(0:Int))).bind fun yE=>
    (rounds (iG) (yE.1,yE.2)).bind fun vM=>
    (some (av .quo .f64 (av .sub .f64 vM.1 (4607182418800017408:Nat)) (av .add .f64 vM.1 (4607182418800017408:Nat)))).bind fun tY=>
    (rounds (fX tY) ((0:Nat),(25:Int))).bind fun OI=>
    (some (av .add .f64 (av .mul .f64 (4611686018427387904:Nat) (av .mul .f64 tY OI)) (av .mul .f64 (eg .f64 vM.2) (4604418534313441775:Nat)))).bind fun Bt=>
    some Bt
theorem OJ {a0:Nat}{r:Nat}(hr:iQ a0=some r):CallOK Try.prog 140 [.au (.aX .f64) a0] [⟨false,(.aX .f64),r⟩] []:=by
 unfold iQ at hr;refine ij [(false,(.aX .f64))] Try.func140 rfl [] fun cx hX hF=> ?_;show HT cx ⟨[(0,.one (.aq (.aX .f64) a0))],[],0⟩ _ _;refine ay [oH] ⟨[(0,.one (.aq (.aX .f64) a0))],[],0⟩ hX aN ?_;refine HT.seq ?_;refine HT.block ?_;obtain ⟨qW,bz,hr⟩:=af hr;refine HT.join (fun (v1:Bool)=>⟨[(0,.one (.aq (.aX .f64) a0)),(8,bV v1)],[],0⟩) (fun v=>v=qW) (fun v1 ov=> ?_) (fun cont=> ?_);subst ov;rcases an hr with ⟨dD,hr⟩|⟨dD,hr⟩
 refine HT.aK rfl dD ?_;obtain ⟨y5,JX,hr⟩:=af hr;refine ay [⟨none,.call [] [⟨false,(.aX .f64),y5⟩] []⟩,oH] ⟨[(2,.one (.aq (.aX .f64) y5))],[],0⟩ hX (aC (Iw JX) aN) ?_;have hr:=ae hr;subst hr;exact HT.ret (bE (aM (rO [.one (.aq (.aX .f64) y5)] [] [] trivial)));refine HT.aJ rfl dD ?_;refine ay (aO 3) ⟨[(0,.one (.aq (.aX .f64) a0)),(17,bV (pz .f64 a0 (0:Nat)))],[],0⟩ hX aN ?_;rcases an hr with ⟨kQ,hr⟩|⟨kQ,hr⟩
 refine HT.aK rfl kQ ?_;obtain ⟨y8,XK,hr⟩:=af hr;refine ay [⟨none,.call [.au tI] [⟨false,(.aX .f64),y8⟩] []⟩,oH] ⟨[(2,.one (.aq (.aX .f64) y8))],[],0⟩ hX (aC (Iv XK) aN) ?_;have hr:=ae hr;subst hr;exact HT.ret (bE (aM (rO [.one (.aq (.aX .f64) y8)] [] [] trivial)));refine HT.aJ rfl kQ ?_;obtain ⟨fP,pF,hr⟩:=af hr;refine ay [oH,⟨none,.call [.au (.aX .f64),.au tI] [⟨false,.bool,fP⟩] []⟩,oH] ⟨[(0,.one (.aq (.aX .f64) a0)),(21,bV fP)],[],0⟩ hX (aC (OG pF) aN) ?_;rcases an hr with ⟨cg,hr⟩|⟨cg,hr⟩
 refine HT.aK rfl cg ?_;refine ay (aO 2) ⟨[(2,.one (.aq (.aX .f64) a0))],[],0⟩ hX aN ?_;have hr:=ae hr;subst hr;exact HT.ret (bE (aM (rO [.one (.aq (.aX .f64) a0)] [] [] trivial)));refine HT.aJ rfl cg ?_;refine HT.skip (bC (aj ?_));refine ay [oH] ⟨[(0,.one (.aq (.aX .f64) a0)),(3,iV (0:Int))],[],0⟩ hX aN ?_;refine HT.seq ?_;refine HT.block ?_;obtain ⟨D9,Hc,hr⟩:=af hr;refine HT.ct (fun (ix:Nat×Int)=>⟨[(0,.one (.aq (.aX .f64) ix.1)),(3,iV ix.2)],[],0⟩) (fun (yE:(Nat×Int))=>(.exit 1,⟨[(0,.one (.aq (.aX .f64) yE.1)),(3,iV yE.2)],[],0⟩)) (Le.re [] [] hX (by kernel_rfl)) Hc ?_ (fun ix x36 Dr Yj=> ?_);refine (aZ (aj ?_));refine HT.seq ?_;refine HT.block ?_;obtain ⟨Af,Yk,hr⟩:=af hr;refine HT.ct (fun (Ea:Nat×Int)=>⟨[(0,.one (.aq (.aX .f64) Ea.1)),(3,iV Ea.2)],[],0⟩) (fun (vM:(Nat×Int))=>(.exit 3,⟨[(0,.one (.aq (.aX .f64) vM.1)),(3,iV vM.2)],[],0⟩)) (Le.re [] [] hX (by kernel_rfl)) Yk ?_ (fun Ea x31 Dt Yl=> ?_);refine (aZ (aj ?_));refine ay (aO 6) ⟨[(3,iV Af.2),(4,.one (.aq (.aX .f64) (av .quo .f64 (av .sub .f64 Af.1 (4607182418800017408:Nat)) (av .add .f64 Af.1 (4607182418800017408:Nat)))))],[],0⟩ hX aN ?_;obtain ⟨tY,RZ,hr⟩:=af hr;have RZ:=fh RZ;refine (Le.cv (s:=⟨[],[],[],false⟩) (own:=[]) (ps:=[Af.2=Af.2,tY=(av .quo .f64 (av .sub .f64 Af.1 (4607182418800017408:Nat)) (av .add .f64 Af.1 (4607182418800017408:Nat)))]) (st':=⟨[(3,iV Af.2),(4,.one (.aq (.aX .f64) tY))],[],0⟩) hX.own (fun h=>by cases h) (by kernel_rfl) ⟨rfl,RZ,trivial⟩).ht ?_;refine ay (aO 4) ⟨[(3,iV Af.2),(4,.one (.aq (.aX .f64) tY)),(5,.one (.aq (.aX .f64) (av .mul .f64 tY tY)))],[],0⟩ hX aN ?_;refine ay [oH] ⟨[(3,iV Af.2),(4,.one (.aq (.aX .f64) tY)),(5,.one (.aq (.aX .f64) (av .mul .f64 tY tY))),(6,.one (.aq (.aX .f64) (0:Nat)))],[],0⟩ hX aN ?_;refine HT.seq ?_;refine ay [oH] ⟨[(3,iV Af.2),(4,.one (.aq (.aX .f64) tY)),(5,.one (.aq (.aX .f64) (av .mul .f64 tY tY))),(6,.one (.aq (.aX .f64) (0:Nat))),(7,iV (25:Int))],[],0⟩ hX aN ?_;refine HT.block ?_;obtain ⟨R1,Ym,hr⟩:=af hr;refine HT.ct (fun (nC:Nat×Int)=>⟨[(3,iV Af.2),(4,.one (.aq (.aX .f64) tY)),(5,.one (.aq (.aX .f64) (av .mul .f64 tY tY))),(6,.one (.aq (.aX .f64) nC.1)),(7,iV nC.2)],[],0⟩) (fun (OI:Nat)=>(.exit 5,⟨[(3,iV Af.2),(4,.one (.aq (.aX .f64) tY)),(6,.one (.aq (.aX .f64) OI))],[],0⟩)) (Le.re [] [] hX (by kernel_rfl)) Ym ?_ (fun nC ZY gK L6=> ?_);refine (aZ (aj ?_));refine ay (aO 9) ⟨[(2,.one (.aq (.aX .f64) (av .add .f64 (av .mul .f64 (4611686018427387904:Nat) (av .mul .f64 tY R1)) (av .mul .f64 (eg .f64 Af.2) (4604418534313441775:Nat)))))],[],0⟩ hX aN ?_;obtain ⟨Bt,Hf,hr⟩:=af hr;have Hf:=fh Hf;refine (Le.cv (s:=⟨[],[],[],false⟩) (own:=[]) (ps:=[Bt=(av .add .f64 (av .mul .f64 (4611686018427387904:Nat) (av .mul .f64 tY R1)) (av .mul .f64 (eg .f64 Af.2) (4604418534313441775:Nat)))]) (st':=⟨[(2,.one (.aq (.aX .f64) Bt))],[],0⟩) hX.own (fun h=>by cases h) (by kernel_rfl) ⟨Hf,trivial⟩).ht ?_;have hr:=ae hr;subst hr;exact HT.ret (rO [.one (.aq (.aX .f64) Bt)] [] [] trivial);refine HT.seq ?_;refine ay (aO 2) ⟨[(3,iV Af.2),(4,.one (.aq (.aX .f64) tY)),(5,.one (.aq (.aX .f64) (av .mul .f64 tY tY))),(6,.one (.aq (.aX .f64) nC.1)),(7,iV nC.2),(46,bV (decide (nC.2≥(1:Int))))],[],0⟩ hX aN ?_;rcases an gK with ⟨Ag,gK⟩|⟨Ag,gK⟩
 refine HT.aK rfl Ag ?_;refine HT.skip (aj ?_);refine HT.seq ?_;refine HT.block ?_;refine HT.xM (aO 8) ⟨[(3,iV Af.2),(4,.one (.aq (.aX .f64) tY)),(5,.one (.aq (.aX .f64) (av .mul .f64 tY tY))),(6,.one (.aq (.aX .f64) (av .add .f64 (av .quo .f64 (4607182418800017408:Nat) (eg .f64 nC.2)) (av .mul .f64 (av .mul .f64 tY tY) nC.1)))),(7,iV nC.2)],[],0⟩ hX (by kernel_rfl) aN (bC (aj ?_));have gK:=ae gK;subst gK;exact HT.cR (aO 3) [] [] hX (by kernel_rfl) aN (fun _ h=>(bJ ⟨((av .add .f64 (av .quo .f64 (4607182418800017408:Nat) (eg .f64 nC.2)) (av .mul .f64 (av .mul .f64 tY tY) nC.1)),(lO .i64 nC.2 (2:Int))),rfl,h⟩));refine HT.aJ rfl Ag ?_;have gK:=ae gK;subst gK;exact HT.cr (Le.re [] [] hX (by kernel_rfl)) (bF (bI (L6 nC.1 rfl)));refine HT.seq ?_;refine ay (aO 2) ⟨[(0,.one (.aq (.aX .f64) Ea.1)),(3,iV Ea.2),(32,bV (aX .f64 Ea.1 (4604930618986332160:Nat)))],[],0⟩ hX aN ?_;rcases an Dt with ⟨R2,Dt⟩|⟨R2,Dt⟩
 refine HT.aK rfl R2 ?_;refine HT.skip (aj ?_);refine HT.block ?_;refine ay (aO 3) ⟨[(0,.one (.aq (.aX .f64) (av .mul .f64 Ea.1 (4611686018427387904:Nat)))),(3,iV Ea.2)],[],0⟩ hX aN ?_;have Dt:=ae Dt;subst Dt;exact HT.cR (aO 3) [] [] hX (by kernel_rfl) aN (fun _ h=>(bC (bJ ⟨((av .mul .f64 Ea.1 (4611686018427387904:Nat)),(lO .i64 Ea.2 (1:Int))),rfl,h⟩)));refine HT.aJ rfl R2 ?_;have Dt:=ae Dt;subst Dt;exact HT.cr (Le.re [] [] hX (by kernel_rfl)) (bF (bI (Yl (Ea.1,Ea.2) rfl)));refine HT.seq ?_;refine ay (aO 2) ⟨[(0,.one (.aq (.aX .f64) ix.1)),(3,iV ix.2),(26,bV (rT .f64 ix.1 (4609434218613702656:Nat)))],[],0⟩ hX aN ?_;rcases an Dr with ⟨R3,Dr⟩|⟨R3,Dr⟩
 refine HT.aK rfl R3 ?_;refine HT.skip (aj ?_);refine HT.block ?_;refine ay (aO 3) ⟨[(0,.one (.aq (.aX .f64) (av .quo .f64 ix.1 (4611686018427387904:Nat)))),(3,iV ix.2)],[],0⟩ hX aN ?_;have Dr:=ae Dr;subst Dr;exact HT.cR (aO 3) [] [] hX (by kernel_rfl) aN (fun _ h=>(bC (bJ ⟨((av .quo .f64 ix.1 (4611686018427387904:Nat)),(al .i64 ix.2 (1:Int))),rfl,h⟩)));refine HT.aJ rfl R3 ?_;have Dr:=ae Dr;subst Dr;exact HT.cr (Le.re [] [] hX (by kernel_rfl)) (bF (bI (Yj (ix.1,ix.2) rfl)));rcases an bz with ⟨Hg,bz⟩|⟨Hg,bz⟩
 exact HT.cR [oH,oH,oH,oH,oT,oT,vT,oH] [] [] hX (by kernel_rfl) (aC Hg (aC Hg (aC Hg aN))) (fun _ h=>(aj (h.ht (cont true (ae bz)))));exact HT.cR [oH,oH,oH,oH,oF,oF,vF,oH] [] [] hX (by kernel_rfl) (aC Hg (aC Hg (aC Hg aN))) (fun _ h=>(aj (h.ht (cont (aX .f64 a0 (0:Nat)) (ae bz)))))
noncomputable def lX (a0:Nat):Option (Nat):=
 az (dC .f64 .f32 a0=true) (
  some (bD .f64 .f32 a0))
theorem OK {a0:Nat}{r:Nat}(hr:lX a0=some r):CallOK Try.prog 110 [.au (.aX .f64) a0] [⟨false,tF,r⟩] []:=by
 unfold lX at hr;refine ij [(false,tF)] Try.func110 rfl [] fun cx hX hF=> ?_;show HT cx ⟨[(0,.one (.aq (.aX .f64) a0))],[],0⟩ _ _;refine ay [oH] ⟨[(0,.one (.aq (.aX .f64) a0))],[],0⟩ hX aN ?_;obtain ⟨uX,hr⟩:=ao hr;refine ay (aO 3) ⟨[(2,fV (bD .f64 .f32 a0))],[],0⟩ hX (aC uX aN) ?_;have hr:=ae hr;subst hr;exact HT.ret (rO [fV (bD .f64 .f32 a0)] [] [] trivial)
noncomputable def jG (a0:Nat):Option (Nat):=
 (iQ (bD .f32 .f64 a0)).bind fun y1=>
 (lX y1).bind fun y3=>
 some y3
theorem OL {a0:Nat}{r:Nat}(hr:jG a0=some r):CallOK Try.prog 135 [.au tF a0] [⟨false,tF,r⟩] []:=by
 unfold jG at hr;refine ij [(false,tF)] Try.func135 rfl [] fun cx hX hF=> ?_;show HT cx ⟨[(0,fV a0)],[],0⟩ _ _;refine ay [oH] ⟨[(0,fV a0)],[],0⟩ hX aN ?_;obtain ⟨y1,eV,hr⟩:=af hr;obtain ⟨y3,Og,hr⟩:=af hr;refine ay [oH,oH,⟨none,.call [.au (.aX .f64)] [⟨false,(.aX .f64),y1⟩] []⟩,⟨none,.call [.au (.aX .f64)] [⟨false,tF,y3⟩] []⟩,oH] ⟨[(2,fV y3)],[],0⟩ hX (aC (show dC .f32 .f64 a0=true from (oB _)) (aC (OJ eV) (aC (OK Og) aN))) ?_;have hr:=ae hr;subst hr;exact HT.ret (rO [fV y3] [] [] trivial)
noncomputable def gT (L5:Nat)(kB:List Nat)(nC:Int×List Nat):Option ((Int×List Nat)⊕(List Nat)):=
 bif (decide (nC.1<(ai kB))) then
  az ((0:Int)≤nC.1∧nC.1<ai nC.2) (
   some (.inl ((al .i64 nC.1 (1:Int)),(List.set nC.2 (Int.toNat nC.1) (av .quo .f32 (List.getD nC.2 (Int.toNat nC.1) (0:Nat)) L5)))))
 else
  some (.inr nC.2)
noncomputable def gU (a0:eC)(a1:List Int)(s4:List Nat×Nat×Int)(xT:Nat×Int):Option ((Nat×Int)⊕(Nat)):=
 bif (decide (xT.2<a0.1)) then
  az ((0:Int)≤xT.2∧xT.2<ai s4.1) (
   az ((0:Int)≤s4.2.2∧s4.2.2<ai a1) (
    az ((0:Int)≤(al .i64 (aU .i64 xT.2 a0.2.1) (List.getD a1 (Int.toNat s4.2.2) (0:Int)))∧(al .i64 (aU .i64 xT.2 a0.2.1) (List.getD a1 (Int.toNat s4.2.2) (0:Int)))<ai a0.2.2.2.2) (
     some (.inl ((av .add .f32 xT.1 (av .mul .f32 (List.getD s4.1 (Int.toNat xT.2) (0:Nat)) (List.getD a0.2.2.2.2 (Int.toNat (al .i64 (aU .i64 xT.2 a0.2.1) (List.getD a1 (Int.toNat s4.2.2) (0:Int)))) (0:Nat)))),(al .i64 xT.2 (1:Int)))))))
 else
  some (.inr xT.1)
noncomputable def gV (a0:eC)(a1:List Int)(s4:List Nat×Nat×Int):Option ((List Nat×Nat×Int)⊕(Nat⊕Unit)):=
 bif (decide (s4.2.2<(ai a1))) then
  (rounds (gU a0 a1 s4) ((0:Nat),(0:Int))).bind fun L5=>
  bif (!(qI .f32 L5 (0:Nat))) then
   some (.inr (.inr ()))
  else
   az ((0:Int)≤s4.2.2∧s4.2.2<ai a1) (
    (lW (a0.1,a0.2.1,a0.2.2.1,a0.2.2.2.1,a0.2.2.2.2) s4.1 (List.getD a1 (Int.toNat s4.2.2) (0:Int))).bind fun kB=>
    (rounds (gT L5 kB) ((0:Int),kB)).bind fun OI=>
    (jG L5).bind fun Tq=>
    some (.inl (OI,(av .add .f32 s4.2.1 Tq),(al .i64 s4.2.2 (1:Int)))))
 else
  some (.inr (.inl s4.2.1))
noncomputable def eo (a0:eC)(a1:List Int):Option (Nat×Bool):=
 (lT (a0.1,a0.2.1,a0.2.2.1,a0.2.2.2.1,a0.2.2.2.2) a1).bind fun y1=>
 bif (!y1) then
  some ((0:Nat),false)
 else
  (rounds (gV a0 a1) (a0.2.2.1,(0:Nat),(0:Int))).bind fun r5=>match r5 with
   | .inl r6=>
    (hZ r6).bind fun y7=>
    some (y7.1,y7.2)
   | .inr r9=>
    some ((0:Nat),false)
theorem OM {a0:eC}{a1:List Int}{r:Nat×Bool}(hr:eo a0 a1=some r):CallOK Try.prog 120 [.au tM a0,.au bM a1] [⟨false,tF,r.1⟩,⟨false,.bool,r.2⟩] []:=by
 unfold eo at hr;refine ij [(false,tF),(false,.bool)] Try.func120 rfl [] fun cx hX hF=> ?_;show HT cx ⟨[(0,.agg [iC a0.1,iC a0.2.1,lC a0.2.2.1,lC a0.2.2.2.1,lC a0.2.2.2.2]),(1,nV a1)],[],0⟩ _ _;refine ay (aO 3) ⟨[(1,nV a1),(2,pV 0 0)],[(0,cb a0)],1⟩ hX aN ?_;refine HT.seq ?_;obtain ⟨y1,eV,hr⟩:=af hr;refine ay [oH,⟨none,.call [.gO tM,.au bM] [⟨false,.bool,y1⟩] []⟩,oH] ⟨[(1,nV a1),(2,pV 0 0),(15,bV (!y1))],[(0,cb a0)],1⟩ hX (aC (OD eV) aN) ?_;rcases an hr with ⟨m6,hr⟩|⟨m6,hr⟩
 refine HT.aK rfl m6 ?_;refine ay (aO 2) ⟨[(4,fV (0:Nat)),(5,bV false)],[],1⟩ hX aN ?_;have hr:=ae hr;subst hr;exact HT.ret (aM (rO [fV (0:Nat),bV false] [] [] trivial));refine HT.aJ rfl m6 ?_;refine HT.skip (aj ?_);refine ay (aO 3) ⟨[(1,nV a1),(2,pV 0 0),(6,lV a0.2.2.1)],[(0,cb a0)],1⟩ hX aN ?_;refine ay [oH] ⟨[(1,nV a1),(2,pV 0 0),(6,lV a0.2.2.1),(7,fV (0:Nat))],[(0,cb a0)],1⟩ hX aN ?_;refine HT.seq ?_;refine ay (aO 3) ⟨[(1,nV a1),(2,pV 0 0),(6,lV a0.2.2.1),(7,fV (0:Nat)),(19,iV (ai a1)),(20,iV (0:Int))],[(0,cb a0)],1⟩ hX aN ?_;refine HT.block ?_;obtain ⟨r5,Hc,hr⟩:=af hr;refine HT.ct (fun (s4:List Nat×Nat×Int)=>⟨[(1,nV a1),(2,pV 0 0),(6,lV s4.1),(7,fV s4.2.1),(19,iV (ai a1)),(20,iV s4.2.2)],[(0,cb a0)],1⟩) (fun (r5:Nat⊕Unit)=>match r5 with| .inl r6=>(.exit 0,⟨[(7,fV r6)],[],0⟩)| .inr r9=>(.ret,⟨[(4,fV (0:Nat)),(5,bV false)],[],0⟩)) (Le.re [(0,0)] [] hX (by kernel_rfl)) Hc ?_ (fun s4 ZX dE JY=> ?_);rcases r5 with r6|r9
 refine (aZ (aj ?_));obtain ⟨y7,BY,hr⟩:=af hr;refine ay [oH,⟨none,.call [.au tF] [⟨false,tF,y7.1⟩,⟨false,.bool,y7.2⟩] []⟩,oH,oH,oH,oH] ⟨[(4,fV y7.1),(5,bV y7.2)],[],0⟩ hX (aC (Mb BY) aN) ?_;have hr:=ae hr;subst hr;exact HT.ret (rO [fV y7.1,bV y7.2] [] [] trivial);have hr:=ae hr;subst hr;exact (bE (aM (rO [fV (0:Nat),bV false] [] [] trivial)));refine ay [oH] ⟨[(1,nV a1),(2,pV 0 0),(6,lV s4.1),(7,fV s4.2.1),(19,iV (ai a1)),(20,iV s4.2.2),(21,bV (decide (s4.2.2<(ai a1))))],[(0,cb a0)],1⟩ hX aN ?_;refine HT.seq ?_;rcases an dE with ⟨zZ,dE⟩|⟨zZ,dE⟩
 refine HT.aK rfl zZ ?_;refine HT.skip (aj ?_);refine HT.seq ?_;refine HT.block ?_;refine ay (aO 2) ⟨[(1,nV a1),(2,pV 0 0),(6,lV s4.1),(7,fV s4.2.1),(8,iV s4.2.2),(19,iV (ai a1)),(20,iV s4.2.2)],[(0,cb a0)],1⟩ hX aN ?_;refine ay [oH] ⟨[(1,nV a1),(2,pV 0 0),(6,lV s4.1),(7,fV s4.2.1),(8,iV s4.2.2),(9,fV (0:Nat)),(19,iV (ai a1)),(20,iV s4.2.2)],[(0,cb a0)],1⟩ hX aN ?_;refine HT.seq ?_;refine ay [oH] ⟨[(1,nV a1),(2,pV 0 0),(6,lV s4.1),(7,fV s4.2.1),(8,iV s4.2.2),(9,fV (0:Nat)),(10,iV (0:Int)),(19,iV (ai a1)),(20,iV s4.2.2)],[(0,cb a0)],1⟩ hX aN ?_;refine HT.block ?_;obtain ⟨yE,RC,dE⟩:=af dE;refine HT.ct (fun (xT:Nat×Int)=>⟨[(1,nV a1),(2,pV 0 0),(6,lV s4.1),(7,fV s4.2.1),(8,iV s4.2.2),(9,fV xT.1),(10,iV xT.2),(19,iV (ai a1)),(20,iV s4.2.2)],[(0,cb a0)],1⟩) (fun (L5:Nat)=>(.exit 2,⟨[(1,nV a1),(2,pV 0 0),(6,lV s4.1),(7,fV s4.2.1),(8,iV s4.2.2),(9,fV L5),(19,iV (ai a1)),(20,iV s4.2.2)],[(0,cb a0)],1⟩)) (Le.re [(0,0)] [] hX (by kernel_rfl)) RC ?_ (fun xT x32 uP Yn=> ?_);refine (aZ (aj ?_));refine HT.seq ?_;refine ay (aO 3) ⟨[(1,nV a1),(2,pV 0 0),(6,lV s4.1),(7,fV s4.2.1),(8,iV s4.2.2),(9,fV yE),(19,iV (ai a1)),(20,iV s4.2.2),(51,bV (!(qI .f32 yE (0:Nat))))],[(0,cb a0)],1⟩ hX aN ?_;rcases an dE with ⟨pE,dE⟩|⟨pE,dE⟩
 refine HT.aK rfl pE ?_;refine ay (aO 2) ⟨[(4,fV (0:Nat)),(5,bV false)],[],1⟩ hX aN ?_;have dE:=ae dE;subst dE;exact HT.qV (Le.re [] [] hX (by kernel_rfl)) (aM (bE (aM (iz (JY (.inr ()) rfl)))));refine HT.aJ rfl pE ?_;refine HT.skip (aj ?_);obtain ⟨Dp,dE⟩:=ao dE;obtain ⟨kB,He,dE⟩:=af dE;refine ay [oH,oH,oH,oH,oH,⟨none,.call [.gO tM,.au aY,.au tI] [⟨true,aY,kB⟩] []⟩,oH] ⟨[(1,nV a1),(2,pV 0 0),(7,fV s4.2.1),(9,fV yE),(11,aV 1),(19,iV (ai a1)),(20,iV s4.2.2)],[(1,.seq tF kB),(0,cb a0)],2⟩ hX (aC Dp (aC (OE He) aN)) ?_;refine HT.seq ?_;refine ay (aO 3) ⟨[(1,nV a1),(2,pV 0 0),(7,fV s4.2.1),(9,fV yE),(11,aV 1),(19,iV (ai a1)),(20,iV s4.2.2),(59,iV (ai kB)),(60,iV (0:Int))],[(1,.seq tF kB),(0,cb a0)],2⟩ hX aN ?_;refine HT.block ?_;obtain ⟨R1,Yo,dE⟩:=af dE;refine HT.ct (fun (nC:Int×List Nat)=>⟨[(1,nV a1),(2,pV 0 0),(7,fV s4.2.1),(9,fV yE),(11,aV 1),(19,iV (ai a1)),(20,iV s4.2.2),(59,iV (ai kB)),(60,iV nC.1)],[(0,cb a0),(1,.seq tF nC.2)],2⟩) (fun (OI:List Nat)=>(.exit 4,⟨[(1,nV a1),(2,pV 0 0),(7,fV s4.2.1),(9,fV yE),(11,aV 1),(19,iV (ai a1)),(20,iV s4.2.2)],[(0,cb a0),(1,.seq tF OI)],2⟩)) (Le.re [(0,0),(1,1)] [] hX (by kernel_rfl)) Yo ?_ (fun nC ZY gK L6=> ?_);refine (aZ (aj ?_));refine ay (aO 2) ⟨[(1,nV a1),(2,pV 0 0),(6,aV 1),(7,fV s4.2.1),(9,fV yE),(19,iV (ai a1)),(20,iV s4.2.2)],[(0,cb a0),(1,.seq tF R1)],2⟩ hX aN ?_;obtain ⟨Tq,Yp,dE⟩:=af dE;refine HT.xM [oH,oH,⟨none,.call [.au tF] [⟨false,tF,Tq⟩] []⟩,oH,oH] ⟨[(1,nV a1),(2,pV 0 0),(6,aV 1),(7,fV (av .add .f32 s4.2.1 Tq)),(19,iV (ai a1)),(20,iV s4.2.2)],[(0,cb a0),(1,.seq tF R1)],2⟩ hX (by kernel_rfl) (aC (OL Yp) aN) (bC (aj ?_));have dE:=ae dE;subst dE;refine HT.xM (aO 2) ⟨[(1,nV a1),(2,pV 0 0),(6,aV 1),(7,fV (av .add .f32 s4.2.1 Tq)),(19,iV (ai a1)),(20,iV (al .i64 s4.2.2 (1:Int)))],[(0,cb a0),(1,.seq tF R1)],2⟩ hX (by kernel_rfl) aN (bJ ⟨(R1,(av .add .f32 s4.2.1 Tq),(al .i64 s4.2.2 (1:Int))),rfl,Le.rz [(0,0)] [] hX hF (by kernel_rfl)⟩);refine ay [oH] ⟨[(1,nV a1),(2,pV 0 0),(7,fV s4.2.1),(9,fV yE),(11,aV 1),(19,iV (ai a1)),(20,iV s4.2.2),(59,iV (ai kB)),(60,iV nC.1),(61,bV (decide (nC.1<(ai kB))))],[(0,cb a0),(1,.seq tF nC.2)],2⟩ hX aN ?_;refine HT.seq ?_;rcases an gK with ⟨Ag,gK⟩|⟨Ag,gK⟩
 refine HT.aK rfl Ag ?_;refine HT.skip (aj ?_);refine HT.seq ?_;refine HT.block ?_;refine ay (aO 2) ⟨[(1,nV a1),(2,pV 0 0),(7,fV s4.2.1),(9,fV yE),(11,aV 1),(12,iV nC.1),(19,iV (ai a1)),(20,iV s4.2.2),(59,iV (ai kB)),(60,iV nC.1)],[(0,cb a0),(1,.seq tF nC.2)],2⟩ hX aN ?_;obtain ⟨Dq,gK⟩:=ao gK;refine HT.xM (aO 10) ⟨[(1,nV a1),(2,pV 0 0),(7,fV s4.2.1),(9,fV yE),(11,aV 1),(19,iV (ai a1)),(20,iV s4.2.2),(59,iV (ai kB)),(60,iV nC.1)],[(1,.seq tF (List.set nC.2 (Int.toNat nC.1) (av .quo .f32 (List.getD nC.2 (Int.toNat nC.1) (0:Nat)) yE))),(0,cb a0)],2⟩ hX (by kernel_rfl) (aC Dq (aC (gy Dq) (aC Dq (aC (gy Dq) aN)))) (bC (aj ?_));have gK:=ae gK;subst gK;exact HT.cR (aO 2) [(0,0),(1,1)] [] hX (by kernel_rfl) aN (fun _ h=>(bJ ⟨((al .i64 nC.1 (1:Int)),(List.set nC.2 (Int.toNat nC.1) (av .quo .f32 (List.getD nC.2 (Int.toNat nC.1) (0:Nat)) yE))),rfl,h⟩));refine HT.aJ rfl Ag ?_;have gK:=ae gK;subst gK;exact HT.cr (Le.re [(0,0),(1,1)] [] hX (by kernel_rfl)) (bF (bI (L6 nC.2 rfl)));refine HT.seq ?_;refine ay (aO 4) ⟨[(1,nV a1),(2,pV 0 0),(6,lV s4.1),(7,fV s4.2.1),(8,iV s4.2.2),(9,fV xT.1),(10,iV xT.2),(19,iV (ai a1)),(20,iV s4.2.2),(26,bV (decide (xT.2<a0.1)))],[(0,cb a0)],1⟩ hX aN ?_;rcases an uP with ⟨R4,uP⟩|⟨R4,uP⟩
 refine HT.aK rfl R4 ?_;refine HT.skip (aj ?_);refine HT.seq ?_;refine HT.block ?_;obtain ⟨Ov,uP⟩:=ao uP;obtain ⟨RG,uP⟩:=ao uP;obtain ⟨J0,uP⟩:=ao uP;refine HT.PT 19 [o0,o0,o0,⟨oH,[1,2]⟩,⟨oH,[1,2,3]⟩,o0,⟨oH,[5]⟩,o0,o0,⟨oH,[8]⟩,⟨oH,[7,8,9]⟩,o0,o0,⟨oH,[11,12]⟩,⟨oH,[11,12,13]⟩,⟨oH,[7,8,9,10,11,12,13,14]⟩,⟨oH,[5,6,7,8,9,10,11,12,13,14,15]⟩,⟨oH,[5,6,7,8,9,10,11,12,13,14,15,16]⟩,⟨oH,[1,2,3,4,5,6,7,8,9,10,11,12,13,14,15,16,17]⟩] [(rL 19),(rL 20)] (aO 2) ⟨[(1,nV a1),(2,pV 0 0),(6,lV s4.1),(7,fV s4.2.1),(8,iV s4.2.2),(9,fV (av .add .f32 xT.1 (av .mul .f32 (List.getD s4.1 (Int.toNat xT.2) (0:Nat)) (List.getD a0.2.2.2.2 (Int.toNat (al .i64 (aU .i64 xT.2 a0.2.1) (List.getD a1 (Int.toNat s4.2.2) (0:Int)))) (0:Nat))))),(10,iV xT.2),(19,iV (ai a1)),(20,iV s4.2.2)],[(0,cb a0)],1⟩ hX (by kernel_rfl) (by kernel_rfl) (aC Ov (aC RG (aC J0 aN))) (bC (aj ?_));have uP:=ae uP;subst uP;exact HT.cR (aO 3) [(0,0)] [] hX (by kernel_rfl) aN (fun _ h=>(bJ ⟨((av .add .f32 xT.1 (av .mul .f32 (List.getD s4.1 (Int.toNat xT.2) (0:Nat)) (List.getD a0.2.2.2.2 (Int.toNat (al .i64 (aU .i64 xT.2 a0.2.1) (List.getD a1 (Int.toNat s4.2.2) (0:Int)))) (0:Nat)))),(al .i64 xT.2 (1:Int))),rfl,h⟩));refine HT.aJ rfl R4 ?_;have uP:=ae uP;subst uP;exact HT.cr (Le.re [(0,0)] [] hX (by kernel_rfl)) (bF (bI (Yn xT.1 rfl)));refine HT.aJ rfl zZ ?_;have dE:=ae dE;subst dE;exact HT.cr (Le.re [] [] hX (by kernel_rfl)) (bF (bI (JY (.inl s4.2.1) rfl)))
noncomputable def jU (a0:eC)(a1:List (List Int))(s1:Int×List Nat):Option ((Int×List Nat)⊕(List Nat⊕Unit)):=
 bif (decide (s1.1<(ai a1))) then
  az ((0:Int)≤s1.1∧s1.1<ai a1) (
   (eo (a0.1,a0.2.1,a0.2.2.1,a0.2.2.2.1,a0.2.2.2.2) (List.getD a1 (Int.toNat s1.1) ([]:List Int))).bind fun fP=>
   bif (!fP.2) then
    some (.inr (.inr ()))
   else
    az (List.length s1.2+List.length ([fP.1]:List Nat)≤bO) (
     some (.inl ((al .i64 s1.1 (1:Int)),(s1.2++([fP.1]:List Nat))))))
 else
  some (.inr (.inl s1.2))
noncomputable def kr (a0:eC)(a1:List (List Int)):Option (List Nat×Bool):=
 (rounds (jU a0 a1) ((0:Int),([]:List Nat))).bind fun r2=>match r2 with
  | .inl r3=>
   some (r3,true)
  | .inr r4=>
   some (([]:List Nat),false)
theorem R5 {a0:eC}{a1:List (List Int)}{r:List Nat×Bool}(hr:kr a0 a1=some r):CallOK Try.prog 77 [.gO tM a0,.au (.sl bM) a1] [⟨true,aY,r.1⟩,⟨false,.bool,r.2⟩] []:=by
 unfold kr at hr;refine ij [(true,aY),(false,.bool)] Try.func77 rfl [] fun cx hX hF=> ?_;show HT cx ⟨[(0,.one (.ip tM a0 0)),(1,.one (.aq (.sl bM) a1))],[],0⟩ _ _;refine ay (aO 2) ⟨[(0,.one (.ip tM a0 0)),(1,.one (.aq (.sl bM) a1))],[],0⟩ hX aN ?_;refine ay (aO 2) ⟨[(0,.one (.ip tM a0 0)),(1,.one (.aq (.sl bM) a1)),(6,.one (.ar))],[],0⟩ hX aN ?_;refine HT.seq ?_;refine ay (aO 3) ⟨[(0,.one (.ip tM a0 0)),(1,.one (.aq (.sl bM) a1)),(6,.one (.ar)),(12,iV (ai a1)),(13,iV (0:Int))],[],0⟩ hX aN ?_;refine HT.block ?_;obtain ⟨r2,RI,hr⟩:=af hr;refine HT.ct (fun (s1:Int×List Nat)=>⟨[(0,.one (.ip tM a0 0)),(1,.one (.aq (.sl bM) a1)),(6,aV 0),(12,iV (ai a1)),(13,iV s1.1)],[(0,.seq tF s1.2)],1⟩) (fun (r2:List Nat⊕Unit)=>match r2 with| .inl r3=>(.exit 0,⟨[(6,aV 0)],[(0,.seq tF r3)],1⟩)| .inr r4=>(.ret,⟨[(4,.one (.ar)),(5,bV false)],[],0⟩)) (Le.re [] [0] hX (by kernel_rfl)) RI ?_ (fun s1 x5 dm BZ=> ?_);rcases r2 with r3|r4
 refine (aZ (aj ?_));refine ay (aO 3) ⟨[(4,aV 0),(5,bV true)],[(0,.seq tF r3)],1⟩ hX aN ?_;have hr:=ae hr;subst hr;exact HT.ret (rO [aV 0,bV true] [0] [] trivial);have hr:=ae hr;subst hr;exact (bE (aM (rO [.one (.ar),bV false] [] [] trivial)));refine ay [oH] ⟨[(0,.one (.ip tM a0 0)),(1,.one (.aq (.sl bM) a1)),(6,aV 0),(12,iV (ai a1)),(13,iV s1.1),(14,bV (decide (s1.1<(ai a1))))],[(0,.seq tF s1.2)],1⟩ hX aN ?_;refine HT.seq ?_;rcases an dm with ⟨iN,dm⟩|⟨iN,dm⟩
 refine HT.aK rfl iN ?_;refine HT.skip (aj ?_);refine HT.seq ?_;refine HT.block ?_;refine ay (aO 2) ⟨[(0,.one (.ip tM a0 0)),(1,.one (.aq (.sl bM) a1)),(6,aV 0),(7,iV s1.1),(12,iV (ai a1)),(13,iV s1.1)],[(0,.seq tF s1.2)],1⟩ hX aN ?_;obtain ⟨LR,dm⟩:=ao dm;obtain ⟨fP,pF,dm⟩:=af dm;refine HT.D7 12 [o0,⟨oH,[0]⟩,⟨oH,[0,1]⟩,o0,o0,⟨oH,[3,4]⟩,⟨oH,[3,4,5]⟩,⟨⟨none,.call [.au tM,.au bM] [⟨false,tF,fP.1⟩,⟨false,.bool,fP.2⟩] []⟩,(rL 7)⟩,⟨oH,(rL 8)⟩,⟨oH,(rL 9)⟩,⟨oH,(rL 9)⟩,⟨oH,(rL 10)⟩] [(rL 12)] [oH] ⟨[(0,.one (.ip tM a0 0)),(1,.one (.aq (.sl bM) a1)),(6,aV 0),(8,fV fP.1),(9,bV fP.2),(12,iV (ai a1)),(13,iV s1.1)],[(0,.seq tF s1.2)],1⟩ hX (by kernel_rfl) (by kernel_rfl) (aC LR (aC (OM pF) aN)) ?_;refine HT.seq ?_;refine ay (aO 2) ⟨[(0,.one (.ip tM a0 0)),(1,.one (.aq (.sl bM) a1)),(6,aV 0),(8,fV fP.1),(12,iV (ai a1)),(13,iV s1.1),(28,bV (!fP.2))],[(0,.seq tF s1.2)],1⟩ hX aN ?_;rcases an dm with ⟨cg,dm⟩|⟨cg,dm⟩
 refine HT.aK rfl cg ?_;refine ay (aO 2) ⟨[(4,.one (.ar)),(5,bV false)],[],1⟩ hX aN ?_;have dm:=ae dm;subst dm;exact HT.qV (Le.re [] [] hX (by kernel_rfl)) (aM (bE (aM (iz (BZ (.inr ()) rfl)))));refine HT.aJ rfl cg ?_;refine HT.skip (aj ?_);obtain ⟨wU,dm⟩:=ao dm;refine HT.xM [oH,oH,⟨none,.ty tF⟩,⟨none,.ty tF⟩,oH] ⟨[(0,.one (.ip tM a0 0)),(1,.one (.aq (.sl bM) a1)),(6,aV 2),(12,iV (ai a1)),(13,iV s1.1)],[(2,.seq tF (s1.2++([fP.1]:List Nat)))],3⟩ hX (by kernel_rfl) (aC wU aN) (bC (aj ?_));have dm:=ae dm;subst dm;exact HT.cR (aO 2) [(2,0)] [] hX (by kernel_rfl) aN (fun _ h=>(bJ ⟨((al .i64 s1.1 (1:Int)),(s1.2++([fP.1]:List Nat))),rfl,h⟩));refine HT.aJ rfl iN ?_;have dm:=ae dm;subst dm;exact HT.cr (Le.re [(0,0)] [] hX (by kernel_rfl)) (bF (bI (BZ (.inl s1.2) rfl)))
noncomputable def lY (a0:List Nat)(s1:Nat×Int):Option ((Nat×Int)⊕(Nat)):=
 bif (decide (s1.2<(ai a0))) then
  az ((0:Int)≤s1.2∧s1.2<ai a0) (
   some (.inl ((av .add .f32 s1.1 (List.getD a0 (Int.toNat s1.2) (0:Nat))),(al .i64 s1.2 (1:Int)))))
 else
  some (.inr s1.1)
noncomputable def nd (a0:List Nat):Option (Nat):=
 (rounds (lY a0) ((0:Nat),(0:Int))).bind fun r3=>
 some r3
theorem R6 {a0:List Nat}{r:Nat}(hr:nd a0=some r):CallOK Try.prog 78 [.au aY a0] [⟨false,tF,r⟩] []:=by
 unfold nd at hr;refine ij [(false,tF)] Try.func78 rfl [] fun cx hX hF=> ?_;show HT cx ⟨[(0,lV a0)],[],0⟩ _ _;refine ay [oH] ⟨[(0,lV a0)],[],0⟩ hX aN ?_;refine ay [oH] ⟨[(0,lV a0),(3,fV (0:Nat))],[],0⟩ hX aN ?_;refine HT.seq ?_;refine ay (aO 3) ⟨[(0,lV a0),(3,fV (0:Nat)),(6,iV (ai a0)),(7,iV (0:Int))],[],0⟩ hX aN ?_;refine HT.block ?_;obtain ⟨r2,XH,hr⟩:=af hr;refine HT.ct (fun (s1:Nat×Int)=>⟨[(0,lV a0),(3,fV s1.1),(6,iV (ai a0)),(7,iV s1.2)],[],0⟩) (fun (r3:Nat)=>(.exit 0,⟨[(3,fV r3)],[],0⟩)) (Le.re [] [] hX (by kernel_rfl)) XH ?_ (fun s1 x4 rS UN=> ?_);refine (aZ (aj ?_));refine ay (aO 2) ⟨[(2,fV r2)],[],0⟩ hX aN ?_;have hr:=ae hr;subst hr;exact HT.ret (rO [fV r2] [] [] trivial);refine ay [oH] ⟨[(0,lV a0),(3,fV s1.1),(6,iV (ai a0)),(7,iV s1.2),(8,bV (decide (s1.2<(ai a0))))],[],0⟩ hX aN ?_;refine HT.seq ?_;rcases an rS with ⟨kQ,rS⟩|⟨kQ,rS⟩
 refine HT.aK rfl kQ ?_;refine HT.skip (aj ?_);refine HT.seq ?_;refine HT.block ?_;refine ay (aO 2) ⟨[(0,lV a0),(3,fV s1.1),(4,iV s1.2),(6,iV (ai a0)),(7,iV s1.2)],[],0⟩ hX aN ?_;obtain ⟨PX,rS⟩:=ao rS;refine HT.xM (aO 7) ⟨[(0,lV a0),(3,fV (av .add .f32 s1.1 (List.getD a0 (Int.toNat s1.2) (0:Nat)))),(6,iV (ai a0)),(7,iV s1.2)],[],0⟩ hX (by kernel_rfl) (aC PX aN) (bC (aj ?_));have rS:=ae rS;subst rS;exact HT.cR (aO 2) [] [] hX (by kernel_rfl) aN (fun _ h=>(bJ ⟨((av .add .f32 s1.1 (List.getD a0 (Int.toNat s1.2) (0:Nat))),(al .i64 s1.2 (1:Int))),rfl,h⟩));refine HT.aJ rfl kQ ?_;have rS:=ae rS;subst rS;exact HT.cr (Le.re [] [] hX (by kernel_rfl)) (bF (bI (UN s1.1 rfl)))
noncomputable def jH (a0:eC)(a1:List (List Int)):Option (Nat×Bool):=
 (kq (a0.1,a0.2.1,a0.2.2.1,a0.2.2.2.1,a0.2.2.2.2) a1).bind fun y1=>
 bif (!y1) then
  some ((0:Nat),false)
 else
  (kr (a0.1,a0.2.1,a0.2.2.1,a0.2.2.2.1,a0.2.2.2.2) a1).bind fun y4=>
  bif (!y4.2) then
   some ((0:Nat),false)
  else
   (nd y4.1).bind fun y7=>
   (hZ y7).bind fun y9=>
   some (y9.1,y9.2)
theorem R7 {a0:eC}{a1:List (List Int)}{r:Nat×Bool}(hr:jH a0 a1=some r):CallOK Try.prog 32 [.au tM a0,.au (.sl bM) a1] [⟨false,tF,r.1⟩,⟨false,.bool,r.2⟩] []:=by
 unfold jH at hr;refine ij [(false,tF),(false,.bool)] Try.func32 rfl [] fun cx hX hF=> ?_;show HT cx ⟨[(0,.agg [iC a0.1,iC a0.2.1,lC a0.2.2.1,lC a0.2.2.2.1,lC a0.2.2.2.2]),(1,.one (.aq (.sl bM) a1))],[],0⟩ _ _;refine ay (aO 3) ⟨[(1,.one (.aq (.sl bM) a1)),(2,pV 0 0)],[(0,cb a0)],1⟩ hX aN ?_;refine HT.seq ?_;obtain ⟨y1,eV,hr⟩:=af hr;refine ay [oH,⟨none,.call [.gO tM,.au (.sl bM)] [⟨false,.bool,y1⟩] []⟩,oH] ⟨[(1,.one (.aq (.sl bM) a1)),(2,pV 0 0),(10,bV (!y1))],[(0,cb a0)],1⟩ hX (aC (RW eV) aN) ?_;rcases an hr with ⟨m6,hr⟩|⟨m6,hr⟩
 refine HT.aK rfl m6 ?_;refine ay (aO 2) ⟨[(4,fV (0:Nat)),(5,bV false)],[],1⟩ hX aN ?_;have hr:=ae hr;subst hr;exact HT.ret (aM (rO [fV (0:Nat),bV false] [] [] trivial));refine HT.aJ rfl m6 ?_;refine HT.skip (aj ?_);obtain ⟨y4,rI,hr⟩:=af hr;refine ay [oH,⟨none,.call [.gO tM,.au (.sl bM)] [⟨true,aY,y4.1⟩,⟨false,.bool,y4.2⟩] []⟩,oH,oH,oH,oH,oH] ⟨[(6,aV 1),(7,bV y4.2)],[(1,.seq tF y4.1)],2⟩ hX (aC (R5 rI) aN) ?_;refine HT.seq ?_;refine ay (aO 2) ⟨[(6,aV 1),(17,bV (!y4.2))],[(1,.seq tF y4.1)],2⟩ hX aN ?_;rcases an hr with ⟨gQ,hr⟩|⟨gQ,hr⟩
 refine HT.aK rfl gQ ?_;refine ay (aO 2) ⟨[(4,fV (0:Nat)),(5,bV false)],[],2⟩ hX aN ?_;have hr:=ae hr;subst hr;exact HT.ret (aM (rO [fV (0:Nat),bV false] [] [] trivial));refine HT.aJ rfl gQ ?_;refine HT.skip (aj ?_);obtain ⟨y7,BY,hr⟩:=af hr;obtain ⟨y9,tW,hr⟩:=af hr;refine ay [oH,⟨none,.call [.au aY] [⟨false,tF,y7⟩] []⟩,⟨none,.call [.au tF] [⟨false,tF,y9.1⟩,⟨false,.bool,y9.2⟩] []⟩,oH,oH,oH,oH] ⟨[(4,fV y9.1),(5,bV y9.2)],[],2⟩ hX (aC (R6 BY) (aC (Mb tW) aN)) ?_;have hr:=ae hr;subst hr;exact HT.ret (rO [fV y9.1,bV y9.2] [] [] trivial)
theorem R8:tn Try.prog 136 .f32 .u32:=fun b w=>by
 rw [run_callFunc_extern (fn:=Try.f136) (e:=Extern.MathFloatBits.float32bits) Try.func136 (by kernel_rfl) (by kernel_rfl) (by rfl) (by rfl)];rfl
noncomputable def lZ (a0:Nat):Option (Int):=
 bif (!(pz .f32 a0 a0)) then
  some (2143289344:Int)
 else
  az (a0≠(2143289344:Nat)) (
   some (IntKind.wrap .i64 ((a0:Nat):Int)))
theorem IB {a0:Nat}{r:Int}(hr:lZ a0=some r):CallOK Try.prog 121 [.au tF a0] [⟨false,tI,r⟩] []:=by
 unfold lZ at hr;refine ij [(false,tI)] Try.func121 rfl [] fun cx hX hF=> ?_;show HT cx ⟨[(0,fV a0)],[],0⟩ _ _;refine ay [oH] ⟨[(0,fV a0)],[],0⟩ hX aN ?_;refine HT.seq ?_;refine ay (aO 3) ⟨[(0,fV a0),(5,bV (!(pz .f32 a0 a0)))],[],0⟩ hX aN ?_;rcases an hr with ⟨rQ,hr⟩|⟨rQ,hr⟩
 refine HT.aK rfl rQ ?_;refine ay [oH] ⟨[(2,iV (2143289344:Int))],[],0⟩ hX aN ?_;have hr:=ae hr;subst hr;exact HT.ret (aM (rO [iV (2143289344:Int)] [] [] trivial));refine HT.aJ rfl rQ ?_;refine HT.skip (aj ?_);obtain ⟨u9,hr⟩:=ao hr;refine ay (aO 4) ⟨[(2,iV (IntKind.wrap .i64 ((a0:Nat):Int)))],[],0⟩ hX (aC (show tn Try.prog 136 .f32 .u32 from R8) (aC u9 aN)) ?_;have hr:=ae hr;subst hr;exact HT.ret (rO [iV (IntKind.wrap .i64 ((a0:Nat):Int))] [] [] trivial)
noncomputable def n9 (a0:Nat)(a1:Nat):Option (Bool):=
 (lZ a0).bind fun y1=>
 (lZ a1).bind fun y3=>
 some (y1==y3)
theorem R9 {a0:Nat}{a1:Nat}{r:Bool}(hr:n9 a0 a1=some r):CallOK Try.prog 79 [.au tF a0,.au tF a1] [⟨false,.bool,r⟩] []:=by
 unfold n9 at hr;refine ij [(false,.bool)] Try.func79 rfl [] fun cx hX hF=> ?_;show HT cx ⟨[(0,fV a0),(1,fV a1)],[],0⟩ _ _;refine ay [oH] ⟨[(0,fV a0),(1,fV a1)],[],0⟩ hX aN ?_;obtain ⟨y1,eV,hr⟩:=af hr;obtain ⟨y3,Og,hr⟩:=af hr;refine ay [oH,⟨none,.call [.au tF] [⟨false,tI,y1⟩] []⟩,oH,⟨none,.call [.au tF] [⟨false,tI,y3⟩] []⟩,oH,oH] ⟨[(4,bV (y1==y3))],[],0⟩ hX (aC (IB eV) (aC (IB Og) aN)) ?_;have hr:=ae hr;subst hr;exact HT.ret (rO [bV (y1==y3)] [] [] trivial)
noncomputable def gu (a0:Nat)(a1:Nat):Option (Bool):=
 (n9 a0 a1).bind fun y1=>
 some y1
theorem Mc {a0:Nat}{a1:Nat}{r:Bool}(hr:gu a0 a1=some r):CallOK Try.prog 33 [.au tF a0,.au tF a1] [⟨false,.bool,r⟩] []:=by
 unfold gu at hr;refine ij [(false,.bool)] Try.func33 rfl [] fun cx hX hF=> ?_;show HT cx ⟨[(0,fV a0),(1,fV a1)],[],0⟩ _ _;refine ay [oH] ⟨[(0,fV a0),(1,fV a1)],[],0⟩ hX aN ?_;obtain ⟨y1,eV,hr⟩:=af hr;refine ay [oH,oH,⟨none,.call [.au tF,.au tF] [⟨false,.bool,y1⟩] []⟩,oH] ⟨[(4,bV y1)],[],0⟩ hX (aC (R9 eV) aN) ?_;have hr:=ae hr;subst hr;exact HT.ret (rO [bV y1] [] [] trivial)
noncomputable def dT (a0:eC):Option (Bool):=
 (kV (a0.1,a0.2.1,a0.2.2.1,a0.2.2.2.1,a0.2.2.2.2)).bind fun y1=>
 some y1
theorem oO {a0:eC}{r:Bool}(hr:dT a0=some r):CallOK Try.prog 30 [.au tM a0] [⟨false,.bool,r⟩] []:=by
 unfold dT at hr;refine ij [(false,.bool)] Try.func30 rfl [] fun cx hX hF=> ?_;show HT cx ⟨[(0,.agg [iC a0.1,iC a0.2.1,lC a0.2.2.1,lC a0.2.2.2.1,lC a0.2.2.2.2])],[],0⟩ _ _;refine ay (aO 2) ⟨[(1,pV 0 0)],[(0,cb a0)],1⟩ hX aN ?_;obtain ⟨y1,eV,hr⟩:=af hr;refine ay [⟨none,.call [.gO tM] [⟨false,.bool,y1⟩] []⟩,oH] ⟨[(2,bV y1)],[],1⟩ hX (aC (w7 eV) aN) ?_;have hr:=ae hr;subst hr;exact HT.ret (rO [bV y1] [] [] trivial)
noncomputable def l9 (a0:Nat):Option (Bool):=
 az (a0≠(9221120237041090560:Nat)) (
  some (decide ((IntKind.wrap .i64 ((a0:Nat):Int))<(0:Int))))
theorem IC {a0:Nat}{r:Bool}(hr:l9 a0=some r):CallOK Try.prog 130 [.au (.aX .f64) a0] [⟨false,.bool,r⟩] []:=by
 unfold l9 at hr;refine ij [(false,.bool)] Try.func130 rfl [] fun cx hX hF=> ?_;show HT cx ⟨[(0,.one (.aq (.aX .f64) a0))],[],0⟩ _ _;refine ay [oH] ⟨[(0,.one (.aq (.aX .f64) a0))],[],0⟩ hX aN ?_;obtain ⟨uX,hr⟩:=ao hr;refine ay (aO 5) ⟨[(2,bV (decide ((IntKind.wrap .i64 ((a0:Nat):Int))<(0:Int))))],[],0⟩ hX (aC (show tn Try.prog 139 .f64 .u64 from RY) (aC uX aN)) ?_;have hr:=ae hr;subst hr;exact HT.ret (rO [bV (decide ((IntKind.wrap .i64 ((a0:Nat):Int))<(0:Int)))] [] [] trivial)
noncomputable def fb (a0:Nat)(a1:Nat):Option (Bool):=
 (show Option (Bool) from
  bif (!(pz .f32 a0 a0)) then
   some true
  else
   some (!(pz .f32 a1 a1))).bind fun v1=>
 bif v1 then
  (show Option (Bool) from
   bif (!(pz .f32 a0 a0)) then
    some (!(pz .f32 a1 a1))
   else
    some false).bind fun v5=>
  some v5
 else
  (show Option (Bool) from
   bif (pz .f32 a0 a1) then
    (l9 (bD .f32 .f64 a0)).bind fun gp=>
    (l9 (bD .f32 .f64 a1)).bind fun o9=>
    some (gp==o9)
   else
    some false).bind fun v9=>
  some v9
theorem ON {a0:Nat}{a1:Nat}{r:Bool}(hr:fb a0 a1=some r):CallOK Try.prog 109 [.au tF a0,.au tF a1] [⟨false,.bool,r⟩] []:=by
 unfold fb at hr;refine ij [(false,.bool)] Try.func109 rfl [] fun cx hX hF=> ?_;show HT cx ⟨[(0,fV a0),(1,fV a1)],[],0⟩ _ _;refine ay [oH] ⟨[(0,fV a0),(1,fV a1)],[],0⟩ hX aN ?_;refine HT.seq ?_;obtain ⟨qW,bz,hr⟩:=af hr;refine HT.join (fun (v1:Bool)=>⟨[(0,fV a0),(1,fV a1),(12,bV v1)],[],0⟩) (fun v=>v=qW) (fun v1 ov=> ?_) (fun cont=> ?_);subst ov;rcases an hr with ⟨dD,hr⟩|⟨dD,hr⟩
 refine HT.aK rfl dD ?_;obtain ⟨XP,LV,hr⟩:=af hr;refine HT.join (fun (v5:Bool)=>⟨[(4,bV v5)],[],0⟩) (fun v=>v=XP) (fun v5 XQ=> ?_) (fun cont=> ?_);subst XQ;have hr:=ae hr;subst hr;exact HT.ret (aM (rO [bV v5] [] [] trivial));rcases an LV with ⟨iN,LV⟩|⟨iN,LV⟩
 exact HT.cR [oH,oH,oH,oH,oT,oT,oT,vT,oH] [] [] hX (by kernel_rfl) (aC iN (aC iN (aC iN (aC iN aN)))) (fun _ h=>(aj (h.ht (cont (!(pz .f32 a1 a1)) (ae LV)))));exact HT.cR [oH,oH,oH,oH,oF,oF,oF,vF,oH] [] [] hX (by kernel_rfl) (aC iN (aC iN (aC iN (aC iN aN)))) (fun _ h=>(aj (h.ht (cont false (ae LV)))));refine HT.aJ rfl dD ?_;refine HT.skip (aj ?_);obtain ⟨v9',Du,hr⟩:=af hr;refine HT.join (fun (v9:Bool)=>⟨[(4,bV v9)],[],0⟩) (fun v=>v=v9') (fun v9 Yq=> ?_) (fun cont=> ?_);subst Yq;have hr:=ae hr;subst hr;exact HT.ret (rO [bV v9] [] [] trivial);rcases an Du with ⟨cg,Du⟩|⟨cg,Du⟩
 obtain ⟨gp,Fa,Du⟩:=af Du;obtain ⟨o9,LW,Du⟩:=af Du;exact HT.cR [oH,oH,oH,oH,oT,oT,⟨some true,.call [.au (.aX .f64)] [⟨false,.bool,gp⟩] []⟩,oT,oT,⟨some true,.call [.au (.aX .f64)] [⟨false,.bool,o9⟩] []⟩,oT,vT,oH] [] [] hX (by kernel_rfl) (aC cg (aC cg (aC (show dC .f32 .f64 a0=true from (oB _)) (aC cg (aC (IC Fa) (aC cg (aC cg (aC (show dC .f32 .f64 a1=true from (oB _)) (aC cg (aC (IC LW) (aC cg (aC cg aN)))))))))))) (fun _ h=>(aj (h.ht (cont (gp==o9) (ae Du)))));exact HT.cR [oH,oH,oH,oH,oF,oF,oF,oF,oF,oF,oF,vF,oH] [] [] hX (by kernel_rfl) (aC cg (aC cg (aC cg (aC cg (aC cg (aC cg (aC cg (aC cg aN)))))))) (fun _ h=>(aj (h.ht (cont false (ae Du)))));rcases an bz with ⟨pE,bz⟩|⟨pE,bz⟩
 exact HT.cR [oH,oH,oH,oH,oT,oT,oT,vT] [] [] hX (by kernel_rfl) (aC pE (aC pE (aC pE (aC pE aN)))) (fun _ h=>(aj (h.ht (cont true (ae bz)))));exact HT.cR [oH,oH,oH,oH,oF,oF,oF,vF] [] [] hX (by kernel_rfl) (aC pE (aC pE (aC pE (aC pE aN)))) (fun _ h=>(aj (h.ht (cont (!(pz .f32 a1 a1)) (ae bz)))))
noncomputable def aI (a0:List Nat)(a1:List Nat)(s2:Int):Option ((Int)⊕(Unit⊕Unit)):=
 bif (decide (s2<(ai a0))) then
  az ((0:Int)≤s2∧s2<ai a0) (
   az ((0:Int)≤s2∧s2<ai a1) (
    (fb (List.getD a0 (Int.toNat s2) (0:Nat)) (List.getD a1 (Int.toNat s2) (0:Nat))).bind fun uJ=>
    bif (!uJ) then
     some (.inr (.inr ()))
    else
     some (.inl (al .i64 s2 (1:Int)))))
 else
  some (.inr (.inl ()))
noncomputable def aL (a0:List Nat)(a1:List Nat):Option (Bool):=
 bif ((ai a0) != (ai a1)) then
  some false
 else
  (rounds (aI a0 a1) (0:Int)).bind fun r3=>match r3 with
   | .inl r4=>
    some true
   | .inr r5=>
    some false
theorem oa {a0:List Nat}{a1:List Nat}{r:Bool}(hr:aL a0 a1=some r):CallOK Try.prog 108 [.au aY a0,.au aY a1,.fn 109] [⟨false,.bool,r⟩] []:=by
 unfold aL at hr;refine ij [(false,.bool)] Try.func108 rfl [] fun cx hX hF=> ?_;show HT cx ⟨[(0,lV a0),(1,lV a1),(2,.one (.fn 109))],[],0⟩ _ _;refine ay [oH] ⟨[(0,lV a0),(1,lV a1),(2,.one (.fn 109))],[],0⟩ hX aN ?_;refine HT.seq ?_;refine ay (aO 5) ⟨[(0,lV a0),(1,lV a1),(2,.one (.fn 109)),(14,bV ((ai a0) != (ai a1)))],[],0⟩ hX aN ?_;rcases an hr with ⟨rQ,hr⟩|⟨rQ,hr⟩
 refine HT.aK rfl rQ ?_;refine ay [oH] ⟨[(6,bV false)],[],0⟩ hX aN ?_;have hr:=ae hr;subst hr;exact HT.ret (aM (rO [bV false] [] [] trivial));refine HT.aJ rfl rQ ?_;refine HT.skip (aj ?_);refine HT.seq ?_;refine ay (aO 3) ⟨[(1,lV a1),(2,.one (.fn 109)),(15,lV a0),(16,iV (ai a0)),(17,iV (0:Int))],[],0⟩ hX aN ?_;refine HT.block ?_;obtain ⟨r3,G4,hr⟩:=af hr;refine HT.ct (fun (s2:Int)=>⟨[(1,lV a1),(2,.one (.fn 109)),(15,lV a0),(16,iV (ai a0)),(17,iV s2)],[],0⟩) (fun (r3:Unit⊕Unit)=>match r3 with| .inl r4=>(.exit 0,⟨[],[],0⟩)| .inr r5=>(.ret,⟨[(6,bV false)],[],0⟩)) (Le.re [] [] hX (by kernel_rfl)) G4 ?_ (fun s2 x6 et Is=> ?_);rcases r3 with r4|r5
 refine (aZ (aj ?_));refine ay [oH] ⟨[(6,bV true)],[],0⟩ hX aN ?_;have hr:=ae hr;subst hr;exact HT.ret (rO [bV true] [] [] trivial);have hr:=ae hr;subst hr;exact (bE (aM (rO [bV false] [] [] trivial)));refine ay [oH] ⟨[(1,lV a1),(2,.one (.fn 109)),(15,lV a0),(16,iV (ai a0)),(17,iV s2),(18,bV (decide (s2<(ai a0))))],[],0⟩ hX aN ?_;refine HT.seq ?_;rcases an et with ⟨na,et⟩|⟨na,et⟩
 refine HT.aK rfl na ?_;refine HT.skip (aj ?_);refine HT.seq ?_;refine HT.block ?_;obtain ⟨yk,et⟩:=ao et;refine ay (aO 5) ⟨[(1,lV a1),(2,.one (.fn 109)),(7,iV s2),(8,fV (List.getD a0 (Int.toNat s2) (0:Nat))),(15,lV a0),(16,iV (ai a0)),(17,iV s2)],[],0⟩ hX (aC yk aN) ?_;obtain ⟨sC,et⟩:=ao et;refine ay (aO 5) ⟨[(1,lV a1),(2,.one (.fn 109)),(8,fV (List.getD a0 (Int.toNat s2) (0:Nat))),(9,fV (List.getD a1 (Int.toNat s2) (0:Nat))),(15,lV a0),(16,iV (ai a0)),(17,iV s2)],[],0⟩ hX (aC sC aN) ?_;obtain ⟨uJ,Aa,et⟩:=af et;refine ay [oH,oH,oH,⟨none,.call [.au tF,.au tF] [⟨false,.bool,uJ⟩] []⟩,oH] ⟨[(1,lV a1),(2,.one (.fn 109)),(15,lV a0),(16,iV (ai a0)),(17,iV s2),(30,bV (!uJ))],[],0⟩ hX (aC (ON Aa) aN) ?_;rcases an et with ⟨uK,et⟩|⟨uK,et⟩
 refine HT.aK rfl uK ?_;refine ay [oH] ⟨[(6,bV false)],[],0⟩ hX aN ?_;have et:=ae et;subst et;exact HT.qV (Le.re [] [] hX (by kernel_rfl)) (bE (aM (iz (Is (.inr ()) rfl))));refine HT.aJ rfl uK ?_;refine HT.skip (bC (aj ?_));have et:=ae et;subst et;exact HT.cR (aO 2) [] [] hX (by kernel_rfl) aN (fun _ h=>(bJ ⟨(al .i64 s2 (1:Int)),rfl,h⟩));refine HT.aJ rfl na ?_;have et:=ae et;subst et;exact HT.cr (Le.re [] [] hX (by kernel_rfl)) (bF (bI (Is (.inl ()) rfl)))
noncomputable def iI (a0:List Nat)(a1:List Nat):Option (Bool):=
 (aL a0 a1).bind fun y1=>
 some y1
theorem w9 {a0:List Nat}{a1:List Nat}{r:Bool}(hr:iI a0 a1=some r):CallOK Try.prog 66 [.au aY a0,.au aY a1] [⟨false,.bool,r⟩] []:=by
 unfold iI at hr;refine ij [(false,.bool)] Try.func66 rfl [] fun cx hX hF=> ?_;show HT cx ⟨[(0,lV a0),(1,lV a1)],[],0⟩ _ _;refine ay [oH] ⟨[(0,lV a0),(1,lV a1)],[],0⟩ hX aN ?_;obtain ⟨y1,eV,hr⟩:=af hr;refine ay [oH,oH,⟨none,.call [.au aY,.au aY,.fn] [⟨false,.bool,y1⟩] []⟩,oH] ⟨[(4,bV y1)],[],0⟩ hX (aC (oa eV) aN) ?_;have hr:=ae hr;subst hr;exact HT.ret (rO [bV y1] [] [] trivial)
noncomputable def jI (a0:eC)(a1:eC):Option (Bool):=
 (show Option (Bool) from
  bif (a0.1==a1.1) then
   bif (a0.2.1==a1.2.1) then
    (iI a0.2.2.1 a1.2.2.1).bind fun y6=>
    bif y6 then
     (iI a0.2.2.2.1 a1.2.2.2.1).bind fun y9=>
     bif y9 then
      (iI a0.2.2.2.2 a1.2.2.2.2).bind fun uJ=>
      some uJ
     else
      some false
    else
     some false
   else
    some false
  else
   some false).bind fun v1=>
 some v1
theorem Ai {a0:eC}{a1:eC}{r:Bool}(hr:jI a0 a1=some r):CallOK Try.prog 21 [.au tM a0,.au tM a1] [⟨false,.bool,r⟩] []:=by
 unfold jI at hr;refine ij [(false,.bool)] Try.func21 rfl [] fun cx hX hF=> ?_;show HT cx ⟨[(0,.agg [iC a0.1,iC a0.2.1,lC a0.2.2.1,lC a0.2.2.2.1,lC a0.2.2.2.2]),(1,.agg [iC a1.1,iC a1.2.1,lC a1.2.2.1,lC a1.2.2.2.1,lC a1.2.2.2.2])],[],0⟩ _ _;refine ay (aO 3) ⟨[(2,pV 0 0),(3,pV 1 0)],[(1,cb a1),(0,cb a0)],2⟩ hX aN ?_;obtain ⟨qW,bz,hr⟩:=af hr;refine HT.join (fun (v1:Bool)=>⟨[(4,bV v1)],[],0⟩) (fun v=>v=qW) (fun v1 ov=> ?_) (fun cont=> ?_);subst ov;have hr:=ae hr;subst hr;exact HT.ret (rO [bV v1] [] [] trivial);rcases an bz with ⟨dD,bz⟩|⟨dD,bz⟩
 rcases an bz with ⟨ym,bz⟩|⟨ym,bz⟩
 obtain ⟨y6,Oi,bz⟩:=af bz;rcases an bz with ⟨iN,bz⟩|⟨iN,bz⟩
 obtain ⟨y9,tW,bz⟩:=af bz;rcases an bz with ⟨sD,bz⟩|⟨sD,bz⟩
 obtain ⟨uJ,Aa,bz⟩:=af bz;exact HT.cR [oH,oH,oH,oH,oH,oH,oT,oT,oT,oT,oT,vT,oH,oT,oT,oT,oT,⟨some true,.call [.au aY,.au aY] [⟨false,.bool,y6⟩] []⟩,vT,oH,oT,oT,oT,oT,⟨some true,.call [.au aY,.au aY] [⟨false,.bool,y9⟩] []⟩,vT,oH,oT,oT,oT,oT,⟨some true,.call [.au aY,.au aY] [⟨false,.bool,uJ⟩] []⟩,vT,oH] [] [] hX (by kernel_rfl) (aC dD (aC dD (aC dD (aC dD (aC dD (aC dD (aC ym (aC ym (aC ym (aC ym (aC ym (aC (w9 Oi) (aC ym (aC iN (aC iN (aC iN (aC iN (aC iN (aC (w9 tW) (aC iN (aC sD (aC sD (aC sD (aC sD (aC sD (aC (w9 Aa) (aC sD aN))))))))))))))))))))))))))) (fun _ h=>(aj (h.ht (cont uJ (ae bz)))));exact HT.cR [oH,oH,oH,oH,oH,oH,oT,oT,oT,oT,oT,vT,oH,oT,oT,oT,oT,⟨some true,.call [.au aY,.au aY] [⟨false,.bool,y6⟩] []⟩,vT,oH,oT,oT,oT,oT,⟨some true,.call [.au aY,.au aY] [⟨false,.bool,y9⟩] []⟩,vT,oH,oF,oF,oF,oF,oF,vF,oH] [] [] hX (by kernel_rfl) (aC dD (aC dD (aC dD (aC dD (aC dD (aC dD (aC ym (aC ym (aC ym (aC ym (aC ym (aC (w9 Oi) (aC ym (aC iN (aC iN (aC iN (aC iN (aC iN (aC (w9 tW) (aC iN (aC sD (aC sD (aC sD (aC sD (aC sD (aC sD aN)))))))))))))))))))))))))) (fun _ h=>(aj (h.ht (cont false (ae bz)))));exact HT.cR [oH,oH,oH,oH,oH,oH,oT,oT,oT,oT,oT,vT,oH,oT,oT,oT,oT,⟨some true,.call [.au aY,.au aY] [⟨false,.bool,y6⟩] []⟩,vT,oH,oF,oF,oF,oF,oF,vF,oH,oF,oF,oF,oF,oF,vF,oH] [] [] hX (by kernel_rfl) (aC dD (aC dD (aC dD (aC dD (aC dD (aC dD (aC ym (aC ym (aC ym (aC ym (aC ym (aC (w9 Oi) (aC ym (aC iN (aC iN (aC iN (aC iN (aC iN (aC iN (aF (aF (aF (aF (aF (aF aN))))))))))))))))))))))))) (fun _ h=>(aj (h.ht (cont false (ae bz)))));exact HT.cR [oH,oH,oH,oH,oH,oH,oT,oT,oT,oT,oT,vT,oH,oF,oF,oF,oF,oF,vF,oH,oF,oF,oF,oF,oF,vF,oH,oF,oF,oF,oF,oF,vF,oH] [] [] hX (by kernel_rfl) (aC dD (aC dD (aC dD (aC dD (aC dD (aC dD (aC ym (aC ym (aC ym (aC ym (aC ym (aC ym (aF (aF (aF (aF (aF (aF (aF (aF (aF (aF (aF (aF aN)))))))))))))))))))))))) (fun _ h=>(aj (h.ht (cont false (ae bz)))));exact HT.cR [oH,oH,oH,oH,oH,oH,oF,oF,oF,oF,oF,vF,oH,oF,oF,oF,oF,oF,vF,oH,oF,oF,oF,oF,oF,vF,oH,oF,oF,oF,oF,oF,vF,oH] [] [] hX (by kernel_rfl) (aC dD (aC dD (aC dD (aC dD (aC dD (aC dD (aF (aF (aF (aF (aF (aF (aF (aF (aF (aF (aF (aF (aF (aF (aF (aF (aF (aF aN)))))))))))))))))))))))) (fun _ h=>(aj (h.ht (cont false (ae bz)))))
noncomputable def kG (a0:List Nat)(a1:List Nat)(s2:Int):Option ((Int)⊕(Unit⊕Unit)):=
 bif (decide (s2<(ai a0))) then
  az ((0:Int)≤s2∧s2<ai a0) (
   az ((0:Int)≤s2∧s2<ai a1) (
    (gu (List.getD a0 (Int.toNat s2) (0:Nat)) (List.getD a1 (Int.toNat s2) (0:Nat))).bind fun uJ=>
    bif (!uJ) then
     some (.inr (.inr ()))
    else
     some (.inl (al .i64 s2 (1:Int)))))
 else
  some (.inr (.inl ()))
noncomputable def jV (a0:List Nat)(a1:List Nat):Option (Bool):=
 bif ((ai a0) != (ai a1)) then
  some false
 else
  (rounds (kG a0 a1) (0:Int)).bind fun r3=>match r3 with
   | .inl r4=>
    some true
   | .inr r5=>
    some false
theorem Aj {a0:List Nat}{a1:List Nat}{r:Bool}(hr:jV a0 a1=some r):CallOK Try.prog 31 [.au aY a0,.au aY a1] [⟨false,.bool,r⟩] []:=by
 unfold jV at hr;refine ij [(false,.bool)] Try.func31 rfl [] fun cx hX hF=> ?_;show HT cx ⟨[(0,lV a0),(1,lV a1)],[],0⟩ _ _;refine ay [oH] ⟨[(0,lV a0),(1,lV a1)],[],0⟩ hX aN ?_;refine HT.seq ?_;refine ay (aO 5) ⟨[(0,lV a0),(1,lV a1),(10,bV ((ai a0) != (ai a1)))],[],0⟩ hX aN ?_;rcases an hr with ⟨rQ,hr⟩|⟨rQ,hr⟩
 refine HT.aK rfl rQ ?_;refine ay [oH] ⟨[(4,bV false)],[],0⟩ hX aN ?_;have hr:=ae hr;subst hr;exact HT.ret (aM (rO [bV false] [] [] trivial));refine HT.aJ rfl rQ ?_;refine HT.skip (aj ?_);refine HT.seq ?_;refine ay (aO 3) ⟨[(0,lV a0),(1,lV a1),(12,iV (ai a0)),(13,iV (0:Int))],[],0⟩ hX aN ?_;refine HT.block ?_;obtain ⟨r3,G4,hr⟩:=af hr;refine HT.ct (fun (s2:Int)=>⟨[(0,lV a0),(1,lV a1),(12,iV (ai a0)),(13,iV s2)],[],0⟩) (fun (r3:Unit⊕Unit)=>match r3 with| .inl r4=>(.exit 0,⟨[],[],0⟩)| .inr r5=>(.ret,⟨[(4,bV false)],[],0⟩)) (Le.re [] [] hX (by kernel_rfl)) G4 ?_ (fun s2 x6 et Is=> ?_);rcases r3 with r4|r5
 refine (aZ (aj ?_));refine ay [oH] ⟨[(4,bV true)],[],0⟩ hX aN ?_;have hr:=ae hr;subst hr;exact HT.ret (rO [bV true] [] [] trivial);have hr:=ae hr;subst hr;exact (bE (aM (rO [bV false] [] [] trivial)));refine ay [oH] ⟨[(0,lV a0),(1,lV a1),(12,iV (ai a0)),(13,iV s2),(14,bV (decide (s2<(ai a0))))],[],0⟩ hX aN ?_;refine HT.seq ?_;rcases an et with ⟨na,et⟩|⟨na,et⟩
 refine HT.aK rfl na ?_;refine HT.skip (aj ?_);refine HT.seq ?_;refine HT.block ?_;refine ay (aO 2) ⟨[(0,lV a0),(1,lV a1),(5,iV s2),(12,iV (ai a0)),(13,iV s2)],[],0⟩ hX aN ?_;obtain ⟨yk,et⟩:=ao et;obtain ⟨sC,et⟩:=ao et;obtain ⟨uJ,Aa,et⟩:=af et;refine HT.D7 8 [o0,o0,⟨oH,[0,1]⟩,⟨oH,[0,1,2]⟩,o0,o0,⟨oH,[4,5]⟩,⟨oH,[4,5,6]⟩] [(rL 8),(rL 9)] [⟨none,.call [.au tF,.au tF] [⟨false,.bool,uJ⟩] []⟩,oH] ⟨[(0,lV a0),(1,lV a1),(12,iV (ai a0)),(13,iV s2),(25,bV (!uJ))],[],0⟩ hX (by kernel_rfl) (by kernel_rfl) (aC yk (aC sC (aC (Mc Aa) aN))) ?_;rcases an et with ⟨uK,et⟩|⟨uK,et⟩
 refine HT.aK rfl uK ?_;refine ay [oH] ⟨[(4,bV false)],[],0⟩ hX aN ?_;have et:=ae et;subst et;exact HT.qV (Le.re [] [] hX (by kernel_rfl)) (bE (aM (iz (Is (.inr ()) rfl))));refine HT.aJ rfl uK ?_;refine HT.skip (bC (aj ?_));have et:=ae et;subst et;exact HT.cR (aO 2) [] [] hX (by kernel_rfl) aN (fun _ h=>(bJ ⟨(al .i64 s2 (1:Int)),rfl,h⟩));refine HT.aJ rfl na ?_;have et:=ae et;subst et;exact HT.cr (Le.re [] [] hX (by kernel_rfl)) (bF (bI (Is (.inl ()) rfl)))
noncomputable def jh (a0:List Int)(a1:List Int)(y4:Int)(y6:(eC))(s8:Int×List (List Int)×List (List Int))(u0:Int×List Int×List Int):Option ((Int×List Int×List Int)⊕((List Int×List Int))):=
 (fO a1 (al .i64 (2:Int) s8.1) (5:Int)).bind fun V8=>
 bif (decide (u0.1<(al .i64 (1:Int) V8))) then
  (fO a0 (al .i64 (aU .i64 (5:Int) s8.1) u0.1) (al .i64 (2:Int) y4)).bind fun Sa=>
  az (List.length u0.2.1+List.length ([Sa]:List Int)≤bO) (
   (fO a1 (al .i64 (aU .i64 (5:Int) s8.1) u0.1) y6.1).bind fun Tr=>
   az (List.length u0.2.2+List.length ([Tr]:List Int)≤bO) (
    some (.inl ((al .i64 u0.1 (1:Int)),(u0.2.1++([Sa]:List Int)),(u0.2.2++([Tr]:List Int))))))
 else
  some (.inr (u0.2.1,u0.2.2))
noncomputable def ji (a0:List Int)(a1:List Int)(y4:Int)(y6:(eC))(s8:Int×List (List Int)×List (List Int)):Option ((Int×List (List Int)×List (List Int))⊕((List (List Int)×List (List Int)))):=
 (fO a1 (1:Int) (4:Int)).bind fun V9=>
 bif (decide (s8.1<(al .i64 (1:Int) V9))) then
  (fO a1 (al .i64 (20:Int) s8.1) y6.1).bind fun UY=>
  (rounds (jh a0 a1 y4 y6 s8) ((0:Int),([]:List Int),([UY]:List Int))).bind fun Sb=>
  az (List.length s8.2.1+List.length ([Sb.1]:List (List Int))≤bO) (
   az (List.length s8.2.2+List.length ([Sb.2]:List (List Int))≤bO) (
    some (.inl ((al .i64 s8.1 (1:Int)),(s8.2.1++([Sb.1]:List (List Int))),(s8.2.2++([Sb.2]:List (List Int)))))))
 else
  some (.inr (s8.2.1,s8.2.2))
noncomputable def ma (a0:List Int)(a1:List Int):Option (Bool):=
 (nZ a0 a1).bind fun y1=>
 bif y1 then
  some true
 else
  (fO a1 (0:Int) (2:Int)).bind fun y4=>
  (kj a0 (al .i64 (2:Int) y4)).bind fun y6=>
  (rounds (ji a0 a1 y4 y6) ((0:Int),([]:List (List Int)),([]:List (List Int)))).bind fun Ab=>
  (eE (y6.1,y6.2.1,y6.2.2.1,y6.2.2.2.1,y6.2.2.2.2) Ab.1).bind fun yn=>
  (fW (y6.1,y6.2.1,y6.2.2.1,y6.2.2.2.1,y6.2.2.2.2) Ab.1).bind fun gp=>
  (g9 (y6.1,y6.2.1,y6.2.2.1,y6.2.2.2.1,y6.2.2.2.2) Ab.1 (1:Int)).bind fun o9=>
  (fO a1 (9:Int) (8:Int)).bind fun m9=>
  (fF (y6.1,y6.2.1,y6.2.2.1,y6.2.2.2.1,y6.2.2.2.2) Ab.1 (al .i64 (1:Int) m9)).bind fun kB=>
  (fF (y6.1,y6.2.1,y6.2.2.1,y6.2.2.2.1,y6.2.2.2.2) Ab.1 (1:Int)).bind fun yD=>
  (iP (y6.1,y6.2.1,y6.2.2.1,y6.2.2.2.1,y6.2.2.2.2) Ab.1 Ab.2).bind fun B0=>
  (show Option (Bool) from
   bif (!yn.2) then
    some true
   else
    bif (!gp.2) then
     some true
    else
     bif (!o9.2) then
      some true
     else
      bif (!kB.2) then
       some true
      else
       bif (!yD.2) then
        some true
       else
        bif (!B0.2) then
         some true
        else
         (dT (gp.1.1,gp.1.2.1,gp.1.2.2.1,gp.1.2.2.2.1,gp.1.2.2.2.2)).bind fun Nz=>
         bif (!Nz) then
          some true
         else
          bif (gp.1.1 != y6.1) then
           some true
          else
           bif (gp.1.2.1 != (al .i64 (2:Int) y4)) then
            some true
           else
            (jI (gp.1.1,gp.1.2.1,gp.1.2.2.1,gp.1.2.2.2.1,gp.1.2.2.2.2) (o9.1.1,o9.1.2.1,o9.1.2.2.1,o9.1.2.2.2.1,o9.1.2.2.2.2)).bind fun Sc=>
            bif (!Sc) then
             some true
            else
             (jV gp.1.2.2.2.1 o9.1.2.2.2.1).bind fun Tt=>
             bif (!Tt) then
              some true
             else
              (dT (B0.1.1,B0.1.2.1,B0.1.2.2.1,B0.1.2.2.2.1,B0.1.2.2.2.2)).bind fun UZ=>
              bif (!UZ) then
               some true
              else
               bif ((ai kB.1) != (ai Ab.1)) then
                some true
               else
                (jV kB.1 yD.1).bind fun Wa=>
                some (!Wa)).bind fun v25=>
  bif v25 then
   some false
  else
   (jH (gp.1.1,gp.1.2.1,gp.1.2.2.1,gp.1.2.2.2.1,gp.1.2.2.2.2) Ab.1).bind fun pL=>
   (eE (gp.1.1,gp.1.2.1,gp.1.2.2.1,gp.1.2.2.2.1,gp.1.2.2.2.2) Ab.1).bind fun ID=>
   (show Option (Bool) from
    bif (ID.2 != pL.2) then
     some true
    else
     bif ID.2 then
      some (aX .f64 (bD .f32 .f64 ID.1) (av .sub .f64 (bD .f32 .f64 yn.1) (av .mul .f64 (4576918229304087675:Nat) (av .sub .f64 (4607182418800017408:Nat) (bD .f32 .f64 yn.1)))))
     else
      some false).bind fun Wb=>
   bif Wb then
    some false
   else
    (show Option (Bool) from
     bif (!ID.2) then
      some true
     else
      (gu ID.1 pL.1).bind fun Ny=>
      some Ny).bind fun U0=>
    some U0
theorem f5_ok {a0:List Int}{a1:List Int}{r:Bool}(hr:ma a0 a1=some r):CallOK Try.prog 5 [.au (.sl (.int .u8)) a0,.au (.sl (.int .u8)) a1] [⟨false,.bool,r⟩] []:=by
 unfold ma at hr;refine ij [(false,.bool)] Try.func5 rfl [] fun cx hX hF=> ?_;show HT cx ⟨[(0,.one (.aq (.sl (.int .u8)) a0)),(1,.one (.aq (.sl (.int .u8)) a1))],[],0⟩ _ _;refine ay [oH] ⟨[(0,.one (.aq (.sl (.int .u8)) a0)),(1,.one (.aq (.sl (.int .u8)) a1))],[],0⟩ hX aN ?_;refine HT.seq ?_;obtain ⟨y1,eV,hr⟩:=af hr;refine ay [oH,oH,⟨none,.call [.au (.sl (.int .u8)),.au (.sl (.int .u8))] [⟨false,.bool,y1⟩] []⟩] ⟨[(0,.one (.aq (.sl (.int .u8)) a0)),(1,.one (.aq (.sl (.int .u8)) a1)),(31,bV y1)],[],0⟩ hX (aC (Rb eV) aN) ?_;rcases an hr with ⟨m6,hr⟩|⟨m6,hr⟩
 refine HT.aK rfl m6 ?_;refine ay [oH] ⟨[(4,bV true)],[],0⟩ hX aN ?_;have hr:=ae hr;subst hr;exact HT.ret (aM (rO [bV true] [] [] trivial));refine HT.aJ rfl m6 ?_;refine HT.skip (aj ?_);obtain ⟨y4,rI,hr⟩:=af hr;refine ay [oH,⟨none,.call [.au (.sl (.int .u8)),.au tI,.au tI] [⟨false,tI,y4⟩] []⟩,oH,oH] ⟨[(0,.one (.aq (.sl (.int .u8)) a0)),(1,.one (.aq (.sl (.int .u8)) a1)),(5,iV (al .i64 (2:Int) y4))],[],0⟩ hX (aC (uI rI) aN) ?_;obtain ⟨y6,Oi,hr⟩:=af hr;refine ay [oH,oH,⟨none,.call [.au (.sl (.int .u8)),.au tI] [⟨true,tM,y6⟩] []⟩,oH,oH] ⟨[(0,.one (.aq (.sl (.int .u8)) a0)),(1,.one (.aq (.sl (.int .u8)) a1)),(5,iV (al .i64 (2:Int) y4)),(6,pV 3 0)],[(3,.box [iC y6.1,iC y6.2.1,.all 0,.all 1,.all 2]),(0,.seq tF y6.2.2.1),(1,.seq tF y6.2.2.2.1),(2,.seq tF y6.2.2.2.2)],4⟩ hX (aC (Re Oi) aN) ?_;refine ay (aO 2) ⟨[(0,.one (.aq (.sl (.int .u8)) a0)),(1,.one (.aq (.sl (.int .u8)) a1)),(5,iV (al .i64 (2:Int) y4)),(6,pV 3 0),(7,.one (.ar))],[(3,.box [iC y6.1,iC y6.2.1,.all 0,.all 1,.all 2]),(0,.seq tF y6.2.2.1),(1,.seq tF y6.2.2.2.1),(2,.seq tF y6.2.2.2.2)],4⟩ hX aN ?_;refine ay (aO 2) ⟨[(0,.one (.aq (.sl (.int .u8)) a0)),(1,.one (.aq (.sl (.int .u8)) a1)),(5,iV (al .i64 (2:Int) y4)),(6,pV 3 0),(7,.one (.ar)),(8,.one (.ar))],[(3,.box [iC y6.1,iC y6.2.1,.all 0,.all 1,.all 2]),(0,.seq tF y6.2.2.1),(1,.seq tF y6.2.2.2.1),(2,.seq tF y6.2.2.2.2)],4⟩ hX aN ?_;refine HT.seq ?_;refine ay [oH] ⟨[(0,.one (.aq (.sl (.int .u8)) a0)),(1,.one (.aq (.sl (.int .u8)) a1)),(5,iV (al .i64 (2:Int) y4)),(6,pV 3 0),(7,.one (.ar)),(8,.one (.ar)),(9,iV (0:Int))],[(3,.box [iC y6.1,iC y6.2.1,.all 0,.all 1,.all 2]),(0,.seq tF y6.2.2.1),(1,.seq tF y6.2.2.2.1),(2,.seq tF y6.2.2.2.2)],4⟩ hX aN ?_;refine HT.block ?_;obtain ⟨r9,Yr,hr⟩:=af hr;refine HT.ct (fun (s8:Int×List (List Int)×List (List Int))=>⟨[(0,.one (.aq (.sl (.int .u8)) a0)),(1,.one (.aq (.sl (.int .u8)) a1)),(5,iV (al .i64 (2:Int) y4)),(6,pV 0 0),(7,aV 1),(8,aV 2),(9,iV s8.1)],[(0,.box [iC y6.1,iC y6.2.1,.all 3,.all 4,.all 5]),(1,.seq bM s8.2.1),(2,.seq bM s8.2.2),(3,.seq tF y6.2.2.1),(4,.seq tF y6.2.2.2.1),(5,.seq tF y6.2.2.2.2)],6⟩) (fun (Ab:(List (List Int)×List (List Int)))=>(.exit 0,⟨[(1,.one (.aq (.sl (.int .u8)) a1)),(5,iV (al .i64 (2:Int) y4)),(6,pV 0 0),(7,aV 1),(8,aV 2)],[(0,.box [iC y6.1,iC y6.2.1,.all 3,.all 4,.all 5]),(1,.seq bM Ab.1),(2,.seq bM Ab.2),(3,.seq tF y6.2.2.1),(4,.seq tF y6.2.2.2.1),(5,.seq tF y6.2.2.2.2)],6⟩)) (Le.re [(3,0),(0,3),(1,4),(2,5)] [1,2] hX (by kernel_rfl)) Yr ?_ (fun s8 x68 qY Ys=> ?_);refine (aZ (aj ?_));obtain ⟨yn,Yt,hr⟩:=af hr;refine ay [oH,oH,⟨none,.call [.au tM,.au (.sl bM)] [⟨false,tF,yn.1⟩,⟨false,.bool,yn.2⟩] []⟩,oH,oH,oH,oH,oH] ⟨[(1,.one (.aq (.sl (.int .u8)) a1)),(5,iV (al .i64 (2:Int) y4)),(6,pV 0 0),(7,aV 1),(8,aV 2),(13,fV yn.1),(14,bV yn.2)],[(0,.box [iC y6.1,iC y6.2.1,.all 3,.all 4,.all 5]),(1,.seq bM r9.1),(2,.seq bM r9.2),(3,.seq tF y6.2.2.1),(4,.seq tF y6.2.2.2.1),(5,.seq tF y6.2.2.2.2)],6⟩ hX (aC (LZ Yt) aN) ?_;obtain ⟨gp,Fa,hr⟩:=af hr;refine ay [oH,oH,⟨none,.call [.au tM,.au (.sl bM)] [⟨true,tM,gp.1⟩,⟨false,.bool,gp.2⟩] []⟩,oH,oH,oH,oH,oH,oH] ⟨[(1,.one (.aq (.sl (.int .u8)) a1)),(5,iV (al .i64 (2:Int) y4)),(6,pV 0 0),(7,aV 1),(8,aV 2),(13,fV yn.1),(14,bV yn.2),(15,pV 9 0),(16,bV gp.2)],[(9,.box [iC gp.1.1,iC gp.1.2.1,.all 6,.all 7,.all 8]),(6,.seq tF gp.1.2.2.1),(7,.seq tF gp.1.2.2.2.1),(8,.seq tF gp.1.2.2.2.2),(0,.box [iC y6.1,iC y6.2.1,.all 3,.all 4,.all 5]),(1,.seq bM r9.1),(2,.seq bM r9.2),(3,.seq tF y6.2.2.1),(4,.seq tF y6.2.2.2.1),(5,.seq tF y6.2.2.2.2)],10⟩ hX (aC (L8 Fa) aN) ?_;obtain ⟨o9,LW,hr⟩:=af hr;refine ay [oH,oH,⟨none,.call [.au tM,.au (.sl bM),.au tI] [⟨true,tM,o9.1⟩,⟨false,.bool,o9.2⟩] []⟩,oH,oH,oH,oH,oH,oH] ⟨[(1,.one (.aq (.sl (.int .u8)) a1)),(5,iV (al .i64 (2:Int) y4)),(6,pV 0 0),(7,aV 1),(8,aV 2),(13,fV yn.1),(14,bV yn.2),(15,pV 9 0),(16,bV gp.2),(17,pV 13 0),(18,bV o9.2)],[(13,.box [iC o9.1.1,iC o9.1.2.1,.all 10,.all 11,.all 12]),(10,.seq tF o9.1.2.2.1),(11,.seq tF o9.1.2.2.2.1),(12,.seq tF o9.1.2.2.2.2),(9,.box [iC gp.1.1,iC gp.1.2.1,.all 6,.all 7,.all 8]),(6,.seq tF gp.1.2.2.1),(7,.seq tF gp.1.2.2.2.1),(8,.seq tF gp.1.2.2.2.2),(0,.box [iC y6.1,iC y6.2.1,.all 3,.all 4,.all 5]),(1,.seq bM r9.1),(2,.seq bM r9.2),(3,.seq tF y6.2.2.1),(4,.seq tF y6.2.2.2.1),(5,.seq tF y6.2.2.2.2)],14⟩ hX (aC (RQ LW) aN) ?_;obtain ⟨m9,G0,hr⟩:=af hr;obtain ⟨kB,He,hr⟩:=af hr;refine HT.D7 10 [o0,o0,o0,⟨⟨none,.call [.au (.sl (.int .u8)),.au tI,.au tI] [⟨false,tI,m9⟩] []⟩,[2]⟩,⟨oH,[2,3]⟩,⟨⟨none,.call [.au tM,.au (.sl bM),.au tI] [⟨true,aY,kB.1⟩,⟨false,.bool,kB.2⟩] []⟩,(rL 5)⟩,⟨oH,(rL 6)⟩,⟨oH,(rL 7)⟩,⟨oH,(rL 7)⟩,⟨oH,(rL 8)⟩] [(rL 10)] [oH] ⟨[(5,iV (al .i64 (2:Int) y4)),(6,pV 0 0),(7,aV 1),(8,aV 2),(13,fV yn.1),(14,bV yn.2),(15,pV 9 0),(16,bV gp.2),(17,pV 13 0),(18,bV o9.2),(19,aV 14),(20,bV kB.2)],[(14,.seq tF kB.1),(13,.box [iC o9.1.1,iC o9.1.2.1,.all 10,.all 11,.all 12]),(10,.seq tF o9.1.2.2.1),(11,.seq tF o9.1.2.2.2.1),(12,.seq tF o9.1.2.2.2.2),(9,.box [iC gp.1.1,iC gp.1.2.1,.all 6,.all 7,.all 8]),(6,.seq tF gp.1.2.2.1),(7,.seq tF gp.1.2.2.2.1),(8,.seq tF gp.1.2.2.2.2),(0,.box [iC y6.1,iC y6.2.1,.all 3,.all 4,.all 5]),(1,.seq bM r9.1),(2,.seq bM r9.2),(3,.seq tF y6.2.2.1),(4,.seq tF y6.2.2.2.1),(5,.seq tF y6.2.2.2.2)],15⟩ hX (by kernel_rfl) (by kernel_rfl) (aC (uI G0) (aC (L9 He) aN)) ?_;obtain ⟨yD,Rv,hr⟩:=af hr;refine ay [oH,oH,⟨none,.call [.au tM,.au (.sl bM),.au tI] [⟨true,aY,yD.1⟩,⟨false,.bool,yD.2⟩] []⟩,oH,oH,oH,oH,oH] ⟨[(5,iV (al .i64 (2:Int) y4)),(6,pV 0 0),(7,aV 1),(8,aV 2),(13,fV yn.1),(14,bV yn.2),(15,pV 9 0),(16,bV gp.2),(17,pV 13 0),(18,bV o9.2),(19,aV 14),(20,bV kB.2),(21,aV 15),(22,bV yD.2)],[(15,.seq tF yD.1),(14,.seq tF kB.1),(13,.box [iC o9.1.1,iC o9.1.2.1,.all 10,.all 11,.all 12]),(10,.seq tF o9.1.2.2.1),(11,.seq tF o9.1.2.2.2.1),(12,.seq tF o9.1.2.2.2.2),(9,.box [iC gp.1.1,iC gp.1.2.1,.all 6,.all 7,.all 8]),(6,.seq tF gp.1.2.2.1),(7,.seq tF gp.1.2.2.2.1),(8,.seq tF gp.1.2.2.2.2),(0,.box [iC y6.1,iC y6.2.1,.all 3,.all 4,.all 5]),(1,.seq bM r9.1),(2,.seq bM r9.2),(3,.seq tF y6.2.2.1),(4,.seq tF y6.2.2.2.1),(5,.seq tF y6.2.2.2.2)],16⟩ hX (aC (L9 Rv) aN) ?_;obtain ⟨B0,Oz,hr⟩:=af hr;refine ay [oH,oH,oH,⟨none,.call [.au tM,.au (.sl bM),.au (.sl bM)] [⟨true,tM,B0.1⟩,⟨false,.bool,B0.2⟩] []⟩,oH,oH,oH,oH,oH,oH] ⟨[(5,iV (al .i64 (2:Int) y4)),(6,pV 0 0),(7,aV 1),(13,fV yn.1),(14,bV yn.2),(15,pV 9 0),(16,bV gp.2),(17,pV 13 0),(18,bV o9.2),(19,aV 14),(20,bV kB.2),(21,aV 15),(22,bV yD.2),(23,pV 19 0),(24,bV B0.2)],[(19,.box [iC B0.1.1,iC B0.1.2.1,.all 16,.all 17,.all 18]),(16,.seq tF B0.1.2.2.1),(17,.seq tF B0.1.2.2.2.1),(18,.seq tF B0.1.2.2.2.2),(15,.seq tF yD.1),(14,.seq tF kB.1),(13,.box [iC o9.1.1,iC o9.1.2.1,.all 10,.all 11,.all 12]),(10,.seq tF o9.1.2.2.1),(11,.seq tF o9.1.2.2.2.1),(12,.seq tF o9.1.2.2.2.2),(9,.box [iC gp.1.1,iC gp.1.2.1,.all 6,.all 7,.all 8]),(6,.seq tF gp.1.2.2.1),(7,.seq tF gp.1.2.2.2.1),(8,.seq tF gp.1.2.2.2.2),(0,.box [iC y6.1,iC y6.2.1,.all 3,.all 4,.all 5]),(1,.seq bM r9.1),(3,.seq tF y6.2.2.1),(4,.seq tF y6.2.2.2.1),(5,.seq tF y6.2.2.2.2)],20⟩ hX (aC (RS Oz) aN) ?_;refine HT.seq ?_;obtain ⟨Yu,dn,hr⟩:=af hr;refine HT.join (fun (v25:Bool)=>⟨[(7,aV 0),(13,fV yn.1),(15,pV 1 0),(204,bV v25)],[(0,.seq bM r9.1),(1,.box [iC gp.1.1,iC gp.1.2.1,.all 2,.all 3,.all 4]),(2,.seq tF gp.1.2.2.1),(3,.seq tF gp.1.2.2.2.1),(4,.seq tF gp.1.2.2.2.2)],5⟩) (fun v=>v=Yu) (fun v25 Yv=> ?_) (fun cont=> ?_);subst Yv;rcases an hr with ⟨Sd,hr⟩|⟨Sd,hr⟩
 refine HT.aK rfl Sd ?_;refine ay [oH] ⟨[(4,bV false)],[],5⟩ hX aN ?_;have hr:=ae hr;subst hr;exact HT.ret (aM (rO [bV false] [] [] trivial));refine HT.aJ rfl Sd ?_;refine HT.skip (aj ?_);obtain ⟨pL,RO,hr⟩:=af hr;refine ay [oH,oH,⟨none,.call [.au tM,.au (.sl bM)] [⟨false,tF,pL.1⟩,⟨false,.bool,pL.2⟩] []⟩,oH,oH,oH,oH,oH] ⟨[(7,aV 0),(13,fV yn.1),(15,pV 1 0),(25,fV pL.1),(26,bV pL.2)],[(0,.seq bM r9.1),(1,.box [iC gp.1.1,iC gp.1.2.1,.all 2,.all 3,.all 4]),(2,.seq tF gp.1.2.2.1),(3,.seq tF gp.1.2.2.2.1),(4,.seq tF gp.1.2.2.2.2)],5⟩ hX (aC (R7 RO) aN) ?_;obtain ⟨ID,Yw,hr⟩:=af hr;refine ay [oH,oH,⟨none,.call [.au tM,.au (.sl bM)] [⟨false,tF,ID.1⟩,⟨false,.bool,ID.2⟩] []⟩,oH,oH,oH,oH,oH] ⟨[(13,fV yn.1),(25,fV pL.1),(26,bV pL.2),(27,fV ID.1),(28,bV ID.2)],[],5⟩ hX (aC (LZ Yw) aN) ?_;refine HT.seq ?_;obtain ⟨Yx,Dv,hr⟩:=af hr;refine HT.join (fun (Wb:Bool)=>⟨[(25,fV pL.1),(27,fV ID.1),(28,bV ID.2),(234,bV Wb)],[],0⟩) (fun v=>v=Yx) (fun Wb Yy=> ?_) (fun cont=> ?_);subst Yy;rcases an hr with ⟨Se,hr⟩|⟨Se,hr⟩
 refine HT.aK rfl Se ?_;refine ay [oH] ⟨[(4,bV false)],[],0⟩ hX aN ?_;have hr:=ae hr;subst hr;exact HT.ret (aM (rO [bV false] [] [] trivial));refine HT.aJ rfl Se ?_;refine HT.skip (aj ?_);obtain ⟨Yz,Hh,hr⟩:=af hr;refine HT.join (fun (U0:Bool)=>⟨[(4,bV U0)],[],0⟩) (fun v=>v=Yz) (fun U0 YA=> ?_) (fun cont=> ?_);subst YA;have hr:=ae hr;subst hr;exact HT.ret (rO [bV U0] [] [] trivial);rcases an Hh with ⟨Dw,Hh⟩|⟨Dw,Hh⟩
 exact HT.cR [oH,oH,oH,oT,oT,oT,vT,oH] [] [] hX (by kernel_rfl) (aC Dw (aC Dw (aC Dw (aC Dw aN)))) (fun _ h=>(aj (h.ht (cont true (ae Hh)))));obtain ⟨Ny,RP,Hh⟩:=af Hh;exact HT.cR [oH,oH,oH,oF,oF,⟨some false,.call [.au tF,.au tF] [⟨false,.bool,Ny⟩] []⟩,vF,oH] [] [] hX (by kernel_rfl) (aC Dw (aC Dw (aC Dw (aC (Mc RP) (aC Dw aN))))) (fun _ h=>(aj (h.ht (cont Ny (ae Hh)))));rcases an Dv with ⟨xb,Dv⟩|⟨xb,Dv⟩
 exact HT.cR [oH,oH,oH,oH,oT,oT,oH,oH,oH,oH,oH,oH,oH,oH,oH,oH,oT,vT] [] [] hX (by kernel_rfl) (aC xb (aC xb (aC xb (aC xb aN)))) (fun _ h=>(aj (h.ht (cont true (ae Dv)))));rcases an Dv with ⟨iX,Dv⟩|⟨iX,Dv⟩
 exact HT.cR [oH,oH,oH,oH,oF,oF,oT,oT,oT,oT,oT,oT,oT,oT,oT,oT,⟨some false,.tv true⟩,vF] [] [] hX (by kernel_rfl) (aC xb (aC xb (aC iX (aC iX (aC (show dC .f32 .f64 ID.1=true from (oB _)) (aC iX (aC iX (aC (show dC .f32 .f64 yn.1=true from (oB _)) (aC iX (aC iX (aC (show dC .f32 .f64 yn.1=true from (oB _)) (aC iX (aC iX (aC iX (aC iX (aC xb (aC iX (aC xb aN)))))))))))))))))) (fun _ h=>(aj (h.ht (cont (aX .f64 (bD .f32 .f64 ID.1) (av .sub .f64 (bD .f32 .f64 yn.1) (av .mul .f64 (4576918229304087675:Nat) (av .sub .f64 (4607182418800017408:Nat) (bD .f32 .f64 yn.1))))) (ae Dv)))));exact HT.cR [oH,oH,oH,oH,oF,oF,oF,oF,oF,oF,oF,oF,oF,oF,oF,oF,⟨some false,.tv false⟩,vF] [] [] hX (by kernel_rfl) (aC xb (aC xb (aC iX (aC iX (aC iX (aC iX (aC iX (aC iX (aC iX (aC iX (aC iX (aC iX (aC xb (aC iX (aC xb aN))))))))))))))) (fun _ h=>(aj (h.ht (cont false (ae Dv)))));rcases an dn with ⟨gL,dn⟩|⟨gL,dn⟩
 exact HT.cR [oH,oH,oH,oT,oT,vT,oH,oT,oT,vT,oH,oT,oT,vT,oH,oT,oT,vT,oH,oT,oT,vT,oH,oT,oT,oT,vT,oH,oT,oT,oT,oT,oT,vT,oH,oT,oT,oT,oT,vT,oH,oT,oT,oT,oT,vT,oH,oT,oT,oT,oT,oT,oT,vT,oH,oT,oT,oT,vT,oH,oT,oT,oT,oT,oT,vT,oH,oT,oT,oT,oT,vT] [(1,0),(9,1),(6,2),(7,3),(8,4)] [] hX (by kernel_rfl) (aC gL (aC gL (aC gL (dZ (dZ (dZ (dZ (dZ (dZ (dZ (dZ (dZ (dZ (dZ (dZ (dZ (aT (aT aN)))))))))))))))))) (fun _ h=>(aj (h.ht (cont true (ae dn)))));rcases an dn with ⟨gD,dn⟩|⟨gD,dn⟩
 exact HT.cR [oH,oH,oH,oF,oF,vF,oH,oT,oT,vT,oH,oT,oT,vT,oH,oT,oT,vT,oH,oT,oT,vT,oH,oT,oT,oT,vT,oH,oT,oT,oT,oT,oT,vT,oH,oT,oT,oT,oT,vT,oH,oT,oT,oT,oT,vT,oH,oT,oT,oT,oT,oT,oT,vT,oH,oT,oT,oT,vT,oH,oT,oT,oT,oT,oT,vT,oH,oT,oT,oT,oT,vT] [(1,0),(9,1),(6,2),(7,3),(8,4)] [] hX (by kernel_rfl) (aC gL (aC gL (aC gL (aC gD (aC gD (aC gD (dZ (dZ (dZ (dZ (dZ (dZ (dZ (dZ (dZ (dZ (dZ (dZ (aT (aT (aT aN))))))))))))))))))))) (fun _ h=>(aj (h.ht (cont true (ae dn)))));rcases an dn with ⟨iY,dn⟩|⟨iY,dn⟩
 exact HT.cR [oH,oH,oH,oF,oF,vF,oH,oF,oF,vF,oH,oT,oT,vT,oH,oT,oT,vT,oH,oT,oT,vT,oH,oT,oT,oT,vT,oH,oT,oT,oT,oT,oT,vT,oH,oT,oT,oT,oT,vT,oH,oT,oT,oT,oT,vT,oH,oT,oT,oT,oT,oT,oT,vT,oH,oT,oT,oT,vT,oH,oT,oT,oT,oT,oT,vT,oH,oT,oT,oT,oT,vT] [(1,0),(9,1),(6,2),(7,3),(8,4)] [] hX (by kernel_rfl) (aC gL (aC gL (aC gL (aC gD (aC gD (aC gD (aC iY (aC iY (aC iY (dZ (dZ (dZ (dZ (dZ (dZ (dZ (dZ (dZ (dZ (dZ (dZ aN))))))))))))))))))))) (fun _ h=>(aj (h.ht (cont true (ae dn)))));rcases an dn with ⟨jW,dn⟩|⟨jW,dn⟩
 exact HT.cR [oH,oH,oH,oF,oF,vF,oH,oF,oF,vF,oH,oF,oF,vF,oH,oT,oT,vT,oH,oT,oT,vT,oH,oT,oT,oT,vT,oH,oT,oT,oT,oT,oT,vT,oH,oT,oT,oT,oT,vT,oH,oT,oT,oT,oT,vT,oH,oT,oT,oT,oT,oT,oT,vT,oH,oT,oT,oT,vT,oH,oT,oT,oT,oT,oT,vT,oH,oT,oT,oT,oT,vT] [(1,0),(9,1),(6,2),(7,3),(8,4)] [] hX (by kernel_rfl) (aC gL (aC gL (aC gL (aC gD (aC gD (aC gD (aC iY (aC iY (aC iY (aC jW (aC jW (aC jW (dZ (dZ (dZ (dZ (dZ (dZ (dZ (dZ (dZ (dZ (dZ (aT aN)))))))))))))))))))))))) (fun _ h=>(aj (h.ht (cont true (ae dn)))));rcases an dn with ⟨kW,dn⟩|⟨kW,dn⟩
 exact HT.cR [oH,oH,oH,oF,oF,vF,oH,oF,oF,vF,oH,oF,oF,vF,oH,oF,oF,vF,oH,oT,oT,vT,oH,oT,oT,oT,vT,oH,oT,oT,oT,oT,oT,vT,oH,oT,oT,oT,oT,vT,oH,oT,oT,oT,oT,vT,oH,oT,oT,oT,oT,oT,oT,vT,oH,oT,oT,oT,vT,oH,oT,oT,oT,oT,oT,vT,oH,oT,oT,oT,oT,vT] [(1,0),(9,1),(6,2),(7,3),(8,4)] [] hX (by kernel_rfl) (aC gL (aC gL (aC gL (aC gD (aC gD (aC gD (aC iY (aC iY (aC iY (aC jW (aC jW (aC jW (aC kW (aC kW (aC kW (dZ (dZ (dZ (dZ (dZ (dZ (dZ (dZ (dZ (dZ (aT (aT aN))))))))))))))))))))))))))) (fun _ h=>(aj (h.ht (cont true (ae dn)))));rcases an dn with ⟨gn,dn⟩|⟨gn,dn⟩
 exact HT.cR [oH,oH,oH,oF,oF,vF,oH,oF,oF,vF,oH,oF,oF,vF,oH,oF,oF,vF,oH,oF,oF,vF,oH,oT,oT,oT,vT,oH,oT,oT,oT,oT,oT,vT,oH,oT,oT,oT,oT,vT,oH,oT,oT,oT,oT,vT,oH,oT,oT,oT,oT,oT,oT,vT,oH,oT,oT,oT,vT,oH,oT,oT,oT,oT,oT,vT,oH,oT,oT,oT,oT,vT] [(1,0),(9,1),(6,2),(7,3),(8,4)] [] hX (by kernel_rfl) (aC gL (aC gL (aC gL (aC gD (aC gD (aC gD (aC iY (aC iY (aC iY (aC jW (aC jW (aC jW (aC kW (aC kW (aC kW (aC gn (aC gn (aC gn (aC gn (dZ (dZ (dZ (dZ (dZ (dZ (dZ (dZ (dZ (aT (aT aN)))))))))))))))))))))))))))))) (fun _ h=>(aj (h.ht (cont true (ae dn)))));obtain ⟨Nz,Fc,dn⟩:=af dn;rcases an dn with ⟨fw,dn⟩|⟨fw,dn⟩
 exact HT.cR [oH,oH,oH,oF,oF,vF,oH,oF,oF,vF,oH,oF,oF,vF,oH,oF,oF,vF,oH,oF,oF,vF,oH,oF,⟨some false,.call [.au tM] [⟨false,.bool,Nz⟩] []⟩,oF,vF,oH,oT,oT,oT,oT,oT,vT,oH,oT,oT,oT,oT,vT,oH,oT,oT,oT,oT,vT,oH,oT,oT,oT,oT,oT,oT,vT,oH,oT,oT,oT,vT,oH,oT,oT,oT,oT,oT,vT,oH,oT,oT,oT,oT,vT] [(1,0),(9,1),(6,2),(7,3),(8,4)] [] hX (by kernel_rfl) (aC gL (aC gL (aC gL (aC gD (aC gD (aC gD (aC iY (aC iY (aC iY (aC jW (aC jW (aC jW (aC kW (aC kW (aC kW (aC gn (aC gn (aC (oO Fc) (aC gn (aC gn (aC fw (aC fw (aC fw (aC fw (aC fw (aC fw (dZ (dZ (dZ (dZ (dZ (dZ (dZ (dZ aN)))))))))))))))))))))))))))))))))) (fun _ h=>(aj (h.ht (cont true (ae dn)))));rcases an dn with ⟨jm,dn⟩|⟨jm,dn⟩
 exact HT.cR [oH,oH,oH,oF,oF,vF,oH,oF,oF,vF,oH,oF,oF,vF,oH,oF,oF,vF,oH,oF,oF,vF,oH,oF,⟨some false,.call [.au tM] [⟨false,.bool,Nz⟩] []⟩,oF,vF,oH,oF,oF,oF,oF,oF,vF,oH,oT,oT,oT,oT,vT,oH,oT,oT,oT,oT,vT,oH,oT,oT,oT,oT,oT,oT,vT,oH,oT,oT,oT,vT,oH,oT,oT,oT,oT,oT,vT,oH,oT,oT,oT,oT,vT] [(1,0),(9,1),(6,2),(7,3),(8,4)] [] hX (by kernel_rfl) (aC gL (aC gL (aC gL (aC gD (aC gD (aC gD (aC iY (aC iY (aC iY (aC jW (aC jW (aC jW (aC kW (aC kW (aC kW (aC gn (aC gn (aC (oO Fc) (aC gn (aC gn (aC fw (aC fw (aC fw (aC fw (aC fw (aC fw (aC jm (aC jm (aC jm (aC jm (aC jm (dZ (dZ (dZ (dZ (dZ (dZ (aT (aT (aT aN)))))))))))))))))))))))))))))))))))))))) (fun _ h=>(aj (h.ht (cont true (ae dn)))));rcases an dn with ⟨kX,dn⟩|⟨kX,dn⟩
 exact HT.cR [oH,oH,oH,oF,oF,vF,oH,oF,oF,vF,oH,oF,oF,vF,oH,oF,oF,vF,oH,oF,oF,vF,oH,oF,⟨some false,.call [.au tM] [⟨false,.bool,Nz⟩] []⟩,oF,vF,oH,oF,oF,oF,oF,oF,vF,oH,oF,oF,oF,oF,vF,oH,oT,oT,oT,oT,vT,oH,oT,oT,oT,oT,oT,oT,vT,oH,oT,oT,oT,vT,oH,oT,oT,oT,oT,oT,vT,oH,oT,oT,oT,oT,vT] [(1,0),(9,1),(6,2),(7,3),(8,4)] [] hX (by kernel_rfl) (aC gL (aC gL (aC gL (aC gD (aC gD (aC gD (aC iY (aC iY (aC iY (aC jW (aC jW (aC jW (aC kW (aC kW (aC kW (aC gn (aC gn (aC (oO Fc) (aC gn (aC gn (aC fw (aC fw (aC fw (aC fw (aC fw (aC fw (aC jm (aC jm (aC jm (aC jm (aC jm (aC kX (aC kX (aC kX (aC kX (aC kX (dZ (dZ (dZ (dZ (dZ (aT (aT aN))))))))))))))))))))))))))))))))))))))))))) (fun _ h=>(aj (h.ht (cont true (ae dn)))));obtain ⟨Sc,Md,dn⟩:=af dn;rcases an dn with ⟨jn,dn⟩|⟨jn,dn⟩
 exact HT.cR [oH,oH,oH,oF,oF,vF,oH,oF,oF,vF,oH,oF,oF,vF,oH,oF,oF,vF,oH,oF,oF,vF,oH,oF,⟨some false,.call [.au tM] [⟨false,.bool,Nz⟩] []⟩,oF,vF,oH,oF,oF,oF,oF,oF,vF,oH,oF,oF,oF,oF,vF,oH,oF,oF,⟨some false,.call [.au tM,.au tM] [⟨false,.bool,Sc⟩] []⟩,oF,vF,oH,oT,oT,oT,oT,oT,oT,vT,oH,oT,oT,oT,vT,oH,oT,oT,oT,oT,oT,vT,oH,oT,oT,oT,oT,vT] [(1,0),(9,1),(6,2),(7,3),(8,4)] [] hX (by kernel_rfl) (aC gL (aC gL (aC gL (aC gD (aC gD (aC gD (aC iY (aC iY (aC iY (aC jW (aC jW (aC jW (aC kW (aC kW (aC kW (aC gn (aC gn (aC (oO Fc) (aC gn (aC gn (aC fw (aC fw (aC fw (aC fw (aC fw (aC fw (aC jm (aC jm (aC jm (aC jm (aC jm (aC kX (aC kX (aC kX (aC (Ai Md) (aC kX (aC kX (aC jn (aC jn (aC jn (aC jn (aC jn (aC jn (aC jn (dZ (dZ (dZ (aT (aT (aT aN)))))))))))))))))))))))))))))))))))))))))))))))))) (fun _ h=>(aj (h.ht (cont true (ae dn)))));obtain ⟨Tt,OO,dn⟩:=af dn;rcases an dn with ⟨sI,dn⟩|⟨sI,dn⟩
 exact HT.cR [oH,oH,oH,oF,oF,vF,oH,oF,oF,vF,oH,oF,oF,vF,oH,oF,oF,vF,oH,oF,oF,vF,oH,oF,⟨some false,.call [.au tM] [⟨false,.bool,Nz⟩] []⟩,oF,vF,oH,oF,oF,oF,oF,oF,vF,oH,oF,oF,oF,oF,vF,oH,oF,oF,⟨some false,.call [.au tM,.au tM] [⟨false,.bool,Sc⟩] []⟩,oF,vF,oH,oF,oF,oF,oF,⟨some false,.call [.au aY,.au aY] [⟨false,.bool,Tt⟩] []⟩,oF,vF,oH,oT,oT,oT,vT,oH,oT,oT,oT,oT,oT,vT,oH,oT,oT,oT,oT,vT] [(1,0),(9,1),(6,2),(7,3),(8,4)] [] hX (by kernel_rfl) (aC gL (aC gL (aC gL (aC gD (aC gD (aC gD (aC iY (aC iY (aC iY (aC jW (aC jW (aC jW (aC kW (aC kW (aC kW (aC gn (aC gn (aC (oO Fc) (aC gn (aC gn (aC fw (aC fw (aC fw (aC fw (aC fw (aC fw (aC jm (aC jm (aC jm (aC jm (aC jm (aC kX (aC kX (aC kX (aC (Ai Md) (aC kX (aC kX (aC jn (aC jn (aC jn (aC jn (aC jn (aC (Aj OO) (aC jn (aC jn (aC sI (aC sI (aC sI (aC sI (dZ (dZ (aT (aT (aT aN)))))))))))))))))))))))))))))))))))))))))))))))))))))) (fun _ h=>(aj (h.ht (cont true (ae dn)))));obtain ⟨UZ,Sf,dn⟩:=af dn;rcases an dn with ⟨qZ,dn⟩|⟨qZ,dn⟩
 exact HT.cR [oH,oH,oH,oF,oF,vF,oH,oF,oF,vF,oH,oF,oF,vF,oH,oF,oF,vF,oH,oF,oF,vF,oH,oF,⟨some false,.call [.au tM] [⟨false,.bool,Nz⟩] []⟩,oF,vF,oH,oF,oF,oF,oF,oF,vF,oH,oF,oF,oF,oF,vF,oH,oF,oF,⟨some false,.call [.au tM,.au tM] [⟨false,.bool,Sc⟩] []⟩,oF,vF,oH,oF,oF,oF,oF,⟨some false,.call [.au aY,.au aY] [⟨false,.bool,Tt⟩] []⟩,oF,vF,oH,oF,⟨some false,.call [.au tM] [⟨false,.bool,UZ⟩] []⟩,oF,vF,oH,oT,oT,oT,oT,oT,vT,oH,oT,oT,oT,oT,vT] [(1,0),(9,1),(6,2),(7,3),(8,4)] [] hX (by kernel_rfl) (aC gL (aC gL (aC gL (aC gD (aC gD (aC gD (aC iY (aC iY (aC iY (aC jW (aC jW (aC jW (aC kW (aC kW (aC kW (aC gn (aC gn (aC (oO Fc) (aC gn (aC gn (aC fw (aC fw (aC fw (aC fw (aC fw (aC fw (aC jm (aC jm (aC jm (aC jm (aC jm (aC kX (aC kX (aC kX (aC (Ai Md) (aC kX (aC kX (aC jn (aC jn (aC jn (aC jn (aC jn (aC (Aj OO) (aC jn (aC jn (aC sI (aC sI (aC (oO Sf) (aC sI (aC sI (aC qZ (aC qZ (aC qZ (aC qZ (aC qZ (aC qZ (dZ (aT aN)))))))))))))))))))))))))))))))))))))))))))))))))))))))))) (fun _ h=>(aj (h.ht (cont true (ae dn)))));rcases an dn with ⟨Ak,dn⟩|⟨Ak,dn⟩
 exact HT.cR [oH,oH,oH,oF,oF,vF,oH,oF,oF,vF,oH,oF,oF,vF,oH,oF,oF,vF,oH,oF,oF,vF,oH,oF,⟨some false,.call [.au tM] [⟨false,.bool,Nz⟩] []⟩,oF,vF,oH,oF,oF,oF,oF,oF,vF,oH,oF,oF,oF,oF,vF,oH,oF,oF,⟨some false,.call [.au tM,.au tM] [⟨false,.bool,Sc⟩] []⟩,oF,vF,oH,oF,oF,oF,oF,⟨some false,.call [.au aY,.au aY] [⟨false,.bool,Tt⟩] []⟩,oF,vF,oH,oF,⟨some false,.call [.au tM] [⟨false,.bool,UZ⟩] []⟩,oF,vF,oH,oF,oF,oF,oF,oF,vF,oH,oT,oT,oT,oT,vT] [(1,0),(9,1),(6,2),(7,3),(8,4)] [] hX (by kernel_rfl) (aC gL (aC gL (aC gL (aC gD (aC gD (aC gD (aC iY (aC iY (aC iY (aC jW (aC jW (aC jW (aC kW (aC kW (aC kW (aC gn (aC gn (aC (oO Fc) (aC gn (aC gn (aC fw (aC fw (aC fw (aC fw (aC fw (aC fw (aC jm (aC jm (aC jm (aC jm (aC jm (aC kX (aC kX (aC kX (aC (Ai Md) (aC kX (aC kX (aC jn (aC jn (aC jn (aC jn (aC jn (aC (Aj OO) (aC jn (aC jn (aC sI (aC sI (aC (oO Sf) (aC sI (aC sI (aC qZ (aC qZ (aC qZ (aC qZ (aC qZ (aC qZ (aC Ak (aC Ak (aC Ak (aC Ak (aC Ak aN))))))))))))))))))))))))))))))))))))))))))))))))))))))))))))) (fun _ h=>(aj (h.ht (cont true (ae dn)))));obtain ⟨Wa,YB,dn⟩:=af dn;exact HT.cR [oH,oH,oH,oF,oF,vF,oH,oF,oF,vF,oH,oF,oF,vF,oH,oF,oF,vF,oH,oF,oF,vF,oH,oF,⟨some false,.call [.au tM] [⟨false,.bool,Nz⟩] []⟩,oF,vF,oH,oF,oF,oF,oF,oF,vF,oH,oF,oF,oF,oF,vF,oH,oF,oF,⟨some false,.call [.au tM,.au tM] [⟨false,.bool,Sc⟩] []⟩,oF,vF,oH,oF,oF,oF,oF,⟨some false,.call [.au aY,.au aY] [⟨false,.bool,Tt⟩] []⟩,oF,vF,oH,oF,⟨some false,.call [.au tM] [⟨false,.bool,UZ⟩] []⟩,oF,vF,oH,oF,oF,oF,oF,oF,vF,oH,oF,oF,⟨some false,.call [.au aY,.au aY] [⟨false,.bool,Wa⟩] []⟩,oF,vF] [(1,0),(9,1),(6,2),(7,3),(8,4)] [] hX (by kernel_rfl) (aC gL (aC gL (aC gL (aC gD (aC gD (aC gD (aC iY (aC iY (aC iY (aC jW (aC jW (aC jW (aC kW (aC kW (aC kW (aC gn (aC gn (aC (oO Fc) (aC gn (aC gn (aC fw (aC fw (aC fw (aC fw (aC fw (aC fw (aC jm (aC jm (aC jm (aC jm (aC jm (aC kX (aC kX (aC kX (aC (Ai Md) (aC kX (aC kX (aC jn (aC jn (aC jn (aC jn (aC jn (aC (Aj OO) (aC jn (aC jn (aC sI (aC sI (aC (oO Sf) (aC sI (aC sI (aC qZ (aC qZ (aC qZ (aC qZ (aC qZ (aC qZ (aC Ak (aC Ak (aC Ak (aC (Aj YB) (aC Ak (aC Ak aN)))))))))))))))))))))))))))))))))))))))))))))))))))))))))))))) (fun _ h=>(aj (h.ht (cont (!Wa) (ae dn)))));refine HT.seq ?_;obtain ⟨V9,YC,qY⟩:=af qY;refine ay [oH,oH,⟨none,.call [.au (.sl (.int .u8)),.au tI,.au tI] [⟨false,tI,V9⟩] []⟩,oH,oH] ⟨[(0,.one (.aq (.sl (.int .u8)) a0)),(1,.one (.aq (.sl (.int .u8)) a1)),(5,iV (al .i64 (2:Int) y4)),(6,pV 0 0),(7,aV 1),(8,aV 2),(9,iV s8.1),(44,bV (decide (s8.1<(al .i64 (1:Int) V9))))],[(0,.box [iC y6.1,iC y6.2.1,.all 3,.all 4,.all 5]),(1,.seq bM s8.2.1),(2,.seq bM s8.2.2),(3,.seq tF y6.2.2.1),(4,.seq tF y6.2.2.2.1),(5,.seq tF y6.2.2.2.2)],6⟩ hX (aC (uI YC) aN) ?_;rcases an qY with ⟨Sg,qY⟩|⟨Sg,qY⟩
 refine HT.aK rfl Sg ?_;refine HT.skip (aj ?_);refine HT.seq ?_;refine HT.block ?_;refine ay (aO 2) ⟨[(0,.one (.aq (.sl (.int .u8)) a0)),(1,.one (.aq (.sl (.int .u8)) a1)),(5,iV (al .i64 (2:Int) y4)),(6,pV 0 0),(7,aV 1),(8,aV 2),(9,iV s8.1),(10,.one (.ar))],[(0,.box [iC y6.1,iC y6.2.1,.all 3,.all 4,.all 5]),(1,.seq bM s8.2.1),(2,.seq bM s8.2.2),(3,.seq tF y6.2.2.1),(4,.seq tF y6.2.2.2.1),(5,.seq tF y6.2.2.2.2)],6⟩ hX aN ?_;obtain ⟨UY,YD,qY⟩:=af qY;refine ay [oH,oH,oH,oH,oH,⟨none,.call [.au (.sl (.int .u8)),.au tI,.au tI] [⟨false,tI,UY⟩] []⟩,⟨none,.ty tI⟩,oH] ⟨[(0,.one (.aq (.sl (.int .u8)) a0)),(1,.one (.aq (.sl (.int .u8)) a1)),(5,iV (al .i64 (2:Int) y4)),(6,pV 0 0),(7,aV 1),(8,aV 2),(9,iV s8.1),(10,.one (.ar)),(11,aV 6)],[(6,.seq tI ([UY]:List Int)),(0,.box [iC y6.1,iC y6.2.1,.all 3,.all 4,.all 5]),(1,.seq bM s8.2.1),(2,.seq bM s8.2.2),(3,.seq tF y6.2.2.1),(4,.seq tF y6.2.2.2.1),(5,.seq tF y6.2.2.2.2)],7⟩ hX (aC (uI YD) aN) ?_;refine HT.seq ?_;refine ay [oH] ⟨[(0,.one (.aq (.sl (.int .u8)) a0)),(1,.one (.aq (.sl (.int .u8)) a1)),(5,iV (al .i64 (2:Int) y4)),(6,pV 0 0),(7,aV 1),(8,aV 2),(9,iV s8.1),(10,.one (.ar)),(11,aV 6),(12,iV (0:Int))],[(6,.seq tI ([UY]:List Int)),(0,.box [iC y6.1,iC y6.2.1,.all 3,.all 4,.all 5]),(1,.seq bM s8.2.1),(2,.seq bM s8.2.2),(3,.seq tF y6.2.2.1),(4,.seq tF y6.2.2.2.1),(5,.seq tF y6.2.2.2.2)],7⟩ hX aN ?_;refine HT.block ?_;obtain ⟨NA,YE,qY⟩:=af qY;refine HT.ct (fun (u0:Int×List Int×List Int)=>⟨[(0,.one (.aq (.sl (.int .u8)) a0)),(1,.one (.aq (.sl (.int .u8)) a1)),(5,iV (al .i64 (2:Int) y4)),(6,pV 0 0),(7,aV 1),(8,aV 2),(9,iV s8.1),(10,aV 3),(11,aV 4),(12,iV u0.1)],[(0,.box [iC y6.1,iC y6.2.1,.all 5,.all 6,.all 7]),(1,.seq bM s8.2.1),(2,.seq bM s8.2.2),(3,.seq tI u0.2.1),(4,.seq tI u0.2.2),(5,.seq tF y6.2.2.1),(6,.seq tF y6.2.2.2.1),(7,.seq tF y6.2.2.2.2)],8⟩) (fun (Sb:(List Int×List Int))=>(.exit 2,⟨[(0,.one (.aq (.sl (.int .u8)) a0)),(1,.one (.aq (.sl (.int .u8)) a1)),(5,iV (al .i64 (2:Int) y4)),(6,pV 0 0),(7,aV 1),(8,aV 2),(9,iV s8.1),(10,aV 3),(11,aV 4)],[(0,.box [iC y6.1,iC y6.2.1,.all 5,.all 6,.all 7]),(1,.seq bM s8.2.1),(2,.seq bM s8.2.2),(3,.seq tI Sb.1),(4,.seq tI Sb.2),(5,.seq tF y6.2.2.1),(6,.seq tF y6.2.2.2.1),(7,.seq tF y6.2.2.2.2)],8⟩)) (Le.re [(0,0),(1,1),(2,2),(6,4),(3,5),(4,6),(5,7)] [3] hX (by kernel_rfl)) YE ?_ (fun u0 x81 ra YF=> ?_);refine (aZ (aj ?_));refine (Le.rz [(0,0),(1,1),(2,2),(4,4),(5,5),(6,6),(7,7)] [] (st':=⟨[(0,.one (.aq (.sl (.int .u8)) a0)),(1,.one (.aq (.sl (.int .u8)) a1)),(5,iV (al .i64 (2:Int) y4)),(6,pV 0 0),(7,aV 1),(8,aV 2),(9,iV s8.1),(10,nV NA.1),(11,aV 4)],[(0,.box [iC y6.1,iC y6.2.1,.all 5,.all 6,.all 7]),(1,.seq bM s8.2.1),(2,.seq bM s8.2.2),(4,.seq tI NA.2),(5,.seq tF y6.2.2.1),(6,.seq tF y6.2.2.2.1),(7,.seq tF y6.2.2.2.2)],8⟩) hX hF (by kernel_rfl)).ht ?_;obtain ⟨YG,qY⟩:=ao qY;refine ay [oH,oH,⟨none,.ty bM⟩,⟨none,.ty bM⟩,oH] ⟨[(0,.one (.aq (.sl (.int .u8)) a0)),(1,.one (.aq (.sl (.int .u8)) a1)),(5,iV (al .i64 (2:Int) y4)),(6,pV 0 0),(7,aV 9),(8,aV 2),(9,iV s8.1),(11,aV 4)],[(9,.seq bM (s8.2.1++([NA.1]:List (List Int)))),(0,.box [iC y6.1,iC y6.2.1,.all 5,.all 6,.all 7]),(2,.seq bM s8.2.2),(4,.seq tI NA.2),(5,.seq tF y6.2.2.1),(6,.seq tF y6.2.2.2.1),(7,.seq tF y6.2.2.2.2)],10⟩ hX (aC YG aN) ?_;refine (Le.rz [(9,9),(0,0),(2,2),(5,5),(6,6),(7,7)] [] (st':=⟨[(0,.one (.aq (.sl (.int .u8)) a0)),(1,.one (.aq (.sl (.int .u8)) a1)),(5,iV (al .i64 (2:Int) y4)),(6,pV 0 0),(7,aV 9),(8,aV 2),(9,iV s8.1),(11,nV NA.2)],[(9,.seq bM (s8.2.1++([NA.1]:List (List Int)))),(0,.box [iC y6.1,iC y6.2.1,.all 5,.all 6,.all 7]),(2,.seq bM s8.2.2),(5,.seq tF y6.2.2.1),(6,.seq tF y6.2.2.2.1),(7,.seq tF y6.2.2.2.2)],10⟩) hX hF (by kernel_rfl)).ht ?_;obtain ⟨YH,qY⟩:=ao qY;refine HT.xM [oH,oH,⟨none,.ty bM⟩,⟨none,.ty bM⟩,oH] ⟨[(0,.one (.aq (.sl (.int .u8)) a0)),(1,.one (.aq (.sl (.int .u8)) a1)),(5,iV (al .i64 (2:Int) y4)),(6,pV 0 0),(7,aV 9),(8,aV 11),(9,iV s8.1)],[(11,.seq bM (s8.2.2++([NA.2]:List (List Int)))),(9,.seq bM (s8.2.1++([NA.1]:List (List Int)))),(0,.box [iC y6.1,iC y6.2.1,.all 5,.all 6,.all 7]),(5,.seq tF y6.2.2.1),(6,.seq tF y6.2.2.2.1),(7,.seq tF y6.2.2.2.2)],12⟩ hX (by kernel_rfl) (aC YH aN) (bC (aj ?_));have qY:=ae qY;subst qY;exact HT.cR (aO 3) [(0,0),(9,1),(11,2),(5,3),(6,4),(7,5)] [] hX (by kernel_rfl) aN (fun _ h=>(bJ ⟨((al .i64 s8.1 (1:Int)),(s8.2.1++([NA.1]:List (List Int))),(s8.2.2++([NA.2]:List (List Int)))),rfl,h⟩));refine HT.seq ?_;obtain ⟨V8,YI,ra⟩:=af ra;refine ay [oH,oH,oH,oH,⟨none,.call [.au (.sl (.int .u8)),.au tI,.au tI] [⟨false,tI,V8⟩] []⟩,oH,oH] ⟨[(0,.one (.aq (.sl (.int .u8)) a0)),(1,.one (.aq (.sl (.int .u8)) a1)),(5,iV (al .i64 (2:Int) y4)),(6,pV 0 0),(7,aV 1),(8,aV 2),(9,iV s8.1),(10,aV 3),(11,aV 4),(12,iV u0.1),(61,bV (decide (u0.1<(al .i64 (1:Int) V8))))],[(0,.box [iC y6.1,iC y6.2.1,.all 5,.all 6,.all 7]),(1,.seq bM s8.2.1),(2,.seq bM s8.2.2),(3,.seq tI u0.2.1),(4,.seq tI u0.2.2),(5,.seq tF y6.2.2.1),(6,.seq tF y6.2.2.2.1),(7,.seq tF y6.2.2.2.2)],8⟩ hX (aC (uI YI) aN) ?_;rcases an ra with ⟨Sh,ra⟩|⟨Sh,ra⟩
 refine HT.aK rfl Sh ?_;refine HT.skip (aj ?_);refine HT.seq ?_;refine HT.block ?_;obtain ⟨Sa,YJ,ra⟩:=af ra;obtain ⟨YK,ra⟩:=ao ra;refine ay [oH,oH,oH,oH,oH,oH,oH,⟨none,.call [.au (.sl (.int .u8)),.au tI,.au tI] [⟨false,tI,Sa⟩] []⟩,⟨none,.ty tI⟩,⟨none,.ty tI⟩,oH] ⟨[(0,.one (.aq (.sl (.int .u8)) a0)),(1,.one (.aq (.sl (.int .u8)) a1)),(5,iV (al .i64 (2:Int) y4)),(6,pV 0 0),(7,aV 1),(8,aV 2),(9,iV s8.1),(10,aV 9),(11,aV 4),(12,iV u0.1)],[(9,.seq tI (u0.2.1++([Sa]:List Int))),(0,.box [iC y6.1,iC y6.2.1,.all 5,.all 6,.all 7]),(1,.seq bM s8.2.1),(2,.seq bM s8.2.2),(4,.seq tI u0.2.2),(5,.seq tF y6.2.2.1),(6,.seq tF y6.2.2.2.1),(7,.seq tF y6.2.2.2.2)],10⟩ hX (aC (uI YJ) (aC YK aN)) ?_;obtain ⟨Tr,YL,ra⟩:=af ra;obtain ⟨YM,ra⟩:=ao ra;refine HT.xM [oH,oH,oH,oH,oH,oH,oH,oH,⟨none,.call [.au (.sl (.int .u8)),.au tI,.au tI] [⟨false,tI,Tr⟩] []⟩,⟨none,.ty tI⟩,⟨none,.ty tI⟩,oH] ⟨[(0,.one (.aq (.sl (.int .u8)) a0)),(1,.one (.aq (.sl (.int .u8)) a1)),(5,iV (al .i64 (2:Int) y4)),(6,pV 0 0),(7,aV 1),(8,aV 2),(9,iV s8.1),(10,aV 9),(11,aV 11),(12,iV u0.1)],[(11,.seq tI (u0.2.2++([Tr]:List Int))),(9,.seq tI (u0.2.1++([Sa]:List Int))),(0,.box [iC y6.1,iC y6.2.1,.all 5,.all 6,.all 7]),(1,.seq bM s8.2.1),(2,.seq bM s8.2.2),(5,.seq tF y6.2.2.1),(6,.seq tF y6.2.2.2.1),(7,.seq tF y6.2.2.2.2)],12⟩ hX (by kernel_rfl) (aC (uI YL) (aC YM aN)) (bC (aj ?_));have ra:=ae ra;subst ra;exact HT.cR (aO 3) [(0,0),(1,1),(2,2),(9,3),(11,4),(5,5),(6,6),(7,7)] [] hX (by kernel_rfl) aN (fun _ h=>(bJ ⟨((al .i64 u0.1 (1:Int)),(u0.2.1++([Sa]:List Int)),(u0.2.2++([Tr]:List Int))),rfl,h⟩));refine HT.aJ rfl Sh ?_;have ra:=ae ra;subst ra;exact HT.cr (Le.re [(0,0),(1,1),(2,2),(3,3),(4,4),(5,5),(6,6),(7,7)] [] hX (by kernel_rfl)) (bF (bI (YF (u0.2.1,u0.2.2) rfl)));refine HT.aJ rfl Sg ?_;have qY:=ae qY;subst qY;exact HT.cr (Le.re [(0,0),(1,1),(2,2),(3,3),(4,4),(5,5)] [] hX (by kernel_rfl)) (bF (bI (Ys (s8.2.1,s8.2.2) rfl)))
end Go.Proofs
