import Derived.Test.YtjnkhcgmgkhnaaaGreatDoorTopGenD
import Derived.Test.YtjnkhcgmgkhnaaaGreatDoorProg
set_option linter.unusedVariables false
set_option linter.unusedSimpArgs false
set_option linter.unusedSectionVars false
namespace Go.Proofs
open Go.Ide
noncomputable def jG (a0:Int×Int×List (Int×Int×Int×Int))(s8:Int×Bool×List Int)(gj:Int×Bool×List Int)(cG:Int×Bool×List Int)(uz:Int×List Int):Option ((Int×List Int)⊕(List Int)):=
 (show Option (Bool) from
  bif (decide (uz.1<(aj .i64 gj.1 s8.1))) then
   some (decide ((((List.getD a0.2.2 (Int.toNat cG.1) ((0:Int),(0:Int),(0:Int),(0:Int))).2).2).1≥(0:Int)))
  else
   some false).bind fun UM=>
 bif UM then
  ai (0+104*Int.toNat gj.1+8*Int.toNat (aj .i64 gj.1 s8.1)+1*Int.toNat ((List.getD a0.2.2 (Int.toNat cG.1) ((0:Int),(0:Int),(0:Int),(0:Int))).1)<List.length uz.2) (
   ai ((0:Int)≤uz.1∧uz.1<((13:Nat):Int)) (
    ai ((0:Int)≤((List.getD a0.2.2 (Int.toNat cG.1) ((0:Int),(0:Int),(0:Int),(0:Int))).2).1∧((List.getD a0.2.2 (Int.toNat cG.1) ((0:Int),(0:Int),(0:Int),(0:Int))).2).1<((8:Nat):Int)) (
     ai (0+104*Int.toNat gj.1+8*Int.toNat uz.1+1*Int.toNat (((List.getD a0.2.2 (Int.toNat cG.1) ((0:Int),(0:Int),(0:Int),(0:Int))).2).1)<List.length uz.2) (
      ai ((0:Int)≤uz.1∧uz.1<((12:Nat):Int)) (
       ai ((0:Int)≤(((List.getD a0.2.2 (Int.toNat cG.1) ((0:Int),(0:Int),(0:Int),(0:Int))).2).2).1∧(((List.getD a0.2.2 (Int.toNat cG.1) ((0:Int),(0:Int),(0:Int),(0:Int))).2).2).1<((8:Nat):Int)) (
        ai (0+104*Int.toNat uz.1+8*Int.toNat (aj .i64 gj.1 s8.1)+1*Int.toNat ((((List.getD a0.2.2 (Int.toNat cG.1) ((0:Int),(0:Int),(0:Int),(0:Int))).2).2).1)<List.length uz.2) (
         some (.inl ((aj .i64 uz.1 (1:Int)),(List.set uz.2 (0+104*Int.toNat gj.1+8*Int.toNat (aj .i64 gj.1 s8.1)+1*Int.toNat ((List.getD a0.2.2 (Int.toNat cG.1) ((0:Int),(0:Int),(0:Int),(0:Int))).1)) (if (aj .i64 (List.getD uz.2 (0+104*Int.toNat gj.1+8*Int.toNat (aj .i64 gj.1 s8.1)+1*Int.toNat ((List.getD a0.2.2 (Int.toNat cG.1) ((0:Int),(0:Int),(0:Int),(0:Int))).1)) (0:Int)) (ij .i64 (List.getD uz.2 (0+104*Int.toNat gj.1+8*Int.toNat uz.1+1*Int.toNat (((List.getD a0.2.2 (Int.toNat cG.1) ((0:Int),(0:Int),(0:Int),(0:Int))).2).1)) (0:Int)) (List.getD uz.2 (0+104*Int.toNat uz.1+8*Int.toNat (aj .i64 gj.1 s8.1)+1*Int.toNat ((((List.getD a0.2.2 (Int.toNat cG.1) ((0:Int),(0:Int),(0:Int),(0:Int))).2).2).1)) (0:Int))))<(1000000001:Int) then (aj .i64 (List.getD uz.2 (0+104*Int.toNat gj.1+8*Int.toNat (aj .i64 gj.1 s8.1)+1*Int.toNat ((List.getD a0.2.2 (Int.toNat cG.1) ((0:Int),(0:Int),(0:Int),(0:Int))).1)) (0:Int)) (ij .i64 (List.getD uz.2 (0+104*Int.toNat gj.1+8*Int.toNat uz.1+1*Int.toNat (((List.getD a0.2.2 (Int.toNat cG.1) ((0:Int),(0:Int),(0:Int),(0:Int))).2).1)) (0:Int)) (List.getD uz.2 (0+104*Int.toNat uz.1+8*Int.toNat (aj .i64 gj.1 s8.1)+1*Int.toNat ((((List.getD a0.2.2 (Int.toNat cG.1) ((0:Int),(0:Int),(0:Int),(0:Int))).2).2).1)) (0:Int)))) else (1000000001:Int))))))))))))
 else
  some (.inr uz.2)
noncomputable def jH (a0:Int×Int×List (Int×Int×Int×Int))(a1:List Int)(s8:Int×Bool×List Int)(gj:Int×Bool×List Int)(cG:Int×Bool×List Int):Option ((Int×Bool×List Int)⊕((Bool×List Int))):=
 bif (decide (cG.1<(ae a0.2.2))) then
  (show Option (Bool×List Int) from
   ai ((0:Int)≤cG.1∧cG.1<ae a0.2.2) (
    ai ((0:Int)≤gj.1∧gj.1<((12:Nat):Int)) (
     ai ((0:Int)≤(aj .i64 gj.1 s8.1)∧(aj .i64 gj.1 s8.1)<((13:Nat):Int)) (
      ai ((0:Int)≤(List.getD a0.2.2 (Int.toNat cG.1) ((0:Int),(0:Int),(0:Int),(0:Int))).1∧(List.getD a0.2.2 (Int.toNat cG.1) ((0:Int),(0:Int),(0:Int),(0:Int))).1<((8:Nat):Int)) (
       (show Option (List Int) from
        (show Option (Bool) from
         bif (decide ((((List.getD a0.2.2 (Int.toNat cG.1) ((0:Int),(0:Int),(0:Int),(0:Int))).2).2).1<(0:Int))) then
          bif ((aj .i64 gj.1 s8.1)==(aj .i64 gj.1 (1:Int))) then
           ai ((0:Int)≤gj.1∧gj.1<ae a1) (
            some ((List.getD a1 (Int.toNat gj.1) (0:Int))==((List.getD a0.2.2 (Int.toNat cG.1) ((0:Int),(0:Int),(0:Int),(0:Int))).2).1))
          else
           some false
         else
          some false).bind fun UN=>
        bif UN then
         ai (0+104*Int.toNat gj.1+8*Int.toNat (aj .i64 gj.1 s8.1)+1*Int.toNat ((List.getD a0.2.2 (Int.toNat cG.1) ((0:Int),(0:Int),(0:Int),(0:Int))).1)<List.length cG.2.2) (
          some (List.set cG.2.2 (0+104*Int.toNat gj.1+8*Int.toNat (aj .i64 gj.1 s8.1)+1*Int.toNat ((List.getD a0.2.2 (Int.toNat cG.1) ((0:Int),(0:Int),(0:Int),(0:Int))).1)) (aj .i64 (List.getD cG.2.2 (0+104*Int.toNat gj.1+8*Int.toNat (aj .i64 gj.1 s8.1)+1*Int.toNat ((List.getD a0.2.2 (Int.toNat cG.1) ((0:Int),(0:Int),(0:Int),(0:Int))).1)) (0:Int)) (1:Int))))
        else
         some cG.2.2).bind fun Rj=>
       (rounds (jG a0 s8 gj cG) ((aj .i64 gj.1 (1:Int)),Rj)).bind fun P1=>
       bif cG.2.1 then
        ai (0+104*Int.toNat gj.1+8*Int.toNat (aj .i64 gj.1 s8.1)+1*Int.toNat ((List.getD a0.2.2 (Int.toNat cG.1) ((0:Int),(0:Int),(0:Int),(0:Int))).1)<List.length P1) (
         some ((decide ((List.getD P1 (0+104*Int.toNat gj.1+8*Int.toNat (aj .i64 gj.1 s8.1)+1*Int.toNat ((List.getD a0.2.2 (Int.toNat cG.1) ((0:Int),(0:Int),(0:Int),(0:Int))).1)) (0:Int))≤(1000000000:Int))),P1))
       else
        some (false,P1)))))).bind fun xc=>
  some (.inl ((aj .i64 cG.1 (1:Int)),xc.1,xc.2))
 else
  some (.inr (cG.2.1,cG.2.2))
noncomputable def jI (a0:Int×Int×List (Int×Int×Int×Int))(a1:List Int)(s8:Int×Bool×List Int)(gj:Int×Bool×List Int):Option ((Int×Bool×List Int)⊕((Bool×List Int))):=
 bif (decide (gj.1<(aj .i64 (a7 .i64 (ae a1) s8.1) (1:Int)))) then
  (show Option (Bool×List Int) from
   (rounds (jH a0 a1 s8 gj) ((0:Int),gj.2.1,gj.2.2)).bind fun JR=>
   some (JR.1,JR.2)).bind fun v23=>
  some (.inl ((aj .i64 gj.1 (1:Int)),v23.1,v23.2))
 else
  some (.inr (gj.2.1,gj.2.2))
noncomputable def jJ (a0:Int×Int×List (Int×Int×Int×Int))(a1:List Int)(s8:Int×Bool×List Int):Option ((Int×Bool×List Int)⊕((Bool×List Int))):=
 bif (decide (s8.1≤(ae a1))) then
  (rounds (jI a0 a1 s8) ((0:Int),s8.2.1,s8.2.2)).bind fun Rk=>
  some (.inl ((aj .i64 s8.1 (1:Int)),Rk.1,Rk.2))
 else
  some (.inr (s8.2.1,s8.2.2))
noncomputable def dD (a0:Int×Int×List (Int×Int×Int×Int))(a1:List Int):Option (Int×Bool):=
 (fG (a0.1,a0.2.1,a0.2.2) a1).bind fun y1=>
 bif (!y1) then
  some ((0:Int),false)
 else
  (show Option (Bool×List Int) from
   (rounds (jJ a0 a1) ((1:Int),true,(List.replicate 1248 (0:Int)))).bind fun cR=>
   some (cR.1,cR.2)).bind fun v5=>
  bif (!v5.1) then
   some ((0:Int),false)
  else
   ai ((0:Int)≤(0:Int)∧(0:Int)<((12:Nat):Int)) (
    ai ((0:Int)≤(ae a1)∧(ae a1)<((13:Nat):Int)) (
     ai ((0:Int)≤(0:Int)∧(0:Int)<((8:Nat):Int)) (
      ai (0+104*Int.toNat (0:Int)+8*Int.toNat (ae a1)+1*Int.toNat (0:Int)<List.length v5.2) (
       (some (List.getD v5.2 (0+104*Int.toNat (0:Int)+8*Int.toNat (ae a1)+1*Int.toNat (0:Int)) (0:Int))).bind fun Z1=>
       some (Z1,true)))))
theorem JV {a0:Int×Int×List (Int×Int×Int×Int)}{a1:List Int}{r:Int×Bool}(hr:dD a0 a1=some r):CallOK Tryz.prog 21 [.bl (.st (.pair tI (.pair tI (.sl (.st (.pair tI (.pair tI (.pair tI tI)))))))) a0,.bl aN a1] [⟨false,tI,r.1⟩,⟨false,.bool,r.2⟩] []:=
 UA true Tryz.func21 rfl fun cx hX hF lJ=>HT.g hX [] aa (HT.seq (bc hr JQ fun y1 bQ hr=>HT.g hX [oH,oH,(cl bQ)] (aQ bQ) (HT.cb hr (fun pZ hr=>HT.g hX [] aa (by (cases hr;exact (HT.ret (aD (bN aa)))))) fun pZ hr=>HT.skip (af (HT.ex ⟨[(2,pV 0 0),(3,pV 1 0),(11,bV (!y1))],[(1,.box [nC a1]),(0,.box [iC a0.1,iC a0.2.1,.aB (.sl (.st (.pair tI (.pair tI (.pair tI tI))))) a0.2.2])],2⟩ hX (by (refine HT.seq (HT.rg (RG.SD false tI 1248 (0:Int) hX rfl rfl rfl rfl rfl rfl (by kernel_rfl) (len:=12) (E:=114) (by kernel_rfl) (sz:=104) (by kernel_rfl) (by kernel_rfl) rfl rfl (by kernel_rfl) (RG.pF [2,3,6] [oH,oH] ⟨[(2,pV 0 0),(3,pV 1 0),(6,pV 3 0)],[(3,.box [.bT 2 0 1 0]),(3,.box [.cV]),(2,.seq tI (List.replicate 1248 (0:Int))),(1,.box [nC a1]),(0,.box [iC a0.1,iC a0.2.1,.aB (.sl (.st (.pair tI (.pair tI (.pair tI tI))))) a0.2.2])],4⟩ hX.P hX.N (by kernel_rfl) aa ?_)));exact (HT.g hX [] aa (HT.seq (bo hr fun w7 kY hr=>HT.ex ⟨[(2,pV 0 0),(3,pV 1 0),(6,pV 3 0),(7,pV 4 0)],[(4,.box [bC true]),(3,.box [.bT 2 0 1 0]),(2,.seq tI (List.replicate 1248 (0:Int))),(1,.box [nC a1]),(0,.box [iC a0.1,iC a0.2.1,.aB (.sl (.st (.pair tI (.pair tI (.pair tI tI))))) a0.2.2])],5⟩ hX (by (refine HT.rg (RG.cut 2 [oH,oH] ⟨[(15,iV (ae a1)),(14,nV a1),(2,pV 0 0),(3,pV 1 0),(6,pV 3 0),(7,pV 4 0)],[(4,.box [bC true]),(3,.box [.bT 2 0 1 0]),(2,.seq tI (List.replicate 1248 (0:Int))),(1,.box [nC a1]),(0,.box [iC a0.1,iC a0.2.1,.aB (.sl (.st (.pair tI (.pair tI (.pair tI tI))))) a0.2.2])],5⟩ hX.P hX.N (by kernel_rfl) aa (RG.Ap [0,3,1,4] hX rfl rfl rfl (by kernel_rfl) rfl (RG.cut 0 [] ⟨[(16,.one (.cls 58 [0,3,1,4])),(15,iV (ae a1)),(14,nV a1),(2,pV 0 0),(3,pV 1 0),(6,pV 3 0),(7,pV 4 0)],[(4,.box [bC true]),(3,.box [.bT 2 0 1 0]),(2,.seq tI (List.replicate 1248 (0:Int))),(1,.box [nC a1]),(0,.box [iC a0.1,iC a0.2.1,.aB (.sl (.st (.pair tI (.pair tI (.pair tI tI))))) a0.2.2])],5⟩ hX.P hX.N (by kernel_rfl) aa (((Le.gc (ks:=[3,6,7,15,16]) (ms:=[4,3,2,1,0]) (st':=⟨[(3,pV 1 0),(6,pV 3 0),(7,pV 4 0),(15,iV (ae a1)),(16,.one (.cls 58 [0,3,1,4]))],[(4,.box [bC true]),(3,.box [.bT 2 0 1 0]),(2,.seq tI (List.replicate 1248 (0:Int))),(1,.box [nC a1]),(0,.box [iC a0.1,iC a0.2.1,.aB (.sl (.st (.pair tI (.pair tI (.pair tI tI))))) a0.2.2])],5⟩) (cs:=[]) hX (rfl:some (⟨[(16,.one (.cls 58 [0,3,1,4])),(15,iV (ae a1)),(14,nV a1),(2,pV 0 0),(3,pV 1 0),(6,pV 3 0),(7,pV 4 0)],[(4,.box [bC true]),(3,.box [.bT 2 0 1 0]),(2,.seq tI (List.replicate 1248 (0:Int))),(1,.box [nC a1]),(0,.box [iC a0.1,iC a0.2.1,.aB (.sl (.st (.pair tI (.pair tI (.pair tI tI))))) a0.2.2])],5⟩,([]:List Prop))=_) (by kernel_rfl)).2).rg (RG.inl (ks:=[]) (ts:=[3,6,7]) (fun HG (v5:Bool×List Int)=>⟨[],[(5,.gh [.ptr 1 0,.ptr 3 0,.ptr 4 0] HG),(1,.box [nC a1]),(3,.box [.bT 2 0 1 0]),(4,.box [bC v5.1]),(2,.seq tI v5.2)],6⟩) (fun (v5:Bool×List Int)=>[.ptr 1 0,.ptr 3 0,.ptr 4 0]) (fun (v5:Bool×List Int)=>⟨[(3,pV 1 0),(6,pV 3 0),(7,pV 4 0)],[(1,.box [nC a1]),(3,.box [.bT 2 0 1 0]),(4,.box [bC v5.1]),(2,.seq tI v5.2)],6⟩) (fun v=>v=w7) 5 hX hF lJ rfl rfl rfl (by kernel_rfl) rfl (.inr ⟨rfl,rfl⟩) rfl Tryz.func57 rfl (by kernel_rfl) rfl (by kernel_rfl) rfl (by kernel_rfl) ?_ (fun _ _=>rfl) (fun HG v5=>(Le.gc (ks:=[3,6,7]) (ms:=[1,3,4,2]) (st':=⟨[(3,pV 1 0),(6,pV 3 0),(7,pV 4 0)],[(1,.box [nC a1]),(3,.box [.bT 2 0 1 0]),(4,.box [bC v5.1]),(2,.seq tI v5.2)],6⟩) (cs:=[]) hX (rfl:some (⟨[(17,.cV),(3,pV 1 0),(6,pV 3 0),(7,pV 4 0)],[(5,.gh [.ptr 1 0,.ptr 3 0,.ptr 4 0] HG),(1,.box [nC a1]),(3,.box [.bT 2 0 1 0]),(4,.box [bC v5.1]),(2,.seq tI v5.2)],6⟩,([]:List Prop))=_) (by kernel_rfl)).2) ?_)))));exact (by (intro HG cx hX hF lJ;exact (HT.g hX [] aa (HT.block (HT.lp hX kY (fun s8=>up [0,1] [(4,iV s8.1)] [5,0,3,1] [(4,.box [bC s8.2.1]),(2,.seq tI s8.2.2)] 0) (fun cR=>(.exit 0,up [] [] [5,1,3] [(4,.box [bC cR.1]),(2,.seq tI cR.2)] 0)) (fun cR kY=>(aI ⟨.inr rfl,_,(ah kY),Le.re [(5,5),(1,1),(3,3),(4,4),(2,2)] [] hX (by kernel_rfl)⟩)) fun s8 Yc jF Jn=>HT.seq (HT.g hX [] aa (HT.cb jF (fun mq jF=>HT.skip (af (HT.seq (HT.block (HT.g hX [] aa (HT.block (HT.lp hX jF (fun gj=>up [0,1,4,14] [(15,iV gj.1)] [5,0,3,1] [(4,.box [bC gj.2.1]),(2,.seq tI gj.2.2)] 0) (fun Rk=>(.exit 2,up [0,1,4] [] [5,0,3,1] [(4,.box [bC Rk.1]),(2,.seq tI Rk.2)] 0)) (fun Rk jF=>(aI (aE (af (HT.k hX [] aa fun _ h=>(aU (lN jF h))))))) fun gj Z2 su P2=>HT.g hX [] aa (HT.cj su (fun AF su=>HT.seq (HT.block (HT.g hX [] aa (bo su fun Z3 P3 su=>HT.ex ⟨[(0,iV (ae a1)),(1,.one (.cls 58 [0,3,1,4])),(4,iV s8.1),(5,iV gj.1),(14,iV (aj .i64 (a7 .i64 (ae a1) s8.1) (1:Int))),(15,iV gj.1)],[(5,.gh [.ptr 1 0,.ptr 3 0,.ptr 4 0] HG),(0,.box [iC a0.1,iC a0.2.1,.aB (.sl (.st (.pair tI (.pair tI (.pair tI tI))))) a0.2.2]),(3,.box [.bT 2 0 1 0]),(1,.box [nC a1]),(4,.box [bC gj.2.1]),(2,.seq tI gj.2.2)],6⟩ hX (by (refine HT.rg (RG.cut 5 [oH,oH,oH,oH,oH] ⟨[(22,iV (aj .i64 gj.1 s8.1)),(21,iV s8.1),(20,iV gj.1),(19,iV gj.1),(18,.one (.cls 58 [0,3,1,4])),(0,iV (ae a1)),(1,.one (.cls 58 [0,3,1,4])),(4,iV s8.1),(5,iV gj.1),(14,iV (aj .i64 (a7 .i64 (ae a1) s8.1) (1:Int))),(15,iV gj.1)],[(5,.gh [.ptr 1 0,.ptr 3 0,.ptr 4 0] HG),(0,.box [iC a0.1,iC a0.2.1,.aB (.sl (.st (.pair tI (.pair tI (.pair tI tI))))) a0.2.2]),(3,.box [.bT 2 0 1 0]),(1,.box [nC a1]),(4,.box [bC gj.2.1]),(2,.seq tI gj.2.2)],6⟩ hX.P hX.N (by kernel_rfl) aa (((Le.gc (ks:=[0,1,4,14,15,18,19,22]) (ms:=[5,0,3,1,4,2]) (st':=⟨[(0,iV (ae a1)),(1,.one (.cls 58 [0,3,1,4])),(4,iV s8.1),(14,iV (aj .i64 (a7 .i64 (ae a1) s8.1) (1:Int))),(15,iV gj.1),(18,.one (.cls 58 [0,3,1,4])),(19,iV gj.1),(22,iV (aj .i64 gj.1 s8.1))],[(5,.gh [.ptr 1 0,.ptr 3 0,.ptr 4 0] HG),(0,.box [iC a0.1,iC a0.2.1,.aB (.sl (.st (.pair tI (.pair tI (.pair tI tI))))) a0.2.2]),(3,.box [.bT 2 0 1 0]),(1,.box [nC a1]),(4,.box [bC gj.2.1]),(2,.seq tI gj.2.2)],6⟩) (cs:=[]) hX (rfl:some (⟨[(22,iV (aj .i64 gj.1 s8.1)),(21,iV s8.1),(20,iV gj.1),(19,iV gj.1),(18,.one (.cls 58 [0,3,1,4])),(0,iV (ae a1)),(1,.one (.cls 58 [0,3,1,4])),(4,iV s8.1),(5,iV gj.1),(14,iV (aj .i64 (a7 .i64 (ae a1) s8.1) (1:Int))),(15,iV gj.1)],[(5,.gh [.ptr 1 0,.ptr 3 0,.ptr 4 0] HG),(0,.box [iC a0.1,iC a0.2.1,.aB (.sl (.st (.pair tI (.pair tI (.pair tI tI))))) a0.2.2]),(3,.box [.bT 2 0 1 0]),(1,.box [nC a1]),(4,.box [bC gj.2.1]),(2,.seq tI gj.2.2)],6⟩,([]:List Prop))=_) (by kernel_rfl)).2).rg (RG.inl (ks:=[0,3,1,4]) (ts:=[0,1,4,14,15]) (fun MB (v23:Bool×List Int)=>⟨[],[(5,.gh [.ptr 1 0,.ptr 3 0,.ptr 4 0] HG),(6,.gh [iC (ae a1),.cls 58 [0,3,1,4],iC s8.1,iC (aj .i64 (a7 .i64 (ae a1) s8.1) (1:Int)),iC gj.1] MB),(1,.box [nC a1]),(3,.box [.bT 2 0 1 0]),(4,.box [bC v23.1]),(0,.box [iC a0.1,iC a0.2.1,.aB (.sl (.st (.pair tI (.pair tI (.pair tI tI))))) a0.2.2]),(2,.seq tI v23.2)],7⟩) (fun (v23:Bool×List Int)=>[iC (ae a1),.cls 58 [0,3,1,4],iC s8.1,iC (aj .i64 (a7 .i64 (ae a1) s8.1) (1:Int)),iC gj.1]) (fun (v23:Bool×List Int)=>⟨[(0,iV (ae a1)),(1,.one (.cls 58 [0,3,1,4])),(4,iV s8.1),(14,iV (aj .i64 (a7 .i64 (ae a1) s8.1) (1:Int))),(15,iV gj.1)],[(5,.gh [.ptr 1 0,.ptr 3 0,.ptr 4 0] HG),(1,.box [nC a1]),(3,.box [.bT 2 0 1 0]),(4,.box [bC v23.1]),(0,.box [iC a0.1,iC a0.2.1,.aB (.sl (.st (.pair tI (.pair tI (.pair tI tI))))) a0.2.2]),(2,.seq tI v23.2)],7⟩) (fun v=>v=Z3) 6 hX hF lJ rfl rfl rfl (by kernel_rfl) rfl (.inl rfl) rfl Tryz.func58 rfl (by kernel_rfl) rfl (by kernel_rfl) rfl (by kernel_rfl) ?_ (fun _ _=>rfl) (fun MB v23=>(Le.gc (ks:=[0,1,4,14,15]) (ms:=[5,1,3,4,0,2]) (st':=⟨[(0,iV (ae a1)),(1,.one (.cls 58 [0,3,1,4])),(4,iV s8.1),(14,iV (aj .i64 (a7 .i64 (ae a1) s8.1) (1:Int))),(15,iV gj.1)],[(5,.gh [.ptr 1 0,.ptr 3 0,.ptr 4 0] HG),(1,.box [nC a1]),(3,.box [.bT 2 0 1 0]),(4,.box [bC v23.1]),(0,.box [iC a0.1,iC a0.2.1,.aB (.sl (.st (.pair tI (.pair tI (.pair tI tI))))) a0.2.2]),(2,.seq tI v23.2)],7⟩) (cs:=[]) hX (rfl:some (⟨[(23,.cV),(0,iV (ae a1)),(1,.one (.cls 58 [0,3,1,4])),(4,iV s8.1),(14,iV (aj .i64 (a7 .i64 (ae a1) s8.1) (1:Int))),(15,iV gj.1)],[(5,.gh [.ptr 1 0,.ptr 3 0,.ptr 4 0] HG),(6,.gh [iC (ae a1),.cls 58 [0,3,1,4],iC s8.1,iC (aj .i64 (a7 .i64 (ae a1) s8.1) (1:Int)),iC gj.1] MB),(1,.box [nC a1]),(3,.box [.bT 2 0 1 0]),(4,.box [bC v23.1]),(0,.box [iC a0.1,iC a0.2.1,.aB (.sl (.st (.pair tI (.pair tI (.pair tI tI))))) a0.2.2]),(2,.seq tI v23.2)],7⟩,([]:List Prop))=_) (by kernel_rfl)).2) ?_)));exact (by (intro MB cx hX hF lJ;exact (HT.g hX [] aa (HT.block (HT.lp hX P3 (fun cG=>up [0,1,3,4,5,13,14] [(15,iV cG.1)] [5,6,3,1,0] [(4,.box [bC cG.2.1]),(2,.seq tI cG.2.2)] 0) (fun JR=>(.exit 0,up [] [] [5,6,1,3,0] [(4,.box [bC JR.1]),(2,.seq tI JR.2)] 0)) (fun JR P3=>(aI ⟨.inr rfl,_,(ah P3),Le.re [(5,5),(6,6),(1,1),(3,3),(4,4),(0,0),(2,2)] [] hX (by kernel_rfl)⟩)) fun cG ZY so PQ=>HT.g hX [] aa (HT.cj so (fun sj so=>HT.jn so (fun xc=>up [0,1,3,4,5,13,14,15] [] [5,6,3,1,0] [(4,.box [bC xc.1]),(2,.seq tI xc.2)] 0) (fun xc so=>HT.k hX [] aa fun _ h=>(aU (lN so h))) fun _ ja Cm=>HT.block (bg ja fun Mj ja=>HT.g hX [] (aQ Mj) (bg ja fun Mk ja=>bg ja fun Ml ja=>bg ja fun P4 ja=>HT.dg hX [] (oI Mk Ml P4) (HT.jn ja (fun Rj=>up [0,1,3,4,5,9,10,13,14,15] [] [5,6,3,1,4,7,0] [(2,.seq tI Rj)] 0) (fun Rj ja=>HT.seq (HT.g hX [] aa (HT.block (HT.lp hX ja (fun uz=>up [0,1,3,4,5,9,10,13,14,15] [(11,iV uz.1)] [5,6,3,1,4,7,0] [(2,.seq tI uz.2)] 0) (fun P1=>(.exit 2,up [0,1,3,4,5,10,13,14,15] [] [5,6,3,1,4,0] [(2,.seq tI P1)] 0)) (fun P1 ja=>(aI (af (bb ja (fun P5 ja=>bg ja fun WY ja=>HT.k hX [oH,kT] (dT P5 WY) fun _ h=>(aE (af (h.ht (Cm _ (ah ja)))))) fun P5 ja=>HT.k hX [oH,kF] (aQ P5) fun _ h=>(aE (af (h.ht (Cm _ (ah ja))))))))) fun uz x50 nX WZ=>HT.seq (HT.jn nX (fun UM=>up [0,1,3,4,5,9,10,11,13,14,15] [(60,bV UM)] [5,6,3,1,4,7,2,0] [] 0) (fun UM nX=>HT.cb nX (fun G5 nX=>HT.skip (af (HT.seq (HT.block (bg nX fun Mu nX=>bg nX fun Ef nX=>bg nX fun PS nX=>bg nX fun PT nX=>bg nX fun W0 nX=>bg nX fun W2 nX=>bg nX fun W4 nX=>HT.dl hX [] (lx Mu Mk Ef PS (lx PT W0 Ml W2 (dT W4 Mu))) (aE (af (HT.k hX [] aa fun _ h=>(aU (lN nX h)))))))))) fun G5 nX=>HT.xe hX (aT (aW (WZ _ (an nX))))) fun _ JW Tm=>bb JW (fun Av JW=>HT.k hX [oH,oH,oH,kT] (aQ Av) fun _ h=>(af (h.ht (Tm _ (ah JW))))) fun Av JW=>HT.k hX [oH,oH,oH,kF] (aQ Av) fun _ h=>(af (h.ht (Tm _ (ah JW))))))))) fun _ AJ Tn=>HT.jn AJ (fun UN=>up [0,1,3,4,5,9,10,13,14,15] [(45,bV UN)] [5,6,3,1,4,7,2,0] [] 0) (fun UN AJ=>HT.cb AJ (fun PU AJ=>bg AJ fun To AJ=>HT.k hX [] (dT To To) fun _ h=>(af (h.ht (Tn _ (ah AJ))))) fun PU AJ=>HT.skip (af (HT.re hX (Tn _ (ah AJ))))) fun _ xn P6=>bb xn (fun Cy xn=>bb xn (fun P7 xn=>bg xn fun W5 xn=>HT.dk hX [oH,oH,oH,kT,oH,oH,oH,oH,oH,kT] (oI Cy P7 W5) fun _ h=>(af (h.ht (P6 _ (ah xn))))) fun P7 xn=>HT.dk hX [oH,oH,oH,kT,oH,oH,oH,oH,oH,kF] (dT Cy P7) fun _ h=>(af (h.ht (P6 _ (ah xn))))) fun Cy xn=>HT.dk hX [oH,oH,oH,kF] (aQ Cy) fun _ h=>(af (h.ht (P6 _ (ah xn)))))))) fun sj so=>HT.xe hX (aT (aW (PQ _ (an so))))))))));exact (by (intro v23 W6;exact (by (subst W6;exact (aE (af (HT.k hX [] aa fun _ h=>(aU (lN su h))))))))))))))) fun AF su=>HT.xe hX (aT (aW (P2 _ (an su)))))))))))) fun mq jF=>HT.xe hX (aT (aW (Jn _ (an jF)))))))))));exact (by (intro v5 W7;exact (by (subst W7;exact (af (HT.seq (HT.g hX [] aa (HT.cb hr (fun PV hr=>HT.g hX [] aa (by (cases hr;exact (HT.ret (aD (bN aa)))))) fun PV hr=>HT.skip (af (bg hr fun P8 hr=>bg hr fun P9 hr=>bg hr fun Qa hr=>bg hr fun Qb hr=>HT.dg hX [] (oJ P8 P9 Qa Qb) (bq hr fun hr=>by (cases hr;exact (HT.ret (bN aa))))))))))))))))))))))))))
noncomputable def oK (a0:Int):Option (List Int):=
 (aY ([(-1:Int)]:List Int) a0).bind fun y1=>
 some y1
theorem FY {a0:Int}{r:List Int}(hr:oK a0=some r):CallOK Tryz.prog 105 [.bl tI a0] [⟨true,aN,r⟩] []:=
 fe Tryz.func105 rfl fun cx hX hF=>HT.g hX [] aa (bc hr FW fun y1 bQ hr=>HT.g hX [(hT tI),oH,(cl bQ)] (aQ bQ) (by (cases hr;exact (HT.ret (bN aa)))))
noncomputable def ff (a0:Int×Int×List (Int×Int×Int×Int))(s5:List Int×List Int)(ji:Int×Int×Int):Option ((Int×Int×Int)⊕((Int×Int))):=
 bif (decide (ji.2.2<(ae a0.2.2))) then
  (show Option (Int×Int) from
   ai ((0:Int)≤ji.2.2∧ji.2.2<ae a0.2.2) (
    (some ((((List.getD a0.2.2 (Int.toNat ji.2.2) ((0:Int),(0:Int),(0:Int),(0:Int))).2).2).1)).bind fun NM=>
    (some ((((List.getD a0.2.2 (Int.toNat ji.2.2) ((0:Int),(0:Int),(0:Int),(0:Int))).2).2).2)).bind fun W8=>
    (show Option (Int⊕(Int×Int)) from
     bif (decide (NM≥(0:Int))) then
      (show Option (Bool) from
       ai ((0:Int)≤((List.getD a0.2.2 (Int.toNat ji.2.2) ((0:Int),(0:Int),(0:Int),(0:Int))).2).1∧((List.getD a0.2.2 (Int.toNat ji.2.2) ((0:Int),(0:Int),(0:Int),(0:Int))).2).1<ae s5.2) (
        bif (decide ((List.getD s5.2 (Int.toNat (((List.getD a0.2.2 (Int.toNat ji.2.2) ((0:Int),(0:Int),(0:Int),(0:Int))).2).1)) (0:Int))<(0:Int))) then
         some true
        else
         ai ((0:Int)≤NM∧NM<ae s5.2) (
          some (decide ((List.getD s5.2 (Int.toNat NM) (0:Int))<(0:Int)))))).bind fun v46=>
      bif v46 then
       Ai (some (ji.1,ji.2.1))
      else
       ai ((0:Int)≤((List.getD a0.2.2 (Int.toNat ji.2.2) ((0:Int),(0:Int),(0:Int),(0:Int))).2).1∧((List.getD a0.2.2 (Int.toNat ji.2.2) ((0:Int),(0:Int),(0:Int),(0:Int))).2).1<ae s5.2) (
        ai ((0:Int)≤NM∧NM<ae s5.2) (
         some (.inl (aj .i64 W8 (aj .i64 (List.getD s5.2 (Int.toNat (((List.getD a0.2.2 (Int.toNat ji.2.2) ((0:Int),(0:Int),(0:Int),(0:Int))).2).1)) (0:Int)) (List.getD s5.2 (Int.toNat NM) (0:Int)))))))
     else
      some (.inl W8)).bind fun Z4=>match Z4 with
     | .inl HH=>
      (show Option (Bool) from
       ai ((0:Int)≤(List.getD a0.2.2 (Int.toNat ji.2.2) ((0:Int),(0:Int),(0:Int),(0:Int))).1∧(List.getD a0.2.2 (Int.toNat ji.2.2) ((0:Int),(0:Int),(0:Int),(0:Int))).1<ae s5.2) (
        bif (decide ((List.getD s5.2 (Int.toNat ((List.getD a0.2.2 (Int.toNat ji.2.2) ((0:Int),(0:Int),(0:Int),(0:Int))).1)) (0:Int))<(0:Int))) then
         some (decide (HH<ji.2.1))
        else
         some false)).bind fun Tp=>
      bif Tp then
       some (ji.2.2,HH)
      else
       some (ji.1,ji.2.1)
     | .inr z=>some z)).bind fun v23=>
  some (.inl (v23.1,v23.2,(aj .i64 ji.2.2 (1:Int))))
 else
  some (.inr (ji.1,ji.2.1))
noncomputable def jw (a0:Int×Int×List (Int×Int×Int×Int))(s5:List Int×List Int):Option ((List Int×List Int)⊕((List Int×List Int))):=
 (rounds (ff a0 s5) ((-1:Int),(1099511627776:Int),(0:Int))).bind fun uA=>
 bif (decide (uA.1<(0:Int))) then
  some (.inr (s5.1,s5.2))
 else
  ai ((0:Int)≤uA.1∧uA.1<ae a0.2.2) (
   ai ((0:Int)≤(List.getD a0.2.2 (Int.toNat uA.1) ((0:Int),(0:Int),(0:Int),(0:Int))).1∧(List.getD a0.2.2 (Int.toNat uA.1) ((0:Int),(0:Int),(0:Int),(0:Int))).1<ae s5.1) (
    ai ((0:Int)≤(List.getD a0.2.2 (Int.toNat uA.1) ((0:Int),(0:Int),(0:Int),(0:Int))).1∧(List.getD a0.2.2 (Int.toNat uA.1) ((0:Int),(0:Int),(0:Int),(0:Int))).1<ae s5.2) (
     some (.inl ((List.set s5.1 (Int.toNat ((List.getD a0.2.2 (Int.toNat uA.1) ((0:Int),(0:Int),(0:Int),(0:Int))).1)) uA.1),(List.set s5.2 (Int.toNat ((List.getD a0.2.2 (Int.toNat uA.1) ((0:Int),(0:Int),(0:Int),(0:Int))).1)) uA.2))))))
noncomputable def ew (a0:Int×Int×List (Int×Int×Int×Int)):Option (List Int×List Int):=
 (oK a0.1).bind fun y1=>
 (oK a0.1).bind fun y3=>
 (rounds (jw a0) (y1,y3)).bind fun r7=>
 some (r7.1,r7.2)
theorem Qc {a0:Int×Int×List (Int×Int×Int×Int)}{r:List Int×List Int}(hr:ew a0=some r):CallOK Tryz.prog 59 [.bl (.st (.pair tI (.pair tI (.sl (.st (.pair tI (.pair tI (.pair tI tI)))))))) a0] [⟨true,aN,r.1⟩,⟨true,aN,r.2⟩] []:=
 fe Tryz.func59 rfl fun cx hX hF=>HT.g hX [] aa (bc hr FY fun y1 bQ hr=>bc hr FY fun y3 qj hr=>HT.dg hX [oH,oH,(cl bQ),oH,oH,(cl qj)] (dT bQ qj) (HT.block (HT.lp hX hr (fun s5=>up [1,4,5] [] [0] [(1,.seq tI s5.1),(2,.seq tI s5.2)] 0) (fun r7=>(.ret,up [] [(2,aV 1),(3,aV 2)] [] [(1,.seq tI r7.1),(2,.seq tI r7.2)] 0)) (fun r7 hr=>by (cases hr;exact (br (bN aa)))) fun s5 x8 pJ Es=>HT.block (HT.g hX [] aa (HT.seq (HT.g hX [] aa (HT.block (HT.lp hX pJ (fun ji=>up [1,4,5,19,20] [(6,iV ji.1),(7,iV ji.2.1),(21,iV ji.2.2)] [0,1,2] [] 0) (fun uA=>(.exit 2,up [1,4,5] [(6,iV uA.1),(7,iV uA.2)] [0,1,2] [] 0)) (fun uA pJ=>(aI (af (HT.seq (HT.g hX [] aa (HT.cb pJ (fun mq pJ=>HT.g hX [] aa (HT.xr hX (aD (br (jE (Es _ (an pJ))))))) fun mq pJ=>HT.skip (af (bg pJ fun pI pJ=>HT.g hX [] (aQ pI) (bg pJ fun yD pJ=>bg pJ fun AD pJ=>HT.k hX [] (oJ yD (bd yD) AD (bd AD)) fun _ h=>(aE (aU (lN pJ h)))))))))))) fun ji Z2 su P2=>HT.g hX [] aa (HT.cj su (fun AF su=>HT.jn su (fun v23=>up [1,4,5,19,20,21] [(6,iV v23.1),(7,iV v23.2)] [0,1,2] [] 0) (fun v23 su=>HT.k hX [] aa fun _ h=>(aU (lN su h))) fun _ qo Qd=>HT.block (bg qo fun vr qo=>HT.g hX [] (aQ vr) (bq qo fun qo=>bq qo fun qo=>HT.g hX [] aa (HT.jo qo (fun _=>rfl) (fun HH=>up [1,4,5,6,7,8,9,19,20,21] [(10,iV HH)] [0,1,2,3] [] 0) (fun HH qo=>HT.jn qo (fun Tp=>up [1,4,5,6,7,8,10,19,20,21] [(68,bV Tp)] [0,1,2] [] 0) (fun Tp qo=>HT.cb qo (fun xk qo=>HT.k hX [] aa fun _ h=>(aE (af (h.ht (Qd _ (ah qo)))))) fun xk qo=>HT.skip (aE (af (HT.re hX (Qd _ (ah qo)))))) fun _ Ey Tq=>bg Ey fun MC Ey=>bb Ey (fun uw Ey=>HT.k hX (nO 6 [kT]) (oI MC (bd MC) uw) fun _ h=>(af (h.ht (Tq _ (ah Ey))))) fun uw Ey=>HT.k hX (nO 6 [kF]) (oI MC (bd MC) uw) fun _ h=>(af (h.ht (Tq _ (ah Ey))))) fun _ sw W9 Tr=>HT.g hX [] aa (HT.cb sw (fun G0 sw=>HT.seq (HT.jn sw (fun v46=>up [1,4,5,6,7,8,9,10,19,20,21] [(44,bV v46)] [0,1,2,3] [] 0) (fun v46 sw=>HT.cb sw (fun Eu sw=>have qo:=W9 sw;HT.exit (aT (aT (aI (af (HT.re hX (Qd _ (ah qo)))))))) fun Eu sw=>HT.skip (af (bg sw fun Tt sw=>bg sw fun AH sw=>HT.dk hX [] (oJ Tt (bd Tt) AH (bd AH)) fun _ h=>(af (h.ht (Tr _ (an sw))))))) fun _ pz JS=>bg pz fun AI pz=>bb pz (fun Qe pz=>HT.k hX (nO 6 [kT]) (oI AI (bd AI) Qe) fun _ h=>(af (h.ht (JS _ (ah pz))))) fun Qe pz=>bg pz fun Mt pz=>HT.k hX (nO 6 [kF]) (lx AI (bd AI) Qe Mt (aQ (bd Mt))) fun _ h=>(af (h.ht (JS _ (ah pz)))))) fun G0 sw=>HT.skip (af (HT.re hX (Tr _ (an sw))))))))) fun AF su=>HT.xe hX (aT (aW (P2 _ (an su)))))))))))))
noncomputable def eh (a0:Int×Int×Int×Int)(a1:List Int):Option (Bool):=
 (show Option (Bool) from
  bif (decide (a0.2.2.1<(0:Int))) then
   some true
  else
   ai ((0:Int)≤a0.2.1∧a0.2.1<ae a1) (
    bif (decide ((List.getD a1 (Int.toNat a0.2.1) (0:Int))≥(0:Int))) then
     ai ((0:Int)≤a0.2.2.1∧a0.2.2.1<ae a1) (
      some (decide ((List.getD a1 (Int.toNat a0.2.2.1) (0:Int))≥(0:Int))))
    else
     some false)).bind fun v2=>
 some v2
theorem JX {a0:Int×Int×Int×Int}{a1:List Int}{r:Bool}(hr:eh a0 a1=some r):CallOK Tryz.prog 60 [.bl (.st (.pair tI (.pair tI (.pair tI tI)))) a0,.gW aN a1] [⟨false,.bool,r⟩] []:=
 fe Tryz.func60 rfl fun cx hX hF=>HT.g hX [] aa (HT.jn hr (fun v2=>up [] [(3,bV v2)] [] [] 0) (fun v2 hr=>by (cases hr;exact (HT.ret (bN aa)))) fun _ ay ez=>bb ay (fun nj ay=>HT.k hX [oH,oH,oH,kT] (aQ nj) fun _ h=>(af (h.ht (ez _ (ah ay))))) fun nj ay=>bg ay fun Er ay=>bb ay (fun lQ ay=>bg ay fun Ck ay=>HT.k hX [oH,oH,oH,kF,oH,oH,oH,oH,oH,oH,kT] (oJ nj Er lQ Ck) fun _ h=>(af (h.ht (ez _ (ah ay))))) fun lQ ay=>HT.k hX [oH,oH,oH,kF,oH,oH,oH,oH,oH,oH,kF] (oI nj Er lQ) fun _ h=>(af (h.ht (ez _ (ah ay)))))
noncomputable def jd (a0:Int×Int×List (Int×Int×Int×Int))(y4:List Int×List Int)(cR:List Bool)(ji:Int×List Int):Option ((Int×List Int)⊕(List Int)):=
 bif (decide (ji.1<(ae a0.2.2))) then
  (show Option (List Int) from
   ai ((0:Int)≤ji.1∧ji.1<ae a0.2.2) (
    (show Option (Bool) from
     ai ((0:Int)≤(List.getD a0.2.2 (Int.toNat ji.1) ((0:Int),(0:Int),(0:Int),(0:Int))).1∧(List.getD a0.2.2 (Int.toNat ji.1) ((0:Int),(0:Int),(0:Int),(0:Int))).1<ae cR) (
      bif (List.getD cR (Int.toNat ((List.getD a0.2.2 (Int.toNat ji.1) ((0:Int),(0:Int),(0:Int),(0:Int))).1)) false) then
       (eh ((List.getD a0.2.2 (Int.toNat ji.1) ((0:Int),(0:Int),(0:Int),(0:Int))).1,((List.getD a0.2.2 (Int.toNat ji.1) ((0:Int),(0:Int),(0:Int),(0:Int))).2).1,(((List.getD a0.2.2 (Int.toNat ji.1) ((0:Int),(0:Int),(0:Int),(0:Int))).2).2).1,(((List.getD a0.2.2 (Int.toNat ji.1) ((0:Int),(0:Int),(0:Int),(0:Int))).2).2).2) y4.2).bind fun GY=>
       some GY
      else
       some false)).bind fun v24=>
    bif v24 then
     ai (List.length ji.2+List.length ([ji.1]:List Int)≤av) (
      some (ji.2++([ji.1]:List Int)))
    else
     some ji.2)).bind fun MD=>
  some (.inl ((aj .i64 ji.1 (1:Int)),MD))
 else
  some (.inr ji.2)
noncomputable def je (a0:Int×Int×List (Int×Int×Int×Int))(y4:List Int×List Int)(oi:Int×List Bool):Option ((Int×List Bool)⊕(List Bool)):=
 bif (decide (oi.1<(ae a0.2.2))) then
  (show Option (List Bool) from
   ai ((0:Int)≤oi.1∧oi.1<ae a0.2.2) (
    (show Option (Bool) from
     ai ((0:Int)≤(List.getD a0.2.2 (Int.toNat oi.1) ((0:Int),(0:Int),(0:Int),(0:Int))).1∧(List.getD a0.2.2 (Int.toNat oi.1) ((0:Int),(0:Int),(0:Int),(0:Int))).1<ae oi.2) (
      bif (List.getD oi.2 (Int.toNat ((List.getD a0.2.2 (Int.toNat oi.1) ((0:Int),(0:Int),(0:Int),(0:Int))).1)) false) then
       bif (decide ((((List.getD a0.2.2 (Int.toNat oi.1) ((0:Int),(0:Int),(0:Int),(0:Int))).2).2).1≥(0:Int))) then
        (eh ((List.getD a0.2.2 (Int.toNat oi.1) ((0:Int),(0:Int),(0:Int),(0:Int))).1,((List.getD a0.2.2 (Int.toNat oi.1) ((0:Int),(0:Int),(0:Int),(0:Int))).2).1,(((List.getD a0.2.2 (Int.toNat oi.1) ((0:Int),(0:Int),(0:Int),(0:Int))).2).2).1,(((List.getD a0.2.2 (Int.toNat oi.1) ((0:Int),(0:Int),(0:Int),(0:Int))).2).2).2) y4.2).bind fun Lb=>
        some Lb
       else
        some false
      else
       some false)).bind fun FX=>
    bif FX then
     ai ((0:Int)≤((List.getD a0.2.2 (Int.toNat oi.1) ((0:Int),(0:Int),(0:Int),(0:Int))).2).1∧((List.getD a0.2.2 (Int.toNat oi.1) ((0:Int),(0:Int),(0:Int),(0:Int))).2).1<ae oi.2) (
      ai ((0:Int)≤(((List.getD a0.2.2 (Int.toNat oi.1) ((0:Int),(0:Int),(0:Int),(0:Int))).2).2).1∧(((List.getD a0.2.2 (Int.toNat oi.1) ((0:Int),(0:Int),(0:Int),(0:Int))).2).2).1<ae (List.set oi.2 (Int.toNat (((List.getD a0.2.2 (Int.toNat oi.1) ((0:Int),(0:Int),(0:Int),(0:Int))).2).1)) true)) (
       some (List.set (List.set oi.2 (Int.toNat (((List.getD a0.2.2 (Int.toNat oi.1) ((0:Int),(0:Int),(0:Int),(0:Int))).2).1)) true) (Int.toNat ((((List.getD a0.2.2 (Int.toNat oi.1) ((0:Int),(0:Int),(0:Int),(0:Int))).2).2).1)) true)))
    else
     some oi.2)).bind fun Mi=>
  some (.inl ((aj .i64 oi.1 (1:Int)),Mi))
 else
  some (.inr oi.2)
noncomputable def jf (a0:Int×Int×List (Int×Int×Int×Int))(y4:List Int×List Int)(s8:Int×List Bool):Option ((Int×List Bool)⊕(List Bool)):=
 bif (decide (s8.1<a0.1)) then
  (rounds (je a0 y4) ((0:Int),s8.2)).bind fun ME=>
  some (.inl ((aj .i64 s8.1 (1:Int)),ME))
 else
  some (.inr s8.2)
noncomputable def dd (a0:Int×Int×List (Int×Int×Int×Int)):Option (List Int×Bool):=
 (bX (a0.1,a0.2.1,a0.2.2)).bind fun y1=>
 bif (!y1) then
  some (([]:List Int),false)
 else
  (ew (a0.1,a0.2.1,a0.2.2)).bind fun y4=>
  ai ((0:Int)≤a0.1∧a0.1≤4294967296) (
   ai ((0:Int)≤(0:Int)∧(0:Int)<ae (List.replicate (Int.toNat a0.1) false)) (
    (rounds (jf a0 y4) ((0:Int),(List.set (List.replicate (Int.toNat a0.1) false) (Int.toNat (0:Int)) true))).bind fun cR=>
    (rounds (jd a0 y4 cR) ((0:Int),([]:List Int))).bind fun uA=>
    some (uA,true)))
theorem JY {a0:Int×Int×List (Int×Int×Int×Int)}{r:List Int×Bool}(hr:dd a0=some r):CallOK Tryz.prog 22 [.bl (.st (.pair tI (.pair tI (.sl (.st (.pair tI (.pair tI (.pair tI tI)))))))) a0] [⟨true,aN,r.1⟩,⟨false,.bool,r.2⟩] []:=
 fe Tryz.func22 rfl fun cx hX hF=>HT.g hX [] aa (HT.seq (bc hr xj fun y1 bQ hr=>HT.g hX [oH,(cl bQ)] (aQ bQ) (HT.cb hr (fun pZ hr=>HT.g hX [] aa (by (cases hr;exact (HT.ret (aD (bN aa)))))) fun pZ hr=>HT.skip (af (bc hr Qc fun y4 uZ hr=>HT.g hX [oH,(cl (CallOK.xQ [false,true] rfl uZ))] (aQ (CallOK.xQ [false,true] rfl uZ)) (by (refine (Le.rz [(0,0)] [] (st':=⟨[(1,pV 0 0),(5,.one (.ip aN y4.2 0))],[(0,.box [iC a0.1,iC a0.2.1,.aB (.sl (.st (.pair tI (.pair tI (.pair tI tI))))) a0.2.2])],3⟩) hX hF (by kernel_rfl)).ht ?_;exact (HT.g hX [] aa (bg hr fun Er hr=>HT.g hX [oH,oH,(hT .bool)] (aQ (Rd Er)) (bg hr fun Dc hr=>HT.g hX [] (dT Dc (bd Dc)) (HT.seq (HT.g hX [] aa (HT.block (HT.lp hX hr (fun s8=>up [1,6,7,28] [(29,iV s8.1)] [0] [(3,.seq .bool s8.2)] 0) (fun cR=>(.exit 0,up [1,6,7] [] [0] [(3,.seq .bool cR)] 0)) (fun cR hr=>(aI (af (HT.g hX [] aa (HT.seq (HT.g hX [] aa (HT.block (HT.lp hX hr (fun ji=>up [6,7,65,66] [(10,aV 7),(67,iV ji.1)] [3] [(7,.seq tI ji.2)] 4) (fun uA=>(.exit 4,up [] [(10,aV 7)] [] [(7,.seq tI uA)] 4)) (fun uA hr=>(aI (af (HT.g hX [] aa (by (cases hr;exact (HT.ret (bN aa)))))))) fun ji WD gg Ei=>HT.g hX [] aa (HT.cj gg (fun uq gg=>HT.jn gg (fun MD=>up [6,7,65,66,67] [(10,aV 10)] [3] [(10,.seq tI MD)] 3) (fun MD gg=>HT.k hX [] aa fun _ h=>(aU (lN gg h))) fun _ k9 JZ=>HT.block (bg k9 fun qf k9=>HT.g hX [] (aQ qf) (HT.jn k9 (fun v24=>up [6,7,10,11,65,66,67] [(81,bV v24)] [3,7] [] 0) (fun v24 k9=>HT.cb k9 (fun Pd k9=>bg k9 fun Cv k9=>HT.k hX [oH,oH,(hT tI),(hT tI)] (aQ Cv) fun _ h=>(aE (af (h.ht (JZ _ (ah k9)))))) fun Pd k9=>HT.skip (aE (af (HT.re hX (JZ _ (ah k9)))))) fun _ kX Cl=>bg kX fun G3 kX=>bb kX (fun nS kX=>bc kX JX fun GY qg kX=>HT.k hX (nO 5 [kT,oH,oH,(cl qg)]) (oJ G3 (bd G3) nS qg) fun _ h=>(af (h.ht (Cl _ (ah kX))))) fun nS kX=>HT.k hX (nO 5 [kF]) (oI G3 (bd G3) nS) fun _ h=>(af (h.ht (Cl _ (ah kX))))))) fun uq gg=>HT.xe hX (aT (aW (Ei _ (an gg))))))))))))) fun s8 x33 Ez Xa=>HT.g hX [] aa (HT.cj Ez (fun Cs Ez=>HT.seq (HT.block (HT.g hX [] aa (HT.block (HT.lp hX Ez (fun oi=>up [1,6,7,28,29,32,33] [(34,iV oi.1)] [0] [(3,.seq .bool oi.2)] 0) (fun ME=>(.exit 2,up [1,6,7,28,29] [] [0] [(3,.seq .bool ME)] 0)) (fun ME Ez=>(aI (aE (af (HT.k hX [] aa fun _ h=>(aU (lN Ez h))))))) fun oi Yl lU JH=>HT.g hX [] aa (HT.cj lU (fun uw lU=>HT.jn lU (fun Mi=>up [1,6,7,28,29,32,33,34] [] [0] [(3,.seq .bool Mi)] 0) (fun Mi lU=>HT.k hX [] aa fun _ h=>(aU (lN lU h))) fun _ mX JI=>HT.block (bg mX fun PB mX=>HT.g hX [] (aQ PB) (HT.jn mX (fun FX=>up [1,6,7,9,28,29,32,33,34] [(52,bV FX)] [0,3,4] [] 0) (fun FX mX=>HT.cb mX (fun PR mX=>bg mX fun AH mX=>bg mX fun AI mX=>HT.dk hX [] (oJ AH (bd AH) AI (bd AI)) fun _ h=>(aE (af (h.ht (JI _ (ah mX)))))) fun PR mX=>HT.skip (aE (af (HT.re hX (JI _ (ah mX)))))) fun _ py G4=>bg py fun Cw py=>bb py (fun G5 py=>bb py (fun Qf py=>bc py JX fun Lb J0 py=>HT.k hX (nO 5 [kT,oH,oH,oH,oH,kT,oH,oH,(cl J0)]) (lx Cw (bd Cw) G5 Qf (aQ J0)) fun _ h=>(af (h.ht (G4 _ (ah py))))) fun Qf py=>HT.k hX (nO 5 [kT,oH,oH,oH,oH,kF]) (oJ Cw (bd Cw) G5 Qf) fun _ h=>(af (h.ht (G4 _ (ah py))))) fun G5 py=>HT.k hX (nO 5 [kF]) (oI Cw (bd Cw) G5) fun _ h=>(af (h.ht (G4 _ (ah py))))))) fun uw lU=>HT.xe hX (aT (aW (JH _ (an lU)))))))))) fun Cs Ez=>HT.xe hX (aT (aW (Xa _ (an Ez)))))))))))))))))))
noncomputable def iQ (a0:List Int)(a1:Bool):Option (List UInt8×Bool):=
 bif (!a1) then
  some (([]:List UInt8),false)
 else
  (cw a0).bind fun y2=>
  some (y2.1,y2.2)
theorem MF {a0:List Int}{a1:Bool}{r:List UInt8×Bool}(hr:iQ a0 a1=some r):CallOK Tryz.prog 165 [.bl aN a0,.bl .bool a1] [⟨false,.str,r.1⟩,⟨false,.bool,r.2⟩] []:=
 fe Tryz.func165 rfl fun cx hX hF=>HT.g hX [] aa (HT.seq (HT.g hX [] aa (HT.cb hr (fun tR hr=>HT.g hX [] aa (by (cases hr;exact (HT.ret (aD (bN aa)))))) fun tR hr=>HT.skip (af (bc hr xh fun y2 FQ hr=>HT.g hX [oH,(cl FQ)] (aQ FQ) (by (cases hr;exact (HT.ret (bN aa)))))))))
noncomputable def aJ (a0:(Int×Int×List (Int×Int×Int×Int)×List Int×List Int)×(Int×Int×List Int×List Bool)×(Int×Int×List (Int×Int×Int×Int))×List Int)(a1:List UInt8):Option (List UInt8×Bool×Bool×((Int×Int×List (Int×Int×Int×Int)×List Int×List Int)×(Int×Int×List Int×List Bool)×(Int×Int×List (Int×Int×Int×Int))×List Int)):=
 (show Option ((List UInt8×Bool)⊕(List UInt8×Bool×Bool×((Int×Int×List (Int×Int×Int×Int)×List Int×List Int)×(Int×Int×List Int×List Bool)×(Int×Int×List (Int×Int×Int×Int))×List Int))) from
  bif (a1==([109,97,99,104,105,110,101]:List UInt8)) then
   (fD (a0.1.1,a0.1.2.1,a0.1.2.2.1,a0.1.2.2.2.1,a0.1.2.2.2.2)).bind fun y8=>
   some (.inl (y8.1,y8.2))
  else
   bif (a1==([112,108,97,105,110]:List UInt8)) then
    (iq (a0.2.1.1,a0.2.1.2.1,a0.2.1.2.2.1,a0.2.1.2.2.2)).bind fun fQ=>
    some (.inl (fQ.1,fQ.2))
   else
    bif (a1==([103,114,97,109,109,97,114]:List UInt8)) then
     (fE (a0.2.2.1.1,a0.2.2.1.2.1,a0.2.2.1.2.2)).bind fun om=>
     some (.inl (om.1,om.2))
    else
     bif (a1==([119,111,114,100]:List UInt8)) then
      (cw a0.2.2.2).bind fun FR=>
      some (.inl (FR.1,FR.2))
     else
      bif (a1==([99,111,115,116]:List UInt8)) then
       (iy (a0.1.1,a0.1.2.1,a0.1.2.2.1,a0.1.2.2.2.1,a0.1.2.2.2.2) a0.2.2.2).bind fun Xb=>
       (dc Xb.1 Xb.2).bind fun Xc=>
       some (.inl (Xc.1,Xc.2))
      else
       bif (a1==([98,101,115,116]:List UInt8)) then
        none
       else
        bif (a1==([114,101,97,100,115]:List UInt8)) then
         (ed (a0.2.1.1,a0.2.1.2.1,a0.2.1.2.2.1,a0.2.1.2.2.2) a0.2.2.2).bind fun HE=>
         bif HE.1 then
          some (.inl (([121,101,115]:List UInt8),HE.2))
         else
          some (.inl (([110,101,118,101,114]:List UInt8),HE.2))
        else
         bif (a1==([102,105,114,115,116]:List UInt8)) then
          none
         else
          bif (a1==([108,101,97,114,110]:List UInt8)) then
           none
          else
           bif (a1==([112,97,114,115,101]:List UInt8)) then
            (ef (a0.2.2.1.1,a0.2.2.1.2.1,a0.2.2.1.2.2) a0.2.2.2).bind fun Xd=>
            (dc Xd.1 Xd.2).bind fun yy=>
            some (.inl (yy.1,yy.2))
           else
            bif (a1==([116,114,101,101,115]:List UInt8)) then
             (dD (a0.2.2.1.1,a0.2.2.1.2.1,a0.2.2.1.2.2) a0.2.2.2).bind fun Rf=>
             (dc Rf.1 Rf.2).bind fun Rh=>
             some (.inl (Rh.1,Rh.2))
            else
             bif (a1==([99,104,101,97,112]:List UInt8)) then
              none
             else
              bif (a1==([117,115,101,102,117,108]:List UInt8)) then
               (dd (a0.2.2.1.1,a0.2.2.1.2.1,a0.2.2.1.2.2)).bind fun Qg=>
               (iQ Qg.1 Qg.2).bind fun K7=>
               some (.inl (K7.1,K7.2))
              else
               Ai (some (([]:List UInt8),false,false,a0))).bind fun w5=>match w5 with
  | .inl v2=>
   some (v2.1,v2.2,true,a0)
  | .inr z=>some z
theorem MG {a0:(Int×Int×List (Int×Int×Int×Int)×List Int×List Int)×(Int×Int×List Int×List Bool)×(Int×Int×List (Int×Int×Int×Int))×List Int}{a1:List UInt8}{r:List UInt8×Bool×Bool×((Int×Int×List (Int×Int×Int×Int)×List Int×List Int)×(Int×Int×List Int×List Bool)×(Int×Int×List (Int×Int×Int×Int))×List Int)}(hr:aJ a0 a1=some r):CallOK Tryz.prog 133 [.own (.bx (.st (.pair (.st (.pair tI (.pair tI (.pair (.sl (.st (.pair tI (.pair tI (.pair tI tI))))) (.pair aN aN))))) (.pair (.st (.pair tI (.pair tI (.pair aN (.sl .bool))))) (.pair (.st (.pair tI (.pair tI (.sl (.st (.pair tI (.pair tI (.pair tI tI)))))))) aN))))) [a0],.bl .str a1] [⟨false,.str,r.1⟩,⟨false,.bool,r.2.1⟩,⟨false,.bool,r.2.2.1⟩] [⟨(.bx (.st (.pair (.st (.pair tI (.pair tI (.pair (.sl (.st (.pair tI (.pair tI (.pair tI tI))))) (.pair aN aN))))) (.pair (.st (.pair tI (.pair tI (.pair aN (.sl .bool))))) (.pair (.st (.pair tI (.pair tI (.sl (.st (.pair tI (.pair tI (.pair tI tI)))))))) aN))))),[r.2.2.2]⟩]:=
 fe Tryz.func133 rfl fun cx hX hF=>HT.g hX [] aa (HT.g hX [] aa (HT.jo hr (fun _=>rfl) (fun v2=>up [] [(7,.one (.aB .str v2.1)),(8,bV v2.2)] [0] [] 0) (fun v2 hr=>HT.g hX [] aa (by (cases hr;exact (HT.ret (bN (aQ (show List.length ([a0])=List.length [a0] from rfl))))))) fun _ ay Ri ez=>HT.g hX [] aa (HT.block (HT.g hX [] aa (HT.cb ay (fun lQ ay=>bc ay NG fun y8 oh ay=>HT.k hX (nO 4 [(cl oh)]) (dT (show 0<List.length [a0] from Nat.zero_lt_one) oh) fun _ h=>(aE (af (h.ht (ez _ (an ay)))))) fun lQ ay=>HT.g hX [] aa (HT.cb ay (fun fU ay=>bc ay NH fun fQ iM ay=>HT.k hX (nO 4 [(cl iM)]) (dT (show 0<List.length [a0] from Nat.zero_lt_one) iM) fun _ h=>(aE (af (h.ht (ez _ (an ay)))))) fun fU ay=>HT.g hX [] aa (HT.cb ay (fun mU ay=>bc ay Jx fun om tH ay=>HT.k hX (nO 4 [(cl tH)]) (dT (show 0<List.length [a0] from Nat.zero_lt_one) tH) fun _ h=>(aE (af (h.ht (ez _ (an ay)))))) fun mU ay=>HT.g hX [] aa (HT.cb ay (fun xl ay=>bc ay xh fun FR xd ay=>HT.k hX (nO 4 [(cl xd)]) (dT (show 0<List.length [a0] from Nat.zero_lt_one) xd) fun _ h=>(aE (af (h.ht (ez _ (an ay)))))) fun xl ay=>HT.g hX [] aa (HT.cb ay (fun PI ay=>bc ay JO fun Xb Tu ay=>bc ay vH fun Xc Tv ay=>HT.dk hX (nO 8 [(cl Tu),oH,oH,(cl Tv)]) (oJ (show 0<List.length [a0] from Nat.zero_lt_one) (show 0<List.length [a0] from Nat.zero_lt_one) Tu Tv) fun _ h=>(aE (af (h.ht (ez _ (an ay)))))) fun PI ay=>HT.g hX [] aa (HT.cb ay (fun Jp ay=>nn ay) fun Jp ay=>HT.g hX [] aa (HT.cb ay (fun PJ ay=>bc ay JP fun HE Cp ay=>HT.dg hX (nO 8 [(cl Cp)]) (oI (show 0<List.length [a0] from Nat.zero_lt_one) (show 0<List.length [a0] from Nat.zero_lt_one) Cp) (HT.g hX [] aa (HT.g hX [] aa (HT.cb ay (fun Ax ay=>HT.k hX [] aa fun _ h=>(aE (af (h.ht (ez _ (an ay)))))) fun Ax ay=>HT.skip (aE (af (HT.re hX (ez _ (an ay))))))))) fun PJ ay=>HT.g hX [] aa (HT.cb ay (fun Ct ay=>nn ay) fun Ct ay=>HT.g hX [] aa (HT.cb ay (fun nS ay=>nn ay) fun nS ay=>HT.g hX [] aa (HT.cb ay (fun Xe ay=>bc ay JU fun Xd Tw ay=>bc ay vH fun yy vo ay=>HT.dk hX (nO 8 [(cl Tw),oH,oH,(cl vo)]) (oJ (show 0<List.length [a0] from Nat.zero_lt_one) (show 0<List.length [a0] from Nat.zero_lt_one) Tw vo) fun _ h=>(aE (af (h.ht (ez _ (an ay)))))) fun Xe ay=>HT.g hX [] aa (HT.cb ay (fun Cs ay=>bc ay JV fun Rf El ay=>bc ay vH fun Rh Ep ay=>HT.dk hX (nO 8 [(cl El),oH,oH,(cl Ep)]) (oJ (show 0<List.length [a0] from Nat.zero_lt_one) (show 0<List.length [a0] from Nat.zero_lt_one) El Ep) fun _ h=>(aE (af (h.ht (ez _ (an ay)))))) fun Cs ay=>HT.g hX [] aa (HT.cb ay (fun xk ay=>nn ay) fun xk ay=>HT.g hX [] aa (HT.cb ay (fun AK ay=>bc ay JY fun Qg J1 ay=>bc ay MF fun K7 yz ay=>HT.k hX (nO 4 [(cl J1),oH,oH,(cl yz)]) (oI (show 0<List.length [a0] from Nat.zero_lt_one) J1 yz) fun _ h=>(aE (af (h.ht (ez _ (an ay)))))) fun AK ay=>HT.g hX [] aa (have hr:=Ri ay;by (cases hr;exact (HT.ret (br (aD (bN (aQ (show List.length ([a0])=List.length [a0] from rfl)))))))))))))))))))))))))
noncomputable def qp (a0:List UInt8):Option (List (List UInt8)):=
 bif (a0==([110,111,110,101]:List UInt8)) then
  some ([]:List (List UInt8))
 else
  (strings_Split a0 ([44]:List UInt8)).bind fun y2=>
  some y2
theorem MH {a0:List UInt8}{r:List (List UInt8)}(hr:qp a0=some r):CallOK Tryz.prog 118 [.bl .str a0] [⟨true,(.sl .str),r⟩] []:=
 fe Tryz.func118 rfl fun cx hX hF=>HT.g hX [] aa (HT.seq (HT.g hX [] aa (HT.cb hr (fun tR hr=>HT.g hX [] aa (by (cases hr;exact (HT.ret (aD (bN aa)))))) fun tR hr=>HT.skip (af (bc hr AA fun y2 FQ hr=>HT.g hX [oH,(cl FQ)] (aQ FQ) (by (cases hr;exact (HT.ret (bN aa)))))))))
end Go.Proofs
