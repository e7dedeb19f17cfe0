import Derived.Test.YtjnkhcgmgkhnaaaGreatDoorTopGenB
import Derived.Test.YtjnkhcgmgkhnaaaGreatDoorProg
set_option linter.unusedVariables false
set_option linter.unusedSimpArgs false
set_option linter.unusedSectionVars false
namespace Go.Proofs
open Go.Ide
noncomputable def ga (a0:List Int)(a1:Int)(s1:Int):Option ((Int)⊕(Unit⊕Int)):=
 bif (decide (s1<(ae a0))) then
  ai ((0:Int)≤s1∧s1<ae a0) (
   bif (a1==(List.getD a0 (Int.toNat s1) (0:Int))) then
    some (.inr (.inr s1))
   else
    some (.inl (aj .i64 s1 (1:Int))))
 else
  some (.inr (.inl ()))
noncomputable def cL (a0:List Int)(a1:Int):Option (Int):=
 (rounds (ga a0 a1) (0:Int)).bind fun r2=>match r2 with
  | .inl r3=>
   some (-1:Int)
  | .inr r4=>
   some r4
theorem PD {a0:List Int}{a1:Int}{r:Int}(hr:cL a0 a1=some r):CallOK Tryz.prog 63 [.bl aN a0,.bl tI a1] [⟨false,tI,r⟩] []:=
 fe Tryz.func63 rfl fun cx hX hF=>HT.g hX [] aa (HT.seq (HT.g hX [] aa (HT.block (HT.lp hX hr (fun s1=>up [0,1,7] [(8,iV s1)] [] [] 0) (fun r2=>match r2 with| .inl r3=>(.exit 0,up [] [] [] [] 0)| .inr r4=>(.ret,up [] [(4,iV r4)] [] [] 0)) (fun r2=>match r2 with| .inl r3=>fun hr=>(aI (af (HT.g hX [] aa (by (cases hr;exact (HT.ret (bN aa)))))))| .inr r4=>fun hr=>by (cases hr;exact (br (aD (bN aa))))) fun s1 x5 fp Cr=>HT.g hX [] aa (HT.cj fp (fun nR fp=>HT.seq (HT.block (HT.g hX [] aa (bg fp fun tB fp=>HT.g hX [] (aQ tB) (HT.cb fp (fun fU fp=>HT.g hX [] aa (HT.xr hX (br (aD (jE (Cr _ (an fp))))))) fun fU fp=>HT.skip (aE (af (HT.k hX [] aa fun _ h=>(aU (lN fp h)))))))))) fun nR fp=>HT.xe hX (aT (aW (Cr _ (an fp)))))))))
noncomputable def eY (a0:Int)(a1:List Int):Option (Int):=
 (cL a1 a0).bind fun y1=>
 some y1
theorem JK {a0:Int}{a1:List Int}{r:Int}(hr:eY a0 a1=some r):CallOK Tryz.prog 62 [.bl tI a0,.gW aN a1] [⟨false,tI,r⟩] []:=
 fe Tryz.func62 rfl fun cx hX hF=>HT.g hX [] aa (bc hr PD fun y1 bQ hr=>HT.g hX [oH,oH,(cl bQ)] (aQ bQ) (by (cases hr;exact (HT.ret (bN aa)))))
noncomputable def gQ (a0:Int)(a1:Int×Int×List Int×List Bool)(a2:List Int):Option (Bool):=
 (eY a0 a2).bind fun y1=>
 ai ((0:Int)≤y1∧y1<ae a1.2.2.2) (
  some (List.getD a1.2.2.2 (Int.toNat y1) false))
theorem PE {a0:Int}{a1:Int×Int×List Int×List Bool}{a2:List Int}{r:Bool}(hr:gQ a0 a1 a2=some r):CallOK Tryz.prog 66 [.bl tI a0,.gW (.st (.pair tI (.pair tI (.pair aN (.sl .bool))))) a1,.gW (.cl 62 aN) a2] [⟨false,.bool,r⟩] []:=
 fe Tryz.func66 rfl fun cx hX hF=>HT.g hX [] aa (bc hr JK fun y1 bQ hr=>bg hr fun ZR hr=>HT.dg hX (nO 4 [(cl bQ)]) (dT bQ ZR) (by (cases hr;exact (HT.ret (bN aa)))))
noncomputable def gR (a0:Int)(a1:Int)(a2:List Int)(a3:Int×Int×List Int×List Bool)(a4:List Int):Option (Int):=
 (eY a0 a4).bind fun y1=>
 (cH (a3.1,a3.2.1,a3.2.2.1,a3.2.2.2) y1 a1).bind fun y3=>
 ai ((0:Int)≤y3∧y3<ae a2) (
  some (List.getD a2 (Int.toNat y3) (0:Int)))
theorem PF {a0:Int}{a1:Int}{a2:List Int}{a3:Int×Int×List Int×List Bool}{a4:List Int}{r:Int}(hr:gR a0 a1 a2 a3 a4=some r):CallOK Tryz.prog 64 [.bl tI a0,.bl tI a1,.gW aN a2,.gW (.st (.pair tI (.pair tI (.pair aN (.sl .bool))))) a3,.gW (.cl 62 aN) a4] [⟨false,tI,r⟩] []:=
 fe Tryz.func64 rfl fun cx hX hF=>HT.g hX [] aa (bc hr JK fun y1 bQ hr=>bc hr AE fun y3 qj hr=>bg hr fun ZS hr=>HT.dg hX (nO 4 [(cl bQ),oH,(cl qj)]) (oI bQ qj ZS) (by (cases hr;exact (HT.ret (bN aa)))))
noncomputable def gG (a0:Int)(a2:List Int×(Int×Int×List Int×List Bool)×List Int)(s1:Int×(List (Int×Int))×List Int×List Int×List Bool)(kB:Int×(List (Int×Int))×List Int×List Int):Option ((Int×(List (Int×Int))×List Int×List Int)⊕(((List (Int×Int))×List Int×List Int))):=
 bif (decide (kB.1<a0)) then
  (gR (List.getD s1.2.2.1 (Int.toNat s1.1) (0:Int)) kB.1 a2.1 (a2.2.1.1,a2.2.1.2.1,a2.2.1.2.2.1,a2.2.1.2.2.2) a2.2.2).bind fun dv=>
  (show Option (Int×(List (Int×Int))×List Int) from
   bif (!((cn (t:=tI) (u:=tI) kB.2.1 dv).isSome)) then
    ai (cn (t:=tI) (u:=tI) kB.2.1 dv=none) (
     ai (List.length kB.2.2.1+List.length ([dv]:List Int)≤av) (
      some ((ae kB.2.2.1),(kB.2.1++[(dv,(ae kB.2.2.1))]),(kB.2.2.1++([dv]:List Int)))))
   else
    some (((cn (t:=tI) (u:=tI) kB.2.1 dv).getD (0:Int)),kB.2.1,kB.2.2.1)).bind fun v24=>
  ai (List.length kB.2.2.2+List.length ([v24.1]:List Int)≤av) (
   some (.inl ((aj .i64 kB.1 (1:Int)),v24.2.1,v24.2.2,(kB.2.2.2++([v24.1]:List Int)))))
 else
  some (.inr (kB.2.1,kB.2.2.1,kB.2.2.2))
noncomputable def gH (a0:Int)(a2:List Int×(Int×Int×List Int×List Bool)×List Int)(a3:(Int×Int×List Int×List Bool)×List Int)(s1:Int×(List (Int×Int))×List Int×List Int×List Bool):Option ((Int×(List (Int×Int))×List Int×List Int×List Bool)⊕((List Int×List Int×List Bool)⊕Unit)):=
 bif (decide (s1.1<(ae s1.2.2.1))) then
  ai ((0:Int)≤s1.1∧s1.1<ae s1.2.2.1) (
   (gQ (List.getD s1.2.2.1 (Int.toNat s1.1) (0:Int)) (a3.1.1,a3.1.2.1,a3.1.2.2.1,a3.1.2.2.2) a3.2).bind fun iW=>
   ai (List.length s1.2.2.2.2+List.length ([iW]:List Bool)≤av) (
    (rounds (gG a0 a2 s1) ((0:Int),s1.2.1,s1.2.2.1,s1.2.2.2.1)).bind fun Mm=>
    bif (decide ((ae Mm.2.1)>(64:Int))) then
     some (.inr (.inr ()))
    else
     some (.inl ((aj .i64 s1.1 (1:Int)),Mm.1,Mm.2.1,Mm.2.2,(s1.2.2.2.2++([iW]:List Bool))))))
 else
  some (.inr (.inl (s1.2.2.1,s1.2.2.2.1,s1.2.2.2.2)))
noncomputable def dZ (a0:Int)(a1:Int)(a2:List Int×(Int×Int×List Int×List Bool)×List Int)(a3:(Int×Int×List Int×List Bool)×List Int):Option ((Int×Int×List Int×List Bool)×Bool):=
 (rounds (gH a0 a2 a3) ((0:Int),(([]:List (Int×Int))++[(a1,(0:Int))]),([a1]:List Int),([]:List Int),([]:List Bool))).bind fun r2=>match r2 with
  | .inl r3=>
   some (((ae r3.1),a0,r3.2.1,r3.2.2),true)
  | .inr r4=>
   some (((0:Int),(0:Int),([]:List Int),([]:List Bool)),false)
theorem PG {a0:Int}{a1:Int}{a2:List Int×(Int×Int×List Int×List Bool)×List Int}{a3:(Int×Int×List Int×List Bool)×List Int}{r:(Int×Int×List Int×List Bool)×Bool}(hr:dZ a0 a1 a2 a3=some r):CallOK Tryz.prog 65 [.bl tI a0,.bl tI a1,.bl (.cl 64 (.pair aN (.pair (.st (.pair tI (.pair tI (.pair aN (.sl .bool))))) (.cl 62 aN)))) a2,.bl (.cl 66 (.pair (.st (.pair tI (.pair tI (.pair aN (.sl .bool))))) (.cl 62 aN))) a3] [⟨true,(.st (.pair tI (.pair tI (.pair aN (.sl .bool))))),r.1⟩,⟨false,.bool,r.2⟩] []:=
 fe Tryz.func65 rfl fun cx hX hF=>HT.g hX [] aa (HT.g hX [] aa (HT.ex ⟨[(0,iV a0),(1,iV a1),(2,.one (.aB (.cl 64 (.pair aN (.pair (.st (.pair tI (.pair tI (.pair aN (.sl .bool))))) (.cl 62 aN)))) a2)),(3,.one (.aB (.cl 66 (.pair (.st (.pair tI (.pair tI (.pair aN (.sl .bool))))) (.cl 62 aN))) a3)),(8,pV 0 0),(10,pV 1 0)],[(1,.box [iC (0:Int),iC a0,.az,.az]),(0,.box [iC (0:Int),iC (0:Int),.az,.az])],2⟩ hX (by (refine HT.seq (HT.rg (RG.makeMap tI tI hX rfl rfl rfl (by kernel_rfl) (by kernel_rfl) (RG.cut 1 [oH] ⟨[(22,iV a1),(21,.one (.kG 2)),(0,iV a0),(1,iV a1),(2,.one (.aB (.cl 64 (.pair aN (.pair (.st (.pair tI (.pair tI (.pair aN (.sl .bool))))) (.cl 62 aN)))) a2)),(3,.one (.aB (.cl 66 (.pair (.st (.pair tI (.pair tI (.pair aN (.sl .bool))))) (.cl 62 aN))) a3)),(8,pV 0 0),(10,pV 1 0)],[(2,.mp tI tI ([]:List (Int×Int))),(1,.box [iC (0:Int),iC a0,.az,.az]),(0,.box [iC (0:Int),iC (0:Int),.az,.az])],3⟩ hX.P hX.N (by kernel_rfl) aa (RG.Ed (t:=tI) (u:=tI) (x:=a1) (y:=(0:Int)) hX (.inr rfl) rfl rfl (K:=2) (E:=2) (by kernel_rfl) PC rfl rfl rfl rfl rfl rfl rfl (show cn (t:=tI) (u:=tI) ([]:List (Int×Int)) a1=none from rfl) (RG.pF [0,1,2,3,8,10,11] [oH,oH] ⟨[(0,iV a0),(1,iV a1),(2,.one (.aB (.cl 64 (.pair aN (.pair (.st (.pair tI (.pair tI (.pair aN (.sl .bool))))) (.cl 62 aN)))) a2)),(3,.one (.aB (.cl 66 (.pair (.st (.pair tI (.pair tI (.pair aN (.sl .bool))))) (.cl 62 aN))) a3)),(8,pV 0 0),(10,pV 1 0),(11,.one (.kG 2))],[(2,.mp tI tI (([]:List (Int×Int))++[(a1,(0:Int))])),(2,.mp tI tI ([]:List (Int×Int))),(1,.box [iC (0:Int),iC a0,.az,.az]),(0,.box [iC (0:Int),iC (0:Int),.az,.az])],3⟩ hX.P hX.N (by kernel_rfl) aa ?_)))));exact (HT.g hX [oH,(hT tI)] aa (HT.seq (HT.g hX [] aa (HT.block (HT.lp hX hr (fun s1=>up [0,2,3,8,10,11,12] [(13,iV s1.1)] [0] [(1,.box [iC (0:Int),iC a0,.all 11,.all 12]),(2,.mp tI tI s1.2.1),(3,.seq tI s1.2.2.1),(11,.seq tI s1.2.2.2.1),(12,.seq .bool s1.2.2.2.2)] 9) (fun r2=>match r2 with| .inl r3=>(.exit 0,up [8,10,12] [] [0] [(1,.box [iC (0:Int),iC a0,.all 11,.all 12]),(3,.seq tI r3.1),(11,.seq tI r3.2.1),(12,.seq .bool r3.2.2)] 9)| .inr r4=>(.ret,up [8] [(9,bV false)] [0] [] 0)) (fun r2=>match r2 with| .inl r3=>fun hr=>(aI (af (HT.g hX [] aa (HT.g hX [] aa (by (cases hr;exact (HT.ret (bN aa))))))))| .inr r4=>fun hr=>by (cases hr;exact (br (aD (bN aa))))) fun s1 x5 fp Cr=>HT.seq (HT.g hX [] aa (HT.cb fp (fun nR fp=>HT.skip (af (HT.seq (HT.block (bg fp fun tB fp=>HT.g hX [] (dT tB (bd tB)) (bc fp PE fun iW kA fp=>bg fp fun xf fp=>HT.dg hX (nO 4 [(cl kA),(hT .bool),(hT .bool)]) (dT kA xf) (HT.seq (HT.g hX [] aa (HT.block (HT.lp hX fp (fun kB=>up [0,2,3,8,10,11,12,13,14,44] [(45,iV kB.1)] [0,1,14] [(2,.mp tI tI kB.2.1),(3,.seq tI kB.2.2.1),(11,.seq tI kB.2.2.2)] 0) (fun Mm=>(.exit 2,up [0,2,3,8,10,11,12,13] [] [0,1,14] [(2,.mp tI tI Mm.1),(3,.seq tI Mm.2.1),(11,.seq tI Mm.2.2)] 0)) (fun Mm fp=>(aI (af (HT.g hX [] aa (HT.cb fp (fun xl fp=>HT.g hX [] aa (HT.xr hX (br (aD (jE (Cr _ (an fp))))))) fun xl fp=>HT.skip (aE (af (HT.k hX [] aa fun _ h=>(aU (lN fp h)))))))))) fun kB ZT px PH=>HT.g hX [] aa (HT.cj px (fun xi px=>HT.seq (HT.block (HT.g hX [] aa (bc px PF fun dv Ta px=>HT.g hX [oH,oH,oH,(cl Ta)] (aQ Ta) (HT.ex ⟨[(0,iV a0),(2,.one (.aB (.cl 64 (.pair aN (.pair (.st (.pair tI (.pair tI (.pair aN (.sl .bool))))) (.cl 62 aN)))) a2)),(3,.one (.aB (.cl 66 (.pair (.st (.pair tI (.pair tI (.pair aN (.sl .bool))))) (.cl 62 aN))) a3)),(8,pV 0 0),(10,pV 1 0),(11,.one (.kG 2)),(12,aV 3),(13,iV s1.1),(14,iV (List.getD s1.2.2.1 (Int.toNat s1.1) (0:Int))),(16,iV dv),(44,iV a0),(45,iV kB.1)],[(0,.box [iC (0:Int),iC (0:Int),.az,.az]),(1,.box [iC (0:Int),iC a0,.all 11,.all 14]),(2,.mp tI tI kB.2.1),(3,.seq tI kB.2.2.1),(11,.seq tI kB.2.2.2),(14,.seq .bool (s1.2.2.2.2++([iW]:List Bool)))],15⟩ hX (by (refine HT.seq (HT.rg (RG.cut 2 [oH,oH] ⟨[(54,iV dv),(53,.one (.kG 2)),(0,iV a0),(2,.one (.aB (.cl 64 (.pair aN (.pair (.st (.pair tI (.pair tI (.pair aN (.sl .bool))))) (.cl 62 aN)))) a2)),(3,.one (.aB (.cl 66 (.pair (.st (.pair tI (.pair tI (.pair aN (.sl .bool))))) (.cl 62 aN))) a3)),(8,pV 0 0),(10,pV 1 0),(11,.one (.kG 2)),(12,aV 3),(13,iV s1.1),(14,iV (List.getD s1.2.2.1 (Int.toNat s1.1) (0:Int))),(16,iV dv),(44,iV a0),(45,iV kB.1)],[(0,.box [iC (0:Int),iC (0:Int),.az,.az]),(1,.box [iC (0:Int),iC a0,.all 11,.all 14]),(2,.mp tI tI kB.2.1),(3,.seq tI kB.2.2.1),(11,.seq tI kB.2.2.2),(14,.seq .bool (s1.2.2.2.2++([iW]:List Bool)))],15⟩ hX.P hX.N (by kernel_rfl) aa (RG.I3 (t:=tI) (u:=tI) (x:=dv) (z:=Value.int .i64 0) (y0:=(0:Int)) hX rfl rfl rfl (by kernel_rfl) (K:=2) (E:=2) (by kernel_rfl) PC rfl (by kernel_rfl) rfl rfl rfl rfl rfl (RG.pF [0,2,3,8,10,11,12,13,14,16,17,18,44,45] [oH,oH,oH,oH,oH] ⟨[(0,iV a0),(2,.one (.aB (.cl 64 (.pair aN (.pair (.st (.pair tI (.pair tI (.pair aN (.sl .bool))))) (.cl 62 aN)))) a2)),(3,.one (.aB (.cl 66 (.pair (.st (.pair tI (.pair tI (.pair aN (.sl .bool))))) (.cl 62 aN))) a3)),(8,pV 0 0),(10,pV 1 0),(11,.one (.kG 2)),(12,aV 3),(13,iV s1.1),(14,iV (List.getD s1.2.2.1 (Int.toNat s1.1) (0:Int))),(16,iV dv),(17,iV ((cn (t:=tI) (u:=tI) kB.2.1 dv).getD (0:Int))),(18,bV ((cn (t:=tI) (u:=tI) kB.2.1 dv).isSome)),(44,iV a0),(45,iV kB.1)],[(0,.box [iC (0:Int),iC (0:Int),.az,.az]),(1,.box [iC (0:Int),iC a0,.all 11,.all 14]),(2,.mp tI tI kB.2.1),(3,.seq tI kB.2.2.1),(11,.seq tI kB.2.2.2),(14,.seq .bool (s1.2.2.2.2++([iW]:List Bool)))],15⟩ hX.P hX.N (by kernel_rfl) aa ?_))));exact (HT.jn px (fun v24=>up [0,2,3,8,10,11,13,14,44,45] [(12,aV 16),(17,iV v24.1)] [0,1,11,14] [(2,.mp tI tI v24.2.1),(16,.seq tI v24.2.2)] 2) (fun v24 px=>bg px fun yB px=>HT.l hX [oH,oH,oH,(hT tI),(hT tI)] (aQ yB) (aE (af (HT.k hX [] aa fun _ h=>(aU (lN px h)))))) fun _ kX Cl=>HT.g hX [] aa (HT.cb kX (fun Ax kX=>HT.g hX [] aa (bg kX fun G3 kX=>HT.ex ⟨[(0,iV a0),(2,.one (.aB (.cl 64 (.pair aN (.pair (.st (.pair tI (.pair tI (.pair aN (.sl .bool))))) (.cl 62 aN)))) a2)),(3,.one (.aB (.cl 66 (.pair (.st (.pair tI (.pair tI (.pair aN (.sl .bool))))) (.cl 62 aN))) a3)),(8,pV 0 0),(10,pV 1 0),(11,.one (.kG 2)),(12,aV 3),(13,iV s1.1),(14,iV (List.getD s1.2.2.1 (Int.toNat s1.1) (0:Int))),(16,iV dv),(17,iV (ae kB.2.2.1)),(44,iV a0),(45,iV kB.1)],[(0,.box [iC (0:Int),iC (0:Int),.az,.az]),(1,.box [iC (0:Int),iC a0,.all 11,.all 14]),(2,.mp tI tI kB.2.1),(3,.seq tI kB.2.2.1),(11,.seq tI kB.2.2.2),(14,.seq .bool (s1.2.2.2.2++([iW]:List Bool)))],15⟩ hX (by (refine HT.seq (HT.rg (RG.cut 3 [oH,oH,oH] ⟨[(64,iV (ae kB.2.2.1)),(63,iV dv),(62,.one (.kG 2)),(0,iV a0),(2,.one (.aB (.cl 64 (.pair aN (.pair (.st (.pair tI (.pair tI (.pair aN (.sl .bool))))) (.cl 62 aN)))) a2)),(3,.one (.aB (.cl 66 (.pair (.st (.pair tI (.pair tI (.pair aN (.sl .bool))))) (.cl 62 aN))) a3)),(8,pV 0 0),(10,pV 1 0),(11,.one (.kG 2)),(12,aV 3),(13,iV s1.1),(14,iV (List.getD s1.2.2.1 (Int.toNat s1.1) (0:Int))),(16,iV dv),(17,iV (ae kB.2.2.1)),(44,iV a0),(45,iV kB.1)],[(0,.box [iC (0:Int),iC (0:Int),.az,.az]),(1,.box [iC (0:Int),iC a0,.all 11,.all 14]),(2,.mp tI tI kB.2.1),(3,.seq tI kB.2.2.1),(11,.seq tI kB.2.2.2),(14,.seq .bool (s1.2.2.2.2++([iW]:List Bool)))],15⟩ hX.P hX.N (by kernel_rfl) aa (RG.Ed (t:=tI) (u:=tI) (x:=dv) (y:=(ae kB.2.2.1)) hX (.inl rfl) rfl rfl (K:=2) (E:=2) (by kernel_rfl) PC rfl rfl rfl rfl rfl rfl rfl G3 (RG.pF [0,2,3,8,10,11,12,13,14,16,17,44,45] [] ⟨[(0,iV a0),(2,.one (.aB (.cl 64 (.pair aN (.pair (.st (.pair tI (.pair tI (.pair aN (.sl .bool))))) (.cl 62 aN)))) a2)),(3,.one (.aB (.cl 66 (.pair (.st (.pair tI (.pair tI (.pair aN (.sl .bool))))) (.cl 62 aN))) a3)),(8,pV 0 0),(10,pV 1 0),(11,.one (.kG 2)),(12,aV 3),(13,iV s1.1),(14,iV (List.getD s1.2.2.1 (Int.toNat s1.1) (0:Int))),(16,iV dv),(17,iV (ae kB.2.2.1)),(44,iV a0),(45,iV kB.1)],[(2,.mp tI tI (kB.2.1++[(dv,(ae kB.2.2.1))])),(0,.box [iC (0:Int),iC (0:Int),.az,.az]),(1,.box [iC (0:Int),iC a0,.all 11,.all 14]),(2,.mp tI tI kB.2.1),(3,.seq tI kB.2.2.1),(11,.seq tI kB.2.2.2),(14,.seq .bool (s1.2.2.2.2++([iW]:List Bool)))],15⟩ hX.P hX.N (by kernel_rfl) aa ?_))));exact (bg kX fun JG kX=>HT.k hX [oH,oH,(hT tI),(hT tI)] (aQ JG) fun _ h=>(af (h.ht (Cl _ (ah kX))))))))) fun Ax kX=>HT.skip (af (HT.re hX (Cl _ (ah kX))))))))))))) fun xi px=>HT.xe hX (aT (aW (PH _ (an px))))))))))))))) fun nR fp=>HT.xe hX (aT (aW (Cr _ (an fp)))))))))))))))
noncomputable def dC (a0:Int×Int×List Int×List Bool):Option ((Int×Int×List Int×List Bool)×Bool):=
 (ca (a0.1,a0.2.1,a0.2.2.1,a0.2.2.2)).bind fun y1=>
 bif (!y1) then
  some (((0:Int),(0:Int),([]:List Int),([]:List Bool)),false)
 else
  (ki (a0.1,a0.2.1,a0.2.2.1,a0.2.2.2)).bind fun y4=>
  ai ((0:Int)≤(0:Int)∧(0:Int)<ae y4) (
   (dZ a0.2.1 (List.getD y4 (Int.toNat (0:Int)) (0:Int)) (y4,(a0.1,a0.2.1,a0.2.2.1,a0.2.2.2),y4) ((a0.1,a0.2.1,a0.2.2.1,a0.2.2.2),y4)).bind fun y7=>
   some ((y7.1.1,y7.1.2.1,y7.1.2.2.1,y7.1.2.2.2),y7.2))
theorem JL {a0:Int×Int×List Int×List Bool}{r:(Int×Int×List Int×List Bool)×Bool}(hr:dC a0=some r):CallOK Tryz.prog 23 [.bl (.st (.pair tI (.pair tI (.pair aN (.sl .bool))))) a0] [⟨true,(.st (.pair tI (.pair tI (.pair aN (.sl .bool))))),r.1⟩,⟨false,.bool,r.2⟩] []:=
 fe Tryz.func23 rfl fun cx hX hF=>HT.g hX [] aa (HT.seq (bc hr uu fun y1 bQ hr=>HT.g hX [oH,(cl bQ)] (aQ bQ) (HT.cb hr (fun pZ hr=>HT.g hX [] aa (by (cases hr;exact (HT.ret (aD (bN aa)))))) fun pZ hr=>HT.skip (af (bc hr Pz fun y4 uZ hr=>HT.g hX [oH,(cl (CallOK.xQ [true] rfl uZ))] (aQ (CallOK.xQ [true] rfl uZ)) (by (refine (Le.rz [(1,1),(0,0)] [] (st':=⟨[(1,pV 0 0),(2,pV 1 0),(4,.one (.ip aN y4 0))],[(1,.box [iC (0:Int),iC (0:Int),.az,.az]),(0,.box [iC a0.1,iC a0.2.1,nC a0.2.2.1,.aB (.sl .bool) a0.2.2.2])],3⟩) hX hF (by kernel_rfl)).ht ?_;exact (HT.g hX [⟨none,.nu⟩] aa (by (refine (Le.rz [(3,3),(1,1)] [] (st':=⟨[(1,.one (.ip (.st (.pair tI (.pair tI (.pair aN (.sl .bool))))) (a0.1,a0.2.1,a0.2.2.1,a0.2.2.2) 0)),(2,pV 1 0),(4,.one (.ip aN y4 0)),(5,pV 3 0)],[(3,.box [.aB (.cl 62 aN) y4]),(1,.box [iC (0:Int),iC (0:Int),.az,.az])],4⟩) hX hF (by kernel_rfl)).ht ?_;exact (by (refine (Le.rz [(1,1)] [] (st':=⟨[(1,.one (.ip (.st (.pair tI (.pair tI (.pair aN (.sl .bool))))) (a0.1,a0.2.1,a0.2.2.1,a0.2.2.2) 0)),(2,pV 1 0),(4,.one (.ip aN y4 0)),(5,.one (.ip (.cl 62 aN) y4 0))],[(1,.box [iC (0:Int),iC (0:Int),.az,.az])],4⟩) hX hF (by kernel_rfl)).ht ?_;exact (HT.g hX [⟨none,.nu⟩] aa (bg hr fun Er hr=>bc hr PG fun y7 tD hr=>HT.dg hX (nO 6 [⟨none,.nu⟩,(cl tD)]) (dT Er tD) (by (cases hr;exact (HT.ret (bN aa))))))))))))))))))
noncomputable def cM (a0:(Int×Int×List (Int×Int×Int×Int)×List Int×List Int)×(Int×Int×List Int×List Bool)×(Int×Int×List (Int×Int×Int×Int))×List Int)(a1:List UInt8):Option (List UInt8×Bool×Bool×((Int×Int×List (Int×Int×Int×Int)×List Int×List Int)×(Int×Int×List Int×List Bool)×(Int×Int×List (Int×Int×Int×Int))×List Int)):=
 (show Option ((Bool×((Int×Int×List (Int×Int×Int×Int)×List Int×List Int)×(Int×Int×List Int×List Bool)×(Int×Int×List (Int×Int×Int×Int))×List Int))⊕(List UInt8×Bool×Bool×((Int×Int×List (Int×Int×Int×Int)×List Int×List Int)×(Int×Int×List Int×List Bool)×(Int×Int×List (Int×Int×Int×Int))×List Int))) from
  bif (a1==([98,97,99,107]:List UInt8)) then
   (iu (a0.1.1,a0.1.2.1,a0.1.2.2.1,a0.1.2.2.2.1,a0.1.2.2.2.2)).bind fun y8=>
   some (.inl (y8.2,(y8.1.1,y8.1.2.1,y8.1.2.2.1,y8.1.2.2.2.1,y8.1.2.2.2.2),(a0.2.1.1,a0.2.1.2.1,a0.2.1.2.2.1,a0.2.1.2.2.2),(a0.2.2.1.1,a0.2.2.1.2.1,a0.2.2.1.2.2),a0.2.2.2))
  else
   bif (a1==([116,105,100,121]:List UInt8)) then
    none
   else
    bif (a1==([116,114,105,109]:List UInt8)) then
     none
    else
     bif (a1==([108,101,116,116,101,114,101,100]:List UInt8)) then
      none
     else
      bif (a1==([114,101,112,101,97,116]:List UInt8)) then
       none
      else
       bif (a1==([109,97,107,101]:List UInt8)) then
        none
       else
        bif (a1==([108,101,97,115,116]:List UInt8)) then
         (dC (a0.2.1.1,a0.2.1.2.1,a0.2.1.2.2.1,a0.2.1.2.2.2)).bind fun tF=>
         some (.inl (tF.2,(a0.1.1,a0.1.2.1,a0.1.2.2.1,a0.1.2.2.2.1,a0.1.2.2.2.2),(tF.1.1,tF.1.2.1,tF.1.2.2.1,tF.1.2.2.2),(a0.2.2.1.1,a0.2.2.1.2.1,a0.2.2.1.2.2),a0.2.2.2))
        else
         bif (a1==([111,116,104,101,114]:List UInt8)) then
          none
         else
          bif (a1==([114,117,108,101,115]:List UInt8)) then
           none
          else
           Ai (some (([]:List UInt8),false,false,a0))).bind fun w5=>match w5 with
  | .inl v2=>
   some (([111,107]:List UInt8),v2.1,true,v2.2)
  | .inr z=>some z
theorem Mn {a0:(Int×Int×List (Int×Int×Int×Int)×List Int×List Int)×(Int×Int×List Int×List Bool)×(Int×Int×List (Int×Int×Int×Int))×List Int}{a1:List UInt8}{r:List UInt8×Bool×Bool×((Int×Int×List (Int×Int×Int×Int)×List Int×List Int)×(Int×Int×List Int×List Bool)×(Int×Int×List (Int×Int×Int×Int))×List Int)}(hr:cM a0 a1=some r):CallOK Tryz.prog 132 [.own (.bx (.st (.pair (.st (.pair tI (.pair tI (.pair (.sl (.st (.pair tI (.pair tI (.pair tI tI))))) (.pair aN aN))))) (.pair (.st (.pair tI (.pair tI (.pair aN (.sl .bool))))) (.pair (.st (.pair tI (.pair tI (.sl (.st (.pair tI (.pair tI (.pair tI tI)))))))) aN))))) [a0],.bl .str a1] [⟨false,.str,r.1⟩,⟨false,.bool,r.2.1⟩,⟨false,.bool,r.2.2.1⟩] [⟨(.bx (.st (.pair (.st (.pair tI (.pair tI (.pair (.sl (.st (.pair tI (.pair tI (.pair tI tI))))) (.pair aN aN))))) (.pair (.st (.pair tI (.pair tI (.pair aN (.sl .bool))))) (.pair (.st (.pair tI (.pair tI (.sl (.st (.pair tI (.pair tI (.pair tI tI)))))))) aN))))),[r.2.2.2]⟩]:=
 fe Tryz.func132 rfl fun cx hX hF=>HT.g hX [] aa (HT.g hX [] aa (HT.jo hr (fun _=>rfl) (fun v2=>up [] [(7,bV v2.1)] [] [(0,.seq (.st (.pair (.st (.pair tI (.pair tI (.pair (.sl (.st (.pair tI (.pair tI (.pair tI tI))))) (.pair aN aN))))) (.pair (.st (.pair tI (.pair tI (.pair aN (.sl .bool))))) (.pair (.st (.pair tI (.pair tI (.sl (.st (.pair tI (.pair tI (.pair tI tI)))))))) aN)))) ([v2.2]))] 0) (fun v2 hr=>HT.g hX [] aa (by (cases hr;exact (HT.ret (bN (aQ (show List.length ([v2.2])=List.length [a0] from rfl))))))) fun _ ay Ri ez=>HT.g hX [] aa (HT.block (HT.g hX [] aa (HT.cb ay (fun lQ ay=>bc ay JD fun y8 oh ay=>HT.k hX (nO 5 [(cl (CallOK.xQ [true,false] rfl oh))]) (oI (show 0<List.length [a0] from Nat.zero_lt_one) (CallOK.xQ [true,false] rfl oh) (show 0<List.length [a0] from Nat.zero_lt_one)) fun _ h=>(aE (af (h.ht (ez _ (an ay)))))) fun lQ ay=>HT.g hX [] aa (HT.cb ay (fun fU ay=>nn ay) fun fU ay=>HT.g hX [] aa (HT.cb ay (fun nT ay=>nn ay) fun nT ay=>HT.g hX [] aa (HT.cb ay (fun iZ ay=>nn ay) fun iZ ay=>HT.g hX [] aa (HT.cb ay (fun mU ay=>nn ay) fun mU ay=>HT.g hX [] aa (HT.cb ay (fun mq ay=>nn ay) fun mq ay=>HT.g hX [] aa (HT.cb ay (fun yC ay=>bc ay JL fun tF JM ay=>HT.k hX (nO 5 [(cl (CallOK.xQ [true,false] rfl JM))]) (oI (show 0<List.length [a0] from Nat.zero_lt_one) (CallOK.xQ [true,false] rfl JM) (show 0<List.length [a0] from Nat.zero_lt_one)) fun _ h=>(aE (af (h.ht (ez _ (an ay)))))) fun yC ay=>HT.g hX [] aa (HT.cb ay (fun JF ay=>nn ay) fun JF ay=>HT.g hX [] aa (HT.cb ay (fun PI ay=>nn ay) fun PI ay=>HT.g hX [] aa (have hr:=Ri ay;by (cases hr;exact (HT.ret (br (aD (bN (aQ (show List.length ([a0])=List.length [a0] from rfl)))))))))))))))))))))
noncomputable def gy (y1:List Int)(s3:Int×List Int):Option ((Int×List Int)⊕(List Int)):=
 bif (decide (s3.1<(ae y1))) then
  (show Option (List Int) from
   ai ((0:Int)≤s3.1∧s3.1<ae s3.2) (
    bif (decide ((List.getD s3.2 (Int.toNat s3.1) (0:Int))<(0:Int))) then
     some (List.set s3.2 (Int.toNat s3.1) (1099511627776:Int))
    else
     some s3.2)).bind fun v11=>
  some (.inl ((aj .i64 s3.1 (1:Int)),v11))
 else
  some (.inr s3.2)
noncomputable def kj (a0:List Int):Option (List Int):=
 (slices_Clone a0).bind fun y1=>
 (rounds (gy y1) ((0:Int),y1)).bind fun r5=>
 some r5
theorem FU {a0:List Int}{r:List Int}(hr:kj a0=some r):CallOK Tryz.prog 102 [.bl aN a0] [⟨true,aN,r⟩] []:=
 fe Tryz.func102 rfl fun cx hX hF=>HT.g hX [] aa (bc hr sk fun y1 bQ hr=>HT.g hX [oH,(cl bQ)] (aQ bQ) (HT.seq (HT.g hX [] aa (HT.block (HT.lp hX hr (fun s3=>up [3,8,9] [(10,iV s3.1)] [] [(0,.seq tI s3.2)] 0) (fun r5=>(.exit 0,up [3] [] [] [(0,.seq tI r5)] 0)) (fun r5 hr=>(aI (af (HT.g hX [] aa (by (cases hr;exact (HT.ret (bN aa)))))))) fun s3 x6 fm Cq=>HT.g hX [] aa (HT.cj fm (fun vG fm=>HT.jn fm (fun v11=>up [3,8,9,10] [] [] [(0,.seq tI v11)] 0) (fun v11 fm=>HT.k hX [] aa fun _ h=>(aU (lN fm h))) fun _ Ev Tb=>HT.block (bg Ev fun si Ev=>HT.g hX [] (dT si (bd si)) (HT.g hX [] aa (HT.cb Ev (fun yC Ev=>HT.k hX [] (dT si (bd si)) fun _ h=>(aE (af (h.ht (Tb _ (ah Ev)))))) fun yC Ev=>HT.skip (aE (af (HT.re hX (Tb _ (ah Ev))))))))) fun vG fm=>HT.xe hX (aT (aW (Cq _ (an fm))))))))))
noncomputable def jt (a0:Int×Int×List (Int×Int×Int×Int)×List Int×List Int)(s9:Int×List Int):Option ((Int×List Int)⊕(List Int)):=
 bif (decide (s9.1<(ae a0.2.2.1))) then
  (show Option (List Int) from
   ai ((0:Int)≤s9.1∧s9.1<ae a0.2.2.1) (
    (some ((((List.getD a0.2.2.1 (Int.toNat s9.1) ((0:Int),(0:Int),(0:Int),(0:Int))).2).2).1)).bind fun UF=>
    (some ((((List.getD a0.2.2.1 (Int.toNat s9.1) ((0:Int),(0:Int),(0:Int),(0:Int))).2).2).2)).bind fun Ym=>
    bif (decide (UF<(0:Int))) then
     ai ((0:Int)≤((List.getD a0.2.2.1 (Int.toNat s9.1) ((0:Int),(0:Int),(0:Int),(0:Int))).2).1∧((List.getD a0.2.2.1 (Int.toNat s9.1) ((0:Int),(0:Int),(0:Int),(0:Int))).2).1<ae s9.2) (
      ai ((0:Int)≤(List.getD a0.2.2.1 (Int.toNat s9.1) ((0:Int),(0:Int),(0:Int),(0:Int))).1∧(List.getD a0.2.2.1 (Int.toNat s9.1) ((0:Int),(0:Int),(0:Int),(0:Int))).1<ae s9.2) (
       some (List.set s9.2 (Int.toNat (((List.getD a0.2.2.1 (Int.toNat s9.1) ((0:Int),(0:Int),(0:Int),(0:Int))).2).1)) (if (aj .i64 (List.getD s9.2 (Int.toNat ((List.getD a0.2.2.1 (Int.toNat s9.1) ((0:Int),(0:Int),(0:Int),(0:Int))).1)) (0:Int)) Ym)<(List.getD s9.2 (Int.toNat (((List.getD a0.2.2.1 (Int.toNat s9.1) ((0:Int),(0:Int),(0:Int),(0:Int))).2).1)) (0:Int)) then (aj .i64 (List.getD s9.2 (Int.toNat ((List.getD a0.2.2.1 (Int.toNat s9.1) ((0:Int),(0:Int),(0:Int),(0:Int))).1)) (0:Int)) Ym) else (List.getD s9.2 (Int.toNat (((List.getD a0.2.2.1 (Int.toNat s9.1) ((0:Int),(0:Int),(0:Int),(0:Int))).2).1)) (0:Int))))))
    else
     some s9.2)).bind fun Mo=>
  some (.inl ((aj .i64 s9.1 (1:Int)),Mo))
 else
  some (.inr s9.2)
noncomputable def ju (a0:Int×Int×List (Int×Int×Int×Int)×List Int×List Int)(a1:List Int)(s1:Int×List Int):Option ((Int×List Int)⊕(List Int)):=
 bif (decide (s1.1<(ae a1))) then
  (rounds (jt a0) ((0:Int),s1.2)).bind fun UG=>
  some (.inl ((aj .i64 s1.1 (1:Int)),UG))
 else
  some (.inr s1.2)
noncomputable def mY (a0:Int×Int×List (Int×Int×Int×Int)×List Int×List Int)(a1:List Int):Option (List Int):=
 (rounds (ju a0 a1) ((0:Int),a1)).bind fun r3=>
 ai (List.length r3=List.length a1) (
  some r3)
theorem FV {a0:Int×Int×List (Int×Int×Int×Int)×List Int×List Int}{a1:List Int}{r:List Int}(hr:mY a0 a1=some r):CallOK Tryz.prog 139 [.bl (.st (.pair tI (.pair tI (.pair (.sl (.st (.pair tI (.pair tI (.pair tI tI))))) (.pair aN aN))))) a0,.own aN a1] [] [⟨aN,r⟩]:=
 fe Tryz.func139 rfl fun cx hX hF=>HT.g hX [] aa (HT.g hX [] aa (HT.block (HT.lp hX hr (fun s1=>up [1,2,7] [(8,iV s1.1)] [1] [(0,.seq tI s1.2)] 0) (fun r3=>(.exit 0,up [] [] [] [(0,.seq tI r3)] 0)) (fun r3 hr=>bg hr fun Tc hr=>by (cases hr;exact (aI (bN (aQ Tc))))) fun s1 x5 fp Cr=>HT.g hX [] aa (HT.cj fp (fun nR fp=>HT.seq (HT.block (HT.g hX [] aa (HT.block (HT.lp hX fp (fun s9=>up [1,2,7,8,11,12] [(13,iV s9.1)] [1] [(0,.seq tI s9.2)] 0) (fun UG=>(.exit 2,up [1,2,7,8] [] [1] [(0,.seq tI UG)] 0)) (fun UG fp=>(aI (aE (af (HT.k hX [] aa fun _ h=>(aU (lN fp h))))))) fun s9 NK Ew WL=>HT.g hX [] aa (HT.cj Ew (fun yC Ew=>HT.jn Ew (fun Mo=>up [1,2,7,8,11,12,13] [] [1] [(0,.seq tI Mo)] 0) (fun Mo Ew=>HT.k hX [] aa fun _ h=>(aU (lN Ew h))) fun _ nU JN=>HT.block (bg nU fun Jl nU=>HT.g hX [] (aQ Jl) (bq nU fun nU=>bq nU fun nU=>HT.g hX [] aa (HT.cb nU (fun PJ nU=>bg nU fun vr nU=>bg nU fun yB nU=>HT.dk hX [] (lx vr (bd vr) yB (bd yB) (dT vr (bd vr))) fun _ h=>(aE (af (h.ht (JN _ (ah nU)))))) fun PJ nU=>HT.skip (aE (af (HT.re hX (JN _ (ah nU))))))))) fun yC Ew=>HT.xe hX (aT (aW (WL _ (an Ew)))))))))) fun nR fp=>HT.xe hX (aT (aW (Cr _ (an fp))))))))
noncomputable def lV (a0:Int×Int×List (Int×Int×Int×Int)×List Int×List Int):Option (List Int):=
 (kj a0.2.2.2.1).bind fun y1=>
 (mY (a0.1,a0.2.1,a0.2.2.1,a0.2.2.2.1,a0.2.2.2.2) y1).bind fun y3=>
 some y3
theorem PK {a0:Int×Int×List (Int×Int×Int×Int)×List Int×List Int}{r:List Int}(hr:lV a0=some r):CallOK Tryz.prog 99 [.bl (.st (.pair tI (.pair tI (.pair (.sl (.st (.pair tI (.pair tI (.pair tI tI))))) (.pair aN aN))))) a0] [⟨true,aN,r⟩] []:=
 fe Tryz.func99 rfl fun cx hX hF=>HT.g hX [] aa (bc hr FU fun y1 bQ hr=>HT.g hX [oH,oH,(cl bQ)] (aQ bQ) (bc hr FV fun y3 qj hr=>HT.g hX [oH,oH,(cl qj)] (aQ qj) (HT.g hX [] aa (by (cases hr;exact (HT.ret (bN aa)))))))
noncomputable def fF (a0:List Int)(a1:List Int)(s1:Int×Int):Option ((Int×Int)⊕(Int)):=
 bif (decide (s1.2<(ae a0))) then
  ai ((0:Int)≤s1.2∧s1.2<ae a0) (
   ai ((0:Int)≤s1.2∧s1.2<ae a1) (
    some (.inl ((if (aj .i64 (List.getD a0 (Int.toNat s1.2) (0:Int)) (List.getD a1 (Int.toNat s1.2) (0:Int)))<s1.1 then (aj .i64 (List.getD a0 (Int.toNat s1.2) (0:Int)) (List.getD a1 (Int.toNat s1.2) (0:Int))) else s1.1),(aj .i64 s1.2 (1:Int))))))
 else
  some (.inr s1.1)
noncomputable def nW (a0:List Int)(a1:List Int):Option (Int):=
 (rounds (fF a0 a1) ((1099511627776:Int),(0:Int))).bind fun r3=>
 bif (decide (r3≥(1099511627776:Int))) then
  some (-1:Int)
 else
  some r3
theorem Mp {a0:List Int}{a1:List Int}{r:Int}(hr:nW a0 a1=some r):CallOK Tryz.prog 101 [.bl aN a0,.bl aN a1] [⟨false,tI,r⟩] []:=
 fe Tryz.func101 rfl fun cx hX hF=>HT.g hX [] aa (HT.g hX [] aa (HT.seq (HT.g hX [] aa (HT.block (HT.lp hX hr (fun s1=>up [0,1,8] [(5,iV s1.1),(9,iV s1.2)] [] [] 0) (fun r3=>(.exit 0,up [] [(5,iV r3)] [] [] 0)) (fun r3 hr=>(aI (af (HT.seq (HT.g hX [] aa (HT.cb hr (fun ZU hr=>HT.g hX [] aa (by (cases hr;exact (HT.ret (aD (bN aa)))))) fun ZU hr=>HT.skip (af (HT.g hX [] aa (by (cases hr;exact (HT.ret (bN aa)))))))))))) fun s1 x5 fp Cr=>HT.g hX [] aa (HT.cj fp (fun nR fp=>HT.seq (HT.block (HT.g hX [] aa (bg fp fun tB fp=>bg fp fun pr fp=>HT.dl hX [] (dT tB pr) (aE (af (HT.k hX [] aa fun _ h=>(aU (lN fp h))))))))) fun nR fp=>HT.xe hX (aT (aW (Cr _ (an fp))))))))))
noncomputable def lW (a0:Int)(a1:Int):Option (Int×Int):=
 (some (IntKind.wrap .u64 (BitVec.ofInt (IntKind.bits .u64) a0&&& BitVec.ofInt (IntKind.bits .u64) (4294967295:Int)).toNat)).bind fun q1=>
 (some (IntKind.wrap .u64 (BitVec.ofInt (IntKind.bits .u64) a1&&& BitVec.ofInt (IntKind.bits .u64) (4294967295:Int)).toNat)).bind fun q3=>
 (some (aj .u64 (ij .u64 (Int.fdiv a0 (2^(min (Int.toNat (32:Int)) (IntKind.bits .u64)))) q3) (Int.fdiv (ij .u64 q1 q3) (2^(min (Int.toNat (32:Int)) (IntKind.bits .u64)))))).bind fun q5=>
 (some (IntKind.wrap .u64 (BitVec.ofInt (IntKind.bits .u64) q5&&& BitVec.ofInt (IntKind.bits .u64) (4294967295:Int)).toNat)).bind fun q7=>
 (some (aj .u64 q7 (ij .u64 q1 (Int.fdiv a1 (2^(min (Int.toNat (32:Int)) (IntKind.bits .u64))))))).bind fun q9=>
 (some (aj .u64 (aj .u64 (ij .u64 (Int.fdiv a0 (2^(min (Int.toNat (32:Int)) (IntKind.bits .u64)))) (Int.fdiv a1 (2^(min (Int.toNat (32:Int)) (IntKind.bits .u64))))) (Int.fdiv q5 (2^(min (Int.toNat (32:Int)) (IntKind.bits .u64))))) (Int.fdiv q9 (2^(min (Int.toNat (32:Int)) (IntKind.bits .u64)))))).bind fun WM=>
 some (WM,(ij .u64 a0 a1))
theorem Mq {a0:Int}{a1:Int}{r:Int×Int}(hr:lW a0 a1=some r):CallOK Tryz.prog 205 [.bl (.int .u64) a0,.bl (.int .u64) a1] [⟨false,(.int .u64),r.1⟩,⟨false,(.int .u64),r.2⟩] []:=
 fe Tryz.func205 rfl fun cx hX hF=>HT.g hX [] aa (HT.g hX [] aa (bq hr fun hr=>HT.g hX [] (aQ (show (0:Int)≤(32:Int) from by decide)) (HT.g hX [] aa (bq hr fun hr=>HT.g hX [] (aQ (show (0:Int)≤(32:Int) from by decide)) (HT.g hX [] aa (HT.g hX [] (aQ (show (0:Int)≤(32:Int) from by decide)) (bq hr fun hr=>HT.g hX [] aa (bq hr fun hr=>HT.g hX [] (aQ (show (0:Int)≤(32:Int) from by decide)) (HT.g hX [] aa (bq hr fun hr=>HT.g hX [] (aQ (show (0:Int)≤(32:Int) from by decide)) (bq hr fun hr=>HT.g hX [] aa (by (cases hr;exact (HT.ret (bN aa)))))))))))))))
noncomputable def jv (a0:Int)(a1:Int):Option (Int×Int):=
 (lW a0 a1).bind fun y1=>
 some (y1.1,y1.2)
theorem Mr {a0:Int}{a1:Int}{r:Int×Int}(hr:jv a0 a1=some r):CallOK Tryz.prog 173 [.bl (.int .u64) a0,.bl (.int .u64) a1] [⟨false,(.int .u64),r.1⟩,⟨false,(.int .u64),r.2⟩] []:=
 fe Tryz.func173 rfl fun cx hX hF=>HT.g hX [] aa (HT.seq (HT.c0 (rfl:false=false) (HT.skip (af (bc hr Mq fun y1 bQ hr=>HT.g hX [oH,oH,(cl bQ)] (aQ bQ) (HT.g hX [] aa (by (cases hr;exact (HT.ret (bN aa))))))))))
noncomputable def bI (tG:Int×List Int):Option ((Int×List Int)⊕(List Int)):=
 bif (decide (tG.1<(ae tG.2))) then
  ai ((0:Int)≤tG.1∧tG.1≤ae tG.2) (
   some (.inl ((aj .i64 tG.1 ((Nat.min (List.length (List.take (Int.toNat tG.1) (List.drop 0 tG.2))) (Int.toNat (ae tG.2) - Int.toNat tG.1):Nat):Int)),(List.take (Int.toNat tG.1) tG.2++List.take (Nat.min (List.length (List.take (Int.toNat tG.1) (List.drop 0 tG.2))) (Int.toNat (ae tG.2) - Int.toNat tG.1)) (List.take (Int.toNat tG.1) (List.drop 0 tG.2))++List.drop ((Int.toNat tG.1)+Nat.min (List.length (List.take (Int.toNat tG.1) (List.drop 0 tG.2))) (Int.toNat (ae tG.2) - Int.toNat tG.1)) tG.2))))
 else
  some (.inr tG.2)
noncomputable def aY (a0:List Int)(a1:Int):Option (List Int):=
 bif (decide (a1<(0:Int))) then
  none
 else
  (jv (IntKind.wrap .u64 (ae a0)) (IntKind.wrap .u64 a1)).bind fun y2=>
  (show Option (Bool) from
   bif (decide (y2.1>(0:Int))) then
    some true
   else
    some (decide (y2.2>(9223372036854775807:Int)))).bind fun v5=>
  bif v5 then
   none
  else
   ai ((0:Int)≤(IntKind.wrap .i64 y2.2)∧(IntKind.wrap .i64 y2.2)≤4294967296) (
    (some ((Nat.min (List.length a0) (List.length (List.replicate (Int.toNat (IntKind.wrap .i64 y2.2)) (0:Int))):Nat):Int)).bind fun UH=>
    (some (List.take 0 (List.replicate (Int.toNat (IntKind.wrap .i64 y2.2)) (0:Int))++List.take (Nat.min (List.length a0) (List.length (List.replicate (Int.toNat (IntKind.wrap .i64 y2.2)) (0:Int)))) a0++List.drop (0+Nat.min (List.length a0) (List.length (List.replicate (Int.toNat (IntKind.wrap .i64 y2.2)) (0:Int)))) (List.replicate (Int.toNat (IntKind.wrap .i64 y2.2)) (0:Int)))).bind fun ZV=>
    (rounds (bI) (UH,ZV)).bind fun UI=>
    some UI)
theorem FW {a0:List Int}{a1:Int}{r:List Int}(hr:aY a0 a1=some r):CallOK Tryz.prog 140 [.bl aN a0,.bl tI a1] [⟨true,aN,r⟩] []:=
 fe Tryz.func140 rfl fun cx hX hF=>HT.g hX [] aa (HT.seq (HT.g hX [] aa (HT.cb hr (fun tR hr=>nn hr) fun tR hr=>HT.skip (af (bc hr Mr fun y2 FQ hr=>HT.g hX (nO 5 [(cl FQ)]) (aQ FQ) (HT.seq (HT.jn hr (fun v5=>up [0,6] [(26,bV v5)] [] [] 0) (fun v5 hr=>HT.cb hr (fun nR hr=>nn hr) fun nR hr=>HT.skip (af (bg hr fun tB hr=>HT.g hX [oH,oH,(hT tI)] (aQ (Rd tB)) (HT.g hX [] aa (bq hr fun hr=>bq hr fun hr=>HT.seq (HT.block (HT.lp hX hr (fun tG=>up [7] [(8,iV tG.1)] [] [(0,.seq tI tG.2)] 0) (fun UI=>(.exit 0,up [7] [] [] [(0,.seq tI UI)] 0)) (fun UI hr=>(aI (af (HT.g hX [] aa (by (cases hr;exact (HT.ret (bN aa)))))))) fun tG ZT px PH=>HT.seq (HT.g hX [] aa (HT.cb px (fun xi px=>HT.skip (af (HT.block (bg px fun vn px=>HT.dk hX [] (dT (Yb vn) (UB vn)) fun _ h=>(aE (aU (lN px h))))))) fun xi px=>HT.xe hX (aT (aW (PH _ (an px))))))))))))) fun _ GW SV=>bb GW (fun PL GW=>HT.k hX [oH,oH,kT] (aQ PL) fun _ h=>(af (h.ht (SV _ (ah GW))))) fun PL GW=>HT.k hX [oH,oH,kF] (aQ PL) fun _ h=>(af (h.ht (SV _ (ah GW)))))))))))
noncomputable def kn (a0:Int×Int×List (Int×Int×Int×Int)×List Int×List Int)(a1:List Int)(a2:Int)(s3:Int×List Int):Option ((Int×List Int)⊕(List Int)):=
 bif (decide (s3.1<(ae a0.2.2.1))) then
  (show Option (List Int) from
   ai ((0:Int)≤s3.1∧s3.1<ae a0.2.2.1) (
    (some ((((List.getD a0.2.2.1 (Int.toNat s3.1) ((0:Int),(0:Int),(0:Int),(0:Int))).2).2).1)).bind fun ZW=>
    (some ((((List.getD a0.2.2.1 (Int.toNat s3.1) ((0:Int),(0:Int),(0:Int),(0:Int))).2).2).2)).bind fun Td=>
    bif (ZW==a2) then
     ai ((0:Int)≤((List.getD a0.2.2.1 (Int.toNat s3.1) ((0:Int),(0:Int),(0:Int),(0:Int))).2).1∧((List.getD a0.2.2.1 (Int.toNat s3.1) ((0:Int),(0:Int),(0:Int),(0:Int))).2).1<ae s3.2) (
      ai ((0:Int)≤(List.getD a0.2.2.1 (Int.toNat s3.1) ((0:Int),(0:Int),(0:Int),(0:Int))).1∧(List.getD a0.2.2.1 (Int.toNat s3.1) ((0:Int),(0:Int),(0:Int),(0:Int))).1<ae a1) (
       some (List.set s3.2 (Int.toNat (((List.getD a0.2.2.1 (Int.toNat s3.1) ((0:Int),(0:Int),(0:Int),(0:Int))).2).1)) (if (aj .i64 (List.getD a1 (Int.toNat ((List.getD a0.2.2.1 (Int.toNat s3.1) ((0:Int),(0:Int),(0:Int),(0:Int))).1)) (0:Int)) Td)<(List.getD s3.2 (Int.toNat (((List.getD a0.2.2.1 (Int.toNat s3.1) ((0:Int),(0:Int),(0:Int),(0:Int))).2).1)) (0:Int)) then (aj .i64 (List.getD a1 (Int.toNat ((List.getD a0.2.2.1 (Int.toNat s3.1) ((0:Int),(0:Int),(0:Int),(0:Int))).1)) (0:Int)) Td) else (List.getD s3.2 (Int.toNat (((List.getD a0.2.2.1 (Int.toNat s3.1) ((0:Int),(0:Int),(0:Int),(0:Int))).2).1)) (0:Int))))))
    else
     some s3.2)).bind fun UJ=>
  some (.inl ((aj .i64 s3.1 (1:Int)),UJ))
 else
  some (.inr s3.2)
noncomputable def qZ (a0:Int×Int×List (Int×Int×Int×Int)×List Int×List Int)(a1:List Int)(a2:Int):Option (List Int):=
 (aY ([(1099511627776:Int)]:List Int) (ae a1)).bind fun y1=>
 (rounds (kn a0 a1 a2) ((0:Int),y1)).bind fun r5=>
 (mY (a0.1,a0.2.1,a0.2.2.1,a0.2.2.2.1,a0.2.2.2.2) r5).bind fun y6=>
 some y6
theorem Ms {a0:Int×Int×List (Int×Int×Int×Int)×List Int×List Int}{a1:List Int}{a2:Int}{r:List Int}(hr:qZ a0 a1 a2=some r):CallOK Tryz.prog 100 [.bl (.st (.pair tI (.pair tI (.pair (.sl (.st (.pair tI (.pair tI (.pair tI tI))))) (.pair aN aN))))) a0,.bl aN a1,.bl tI a2] [⟨true,aN,r⟩] []:=
 fe Tryz.func100 rfl fun cx hX hF=>HT.g hX [] aa (bc hr FW fun y1 bQ hr=>HT.g hX [(hT tI),oH,oH,(cl bQ)] (aQ bQ) (HT.seq (HT.g hX [] aa (HT.block (HT.lp hX hr (fun s3=>up [1,2,3,7,15,16] [(17,iV s3.1)] [0] [(2,.seq tI s3.2)] 0) (fun r5=>(.exit 0,up [3,7] [] [0] [(2,.seq tI r5)] 0)) (fun r5 hr=>(aI (af (bc hr FV fun y6 Co hr=>HT.g hX [oH,oH,(cl Co)] (aQ Co) (HT.g hX [] aa (by (cases hr;exact (HT.ret (bN aa))))))))) fun s3 x8 pJ Es=>HT.g hX [] aa (HT.cj pJ (fun nT pJ=>HT.jn pJ (fun UJ=>up [1,2,3,7,15,16,17] [] [0] [(2,.seq tI UJ)] 0) (fun UJ pJ=>HT.k hX [] aa fun _ h=>(aU (lN pJ h))) fun _ sn Te=>HT.block (bg sn fun yD sn=>HT.g hX [] (aQ yD) (bq sn fun sn=>bq sn fun sn=>HT.g hX [] aa (HT.cb sn (fun AF sn=>bg sn fun qf sn=>bg sn fun Cu sn=>HT.dk hX [] (lx qf (bd qf) Cu qf (aQ (bd qf))) fun _ h=>(aE (af (h.ht (Te _ (ah sn)))))) fun AF sn=>HT.skip (aE (af (HT.re hX (Te _ (ah sn))))))))) fun nT pJ=>HT.xe hX (aT (aW (Es _ (an pJ))))))))))
noncomputable def iw (a0:Int×Int×List (Int×Int×Int×Int)×List Int×List Int)(a1:List Int)(s3:Int×List Int):Option ((Int×List Int)⊕(List Int)):=
 bif (decide (s3.1<(ae a1))) then
  ai ((0:Int)≤s3.1∧s3.1<ae a1) (
   (qZ (a0.1,a0.2.1,a0.2.2.1,a0.2.2.2.1,a0.2.2.2.2) s3.2 (List.getD a1 (Int.toNat s3.1) (0:Int))).bind fun Jm=>
   some (.inl ((aj .i64 s3.1 (1:Int)),Jm)))
 else
  some (.inr s3.2)
noncomputable def nI (a0:Int×Int×List (Int×Int×Int×Int)×List Int×List Int)(a1:List Int):Option (Int):=
 (lV (a0.1,a0.2.1,a0.2.2.1,a0.2.2.2.1,a0.2.2.2.2)).bind fun y1=>
 (rounds (iw a0 a1) ((0:Int),y1)).bind fun r5=>
 (kj a0.2.2.2.2).bind fun y6=>
 (nW r5 y6).bind fun y8=>
 some y8
theorem PM {a0:Int×Int×List (Int×Int×Int×Int)×List Int×List Int}{a1:List Int}{r:Int}(hr:nI a0 a1=some r):CallOK Tryz.prog 51 [.bl (.st (.pair tI (.pair tI (.pair (.sl (.st (.pair tI (.pair tI (.pair tI tI))))) (.pair aN aN))))) a0,.bl aN a1] [⟨false,tI,r⟩] []:=
 fe Tryz.func51 rfl fun cx hX hF=>HT.g hX [] aa (bc hr PK fun y1 bQ hr=>HT.g hX [oH,(cl bQ)] (aQ bQ) (HT.seq (HT.g hX [] aa (HT.block (HT.lp hX hr (fun s3=>up [2,5,10,11] [(12,iV s3.1)] [0] [(1,.seq tI s3.2)] 0) (fun r5=>(.exit 0,up [2,5] [] [0] [(1,.seq tI r5)] 0)) (fun r5 hr=>(aI (af (bc hr FU fun y6 Co hr=>bc hr Mp fun y8 oh hr=>HT.g hX [oH,oH,oH,(cl Co),(cl oh)] (dT Co oh) (by (cases hr;exact (HT.ret (bN aa)))))))) fun s3 ZP lS Mc=>HT.g hX [] aa (HT.cj lS (fun mU lS=>HT.seq (HT.block (bg lS fun si lS=>HT.g hX [] (aQ si) (bc lS Ms fun Jm yw lS=>HT.l hX [oH,oH,oH,(cl yw)] (aQ yw) (aE (af (HT.k hX [] aa fun _ h=>(aU (lN lS h))))))))) fun mU lS=>HT.xe hX (aT (aW (Mc _ (an lS))))))))))
noncomputable def e9 (a0:List Int)(a1:Int):Option (Bool):=
 (show Option (Bool) from
  (bj a1 (1:Int) (4:Int)).bind fun y5=>
  bif y5 then
   bif (decide ((ae a0)≤(12:Int))) then
    (dY a0 (0:Int) (a7 .i64 a1 (1:Int))).bind fun y9=>
    some y9
   else
    some false
  else
   some false).bind fun v2=>
 some v2
theorem AG {a0:List Int}{a1:Int}{r:Bool}(hr:e9 a0 a1=some r):CallOK Tryz.prog 50 [.bl aN a0,.bl tI a1] [⟨false,.bool,r⟩] []:=
 fe Tryz.func50 rfl fun cx hX hF=>HT.g hX [] aa (HT.jn hr (fun v2=>up [] [(4,bV v2)] [] [] 0) (fun v2 hr=>by (cases hr;exact (HT.ret (bN aa)))) fun _ ay ez=>bc ay gE fun y5 iL ay=>bb ay (fun lQ ay=>bb ay (fun nR ay=>bc ay Ay fun y9 pv ay=>HT.k hX [oH,(cl iL),kT,oH,oH,oH,oH,kT,oH,oH,oH,(cl pv)] (oJ iL lQ nR pv) fun _ h=>(af (h.ht (ez _ (ah ay))))) fun nR ay=>HT.k hX [oH,(cl iL),kT,oH,oH,oH,oH,kF] (oI iL lQ nR) fun _ h=>(af (h.ht (ez _ (ah ay))))) fun lQ ay=>HT.k hX [oH,(cl iL),kF] (dT iL lQ) fun _ h=>(af (h.ht (ez _ (ah ay)))))
noncomputable def iy (a0:Int×Int×List (Int×Int×Int×Int)×List Int×List Int)(a1:List Int):Option (Int×Bool):=
 (show Option (Bool) from
  (bW (a0.1,a0.2.1,a0.2.2.1,a0.2.2.2.1,a0.2.2.2.2)).bind fun y8=>
  bif (!y8) then
   some true
  else
   (e9 a1 a0.2.1).bind fun fQ=>
   some (!fQ)).bind fun v2=>
 bif v2 then
  some ((0:Int),false)
 else
  (nI (a0.1,a0.2.1,a0.2.2.1,a0.2.2.2.1,a0.2.2.2.2) a1).bind fun y6=>
  some (y6,true)
theorem JO {a0:Int×Int×List (Int×Int×Int×Int)×List Int×List Int}{a1:List Int}{r:Int×Bool}(hr:iy a0 a1=some r):CallOK Tryz.prog 17 [.bl (.st (.pair tI (.pair tI (.pair (.sl (.st (.pair tI (.pair tI (.pair tI tI))))) (.pair aN aN))))) a0,.bl aN a1] [⟨false,tI,r.1⟩,⟨false,.bool,r.2⟩] []:=
 fe Tryz.func17 rfl fun cx hX hF=>HT.g hX [] aa (HT.seq (HT.jn hr (fun v2=>up [1,2] [(15,bV v2)] [0] [] 0) (fun v2 hr=>HT.cb hr (fun nj hr=>HT.g hX [] aa (by (cases hr;exact (HT.ret (aD (bN aa)))))) fun nj hr=>HT.skip (af (bc hr PM fun y6 Co hr=>HT.g hX [oH,oH,(cl Co)] (aQ Co) (by (cases hr;exact (HT.ret (bN aa))))))) fun _ ay ez=>bc ay xg fun y8 oh ay=>bb ay (fun fU ay=>HT.k hX [oH,(cl oh),oH,kT] (dT oh fU) fun _ h=>(af (h.ht (ez _ (ah ay))))) fun fU ay=>bc ay AG fun fQ iM ay=>HT.k hX [oH,(cl oh),oH,kF,oH,oH,oH,(cl iM)] (oI oh fU iM) fun _ h=>(af (h.ht (ez _ (ah ay))))))
noncomputable def dc (a0:Int)(a1:Bool):Option (List UInt8×Bool):=
 (di a0).bind fun y1=>
 some (y1,a1)
theorem vH {a0:Int}{a1:Bool}{r:List UInt8×Bool}(hr:dc a0 a1=some r):CallOK Tryz.prog 135 [.bl tI a0,.bl .bool a1] [⟨false,.str,r.1⟩,⟨false,.bool,r.2⟩] []:=
 fe Tryz.func135 rfl fun cx hX hF=>HT.g hX [] aa (bc hr sh fun y1 bQ hr=>HT.g hX [oH,(cl bQ)] (aQ bQ) (by (cases hr;exact (HT.ret (bN aa)))))
noncomputable def dG (a0:Int×Int×List Int×List Bool)(a1:List Int)(s1:Int×Int):Option ((Int×Int)⊕(Int)):=
 bif (decide (s1.2<(ae a1))) then
  ai ((0:Int)≤s1.2∧s1.2<ae a1) (
   (cH (a0.1,a0.2.1,a0.2.2.1,a0.2.2.2) s1.1 (List.getD a1 (Int.toNat s1.2) (0:Int))).bind fun iW=>
   some (.inl (iW,(aj .i64 s1.2 (1:Int)))))
 else
  some (.inr s1.1)
noncomputable def kZ (a0:Int×Int×List Int×List Bool)(a1:List Int):Option (Bool):=
 (rounds (dG a0 a1) ((0:Int),(0:Int))).bind fun r3=>
 ai ((0:Int)≤r3∧r3<ae a0.2.2.2) (
  some (List.getD a0.2.2.2 (Int.toNat r3) false))
theorem PN {a0:Int×Int×List Int×List Bool}{a1:List Int}{r:Bool}(hr:kZ a0 a1=some r):CallOK Tryz.prog 52 [.bl (.st (.pair tI (.pair tI (.pair aN (.sl .bool))))) a0,.bl aN a1] [⟨false,.bool,r⟩] []:=
 fe Tryz.func52 rfl fun cx hX hF=>HT.g hX [] aa (HT.g hX [] aa (HT.seq (HT.g hX [] aa (HT.block (HT.lp hX hr (fun s1=>up [2,8,9] [(5,iV s1.1),(10,iV s1.2)] [0] [] 0) (fun r3=>(.exit 0,up [2] [(5,iV r3)] [0] [] 0)) (fun r3 hr=>(aI (af (bg hr fun Tc hr=>HT.g hX [] (aQ Tc) (by (cases hr;exact (HT.ret (bN aa)))))))) fun s1 x5 fp Cr=>HT.g hX [] aa (HT.cj fp (fun nR fp=>HT.seq (HT.block (bg fp fun tB fp=>HT.g hX [] (aQ tB) (bc fp AE fun iW kA fp=>HT.l hX [oH,oH,oH,(cl kA)] (aQ kA) (aE (af (HT.k hX [] aa fun _ h=>(aU (lN fp h))))))))) fun nR fp=>HT.xe hX (aT (aW (Cr _ (an fp))))))))))
noncomputable def ed (a0:Int×Int×List Int×List Bool)(a1:List Int):Option (Bool×Bool):=
 (show Option (Bool) from
  (ca (a0.1,a0.2.1,a0.2.2.1,a0.2.2.2)).bind fun y8=>
  bif (!y8) then
   some true
  else
   (e9 a1 a0.2.1).bind fun fQ=>
   some (!fQ)).bind fun v2=>
 bif v2 then
  some (false,false)
 else
  (kZ (a0.1,a0.2.1,a0.2.2.1,a0.2.2.2) a1).bind fun y6=>
  some (y6,true)
theorem JP {a0:Int×Int×List Int×List Bool}{a1:List Int}{r:Bool×Bool}(hr:ed a0 a1=some r):CallOK Tryz.prog 18 [.bl (.st (.pair tI (.pair tI (.pair aN (.sl .bool))))) a0,.bl aN a1] [⟨false,.bool,r.1⟩,⟨false,.bool,r.2⟩] []:=
 fe Tryz.func18 rfl fun cx hX hF=>HT.g hX [] aa (HT.seq (HT.jn hr (fun v2=>up [1,2] [(15,bV v2)] [0] [] 0) (fun v2 hr=>HT.cb hr (fun nj hr=>HT.g hX [] aa (by (cases hr;exact (HT.ret (aD (bN aa)))))) fun nj hr=>HT.skip (af (bc hr PN fun y6 Co hr=>HT.g hX [oH,oH,(cl Co)] (aQ Co) (by (cases hr;exact (HT.ret (bN aa))))))) fun _ ay ez=>bc ay uu fun y8 oh ay=>bb ay (fun fU ay=>HT.k hX [oH,(cl oh),oH,kT] (dT oh fU) fun _ h=>(af (h.ht (ez _ (ah ay))))) fun fU ay=>bc ay AG fun fQ iM ay=>HT.k hX [oH,(cl oh),oH,kF,oH,oH,oH,(cl iM)] (oI oh fU iM) fun _ h=>(af (h.ht (ez _ (ah ay))))))
noncomputable def fG (a0:Int×Int×List (Int×Int×Int×Int))(a1:List Int):Option (Bool):=
 (show Option (Bool) from
  (bX (a0.1,a0.2.1,a0.2.2)).bind fun y5=>
  bif y5 then
   (e9 a1 a0.2.1).bind fun y8=>
   bif y8 then
    some (decide ((ae a1)>(0:Int)))
   else
    some false
  else
   some false).bind fun v2=>
 some v2
theorem JQ {a0:Int×Int×List (Int×Int×Int×Int)}{a1:List Int}{r:Bool}(hr:fG a0 a1=some r):CallOK Tryz.prog 55 [.bl (.st (.pair tI (.pair tI (.sl (.st (.pair tI (.pair tI (.pair tI tI)))))))) a0,.bl aN a1] [⟨false,.bool,r⟩] []:=
 fe Tryz.func55 rfl fun cx hX hF=>HT.g hX [] aa (HT.jn hr (fun v2=>up [] [(4,bV v2)] [] [] 0) (fun v2 hr=>by (cases hr;exact (HT.ret (bN aa)))) fun _ ay ez=>bc ay xj fun y5 iL ay=>bb ay (fun lQ ay=>bc ay AG fun y8 oh ay=>bb ay (fun fU ay=>HT.k hX [oH,(cl iL),kT,oH,oH,oH,(cl oh),oH,kT] (oJ iL lQ oh fU) fun _ h=>(af (h.ht (ez _ (ah ay))))) fun fU ay=>HT.k hX [oH,(cl iL),kT,oH,oH,oH,(cl oh),oH,kF] (oJ iL lQ oh fU) fun _ h=>(af (h.ht (ez _ (ah ay))))) fun lQ ay=>HT.k hX [oH,(cl iL),kF] (dT iL lQ) fun _ h=>(af (h.ht (ez _ (ah ay)))))
end Go.Proofs
