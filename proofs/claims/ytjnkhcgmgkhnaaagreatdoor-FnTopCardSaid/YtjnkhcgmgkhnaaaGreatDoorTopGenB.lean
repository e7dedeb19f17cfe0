import Derived.Test.YtjnkhcgmgkhnaaaGreatDoorTopGenA
import Derived.Test.YtjnkhcgmgkhnaaaGreatDoorProg
set_option linter.unusedVariables false
set_option linter.unusedSimpArgs false
set_option linter.unusedSectionVars false
namespace Go.Proofs
open Go.Ide
noncomputable def eV (a0:Int×Int×List Int×List Bool)(s8:List UInt8×Int):Option ((List UInt8×Int)⊕(List UInt8)):=
 bif (decide (s8.2<(ae a0.2.2.2))) then
  (show Option (List UInt8) from
   ai ((0:Int)≤s8.2∧s8.2<ae a0.2.2.2) (
    bif (List.getD a0.2.2.2 (Int.toNat s8.2) false) then
     ai (List.length s8.1+List.length ([49]:List UInt8)≤av) (
      some (s8.1++([49]:List UInt8)))
    else
     ai (List.length s8.1+List.length ([48]:List UInt8)≤av) (
      some (s8.1++([48]:List UInt8))))).bind fun Mb=>
  some (.inl (Mb,(aj .i64 s8.2 (1:Int))))
 else
  some (.inr s8.1)
noncomputable def iq (a0:Int×Int×List Int×List Bool):Option (List UInt8×Bool):=
 (ca (a0.1,a0.2.1,a0.2.2.1,a0.2.2.2)).bind fun y1=>
 bif (!y1) then
  some (([]:List UInt8),false)
 else
  (fC ([([a0.1,a0.2.1]:List Int),a0.2.2.1]:List (List Int))).bind fun y4=>
  bif (!y4.2) then
   some (([]:List UInt8),false)
  else
   ai (List.length y4.1+List.length ([59]:List UInt8)≤av) (
    (rounds (eV a0) ((y4.1++([59]:List UInt8)),(0:Int))).bind fun cR=>
    some (cR,true))
theorem NH {a0:Int×Int×List Int×List Bool}{r:List UInt8×Bool}(hr:iq a0=some r):CallOK Tryz.prog 9 [.bl (.st (.pair tI (.pair tI (.pair aN (.sl .bool))))) a0] [⟨false,.str,r.1⟩,⟨false,.bool,r.2⟩] []:=
 fe Tryz.func9 rfl fun cx hX hF=>HT.g hX [] aa (HT.seq (bc hr uu fun y1 bQ hr=>HT.g hX [oH,(cl bQ)] (aQ bQ) (HT.cb hr (fun pZ hr=>HT.g hX [] aa (by (cases hr;exact (HT.ret (aD (bN aa)))))) fun pZ hr=>HT.skip (af (bc hr En fun y4 uZ hr=>HT.g hX (nO 4 [⟨none,.Rs tI⟩,oH,oH,(hT aN),(cl uZ)]) (aQ uZ) (HT.seq (HT.g hX [] aa (HT.cb hr (fun Db hr=>HT.g hX [] aa (by (cases hr;exact (HT.ret (aD (bN aa)))))) fun Db hr=>HT.skip (af (bg hr fun Dc hr=>HT.g hX [] (aQ Dc) (HT.seq (HT.g hX [] aa (HT.block (HT.lp hX hr (fun s8=>up [28,29] [(4,.one (.aB .str s8.1)),(30,iV s8.2)] [] [] 0) (fun cR=>(.exit 0,up [] [(4,.one (.aB .str cR))] [] [] 0)) (fun cR hr=>(aI (af (HT.g hX [] aa (by (cases hr;exact (HT.ret (bN aa)))))))) fun s8 Yc jF Jn=>HT.g hX [] aa (HT.cj jF (fun mq jF=>HT.jn jF (fun Mb=>up [28,29,30] [(4,.one (.aB .str Mb))] [] [] 0) (fun Mb jF=>HT.k hX [] aa fun _ h=>(aU (lN jF h))) fun _ qn Ju=>HT.block (bg qn fun Jv qn=>HT.g hX [] (aQ Jv) (HT.g hX [] aa (HT.cb qn (fun xi qn=>bg qn fun vn qn=>HT.k hX [] (aQ vn) fun _ h=>(aE (af (h.ht (Ju _ (ah qn)))))) fun xi qn=>bg qn fun qf qn=>HT.k hX [] (aQ qf) fun _ h=>(aE (af (h.ht (Ju _ (ah qn))))))))) fun mq jF=>HT.xe hX (aT (aW (Jn _ (an jF)))))))))))))))))))
noncomputable def eX (a0:Int×Int×List (Int×Int×Int×Int))(s6:Int):Option ((Int)⊕(Unit⊕Unit)):=
 bif (decide (s6<(ae a0.2.2))) then
  ai ((0:Int)≤s6∧s6<ae a0.2.2) (
   (show Option (Int) from
    bif ((((List.getD a0.2.2 (Int.toNat s6) ((0:Int),(0:Int),(0:Int),(0:Int))).2).2).1==(-1:Int)) then
     some (a7 .i64 a0.2.1 (1:Int))
    else
     some (a7 .i64 a0.1 (1:Int))).bind fun Mb=>
   (show Option (Bool) from
    (bj ((List.getD a0.2.2 (Int.toNat s6) ((0:Int),(0:Int),(0:Int),(0:Int))).1) (0:Int) (a7 .i64 a0.1 (1:Int))).bind fun K8=>
    bif (!K8) then
     some true
    else
     (bj (((List.getD a0.2.2 (Int.toNat s6) ((0:Int),(0:Int),(0:Int),(0:Int))).2).1) (0:Int) Mb).bind fun Yh=>
     bif (!Yh) then
      some true
     else
      (bj ((((List.getD a0.2.2 (Int.toNat s6) ((0:Int),(0:Int),(0:Int),(0:Int))).2).2).1) (-1:Int) (a7 .i64 a0.1 (1:Int))).bind fun Yi=>
      bif (!Yi) then
       some true
      else
       (bj ((((List.getD a0.2.2 (Int.toNat s6) ((0:Int),(0:Int),(0:Int),(0:Int))).2).2).2) (0:Int) (1000:Int)).bind fun Yj=>
       some (!Yj)).bind fun v20=>
   bif v20 then
    some (.inr (.inr ()))
   else
    some (.inl (aj .i64 s6 (1:Int))))
 else
  some (.inr (.inl ()))
noncomputable def bX (a0:Int×Int×List (Int×Int×Int×Int)):Option (Bool):=
 (show Option (Bool) from
  (bj a0.1 (1:Int) (8:Int)).bind fun ru=>
  bif (!ru) then
   some true
  else
   (bj a0.2.1 (1:Int) (4:Int)).bind fun Rh=>
   bif (!Rh) then
    some true
   else
    some (decide ((ae a0.2.2)>(32:Int)))).bind fun v2=>
 bif v2 then
  some false
 else
  (rounds (eX a0) (0:Int)).bind fun r7=>match r7 with
   | .inl r8=>
    some true
   | .inr r9=>
    some false
theorem xj {a0:Int×Int×List (Int×Int×Int×Int)}{r:Bool}(hr:bX a0=some r):CallOK Tryz.prog 41 [.bl (.st (.pair tI (.pair tI (.sl (.st (.pair tI (.pair tI (.pair tI tI)))))))) a0] [⟨false,.bool,r⟩] []:=
 fe Tryz.func41 rfl fun cx hX hF=>HT.g hX [] aa (HT.seq (HT.jn hr (fun v2=>up [1] [(21,bV v2)] [0] [] 0) (fun v2 hr=>HT.cb hr (fun nj hr=>HT.g hX [] aa (by (cases hr;exact (HT.ret (aD (bN aa)))))) fun nj hr=>HT.skip (af (HT.seq (HT.g hX [] aa (HT.block (HT.lp hX hr (fun s6=>up [1,23,24] [(25,iV s6)] [0] [] 0) (fun r7=>match r7 with| .inl r8=>(.exit 0,up [] [] [] [] 0)| .inr r9=>(.ret,up [] [(2,bV false)] [] [] 0)) (fun r7=>match r7 with| .inl r8=>fun hr=>(aI (af (HT.g hX [] aa (by (cases hr;exact (HT.ret (bN aa)))))))| .inr r9=>fun hr=>by (cases hr;exact (br (aD (bN aa))))) fun s6 ZP lS Mc=>HT.g hX [] aa (HT.cj lS (fun mU lS=>HT.seq (HT.block (bg lS fun si lS=>HT.g hX [] (aQ si) (HT.g hX [] aa (HT.jn lS (fun Mb=>up [1,4,23,24,25] [(5,iV Mb)] [0,1] [] 0) (fun Mb lS=>HT.jn lS (fun v20=>up [1,23,24,25] [(66,bV v20)] [0] [] 0) (fun v20 lS=>HT.cb lS (fun Eo lS=>HT.g hX [] aa (HT.xr hX (br (aD (jE (Mc _ (an lS))))))) fun Eo lS=>HT.skip (aE (af (HT.k hX [] aa fun _ h=>(aU (lN lS h)))))) fun _ gi yx=>bc gi gE fun K8 tE gi=>bb gi (fun Jw gi=>HT.k hX (nO 5 [(cl tE),oH,kT]) (dT tE Jw) fun _ h=>(af (h.ht (yx _ (ah gi))))) fun Jw gi=>bc gi gE fun Yh G1 gi=>bb gi (fun Ct gi=>HT.k hX (nO 5 [(cl tE),oH,kF,oH,oH,oH,(cl G1),oH,oH,kT]) (oJ tE Jw G1 Ct) fun _ h=>(af (h.ht (yx _ (ah gi))))) fun Ct gi=>bc gi gE fun Yi Md gi=>bb gi (fun sj gi=>HT.k hX (nO 5 [(cl tE),oH,kF,oH,oH,oH,(cl G1),oH,oH,kF,oH,oH,oH,oH,oH,(cl Md),oH,oH,kT]) (lx tE Jw G1 Ct (dT Md sj)) fun _ h=>(af (h.ht (yx _ (ah gi))))) fun sj gi=>bc gi gE fun Yj S6 gi=>HT.k hX (nO 5 [(cl tE),oH,kF,oH,oH,oH,(cl G1),oH,oH,kF,oH,oH,oH,oH,oH,(cl Md),oH,oH,kF,oH,oH,(cl S6)]) (lx tE Jw G1 Ct (oI Md sj S6)) fun _ h=>(af (h.ht (yx _ (ah gi))))) fun _ qn Ju=>HT.g hX [] aa (HT.cb qn (fun Ps qn=>HT.k hX [] aa fun _ h=>(af (h.ht (Ju _ (ah qn))))) fun Ps qn=>HT.skip (af (HT.re hX (Ju _ (ah qn)))))))))) fun mU lS=>HT.xe hX (aT (aW (Mc _ (an lS))))))))))) fun _ ay ez=>bc ay gE fun ru Az ay=>bb ay (fun Me ay=>HT.k hX [oH,oH,(cl Az),oH,kT] (dT Az Me) fun _ h=>(af (h.ht (ez _ (ah ay))))) fun Me ay=>bc ay gE fun Rh Ep ay=>bb ay (fun xk ay=>HT.k hX [oH,oH,(cl Az),oH,kF,oH,oH,(cl Ep),oH,oH,kT] (oJ Az Me Ep xk) fun _ h=>(af (h.ht (ez _ (ah ay))))) fun xk ay=>HT.k hX [oH,oH,(cl Az),oH,kF,oH,oH,(cl Ep),oH,oH,kF] (oJ Az Me Ep xk) fun _ h=>(af (h.ht (ez _ (ah ay))))))
noncomputable def fw (a0:Int×Int×List (Int×Int×Int×Int))(s4:Int×List Int):Option ((Int×List Int)⊕(List Int)):=
 bif (decide (s4.1<(ae a0.2.2))) then
  ai ((0:Int)≤s4.1∧s4.1<ae a0.2.2) (
   ai (List.length s4.2+List.length ([(List.getD a0.2.2 (Int.toNat s4.1) ((0:Int),(0:Int),(0:Int),(0:Int))).1,((List.getD a0.2.2 (Int.toNat s4.1) ((0:Int),(0:Int),(0:Int),(0:Int))).2).1,(((List.getD a0.2.2 (Int.toNat s4.1) ((0:Int),(0:Int),(0:Int),(0:Int))).2).2).1,(((List.getD a0.2.2 (Int.toNat s4.1) ((0:Int),(0:Int),(0:Int),(0:Int))).2).2).2]:List Int)≤av) (
    some (.inl ((aj .i64 s4.1 (1:Int)),(s4.2++([(List.getD a0.2.2 (Int.toNat s4.1) ((0:Int),(0:Int),(0:Int),(0:Int))).1,((List.getD a0.2.2 (Int.toNat s4.1) ((0:Int),(0:Int),(0:Int),(0:Int))).2).1,(((List.getD a0.2.2 (Int.toNat s4.1) ((0:Int),(0:Int),(0:Int),(0:Int))).2).2).1,(((List.getD a0.2.2 (Int.toNat s4.1) ((0:Int),(0:Int),(0:Int),(0:Int))).2).2).2]:List Int))))))
 else
  some (.inr s4.2)
noncomputable def fE (a0:Int×Int×List (Int×Int×Int×Int)):Option (List UInt8×Bool):=
 (bX (a0.1,a0.2.1,a0.2.2)).bind fun y1=>
 bif (!y1) then
  some (([]:List UInt8),false)
 else
  (rounds (fw a0) ((0:Int),([]:List Int))).bind fun r6=>
  (fC ([([a0.1,a0.2.1]:List Int),r6]:List (List Int))).bind fun y7=>
  some (y7.1,y7.2)
theorem Jx {a0:Int×Int×List (Int×Int×Int×Int)}{r:List UInt8×Bool}(hr:fE a0=some r):CallOK Tryz.prog 10 [.bl (.st (.pair tI (.pair tI (.sl (.st (.pair tI (.pair tI (.pair tI tI)))))))) a0] [⟨false,.str,r.1⟩,⟨false,.bool,r.2⟩] []:=
 fe Tryz.func10 rfl fun cx hX hF=>HT.g hX [] aa (HT.seq (bc hr xj fun y1 bQ hr=>HT.g hX [oH,(cl bQ)] (aQ bQ) (HT.cb hr (fun pZ hr=>HT.g hX [] aa (by (cases hr;exact (HT.ret (aD (bN aa)))))) fun pZ hr=>HT.skip (af (HT.g hX [] aa (HT.seq (HT.g hX [] aa (HT.block (HT.lp hX hr (fun s4=>up [1,12,13] [(4,aV 4),(14,iV s4.1)] [0] [(4,.seq tI s4.2)] 4) (fun r6=>(.exit 0,up [1] [(4,aV 4)] [0] [(4,.seq tI r6)] 4)) (fun r6 hr=>(aI (af (by (refine (Le.rz [(0,0)] [] (st':=⟨[(1,pV 0 0),(4,nV r6)],[(0,.box [iC a0.1,iC a0.2.1,.aB (.sl (.st (.pair tI (.pair tI (.pair tI tI))))) a0.2.2])],5⟩) hX hF (by kernel_rfl)).ht ?_;exact (bc hr En fun y7 tD hr=>HT.g hX (nO 4 [⟨none,.Rs tI⟩,oH,(hT aN),(cl tD)]) (aQ tD) (by (cases hr;exact (HT.ret (bN aa)))))))))) fun s4 x9 gD Jc=>HT.g hX [] aa (HT.cj gD (fun iZ gD=>HT.seq (HT.block (bg gD fun sf gD=>HT.g hX [] (aQ sf) (bg gD fun si gD=>HT.l hX (nO 9 [(hT tI),(hT tI)]) (aQ si) (aE (af (HT.k hX [] aa fun _ h=>(aU (lN gD h))))))))) fun iZ gD=>HT.xe hX (aT (aW (Jc _ (an gD))))))))))))))
noncomputable def qY (a0:List Int)(a1:Int)(a2:Int):Option (Int):=
 (show Option (Bool) from
  bif (decide (a2≤(1:Int))) then
   some true
  else
   some (decide (a1≥(ae a0)))).bind fun v2=>
 bif v2 then
  some (0:Int)
 else
  ai ((0:Int)≤a1∧a1<ae a0) (
   ai (a2≠0) (
    some (Int.tmod (IntKind.wrap .i64 (List.getD a0 (Int.toNat a1) (0:Int))) a2)))
theorem Pt {a0:List Int}{a1:Int}{a2:Int}{r:Int}(hr:qY a0 a1 a2=some r):CallOK Tryz.prog 12 [.bl (.sl (.int .u8)) a0,.bl tI a1,.bl tI a2] [⟨false,tI,r⟩] []:=
 fe Tryz.func12 rfl fun cx hX hF=>HT.g hX [] aa (HT.seq (HT.jn hr (fun v2=>up [0,1,2] [(14,bV v2)] [] [] 0) (fun v2 hr=>HT.cb hr (fun nj hr=>HT.g hX [] aa (by (cases hr;exact (HT.ret (aD (bN aa)))))) fun nj hr=>HT.skip (af (bg hr fun Er hr=>bg hr fun Dc hr=>HT.g hX [] (dT Er Dc) (by (cases hr;exact (HT.ret (bN aa))))))) fun _ ay ez=>bb ay (fun nR ay=>HT.k hX [oH,oH,kT] (aQ nR) fun _ h=>(af (h.ht (ez _ (ah ay))))) fun nR ay=>HT.k hX [oH,oH,kF] (aQ nR) fun _ h=>(af (h.ht (ez _ (ah ay))))))
noncomputable def pt:Option (((Int×Int×List (Int×Int×Int×Int)×List Int×List Int)×(Int×Int×List Int×List Bool)×(Int×Int×List (Int×Int×Int×Int))×List Int)):=
 (some ([((0:Int),(0:Int),(0:Int),(1:Int)),((0:Int),(0:Int),(-1:Int),(1:Int))]:List (Int×Int×Int×Int))).bind fun q1=>
 some (((2:Int),(1:Int),([((0:Int),(1:Int),(0:Int),(3:Int))]:List (Int×Int×Int×Int)),([(0:Int),(-1:Int)]:List Int),([(-1:Int),(0:Int)]:List Int)),((2:Int),(1:Int),([(1:Int),(0:Int)]:List Int),([true,false]:List Bool)),((1:Int),(1:Int),q1),([(0:Int)]:List Int))
theorem Pu {r:((Int×Int×List (Int×Int×Int×Int)×List Int×List Int)×(Int×Int×List Int×List Bool)×(Int×Int×List (Int×Int×Int×Int))×List Int)}(hr:pt=some r):CallOK Tryz.prog 15 [] [⟨true,(.st (.pair (.st (.pair tI (.pair tI (.pair (.sl (.st (.pair tI (.pair tI (.pair tI tI))))) (.pair aN aN))))) (.pair (.st (.pair tI (.pair tI (.pair aN (.sl .bool))))) (.pair (.st (.pair tI (.pair tI (.sl (.st (.pair tI (.pair tI (.pair tI tI)))))))) aN)))),r⟩] []:=
 fe Tryz.func15 rfl fun cx hX hF=>HT.g hX [] aa (HT.g hX [oH,(hT (.st (.pair tI (.pair tI (.pair tI tI))))),(hT tI),(hT tI),oH,(hT tI),(hT .bool),oH,oH,oH,(hT (.st (.pair tI (.pair tI (.pair tI tI))))),oH,(hT tI)] aa (bq hr fun hr=>by (cases hr;exact (HT.ret (bN aa)))))
noncomputable def strings_Split (a0 a1:List UInt8):Option (List (List UInt8)):=
 ai (a0.length<4294967281∧1≤a1.length)<|some (Lib.split a0 a1)
theorem AA {a0 a1:List UInt8}{r:List (List UInt8)}(h:strings_Split a0 a1=some r):CallOK Tryz.prog 94 [.bl .str a0,.bl .str a1] [⟨true,.sl .str,r⟩] []:=by
 obtain ⟨hg,h⟩:=ig h;have h:=ah h;subst h;exact IX ⟨_,Tryz.func94,by kernel_rfl,by kernel_rfl⟩ hg.1 hg.2 fun w S hgl=>by
  obtain ⟨m,hm⟩:=Glob.HJ hgl;exact Tryz.strings_Split _ _ m w hg.1 hm hg.2
noncomputable def iP (a0:List UInt8):Option (List (List UInt8)×Bool):=
 (strings_Split a0 ([10]:List UInt8)).bind fun y1=>
 (show Option (Bool) from
  ai ((0:Int)≤(a7 .i64 (ae y1) (1:Int))∧(a7 .i64 (ae y1) (1:Int))≤ae y1) (
   bif (decide ((ae a0)≤(16000:Int))) then
    ai ((0:Int)≤(a7 .i64 (ae y1) (1:Int))∧(a7 .i64 (ae y1) (1:Int))<ae y1) (
     some ((List.getD y1 (Int.toNat (a7 .i64 (ae y1) (1:Int))) ([]:List UInt8))==([]:List UInt8)))
   else
    some false)).bind fun v4=>
 some ((List.take (Int.toNat (a7 .i64 (ae y1) (1:Int))) y1),v4)
theorem Jy {a0:List UInt8}{r:List (List UInt8)×Bool}(hr:iP a0=some r):CallOK Tryz.prog 45 [.bl .str a0] [⟨true,(.sl .str),r.1⟩,⟨false,.bool,r.2⟩] []:=
 fe Tryz.func45 rfl fun cx hX hF=>HT.g hX [] aa (bc hr AA fun y1 bQ hr=>HT.g hX [oH,(cl bQ)] (aQ bQ) (HT.g hX [] aa (HT.jn hr (fun v4=>up [] [(2,aV 0),(3,bV v4)] [] [(0,.seq .str (List.take (Int.toNat (a7 .i64 (ae y1) (1:Int))) y1))] 0) (fun v4 hr=>by (cases hr;exact (HT.ret (bN aa)))) fun _ kY Dd=>bg kY fun Dc kY=>bb kY (fun nR kY=>bg kY fun tB kY=>HT.dl hX (nO 6 [kT]) (oJ (UB Dc) nR tB (bd tB)) (af (((Le.cv (s:=⟨[(0,0)],[],[0],false⟩) (own:=[]) (ps:=[0=0,List.length (List.take (Int.toNat (a7 .i64 (ae y1) (1:Int))) y1)=Int.toNat (a7 .i64 (ae y1) (1:Int)),((List.getD y1 (Int.toNat (a7 .i64 (ae y1) (1:Int))) ([]:List UInt8))==([]:List UInt8))=((List.getD y1 (Int.toNat (a7 .i64 (ae y1) (1:Int))) ([]:List UInt8))==([]:List UInt8)),(List.take (Int.toNat (a7 .i64 (ae y1) (1:Int))) y1)=List.take (List.length (List.take (Int.toNat (a7 .i64 (ae y1) (1:Int))) y1)) y1]) (st':=⟨[(2,aV 0),(3,bV ((List.getD y1 (Int.toNat (a7 .i64 (ae y1) (1:Int))) ([]:List UInt8))==([]:List UInt8)))],[(0,.seq .str (List.take (Int.toNat (a7 .i64 (ae y1) (1:Int))) y1))],1⟩) hX.own (fun h=>by cases h) (by kernel_rfl) ⟨rfl,(IH Dc),rfl,(II _ _),trivial⟩).trans (Le.a hX)).ht (Dd _ (ah kY))))) fun nR kY=>HT.dl hX (nO 6 [kF]) (dT (UB Dc) nR) (af (((Le.cv (s:=⟨[(0,0)],[],[0],false⟩) (own:=[]) (ps:=[0=0,List.length (List.take (Int.toNat (a7 .i64 (ae y1) (1:Int))) y1)=Int.toNat (a7 .i64 (ae y1) (1:Int)),false=false,(List.take (Int.toNat (a7 .i64 (ae y1) (1:Int))) y1)=List.take (List.length (List.take (Int.toNat (a7 .i64 (ae y1) (1:Int))) y1)) y1]) (st':=⟨[(2,aV 0),(3,bV false)],[(0,.seq .str (List.take (Int.toNat (a7 .i64 (ae y1) (1:Int))) y1))],1⟩) hX.own (fun h=>by cases h) (by kernel_rfl) ⟨rfl,(IH Dc),rfl,(II _ _),trivial⟩).trans (Le.a hX)).ht (Dd _ (ah kY)))))))
theorem Jz {xs y:List (Int×Int×Int×Int)}(h:slices_Clone xs=some y):CallOK Tryz.prog 67 [.bl (.sl (.st (.pair tI (.pair tI (.pair tI tI))))) xs] [⟨true,(.sl (.st (.pair tI (.pair tI (.pair tI tI))))),y⟩] []:=by
 obtain ⟨hg,h⟩:=ig h;have h:=ah h;subst h;refine CallOK.qS (ts:=[(true,(.sl (.st (.pair tI (.pair tI (.pair tI tI))))))]) Tryz.func67 rfl (by kernel_rfl) (Nat.le_of_ble_eq_true (by kernel_rfl)) fun cx hP hN hO hF=> ?_;show HT cx ⟨[(0,.one (.aB (.sl (.st (.pair tI (.pair tI (.pair tI tI))))) xs))],[],0⟩ _ _;refine HT.vl [0] [⟨none,.no⟩] ⟨[(0,.one (.aB (.sl (.st (.pair tI (.pair tI (.pair tI tI))))) xs))],[],0⟩ hP hN (by kernel_rfl) aa ?_;refine HT.seq ?_;refine HT.isNil (t3:=3) (t4:=4) (v:= .one (.aB (.sl (.st (.pair tI (.pair tI (.pair tI tI))))) xs)) (t:=(.st (.pair tI (.pair tI (.pair tI tI))))) (xs:=xs) (st1:=⟨[(3,.one (.aB (.sl (.st (.pair tI (.pair tI (.pair tI tI))))) xs)),(0,.one (.aB (.sl (.st (.pair tI (.pair tI (.pair tI tI))))) xs))],[],0⟩) hP hN (by kernel_rfl) rfl rfl rfl rfl (e:=80) (by kernel_rfl) rfl rfl (fun b hb=> ?_);show HT cx ⟨[(4,.one (.aB .bool b)),(3,.one (.aB (.sl (.st (.pair tI (.pair tI (.pair tI tI))))) xs)),(0,.one (.aB (.sl (.st (.pair tI (.pair tI (.pair tI tI))))) xs))],[],0⟩ _ _;cases b with
 |true=>
  have e:=hb rfl;subst e;refine HT.Cb rfl rfl ?_;refine HT.vl [2] [⟨none,.no⟩] ⟨[(2,.one .az)],[],0⟩ hP hN (by kernel_rfl) aa ?_;exact HT.ret (aD ⟨[.one .az],[],[],by kernel_rfl,by kernel_rfl,rfl,by kernel_rfl,by kernel_rfl,trivial⟩)
 |false=>
  refine HT.za rfl rfl ?_;refine HT.skip (af ?_);refine HT.vl [2] [⟨none,.no⟩,⟨none,.no⟩,⟨none,.ty (.st (.pair tI (.pair tI (.pair tI tI))))⟩,⟨none,.no⟩] ⟨[(2,.one (.all 0))],[(0,.seq (.st (.pair tI (.pair tI (.pair tI tI)))) xs)],1⟩ hP hN (by kernel_rfl) (iK hg aa) ?_;exact HT.ret ⟨[.one (.all 0)],[0],[],by kernel_rfl,by kernel_rfl,rfl,by kernel_rfl,by kernel_rfl,trivial⟩
theorem sk {xs y:List Int}(h:slices_Clone xs=some y):CallOK Tryz.prog 68 [.bl aN xs] [⟨true,aN,y⟩] []:=by
 obtain ⟨hg,h⟩:=ig h;have h:=ah h;subst h;refine CallOK.qS (ts:=[(true,aN)]) Tryz.func68 rfl (by kernel_rfl) (Nat.le_of_ble_eq_true (by kernel_rfl)) fun cx hP hN hO hF=> ?_;show HT cx ⟨[(0,.one (.aB aN xs))],[],0⟩ _ _;refine HT.vl [0] [⟨none,.no⟩] ⟨[(0,.one (.aB aN xs))],[],0⟩ hP hN (by kernel_rfl) aa ?_;refine HT.seq ?_;refine HT.isNil (t3:=3) (t4:=4) (v:= .one (.aB aN xs)) (t:=tI) (xs:=xs) (st1:=⟨[(3,.one (.aB aN xs)),(0,.one (.aB aN xs))],[],0⟩) hP hN (by kernel_rfl) rfl rfl rfl rfl (e:=2) (by kernel_rfl) rfl rfl (fun b hb=> ?_);show HT cx ⟨[(4,.one (.aB .bool b)),(3,.one (.aB aN xs)),(0,.one (.aB aN xs))],[],0⟩ _ _;cases b with
 |true=>
  have e:=hb rfl;subst e;refine HT.Cb rfl rfl ?_;refine HT.vl [2] [⟨none,.no⟩] ⟨[(2,.one .az)],[],0⟩ hP hN (by kernel_rfl) aa ?_;exact HT.ret (aD ⟨[.one .az],[],[],by kernel_rfl,by kernel_rfl,rfl,by kernel_rfl,by kernel_rfl,trivial⟩)
 |false=>
  refine HT.za rfl rfl ?_;refine HT.skip (af ?_);refine HT.vl [2] [⟨none,.no⟩,⟨none,.no⟩,⟨none,.ty tI⟩,⟨none,.no⟩] ⟨[(2,.one (.all 0))],[(0,.seq tI xs)],1⟩ hP hN (by kernel_rfl) (iK hg aa) ?_;exact HT.ret ⟨[.one (.all 0)],[0],[],by kernel_rfl,by kernel_rfl,rfl,by kernel_rfl,by kernel_rfl,trivial⟩
theorem Mf {xs y:List Bool}(h:slices_Clone xs=some y):CallOK Tryz.prog 138 [.bl (.sl .bool) xs] [⟨true,(.sl .bool),y⟩] []:=by
 obtain ⟨hg,h⟩:=ig h;have h:=ah h;subst h;refine CallOK.qS (ts:=[(true,(.sl .bool))]) Tryz.func138 rfl (by kernel_rfl) (Nat.le_of_ble_eq_true (by kernel_rfl)) fun cx hP hN hO hF=> ?_;show HT cx ⟨[(0,.one (.aB (.sl .bool) xs))],[],0⟩ _ _;refine HT.vl [0] [⟨none,.no⟩] ⟨[(0,.one (.aB (.sl .bool) xs))],[],0⟩ hP hN (by kernel_rfl) aa ?_;refine HT.seq ?_;refine HT.isNil (t3:=3) (t4:=4) (v:= .one (.aB (.sl .bool) xs)) (t:= .bool) (xs:=xs) (st1:=⟨[(3,.one (.aB (.sl .bool) xs)),(0,.one (.aB (.sl .bool) xs))],[],0⟩) hP hN (by kernel_rfl) rfl rfl rfl rfl (e:=4) (by kernel_rfl) rfl rfl (fun b hb=> ?_);show HT cx ⟨[(4,.one (.aB .bool b)),(3,.one (.aB (.sl .bool) xs)),(0,.one (.aB (.sl .bool) xs))],[],0⟩ _ _;cases b with
 |true=>
  have e:=hb rfl;subst e;refine HT.Cb rfl rfl ?_;refine HT.vl [2] [⟨none,.no⟩] ⟨[(2,.one .az)],[],0⟩ hP hN (by kernel_rfl) aa ?_;exact HT.ret (aD ⟨[.one .az],[],[],by kernel_rfl,by kernel_rfl,rfl,by kernel_rfl,by kernel_rfl,trivial⟩)
 |false=>
  refine HT.za rfl rfl ?_;refine HT.skip (af ?_);refine HT.vl [2] [⟨none,.no⟩,⟨none,.no⟩,⟨none,.ty .bool⟩,⟨none,.no⟩] ⟨[(2,.one (.all 0))],[(0,.seq .bool xs)],1⟩ hP hN (by kernel_rfl) (iK hg aa) ?_;exact HT.ret ⟨[.one (.all 0)],[0],[],by kernel_rfl,by kernel_rfl,rfl,by kernel_rfl,by kernel_rfl,trivial⟩
noncomputable def mV (a0:Int×Int×List Int×List Bool):Option ((Int×Int×List Int×List Bool)):=
 (slices_Clone a0.2.2.1).bind fun y1=>
 (slices_Clone a0.2.2.2).bind fun y3=>
 some (a0.1,a0.2.1,y1,y3)
theorem Pv {a0:Int×Int×List Int×List Bool}{r:(Int×Int×List Int×List Bool)}(hr:mV a0=some r):CallOK Tryz.prog 97 [.bl (.st (.pair tI (.pair tI (.pair aN (.sl .bool))))) a0] [⟨true,(.st (.pair tI (.pair tI (.pair aN (.sl .bool))))),r⟩] []:=
 fe Tryz.func97 rfl fun cx hX hF=>HT.g hX [] aa (bc hr sk fun y1 bQ hr=>bc hr Mf fun y3 qj hr=>HT.dg hX (nO 6 [(cl bQ),oH,oH,(cl qj)]) (dT bQ qj) (by (cases hr;exact (HT.ret (bN aa)))))
theorem Pw {xs y:List (Int×Int×Int×Int)}(h:slices_Clone xs=some y):CallOK Tryz.prog 98 [.bl (.sl (.st (.pair tI (.pair tI (.pair tI tI))))) xs] [⟨true,(.sl (.st (.pair tI (.pair tI (.pair tI tI))))),y⟩] []:=by
 obtain ⟨hg,h⟩:=ig h;have h:=ah h;subst h;refine CallOK.qS (ts:=[(true,(.sl (.st (.pair tI (.pair tI (.pair tI tI))))))]) Tryz.func98 rfl (by kernel_rfl) (Nat.le_of_ble_eq_true (by kernel_rfl)) fun cx hP hN hO hF=> ?_;show HT cx ⟨[(0,.one (.aB (.sl (.st (.pair tI (.pair tI (.pair tI tI))))) xs))],[],0⟩ _ _;refine HT.vl [0] [⟨none,.no⟩] ⟨[(0,.one (.aB (.sl (.st (.pair tI (.pair tI (.pair tI tI))))) xs))],[],0⟩ hP hN (by kernel_rfl) aa ?_;refine HT.seq ?_;refine HT.isNil (t3:=3) (t4:=4) (v:= .one (.aB (.sl (.st (.pair tI (.pair tI (.pair tI tI))))) xs)) (t:=(.st (.pair tI (.pair tI (.pair tI tI))))) (xs:=xs) (st1:=⟨[(3,.one (.aB (.sl (.st (.pair tI (.pair tI (.pair tI tI))))) xs)),(0,.one (.aB (.sl (.st (.pair tI (.pair tI (.pair tI tI))))) xs))],[],0⟩) hP hN (by kernel_rfl) rfl rfl rfl rfl (e:=85) (by kernel_rfl) rfl rfl (fun b hb=> ?_);show HT cx ⟨[(4,.one (.aB .bool b)),(3,.one (.aB (.sl (.st (.pair tI (.pair tI (.pair tI tI))))) xs)),(0,.one (.aB (.sl (.st (.pair tI (.pair tI (.pair tI tI))))) xs))],[],0⟩ _ _;cases b with
 |true=>
  have e:=hb rfl;subst e;refine HT.Cb rfl rfl ?_;refine HT.vl [2] [⟨none,.no⟩] ⟨[(2,.one .az)],[],0⟩ hP hN (by kernel_rfl) aa ?_;exact HT.ret (aD ⟨[.one .az],[],[],by kernel_rfl,by kernel_rfl,rfl,by kernel_rfl,by kernel_rfl,trivial⟩)
 |false=>
  refine HT.za rfl rfl ?_;refine HT.skip (af ?_);refine HT.vl [2] [⟨none,.no⟩,⟨none,.no⟩,⟨none,.ty (.st (.pair tI (.pair tI (.pair tI tI))))⟩,⟨none,.no⟩] ⟨[(2,.one (.all 0))],[(0,.seq (.st (.pair tI (.pair tI (.pair tI tI)))) xs)],1⟩ hP hN (by kernel_rfl) (iK hg aa) ?_;exact HT.ret ⟨[.one (.all 0)],[0],[],by kernel_rfl,by kernel_rfl,rfl,by kernel_rfl,by kernel_rfl,trivial⟩
noncomputable def js (a0:(Int×Int×List (Int×Int×Int×Int)×List Int×List Int)×(Int×Int×List Int×List Bool)×(Int×Int×List (Int×Int×Int×Int))×List Int):Option (((Int×Int×List (Int×Int×Int×Int)×List Int×List Int)×(Int×Int×List Int×List Bool)×(Int×Int×List (Int×Int×Int×Int))×List Int)):=
 (slices_Clone a0.1.2.2.1).bind fun y1=>
 (slices_Clone a0.1.2.2.2.1).bind fun y3=>
 (slices_Clone a0.1.2.2.2.2).bind fun y5=>
 (mV (a0.2.1.1,a0.2.1.2.1,a0.2.1.2.2.1,a0.2.1.2.2.2)).bind fun y7=>
 (slices_Clone a0.2.2.1.2.2).bind fun y9=>
 (slices_Clone a0.2.2.2).bind fun fQ=>
 some ((a0.1.1,a0.1.2.1,y1,y3,y5),(y7.1,y7.2.1,y7.2.2.1,y7.2.2.2),(a0.2.2.1.1,a0.2.2.1.2.1,y9),fQ)
theorem JA {a0:(Int×Int×List (Int×Int×Int×Int)×List Int×List Int)×(Int×Int×List Int×List Bool)×(Int×Int×List (Int×Int×Int×Int))×List Int}{r:((Int×Int×List (Int×Int×Int×Int)×List Int×List Int)×(Int×Int×List Int×List Bool)×(Int×Int×List (Int×Int×Int×Int))×List Int)}(hr:js a0=some r):CallOK Tryz.prog 48 [.bl (.st (.pair (.st (.pair tI (.pair tI (.pair (.sl (.st (.pair tI (.pair tI (.pair tI tI))))) (.pair aN aN))))) (.pair (.st (.pair tI (.pair tI (.pair aN (.sl .bool))))) (.pair (.st (.pair tI (.pair tI (.sl (.st (.pair tI (.pair tI (.pair tI tI)))))))) aN)))) a0] [⟨true,(.st (.pair (.st (.pair tI (.pair tI (.pair (.sl (.st (.pair tI (.pair tI (.pair tI tI))))) (.pair aN aN))))) (.pair (.st (.pair tI (.pair tI (.pair aN (.sl .bool))))) (.pair (.st (.pair tI (.pair tI (.sl (.st (.pair tI (.pair tI (.pair tI tI)))))))) aN)))),r⟩] []:=
 fe Tryz.func48 rfl fun cx hX hF=>HT.g hX [] aa (HT.g hX [] aa (bc hr Jz fun y1 bQ hr=>bc hr sk fun y3 qj hr=>bc hr sk fun y5 iL hr=>bc hr Pv fun y7 tD hr=>bc hr Pw fun y9 pv hr=>bc hr sk fun fQ iM hr=>HT.dg hX (nO 6 [(cl bQ),oH,oH,(cl qj),oH,oH,(cl iL),oH,oH,oH,(cl tD),oH,oH,oH,oH,oH,oH,oH,oH,oH,(cl pv),oH,oH,oH,(cl iM)]) (lx bQ qj iL tD (dT pv iM)) (by (cases hr;exact (HT.ret (bN aa))))))
section
open Go.RowKit
theorem Tryz.Yk:(Tryz.prog.info? 93).map (·.size)=some 2:=by kernel_rfl
theorem Tryz.Px:liesAt Tryz.prog Tryz.prog.depth 93 (2/Tryz.prog.cellsOf 93) 0 93 1=true:=by kernel_rfl
theorem Tryz.G2:(Tryz.prog.info? 5).map (fun i=>(i.zero,i.size,i.bytes))=some (some (.int .u8 0),1,1):=by kernel_rfl
set_option maxHeartbeats 1000000 in
set_option maxRecDepth 100000 in
theorem JB (b:Nat)(w:World)(h0:w.cell? ⟨b,0,none⟩=some (.pointer none))(hsh:w.shape? b=some (93,2))(Uh:w.frozen? ⟨b,0,none⟩=false):
 Calls Tryz.prog 96 #[.pointer (some ⟨b,0,none⟩)] w fun e w'=>e= .returned (.tuple #[])∧w'=w.setCell ⟨b,0,none⟩ (.pointer (some ⟨b,0,none⟩)):=by
 obtain ⟨j,hj,ZQ⟩:=Option.map_eq_some_iff.1 Tryz.Yk
 go_enter Tryz.func96,Tryz.ntmps96
 go_wp2
 rw [Lib.run_to_unsafe w ⟨b,0,none⟩ Tryz.underlying91 Tryz.underlying205 hj (by rw [ZQ];decide) hsh (Nat.zero_lt_succ 1)];simp only [Result.andThen];rw [Oper.upon_value]
 go_wp2
 rw [run_callFunc_extern Tryz.func137 (by kernel_rfl) (by kernel_rfl) (by kernel_rfl) (e:=Extern.AbiNoEscape.same) (by kernel_rfl)];rw [Lib.run_noEscape];simp only [Result.andThen];rw [Oper.upon_value]
 go_wp2
 rw [Lib.run_from_unsafe w ⟨b,0,none⟩ Tryz.underlying205 Tryz.underlying91 hj hsh Tryz.Px];simp only [Result.andThen];rw [Oper.upon_value]
 go_wp2
 go_end0
 exact ⟨rfl,rfl⟩
set_option maxHeartbeats 1000000 in
set_option maxRecDepth 100000 in
theorem Mg (b:Nat)(w:World)(h0:w.cell? ⟨b,0,none⟩=some (.pointer (some ⟨b,0,none⟩))):
 Calls Tryz.prog 96 #[.pointer (some ⟨b,0,none⟩)] w fun e w'=>e= .returned (.tuple #[])∧w'=w:=by
 obtain ⟨j,hj,_⟩:=Option.map_eq_some_iff.1 Tryz.Yk
 go_enter Tryz.func96,Tryz.ntmps96
 go_wp2
 rw [Lib.run_neq_ptr_same w _ Tryz.underlying91 hj]
 go_wp2
 go_end0
 exact ⟨rfl,rfl⟩
theorem Py (b:Nat)(p v:Value)(w:World)(hp:p= .pointer none∨p= .pointer (some ⟨b,0,none⟩))(hb:w.heap[b]? =some (.cells #[p,v] 93 (0,0))):
 Calls Tryz.prog 96 #[.pointer (some ⟨b,0,none⟩)] w fun e w'=>e= .returned (.tuple #[])∧w'.heap[b]? =some (.cells #[.pointer (some ⟨b,0,none⟩),v] 93 (0,0))∧aH [b] w w'∧(∀i,i≠b→w'.heap[i]? =w.heap[i]?)∧w'.heap.size=w.heap.size:=by
 have h0:w.cell? ⟨b,0,none⟩=some p:=by rw [Lib.cell_of_heap hb];rfl
 rcases hp with rfl|rfl
 refine (JB b w h0 (by simp [World.shape?,hb]) (Lib.frozen_of_heap hb 0)).mono ?_;rintro e w' ⟨rfl,rfl⟩;exact ⟨rfl,by simp [World.setCell,Array.getElem?_modify,hb],aH.setCell w ⟨b,0,none⟩ _,fun i hi=>RowKit.Below.heap_setCell w ⟨b,0,none⟩ _ i hi,by simp⟩;refine (Mg b w h0).mono ?_;rintro e w' ⟨rfl,rfl⟩;exact ⟨rfl,hb,aH.refl _ _,fun _ _=>rfl,rfl⟩
set_option maxHeartbeats 2000000 in
set_option maxRecDepth 100000 in
theorem WG:SF Tryz.prog 47 93 5:=by
 refine ⟨⟨_,Tryz.func47,by kernel_rfl,by kernel_rfl⟩,fun b p v own xs s w hp hb cX Aq hlen=> ?_⟩;obtain ⟨i0,hi,pG,U0,Wn⟩:=info_parts Tryz.G2
 go_enter Tryz.func47,Tryz.ntmps47
 go_wp2_with (go_at_call 96;refine (Py b p v w hp hb).mono ?_)
 rintro e w1 ⟨rfl,tR,Gs,Od,zW⟩;have NI:sG own w1 5 v (jT xs):=Aq.ar fun g hg=>Od g (fun e=>cX (by rw [hg,e]));have c0:w1.cell? ⟨b,0,none⟩=some (.pointer (some ⟨b,0,none⟩)):=by rw [Lib.cell_of_heap tR];rfl
 have c1:w1.cell? ⟨b,1,none⟩=some v:=by rw [Lib.cell_of_heap tR];rfl
 go_wp2_with (at_builtin;refine se rfl _ _ 22 9 rfl Tryz.underlying22 Tryz.underlying9 hi pG U0 Wn NI hlen rfl rfl ?_)
 intro v' iI w2 JC NJ fR;have hlt:b<w1.heap.size:=(Array.getElem?_eq_some_iff.1 tR).1;have oP:w2.heap[b]? =some (.cells #[.pointer (some ⟨b,0,none⟩),v] 93 (0,0)):=by
  rw [fR.block b hlt (fun h=>cX (by rw [Option.mem_toList] at h;exact h))];exact tR
 have d0:w2.cell? ⟨b,0,none⟩=some (.pointer (some ⟨b,0,none⟩)):=by rw [Lib.cell_of_heap oP];rfl
 have d1:w2.cell? ⟨b,1,none⟩=some v:=by rw [Lib.cell_of_heap oP];rfl
 have f1:w2.frozen? ⟨b,1,none⟩=false:=Lib.frozen_of_heap oP 1;have ve:iI≠some b:=fun h=>by
  rcases NJ with e|e
  exact cX (e▸h);rw [e] at h;injection h with h;omega
 obtain ⟨ao,n',cap,rfl⟩: ∃ao n' cap,v'= .slice ao n' cap:=by
  cases iI with
  |none=>exact ⟨_,_,_,JC.1⟩
  |some g=>obtain ⟨cap,_,h,_⟩:=JC;exact ⟨_,_,_,h⟩
 clear Aq NI
 go_wp2
 go_ret2
 refine ⟨⟨_,rfl⟩,.slice ao n' cap,iI,by simp [World.setCell,Array.getElem?_modify,oP],ve,JC.ar fun g hg=>RowKit.Below.heap_setCell w2 ⟨b,1,none⟩ _ g (fun e=>ve (by rw [hg,e])),?_,?_⟩;rcases NJ with e|e
 exact .inl e;exact .inr fun g hg=>by rw [e] at hg;injection hg with hg;omega
 have up: ∀{F:List Nat} {a b':World},(∀x∈F,x∈b::own.toList)→aH F a b'→aH (b::own.toList) a b':=fun hF h=>⟨h.os,h.tape,h.output,h.size,fun i hi hn=>h.block i hi (fun hx=>hn (hF i hx)),h.sz⟩;exact ((up (by simp) Gs).trans (up (fun x hx=>List.mem_cons_of_mem _ hx) fR)).trans (up (by simp) (aH.setCell w2 ⟨b,1,none⟩ _))
theorem ke (w:World)(g n:Nat):(w.drew.freeze ⟨g,0,none⟩ n).os=w.os∧(w.drew.freeze ⟨g,0,none⟩ n).tape=w.tape∧(w.drew.freeze ⟨g,0,none⟩ n).output=w.output∧w.heap.size≤(w.drew.freeze ⟨g,0,none⟩ n).heap.size∧ ∀i,g≠i→(w.drew.freeze ⟨g,0,none⟩ n).heap[i]? =w.heap[i]? :=by
 have hd:w.drew.heap=w.heap:=rfl;unfold World.freeze;split;exact ⟨rfl,rfl,rfl,Nat.le_refl _,fun _ _=>rfl⟩;refine ⟨rfl,rfl,rfl,?_,fun i hi=> ?_⟩;simp [hd];simp [hd,Array.getElem?_modify,hi]
set_option maxHeartbeats 2000000 in
set_option maxRecDepth 100000 in
theorem WH:SG Tryz.prog 49 93 5:=by
 refine ⟨⟨_,Tryz.func49,by kernel_rfl,by kernel_rfl⟩,fun b p v own xs w hp hb cX Aq hx=> ?_⟩;cases own with
 |none=>exact absurd Aq.2 (by cases xs with|nil=>exact absurd rfl hx|cons=>simp [jT])
 |some g=>
  obtain ⟨cap,cur,rfl,hg,hn,XX,hcs,Nf⟩:=Aq;rw [gx] at hn Nf hb;have tP:xs.length≠0:=by simpa using hx
  have c1:w.drew.cell? ⟨b,1,none⟩=some (.slice (some ⟨g,0,none⟩) xs.length cap):=by
   have:w.drew.heap[b]? =some (.cells #[p,.slice (some ⟨g,0,none⟩) xs.length cap] 93 (0,0)):=hb;rw [Lib.cell_of_heap this];rfl
  have hSD:(Builtin.unsafeSliceData_ #[22] 163 #[.slice (some ⟨g,0,none⟩) xs.length cap]).run Tryz.prog w.drew= .ok (.pointer (some ⟨g,0,none⟩)) w.drew:=
   Lib.run_unsafeSliceData_row _ _ _ _ _ _ (by omega)
  have I8:cg w.drew g cur:=⟨5,0,0,hg,.inl rfl⟩;have hUS:(Builtin.unsafeString_ #[163,3] 9 #[.pointer (some ⟨g,0,none⟩),.int .i64 xs.length]).run Tryz.prog w.drew= .ok (.string ⟨xs.toArray⟩) (w.drew.freeze ⟨g,0,none⟩ xs.length):=by
   refine Lib.run_unsafeString_row w.drew 163 3 9 5 Tryz.underlying163 Tryz.tA.cellsByte g cur.size (by have gb:w.drew.heap[g]? =some (.cells cur 5 (0,0)):=hg;simp [World.shape?,gb]) xs hx (by omega) (by unfold maxLen at XX;omega) ?_;intro j x hj;rw [aX,I8.cell,Nat.zero_add,←Array.getElem?_toList];have:(jT xs)[j]? =some (.int .u8 x.toNat):=by simp [jT,hj]
   rw [←Nf,List.getElem?_take] at this;split at this;exact this;cases this
  clear I8
  go_enter Tryz.func49,Tryz.ntmps49
  go_wp2
  go_region
  all_goals (go_wp2;go_ret;exact ⟨rfl,(ke w g xs.length).1,(ke w g xs.length).2.1,(ke w g xs.length).2.2.1,(ke w g xs.length).2.2.2.1,fun i _ cX=>(ke w g xs.length).2.2.2.2 i fun e=>cX (congrArg some e)⟩)
end
noncomputable def ir (y4:(List (Int×Int×Int×Int)))(s6:Int×(List (Int×Int×Int×Int))):Option ((Int×(List (Int×Int×Int×Int)))⊕((List (Int×Int×Int×Int)))):=
 bif (decide (s6.1<(ae y4))) then
  ai ((0:Int)≤s6.1∧s6.1<ae s6.2) (
   ai ((0:Int)≤s6.1∧s6.1<ae (List.set s6.2 (Int.toNat s6.1) (((List.getD s6.2 (Int.toNat s6.1) ((0:Int),(0:Int),(0:Int),(0:Int))).2).1,((List.getD s6.2 (Int.toNat s6.1) ((0:Int),(0:Int),(0:Int),(0:Int))).2).1,(((List.getD s6.2 (Int.toNat s6.1) ((0:Int),(0:Int),(0:Int),(0:Int))).2).2).1,(((List.getD s6.2 (Int.toNat s6.1) ((0:Int),(0:Int),(0:Int),(0:Int))).2).2).2))) (
    some (.inl ((aj .i64 s6.1 (1:Int)),(List.set (List.set s6.2 (Int.toNat s6.1) (((List.getD s6.2 (Int.toNat s6.1) ((0:Int),(0:Int),(0:Int),(0:Int))).2).1,((List.getD s6.2 (Int.toNat s6.1) ((0:Int),(0:Int),(0:Int),(0:Int))).2).1,(((List.getD s6.2 (Int.toNat s6.1) ((0:Int),(0:Int),(0:Int),(0:Int))).2).2).1,(((List.getD s6.2 (Int.toNat s6.1) ((0:Int),(0:Int),(0:Int),(0:Int))).2).2).2)) (Int.toNat s6.1) ((List.getD (List.set s6.2 (Int.toNat s6.1) (((List.getD s6.2 (Int.toNat s6.1) ((0:Int),(0:Int),(0:Int),(0:Int))).2).1,((List.getD s6.2 (Int.toNat s6.1) ((0:Int),(0:Int),(0:Int),(0:Int))).2).1,(((List.getD s6.2 (Int.toNat s6.1) ((0:Int),(0:Int),(0:Int),(0:Int))).2).2).1,(((List.getD s6.2 (Int.toNat s6.1) ((0:Int),(0:Int),(0:Int),(0:Int))).2).2).2)) (Int.toNat s6.1) ((0:Int),(0:Int),(0:Int),(0:Int))).1,(List.getD s6.2 (Int.toNat s6.1) ((0:Int),(0:Int),(0:Int),(0:Int))).1,(((List.getD (List.set s6.2 (Int.toNat s6.1) (((List.getD s6.2 (Int.toNat s6.1) ((0:Int),(0:Int),(0:Int),(0:Int))).2).1,((List.getD s6.2 (Int.toNat s6.1) ((0:Int),(0:Int),(0:Int),(0:Int))).2).1,(((List.getD s6.2 (Int.toNat s6.1) ((0:Int),(0:Int),(0:Int),(0:Int))).2).2).1,(((List.getD s6.2 (Int.toNat s6.1) ((0:Int),(0:Int),(0:Int),(0:Int))).2).2).2)) (Int.toNat s6.1) ((0:Int),(0:Int),(0:Int),(0:Int))).2).2).1,(((List.getD (List.set s6.2 (Int.toNat s6.1) (((List.getD s6.2 (Int.toNat s6.1) ((0:Int),(0:Int),(0:Int),(0:Int))).2).1,((List.getD s6.2 (Int.toNat s6.1) ((0:Int),(0:Int),(0:Int),(0:Int))).2).1,(((List.getD s6.2 (Int.toNat s6.1) ((0:Int),(0:Int),(0:Int),(0:Int))).2).2).1,(((List.getD s6.2 (Int.toNat s6.1) ((0:Int),(0:Int),(0:Int),(0:Int))).2).2).2)) (Int.toNat s6.1) ((0:Int),(0:Int),(0:Int),(0:Int))).2).2).2))))))
 else
  some (.inr s6.2)
noncomputable def iu (a0:Int×Int×List (Int×Int×Int×Int)×List Int×List Int):Option ((Int×Int×List (Int×Int×Int×Int)×List Int×List Int)×Bool):=
 (bW (a0.1,a0.2.1,a0.2.2.1,a0.2.2.2.1,a0.2.2.2.2)).bind fun y1=>
 bif (!y1) then
  some (((0:Int),(0:Int),([]:List (Int×Int×Int×Int)),([]:List Int),([]:List Int)),false)
 else
  (slices_Clone a0.2.2.1).bind fun y4=>
  (rounds (ir y4) ((0:Int),y4)).bind fun r8=>
  (slices_Clone a0.2.2.2.2).bind fun y9=>
  (slices_Clone a0.2.2.2.1).bind fun fQ=>
  some ((a0.1,a0.2.1,r8,y9,fQ),true)
theorem JD {a0:Int×Int×List (Int×Int×Int×Int)×List Int×List Int}{r:(Int×Int×List (Int×Int×Int×Int)×List Int×List Int)×Bool}(hr:iu a0=some r):CallOK Tryz.prog 24 [.bl (.st (.pair tI (.pair tI (.pair (.sl (.st (.pair tI (.pair tI (.pair tI tI))))) (.pair aN aN))))) a0] [⟨true,(.st (.pair tI (.pair tI (.pair (.sl (.st (.pair tI (.pair tI (.pair tI tI))))) (.pair aN aN))))),r.1⟩,⟨false,.bool,r.2⟩] []:=
 fe Tryz.func24 rfl fun cx hX hF=>HT.g hX [] aa (HT.seq (bc hr xg fun y1 bQ hr=>HT.g hX [oH,(cl bQ)] (aQ bQ) (HT.cb hr (fun pZ hr=>HT.g hX [] aa (by (cases hr;exact (HT.ret (aD (bN aa)))))) fun pZ hr=>HT.skip (af (bc hr Jz fun y4 uZ hr=>HT.g hX [oH,oH,(cl uZ)] (aQ uZ) (HT.seq (HT.g hX [] aa (HT.block (HT.lp hX hr (fun s6=>up [1,2,4,14,15] [(16,iV s6.1)] [0,1] [(2,.seq (.st (.pair tI (.pair tI (.pair tI tI)))) s6.2)] 0) (fun r8=>(.exit 0,up [1,2,4] [] [0,1] [(2,.seq (.st (.pair tI (.pair tI (.pair tI tI)))) r8)] 0)) (fun r8 hr=>(aI (af (bc hr sk fun y9 pv hr=>bc hr sk fun fQ iM hr=>HT.dg hX (nO 7 [(cl pv),oH,oH,(cl iM)]) (dT pv iM) (by (cases hr;exact (HT.ret (bN aa)))))))) fun s6 x13 AB WI=>HT.g hX [] aa (HT.cj AB (fun xl AB=>HT.seq (HT.block (bg AB fun AD AB=>HT.g hX [] (dT AD (bd AD)) (bg AB fun yA AB=>HT.dl hX [] (oJ AD (bd AD) yA (bd yA)) (aE (af (HT.k hX [] aa fun _ h=>(aU (lN AB h))))))))) fun xl AB=>HT.xe hX (aT (aW (WI _ (an AB))))))))))))))
theorem JE:oG Tryz.prog 172 (.st (cS .i64 4)):=oG.arr (E:=2) (by kernel_rfl) (by kernel_rfl) (by kernel_rfl) (by kernel_rfl)
noncomputable def cH (a0:Int×Int×List Int×List Bool)(a1:Int)(a2:Int):Option (Int):=
 ai ((0:Int)≤(aj .i64 (ij .i64 a1 a0.2.1) a2)∧(aj .i64 (ij .i64 a1 a0.2.1) a2)<ae a0.2.2.1) (
  some (List.getD a0.2.2.1 (Int.toNat (aj .i64 (ij .i64 a1 a0.2.1) a2)) (0:Int)))
theorem AE {a0:Int×Int×List Int×List Bool}{a1:Int}{a2:Int}{r:Int}(hr:cH a0 a1 a2=some r):CallOK Tryz.prog 54 [.bl (.st (.pair tI (.pair tI (.pair aN (.sl .bool))))) a0,.bl tI a1,.bl tI a2] [⟨false,tI,r⟩] []:=
 fe Tryz.func54 rfl fun cx hX hF=>HT.g hX [] aa (bg hr fun DA hr=>HT.g hX [] (aQ DA) (by (cases hr;exact (HT.ret (bN aa)))))
noncomputable def kf (a0:Int×Int×List Int×List Bool)(s5:Int×List Int)(aL:Int×(List ((cS .i64 4).D×Int))×List Int)(FT:Int×List Int):Option ((Int×List Int)⊕(List Int)):=
 bif (decide (FT.1<a0.2.1)) then
  (cH (a0.1,a0.2.1,a0.2.2.1,a0.2.2.2) aL.1 FT.1).bind fun UE=>
  ai ((0:Int)≤UE∧UE<ae s5.2) (
   ai ((0:Int)≤(aj .i64 (1:Int) FT.1)∧(aj .i64 (1:Int) FT.1)<((5:Nat):Int)) (
    ai (0+1*Int.toNat (aj .i64 (1:Int) FT.1)<List.length FT.2) (
     some (.inl ((aj .i64 FT.1 (1:Int)),(List.set FT.2 (0+1*Int.toNat (aj .i64 (1:Int) FT.1)) (List.getD s5.2 (Int.toNat UE) (0:Int))))))))
 else
  some (.inr FT.2)
noncomputable def kg (a0:Int×Int×List Int×List Bool)(s5:Int×List Int)(aL:Int×(List ((cS .i64 4).D×Int))×List Int):Option ((Int×(List ((cS .i64 4).D×Int))×List Int)⊕(List Int)):=
 bif (decide (aL.1<a0.1)) then
  ai ((0:Int)≤aL.1∧aL.1<ae s5.2) (
   (rounds (kf a0 s5 aL) ((0:Int),([(List.getD s5.2 (Int.toNat aL.1) (0:Int)),(0:Int),(0:Int),(0:Int),(0:Int)]:List Int))).bind fun pw=>
   ai (List.length pw=5) (
    (show Option (Int×(List ((cS .i64 4).D×Int))) from
     bif (!((cn (t:=(.st (cS .i64 4))) (u:=tI) aL.2.1 (sd .i64 4 0 pw)).isSome)) then
      ai (cn (t:=(.st (cS .i64 4))) (u:=tI) aL.2.1 (sd .i64 4 0 pw)=none) (
       some ((ae aL.2.1),(aL.2.1++[((sd .i64 4 0 pw),(ae aL.2.1))])))
     else
      some (((cn (t:=(.st (cS .i64 4))) (u:=tI) aL.2.1 (sd .i64 4 0 pw)).getD (0:Int)),aL.2.1)).bind fun v25=>
    ai ((0:Int)≤aL.1∧aL.1<ae aL.2.2) (
     some (.inl ((aj .i64 aL.1 (1:Int)),v25.2,(List.set aL.2.2 (Int.toNat aL.1) v25.1))))))
 else
  some (.inr aL.2.2)
noncomputable def kh (a0:Int×Int×List Int×List Bool)(s5:Int×List Int):Option ((Int×List Int)⊕(List Int)):=
 bif (decide (s5.1<a0.1)) then
  (rounds (kg a0 s5) ((0:Int),([]:List ((cS .i64 4).D×Int)),(List.replicate (Int.toNat a0.1) (0:Int)))).bind fun Mh=>
  some (.inl ((aj .i64 s5.1 (1:Int)),Mh))
 else
  some (.inr s5.2)
noncomputable def nH (a0:Int×Int×List Int×List Bool)(s2:Int×List Int):Option ((Int×List Int)⊕(List Int)):=
 bif (decide (s2.1<(ae a0.2.2.2))) then
  (show Option (List Int) from
   ai ((0:Int)≤s2.1∧s2.1<ae a0.2.2.2) (
    bif (List.getD a0.2.2.2 (Int.toNat s2.1) false) then
     ai ((0:Int)≤s2.1∧s2.1<ae s2.2) (
      some (List.set s2.2 (Int.toNat s2.1) (1:Int)))
    else
     some s2.2)).bind fun Mi=>
  some (.inl ((aj .i64 s2.1 (1:Int)),Mi))
 else
  some (.inr s2.2)
noncomputable def ki (a0:Int×Int×List Int×List Bool):Option (List Int):=
 ai ((0:Int)≤a0.1∧a0.1≤4294967296) (
  (rounds (nH a0) ((0:Int),(List.replicate (Int.toNat a0.1) (0:Int)))).bind fun r4=>
  (rounds (kh a0) ((0:Int),r4)).bind fun r7=>
  some r7)
theorem Pz {a0:Int×Int×List Int×List Bool}{r:List Int}(hr:ki a0=some r):CallOK Tryz.prog 61 [.bl (.st (.pair tI (.pair tI (.pair aN (.sl .bool))))) a0] [⟨true,aN,r⟩] []:=
 fe Tryz.func61 rfl fun cx hX hF=>HT.g hX [] aa (bg hr fun DA hr=>HT.g hX [oH,oH,(hT tI)] (aQ (Rd DA)) (HT.seq (HT.g hX [] aa (HT.block (HT.lp hX hr (fun s2=>up [1,3,17,18] [(19,iV s2.1)] [0] [(1,.seq tI s2.2)] 0) (fun r4=>(.exit 0,up [1,3] [] [0] [(1,.seq tI r4)] 0)) (fun r4 hr=>(aI (af (HT.seq (HT.g hX [] aa (HT.block (HT.lp hX hr (fun s5=>up [1,3,30] [(31,iV s5.1)] [0] [(1,.seq tI s5.2)] 0) (fun r7=>(.exit 2,up [3] [] [] [(1,.seq tI r7)] 0)) (fun r7 hr=>(aI (af (HT.g hX [] aa (by (cases hr;exact (HT.ret (bN aa)))))))) fun s5 x8 pJ Es=>HT.g hX [] aa (HT.cj pJ (fun nT pJ=>HT.seq (HT.block (HT.ex ⟨[(1,pV 0 0),(3,aV 1),(30,iV a0.1),(31,iV s5.1),(32,bV (decide (s5.1<a0.1)))],[(0,.box [iC a0.1,iC a0.2.1,nC a0.2.2.1,.aB (.sl .bool) a0.2.2.2]),(1,.seq tI s5.2)],2⟩ hX (by (refine HT.seq (HT.rg (RG.makeMap (.st (cS .i64 4)) tI hX rfl rfl rfl (by kernel_rfl) (by kernel_rfl) (RG.pF [1,3,6,30,31] [oH] ⟨[(1,pV 0 0),(3,aV 1),(6,.one (.kG 2)),(30,iV a0.1),(31,iV s5.1)],[(2,.mp (.st (cS .i64 4)) tI ([]:List ((cS .i64 4).D×Int))),(0,.box [iC a0.1,iC a0.2.1,nC a0.2.2.1,.aB (.sl .bool) a0.2.2.2]),(1,.seq tI s5.2)],3⟩ hX.P hX.N (by kernel_rfl) aa ?_)));exact (HT.g hX [oH,oH,(hT tI)] (aQ (Rd DA)) (HT.seq (HT.g hX [] aa (HT.block (HT.lp hX pJ (fun aL=>up [1,3,6,7,30,31,38] [(39,iV aL.1)] [0,1] [(2,.mp (.st (cS .i64 4)) tI aL.2.1),(3,.seq tI aL.2.2)] 0) (fun Mh=>(.exit 4,up [1,7,30,31] [] [0] [(3,.seq tI Mh)] 0)) (fun Mh pJ=>(aI (af (HT.l hX [] aa (aE (af (HT.k hX [] aa fun _ h=>(aU (lN pJ h))))))))) fun aL x15 mW PA=>HT.g hX [] aa (HT.cj mW (fun JF mW=>HT.seq (HT.block (HT.g hX [] aa (bg mW fun Jv mW=>HT.ex ⟨[(1,pV 0 0),(3,aV 1),(6,.one (.kG 2)),(7,aV 3),(8,iV aL.1),(30,iV a0.1),(31,iV s5.1),(38,iV a0.1),(39,iV aL.1)],[(0,.box [iC a0.1,iC a0.2.1,nC a0.2.2.1,.aB (.sl .bool) a0.2.2.2]),(1,.seq tI s5.2),(2,.mp (.st (cS .i64 4)) tI aL.2.1),(3,.seq tI aL.2.2)],4⟩ hX (by (refine HT.seq (HT.rg (RG.cut 4 [oH,oH,oH,oH] ⟨[(45,iV (List.getD s5.2 (Int.toNat aL.1) (0:Int))),(44,.one (.bT 1 (Int.toNat aL.1) 1 0)),(43,iV aL.1),(42,aV 1),(1,pV 0 0),(3,aV 1),(6,.one (.kG 2)),(7,aV 3),(8,iV aL.1),(30,iV a0.1),(31,iV s5.1),(38,iV a0.1),(39,iV aL.1)],[(0,.box [iC a0.1,iC a0.2.1,nC a0.2.2.1,.aB (.sl .bool) a0.2.2.2]),(1,.seq tI s5.2),(2,.mp (.st (cS .i64 4)) tI aL.2.1),(3,.seq tI aL.2.2)],4⟩ hX.P hX.N (by kernel_rfl) (iK Jv (iK (bd Jv) aa)) (RG.O0 (n:=1) (len:=5) (E:=2) [iC (List.getD s5.2 (Int.toNat aL.1) (0:Int)),iC (0:Int),iC (0:Int),iC (0:Int),iC (0:Int)] hX rfl rfl rfl (by kernel_rfl) (by kernel_rfl) (by kernel_rfl) (z:= .agg (List.replicate 5 (Value.int .i64 0)).toArray) (by kernel_rfl) (by kernel_rfl) rfl (by kernel_rfl) (RG.O1 .i64 5 hX rfl rfl rfl (by kernel_rfl) (by kernel_rfl) (by kernel_rfl) (RG.O2 (k:= .i64) (n:=5) ([(List.getD s5.2 (Int.toNat aL.1) (0:Int)),(0:Int),(0:Int),(0:Int),(0:Int)]:List Int) hX rfl rfl rfl (by kernel_rfl) rfl rfl (show List.length (List.replicate 5 (0:Int))=5 from rfl) rfl rfl rfl (RG.pF [1,3,6,7,8,9,30,31,38,39] [] ⟨[(1,pV 0 0),(3,aV 1),(6,.one (.kG 2)),(7,aV 3),(8,iV aL.1),(9,.one (.bT 4 0 1 0)),(30,iV a0.1),(31,iV s5.1),(38,iV a0.1),(39,iV aL.1)],[(4,.seq tI ([(List.getD s5.2 (Int.toNat aL.1) (0:Int)),(0:Int),(0:Int),(0:Int),(0:Int)]:List Int)),(4,.seq tI (List.replicate 5 (0:Int))),(0,.box [iC a0.1,iC a0.2.1,nC a0.2.2.1,.aB (.sl .bool) a0.2.2.2]),(1,.seq tI s5.2),(2,.mp (.st (cS .i64 4)) tI aL.2.1),(3,.seq tI aL.2.2)],5⟩ hX.P hX.N (by kernel_rfl) aa ?_))))));exact (HT.seq (HT.g hX [] aa (HT.block (HT.lp hX mW (fun FT=>up [1,3,6,7,8,9,30,31,38,39,48] [(49,iV FT.1)] [0,1,2,3] [(4,.seq tI FT.2)] 0) (fun pw=>(.exit 6,up [1,3,6,7,8,9,30,31,38,39] [] [0,1,2,3] [(4,.seq tI pw)] 0)) (fun pw mW=>(aI (af (bg mW fun Cu mW=>HT.ex ⟨[(1,pV 0 0),(3,aV 1),(6,.one (.kG 2)),(7,aV 3),(8,iV aL.1),(9,.one (.bT 4 0 1 0)),(30,iV a0.1),(31,iV s5.1),(38,iV a0.1),(39,iV aL.1)],[(0,.box [iC a0.1,iC a0.2.1,nC a0.2.2.1,.aB (.sl .bool) a0.2.2.2]),(1,.seq tI s5.2),(2,.mp (.st (cS .i64 4)) tI aL.2.1),(3,.seq tI aL.2.2),(4,.seq tI pw)],5⟩ hX (by (refine HT.seq (HT.rg (RG.cut 1 [oH] ⟨[(64,.one (.kG 2)),(1,pV 0 0),(3,aV 1),(6,.one (.kG 2)),(7,aV 3),(8,iV aL.1),(9,.one (.bT 4 0 1 0)),(30,iV a0.1),(31,iV s5.1),(38,iV a0.1),(39,iV aL.1)],[(0,.box [iC a0.1,iC a0.2.1,nC a0.2.2.1,.aB (.sl .bool) a0.2.2.2]),(1,.seq tI s5.2),(2,.mp (.st (cS .i64 4)) tI aL.2.1),(3,.seq tI aL.2.2),(4,.seq tI pw)],5⟩ hX.P hX.N (by kernel_rfl) aa (RG.Ny (k:= .i64) (n:=5) hX rfl rfl rfl (by kernel_rfl) (by kernel_rfl) (by kernel_rfl) rfl rfl Cu (RG.I3 (t:=(.st (cS .i64 4))) (u:=tI) (x:=(sd .i64 4 0 pw)) (z:=Value.int .i64 0) (y0:=(0:Int)) hX rfl rfl rfl (by kernel_rfl) (K:=172) (E:=2) (by kernel_rfl) JE rfl (by kernel_rfl) rfl rfl rfl rfl rfl (RG.pF [1,3,6,7,8,9,11,12,30,31,38,39] [oH,oH,oH,oH,oH] ⟨[(1,pV 0 0),(3,aV 1),(6,.one (.kG 2)),(7,aV 3),(8,iV aL.1),(9,.one (.bT 4 0 1 0)),(11,iV ((cn (t:=(.st (cS .i64 4))) (u:=tI) aL.2.1 (sd .i64 4 0 pw)).getD (0:Int))),(12,bV ((cn (t:=(.st (cS .i64 4))) (u:=tI) aL.2.1 (sd .i64 4 0 pw)).isSome)),(30,iV a0.1),(31,iV s5.1),(38,iV a0.1),(39,iV aL.1)],[(0,.box [iC a0.1,iC a0.2.1,nC a0.2.2.1,.aB (.sl .bool) a0.2.2.2]),(1,.seq tI s5.2),(2,.mp (.st (cS .i64 4)) tI aL.2.1),(3,.seq tI aL.2.2),(4,.seq tI pw)],5⟩ hX.P hX.N (by kernel_rfl) aa ?_)))));exact (HT.jn mW (fun v25=>up [1,3,6,7,8,30,31,38,39] [(11,iV v25.1)] [0,1,3] [(2,.mp (.st (cS .i64 4)) tI v25.2)] 0) (fun v25 mW=>bg mW fun Cv mW=>HT.l hX [] (dT Cv (bd Cv)) (aE (af (HT.k hX [] aa fun _ h=>(aU (lN mW h)))))) fun _ Et S7=>HT.g hX [] aa (HT.cb Et (fun Ct Et=>HT.ex ⟨[(1,pV 0 0),(3,aV 1),(6,.one (.kG 2)),(7,aV 3),(8,iV aL.1),(9,.one (.bT 4 0 1 0)),(11,iV ((cn (t:=(.st (cS .i64 4))) (u:=tI) aL.2.1 (sd .i64 4 0 pw)).getD (0:Int))),(30,iV a0.1),(31,iV s5.1),(38,iV a0.1),(39,iV aL.1),(70,bV (!((cn (t:=(.st (cS .i64 4))) (u:=tI) aL.2.1 (sd .i64 4 0 pw)).isSome)))],[(0,.box [iC a0.1,iC a0.2.1,nC a0.2.2.1,.aB (.sl .bool) a0.2.2.2]),(1,.seq tI s5.2),(2,.mp (.st (cS .i64 4)) tI aL.2.1),(3,.seq tI aL.2.2),(4,.seq tI pw)],5⟩ hX (by (refine HT.seq (HT.rg (RG.cut 1 [oH] ⟨[(71,.one (.kG 2)),(1,pV 0 0),(3,aV 1),(6,.one (.kG 2)),(7,aV 3),(8,iV aL.1),(9,.one (.bT 4 0 1 0)),(11,iV ((cn (t:=(.st (cS .i64 4))) (u:=tI) aL.2.1 (sd .i64 4 0 pw)).getD (0:Int))),(30,iV a0.1),(31,iV s5.1),(38,iV a0.1),(39,iV aL.1),(70,bV (!((cn (t:=(.st (cS .i64 4))) (u:=tI) aL.2.1 (sd .i64 4 0 pw)).isSome)))],[(0,.box [iC a0.1,iC a0.2.1,nC a0.2.2.1,.aB (.sl .bool) a0.2.2.2]),(1,.seq tI s5.2),(2,.mp (.st (cS .i64 4)) tI aL.2.1),(3,.seq tI aL.2.2),(4,.seq tI pw)],5⟩ hX.P hX.N (by kernel_rfl) aa (RG.OZ hX rfl ⟨rfl,rfl,rfl⟩ rfl rfl (by kernel_rfl) (K:=172) (E:=2) (by kernel_rfl) rfl rfl (RG.pF [1,3,6,7,8,9,11,30,31,38,39] [oH] ⟨[(1,pV 0 0),(3,aV 1),(6,.one (.kG 2)),(7,aV 3),(8,iV aL.1),(9,.one (.bT 4 0 1 0)),(11,iV (ae aL.2.1)),(30,iV a0.1),(31,iV s5.1),(38,iV a0.1),(39,iV aL.1)],[(0,.box [iC a0.1,iC a0.2.1,nC a0.2.2.1,.aB (.sl .bool) a0.2.2.2]),(1,.seq tI s5.2),(2,.mp (.st (cS .i64 4)) tI aL.2.1),(3,.seq tI aL.2.2),(4,.seq tI pw)],5⟩ hX.P hX.N (by kernel_rfl) aa ?_))));exact (bg Et fun JG Et=>HT.ex ⟨[(1,pV 0 0),(3,aV 1),(6,.one (.kG 2)),(7,aV 3),(8,iV aL.1),(9,.one (.bT 4 0 1 0)),(11,iV (ae aL.2.1)),(30,iV a0.1),(31,iV s5.1),(38,iV a0.1),(39,iV aL.1)],[(0,.box [iC a0.1,iC a0.2.1,nC a0.2.2.1,.aB (.sl .bool) a0.2.2.2]),(1,.seq tI s5.2),(2,.mp (.st (cS .i64 4)) tI aL.2.1),(3,.seq tI aL.2.2),(4,.seq tI pw)],5⟩ hX (HT.X6 (fun hq=>(RG.cut 1 [oH] ⟨[(73,.one (.kG 2)),(1,pV 0 0),(3,aV 1),(6,.one (.kG 2)),(7,aV 3),(8,iV aL.1),(9,.one (.bT 4 0 1 0)),(11,iV (ae aL.2.1)),(30,iV a0.1),(31,iV s5.1),(38,iV a0.1),(39,iV aL.1)],[(0,.box [iC a0.1,iC a0.2.1,nC a0.2.2.1,.aB (.sl .bool) a0.2.2.2]),(1,.seq tI s5.2),(2,.mp (.st (cS .i64 4)) tI aL.2.1),(3,.seq tI aL.2.2),(4,.seq tI pw)],5⟩ hX.P hX.N (by kernel_rfl) aa (RG.Ny (k:= .i64) (n:=5) hX rfl rfl rfl (by kernel_rfl) (by kernel_rfl) (by kernel_rfl) rfl rfl Cu (RG.cut 1 [oH] ⟨[(75,iV (ae aL.2.1)),(74,.agg [iC (List.getD pw 0 0),iC (List.getD pw 1 0),iC (List.getD pw 2 0),iC (List.getD pw 3 0),iC (List.getD pw 4 0)]),(73,.one (.kG 2)),(1,pV 0 0),(3,aV 1),(6,.one (.kG 2)),(7,aV 3),(8,iV aL.1),(9,.one (.bT 4 0 1 0)),(11,iV (ae aL.2.1)),(30,iV a0.1),(31,iV s5.1),(38,iV a0.1),(39,iV aL.1)],[(0,.box [iC a0.1,iC a0.2.1,nC a0.2.2.1,.aB (.sl .bool) a0.2.2.2]),(1,.seq tI s5.2),(2,.mp (.st (cS .i64 4)) tI aL.2.1),(3,.seq tI aL.2.2),(4,.seq tI pw)],5⟩ hX.P hX.N (by kernel_rfl) aa (RG.Ed (t:=(.st (cS .i64 4))) (u:=tI) (x:=(sd .i64 4 0 pw)) (y:=(ae aL.2.1)) hX (.inl rfl) rfl rfl (K:=172) (E:=2) (by kernel_rfl) JE rfl rfl rfl rfl rfl rfl rfl JG (RG.last [] ⟨[(75,iV (ae aL.2.1)),(74,.agg [iC (List.getD pw 0 0),iC (List.getD pw 1 0),iC (List.getD pw 2 0),iC (List.getD pw 3 0),iC (List.getD pw 4 0)]),(73,.one (.kG 2)),(1,pV 0 0),(3,aV 1),(6,.one (.kG 2)),(7,aV 3),(8,iV aL.1),(9,.one (.bT 4 0 1 0)),(11,iV (ae aL.2.1)),(30,iV a0.1),(31,iV s5.1),(38,iV a0.1),(39,iV aL.1)],[(2,.mp (.st (cS .i64 4)) tI (aL.2.1++[((sd .i64 4 0 pw),(ae aL.2.1))])),(0,.box [iC a0.1,iC a0.2.1,nC a0.2.2.1,.aB (.sl .bool) a0.2.2.2]),(1,.seq tI s5.2),(2,.mp (.st (cS .i64 4)) tI aL.2.1),(3,.seq tI aL.2.2),(4,.seq tI pw)],5⟩ hX.P hX.N (by kernel_rfl) aa hq)))))) (af (HT.re hX (S7 _ (ah Et))))))))) fun Ct Et=>HT.skip (af (HT.re hX (S7 _ (ah Et)))))))))))) fun FT x31 uv WJ=>HT.g hX [] aa (HT.cj uv (fun WK uv=>HT.seq (HT.block (HT.g hX [] aa (bc uv AE fun UE S8 uv=>bg uv fun Mj uv=>bg uv fun Mk uv=>bg uv fun Ml uv=>HT.l hX (nO 6 [(cl S8)]) (lx S8 Mj (bd Mj) Mk (aQ Ml)) (aE (af (HT.k hX [] aa fun _ h=>(aU (lN uv h))))))))) fun WK uv=>HT.xe hX (aT (aW (WJ _ (an uv))))))))))))))) fun JF mW=>HT.xe hX (aT (aW (PA _ (an mW))))))))))))))) fun nT pJ=>HT.xe hX (aT (aW (Es _ (an pJ)))))))))))) fun s2 Yl lU JH=>HT.g hX [] aa (HT.cj lU (fun uw lU=>HT.jn lU (fun Mi=>up [1,3,17,18,19] [] [0] [(1,.seq tI Mi)] 0) (fun Mi lU=>HT.k hX [] aa fun _ h=>(aU (lN lU h))) fun _ mX JI=>HT.block (bg mX fun PB mX=>HT.g hX [] (aQ PB) (HT.g hX [] aa (HT.cb mX (fun Eu mX=>bg mX fun S9 mX=>HT.k hX [] (dT S9 (bd S9)) fun _ h=>(aE (af (h.ht (JI _ (ah mX)))))) fun Eu mX=>HT.skip (aE (af (HT.re hX (JI _ (ah mX))))))))) fun uw lU=>HT.xe hX (aT (aW (JH _ (an lU))))))))))
theorem PC:oG Tryz.prog 2 tI:=oG.int (by kernel_rfl)
end Go.Proofs
