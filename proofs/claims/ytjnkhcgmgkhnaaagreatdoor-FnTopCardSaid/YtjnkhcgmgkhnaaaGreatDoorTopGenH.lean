import Derived.Test.YtjnkhcgmgkhnaaaGreatDoorTopGenG
import Derived.Test.YtjnkhcgmgkhnaaaGreatDoorProg
set_option linter.unusedVariables false
set_option linter.unusedSimpArgs false
set_option linter.unusedSectionVars false
namespace Go.Proofs
open Go.Ide
noncomputable def jx (s7:Int×List Int):Option ((Int×List Int)⊕(List Int)):=
 bif (decide (s7.1<(ae s7.2))) then
  ai ((0:Int)≤s7.1∧s7.1<ae s7.2) (
   some (.inl ((aj .i64 s7.1 (1:Int)),(List.set s7.2 (Int.toNat s7.1) (0:Int)))))
 else
  some (.inr s7.2)
noncomputable def na (a0:List Int)(a1:List Int):Option (Bool):=
 (jQ a0 a1).bind fun y1=>
 bif y1 then
  some true
 else
  (nG a0).bind fun y4=>
  ai (List.length ([(0:Int)]:List Int)+List.length y4.2.2.2≤av) (
   (rounds (jx) ((0:Int),(([(0:Int)]:List Int)++y4.2.2.2))).bind fun r9=>
   (fD (y4.1.1,y4.1.2.1,y4.1.2.2.1,y4.1.2.2.2.1,y4.1.2.2.2.2)).bind fun iW=>
   (iq (y4.2.1.1,y4.2.1.2.1,y4.2.1.2.2.1,y4.2.1.2.2.2)).bind fun mD=>
   (fE (y4.2.2.1.1,y4.2.2.1.2.1,y4.2.2.1.2.2)).bind fun om=>
   (cw r9).bind fun tF=>
   (qY a1 (0:Int) (13:Int)).bind fun Jk=>
   ai (List.length ([109,97,99,104,105,110,101,32]:List UInt8)+List.length iW.1≤av) (
    ai (List.length (([109,97,99,104,105,110,101,32]:List UInt8)++iW.1)+List.length ([10,112,108,97,105,110,32]:List UInt8)≤av) (
     ai (List.length ((([109,97,99,104,105,110,101,32]:List UInt8)++iW.1)++([10,112,108,97,105,110,32]:List UInt8))+List.length mD.1≤av) (
      ai (List.length (((([109,97,99,104,105,110,101,32]:List UInt8)++iW.1)++([10,112,108,97,105,110,32]:List UInt8))++mD.1)+List.length ([10,103,114,97,109,109,97,114,32]:List UInt8)≤av) (
       ai (List.length ((((([109,97,99,104,105,110,101,32]:List UInt8)++iW.1)++([10,112,108,97,105,110,32]:List UInt8))++mD.1)++([10,103,114,97,109,109,97,114,32]:List UInt8))+List.length om.1≤av) (
        ai (List.length (((((([109,97,99,104,105,110,101,32]:List UInt8)++iW.1)++([10,112,108,97,105,110,32]:List UInt8))++mD.1)++([10,103,114,97,109,109,97,114,32]:List UInt8))++om.1)+List.length ([10,119,111,114,100,32]:List UInt8)≤av) (
         ai (List.length ((((((([109,97,99,104,105,110,101,32]:List UInt8)++iW.1)++([10,112,108,97,105,110,32]:List UInt8))++mD.1)++([10,103,114,97,109,109,97,114,32]:List UInt8))++om.1)++([10,119,111,114,100,32]:List UInt8))+List.length tF.1≤av) (
          ai (List.length (((((((([109,97,99,104,105,110,101,32]:List UInt8)++iW.1)++([10,112,108,97,105,110,32]:List UInt8))++mD.1)++([10,103,114,97,109,109,97,114,32]:List UInt8))++om.1)++([10,119,111,114,100,32]:List UInt8))++tF.1)+List.length ([10,109,97,99,104,105,110,101,10,112,108,97,105,110,10,103,114,97,109,109,97,114,10,119,111,114,100,10,99,111,115,116,10,114,101,97,100,115,10,114,101,97,100,10,99,111,117,110,116,32]:List UInt8)≤av) (
           (di Jk).bind fun NF=>
           ai (List.length ((((((((([109,97,99,104,105,110,101,32]:List UInt8)++iW.1)++([10,112,108,97,105,110,32]:List UInt8))++mD.1)++([10,103,114,97,109,109,97,114,32]:List UInt8))++om.1)++([10,119,111,114,100,32]:List UInt8))++tF.1)++([10,109,97,99,104,105,110,101,10,112,108,97,105,110,10,103,114,97,109,109,97,114,10,119,111,114,100,10,99,111,115,116,10,114,101,97,100,115,10,114,101,97,100,10,99,111,117,110,116,32]:List UInt8))+List.length NF≤av) (
            ai (List.length (((((((((([109,97,99,104,105,110,101,32]:List UInt8)++iW.1)++([10,112,108,97,105,110,32]:List UInt8))++mD.1)++([10,103,114,97,109,109,97,114,32]:List UInt8))++om.1)++([10,119,111,114,100,32]:List UInt8))++tF.1)++([10,109,97,99,104,105,110,101,10,112,108,97,105,110,10,103,114,97,109,109,97,114,10,119,111,114,100,10,99,111,115,116,10,114,101,97,100,115,10,114,101,97,100,10,99,111,117,110,116,32]:List UInt8))++NF)+List.length ([10,112,97,114,115,101,10,116,114,101,101,115,10,117,115,101,102,117,108,10,108,101,97,115,116,10,98,97,99,107,10]:List UInt8)≤av) (
             (some ((((((((((([109,97,99,104,105,110,101,32]:List UInt8)++iW.1)++([10,112,108,97,105,110,32]:List UInt8))++mD.1)++([10,103,114,97,109,109,97,114,32]:List UInt8))++om.1)++([10,119,111,114,100,32]:List UInt8))++tF.1)++([10,109,97,99,104,105,110,101,10,112,108,97,105,110,10,103,114,97,109,109,97,114,10,119,111,114,100,10,99,111,115,116,10,114,101,97,100,115,10,114,101,97,100,10,99,111,117,110,116,32]:List UInt8))++NF)++([10,112,97,114,115,101,10,116,114,101,101,115,10,117,115,101,102,117,108,10,108,101,97,115,116,10,98,97,99,107,10]:List UInt8))).bind fun Z7=>
             (pt).bind fun yy=>
             (kq ((yy.1.1,yy.1.2.1,yy.1.2.2.1,yy.1.2.2.2.1,yy.1.2.2.2.2),(yy.2.1.1,yy.2.1.2.1,yy.2.1.2.2.1,yy.2.1.2.2.2),(yy.2.2.1.1,yy.2.2.1.2.1,yy.2.2.1.2.2),yy.2.2.2) Z7).bind fun ru=>
             (show Option (Bool) from
              bif (!iW.2) then
               some true
              else
               bif (!mD.2) then
                some true
               else
                bif (!om.2) then
                 some true
                else
                 bif (!tF.2) then
                  some true
                 else
                  bif (!ru.2.2) then
                   some true
                  else
                   (fP ((ru.1.1.1,ru.1.1.2.1,ru.1.1.2.2.1,ru.1.1.2.2.2.1,ru.1.1.2.2.2.2),(ru.1.2.1.1,ru.1.2.1.2.1,ru.1.2.1.2.2.1,ru.1.2.1.2.2.2),(ru.1.2.2.1.1,ru.1.2.2.1.2.1,ru.1.2.2.1.2.2),ru.1.2.2.2)).bind fun TN=>
                   some (!TN)).bind fun UQ=>
             bif UQ then
              some false
             else
              (iy (y4.1.1,y4.1.2.1,y4.1.2.2.1,y4.1.2.2.2.1,y4.1.2.2.2.2) r9).bind fun Qg=>
              (ed (y4.2.1.1,y4.2.1.2.1,y4.2.1.2.2.1,y4.2.1.2.2.2) r9).bind fun K7=>
              (dE (y4.2.1.1,y4.2.1.2.1,y4.2.1.2.2.1,y4.2.1.2.2.2) Jk).bind fun HC=>
              (ef (y4.2.2.1.1,y4.2.2.1.2.1,y4.2.2.1.2.2) r9).bind fun L7=>
              (dD (y4.2.2.1.1,y4.2.2.1.2.1,y4.2.2.1.2.2) r9).bind fun Pa=>
              (dd (y4.2.2.1.1,y4.2.2.1.2.1,y4.2.2.1.2.2)).bind fun K6=>
              (cw K6.1).bind fun TO=>
              (dC (y4.2.1.1,y4.2.1.2.1,y4.2.1.2.2.1,y4.2.1.2.2.2)).bind fun Rl=>
              (iu (y4.1.1,y4.1.2.1,y4.1.2.2.1,y4.1.2.2.2.1,y4.1.2.2.2.2)).bind fun Lb=>
              (show Option (Bool) from
               bif (!Qg.2) then
                some true
               else
                bif (!K7.2) then
                 some true
                else
                 bif (!HC.2) then
                  some true
                 else
                  bif (!L7.2) then
                   some true
                  else
                   bif (!K6.2) then
                    some true
                   else
                    bif (!TO.2) then
                     some true
                    else
                     bif (!Rl.2) then
                      some true
                     else
                      some (!Lb.2)).bind fun UR=>
              bif UR then
               some false
              else
               (di Pa.1).bind fun Re=>
               (show Option (List UInt8×Int) from
                bif (!Pa.2) then
                 some (([110,111]:List UInt8),(2:Int))
                else
                 some (Re,(1:Int))).bind fun J9=>
               (show Option (List UInt8) from
                bif K7.1 then
                 some ([121,101,115]:List UInt8)
                else
                 some ([110,101,118,101,114]:List UInt8)).bind fun F5=>
               ai (List.length ([111,107,10,111,107,10,111,107,10,111,107,10]:List UInt8)+List.length iW.1≤av) (
                ai (List.length (([111,107,10,111,107,10,111,107,10,111,107,10]:List UInt8)++iW.1)+List.length ([10]:List UInt8)≤av) (
                 ai (List.length ((([111,107,10,111,107,10,111,107,10,111,107,10]:List UInt8)++iW.1)++([10]:List UInt8))+List.length mD.1≤av) (
                  ai (List.length (((([111,107,10,111,107,10,111,107,10,111,107,10]:List UInt8)++iW.1)++([10]:List UInt8))++mD.1)+List.length ([10]:List UInt8)≤av) (
                   ai (List.length ((((([111,107,10,111,107,10,111,107,10,111,107,10]:List UInt8)++iW.1)++([10]:List UInt8))++mD.1)++([10]:List UInt8))+List.length om.1≤av) (
                    ai (List.length (((((([111,107,10,111,107,10,111,107,10,111,107,10]:List UInt8)++iW.1)++([10]:List UInt8))++mD.1)++([10]:List UInt8))++om.1)+List.length ([10]:List UInt8)≤av) (
                     ai (List.length ((((((([111,107,10,111,107,10,111,107,10,111,107,10]:List UInt8)++iW.1)++([10]:List UInt8))++mD.1)++([10]:List UInt8))++om.1)++([10]:List UInt8))+List.length tF.1≤av) (
                      ai (List.length (((((((([111,107,10,111,107,10,111,107,10,111,107,10]:List UInt8)++iW.1)++([10]:List UInt8))++mD.1)++([10]:List UInt8))++om.1)++([10]:List UInt8))++tF.1)+List.length ([10]:List UInt8)≤av) (
                       (di Qg.1).bind fun F6=>
                       ai (List.length ((((((((([111,107,10,111,107,10,111,107,10,111,107,10]:List UInt8)++iW.1)++([10]:List UInt8))++mD.1)++([10]:List UInt8))++om.1)++([10]:List UInt8))++tF.1)++([10]:List UInt8))+List.length F6≤av) (
                        ai (List.length (((((((((([111,107,10,111,107,10,111,107,10,111,107,10]:List UInt8)++iW.1)++([10]:List UInt8))++mD.1)++([10]:List UInt8))++om.1)++([10]:List UInt8))++tF.1)++([10]:List UInt8))++F6)+List.length ([10]:List UInt8)≤av) (
                         ai (List.length ((((((((((([111,107,10,111,107,10,111,107,10,111,107,10]:List UInt8)++iW.1)++([10]:List UInt8))++mD.1)++([10]:List UInt8))++om.1)++([10]:List UInt8))++tF.1)++([10]:List UInt8))++F6)++([10]:List UInt8))+List.length F5≤av) (
                          ai (List.length (((((((((((([111,107,10,111,107,10,111,107,10,111,107,10]:List UInt8)++iW.1)++([10]:List UInt8))++mD.1)++([10]:List UInt8))++om.1)++([10]:List UInt8))++tF.1)++([10]:List UInt8))++F6)++([10]:List UInt8))++F5)+List.length ([10,119,104,97,116,10]:List UInt8)≤av) (
                           (di HC.1).bind fun Ld=>
                           ai (List.length ((((((((((((([111,107,10,111,107,10,111,107,10,111,107,10]:List UInt8)++iW.1)++([10]:List UInt8))++mD.1)++([10]:List UInt8))++om.1)++([10]:List UInt8))++tF.1)++([10]:List UInt8))++F6)++([10]:List UInt8))++F5)++([10,119,104,97,116,10]:List UInt8))+List.length Ld≤av) (
                            ai (List.length (((((((((((((([111,107,10,111,107,10,111,107,10,111,107,10]:List UInt8)++iW.1)++([10]:List UInt8))++mD.1)++([10]:List UInt8))++om.1)++([10]:List UInt8))++tF.1)++([10]:List UInt8))++F6)++([10]:List UInt8))++F5)++([10,119,104,97,116,10]:List UInt8))++Ld)+List.length ([10]:List UInt8)≤av) (
                             (di L7.1).bind fun NN=>
                             ai (List.length ((((((((((((((([111,107,10,111,107,10,111,107,10,111,107,10]:List UInt8)++iW.1)++([10]:List UInt8))++mD.1)++([10]:List UInt8))++om.1)++([10]:List UInt8))++tF.1)++([10]:List UInt8))++F6)++([10]:List UInt8))++F5)++([10,119,104,97,116,10]:List UInt8))++Ld)++([10]:List UInt8))+List.length NN≤av) (
                              ai (List.length (((((((((((((((([111,107,10,111,107,10,111,107,10,111,107,10]:List UInt8)++iW.1)++([10]:List UInt8))++mD.1)++([10]:List UInt8))++om.1)++([10]:List UInt8))++tF.1)++([10]:List UInt8))++F6)++([10]:List UInt8))++F5)++([10,119,104,97,116,10]:List UInt8))++Ld)++([10]:List UInt8))++NN)+List.length ([10]:List UInt8)≤av) (
                               ai (List.length ((((((((((((((((([111,107,10,111,107,10,111,107,10,111,107,10]:List UInt8)++iW.1)++([10]:List UInt8))++mD.1)++([10]:List UInt8))++om.1)++([10]:List UInt8))++tF.1)++([10]:List UInt8))++F6)++([10]:List UInt8))++F5)++([10,119,104,97,116,10]:List UInt8))++Ld)++([10]:List UInt8))++NN)++([10]:List UInt8))+List.length J9.1≤av) (
                                ai (List.length (((((((((((((((((([111,107,10,111,107,10,111,107,10,111,107,10]:List UInt8)++iW.1)++([10]:List UInt8))++mD.1)++([10]:List UInt8))++om.1)++([10]:List UInt8))++tF.1)++([10]:List UInt8))++F6)++([10]:List UInt8))++F5)++([10,119,104,97,116,10]:List UInt8))++Ld)++([10]:List UInt8))++NN)++([10]:List UInt8))++J9.1)+List.length ([10]:List UInt8)≤av) (
                                 ai (List.length ((((((((((((((((((([111,107,10,111,107,10,111,107,10,111,107,10]:List UInt8)++iW.1)++([10]:List UInt8))++mD.1)++([10]:List UInt8))++om.1)++([10]:List UInt8))++tF.1)++([10]:List UInt8))++F6)++([10]:List UInt8))++F5)++([10,119,104,97,116,10]:List UInt8))++Ld)++([10]:List UInt8))++NN)++([10]:List UInt8))++J9.1)++([10]:List UInt8))+List.length TO.1≤av) (
                                  ai (List.length (((((((((((((((((((([111,107,10,111,107,10,111,107,10,111,107,10]:List UInt8)++iW.1)++([10]:List UInt8))++mD.1)++([10]:List UInt8))++om.1)++([10]:List UInt8))++tF.1)++([10]:List UInt8))++F6)++([10]:List UInt8))++F5)++([10,119,104,97,116,10]:List UInt8))++Ld)++([10]:List UInt8))++NN)++([10]:List UInt8))++J9.1)++([10]:List UInt8))++TO.1)+List.length ([10,111,107,10,111,107,10]:List UInt8)≤av) (
                                   (some ((((((((((((((((((((([111,107,10,111,107,10,111,107,10,111,107,10]:List UInt8)++iW.1)++([10]:List UInt8))++mD.1)++([10]:List UInt8))++om.1)++([10]:List UInt8))++tF.1)++([10]:List UInt8))++F6)++([10]:List UInt8))++F5)++([10,119,104,97,116,10]:List UInt8))++Ld)++([10]:List UInt8))++NN)++([10]:List UInt8))++J9.1)++([10]:List UInt8))++TO.1)++([10,111,107,10,111,107,10]:List UInt8))).bind fun Xi=>
                                   (gT ru.2.1).bind fun MO=>
                                   (show Option (Bool) from
                                    bif MO.2.2 then
                                     bif (ru.2.1==Xi) then
                                      bif (MO.1==J9.2) then
                                       bif (MO.2.1==(a7 .i64 (17:Int) J9.2)) then
                                        (lz ((ru.1.1.1,ru.1.1.2.1,ru.1.1.2.2.1,ru.1.1.2.2.2.1,ru.1.1.2.2.2.2),(ru.1.2.1.1,ru.1.2.1.2.1,ru.1.2.1.2.2.1,ru.1.2.1.2.2.2),(ru.1.2.2.1.1,ru.1.2.2.1.2.1,ru.1.2.2.1.2.2),ru.1.2.2.2) ((Lb.1.1,Lb.1.2.1,Lb.1.2.2.1,Lb.1.2.2.2.1,Lb.1.2.2.2.2),(Rl.1.1,Rl.1.2.1,Rl.1.2.2.1,Rl.1.2.2.2),(y4.2.2.1.1,y4.2.2.1.2.1,y4.2.2.1.2.2),r9)).bind fun TP=>
                                        some TP
                                       else
                                        some false
                                      else
                                       some false
                                     else
                                      some false
                                    else
                                     some false).bind fun v107=>
                                   some v107)))))))))))))))))))))))))))))))
theorem f3_ok {a0:List Int}{a1:List Int}{r:Bool}(hr:na a0 a1=some r):CallOK Tryz.prog 3 [.bl (.sl (.int .u8)) a0,.bl (.sl (.int .u8)) a1] [⟨false,.bool,r⟩] []:=
 fe Tryz.func3 rfl fun cx hX hF=>HT.g hX [] aa (HT.seq (bc hr SS fun y1 bQ hr=>HT.g hX [oH,oH,(cl bQ)] (aQ bQ) (HT.cb hr (fun pZ hr=>HT.g hX [] aa (by (cases hr;exact (HT.ret (aD (bN aa)))))) fun pZ hr=>HT.skip (af (bc hr S4 fun y4 uZ hr=>HT.g hX [oH,(cl uZ)] (aQ uZ) (bg hr fun Er hr=>HT.g hX [(hT tI),oH,oH,(hT tI)] (aQ Er) (HT.seq (HT.g hX [] aa (HT.block (HT.lp hX hr (fun s7=>up [1,5] [(6,iV s7.1)] [7,0,1,2,3,4,5] [(9,.seq tI s7.2)] 0) (fun r9=>(.exit 0,up [1,5] [] [7,0,1,2,3,4,5] [(9,.seq tI r9)] 0)) (fun r9 hr=>(aI (af (bc hr NG fun iW kA hr=>HT.g hX [oH,oH,(cl kA)] (aQ kA) (bc hr NH fun mD rr hr=>HT.g hX [oH,oH,(cl rr)] (aQ rr) (bc hr Jx fun om tH hr=>HT.g hX [oH,oH,(cl tH)] (aQ tH) (bc hr xh fun tF JM hr=>HT.g hX [oH,oH,(cl JM)] (aQ JM) (bc hr Pt fun Jk Cn hr=>HT.g hX [oH,(cl Cn)] (aQ Cn) (bg hr fun Jl hr=>bg hr fun vn hr=>bg hr fun qf hr=>bg hr fun Cu hr=>bg hr fun J5 hr=>bg hr fun Aw hr=>bg hr fun vr hr=>bg hr fun yB hr=>bc hr sh fun NF Jd hr=>bg hr fun JG hr=>bg hr fun xq hr=>HT.g hX (nO 13 [(cl Jd)]) (lx Jl vn qf Cu (lx J5 Aw vr yB (oI Jd JG xq))) (bq hr fun hr=>bc hr Pu fun yy vo hr=>bc hr Qq fun ru Az hr=>HT.g hX [(cl vo),oH,(cl Az)] (dT vo Az) (HT.seq (HT.jn hr (fun UQ=>up [5,7,9,11,13,15,17,18] [(137,bV UQ)] [7,24,0,1,2,3,4,5,9,17,18,19,20,21,22,23] [] 0) (fun UQ hr=>HT.cb hr (fun AK hr=>HT.g hX [] aa (by (cases hr;exact (HT.ret (aD (bN aa)))))) fun AK hr=>HT.skip (af (bc hr JO fun Qg J1 hr=>HT.g hX (nO 4 [(cl J1)]) (aQ J1) (bc hr JP fun K7 yz hr=>HT.g hX (nO 4 [(cl yz)]) (aQ yz) (bc hr J8 fun HC yu hr=>HT.g hX [oH,oH,oH,(cl yu)] (aQ yu) (bc hr JU fun L7 Jg hr=>HT.g hX (nO 4 [(cl Jg)]) (aQ Jg) (bc hr JV fun Pa Jh hr=>HT.g hX (nO 4 [(cl Jh)]) (aQ Jh) (bc hr JY fun K6 Ji hr=>HT.g hX [oH,oH,(cl Ji)] (aQ Ji) (bc hr xh fun TO TQ hr=>HT.g hX [oH,(cl TQ)] (aQ TQ) (bc hr JL fun Rl TR hr=>HT.g hX [oH,oH,(cl TR)] (aQ TR) (bc hr JD fun Lb J0 hr=>HT.g hX [oH,oH,(cl J0)] (aQ J0) (HT.seq (HT.jn hr (fun UR=>up [5,7,9,11,13,17,18,20,22,24,26,28,29,32,34,36] [(229,bV UR)] [7,24,28,32,0,1,2,3,4,5,9,17,18,19,20,21,22,23,26,27,29,30,31] [] 0) (fun UR hr=>HT.cb hr (fun Av hr=>HT.g hX [] aa (by (cases hr;exact (HT.ret (aD (bN aa)))))) fun Av hr=>HT.skip (af (bc hr sh fun Re Jj hr=>HT.g hX [oH,(cl Jj)] (aQ Jj) (HT.g hX [] aa (HT.jn hr (fun J9=>up [5,7,9,11,13,17,18,20,22,24,26,32,34,36] [(38,.one (.aB .str J9.1)),(39,iV J9.2)] [7,24,28,32,0,1,2,3,4,5,9,17,18,19,20,21,22,23,26,27,29,30,31] [] 0) (fun J9 hr=>HT.g hX [] aa (HT.jn hr (fun F5=>up [5,7,9,11,13,17,18,20,24,26,32,34,36,38,39] [(40,.one (.aB .str F5))] [7,24,28,32,0,1,2,3,4,5,9,17,18,19,20,21,22,23,26,27,29,30,31] [] 0) (fun F5 hr=>bg hr fun Xj hr=>bg hr fun Xk hr=>bg hr fun P8 hr=>bg hr fun P9 hr=>bg hr fun Qa hr=>bg hr fun Qb hr=>bg hr fun Mx hr=>bg hr fun My hr=>bc hr sh fun F6 TS hr=>bg hr fun Xl hr=>bg hr fun Xm hr=>bg hr fun Xn hr=>bg hr fun Xo hr=>bc hr sh fun Ld TT hr=>bg hr fun Xp hr=>bg hr fun Xq hr=>bc hr sh fun NN TU hr=>bg hr fun PX hr=>bg hr fun PY hr=>bg hr fun PZ hr=>bg hr fun P0 hr=>bg hr fun TV hr=>bg hr fun TW hr=>HT.g hX (nO 13 [(cl TS),oH,oH,oH,oH,oH,oH,(cl TT),oH,oH,oH,(cl TU)]) (lx Xj Xk P8 P9 (lx Qa Qb Mx My (lx TS Xl Xm Xn (lx Xo TT Xp Xq (lx TU PX PY PZ (oI P0 TV TW)))))) (bq hr fun hr=>bc hr Qr fun MO NO hr=>HT.g hX [oH,(cl NO)] (aQ NO) (HT.jn hr (fun v107=>up [] [(4,bV v107)] [] [] 0) (fun v107 hr=>by (cases hr;exact (HT.ret (bN aa)))) fun _ kr CB=>bb kr (fun ze kr=>bb kr (fun CC kr=>bb kr (fun F7 kr=>bb kr (fun Ka kr=>bc kr Qv fun TP NP kr=>HT.k hX [oH,kT,oH,oH,oH,oH,kT,oH,oH,oH,oH,kT,oH,oH,oH,oH,oH,kT,oH,oH,oH,oH,oH,oH,oH,oH,(cl NP)] (lx ze CC F7 Ka (aQ NP)) fun _ h=>(af (h.ht (CB _ (ah kr))))) fun Ka kr=>HT.k hX [oH,kT,oH,oH,oH,oH,kT,oH,oH,oH,oH,kT,oH,oH,oH,oH,oH,kF] (oJ ze CC F7 Ka) fun _ h=>(af (h.ht (CB _ (ah kr))))) fun F7 kr=>HT.k hX [oH,kT,oH,oH,oH,oH,kT,oH,oH,oH,oH,kF] (oI ze CC F7) fun _ h=>(af (h.ht (CB _ (ah kr))))) fun CC kr=>HT.k hX [oH,kT,oH,oH,oH,oH,kF] (dT ze CC) fun _ h=>(af (h.ht (CB _ (ah kr))))) fun ze kr=>HT.k hX [oH,kF] (aQ ze) fun _ h=>(af (h.ht (CB _ (ah kr))))))) fun _ Kb TX=>HT.g hX [] aa (HT.cb Kb (fun TY Kb=>HT.k hX [] aa fun _ h=>(af (h.ht (TX _ (ah Kb))))) fun TY Kb=>HT.skip (af (HT.re hX (TX _ (ah Kb))))))) fun _ Kc TZ=>HT.g hX [] aa (HT.cb Kc (fun T3 Kc=>HT.g hX [] aa (HT.k hX [] aa fun _ h=>(af (h.ht (TZ _ (ah Kc)))))) fun T3 Kc=>HT.skip (af (HT.re hX (TZ _ (ah Kc)))))))))) fun _ fL CD=>bb fL (fun tJ fL=>HT.k hX [oH,oH,kT] (aQ tJ) fun _ h=>(af (h.ht (CD _ (ah fL))))) fun tJ fL=>bb fL (fun u3 fL=>HT.k hX [oH,oH,kF,oH,oH,oH,kT] (dT tJ u3) fun _ h=>(af (h.ht (CD _ (ah fL))))) fun u3 fL=>bb fL (fun xt fL=>HT.k hX [oH,oH,kF,oH,oH,oH,kF,oH,oH,oH,kT] (oI tJ u3 xt) fun _ h=>(af (h.ht (CD _ (ah fL))))) fun xt fL=>bb fL (fun zf fL=>HT.k hX [oH,oH,kF,oH,oH,oH,kF,oH,oH,oH,kF,oH,oH,oH,kT] (oJ tJ u3 xt zf) fun _ h=>(af (h.ht (CD _ (ah fL))))) fun zf fL=>bb fL (fun CF fL=>HT.k hX [oH,oH,kF,oH,oH,oH,kF,oH,oH,oH,kF,oH,oH,oH,kF,oH,oH,oH,kT] (lx tJ u3 xt zf (aQ CF)) fun _ h=>(af (h.ht (CD _ (ah fL))))) fun CF fL=>bb fL (fun F8 fL=>HT.k hX [oH,oH,kF,oH,oH,oH,kF,oH,oH,oH,kF,oH,oH,oH,kF,oH,oH,oH,kF,oH,oH,oH,kT] (lx tJ u3 xt zf (dT CF F8)) fun _ h=>(af (h.ht (CD _ (ah fL))))) fun F8 fL=>bb fL (fun Kd fL=>HT.k hX [oH,oH,kF,oH,oH,oH,kF,oH,oH,oH,kF,oH,oH,oH,kF,oH,oH,oH,kF,oH,oH,oH,kF,oH,oH,oH,kT] (lx tJ u3 xt zf (oI CF F8 Kd)) fun _ h=>(af (h.ht (CD _ (ah fL))))) fun Kd fL=>HT.k hX [oH,oH,kF,oH,oH,oH,kF,oH,oH,oH,kF,oH,oH,oH,kF,oH,oH,oH,kF,oH,oH,oH,kF,oH,oH,oH,kF] (lx tJ u3 xt zf (oI CF F8 Kd)) fun _ h=>(af (h.ht (CD _ (ah fL))))))))))))))))) fun _ nb G7=>bb nb (fun xu nb=>HT.k hX [oH,oH,kT] (aQ xu) fun _ h=>(af (h.ht (G7 _ (ah nb))))) fun xu nb=>bb nb (fun zg nb=>HT.k hX [oH,oH,kF,oH,oH,oH,kT] (dT xu zg) fun _ h=>(af (h.ht (G7 _ (ah nb))))) fun zg nb=>bb nb (fun CG nb=>HT.k hX [oH,oH,kF,oH,oH,oH,kF,oH,oH,oH,kT] (oI xu zg CG) fun _ h=>(af (h.ht (G7 _ (ah nb))))) fun CG nb=>bb nb (fun F9 nb=>HT.k hX [oH,oH,kF,oH,oH,oH,kF,oH,oH,oH,kF,oH,oH,oH,kT] (oJ xu zg CG F9) fun _ h=>(af (h.ht (G7 _ (ah nb))))) fun F9 nb=>bb nb (fun Ke nb=>HT.k hX [oH,oH,kF,oH,oH,oH,kF,oH,oH,oH,kF,oH,oH,oH,kF,oH,oH,oH,kT] (lx xu zg CG F9 (aQ Ke)) fun _ h=>(af (h.ht (G7 _ (ah nb))))) fun Ke nb=>bc nb EF fun TN NQ nb=>HT.k hX [oH,oH,kF,oH,oH,oH,kF,oH,oH,oH,kF,oH,oH,oH,kF,oH,oH,oH,kF,oH,(cl NQ)] (lx xu zg CG F9 (dT Ke NQ)) fun _ h=>(af (h.ht (G7 _ (ah nb)))))))))))))))) fun s7 Z8 xw T4=>HT.seq (HT.g hX [] aa (HT.cb xw (fun T5 xw=>HT.skip (af (HT.seq (HT.block (bg xw fun NR xw=>HT.l hX [] (dT NR (bd NR)) (aE (af (HT.k hX [] aa fun _ h=>(aU (lN xw h)))))))))) fun T5 xw=>HT.xe hX (aT (aW (T4 _ (an xw))))))))))))))))
end Go.Proofs
