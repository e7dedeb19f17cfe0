import Derived.Test.YtjnkhcgmgkhnaaaGreatDoorTopGenF
import Derived.Test.YtjnkhcgmgkhnaaaGreatDoorProg
set_option linter.unusedVariables false
set_option linter.unusedSimpArgs false
set_option linter.unusedSectionVars false
namespace Go.Proofs
open Go.Ide
noncomputable def bR (a0:(Int×Int×List (Int×Int×Int×Int)×List Int×List Int)×(Int×Int×List Int×List Bool)×(Int×Int×List (Int×Int×Int×Int))×List Int)(a1:List UInt8)(a2:List UInt8):Option (List UInt8×Bool×Bool×((Int×Int×List (Int×Int×Int×Int)×List Int×List Int)×(Int×Int×List Int×List Bool)×(Int×Int×List (Int×Int×Int×Int))×List Int)):=
 (show Option ((Bool×((Int×Int×List (Int×Int×Int×Int)×List Int×List Int)×(Int×Int×List Int×List Bool)×(Int×Int×List (Int×Int×Int×Int))×List Int))⊕(List UInt8×Bool×Bool×((Int×Int×List (Int×Int×Int×Int)×List Int×List Int)×(Int×Int×List Int×List Bool)×(Int×Int×List (Int×Int×Int×Int))×List Int))) from
  bif (a1==([109,97,99,104,105,110,101]:List UInt8)) then
   (fN a2).bind fun y8=>
   some (.inl (y8.2,(y8.1.1,y8.1.2.1,y8.1.2.2.1,y8.1.2.2.2.1,y8.1.2.2.2.2),(a0.2.1.1,a0.2.1.2.1,a0.2.1.2.2.1,a0.2.1.2.2.2),(a0.2.2.1.1,a0.2.2.1.2.1,a0.2.2.1.2.2),a0.2.2.2))
  else
   bif (a1==([112,108,97,105,110]:List UInt8)) then
    (iz a2).bind fun fQ=>
    some (.inl (fQ.2,(a0.1.1,a0.1.2.1,a0.1.2.2.1,a0.1.2.2.2.1,a0.1.2.2.2.2),(fQ.1.1,fQ.1.2.1,fQ.1.2.2.1,fQ.1.2.2.2),(a0.2.2.1.1,a0.2.2.1.2.1,a0.2.2.1.2.2),a0.2.2.2))
   else
    bif (a1==([103,114,97,109,109,97,114]:List UInt8)) then
     (fO a2).bind fun om=>
     some (.inl (om.2,(a0.1.1,a0.1.2.1,a0.1.2.2.1,a0.1.2.2.2.1,a0.1.2.2.2.2),(a0.2.1.1,a0.2.1.2.1,a0.2.1.2.2.1,a0.2.1.2.2.2),(om.1.1,om.1.2.1,om.1.2.2),a0.2.2.2))
    else
     bif (a1==([119,111,114,100]:List UInt8)) then
      (fg a2).bind fun FR=>
      some (.inl (FR.2,(a0.1.1,a0.1.2.1,a0.1.2.2.1,a0.1.2.2.2.1,a0.1.2.2.2.2),(a0.2.1.1,a0.2.1.2.1,a0.2.1.2.2.1,a0.2.1.2.2.2),(a0.2.2.1.1,a0.2.2.1.2.1,a0.2.2.1.2.2),FR.1))
     else
      (show Option (Bool) from
       bif (a1==([99,111,117,110,116]:List UInt8)) then
        some (a1==([99,111,117,110,116]:List UInt8))
       else
        some (a1==([114,111,109,97,110]:List UInt8))).bind fun v20=>
      bif v20 then
       (de a2).bind fun K8=>
       (show Option (List UInt8×Bool) from
        (show Option (Bool) from
         bif K8.2 then
          some (a1==([99,111,117,110,116]:List UInt8))
         else
          some false).bind fun xc=>
        bif xc then
         (dE (a0.2.1.1,a0.2.1.2.1,a0.2.1.2.2.1,a0.2.1.2.2.2) K8.1).bind fun K5=>
         (dc K5.1 K5.2).bind fun Rg=>
         some (Rg.1,Rg.2)
        else
         bif K8.2 then
          none
         else
          some (([]:List UInt8),false)).bind fun Jo=>
       Ai (some (Jo.1,Jo.2,true,a0))
      else
       Ai (some (([]:List UInt8),false,false,a0))).bind fun w5=>match w5 with
  | .inl v2=>
   some (([111,107]:List UInt8),v2.1,true,v2.2)
  | .inr z=>some z
theorem MJ {a0:(Int×Int×List (Int×Int×Int×Int)×List Int×List Int)×(Int×Int×List Int×List Bool)×(Int×Int×List (Int×Int×Int×Int))×List Int}{a1:List UInt8}{a2:List UInt8}{r:List UInt8×Bool×Bool×((Int×Int×List (Int×Int×Int×Int)×List Int×List Int)×(Int×Int×List Int×List Bool)×(Int×Int×List (Int×Int×Int×Int))×List Int)}(hr:bR a0 a1 a2=some r):CallOK Tryz.prog 134 [.own (.bx (.st (.pair (.st (.pair tI (.pair tI (.pair (.sl (.st (.pair tI (.pair tI (.pair tI tI))))) (.pair aN aN))))) (.pair (.st (.pair tI (.pair tI (.pair aN (.sl .bool))))) (.pair (.st (.pair tI (.pair tI (.sl (.st (.pair tI (.pair tI (.pair tI tI)))))))) aN))))) [a0],.bl .str a1,.bl .str a2] [⟨false,.str,r.1⟩,⟨false,.bool,r.2.1⟩,⟨false,.bool,r.2.2.1⟩] [⟨(.bx (.st (.pair (.st (.pair tI (.pair tI (.pair (.sl (.st (.pair tI (.pair tI (.pair tI tI))))) (.pair aN aN))))) (.pair (.st (.pair tI (.pair tI (.pair aN (.sl .bool))))) (.pair (.st (.pair tI (.pair tI (.sl (.st (.pair tI (.pair tI (.pair tI tI)))))))) aN))))),[r.2.2.2]⟩]:=
 fe Tryz.func134 rfl fun cx hX hF=>HT.g hX [] aa (HT.g hX [] aa (HT.jo hr (fun _=>rfl) (fun v2=>up [] [(9,bV v2.1)] [] [(0,.seq (.st (.pair (.st (.pair tI (.pair tI (.pair (.sl (.st (.pair tI (.pair tI (.pair tI tI))))) (.pair aN aN))))) (.pair (.st (.pair tI (.pair tI (.pair aN (.sl .bool))))) (.pair (.st (.pair tI (.pair tI (.sl (.st (.pair tI (.pair tI (.pair tI tI)))))))) aN)))) ([v2.2]))] 0) (fun v2 hr=>HT.g hX [] aa (by (cases hr;exact (HT.ret (bN (aQ (show List.length ([v2.2])=List.length [a0] from rfl))))))) fun _ ay Ri ez=>HT.g hX [] aa (HT.block (HT.g hX [] aa (HT.cb ay (fun lQ ay=>bc ay Qj fun y8 oh ay=>HT.k hX [oH,oH,(cl (CallOK.xQ [true,false] rfl oh))] (dT (CallOK.xQ [true,false] rfl oh) (show 0<List.length [a0] from Nat.zero_lt_one)) fun _ h=>(aE (af (h.ht (ez _ (an ay)))))) fun lQ ay=>HT.g hX [] aa (HT.cb ay (fun fU ay=>bc ay Qm fun fQ iM ay=>HT.k hX [oH,oH,(cl (CallOK.xQ [true,false] rfl iM))] (dT (CallOK.xQ [true,false] rfl iM) (show 0<List.length [a0] from Nat.zero_lt_one)) fun _ h=>(aE (af (h.ht (ez _ (an ay)))))) fun fU ay=>HT.g hX [] aa (HT.cb ay (fun mU ay=>bc ay Qn fun om tH ay=>HT.k hX [oH,oH,(cl (CallOK.xQ [true,false] rfl tH))] (dT (CallOK.xQ [true,false] rfl tH) (show 0<List.length [a0] from Nat.zero_lt_one)) fun _ h=>(aE (af (h.ht (ez _ (an ay)))))) fun mU ay=>HT.g hX [] aa (HT.cb ay (fun xl ay=>bc ay J4 fun FR xd ay=>HT.k hX [oH,oH,(cl (CallOK.xQ [true,false] rfl xd))] (dT (CallOK.xQ [true,false] rfl xd) (show 0<List.length [a0] from Nat.zero_lt_one)) fun _ h=>(aE (af (h.ht (ez _ (an ay)))))) fun xl ay=>HT.jn ay (fun v20=>up [0,1,2] [(55,bV v20)] [0] [] 0) (fun v20 ay=>HT.cb ay (fun Eo ay=>bc ay F3 fun K8 tE ay=>HT.g hX [oH,(cl tE)] (aQ tE) (HT.g hX [] aa (HT.jn ay (fun Jo=>up [] [(12,.one (.aB .str Jo.1)),(13,bV Jo.2)] [0] [] 0) (fun Jo ay=>HT.g hX [] aa (have hr:=Ri ay;by (cases hr;exact (HT.ret (br (aD (bN (aQ (show List.length ([a0])=List.length [a0] from rfl))))))))) fun _ gF Ej=>HT.jn gF (fun xc=>up [0,10,11,12,13] [(67,bV xc)] [0] [] 0) (fun xc gF=>HT.cb gF (fun Pe gF=>bc gF J8 fun K5 Jf gF=>bc gF vH fun Rg Jq gF=>HT.k hX (nO 5 [(cl Jf),oH,oH,(cl Jq)]) (oI (show 0<List.length [a0] from Nat.zero_lt_one) Jf Jq) fun _ h=>(af (h.ht (Ej _ (ah gF))))) fun Pe gF=>HT.g hX [] aa (HT.cb gF (fun AK gF=>nn gF) fun AK gF=>HT.skip (af (HT.re hX (Ej _ (ah gF)))))) fun _ ja Cm=>bb ja (fun uw ja=>HT.k hX [oH,kT] (aQ uw) fun _ h=>(af (h.ht (Cm _ (ah ja))))) fun uw ja=>HT.k hX [oH,kF] (aQ uw) fun _ h=>(af (h.ht (Cm _ (ah ja))))))) fun Eo ay=>HT.g hX [] aa (have hr:=Ri ay;by (cases hr;exact (HT.ret (br (aD (bN (aQ (show List.length ([a0])=List.length [a0] from rfl))))))))) fun _ gi yx=>HT.g hX [] aa (HT.cb gi (fun Jr gi=>HT.skip (af (HT.re hX (yx _ (ah gi))))) fun Jr gi=>HT.k hX [] aa fun _ h=>(af (h.ht (yx _ (ah gi)))))))))))))
noncomputable def bP (a0:(Int×Int×List (Int×Int×Int×Int)×List Int×List Int)×(Int×Int×List Int×List Bool)×(Int×Int×List (Int×Int×Int×Int))×List Int)(a1:List (List UInt8)):Option (List UInt8×Bool×Bool×((Int×Int×List (Int×Int×Int×Int)×List Int×List Int)×(Int×Int×List Int×List Bool)×(Int×Int×List (Int×Int×Int×Int))×List Int)):=
 bif ((ae a1)==(1:Int)) then
  ai ((0:Int)≤(0:Int)∧(0:Int)<ae a1) (
   (cM a0 (List.getD a1 (Int.toNat (0:Int)) ([]:List UInt8))).bind fun y3=>
   bif y3.2.2.1 then
    some (y3.1,y3.2.1,true,y3.2.2.2)
   else
    (aJ y3.2.2.2 (List.getD a1 (Int.toNat (0:Int)) ([]:List UInt8))).bind fun y6=>
    some (y6.1,y6.2.1,y6.2.2.1,y6.2.2.2))
 else
  bif ((ae a1)==(2:Int)) then
   ai ((0:Int)≤(0:Int)∧(0:Int)<ae a1) (
    ai ((0:Int)≤(1:Int)∧(1:Int)<ae a1) (
     (bR a0 (List.getD a1 (Int.toNat (0:Int)) ([]:List UInt8)) (List.getD a1 (Int.toNat (1:Int)) ([]:List UInt8))).bind fun fQ=>
     some (fQ.1,fQ.2.1,fQ.2.2.1,fQ.2.2.2)))
  else
   (show Option (Bool) from
    bif ((ae a1)==(3:Int)) then
     ai ((0:Int)≤(0:Int)∧(0:Int)<ae a1) (
      some ((List.getD a1 (Int.toNat (0:Int)) ([]:List UInt8))==([101,100,105,116]:List UInt8)))
    else
     some false).bind fun GX=>
   bif GX then
    ai ((0:Int)≤(1:Int)∧(1:Int)<ae a1) (
     ai ((0:Int)≤(2:Int)∧(2:Int)<ae a1) (
      none))
   else
    some (([]:List UInt8),false,false,a0)
theorem Qo {a0:(Int×Int×List (Int×Int×Int×Int)×List Int×List Int)×(Int×Int×List Int×List Bool)×(Int×Int×List (Int×Int×Int×Int))×List Int}{a1:List (List UInt8)}{r:List UInt8×Bool×Bool×((Int×Int×List (Int×Int×Int×Int)×List Int×List Int)×(Int×Int×List Int×List Bool)×(Int×Int×List (Int×Int×Int×Int))×List Int)}(hr:bP a0 a1=some r):CallOK Tryz.prog 95 [.own (.bx (.st (.pair (.st (.pair tI (.pair tI (.pair (.sl (.st (.pair tI (.pair tI (.pair tI tI))))) (.pair aN aN))))) (.pair (.st (.pair tI (.pair tI (.pair aN (.sl .bool))))) (.pair (.st (.pair tI (.pair tI (.sl (.st (.pair tI (.pair tI (.pair tI tI)))))))) aN))))) [a0],.bl (.sl .str) a1] [⟨false,.str,r.1⟩,⟨false,.bool,r.2.1⟩,⟨false,.bool,r.2.2.1⟩] [⟨(.bx (.st (.pair (.st (.pair tI (.pair tI (.pair (.sl (.st (.pair tI (.pair tI (.pair tI tI))))) (.pair aN aN))))) (.pair (.st (.pair tI (.pair tI (.pair aN (.sl .bool))))) (.pair (.st (.pair tI (.pair tI (.sl (.st (.pair tI (.pair tI (.pair tI tI)))))))) aN))))),[r.2.2.2]⟩]:=
 fe Tryz.func95 rfl fun cx hX hF=>HT.g hX [] aa (HT.seq (HT.block (HT.g hX [] aa (HT.cb hr (fun tR hr=>bg hr fun sL hr=>bc hr Mn fun y3 qj hr=>HT.g hX (nO 4 [(cl qj)]) (dT sL qj) (HT.seq (HT.g hX [] aa (HT.cb hr (fun nj hr=>HT.g hX [] aa (by (cases hr;exact (HT.ret (aD (br (aD (bN (aQ (show List.length ([y3.2.2.2])=List.length [a0] from rfl)))))))))) fun nj hr=>HT.skip (af (bc hr MG fun y6 Co hr=>HT.g hX (nO 4 [(cl Co)]) (dT sL Co) (by (cases hr;exact (HT.ret (br (aD (bN (aQ (show List.length ([y6.2.2.2])=List.length [a0] from rfl)))))))))))))) fun tR hr=>HT.g hX [] aa (HT.cb hr (fun nR hr=>bg hr fun tB hr=>bg hr fun pr hr=>bc hr MJ fun fQ iM hr=>HT.dg hX (nO 7 [(cl iM)]) (oI tB pr iM) (by (cases hr;exact (HT.ret (br (aD (bN (aQ (show List.length ([fQ.2.2.2])=List.length [a0] from rfl))))))))) fun nR hr=>HT.jn hr (fun GX=>up [1] [(51,bV GX)] [0] [] 0) (fun GX hr=>HT.cb hr (fun uq hr=>bg hr fun yA hr=>bg hr fun Jv hr=>nn hr) fun uq hr=>HT.skip (aE (af (HT.g hX [] aa (by (cases hr;exact (HT.ret (bN (aQ (show List.length ([a0])=List.length [a0] from rfl)))))))))) fun _ qh Je=>bb qh (fun xi qh=>bg qh fun vn qh=>HT.k hX [oH,oH,oH,kT] (dT xi vn) fun _ h=>(af (h.ht (Je _ (ah qh))))) fun xi qh=>HT.k hX [oH,oH,oH,kF] (aQ xi) fun _ h=>(af (h.ht (Je _ (ah qh)))))))))
noncomputable def fP (a0:(Int×Int×List (Int×Int×Int×Int)×List Int×List Int)×(Int×Int×List Int×List Bool)×(Int×Int×List (Int×Int×Int×Int))×List Int):Option (Bool):=
 (show Option (Bool) from
  (bW (a0.1.1,a0.1.2.1,a0.1.2.2.1,a0.1.2.2.2.1,a0.1.2.2.2.2)).bind fun y5=>
  bif y5 then
   bif (decide ((ae a0.1.2.2.1)≤(16:Int))) then
    (ca (a0.2.1.1,a0.2.1.2.1,a0.2.1.2.2.1,a0.2.1.2.2.2)).bind fun y9=>
    bif y9 then
     bif (decide ((ae a0.2.1.2.2.1)≤(64:Int))) then
      (bX (a0.2.2.1.1,a0.2.2.1.2.1,a0.2.2.1.2.2)).bind fun TL=>
      bif TL then
       bif (decide ((ae a0.2.2.1.2.2)≤(16:Int))) then
        (e9 a0.2.2.2 (4:Int)).bind fun FR=>
        some FR
       else
        some false
      else
       some false
     else
      some false
    else
     some false
   else
    some false
  else
   some false).bind fun v2=>
 some v2
theorem EF {a0:(Int×Int×List (Int×Int×Int×Int)×List Int×List Int)×(Int×Int×List Int×List Bool)×(Int×Int×List (Int×Int×Int×Int))×List Int}{r:Bool}(hr:fP a0=some r):CallOK Tryz.prog 16 [.bl (.st (.pair (.st (.pair tI (.pair tI (.pair (.sl (.st (.pair tI (.pair tI (.pair tI tI))))) (.pair aN aN))))) (.pair (.st (.pair tI (.pair tI (.pair aN (.sl .bool))))) (.pair (.st (.pair tI (.pair tI (.sl (.st (.pair tI (.pair tI (.pair tI tI)))))))) aN)))) a0] [⟨false,.bool,r⟩] []:=
 fe Tryz.func16 rfl fun cx hX hF=>HT.g hX [] aa (HT.jn hr (fun v2=>up [] [(2,bV v2)] [] [] 0) (fun v2 hr=>by (cases hr;exact (HT.ret (bN aa)))) fun _ ay ez=>bc ay xg fun y5 iL ay=>bb ay (fun lQ ay=>bb ay (fun nR ay=>bc ay uu fun y9 pv ay=>bb ay (fun nT ay=>bb ay (fun iZ ay=>bc ay xj fun TL AM ay=>bb ay (fun yC ay=>bb ay (fun xl ay=>bc ay AG fun FR xd ay=>HT.k hX [oH,oH,(cl iL),kT,oH,oH,oH,oH,oH,oH,kT,oH,oH,(cl pv),oH,kT,oH,oH,oH,oH,oH,oH,kT,oH,oH,(cl AM),oH,kT,oH,oH,oH,oH,oH,oH,kT,oH,oH,(cl xd)] (lx iL lQ nR pv (lx nT iZ AM yC (dT xl xd))) fun _ h=>(af (h.ht (ez _ (ah ay))))) fun xl ay=>HT.k hX [oH,oH,(cl iL),kT,oH,oH,oH,oH,oH,oH,kT,oH,oH,(cl pv),oH,kT,oH,oH,oH,oH,oH,oH,kT,oH,oH,(cl AM),oH,kT,oH,oH,oH,oH,oH,oH,kF] (lx iL lQ nR pv (lx nT iZ AM yC (aQ xl))) fun _ h=>(af (h.ht (ez _ (ah ay))))) fun yC ay=>HT.k hX [oH,oH,(cl iL),kT,oH,oH,oH,oH,oH,oH,kT,oH,oH,(cl pv),oH,kT,oH,oH,oH,oH,oH,oH,kT,oH,oH,(cl AM),oH,kF] (lx iL lQ nR pv (oJ nT iZ AM yC)) fun _ h=>(af (h.ht (ez _ (ah ay))))) fun iZ ay=>HT.k hX [oH,oH,(cl iL),kT,oH,oH,oH,oH,oH,oH,kT,oH,oH,(cl pv),oH,kT,oH,oH,oH,oH,oH,oH,kF] (lx iL lQ nR pv (dT nT iZ)) fun _ h=>(af (h.ht (ez _ (ah ay))))) fun nT ay=>HT.k hX [oH,oH,(cl iL),kT,oH,oH,oH,oH,oH,oH,kT,oH,oH,(cl pv),oH,kF] (lx iL lQ nR pv (aQ nT)) fun _ h=>(af (h.ht (ez _ (ah ay))))) fun nR ay=>HT.k hX [oH,oH,(cl iL),kT,oH,oH,oH,oH,oH,oH,kF] (oI iL lQ nR) fun _ h=>(af (h.ht (ez _ (ah ay))))) fun lQ ay=>HT.k hX [oH,oH,(cl iL),kF] (dT iL lQ) fun _ h=>(af (h.ht (ez _ (ah ay)))))
noncomputable def cN (a0:(Int×Int×List (Int×Int×Int×Int)×List Int×List Int)×(Int×Int×List Int×List Bool)×(Int×Int×List (Int×Int×Int×Int))×List Int)(a1:List UInt8):Option (((Int×Int×List (Int×Int×Int×Int)×List Int×List Int)×(Int×Int×List Int×List Bool)×(Int×Int×List (Int×Int×Int×Int))×List Int)×List UInt8):=
 (js ((a0.1.1,a0.1.2.1,a0.1.2.2.1,a0.1.2.2.2.1,a0.1.2.2.2.2),(a0.2.1.1,a0.2.1.2.1,a0.2.1.2.2.1,a0.2.1.2.2.2),(a0.2.2.1.1,a0.2.2.1.2.1,a0.2.2.1.2.2),a0.2.2.2)).bind fun y1=>
 (strings_Split a1 ([32]:List UInt8)).bind fun y3=>
 (bP ((y1.1.1,y1.1.2.1,y1.1.2.2.1,y1.1.2.2.2.1,y1.1.2.2.2.2),(y1.2.1.1,y1.2.1.2.1,y1.2.1.2.2.1,y1.2.1.2.2.2),(y1.2.2.1.1,y1.2.2.1.2.1,y1.2.2.1.2.2),y1.2.2.2) y3).bind fun y5=>
 bif (!y5.2.2.1) then
  some (((a0.1.1,a0.1.2.1,a0.1.2.2.1,a0.1.2.2.2.1,a0.1.2.2.2.2),(a0.2.1.1,a0.2.1.2.1,a0.2.1.2.2.1,a0.2.1.2.2.2),(a0.2.2.1.1,a0.2.2.1.2.1,a0.2.2.1.2.2),a0.2.2.2),([119,104,97,116]:List UInt8))
 else
  (show Option (Bool) from
   bif (!y5.2.1) then
    some true
   else
    (fP ((y5.2.2.2.1.1,y5.2.2.2.1.2.1,y5.2.2.2.1.2.2.1,y5.2.2.2.1.2.2.2.1,y5.2.2.2.1.2.2.2.2),(y5.2.2.2.2.1.1,y5.2.2.2.2.1.2.1,y5.2.2.2.2.1.2.2.1,y5.2.2.2.2.1.2.2.2),(y5.2.2.2.2.2.1.1,y5.2.2.2.2.2.1.2.1,y5.2.2.2.2.2.1.2.2),y5.2.2.2.2.2.2)).bind fun om=>
    some (!om)).bind fun v9=>
  bif v9 then
   some (((a0.1.1,a0.1.2.1,a0.1.2.2.1,a0.1.2.2.2.1,a0.1.2.2.2.2),(a0.2.1.1,a0.2.1.2.1,a0.2.1.2.2.1,a0.2.1.2.2.2),(a0.2.2.1.1,a0.2.2.1.2.1,a0.2.2.1.2.2),a0.2.2.2),([110,111]:List UInt8))
  else
   some (((y5.2.2.2.1.1,y5.2.2.2.1.2.1,y5.2.2.2.1.2.2.1,y5.2.2.2.1.2.2.2.1,y5.2.2.2.1.2.2.2.2),(y5.2.2.2.2.1.1,y5.2.2.2.2.1.2.1,y5.2.2.2.2.1.2.2.1,y5.2.2.2.2.1.2.2.2),(y5.2.2.2.2.2.1.1,y5.2.2.2.2.2.1.2.1,y5.2.2.2.2.2.1.2.2),y5.2.2.2.2.2.2),y5.1)
theorem Qp {a0:(Int×Int×List (Int×Int×Int×Int)×List Int×List Int)×(Int×Int×List Int×List Bool)×(Int×Int×List (Int×Int×Int×Int))×List Int}{a1:List UInt8}{r:((Int×Int×List (Int×Int×Int×Int)×List Int×List Int)×(Int×Int×List Int×List Bool)×(Int×Int×List (Int×Int×Int×Int))×List Int)×List UInt8}(hr:cN a0 a1=some r):CallOK Tryz.prog 46 [.bl (.st (.pair (.st (.pair tI (.pair tI (.pair (.sl (.st (.pair tI (.pair tI (.pair tI tI))))) (.pair aN aN))))) (.pair (.st (.pair tI (.pair tI (.pair aN (.sl .bool))))) (.pair (.st (.pair tI (.pair tI (.sl (.st (.pair tI (.pair tI (.pair tI tI)))))))) aN)))) a0,.bl .str a1] [⟨false,(.st (.pair (.st (.pair tI (.pair tI (.pair (.sl (.st (.pair tI (.pair tI (.pair tI tI))))) (.pair aN aN))))) (.pair (.st (.pair tI (.pair tI (.pair aN (.sl .bool))))) (.pair (.st (.pair tI (.pair tI (.sl (.st (.pair tI (.pair tI (.pair tI tI)))))))) aN)))),r.1⟩,⟨false,.str,r.2⟩] []:=
 fe Tryz.func46 rfl fun cx hX hF=>HT.g hX [(hT (.st (.pair (.st (.pair tI (.pair tI (.pair (.sl (.st (.pair tI (.pair tI (.pair tI tI))))) (.pair aN aN))))) (.pair (.st (.pair tI (.pair tI (.pair aN (.sl .bool))))) (.pair (.st (.pair tI (.pair tI (.sl (.st (.pair tI (.pair tI (.pair tI tI)))))))) aN)))))] aa (bc hr JA fun y1 bQ hr=>HT.g hX [oH,(cl (CallOK.xQ [true] rfl bQ)),(hT (.st (.pair (.st (.pair tI (.pair tI (.pair (.sl (.st (.pair tI (.pair tI (.pair tI tI))))) (.pair aN aN))))) (.pair (.st (.pair tI (.pair tI (.pair aN (.sl .bool))))) (.pair (.st (.pair tI (.pair tI (.sl (.st (.pair tI (.pair tI (.pair tI tI)))))))) aN)))))] (oI (show 0<List.length [((a0.1.1,a0.1.2.1,a0.1.2.2.1,a0.1.2.2.2.1,a0.1.2.2.2.2),(a0.2.1.1,a0.2.1.2.1,a0.2.1.2.2.1,a0.2.1.2.2.2),(a0.2.2.1.1,a0.2.2.1.2.1,a0.2.2.1.2.2),a0.2.2.2)] from Nat.zero_lt_one) (CallOK.xQ [true] rfl bQ) (show 0<List.length [(((0:Int),(0:Int),([]:List (Int×Int×Int×Int)),([]:List Int),([]:List Int)),((0:Int),(0:Int),([]:List Int),([]:List Bool)),((0:Int),(0:Int),([]:List (Int×Int×Int×Int))),([]:List Int))] from Nat.zero_lt_one)) (bc hr AA fun y3 qj hr=>bc hr Qo fun y5 iL hr=>HT.g hX [oH,(cl (CallOK.xQ [true] rfl qj)),(cl iL)] (dT (CallOK.xQ [true] rfl qj) iL) (HT.seq (HT.g hX [] aa (HT.cb hr (fun lQ hr=>HT.g hX [] (aQ (show 0<List.length [((a0.1.1,a0.1.2.1,a0.1.2.2.1,a0.1.2.2.2.1,a0.1.2.2.2.2),(a0.2.1.1,a0.2.1.2.1,a0.2.1.2.2.1,a0.2.1.2.2.2),(a0.2.2.1.1,a0.2.2.1.2.1,a0.2.2.1.2.2),a0.2.2.2)] from Nat.zero_lt_one)) (by (cases hr;exact (HT.ret (aD (bN aa)))))) fun lQ hr=>HT.skip (af (HT.seq (HT.jn hr (fun v9=>up [2,4,6,7] [(28,bV v9)] [0,1,2] [] 0) (fun v9 hr=>HT.cb hr (fun iZ hr=>HT.g hX [] (aQ (show 0<List.length [((a0.1.1,a0.1.2.1,a0.1.2.2.1,a0.1.2.2.2.1,a0.1.2.2.2.2),(a0.2.1.1,a0.2.1.2.1,a0.2.1.2.2.1,a0.2.1.2.2.2),(a0.2.2.1.1,a0.2.2.1.2.1,a0.2.2.1.2.2),a0.2.2.2)] from Nat.zero_lt_one)) (by (cases hr;exact (HT.ret (aD (bN aa)))))) fun iZ hr=>HT.skip (af (HT.g hX [] (aQ (show 0<List.length [y5.2.2.2] from Nat.zero_lt_one)) (by (cases hr;exact (HT.ret (bN aa))))))) fun _ EG Yq=>bb EG (fun mU EG=>HT.k hX [oH,oH,kT] (aQ mU) fun _ h=>(af (h.ht (Yq _ (ah EG))))) fun mU EG=>bc EG EF fun om tH EG=>HT.k hX [oH,oH,kF,oH,(cl tH)] (oI mU (show 0<List.length [y5.2.2.2] from Nat.zero_lt_one) tH) fun _ h=>(af (h.ht (Yq _ (ah EG))))))))))))
noncomputable def dF (y1:List (List UInt8)×Bool)(s8:Int×Int×Int×(List (Int×Int×Int×Int))×List Int×List Int×Int×Int×List Int×List Bool×Int×Int×(List (Int×Int×Int×Int))×List Int×List UInt8):Option ((Int×Int×Int×(List (Int×Int×Int×Int))×List Int×List Int×Int×Int×List Int×List Bool×Int×Int×(List (Int×Int×Int×Int))×List Int×List UInt8)⊕((Int×Int×(List (Int×Int×Int×Int))×List Int×List Int×Int×Int×List Int×List Bool×Int×Int×(List (Int×Int×Int×Int))×List Int×List UInt8))):=
 bif (decide (s8.1<(ae y1.1))) then
  ai ((0:Int)≤s8.1∧s8.1<ae y1.1) (
   (cN ((s8.2.1,s8.2.2.1,s8.2.2.2.1,s8.2.2.2.2.1,s8.2.2.2.2.2.1),(s8.2.2.2.2.2.2.1,s8.2.2.2.2.2.2.2.1,s8.2.2.2.2.2.2.2.2.1,s8.2.2.2.2.2.2.2.2.2.1),(s8.2.2.2.2.2.2.2.2.2.2.1,s8.2.2.2.2.2.2.2.2.2.2.2.1,s8.2.2.2.2.2.2.2.2.2.2.2.2.1),s8.2.2.2.2.2.2.2.2.2.2.2.2.2.1) (List.getD y1.1 (Int.toNat s8.1) ([]:List UInt8))).bind fun gm=>
   ai (List.length gm.2+List.length ([10]:List UInt8)≤av) (
    ai (List.length s8.2.2.2.2.2.2.2.2.2.2.2.2.2.2+List.length (gm.2++([10]:List UInt8))≤av) (
     some (.inl ((aj .i64 s8.1 (1:Int)),gm.1.1.1,gm.1.1.2.1,gm.1.1.2.2.1,gm.1.1.2.2.2.1,gm.1.1.2.2.2.2,gm.1.2.1.1,gm.1.2.1.2.1,gm.1.2.1.2.2.1,gm.1.2.1.2.2.2,gm.1.2.2.1.1,gm.1.2.2.1.2.1,gm.1.2.2.1.2.2,gm.1.2.2.2,(s8.2.2.2.2.2.2.2.2.2.2.2.2.2.2++(gm.2++([10]:List UInt8))))))))
 else
  some (.inr (s8.2.1,s8.2.2.1,s8.2.2.2.1,s8.2.2.2.2.1,s8.2.2.2.2.2.1,s8.2.2.2.2.2.2.1,s8.2.2.2.2.2.2.2.1,s8.2.2.2.2.2.2.2.2.1,s8.2.2.2.2.2.2.2.2.2.1,s8.2.2.2.2.2.2.2.2.2.2.1,s8.2.2.2.2.2.2.2.2.2.2.2.1,s8.2.2.2.2.2.2.2.2.2.2.2.2.1,s8.2.2.2.2.2.2.2.2.2.2.2.2.2.1,s8.2.2.2.2.2.2.2.2.2.2.2.2.2.2))
noncomputable def kq (a0:(Int×Int×List (Int×Int×Int×Int)×List Int×List Int)×(Int×Int×List Int×List Bool)×(Int×Int×List (Int×Int×Int×Int))×List Int)(a1:List UInt8):Option (((Int×Int×List (Int×Int×Int×Int)×List Int×List Int)×(Int×Int×List Int×List Bool)×(Int×Int×List (Int×Int×Int×Int))×List Int)×List UInt8×Bool):=
 (iP a1).bind fun y1=>
 (show Option (Bool) from
  bif (!y1.2) then
   some true
  else
   (fP ((a0.1.1,a0.1.2.1,a0.1.2.2.1,a0.1.2.2.2.1,a0.1.2.2.2.2),(a0.2.1.1,a0.2.1.2.1,a0.2.1.2.2.1,a0.2.1.2.2.2),(a0.2.2.1.1,a0.2.2.1.2.1,a0.2.2.1.2.2),a0.2.2.2)).bind fun K8=>
   some (!K8)).bind fun v4=>
 bif v4 then
  some ((((0:Int),(0:Int),([]:List (Int×Int×Int×Int)),([]:List Int),([]:List Int)),((0:Int),(0:Int),([]:List Int),([]:List Bool)),((0:Int),(0:Int),([]:List (Int×Int×Int×Int))),([]:List Int)),([]:List UInt8),false)
 else
  (rounds (dF y1) ((0:Int),a0.1.1,a0.1.2.1,a0.1.2.2.1,a0.1.2.2.2.1,a0.1.2.2.2.2,a0.2.1.1,a0.2.1.2.1,a0.2.1.2.2.1,a0.2.1.2.2.2,a0.2.2.1.1,a0.2.2.1.2.1,a0.2.2.1.2.2,a0.2.2.2,([]:List UInt8))).bind fun cR=>
  (js ((cR.1,cR.2.1,cR.2.2.1,cR.2.2.2.1,cR.2.2.2.2.1),(cR.2.2.2.2.2.1,cR.2.2.2.2.2.2.1,cR.2.2.2.2.2.2.2.1,cR.2.2.2.2.2.2.2.2.1),(cR.2.2.2.2.2.2.2.2.2.1,cR.2.2.2.2.2.2.2.2.2.2.1,cR.2.2.2.2.2.2.2.2.2.2.2.1),cR.2.2.2.2.2.2.2.2.2.2.2.2.1)).bind fun fQ=>
  ai (cR.2.2.2.2.2.2.2.2.2.2.2.2.2≠([]:List UInt8)) (
   some (((fQ.1.1,fQ.1.2.1,fQ.1.2.2.1,fQ.1.2.2.2.1,fQ.1.2.2.2.2),(fQ.2.1.1,fQ.2.1.2.1,fQ.2.1.2.2.1,fQ.2.1.2.2.2),(fQ.2.2.1.1,fQ.2.2.1.2.1,fQ.2.2.1.2.2),fQ.2.2.2),cR.2.2.2.2.2.2.2.2.2.2.2.2.2,true))
theorem Qq {a0:(Int×Int×List (Int×Int×Int×Int)×List Int×List Int)×(Int×Int×List Int×List Bool)×(Int×Int×List (Int×Int×Int×Int))×List Int}{a1:List UInt8}{r:((Int×Int×List (Int×Int×Int×Int)×List Int×List Int)×(Int×Int×List Int×List Bool)×(Int×Int×List (Int×Int×Int×Int))×List Int)×List UInt8×Bool}(hr:kq a0 a1=some r):CallOK Tryz.prog 14 [.bl (.st (.pair (.st (.pair tI (.pair tI (.pair (.sl (.st (.pair tI (.pair tI (.pair tI tI))))) (.pair aN aN))))) (.pair (.st (.pair tI (.pair tI (.pair aN (.sl .bool))))) (.pair (.st (.pair tI (.pair tI (.sl (.st (.pair tI (.pair tI (.pair tI tI)))))))) aN)))) a0,.bl .str a1] [⟨true,(.st (.pair (.st (.pair tI (.pair tI (.pair (.sl (.st (.pair tI (.pair tI (.pair tI tI))))) (.pair aN aN))))) (.pair (.st (.pair tI (.pair tI (.pair aN (.sl .bool))))) (.pair (.st (.pair tI (.pair tI (.sl (.st (.pair tI (.pair tI (.pair tI tI)))))))) aN)))),r.1⟩,⟨false,.str,r.2.1⟩,⟨false,.bool,r.2.2⟩] []:=
 fe Tryz.func14 rfl fun cx hX hF=>HT.g hX [] aa (bc hr Jy fun y1 bQ hr=>HT.g hX [oH,(cl bQ)] (aQ bQ) (HT.seq (HT.jn hr (fun v4=>up [2,4,7] [(25,bV v4)] [0,1,2] [] 0) (fun v4 hr=>HT.cb hr (fun lQ hr=>HT.g hX [] aa (by (cases hr;exact (HT.ret (aD (bN aa)))))) fun lQ hr=>HT.skip (af (HT.ex ⟨[(2,pV 0 0),(4,pV 1 0),(7,aV 2),(25,bV v4)],[(0,.box [iC a0.1.1,iC a0.1.2.1,.aB (.sl (.st (.pair tI (.pair tI (.pair tI tI))))) a0.1.2.2.1,nC a0.1.2.2.2.1,nC a0.1.2.2.2.2,iC a0.2.1.1,iC a0.2.1.2.1,nC a0.2.1.2.2.1,.aB (.sl .bool) a0.2.1.2.2.2,iC a0.2.2.1.1,iC a0.2.2.1.2.1,.aB (.sl (.st (.pair tI (.pair tI (.pair tI tI))))) a0.2.2.1.2.2,nC a0.2.2.2]),(1,.box [iC (0:Int),iC (0:Int),.az,.az,.az,iC (0:Int),iC (0:Int),.az,.az,iC (0:Int),iC (0:Int),.az,.az]),(2,.seq .str y1.1)],3⟩ hX (by (refine HT.seq (HT.rg (RG.Ww 5 hX rfl rfl rfl rfl rfl rfl rfl rfl rfl (by kernel_rfl) (by kernel_rfl) (by kernel_rfl) (by kernel_rfl) (by kernel_rfl) (RG.pF [2,4,7,9] [] ⟨[(2,pV 0 0),(4,pV 1 0),(7,aV 2),(9,pV 3 0)],[(3,.n9 93 5 ([]:List UInt8)),(0,.box [iC a0.1.1,iC a0.1.2.1,.aB (.sl (.st (.pair tI (.pair tI (.pair tI tI))))) a0.1.2.2.1,nC a0.1.2.2.2.1,nC a0.1.2.2.2.2,iC a0.2.1.1,iC a0.2.1.2.1,nC a0.2.1.2.2.1,.aB (.sl .bool) a0.2.1.2.2.2,iC a0.2.2.1.1,iC a0.2.2.1.2.1,.aB (.sl (.st (.pair tI (.pair tI (.pair tI tI))))) a0.2.2.1.2.2,nC a0.2.2.2]),(1,.box [iC (0:Int),iC (0:Int),.az,.az,.az,iC (0:Int),iC (0:Int),.az,.az,iC (0:Int),iC (0:Int),.az,.az]),(2,.seq .str y1.1)],4⟩ hX.P hX.N (by kernel_rfl) aa ?_)));exact (HT.seq (HT.g hX [] aa (HT.block (HT.lp hX hr (fun s8=>up [2,4,9,28,29] [(30,iV s8.1)] [1,2] [(0,.box [iC s8.2.1,iC s8.2.2.1,.aB (.sl (.st (.pair tI (.pair tI (.pair tI tI))))) s8.2.2.2.1,nC s8.2.2.2.2.1,nC s8.2.2.2.2.2.1,iC s8.2.2.2.2.2.2.1,iC s8.2.2.2.2.2.2.2.1,nC s8.2.2.2.2.2.2.2.2.1,.aB (.sl .bool) s8.2.2.2.2.2.2.2.2.2.1,iC s8.2.2.2.2.2.2.2.2.2.2.1,iC s8.2.2.2.2.2.2.2.2.2.2.2.1,.aB (.sl (.st (.pair tI (.pair tI (.pair tI tI))))) s8.2.2.2.2.2.2.2.2.2.2.2.2.1,nC s8.2.2.2.2.2.2.2.2.2.2.2.2.2.1]),(3,.n9 93 5 s8.2.2.2.2.2.2.2.2.2.2.2.2.2.2)] 0) (fun cR=>(.exit 0,up [2,4,9] [] [1] [(0,.box [iC cR.1,iC cR.2.1,.aB (.sl (.st (.pair tI (.pair tI (.pair tI tI))))) cR.2.2.1,nC cR.2.2.2.1,nC cR.2.2.2.2.1,iC cR.2.2.2.2.2.1,iC cR.2.2.2.2.2.2.1,nC cR.2.2.2.2.2.2.2.1,.aB (.sl .bool) cR.2.2.2.2.2.2.2.2.1,iC cR.2.2.2.2.2.2.2.2.2.1,iC cR.2.2.2.2.2.2.2.2.2.2.1,.aB (.sl (.st (.pair tI (.pair tI (.pair tI tI))))) cR.2.2.2.2.2.2.2.2.2.2.2.1,nC cR.2.2.2.2.2.2.2.2.2.2.2.2.1]),(3,.n9 93 5 cR.2.2.2.2.2.2.2.2.2.2.2.2.2)] 0)) (fun cR hr=>(aI (af (bc hr JA fun fQ iM hr=>bg hr fun sf hr=>HT.ex ⟨[(2,pV 0 0),(4,pV 1 0),(9,pV 3 0)],[(0,.box [iC cR.1,iC cR.2.1,.aB (.sl (.st (.pair tI (.pair tI (.pair tI tI))))) cR.2.2.1,nC cR.2.2.2.1,nC cR.2.2.2.2.1,iC cR.2.2.2.2.2.1,iC cR.2.2.2.2.2.2.1,nC cR.2.2.2.2.2.2.2.1,.aB (.sl .bool) cR.2.2.2.2.2.2.2.2.1,iC cR.2.2.2.2.2.2.2.2.2.1,iC cR.2.2.2.2.2.2.2.2.2.2.1,.aB (.sl (.st (.pair tI (.pair tI (.pair tI tI))))) cR.2.2.2.2.2.2.2.2.2.2.2.1,nC cR.2.2.2.2.2.2.2.2.2.2.2.2.1]),(1,.box [iC (0:Int),iC (0:Int),.az,.az,.az,iC (0:Int),iC (0:Int),.az,.az,iC (0:Int),iC (0:Int),.az,.az]),(3,.n9 93 5 cR.2.2.2.2.2.2.2.2.2.2.2.2.2)],4⟩ hX (by (refine HT.seq (HT.rg (RG.cut 2 [oH,(cl iM)] ⟨[(46,.agg [iC fQ.1.1,iC fQ.1.2.1,.all 4,.all 5,.all 6,iC fQ.2.1.1,iC fQ.2.1.2.1,.all 7,.all 8,iC fQ.2.2.1.1,iC fQ.2.2.1.2.1,.all 9,.all 10]),(45,.agg [iC cR.1,iC cR.2.1,.aB (.sl (.st (.pair tI (.pair tI (.pair tI tI))))) cR.2.2.1,nC cR.2.2.2.1,nC cR.2.2.2.2.1,iC cR.2.2.2.2.2.1,iC cR.2.2.2.2.2.2.1,nC cR.2.2.2.2.2.2.2.1,.aB (.sl .bool) cR.2.2.2.2.2.2.2.2.1,iC cR.2.2.2.2.2.2.2.2.2.1,iC cR.2.2.2.2.2.2.2.2.2.2.1,.aB (.sl (.st (.pair tI (.pair tI (.pair tI tI))))) cR.2.2.2.2.2.2.2.2.2.2.2.1,nC cR.2.2.2.2.2.2.2.2.2.2.2.2.1]),(2,pV 0 0),(4,pV 1 0),(9,pV 3 0)],[(4,.seq (.st (.pair tI (.pair tI (.pair tI tI)))) fQ.1.2.2.1),(5,.seq tI fQ.1.2.2.2.1),(6,.seq tI fQ.1.2.2.2.2),(7,.seq tI fQ.2.1.2.2.1),(8,.seq .bool fQ.2.1.2.2.2),(9,.seq (.st (.pair tI (.pair tI (.pair tI tI)))) fQ.2.2.1.2.2),(10,.seq tI fQ.2.2.2),(0,.box [iC cR.1,iC cR.2.1,.aB (.sl (.st (.pair tI (.pair tI (.pair tI tI))))) cR.2.2.1,nC cR.2.2.2.1,nC cR.2.2.2.2.1,iC cR.2.2.2.2.2.1,iC cR.2.2.2.2.2.2.1,nC cR.2.2.2.2.2.2.2.1,.aB (.sl .bool) cR.2.2.2.2.2.2.2.2.1,iC cR.2.2.2.2.2.2.2.2.2.1,iC cR.2.2.2.2.2.2.2.2.2.2.1,.aB (.sl (.st (.pair tI (.pair tI (.pair tI tI))))) cR.2.2.2.2.2.2.2.2.2.2.2.1,nC cR.2.2.2.2.2.2.2.2.2.2.2.2.1]),(1,.box [iC (0:Int),iC (0:Int),.az,.az,.az,iC (0:Int),iC (0:Int),.az,.az,iC (0:Int),iC (0:Int),.az,.az]),(3,.n9 93 5 cR.2.2.2.2.2.2.2.2.2.2.2.2.2)],11⟩ hX.P hX.N (by kernel_rfl) (iK iM aa) (RG.O5 (t:=9) hX hF rfl rfl rfl (by kernel_rfl) ⟨rfl,rfl⟩ rfl WH rfl rfl sf (RG.pF [4,5,6] [oH,oH,oH] ⟨[(4,pV 1 0),(5,.one (.aB .str cR.2.2.2.2.2.2.2.2.2.2.2.2.2)),(6,bV true)],[(1,.box [iC fQ.1.1,iC fQ.1.2.1,.all 4,.all 5,.all 6,iC fQ.2.1.1,iC fQ.2.1.2.1,.all 7,.all 8,iC fQ.2.2.1.1,iC fQ.2.2.1.2.1,.all 9,.all 10]),(3,.gone),(4,.seq (.st (.pair tI (.pair tI (.pair tI tI)))) fQ.1.2.2.1),(5,.seq tI fQ.1.2.2.2.1),(6,.seq tI fQ.1.2.2.2.2),(7,.seq tI fQ.2.1.2.2.1),(8,.seq .bool fQ.2.1.2.2.2),(9,.seq (.st (.pair tI (.pair tI (.pair tI tI)))) fQ.2.2.1.2.2),(10,.seq tI fQ.2.2.2),(0,.box [iC cR.1,iC cR.2.1,.aB (.sl (.st (.pair tI (.pair tI (.pair tI tI))))) cR.2.2.1,nC cR.2.2.2.1,nC cR.2.2.2.2.1,iC cR.2.2.2.2.2.1,iC cR.2.2.2.2.2.2.1,nC cR.2.2.2.2.2.2.2.1,.aB (.sl .bool) cR.2.2.2.2.2.2.2.2.1,iC cR.2.2.2.2.2.2.2.2.2.1,iC cR.2.2.2.2.2.2.2.2.2.2.1,.aB (.sl (.st (.pair tI (.pair tI (.pair tI tI))))) cR.2.2.2.2.2.2.2.2.2.2.2.1,nC cR.2.2.2.2.2.2.2.2.2.2.2.2.1]),(1,.box [iC (0:Int),iC (0:Int),.az,.az,.az,iC (0:Int),iC (0:Int),.az,.az,iC (0:Int),iC (0:Int),.az,.az]),(3,.n9 93 5 cR.2.2.2.2.2.2.2.2.2.2.2.2.2)],11⟩ hX.P hX.N (by kernel_rfl) aa ?_))));exact (by (cases hr;exact (HT.ret (bN aa)))))))))) fun s8 WD gg Ei=>HT.g hX [] aa (HT.cj gg (fun uq gg=>HT.seq (HT.block (bg gg fun yA gg=>HT.g hX [] (dT yA (bd yA)) (bc gg Qp fun gm CA gg=>HT.g hX [oH,oH,(cl CA)] (aQ CA) (HT.g hX [] aa (bg gg fun vn gg=>bg gg fun qf gg=>HT.ex ⟨[(2,pV 0 0),(4,pV 1 0),(9,pV 3 0),(13,.one (.aB .str gm.2)),(28,aV 2),(29,iV (ae y1.1)),(30,iV s8.1)],[(0,.box [iC gm.1.1.1,iC gm.1.1.2.1,.aB (.sl (.st (.pair tI (.pair tI (.pair tI tI))))) gm.1.1.2.2.1,nC gm.1.1.2.2.2.1,nC gm.1.1.2.2.2.2,iC gm.1.2.1.1,iC gm.1.2.1.2.1,nC gm.1.2.1.2.2.1,.aB (.sl .bool) gm.1.2.1.2.2.2,iC gm.1.2.2.1.1,iC gm.1.2.2.1.2.1,.aB (.sl (.st (.pair tI (.pair tI (.pair tI tI))))) gm.1.2.2.1.2.2,nC gm.1.2.2.2]),(1,.box [iC (0:Int),iC (0:Int),.az,.az,.az,iC (0:Int),iC (0:Int),.az,.az,iC (0:Int),iC (0:Int),.az,.az]),(3,.n9 93 5 s8.2.2.2.2.2.2.2.2.2.2.2.2.2.2),(2,.seq .str y1.1)],5⟩ hX (HT.X6 (fun hq=>(RG.cut 2 [oH,oH] ⟨[(42,.one (.aB .str (gm.2++([10]:List UInt8)))),(41,.one (.aB .str gm.2)),(2,pV 0 0),(4,pV 1 0),(9,pV 3 0),(13,.one (.aB .str gm.2)),(28,aV 2),(29,iV (ae y1.1)),(30,iV s8.1)],[(0,.box [iC gm.1.1.1,iC gm.1.1.2.1,.aB (.sl (.st (.pair tI (.pair tI (.pair tI tI))))) gm.1.1.2.2.1,nC gm.1.1.2.2.2.1,nC gm.1.1.2.2.2.2,iC gm.1.2.1.1,iC gm.1.2.1.2.1,nC gm.1.2.1.2.2.1,.aB (.sl .bool) gm.1.2.1.2.2.2,iC gm.1.2.2.1.1,iC gm.1.2.2.1.2.1,.aB (.sl (.st (.pair tI (.pair tI (.pair tI tI))))) gm.1.2.2.1.2.2,nC gm.1.2.2.2]),(1,.box [iC (0:Int),iC (0:Int),.az,.az,.az,iC (0:Int),iC (0:Int),.az,.az,iC (0:Int),iC (0:Int),.az,.az]),(3,.n9 93 5 s8.2.2.2.2.2.2.2.2.2.2.2.2.2.2),(2,.seq .str y1.1)],5⟩ hX.P hX.N (by kernel_rfl) (iK vn aa) (RG.SH (t:=9) (s:=(gm.2++([10]:List UInt8))) hX rfl rfl rfl (by kernel_rfl) ⟨rfl,rfl⟩ rfl WG rfl rfl rfl rfl (by kernel_rfl) qf (RG.last [] ⟨[(9,pV 5 0),(43,.cV),(42,.one (.aB .str (gm.2++([10]:List UInt8)))),(41,.one (.aB .str gm.2)),(2,pV 0 0),(4,pV 1 0),(9,pV 3 0),(13,.one (.aB .str gm.2)),(28,aV 2),(29,iV (ae y1.1)),(30,iV s8.1)],[(3,.gone),(5,.n9 93 5 (s8.2.2.2.2.2.2.2.2.2.2.2.2.2.2++(gm.2++([10]:List UInt8)))),(0,.box [iC gm.1.1.1,iC gm.1.1.2.1,.aB (.sl (.st (.pair tI (.pair tI (.pair tI tI))))) gm.1.1.2.2.1,nC gm.1.1.2.2.2.1,nC gm.1.1.2.2.2.2,iC gm.1.2.1.1,iC gm.1.2.1.2.1,nC gm.1.2.1.2.2.1,.aB (.sl .bool) gm.1.2.1.2.2.2,iC gm.1.2.2.1.1,iC gm.1.2.2.1.2.1,.aB (.sl (.st (.pair tI (.pair tI (.pair tI tI))))) gm.1.2.2.1.2.2,nC gm.1.2.2.2]),(1,.box [iC (0:Int),iC (0:Int),.az,.az,.az,iC (0:Int),iC (0:Int),.az,.az,iC (0:Int),iC (0:Int),.az,.az]),(3,.n9 93 5 s8.2.2.2.2.2.2.2.2.2.2.2.2.2.2),(2,.seq .str y1.1)],6⟩ hX.P hX.N (by kernel_rfl) aa hq)))) (aE (af (HT.k hX [] aa fun _ h=>(aU (lN gg h)))))))))))) fun uq gg=>HT.xe hX (aT (aW (Ei _ (an gg)))))))))))))) fun _ kY Dd=>bb kY (fun Eo kY=>HT.k hX [oH,oH,kT] (aQ Eo) fun _ h=>(af (h.ht (Dd _ (ah kY))))) fun Eo kY=>bc kY EF fun K8 tE kY=>HT.k hX [oH,oH,kF,oH,(cl tE)] (dT Eo tE) fun _ h=>(af (h.ht (Dd _ (ah kY)))))))
noncomputable def dt (y1:List (List UInt8)×Bool)(s4:Int×Int):Option ((Int×Int)⊕(Int)):=
 bif (decide (s4.2<(ae y1.1))) then
  (show Option (Int) from
   ai ((0:Int)≤s4.2∧s4.2<ae y1.1) (
    (show Option (Bool) from
     bif ((List.getD y1.1 (Int.toNat s4.2) ([]:List UInt8))==([110,111]:List UInt8)) then
      some true
     else
      some ((List.getD y1.1 (Int.toNat s4.2) ([]:List UInt8))==([119,104,97,116]:List UInt8))).bind fun Mo=>
    bif Mo then
     some (aj .i64 s4.1 (1:Int))
    else
     some s4.1)).bind fun v12=>
  some (.inl (v12,(aj .i64 s4.2 (1:Int))))
 else
  some (.inr s4.1)
noncomputable def gT (a0:List UInt8):Option (Int×Int×Bool):=
 (iP a0).bind fun y1=>
 bif (!y1.2) then
  some ((0:Int),(0:Int),false)
 else
  (rounds (dt y1) ((0:Int),(0:Int))).bind fun r6=>
  some (r6,(a7 .i64 (ae y1.1) r6),true)
theorem Qr {a0:List UInt8}{r:Int×Int×Bool}(hr:gT a0=some r):CallOK Tryz.prog 25 [.bl .str a0] [⟨false,tI,r.1⟩,⟨false,tI,r.2.1⟩,⟨false,.bool,r.2.2⟩] []:=
 fe Tryz.func25 rfl fun cx hX hF=>HT.g hX [] aa (bc hr Jy fun y1 bQ hr=>HT.g hX [oH,(cl bQ)] (aQ bQ) (HT.seq (HT.g hX [] aa (HT.cb hr (fun pZ hr=>HT.g hX [] aa (by (cases hr;exact (HT.ret (aD (bN aa)))))) fun pZ hr=>HT.skip (af (HT.g hX [] aa (HT.seq (HT.g hX [] aa (HT.block (HT.lp hX hr (fun s4=>up [5,17,18] [(7,iV s4.1),(19,iV s4.2)] [0] [] 0) (fun r6=>(.exit 0,up [5] [(7,iV r6)] [0] [] 0)) (fun r6 hr=>(aI (af (HT.g hX [] aa (by (cases hr;exact (HT.ret (bN aa)))))))) fun s4 x7 jr HD=>HT.g hX [] aa (HT.cj jr (fun fU jr=>HT.jn jr (fun v12=>up [5,17,18,19] [(7,iV v12)] [0] [] 0) (fun v12 jr=>HT.k hX [] aa fun _ h=>(aU (lN jr h))) fun _ AN TM=>HT.block (bg AN fun pI AN=>HT.g hX [] (dT pI (bd pI)) (HT.jn AN (fun Mo=>up [5,7,17,18,19] [(28,bV Mo)] [0] [] 0) (fun Mo AN=>HT.cb AN (fun xi AN=>HT.k hX [] aa fun _ h=>(aE (af (h.ht (TM _ (ah AN)))))) fun xi AN=>HT.skip (aE (af (HT.re hX (TM _ (ah AN)))))) fun _ nU JN=>bb nU (fun AF nU=>HT.k hX [oH,oH,kT] (aQ AF) fun _ h=>(af (h.ht (JN _ (ah nU))))) fun AF nU=>HT.k hX [oH,oH,kF] (aQ AF) fun _ h=>(af (h.ht (JN _ (ah nU))))))) fun fU jr=>HT.xe hX (aT (aW (HD _ (an jr)))))))))))))))
noncomputable def bJ (a0:List (Int×Int×Int×Int))(a1:List (Int×Int×Int×Int))(s2:Int):Option ((Int)⊕(Unit⊕Unit)):=
 bif (decide (s2<(ae a0))) then
  ai ((0:Int)≤s2∧s2<ae a0) (
   ai ((0:Int)≤s2∧s2<ae a1) (
    bif (!(((List.getD a0 (Int.toNat s2) ((0:Int),(0:Int),(0:Int),(0:Int))).1==(List.getD a1 (Int.toNat s2) ((0:Int),(0:Int),(0:Int),(0:Int))).1)&&((((List.getD a0 (Int.toNat s2) ((0:Int),(0:Int),(0:Int),(0:Int))).2).1==((List.getD a1 (Int.toNat s2) ((0:Int),(0:Int),(0:Int),(0:Int))).2).1)&&(((((List.getD a0 (Int.toNat s2) ((0:Int),(0:Int),(0:Int),(0:Int))).2).2).1==(((List.getD a1 (Int.toNat s2) ((0:Int),(0:Int),(0:Int),(0:Int))).2).2).1)&&(((((List.getD a0 (Int.toNat s2) ((0:Int),(0:Int),(0:Int),(0:Int))).2).2).2==(((List.getD a1 (Int.toNat s2) ((0:Int),(0:Int),(0:Int),(0:Int))).2).2).2)&&true))))) then
     some (.inr (.inr ()))
    else
     some (.inl (aj .i64 s2 (1:Int)))))
 else
  some (.inr (.inl ()))
noncomputable def bY (a0:List (Int×Int×Int×Int))(a1:List (Int×Int×Int×Int)):Option (Bool):=
 bif ((ae a0) != (ae a1)) then
  some false
 else
  (rounds (bJ a0 a1) (0:Int)).bind fun r3=>match r3 with
   | .inl r4=>
    some true
   | .inr r5=>
    some false
theorem MK {a0:List (Int×Int×Int×Int)}{a1:List (Int×Int×Int×Int)}{r:Bool}(hr:bY a0 a1=some r):CallOK Tryz.prog 106 [.bl (.sl (.st (.pair tI (.pair tI (.pair tI tI))))) a0,.bl (.sl (.st (.pair tI (.pair tI (.pair tI tI))))) a1] [⟨false,.bool,r⟩] []:=
 fe Tryz.func106 rfl fun cx hX hF=>HT.g hX [] aa (HT.seq (HT.g hX [] aa (HT.cb hr (fun tR hr=>HT.g hX [] aa (by (cases hr;exact (HT.ret (aD (bN aa)))))) fun tR hr=>HT.skip (af (HT.seq (HT.g hX [] aa (HT.block (HT.lp hX hr (fun s2=>up [0,1,12] [(13,iV s2)] [] [] 0) (fun r3=>match r3 with| .inl r4=>(.exit 0,up [] [] [] [] 0)| .inr r5=>(.ret,up [] [(4,bV false)] [] [] 0)) (fun r3=>match r3 with| .inl r4=>fun hr=>(aI (af (HT.g hX [] aa (by (cases hr;exact (HT.ret (bN aa)))))))| .inr r5=>fun hr=>by (cases hr;exact (br (aD (bN aa))))) fun s2 x6 fm Cq=>HT.g hX [] aa (HT.cj fm (fun vG fm=>HT.seq (HT.block (HT.g hX [] aa (bg fm fun pr fm=>bg fm fun pH fm=>HT.dg hX [] (dT pr pH) (HT.cb fm (fun iZ fm=>HT.g hX [] aa (HT.xr hX (br (aD (jE (Cq _ (an fm))))))) fun iZ fm=>HT.skip (aE (af (HT.k hX [] aa fun _ h=>(aU (lN fm h)))))))))) fun vG fm=>HT.xe hX (aT (aW (Cq _ (an fm)))))))))))))
noncomputable def cp (a0:List Int)(a1:List Int)(s2:Int):Option ((Int)⊕(Unit⊕Unit)):=
 bif (decide (s2<(ae a0))) then
  ai ((0:Int)≤s2∧s2<ae a0) (
   ai ((0:Int)≤s2∧s2<ae a1) (
    bif ((List.getD a0 (Int.toNat s2) (0:Int)) != (List.getD a1 (Int.toNat s2) (0:Int))) then
     some (.inr (.inr ()))
    else
     some (.inl (aj .i64 s2 (1:Int)))))
 else
  some (.inr (.inl ()))
noncomputable def bp (a0:List Int)(a1:List Int):Option (Bool):=
 bif ((ae a0) != (ae a1)) then
  some false
 else
  (rounds (cp a0 a1) (0:Int)).bind fun r3=>match r3 with
   | .inl r4=>
    some true
   | .inr r5=>
    some false
theorem AO {a0:List Int}{a1:List Int}{r:Bool}(hr:bp a0 a1=some r):CallOK Tryz.prog 72 [.bl aN a0,.bl aN a1] [⟨false,.bool,r⟩] []:=
 fe Tryz.func72 rfl fun cx hX hF=>HT.g hX [] aa (HT.seq (HT.g hX [] aa (HT.cb hr (fun tR hr=>HT.g hX [] aa (by (cases hr;exact (HT.ret (aD (bN aa)))))) fun tR hr=>HT.skip (af (HT.seq (HT.g hX [] aa (HT.block (HT.lp hX hr (fun s2=>up [0,1,12] [(13,iV s2)] [] [] 0) (fun r3=>match r3 with| .inl r4=>(.exit 0,up [] [] [] [] 0)| .inr r5=>(.ret,up [] [(4,bV false)] [] [] 0)) (fun r3=>match r3 with| .inl r4=>fun hr=>(aI (af (HT.g hX [] aa (by (cases hr;exact (HT.ret (bN aa)))))))| .inr r5=>fun hr=>by (cases hr;exact (br (aD (bN aa))))) fun s2 x6 fm Cq=>HT.g hX [] aa (HT.cj fm (fun vG fm=>HT.seq (HT.block (HT.g hX [] aa (bg fm fun pr fm=>bg fm fun pH fm=>HT.dg hX [] (dT pr pH) (HT.cb fm (fun iZ fm=>HT.g hX [] aa (HT.xr hX (br (aD (jE (Cq _ (an fm))))))) fun iZ fm=>HT.skip (aE (af (HT.k hX [] aa fun _ h=>(aU (lN fm h)))))))))) fun vG fm=>HT.xe hX (aT (aW (Cq _ (an fm)))))))))))))
noncomputable def lf (a0:Int×Int×List (Int×Int×Int×Int)×List Int×List Int)(a1:Int×Int×List (Int×Int×Int×Int)×List Int×List Int):Option (Bool):=
 (show Option (Bool) from
  bif (a0.1==a1.1) then
   bif (a0.2.1==a1.2.1) then
    (bY a0.2.2.1 a1.2.2.1).bind fun y7=>
    bif y7 then
     (bp a0.2.2.2.1 a1.2.2.2.1).bind fun iW=>
     bif iW then
      (bp a0.2.2.2.2 a1.2.2.2.2).bind fun TL=>
      some TL
     else
      some false
    else
     some false
   else
    some false
  else
   some false).bind fun v2=>
 some v2
theorem Qs {a0:Int×Int×List (Int×Int×Int×Int)×List Int×List Int}{a1:Int×Int×List (Int×Int×Int×Int)×List Int×List Int}{r:Bool}(hr:lf a0 a1=some r):CallOK Tryz.prog 69 [.bl (.st (.pair tI (.pair tI (.pair (.sl (.st (.pair tI (.pair tI (.pair tI tI))))) (.pair aN aN))))) a0,.bl (.st (.pair tI (.pair tI (.pair (.sl (.st (.pair tI (.pair tI (.pair tI tI))))) (.pair aN aN))))) a1] [⟨false,.bool,r⟩] []:=
 fe Tryz.func69 rfl fun cx hX hF=>HT.g hX [] aa (HT.jn hr (fun v2=>up [] [(4,bV v2)] [] [] 0) (fun v2 hr=>by (cases hr;exact (HT.ret (bN aa)))) fun _ ay ez=>bb ay (fun nj ay=>bb ay (fun Db ay=>bc ay MK fun y7 tD ay=>bb ay (fun vG ay=>bc ay AO fun iW kA ay=>bb ay (fun iZ ay=>bc ay AO fun TL AM ay=>HT.k hX (nO 5 [kT,oH,oH,oH,oH,oH,oH,kT,oH,oH,oH,oH,(cl tD),oH,kT,oH,oH,oH,oH,(cl kA),oH,kT,oH,oH,oH,oH,(cl AM)]) (lx nj Db tD vG (oI kA iZ AM)) fun _ h=>(af (h.ht (ez _ (ah ay))))) fun iZ ay=>HT.k hX (nO 5 [kT,oH,oH,oH,oH,oH,oH,kT,oH,oH,oH,oH,(cl tD),oH,kT,oH,oH,oH,oH,(cl kA),oH,kF]) (lx nj Db tD vG (dT kA iZ)) fun _ h=>(af (h.ht (ez _ (ah ay))))) fun vG ay=>HT.k hX (nO 5 [kT,oH,oH,oH,oH,oH,oH,kT,oH,oH,oH,oH,(cl tD),oH,kF]) (oJ nj Db tD vG) fun _ h=>(af (h.ht (ez _ (ah ay))))) fun Db ay=>HT.k hX (nO 5 [kT,oH,oH,oH,oH,oH,oH,kF]) (dT nj Db) fun _ h=>(af (h.ht (ez _ (ah ay))))) fun nj ay=>HT.k hX (nO 5 [kF]) (aQ nj) fun _ h=>(af (h.ht (ez _ (ah ay)))))
noncomputable def cC (a0:List Bool)(a1:List Bool)(s2:Int):Option ((Int)⊕(Unit⊕Unit)):=
 bif (decide (s2<(ae a0))) then
  ai ((0:Int)≤s2∧s2<ae a0) (
   ai ((0:Int)≤s2∧s2<ae a1) (
    bif ((List.getD a0 (Int.toNat s2) false) != (List.getD a1 (Int.toNat s2) false)) then
     some (.inr (.inr ()))
    else
     some (.inl (aj .i64 s2 (1:Int)))))
 else
  some (.inr (.inl ()))
noncomputable def dm (a0:List Bool)(a1:List Bool):Option (Bool):=
 bif ((ae a0) != (ae a1)) then
  some false
 else
  (rounds (cC a0 a1) (0:Int)).bind fun r3=>match r3 with
   | .inl r4=>
    some true
   | .inr r5=>
    some false
theorem ML {a0:List Bool}{a1:List Bool}{r:Bool}(hr:dm a0 a1=some r):CallOK Tryz.prog 107 [.bl (.sl .bool) a0,.bl (.sl .bool) a1] [⟨false,.bool,r⟩] []:=
 fe Tryz.func107 rfl fun cx hX hF=>HT.g hX [] aa (HT.seq (HT.g hX [] aa (HT.cb hr (fun tR hr=>HT.g hX [] aa (by (cases hr;exact (HT.ret (aD (bN aa)))))) fun tR hr=>HT.skip (af (HT.seq (HT.g hX [] aa (HT.block (HT.lp hX hr (fun s2=>up [0,1,12] [(13,iV s2)] [] [] 0) (fun r3=>match r3 with| .inl r4=>(.exit 0,up [] [] [] [] 0)| .inr r5=>(.ret,up [] [(4,bV false)] [] [] 0)) (fun r3=>match r3 with| .inl r4=>fun hr=>(aI (af (HT.g hX [] aa (by (cases hr;exact (HT.ret (bN aa)))))))| .inr r5=>fun hr=>by (cases hr;exact (br (aD (bN aa))))) fun s2 x6 fm Cq=>HT.g hX [] aa (HT.cj fm (fun vG fm=>HT.seq (HT.block (HT.g hX [] aa (bg fm fun pr fm=>bg fm fun pH fm=>HT.dg hX [] (dT pr pH) (HT.cb fm (fun iZ fm=>HT.g hX [] aa (HT.xr hX (br (aD (jE (Cq _ (an fm))))))) fun iZ fm=>HT.skip (aE (af (HT.k hX [] aa fun _ h=>(aU (lN fm h)))))))))) fun vG fm=>HT.xe hX (aT (aW (Cq _ (an fm)))))))))))))
noncomputable def mZ (a0:Int×Int×List Int×List Bool)(a1:Int×Int×List Int×List Bool):Option (Bool):=
 (show Option (Bool) from
  bif (a0.1==a1.1) then
   bif (a0.2.1==a1.2.1) then
    (bp a0.2.2.1 a1.2.2.1).bind fun y7=>
    bif y7 then
     (dm a0.2.2.2 a1.2.2.2).bind fun iW=>
     some iW
    else
     some false
   else
    some false
  else
   some false).bind fun v2=>
 some v2
theorem Qt {a0:Int×Int×List Int×List Bool}{a1:Int×Int×List Int×List Bool}{r:Bool}(hr:mZ a0 a1=some r):CallOK Tryz.prog 70 [.bl (.st (.pair tI (.pair tI (.pair aN (.sl .bool))))) a0,.bl (.st (.pair tI (.pair tI (.pair aN (.sl .bool))))) a1] [⟨false,.bool,r⟩] []:=
 fe Tryz.func70 rfl fun cx hX hF=>HT.g hX [] aa (HT.jn hr (fun v2=>up [] [(4,bV v2)] [] [] 0) (fun v2 hr=>by (cases hr;exact (HT.ret (bN aa)))) fun _ ay ez=>bb ay (fun nj ay=>bb ay (fun Db ay=>bc ay AO fun y7 tD ay=>bb ay (fun vG ay=>bc ay ML fun iW kA ay=>HT.k hX (nO 5 [kT,oH,oH,oH,oH,oH,oH,kT,oH,oH,oH,oH,(cl tD),oH,kT,oH,oH,oH,oH,(cl kA)]) (lx nj Db tD vG (aQ kA)) fun _ h=>(af (h.ht (ez _ (ah ay))))) fun vG ay=>HT.k hX (nO 5 [kT,oH,oH,oH,oH,oH,oH,kT,oH,oH,oH,oH,(cl tD),oH,kF]) (oJ nj Db tD vG) fun _ h=>(af (h.ht (ez _ (ah ay))))) fun Db ay=>HT.k hX (nO 5 [kT,oH,oH,oH,oH,oH,oH,kF]) (dT nj Db) fun _ h=>(af (h.ht (ez _ (ah ay))))) fun nj ay=>HT.k hX (nO 5 [kF]) (aQ nj) fun _ h=>(af (h.ht (ez _ (ah ay)))))
noncomputable def bE (a0:List (Int×Int×Int×Int))(a1:List (Int×Int×Int×Int))(s2:Int):Option ((Int)⊕(Unit⊕Unit)):=
 bif (decide (s2<(ae a0))) then
  ai ((0:Int)≤s2∧s2<ae a0) (
   ai ((0:Int)≤s2∧s2<ae a1) (
    bif (!(((List.getD a0 (Int.toNat s2) ((0:Int),(0:Int),(0:Int),(0:Int))).1==(List.getD a1 (Int.toNat s2) ((0:Int),(0:Int),(0:Int),(0:Int))).1)&&((((List.getD a0 (Int.toNat s2) ((0:Int),(0:Int),(0:Int),(0:Int))).2).1==((List.getD a1 (Int.toNat s2) ((0:Int),(0:Int),(0:Int),(0:Int))).2).1)&&(((((List.getD a0 (Int.toNat s2) ((0:Int),(0:Int),(0:Int),(0:Int))).2).2).1==(((List.getD a1 (Int.toNat s2) ((0:Int),(0:Int),(0:Int),(0:Int))).2).2).1)&&(((((List.getD a0 (Int.toNat s2) ((0:Int),(0:Int),(0:Int),(0:Int))).2).2).2==(((List.getD a1 (Int.toNat s2) ((0:Int),(0:Int),(0:Int),(0:Int))).2).2).2)&&true))))) then
     some (.inr (.inr ()))
    else
     some (.inl (aj .i64 s2 (1:Int)))))
 else
  some (.inr (.inl ()))
noncomputable def bM (a0:List (Int×Int×Int×Int))(a1:List (Int×Int×Int×Int)):Option (Bool):=
 bif ((ae a0) != (ae a1)) then
  some false
 else
  (rounds (bE a0 a1) (0:Int)).bind fun r3=>match r3 with
   | .inl r4=>
    some true
   | .inr r5=>
    some false
theorem MN {a0:List (Int×Int×Int×Int)}{a1:List (Int×Int×Int×Int)}{r:Bool}(hr:bM a0 a1=some r):CallOK Tryz.prog 108 [.bl (.sl (.st (.pair tI (.pair tI (.pair tI tI))))) a0,.bl (.sl (.st (.pair tI (.pair tI (.pair tI tI))))) a1] [⟨false,.bool,r⟩] []:=
 fe Tryz.func108 rfl fun cx hX hF=>HT.g hX [] aa (HT.seq (HT.g hX [] aa (HT.cb hr (fun tR hr=>HT.g hX [] aa (by (cases hr;exact (HT.ret (aD (bN aa)))))) fun tR hr=>HT.skip (af (HT.seq (HT.g hX [] aa (HT.block (HT.lp hX hr (fun s2=>up [0,1,12] [(13,iV s2)] [] [] 0) (fun r3=>match r3 with| .inl r4=>(.exit 0,up [] [] [] [] 0)| .inr r5=>(.ret,up [] [(4,bV false)] [] [] 0)) (fun r3=>match r3 with| .inl r4=>fun hr=>(aI (af (HT.g hX [] aa (by (cases hr;exact (HT.ret (bN aa)))))))| .inr r5=>fun hr=>by (cases hr;exact (br (aD (bN aa))))) fun s2 x6 fm Cq=>HT.g hX [] aa (HT.cj fm (fun vG fm=>HT.seq (HT.block (HT.g hX [] aa (bg fm fun pr fm=>bg fm fun pH fm=>HT.dg hX [] (dT pr pH) (HT.cb fm (fun iZ fm=>HT.g hX [] aa (HT.xr hX (br (aD (jE (Cq _ (an fm))))))) fun iZ fm=>HT.skip (aE (af (HT.k hX [] aa fun _ h=>(aU (lN fm h)))))))))) fun vG fm=>HT.xe hX (aT (aW (Cq _ (an fm)))))))))))))
noncomputable def lh (a0:Int×Int×List (Int×Int×Int×Int))(a1:Int×Int×List (Int×Int×Int×Int)):Option (Bool):=
 (show Option (Bool) from
  bif (a0.1==a1.1) then
   bif (a0.2.1==a1.2.1) then
    (bM a0.2.2 a1.2.2).bind fun y7=>
    some y7
   else
    some false
  else
   some false).bind fun v2=>
 some v2
theorem Qu {a0:Int×Int×List (Int×Int×Int×Int)}{a1:Int×Int×List (Int×Int×Int×Int)}{r:Bool}(hr:lh a0 a1=some r):CallOK Tryz.prog 71 [.bl (.st (.pair tI (.pair tI (.sl (.st (.pair tI (.pair tI (.pair tI tI)))))))) a0,.bl (.st (.pair tI (.pair tI (.sl (.st (.pair tI (.pair tI (.pair tI tI)))))))) a1] [⟨false,.bool,r⟩] []:=
 fe Tryz.func71 rfl fun cx hX hF=>HT.g hX [] aa (HT.jn hr (fun v2=>up [] [(4,bV v2)] [] [] 0) (fun v2 hr=>by (cases hr;exact (HT.ret (bN aa)))) fun _ ay ez=>bb ay (fun nj ay=>bb ay (fun Db ay=>bc ay MN fun y7 tD ay=>HT.k hX (nO 5 [kT,oH,oH,oH,oH,oH,oH,kT,oH,oH,oH,oH,(cl tD)]) (oI nj Db tD) fun _ h=>(af (h.ht (ez _ (ah ay))))) fun Db ay=>HT.k hX (nO 5 [kT,oH,oH,oH,oH,oH,oH,kF]) (dT nj Db) fun _ h=>(af (h.ht (ez _ (ah ay))))) fun nj ay=>HT.k hX (nO 5 [kF]) (aQ nj) fun _ h=>(af (h.ht (ez _ (ah ay)))))
noncomputable def lz (a0:(Int×Int×List (Int×Int×Int×Int)×List Int×List Int)×(Int×Int×List Int×List Bool)×(Int×Int×List (Int×Int×Int×Int))×List Int)(a1:(Int×Int×List (Int×Int×Int×Int)×List Int×List Int)×(Int×Int×List Int×List Bool)×(Int×Int×List (Int×Int×Int×Int))×List Int):Option (Bool):=
 (show Option (Bool) from
  (lf (a0.1.1,a0.1.2.1,a0.1.2.2.1,a0.1.2.2.2.1,a0.1.2.2.2.2) (a1.1.1,a1.1.2.1,a1.1.2.2.1,a1.1.2.2.2.1,a1.1.2.2.2.2)).bind fun y5=>
  bif y5 then
   (mZ (a0.2.1.1,a0.2.1.2.1,a0.2.1.2.2.1,a0.2.1.2.2.2) (a1.2.1.1,a1.2.1.2.1,a1.2.1.2.2.1,a1.2.1.2.2.2)).bind fun y8=>
   bif y8 then
    (lh (a0.2.2.1.1,a0.2.2.1.2.1,a0.2.2.1.2.2) (a1.2.2.1.1,a1.2.2.1.2.1,a1.2.2.1.2.2)).bind fun fQ=>
    bif fQ then
     (bp a0.2.2.2 a1.2.2.2).bind fun om=>
     some om
    else
     some false
   else
    some false
  else
   some false).bind fun v2=>
 some v2
theorem Qv {a0:(Int×Int×List (Int×Int×Int×Int)×List Int×List Int)×(Int×Int×List Int×List Bool)×(Int×Int×List (Int×Int×Int×Int))×List Int}{a1:(Int×Int×List (Int×Int×Int×Int)×List Int×List Int)×(Int×Int×List Int×List Bool)×(Int×Int×List (Int×Int×Int×Int))×List Int}{r:Bool}(hr:lz a0 a1=some r):CallOK Tryz.prog 26 [.bl (.st (.pair (.st (.pair tI (.pair tI (.pair (.sl (.st (.pair tI (.pair tI (.pair tI tI))))) (.pair aN aN))))) (.pair (.st (.pair tI (.pair tI (.pair aN (.sl .bool))))) (.pair (.st (.pair tI (.pair tI (.sl (.st (.pair tI (.pair tI (.pair tI tI)))))))) aN)))) a0,.bl (.st (.pair (.st (.pair tI (.pair tI (.pair (.sl (.st (.pair tI (.pair tI (.pair tI tI))))) (.pair aN aN))))) (.pair (.st (.pair tI (.pair tI (.pair aN (.sl .bool))))) (.pair (.st (.pair tI (.pair tI (.sl (.st (.pair tI (.pair tI (.pair tI tI)))))))) aN)))) a1] [⟨false,.bool,r⟩] []:=
 fe Tryz.func26 rfl fun cx hX hF=>HT.g hX [] aa (HT.jn hr (fun v2=>up [] [(4,bV v2)] [] [] 0) (fun v2 hr=>by (cases hr;exact (HT.ret (bN aa)))) fun _ ay ez=>bc ay Qs fun y5 iL ay=>bb ay (fun lQ ay=>bc ay Qt fun y8 oh ay=>bb ay (fun fU ay=>bc ay Qu fun fQ iM ay=>bb ay (fun mU ay=>bc ay AO fun om tH ay=>HT.k hX (nO 4 [(cl iL),kT,oH,oH,oH,oH,(cl oh),oH,kT,oH,oH,oH,oH,(cl iM),oH,kT,oH,oH,oH,oH,(cl tH)]) (lx iL lQ oh fU (oI iM mU tH)) fun _ h=>(af (h.ht (ez _ (ah ay))))) fun mU ay=>HT.k hX (nO 4 [(cl iL),kT,oH,oH,oH,oH,(cl oh),oH,kT,oH,oH,oH,oH,(cl iM),oH,kF]) (lx iL lQ oh fU (dT iM mU)) fun _ h=>(af (h.ht (ez _ (ah ay))))) fun fU ay=>HT.k hX (nO 4 [(cl iL),kT,oH,oH,oH,oH,(cl oh),oH,kF]) (oJ iL lQ oh fU) fun _ h=>(af (h.ht (ez _ (ah ay))))) fun lQ ay=>HT.k hX (nO 4 [(cl iL),kF]) (dT iL lQ) fun _ h=>(af (h.ht (ez _ (ah ay)))))
end Go.Proofs
