import Derived.Test.YtjnkhcgmgkhnaaaGreatDoorTopShelf
import Derived.Test.YtjnkhcgmgkhnaaaGreatDoorProg
set_option linter.unusedVariables false
set_option linter.unusedSimpArgs false
set_option linter.unusedSectionVars false
namespace Go.Proofs
open Go.Ide
noncomputable def jQ (a0:List Int)(a1:List Int):Option (Bool):=
 (show Option (Bool) from
  bif (decide ((ae a0)>(48:Int))) then
   some true
  else
   some (decide ((ae a1)>(48:Int)))).bind fun v2=>
 some v2
theorem SS {a0:List Int}{a1:List Int}{r:Bool}(hr:jQ a0 a1=some r):CallOK Tryz.prog 6 [.bl (.sl (.int .u8)) a0,.bl (.sl (.int .u8)) a1] [⟨false,.bool,r⟩] []:=
 fe Tryz.func6 rfl fun cx hX hF=>HT.g hX [] aa (HT.jn hr (fun v2=>up [] [(4,bV v2)] [] [] 0) (fun v2 hr=>by (cases hr;exact (HT.ret (bN aa)))) fun _ ay ez=>bb ay (fun nj ay=>HT.k hX [oH,oH,oH,kT] (aQ nj) fun _ h=>(af (h.ht (ez _ (ah ay))))) fun nj ay=>HT.k hX [oH,oH,oH,kF] (aQ nj) fun _ h=>(af (h.ht (ez _ (ah ay)))))
noncomputable def pn (a0:List Int):Option ((List Int×Int×Int)):=
 some (a0,(0:Int),(0:Int))
theorem O8 {a0:List Int}{r:(List Int×Int×Int)}(hr:pn a0=some r):CallOK Tryz.prog 36 [.bl (.sl (.int .u8)) a0] [⟨true,(.bx (.st (.pair (.sl (.int .u8)) (.pair tI (.int .u64))))),[r]⟩] []:=
 fe Tryz.func36 rfl fun cx hX hF=>HT.g hX [] aa (HT.g hX [oH,oH,(hT (.st (.pair (.sl (.int .u8)) (.pair tI (.int .u64)))))] aa (by (cases hr;exact (HT.ret (bN aa)))))
noncomputable def fB (a0:List Int×Int×Int):Option (Int×(List Int×Int×Int)):=
 (show Option (Int) from
  bif (decide (a0.2.1<(ae a0.1))) then
   ai ((0:Int)≤a0.2.1∧a0.2.1<ae a0.1) (
    some (IntKind.wrap .i64 (List.getD a0.1 (Int.toNat a0.2.1) (0:Int))))
  else
   some (0:Int)).bind fun v2=>
 bif (decide ((aj .i64 a0.2.1 (1:Int))≤(ae a0.1))) then
  some (v2,a0.1,(aj .i64 a0.2.1 (1:Int)),(aj .u64 (aj .u64 (ij .u64 a0.2.2 (6364136223846793005:Int)) (IntKind.wrap .u64 v2)) (1442695040888963407:Int)))
 else
  (some (IntKind.wrap .i64 (IntKind.wrap .u64 (BitVec.ofInt (IntKind.bits .u64) (Int.fdiv (aj .u64 (aj .u64 (ij .u64 a0.2.2 (6364136223846793005:Int)) (IntKind.wrap .u64 v2)) (1442695040888963407:Int)) (2^(min (Int.toNat (40:Int)) (IntKind.bits .u64))))&&& BitVec.ofInt (IntKind.bits .u64) (255:Int)).toNat))).bind fun q6=>
  some (q6,a0.1,(aj .i64 a0.2.1 (1:Int)),(aj .u64 (aj .u64 (ij .u64 a0.2.2 (6364136223846793005:Int)) (IntKind.wrap .u64 v2)) (1442695040888963407:Int)))
theorem FP {a0:List Int×Int×Int}{r:Int×(List Int×Int×Int)}(hr:fB a0=some r):CallOK Tryz.prog 109 [.own (.bx (.st (.pair (.sl (.int .u8)) (.pair tI (.int .u64))))) [a0]] [⟨false,tI,r.1⟩] [⟨(.bx (.st (.pair (.sl (.int .u8)) (.pair tI (.int .u64))))),[r.2]⟩]:=
 fe Tryz.func109 rfl fun cx hX hF=>HT.g hX [] aa (HT.g hX [] aa (HT.jn hr (fun v2=>up [0] [(3,iV v2)] [0] [] 0) (fun v2 hr=>HT.g hX [] (dT (show 0<List.length [a0] from Nat.zero_lt_one) (show 0<List.length [a0] from Nat.zero_lt_one)) (HT.g hX [] (dT (show 0<List.length [(a0.1,(aj .i64 a0.2.1 (1:Int)),a0.2.2)] from Nat.zero_lt_one) (show 0<List.length [(a0.1,(aj .i64 a0.2.1 (1:Int)),a0.2.2)] from Nat.zero_lt_one)) (HT.seq (HT.dg hX [] (dT (show 0<List.length [(a0.1,(aj .i64 a0.2.1 (1:Int)),(aj .u64 (aj .u64 (ij .u64 a0.2.2 (6364136223846793005:Int)) (IntKind.wrap .u64 v2)) (1442695040888963407:Int)))] from Nat.zero_lt_one) (show 0<List.length [(a0.1,(aj .i64 a0.2.1 (1:Int)),(aj .u64 (aj .u64 (ij .u64 a0.2.2 (6364136223846793005:Int)) (IntKind.wrap .u64 v2)) (1442695040888963407:Int)))] from Nat.zero_lt_one)) (HT.cb hr (fun nj hr=>HT.g hX [] aa (by (cases hr;exact (HT.ret (aD (bN (aQ (show List.length ([(a0.1,(aj .i64 a0.2.1 (1:Int)),(aj .u64 (aj .u64 (ij .u64 a0.2.2 (6364136223846793005:Int)) (IntKind.wrap .u64 v2)) (1442695040888963407:Int)))])=List.length [a0] from rfl)))))))) fun nj hr=>HT.skip (af (HT.g hX [] (dT (show 0<List.length [(a0.1,(aj .i64 a0.2.1 (1:Int)),(aj .u64 (aj .u64 (ij .u64 a0.2.2 (6364136223846793005:Int)) (IntKind.wrap .u64 v2)) (1442695040888963407:Int)))] from Nat.zero_lt_one) (show (0:Int)≤(40:Int) from by decide)) (bq hr fun hr=>by (cases hr;exact (HT.ret (bN (aQ (show List.length ([(a0.1,(aj .i64 a0.2.1 (1:Int)),(aj .u64 (aj .u64 (ij .u64 a0.2.2 (6364136223846793005:Int)) (IntKind.wrap .u64 v2)) (1442695040888963407:Int)))])=List.length [a0] from rfl))))))))))))) fun _ ay ez=>HT.dg hX [] (dT (show 0<List.length [a0] from Nat.zero_lt_one) (show 0<List.length [a0] from Nat.zero_lt_one)) (HT.cb ay (fun nR ay=>bg ay fun tB ay=>HT.dk hX [] (oI (show 0<List.length [a0] from Nat.zero_lt_one) (show 0<List.length [a0] from Nat.zero_lt_one) tB) fun _ h=>(af (h.ht (ez _ (ah ay))))) fun nR ay=>HT.skip (af (HT.re hX (ez _ (ah ay)))))))
noncomputable def ak (a0:List Int×Int×Int)(a1:Int):Option (Int×(List Int×Int×Int)):=
 bif (decide (a1≤(1:Int))) then
  some ((0:Int),a0)
 else
  (fB a0).bind fun y2=>
  (show Option (Int×(List Int×Int×Int)) from
   bif (decide (a1>(200:Int))) then
    (fB y2.2).bind fun iW=>
    some ((aj .i64 (ij .i64 y2.1 (256:Int)) iW.1),iW.2)
   else
    some (y2.1,y2.2)).bind fun v5=>
  ai (a1≠0) (
   some ((Int.tmod v5.1 a1),v5.2))
theorem dI {a0:List Int×Int×Int}{a1:Int}{r:Int×(List Int×Int×Int)}(hr:ak a0 a1=some r):CallOK Tryz.prog 73 [.own (.bx (.st (.pair (.sl (.int .u8)) (.pair tI (.int .u64))))) [a0],.bl tI a1] [⟨false,tI,r.1⟩] [⟨(.bx (.st (.pair (.sl (.int .u8)) (.pair tI (.int .u64))))),[r.2]⟩]:=
 fe Tryz.func73 rfl fun cx hX hF=>HT.g hX [] aa (HT.seq (HT.g hX [] aa (HT.cb hr (fun tR hr=>HT.g hX [] aa (by (cases hr;exact (HT.ret (aD (bN (aQ (show List.length ([a0])=List.length [a0] from rfl)))))))) fun tR hr=>HT.skip (af (bc hr FP fun y2 FQ hr=>HT.g hX [oH,(cl FQ)] (aQ FQ) (HT.jn hr (fun v5=>up [1] [(5,iV v5.1)] [] [(0,.seq (.st (.pair (.sl (.int .u8)) (.pair tI (.int .u64)))) ([v5.2]))] 0) (fun v5 hr=>bg hr fun Ck hr=>HT.g hX [] (aQ Ck) (by (cases hr;exact (HT.ret (bN (aQ (show List.length ([v5.2])=List.length [a0] from rfl))))))) fun _ GW SV=>HT.g hX [] aa (HT.cb GW (fun vG GW=>bc GW FP fun iW kA GW=>HT.k hX [oH,oH,oH,(cl kA)] (aQ kA) fun _ h=>(af (h.ht (SV _ (ah GW))))) fun vG GW=>HT.skip (af (HT.re hX (SV _ (ah GW)))))))))))
noncomputable def bz (a0:List Int×Int×Int)(a1:Int):Option (Bool×(List Int×Int×Int)):=
 (ak a0 a1).bind fun y1=>
 some ((y1.1==(0:Int)),y1.2)
theorem tC {a0:List Int×Int×Int}{a1:Int}{r:Bool×(List Int×Int×Int)}(hr:bz a0 a1=some r):CallOK Tryz.prog 147 [.own (.bx (.st (.pair (.sl (.int .u8)) (.pair tI (.int .u64))))) [a0],.bl tI a1] [⟨false,.bool,r.1⟩] [⟨(.bx (.st (.pair (.sl (.int .u8)) (.pair tI (.int .u64))))),[r.2]⟩]:=
 fe Tryz.func147 rfl fun cx hX hF=>HT.g hX [] aa (bc hr dI fun y1 bQ hr=>HT.g hX [oH,oH,(cl bQ)] (aQ bQ) (by (cases hr;exact (HT.ret (bN (aQ (show List.length ([y1.2])=List.length [a0] from rfl)))))))
noncomputable def eR (a1:Int)(s6:Int×(List Int×Int×Int)×List Int×List Int):Option ((Int×(List Int×Int×Int)×List Int×List Int)⊕(((List Int×Int×Int)×List Int×List Int))):=
 bif (decide (s6.1<a1)) then
  (show Option (Int×(List Int×Int×Int)) from
   (show Option (Bool×(List Int×Int×Int)) from
    bif (s6.1==(0:Int)) then
     some (true,s6.2.1)
    else
     (bz s6.2.1 (5:Int)).bind fun L6=>
     some (L6.1,L6.2)).bind fun xc=>
   bif xc.1 then
    (ak xc.2 (4:Int)).bind fun K5=>
    some (K5.1,K5.2)
   else
    some ((-1:Int),xc.2)).bind fun GX=>
  (show Option (Int×(List Int×Int×Int)) from
   (show Option (Bool×(List Int×Int×Int)) from
    bif (s6.1==(a7 .i64 a1 (1:Int))) then
     some (true,GX.2)
    else
     (bz GX.2 (4:Int)).bind fun GY=>
     some (GY.1,GY.2)).bind fun v24=>
   bif v24.1 then
    (ak v24.2 (4:Int)).bind fun NF=>
    some (NF.1,NF.2)
   else
    some ((-1:Int),v24.2)).bind fun O9=>
  ai (List.length s6.2.2.1+List.length ([GX.1]:List Int)≤av) (
   ai (List.length s6.2.2.2+List.length ([O9.1]:List Int)≤av) (
    some (.inl ((aj .i64 s6.1 (1:Int)),O9.2,(s6.2.2.1++([GX.1]:List Int)),(s6.2.2.2++([O9.1]:List Int))))))
 else
  some (.inr (s6.2.1,s6.2.2.1,s6.2.2.2))
noncomputable def eS (a1:Int)(a2:Int)(a3:Bool)(s3:Int×(List Int×Int×Int)×(List (Int×Int×Int×Int))):Option ((Int×(List Int×Int×Int)×(List (Int×Int×Int×Int)))⊕(((List Int×Int×Int)×(List (Int×Int×Int×Int))))):=
 bif (decide (s3.1>(0:Int))) then
  (ak s3.2.1 a1).bind fun HC=>
  (ak HC.2 a1).bind fun L7=>
  (ak L7.2 a2).bind fun Pa=>
  (ak Pa.2 (9:Int)).bind fun K6=>
  (show Option ((List Int×Int×Int)×Int) from
   (show Option (Bool×(List Int×Int×Int)) from
    bif a3 then
     (bz K6.2 (5:Int)).bind fun Re=>
     some (Re.1,Re.2)
    else
     some (false,K6.2)).bind fun Pb=>
   bif Pb.1 then
    some (Pb.2,(-1:Int))
   else
    some (Pb.2,Pa.1)).bind fun Pc=>
  ai (List.length s3.2.2+List.length ([(HC.1,L7.1,Pc.2,K6.1)]:List (Int×Int×Int×Int))≤av) (
   some (.inl ((a7 .i64 s3.1 (1:Int)),Pc.1,(s3.2.2++([(HC.1,L7.1,Pc.2,K6.1)]:List (Int×Int×Int×Int))))))
 else
  some (.inr (s3.2.1,s3.2.2))
noncomputable def j9 (a0:List Int×Int×Int)(a1:Int)(a2:Int)(a3:Bool):Option ((Int×Int×List (Int×Int×Int×Int)×List Int×List Int)×(List Int×Int×Int)):=
 (ak a0 (aj .i64 (ij .i64 (2:Int) a1) (2:Int))).bind fun y1=>
 (rounds (eS a1 a2 a3) ((aj .i64 (1:Int) y1.1),y1.2,([]:List (Int×Int×Int×Int)))).bind fun r5=>
 (rounds (eR a1) ((0:Int),r5.1,([]:List Int),([]:List Int))).bind fun r8=>
 some ((a1,a2,r5.2,r8.2.1,r8.2.2),r8.1)
theorem L8 {a0:List Int×Int×Int}{a1:Int}{a2:Int}{a3:Bool}{r:(Int×Int×List (Int×Int×Int×Int)×List Int×List Int)×(List Int×Int×Int)}(hr:j9 a0 a1 a2 a3=some r):CallOK Tryz.prog 123 [.own (.bx (.st (.pair (.sl (.int .u8)) (.pair tI (.int .u64))))) [a0],.bl tI a1,.bl tI a2,.bl .bool a3] [⟨true,(.st (.pair tI (.pair tI (.pair (.sl (.st (.pair tI (.pair tI (.pair tI tI))))) (.pair aN aN))))),r.1⟩] [⟨(.bx (.st (.pair (.sl (.int .u8)) (.pair tI (.int .u64))))),[r.2]⟩]:=
 fe Tryz.func123 rfl fun cx hX hF=>HT.g hX [] aa (HT.g hX [] aa (HT.seq (bc hr dI fun y1 bQ hr=>HT.g hX (nO 4 [(cl bQ)]) (aQ bQ) (HT.block (HT.lp hX hr (fun s3=>up [0,1,2,3,8,9] [(10,iV s3.1)] [1] [(0,.seq (.st (.pair (.sl (.int .u8)) (.pair tI (.int .u64)))) ([s3.2.1])),(2,.box [iC a1,iC a2,.all 6,.az,.az]),(6,.seq (.st (.pair tI (.pair tI (.pair tI tI)))) s3.2.2)] 4) (fun r5=>(.exit 0,up [0,1,8,9] [] [1] [(0,.seq (.st (.pair (.sl (.int .u8)) (.pair tI (.int .u64)))) ([r5.1])),(2,.box [iC a1,iC a2,.all 6,.az,.az]),(6,.seq (.st (.pair tI (.pair tI (.pair tI tI)))) r5.2)] 4)) (fun r5 hr=>(aI (af (HT.seq (HT.g hX [] aa (HT.block (HT.lp hX hr (fun s6=>up [0,1,8,9] [(12,iV s6.1)] [1,6] [(0,.seq (.st (.pair (.sl (.int .u8)) (.pair tI (.int .u64)))) ([s6.2.1])),(2,.box [iC a1,iC a2,.all 6,.all 11,.all 12]),(11,.seq tI s6.2.2.1),(12,.seq tI s6.2.2.2)] 6) (fun r8=>(.exit 2,up [8,9] [] [1,6] [(0,.seq (.st (.pair (.sl (.int .u8)) (.pair tI (.int .u64)))) ([r8.1])),(2,.box [iC a1,iC a2,.all 6,.all 11,.all 12]),(11,.seq tI r8.2.1),(12,.seq tI r8.2.2)] 6)) (fun r8 hr=>(aI (af (HT.g hX [] aa (by (cases hr;exact (HT.ret (bN (aQ (show List.length ([r8.1])=List.length [a0] from rfl)))))))))) fun s6 x9 gD Jc=>HT.seq (HT.g hX [] aa (HT.cb gD (fun iZ gD=>HT.skip (af (HT.seq (HT.block (HT.g hX [] aa (HT.g hX [] aa (HT.jn gD (fun GX=>up [0,1,8,9,12,14] [(13,iV GX.1)] [1,2,6,11,12] [(0,.seq (.st (.pair (.sl (.int .u8)) (.pair tI (.int .u64)))) ([GX.2]))] 0) (fun GX gD=>HT.jn gD (fun O9=>up [0,1,8,9,12,13] [(14,iV O9.1)] [1,2,6,11,12] [(0,.seq (.st (.pair (.sl (.int .u8)) (.pair tI (.int .u64)))) ([O9.2]))] 0) (fun O9 gD=>bg gD fun vn gD=>HT.g hX [oH,oH,oH,(hT tI),(hT tI)] (aQ vn) (bg gD fun qf gD=>HT.l hX [oH,oH,oH,(hT tI),(hT tI)] (aQ qf) (aE (af (HT.k hX [] aa fun _ h=>(aU (lN gD h))))))) fun _ Au SW=>HT.jn Au (fun v24=>up [0,1,8,9,12,13,14] [(76,bV v24.1)] [1,2,6,11,12] [(0,.seq (.st (.pair (.sl (.int .u8)) (.pair tI (.int .u64)))) ([v24.2]))] 0) (fun v24 Au=>HT.cb Au (fun Pd Au=>bc Au dI fun NF Jd Au=>HT.k hX [oH,(cl Jd)] (aQ Jd) fun _ h=>(af (h.ht (SW _ (ah Au))))) fun Pd Au=>HT.skip (af (HT.re hX (SW _ (ah Au))))) fun _ kX Cl=>bb kX (fun nS kX=>HT.k hX (nO 4 [kT]) (aQ nS) fun _ h=>(af (h.ht (Cl _ (ah kX))))) fun nS kX=>bc kX tC fun GY qg kX=>HT.k hX (nO 4 [kF,oH,(cl qg)]) (dT nS qg) fun _ h=>(af (h.ht (Cl _ (ah kX))))) fun _ qh Je=>HT.jn qh (fun xc=>up [0,1,8,9,12,13,14] [(66,bV xc.1)] [1,2,6,11,12] [(0,.seq (.st (.pair (.sl (.int .u8)) (.pair tI (.int .u64)))) ([xc.2]))] 0) (fun xc qh=>HT.cb qh (fun Pe qh=>bc qh dI fun K5 Jf qh=>HT.k hX [oH,(cl Jf)] (aQ Jf) fun _ h=>(af (h.ht (Je _ (ah qh))))) fun Pe qh=>HT.skip (af (HT.re hX (Je _ (ah qh))))) fun _ ja Cm=>bb ja (fun Pf ja=>HT.k hX [oH,oH,kT] (aQ Pf) fun _ h=>(af (h.ht (Cm _ (ah ja))))) fun Pf ja=>bc ja tC fun L6 SY ja=>HT.k hX [oH,oH,kF,oH,(cl SY)] (dT Pf SY) fun _ h=>(af (h.ht (Cm _ (ah ja))))))))))) fun iZ gD=>HT.xe hX (aT (aW (Jc _ (an gD))))))))))))) fun s3 x43 qi WA=>HT.seq (HT.g hX [] aa (HT.cb qi (fun WB qi=>HT.skip (af (HT.seq (HT.block (bc qi dI fun HC yu qi=>HT.g hX [oH,oH,(cl yu)] (aQ yu) (bc qi dI fun L7 Jg qi=>HT.g hX [oH,oH,(cl Jg)] (aQ Jg) (bc qi dI fun Pa Jh qi=>HT.g hX [oH,oH,(cl Jh)] (aQ Jh) (bc qi dI fun K6 Ji qi=>HT.g hX [oH,(cl Ji)] (aQ Ji) (HT.jn qi (fun Pc=>up [0,1,2,3,8,9,10,11] [] [1,2,6] [(0,.seq (.st (.pair (.sl (.int .u8)) (.pair tI (.int .u64)))) ([Pc.1])),(7,.box [iC HC.1,iC L7.1,iC Pc.2,iC K6.1])] 0) (fun Pc qi=>bg qi fun Ef qi=>HT.l hX [oH,oH,oH,(hT (.st (.pair tI (.pair tI (.pair tI tI))))),(hT (.st (.pair tI (.pair tI (.pair tI tI)))))] (aQ Ef) (aE (af (HT.k hX [] aa fun _ h=>(aU (lN qi h)))))) fun _ Eg SZ=>HT.jn Eg (fun Pb=>up [0,1,2,3,8,9,10,11] [(48,bV Pb.1)] [1,2,7,6] [(0,.seq (.st (.pair (.sl (.int .u8)) (.pair tI (.int .u64)))) ([Pb.2]))] 0) (fun Pb Eg=>HT.cb Eg (fun WC Eg=>HT.k hX [] aa fun _ h=>(af (h.ht (SZ _ (ah Eg))))) fun WC Eg=>HT.skip (af (HT.re hX (SZ _ (ah Eg))))) fun _ Eh S0=>bb Eh (fun Av Eh=>bc Eh tC fun Re Jj Eh=>HT.k hX [oH,kT,oH,(cl Jj)] (dT Av Jj) fun _ h=>(af (h.ht (S0 _ (ah Eh))))) fun Av Eh=>HT.k hX [oH,kF] (aQ Av) fun _ h=>(af (h.ht (S0 _ (ah Eh))))))))))))) fun WB qi=>HT.xe hX (aT (aW (WA _ (an qi)))))))))))
noncomputable def fq (a0:List Int×Int×Int):Option ((Int×Int×List (Int×Int×Int×Int)×List Int×List Int)×(List Int×Int×Int)):=
 (ak a0 (4:Int)).bind fun y1=>
 (ak y1.2 (3:Int)).bind fun y3=>
 (j9 y3.2 (aj .i64 (1:Int) y1.1) (aj .i64 (1:Int) y3.1) true).bind fun y5=>
 some ((y5.1.1,y5.1.2.1,y5.1.2.2.1,y5.1.2.2.2.1,y5.1.2.2.2.2),y5.2)
theorem Pg {a0:List Int×Int×Int}{r:(Int×Int×List (Int×Int×Int×Int)×List Int×List Int)×(List Int×Int×Int)}(hr:fq a0=some r):CallOK Tryz.prog 85 [.own (.bx (.st (.pair (.sl (.int .u8)) (.pair tI (.int .u64))))) [a0]] [⟨true,(.st (.pair tI (.pair tI (.pair (.sl (.st (.pair tI (.pair tI (.pair tI tI))))) (.pair aN aN))))),r.1⟩] [⟨(.bx (.st (.pair (.sl (.int .u8)) (.pair tI (.int .u64))))),[r.2]⟩]:=
 fe Tryz.func85 rfl fun cx hX hF=>HT.g hX [] aa (bc hr dI fun y1 bQ hr=>HT.g hX [oH,(cl bQ)] (aQ bQ) (bc hr dI fun y3 qj hr=>HT.g hX [oH,(cl qj)] (aQ qj) (bc hr L8 fun y5 iL hr=>HT.g hX [oH,oH,oH,(cl iL)] (aQ iL) (by (cases hr;exact (HT.ret (bN (aQ (show List.length ([y5.2])=List.length [a0] from rfl)))))))))
noncomputable def eE (a1:Int)(s4:Int×(List Int×Int×Int)×List Bool):Option ((Int×(List Int×Int×Int)×List Bool)⊕(((List Int×Int×Int)×List Bool))):=
 bif (decide (s4.1<a1)) then
  (bz s4.2.1 (3:Int)).bind fun fQ=>
  ai (List.length s4.2.2+List.length ([fQ.1]:List Bool)≤av) (
   some (.inl ((aj .i64 s4.1 (1:Int)),fQ.2,(s4.2.2++([fQ.1]:List Bool)))))
 else
  some (.inr (s4.2.1,s4.2.2))
noncomputable def eF (a1:Int)(s1:Int×(List Int×Int×Int)×List Int):Option ((Int×(List Int×Int×Int)×List Int)⊕(((List Int×Int×Int)×List Int))):=
 bif (decide (s1.1>(0:Int))) then
  (ak s1.2.1 a1).bind fun Jk=>
  ai (List.length s1.2.2+List.length ([Jk.1]:List Int)≤av) (
   some (.inl ((a7 .i64 s1.1 (1:Int)),Jk.2,(s1.2.2++([Jk.1]:List Int)))))
 else
  some (.inr (s1.2.1,s1.2.2))
noncomputable def dJ (a0:List Int×Int×Int)(a1:Int)(a2:Int):Option ((Int×Int×List Int×List Bool)×(List Int×Int×Int)):=
 (rounds (eF a1) ((ij .i64 a1 a2),a0,([]:List Int))).bind fun r3=>
 (rounds (eE a1) ((0:Int),r3.1,([]:List Bool))).bind fun r6=>
 some ((a1,a2,r3.2,r6.2),r6.1)
theorem L9 {a0:List Int×Int×Int}{a1:Int}{a2:Int}{r:(Int×Int×List Int×List Bool)×(List Int×Int×Int)}(hr:dJ a0 a1 a2=some r):CallOK Tryz.prog 124 [.own (.bx (.st (.pair (.sl (.int .u8)) (.pair tI (.int .u64))))) [a0],.bl tI a1,.bl tI a2] [⟨true,(.st (.pair tI (.pair tI (.pair aN (.sl .bool))))),r.1⟩] [⟨(.bx (.st (.pair (.sl (.int .u8)) (.pair tI (.int .u64))))),[r.2]⟩]:=
 fe Tryz.func124 rfl fun cx hX hF=>HT.g hX [] aa (HT.g hX [] aa (HT.seq (HT.g hX [] aa (HT.block (HT.lp hX hr (fun s1=>up [0,1,6,7] [(8,iV s1.1)] [1] [(0,.seq (.st (.pair (.sl (.int .u8)) (.pair tI (.int .u64)))) ([s1.2.1])),(2,.box [iC a1,iC a2,.all 5,.az]),(5,.seq tI s1.2.2)] 3) (fun r3=>(.exit 0,up [0,1,6,7] [] [1] [(0,.seq (.st (.pair (.sl (.int .u8)) (.pair tI (.int .u64)))) ([r3.1])),(2,.box [iC a1,iC a2,.all 5,.az]),(5,.seq tI r3.2)] 3)) (fun r3 hr=>(aI (af (HT.seq (HT.g hX [] aa (HT.block (HT.lp hX hr (fun s4=>up [0,1,6,7] [(9,iV s4.1)] [1,5] [(0,.seq (.st (.pair (.sl (.int .u8)) (.pair tI (.int .u64)))) ([s4.2.1])),(2,.box [iC a1,iC a2,.all 5,.all 8]),(8,.seq .bool s4.2.2)] 3) (fun r6=>(.exit 2,up [6,7] [] [1,5] [(0,.seq (.st (.pair (.sl (.int .u8)) (.pair tI (.int .u64)))) ([r6.1])),(2,.box [iC a1,iC a2,.all 5,.all 8]),(8,.seq .bool r6.2)] 3)) (fun r6 hr=>(aI (af (HT.g hX [] aa (by (cases hr;exact (HT.ret (bN (aQ (show List.length ([r6.1])=List.length [a0] from rfl)))))))))) fun s4 x7 jr HD=>HT.seq (HT.g hX [] aa (HT.cb jr (fun fU jr=>HT.skip (af (HT.seq (HT.block (bc jr tC fun fQ iM jr=>bg jr fun sf jr=>HT.dl hX [oH,oH,oH,(cl iM),(hT .bool),(hT .bool)] (dT iM sf) (aE (af (HT.k hX [] aa fun _ h=>(aU (lN jr h)))))))))) fun fU jr=>HT.xe hX (aT (aW (HD _ (an jr))))))))))))) fun s1 WD gg Ei=>HT.seq (HT.g hX [] aa (HT.cb gg (fun uq gg=>HT.skip (af (HT.seq (HT.block (bc gg dI fun Jk Cn gg=>bg gg fun Jl gg=>HT.dl hX (nO 4 [(cl Cn),(hT tI),(hT tI)]) (dT Cn Jl) (aE (af (HT.k hX [] aa fun _ h=>(aU (lN gg h)))))))))) fun uq gg=>HT.xe hX (aT (aW (Ei _ (an gg)))))))))))
noncomputable def jb (a0:List Int×Int×Int):Option ((Int×Int×List Int×List Bool)×(List Int×Int×Int)):=
 (ak a0 (6:Int)).bind fun y1=>
 (ak y1.2 (3:Int)).bind fun y3=>
 (dJ y3.2 (aj .i64 (1:Int) y1.1) (aj .i64 (1:Int) y3.1)).bind fun y5=>
 some ((y5.1.1,y5.1.2.1,y5.1.2.2.1,y5.1.2.2.2),y5.2)
theorem Ph {a0:List Int×Int×Int}{r:(Int×Int×List Int×List Bool)×(List Int×Int×Int)}(hr:jb a0=some r):CallOK Tryz.prog 86 [.own (.bx (.st (.pair (.sl (.int .u8)) (.pair tI (.int .u64))))) [a0]] [⟨true,(.st (.pair tI (.pair tI (.pair aN (.sl .bool))))),r.1⟩] [⟨(.bx (.st (.pair (.sl (.int .u8)) (.pair tI (.int .u64))))),[r.2]⟩]:=
 fe Tryz.func86 rfl fun cx hX hF=>HT.g hX [] aa (bc hr dI fun y1 bQ hr=>HT.g hX [oH,(cl bQ)] (aQ bQ) (bc hr dI fun y3 qj hr=>HT.g hX [oH,(cl qj)] (aQ qj) (bc hr L9 fun y5 iL hr=>HT.g hX [oH,oH,oH,(cl iL)] (aQ iL) (by (cases hr;exact (HT.ret (bN (aQ (show List.length ([y5.2])=List.length [a0] from rfl)))))))))
noncomputable def il (a1:Int)(a2:Int)(s3:Int×(List Int×Int×Int)×(List (Int×Int×Int×Int))):Option ((Int×(List Int×Int×Int)×(List (Int×Int×Int×Int)))⊕(((List Int×Int×Int)×(List (Int×Int×Int×Int))))):=
 bif (decide (s3.1>(0:Int))) then
  (ak s3.2.1 a1).bind fun Jm=>
  (ak Jm.2 a2).bind fun FR=>
  (show Option ((List Int×Int×Int)×Int×Int) from
   (bz FR.2 (2:Int)).bind fun HE=>
   bif HE.1 then
    (ak HE.2 a1).bind fun WE=>
    (ak WE.2 a1).bind fun GY=>
    some (GY.2,WE.1,GY.1)
   else
    some (HE.2,FR.1,(-1:Int))).bind fun v20=>
  (ak v20.1 (6:Int)).bind fun UC=>
  ai (List.length s3.2.2+List.length ([(Jm.1,v20.2.1,v20.2.2,UC.1)]:List (Int×Int×Int×Int))≤av) (
   some (.inl ((a7 .i64 s3.1 (1:Int)),UC.2,(s3.2.2++([(Jm.1,v20.2.1,v20.2.2,UC.1)]:List (Int×Int×Int×Int))))))
 else
  some (.inr (s3.2.1,s3.2.2))
noncomputable def ka (a0:List Int×Int×Int)(a1:Int)(a2:Int):Option ((Int×Int×List (Int×Int×Int×Int))×(List Int×Int×Int)):=
 (ak a0 (aj .i64 (ij .i64 (3:Int) a1) (2:Int))).bind fun y1=>
 (rounds (il a1 a2) ((aj .i64 (1:Int) y1.1),y1.2,([]:List (Int×Int×Int×Int)))).bind fun r5=>
 (ak r5.1 a2).bind fun y6=>
 ai (List.length r5.2+List.length ([((a7 .i64 a1 (1:Int)),y6.1,(-1:Int),(1:Int))]:List (Int×Int×Int×Int))≤av) (
  (some (r5.2++([((a7 .i64 a1 (1:Int)),y6.1,(-1:Int),(1:Int))]:List (Int×Int×Int×Int)))).bind fun q9=>
  some ((a1,a2,q9),y6.2))
theorem Ma {a0:List Int×Int×Int}{a1:Int}{a2:Int}{r:(Int×Int×List (Int×Int×Int×Int))×(List Int×Int×Int)}(hr:ka a0 a1 a2=some r):CallOK Tryz.prog 125 [.own (.bx (.st (.pair (.sl (.int .u8)) (.pair tI (.int .u64))))) [a0],.bl tI a1,.bl tI a2] [⟨true,(.st (.pair tI (.pair tI (.sl (.st (.pair tI (.pair tI (.pair tI tI)))))))),r.1⟩] [⟨(.bx (.st (.pair (.sl (.int .u8)) (.pair tI (.int .u64))))),[r.2]⟩]:=
 fe Tryz.func125 rfl fun cx hX hF=>HT.g hX [] aa (HT.g hX [] aa (HT.seq (bc hr dI fun y1 bQ hr=>HT.g hX (nO 4 [(cl bQ)]) (aQ bQ) (HT.block (HT.lp hX hr (fun s3=>up [0,1,2,6,7] [(8,iV s3.1)] [1] [(0,.seq (.st (.pair (.sl (.int .u8)) (.pair tI (.int .u64)))) ([s3.2.1])),(2,.box [iC a1,iC a2,.all 6]),(6,.seq (.st (.pair tI (.pair tI (.pair tI tI)))) s3.2.2)] 4) (fun r5=>(.exit 0,up [0,1,2,6,7] [] [1] [(0,.seq (.st (.pair (.sl (.int .u8)) (.pair tI (.int .u64)))) ([r5.1])),(2,.box [iC a1,iC a2,.all 6]),(6,.seq (.st (.pair tI (.pair tI (.pair tI tI)))) r5.2)] 4)) (fun r5 hr=>(aI (af (bc hr dI fun y6 Co hr=>HT.g hX [oH,oH,(cl Co)] (aQ Co) (bg hr fun Ck hr=>HT.g hX (nO 6 [(hT (.st (.pair tI (.pair tI (.pair tI tI))))),(hT (.st (.pair tI (.pair tI (.pair tI tI)))))]) (aQ Ck) (bq hr fun hr=>HT.g hX [] aa (by (cases hr;exact (HT.ret (bN (aQ (show List.length ([y6.2])=List.length [a0] from rfl)))))))))))) fun s3 Yc jF Jn=>HT.seq (HT.g hX [] aa (HT.cb jF (fun mq jF=>HT.skip (af (HT.seq (HT.block (bc jF dI fun Jm yw jF=>HT.g hX [oH,oH,(cl yw)] (aQ yw) (bc jF dI fun FR xd jF=>HT.g hX [oH,oH,(cl xd)] (aQ xd) (HT.jn jF (fun v20=>up [0,1,2,6,7,8,9] [] [1,2,6] [(0,.seq (.st (.pair (.sl (.int .u8)) (.pair tI (.int .u64)))) ([v20.1])),(7,.box [iC Jm.1,iC v20.2.1,iC v20.2.2,iC (0:Int)])] 0) (fun v20 jF=>bc jF dI fun UC S1 jF=>HT.g hX [oH,(cl S1)] (aQ S1) (bg jF fun Aw jF=>HT.l hX [oH,oH,oH,(hT (.st (.pair tI (.pair tI (.pair tI tI))))),(hT (.st (.pair tI (.pair tI (.pair tI tI)))))] (aQ Aw) (aE (af (HT.k hX [] aa fun _ h=>(aU (lN jF h))))))) fun _ gi yx=>bc gi tC fun HE Cp gi=>HT.g hX [oH,(cl Cp)] (aQ Cp) (HT.cb gi (fun Ax gi=>bc gi dI fun WE S3 gi=>HT.g hX [oH,oH,(cl S3)] (aQ S3) (bc gi dI fun GY qg gi=>HT.k hX [oH,oH,(cl qg)] (aQ qg) fun _ h=>(af (h.ht (yx _ (ah gi)))))) fun Ax gi=>HT.skip (af (HT.re hX (yx _ (ah gi)))))))))))) fun mq jF=>HT.xe hX (aT (aW (Jn _ (an jF)))))))))))
noncomputable def ft (a0:List Int×Int×Int):Option ((Int×Int×List (Int×Int×Int×Int))×(List Int×Int×Int)):=
 (ak a0 (4:Int)).bind fun y1=>
 (ak y1.2 (3:Int)).bind fun y3=>
 (ka y3.2 (aj .i64 (1:Int) y1.1) (aj .i64 (1:Int) y3.1)).bind fun y5=>
 some ((y5.1.1,y5.1.2.1,y5.1.2.2),y5.2)
theorem Pj {a0:List Int×Int×Int}{r:(Int×Int×List (Int×Int×Int×Int))×(List Int×Int×Int)}(hr:ft a0=some r):CallOK Tryz.prog 87 [.own (.bx (.st (.pair (.sl (.int .u8)) (.pair tI (.int .u64))))) [a0]] [⟨true,(.st (.pair tI (.pair tI (.sl (.st (.pair tI (.pair tI (.pair tI tI)))))))),r.1⟩] [⟨(.bx (.st (.pair (.sl (.int .u8)) (.pair tI (.int .u64))))),[r.2]⟩]:=
 fe Tryz.func87 rfl fun cx hX hF=>HT.g hX [] aa (bc hr dI fun y1 bQ hr=>HT.g hX [oH,(cl bQ)] (aQ bQ) (bc hr dI fun y3 qj hr=>HT.g hX [oH,(cl qj)] (aQ qj) (bc hr Ma fun y5 iL hr=>HT.g hX [oH,oH,oH,(cl iL)] (aQ iL) (by (cases hr;exact (HT.ret (bN (aQ (show List.length ([y5.2])=List.length [a0] from rfl)))))))))
noncomputable def jc (s3:Int×(List Int×Int×Int)×List Int):Option ((Int×(List Int×Int×Int)×List Int)⊕(((List Int×Int×Int)×List Int))):=
 bif (decide (s3.1>(0:Int))) then
  (ak s3.2.1 (2:Int)).bind fun iW=>
  ai (List.length s3.2.2+List.length ([iW.1]:List Int)≤av) (
   some (.inl ((a7 .i64 s3.1 (1:Int)),iW.2,(s3.2.2++([iW.1]:List Int)))))
 else
  some (.inr (s3.2.1,s3.2.2))
noncomputable def iN (a0:List Int×Int×Int):Option (List Int×(List Int×Int×Int)):=
 (ak a0 (6:Int)).bind fun y1=>
 (rounds (jc) (y1.1,y1.2,([]:List Int))).bind fun r5=>
 some (r5.2,r5.1)
theorem Pk {a0:List Int×Int×Int}{r:List Int×(List Int×Int×Int)}(hr:iN a0=some r):CallOK Tryz.prog 88 [.own (.bx (.st (.pair (.sl (.int .u8)) (.pair tI (.int .u64))))) [a0]] [⟨true,aN,r.1⟩] [⟨(.bx (.st (.pair (.sl (.int .u8)) (.pair tI (.int .u64))))),[r.2]⟩]:=
 fe Tryz.func88 rfl fun cx hX hF=>HT.g hX [] aa (HT.g hX [] aa (HT.seq (bc hr dI fun y1 bQ hr=>HT.g hX [oH,(cl bQ)] (aQ bQ) (HT.block (HT.lp hX hr (fun s3=>up [0] [(3,aV 3),(4,iV s3.1)] [] [(0,.seq (.st (.pair (.sl (.int .u8)) (.pair tI (.int .u64)))) ([s3.2.1])),(3,.seq tI s3.2.2)] 3) (fun r5=>(.exit 0,up [] [(3,aV 3)] [] [(0,.seq (.st (.pair (.sl (.int .u8)) (.pair tI (.int .u64)))) ([r5.1])),(3,.seq tI r5.2)] 3)) (fun r5 hr=>(aI (af (HT.g hX [] aa (by (cases hr;exact (HT.ret (bN (aQ (show List.length ([r5.1])=List.length [a0] from rfl)))))))))) fun s3 x6 fm Cq=>HT.seq (HT.g hX [] aa (HT.cb fm (fun vG fm=>HT.skip (af (HT.seq (HT.block (bc fm dI fun iW kA fm=>bg fm fun xf fm=>HT.l hX [oH,oH,(cl kA),(hT tI),(hT tI)] (dT kA xf) (aE (af (HT.k hX [] aa fun _ h=>(aU (lN fm h)))))))))) fun vG fm=>HT.xe hX (aT (aW (Cq _ (an fm)))))))))))
noncomputable def mT (a0:List Int×Int×Int):Option (((Int×Int×List (Int×Int×Int×Int)×List Int×List Int)×(Int×Int×List Int×List Bool)×(Int×Int×List (Int×Int×Int×Int))×List Int)×(List Int×Int×Int)):=
 (fq a0).bind fun y1=>
 (jb y1.2).bind fun y3=>
 (ft y3.2).bind fun y5=>
 (iN y5.2).bind fun y7=>
 some (((y1.1.1,y1.1.2.1,y1.1.2.2.1,y1.1.2.2.2.1,y1.1.2.2.2.2),(y3.1.1,y3.1.2.1,y3.1.2.2.1,y3.1.2.2.2),(y5.1.1,y5.1.2.1,y5.1.2.2),y7.1),y7.2)
theorem Pm {a0:List Int×Int×Int}{r:((Int×Int×List (Int×Int×Int×Int)×List Int×List Int)×(Int×Int×List Int×List Bool)×(Int×Int×List (Int×Int×Int×Int))×List Int)×(List Int×Int×Int)}(hr:mT a0=some r):CallOK Tryz.prog 37 [.own (.bx (.st (.pair (.sl (.int .u8)) (.pair tI (.int .u64))))) [a0]] [⟨true,(.st (.pair (.st (.pair tI (.pair tI (.pair (.sl (.st (.pair tI (.pair tI (.pair tI tI))))) (.pair aN aN))))) (.pair (.st (.pair tI (.pair tI (.pair aN (.sl .bool))))) (.pair (.st (.pair tI (.pair tI (.sl (.st (.pair tI (.pair tI (.pair tI tI)))))))) aN)))),r.1⟩] [⟨(.bx (.st (.pair (.sl (.int .u8)) (.pair tI (.int .u64))))),[r.2]⟩]:=
 fe Tryz.func37 rfl fun cx hX hF=>HT.g hX [] aa (bc hr Pg fun y1 bQ hr=>HT.g hX [oH,(cl bQ)] (aQ bQ) (bc hr Ph fun y3 qj hr=>HT.g hX [oH,(cl qj)] (aQ qj) (bc hr Pj fun y5 iL hr=>HT.g hX [oH,(cl iL)] (aQ iL) (bc hr Pk fun y7 tD hr=>HT.g hX [oH,(cl tD)] (aQ tD) (HT.g hX [] aa (by (cases hr;exact (HT.ret (bN (aQ (show List.length ([y7.2])=List.length [a0] from rfl)))))))))))
noncomputable def nG (a0:List Int):Option (((Int×Int×List (Int×Int×Int×Int)×List Int×List Int)×(Int×Int×List Int×List Bool)×(Int×Int×List (Int×Int×Int×Int))×List Int)):=
 (pn a0).bind fun y1=>
 (mT y1).bind fun y3=>
 some ((y3.1.1.1,y3.1.1.2.1,y3.1.1.2.2.1,y3.1.1.2.2.2.1,y3.1.1.2.2.2.2),(y3.1.2.1.1,y3.1.2.1.2.1,y3.1.2.1.2.2.1,y3.1.2.1.2.2.2),(y3.1.2.2.1.1,y3.1.2.2.1.2.1,y3.1.2.2.1.2.2),y3.1.2.2.2)
theorem S4 {a0:List Int}{r:((Int×Int×List (Int×Int×Int×Int)×List Int×List Int)×(Int×Int×List Int×List Bool)×(Int×Int×List (Int×Int×Int×Int))×List Int)}(hr:nG a0=some r):CallOK Tryz.prog 7 [.bl (.sl (.int .u8)) a0] [⟨true,(.st (.pair (.st (.pair tI (.pair tI (.pair (.sl (.st (.pair tI (.pair tI (.pair tI tI))))) (.pair aN aN))))) (.pair (.st (.pair tI (.pair tI (.pair aN (.sl .bool))))) (.pair (.st (.pair tI (.pair tI (.sl (.st (.pair tI (.pair tI (.pair tI tI)))))))) aN)))),r⟩] []:=
 fe Tryz.func7 rfl fun cx hX hF=>HT.g hX [] aa (bc hr O8 fun y1 bQ hr=>HT.g hX [oH,(cl bQ)] (aQ bQ) (bc hr Pm fun y3 qj hr=>HT.g hX [oH,(cl qj)] (aQ qj) (by (cases hr;exact (HT.ret (bN aa))))))
noncomputable def bj (a0:Int)(a1:Int)(a2:Int):Option (Bool):=
 (show Option (Bool) from
  bif (decide (a0≥a1)) then
   some (decide (a0≤a2))
  else
   some false).bind fun v2=>
 some v2
theorem gE {a0:Int}{a1:Int}{a2:Int}{r:Bool}(hr:bj a0 a1 a2=some r):CallOK Tryz.prog 53 [.bl tI a0,.bl tI a1,.bl tI a2] [⟨false,.bool,r⟩] []:=
 fe Tryz.func53 rfl fun cx hX hF=>HT.g hX [] aa (HT.jn hr (fun v2=>up [] [(6,bV v2)] [] [] 0) (fun v2 hr=>by (cases hr;exact (HT.ret (bN aa)))) fun _ ay ez=>bb ay (fun nj ay=>HT.k hX [oH,oH,oH,kT] (aQ nj) fun _ h=>(af (h.ht (ez _ (ah ay))))) fun nj ay=>HT.k hX [oH,oH,oH,kF] (aQ nj) fun _ h=>(af (h.ht (ez _ (ah ay)))))
noncomputable def gO (a0:List Int)(a1:Int)(a2:Int)(s1:Int):Option ((Int)⊕(Unit⊕Unit)):=
 bif (decide (s1<(ae a0))) then
  ai ((0:Int)≤s1∧s1<ae a0) (
   (bj (List.getD a0 (Int.toNat s1) (0:Int)) a1 a2).bind fun iW=>
   bif (!iW) then
    some (.inr (.inr ()))
   else
    some (.inl (aj .i64 s1 (1:Int))))
 else
  some (.inr (.inl ()))
noncomputable def dY (a0:List Int)(a1:Int)(a2:Int):Option (Bool):=
 (rounds (gO a0 a1 a2) (0:Int)).bind fun r2=>match r2 with
  | .inl r3=>
   some true
  | .inr r4=>
   some false
theorem Ay {a0:List Int}{a1:Int}{a2:Int}{r:Bool}(hr:dY a0 a1 a2=some r):CallOK Tryz.prog 89 [.bl aN a0,.bl tI a1,.bl tI a2] [⟨false,.bool,r⟩] []:=
 fe Tryz.func89 rfl fun cx hX hF=>HT.g hX [] aa (HT.seq (HT.g hX [] aa (HT.block (HT.lp hX hr (fun s1=>up [1,2,9,10] [(11,iV s1)] [] [] 0) (fun r2=>match r2 with| .inl r3=>(.exit 0,up [] [] [] [] 0)| .inr r4=>(.ret,up [] [(6,bV false)] [] [] 0)) (fun r2=>match r2 with| .inl r3=>fun hr=>(aI (af (HT.g hX [] aa (by (cases hr;exact (HT.ret (bN aa)))))))| .inr r4=>fun hr=>by (cases hr;exact (br (aD (bN aa))))) fun s1 x5 fp Cr=>HT.g hX [] aa (HT.cj fp (fun nR fp=>HT.seq (HT.block (bg fp fun tB fp=>HT.g hX [] (aQ tB) (bc fp gE fun iW kA fp=>HT.g hX [oH,oH,oH,(cl kA)] (aQ kA) (HT.cb fp (fun iZ fp=>HT.g hX [] aa (HT.xr hX (br (aD (jE (Cr _ (an fp))))))) fun iZ fp=>HT.skip (aE (af (HT.k hX [] aa fun _ h=>(aU (lN fp h)))))))))) fun nR fp=>HT.xe hX (aT (aW (Cr _ (an fp)))))))))
noncomputable def eT (a0:Int×Int×List (Int×Int×Int×Int)×List Int×List Int)(s6:Int):Option ((Int)⊕(Unit⊕Unit)):=
 bif (decide (s6<(ae a0.2.2.1))) then
  ai ((0:Int)≤s6∧s6<ae a0.2.2.1) (
   (show Option (Bool) from
    (bj ((List.getD a0.2.2.1 (Int.toNat s6) ((0:Int),(0:Int),(0:Int),(0:Int))).1) (0:Int) (a7 .i64 a0.1 (1:Int))).bind fun GY=>
    bif (!GY) then
     some true
    else
     (bj (((List.getD a0.2.2.1 (Int.toNat s6) ((0:Int),(0:Int),(0:Int),(0:Int))).2).1) (0:Int) (a7 .i64 a0.1 (1:Int))).bind fun yy=>
     bif (!yy) then
      some true
     else
      (bj ((((List.getD a0.2.2.1 (Int.toNat s6) ((0:Int),(0:Int),(0:Int),(0:Int))).2).2).1) (-1:Int) (a7 .i64 a0.2.1 (1:Int))).bind fun Rf=>
      bif (!Rf) then
       some true
      else
       (bj ((((List.getD a0.2.2.1 (Int.toNat s6) ((0:Int),(0:Int),(0:Int),(0:Int))).2).2).2) (0:Int) (1000:Int)).bind fun Rg=>
       some (!Rg)).bind fun Jo=>
   bif Jo then
    some (.inr (.inr ()))
   else
    some (.inl (aj .i64 s6 (1:Int))))
 else
  some (.inr (.inl ()))
noncomputable def bW (a0:Int×Int×List (Int×Int×Int×Int)×List Int×List Int):Option (Bool):=
 (show Option (Bool) from
  (bj a0.1 (1:Int) (16:Int)).bind fun Yd=>
  bif (!Yd) then
   some true
  else
   (bj a0.2.1 (1:Int) (4:Int)).bind fun K7=>
   bif (!K7) then
    some true
   else
    some (decide ((ae a0.2.2.1)>(128:Int)))).bind fun v2=>
 bif v2 then
  some false
 else
  (rounds (eT a0) (0:Int)).bind fun r7=>match r7 with
   | .inl r8=>
    (show Option (Bool) from
     bif ((ae a0.2.2.2.1)==a0.1) then
      bif ((ae a0.2.2.2.2)==a0.1) then
       (dY a0.2.2.2.1 (-1:Int) (1000:Int)).bind fun Jm=>
       bif Jm then
        (dY a0.2.2.2.2 (-1:Int) (1000:Int)).bind fun Jk=>
        some Jk
       else
        some false
      else
       some false
     else
      some false).bind fun v10=>
    some v10
   | .inr Ye=>
    some false
theorem xg {a0:Int×Int×List (Int×Int×Int×Int)×List Int×List Int}{r:Bool}(hr:bW a0=some r):CallOK Tryz.prog 38 [.bl (.st (.pair tI (.pair tI (.pair (.sl (.st (.pair tI (.pair tI (.pair tI tI))))) (.pair aN aN))))) a0] [⟨false,.bool,r⟩] []:=
 fe Tryz.func38 rfl fun cx hX hF=>HT.g hX [] aa (HT.seq (HT.jn hr (fun v2=>up [1] [(20,bV v2)] [0] [] 0) (fun v2 hr=>HT.cb hr (fun nj hr=>HT.g hX [] aa (by (cases hr;exact (HT.ret (aD (bN aa)))))) fun nj hr=>HT.skip (af (HT.seq (HT.g hX [] aa (HT.block (HT.lp hX hr (fun s6=>up [1,22,23] [(24,iV s6)] [0] [] 0) (fun r7=>match r7 with| .inl r8=>(.exit 0,up [1] [] [0] [] 0)| .inr Ye=>(.ret,up [] [(2,bV false)] [] [] 0)) (fun r7=>match r7 with| .inl r8=>fun hr=>(aI (af (HT.jn hr (fun v10=>up [] [(2,bV v10)] [] [] 0) (fun v10 hr=>by (cases hr;exact (HT.ret (bN aa)))) fun _ ql UD=>bb ql (fun mU ql=>bb ql (fun mq ql=>bc ql Ay fun Jm yw ql=>bb ql (fun uq ql=>bc ql Ay fun Jk Cn ql=>HT.k hX (nO 6 [kT,oH,oH,oH,oH,oH,oH,oH,kT,oH,oH,(cl yw),oH,kT,oH,oH,(cl Cn)]) (lx mU mq yw uq (aQ Cn)) fun _ h=>(af (h.ht (UD _ (ah ql))))) fun uq ql=>HT.k hX (nO 6 [kT,oH,oH,oH,oH,oH,oH,oH,kT,oH,oH,(cl yw),oH,kF]) (oJ mU mq yw uq) fun _ h=>(af (h.ht (UD _ (ah ql))))) fun mq ql=>HT.k hX (nO 6 [kT,oH,oH,oH,oH,oH,oH,oH,kF]) (dT mU mq) fun _ h=>(af (h.ht (UD _ (ah ql))))) fun mU ql=>HT.k hX (nO 6 [kF]) (aQ mU) fun _ h=>(af (h.ht (UD _ (ah ql)))))))| .inr Ye=>fun hr=>by (cases hr;exact (br (aD (bN aa))))) fun s6 x21 ur S5=>HT.g hX [] aa (HT.cj ur (fun Jp ur=>HT.seq (HT.block (bg ur fun Aw ur=>HT.g hX [] (aQ Aw) (HT.jn ur (fun Jo=>up [1,22,23,24] [(58,bV Jo)] [0] [] 0) (fun Jo ur=>HT.cb ur (fun nS ur=>HT.g hX [] aa (HT.xr hX (br (aD (jE (S5 _ (an ur))))))) fun nS ur=>HT.skip (aE (af (HT.k hX [] aa fun _ h=>(aU (lN ur h)))))) fun _ gF Ej=>bc gF gE fun GY qg gF=>bb gF (fun Ek gF=>HT.k hX (nO 5 [(cl qg),oH,kT]) (dT qg Ek) fun _ h=>(af (h.ht (Ej _ (ah gF))))) fun Ek gF=>bc gF gE fun yy vo gF=>bb gF (fun Cs gF=>HT.k hX (nO 5 [(cl qg),oH,kF,oH,oH,oH,oH,oH,(cl vo),oH,oH,kT]) (oJ qg Ek vo Cs) fun _ h=>(af (h.ht (Ej _ (ah gF))))) fun Cs gF=>bc gF gE fun Rf El gF=>bb gF (fun Em gF=>HT.k hX (nO 5 [(cl qg),oH,kF,oH,oH,oH,oH,oH,(cl vo),oH,oH,kF,oH,oH,oH,oH,oH,(cl El),oH,oH,kT]) (lx qg Ek vo Cs (dT El Em)) fun _ h=>(af (h.ht (Ej _ (ah gF))))) fun Em gF=>bc gF gE fun Rg Jq gF=>HT.k hX (nO 5 [(cl qg),oH,kF,oH,oH,oH,oH,oH,(cl vo),oH,oH,kF,oH,oH,oH,oH,oH,(cl El),oH,oH,kF,oH,oH,(cl Jq)]) (lx qg Ek vo Cs (oI El Em Jq)) fun _ h=>(af (h.ht (Ej _ (ah gF)))))))) fun Jp ur=>HT.xe hX (aT (aW (S5 _ (an ur))))))))))) fun _ ay ez=>bc ay gE fun Yd GZ ay=>bb ay (fun G0 ay=>HT.k hX [oH,oH,(cl GZ),oH,kT] (dT GZ G0) fun _ h=>(af (h.ht (ez _ (ah ay))))) fun G0 ay=>bc ay gE fun K7 yz ay=>bb ay (fun Jr ay=>HT.k hX [oH,oH,(cl GZ),oH,kF,oH,oH,(cl yz),oH,oH,kT] (oJ GZ G0 yz Jr) fun _ h=>(af (h.ht (ez _ (ah ay))))) fun Jr ay=>HT.k hX [oH,oH,(cl GZ),oH,kF,oH,oH,(cl yz),oH,oH,kF] (oJ GZ G0 yz Jr) fun _ h=>(af (h.ht (ez _ (ah ay))))))
noncomputable def strings_Join (a0:List (List UInt8))(a1:List UInt8):Option (List UInt8):=
 ai (a0.length≤140737488355328∧(Lib.join a0 a1).length≤140737488355328)<|some (Lib.join a0 a1)
theorem Js {a0:List (List UInt8)}{a1:List UInt8}{r:List UInt8}(h:strings_Join a0 a1=some r):CallOK Tryz.prog 90 [.bl (.sl .str) a0,.bl .str a1] [⟨false,.str,r⟩] []:=by
 obtain ⟨hg,h⟩:=ig h;have h:=ah h;subst h;have e:(a0.map fun x=>ByteArray.mk x.toArray).map (·.data.toList)=a0:=by
  rw [List.map_map]
  conv=>rhs;rw [←List.map_id a0]
  rfl
 refine LR ⟨_,Tryz.func90,by kernel_rfl,by kernel_rfl⟩ (fun e a c w=>by subst e;exact Tryz.strings_Join_none a c _ w) (fun bk o c w iY I8 hcap=> ?_);have:=Tryz.strings_Join bk o c (a0.map fun x=>ByteArray.mk x.toArray) ⟨a1.toArray⟩ w iY I8 (by rw [List.length_map];exact hg.1) (by rw [List.length_map];exact hcap) (by rw [e];exact hg.2);rw [List.length_map,e] at this;exact this
noncomputable def po (a0:Int):Option (Bool):=
 (bj a0 (-1000000000000000:Int) (1000000000000000:Int)).bind fun y1=>
 some y1
theorem Pn {a0:Int}{r:Bool}(hr:po a0=some r):CallOK Tryz.prog 91 [.bl tI a0] [⟨false,.bool,r⟩] []:=
 fe Tryz.func91 rfl fun cx hX hF=>HT.g hX [] aa (bc hr gE fun y1 bQ hr=>HT.g hX [oH,(cl bQ)] (aQ bQ) (by (cases hr;exact (HT.ret (bN aa)))))
noncomputable def gP (a0:List Int)(s1:Int):Option ((Int)⊕(Unit⊕Unit)):=
 bif (decide (s1<(ae a0))) then
  ai ((0:Int)≤s1∧s1<ae a0) (
   (po (List.getD a0 (Int.toNat s1) (0:Int))).bind fun iW=>
   bif (!iW) then
    some (.inr (.inr ()))
   else
    some (.inl (aj .i64 s1 (1:Int))))
 else
  some (.inr (.inl ()))
noncomputable def kb (a0:List Int):Option (Bool):=
 (rounds (gP a0) (0:Int)).bind fun r2=>match r2 with
  | .inl r3=>
   some (decide ((ae a0)≤(64:Int)))
  | .inr r4=>
   some false
theorem Po {a0:List Int}{r:Bool}(hr:kb a0=some r):CallOK Tryz.prog 42 [.bl aN a0] [⟨false,.bool,r⟩] []:=
 fe Tryz.func42 rfl fun cx hX hF=>HT.g hX [] aa (HT.seq (HT.g hX [] aa (HT.block (HT.lp hX hr (fun s1=>up [0,5,6] [(7,iV s1)] [] [] 0) (fun r2=>match r2 with| .inl r3=>(.exit 0,up [0] [] [] [] 0)| .inr r4=>(.ret,up [] [(2,bV false)] [] [] 0)) (fun r2=>match r2 with| .inl r3=>fun hr=>(aI (af (HT.g hX [] aa (by (cases hr;exact (HT.ret (bN aa)))))))| .inr r4=>fun hr=>by (cases hr;exact (br (aD (bN aa))))) fun s1 x5 fp Cr=>HT.g hX [] aa (HT.cj fp (fun nR fp=>HT.seq (HT.block (bg fp fun tB fp=>HT.g hX [] (aQ tB) (bc fp Pn fun iW kA fp=>HT.g hX [oH,(cl kA)] (aQ kA) (HT.cb fp (fun iZ fp=>HT.g hX [] aa (HT.xr hX (br (aD (jE (Cr _ (an fp))))))) fun iZ fp=>HT.skip (aE (af (HT.k hX [] aa fun _ h=>(aU (lN fp h)))))))))) fun nR fp=>HT.xe hX (aT (aW (Cr _ (an fp)))))))))
noncomputable def qm (a0:List (List UInt8)):Option (List UInt8):=
 bif ((ae a0)==(0:Int)) then
  some ([110,111,110,101]:List UInt8)
 else
  (strings_Join a0 ([44]:List UInt8)).bind fun y2=>
  some y2
theorem Pp {a0:List (List UInt8)}{r:List UInt8}(hr:qm a0=some r):CallOK Tryz.prog 92 [.bl (.sl .str) a0] [⟨false,.str,r⟩] []:=
 fe Tryz.func92 rfl fun cx hX hF=>HT.g hX [] aa (HT.seq (HT.g hX [] aa (HT.cb hr (fun tR hr=>HT.g hX [] aa (by (cases hr;exact (HT.ret (aD (bN aa)))))) fun tR hr=>HT.skip (af (bc hr Js fun y2 FQ hr=>HT.g hX [oH,(cl FQ)] (aQ FQ) (by (cases hr;exact (HT.ret (bN aa)))))))))
theorem Jt {w:World}{t:TypeId}{fr:Nat×Nat}(h:w.heap[1]? =some (.cells pow10Cells t fr)):Lib.TabIs Tryz.prog w "internal/strconv.uint64pow10" .u64 Lib.pow10Tab:=by
 unfold Lib.TabIs World.var?;rw [show Tryz.prog.globalNamed "internal/strconv.uint64pow10"=some 1 by kernel_rfl,Option.bind_some,h];unfold pow10Cells Lib.pow10Tab;rw [List.map_map];rfl
noncomputable def kd (a0:Int)(a1:Int):Option (List UInt8):=
 ai (a1=10∧ -9223372036854775808≤a0∧a0≤9223372036854775807)<|some (Lib.itoa a0)
theorem Pq {a0:Int}{a1:Int}{r:List UInt8}(h:kd a0 a1=some r):CallOK Tryz.prog 44 [.bl tI a0,.bl tI a1] [⟨false,.str,r⟩] []:=by
 obtain ⟨hg,h⟩:=ig h;have h:=ah h;subst h;obtain ⟨rfl,hg⟩:=hg;have hg:True∧_:=⟨trivial,hg⟩;exact uo (ps:=[⟨tI,a0⟩,⟨tI,10⟩]) (rs:=[⟨.str,Lib.itoa a0⟩]) ⟨_,Tryz.func44,by kernel_rfl,by kernel_rfl⟩ (by simp [Ty.simple]) (by simp [Ty.simple]) fun w S hgl=>by
  obtain ⟨_,t,fr,ht⟩:=Glob.pow hgl;exact (Tryz.strconv_FormatInt_10 _ hg.2.1 hg.2.2 w (Jt ht)).mono fun e w' ⟨he,k,os,hw⟩=>⟨⟨_,he,rfl⟩,hw▸Lib.below_grow _ _ (Nat.le_refl _) k os⟩
noncomputable def di (a0:Int):Option (List UInt8):=
 (kd a0 (10:Int)).bind fun y1=>
 some y1
theorem sh {a0:Int}{r:List UInt8}(hr:di a0=some r):CallOK Tryz.prog 13 [.bl tI a0] [⟨false,.str,r⟩] []:=
 fe Tryz.func13 rfl fun cx hX hF=>HT.g hX [] aa (bc hr Pq fun y1 bQ hr=>HT.g hX [oH,(cl bQ)] (aQ bQ) (by (cases hr;exact (HT.ret (bN aa)))))
noncomputable def iO (a0:List Int)(s1:Int×List (List UInt8)):Option ((Int×List (List UInt8))⊕(List (List UInt8))):=
 bif (decide (s1.1<(ae a0))) then
  ai ((0:Int)≤s1.1∧s1.1<ae a0) (
   (di (List.getD a0 (Int.toNat s1.1) (0:Int))).bind fun fQ=>
   ai (List.length s1.2+List.length ([fQ]:List (List UInt8))≤av) (
    some (.inl ((aj .i64 s1.1 (1:Int)),(s1.2++([fQ]:List (List UInt8)))))))
 else
  some (.inr s1.2)
noncomputable def ly (a0:List Int):Option (List UInt8):=
 (rounds (iO a0) ((0:Int),([]:List (List UInt8)))).bind fun r3=>
 (qm r3).bind fun y4=>
 some y4
theorem Pr {a0:List Int}{r:List UInt8}(hr:ly a0=some r):CallOK Tryz.prog 43 [.bl aN a0] [⟨false,.str,r⟩] []:=
 fe Tryz.func43 rfl fun cx hX hF=>HT.g hX [] aa (HT.g hX [] aa (HT.seq (HT.g hX [] aa (HT.block (HT.lp hX hr (fun s1=>up [7,8] [(3,aV 2),(9,iV s1.1)] [] [(2,.seq .str s1.2)] 3) (fun r3=>(.exit 0,up [] [(3,aV 2)] [] [(2,.seq .str r3)] 3)) (fun r3 hr=>(aI (af (bc hr Pp fun y4 uZ hr=>HT.g hX [oH,(cl uZ)] (aQ uZ) (by (cases hr;exact (HT.ret (bN aa)))))))) fun s1 x6 fm Cq=>HT.g hX [] aa (HT.cj fm (fun vG fm=>HT.seq (HT.block (bg fm fun pr fm=>HT.g hX [] (aQ pr) (bc fm sh fun fQ iM fm=>bg fm fun sf fm=>HT.l hX [oH,oH,(cl iM),(hT .str),(hT .str)] (dT iM sf) (aE (af (HT.k hX [] aa fun _ h=>(aU (lN fm h))))))))) fun vG fm=>HT.xe hX (aT (aW (Cq _ (an fm))))))))))
noncomputable def cw (a0:List Int):Option (List UInt8×Bool):=
 (kb a0).bind fun y1=>
 bif (!y1) then
  some (([]:List UInt8),false)
 else
  (ly a0).bind fun y4=>
  some (y4,true)
theorem xh {a0:List Int}{r:List UInt8×Bool}(hr:cw a0=some r):CallOK Tryz.prog 11 [.bl aN a0] [⟨false,.str,r.1⟩,⟨false,.bool,r.2⟩] []:=
 fe Tryz.func11 rfl fun cx hX hF=>HT.g hX [] aa (HT.seq (bc hr Po fun y1 bQ hr=>HT.g hX [oH,(cl bQ)] (aQ bQ) (HT.cb hr (fun pZ hr=>HT.g hX [] aa (by (cases hr;exact (HT.ret (aD (bN aa)))))) fun pZ hr=>HT.skip (af (bc hr Pr fun y4 uZ hr=>HT.g hX [oH,(cl uZ)] (aQ uZ) (by (cases hr;exact (HT.ret (bN aa)))))))))
noncomputable def dA (a0:List (List Int))(s1:Int×List (List UInt8)):Option ((Int×List (List UInt8))⊕(List (List UInt8)⊕Unit)):=
 bif (decide (s1.1<(ae a0))) then
  ai ((0:Int)≤s1.1∧s1.1<ae a0) (
   (cw (List.getD a0 (Int.toNat s1.1) ([]:List Int))).bind fun mD=>
   bif (!mD.2) then
    some (.inr (.inr ()))
   else
    ai (List.length s1.2+List.length ([mD.1]:List (List UInt8))≤av) (
     some (.inl ((aj .i64 s1.1 (1:Int)),(s1.2++([mD.1]:List (List UInt8)))))))
 else
  some (.inr (.inl s1.2))
noncomputable def fC (a0:List (List Int)):Option (List UInt8×Bool):=
 (rounds (dA a0) ((0:Int),([]:List (List UInt8)))).bind fun r2=>match r2 with
  | .inl r3=>
   (strings_Join r3 ([59]:List UInt8)).bind fun y4=>
   some (y4,true)
  | .inr r6=>
   some (([]:List UInt8),false)
theorem En {a0:List (List Int)}{r:List UInt8×Bool}(hr:fC a0=some r):CallOK Tryz.prog 39 [.bl (.sl aN) a0] [⟨false,.str,r.1⟩,⟨false,.bool,r.2⟩] []:=
 fe Tryz.func39 rfl fun cx hX hF=>HT.g hX [] aa (HT.g hX [] aa (HT.seq (HT.g hX [] aa (HT.block (HT.lp hX hr (fun s1=>up [10,11] [(4,aV 2),(12,iV s1.1)] [] [(2,.seq .str s1.2)] 3) (fun r2=>match r2 with| .inl r3=>(.exit 0,up [] [(4,aV 2)] [] [(2,.seq .str r3)] 3)| .inr r6=>(.ret,up [] [(2,.one (.aB .str ([]:List UInt8))),(3,bV false)] [] [] 0)) (fun r2=>match r2 with| .inl r3=>fun hr=>(aI (af (bc hr Js fun y4 uZ hr=>HT.g hX [oH,(cl uZ)] (aQ uZ) (by (cases hr;exact (HT.ret (bN aa)))))))| .inr r6=>fun hr=>by (cases hr;exact (br (aD (bN aa))))) fun s1 x7 jr HD=>HT.g hX [] aa (HT.cj jr (fun fU jr=>HT.seq (HT.block (bg jr fun pH jr=>HT.g hX [] (aQ pH) (bc jr xh fun mD rr jr=>HT.g hX [oH,(cl rr)] (aQ rr) (HT.seq (HT.g hX [] aa (HT.cb jr (fun mq jr=>HT.g hX [] aa (HT.xr hX (aD (br (aD (jE (HD _ (an jr)))))))) fun mq jr=>HT.skip (af (bg jr fun pI jr=>HT.l hX [oH,oH,(hT .str),(hT .str)] (aQ pI) (aE (af (HT.k hX [] aa fun _ h=>(aU (lN jr h)))))))))))))) fun fU jr=>HT.xe hX (aT (aW (HD _ (an jr))))))))))
noncomputable def fu (a0:Int×Int×List (Int×Int×Int×Int)×List Int×List Int)(s4:Int×List Int):Option ((Int×List Int)⊕(List Int)):=
 bif (decide (s4.1<(ae a0.2.2.1))) then
  ai ((0:Int)≤s4.1∧s4.1<ae a0.2.2.1) (
   (some ((((List.getD a0.2.2.1 (Int.toNat s4.1) ((0:Int),(0:Int),(0:Int),(0:Int))).2).2).1)).bind fun Yf=>
   (some ((((List.getD a0.2.2.1 (Int.toNat s4.1) ((0:Int),(0:Int),(0:Int),(0:Int))).2).2).2)).bind fun Yg=>
   ai (List.length s4.2+List.length ([(List.getD a0.2.2.1 (Int.toNat s4.1) ((0:Int),(0:Int),(0:Int),(0:Int))).1,((List.getD a0.2.2.1 (Int.toNat s4.1) ((0:Int),(0:Int),(0:Int),(0:Int))).2).1,Yf,Yg]:List Int)≤av) (
    some (.inl ((aj .i64 s4.1 (1:Int)),(s4.2++([(List.getD a0.2.2.1 (Int.toNat s4.1) ((0:Int),(0:Int),(0:Int),(0:Int))).1,((List.getD a0.2.2.1 (Int.toNat s4.1) ((0:Int),(0:Int),(0:Int),(0:Int))).2).1,Yf,Yg]:List Int))))))
 else
  some (.inr s4.2)
noncomputable def fD (a0:Int×Int×List (Int×Int×Int×Int)×List Int×List Int):Option (List UInt8×Bool):=
 (bW (a0.1,a0.2.1,a0.2.2.1,a0.2.2.2.1,a0.2.2.2.2)).bind fun y1=>
 bif (!y1) then
  some (([]:List UInt8),false)
 else
  (rounds (fu a0) ((0:Int),([]:List Int))).bind fun r6=>
  (fC ([([a0.1,a0.2.1]:List Int),a0.2.2.2.1,a0.2.2.2.2,r6]:List (List Int))).bind fun y7=>
  some (y7.1,y7.2)
theorem NG {a0:Int×Int×List (Int×Int×Int×Int)×List Int×List Int}{r:List UInt8×Bool}(hr:fD a0=some r):CallOK Tryz.prog 8 [.bl (.st (.pair tI (.pair tI (.pair (.sl (.st (.pair tI (.pair tI (.pair tI tI))))) (.pair aN aN))))) a0] [⟨false,.str,r.1⟩,⟨false,.bool,r.2⟩] []:=
 fe Tryz.func8 rfl fun cx hX hF=>HT.g hX [] aa (HT.seq (bc hr xg fun y1 bQ hr=>HT.g hX [oH,(cl bQ)] (aQ bQ) (HT.cb hr (fun pZ hr=>HT.g hX [] aa (by (cases hr;exact (HT.ret (aD (bN aa)))))) fun pZ hr=>HT.skip (af (HT.g hX [] aa (HT.seq (HT.g hX [] aa (HT.block (HT.lp hX hr (fun s4=>up [1,12,13] [(4,aV 4),(14,iV s4.1)] [0] [(4,.seq tI s4.2)] 4) (fun r6=>(.exit 0,up [1] [(4,aV 4)] [0] [(4,.seq tI r6)] 4)) (fun r6 hr=>(aI (af (by (refine (Le.rz [(0,0)] [] (st':=⟨[(1,pV 0 0),(4,nV r6)],[(0,.box [iC a0.1,iC a0.2.1,.aB (.sl (.st (.pair tI (.pair tI (.pair tI tI))))) a0.2.2.1,nC a0.2.2.2.1,nC a0.2.2.2.2])],5⟩) hX hF (by kernel_rfl)).ht ?_;exact (bc hr En fun y7 tD hr=>HT.g hX (nO 4 [⟨none,.Rs tI⟩,oH,oH,oH,oH,oH,(hT aN),(cl tD)]) (aQ tD) (by (cases hr;exact (HT.ret (bN aa)))))))))) fun s4 x9 gD Jc=>HT.g hX [] aa (HT.cj gD (fun iZ gD=>HT.seq (HT.block (bg gD fun sf gD=>HT.g hX [] (aQ sf) (bq gD fun gD=>bq gD fun gD=>bg gD fun yA gD=>HT.l hX (nO 9 [(hT tI),(hT tI)]) (aQ yA) (aE (af (HT.k hX [] aa fun _ h=>(aU (lN gD h))))))))) fun iZ gD=>HT.xe hX (aT (aW (Jc _ (an gD))))))))))))))
noncomputable def ca (a0:Int×Int×List Int×List Bool):Option (Bool):=
 (show Option (Bool) from
  (bj a0.1 (1:Int) (64:Int)).bind fun y5=>
  bif y5 then
   (bj a0.2.1 (1:Int) (4:Int)).bind fun y8=>
   bif y8 then
    bif ((ae a0.2.2.1)==(ij .i64 a0.1 a0.2.1)) then
     (dY a0.2.2.1 (0:Int) (a7 .i64 a0.1 (1:Int))).bind fun mD=>
     bif mD then
      some ((ae a0.2.2.2)==a0.1)
     else
      some false
    else
     some false
   else
    some false
  else
   some false).bind fun v2=>
 some v2
theorem uu {a0:Int×Int×List Int×List Bool}{r:Bool}(hr:ca a0=some r):CallOK Tryz.prog 40 [.bl (.st (.pair tI (.pair tI (.pair aN (.sl .bool))))) a0] [⟨false,.bool,r⟩] []:=
 fe Tryz.func40 rfl fun cx hX hF=>HT.g hX [] aa (HT.jn hr (fun v2=>up [] [(2,bV v2)] [] [] 0) (fun v2 hr=>by (cases hr;exact (HT.ret (bN aa)))) fun _ ay ez=>bc ay gE fun y5 iL ay=>bb ay (fun lQ ay=>bc ay gE fun y8 oh ay=>bb ay (fun fU ay=>bb ay (fun nT ay=>bc ay Ay fun mD rr ay=>bb ay (fun mq ay=>HT.k hX [oH,oH,(cl iL),kT,oH,oH,(cl oh),oH,kT,oH,oH,oH,oH,oH,oH,oH,oH,oH,oH,kT,oH,oH,oH,oH,oH,(cl rr),oH,kT] (lx iL lQ oh fU (oI nT rr mq)) fun _ h=>(af (h.ht (ez _ (ah ay))))) fun mq ay=>HT.k hX [oH,oH,(cl iL),kT,oH,oH,(cl oh),oH,kT,oH,oH,oH,oH,oH,oH,oH,oH,oH,oH,kT,oH,oH,oH,oH,oH,(cl rr),oH,kF] (lx iL lQ oh fU (oI nT rr mq)) fun _ h=>(af (h.ht (ez _ (ah ay))))) fun nT ay=>HT.k hX [oH,oH,(cl iL),kT,oH,oH,(cl oh),oH,kT,oH,oH,oH,oH,oH,oH,oH,oH,oH,oH,kF] (lx iL lQ oh fU (aQ nT)) fun _ h=>(af (h.ht (ez _ (ah ay))))) fun fU ay=>HT.k hX [oH,oH,(cl iL),kT,oH,oH,(cl oh),oH,kF] (oJ iL lQ oh fU) fun _ h=>(af (h.ht (ez _ (ah ay))))) fun lQ ay=>HT.k hX [oH,oH,(cl iL),kF] (dT iL lQ) fun _ h=>(af (h.ht (ez _ (ah ay)))))
end Go.Proofs
