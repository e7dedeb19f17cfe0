import Derived.Test.YtjekgiabgglokaaLibD
import Derived.Test.YtjekgiabgglokaaProg
set_option linter.unusedVariables false
set_option linter.unusedSimpArgs false
set_option linter.unusedSectionVars false
namespace Go.Proofs
open Go.Ide
abbrev TyG:=List Int×List Int×List (List Int)
abbrev tG:Ty:= .st (.pair bM (.pair bM (.sl bM)))
abbrev oT:OH:=⟨some true,.no⟩
abbrev oF:OH:=⟨some false,.no⟩
abbrev vT:OH:=⟨none,.tv true⟩
abbrev vF:OH:=⟨none,.tv false⟩
theorem aN:bH []:=Q0
theorem aC {p:Prop}{r:List Prop}(h:p)(hr:bH r):bH (p::r):=C5 h hr
theorem aT {r:List Prop}(hr:bH r):bH ((true=true)::r):=C5 rfl hr
theorem dZ {r:List Prop}(hr:bH r):bH ((true=true)::(true=true)::(true=true)::(true=true)::r):=aT (aT (aT (aT hr)))
theorem aF {r:List Prop}(hr:bH r):bH ((false=false)::r):=C5 rfl hr
abbrev eC:=Int×Int×List Nat×List Nat×List Nat
abbrev tM:Ty:= .st (.pair tI (.pair tI (.pair aY (.pair aY aY))))
abbrev cb (x:eC):Chunk:= .box [iC x.1,iC x.2.1,lC x.2.2.1,lC x.2.2.2.1,lC x.2.2.2.2]
abbrev o0:HR:=⟨oH,[]⟩
abbrev rL (n:Nat):List Nat:=List.range n
theorem ij {P:Program}{f:FuncId}{fn:Func}{c:Code}{args:List Arg}(ts:List (Bool×Ty)){rs:List RV}{outs:List TD}(hf:P.funcs[f]? =some fn)(hb:fn.body=some c)(own:List Nat)(h: ∀cx:Cx,vy cx P fn.ntmps own→cx.S7→HT cx (wG args) c (Ur P fn args ts rs outs))(h1:(fn.name=="runtime.NumGoroutine")=false:=by kernel_rfl)(h2:Nat.ble args.length fn.ntmps=true:=by kernel_rfl)(h3:iL args 0=own:=by kernel_rfl)(h4:Jx args=true:=by kernel_rfl):CallOK P f args rs outs:=
 CallOK.vv hf hb h1 (Nat.le_of_ble_eq_true h2) fun cx hP hN hO hF=>h cx ⟨hP,hN,hO.trans h3⟩ (hF h4)
theorem ay {P:Program}{N:Nat}{cx:Cx}{st:St}{y:Code}{Q:Exit→St→Prop}{id:Nat}{ops:List Oper}{own:List Nat}(rs:List OH)(st':St){cs:List Prop}(hX:vy cx P N own)(hc:bH cs)(hq:HT cx st' y Q)(he:PS own (st'.fr.map Prod.fst) (st'.mem.map Prod.fst) (tV P N ops ops rs st)=some (st',cs):=by kernel_rfl):HT cx st (.seq (.region id ops.toArray false) y) Q:=HT.rg2 rs st' hX he hc hq
theorem rO {P:Program}{fn:Func}{args:List Arg}{ts:List (Bool×Ty)}{rs:List RV}{outs:List TD}{st:St}(vs:List aE)(ks:List Nat)(cs:List Prop)(h6:bH cs)(h1:EL P st.mem st.fr fn.results.toList=some vs:=by kernel_rfl)(h2:Gw st.mem ts vs=some (rs,ks):=by kernel_rfl)(h3:mw ks=true:=by kernel_rfl)(h4:ks.all (fun k=> !(JH k (iL args 0)))=true:=by kernel_rfl)(h5:je st.mem args 0=some (outs,cs):=by kernel_rfl):EM P fn args ts rs outs st:=
 ⟨vs,ks,cs,h1,h2,h3,h4,h5,h6⟩
noncomputable def nZ (a0:List Int)(a1:List Int):Option (Bool):=
 (show Option (Bool) from
  bif (decide ((ai a0)>(1048576:Int))) then
   some true
  else
   some (decide ((ai a1)>(1048576:Int)))).bind fun v1=>
 some v1
theorem Rb {a0:List Int}{a1:List Int}{r:Bool}(hr:nZ a0 a1=some r):CallOK Try.prog 12 [.au (.sl (.int .u8)) a0,.au (.sl (.int .u8)) a1] [⟨false,.bool,r⟩] []:=by
 unfold nZ at hr;refine ij [(false,.bool)] Try.func12 rfl [] fun cx hX hF=> ?_;show HT cx ⟨[(0,.one (.aq (.sl (.int .u8)) a0)),(1,.one (.aq (.sl (.int .u8)) a1))],[],0⟩ _ _;refine ay [oH] ⟨[(0,.one (.aq (.sl (.int .u8)) a0)),(1,.one (.aq (.sl (.int .u8)) a1))],[],0⟩ hX aN ?_;obtain ⟨qW,bz,hr⟩:=af hr;refine HT.join (fun (v1:Bool)=>⟨[(4,bV v1)],[],0⟩) (fun v=>v=qW) (fun v1 ov=> ?_) (fun cont=> ?_);subst ov;have hr:=ae hr;subst hr;exact HT.ret (rO [bV v1] [] [] trivial);rcases an bz with ⟨dD,bz⟩|⟨dD,bz⟩
 exact HT.cR [oH,oH,oH,oH,oT,oT,oT,vT,oH] [] [] hX (by kernel_rfl) (aC dD (aC dD (aC dD (aC dD aN)))) (fun _ h=>(aj (h.ht (cont true (ae bz)))));exact HT.cR [oH,oH,oH,oH,oF,oF,oF,vF,oH] [] [] hX (by kernel_rfl) (aC dD (aC dD (aC dD (aC dD aN)))) (fun _ h=>(aj (h.ht (cont (decide ((ai a1)>(1048576:Int))) (ae bz)))))
noncomputable def fO (a0:List Int)(a1:Int)(a2:Int):Option (Int):=
 bif (decide (a2≤(1:Int))) then
  some (0:Int)
 else
  bif (decide (a1<(ai a0))) then
   az ((0:Int)≤a1∧a1<ai a0) (
    az (a2≠0) (
     some (Int.tmod (IntKind.wrap .i64 (List.getD a0 (Int.toNat a1) (0:Int))) a2)))
  else
   az (a2≠0) (
    some (Int.tmod (al .i64 (aU .i64 a1 (37:Int)) (11:Int)) a2))
theorem uI {a0:List Int}{a1:Int}{a2:Int}{r:Int}(hr:fO a0 a1 a2=some r):CallOK Try.prog 13 [.au (.sl (.int .u8)) a0,.au tI a1,.au tI a2] [⟨false,tI,r⟩] []:=by
 unfold fO at hr;refine ij [(false,tI)] Try.func13 rfl [] fun cx hX hF=> ?_;show HT cx ⟨[(0,.one (.aq (.sl (.int .u8)) a0)),(1,iV a1),(2,iV a2)],[],0⟩ _ _;refine ay [oH] ⟨[(0,.one (.aq (.sl (.int .u8)) a0)),(1,iV a1),(2,iV a2)],[],0⟩ hX aN ?_;refine HT.seq ?_;refine ay (aO 2) ⟨[(0,.one (.aq (.sl (.int .u8)) a0)),(1,iV a1),(2,iV a2),(8,bV (decide (a2≤(1:Int))))],[],0⟩ hX aN ?_;rcases an hr with ⟨rQ,hr⟩|⟨rQ,hr⟩
 refine HT.aK rfl rQ ?_;refine ay [oH] ⟨[(6,iV (0:Int))],[],0⟩ hX aN ?_;have hr:=ae hr;subst hr;exact HT.ret (aM (rO [iV (0:Int)] [] [] trivial));refine HT.aJ rfl rQ ?_;refine HT.skip (aj ?_);refine HT.seq ?_;refine ay (aO 4) ⟨[(0,.one (.aq (.sl (.int .u8)) a0)),(1,iV a1),(2,iV a2),(12,bV (decide (a1<(ai a0))))],[],0⟩ hX aN ?_;rcases an hr with ⟨o6,hr⟩|⟨o6,hr⟩
 refine HT.aK rfl o6 ?_;obtain ⟨To,hr⟩:=ao hr;obtain ⟨PW,hr⟩:=ao hr;refine ay (aO 8) ⟨[(6,iV (Int.tmod (IntKind.wrap .i64 (List.getD a0 (Int.toNat a1) (0:Int))) a2))],[],0⟩ hX (aC To (aC PW aN)) ?_;have hr:=ae hr;subst hr;exact HT.ret (aM (rO [iV (Int.tmod (IntKind.wrap .i64 (List.getD a0 (Int.toNat a1) (0:Int))) a2)] [] [] trivial));refine HT.aJ rfl o6 ?_;refine HT.skip (aj ?_);obtain ⟨XE,hr⟩:=ao hr;refine ay (aO 6) ⟨[(6,iV (Int.tmod (al .i64 (aU .i64 a1 (37:Int)) (11:Int)) a2))],[],0⟩ hX (aC XE aN) ?_;have hr:=ae hr;subst hr;exact HT.ret (rO [iV (Int.tmod (al .i64 (aU .i64 a1 (37:Int)) (11:Int)) a2)] [] [] trivial)
noncomputable def n7 (a0:List Int):Option ((List Int×Int×Int)):=
 some (a0,(0:Int),(0:Int))
theorem Rc {a0:List Int}{r:(List Int×Int×Int)}(hr:n7 a0=some r):CallOK Try.prog 51 [.au (.sl (.int .u8)) a0] [⟨true,(.bx (.st (.pair (.sl (.int .u8)) (.pair tI (.int .u64))))),[r]⟩] []:=by
 unfold n7 at hr;refine ij [(true,(.bx (.st (.pair (.sl (.int .u8)) (.pair tI (.int .u64))))))] Try.func51 rfl [] fun cx hX hF=> ?_;show HT cx ⟨[(0,.one (.aq (.sl (.int .u8)) a0))],[],0⟩ _ _;refine ay [oH] ⟨[(0,.one (.aq (.sl (.int .u8)) a0))],[],0⟩ hX aN ?_;refine ay [oH,oH,⟨none,.ty (.st (.pair (.sl (.int .u8)) (.pair tI (.int .u64))))⟩,oH] ⟨[(2,.one (.iy 0 0 3 0))],[(0,.seq (.st (.pair (.sl (.int .u8)) (.pair tI (.int .u64)))) ([(a0,(0:Int),(0:Int))]))],1⟩ hX aN ?_;have hr:=ae hr;subst hr;exact HT.ret (rO [.one (.iy 0 0 3 0)] [0] [] trivial)
noncomputable def fD (a0:List Int×Int×Int):Option (Int×(List Int×Int×Int)):=
 (show Option (Int) from
  bif (decide (a0.2.1<(ai a0.1))) then
   az ((0:Int)≤a0.2.1∧a0.2.1<ai a0.1) (
    some (IntKind.wrap .i64 (List.getD a0.1 (Int.toNat a0.2.1) (0:Int))))
  else
   some (0:Int)).bind fun v1=>
 bif (decide ((al .i64 a0.2.1 (1:Int))≤(ai a0.1))) then
  some (v1,a0.1,(al .i64 a0.2.1 (1:Int)),(al .u64 (al .u64 (aU .u64 a0.2.2 (6364136223846793005:Int)) (IntKind.wrap .u64 v1)) (1442695040888963407:Int)))
 else
  (some (IntKind.wrap .i64 (IntKind.wrap .u64 (BitVec.ofInt (IntKind.bits .u64) (Int.fdiv (al .u64 (al .u64 (aU .u64 a0.2.2 (6364136223846793005:Int)) (IntKind.wrap .u64 v1)) (1442695040888963407:Int)) (2^(min (Int.toNat (40:Int)) (IntKind.bits .u64))))&&& BitVec.ofInt (IntKind.bits .u64) (255:Int)).toNat))).bind fun q5=>
  some (q5,a0.1,(al .i64 a0.2.1 (1:Int)),(al .u64 (al .u64 (aU .u64 a0.2.2 (6364136223846793005:Int)) (IntKind.wrap .u64 v1)) (1442695040888963407:Int)))
theorem Ir {a0:List Int×Int×Int}{r:Int×(List Int×Int×Int)}(hr:fD a0=some r):CallOK Try.prog 102 [.own (.bx (.st (.pair (.sl (.int .u8)) (.pair tI (.int .u64))))) [a0]] [⟨false,tI,r.1⟩] [⟨(.bx (.st (.pair (.sl (.int .u8)) (.pair tI (.int .u64))))),[r.2]⟩]:=by
 unfold fD at hr;refine ij [(false,tI)] Try.func102 rfl [0] fun cx hX hF=> ?_;show HT cx ⟨[(0,.one (.iy 0 0 3 0))],[(0,.seq (.st (.pair (.sl (.int .u8)) (.pair tI (.int .u64)))) ([a0]))],1⟩ _ _;refine ay [oH] ⟨[(0,.one (.iy 0 0 3 0))],[(0,.seq (.st (.pair (.sl (.int .u8)) (.pair tI (.int .u64)))) ([a0]))],1⟩ hX aN ?_;refine ay [oH] ⟨[(0,.one (.iy 0 0 3 0)),(3,iV (0:Int))],[(0,.seq (.st (.pair (.sl (.int .u8)) (.pair tI (.int .u64)))) ([a0]))],1⟩ hX aN ?_;obtain ⟨qW,bz,hr⟩:=af hr;refine HT.join (fun (v1:Int)=>⟨[(0,.one (.iy 0 0 3 0)),(3,iV v1)],[(0,.seq (.st (.pair (.sl (.int .u8)) (.pair tI (.int .u64)))) ([a0]))],1⟩) (fun v=>v=qW) (fun v1 ov=> ?_) (fun cont=> ?_);subst ov;refine ay (aO 8) ⟨[(0,.one (.iy 0 0 3 0)),(3,iV v1)],[(0,.seq (.st (.pair (.sl (.int .u8)) (.pair tI (.int .u64)))) ([(a0.1,(al .i64 a0.2.1 (1:Int)),a0.2.2)]))],1⟩ hX (aC (show 0<List.length [a0] from Nat.zero_lt_one) (aC (show 0<List.length [a0] from Nat.zero_lt_one) aN)) ?_;refine ay (aO 13) ⟨[(0,.one (.iy 0 0 3 0)),(3,iV v1)],[(0,.seq (.st (.pair (.sl (.int .u8)) (.pair tI (.int .u64)))) ([(a0.1,(al .i64 a0.2.1 (1:Int)),(al .u64 (al .u64 (aU .u64 a0.2.2 (6364136223846793005:Int)) (IntKind.wrap .u64 v1)) (1442695040888963407:Int)))]))],1⟩ hX (aC (show 0<List.length [(a0.1,(al .i64 a0.2.1 (1:Int)),a0.2.2)] from Nat.zero_lt_one) (aC (show 0<List.length [(a0.1,(al .i64 a0.2.1 (1:Int)),a0.2.2)] from Nat.zero_lt_one) aN)) ?_;refine HT.seq ?_;refine HT.D7 9 [o0,⟨oH,[0]⟩,⟨oH,[0,1]⟩,⟨oH,[0,1,2]⟩,o0,⟨oH,[4]⟩,⟨oH,[4,5]⟩,⟨oH,[4,5,6]⟩,⟨oH,[4,5,6,7]⟩] [(rL 9)] [oH] ⟨[(0,.one (.iy 0 0 3 0)),(3,iV v1),(53,bV (decide ((al .i64 a0.2.1 (1:Int))≤(ai a0.1))))],[(0,.seq (.st (.pair (.sl (.int .u8)) (.pair tI (.int .u64)))) ([(a0.1,(al .i64 a0.2.1 (1:Int)),(al .u64 (al .u64 (aU .u64 a0.2.2 (6364136223846793005:Int)) (IntKind.wrap .u64 v1)) (1442695040888963407:Int)))]))],1⟩ hX (by kernel_rfl) (by kernel_rfl) (aC (show 0<List.length [(a0.1,(al .i64 a0.2.1 (1:Int)),(al .u64 (al .u64 (aU .u64 a0.2.2 (6364136223846793005:Int)) (IntKind.wrap .u64 v1)) (1442695040888963407:Int)))] from Nat.zero_lt_one) (aC (show 0<List.length [(a0.1,(al .i64 a0.2.1 (1:Int)),(al .u64 (al .u64 (aU .u64 a0.2.2 (6364136223846793005:Int)) (IntKind.wrap .u64 v1)) (1442695040888963407:Int)))] from Nat.zero_lt_one) aN)) ?_;rcases an hr with ⟨dD,hr⟩|⟨dD,hr⟩
 refine HT.aK rfl dD ?_;refine ay (aO 2) ⟨[(2,iV v1)],[(0,.seq (.st (.pair (.sl (.int .u8)) (.pair tI (.int .u64)))) ([(a0.1,(al .i64 a0.2.1 (1:Int)),(al .u64 (al .u64 (aU .u64 a0.2.2 (6364136223846793005:Int)) (IntKind.wrap .u64 v1)) (1442695040888963407:Int)))]))],1⟩ hX aN ?_;have hr:=ae hr;subst hr;exact HT.ret (aM (rO [iV v1] [] [List.length ([(a0.1,(al .i64 a0.2.1 (1:Int)),(al .u64 (al .u64 (aU .u64 a0.2.2 (6364136223846793005:Int)) (IntKind.wrap .u64 v1)) (1442695040888963407:Int)))])=List.length [a0]] ⟨(show List.length ([(a0.1,(al .i64 a0.2.1 (1:Int)),(al .u64 (al .u64 (aU .u64 a0.2.2 (6364136223846793005:Int)) (IntKind.wrap .u64 v1)) (1442695040888963407:Int)))])=List.length [a0] from rfl),trivial⟩));refine HT.aJ rfl dD ?_;refine HT.skip (aj ?_);refine ay (aO 8) ⟨[(2,iV (IntKind.wrap .i64 (IntKind.wrap .u64 (BitVec.ofInt (IntKind.bits .u64) (Int.fdiv (al .u64 (al .u64 (aU .u64 a0.2.2 (6364136223846793005:Int)) (IntKind.wrap .u64 v1)) (1442695040888963407:Int)) (2^(min (Int.toNat (40:Int)) (IntKind.bits .u64))))&&& BitVec.ofInt (IntKind.bits .u64) (255:Int)).toNat)))],[(0,.seq (.st (.pair (.sl (.int .u8)) (.pair tI (.int .u64)))) ([(a0.1,(al .i64 a0.2.1 (1:Int)),(al .u64 (al .u64 (aU .u64 a0.2.2 (6364136223846793005:Int)) (IntKind.wrap .u64 v1)) (1442695040888963407:Int)))]))],1⟩ hX (aC (show 0<List.length [(a0.1,(al .i64 a0.2.1 (1:Int)),(al .u64 (al .u64 (aU .u64 a0.2.2 (6364136223846793005:Int)) (IntKind.wrap .u64 v1)) (1442695040888963407:Int)))] from Nat.zero_lt_one) (aC (show (0:Int)≤(40:Int) from by decide) aN)) ?_;obtain ⟨q5,LM,hr⟩:=af hr;have LM:=fh LM;refine (Le.cv (s:=⟨[(0,0)],[],[],false⟩) (own:=[0]) (ps:=[q5=(IntKind.wrap .i64 (IntKind.wrap .u64 (BitVec.ofInt (IntKind.bits .u64) (Int.fdiv (al .u64 (al .u64 (aU .u64 a0.2.2 (6364136223846793005:Int)) (IntKind.wrap .u64 v1)) (1442695040888963407:Int)) (2^(min (Int.toNat (40:Int)) (IntKind.bits .u64))))&&& BitVec.ofInt (IntKind.bits .u64) (255:Int)).toNat)),[(a0.1,(al .i64 a0.2.1 (1:Int)),(al .u64 (al .u64 (aU .u64 a0.2.2 (6364136223846793005:Int)) (IntKind.wrap .u64 v1)) (1442695040888963407:Int)))]=[(a0.1,(al .i64 a0.2.1 (1:Int)),(al .u64 (al .u64 (aU .u64 a0.2.2 (6364136223846793005:Int)) (IntKind.wrap .u64 v1)) (1442695040888963407:Int)))]]) (st':=⟨[(2,iV q5)],[(0,.seq (.st (.pair (.sl (.int .u8)) (.pair tI (.int .u64)))) ([(a0.1,(al .i64 a0.2.1 (1:Int)),(al .u64 (al .u64 (aU .u64 a0.2.2 (6364136223846793005:Int)) (IntKind.wrap .u64 v1)) (1442695040888963407:Int)))]))],1⟩) hX.own (fun h=>by cases h) (by kernel_rfl) ⟨LM,rfl,trivial⟩).ht ?_;have hr:=ae hr;subst hr;exact HT.ret (rO [iV q5] [] [List.length ([(a0.1,(al .i64 a0.2.1 (1:Int)),(al .u64 (al .u64 (aU .u64 a0.2.2 (6364136223846793005:Int)) (IntKind.wrap .u64 v1)) (1442695040888963407:Int)))])=List.length [a0]] ⟨(show List.length ([(a0.1,(al .i64 a0.2.1 (1:Int)),(al .u64 (al .u64 (aU .u64 a0.2.2 (6364136223846793005:Int)) (IntKind.wrap .u64 v1)) (1442695040888963407:Int)))])=List.length [a0] from rfl),trivial⟩);refine HT.D7 9 [o0,⟨oH,[0]⟩,⟨oH,[0,1]⟩,⟨oH,[0,1,2]⟩,o0,⟨oH,[4]⟩,⟨oH,[4,5]⟩,⟨oH,[4,5,6]⟩,⟨oH,[4,5,6,7]⟩] [(rL 9)] [oH] ⟨[(0,.one (.iy 0 0 3 0)),(3,iV (0:Int)),(13,bV (decide (a0.2.1<(ai a0.1))))],[(0,.seq (.st (.pair (.sl (.int .u8)) (.pair tI (.int .u64)))) ([a0]))],1⟩ hX (by kernel_rfl) (by kernel_rfl) (aC (show 0<List.length [a0] from Nat.zero_lt_one) (aC (show 0<List.length [a0] from Nat.zero_lt_one) aN)) ?_;rcases an bz with ⟨kQ,bz⟩|⟨kQ,bz⟩
 refine HT.aK rfl kQ ?_;obtain ⟨PX,bz⟩:=ao bz;exact HT.ZV 8 [o0,⟨oH,[0]⟩,⟨oH,[0,1]⟩,⟨oH,[0,1,2]⟩,o0,⟨oH,[4]⟩,⟨oH,[4,5]⟩,⟨oH,[4,5,6]⟩] [(rL 8),(rL 9),(rL 10),(rL 11)] (aO 4) [(0,0)] [] hX (by kernel_rfl) (by kernel_rfl) (aC (show 0<List.length [a0] from Nat.zero_lt_one) (aC (show 0<List.length [a0] from Nat.zero_lt_one) (aC PX aN))) (fun _ h=>(aj (h.ht (cont (IntKind.wrap .i64 (List.getD a0.1 (Int.toNat a0.2.1) (0:Int))) (ae bz)))));refine HT.aJ rfl kQ ?_;refine HT.skip (aj ?_);exact (Le.re [(0,0)] [] hX (by kernel_rfl)).ht (cont (0:Int) (ae bz))
noncomputable def fE (a0:List Int×Int×Int)(a1:Int):Option (Int×(List Int×Int×Int)):=
 bif (decide (a1≤(1:Int))) then
  some ((0:Int),a0)
 else
  (fD a0).bind fun y2=>
  (show Option (Int×(List Int×Int×Int)) from
   bif (decide (a1>(200:Int))) then
    (fD y2.2).bind fun y9=>
    some ((al .i64 (aU .i64 y2.1 (256:Int)) y9.1),y9.2)
   else
    some (y2.1,y2.2)).bind fun v4=>
  az (a1≠0) (
   some ((Int.tmod v4.1 a1),v4.2))
theorem LN {a0:List Int×Int×Int}{a1:Int}{r:Int×(List Int×Int×Int)}(hr:fE a0 a1=some r):CallOK Try.prog 52 [.own (.bx (.st (.pair (.sl (.int .u8)) (.pair tI (.int .u64))))) [a0],.au tI a1] [⟨false,tI,r.1⟩] [⟨(.bx (.st (.pair (.sl (.int .u8)) (.pair tI (.int .u64))))),[r.2]⟩]:=by
 unfold fE at hr;refine ij [(false,tI)] Try.func52 rfl [0] fun cx hX hF=> ?_;show HT cx ⟨[(0,.one (.iy 0 0 3 0)),(1,iV a1)],[(0,.seq (.st (.pair (.sl (.int .u8)) (.pair tI (.int .u64)))) ([a0]))],1⟩ _ _;refine ay [oH] ⟨[(0,.one (.iy 0 0 3 0)),(1,iV a1)],[(0,.seq (.st (.pair (.sl (.int .u8)) (.pair tI (.int .u64)))) ([a0]))],1⟩ hX aN ?_;refine HT.seq ?_;refine ay (aO 2) ⟨[(0,.one (.iy 0 0 3 0)),(1,iV a1),(7,bV (decide (a1≤(1:Int))))],[(0,.seq (.st (.pair (.sl (.int .u8)) (.pair tI (.int .u64)))) ([a0]))],1⟩ hX aN ?_;rcases an hr with ⟨rQ,hr⟩|⟨rQ,hr⟩
 refine HT.aK rfl rQ ?_;refine ay [oH] ⟨[(4,iV (0:Int))],[(0,.seq (.st (.pair (.sl (.int .u8)) (.pair tI (.int .u64)))) ([a0]))],1⟩ hX aN ?_;have hr:=ae hr;subst hr;exact HT.ret (aM (rO [iV (0:Int)] [] [List.length ([a0])=List.length [a0]] ⟨(show List.length ([a0])=List.length [a0] from rfl),trivial⟩));refine HT.aJ rfl rQ ?_;refine HT.skip (aj ?_);obtain ⟨y2,Rd,hr⟩:=af hr;refine ay [oH,⟨none,.call [.own (.bx (.st (.pair (.sl (.int .u8)) (.pair tI (.int .u64)))))] [⟨false,tI,y2.1⟩] [⟨(.bx (.st (.pair (.sl (.int .u8)) (.pair tI (.int .u64))))),[y2.2]⟩]⟩,oH] ⟨[(0,.one (.iy 0 0 3 0)),(1,iV a1),(5,iV y2.1)],[(0,.seq (.st (.pair (.sl (.int .u8)) (.pair tI (.int .u64)))) ([y2.2]))],1⟩ hX (aC (Ir Rd) aN) ?_;obtain ⟨UL,Dg,hr⟩:=af hr;refine HT.join (fun (v4:Int×(List Int×Int×Int))=>⟨[(1,iV a1),(5,iV v4.1)],[(0,.seq (.st (.pair (.sl (.int .u8)) (.pair tI (.int .u64)))) ([v4.2]))],1⟩) (fun v=>v=UL) (fun v4 UM=> ?_) (fun cont=> ?_);subst UM;obtain ⟨hg7,hr⟩:=ao hr;refine ay (aO 4) ⟨[(4,iV (Int.tmod v4.1 a1))],[(0,.seq (.st (.pair (.sl (.int .u8)) (.pair tI (.int .u64)))) ([v4.2]))],1⟩ hX (aC hg7 aN) ?_;have hr:=ae hr;subst hr;exact HT.ret (rO [iV (Int.tmod v4.1 a1)] [] [List.length ([v4.2])=List.length [a0]] ⟨(show List.length ([v4.2])=List.length [a0] from rfl),trivial⟩);refine ay (aO 2) ⟨[(0,.one (.iy 0 0 3 0)),(1,iV a1),(5,iV y2.1),(11,bV (decide (a1>(200:Int))))],[(0,.seq (.st (.pair (.sl (.int .u8)) (.pair tI (.int .u64)))) ([y2.2]))],1⟩ hX aN ?_;rcases an Dg with ⟨iN,Dg⟩|⟨iN,Dg⟩
 refine HT.aK rfl iN ?_;obtain ⟨y9,tW,Dg⟩:=af Dg;exact HT.cR [oH,oH,oH,⟨none,.call [.own (.bx (.st (.pair (.sl (.int .u8)) (.pair tI (.int .u64)))))] [⟨false,tI,y9.1⟩] [⟨(.bx (.st (.pair (.sl (.int .u8)) (.pair tI (.int .u64))))),[y9.2]⟩]⟩,oH,oH] [(0,0)] [] hX (by kernel_rfl) (aC (Ir tW) aN) (fun _ h=>(aj (h.ht (cont ((al .i64 (aU .i64 y2.1 (256:Int)) y9.1),y9.2) (ae Dg)))));refine HT.aJ rfl iN ?_;refine HT.skip (aj ?_);exact (Le.re [(0,0)] [] hX (by kernel_rfl)).ht (cont (y2.1,y2.2) (ae Dg))
noncomputable def g8 (r3:Nat×(List Int×Int×Int)×List Nat)(s4:Int×List Nat):Option ((Int×List Nat)⊕(List Nat)):=
 bif (decide (s4.1<(ai r3.2.2))) then
  az ((0:Int)≤s4.1∧s4.1<ai s4.2) (
   some (.inl ((al .i64 s4.1 (1:Int)),(List.set s4.2 (Int.toNat s4.1) (av .quo .f32 (List.getD s4.2 (Int.toNat s4.1) (0:Nat)) r3.1)))))
 else
  some (.inr s4.2)
noncomputable def oM (a1:Int)(s1:Nat×Int×(List Int×Int×Int)×List Nat):Option ((Nat×Int×(List Int×Int×Int)×List Nat)⊕((Nat×(List Int×Int×Int)×List Nat))):=
 bif (decide (s1.2.1<a1)) then
  (fE s1.2.2.1 (5:Int)).bind fun m9=>
  az (List.length s1.2.2.2+List.length ([(eg .f32 (al .i64 (1:Int) m9.1))]:List Nat)≤bO) (
   some (.inl ((av .add .f32 s1.1 (eg .f32 (al .i64 (1:Int) m9.1))),(al .i64 s1.2.1 (1:Int)),m9.2,(s1.2.2.2++([(eg .f32 (al .i64 (1:Int) m9.1))]:List Nat)))))
 else
  some (.inr (s1.1,s1.2.2.1,s1.2.2.2))
noncomputable def jz (a0:List Int×Int×Int)(a1:Int):Option (List Nat×(List Int×Int×Int)):=
 (rounds (oM a1) ((0:Nat),(0:Int),a0,([]:List Nat))).bind fun r3=>
 (rounds (g8 r3) ((0:Int),r3.2.2)).bind fun r6=>
 some (r6,r3.2.1)
theorem GX {a0:List Int×Int×Int}{a1:Int}{r:List Nat×(List Int×Int×Int)}(hr:jz a0 a1=some r):CallOK Try.prog 53 [.own (.bx (.st (.pair (.sl (.int .u8)) (.pair tI (.int .u64))))) [a0],.au tI a1] [⟨true,aY,r.1⟩] [⟨(.bx (.st (.pair (.sl (.int .u8)) (.pair tI (.int .u64))))),[r.2]⟩]:=by
 unfold jz at hr;refine ij [(true,aY)] Try.func53 rfl [0] fun cx hX hF=> ?_;show HT cx ⟨[(0,.one (.iy 0 0 3 0)),(1,iV a1)],[(0,.seq (.st (.pair (.sl (.int .u8)) (.pair tI (.int .u64)))) ([a0]))],1⟩ _ _;refine ay [oH] ⟨[(0,.one (.iy 0 0 3 0)),(1,iV a1)],[(0,.seq (.st (.pair (.sl (.int .u8)) (.pair tI (.int .u64)))) ([a0]))],1⟩ hX aN ?_;refine ay (aO 2) ⟨[(0,.one (.iy 0 0 3 0)),(1,iV a1),(5,.one (.ar))],[(0,.seq (.st (.pair (.sl (.int .u8)) (.pair tI (.int .u64)))) ([a0]))],1⟩ hX aN ?_;refine ay [oH] ⟨[(0,.one (.iy 0 0 3 0)),(1,iV a1),(5,.one (.ar)),(6,fV (0:Nat))],[(0,.seq (.st (.pair (.sl (.int .u8)) (.pair tI (.int .u64)))) ([a0]))],1⟩ hX aN ?_;refine HT.seq ?_;refine ay [oH] ⟨[(0,.one (.iy 0 0 3 0)),(1,iV a1),(5,.one (.ar)),(6,fV (0:Nat)),(7,iV (0:Int))],[(0,.seq (.st (.pair (.sl (.int .u8)) (.pair tI (.int .u64)))) ([a0]))],1⟩ hX aN ?_;refine HT.block ?_;obtain ⟨r2,GY,hr⟩:=af hr;refine HT.ct (fun (s1:Nat×Int×(List Int×Int×Int)×List Nat)=>⟨[(0,.one (.iy 0 0 3 0)),(1,iV a1),(5,aV 1),(6,fV s1.1),(7,iV s1.2.1)],[(0,.seq (.st (.pair (.sl (.int .u8)) (.pair tI (.int .u64)))) ([s1.2.2.1])),(1,.seq tF s1.2.2.2)],2⟩) (fun (r3:(Nat×(List Int×Int×Int)×List Nat))=>(.exit 0,⟨[(5,aV 1),(6,fV r3.1)],[(0,.seq (.st (.pair (.sl (.int .u8)) (.pair tI (.int .u64)))) ([r3.2.1])),(1,.seq tF r3.2.2)],2⟩)) (Le.re [(0,0)] [1] hX (by kernel_rfl)) GY ?_ (fun s1 ZW di JW=> ?_);refine (aZ (aj ?_));refine HT.seq ?_;refine ay (aO 3) ⟨[(5,aV 1),(6,fV r2.1),(28,iV (ai r2.2.2)),(29,iV (0:Int))],[(0,.seq (.st (.pair (.sl (.int .u8)) (.pair tI (.int .u64)))) ([r2.2.1])),(1,.seq tF r2.2.2)],2⟩ hX aN ?_;refine HT.block ?_;obtain ⟨r5,XF,hr⟩:=af hr;refine HT.ct (fun (s4:Int×List Nat)=>⟨[(5,aV 1),(6,fV r2.1),(28,iV (ai r2.2.2)),(29,iV s4.1)],[(0,.seq (.st (.pair (.sl (.int .u8)) (.pair tI (.int .u64)))) ([r2.2.1])),(1,.seq tF s4.2)],2⟩) (fun (r6:List Nat)=>(.exit 2,⟨[(5,aV 1)],[(0,.seq (.st (.pair (.sl (.int .u8)) (.pair tI (.int .u64)))) ([r2.2.1])),(1,.seq tF r6)],2⟩)) (Le.re [(0,0),(1,1)] [] hX (by kernel_rfl)) XF ?_ (fun s4 x7 zY XG=> ?_);refine (aZ (aj ?_));refine ay (aO 2) ⟨[(4,aV 1)],[(0,.seq (.st (.pair (.sl (.int .u8)) (.pair tI (.int .u64)))) ([r2.2.1])),(1,.seq tF r5)],2⟩ hX aN ?_;have hr:=ae hr;subst hr;exact HT.ret (rO [aV 1] [1] [List.length ([r2.2.1])=List.length [a0]] ⟨(show List.length ([r2.2.1])=List.length [a0] from rfl),trivial⟩);refine ay [oH] ⟨[(5,aV 1),(6,fV r2.1),(28,iV (ai r2.2.2)),(29,iV s4.1),(30,bV (decide (s4.1<(ai r2.2.2))))],[(0,.seq (.st (.pair (.sl (.int .u8)) (.pair tI (.int .u64)))) ([r2.2.1])),(1,.seq tF s4.2)],2⟩ hX aN ?_;refine HT.seq ?_;rcases an zY with ⟨GZ,zY⟩|⟨GZ,zY⟩
 refine HT.aK rfl GZ ?_;refine HT.skip (aj ?_);refine HT.seq ?_;refine HT.block ?_;refine ay (aO 2) ⟨[(5,aV 1),(6,fV r2.1),(9,iV s4.1),(28,iV (ai r2.2.2)),(29,iV s4.1)],[(0,.seq (.st (.pair (.sl (.int .u8)) (.pair tI (.int .u64)))) ([r2.2.1])),(1,.seq tF s4.2)],2⟩ hX aN ?_;obtain ⟨sC,zY⟩:=ao zY;refine HT.xM (aO 10) ⟨[(5,aV 1),(6,fV r2.1),(28,iV (ai r2.2.2)),(29,iV s4.1)],[(1,.seq tF (List.set s4.2 (Int.toNat s4.1) (av .quo .f32 (List.getD s4.2 (Int.toNat s4.1) (0:Nat)) r2.1))),(0,.seq (.st (.pair (.sl (.int .u8)) (.pair tI (.int .u64)))) ([r2.2.1]))],2⟩ hX (by kernel_rfl) (aC sC (aC (gy sC) (aC sC (aC (gy sC) aN)))) (bC (aj ?_));have zY:=ae zY;subst zY;exact HT.cR (aO 2) [(0,0),(1,1)] [] hX (by kernel_rfl) aN (fun _ h=>(bJ ⟨((al .i64 s4.1 (1:Int)),(List.set s4.2 (Int.toNat s4.1) (av .quo .f32 (List.getD s4.2 (Int.toNat s4.1) (0:Nat)) r2.1))),rfl,h⟩));refine HT.aJ rfl GZ ?_;have zY:=ae zY;subst zY;exact HT.cr (Le.re [(0,0),(1,1)] [] hX (by kernel_rfl)) (bF (bI (XG s4.2 rfl)));refine HT.seq ?_;refine ay (aO 3) ⟨[(0,.one (.iy 0 0 3 0)),(1,iV a1),(5,aV 1),(6,fV s1.1),(7,iV s1.2.1),(13,bV (decide (s1.2.1<a1)))],[(0,.seq (.st (.pair (.sl (.int .u8)) (.pair tI (.int .u64)))) ([s1.2.2.1])),(1,.seq tF s1.2.2.2)],2⟩ hX aN ?_;rcases an di with ⟨oN,di⟩|⟨oN,di⟩
 refine HT.aK rfl oN ?_;refine HT.skip (aj ?_);refine HT.seq ?_;refine HT.block ?_;obtain ⟨m9,G0,di⟩:=af di;refine ay [oH,⟨none,.call [.own (.bx (.st (.pair (.sl (.int .u8)) (.pair tI (.int .u64))))),.au tI] [⟨false,tI,m9.1⟩] [⟨(.bx (.st (.pair (.sl (.int .u8)) (.pair tI (.int .u64))))),[m9.2]⟩]⟩,oH,oH,oH] ⟨[(0,.one (.iy 0 0 3 0)),(1,iV a1),(5,aV 1),(6,fV s1.1),(7,iV s1.2.1),(8,fV (eg .f32 (al .i64 (1:Int) m9.1)))],[(0,.seq (.st (.pair (.sl (.int .u8)) (.pair tI (.int .u64)))) ([m9.2])),(1,.seq tF s1.2.2.2)],2⟩ hX (aC (LN G0) aN) ?_;obtain ⟨LO,di⟩:=ao di;refine ay [oH,oH,⟨none,.ty tF⟩,⟨none,.ty tF⟩,oH] ⟨[(0,.one (.iy 0 0 3 0)),(1,iV a1),(5,aV 3),(6,fV s1.1),(7,iV s1.2.1),(8,fV (eg .f32 (al .i64 (1:Int) m9.1)))],[(3,.seq tF (s1.2.2.2++([(eg .f32 (al .i64 (1:Int) m9.1))]:List Nat))),(0,.seq (.st (.pair (.sl (.int .u8)) (.pair tI (.int .u64)))) ([m9.2]))],4⟩ hX (aC LO aN) ?_;refine HT.xM (aO 4) ⟨[(0,.one (.iy 0 0 3 0)),(1,iV a1),(5,aV 3),(6,fV (av .add .f32 s1.1 (eg .f32 (al .i64 (1:Int) m9.1)))),(7,iV s1.2.1)],[(3,.seq tF (s1.2.2.2++([(eg .f32 (al .i64 (1:Int) m9.1))]:List Nat))),(0,.seq (.st (.pair (.sl (.int .u8)) (.pair tI (.int .u64)))) ([m9.2]))],4⟩ hX (by kernel_rfl) aN (bC (aj ?_));have di:=ae di;subst di;exact HT.cR (aO 3) [(0,0),(3,1)] [] hX (by kernel_rfl) aN (fun _ h=>(bJ ⟨((av .add .f32 s1.1 (eg .f32 (al .i64 (1:Int) m9.1))),(al .i64 s1.2.1 (1:Int)),m9.2,(s1.2.2.2++([(eg .f32 (al .i64 (1:Int) m9.1))]:List Nat))),rfl,h⟩));refine HT.aJ rfl oN ?_;have di:=ae di;subst di;exact HT.cr (Le.re [(0,0),(1,1)] [] hX (by kernel_rfl)) (bF (bI (JW (s1.1,s1.2.2.1,s1.2.2.2) rfl)))
noncomputable def mH (a1:Int)(y3:Int×(List Int×Int×Int))(s7:Int×(List Int×Int×Int)×List Nat×List Nat):Option ((Int×(List Int×Int×Int)×List Nat×List Nat)⊕((List Nat×List Nat))):=
 bif (decide (s7.1<(al .i64 (1:Int) y3.1))) then
  (jz s7.2.1 (al .i64 (1:Int) y3.1)).bind fun o8=>
  az (List.length s7.2.2.1+List.length o8.1≤bO) (
   (jz o8.2 a1).bind fun m9=>
   az (List.length s7.2.2.2+List.length m9.1≤bO) (
    some (.inl ((al .i64 s7.1 (1:Int)),m9.2,(s7.2.2.1++o8.1),(s7.2.2.2++m9.1)))))
 else
  some (.inr (s7.2.2.1,s7.2.2.2))
noncomputable def kj (a0:List Int)(a1:Int):Option ((eC)):=
 (n7 a0).bind fun y1=>
 (fE y1 (4:Int)).bind fun y3=>
 (jz y3.2 (al .i64 (1:Int) y3.1)).bind fun y5=>
 (rounds (mH a1 y3) ((0:Int),y5.2,([]:List Nat),([]:List Nat))).bind fun r9=>
 some ((al .i64 (1:Int) y3.1),a1,y5.1,r9.1,r9.2)
theorem Re {a0:List Int}{a1:Int}{r:(eC)}(hr:kj a0 a1=some r):CallOK Try.prog 14 [.au (.sl (.int .u8)) a0,.au tI a1] [⟨true,tM,r⟩] []:=by
 unfold kj at hr;refine ij [(true,tM)] Try.func14 rfl [] fun cx hX hF=> ?_;show HT cx ⟨[(0,.one (.aq (.sl (.int .u8)) a0)),(1,iV a1)],[],0⟩ _ _;refine ay [oH] ⟨[(0,.one (.aq (.sl (.int .u8)) a0)),(1,iV a1),(4,pV 0 0)],[(0,.box [iC (0:Int),iC (0:Int),.ar,.ar,.ar])],1⟩ hX aN ?_;obtain ⟨y1,eV,hr⟩:=af hr;refine ay [oH,⟨none,.call [.au (.sl (.int .u8))] [⟨true,(.bx (.st (.pair (.sl (.int .u8)) (.pair tI (.int .u64))))),[y1]⟩] []⟩,oH] ⟨[(1,iV a1),(4,pV 0 0),(5,.one (.iy 1 0 3 0))],[(1,.seq (.st (.pair (.sl (.int .u8)) (.pair tI (.int .u64)))) ([y1])),(0,.box [iC (0:Int),iC (0:Int),.ar,.ar,.ar])],2⟩ hX (aC (Rc eV) aN) ?_;obtain ⟨y3,Og,hr⟩:=af hr;refine ay [oH,⟨none,.call [.own (.bx (.st (.pair (.sl (.int .u8)) (.pair tI (.int .u64))))),.au tI] [⟨false,tI,y3.1⟩] [⟨(.bx (.st (.pair (.sl (.int .u8)) (.pair tI (.int .u64))))),[y3.2]⟩]⟩,oH,oH,oH,oH,oH] ⟨[(1,iV a1),(4,pV 0 0),(5,.one (.iy 1 0 3 0)),(6,pV 2 0)],[(2,.box [iC (al .i64 (1:Int) y3.1),iC a1,.ar,.ar,.ar]),(1,.seq (.st (.pair (.sl (.int .u8)) (.pair tI (.int .u64)))) ([y3.2])),(0,.box [iC (0:Int),iC (0:Int),.ar,.ar,.ar])],3⟩ hX (aC (LN Og) aN) ?_;obtain ⟨y5,JX,hr⟩:=af hr;refine ay [oH,oH,oH,⟨none,.call [.own (.bx (.st (.pair (.sl (.int .u8)) (.pair tI (.int .u64))))),.au tI] [⟨true,aY,y5.1⟩] [⟨(.bx (.st (.pair (.sl (.int .u8)) (.pair tI (.int .u64))))),[y5.2]⟩]⟩,oH] ⟨[(1,iV a1),(4,pV 0 0),(5,.one (.iy 1 0 3 0)),(6,pV 2 0),(7,aV 3)],[(1,.seq (.st (.pair (.sl (.int .u8)) (.pair tI (.int .u64)))) ([y5.2])),(3,.seq tF y5.1),(2,.box [iC (al .i64 (1:Int) y3.1),iC a1,.ar,.ar,.ar]),(0,.box [iC (0:Int),iC (0:Int),.ar,.ar,.ar])],4⟩ hX (aC (GX JX) aN) ?_;refine ay (aO 3) ⟨[(1,iV a1),(4,pV 0 0),(5,.one (.iy 1 0 3 0)),(6,pV 2 0)],[(2,.box [iC (al .i64 (1:Int) y3.1),iC a1,.all 3,.ar,.ar]),(1,.seq (.st (.pair (.sl (.int .u8)) (.pair tI (.int .u64)))) ([y5.2])),(3,.seq tF y5.1),(0,.box [iC (0:Int),iC (0:Int),.ar,.ar,.ar])],4⟩ hX aN ?_;refine HT.seq ?_;refine ay [oH] ⟨[(1,iV a1),(4,pV 0 0),(5,.one (.iy 1 0 3 0)),(6,pV 2 0),(8,iV (0:Int))],[(2,.box [iC (al .i64 (1:Int) y3.1),iC a1,.all 3,.ar,.ar]),(1,.seq (.st (.pair (.sl (.int .u8)) (.pair tI (.int .u64)))) ([y5.2])),(3,.seq tF y5.1),(0,.box [iC (0:Int),iC (0:Int),.ar,.ar,.ar])],4⟩ hX aN ?_;refine HT.block ?_;obtain ⟨r8,GY,hr⟩:=af hr;refine HT.ct (fun (s7:Int×(List Int×Int×Int)×List Nat×List Nat)=>⟨[(1,iV a1),(4,pV 0 0),(5,.one (.iy 1 0 3 0)),(6,pV 2 0),(8,iV s7.1)],[(0,.box [iC (0:Int),iC (0:Int),.ar,.ar,.ar]),(1,.seq (.st (.pair (.sl (.int .u8)) (.pair tI (.int .u64)))) ([s7.2.1])),(2,.box [iC (al .i64 (1:Int) y3.1),iC a1,.all 3,.all 4,.all 5]),(3,.seq tF y5.1),(4,.seq tF s7.2.2.1),(5,.seq tF s7.2.2.2)],6⟩) (fun (r9:(List Nat×List Nat))=>(.exit 0,⟨[(4,pV 0 0),(6,pV 1 0)],[(0,.box [iC (0:Int),iC (0:Int),.ar,.ar,.ar]),(1,.box [iC (al .i64 (1:Int) y3.1),iC a1,.all 2,.all 3,.all 4]),(2,.seq tF y5.1),(3,.seq tF r9.1),(4,.seq tF r9.2)],5⟩)) (Le.re [(0,0),(1,1),(2,2),(3,3)] [4,5] hX (by kernel_rfl)) GY ?_ (fun s7 ZX dE JY=> ?_);refine (aZ (aj ?_));refine ay (aO 2) ⟨[(4,pV 0 0)],[(0,.box [iC (al .i64 (1:Int) y3.1),iC a1,.all 2,.all 3,.all 4]),(2,.seq tF y5.1),(3,.seq tF r8.1),(4,.seq tF r8.2)],5⟩ hX aN ?_;have hr:=ae hr;subst hr;exact HT.ret (rO [.agg [iC (al .i64 (1:Int) y3.1),iC a1,.all 2,.all 3,.all 4]] [2,3,4] [] trivial);refine HT.seq ?_;refine ay (aO 4) ⟨[(1,iV a1),(4,pV 0 0),(5,.one (.iy 1 0 3 0)),(6,pV 2 0),(8,iV s7.1),(25,bV (decide (s7.1<(al .i64 (1:Int) y3.1))))],[(0,.box [iC (0:Int),iC (0:Int),.ar,.ar,.ar]),(1,.seq (.st (.pair (.sl (.int .u8)) (.pair tI (.int .u64)))) ([s7.2.1])),(2,.box [iC (al .i64 (1:Int) y3.1),iC a1,.all 3,.all 4,.all 5]),(3,.seq tF y5.1),(4,.seq tF s7.2.2.1),(5,.seq tF s7.2.2.2)],6⟩ hX aN ?_;rcases an dE with ⟨zZ,dE⟩|⟨zZ,dE⟩
 refine HT.aK rfl zZ ?_;refine HT.skip (aj ?_);refine HT.seq ?_;refine HT.block ?_;obtain ⟨o8,G1,dE⟩:=af dE;obtain ⟨tX,dE⟩:=ao dE;refine HT.D7 6 [o0,⟨oH,[0]⟩,o0,o0,⟨oH,[3]⟩,⟨⟨none,.call [.own (.bx (.st (.pair (.sl (.int .u8)) (.pair tI (.int .u64))))),.au tI] [⟨true,aY,o8.1⟩] [⟨(.bx (.st (.pair (.sl (.int .u8)) (.pair tI (.int .u64))))),[o8.2]⟩]⟩,[2,3,4]⟩] [(rL 6),(rL 7),(rL 8)] [⟨none,.ty tF⟩,oH,oH] ⟨[(1,iV a1),(4,pV 0 0),(5,.one (.iy 1 0 3 0)),(6,pV 2 0),(8,iV s7.1)],[(2,.box [iC (al .i64 (1:Int) y3.1),iC a1,.all 3,.all 7,.all 5]),(7,.seq tF (s7.2.2.1++o8.1)),(1,.seq (.st (.pair (.sl (.int .u8)) (.pair tI (.int .u64)))) ([o8.2])),(0,.box [iC (0:Int),iC (0:Int),.ar,.ar,.ar]),(3,.seq tF y5.1),(5,.seq tF s7.2.2.2)],8⟩ hX (by kernel_rfl) (by kernel_rfl) (aC (GX G1) (aC tX aN)) ?_;obtain ⟨m9,G0,dE⟩:=af dE;obtain ⟨LO,dE⟩:=ao dE;refine HT.PT 5 [o0,⟨oH,[0]⟩,o0,o0,⟨⟨none,.call [.own (.bx (.st (.pair (.sl (.int .u8)) (.pair tI (.int .u64))))),.au tI] [⟨true,aY,m9.1⟩] [⟨(.bx (.st (.pair (.sl (.int .u8)) (.pair tI (.int .u64))))),[m9.2]⟩]⟩,[2,3]⟩] [(rL 5),(rL 6),(rL 7)] [⟨none,.ty tF⟩,oH,oH] ⟨[(1,iV a1),(4,pV 0 0),(5,.one (.iy 1 0 3 0)),(6,pV 2 0),(8,iV s7.1)],[(2,.box [iC (al .i64 (1:Int) y3.1),iC a1,.all 3,.all 7,.all 9]),(9,.seq tF (s7.2.2.2++m9.1)),(1,.seq (.st (.pair (.sl (.int .u8)) (.pair tI (.int .u64)))) ([m9.2])),(7,.seq tF (s7.2.2.1++o8.1)),(0,.box [iC (0:Int),iC (0:Int),.ar,.ar,.ar]),(3,.seq tF y5.1)],10⟩ hX (by kernel_rfl) (by kernel_rfl) (aC (GX G0) (aC LO aN)) (bC (aj ?_));have dE:=ae dE;subst dE;exact HT.cR (aO 3) [(0,0),(1,1),(2,2),(3,3),(7,4),(9,5)] [] hX (by kernel_rfl) aN (fun _ h=>(bJ ⟨((al .i64 s7.1 (1:Int)),m9.2,(s7.2.2.1++o8.1),(s7.2.2.2++m9.1)),rfl,h⟩));refine HT.aJ rfl zZ ?_;have dE:=ae dE;subst dE;exact HT.cr (Le.re [(0,0),(2,1),(3,2),(4,3),(5,4)] [] hX (by kernel_rfl)) (bF (bI (JY (s7.2.2.1,s7.2.2.2) rfl)))
noncomputable def db (a0:Int)(a1:Int)(a2:Int):Option (Bool):=
 (show Option (Bool) from
  bif (decide (a0≥a1)) then
   some (decide (a0≤a2))
  else
   some false).bind fun v1=>
 some v1
theorem kR {a0:Int}{a1:Int}{a2:Int}{r:Bool}(hr:db a0 a1 a2=some r):CallOK Try.prog 64 [.au tI a0,.au tI a1,.au tI a2] [⟨false,.bool,r⟩] []:=by
 unfold db at hr;refine ij [(false,.bool)] Try.func64 rfl [] fun cx hX hF=> ?_;show HT cx ⟨[(0,iV a0),(1,iV a1),(2,iV a2)],[],0⟩ _ _;refine ay [oH] ⟨[(0,iV a0),(1,iV a1),(2,iV a2)],[],0⟩ hX aN ?_;obtain ⟨qW,bz,hr⟩:=af hr;refine HT.join (fun (v1:Bool)=>⟨[(6,bV v1)],[],0⟩) (fun v=>v=qW) (fun v1 ov=> ?_) (fun cont=> ?_);subst ov;have hr:=ae hr;subst hr;exact HT.ret (rO [bV v1] [] [] trivial);rcases an bz with ⟨dD,bz⟩|⟨dD,bz⟩
 exact HT.cR [oH,oH,oH,oH,oT,oT,oT,vT,oH] [] [] hX (by kernel_rfl) (aC dD (aC dD (aC dD (aC dD aN)))) (fun _ h=>(aj (h.ht (cont (decide (a0≤a2)) (ae bz)))));exact HT.cR [oH,oH,oH,oH,oF,oF,oF,vF,oH] [] [] hX (by kernel_rfl) (aC dD (aC dD (aC dD (aC dD aN)))) (fun _ h=>(aj (h.ht (cont false (ae bz)))))
noncomputable def ei (a0:List Nat)(a1:Int)(a2:Int):Option (List Nat):=
 az ((0:Int)≤(aU .i64 a2 a1)∧(aU .i64 a2 a1)≤(aU .i64 (al .i64 a2 (1:Int)) a1)∧(aU .i64 (al .i64 a2 (1:Int)) a1)≤(aU .i64 (al .i64 a2 (1:Int)) a1)∧(aU .i64 (al .i64 a2 (1:Int)) a1)≤ai a0) (
  some (cut a0 (aU .i64 a2 a1) (aU .i64 (al .i64 a2 (1:Int)) a1)))
theorem LP {a0:List Nat}{a1:Int}{a2:Int}{r:List Nat}(hr:ei a0 a1 a2=some r):CallOK Try.prog 88 [.au aY a0,.au tI a1,.au tI a2] [⟨false,aY,r⟩] []:=by
 unfold ei at hr;refine ij [(false,aY)] Try.func88 rfl [] fun cx hX hF=> ?_;show HT cx ⟨[(0,lV a0),(1,iV a1),(2,iV a2)],[],0⟩ _ _;refine ay [oH] ⟨[(0,lV a0),(1,iV a1),(2,iV a2)],[],0⟩ hX aN ?_;obtain ⟨uX,hr⟩:=ao hr;refine ay (aO 14) ⟨[(6,lV (cut a0 (aU .i64 a2 a1) (aU .i64 (al .i64 a2 (1:Int)) a1)))],[],0⟩ hX (aC uX aN) ?_;have hr:=ae hr;subst hr;exact HT.ret (rO [lV (cut a0 (aU .i64 a2 a1) (aU .i64 (al .i64 a2 (1:Int)) a1))] [] [] trivial)
noncomputable def mS (a0:List Nat)(s1:Nat×Int):Option ((Nat×Int)⊕(Nat)):=
 bif (decide (s1.2<(ai a0))) then
  az ((0:Int)≤s1.2∧s1.2<ai a0) (
   some (.inl ((av .add .f32 s1.1 (List.getD a0 (Int.toNat s1.2) (0:Nat))),(al .i64 s1.2 (1:Int)))))
 else
  some (.inr s1.1)
noncomputable def jA (a0:List Nat):Option (Nat):=
 (rounds (mS a0) ((0:Nat),(0:Int))).bind fun r3=>
 some r3
theorem Dh {a0:List Nat}{r:Nat}(hr:jA a0=some r):CallOK Try.prog 68 [.au aY a0] [⟨false,tF,r⟩] []:=by
 unfold jA at hr;refine ij [(false,tF)] Try.func68 rfl [] fun cx hX hF=> ?_;show HT cx ⟨[(0,lV a0)],[],0⟩ _ _;refine ay [oH] ⟨[(0,lV a0)],[],0⟩ hX aN ?_;refine ay [oH] ⟨[(0,lV a0),(3,fV (0:Nat))],[],0⟩ hX aN ?_;refine HT.seq ?_;refine ay (aO 3) ⟨[(3,fV (0:Nat)),(6,lV a0),(7,iV (ai a0)),(8,iV (0:Int))],[],0⟩ hX aN ?_;refine HT.block ?_;obtain ⟨r2,XH,hr⟩:=af hr;refine HT.ct (fun (s1:Nat×Int)=>⟨[(3,fV s1.1),(6,lV a0),(7,iV (ai a0)),(8,iV s1.2)],[],0⟩) (fun (r3:Nat)=>(.exit 0,⟨[(3,fV r3)],[],0⟩)) (Le.re [] [] hX (by kernel_rfl)) XH ?_ (fun s1 x4 rS UN=> ?_);refine (aZ (aj ?_));refine ay (aO 2) ⟨[(2,fV r2)],[],0⟩ hX aN ?_;have hr:=ae hr;subst hr;exact HT.ret (rO [fV r2] [] [] trivial);refine ay [oH] ⟨[(3,fV s1.1),(6,lV a0),(7,iV (ai a0)),(8,iV s1.2),(9,bV (decide (s1.2<(ai a0))))],[],0⟩ hX aN ?_;refine HT.seq ?_;rcases an rS with ⟨kQ,rS⟩|⟨kQ,rS⟩
 refine HT.aK rfl kQ ?_;refine HT.skip (aj ?_);refine HT.seq ?_;refine HT.block ?_;obtain ⟨PX,rS⟩:=ao rS;refine ay (aO 3) ⟨[(3,fV s1.1),(5,fV (List.getD a0 (Int.toNat s1.2) (0:Nat))),(6,lV a0),(7,iV (ai a0)),(8,iV s1.2)],[],0⟩ hX (aC PX aN) ?_;refine HT.xM (aO 4) ⟨[(3,fV (av .add .f32 s1.1 (List.getD a0 (Int.toNat s1.2) (0:Nat)))),(6,lV a0),(7,iV (ai a0)),(8,iV s1.2)],[],0⟩ hX (by kernel_rfl) aN (bC (aj ?_));have rS:=ae rS;subst rS;exact HT.cR (aO 2) [] [] hX (by kernel_rfl) aN (fun _ h=>(bJ ⟨((av .add .f32 s1.1 (List.getD a0 (Int.toNat s1.2) (0:Nat))),(al .i64 s1.2 (1:Int))),rfl,h⟩));refine HT.aJ rfl kQ ?_;have rS:=ae rS;subst rS;exact HT.cr (Le.re [] [] hX (by kernel_rfl)) (bF (bI (UN s1.1 rfl)))
noncomputable def kn (a0:Nat):Option (Nat):=
 bif (aX .f32 a0 (0:Nat)) then
  some (A7 .f32 a0)
 else
  some a0
theorem Rf {a0:Nat}{r:Nat}(hr:kn a0=some r):CallOK Try.prog 82 [.au tF a0] [⟨false,tF,r⟩] []:=by
 unfold kn at hr;refine ij [(false,tF)] Try.func82 rfl [] fun cx hX hF=> ?_;show HT cx ⟨[(0,fV a0)],[],0⟩ _ _;refine ay [oH] ⟨[(0,fV a0)],[],0⟩ hX aN ?_;refine HT.seq ?_;refine ay (aO 2) ⟨[(0,fV a0),(4,bV (aX .f32 a0 (0:Nat)))],[],0⟩ hX aN ?_;rcases an hr with ⟨rQ,hr⟩|⟨rQ,hr⟩
 refine HT.aK rfl rQ ?_;refine ay (aO 3) ⟨[(2,fV (A7 .f32 a0))],[],0⟩ hX aN ?_;have hr:=ae hr;subst hr;exact HT.ret (aM (rO [fV (A7 .f32 a0)] [] [] trivial));refine HT.aJ rfl rQ ?_;refine HT.skip (aj ?_);refine ay (aO 2) ⟨[(2,fV a0)],[],0⟩ hX aN ?_;have hr:=ae hr;subst hr;exact HT.ret (rO [fV a0] [] [] trivial)
noncomputable def iB (a0:List Nat)(s1:Int):Option ((Int)⊕(Unit⊕Unit)):=
 bif (decide (s1<(ai a0))) then
  az ((0:Int)≤s1∧s1<ai a0) (
   (show Option (Bool) from
    bif (rT .f32 (List.getD a0 (Int.toNat s1) (0:Nat)) (0:Nat)) then
     some (!(vm .f32 (List.getD a0 (Int.toNat s1) (0:Nat)) (1065353216:Nat)))
    else
     some true).bind fun V2=>
   bif V2 then
    some (.inr (.inr ()))
   else
    some (.inl (al .i64 s1 (1:Int))))
 else
  some (.inr (.inl ()))
noncomputable def iO (a0:List Nat):Option (Bool):=
 (rounds (iB a0) (0:Int)).bind fun r2=>match r2 with
  | .inl r3=>
   (jA a0).bind fun y4=>
   (kn (av .sub .f32 y4 (1065353216:Nat))).bind fun y6=>
   some (vm .f32 y6 (981668463:Nat))
  | .inr r8=>
   some false
theorem Oh {a0:List Nat}{r:Bool}(hr:iO a0=some r):CallOK Try.prog 107 [.au aY a0] [⟨false,.bool,r⟩] []:=by
 unfold iO at hr;refine ij [(false,.bool)] Try.func107 rfl [] fun cx hX hF=> ?_;show HT cx ⟨[(0,lV a0)],[],0⟩ _ _;refine ay [oH] ⟨[(0,lV a0)],[],0⟩ hX aN ?_;refine HT.seq ?_;refine ay (aO 3) ⟨[(0,lV a0),(5,lV a0),(6,iV (ai a0)),(7,iV (0:Int))],[],0⟩ hX aN ?_;refine HT.block ?_;obtain ⟨r2,Rh,hr⟩:=af hr;refine HT.ct (fun (s1:Int)=>⟨[(0,lV a0),(5,lV a0),(6,iV (ai a0)),(7,iV s1)],[],0⟩) (fun (r2:Unit⊕Unit)=>match r2 with| .inl r3=>(.exit 0,⟨[(0,lV a0)],[],0⟩)| .inr r8=>(.ret,⟨[(2,bV false)],[],0⟩)) (Le.re [] [] hX (by kernel_rfl)) Rh ?_ (fun s1 x9 cf wT=> ?_);rcases r2 with r3|r8
 refine (aZ (aj ?_));obtain ⟨y4,rI,hr⟩:=af hr;obtain ⟨y6,Oi,hr⟩:=af hr;refine ay [oH,⟨none,.call [.au aY] [⟨false,tF,y4⟩] []⟩,oH,⟨none,.call [.au tF] [⟨false,tF,y6⟩] []⟩,oH,oH] ⟨[(2,bV (vm .f32 y6 (981668463:Nat)))],[],0⟩ hX (aC (Dh rI) (aC (Rf Oi) aN)) ?_;have hr:=ae hr;subst hr;exact HT.ret (rO [bV (vm .f32 y6 (981668463:Nat))] [] [] trivial);have hr:=ae hr;subst hr;exact (bE (aM (rO [bV false] [] [] trivial)));refine ay [oH] ⟨[(0,lV a0),(5,lV a0),(6,iV (ai a0)),(7,iV s1),(8,bV (decide (s1<(ai a0))))],[],0⟩ hX aN ?_;refine HT.seq ?_;rcases an cf with ⟨cg,cf⟩|⟨cg,cf⟩
 refine HT.aK rfl cg ?_;refine HT.skip (aj ?_);refine HT.seq ?_;refine HT.block ?_;obtain ⟨wU,cf⟩:=ao cf;refine ay (aO 3) ⟨[(0,lV a0),(4,fV (List.getD a0 (Int.toNat s1) (0:Nat))),(5,lV a0),(6,iV (ai a0)),(7,iV s1)],[],0⟩ hX (aC wU aN) ?_;obtain ⟨XI,LQ,cf⟩:=af cf;refine HT.join (fun (V2:Bool)=>⟨[(0,lV a0),(5,lV a0),(6,iV (ai a0)),(7,iV s1),(17,bV V2)],[],0⟩) (fun v=>v=XI) (fun V2 XJ=> ?_) (fun cont=> ?_);subst XJ;rcases an cf with ⟨pE,cf⟩|⟨pE,cf⟩
 refine HT.aK rfl pE ?_;refine ay [oH] ⟨[(2,bV false)],[],0⟩ hX aN ?_;have cf:=ae cf;subst cf;exact HT.qV (Le.re [] [] hX (by kernel_rfl)) (bE (aM (iz (wT (.inr ()) rfl))));refine HT.aJ rfl pE ?_;refine HT.skip (bC (aj ?_));have cf:=ae cf;subst cf;exact HT.cR (aO 2) [] [] hX (by kernel_rfl) aN (fun _ h=>(bJ ⟨(al .i64 s1 (1:Int)),rfl,h⟩));rcases an LQ with ⟨nw,LQ⟩|⟨nw,LQ⟩
 exact HT.cR [oH,oH,oH,oT,oT,vT,oH] [] [] hX (by kernel_rfl) (aC nw (aC nw (aC nw aN))) (fun _ h=>(aj (h.ht (cont (!(vm .f32 (List.getD a0 (Int.toNat s1) (0:Nat)) (1065353216:Nat))) (ae LQ)))));exact HT.cR [oH,oH,oH,oF,oF,vF,oH] [] [] hX (by kernel_rfl) (aC nw (aC nw (aC nw aN))) (fun _ h=>(aj (h.ht (cont true (ae LQ)))));refine HT.aJ rfl cg ?_;have cf:=ae cf;subst cf;exact HT.cr (Le.re [] [] hX (by kernel_rfl)) (bF (bI (wT (.inl ()) rfl)))
noncomputable def kx (a0:List Nat)(a1:Int)(a2:Int)(s2:Int):Option ((Int)⊕(Unit⊕Unit)):=
 bif (decide (s2<a1)) then
  (ei a0 a2 s2).bind fun fP=>
  (iO fP).bind fun uJ=>
  bif (!uJ) then
   some (.inr (.inr ()))
  else
   some (.inl (al .i64 s2 (1:Int)))
 else
  some (.inr (.inl ()))
noncomputable def iD (a0:List Nat)(a1:Int)(a2:Int):Option (Bool):=
 bif ((ai a0) != (aU .i64 a1 a2)) then
  some false
 else
  (rounds (kx a0 a1 a2) (0:Int)).bind fun r3=>match r3 with
   | .inl r4=>
    some true
   | .inr r5=>
    some false
theorem wV {a0:List Nat}{a1:Int}{a2:Int}{r:Bool}(hr:iD a0 a1 a2=some r):CallOK Try.prog 65 [.au aY a0,.au tI a1,.au tI a2] [⟨false,.bool,r⟩] []:=by
 unfold iD at hr;refine ij [(false,.bool)] Try.func65 rfl [] fun cx hX hF=> ?_;show HT cx ⟨[(0,lV a0),(1,iV a1),(2,iV a2)],[],0⟩ _ _;refine ay [oH] ⟨[(0,lV a0),(1,iV a1),(2,iV a2)],[],0⟩ hX aN ?_;refine HT.seq ?_;refine ay (aO 6) ⟨[(0,lV a0),(1,iV a1),(2,iV a2),(13,bV ((ai a0) != (aU .i64 a1 a2)))],[],0⟩ hX aN ?_;rcases an hr with ⟨rQ,hr⟩|⟨rQ,hr⟩
 refine HT.aK rfl rQ ?_;refine ay [oH] ⟨[(6,bV false)],[],0⟩ hX aN ?_;have hr:=ae hr;subst hr;exact HT.ret (aM (rO [bV false] [] [] trivial));refine HT.aJ rfl rQ ?_;refine HT.skip (aj ?_);refine HT.seq ?_;refine ay (aO 2) ⟨[(0,lV a0),(2,iV a2),(14,iV a1),(15,iV (0:Int))],[],0⟩ hX aN ?_;refine HT.block ?_;obtain ⟨r3,G4,hr⟩:=af hr;refine HT.ct (fun (s2:Int)=>⟨[(0,lV a0),(2,iV a2),(14,iV a1),(15,iV s2)],[],0⟩) (fun (r3:Unit⊕Unit)=>match r3 with| .inl r4=>(.exit 0,⟨[],[],0⟩)| .inr r5=>(.ret,⟨[(6,bV false)],[],0⟩)) (Le.re [] [] hX (by kernel_rfl)) G4 ?_ (fun s2 x6 et Is=> ?_);rcases r3 with r4|r5
 refine (aZ (aj ?_));refine ay [oH] ⟨[(6,bV true)],[],0⟩ hX aN ?_;have hr:=ae hr;subst hr;exact HT.ret (rO [bV true] [] [] trivial);have hr:=ae hr;subst hr;exact (bE (aM (rO [bV false] [] [] trivial)));refine ay [oH] ⟨[(0,lV a0),(2,iV a2),(14,iV a1),(15,iV s2),(16,bV (decide (s2<a1)))],[],0⟩ hX aN ?_;refine HT.seq ?_;rcases an et with ⟨na,et⟩|⟨na,et⟩
 refine HT.aK rfl na ?_;refine HT.skip (aj ?_);refine HT.seq ?_;refine HT.block ?_;refine ay (aO 2) ⟨[(0,lV a0),(2,iV a2),(7,iV s2),(14,iV a1),(15,iV s2)],[],0⟩ hX aN ?_;obtain ⟨fP,pF,et⟩:=af et;obtain ⟨uJ,Aa,et⟩:=af et;refine ay [oH,oH,oH,⟨none,.call [.au aY,.au tI,.au tI] [⟨false,aY,fP⟩] []⟩,⟨none,.call [.au aY] [⟨false,.bool,uJ⟩] []⟩,oH] ⟨[(0,lV a0),(2,iV a2),(14,iV a1),(15,iV s2),(23,bV (!uJ))],[],0⟩ hX (aC (LP pF) (aC (Oh Aa) aN)) ?_;rcases an et with ⟨uK,et⟩|⟨uK,et⟩
 refine HT.aK rfl uK ?_;refine ay [oH] ⟨[(6,bV false)],[],0⟩ hX aN ?_;have et:=ae et;subst et;exact HT.qV (Le.re [] [] hX (by kernel_rfl)) (bE (aM (iz (Is (.inr ()) rfl))));refine HT.aJ rfl uK ?_;refine HT.skip (bC (aj ?_));have et:=ae et;subst et;exact HT.cR (aO 2) [] [] hX (by kernel_rfl) aN (fun _ h=>(bJ ⟨(al .i64 s2 (1:Int)),rfl,h⟩));refine HT.aJ rfl na ?_;have et:=ae et;subst et;exact HT.cr (Le.re [] [] hX (by kernel_rfl)) (bF (bI (Is (.inl ()) rfl)))
noncomputable def e7 (a0:eC):Option (Bool):=
 (show Option (Bool) from
  (db a0.1 (1:Int) (5:Int)).bind fun y4=>
  bif y4 then
   (db a0.2.1 (1:Int) (4:Int)).bind fun y7=>
   bif y7 then
    (iD a0.2.2.1 (1:Int) a0.1).bind fun fP=>
    bif fP then
     (iD a0.2.2.2.1 a0.1 a0.1).bind fun gp=>
     bif gp then
      (iD a0.2.2.2.2 a0.1 a0.2.1).bind fun Bq=>
      some Bq
     else
      some false
    else
     some false
   else
    some false
  else
   some false).bind fun v1=>
 some v1
theorem uL {a0:eC}{r:Bool}(hr:e7 a0=some r):CallOK Try.prog 20 [.au tM a0] [⟨false,.bool,r⟩] []:=by
 unfold e7 at hr;refine ij [(false,.bool)] Try.func20 rfl [] fun cx hX hF=> ?_;show HT cx ⟨[(0,.agg [iC a0.1,iC a0.2.1,lC a0.2.2.1,lC a0.2.2.2.1,lC a0.2.2.2.2])],[],0⟩ _ _;refine ay (aO 2) ⟨[(1,pV 0 0)],[(0,cb a0)],1⟩ hX aN ?_;obtain ⟨qW,bz,hr⟩:=af hr;refine HT.join (fun (v1:Bool)=>⟨[(2,bV v1)],[],0⟩) (fun v=>v=qW) (fun v1 ov=> ?_) (fun cont=> ?_);subst ov;have hr:=ae hr;subst hr;exact HT.ret (rO [bV v1] [] [] trivial);obtain ⟨y4,rI,bz⟩:=af bz;rcases an bz with ⟨gQ,bz⟩|⟨gQ,bz⟩
 obtain ⟨y7,BY,bz⟩:=af bz;rcases an bz with ⟨na,bz⟩|⟨na,bz⟩
 obtain ⟨fP,pF,bz⟩:=af bz;rcases an bz with ⟨cg,bz⟩|⟨cg,bz⟩
 obtain ⟨gp,Fa,bz⟩:=af bz;rcases an bz with ⟨iW,bz⟩|⟨iW,bz⟩
 obtain ⟨Bq,Ri,bz⟩:=af bz;exact HT.cR [oH,oH,⟨none,.call [.au tI,.au tI,.au tI] [⟨false,.bool,y4⟩] []⟩,oH,oT,oT,⟨some true,.call [.au tI,.au tI,.au tI] [⟨false,.bool,y7⟩] []⟩,vT,oH,oT,oT,oT,oT,⟨some true,.call [.au aY,.au tI,.au tI] [⟨false,.bool,fP⟩] []⟩,vT,oH,oT,oT,oT,oT,oT,oT,⟨some true,.call [.au aY,.au tI,.au tI] [⟨false,.bool,gp⟩] []⟩,vT,oH,oT,oT,oT,oT,oT,oT,⟨some true,.call [.au aY,.au tI,.au tI] [⟨false,.bool,Bq⟩] []⟩,vT,oH] [] [] hX (by kernel_rfl) (aC (kR rI) (aC gQ (aC gQ (aC gQ (aC (kR BY) (aC gQ (aC na (aC na (aC na (aC na (aC na (aC (wV pF) (aC na (aC cg (aC cg (aC cg (aC cg (aC cg (aC cg (aC cg (aC (wV Fa) (aC cg (aC iW (aC iW (aC iW (aC iW (aC iW (aC iW (aC iW (aC (wV Ri) (aC iW aN))))))))))))))))))))))))))))))) (fun _ h=>(aj (h.ht (cont Bq (ae bz)))));exact HT.cR [oH,oH,⟨none,.call [.au tI,.au tI,.au tI] [⟨false,.bool,y4⟩] []⟩,oH,oT,oT,⟨some true,.call [.au tI,.au tI,.au tI] [⟨false,.bool,y7⟩] []⟩,vT,oH,oT,oT,oT,oT,⟨some true,.call [.au aY,.au tI,.au tI] [⟨false,.bool,fP⟩] []⟩,vT,oH,oT,oT,oT,oT,oT,oT,⟨some true,.call [.au aY,.au tI,.au tI] [⟨false,.bool,gp⟩] []⟩,vT,oH,oF,oF,oF,oF,oF,oF,oF,vF,oH] [] [] hX (by kernel_rfl) (aC (kR rI) (aC gQ (aC gQ (aC gQ (aC (kR BY) (aC gQ (aC na (aC na (aC na (aC na (aC na (aC (wV pF) (aC na (aC cg (aC cg (aC cg (aC cg (aC cg (aC cg (aC cg (aC (wV Fa) (aC cg (aC iW (aC iW (aC iW (aC iW (aC iW (aC iW (aC iW (aC iW aN)))))))))))))))))))))))))))))) (fun _ h=>(aj (h.ht (cont false (ae bz)))));exact HT.cR [oH,oH,⟨none,.call [.au tI,.au tI,.au tI] [⟨false,.bool,y4⟩] []⟩,oH,oT,oT,⟨some true,.call [.au tI,.au tI,.au tI] [⟨false,.bool,y7⟩] []⟩,vT,oH,oT,oT,oT,oT,⟨some true,.call [.au aY,.au tI,.au tI] [⟨false,.bool,fP⟩] []⟩,vT,oH,oF,oF,oF,oF,oF,oF,oF,vF,oH,oF,oF,oF,oF,oF,oF,oF,vF,oH] [] [] hX (by kernel_rfl) (aC (kR rI) (aC gQ (aC gQ (aC gQ (aC (kR BY) (aC gQ (aC na (aC na (aC na (aC na (aC na (aC (wV pF) (aC na (aC cg (aC cg (aC cg (aC cg (aC cg (aC cg (aC cg (aC cg (aF (aF (aF (aF (aF (aF (aF (aF aN))))))))))))))))))))))))))))) (fun _ h=>(aj (h.ht (cont false (ae bz)))));exact HT.cR [oH,oH,⟨none,.call [.au tI,.au tI,.au tI] [⟨false,.bool,y4⟩] []⟩,oH,oT,oT,⟨some true,.call [.au tI,.au tI,.au tI] [⟨false,.bool,y7⟩] []⟩,vT,oH,oF,oF,oF,oF,oF,vF,oH,oF,oF,oF,oF,oF,oF,oF,vF,oH,oF,oF,oF,oF,oF,oF,oF,vF,oH] [] [] hX (by kernel_rfl) (aC (kR rI) (aC gQ (aC gQ (aC gQ (aC (kR BY) (aC gQ (aC na (aC na (aC na (aC na (aC na (aC na (aF (aF (aF (aF (aF (aF (aF (aF (aF (aF (aF (aF (aF (aF (aF (aF aN)))))))))))))))))))))))))))) (fun _ h=>(aj (h.ht (cont false (ae bz)))));exact HT.cR [oH,oH,⟨none,.call [.au tI,.au tI,.au tI] [⟨false,.bool,y4⟩] []⟩,oH,oF,oF,oF,vF,oH,oF,oF,oF,oF,oF,vF,oH,oF,oF,oF,oF,oF,oF,oF,vF,oH,oF,oF,oF,oF,oF,oF,oF,vF,oH] [] [] hX (by kernel_rfl) (aC (kR rI) (aC gQ (aC gQ (aC gQ (aC gQ (aF (aF (aF (aF (aF (aF (aF (aF (aF (aF (aF (aF (aF (aF (aF (aF (aF (aF (aF (aF (aF (aF aN))))))))))))))))))))))))))) (fun _ h=>(aj (h.ht (cont false (ae bz)))))
noncomputable def dF (a0:List Int)(a1:Int)(a2:Int)(s1:Int):Option ((Int)⊕(Unit⊕Unit)):=
 bif (decide (s1<(ai a0))) then
  az ((0:Int)≤s1∧s1<ai a0) (
   (db (List.getD a0 (Int.toNat s1) (0:Int)) a1 a2).bind fun fP=>
   bif (!fP) then
    some (.inr (.inr ()))
   else
    some (.inl (al .i64 s1 (1:Int))))
 else
  some (.inr (.inl ()))
noncomputable def eD (a0:List Int)(a1:Int)(a2:Int):Option (Bool):=
 (rounds (dF a0 a1 a2) (0:Int)).bind fun r2=>match r2 with
  | .inl r3=>
   some true
  | .inr r4=>
   some false
theorem It {a0:List Int}{a1:Int}{a2:Int}{r:Bool}(hr:eD a0 a1 a2=some r):CallOK Try.prog 117 [.au bM a0,.au tI a1,.au tI a2] [⟨false,.bool,r⟩] []:=by
 unfold eD at hr;refine ij [(false,.bool)] Try.func117 rfl [] fun cx hX hF=> ?_;show HT cx ⟨[(0,nV a0),(1,iV a1),(2,iV a2)],[],0⟩ _ _;refine ay [oH] ⟨[(0,nV a0),(1,iV a1),(2,iV a2)],[],0⟩ hX aN ?_;refine HT.seq ?_;refine ay (aO 3) ⟨[(1,iV a1),(2,iV a2),(9,nV a0),(10,iV (ai a0)),(11,iV (0:Int))],[],0⟩ hX aN ?_;refine HT.block ?_;obtain ⟨r2,Di,hr⟩:=af hr;refine HT.ct (fun (s1:Int)=>⟨[(1,iV a1),(2,iV a2),(9,nV a0),(10,iV (ai a0)),(11,iV s1)],[],0⟩) (fun (r2:Unit⊕Unit)=>match r2 with| .inl r3=>(.exit 0,⟨[],[],0⟩)| .inr r4=>(.ret,⟨[(6,bV false)],[],0⟩)) (Le.re [] [] hX (by kernel_rfl)) Di ?_ (fun s1 x5 dm BZ=> ?_);rcases r2 with r3|r4
 refine (aZ (aj ?_));refine ay [oH] ⟨[(6,bV true)],[],0⟩ hX aN ?_;have hr:=ae hr;subst hr;exact HT.ret (rO [bV true] [] [] trivial);have hr:=ae hr;subst hr;exact (bE (aM (rO [bV false] [] [] trivial)));refine ay [oH] ⟨[(1,iV a1),(2,iV a2),(9,nV a0),(10,iV (ai a0)),(11,iV s1),(12,bV (decide (s1<(ai a0))))],[],0⟩ hX aN ?_;refine HT.seq ?_;rcases an dm with ⟨iN,dm⟩|⟨iN,dm⟩
 refine HT.aK rfl iN ?_;refine HT.skip (aj ?_);refine HT.seq ?_;refine HT.block ?_;obtain ⟨LR,dm⟩:=ao dm;refine ay (aO 3) ⟨[(1,iV a1),(2,iV a2),(8,iV (List.getD a0 (Int.toNat s1) (0:Int))),(9,nV a0),(10,iV (ai a0)),(11,iV s1)],[],0⟩ hX (aC LR aN) ?_;obtain ⟨fP,pF,dm⟩:=af dm;refine ay [oH,oH,oH,⟨none,.call [.au tI,.au tI,.au tI] [⟨false,.bool,fP⟩] []⟩,oH] ⟨[(1,iV a1),(2,iV a2),(9,nV a0),(10,iV (ai a0)),(11,iV s1),(19,bV (!fP))],[],0⟩ hX (aC (kR pF) aN) ?_;rcases an dm with ⟨cg,dm⟩|⟨cg,dm⟩
 refine HT.aK rfl cg ?_;refine ay [oH] ⟨[(6,bV false)],[],0⟩ hX aN ?_;have dm:=ae dm;subst dm;exact HT.qV (Le.re [] [] hX (by kernel_rfl)) (bE (aM (iz (BZ (.inr ()) rfl))));refine HT.aJ rfl cg ?_;refine HT.skip (bC (aj ?_));have dm:=ae dm;subst dm;exact HT.cR (aO 2) [] [] hX (by kernel_rfl) aN (fun _ h=>(bJ ⟨(al .i64 s1 (1:Int)),rfl,h⟩));refine HT.aJ rfl iN ?_;have dm:=ae dm;subst dm;exact HT.cr (Le.re [] [] hX (by kernel_rfl)) (bF (bI (BZ (.inl ()) rfl)))
noncomputable def lq (a0:List Int)(a1:Int):Option (Bool):=
 (show Option (Bool) from
  (db a1 (1:Int) (4:Int)).bind fun y4=>
  bif y4 then
   bif (decide ((ai a0)≤(12:Int))) then
    (eD a0 (0:Int) (lO .i64 a1 (1:Int))).bind fun y8=>
    some y8
   else
    some false
  else
   some false).bind fun v1=>
 some v1
theorem Iu {a0:List Int}{a1:Int}{r:Bool}(hr:lq a0 a1=some r):CallOK Try.prog 103 [.au bM a0,.au tI a1] [⟨false,.bool,r⟩] []:=by
 unfold lq at hr;refine ij [(false,.bool)] Try.func103 rfl [] fun cx hX hF=> ?_;show HT cx ⟨[(0,nV a0),(1,iV a1)],[],0⟩ _ _;refine ay [oH] ⟨[(0,nV a0),(1,iV a1)],[],0⟩ hX aN ?_;obtain ⟨qW,bz,hr⟩:=af hr;refine HT.join (fun (v1:Bool)=>⟨[(4,bV v1)],[],0⟩) (fun v=>v=qW) (fun v1 ov=> ?_) (fun cont=> ?_);subst ov;have hr:=ae hr;subst hr;exact HT.ret (rO [bV v1] [] [] trivial);obtain ⟨y4,rI,bz⟩:=af bz;rcases an bz with ⟨gQ,bz⟩|⟨gQ,bz⟩
 rcases an bz with ⟨kQ,bz⟩|⟨kQ,bz⟩
 obtain ⟨y8,XK,bz⟩:=af bz;exact HT.cR [oH,⟨none,.call [.au tI,.au tI,.au tI] [⟨false,.bool,y4⟩] []⟩,oH,oT,oT,oT,vT,oH,oT,oT,oT,⟨some true,.call [.au bM,.au tI,.au tI] [⟨false,.bool,y8⟩] []⟩,vT,oH] [] [] hX (by kernel_rfl) (aC (kR rI) (aC gQ (aC gQ (aC gQ (aC gQ (aC kQ (aC kQ (aC kQ (aC kQ (aC (It XK) (aC kQ aN))))))))))) (fun _ h=>(aj (h.ht (cont y8 (ae bz)))));exact HT.cR [oH,⟨none,.call [.au tI,.au tI,.au tI] [⟨false,.bool,y4⟩] []⟩,oH,oT,oT,oT,vT,oH,oF,oF,oF,oF,vF,oH] [] [] hX (by kernel_rfl) (aC (kR rI) (aC gQ (aC gQ (aC gQ (aC gQ (aC kQ (aC kQ (aC kQ (aC kQ (aC kQ aN)))))))))) (fun _ h=>(aj (h.ht (cont false (ae bz)))));exact HT.cR [oH,⟨none,.call [.au tI,.au tI,.au tI] [⟨false,.bool,y4⟩] []⟩,oH,oF,oF,oF,vF,oH,oF,oF,oF,oF,vF,oH] [] [] hX (by kernel_rfl) (aC (kR rI) (aC gQ (aC gQ (aC gQ (aC gQ (aF (aF (aF (aF (aF aN)))))))))) (fun _ h=>(aj (h.ht (cont false (ae bz)))))
noncomputable def jQ (a0:List (List Int))(a1:Int)(s1:Int):Option ((Int)⊕(Unit⊕Unit)):=
 bif (decide (s1<(ai a0))) then
  az ((0:Int)≤s1∧s1<ai a0) (
   (lq (List.getD a0 (Int.toNat s1) ([]:List Int)) a1).bind fun fP=>
   bif (!fP) then
    some (.inr (.inr ()))
   else
    some (.inl (al .i64 s1 (1:Int))))
 else
  some (.inr (.inl ()))
noncomputable def mT (a0:List (List Int))(a1:Int):Option (Bool):=
 (rounds (jQ a0 a1) (0:Int)).bind fun r2=>match r2 with
  | .inl r3=>
   some true
  | .inr r4=>
   some false
theorem Oj {a0:List (List Int)}{a1:Int}{r:Bool}(hr:mT a0 a1=some r):CallOK Try.prog 112 [.au (.sl bM) a0,.au tI a1] [⟨false,.bool,r⟩] []:=by
 unfold mT at hr;refine ij [(false,.bool)] Try.func112 rfl [] fun cx hX hF=> ?_;show HT cx ⟨[(0,.one (.aq (.sl bM) a0)),(1,iV a1)],[],0⟩ _ _;refine ay [oH] ⟨[(0,.one (.aq (.sl bM) a0)),(1,iV a1)],[],0⟩ hX aN ?_;refine HT.seq ?_;refine ay (aO 3) ⟨[(1,iV a1),(7,.one (.aq (.sl bM) a0)),(8,iV (ai a0)),(9,iV (0:Int))],[],0⟩ hX aN ?_;refine HT.block ?_;obtain ⟨r2,Di,hr⟩:=af hr;refine HT.ct (fun (s1:Int)=>⟨[(1,iV a1),(7,.one (.aq (.sl bM) a0)),(8,iV (ai a0)),(9,iV s1)],[],0⟩) (fun (r2:Unit⊕Unit)=>match r2 with| .inl r3=>(.exit 0,⟨[],[],0⟩)| .inr r4=>(.ret,⟨[(4,bV false)],[],0⟩)) (Le.re [] [] hX (by kernel_rfl)) Di ?_ (fun s1 x5 dm BZ=> ?_);rcases r2 with r3|r4
 refine (aZ (aj ?_));refine ay [oH] ⟨[(4,bV true)],[],0⟩ hX aN ?_;have hr:=ae hr;subst hr;exact HT.ret (rO [bV true] [] [] trivial);have hr:=ae hr;subst hr;exact (bE (aM (rO [bV false] [] [] trivial)));refine ay [oH] ⟨[(1,iV a1),(7,.one (.aq (.sl bM) a0)),(8,iV (ai a0)),(9,iV s1),(10,bV (decide (s1<(ai a0))))],[],0⟩ hX aN ?_;refine HT.seq ?_;rcases an dm with ⟨iN,dm⟩|⟨iN,dm⟩
 refine HT.aK rfl iN ?_;refine HT.skip (aj ?_);refine HT.seq ?_;refine HT.block ?_;obtain ⟨LR,dm⟩:=ao dm;refine ay (aO 3) ⟨[(1,iV a1),(6,nV (List.getD a0 (Int.toNat s1) ([]:List Int))),(7,.one (.aq (.sl bM) a0)),(8,iV (ai a0)),(9,iV s1)],[],0⟩ hX (aC LR aN) ?_;obtain ⟨fP,pF,dm⟩:=af dm;refine ay [oH,oH,⟨none,.call [.au bM,.au tI] [⟨false,.bool,fP⟩] []⟩,oH] ⟨[(1,iV a1),(7,.one (.aq (.sl bM) a0)),(8,iV (ai a0)),(9,iV s1),(16,bV (!fP))],[],0⟩ hX (aC (Iu pF) aN) ?_;rcases an dm with ⟨cg,dm⟩|⟨cg,dm⟩
 refine HT.aK rfl cg ?_;refine ay [oH] ⟨[(4,bV false)],[],0⟩ hX aN ?_;have dm:=ae dm;subst dm;exact HT.qV (Le.re [] [] hX (by kernel_rfl)) (bE (aM (iz (BZ (.inr ()) rfl))));refine HT.aJ rfl cg ?_;refine HT.skip (bC (aj ?_));have dm:=ae dm;subst dm;exact HT.cR (aO 2) [] [] hX (by kernel_rfl) aN (fun _ h=>(bJ ⟨(al .i64 s1 (1:Int)),rfl,h⟩));refine HT.aJ rfl iN ?_;have dm:=ae dm;subst dm;exact HT.cr (Le.re [] [] hX (by kernel_rfl)) (bF (bI (BZ (.inl ()) rfl)))
noncomputable def cw (a0:eC)(a1:List (List Int)):Option (Bool):=
 (show Option (Bool) from
  (e7 (a0.1,a0.2.1,a0.2.2.1,a0.2.2.2.1,a0.2.2.2.2)).bind fun y4=>
  bif y4 then
   bif (decide ((ai a1)≥(1:Int))) then
    bif (decide ((ai a1)≤(16:Int))) then
     (mT a1 a0.2.1).bind fun y9=>
     some y9
    else
     some false
   else
    some false
  else
   some false).bind fun v1=>
 some v1
theorem wW {a0:eC}{a1:List (List Int)}{r:Bool}(hr:cw a0 a1=some r):CallOK Try.prog 70 [.au tM a0,.au (.sl bM) a1] [⟨false,.bool,r⟩] []:=by
 unfold cw at hr;refine ij [(false,.bool)] Try.func70 rfl [] fun cx hX hF=> ?_;show HT cx ⟨[(0,.agg [iC a0.1,iC a0.2.1,lC a0.2.2.1,lC a0.2.2.2.1,lC a0.2.2.2.2]),(1,.one (.aq (.sl bM) a1))],[],0⟩ _ _;refine ay (aO 2) ⟨[(1,.one (.aq (.sl bM) a1)),(2,pV 0 0)],[(0,cb a0)],1⟩ hX aN ?_;obtain ⟨qW,bz,hr⟩:=af hr;refine HT.join (fun (v1:Bool)=>⟨[(4,bV v1)],[],0⟩) (fun v=>v=qW) (fun v1 ov=> ?_) (fun cont=> ?_);subst ov;have hr:=ae hr;subst hr;exact HT.ret (rO [bV v1] [] [] trivial);obtain ⟨y4,rI,bz⟩:=af bz;rcases an bz with ⟨gQ,bz⟩|⟨gQ,bz⟩
 rcases an bz with ⟨kQ,bz⟩|⟨kQ,bz⟩
 rcases an bz with ⟨iN,bz⟩|⟨iN,bz⟩
 obtain ⟨y9,tW,bz⟩:=af bz;exact HT.cR [oH,⟨none,.call [.au tM] [⟨false,.bool,y4⟩] []⟩,oH,oT,oT,oT,vT,oH,oT,oT,oT,vT,oH,oT,oT,oT,⟨some true,.call [.au (.sl bM),.au tI] [⟨false,.bool,y9⟩] []⟩,vT,oH] [] [] hX (by kernel_rfl) (aC (uL rI) (aC gQ (aC gQ (aC gQ (aC gQ (aC kQ (aC kQ (aC kQ (aC kQ (aC iN (aC iN (aC iN (aC iN (aC (Oj tW) (aC iN aN))))))))))))))) (fun _ h=>(aj (h.ht (cont y9 (ae bz)))));exact HT.cR [oH,⟨none,.call [.au tM] [⟨false,.bool,y4⟩] []⟩,oH,oT,oT,oT,vT,oH,oT,oT,oT,vT,oH,oF,oF,oF,oF,vF,oH] [] [] hX (by kernel_rfl) (aC (uL rI) (aC gQ (aC gQ (aC gQ (aC gQ (aC kQ (aC kQ (aC kQ (aC kQ (aC iN (aC iN (aC iN (aC iN (aC iN aN)))))))))))))) (fun _ h=>(aj (h.ht (cont false (ae bz)))));exact HT.cR [oH,⟨none,.call [.au tM] [⟨false,.bool,y4⟩] []⟩,oH,oT,oT,oT,vT,oH,oF,oF,oF,vF,oH,oF,oF,oF,oF,vF,oH] [] [] hX (by kernel_rfl) (aC (uL rI) (aC gQ (aC gQ (aC gQ (aC gQ (aC kQ (aC kQ (aC kQ (aC kQ (aF (aF (aF (aF (aF aN)))))))))))))) (fun _ h=>(aj (h.ht (cont false (ae bz)))));exact HT.cR [oH,⟨none,.call [.au tM] [⟨false,.bool,y4⟩] []⟩,oH,oF,oF,oF,vF,oH,oF,oF,oF,vF,oH,oF,oF,oF,oF,vF,oH] [] [] hX (by kernel_rfl) (aC (uL rI) (aC gQ (aC gQ (aC gQ (aC gQ (aF (aF (aF (aF (aF (aF (aF (aF (aF aN)))))))))))))) (fun _ h=>(aj (h.ht (cont false (ae bz)))))
noncomputable def jB (a0:eC)(a1:List Int):Option (Bool):=
 (show Option (Bool) from
  (e7 (a0.1,a0.2.1,a0.2.2.1,a0.2.2.2.1,a0.2.2.2.2)).bind fun y4=>
  bif y4 then
   (lq a1 a0.2.1).bind fun y7=>
   some y7
  else
   some false).bind fun v1=>
 some v1
theorem Rj {a0:eC}{a1:List Int}{r:Bool}(hr:jB a0 a1=some r):CallOK Try.prog 55 [.au tM a0,.au bM a1] [⟨false,.bool,r⟩] []:=by
 unfold jB at hr;refine ij [(false,.bool)] Try.func55 rfl [] fun cx hX hF=> ?_;show HT cx ⟨[(0,.agg [iC a0.1,iC a0.2.1,lC a0.2.2.1,lC a0.2.2.2.1,lC a0.2.2.2.2]),(1,nV a1)],[],0⟩ _ _;refine ay (aO 2) ⟨[(1,nV a1),(2,pV 0 0)],[(0,cb a0)],1⟩ hX aN ?_;obtain ⟨qW,bz,hr⟩:=af hr;refine HT.join (fun (v1:Bool)=>⟨[(4,bV v1)],[],0⟩) (fun v=>v=qW) (fun v1 ov=> ?_) (fun cont=> ?_);subst ov;have hr:=ae hr;subst hr;exact HT.ret (rO [bV v1] [] [] trivial);obtain ⟨y4,rI,bz⟩:=af bz;rcases an bz with ⟨gQ,bz⟩|⟨gQ,bz⟩
 obtain ⟨y7,BY,bz⟩:=af bz;exact HT.cR [oH,⟨none,.call [.au tM] [⟨false,.bool,y4⟩] []⟩,oH,oT,oT,oT,⟨some true,.call [.au bM,.au tI] [⟨false,.bool,y7⟩] []⟩,vT,oH] [] [] hX (by kernel_rfl) (aC (uL rI) (aC gQ (aC gQ (aC gQ (aC gQ (aC (Iu BY) (aC gQ aN))))))) (fun _ h=>(aj (h.ht (cont y7 (ae bz)))));exact HT.cR [oH,⟨none,.call [.au tM] [⟨false,.bool,y4⟩] []⟩,oH,oF,oF,oF,oF,vF,oH] [] [] hX (by kernel_rfl) (aC (uL rI) (aC gQ (aC gQ (aC gQ (aC gQ (aC gQ aN)))))) (fun _ h=>(aj (h.ht (cont false (ae bz)))))
theorem wX {xs y:List Nat}(h:cc xs=some y):CallOK Try.prog 57 [.au aY xs] [⟨true,aY,y⟩] []:=by
 obtain ⟨hg,h⟩:=ao h;have h:=ae h;subst h;refine CallOK.vv (ts:=[(true,aY)]) Try.func57 rfl (by kernel_rfl) (Nat.le_of_ble_eq_true (by kernel_rfl)) fun cx hP hN hO hF=> ?_;show HT cx ⟨[(0,.one (.aq aY xs))],[],0⟩ _ _;refine HT.Q1 [0] [⟨none,.no⟩] ⟨[(0,.one (.aq aY xs))],[],0⟩ hP hN (by kernel_rfl) aN ?_;refine HT.seq ?_;refine HT.isNil (t3:=3) (t4:=4) (v:= .one (.aq aY xs)) (t:=tF) (xs:=xs) (st1:=⟨[(3,.one (.aq aY xs)),(0,.one (.aq aY xs))],[],0⟩) hP hN (by kernel_rfl) rfl rfl rfl rfl (e:=23) (by kernel_rfl) rfl rfl (fun b hb=> ?_);show HT cx ⟨[(4,.one (.aq .bool b)),(3,.one (.aq aY xs)),(0,.one (.aq aY xs))],[],0⟩ _ _;cases b with
 |true=>
  have e:=hb rfl;subst e;refine HT.aK rfl rfl ?_;refine HT.Q1 [2] [⟨none,.no⟩] ⟨[(2,.one .ar)],[],0⟩ hP hN (by kernel_rfl) aN ?_;exact HT.ret (aM (rO [.one .ar] [] [] trivial))
 |false=>
  refine HT.aJ rfl rfl ?_;refine HT.skip (aj ?_);refine HT.Q1 [2] [⟨none,.no⟩,⟨none,.no⟩,⟨none,.ty tF⟩,⟨none,.no⟩] ⟨[(2,.one (.all 0))],[(0,.seq tF xs)],1⟩ hP hN (by kernel_rfl) (aC hg aN) ?_;exact HT.ret (rO [.one (.all 0)] [0] [] trivial)
noncomputable def cP (a0:Nat):Option (Bool):=
 some (pz .f32 (av .sub .f32 a0 a0) (0:Nat))
theorem G5 {a0:Nat}{r:Bool}(hr:cP a0=some r):CallOK Try.prog 84 [.au tF a0] [⟨false,.bool,r⟩] []:=by
 unfold cP at hr;refine ij [(false,.bool)] Try.func84 rfl [] fun cx hX hF=> ?_;show HT cx ⟨[(0,fV a0)],[],0⟩ _ _;refine ay [oH] ⟨[(0,fV a0)],[],0⟩ hX aN ?_;refine ay (aO 5) ⟨[(2,bV (pz .f32 (av .sub .f32 a0 a0) (0:Nat)))],[],0⟩ hX aN ?_;have hr:=ae hr;subst hr;exact HT.ret (rO [bV (pz .f32 (av .sub .f32 a0 a0) (0:Nat))] [] [] trivial)
noncomputable def iw (a0:Nat):Option (Nat×Bool):=
 (cP a0).bind fun y1=>
 bif (!y1) then
  some ((0:Nat),false)
 else
  some (a0,true)
theorem LS {a0:Nat}{r:Nat×Bool}(hr:iw a0=some r):CallOK Try.prog 50 [.au tF a0] [⟨false,tF,r.1⟩,⟨false,.bool,r.2⟩] []:=by
 unfold iw at hr;refine ij [(false,tF),(false,.bool)] Try.func50 rfl [] fun cx hX hF=> ?_;show HT cx ⟨[(0,fV a0)],[],0⟩ _ _;refine ay (aO 2) ⟨[(0,fV a0)],[],0⟩ hX aN ?_;refine HT.seq ?_;obtain ⟨y1,eV,hr⟩:=af hr;refine ay [oH,⟨none,.call [.au tF] [⟨false,.bool,y1⟩] []⟩,oH] ⟨[(0,fV a0),(6,bV (!y1))],[],0⟩ hX (aC (G5 eV) aN) ?_;rcases an hr with ⟨m6,hr⟩|⟨m6,hr⟩
 refine HT.aK rfl m6 ?_;refine ay (aO 2) ⟨[(2,fV (0:Nat)),(3,bV false)],[],0⟩ hX aN ?_;have hr:=ae hr;subst hr;exact HT.ret (aM (rO [fV (0:Nat),bV false] [] [] trivial));refine HT.aJ rfl m6 ?_;refine HT.skip (aj ?_);refine ay (aO 3) ⟨[(2,fV a0),(3,bV true)],[],0⟩ hX aN ?_;have hr:=ae hr;subst hr;exact HT.ret (rO [fV a0,bV true] [] [] trivial)
noncomputable def cC (a0:eC)(a1:Int)(a2:Int):Option (Nat):=
 az ((0:Int)≤(al .i64 (aU .i64 a1 a0.2.1) a2)∧(al .i64 (aU .i64 a1 a0.2.1) a2)<ai a0.2.2.2.2) (
  some (List.getD a0.2.2.2.2 (Int.toNat (al .i64 (aU .i64 a1 a0.2.1) a2)) (0:Nat)))
theorem Dj {a0:eC}{a1:Int}{a2:Int}{r:Nat}(hr:cC a0 a1 a2=some r):CallOK Try.prog 58 [.au tM a0,.au tI a1,.au tI a2] [⟨false,tF,r⟩] []:=by
 unfold cC at hr;refine ij [(false,tF)] Try.func58 rfl [] fun cx hX hF=> ?_;show HT cx ⟨[(0,.agg [iC a0.1,iC a0.2.1,lC a0.2.2.1,lC a0.2.2.2.1,lC a0.2.2.2.2]),(1,iV a1),(2,iV a2)],[],0⟩ _ _;refine ay (aO 2) ⟨[(1,iV a1),(2,iV a2),(3,pV 0 0)],[(0,cb a0)],1⟩ hX aN ?_;obtain ⟨uX,hr⟩:=ao hr;refine ay (aO 11) ⟨[(6,fV (List.getD a0.2.2.2.2 (Int.toNat (al .i64 (aU .i64 a1 a0.2.1) a2)) (0:Nat)))],[],1⟩ hX (aC uX aN) ?_;have hr:=ae hr;subst hr;exact HT.ret (rO [fV (List.getD a0.2.2.2.2 (Int.toNat (al .i64 (aU .i64 a1 a0.2.1) a2)) (0:Nat))] [] [] trivial)
noncomputable def dS (a0:eC)(a1:Int)(a2:Int):Option (Nat):=
 az ((0:Int)≤(al .i64 (aU .i64 a1 a0.1) a2)∧(al .i64 (aU .i64 a1 a0.1) a2)<ai a0.2.2.2.1) (
  some (List.getD a0.2.2.2.1 (Int.toNat (al .i64 (aU .i64 a1 a0.1) a2)) (0:Nat)))
theorem G6 {a0:eC}{a1:Int}{a2:Int}{r:Nat}(hr:dS a0 a1 a2=some r):CallOK Try.prog 86 [.au tM a0,.au tI a1,.au tI a2] [⟨false,tF,r⟩] []:=by
 unfold dS at hr;refine ij [(false,tF)] Try.func86 rfl [] fun cx hX hF=> ?_;show HT cx ⟨[(0,.agg [iC a0.1,iC a0.2.1,lC a0.2.2.1,lC a0.2.2.2.1,lC a0.2.2.2.2]),(1,iV a1),(2,iV a2)],[],0⟩ _ _;refine ay (aO 2) ⟨[(1,iV a1),(2,iV a2),(3,pV 0 0)],[(0,cb a0)],1⟩ hX aN ?_;obtain ⟨uX,hr⟩:=ao hr;refine ay (aO 11) ⟨[(6,fV (List.getD a0.2.2.2.1 (Int.toNat (al .i64 (aU .i64 a1 a0.1) a2)) (0:Nat)))],[],1⟩ hX (aC uX aN) ?_;have hr:=ae hr;subst hr;exact HT.ret (rO [fV (List.getD a0.2.2.2.1 (Int.toNat (al .i64 (aU .i64 a1 a0.1) a2)) (0:Nat))] [] [] trivial)
noncomputable def fZ (a0:eC)(a1:List Nat)(a2:Int)(s2:Int×List Nat)(s9:Int×List Nat):Option ((Int×List Nat)⊕(List Nat)):=
 bif (decide (s9.1<a0.1)) then
  az ((0:Int)≤s2.1∧s2.1<ai s9.2) (
   az ((0:Int)≤s9.1∧s9.1<ai a1) (
    (cC (a0.1,a0.2.1,a0.2.2.1,a0.2.2.2.1,a0.2.2.2.2) s9.1 a2).bind fun yC=>
    (dS (a0.1,a0.2.1,a0.2.2.1,a0.2.2.2.1,a0.2.2.2.2) s9.1 s2.1).bind fun JZ=>
    some (.inl ((al .i64 s9.1 (1:Int)),(List.set s9.2 (Int.toNat s2.1) (av .add .f32 (List.getD s9.2 (Int.toNat s2.1) (0:Nat)) (av .mul .f32 (av .mul .f32 (List.getD a1 (Int.toNat s9.1) (0:Nat)) yC) JZ)))))))
 else
  some (.inr s9.2)
noncomputable def ga (a0:eC)(a1:List Nat)(a2:Int)(s2:Int×List Nat):Option ((Int×List Nat)⊕(List Nat)):=
 bif (decide (s2.1<a0.1)) then
  (rounds (fZ a0 a1 a2 s2) ((0:Int),s2.2)).bind fun Fb=>
  some (.inl ((al .i64 s2.1 (1:Int)),Fb))
 else
  some (.inr s2.2)
noncomputable def ej (a0:eC)(a1:List Nat)(a2:Int):Option (List Nat):=
 az ((0:Int)≤a0.1∧a0.1≤4294967296) (
  (rounds (ga a0 a1 a2) ((0:Int),(List.replicate (Int.toNat a0.1) (0:Nat)))).bind fun r4=>
  some r4)
theorem LU {a0:eC}{a1:List Nat}{a2:Int}{r:List Nat}(hr:ej a0 a1 a2=some r):CallOK Try.prog 59 [.au tM a0,.au aY a1,.au tI a2] [⟨true,aY,r⟩] []:=by
 unfold ej at hr;refine ij [(true,aY)] Try.func59 rfl [] fun cx hX hF=> ?_;show HT cx ⟨[(0,.agg [iC a0.1,iC a0.2.1,lC a0.2.2.1,lC a0.2.2.2.1,lC a0.2.2.2.2]),(1,lV a1),(2,iV a2)],[],0⟩ _ _;refine ay (aO 2) ⟨[(1,lV a1),(2,iV a2),(3,pV 0 0)],[(0,cb a0)],1⟩ hX aN ?_;obtain ⟨uX,hr⟩:=ao hr;refine ay [oH,oH,⟨none,.ty tF⟩,oH] ⟨[(1,lV a1),(2,iV a2),(3,pV 0 0),(7,aV 1)],[(1,.seq tF (List.replicate (Int.toNat a0.1) (0:Nat))),(0,cb a0)],2⟩ hX (aC (show (0:Int)≤a0.1∧a0.1≤a0.1∧a0.1≤4294967296 from ⟨uX.1,Int.le_refl _,uX.2⟩) aN) ?_;refine HT.seq ?_;refine ay (aO 3) ⟨[(1,lV a1),(2,iV a2),(3,pV 0 0),(7,aV 1),(14,iV a0.1),(15,iV (0:Int))],[(1,.seq tF (List.replicate (Int.toNat a0.1) (0:Nat))),(0,cb a0)],2⟩ hX aN ?_;refine HT.block ?_;obtain ⟨r3,Rk,hr⟩:=af hr;refine HT.ct (fun (s2:Int×List Nat)=>⟨[(1,lV a1),(2,iV a2),(3,pV 0 0),(7,aV 1),(14,iV a0.1),(15,iV s2.1)],[(0,cb a0),(1,.seq tF s2.2)],2⟩) (fun (r4:List Nat)=>(.exit 0,⟨[(7,aV 0)],[(0,.seq tF r4)],1⟩)) (Le.re [(0,0),(1,1)] [] hX (by kernel_rfl)) Rk ?_ (fun s2 x5 dm BZ=> ?_);refine (aZ (aj ?_));refine ay (aO 2) ⟨[(6,aV 0)],[(0,.seq tF r3)],1⟩ hX aN ?_;have hr:=ae hr;subst hr;exact HT.ret (rO [aV 0] [0] [] trivial);refine ay [oH] ⟨[(1,lV a1),(2,iV a2),(3,pV 0 0),(7,aV 1),(14,iV a0.1),(15,iV s2.1),(16,bV (decide (s2.1<a0.1)))],[(0,cb a0),(1,.seq tF s2.2)],2⟩ hX aN ?_;refine HT.seq ?_;rcases an dm with ⟨iN,dm⟩|⟨iN,dm⟩
 refine HT.aK rfl iN ?_;refine HT.skip (aj ?_);refine HT.seq ?_;refine HT.block ?_;refine ay (aO 2) ⟨[(1,lV a1),(2,iV a2),(3,pV 0 0),(7,aV 1),(8,iV s2.1),(14,iV a0.1),(15,iV s2.1)],[(0,cb a0),(1,.seq tF s2.2)],2⟩ hX aN ?_;refine ay (aO 3) ⟨[(1,lV a1),(2,iV a2),(3,pV 0 0),(7,aV 1),(8,iV s2.1),(14,iV a0.1),(15,iV s2.1),(19,iV a0.1),(20,iV (0:Int))],[(0,cb a0),(1,.seq tF s2.2)],2⟩ hX aN ?_;refine HT.block ?_;obtain ⟨Ab,Rl,dm⟩:=af dm;refine HT.ct (fun (s9:Int×List Nat)=>⟨[(1,lV a1),(2,iV a2),(3,pV 0 0),(7,aV 1),(8,iV s2.1),(14,iV a0.1),(15,iV s2.1),(19,iV a0.1),(20,iV s9.1)],[(0,cb a0),(1,.seq tF s9.2)],2⟩) (fun (Fb:List Nat)=>(.exit 2,⟨[(1,lV a1),(2,iV a2),(3,pV 0 0),(7,aV 1),(14,iV a0.1),(15,iV s2.1)],[(0,cb a0),(1,.seq tF Fb)],2⟩)) (Le.re [(0,0),(1,1)] [] hX (by kernel_rfl)) Rl ?_ (fun s9 XL cA Dk=> ?_);refine (aZ (bC (aj ?_)));have dm:=ae dm;subst dm;exact HT.cR (aO 2) [(0,0),(1,1)] [] hX (by kernel_rfl) aN (fun _ h=>(bJ ⟨((al .i64 s2.1 (1:Int)),Ab),rfl,h⟩));refine ay [oH] ⟨[(1,lV a1),(2,iV a2),(3,pV 0 0),(7,aV 1),(8,iV s2.1),(14,iV a0.1),(15,iV s2.1),(19,iV a0.1),(20,iV s9.1),(21,bV (decide (s9.1<a0.1)))],[(0,cb a0),(1,.seq tF s9.2)],2⟩ hX aN ?_;refine HT.seq ?_;rcases an cA with ⟨iW,cA⟩|⟨iW,cA⟩
 refine HT.aK rfl iW ?_;refine HT.skip (aj ?_);refine HT.seq ?_;refine HT.block ?_;refine ay (aO 2) ⟨[(1,lV a1),(2,iV a2),(3,pV 0 0),(7,aV 1),(8,iV s2.1),(9,iV s9.1),(14,iV a0.1),(15,iV s2.1),(19,iV a0.1),(20,iV s9.1)],[(0,cb a0),(1,.seq tF s9.2)],2⟩ hX aN ?_;obtain ⟨tX,cA⟩:=ao cA;obtain ⟨vJ,cA⟩:=ao cA;obtain ⟨yC,Br,cA⟩:=af cA;obtain ⟨JZ,Rm,cA⟩:=af cA;refine HT.PT 21 [o0,o0,o0,o0,⟨oH,[2,3]⟩,⟨oH,[2,3,4]⟩,o0,o0,⟨oH,[6,7]⟩,⟨oH,[6,7,8]⟩,o0,o0,o0,⟨⟨none,.call [.au tM,.au tI,.au tI] [⟨false,tF,yC⟩] []⟩,[10,11,12]⟩,⟨oH,[6,7,8,9,10,11,12,13]⟩,o0,o0,o0,⟨⟨none,.call [.au tM,.au tI,.au tI] [⟨false,tF,JZ⟩] []⟩,[10,11,12,13,15,16,17]⟩,⟨oH,[6,7,8,9,10,11,12,13,14,15,16,17,18]⟩,⟨oH,[2,3,4,5,6,7,8,9,10,11,12,13,14,15,16,17,18,19]⟩] [(rL 21),(rL 22)] (aO 2) ⟨[(1,lV a1),(2,iV a2),(3,pV 0 0),(7,aV 1),(8,iV s2.1),(14,iV a0.1),(15,iV s2.1),(19,iV a0.1),(20,iV s9.1)],[(1,.seq tF (List.set s9.2 (Int.toNat s2.1) (av .add .f32 (List.getD s9.2 (Int.toNat s2.1) (0:Nat)) (av .mul .f32 (av .mul .f32 (List.getD a1 (Int.toNat s9.1) (0:Nat)) yC) JZ)))),(0,cb a0)],2⟩ hX (by kernel_rfl) (by kernel_rfl) (aC tX (aC (gy tX) (aC vJ (aC (Dj Br) (aC (G6 Rm) (aC tX (aC (gy tX) aN))))))) (bC (aj ?_));have cA:=ae cA;subst cA;exact HT.cR (aO 2) [(0,0),(1,1)] [] hX (by kernel_rfl) aN (fun _ h=>(bJ ⟨((al .i64 s9.1 (1:Int)),(List.set s9.2 (Int.toNat s2.1) (av .add .f32 (List.getD s9.2 (Int.toNat s2.1) (0:Nat)) (av .mul .f32 (av .mul .f32 (List.getD a1 (Int.toNat s9.1) (0:Nat)) yC) JZ)))),rfl,h⟩));refine HT.aJ rfl iW ?_;have cA:=ae cA;subst cA;exact HT.cr (Le.re [(0,0),(1,1)] [] hX (by kernel_rfl)) (bF (bI (Dk s9.2 rfl)));refine HT.aJ rfl iN ?_;have dm:=ae dm;subst dm;exact HT.cr (Le.re [(1,0)] [] hX (by kernel_rfl)) (bF (bI (BZ s2.2 rfl)))
noncomputable def vK (a0:Int):Option (Nat):=
 (show Option (Int) from
  bif (decide (a0≥(0:Int))) then
   some (9218868437227405312:Int)
  else
   some (18442240474082181120:Int)).bind fun v1=>
 none
theorem Iv {a0:Int}{r:Nat}(hr:vK a0=some r):CallOK Try.prog 104 [.au tI a0] [⟨false,(.aX .f64),r⟩] []:=by
 unfold vK at hr;refine ij [(false,(.aX .f64))] Try.func104 rfl [] fun cx hX hF=> ?_;show HT cx ⟨[(0,iV a0)],[],0⟩ _ _;refine ay [oH] ⟨[(0,iV a0)],[],0⟩ hX aN ?_;refine ay [oH] ⟨[(0,iV a0)],[],0⟩ hX aN ?_;obtain ⟨qW,bz,hr⟩:=af hr;refine HT.join (fun (v1:Int)=>⟨[(3,.one (.aq (.int .u64) v1))],[],0⟩) (fun v=>v=qW) (fun v1 ov=> ?_) (fun cont=> ?_);subst ov;cases hr;refine ay (aO 2) ⟨[(5,bV (decide (a0≥(0:Int))))],[],0⟩ hX aN ?_;rcases an bz with ⟨dD,bz⟩|⟨dD,bz⟩
 refine HT.aK rfl dD ?_;exact HT.cR [oH] [] [] hX (by kernel_rfl) aN (fun _ h=>(aj (h.ht (cont (9218868437227405312:Int) (ae bz)))));refine HT.aJ rfl dD ?_;exact HT.cR [oH] [] [] hX (by kernel_rfl) aN (fun _ h=>(aj (h.ht (cont (18442240474082181120:Int) (ae bz)))))
noncomputable def vL:Option (Nat):=
 none
theorem Iw {r:Nat}(hr:vL=some r):CallOK Try.prog 105 [] [⟨false,(.aX .f64),r⟩] []:=by
 unfold vL at hr;refine ij [(false,(.aX .f64))] Try.func105 rfl [] fun cx hX hF=> ?_;show HT cx ⟨[],[],0⟩ _ _;refine ay [oH] ⟨[],[],0⟩ hX aN ?_;cases hr
noncomputable def cj (q7:Nat)(s9:Nat×Nat):Option ((Nat×Nat)⊕(Nat)):=
 bif (rT .f64 s9.2 (4607182418800017408:Nat)) then
  some (.inl ((av .add .f64 (av .quo .f64 (4607182418800017408:Nat) s9.2) (av .mul .f64 (av .mul .f64 q7 q7) s9.1)),(av .sub .f64 s9.2 (4611686018427387904:Nat))))
 else
  some (.inr s9.1)
noncomputable def bW (s4:Nat×Nat):Option ((Nat×Nat)⊕((Nat×Nat))):=
 bif (aX .f64 s4.1 (4604930618986332160:Nat)) then
  some (.inl ((av .mul .f64 s4.1 (4611686018427387904:Nat)),(av .sub .f64 s4.2 (4607182418800017408:Nat))))
 else
  some (.inr (s4.1,s4.2))
noncomputable def cN (s1:Nat×Nat):Option ((Nat×Nat)⊕((Nat×Nat))):=
 bif (rT .f64 s1.1 (4609434218613702656:Nat)) then
  some (.inl ((av .quo .f64 s1.1 (4611686018427387904:Nat)),(av .add .f64 s1.2 (4607182418800017408:Nat))))
 else
  some (.inr (s1.1,s1.2))
noncomputable def e8 (a0:Nat):Option (Nat):=
 (rounds (cN) (a0,(0:Nat))).bind fun r3=>
 (rounds (bW) (r3.1,r3.2)).bind fun r6=>
 (some (av .quo .f64 (av .sub .f64 r6.1 (4607182418800017408:Nat)) (av .add .f64 r6.1 (4607182418800017408:Nat)))).bind fun q7=>
 (rounds (cj q7) ((0:Nat),(4627730092099895296:Nat))).bind fun Fb=>
 (some (av .add .f64 (av .mul .f64 (4611686018427387904:Nat) (av .mul .f64 q7 Fb)) (av .mul .f64 r6.2 (4604418534313441775:Nat)))).bind fun Rn=>
 some Rn
theorem Ok {a0:Nat}{r:Nat}(hr:e8 a0=some r):CallOK Try.prog 106 [.au (.aX .f64) a0] [⟨false,(.aX .f64),r⟩] []:=by
 unfold e8 at hr;refine ij [(false,(.aX .f64))] Try.func106 rfl [] fun cx hX hF=> ?_;show HT cx ⟨[(0,.one (.aq (.aX .f64) a0))],[],0⟩ _ _;refine ay [oH] ⟨[(0,.one (.aq (.aX .f64) a0))],[],0⟩ hX aN ?_;refine ay [oH] ⟨[(0,.one (.aq (.aX .f64) a0)),(3,.one (.aq (.aX .f64) (0:Nat)))],[],0⟩ hX aN ?_;refine HT.seq ?_;refine HT.block ?_;obtain ⟨r2,Ro,hr⟩:=af hr;refine HT.ct (fun (s1:Nat×Nat)=>⟨[(0,.one (.aq (.aX .f64) s1.1)),(3,.one (.aq (.aX .f64) s1.2))],[],0⟩) (fun (r3:(Nat×Nat))=>(.exit 0,⟨[(0,.one (.aq (.aX .f64) r3.1)),(3,.one (.aq (.aX .f64) r3.2))],[],0⟩)) (Le.re [] [] hX (by kernel_rfl)) Ro ?_ (fun s1 x24 Dl XM=> ?_);refine (aZ (aj ?_));refine HT.seq ?_;refine HT.block ?_;obtain ⟨r5,Rk,hr⟩:=af hr;refine HT.ct (fun (s4:Nat×Nat)=>⟨[(0,.one (.aq (.aX .f64) s4.1)),(3,.one (.aq (.aX .f64) s4.2))],[],0⟩) (fun (r6:(Nat×Nat))=>(.exit 2,⟨[(0,.one (.aq (.aX .f64) r6.1)),(3,.one (.aq (.aX .f64) r6.2))],[],0⟩)) (Le.re [] [] hX (by kernel_rfl)) Rk ?_ (fun s4 x19 pG Rp=> ?_);refine (aZ (aj ?_));refine ay (aO 6) ⟨[(3,.one (.aq (.aX .f64) r5.2)),(4,.one (.aq (.aX .f64) (av .quo .f64 (av .sub .f64 r5.1 (4607182418800017408:Nat)) (av .add .f64 r5.1 (4607182418800017408:Nat)))))],[],0⟩ hX aN ?_;obtain ⟨q7,Rq,hr⟩:=af hr;have Rq:=fh Rq;refine (Le.cv (s:=⟨[],[],[],false⟩) (own:=[]) (ps:=[r5.2=r5.2,q7=(av .quo .f64 (av .sub .f64 r5.1 (4607182418800017408:Nat)) (av .add .f64 r5.1 (4607182418800017408:Nat)))]) (st':=⟨[(3,.one (.aq (.aX .f64) r5.2)),(4,.one (.aq (.aX .f64) q7))],[],0⟩) hX.own (fun h=>by cases h) (by kernel_rfl) ⟨rfl,Rq,trivial⟩).ht ?_;refine ay (aO 4) ⟨[(3,.one (.aq (.aX .f64) r5.2)),(4,.one (.aq (.aX .f64) q7)),(5,.one (.aq (.aX .f64) (av .mul .f64 q7 q7)))],[],0⟩ hX aN ?_;refine ay [oH] ⟨[(3,.one (.aq (.aX .f64) r5.2)),(4,.one (.aq (.aX .f64) q7)),(5,.one (.aq (.aX .f64) (av .mul .f64 q7 q7))),(6,.one (.aq (.aX .f64) (0:Nat)))],[],0⟩ hX aN ?_;refine HT.seq ?_;refine ay [oH] ⟨[(3,.one (.aq (.aX .f64) r5.2)),(4,.one (.aq (.aX .f64) q7)),(5,.one (.aq (.aX .f64) (av .mul .f64 q7 q7))),(6,.one (.aq (.aX .f64) (0:Nat))),(7,.one (.aq (.aX .f64) (4627730092099895296:Nat)))],[],0⟩ hX aN ?_;refine HT.block ?_;obtain ⟨Ab,XN,hr⟩:=af hr;refine HT.ct (fun (s9:Nat×Nat)=>⟨[(3,.one (.aq (.aX .f64) r5.2)),(4,.one (.aq (.aX .f64) q7)),(5,.one (.aq (.aX .f64) (av .mul .f64 q7 q7))),(6,.one (.aq (.aX .f64) s9.1)),(7,.one (.aq (.aX .f64) s9.2))],[],0⟩) (fun (Fb:Nat)=>(.exit 4,⟨[(3,.one (.aq (.aX .f64) r5.2)),(4,.one (.aq (.aX .f64) q7)),(6,.one (.aq (.aX .f64) Fb))],[],0⟩)) (Le.re [] [] hX (by kernel_rfl)) XN ?_ (fun s9 x14 Dm XO=> ?_);refine (aZ (aj ?_));refine ay (aO 8) ⟨[(2,.one (.aq (.aX .f64) (av .add .f64 (av .mul .f64 (4611686018427387904:Nat) (av .mul .f64 q7 Ab)) (av .mul .f64 r5.2 (4604418534313441775:Nat)))))],[],0⟩ hX aN ?_;obtain ⟨Rn,Rr,hr⟩:=af hr;have Rr:=fh Rr;refine (Le.cv (s:=⟨[],[],[],false⟩) (own:=[]) (ps:=[Rn=(av .add .f64 (av .mul .f64 (4611686018427387904:Nat) (av .mul .f64 q7 Ab)) (av .mul .f64 r5.2 (4604418534313441775:Nat)))]) (st':=⟨[(2,.one (.aq (.aX .f64) Rn))],[],0⟩) hX.own (fun h=>by cases h) (by kernel_rfl) ⟨Rr,trivial⟩).ht ?_;have hr:=ae hr;subst hr;exact HT.ret (rO [.one (.aq (.aX .f64) Rn)] [] [] trivial);refine HT.seq ?_;refine ay (aO 2) ⟨[(3,.one (.aq (.aX .f64) r5.2)),(4,.one (.aq (.aX .f64) q7)),(5,.one (.aq (.aX .f64) (av .mul .f64 q7 q7))),(6,.one (.aq (.aX .f64) s9.1)),(7,.one (.aq (.aX .f64) s9.2)),(29,bV (rT .f64 s9.2 (4607182418800017408:Nat)))],[],0⟩ hX aN ?_;rcases an Dm with ⟨pE,Dm⟩|⟨pE,Dm⟩
 refine HT.aK rfl pE ?_;refine HT.skip (aj ?_);refine HT.seq ?_;refine HT.block ?_;refine HT.xM (aO 7) ⟨[(3,.one (.aq (.aX .f64) r5.2)),(4,.one (.aq (.aX .f64) q7)),(5,.one (.aq (.aX .f64) (av .mul .f64 q7 q7))),(6,.one (.aq (.aX .f64) (av .add .f64 (av .quo .f64 (4607182418800017408:Nat) s9.2) (av .mul .f64 (av .mul .f64 q7 q7) s9.1)))),(7,.one (.aq (.aX .f64) s9.2))],[],0⟩ hX (by kernel_rfl) aN (bC (aj ?_));have Dm:=ae Dm;subst Dm;exact HT.cR (aO 3) [] [] hX (by kernel_rfl) aN (fun _ h=>(bJ ⟨((av .add .f64 (av .quo .f64 (4607182418800017408:Nat) s9.2) (av .mul .f64 (av .mul .f64 q7 q7) s9.1)),(av .sub .f64 s9.2 (4611686018427387904:Nat))),rfl,h⟩));refine HT.aJ rfl pE ?_;have Dm:=ae Dm;subst Dm;exact HT.cr (Le.re [] [] hX (by kernel_rfl)) (bF (bI (XO s9.1 rfl)));refine HT.seq ?_;refine ay (aO 2) ⟨[(0,.one (.aq (.aX .f64) s4.1)),(3,.one (.aq (.aX .f64) s4.2)),(15,bV (aX .f64 s4.1 (4604930618986332160:Nat)))],[],0⟩ hX aN ?_;rcases an pG with ⟨uM,pG⟩|⟨uM,pG⟩
 refine HT.aK rfl uM ?_;refine HT.skip (aj ?_);refine HT.block ?_;refine ay (aO 3) ⟨[(0,.one (.aq (.aX .f64) (av .mul .f64 s4.1 (4611686018427387904:Nat)))),(3,.one (.aq (.aX .f64) s4.2))],[],0⟩ hX aN ?_;have pG:=ae pG;subst pG;exact HT.cR (aO 3) [] [] hX (by kernel_rfl) aN (fun _ h=>(bC (bJ ⟨((av .mul .f64 s4.1 (4611686018427387904:Nat)),(av .sub .f64 s4.2 (4607182418800017408:Nat))),rfl,h⟩)));refine HT.aJ rfl uM ?_;have pG:=ae pG;subst pG;exact HT.cr (Le.re [] [] hX (by kernel_rfl)) (bF (bI (Rp (s4.1,s4.2) rfl)));refine HT.seq ?_;refine ay (aO 2) ⟨[(0,.one (.aq (.aX .f64) s1.1)),(3,.one (.aq (.aX .f64) s1.2)),(9,bV (rT .f64 s1.1 (4609434218613702656:Nat)))],[],0⟩ hX aN ?_;rcases an Dl with ⟨lR,Dl⟩|⟨lR,Dl⟩
 refine HT.aK rfl lR ?_;refine HT.skip (aj ?_);refine HT.block ?_;refine ay (aO 3) ⟨[(0,.one (.aq (.aX .f64) (av .quo .f64 s1.1 (4611686018427387904:Nat)))),(3,.one (.aq (.aX .f64) s1.2))],[],0⟩ hX aN ?_;have Dl:=ae Dl;subst Dl;exact HT.cR (aO 3) [] [] hX (by kernel_rfl) aN (fun _ h=>(bC (bJ ⟨((av .quo .f64 s1.1 (4611686018427387904:Nat)),(av .add .f64 s1.2 (4607182418800017408:Nat))),rfl,h⟩)));refine HT.aJ rfl lR ?_;have Dl:=ae Dl;subst Dl;exact HT.cr (Le.re [] [] hX (by kernel_rfl)) (bF (bI (XM (s1.1,s1.2) rfl)))
noncomputable def dG (a0:Nat):Option (Nat):=
 bif (pz .f32 a0 (0:Nat)) then
  (vK (-1:Int)).bind fun y2=>
  az (dC .f64 .f32 y2=true) (
   some (bD .f64 .f32 y2))
 else
  (show Option (Bool) from
   bif (aX .f32 a0 (0:Nat)) then
    some true
   else
    some (!(pz .f32 a0 a0))).bind fun v5=>
  bif v5 then
   (vL).bind fun y9=>
   az (dC .f64 .f32 y9=true) (
    some (bD .f64 .f32 y9))
  else
   (cP a0).bind fun uJ=>
   bif (!uJ) then
    some a0
   else
    (e8 (bD .f32 .f64 a0)).bind fun o9=>
    az (dC .f64 .f32 o9=true) (
     some (bD .f64 .f32 o9))
theorem Rs {a0:Nat}{r:Nat}(hr:dG a0=some r):CallOK Try.prog 60 [.au tF a0] [⟨false,tF,r⟩] []:=by
 unfold dG at hr;refine ij [(false,tF)] Try.func60 rfl [] fun cx hX hF=> ?_;show HT cx ⟨[(0,fV a0)],[],0⟩ _ _;refine ay [oH] ⟨[(0,fV a0)],[],0⟩ hX aN ?_;refine HT.seq ?_;refine HT.block ?_;refine ay (aO 3) ⟨[(0,fV a0),(3,bV (pz .f32 a0 (0:Nat)))],[],0⟩ hX aN ?_;rcases an hr with ⟨rQ,hr⟩|⟨rQ,hr⟩
 refine HT.aK rfl rQ ?_;obtain ⟨y2,Rd,hr⟩:=af hr;obtain ⟨PW,hr⟩:=ao hr;refine ay [⟨none,.call [.au tI] [⟨false,(.aX .f64),y2⟩] []⟩,oH,oH] ⟨[(2,fV (bD .f64 .f32 y2))],[],0⟩ hX (aC (Iv Rd) (aC PW aN)) ?_;have hr:=ae hr;subst hr;exact HT.ret (bE (aM (rO [fV (bD .f64 .f32 y2)] [] [] trivial)));refine HT.aJ rfl rQ ?_;obtain ⟨XP,LV,hr⟩:=af hr;refine HT.join (fun (v5:Bool)=>⟨[(0,fV a0),(8,bV v5)],[],0⟩) (fun v=>v=XP) (fun v5 XQ=> ?_) (fun cont=> ?_);subst XQ;rcases an hr with ⟨iN,hr⟩|⟨iN,hr⟩
 refine HT.aK rfl iN ?_;obtain ⟨y9,tW,hr⟩:=af hr;obtain ⟨sC,hr⟩:=ao hr;refine ay [⟨none,.call [] [⟨false,(.aX .f64),y9⟩] []⟩,oH,oH] ⟨[(2,fV (bD .f64 .f32 y9))],[],0⟩ hX (aC (Iw tW) (aC sC aN)) ?_;have hr:=ae hr;subst hr;exact HT.ret (bE (aM (rO [fV (bD .f64 .f32 y9)] [] [] trivial)));refine HT.aJ rfl iN ?_;obtain ⟨uJ,Aa,hr⟩:=af hr;refine ay [oH,⟨none,.call [.au tF] [⟨false,.bool,uJ⟩] []⟩,oH,oH] ⟨[(0,fV a0),(18,bV (!uJ))],[],0⟩ hX (aC (G5 Aa) aN) ?_;rcases an hr with ⟨uK,hr⟩|⟨uK,hr⟩
 refine HT.aK rfl uK ?_;refine ay (aO 2) ⟨[(2,fV a0)],[],0⟩ hX aN ?_;have hr:=ae hr;subst hr;exact HT.ret (bE (aM (rO [fV a0] [] [] trivial)));refine HT.aJ rfl uK ?_;refine HT.skip (bC (aj ?_));obtain ⟨o9,LW,hr⟩:=af hr;obtain ⟨vJ,hr⟩:=ao hr;refine ay [oH,oH,⟨none,.call [.au (.aX .f64)] [⟨false,(.aX .f64),o9⟩] []⟩,oH,oH] ⟨[(2,fV (bD .f64 .f32 o9))],[],0⟩ hX (aC (show dC .f32 .f64 a0=true from (oB _)) (aC (Ok LW) (aC vJ aN))) ?_;have hr:=ae hr;subst hr;exact HT.ret (rO [fV (bD .f64 .f32 o9)] [] [] trivial);rcases an LV with ⟨nw,LV⟩|⟨nw,LV⟩
 exact HT.cR [oH,oH,oH,oT,oT,oT,vT,oH] [] [] hX (by kernel_rfl) (aC nw (aC nw (aC nw (aC nw aN)))) (fun _ h=>(aj (h.ht (cont true (ae LV)))));exact HT.cR [oH,oH,oH,oF,oF,oF,vF,oH] [] [] hX (by kernel_rfl) (aC nw (aC nw (aC nw (aC nw aN)))) (fun _ h=>(aj (h.ht (cont (!(pz .f32 a0 a0)) (ae LV)))))
noncomputable def c8 (Ol:Nat)(yD:List Nat)(lB:Int×List Nat):Option ((Int×List Nat)⊕(List Nat)):=
 bif (decide (lB.1<(ai yD))) then
  az ((0:Int)≤lB.1∧lB.1<ai lB.2) (
   some (.inl ((al .i64 lB.1 (1:Int)),(List.set lB.2 (Int.toNat lB.1) (av .quo .f32 (List.getD lB.2 (Int.toNat lB.1) (0:Nat)) Ol)))))
 else
  some (.inr lB.2)
noncomputable def c9 (a0:eC)(a1:List Int)(s6:Nat×Int×List Nat)(xR:Nat×Int):Option ((Nat×Int)⊕(Nat)):=
 bif (decide (xR.2<(ai s6.2.2))) then
  az ((0:Int)≤xR.2∧xR.2<ai s6.2.2) (
   (cC (a0.1,a0.2.1,a0.2.2.1,a0.2.2.2.1,a0.2.2.2.2) xR.2 (List.getD a1 (Int.toNat s6.2.1) (0:Int))).bind fun UO=>
   some (.inl ((av .add .f32 xR.1 (av .mul .f32 (List.getD s6.2.2 (Int.toNat xR.2) (0:Nat)) UO)),(al .i64 xR.2 (1:Int)))))
 else
  some (.inr xR.1)
noncomputable def cm (a0:eC)(a1:List Int)(s6:Nat×Int×List Nat):Option ((Nat×Int×List Nat)⊕(Nat⊕Unit)):=
 bif (decide (s6.2.1<(ai a1))) then
  az ((0:Int)≤s6.2.1∧s6.2.1<ai a1) (
   (rounds (c9 a0 a1 s6) ((0:Nat),(0:Int))).bind fun Ol=>
   bif (!(qI .f32 Ol (0:Nat))) then
    some (.inr (.inr ()))
   else
    (ej (a0.1,a0.2.1,a0.2.2.1,a0.2.2.2.1,a0.2.2.2.2) s6.2.2 (List.getD a1 (Int.toNat s6.2.1) (0:Int))).bind fun yD=>
    (rounds (c8 Ol yD) ((0:Int),yD)).bind fun Om=>
    (dG Ol).bind fun Nw=>
    some (.inl ((av .add .f32 s6.1 Nw),(al .i64 s6.2.1 (1:Int)),Om)))
 else
  some (.inr (.inl s6.1))
noncomputable def du (a0:eC)(a1:List Int):Option (Nat×Bool):=
 (jB (a0.1,a0.2.1,a0.2.2.1,a0.2.2.2.1,a0.2.2.2.2) a1).bind fun y1=>
 bif (!y1) then
  some ((0:Nat),false)
 else
  (cc a0.2.2.1).bind fun y4=>
  (rounds (cm a0 a1) ((0:Nat),(0:Int),y4)).bind fun r7=>match r7 with
   | .inl r8=>
    (iw r8).bind fun y9=>
    some (y9.1,y9.2)
   | .inr Fb=>
    some ((0:Nat),false)
theorem Rt {a0:eC}{a1:List Int}{r:Nat×Bool}(hr:du a0 a1=some r):CallOK Try.prog 17 [.au tM a0,.au bM a1] [⟨false,tF,r.1⟩,⟨false,.bool,r.2⟩] []:=by
 unfold du at hr;refine ij [(false,tF),(false,.bool)] Try.func17 rfl [] fun cx hX hF=> ?_;show HT cx ⟨[(0,.agg [iC a0.1,iC a0.2.1,lC a0.2.2.1,lC a0.2.2.2.1,lC a0.2.2.2.2]),(1,nV a1)],[],0⟩ _ _;refine ay (aO 3) ⟨[(1,nV a1),(2,pV 0 0)],[(0,cb a0)],1⟩ hX aN ?_;refine HT.seq ?_;obtain ⟨y1,eV,hr⟩:=af hr;refine ay [oH,oH,⟨none,.call [.au tM,.au bM] [⟨false,.bool,y1⟩] []⟩,oH] ⟨[(1,nV a1),(2,pV 0 0),(17,bV (!y1))],[(0,cb a0)],1⟩ hX (aC (Rj eV) aN) ?_;rcases an hr with ⟨m6,hr⟩|⟨m6,hr⟩
 refine HT.aK rfl m6 ?_;refine ay (aO 2) ⟨[(4,fV (0:Nat)),(5,bV false)],[],1⟩ hX aN ?_;have hr:=ae hr;subst hr;exact HT.ret (aM (rO [fV (0:Nat),bV false] [] [] trivial));refine HT.aJ rfl m6 ?_;refine HT.skip (aj ?_);obtain ⟨y4,rI,hr⟩:=af hr;refine ay [oH,oH,⟨none,.call [.au aY] [⟨true,aY,y4⟩] []⟩,oH] ⟨[(1,nV a1),(2,pV 0 0),(6,aV 1)],[(1,.seq tF y4),(0,cb a0)],2⟩ hX (aC (wX rI) aN) ?_;refine ay [oH] ⟨[(1,nV a1),(2,pV 0 0),(6,aV 1),(7,fV (0:Nat))],[(1,.seq tF y4),(0,cb a0)],2⟩ hX aN ?_;refine HT.seq ?_;refine ay (aO 3) ⟨[(2,pV 0 0),(6,aV 1),(7,fV (0:Nat)),(21,nV a1),(22,iV (ai a1)),(23,iV (0:Int))],[(1,.seq tF y4),(0,cb a0)],2⟩ hX aN ?_;refine HT.block ?_;obtain ⟨r7,XR,hr⟩:=af hr;refine HT.ct (fun (s6:Nat×Int×List Nat)=>⟨[(2,pV 0 0),(6,aV 1),(7,fV s6.1),(21,nV a1),(22,iV (ai a1)),(23,iV s6.2.1)],[(0,cb a0),(1,.seq tF s6.2.2)],2⟩) (fun (r7:Nat⊕Unit)=>match r7 with| .inl r8=>(.exit 0,⟨[(7,fV r8)],[],0⟩)| .inr Fb=>(.ret,⟨[(4,fV (0:Nat)),(5,bV false)],[],0⟩)) (Le.re [(0,0),(1,1)] [] hX (by kernel_rfl)) XR ?_ (fun s6 XL cA Dk=> ?_);rcases r7 with r8|Fb
 refine (aZ (aj ?_));obtain ⟨y9,tW,hr⟩:=af hr;refine ay [oH,⟨none,.call [.au tF] [⟨false,tF,y9.1⟩,⟨false,.bool,y9.2⟩] []⟩,oH,oH,oH,oH] ⟨[(4,fV y9.1),(5,bV y9.2)],[],0⟩ hX (aC (LS tW) aN) ?_;have hr:=ae hr;subst hr;exact HT.ret (rO [fV y9.1,bV y9.2] [] [] trivial);have hr:=ae hr;subst hr;exact (bE (aM (rO [fV (0:Nat),bV false] [] [] trivial)));refine ay [oH] ⟨[(2,pV 0 0),(6,aV 1),(7,fV s6.1),(21,nV a1),(22,iV (ai a1)),(23,iV s6.2.1),(24,bV (decide (s6.2.1<(ai a1))))],[(0,cb a0),(1,.seq tF s6.2.2)],2⟩ hX aN ?_;refine HT.seq ?_;rcases an cA with ⟨iW,cA⟩|⟨iW,cA⟩
 refine HT.aK rfl iW ?_;refine HT.skip (aj ?_);refine HT.seq ?_;refine HT.block ?_;obtain ⟨tX,cA⟩:=ao cA;refine ay (aO 3) ⟨[(2,pV 0 0),(6,aV 1),(7,fV s6.1),(9,iV (List.getD a1 (Int.toNat s6.2.1) (0:Int))),(21,nV a1),(22,iV (ai a1)),(23,iV s6.2.1)],[(0,cb a0),(1,.seq tF s6.2.2)],2⟩ hX (aC tX aN) ?_;refine ay [oH] ⟨[(2,pV 0 0),(6,aV 1),(7,fV s6.1),(9,iV (List.getD a1 (Int.toNat s6.2.1) (0:Int))),(10,fV (0:Nat)),(21,nV a1),(22,iV (ai a1)),(23,iV s6.2.1)],[(0,cb a0),(1,.seq tF s6.2.2)],2⟩ hX aN ?_;refine HT.seq ?_;refine ay (aO 3) ⟨[(2,pV 0 0),(6,aV 1),(7,fV s6.1),(9,iV (List.getD a1 (Int.toNat s6.2.1) (0:Int))),(10,fV (0:Nat)),(21,nV a1),(22,iV (ai a1)),(23,iV s6.2.1),(27,aV 1),(28,iV (ai s6.2.2)),(29,iV (0:Int))],[(0,cb a0),(1,.seq tF s6.2.2)],2⟩ hX aN ?_;refine HT.block ?_;obtain ⟨vM,Ru,cA⟩:=af cA;refine HT.ct (fun (xR:Nat×Int)=>⟨[(2,pV 0 0),(6,aV 1),(7,fV s6.1),(9,iV (List.getD a1 (Int.toNat s6.2.1) (0:Int))),(10,fV xR.1),(21,nV a1),(22,iV (ai a1)),(23,iV s6.2.1),(27,aV 1),(28,iV (ai s6.2.2)),(29,iV xR.2)],[(0,cb a0),(1,.seq tF s6.2.2)],2⟩) (fun (Ol:Nat)=>(.exit 2,⟨[(2,pV 0 0),(6,aV 1),(7,fV s6.1),(9,iV (List.getD a1 (Int.toNat s6.2.1) (0:Int))),(10,fV Ol),(21,nV a1),(22,iV (ai a1)),(23,iV s6.2.1)],[(0,cb a0),(1,.seq tF s6.2.2)],2⟩)) (Le.re [(0,0),(1,1)] [] hX (by kernel_rfl)) Ru ?_ (fun xR x34 wY XS=> ?_);refine (aZ (aj ?_));refine HT.seq ?_;refine ay (aO 3) ⟨[(2,pV 0 0),(6,aV 1),(7,fV s6.1),(9,iV (List.getD a1 (Int.toNat s6.2.1) (0:Int))),(10,fV vM),(21,nV a1),(22,iV (ai a1)),(23,iV s6.2.1),(45,bV (!(qI .f32 vM (0:Nat))))],[(0,cb a0),(1,.seq tF s6.2.2)],2⟩ hX aN ?_;rcases an cA with ⟨fa,cA⟩|⟨fa,cA⟩
 refine HT.aK rfl fa ?_;refine ay (aO 2) ⟨[(4,fV (0:Nat)),(5,bV false)],[],2⟩ hX aN ?_;have cA:=ae cA;subst cA;exact HT.qV (Le.re [] [] hX (by kernel_rfl)) (aM (bE (aM (iz (Dk (.inr ()) rfl)))));refine HT.aJ rfl fa ?_;refine HT.skip (aj ?_);obtain ⟨yD,Rv,cA⟩:=af cA;refine ay [oH,oH,oH,⟨none,.call [.au tM,.au aY,.au tI] [⟨true,aY,yD⟩] []⟩,oH] ⟨[(2,pV 0 0),(6,aV 2),(7,fV s6.1),(10,fV vM),(21,nV a1),(22,iV (ai a1)),(23,iV s6.2.1)],[(2,.seq tF yD),(0,cb a0)],3⟩ hX (aC (LU Rv) aN) ?_;refine HT.seq ?_;refine ay (aO 3) ⟨[(2,pV 0 0),(6,aV 2),(7,fV s6.1),(10,fV vM),(21,nV a1),(22,iV (ai a1)),(23,iV s6.2.1),(51,iV (ai yD)),(52,iV (0:Int))],[(2,.seq tF yD),(0,cb a0)],3⟩ hX aN ?_;refine HT.block ?_;obtain ⟨V3,XT,cA⟩:=af cA;refine HT.ct (fun (lB:Int×List Nat)=>⟨[(2,pV 0 0),(6,aV 1),(7,fV s6.1),(10,fV vM),(21,nV a1),(22,iV (ai a1)),(23,iV s6.2.1),(51,iV (ai yD)),(52,iV lB.1)],[(0,cb a0),(1,.seq tF lB.2)],2⟩) (fun (Om:List Nat)=>(.exit 4,⟨[(2,pV 0 0),(6,aV 1),(7,fV s6.1),(10,fV vM),(21,nV a1),(22,iV (ai a1)),(23,iV s6.2.1)],[(0,cb a0),(1,.seq tF Om)],2⟩)) (Le.re [(0,0),(2,1)] [] hX (by kernel_rfl)) XT ?_ (fun lB x28 Ac XU=> ?_);refine (aZ (aj ?_));obtain ⟨Nw,Rw,cA⟩:=af cA;refine HT.xM [oH,oH,⟨none,.call [.au tF] [⟨false,tF,Nw⟩] []⟩,oH,oH] ⟨[(2,pV 0 0),(6,aV 1),(7,fV (av .add .f32 s6.1 Nw)),(21,nV a1),(22,iV (ai a1)),(23,iV s6.2.1)],[(0,cb a0),(1,.seq tF V3)],2⟩ hX (by kernel_rfl) (aC (Rs Rw) aN) (bC (aj ?_));have cA:=ae cA;subst cA;exact HT.cR (aO 2) [(0,0),(1,1)] [] hX (by kernel_rfl) aN (fun _ h=>(bJ ⟨((av .add .f32 s6.1 Nw),(al .i64 s6.2.1 (1:Int)),V3),rfl,h⟩));refine ay [oH] ⟨[(2,pV 0 0),(6,aV 1),(7,fV s6.1),(10,fV vM),(21,nV a1),(22,iV (ai a1)),(23,iV s6.2.1),(51,iV (ai yD)),(52,iV lB.1),(53,bV (decide (lB.1<(ai yD))))],[(0,cb a0),(1,.seq tF lB.2)],2⟩ hX aN ?_;refine HT.seq ?_;rcases an Ac with ⟨gj,Ac⟩|⟨gj,Ac⟩
 refine HT.aK rfl gj ?_;refine HT.skip (aj ?_);refine HT.seq ?_;refine HT.block ?_;refine ay (aO 2) ⟨[(2,pV 0 0),(6,aV 1),(7,fV s6.1),(10,fV vM),(13,iV lB.1),(21,nV a1),(22,iV (ai a1)),(23,iV s6.2.1),(51,iV (ai yD)),(52,iV lB.1)],[(0,cb a0),(1,.seq tF lB.2)],2⟩ hX aN ?_;obtain ⟨On,Ac⟩:=ao Ac;refine HT.xM (aO 10) ⟨[(2,pV 0 0),(6,aV 1),(7,fV s6.1),(10,fV vM),(21,nV a1),(22,iV (ai a1)),(23,iV s6.2.1),(51,iV (ai yD)),(52,iV lB.1)],[(1,.seq tF (List.set lB.2 (Int.toNat lB.1) (av .quo .f32 (List.getD lB.2 (Int.toNat lB.1) (0:Nat)) vM))),(0,cb a0)],2⟩ hX (by kernel_rfl) (aC On (aC (gy On) (aC On (aC (gy On) aN)))) (bC (aj ?_));have Ac:=ae Ac;subst Ac;exact HT.cR (aO 2) [(0,0),(1,1)] [] hX (by kernel_rfl) aN (fun _ h=>(bJ ⟨((al .i64 lB.1 (1:Int)),(List.set lB.2 (Int.toNat lB.1) (av .quo .f32 (List.getD lB.2 (Int.toNat lB.1) (0:Nat)) vM))),rfl,h⟩));refine HT.aJ rfl gj ?_;have Ac:=ae Ac;subst Ac;exact HT.cr (Le.re [(0,0),(1,1)] [] hX (by kernel_rfl)) (bF (bI (XU lB.2 rfl)));refine ay [oH] ⟨[(2,pV 0 0),(6,aV 1),(7,fV s6.1),(9,iV (List.getD a1 (Int.toNat s6.2.1) (0:Int))),(10,fV xR.1),(21,nV a1),(22,iV (ai a1)),(23,iV s6.2.1),(27,aV 1),(28,iV (ai s6.2.2)),(29,iV xR.2),(30,bV (decide (xR.2<(ai s6.2.2))))],[(0,cb a0),(1,.seq tF s6.2.2)],2⟩ hX aN ?_;refine HT.seq ?_;rcases an wY with ⟨G7,wY⟩|⟨G7,wY⟩
 refine HT.aK rfl G7 ?_;refine HT.skip (aj ?_);refine HT.seq ?_;refine HT.block ?_;obtain ⟨J0,wY⟩:=ao wY;refine ay (aO 5) ⟨[(2,pV 0 0),(6,aV 1),(7,fV s6.1),(9,iV (List.getD a1 (Int.toNat s6.2.1) (0:Int))),(10,fV xR.1),(11,iV xR.2),(12,fV (List.getD s6.2.2 (Int.toNat xR.2) (0:Nat))),(21,nV a1),(22,iV (ai a1)),(23,iV s6.2.1),(27,aV 1),(28,iV (ai s6.2.2)),(29,iV xR.2)],[(0,cb a0),(1,.seq tF s6.2.2)],2⟩ hX (aC J0 (aC (gy J0) aN)) ?_;obtain ⟨UO,XV,wY⟩:=af wY;refine HT.xM [oH,oH,oH,oH,oH,⟨none,.call [.au tM,.au tI,.au tI] [⟨false,tF,UO⟩] []⟩,oH,oH,oH] ⟨[(2,pV 0 0),(6,aV 1),(7,fV s6.1),(9,iV (List.getD a1 (Int.toNat s6.2.1) (0:Int))),(10,fV (av .add .f32 xR.1 (av .mul .f32 (List.getD s6.2.2 (Int.toNat xR.2) (0:Nat)) UO))),(21,nV a1),(22,iV (ai a1)),(23,iV s6.2.1),(27,aV 1),(28,iV (ai s6.2.2)),(29,iV xR.2)],[(0,cb a0),(1,.seq tF s6.2.2)],2⟩ hX (by kernel_rfl) (aC (Dj XV) aN) (bC (aj ?_));have wY:=ae wY;subst wY;exact HT.cR (aO 2) [(0,0),(1,1)] [] hX (by kernel_rfl) aN (fun _ h=>(bJ ⟨((av .add .f32 xR.1 (av .mul .f32 (List.getD s6.2.2 (Int.toNat xR.2) (0:Nat)) UO)),(al .i64 xR.2 (1:Int))),rfl,h⟩));refine HT.aJ rfl G7 ?_;have wY:=ae wY;subst wY;exact HT.cr (Le.re [(0,0),(1,1)] [] hX (by kernel_rfl)) (bF (bI (XS xR.1 rfl)));refine HT.aJ rfl iW ?_;have cA:=ae cA;subst cA;exact HT.cr (Le.re [] [] hX (by kernel_rfl)) (bF (bI (Dk (.inl s6.1) rfl)))
noncomputable def mU (a0:eC)(a1:List (List Int))(s4:Int×List Nat):Option ((Int×List Nat)⊕(List Nat⊕Unit)):=
 bif (decide (s4.1<(ai a1))) then
  az ((0:Int)≤s4.1∧s4.1<ai a1) (
   (du (a0.1,a0.2.1,a0.2.2.1,a0.2.2.2.1,a0.2.2.2.2) (List.getD a1 (Int.toNat s4.1) ([]:List Int))).bind fun gp=>
   bif (!gp.2) then
    some (.inr (.inr ()))
   else
    az (List.length s4.2+List.length ([gp.1]:List Nat)≤bO) (
     some (.inl ((al .i64 s4.1 (1:Int)),(s4.2++([gp.1]:List Nat))))))
 else
  some (.inr (.inl s4.2))
noncomputable def jC (a0:eC)(a1:List (List Int)):Option (List Nat×Bool):=
 (cw (a0.1,a0.2.1,a0.2.2.1,a0.2.2.2.1,a0.2.2.2.2) a1).bind fun y1=>
 bif (!y1) then
  some (([]:List Nat),false)
 else
  (rounds (mU a0 a1) ((0:Int),([]:List Nat))).bind fun r5=>match r5 with
   | .inl r6=>
    some (r6,true)
   | .inr r7=>
    some (([]:List Nat),false)
theorem LX {a0:eC}{a1:List (List Int)}{r:List Nat×Bool}(hr:jC a0 a1=some r):CallOK Try.prog 69 [.au tM a0,.au (.sl bM) a1] [⟨true,aY,r.1⟩,⟨false,.bool,r.2⟩] []:=by
 unfold jC at hr;refine ij [(true,aY),(false,.bool)] Try.func69 rfl [] fun cx hX hF=> ?_;show HT cx ⟨[(0,.agg [iC a0.1,iC a0.2.1,lC a0.2.2.1,lC a0.2.2.2.1,lC a0.2.2.2.2]),(1,.one (.aq (.sl bM) a1))],[],0⟩ _ _;refine ay (aO 3) ⟨[(1,.one (.aq (.sl bM) a1)),(2,pV 0 0)],[(0,cb a0)],1⟩ hX aN ?_;refine HT.seq ?_;obtain ⟨y1,eV,hr⟩:=af hr;refine ay [oH,oH,⟨none,.call [.au tM,.au (.sl bM)] [⟨false,.bool,y1⟩] []⟩,oH] ⟨[(1,.one (.aq (.sl bM) a1)),(2,pV 0 0),(14,bV (!y1))],[(0,cb a0)],1⟩ hX (aC (wW eV) aN) ?_;rcases an hr with ⟨m6,hr⟩|⟨m6,hr⟩
 refine HT.aK rfl m6 ?_;refine ay (aO 2) ⟨[(4,.one (.ar)),(5,bV false)],[],1⟩ hX aN ?_;have hr:=ae hr;subst hr;exact HT.ret (aM (rO [.one (.ar),bV false] [] [] trivial));refine HT.aJ rfl m6 ?_;refine HT.skip (aj ?_);refine ay (aO 2) ⟨[(1,.one (.aq (.sl bM) a1)),(2,pV 0 0),(6,.one (.ar))],[(0,cb a0)],1⟩ hX aN ?_;refine HT.seq ?_;refine ay (aO 3) ⟨[(2,pV 0 0),(6,.one (.ar)),(16,.one (.aq (.sl bM) a1)),(17,iV (ai a1)),(18,iV (0:Int))],[(0,cb a0)],1⟩ hX aN ?_;refine HT.block ?_;obtain ⟨r5,LY,hr⟩:=af hr;refine HT.ct (fun (s4:Int×List Nat)=>⟨[(2,pV 0 0),(6,aV 1),(16,.one (.aq (.sl bM) a1)),(17,iV (ai a1)),(18,iV s4.1)],[(0,cb a0),(1,.seq tF s4.2)],2⟩) (fun (r5:List Nat⊕Unit)=>match r5 with| .inl r6=>(.exit 0,⟨[(6,aV 0)],[(0,.seq tF r6)],1⟩)| .inr r7=>(.ret,⟨[(4,.one (.ar)),(5,bV false)],[],0⟩)) (Le.re [(0,0)] [1] hX (by kernel_rfl)) LY ?_ (fun s4 x8 Bs UP=> ?_);rcases r5 with r6|r7
 refine (aZ (aj ?_));refine ay (aO 3) ⟨[(4,aV 0),(5,bV true)],[(0,.seq tF r6)],1⟩ hX aN ?_;have hr:=ae hr;subst hr;exact HT.ret (rO [aV 0,bV true] [0] [] trivial);have hr:=ae hr;subst hr;exact (bE (aM (rO [.one (.ar),bV false] [] [] trivial)));refine ay [oH] ⟨[(2,pV 0 0),(6,aV 1),(16,.one (.aq (.sl bM) a1)),(17,iV (ai a1)),(18,iV s4.1),(19,bV (decide (s4.1<(ai a1))))],[(0,cb a0),(1,.seq tF s4.2)],2⟩ hX aN ?_;refine HT.seq ?_;rcases an Bs with ⟨sD,Bs⟩|⟨sD,Bs⟩
 refine HT.aK rfl sD ?_;refine HT.skip (aj ?_);refine HT.seq ?_;refine HT.block ?_;obtain ⟨Rx,Bs⟩:=ao Bs;refine ay (aO 3) ⟨[(2,pV 0 0),(6,aV 1),(8,nV (List.getD a1 (Int.toNat s4.1) ([]:List Int))),(16,.one (.aq (.sl bM) a1)),(17,iV (ai a1)),(18,iV s4.1)],[(0,cb a0),(1,.seq tF s4.2)],2⟩ hX (aC Rx aN) ?_;obtain ⟨gp,Fa,Bs⟩:=af Bs;refine ay [oH,oH,⟨none,.call [.au tM,.au bM] [⟨false,tF,gp.1⟩,⟨false,.bool,gp.2⟩] []⟩,oH,oH,oH,oH,oH] ⟨[(2,pV 0 0),(6,aV 1),(9,fV gp.1),(10,bV gp.2),(16,.one (.aq (.sl bM) a1)),(17,iV (ai a1)),(18,iV s4.1)],[(0,cb a0),(1,.seq tF s4.2)],2⟩ hX (aC (Rt Fa) aN) ?_;refine HT.seq ?_;refine ay (aO 2) ⟨[(2,pV 0 0),(6,aV 1),(9,fV gp.1),(16,.one (.aq (.sl bM) a1)),(17,iV (ai a1)),(18,iV s4.1),(29,bV (!gp.2))],[(0,cb a0),(1,.seq tF s4.2)],2⟩ hX aN ?_;rcases an Bs with ⟨iW,Bs⟩|⟨iW,Bs⟩
 refine HT.aK rfl iW ?_;refine ay (aO 2) ⟨[(4,.one (.ar)),(5,bV false)],[],2⟩ hX aN ?_;have Bs:=ae Bs;subst Bs;exact HT.qV (Le.re [] [] hX (by kernel_rfl)) (aM (bE (aM (iz (UP (.inr ()) rfl)))));refine HT.aJ rfl iW ?_;refine HT.skip (aj ?_);obtain ⟨tX,Bs⟩:=ao Bs;refine HT.xM [oH,oH,⟨none,.ty tF⟩,⟨none,.ty tF⟩,oH] ⟨[(2,pV 0 0),(6,aV 3),(16,.one (.aq (.sl bM) a1)),(17,iV (ai a1)),(18,iV s4.1)],[(3,.seq tF (s4.2++([gp.1]:List Nat))),(0,cb a0)],4⟩ hX (by kernel_rfl) (aC tX aN) (bC (aj ?_));have Bs:=ae Bs;subst Bs;exact HT.cR (aO 2) [(0,0),(3,1)] [] hX (by kernel_rfl) aN (fun _ h=>(bJ ⟨((al .i64 s4.1 (1:Int)),(s4.2++([gp.1]:List Nat))),rfl,h⟩));refine HT.aJ rfl sD ?_;have Bs:=ae Bs;subst Bs;exact HT.cr (Le.re [(1,0)] [] hX (by kernel_rfl)) (bF (bI (UP (.inl s4.2) rfl)))
noncomputable def eE (a0:eC)(a1:List (List Int)):Option (Nat×Bool):=
 (jC (a0.1,a0.2.1,a0.2.2.1,a0.2.2.2.1,a0.2.2.2.2) a1).bind fun y1=>
 bif (!y1.2) then
  some ((0:Nat),false)
 else
  (jA y1.1).bind fun y4=>
  (iw y4).bind fun y6=>
  some (y6.1,y6.2)
theorem LZ {a0:eC}{a1:List (List Int)}{r:Nat×Bool}(hr:eE a0 a1=some r):CallOK Try.prog 25 [.au tM a0,.au (.sl bM) a1] [⟨false,tF,r.1⟩,⟨false,.bool,r.2⟩] []:=by
 unfold eE at hr;refine ij [(false,tF),(false,.bool)] Try.func25 rfl [] fun cx hX hF=> ?_;show HT cx ⟨[(0,.agg [iC a0.1,iC a0.2.1,lC a0.2.2.1,lC a0.2.2.2.1,lC a0.2.2.2.2]),(1,.one (.aq (.sl bM) a1))],[],0⟩ _ _;refine ay (aO 3) ⟨[(1,.one (.aq (.sl bM) a1)),(2,pV 0 0)],[(0,cb a0)],1⟩ hX aN ?_;obtain ⟨y1,eV,hr⟩:=af hr;refine ay [oH,oH,⟨none,.call [.au tM,.au (.sl bM)] [⟨true,aY,y1.1⟩,⟨false,.bool,y1.2⟩] []⟩,oH,oH,oH,oH,oH] ⟨[(6,aV 1),(7,bV y1.2)],[(1,.seq tF y1.1)],2⟩ hX (aC (LX eV) aN) ?_;refine HT.seq ?_;refine ay (aO 2) ⟨[(6,aV 1),(15,bV (!y1.2))],[(1,.seq tF y1.1)],2⟩ hX aN ?_;rcases an hr with ⟨m6,hr⟩|⟨m6,hr⟩
 refine HT.aK rfl m6 ?_;refine ay (aO 2) ⟨[(4,fV (0:Nat)),(5,bV false)],[],2⟩ hX aN ?_;have hr:=ae hr;subst hr;exact HT.ret (aM (rO [fV (0:Nat),bV false] [] [] trivial));refine HT.aJ rfl m6 ?_;refine HT.skip (aj ?_);obtain ⟨y4,rI,hr⟩:=af hr;obtain ⟨y6,Oi,hr⟩:=af hr;refine ay [oH,⟨none,.call [.au aY] [⟨false,tF,y4⟩] []⟩,⟨none,.call [.au tF] [⟨false,tF,y6.1⟩,⟨false,.bool,y6.2⟩] []⟩,oH,oH,oH,oH] ⟨[(4,fV y6.1),(5,bV y6.2)],[],2⟩ hX (aC (Dh rI) (aC (LS Oi) aN)) ?_;have hr:=ae hr;subst hr;exact HT.ret (rO [fV y6.1,bV y6.2] [] [] trivial)
noncomputable def dK (a0:eC):Option ((List Nat×List Nat×List Nat)):=
 az ((0:Int)≤(ai a0.2.2.1)∧(ai a0.2.2.1)≤4294967296) (
  az ((0:Int)≤(ai a0.2.2.2.1)∧(ai a0.2.2.2.1)≤4294967296) (
   az ((0:Int)≤(ai a0.2.2.2.2)∧(ai a0.2.2.2.2)≤4294967296) (
    some ((List.replicate (Int.toNat (ai a0.2.2.1)) (0:Nat)),(List.replicate (Int.toNat (ai a0.2.2.2.1)) (0:Nat)),(List.replicate (Int.toNat (ai a0.2.2.2.2)) (0:Nat))))))
theorem L0 {a0:eC}{r:(List Nat×List Nat×List Nat)}(hr:dK a0=some r):CallOK Try.prog 71 [.au tM a0] [⟨true,(.st (.pair aY (.pair aY aY))),r⟩] []:=by
 unfold dK at hr;refine ij [(true,(.st (.pair aY (.pair aY aY))))] Try.func71 rfl [] fun cx hX hF=> ?_;show HT cx ⟨[(0,.agg [iC a0.1,iC a0.2.1,lC a0.2.2.1,lC a0.2.2.2.1,lC a0.2.2.2.2])],[],0⟩ _ _;refine ay (aO 2) ⟨[(1,pV 0 0),(2,pV 1 0)],[(1,.box [.ar,.ar,.ar]),(0,cb a0)],2⟩ hX aN ?_;obtain ⟨uX,hr⟩:=ao hr;obtain ⟨u9,hr⟩:=ao hr;obtain ⟨To,hr⟩:=ao hr;refine HT.D7 12 [o0,⟨oH,[0]⟩,⟨oH,[0,1]⟩,⟨⟨none,.ty tF⟩,[0,1,2]⟩,o0,⟨oH,[4]⟩,⟨oH,[4,5]⟩,⟨⟨none,.ty tF⟩,[4,5,6]⟩,o0,⟨oH,[8]⟩,⟨oH,[8,9]⟩,⟨⟨none,.ty tF⟩,[8,9,10]⟩] [(rL 12),(rL 13)] (aO 2) ⟨[(2,pV 1 0)],[(1,.box [.all 2,.all 3,.all 4]),(4,.seq tF (List.replicate (Int.toNat (ai a0.2.2.2.2)) (0:Nat))),(3,.seq tF (List.replicate (Int.toNat (ai a0.2.2.2.1)) (0:Nat))),(2,.seq tF (List.replicate (Int.toNat (ai a0.2.2.1)) (0:Nat)))],5⟩ hX (by kernel_rfl) (by kernel_rfl) (aC (show (0:Int)≤(ai a0.2.2.1)∧(ai a0.2.2.1)≤(ai a0.2.2.1)∧(ai a0.2.2.1)≤4294967296 from ⟨uX.1,Int.le_refl _,uX.2⟩) (aC (show (0:Int)≤(ai a0.2.2.2.1)∧(ai a0.2.2.2.1)≤(ai a0.2.2.2.1)∧(ai a0.2.2.2.1)≤4294967296 from ⟨u9.1,Int.le_refl _,u9.2⟩) (aC (show (0:Int)≤(ai a0.2.2.2.2)∧(ai a0.2.2.2.2)≤(ai a0.2.2.2.2)∧(ai a0.2.2.2.2)≤4294967296 from ⟨To.1,Int.le_refl _,To.2⟩) aN))) ?_;have hr:=ae hr;subst hr;exact HT.ret (rO [.agg [.all 2,.all 3,.all 4]] [2,3,4] [] trivial)
noncomputable def ky (a2:Int)(s4:Int×List Nat)(o8:List Nat)(Bq:Nat)(uN:Int×List Nat):Option ((Int×List Nat)⊕(List Nat)):=
 bif (decide (uN.1<(ai o8))) then
  az ((0:Int)≤uN.1∧uN.1<ai o8) (
   az ((0:Int)≤(al .i64 (aU .i64 s4.1 a2) uN.1)∧(al .i64 (aU .i64 s4.1 a2) uN.1)<ai uN.2) (
    some (.inl ((al .i64 uN.1 (1:Int)),(List.set uN.2 (Int.toNat (al .i64 (aU .i64 s4.1 a2) uN.1)) (av .quo .f32 (List.getD o8 (Int.toNat uN.1) (0:Nat)) Bq))))))
 else
  some (.inr uN.2)
noncomputable def kA (a0:List Nat)(a2:Int)(s4:Int×List Nat):Option ((Int×List Nat)⊕(List Nat)):=
 bif (decide (s4.1<(IntKind.wrap .i64 (Int.tdiv (ai a0) a2)))) then
  (show Option (List Nat) from
   (ei a0 a2 s4.1).bind fun o8=>
   (jA o8).bind fun Bq=>
   bif (!(qI .f32 Bq (0:Nat))) then
    some s4.2
   else
    (rounds (ky a2 s4 o8 Bq) ((0:Int),s4.2)).bind fun UQ=>
    some UQ).bind fun v11=>
  some (.inl ((al .i64 s4.1 (1:Int)),v11))
 else
  some (.inr s4.2)
noncomputable def iE (a0:List Nat)(a1:List Nat)(a2:Int):Option (List Nat):=
 (cc a1).bind fun y1=>
 az (a2≠0) (
  (rounds (kA a0 a2) ((0:Int),y1)).bind fun r6=>
  some r6)
theorem Dn {a0:List Nat}{a1:List Nat}{a2:Int}{r:List Nat}(hr:iE a0 a1 a2=some r):CallOK Try.prog 116 [.au aY a0,.au aY a1,.au tI a2] [⟨true,aY,r⟩] []:=by
 unfold iE at hr;refine ij [(true,aY)] Try.func116 rfl [] fun cx hX hF=> ?_;show HT cx ⟨[(0,lV a0),(1,lV a1),(2,iV a2)],[],0⟩ _ _;refine ay [oH] ⟨[(0,lV a0),(1,lV a1),(2,iV a2)],[],0⟩ hX aN ?_;obtain ⟨y1,eV,hr⟩:=af hr;refine ay [oH,⟨none,.call [.au aY] [⟨true,aY,y1⟩] []⟩,oH] ⟨[(0,lV a0),(2,iV a2),(7,aV 0)],[(0,.seq tF y1)],1⟩ hX (aC (wX eV) aN) ?_;refine HT.seq ?_;obtain ⟨To,hr⟩:=ao hr;refine ay (aO 5) ⟨[(0,lV a0),(2,iV a2),(7,aV 0),(18,iV (IntKind.wrap .i64 (Int.tdiv (ai a0) a2))),(19,iV (0:Int))],[(0,.seq tF y1)],1⟩ hX (aC To aN) ?_;refine HT.block ?_;obtain ⟨r5,XW,hr⟩:=af hr;refine HT.ct (fun (s4:Int×List Nat)=>⟨[(0,lV a0),(2,iV a2),(7,aV 0),(18,iV (IntKind.wrap .i64 (Int.tdiv (ai a0) a2))),(19,iV s4.1)],[(0,.seq tF s4.2)],1⟩) (fun (r6:List Nat)=>(.exit 0,⟨[(7,aV 0)],[(0,.seq tF r6)],1⟩)) (Le.re [(0,0)] [] hX (by kernel_rfl)) XW ?_ (fun s4 x7 zY XG=> ?_);refine (aZ (aj ?_));refine ay (aO 2) ⟨[(6,aV 0)],[(0,.seq tF r5)],1⟩ hX aN ?_;have hr:=ae hr;subst hr;exact HT.ret (rO [aV 0] [0] [] trivial);refine ay [oH] ⟨[(0,lV a0),(2,iV a2),(7,aV 0),(18,iV (IntKind.wrap .i64 (Int.tdiv (ai a0) a2))),(19,iV s4.1),(20,bV (decide (s4.1<(IntKind.wrap .i64 (Int.tdiv (ai a0) a2)))))],[(0,.seq tF s4.2)],1⟩ hX aN ?_;refine HT.seq ?_;rcases an zY with ⟨GZ,zY⟩|⟨GZ,zY⟩
 refine HT.aK rfl GZ ?_;refine HT.skip (aj ?_);obtain ⟨XX,Ad,zY⟩:=af zY;refine HT.join (fun (v11:List Nat)=>⟨[(0,lV a0),(2,iV a2),(7,aV 0),(18,iV (IntKind.wrap .i64 (Int.tdiv (ai a0) a2))),(19,iV s4.1)],[(0,.seq tF v11)],1⟩) (fun v=>v=XX) (fun v11 XY=> ?_) (fun cont=> ?_);subst XY;have zY:=ae zY;subst zY;exact HT.cR (aO 2) [(0,0)] [] hX (by kernel_rfl) aN (fun _ h=>(bJ ⟨((al .i64 s4.1 (1:Int)),v11),rfl,h⟩));refine HT.block ?_;refine ay (aO 2) ⟨[(0,lV a0),(2,iV a2),(7,aV 0),(8,iV s4.1),(18,iV (IntKind.wrap .i64 (Int.tdiv (ai a0) a2))),(19,iV s4.1)],[(0,.seq tF s4.2)],1⟩ hX aN ?_;obtain ⟨o8,G1,Ad⟩:=af Ad;refine ay [oH,oH,oH,⟨none,.call [.au aY,.au tI,.au tI] [⟨false,aY,o8⟩] []⟩,oH] ⟨[(0,lV a0),(2,iV a2),(7,aV 0),(8,iV s4.1),(9,lV o8),(18,iV (IntKind.wrap .i64 (Int.tdiv (ai a0) a2))),(19,iV s4.1)],[(0,.seq tF s4.2)],1⟩ hX (aC (LP G1) aN) ?_;obtain ⟨Bq,Ri,Ad⟩:=af Ad;refine ay [oH,⟨none,.call [.au aY] [⟨false,tF,Bq⟩] []⟩,oH] ⟨[(0,lV a0),(2,iV a2),(7,aV 0),(8,iV s4.1),(9,lV o8),(10,fV Bq),(18,iV (IntKind.wrap .i64 (Int.tdiv (ai a0) a2))),(19,iV s4.1)],[(0,.seq tF s4.2)],1⟩ hX (aC (Dh Ri) aN) ?_;refine HT.seq ?_;refine ay (aO 3) ⟨[(0,lV a0),(2,iV a2),(7,aV 0),(8,iV s4.1),(9,lV o8),(10,fV Bq),(18,iV (IntKind.wrap .i64 (Int.tdiv (ai a0) a2))),(19,iV s4.1),(30,bV (!(qI .f32 Bq (0:Nat))))],[(0,.seq tF s4.2)],1⟩ hX aN ?_;rcases an Ad with ⟨nw,Ad⟩|⟨nw,Ad⟩
 refine HT.aK rfl nw ?_;refine HT.exit (bF (aZ (aj ?_)));exact (Le.re [(0,0)] [] hX (by kernel_rfl)).ht (cont s4.2 (ae Ad));refine HT.aJ rfl nw ?_;refine HT.skip (aj ?_);refine ay (aO 3) ⟨[(0,lV a0),(2,iV a2),(7,aV 0),(8,iV s4.1),(10,fV Bq),(18,iV (IntKind.wrap .i64 (Int.tdiv (ai a0) a2))),(19,iV s4.1),(31,lV o8),(32,iV (ai o8)),(33,iV (0:Int))],[(0,.seq tF s4.2)],1⟩ hX aN ?_;refine HT.block ?_;obtain ⟨r20,Ro,Ad⟩:=af Ad;refine HT.ct (fun (uN:Int×List Nat)=>⟨[(0,lV a0),(2,iV a2),(7,aV 0),(8,iV s4.1),(10,fV Bq),(18,iV (IntKind.wrap .i64 (Int.tdiv (ai a0) a2))),(19,iV s4.1),(31,lV o8),(32,iV (ai o8)),(33,iV uN.1)],[(0,.seq tF uN.2)],1⟩) (fun (UQ:List Nat)=>(.exit 2,⟨[(0,lV a0),(2,iV a2),(7,aV 0),(18,iV (IntKind.wrap .i64 (Int.tdiv (ai a0) a2))),(19,iV s4.1)],[(0,.seq tF UQ)],1⟩)) (Le.re [(0,0)] [] hX (by kernel_rfl)) Ro ?_ (fun uN x22 fS Oo=> ?_);refine (aZ (bC (aj ?_)));exact (Le.re [(0,0)] [] hX (by kernel_rfl)).ht (cont r20 (ae Ad));refine ay [oH] ⟨[(0,lV a0),(2,iV a2),(7,aV 0),(8,iV s4.1),(10,fV Bq),(18,iV (IntKind.wrap .i64 (Int.tdiv (ai a0) a2))),(19,iV s4.1),(31,lV o8),(32,iV (ai o8)),(33,iV uN.1),(34,bV (decide (uN.1<(ai o8))))],[(0,.seq tF uN.2)],1⟩ hX aN ?_;refine HT.seq ?_;rcases an fS with ⟨sE,fS⟩|⟨sE,fS⟩
 refine HT.aK rfl sE ?_;refine HT.skip (aj ?_);refine HT.seq ?_;refine HT.block ?_;obtain ⟨Ry,fS⟩:=ao fS;refine ay (aO 5) ⟨[(0,lV a0),(2,iV a2),(7,aV 0),(8,iV s4.1),(10,fV Bq),(11,iV uN.1),(12,fV (List.getD o8 (Int.toNat uN.1) (0:Nat))),(18,iV (IntKind.wrap .i64 (Int.tdiv (ai a0) a2))),(19,iV s4.1),(31,lV o8),(32,iV (ai o8)),(33,iV uN.1)],[(0,.seq tF uN.2)],1⟩ hX (aC Ry aN) ?_;obtain ⟨L3,fS⟩:=ao fS;refine HT.xM (aO 11) ⟨[(0,lV a0),(2,iV a2),(7,aV 0),(8,iV s4.1),(10,fV Bq),(18,iV (IntKind.wrap .i64 (Int.tdiv (ai a0) a2))),(19,iV s4.1),(31,lV o8),(32,iV (ai o8)),(33,iV uN.1)],[(0,.seq tF (List.set uN.2 (Int.toNat (al .i64 (aU .i64 s4.1 a2) uN.1)) (av .quo .f32 (List.getD o8 (Int.toNat uN.1) (0:Nat)) Bq)))],1⟩ hX (by kernel_rfl) (aC L3 (aC (gy L3) aN)) (bC (aj ?_));have fS:=ae fS;subst fS;exact HT.cR (aO 2) [(0,0)] [] hX (by kernel_rfl) aN (fun _ h=>(bJ ⟨((al .i64 uN.1 (1:Int)),(List.set uN.2 (Int.toNat (al .i64 (aU .i64 s4.1 a2) uN.1)) (av .quo .f32 (List.getD o8 (Int.toNat uN.1) (0:Nat)) Bq))),rfl,h⟩));refine HT.aJ rfl sE ?_;have fS:=ae fS;subst fS;exact HT.cr (Le.re [(0,0)] [] hX (by kernel_rfl)) (bF (bI (Oo uN.2 rfl)));refine HT.aJ rfl GZ ?_;have zY:=ae zY;subst zY;exact HT.cr (Le.re [(0,0)] [] hX (by kernel_rfl)) (bF (bI (XG s4.2 rfl)))
noncomputable def gR (a0:eC):Option ((eC)×Bool):=
 (e7 (a0.1,a0.2.1,a0.2.2.1,a0.2.2.2.1,a0.2.2.2.2)).bind fun y1=>
 bif (!y1) then
  some (((0:Int),(0:Int),([]:List Nat),([]:List Nat),([]:List Nat)),false)
 else
  some ((a0.1,a0.2.1,a0.2.2.1,a0.2.2.2.1,a0.2.2.2.2),true)
theorem G8 {a0:eC}{r:(eC)×Bool}(hr:gR a0=some r):CallOK Try.prog 94 [.mv tM a0] [⟨true,tM,r.1⟩,⟨false,.bool,r.2⟩] []:=by
 unfold gR at hr;refine CallOK.vv (ts:=[(true,tM),(false,.bool)]) Try.func94 rfl (by kernel_rfl) (Nat.le_of_ble_eq_true (by kernel_rfl)) fun cx hP hN hO hF=> ?_;have hO:cx.own.map Prod.fst=[]:=hO;have hX:=vy.mk hP hN hO;show HT cx ⟨[(0,.agg [iC a0.1,iC a0.2.1,.all 0,.all 1,.all 2])],[(0,.seq tF a0.2.2.1),(1,.seq tF a0.2.2.2.1),(2,.seq tF a0.2.2.2.2)],3⟩ _ _;refine ay (aO 3) ⟨[(1,pV 3 0),(2,pV 4 0)],[(4,.box [iC (0:Int),iC (0:Int),.ar,.ar,.ar]),(3,.box [iC a0.1,iC a0.2.1,.all 0,.all 1,.all 2]),(0,.seq tF a0.2.2.1),(1,.seq tF a0.2.2.2.1),(2,.seq tF a0.2.2.2.2)],5⟩ hX aN ?_;refine HT.seq ?_;obtain ⟨y1,eV,hr⟩:=af hr;refine ay [oH,⟨none,.call [.au tM] [⟨false,.bool,y1⟩] []⟩,oH] ⟨[(1,pV 3 0),(2,pV 4 0),(6,bV (!y1))],[(4,.box [iC (0:Int),iC (0:Int),.ar,.ar,.ar]),(3,.box [iC a0.1,iC a0.2.1,.all 0,.all 1,.all 2]),(0,.seq tF a0.2.2.1),(1,.seq tF a0.2.2.2.1),(2,.seq tF a0.2.2.2.2)],5⟩ hX (aC (uL eV) aN) ?_;rcases an hr with ⟨m6,hr⟩|⟨m6,hr⟩
 refine HT.aK rfl m6 ?_;refine ay (aO 3) ⟨[(2,pV 4 0),(3,bV false)],[(4,.box [iC (0:Int),iC (0:Int),.ar,.ar,.ar])],5⟩ hX aN ?_;have hr:=ae hr;subst hr;exact HT.ret (aM (rO [.agg [iC (0:Int),iC (0:Int),.ar,.ar,.ar],bV false] [] [] trivial));refine HT.aJ rfl m6 ?_;refine HT.skip (aj ?_);refine ay (aO 3) ⟨[(2,pV 4 0),(3,bV true)],[(4,.box [iC a0.1,iC a0.2.1,.all 0,.all 1,.all 2]),(0,.seq tF a0.2.2.1),(1,.seq tF a0.2.2.2.1),(2,.seq tF a0.2.2.2.2)],5⟩ hX aN ?_;have hr:=ae hr;subst hr;exact HT.ret (rO [.agg [iC a0.1,iC a0.2.1,.all 0,.all 1,.all 2],bV true] [0,1,2] [] trivial)
noncomputable def gq (a0:eC)(a1:List Nat×List Nat×List Nat):Option ((eC)×Bool):=
 (iE a1.1 a0.2.2.1 a0.1).bind fun y1=>
 (iE a1.2.1 a0.2.2.2.1 a0.1).bind fun y3=>
 (iE a1.2.2 a0.2.2.2.2 a0.2.1).bind fun y5=>
 (gR (a0.1,a0.2.1,y1,y3,y5)).bind fun y7=>
 some ((y7.1.1,y7.1.2.1,y7.1.2.2.1,y7.1.2.2.2.1,y7.1.2.2.2.2),y7.2)
theorem L4 {a0:eC}{a1:List Nat×List Nat×List Nat}{r:(eC)×Bool}(hr:gq a0 a1=some r):CallOK Try.prog 73 [.au tM a0,.au (.st (.pair aY (.pair aY aY))) a1] [⟨true,tM,r.1⟩,⟨false,.bool,r.2⟩] []:=by
 unfold gq at hr;refine ij [(true,tM),(false,.bool)] Try.func73 rfl [] fun cx hX hF=> ?_;show HT cx ⟨[(0,.agg [iC a0.1,iC a0.2.1,lC a0.2.2.1,lC a0.2.2.2.1,lC a0.2.2.2.2]),(1,.agg [lC a1.1,lC a1.2.1,lC a1.2.2])],[],0⟩ _ _;refine ay (aO 4) ⟨[(2,pV 0 0),(3,pV 1 0),(4,pV 2 0)],[(2,.box [iC (0:Int),iC (0:Int),.ar,.ar,.ar]),(1,.box [lC a1.1,lC a1.2.1,lC a1.2.2]),(0,cb a0)],3⟩ hX aN ?_;obtain ⟨y1,eV,hr⟩:=af hr;obtain ⟨y3,Og,hr⟩:=af hr;obtain ⟨y5,JX,hr⟩:=af hr;obtain ⟨y7,BY,hr⟩:=af hr;refine HT.D7 29 [o0,⟨oH,[0]⟩,o0,⟨oH,[2]⟩,o0,⟨oH,[4]⟩,o0,⟨oH,[6]⟩,o0,⟨oH,[8]⟩,⟨⟨none,.call [.au aY,.au aY,.au tI] [⟨true,aY,y1⟩] []⟩,[4,5,6,7,8,9]⟩,o0,⟨oH,[11]⟩,o0,⟨oH,[13]⟩,o0,⟨oH,[15]⟩,⟨⟨none,.call [.au aY,.au aY,.au tI] [⟨true,aY,y3⟩] []⟩,[4,5,6,7,8,9,10,11,12,13,14,15,16]⟩,o0,⟨oH,[18]⟩,o0,⟨oH,[20]⟩,o0,⟨oH,[22]⟩,⟨⟨none,.call [.au aY,.au aY,.au tI] [⟨true,aY,y5⟩] []⟩,[4,5,6,7,8,9,10,11,12,13,14,15,16,17,18,19,20,21,22,23]⟩,⟨oH,(rL 25)⟩,⟨⟨none,.call [.mv tM] [⟨true,tM,y7.1⟩,⟨false,.bool,y7.2⟩] []⟩,(rL 26)⟩,⟨oH,(rL 27)⟩,⟨oH,(rL 27)⟩] [(rL 29),(rL 30)] (aO 2) ⟨[(4,pV 2 0),(5,bV y7.2)],[(2,.box [iC y7.1.1,iC y7.1.2.1,.all 6,.all 7,.all 8]),(6,.seq tF y7.1.2.2.1),(7,.seq tF y7.1.2.2.2.1),(8,.seq tF y7.1.2.2.2.2)],9⟩ hX (by kernel_rfl) (by kernel_rfl) (aC (Dn eV) (aC (Dn Og) (aC (Dn JX) (aC (G8 BY) aN)))) ?_;have hr:=ae hr;subst hr;exact HT.ret (rO [.agg [iC y7.1.1,iC y7.1.2.1,.all 6,.all 7,.all 8],bV y7.2] [6,7,8] [] trivial)
noncomputable def gb (a0:eC)(a1:List Int)(s3:Int×List (List Nat)):Option ((Int×List (List Nat))⊕(List (List Nat))):=
 bif (decide (s3.1<(ai a1))) then
  az ((0:Int)≤s3.1∧s3.1<ai a1) (
   az ((0:Int)≤s3.1∧s3.1<ai s3.2) (
    (ej (a0.1,a0.2.1,a0.2.2.1,a0.2.2.2.1,a0.2.2.2.2) (List.getD s3.2 (Int.toNat s3.1) ([]:List Nat)) (List.getD a1 (Int.toNat s3.1) (0:Int))).bind fun uJ=>
    az (List.length s3.2+List.length ([uJ]:List (List Nat))≤bO) (
     some (.inl ((al .i64 s3.1 (1:Int)),(s3.2++([uJ]:List (List Nat))))))))
 else
  some (.inr s3.2)
noncomputable def fT (a0:eC)(a1:List Int):Option (List (List Nat)):=
 (cc a0.2.2.1).bind fun y1=>
 (rounds (gb a0 a1) ((0:Int),([y1]:List (List Nat)))).bind fun r5=>
 some r5
theorem Rz {a0:eC}{a1:List Int}{r:List (List Nat)}(hr:fT a0 a1=some r):CallOK Try.prog 62 [.au tM a0,.au bM a1] [⟨false,(.sl aY),r⟩] []:=by
 unfold fT at hr;refine ij [(false,(.sl aY))] Try.func62 rfl [] fun cx hX hF=> ?_;show HT cx ⟨[(0,.agg [iC a0.1,iC a0.2.1,lC a0.2.2.1,lC a0.2.2.2.1,lC a0.2.2.2.2]),(1,nV a1)],[],0⟩ _ _;refine ay (aO 2) ⟨[(1,nV a1),(2,pV 0 0)],[(0,cb a0)],1⟩ hX aN ?_;obtain ⟨y1,eV,hr⟩:=af hr;refine ay [oH,oH,⟨none,.call [.au aY] [⟨false,aY,y1⟩] []⟩,⟨none,.ty aY⟩,oH] ⟨[(1,nV a1),(2,pV 0 0),(5,aV 1)],[(1,.seq aY ([y1]:List (List Nat))),(0,cb a0)],2⟩ hX (aC (CallOK.Ub [true] rfl (wX eV)) aN) ?_;refine HT.seq ?_;refine ay (aO 3) ⟨[(2,pV 0 0),(5,aV 1),(12,nV a1),(13,iV (ai a1)),(14,iV (0:Int))],[(1,.seq aY ([y1]:List (List Nat))),(0,cb a0)],2⟩ hX aN ?_;refine HT.block ?_;obtain ⟨r4,G4,hr⟩:=af hr;refine HT.ct (fun (s3:Int×List (List Nat))=>⟨[(2,pV 0 0),(5,aV 1),(12,nV a1),(13,iV (ai a1)),(14,iV s3.1)],[(0,cb a0),(1,.seq aY s3.2)],2⟩) (fun (r5:List (List Nat))=>(.exit 0,⟨[(5,aV 0)],[(0,.seq aY r5)],1⟩)) (Le.re [(0,0),(1,1)] [] hX (by kernel_rfl)) G4 ?_ (fun s3 x6 et Is=> ?_);refine (aZ (aj ?_));refine ay (aO 2) ⟨[(4,aV 0)],[(0,.seq aY r4)],1⟩ hX aN ?_;have hr:=ae hr;subst hr;refine (Le.rz [] [] (st':=⟨[(4,.one (.aq (.sl aY) r4))],[],1⟩) hX hF (by kernel_rfl)).ht ?_;exact HT.ret (rO [.one (.aq (.sl aY) r4)] [] [] trivial);refine ay [oH] ⟨[(2,pV 0 0),(5,aV 1),(12,nV a1),(13,iV (ai a1)),(14,iV s3.1),(15,bV (decide (s3.1<(ai a1))))],[(0,cb a0),(1,.seq aY s3.2)],2⟩ hX aN ?_;refine HT.seq ?_;rcases an et with ⟨na,et⟩|⟨na,et⟩
 refine HT.aK rfl na ?_;refine HT.skip (aj ?_);refine HT.seq ?_;refine HT.block ?_;obtain ⟨yk,et⟩:=ao et;refine ay (aO 5) ⟨[(2,pV 0 0),(5,aV 1),(6,iV s3.1),(7,iV (List.getD a1 (Int.toNat s3.1) (0:Int))),(12,nV a1),(13,iV (ai a1)),(14,iV s3.1)],[(0,cb a0),(1,.seq aY s3.2)],2⟩ hX (aC yk aN) ?_;obtain ⟨sC,et⟩:=ao et;obtain ⟨uJ,Aa,et⟩:=af et;obtain ⟨Oq,et⟩:=ao et;refine HT.PT 9 [o0,o0,o0,o0,⟨oH,[2,3]⟩,⟨oH,[2,3,4]⟩,o0,⟨⟨none,.call [.au tM,.au aY,.au tI] [⟨false,aY,uJ⟩] []⟩,[1,2,3,4,5,6]⟩,⟨⟨none,.ty aY⟩,[1,2,3,4,5,6,7]⟩] [(rL 9),(rL 10)] [⟨none,.ty aY⟩,oH] ⟨[(2,pV 0 0),(5,aV 3),(12,nV a1),(13,iV (ai a1)),(14,iV s3.1)],[(3,.seq aY (s3.2++([uJ]:List (List Nat)))),(0,cb a0)],4⟩ hX (by kernel_rfl) (by kernel_rfl) (aC sC (aC (gy sC) (aC (CallOK.Ub [true] rfl (LU Aa)) (aC Oq aN)))) (bC (aj ?_));have et:=ae et;subst et;exact HT.cR (aO 2) [(0,0),(3,1)] [] hX (by kernel_rfl) aN (fun _ h=>(bJ ⟨((al .i64 s3.1 (1:Int)),(s3.2++([uJ]:List (List Nat)))),rfl,h⟩));refine HT.aJ rfl na ?_;have et:=ae et;subst et;exact HT.cr (Le.re [(1,0)] [] hX (by kernel_rfl)) (bF (bI (Is s3.2 rfl)))
noncomputable def nz (a0:Int)(a1:Int):Option (Int×Int):=
 (some (IntKind.wrap .u64 (BitVec.ofInt (IntKind.bits .u64) a0&&& BitVec.ofInt (IntKind.bits .u64) (4294967295:Int)).toNat)).bind fun q1=>
 (some (IntKind.wrap .u64 (BitVec.ofInt (IntKind.bits .u64) a1&&& BitVec.ofInt (IntKind.bits .u64) (4294967295:Int)).toNat)).bind fun q3=>
 (some (al .u64 (aU .u64 (Int.fdiv a0 (2^(min (Int.toNat (32:Int)) (IntKind.bits .u64)))) q3) (Int.fdiv (aU .u64 q1 q3) (2^(min (Int.toNat (32:Int)) (IntKind.bits .u64)))))).bind fun q5=>
 (some (IntKind.wrap .u64 (BitVec.ofInt (IntKind.bits .u64) q5&&& BitVec.ofInt (IntKind.bits .u64) (4294967295:Int)).toNat)).bind fun q7=>
 (some (al .u64 q7 (aU .u64 q1 (Int.fdiv a1 (2^(min (Int.toNat (32:Int)) (IntKind.bits .u64))))))).bind fun q9=>
 (some (al .u64 (al .u64 (aU .u64 (Int.fdiv a0 (2^(min (Int.toNat (32:Int)) (IntKind.bits .u64)))) (Int.fdiv a1 (2^(min (Int.toNat (32:Int)) (IntKind.bits .u64))))) (Int.fdiv q5 (2^(min (Int.toNat (32:Int)) (IntKind.bits .u64))))) (Int.fdiv q9 (2^(min (Int.toNat (32:Int)) (IntKind.bits .u64)))))).bind fun Ix=>
 some (Ix,(aU .u64 a0 a1))
theorem Ot {a0:Int}{a1:Int}{r:Int×Int}(hr:nz a0 a1=some r):CallOK Try.prog 138 [.au (.int .u64) a0,.au (.int .u64) a1] [⟨false,(.int .u64),r.1⟩,⟨false,(.int .u64),r.2⟩] []:=by
 unfold nz at hr;refine ij [(false,(.int .u64)),(false,(.int .u64))] Try.func138 rfl [] fun cx hX hF=> ?_;show HT cx ⟨[(0,.one (.aq (.int .u64) a0)),(1,.one (.aq (.int .u64) a1))],[],0⟩ _ _;refine ay (aO 2) ⟨[(0,.one (.aq (.int .u64) a0)),(1,.one (.aq (.int .u64) a1))],[],0⟩ hX aN ?_;refine ay (aO 3) ⟨[(0,.one (.aq (.int .u64) a0)),(1,.one (.aq (.int .u64) a1)),(6,.one (.aq (.int .u64) (IntKind.wrap .u64 (BitVec.ofInt (IntKind.bits .u64) a0&&& BitVec.ofInt (IntKind.bits .u64) (4294967295:Int)).toNat)))],[],0⟩ hX aN ?_;obtain ⟨q1,yu,hr⟩:=af hr;have yu:=fh yu;refine (Le.cv (s:=⟨[],[],[],false⟩) (own:=[]) (ps:=[a0=a0,a1=a1,q1=(IntKind.wrap .u64 (BitVec.ofInt (IntKind.bits .u64) a0&&& BitVec.ofInt (IntKind.bits .u64) (4294967295:Int)).toNat)]) (st':=⟨[(0,.one (.aq (.int .u64) a0)),(1,.one (.aq (.int .u64) a1)),(6,.one (.aq (.int .u64) q1))],[],0⟩) hX.own (fun h=>by cases h) (by kernel_rfl) ⟨rfl,rfl,yu,trivial⟩).ht ?_;refine ay (aO 3) ⟨[(0,.one (.aq (.int .u64) a0)),(1,.one (.aq (.int .u64) a1)),(6,.one (.aq (.int .u64) q1)),(7,.one (.aq (.int .u64) (Int.fdiv a0 (2^(min (Int.toNat (32:Int)) (IntKind.bits .u64))))))],[],0⟩ hX (aC (show (0:Int)≤(32:Int) from by decide) aN) ?_;refine ay (aO 3) ⟨[(0,.one (.aq (.int .u64) a0)),(1,.one (.aq (.int .u64) a1)),(6,.one (.aq (.int .u64) q1)),(7,.one (.aq (.int .u64) (Int.fdiv a0 (2^(min (Int.toNat (32:Int)) (IntKind.bits .u64)))))),(8,.one (.aq (.int .u64) (IntKind.wrap .u64 (BitVec.ofInt (IntKind.bits .u64) a1&&& BitVec.ofInt (IntKind.bits .u64) (4294967295:Int)).toNat)))],[],0⟩ hX aN ?_;obtain ⟨q3,XZ,hr⟩:=af hr;have XZ:=fh XZ;refine (Le.cv (s:=⟨[],[],[],false⟩) (own:=[]) (ps:=[a0=a0,a1=a1,q1=q1,(Int.fdiv a0 (2^(min (Int.toNat (32:Int)) (IntKind.bits .u64))))=(Int.fdiv a0 (2^(min (Int.toNat (32:Int)) (IntKind.bits .u64)))),q3=(IntKind.wrap .u64 (BitVec.ofInt (IntKind.bits .u64) a1&&& BitVec.ofInt (IntKind.bits .u64) (4294967295:Int)).toNat)]) (st':=⟨[(0,.one (.aq (.int .u64) a0)),(1,.one (.aq (.int .u64) a1)),(6,.one (.aq (.int .u64) q1)),(7,.one (.aq (.int .u64) (Int.fdiv a0 (2^(min (Int.toNat (32:Int)) (IntKind.bits .u64)))))),(8,.one (.aq (.int .u64) q3))],[],0⟩) hX.own (fun h=>by cases h) (by kernel_rfl) ⟨rfl,rfl,rfl,rfl,XZ,trivial⟩).ht ?_;refine ay (aO 3) ⟨[(0,.one (.aq (.int .u64) a0)),(1,.one (.aq (.int .u64) a1)),(6,.one (.aq (.int .u64) q1)),(7,.one (.aq (.int .u64) (Int.fdiv a0 (2^(min (Int.toNat (32:Int)) (IntKind.bits .u64)))))),(8,.one (.aq (.int .u64) q3)),(9,.one (.aq (.int .u64) (Int.fdiv a1 (2^(min (Int.toNat (32:Int)) (IntKind.bits .u64))))))],[],0⟩ hX (aC (show (0:Int)≤(32:Int) from by decide) aN) ?_;refine ay (aO 4) ⟨[(0,.one (.aq (.int .u64) a0)),(1,.one (.aq (.int .u64) a1)),(6,.one (.aq (.int .u64) q1)),(7,.one (.aq (.int .u64) (Int.fdiv a0 (2^(min (Int.toNat (32:Int)) (IntKind.bits .u64)))))),(8,.one (.aq (.int .u64) q3)),(9,.one (.aq (.int .u64) (Int.fdiv a1 (2^(min (Int.toNat (32:Int)) (IntKind.bits .u64)))))),(10,.one (.aq (.int .u64) (aU .u64 q1 q3)))],[],0⟩ hX aN ?_;refine ay (aO 7) ⟨[(0,.one (.aq (.int .u64) a0)),(1,.one (.aq (.int .u64) a1)),(6,.one (.aq (.int .u64) q1)),(7,.one (.aq (.int .u64) (Int.fdiv a0 (2^(min (Int.toNat (32:Int)) (IntKind.bits .u64)))))),(9,.one (.aq (.int .u64) (Int.fdiv a1 (2^(min (Int.toNat (32:Int)) (IntKind.bits .u64)))))),(11,.one (.aq (.int .u64) (al .u64 (aU .u64 (Int.fdiv a0 (2^(min (Int.toNat (32:Int)) (IntKind.bits .u64)))) q3) (Int.fdiv (aU .u64 q1 q3) (2^(min (Int.toNat (32:Int)) (IntKind.bits .u64)))))))],[],0⟩ hX (aC (show (0:Int)≤(32:Int) from by decide) aN) ?_;obtain ⟨q5,LM,hr⟩:=af hr;have LM:=fh LM;refine (Le.cv (s:=⟨[],[],[],false⟩) (own:=[]) (ps:=[a0=a0,a1=a1,q1=q1,(Int.fdiv a0 (2^(min (Int.toNat (32:Int)) (IntKind.bits .u64))))=(Int.fdiv a0 (2^(min (Int.toNat (32:Int)) (IntKind.bits .u64)))),(Int.fdiv a1 (2^(min (Int.toNat (32:Int)) (IntKind.bits .u64))))=(Int.fdiv a1 (2^(min (Int.toNat (32:Int)) (IntKind.bits .u64)))),q5=(al .u64 (aU .u64 (Int.fdiv a0 (2^(min (Int.toNat (32:Int)) (IntKind.bits .u64)))) q3) (Int.fdiv (aU .u64 q1 q3) (2^(min (Int.toNat (32:Int)) (IntKind.bits .u64)))))]) (st':=⟨[(0,.one (.aq (.int .u64) a0)),(1,.one (.aq (.int .u64) a1)),(6,.one (.aq (.int .u64) q1)),(7,.one (.aq (.int .u64) (Int.fdiv a0 (2^(min (Int.toNat (32:Int)) (IntKind.bits .u64)))))),(9,.one (.aq (.int .u64) (Int.fdiv a1 (2^(min (Int.toNat (32:Int)) (IntKind.bits .u64)))))),(11,.one (.aq (.int .u64) q5))],[],0⟩) hX.own (fun h=>by cases h) (by kernel_rfl) ⟨rfl,rfl,rfl,rfl,rfl,LM,trivial⟩).ht ?_;refine ay (aO 3) ⟨[(0,.one (.aq (.int .u64) a0)),(1,.one (.aq (.int .u64) a1)),(6,.one (.aq (.int .u64) q1)),(7,.one (.aq (.int .u64) (Int.fdiv a0 (2^(min (Int.toNat (32:Int)) (IntKind.bits .u64)))))),(9,.one (.aq (.int .u64) (Int.fdiv a1 (2^(min (Int.toNat (32:Int)) (IntKind.bits .u64)))))),(11,.one (.aq (.int .u64) q5)),(12,.one (.aq (.int .u64) (IntKind.wrap .u64 (BitVec.ofInt (IntKind.bits .u64) q5&&& BitVec.ofInt (IntKind.bits .u64) (4294967295:Int)).toNat)))],[],0⟩ hX aN ?_;obtain ⟨q7,Rq,hr⟩:=af hr;have Rq:=fh Rq;refine (Le.cv (s:=⟨[],[],[],false⟩) (own:=[]) (ps:=[a0=a0,a1=a1,q1=q1,(Int.fdiv a0 (2^(min (Int.toNat (32:Int)) (IntKind.bits .u64))))=(Int.fdiv a0 (2^(min (Int.toNat (32:Int)) (IntKind.bits .u64)))),(Int.fdiv a1 (2^(min (Int.toNat (32:Int)) (IntKind.bits .u64))))=(Int.fdiv a1 (2^(min (Int.toNat (32:Int)) (IntKind.bits .u64)))),q5=q5,q7=(IntKind.wrap .u64 (BitVec.ofInt (IntKind.bits .u64) q5&&& BitVec.ofInt (IntKind.bits .u64) (4294967295:Int)).toNat)]) (st':=⟨[(0,.one (.aq (.int .u64) a0)),(1,.one (.aq (.int .u64) a1)),(6,.one (.aq (.int .u64) q1)),(7,.one (.aq (.int .u64) (Int.fdiv a0 (2^(min (Int.toNat (32:Int)) (IntKind.bits .u64)))))),(9,.one (.aq (.int .u64) (Int.fdiv a1 (2^(min (Int.toNat (32:Int)) (IntKind.bits .u64)))))),(11,.one (.aq (.int .u64) q5)),(12,.one (.aq (.int .u64) q7))],[],0⟩) hX.own (fun h=>by cases h) (by kernel_rfl) ⟨rfl,rfl,rfl,rfl,rfl,rfl,Rq,trivial⟩).ht ?_;refine ay (aO 3) ⟨[(0,.one (.aq (.int .u64) a0)),(1,.one (.aq (.int .u64) a1)),(6,.one (.aq (.int .u64) q1)),(7,.one (.aq (.int .u64) (Int.fdiv a0 (2^(min (Int.toNat (32:Int)) (IntKind.bits .u64)))))),(9,.one (.aq (.int .u64) (Int.fdiv a1 (2^(min (Int.toNat (32:Int)) (IntKind.bits .u64)))))),(12,.one (.aq (.int .u64) q7)),(13,.one (.aq (.int .u64) (Int.fdiv q5 (2^(min (Int.toNat (32:Int)) (IntKind.bits .u64))))))],[],0⟩ hX (aC (show (0:Int)≤(32:Int) from by decide) aN) ?_;refine ay (aO 6) ⟨[(0,.one (.aq (.int .u64) a0)),(1,.one (.aq (.int .u64) a1)),(7,.one (.aq (.int .u64) (Int.fdiv a0 (2^(min (Int.toNat (32:Int)) (IntKind.bits .u64)))))),(9,.one (.aq (.int .u64) (Int.fdiv a1 (2^(min (Int.toNat (32:Int)) (IntKind.bits .u64)))))),(12,.one (.aq (.int .u64) (al .u64 q7 (aU .u64 q1 (Int.fdiv a1 (2^(min (Int.toNat (32:Int)) (IntKind.bits .u64)))))))),(13,.one (.aq (.int .u64) (Int.fdiv q5 (2^(min (Int.toNat (32:Int)) (IntKind.bits .u64))))))],[],0⟩ hX aN ?_;obtain ⟨q9,G9,hr⟩:=af hr;have G9:=fh G9;refine (Le.cv (s:=⟨[],[],[],false⟩) (own:=[]) (ps:=[a0=a0,a1=a1,(Int.fdiv a0 (2^(min (Int.toNat (32:Int)) (IntKind.bits .u64))))=(Int.fdiv a0 (2^(min (Int.toNat (32:Int)) (IntKind.bits .u64)))),(Int.fdiv a1 (2^(min (Int.toNat (32:Int)) (IntKind.bits .u64))))=(Int.fdiv a1 (2^(min (Int.toNat (32:Int)) (IntKind.bits .u64)))),q9=(al .u64 q7 (aU .u64 q1 (Int.fdiv a1 (2^(min (Int.toNat (32:Int)) (IntKind.bits .u64)))))),(Int.fdiv q5 (2^(min (Int.toNat (32:Int)) (IntKind.bits .u64))))=(Int.fdiv q5 (2^(min (Int.toNat (32:Int)) (IntKind.bits .u64))))]) (st':=⟨[(0,.one (.aq (.int .u64) a0)),(1,.one (.aq (.int .u64) a1)),(7,.one (.aq (.int .u64) (Int.fdiv a0 (2^(min (Int.toNat (32:Int)) (IntKind.bits .u64)))))),(9,.one (.aq (.int .u64) (Int.fdiv a1 (2^(min (Int.toNat (32:Int)) (IntKind.bits .u64)))))),(12,.one (.aq (.int .u64) q9)),(13,.one (.aq (.int .u64) (Int.fdiv q5 (2^(min (Int.toNat (32:Int)) (IntKind.bits .u64))))))],[],0⟩) hX.own (fun h=>by cases h) (by kernel_rfl) ⟨rfl,rfl,rfl,rfl,G9,rfl,trivial⟩).ht ?_;refine ay (aO 9) ⟨[(0,.one (.aq (.int .u64) a0)),(1,.one (.aq (.int .u64) a1)),(4,.one (.aq (.int .u64) (al .u64 (al .u64 (aU .u64 (Int.fdiv a0 (2^(min (Int.toNat (32:Int)) (IntKind.bits .u64)))) (Int.fdiv a1 (2^(min (Int.toNat (32:Int)) (IntKind.bits .u64))))) (Int.fdiv q5 (2^(min (Int.toNat (32:Int)) (IntKind.bits .u64))))) (Int.fdiv q9 (2^(min (Int.toNat (32:Int)) (IntKind.bits .u64)))))))],[],0⟩ hX (aC (show (0:Int)≤(32:Int) from by decide) aN) ?_;obtain ⟨Ix,Ha,hr⟩:=af hr;have Ha:=fh Ha;refine (Le.cv (s:=⟨[],[],[],false⟩) (own:=[]) (ps:=[a0=a0,a1=a1,Ix=(al .u64 (al .u64 (aU .u64 (Int.fdiv a0 (2^(min (Int.toNat (32:Int)) (IntKind.bits .u64)))) (Int.fdiv a1 (2^(min (Int.toNat (32:Int)) (IntKind.bits .u64))))) (Int.fdiv q5 (2^(min (Int.toNat (32:Int)) (IntKind.bits .u64))))) (Int.fdiv q9 (2^(min (Int.toNat (32:Int)) (IntKind.bits .u64)))))]) (st':=⟨[(0,.one (.aq (.int .u64) a0)),(1,.one (.aq (.int .u64) a1)),(4,.one (.aq (.int .u64) Ix))],[],0⟩) hX.own (fun h=>by cases h) (by kernel_rfl) ⟨rfl,rfl,Ha,trivial⟩).ht ?_;refine ay (aO 4) ⟨[(4,.one (.aq (.int .u64) Ix)),(5,.one (.aq (.int .u64) (aU .u64 a0 a1)))],[],0⟩ hX aN ?_;have hr:=ae hr;subst hr;exact HT.ret (rO [.one (.aq (.int .u64) Ix),.one (.aq (.int .u64) (aU .u64 a0 a1))] [] [] trivial)
noncomputable def pH (a0:Int)(a1:Int):Option (Int×Int):=
 (nz a0 a1).bind fun y1=>
 some (y1.1,y1.2)
theorem Ou {a0:Int}{a1:Int}{r:Int×Int}(hr:pH a0 a1=some r):CallOK Try.prog 124 [.au (.int .u64) a0,.au (.int .u64) a1] [⟨false,(.int .u64),r.1⟩,⟨false,(.int .u64),r.2⟩] []:=by
 unfold pH at hr;refine ij [(false,(.int .u64)),(false,(.int .u64))] Try.func124 rfl [] fun cx hX hF=> ?_;show HT cx ⟨[(0,.one (.aq (.int .u64) a0)),(1,.one (.aq (.int .u64) a1))],[],0⟩ _ _;refine ay (aO 2) ⟨[(0,.one (.aq (.int .u64) a0)),(1,.one (.aq (.int .u64) a1))],[],0⟩ hX aN ?_;refine HT.seq ?_;refine HT.aJ rfl (rfl:false=false) ?_;refine HT.skip (aj ?_);obtain ⟨y1,eV,hr⟩:=af hr;refine ay [oH,oH,⟨none,.call [.au (.int .u64),.au (.int .u64)] [⟨false,(.int .u64),y1.1⟩,⟨false,(.int .u64),y1.2⟩] []⟩,oH,oH,oH,oH,oH] ⟨[(8,.one (.aq (.int .u64) y1.1)),(9,.one (.aq (.int .u64) y1.2))],[],0⟩ hX (aC (Ot eV) aN) ?_;refine ay (aO 4) ⟨[(4,.one (.aq (.int .u64) y1.1)),(5,.one (.aq (.int .u64) y1.2))],[],0⟩ hX aN ?_;have hr:=ae hr;subst hr;exact HT.ret (rO [.one (.aq (.int .u64) y1.1),.one (.aq (.int .u64) y1.2)] [] [] trivial)
noncomputable def aB (ix:Int×List Nat):Option ((Int×List Nat)⊕(List Nat)):=
 bif (decide (ix.1<(ai ix.2))) then
  az ((0:Int)≤ix.1∧ix.1≤ai ix.2) (
   some (.inl ((al .i64 ix.1 ((Nat.min (List.length (List.take (Int.toNat ix.1) (List.drop 0 ix.2))) (Int.toNat (ai ix.2) - Int.toNat ix.1):Nat):Int)),(List.take (Int.toNat ix.1) ix.2++List.take (Nat.min (List.length (List.take (Int.toNat ix.1) (List.drop 0 ix.2))) (Int.toNat (ai ix.2) - Int.toNat ix.1)) (List.take (Int.toNat ix.1) (List.drop 0 ix.2))++List.drop ((Int.toNat ix.1)+Nat.min (List.length (List.take (Int.toNat ix.1) (List.drop 0 ix.2))) (Int.toNat (ai ix.2) - Int.toNat ix.1)) ix.2))))
 else
  some (.inr ix.2)
noncomputable def aP (a0:List Nat)(a1:Int):Option (List Nat):=
 bif (decide (a1<(0:Int))) then
  none
 else
  (pH (IntKind.wrap .u64 (ai a0)) (IntKind.wrap .u64 a1)).bind fun y2=>
  (show Option (Bool) from
   bif (decide (y2.1>(0:Int))) then
    some true
   else
    some (decide (y2.2>(9223372036854775807:Int)))).bind fun v4=>
  bif v4 then
   none
  else
   az ((0:Int)≤(IntKind.wrap .i64 y2.2)∧(IntKind.wrap .i64 y2.2)≤4294967296) (
    (some ((Nat.min (List.length a0) (List.length (List.replicate (Int.toNat (IntKind.wrap .i64 y2.2)) (0:Nat))):Nat):Int)).bind fun q9=>
    (some (List.take 0 (List.replicate (Int.toNat (IntKind.wrap .i64 y2.2)) (0:Nat))++List.take (Nat.min (List.length a0) (List.length (List.replicate (Int.toNat (IntKind.wrap .i64 y2.2)) (0:Nat)))) a0++List.drop (0+Nat.min (List.length a0) (List.length (List.replicate (Int.toNat (IntKind.wrap .i64 y2.2)) (0:Nat)))) (List.replicate (Int.toNat (IntKind.wrap .i64 y2.2)) (0:Nat)))).bind fun Ix=>
    (rounds (aB) (q9,Ix)).bind fun yE=>
    some yE)
theorem RA {a0:List Nat}{a1:Int}{r:List Nat}(hr:aP a0 a1=some r):CallOK Try.prog 85 [.au aY a0,.au tI a1] [⟨true,aY,r⟩] []:=by
 unfold aP at hr;refine ij [(true,aY)] Try.func85 rfl [] fun cx hX hF=> ?_;show HT cx ⟨[(0,lV a0),(1,iV a1)],[],0⟩ _ _;refine ay [oH] ⟨[(0,lV a0),(1,iV a1)],[],0⟩ hX aN ?_;refine HT.seq ?_;refine ay (aO 2) ⟨[(0,lV a0),(1,iV a1),(10,bV (decide (a1<(0:Int))))],[],0⟩ hX aN ?_;rcases an hr with ⟨rQ,hr⟩|⟨rQ,hr⟩
 refine HT.aK rfl rQ ?_;cases hr;refine HT.aJ rfl rQ ?_;refine HT.skip (aj ?_);obtain ⟨y2,Rd,hr⟩:=af hr;refine ay [oH,oH,oH,oH,oH,⟨none,.call [.au (.int .u64),.au (.int .u64)] [⟨false,(.int .u64),y2.1⟩,⟨false,(.int .u64),y2.2⟩] []⟩,oH,oH,oH,oH,oH] ⟨[(0,lV a0),(5,.one (.aq (.int .u64) y2.1)),(6,.one (.aq (.int .u64) y2.2))],[],0⟩ hX (aC (Ou Rd) aN) ?_;refine HT.seq ?_;obtain ⟨UL,Dg,hr⟩:=af hr;refine HT.join (fun (v4:Bool)=>⟨[(0,lV a0),(6,.one (.aq (.int .u64) y2.2)),(26,bV v4)],[],0⟩) (fun v=>v=UL) (fun v4 UM=> ?_) (fun cont=> ?_);subst UM;rcases an hr with ⟨kQ,hr⟩|⟨kQ,hr⟩
 refine HT.aK rfl kQ ?_;cases hr;refine HT.aJ rfl kQ ?_;refine HT.skip (aj ?_);obtain ⟨PX,hr⟩:=ao hr;refine ay [oH,oH,⟨none,.ty tF⟩,oH] ⟨[(0,lV a0),(7,aV 0)],[(0,.seq tF (List.replicate (Int.toNat (IntKind.wrap .i64 y2.2)) (0:Nat)))],1⟩ hX (aC (show (0:Int)≤(IntKind.wrap .i64 y2.2)∧(IntKind.wrap .i64 y2.2)≤(IntKind.wrap .i64 y2.2)∧(IntKind.wrap .i64 y2.2)≤4294967296 from ⟨PX.1,Int.le_refl _,PX.2⟩) aN) ?_;refine ay (aO 4) ⟨[(7,aV 0),(8,iV ((Nat.min (List.length a0) (List.length (List.replicate (Int.toNat (IntKind.wrap .i64 y2.2)) (0:Nat))):Nat):Int))],[(0,.seq tF (List.take 0 (List.replicate (Int.toNat (IntKind.wrap .i64 y2.2)) (0:Nat))++List.take (Nat.min (List.length a0) (List.length (List.replicate (Int.toNat (IntKind.wrap .i64 y2.2)) (0:Nat)))) a0++List.drop (0+Nat.min (List.length a0) (List.length (List.replicate (Int.toNat (IntKind.wrap .i64 y2.2)) (0:Nat)))) (List.replicate (Int.toNat (IntKind.wrap .i64 y2.2)) (0:Nat))))],1⟩ hX aN ?_;obtain ⟨q9,G9,hr⟩:=af hr;have G9:=fh G9;obtain ⟨Ix,Ha,hr⟩:=af hr;have Ha:=fh Ha;refine (Le.cv (s:=⟨[(0,0)],[],[],false⟩) (own:=[]) (ps:=[q9=((Nat.min (List.length a0) (List.length (List.replicate (Int.toNat (IntKind.wrap .i64 y2.2)) (0:Nat))):Nat):Int),Ix=(List.take 0 (List.replicate (Int.toNat (IntKind.wrap .i64 y2.2)) (0:Nat))++List.take (Nat.min (List.length a0) (List.length (List.replicate (Int.toNat (IntKind.wrap .i64 y2.2)) (0:Nat)))) a0++List.drop (0+Nat.min (List.length a0) (List.length (List.replicate (Int.toNat (IntKind.wrap .i64 y2.2)) (0:Nat)))) (List.replicate (Int.toNat (IntKind.wrap .i64 y2.2)) (0:Nat)))]) (st':=⟨[(7,aV 0),(8,iV q9)],[(0,.seq tF Ix)],1⟩) hX.own (fun h=>by cases h) (by kernel_rfl) ⟨G9,Ha,trivial⟩).ht ?_;refine HT.seq ?_;refine HT.block ?_;obtain ⟨D9,X1,hr⟩:=af hr;refine HT.ct (fun (ix:Int×List Nat)=>⟨[(7,aV 0),(8,iV ix.1)],[(0,.seq tF ix.2)],1⟩) (fun (yE:List Nat)=>(.exit 0,⟨[(7,aV 0)],[(0,.seq tF yE)],1⟩)) (Le.re [(0,0)] [] hX (by kernel_rfl)) X1 ?_ (fun ix x16 Ae X2=> ?_);refine (aZ (aj ?_));refine ay (aO 2) ⟨[(4,aV 0)],[(0,.seq tF D9)],1⟩ hX aN ?_;have hr:=ae hr;subst hr;exact HT.ret (rO [aV 0] [0] [] trivial);refine HT.seq ?_;refine ay (aO 4) ⟨[(7,aV 0),(8,iV ix.1),(37,bV (decide (ix.1<(ai ix.2))))],[(0,.seq tF ix.2)],1⟩ hX aN ?_;rcases an Ae with ⟨Hb,Ae⟩|⟨Hb,Ae⟩
 refine HT.aK rfl Hb ?_;refine HT.skip (aj ?_);refine HT.block ?_;obtain ⟨J1,Ae⟩:=ao Ae;have Ae:=ae Ae;subst Ae;exact HT.ZV 8 [o0,o0,o0,⟨oH,[1,2]⟩,o0,o0,⟨oH,[4,5]⟩,⟨oH,[1,2,3,4,5,6]⟩] [(rL 8),(rL 9)] (aO 2) [(0,0)] [] hX (by kernel_rfl) (by kernel_rfl) (aC (show (0:Int)≤ix.1∧ix.1≤ai ix.2∧ai ix.2≤ai ix.2 from ⟨J1.1,J1.2,Int.le_refl _⟩) (aC (show (0:Int)≤0∧(0:Int)≤ix.1∧ix.1≤ai ix.2 from ⟨Int.le_refl _,J1.1,J1.2⟩) aN)) (fun _ h=>(bC (bJ ⟨((al .i64 ix.1 ((Nat.min (List.length (List.take (Int.toNat ix.1) (List.drop 0 ix.2))) (Int.toNat (ai ix.2) - Int.toNat ix.1):Nat):Int)),(List.take (Int.toNat ix.1) ix.2++List.take (Nat.min (List.length (List.take (Int.toNat ix.1) (List.drop 0 ix.2))) (Int.toNat (ai ix.2) - Int.toNat ix.1)) (List.take (Int.toNat ix.1) (List.drop 0 ix.2))++List.drop ((Int.toNat ix.1)+Nat.min (List.length (List.take (Int.toNat ix.1) (List.drop 0 ix.2))) (Int.toNat (ai ix.2) - Int.toNat ix.1)) ix.2)),rfl,h⟩)));refine HT.aJ rfl Hb ?_;have Ae:=ae Ae;subst Ae;exact HT.cr (Le.re [(0,0)] [] hX (by kernel_rfl)) (bF (bI (X2 ix.2 rfl)));rcases an Dg with ⟨uM,Dg⟩|⟨uM,Dg⟩
 exact HT.cR [oH,oH,oH,oT,oT,vT] [] [] hX (by kernel_rfl) (aC uM (aC uM (aC uM aN))) (fun _ h=>(aj (h.ht (cont true (ae Dg)))));exact HT.cR [oH,oH,oH,oF,oF,vF] [] [] hX (by kernel_rfl) (aC uM (aC uM (aC uM aN))) (fun _ h=>(aj (h.ht (cont (decide (y2.2>(9223372036854775807:Int))) (ae Dg)))))
noncomputable def fp (a0:eC)(a1:List Int)(s7:Int×List (List Nat))(qu:Int×List Nat)(lB:Int×List Nat):Option ((Int×List Nat)⊕(List Nat)):=
 bif (decide (lB.1<a0.1)) then
  az ((0:Int)≤qu.1∧qu.1<ai lB.2) (
   az ((0:Int)≤s7.1∧s7.1<ai a1) (
    (cC (a0.1,a0.2.1,a0.2.2.1,a0.2.2.2.1,a0.2.2.2.2) qu.1 (List.getD a1 (Int.toNat s7.1) (0:Int))).bind fun AV=>
    (dS (a0.1,a0.2.1,a0.2.2.1,a0.2.2.2.1,a0.2.2.2.2) qu.1 lB.1).bind fun Nx=>
    az ((0:Int)≤(al .i64 s7.1 (1:Int))∧(al .i64 s7.1 (1:Int))<ai s7.2) (
     az ((0:Int)≤lB.1∧lB.1<ai (List.getD s7.2 (Int.toNat (al .i64 s7.1 (1:Int))) ([]:List Nat))) (
      some (.inl ((al .i64 lB.1 (1:Int)),(List.set lB.2 (Int.toNat qu.1) (av .add .f32 (List.getD lB.2 (Int.toNat qu.1) (0:Nat)) (av .mul .f32 (av .mul .f32 AV Nx) (List.getD (List.getD s7.2 (Int.toNat (al .i64 s7.1 (1:Int))) ([]:List Nat)) (Int.toNat lB.1) (0:Nat)))))))))))
 else
  some (.inr lB.2)
noncomputable def fq (a0:eC)(a1:List Int)(s7:Int×List (List Nat))(qu:Int×List Nat):Option ((Int×List Nat)⊕(List Nat)):=
 bif (decide (qu.1<a0.1)) then
  (rounds (fp a0 a1 s7 qu) ((0:Int),qu.2)).bind fun Om=>
  some (.inl ((al .i64 qu.1 (1:Int)),Om))
 else
  some (.inr qu.2)
noncomputable def fu (a0:eC)(a1:List Int)(s7:Int×List (List Nat)):Option ((Int×List (List Nat))⊕(List (List Nat))):=
 bif (decide (s7.1≥(0:Int))) then
  az ((0:Int)≤a0.1∧a0.1≤4294967296) (
   (rounds (fq a0 a1 s7) ((0:Int),(List.replicate (Int.toNat a0.1) (0:Nat)))).bind fun Af=>
   az ((0:Int)≤s7.1∧s7.1<ai s7.2) (
    some (.inl ((lO .i64 s7.1 (1:Int)),(List.set s7.2 (Int.toNat s7.1) Af)))))
 else
  some (.inr s7.2)
noncomputable def fi (a0:eC)(a1:List Int):Option (List (List Nat)):=
 az ((0:Int)≤(al .i64 (ai a1) (1:Int))∧(al .i64 (ai a1) (1:Int))≤4294967296) (
  (aP ([(1065353216:Nat)]:List Nat) a0.1).bind fun y2=>
  az ((0:Int)≤(ai a1)∧(ai a1)<ai (List.replicate (Int.toNat (al .i64 (ai a1) (1:Int))) ([]:List Nat))) (
   (some (List.set (List.replicate (Int.toNat (al .i64 (ai a1) (1:Int))) ([]:List Nat)) (Int.toNat (ai a1)) y2)).bind fun q5=>
   (rounds (fu a0 a1) ((lO .i64 (ai a1) (1:Int)),q5)).bind fun r9=>
   some r9))
theorem RB {a0:eC}{a1:List Int}{r:List (List Nat)}(hr:fi a0 a1=some r):CallOK Try.prog 63 [.au tM a0,.au bM a1] [⟨false,(.sl aY),r⟩] []:=by
 unfold fi at hr;refine ij [(false,(.sl aY))] Try.func63 rfl [] fun cx hX hF=> ?_;show HT cx ⟨[(0,.agg [iC a0.1,iC a0.2.1,lC a0.2.2.1,lC a0.2.2.2.1,lC a0.2.2.2.2]),(1,nV a1)],[],0⟩ _ _;refine ay (aO 2) ⟨[(1,nV a1),(2,pV 0 0)],[(0,cb a0)],1⟩ hX aN ?_;refine ay (aO 3) ⟨[(1,nV a1),(2,pV 0 0),(5,iV (ai a1))],[(0,cb a0)],1⟩ hX aN ?_;obtain ⟨uX,hr⟩:=ao hr;refine ay [oH,oH,⟨none,.ty aY⟩,oH] ⟨[(1,nV a1),(2,pV 0 0),(5,iV (ai a1)),(6,aV 1)],[(1,.seq aY (List.replicate (Int.toNat (al .i64 (ai a1) (1:Int))) ([]:List Nat))),(0,cb a0)],2⟩ hX (aC (show (0:Int)≤(al .i64 (ai a1) (1:Int))∧(al .i64 (ai a1) (1:Int))≤(al .i64 (ai a1) (1:Int))∧(al .i64 (ai a1) (1:Int))≤4294967296 from ⟨uX.1,Int.le_refl _,uX.2⟩) aN) ?_;obtain ⟨y2,Rd,hr⟩:=af hr;obtain ⟨PW,hr⟩:=ao hr;refine ay [oH,oH,⟨none,.Wm tF⟩,oH,oH,⟨none,.call [.au aY,.au tI] [⟨false,aY,y2⟩] []⟩,oH,oH] ⟨[(1,nV a1),(2,pV 0 0),(5,iV (ai a1)),(6,aV 1)],[(1,.seq aY (List.set (List.replicate (Int.toNat (al .i64 (ai a1) (1:Int))) ([]:List Nat)) (Int.toNat (ai a1)) y2)),(0,cb a0)],2⟩ hX (aC (CallOK.Ub [true] rfl (RA Rd)) (aC PW (aC (gy PW) aN))) ?_;obtain ⟨q5,LM,hr⟩:=af hr;have LM:=fh LM;refine (Le.cv (s:=⟨[(1,1),(0,0)],[],[],false⟩) (own:=[]) (ps:=[a1=a1,(ai a1)=(ai a1),q5=(List.set (List.replicate (Int.toNat (al .i64 (ai a1) (1:Int))) ([]:List Nat)) (Int.toNat (ai a1)) y2),a0.1=a0.1,a0.2.1=a0.2.1,a0.2.2.1=a0.2.2.1,a0.2.2.2.1=a0.2.2.2.1,a0.2.2.2.2=a0.2.2.2.2]) (st':=⟨[(1,nV a1),(2,pV 0 0),(5,iV (ai a1)),(6,aV 1)],[(1,.seq aY q5),(0,cb a0)],2⟩) hX.own (fun h=>by cases h) (by kernel_rfl) ⟨rfl,rfl,LM,rfl,rfl,rfl,rfl,rfl,trivial⟩).ht ?_;refine HT.seq ?_;refine ay (aO 3) ⟨[(1,nV a1),(2,pV 0 0),(6,aV 1),(7,iV (lO .i64 (ai a1) (1:Int)))],[(1,.seq aY q5),(0,cb a0)],2⟩ hX aN ?_;refine HT.block ?_;obtain ⟨r8,Hc,hr⟩:=af hr;refine HT.ct (fun (s7:Int×List (List Nat))=>⟨[(1,nV a1),(2,pV 0 0),(6,aV 1),(7,iV s7.1)],[(0,cb a0),(1,.seq aY s7.2)],2⟩) (fun (r9:List (List Nat))=>(.exit 0,⟨[(6,aV 0)],[(0,.seq aY r9)],1⟩)) (Le.re [(0,0),(1,1)] [] hX (by kernel_rfl)) Hc ?_ (fun s7 ZX dE JY=> ?_);refine (aZ (aj ?_));refine ay (aO 2) ⟨[(4,aV 0)],[(0,.seq aY r8)],1⟩ hX aN ?_;have hr:=ae hr;subst hr;refine (Le.rz [] [] (st':=⟨[(4,.one (.aq (.sl aY) r8))],[],1⟩) hX hF (by kernel_rfl)).ht ?_;exact HT.ret (rO [.one (.aq (.sl aY) r8)] [] [] trivial);refine HT.seq ?_;refine ay (aO 2) ⟨[(1,nV a1),(2,pV 0 0),(6,aV 1),(7,iV s7.1),(26,bV (decide (s7.1≥(0:Int))))],[(0,cb a0),(1,.seq aY s7.2)],2⟩ hX aN ?_;rcases an dE with ⟨zZ,dE⟩|⟨zZ,dE⟩
 refine HT.aK rfl zZ ?_;refine HT.skip (aj ?_);refine HT.seq ?_;refine HT.block ?_;obtain ⟨Oq,dE⟩:=ao dE;refine ay [oH,oH,⟨none,.ty tF⟩,oH] ⟨[(1,nV a1),(2,pV 0 0),(6,aV 1),(7,iV s7.1),(8,aV 2)],[(2,.seq tF (List.replicate (Int.toNat a0.1) (0:Nat))),(0,cb a0),(1,.seq aY s7.2)],3⟩ hX (aC (show (0:Int)≤a0.1∧a0.1≤a0.1∧a0.1≤4294967296 from ⟨Oq.1,Int.le_refl _,Oq.2⟩) aN) ?_;refine HT.seq ?_;refine ay (aO 3) ⟨[(1,nV a1),(2,pV 0 0),(6,aV 1),(7,iV s7.1),(8,aV 2),(33,iV a0.1),(34,iV (0:Int))],[(2,.seq tF (List.replicate (Int.toNat a0.1) (0:Nat))),(0,cb a0),(1,.seq aY s7.2)],3⟩ hX aN ?_;refine HT.block ?_;obtain ⟨L5,RC,dE⟩:=af dE;refine HT.ct (fun (qu:Int×List Nat)=>⟨[(1,nV a1),(2,pV 0 0),(6,aV 1),(7,iV s7.1),(8,aV 2),(33,iV a0.1),(34,iV qu.1)],[(0,cb a0),(1,.seq aY s7.2),(2,.seq tF qu.2)],3⟩) (fun (Af:List Nat)=>(.exit 2,⟨[(1,nV a1),(2,pV 0 0),(6,aV 1),(7,iV s7.1),(8,aV 2)],[(0,cb a0),(1,.seq aY s7.2),(2,.seq tF Af)],3⟩)) (Le.re [(0,0),(1,1),(2,2)] [] hX (by kernel_rfl)) RC ?_ (fun qu x19 pG Rp=> ?_);refine (aZ (aj ?_));refine (Le.rz [(0,0),(1,1)] [] (st':=⟨[(1,nV a1),(2,pV 0 0),(6,aV 1),(7,iV s7.1),(8,lV L5)],[(0,cb a0),(1,.seq aY s7.2)],3⟩) hX hF (by kernel_rfl)).ht ?_;obtain ⟨Dp,dE⟩:=ao dE;refine HT.xM (aO 5) ⟨[(1,nV a1),(2,pV 0 0),(6,aV 1),(7,iV s7.1)],[(1,.seq aY (List.set s7.2 (Int.toNat s7.1) L5)),(0,cb a0)],3⟩ hX (by kernel_rfl) (aC Dp (aC (gy Dp) aN)) (bC (aj ?_));have dE:=ae dE;subst dE;exact HT.cR (aO 3) [(0,0),(1,1)] [] hX (by kernel_rfl) aN (fun _ h=>(bJ ⟨((lO .i64 s7.1 (1:Int)),(List.set s7.2 (Int.toNat s7.1) L5)),rfl,h⟩));refine ay [oH] ⟨[(1,nV a1),(2,pV 0 0),(6,aV 1),(7,iV s7.1),(8,aV 2),(33,iV a0.1),(34,iV qu.1),(35,bV (decide (qu.1<a0.1)))],[(0,cb a0),(1,.seq aY s7.2),(2,.seq tF qu.2)],3⟩ hX aN ?_;refine HT.seq ?_;rcases an pG with ⟨uM,pG⟩|⟨uM,pG⟩
 refine HT.aK rfl uM ?_;refine HT.skip (aj ?_);refine HT.seq ?_;refine HT.block ?_;refine ay (aO 2) ⟨[(1,nV a1),(2,pV 0 0),(6,aV 1),(7,iV s7.1),(8,aV 2),(9,iV qu.1),(33,iV a0.1),(34,iV qu.1)],[(0,cb a0),(1,.seq aY s7.2),(2,.seq tF qu.2)],3⟩ hX aN ?_;refine ay (aO 3) ⟨[(1,nV a1),(2,pV 0 0),(6,aV 1),(7,iV s7.1),(8,aV 2),(9,iV qu.1),(33,iV a0.1),(34,iV qu.1),(38,iV a0.1),(39,iV (0:Int))],[(0,cb a0),(1,.seq aY s7.2),(2,.seq tF qu.2)],3⟩ hX aN ?_;refine HT.block ?_;obtain ⟨V3,X3,pG⟩:=af pG;refine HT.ct (fun (lB:Int×List Nat)=>⟨[(1,nV a1),(2,pV 0 0),(6,aV 1),(7,iV s7.1),(8,aV 2),(9,iV qu.1),(33,iV a0.1),(34,iV qu.1),(38,iV a0.1),(39,iV lB.1)],[(0,cb a0),(1,.seq aY s7.2),(2,.seq tF lB.2)],3⟩) (fun (Om:List Nat)=>(.exit 4,⟨[(1,nV a1),(2,pV 0 0),(6,aV 1),(7,iV s7.1),(8,aV 2),(33,iV a0.1),(34,iV qu.1)],[(0,cb a0),(1,.seq aY s7.2),(2,.seq tF Om)],3⟩)) (Le.re [(0,0),(1,1),(2,2)] [] hX (by kernel_rfl)) X3 ?_ (fun lB ZY gK L6=> ?_);refine (aZ (bC (aj ?_)));have pG:=ae pG;subst pG;exact HT.cR (aO 2) [(0,0),(1,1),(2,2)] [] hX (by kernel_rfl) aN (fun _ h=>(bJ ⟨((al .i64 qu.1 (1:Int)),V3),rfl,h⟩));refine ay [oH] ⟨[(1,nV a1),(2,pV 0 0),(6,aV 1),(7,iV s7.1),(8,aV 2),(9,iV qu.1),(33,iV a0.1),(34,iV qu.1),(38,iV a0.1),(39,iV lB.1),(40,bV (decide (lB.1<a0.1)))],[(0,cb a0),(1,.seq aY s7.2),(2,.seq tF lB.2)],3⟩ hX aN ?_;refine HT.seq ?_;rcases an gK with ⟨Ag,gK⟩|⟨Ag,gK⟩
 refine HT.aK rfl Ag ?_;refine HT.skip (aj ?_);refine HT.seq ?_;refine HT.block ?_;refine ay (aO 2) ⟨[(1,nV a1),(2,pV 0 0),(6,aV 1),(7,iV s7.1),(8,aV 2),(9,iV qu.1),(10,iV lB.1),(33,iV a0.1),(34,iV qu.1),(38,iV a0.1),(39,iV lB.1)],[(0,cb a0),(1,.seq aY s7.2),(2,.seq tF lB.2)],3⟩ hX aN ?_;obtain ⟨Dq,gK⟩:=ao gK;obtain ⟨RD,gK⟩:=ao gK;obtain ⟨AV,RE,gK⟩:=af gK;obtain ⟨Nx,RF,gK⟩:=af gK;obtain ⟨Ov,gK⟩:=ao gK;obtain ⟨RG,gK⟩:=ao gK;refine HT.PT 28 [o0,o0,o0,o0,⟨oH,[2,3]⟩,⟨oH,[2,3,4]⟩,o0,o0,o0,o0,⟨oH,[8,9]⟩,⟨oH,[8,9,10]⟩,⟨⟨none,.call [.au tM,.au tI,.au tI] [⟨false,tF,AV⟩] []⟩,[6,7,8,9,10,11]⟩,o0,o0,o0,⟨⟨none,.call [.au tM,.au tI,.au tI] [⟨false,tF,Nx⟩] []⟩,[6,7,8,9,10,11,12,13,14,15]⟩,⟨oH,[6,7,8,9,10,11,12,13,14,15,16]⟩,o0,o0,⟨oH,[19]⟩,⟨oH,[18,19,20]⟩,⟨oH,[18,19,20,21]⟩,o0,⟨oH,[18,19,20,21,22,23]⟩,⟨oH,[18,19,20,21,22,23,24]⟩,⟨oH,[6,7,8,9,10,11,12,13,14,15,16,17,18,19,20,21,22,23,24,25]⟩,⟨oH,[2,3,4,5,6,7,8,9,10,11,12,13,14,15,16,17,18,19,20,21,22,23,24,25,26]⟩] [(rL 28),(rL 29)] (aO 2) ⟨[(1,nV a1),(2,pV 0 0),(6,aV 1),(7,iV s7.1),(8,aV 2),(9,iV qu.1),(33,iV a0.1),(34,iV qu.1),(38,iV a0.1),(39,iV lB.1)],[(2,.seq tF (List.set lB.2 (Int.toNat qu.1) (av .add .f32 (List.getD lB.2 (Int.toNat qu.1) (0:Nat)) (av .mul .f32 (av .mul .f32 AV Nx) (List.getD (List.getD s7.2 (Int.toNat (al .i64 s7.1 (1:Int))) ([]:List Nat)) (Int.toNat lB.1) (0:Nat)))))),(0,cb a0),(1,.seq aY s7.2)],3⟩ hX (by kernel_rfl) (by kernel_rfl) (aC Dq (aC (gy Dq) (aC RD (aC (Dj RE) (aC (G6 RF) (aC Ov (aC (gy Ov) (aC RG (aC Dq (aC (gy Dq) aN)))))))))) (bC (aj ?_));have gK:=ae gK;subst gK;exact HT.cR (aO 2) [(0,0),(1,1),(2,2)] [] hX (by kernel_rfl) aN (fun _ h=>(bJ ⟨((al .i64 lB.1 (1:Int)),(List.set lB.2 (Int.toNat qu.1) (av .add .f32 (List.getD lB.2 (Int.toNat qu.1) (0:Nat)) (av .mul .f32 (av .mul .f32 AV Nx) (List.getD (List.getD s7.2 (Int.toNat (al .i64 s7.1 (1:Int))) ([]:List Nat)) (Int.toNat lB.1) (0:Nat)))))),rfl,h⟩));refine HT.aJ rfl Ag ?_;have gK:=ae gK;subst gK;exact HT.cr (Le.re [(0,0),(1,1),(2,2)] [] hX (by kernel_rfl)) (bF (bI (L6 lB.2 rfl)));refine HT.aJ rfl uM ?_;have pG:=ae pG;subst pG;exact HT.cr (Le.re [(0,0),(1,1),(2,2)] [] hX (by kernel_rfl)) (bF (bI (Rp qu.2 rfl)));refine HT.aJ rfl zZ ?_;have dE:=ae dE;subst dE;exact HT.cr (Le.re [(1,0)] [] hX (by kernel_rfl)) (bF (bI (JY s7.2 rfl)))
noncomputable def jR (a0:Nat):Option (Bool):=
 (cP a0).bind fun y1=>
 some (!y1)
theorem Ow {a0:Nat}{r:Bool}(hr:jR a0=some r):CallOK Try.prog 100 [.au tF a0] [⟨false,.bool,r⟩] []:=by
 unfold jR at hr;refine ij [(false,.bool)] Try.func100 rfl [] fun cx hX hF=> ?_;show HT cx ⟨[(0,fV a0)],[],0⟩ _ _;refine ay [oH] ⟨[(0,fV a0)],[],0⟩ hX aN ?_;obtain ⟨y1,eV,hr⟩:=af hr;refine ay [oH,⟨none,.call [.au tF] [⟨false,.bool,y1⟩] []⟩,oH,oH] ⟨[(2,bV (!y1))],[],0⟩ hX (aC (G5 eV) aN) ?_;have hr:=ae hr;subst hr;exact HT.ret (rO [bV (!y1)] [] [] trivial)
noncomputable def a8 (a0:List Nat)(s1:Int):Option ((Int)⊕(Unit⊕Int)):=
 bif (decide (s1<(ai a0))) then
  az ((0:Int)≤s1∧s1<ai a0) (
   (jR (List.getD a0 (Int.toNat s1) (0:Nat))).bind fun fP=>
   bif fP then
    some (.inr (.inr s1))
   else
    some (.inl (al .i64 s1 (1:Int))))
 else
  some (.inr (.inl ()))
noncomputable def bm (a0:List Nat):Option (Int):=
 (rounds (a8 a0) (0:Int)).bind fun r2=>match r2 with
  | .inl r3=>
   some (-1:Int)
  | .inr r4=>
   some r4
theorem nA {a0:List Nat}{r:Int}(hr:bm a0=some r):CallOK Try.prog 128 [.au aY a0,.fn 100] [⟨false,tI,r⟩] []:=by
 unfold bm at hr;refine ij [(false,tI)] Try.func128 rfl [] fun cx hX hF=> ?_;show HT cx ⟨[(0,lV a0),(1,.one (.fn 100))],[],0⟩ _ _;refine ay [oH] ⟨[(0,lV a0),(1,.one (.fn 100))],[],0⟩ hX aN ?_;refine HT.seq ?_;refine ay (aO 3) ⟨[(0,lV a0),(1,.one (.fn 100)),(7,iV (ai a0)),(8,iV (0:Int))],[],0⟩ hX aN ?_;refine HT.block ?_;obtain ⟨r2,Di,hr⟩:=af hr;refine HT.ct (fun (s1:Int)=>⟨[(0,lV a0),(1,.one (.fn 100)),(7,iV (ai a0)),(8,iV s1)],[],0⟩) (fun (r2:Unit⊕Int)=>match r2 with| .inl r3=>(.exit 0,⟨[],[],0⟩)| .inr r4=>(.ret,⟨[(4,iV r4)],[],0⟩)) (Le.re [] [] hX (by kernel_rfl)) Di ?_ (fun s1 x5 dm BZ=> ?_);rcases r2 with r3|r4
 refine (aZ (aj ?_));refine ay [oH] ⟨[(4,iV (-1:Int))],[],0⟩ hX aN ?_;have hr:=ae hr;subst hr;exact HT.ret (rO [iV (-1:Int)] [] [] trivial);have hr:=ae hr;subst hr;exact (bE (aM (rO [iV r4] [] [] trivial)));refine ay [oH] ⟨[(0,lV a0),(1,.one (.fn 100)),(7,iV (ai a0)),(8,iV s1),(9,bV (decide (s1<(ai a0))))],[],0⟩ hX aN ?_;refine HT.seq ?_;rcases an dm with ⟨iN,dm⟩|⟨iN,dm⟩
 refine HT.aK rfl iN ?_;refine HT.skip (aj ?_);refine HT.seq ?_;refine HT.block ?_;refine ay (aO 2) ⟨[(0,lV a0),(1,.one (.fn 100)),(5,iV s1),(7,iV (ai a0)),(8,iV s1)],[],0⟩ hX aN ?_;obtain ⟨LR,dm⟩:=ao dm;obtain ⟨fP,pF,dm⟩:=af dm;refine ay [oH,oH,oH,oH,oH,⟨none,.call [.au tF] [⟨false,.bool,fP⟩] []⟩] ⟨[(0,lV a0),(1,.one (.fn 100)),(5,iV s1),(7,iV (ai a0)),(8,iV s1),(16,bV fP)],[],0⟩ hX (aC LR (aC (Ow pF) aN)) ?_;rcases an dm with ⟨cg,dm⟩|⟨cg,dm⟩
 refine HT.aK rfl cg ?_;refine ay (aO 2) ⟨[(4,iV s1)],[],0⟩ hX aN ?_;have dm:=ae dm;subst dm;exact HT.qV (Le.re [] [] hX (by kernel_rfl)) (bE (aM (iz (BZ (.inr s1) rfl))));refine HT.aJ rfl cg ?_;refine HT.skip (bC (aj ?_));have dm:=ae dm;subst dm;exact HT.cR (aO 2) [] [] hX (by kernel_rfl) aN (fun _ h=>(bJ ⟨(al .i64 s1 (1:Int)),rfl,h⟩));refine HT.aJ rfl iN ?_;have dm:=ae dm;subst dm;exact HT.cr (Le.re [] [] hX (by kernel_rfl)) (bF (bI (BZ (.inl ()) rfl)))
noncomputable def bf (a0:List Nat):Option (Bool):=
 (bm a0).bind fun y1=>
 some (decide (y1≥(0:Int)))
theorem n8 {a0:List Nat}{r:Bool}(hr:bf a0=some r):CallOK Try.prog 99 [.au aY a0,.fn 100] [⟨false,.bool,r⟩] []:=by
 unfold bf at hr;refine ij [(false,.bool)] Try.func99 rfl [] fun cx hX hF=> ?_;show HT cx ⟨[(0,lV a0),(1,.one (.fn 100))],[],0⟩ _ _;refine ay [oH] ⟨[(0,lV a0),(1,.one (.fn 100))],[],0⟩ hX aN ?_;obtain ⟨y1,eV,hr⟩:=af hr;refine ay [oH,oH,⟨none,.call [.au aY,.fn] [⟨false,tI,y1⟩] []⟩,oH,oH] ⟨[(4,bV (decide (y1≥(0:Int))))],[],0⟩ hX (aC (nA eV) aN) ?_;have hr:=ae hr;subst hr;exact HT.ret (rO [bV (decide (y1≥(0:Int)))] [] [] trivial)
noncomputable def jD (a0:List Nat):Option (Bool):=
 (bf a0).bind fun y1=>
 some (!y1)
theorem RH {a0:List Nat}{r:Bool}(hr:jD a0=some r):CallOK Try.prog 46 [.au aY a0] [⟨false,.bool,r⟩] []:=by
 unfold jD at hr;refine ij [(false,.bool)] Try.func46 rfl [] fun cx hX hF=> ?_;show HT cx ⟨[(0,lV a0)],[],0⟩ _ _;refine ay [oH] ⟨[(0,lV a0)],[],0⟩ hX aN ?_;obtain ⟨y1,eV,hr⟩:=af hr;refine ay [oH,⟨none,.call [.au aY,.fn] [⟨false,.bool,y1⟩] []⟩,oH,oH] ⟨[(2,bV (!y1))],[],0⟩ hX (aC (n8 eV) aN) ?_;have hr:=ae hr;subst hr;exact HT.ret (rO [bV (!y1)] [] [] trivial)
noncomputable def fj (a0:List Nat):Option (List Nat×Bool):=
 (jD a0).bind fun y1=>
 bif (!y1) then
  some (([]:List Nat),false)
 else
  some (a0,true)
theorem Hd {a0:List Nat}{r:List Nat×Bool}(hr:fj a0=some r):CallOK Try.prog 61 [.mv aY a0] [⟨true,aY,r.1⟩,⟨false,.bool,r.2⟩] []:=by
 unfold fj at hr;refine CallOK.vv (ts:=[(true,aY),(false,.bool)]) Try.func61 rfl (by kernel_rfl) (Nat.le_of_ble_eq_true (by kernel_rfl)) fun cx hP hN hO hF=> ?_;have hO:cx.own.map Prod.fst=[]:=hO;have hX:=vy.mk hP hN hO;show HT cx ⟨[(0,aV 0)],[(0,.seq tF a0)],1⟩ _ _;refine ay (aO 2) ⟨[(0,aV 0)],[(0,.seq tF a0)],1⟩ hX aN ?_;refine HT.seq ?_;obtain ⟨y1,eV,hr⟩:=af hr;refine ay [oH,⟨none,.call [.au aY] [⟨false,.bool,y1⟩] []⟩,oH] ⟨[(0,aV 0),(6,bV (!y1))],[(0,.seq tF a0)],1⟩ hX (aC (RH eV) aN) ?_;rcases an hr with ⟨m6,hr⟩|⟨m6,hr⟩
 refine HT.aK rfl m6 ?_;refine ay (aO 2) ⟨[(2,.one (.ar)),(3,bV false)],[],1⟩ hX aN ?_;have hr:=ae hr;subst hr;exact HT.ret (aM (rO [.one (.ar),bV false] [] [] trivial));refine HT.aJ rfl m6 ?_;refine HT.skip (aj ?_);refine ay (aO 3) ⟨[(2,aV 0),(3,bV true)],[(0,.seq tF a0)],1⟩ hX aN ?_;have hr:=ae hr;subst hr;exact HT.ret (rO [aV 0,bV true] [0] [] trivial)
noncomputable def fU (a0:List Nat)(y1:Nat)(s4:Int×List Nat):Option ((Int×List Nat)⊕(List Nat)):=
 bif (decide (s4.1<(ai a0))) then
  az ((0:Int)≤s4.1∧s4.1<ai s4.2) (
   some (.inl ((al .i64 s4.1 (1:Int)),(List.set s4.2 (Int.toNat s4.1) (av .quo .f32 (List.getD s4.2 (Int.toNat s4.1) (0:Nat)) y1)))))
 else
  some (.inr s4.2)
noncomputable def gr (a0:List Nat):Option (List Nat×Bool):=
 (jA a0).bind fun y1=>
 bif (!(qI .f32 y1 (0:Nat))) then
  some (([]:List Nat),false)
 else
  (rounds (fU a0 y1) ((0:Int),a0)).bind fun r6=>
  (fj r6).bind fun y7=>
  some (y7.1,y7.2)
theorem xS {a0:List Nat}{r:List Nat×Bool}(hr:gr a0=some r):CallOK Try.prog 131 [.mv aY a0] [⟨true,aY,r.1⟩,⟨false,.bool,r.2⟩] []:=by
 unfold gr at hr;refine CallOK.vv (ts:=[(true,aY),(false,.bool)]) Try.func131 rfl (by kernel_rfl) (Nat.le_of_ble_eq_true (by kernel_rfl)) fun cx hP hN hO hF=> ?_;have hO:cx.own.map Prod.fst=[]:=hO;have hX:=vy.mk hP hN hO;show HT cx ⟨[(0,aV 0)],[(0,.seq tF a0)],1⟩ _ _;refine ay (aO 2) ⟨[(0,aV 0)],[(0,.seq tF a0)],1⟩ hX aN ?_;obtain ⟨y1,eV,hr⟩:=af hr;refine ay [oH,⟨none,.call [.au aY] [⟨false,tF,y1⟩] []⟩,oH] ⟨[(0,aV 0),(4,fV y1)],[(0,.seq tF a0)],1⟩ hX (aC (Dh eV) aN) ?_;refine HT.seq ?_;refine ay (aO 3) ⟨[(0,aV 0),(4,fV y1),(10,bV (!(qI .f32 y1 (0:Nat))))],[(0,.seq tF a0)],1⟩ hX aN ?_;rcases an hr with ⟨m6,hr⟩|⟨m6,hr⟩
 refine HT.aK rfl m6 ?_;refine ay (aO 2) ⟨[(2,.one (.ar)),(3,bV false)],[],1⟩ hX aN ?_;have hr:=ae hr;subst hr;exact HT.ret (aM (rO [.one (.ar),bV false] [] [] trivial));refine HT.aJ rfl m6 ?_;refine HT.skip (aj ?_);refine HT.seq ?_;refine ay (aO 3) ⟨[(0,aV 0),(4,fV y1),(12,iV (ai a0)),(13,iV (0:Int))],[(0,.seq tF a0)],1⟩ hX aN ?_;refine HT.block ?_;obtain ⟨r5,RI,hr⟩:=af hr;refine HT.ct (fun (s4:Int×List Nat)=>⟨[(0,aV 0),(4,fV y1),(12,iV (ai a0)),(13,iV s4.1)],[(0,.seq tF s4.2)],1⟩) (fun (r6:List Nat)=>(.exit 0,⟨[(0,aV 0)],[(0,.seq tF r6)],1⟩)) (Le.re [(0,0)] [] hX (by kernel_rfl)) RI ?_ (fun s4 x9 cf wT=> ?_);refine (aZ (aj ?_));obtain ⟨y7,BY,hr⟩:=af hr;refine ay [oH,⟨none,.call [.mv aY] [⟨true,aY,y7.1⟩,⟨false,.bool,y7.2⟩] []⟩,oH,oH,oH,oH] ⟨[(2,aV 1),(3,bV y7.2)],[(1,.seq tF y7.1)],2⟩ hX (aC (Hd BY) aN) ?_;have hr:=ae hr;subst hr;exact HT.ret (rO [aV 1,bV y7.2] [1] [] trivial);refine ay [oH] ⟨[(0,aV 0),(4,fV y1),(12,iV (ai a0)),(13,iV s4.1),(14,bV (decide (s4.1<(ai a0))))],[(0,.seq tF s4.2)],1⟩ hX aN ?_;refine HT.seq ?_;rcases an cf with ⟨cg,cf⟩|⟨cg,cf⟩
 refine HT.aK rfl cg ?_;refine HT.skip (aj ?_);refine HT.seq ?_;refine HT.block ?_;refine ay (aO 2) ⟨[(0,aV 0),(4,fV y1),(5,iV s4.1),(12,iV (ai a0)),(13,iV s4.1)],[(0,.seq tF s4.2)],1⟩ hX aN ?_;obtain ⟨wU,cf⟩:=ao cf;refine HT.xM (aO 10) ⟨[(0,aV 0),(4,fV y1),(12,iV (ai a0)),(13,iV s4.1)],[(0,.seq tF (List.set s4.2 (Int.toNat s4.1) (av .quo .f32 (List.getD s4.2 (Int.toNat s4.1) (0:Nat)) y1)))],1⟩ hX (by kernel_rfl) (aC wU (aC (gy wU) (aC wU (aC (gy wU) aN)))) (bC (aj ?_));have cf:=ae cf;subst cf;exact HT.cR (aO 2) [(0,0)] [] hX (by kernel_rfl) aN (fun _ h=>(bJ ⟨((al .i64 s4.1 (1:Int)),(List.set s4.2 (Int.toNat s4.1) (av .quo .f32 (List.getD s4.2 (Int.toNat s4.1) (0:Nat)) y1))),rfl,h⟩));refine HT.aJ rfl cg ?_;have cf:=ae cf;subst cf;exact HT.cr (Le.re [(0,0)] [] hX (by kernel_rfl)) (bF (bI (wT s4.2 rfl)))
noncomputable def fv (a1:List Nat)(a2:List Nat)(s1:Int×List Nat):Option ((Int×List Nat)⊕(List Nat)):=
 bif (decide (s1.1<(ai a1))) then
  az ((0:Int)≤s1.1∧s1.1<ai a1) (
   az ((0:Int)≤s1.1∧s1.1<ai a2) (
    az (List.length s1.2+List.length ([(av .mul .f32 (List.getD a1 (Int.toNat s1.1) (0:Nat)) (List.getD a2 (Int.toNat s1.1) (0:Nat)))]:List Nat)≤bO) (
     some (.inl ((al .i64 s1.1 (1:Int)),(s1.2++([(av .mul .f32 (List.getD a1 (Int.toNat s1.1) (0:Nat)) (List.getD a2 (Int.toNat s1.1) (0:Nat)))]:List Nat)))))))
 else
  some (.inr s1.2)
noncomputable def cI (a0:eC)(a1:List Nat)(a2:List Nat):Option (List Nat×Bool):=
 (rounds (fv a1 a2) ((0:Int),([]:List Nat))).bind fun r3=>
 (gr r3).bind fun y4=>
 some (y4.1,y4.2)
theorem Iy {a0:eC}{a1:List Nat}{a2:List Nat}{r:List Nat×Bool}(hr:cI a0 a1 a2=some r):CallOK Try.prog 113 [.au tM a0,.au aY a1,.au aY a2] [⟨true,aY,r.1⟩,⟨false,.bool,r.2⟩] []:=by
 unfold cI at hr;refine ij [(true,aY),(false,.bool)] Try.func113 rfl [] fun cx hX hF=> ?_;show HT cx ⟨[(0,.agg [iC a0.1,iC a0.2.1,lC a0.2.2.1,lC a0.2.2.2.1,lC a0.2.2.2.2]),(1,lV a1),(2,lV a2)],[],0⟩ _ _;refine ay (aO 3) ⟨[(1,lV a1),(2,lV a2)],[],1⟩ hX aN ?_;refine ay (aO 2) ⟨[(1,lV a1),(2,lV a2),(8,.one (.ar))],[],1⟩ hX aN ?_;refine HT.seq ?_;refine ay (aO 3) ⟨[(2,lV a2),(8,.one (.ar)),(12,lV a1),(13,iV (ai a1)),(14,iV (0:Int))],[],1⟩ hX aN ?_;refine HT.block ?_;obtain ⟨r2,Di,hr⟩:=af hr;refine HT.ct (fun (s1:Int×List Nat)=>⟨[(2,lV a2),(8,aV 0),(12,lV a1),(13,iV (ai a1)),(14,iV s1.1)],[(0,.seq tF s1.2)],1⟩) (fun (r3:List Nat)=>(.exit 0,⟨[(8,aV 0)],[(0,.seq tF r3)],1⟩)) (Le.re [] [0] hX (by kernel_rfl)) Di ?_ (fun s1 x6 et Is=> ?_);refine (aZ (aj ?_));obtain ⟨y4,rI,hr⟩:=af hr;refine ay [oH,⟨none,.call [.mv aY] [⟨true,aY,y4.1⟩,⟨false,.bool,y4.2⟩] []⟩,oH,oH,oH,oH] ⟨[(6,aV 1),(7,bV y4.2)],[(1,.seq tF y4.1)],2⟩ hX (aC (xS rI) aN) ?_;have hr:=ae hr;subst hr;exact HT.ret (rO [aV 1,bV y4.2] [1] [] trivial);refine ay [oH] ⟨[(2,lV a2),(8,aV 0),(12,lV a1),(13,iV (ai a1)),(14,iV s1.1),(15,bV (decide (s1.1<(ai a1))))],[(0,.seq tF s1.2)],1⟩ hX aN ?_;refine HT.seq ?_;rcases an et with ⟨na,et⟩|⟨na,et⟩
 refine HT.aK rfl na ?_;refine HT.skip (aj ?_);refine HT.seq ?_;refine HT.block ?_;obtain ⟨yk,et⟩:=ao et;refine ay (aO 5) ⟨[(2,lV a2),(8,aV 0),(9,iV s1.1),(10,fV (List.getD a1 (Int.toNat s1.1) (0:Nat))),(12,lV a1),(13,iV (ai a1)),(14,iV s1.1)],[(0,.seq tF s1.2)],1⟩ hX (aC yk aN) ?_;obtain ⟨sC,et⟩:=ao et;obtain ⟨Rx,et⟩:=ao et;refine HT.xM [oH,oH,oH,oH,oH,oH,oH,⟨none,.ty tF⟩,⟨none,.ty tF⟩,oH] ⟨[(2,lV a2),(8,aV 2),(12,lV a1),(13,iV (ai a1)),(14,iV s1.1)],[(2,.seq tF (s1.2++([(av .mul .f32 (List.getD a1 (Int.toNat s1.1) (0:Nat)) (List.getD a2 (Int.toNat s1.1) (0:Nat)))]:List Nat)))],3⟩ hX (by kernel_rfl) (aC sC (aC Rx aN)) (bC (aj ?_));have et:=ae et;subst et;exact HT.cR (aO 2) [(2,0)] [] hX (by kernel_rfl) aN (fun _ h=>(bJ ⟨((al .i64 s1.1 (1:Int)),(s1.2++([(av .mul .f32 (List.getD a1 (Int.toNat s1.1) (0:Nat)) (List.getD a2 (Int.toNat s1.1) (0:Nat)))]:List Nat))),rfl,h⟩));refine HT.aJ rfl na ?_;have et:=ae et;subst et;exact HT.cr (Le.re [(0,0)] [] hX (by kernel_rfl)) (bF (bI (Is s1.2 rfl)))
noncomputable def mV (a1:List Nat)(s1:Int×List Nat):Option ((Int×List Nat)⊕(List Nat)):=
 bif (decide (s1.1<(ai a1))) then
  az ((0:Int)≤s1.1∧s1.1<ai a1) (
   az ((0:Int)≤s1.1∧s1.1<ai s1.2) (
    some (.inl ((al .i64 s1.1 (1:Int)),(List.set s1.2 (Int.toNat s1.1) (av .add .f32 (List.getD s1.2 (Int.toNat s1.1) (0:Nat)) (List.getD a1 (Int.toNat s1.1) (0:Nat))))))))
 else
  some (.inr s1.2)
noncomputable def mI (a0:List Nat)(a1:List Nat):Option (List Nat):=
 (rounds (mV a1) ((0:Int),a0)).bind fun r3=>
 az (List.length r3=List.length a0) (
  some r3)
theorem Iz {a0:List Nat}{a1:List Nat}{r:List Nat}(hr:mI a0 a1=some r):CallOK Try.prog 114 [.own aY a0,.au aY a1] [] [⟨aY,r⟩]:=by
 unfold mI at hr;refine ij [] Try.func114 rfl [0] fun cx hX hF=> ?_;show HT cx ⟨[(0,aV 0),(1,lV a1)],[(0,.seq tF a0)],1⟩ _ _;refine ay (aO 3) ⟨[(0,aV 0),(6,lV a1),(7,iV (ai a1)),(8,iV (0:Int))],[(0,.seq tF a0)],1⟩ hX aN ?_;refine HT.block ?_;obtain ⟨r2,X4,hr⟩:=af hr;refine HT.ct (fun (s1:Int×List Nat)=>⟨[(0,aV 0),(6,lV a1),(7,iV (ai a1)),(8,iV s1.1)],[(0,.seq tF s1.2)],1⟩) (fun (r3:List Nat)=>(.exit 0,⟨[],[(0,.seq tF r3)],1⟩)) (Le.re [(0,0)] [] hX (by kernel_rfl)) X4 ?_ (fun s1 x5 dm BZ=> ?_);obtain ⟨PW,hr⟩:=ao hr;have hr:=ae hr;subst hr;exact (aZ (rO [] [] [List.length r2=List.length a0] ⟨PW,trivial⟩));refine ay [oH] ⟨[(0,aV 0),(6,lV a1),(7,iV (ai a1)),(8,iV s1.1),(9,bV (decide (s1.1<(ai a1))))],[(0,.seq tF s1.2)],1⟩ hX aN ?_;refine HT.seq ?_;rcases an dm with ⟨iN,dm⟩|⟨iN,dm⟩
 refine HT.aK rfl iN ?_;refine HT.skip (aj ?_);refine HT.seq ?_;refine HT.block ?_;obtain ⟨LR,dm⟩:=ao dm;refine ay (aO 5) ⟨[(0,aV 0),(4,iV s1.1),(5,fV (List.getD a1 (Int.toNat s1.1) (0:Nat))),(6,lV a1),(7,iV (ai a1)),(8,iV s1.1)],[(0,.seq tF s1.2)],1⟩ hX (aC LR aN) ?_;obtain ⟨yk,dm⟩:=ao dm;refine HT.xM (aO 10) ⟨[(0,aV 0),(6,lV a1),(7,iV (ai a1)),(8,iV s1.1)],[(0,.seq tF (List.set s1.2 (Int.toNat s1.1) (av .add .f32 (List.getD s1.2 (Int.toNat s1.1) (0:Nat)) (List.getD a1 (Int.toNat s1.1) (0:Nat)))))],1⟩ hX (by kernel_rfl) (aC yk (aC (gy yk) (aC yk (aC (gy yk) aN)))) (bC (aj ?_));have dm:=ae dm;subst dm;exact HT.cR (aO 2) [(0,0)] [] hX (by kernel_rfl) aN (fun _ h=>(bJ ⟨((al .i64 s1.1 (1:Int)),(List.set s1.2 (Int.toNat s1.1) (av .add .f32 (List.getD s1.2 (Int.toNat s1.1) (0:Nat)) (List.getD a1 (Int.toNat s1.1) (0:Nat))))),rfl,h⟩));refine HT.aJ rfl iN ?_;have dm:=ae dm;subst dm;exact HT.cr (Le.re [(0,0)] [] hX (by kernel_rfl)) (bF (bI (BZ s1.2 rfl)))
noncomputable def gA (a0:eC)(a1:List Nat)(a2:List Nat)(a3:Int)(s1:Int×List Nat)(uZ:Int×List Nat):Option ((Int×List Nat)⊕(List Nat)):=
 bif (decide (uZ.1<a0.1)) then
  az ((0:Int)≤s1.1∧s1.1<ai a1) (
   (cC (a0.1,a0.2.1,a0.2.2.1,a0.2.2.2.1,a0.2.2.2.2) s1.1 a3).bind fun yC=>
   (dS (a0.1,a0.2.1,a0.2.2.1,a0.2.2.2.1,a0.2.2.2.2) s1.1 uZ.1).bind fun JZ=>
   az ((0:Int)≤uZ.1∧uZ.1<ai a2) (
    az (List.length uZ.2+List.length ([(av .mul .f32 (av .mul .f32 (av .mul .f32 (List.getD a1 (Int.toNat s1.1) (0:Nat)) yC) JZ) (List.getD a2 (Int.toNat uZ.1) (0:Nat)))]:List Nat)≤bO) (
     some (.inl ((al .i64 uZ.1 (1:Int)),(uZ.2++([(av .mul .f32 (av .mul .f32 (av .mul .f32 (List.getD a1 (Int.toNat s1.1) (0:Nat)) yC) JZ) (List.getD a2 (Int.toNat uZ.1) (0:Nat)))]:List Nat)))))))
 else
  some (.inr uZ.2)
noncomputable def gB (a0:eC)(a1:List Nat)(a2:List Nat)(a3:Int)(s1:Int×List Nat):Option ((Int×List Nat)⊕(List Nat)):=
 bif (decide (s1.1<a0.1)) then
  (rounds (gA a0 a1 a2 a3 s1) ((0:Int),s1.2)).bind fun Kt=>
  some (.inl ((al .i64 s1.1 (1:Int)),Kt))
 else
  some (.inr s1.2)
noncomputable def eQ (a0:eC)(a1:List Nat)(a2:List Nat)(a3:Int):Option (List Nat×Bool):=
 (rounds (gB a0 a1 a2 a3) ((0:Int),([]:List Nat))).bind fun r3=>
 (gr r3).bind fun y4=>
 some (y4.1,y4.2)
theorem Ox {a0:eC}{a1:List Nat}{a2:List Nat}{a3:Int}{r:List Nat×Bool}(hr:eQ a0 a1 a2 a3=some r):CallOK Try.prog 115 [.au tM a0,.au aY a1,.au aY a2,.au tI a3] [⟨true,aY,r.1⟩,⟨false,.bool,r.2⟩] []:=by
 unfold eQ at hr;refine ij [(true,aY),(false,.bool)] Try.func115 rfl [] fun cx hX hF=> ?_;show HT cx ⟨[(0,.agg [iC a0.1,iC a0.2.1,lC a0.2.2.1,lC a0.2.2.2.1,lC a0.2.2.2.2]),(1,lV a1),(2,lV a2),(3,iV a3)],[],0⟩ _ _;refine ay (aO 3) ⟨[(1,lV a1),(2,lV a2),(3,iV a3),(4,pV 0 0)],[(0,cb a0)],1⟩ hX aN ?_;refine ay (aO 2) ⟨[(1,lV a1),(2,lV a2),(3,iV a3),(4,pV 0 0),(10,.one (.ar))],[(0,cb a0)],1⟩ hX aN ?_;refine HT.seq ?_;refine ay (aO 3) ⟨[(1,lV a1),(2,lV a2),(3,iV a3),(4,pV 0 0),(10,.one (.ar)),(16,iV a0.1),(17,iV (0:Int))],[(0,cb a0)],1⟩ hX aN ?_;refine HT.block ?_;obtain ⟨r2,X5,hr⟩:=af hr;refine HT.ct (fun (s1:Int×List Nat)=>⟨[(1,lV a1),(2,lV a2),(3,iV a3),(4,pV 0 0),(10,aV 1),(16,iV a0.1),(17,iV s1.1)],[(0,cb a0),(1,.seq tF s1.2)],2⟩) (fun (r3:List Nat)=>(.exit 0,⟨[(10,aV 0)],[(0,.seq tF r3)],1⟩)) (Le.re [(0,0)] [1] hX (by kernel_rfl)) X5 ?_ (fun s1 x6 et Is=> ?_);refine (aZ (aj ?_));obtain ⟨y4,rI,hr⟩:=af hr;refine ay [oH,⟨none,.call [.mv aY] [⟨true,aY,y4.1⟩,⟨false,.bool,y4.2⟩] []⟩,oH,oH,oH,oH] ⟨[(8,aV 1),(9,bV y4.2)],[(1,.seq tF y4.1)],2⟩ hX (aC (xS rI) aN) ?_;have hr:=ae hr;subst hr;exact HT.ret (rO [aV 1,bV y4.2] [1] [] trivial);refine ay [oH] ⟨[(1,lV a1),(2,lV a2),(3,iV a3),(4,pV 0 0),(10,aV 1),(16,iV a0.1),(17,iV s1.1),(18,bV (decide (s1.1<a0.1)))],[(0,cb a0),(1,.seq tF s1.2)],2⟩ hX aN ?_;refine HT.seq ?_;rcases an et with ⟨na,et⟩|⟨na,et⟩
 refine HT.aK rfl na ?_;refine HT.skip (aj ?_);refine HT.seq ?_;refine HT.block ?_;refine ay (aO 2) ⟨[(1,lV a1),(2,lV a2),(3,iV a3),(4,pV 0 0),(10,aV 1),(11,iV s1.1),(16,iV a0.1),(17,iV s1.1)],[(0,cb a0),(1,.seq tF s1.2)],2⟩ hX aN ?_;refine ay (aO 3) ⟨[(1,lV a1),(2,lV a2),(3,iV a3),(4,pV 0 0),(10,aV 1),(11,iV s1.1),(16,iV a0.1),(17,iV s1.1),(21,iV a0.1),(22,iV (0:Int))],[(0,cb a0),(1,.seq tF s1.2)],2⟩ hX aN ?_;refine HT.block ?_;obtain ⟨Fb,RJ,et⟩:=af et;refine HT.ct (fun (uZ:Int×List Nat)=>⟨[(1,lV a1),(2,lV a2),(3,iV a3),(4,pV 0 0),(10,aV 1),(11,iV s1.1),(16,iV a0.1),(17,iV s1.1),(21,iV a0.1),(22,iV uZ.1)],[(0,cb a0),(1,.seq tF uZ.2)],2⟩) (fun (Kt:List Nat)=>(.exit 2,⟨[(1,lV a1),(2,lV a2),(3,iV a3),(4,pV 0 0),(10,aV 1),(16,iV a0.1),(17,iV s1.1)],[(0,cb a0),(1,.seq tF Kt)],2⟩)) (Le.re [(0,0),(1,1)] [] hX (by kernel_rfl)) RJ ?_ (fun uZ ZW di JW=> ?_);refine (aZ (bC (aj ?_)));have et:=ae et;subst et;exact HT.cR (aO 2) [(0,0),(1,1)] [] hX (by kernel_rfl) aN (fun _ h=>(bJ ⟨((al .i64 s1.1 (1:Int)),Fb),rfl,h⟩));refine ay [oH] ⟨[(1,lV a1),(2,lV a2),(3,iV a3),(4,pV 0 0),(10,aV 1),(11,iV s1.1),(16,iV a0.1),(17,iV s1.1),(21,iV a0.1),(22,iV uZ.1),(23,bV (decide (uZ.1<a0.1)))],[(0,cb a0),(1,.seq tF uZ.2)],2⟩ hX aN ?_;refine HT.seq ?_;rcases an di with ⟨oN,di⟩|⟨oN,di⟩
 refine HT.aK rfl oN ?_;refine HT.skip (aj ?_);refine HT.seq ?_;refine HT.block ?_;refine ay (aO 2) ⟨[(1,lV a1),(2,lV a2),(3,iV a3),(4,pV 0 0),(10,aV 1),(11,iV s1.1),(12,iV uZ.1),(16,iV a0.1),(17,iV s1.1),(21,iV a0.1),(22,iV uZ.1)],[(0,cb a0),(1,.seq tF uZ.2)],2⟩ hX aN ?_;obtain ⟨vJ,di⟩:=ao di;obtain ⟨yC,Br,di⟩:=af di;obtain ⟨JZ,Rm,di⟩:=af di;refine HT.D7 13 [o0,o0,⟨oH,[0,1]⟩,⟨oH,[0,1,2]⟩,o0,o0,o0,⟨⟨none,.call [.au tM,.au tI,.au tI] [⟨false,tF,yC⟩] []⟩,[4,5,6]⟩,⟨oH,(rL 8)⟩,o0,o0,o0,⟨⟨none,.call [.au tM,.au tI,.au tI] [⟨false,tF,JZ⟩] []⟩,[4,5,6,7,9,10,11]⟩] [(rL 13),(rL 14)] (aO 2) ⟨[(1,lV a1),(2,lV a2),(3,iV a3),(4,pV 0 0),(10,aV 1),(11,iV s1.1),(12,iV uZ.1),(13,fV (av .mul .f32 (av .mul .f32 (List.getD a1 (Int.toNat s1.1) (0:Nat)) yC) JZ)),(16,iV a0.1),(17,iV s1.1),(21,iV a0.1),(22,iV uZ.1)],[(0,cb a0),(1,.seq tF uZ.2)],2⟩ hX (by kernel_rfl) (by kernel_rfl) (aC vJ (aC (Dj Br) (aC (G6 Rm) aN))) ?_;obtain ⟨RK,di⟩:=ao di;obtain ⟨J2,di⟩:=ao di;refine HT.xM [oH,oH,oH,oH,oH,oH,oH,⟨none,.ty tF⟩,⟨none,.ty tF⟩,oH] ⟨[(1,lV a1),(2,lV a2),(3,iV a3),(4,pV 0 0),(10,aV 3),(11,iV s1.1),(16,iV a0.1),(17,iV s1.1),(21,iV a0.1),(22,iV uZ.1)],[(3,.seq tF (uZ.2++([(av .mul .f32 (av .mul .f32 (av .mul .f32 (List.getD a1 (Int.toNat s1.1) (0:Nat)) yC) JZ) (List.getD a2 (Int.toNat uZ.1) (0:Nat)))]:List Nat))),(0,cb a0)],4⟩ hX (by kernel_rfl) (aC RK (aC J2 aN)) (bC (aj ?_));have di:=ae di;subst di;exact HT.cR (aO 2) [(0,0),(3,1)] [] hX (by kernel_rfl) aN (fun _ h=>(bJ ⟨((al .i64 uZ.1 (1:Int)),(uZ.2++([(av .mul .f32 (av .mul .f32 (av .mul .f32 (List.getD a1 (Int.toNat s1.1) (0:Nat)) yC) JZ) (List.getD a2 (Int.toNat uZ.1) (0:Nat)))]:List Nat))),rfl,h⟩));refine HT.aJ rfl oN ?_;have di:=ae di;subst di;exact HT.cr (Le.re [(0,0),(1,1)] [] hX (by kernel_rfl)) (bF (bI (JW uZ.2 rfl)));refine HT.aJ rfl na ?_;have et:=ae et;subst et;exact HT.cr (Le.re [(1,0)] [] hX (by kernel_rfl)) (bF (bI (Is s1.2 rfl)))
noncomputable def dv (a0:eC)(a2:List Int)(gm:Int×List Nat×List Nat)(pL:List Nat×Bool)(qf:Int×List Nat):Option ((Int×List Nat)⊕(List Nat)):=
 bif (decide (qf.1<(ai pL.1))) then
  az ((0:Int)≤qf.1∧qf.1<ai pL.1) (
   az ((0:Int)≤(al .i64 (aU .i64 qf.1 a0.2.1) (List.getD a2 (Int.toNat gm.1) (0:Int)))∧(al .i64 (aU .i64 qf.1 a0.2.1) (List.getD a2 (Int.toNat gm.1) (0:Int)))<ai qf.2) (
    some (.inl ((al .i64 qf.1 (1:Int)),(List.set qf.2 (Int.toNat (al .i64 (aU .i64 qf.1 a0.2.1) (List.getD a2 (Int.toNat gm.1) (0:Int)))) (av .add .f32 (List.getD qf.2 (Int.toNat (al .i64 (aU .i64 qf.1 a0.2.1) (List.getD a2 (Int.toNat gm.1) (0:Int)))) (0:Nat)) (List.getD pL.1 (Int.toNat qf.1) (0:Nat))))))))
 else
  some (.inr qf.2)
noncomputable def cM (a0:eC)(a2:List Int)(y1:List (List Nat))(y3:List (List Nat))(gm:Int×List Nat×List Nat):Option ((Int×List Nat×List Nat)⊕((List Nat×List Nat)⊕(List Nat×List Nat))):=
 bif (decide (gm.1<(ai a2))) then
  az ((0:Int)≤gm.1∧gm.1<ai a2) (
   az ((0:Int)≤gm.1∧gm.1<ai y1) (
    az ((0:Int)≤gm.1∧gm.1<ai y3) (
     (cI (a0.1,a0.2.1,a0.2.2.1,a0.2.2.2.1,a0.2.2.2.2) (List.getD y1 (Int.toNat gm.1) ([]:List Nat)) (List.getD y3 (Int.toNat gm.1) ([]:List Nat))).bind fun pL=>
     az ((0:Int)≤(al .i64 gm.1 (1:Int))∧(al .i64 gm.1 (1:Int))<ai y3) (
      (eQ (a0.1,a0.2.1,a0.2.2.1,a0.2.2.2.1,a0.2.2.2.2) (List.getD y1 (Int.toNat gm.1) ([]:List Nat)) (List.getD y3 (Int.toNat (al .i64 gm.1 (1:Int))) ([]:List Nat)) (List.getD a2 (Int.toNat gm.1) (0:Int))).bind fun AV=>
      (show Option (Bool) from
       bif (!pL.2) then
        some true
       else
        some (!AV.2)).bind fun V4=>
      bif V4 then
       some (.inr (.inr (gm.2.1,gm.2.2)))
      else
       (rounds (dv a0 a2 gm pL) ((0:Int),gm.2.2)).bind fun X6=>
       (mI gm.2.1 AV.1).bind fun Ny=>
       some (.inl ((al .i64 gm.1 (1:Int)),Ny,X6))))))
 else
  some (.inr (.inl (gm.2.1,gm.2.2)))
noncomputable def gC (a0:eC)(a1:List Nat×List Nat×List Nat)(a2:List Int):Option (Bool×(List Nat×List Nat×List Nat)):=
 (fT (a0.1,a0.2.1,a0.2.2.1,a0.2.2.2.1,a0.2.2.2.2) a2).bind fun y1=>
 (fi (a0.1,a0.2.1,a0.2.2.1,a0.2.2.2.1,a0.2.2.2.2) a2).bind fun y3=>
 az ((0:Int)≤(0:Int)∧(0:Int)<ai y1) (
  az ((0:Int)≤(0:Int)∧(0:Int)<ai y3) (
   (cI (a0.1,a0.2.1,a0.2.2.1,a0.2.2.2.1,a0.2.2.2.2) (List.getD y1 (Int.toNat (0:Int)) ([]:List Nat)) (List.getD y3 (Int.toNat (0:Int)) ([]:List Nat))).bind fun y7=>
   bif (!y7.2) then
    some (false,a1.1,a1.2.1,a1.2.2)
   else
    (mI a1.1 y7.1).bind fun fP=>
    (rounds (cM a0 a2 y1 y3) ((0:Int),a1.2.1,a1.2.2)).bind fun wZ=>match wZ with
     | .inl D9=>
      az (List.length fP=List.length a1.1) (
       az (List.length D9.1=List.length a1.2.1) (
        az (List.length D9.2=List.length a1.2.2) (
         some (true,fP,D9.1,D9.2))))
     | .inr vM=>
      az (List.length fP=List.length a1.1) (
       az (List.length vM.1=List.length a1.2.1) (
        az (List.length vM.2=List.length a1.2.2) (
         some (false,fP,vM.1,vM.2))))))
theorem RL {a0:eC}{a1:List Nat×List Nat×List Nat}{a2:List Int}{r:Bool×(List Nat×List Nat×List Nat)}(hr:gC a0 a1 a2=some r):CallOK Try.prog 72 [.au tM a0,.own (.st (.pair aY (.pair aY aY))) a1,.au bM a2] [⟨false,.bool,r.1⟩] [⟨(.st (.pair aY (.pair aY aY))),r.2⟩]:=by
 unfold gC at hr;refine ij [(false,.bool)] Try.func72 rfl [0,1,2] fun cx hX hF=> ?_;show HT cx ⟨[(0,.agg [iC a0.1,iC a0.2.1,lC a0.2.2.1,lC a0.2.2.2.1,lC a0.2.2.2.2]),(1,.agg [.all 0,.all 1,.all 2]),(2,nV a2)],[(0,.seq tF a1.1),(1,.seq tF a1.2.1),(2,.seq tF a1.2.2)],3⟩ _ _;refine ay (aO 3) ⟨[(2,nV a2),(3,pV 3 0),(4,pV 4 0)],[(4,.box [.all 0,.all 1,.all 2]),(3,cb a0),(0,.seq tF a1.1),(1,.seq tF a1.2.1),(2,.seq tF a1.2.2)],5⟩ hX aN ?_;obtain ⟨y1,eV,hr⟩:=af hr;obtain ⟨y3,Og,hr⟩:=af hr;refine HT.D7 5 [o0,o0,⟨⟨none,.call [.au tM,.au bM] [⟨false,(.sl aY),y1⟩] []⟩,[0,1]⟩,o0,o0] [(rL 5),(rL 6),(rL 7)] [⟨none,.call [.au tM,.au bM] [⟨false,(.sl aY),y3⟩] []⟩,oH,oH] ⟨[(2,nV a2),(3,pV 3 0),(4,pV 4 0),(7,.one (.aq (.sl aY) y1)),(8,.one (.aq (.sl aY) y3))],[(4,.box [.all 0,.all 1,.all 2]),(3,cb a0),(0,.seq tF a1.1),(1,.seq tF a1.2.1),(2,.seq tF a1.2.2)],5⟩ hX (by kernel_rfl) (by kernel_rfl) (aC (Rz eV) (aC (RB Og) aN)) ?_;obtain ⟨XE,hr⟩:=ao hr;obtain ⟨hg6,hr⟩:=ao hr;obtain ⟨y7,BY,hr⟩:=af hr;refine HT.D7 12 [o0,o0,⟨oH,[1]⟩,⟨oH,[1,2]⟩,o0,⟨oH,[4]⟩,⟨oH,[4,5]⟩,⟨⟨none,.call [.au tM,.au aY,.au aY] [⟨true,aY,y7.1⟩,⟨false,.bool,y7.2⟩] []⟩,(rL 7)⟩,⟨oH,(rL 8)⟩,⟨oH,(rL 9)⟩,⟨oH,(rL 9)⟩,⟨oH,(rL 10)⟩] [(rL 12)] [oH] ⟨[(2,nV a2),(3,pV 3 0),(4,pV 4 0),(7,.one (.aq (.sl aY) y1)),(8,.one (.aq (.sl aY) y3)),(9,aV 5),(10,bV y7.2)],[(5,.seq tF y7.1),(4,.box [.all 0,.all 1,.all 2]),(3,cb a0),(0,.seq tF a1.1),(1,.seq tF a1.2.1),(2,.seq tF a1.2.2)],6⟩ hX (by kernel_rfl) (by kernel_rfl) (aC XE (aC hg6 (aC (Iy BY) aN))) ?_;refine HT.seq ?_;refine ay (aO 2) ⟨[(2,nV a2),(3,pV 3 0),(4,pV 4 0),(7,.one (.aq (.sl aY) y1)),(8,.one (.aq (.sl aY) y3)),(9,aV 5),(38,bV (!y7.2))],[(5,.seq tF y7.1),(4,.box [.all 0,.all 1,.all 2]),(3,cb a0),(0,.seq tF a1.1),(1,.seq tF a1.2.1),(2,.seq tF a1.2.2)],6⟩ hX aN ?_;rcases an hr with ⟨na,hr⟩|⟨na,hr⟩
 refine HT.aK rfl na ?_;refine ay [oH] ⟨[(6,bV false)],[(0,.seq tF a1.1),(1,.seq tF a1.2.1),(2,.seq tF a1.2.2)],6⟩ hX aN ?_;have hr:=ae hr;subst hr;exact HT.ret (aM (rO [bV false] [] [List.length a1.1=List.length a1.1,List.length a1.2.1=List.length a1.2.1,List.length a1.2.2=List.length a1.2.2] ⟨(show List.length a1.1=List.length a1.1 from rfl),(show List.length a1.2.1=List.length a1.2.1 from rfl),(show List.length a1.2.2=List.length a1.2.2 from rfl),trivial⟩));refine HT.aJ rfl na ?_;refine HT.skip (aj ?_);obtain ⟨fP,pF,hr⟩:=af hr;refine ay [oH,oH,oH,⟨none,.call [.own aY,.au aY] [] [⟨aY,fP⟩]⟩] ⟨[(2,nV a2),(3,pV 3 0),(4,pV 4 0),(7,.one (.aq (.sl aY) y1)),(8,.one (.aq (.sl aY) y3))],[(0,.seq tF fP),(4,.box [.all 0,.all 1,.all 2]),(3,cb a0),(1,.seq tF a1.2.1),(2,.seq tF a1.2.2)],6⟩ hX (aC (Iz pF) aN) ?_;refine HT.seq ?_;refine ay (aO 3) ⟨[(3,pV 3 0),(4,pV 4 0),(7,.one (.aq (.sl aY) y1)),(8,.one (.aq (.sl aY) y3)),(43,nV a2),(44,iV (ai a2)),(45,iV (0:Int))],[(0,.seq tF fP),(4,.box [.all 0,.all 1,.all 2]),(3,cb a0),(1,.seq tF a1.2.1),(2,.seq tF a1.2.2)],6⟩ hX aN ?_;refine HT.block ?_;obtain ⟨wZ,X7,hr⟩:=af hr;refine HT.ct (fun (gm:Int×List Nat×List Nat)=>⟨[(3,pV 3 0),(4,pV 4 0),(7,.one (.aq (.sl aY) y1)),(8,.one (.aq (.sl aY) y3)),(43,nV a2),(44,iV (ai a2)),(45,iV gm.1)],[(0,.seq tF fP),(1,.seq tF gm.2.1),(2,.seq tF gm.2.2),(3,cb a0),(4,.box [.all 0,.all 1,.all 2])],5⟩) (fun (wZ:(List Nat×List Nat)⊕(List Nat×List Nat))=>match wZ with| .inl D9=>(.exit 0,⟨[],[(0,.seq tF fP),(1,.seq tF D9.1),(2,.seq tF D9.2)],3⟩)| .inr vM=>(.ret,⟨[(6,bV false)],[(0,.seq tF fP),(1,.seq tF vM.1),(2,.seq tF vM.2)],3⟩)) (Le.re [(0,0),(1,1),(2,2),(3,3),(4,4)] [] hX (by kernel_rfl)) X7 ?_ (fun gm x22 fS Oo=> ?_);rcases wZ with D9|vM
 refine (aZ (aj ?_));refine ay [oH] ⟨[(6,bV true)],[(0,.seq tF fP),(1,.seq tF D9.1),(2,.seq tF D9.2)],3⟩ hX aN ?_;obtain ⟨X8,hr⟩:=ao hr;obtain ⟨tX,hr⟩:=ao hr;obtain ⟨vJ,hr⟩:=ao hr;have hr:=ae hr;subst hr;exact HT.ret (rO [bV true] [] [List.length fP=List.length a1.1,List.length D9.1=List.length a1.2.1,List.length D9.2=List.length a1.2.2] ⟨X8,tX,vJ,trivial⟩);obtain ⟨LO,hr⟩:=ao hr;obtain ⟨J1,hr⟩:=ao hr;obtain ⟨RM,hr⟩:=ao hr;have hr:=ae hr;subst hr;exact (bE (aM (rO [bV false] [] [List.length fP=List.length a1.1,List.length vM.1=List.length a1.2.1,List.length vM.2=List.length a1.2.2] ⟨LO,J1,RM,trivial⟩)));refine ay [oH] ⟨[(3,pV 3 0),(4,pV 4 0),(7,.one (.aq (.sl aY) y1)),(8,.one (.aq (.sl aY) y3)),(43,nV a2),(44,iV (ai a2)),(45,iV gm.1),(46,bV (decide (gm.1<(ai a2))))],[(0,.seq tF fP),(1,.seq tF gm.2.1),(2,.seq tF gm.2.2),(3,cb a0),(4,.box [.all 0,.all 1,.all 2])],5⟩ hX aN ?_;refine HT.seq ?_;rcases an fS with ⟨sE,fS⟩|⟨sE,fS⟩
 refine HT.aK rfl sE ?_;refine HT.skip (aj ?_);refine HT.seq ?_;refine HT.block ?_;obtain ⟨Ry,fS⟩:=ao fS;refine ay (aO 5) ⟨[(3,pV 3 0),(4,pV 4 0),(7,.one (.aq (.sl aY) y1)),(8,.one (.aq (.sl aY) y3)),(11,iV gm.1),(12,iV (List.getD a2 (Int.toNat gm.1) (0:Int))),(43,nV a2),(44,iV (ai a2)),(45,iV gm.1)],[(0,.seq tF fP),(1,.seq tF gm.2.1),(2,.seq tF gm.2.2),(3,cb a0),(4,.box [.all 0,.all 1,.all 2])],5⟩ hX (aC Ry aN) ?_;obtain ⟨L3,fS⟩:=ao fS;obtain ⟨X9,fS⟩:=ao fS;obtain ⟨pL,RO,fS⟩:=af fS;refine HT.D7 14 [o0,o0,o0,⟨oH,[1,2]⟩,⟨oH,[1,2,3]⟩,o0,o0,⟨oH,[5,6]⟩,⟨oH,[5,6,7]⟩,⟨⟨none,.call [.au tM,.au aY,.au aY] [⟨true,aY,pL.1⟩,⟨false,.bool,pL.2⟩] []⟩,(rL 9)⟩,⟨oH,(rL 10)⟩,⟨oH,(rL 11)⟩,⟨oH,(rL 11)⟩,⟨oH,(rL 12)⟩] [(rL 14)] [oH] ⟨[(3,pV 3 0),(4,pV 4 0),(7,.one (.aq (.sl aY) y1)),(8,.one (.aq (.sl aY) y3)),(11,iV gm.1),(12,iV (List.getD a2 (Int.toNat gm.1) (0:Int))),(13,aV 5),(14,bV pL.2),(43,nV a2),(44,iV (ai a2)),(45,iV gm.1)],[(5,.seq tF pL.1),(0,.seq tF fP),(1,.seq tF gm.2.1),(2,.seq tF gm.2.2),(3,cb a0),(4,.box [.all 0,.all 1,.all 2])],6⟩ hX (by kernel_rfl) (by kernel_rfl) (aC L3 (aC X9 (aC (Iy RO) aN))) ?_;obtain ⟨RD,fS⟩:=ao fS;obtain ⟨AV,RE,fS⟩:=af fS;refine HT.D7 16 [o0,o0,o0,⟨oH,[1,2]⟩,⟨oH,[1,2,3]⟩,o0,o0,⟨oH,[6]⟩,⟨oH,[5,6,7]⟩,⟨oH,[5,6,7,8]⟩,o0,⟨⟨none,.call [.au tM,.au aY,.au aY,.au tI] [⟨true,aY,AV.1⟩,⟨false,.bool,AV.2⟩] []⟩,(rL 11)⟩,⟨oH,(rL 12)⟩,⟨oH,(rL 13)⟩,⟨oH,(rL 13)⟩,⟨oH,(rL 14)⟩] [(rL 16)] [oH] ⟨[(3,pV 3 0),(4,pV 4 0),(7,.one (.aq (.sl aY) y1)),(8,.one (.aq (.sl aY) y3)),(12,iV (List.getD a2 (Int.toNat gm.1) (0:Int))),(13,aV 5),(14,bV pL.2),(15,aV 6),(16,bV AV.2),(43,nV a2),(44,iV (ai a2)),(45,iV gm.1)],[(6,.seq tF AV.1),(5,.seq tF pL.1),(0,.seq tF fP),(1,.seq tF gm.2.1),(2,.seq tF gm.2.2),(3,cb a0),(4,.box [.all 0,.all 1,.all 2])],7⟩ hX (by kernel_rfl) (by kernel_rfl) (aC L3 (aC RD (aC (Ox RE) aN))) ?_;refine HT.seq ?_;obtain ⟨Ya,L7,fS⟩:=af fS;refine HT.join (fun (V4:Bool)=>⟨[(3,pV 3 0),(4,pV 4 0),(7,.one (.aq (.sl aY) y1)),(8,.one (.aq (.sl aY) y3)),(12,iV (List.getD a2 (Int.toNat gm.1) (0:Int))),(13,aV 5),(15,aV 6),(43,nV a2),(44,iV (ai a2)),(45,iV gm.1),(83,bV V4)],[(0,.seq tF fP),(1,.seq tF gm.2.1),(2,.seq tF gm.2.2),(3,cb a0),(4,.box [.all 0,.all 1,.all 2]),(5,.seq tF pL.1),(6,.seq tF AV.1)],7⟩) (fun v=>v=Ya) (fun V4 Yb=> ?_) (fun cont=> ?_);subst Yb;rcases an fS with ⟨G7,fS⟩|⟨G7,fS⟩
 refine HT.aK rfl G7 ?_;refine ay [oH] ⟨[(6,bV false)],[(0,.seq tF fP),(1,.seq tF gm.2.1),(2,.seq tF gm.2.2)],7⟩ hX aN ?_;have fS:=ae fS;subst fS;exact HT.qV (Le.re [(0,0),(1,1),(2,2)] [] hX (by kernel_rfl)) (aM (bE (aM (iz (Oo (.inr (gm.2.1,gm.2.2)) rfl)))));refine HT.aJ rfl G7 ?_;refine HT.skip (aj ?_);refine HT.seq ?_;refine ay (aO 3) ⟨[(3,pV 3 0),(4,pV 4 0),(7,.one (.aq (.sl aY) y1)),(8,.one (.aq (.sl aY) y3)),(12,iV (List.getD a2 (Int.toNat gm.1) (0:Int))),(15,aV 6),(43,nV a2),(44,iV (ai a2)),(45,iV gm.1),(84,aV 5),(85,iV (ai pL.1)),(86,iV (0:Int))],[(0,.seq tF fP),(1,.seq tF gm.2.1),(2,.seq tF gm.2.2),(3,cb a0),(4,.box [.all 0,.all 1,.all 2]),(5,.seq tF pL.1),(6,.seq tF AV.1)],7⟩ hX aN ?_;refine HT.block ?_;obtain ⟨ZZ,Yc,fS⟩:=af fS;refine HT.ct (fun (qf:Int×List Nat)=>⟨[(3,pV 3 0),(4,pV 4 0),(7,.one (.aq (.sl aY) y1)),(8,.one (.aq (.sl aY) y3)),(12,iV (List.getD a2 (Int.toNat gm.1) (0:Int))),(15,aV 5),(43,nV a2),(44,iV (ai a2)),(45,iV gm.1),(84,aV 6),(85,iV (ai pL.1)),(86,iV qf.1)],[(0,.seq tF fP),(1,.seq tF gm.2.1),(2,.seq tF qf.2),(3,cb a0),(4,.box [.all 0,.all 1,.all 2]),(5,.seq tF AV.1),(6,.seq tF pL.1)],7⟩) (fun (X6:List Nat)=>(.exit 2,⟨[(3,pV 3 0),(4,pV 4 0),(7,.one (.aq (.sl aY) y1)),(8,.one (.aq (.sl aY) y3)),(15,aV 5),(43,nV a2),(44,iV (ai a2)),(45,iV gm.1)],[(0,.seq tF fP),(1,.seq tF gm.2.1),(2,.seq tF X6),(3,cb a0),(4,.box [.all 0,.all 1,.all 2]),(5,.seq tF AV.1)],6⟩)) (Le.re [(0,0),(1,1),(2,2),(3,3),(4,4),(6,5),(5,6)] [] hX (by kernel_rfl)) Yc ?_ (fun qf x43 w6 Yd=> ?_);refine (aZ (aj ?_));obtain ⟨Ny,RP,fS⟩:=af fS;refine HT.xM [oH,oH,oH,⟨none,.call [.own aY,.au aY] [] [⟨aY,Ny⟩]⟩] ⟨[(3,pV 3 0),(4,pV 4 0),(7,.one (.aq (.sl aY) y1)),(8,.one (.aq (.sl aY) y3)),(43,nV a2),(44,iV (ai a2)),(45,iV gm.1)],[(1,.seq tF Ny),(0,.seq tF fP),(2,.seq tF ZZ),(3,cb a0),(4,.box [.all 0,.all 1,.all 2])],6⟩ hX (by kernel_rfl) (aC (Iz RP) aN) (bC (aj ?_));have fS:=ae fS;subst fS;exact HT.cR (aO 2) [(0,0),(1,1),(2,2),(3,3),(4,4)] [] hX (by kernel_rfl) aN (fun _ h=>(bJ ⟨((al .i64 gm.1 (1:Int)),Ny,ZZ),rfl,h⟩));refine ay [oH] ⟨[(3,pV 3 0),(4,pV 4 0),(7,.one (.aq (.sl aY) y1)),(8,.one (.aq (.sl aY) y3)),(12,iV (List.getD a2 (Int.toNat gm.1) (0:Int))),(15,aV 5),(43,nV a2),(44,iV (ai a2)),(45,iV gm.1),(84,aV 6),(85,iV (ai pL.1)),(86,iV qf.1),(87,bV (decide (qf.1<(ai pL.1))))],[(0,.seq tF fP),(1,.seq tF gm.2.1),(2,.seq tF qf.2),(3,cb a0),(4,.box [.all 0,.all 1,.all 2]),(5,.seq tF AV.1),(6,.seq tF pL.1)],7⟩ hX aN ?_;refine HT.seq ?_;rcases an w6 with ⟨gD,w6⟩|⟨gD,w6⟩
 refine HT.aK rfl gD ?_;refine HT.skip (aj ?_);refine HT.seq ?_;refine HT.block ?_;obtain ⟨UR,w6⟩:=ao w6;refine ay (aO 5) ⟨[(3,pV 3 0),(4,pV 4 0),(7,.one (.aq (.sl aY) y1)),(8,.one (.aq (.sl aY) y3)),(12,iV (List.getD a2 (Int.toNat gm.1) (0:Int))),(15,aV 5),(17,iV qf.1),(18,fV (List.getD pL.1 (Int.toNat qf.1) (0:Nat))),(43,nV a2),(44,iV (ai a2)),(45,iV gm.1),(84,aV 6),(85,iV (ai pL.1)),(86,iV qf.1)],[(0,.seq tF fP),(1,.seq tF gm.2.1),(2,.seq tF qf.2),(3,cb a0),(4,.box [.all 0,.all 1,.all 2]),(5,.seq tF AV.1),(6,.seq tF pL.1)],7⟩ hX (aC UR (aC (gy UR) aN)) ?_;refine ay (aO 7) ⟨[(3,pV 3 0),(4,pV 4 0),(7,.one (.aq (.sl aY) y1)),(8,.one (.aq (.sl aY) y3)),(12,iV (List.getD a2 (Int.toNat gm.1) (0:Int))),(15,aV 5),(18,fV (List.getD pL.1 (Int.toNat qf.1) (0:Nat))),(19,iV (al .i64 (aU .i64 qf.1 a0.2.1) (List.getD a2 (Int.toNat gm.1) (0:Int)))),(43,nV a2),(44,iV (ai a2)),(45,iV gm.1),(84,aV 6),(85,iV (ai pL.1)),(86,iV qf.1)],[(0,.seq tF fP),(1,.seq tF gm.2.1),(2,.seq tF qf.2),(3,cb a0),(4,.box [.all 0,.all 1,.all 2]),(5,.seq tF AV.1),(6,.seq tF pL.1)],7⟩ hX aN ?_;obtain ⟨Oy,w6⟩:=ao w6;refine HT.PT 10 [o0,⟨oH,[0]⟩,o0,o0,⟨oH,[3]⟩,o0,⟨oH,[3,4,5]⟩,⟨oH,[3,4,5,6]⟩,o0,⟨oH,[3,4,5,6,7,8]⟩] [(rL 10),(rL 11)] (aO 2) ⟨[(3,pV 3 0),(4,pV 4 0),(7,.one (.aq (.sl aY) y1)),(8,.one (.aq (.sl aY) y3)),(12,iV (List.getD a2 (Int.toNat gm.1) (0:Int))),(15,aV 5),(43,nV a2),(44,iV (ai a2)),(45,iV gm.1),(84,aV 6),(85,iV (ai pL.1)),(86,iV qf.1)],[(2,.seq tF (List.set qf.2 (Int.toNat (al .i64 (aU .i64 qf.1 a0.2.1) (List.getD a2 (Int.toNat gm.1) (0:Int)))) (av .add .f32 (List.getD qf.2 (Int.toNat (al .i64 (aU .i64 qf.1 a0.2.1) (List.getD a2 (Int.toNat gm.1) (0:Int)))) (0:Nat)) (List.getD pL.1 (Int.toNat qf.1) (0:Nat))))),(0,.seq tF fP),(1,.seq tF gm.2.1),(3,cb a0),(4,.box [.all 0,.all 1,.all 2]),(5,.seq tF AV.1),(6,.seq tF pL.1)],7⟩ hX (by kernel_rfl) (by kernel_rfl) (aC Oy (aC (gy Oy) (aC Oy (aC (gy Oy) aN)))) (bC (aj ?_));have w6:=ae w6;subst w6;exact HT.cR (aO 2) [(0,0),(1,1),(2,2),(3,3),(4,4),(5,5),(6,6)] [] hX (by kernel_rfl) aN (fun _ h=>(bJ ⟨((al .i64 qf.1 (1:Int)),(List.set qf.2 (Int.toNat (al .i64 (aU .i64 qf.1 a0.2.1) (List.getD a2 (Int.toNat gm.1) (0:Int)))) (av .add .f32 (List.getD qf.2 (Int.toNat (al .i64 (aU .i64 qf.1 a0.2.1) (List.getD a2 (Int.toNat gm.1) (0:Int)))) (0:Nat)) (List.getD pL.1 (Int.toNat qf.1) (0:Nat))))),rfl,h⟩));refine HT.aJ rfl gD ?_;have w6:=ae w6;subst w6;exact HT.cr (Le.re [(0,0),(1,1),(2,2),(3,3),(4,4),(5,5)] [] hX (by kernel_rfl)) (bF (bI (Yd qf.2 rfl)));rcases an L7 with ⟨gn,L7⟩|⟨gn,L7⟩
 exact HT.cR [oH,oH,oH,oT,oT,vT] [(0,0),(1,1),(2,2),(3,3),(4,4),(5,5),(6,6)] [] hX (by kernel_rfl) (aC gn (aC gn (aC gn aN))) (fun _ h=>(aj (h.ht (cont true (ae L7)))));exact HT.cR [oH,oH,oH,oF,oF,vF] [(0,0),(1,1),(2,2),(3,3),(4,4),(5,5),(6,6)] [] hX (by kernel_rfl) (aC gn (aC gn (aC gn aN))) (fun _ h=>(aj (h.ht (cont (!AV.2) (ae L7)))));refine HT.aJ rfl sE ?_;have fS:=ae fS;subst fS;exact HT.cr (Le.re [(0,0),(1,1),(2,2)] [] hX (by kernel_rfl)) (bF (bI (Oo (.inl (gm.2.1,gm.2.2)) rfl)))
noncomputable def eT (a0:eC)(a1:List (List Int))(s6:Int×List Nat×List Nat×List Nat):Option ((Int×List Nat×List Nat×List Nat)⊕((List Nat×List Nat×List Nat)⊕Unit)):=
 bif (decide (s6.1<(ai a1))) then
  az ((0:Int)≤s6.1∧s6.1<ai a1) (
   (gC (a0.1,a0.2.1,a0.2.2.1,a0.2.2.2.1,a0.2.2.2.2) (s6.2.1,s6.2.2.1,s6.2.2.2) (List.getD a1 (Int.toNat s6.1) ([]:List Int))).bind fun m9=>
   bif (!m9.1) then
    some (.inr (.inr ()))
   else
    some (.inl ((al .i64 s6.1 (1:Int)),m9.2.1,m9.2.2.1,m9.2.2.2)))
 else
  some (.inr (.inl (s6.2.1,s6.2.2.1,s6.2.2.2)))
noncomputable def fW (a0:eC)(a1:List (List Int)):Option ((eC)×Bool):=
 (cw (a0.1,a0.2.1,a0.2.2.1,a0.2.2.2.1,a0.2.2.2.2) a1).bind fun y1=>
 bif (!y1) then
  some (((0:Int),(0:Int),([]:List Nat),([]:List Nat),([]:List Nat)),false)
 else
  (dK (a0.1,a0.2.1,a0.2.2.1,a0.2.2.2.1,a0.2.2.2.2)).bind fun y4=>
  (rounds (eT a0 a1) ((0:Int),y4.1,y4.2.1,y4.2.2)).bind fun r7=>match r7 with
   | .inl r8=>
    (gq (a0.1,a0.2.1,a0.2.2.1,a0.2.2.2.1,a0.2.2.2.2) (r8.1,r8.2.1,r8.2.2)).bind fun y9=>
    some ((y9.1.1,y9.1.2.1,y9.1.2.2.1,y9.1.2.2.2.1,y9.1.2.2.2.2),y9.2)
   | .inr Fb=>
    some (((0:Int),(0:Int),([]:List Nat),([]:List Nat),([]:List Nat)),false)
theorem L8 {a0:eC}{a1:List (List Int)}{r:(eC)×Bool}(hr:fW a0 a1=some r):CallOK Try.prog 26 [.au tM a0,.au (.sl bM) a1] [⟨true,tM,r.1⟩,⟨false,.bool,r.2⟩] []:=by
 unfold fW at hr;refine ij [(true,tM),(false,.bool)] Try.func26 rfl [] fun cx hX hF=> ?_;show HT cx ⟨[(0,.agg [iC a0.1,iC a0.2.1,lC a0.2.2.1,lC a0.2.2.2.1,lC a0.2.2.2.2]),(1,.one (.aq (.sl bM) a1))],[],0⟩ _ _;refine ay (aO 3) ⟨[(1,.one (.aq (.sl bM) a1)),(2,pV 0 0),(4,pV 1 0)],[(1,.box [iC (0:Int),iC (0:Int),.ar,.ar,.ar]),(0,cb a0)],2⟩ hX aN ?_;refine HT.seq ?_;obtain ⟨y1,eV,hr⟩:=af hr;refine ay [oH,oH,⟨none,.call [.au tM,.au (.sl bM)] [⟨false,.bool,y1⟩] []⟩,oH] ⟨[(1,.one (.aq (.sl bM) a1)),(2,pV 0 0),(4,pV 1 0),(12,bV (!y1))],[(1,.box [iC (0:Int),iC (0:Int),.ar,.ar,.ar]),(0,cb a0)],2⟩ hX (aC (wW eV) aN) ?_;rcases an hr with ⟨m6,hr⟩|⟨m6,hr⟩
 refine HT.aK rfl m6 ?_;refine ay (aO 3) ⟨[(4,pV 1 0),(5,bV false)],[(1,.box [iC (0:Int),iC (0:Int),.ar,.ar,.ar])],2⟩ hX aN ?_;have hr:=ae hr;subst hr;exact HT.ret (aM (rO [.agg [iC (0:Int),iC (0:Int),.ar,.ar,.ar],bV false] [] [] trivial));refine HT.aJ rfl m6 ?_;refine HT.skip (aj ?_);obtain ⟨y4,rI,hr⟩:=af hr;refine ay [oH,⟨none,.call [.au tM] [⟨true,(.st (.pair aY (.pair aY aY))),y4⟩] []⟩,oH,oH] ⟨[(1,.one (.aq (.sl bM) a1)),(2,pV 0 0),(4,pV 1 0),(6,pV 5 0)],[(5,.box [.all 2,.all 3,.all 4]),(2,.seq tF y4.1),(3,.seq tF y4.2.1),(4,.seq tF y4.2.2),(1,.box [iC (0:Int),iC (0:Int),.ar,.ar,.ar]),(0,cb a0)],6⟩ hX (aC (L0 rI) aN) ?_;refine HT.seq ?_;refine ay (aO 3) ⟨[(2,pV 0 0),(4,pV 1 0),(6,pV 5 0),(16,.one (.aq (.sl bM) a1)),(17,iV (ai a1)),(18,iV (0:Int))],[(5,.box [.all 2,.all 3,.all 4]),(2,.seq tF y4.1),(3,.seq tF y4.2.1),(4,.seq tF y4.2.2),(1,.box [iC (0:Int),iC (0:Int),.ar,.ar,.ar]),(0,cb a0)],6⟩ hX aN ?_;refine HT.block ?_;obtain ⟨r7,GY,hr⟩:=af hr;refine HT.ct (fun (s6:Int×List Nat×List Nat×List Nat)=>⟨[(2,pV 0 0),(4,pV 1 0),(6,pV 2 0),(16,.one (.aq (.sl bM) a1)),(17,iV (ai a1)),(18,iV s6.1)],[(0,cb a0),(1,.box [iC (0:Int),iC (0:Int),.ar,.ar,.ar]),(2,.box [.all 3,.all 4,.all 5]),(3,.seq tF s6.2.1),(4,.seq tF s6.2.2.1),(5,.seq tF s6.2.2.2)],6⟩) (fun (r7:(List Nat×List Nat×List Nat)⊕Unit)=>match r7 with| .inl r8=>(.exit 0,⟨[(2,pV 0 0),(4,pV 1 0),(6,pV 2 0)],[(0,cb a0),(1,.box [iC (0:Int),iC (0:Int),.ar,.ar,.ar]),(2,.box [.all 3,.all 4,.all 5]),(3,.seq tF r8.1),(4,.seq tF r8.2.1),(5,.seq tF r8.2.2)],6⟩)| .inr Fb=>(.ret,⟨[(4,pV 0 0),(5,bV false)],[(0,.box [iC (0:Int),iC (0:Int),.ar,.ar,.ar])],1⟩)) (Le.re [(0,0),(1,1),(5,2),(2,3),(3,4),(4,5)] [] hX (by kernel_rfl)) GY ?_ (fun s6 XL cA Dk=> ?_);rcases r7 with r8|Fb
 refine (aZ (aj ?_));obtain ⟨y9,tW,hr⟩:=af hr;refine ay [oH,oH,⟨none,.call [.au tM,.au (.st (.pair aY (.pair aY aY)))] [⟨true,tM,y9.1⟩,⟨false,.bool,y9.2⟩] []⟩,oH,oH,oH,oH] ⟨[(4,pV 1 0),(5,bV y9.2)],[(1,.box [iC y9.1.1,iC y9.1.2.1,.all 6,.all 7,.all 8]),(6,.seq tF y9.1.2.2.1),(7,.seq tF y9.1.2.2.2.1),(8,.seq tF y9.1.2.2.2.2)],9⟩ hX (aC (L4 tW) aN) ?_;have hr:=ae hr;subst hr;exact HT.ret (rO [.agg [iC y9.1.1,iC y9.1.2.1,.all 6,.all 7,.all 8],bV y9.2] [6,7,8] [] trivial);have hr:=ae hr;subst hr;exact (bE (aM (rO [.agg [iC (0:Int),iC (0:Int),.ar,.ar,.ar],bV false] [] [] trivial)));refine ay [oH] ⟨[(2,pV 0 0),(4,pV 1 0),(6,pV 2 0),(16,.one (.aq (.sl bM) a1)),(17,iV (ai a1)),(18,iV s6.1),(19,bV (decide (s6.1<(ai a1))))],[(0,cb a0),(1,.box [iC (0:Int),iC (0:Int),.ar,.ar,.ar]),(2,.box [.all 3,.all 4,.all 5]),(3,.seq tF s6.2.1),(4,.seq tF s6.2.2.1),(5,.seq tF s6.2.2.2)],6⟩ hX aN ?_;refine HT.seq ?_;rcases an cA with ⟨iW,cA⟩|⟨iW,cA⟩
 refine HT.aK rfl iW ?_;refine HT.skip (aj ?_);refine HT.seq ?_;refine HT.block ?_;obtain ⟨tX,cA⟩:=ao cA;refine ay (aO 3) ⟨[(2,pV 0 0),(4,pV 1 0),(6,pV 2 0),(8,nV (List.getD a1 (Int.toNat s6.1) ([]:List Int))),(16,.one (.aq (.sl bM) a1)),(17,iV (ai a1)),(18,iV s6.1)],[(0,cb a0),(1,.box [iC (0:Int),iC (0:Int),.ar,.ar,.ar]),(2,.box [.all 3,.all 4,.all 5]),(3,.seq tF s6.2.1),(4,.seq tF s6.2.2.1),(5,.seq tF s6.2.2.2)],6⟩ hX (aC tX aN) ?_;obtain ⟨m9,G0,cA⟩:=af cA;refine ay [oH,oH,oH,⟨none,.call [.au tM,.own (.st (.pair aY (.pair aY aY))),.au bM] [⟨false,.bool,m9.1⟩] [⟨(.st (.pair aY (.pair aY aY))),m9.2⟩]⟩,oH] ⟨[(2,pV 0 0),(4,pV 1 0),(6,pV 2 0),(16,.one (.aq (.sl bM) a1)),(17,iV (ai a1)),(18,iV s6.1),(26,bV (!m9.1))],[(3,.seq tF m9.2.1),(4,.seq tF m9.2.2.1),(5,.seq tF m9.2.2.2),(0,cb a0),(1,.box [iC (0:Int),iC (0:Int),.ar,.ar,.ar]),(2,.box [.all 3,.all 4,.all 5])],6⟩ hX (aC (RL G0) aN) ?_;rcases an cA with ⟨Hb,cA⟩|⟨Hb,cA⟩
 refine HT.aK rfl Hb ?_;refine ay (aO 3) ⟨[(4,pV 1 0),(5,bV false)],[(1,.box [iC (0:Int),iC (0:Int),.ar,.ar,.ar])],6⟩ hX aN ?_;have cA:=ae cA;subst cA;exact HT.qV (Le.re [(1,0)] [] hX (by kernel_rfl)) (bE (aM (iz (Dk (.inr ()) rfl))));refine HT.aJ rfl Hb ?_;refine HT.skip (bC (aj ?_));have cA:=ae cA;subst cA;exact HT.cR (aO 2) [(0,0),(1,1),(2,2),(3,3),(4,4),(5,5)] [] hX (by kernel_rfl) aN (fun _ h=>(bJ ⟨((al .i64 s6.1 (1:Int)),m9.2.1,m9.2.2.1,m9.2.2.2),rfl,h⟩));refine HT.aJ rfl iW ?_;have cA:=ae cA;subst cA;exact HT.cr (Le.re [(0,0),(1,1),(2,2),(3,3),(4,4),(5,5)] [] hX (by kernel_rfl)) (bF (bI (Dk (.inl (s6.2.1,s6.2.2.1,s6.2.2.2)) rfl)))
noncomputable def fl (a1:List (List Int))(a2:Int)(pa:Int×eC):Option ((Int×eC)⊕((eC)⊕Unit)):=
 bif (decide (pa.1<a2)) then
  (fW (pa.2.1,pa.2.2.1,pa.2.2.2.1,pa.2.2.2.2.1,pa.2.2.2.2.2) a1).bind fun kB=>
  bif (!kB.2) then
   some (.inr (.inr ()))
  else
   some (.inl ((al .i64 pa.1 (1:Int)),kB.1.1,kB.1.2.1,kB.1.2.2.1,kB.1.2.2.2.1,kB.1.2.2.2.2))
 else
  some (.inr (.inl (pa.2.1,pa.2.2.1,pa.2.2.2.1,pa.2.2.2.2.1,pa.2.2.2.2.2)))
noncomputable def g9 (a0:eC)(a1:List (List Int))(a2:Int):Option ((eC)×Bool):=
 (show Option (Bool) from
  (cw (a0.1,a0.2.1,a0.2.2.1,a0.2.2.2.1,a0.2.2.2.2) a1).bind fun B0=>
  bif (!B0) then
   some true
  else
   (db a2 (0:Int) (32:Int)).bind fun Nw=>
   some (!Nw)).bind fun v1=>
 bif v1 then
  some (((0:Int),(0:Int),([]:List Nat),([]:List Nat),([]:List Nat)),false)
 else
  (cc a0.2.2.1).bind fun y5=>
  (cc a0.2.2.2.1).bind fun y7=>
  (cc a0.2.2.2.2).bind fun y9=>
  (rounds (fl a1 a2) ((0:Int),a0.1,a0.2.1,y5,y7,y9)).bind fun Kt=>match Kt with
   | .inl wZ=>
    some ((wZ.1,wZ.2.1,wZ.2.2.1,wZ.2.2.2.1,wZ.2.2.2.2),true)
   | .inr D9=>
    some (((0:Int),(0:Int),([]:List Nat),([]:List Nat),([]:List Nat)),false)
theorem RQ {a0:eC}{a1:List (List Int)}{a2:Int}{r:(eC)×Bool}(hr:g9 a0 a1 a2=some r):CallOK Try.prog 27 [.au tM a0,.au (.sl bM) a1,.au tI a2] [⟨true,tM,r.1⟩,⟨false,.bool,r.2⟩] []:=by
 unfold g9 at hr;refine ij [(true,tM),(false,.bool)] Try.func27 rfl [] fun cx hX hF=> ?_;show HT cx ⟨[(0,.agg [iC a0.1,iC a0.2.1,lC a0.2.2.1,lC a0.2.2.2.1,lC a0.2.2.2.2]),(1,.one (.aq (.sl bM) a1)),(2,iV a2)],[],0⟩ _ _;refine ay (aO 3) ⟨[(1,.one (.aq (.sl bM) a1)),(2,iV a2),(3,pV 0 0),(6,pV 1 0)],[(1,.box [iC (0:Int),iC (0:Int),.ar,.ar,.ar]),(0,cb a0)],2⟩ hX aN ?_;refine HT.seq ?_;obtain ⟨qW,bz,hr⟩:=af hr;refine HT.join (fun (v1:Bool)=>⟨[(1,.one (.aq (.sl bM) a1)),(2,iV a2),(3,pV 0 0),(6,pV 1 0),(19,bV v1)],[(0,cb a0),(1,.box [iC (0:Int),iC (0:Int),.ar,.ar,.ar])],2⟩) (fun v=>v=qW) (fun v1 ov=> ?_) (fun cont=> ?_);subst ov;rcases an hr with ⟨dD,hr⟩|⟨dD,hr⟩
 refine HT.aK rfl dD ?_;refine ay (aO 3) ⟨[(6,pV 1 0),(7,bV false)],[(1,.box [iC (0:Int),iC (0:Int),.ar,.ar,.ar])],2⟩ hX aN ?_;have hr:=ae hr;subst hr;exact HT.ret (aM (rO [.agg [iC (0:Int),iC (0:Int),.ar,.ar,.ar],bV false] [] [] trivial));refine HT.aJ rfl dD ?_;refine HT.skip (aj ?_);obtain ⟨y5,JX,hr⟩:=af hr;obtain ⟨y7,BY,hr⟩:=af hr;obtain ⟨y9,tW,hr⟩:=af hr;refine HT.D7 15 [o0,⟨oH,[0]⟩,o0,⟨oH,[2]⟩,o0,⟨oH,[4]⟩,⟨⟨none,.call [.au aY] [⟨true,aY,y5⟩] []⟩,[4,5]⟩,o0,⟨oH,[7]⟩,⟨⟨none,.call [.au aY] [⟨true,aY,y7⟩] []⟩,[4,5,6,7,8]⟩,o0,⟨oH,[10]⟩,⟨⟨none,.call [.au aY] [⟨true,aY,y9⟩] []⟩,[4,5,6,7,8,9,10,11]⟩,⟨oH,(rL 13)⟩,o0] [(rL 15)] [oH] ⟨[(1,.one (.aq (.sl bM) a1)),(2,iV a2),(6,pV 1 0),(8,pV 5 0)],[(5,.box [iC a0.1,iC a0.2.1,.all 2,.all 3,.all 4]),(4,.seq tF y9),(3,.seq tF y7),(2,.seq tF y5),(1,.box [iC (0:Int),iC (0:Int),.ar,.ar,.ar])],6⟩ hX (by kernel_rfl) (by kernel_rfl) (aC (wX JX) (aC (wX BY) (aC (wX tW) aN))) ?_;refine HT.seq ?_;refine ay (aO 2) ⟨[(1,.one (.aq (.sl bM) a1)),(6,pV 1 0),(8,pV 5 0),(35,iV a2),(36,iV (0:Int))],[(5,.box [iC a0.1,iC a0.2.1,.all 2,.all 3,.all 4]),(4,.seq tF y9),(3,.seq tF y7),(2,.seq tF y5),(1,.box [iC (0:Int),iC (0:Int),.ar,.ar,.ar])],6⟩ hX aN ?_;refine HT.block ?_;obtain ⟨Kt,Rl,hr⟩:=af hr;refine HT.ct (fun (pa:Int×eC)=>⟨[(1,.one (.aq (.sl bM) a1)),(6,pV 0 0),(8,pV 1 0),(35,iV a2),(36,iV pa.1)],[(0,.box [iC (0:Int),iC (0:Int),.ar,.ar,.ar]),(1,.box [iC pa.2.1,iC pa.2.2.1,.all 2,.all 3,.all 4]),(2,.seq tF pa.2.2.2.1),(3,.seq tF pa.2.2.2.2.1),(4,.seq tF pa.2.2.2.2.2)],5⟩) (fun (Kt:(eC)⊕Unit)=>match Kt with| .inl wZ=>(.exit 0,⟨[(6,pV 0 0),(8,pV 1 0)],[(0,.box [iC (0:Int),iC (0:Int),.ar,.ar,.ar]),(1,.box [iC wZ.1,iC wZ.2.1,.all 2,.all 3,.all 4]),(2,.seq tF wZ.2.2.1),(3,.seq tF wZ.2.2.2.1),(4,.seq tF wZ.2.2.2.2)],5⟩)| .inr D9=>(.ret,⟨[(6,pV 0 0),(7,bV false)],[(0,.box [iC (0:Int),iC (0:Int),.ar,.ar,.ar])],1⟩)) (Le.re [(1,0),(5,1),(2,2),(3,3),(4,4)] [] hX (by kernel_rfl)) Rl ?_ (fun pa x15 sF UT=> ?_);rcases Kt with wZ|D9
 refine (aZ (aj ?_));refine ay (aO 3) ⟨[(6,pV 0 0),(7,bV true)],[(0,.box [iC wZ.1,iC wZ.2.1,.all 2,.all 3,.all 4]),(2,.seq tF wZ.2.2.1),(3,.seq tF wZ.2.2.2.1),(4,.seq tF wZ.2.2.2.2)],5⟩ hX aN ?_;have hr:=ae hr;subst hr;exact HT.ret (rO [.agg [iC wZ.1,iC wZ.2.1,.all 2,.all 3,.all 4],bV true] [2,3,4] [] trivial);have hr:=ae hr;subst hr;exact (bE (aM (rO [.agg [iC (0:Int),iC (0:Int),.ar,.ar,.ar],bV false] [] [] trivial)));refine ay [oH] ⟨[(1,.one (.aq (.sl bM) a1)),(6,pV 0 0),(8,pV 1 0),(35,iV a2),(36,iV pa.1),(37,bV (decide (pa.1<a2)))],[(0,.box [iC (0:Int),iC (0:Int),.ar,.ar,.ar]),(1,.box [iC pa.2.1,iC pa.2.2.1,.all 2,.all 3,.all 4]),(2,.seq tF pa.2.2.2.1),(3,.seq tF pa.2.2.2.2.1),(4,.seq tF pa.2.2.2.2.2)],5⟩ hX aN ?_;refine HT.seq ?_;rcases an sF with ⟨nw,sF⟩|⟨nw,sF⟩
 refine HT.aK rfl nw ?_;refine HT.skip (aj ?_);refine HT.seq ?_;refine HT.block ?_;obtain ⟨kB,He,sF⟩:=af sF;refine ay [oH,oH,⟨none,.call [.au tM,.au (.sl bM)] [⟨true,tM,kB.1⟩,⟨false,.bool,kB.2⟩] []⟩,oH,oH,oH,oH,oH,oH] ⟨[(1,.one (.aq (.sl bM) a1)),(6,pV 0 0),(8,pV 1 0),(9,pV 8 0),(10,bV kB.2),(35,iV a2),(36,iV pa.1)],[(8,.box [iC kB.1.1,iC kB.1.2.1,.all 5,.all 6,.all 7]),(5,.seq tF kB.1.2.2.1),(6,.seq tF kB.1.2.2.2.1),(7,.seq tF kB.1.2.2.2.2),(0,.box [iC (0:Int),iC (0:Int),.ar,.ar,.ar]),(1,.box [iC pa.2.1,iC pa.2.2.1,.all 2,.all 3,.all 4]),(2,.seq tF pa.2.2.2.1),(3,.seq tF pa.2.2.2.2.1),(4,.seq tF pa.2.2.2.2.2)],9⟩ hX (aC (L8 He) aN) ?_;refine HT.seq ?_;refine ay (aO 2) ⟨[(1,.one (.aq (.sl bM) a1)),(6,pV 0 0),(8,pV 1 0),(9,pV 8 0),(35,iV a2),(36,iV pa.1),(45,bV (!kB.2))],[(8,.box [iC kB.1.1,iC kB.1.2.1,.all 5,.all 6,.all 7]),(5,.seq tF kB.1.2.2.1),(6,.seq tF kB.1.2.2.2.1),(7,.seq tF kB.1.2.2.2.2),(0,.box [iC (0:Int),iC (0:Int),.ar,.ar,.ar]),(1,.box [iC pa.2.1,iC pa.2.2.1,.all 2,.all 3,.all 4]),(2,.seq tF pa.2.2.2.1),(3,.seq tF pa.2.2.2.2.1),(4,.seq tF pa.2.2.2.2.2)],9⟩ hX aN ?_;rcases an sF with ⟨sG,sF⟩|⟨sG,sF⟩
 refine HT.aK rfl sG ?_;refine ay (aO 3) ⟨[(6,pV 0 0),(7,bV false)],[(0,.box [iC (0:Int),iC (0:Int),.ar,.ar,.ar])],9⟩ hX aN ?_;have sF:=ae sF;subst sF;exact HT.qV (Le.re [(0,0)] [] hX (by kernel_rfl)) (aM (bE (aM (iz (UT (.inr ()) rfl)))));refine HT.aJ rfl sG ?_;refine HT.skip (aj ?_);refine HT.xM (aO 2) ⟨[(1,.one (.aq (.sl bM) a1)),(6,pV 0 0),(8,pV 1 0),(35,iV a2),(36,iV pa.1)],[(1,.box [iC kB.1.1,iC kB.1.2.1,.all 5,.all 6,.all 7]),(5,.seq tF kB.1.2.2.1),(6,.seq tF kB.1.2.2.2.1),(7,.seq tF kB.1.2.2.2.2),(0,.box [iC (0:Int),iC (0:Int),.ar,.ar,.ar])],9⟩ hX (by kernel_rfl) aN (bC (aj ?_));have sF:=ae sF;subst sF;exact HT.cR (aO 2) [(0,0),(1,1),(5,2),(6,3),(7,4)] [] hX (by kernel_rfl) aN (fun _ h=>(bJ ⟨((al .i64 pa.1 (1:Int)),kB.1.1,kB.1.2.1,kB.1.2.2.1,kB.1.2.2.2.1,kB.1.2.2.2.2),rfl,h⟩));refine HT.aJ rfl nw ?_;have sF:=ae sF;subst sF;exact HT.cr (Le.re [(0,0),(1,1),(2,2),(3,3),(4,4)] [] hX (by kernel_rfl)) (bF (bI (UT (.inl (pa.2.1,pa.2.2.1,pa.2.2.2.1,pa.2.2.2.2.1,pa.2.2.2.2.2)) rfl)));obtain ⟨B0,Oz,bz⟩:=af bz;rcases an bz with ⟨sE,bz⟩|⟨sE,bz⟩
 exact HT.cR [oH,oH,⟨none,.call [.au tM,.au (.sl bM)] [⟨false,.bool,B0⟩] []⟩,oH,oH,oT,oT,oT,vT] [(0,0),(1,1)] [] hX (by kernel_rfl) (aC (wW Oz) (aC sE (aC sE (aC sE (aC sE aN))))) (fun _ h=>(aj (h.ht (cont true (ae bz)))));obtain ⟨Nw,Rw,bz⟩:=af bz;exact HT.cR [oH,oH,⟨none,.call [.au tM,.au (.sl bM)] [⟨false,.bool,B0⟩] []⟩,oH,oH,oF,⟨some false,.call [.au tI,.au tI,.au tI] [⟨false,.bool,Nw⟩] []⟩,oF,vF] [(0,0),(1,1)] [] hX (by kernel_rfl) (aC (wW Oz) (aC sE (aC sE (aC (kR Rw) (aC sE (aC sE aN)))))) (fun _ h=>(aj (h.ht (cont (!Nw) (ae bz)))))
noncomputable def fF (a0:eC)(a1:List (List Int))(a2:Int):Option (List Nat×Bool):=
 (db a2 (1:Int) (8:Int)).bind fun y1=>
 bif (!y1) then
  some (([]:List Nat),false)
 else
  (jC (a0.1,a0.2.1,a0.2.2.1,a0.2.2.2.1,a0.2.2.2.2) a1).bind fun y4=>
  some (y4.1,y4.2)
theorem L9 {a0:eC}{a1:List (List Int)}{a2:Int}{r:List Nat×Bool}(hr:fF a0 a1 a2=some r):CallOK Try.prog 28 [.au tM a0,.au (.sl bM) a1,.au tI a2] [⟨true,aY,r.1⟩,⟨false,.bool,r.2⟩] []:=by
 unfold fF at hr;refine ij [(true,aY),(false,.bool)] Try.func28 rfl [] fun cx hX hF=> ?_;show HT cx ⟨[(0,.agg [iC a0.1,iC a0.2.1,lC a0.2.2.1,lC a0.2.2.2.1,lC a0.2.2.2.2]),(1,.one (.aq (.sl bM) a1)),(2,iV a2)],[],0⟩ _ _;refine ay (aO 3) ⟨[(1,.one (.aq (.sl bM) a1)),(2,iV a2),(3,pV 0 0)],[(0,cb a0)],1⟩ hX aN ?_;refine HT.seq ?_;obtain ⟨y1,eV,hr⟩:=af hr;refine ay [oH,⟨none,.call [.au tI,.au tI,.au tI] [⟨false,.bool,y1⟩] []⟩,oH] ⟨[(1,.one (.aq (.sl bM) a1)),(3,pV 0 0),(10,bV (!y1))],[(0,cb a0)],1⟩ hX (aC (kR eV) aN) ?_;rcases an hr with ⟨m6,hr⟩|⟨m6,hr⟩
 refine HT.aK rfl m6 ?_;refine ay (aO 2) ⟨[(6,.one (.ar)),(7,bV false)],[],1⟩ hX aN ?_;have hr:=ae hr;subst hr;exact HT.ret (aM (rO [.one (.ar),bV false] [] [] trivial));refine HT.aJ rfl m6 ?_;refine HT.skip (aj ?_);obtain ⟨y4,rI,hr⟩:=af hr;refine ay [oH,oH,⟨none,.call [.au tM,.au (.sl bM)] [⟨true,aY,y4.1⟩,⟨false,.bool,y4.2⟩] []⟩,oH,oH,oH,oH] ⟨[(6,aV 1),(7,bV y4.2)],[(1,.seq tF y4.1)],2⟩ hX (aC (LX rI) aN) ?_;have hr:=ae hr;subst hr;exact HT.ret (rO [aV 1,bV y4.2] [1] [] trivial)
noncomputable def eG (a0:eC)(a1:List Int)(a2:List Int):Option (Bool):=
 (show Option (Bool) from
  bif ((ai a2)==(al .i64 (ai a1) (1:Int))) then
   (eD a2 (0:Int) (lO .i64 a0.1 (1:Int))).bind fun y5=>
   some y5
  else
   some false).bind fun v1=>
 some v1
theorem RR {a0:eC}{a1:List Int}{a2:List Int}{r:Bool}(hr:eG a0 a1 a2=some r):CallOK Try.prog 74 [.au tM a0,.au bM a1,.au bM a2] [⟨false,.bool,r⟩] []:=by
 unfold eG at hr;refine ij [(false,.bool)] Try.func74 rfl [] fun cx hX hF=> ?_;show HT cx ⟨[(0,.agg [iC a0.1,iC a0.2.1,lC a0.2.2.1,lC a0.2.2.2.1,lC a0.2.2.2.2]),(1,nV a1),(2,nV a2)],[],0⟩ _ _;refine ay (aO 2) ⟨[(1,nV a1),(2,nV a2),(3,pV 0 0)],[(0,cb a0)],1⟩ hX aN ?_;obtain ⟨qW,bz,hr⟩:=af hr;refine HT.join (fun (v1:Bool)=>⟨[(6,bV v1)],[],0⟩) (fun v=>v=qW) (fun v1 ov=> ?_) (fun cont=> ?_);subst ov;have hr:=ae hr;subst hr;exact HT.ret (rO [bV v1] [] [] trivial);rcases an bz with ⟨dD,bz⟩|⟨dD,bz⟩
 obtain ⟨y5,JX,bz⟩:=af bz;exact HT.cR [oH,oH,oH,oH,oH,oH,oH,oT,oT,oT,oT,⟨some true,.call [.au bM,.au tI,.au tI] [⟨false,.bool,y5⟩] []⟩,vT,oH] [] [] hX (by kernel_rfl) (aC dD (aC dD (aC dD (aC dD (aC dD (aC (It JX) (aC dD aN))))))) (fun _ h=>(aj (h.ht (cont y5 (ae bz)))));exact HT.cR [oH,oH,oH,oH,oH,oH,oH,oF,oF,oF,oF,oF,vF,oH] [] [] hX (by kernel_rfl) (aC dD (aC dD (aC dD (aC dD (aC dD (aC dD aN)))))) (fun _ h=>(aj (h.ht (cont false (ae bz)))))
end Go.Proofs
