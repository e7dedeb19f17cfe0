import Derived.Test.YtjekgiabgglokaaLibD
import Derived.Test.YtjekgiabgglokaaProg
set_option linter.unusedVariables false
set_option linter.unusedSimpArgs false
set_option linter.unusedSectionVars false
namespace Go.Proofs
open Go.Ide
abbrev TyG:=List Int×List Int×List (List Int)
abbrev tG:Ty:= .st (.pair eo (.pair eo (.sl eo)))
abbrev oT:OH:=⟨some true,.no⟩
abbrev oF:OH:=⟨some false,.no⟩
abbrev vT:OH:=⟨none,.tv true⟩
abbrev vF:OH:=⟨none,.tv false⟩
theorem aN:bB []:=QR
theorem aC {p:Prop}{r:List Prop}(h:p)(hr:bB r):bB (p::r):=CL h hr
theorem aT {r:List Prop}(hr:bB r):bB ((true=true)::r):=CL rfl hr
theorem cR {r:List Prop}(hr:bB r):bB ((true=true)::(true=true)::(true=true)::(true=true)::r):=aT (aT (aT (aT hr)))
theorem aF {r:List Prop}(hr:bB r):bB ((false=false)::r):=CL rfl hr
abbrev dW:=Int×Int×List Nat×List Nat×List Nat
abbrev tM:Ty:= .st (.pair tI (.pair tI (.pair cb (.pair cb cb))))
abbrev aU (x:dW):Chunk:= .box [iC x.1,iC x.2.1,lC x.2.2.1,lC x.2.2.2.1,lC x.2.2.2.2]
abbrev o0:HR:=⟨oH,[]⟩
abbrev rL (n:Nat):List Nat:=List.range n
theorem jh {P:Program}{f:FuncId}{fn:Func}{c:Code}{args:List Arg}(ts:List (Bool×Ty)){rs:List RV}{outs:List TD}(hf:P.funcs[f]? =some fn)(hb:fn.body=some c)(own:List Nat)(h: ∀cx:Cx,oQ cx P fn.ntmps own→cx.SY→HT cx (vJ args) c (Ud P fn args ts rs outs))(h1:(fn.name=="runtime.NumGoroutine")=false:=by kernel_rfl)(h2:Nat.ble args.length fn.ntmps=true:=by kernel_rfl)(h3:iJ args 0=own:=by kernel_rfl)(h4:I1 args=true:=by kernel_rfl):CallOK P f args rs outs:=
 CallOK.sF hf hb h1 (Nat.le_of_ble_eq_true h2) fun cx hP hN hO hF=>h cx ⟨hP,hN,hO.trans h3⟩ (hF h4)
theorem av {P:Program}{N:Nat}{cx:Cx}{st:St}{y:Code}{Q:Exit→St→Prop}{id:Nat}{ops:List Oper}{own:List Nat}(rs:List OH)(st':St){cs:List Prop}(hX:oQ cx P N own)(hc:bB cs)(hq:HT cx st' y Q)(he:PK own (st'.fr.map Prod.fst) (st'.mem.map Prod.fst) (oy P N ops ops rs st)=some (st',cs):=by kernel_rfl):HT cx st (.seq (.region id ops.toArray false) y) Q:=HT.rg2 rs st' hX he hc hq
theorem rO {P:Program}{fn:Func}{args:List Arg}{ts:List (Bool×Ty)}{rs:List RV}{outs:List TD}{st:St}(vs:List aD)(ks:List Nat)(cs:List Prop)(h6:bB cs)(h1:Ep P st.mem st.fr fn.results.toList=some vs:=by kernel_rfl)(h2:Gf st.mem ts vs=some (rs,ks):=by kernel_rfl)(h3:l7 ks=true:=by kernel_rfl)(h4:ks.all (fun k=> !(Jc k (iJ args 0)))=true:=by kernel_rfl)(h5:i5 st.mem args 0=some (outs,cs):=by kernel_rfl):Er P fn args ts rs outs st:=
 ⟨vs,ks,cs,h1,h2,h3,h4,h5,h6⟩
noncomputable def nB (a0:List Int)(a1:List Int):Option (Bool):=
 (show Option (Bool) from
  bif (decide ((af a0)>(1048576:Int))) then
   some true
  else
   some (decide ((af a1)>(1048576:Int)))).bind fun v1=>
 some v1
theorem Q7 {a0:List Int}{a1:List Int}{r:Bool}(hr:nB a0 a1=some r):CallOK Try.prog 12 [.an (.sl (.int .u8)) a0,.an (.sl (.int .u8)) a1] [⟨false,.bool,r⟩] []:=by
 unfold nB at hr;refine jh [(false,.bool)] Try.func12 rfl [] fun cx hX hF=> ?_;show HT cx ⟨[(0,.one (.aw (.sl (.int .u8)) a0)),(1,.one (.aw (.sl (.int .u8)) a1))],[],0⟩ _ _;refine av [oH] ⟨[(0,.one (.aw (.sl (.int .u8)) a0)),(1,.one (.aw (.sl (.int .u8)) a1))],[],0⟩ hX aN ?_;obtain ⟨oR,aX,hr⟩:=ae hr;refine HT.join (fun (v1:Bool)=>⟨[(4,bV v1)],[],0⟩) (fun v=>v=oR) (fun v1 mU=> ?_) (fun cont=> ?_);subst mU;have hr:=aa hr;subst hr;exact HT.ret (rO [bV v1] [] [] trivial);rcases ak aX with ⟨dS,aX⟩|⟨dS,aX⟩
 exact HT.ct [oH,oH,oH,oH,oT,oT,oT,vT,oH] [] [] hX (by kernel_rfl) (aC dS (aC dS (aC dS (aC dS aN)))) (fun _ h=>(ah (h.ht (cont true (aa aX)))));exact HT.ct [oH,oH,oH,oH,oF,oF,oF,vF,oH] [] [] hX (by kernel_rfl) (aC dS (aC dS (aC dS (aC dS aN)))) (fun _ h=>(ah (h.ht (cont (decide ((af a1)>(1048576:Int))) (aa aX)))))
noncomputable def jr (a0:List Int)(a1:Int)(a2:Int):Option (Int):=
 bif (decide (a2≤(1:Int))) then
  some (0:Int)
 else
  bif (decide (a1<(af a0))) then
   ao ((0:Int)≤a1∧a1<af a0) (
    ao (a2≠0) (
     some (Int.tmod (IntKind.wrap .i64 (List.getD a0 (Int.toNat a1) (0:Int))) a2)))
  else
   ao (a2≠0) (
    some (Int.tmod (ai .i64 (az .i64 a1 (37:Int)) (11:Int)) a2))
theorem CX {a0:List Int}{a1:Int}{a2:Int}{r:Int}(hr:jr a0 a1 a2=some r):CallOK Try.prog 13 [.an (.sl (.int .u8)) a0,.an tI a1,.an tI a2] [⟨false,tI,r⟩] []:=by
 unfold jr at hr;refine jh [(false,tI)] Try.func13 rfl [] fun cx hX hF=> ?_;show HT cx ⟨[(0,.one (.aw (.sl (.int .u8)) a0)),(1,iV a1),(2,iV a2)],[],0⟩ _ _;refine av [oH] ⟨[(0,.one (.aw (.sl (.int .u8)) a0)),(1,iV a1),(2,iV a2)],[],0⟩ hX aN ?_;refine HT.seq ?_;refine av (aI 2) ⟨[(0,.one (.aw (.sl (.int .u8)) a0)),(1,iV a1),(2,iV a2),(8,bV (decide (a2≤(1:Int))))],[],0⟩ hX aN ?_;rcases ak hr with ⟨nA,hr⟩|⟨nA,hr⟩
 refine HT.aH rfl nA ?_;refine av [oH] ⟨[(6,iV (0:Int))],[],0⟩ hX aN ?_;have hr:=aa hr;subst hr;exact HT.ret (aQ (rO [iV (0:Int)] [] [] trivial));refine HT.aE rfl nA ?_;refine HT.skip (ah ?_);refine HT.seq ?_;refine av (aI 4) ⟨[(0,.one (.aw (.sl (.int .u8)) a0)),(1,iV a1),(2,iV a2),(12,bV (decide (a1<(af a0))))],[],0⟩ hX aN ?_;rcases ak hr with ⟨o5,hr⟩|⟨o5,hr⟩
 refine HT.aH rfl o5 ?_;obtain ⟨PQ,hr⟩:=aj hr;obtain ⟨Oe,hr⟩:=aj hr;refine av (aI 8) ⟨[(6,iV (Int.tmod (IntKind.wrap .i64 (List.getD a0 (Int.toNat a1) (0:Int))) a2))],[],0⟩ hX (aC PQ (aC Oe aN)) ?_;have hr:=aa hr;subst hr;exact HT.ret (aQ (rO [iV (Int.tmod (IntKind.wrap .i64 (List.getD a0 (Int.toNat a1) (0:Int))) a2)] [] [] trivial));refine HT.aE rfl o5 ?_;refine HT.skip (ah ?_);obtain ⟨hg5,hr⟩:=aj hr;refine av (aI 6) ⟨[(6,iV (Int.tmod (ai .i64 (az .i64 a1 (37:Int)) (11:Int)) a2))],[],0⟩ hX (aC hg5 aN) ?_;have hr:=aa hr;subst hr;exact HT.ret (rO [iV (Int.tmod (ai .i64 (az .i64 a1 (37:Int)) (11:Int)) a2)] [] [] trivial)
noncomputable def nD (a0:List Int):Option ((List Int×Int×Int)):=
 some (a0,(0:Int),(0:Int))
theorem Q8 {a0:List Int}{r:(List Int×Int×Int)}(hr:nD a0=some r):CallOK Try.prog 51 [.an (.sl (.int .u8)) a0] [⟨true,(.bx (.st (.pair (.sl (.int .u8)) (.pair tI (.int .u64))))),[r]⟩] []:=by
 unfold nD at hr;refine jh [(true,(.bx (.st (.pair (.sl (.int .u8)) (.pair tI (.int .u64))))))] Try.func51 rfl [] fun cx hX hF=> ?_;show HT cx ⟨[(0,.one (.aw (.sl (.int .u8)) a0))],[],0⟩ _ _;refine av [oH] ⟨[(0,.one (.aw (.sl (.int .u8)) a0))],[],0⟩ hX aN ?_;refine av [oH,oH,⟨none,.ty (.st (.pair (.sl (.int .u8)) (.pair tI (.int .u64))))⟩,oH] ⟨[(2,.one (.dI 0 0 3 0))],[(0,.seq (.st (.pair (.sl (.int .u8)) (.pair tI (.int .u64)))) ([(a0,(0:Int),(0:Int))]))],1⟩ hX aN ?_;have hr:=aa hr;subst hr;exact HT.ret (rO [.one (.dI 0 0 3 0)] [0] [] trivial)
noncomputable def fv (a0:List Int×Int×Int):Option (Int×(List Int×Int×Int)):=
 (show Option (Int) from
  bif (decide (a0.2.1<(af a0.1))) then
   ao ((0:Int)≤a0.2.1∧a0.2.1<af a0.1) (
    some (IntKind.wrap .i64 (List.getD a0.1 (Int.toNat a0.2.1) (0:Int))))
  else
   some (0:Int)).bind fun v1=>
 bif (decide ((ai .i64 a0.2.1 (1:Int))≤(af a0.1))) then
  some (v1,a0.1,(ai .i64 a0.2.1 (1:Int)),(ai .u64 (ai .u64 (az .u64 a0.2.2 (6364136223846793005:Int)) (IntKind.wrap .u64 v1)) (1442695040888963407:Int)))
 else
  (some (IntKind.wrap .i64 (IntKind.wrap .u64 (BitVec.ofInt (IntKind.bits .u64) (Int.fdiv (ai .u64 (ai .u64 (az .u64 a0.2.2 (6364136223846793005:Int)) (IntKind.wrap .u64 v1)) (1442695040888963407:Int)) (2^(min (Int.toNat (40:Int)) (IntKind.bits .u64))))&&& BitVec.ofInt (IntKind.bits .u64) (255:Int)).toNat))).bind fun q5=>
  some (q5,a0.1,(ai .i64 a0.2.1 (1:Int)),(ai .u64 (ai .u64 (az .u64 a0.2.2 (6364136223846793005:Int)) (IntKind.wrap .u64 v1)) (1442695040888963407:Int)))
theorem Il {a0:List Int×Int×Int}{r:Int×(List Int×Int×Int)}(hr:fv a0=some r):CallOK Try.prog 102 [.own (.bx (.st (.pair (.sl (.int .u8)) (.pair tI (.int .u64))))) [a0]] [⟨false,tI,r.1⟩] [⟨(.bx (.st (.pair (.sl (.int .u8)) (.pair tI (.int .u64))))),[r.2]⟩]:=by
 unfold fv at hr;refine jh [(false,tI)] Try.func102 rfl [0] fun cx hX hF=> ?_;show HT cx ⟨[(0,.one (.dI 0 0 3 0))],[(0,.seq (.st (.pair (.sl (.int .u8)) (.pair tI (.int .u64)))) ([a0]))],1⟩ _ _;refine av [oH] ⟨[(0,.one (.dI 0 0 3 0))],[(0,.seq (.st (.pair (.sl (.int .u8)) (.pair tI (.int .u64)))) ([a0]))],1⟩ hX aN ?_;refine av [oH] ⟨[(0,.one (.dI 0 0 3 0)),(3,iV (0:Int))],[(0,.seq (.st (.pair (.sl (.int .u8)) (.pair tI (.int .u64)))) ([a0]))],1⟩ hX aN ?_;obtain ⟨oR,aX,hr⟩:=ae hr;refine HT.join (fun (v1:Int)=>⟨[(0,.one (.dI 0 0 3 0)),(3,iV v1)],[(0,.seq (.st (.pair (.sl (.int .u8)) (.pair tI (.int .u64)))) ([a0]))],1⟩) (fun v=>v=oR) (fun v1 mU=> ?_) (fun cont=> ?_);subst mU;refine av (aI 8) ⟨[(0,.one (.dI 0 0 3 0)),(3,iV v1)],[(0,.seq (.st (.pair (.sl (.int .u8)) (.pair tI (.int .u64)))) ([(a0.1,(ai .i64 a0.2.1 (1:Int)),a0.2.2)]))],1⟩ hX (aC (show 0<List.length [a0] from Nat.zero_lt_one) (aC (show 0<List.length [a0] from Nat.zero_lt_one) aN)) ?_;refine av (aI 13) ⟨[(0,.one (.dI 0 0 3 0)),(3,iV v1)],[(0,.seq (.st (.pair (.sl (.int .u8)) (.pair tI (.int .u64)))) ([(a0.1,(ai .i64 a0.2.1 (1:Int)),(ai .u64 (ai .u64 (az .u64 a0.2.2 (6364136223846793005:Int)) (IntKind.wrap .u64 v1)) (1442695040888963407:Int)))]))],1⟩ hX (aC (show 0<List.length [(a0.1,(ai .i64 a0.2.1 (1:Int)),a0.2.2)] from Nat.zero_lt_one) (aC (show 0<List.length [(a0.1,(ai .i64 a0.2.1 (1:Int)),a0.2.2)] from Nat.zero_lt_one) aN)) ?_;refine HT.seq ?_;refine HT.CN 9 [o0,⟨oH,[0]⟩,⟨oH,[0,1]⟩,⟨oH,[0,1,2]⟩,o0,⟨oH,[4]⟩,⟨oH,[4,5]⟩,⟨oH,[4,5,6]⟩,⟨oH,[4,5,6,7]⟩] [(rL 9)] [oH] ⟨[(0,.one (.dI 0 0 3 0)),(3,iV v1),(53,bV (decide ((ai .i64 a0.2.1 (1:Int))≤(af a0.1))))],[(0,.seq (.st (.pair (.sl (.int .u8)) (.pair tI (.int .u64)))) ([(a0.1,(ai .i64 a0.2.1 (1:Int)),(ai .u64 (ai .u64 (az .u64 a0.2.2 (6364136223846793005:Int)) (IntKind.wrap .u64 v1)) (1442695040888963407:Int)))]))],1⟩ hX (by kernel_rfl) (by kernel_rfl) (aC (show 0<List.length [(a0.1,(ai .i64 a0.2.1 (1:Int)),(ai .u64 (ai .u64 (az .u64 a0.2.2 (6364136223846793005:Int)) (IntKind.wrap .u64 v1)) (1442695040888963407:Int)))] from Nat.zero_lt_one) (aC (show 0<List.length [(a0.1,(ai .i64 a0.2.1 (1:Int)),(ai .u64 (ai .u64 (az .u64 a0.2.2 (6364136223846793005:Int)) (IntKind.wrap .u64 v1)) (1442695040888963407:Int)))] from Nat.zero_lt_one) aN)) ?_;rcases ak hr with ⟨dS,hr⟩|⟨dS,hr⟩
 refine HT.aH rfl dS ?_;refine av (aI 2) ⟨[(2,iV v1)],[(0,.seq (.st (.pair (.sl (.int .u8)) (.pair tI (.int .u64)))) ([(a0.1,(ai .i64 a0.2.1 (1:Int)),(ai .u64 (ai .u64 (az .u64 a0.2.2 (6364136223846793005:Int)) (IntKind.wrap .u64 v1)) (1442695040888963407:Int)))]))],1⟩ hX aN ?_;have hr:=aa hr;subst hr;exact HT.ret (aQ (rO [iV v1] [] [List.length ([(a0.1,(ai .i64 a0.2.1 (1:Int)),(ai .u64 (ai .u64 (az .u64 a0.2.2 (6364136223846793005:Int)) (IntKind.wrap .u64 v1)) (1442695040888963407:Int)))])=List.length [a0]] ⟨(show List.length ([(a0.1,(ai .i64 a0.2.1 (1:Int)),(ai .u64 (ai .u64 (az .u64 a0.2.2 (6364136223846793005:Int)) (IntKind.wrap .u64 v1)) (1442695040888963407:Int)))])=List.length [a0] from rfl),trivial⟩));refine HT.aE rfl dS ?_;refine HT.skip (ah ?_);refine av (aI 8) ⟨[(2,iV (IntKind.wrap .i64 (IntKind.wrap .u64 (BitVec.ofInt (IntKind.bits .u64) (Int.fdiv (ai .u64 (ai .u64 (az .u64 a0.2.2 (6364136223846793005:Int)) (IntKind.wrap .u64 v1)) (1442695040888963407:Int)) (2^(min (Int.toNat (40:Int)) (IntKind.bits .u64))))&&& BitVec.ofInt (IntKind.bits .u64) (255:Int)).toNat)))],[(0,.seq (.st (.pair (.sl (.int .u8)) (.pair tI (.int .u64)))) ([(a0.1,(ai .i64 a0.2.1 (1:Int)),(ai .u64 (ai .u64 (az .u64 a0.2.2 (6364136223846793005:Int)) (IntKind.wrap .u64 v1)) (1442695040888963407:Int)))]))],1⟩ hX (aC (show 0<List.length [(a0.1,(ai .i64 a0.2.1 (1:Int)),(ai .u64 (ai .u64 (az .u64 a0.2.2 (6364136223846793005:Int)) (IntKind.wrap .u64 v1)) (1442695040888963407:Int)))] from Nat.zero_lt_one) (aC (show (0:Int)≤(40:Int) from by decide) aN)) ?_;obtain ⟨q5,Lr,hr⟩:=ae hr;have Lr:=cl Lr;refine (Le.cv (s:=⟨[(0,0)],[],[],false⟩) (own:=[0]) (ps:=[q5=(IntKind.wrap .i64 (IntKind.wrap .u64 (BitVec.ofInt (IntKind.bits .u64) (Int.fdiv (ai .u64 (ai .u64 (az .u64 a0.2.2 (6364136223846793005:Int)) (IntKind.wrap .u64 v1)) (1442695040888963407:Int)) (2^(min (Int.toNat (40:Int)) (IntKind.bits .u64))))&&& BitVec.ofInt (IntKind.bits .u64) (255:Int)).toNat)),[(a0.1,(ai .i64 a0.2.1 (1:Int)),(ai .u64 (ai .u64 (az .u64 a0.2.2 (6364136223846793005:Int)) (IntKind.wrap .u64 v1)) (1442695040888963407:Int)))]=[(a0.1,(ai .i64 a0.2.1 (1:Int)),(ai .u64 (ai .u64 (az .u64 a0.2.2 (6364136223846793005:Int)) (IntKind.wrap .u64 v1)) (1442695040888963407:Int)))]]) (st':=⟨[(2,iV q5)],[(0,.seq (.st (.pair (.sl (.int .u8)) (.pair tI (.int .u64)))) ([(a0.1,(ai .i64 a0.2.1 (1:Int)),(ai .u64 (ai .u64 (az .u64 a0.2.2 (6364136223846793005:Int)) (IntKind.wrap .u64 v1)) (1442695040888963407:Int)))]))],1⟩) hX.own (fun h=>by cases h) (by kernel_rfl) ⟨Lr,rfl,trivial⟩).ht ?_;have hr:=aa hr;subst hr;exact HT.ret (rO [iV q5] [] [List.length ([(a0.1,(ai .i64 a0.2.1 (1:Int)),(ai .u64 (ai .u64 (az .u64 a0.2.2 (6364136223846793005:Int)) (IntKind.wrap .u64 v1)) (1442695040888963407:Int)))])=List.length [a0]] ⟨(show List.length ([(a0.1,(ai .i64 a0.2.1 (1:Int)),(ai .u64 (ai .u64 (az .u64 a0.2.2 (6364136223846793005:Int)) (IntKind.wrap .u64 v1)) (1442695040888963407:Int)))])=List.length [a0] from rfl),trivial⟩);refine HT.CN 9 [o0,⟨oH,[0]⟩,⟨oH,[0,1]⟩,⟨oH,[0,1,2]⟩,o0,⟨oH,[4]⟩,⟨oH,[4,5]⟩,⟨oH,[4,5,6]⟩,⟨oH,[4,5,6,7]⟩] [(rL 9)] [oH] ⟨[(0,.one (.dI 0 0 3 0)),(3,iV (0:Int)),(13,bV (decide (a0.2.1<(af a0.1))))],[(0,.seq (.st (.pair (.sl (.int .u8)) (.pair tI (.int .u64)))) ([a0]))],1⟩ hX (by kernel_rfl) (by kernel_rfl) (aC (show 0<List.length [a0] from Nat.zero_lt_one) (aC (show 0<List.length [a0] from Nat.zero_lt_one) aN)) ?_;rcases ak aX with ⟨oA,aX⟩|⟨oA,aX⟩
 refine HT.aH rfl oA ?_;obtain ⟨GG,aX⟩:=aj aX;exact HT.Q4 8 [o0,⟨oH,[0]⟩,⟨oH,[0,1]⟩,⟨oH,[0,1,2]⟩,o0,⟨oH,[4]⟩,⟨oH,[4,5]⟩,⟨oH,[4,5,6]⟩] [(rL 8),(rL 9),(rL 10),(rL 11)] (aI 4) [(0,0)] [] hX (by kernel_rfl) (by kernel_rfl) (aC (show 0<List.length [a0] from Nat.zero_lt_one) (aC (show 0<List.length [a0] from Nat.zero_lt_one) (aC GG aN))) (fun _ h=>(ah (h.ht (cont (IntKind.wrap .i64 (List.getD a0.1 (Int.toNat a0.2.1) (0:Int))) (aa aX)))));refine HT.aE rfl oA ?_;refine HT.skip (ah ?_);exact (Le.re [(0,0)] [] hX (by kernel_rfl)).ht (cont (0:Int) (aa aX))
noncomputable def fw (a0:List Int×Int×Int)(a1:Int):Option (Int×(List Int×Int×Int)):=
 bif (decide (a1≤(1:Int))) then
  some ((0:Int),a0)
 else
  (fv a0).bind fun y2=>
  (show Option (Int×(List Int×Int×Int)) from
   bif (decide (a1>(200:Int))) then
    (fv y2.2).bind fun y9=>
    some ((ai .i64 (az .i64 y2.1 (256:Int)) y9.1),y9.2)
   else
    some (y2.1,y2.2)).bind fun v4=>
  ao (a1≠0) (
   some ((Int.tmod v4.1 a1),v4.2))
theorem Ls {a0:List Int×Int×Int}{a1:Int}{r:Int×(List Int×Int×Int)}(hr:fw a0 a1=some r):CallOK Try.prog 52 [.own (.bx (.st (.pair (.sl (.int .u8)) (.pair tI (.int .u64))))) [a0],.an tI a1] [⟨false,tI,r.1⟩] [⟨(.bx (.st (.pair (.sl (.int .u8)) (.pair tI (.int .u64))))),[r.2]⟩]:=by
 unfold fw at hr;refine jh [(false,tI)] Try.func52 rfl [0] fun cx hX hF=> ?_;show HT cx ⟨[(0,.one (.dI 0 0 3 0)),(1,iV a1)],[(0,.seq (.st (.pair (.sl (.int .u8)) (.pair tI (.int .u64)))) ([a0]))],1⟩ _ _;refine av [oH] ⟨[(0,.one (.dI 0 0 3 0)),(1,iV a1)],[(0,.seq (.st (.pair (.sl (.int .u8)) (.pair tI (.int .u64)))) ([a0]))],1⟩ hX aN ?_;refine HT.seq ?_;refine av (aI 2) ⟨[(0,.one (.dI 0 0 3 0)),(1,iV a1),(7,bV (decide (a1≤(1:Int))))],[(0,.seq (.st (.pair (.sl (.int .u8)) (.pair tI (.int .u64)))) ([a0]))],1⟩ hX aN ?_;rcases ak hr with ⟨nA,hr⟩|⟨nA,hr⟩
 refine HT.aH rfl nA ?_;refine av [oH] ⟨[(4,iV (0:Int))],[(0,.seq (.st (.pair (.sl (.int .u8)) (.pair tI (.int .u64)))) ([a0]))],1⟩ hX aN ?_;have hr:=aa hr;subst hr;exact HT.ret (aQ (rO [iV (0:Int)] [] [List.length ([a0])=List.length [a0]] ⟨(show List.length ([a0])=List.length [a0] from rfl),trivial⟩));refine HT.aE rfl nA ?_;refine HT.skip (ah ?_);obtain ⟨y2,UB,hr⟩:=ae hr;refine av [oH,⟨none,.call [.own (.bx (.st (.pair (.sl (.int .u8)) (.pair tI (.int .u64)))))] [⟨false,tI,y2.1⟩] [⟨(.bx (.st (.pair (.sl (.int .u8)) (.pair tI (.int .u64))))),[y2.2]⟩]⟩,oH] ⟨[(0,.one (.dI 0 0 3 0)),(1,iV a1),(5,iV y2.1)],[(0,.seq (.st (.pair (.sl (.int .u8)) (.pair tI (.int .u64)))) ([y2.2]))],1⟩ hX (aC (Il UB) aN) ?_;obtain ⟨UC,CY,hr⟩:=ae hr;refine HT.join (fun (v4:Int×(List Int×Int×Int))=>⟨[(1,iV a1),(5,iV v4.1)],[(0,.seq (.st (.pair (.sl (.int .u8)) (.pair tI (.int .u64)))) ([v4.2]))],1⟩) (fun v=>v=UC) (fun v4 UE=> ?_) (fun cont=> ?_);subst UE;obtain ⟨J4,hr⟩:=aj hr;refine av (aI 4) ⟨[(4,iV (Int.tmod v4.1 a1))],[(0,.seq (.st (.pair (.sl (.int .u8)) (.pair tI (.int .u64)))) ([v4.2]))],1⟩ hX (aC J4 aN) ?_;have hr:=aa hr;subst hr;exact HT.ret (rO [iV (Int.tmod v4.1 a1)] [] [List.length ([v4.2])=List.length [a0]] ⟨(show List.length ([v4.2])=List.length [a0] from rfl),trivial⟩);refine av (aI 2) ⟨[(0,.one (.dI 0 0 3 0)),(1,iV a1),(5,iV y2.1),(11,bV (decide (a1>(200:Int))))],[(0,.seq (.st (.pair (.sl (.int .u8)) (.pair tI (.int .u64)))) ([y2.2]))],1⟩ hX aN ?_;rcases ak CY with ⟨od,CY⟩|⟨od,CY⟩
 refine HT.aH rfl od ?_;obtain ⟨y9,Ju,CY⟩:=ae CY;exact HT.ct [oH,oH,oH,⟨none,.call [.own (.bx (.st (.pair (.sl (.int .u8)) (.pair tI (.int .u64)))))] [⟨false,tI,y9.1⟩] [⟨(.bx (.st (.pair (.sl (.int .u8)) (.pair tI (.int .u64))))),[y9.2]⟩]⟩,oH,oH] [(0,0)] [] hX (by kernel_rfl) (aC (Il Ju) aN) (fun _ h=>(ah (h.ht (cont ((ai .i64 (az .i64 y2.1 (256:Int)) y9.1),y9.2) (aa CY)))));refine HT.aE rfl od ?_;refine HT.skip (ah ?_);exact (Le.re [(0,0)] [] hX (by kernel_rfl)).ht (cont (y2.1,y2.2) (aa CY))
noncomputable def gX (r3:Nat×(List Int×Int×Int)×List Nat)(s4:Int×List Nat):Option ((Int×List Nat)⊕(List Nat)):=
 bif (decide (s4.1<(af r3.2.2))) then
  ao ((0:Int)≤s4.1∧s4.1<af s4.2) (
   some (.inl ((ai .i64 s4.1 (1:Int)),(List.set s4.2 (Int.toNat s4.1) (aq .quo .f32 (List.getD s4.2 (Int.toNat s4.1) (0:Nat)) r3.1)))))
 else
  some (.inr s4.2)
noncomputable def oe (a1:Int)(s1:Nat×Int×(List Int×Int×Int)×List Nat):Option ((Nat×Int×(List Int×Int×Int)×List Nat)⊕((Nat×(List Int×Int×Int)×List Nat))):=
 bif (decide (s1.2.1<a1)) then
  (fw s1.2.2.1 (5:Int)).bind fun pA=>
  ao (List.length s1.2.2.2+List.length ([(bK .f32 (ai .i64 (1:Int) pA.1))]:List Nat)≤bg) (
   some (.inl ((aq .add .f32 s1.1 (bK .f32 (ai .i64 (1:Int) pA.1))),(ai .i64 s1.2.1 (1:Int)),pA.2,(s1.2.2.2++([(bK .f32 (ai .i64 (1:Int) pA.1))]:List Nat)))))
 else
  some (.inr (s1.1,s1.2.2.1,s1.2.2.2))
noncomputable def js (a0:List Int×Int×Int)(a1:Int):Option (List Nat×(List Int×Int×Int)):=
 (rounds (oe a1) ((0:Nat),(0:Int),a0,([]:List Nat))).bind fun r3=>
 (rounds (gX r3) ((0:Int),r3.2.2)).bind fun r6=>
 some (r6,r3.2.1)
theorem GH {a0:List Int×Int×Int}{a1:Int}{r:List Nat×(List Int×Int×Int)}(hr:js a0 a1=some r):CallOK Try.prog 53 [.own (.bx (.st (.pair (.sl (.int .u8)) (.pair tI (.int .u64))))) [a0],.an tI a1] [⟨true,cb,r.1⟩] [⟨(.bx (.st (.pair (.sl (.int .u8)) (.pair tI (.int .u64))))),[r.2]⟩]:=by
 unfold js at hr;refine jh [(true,cb)] Try.func53 rfl [0] fun cx hX hF=> ?_;show HT cx ⟨[(0,.one (.dI 0 0 3 0)),(1,iV a1)],[(0,.seq (.st (.pair (.sl (.int .u8)) (.pair tI (.int .u64)))) ([a0]))],1⟩ _ _;refine av [oH] ⟨[(0,.one (.dI 0 0 3 0)),(1,iV a1)],[(0,.seq (.st (.pair (.sl (.int .u8)) (.pair tI (.int .u64)))) ([a0]))],1⟩ hX aN ?_;refine av (aI 2) ⟨[(0,.one (.dI 0 0 3 0)),(1,iV a1),(5,.one (.al))],[(0,.seq (.st (.pair (.sl (.int .u8)) (.pair tI (.int .u64)))) ([a0]))],1⟩ hX aN ?_;refine av [oH] ⟨[(0,.one (.dI 0 0 3 0)),(1,iV a1),(5,.one (.al)),(6,fV (0:Nat))],[(0,.seq (.st (.pair (.sl (.int .u8)) (.pair tI (.int .u64)))) ([a0]))],1⟩ hX aN ?_;refine HT.seq ?_;refine av [oH] ⟨[(0,.one (.dI 0 0 3 0)),(1,iV a1),(5,.one (.al)),(6,fV (0:Nat)),(7,iV (0:Int))],[(0,.seq (.st (.pair (.sl (.int .u8)) (.pair tI (.int .u64)))) ([a0]))],1⟩ hX aN ?_;refine HT.block ?_;obtain ⟨r2,Q9,hr⟩:=ae hr;refine HT.bX (fun (s1:Nat×Int×(List Int×Int×Int)×List Nat)=>⟨[(0,.one (.dI 0 0 3 0)),(1,iV a1),(5,aV 1),(6,fV s1.1),(7,iV s1.2.1)],[(0,.seq (.st (.pair (.sl (.int .u8)) (.pair tI (.int .u64)))) ([s1.2.2.1])),(1,.seq tF s1.2.2.2)],2⟩) (fun (r3:(Nat×(List Int×Int×Int)×List Nat))=>(.exit 0,⟨[(5,aV 1),(6,fV r3.1)],[(0,.seq (.st (.pair (.sl (.int .u8)) (.pair tI (.int .u64)))) ([r3.2.1])),(1,.seq tF r3.2.2)],2⟩)) (Le.re [(0,0)] [1] hX (by kernel_rfl)) Q9 ?_ (fun s1 x13 ll Of=> ?_);refine (aK (ah ?_));refine HT.seq ?_;refine av (aI 3) ⟨[(5,aV 1),(6,fV r2.1),(28,iV (af r2.2.2)),(29,iV (0:Int))],[(0,.seq (.st (.pair (.sl (.int .u8)) (.pair tI (.int .u64)))) ([r2.2.1])),(1,.seq tF r2.2.2)],2⟩ hX aN ?_;refine HT.block ?_;obtain ⟨r5,Ra,hr⟩:=ae hr;refine HT.bX (fun (s4:Int×List Nat)=>⟨[(5,aV 1),(6,fV r2.1),(28,iV (af r2.2.2)),(29,iV s4.1)],[(0,.seq (.st (.pair (.sl (.int .u8)) (.pair tI (.int .u64)))) ([r2.2.1])),(1,.seq tF s4.2)],2⟩) (fun (r6:List Nat)=>(.exit 2,⟨[(5,aV 1)],[(0,.seq (.st (.pair (.sl (.int .u8)) (.pair tI (.int .u64)))) ([r2.2.1])),(1,.seq tF r6)],2⟩)) (Le.re [(0,0),(1,1)] [] hX (by kernel_rfl)) Ra ?_ (fun s4 x7 Lt hk9=> ?_);refine (aK (ah ?_));refine av (aI 2) ⟨[(4,aV 1)],[(0,.seq (.st (.pair (.sl (.int .u8)) (.pair tI (.int .u64)))) ([r2.2.1])),(1,.seq tF r5)],2⟩ hX aN ?_;have hr:=aa hr;subst hr;exact HT.ret (rO [aV 1] [1] [List.length ([r2.2.1])=List.length [a0]] ⟨(show List.length ([r2.2.1])=List.length [a0] from rfl),trivial⟩);refine av [oH] ⟨[(5,aV 1),(6,fV r2.1),(28,iV (af r2.2.2)),(29,iV s4.1),(30,bV (decide (s4.1<(af r2.2.2))))],[(0,.seq (.st (.pair (.sl (.int .u8)) (.pair tI (.int .u64)))) ([r2.2.1])),(1,.seq tF s4.2)],2⟩ hX aN ?_;refine HT.seq ?_;rcases ak Lt with ⟨GI,Lt⟩|⟨GI,Lt⟩
 refine HT.aH rfl GI ?_;refine HT.skip (ah ?_);refine HT.seq ?_;refine HT.block ?_;refine av (aI 2) ⟨[(5,aV 1),(6,fV r2.1),(9,iV s4.1),(28,iV (af r2.2.2)),(29,iV s4.1)],[(0,.seq (.st (.pair (.sl (.int .u8)) (.pair tI (.int .u64)))) ([r2.2.1])),(1,.seq tF s4.2)],2⟩ hX aN ?_;obtain ⟨vR,Lt⟩:=aj Lt;refine HT.DP (aI 10) ⟨[(5,aV 1),(6,fV r2.1),(28,iV (af r2.2.2)),(29,iV s4.1)],[(1,.seq tF (List.set s4.2 (Int.toNat s4.1) (aq .quo .f32 (List.getD s4.2 (Int.toNat s4.1) (0:Nat)) r2.1))),(0,.seq (.st (.pair (.sl (.int .u8)) (.pair tI (.int .u64)))) ([r2.2.1]))],2⟩ hX (by kernel_rfl) (aC vR (aC (bL vR) (aC vR (aC (bL vR) aN)))) (bj (ah ?_));have Lt:=aa Lt;subst Lt;exact HT.ct (aI 2) [(0,0),(1,1)] [] hX (by kernel_rfl) aN (fun _ h=>(bw ⟨((ai .i64 s4.1 (1:Int)),(List.set s4.2 (Int.toNat s4.1) (aq .quo .f32 (List.getD s4.2 (Int.toNat s4.1) (0:Nat)) r2.1))),rfl,h⟩));refine HT.aE rfl GI ?_;have Lt:=aa Lt;subst Lt;exact HT.bW (Le.re [(0,0),(1,1)] [] hX (by kernel_rfl)) (bm (bt (hk9 s4.2 rfl)));refine HT.seq ?_;refine av (aI 3) ⟨[(0,.one (.dI 0 0 3 0)),(1,iV a1),(5,aV 1),(6,fV s1.1),(7,iV s1.2.1),(13,bV (decide (s1.2.1<a1)))],[(0,.seq (.st (.pair (.sl (.int .u8)) (.pair tI (.int .u64)))) ([s1.2.2.1])),(1,.seq tF s1.2.2.2)],2⟩ hX aN ?_;rcases ak ll with ⟨tW,ll⟩|⟨tW,ll⟩
 refine HT.aH rfl tW ?_;refine HT.skip (ah ?_);refine HT.seq ?_;refine HT.block ?_;obtain ⟨pA,GJ,ll⟩:=ae ll;refine av [oH,⟨none,.call [.own (.bx (.st (.pair (.sl (.int .u8)) (.pair tI (.int .u64))))),.an tI] [⟨false,tI,pA.1⟩] [⟨(.bx (.st (.pair (.sl (.int .u8)) (.pair tI (.int .u64))))),[pA.2]⟩]⟩,oH,oH,oH] ⟨[(0,.one (.dI 0 0 3 0)),(1,iV a1),(5,aV 1),(6,fV s1.1),(7,iV s1.2.1),(8,fV (bK .f32 (ai .i64 (1:Int) pA.1)))],[(0,.seq (.st (.pair (.sl (.int .u8)) (.pair tI (.int .u64)))) ([pA.2])),(1,.seq tF s1.2.2.2)],2⟩ hX (aC (Ls GJ) aN) ?_;obtain ⟨EV,ll⟩:=aj ll;refine av [oH,oH,⟨none,.ty tF⟩,⟨none,.ty tF⟩,oH] ⟨[(0,.one (.dI 0 0 3 0)),(1,iV a1),(5,aV 3),(6,fV s1.1),(7,iV s1.2.1),(8,fV (bK .f32 (ai .i64 (1:Int) pA.1)))],[(3,.seq tF (s1.2.2.2++([(bK .f32 (ai .i64 (1:Int) pA.1))]:List Nat))),(0,.seq (.st (.pair (.sl (.int .u8)) (.pair tI (.int .u64)))) ([pA.2]))],4⟩ hX (aC EV aN) ?_;refine HT.DP (aI 4) ⟨[(0,.one (.dI 0 0 3 0)),(1,iV a1),(5,aV 3),(6,fV (aq .add .f32 s1.1 (bK .f32 (ai .i64 (1:Int) pA.1)))),(7,iV s1.2.1)],[(3,.seq tF (s1.2.2.2++([(bK .f32 (ai .i64 (1:Int) pA.1))]:List Nat))),(0,.seq (.st (.pair (.sl (.int .u8)) (.pair tI (.int .u64)))) ([pA.2]))],4⟩ hX (by kernel_rfl) aN (bj (ah ?_));have ll:=aa ll;subst ll;exact HT.ct (aI 3) [(0,0),(3,1)] [] hX (by kernel_rfl) aN (fun _ h=>(bw ⟨((aq .add .f32 s1.1 (bK .f32 (ai .i64 (1:Int) pA.1))),(ai .i64 s1.2.1 (1:Int)),pA.2,(s1.2.2.2++([(bK .f32 (ai .i64 (1:Int) pA.1))]:List Nat))),rfl,h⟩));refine HT.aE rfl tW ?_;have ll:=aa ll;subst ll;exact HT.bW (Le.re [(0,0),(1,1)] [] hX (by kernel_rfl)) (bm (bt (Of (s1.1,s1.2.2.1,s1.2.2.2) rfl)))
noncomputable def mg (a1:Int)(y3:Int×(List Int×Int×Int))(s7:Int×(List Int×Int×Int)×List Nat×List Nat):Option ((Int×(List Int×Int×Int)×List Nat×List Nat)⊕((List Nat×List Nat))):=
 bif (decide (s7.1<(ai .i64 (1:Int) y3.1))) then
  (js s7.2.1 (ai .i64 (1:Int) y3.1)).bind fun pB=>
  ao (List.length s7.2.2.1+List.length pB.1≤bg) (
   (js pB.2 a1).bind fun pA=>
   ao (List.length s7.2.2.2+List.length pA.1≤bg) (
    some (.inl ((ai .i64 s7.1 (1:Int)),pA.2,(s7.2.2.1++pB.1),(s7.2.2.2++pA.1)))))
 else
  some (.inr (s7.2.2.1,s7.2.2.2))
noncomputable def iP (a0:List Int)(a1:Int):Option ((dW)):=
 (nD a0).bind fun y1=>
 (fw y1 (4:Int)).bind fun y3=>
 (js y3.2 (ai .i64 (1:Int) y3.1)).bind fun y5=>
 (rounds (mg a1 y3) ((0:Int),y5.2,([]:List Nat),([]:List Nat))).bind fun r9=>
 some ((ai .i64 (1:Int) y3.1),a1,y5.1,r9.1,r9.2)
theorem Lu {a0:List Int}{a1:Int}{r:(dW)}(hr:iP a0 a1=some r):CallOK Try.prog 14 [.an (.sl (.int .u8)) a0,.an tI a1] [⟨true,tM,r⟩] []:=by
 unfold iP at hr;refine jh [(true,tM)] Try.func14 rfl [] fun cx hX hF=> ?_;show HT cx ⟨[(0,.one (.aw (.sl (.int .u8)) a0)),(1,iV a1)],[],0⟩ _ _;refine av [oH] ⟨[(0,.one (.aw (.sl (.int .u8)) a0)),(1,iV a1),(4,pV 0 0)],[(0,.box [iC (0:Int),iC (0:Int),.al,.al,.al])],1⟩ hX aN ?_;obtain ⟨y1,lQ,hr⟩:=ae hr;refine av [oH,⟨none,.call [.an (.sl (.int .u8))] [⟨true,(.bx (.st (.pair (.sl (.int .u8)) (.pair tI (.int .u64))))),[y1]⟩] []⟩,oH] ⟨[(1,iV a1),(4,pV 0 0),(5,.one (.dI 1 0 3 0))],[(1,.seq (.st (.pair (.sl (.int .u8)) (.pair tI (.int .u64)))) ([y1])),(0,.box [iC (0:Int),iC (0:Int),.al,.al,.al])],2⟩ hX (aC (Q8 lQ) aN) ?_;obtain ⟨y3,Yi,hr⟩:=ae hr;refine av [oH,⟨none,.call [.own (.bx (.st (.pair (.sl (.int .u8)) (.pair tI (.int .u64))))),.an tI] [⟨false,tI,y3.1⟩] [⟨(.bx (.st (.pair (.sl (.int .u8)) (.pair tI (.int .u64))))),[y3.2]⟩]⟩,oH,oH,oH,oH,oH] ⟨[(1,iV a1),(4,pV 0 0),(5,.one (.dI 1 0 3 0)),(6,pV 2 0)],[(2,.box [iC (ai .i64 (1:Int) y3.1),iC a1,.al,.al,.al]),(1,.seq (.st (.pair (.sl (.int .u8)) (.pair tI (.int .u64)))) ([y3.2])),(0,.box [iC (0:Int),iC (0:Int),.al,.al,.al])],3⟩ hX (aC (Ls Yi) aN) ?_;obtain ⟨y5,Jv,hr⟩:=ae hr;refine av [oH,oH,oH,⟨none,.call [.own (.bx (.st (.pair (.sl (.int .u8)) (.pair tI (.int .u64))))),.an tI] [⟨true,cb,y5.1⟩] [⟨(.bx (.st (.pair (.sl (.int .u8)) (.pair tI (.int .u64))))),[y5.2]⟩]⟩,oH] ⟨[(1,iV a1),(4,pV 0 0),(5,.one (.dI 1 0 3 0)),(6,pV 2 0),(7,aV 3)],[(1,.seq (.st (.pair (.sl (.int .u8)) (.pair tI (.int .u64)))) ([y5.2])),(3,.seq tF y5.1),(2,.box [iC (ai .i64 (1:Int) y3.1),iC a1,.al,.al,.al]),(0,.box [iC (0:Int),iC (0:Int),.al,.al,.al])],4⟩ hX (aC (GH Jv) aN) ?_;refine av (aI 3) ⟨[(1,iV a1),(4,pV 0 0),(5,.one (.dI 1 0 3 0)),(6,pV 2 0)],[(2,.box [iC (ai .i64 (1:Int) y3.1),iC a1,.all 3,.al,.al]),(1,.seq (.st (.pair (.sl (.int .u8)) (.pair tI (.int .u64)))) ([y5.2])),(3,.seq tF y5.1),(0,.box [iC (0:Int),iC (0:Int),.al,.al,.al])],4⟩ hX aN ?_;refine HT.seq ?_;refine av [oH] ⟨[(1,iV a1),(4,pV 0 0),(5,.one (.dI 1 0 3 0)),(6,pV 2 0),(8,iV (0:Int))],[(2,.box [iC (ai .i64 (1:Int) y3.1),iC a1,.all 3,.al,.al]),(1,.seq (.st (.pair (.sl (.int .u8)) (.pair tI (.int .u64)))) ([y5.2])),(3,.seq tF y5.1),(0,.box [iC (0:Int),iC (0:Int),.al,.al,.al])],4⟩ hX aN ?_;refine HT.block ?_;obtain ⟨r8,Q9,hr⟩:=ae hr;refine HT.bX (fun (s7:Int×(List Int×Int×Int)×List Nat×List Nat)=>⟨[(1,iV a1),(4,pV 0 0),(5,.one (.dI 1 0 3 0)),(6,pV 2 0),(8,iV s7.1)],[(0,.box [iC (0:Int),iC (0:Int),.al,.al,.al]),(1,.seq (.st (.pair (.sl (.int .u8)) (.pair tI (.int .u64)))) ([s7.2.1])),(2,.box [iC (ai .i64 (1:Int) y3.1),iC a1,.all 3,.all 4,.all 5]),(3,.seq tF y5.1),(4,.seq tF s7.2.2.1),(5,.seq tF s7.2.2.2)],6⟩) (fun (r9:(List Nat×List Nat))=>(.exit 0,⟨[(4,pV 0 0),(6,pV 1 0)],[(0,.box [iC (0:Int),iC (0:Int),.al,.al,.al]),(1,.box [iC (ai .i64 (1:Int) y3.1),iC a1,.all 2,.all 3,.all 4]),(2,.seq tF y5.1),(3,.seq tF r9.1),(4,.seq tF r9.2)],5⟩)) (Le.re [(0,0),(1,1),(2,2),(3,3)] [4,5] hX (by kernel_rfl)) Q9 ?_ (fun s7 x10 iu Rb=> ?_);refine (aK (ah ?_));refine av (aI 2) ⟨[(4,pV 0 0)],[(0,.box [iC (ai .i64 (1:Int) y3.1),iC a1,.all 2,.all 3,.all 4]),(2,.seq tF y5.1),(3,.seq tF r8.1),(4,.seq tF r8.2)],5⟩ hX aN ?_;have hr:=aa hr;subst hr;exact HT.ret (rO [.agg [iC (ai .i64 (1:Int) y3.1),iC a1,.all 2,.all 3,.all 4]] [2,3,4] [] trivial);refine HT.seq ?_;refine av (aI 4) ⟨[(1,iV a1),(4,pV 0 0),(5,.one (.dI 1 0 3 0)),(6,pV 2 0),(8,iV s7.1),(25,bV (decide (s7.1<(ai .i64 (1:Int) y3.1))))],[(0,.box [iC (0:Int),iC (0:Int),.al,.al,.al]),(1,.seq (.st (.pair (.sl (.int .u8)) (.pair tI (.int .u64)))) ([s7.2.1])),(2,.box [iC (ai .i64 (1:Int) y3.1),iC a1,.all 3,.all 4,.all 5]),(3,.seq tF y5.1),(4,.seq tF s7.2.2.1),(5,.seq tF s7.2.2.2)],6⟩ hX aN ?_;rcases ak iu with ⟨GK,iu⟩|⟨GK,iu⟩
 refine HT.aH rfl GK ?_;refine HT.skip (ah ?_);refine HT.seq ?_;refine HT.block ?_;obtain ⟨pB,GL,iu⟩:=ae iu;obtain ⟨A5,iu⟩:=aj iu;refine HT.CN 6 [o0,⟨oH,[0]⟩,o0,o0,⟨oH,[3]⟩,⟨⟨none,.call [.own (.bx (.st (.pair (.sl (.int .u8)) (.pair tI (.int .u64))))),.an tI] [⟨true,cb,pB.1⟩] [⟨(.bx (.st (.pair (.sl (.int .u8)) (.pair tI (.int .u64))))),[pB.2]⟩]⟩,[2,3,4]⟩] [(rL 6),(rL 7),(rL 8)] [⟨none,.ty tF⟩,oH,oH] ⟨[(1,iV a1),(4,pV 0 0),(5,.one (.dI 1 0 3 0)),(6,pV 2 0),(8,iV s7.1)],[(2,.box [iC (ai .i64 (1:Int) y3.1),iC a1,.all 3,.all 7,.all 5]),(7,.seq tF (s7.2.2.1++pB.1)),(1,.seq (.st (.pair (.sl (.int .u8)) (.pair tI (.int .u64)))) ([pB.2])),(0,.box [iC (0:Int),iC (0:Int),.al,.al,.al]),(3,.seq tF y5.1),(5,.seq tF s7.2.2.2)],8⟩ hX (by kernel_rfl) (by kernel_rfl) (aC (GH GL) (aC A5 aN)) ?_;obtain ⟨pA,GJ,iu⟩:=ae iu;obtain ⟨EV,iu⟩:=aj iu;refine HT.DQ 5 [o0,⟨oH,[0]⟩,o0,o0,⟨⟨none,.call [.own (.bx (.st (.pair (.sl (.int .u8)) (.pair tI (.int .u64))))),.an tI] [⟨true,cb,pA.1⟩] [⟨(.bx (.st (.pair (.sl (.int .u8)) (.pair tI (.int .u64))))),[pA.2]⟩]⟩,[2,3]⟩] [(rL 5),(rL 6),(rL 7)] [⟨none,.ty tF⟩,oH,oH] ⟨[(1,iV a1),(4,pV 0 0),(5,.one (.dI 1 0 3 0)),(6,pV 2 0),(8,iV s7.1)],[(2,.box [iC (ai .i64 (1:Int) y3.1),iC a1,.all 3,.all 7,.all 9]),(9,.seq tF (s7.2.2.2++pA.1)),(1,.seq (.st (.pair (.sl (.int .u8)) (.pair tI (.int .u64)))) ([pA.2])),(7,.seq tF (s7.2.2.1++pB.1)),(0,.box [iC (0:Int),iC (0:Int),.al,.al,.al]),(3,.seq tF y5.1)],10⟩ hX (by kernel_rfl) (by kernel_rfl) (aC (GH GJ) (aC EV aN)) (bj (ah ?_));have iu:=aa iu;subst iu;exact HT.ct (aI 3) [(0,0),(1,1),(2,2),(3,3),(7,4),(9,5)] [] hX (by kernel_rfl) aN (fun _ h=>(bw ⟨((ai .i64 s7.1 (1:Int)),pA.2,(s7.2.2.1++pB.1),(s7.2.2.2++pA.1)),rfl,h⟩));refine HT.aE rfl GK ?_;have iu:=aa iu;subst iu;exact HT.bW (Le.re [(0,0),(2,1),(3,2),(4,3),(5,4)] [] hX (by kernel_rfl)) (bm (bt (Rb (s7.2.2.1,s7.2.2.2) rfl)))
theorem Og {xs y:List Int}(h:dv xs=some y):CallOK Try.prog 122 [.an eo xs] [⟨true,eo,y⟩] []:=by
 obtain ⟨hg,h⟩:=aj h;have h:=aa h;subst h;refine CallOK.sF (ts:=[(true,eo)]) Try.func122 rfl (by kernel_rfl) (Nat.le_of_ble_eq_true (by kernel_rfl)) fun cx hP hN hO hF=> ?_;show HT cx ⟨[(0,.one (.aw eo xs))],[],0⟩ _ _;refine HT.Jk [0] [⟨none,.no⟩] ⟨[(0,.one (.aw eo xs))],[],0⟩ hP hN (by kernel_rfl) aN ?_;refine HT.seq ?_;refine HT.isNil (t3:=3) (t4:=4) (v:= .one (.aw eo xs)) (t:=tI) (xs:=xs) (st1:=⟨[(3,.one (.aw eo xs)),(0,.one (.aw eo xs))],[],0⟩) hP hN (by kernel_rfl) rfl rfl rfl rfl (e:=2) (by kernel_rfl) rfl rfl (fun b hb=> ?_);show HT cx ⟨[(4,.one (.aw .bool b)),(3,.one (.aw eo xs)),(0,.one (.aw eo xs))],[],0⟩ _ _;cases b with
 |true=>
  have e:=hb rfl;subst e;refine HT.aH rfl rfl ?_;refine HT.Jk [2] [⟨none,.no⟩] ⟨[(2,.one .al)],[],0⟩ hP hN (by kernel_rfl) aN ?_;exact HT.ret (aQ (rO [.one .al] [] [] trivial))
 |false=>
  refine HT.aE rfl rfl ?_;refine HT.skip (ah ?_);refine HT.Jk [2] [⟨none,.no⟩,⟨none,.no⟩,⟨none,.ty tI⟩,⟨none,.no⟩] ⟨[(2,.one (.all 0))],[(0,.seq tI xs)],1⟩ hP hN (by kernel_rfl) (aC hg aN) ?_;exact HT.ret (rO [.one (.all 0)] [0] [] trivial)
noncomputable def kt (a0:Int)(s1:Int×List (List Int))(s8:Int×List (List Int))(cE:Int×List (List Int)):Option ((Int×List (List Int))⊕(List (List Int))):=
 bif (decide (cE.1<a0)) then
  (dv (List.getD s1.2 (Int.toNat s8.1) ([]:List Int))).bind fun pQ=>
  ao (List.length pQ+List.length ([cE.1]:List Int)≤bg) (
   ao (List.length cE.2+List.length ([(pQ++([cE.1]:List Int))]:List (List Int))≤bg) (
    some (.inl ((ai .i64 cE.1 (1:Int)),(cE.2++([(pQ++([cE.1]:List Int))]:List (List Int)))))))
 else
  some (.inr cE.2)
noncomputable def kv (a0:Int)(s1:Int×List (List Int))(s8:Int×List (List Int)):Option ((Int×List (List Int))⊕(List (List Int))):=
 bif (decide (s8.1<(af s1.2))) then
  ao ((0:Int)≤s8.1∧s8.1<af s1.2) (
   (rounds (kt a0 s1 s8) ((0:Int),s8.2)).bind fun pC=>
   some (.inl ((ai .i64 s8.1 (1:Int)),pC)))
 else
  some (.inr s8.2)
noncomputable def kx (a0:Int)(a1:Int)(s1:Int×List (List Int)):Option ((Int×List (List Int))⊕(List (List Int))):=
 bif (decide (s1.1<a1)) then
  (rounds (kv a0 s1) ((0:Int),([]:List (List Int)))).bind fun qn=>
  some (.inl ((ai .i64 s1.1 (1:Int)),qn))
 else
  some (.inr s1.2)
noncomputable def iw (a0:Int)(a1:Int):Option (List (List Int)):=
 (rounds (kx a0 a1) ((0:Int),([([]:List Int)]:List (List Int)))).bind fun r3=>
 some r3
theorem Lv {a0:Int}{a1:Int}{r:List (List Int)}(hr:iw a0 a1=some r):CallOK Try.prog 81 [.an tI a0,.an tI a1] [⟨false,(.sl eo),r⟩] []:=by
 unfold iw at hr;refine jh [(false,(.sl eo))] Try.func81 rfl [] fun cx hX hF=> ?_;show HT cx ⟨[(0,iV a0),(1,iV a1)],[],0⟩ _ _;refine av [oH] ⟨[(0,iV a0),(1,iV a1)],[],0⟩ hX aN ?_;refine av [oH,⟨none,.ty eo⟩,oH] ⟨[(0,iV a0),(1,iV a1),(5,aV 0)],[(0,.seq eo ([([]:List Int)]:List (List Int)))],1⟩ hX aN ?_;refine HT.seq ?_;refine av (aI 2) ⟨[(0,iV a0),(5,aV 0),(12,iV a1),(13,iV (0:Int))],[(0,.seq eo ([([]:List Int)]:List (List Int)))],1⟩ hX aN ?_;refine HT.block ?_;obtain ⟨r2,Lw,hr⟩:=ae hr;refine HT.bX (fun (s1:Int×List (List Int))=>⟨[(0,iV a0),(5,aV 0),(12,iV a1),(13,iV s1.1)],[(0,.seq eo s1.2)],1⟩) (fun (r3:List (List Int))=>(.exit 0,⟨[(5,aV 0)],[(0,.seq eo r3)],1⟩)) (Le.re [(0,0)] [] hX (by kernel_rfl)) Lw ?_ (fun s1 x4 nE Rc=> ?_);refine (aK (ah ?_));refine av (aI 2) ⟨[(4,aV 0)],[(0,.seq eo r2)],1⟩ hX aN ?_;have hr:=aa hr;subst hr;refine (Le.rz [] [] (st':=⟨[(4,.one (.aw (.sl eo) r2))],[],1⟩) hX hF (by kernel_rfl)).ht ?_;exact HT.ret (rO [.one (.aw (.sl eo) r2)] [] [] trivial);refine av [oH] ⟨[(0,iV a0),(5,aV 0),(12,iV a1),(13,iV s1.1),(14,bV (decide (s1.1<a1)))],[(0,.seq eo s1.2)],1⟩ hX aN ?_;refine HT.seq ?_;rcases ak nE with ⟨oA,nE⟩|⟨oA,nE⟩
 refine HT.aH rfl oA ?_;refine HT.skip (ah ?_);refine HT.seq ?_;refine HT.block ?_;refine av (aI 2) ⟨[(0,iV a0),(5,aV 0),(6,.one (.al)),(12,iV a1),(13,iV s1.1)],[(0,.seq eo s1.2)],1⟩ hX aN ?_;refine HT.seq ?_;refine av (aI 3) ⟨[(0,iV a0),(6,.one (.al)),(12,iV a1),(13,iV s1.1),(16,aV 0),(17,iV (af s1.2)),(18,iV (0:Int))],[(0,.seq eo s1.2)],1⟩ hX aN ?_;refine HT.block ?_;obtain ⟨r9,Lx,nE⟩:=ae nE;refine HT.bX (fun (s8:Int×List (List Int))=>⟨[(0,iV a0),(6,aV 0),(12,iV a1),(13,iV s1.1),(16,aV 1),(17,iV (af s1.2)),(18,iV s8.1)],[(0,.seq eo s8.2),(1,.seq eo s1.2)],2⟩) (fun (qn:List (List Int))=>(.exit 2,⟨[(0,iV a0),(6,aV 0),(12,iV a1),(13,iV s1.1)],[(0,.seq eo qn)],1⟩)) (Le.re [(0,1)] [0] hX (by kernel_rfl)) Lx ?_ (fun s8 x11 eH GN=> ?_);refine (aK (ah ?_));refine HT.DP (aI 2) ⟨[(0,iV a0),(5,aV 0),(12,iV a1),(13,iV s1.1)],[(0,.seq eo r9)],1⟩ hX (by kernel_rfl) aN (bj (ah ?_));have nE:=aa nE;subst nE;exact HT.ct (aI 2) [(0,0)] [] hX (by kernel_rfl) aN (fun _ h=>(bw ⟨((ai .i64 s1.1 (1:Int)),r9),rfl,h⟩));refine av [oH] ⟨[(0,iV a0),(6,aV 0),(12,iV a1),(13,iV s1.1),(16,aV 1),(17,iV (af s1.2)),(18,iV s8.1),(19,bV (decide (s8.1<(af s1.2))))],[(0,.seq eo s8.2),(1,.seq eo s1.2)],2⟩ hX aN ?_;refine HT.seq ?_;rcases ak eH with ⟨mh,eH⟩|⟨mh,eH⟩
 refine HT.aH rfl mh ?_;refine HT.skip (ah ?_);refine HT.seq ?_;refine HT.block ?_;obtain ⟨Ly,eH⟩:=aj eH;refine av (aI 3) ⟨[(0,iV a0),(6,aV 0),(8,nV (List.getD s1.2 (Int.toNat s8.1) ([]:List Int))),(12,iV a1),(13,iV s1.1),(16,aV 1),(17,iV (af s1.2)),(18,iV s8.1)],[(0,.seq eo s8.2),(1,.seq eo s1.2)],2⟩ hX (aC Ly (aC (bL Ly) aN)) ?_;refine av (aI 2) ⟨[(0,iV a0),(6,aV 0),(8,nV (List.getD s1.2 (Int.toNat s8.1) ([]:List Int))),(12,iV a1),(13,iV s1.1),(16,aV 1),(17,iV (af s1.2)),(18,iV s8.1),(22,iV a0),(23,iV (0:Int))],[(0,.seq eo s8.2),(1,.seq eo s1.2)],2⟩ hX aN ?_;refine HT.block ?_;obtain ⟨xA,Yj,eH⟩:=ae eH;refine HT.bX (fun (cE:Int×List (List Int))=>⟨[(0,iV a0),(6,aV 0),(8,nV (List.getD s1.2 (Int.toNat s8.1) ([]:List Int))),(12,iV a1),(13,iV s1.1),(16,aV 1),(17,iV (af s1.2)),(18,iV s8.1),(22,iV a0),(23,iV cE.1)],[(0,.seq eo cE.2),(1,.seq eo s1.2)],2⟩) (fun (pC:List (List Int))=>(.exit 4,⟨[(0,iV a0),(6,aV 0),(12,iV a1),(13,iV s1.1),(16,aV 1),(17,iV (af s1.2)),(18,iV s8.1)],[(0,.seq eo pC),(1,.seq eo s1.2)],2⟩)) (Le.re [(0,0),(1,1)] [] hX (by kernel_rfl)) Yj ?_ (fun cE x19 gi Lz=> ?_);refine (aK (bj (ah ?_)));have eH:=aa eH;subst eH;exact HT.ct (aI 2) [(0,0),(1,1)] [] hX (by kernel_rfl) aN (fun _ h=>(bw ⟨((ai .i64 s8.1 (1:Int)),xA),rfl,h⟩));refine av [oH] ⟨[(0,iV a0),(6,aV 0),(8,nV (List.getD s1.2 (Int.toNat s8.1) ([]:List Int))),(12,iV a1),(13,iV s1.1),(16,aV 1),(17,iV (af s1.2)),(18,iV s8.1),(22,iV a0),(23,iV cE.1),(24,bV (decide (cE.1<a0)))],[(0,.seq eo cE.2),(1,.seq eo s1.2)],2⟩ hX aN ?_;refine HT.seq ?_;rcases ak gi with ⟨og,gi⟩|⟨og,gi⟩
 refine HT.aH rfl og ?_;refine HT.skip (ah ?_);refine HT.seq ?_;refine HT.block ?_;refine av (aI 2) ⟨[(0,iV a0),(6,aV 0),(8,nV (List.getD s1.2 (Int.toNat s8.1) ([]:List Int))),(9,iV cE.1),(12,iV a1),(13,iV s1.1),(16,aV 1),(17,iV (af s1.2)),(18,iV s8.1),(22,iV a0),(23,iV cE.1)],[(0,.seq eo cE.2),(1,.seq eo s1.2)],2⟩ hX aN ?_;obtain ⟨pQ,LA,gi⟩:=ae gi;obtain ⟨Yk,gi⟩:=aj gi;obtain ⟨vS,gi⟩:=aj gi;refine HT.XZ 6 [oH,oH,⟨none,.call [.an eo] [⟨true,eo,pQ⟩] []⟩,oH,⟨none,.ty tI⟩,⟨none,.ty tI⟩] ⟨[(31,aV 4),(30,aV 3),(29,iV cE.1),(28,aV 2),(27,nV (List.getD s1.2 (Int.toNat s8.1) ([]:List Int))),(26,aV 0),(0,iV a0),(6,aV 0),(8,nV (List.getD s1.2 (Int.toNat s8.1) ([]:List Int))),(9,iV cE.1),(12,iV a1),(13,iV s1.1),(16,aV 1),(17,iV (af s1.2)),(18,iV s8.1),(22,iV a0),(23,iV cE.1)],[(2,.gone),(4,.seq tI (pQ++([cE.1]:List Int))),(3,.seq tI ([cE.1]:List Int)),(2,.seq tI pQ),(0,.seq eo cE.2),(1,.seq eo s1.2)],5⟩ [⟨none,.ty eo⟩,⟨none,.ty eo⟩,oH] ⟨[(6,aV 6),(33,aV 6),(32,aV 5),(31,nV (pQ++([cE.1]:List Int))),(30,aV 3),(29,iV cE.1),(27,nV (List.getD s1.2 (Int.toNat s8.1) ([]:List Int))),(26,aV 0),(0,iV a0),(6,aV 0),(8,nV (List.getD s1.2 (Int.toNat s8.1) ([]:List Int))),(9,iV cE.1),(12,iV a1),(13,iV s1.1),(16,aV 1),(17,iV (af s1.2)),(18,iV s8.1),(22,iV a0),(23,iV cE.1)],[(0,.gone),(6,.seq eo (cE.2++([(pQ++([cE.1]:List Int))]:List (List Int)))),(5,.seq eo ([(pQ++([cE.1]:List Int))]:List (List Int))),(3,.seq tI ([cE.1]:List Int)),(0,.seq eo cE.2),(1,.seq eo s1.2)],7⟩ hX.P hX.N (by kernel_rfl) (aC (Og LA) (aC Yk aN)) (Le.rz [(3,3),(0,0),(1,1)] [] (st':=⟨[(31,nV (pQ++([cE.1]:List Int))),(30,aV 3),(29,iV cE.1),(27,nV (List.getD s1.2 (Int.toNat s8.1) ([]:List Int))),(26,aV 0),(0,iV a0),(6,aV 0),(8,nV (List.getD s1.2 (Int.toNat s8.1) ([]:List Int))),(9,iV cE.1),(12,iV a1),(13,iV s1.1),(16,aV 1),(17,iV (af s1.2)),(18,iV s8.1),(22,iV a0),(23,iV cE.1)],[(3,.seq tI ([cE.1]:List Int)),(0,.seq eo cE.2),(1,.seq eo s1.2)],5⟩) hX hF (by kernel_rfl)) (by kernel_rfl) (aC vS aN) (bj (ah ?_));have gi:=aa gi;subst gi;exact HT.ct (aI 2) [(6,0),(1,1)] [] hX (by kernel_rfl) aN (fun _ h=>(bw ⟨((ai .i64 cE.1 (1:Int)),(cE.2++([(pQ++([cE.1]:List Int))]:List (List Int)))),rfl,h⟩));refine HT.aE rfl og ?_;have gi:=aa gi;subst gi;exact HT.bW (Le.re [(0,0),(1,1)] [] hX (by kernel_rfl)) (bm (bt (Lz cE.2 rfl)));refine HT.aE rfl mh ?_;have eH:=aa eH;subst eH;exact HT.bW (Le.re [(0,0)] [] hX (by kernel_rfl)) (bm (bt (GN s8.2 rfl)));refine HT.aE rfl oA ?_;have nE:=aa nE;subst nE;exact HT.bW (Le.re [(0,0)] [] hX (by kernel_rfl)) (bm (bt (Rc s1.2 rfl)))
noncomputable def bS (a0:Nat):Option (Bool):=
 some (tg .f32 (aq .sub .f32 a0 a0) (0:Nat))
theorem vU {a0:Nat}{r:Bool}(hr:bS a0=some r):CallOK Try.prog 84 [.an tF a0] [⟨false,.bool,r⟩] []:=by
 unfold bS at hr;refine jh [(false,.bool)] Try.func84 rfl [] fun cx hX hF=> ?_;show HT cx ⟨[(0,fV a0)],[],0⟩ _ _;refine av [oH] ⟨[(0,fV a0)],[],0⟩ hX aN ?_;refine av (aI 5) ⟨[(2,bV (tg .f32 (aq .sub .f32 a0 a0) (0:Nat)))],[],0⟩ hX aN ?_;have hr:=aa hr;subst hr;exact HT.ret (rO [bV (tg .f32 (aq .sub .f32 a0 a0) (0:Nat))] [] [] trivial)
noncomputable def bT (a0:Nat):Option (Nat×Bool):=
 (bS a0).bind fun y1=>
 bif (!y1) then
  some ((0:Nat),false)
 else
  some (a0,true)
theorem zv {a0:Nat}{r:Nat×Bool}(hr:bT a0=some r):CallOK Try.prog 50 [.an tF a0] [⟨false,tF,r.1⟩,⟨false,.bool,r.2⟩] []:=by
 unfold bT at hr;refine jh [(false,tF),(false,.bool)] Try.func50 rfl [] fun cx hX hF=> ?_;show HT cx ⟨[(0,fV a0)],[],0⟩ _ _;refine av (aI 2) ⟨[(0,fV a0)],[],0⟩ hX aN ?_;refine HT.seq ?_;obtain ⟨y1,lQ,hr⟩:=ae hr;refine av [oH,⟨none,.call [.an tF] [⟨false,.bool,y1⟩] []⟩,oH] ⟨[(0,fV a0),(6,bV (!y1))],[],0⟩ hX (aC (vU lQ) aN) ?_;rcases ak hr with ⟨AT,hr⟩|⟨AT,hr⟩
 refine HT.aH rfl AT ?_;refine av (aI 2) ⟨[(2,fV (0:Nat)),(3,bV false)],[],0⟩ hX aN ?_;have hr:=aa hr;subst hr;exact HT.ret (aQ (rO [fV (0:Nat),bV false] [] [] trivial));refine HT.aE rfl AT ?_;refine HT.skip (ah ?_);refine av (aI 3) ⟨[(2,fV a0),(3,bV true)],[],0⟩ hX aN ?_;have hr:=aa hr;subst hr;exact HT.ret (rO [fV a0,bV true] [] [] trivial)
theorem GO {xs y:List Nat}(h:dv xs=some y):CallOK Try.prog 57 [.an cb xs] [⟨true,cb,y⟩] []:=by
 obtain ⟨hg,h⟩:=aj h;have h:=aa h;subst h;refine CallOK.sF (ts:=[(true,cb)]) Try.func57 rfl (by kernel_rfl) (Nat.le_of_ble_eq_true (by kernel_rfl)) fun cx hP hN hO hF=> ?_;show HT cx ⟨[(0,.one (.aw cb xs))],[],0⟩ _ _;refine HT.Jk [0] [⟨none,.no⟩] ⟨[(0,.one (.aw cb xs))],[],0⟩ hP hN (by kernel_rfl) aN ?_;refine HT.seq ?_;refine HT.isNil (t3:=3) (t4:=4) (v:= .one (.aw cb xs)) (t:=tF) (xs:=xs) (st1:=⟨[(3,.one (.aw cb xs)),(0,.one (.aw cb xs))],[],0⟩) hP hN (by kernel_rfl) rfl rfl rfl rfl (e:=23) (by kernel_rfl) rfl rfl (fun b hb=> ?_);show HT cx ⟨[(4,.one (.aw .bool b)),(3,.one (.aw cb xs)),(0,.one (.aw cb xs))],[],0⟩ _ _;cases b with
 |true=>
  have e:=hb rfl;subst e;refine HT.aH rfl rfl ?_;refine HT.Jk [2] [⟨none,.no⟩] ⟨[(2,.one .al)],[],0⟩ hP hN (by kernel_rfl) aN ?_;exact HT.ret (aQ (rO [.one .al] [] [] trivial))
 |false=>
  refine HT.aE rfl rfl ?_;refine HT.skip (ah ?_);refine HT.Jk [2] [⟨none,.no⟩,⟨none,.no⟩,⟨none,.ty tF⟩,⟨none,.no⟩] ⟨[(2,.one (.all 0))],[(0,.seq tF xs)],1⟩ hP hN (by kernel_rfl) (aC hg aN) ?_;exact HT.ret (rO [.one (.all 0)] [0] [] trivial)
noncomputable def e7 (a0:dW)(a1:Int)(a2:Int):Option (Nat):=
 ao ((0:Int)≤(ai .i64 (az .i64 a1 a0.2.1) a2)∧(ai .i64 (az .i64 a1 a0.2.1) a2)<af a0.2.2.2.2) (
  some (List.getD a0.2.2.2.2 (Int.toNat (ai .i64 (az .i64 a1 a0.2.1) a2)) (0:Nat)))
theorem GP {a0:dW}{a1:Int}{a2:Int}{r:Nat}(hr:e7 a0 a1 a2=some r):CallOK Try.prog 58 [.an tM a0,.an tI a1,.an tI a2] [⟨false,tF,r⟩] []:=by
 unfold e7 at hr;refine jh [(false,tF)] Try.func58 rfl [] fun cx hX hF=> ?_;show HT cx ⟨[(0,.agg [iC a0.1,iC a0.2.1,lC a0.2.2.1,lC a0.2.2.2.1,lC a0.2.2.2.2]),(1,iV a1),(2,iV a2)],[],0⟩ _ _;refine av (aI 2) ⟨[(1,iV a1),(2,iV a2),(3,pV 0 0)],[(0,aU a0)],1⟩ hX aN ?_;obtain ⟨xK,hr⟩:=aj hr;refine av (aI 11) ⟨[(6,fV (List.getD a0.2.2.2.2 (Int.toNat (ai .i64 (az .i64 a1 a0.2.1) a2)) (0:Nat)))],[],1⟩ hX (aC xK aN) ?_;have hr:=aa hr;subst hr;exact HT.ret (rO [fV (List.getD a0.2.2.2.2 (Int.toNat (ai .i64 (az .i64 a1 a0.2.1) a2)) (0:Nat))] [] [] trivial)
noncomputable def dw (a0:dW)(a1:Int)(a2:Int):Option (Nat):=
 ao ((0:Int)≤(ai .i64 (az .i64 a1 a0.1) a2)∧(ai .i64 (az .i64 a1 a0.1) a2)<af a0.2.2.2.1) (
  some (List.getD a0.2.2.2.1 (Int.toNat (ai .i64 (az .i64 a1 a0.1) a2)) (0:Nat)))
theorem CZ {a0:dW}{a1:Int}{a2:Int}{r:Nat}(hr:dw a0 a1 a2=some r):CallOK Try.prog 86 [.an tM a0,.an tI a1,.an tI a2] [⟨false,tF,r⟩] []:=by
 unfold dw at hr;refine jh [(false,tF)] Try.func86 rfl [] fun cx hX hF=> ?_;show HT cx ⟨[(0,.agg [iC a0.1,iC a0.2.1,lC a0.2.2.1,lC a0.2.2.2.1,lC a0.2.2.2.2]),(1,iV a1),(2,iV a2)],[],0⟩ _ _;refine av (aI 2) ⟨[(1,iV a1),(2,iV a2),(3,pV 0 0)],[(0,aU a0)],1⟩ hX aN ?_;obtain ⟨xK,hr⟩:=aj hr;refine av (aI 11) ⟨[(6,fV (List.getD a0.2.2.2.1 (Int.toNat (ai .i64 (az .i64 a1 a0.1) a2)) (0:Nat)))],[],1⟩ hX (aC xK aN) ?_;have hr:=aa hr;subst hr;exact HT.ret (rO [fV (List.getD a0.2.2.2.1 (Int.toNat (ai .i64 (az .i64 a1 a0.1) a2)) (0:Nat))] [] [] trivial)
noncomputable def fX (a0:dW)(a1:List Nat)(a2:Int)(s2:Int×List Nat)(s9:Int×List Nat):Option ((Int×List Nat)⊕(List Nat)):=
 bif (decide (s9.1<a0.1)) then
  ao ((0:Int)≤s2.1∧s2.1<af s9.2) (
   ao ((0:Int)≤s9.1∧s9.1<af a1) (
    (e7 (a0.1,a0.2.1,a0.2.2.1,a0.2.2.2.1,a0.2.2.2.2) s9.1 a2).bind fun gJ=>
    (dw (a0.1,a0.2.1,a0.2.2.1,a0.2.2.2.1,a0.2.2.2.2) s9.1 s2.1).bind fun rA=>
    some (.inl ((ai .i64 s9.1 (1:Int)),(List.set s9.2 (Int.toNat s2.1) (aq .add .f32 (List.getD s9.2 (Int.toNat s2.1) (0:Nat)) (aq .mul .f32 (aq .mul .f32 (List.getD a1 (Int.toNat s9.1) (0:Nat)) gJ) rA)))))))
 else
  some (.inr s9.2)
noncomputable def fY (a0:dW)(a1:List Nat)(a2:Int)(s2:Int×List Nat):Option ((Int×List Nat)⊕(List Nat)):=
 bif (decide (s2.1<a0.1)) then
  (rounds (fX a0 a1 a2 s2) ((0:Int),s2.2)).bind fun A6=>
  some (.inl ((ai .i64 s2.1 (1:Int)),A6))
 else
  some (.inr s2.2)
noncomputable def fH (a0:dW)(a1:List Nat)(a2:Int):Option (List Nat):=
 ao ((0:Int)≤a0.1∧a0.1≤4294967296) (
  (rounds (fY a0 a1 a2) ((0:Int),(List.replicate (Int.toNat a0.1) (0:Nat)))).bind fun r4=>
  some r4)
theorem Rd {a0:dW}{a1:List Nat}{a2:Int}{r:List Nat}(hr:fH a0 a1 a2=some r):CallOK Try.prog 59 [.an tM a0,.an cb a1,.an tI a2] [⟨true,cb,r⟩] []:=by
 unfold fH at hr;refine jh [(true,cb)] Try.func59 rfl [] fun cx hX hF=> ?_;show HT cx ⟨[(0,.agg [iC a0.1,iC a0.2.1,lC a0.2.2.1,lC a0.2.2.2.1,lC a0.2.2.2.2]),(1,lV a1),(2,iV a2)],[],0⟩ _ _;refine av (aI 2) ⟨[(1,lV a1),(2,iV a2),(3,pV 0 0)],[(0,aU a0)],1⟩ hX aN ?_;obtain ⟨xK,hr⟩:=aj hr;refine av [oH,oH,⟨none,.ty tF⟩,oH] ⟨[(1,lV a1),(2,iV a2),(3,pV 0 0),(7,aV 1)],[(1,.seq tF (List.replicate (Int.toNat a0.1) (0:Nat))),(0,aU a0)],2⟩ hX (aC (show (0:Int)≤a0.1∧a0.1≤a0.1∧a0.1≤4294967296 from ⟨xK.1,Int.le_refl _,xK.2⟩) aN) ?_;refine HT.seq ?_;refine av (aI 3) ⟨[(1,lV a1),(2,iV a2),(3,pV 0 0),(7,aV 1),(14,iV a0.1),(15,iV (0:Int))],[(1,.seq tF (List.replicate (Int.toNat a0.1) (0:Nat))),(0,aU a0)],2⟩ hX aN ?_;refine HT.block ?_;obtain ⟨r3,GQ,hr⟩:=ae hr;refine HT.bX (fun (s2:Int×List Nat)=>⟨[(1,lV a1),(2,iV a2),(3,pV 0 0),(7,aV 1),(14,iV a0.1),(15,iV s2.1)],[(0,aU a0),(1,.seq tF s2.2)],2⟩) (fun (r4:List Nat)=>(.exit 0,⟨[(7,aV 0)],[(0,.seq tF r4)],1⟩)) (Le.re [(0,0),(1,1)] [] hX (by kernel_rfl)) GQ ?_ (fun s2 x5 il Im=> ?_);refine (aK (ah ?_));refine av (aI 2) ⟨[(6,aV 0)],[(0,.seq tF r3)],1⟩ hX aN ?_;have hr:=aa hr;subst hr;exact HT.ret (rO [aV 0] [0] [] trivial);refine av [oH] ⟨[(1,lV a1),(2,iV a2),(3,pV 0 0),(7,aV 1),(14,iV a0.1),(15,iV s2.1),(16,bV (decide (s2.1<a0.1)))],[(0,aU a0),(1,.seq tF s2.2)],2⟩ hX aN ?_;refine HT.seq ?_;rcases ak il with ⟨od,il⟩|⟨od,il⟩
 refine HT.aH rfl od ?_;refine HT.skip (ah ?_);refine HT.seq ?_;refine HT.block ?_;refine av (aI 2) ⟨[(1,lV a1),(2,iV a2),(3,pV 0 0),(7,aV 1),(8,iV s2.1),(14,iV a0.1),(15,iV s2.1)],[(0,aU a0),(1,.seq tF s2.2)],2⟩ hX aN ?_;refine av (aI 3) ⟨[(1,lV a1),(2,iV a2),(3,pV 0 0),(7,aV 1),(8,iV s2.1),(14,iV a0.1),(15,iV s2.1),(19,iV a0.1),(20,iV (0:Int))],[(0,aU a0),(1,.seq tF s2.2)],2⟩ hX aN ?_;refine HT.block ?_;obtain ⟨qn,Re,il⟩:=ae il;refine HT.bX (fun (s9:Int×List Nat)=>⟨[(1,lV a1),(2,iV a2),(3,pV 0 0),(7,aV 1),(8,iV s2.1),(14,iV a0.1),(15,iV s2.1),(19,iV a0.1),(20,iV s9.1)],[(0,aU a0),(1,.seq tF s9.2)],2⟩) (fun (A6:List Nat)=>(.exit 2,⟨[(1,lV a1),(2,iV a2),(3,pV 0 0),(7,aV 1),(14,iV a0.1),(15,iV s2.1)],[(0,aU a0),(1,.seq tF A6)],2⟩)) (Le.re [(0,0),(1,1)] [] hX (by kernel_rfl)) Re ?_ (fun s9 Yl cM GR=> ?_);refine (aK (bj (ah ?_)));have il:=aa il;subst il;exact HT.ct (aI 2) [(0,0),(1,1)] [] hX (by kernel_rfl) aN (fun _ h=>(bw ⟨((ai .i64 s2.1 (1:Int)),qn),rfl,h⟩));refine av [oH] ⟨[(1,lV a1),(2,iV a2),(3,pV 0 0),(7,aV 1),(8,iV s2.1),(14,iV a0.1),(15,iV s2.1),(19,iV a0.1),(20,iV s9.1),(21,bV (decide (s9.1<a0.1)))],[(0,aU a0),(1,.seq tF s9.2)],2⟩ hX aN ?_;refine HT.seq ?_;rcases ak cM with ⟨fI,cM⟩|⟨fI,cM⟩
 refine HT.aH rfl fI ?_;refine HT.skip (ah ?_);refine HT.seq ?_;refine HT.block ?_;refine av (aI 2) ⟨[(1,lV a1),(2,iV a2),(3,pV 0 0),(7,aV 1),(8,iV s2.1),(9,iV s9.1),(14,iV a0.1),(15,iV s2.1),(19,iV a0.1),(20,iV s9.1)],[(0,aU a0),(1,.seq tF s9.2)],2⟩ hX aN ?_;obtain ⟨A5,cM⟩:=aj cM;obtain ⟨EW,cM⟩:=aj cM;obtain ⟨gJ,A7,cM⟩:=ae cM;obtain ⟨rA,GS,cM⟩:=ae cM;refine HT.DQ 21 [o0,o0,o0,o0,⟨oH,[2,3]⟩,⟨oH,[2,3,4]⟩,o0,o0,⟨oH,[6,7]⟩,⟨oH,[6,7,8]⟩,o0,o0,o0,⟨⟨none,.call [.an tM,.an tI,.an tI] [⟨false,tF,gJ⟩] []⟩,[10,11,12]⟩,⟨oH,[6,7,8,9,10,11,12,13]⟩,o0,o0,o0,⟨⟨none,.call [.an tM,.an tI,.an tI] [⟨false,tF,rA⟩] []⟩,[10,11,12,13,15,16,17]⟩,⟨oH,[6,7,8,9,10,11,12,13,14,15,16,17,18]⟩,⟨oH,[2,3,4,5,6,7,8,9,10,11,12,13,14,15,16,17,18,19]⟩] [(rL 21),(rL 22)] (aI 2) ⟨[(1,lV a1),(2,iV a2),(3,pV 0 0),(7,aV 1),(8,iV s2.1),(14,iV a0.1),(15,iV s2.1),(19,iV a0.1),(20,iV s9.1)],[(1,.seq tF (List.set s9.2 (Int.toNat s2.1) (aq .add .f32 (List.getD s9.2 (Int.toNat s2.1) (0:Nat)) (aq .mul .f32 (aq .mul .f32 (List.getD a1 (Int.toNat s9.1) (0:Nat)) gJ) rA)))),(0,aU a0)],2⟩ hX (by kernel_rfl) (by kernel_rfl) (aC A5 (aC (bL A5) (aC EW (aC (GP A7) (aC (CZ GS) (aC A5 (aC (bL A5) aN))))))) (bj (ah ?_));have cM:=aa cM;subst cM;exact HT.ct (aI 2) [(0,0),(1,1)] [] hX (by kernel_rfl) aN (fun _ h=>(bw ⟨((ai .i64 s9.1 (1:Int)),(List.set s9.2 (Int.toNat s2.1) (aq .add .f32 (List.getD s9.2 (Int.toNat s2.1) (0:Nat)) (aq .mul .f32 (aq .mul .f32 (List.getD a1 (Int.toNat s9.1) (0:Nat)) gJ) rA)))),rfl,h⟩));refine HT.aE rfl fI ?_;have cM:=aa cM;subst cM;exact HT.bW (Le.re [(0,0),(1,1)] [] hX (by kernel_rfl)) (bm (bt (GR s9.2 rfl)));refine HT.aE rfl od ?_;have il:=aa il;subst il;exact HT.bW (Le.re [(1,0)] [] hX (by kernel_rfl)) (bm (bt (Im s2.2 rfl)))
noncomputable def fZ (a0:dW)(a1:List Int)(s3:Int×List (List Nat)):Option ((Int×List (List Nat))⊕(List (List Nat))):=
 bif (decide (s3.1<(af a1))) then
  ao ((0:Int)≤s3.1∧s3.1<af a1) (
   ao ((0:Int)≤s3.1∧s3.1<af s3.2) (
    (fH (a0.1,a0.2.1,a0.2.2.1,a0.2.2.2.1,a0.2.2.2.2) (List.getD s3.2 (Int.toNat s3.1) ([]:List Nat)) (List.getD a1 (Int.toNat s3.1) (0:Int))).bind fun oI=>
    ao (List.length s3.2+List.length ([oI]:List (List Nat))≤bg) (
     some (.inl ((ai .i64 s3.1 (1:Int)),(s3.2++([oI]:List (List Nat))))))))
 else
  some (.inr s3.2)
noncomputable def fJ (a0:dW)(a1:List Int):Option (List (List Nat)):=
 (dv a0.2.2.1).bind fun y1=>
 (rounds (fZ a0 a1) ((0:Int),([y1]:List (List Nat)))).bind fun r5=>
 some r5
theorem Rf {a0:dW}{a1:List Int}{r:List (List Nat)}(hr:fJ a0 a1=some r):CallOK Try.prog 62 [.an tM a0,.an eo a1] [⟨false,(.sl cb),r⟩] []:=by
 unfold fJ at hr;refine jh [(false,(.sl cb))] Try.func62 rfl [] fun cx hX hF=> ?_;show HT cx ⟨[(0,.agg [iC a0.1,iC a0.2.1,lC a0.2.2.1,lC a0.2.2.2.1,lC a0.2.2.2.2]),(1,nV a1)],[],0⟩ _ _;refine av (aI 2) ⟨[(1,nV a1),(2,pV 0 0)],[(0,aU a0)],1⟩ hX aN ?_;obtain ⟨y1,lQ,hr⟩:=ae hr;refine av [oH,oH,⟨none,.call [.an cb] [⟨false,cb,y1⟩] []⟩,⟨none,.ty cb⟩,oH] ⟨[(1,nV a1),(2,pV 0 0),(5,aV 1)],[(1,.seq cb ([y1]:List (List Nat))),(0,aU a0)],2⟩ hX (aC (CallOK.We [true] rfl (GO lQ)) aN) ?_;refine HT.seq ?_;refine av (aI 3) ⟨[(2,pV 0 0),(5,aV 1),(12,nV a1),(13,iV (af a1)),(14,iV (0:Int))],[(1,.seq cb ([y1]:List (List Nat))),(0,aU a0)],2⟩ hX aN ?_;refine HT.block ?_;obtain ⟨r4,C7,hr⟩:=ae hr;refine HT.bX (fun (s3:Int×List (List Nat))=>⟨[(2,pV 0 0),(5,aV 1),(12,nV a1),(13,iV (af a1)),(14,iV s3.1)],[(0,aU a0),(1,.seq cb s3.2)],2⟩) (fun (r5:List (List Nat))=>(.exit 0,⟨[(5,aV 0)],[(0,.seq cb r5)],1⟩)) (Le.re [(0,0),(1,1)] [] hX (by kernel_rfl)) C7 ?_ (fun s3 x6 ix Nt=> ?_);refine (aK (ah ?_));refine av (aI 2) ⟨[(4,aV 0)],[(0,.seq cb r4)],1⟩ hX aN ?_;have hr:=aa hr;subst hr;refine (Le.rz [] [] (st':=⟨[(4,.one (.aw (.sl cb) r4))],[],1⟩) hX hF (by kernel_rfl)).ht ?_;exact HT.ret (rO [.one (.aw (.sl cb) r4)] [] [] trivial);refine av [oH] ⟨[(2,pV 0 0),(5,aV 1),(12,nV a1),(13,iV (af a1)),(14,iV s3.1),(15,bV (decide (s3.1<(af a1))))],[(0,aU a0),(1,.seq cb s3.2)],2⟩ hX aN ?_;refine HT.seq ?_;rcases ak ix with ⟨mi,ix⟩|⟨mi,ix⟩
 refine HT.aH rfl mi ?_;refine HT.skip (ah ?_);refine HT.seq ?_;refine HT.block ?_;obtain ⟨A8,ix⟩:=aj ix;refine av (aI 5) ⟨[(2,pV 0 0),(5,aV 1),(6,iV s3.1),(7,iV (List.getD a1 (Int.toNat s3.1) (0:Int))),(12,nV a1),(13,iV (af a1)),(14,iV s3.1)],[(0,aU a0),(1,.seq cb s3.2)],2⟩ hX (aC A8 aN) ?_;obtain ⟨vR,ix⟩:=aj ix;obtain ⟨oI,zw,ix⟩:=ae ix;obtain ⟨C8,ix⟩:=aj ix;refine HT.DQ 9 [o0,o0,o0,o0,⟨oH,[2,3]⟩,⟨oH,[2,3,4]⟩,o0,⟨⟨none,.call [.an tM,.an cb,.an tI] [⟨false,cb,oI⟩] []⟩,[1,2,3,4,5,6]⟩,⟨⟨none,.ty cb⟩,[1,2,3,4,5,6,7]⟩] [(rL 9),(rL 10)] [⟨none,.ty cb⟩,oH] ⟨[(2,pV 0 0),(5,aV 3),(12,nV a1),(13,iV (af a1)),(14,iV s3.1)],[(3,.seq cb (s3.2++([oI]:List (List Nat)))),(0,aU a0)],4⟩ hX (by kernel_rfl) (by kernel_rfl) (aC vR (aC (bL vR) (aC (CallOK.We [true] rfl (Rd zw)) (aC C8 aN)))) (bj (ah ?_));have ix:=aa ix;subst ix;exact HT.ct (aI 2) [(0,0),(3,1)] [] hX (by kernel_rfl) aN (fun _ h=>(bw ⟨((ai .i64 s3.1 (1:Int)),(s3.2++([oI]:List (List Nat)))),rfl,h⟩));refine HT.aE rfl mi ?_;have ix:=aa ix;subst ix;exact HT.bW (Le.re [(1,0)] [] hX (by kernel_rfl)) (bm (bt (Nt s3.2 rfl)))
noncomputable def mC (a0:List Nat)(s1:Nat×Int):Option ((Nat×Int)⊕(Nat)):=
 bif (decide (s1.2<(af a0))) then
  ao ((0:Int)≤s1.2∧s1.2<af a0) (
   some (.inl ((aq .add .f32 s1.1 (List.getD a0 (Int.toNat s1.2) (0:Nat))),(ai .i64 s1.2 (1:Int)))))
 else
  some (.inr s1.1)
noncomputable def kN (a0:List Nat):Option (Nat):=
 (rounds (mC a0) ((0:Nat),(0:Int))).bind fun r3=>
 some r3
theorem GU {a0:List Nat}{r:Nat}(hr:kN a0=some r):CallOK Try.prog 68 [.an cb a0] [⟨false,tF,r⟩] []:=by
 unfold kN at hr;refine jh [(false,tF)] Try.func68 rfl [] fun cx hX hF=> ?_;show HT cx ⟨[(0,lV a0)],[],0⟩ _ _;refine av [oH] ⟨[(0,lV a0)],[],0⟩ hX aN ?_;refine av [oH] ⟨[(0,lV a0),(3,fV (0:Nat))],[],0⟩ hX aN ?_;refine HT.seq ?_;refine av (aI 3) ⟨[(3,fV (0:Nat)),(6,lV a0),(7,iV (af a0)),(8,iV (0:Int))],[],0⟩ hX aN ?_;refine HT.block ?_;obtain ⟨r2,Ym,hr⟩:=ae hr;refine HT.bX (fun (s1:Nat×Int)=>⟨[(3,fV s1.1),(6,lV a0),(7,iV (af a0)),(8,iV s1.2)],[],0⟩) (fun (r3:Nat)=>(.exit 0,⟨[(3,fV r3)],[],0⟩)) (Le.re [] [] hX (by kernel_rfl)) Ym ?_ (fun s1 x4 nE Rc=> ?_);refine (aK (ah ?_));refine av (aI 2) ⟨[(2,fV r2)],[],0⟩ hX aN ?_;have hr:=aa hr;subst hr;exact HT.ret (rO [fV r2] [] [] trivial);refine av [oH] ⟨[(3,fV s1.1),(6,lV a0),(7,iV (af a0)),(8,iV s1.2),(9,bV (decide (s1.2<(af a0))))],[],0⟩ hX aN ?_;refine HT.seq ?_;rcases ak nE with ⟨oA,nE⟩|⟨oA,nE⟩
 refine HT.aH rfl oA ?_;refine HT.skip (ah ?_);refine HT.seq ?_;refine HT.block ?_;obtain ⟨GG,nE⟩:=aj nE;refine av (aI 3) ⟨[(3,fV s1.1),(5,fV (List.getD a0 (Int.toNat s1.2) (0:Nat))),(6,lV a0),(7,iV (af a0)),(8,iV s1.2)],[],0⟩ hX (aC GG aN) ?_;refine HT.DP (aI 4) ⟨[(3,fV (aq .add .f32 s1.1 (List.getD a0 (Int.toNat s1.2) (0:Nat)))),(6,lV a0),(7,iV (af a0)),(8,iV s1.2)],[],0⟩ hX (by kernel_rfl) aN (bj (ah ?_));have nE:=aa nE;subst nE;exact HT.ct (aI 2) [] [] hX (by kernel_rfl) aN (fun _ h=>(bw ⟨((aq .add .f32 s1.1 (List.getD a0 (Int.toNat s1.2) (0:Nat))),(ai .i64 s1.2 (1:Int))),rfl,h⟩));refine HT.aE rfl oA ?_;have nE:=aa nE;subst nE;exact HT.bW (Le.re [] [] hX (by kernel_rfl)) (bm (bt (Rc s1.1 rfl)))
noncomputable def cm (a0:dW)(a1:List Int):Option (Nat):=
 (fJ (a0.1,a0.2.1,a0.2.2.1,a0.2.2.2.1,a0.2.2.2.2) a1).bind fun y1=>
 ao ((0:Int)≤(af a1)∧(af a1)<af y1) (
  (kN (List.getD y1 (Int.toNat (af a1)) ([]:List Nat))).bind fun y4=>
  some y4)
theorem zx {a0:dW}{a1:List Int}{r:Nat}(hr:cm a0 a1=some r):CallOK Try.prog 56 [.an tM a0,.an eo a1] [⟨false,tF,r⟩] []:=by
 unfold cm at hr;refine jh [(false,tF)] Try.func56 rfl [] fun cx hX hF=> ?_;show HT cx ⟨[(0,.agg [iC a0.1,iC a0.2.1,lC a0.2.2.1,lC a0.2.2.2.1,lC a0.2.2.2.2]),(1,nV a1)],[],0⟩ _ _;refine av (aI 2) ⟨[(1,nV a1),(2,pV 0 0)],[(0,aU a0)],1⟩ hX aN ?_;obtain ⟨y1,lQ,hr⟩:=ae hr;obtain ⟨PQ,hr⟩:=aj hr;obtain ⟨y4,uR,hr⟩:=ae hr;refine av [oH,oH,⟨none,.call [.an tM,.an eo] [⟨false,(.sl cb),y1⟩] []⟩,oH,oH,oH,oH,⟨none,.call [.an cb] [⟨false,tF,y4⟩] []⟩,oH] ⟨[(4,fV y4)],[],1⟩ hX (aC (Rf lQ) (aC PQ (aC (GU uR) aN))) ?_;have hr:=aa hr;subst hr;exact HT.ret (rO [fV y4] [] [] trivial)
noncomputable def dq (a0:Nat):Option (Nat):=
 bif (aW .f32 a0 (0:Nat)) then
  some (tE .f32 a0)
 else
  some a0
theorem zy {a0:Nat}{r:Nat}(hr:dq a0=some r):CallOK Try.prog 82 [.an tF a0] [⟨false,tF,r⟩] []:=by
 unfold dq at hr;refine jh [(false,tF)] Try.func82 rfl [] fun cx hX hF=> ?_;show HT cx ⟨[(0,fV a0)],[],0⟩ _ _;refine av [oH] ⟨[(0,fV a0)],[],0⟩ hX aN ?_;refine HT.seq ?_;refine av (aI 2) ⟨[(0,fV a0),(4,bV (aW .f32 a0 (0:Nat)))],[],0⟩ hX aN ?_;rcases ak hr with ⟨nA,hr⟩|⟨nA,hr⟩
 refine HT.aH rfl nA ?_;refine av (aI 3) ⟨[(2,fV (tE .f32 a0))],[],0⟩ hX aN ?_;have hr:=aa hr;subst hr;exact HT.ret (aQ (rO [fV (tE .f32 a0)] [] [] trivial));refine HT.aE rfl nA ?_;refine HT.skip (ah ?_);refine av (aI 2) ⟨[(2,fV a0)],[],0⟩ hX aN ?_;have hr:=aa hr;subst hr;exact HT.ret (rO [fV a0] [] [] trivial)
noncomputable def bf (a0:Int)(a1:Int)(a2:Int):Option (Bool):=
 (show Option (Bool) from
  bif (decide (a0≥a1)) then
   some (decide (a0≤a2))
  else
   some false).bind fun v1=>
 some v1
theorem e8 {a0:Int}{a1:Int}{a2:Int}{r:Bool}(hr:bf a0 a1 a2=some r):CallOK Try.prog 64 [.an tI a0,.an tI a1,.an tI a2] [⟨false,.bool,r⟩] []:=by
 unfold bf at hr;refine jh [(false,.bool)] Try.func64 rfl [] fun cx hX hF=> ?_;show HT cx ⟨[(0,iV a0),(1,iV a1),(2,iV a2)],[],0⟩ _ _;refine av [oH] ⟨[(0,iV a0),(1,iV a1),(2,iV a2)],[],0⟩ hX aN ?_;obtain ⟨oR,aX,hr⟩:=ae hr;refine HT.join (fun (v1:Bool)=>⟨[(6,bV v1)],[],0⟩) (fun v=>v=oR) (fun v1 mU=> ?_) (fun cont=> ?_);subst mU;have hr:=aa hr;subst hr;exact HT.ret (rO [bV v1] [] [] trivial);rcases ak aX with ⟨dS,aX⟩|⟨dS,aX⟩
 exact HT.ct [oH,oH,oH,oH,oT,oT,oT,vT,oH] [] [] hX (by kernel_rfl) (aC dS (aC dS (aC dS (aC dS aN)))) (fun _ h=>(ah (h.ht (cont (decide (a0≤a2)) (aa aX)))));exact HT.ct [oH,oH,oH,oH,oF,oF,oF,vF,oH] [] [] hX (by kernel_rfl) (aC dS (aC dS (aC dS (aC dS aN)))) (fun _ h=>(ah (h.ht (cont false (aa aX)))))
noncomputable def bH (a0:List Nat)(a1:Int)(a2:Int):Option (List Nat):=
 ao ((0:Int)≤(az .i64 a2 a1)∧(az .i64 a2 a1)≤(az .i64 (ai .i64 a2 (1:Int)) a1)∧(az .i64 (ai .i64 a2 (1:Int)) a1)≤(az .i64 (ai .i64 a2 (1:Int)) a1)∧(az .i64 (ai .i64 a2 (1:Int)) a1)≤af a0) (
  some (cut a0 (az .i64 a2 a1) (az .i64 (ai .i64 a2 (1:Int)) a1)))
theorem C9 {a0:List Nat}{a1:Int}{a2:Int}{r:List Nat}(hr:bH a0 a1 a2=some r):CallOK Try.prog 88 [.an cb a0,.an tI a1,.an tI a2] [⟨false,cb,r⟩] []:=by
 unfold bH at hr;refine jh [(false,cb)] Try.func88 rfl [] fun cx hX hF=> ?_;show HT cx ⟨[(0,lV a0),(1,iV a1),(2,iV a2)],[],0⟩ _ _;refine av [oH] ⟨[(0,lV a0),(1,iV a1),(2,iV a2)],[],0⟩ hX aN ?_;obtain ⟨xK,hr⟩:=aj hr;refine av (aI 14) ⟨[(6,lV (cut a0 (az .i64 a2 a1) (az .i64 (ai .i64 a2 (1:Int)) a1)))],[],0⟩ hX (aC xK aN) ?_;have hr:=aa hr;subst hr;exact HT.ret (rO [lV (cut a0 (az .i64 a2 a1) (az .i64 (ai .i64 a2 (1:Int)) a1))] [] [] trivial)
noncomputable def iy (a0:List Nat)(s1:Int):Option ((Int)⊕(Unit⊕Unit)):=
 bif (decide (s1<(af a0))) then
  ao ((0:Int)≤s1∧s1<af a0) (
   (show Option (Bool) from
    bif (sx .f32 (List.getD a0 (Int.toNat s1) (0:Nat)) (0:Nat)) then
     some (!(pO .f32 (List.getD a0 (Int.toNat s1) (0:Nat)) (1065353216:Nat)))
    else
     some true).bind fun Wv=>
   bif Wv then
    some (.inr (.inr ()))
   else
    some (.inl (ai .i64 s1 (1:Int))))
 else
  some (.inr (.inl ()))
noncomputable def iL (a0:List Nat):Option (Bool):=
 (rounds (iy a0) (0:Int)).bind fun r2=>match r2 with
  | .inl r3=>
   (kN a0).bind fun y4=>
   (dq (aq .sub .f32 y4 (1065353216:Nat))).bind fun y6=>
   some (pO .f32 y6 (981668463:Nat))
  | .inr r8=>
   some false
theorem Oh {a0:List Nat}{r:Bool}(hr:iL a0=some r):CallOK Try.prog 107 [.an cb a0] [⟨false,.bool,r⟩] []:=by
 unfold iL at hr;refine jh [(false,.bool)] Try.func107 rfl [] fun cx hX hF=> ?_;show HT cx ⟨[(0,lV a0)],[],0⟩ _ _;refine av [oH] ⟨[(0,lV a0)],[],0⟩ hX aN ?_;refine HT.seq ?_;refine av (aI 3) ⟨[(0,lV a0),(5,lV a0),(6,iV (af a0)),(7,iV (0:Int))],[],0⟩ hX aN ?_;refine HT.block ?_;obtain ⟨r2,Rh,hr⟩:=ae hr;refine HT.bX (fun (s1:Int)=>⟨[(0,lV a0),(5,lV a0),(6,iV (af a0)),(7,iV s1)],[],0⟩) (fun (r2:Unit⊕Unit)=>match r2 with| .inl r3=>(.exit 0,⟨[(0,lV a0)],[],0⟩)| .inr r8=>(.ret,⟨[(2,bV false)],[],0⟩)) (Le.re [] [] hX (by kernel_rfl)) Rh ?_ (fun s1 x9 cq vV=> ?_);rcases r2 with r3|r8
 refine (aK (ah ?_));obtain ⟨y4,uR,hr⟩:=ae hr;obtain ⟨y6,LB,hr⟩:=ae hr;refine av [oH,⟨none,.call [.an cb] [⟨false,tF,y4⟩] []⟩,oH,⟨none,.call [.an tF] [⟨false,tF,y6⟩] []⟩,oH,oH] ⟨[(2,bV (pO .f32 y6 (981668463:Nat)))],[],0⟩ hX (aC (GU uR) (aC (zy LB) aN)) ?_;have hr:=aa hr;subst hr;exact HT.ret (rO [bV (pO .f32 y6 (981668463:Nat))] [] [] trivial);have hr:=aa hr;subst hr;exact (bZ (aQ (rO [bV false] [] [] trivial)));refine av [oH] ⟨[(0,lV a0),(5,lV a0),(6,iV (af a0)),(7,iV s1),(8,bV (decide (s1<(af a0))))],[],0⟩ hX aN ?_;refine HT.seq ?_;rcases ak cq with ⟨dX,cq⟩|⟨dX,cq⟩
 refine HT.aH rfl dX ?_;refine HT.skip (ah ?_);refine HT.seq ?_;refine HT.block ?_;obtain ⟨qK,cq⟩:=aj cq;refine av (aI 3) ⟨[(0,lV a0),(4,fV (List.getD a0 (Int.toNat s1) (0:Nat))),(5,lV a0),(6,iV (af a0)),(7,iV s1)],[],0⟩ hX (aC qK aN) ?_;obtain ⟨Yn,LC,cq⟩:=ae cq;refine HT.join (fun (Wv:Bool)=>⟨[(0,lV a0),(5,lV a0),(6,iV (af a0)),(7,iV s1),(17,bV Wv)],[],0⟩) (fun v=>v=Yn) (fun Wv Yo=> ?_) (fun cont=> ?_);subst Yo;rcases ak cq with ⟨GV,cq⟩|⟨GV,cq⟩
 refine HT.aH rfl GV ?_;refine av [oH] ⟨[(2,bV false)],[],0⟩ hX aN ?_;have cq:=aa cq;subst cq;exact HT.te (Le.re [] [] hX (by kernel_rfl)) (bZ (aQ (jq (vV (.inr ()) rfl))));refine HT.aE rfl GV ?_;refine HT.skip (bj (ah ?_));have cq:=aa cq;subst cq;exact HT.ct (aI 2) [] [] hX (by kernel_rfl) aN (fun _ h=>(bw ⟨(ai .i64 s1 (1:Int)),rfl,h⟩));rcases ak LC with ⟨iX,LC⟩|⟨iX,LC⟩
 exact HT.ct [oH,oH,oH,oT,oT,vT,oH] [] [] hX (by kernel_rfl) (aC iX (aC iX (aC iX aN))) (fun _ h=>(ah (h.ht (cont (!(pO .f32 (List.getD a0 (Int.toNat s1) (0:Nat)) (1065353216:Nat))) (aa LC)))));exact HT.ct [oH,oH,oH,oF,oF,vF,oH] [] [] hX (by kernel_rfl) (aC iX (aC iX (aC iX aN))) (fun _ h=>(ah (h.ht (cont true (aa LC)))));refine HT.aE rfl dX ?_;have cq:=aa cq;subst cq;exact HT.bW (Le.re [] [] hX (by kernel_rfl)) (bm (bt (vV (.inl ()) rfl)))
noncomputable def ky (a0:List Nat)(a1:Int)(a2:Int)(s2:Int):Option ((Int)⊕(Unit⊕Unit)):=
 bif (decide (s2<a1)) then
  (bH a0 a2 s2).bind fun jd=>
  (iL jd).bind fun oI=>
  bif (!oI) then
   some (.inr (.inr ()))
  else
   some (.inl (ai .i64 s2 (1:Int)))
 else
  some (.inr (.inl ()))
noncomputable def iz (a0:List Nat)(a1:Int)(a2:Int):Option (Bool):=
 bif ((af a0) != (az .i64 a1 a2)) then
  some false
 else
  (rounds (ky a0 a1 a2) (0:Int)).bind fun r3=>match r3 with
   | .inl r4=>
    some true
   | .inr r5=>
    some false
theorem vW {a0:List Nat}{a1:Int}{a2:Int}{r:Bool}(hr:iz a0 a1 a2=some r):CallOK Try.prog 65 [.an cb a0,.an tI a1,.an tI a2] [⟨false,.bool,r⟩] []:=by
 unfold iz at hr;refine jh [(false,.bool)] Try.func65 rfl [] fun cx hX hF=> ?_;show HT cx ⟨[(0,lV a0),(1,iV a1),(2,iV a2)],[],0⟩ _ _;refine av [oH] ⟨[(0,lV a0),(1,iV a1),(2,iV a2)],[],0⟩ hX aN ?_;refine HT.seq ?_;refine av (aI 6) ⟨[(0,lV a0),(1,iV a1),(2,iV a2),(13,bV ((af a0) != (az .i64 a1 a2)))],[],0⟩ hX aN ?_;rcases ak hr with ⟨nA,hr⟩|⟨nA,hr⟩
 refine HT.aH rfl nA ?_;refine av [oH] ⟨[(6,bV false)],[],0⟩ hX aN ?_;have hr:=aa hr;subst hr;exact HT.ret (aQ (rO [bV false] [] [] trivial));refine HT.aE rfl nA ?_;refine HT.skip (ah ?_);refine HT.seq ?_;refine av (aI 2) ⟨[(0,lV a0),(2,iV a2),(14,iV a1),(15,iV (0:Int))],[],0⟩ hX aN ?_;refine HT.block ?_;obtain ⟨r3,C7,hr⟩:=ae hr;refine HT.bX (fun (s2:Int)=>⟨[(0,lV a0),(2,iV a2),(14,iV a1),(15,iV s2)],[],0⟩) (fun (r3:Unit⊕Unit)=>match r3 with| .inl r4=>(.exit 0,⟨[],[],0⟩)| .inr r5=>(.ret,⟨[(6,bV false)],[],0⟩)) (Le.re [] [] hX (by kernel_rfl)) C7 ?_ (fun s2 x6 ix Nt=> ?_);rcases r3 with r4|r5
 refine (aK (ah ?_));refine av [oH] ⟨[(6,bV true)],[],0⟩ hX aN ?_;have hr:=aa hr;subst hr;exact HT.ret (rO [bV true] [] [] trivial);have hr:=aa hr;subst hr;exact (bZ (aQ (rO [bV false] [] [] trivial)));refine av [oH] ⟨[(0,lV a0),(2,iV a2),(14,iV a1),(15,iV s2),(16,bV (decide (s2<a1)))],[],0⟩ hX aN ?_;refine HT.seq ?_;rcases ak ix with ⟨mi,ix⟩|⟨mi,ix⟩
 refine HT.aH rfl mi ?_;refine HT.skip (ah ?_);refine HT.seq ?_;refine HT.block ?_;refine av (aI 2) ⟨[(0,lV a0),(2,iV a2),(7,iV s2),(14,iV a1),(15,iV s2)],[],0⟩ hX aN ?_;obtain ⟨jd,rB,ix⟩:=ae ix;obtain ⟨oI,zw,ix⟩:=ae ix;refine av [oH,oH,oH,⟨none,.call [.an cb,.an tI,.an tI] [⟨false,cb,jd⟩] []⟩,⟨none,.call [.an cb] [⟨false,.bool,oI⟩] []⟩,oH] ⟨[(0,lV a0),(2,iV a2),(14,iV a1),(15,iV s2),(23,bV (!oI))],[],0⟩ hX (aC (C9 rB) (aC (Oh zw) aN)) ?_;rcases ak ix with ⟨mh,ix⟩|⟨mh,ix⟩
 refine HT.aH rfl mh ?_;refine av [oH] ⟨[(6,bV false)],[],0⟩ hX aN ?_;have ix:=aa ix;subst ix;exact HT.te (Le.re [] [] hX (by kernel_rfl)) (bZ (aQ (jq (Nt (.inr ()) rfl))));refine HT.aE rfl mh ?_;refine HT.skip (bj (ah ?_));have ix:=aa ix;subst ix;exact HT.ct (aI 2) [] [] hX (by kernel_rfl) aN (fun _ h=>(bw ⟨(ai .i64 s2 (1:Int)),rfl,h⟩));refine HT.aE rfl mi ?_;have ix:=aa ix;subst ix;exact HT.bW (Le.re [] [] hX (by kernel_rfl)) (bm (bt (Nt (.inl ()) rfl)))
noncomputable def cV (a0:dW):Option (Bool):=
 (show Option (Bool) from
  (bf a0.1 (1:Int) (5:Int)).bind fun y4=>
  bif y4 then
   (bf a0.2.1 (1:Int) (4:Int)).bind fun y7=>
   bif y7 then
    (iz a0.2.2.1 (1:Int) a0.1).bind fun jd=>
    bif jd then
     (iz a0.2.2.2.1 a0.1 a0.1).bind fun qo=>
     bif qo then
      (iz a0.2.2.2.2 a0.1 a0.2.1).bind fun kA=>
      some kA
     else
      some false
    else
     some false
   else
    some false
  else
   some false).bind fun v1=>
 some v1
theorem kO {a0:dW}{r:Bool}(hr:cV a0=some r):CallOK Try.prog 20 [.an tM a0] [⟨false,.bool,r⟩] []:=by
 unfold cV at hr;refine jh [(false,.bool)] Try.func20 rfl [] fun cx hX hF=> ?_;show HT cx ⟨[(0,.agg [iC a0.1,iC a0.2.1,lC a0.2.2.1,lC a0.2.2.2.1,lC a0.2.2.2.2])],[],0⟩ _ _;refine av (aI 2) ⟨[(1,pV 0 0)],[(0,aU a0)],1⟩ hX aN ?_;obtain ⟨oR,aX,hr⟩:=ae hr;refine HT.join (fun (v1:Bool)=>⟨[(2,bV v1)],[],0⟩) (fun v=>v=oR) (fun v1 mU=> ?_) (fun cont=> ?_);subst mU;have hr:=aa hr;subst hr;exact HT.ret (rO [bV v1] [] [] trivial);obtain ⟨y4,uR,aX⟩:=ae aX;rcases ak aX with ⟨i6,aX⟩|⟨i6,aX⟩
 obtain ⟨y7,GW,aX⟩:=ae aX;rcases ak aX with ⟨mi,aX⟩|⟨mi,aX⟩
 obtain ⟨jd,rB,aX⟩:=ae aX;rcases ak aX with ⟨dX,aX⟩|⟨dX,aX⟩
 obtain ⟨qo,EX,aX⟩:=ae aX;rcases ak aX with ⟨fI,aX⟩|⟨fI,aX⟩
 obtain ⟨kA,LD,aX⟩:=ae aX;exact HT.ct [oH,oH,⟨none,.call [.an tI,.an tI,.an tI] [⟨false,.bool,y4⟩] []⟩,oH,oT,oT,⟨some true,.call [.an tI,.an tI,.an tI] [⟨false,.bool,y7⟩] []⟩,vT,oH,oT,oT,oT,oT,⟨some true,.call [.an cb,.an tI,.an tI] [⟨false,.bool,jd⟩] []⟩,vT,oH,oT,oT,oT,oT,oT,oT,⟨some true,.call [.an cb,.an tI,.an tI] [⟨false,.bool,qo⟩] []⟩,vT,oH,oT,oT,oT,oT,oT,oT,⟨some true,.call [.an cb,.an tI,.an tI] [⟨false,.bool,kA⟩] []⟩,vT,oH] [] [] hX (by kernel_rfl) (aC (e8 uR) (aC i6 (aC i6 (aC i6 (aC (e8 GW) (aC i6 (aC mi (aC mi (aC mi (aC mi (aC mi (aC (vW rB) (aC mi (aC dX (aC dX (aC dX (aC dX (aC dX (aC dX (aC dX (aC (vW EX) (aC dX (aC fI (aC fI (aC fI (aC fI (aC fI (aC fI (aC fI (aC (vW LD) (aC fI aN))))))))))))))))))))))))))))))) (fun _ h=>(ah (h.ht (cont kA (aa aX)))));exact HT.ct [oH,oH,⟨none,.call [.an tI,.an tI,.an tI] [⟨false,.bool,y4⟩] []⟩,oH,oT,oT,⟨some true,.call [.an tI,.an tI,.an tI] [⟨false,.bool,y7⟩] []⟩,vT,oH,oT,oT,oT,oT,⟨some true,.call [.an cb,.an tI,.an tI] [⟨false,.bool,jd⟩] []⟩,vT,oH,oT,oT,oT,oT,oT,oT,⟨some true,.call [.an cb,.an tI,.an tI] [⟨false,.bool,qo⟩] []⟩,vT,oH,oF,oF,oF,oF,oF,oF,oF,vF,oH] [] [] hX (by kernel_rfl) (aC (e8 uR) (aC i6 (aC i6 (aC i6 (aC (e8 GW) (aC i6 (aC mi (aC mi (aC mi (aC mi (aC mi (aC (vW rB) (aC mi (aC dX (aC dX (aC dX (aC dX (aC dX (aC dX (aC dX (aC (vW EX) (aC dX (aC fI (aC fI (aC fI (aC fI (aC fI (aC fI (aC fI (aC fI aN)))))))))))))))))))))))))))))) (fun _ h=>(ah (h.ht (cont false (aa aX)))));exact HT.ct [oH,oH,⟨none,.call [.an tI,.an tI,.an tI] [⟨false,.bool,y4⟩] []⟩,oH,oT,oT,⟨some true,.call [.an tI,.an tI,.an tI] [⟨false,.bool,y7⟩] []⟩,vT,oH,oT,oT,oT,oT,⟨some true,.call [.an cb,.an tI,.an tI] [⟨false,.bool,jd⟩] []⟩,vT,oH,oF,oF,oF,oF,oF,oF,oF,vF,oH,oF,oF,oF,oF,oF,oF,oF,vF,oH] [] [] hX (by kernel_rfl) (aC (e8 uR) (aC i6 (aC i6 (aC i6 (aC (e8 GW) (aC i6 (aC mi (aC mi (aC mi (aC mi (aC mi (aC (vW rB) (aC mi (aC dX (aC dX (aC dX (aC dX (aC dX (aC dX (aC dX (aC dX (aF (aF (aF (aF (aF (aF (aF (aF aN))))))))))))))))))))))))))))) (fun _ h=>(ah (h.ht (cont false (aa aX)))));exact HT.ct [oH,oH,⟨none,.call [.an tI,.an tI,.an tI] [⟨false,.bool,y4⟩] []⟩,oH,oT,oT,⟨some true,.call [.an tI,.an tI,.an tI] [⟨false,.bool,y7⟩] []⟩,vT,oH,oF,oF,oF,oF,oF,vF,oH,oF,oF,oF,oF,oF,oF,oF,vF,oH,oF,oF,oF,oF,oF,oF,oF,vF,oH] [] [] hX (by kernel_rfl) (aC (e8 uR) (aC i6 (aC i6 (aC i6 (aC (e8 GW) (aC i6 (aC mi (aC mi (aC mi (aC mi (aC mi (aC mi (aF (aF (aF (aF (aF (aF (aF (aF (aF (aF (aF (aF (aF (aF (aF (aF aN)))))))))))))))))))))))))))) (fun _ h=>(ah (h.ht (cont false (aa aX)))));exact HT.ct [oH,oH,⟨none,.call [.an tI,.an tI,.an tI] [⟨false,.bool,y4⟩] []⟩,oH,oF,oF,oF,vF,oH,oF,oF,oF,oF,oF,vF,oH,oF,oF,oF,oF,oF,oF,oF,vF,oH,oF,oF,oF,oF,oF,oF,oF,vF,oH] [] [] hX (by kernel_rfl) (aC (e8 uR) (aC i6 (aC i6 (aC i6 (aC i6 (aF (aF (aF (aF (aF (aF (aF (aF (aF (aF (aF (aF (aF (aF (aF (aF (aF (aF (aF (aF (aF (aF aN))))))))))))))))))))))))))) (fun _ h=>(ah (h.ht (cont false (aa aX)))))
noncomputable def iq (a0:dW)(a1:dW):Option (Bool):=
 (show Option (Bool) from
  (cV (a0.1,a0.2.1,a0.2.2.1,a0.2.2.2.1,a0.2.2.2.2)).bind fun y4=>
  bif y4 then
   (cV (a1.1,a1.2.1,a1.2.2.1,a1.2.2.2.1,a1.2.2.2.2)).bind fun y7=>
   bif y7 then
    some (a0.2.1==a1.2.1)
   else
    some false
  else
   some false).bind fun v1=>
 some v1
theorem vX {a0:dW}{a1:dW}{r:Bool}(hr:iq a0 a1=some r):CallOK Try.prog 80 [.an tM a0,.an tM a1] [⟨false,.bool,r⟩] []:=by
 unfold iq at hr;refine jh [(false,.bool)] Try.func80 rfl [] fun cx hX hF=> ?_;show HT cx ⟨[(0,.agg [iC a0.1,iC a0.2.1,lC a0.2.2.1,lC a0.2.2.2.1,lC a0.2.2.2.2]),(1,.agg [iC a1.1,iC a1.2.1,lC a1.2.2.1,lC a1.2.2.2.1,lC a1.2.2.2.2])],[],0⟩ _ _;refine av (aI 3) ⟨[(2,pV 0 0),(3,pV 1 0)],[(1,aU a1),(0,aU a0)],2⟩ hX aN ?_;obtain ⟨oR,aX,hr⟩:=ae hr;refine HT.join (fun (v1:Bool)=>⟨[(4,bV v1)],[],0⟩) (fun v=>v=oR) (fun v1 mU=> ?_) (fun cont=> ?_);subst mU;have hr:=aa hr;subst hr;exact HT.ret (rO [bV v1] [] [] trivial);obtain ⟨y4,uR,aX⟩:=ae aX;rcases ak aX with ⟨i6,aX⟩|⟨i6,aX⟩
 obtain ⟨y7,GW,aX⟩:=ae aX;rcases ak aX with ⟨mi,aX⟩|⟨mi,aX⟩
 exact HT.ct [oH,⟨none,.call [.an tM] [⟨false,.bool,y4⟩] []⟩,oH,oT,⟨some true,.call [.an tM] [⟨false,.bool,y7⟩] []⟩,vT,oH,oT,oT,oT,oT,oT,vT,oH] [] [] hX (by kernel_rfl) (aC (kO uR) (aC i6 (aC i6 (aC (kO GW) (aC i6 (aC mi (aC mi (aC mi (aC mi (aC mi (aC mi aN))))))))))) (fun _ h=>(ah (h.ht (cont (a0.2.1==a1.2.1) (aa aX)))));exact HT.ct [oH,⟨none,.call [.an tM] [⟨false,.bool,y4⟩] []⟩,oH,oT,⟨some true,.call [.an tM] [⟨false,.bool,y7⟩] []⟩,vT,oH,oF,oF,oF,oF,oF,vF,oH] [] [] hX (by kernel_rfl) (aC (kO uR) (aC i6 (aC i6 (aC (kO GW) (aC i6 (aC mi (aC mi (aC mi (aC mi (aC mi (aC mi aN))))))))))) (fun _ h=>(ah (h.ht (cont false (aa aX)))));exact HT.ct [oH,⟨none,.call [.an tM] [⟨false,.bool,y4⟩] []⟩,oH,oF,oF,vF,oH,oF,oF,oF,oF,oF,vF,oH] [] [] hX (by kernel_rfl) (aC (kO uR) (aC i6 (aC i6 (aC i6 (aF (aF (aF (aF (aF (aF aN)))))))))) (fun _ h=>(ah (h.ht (cont false (aa aX)))))
noncomputable def dR (a0:dW)(a1:dW)(y5:List (List Int))(s7:Nat×Int):Option ((Nat×Int)⊕(Nat)):=
 bif (decide (s7.2<(af y5))) then
  ao ((0:Int)≤s7.2∧s7.2<af y5) (
   (cm (a0.1,a0.2.1,a0.2.2.1,a0.2.2.2.1,a0.2.2.2.2) (List.getD y5 (Int.toNat s7.2) ([]:List Int))).bind fun pA=>
   (cm (a1.1,a1.2.1,a1.2.2.1,a1.2.2.2.1,a1.2.2.2.2) (List.getD y5 (Int.toNat s7.2) ([]:List Int))).bind fun Da=>
   (dq (aq .sub .f32 pA Da)).bind fun UF=>
   some (.inl ((aq .add .f32 s7.1 UF),(ai .i64 s7.2 (1:Int)))))
 else
  some (.inr s7.1)
noncomputable def dC (a0:dW)(a1:dW)(a2:Int):Option (Nat×Bool):=
 (show Option (Bool) from
  (iq (a0.1,a0.2.1,a0.2.2.1,a0.2.2.2.1,a0.2.2.2.2) (a1.1,a1.2.1,a1.2.2.1,a1.2.2.2.1,a1.2.2.2.2)).bind fun A9=>
  bif (!A9) then
   some true
  else
   (bf a2 (0:Int) (4:Int)).bind fun Ww=>
   some (!Ww)).bind fun v1=>
 bif v1 then
  some ((0:Nat),false)
 else
  (iw a0.2.1 a2).bind fun y5=>
  (rounds (dR a0 a1 y5) ((0:Nat),(0:Int))).bind fun r9=>
  (bT (aq .quo .f32 r9 (1073741824:Nat))).bind fun jd=>
  some (jd.1,jd.2)
theorem LF {a0:dW}{a1:dW}{a2:Int}{r:Nat×Bool}(hr:dC a0 a1 a2=some r):CallOK Try.prog 34 [.an tM a0,.an tM a1,.an tI a2] [⟨false,tF,r.1⟩,⟨false,.bool,r.2⟩] []:=by
 unfold dC at hr;refine jh [(false,tF),(false,.bool)] Try.func34 rfl [] fun cx hX hF=> ?_;show HT cx ⟨[(0,.agg [iC a0.1,iC a0.2.1,lC a0.2.2.1,lC a0.2.2.2.1,lC a0.2.2.2.2]),(1,.agg [iC a1.1,iC a1.2.1,lC a1.2.2.1,lC a1.2.2.2.1,lC a1.2.2.2.2]),(2,iV a2)],[],0⟩ _ _;refine av (aI 4) ⟨[(2,iV a2),(3,pV 0 0),(4,pV 1 0)],[(1,aU a1),(0,aU a0)],2⟩ hX aN ?_;refine HT.seq ?_;obtain ⟨oR,aX,hr⟩:=ae hr;refine HT.join (fun (v1:Bool)=>⟨[(2,iV a2),(3,pV 0 0),(4,pV 1 0),(19,bV v1)],[(0,aU a0),(1,aU a1)],2⟩) (fun v=>v=oR) (fun v1 mU=> ?_) (fun cont=> ?_);subst mU;rcases ak hr with ⟨dS,hr⟩|⟨dS,hr⟩
 refine HT.aH rfl dS ?_;refine av (aI 2) ⟨[(6,fV (0:Nat)),(7,bV false)],[],2⟩ hX aN ?_;have hr:=aa hr;subst hr;exact HT.ret (aQ (rO [fV (0:Nat),bV false] [] [] trivial));refine HT.aE rfl dS ?_;refine HT.skip (ah ?_);refine av [oH] ⟨[(2,iV a2),(3,pV 0 0),(4,pV 1 0),(8,fV (0:Nat))],[(0,aU a0),(1,aU a1)],2⟩ hX aN ?_;refine HT.seq ?_;obtain ⟨y5,Jv,hr⟩:=ae hr;refine av [oH,oH,oH,⟨none,.call [.an tI,.an tI] [⟨false,(.sl eo),y5⟩] []⟩,oH,oH] ⟨[(3,pV 0 0),(4,pV 1 0),(8,fV (0:Nat)),(23,.one (.aw (.sl eo) y5)),(24,iV (af y5)),(25,iV (0:Int))],[(0,aU a0),(1,aU a1)],2⟩ hX (aC (Lv Jv) aN) ?_;refine HT.block ?_;obtain ⟨r8,GQ,hr⟩:=ae hr;refine HT.bX (fun (s7:Nat×Int)=>⟨[(3,pV 0 0),(4,pV 1 0),(8,fV s7.1),(23,.one (.aw (.sl eo) y5)),(24,iV (af y5)),(25,iV s7.2)],[(0,aU a0),(1,aU a1)],2⟩) (fun (r9:Nat)=>(.exit 0,⟨[(8,fV r9)],[],0⟩)) (Le.re [(0,0),(1,1)] [] hX (by kernel_rfl)) GQ ?_ (fun s7 Yl cM GR=> ?_);refine (aK (ah ?_));obtain ⟨jd,rB,hr⟩:=ae hr;refine av [oH,oH,⟨none,.call [.an tF] [⟨false,tF,jd.1⟩,⟨false,.bool,jd.2⟩] []⟩,oH,oH,oH,oH] ⟨[(6,fV jd.1),(7,bV jd.2)],[],0⟩ hX (aC (zv rB) aN) ?_;have hr:=aa hr;subst hr;exact HT.ret (rO [fV jd.1,bV jd.2] [] [] trivial);refine av [oH] ⟨[(3,pV 0 0),(4,pV 1 0),(8,fV s7.1),(23,.one (.aw (.sl eo) y5)),(24,iV (af y5)),(25,iV s7.2),(26,bV (decide (s7.2<(af y5))))],[(0,aU a0),(1,aU a1)],2⟩ hX aN ?_;refine HT.seq ?_;rcases ak cM with ⟨fI,cM⟩|⟨fI,cM⟩
 refine HT.aH rfl fI ?_;refine HT.skip (ah ?_);refine HT.seq ?_;refine HT.block ?_;obtain ⟨A5,cM⟩:=aj cM;refine av (aI 3) ⟨[(3,pV 0 0),(4,pV 1 0),(8,fV s7.1),(10,nV (List.getD y5 (Int.toNat s7.2) ([]:List Int))),(23,.one (.aw (.sl eo) y5)),(24,iV (af y5)),(25,iV s7.2)],[(0,aU a0),(1,aU a1)],2⟩ hX (aC A5 aN) ?_;obtain ⟨pA,GJ,cM⟩:=ae cM;obtain ⟨Da,LG,cM⟩:=ae cM;obtain ⟨UF,Yp,cM⟩:=ae cM;refine HT.DQ 9 [o0,o0,o0,⟨⟨none,.call [.an tM,.an eo] [⟨false,tF,pA⟩] []⟩,[1,2]⟩,o0,o0,⟨⟨none,.call [.an tM,.an eo] [⟨false,tF,Da⟩] []⟩,[1,2,3,4,5]⟩,⟨oH,[1,2,3,4,5,6]⟩,⟨⟨none,.call [.an tF] [⟨false,tF,UF⟩] []⟩,[1,2,3,4,5,6,7]⟩] [(rL 9),(rL 10)] (aI 2) ⟨[(3,pV 0 0),(4,pV 1 0),(8,fV (aq .add .f32 s7.1 UF)),(23,.one (.aw (.sl eo) y5)),(24,iV (af y5)),(25,iV s7.2)],[(0,aU a0),(1,aU a1)],2⟩ hX (by kernel_rfl) (by kernel_rfl) (aC (zx GJ) (aC (zx LG) (aC (zy Yp) aN))) (bj (ah ?_));have cM:=aa cM;subst cM;exact HT.ct (aI 2) [(0,0),(1,1)] [] hX (by kernel_rfl) aN (fun _ h=>(bw ⟨((aq .add .f32 s7.1 UF),(ai .i64 s7.2 (1:Int))),rfl,h⟩));refine HT.aE rfl fI ?_;have cM:=aa cM;subst cM;exact HT.bW (Le.re [] [] hX (by kernel_rfl)) (bm (bt (GR s7.1 rfl)));obtain ⟨A9,EY,aX⟩:=ae aX;rcases ak aX with ⟨vY,aX⟩|⟨vY,aX⟩
 exact HT.ct [oH,oH,⟨none,.call [.an tM,.an tM] [⟨false,.bool,A9⟩] []⟩,oH,oH,oT,oT,oT,vT] [(0,0),(1,1)] [] hX (by kernel_rfl) (aC (vX EY) (aC vY (aC vY (aC vY (aC vY aN))))) (fun _ h=>(ah (h.ht (cont true (aa aX)))));obtain ⟨Ww,Yq,aX⟩:=ae aX;exact HT.ct [oH,oH,⟨none,.call [.an tM,.an tM] [⟨false,.bool,A9⟩] []⟩,oH,oH,oF,⟨some false,.call [.an tI,.an tI,.an tI] [⟨false,.bool,Ww⟩] []⟩,oF,vF] [(0,0),(1,1)] [] hX (by kernel_rfl) (aC (vX EY) (aC vY (aC vY (aC (e8 Yq) (aC vY (aC vY aN)))))) (fun _ h=>(ah (h.ht (cont (!Ww) (aa aX)))))
noncomputable def zA (a0:Int):Option (Nat):=
 (show Option (Int) from
  bif (decide (a0≥(0:Int))) then
   some (9218868437227405312:Int)
  else
   some (18442240474082181120:Int)).bind fun v1=>
 none
theorem Oi {a0:Int}{r:Nat}(hr:zA a0=some r):CallOK Try.prog 104 [.an tI a0] [⟨false,(.aW .f64),r⟩] []:=by
 unfold zA at hr;refine jh [(false,(.aW .f64))] Try.func104 rfl [] fun cx hX hF=> ?_;show HT cx ⟨[(0,iV a0)],[],0⟩ _ _;refine av [oH] ⟨[(0,iV a0)],[],0⟩ hX aN ?_;refine av [oH] ⟨[(0,iV a0)],[],0⟩ hX aN ?_;obtain ⟨oR,aX,hr⟩:=ae hr;refine HT.join (fun (v1:Int)=>⟨[(3,.one (.aw (.int .u64) v1))],[],0⟩) (fun v=>v=oR) (fun v1 mU=> ?_) (fun cont=> ?_);subst mU;cases hr;refine av (aI 2) ⟨[(5,bV (decide (a0≥(0:Int))))],[],0⟩ hX aN ?_;rcases ak aX with ⟨dS,aX⟩|⟨dS,aX⟩
 refine HT.aH rfl dS ?_;exact HT.ct [oH] [] [] hX (by kernel_rfl) aN (fun _ h=>(ah (h.ht (cont (9218868437227405312:Int) (aa aX)))));refine HT.aE rfl dS ?_;exact HT.ct [oH] [] [] hX (by kernel_rfl) aN (fun _ h=>(ah (h.ht (cont (18442240474082181120:Int) (aa aX)))))
noncomputable def zB:Option (Nat):=
 none
theorem Oj {r:Nat}(hr:zB=some r):CallOK Try.prog 105 [] [⟨false,(.aW .f64),r⟩] []:=by
 unfold zB at hr;refine jh [(false,(.aW .f64))] Try.func105 rfl [] fun cx hX hF=> ?_;show HT cx ⟨[],[],0⟩ _ _;refine av [oH] ⟨[],[],0⟩ hX aN ?_;cases hr
noncomputable def ep (q7:Nat)(s9:Nat×Nat):Option ((Nat×Nat)⊕(Nat)):=
 bif (sx .f64 s9.2 (4607182418800017408:Nat)) then
  some (.inl ((aq .add .f64 (aq .quo .f64 (4607182418800017408:Nat) s9.2) (aq .mul .f64 (aq .mul .f64 q7 q7) s9.1)),(aq .sub .f64 s9.2 (4611686018427387904:Nat))))
 else
  some (.inr s9.1)
noncomputable def dx (s4:Nat×Nat):Option ((Nat×Nat)⊕((Nat×Nat))):=
 bif (aW .f64 s4.1 (4604930618986332160:Nat)) then
  some (.inl ((aq .mul .f64 s4.1 (4611686018427387904:Nat)),(aq .sub .f64 s4.2 (4607182418800017408:Nat))))
 else
  some (.inr (s4.1,s4.2))
noncomputable def iA (s1:Nat×Nat):Option ((Nat×Nat)⊕((Nat×Nat))):=
 bif (sx .f64 s1.1 (4609434218613702656:Nat)) then
  some (.inl ((aq .quo .f64 s1.1 (4611686018427387904:Nat)),(aq .add .f64 s1.2 (4607182418800017408:Nat))))
 else
  some (.inr (s1.1,s1.2))
noncomputable def iM (a0:Nat):Option (Nat):=
 (rounds (iA) (a0,(0:Nat))).bind fun r3=>
 (rounds (dx) (r3.1,r3.2)).bind fun r6=>
 (some (aq .quo .f64 (aq .sub .f64 r6.1 (4607182418800017408:Nat)) (aq .add .f64 r6.1 (4607182418800017408:Nat)))).bind fun q7=>
 (rounds (ep q7) ((0:Nat),(4627730092099895296:Nat))).bind fun A6=>
 (some (aq .add .f64 (aq .mul .f64 (4611686018427387904:Nat) (aq .mul .f64 q7 A6)) (aq .mul .f64 r6.2 (4604418534313441775:Nat)))).bind fun UG=>
 some UG
theorem Ok {a0:Nat}{r:Nat}(hr:iM a0=some r):CallOK Try.prog 106 [.an (.aW .f64) a0] [⟨false,(.aW .f64),r⟩] []:=by
 unfold iM at hr;refine jh [(false,(.aW .f64))] Try.func106 rfl [] fun cx hX hF=> ?_;show HT cx ⟨[(0,.one (.aw (.aW .f64) a0))],[],0⟩ _ _;refine av [oH] ⟨[(0,.one (.aw (.aW .f64) a0))],[],0⟩ hX aN ?_;refine av [oH] ⟨[(0,.one (.aw (.aW .f64) a0)),(3,.one (.aw (.aW .f64) (0:Nat)))],[],0⟩ hX aN ?_;refine HT.seq ?_;refine HT.block ?_;obtain ⟨r2,Lx,hr⟩:=ae hr;refine HT.bX (fun (s1:Nat×Nat)=>⟨[(0,.one (.aw (.aW .f64) s1.1)),(3,.one (.aw (.aW .f64) s1.2))],[],0⟩) (fun (r3:(Nat×Nat))=>(.exit 0,⟨[(0,.one (.aw (.aW .f64) r3.1)),(3,.one (.aw (.aW .f64) r3.2))],[],0⟩)) (Le.re [] [] hX (by kernel_rfl)) Lx ?_ (fun s1 x24 Db Yr=> ?_);refine (aK (ah ?_));refine HT.seq ?_;refine HT.block ?_;obtain ⟨r5,GQ,hr⟩:=ae hr;refine HT.bX (fun (s4:Nat×Nat)=>⟨[(0,.one (.aw (.aW .f64) s4.1)),(3,.one (.aw (.aW .f64) s4.2))],[],0⟩) (fun (r6:(Nat×Nat))=>(.exit 2,⟨[(0,.one (.aw (.aW .f64) r6.1)),(3,.one (.aw (.aW .f64) r6.2))],[],0⟩)) (Le.re [] [] hX (by kernel_rfl)) GQ ?_ (fun s4 x19 gi Lz=> ?_);refine (aK (ah ?_));refine av (aI 6) ⟨[(3,.one (.aw (.aW .f64) r5.2)),(4,.one (.aw (.aW .f64) (aq .quo .f64 (aq .sub .f64 r5.1 (4607182418800017408:Nat)) (aq .add .f64 r5.1 (4607182418800017408:Nat)))))],[],0⟩ hX aN ?_;obtain ⟨q7,Ri,hr⟩:=ae hr;have Ri:=cl Ri;refine (Le.cv (s:=⟨[],[],[],false⟩) (own:=[]) (ps:=[r5.2=r5.2,q7=(aq .quo .f64 (aq .sub .f64 r5.1 (4607182418800017408:Nat)) (aq .add .f64 r5.1 (4607182418800017408:Nat)))]) (st':=⟨[(3,.one (.aw (.aW .f64) r5.2)),(4,.one (.aw (.aW .f64) q7))],[],0⟩) hX.own (fun h=>by cases h) (by kernel_rfl) ⟨rfl,Ri,trivial⟩).ht ?_;refine av (aI 4) ⟨[(3,.one (.aw (.aW .f64) r5.2)),(4,.one (.aw (.aW .f64) q7)),(5,.one (.aw (.aW .f64) (aq .mul .f64 q7 q7)))],[],0⟩ hX aN ?_;refine av [oH] ⟨[(3,.one (.aw (.aW .f64) r5.2)),(4,.one (.aw (.aW .f64) q7)),(5,.one (.aw (.aW .f64) (aq .mul .f64 q7 q7))),(6,.one (.aw (.aW .f64) (0:Nat)))],[],0⟩ hX aN ?_;refine HT.seq ?_;refine av [oH] ⟨[(3,.one (.aw (.aW .f64) r5.2)),(4,.one (.aw (.aW .f64) q7)),(5,.one (.aw (.aW .f64) (aq .mul .f64 q7 q7))),(6,.one (.aw (.aW .f64) (0:Nat))),(7,.one (.aw (.aW .f64) (4627730092099895296:Nat)))],[],0⟩ hX aN ?_;refine HT.block ?_;obtain ⟨qn,Ys,hr⟩:=ae hr;refine HT.bX (fun (s9:Nat×Nat)=>⟨[(3,.one (.aw (.aW .f64) r5.2)),(4,.one (.aw (.aW .f64) q7)),(5,.one (.aw (.aW .f64) (aq .mul .f64 q7 q7))),(6,.one (.aw (.aW .f64) s9.1)),(7,.one (.aw (.aW .f64) s9.2))],[],0⟩) (fun (A6:Nat)=>(.exit 4,⟨[(3,.one (.aw (.aW .f64) r5.2)),(4,.one (.aw (.aW .f64) q7)),(6,.one (.aw (.aW .f64) A6))],[],0⟩)) (Le.re [] [] hX (by kernel_rfl)) Ys ?_ (fun s9 x14 Dc Yt=> ?_);refine (aK (ah ?_));refine av (aI 8) ⟨[(2,.one (.aw (.aW .f64) (aq .add .f64 (aq .mul .f64 (4611686018427387904:Nat) (aq .mul .f64 q7 qn)) (aq .mul .f64 r5.2 (4604418534313441775:Nat)))))],[],0⟩ hX aN ?_;obtain ⟨UG,Rj,hr⟩:=ae hr;have Rj:=cl Rj;refine (Le.cv (s:=⟨[],[],[],false⟩) (own:=[]) (ps:=[UG=(aq .add .f64 (aq .mul .f64 (4611686018427387904:Nat) (aq .mul .f64 q7 qn)) (aq .mul .f64 r5.2 (4604418534313441775:Nat)))]) (st':=⟨[(2,.one (.aw (.aW .f64) UG))],[],0⟩) hX.own (fun h=>by cases h) (by kernel_rfl) ⟨Rj,trivial⟩).ht ?_;have hr:=aa hr;subst hr;exact HT.ret (rO [.one (.aw (.aW .f64) UG)] [] [] trivial);refine HT.seq ?_;refine av (aI 2) ⟨[(3,.one (.aw (.aW .f64) r5.2)),(4,.one (.aw (.aW .f64) q7)),(5,.one (.aw (.aW .f64) (aq .mul .f64 q7 q7))),(6,.one (.aw (.aW .f64) s9.1)),(7,.one (.aw (.aW .f64) s9.2)),(29,bV (sx .f64 s9.2 (4607182418800017408:Nat)))],[],0⟩ hX aN ?_;rcases ak Dc with ⟨GV,Dc⟩|⟨GV,Dc⟩
 refine HT.aH rfl GV ?_;refine HT.skip (ah ?_);refine HT.seq ?_;refine HT.block ?_;refine HT.DP (aI 7) ⟨[(3,.one (.aw (.aW .f64) r5.2)),(4,.one (.aw (.aW .f64) q7)),(5,.one (.aw (.aW .f64) (aq .mul .f64 q7 q7))),(6,.one (.aw (.aW .f64) (aq .add .f64 (aq .quo .f64 (4607182418800017408:Nat) s9.2) (aq .mul .f64 (aq .mul .f64 q7 q7) s9.1)))),(7,.one (.aw (.aW .f64) s9.2))],[],0⟩ hX (by kernel_rfl) aN (bj (ah ?_));have Dc:=aa Dc;subst Dc;exact HT.ct (aI 3) [] [] hX (by kernel_rfl) aN (fun _ h=>(bw ⟨((aq .add .f64 (aq .quo .f64 (4607182418800017408:Nat) s9.2) (aq .mul .f64 (aq .mul .f64 q7 q7) s9.1)),(aq .sub .f64 s9.2 (4611686018427387904:Nat))),rfl,h⟩));refine HT.aE rfl GV ?_;have Dc:=aa Dc;subst Dc;exact HT.bW (Le.re [] [] hX (by kernel_rfl)) (bm (bt (Yt s9.1 rfl)));refine HT.seq ?_;refine av (aI 2) ⟨[(0,.one (.aw (.aW .f64) s4.1)),(3,.one (.aw (.aW .f64) s4.2)),(15,bV (aW .f64 s4.1 (4604930618986332160:Nat)))],[],0⟩ hX aN ?_;rcases ak gi with ⟨og,gi⟩|⟨og,gi⟩
 refine HT.aH rfl og ?_;refine HT.skip (ah ?_);refine HT.block ?_;refine av (aI 3) ⟨[(0,.one (.aw (.aW .f64) (aq .mul .f64 s4.1 (4611686018427387904:Nat)))),(3,.one (.aw (.aW .f64) s4.2))],[],0⟩ hX aN ?_;have gi:=aa gi;subst gi;exact HT.ct (aI 3) [] [] hX (by kernel_rfl) aN (fun _ h=>(bj (bw ⟨((aq .mul .f64 s4.1 (4611686018427387904:Nat)),(aq .sub .f64 s4.2 (4607182418800017408:Nat))),rfl,h⟩)));refine HT.aE rfl og ?_;have gi:=aa gi;subst gi;exact HT.bW (Le.re [] [] hX (by kernel_rfl)) (bm (bt (Lz (s4.1,s4.2) rfl)));refine HT.seq ?_;refine av (aI 2) ⟨[(0,.one (.aw (.aW .f64) s1.1)),(3,.one (.aw (.aW .f64) s1.2)),(9,bV (sx .f64 s1.1 (4609434218613702656:Nat)))],[],0⟩ hX aN ?_;rcases ak Db with ⟨fK,Db⟩|⟨fK,Db⟩
 refine HT.aH rfl fK ?_;refine HT.skip (ah ?_);refine HT.block ?_;refine av (aI 3) ⟨[(0,.one (.aw (.aW .f64) (aq .quo .f64 s1.1 (4611686018427387904:Nat)))),(3,.one (.aw (.aW .f64) s1.2))],[],0⟩ hX aN ?_;have Db:=aa Db;subst Db;exact HT.ct (aI 3) [] [] hX (by kernel_rfl) aN (fun _ h=>(bj (bw ⟨((aq .quo .f64 s1.1 (4611686018427387904:Nat)),(aq .add .f64 s1.2 (4607182418800017408:Nat))),rfl,h⟩)));refine HT.aE rfl fK ?_;have Db:=aa Db;subst Db;exact HT.bW (Le.re [] [] hX (by kernel_rfl)) (bm (bt (Yr (s1.1,s1.2) rfl)))
noncomputable def eI (a0:Nat):Option (Nat):=
 bif (tg .f32 a0 (0:Nat)) then
  (zA (-1:Int)).bind fun y2=>
  ao (ck .f64 .f32 y2=true) (
   some (aS .f64 .f32 y2))
 else
  (show Option (Bool) from
   bif (aW .f32 a0 (0:Nat)) then
    some true
   else
    some (!(tg .f32 a0 a0))).bind fun v5=>
  bif v5 then
   (zB).bind fun y9=>
   ao (ck .f64 .f32 y9=true) (
    some (aS .f64 .f32 y9))
  else
   (bS a0).bind fun oI=>
   bif (!oI) then
    some a0
   else
    (iM (aS .f32 .f64 a0)).bind fun Th=>
    ao (ck .f64 .f32 Th=true) (
     some (aS .f64 .f32 Th))
theorem LH {a0:Nat}{r:Nat}(hr:eI a0=some r):CallOK Try.prog 60 [.an tF a0] [⟨false,tF,r⟩] []:=by
 unfold eI at hr;refine jh [(false,tF)] Try.func60 rfl [] fun cx hX hF=> ?_;show HT cx ⟨[(0,fV a0)],[],0⟩ _ _;refine av [oH] ⟨[(0,fV a0)],[],0⟩ hX aN ?_;refine HT.seq ?_;refine HT.block ?_;refine av (aI 3) ⟨[(0,fV a0),(3,bV (tg .f32 a0 (0:Nat)))],[],0⟩ hX aN ?_;rcases ak hr with ⟨nA,hr⟩|⟨nA,hr⟩
 refine HT.aH rfl nA ?_;obtain ⟨y2,UB,hr⟩:=ae hr;obtain ⟨Oe,hr⟩:=aj hr;refine av [⟨none,.call [.an tI] [⟨false,(.aW .f64),y2⟩] []⟩,oH,oH] ⟨[(2,fV (aS .f64 .f32 y2))],[],0⟩ hX (aC (Oi UB) (aC Oe aN)) ?_;have hr:=aa hr;subst hr;exact HT.ret (bZ (aQ (rO [fV (aS .f64 .f32 y2)] [] [] trivial)));refine HT.aE rfl nA ?_;obtain ⟨v5',UH,hr⟩:=ae hr;refine HT.join (fun (v5:Bool)=>⟨[(0,fV a0),(8,bV v5)],[],0⟩) (fun v=>v=v5') (fun v5 hv6=> ?_) (fun cont=> ?_);subst hv6;rcases ak hr with ⟨od,hr⟩|⟨od,hr⟩
 refine HT.aH rfl od ?_;obtain ⟨y9,Ju,hr⟩:=ae hr;obtain ⟨vR,hr⟩:=aj hr;refine av [⟨none,.call [] [⟨false,(.aW .f64),y9⟩] []⟩,oH,oH] ⟨[(2,fV (aS .f64 .f32 y9))],[],0⟩ hX (aC (Oj Ju) (aC vR aN)) ?_;have hr:=aa hr;subst hr;exact HT.ret (bZ (aQ (rO [fV (aS .f64 .f32 y9)] [] [] trivial)));refine HT.aE rfl od ?_;obtain ⟨oI,zw,hr⟩:=ae hr;refine av [oH,⟨none,.call [.an tF] [⟨false,.bool,oI⟩] []⟩,oH,oH] ⟨[(0,fV a0),(18,bV (!oI))],[],0⟩ hX (aC (vU zw) aN) ?_;rcases ak hr with ⟨mh,hr⟩|⟨mh,hr⟩
 refine HT.aH rfl mh ?_;refine av (aI 2) ⟨[(2,fV a0)],[],0⟩ hX aN ?_;have hr:=aa hr;subst hr;exact HT.ret (bZ (aQ (rO [fV a0] [] [] trivial)));refine HT.aE rfl mh ?_;refine HT.skip (bj (ah ?_));obtain ⟨Th,Yu,hr⟩:=ae hr;obtain ⟨EW,hr⟩:=aj hr;refine av [oH,oH,⟨none,.call [.an (.aW .f64)] [⟨false,(.aW .f64),Th⟩] []⟩,oH,oH] ⟨[(2,fV (aS .f64 .f32 Th))],[],0⟩ hX (aC (show ck .f32 .f64 a0=true from (db _)) (aC (Ok Yu) (aC EW aN))) ?_;have hr:=aa hr;subst hr;exact HT.ret (rO [fV (aS .f64 .f32 Th)] [] [] trivial);rcases ak UH with ⟨iX,UH⟩|⟨iX,UH⟩
 exact HT.ct [oH,oH,oH,oT,oT,oT,vT,oH] [] [] hX (by kernel_rfl) (aC iX (aC iX (aC iX (aC iX aN)))) (fun _ h=>(ah (h.ht (cont true (aa UH)))));exact HT.ct [oH,oH,oH,oF,oF,oF,vF,oH] [] [] hX (by kernel_rfl) (aC iX (aC iX (aC iX (aC iX aN)))) (fun _ h=>(ah (h.ht (cont (!(tg .f32 a0 a0)) (aa UH)))))
noncomputable def mj (a0:dW)(a1:dW)(y5:List (List Int))(s7:Nat×Int):Option ((Nat×Int)⊕(Nat⊕Unit)):=
 bif (decide (s7.2<(af y5))) then
  (show Option (Nat⊕((Nat×Int)⊕(Nat⊕Unit))) from
   ao ((0:Int)≤s7.2∧s7.2<af y5) (
    (cm (a0.1,a0.2.1,a0.2.2.1,a0.2.2.2.1,a0.2.2.2.2) (List.getD y5 (Int.toNat s7.2) ([]:List Int))).bind fun sP=>
    (cm (a1.1,a1.2.1,a1.2.2.1,a1.2.2.2.1,a1.2.2.2.2) (List.getD y5 (Int.toNat s7.2) ([]:List Int))).bind fun A9=>
    bif (!(pP .f32 sP (0:Nat))) then
     some (.inl s7.1)
    else
     bif (!(pP .f32 A9 (0:Nat))) then
      Jj (some (.inr (.inr ())))
     else
      (eI sP).bind fun Ax=>
      (eI A9).bind fun Wx=>
      some (.inl (aq .add .f32 s7.1 (aq .quo .f32 (aq .mul .f32 sP (aq .sub .f32 Ax Wx)) (1060205080:Nat)))))).bind fun Yv=>match Yv with
   | .inl UI=>
    some (.inl (UI,(ai .i64 s7.2 (1:Int))))
   | .inr z=>some z
 else
  some (.inr (.inl s7.1))
noncomputable def ke (a0:dW)(a1:dW)(a2:Int):Option (Nat×Bool):=
 (show Option (Bool) from
  (iq (a0.1,a0.2.1,a0.2.2.1,a0.2.2.2.1,a0.2.2.2.2) (a1.1,a1.2.1,a1.2.2.1,a1.2.2.2.1,a1.2.2.2.2)).bind fun Wy=>
  bif (!Wy) then
   some true
  else
   (bf a2 (0:Int) (4:Int)).bind fun Wz=>
   some (!Wz)).bind fun v1=>
 bif v1 then
  some ((0:Nat),false)
 else
  (iw a0.2.1 a2).bind fun y5=>
  (rounds (mj a0 a1 y5) ((0:Nat),(0:Int))).bind fun r8=>match r8 with
   | .inl r9=>
    (bT r9).bind fun jd=>
    some (jd.1,jd.2)
   | .inr r12=>
    some ((0:Nat),false)
theorem Rk {a0:dW}{a1:dW}{a2:Int}{r:Nat×Bool}(hr:ke a0 a1 a2=some r):CallOK Try.prog 35 [.an tM a0,.an tM a1,.an tI a2] [⟨false,tF,r.1⟩,⟨false,.bool,r.2⟩] []:=by
 unfold ke at hr;refine jh [(false,tF),(false,.bool)] Try.func35 rfl [] fun cx hX hF=> ?_;show HT cx ⟨[(0,.agg [iC a0.1,iC a0.2.1,lC a0.2.2.1,lC a0.2.2.2.1,lC a0.2.2.2.2]),(1,.agg [iC a1.1,iC a1.2.1,lC a1.2.2.1,lC a1.2.2.2.1,lC a1.2.2.2.2]),(2,iV a2)],[],0⟩ _ _;refine av (aI 4) ⟨[(2,iV a2),(3,pV 0 0),(4,pV 1 0)],[(1,aU a1),(0,aU a0)],2⟩ hX aN ?_;refine HT.seq ?_;obtain ⟨oR,aX,hr⟩:=ae hr;refine HT.join (fun (v1:Bool)=>⟨[(2,iV a2),(3,pV 0 0),(4,pV 1 0),(21,bV v1)],[(0,aU a0),(1,aU a1)],2⟩) (fun v=>v=oR) (fun v1 mU=> ?_) (fun cont=> ?_);subst mU;rcases ak hr with ⟨dS,hr⟩|⟨dS,hr⟩
 refine HT.aH rfl dS ?_;refine av (aI 2) ⟨[(6,fV (0:Nat)),(7,bV false)],[],2⟩ hX aN ?_;have hr:=aa hr;subst hr;exact HT.ret (aQ (rO [fV (0:Nat),bV false] [] [] trivial));refine HT.aE rfl dS ?_;refine HT.skip (ah ?_);refine av [oH] ⟨[(2,iV a2),(3,pV 0 0),(4,pV 1 0),(8,fV (0:Nat))],[(0,aU a0),(1,aU a1)],2⟩ hX aN ?_;refine HT.seq ?_;obtain ⟨y5,Jv,hr⟩:=ae hr;refine av [oH,oH,oH,⟨none,.call [.an tI,.an tI] [⟨false,(.sl eo),y5⟩] []⟩,oH,oH] ⟨[(3,pV 0 0),(4,pV 1 0),(8,fV (0:Nat)),(25,.one (.aw (.sl eo) y5)),(26,iV (af y5)),(27,iV (0:Int))],[(0,aU a0),(1,aU a1)],2⟩ hX (aC (Lv Jv) aN) ?_;refine HT.block ?_;obtain ⟨r8,Rl,hr⟩:=ae hr;refine HT.bX (fun (s7:Nat×Int)=>⟨[(3,pV 0 0),(4,pV 1 0),(8,fV s7.1),(25,.one (.aw (.sl eo) y5)),(26,iV (af y5)),(27,iV s7.2)],[(0,aU a0),(1,aU a1)],2⟩) (fun (r8:Nat⊕Unit)=>match r8 with| .inl r9=>(.exit 0,⟨[(8,fV r9)],[],0⟩)| .inr r12=>(.ret,⟨[(6,fV (0:Nat)),(7,bV false)],[],0⟩)) (Le.re [(0,0),(1,1)] [] hX (by kernel_rfl)) Rl ?_ (fun s7 x13 ll Of=> ?_);rcases r8 with r9|r12
 refine (aK (ah ?_));obtain ⟨jd,rB,hr⟩:=ae hr;refine av [oH,⟨none,.call [.an tF] [⟨false,tF,jd.1⟩,⟨false,.bool,jd.2⟩] []⟩,oH,oH,oH,oH] ⟨[(6,fV jd.1),(7,bV jd.2)],[],0⟩ hX (aC (zv rB) aN) ?_;have hr:=aa hr;subst hr;exact HT.ret (rO [fV jd.1,bV jd.2] [] [] trivial);have hr:=aa hr;subst hr;exact (bZ (aQ (rO [fV (0:Nat),bV false] [] [] trivial)));refine av [oH] ⟨[(3,pV 0 0),(4,pV 1 0),(8,fV s7.1),(25,.one (.aw (.sl eo) y5)),(26,iV (af y5)),(27,iV s7.2),(28,bV (decide (s7.2<(af y5))))],[(0,aU a0),(1,aU a1)],2⟩ hX aN ?_;refine HT.seq ?_;rcases ak ll with ⟨tW,ll⟩|⟨tW,ll⟩
 refine HT.aH rfl tW ?_;refine HT.skip (ah ?_);obtain ⟨Yv,qp,ll⟩:=ae ll;refine HT.join (fun (UI:Nat)=>⟨[(3,pV 0 0),(4,pV 1 0),(8,fV UI),(25,.one (.aw (.sl eo) y5)),(26,iV (af y5)),(27,iV s7.2)],[(0,aU a0),(1,aU a1)],2⟩) (fun v=>Yv=Sum.inl v) (fun UI Yw=> ?_) (fun cont=> ?_);subst Yw;have ll:=aa ll;subst ll;exact HT.ct (aI 2) [(0,0),(1,1)] [] hX (by kernel_rfl) aN (fun _ h=>(bw ⟨(UI,(ai .i64 s7.2 (1:Int))),rfl,h⟩));refine HT.block ?_;obtain ⟨EZ,qp⟩:=aj qp;refine av (aI 3) ⟨[(3,pV 0 0),(4,pV 1 0),(8,fV s7.1),(10,nV (List.getD y5 (Int.toNat s7.2) ([]:List Int))),(25,.one (.aw (.sl eo) y5)),(26,iV (af y5)),(27,iV s7.2)],[(0,aU a0),(1,aU a1)],2⟩ hX (aC EZ aN) ?_;obtain ⟨sP,LI,qp⟩:=ae qp;obtain ⟨A9,EY,qp⟩:=ae qp;refine HT.CN 5 [o0,o0,⟨⟨none,.call [.an tM,.an eo] [⟨false,tF,sP⟩] []⟩,[0,1]⟩,o0,o0] [(rL 5),(rL 6),(rL 7)] [⟨none,.call [.an tM,.an eo] [⟨false,tF,A9⟩] []⟩,oH,oH] ⟨[(3,pV 0 0),(4,pV 1 0),(8,fV s7.1),(11,fV sP),(12,fV A9),(25,.one (.aw (.sl eo) y5)),(26,iV (af y5)),(27,iV s7.2)],[(0,aU a0),(1,aU a1)],2⟩ hX (by kernel_rfl) (by kernel_rfl) (aC (zx LI) (aC (zx EY) aN)) ?_;refine HT.seq ?_;refine av (aI 3) ⟨[(3,pV 0 0),(4,pV 1 0),(8,fV s7.1),(11,fV sP),(12,fV A9),(25,.one (.aw (.sl eo) y5)),(26,iV (af y5)),(27,iV s7.2),(39,bV (!(pP .f32 sP (0:Nat))))],[(0,aU a0),(1,aU a1)],2⟩ hX aN ?_;rcases ak qp with ⟨vY,qp⟩|⟨vY,qp⟩
 refine HT.aH rfl vY ?_;refine HT.exit (bm (aK (ah ?_)));exact (Le.re [(0,0),(1,1)] [] hX (by kernel_rfl)).ht (cont s7.1 (cl qp));refine HT.aE rfl vY ?_;refine HT.skip (ah ?_);refine HT.seq ?_;refine av (aI 3) ⟨[(3,pV 0 0),(4,pV 1 0),(8,fV s7.1),(11,fV sP),(12,fV A9),(25,.one (.aw (.sl eo) y5)),(26,iV (af y5)),(27,iV s7.2),(42,bV (!(pP .f32 A9 (0:Nat))))],[(0,aU a0),(1,aU a1)],2⟩ hX aN ?_;rcases ak qp with ⟨fK,qp⟩|⟨fK,qp⟩
 refine HT.aH rfl fK ?_;refine av (aI 2) ⟨[(6,fV (0:Nat)),(7,bV false)],[],2⟩ hX aN ?_;obtain ⟨z28,df,Yx⟩:=CK qp;subst Yx;have ll:=df.trans ll;have ll:=aa ll;subst ll;exact HT.te (Le.re [] [] hX (by kernel_rfl)) (aQ (bZ (aQ (jq (Of (.inr ()) rfl)))));refine HT.aE rfl fK ?_;refine HT.skip (ah ?_);obtain ⟨Ax,Dd,qp⟩:=ae qp;obtain ⟨Wx,Yy,qp⟩:=ae qp;exact HT.ct [oH,oH,oH,⟨none,.call [.an tF] [⟨false,tF,Ax⟩] []⟩,oH,⟨none,.call [.an tF] [⟨false,tF,Wx⟩] []⟩,oH,oH,oH,oH,oH] [(0,0),(1,1)] [] hX (by kernel_rfl) (aC (LH Dd) (aC (LH Yy) aN)) (fun _ h=>(bj (ah (h.ht (cont (aq .add .f32 s7.1 (aq .quo .f32 (aq .mul .f32 sP (aq .sub .f32 Ax Wx)) (1060205080:Nat))) (cl qp))))));refine HT.aE rfl tW ?_;have ll:=aa ll;subst ll;exact HT.bW (Le.re [] [] hX (by kernel_rfl)) (bm (bt (Of (.inl s7.1) rfl)));obtain ⟨Wy,UJ,aX⟩:=ae aX;rcases ak aX with ⟨iB,aX⟩|⟨iB,aX⟩
 exact HT.ct [oH,oH,⟨none,.call [.an tM,.an tM] [⟨false,.bool,Wy⟩] []⟩,oH,oH,oT,oT,oT,vT] [(0,0),(1,1)] [] hX (by kernel_rfl) (aC (vX UJ) (aC iB (aC iB (aC iB (aC iB aN))))) (fun _ h=>(ah (h.ht (cont true (aa aX)))));obtain ⟨Wz,Yz,aX⟩:=ae aX;exact HT.ct [oH,oH,⟨none,.call [.an tM,.an tM] [⟨false,.bool,Wy⟩] []⟩,oH,oH,oF,⟨some false,.call [.an tI,.an tI,.an tI] [⟨false,.bool,Wz⟩] []⟩,oF,vF] [(0,0),(1,1)] [] hX (by kernel_rfl) (aC (vX UJ) (aC iB (aC iB (aC (e8 Yz) (aC iB (aC iB aN)))))) (fun _ h=>(ah (h.ht (cont (!Wz) (aa aX)))))
noncomputable def jE (a0:dW)(a1:dW)(a2:Int)(a3:Int)(s1:Nat×Int):Option ((Nat×Int)⊕(Nat)):=
 bif (decide (s1.2<a0.2.1)) then
  (e7 (a0.1,a0.2.1,a0.2.2.1,a0.2.2.2.1,a0.2.2.2.2) a2 s1.2).bind fun y8=>
  (e7 (a1.1,a1.2.1,a1.2.2.1,a1.2.2.2.1,a1.2.2.2.2) a3 s1.2).bind fun jd=>
  some (.inl ((aq .add .f32 s1.1 (aq .mul .f32 y8 jd)),(ai .i64 s1.2 (1:Int))))
 else
  some (.inr s1.1)
noncomputable def kf (a0:dW)(a1:dW)(a2:Int)(a3:Int):Option (Nat):=
 (rounds (jE a0 a1 a2 a3) ((0:Nat),(0:Int))).bind fun r3=>
 some r3
theorem Ol {a0:dW}{a1:dW}{a2:Int}{a3:Int}{r:Nat}(hr:kf a0 a1 a2 a3=some r):CallOK Try.prog 123 [.an tM a0,.an tM a1,.an tI a2,.an tI a3] [⟨false,tF,r⟩] []:=by
 unfold kf at hr;refine jh [(false,tF)] Try.func123 rfl [] fun cx hX hF=> ?_;show HT cx ⟨[(0,.agg [iC a0.1,iC a0.2.1,lC a0.2.2.1,lC a0.2.2.2.1,lC a0.2.2.2.2]),(1,.agg [iC a1.1,iC a1.2.1,lC a1.2.2.1,lC a1.2.2.2.1,lC a1.2.2.2.2]),(2,iV a2),(3,iV a3)],[],0⟩ _ _;refine av (aI 3) ⟨[(2,iV a2),(3,iV a3),(4,pV 0 0),(5,pV 1 0)],[(1,aU a1),(0,aU a0)],2⟩ hX aN ?_;refine av [oH] ⟨[(2,iV a2),(3,iV a3),(4,pV 0 0),(5,pV 1 0),(9,fV (0:Nat))],[(1,aU a1),(0,aU a0)],2⟩ hX aN ?_;refine HT.seq ?_;refine av (aI 3) ⟨[(2,iV a2),(3,iV a3),(4,pV 0 0),(5,pV 1 0),(9,fV (0:Nat)),(12,iV a0.2.1),(13,iV (0:Int))],[(1,aU a1),(0,aU a0)],2⟩ hX aN ?_;refine HT.block ?_;obtain ⟨r2,Ra,hr⟩:=ae hr;refine HT.bX (fun (s1:Nat×Int)=>⟨[(2,iV a2),(3,iV a3),(4,pV 0 0),(5,pV 1 0),(9,fV s1.1),(12,iV a0.2.1),(13,iV s1.2)],[(0,aU a0),(1,aU a1)],2⟩) (fun (r3:Nat)=>(.exit 0,⟨[(9,fV r3)],[],0⟩)) (Le.re [(0,0),(1,1)] [] hX (by kernel_rfl)) Ra ?_ (fun s1 x4 nE Rc=> ?_);refine (aK (ah ?_));refine av (aI 2) ⟨[(8,fV r2)],[],0⟩ hX aN ?_;have hr:=aa hr;subst hr;exact HT.ret (rO [fV r2] [] [] trivial);refine av [oH] ⟨[(2,iV a2),(3,iV a3),(4,pV 0 0),(5,pV 1 0),(9,fV s1.1),(12,iV a0.2.1),(13,iV s1.2),(14,bV (decide (s1.2<a0.2.1)))],[(0,aU a0),(1,aU a1)],2⟩ hX aN ?_;refine HT.seq ?_;rcases ak nE with ⟨oA,nE⟩|⟨oA,nE⟩
 refine HT.aH rfl oA ?_;refine HT.skip (ah ?_);refine HT.seq ?_;refine HT.block ?_;refine av (aI 2) ⟨[(2,iV a2),(3,iV a3),(4,pV 0 0),(5,pV 1 0),(9,fV s1.1),(10,iV s1.2),(12,iV a0.2.1),(13,iV s1.2)],[(0,aU a0),(1,aU a1)],2⟩ hX aN ?_;obtain ⟨y8,Rm,nE⟩:=ae nE;obtain ⟨jd,rB,nE⟩:=ae nE;refine HT.DQ 10 [o0,o0,o0,o0,⟨⟨none,.call [.an tM,.an tI,.an tI] [⟨false,tF,y8⟩] []⟩,[1,2,3]⟩,o0,o0,o0,⟨⟨none,.call [.an tM,.an tI,.an tI] [⟨false,tF,jd⟩] []⟩,[1,2,3,4,5,6,7]⟩,⟨oH,[1,2,3,4,5,6,7,8]⟩] [(rL 10),(rL 11)] (aI 2) ⟨[(2,iV a2),(3,iV a3),(4,pV 0 0),(5,pV 1 0),(9,fV (aq .add .f32 s1.1 (aq .mul .f32 y8 jd))),(12,iV a0.2.1),(13,iV s1.2)],[(0,aU a0),(1,aU a1)],2⟩ hX (by kernel_rfl) (by kernel_rfl) (aC (GP Rm) (aC (GP rB) aN)) (bj (ah ?_));have nE:=aa nE;subst nE;exact HT.ct (aI 2) [(0,0),(1,1)] [] hX (by kernel_rfl) aN (fun _ h=>(bw ⟨((aq .add .f32 s1.1 (aq .mul .f32 y8 jd)),(ai .i64 s1.2 (1:Int))),rfl,h⟩));refine HT.aE rfl oA ?_;have nE:=aa nE;subst nE;exact HT.bW (Le.re [] [] hX (by kernel_rfl)) (bm (bt (Rc s1.1 rfl)))
noncomputable def jF (a0:dW)(a1:dW)(a2:List Nat)(s2:Int×List Nat)(s9:Int×List Nat)(cE:Nat×Int)(o6:Nat×Int):Option ((Nat×Int)⊕(Nat)):=
 bif (decide (o6.2<a1.1)) then
  ao ((0:Int)≤(ai .i64 (az .i64 cE.2 a1.1) o6.2)∧(ai .i64 (az .i64 cE.2 a1.1) o6.2)<af a2) (
   (kf (a0.1,a0.2.1,a0.2.2.1,a0.2.2.2.1,a0.2.2.2.2) (a1.1,a1.2.1,a1.2.2.1,a1.2.2.2.1,a1.2.2.2.2) cE.2 o6.2).bind fun LJ=>
   (dw (a0.1,a0.2.1,a0.2.2.1,a0.2.2.2.1,a0.2.2.2.2) cE.2 s2.1).bind fun GX=>
   (some (aq .mul .f32 (aq .mul .f32 (List.getD a2 (Int.toNat (ai .i64 (az .i64 cE.2 a1.1) o6.2)) (0:Nat)) LJ) GX)).bind fun Ti=>
   (dw (a1.1,a1.2.1,a1.2.2.1,a1.2.2.2.1,a1.2.2.2.2) o6.2 s9.1).bind fun Nu=>
   some (.inl ((aq .add .f32 o6.1 (aq .mul .f32 Ti Nu)),(ai .i64 o6.2 (1:Int)))))
 else
  some (.inr o6.1)
noncomputable def gY (a0:dW)(a1:dW)(a2:List Nat)(s2:Int×List Nat)(s9:Int×List Nat)(cE:Nat×Int):Option ((Nat×Int)⊕(Nat)):=
 bif (decide (cE.2<a0.1)) then
  (rounds (jF a0 a1 a2 s2 s9 cE) (cE.1,(0:Int))).bind fun YA=>
  some (.inl (YA,(ai .i64 cE.2 (1:Int))))
 else
  some (.inr cE.1)
noncomputable def jG (a0:dW)(a1:dW)(a2:List Nat)(s2:Int×List Nat)(s9:Int×List Nat):Option ((Int×List Nat)⊕(List Nat)):=
 bif (decide (s9.1<a1.1)) then
  (rounds (gY a0 a1 a2 s2 s9) ((0:Nat),(0:Int))).bind fun pC=>
  ao ((0:Int)≤(ai .i64 (az .i64 s2.1 a1.1) s9.1)∧(ai .i64 (az .i64 s2.1 a1.1) s9.1)<af s9.2) (
   some (.inl ((ai .i64 s9.1 (1:Int)),(List.set s9.2 (Int.toNat (ai .i64 (az .i64 s2.1 a1.1) s9.1)) pC))))
 else
  some (.inr s9.2)
noncomputable def jH (a0:dW)(a1:dW)(a2:List Nat)(s2:Int×List Nat):Option ((Int×List Nat)⊕(List Nat)):=
 bif (decide (s2.1<a0.1)) then
  (rounds (jG a0 a1 a2 s2) ((0:Int),s2.2)).bind fun A6=>
  some (.inl ((ai .i64 s2.1 (1:Int)),A6))
 else
  some (.inr s2.2)
noncomputable def kg (a0:dW)(a1:dW)(a2:List Nat):Option (List Nat):=
 ao ((0:Int)≤(af a2)∧(af a2)≤4294967296) (
  (rounds (jH a0 a1 a2) ((0:Int),(List.replicate (Int.toNat (af a2)) (0:Nat)))).bind fun r4=>
  some r4)
theorem Rn {a0:dW}{a1:dW}{a2:List Nat}{r:List Nat}(hr:kg a0 a1 a2=some r):CallOK Try.prog 83 [.an tM a0,.an tM a1,.an cb a2] [⟨true,cb,r⟩] []:=by
 unfold kg at hr;refine jh [(true,cb)] Try.func83 rfl [] fun cx hX hF=> ?_;show HT cx ⟨[(0,.agg [iC a0.1,iC a0.2.1,lC a0.2.2.1,lC a0.2.2.2.1,lC a0.2.2.2.2]),(1,.agg [iC a1.1,iC a1.2.1,lC a1.2.2.1,lC a1.2.2.2.1,lC a1.2.2.2.2]),(2,lV a2)],[],0⟩ _ _;refine av (aI 3) ⟨[(2,lV a2),(3,pV 0 0),(4,pV 1 0)],[(1,aU a1),(0,aU a0)],2⟩ hX aN ?_;obtain ⟨xK,hr⟩:=aj hr;refine av [oH,oH,⟨none,.ty tF⟩,oH] ⟨[(2,lV a2),(3,pV 0 0),(4,pV 1 0),(7,aV 2)],[(2,.seq tF (List.replicate (Int.toNat (af a2)) (0:Nat))),(1,aU a1),(0,aU a0)],3⟩ hX (aC (show (0:Int)≤(af a2)∧(af a2)≤(af a2)∧(af a2)≤4294967296 from ⟨xK.1,Int.le_refl _,xK.2⟩) aN) ?_;refine HT.seq ?_;refine av (aI 3) ⟨[(2,lV a2),(3,pV 0 0),(4,pV 1 0),(7,aV 2),(18,iV a0.1),(19,iV (0:Int))],[(2,.seq tF (List.replicate (Int.toNat (af a2)) (0:Nat))),(1,aU a1),(0,aU a0)],3⟩ hX aN ?_;refine HT.block ?_;obtain ⟨r3,LK,hr⟩:=ae hr;refine HT.bX (fun (s2:Int×List Nat)=>⟨[(2,lV a2),(3,pV 0 0),(4,pV 1 0),(7,aV 2),(18,iV a0.1),(19,iV s2.1)],[(0,aU a0),(1,aU a1),(2,.seq tF s2.2)],3⟩) (fun (r4:List Nat)=>(.exit 0,⟨[(7,aV 0)],[(0,.seq tF r4)],1⟩)) (Le.re [(0,0),(1,1),(2,2)] [] hX (by kernel_rfl)) LK ?_ (fun s2 x5 il Im=> ?_);refine (aK (ah ?_));refine av (aI 2) ⟨[(6,aV 0)],[(0,.seq tF r3)],1⟩ hX aN ?_;have hr:=aa hr;subst hr;exact HT.ret (rO [aV 0] [0] [] trivial);refine av [oH] ⟨[(2,lV a2),(3,pV 0 0),(4,pV 1 0),(7,aV 2),(18,iV a0.1),(19,iV s2.1),(20,bV (decide (s2.1<a0.1)))],[(0,aU a0),(1,aU a1),(2,.seq tF s2.2)],3⟩ hX aN ?_;refine HT.seq ?_;rcases ak il with ⟨od,il⟩|⟨od,il⟩
 refine HT.aH rfl od ?_;refine HT.skip (ah ?_);refine HT.seq ?_;refine HT.block ?_;refine av (aI 2) ⟨[(2,lV a2),(3,pV 0 0),(4,pV 1 0),(7,aV 2),(8,iV s2.1),(18,iV a0.1),(19,iV s2.1)],[(0,aU a0),(1,aU a1),(2,.seq tF s2.2)],3⟩ hX aN ?_;refine av (aI 3) ⟨[(2,lV a2),(3,pV 0 0),(4,pV 1 0),(7,aV 2),(8,iV s2.1),(18,iV a0.1),(19,iV s2.1),(23,iV a1.1),(24,iV (0:Int))],[(0,aU a0),(1,aU a1),(2,.seq tF s2.2)],3⟩ hX aN ?_;refine HT.block ?_;obtain ⟨qn,LL,il⟩:=ae il;refine HT.bX (fun (s9:Int×List Nat)=>⟨[(2,lV a2),(3,pV 0 0),(4,pV 1 0),(7,aV 2),(8,iV s2.1),(18,iV a0.1),(19,iV s2.1),(23,iV a1.1),(24,iV s9.1)],[(0,aU a0),(1,aU a1),(2,.seq tF s9.2)],3⟩) (fun (A6:List Nat)=>(.exit 2,⟨[(2,lV a2),(3,pV 0 0),(4,pV 1 0),(7,aV 2),(18,iV a0.1),(19,iV s2.1)],[(0,aU a0),(1,aU a1),(2,.seq tF A6)],3⟩)) (Le.re [(0,0),(1,1),(2,2)] [] hX (by kernel_rfl)) LL ?_ (fun s9 Yl cM GR=> ?_);refine (aK (bj (ah ?_)));have il:=aa il;subst il;exact HT.ct (aI 2) [(0,0),(1,1),(2,2)] [] hX (by kernel_rfl) aN (fun _ h=>(bw ⟨((ai .i64 s2.1 (1:Int)),qn),rfl,h⟩));refine av [oH] ⟨[(2,lV a2),(3,pV 0 0),(4,pV 1 0),(7,aV 2),(8,iV s2.1),(18,iV a0.1),(19,iV s2.1),(23,iV a1.1),(24,iV s9.1),(25,bV (decide (s9.1<a1.1)))],[(0,aU a0),(1,aU a1),(2,.seq tF s9.2)],3⟩ hX aN ?_;refine HT.seq ?_;rcases ak cM with ⟨fI,cM⟩|⟨fI,cM⟩
 refine HT.aH rfl fI ?_;refine HT.skip (ah ?_);refine HT.seq ?_;refine HT.block ?_;refine av (aI 2) ⟨[(2,lV a2),(3,pV 0 0),(4,pV 1 0),(7,aV 2),(8,iV s2.1),(9,iV s9.1),(18,iV a0.1),(19,iV s2.1),(23,iV a1.1),(24,iV s9.1)],[(0,aU a0),(1,aU a1),(2,.seq tF s9.2)],3⟩ hX aN ?_;refine av [oH] ⟨[(2,lV a2),(3,pV 0 0),(4,pV 1 0),(7,aV 2),(8,iV s2.1),(9,iV s9.1),(10,fV (0:Nat)),(18,iV a0.1),(19,iV s2.1),(23,iV a1.1),(24,iV s9.1)],[(0,aU a0),(1,aU a1),(2,.seq tF s9.2)],3⟩ hX aN ?_;refine HT.seq ?_;refine av (aI 3) ⟨[(2,lV a2),(3,pV 0 0),(4,pV 1 0),(7,aV 2),(8,iV s2.1),(9,iV s9.1),(10,fV (0:Nat)),(18,iV a0.1),(19,iV s2.1),(23,iV a1.1),(24,iV s9.1),(28,iV a0.1),(29,iV (0:Int))],[(0,aU a0),(1,aU a1),(2,.seq tF s9.2)],3⟩ hX aN ?_;refine HT.block ?_;obtain ⟨xA,YB,cM⟩:=ae cM;refine HT.bX (fun (cE:Nat×Int)=>⟨[(2,lV a2),(3,pV 0 0),(4,pV 1 0),(7,aV 2),(8,iV s2.1),(9,iV s9.1),(10,fV cE.1),(18,iV a0.1),(19,iV s2.1),(23,iV a1.1),(24,iV s9.1),(28,iV a0.1),(29,iV cE.2)],[(0,aU a0),(1,aU a1),(2,.seq tF s9.2)],3⟩) (fun (pC:Nat)=>(.exit 4,⟨[(2,lV a2),(3,pV 0 0),(4,pV 1 0),(7,aV 2),(8,iV s2.1),(9,iV s9.1),(10,fV pC),(18,iV a0.1),(19,iV s2.1),(23,iV a1.1),(24,iV s9.1)],[(0,aU a0),(1,aU a1),(2,.seq tF s9.2)],3⟩)) (Le.re [(0,0),(1,1),(2,2)] [] hX (by kernel_rfl)) YB ?_ (fun cE x20 ml Ro=> ?_);refine (aK (ah ?_));obtain ⟨EV,cM⟩:=aj cM;refine HT.DP (aI 10) ⟨[(2,lV a2),(3,pV 0 0),(4,pV 1 0),(7,aV 2),(8,iV s2.1),(18,iV a0.1),(19,iV s2.1),(23,iV a1.1),(24,iV s9.1)],[(2,.seq tF (List.set s9.2 (Int.toNat (ai .i64 (az .i64 s2.1 a1.1) s9.1)) xA)),(0,aU a0),(1,aU a1)],3⟩ hX (by kernel_rfl) (aC EV (aC (bL EV) aN)) (bj (ah ?_));have cM:=aa cM;subst cM;exact HT.ct (aI 2) [(0,0),(1,1),(2,2)] [] hX (by kernel_rfl) aN (fun _ h=>(bw ⟨((ai .i64 s9.1 (1:Int)),(List.set s9.2 (Int.toNat (ai .i64 (az .i64 s2.1 a1.1) s9.1)) xA)),rfl,h⟩));refine av [oH] ⟨[(2,lV a2),(3,pV 0 0),(4,pV 1 0),(7,aV 2),(8,iV s2.1),(9,iV s9.1),(10,fV cE.1),(18,iV a0.1),(19,iV s2.1),(23,iV a1.1),(24,iV s9.1),(28,iV a0.1),(29,iV cE.2),(30,bV (decide (cE.2<a0.1)))],[(0,aU a0),(1,aU a1),(2,.seq tF s9.2)],3⟩ hX aN ?_;refine HT.seq ?_;rcases ak ml with ⟨GY,ml⟩|⟨GY,ml⟩
 refine HT.aH rfl GY ?_;refine HT.skip (ah ?_);refine HT.seq ?_;refine HT.block ?_;refine av (aI 2) ⟨[(2,lV a2),(3,pV 0 0),(4,pV 1 0),(7,aV 2),(8,iV s2.1),(9,iV s9.1),(10,fV cE.1),(11,iV cE.2),(18,iV a0.1),(19,iV s2.1),(23,iV a1.1),(24,iV s9.1),(28,iV a0.1),(29,iV cE.2)],[(0,aU a0),(1,aU a1),(2,.seq tF s9.2)],3⟩ hX aN ?_;refine av (aI 3) ⟨[(2,lV a2),(3,pV 0 0),(4,pV 1 0),(7,aV 2),(8,iV s2.1),(9,iV s9.1),(10,fV cE.1),(11,iV cE.2),(18,iV a0.1),(19,iV s2.1),(23,iV a1.1),(24,iV s9.1),(28,iV a0.1),(29,iV cE.2),(33,iV a1.1),(34,iV (0:Int))],[(0,aU a0),(1,aU a1),(2,.seq tF s9.2)],3⟩ hX aN ?_;refine HT.block ?_;obtain ⟨E0,YC,ml⟩:=ae ml;refine HT.bX (fun (o6:Nat×Int)=>⟨[(2,lV a2),(3,pV 0 0),(4,pV 1 0),(7,aV 2),(8,iV s2.1),(9,iV s9.1),(10,fV o6.1),(11,iV cE.2),(18,iV a0.1),(19,iV s2.1),(23,iV a1.1),(24,iV s9.1),(28,iV a0.1),(29,iV cE.2),(33,iV a1.1),(34,iV o6.2)],[(0,aU a0),(1,aU a1),(2,.seq tF s9.2)],3⟩) (fun (YA:Nat)=>(.exit 6,⟨[(2,lV a2),(3,pV 0 0),(4,pV 1 0),(7,aV 2),(8,iV s2.1),(9,iV s9.1),(10,fV YA),(18,iV a0.1),(19,iV s2.1),(23,iV a1.1),(24,iV s9.1),(28,iV a0.1),(29,iV cE.2)],[(0,aU a0),(1,aU a1),(2,.seq tF s9.2)],3⟩)) (Le.re [(0,0),(1,1),(2,2)] [] hX (by kernel_rfl)) YC ?_ (fun o6 x27 qt YD=> ?_);refine (aK (bj (ah ?_)));have ml:=aa ml;subst ml;exact HT.ct (aI 2) [(0,0),(1,1),(2,2)] [] hX (by kernel_rfl) aN (fun _ h=>(bw ⟨(E0,(ai .i64 cE.2 (1:Int))),rfl,h⟩));refine av [oH] ⟨[(2,lV a2),(3,pV 0 0),(4,pV 1 0),(7,aV 2),(8,iV s2.1),(9,iV s9.1),(10,fV o6.1),(11,iV cE.2),(18,iV a0.1),(19,iV s2.1),(23,iV a1.1),(24,iV s9.1),(28,iV a0.1),(29,iV cE.2),(33,iV a1.1),(34,iV o6.2),(35,bV (decide (o6.2<a1.1)))],[(0,aU a0),(1,aU a1),(2,.seq tF s9.2)],3⟩ hX aN ?_;refine HT.seq ?_;rcases ak qt with ⟨cw,qt⟩|⟨cw,qt⟩
 refine HT.aH rfl cw ?_;refine HT.skip (ah ?_);refine HT.seq ?_;refine HT.block ?_;refine av (aI 2) ⟨[(2,lV a2),(3,pV 0 0),(4,pV 1 0),(7,aV 2),(8,iV s2.1),(9,iV s9.1),(10,fV o6.1),(11,iV cE.2),(12,iV o6.2),(18,iV a0.1),(19,iV s2.1),(23,iV a1.1),(24,iV s9.1),(28,iV a0.1),(29,iV cE.2),(33,iV a1.1),(34,iV o6.2)],[(0,aU a0),(1,aU a1),(2,.seq tF s9.2)],3⟩ hX aN ?_;obtain ⟨YE,qt⟩:=aj qt;obtain ⟨LJ,Om,qt⟩:=ae qt;refine HT.CN 14 [o0,o0,o0,⟨oH,[2]⟩,⟨oH,[1,2,3]⟩,o0,⟨oH,[1,2,3,4,5]⟩,⟨oH,(rL 7)⟩,⟨oH,(rL 8)⟩,o0,o0,o0,o0,⟨⟨none,.call [.an tM,.an tM,.an tI,.an tI] [⟨false,tF,LJ⟩] []⟩,[9,10,11,12]⟩] [(rL 14),(rL 15)] (aI 2) ⟨[(2,lV a2),(3,pV 0 0),(4,pV 1 0),(7,aV 2),(8,iV s2.1),(9,iV s9.1),(10,fV o6.1),(11,iV cE.2),(12,iV o6.2),(13,fV (aq .mul .f32 (List.getD a2 (Int.toNat (ai .i64 (az .i64 cE.2 a1.1) o6.2)) (0:Nat)) LJ)),(18,iV a0.1),(19,iV s2.1),(23,iV a1.1),(24,iV s9.1),(28,iV a0.1),(29,iV cE.2),(33,iV a1.1),(34,iV o6.2)],[(0,aU a0),(1,aU a1),(2,.seq tF s9.2)],3⟩ hX (by kernel_rfl) (by kernel_rfl) (aC YE (aC (Ol Om) aN)) ?_;obtain ⟨GX,Jw,qt⟩:=ae qt;refine av [oH,oH,oH,oH,⟨none,.call [.an tM,.an tI,.an tI] [⟨false,tF,GX⟩] []⟩,oH,oH] ⟨[(2,lV a2),(3,pV 0 0),(4,pV 1 0),(7,aV 2),(8,iV s2.1),(9,iV s9.1),(10,fV o6.1),(11,iV cE.2),(12,iV o6.2),(13,fV (aq .mul .f32 (aq .mul .f32 (List.getD a2 (Int.toNat (ai .i64 (az .i64 cE.2 a1.1) o6.2)) (0:Nat)) LJ) GX)),(18,iV a0.1),(19,iV s2.1),(23,iV a1.1),(24,iV s9.1),(28,iV a0.1),(29,iV cE.2),(33,iV a1.1),(34,iV o6.2)],[(0,aU a0),(1,aU a1),(2,.seq tF s9.2)],3⟩ hX (aC (CZ Jw) aN) ?_;obtain ⟨Ti,Rp,qt⟩:=ae qt;have Rp:=cl Rp;refine (Le.cv (s:=⟨[(0,0),(1,1),(2,2)],[],[],false⟩) (own:=[]) (ps:=[a2=a2,s2.1=s2.1,s9.1=s9.1,o6.1=o6.1,cE.2=cE.2,o6.2=o6.2,Ti=(aq .mul .f32 (aq .mul .f32 (List.getD a2 (Int.toNat (ai .i64 (az .i64 cE.2 a1.1) o6.2)) (0:Nat)) LJ) GX),a0.1=a0.1,s2.1=s2.1,a1.1=a1.1,s9.1=s9.1,a0.1=a0.1,cE.2=cE.2,a1.1=a1.1,o6.2=o6.2,a0.1=a0.1,a0.2.1=a0.2.1,a0.2.2.1=a0.2.2.1,a0.2.2.2.1=a0.2.2.2.1,a0.2.2.2.2=a0.2.2.2.2,a1.1=a1.1,a1.2.1=a1.2.1,a1.2.2.1=a1.2.2.1,a1.2.2.2.1=a1.2.2.2.1,a1.2.2.2.2=a1.2.2.2.2,s9.2=s9.2]) (st':=⟨[(2,lV a2),(3,pV 0 0),(4,pV 1 0),(7,aV 2),(8,iV s2.1),(9,iV s9.1),(10,fV o6.1),(11,iV cE.2),(12,iV o6.2),(13,fV Ti),(18,iV a0.1),(19,iV s2.1),(23,iV a1.1),(24,iV s9.1),(28,iV a0.1),(29,iV cE.2),(33,iV a1.1),(34,iV o6.2)],[(0,aU a0),(1,aU a1),(2,.seq tF s9.2)],3⟩) hX.own (fun h=>by cases h) (by kernel_rfl) ⟨rfl,rfl,rfl,rfl,rfl,rfl,Rp,rfl,rfl,rfl,rfl,rfl,rfl,rfl,rfl,rfl,rfl,rfl,rfl,rfl,rfl,rfl,rfl,rfl,rfl,rfl,trivial⟩).ht ?_;obtain ⟨Nu,On,qt⟩:=ae qt;refine HT.DP [oH,oH,oH,oH,oH,⟨none,.call [.an tM,.an tI,.an tI] [⟨false,tF,Nu⟩] []⟩,oH,oH,oH] ⟨[(2,lV a2),(3,pV 0 0),(4,pV 1 0),(7,aV 2),(8,iV s2.1),(9,iV s9.1),(10,fV (aq .add .f32 o6.1 (aq .mul .f32 Ti Nu))),(11,iV cE.2),(18,iV a0.1),(19,iV s2.1),(23,iV a1.1),(24,iV s9.1),(28,iV a0.1),(29,iV cE.2),(33,iV a1.1),(34,iV o6.2)],[(0,aU a0),(1,aU a1),(2,.seq tF s9.2)],3⟩ hX (by kernel_rfl) (aC (CZ On) aN) (bj (ah ?_));have qt:=aa qt;subst qt;exact HT.ct (aI 2) [(0,0),(1,1),(2,2)] [] hX (by kernel_rfl) aN (fun _ h=>(bw ⟨((aq .add .f32 o6.1 (aq .mul .f32 Ti Nu)),(ai .i64 o6.2 (1:Int))),rfl,h⟩));refine HT.aE rfl cw ?_;have qt:=aa qt;subst qt;exact HT.bW (Le.re [(0,0),(1,1),(2,2)] [] hX (by kernel_rfl)) (bm (bt (YD o6.1 rfl)));refine HT.aE rfl GY ?_;have ml:=aa ml;subst ml;exact HT.bW (Le.re [(0,0),(1,1),(2,2)] [] hX (by kernel_rfl)) (bm (bt (Ro cE.1 rfl)));refine HT.aE rfl fI ?_;have cM:=aa cM;subst cM;exact HT.bW (Le.re [(0,0),(1,1),(2,2)] [] hX (by kernel_rfl)) (bm (bt (GR s9.2 rfl)));refine HT.aE rfl od ?_;have il:=aa il;subst il;exact HT.bW (Le.re [(2,0)] [] hX (by kernel_rfl)) (bm (bt (Im s2.2 rfl)))
noncomputable def eu (a0:dW)(a1:dW)(a2:Int)(s8:Int×List Nat):Option ((Int×List Nat)⊕(List Nat)):=
 bif (decide (s8.1<a2)) then
  (kg (a0.1,a0.2.1,a0.2.2.1,a0.2.2.2.1,a0.2.2.2.2) (a1.1,a1.2.1,a1.2.2.1,a1.2.2.2.1,a1.2.2.2.2) s8.2).bind fun Da=>
  some (.inl ((ai .i64 s8.1 (1:Int)),Da))
 else
  some (.inr s8.2)
noncomputable def iD (a0:dW)(a1:dW)(s5:Int×List Nat)(w6:Int×List Nat):Option ((Int×List Nat)⊕(List Nat)):=
 bif (decide (w6.1<(af a1.2.2.1))) then
  ao ((0:Int)≤w6.1∧w6.1<af a1.2.2.1) (
   ao (List.length w6.2+List.length ([(aq .mul .f32 (List.getD a0.2.2.1 (Int.toNat s5.1) (0:Nat)) (List.getD a1.2.2.1 (Int.toNat w6.1) (0:Nat)))]:List Nat)≤bg) (
    some (.inl ((ai .i64 w6.1 (1:Int)),(w6.2++([(aq .mul .f32 (List.getD a0.2.2.1 (Int.toNat s5.1) (0:Nat)) (List.getD a1.2.2.1 (Int.toNat w6.1) (0:Nat)))]:List Nat))))))
 else
  some (.inr w6.2)
noncomputable def fM (a0:dW)(a1:dW)(s5:Int×List Nat):Option ((Int×List Nat)⊕(List Nat)):=
 bif (decide (s5.1<(af a0.2.2.1))) then
  ao ((0:Int)≤s5.1∧s5.1<af a0.2.2.1) (
   (rounds (iD a0 a1 s5) ((0:Int),s5.2)).bind fun YF=>
   some (.inl ((ai .i64 s5.1 (1:Int)),YF)))
 else
  some (.inr s5.2)
noncomputable def iN (a0:dW)(a1:dW)(a2:Int):Option (Nat×Bool):=
 (show Option (Bool) from
  (iq (a0.1,a0.2.1,a0.2.2.1,a0.2.2.2.1,a0.2.2.2.2) (a1.1,a1.2.1,a1.2.2.1,a1.2.2.2.1,a1.2.2.2.2)).bind fun Nu=>
  bif (!Nu) then
   some true
  else
   (bf a2 (0:Int) (12:Int)).bind fun Nv=>
   some (!Nv)).bind fun v1=>
 bif v1 then
  some ((0:Nat),false)
 else
  (rounds (fM a0 a1) ((0:Int),([]:List Nat))).bind fun r7=>
  (rounds (eu a0 a1 a2) ((0:Int),r7)).bind fun qn=>
  (kN qn).bind fun zC=>
  (bT zC).bind fun qo=>
  some (qo.1,qo.2)
theorem Rq {a0:dW}{a1:dW}{a2:Int}{r:Nat×Bool}(hr:iN a0 a1 a2=some r):CallOK Try.prog 36 [.an tM a0,.an tM a1,.an tI a2] [⟨false,tF,r.1⟩,⟨false,.bool,r.2⟩] []:=by
 unfold iN at hr;refine jh [(false,tF),(false,.bool)] Try.func36 rfl [] fun cx hX hF=> ?_;show HT cx ⟨[(0,.agg [iC a0.1,iC a0.2.1,lC a0.2.2.1,lC a0.2.2.2.1,lC a0.2.2.2.2]),(1,.agg [iC a1.1,iC a1.2.1,lC a1.2.2.1,lC a1.2.2.2.1,lC a1.2.2.2.2]),(2,iV a2)],[],0⟩ _ _;refine av (aI 4) ⟨[(2,iV a2),(3,pV 0 0),(4,pV 1 0)],[(1,aU a1),(0,aU a0)],2⟩ hX aN ?_;refine HT.seq ?_;obtain ⟨oR,aX,hr⟩:=ae hr;refine HT.join (fun (v1:Bool)=>⟨[(2,iV a2),(3,pV 0 0),(4,pV 1 0),(21,bV v1)],[(0,aU a0),(1,aU a1)],2⟩) (fun v=>v=oR) (fun v1 mU=> ?_) (fun cont=> ?_);subst mU;rcases ak hr with ⟨dS,hr⟩|⟨dS,hr⟩
 refine HT.aH rfl dS ?_;refine av (aI 2) ⟨[(6,fV (0:Nat)),(7,bV false)],[],2⟩ hX aN ?_;have hr:=aa hr;subst hr;exact HT.ret (aQ (rO [fV (0:Nat),bV false] [] [] trivial));refine HT.aE rfl dS ?_;refine HT.skip (ah ?_);refine av (aI 2) ⟨[(2,iV a2),(3,pV 0 0),(4,pV 1 0),(8,.one (.al))],[(0,aU a0),(1,aU a1)],2⟩ hX aN ?_;refine HT.seq ?_;refine av (aI 4) ⟨[(2,iV a2),(3,pV 0 0),(4,pV 1 0),(8,.one (.al)),(24,lV a0.2.2.1),(25,iV (af a0.2.2.1)),(26,iV (0:Int))],[(0,aU a0),(1,aU a1)],2⟩ hX aN ?_;refine HT.block ?_;obtain ⟨r6,YG,hr⟩:=ae hr;refine HT.bX (fun (s5:Int×List Nat)=>⟨[(2,iV a2),(3,pV 0 0),(4,pV 1 0),(8,aV 2),(24,lV a0.2.2.1),(25,iV (af a0.2.2.1)),(26,iV s5.1)],[(0,aU a0),(1,aU a1),(2,.seq tF s5.2)],3⟩) (fun (r7:List Nat)=>(.exit 0,⟨[(2,iV a2),(3,pV 0 0),(4,pV 1 0),(8,aV 2)],[(0,aU a0),(1,aU a1),(2,.seq tF r7)],3⟩)) (Le.re [(0,0),(1,1)] [2] hX (by kernel_rfl)) YG ?_ (fun s5 x22 fh LM=> ?_);refine (aK (ah ?_));refine HT.seq ?_;refine av (aI 2) ⟨[(3,pV 0 0),(4,pV 1 0),(8,aV 2),(45,iV a2),(46,iV (0:Int))],[(0,aU a0),(1,aU a1),(2,.seq tF r6)],3⟩ hX aN ?_;refine HT.block ?_;obtain ⟨r9,Rr,hr⟩:=ae hr;refine HT.bX (fun (s8:Int×List Nat)=>⟨[(3,pV 0 0),(4,pV 1 0),(8,aV 2),(45,iV a2),(46,iV s8.1)],[(0,aU a0),(1,aU a1),(2,.seq tF s8.2)],3⟩) (fun (qn:List Nat)=>(.exit 4,⟨[(8,aV 0)],[(0,.seq tF qn)],1⟩)) (Le.re [(0,0),(1,1),(2,2)] [] hX (by kernel_rfl)) Rr ?_ (fun s8 x15 jt Rs=> ?_);refine (aK (ah ?_));obtain ⟨zC,LN,hr⟩:=ae hr;obtain ⟨qo,EX,hr⟩:=ae hr;refine av [oH,⟨none,.call [.an cb] [⟨false,tF,zC⟩] []⟩,⟨none,.call [.an tF] [⟨false,tF,qo.1⟩,⟨false,.bool,qo.2⟩] []⟩,oH,oH,oH,oH] ⟨[(6,fV qo.1),(7,bV qo.2)],[],1⟩ hX (aC (GU LN) (aC (zv EX) aN)) ?_;have hr:=aa hr;subst hr;exact HT.ret (rO [fV qo.1,bV qo.2] [] [] trivial);refine av [oH] ⟨[(3,pV 0 0),(4,pV 1 0),(8,aV 2),(45,iV a2),(46,iV s8.1),(47,bV (decide (s8.1<a2)))],[(0,aU a0),(1,aU a1),(2,.seq tF s8.2)],3⟩ hX aN ?_;refine HT.seq ?_;rcases ak jt with ⟨iX,jt⟩|⟨iX,jt⟩
 refine HT.aH rfl iX ?_;refine HT.skip (ah ?_);refine HT.seq ?_;refine HT.block ?_;obtain ⟨Da,LG,jt⟩:=ae jt;refine HT.DP [oH,oH,oH,⟨none,.call [.an tM,.an tM,.an cb] [⟨true,cb,Da⟩] []⟩,oH] ⟨[(3,pV 0 0),(4,pV 1 0),(8,aV 3),(45,iV a2),(46,iV s8.1)],[(3,.seq tF Da),(0,aU a0),(1,aU a1)],4⟩ hX (by kernel_rfl) (aC (Rn LG) aN) (bj (ah ?_));have jt:=aa jt;subst jt;exact HT.ct (aI 2) [(0,0),(1,1),(3,2)] [] hX (by kernel_rfl) aN (fun _ h=>(bw ⟨((ai .i64 s8.1 (1:Int)),Da),rfl,h⟩));refine HT.aE rfl iX ?_;have jt:=aa jt;subst jt;exact HT.bW (Le.re [(2,0)] [] hX (by kernel_rfl)) (bm (bt (Rs s8.2 rfl)));refine av [oH] ⟨[(2,iV a2),(3,pV 0 0),(4,pV 1 0),(8,aV 2),(24,lV a0.2.2.1),(25,iV (af a0.2.2.1)),(26,iV s5.1),(27,bV (decide (s5.1<(af a0.2.2.1))))],[(0,aU a0),(1,aU a1),(2,.seq tF s5.2)],3⟩ hX aN ?_;refine HT.seq ?_;rcases ak fh with ⟨zD,fh⟩|⟨zD,fh⟩
 refine HT.aH rfl zD ?_;refine HT.skip (ah ?_);refine HT.seq ?_;refine HT.block ?_;obtain ⟨vS,fh⟩:=aj fh;refine av (aI 3) ⟨[(2,iV a2),(3,pV 0 0),(4,pV 1 0),(8,aV 2),(10,fV (List.getD a0.2.2.1 (Int.toNat s5.1) (0:Nat))),(24,lV a0.2.2.1),(25,iV (af a0.2.2.1)),(26,iV s5.1)],[(0,aU a0),(1,aU a1),(2,.seq tF s5.2)],3⟩ hX (aC vS aN) ?_;refine av (aI 4) ⟨[(2,iV a2),(3,pV 0 0),(4,pV 1 0),(8,aV 2),(10,fV (List.getD a0.2.2.1 (Int.toNat s5.1) (0:Nat))),(24,lV a0.2.2.1),(25,iV (af a0.2.2.1)),(26,iV s5.1),(31,lV a1.2.2.1),(32,iV (af a1.2.2.1)),(33,iV (0:Int))],[(0,aU a0),(1,aU a1),(2,.seq tF s5.2)],3⟩ hX aN ?_;refine HT.block ?_;obtain ⟨Rt,Ru,fh⟩:=ae fh;refine HT.bX (fun (w6:Int×List Nat)=>⟨[(2,iV a2),(3,pV 0 0),(4,pV 1 0),(8,aV 2),(10,fV (List.getD a0.2.2.1 (Int.toNat s5.1) (0:Nat))),(24,lV a0.2.2.1),(25,iV (af a0.2.2.1)),(26,iV s5.1),(31,lV a1.2.2.1),(32,iV (af a1.2.2.1)),(33,iV w6.1)],[(0,aU a0),(1,aU a1),(2,.seq tF w6.2)],3⟩) (fun (YF:List Nat)=>(.exit 2,⟨[(2,iV a2),(3,pV 0 0),(4,pV 1 0),(8,aV 2),(24,lV a0.2.2.1),(25,iV (af a0.2.2.1)),(26,iV s5.1)],[(0,aU a0),(1,aU a1),(2,.seq tF YF)],3⟩)) (Le.re [(0,0),(1,1),(2,2)] [] hX (by kernel_rfl)) Ru ?_ (fun w6 x30 vZ YH=> ?_);refine (aK (bj (ah ?_)));have fh:=aa fh;subst fh;exact HT.ct (aI 2) [(0,0),(1,1),(2,2)] [] hX (by kernel_rfl) aN (fun _ h=>(bw ⟨((ai .i64 s5.1 (1:Int)),Rt),rfl,h⟩));refine av [oH] ⟨[(2,iV a2),(3,pV 0 0),(4,pV 1 0),(8,aV 2),(10,fV (List.getD a0.2.2.1 (Int.toNat s5.1) (0:Nat))),(24,lV a0.2.2.1),(25,iV (af a0.2.2.1)),(26,iV s5.1),(31,lV a1.2.2.1),(32,iV (af a1.2.2.1)),(33,iV w6.1),(34,bV (decide (w6.1<(af a1.2.2.1))))],[(0,aU a0),(1,aU a1),(2,.seq tF w6.2)],3⟩ hX aN ?_;refine HT.seq ?_;rcases ak vZ with ⟨fx,vZ⟩|⟨fx,vZ⟩
 refine HT.aH rfl fx ?_;refine HT.skip (ah ?_);refine HT.seq ?_;refine HT.block ?_;obtain ⟨Rv,vZ⟩:=aj vZ;refine av (aI 3) ⟨[(2,iV a2),(3,pV 0 0),(4,pV 1 0),(8,aV 2),(10,fV (List.getD a0.2.2.1 (Int.toNat s5.1) (0:Nat))),(12,fV (List.getD a1.2.2.1 (Int.toNat w6.1) (0:Nat))),(24,lV a0.2.2.1),(25,iV (af a0.2.2.1)),(26,iV s5.1),(31,lV a1.2.2.1),(32,iV (af a1.2.2.1)),(33,iV w6.1)],[(0,aU a0),(1,aU a1),(2,.seq tF w6.2)],3⟩ hX (aC Rv aN) ?_;obtain ⟨YI,vZ⟩:=aj vZ;refine HT.DP [oH,oH,oH,oH,⟨none,.ty tF⟩,⟨none,.ty tF⟩,oH] ⟨[(2,iV a2),(3,pV 0 0),(4,pV 1 0),(8,aV 4),(10,fV (List.getD a0.2.2.1 (Int.toNat s5.1) (0:Nat))),(24,lV a0.2.2.1),(25,iV (af a0.2.2.1)),(26,iV s5.1),(31,lV a1.2.2.1),(32,iV (af a1.2.2.1)),(33,iV w6.1)],[(4,.seq tF (w6.2++([(aq .mul .f32 (List.getD a0.2.2.1 (Int.toNat s5.1) (0:Nat)) (List.getD a1.2.2.1 (Int.toNat w6.1) (0:Nat)))]:List Nat))),(0,aU a0),(1,aU a1)],5⟩ hX (by kernel_rfl) (aC YI aN) (bj (ah ?_));have vZ:=aa vZ;subst vZ;exact HT.ct (aI 2) [(0,0),(1,1),(4,2)] [] hX (by kernel_rfl) aN (fun _ h=>(bw ⟨((ai .i64 w6.1 (1:Int)),(w6.2++([(aq .mul .f32 (List.getD a0.2.2.1 (Int.toNat s5.1) (0:Nat)) (List.getD a1.2.2.1 (Int.toNat w6.1) (0:Nat)))]:List Nat))),rfl,h⟩));refine HT.aE rfl fx ?_;have vZ:=aa vZ;subst vZ;exact HT.bW (Le.re [(0,0),(1,1),(2,2)] [] hX (by kernel_rfl)) (bm (bt (YH w6.2 rfl)));refine HT.aE rfl zD ?_;have fh:=aa fh;subst fh;exact HT.bW (Le.re [(0,0),(1,1),(2,2)] [] hX (by kernel_rfl)) (bm (bt (LM s5.2 rfl)));obtain ⟨Nu,On,aX⟩:=ae aX;rcases ak aX with ⟨mn,aX⟩|⟨mn,aX⟩
 exact HT.ct [oH,oH,⟨none,.call [.an tM,.an tM] [⟨false,.bool,Nu⟩] []⟩,oH,oH,oT,oT,oT,vT] [(0,0),(1,1)] [] hX (by kernel_rfl) (aC (vX On) (aC mn (aC mn (aC mn (aC mn aN))))) (fun _ h=>(ah (h.ht (cont true (aa aX)))));obtain ⟨Nv,Rw,aX⟩:=ae aX;exact HT.ct [oH,oH,⟨none,.call [.an tM,.an tM] [⟨false,.bool,Nu⟩] []⟩,oH,oH,oF,⟨some false,.call [.an tI,.an tI,.an tI] [⟨false,.bool,Nv⟩] []⟩,oF,vF] [(0,0),(1,1)] [] hX (by kernel_rfl) (aC (vX On) (aC mn (aC mn (aC (e8 Rw) (aC mn (aC mn aN)))))) (fun _ h=>(ah (h.ht (cont (!Nv) (aa aX)))))
noncomputable def mZ (a0:Int)(a1:Int):Option (Int×Int):=
 (some (IntKind.wrap .u64 (BitVec.ofInt (IntKind.bits .u64) a0&&& BitVec.ofInt (IntKind.bits .u64) (4294967295:Int)).toNat)).bind fun q1=>
 (some (IntKind.wrap .u64 (BitVec.ofInt (IntKind.bits .u64) a1&&& BitVec.ofInt (IntKind.bits .u64) (4294967295:Int)).toNat)).bind fun q3=>
 (some (ai .u64 (az .u64 (Int.fdiv a0 (2^(min (Int.toNat (32:Int)) (IntKind.bits .u64)))) q3) (Int.fdiv (az .u64 q1 q3) (2^(min (Int.toNat (32:Int)) (IntKind.bits .u64)))))).bind fun q5=>
 (some (IntKind.wrap .u64 (BitVec.ofInt (IntKind.bits .u64) q5&&& BitVec.ofInt (IntKind.bits .u64) (4294967295:Int)).toNat)).bind fun q7=>
 (some (ai .u64 q7 (az .u64 q1 (Int.fdiv a1 (2^(min (Int.toNat (32:Int)) (IntKind.bits .u64))))))).bind fun q9=>
 (some (ai .u64 (ai .u64 (az .u64 (Int.fdiv a0 (2^(min (Int.toNat (32:Int)) (IntKind.bits .u64)))) (Int.fdiv a1 (2^(min (Int.toNat (32:Int)) (IntKind.bits .u64))))) (Int.fdiv q5 (2^(min (Int.toNat (32:Int)) (IntKind.bits .u64))))) (Int.fdiv q9 (2^(min (Int.toNat (32:Int)) (IntKind.bits .u64)))))).bind fun J5=>
 some (J5,(az .u64 a0 a1))
theorem Oo {a0:Int}{a1:Int}{r:Int×Int}(hr:mZ a0 a1=some r):CallOK Try.prog 138 [.an (.int .u64) a0,.an (.int .u64) a1] [⟨false,(.int .u64),r.1⟩,⟨false,(.int .u64),r.2⟩] []:=by
 unfold mZ at hr;refine jh [(false,(.int .u64)),(false,(.int .u64))] Try.func138 rfl [] fun cx hX hF=> ?_;show HT cx ⟨[(0,.one (.aw (.int .u64) a0)),(1,.one (.aw (.int .u64) a1))],[],0⟩ _ _;refine av (aI 2) ⟨[(0,.one (.aw (.int .u64) a0)),(1,.one (.aw (.int .u64) a1))],[],0⟩ hX aN ?_;refine av (aI 3) ⟨[(0,.one (.aw (.int .u64) a0)),(1,.one (.aw (.int .u64) a1)),(6,.one (.aw (.int .u64) (IntKind.wrap .u64 (BitVec.ofInt (IntKind.bits .u64) a0&&& BitVec.ofInt (IntKind.bits .u64) (4294967295:Int)).toNat)))],[],0⟩ hX aN ?_;obtain ⟨q1,xu,hr⟩:=ae hr;have xu:=cl xu;refine (Le.cv (s:=⟨[],[],[],false⟩) (own:=[]) (ps:=[a0=a0,a1=a1,q1=(IntKind.wrap .u64 (BitVec.ofInt (IntKind.bits .u64) a0&&& BitVec.ofInt (IntKind.bits .u64) (4294967295:Int)).toNat)]) (st':=⟨[(0,.one (.aw (.int .u64) a0)),(1,.one (.aw (.int .u64) a1)),(6,.one (.aw (.int .u64) q1))],[],0⟩) hX.own (fun h=>by cases h) (by kernel_rfl) ⟨rfl,rfl,xu,trivial⟩).ht ?_;refine av (aI 3) ⟨[(0,.one (.aw (.int .u64) a0)),(1,.one (.aw (.int .u64) a1)),(6,.one (.aw (.int .u64) q1)),(7,.one (.aw (.int .u64) (Int.fdiv a0 (2^(min (Int.toNat (32:Int)) (IntKind.bits .u64))))))],[],0⟩ hX (aC (show (0:Int)≤(32:Int) from by decide) aN) ?_;refine av (aI 3) ⟨[(0,.one (.aw (.int .u64) a0)),(1,.one (.aw (.int .u64) a1)),(6,.one (.aw (.int .u64) q1)),(7,.one (.aw (.int .u64) (Int.fdiv a0 (2^(min (Int.toNat (32:Int)) (IntKind.bits .u64)))))),(8,.one (.aw (.int .u64) (IntKind.wrap .u64 (BitVec.ofInt (IntKind.bits .u64) a1&&& BitVec.ofInt (IntKind.bits .u64) (4294967295:Int)).toNat)))],[],0⟩ hX aN ?_;obtain ⟨q3,LO,hr⟩:=ae hr;have LO:=cl LO;refine (Le.cv (s:=⟨[],[],[],false⟩) (own:=[]) (ps:=[a0=a0,a1=a1,q1=q1,(Int.fdiv a0 (2^(min (Int.toNat (32:Int)) (IntKind.bits .u64))))=(Int.fdiv a0 (2^(min (Int.toNat (32:Int)) (IntKind.bits .u64)))),q3=(IntKind.wrap .u64 (BitVec.ofInt (IntKind.bits .u64) a1&&& BitVec.ofInt (IntKind.bits .u64) (4294967295:Int)).toNat)]) (st':=⟨[(0,.one (.aw (.int .u64) a0)),(1,.one (.aw (.int .u64) a1)),(6,.one (.aw (.int .u64) q1)),(7,.one (.aw (.int .u64) (Int.fdiv a0 (2^(min (Int.toNat (32:Int)) (IntKind.bits .u64)))))),(8,.one (.aw (.int .u64) q3))],[],0⟩) hX.own (fun h=>by cases h) (by kernel_rfl) ⟨rfl,rfl,rfl,rfl,LO,trivial⟩).ht ?_;refine av (aI 3) ⟨[(0,.one (.aw (.int .u64) a0)),(1,.one (.aw (.int .u64) a1)),(6,.one (.aw (.int .u64) q1)),(7,.one (.aw (.int .u64) (Int.fdiv a0 (2^(min (Int.toNat (32:Int)) (IntKind.bits .u64)))))),(8,.one (.aw (.int .u64) q3)),(9,.one (.aw (.int .u64) (Int.fdiv a1 (2^(min (Int.toNat (32:Int)) (IntKind.bits .u64))))))],[],0⟩ hX (aC (show (0:Int)≤(32:Int) from by decide) aN) ?_;refine av (aI 4) ⟨[(0,.one (.aw (.int .u64) a0)),(1,.one (.aw (.int .u64) a1)),(6,.one (.aw (.int .u64) q1)),(7,.one (.aw (.int .u64) (Int.fdiv a0 (2^(min (Int.toNat (32:Int)) (IntKind.bits .u64)))))),(8,.one (.aw (.int .u64) q3)),(9,.one (.aw (.int .u64) (Int.fdiv a1 (2^(min (Int.toNat (32:Int)) (IntKind.bits .u64)))))),(10,.one (.aw (.int .u64) (az .u64 q1 q3)))],[],0⟩ hX aN ?_;refine av (aI 7) ⟨[(0,.one (.aw (.int .u64) a0)),(1,.one (.aw (.int .u64) a1)),(6,.one (.aw (.int .u64) q1)),(7,.one (.aw (.int .u64) (Int.fdiv a0 (2^(min (Int.toNat (32:Int)) (IntKind.bits .u64)))))),(9,.one (.aw (.int .u64) (Int.fdiv a1 (2^(min (Int.toNat (32:Int)) (IntKind.bits .u64)))))),(11,.one (.aw (.int .u64) (ai .u64 (az .u64 (Int.fdiv a0 (2^(min (Int.toNat (32:Int)) (IntKind.bits .u64)))) q3) (Int.fdiv (az .u64 q1 q3) (2^(min (Int.toNat (32:Int)) (IntKind.bits .u64)))))))],[],0⟩ hX (aC (show (0:Int)≤(32:Int) from by decide) aN) ?_;obtain ⟨q5,Lr,hr⟩:=ae hr;have Lr:=cl Lr;refine (Le.cv (s:=⟨[],[],[],false⟩) (own:=[]) (ps:=[a0=a0,a1=a1,q1=q1,(Int.fdiv a0 (2^(min (Int.toNat (32:Int)) (IntKind.bits .u64))))=(Int.fdiv a0 (2^(min (Int.toNat (32:Int)) (IntKind.bits .u64)))),(Int.fdiv a1 (2^(min (Int.toNat (32:Int)) (IntKind.bits .u64))))=(Int.fdiv a1 (2^(min (Int.toNat (32:Int)) (IntKind.bits .u64)))),q5=(ai .u64 (az .u64 (Int.fdiv a0 (2^(min (Int.toNat (32:Int)) (IntKind.bits .u64)))) q3) (Int.fdiv (az .u64 q1 q3) (2^(min (Int.toNat (32:Int)) (IntKind.bits .u64)))))]) (st':=⟨[(0,.one (.aw (.int .u64) a0)),(1,.one (.aw (.int .u64) a1)),(6,.one (.aw (.int .u64) q1)),(7,.one (.aw (.int .u64) (Int.fdiv a0 (2^(min (Int.toNat (32:Int)) (IntKind.bits .u64)))))),(9,.one (.aw (.int .u64) (Int.fdiv a1 (2^(min (Int.toNat (32:Int)) (IntKind.bits .u64)))))),(11,.one (.aw (.int .u64) q5))],[],0⟩) hX.own (fun h=>by cases h) (by kernel_rfl) ⟨rfl,rfl,rfl,rfl,rfl,Lr,trivial⟩).ht ?_;refine av (aI 3) ⟨[(0,.one (.aw (.int .u64) a0)),(1,.one (.aw (.int .u64) a1)),(6,.one (.aw (.int .u64) q1)),(7,.one (.aw (.int .u64) (Int.fdiv a0 (2^(min (Int.toNat (32:Int)) (IntKind.bits .u64)))))),(9,.one (.aw (.int .u64) (Int.fdiv a1 (2^(min (Int.toNat (32:Int)) (IntKind.bits .u64)))))),(11,.one (.aw (.int .u64) q5)),(12,.one (.aw (.int .u64) (IntKind.wrap .u64 (BitVec.ofInt (IntKind.bits .u64) q5&&& BitVec.ofInt (IntKind.bits .u64) (4294967295:Int)).toNat)))],[],0⟩ hX aN ?_;obtain ⟨q7,Ri,hr⟩:=ae hr;have Ri:=cl Ri;refine (Le.cv (s:=⟨[],[],[],false⟩) (own:=[]) (ps:=[a0=a0,a1=a1,q1=q1,(Int.fdiv a0 (2^(min (Int.toNat (32:Int)) (IntKind.bits .u64))))=(Int.fdiv a0 (2^(min (Int.toNat (32:Int)) (IntKind.bits .u64)))),(Int.fdiv a1 (2^(min (Int.toNat (32:Int)) (IntKind.bits .u64))))=(Int.fdiv a1 (2^(min (Int.toNat (32:Int)) (IntKind.bits .u64)))),q5=q5,q7=(IntKind.wrap .u64 (BitVec.ofInt (IntKind.bits .u64) q5&&& BitVec.ofInt (IntKind.bits .u64) (4294967295:Int)).toNat)]) (st':=⟨[(0,.one (.aw (.int .u64) a0)),(1,.one (.aw (.int .u64) a1)),(6,.one (.aw (.int .u64) q1)),(7,.one (.aw (.int .u64) (Int.fdiv a0 (2^(min (Int.toNat (32:Int)) (IntKind.bits .u64)))))),(9,.one (.aw (.int .u64) (Int.fdiv a1 (2^(min (Int.toNat (32:Int)) (IntKind.bits .u64)))))),(11,.one (.aw (.int .u64) q5)),(12,.one (.aw (.int .u64) q7))],[],0⟩) hX.own (fun h=>by cases h) (by kernel_rfl) ⟨rfl,rfl,rfl,rfl,rfl,rfl,Ri,trivial⟩).ht ?_;refine av (aI 3) ⟨[(0,.one (.aw (.int .u64) a0)),(1,.one (.aw (.int .u64) a1)),(6,.one (.aw (.int .u64) q1)),(7,.one (.aw (.int .u64) (Int.fdiv a0 (2^(min (Int.toNat (32:Int)) (IntKind.bits .u64)))))),(9,.one (.aw (.int .u64) (Int.fdiv a1 (2^(min (Int.toNat (32:Int)) (IntKind.bits .u64)))))),(12,.one (.aw (.int .u64) q7)),(13,.one (.aw (.int .u64) (Int.fdiv q5 (2^(min (Int.toNat (32:Int)) (IntKind.bits .u64))))))],[],0⟩ hX (aC (show (0:Int)≤(32:Int) from by decide) aN) ?_;refine av (aI 6) ⟨[(0,.one (.aw (.int .u64) a0)),(1,.one (.aw (.int .u64) a1)),(7,.one (.aw (.int .u64) (Int.fdiv a0 (2^(min (Int.toNat (32:Int)) (IntKind.bits .u64)))))),(9,.one (.aw (.int .u64) (Int.fdiv a1 (2^(min (Int.toNat (32:Int)) (IntKind.bits .u64)))))),(12,.one (.aw (.int .u64) (ai .u64 q7 (az .u64 q1 (Int.fdiv a1 (2^(min (Int.toNat (32:Int)) (IntKind.bits .u64)))))))),(13,.one (.aw (.int .u64) (Int.fdiv q5 (2^(min (Int.toNat (32:Int)) (IntKind.bits .u64))))))],[],0⟩ hX aN ?_;obtain ⟨q9,zE,hr⟩:=ae hr;have zE:=cl zE;refine (Le.cv (s:=⟨[],[],[],false⟩) (own:=[]) (ps:=[a0=a0,a1=a1,(Int.fdiv a0 (2^(min (Int.toNat (32:Int)) (IntKind.bits .u64))))=(Int.fdiv a0 (2^(min (Int.toNat (32:Int)) (IntKind.bits .u64)))),(Int.fdiv a1 (2^(min (Int.toNat (32:Int)) (IntKind.bits .u64))))=(Int.fdiv a1 (2^(min (Int.toNat (32:Int)) (IntKind.bits .u64)))),q9=(ai .u64 q7 (az .u64 q1 (Int.fdiv a1 (2^(min (Int.toNat (32:Int)) (IntKind.bits .u64)))))),(Int.fdiv q5 (2^(min (Int.toNat (32:Int)) (IntKind.bits .u64))))=(Int.fdiv q5 (2^(min (Int.toNat (32:Int)) (IntKind.bits .u64))))]) (st':=⟨[(0,.one (.aw (.int .u64) a0)),(1,.one (.aw (.int .u64) a1)),(7,.one (.aw (.int .u64) (Int.fdiv a0 (2^(min (Int.toNat (32:Int)) (IntKind.bits .u64)))))),(9,.one (.aw (.int .u64) (Int.fdiv a1 (2^(min (Int.toNat (32:Int)) (IntKind.bits .u64)))))),(12,.one (.aw (.int .u64) q9)),(13,.one (.aw (.int .u64) (Int.fdiv q5 (2^(min (Int.toNat (32:Int)) (IntKind.bits .u64))))))],[],0⟩) hX.own (fun h=>by cases h) (by kernel_rfl) ⟨rfl,rfl,rfl,rfl,zE,rfl,trivial⟩).ht ?_;refine av (aI 9) ⟨[(0,.one (.aw (.int .u64) a0)),(1,.one (.aw (.int .u64) a1)),(4,.one (.aw (.int .u64) (ai .u64 (ai .u64 (az .u64 (Int.fdiv a0 (2^(min (Int.toNat (32:Int)) (IntKind.bits .u64)))) (Int.fdiv a1 (2^(min (Int.toNat (32:Int)) (IntKind.bits .u64))))) (Int.fdiv q5 (2^(min (Int.toNat (32:Int)) (IntKind.bits .u64))))) (Int.fdiv q9 (2^(min (Int.toNat (32:Int)) (IntKind.bits .u64)))))))],[],0⟩ hX (aC (show (0:Int)≤(32:Int) from by decide) aN) ?_;obtain ⟨J5,GZ,hr⟩:=ae hr;have GZ:=cl GZ;refine (Le.cv (s:=⟨[],[],[],false⟩) (own:=[]) (ps:=[a0=a0,a1=a1,J5=(ai .u64 (ai .u64 (az .u64 (Int.fdiv a0 (2^(min (Int.toNat (32:Int)) (IntKind.bits .u64)))) (Int.fdiv a1 (2^(min (Int.toNat (32:Int)) (IntKind.bits .u64))))) (Int.fdiv q5 (2^(min (Int.toNat (32:Int)) (IntKind.bits .u64))))) (Int.fdiv q9 (2^(min (Int.toNat (32:Int)) (IntKind.bits .u64)))))]) (st':=⟨[(0,.one (.aw (.int .u64) a0)),(1,.one (.aw (.int .u64) a1)),(4,.one (.aw (.int .u64) J5))],[],0⟩) hX.own (fun h=>by cases h) (by kernel_rfl) ⟨rfl,rfl,GZ,trivial⟩).ht ?_;refine av (aI 4) ⟨[(4,.one (.aw (.int .u64) J5)),(5,.one (.aw (.int .u64) (az .u64 a0 a1)))],[],0⟩ hX aN ?_;have hr:=aa hr;subst hr;exact HT.ret (rO [.one (.aw (.int .u64) J5),.one (.aw (.int .u64) (az .u64 a0 a1))] [] [] trivial)
noncomputable def oS (a0:Int)(a1:Int):Option (Int×Int):=
 (mZ a0 a1).bind fun y1=>
 some (y1.1,y1.2)
theorem Oq {a0:Int}{a1:Int}{r:Int×Int}(hr:oS a0 a1=some r):CallOK Try.prog 124 [.an (.int .u64) a0,.an (.int .u64) a1] [⟨false,(.int .u64),r.1⟩,⟨false,(.int .u64),r.2⟩] []:=by
 unfold oS at hr;refine jh [(false,(.int .u64)),(false,(.int .u64))] Try.func124 rfl [] fun cx hX hF=> ?_;show HT cx ⟨[(0,.one (.aw (.int .u64) a0)),(1,.one (.aw (.int .u64) a1))],[],0⟩ _ _;refine av (aI 2) ⟨[(0,.one (.aw (.int .u64) a0)),(1,.one (.aw (.int .u64) a1))],[],0⟩ hX aN ?_;refine HT.seq ?_;refine HT.aE rfl (rfl:false=false) ?_;refine HT.skip (ah ?_);obtain ⟨y1,lQ,hr⟩:=ae hr;refine av [oH,oH,⟨none,.call [.an (.int .u64),.an (.int .u64)] [⟨false,(.int .u64),y1.1⟩,⟨false,(.int .u64),y1.2⟩] []⟩,oH,oH,oH,oH,oH] ⟨[(8,.one (.aw (.int .u64) y1.1)),(9,.one (.aw (.int .u64) y1.2))],[],0⟩ hX (aC (Oo lQ) aN) ?_;refine av (aI 4) ⟨[(4,.one (.aw (.int .u64) y1.1)),(5,.one (.aw (.int .u64) y1.2))],[],0⟩ hX aN ?_;have hr:=aa hr;subst hr;exact HT.ret (rO [.one (.aw (.int .u64) y1.1),.one (.aw (.int .u64) y1.2)] [] [] trivial)
noncomputable def aB (ln:Int×List Nat):Option ((Int×List Nat)⊕(List Nat)):=
 bif (decide (ln.1<(af ln.2))) then
  ao ((0:Int)≤ln.1∧ln.1≤af ln.2) (
   some (.inl ((ai .i64 ln.1 ((Nat.min (List.length (List.take (Int.toNat ln.1) (List.drop 0 ln.2))) (Int.toNat (af ln.2) - Int.toNat ln.1):Nat):Int)),(List.take (Int.toNat ln.1) ln.2++List.take (Nat.min (List.length (List.take (Int.toNat ln.1) (List.drop 0 ln.2))) (Int.toNat (af ln.2) - Int.toNat ln.1)) (List.take (Int.toNat ln.1) (List.drop 0 ln.2))++List.drop ((Int.toNat ln.1)+Nat.min (List.length (List.take (Int.toNat ln.1) (List.drop 0 ln.2))) (Int.toNat (af ln.2) - Int.toNat ln.1)) ln.2))))
 else
  some (.inr ln.2)
noncomputable def aO (a0:List Nat)(a1:Int):Option (List Nat):=
 bif (decide (a1<(0:Int))) then
  none
 else
  (oS (IntKind.wrap .u64 (af a0)) (IntKind.wrap .u64 a1)).bind fun y2=>
  (show Option (Bool) from
   bif (decide (y2.1>(0:Int))) then
    some true
   else
    some (decide (y2.2>(9223372036854775807:Int)))).bind fun v4=>
  bif v4 then
   none
  else
   ao ((0:Int)≤(IntKind.wrap .i64 y2.2)∧(IntKind.wrap .i64 y2.2)≤4294967296) (
    (some ((Nat.min (List.length a0) (List.length (List.replicate (Int.toNat (IntKind.wrap .i64 y2.2)) (0:Nat))):Nat):Int)).bind fun q9=>
    (some (List.take 0 (List.replicate (Int.toNat (IntKind.wrap .i64 y2.2)) (0:Nat))++List.take (Nat.min (List.length a0) (List.length (List.replicate (Int.toNat (IntKind.wrap .i64 y2.2)) (0:Nat)))) a0++List.drop (0+Nat.min (List.length a0) (List.length (List.replicate (Int.toNat (IntKind.wrap .i64 y2.2)) (0:Nat)))) (List.replicate (Int.toNat (IntKind.wrap .i64 y2.2)) (0:Nat)))).bind fun J5=>
    (rounds (aB) (q9,J5)).bind fun rC=>
    some rC)
theorem Rx {a0:List Nat}{a1:Int}{r:List Nat}(hr:aO a0 a1=some r):CallOK Try.prog 85 [.an cb a0,.an tI a1] [⟨true,cb,r⟩] []:=by
 unfold aO at hr;refine jh [(true,cb)] Try.func85 rfl [] fun cx hX hF=> ?_;show HT cx ⟨[(0,lV a0),(1,iV a1)],[],0⟩ _ _;refine av [oH] ⟨[(0,lV a0),(1,iV a1)],[],0⟩ hX aN ?_;refine HT.seq ?_;refine av (aI 2) ⟨[(0,lV a0),(1,iV a1),(10,bV (decide (a1<(0:Int))))],[],0⟩ hX aN ?_;rcases ak hr with ⟨nA,hr⟩|⟨nA,hr⟩
 refine HT.aH rfl nA ?_;cases hr;refine HT.aE rfl nA ?_;refine HT.skip (ah ?_);obtain ⟨y2,UB,hr⟩:=ae hr;refine av [oH,oH,oH,oH,oH,⟨none,.call [.an (.int .u64),.an (.int .u64)] [⟨false,(.int .u64),y2.1⟩,⟨false,(.int .u64),y2.2⟩] []⟩,oH,oH,oH,oH,oH] ⟨[(0,lV a0),(5,.one (.aw (.int .u64) y2.1)),(6,.one (.aw (.int .u64) y2.2))],[],0⟩ hX (aC (Oq UB) aN) ?_;refine HT.seq ?_;obtain ⟨UC,CY,hr⟩:=ae hr;refine HT.join (fun (v4:Bool)=>⟨[(0,lV a0),(6,.one (.aw (.int .u64) y2.2)),(26,bV v4)],[],0⟩) (fun v=>v=UC) (fun v4 UE=> ?_) (fun cont=> ?_);subst UE;rcases ak hr with ⟨oA,hr⟩|⟨oA,hr⟩
 refine HT.aH rfl oA ?_;cases hr;refine HT.aE rfl oA ?_;refine HT.skip (ah ?_);obtain ⟨GG,hr⟩:=aj hr;refine av [oH,oH,⟨none,.ty tF⟩,oH] ⟨[(0,lV a0),(7,aV 0)],[(0,.seq tF (List.replicate (Int.toNat (IntKind.wrap .i64 y2.2)) (0:Nat)))],1⟩ hX (aC (show (0:Int)≤(IntKind.wrap .i64 y2.2)∧(IntKind.wrap .i64 y2.2)≤(IntKind.wrap .i64 y2.2)∧(IntKind.wrap .i64 y2.2)≤4294967296 from ⟨GG.1,Int.le_refl _,GG.2⟩) aN) ?_;refine av (aI 4) ⟨[(7,aV 0),(8,iV ((Nat.min (List.length a0) (List.length (List.replicate (Int.toNat (IntKind.wrap .i64 y2.2)) (0:Nat))):Nat):Int))],[(0,.seq tF (List.take 0 (List.replicate (Int.toNat (IntKind.wrap .i64 y2.2)) (0:Nat))++List.take (Nat.min (List.length a0) (List.length (List.replicate (Int.toNat (IntKind.wrap .i64 y2.2)) (0:Nat)))) a0++List.drop (0+Nat.min (List.length a0) (List.length (List.replicate (Int.toNat (IntKind.wrap .i64 y2.2)) (0:Nat)))) (List.replicate (Int.toNat (IntKind.wrap .i64 y2.2)) (0:Nat))))],1⟩ hX aN ?_;obtain ⟨q9,zE,hr⟩:=ae hr;have zE:=cl zE;obtain ⟨J5,GZ,hr⟩:=ae hr;have GZ:=cl GZ;refine (Le.cv (s:=⟨[(0,0)],[],[],false⟩) (own:=[]) (ps:=[q9=((Nat.min (List.length a0) (List.length (List.replicate (Int.toNat (IntKind.wrap .i64 y2.2)) (0:Nat))):Nat):Int),J5=(List.take 0 (List.replicate (Int.toNat (IntKind.wrap .i64 y2.2)) (0:Nat))++List.take (Nat.min (List.length a0) (List.length (List.replicate (Int.toNat (IntKind.wrap .i64 y2.2)) (0:Nat)))) a0++List.drop (0+Nat.min (List.length a0) (List.length (List.replicate (Int.toNat (IntKind.wrap .i64 y2.2)) (0:Nat)))) (List.replicate (Int.toNat (IntKind.wrap .i64 y2.2)) (0:Nat)))]) (st':=⟨[(7,aV 0),(8,iV q9)],[(0,.seq tF J5)],1⟩) hX.own (fun h=>by cases h) (by kernel_rfl) ⟨zE,GZ,trivial⟩).ht ?_;refine HT.seq ?_;refine HT.block ?_;obtain ⟨r14,Rr,hr⟩:=ae hr;refine HT.bX (fun (ln:Int×List Nat)=>⟨[(7,aV 0),(8,iV ln.1)],[(0,.seq tF ln.2)],1⟩) (fun (rC:List Nat)=>(.exit 0,⟨[(7,aV 0)],[(0,.seq tF rC)],1⟩)) (Le.re [(0,0)] [] hX (by kernel_rfl)) Rr ?_ (fun ln x16 mo Ry=> ?_);refine (aK (ah ?_));refine av (aI 2) ⟨[(4,aV 0)],[(0,.seq tF r14)],1⟩ hX aN ?_;have hr:=aa hr;subst hr;exact HT.ret (rO [aV 0] [0] [] trivial);refine HT.seq ?_;refine av (aI 4) ⟨[(7,aV 0),(8,iV ln.1),(37,bV (decide (ln.1<(af ln.2))))],[(0,.seq tF ln.2)],1⟩ hX aN ?_;rcases ak mo with ⟨zF,mo⟩|⟨zF,mo⟩
 refine HT.aH rfl zF ?_;refine HT.skip (ah ?_);refine HT.block ?_;obtain ⟨uS,mo⟩:=aj mo;have mo:=aa mo;subst mo;exact HT.Q4 8 [o0,o0,o0,⟨oH,[1,2]⟩,o0,o0,⟨oH,[4,5]⟩,⟨oH,[1,2,3,4,5,6]⟩] [(rL 8),(rL 9)] (aI 2) [(0,0)] [] hX (by kernel_rfl) (by kernel_rfl) (aC (show (0:Int)≤ln.1∧ln.1≤af ln.2∧af ln.2≤af ln.2 from ⟨uS.1,uS.2,Int.le_refl _⟩) (aC (show (0:Int)≤0∧(0:Int)≤ln.1∧ln.1≤af ln.2 from ⟨Int.le_refl _,uS.1,uS.2⟩) aN)) (fun _ h=>(bj (bw ⟨((ai .i64 ln.1 ((Nat.min (List.length (List.take (Int.toNat ln.1) (List.drop 0 ln.2))) (Int.toNat (af ln.2) - Int.toNat ln.1):Nat):Int)),(List.take (Int.toNat ln.1) ln.2++List.take (Nat.min (List.length (List.take (Int.toNat ln.1) (List.drop 0 ln.2))) (Int.toNat (af ln.2) - Int.toNat ln.1)) (List.take (Int.toNat ln.1) (List.drop 0 ln.2))++List.drop ((Int.toNat ln.1)+Nat.min (List.length (List.take (Int.toNat ln.1) (List.drop 0 ln.2))) (Int.toNat (af ln.2) - Int.toNat ln.1)) ln.2)),rfl,h⟩)));refine HT.aE rfl zF ?_;have mo:=aa mo;subst mo;exact HT.bW (Le.re [(0,0)] [] hX (by kernel_rfl)) (bm (bt (Ry ln.2 rfl)));rcases ak CY with ⟨og,CY⟩|⟨og,CY⟩
 exact HT.ct [oH,oH,oH,oT,oT,vT] [] [] hX (by kernel_rfl) (aC og (aC og (aC og aN))) (fun _ h=>(ah (h.ht (cont true (aa CY)))));exact HT.ct [oH,oH,oH,oF,oF,vF] [] [] hX (by kernel_rfl) (aC og (aC og (aC og aN))) (fun _ h=>(ah (h.ht (cont (decide (y2.2>(9223372036854775807:Int))) (aa CY)))))
noncomputable def jI (a0:Nat):Option (Bool):=
 (bS a0).bind fun y1=>
 some (!y1)
theorem Ot {a0:Nat}{r:Bool}(hr:jI a0=some r):CallOK Try.prog 100 [.an tF a0] [⟨false,.bool,r⟩] []:=by
 unfold jI at hr;refine jh [(false,.bool)] Try.func100 rfl [] fun cx hX hF=> ?_;show HT cx ⟨[(0,fV a0)],[],0⟩ _ _;refine av [oH] ⟨[(0,fV a0)],[],0⟩ hX aN ?_;obtain ⟨y1,lQ,hr⟩:=ae hr;refine av [oH,⟨none,.call [.an tF] [⟨false,.bool,y1⟩] []⟩,oH,oH] ⟨[(2,bV (!y1))],[],0⟩ hX (aC (vU lQ) aN) ?_;have hr:=aa hr;subst hr;exact HT.ret (rO [bV (!y1)] [] [] trivial)
noncomputable def aZ (a0:List Nat)(s1:Int):Option ((Int)⊕(Unit⊕Int)):=
 bif (decide (s1<(af a0))) then
  ao ((0:Int)≤s1∧s1<af a0) (
   (jI (List.getD a0 (Int.toNat s1) (0:Nat))).bind fun jd=>
   bif jd then
    some (.inr (.inr s1))
   else
    some (.inl (ai .i64 s1 (1:Int))))
 else
  some (.inr (.inl ()))
noncomputable def bo (a0:List Nat):Option (Int):=
 (rounds (aZ a0) (0:Int)).bind fun r2=>match r2 with
  | .inl r3=>
   some (-1:Int)
  | .inr r4=>
   some r4
theorem m4 {a0:List Nat}{r:Int}(hr:bo a0=some r):CallOK Try.prog 128 [.an cb a0,.fn 100] [⟨false,tI,r⟩] []:=by
 unfold bo at hr;refine jh [(false,tI)] Try.func128 rfl [] fun cx hX hF=> ?_;show HT cx ⟨[(0,lV a0),(1,.one (.fn 100))],[],0⟩ _ _;refine av [oH] ⟨[(0,lV a0),(1,.one (.fn 100))],[],0⟩ hX aN ?_;refine HT.seq ?_;refine av (aI 3) ⟨[(0,lV a0),(1,.one (.fn 100)),(7,iV (af a0)),(8,iV (0:Int))],[],0⟩ hX aN ?_;refine HT.block ?_;obtain ⟨r2,LP,hr⟩:=ae hr;refine HT.bX (fun (s1:Int)=>⟨[(0,lV a0),(1,.one (.fn 100)),(7,iV (af a0)),(8,iV s1)],[],0⟩) (fun (r2:Unit⊕Int)=>match r2 with| .inl r3=>(.exit 0,⟨[],[],0⟩)| .inr r4=>(.ret,⟨[(4,iV r4)],[],0⟩)) (Le.re [] [] hX (by kernel_rfl)) LP ?_ (fun s1 x5 il Im=> ?_);rcases r2 with r3|r4
 refine (aK (ah ?_));refine av [oH] ⟨[(4,iV (-1:Int))],[],0⟩ hX aN ?_;have hr:=aa hr;subst hr;exact HT.ret (rO [iV (-1:Int)] [] [] trivial);have hr:=aa hr;subst hr;exact (bZ (aQ (rO [iV r4] [] [] trivial)));refine av [oH] ⟨[(0,lV a0),(1,.one (.fn 100)),(7,iV (af a0)),(8,iV s1),(9,bV (decide (s1<(af a0))))],[],0⟩ hX aN ?_;refine HT.seq ?_;rcases ak il with ⟨od,il⟩|⟨od,il⟩
 refine HT.aH rfl od ?_;refine HT.skip (ah ?_);refine HT.seq ?_;refine HT.block ?_;refine av (aI 2) ⟨[(0,lV a0),(1,.one (.fn 100)),(5,iV s1),(7,iV (af a0)),(8,iV s1)],[],0⟩ hX aN ?_;obtain ⟨PR,il⟩:=aj il;obtain ⟨jd,rB,il⟩:=ae il;refine av [oH,oH,oH,oH,oH,⟨none,.call [.an tF] [⟨false,.bool,jd⟩] []⟩] ⟨[(0,lV a0),(1,.one (.fn 100)),(5,iV s1),(7,iV (af a0)),(8,iV s1),(16,bV jd)],[],0⟩ hX (aC PR (aC (Ot rB) aN)) ?_;rcases ak il with ⟨dX,il⟩|⟨dX,il⟩
 refine HT.aH rfl dX ?_;refine av (aI 2) ⟨[(4,iV s1)],[],0⟩ hX aN ?_;have il:=aa il;subst il;exact HT.te (Le.re [] [] hX (by kernel_rfl)) (bZ (aQ (jq (Im (.inr s1) rfl))));refine HT.aE rfl dX ?_;refine HT.skip (bj (ah ?_));have il:=aa il;subst il;exact HT.ct (aI 2) [] [] hX (by kernel_rfl) aN (fun _ h=>(bw ⟨(ai .i64 s1 (1:Int)),rfl,h⟩));refine HT.aE rfl od ?_;have il:=aa il;subst il;exact HT.bW (Le.re [] [] hX (by kernel_rfl)) (bm (bt (Im (.inl ()) rfl)))
noncomputable def a8 (a0:List Nat):Option (Bool):=
 (bo a0).bind fun y1=>
 some (decide (y1≥(0:Int)))
theorem nF {a0:List Nat}{r:Bool}(hr:a8 a0=some r):CallOK Try.prog 99 [.an cb a0,.fn 100] [⟨false,.bool,r⟩] []:=by
 unfold a8 at hr;refine jh [(false,.bool)] Try.func99 rfl [] fun cx hX hF=> ?_;show HT cx ⟨[(0,lV a0),(1,.one (.fn 100))],[],0⟩ _ _;refine av [oH] ⟨[(0,lV a0),(1,.one (.fn 100))],[],0⟩ hX aN ?_;obtain ⟨y1,lQ,hr⟩:=ae hr;refine av [oH,oH,⟨none,.call [.an cb,.fn] [⟨false,tI,y1⟩] []⟩,oH,oH] ⟨[(4,bV (decide (y1≥(0:Int))))],[],0⟩ hX (aC (m4 lQ) aN) ?_;have hr:=aa hr;subst hr;exact HT.ret (rO [bV (decide (y1≥(0:Int)))] [] [] trivial)
noncomputable def dN (a0:List Nat):Option (Bool):=
 (a8 a0).bind fun y1=>
 some (!y1)
theorem LQ {a0:List Nat}{r:Bool}(hr:dN a0=some r):CallOK Try.prog 46 [.an cb a0] [⟨false,.bool,r⟩] []:=by
 unfold dN at hr;refine jh [(false,.bool)] Try.func46 rfl [] fun cx hX hF=> ?_;show HT cx ⟨[(0,lV a0)],[],0⟩ _ _;refine av [oH] ⟨[(0,lV a0)],[],0⟩ hX aN ?_;obtain ⟨y1,lQ,hr⟩:=ae hr;refine av [oH,⟨none,.call [.an cb,.fn] [⟨false,.bool,y1⟩] []⟩,oH,oH] ⟨[(2,bV (!y1))],[],0⟩ hX (aC (nF lQ) aN) ?_;have hr:=aa hr;subst hr;exact HT.ret (rO [bV (!y1)] [] [] trivial)
noncomputable def gN (a0:dW)(s7:Int×List Nat)(cE:Nat×Int×List Nat)(uT:Int×List Nat):Option ((Int×List Nat)⊕(List Nat)):=
 bif (decide (uT.1<a0.1)) then
  ao ((0:Int)≤cE.2.1∧cE.2.1<af uT.2) (
   ao ((0:Int)≤uT.1∧uT.1<af s7.2) (
    (dw (a0.1,a0.2.1,a0.2.2.1,a0.2.2.2.1,a0.2.2.2.2) uT.1 cE.2.1).bind fun UK=>
    some (.inl ((ai .i64 uT.1 (1:Int)),(List.set uT.2 (Int.toNat cE.2.1) (aq .add .f32 (List.getD uT.2 (Int.toNat cE.2.1) (0:Nat)) (aq .mul .f32 (List.getD s7.2 (Int.toNat uT.1) (0:Nat)) UK)))))))
 else
  some (.inr uT.2)
noncomputable def gO (a0:dW)(s7:Int×List Nat)(cE:Nat×Int×List Nat):Option ((Nat×Int×List Nat)⊕((Nat×List Nat))):=
 bif (decide (cE.2.1<a0.1)) then
  (rounds (gN a0 s7 cE) ((0:Int),cE.2.2)).bind fun Rt=>
  ao ((0:Int)≤cE.2.1∧cE.2.1<af Rt) (
   ao ((0:Int)≤cE.2.1∧cE.2.1<af s7.2) (
    (dq (aq .sub .f32 (List.getD Rt (Int.toNat cE.2.1) (0:Nat)) (List.getD s7.2 (Int.toNat cE.2.1) (0:Nat)))).bind fun Ax=>
    ao ((FloatKind.format .f32 |>.order cE.1 Ax).isSome=true) (
     some (.inl ((KB true .f32 cE.1 Ax),(ai .i64 cE.2.1 (1:Int)),Rt)))))
 else
  some (.inr (cE.1,cE.2.2))
noncomputable def dg (a0:dW)(a1:Nat)(a2:Int)(s7:Int×List Nat):Option ((Int×List Nat)⊕(Unit⊕(Int×Bool×List Nat))):=
 bif (decide (s7.1<a2)) then
  ao ((0:Int)≤a0.1∧a0.1≤4294967296) (
   (rounds (gO a0 s7) ((0:Nat),(0:Int),(List.replicate (Int.toNat a0.1) (0:Nat)))).bind fun pC=>
   bif (pO .f32 pC.1 a1) then
    (dN pC.2).bind fun rA=>
    some (.inr (.inr ((ai .i64 s7.1 (1:Int)),rA,pC.2)))
   else
    some (.inl ((ai .i64 s7.1 (1:Int)),pC.2)))
 else
  some (.inr (.inl ()))
noncomputable def dD (a0:dW)(a1:Nat)(a2:Int):Option (List Nat×Int×Bool):=
 (show Option (Bool) from
  (cV (a0.1,a0.2.1,a0.2.2.1,a0.2.2.2.1,a0.2.2.2.2)).bind fun J6=>
  bif (!J6) then
   some true
  else
   (bS a1).bind fun Nw=>
   bif (!Nw) then
    some true
   else
    bif (!(sx .f32 a1 (0:Nat))) then
     some true
    else
     (bf a2 (1:Int) (256:Int)).bind fun WA=>
     some (!WA)).bind fun v1=>
 bif v1 then
  some (([]:List Nat),(0:Int),false)
 else
  (aO ([(aq .quo .f32 (1065353216:Nat) (bK .f32 a0.1))]:List Nat) a0.1).bind fun y5=>
  (rounds (dg a0 a1 a2) ((0:Int),y5)).bind fun r8=>match r8 with
   | .inl r9=>
    some (([]:List Nat),(0:Int),false)
   | .inr qn=>
    some (qn.2.2,qn.1,qn.2.1)
theorem LR {a0:dW}{a1:Nat}{a2:Int}{r:List Nat×Int×Bool}(hr:dD a0 a1 a2=some r):CallOK Try.prog 37 [.an tM a0,.an tF a1,.an tI a2] [⟨true,cb,r.1⟩,⟨false,tI,r.2.1⟩,⟨false,.bool,r.2.2⟩] []:=by
 unfold dD at hr;refine jh [(true,cb),(false,tI),(false,.bool)] Try.func37 rfl [] fun cx hX hF=> ?_;show HT cx ⟨[(0,.agg [iC a0.1,iC a0.2.1,lC a0.2.2.1,lC a0.2.2.2.1,lC a0.2.2.2.2]),(1,fV a1),(2,iV a2)],[],0⟩ _ _;refine av (aI 4) ⟨[(1,fV a1),(2,iV a2),(3,pV 0 0)],[(0,aU a0)],1⟩ hX aN ?_;refine HT.seq ?_;obtain ⟨oR,aX,hr⟩:=ae hr;refine HT.join (fun (v1:Bool)=>⟨[(1,fV a1),(2,iV a2),(3,pV 0 0),(32,bV v1)],[(0,aU a0)],1⟩) (fun v=>v=oR) (fun v1 mU=> ?_) (fun cont=> ?_);subst mU;rcases ak hr with ⟨dS,hr⟩|⟨dS,hr⟩
 refine HT.aH rfl dS ?_;refine av (aI 3) ⟨[(6,.one (.al)),(7,iV (0:Int)),(8,bV false)],[],1⟩ hX aN ?_;have hr:=aa hr;subst hr;exact HT.ret (aQ (rO [.one (.al),iV (0:Int),bV false] [] [] trivial));refine HT.aE rfl dS ?_;refine HT.skip (ah ?_);obtain ⟨y5,Jv,hr⟩:=ae hr;refine av [oH,oH,oH,oH,⟨none,.ty tF⟩,oH,oH,⟨none,.call [.an cb,.an tI] [⟨true,cb,y5⟩] []⟩,oH] ⟨[(1,fV a1),(2,iV a2),(3,pV 0 0),(9,aV 2)],[(2,.seq tF y5),(0,aU a0)],3⟩ hX (aC (Rx Jv) aN) ?_;refine HT.seq ?_;refine av (aI 2) ⟨[(1,fV a1),(3,pV 0 0),(9,aV 2),(41,iV a2),(42,iV (0:Int))],[(2,.seq tF y5),(0,aU a0)],3⟩ hX aN ?_;refine HT.block ?_;obtain ⟨r8,Rz,hr⟩:=ae hr;refine HT.bX (fun (s7:Int×List Nat)=>⟨[(1,fV a1),(3,pV 0 0),(9,aV 1),(41,iV a2),(42,iV s7.1)],[(0,aU a0),(1,.seq tF s7.2)],2⟩) (fun (r8:Unit⊕(Int×Bool×List Nat))=>match r8 with| .inl r9=>(.exit 0,⟨[],[],0⟩)| .inr qn=>(.ret,⟨[(6,aV 0),(7,iV qn.1),(8,bV qn.2.1)],[(0,.seq tF qn.2.2)],1⟩)) (Le.re [(0,0),(2,1)] [] hX (by kernel_rfl)) Rz ?_ (fun s7 x11 eH GN=> ?_);rcases r8 with r9|qn
 refine (aK (ah ?_));refine av (aI 3) ⟨[(6,.one (.al)),(7,iV (0:Int)),(8,bV false)],[],0⟩ hX aN ?_;have hr:=aa hr;subst hr;exact HT.ret (rO [.one (.al),iV (0:Int),bV false] [] [] trivial);have hr:=aa hr;subst hr;exact (bZ (aQ (rO [aV 0,iV qn.1,bV qn.2.1] [0] [] trivial)));refine av [oH] ⟨[(1,fV a1),(3,pV 0 0),(9,aV 1),(41,iV a2),(42,iV s7.1),(43,bV (decide (s7.1<a2)))],[(0,aU a0),(1,.seq tF s7.2)],2⟩ hX aN ?_;refine HT.seq ?_;rcases ak eH with ⟨mh,eH⟩|⟨mh,eH⟩
 refine HT.aH rfl mh ?_;refine HT.skip (ah ?_);refine HT.seq ?_;refine HT.block ?_;refine av (aI 2) ⟨[(1,fV a1),(3,pV 0 0),(9,aV 1),(10,iV s7.1),(41,iV a2),(42,iV s7.1)],[(0,aU a0),(1,.seq tF s7.2)],2⟩ hX aN ?_;obtain ⟨Ly,eH⟩:=aj eH;refine av [oH,oH,⟨none,.ty tF⟩,oH] ⟨[(1,fV a1),(3,pV 0 0),(9,aV 1),(10,iV s7.1),(11,aV 2),(41,iV a2),(42,iV s7.1)],[(2,.seq tF (List.replicate (Int.toNat a0.1) (0:Nat))),(0,aU a0),(1,.seq tF s7.2)],3⟩ hX (aC (show (0:Int)≤a0.1∧a0.1≤a0.1∧a0.1≤4294967296 from ⟨Ly.1,Int.le_refl _,Ly.2⟩) aN) ?_;refine av [oH] ⟨[(1,fV a1),(3,pV 0 0),(9,aV 1),(10,iV s7.1),(11,aV 2),(12,fV (0:Nat)),(41,iV a2),(42,iV s7.1)],[(2,.seq tF (List.replicate (Int.toNat a0.1) (0:Nat))),(0,aU a0),(1,.seq tF s7.2)],3⟩ hX aN ?_;refine HT.seq ?_;refine av (aI 3) ⟨[(1,fV a1),(3,pV 0 0),(9,aV 1),(10,iV s7.1),(11,aV 2),(12,fV (0:Nat)),(41,iV a2),(42,iV s7.1),(49,iV a0.1),(50,iV (0:Int))],[(2,.seq tF (List.replicate (Int.toNat a0.1) (0:Nat))),(0,aU a0),(1,.seq tF s7.2)],3⟩ hX aN ?_;refine HT.block ?_;obtain ⟨xA,LK,eH⟩:=ae eH;refine HT.bX (fun (cE:Nat×Int×List Nat)=>⟨[(1,fV a1),(3,pV 0 0),(9,aV 1),(10,iV s7.1),(11,aV 2),(12,fV cE.1),(41,iV a2),(42,iV s7.1),(49,iV a0.1),(50,iV cE.2.1)],[(0,aU a0),(1,.seq tF s7.2),(2,.seq tF cE.2.2)],3⟩) (fun (pC:(Nat×List Nat))=>(.exit 2,⟨[(1,fV a1),(3,pV 0 0),(10,iV s7.1),(11,aV 1),(12,fV pC.1),(41,iV a2),(42,iV s7.1)],[(0,aU a0),(1,.seq tF pC.2)],2⟩)) (Le.re [(0,0),(1,1),(2,2)] [] hX (by kernel_rfl)) LK ?_ (fun cE x22 fh LM=> ?_);refine (aK (ah ?_));refine av (aI 2) ⟨[(1,fV a1),(3,pV 0 0),(9,aV 1),(10,iV s7.1),(12,fV xA.1),(41,iV a2),(42,iV s7.1)],[(0,aU a0),(1,.seq tF xA.2)],2⟩ hX aN ?_;refine av (aI 3) ⟨[(1,fV a1),(3,pV 0 0),(9,aV 1),(10,iV s7.1),(41,iV a2),(42,iV s7.1),(92,bV (pO .f32 xA.1 a1))],[(0,aU a0),(1,.seq tF xA.2)],2⟩ hX aN ?_;rcases ak eH with ⟨zF,eH⟩|⟨zF,eH⟩
 refine HT.aH rfl zF ?_;obtain ⟨rA,GS,eH⟩:=ae eH;refine av [oH,oH,oH,oH,⟨none,.call [.an cb] [⟨false,.bool,rA⟩] []⟩,oH,oH,oH] ⟨[(6,aV 1),(7,iV (ai .i64 s7.1 (1:Int))),(8,bV rA)],[(1,.seq tF xA.2)],2⟩ hX (aC (LQ GS) aN) ?_;have eH:=aa eH;subst eH;exact HT.te (Le.re [(1,0)] [] hX (by kernel_rfl)) (bZ (aQ (jq (GN (.inr ((ai .i64 s7.1 (1:Int)),rA,xA.2)) rfl))));refine HT.aE rfl zF ?_;refine HT.skip (bj (ah ?_));have eH:=aa eH;subst eH;exact HT.ct (aI 2) [(0,0),(1,1)] [] hX (by kernel_rfl) aN (fun _ h=>(bw ⟨((ai .i64 s7.1 (1:Int)),xA.2),rfl,h⟩));refine av [oH] ⟨[(1,fV a1),(3,pV 0 0),(9,aV 1),(10,iV s7.1),(11,aV 2),(12,fV cE.1),(41,iV a2),(42,iV s7.1),(49,iV a0.1),(50,iV cE.2.1),(51,bV (decide (cE.2.1<a0.1)))],[(0,aU a0),(1,.seq tF s7.2),(2,.seq tF cE.2.2)],3⟩ hX aN ?_;refine HT.seq ?_;rcases ak fh with ⟨zD,fh⟩|⟨zD,fh⟩
 refine HT.aH rfl zD ?_;refine HT.skip (ah ?_);refine HT.seq ?_;refine HT.block ?_;refine av (aI 2) ⟨[(1,fV a1),(3,pV 0 0),(9,aV 1),(10,iV s7.1),(11,aV 2),(12,fV cE.1),(13,iV cE.2.1),(41,iV a2),(42,iV s7.1),(49,iV a0.1),(50,iV cE.2.1)],[(0,aU a0),(1,.seq tF s7.2),(2,.seq tF cE.2.2)],3⟩ hX aN ?_;refine HT.seq ?_;refine av (aI 3) ⟨[(1,fV a1),(3,pV 0 0),(9,aV 1),(10,iV s7.1),(11,aV 2),(12,fV cE.1),(13,iV cE.2.1),(41,iV a2),(42,iV s7.1),(49,iV a0.1),(50,iV cE.2.1),(54,iV a0.1),(55,iV (0:Int))],[(0,aU a0),(1,.seq tF s7.2),(2,.seq tF cE.2.2)],3⟩ hX aN ?_;refine HT.block ?_;obtain ⟨r27,LL,fh⟩:=ae fh;refine HT.bX (fun (uT:Int×List Nat)=>⟨[(1,fV a1),(3,pV 0 0),(9,aV 1),(10,iV s7.1),(11,aV 2),(12,fV cE.1),(13,iV cE.2.1),(41,iV a2),(42,iV s7.1),(49,iV a0.1),(50,iV cE.2.1),(54,iV a0.1),(55,iV uT.1)],[(0,aU a0),(1,.seq tF s7.2),(2,.seq tF uT.2)],3⟩) (fun (Rt:List Nat)=>(.exit 4,⟨[(1,fV a1),(3,pV 0 0),(9,aV 1),(10,iV s7.1),(11,aV 2),(12,fV cE.1),(13,iV cE.2.1),(41,iV a2),(42,iV s7.1),(49,iV a0.1),(50,iV cE.2.1)],[(0,aU a0),(1,.seq tF s7.2),(2,.seq tF Rt)],3⟩)) (Le.re [(0,0),(1,1),(2,2)] [] hX (by kernel_rfl)) LL ?_ (fun uT x34 tX YJ=> ?_);refine (aK (ah ?_));obtain ⟨UL,fh⟩:=aj fh;obtain ⟨UM,fh⟩:=aj fh;obtain ⟨Ax,Dd,fh⟩:=ae fh;obtain ⟨Ba,fh⟩:=aj fh;refine HT.DQ 11 [o0,o0,o0,⟨oH,[1,2]⟩,⟨oH,[1,2,3]⟩,o0,o0,⟨oH,[5,6]⟩,⟨oH,[5,6,7]⟩,⟨oH,[1,2,3,4,5,6,7,8]⟩,⟨⟨none,.call [.an tF] [⟨false,tF,Ax⟩] []⟩,[1,2,3,4,5,6,7,8,9]⟩] [(rL 11),(rL 12)] (aI 2) ⟨[(1,fV a1),(3,pV 0 0),(9,aV 1),(10,iV s7.1),(11,aV 2),(12,fV (KB true .f32 cE.1 Ax)),(41,iV a2),(42,iV s7.1),(49,iV a0.1),(50,iV cE.2.1)],[(0,aU a0),(1,.seq tF s7.2),(2,.seq tF r27)],3⟩ hX (by kernel_rfl) (by kernel_rfl) (aC UL (aC (bL UL) (aC UM (aC (bL UM) (aC (zy Dd) (aC Ba aN)))))) (bj (ah ?_));have fh:=aa fh;subst fh;exact HT.ct (aI 2) [(0,0),(1,1),(2,2)] [] hX (by kernel_rfl) aN (fun _ h=>(bw ⟨((KB true .f32 cE.1 Ax),(ai .i64 cE.2.1 (1:Int)),r27),rfl,h⟩));refine av [oH] ⟨[(1,fV a1),(3,pV 0 0),(9,aV 1),(10,iV s7.1),(11,aV 2),(12,fV cE.1),(13,iV cE.2.1),(41,iV a2),(42,iV s7.1),(49,iV a0.1),(50,iV cE.2.1),(54,iV a0.1),(55,iV uT.1),(56,bV (decide (uT.1<a0.1)))],[(0,aU a0),(1,.seq tF s7.2),(2,.seq tF uT.2)],3⟩ hX aN ?_;refine HT.seq ?_;rcases ak tX with ⟨pD,tX⟩|⟨pD,tX⟩
 refine HT.aH rfl pD ?_;refine HT.skip (ah ?_);refine HT.seq ?_;refine HT.block ?_;refine av (aI 2) ⟨[(1,fV a1),(3,pV 0 0),(9,aV 1),(10,iV s7.1),(11,aV 2),(12,fV cE.1),(13,iV cE.2.1),(14,iV uT.1),(41,iV a2),(42,iV s7.1),(49,iV a0.1),(50,iV cE.2.1),(54,iV a0.1),(55,iV uT.1)],[(0,aU a0),(1,.seq tF s7.2),(2,.seq tF uT.2)],3⟩ hX aN ?_;obtain ⟨G0,tX⟩:=aj tX;obtain ⟨E1,tX⟩:=aj tX;obtain ⟨UK,YK,tX⟩:=ae tX;refine HT.DQ 16 [o0,o0,o0,o0,⟨oH,[2,3]⟩,⟨oH,[2,3,4]⟩,o0,o0,⟨oH,[6,7]⟩,⟨oH,[6,7,8]⟩,o0,o0,o0,⟨⟨none,.call [.an tM,.an tI,.an tI] [⟨false,tF,UK⟩] []⟩,[10,11,12]⟩,⟨oH,[6,7,8,9,10,11,12,13]⟩,⟨oH,[2,3,4,5,6,7,8,9,10,11,12,13,14]⟩] [(rL 16),(rL 17)] (aI 2) ⟨[(1,fV a1),(3,pV 0 0),(9,aV 1),(10,iV s7.1),(11,aV 2),(12,fV cE.1),(13,iV cE.2.1),(41,iV a2),(42,iV s7.1),(49,iV a0.1),(50,iV cE.2.1),(54,iV a0.1),(55,iV uT.1)],[(2,.seq tF (List.set uT.2 (Int.toNat cE.2.1) (aq .add .f32 (List.getD uT.2 (Int.toNat cE.2.1) (0:Nat)) (aq .mul .f32 (List.getD s7.2 (Int.toNat uT.1) (0:Nat)) UK)))),(0,aU a0),(1,.seq tF s7.2)],3⟩ hX (by kernel_rfl) (by kernel_rfl) (aC G0 (aC (bL G0) (aC E1 (aC (bL E1) (aC (CZ YK) (aC G0 (aC (bL G0) aN))))))) (bj (ah ?_));have tX:=aa tX;subst tX;exact HT.ct (aI 2) [(0,0),(1,1),(2,2)] [] hX (by kernel_rfl) aN (fun _ h=>(bw ⟨((ai .i64 uT.1 (1:Int)),(List.set uT.2 (Int.toNat cE.2.1) (aq .add .f32 (List.getD uT.2 (Int.toNat cE.2.1) (0:Nat)) (aq .mul .f32 (List.getD s7.2 (Int.toNat uT.1) (0:Nat)) UK)))),rfl,h⟩));refine HT.aE rfl pD ?_;have tX:=aa tX;subst tX;exact HT.bW (Le.re [(0,0),(1,1),(2,2)] [] hX (by kernel_rfl)) (bm (bt (YJ uT.2 rfl)));refine HT.aE rfl zD ?_;have fh:=aa fh;subst fh;exact HT.bW (Le.re [(0,0),(2,1)] [] hX (by kernel_rfl)) (bm (bt (LM (cE.1,cE.2.2) rfl)));refine HT.aE rfl mh ?_;have eH:=aa eH;subst eH;exact HT.bW (Le.re [] [] hX (by kernel_rfl)) (bm (bt (GN (.inl ()) rfl)));obtain ⟨J6,E2,aX⟩:=ae aX;rcases ak aX with ⟨kP,aX⟩|⟨kP,aX⟩
 exact HT.ct [oH,⟨none,.call [.an tM] [⟨false,.bool,J6⟩] []⟩,oH,oH,oT,oT,oT,vT,oH,oT,oT,oT,vT,oH,oT,oT,oT,vT] [(0,0)] [] hX (by kernel_rfl) (aC (kO E2) (aC kP (aC kP (aC kP (aC kP (cR (cR aN))))))) (fun _ h=>(ah (h.ht (cont true (aa aX)))));obtain ⟨Nw,Jx,aX⟩:=ae aX;rcases ak aX with ⟨kQ,aX⟩|⟨kQ,aX⟩
 exact HT.ct [oH,⟨none,.call [.an tM] [⟨false,.bool,J6⟩] []⟩,oH,oH,oF,⟨some false,.call [.an tF] [⟨false,.bool,Nw⟩] []⟩,oF,vF,oH,oT,oT,oT,vT,oH,oT,oT,oT,vT] [(0,0)] [] hX (by kernel_rfl) (aC (kO E2) (aC kP (aC kP (aC (vU Jx) (aC kP (aC kP (aC kQ (aC kQ (aC kQ (aC kQ (cR aN))))))))))) (fun _ h=>(ah (h.ht (cont true (aa aX)))));rcases ak aX with ⟨De,aX⟩|⟨De,aX⟩
 exact HT.ct [oH,⟨none,.call [.an tM] [⟨false,.bool,J6⟩] []⟩,oH,oH,oF,⟨some false,.call [.an tF] [⟨false,.bool,Nw⟩] []⟩,oF,vF,oH,oF,oF,oF,vF,oH,oT,oT,oT,vT] [(0,0)] [] hX (by kernel_rfl) (aC (kO E2) (aC kP (aC kP (aC (vU Jx) (aC kP (aC kP (aC kQ (aC kQ (aC kQ (aC kQ (aC De (aC De (aC De (aC De aN)))))))))))))) (fun _ h=>(ah (h.ht (cont true (aa aX)))));obtain ⟨WA,YL,aX⟩:=ae aX;exact HT.ct [oH,⟨none,.call [.an tM] [⟨false,.bool,J6⟩] []⟩,oH,oH,oF,⟨some false,.call [.an tF] [⟨false,.bool,Nw⟩] []⟩,oF,vF,oH,oF,oF,oF,vF,oH,oF,⟨some false,.call [.an tI,.an tI,.an tI] [⟨false,.bool,WA⟩] []⟩,oF,vF] [(0,0)] [] hX (by kernel_rfl) (aC (kO E2) (aC kP (aC kP (aC (vU Jx) (aC kP (aC kP (aC kQ (aC kQ (aC kQ (aC kQ (aC De (aC De (aC (e8 YL) (aC De (aC De aN))))))))))))))) (fun _ h=>(ah (h.ht (cont (!WA) (aa aX)))))
noncomputable def uU (a0:List Nat)(q3:Nat)(s5:Nat×Int×Int):Option ((Nat×Int×Int)⊕(Int⊕Int)):=
 bif (decide (s5.2.2<(af a0))) then
  (show Option (Int⊕((Nat×Int×Int)⊕(Int⊕Int))) from
   ao ((0:Int)≤s5.2.2∧s5.2.2<af a0) (
    bif (pP .f32 (aq .add .f32 s5.1 (List.getD a0 (Int.toNat s5.2.2) (0:Nat))) q3) then
     Jj (some (.inr (.inr s5.2.2)))
    else
     bif (pP .f32 (List.getD a0 (Int.toNat s5.2.2) (0:Nat)) (0:Nat)) then
      some (.inl s5.2.2)
     else
      some (.inl s5.2.1))).bind fun YM=>match YM with
   | .inl Nx=>
    some (.inl ((aq .add .f32 s5.1 (List.getD a0 (Int.toNat s5.2.2) (0:Nat))),Nx,(ai .i64 s5.2.2 (1:Int))))
   | .inr z=>some z
 else
  some (.inr (.inl s5.2.1))
noncomputable def mq (a0:List Nat)(a1:Int):Option (Int×Int):=
 (some (Int.tmod (ai .i64 (az .i64 (1664525:Int) a1) (1013904223:Int)) (4294967296:Int))).bind fun q1=>
 (some (aq .mul .f32 (bK .f32 (IntKind.wrap .i64 (Int.tdiv q1 (256:Int)))) (864026624:Nat))).bind fun q3=>
 (rounds (uU a0 q3) ((0:Nat),(0:Int),(0:Int))).bind fun r6=>match r6 with
  | .inl r7=>
   some (r7,q1)
  | .inr r8=>
   some (r8,q1)
theorem G1 {a0:List Nat}{a1:Int}{r:Int×Int}(hr:mq a0 a1=some r):CallOK Try.prog 87 [.an cb a0,.an tI a1] [⟨false,tI,r.1⟩,⟨false,tI,r.2⟩] []:=by
 unfold mq at hr;refine jh [(false,tI),(false,tI)] Try.func87 rfl [] fun cx hX hF=> ?_;show HT cx ⟨[(0,lV a0),(1,iV a1)],[],0⟩ _ _;refine av (aI 2) ⟨[(0,lV a0),(1,iV a1)],[],0⟩ hX aN ?_;refine av (aI 5) ⟨[(0,lV a0),(1,iV (Int.tmod (ai .i64 (az .i64 (1664525:Int) a1) (1013904223:Int)) (4294967296:Int)))],[],0⟩ hX (aC (show (4294967296:Int)≠0 from by decide) aN) ?_;obtain ⟨q1,xu,hr⟩:=ae hr;have xu:=cl xu;refine (Le.cv (s:=⟨[],[],[],false⟩) (own:=[]) (ps:=[a0=a0,q1=(Int.tmod (ai .i64 (az .i64 (1664525:Int) a1) (1013904223:Int)) (4294967296:Int))]) (st':=⟨[(0,lV a0),(1,iV q1)],[],0⟩) hX.own (fun h=>by cases h) (by kernel_rfl) ⟨rfl,xu,trivial⟩).ht ?_;refine av (aI 5) ⟨[(0,lV a0),(1,iV q1),(6,fV (aq .mul .f32 (bK .f32 (IntKind.wrap .i64 (Int.tdiv q1 (256:Int)))) (864026624:Nat)))],[],0⟩ hX (aC (show (256:Int)≠0 from by decide) aN) ?_;obtain ⟨q3,LO,hr⟩:=ae hr;have LO:=cl LO;refine (Le.cv (s:=⟨[],[],[],false⟩) (own:=[]) (ps:=[a0=a0,q1=q1,q3=(aq .mul .f32 (bK .f32 (IntKind.wrap .i64 (Int.tdiv q1 (256:Int)))) (864026624:Nat))]) (st':=⟨[(0,lV a0),(1,iV q1),(6,fV q3)],[],0⟩) hX.own (fun h=>by cases h) (by kernel_rfl) ⟨rfl,rfl,LO,trivial⟩).ht ?_;refine av [oH] ⟨[(0,lV a0),(1,iV q1),(6,fV q3),(7,fV (0:Nat))],[],0⟩ hX aN ?_;refine av [oH] ⟨[(0,lV a0),(1,iV q1),(6,fV q3),(7,fV (0:Nat)),(8,iV (0:Int))],[],0⟩ hX aN ?_;refine HT.seq ?_;refine av (aI 3) ⟨[(1,iV q1),(6,fV q3),(7,fV (0:Nat)),(8,iV (0:Int)),(19,lV a0),(20,iV (af a0)),(21,iV (0:Int))],[],0⟩ hX aN ?_;refine HT.block ?_;obtain ⟨r6,GQ,hr⟩:=ae hr;refine HT.bX (fun (s5:Nat×Int×Int)=>⟨[(1,iV q1),(6,fV q3),(7,fV s5.1),(8,iV s5.2.1),(19,lV a0),(20,iV (af a0)),(21,iV s5.2.2)],[],0⟩) (fun (r6:Int⊕Int)=>match r6 with| .inl r7=>(.exit 0,⟨[(1,iV q1),(8,iV r7)],[],0⟩)| .inr r8=>(.ret,⟨[(4,iV r8),(5,iV q1)],[],0⟩)) (Le.re [] [] hX (by kernel_rfl)) GQ ?_ (fun s5 x9 cq vV=> ?_);rcases r6 with r7|r8
 refine (aK (ah ?_));refine av (aI 4) ⟨[(4,iV r7),(5,iV q1)],[],0⟩ hX aN ?_;have hr:=aa hr;subst hr;exact HT.ret (rO [iV r7,iV q1] [] [] trivial);have hr:=aa hr;subst hr;exact (bZ (aQ (rO [iV r8,iV q1] [] [] trivial)));refine av [oH] ⟨[(1,iV q1),(6,fV q3),(7,fV s5.1),(8,iV s5.2.1),(19,lV a0),(20,iV (af a0)),(21,iV s5.2.2),(22,bV (decide (s5.2.2<(af a0))))],[],0⟩ hX aN ?_;refine HT.seq ?_;rcases ak cq with ⟨dX,cq⟩|⟨dX,cq⟩
 refine HT.aH rfl dX ?_;refine HT.skip (ah ?_);obtain ⟨YM,m5,cq⟩:=ae cq;refine HT.join (fun (Nx:Int)=>⟨[(1,iV q1),(6,fV q3),(7,fV (aq .add .f32 s5.1 (List.getD a0 (Int.toNat s5.2.2) (0:Nat)))),(8,iV Nx),(19,lV a0),(20,iV (af a0)),(21,iV s5.2.2)],[],0⟩) (fun v=>YM=Sum.inl v) (fun Nx RA=> ?_) (fun cont=> ?_);subst RA;have cq:=aa cq;subst cq;exact HT.ct (aI 2) [] [] hX (by kernel_rfl) aN (fun _ h=>(bw ⟨((aq .add .f32 s5.1 (List.getD a0 (Int.toNat s5.2.2) (0:Nat))),Nx,(ai .i64 s5.2.2 (1:Int))),rfl,h⟩));refine HT.block ?_;obtain ⟨EW,m5⟩:=aj m5;refine av (aI 5) ⟨[(1,iV q1),(6,fV q3),(7,fV s5.1),(8,iV s5.2.1),(9,iV s5.2.2),(10,fV (List.getD a0 (Int.toNat s5.2.2) (0:Nat))),(19,lV a0),(20,iV (af a0)),(21,iV s5.2.2)],[],0⟩ hX (aC EW aN) ?_;refine av (aI 4) ⟨[(1,iV q1),(6,fV q3),(7,fV (aq .add .f32 s5.1 (List.getD a0 (Int.toNat s5.2.2) (0:Nat)))),(8,iV s5.2.1),(9,iV s5.2.2),(10,fV (List.getD a0 (Int.toNat s5.2.2) (0:Nat))),(19,lV a0),(20,iV (af a0)),(21,iV s5.2.2)],[],0⟩ hX aN ?_;refine HT.seq ?_;refine av (aI 3) ⟨[(1,iV q1),(6,fV q3),(7,fV (aq .add .f32 s5.1 (List.getD a0 (Int.toNat s5.2.2) (0:Nat)))),(8,iV s5.2.1),(9,iV s5.2.2),(10,fV (List.getD a0 (Int.toNat s5.2.2) (0:Nat))),(19,lV a0),(20,iV (af a0)),(21,iV s5.2.2),(31,bV (pP .f32 (aq .add .f32 s5.1 (List.getD a0 (Int.toNat s5.2.2) (0:Nat))) q3))],[],0⟩ hX aN ?_;rcases ak m5 with ⟨iX,m5⟩|⟨iX,m5⟩
 refine HT.aH rfl iX ?_;refine av (aI 4) ⟨[(4,iV s5.2.2),(5,iV q1)],[],0⟩ hX aN ?_;obtain ⟨z19,YN,YO⟩:=CK m5;subst YO;have cq:=YN.trans cq;have cq:=aa cq;subst cq;exact HT.te (Le.re [] [] hX (by kernel_rfl)) (aQ (bZ (aQ (jq (vV (.inr s5.2.2) rfl)))));refine HT.aE rfl iX ?_;refine HT.skip (ah ?_);refine av (aI 2) ⟨[(1,iV q1),(6,fV q3),(7,fV (aq .add .f32 s5.1 (List.getD a0 (Int.toNat s5.2.2) (0:Nat)))),(8,iV s5.2.1),(9,iV s5.2.2),(19,lV a0),(20,iV (af a0)),(21,iV s5.2.2),(35,bV (pP .f32 (List.getD a0 (Int.toNat s5.2.2) (0:Nat)) (0:Nat)))],[],0⟩ hX aN ?_;rcases ak m5 with ⟨og,m5⟩|⟨og,m5⟩
 refine HT.aH rfl og ?_;exact HT.ct (aI 2) [] [] hX (by kernel_rfl) aN (fun _ h=>(bj (ah (h.ht (cont s5.2.2 (cl m5))))));refine HT.aE rfl og ?_;refine HT.skip (bj (ah ?_));exact (Le.re [] [] hX (by kernel_rfl)).ht (cont s5.2.1 (cl m5));refine HT.aE rfl dX ?_;have cq:=aa cq;subst cq;exact HT.bW (Le.re [] [] hX (by kernel_rfl)) (bm (bt (vV (.inl s5.2.1) rfl)))
noncomputable def i7 (a0:dW)(a2:Int)(s7:Int×Int×Int×List Int×List Int):Option ((Int×Int×Int×List Int×List Int)⊕((Int×List Int×List Int))):=
 bif (decide (s7.2.2.1<a2)) then
  (bH a0.2.2.2.2 a0.2.1 s7.2.1).bind fun pB=>
  (mq pB s7.1).bind fun kA=>
  (bH a0.2.2.2.1 a0.1 s7.2.1).bind fun gJ=>
  (mq gJ kA.2).bind fun rA=>
  ao (List.length s7.2.2.2.1+List.length ([kA.1]:List Int)≤bg) (
   ao (List.length s7.2.2.2.2+List.length ([rA.1]:List Int)≤bg) (
    some (.inl (rA.2,rA.1,(ai .i64 s7.2.2.1 (1:Int)),(s7.2.2.2.1++([kA.1]:List Int)),(s7.2.2.2.2++([rA.1]:List Int))))))
 else
  some (.inr (s7.1,s7.2.2.2.1,s7.2.2.2.2))
noncomputable def ju (a0:dW)(a1:Int)(a2:Int):Option (List Int×List Int×Int×Bool):=
 (show Option (Bool) from
  (cV (a0.1,a0.2.1,a0.2.2.1,a0.2.2.2.1,a0.2.2.2.2)).bind fun xB=>
  bif (!xB) then
   some true
  else
   (bf a1 (0:Int) (4294967295:Int)).bind fun J7=>
   bif (!J7) then
    some true
   else
    (bf a2 (0:Int) (12:Int)).bind fun Ax=>
    some (!Ax)).bind fun v1=>
 bif v1 then
  some (([]:List Int),([]:List Int),(0:Int),false)
 else
  (mq a0.2.2.1 a1).bind fun y5=>
  (rounds (i7 a0 a2) (y5.2,y5.1,(0:Int),([]:List Int),([y5.1]:List Int))).bind fun r9=>
  some (r9.2.1,r9.2.2,r9.1,true)
theorem RB {a0:dW}{a1:Int}{a2:Int}{r:List Int×List Int×Int×Bool}(hr:ju a0 a1 a2=some r):CallOK Try.prog 38 [.an tM a0,.an tI a1,.an tI a2] [⟨true,eo,r.1⟩,⟨true,eo,r.2.1⟩,⟨false,tI,r.2.2.1⟩,⟨false,.bool,r.2.2.2⟩] []:=by
 unfold ju at hr;refine jh [(true,eo),(true,eo),(false,tI),(false,.bool)] Try.func38 rfl [] fun cx hX hF=> ?_;show HT cx ⟨[(0,.agg [iC a0.1,iC a0.2.1,lC a0.2.2.1,lC a0.2.2.2.1,lC a0.2.2.2.2]),(1,iV a1),(2,iV a2)],[],0⟩ _ _;refine av (aI 5) ⟨[(1,iV a1),(2,iV a2),(3,pV 0 0)],[(0,aU a0)],1⟩ hX aN ?_;refine HT.seq ?_;obtain ⟨oR,aX,hr⟩:=ae hr;refine HT.join (fun (v1:Bool)=>⟨[(1,iV a1),(2,iV a2),(3,pV 0 0),(26,bV v1)],[(0,aU a0)],1⟩) (fun v=>v=oR) (fun v1 mU=> ?_) (fun cont=> ?_);subst mU;rcases ak hr with ⟨dS,hr⟩|⟨dS,hr⟩
 refine HT.aH rfl dS ?_;refine av (aI 4) ⟨[(6,.one (.al)),(7,.one (.al)),(8,iV (0:Int)),(9,bV false)],[],1⟩ hX aN ?_;have hr:=aa hr;subst hr;exact HT.ret (aQ (rO [.one (.al),.one (.al),iV (0:Int),bV false] [] [] trivial));refine HT.aE rfl dS ?_;refine HT.skip (ah ?_);obtain ⟨y5,Jv,hr⟩:=ae hr;refine av [oH,oH,oH,⟨none,.call [.an cb,.an tI] [⟨false,tI,y5.1⟩,⟨false,tI,y5.2⟩] []⟩,oH,oH,oH,oH,oH] ⟨[(1,iV y5.2),(2,iV a2),(3,pV 0 0),(10,iV y5.1)],[(0,aU a0)],1⟩ hX (aC (G1 Jv) aN) ?_;refine av [oH,oH,⟨none,.ty tI⟩,oH,oH] ⟨[(1,iV y5.2),(2,iV a2),(3,pV 0 0),(10,iV y5.1),(11,.one (.al)),(12,aV 1)],[(1,.seq tI ([y5.1]:List Int)),(0,aU a0)],2⟩ hX aN ?_;refine HT.seq ?_;refine av (aI 2) ⟨[(1,iV y5.2),(3,pV 0 0),(10,iV y5.1),(11,.one (.al)),(12,aV 1),(37,iV a2),(38,iV (0:Int))],[(1,.seq tI ([y5.1]:List Int)),(0,aU a0)],2⟩ hX aN ?_;refine HT.block ?_;obtain ⟨r8,RC,hr⟩:=ae hr;refine HT.bX (fun (s7:Int×Int×Int×List Int×List Int)=>⟨[(1,iV s7.1),(3,pV 0 0),(10,iV s7.2.1),(11,aV 1),(12,aV 2),(37,iV a2),(38,iV s7.2.2.1)],[(0,aU a0),(1,.seq tI s7.2.2.2.1),(2,.seq tI s7.2.2.2.2)],3⟩) (fun (r9:(Int×List Int×List Int))=>(.exit 0,⟨[(1,iV r9.1),(11,aV 0),(12,aV 1)],[(0,.seq tI r9.2.1),(1,.seq tI r9.2.2)],2⟩)) (Le.re [(0,0),(1,2)] [1] hX (by kernel_rfl)) RC ?_ (fun s7 x10 iu Rb=> ?_);refine (aK (ah ?_));refine av (aI 7) ⟨[(6,aV 0),(7,aV 1),(8,iV r8.1),(9,bV true)],[(0,.seq tI r8.2.1),(1,.seq tI r8.2.2)],2⟩ hX aN ?_;have hr:=aa hr;subst hr;exact HT.ret (rO [aV 0,aV 1,iV r8.1,bV true] [0,1] [] trivial);refine av [oH] ⟨[(1,iV s7.1),(3,pV 0 0),(10,iV s7.2.1),(11,aV 1),(12,aV 2),(37,iV a2),(38,iV s7.2.2.1),(39,bV (decide (s7.2.2.1<a2)))],[(0,aU a0),(1,.seq tI s7.2.2.2.1),(2,.seq tI s7.2.2.2.2)],3⟩ hX aN ?_;refine HT.seq ?_;rcases ak iu with ⟨GK,iu⟩|⟨GK,iu⟩
 refine HT.aH rfl GK ?_;refine HT.skip (ah ?_);refine HT.seq ?_;refine HT.block ?_;refine av [oH] ⟨[(1,iV s7.1),(3,pV 0 0),(10,iV s7.2.1),(11,aV 1),(12,aV 2),(37,iV a2),(38,iV s7.2.2.1)],[(0,aU a0),(1,.seq tI s7.2.2.2.1),(2,.seq tI s7.2.2.2.2)],3⟩ hX aN ?_;obtain ⟨pB,GL,iu⟩:=ae iu;obtain ⟨kA,LD,iu⟩:=ae iu;refine av [oH,oH,oH,oH,oH,⟨none,.call [.an cb,.an tI,.an tI] [⟨false,cb,pB⟩] []⟩,oH,⟨none,.call [.an cb,.an tI] [⟨false,tI,kA.1⟩,⟨false,tI,kA.2⟩] []⟩,oH,oH,oH,oH,oH] ⟨[(1,iV kA.2),(3,pV 0 0),(10,iV s7.2.1),(11,aV 1),(12,aV 2),(13,iV kA.1),(37,iV a2),(38,iV s7.2.2.1)],[(0,aU a0),(1,.seq tI s7.2.2.2.1),(2,.seq tI s7.2.2.2.2)],3⟩ hX (aC (C9 GL) (aC (G1 LD) aN)) ?_;obtain ⟨gJ,A7,iu⟩:=ae iu;obtain ⟨rA,GS,iu⟩:=ae iu;refine av [oH,oH,oH,oH,oH,⟨none,.call [.an cb,.an tI,.an tI] [⟨false,cb,gJ⟩] []⟩,oH,⟨none,.call [.an cb,.an tI] [⟨false,tI,rA.1⟩,⟨false,tI,rA.2⟩] []⟩,oH,oH,oH,oH,oH] ⟨[(1,iV rA.2),(3,pV 0 0),(10,iV rA.1),(11,aV 1),(12,aV 2),(13,iV kA.1),(37,iV a2),(38,iV s7.2.2.1)],[(0,aU a0),(1,.seq tI s7.2.2.2.1),(2,.seq tI s7.2.2.2.2)],3⟩ hX (aC (C9 A7) (aC (G1 GS) aN)) ?_;obtain ⟨RE,iu⟩:=aj iu;refine av [oH,oH,⟨none,.ty tI⟩,⟨none,.ty tI⟩,oH] ⟨[(1,iV rA.2),(3,pV 0 0),(10,iV rA.1),(11,aV 4),(12,aV 2),(37,iV a2),(38,iV s7.2.2.1)],[(4,.seq tI (s7.2.2.2.1++([kA.1]:List Int))),(0,aU a0),(2,.seq tI s7.2.2.2.2)],5⟩ hX (aC RE aN) ?_;obtain ⟨YP,iu⟩:=aj iu;refine HT.DP [oH,oH,⟨none,.ty tI⟩,⟨none,.ty tI⟩,oH] ⟨[(1,iV rA.2),(3,pV 0 0),(10,iV rA.1),(11,aV 4),(12,aV 6),(37,iV a2),(38,iV s7.2.2.1)],[(6,.seq tI (s7.2.2.2.2++([rA.1]:List Int))),(4,.seq tI (s7.2.2.2.1++([kA.1]:List Int))),(0,aU a0)],7⟩ hX (by kernel_rfl) (aC YP aN) (bj (ah ?_));have iu:=aa iu;subst iu;exact HT.ct (aI 2) [(0,0),(4,1),(6,2)] [] hX (by kernel_rfl) aN (fun _ h=>(bw ⟨(rA.2,rA.1,(ai .i64 s7.2.2.1 (1:Int)),(s7.2.2.2.1++([kA.1]:List Int)),(s7.2.2.2.2++([rA.1]:List Int))),rfl,h⟩));refine HT.aE rfl GK ?_;have iu:=aa iu;subst iu;exact HT.bW (Le.re [(1,0),(2,1)] [] hX (by kernel_rfl)) (bm (bt (Rb (s7.1,s7.2.2.2.1,s7.2.2.2.2) rfl)));obtain ⟨xB,xC,aX⟩:=ae aX;rcases ak aX with ⟨fK,aX⟩|⟨fK,aX⟩
 exact HT.ct [oH,⟨none,.call [.an tM] [⟨false,.bool,xB⟩] []⟩,oH,oH,oT,oT,oT,vT,oH,oT,oT,oT,vT] [(0,0)] [] hX (by kernel_rfl) (aC (kO xC) (aC fK (aC fK (aC fK (aC fK (cR aN)))))) (fun _ h=>(ah (h.ht (cont true (aa aX)))));obtain ⟨J7,E3,aX⟩:=ae aX;rcases ak aX with ⟨cw,aX⟩|⟨cw,aX⟩
 exact HT.ct [oH,⟨none,.call [.an tM] [⟨false,.bool,xB⟩] []⟩,oH,oH,oF,⟨some false,.call [.an tI,.an tI,.an tI] [⟨false,.bool,J7⟩] []⟩,oF,vF,oH,oT,oT,oT,vT] [(0,0)] [] hX (by kernel_rfl) (aC (kO xC) (aC fK (aC fK (aC (e8 E3) (aC fK (aC fK (aC cw (aC cw (aC cw (aC cw aN)))))))))) (fun _ h=>(ah (h.ht (cont true (aa aX)))));obtain ⟨Ax,Dd,aX⟩:=ae aX;exact HT.ct [oH,⟨none,.call [.an tM] [⟨false,.bool,xB⟩] []⟩,oH,oH,oF,⟨some false,.call [.an tI,.an tI,.an tI] [⟨false,.bool,J7⟩] []⟩,oF,vF,oH,oF,⟨some false,.call [.an tI,.an tI,.an tI] [⟨false,.bool,Ax⟩] []⟩,oF,vF] [(0,0)] [] hX (by kernel_rfl) (aC (kO xC) (aC fK (aC fK (aC (e8 E3) (aC fK (aC fK (aC cw (aC cw (aC (e8 Dd) (aC cw (aC cw aN))))))))))) (fun _ h=>(ah (h.ht (cont (!Ax) (aa aX)))))
noncomputable def eX (a0:Int):Option (Nat×Int):=
 (some (Int.tmod (ai .i64 (az .i64 (1664525:Int) a0) (1013904223:Int)) (4294967296:Int))).bind fun q1=>
 (some (aq .quo .f32 (bK .f32 (IntKind.wrap .i64 (Int.tdiv q1 (256:Int)))) (1266679808:Nat))).bind fun q3=>
 some (q3,q1)
theorem G2 {a0:Int}{r:Nat×Int}(hr:eX a0=some r):CallOK Try.prog 91 [.own (.bx tI) [a0]] [⟨false,tF,r.1⟩] [⟨(.bx tI),[r.2]⟩]:=by
 unfold eX at hr;refine jh [(false,tF)] Try.func91 rfl [0] fun cx hX hF=> ?_;show HT cx ⟨[(0,.one (.dI 0 0 1 0))],[(0,.seq tI ([a0]))],1⟩ _ _;refine av [oH] ⟨[(0,.one (.dI 0 0 1 0))],[(0,.seq tI ([a0]))],1⟩ hX aN ?_;refine av (aI 9) ⟨[(0,.one (.dI 0 0 1 0))],[(0,.seq tI ([(Int.tmod (ai .i64 (az .i64 (1664525:Int) a0) (1013904223:Int)) (4294967296:Int))]))],1⟩ hX (aC (show 0<List.length [a0] from Nat.zero_lt_one) (aC (show (4294967296:Int)≠0 from by decide) (aC (show 0<List.length [a0] from Nat.zero_lt_one) aN))) ?_;obtain ⟨q1,xu,hr⟩:=ae hr;have xu:=cl xu;refine (Le.cv (s:=⟨[(0,0)],[],[],false⟩) (own:=[0]) (ps:=[0=0,[q1]=[(Int.tmod (ai .i64 (az .i64 (1664525:Int) a0) (1013904223:Int)) (4294967296:Int))]]) (st':=⟨[(0,.one (.dI 0 0 1 0))],[(0,.seq tI ([q1]))],1⟩) hX.own (fun h=>by cases h) (by kernel_rfl) ⟨rfl,(congrArg (fun z=>[z]) xu),trivial⟩).ht ?_;refine av (aI 7) ⟨[(2,fV (aq .quo .f32 (bK .f32 (IntKind.wrap .i64 (Int.tdiv q1 (256:Int)))) (1266679808:Nat)))],[(0,.seq tI ([q1]))],1⟩ hX (aC (show 0<List.length [q1] from Nat.zero_lt_one) (aC (show (256:Int)≠0 from by decide) aN)) ?_;obtain ⟨q3,LO,hr⟩:=ae hr;have LO:=cl LO;refine (Le.cv (s:=⟨[(0,0)],[],[],false⟩) (own:=[0]) (ps:=[q3=(aq .quo .f32 (bK .f32 (IntKind.wrap .i64 (Int.tdiv q1 (256:Int)))) (1266679808:Nat)),[q1]=[q1]]) (st':=⟨[(2,fV q3)],[(0,.seq tI ([q1]))],1⟩) hX.own (fun h=>by cases h) (by kernel_rfl) ⟨LO,rfl,trivial⟩).ht ?_;have hr:=aa hr;subst hr;exact HT.ret (rO [fV q3] [] [List.length ([q1])=List.length [a0]] ⟨(show List.length ([q1])=List.length [a0] from rfl),trivial⟩)
noncomputable def iO (a0:List Nat)(a1:Nat)(s1:Nat×Int×Int):Option ((Nat×Int×Int)⊕(Int⊕Int)):=
 bif (decide (s1.2.2<(af a0))) then
  (show Option (Int⊕((Nat×Int×Int)⊕(Int⊕Int))) from
   ao ((0:Int)≤s1.2.2∧s1.2.2<af a0) (
    bif (pP .f32 (aq .add .f32 s1.1 (List.getD a0 (Int.toNat s1.2.2) (0:Nat))) a1) then
     Jj (some (.inr (.inr s1.2.2)))
    else
     bif (pP .f32 (List.getD a0 (Int.toNat s1.2.2) (0:Nat)) (0:Nat)) then
      some (.inl s1.2.2)
     else
      some (.inl s1.2.1))).bind fun UN=>match UN with
   | .inl v9=>
    some (.inl ((aq .add .f32 s1.1 (List.getD a0 (Int.toNat s1.2.2) (0:Nat))),v9,(ai .i64 s1.2.2 (1:Int))))
   | .inr z=>some z
 else
  some (.inr (.inl s1.2.1))
noncomputable def ew (a0:List Nat)(a1:Nat):Option (Int):=
 (rounds (iO a0 a1) ((0:Nat),(0:Int),(0:Int))).bind fun r2=>match r2 with
  | .inl r3=>
   some r3
  | .inr r4=>
   some r4
theorem G3 {a0:List Nat}{a1:Nat}{r:Int}(hr:ew a0 a1=some r):CallOK Try.prog 90 [.an cb a0,.an tF a1] [⟨false,tI,r⟩] []:=by
 unfold ew at hr;refine jh [(false,tI)] Try.func90 rfl [] fun cx hX hF=> ?_;show HT cx ⟨[(0,lV a0),(1,fV a1)],[],0⟩ _ _;refine av [oH] ⟨[(0,lV a0),(1,fV a1)],[],0⟩ hX aN ?_;refine av [oH] ⟨[(0,lV a0),(1,fV a1),(5,fV (0:Nat))],[],0⟩ hX aN ?_;refine av [oH] ⟨[(0,lV a0),(1,fV a1),(5,fV (0:Nat)),(6,iV (0:Int))],[],0⟩ hX aN ?_;refine HT.seq ?_;refine av (aI 3) ⟨[(0,lV a0),(1,fV a1),(5,fV (0:Nat)),(6,iV (0:Int)),(9,iV (af a0)),(10,iV (0:Int))],[],0⟩ hX aN ?_;refine HT.block ?_;obtain ⟨r2,Rh,hr⟩:=ae hr;refine HT.bX (fun (s1:Nat×Int×Int)=>⟨[(0,lV a0),(1,fV a1),(5,fV s1.1),(6,iV s1.2.1),(9,iV (af a0)),(10,iV s1.2.2)],[],0⟩) (fun (r2:Int⊕Int)=>match r2 with| .inl r3=>(.exit 0,⟨[(6,iV r3)],[],0⟩)| .inr r4=>(.ret,⟨[(4,iV r4)],[],0⟩)) (Le.re [] [] hX (by kernel_rfl)) Rh ?_ (fun s1 x5 il Im=> ?_);rcases r2 with r3|r4
 refine (aK (ah ?_));refine av (aI 2) ⟨[(4,iV r3)],[],0⟩ hX aN ?_;have hr:=aa hr;subst hr;exact HT.ret (rO [iV r3] [] [] trivial);have hr:=aa hr;subst hr;exact (bZ (aQ (rO [iV r4] [] [] trivial)));refine av [oH] ⟨[(0,lV a0),(1,fV a1),(5,fV s1.1),(6,iV s1.2.1),(9,iV (af a0)),(10,iV s1.2.2),(11,bV (decide (s1.2.2<(af a0))))],[],0⟩ hX aN ?_;refine HT.seq ?_;rcases ak il with ⟨od,il⟩|⟨od,il⟩
 refine HT.aH rfl od ?_;refine HT.skip (ah ?_);obtain ⟨UN,zG,il⟩:=ae il;refine HT.join (fun (v9:Int)=>⟨[(0,lV a0),(1,fV a1),(5,fV (aq .add .f32 s1.1 (List.getD a0 (Int.toNat s1.2.2) (0:Nat)))),(6,iV v9),(9,iV (af a0)),(10,iV s1.2.2)],[],0⟩) (fun v=>UN=Sum.inl v) (fun v9 YQ=> ?_) (fun cont=> ?_);subst YQ;have il:=aa il;subst il;exact HT.ct (aI 2) [] [] hX (by kernel_rfl) aN (fun _ h=>(bw ⟨((aq .add .f32 s1.1 (List.getD a0 (Int.toNat s1.2.2) (0:Nat))),v9,(ai .i64 s1.2.2 (1:Int))),rfl,h⟩));refine HT.block ?_;refine av (aI 2) ⟨[(0,lV a0),(1,fV a1),(5,fV s1.1),(6,iV s1.2.1),(7,iV s1.2.2),(9,iV (af a0)),(10,iV s1.2.2)],[],0⟩ hX aN ?_;obtain ⟨qK,zG⟩:=aj zG;refine av (aI 7) ⟨[(0,lV a0),(1,fV a1),(5,fV (aq .add .f32 s1.1 (List.getD a0 (Int.toNat s1.2.2) (0:Nat)))),(6,iV s1.2.1),(7,iV s1.2.2),(9,iV (af a0)),(10,iV s1.2.2)],[],0⟩ hX (aC qK aN) ?_;refine HT.seq ?_;refine av (aI 3) ⟨[(0,lV a0),(1,fV a1),(5,fV (aq .add .f32 s1.1 (List.getD a0 (Int.toNat s1.2.2) (0:Nat)))),(6,iV s1.2.1),(7,iV s1.2.2),(9,iV (af a0)),(10,iV s1.2.2),(21,bV (pP .f32 (aq .add .f32 s1.1 (List.getD a0 (Int.toNat s1.2.2) (0:Nat))) a1))],[],0⟩ hX aN ?_;rcases ak zG with ⟨mh,zG⟩|⟨mh,zG⟩
 refine HT.aH rfl mh ?_;refine av (aI 2) ⟨[(4,iV s1.2.2)],[],0⟩ hX aN ?_;obtain ⟨z15,YR,YS⟩:=CK zG;subst YS;have il:=YR.trans il;have il:=aa il;subst il;exact HT.te (Le.re [] [] hX (by kernel_rfl)) (aQ (bZ (aQ (jq (Im (.inr s1.2.2) rfl)))));refine HT.aE rfl mh ?_;refine HT.skip (ah ?_);refine av (aI 5) ⟨[(0,lV a0),(1,fV a1),(5,fV (aq .add .f32 s1.1 (List.getD a0 (Int.toNat s1.2.2) (0:Nat)))),(6,iV s1.2.1),(7,iV s1.2.2),(9,iV (af a0)),(10,iV s1.2.2),(27,bV (pP .f32 (List.getD a0 (Int.toNat s1.2.2) (0:Nat)) (0:Nat)))],[],0⟩ hX (aC qK aN) ?_;rcases ak zG with ⟨iX,zG⟩|⟨iX,zG⟩
 refine HT.aH rfl iX ?_;exact HT.ct (aI 2) [] [] hX (by kernel_rfl) aN (fun _ h=>(bj (ah (h.ht (cont s1.2.2 (cl zG))))));refine HT.aE rfl iX ?_;refine HT.skip (bj (ah ?_));exact (Le.re [] [] hX (by kernel_rfl)).ht (cont s1.2.1 (cl zG));refine HT.aE rfl od ?_;have il:=aa il;subst il;exact HT.bW (Le.re [] [] hX (by kernel_rfl)) (bm (bt (Im (.inl s1.2.1) rfl)))
noncomputable def kh (a0:Nat):Option (Bool):=
 (show Option (Bool) from
  bif (sx .f32 a0 (0:Nat)) then
   some (pO .f32 a0 (1065353216:Nat))
  else
   some false).bind fun v1=>
 some v1
theorem Ou {a0:Nat}{r:Bool}(hr:kh a0=some r):CallOK Try.prog 132 [.an tF a0] [⟨false,.bool,r⟩] []:=by
 unfold kh at hr;refine jh [(false,.bool)] Try.func132 rfl [] fun cx hX hF=> ?_;show HT cx ⟨[(0,fV a0)],[],0⟩ _ _;refine av [oH] ⟨[(0,fV a0)],[],0⟩ hX aN ?_;obtain ⟨oR,aX,hr⟩:=ae hr;refine HT.join (fun (v1:Bool)=>⟨[(2,bV v1)],[],0⟩) (fun v=>v=oR) (fun v1 mU=> ?_) (fun cont=> ?_);subst mU;have hr:=aa hr;subst hr;exact HT.ret (rO [bV v1] [] [] trivial);rcases ak aX with ⟨dS,aX⟩|⟨dS,aX⟩
 exact HT.ct [oH,oH,oH,oT,oT,vT,oH] [] [] hX (by kernel_rfl) (aC dS (aC dS (aC dS aN))) (fun _ h=>(ah (h.ht (cont (pO .f32 a0 (1065353216:Nat)) (aa aX)))));exact HT.ct [oH,oH,oH,oF,oF,vF,oH] [] [] hX (by kernel_rfl) (aC dS (aC dS (aC dS aN))) (fun _ h=>(ah (h.ht (cont false (aa aX)))))
noncomputable def gZ (a0:List Nat)(s1:Nat×Int):Option ((Nat×Int)⊕(Nat⊕Unit)):=
 bif (decide (s1.2<(af a0))) then
  ao ((0:Int)≤s1.2∧s1.2<af a0) (
   (kh (List.getD a0 (Int.toNat s1.2) (0:Nat))).bind fun pB=>
   bif (!pB) then
    some (.inr (.inr ()))
   else
    some (.inl ((aq .add .f32 s1.1 (List.getD a0 (Int.toNat s1.2) (0:Nat))),(ai .i64 s1.2 (1:Int)))))
 else
  some (.inr (.inl s1.1))
noncomputable def jv (a0:List Nat):Option (Bool):=
 (rounds (gZ a0) ((0:Nat),(0:Int))).bind fun r2=>match r2 with
  | .inl r3=>
   (show Option (Bool) from
    bif (pO .f32 (aq .sub .f32 r3 (1065353216:Nat)) (981668463:Nat)) then
     some (sx .f32 (aq .sub .f32 r3 (1065353216:Nat)) (3129152111:Nat))
    else
     some false).bind fun v4=>
   some v4
  | .inr r8=>
   some false
theorem xS {a0:List Nat}{r:Bool}(hr:jv a0=some r):CallOK Try.prog 118 [.an cb a0] [⟨false,.bool,r⟩] []:=by
 unfold jv at hr;refine jh [(false,.bool)] Try.func118 rfl [] fun cx hX hF=> ?_;show HT cx ⟨[(0,lV a0)],[],0⟩ _ _;refine av [oH] ⟨[(0,lV a0)],[],0⟩ hX aN ?_;refine av [oH] ⟨[(0,lV a0),(3,fV (0:Nat))],[],0⟩ hX aN ?_;refine HT.seq ?_;refine av (aI 3) ⟨[(0,lV a0),(3,fV (0:Nat)),(6,iV (af a0)),(7,iV (0:Int))],[],0⟩ hX aN ?_;refine HT.block ?_;obtain ⟨r2,YT,hr⟩:=ae hr;refine HT.bX (fun (s1:Nat×Int)=>⟨[(0,lV a0),(3,fV s1.1),(6,iV (af a0)),(7,iV s1.2)],[],0⟩) (fun (r2:Nat⊕Unit)=>match r2 with| .inl r3=>(.exit 0,⟨[(3,fV r3)],[],0⟩)| .inr r8=>(.ret,⟨[(2,bV false)],[],0⟩)) (Le.re [] [] hX (by kernel_rfl)) YT ?_ (fun s1 x9 cq vV=> ?_);rcases r2 with r3|r8
 refine (aK (ah ?_));obtain ⟨UC,CY,hr⟩:=ae hr;refine HT.join (fun (v4:Bool)=>⟨[(2,bV v4)],[],0⟩) (fun v=>v=UC) (fun v4 UE=> ?_) (fun cont=> ?_);subst UE;have hr:=aa hr;subst hr;exact HT.ret (rO [bV v4] [] [] trivial);rcases ak CY with ⟨oA,CY⟩|⟨oA,CY⟩
 exact HT.ct [oH,oH,oH,oH,oT,oT,oT,vT,oH] [] [] hX (by kernel_rfl) (aC oA (aC oA (aC oA (aC oA aN)))) (fun _ h=>(ah (h.ht (cont (sx .f32 (aq .sub .f32 r3 (1065353216:Nat)) (3129152111:Nat)) (aa CY)))));exact HT.ct [oH,oH,oH,oH,oF,oF,oF,vF,oH] [] [] hX (by kernel_rfl) (aC oA (aC oA (aC oA (aC oA aN)))) (fun _ h=>(ah (h.ht (cont false (aa CY)))));have hr:=aa hr;subst hr;exact (bZ (aQ (rO [bV false] [] [] trivial)));refine av [oH] ⟨[(0,lV a0),(3,fV s1.1),(6,iV (af a0)),(7,iV s1.2),(8,bV (decide (s1.2<(af a0))))],[],0⟩ hX aN ?_;refine HT.seq ?_;rcases ak cq with ⟨dX,cq⟩|⟨dX,cq⟩
 refine HT.aH rfl dX ?_;refine HT.skip (ah ?_);refine HT.seq ?_;refine HT.block ?_;refine av (aI 2) ⟨[(0,lV a0),(3,fV s1.1),(4,iV s1.2),(6,iV (af a0)),(7,iV s1.2)],[],0⟩ hX aN ?_;refine HT.seq ?_;obtain ⟨qK,cq⟩:=aj cq;obtain ⟨pB,GL,cq⟩:=ae cq;refine av [oH,oH,oH,oH,⟨none,.call [.an tF] [⟨false,.bool,pB⟩] []⟩,oH] ⟨[(0,lV a0),(3,fV s1.1),(4,iV s1.2),(6,iV (af a0)),(7,iV s1.2),(15,bV (!pB))],[],0⟩ hX (aC qK (aC (Ou GL) aN)) ?_;rcases ak cq with ⟨tW,cq⟩|⟨tW,cq⟩
 refine HT.aH rfl tW ?_;refine av [oH] ⟨[(2,bV false)],[],0⟩ hX aN ?_;have cq:=aa cq;subst cq;exact HT.te (Le.re [] [] hX (by kernel_rfl)) (aQ (bZ (aQ (jq (vV (.inr ()) rfl)))));refine HT.aE rfl tW ?_;refine HT.skip (ah ?_);refine HT.DP (aI 7) ⟨[(0,lV a0),(3,fV (aq .add .f32 s1.1 (List.getD a0 (Int.toNat s1.2) (0:Nat)))),(6,iV (af a0)),(7,iV s1.2)],[],0⟩ hX (by kernel_rfl) (aC qK aN) (bj (ah ?_));have cq:=aa cq;subst cq;exact HT.ct (aI 2) [] [] hX (by kernel_rfl) aN (fun _ h=>(bw ⟨((aq .add .f32 s1.1 (List.getD a0 (Int.toNat s1.2) (0:Nat))),(ai .i64 s1.2 (1:Int))),rfl,h⟩));refine HT.aE rfl dX ?_;have cq:=aa cq;subst cq;exact HT.bW (Le.re [] [] hX (by kernel_rfl)) (bm (bt (vV (.inl s1.1) rfl)))
noncomputable def cr (a0:Int)(a1:Int)(a2:Int):Option (Bool):=
 (show Option (Bool) from
  bif (decide (a0≥a1)) then
   some (decide (a0≤a2))
  else
   some false).bind fun v1=>
 some v1
theorem g8 {a0:Int}{a1:Int}{a2:Int}{r:Bool}(hr:cr a0 a1 a2=some r):CallOK Try.prog 89 [.an tI a0,.an tI a1,.an tI a2] [⟨false,.bool,r⟩] []:=by
 unfold cr at hr;refine jh [(false,.bool)] Try.func89 rfl [] fun cx hX hF=> ?_;show HT cx ⟨[(0,iV a0),(1,iV a1),(2,iV a2)],[],0⟩ _ _;refine av [oH] ⟨[(0,iV a0),(1,iV a1),(2,iV a2)],[],0⟩ hX aN ?_;obtain ⟨oR,aX,hr⟩:=ae hr;refine HT.join (fun (v1:Bool)=>⟨[(6,bV v1)],[],0⟩) (fun v=>v=oR) (fun v1 mU=> ?_) (fun cont=> ?_);subst mU;have hr:=aa hr;subst hr;exact HT.ret (rO [bV v1] [] [] trivial);rcases ak aX with ⟨dS,aX⟩|⟨dS,aX⟩
 exact HT.ct [oH,oH,oH,oH,oT,oT,oT,vT,oH] [] [] hX (by kernel_rfl) (aC dS (aC dS (aC dS (aC dS aN)))) (fun _ h=>(ah (h.ht (cont (decide (a0≤a2)) (aa aX)))));exact HT.ct [oH,oH,oH,oH,oF,oF,oF,vF,oH] [] [] hX (by kernel_rfl) (aC dS (aC dS (aC dS (aC dS aN)))) (fun _ h=>(ah (h.ht (cont false (aa aX)))))
noncomputable def mD (a0:dW)(s5:Int):Option ((Int)⊕(Unit⊕Unit)):=
 bif (decide (s5<a0.1)) then
  (show Option (Bool) from
   ao ((0:Int)≤(az .i64 s5 a0.1)∧(az .i64 s5 a0.1)≤(ai .i64 (az .i64 s5 a0.1) a0.1)∧(ai .i64 (az .i64 s5 a0.1) a0.1)≤af a0.2.2.2.1) (
    (jv (cut a0.2.2.2.1 (az .i64 s5 a0.1) (ai .i64 (az .i64 s5 a0.1) a0.1))).bind fun gJ=>
    bif (!gJ) then
     some true
    else
     ao ((0:Int)≤(az .i64 s5 a0.2.1)∧(az .i64 s5 a0.2.1)≤(ai .i64 (az .i64 s5 a0.2.1) a0.2.1)∧(ai .i64 (az .i64 s5 a0.2.1) a0.2.1)≤af a0.2.2.2.2) (
      (jv (cut a0.2.2.2.2 (az .i64 s5 a0.2.1) (ai .i64 (az .i64 s5 a0.2.1) a0.2.1))).bind fun sP=>
      some (!sP)))).bind fun Nx=>
  bif Nx then
   some (.inr (.inr ()))
  else
   some (.inl (ai .i64 s5 (1:Int)))
 else
  some (.inr (.inl ()))
noncomputable def kR (a0:dW):Option (Bool):=
 (show Option (Bool) from
  (cr a0.1 (1:Int) (5:Int)).bind fun xB=>
  bif (!xB) then
   some true
  else
   (cr a0.2.1 (1:Int) (4:Int)).bind fun J7=>
   bif (!J7) then
    some true
   else
    bif ((af a0.2.2.1) != a0.1) then
     some true
    else
     bif ((af a0.2.2.2.1) != (az .i64 a0.1 a0.1)) then
      some true
     else
      bif ((af a0.2.2.2.2) != (az .i64 a0.1 a0.2.1)) then
       some true
      else
       (jv a0.2.2.1).bind fun GX=>
       some (!GX)).bind fun v1=>
 bif v1 then
  some false
 else
  (rounds (mD a0) (0:Int)).bind fun r6=>match r6 with
   | .inl r7=>
    some true
   | .inr r8=>
    some false
theorem tY {a0:dW}{r:Bool}(hr:kR a0=some r):CallOK Try.prog 75 [.jk tM a0] [⟨false,.bool,r⟩] []:=by
 unfold kR at hr;refine jh [(false,.bool)] Try.func75 rfl [] fun cx hX hF=> ?_;show HT cx ⟨[(0,.one (.ip tM a0 0))],[],0⟩ _ _;refine av [oH] ⟨[(0,.one (.ip tM a0 0))],[],0⟩ hX aN ?_;refine av (aI 5) ⟨[(0,.one (.ip tM a0 0)),(3,iV a0.1)],[],0⟩ hX aN ?_;refine av (aI 5) ⟨[(0,.one (.ip tM a0 0)),(3,iV a0.1),(4,iV a0.2.1)],[],0⟩ hX aN ?_;refine HT.seq ?_;obtain ⟨oR,aX,hr⟩:=ae hr;refine HT.join (fun (v1:Bool)=>⟨[(0,.one (.ip tM a0 0)),(3,iV a0.1),(4,iV a0.2.1),(60,bV v1)],[],0⟩) (fun v=>v=oR) (fun v1 mU=> ?_) (fun cont=> ?_);subst mU;rcases ak hr with ⟨dS,hr⟩|⟨dS,hr⟩
 refine HT.aH rfl dS ?_;refine av [oH] ⟨[(2,bV false)],[],0⟩ hX aN ?_;have hr:=aa hr;subst hr;exact HT.ret (aQ (rO [bV false] [] [] trivial));refine HT.aE rfl dS ?_;refine HT.skip (ah ?_);refine HT.seq ?_;refine av [oH] ⟨[(0,.one (.ip tM a0 0)),(3,iV a0.1),(4,iV a0.2.1),(5,iV (0:Int))],[],0⟩ hX aN ?_;refine HT.block ?_;obtain ⟨r6,RC,hr⟩:=ae hr;refine HT.bX (fun (s5:Int)=>⟨[(0,.one (.ip tM a0 0)),(3,iV a0.1),(4,iV a0.2.1),(5,iV s5)],[],0⟩) (fun (r6:Unit⊕Unit)=>match r6 with| .inl r7=>(.exit 0,⟨[],[],0⟩)| .inr r8=>(.ret,⟨[(2,bV false)],[],0⟩)) (Le.re [] [] hX (by kernel_rfl)) RC ?_ (fun s5 x9 cq vV=> ?_);rcases r6 with r7|r8
 refine (aK (ah ?_));refine av [oH] ⟨[(2,bV true)],[],0⟩ hX aN ?_;have hr:=aa hr;subst hr;exact HT.ret (rO [bV true] [] [] trivial);have hr:=aa hr;subst hr;exact (bZ (aQ (rO [bV false] [] [] trivial)));refine HT.seq ?_;refine av (aI 3) ⟨[(0,.one (.ip tM a0 0)),(3,iV a0.1),(4,iV a0.2.1),(5,iV s5),(63,bV (decide (s5<a0.1)))],[],0⟩ hX aN ?_;rcases ak cq with ⟨dX,cq⟩|⟨dX,cq⟩
 refine HT.aH rfl dX ?_;refine HT.skip (ah ?_);refine HT.seq ?_;refine HT.block ?_;obtain ⟨YU,m5,cq⟩:=ae cq;refine HT.join (fun (Nx:Bool)=>⟨[(0,.one (.ip tM a0 0)),(3,iV a0.1),(4,iV a0.2.1),(5,iV s5),(97,bV Nx)],[],0⟩) (fun v=>v=YU) (fun Nx RA=> ?_) (fun cont=> ?_);subst RA;rcases ak cq with ⟨tW,cq⟩|⟨tW,cq⟩
 refine HT.aH rfl tW ?_;refine av [oH] ⟨[(2,bV false)],[],0⟩ hX aN ?_;have cq:=aa cq;subst cq;exact HT.te (Le.re [] [] hX (by kernel_rfl)) (bZ (aQ (jq (vV (.inr ()) rfl))));refine HT.aE rfl tW ?_;refine HT.skip (bj (ah ?_));have cq:=aa cq;subst cq;exact HT.ct (aI 3) [] [] hX (by kernel_rfl) aN (fun _ h=>(bw ⟨(ai .i64 s5 (1:Int)),rfl,h⟩));obtain ⟨EW,m5⟩:=aj m5;obtain ⟨gJ,A7,m5⟩:=ae m5;rcases ak m5 with ⟨jY,m5⟩|⟨jY,m5⟩
 exact HT.ct [oH,oH,oH,oH,oH,oH,oH,oH,oH,oH,oH,oH,oH,⟨none,.call [.an cb] [⟨false,.bool,gJ⟩] []⟩,oH,oH,oT,oT,oT,oT,oT,oT,oT,oT,oT,oT,oT,oT,oT,oT,oT,vT] [] [] hX (by kernel_rfl) (aC EW (aC (xS A7) (aC jY (aC jY (aC jY (aC jY (aC jY (aC jY (aC jY (aC jY (aC jY (aC jY (aC jY (aC jY (aC jY (aC jY (aC jY (aC jY aN)))))))))))))))))) (fun _ h=>(ah (h.ht (cont true (aa m5)))));obtain ⟨EZ,m5⟩:=aj m5;obtain ⟨sP,LI,m5⟩:=ae m5;exact HT.ct [oH,oH,oH,oH,oH,oH,oH,oH,oH,oH,oH,oH,oH,⟨none,.call [.an cb] [⟨false,.bool,gJ⟩] []⟩,oH,oH,oF,oF,oF,oF,oF,oF,oF,oF,oF,oF,oF,oF,oF,⟨some false,.call [.an cb] [⟨false,.bool,sP⟩] []⟩,oF,vF] [] [] hX (by kernel_rfl) (aC EW (aC (xS A7) (aC jY (aC jY (aC jY (aC jY (aC jY (aC jY (aC jY (aC jY (aC jY (aC jY (aC jY (aC jY (aC jY (aC EZ (aC jY (aC (xS LI) (aC jY (aC jY aN)))))))))))))))))))) (fun _ h=>(ah (h.ht (cont (!sP) (aa m5)))));refine HT.aE rfl dX ?_;have cq:=aa cq;subst cq;exact HT.bW (Le.re [] [] hX (by kernel_rfl)) (bm (bt (vV (.inl ()) rfl)));obtain ⟨xB,xC,aX⟩:=ae aX;rcases ak aX with ⟨fK,aX⟩|⟨fK,aX⟩
 exact HT.ct [oH,⟨none,.call [.an tI,.an tI,.an tI] [⟨false,.bool,xB⟩] []⟩,oH,oH,oT,oT,oT,vT,oH,oT,oT,oT,oT,oT,oT,oT,vT,oH,oT,oT,oT,oT,oT,oT,oT,oT,oT,vT,oH,oT,oT,oT,oT,oT,oT,oT,oT,oT,vT,oH,oT,oT,oT,oT,oT,oT,vT] [] [] hX (by kernel_rfl) (aC (g8 xC) (aC fK (aC fK (aC fK (aC fK (cR (cR (cR (cR (cR (cR (cR (cR (aT (aT (aT aN)))))))))))))))) (fun _ h=>(ah (h.ht (cont true (aa aX)))));obtain ⟨J7,E3,aX⟩:=ae aX;rcases ak aX with ⟨cw,aX⟩|⟨cw,aX⟩
 exact HT.ct [oH,⟨none,.call [.an tI,.an tI,.an tI] [⟨false,.bool,xB⟩] []⟩,oH,oH,oF,⟨some false,.call [.an tI,.an tI,.an tI] [⟨false,.bool,J7⟩] []⟩,oF,vF,oH,oT,oT,oT,oT,oT,oT,oT,vT,oH,oT,oT,oT,oT,oT,oT,oT,oT,oT,vT,oH,oT,oT,oT,oT,oT,oT,oT,oT,oT,vT,oH,oT,oT,oT,oT,oT,oT,vT] [] [] hX (by kernel_rfl) (aC (g8 xC) (aC fK (aC fK (aC (g8 E3) (aC fK (aC fK (aC cw (aC cw (aC cw (aC cw (aC cw (aC cw (aC cw (aC cw (cR (cR (cR (cR (cR (cR (aT (aT (aT aN))))))))))))))))))))))) (fun _ h=>(ah (h.ht (cont true (aa aX)))));rcases ak aX with ⟨dO,aX⟩|⟨dO,aX⟩
 exact HT.ct [oH,⟨none,.call [.an tI,.an tI,.an tI] [⟨false,.bool,xB⟩] []⟩,oH,oH,oF,⟨some false,.call [.an tI,.an tI,.an tI] [⟨false,.bool,J7⟩] []⟩,oF,vF,oH,oF,oF,oF,oF,oF,oF,oF,vF,oH,oT,oT,oT,oT,oT,oT,oT,oT,oT,vT,oH,oT,oT,oT,oT,oT,oT,oT,oT,oT,vT,oH,oT,oT,oT,oT,oT,oT,vT] [] [] hX (by kernel_rfl) (aC (g8 xC) (aC fK (aC fK (aC (g8 E3) (aC fK (aC fK (aC cw (aC cw (aC cw (aC cw (aC cw (aC cw (aC cw (aC cw (aC dO (aC dO (aC dO (aC dO (aC dO (aC dO (aC dO (aC dO (aC dO (aC dO (cR (cR (cR (cR (aT aN))))))))))))))))))))))))))))) (fun _ h=>(ah (h.ht (cont true (aa aX)))));rcases ak aX with ⟨iE,aX⟩|⟨iE,aX⟩
 exact HT.ct [oH,⟨none,.call [.an tI,.an tI,.an tI] [⟨false,.bool,xB⟩] []⟩,oH,oH,oF,⟨some false,.call [.an tI,.an tI,.an tI] [⟨false,.bool,J7⟩] []⟩,oF,vF,oH,oF,oF,oF,oF,oF,oF,oF,vF,oH,oF,oF,oF,oF,oF,oF,oF,oF,oF,vF,oH,oT,oT,oT,oT,oT,oT,oT,oT,oT,vT,oH,oT,oT,oT,oT,oT,oT,vT] [] [] hX (by kernel_rfl) (aC (g8 xC) (aC fK (aC fK (aC (g8 E3) (aC fK (aC fK (aC cw (aC cw (aC cw (aC cw (aC cw (aC cw (aC cw (aC cw (aC dO (aC dO (aC dO (aC dO (aC dO (aC dO (aC dO (aC dO (aC dO (aC dO (aC iE (aC iE (aC iE (aC iE (aC iE (aC iE (aC iE (aC iE (aC iE (aC iE (cR (aT (aT (aT aN)))))))))))))))))))))))))))))))))))))) (fun _ h=>(ah (h.ht (cont true (aa aX)))));rcases ak aX with ⟨fx,aX⟩|⟨fx,aX⟩
 exact HT.ct [oH,⟨none,.call [.an tI,.an tI,.an tI] [⟨false,.bool,xB⟩] []⟩,oH,oH,oF,⟨some false,.call [.an tI,.an tI,.an tI] [⟨false,.bool,J7⟩] []⟩,oF,vF,oH,oF,oF,oF,oF,oF,oF,oF,vF,oH,oF,oF,oF,oF,oF,oF,oF,oF,oF,vF,oH,oF,oF,oF,oF,oF,oF,oF,oF,oF,vF,oH,oT,oT,oT,oT,oT,oT,vT] [] [] hX (by kernel_rfl) (aC (g8 xC) (aC fK (aC fK (aC (g8 E3) (aC fK (aC fK (aC cw (aC cw (aC cw (aC cw (aC cw (aC cw (aC cw (aC cw (aC dO (aC dO (aC dO (aC dO (aC dO (aC dO (aC dO (aC dO (aC dO (aC dO (aC iE (aC iE (aC iE (aC iE (aC iE (aC iE (aC iE (aC iE (aC iE (aC iE (aC fx (aC fx (aC fx (aC fx (aC fx (aC fx (aC fx aN))))))))))))))))))))))))))))))))))))))))) (fun _ h=>(ah (h.ht (cont true (aa aX)))));obtain ⟨GX,Jw,aX⟩:=ae aX;exact HT.ct [oH,⟨none,.call [.an tI,.an tI,.an tI] [⟨false,.bool,xB⟩] []⟩,oH,oH,oF,⟨some false,.call [.an tI,.an tI,.an tI] [⟨false,.bool,J7⟩] []⟩,oF,vF,oH,oF,oF,oF,oF,oF,oF,oF,vF,oH,oF,oF,oF,oF,oF,oF,oF,oF,oF,vF,oH,oF,oF,oF,oF,oF,oF,oF,oF,oF,vF,oH,oF,oF,oF,oF,⟨some false,.call [.an cb] [⟨false,.bool,GX⟩] []⟩,oF,vF] [] [] hX (by kernel_rfl) (aC (g8 xC) (aC fK (aC fK (aC (g8 E3) (aC fK (aC fK (aC cw (aC cw (aC cw (aC cw (aC cw (aC cw (aC cw (aC cw (aC dO (aC dO (aC dO (aC dO (aC dO (aC dO (aC dO (aC dO (aC dO (aC dO (aC iE (aC iE (aC iE (aC iE (aC iE (aC iE (aC iE (aC iE (aC iE (aC iE (aC fx (aC fx (aC fx (aC fx (aC fx (aC (xS Jw) (aC fx (aC fx aN)))))))))))))))))))))))))))))))))))))))))) (fun _ h=>(ah (h.ht (cont (!GX) (aa aX)))))
end Go.Proofs
