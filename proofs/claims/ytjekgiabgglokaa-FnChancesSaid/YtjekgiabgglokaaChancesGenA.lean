import Derived.Test.YtjekgiabgglokaaLibD
import Derived.Test.YtjekgiabgglokaaProg
set_option linter.unusedVariables false
set_option linter.unusedSimpArgs false
set_option linter.unusedSectionVars false
/-
 Functions as plain functions, and their contracts. Printed by a program.
-/
namespace Go.Proofs
open Go.Ide

abbrev TyG := List Int × List Int × List (List Int)
abbrev tG : Ty := .st (.pair tLI (.pair tLI (.sl tLI)))
abbrev oT : OH := ⟨some true, .no⟩
abbrev oF : OH := ⟨some false, .no⟩
abbrev vT : OH := ⟨none, .tv true⟩
abbrev vF : OH := ⟨none, .tv false⟩
theorem aN : AllP [] := allNil
theorem aC {p : Prop} {r : List Prop} (h : p) (hr : AllP r) : AllP (p :: r) := allCons h hr
theorem aT {r : List Prop} (hr : AllP r) : AllP ((true = true) :: r) := allCons rfl hr
theorem aT4 {r : List Prop} (hr : AllP r) : AllP ((true = true) :: (true = true) :: (true = true) :: (true = true) :: r) := aT (aT (aT (aT hr)))
theorem aF {r : List Prop} (hr : AllP r) : AllP ((false = false) :: r) := allCons rfl hr


noncomputable def laws_b10Long (a0 : List Int) (a1 : List Int) : Option (Bool) :=
 (show Option (Bool) from
  bif (decide ((lenI a0) > (1048576 : Int))) then
   some true
  else
   some (decide ((lenI a1) > (1048576 : Int)))).bind fun v1 =>
 some v1

theorem f12_ok {a0 : List Int} {a1 : List Int} {r : Bool} (hr : laws_b10Long a0 a1 = some r) : CallOK Try.prog 12 [.imm (.sl (.int .u8)) a0, .imm (.sl (.int .u8)) a1] [⟨false, .bool, r⟩] [] := by
 unfold laws_b10Long at hr
 refine CallOK.of_body (ts := [(false, .bool)]) Try.func12 rfl (by kernel_rfl) (Nat.le_of_ble_eq_true (by kernel_rfl)) fun cx hP hN hO hF => ?_
 have hO : cx.own.map Prod.fst = [] := hO
 have hX := CxIs.mk hP hN hO
 have hF := hF rfl
 show HT cx ⟨[(0, .one (.dat (.sl (.int .u8)) a0)), (1, .one (.dat (.sl (.int .u8)) a1))], [], 0⟩ _ _
 refine HT.rg2 [oH] ⟨[(0, .one (.dat (.sl (.int .u8)) a0)), (1, .one (.dat (.sl (.int .u8)) a1))], [], 0⟩ hX (by kernel_rfl) aN ?_
 obtain ⟨v1', hT3, hr⟩ := of_bind hr
 refine HT.join (fun (v1 : Bool) => ⟨[(4, bV v1)], [], 0⟩) (fun v => v = v1') (fun v1 hv2 => ?_) (fun cont => ?_)
 ·subst hv2
  have hr := of_some hr
  subst hr
  exact HT.ret ⟨[bV v1], [], [], by kernel_rfl, by kernel_rfl, rfl, by kernel_rfl, by kernel_rfl, trivial⟩
 ·rcases of_bif hT3 with ⟨hb4, hT3⟩ | ⟨hb4, hT3⟩
  ·exact HT.rgK [oH, oH, oH, oH, oT, oT, oT, vT, oH] [] [] hX (by kernel_rfl) (aC hb4 (aC hb4 (aC hb4 (aC hb4 aN)))) (fun _ h => (qThen (h.ht (cont true (of_some hT3)))))
  ·exact HT.rgK [oH, oH, oH, oH, oF, oF, oF, vF, oH] [] [] hX (by kernel_rfl) (aC hb4 (aC hb4 (aC hb4 (aC hb4 aN)))) (fun _ h => (qThen (h.ht (cont (decide ((lenI a1) > (1048576 : Int))) (of_some hT3)))))

noncomputable def laws_b10At (a0 : List Int) (a1 : Int) (a2 : Int) : Option (Int) :=
 bif (decide (a2 ≤ (1 : Int))) then
  some (0 : Int)
 else
  bif (decide (a1 < (lenI a0))) then
   guardP ((0 : Int) ≤ a1 ∧ a1 < lenI a0) (
    guardP (a2 ≠ 0) (
     some (Int.tmod (IntKind.wrap .i64 (List.getD a0 (Int.toNat a1) (0 : Int))) a2)))
  else
   guardP (a2 ≠ 0) (
    some (Int.tmod (wadd .i64 (wmul .i64 a1 (37 : Int)) (11 : Int)) a2))

theorem f13_ok {a0 : List Int} {a1 : Int} {a2 : Int} {r : Int} (hr : laws_b10At a0 a1 a2 = some r) : CallOK Try.prog 13 [.imm (.sl (.int .u8)) a0, .imm tI a1, .imm tI a2] [⟨false, tI, r⟩] [] := by
 unfold laws_b10At at hr
 refine CallOK.of_body (ts := [(false, tI)]) Try.func13 rfl (by kernel_rfl) (Nat.le_of_ble_eq_true (by kernel_rfl)) fun cx hP hN hO hF => ?_
 have hO : cx.own.map Prod.fst = [] := hO
 have hX := CxIs.mk hP hN hO
 have hF := hF rfl
 show HT cx ⟨[(0, .one (.dat (.sl (.int .u8)) a0)), (1, iV a1), (2, iV a2)], [], 0⟩ _ _
 refine HT.rg2 [oH] ⟨[(0, .one (.dat (.sl (.int .u8)) a0)), (1, iV a1), (2, iV a2)], [], 0⟩ hX (by kernel_rfl) aN ?_
 refine HT.seq ?_
 refine HT.rg2 (oHs 2) ⟨[(0, .one (.dat (.sl (.int .u8)) a0)), (1, iV a1), (2, iV a2), (8, bV (decide (a2 ≤ (1 : Int))))], [], 0⟩ hX (by kernel_rfl) aN ?_
 rcases of_bif hr with ⟨hb1, hr⟩ | ⟨hb1, hr⟩
 ·refine HT.cond1 rfl hb1 ?_
  refine HT.rg2 [oH] ⟨[(6, iV (0 : Int))], [], 0⟩ hX (by kernel_rfl) aN ?_
  have hr := of_some hr
  subst hr
  exact HT.ret (qThenR ⟨[iV (0 : Int)], [], [], by kernel_rfl, by kernel_rfl, rfl, by kernel_rfl, by kernel_rfl, trivial⟩)
 ·refine HT.cond0 rfl hb1 ?_
  refine HT.skip (qThen ?_)
  refine HT.seq ?_
  refine HT.rg2 (oHs 4) ⟨[(0, .one (.dat (.sl (.int .u8)) a0)), (1, iV a1), (2, iV a2), (12, bV (decide (a1 < (lenI a0))))], [], 0⟩ hX (by kernel_rfl) aN ?_
  rcases of_bif hr with ⟨hb2, hr⟩ | ⟨hb2, hr⟩
  ·refine HT.cond1 rfl hb2 ?_
   obtain ⟨hg3, hr⟩ := of_guard hr
   obtain ⟨hg4, hr⟩ := of_guard hr
   refine HT.rg2 (oHs 8) ⟨[(6, iV (Int.tmod (IntKind.wrap .i64 (List.getD a0 (Int.toNat a1) (0 : Int))) a2))], [], 0⟩ hX (by kernel_rfl) (aC hg3 (aC hg4 aN)) ?_
   have hr := of_some hr
   subst hr
   exact HT.ret (qThenR ⟨[iV (Int.tmod (IntKind.wrap .i64 (List.getD a0 (Int.toNat a1) (0 : Int))) a2)], [], [], by kernel_rfl, by kernel_rfl, rfl, by kernel_rfl, by kernel_rfl, trivial⟩)
  ·refine HT.cond0 rfl hb2 ?_
   refine HT.skip (qThen ?_)
   obtain ⟨hg5, hr⟩ := of_guard hr
   refine HT.rg2 (oHs 6) ⟨[(6, iV (Int.tmod (wadd .i64 (wmul .i64 a1 (37 : Int)) (11 : Int)) a2))], [], 0⟩ hX (by kernel_rfl) (aC hg5 aN) ?_
   have hr := of_some hr
   subst hr
   exact HT.ret ⟨[iV (Int.tmod (wadd .i64 (wmul .i64 a1 (37 : Int)) (11 : Int)) a2)], [], [], by kernel_rfl, by kernel_rfl, rfl, by kernel_rfl, by kernel_rfl, trivial⟩

noncomputable def spec_l00From (a0 : List Int) : Option ((List Int × Int × Int)) :=
 some (a0, (0 : Int), (0 : Int))

theorem f51_ok {a0 : List Int} {r : (List Int × Int × Int)} (hr : spec_l00From a0 = some r) : CallOK Try.prog 51 [.imm (.sl (.int .u8)) a0] [⟨true, (.bx (.st (.pair (.sl (.int .u8)) (.pair tI (.int .u64))))), [r]⟩] [] := by
 unfold spec_l00From at hr
 refine CallOK.of_body (ts := [(true, (.bx (.st (.pair (.sl (.int .u8)) (.pair tI (.int .u64))))))]) Try.func51 rfl (by kernel_rfl) (Nat.le_of_ble_eq_true (by kernel_rfl)) fun cx hP hN hO hF => ?_
 have hO : cx.own.map Prod.fst = [] := hO
 have hX := CxIs.mk hP hN hO
 have hF := hF rfl
 show HT cx ⟨[(0, .one (.dat (.sl (.int .u8)) a0))], [], 0⟩ _ _
 refine HT.rg2 [oH] ⟨[(0, .one (.dat (.sl (.int .u8)) a0))], [], 0⟩ hX (by kernel_rfl) aN ?_
 refine HT.rg2 [oH, oH, ⟨none, .ty (.st (.pair (.sl (.int .u8)) (.pair tI (.int .u64))))⟩, oH] ⟨[(2, .one (.elp 0 0 3 0))], [(0, .seq (.st (.pair (.sl (.int .u8)) (.pair tI (.int .u64)))) ([(a0, (0 : Int), (0 : Int))]))], 1⟩ hX (by kernel_rfl) aN ?_
 have hr := of_some hr
 subst hr
 exact HT.ret ⟨[.one (.elp 0 0 3 0)], [0], [], by kernel_rfl, by kernel_rfl, rfl, by kernel_rfl, by kernel_rfl, trivial⟩

noncomputable def spec_l00Src_next (a0 : List Int × Int × Int) : Option (Int × (List Int × Int × Int)) :=
 (show Option (Int) from
  bif (decide (a0.2.1 < (lenI a0.1))) then
   guardP ((0 : Int) ≤ a0.2.1 ∧ a0.2.1 < lenI a0.1) (
    some (IntKind.wrap .i64 (List.getD a0.1 (Int.toNat a0.2.1) (0 : Int))))
  else
   some (0 : Int)).bind fun v1 =>
 bif (decide ((wadd .i64 a0.2.1 (1 : Int)) ≤ (lenI a0.1))) then
  some (v1, a0.1, (wadd .i64 a0.2.1 (1 : Int)), (wadd .u64 (wadd .u64 (wmul .u64 a0.2.2 (6364136223846793005 : Int)) (IntKind.wrap .u64 v1)) (1442695040888963407 : Int)))
 else
  (some (IntKind.wrap .i64 (IntKind.wrap .u64 (BitVec.ofInt (IntKind.bits .u64) (Int.fdiv (wadd .u64 (wadd .u64 (wmul .u64 a0.2.2 (6364136223846793005 : Int)) (IntKind.wrap .u64 v1)) (1442695040888963407 : Int)) (2 ^ (min (Int.toNat (40 : Int)) (IntKind.bits .u64)))) &&& BitVec.ofInt (IntKind.bits .u64) (255 : Int)).toNat))).bind fun q5 =>
  some (q5, a0.1, (wadd .i64 a0.2.1 (1 : Int)), (wadd .u64 (wadd .u64 (wmul .u64 a0.2.2 (6364136223846793005 : Int)) (IntKind.wrap .u64 v1)) (1442695040888963407 : Int)))

theorem f102_ok {a0 : List Int × Int × Int} {r : Int × (List Int × Int × Int)} (hr : spec_l00Src_next a0 = some r) : CallOK Try.prog 102 [.own (.bx (.st (.pair (.sl (.int .u8)) (.pair tI (.int .u64))))) [a0]] [⟨false, tI, r.1⟩] [⟨(.bx (.st (.pair (.sl (.int .u8)) (.pair tI (.int .u64))))), [r.2]⟩] := by
 unfold spec_l00Src_next at hr
 refine CallOK.of_body (ts := [(false, tI)]) Try.func102 rfl (by kernel_rfl) (Nat.le_of_ble_eq_true (by kernel_rfl)) fun cx hP hN hO hF => ?_
 have hO : cx.own.map Prod.fst = [0] := hO
 have hX := CxIs.mk hP hN hO
 have hF := hF rfl
 show HT cx ⟨[(0, .one (.elp 0 0 3 0))], [(0, .seq (.st (.pair (.sl (.int .u8)) (.pair tI (.int .u64)))) ([a0]))], 1⟩ _ _
 refine HT.rg2 [oH] ⟨[(0, .one (.elp 0 0 3 0))], [(0, .seq (.st (.pair (.sl (.int .u8)) (.pair tI (.int .u64)))) ([a0]))], 1⟩ hX (by kernel_rfl) aN ?_
 refine HT.rg2 [oH] ⟨[(0, .one (.elp 0 0 3 0)), (3, iV (0 : Int))], [(0, .seq (.st (.pair (.sl (.int .u8)) (.pair tI (.int .u64)))) ([a0]))], 1⟩ hX (by kernel_rfl) aN ?_
 obtain ⟨v1', hT3, hr⟩ := of_bind hr
 refine HT.join (fun (v1 : Int) => ⟨[(0, .one (.elp 0 0 3 0)), (3, iV v1)], [(0, .seq (.st (.pair (.sl (.int .u8)) (.pair tI (.int .u64)))) ([a0]))], 1⟩) (fun v => v = v1') (fun v1 hv2 => ?_) (fun cont => ?_)
 ·subst hv2
  refine HT.rg2 (oHs 8) ⟨[(0, .one (.elp 0 0 3 0)), (3, iV v1)], [(0, .seq (.st (.pair (.sl (.int .u8)) (.pair tI (.int .u64)))) ([(a0.1, (wadd .i64 a0.2.1 (1 : Int)), a0.2.2)]))], 1⟩ hX (by kernel_rfl) (aC (show 0 < List.length [a0] from Nat.zero_lt_one) (aC (show 0 < List.length [a0] from Nat.zero_lt_one) aN)) ?_
  refine HT.rg2 (oHs 13) ⟨[(0, .one (.elp 0 0 3 0)), (3, iV v1)], [(0, .seq (.st (.pair (.sl (.int .u8)) (.pair tI (.int .u64)))) ([(a0.1, (wadd .i64 a0.2.1 (1 : Int)), (wadd .u64 (wadd .u64 (wmul .u64 a0.2.2 (6364136223846793005 : Int)) (IntKind.wrap .u64 v1)) (1442695040888963407 : Int)))]))], 1⟩ hX (by kernel_rfl) (aC (show 0 < List.length [(a0.1, (wadd .i64 a0.2.1 (1 : Int)), a0.2.2)] from Nat.zero_lt_one) (aC (show 0 < List.length [(a0.1, (wadd .i64 a0.2.1 (1 : Int)), a0.2.2)] from Nat.zero_lt_one) aN)) ?_
  refine HT.seq ?_
  refine HT.dr2 9 [⟨oH, []⟩, ⟨oH, [0]⟩, ⟨oH, [0, 1]⟩, ⟨oH, [0, 1, 2]⟩, ⟨oH, []⟩, ⟨oH, [4]⟩, ⟨oH, [4, 5]⟩, ⟨oH, [4, 5, 6]⟩, ⟨oH, [4, 5, 6, 7]⟩] [[0, 1, 2, 3, 4, 5, 6, 7, 8]] [oH] ⟨[(0, .one (.elp 0 0 3 0)), (3, iV v1), (53, bV (decide ((wadd .i64 a0.2.1 (1 : Int)) ≤ (lenI a0.1))))], [(0, .seq (.st (.pair (.sl (.int .u8)) (.pair tI (.int .u64)))) ([(a0.1, (wadd .i64 a0.2.1 (1 : Int)), (wadd .u64 (wadd .u64 (wmul .u64 a0.2.2 (6364136223846793005 : Int)) (IntKind.wrap .u64 v1)) (1442695040888963407 : Int)))]))], 1⟩ hX (by kernel_rfl) (by kernel_rfl) (aC (show 0 < List.length [(a0.1, (wadd .i64 a0.2.1 (1 : Int)), (wadd .u64 (wadd .u64 (wmul .u64 a0.2.2 (6364136223846793005 : Int)) (IntKind.wrap .u64 v1)) (1442695040888963407 : Int)))] from Nat.zero_lt_one) (aC (show 0 < List.length [(a0.1, (wadd .i64 a0.2.1 (1 : Int)), (wadd .u64 (wadd .u64 (wmul .u64 a0.2.2 (6364136223846793005 : Int)) (IntKind.wrap .u64 v1)) (1442695040888963407 : Int)))] from Nat.zero_lt_one) aN)) ?_
  rcases of_bif hr with ⟨hb4, hr⟩ | ⟨hb4, hr⟩
  ·refine HT.cond1 rfl hb4 ?_
   refine HT.rg2 (oHs 2) ⟨[(2, iV v1)], [(0, .seq (.st (.pair (.sl (.int .u8)) (.pair tI (.int .u64)))) ([(a0.1, (wadd .i64 a0.2.1 (1 : Int)), (wadd .u64 (wadd .u64 (wmul .u64 a0.2.2 (6364136223846793005 : Int)) (IntKind.wrap .u64 v1)) (1442695040888963407 : Int)))]))], 1⟩ hX (by kernel_rfl) aN ?_
   have hr := of_some hr
   subst hr
   exact HT.ret (qThenR ⟨[iV v1], [], [List.length ([(a0.1, (wadd .i64 a0.2.1 (1 : Int)), (wadd .u64 (wadd .u64 (wmul .u64 a0.2.2 (6364136223846793005 : Int)) (IntKind.wrap .u64 v1)) (1442695040888963407 : Int)))]) = List.length [a0]], by kernel_rfl, by kernel_rfl, rfl, by kernel_rfl, by kernel_rfl, ⟨(show List.length ([(a0.1, (wadd .i64 a0.2.1 (1 : Int)), (wadd .u64 (wadd .u64 (wmul .u64 a0.2.2 (6364136223846793005 : Int)) (IntKind.wrap .u64 v1)) (1442695040888963407 : Int)))]) = List.length [a0] from rfl), trivial⟩⟩)
  ·refine HT.cond0 rfl hb4 ?_
   refine HT.skip (qThen ?_)
   refine HT.rg2 (oHs 8) ⟨[(2, iV (IntKind.wrap .i64 (IntKind.wrap .u64 (BitVec.ofInt (IntKind.bits .u64) (Int.fdiv (wadd .u64 (wadd .u64 (wmul .u64 a0.2.2 (6364136223846793005 : Int)) (IntKind.wrap .u64 v1)) (1442695040888963407 : Int)) (2 ^ (min (Int.toNat (40 : Int)) (IntKind.bits .u64)))) &&& BitVec.ofInt (IntKind.bits .u64) (255 : Int)).toNat)))], [(0, .seq (.st (.pair (.sl (.int .u8)) (.pair tI (.int .u64)))) ([(a0.1, (wadd .i64 a0.2.1 (1 : Int)), (wadd .u64 (wadd .u64 (wmul .u64 a0.2.2 (6364136223846793005 : Int)) (IntKind.wrap .u64 v1)) (1442695040888963407 : Int)))]))], 1⟩ hX (by kernel_rfl) (aC (show 0 < List.length [(a0.1, (wadd .i64 a0.2.1 (1 : Int)), (wadd .u64 (wadd .u64 (wmul .u64 a0.2.2 (6364136223846793005 : Int)) (IntKind.wrap .u64 v1)) (1442695040888963407 : Int)))] from Nat.zero_lt_one) (aC (show (0 : Int) ≤ (40 : Int) from by decide) aN)) ?_
   obtain ⟨q5, hq6, hr⟩ := of_bind hr
   have hq6 := of_some2 hq6
   refine (Le.cv (s := ⟨[(0, 0)], [], [], false⟩) (own := [0]) (ps := [q5 = (IntKind.wrap .i64 (IntKind.wrap .u64 (BitVec.ofInt (IntKind.bits .u64) (Int.fdiv (wadd .u64 (wadd .u64 (wmul .u64 a0.2.2 (6364136223846793005 : Int)) (IntKind.wrap .u64 v1)) (1442695040888963407 : Int)) (2 ^ (min (Int.toNat (40 : Int)) (IntKind.bits .u64)))) &&& BitVec.ofInt (IntKind.bits .u64) (255 : Int)).toNat)), [(a0.1, (wadd .i64 a0.2.1 (1 : Int)), (wadd .u64 (wadd .u64 (wmul .u64 a0.2.2 (6364136223846793005 : Int)) (IntKind.wrap .u64 v1)) (1442695040888963407 : Int)))] = [(a0.1, (wadd .i64 a0.2.1 (1 : Int)), (wadd .u64 (wadd .u64 (wmul .u64 a0.2.2 (6364136223846793005 : Int)) (IntKind.wrap .u64 v1)) (1442695040888963407 : Int)))]]) (st' := ⟨[(2, iV q5)], [(0, .seq (.st (.pair (.sl (.int .u8)) (.pair tI (.int .u64)))) ([(a0.1, (wadd .i64 a0.2.1 (1 : Int)), (wadd .u64 (wadd .u64 (wmul .u64 a0.2.2 (6364136223846793005 : Int)) (IntKind.wrap .u64 v1)) (1442695040888963407 : Int)))]))], 1⟩) hO (fun h => by cases h) (by kernel_rfl) ⟨hq6, rfl, trivial⟩).ht ?_
   have hr := of_some hr
   subst hr
   exact HT.ret ⟨[iV q5], [], [List.length ([(a0.1, (wadd .i64 a0.2.1 (1 : Int)), (wadd .u64 (wadd .u64 (wmul .u64 a0.2.2 (6364136223846793005 : Int)) (IntKind.wrap .u64 v1)) (1442695040888963407 : Int)))]) = List.length [a0]], by kernel_rfl, by kernel_rfl, rfl, by kernel_rfl, by kernel_rfl, ⟨(show List.length ([(a0.1, (wadd .i64 a0.2.1 (1 : Int)), (wadd .u64 (wadd .u64 (wmul .u64 a0.2.2 (6364136223846793005 : Int)) (IntKind.wrap .u64 v1)) (1442695040888963407 : Int)))]) = List.length [a0] from rfl), trivial⟩⟩
 ·refine HT.dr2 9 [⟨oH, []⟩, ⟨oH, [0]⟩, ⟨oH, [0, 1]⟩, ⟨oH, [0, 1, 2]⟩, ⟨oH, []⟩, ⟨oH, [4]⟩, ⟨oH, [4, 5]⟩, ⟨oH, [4, 5, 6]⟩, ⟨oH, [4, 5, 6, 7]⟩] [[0, 1, 2, 3, 4, 5, 6, 7, 8]] [oH] ⟨[(0, .one (.elp 0 0 3 0)), (3, iV (0 : Int)), (13, bV (decide (a0.2.1 < (lenI a0.1))))], [(0, .seq (.st (.pair (.sl (.int .u8)) (.pair tI (.int .u64)))) ([a0]))], 1⟩ hX (by kernel_rfl) (by kernel_rfl) (aC (show 0 < List.length [a0] from Nat.zero_lt_one) (aC (show 0 < List.length [a0] from Nat.zero_lt_one) aN)) ?_
  rcases of_bif hT3 with ⟨hb7, hT3⟩ | ⟨hb7, hT3⟩
  ·refine HT.cond1 rfl hb7 ?_
   obtain ⟨hg8, hT3⟩ := of_guard hT3
   exact HT.drK 8 [⟨oH, []⟩, ⟨oH, [0]⟩, ⟨oH, [0, 1]⟩, ⟨oH, [0, 1, 2]⟩, ⟨oH, []⟩, ⟨oH, [4]⟩, ⟨oH, [4, 5]⟩, ⟨oH, [4, 5, 6]⟩] [[0, 1, 2, 3, 4, 5, 6, 7], [0, 1, 2, 3, 4, 5, 6, 7, 8], [0, 1, 2, 3, 4, 5, 6, 7, 8, 9], [0, 1, 2, 3, 4, 5, 6, 7, 8, 9, 10]] (oHs 4) [(0, 0)] [] hX (by kernel_rfl) (by kernel_rfl) (aC (show 0 < List.length [a0] from Nat.zero_lt_one) (aC (show 0 < List.length [a0] from Nat.zero_lt_one) (aC hg8 aN))) (fun _ h => (qThen (h.ht (cont (IntKind.wrap .i64 (List.getD a0.1 (Int.toNat a0.2.1) (0 : Int))) (of_some hT3)))))
  ·refine HT.cond0 rfl hb7 ?_
   refine HT.skip (qThen ?_)
   exact (Le.re [(0, 0)] [] hX (by kernel_rfl)).ht (cont (0 : Int) (of_some hT3))

noncomputable def spec_l00Src_pick (a0 : List Int × Int × Int) (a1 : Int) : Option (Int × (List Int × Int × Int)) :=
 bif (decide (a1 ≤ (1 : Int))) then
  some ((0 : Int), a0)
 else
  (spec_l00Src_next a0).bind fun y2 =>
  (show Option (Int × (List Int × Int × Int)) from
   bif (decide (a1 > (200 : Int))) then
    (spec_l00Src_next y2.2).bind fun y9 =>
    some ((wadd .i64 (wmul .i64 y2.1 (256 : Int)) y9.1), y9.2)
   else
    some (y2.1, y2.2)).bind fun v4 =>
  guardP (a1 ≠ 0) (
   some ((Int.tmod v4.1 a1), v4.2))

theorem f52_ok {a0 : List Int × Int × Int} {a1 : Int} {r : Int × (List Int × Int × Int)} (hr : spec_l00Src_pick a0 a1 = some r) : CallOK Try.prog 52 [.own (.bx (.st (.pair (.sl (.int .u8)) (.pair tI (.int .u64))))) [a0], .imm tI a1] [⟨false, tI, r.1⟩] [⟨(.bx (.st (.pair (.sl (.int .u8)) (.pair tI (.int .u64))))), [r.2]⟩] := by
 unfold spec_l00Src_pick at hr
 refine CallOK.of_body (ts := [(false, tI)]) Try.func52 rfl (by kernel_rfl) (Nat.le_of_ble_eq_true (by kernel_rfl)) fun cx hP hN hO hF => ?_
 have hO : cx.own.map Prod.fst = [0] := hO
 have hX := CxIs.mk hP hN hO
 have hF := hF rfl
 show HT cx ⟨[(0, .one (.elp 0 0 3 0)), (1, iV a1)], [(0, .seq (.st (.pair (.sl (.int .u8)) (.pair tI (.int .u64)))) ([a0]))], 1⟩ _ _
 refine HT.rg2 [oH] ⟨[(0, .one (.elp 0 0 3 0)), (1, iV a1)], [(0, .seq (.st (.pair (.sl (.int .u8)) (.pair tI (.int .u64)))) ([a0]))], 1⟩ hX (by kernel_rfl) aN ?_
 refine HT.seq ?_
 refine HT.rg2 (oHs 2) ⟨[(0, .one (.elp 0 0 3 0)), (1, iV a1), (7, bV (decide (a1 ≤ (1 : Int))))], [(0, .seq (.st (.pair (.sl (.int .u8)) (.pair tI (.int .u64)))) ([a0]))], 1⟩ hX (by kernel_rfl) aN ?_
 rcases of_bif hr with ⟨hb1, hr⟩ | ⟨hb1, hr⟩
 ·refine HT.cond1 rfl hb1 ?_
  refine HT.rg2 [oH] ⟨[(4, iV (0 : Int))], [(0, .seq (.st (.pair (.sl (.int .u8)) (.pair tI (.int .u64)))) ([a0]))], 1⟩ hX (by kernel_rfl) aN ?_
  have hr := of_some hr
  subst hr
  exact HT.ret (qThenR ⟨[iV (0 : Int)], [], [List.length ([a0]) = List.length [a0]], by kernel_rfl, by kernel_rfl, rfl, by kernel_rfl, by kernel_rfl, ⟨(show List.length ([a0]) = List.length [a0] from rfl), trivial⟩⟩)
 ·refine HT.cond0 rfl hb1 ?_
  refine HT.skip (qThen ?_)
  obtain ⟨y2, hc3, hr⟩ := of_bind hr
  refine HT.rg2 [oH, ⟨none, .call [.own (.bx (.st (.pair (.sl (.int .u8)) (.pair tI (.int .u64)))))] [⟨false, tI, y2.1⟩] [⟨(.bx (.st (.pair (.sl (.int .u8)) (.pair tI (.int .u64))))), [y2.2]⟩]⟩, oH] ⟨[(0, .one (.elp 0 0 3 0)), (1, iV a1), (5, iV y2.1)], [(0, .seq (.st (.pair (.sl (.int .u8)) (.pair tI (.int .u64)))) ([y2.2]))], 1⟩ hX (by kernel_rfl) (aC (f102_ok hc3) aN) ?_
  obtain ⟨v4', hT6, hr⟩ := of_bind hr
  refine HT.join (fun (v4 : Int × (List Int × Int × Int)) => ⟨[(1, iV a1), (5, iV v4.1)], [(0, .seq (.st (.pair (.sl (.int .u8)) (.pair tI (.int .u64)))) ([v4.2]))], 1⟩) (fun v => v = v4') (fun v4 hv5 => ?_) (fun cont => ?_)
  ·subst hv5
   obtain ⟨hg7, hr⟩ := of_guard hr
   refine HT.rg2 (oHs 4) ⟨[(4, iV (Int.tmod v4.1 a1))], [(0, .seq (.st (.pair (.sl (.int .u8)) (.pair tI (.int .u64)))) ([v4.2]))], 1⟩ hX (by kernel_rfl) (aC hg7 aN) ?_
   have hr := of_some hr
   subst hr
   exact HT.ret ⟨[iV (Int.tmod v4.1 a1)], [], [List.length ([v4.2]) = List.length [a0]], by kernel_rfl, by kernel_rfl, rfl, by kernel_rfl, by kernel_rfl, ⟨(show List.length ([v4.2]) = List.length [a0] from rfl), trivial⟩⟩
  ·refine HT.rg2 (oHs 2) ⟨[(0, .one (.elp 0 0 3 0)), (1, iV a1), (5, iV y2.1), (11, bV (decide (a1 > (200 : Int))))], [(0, .seq (.st (.pair (.sl (.int .u8)) (.pair tI (.int .u64)))) ([y2.2]))], 1⟩ hX (by kernel_rfl) aN ?_
   rcases of_bif hT6 with ⟨hb8, hT6⟩ | ⟨hb8, hT6⟩
   ·refine HT.cond1 rfl hb8 ?_
    obtain ⟨y9, hc10, hT6⟩ := of_bind hT6
    exact HT.rgK [oH, oH, oH, ⟨none, .call [.own (.bx (.st (.pair (.sl (.int .u8)) (.pair tI (.int .u64)))))] [⟨false, tI, y9.1⟩] [⟨(.bx (.st (.pair (.sl (.int .u8)) (.pair tI (.int .u64))))), [y9.2]⟩]⟩, oH, oH] [(0, 0)] [] hX (by kernel_rfl) (aC (f102_ok hc10) aN) (fun _ h => (qThen (h.ht (cont ((wadd .i64 (wmul .i64 y2.1 (256 : Int)) y9.1), y9.2) (of_some hT6)))))
   ·refine HT.cond0 rfl hb8 ?_
    refine HT.skip (qThen ?_)
    exact (Le.re [(0, 0)] [] hX (by kernel_rfl)).ht (cont (y2.1, y2.2) (of_some hT6))

noncomputable def spec_b10Row_B1 (r3 : Nat × (List Int × Int × Int) × List Nat) (s4 : Int × List Nat) : Option ((Int × List Nat) ⊕ (List Nat)) :=
 bif (decide (s4.1 < (lenI r3.2.2))) then
  guardP ((0 : Int) ≤ s4.1 ∧ s4.1 < lenI s4.2) (
   some (.inl ((wadd .i64 s4.1 (1 : Int)), (List.set s4.2 (Int.toNat s4.1) (fop .quo .f32 (List.getD s4.2 (Int.toNat s4.1) (0 : Nat)) r3.1)))))
 else
  some (.inr s4.2)

noncomputable def spec_b10Row_B2 (a1 : Int) (s1 : Nat × Int × (List Int × Int × Int) × List Nat) : Option ((Nat × Int × (List Int × Int × Int) × List Nat) ⊕ ((Nat × (List Int × Int × Int) × List Nat))) :=
 bif (decide (s1.2.1 < a1)) then
  (spec_l00Src_pick s1.2.2.1 (5 : Int)).bind fun y17 =>
  guardP (List.length s1.2.2.2 + List.length ([(fofint .f32 (wadd .i64 (1 : Int) y17.1))] : List Nat) ≤ appMax) (
   some (.inl ((fop .add .f32 s1.1 (fofint .f32 (wadd .i64 (1 : Int) y17.1))), (wadd .i64 s1.2.1 (1 : Int)), y17.2, (s1.2.2.2 ++ ([(fofint .f32 (wadd .i64 (1 : Int) y17.1))] : List Nat)))))
 else
  some (.inr (s1.1, s1.2.2.1, s1.2.2.2))

noncomputable def spec_b10Row (a0 : List Int × Int × Int) (a1 : Int) : Option (List Nat × (List Int × Int × Int)) :=
 (rounds (spec_b10Row_B2 a1) ((0 : Nat), (0 : Int), a0, ([] : List Nat))).bind fun r3 =>
 (rounds (spec_b10Row_B1 r3) ((0 : Int), r3.2.2)).bind fun r6 =>
 some (r6, r3.2.1)

theorem f53_ok {a0 : List Int × Int × Int} {a1 : Int} {r : List Nat × (List Int × Int × Int)} (hr : spec_b10Row a0 a1 = some r) : CallOK Try.prog 53 [.own (.bx (.st (.pair (.sl (.int .u8)) (.pair tI (.int .u64))))) [a0], .imm tI a1] [⟨true, tLF, r.1⟩] [⟨(.bx (.st (.pair (.sl (.int .u8)) (.pair tI (.int .u64))))), [r.2]⟩] := by
 unfold spec_b10Row at hr
 refine CallOK.of_body (ts := [(true, tLF)]) Try.func53 rfl (by kernel_rfl) (Nat.le_of_ble_eq_true (by kernel_rfl)) fun cx hP hN hO hF => ?_
 have hO : cx.own.map Prod.fst = [0] := hO
 have hX := CxIs.mk hP hN hO
 have hF := hF rfl
 show HT cx ⟨[(0, .one (.elp 0 0 3 0)), (1, iV a1)], [(0, .seq (.st (.pair (.sl (.int .u8)) (.pair tI (.int .u64)))) ([a0]))], 1⟩ _ _
 refine HT.rg2 [oH] ⟨[(0, .one (.elp 0 0 3 0)), (1, iV a1)], [(0, .seq (.st (.pair (.sl (.int .u8)) (.pair tI (.int .u64)))) ([a0]))], 1⟩ hX (by kernel_rfl) aN ?_
 refine HT.rg2 (oHs 2) ⟨[(0, .one (.elp 0 0 3 0)), (1, iV a1), (5, .one (.nilS))], [(0, .seq (.st (.pair (.sl (.int .u8)) (.pair tI (.int .u64)))) ([a0]))], 1⟩ hX (by kernel_rfl) aN ?_
 refine HT.rg2 [oH] ⟨[(0, .one (.elp 0 0 3 0)), (1, iV a1), (5, .one (.nilS)), (6, fV (0 : Nat))], [(0, .seq (.st (.pair (.sl (.int .u8)) (.pair tI (.int .u64)))) ([a0]))], 1⟩ hX (by kernel_rfl) aN ?_
 refine HT.seq ?_
 refine HT.rg2 [oH] ⟨[(0, .one (.elp 0 0 3 0)), (1, iV a1), (5, .one (.nilS)), (6, fV (0 : Nat)), (7, iV (0 : Int))], [(0, .seq (.st (.pair (.sl (.int .u8)) (.pair tI (.int .u64)))) ([a0]))], 1⟩ hX (by kernel_rfl) aN ?_
 refine HT.block ?_
 obtain ⟨r2, hL20, hr⟩ := of_bind hr
 refine HT.loopL (fun (s1 : Nat × Int × (List Int × Int × Int) × List Nat) => ⟨[(0, .one (.elp 0 0 3 0)), (1, iV a1), (5, aV 1), (6, fV s1.1), (7, iV s1.2.1)], [(0, .seq (.st (.pair (.sl (.int .u8)) (.pair tI (.int .u64)))) ([s1.2.2.1])), (1, .seq tF s1.2.2.2)], 2⟩) (fun (r3 : (Nat × (List Int × Int × Int) × List Nat)) => (.exit 0, ⟨[(5, aV 1), (6, fV r3.1)], [(0, .seq (.st (.pair (.sl (.int .u8)) (.pair tI (.int .u64)))) ([r3.2.1])), (1, .seq tF r3.2.2)], 2⟩)) (Le.re [(0, 0)] [1] hX (by kernel_rfl)) hL20 ?_ (fun s1 x13 hx14 hk15 => ?_)
 ·refine (qBlockX (qThen ?_))
  refine HT.seq ?_
  refine HT.rg2 (oHs 3) ⟨[(5, aV 1), (6, fV r2.1), (28, iV (lenI r2.2.2)), (29, iV (0 : Int))], [(0, .seq (.st (.pair (.sl (.int .u8)) (.pair tI (.int .u64)))) ([r2.2.1])), (1, .seq tF r2.2.2)], 2⟩ hX (by kernel_rfl) aN ?_
  refine HT.block ?_
  obtain ⟨r5, hL12, hr⟩ := of_bind hr
  refine HT.loopL (fun (s4 : Int × List Nat) => ⟨[(5, aV 1), (6, fV r2.1), (28, iV (lenI r2.2.2)), (29, iV s4.1)], [(0, .seq (.st (.pair (.sl (.int .u8)) (.pair tI (.int .u64)))) ([r2.2.1])), (1, .seq tF s4.2)], 2⟩) (fun (r6 : List Nat) => (.exit 2, ⟨[(5, aV 1)], [(0, .seq (.st (.pair (.sl (.int .u8)) (.pair tI (.int .u64)))) ([r2.2.1])), (1, .seq tF r6)], 2⟩)) (Le.re [(0, 0), (1, 1)] [] hX (by kernel_rfl)) hL12 ?_ (fun s4 x7 hx8 hk9 => ?_)
  ·refine (qBlockX (qThen ?_))
   refine HT.rg2 (oHs 2) ⟨[(4, aV 1)], [(0, .seq (.st (.pair (.sl (.int .u8)) (.pair tI (.int .u64)))) ([r2.2.1])), (1, .seq tF r5)], 2⟩ hX (by kernel_rfl) aN ?_
   have hr := of_some hr
   subst hr
   exact HT.ret ⟨[aV 1], [1], [List.length ([r2.2.1]) = List.length [a0]], by kernel_rfl, by kernel_rfl, rfl, by kernel_rfl, by kernel_rfl, ⟨(show List.length ([r2.2.1]) = List.length [a0] from rfl), trivial⟩⟩
  ·refine HT.rg2 [oH] ⟨[(5, aV 1), (6, fV r2.1), (28, iV (lenI r2.2.2)), (29, iV s4.1), (30, bV (decide (s4.1 < (lenI r2.2.2))))], [(0, .seq (.st (.pair (.sl (.int .u8)) (.pair tI (.int .u64)))) ([r2.2.1])), (1, .seq tF s4.2)], 2⟩ hX (by kernel_rfl) aN ?_
   refine HT.seq ?_
   rcases of_bif hx8 with ⟨hb10, hx8⟩ | ⟨hb10, hx8⟩
   ·refine HT.cond1 rfl hb10 ?_
    refine HT.skip (qThen ?_)
    refine HT.seq ?_
    refine HT.block ?_
    refine HT.rg2 (oHs 2) ⟨[(5, aV 1), (6, fV r2.1), (9, iV s4.1), (28, iV (lenI r2.2.2)), (29, iV s4.1)], [(0, .seq (.st (.pair (.sl (.int .u8)) (.pair tI (.int .u64)))) ([r2.2.1])), (1, .seq tF s4.2)], 2⟩ hX (by kernel_rfl) aN ?_
    obtain ⟨hg11, hx8⟩ := of_guard hx8
    refine HT.rgL (oHs 10) ⟨[(5, aV 1), (6, fV r2.1), (28, iV (lenI r2.2.2)), (29, iV s4.1)], [(1, .seq tF (List.set s4.2 (Int.toNat s4.1) (fop .quo .f32 (List.getD s4.2 (Int.toNat s4.1) (0 : Nat)) r2.1))), (0, .seq (.st (.pair (.sl (.int .u8)) (.pair tI (.int .u64)))) ([r2.2.1]))], 2⟩ hX (by kernel_rfl) (aC hg11 (aC (natLt hg11) (aC hg11 (aC (natLt hg11) aN)))) (qBlock (qThen ?_))
    have hx8 := of_some hx8
    subst hx8
    exact HT.rgK (oHs 2) [(0, 0), (1, 1)] [] hX (by kernel_rfl) aN (fun _ h => (qLoopN ⟨((wadd .i64 s4.1 (1 : Int)), (List.set s4.2 (Int.toNat s4.1) (fop .quo .f32 (List.getD s4.2 (Int.toNat s4.1) (0 : Nat)) r2.1))), rfl, h⟩))
   ·refine HT.cond0 rfl hb10 ?_
    have hx8 := of_some hx8
    subst hx8
    exact HT.exitL (Le.re [(0, 0), (1, 1)] [] hX (by kernel_rfl)) (qThenE (qLoopE (hk9 s4.2 rfl)))
 ·refine HT.seq ?_
  refine HT.rg2 (oHs 3) ⟨[(0, .one (.elp 0 0 3 0)), (1, iV a1), (5, aV 1), (6, fV s1.1), (7, iV s1.2.1), (13, bV (decide (s1.2.1 < a1)))], [(0, .seq (.st (.pair (.sl (.int .u8)) (.pair tI (.int .u64)))) ([s1.2.2.1])), (1, .seq tF s1.2.2.2)], 2⟩ hX (by kernel_rfl) aN ?_
  rcases of_bif hx14 with ⟨hb16, hx14⟩ | ⟨hb16, hx14⟩
  ·refine HT.cond1 rfl hb16 ?_
   refine HT.skip (qThen ?_)
   refine HT.seq ?_
   refine HT.block ?_
   obtain ⟨y17, hc18, hx14⟩ := of_bind hx14
   refine HT.rg2 [oH, ⟨none, .call [.own (.bx (.st (.pair (.sl (.int .u8)) (.pair tI (.int .u64))))), .imm tI] [⟨false, tI, y17.1⟩] [⟨(.bx (.st (.pair (.sl (.int .u8)) (.pair tI (.int .u64))))), [y17.2]⟩]⟩, oH, oH, oH] ⟨[(0, .one (.elp 0 0 3 0)), (1, iV a1), (5, aV 1), (6, fV s1.1), (7, iV s1.2.1), (8, fV (fofint .f32 (wadd .i64 (1 : Int) y17.1)))], [(0, .seq (.st (.pair (.sl (.int .u8)) (.pair tI (.int .u64)))) ([y17.2])), (1, .seq tF s1.2.2.2)], 2⟩ hX (by kernel_rfl) (aC (f52_ok hc18) aN) ?_
   obtain ⟨hg19, hx14⟩ := of_guard hx14
   refine HT.rg2 [oH, oH, ⟨none, .ty tF⟩, ⟨none, .ty tF⟩, oH] ⟨[(0, .one (.elp 0 0 3 0)), (1, iV a1), (5, aV 3), (6, fV s1.1), (7, iV s1.2.1), (8, fV (fofint .f32 (wadd .i64 (1 : Int) y17.1)))], [(3, .seq tF (s1.2.2.2 ++ ([(fofint .f32 (wadd .i64 (1 : Int) y17.1))] : List Nat))), (0, .seq (.st (.pair (.sl (.int .u8)) (.pair tI (.int .u64)))) ([y17.2]))], 4⟩ hX (by kernel_rfl) (aC hg19 aN) ?_
   refine HT.rgL (oHs 4) ⟨[(0, .one (.elp 0 0 3 0)), (1, iV a1), (5, aV 3), (6, fV (fop .add .f32 s1.1 (fofint .f32 (wadd .i64 (1 : Int) y17.1)))), (7, iV s1.2.1)], [(3, .seq tF (s1.2.2.2 ++ ([(fofint .f32 (wadd .i64 (1 : Int) y17.1))] : List Nat))), (0, .seq (.st (.pair (.sl (.int .u8)) (.pair tI (.int .u64)))) ([y17.2]))], 4⟩ hX (by kernel_rfl) aN (qBlock (qThen ?_))
   have hx14 := of_some hx14
   subst hx14
   exact HT.rgK (oHs 3) [(0, 0), (3, 1)] [] hX (by kernel_rfl) aN (fun _ h => (qLoopN ⟨((fop .add .f32 s1.1 (fofint .f32 (wadd .i64 (1 : Int) y17.1))), (wadd .i64 s1.2.1 (1 : Int)), y17.2, (s1.2.2.2 ++ ([(fofint .f32 (wadd .i64 (1 : Int) y17.1))] : List Nat))), rfl, h⟩))
  ·refine HT.cond0 rfl hb16 ?_
   have hx14 := of_some hx14
   subst hx14
   exact HT.exitL (Le.re [(0, 0), (1, 1)] [] hX (by kernel_rfl)) (qThenE (qLoopE (hk15 (s1.1, s1.2.2.1, s1.2.2.2) rfl)))

noncomputable def spec_B10Model_B1 (a1 : Int) (y3 : Int × (List Int × Int × Int)) (s7 : Int × (List Int × Int × Int) × List Nat × List Nat) : Option ((Int × (List Int × Int × Int) × List Nat × List Nat) ⊕ ((List Nat × List Nat))) :=
 bif (decide (s7.1 < (wadd .i64 (1 : Int) y3.1))) then
  (spec_b10Row s7.2.1 (wadd .i64 (1 : Int) y3.1)).bind fun y14 =>
  guardP (List.length s7.2.2.1 + List.length y14.1 ≤ appMax) (
   (spec_b10Row y14.2 a1).bind fun y17 =>
   guardP (List.length s7.2.2.2 + List.length y17.1 ≤ appMax) (
    some (.inl ((wadd .i64 s7.1 (1 : Int)), y17.2, (s7.2.2.1 ++ y14.1), (s7.2.2.2 ++ y17.1)))))
 else
  some (.inr (s7.2.2.1, s7.2.2.2))

noncomputable def spec_B10Model (a0 : List Int) (a1 : Int) : Option ((Int × Int × List Nat × List Nat × List Nat)) :=
 (spec_l00From a0).bind fun y1 =>
 (spec_l00Src_pick y1 (4 : Int)).bind fun y3 =>
 (spec_b10Row y3.2 (wadd .i64 (1 : Int) y3.1)).bind fun y5 =>
 (rounds (spec_B10Model_B1 a1 y3) ((0 : Int), y5.2, ([] : List Nat), ([] : List Nat))).bind fun r9 =>
 some ((wadd .i64 (1 : Int) y3.1), a1, y5.1, r9.1, r9.2)

theorem f14_ok {a0 : List Int} {a1 : Int} {r : (Int × Int × List Nat × List Nat × List Nat)} (hr : spec_B10Model a0 a1 = some r) : CallOK Try.prog 14 [.imm (.sl (.int .u8)) a0, .imm tI a1] [⟨true, (.st (.pair tI (.pair tI (.pair tLF (.pair tLF tLF))))), r⟩] [] := by
 unfold spec_B10Model at hr
 refine CallOK.of_body (ts := [(true, (.st (.pair tI (.pair tI (.pair tLF (.pair tLF tLF))))))]) Try.func14 rfl (by kernel_rfl) (Nat.le_of_ble_eq_true (by kernel_rfl)) fun cx hP hN hO hF => ?_
 have hO : cx.own.map Prod.fst = [] := hO
 have hX := CxIs.mk hP hN hO
 have hF := hF rfl
 show HT cx ⟨[(0, .one (.dat (.sl (.int .u8)) a0)), (1, iV a1)], [], 0⟩ _ _
 refine HT.rg2 [oH] ⟨[(0, .one (.dat (.sl (.int .u8)) a0)), (1, iV a1), (4, pV 0 0)], [(0, .box [iC (0 : Int), iC (0 : Int), .nilS, .nilS, .nilS])], 1⟩ hX (by kernel_rfl) aN ?_
 obtain ⟨y1, hc2, hr⟩ := of_bind hr
 refine HT.rg2 [oH, ⟨none, .call [.imm (.sl (.int .u8))] [⟨true, (.bx (.st (.pair (.sl (.int .u8)) (.pair tI (.int .u64))))), [y1]⟩] []⟩, oH] ⟨[(1, iV a1), (4, pV 0 0), (5, .one (.elp 1 0 3 0))], [(1, .seq (.st (.pair (.sl (.int .u8)) (.pair tI (.int .u64)))) ([y1])), (0, .box [iC (0 : Int), iC (0 : Int), .nilS, .nilS, .nilS])], 2⟩ hX (by kernel_rfl) (aC (f51_ok hc2) aN) ?_
 obtain ⟨y3, hc4, hr⟩ := of_bind hr
 refine HT.rg2 [oH, ⟨none, .call [.own (.bx (.st (.pair (.sl (.int .u8)) (.pair tI (.int .u64))))), .imm tI] [⟨false, tI, y3.1⟩] [⟨(.bx (.st (.pair (.sl (.int .u8)) (.pair tI (.int .u64))))), [y3.2]⟩]⟩, oH, oH, oH, oH, oH] ⟨[(1, iV a1), (4, pV 0 0), (5, .one (.elp 1 0 3 0)), (6, pV 2 0)], [(2, .box [iC (wadd .i64 (1 : Int) y3.1), iC a1, .nilS, .nilS, .nilS]), (1, .seq (.st (.pair (.sl (.int .u8)) (.pair tI (.int .u64)))) ([y3.2])), (0, .box [iC (0 : Int), iC (0 : Int), .nilS, .nilS, .nilS])], 3⟩ hX (by kernel_rfl) (aC (f52_ok hc4) aN) ?_
 obtain ⟨y5, hc6, hr⟩ := of_bind hr
 refine HT.rg2 [oH, oH, oH, ⟨none, .call [.own (.bx (.st (.pair (.sl (.int .u8)) (.pair tI (.int .u64))))), .imm tI] [⟨true, tLF, y5.1⟩] [⟨(.bx (.st (.pair (.sl (.int .u8)) (.pair tI (.int .u64))))), [y5.2]⟩]⟩, oH] ⟨[(1, iV a1), (4, pV 0 0), (5, .one (.elp 1 0 3 0)), (6, pV 2 0), (7, aV 3)], [(1, .seq (.st (.pair (.sl (.int .u8)) (.pair tI (.int .u64)))) ([y5.2])), (3, .seq tF y5.1), (2, .box [iC (wadd .i64 (1 : Int) y3.1), iC a1, .nilS, .nilS, .nilS]), (0, .box [iC (0 : Int), iC (0 : Int), .nilS, .nilS, .nilS])], 4⟩ hX (by kernel_rfl) (aC (f53_ok hc6) aN) ?_
 refine HT.rg2 (oHs 3) ⟨[(1, iV a1), (4, pV 0 0), (5, .one (.elp 1 0 3 0)), (6, pV 2 0)], [(2, .box [iC (wadd .i64 (1 : Int) y3.1), iC a1, .all 3, .nilS, .nilS]), (1, .seq (.st (.pair (.sl (.int .u8)) (.pair tI (.int .u64)))) ([y5.2])), (3, .seq tF y5.1), (0, .box [iC (0 : Int), iC (0 : Int), .nilS, .nilS, .nilS])], 4⟩ hX (by kernel_rfl) aN ?_
 refine HT.seq ?_
 refine HT.rg2 [oH] ⟨[(1, iV a1), (4, pV 0 0), (5, .one (.elp 1 0 3 0)), (6, pV 2 0), (8, iV (0 : Int))], [(2, .box [iC (wadd .i64 (1 : Int) y3.1), iC a1, .all 3, .nilS, .nilS]), (1, .seq (.st (.pair (.sl (.int .u8)) (.pair tI (.int .u64)))) ([y5.2])), (3, .seq tF y5.1), (0, .box [iC (0 : Int), iC (0 : Int), .nilS, .nilS, .nilS])], 4⟩ hX (by kernel_rfl) aN ?_
 refine HT.block ?_
 obtain ⟨r8, hL20, hr⟩ := of_bind hr
 refine HT.loopL (fun (s7 : Int × (List Int × Int × Int) × List Nat × List Nat) => ⟨[(1, iV a1), (4, pV 0 0), (5, .one (.elp 1 0 3 0)), (6, pV 2 0), (8, iV s7.1)], [(0, .box [iC (0 : Int), iC (0 : Int), .nilS, .nilS, .nilS]), (1, .seq (.st (.pair (.sl (.int .u8)) (.pair tI (.int .u64)))) ([s7.2.1])), (2, .box [iC (wadd .i64 (1 : Int) y3.1), iC a1, .all 3, .all 4, .all 5]), (3, .seq tF y5.1), (4, .seq tF s7.2.2.1), (5, .seq tF s7.2.2.2)], 6⟩) (fun (r9 : (List Nat × List Nat)) => (.exit 0, ⟨[(4, pV 0 0), (6, pV 1 0)], [(0, .box [iC (0 : Int), iC (0 : Int), .nilS, .nilS, .nilS]), (1, .box [iC (wadd .i64 (1 : Int) y3.1), iC a1, .all 2, .all 3, .all 4]), (2, .seq tF y5.1), (3, .seq tF r9.1), (4, .seq tF r9.2)], 5⟩)) (Le.re [(0, 0), (1, 1), (2, 2), (3, 3)] [4, 5] hX (by kernel_rfl)) hL20 ?_ (fun s7 x10 hx11 hk12 => ?_)
 ·refine (qBlockX (qThen ?_))
  refine HT.rg2 (oHs 2) ⟨[(4, pV 0 0)], [(0, .box [iC (wadd .i64 (1 : Int) y3.1), iC a1, .all 2, .all 3, .all 4]), (2, .seq tF y5.1), (3, .seq tF r8.1), (4, .seq tF r8.2)], 5⟩ hX (by kernel_rfl) aN ?_
  have hr := of_some hr
  subst hr
  exact HT.ret ⟨[.agg [iC (wadd .i64 (1 : Int) y3.1), iC a1, .all 2, .all 3, .all 4]], [2, 3, 4], [], by kernel_rfl, by kernel_rfl, rfl, by kernel_rfl, by kernel_rfl, trivial⟩
 ·refine HT.seq ?_
  refine HT.rg2 (oHs 4) ⟨[(1, iV a1), (4, pV 0 0), (5, .one (.elp 1 0 3 0)), (6, pV 2 0), (8, iV s7.1), (25, bV (decide (s7.1 < (wadd .i64 (1 : Int) y3.1))))], [(0, .box [iC (0 : Int), iC (0 : Int), .nilS, .nilS, .nilS]), (1, .seq (.st (.pair (.sl (.int .u8)) (.pair tI (.int .u64)))) ([s7.2.1])), (2, .box [iC (wadd .i64 (1 : Int) y3.1), iC a1, .all 3, .all 4, .all 5]), (3, .seq tF y5.1), (4, .seq tF s7.2.2.1), (5, .seq tF s7.2.2.2)], 6⟩ hX (by kernel_rfl) aN ?_
  rcases of_bif hx11 with ⟨hb13, hx11⟩ | ⟨hb13, hx11⟩
  ·refine HT.cond1 rfl hb13 ?_
   refine HT.skip (qThen ?_)
   refine HT.seq ?_
   refine HT.block ?_
   obtain ⟨y14, hc15, hx11⟩ := of_bind hx11
   obtain ⟨hg16, hx11⟩ := of_guard hx11
   refine HT.dr2 6 [⟨oH, []⟩, ⟨oH, [0]⟩, ⟨oH, []⟩, ⟨oH, []⟩, ⟨oH, [3]⟩, ⟨⟨none, .call [.own (.bx (.st (.pair (.sl (.int .u8)) (.pair tI (.int .u64))))), .imm tI] [⟨true, tLF, y14.1⟩] [⟨(.bx (.st (.pair (.sl (.int .u8)) (.pair tI (.int .u64))))), [y14.2]⟩]⟩, [2, 3, 4]⟩] [[0, 1, 2, 3, 4, 5], [0, 1, 2, 3, 4, 5, 6], [0, 1, 2, 3, 4, 5, 6, 7]] [⟨none, .ty tF⟩, oH, oH] ⟨[(1, iV a1), (4, pV 0 0), (5, .one (.elp 1 0 3 0)), (6, pV 2 0), (8, iV s7.1)], [(2, .box [iC (wadd .i64 (1 : Int) y3.1), iC a1, .all 3, .all 7, .all 5]), (7, .seq tF (s7.2.2.1 ++ y14.1)), (1, .seq (.st (.pair (.sl (.int .u8)) (.pair tI (.int .u64)))) ([y14.2])), (0, .box [iC (0 : Int), iC (0 : Int), .nilS, .nilS, .nilS]), (3, .seq tF y5.1), (5, .seq tF s7.2.2.2)], 8⟩ hX (by kernel_rfl) (by kernel_rfl) (aC (f53_ok hc15) (aC hg16 aN)) ?_
   obtain ⟨y17, hc18, hx11⟩ := of_bind hx11
   obtain ⟨hg19, hx11⟩ := of_guard hx11
   refine HT.drL 5 [⟨oH, []⟩, ⟨oH, [0]⟩, ⟨oH, []⟩, ⟨oH, []⟩, ⟨⟨none, .call [.own (.bx (.st (.pair (.sl (.int .u8)) (.pair tI (.int .u64))))), .imm tI] [⟨true, tLF, y17.1⟩] [⟨(.bx (.st (.pair (.sl (.int .u8)) (.pair tI (.int .u64))))), [y17.2]⟩]⟩, [2, 3]⟩] [[0, 1, 2, 3, 4], [0, 1, 2, 3, 4, 5], [0, 1, 2, 3, 4, 5, 6]] [⟨none, .ty tF⟩, oH, oH] ⟨[(1, iV a1), (4, pV 0 0), (5, .one (.elp 1 0 3 0)), (6, pV 2 0), (8, iV s7.1)], [(2, .box [iC (wadd .i64 (1 : Int) y3.1), iC a1, .all 3, .all 7, .all 9]), (9, .seq tF (s7.2.2.2 ++ y17.1)), (1, .seq (.st (.pair (.sl (.int .u8)) (.pair tI (.int .u64)))) ([y17.2])), (7, .seq tF (s7.2.2.1 ++ y14.1)), (0, .box [iC (0 : Int), iC (0 : Int), .nilS, .nilS, .nilS]), (3, .seq tF y5.1)], 10⟩ hX (by kernel_rfl) (by kernel_rfl) (aC (f53_ok hc18) (aC hg19 aN)) (qBlock (qThen ?_))
   have hx11 := of_some hx11
   subst hx11
   exact HT.rgK (oHs 3) [(0, 0), (1, 1), (2, 2), (3, 3), (7, 4), (9, 5)] [] hX (by kernel_rfl) aN (fun _ h => (qLoopN ⟨((wadd .i64 s7.1 (1 : Int)), y17.2, (s7.2.2.1 ++ y14.1), (s7.2.2.2 ++ y17.1)), rfl, h⟩))
  ·refine HT.cond0 rfl hb13 ?_
   have hx11 := of_some hx11
   subst hx11
   exact HT.exitL (Le.re [(0, 0), (2, 1), (3, 2), (4, 3), (5, 4)] [] hX (by kernel_rfl)) (qThenE (qLoopE (hk12 (s7.2.2.1, s7.2.2.2) rfl)))

noncomputable def spec_l07DrawWord_B1 (a1 : Int) (s1 : Int × (List Int × Int × Int) × List Int) : Option ((Int × (List Int × Int × Int) × List Int) ⊕ (((List Int × Int × Int) × List Int))) :=
 bif (decide (s1.1 > (0 : Int))) then
  (spec_l00Src_pick s1.2.1 a1).bind fun y8 =>
  guardP (List.length s1.2.2 + List.length ([y8.1] : List Int) ≤ appMax) (
   some (.inl ((wsub .i64 s1.1 (1 : Int)), y8.2, (s1.2.2 ++ ([y8.1] : List Int)))))
 else
  some (.inr (s1.2.1, s1.2.2))

noncomputable def spec_l07DrawWord (a0 : List Int × Int × Int) (a1 : Int) (a2 : Int) : Option (List Int × (List Int × Int × Int)) :=
 (rounds (spec_l07DrawWord_B1 a1) (a2, a0, ([] : List Int))).bind fun r3 =>
 some (r3.2, r3.1)

theorem f54_ok {a0 : List Int × Int × Int} {a1 : Int} {a2 : Int} {r : List Int × (List Int × Int × Int)} (hr : spec_l07DrawWord a0 a1 a2 = some r) : CallOK Try.prog 54 [.own (.bx (.st (.pair (.sl (.int .u8)) (.pair tI (.int .u64))))) [a0], .imm tI a1, .imm tI a2] [⟨true, tLI, r.1⟩] [⟨(.bx (.st (.pair (.sl (.int .u8)) (.pair tI (.int .u64))))), [r.2]⟩] := by
 unfold spec_l07DrawWord at hr
 refine CallOK.of_body (ts := [(true, tLI)]) Try.func54 rfl (by kernel_rfl) (Nat.le_of_ble_eq_true (by kernel_rfl)) fun cx hP hN hO hF => ?_
 have hO : cx.own.map Prod.fst = [0] := hO
 have hX := CxIs.mk hP hN hO
 have hF := hF rfl
 show HT cx ⟨[(0, .one (.elp 0 0 3 0)), (1, iV a1), (2, iV a2)], [(0, .seq (.st (.pair (.sl (.int .u8)) (.pair tI (.int .u64)))) ([a0]))], 1⟩ _ _
 refine HT.rg2 [oH] ⟨[(0, .one (.elp 0 0 3 0)), (1, iV a1), (2, iV a2)], [(0, .seq (.st (.pair (.sl (.int .u8)) (.pair tI (.int .u64)))) ([a0]))], 1⟩ hX (by kernel_rfl) aN ?_
 refine HT.rg2 (oHs 2) ⟨[(0, .one (.elp 0 0 3 0)), (1, iV a1), (2, iV a2), (7, .one (.nilS))], [(0, .seq (.st (.pair (.sl (.int .u8)) (.pair tI (.int .u64)))) ([a0]))], 1⟩ hX (by kernel_rfl) aN ?_
 refine HT.seq ?_
 refine HT.block ?_
 obtain ⟨r2, hL11, hr⟩ := of_bind hr
 refine HT.loopL (fun (s1 : Int × (List Int × Int × Int) × List Int) => ⟨[(0, .one (.elp 0 0 3 0)), (1, iV a1), (2, iV s1.1), (7, aV 1)], [(0, .seq (.st (.pair (.sl (.int .u8)) (.pair tI (.int .u64)))) ([s1.2.1])), (1, .seq tI s1.2.2)], 2⟩) (fun (r3 : ((List Int × Int × Int) × List Int)) => (.exit 0, ⟨[(7, aV 1)], [(0, .seq (.st (.pair (.sl (.int .u8)) (.pair tI (.int .u64)))) ([r3.1])), (1, .seq tI r3.2)], 2⟩)) (Le.re [(0, 0)] [1] hX (by kernel_rfl)) hL11 ?_ (fun s1 x4 hx5 hk6 => ?_)
 ·refine (qBlockX (qThen ?_))
  refine HT.rg2 (oHs 2) ⟨[(6, aV 1)], [(0, .seq (.st (.pair (.sl (.int .u8)) (.pair tI (.int .u64)))) ([r2.1])), (1, .seq tI r2.2)], 2⟩ hX (by kernel_rfl) aN ?_
  have hr := of_some hr
  subst hr
  exact HT.ret ⟨[aV 1], [1], [List.length ([r2.1]) = List.length [a0]], by kernel_rfl, by kernel_rfl, rfl, by kernel_rfl, by kernel_rfl, ⟨(show List.length ([r2.1]) = List.length [a0] from rfl), trivial⟩⟩
 ·refine HT.seq ?_
  refine HT.rg2 (oHs 2) ⟨[(0, .one (.elp 0 0 3 0)), (1, iV a1), (2, iV s1.1), (7, aV 1), (10, bV (decide (s1.1 > (0 : Int))))], [(0, .seq (.st (.pair (.sl (.int .u8)) (.pair tI (.int .u64)))) ([s1.2.1])), (1, .seq tI s1.2.2)], 2⟩ hX (by kernel_rfl) aN ?_
  rcases of_bif hx5 with ⟨hb7, hx5⟩ | ⟨hb7, hx5⟩
  ·refine HT.cond1 rfl hb7 ?_
   refine HT.skip (qThen ?_)
   refine HT.seq ?_
   refine HT.block ?_
   obtain ⟨y8, hc9, hx5⟩ := of_bind hx5
   obtain ⟨hg10, hx5⟩ := of_guard hx5
   refine HT.rgL [oH, oH, oH, ⟨none, .call [.own (.bx (.st (.pair (.sl (.int .u8)) (.pair tI (.int .u64))))), .imm tI] [⟨false, tI, y8.1⟩] [⟨(.bx (.st (.pair (.sl (.int .u8)) (.pair tI (.int .u64))))), [y8.2]⟩]⟩, ⟨none, .ty tI⟩, ⟨none, .ty tI⟩, oH] ⟨[(0, .one (.elp 0 0 3 0)), (1, iV a1), (2, iV s1.1), (7, aV 3)], [(3, .seq tI (s1.2.2 ++ ([y8.1] : List Int))), (0, .seq (.st (.pair (.sl (.int .u8)) (.pair tI (.int .u64)))) ([y8.2]))], 4⟩ hX (by kernel_rfl) (aC (f52_ok hc9) (aC hg10 aN)) (qBlock (qThen ?_))
   have hx5 := of_some hx5
   subst hx5
   exact HT.rgK (oHs 3) [(0, 0), (3, 1)] [] hX (by kernel_rfl) aN (fun _ h => (qLoopN ⟨((wsub .i64 s1.1 (1 : Int)), y8.2, (s1.2.2 ++ ([y8.1] : List Int))), rfl, h⟩))
  ·refine HT.cond0 rfl hb7 ?_
   have hx5 := of_some hx5
   subst hx5
   exact HT.exitL (Le.re [(0, 0), (1, 1)] [] hX (by kernel_rfl)) (qThenE (qLoopE (hk6 (s1.2.1, s1.2.2) rfl)))

noncomputable def spec_B10Word (a0 : List Int) (a1 : Int) (a2 : Int) : Option (List Int) :=
 (spec_l00From a0).bind fun y1 =>
 (spec_l07DrawWord y1 a1 a2).bind fun y3 =>
 some y3.1

theorem f15_ok {a0 : List Int} {a1 : Int} {a2 : Int} {r : List Int} (hr : spec_B10Word a0 a1 a2 = some r) : CallOK Try.prog 15 [.imm (.sl (.int .u8)) a0, .imm tI a1, .imm tI a2] [⟨true, tLI, r⟩] [] := by
 unfold spec_B10Word at hr
 refine CallOK.of_body (ts := [(true, tLI)]) Try.func15 rfl (by kernel_rfl) (Nat.le_of_ble_eq_true (by kernel_rfl)) fun cx hP hN hO hF => ?_
 have hO : cx.own.map Prod.fst = [] := hO
 have hX := CxIs.mk hP hN hO
 have hF := hF rfl
 show HT cx ⟨[(0, .one (.dat (.sl (.int .u8)) a0)), (1, iV a1), (2, iV a2)], [], 0⟩ _ _
 refine HT.rg2 [oH] ⟨[(0, .one (.dat (.sl (.int .u8)) a0)), (1, iV a1), (2, iV a2)], [], 0⟩ hX (by kernel_rfl) aN ?_
 obtain ⟨y1, hc2, hr⟩ := of_bind hr
 refine HT.rg2 [oH, ⟨none, .call [.imm (.sl (.int .u8))] [⟨true, (.bx (.st (.pair (.sl (.int .u8)) (.pair tI (.int .u64))))), [y1]⟩] []⟩, oH] ⟨[(1, iV a1), (2, iV a2), (7, .one (.elp 0 0 3 0))], [(0, .seq (.st (.pair (.sl (.int .u8)) (.pair tI (.int .u64)))) ([y1]))], 1⟩ hX (by kernel_rfl) (aC (f51_ok hc2) aN) ?_
 obtain ⟨y3, hc4, hr⟩ := of_bind hr
 refine HT.rg2 [oH, oH, oH, ⟨none, .call [.own (.bx (.st (.pair (.sl (.int .u8)) (.pair tI (.int .u64))))), .imm tI, .imm tI] [⟨true, tLI, y3.1⟩] [⟨(.bx (.st (.pair (.sl (.int .u8)) (.pair tI (.int .u64))))), [y3.2]⟩]⟩, oH] ⟨[(6, aV 1)], [(1, .seq tI y3.1)], 2⟩ hX (by kernel_rfl) (aC (f54_ok hc4) aN) ?_
 have hr := of_some hr
 subst hr
 exact HT.ret ⟨[aV 1], [1], [], by kernel_rfl, by kernel_rfl, rfl, by kernel_rfl, by kernel_rfl, trivial⟩

noncomputable def impl_within (a0 : Int) (a1 : Int) (a2 : Int) : Option (Bool) :=
 (show Option (Bool) from
  bif (decide (a0 ≥ a1)) then
   some (decide (a0 ≤ a2))
  else
   some false).bind fun v1 =>
 some v1

theorem f64_ok {a0 : Int} {a1 : Int} {a2 : Int} {r : Bool} (hr : impl_within a0 a1 a2 = some r) : CallOK Try.prog 64 [.imm tI a0, .imm tI a1, .imm tI a2] [⟨false, .bool, r⟩] [] := by
 unfold impl_within at hr
 refine CallOK.of_body (ts := [(false, .bool)]) Try.func64 rfl (by kernel_rfl) (Nat.le_of_ble_eq_true (by kernel_rfl)) fun cx hP hN hO hF => ?_
 have hO : cx.own.map Prod.fst = [] := hO
 have hX := CxIs.mk hP hN hO
 have hF := hF rfl
 show HT cx ⟨[(0, iV a0), (1, iV a1), (2, iV a2)], [], 0⟩ _ _
 refine HT.rg2 [oH] ⟨[(0, iV a0), (1, iV a1), (2, iV a2)], [], 0⟩ hX (by kernel_rfl) aN ?_
 obtain ⟨v1', hT3, hr⟩ := of_bind hr
 refine HT.join (fun (v1 : Bool) => ⟨[(6, bV v1)], [], 0⟩) (fun v => v = v1') (fun v1 hv2 => ?_) (fun cont => ?_)
 ·subst hv2
  have hr := of_some hr
  subst hr
  exact HT.ret ⟨[bV v1], [], [], by kernel_rfl, by kernel_rfl, rfl, by kernel_rfl, by kernel_rfl, trivial⟩
 ·rcases of_bif hT3 with ⟨hb4, hT3⟩ | ⟨hb4, hT3⟩
  ·exact HT.rgK [oH, oH, oH, oH, oT, oT, oT, vT, oH] [] [] hX (by kernel_rfl) (aC hb4 (aC hb4 (aC hb4 (aC hb4 aN)))) (fun _ h => (qThen (h.ht (cont (decide (a0 ≤ a2)) (of_some hT3)))))
  ·exact HT.rgK [oH, oH, oH, oH, oF, oF, oF, vF, oH] [] [] hX (by kernel_rfl) (aC hb4 (aC hb4 (aC hb4 (aC hb4 aN)))) (fun _ h => (qThen (h.ht (cont false (of_some hT3)))))

noncomputable def impl_rowOf_float32 (a0 : List Nat) (a1 : Int) (a2 : Int) : Option (List Nat) :=
 guardP ((0 : Int) ≤ (wmul .i64 a2 a1) ∧ (wmul .i64 a2 a1) ≤ (wmul .i64 (wadd .i64 a2 (1 : Int)) a1) ∧ (wmul .i64 (wadd .i64 a2 (1 : Int)) a1) ≤ (wmul .i64 (wadd .i64 a2 (1 : Int)) a1) ∧ (wmul .i64 (wadd .i64 a2 (1 : Int)) a1) ≤ lenI a0) (
  some (cut a0 (wmul .i64 a2 a1) (wmul .i64 (wadd .i64 a2 (1 : Int)) a1)))

theorem f88_ok {a0 : List Nat} {a1 : Int} {a2 : Int} {r : List Nat} (hr : impl_rowOf_float32 a0 a1 a2 = some r) : CallOK Try.prog 88 [.imm tLF a0, .imm tI a1, .imm tI a2] [⟨false, tLF, r⟩] [] := by
 unfold impl_rowOf_float32 at hr
 refine CallOK.of_body (ts := [(false, tLF)]) Try.func88 rfl (by kernel_rfl) (Nat.le_of_ble_eq_true (by kernel_rfl)) fun cx hP hN hO hF => ?_
 have hO : cx.own.map Prod.fst = [] := hO
 have hX := CxIs.mk hP hN hO
 have hF := hF rfl
 show HT cx ⟨[(0, lV a0), (1, iV a1), (2, iV a2)], [], 0⟩ _ _
 refine HT.rg2 [oH] ⟨[(0, lV a0), (1, iV a1), (2, iV a2)], [], 0⟩ hX (by kernel_rfl) aN ?_
 obtain ⟨hg1, hr⟩ := of_guard hr
 refine HT.rg2 (oHs 14) ⟨[(6, lV (cut a0 (wmul .i64 a2 a1) (wmul .i64 (wadd .i64 a2 (1 : Int)) a1)))], [], 0⟩ hX (by kernel_rfl) (aC hg1 aN) ?_
 have hr := of_some hr
 subst hr
 exact HT.ret ⟨[lV (cut a0 (wmul .i64 a2 a1) (wmul .i64 (wadd .i64 a2 (1 : Int)) a1))], [], [], by kernel_rfl, by kernel_rfl, rfl, by kernel_rfl, by kernel_rfl, trivial⟩

noncomputable def impl_addUp_B1 (a0 : List Nat) (s1 : Nat × Int) : Option ((Nat × Int) ⊕ (Nat)) :=
 bif (decide (s1.2 < (lenI a0))) then
  guardP ((0 : Int) ≤ s1.2 ∧ s1.2 < lenI a0) (
   some (.inl ((fop .add .f32 s1.1 (List.getD a0 (Int.toNat s1.2) (0 : Nat))), (wadd .i64 s1.2 (1 : Int)))))
 else
  some (.inr s1.1)

noncomputable def impl_addUp (a0 : List Nat) : Option (Nat) :=
 (rounds (impl_addUp_B1 a0) ((0 : Nat), (0 : Int))).bind fun r3 =>
 some r3

theorem f68_ok {a0 : List Nat} {r : Nat} (hr : impl_addUp a0 = some r) : CallOK Try.prog 68 [.imm tLF a0] [⟨false, tF, r⟩] [] := by
 unfold impl_addUp at hr
 refine CallOK.of_body (ts := [(false, tF)]) Try.func68 rfl (by kernel_rfl) (Nat.le_of_ble_eq_true (by kernel_rfl)) fun cx hP hN hO hF => ?_
 have hO : cx.own.map Prod.fst = [] := hO
 have hX := CxIs.mk hP hN hO
 have hF := hF rfl
 show HT cx ⟨[(0, lV a0)], [], 0⟩ _ _
 refine HT.rg2 [oH] ⟨[(0, lV a0)], [], 0⟩ hX (by kernel_rfl) aN ?_
 refine HT.rg2 [oH] ⟨[(0, lV a0), (3, fV (0 : Nat))], [], 0⟩ hX (by kernel_rfl) aN ?_
 refine HT.seq ?_
 refine HT.rg2 (oHs 3) ⟨[(3, fV (0 : Nat)), (6, lV a0), (7, iV (lenI a0)), (8, iV (0 : Int))], [], 0⟩ hX (by kernel_rfl) aN ?_
 refine HT.block ?_
 obtain ⟨r2, hL9, hr⟩ := of_bind hr
 refine HT.loopL (fun (s1 : Nat × Int) => ⟨[(3, fV s1.1), (6, lV a0), (7, iV (lenI a0)), (8, iV s1.2)], [], 0⟩) (fun (r3 : Nat) => (.exit 0, ⟨[(3, fV r3)], [], 0⟩)) (Le.re [] [] hX (by kernel_rfl)) hL9 ?_ (fun s1 x4 hx5 hk6 => ?_)
 ·refine (qBlockX (qThen ?_))
  refine HT.rg2 (oHs 2) ⟨[(2, fV r2)], [], 0⟩ hX (by kernel_rfl) aN ?_
  have hr := of_some hr
  subst hr
  exact HT.ret ⟨[fV r2], [], [], by kernel_rfl, by kernel_rfl, rfl, by kernel_rfl, by kernel_rfl, trivial⟩
 ·refine HT.rg2 [oH] ⟨[(3, fV s1.1), (6, lV a0), (7, iV (lenI a0)), (8, iV s1.2), (9, bV (decide (s1.2 < (lenI a0))))], [], 0⟩ hX (by kernel_rfl) aN ?_
  refine HT.seq ?_
  rcases of_bif hx5 with ⟨hb7, hx5⟩ | ⟨hb7, hx5⟩
  ·refine HT.cond1 rfl hb7 ?_
   refine HT.skip (qThen ?_)
   refine HT.seq ?_
   refine HT.block ?_
   obtain ⟨hg8, hx5⟩ := of_guard hx5
   refine HT.rg2 (oHs 3) ⟨[(3, fV s1.1), (5, fV (List.getD a0 (Int.toNat s1.2) (0 : Nat))), (6, lV a0), (7, iV (lenI a0)), (8, iV s1.2)], [], 0⟩ hX (by kernel_rfl) (aC hg8 aN) ?_
   refine HT.rgL (oHs 4) ⟨[(3, fV (fop .add .f32 s1.1 (List.getD a0 (Int.toNat s1.2) (0 : Nat)))), (6, lV a0), (7, iV (lenI a0)), (8, iV s1.2)], [], 0⟩ hX (by kernel_rfl) aN (qBlock (qThen ?_))
   have hx5 := of_some hx5
   subst hx5
   exact HT.rgK (oHs 2) [] [] hX (by kernel_rfl) aN (fun _ h => (qLoopN ⟨((fop .add .f32 s1.1 (List.getD a0 (Int.toNat s1.2) (0 : Nat))), (wadd .i64 s1.2 (1 : Int))), rfl, h⟩))
  ·refine HT.cond0 rfl hb7 ?_
   have hx5 := of_some hx5
   subst hx5
   exact HT.exitL (Le.re [] [] hX (by kernel_rfl)) (qThenE (qLoopE (hk6 s1.1 rfl)))

noncomputable def impl_absolute (a0 : Nat) : Option (Nat) :=
 bif (flt .f32 a0 (0 : Nat)) then
  some (fneg .f32 a0)
 else
  some a0

theorem f82_ok {a0 : Nat} {r : Nat} (hr : impl_absolute a0 = some r) : CallOK Try.prog 82 [.imm tF a0] [⟨false, tF, r⟩] [] := by
 unfold impl_absolute at hr
 refine CallOK.of_body (ts := [(false, tF)]) Try.func82 rfl (by kernel_rfl) (Nat.le_of_ble_eq_true (by kernel_rfl)) fun cx hP hN hO hF => ?_
 have hO : cx.own.map Prod.fst = [] := hO
 have hX := CxIs.mk hP hN hO
 have hF := hF rfl
 show HT cx ⟨[(0, fV a0)], [], 0⟩ _ _
 refine HT.rg2 [oH] ⟨[(0, fV a0)], [], 0⟩ hX (by kernel_rfl) aN ?_
 refine HT.seq ?_
 refine HT.rg2 (oHs 2) ⟨[(0, fV a0), (4, bV (flt .f32 a0 (0 : Nat)))], [], 0⟩ hX (by kernel_rfl) aN ?_
 rcases of_bif hr with ⟨hb1, hr⟩ | ⟨hb1, hr⟩
 ·refine HT.cond1 rfl hb1 ?_
  refine HT.rg2 (oHs 3) ⟨[(2, fV (fneg .f32 a0))], [], 0⟩ hX (by kernel_rfl) aN ?_
  have hr := of_some hr
  subst hr
  exact HT.ret (qThenR ⟨[fV (fneg .f32 a0)], [], [], by kernel_rfl, by kernel_rfl, rfl, by kernel_rfl, by kernel_rfl, trivial⟩)
 ·refine HT.cond0 rfl hb1 ?_
  refine HT.skip (qThen ?_)
  refine HT.rg2 (oHs 2) ⟨[(2, fV a0)], [], 0⟩ hX (by kernel_rfl) aN ?_
  have hr := of_some hr
  subst hr
  exact HT.ret ⟨[fV a0], [], [], by kernel_rfl, by kernel_rfl, rfl, by kernel_rfl, by kernel_rfl, trivial⟩

noncomputable def impl_areChances_B1 (a0 : List Nat) (s1 : Int) : Option ((Int) ⊕ (Unit ⊕ Unit)) :=
 bif (decide (s1 < (lenI a0))) then
  guardP ((0 : Int) ≤ s1 ∧ s1 < lenI a0) (
   (show Option (Bool) from
    bif (fge .f32 (List.getD a0 (Int.toNat s1) (0 : Nat)) (0 : Nat)) then
     some (!(fle .f32 (List.getD a0 (Int.toNat s1) (0 : Nat)) (1065353216 : Nat)))
    else
     some true).bind fun v14 =>
   bif v14 then
    some (.inr (.inr ()))
   else
    some (.inl (wadd .i64 s1 (1 : Int))))
 else
  some (.inr (.inl ()))

noncomputable def impl_areChances (a0 : List Nat) : Option (Bool) :=
 (rounds (impl_areChances_B1 a0) (0 : Int)).bind fun r2 => match r2 with
  | .inl r3 =>
   (impl_addUp a0).bind fun y4 =>
   (impl_absolute (fop .sub .f32 y4 (1065353216 : Nat))).bind fun y6 =>
   some (fle .f32 y6 (981668463 : Nat))
  | .inr r8 =>
   some false

theorem f107_ok {a0 : List Nat} {r : Bool} (hr : impl_areChances a0 = some r) : CallOK Try.prog 107 [.imm tLF a0] [⟨false, .bool, r⟩] [] := by
 unfold impl_areChances at hr
 refine CallOK.of_body (ts := [(false, .bool)]) Try.func107 rfl (by kernel_rfl) (Nat.le_of_ble_eq_true (by kernel_rfl)) fun cx hP hN hO hF => ?_
 have hO : cx.own.map Prod.fst = [] := hO
 have hX := CxIs.mk hP hN hO
 have hF := hF rfl
 show HT cx ⟨[(0, lV a0)], [], 0⟩ _ _
 refine HT.rg2 [oH] ⟨[(0, lV a0)], [], 0⟩ hX (by kernel_rfl) aN ?_
 refine HT.seq ?_
 refine HT.rg2 (oHs 3) ⟨[(0, lV a0), (5, lV a0), (6, iV (lenI a0)), (7, iV (0 : Int))], [], 0⟩ hX (by kernel_rfl) aN ?_
 refine HT.block ?_
 obtain ⟨r2, hL19, hr⟩ := of_bind hr
 refine HT.loopL (fun (s1 : Int) => ⟨[(0, lV a0), (5, lV a0), (6, iV (lenI a0)), (7, iV s1)], [], 0⟩) (fun (r2 : Unit ⊕ Unit) => match r2 with | .inl r3 => (.exit 0, ⟨[(0, lV a0)], [], 0⟩) | .inr r8 => (.ret, ⟨[(2, bV false)], [], 0⟩)) (Le.re [] [] hX (by kernel_rfl)) hL19 ?_ (fun s1 x9 hx10 hk11 => ?_)
 ·rcases r2 with r3 | r8
  ·refine (qBlockX (qThen ?_))
   obtain ⟨y4, hc5, hr⟩ := of_bind hr
   obtain ⟨y6, hc7, hr⟩ := of_bind hr
   refine HT.rg2 [oH, ⟨none, .call [.imm tLF] [⟨false, tF, y4⟩] []⟩, oH, ⟨none, .call [.imm tF] [⟨false, tF, y6⟩] []⟩, oH, oH] ⟨[(2, bV (fle .f32 y6 (981668463 : Nat)))], [], 0⟩ hX (by kernel_rfl) (aC (f68_ok hc5) (aC (f82_ok hc7) aN)) ?_
   have hr := of_some hr
   subst hr
   exact HT.ret ⟨[bV (fle .f32 y6 (981668463 : Nat))], [], [], by kernel_rfl, by kernel_rfl, rfl, by kernel_rfl, by kernel_rfl, trivial⟩
  ·have hr := of_some hr
   subst hr
   exact (qBlockR (qThenR ⟨[bV false], [], [], by kernel_rfl, by kernel_rfl, rfl, by kernel_rfl, by kernel_rfl, trivial⟩))
 ·refine HT.rg2 [oH] ⟨[(0, lV a0), (5, lV a0), (6, iV (lenI a0)), (7, iV s1), (8, bV (decide (s1 < (lenI a0))))], [], 0⟩ hX (by kernel_rfl) aN ?_
  refine HT.seq ?_
  rcases of_bif hx10 with ⟨hb12, hx10⟩ | ⟨hb12, hx10⟩
  ·refine HT.cond1 rfl hb12 ?_
   refine HT.skip (qThen ?_)
   refine HT.seq ?_
   refine HT.block ?_
   obtain ⟨hg13, hx10⟩ := of_guard hx10
   refine HT.rg2 (oHs 3) ⟨[(0, lV a0), (4, fV (List.getD a0 (Int.toNat s1) (0 : Nat))), (5, lV a0), (6, iV (lenI a0)), (7, iV s1)], [], 0⟩ hX (by kernel_rfl) (aC hg13 aN) ?_
   obtain ⟨v14', hT16, hx10⟩ := of_bind hx10
   refine HT.join (fun (v14 : Bool) => ⟨[(0, lV a0), (5, lV a0), (6, iV (lenI a0)), (7, iV s1), (17, bV v14)], [], 0⟩) (fun v => v = v14') (fun v14 hv15 => ?_) (fun cont => ?_)
   ·subst hv15
    rcases of_bif hx10 with ⟨hb17, hx10⟩ | ⟨hb17, hx10⟩
    ·refine HT.cond1 rfl hb17 ?_
     refine HT.rg2 [oH] ⟨[(2, bV false)], [], 0⟩ hX (by kernel_rfl) aN ?_
     have hx10 := of_some hx10
     subst hx10
     exact HT.retL (Le.re [] [] hX (by kernel_rfl)) (qBlockR (qThenR (qLoopR (hk11 (.inr ()) rfl))))
    ·refine HT.cond0 rfl hb17 ?_
     refine HT.skip (qBlock (qThen ?_))
     have hx10 := of_some hx10
     subst hx10
     exact HT.rgK (oHs 2) [] [] hX (by kernel_rfl) aN (fun _ h => (qLoopN ⟨(wadd .i64 s1 (1 : Int)), rfl, h⟩))
   ·rcases of_bif hT16 with ⟨hb18, hT16⟩ | ⟨hb18, hT16⟩
    ·exact HT.rgK [oH, oH, oH, oT, oT, vT, oH] [] [] hX (by kernel_rfl) (aC hb18 (aC hb18 (aC hb18 aN))) (fun _ h => (qThen (h.ht (cont (!(fle .f32 (List.getD a0 (Int.toNat s1) (0 : Nat)) (1065353216 : Nat))) (of_some hT16)))))
    ·exact HT.rgK [oH, oH, oH, oF, oF, vF, oH] [] [] hX (by kernel_rfl) (aC hb18 (aC hb18 (aC hb18 aN))) (fun _ h => (qThen (h.ht (cont true (of_some hT16)))))
  ·refine HT.cond0 rfl hb12 ?_
   have hx10 := of_some hx10
   subst hx10
   exact HT.exitL (Le.re [] [] hX (by kernel_rfl)) (qThenE (qLoopE (hk11 (.inl ()) rfl)))

noncomputable def impl_areRows_B1 (a0 : List Nat) (a1 : Int) (a2 : Int) (s2 : Int) : Option ((Int) ⊕ (Unit ⊕ Unit)) :=
 bif (decide (s2 < a1)) then
  (impl_rowOf_float32 a0 a2 s2).bind fun y10 =>
  (impl_areChances y10).bind fun y12 =>
  bif (!y12) then
   some (.inr (.inr ()))
  else
   some (.inl (wadd .i64 s2 (1 : Int)))
 else
  some (.inr (.inl ()))

noncomputable def impl_areRows (a0 : List Nat) (a1 : Int) (a2 : Int) : Option (Bool) :=
 bif ((lenI a0) != (wmul .i64 a1 a2)) then
  some false
 else
  (rounds (impl_areRows_B1 a0 a1 a2) (0 : Int)).bind fun r3 => match r3 with
   | .inl r4 =>
    some true
   | .inr r5 =>
    some false

theorem f65_ok {a0 : List Nat} {a1 : Int} {a2 : Int} {r : Bool} (hr : impl_areRows a0 a1 a2 = some r) : CallOK Try.prog 65 [.imm tLF a0, .imm tI a1, .imm tI a2] [⟨false, .bool, r⟩] [] := by
 unfold impl_areRows at hr
 refine CallOK.of_body (ts := [(false, .bool)]) Try.func65 rfl (by kernel_rfl) (Nat.le_of_ble_eq_true (by kernel_rfl)) fun cx hP hN hO hF => ?_
 have hO : cx.own.map Prod.fst = [] := hO
 have hX := CxIs.mk hP hN hO
 have hF := hF rfl
 show HT cx ⟨[(0, lV a0), (1, iV a1), (2, iV a2)], [], 0⟩ _ _
 refine HT.rg2 [oH] ⟨[(0, lV a0), (1, iV a1), (2, iV a2)], [], 0⟩ hX (by kernel_rfl) aN ?_
 refine HT.seq ?_
 refine HT.rg2 (oHs 6) ⟨[(0, lV a0), (1, iV a1), (2, iV a2), (13, bV ((lenI a0) != (wmul .i64 a1 a2)))], [], 0⟩ hX (by kernel_rfl) aN ?_
 rcases of_bif hr with ⟨hb1, hr⟩ | ⟨hb1, hr⟩
 ·refine HT.cond1 rfl hb1 ?_
  refine HT.rg2 [oH] ⟨[(6, bV false)], [], 0⟩ hX (by kernel_rfl) aN ?_
  have hr := of_some hr
  subst hr
  exact HT.ret (qThenR ⟨[bV false], [], [], by kernel_rfl, by kernel_rfl, rfl, by kernel_rfl, by kernel_rfl, trivial⟩)
 ·refine HT.cond0 rfl hb1 ?_
  refine HT.skip (qThen ?_)
  refine HT.seq ?_
  refine HT.rg2 (oHs 2) ⟨[(0, lV a0), (2, iV a2), (14, iV a1), (15, iV (0 : Int))], [], 0⟩ hX (by kernel_rfl) aN ?_
  refine HT.block ?_
  obtain ⟨r3, hL15, hr⟩ := of_bind hr
  refine HT.loopL (fun (s2 : Int) => ⟨[(0, lV a0), (2, iV a2), (14, iV a1), (15, iV s2)], [], 0⟩) (fun (r3 : Unit ⊕ Unit) => match r3 with | .inl r4 => (.exit 0, ⟨[], [], 0⟩) | .inr r5 => (.ret, ⟨[(6, bV false)], [], 0⟩)) (Le.re [] [] hX (by kernel_rfl)) hL15 ?_ (fun s2 x6 hx7 hk8 => ?_)
  ·rcases r3 with r4 | r5
   ·refine (qBlockX (qThen ?_))
    refine HT.rg2 [oH] ⟨[(6, bV true)], [], 0⟩ hX (by kernel_rfl) aN ?_
    have hr := of_some hr
    subst hr
    exact HT.ret ⟨[bV true], [], [], by kernel_rfl, by kernel_rfl, rfl, by kernel_rfl, by kernel_rfl, trivial⟩
   ·have hr := of_some hr
    subst hr
    exact (qBlockR (qThenR ⟨[bV false], [], [], by kernel_rfl, by kernel_rfl, rfl, by kernel_rfl, by kernel_rfl, trivial⟩))
  ·refine HT.rg2 [oH] ⟨[(0, lV a0), (2, iV a2), (14, iV a1), (15, iV s2), (16, bV (decide (s2 < a1)))], [], 0⟩ hX (by kernel_rfl) aN ?_
   refine HT.seq ?_
   rcases of_bif hx7 with ⟨hb9, hx7⟩ | ⟨hb9, hx7⟩
   ·refine HT.cond1 rfl hb9 ?_
    refine HT.skip (qThen ?_)
    refine HT.seq ?_
    refine HT.block ?_
    refine HT.rg2 (oHs 2) ⟨[(0, lV a0), (2, iV a2), (7, iV s2), (14, iV a1), (15, iV s2)], [], 0⟩ hX (by kernel_rfl) aN ?_
    obtain ⟨y10, hc11, hx7⟩ := of_bind hx7
    obtain ⟨y12, hc13, hx7⟩ := of_bind hx7
    refine HT.rg2 [oH, oH, oH, ⟨none, .call [.imm tLF, .imm tI, .imm tI] [⟨false, tLF, y10⟩] []⟩, ⟨none, .call [.imm tLF] [⟨false, .bool, y12⟩] []⟩, oH] ⟨[(0, lV a0), (2, iV a2), (14, iV a1), (15, iV s2), (23, bV (!y12))], [], 0⟩ hX (by kernel_rfl) (aC (f88_ok hc11) (aC (f107_ok hc13) aN)) ?_
    rcases of_bif hx7 with ⟨hb14, hx7⟩ | ⟨hb14, hx7⟩
    ·refine HT.cond1 rfl hb14 ?_
     refine HT.rg2 [oH] ⟨[(6, bV false)], [], 0⟩ hX (by kernel_rfl) aN ?_
     have hx7 := of_some hx7
     subst hx7
     exact HT.retL (Le.re [] [] hX (by kernel_rfl)) (qBlockR (qThenR (qLoopR (hk8 (.inr ()) rfl))))
    ·refine HT.cond0 rfl hb14 ?_
     refine HT.skip (qBlock (qThen ?_))
     have hx7 := of_some hx7
     subst hx7
     exact HT.rgK (oHs 2) [] [] hX (by kernel_rfl) aN (fun _ h => (qLoopN ⟨(wadd .i64 s2 (1 : Int)), rfl, h⟩))
   ·refine HT.cond0 rfl hb9 ?_
    have hx7 := of_some hx7
    subst hx7
    exact HT.exitL (Le.re [] [] hX (by kernel_rfl)) (qThenE (qLoopE (hk8 (.inl ()) rfl)))

noncomputable def impl_ValidModel (a0 : Int × Int × List Nat × List Nat × List Nat) : Option (Bool) :=
 (show Option (Bool) from
  (impl_within a0.1 (1 : Int) (5 : Int)).bind fun y4 =>
  bif y4 then
   (impl_within a0.2.1 (1 : Int) (4 : Int)).bind fun y7 =>
   bif y7 then
    (impl_areRows a0.2.2.1 (1 : Int) a0.1).bind fun y10 =>
    bif y10 then
     (impl_areRows a0.2.2.2.1 a0.1 a0.1).bind fun y13 =>
     bif y13 then
      (impl_areRows a0.2.2.2.2 a0.1 a0.2.1).bind fun y16 =>
      some y16
     else
      some false
    else
     some false
   else
    some false
  else
   some false).bind fun v1 =>
 some v1

theorem f20_ok {a0 : Int × Int × List Nat × List Nat × List Nat} {r : Bool} (hr : impl_ValidModel a0 = some r) : CallOK Try.prog 20 [.imm (.st (.pair tI (.pair tI (.pair tLF (.pair tLF tLF))))) a0] [⟨false, .bool, r⟩] [] := by
 unfold impl_ValidModel at hr
 refine CallOK.of_body (ts := [(false, .bool)]) Try.func20 rfl (by kernel_rfl) (Nat.le_of_ble_eq_true (by kernel_rfl)) fun cx hP hN hO hF => ?_
 have hO : cx.own.map Prod.fst = [] := hO
 have hX := CxIs.mk hP hN hO
 have hF := hF rfl
 show HT cx ⟨[(0, .agg [iC a0.1, iC a0.2.1, lC a0.2.2.1, lC a0.2.2.2.1, lC a0.2.2.2.2])], [], 0⟩ _ _
 refine HT.rg2 (oHs 2) ⟨[(1, pV 0 0)], [(0, .box [iC a0.1, iC a0.2.1, lC a0.2.2.1, lC a0.2.2.2.1, lC a0.2.2.2.2])], 1⟩ hX (by kernel_rfl) aN ?_
 obtain ⟨v1', hT3, hr⟩ := of_bind hr
 refine HT.join (fun (v1 : Bool) => ⟨[(2, bV v1)], [], 0⟩) (fun v => v = v1') (fun v1 hv2 => ?_) (fun cont => ?_)
 ·subst hv2
  have hr := of_some hr
  subst hr
  exact HT.ret ⟨[bV v1], [], [], by kernel_rfl, by kernel_rfl, rfl, by kernel_rfl, by kernel_rfl, trivial⟩
 ·obtain ⟨y4, hc5, hT3⟩ := of_bind hT3
  rcases of_bif hT3 with ⟨hb6, hT3⟩ | ⟨hb6, hT3⟩
  ·obtain ⟨y7, hc8, hT3⟩ := of_bind hT3
   rcases of_bif hT3 with ⟨hb9, hT3⟩ | ⟨hb9, hT3⟩
   ·obtain ⟨y10, hc11, hT3⟩ := of_bind hT3
    rcases of_bif hT3 with ⟨hb12, hT3⟩ | ⟨hb12, hT3⟩
    ·obtain ⟨y13, hc14, hT3⟩ := of_bind hT3
     rcases of_bif hT3 with ⟨hb15, hT3⟩ | ⟨hb15, hT3⟩
     ·obtain ⟨y16, hc17, hT3⟩ := of_bind hT3
      exact HT.rgK [oH, oH, ⟨none, .call [.imm tI, .imm tI, .imm tI] [⟨false, .bool, y4⟩] []⟩, oH, oT, oT, ⟨some true, .call [.imm tI, .imm tI, .imm tI] [⟨false, .bool, y7⟩] []⟩, vT, oH, oT, oT, oT, oT, ⟨some true, .call [.imm tLF, .imm tI, .imm tI] [⟨false, .bool, y10⟩] []⟩, vT, oH, oT, oT, oT, oT, oT, oT, ⟨some true, .call [.imm tLF, .imm tI, .imm tI] [⟨false, .bool, y13⟩] []⟩, vT, oH, oT, oT, oT, oT, oT, oT, ⟨some true, .call [.imm tLF, .imm tI, .imm tI] [⟨false, .bool, y16⟩] []⟩, vT, oH] [] [] hX (by kernel_rfl) (aC (f64_ok hc5) (aC hb6 (aC hb6 (aC hb6 (aC (f64_ok hc8) (aC hb6 (aC hb9 (aC hb9 (aC hb9 (aC hb9 (aC hb9 (aC (f65_ok hc11) (aC hb9 (aC hb12 (aC hb12 (aC hb12 (aC hb12 (aC hb12 (aC hb12 (aC hb12 (aC (f65_ok hc14) (aC hb12 (aC hb15 (aC hb15 (aC hb15 (aC hb15 (aC hb15 (aC hb15 (aC hb15 (aC (f65_ok hc17) (aC hb15 aN))))))))))))))))))))))))))))))) (fun _ h => (qThen (h.ht (cont y16 (of_some hT3)))))
     ·exact HT.rgK [oH, oH, ⟨none, .call [.imm tI, .imm tI, .imm tI] [⟨false, .bool, y4⟩] []⟩, oH, oT, oT, ⟨some true, .call [.imm tI, .imm tI, .imm tI] [⟨false, .bool, y7⟩] []⟩, vT, oH, oT, oT, oT, oT, ⟨some true, .call [.imm tLF, .imm tI, .imm tI] [⟨false, .bool, y10⟩] []⟩, vT, oH, oT, oT, oT, oT, oT, oT, ⟨some true, .call [.imm tLF, .imm tI, .imm tI] [⟨false, .bool, y13⟩] []⟩, vT, oH, oF, oF, oF, oF, oF, oF, oF, vF, oH] [] [] hX (by kernel_rfl) (aC (f64_ok hc5) (aC hb6 (aC hb6 (aC hb6 (aC (f64_ok hc8) (aC hb6 (aC hb9 (aC hb9 (aC hb9 (aC hb9 (aC hb9 (aC (f65_ok hc11) (aC hb9 (aC hb12 (aC hb12 (aC hb12 (aC hb12 (aC hb12 (aC hb12 (aC hb12 (aC (f65_ok hc14) (aC hb12 (aC hb15 (aC hb15 (aC hb15 (aC hb15 (aC hb15 (aC hb15 (aC hb15 (aC hb15 aN)))))))))))))))))))))))))))))) (fun _ h => (qThen (h.ht (cont false (of_some hT3)))))
    ·exact HT.rgK [oH, oH, ⟨none, .call [.imm tI, .imm tI, .imm tI] [⟨false, .bool, y4⟩] []⟩, oH, oT, oT, ⟨some true, .call [.imm tI, .imm tI, .imm tI] [⟨false, .bool, y7⟩] []⟩, vT, oH, oT, oT, oT, oT, ⟨some true, .call [.imm tLF, .imm tI, .imm tI] [⟨false, .bool, y10⟩] []⟩, vT, oH, oF, oF, oF, oF, oF, oF, oF, vF, oH, oF, oF, oF, oF, oF, oF, oF, vF, oH] [] [] hX (by kernel_rfl) (aC (f64_ok hc5) (aC hb6 (aC hb6 (aC hb6 (aC (f64_ok hc8) (aC hb6 (aC hb9 (aC hb9 (aC hb9 (aC hb9 (aC hb9 (aC (f65_ok hc11) (aC hb9 (aC hb12 (aC hb12 (aC hb12 (aC hb12 (aC hb12 (aC hb12 (aC hb12 (aC hb12 (aF (aF (aF (aF (aF (aF (aF (aF aN))))))))))))))))))))))))))))) (fun _ h => (qThen (h.ht (cont false (of_some hT3)))))
   ·exact HT.rgK [oH, oH, ⟨none, .call [.imm tI, .imm tI, .imm tI] [⟨false, .bool, y4⟩] []⟩, oH, oT, oT, ⟨some true, .call [.imm tI, .imm tI, .imm tI] [⟨false, .bool, y7⟩] []⟩, vT, oH, oF, oF, oF, oF, oF, vF, oH, oF, oF, oF, oF, oF, oF, oF, vF, oH, oF, oF, oF, oF, oF, oF, oF, vF, oH] [] [] hX (by kernel_rfl) (aC (f64_ok hc5) (aC hb6 (aC hb6 (aC hb6 (aC (f64_ok hc8) (aC hb6 (aC hb9 (aC hb9 (aC hb9 (aC hb9 (aC hb9 (aC hb9 (aF (aF (aF (aF (aF (aF (aF (aF (aF (aF (aF (aF (aF (aF (aF (aF aN)))))))))))))))))))))))))))) (fun _ h => (qThen (h.ht (cont false (of_some hT3)))))
  ·exact HT.rgK [oH, oH, ⟨none, .call [.imm tI, .imm tI, .imm tI] [⟨false, .bool, y4⟩] []⟩, oH, oF, oF, oF, vF, oH, oF, oF, oF, oF, oF, vF, oH, oF, oF, oF, oF, oF, oF, oF, vF, oH, oF, oF, oF, oF, oF, oF, oF, vF, oH] [] [] hX (by kernel_rfl) (aC (f64_ok hc5) (aC hb6 (aC hb6 (aC hb6 (aC hb6 (aF (aF (aF (aF (aF (aF (aF (aF (aF (aF (aF (aF (aF (aF (aF (aF (aF (aF (aF (aF (aF (aF aN))))))))))))))))))))))))))) (fun _ h => (qThen (h.ht (cont false (of_some hT3)))))

noncomputable def impl_areWithin_B1 (a0 : List Int) (a1 : Int) (a2 : Int) (s1 : Int) : Option ((Int) ⊕ (Unit ⊕ Unit)) :=
 bif (decide (s1 < (lenI a0))) then
  guardP ((0 : Int) ≤ s1 ∧ s1 < lenI a0) (
   (impl_within (List.getD a0 (Int.toNat s1) (0 : Int)) a1 a2).bind fun y10 =>
   bif (!y10) then
    some (.inr (.inr ()))
   else
    some (.inl (wadd .i64 s1 (1 : Int))))
 else
  some (.inr (.inl ()))

noncomputable def impl_areWithin (a0 : List Int) (a1 : Int) (a2 : Int) : Option (Bool) :=
 (rounds (impl_areWithin_B1 a0 a1 a2) (0 : Int)).bind fun r2 => match r2 with
  | .inl r3 =>
   some true
  | .inr r4 =>
   some false

theorem f117_ok {a0 : List Int} {a1 : Int} {a2 : Int} {r : Bool} (hr : impl_areWithin a0 a1 a2 = some r) : CallOK Try.prog 117 [.imm tLI a0, .imm tI a1, .imm tI a2] [⟨false, .bool, r⟩] [] := by
 unfold impl_areWithin at hr
 refine CallOK.of_body (ts := [(false, .bool)]) Try.func117 rfl (by kernel_rfl) (Nat.le_of_ble_eq_true (by kernel_rfl)) fun cx hP hN hO hF => ?_
 have hO : cx.own.map Prod.fst = [] := hO
 have hX := CxIs.mk hP hN hO
 have hF := hF rfl
 show HT cx ⟨[(0, nV a0), (1, iV a1), (2, iV a2)], [], 0⟩ _ _
 refine HT.rg2 [oH] ⟨[(0, nV a0), (1, iV a1), (2, iV a2)], [], 0⟩ hX (by kernel_rfl) aN ?_
 refine HT.seq ?_
 refine HT.rg2 (oHs 3) ⟨[(1, iV a1), (2, iV a2), (9, nV a0), (10, iV (lenI a0)), (11, iV (0 : Int))], [], 0⟩ hX (by kernel_rfl) aN ?_
 refine HT.block ?_
 obtain ⟨r2, hL13, hr⟩ := of_bind hr
 refine HT.loopL (fun (s1 : Int) => ⟨[(1, iV a1), (2, iV a2), (9, nV a0), (10, iV (lenI a0)), (11, iV s1)], [], 0⟩) (fun (r2 : Unit ⊕ Unit) => match r2 with | .inl r3 => (.exit 0, ⟨[], [], 0⟩) | .inr r4 => (.ret, ⟨[(6, bV false)], [], 0⟩)) (Le.re [] [] hX (by kernel_rfl)) hL13 ?_ (fun s1 x5 hx6 hk7 => ?_)
 ·rcases r2 with r3 | r4
  ·refine (qBlockX (qThen ?_))
   refine HT.rg2 [oH] ⟨[(6, bV true)], [], 0⟩ hX (by kernel_rfl) aN ?_
   have hr := of_some hr
   subst hr
   exact HT.ret ⟨[bV true], [], [], by kernel_rfl, by kernel_rfl, rfl, by kernel_rfl, by kernel_rfl, trivial⟩
  ·have hr := of_some hr
   subst hr
   exact (qBlockR (qThenR ⟨[bV false], [], [], by kernel_rfl, by kernel_rfl, rfl, by kernel_rfl, by kernel_rfl, trivial⟩))
 ·refine HT.rg2 [oH] ⟨[(1, iV a1), (2, iV a2), (9, nV a0), (10, iV (lenI a0)), (11, iV s1), (12, bV (decide (s1 < (lenI a0))))], [], 0⟩ hX (by kernel_rfl) aN ?_
  refine HT.seq ?_
  rcases of_bif hx6 with ⟨hb8, hx6⟩ | ⟨hb8, hx6⟩
  ·refine HT.cond1 rfl hb8 ?_
   refine HT.skip (qThen ?_)
   refine HT.seq ?_
   refine HT.block ?_
   obtain ⟨hg9, hx6⟩ := of_guard hx6
   refine HT.rg2 (oHs 3) ⟨[(1, iV a1), (2, iV a2), (8, iV (List.getD a0 (Int.toNat s1) (0 : Int))), (9, nV a0), (10, iV (lenI a0)), (11, iV s1)], [], 0⟩ hX (by kernel_rfl) (aC hg9 aN) ?_
   obtain ⟨y10, hc11, hx6⟩ := of_bind hx6
   refine HT.rg2 [oH, oH, oH, ⟨none, .call [.imm tI, .imm tI, .imm tI] [⟨false, .bool, y10⟩] []⟩, oH] ⟨[(1, iV a1), (2, iV a2), (9, nV a0), (10, iV (lenI a0)), (11, iV s1), (19, bV (!y10))], [], 0⟩ hX (by kernel_rfl) (aC (f64_ok hc11) aN) ?_
   rcases of_bif hx6 with ⟨hb12, hx6⟩ | ⟨hb12, hx6⟩
   ·refine HT.cond1 rfl hb12 ?_
    refine HT.rg2 [oH] ⟨[(6, bV false)], [], 0⟩ hX (by kernel_rfl) aN ?_
    have hx6 := of_some hx6
    subst hx6
    exact HT.retL (Le.re [] [] hX (by kernel_rfl)) (qBlockR (qThenR (qLoopR (hk7 (.inr ()) rfl))))
   ·refine HT.cond0 rfl hb12 ?_
    refine HT.skip (qBlock (qThen ?_))
    have hx6 := of_some hx6
    subst hx6
    exact HT.rgK (oHs 2) [] [] hX (by kernel_rfl) aN (fun _ h => (qLoopN ⟨(wadd .i64 s1 (1 : Int)), rfl, h⟩))
  ·refine HT.cond0 rfl hb8 ?_
   have hx6 := of_some hx6
   subst hx6
   exact HT.exitL (Le.re [] [] hX (by kernel_rfl)) (qThenE (qLoopE (hk7 (.inl ()) rfl)))

noncomputable def impl_IsWord (a0 : List Int) (a1 : Int) : Option (Bool) :=
 (show Option (Bool) from
  (impl_within a1 (1 : Int) (4 : Int)).bind fun y4 =>
  bif y4 then
   bif (decide ((lenI a0) ≤ (12 : Int))) then
    (impl_areWithin a0 (0 : Int) (wsub .i64 a1 (1 : Int))).bind fun y8 =>
    some y8
   else
    some false
  else
   some false).bind fun v1 =>
 some v1

theorem f103_ok {a0 : List Int} {a1 : Int} {r : Bool} (hr : impl_IsWord a0 a1 = some r) : CallOK Try.prog 103 [.imm tLI a0, .imm tI a1] [⟨false, .bool, r⟩] [] := by
 unfold impl_IsWord at hr
 refine CallOK.of_body (ts := [(false, .bool)]) Try.func103 rfl (by kernel_rfl) (Nat.le_of_ble_eq_true (by kernel_rfl)) fun cx hP hN hO hF => ?_
 have hO : cx.own.map Prod.fst = [] := hO
 have hX := CxIs.mk hP hN hO
 have hF := hF rfl
 show HT cx ⟨[(0, nV a0), (1, iV a1)], [], 0⟩ _ _
 refine HT.rg2 [oH] ⟨[(0, nV a0), (1, iV a1)], [], 0⟩ hX (by kernel_rfl) aN ?_
 obtain ⟨v1', hT3, hr⟩ := of_bind hr
 refine HT.join (fun (v1 : Bool) => ⟨[(4, bV v1)], [], 0⟩) (fun v => v = v1') (fun v1 hv2 => ?_) (fun cont => ?_)
 ·subst hv2
  have hr := of_some hr
  subst hr
  exact HT.ret ⟨[bV v1], [], [], by kernel_rfl, by kernel_rfl, rfl, by kernel_rfl, by kernel_rfl, trivial⟩
 ·obtain ⟨y4, hc5, hT3⟩ := of_bind hT3
  rcases of_bif hT3 with ⟨hb6, hT3⟩ | ⟨hb6, hT3⟩
  ·rcases of_bif hT3 with ⟨hb7, hT3⟩ | ⟨hb7, hT3⟩
   ·obtain ⟨y8, hc9, hT3⟩ := of_bind hT3
    exact HT.rgK [oH, ⟨none, .call [.imm tI, .imm tI, .imm tI] [⟨false, .bool, y4⟩] []⟩, oH, oT, oT, oT, vT, oH, oT, oT, oT, ⟨some true, .call [.imm tLI, .imm tI, .imm tI] [⟨false, .bool, y8⟩] []⟩, vT, oH] [] [] hX (by kernel_rfl) (aC (f64_ok hc5) (aC hb6 (aC hb6 (aC hb6 (aC hb6 (aC hb7 (aC hb7 (aC hb7 (aC hb7 (aC (f117_ok hc9) (aC hb7 aN))))))))))) (fun _ h => (qThen (h.ht (cont y8 (of_some hT3)))))
   ·exact HT.rgK [oH, ⟨none, .call [.imm tI, .imm tI, .imm tI] [⟨false, .bool, y4⟩] []⟩, oH, oT, oT, oT, vT, oH, oF, oF, oF, oF, vF, oH] [] [] hX (by kernel_rfl) (aC (f64_ok hc5) (aC hb6 (aC hb6 (aC hb6 (aC hb6 (aC hb7 (aC hb7 (aC hb7 (aC hb7 (aC hb7 aN)))))))))) (fun _ h => (qThen (h.ht (cont false (of_some hT3)))))
  ·exact HT.rgK [oH, ⟨none, .call [.imm tI, .imm tI, .imm tI] [⟨false, .bool, y4⟩] []⟩, oH, oF, oF, oF, vF, oH, oF, oF, oF, oF, vF, oH] [] [] hX (by kernel_rfl) (aC (f64_ok hc5) (aC hb6 (aC hb6 (aC hb6 (aC hb6 (aF (aF (aF (aF (aF aN)))))))))) (fun _ h => (qThen (h.ht (cont false (of_some hT3)))))

noncomputable def impl_Model_has (a0 : Int × Int × List Nat × List Nat × List Nat) (a1 : List Int) : Option (Bool) :=
 (show Option (Bool) from
  (impl_ValidModel (a0.1, a0.2.1, a0.2.2.1, a0.2.2.2.1, a0.2.2.2.2)).bind fun y4 =>
  bif y4 then
   (impl_IsWord a1 a0.2.1).bind fun y7 =>
   some y7
  else
   some false).bind fun v1 =>
 some v1

theorem f55_ok {a0 : Int × Int × List Nat × List Nat × List Nat} {a1 : List Int} {r : Bool} (hr : impl_Model_has a0 a1 = some r) : CallOK Try.prog 55 [.imm (.st (.pair tI (.pair tI (.pair tLF (.pair tLF tLF))))) a0, .imm tLI a1] [⟨false, .bool, r⟩] [] := by
 unfold impl_Model_has at hr
 refine CallOK.of_body (ts := [(false, .bool)]) Try.func55 rfl (by kernel_rfl) (Nat.le_of_ble_eq_true (by kernel_rfl)) fun cx hP hN hO hF => ?_
 have hO : cx.own.map Prod.fst = [] := hO
 have hX := CxIs.mk hP hN hO
 have hF := hF rfl
 show HT cx ⟨[(0, .agg [iC a0.1, iC a0.2.1, lC a0.2.2.1, lC a0.2.2.2.1, lC a0.2.2.2.2]), (1, nV a1)], [], 0⟩ _ _
 refine HT.rg2 (oHs 2) ⟨[(1, nV a1), (2, pV 0 0)], [(0, .box [iC a0.1, iC a0.2.1, lC a0.2.2.1, lC a0.2.2.2.1, lC a0.2.2.2.2])], 1⟩ hX (by kernel_rfl) aN ?_
 obtain ⟨v1', hT3, hr⟩ := of_bind hr
 refine HT.join (fun (v1 : Bool) => ⟨[(4, bV v1)], [], 0⟩) (fun v => v = v1') (fun v1 hv2 => ?_) (fun cont => ?_)
 ·subst hv2
  have hr := of_some hr
  subst hr
  exact HT.ret ⟨[bV v1], [], [], by kernel_rfl, by kernel_rfl, rfl, by kernel_rfl, by kernel_rfl, trivial⟩
 ·obtain ⟨y4, hc5, hT3⟩ := of_bind hT3
  rcases of_bif hT3 with ⟨hb6, hT3⟩ | ⟨hb6, hT3⟩
  ·obtain ⟨y7, hc8, hT3⟩ := of_bind hT3
   exact HT.rgK [oH, ⟨none, .call [.imm (.st (.pair tI (.pair tI (.pair tLF (.pair tLF tLF)))))] [⟨false, .bool, y4⟩] []⟩, oH, oT, oT, oT, ⟨some true, .call [.imm tLI, .imm tI] [⟨false, .bool, y7⟩] []⟩, vT, oH] [] [] hX (by kernel_rfl) (aC (f20_ok hc5) (aC hb6 (aC hb6 (aC hb6 (aC hb6 (aC (f103_ok hc8) (aC hb6 aN))))))) (fun _ h => (qThen (h.ht (cont y7 (of_some hT3)))))
  ·exact HT.rgK [oH, ⟨none, .call [.imm (.st (.pair tI (.pair tI (.pair tLF (.pair tLF tLF)))))] [⟨false, .bool, y4⟩] []⟩, oH, oF, oF, oF, oF, vF, oH] [] [] hX (by kernel_rfl) (aC (f20_ok hc5) (aC hb6 (aC hb6 (aC hb6 (aC hb6 (aC hb6 aN)))))) (fun _ h => (qThen (h.ht (cont false (of_some hT3)))))

theorem f57_ok {xs y : List Nat} (h : slices_Clone xs = some y) : CallOK Try.prog 57 [.imm tLF xs] [⟨true, tLF, y⟩] [] := by
 obtain ⟨hg, h⟩ := of_guard h
 have h := of_some h
 subst h
 refine CallOK.of_body (ts := [(true, tLF)]) Try.func57 rfl (by kernel_rfl) (Nat.le_of_ble_eq_true (by kernel_rfl)) fun cx hP hN hO hF => ?_
 show HT cx ⟨[(0, .one (.dat tLF xs))], [], 0⟩ _ _
 refine HT.reg1 [0] [⟨none, .no⟩] ⟨[(0, .one (.dat tLF xs))], [], 0⟩ hP hN (by kernel_rfl) aN ?_
 refine HT.seq ?_
 refine HT.isNil (t3 := 3) (t4 := 4) (v := .one (.dat tLF xs)) (t := tF) (xs := xs) (st1 := ⟨[(3, .one (.dat tLF xs)), (0, .one (.dat tLF xs))], [], 0⟩) hP hN (by kernel_rfl) rfl rfl rfl rfl (e := 23) (by kernel_rfl) rfl rfl (fun b hb => ?_)
 show HT cx ⟨[(4, .one (.dat .bool b)), (3, .one (.dat tLF xs)), (0, .one (.dat tLF xs))], [], 0⟩ _ _
 cases b with
 | true =>
  have e := hb rfl
  subst e
  refine HT.cond1 rfl rfl ?_
  refine HT.reg1 [2] [⟨none, .no⟩] ⟨[(2, .one .nilS)], [], 0⟩ hP hN (by kernel_rfl) aN ?_
  exact HT.ret (qThenR ⟨[.one .nilS], [], [], by kernel_rfl, by kernel_rfl, rfl, by kernel_rfl, by kernel_rfl, trivial⟩)
 | false =>
  refine HT.cond0 rfl rfl ?_
  refine HT.skip (qThen ?_)
  refine HT.reg1 [2] [⟨none, .no⟩, ⟨none, .no⟩, ⟨none, .ty tF⟩, ⟨none, .no⟩] ⟨[(2, .one (.all 0))], [(0, .seq tF xs)], 1⟩ hP hN (by kernel_rfl) (aC hg aN) ?_
  exact HT.ret ⟨[.one (.all 0)], [0], [], by kernel_rfl, by kernel_rfl, rfl, by kernel_rfl, by kernel_rfl, trivial⟩

noncomputable def impl_Model_show (a0 : Int × Int × List Nat × List Nat × List Nat) (a1 : Int) (a2 : Int) : Option (Nat) :=
 guardP ((0 : Int) ≤ (wadd .i64 (wmul .i64 a1 a0.2.1) a2) ∧ (wadd .i64 (wmul .i64 a1 a0.2.1) a2) < lenI a0.2.2.2.2) (
  some (List.getD a0.2.2.2.2 (Int.toNat (wadd .i64 (wmul .i64 a1 a0.2.1) a2)) (0 : Nat)))

theorem f58_ok {a0 : Int × Int × List Nat × List Nat × List Nat} {a1 : Int} {a2 : Int} {r : Nat} (hr : impl_Model_show a0 a1 a2 = some r) : CallOK Try.prog 58 [.imm (.st (.pair tI (.pair tI (.pair tLF (.pair tLF tLF))))) a0, .imm tI a1, .imm tI a2] [⟨false, tF, r⟩] [] := by
 unfold impl_Model_show at hr
 refine CallOK.of_body (ts := [(false, tF)]) Try.func58 rfl (by kernel_rfl) (Nat.le_of_ble_eq_true (by kernel_rfl)) fun cx hP hN hO hF => ?_
 have hO : cx.own.map Prod.fst = [] := hO
 have hX := CxIs.mk hP hN hO
 have hF := hF rfl
 show HT cx ⟨[(0, .agg [iC a0.1, iC a0.2.1, lC a0.2.2.1, lC a0.2.2.2.1, lC a0.2.2.2.2]), (1, iV a1), (2, iV a2)], [], 0⟩ _ _
 refine HT.rg2 (oHs 2) ⟨[(1, iV a1), (2, iV a2), (3, pV 0 0)], [(0, .box [iC a0.1, iC a0.2.1, lC a0.2.2.1, lC a0.2.2.2.1, lC a0.2.2.2.2])], 1⟩ hX (by kernel_rfl) aN ?_
 obtain ⟨hg1, hr⟩ := of_guard hr
 refine HT.rg2 (oHs 11) ⟨[(6, fV (List.getD a0.2.2.2.2 (Int.toNat (wadd .i64 (wmul .i64 a1 a0.2.1) a2)) (0 : Nat)))], [], 1⟩ hX (by kernel_rfl) (aC hg1 aN) ?_
 have hr := of_some hr
 subst hr
 exact HT.ret ⟨[fV (List.getD a0.2.2.2.2 (Int.toNat (wadd .i64 (wmul .i64 a1 a0.2.1) a2)) (0 : Nat))], [], [], by kernel_rfl, by kernel_rfl, rfl, by kernel_rfl, by kernel_rfl, trivial⟩

noncomputable def impl_Model_step (a0 : Int × Int × List Nat × List Nat × List Nat) (a1 : Int) (a2 : Int) : Option (Nat) :=
 guardP ((0 : Int) ≤ (wadd .i64 (wmul .i64 a1 a0.1) a2) ∧ (wadd .i64 (wmul .i64 a1 a0.1) a2) < lenI a0.2.2.2.1) (
  some (List.getD a0.2.2.2.1 (Int.toNat (wadd .i64 (wmul .i64 a1 a0.1) a2)) (0 : Nat)))

theorem f86_ok {a0 : Int × Int × List Nat × List Nat × List Nat} {a1 : Int} {a2 : Int} {r : Nat} (hr : impl_Model_step a0 a1 a2 = some r) : CallOK Try.prog 86 [.imm (.st (.pair tI (.pair tI (.pair tLF (.pair tLF tLF))))) a0, .imm tI a1, .imm tI a2] [⟨false, tF, r⟩] [] := by
 unfold impl_Model_step at hr
 refine CallOK.of_body (ts := [(false, tF)]) Try.func86 rfl (by kernel_rfl) (Nat.le_of_ble_eq_true (by kernel_rfl)) fun cx hP hN hO hF => ?_
 have hO : cx.own.map Prod.fst = [] := hO
 have hX := CxIs.mk hP hN hO
 have hF := hF rfl
 show HT cx ⟨[(0, .agg [iC a0.1, iC a0.2.1, lC a0.2.2.1, lC a0.2.2.2.1, lC a0.2.2.2.2]), (1, iV a1), (2, iV a2)], [], 0⟩ _ _
 refine HT.rg2 (oHs 2) ⟨[(1, iV a1), (2, iV a2), (3, pV 0 0)], [(0, .box [iC a0.1, iC a0.2.1, lC a0.2.2.1, lC a0.2.2.2.1, lC a0.2.2.2.2])], 1⟩ hX (by kernel_rfl) aN ?_
 obtain ⟨hg1, hr⟩ := of_guard hr
 refine HT.rg2 (oHs 11) ⟨[(6, fV (List.getD a0.2.2.2.1 (Int.toNat (wadd .i64 (wmul .i64 a1 a0.1) a2)) (0 : Nat)))], [], 1⟩ hX (by kernel_rfl) (aC hg1 aN) ?_
 have hr := of_some hr
 subst hr
 exact HT.ret ⟨[fV (List.getD a0.2.2.2.1 (Int.toNat (wadd .i64 (wmul .i64 a1 a0.1) a2)) (0 : Nat))], [], [], by kernel_rfl, by kernel_rfl, rfl, by kernel_rfl, by kernel_rfl, trivial⟩

noncomputable def impl_Model_nextRow_B1 (a0 : Int × Int × List Nat × List Nat × List Nat) (a1 : List Nat) (a2 : Int) (s2 : Int × List Nat) (s9 : Int × List Nat) : Option ((Int × List Nat) ⊕ (List Nat)) :=
 bif (decide (s9.1 < a0.1)) then
  guardP ((0 : Int) ≤ s2.1 ∧ s2.1 < lenI s9.2) (
   guardP ((0 : Int) ≤ s9.1 ∧ s9.1 < lenI a1) (
    (impl_Model_show (a0.1, a0.2.1, a0.2.2.1, a0.2.2.2.1, a0.2.2.2.2) s9.1 a2).bind fun y18 =>
    (impl_Model_step (a0.1, a0.2.1, a0.2.2.1, a0.2.2.2.1, a0.2.2.2.2) s9.1 s2.1).bind fun y20 =>
    some (.inl ((wadd .i64 s9.1 (1 : Int)), (List.set s9.2 (Int.toNat s2.1) (fop .add .f32 (List.getD s9.2 (Int.toNat s2.1) (0 : Nat)) (fop .mul .f32 (fop .mul .f32 (List.getD a1 (Int.toNat s9.1) (0 : Nat)) y18) y20)))))))
 else
  some (.inr s9.2)

noncomputable def impl_Model_nextRow_B2 (a0 : Int × Int × List Nat × List Nat × List Nat) (a1 : List Nat) (a2 : Int) (s2 : Int × List Nat) : Option ((Int × List Nat) ⊕ (List Nat)) :=
 bif (decide (s2.1 < a0.1)) then
  (rounds (impl_Model_nextRow_B1 a0 a1 a2 s2) ((0 : Int), s2.2)).bind fun r11 =>
  some (.inl ((wadd .i64 s2.1 (1 : Int)), r11))
 else
  some (.inr s2.2)

noncomputable def impl_Model_nextRow (a0 : Int × Int × List Nat × List Nat × List Nat) (a1 : List Nat) (a2 : Int) : Option (List Nat) :=
 guardP ((0 : Int) ≤ a0.1 ∧ a0.1 ≤ 4294967296) (
  (rounds (impl_Model_nextRow_B2 a0 a1 a2) ((0 : Int), (List.replicate (Int.toNat a0.1) (0 : Nat)))).bind fun r4 =>
  some r4)

theorem f59_ok {a0 : Int × Int × List Nat × List Nat × List Nat} {a1 : List Nat} {a2 : Int} {r : List Nat} (hr : impl_Model_nextRow a0 a1 a2 = some r) : CallOK Try.prog 59 [.imm (.st (.pair tI (.pair tI (.pair tLF (.pair tLF tLF))))) a0, .imm tLF a1, .imm tI a2] [⟨true, tLF, r⟩] [] := by
 unfold impl_Model_nextRow at hr
 refine CallOK.of_body (ts := [(true, tLF)]) Try.func59 rfl (by kernel_rfl) (Nat.le_of_ble_eq_true (by kernel_rfl)) fun cx hP hN hO hF => ?_
 have hO : cx.own.map Prod.fst = [] := hO
 have hX := CxIs.mk hP hN hO
 have hF := hF rfl
 show HT cx ⟨[(0, .agg [iC a0.1, iC a0.2.1, lC a0.2.2.1, lC a0.2.2.2.1, lC a0.2.2.2.2]), (1, lV a1), (2, iV a2)], [], 0⟩ _ _
 refine HT.rg2 (oHs 2) ⟨[(1, lV a1), (2, iV a2), (3, pV 0 0)], [(0, .box [iC a0.1, iC a0.2.1, lC a0.2.2.1, lC a0.2.2.2.1, lC a0.2.2.2.2])], 1⟩ hX (by kernel_rfl) aN ?_
 obtain ⟨hg1, hr⟩ := of_guard hr
 refine HT.rg2 [oH, oH, ⟨none, .ty tF⟩, oH] ⟨[(1, lV a1), (2, iV a2), (3, pV 0 0), (7, aV 1)], [(1, .seq tF (List.replicate (Int.toNat a0.1) (0 : Nat))), (0, .box [iC a0.1, iC a0.2.1, lC a0.2.2.1, lC a0.2.2.2.1, lC a0.2.2.2.2])], 2⟩ hX (by kernel_rfl) (aC (show (0 : Int) ≤ a0.1 ∧ a0.1 ≤ a0.1 ∧ a0.1 ≤ 4294967296 from ⟨hg1.1, Int.le_refl _, hg1.2⟩) aN) ?_
 refine HT.seq ?_
 refine HT.rg2 (oHs 3) ⟨[(1, lV a1), (2, iV a2), (3, pV 0 0), (7, aV 1), (14, iV a0.1), (15, iV (0 : Int))], [(1, .seq tF (List.replicate (Int.toNat a0.1) (0 : Nat))), (0, .box [iC a0.1, iC a0.2.1, lC a0.2.2.1, lC a0.2.2.2.1, lC a0.2.2.2.2])], 2⟩ hX (by kernel_rfl) aN ?_
 refine HT.block ?_
 obtain ⟨r3, hL23, hr⟩ := of_bind hr
 refine HT.loopL (fun (s2 : Int × List Nat) => ⟨[(1, lV a1), (2, iV a2), (3, pV 0 0), (7, aV 1), (14, iV a0.1), (15, iV s2.1)], [(0, .box [iC a0.1, iC a0.2.1, lC a0.2.2.1, lC a0.2.2.2.1, lC a0.2.2.2.2]), (1, .seq tF s2.2)], 2⟩) (fun (r4 : List Nat) => (.exit 0, ⟨[(7, aV 0)], [(0, .seq tF r4)], 1⟩)) (Le.re [(0, 0), (1, 1)] [] hX (by kernel_rfl)) hL23 ?_ (fun s2 x5 hx6 hk7 => ?_)
 ·refine (qBlockX (qThen ?_))
  refine HT.rg2 (oHs 2) ⟨[(6, aV 0)], [(0, .seq tF r3)], 1⟩ hX (by kernel_rfl) aN ?_
  have hr := of_some hr
  subst hr
  exact HT.ret ⟨[aV 0], [0], [], by kernel_rfl, by kernel_rfl, rfl, by kernel_rfl, by kernel_rfl, trivial⟩
 ·refine HT.rg2 [oH] ⟨[(1, lV a1), (2, iV a2), (3, pV 0 0), (7, aV 1), (14, iV a0.1), (15, iV s2.1), (16, bV (decide (s2.1 < a0.1)))], [(0, .box [iC a0.1, iC a0.2.1, lC a0.2.2.1, lC a0.2.2.2.1, lC a0.2.2.2.2]), (1, .seq tF s2.2)], 2⟩ hX (by kernel_rfl) aN ?_
  refine HT.seq ?_
  rcases of_bif hx6 with ⟨hb8, hx6⟩ | ⟨hb8, hx6⟩
  ·refine HT.cond1 rfl hb8 ?_
   refine HT.skip (qThen ?_)
   refine HT.seq ?_
   refine HT.block ?_
   refine HT.rg2 (oHs 2) ⟨[(1, lV a1), (2, iV a2), (3, pV 0 0), (7, aV 1), (8, iV s2.1), (14, iV a0.1), (15, iV s2.1)], [(0, .box [iC a0.1, iC a0.2.1, lC a0.2.2.1, lC a0.2.2.2.1, lC a0.2.2.2.2]), (1, .seq tF s2.2)], 2⟩ hX (by kernel_rfl) aN ?_
   refine HT.rg2 (oHs 3) ⟨[(1, lV a1), (2, iV a2), (3, pV 0 0), (7, aV 1), (8, iV s2.1), (14, iV a0.1), (15, iV s2.1), (19, iV a0.1), (20, iV (0 : Int))], [(0, .box [iC a0.1, iC a0.2.1, lC a0.2.2.1, lC a0.2.2.2.1, lC a0.2.2.2.2]), (1, .seq tF s2.2)], 2⟩ hX (by kernel_rfl) aN ?_
   refine HT.block ?_
   obtain ⟨r10, hL22, hx6⟩ := of_bind hx6
   refine HT.loopL (fun (s9 : Int × List Nat) => ⟨[(1, lV a1), (2, iV a2), (3, pV 0 0), (7, aV 1), (8, iV s2.1), (14, iV a0.1), (15, iV s2.1), (19, iV a0.1), (20, iV s9.1)], [(0, .box [iC a0.1, iC a0.2.1, lC a0.2.2.1, lC a0.2.2.2.1, lC a0.2.2.2.2]), (1, .seq tF s9.2)], 2⟩) (fun (r11 : List Nat) => (.exit 2, ⟨[(1, lV a1), (2, iV a2), (3, pV 0 0), (7, aV 1), (14, iV a0.1), (15, iV s2.1)], [(0, .box [iC a0.1, iC a0.2.1, lC a0.2.2.1, lC a0.2.2.2.1, lC a0.2.2.2.2]), (1, .seq tF r11)], 2⟩)) (Le.re [(0, 0), (1, 1)] [] hX (by kernel_rfl)) hL22 ?_ (fun s9 x12 hx13 hk14 => ?_)
   ·refine (qBlockX (qBlock (qThen ?_)))
    have hx6 := of_some hx6
    subst hx6
    exact HT.rgK (oHs 2) [(0, 0), (1, 1)] [] hX (by kernel_rfl) aN (fun _ h => (qLoopN ⟨((wadd .i64 s2.1 (1 : Int)), r10), rfl, h⟩))
   ·refine HT.rg2 [oH] ⟨[(1, lV a1), (2, iV a2), (3, pV 0 0), (7, aV 1), (8, iV s2.1), (14, iV a0.1), (15, iV s2.1), (19, iV a0.1), (20, iV s9.1), (21, bV (decide (s9.1 < a0.1)))], [(0, .box [iC a0.1, iC a0.2.1, lC a0.2.2.1, lC a0.2.2.2.1, lC a0.2.2.2.2]), (1, .seq tF s9.2)], 2⟩ hX (by kernel_rfl) aN ?_
    refine HT.seq ?_
    rcases of_bif hx13 with ⟨hb15, hx13⟩ | ⟨hb15, hx13⟩
    ·refine HT.cond1 rfl hb15 ?_
     refine HT.skip (qThen ?_)
     refine HT.seq ?_
     refine HT.block ?_
     refine HT.rg2 (oHs 2) ⟨[(1, lV a1), (2, iV a2), (3, pV 0 0), (7, aV 1), (8, iV s2.1), (9, iV s9.1), (14, iV a0.1), (15, iV s2.1), (19, iV a0.1), (20, iV s9.1)], [(0, .box [iC a0.1, iC a0.2.1, lC a0.2.2.1, lC a0.2.2.2.1, lC a0.2.2.2.2]), (1, .seq tF s9.2)], 2⟩ hX (by kernel_rfl) aN ?_
     obtain ⟨hg16, hx13⟩ := of_guard hx13
     obtain ⟨hg17, hx13⟩ := of_guard hx13
     obtain ⟨y18, hc19, hx13⟩ := of_bind hx13
     obtain ⟨y20, hc21, hx13⟩ := of_bind hx13
     refine HT.drL 21 [⟨oH, []⟩, ⟨oH, []⟩, ⟨oH, []⟩, ⟨oH, []⟩, ⟨oH, [2, 3]⟩, ⟨oH, [2, 3, 4]⟩, ⟨oH, []⟩, ⟨oH, []⟩, ⟨oH, [6, 7]⟩, ⟨oH, [6, 7, 8]⟩, ⟨oH, []⟩, ⟨oH, []⟩, ⟨oH, []⟩, ⟨⟨none, .call [.imm (.st (.pair tI (.pair tI (.pair tLF (.pair tLF tLF))))), .imm tI, .imm tI] [⟨false, tF, y18⟩] []⟩, [10, 11, 12]⟩, ⟨oH, [6, 7, 8, 9, 10, 11, 12, 13]⟩, ⟨oH, []⟩, ⟨oH, []⟩, ⟨oH, []⟩, ⟨⟨none, .call [.imm (.st (.pair tI (.pair tI (.pair tLF (.pair tLF tLF))))), .imm tI, .imm tI] [⟨false, tF, y20⟩] []⟩, [10, 11, 12, 13, 15, 16, 17]⟩, ⟨oH, [6, 7, 8, 9, 10, 11, 12, 13, 14, 15, 16, 17, 18]⟩, ⟨oH, [2, 3, 4, 5, 6, 7, 8, 9, 10, 11, 12, 13, 14, 15, 16, 17, 18, 19]⟩] [[0, 1, 2, 3, 4, 5, 6, 7, 8, 9, 10, 11, 12, 13, 14, 15, 16, 17, 18, 19, 20], [0, 1, 2, 3, 4, 5, 6, 7, 8, 9, 10, 11, 12, 13, 14, 15, 16, 17, 18, 19, 20, 21]] (oHs 2) ⟨[(1, lV a1), (2, iV a2), (3, pV 0 0), (7, aV 1), (8, iV s2.1), (14, iV a0.1), (15, iV s2.1), (19, iV a0.1), (20, iV s9.1)], [(1, .seq tF (List.set s9.2 (Int.toNat s2.1) (fop .add .f32 (List.getD s9.2 (Int.toNat s2.1) (0 : Nat)) (fop .mul .f32 (fop .mul .f32 (List.getD a1 (Int.toNat s9.1) (0 : Nat)) y18) y20)))), (0, .box [iC a0.1, iC a0.2.1, lC a0.2.2.1, lC a0.2.2.2.1, lC a0.2.2.2.2])], 2⟩ hX (by kernel_rfl) (by kernel_rfl) (aC hg16 (aC (natLt hg16) (aC hg17 (aC (f58_ok hc19) (aC (f86_ok hc21) (aC hg16 (aC (natLt hg16) aN))))))) (qBlock (qThen ?_))
     have hx13 := of_some hx13
     subst hx13
     exact HT.rgK (oHs 2) [(0, 0), (1, 1)] [] hX (by kernel_rfl) aN (fun _ h => (qLoopN ⟨((wadd .i64 s9.1 (1 : Int)), (List.set s9.2 (Int.toNat s2.1) (fop .add .f32 (List.getD s9.2 (Int.toNat s2.1) (0 : Nat)) (fop .mul .f32 (fop .mul .f32 (List.getD a1 (Int.toNat s9.1) (0 : Nat)) y18) y20)))), rfl, h⟩))
    ·refine HT.cond0 rfl hb15 ?_
     have hx13 := of_some hx13
     subst hx13
     exact HT.exitL (Le.re [(0, 0), (1, 1)] [] hX (by kernel_rfl)) (qThenE (qLoopE (hk14 s9.2 rfl)))
  ·refine HT.cond0 rfl hb8 ?_
   have hx6 := of_some hx6
   subst hx6
   exact HT.exitL (Le.re [(1, 0)] [] hX (by kernel_rfl)) (qThenE (qLoopE (hk7 s2.2 rfl)))

noncomputable def impl_Model_forward_B1 (a0 : Int × Int × List Nat × List Nat × List Nat) (a1 : List Int) (s3 : Int × List (List Nat)) : Option ((Int × List (List Nat)) ⊕ (List (List Nat))) :=
 bif (decide (s3.1 < (lenI a1))) then
  guardP ((0 : Int) ≤ s3.1 ∧ s3.1 < lenI a1) (
   guardP ((0 : Int) ≤ s3.1 ∧ s3.1 < lenI s3.2) (
    (impl_Model_nextRow (a0.1, a0.2.1, a0.2.2.1, a0.2.2.2.1, a0.2.2.2.2) (List.getD s3.2 (Int.toNat s3.1) ([] : List Nat)) (List.getD a1 (Int.toNat s3.1) (0 : Int))).bind fun y12 =>
    guardP (List.length s3.2 + List.length ([y12] : List (List Nat)) ≤ appMax) (
     some (.inl ((wadd .i64 s3.1 (1 : Int)), (s3.2 ++ ([y12] : List (List Nat))))))))
 else
  some (.inr s3.2)

noncomputable def impl_Model_forward (a0 : Int × Int × List Nat × List Nat × List Nat) (a1 : List Int) : Option (List (List Nat)) :=
 (slices_Clone a0.2.2.1).bind fun y1 =>
 (rounds (impl_Model_forward_B1 a0 a1) ((0 : Int), ([y1] : List (List Nat)))).bind fun r5 =>
 some r5

theorem f62_ok {a0 : Int × Int × List Nat × List Nat × List Nat} {a1 : List Int} {r : List (List Nat)} (hr : impl_Model_forward a0 a1 = some r) : CallOK Try.prog 62 [.imm (.st (.pair tI (.pair tI (.pair tLF (.pair tLF tLF))))) a0, .imm tLI a1] [⟨false, (.sl tLF), r⟩] [] := by
 unfold impl_Model_forward at hr
 refine CallOK.of_body (ts := [(false, (.sl tLF))]) Try.func62 rfl (by kernel_rfl) (Nat.le_of_ble_eq_true (by kernel_rfl)) fun cx hP hN hO hF => ?_
 have hO : cx.own.map Prod.fst = [] := hO
 have hX := CxIs.mk hP hN hO
 have hF := hF rfl
 show HT cx ⟨[(0, .agg [iC a0.1, iC a0.2.1, lC a0.2.2.1, lC a0.2.2.2.1, lC a0.2.2.2.2]), (1, nV a1)], [], 0⟩ _ _
 refine HT.rg2 (oHs 2) ⟨[(1, nV a1), (2, pV 0 0)], [(0, .box [iC a0.1, iC a0.2.1, lC a0.2.2.1, lC a0.2.2.2.1, lC a0.2.2.2.2])], 1⟩ hX (by kernel_rfl) aN ?_
 obtain ⟨y1, hc2, hr⟩ := of_bind hr
 refine HT.rg2 [oH, oH, ⟨none, .call [.imm tLF] [⟨false, tLF, y1⟩] []⟩, ⟨none, .ty tLF⟩, oH] ⟨[(1, nV a1), (2, pV 0 0), (5, aV 1)], [(1, .seq tLF ([y1] : List (List Nat))), (0, .box [iC a0.1, iC a0.2.1, lC a0.2.2.1, lC a0.2.2.2.1, lC a0.2.2.2.2])], 2⟩ hX (by kernel_rfl) (aC (CallOK.frz [true] rfl (f57_ok hc2)) aN) ?_
 refine HT.seq ?_
 refine HT.rg2 (oHs 3) ⟨[(2, pV 0 0), (5, aV 1), (12, nV a1), (13, iV (lenI a1)), (14, iV (0 : Int))], [(1, .seq tLF ([y1] : List (List Nat))), (0, .box [iC a0.1, iC a0.2.1, lC a0.2.2.1, lC a0.2.2.2.1, lC a0.2.2.2.2])], 2⟩ hX (by kernel_rfl) aN ?_
 refine HT.block ?_
 obtain ⟨r4, hL15, hr⟩ := of_bind hr
 refine HT.loopL (fun (s3 : Int × List (List Nat)) => ⟨[(2, pV 0 0), (5, aV 1), (12, nV a1), (13, iV (lenI a1)), (14, iV s3.1)], [(0, .box [iC a0.1, iC a0.2.1, lC a0.2.2.1, lC a0.2.2.2.1, lC a0.2.2.2.2]), (1, .seq tLF s3.2)], 2⟩) (fun (r5 : List (List Nat)) => (.exit 0, ⟨[(5, aV 0)], [(0, .seq tLF r5)], 1⟩)) (Le.re [(0, 0), (1, 1)] [] hX (by kernel_rfl)) hL15 ?_ (fun s3 x6 hx7 hk8 => ?_)
 ·refine (qBlockX (qThen ?_))
  refine HT.rg2 (oHs 2) ⟨[(4, aV 0)], [(0, .seq tLF r4)], 1⟩ hX (by kernel_rfl) aN ?_
  have hr := of_some hr
  subst hr
  refine (Le.rz [] [] (st' := ⟨[(4, .one (.dat (.sl tLF) r4))], [], 1⟩) hX hF (by kernel_rfl)).ht ?_
  exact HT.ret ⟨[.one (.dat (.sl tLF) r4)], [], [], by kernel_rfl, by kernel_rfl, rfl, by kernel_rfl, by kernel_rfl, trivial⟩
 ·refine HT.rg2 [oH] ⟨[(2, pV 0 0), (5, aV 1), (12, nV a1), (13, iV (lenI a1)), (14, iV s3.1), (15, bV (decide (s3.1 < (lenI a1))))], [(0, .box [iC a0.1, iC a0.2.1, lC a0.2.2.1, lC a0.2.2.2.1, lC a0.2.2.2.2]), (1, .seq tLF s3.2)], 2⟩ hX (by kernel_rfl) aN ?_
  refine HT.seq ?_
  rcases of_bif hx7 with ⟨hb9, hx7⟩ | ⟨hb9, hx7⟩
  ·refine HT.cond1 rfl hb9 ?_
   refine HT.skip (qThen ?_)
   refine HT.seq ?_
   refine HT.block ?_
   obtain ⟨hg10, hx7⟩ := of_guard hx7
   refine HT.rg2 (oHs 5) ⟨[(2, pV 0 0), (5, aV 1), (6, iV s3.1), (7, iV (List.getD a1 (Int.toNat s3.1) (0 : Int))), (12, nV a1), (13, iV (lenI a1)), (14, iV s3.1)], [(0, .box [iC a0.1, iC a0.2.1, lC a0.2.2.1, lC a0.2.2.2.1, lC a0.2.2.2.2]), (1, .seq tLF s3.2)], 2⟩ hX (by kernel_rfl) (aC hg10 aN) ?_
   obtain ⟨hg11, hx7⟩ := of_guard hx7
   obtain ⟨y12, hc13, hx7⟩ := of_bind hx7
   obtain ⟨hg14, hx7⟩ := of_guard hx7
   refine HT.drL 9 [⟨oH, []⟩, ⟨oH, []⟩, ⟨oH, []⟩, ⟨oH, []⟩, ⟨oH, [2, 3]⟩, ⟨oH, [2, 3, 4]⟩, ⟨oH, []⟩, ⟨⟨none, .call [.imm (.st (.pair tI (.pair tI (.pair tLF (.pair tLF tLF))))), .imm tLF, .imm tI] [⟨false, tLF, y12⟩] []⟩, [1, 2, 3, 4, 5, 6]⟩, ⟨⟨none, .ty tLF⟩, [1, 2, 3, 4, 5, 6, 7]⟩] [[0, 1, 2, 3, 4, 5, 6, 7, 8], [0, 1, 2, 3, 4, 5, 6, 7, 8, 9]] [⟨none, .ty tLF⟩, oH] ⟨[(2, pV 0 0), (5, aV 3), (12, nV a1), (13, iV (lenI a1)), (14, iV s3.1)], [(3, .seq tLF (s3.2 ++ ([y12] : List (List Nat)))), (0, .box [iC a0.1, iC a0.2.1, lC a0.2.2.1, lC a0.2.2.2.1, lC a0.2.2.2.2])], 4⟩ hX (by kernel_rfl) (by kernel_rfl) (aC hg11 (aC (natLt hg11) (aC (CallOK.frz [true] rfl (f59_ok hc13)) (aC hg14 aN)))) (qBlock (qThen ?_))
   have hx7 := of_some hx7
   subst hx7
   exact HT.rgK (oHs 2) [(0, 0), (3, 1)] [] hX (by kernel_rfl) aN (fun _ h => (qLoopN ⟨((wadd .i64 s3.1 (1 : Int)), (s3.2 ++ ([y12] : List (List Nat)))), rfl, h⟩))
  ·refine HT.cond0 rfl hb9 ?_
   have hx7 := of_some hx7
   subst hx7
   exact HT.exitL (Le.re [(1, 0)] [] hX (by kernel_rfl)) (qThenE (qLoopE (hk8 s3.2 rfl)))

noncomputable def impl_Model_chance (a0 : Int × Int × List Nat × List Nat × List Nat) (a1 : List Int) : Option (Nat) :=
 (impl_Model_forward (a0.1, a0.2.1, a0.2.2.1, a0.2.2.2.1, a0.2.2.2.2) a1).bind fun y1 =>
 guardP ((0 : Int) ≤ (lenI a1) ∧ (lenI a1) < lenI y1) (
  (impl_addUp (List.getD y1 (Int.toNat (lenI a1)) ([] : List Nat))).bind fun y4 =>
  some y4)

theorem f56_ok {a0 : Int × Int × List Nat × List Nat × List Nat} {a1 : List Int} {r : Nat} (hr : impl_Model_chance a0 a1 = some r) : CallOK Try.prog 56 [.imm (.st (.pair tI (.pair tI (.pair tLF (.pair tLF tLF))))) a0, .imm tLI a1] [⟨false, tF, r⟩] [] := by
 unfold impl_Model_chance at hr
 refine CallOK.of_body (ts := [(false, tF)]) Try.func56 rfl (by kernel_rfl) (Nat.le_of_ble_eq_true (by kernel_rfl)) fun cx hP hN hO hF => ?_
 have hO : cx.own.map Prod.fst = [] := hO
 have hX := CxIs.mk hP hN hO
 have hF := hF rfl
 show HT cx ⟨[(0, .agg [iC a0.1, iC a0.2.1, lC a0.2.2.1, lC a0.2.2.2.1, lC a0.2.2.2.2]), (1, nV a1)], [], 0⟩ _ _
 refine HT.rg2 (oHs 2) ⟨[(1, nV a1), (2, pV 0 0)], [(0, .box [iC a0.1, iC a0.2.1, lC a0.2.2.1, lC a0.2.2.2.1, lC a0.2.2.2.2])], 1⟩ hX (by kernel_rfl) aN ?_
 obtain ⟨y1, hc2, hr⟩ := of_bind hr
 obtain ⟨hg3, hr⟩ := of_guard hr
 obtain ⟨y4, hc5, hr⟩ := of_bind hr
 refine HT.rg2 [oH, oH, ⟨none, .call [.imm (.st (.pair tI (.pair tI (.pair tLF (.pair tLF tLF))))), .imm tLI] [⟨false, (.sl tLF), y1⟩] []⟩, oH, oH, oH, oH, ⟨none, .call [.imm tLF] [⟨false, tF, y4⟩] []⟩, oH] ⟨[(4, fV y4)], [], 1⟩ hX (by kernel_rfl) (aC (f62_ok hc2) (aC hg3 (aC (f68_ok hc5) aN))) ?_
 have hr := of_some hr
 subst hr
 exact HT.ret ⟨[fV y4], [], [], by kernel_rfl, by kernel_rfl, rfl, by kernel_rfl, by kernel_rfl, trivial⟩

noncomputable def impl_IsFinite (a0 : Nat) : Option (Bool) :=
 some (feq .f32 (fop .sub .f32 a0 a0) (0 : Nat))

theorem f84_ok {a0 : Nat} {r : Bool} (hr : impl_IsFinite a0 = some r) : CallOK Try.prog 84 [.imm tF a0] [⟨false, .bool, r⟩] [] := by
 unfold impl_IsFinite at hr
 refine CallOK.of_body (ts := [(false, .bool)]) Try.func84 rfl (by kernel_rfl) (Nat.le_of_ble_eq_true (by kernel_rfl)) fun cx hP hN hO hF => ?_
 have hO : cx.own.map Prod.fst = [] := hO
 have hX := CxIs.mk hP hN hO
 have hF := hF rfl
 show HT cx ⟨[(0, fV a0)], [], 0⟩ _ _
 refine HT.rg2 [oH] ⟨[(0, fV a0)], [], 0⟩ hX (by kernel_rfl) aN ?_
 refine HT.rg2 (oHs 5) ⟨[(2, bV (feq .f32 (fop .sub .f32 a0 a0) (0 : Nat)))], [], 0⟩ hX (by kernel_rfl) aN ?_
 have hr := of_some hr
 subst hr
 exact HT.ret ⟨[bV (feq .f32 (fop .sub .f32 a0 a0) (0 : Nat))], [], [], by kernel_rfl, by kernel_rfl, rfl, by kernel_rfl, by kernel_rfl, trivial⟩

noncomputable def impl_finite (a0 : Nat) : Option (Nat × Bool) :=
 (impl_IsFinite a0).bind fun y1 =>
 bif (!y1) then
  some ((0 : Nat), false)
 else
  some (a0, true)

theorem f50_ok {a0 : Nat} {r : Nat × Bool} (hr : impl_finite a0 = some r) : CallOK Try.prog 50 [.imm tF a0] [⟨false, tF, r.1⟩, ⟨false, .bool, r.2⟩] [] := by
 unfold impl_finite at hr
 refine CallOK.of_body (ts := [(false, tF), (false, .bool)]) Try.func50 rfl (by kernel_rfl) (Nat.le_of_ble_eq_true (by kernel_rfl)) fun cx hP hN hO hF => ?_
 have hO : cx.own.map Prod.fst = [] := hO
 have hX := CxIs.mk hP hN hO
 have hF := hF rfl
 show HT cx ⟨[(0, fV a0)], [], 0⟩ _ _
 refine HT.rg2 (oHs 2) ⟨[(0, fV a0)], [], 0⟩ hX (by kernel_rfl) aN ?_
 refine HT.seq ?_
 obtain ⟨y1, hc2, hr⟩ := of_bind hr
 refine HT.rg2 [oH, ⟨none, .call [.imm tF] [⟨false, .bool, y1⟩] []⟩, oH] ⟨[(0, fV a0), (6, bV (!y1))], [], 0⟩ hX (by kernel_rfl) (aC (f84_ok hc2) aN) ?_
 rcases of_bif hr with ⟨hb3, hr⟩ | ⟨hb3, hr⟩
 ·refine HT.cond1 rfl hb3 ?_
  refine HT.rg2 (oHs 2) ⟨[(2, fV (0 : Nat)), (3, bV false)], [], 0⟩ hX (by kernel_rfl) aN ?_
  have hr := of_some hr
  subst hr
  exact HT.ret (qThenR ⟨[fV (0 : Nat), bV false], [], [], by kernel_rfl, by kernel_rfl, rfl, by kernel_rfl, by kernel_rfl, trivial⟩)
 ·refine HT.cond0 rfl hb3 ?_
  refine HT.skip (qThen ?_)
  refine HT.rg2 (oHs 3) ⟨[(2, fV a0), (3, bV true)], [], 0⟩ hX (by kernel_rfl) aN ?_
  have hr := of_some hr
  subst hr
  exact HT.ret ⟨[fV a0, bV true], [], [], by kernel_rfl, by kernel_rfl, rfl, by kernel_rfl, by kernel_rfl, trivial⟩

noncomputable def impl_ChanceOf (a0 : Int × Int × List Nat × List Nat × List Nat) (a1 : List Int) : Option (Nat × Bool) :=
 (impl_Model_has (a0.1, a0.2.1, a0.2.2.1, a0.2.2.2.1, a0.2.2.2.2) a1).bind fun y1 =>
 bif (!y1) then
  some ((0 : Nat), false)
 else
  (impl_Model_chance (a0.1, a0.2.1, a0.2.2.1, a0.2.2.2.1, a0.2.2.2.2) a1).bind fun y4 =>
  (impl_finite y4).bind fun y6 =>
  some (y6.1, y6.2)

theorem f16_ok {a0 : Int × Int × List Nat × List Nat × List Nat} {a1 : List Int} {r : Nat × Bool} (hr : impl_ChanceOf a0 a1 = some r) : CallOK Try.prog 16 [.imm (.st (.pair tI (.pair tI (.pair tLF (.pair tLF tLF))))) a0, .imm tLI a1] [⟨false, tF, r.1⟩, ⟨false, .bool, r.2⟩] [] := by
 unfold impl_ChanceOf at hr
 refine CallOK.of_body (ts := [(false, tF), (false, .bool)]) Try.func16 rfl (by kernel_rfl) (Nat.le_of_ble_eq_true (by kernel_rfl)) fun cx hP hN hO hF => ?_
 have hO : cx.own.map Prod.fst = [] := hO
 have hX := CxIs.mk hP hN hO
 have hF := hF rfl
 show HT cx ⟨[(0, .agg [iC a0.1, iC a0.2.1, lC a0.2.2.1, lC a0.2.2.2.1, lC a0.2.2.2.2]), (1, nV a1)], [], 0⟩ _ _
 refine HT.rg2 (oHs 3) ⟨[(1, nV a1), (2, pV 0 0)], [(0, .box [iC a0.1, iC a0.2.1, lC a0.2.2.1, lC a0.2.2.2.1, lC a0.2.2.2.2])], 1⟩ hX (by kernel_rfl) aN ?_
 refine HT.seq ?_
 obtain ⟨y1, hc2, hr⟩ := of_bind hr
 refine HT.rg2 [oH, oH, ⟨none, .call [.imm (.st (.pair tI (.pair tI (.pair tLF (.pair tLF tLF))))), .imm tLI] [⟨false, .bool, y1⟩] []⟩, oH] ⟨[(1, nV a1), (2, pV 0 0), (9, bV (!y1))], [(0, .box [iC a0.1, iC a0.2.1, lC a0.2.2.1, lC a0.2.2.2.1, lC a0.2.2.2.2])], 1⟩ hX (by kernel_rfl) (aC (f55_ok hc2) aN) ?_
 rcases of_bif hr with ⟨hb3, hr⟩ | ⟨hb3, hr⟩
 ·refine HT.cond1 rfl hb3 ?_
  refine HT.rg2 (oHs 2) ⟨[(4, fV (0 : Nat)), (5, bV false)], [], 1⟩ hX (by kernel_rfl) aN ?_
  have hr := of_some hr
  subst hr
  exact HT.ret (qThenR ⟨[fV (0 : Nat), bV false], [], [], by kernel_rfl, by kernel_rfl, rfl, by kernel_rfl, by kernel_rfl, trivial⟩)
 ·refine HT.cond0 rfl hb3 ?_
  refine HT.skip (qThen ?_)
  obtain ⟨y4, hc5, hr⟩ := of_bind hr
  obtain ⟨y6, hc7, hr⟩ := of_bind hr
  refine HT.rg2 [oH, oH, ⟨none, .call [.imm (.st (.pair tI (.pair tI (.pair tLF (.pair tLF tLF))))), .imm tLI] [⟨false, tF, y4⟩] []⟩, ⟨none, .call [.imm tF] [⟨false, tF, y6.1⟩, ⟨false, .bool, y6.2⟩] []⟩, oH, oH, oH, oH] ⟨[(4, fV y6.1), (5, bV y6.2)], [], 1⟩ hX (by kernel_rfl) (aC (f56_ok hc5) (aC (f50_ok hc7) aN)) ?_
  have hr := of_some hr
  subst hr
  exact HT.ret ⟨[fV y6.1, bV y6.2], [], [], by kernel_rfl, by kernel_rfl, rfl, by kernel_rfl, by kernel_rfl, trivial⟩

noncomputable def math_Inf (a0 : Int) : Option (Nat) :=
 (show Option (Int) from
  bif (decide (a0 ≥ (0 : Int))) then
   some (9218868437227405312 : Int)
  else
   some (18442240474082181120 : Int)).bind fun v1 =>
 none

theorem f104_ok {a0 : Int} {r : Nat} (hr : math_Inf a0 = some r) : CallOK Try.prog 104 [.imm tI a0] [⟨false, (.flt .f64), r⟩] [] := by
 unfold math_Inf at hr
 refine CallOK.of_body (ts := [(false, (.flt .f64))]) Try.func104 rfl (by kernel_rfl) (Nat.le_of_ble_eq_true (by kernel_rfl)) fun cx hP hN hO hF => ?_
 have hO : cx.own.map Prod.fst = [] := hO
 have hX := CxIs.mk hP hN hO
 have hF := hF rfl
 show HT cx ⟨[(0, iV a0)], [], 0⟩ _ _
 refine HT.rg2 [oH] ⟨[(0, iV a0)], [], 0⟩ hX (by kernel_rfl) aN ?_
 refine HT.rg2 [oH] ⟨[(0, iV a0)], [], 0⟩ hX (by kernel_rfl) aN ?_
 obtain ⟨v1', hT3, hr⟩ := of_bind hr
 refine HT.join (fun (v1 : Int) => ⟨[(3, .one (.dat (.int .u64) v1))], [], 0⟩) (fun v => v = v1') (fun v1 hv2 => ?_) (fun cont => ?_)
 ·subst hv2
  cases hr
 ·refine HT.rg2 (oHs 2) ⟨[(5, bV (decide (a0 ≥ (0 : Int))))], [], 0⟩ hX (by kernel_rfl) aN ?_
  rcases of_bif hT3 with ⟨hb4, hT3⟩ | ⟨hb4, hT3⟩
  ·refine HT.cond1 rfl hb4 ?_
   exact HT.rgK [oH] [] [] hX (by kernel_rfl) aN (fun _ h => (qThen (h.ht (cont (9218868437227405312 : Int) (of_some hT3)))))
  ·refine HT.cond0 rfl hb4 ?_
   exact HT.rgK [oH] [] [] hX (by kernel_rfl) aN (fun _ h => (qThen (h.ht (cont (18442240474082181120 : Int) (of_some hT3)))))

noncomputable def math_NaN  : Option (Nat) :=
 none

theorem f105_ok  {r : Nat} (hr : math_NaN = some r) : CallOK Try.prog 105 [] [⟨false, (.flt .f64), r⟩] [] := by
 unfold math_NaN at hr
 refine CallOK.of_body (ts := [(false, (.flt .f64))]) Try.func105 rfl (by kernel_rfl) (Nat.le_of_ble_eq_true (by kernel_rfl)) fun cx hP hN hO hF => ?_
 have hO : cx.own.map Prod.fst = [] := hO
 have hX := CxIs.mk hP hN hO
 have hF := hF rfl
 show HT cx ⟨[], [], 0⟩ _ _
 refine HT.rg2 [oH] ⟨[], [], 0⟩ hX (by kernel_rfl) aN ?_
 cases hr

noncomputable def impl_naturalLog_B1 (q7 : Nat) (s9 : Nat × Nat) : Option ((Nat × Nat) ⊕ (Nat)) :=
 bif (fge .f64 s9.2 (4607182418800017408 : Nat)) then
  some (.inl ((fop .add .f64 (fop .quo .f64 (4607182418800017408 : Nat) s9.2) (fop .mul .f64 (fop .mul .f64 q7 q7) s9.1)), (fop .sub .f64 s9.2 (4611686018427387904 : Nat))))
 else
  some (.inr s9.1)

noncomputable def impl_naturalLog_B2  (s4 : Nat × Nat) : Option ((Nat × Nat) ⊕ ((Nat × Nat))) :=
 bif (flt .f64 s4.1 (4604930618986332160 : Nat)) then
  some (.inl ((fop .mul .f64 s4.1 (4611686018427387904 : Nat)), (fop .sub .f64 s4.2 (4607182418800017408 : Nat))))
 else
  some (.inr (s4.1, s4.2))

noncomputable def impl_naturalLog_B3  (s1 : Nat × Nat) : Option ((Nat × Nat) ⊕ ((Nat × Nat))) :=
 bif (fge .f64 s1.1 (4609434218613702656 : Nat)) then
  some (.inl ((fop .quo .f64 s1.1 (4611686018427387904 : Nat)), (fop .add .f64 s1.2 (4607182418800017408 : Nat))))
 else
  some (.inr (s1.1, s1.2))

noncomputable def impl_naturalLog (a0 : Nat) : Option (Nat) :=
 (rounds (impl_naturalLog_B3) (a0, (0 : Nat))).bind fun r3 =>
 (rounds (impl_naturalLog_B2) (r3.1, r3.2)).bind fun r6 =>
 (some (fop .quo .f64 (fop .sub .f64 r6.1 (4607182418800017408 : Nat)) (fop .add .f64 r6.1 (4607182418800017408 : Nat)))).bind fun q7 =>
 (rounds (impl_naturalLog_B1 q7) ((0 : Nat), (4627730092099895296 : Nat))).bind fun r11 =>
 (some (fop .add .f64 (fop .mul .f64 (4611686018427387904 : Nat) (fop .mul .f64 q7 r11)) (fop .mul .f64 r6.2 (4604418534313441775 : Nat)))).bind fun q12 =>
 some q12

theorem f106_ok {a0 : Nat} {r : Nat} (hr : impl_naturalLog a0 = some r) : CallOK Try.prog 106 [.imm (.flt .f64) a0] [⟨false, (.flt .f64), r⟩] [] := by
 unfold impl_naturalLog at hr
 refine CallOK.of_body (ts := [(false, (.flt .f64))]) Try.func106 rfl (by kernel_rfl) (Nat.le_of_ble_eq_true (by kernel_rfl)) fun cx hP hN hO hF => ?_
 have hO : cx.own.map Prod.fst = [] := hO
 have hX := CxIs.mk hP hN hO
 have hF := hF rfl
 show HT cx ⟨[(0, .one (.dat (.flt .f64) a0))], [], 0⟩ _ _
 refine HT.rg2 [oH] ⟨[(0, .one (.dat (.flt .f64) a0))], [], 0⟩ hX (by kernel_rfl) aN ?_
 refine HT.rg2 [oH] ⟨[(0, .one (.dat (.flt .f64) a0)), (3, .one (.dat (.flt .f64) (0 : Nat)))], [], 0⟩ hX (by kernel_rfl) aN ?_
 refine HT.seq ?_
 refine HT.block ?_
 obtain ⟨r2, hL28, hr⟩ := of_bind hr
 refine HT.loopL (fun (s1 : Nat × Nat) => ⟨[(0, .one (.dat (.flt .f64) s1.1)), (3, .one (.dat (.flt .f64) s1.2))], [], 0⟩) (fun (r3 : (Nat × Nat)) => (.exit 0, ⟨[(0, .one (.dat (.flt .f64) r3.1)), (3, .one (.dat (.flt .f64) r3.2))], [], 0⟩)) (Le.re [] [] hX (by kernel_rfl)) hL28 ?_ (fun s1 x24 hx25 hk26 => ?_)
 ·refine (qBlockX (qThen ?_))
  refine HT.seq ?_
  refine HT.block ?_
  obtain ⟨r5, hL23, hr⟩ := of_bind hr
  refine HT.loopL (fun (s4 : Nat × Nat) => ⟨[(0, .one (.dat (.flt .f64) s4.1)), (3, .one (.dat (.flt .f64) s4.2))], [], 0⟩) (fun (r6 : (Nat × Nat)) => (.exit 2, ⟨[(0, .one (.dat (.flt .f64) r6.1)), (3, .one (.dat (.flt .f64) r6.2))], [], 0⟩)) (Le.re [] [] hX (by kernel_rfl)) hL23 ?_ (fun s4 x19 hx20 hk21 => ?_)
  ·refine (qBlockX (qThen ?_))
   refine HT.rg2 (oHs 6) ⟨[(3, .one (.dat (.flt .f64) r5.2)), (4, .one (.dat (.flt .f64) (fop .quo .f64 (fop .sub .f64 r5.1 (4607182418800017408 : Nat)) (fop .add .f64 r5.1 (4607182418800017408 : Nat)))))], [], 0⟩ hX (by kernel_rfl) aN ?_
   obtain ⟨q7, hq8, hr⟩ := of_bind hr
   have hq8 := of_some2 hq8
   refine (Le.cv (s := ⟨[], [], [], false⟩) (own := []) (ps := [r5.2 = r5.2, q7 = (fop .quo .f64 (fop .sub .f64 r5.1 (4607182418800017408 : Nat)) (fop .add .f64 r5.1 (4607182418800017408 : Nat)))]) (st' := ⟨[(3, .one (.dat (.flt .f64) r5.2)), (4, .one (.dat (.flt .f64) q7))], [], 0⟩) hO (fun h => by cases h) (by kernel_rfl) ⟨rfl, hq8, trivial⟩).ht ?_
   refine HT.rg2 (oHs 4) ⟨[(3, .one (.dat (.flt .f64) r5.2)), (4, .one (.dat (.flt .f64) q7)), (5, .one (.dat (.flt .f64) (fop .mul .f64 q7 q7)))], [], 0⟩ hX (by kernel_rfl) aN ?_
   refine HT.rg2 [oH] ⟨[(3, .one (.dat (.flt .f64) r5.2)), (4, .one (.dat (.flt .f64) q7)), (5, .one (.dat (.flt .f64) (fop .mul .f64 q7 q7))), (6, .one (.dat (.flt .f64) (0 : Nat)))], [], 0⟩ hX (by kernel_rfl) aN ?_
   refine HT.seq ?_
   refine HT.rg2 [oH] ⟨[(3, .one (.dat (.flt .f64) r5.2)), (4, .one (.dat (.flt .f64) q7)), (5, .one (.dat (.flt .f64) (fop .mul .f64 q7 q7))), (6, .one (.dat (.flt .f64) (0 : Nat))), (7, .one (.dat (.flt .f64) (4627730092099895296 : Nat)))], [], 0⟩ hX (by kernel_rfl) aN ?_
   refine HT.block ?_
   obtain ⟨r10, hL18, hr⟩ := of_bind hr
   refine HT.loopL (fun (s9 : Nat × Nat) => ⟨[(3, .one (.dat (.flt .f64) r5.2)), (4, .one (.dat (.flt .f64) q7)), (5, .one (.dat (.flt .f64) (fop .mul .f64 q7 q7))), (6, .one (.dat (.flt .f64) s9.1)), (7, .one (.dat (.flt .f64) s9.2))], [], 0⟩) (fun (r11 : Nat) => (.exit 4, ⟨[(3, .one (.dat (.flt .f64) r5.2)), (4, .one (.dat (.flt .f64) q7)), (6, .one (.dat (.flt .f64) r11))], [], 0⟩)) (Le.re [] [] hX (by kernel_rfl)) hL18 ?_ (fun s9 x14 hx15 hk16 => ?_)
   ·refine (qBlockX (qThen ?_))
    refine HT.rg2 (oHs 8) ⟨[(2, .one (.dat (.flt .f64) (fop .add .f64 (fop .mul .f64 (4611686018427387904 : Nat) (fop .mul .f64 q7 r10)) (fop .mul .f64 r5.2 (4604418534313441775 : Nat)))))], [], 0⟩ hX (by kernel_rfl) aN ?_
    obtain ⟨q12, hq13, hr⟩ := of_bind hr
    have hq13 := of_some2 hq13
    refine (Le.cv (s := ⟨[], [], [], false⟩) (own := []) (ps := [q12 = (fop .add .f64 (fop .mul .f64 (4611686018427387904 : Nat) (fop .mul .f64 q7 r10)) (fop .mul .f64 r5.2 (4604418534313441775 : Nat)))]) (st' := ⟨[(2, .one (.dat (.flt .f64) q12))], [], 0⟩) hO (fun h => by cases h) (by kernel_rfl) ⟨hq13, trivial⟩).ht ?_
    have hr := of_some hr
    subst hr
    exact HT.ret ⟨[.one (.dat (.flt .f64) q12)], [], [], by kernel_rfl, by kernel_rfl, rfl, by kernel_rfl, by kernel_rfl, trivial⟩
   ·refine HT.seq ?_
    refine HT.rg2 (oHs 2) ⟨[(3, .one (.dat (.flt .f64) r5.2)), (4, .one (.dat (.flt .f64) q7)), (5, .one (.dat (.flt .f64) (fop .mul .f64 q7 q7))), (6, .one (.dat (.flt .f64) s9.1)), (7, .one (.dat (.flt .f64) s9.2)), (29, bV (fge .f64 s9.2 (4607182418800017408 : Nat)))], [], 0⟩ hX (by kernel_rfl) aN ?_
    rcases of_bif hx15 with ⟨hb17, hx15⟩ | ⟨hb17, hx15⟩
    ·refine HT.cond1 rfl hb17 ?_
     refine HT.skip (qThen ?_)
     refine HT.seq ?_
     refine HT.block ?_
     refine HT.rgL (oHs 7) ⟨[(3, .one (.dat (.flt .f64) r5.2)), (4, .one (.dat (.flt .f64) q7)), (5, .one (.dat (.flt .f64) (fop .mul .f64 q7 q7))), (6, .one (.dat (.flt .f64) (fop .add .f64 (fop .quo .f64 (4607182418800017408 : Nat) s9.2) (fop .mul .f64 (fop .mul .f64 q7 q7) s9.1)))), (7, .one (.dat (.flt .f64) s9.2))], [], 0⟩ hX (by kernel_rfl) aN (qBlock (qThen ?_))
     have hx15 := of_some hx15
     subst hx15
     exact HT.rgK (oHs 3) [] [] hX (by kernel_rfl) aN (fun _ h => (qLoopN ⟨((fop .add .f64 (fop .quo .f64 (4607182418800017408 : Nat) s9.2) (fop .mul .f64 (fop .mul .f64 q7 q7) s9.1)), (fop .sub .f64 s9.2 (4611686018427387904 : Nat))), rfl, h⟩))
    ·refine HT.cond0 rfl hb17 ?_
     have hx15 := of_some hx15
     subst hx15
     exact HT.exitL (Le.re [] [] hX (by kernel_rfl)) (qThenE (qLoopE (hk16 s9.1 rfl)))
  ·refine HT.seq ?_
   refine HT.rg2 (oHs 2) ⟨[(0, .one (.dat (.flt .f64) s4.1)), (3, .one (.dat (.flt .f64) s4.2)), (15, bV (flt .f64 s4.1 (4604930618986332160 : Nat)))], [], 0⟩ hX (by kernel_rfl) aN ?_
   rcases of_bif hx20 with ⟨hb22, hx20⟩ | ⟨hb22, hx20⟩
   ·refine HT.cond1 rfl hb22 ?_
    refine HT.skip (qThen ?_)
    refine HT.block ?_
    refine HT.rg2 (oHs 3) ⟨[(0, .one (.dat (.flt .f64) (fop .mul .f64 s4.1 (4611686018427387904 : Nat)))), (3, .one (.dat (.flt .f64) s4.2))], [], 0⟩ hX (by kernel_rfl) aN ?_
    have hx20 := of_some hx20
    subst hx20
    exact HT.rgK (oHs 3) [] [] hX (by kernel_rfl) aN (fun _ h => (qBlock (qLoopN ⟨((fop .mul .f64 s4.1 (4611686018427387904 : Nat)), (fop .sub .f64 s4.2 (4607182418800017408 : Nat))), rfl, h⟩)))
   ·refine HT.cond0 rfl hb22 ?_
    have hx20 := of_some hx20
    subst hx20
    exact HT.exitL (Le.re [] [] hX (by kernel_rfl)) (qThenE (qLoopE (hk21 (s4.1, s4.2) rfl)))
 ·refine HT.seq ?_
  refine HT.rg2 (oHs 2) ⟨[(0, .one (.dat (.flt .f64) s1.1)), (3, .one (.dat (.flt .f64) s1.2)), (9, bV (fge .f64 s1.1 (4609434218613702656 : Nat)))], [], 0⟩ hX (by kernel_rfl) aN ?_
  rcases of_bif hx25 with ⟨hb27, hx25⟩ | ⟨hb27, hx25⟩
  ·refine HT.cond1 rfl hb27 ?_
   refine HT.skip (qThen ?_)
   refine HT.block ?_
   refine HT.rg2 (oHs 3) ⟨[(0, .one (.dat (.flt .f64) (fop .quo .f64 s1.1 (4611686018427387904 : Nat)))), (3, .one (.dat (.flt .f64) s1.2))], [], 0⟩ hX (by kernel_rfl) aN ?_
   have hx25 := of_some hx25
   subst hx25
   exact HT.rgK (oHs 3) [] [] hX (by kernel_rfl) aN (fun _ h => (qBlock (qLoopN ⟨((fop .quo .f64 s1.1 (4611686018427387904 : Nat)), (fop .add .f64 s1.2 (4607182418800017408 : Nat))), rfl, h⟩)))
  ·refine HT.cond0 rfl hb27 ?_
   have hx25 := of_some hx25
   subst hx25
   exact HT.exitL (Le.re [] [] hX (by kernel_rfl)) (qThenE (qLoopE (hk26 (s1.1, s1.2) rfl)))

noncomputable def impl_LogNumber (a0 : Nat) : Option (Nat) :=
 bif (feq .f32 a0 (0 : Nat)) then
  (math_Inf (-1 : Int)).bind fun y2 =>
  guardP (fconvOK .f64 .f32 y2 = true) (
   some (fconv .f64 .f32 y2))
 else
  (show Option (Bool) from
   bif (flt .f32 a0 (0 : Nat)) then
    some true
   else
    some (!(feq .f32 a0 a0))).bind fun v5 =>
  bif v5 then
   (math_NaN).bind fun y9 =>
   guardP (fconvOK .f64 .f32 y9 = true) (
    some (fconv .f64 .f32 y9))
  else
   (impl_IsFinite a0).bind fun y12 =>
   bif (!y12) then
    some a0
   else
    (impl_naturalLog (fconv .f32 .f64 a0)).bind fun y15 =>
    guardP (fconvOK .f64 .f32 y15 = true) (
     some (fconv .f64 .f32 y15))

theorem f60_ok {a0 : Nat} {r : Nat} (hr : impl_LogNumber a0 = some r) : CallOK Try.prog 60 [.imm tF a0] [⟨false, tF, r⟩] [] := by
 unfold impl_LogNumber at hr
 refine CallOK.of_body (ts := [(false, tF)]) Try.func60 rfl (by kernel_rfl) (Nat.le_of_ble_eq_true (by kernel_rfl)) fun cx hP hN hO hF => ?_
 have hO : cx.own.map Prod.fst = [] := hO
 have hX := CxIs.mk hP hN hO
 have hF := hF rfl
 show HT cx ⟨[(0, fV a0)], [], 0⟩ _ _
 refine HT.rg2 [oH] ⟨[(0, fV a0)], [], 0⟩ hX (by kernel_rfl) aN ?_
 refine HT.seq ?_
 refine HT.block ?_
 refine HT.rg2 (oHs 3) ⟨[(0, fV a0), (3, bV (feq .f32 a0 (0 : Nat)))], [], 0⟩ hX (by kernel_rfl) aN ?_
 rcases of_bif hr with ⟨hb1, hr⟩ | ⟨hb1, hr⟩
 ·refine HT.cond1 rfl hb1 ?_
  obtain ⟨y2, hc3, hr⟩ := of_bind hr
  obtain ⟨hg4, hr⟩ := of_guard hr
  refine HT.rg2 [⟨none, .call [.imm tI] [⟨false, (.flt .f64), y2⟩] []⟩, oH, oH] ⟨[(2, fV (fconv .f64 .f32 y2))], [], 0⟩ hX (by kernel_rfl) (aC (f104_ok hc3) (aC hg4 aN)) ?_
  have hr := of_some hr
  subst hr
  exact HT.ret (qBlockR (qThenR ⟨[fV (fconv .f64 .f32 y2)], [], [], by kernel_rfl, by kernel_rfl, rfl, by kernel_rfl, by kernel_rfl, trivial⟩))
 ·refine HT.cond0 rfl hb1 ?_
  obtain ⟨v5', hT7, hr⟩ := of_bind hr
  refine HT.join (fun (v5 : Bool) => ⟨[(0, fV a0), (8, bV v5)], [], 0⟩) (fun v => v = v5') (fun v5 hv6 => ?_) (fun cont => ?_)
  ·subst hv6
   rcases of_bif hr with ⟨hb8, hr⟩ | ⟨hb8, hr⟩
   ·refine HT.cond1 rfl hb8 ?_
    obtain ⟨y9, hc10, hr⟩ := of_bind hr
    obtain ⟨hg11, hr⟩ := of_guard hr
    refine HT.rg2 [⟨none, .call [] [⟨false, (.flt .f64), y9⟩] []⟩, oH, oH] ⟨[(2, fV (fconv .f64 .f32 y9))], [], 0⟩ hX (by kernel_rfl) (aC (f105_ok hc10) (aC hg11 aN)) ?_
    have hr := of_some hr
    subst hr
    exact HT.ret (qBlockR (qThenR ⟨[fV (fconv .f64 .f32 y9)], [], [], by kernel_rfl, by kernel_rfl, rfl, by kernel_rfl, by kernel_rfl, trivial⟩))
   ·refine HT.cond0 rfl hb8 ?_
    obtain ⟨y12, hc13, hr⟩ := of_bind hr
    refine HT.rg2 [oH, ⟨none, .call [.imm tF] [⟨false, .bool, y12⟩] []⟩, oH, oH] ⟨[(0, fV a0), (18, bV (!y12))], [], 0⟩ hX (by kernel_rfl) (aC (f84_ok hc13) aN) ?_
    rcases of_bif hr with ⟨hb14, hr⟩ | ⟨hb14, hr⟩
    ·refine HT.cond1 rfl hb14 ?_
     refine HT.rg2 (oHs 2) ⟨[(2, fV a0)], [], 0⟩ hX (by kernel_rfl) aN ?_
     have hr := of_some hr
     subst hr
     exact HT.ret (qBlockR (qThenR ⟨[fV a0], [], [], by kernel_rfl, by kernel_rfl, rfl, by kernel_rfl, by kernel_rfl, trivial⟩))
    ·refine HT.cond0 rfl hb14 ?_
     refine HT.skip (qBlock (qThen ?_))
     obtain ⟨y15, hc16, hr⟩ := of_bind hr
     obtain ⟨hg17, hr⟩ := of_guard hr
     refine HT.rg2 [oH, oH, ⟨none, .call [.imm (.flt .f64)] [⟨false, (.flt .f64), y15⟩] []⟩, oH, oH] ⟨[(2, fV (fconv .f64 .f32 y15))], [], 0⟩ hX (by kernel_rfl) (aC (show fconvOK .f32 .f64 a0 = true from (fconv_up _)) (aC (f106_ok hc16) (aC hg17 aN))) ?_
     have hr := of_some hr
     subst hr
     exact HT.ret ⟨[fV (fconv .f64 .f32 y15)], [], [], by kernel_rfl, by kernel_rfl, rfl, by kernel_rfl, by kernel_rfl, trivial⟩
  ·rcases of_bif hT7 with ⟨hb18, hT7⟩ | ⟨hb18, hT7⟩
   ·exact HT.rgK [oH, oH, oH, oT, oT, oT, vT, oH] [] [] hX (by kernel_rfl) (aC hb18 (aC hb18 (aC hb18 (aC hb18 aN)))) (fun _ h => (qThen (h.ht (cont true (of_some hT7)))))
   ·exact HT.rgK [oH, oH, oH, oF, oF, oF, vF, oH] [] [] hX (by kernel_rfl) (aC hb18 (aC hb18 (aC hb18 (aC hb18 aN)))) (fun _ h => (qThen (h.ht (cont (!(feq .f32 a0 a0)) (of_some hT7)))))

noncomputable def impl_LogChanceOf_B1 (r19 : Nat) (y21 : List Nat) (s23 : Int × List Nat) : Option ((Int × List Nat) ⊕ (List Nat)) :=
 bif (decide (s23.1 < (lenI y21))) then
  guardP ((0 : Int) ≤ s23.1 ∧ s23.1 < lenI s23.2) (
   some (.inl ((wadd .i64 s23.1 (1 : Int)), (List.set s23.2 (Int.toNat s23.1) (fop .quo .f32 (List.getD s23.2 (Int.toNat s23.1) (0 : Nat)) r19)))))
 else
  some (.inr s23.2)

noncomputable def impl_LogChanceOf_B2 (a0 : Int × Int × List Nat × List Nat × List Nat) (a1 : List Int) (s6 : Nat × Int × List Nat) (s17 : Nat × Int) : Option ((Nat × Int) ⊕ (Nat)) :=
 bif (decide (s17.2 < (lenI s6.2.2))) then
  guardP ((0 : Int) ≤ s17.2 ∧ s17.2 < lenI s6.2.2) (
   (impl_Model_show (a0.1, a0.2.1, a0.2.2.1, a0.2.2.2.1, a0.2.2.2.2) s17.2 (List.getD a1 (Int.toNat s6.2.1) (0 : Int))).bind fun y39 =>
   some (.inl ((fop .add .f32 s17.1 (fop .mul .f32 (List.getD s6.2.2 (Int.toNat s17.2) (0 : Nat)) y39)), (wadd .i64 s17.2 (1 : Int)))))
 else
  some (.inr s17.1)

noncomputable def impl_LogChanceOf_B3 (a0 : Int × Int × List Nat × List Nat × List Nat) (a1 : List Int) (s6 : Nat × Int × List Nat) : Option ((Nat × Int × List Nat) ⊕ (Nat ⊕ Unit)) :=
 bif (decide (s6.2.1 < (lenI a1))) then
  guardP ((0 : Int) ≤ s6.2.1 ∧ s6.2.1 < lenI a1) (
   (rounds (impl_LogChanceOf_B2 a0 a1 s6) ((0 : Nat), (0 : Int))).bind fun r19 =>
   bif (!(fgt .f32 r19 (0 : Nat))) then
    some (.inr (.inr ()))
   else
    (impl_Model_nextRow (a0.1, a0.2.1, a0.2.2.1, a0.2.2.2.1, a0.2.2.2.2) s6.2.2 (List.getD a1 (Int.toNat s6.2.1) (0 : Int))).bind fun y21 =>
    (rounds (impl_LogChanceOf_B1 r19 y21) ((0 : Int), y21)).bind fun r25 =>
    (impl_LogNumber r19).bind fun y26 =>
    some (.inl ((fop .add .f32 s6.1 y26), (wadd .i64 s6.2.1 (1 : Int)), r25)))
 else
  some (.inr (.inl s6.1))

noncomputable def impl_LogChanceOf (a0 : Int × Int × List Nat × List Nat × List Nat) (a1 : List Int) : Option (Nat × Bool) :=
 (impl_Model_has (a0.1, a0.2.1, a0.2.2.1, a0.2.2.2.1, a0.2.2.2.2) a1).bind fun y1 =>
 bif (!y1) then
  some ((0 : Nat), false)
 else
  (slices_Clone a0.2.2.1).bind fun y4 =>
  (rounds (impl_LogChanceOf_B3 a0 a1) ((0 : Nat), (0 : Int), y4)).bind fun r7 => match r7 with
   | .inl r8 =>
    (impl_finite r8).bind fun y9 =>
    some (y9.1, y9.2)
   | .inr r11 =>
    some ((0 : Nat), false)

theorem f17_ok {a0 : Int × Int × List Nat × List Nat × List Nat} {a1 : List Int} {r : Nat × Bool} (hr : impl_LogChanceOf a0 a1 = some r) : CallOK Try.prog 17 [.imm (.st (.pair tI (.pair tI (.pair tLF (.pair tLF tLF))))) a0, .imm tLI a1] [⟨false, tF, r.1⟩, ⟨false, .bool, r.2⟩] [] := by
 unfold impl_LogChanceOf at hr
 refine CallOK.of_body (ts := [(false, tF), (false, .bool)]) Try.func17 rfl (by kernel_rfl) (Nat.le_of_ble_eq_true (by kernel_rfl)) fun cx hP hN hO hF => ?_
 have hO : cx.own.map Prod.fst = [] := hO
 have hX := CxIs.mk hP hN hO
 have hF := hF rfl
 show HT cx ⟨[(0, .agg [iC a0.1, iC a0.2.1, lC a0.2.2.1, lC a0.2.2.2.1, lC a0.2.2.2.2]), (1, nV a1)], [], 0⟩ _ _
 refine HT.rg2 (oHs 3) ⟨[(1, nV a1), (2, pV 0 0)], [(0, .box [iC a0.1, iC a0.2.1, lC a0.2.2.1, lC a0.2.2.2.1, lC a0.2.2.2.2])], 1⟩ hX (by kernel_rfl) aN ?_
 refine HT.seq ?_
 obtain ⟨y1, hc2, hr⟩ := of_bind hr
 refine HT.rg2 [oH, oH, ⟨none, .call [.imm (.st (.pair tI (.pair tI (.pair tLF (.pair tLF tLF))))), .imm tLI] [⟨false, .bool, y1⟩] []⟩, oH] ⟨[(1, nV a1), (2, pV 0 0), (17, bV (!y1))], [(0, .box [iC a0.1, iC a0.2.1, lC a0.2.2.1, lC a0.2.2.2.1, lC a0.2.2.2.2])], 1⟩ hX (by kernel_rfl) (aC (f55_ok hc2) aN) ?_
 rcases of_bif hr with ⟨hb3, hr⟩ | ⟨hb3, hr⟩
 ·refine HT.cond1 rfl hb3 ?_
  refine HT.rg2 (oHs 2) ⟨[(4, fV (0 : Nat)), (5, bV false)], [], 1⟩ hX (by kernel_rfl) aN ?_
  have hr := of_some hr
  subst hr
  exact HT.ret (qThenR ⟨[fV (0 : Nat), bV false], [], [], by kernel_rfl, by kernel_rfl, rfl, by kernel_rfl, by kernel_rfl, trivial⟩)
 ·refine HT.cond0 rfl hb3 ?_
  refine HT.skip (qThen ?_)
  obtain ⟨y4, hc5, hr⟩ := of_bind hr
  refine HT.rg2 [oH, oH, ⟨none, .call [.imm tLF] [⟨true, tLF, y4⟩] []⟩, oH] ⟨[(1, nV a1), (2, pV 0 0), (6, aV 1)], [(1, .seq tF y4), (0, .box [iC a0.1, iC a0.2.1, lC a0.2.2.1, lC a0.2.2.2.1, lC a0.2.2.2.2])], 2⟩ hX (by kernel_rfl) (aC (f57_ok hc5) aN) ?_
  refine HT.rg2 [oH] ⟨[(1, nV a1), (2, pV 0 0), (6, aV 1), (7, fV (0 : Nat))], [(1, .seq tF y4), (0, .box [iC a0.1, iC a0.2.1, lC a0.2.2.1, lC a0.2.2.2.1, lC a0.2.2.2.2])], 2⟩ hX (by kernel_rfl) aN ?_
  refine HT.seq ?_
  refine HT.rg2 (oHs 3) ⟨[(2, pV 0 0), (6, aV 1), (7, fV (0 : Nat)), (21, nV a1), (22, iV (lenI a1)), (23, iV (0 : Int))], [(1, .seq tF y4), (0, .box [iC a0.1, iC a0.2.1, lC a0.2.2.1, lC a0.2.2.2.1, lC a0.2.2.2.2])], 2⟩ hX (by kernel_rfl) aN ?_
  refine HT.block ?_
  obtain ⟨r7, hL42, hr⟩ := of_bind hr
  refine HT.loopL (fun (s6 : Nat × Int × List Nat) => ⟨[(2, pV 0 0), (6, aV 1), (7, fV s6.1), (21, nV a1), (22, iV (lenI a1)), (23, iV s6.2.1)], [(0, .box [iC a0.1, iC a0.2.1, lC a0.2.2.1, lC a0.2.2.2.1, lC a0.2.2.2.2]), (1, .seq tF s6.2.2)], 2⟩) (fun (r7 : Nat ⊕ Unit) => match r7 with | .inl r8 => (.exit 0, ⟨[(7, fV r8)], [], 0⟩) | .inr r11 => (.ret, ⟨[(4, fV (0 : Nat)), (5, bV false)], [], 0⟩)) (Le.re [(0, 0), (1, 1)] [] hX (by kernel_rfl)) hL42 ?_ (fun s6 x12 hx13 hk14 => ?_)
  ·rcases r7 with r8 | r11
   ·refine (qBlockX (qThen ?_))
    obtain ⟨y9, hc10, hr⟩ := of_bind hr
    refine HT.rg2 [oH, ⟨none, .call [.imm tF] [⟨false, tF, y9.1⟩, ⟨false, .bool, y9.2⟩] []⟩, oH, oH, oH, oH] ⟨[(4, fV y9.1), (5, bV y9.2)], [], 0⟩ hX (by kernel_rfl) (aC (f50_ok hc10) aN) ?_
    have hr := of_some hr
    subst hr
    exact HT.ret ⟨[fV y9.1, bV y9.2], [], [], by kernel_rfl, by kernel_rfl, rfl, by kernel_rfl, by kernel_rfl, trivial⟩
   ·have hr := of_some hr
    subst hr
    exact (qBlockR (qThenR ⟨[fV (0 : Nat), bV false], [], [], by kernel_rfl, by kernel_rfl, rfl, by kernel_rfl, by kernel_rfl, trivial⟩))
  ·refine HT.rg2 [oH] ⟨[(2, pV 0 0), (6, aV 1), (7, fV s6.1), (21, nV a1), (22, iV (lenI a1)), (23, iV s6.2.1), (24, bV (decide (s6.2.1 < (lenI a1))))], [(0, .box [iC a0.1, iC a0.2.1, lC a0.2.2.1, lC a0.2.2.2.1, lC a0.2.2.2.2]), (1, .seq tF s6.2.2)], 2⟩ hX (by kernel_rfl) aN ?_
   refine HT.seq ?_
   rcases of_bif hx13 with ⟨hb15, hx13⟩ | ⟨hb15, hx13⟩
   ·refine HT.cond1 rfl hb15 ?_
    refine HT.skip (qThen ?_)
    refine HT.seq ?_
    refine HT.block ?_
    obtain ⟨hg16, hx13⟩ := of_guard hx13
    refine HT.rg2 (oHs 3) ⟨[(2, pV 0 0), (6, aV 1), (7, fV s6.1), (9, iV (List.getD a1 (Int.toNat s6.2.1) (0 : Int))), (21, nV a1), (22, iV (lenI a1)), (23, iV s6.2.1)], [(0, .box [iC a0.1, iC a0.2.1, lC a0.2.2.1, lC a0.2.2.2.1, lC a0.2.2.2.2]), (1, .seq tF s6.2.2)], 2⟩ hX (by kernel_rfl) (aC hg16 aN) ?_
    refine HT.rg2 [oH] ⟨[(2, pV 0 0), (6, aV 1), (7, fV s6.1), (9, iV (List.getD a1 (Int.toNat s6.2.1) (0 : Int))), (10, fV (0 : Nat)), (21, nV a1), (22, iV (lenI a1)), (23, iV s6.2.1)], [(0, .box [iC a0.1, iC a0.2.1, lC a0.2.2.1, lC a0.2.2.2.1, lC a0.2.2.2.2]), (1, .seq tF s6.2.2)], 2⟩ hX (by kernel_rfl) aN ?_
    refine HT.seq ?_
    refine HT.rg2 (oHs 3) ⟨[(2, pV 0 0), (6, aV 1), (7, fV s6.1), (9, iV (List.getD a1 (Int.toNat s6.2.1) (0 : Int))), (10, fV (0 : Nat)), (21, nV a1), (22, iV (lenI a1)), (23, iV s6.2.1), (27, aV 1), (28, iV (lenI s6.2.2)), (29, iV (0 : Int))], [(0, .box [iC a0.1, iC a0.2.1, lC a0.2.2.1, lC a0.2.2.2.1, lC a0.2.2.2.2]), (1, .seq tF s6.2.2)], 2⟩ hX (by kernel_rfl) aN ?_
    refine HT.block ?_
    obtain ⟨r18, hL41, hx13⟩ := of_bind hx13
    refine HT.loopL (fun (s17 : Nat × Int) => ⟨[(2, pV 0 0), (6, aV 1), (7, fV s6.1), (9, iV (List.getD a1 (Int.toNat s6.2.1) (0 : Int))), (10, fV s17.1), (21, nV a1), (22, iV (lenI a1)), (23, iV s6.2.1), (27, aV 1), (28, iV (lenI s6.2.2)), (29, iV s17.2)], [(0, .box [iC a0.1, iC a0.2.1, lC a0.2.2.1, lC a0.2.2.2.1, lC a0.2.2.2.2]), (1, .seq tF s6.2.2)], 2⟩) (fun (r19 : Nat) => (.exit 2, ⟨[(2, pV 0 0), (6, aV 1), (7, fV s6.1), (9, iV (List.getD a1 (Int.toNat s6.2.1) (0 : Int))), (10, fV r19), (21, nV a1), (22, iV (lenI a1)), (23, iV s6.2.1)], [(0, .box [iC a0.1, iC a0.2.1, lC a0.2.2.1, lC a0.2.2.2.1, lC a0.2.2.2.2]), (1, .seq tF s6.2.2)], 2⟩)) (Le.re [(0, 0), (1, 1)] [] hX (by kernel_rfl)) hL41 ?_ (fun s17 x34 hx35 hk36 => ?_)
    ·refine (qBlockX (qThen ?_))
     refine HT.seq ?_
     refine HT.rg2 (oHs 3) ⟨[(2, pV 0 0), (6, aV 1), (7, fV s6.1), (9, iV (List.getD a1 (Int.toNat s6.2.1) (0 : Int))), (10, fV r18), (21, nV a1), (22, iV (lenI a1)), (23, iV s6.2.1), (45, bV (!(fgt .f32 r18 (0 : Nat))))], [(0, .box [iC a0.1, iC a0.2.1, lC a0.2.2.1, lC a0.2.2.2.1, lC a0.2.2.2.2]), (1, .seq tF s6.2.2)], 2⟩ hX (by kernel_rfl) aN ?_
     rcases of_bif hx13 with ⟨hb20, hx13⟩ | ⟨hb20, hx13⟩
     ·refine HT.cond1 rfl hb20 ?_
      refine HT.rg2 (oHs 2) ⟨[(4, fV (0 : Nat)), (5, bV false)], [], 2⟩ hX (by kernel_rfl) aN ?_
      have hx13 := of_some hx13
      subst hx13
      exact HT.retL (Le.re [] [] hX (by kernel_rfl)) (qThenR (qBlockR (qThenR (qLoopR (hk14 (.inr ()) rfl)))))
     ·refine HT.cond0 rfl hb20 ?_
      refine HT.skip (qThen ?_)
      obtain ⟨y21, hc22, hx13⟩ := of_bind hx13
      refine HT.rg2 [oH, oH, oH, ⟨none, .call [.imm (.st (.pair tI (.pair tI (.pair tLF (.pair tLF tLF))))), .imm tLF, .imm tI] [⟨true, tLF, y21⟩] []⟩, oH] ⟨[(2, pV 0 0), (6, aV 2), (7, fV s6.1), (10, fV r18), (21, nV a1), (22, iV (lenI a1)), (23, iV s6.2.1)], [(2, .seq tF y21), (0, .box [iC a0.1, iC a0.2.1, lC a0.2.2.1, lC a0.2.2.2.1, lC a0.2.2.2.2])], 3⟩ hX (by kernel_rfl) (aC (f59_ok hc22) aN) ?_
      refine HT.seq ?_
      refine HT.rg2 (oHs 3) ⟨[(2, pV 0 0), (6, aV 2), (7, fV s6.1), (10, fV r18), (21, nV a1), (22, iV (lenI a1)), (23, iV s6.2.1), (51, iV (lenI y21)), (52, iV (0 : Int))], [(2, .seq tF y21), (0, .box [iC a0.1, iC a0.2.1, lC a0.2.2.1, lC a0.2.2.2.1, lC a0.2.2.2.2])], 3⟩ hX (by kernel_rfl) aN ?_
      refine HT.block ?_
      obtain ⟨r24, hL33, hx13⟩ := of_bind hx13
      refine HT.loopL (fun (s23 : Int × List Nat) => ⟨[(2, pV 0 0), (6, aV 1), (7, fV s6.1), (10, fV r18), (21, nV a1), (22, iV (lenI a1)), (23, iV s6.2.1), (51, iV (lenI y21)), (52, iV s23.1)], [(0, .box [iC a0.1, iC a0.2.1, lC a0.2.2.1, lC a0.2.2.2.1, lC a0.2.2.2.2]), (1, .seq tF s23.2)], 2⟩) (fun (r25 : List Nat) => (.exit 4, ⟨[(2, pV 0 0), (6, aV 1), (7, fV s6.1), (10, fV r18), (21, nV a1), (22, iV (lenI a1)), (23, iV s6.2.1)], [(0, .box [iC a0.1, iC a0.2.1, lC a0.2.2.1, lC a0.2.2.2.1, lC a0.2.2.2.2]), (1, .seq tF r25)], 2⟩)) (Le.re [(0, 0), (2, 1)] [] hX (by kernel_rfl)) hL33 ?_ (fun s23 x28 hx29 hk30 => ?_)
      ·refine (qBlockX (qThen ?_))
       obtain ⟨y26, hc27, hx13⟩ := of_bind hx13
       refine HT.rgL [oH, oH, ⟨none, .call [.imm tF] [⟨false, tF, y26⟩] []⟩, oH, oH] ⟨[(2, pV 0 0), (6, aV 1), (7, fV (fop .add .f32 s6.1 y26)), (21, nV a1), (22, iV (lenI a1)), (23, iV s6.2.1)], [(0, .box [iC a0.1, iC a0.2.1, lC a0.2.2.1, lC a0.2.2.2.1, lC a0.2.2.2.2]), (1, .seq tF r24)], 2⟩ hX (by kernel_rfl) (aC (f60_ok hc27) aN) (qBlock (qThen ?_))
       have hx13 := of_some hx13
       subst hx13
       exact HT.rgK (oHs 2) [(0, 0), (1, 1)] [] hX (by kernel_rfl) aN (fun _ h => (qLoopN ⟨((fop .add .f32 s6.1 y26), (wadd .i64 s6.2.1 (1 : Int)), r24), rfl, h⟩))
      ·refine HT.rg2 [oH] ⟨[(2, pV 0 0), (6, aV 1), (7, fV s6.1), (10, fV r18), (21, nV a1), (22, iV (lenI a1)), (23, iV s6.2.1), (51, iV (lenI y21)), (52, iV s23.1), (53, bV (decide (s23.1 < (lenI y21))))], [(0, .box [iC a0.1, iC a0.2.1, lC a0.2.2.1, lC a0.2.2.2.1, lC a0.2.2.2.2]), (1, .seq tF s23.2)], 2⟩ hX (by kernel_rfl) aN ?_
       refine HT.seq ?_
       rcases of_bif hx29 with ⟨hb31, hx29⟩ | ⟨hb31, hx29⟩
       ·refine HT.cond1 rfl hb31 ?_
        refine HT.skip (qThen ?_)
        refine HT.seq ?_
        refine HT.block ?_
        refine HT.rg2 (oHs 2) ⟨[(2, pV 0 0), (6, aV 1), (7, fV s6.1), (10, fV r18), (13, iV s23.1), (21, nV a1), (22, iV (lenI a1)), (23, iV s6.2.1), (51, iV (lenI y21)), (52, iV s23.1)], [(0, .box [iC a0.1, iC a0.2.1, lC a0.2.2.1, lC a0.2.2.2.1, lC a0.2.2.2.2]), (1, .seq tF s23.2)], 2⟩ hX (by kernel_rfl) aN ?_
        obtain ⟨hg32, hx29⟩ := of_guard hx29
        refine HT.rgL (oHs 10) ⟨[(2, pV 0 0), (6, aV 1), (7, fV s6.1), (10, fV r18), (21, nV a1), (22, iV (lenI a1)), (23, iV s6.2.1), (51, iV (lenI y21)), (52, iV s23.1)], [(1, .seq tF (List.set s23.2 (Int.toNat s23.1) (fop .quo .f32 (List.getD s23.2 (Int.toNat s23.1) (0 : Nat)) r18))), (0, .box [iC a0.1, iC a0.2.1, lC a0.2.2.1, lC a0.2.2.2.1, lC a0.2.2.2.2])], 2⟩ hX (by kernel_rfl) (aC hg32 (aC (natLt hg32) (aC hg32 (aC (natLt hg32) aN)))) (qBlock (qThen ?_))
        have hx29 := of_some hx29
        subst hx29
        exact HT.rgK (oHs 2) [(0, 0), (1, 1)] [] hX (by kernel_rfl) aN (fun _ h => (qLoopN ⟨((wadd .i64 s23.1 (1 : Int)), (List.set s23.2 (Int.toNat s23.1) (fop .quo .f32 (List.getD s23.2 (Int.toNat s23.1) (0 : Nat)) r18))), rfl, h⟩))
       ·refine HT.cond0 rfl hb31 ?_
        have hx29 := of_some hx29
        subst hx29
        exact HT.exitL (Le.re [(0, 0), (1, 1)] [] hX (by kernel_rfl)) (qThenE (qLoopE (hk30 s23.2 rfl)))
    ·refine HT.rg2 [oH] ⟨[(2, pV 0 0), (6, aV 1), (7, fV s6.1), (9, iV (List.getD a1 (Int.toNat s6.2.1) (0 : Int))), (10, fV s17.1), (21, nV a1), (22, iV (lenI a1)), (23, iV s6.2.1), (27, aV 1), (28, iV (lenI s6.2.2)), (29, iV s17.2), (30, bV (decide (s17.2 < (lenI s6.2.2))))], [(0, .box [iC a0.1, iC a0.2.1, lC a0.2.2.1, lC a0.2.2.2.1, lC a0.2.2.2.2]), (1, .seq tF s6.2.2)], 2⟩ hX (by kernel_rfl) aN ?_
     refine HT.seq ?_
     rcases of_bif hx35 with ⟨hb37, hx35⟩ | ⟨hb37, hx35⟩
     ·refine HT.cond1 rfl hb37 ?_
      refine HT.skip (qThen ?_)
      refine HT.seq ?_
      refine HT.block ?_
      obtain ⟨hg38, hx35⟩ := of_guard hx35
      refine HT.rg2 (oHs 5) ⟨[(2, pV 0 0), (6, aV 1), (7, fV s6.1), (9, iV (List.getD a1 (Int.toNat s6.2.1) (0 : Int))), (10, fV s17.1), (11, iV s17.2), (12, fV (List.getD s6.2.2 (Int.toNat s17.2) (0 : Nat))), (21, nV a1), (22, iV (lenI a1)), (23, iV s6.2.1), (27, aV 1), (28, iV (lenI s6.2.2)), (29, iV s17.2)], [(0, .box [iC a0.1, iC a0.2.1, lC a0.2.2.1, lC a0.2.2.2.1, lC a0.2.2.2.2]), (1, .seq tF s6.2.2)], 2⟩ hX (by kernel_rfl) (aC hg38 (aC (natLt hg38) aN)) ?_
      obtain ⟨y39, hc40, hx35⟩ := of_bind hx35
      refine HT.rgL [oH, oH, oH, oH, oH, ⟨none, .call [.imm (.st (.pair tI (.pair tI (.pair tLF (.pair tLF tLF))))), .imm tI, .imm tI] [⟨false, tF, y39⟩] []⟩, oH, oH, oH] ⟨[(2, pV 0 0), (6, aV 1), (7, fV s6.1), (9, iV (List.getD a1 (Int.toNat s6.2.1) (0 : Int))), (10, fV (fop .add .f32 s17.1 (fop .mul .f32 (List.getD s6.2.2 (Int.toNat s17.2) (0 : Nat)) y39))), (21, nV a1), (22, iV (lenI a1)), (23, iV s6.2.1), (27, aV 1), (28, iV (lenI s6.2.2)), (29, iV s17.2)], [(0, .box [iC a0.1, iC a0.2.1, lC a0.2.2.1, lC a0.2.2.2.1, lC a0.2.2.2.2]), (1, .seq tF s6.2.2)], 2⟩ hX (by kernel_rfl) (aC (f58_ok hc40) aN) (qBlock (qThen ?_))
      have hx35 := of_some hx35
      subst hx35
      exact HT.rgK (oHs 2) [(0, 0), (1, 1)] [] hX (by kernel_rfl) aN (fun _ h => (qLoopN ⟨((fop .add .f32 s17.1 (fop .mul .f32 (List.getD s6.2.2 (Int.toNat s17.2) (0 : Nat)) y39)), (wadd .i64 s17.2 (1 : Int))), rfl, h⟩))
     ·refine HT.cond0 rfl hb37 ?_
      have hx35 := of_some hx35
      subst hx35
      exact HT.exitL (Le.re [(0, 0), (1, 1)] [] hX (by kernel_rfl)) (qThenE (qLoopE (hk36 s17.1 rfl)))
   ·refine HT.cond0 rfl hb15 ?_
    have hx13 := of_some hx13
    subst hx13
    exact HT.exitL (Le.re [] [] hX (by kernel_rfl)) (qThenE (qLoopE (hk14 (.inl s6.1) rfl)))

noncomputable def slices_Grow___float32_float32_nl0 (a1 : Int) : Option (List Nat) :=
 bif (decide (a1 < (0 : Int))) then
  none
 else
  (show Option (List Nat) from
   bif (decide ((wsub .i64 a1 (wsub .i64 (0 : Int) (0 : Int))) > (0 : Int))) then
    guardP ((0 : Int) ≤ (wsub .i64 a1 (wsub .i64 (0 : Int) (0 : Int))) ∧ (wsub .i64 a1 (wsub .i64 (0 : Int) (0 : Int))) ≤ 4294967296) (
     guardP ((0 : Int) ≤ (0 : Int) ∧ (0 : Int) ≤ lenI (List.replicate (Int.toNat (wsub .i64 a1 (wsub .i64 (0 : Int) (0 : Int)))) (0 : Nat))) (
      some (List.take (Int.toNat (0 : Int)) (List.replicate (Int.toNat (wsub .i64 a1 (wsub .i64 (0 : Int) (0 : Int)))) (0 : Nat)))))
   else
    some ([] : List Nat)).bind fun v2 =>
  some v2

theorem f101_nl0_ok {a1 : Int} {r : List Nat} (hr : slices_Grow___float32_float32_nl0 a1 = some r) : CallOK Try.prog 101 [.nl, .imm tI a1] [⟨true, tLF, r⟩] [] := by
 unfold slices_Grow___float32_float32_nl0 at hr
 refine CallOK.of_body (ts := [(true, tLF)]) Try.func101 rfl (by kernel_rfl) (Nat.le_of_ble_eq_true (by kernel_rfl)) fun cx hP hN hO hF => ?_
 have hO : cx.own.map Prod.fst = [] := hO
 have hX := CxIs.mk hP hN hO
 have hF := hF rfl
 show HT cx ⟨[(0, .one (.nilS)), (1, iV a1)], [], 0⟩ _ _
 refine HT.rg2 [oH] ⟨[(0, .one (.nilS)), (1, iV a1)], [], 0⟩ hX (by kernel_rfl) aN ?_
 refine HT.seq ?_
 refine HT.rg2 (oHs 2) ⟨[(0, .one (.nilS)), (1, iV a1), (6, bV (decide (a1 < (0 : Int))))], [], 0⟩ hX (by kernel_rfl) aN ?_
 rcases of_bif hr with ⟨hb1, hr⟩ | ⟨hb1, hr⟩
 ·refine HT.cond1 rfl hb1 ?_
  cases hr
 ·refine HT.cond0 rfl hb1 ?_
  refine HT.skip (qThen ?_)
  obtain ⟨v2', hT4, hr⟩ := of_bind hr
  refine HT.join (fun (v2 : List Nat) => ⟨[(0, aV 0)], [(0, .seq tF v2)], 1⟩) (fun v => v = v2') (fun v2 hv3 => ?_) (fun cont => ?_)
  ·subst hv3
   refine HT.rg2 (oHs 2) ⟨[(4, aV 0)], [(0, .seq tF v2)], 1⟩ hX (by kernel_rfl) aN ?_
   have hr := of_some hr
   subst hr
   exact HT.ret ⟨[aV 0], [0], [], by kernel_rfl, by kernel_rfl, rfl, by kernel_rfl, by kernel_rfl, trivial⟩
  ·refine HT.rg2 (oHs 8) ⟨[(0, .one (.nilS)), (1, iV (wsub .i64 a1 (wsub .i64 (0 : Int) (0 : Int))))], [], 0⟩ hX (by kernel_rfl) aN ?_
   refine HT.rg2 (oHs 2) ⟨[(0, .one (.nilS)), (1, iV (wsub .i64 a1 (wsub .i64 (0 : Int) (0 : Int)))), (16, bV (decide ((wsub .i64 a1 (wsub .i64 (0 : Int) (0 : Int))) > (0 : Int))))], [], 0⟩ hX (by kernel_rfl) aN ?_
   rcases of_bif hT4 with ⟨hb5, hT4⟩ | ⟨hb5, hT4⟩
   ·refine HT.cond1 rfl hb5 ?_
    obtain ⟨hg6, hT4⟩ := of_guard hT4
    obtain ⟨hg7, hT4⟩ := of_guard hT4
    refine HT.rgL [oH, oH, oH, oH, oH, ⟨none, .tyD tF⟩, oH, oH, oH, oH] ⟨[(0, .one (.ref 0 0 (Int.toNat (0 : Int))))], [(0, .seq tF (List.replicate (Int.toNat (wsub .i64 a1 (wsub .i64 (0 : Int) (0 : Int)))) (0 : Nat)))], 1⟩ hX (by kernel_rfl) (aC (show (0 : Int) ≤ (0 : Int) ∧ (0 : Int) ≤ (0 : Int) ∧ (0 : Int) ≤ 0 from by decide) (aC hg6 (aC (show (0 : Int) ≤ 0 ∧ (0 : Int) ≤ (0 : Int) ∧ (0 : Int) ≤ lenI (List.replicate (Int.toNat (wsub .i64 a1 (wsub .i64 (0 : Int) (0 : Int)))) (0 : Nat)) from ⟨Int.le_refl _, hg7.1, hg7.2⟩) aN))) (qThen ?_)
    exact (Le.cv (s := ⟨[(0, 0)], [], [0], false⟩) (own := []) (ps := [0 = 0, List.length (List.take (Int.toNat (0 : Int)) (List.replicate (Int.toNat (wsub .i64 a1 (wsub .i64 (0 : Int) (0 : Int)))) (0 : Nat))) = Int.toNat (0 : Int), (List.take (Int.toNat (0 : Int)) (List.replicate (Int.toNat (wsub .i64 a1 (wsub .i64 (0 : Int) (0 : Int)))) (0 : Nat))) = List.take (List.length (List.take (Int.toNat (0 : Int)) (List.replicate (Int.toNat (wsub .i64 a1 (wsub .i64 (0 : Int) (0 : Int)))) (0 : Nat)))) (List.replicate (Int.toNat (wsub .i64 a1 (wsub .i64 (0 : Int) (0 : Int)))) (0 : Nat))]) (st' := ⟨[(0, aV 0)], [(0, .seq tF (List.take (Int.toNat (0 : Int)) (List.replicate (Int.toNat (wsub .i64 a1 (wsub .i64 (0 : Int) (0 : Int)))) (0 : Nat))))], 1⟩) hO (fun h => by cases h) (by kernel_rfl) ⟨rfl, (trunc1 hg7), (trunc2 _ _), trivial⟩).ht (cont (List.take (Int.toNat (0 : Int)) (List.replicate (Int.toNat (wsub .i64 a1 (wsub .i64 (0 : Int) (0 : Int)))) (0 : Nat))) (of_some hT4))
   ·refine HT.cond0 rfl hb5 ?_
    refine HT.skip (qThen ?_)
    exact (Le.re [] [0] hX (by kernel_rfl)).ht (cont ([] : List Nat) (of_some hT4))

noncomputable def slices_Concat___float32_float32_B1 (a0 : List (List Nat)) (s6 : Int × List Nat) : Option ((Int × List Nat) ⊕ (List Nat)) :=
 bif (decide (s6.1 < (lenI a0))) then
  guardP ((0 : Int) ≤ s6.1 ∧ s6.1 < lenI a0) (
   guardP (List.length s6.2 + List.length (List.getD a0 (Int.toNat s6.1) ([] : List Nat)) ≤ appMax) (
    some (.inl ((wadd .i64 s6.1 (1 : Int)), (s6.2 ++ (List.getD a0 (Int.toNat s6.1) ([] : List Nat)))))))
 else
  some (.inr s6.2)

noncomputable def slices_Concat___float32_float32_B2 (a0 : List (List Nat)) (s1 : Int × Int) : Option ((Int × Int) ⊕ (Int)) :=
 bif (decide (s1.2 < (lenI a0))) then
  guardP ((0 : Int) ≤ s1.2 ∧ s1.2 < lenI a0) (
   bif (decide ((wadd .i64 s1.1 (lenI (List.getD a0 (Int.toNat s1.2) ([] : List Nat)))) < (0 : Int))) then
    none
   else
    some (.inl ((wadd .i64 s1.1 (lenI (List.getD a0 (Int.toNat s1.2) ([] : List Nat)))), (wadd .i64 s1.2 (1 : Int)))))
 else
  some (.inr s1.1)

noncomputable def slices_Concat___float32_float32 (a0 : List (List Nat)) : Option (List Nat) :=
 (rounds (slices_Concat___float32_float32_B2 a0) ((0 : Int), (0 : Int))).bind fun r3 =>
 (slices_Grow___float32_float32_nl0 r3).bind fun y4 =>
 (rounds (slices_Concat___float32_float32_B1 a0) ((0 : Int), y4)).bind fun r8 =>
 some r8

theorem f47_ok {a0 : List (List Nat)} {r : List Nat} (hr : slices_Concat___float32_float32 a0 = some r) : CallOK Try.prog 47 [.imm (.sl tLF) a0] [⟨true, tLF, r⟩] [] := by
 unfold slices_Concat___float32_float32 at hr
 refine CallOK.of_body (ts := [(true, tLF)]) Try.func47 rfl (by kernel_rfl) (Nat.le_of_ble_eq_true (by kernel_rfl)) fun cx hP hN hO hF => ?_
 have hO : cx.own.map Prod.fst = [] := hO
 have hX := CxIs.mk hP hN hO
 have hF := hF rfl
 show HT cx ⟨[(0, .one (.dat (.sl tLF) a0))], [], 0⟩ _ _
 refine HT.rg2 [oH] ⟨[(0, .one (.dat (.sl tLF) a0))], [], 0⟩ hX (by kernel_rfl) aN ?_
 refine HT.rg2 [oH] ⟨[(0, .one (.dat (.sl tLF) a0)), (3, iV (0 : Int))], [], 0⟩ hX (by kernel_rfl) aN ?_
 refine HT.seq ?_
 refine HT.rg2 (oHs 3) ⟨[(0, .one (.dat (.sl tLF) a0)), (3, iV (0 : Int)), (9, .one (.dat (.sl tLF) a0)), (10, iV (lenI a0)), (11, iV (0 : Int))], [], 0⟩ hX (by kernel_rfl) aN ?_
 refine HT.block ?_
 obtain ⟨r2, hL22, hr⟩ := of_bind hr
 refine HT.loopL (fun (s1 : Int × Int) => ⟨[(0, .one (.dat (.sl tLF) a0)), (3, iV s1.1), (9, .one (.dat (.sl tLF) a0)), (10, iV (lenI a0)), (11, iV s1.2)], [], 0⟩) (fun (r3 : Int) => (.exit 0, ⟨[(0, .one (.dat (.sl tLF) a0)), (3, iV r3)], [], 0⟩)) (Le.re [] [] hX (by kernel_rfl)) hL22 ?_ (fun s1 x16 hx17 hk18 => ?_)
 ·refine (qBlockX (qThen ?_))
  obtain ⟨y4, hc5, hr⟩ := of_bind hr
  refine HT.rg2 [oH, ⟨none, .call [.nl, .imm tI] [⟨true, tLF, y4⟩] []⟩, oH] ⟨[(0, .one (.dat (.sl tLF) a0)), (6, aV 0)], [(0, .seq tF y4)], 1⟩ hX (by kernel_rfl) (aC (f101_nl0_ok hc5) aN) ?_
  refine HT.seq ?_
  refine HT.rg2 (oHs 3) ⟨[(6, aV 0), (25, .one (.dat (.sl tLF) a0)), (26, iV (lenI a0)), (27, iV (0 : Int))], [(0, .seq tF y4)], 1⟩ hX (by kernel_rfl) aN ?_
  refine HT.block ?_
  obtain ⟨r7, hL15, hr⟩ := of_bind hr
  refine HT.loopL (fun (s6 : Int × List Nat) => ⟨[(6, aV 0), (25, .one (.dat (.sl tLF) a0)), (26, iV (lenI a0)), (27, iV s6.1)], [(0, .seq tF s6.2)], 1⟩) (fun (r8 : List Nat) => (.exit 2, ⟨[(6, aV 0)], [(0, .seq tF r8)], 1⟩)) (Le.re [(0, 0)] [] hX (by kernel_rfl)) hL15 ?_ (fun s6 x9 hx10 hk11 => ?_)
  ·refine (qBlockX (qThen ?_))
   refine HT.rg2 (oHs 2) ⟨[(2, aV 0)], [(0, .seq tF r7)], 1⟩ hX (by kernel_rfl) aN ?_
   have hr := of_some hr
   subst hr
   exact HT.ret ⟨[aV 0], [0], [], by kernel_rfl, by kernel_rfl, rfl, by kernel_rfl, by kernel_rfl, trivial⟩
  ·refine HT.rg2 [oH] ⟨[(6, aV 0), (25, .one (.dat (.sl tLF) a0)), (26, iV (lenI a0)), (27, iV s6.1), (28, bV (decide (s6.1 < (lenI a0))))], [(0, .seq tF s6.2)], 1⟩ hX (by kernel_rfl) aN ?_
   refine HT.seq ?_
   rcases of_bif hx10 with ⟨hb12, hx10⟩ | ⟨hb12, hx10⟩
   ·refine HT.cond1 rfl hb12 ?_
    refine HT.skip (qThen ?_)
    refine HT.seq ?_
    refine HT.block ?_
    obtain ⟨hg13, hx10⟩ := of_guard hx10
    refine HT.rg2 (oHs 3) ⟨[(6, aV 0), (8, lV (List.getD a0 (Int.toNat s6.1) ([] : List Nat))), (25, .one (.dat (.sl tLF) a0)), (26, iV (lenI a0)), (27, iV s6.1)], [(0, .seq tF s6.2)], 1⟩ hX (by kernel_rfl) (aC hg13 aN) ?_
    obtain ⟨hg14, hx10⟩ := of_guard hx10
    refine HT.rgL [oH, oH, ⟨none, .ty tF⟩, oH] ⟨[(6, aV 1), (25, .one (.dat (.sl tLF) a0)), (26, iV (lenI a0)), (27, iV s6.1)], [(1, .seq tF (s6.2 ++ (List.getD a0 (Int.toNat s6.1) ([] : List Nat))))], 2⟩ hX (by kernel_rfl) (aC hg14 aN) (qBlock (qThen ?_))
    have hx10 := of_some hx10
    subst hx10
    exact HT.rgK (oHs 2) [(1, 0)] [] hX (by kernel_rfl) aN (fun _ h => (qLoopN ⟨((wadd .i64 s6.1 (1 : Int)), (s6.2 ++ (List.getD a0 (Int.toNat s6.1) ([] : List Nat)))), rfl, h⟩))
   ·refine HT.cond0 rfl hb12 ?_
    have hx10 := of_some hx10
    subst hx10
    exact HT.exitL (Le.re [(0, 0)] [] hX (by kernel_rfl)) (qThenE (qLoopE (hk11 s6.2 rfl)))
 ·refine HT.rg2 [oH] ⟨[(0, .one (.dat (.sl tLF) a0)), (3, iV s1.1), (9, .one (.dat (.sl tLF) a0)), (10, iV (lenI a0)), (11, iV s1.2), (12, bV (decide (s1.2 < (lenI a0))))], [], 0⟩ hX (by kernel_rfl) aN ?_
  refine HT.seq ?_
  rcases of_bif hx17 with ⟨hb19, hx17⟩ | ⟨hb19, hx17⟩
  ·refine HT.cond1 rfl hb19 ?_
   refine HT.skip (qThen ?_)
   refine HT.seq ?_
   refine HT.block ?_
   obtain ⟨hg20, hx17⟩ := of_guard hx17
   refine HT.rg2 (oHs 3) ⟨[(0, .one (.dat (.sl tLF) a0)), (3, iV s1.1), (5, lV (List.getD a0 (Int.toNat s1.2) ([] : List Nat))), (9, .one (.dat (.sl tLF) a0)), (10, iV (lenI a0)), (11, iV s1.2)], [], 0⟩ hX (by kernel_rfl) (aC hg20 aN) ?_
   refine HT.rg2 (oHs 5) ⟨[(0, .one (.dat (.sl tLF) a0)), (3, iV (wadd .i64 s1.1 (lenI (List.getD a0 (Int.toNat s1.2) ([] : List Nat))))), (9, .one (.dat (.sl tLF) a0)), (10, iV (lenI a0)), (11, iV s1.2)], [], 0⟩ hX (by kernel_rfl) aN ?_
   refine HT.rg2 (oHs 2) ⟨[(0, .one (.dat (.sl tLF) a0)), (3, iV (wadd .i64 s1.1 (lenI (List.getD a0 (Int.toNat s1.2) ([] : List Nat))))), (9, .one (.dat (.sl tLF) a0)), (10, iV (lenI a0)), (11, iV s1.2), (20, bV (decide ((wadd .i64 s1.1 (lenI (List.getD a0 (Int.toNat s1.2) ([] : List Nat)))) < (0 : Int))))], [], 0⟩ hX (by kernel_rfl) aN ?_
   rcases of_bif hx17 with ⟨hb21, hx17⟩ | ⟨hb21, hx17⟩
   ·refine HT.cond1 rfl hb21 ?_
    cases hx17
   ·refine HT.cond0 rfl hb21 ?_
    refine HT.skip (qBlock (qThen ?_))
    have hx17 := of_some hx17
    subst hx17
    exact HT.rgK (oHs 2) [] [] hX (by kernel_rfl) aN (fun _ h => (qLoopN ⟨((wadd .i64 s1.1 (lenI (List.getD a0 (Int.toNat s1.2) ([] : List Nat)))), (wadd .i64 s1.2 (1 : Int))), rfl, h⟩))
  ·refine HT.cond0 rfl hb19 ?_
   have hx17 := of_some hx17
   subst hx17
   exact HT.exitL (Le.re [] [] hX (by kernel_rfl)) (qThenE (qLoopE (hk18 s1.1 rfl)))

noncomputable def impl_areFinite_1 (a0 : Nat) : Option (Bool) :=
 (impl_IsFinite a0).bind fun y1 =>
 some (!y1)

theorem f100_ok {a0 : Nat} {r : Bool} (hr : impl_areFinite_1 a0 = some r) : CallOK Try.prog 100 [.imm tF a0] [⟨false, .bool, r⟩] [] := by
 unfold impl_areFinite_1 at hr
 refine CallOK.of_body (ts := [(false, .bool)]) Try.func100 rfl (by kernel_rfl) (Nat.le_of_ble_eq_true (by kernel_rfl)) fun cx hP hN hO hF => ?_
 have hO : cx.own.map Prod.fst = [] := hO
 have hX := CxIs.mk hP hN hO
 have hF := hF rfl
 show HT cx ⟨[(0, fV a0)], [], 0⟩ _ _
 refine HT.rg2 [oH] ⟨[(0, fV a0)], [], 0⟩ hX (by kernel_rfl) aN ?_
 obtain ⟨y1, hc2, hr⟩ := of_bind hr
 refine HT.rg2 [oH, ⟨none, .call [.imm tF] [⟨false, .bool, y1⟩] []⟩, oH, oH] ⟨[(2, bV (!y1))], [], 0⟩ hX (by kernel_rfl) (aC (f84_ok hc2) aN) ?_
 have hr := of_some hr
 subst hr
 exact HT.ret ⟨[bV (!y1)], [], [], by kernel_rfl, by kernel_rfl, rfl, by kernel_rfl, by kernel_rfl, trivial⟩

noncomputable def slices_IndexFunc___float32_float32_fn1_impl_areFinite_1_B1 (a0 : List Nat) (s1 : Int) : Option ((Int) ⊕ (Unit ⊕ Int)) :=
 bif (decide (s1 < (lenI a0))) then
  guardP ((0 : Int) ≤ s1 ∧ s1 < lenI a0) (
   (impl_areFinite_1 (List.getD a0 (Int.toNat s1) (0 : Nat))).bind fun y10 =>
   bif y10 then
    some (.inr (.inr s1))
   else
    some (.inl (wadd .i64 s1 (1 : Int))))
 else
  some (.inr (.inl ()))

noncomputable def slices_IndexFunc___float32_float32_fn1_impl_areFinite_1 (a0 : List Nat) : Option (Int) :=
 (rounds (slices_IndexFunc___float32_float32_fn1_impl_areFinite_1_B1 a0) (0 : Int)).bind fun r2 => match r2 with
  | .inl r3 =>
   some (-1 : Int)
  | .inr r4 =>
   some r4

theorem f128_fn1_impl_areFinite_1_ok {a0 : List Nat} {r : Int} (hr : slices_IndexFunc___float32_float32_fn1_impl_areFinite_1 a0 = some r) : CallOK Try.prog 128 [.imm tLF a0, .fn 100] [⟨false, tI, r⟩] [] := by
 unfold slices_IndexFunc___float32_float32_fn1_impl_areFinite_1 at hr
 refine CallOK.of_body (ts := [(false, tI)]) Try.func128 rfl (by kernel_rfl) (Nat.le_of_ble_eq_true (by kernel_rfl)) fun cx hP hN hO hF => ?_
 have hO : cx.own.map Prod.fst = [] := hO
 have hX := CxIs.mk hP hN hO
 have hF := hF rfl
 show HT cx ⟨[(0, lV a0), (1, .one (.fn 100))], [], 0⟩ _ _
 refine HT.rg2 [oH] ⟨[(0, lV a0), (1, .one (.fn 100))], [], 0⟩ hX (by kernel_rfl) aN ?_
 refine HT.seq ?_
 refine HT.rg2 (oHs 3) ⟨[(0, lV a0), (1, .one (.fn 100)), (7, iV (lenI a0)), (8, iV (0 : Int))], [], 0⟩ hX (by kernel_rfl) aN ?_
 refine HT.block ?_
 obtain ⟨r2, hL13, hr⟩ := of_bind hr
 refine HT.loopL (fun (s1 : Int) => ⟨[(0, lV a0), (1, .one (.fn 100)), (7, iV (lenI a0)), (8, iV s1)], [], 0⟩) (fun (r2 : Unit ⊕ Int) => match r2 with | .inl r3 => (.exit 0, ⟨[], [], 0⟩) | .inr r4 => (.ret, ⟨[(4, iV r4)], [], 0⟩)) (Le.re [] [] hX (by kernel_rfl)) hL13 ?_ (fun s1 x5 hx6 hk7 => ?_)
 ·rcases r2 with r3 | r4
  ·refine (qBlockX (qThen ?_))
   refine HT.rg2 [oH] ⟨[(4, iV (-1 : Int))], [], 0⟩ hX (by kernel_rfl) aN ?_
   have hr := of_some hr
   subst hr
   exact HT.ret ⟨[iV (-1 : Int)], [], [], by kernel_rfl, by kernel_rfl, rfl, by kernel_rfl, by kernel_rfl, trivial⟩
  ·have hr := of_some hr
   subst hr
   exact (qBlockR (qThenR ⟨[iV r4], [], [], by kernel_rfl, by kernel_rfl, rfl, by kernel_rfl, by kernel_rfl, trivial⟩))
 ·refine HT.rg2 [oH] ⟨[(0, lV a0), (1, .one (.fn 100)), (7, iV (lenI a0)), (8, iV s1), (9, bV (decide (s1 < (lenI a0))))], [], 0⟩ hX (by kernel_rfl) aN ?_
  refine HT.seq ?_
  rcases of_bif hx6 with ⟨hb8, hx6⟩ | ⟨hb8, hx6⟩
  ·refine HT.cond1 rfl hb8 ?_
   refine HT.skip (qThen ?_)
   refine HT.seq ?_
   refine HT.block ?_
   refine HT.rg2 (oHs 2) ⟨[(0, lV a0), (1, .one (.fn 100)), (5, iV s1), (7, iV (lenI a0)), (8, iV s1)], [], 0⟩ hX (by kernel_rfl) aN ?_
   obtain ⟨hg9, hx6⟩ := of_guard hx6
   obtain ⟨y10, hc11, hx6⟩ := of_bind hx6
   refine HT.rg2 [oH, oH, oH, oH, oH, ⟨none, .call [.imm tF] [⟨false, .bool, y10⟩] []⟩] ⟨[(0, lV a0), (1, .one (.fn 100)), (5, iV s1), (7, iV (lenI a0)), (8, iV s1), (16, bV y10)], [], 0⟩ hX (by kernel_rfl) (aC hg9 (aC (f100_ok hc11) aN)) ?_
   rcases of_bif hx6 with ⟨hb12, hx6⟩ | ⟨hb12, hx6⟩
   ·refine HT.cond1 rfl hb12 ?_
    refine HT.rg2 (oHs 2) ⟨[(4, iV s1)], [], 0⟩ hX (by kernel_rfl) aN ?_
    have hx6 := of_some hx6
    subst hx6
    exact HT.retL (Le.re [] [] hX (by kernel_rfl)) (qBlockR (qThenR (qLoopR (hk7 (.inr s1) rfl))))
   ·refine HT.cond0 rfl hb12 ?_
    refine HT.skip (qBlock (qThen ?_))
    have hx6 := of_some hx6
    subst hx6
    exact HT.rgK (oHs 2) [] [] hX (by kernel_rfl) aN (fun _ h => (qLoopN ⟨(wadd .i64 s1 (1 : Int)), rfl, h⟩))
  ·refine HT.cond0 rfl hb8 ?_
   have hx6 := of_some hx6
   subst hx6
   exact HT.exitL (Le.re [] [] hX (by kernel_rfl)) (qThenE (qLoopE (hk7 (.inl ()) rfl)))

noncomputable def slices_ContainsFunc___float32_float32_fn1_impl_areFinite_1 (a0 : List Nat) : Option (Bool) :=
 (slices_IndexFunc___float32_float32_fn1_impl_areFinite_1 a0).bind fun y1 =>
 some (decide (y1 ≥ (0 : Int)))

theorem f99_fn1_impl_areFinite_1_ok {a0 : List Nat} {r : Bool} (hr : slices_ContainsFunc___float32_float32_fn1_impl_areFinite_1 a0 = some r) : CallOK Try.prog 99 [.imm tLF a0, .fn 100] [⟨false, .bool, r⟩] [] := by
 unfold slices_ContainsFunc___float32_float32_fn1_impl_areFinite_1 at hr
 refine CallOK.of_body (ts := [(false, .bool)]) Try.func99 rfl (by kernel_rfl) (Nat.le_of_ble_eq_true (by kernel_rfl)) fun cx hP hN hO hF => ?_
 have hO : cx.own.map Prod.fst = [] := hO
 have hX := CxIs.mk hP hN hO
 have hF := hF rfl
 show HT cx ⟨[(0, lV a0), (1, .one (.fn 100))], [], 0⟩ _ _
 refine HT.rg2 [oH] ⟨[(0, lV a0), (1, .one (.fn 100))], [], 0⟩ hX (by kernel_rfl) aN ?_
 obtain ⟨y1, hc2, hr⟩ := of_bind hr
 refine HT.rg2 [oH, oH, ⟨none, .call [.imm tLF, .fn] [⟨false, tI, y1⟩] []⟩, oH, oH] ⟨[(4, bV (decide (y1 ≥ (0 : Int))))], [], 0⟩ hX (by kernel_rfl) (aC (f128_fn1_impl_areFinite_1_ok hc2) aN) ?_
 have hr := of_some hr
 subst hr
 exact HT.ret ⟨[bV (decide (y1 ≥ (0 : Int)))], [], [], by kernel_rfl, by kernel_rfl, rfl, by kernel_rfl, by kernel_rfl, trivial⟩

noncomputable def impl_areFinite (a0 : List Nat) : Option (Bool) :=
 (slices_ContainsFunc___float32_float32_fn1_impl_areFinite_1 a0).bind fun y1 =>
 some (!y1)

theorem f46_ok {a0 : List Nat} {r : Bool} (hr : impl_areFinite a0 = some r) : CallOK Try.prog 46 [.imm tLF a0] [⟨false, .bool, r⟩] [] := by
 unfold impl_areFinite at hr
 refine CallOK.of_body (ts := [(false, .bool)]) Try.func46 rfl (by kernel_rfl) (Nat.le_of_ble_eq_true (by kernel_rfl)) fun cx hP hN hO hF => ?_
 have hO : cx.own.map Prod.fst = [] := hO
 have hX := CxIs.mk hP hN hO
 have hF := hF rfl
 show HT cx ⟨[(0, lV a0)], [], 0⟩ _ _
 refine HT.rg2 [oH] ⟨[(0, lV a0)], [], 0⟩ hX (by kernel_rfl) aN ?_
 obtain ⟨y1, hc2, hr⟩ := of_bind hr
 refine HT.rg2 [oH, ⟨none, .call [.imm tLF, .fn] [⟨false, .bool, y1⟩] []⟩, oH, oH] ⟨[(2, bV (!y1))], [], 0⟩ hX (by kernel_rfl) (aC (f99_fn1_impl_areFinite_1_ok hc2) aN) ?_
 have hr := of_some hr
 subst hr
 exact HT.ret ⟨[bV (!y1)], [], [], by kernel_rfl, by kernel_rfl, rfl, by kernel_rfl, by kernel_rfl, trivial⟩

noncomputable def impl_finiteList_mv0 (a0 : List Nat) : Option (List Nat × Bool) :=
 (impl_areFinite a0).bind fun y1 =>
 bif (!y1) then
  some (([] : List Nat), false)
 else
  some (a0, true)

theorem f61_mv0_ok {a0 : List Nat} {r : List Nat × Bool} (hr : impl_finiteList_mv0 a0 = some r) : CallOK Try.prog 61 [.mv tLF a0] [⟨true, tLF, r.1⟩, ⟨false, .bool, r.2⟩] [] := by
 unfold impl_finiteList_mv0 at hr
 refine CallOK.of_body (ts := [(true, tLF), (false, .bool)]) Try.func61 rfl (by kernel_rfl) (Nat.le_of_ble_eq_true (by kernel_rfl)) fun cx hP hN hO hF => ?_
 have hO : cx.own.map Prod.fst = [] := hO
 have hX := CxIs.mk hP hN hO
 show HT cx ⟨[(0, aV 0)], [(0, .seq tF a0)], 1⟩ _ _
 refine HT.rg2 (oHs 2) ⟨[(0, aV 0)], [(0, .seq tF a0)], 1⟩ hX (by kernel_rfl) aN ?_
 refine HT.seq ?_
 obtain ⟨y1, hc2, hr⟩ := of_bind hr
 refine HT.rg2 [oH, ⟨none, .call [.imm tLF] [⟨false, .bool, y1⟩] []⟩, oH] ⟨[(0, aV 0), (6, bV (!y1))], [(0, .seq tF a0)], 1⟩ hX (by kernel_rfl) (aC (f46_ok hc2) aN) ?_
 rcases of_bif hr with ⟨hb3, hr⟩ | ⟨hb3, hr⟩
 ·refine HT.cond1 rfl hb3 ?_
  refine HT.rg2 (oHs 2) ⟨[(2, .one (.nilS)), (3, bV false)], [], 1⟩ hX (by kernel_rfl) aN ?_
  have hr := of_some hr
  subst hr
  exact HT.ret (qThenR ⟨[.one (.nilS), bV false], [], [], by kernel_rfl, by kernel_rfl, rfl, by kernel_rfl, by kernel_rfl, trivial⟩)
 ·refine HT.cond0 rfl hb3 ?_
  refine HT.skip (qThen ?_)
  refine HT.rg2 (oHs 3) ⟨[(2, aV 0), (3, bV true)], [(0, .seq tF a0)], 1⟩ hX (by kernel_rfl) aN ?_
  have hr := of_some hr
  subst hr
  exact HT.ret ⟨[aV 0, bV true], [0], [], by kernel_rfl, by kernel_rfl, rfl, by kernel_rfl, by kernel_rfl, trivial⟩

noncomputable def impl_ForwardOf (a0 : Int × Int × List Nat × List Nat × List Nat) (a1 : List Int) : Option (List Nat × Bool) :=
 (impl_Model_has (a0.1, a0.2.1, a0.2.2.1, a0.2.2.2.1, a0.2.2.2.2) a1).bind fun y1 =>
 bif (!y1) then
  some (([] : List Nat), false)
 else
  (impl_Model_forward (a0.1, a0.2.1, a0.2.2.1, a0.2.2.2.1, a0.2.2.2.2) a1).bind fun y4 =>
  (slices_Concat___float32_float32 y4).bind fun y6 =>
  (impl_finiteList_mv0 y6).bind fun y8 =>
  some (y8.1, y8.2)

theorem f18_ok {a0 : Int × Int × List Nat × List Nat × List Nat} {a1 : List Int} {r : List Nat × Bool} (hr : impl_ForwardOf a0 a1 = some r) : CallOK Try.prog 18 [.imm (.st (.pair tI (.pair tI (.pair tLF (.pair tLF tLF))))) a0, .imm tLI a1] [⟨true, tLF, r.1⟩, ⟨false, .bool, r.2⟩] [] := by
 unfold impl_ForwardOf at hr
 refine CallOK.of_body (ts := [(true, tLF), (false, .bool)]) Try.func18 rfl (by kernel_rfl) (Nat.le_of_ble_eq_true (by kernel_rfl)) fun cx hP hN hO hF => ?_
 have hO : cx.own.map Prod.fst = [] := hO
 have hX := CxIs.mk hP hN hO
 have hF := hF rfl
 show HT cx ⟨[(0, .agg [iC a0.1, iC a0.2.1, lC a0.2.2.1, lC a0.2.2.2.1, lC a0.2.2.2.2]), (1, nV a1)], [], 0⟩ _ _
 refine HT.rg2 (oHs 3) ⟨[(1, nV a1), (2, pV 0 0)], [(0, .box [iC a0.1, iC a0.2.1, lC a0.2.2.1, lC a0.2.2.2.1, lC a0.2.2.2.2])], 1⟩ hX (by kernel_rfl) aN ?_
 refine HT.seq ?_
 obtain ⟨y1, hc2, hr⟩ := of_bind hr
 refine HT.rg2 [oH, oH, ⟨none, .call [.imm (.st (.pair tI (.pair tI (.pair tLF (.pair tLF tLF))))), .imm tLI] [⟨false, .bool, y1⟩] []⟩, oH] ⟨[(1, nV a1), (2, pV 0 0), (9, bV (!y1))], [(0, .box [iC a0.1, iC a0.2.1, lC a0.2.2.1, lC a0.2.2.2.1, lC a0.2.2.2.2])], 1⟩ hX (by kernel_rfl) (aC (f55_ok hc2) aN) ?_
 rcases of_bif hr with ⟨hb3, hr⟩ | ⟨hb3, hr⟩
 ·refine HT.cond1 rfl hb3 ?_
  refine HT.rg2 (oHs 2) ⟨[(4, .one (.nilS)), (5, bV false)], [], 1⟩ hX (by kernel_rfl) aN ?_
  have hr := of_some hr
  subst hr
  exact HT.ret (qThenR ⟨[.one (.nilS), bV false], [], [], by kernel_rfl, by kernel_rfl, rfl, by kernel_rfl, by kernel_rfl, trivial⟩)
 ·refine HT.cond0 rfl hb3 ?_
  refine HT.skip (qThen ?_)
  obtain ⟨y4, hc5, hr⟩ := of_bind hr
  obtain ⟨y6, hc7, hr⟩ := of_bind hr
  obtain ⟨y8, hc9, hr⟩ := of_bind hr
  refine HT.rg2 [oH, oH, ⟨none, .call [.imm (.st (.pair tI (.pair tI (.pair tLF (.pair tLF tLF))))), .imm tLI] [⟨false, (.sl tLF), y4⟩] []⟩, ⟨none, .call [.imm (.sl tLF)] [⟨true, tLF, y6⟩] []⟩, ⟨none, .call [.mv tLF] [⟨true, tLF, y8.1⟩, ⟨false, .bool, y8.2⟩] []⟩, oH, oH, oH, oH] ⟨[(4, aV 2), (5, bV y8.2)], [(2, .seq tF y8.1)], 3⟩ hX (by kernel_rfl) (aC (f62_ok hc5) (aC (f47_ok hc7) (aC (f61_mv0_ok hc9) aN))) ?_
  have hr := of_some hr
  subst hr
  exact HT.ret ⟨[aV 2, bV y8.2], [2], [], by kernel_rfl, by kernel_rfl, rfl, by kernel_rfl, by kernel_rfl, trivial⟩

noncomputable def math_bits_Mul64 (a0 : Int) (a1 : Int) : Option (Int × Int) :=
 (some (IntKind.wrap .u64 (BitVec.ofInt (IntKind.bits .u64) a0 &&& BitVec.ofInt (IntKind.bits .u64) (4294967295 : Int)).toNat)).bind fun q1 =>
 (some (IntKind.wrap .u64 (BitVec.ofInt (IntKind.bits .u64) a1 &&& BitVec.ofInt (IntKind.bits .u64) (4294967295 : Int)).toNat)).bind fun q3 =>
 (some (wadd .u64 (wmul .u64 (Int.fdiv a0 (2 ^ (min (Int.toNat (32 : Int)) (IntKind.bits .u64)))) q3) (Int.fdiv (wmul .u64 q1 q3) (2 ^ (min (Int.toNat (32 : Int)) (IntKind.bits .u64)))))).bind fun q5 =>
 (some (IntKind.wrap .u64 (BitVec.ofInt (IntKind.bits .u64) q5 &&& BitVec.ofInt (IntKind.bits .u64) (4294967295 : Int)).toNat)).bind fun q7 =>
 (some (wadd .u64 q7 (wmul .u64 q1 (Int.fdiv a1 (2 ^ (min (Int.toNat (32 : Int)) (IntKind.bits .u64))))))).bind fun q9 =>
 (some (wadd .u64 (wadd .u64 (wmul .u64 (Int.fdiv a0 (2 ^ (min (Int.toNat (32 : Int)) (IntKind.bits .u64)))) (Int.fdiv a1 (2 ^ (min (Int.toNat (32 : Int)) (IntKind.bits .u64))))) (Int.fdiv q5 (2 ^ (min (Int.toNat (32 : Int)) (IntKind.bits .u64))))) (Int.fdiv q9 (2 ^ (min (Int.toNat (32 : Int)) (IntKind.bits .u64)))))).bind fun q11 =>
 some (q11, (wmul .u64 a0 a1))

theorem f138_ok {a0 : Int} {a1 : Int} {r : Int × Int} (hr : math_bits_Mul64 a0 a1 = some r) : CallOK Try.prog 138 [.imm (.int .u64) a0, .imm (.int .u64) a1] [⟨false, (.int .u64), r.1⟩, ⟨false, (.int .u64), r.2⟩] [] := by
 unfold math_bits_Mul64 at hr
 refine CallOK.of_body (ts := [(false, (.int .u64)), (false, (.int .u64))]) Try.func138 rfl (by kernel_rfl) (Nat.le_of_ble_eq_true (by kernel_rfl)) fun cx hP hN hO hF => ?_
 have hO : cx.own.map Prod.fst = [] := hO
 have hX := CxIs.mk hP hN hO
 have hF := hF rfl
 show HT cx ⟨[(0, .one (.dat (.int .u64) a0)), (1, .one (.dat (.int .u64) a1))], [], 0⟩ _ _
 refine HT.rg2 (oHs 2) ⟨[(0, .one (.dat (.int .u64) a0)), (1, .one (.dat (.int .u64) a1))], [], 0⟩ hX (by kernel_rfl) aN ?_
 refine HT.rg2 (oHs 3) ⟨[(0, .one (.dat (.int .u64) a0)), (1, .one (.dat (.int .u64) a1)), (6, .one (.dat (.int .u64) (IntKind.wrap .u64 (BitVec.ofInt (IntKind.bits .u64) a0 &&& BitVec.ofInt (IntKind.bits .u64) (4294967295 : Int)).toNat)))], [], 0⟩ hX (by kernel_rfl) aN ?_
 obtain ⟨q1, hq2, hr⟩ := of_bind hr
 have hq2 := of_some2 hq2
 refine (Le.cv (s := ⟨[], [], [], false⟩) (own := []) (ps := [a0 = a0, a1 = a1, q1 = (IntKind.wrap .u64 (BitVec.ofInt (IntKind.bits .u64) a0 &&& BitVec.ofInt (IntKind.bits .u64) (4294967295 : Int)).toNat)]) (st' := ⟨[(0, .one (.dat (.int .u64) a0)), (1, .one (.dat (.int .u64) a1)), (6, .one (.dat (.int .u64) q1))], [], 0⟩) hO (fun h => by cases h) (by kernel_rfl) ⟨rfl, rfl, hq2, trivial⟩).ht ?_
 refine HT.rg2 (oHs 3) ⟨[(0, .one (.dat (.int .u64) a0)), (1, .one (.dat (.int .u64) a1)), (6, .one (.dat (.int .u64) q1)), (7, .one (.dat (.int .u64) (Int.fdiv a0 (2 ^ (min (Int.toNat (32 : Int)) (IntKind.bits .u64))))))], [], 0⟩ hX (by kernel_rfl) (aC (show (0 : Int) ≤ (32 : Int) from by decide) aN) ?_
 refine HT.rg2 (oHs 3) ⟨[(0, .one (.dat (.int .u64) a0)), (1, .one (.dat (.int .u64) a1)), (6, .one (.dat (.int .u64) q1)), (7, .one (.dat (.int .u64) (Int.fdiv a0 (2 ^ (min (Int.toNat (32 : Int)) (IntKind.bits .u64)))))), (8, .one (.dat (.int .u64) (IntKind.wrap .u64 (BitVec.ofInt (IntKind.bits .u64) a1 &&& BitVec.ofInt (IntKind.bits .u64) (4294967295 : Int)).toNat)))], [], 0⟩ hX (by kernel_rfl) aN ?_
 obtain ⟨q3, hq4, hr⟩ := of_bind hr
 have hq4 := of_some2 hq4
 refine (Le.cv (s := ⟨[], [], [], false⟩) (own := []) (ps := [a0 = a0, a1 = a1, q1 = q1, (Int.fdiv a0 (2 ^ (min (Int.toNat (32 : Int)) (IntKind.bits .u64)))) = (Int.fdiv a0 (2 ^ (min (Int.toNat (32 : Int)) (IntKind.bits .u64)))), q3 = (IntKind.wrap .u64 (BitVec.ofInt (IntKind.bits .u64) a1 &&& BitVec.ofInt (IntKind.bits .u64) (4294967295 : Int)).toNat)]) (st' := ⟨[(0, .one (.dat (.int .u64) a0)), (1, .one (.dat (.int .u64) a1)), (6, .one (.dat (.int .u64) q1)), (7, .one (.dat (.int .u64) (Int.fdiv a0 (2 ^ (min (Int.toNat (32 : Int)) (IntKind.bits .u64)))))), (8, .one (.dat (.int .u64) q3))], [], 0⟩) hO (fun h => by cases h) (by kernel_rfl) ⟨rfl, rfl, rfl, rfl, hq4, trivial⟩).ht ?_
 refine HT.rg2 (oHs 3) ⟨[(0, .one (.dat (.int .u64) a0)), (1, .one (.dat (.int .u64) a1)), (6, .one (.dat (.int .u64) q1)), (7, .one (.dat (.int .u64) (Int.fdiv a0 (2 ^ (min (Int.toNat (32 : Int)) (IntKind.bits .u64)))))), (8, .one (.dat (.int .u64) q3)), (9, .one (.dat (.int .u64) (Int.fdiv a1 (2 ^ (min (Int.toNat (32 : Int)) (IntKind.bits .u64))))))], [], 0⟩ hX (by kernel_rfl) (aC (show (0 : Int) ≤ (32 : Int) from by decide) aN) ?_
 refine HT.rg2 (oHs 4) ⟨[(0, .one (.dat (.int .u64) a0)), (1, .one (.dat (.int .u64) a1)), (6, .one (.dat (.int .u64) q1)), (7, .one (.dat (.int .u64) (Int.fdiv a0 (2 ^ (min (Int.toNat (32 : Int)) (IntKind.bits .u64)))))), (8, .one (.dat (.int .u64) q3)), (9, .one (.dat (.int .u64) (Int.fdiv a1 (2 ^ (min (Int.toNat (32 : Int)) (IntKind.bits .u64)))))), (10, .one (.dat (.int .u64) (wmul .u64 q1 q3)))], [], 0⟩ hX (by kernel_rfl) aN ?_
 refine HT.rg2 (oHs 7) ⟨[(0, .one (.dat (.int .u64) a0)), (1, .one (.dat (.int .u64) a1)), (6, .one (.dat (.int .u64) q1)), (7, .one (.dat (.int .u64) (Int.fdiv a0 (2 ^ (min (Int.toNat (32 : Int)) (IntKind.bits .u64)))))), (9, .one (.dat (.int .u64) (Int.fdiv a1 (2 ^ (min (Int.toNat (32 : Int)) (IntKind.bits .u64)))))), (11, .one (.dat (.int .u64) (wadd .u64 (wmul .u64 (Int.fdiv a0 (2 ^ (min (Int.toNat (32 : Int)) (IntKind.bits .u64)))) q3) (Int.fdiv (wmul .u64 q1 q3) (2 ^ (min (Int.toNat (32 : Int)) (IntKind.bits .u64)))))))], [], 0⟩ hX (by kernel_rfl) (aC (show (0 : Int) ≤ (32 : Int) from by decide) aN) ?_
 obtain ⟨q5, hq6, hr⟩ := of_bind hr
 have hq6 := of_some2 hq6
 refine (Le.cv (s := ⟨[], [], [], false⟩) (own := []) (ps := [a0 = a0, a1 = a1, q1 = q1, (Int.fdiv a0 (2 ^ (min (Int.toNat (32 : Int)) (IntKind.bits .u64)))) = (Int.fdiv a0 (2 ^ (min (Int.toNat (32 : Int)) (IntKind.bits .u64)))), (Int.fdiv a1 (2 ^ (min (Int.toNat (32 : Int)) (IntKind.bits .u64)))) = (Int.fdiv a1 (2 ^ (min (Int.toNat (32 : Int)) (IntKind.bits .u64)))), q5 = (wadd .u64 (wmul .u64 (Int.fdiv a0 (2 ^ (min (Int.toNat (32 : Int)) (IntKind.bits .u64)))) q3) (Int.fdiv (wmul .u64 q1 q3) (2 ^ (min (Int.toNat (32 : Int)) (IntKind.bits .u64)))))]) (st' := ⟨[(0, .one (.dat (.int .u64) a0)), (1, .one (.dat (.int .u64) a1)), (6, .one (.dat (.int .u64) q1)), (7, .one (.dat (.int .u64) (Int.fdiv a0 (2 ^ (min (Int.toNat (32 : Int)) (IntKind.bits .u64)))))), (9, .one (.dat (.int .u64) (Int.fdiv a1 (2 ^ (min (Int.toNat (32 : Int)) (IntKind.bits .u64)))))), (11, .one (.dat (.int .u64) q5))], [], 0⟩) hO (fun h => by cases h) (by kernel_rfl) ⟨rfl, rfl, rfl, rfl, rfl, hq6, trivial⟩).ht ?_
 refine HT.rg2 (oHs 3) ⟨[(0, .one (.dat (.int .u64) a0)), (1, .one (.dat (.int .u64) a1)), (6, .one (.dat (.int .u64) q1)), (7, .one (.dat (.int .u64) (Int.fdiv a0 (2 ^ (min (Int.toNat (32 : Int)) (IntKind.bits .u64)))))), (9, .one (.dat (.int .u64) (Int.fdiv a1 (2 ^ (min (Int.toNat (32 : Int)) (IntKind.bits .u64)))))), (11, .one (.dat (.int .u64) q5)), (12, .one (.dat (.int .u64) (IntKind.wrap .u64 (BitVec.ofInt (IntKind.bits .u64) q5 &&& BitVec.ofInt (IntKind.bits .u64) (4294967295 : Int)).toNat)))], [], 0⟩ hX (by kernel_rfl) aN ?_
 obtain ⟨q7, hq8, hr⟩ := of_bind hr
 have hq8 := of_some2 hq8
 refine (Le.cv (s := ⟨[], [], [], false⟩) (own := []) (ps := [a0 = a0, a1 = a1, q1 = q1, (Int.fdiv a0 (2 ^ (min (Int.toNat (32 : Int)) (IntKind.bits .u64)))) = (Int.fdiv a0 (2 ^ (min (Int.toNat (32 : Int)) (IntKind.bits .u64)))), (Int.fdiv a1 (2 ^ (min (Int.toNat (32 : Int)) (IntKind.bits .u64)))) = (Int.fdiv a1 (2 ^ (min (Int.toNat (32 : Int)) (IntKind.bits .u64)))), q5 = q5, q7 = (IntKind.wrap .u64 (BitVec.ofInt (IntKind.bits .u64) q5 &&& BitVec.ofInt (IntKind.bits .u64) (4294967295 : Int)).toNat)]) (st' := ⟨[(0, .one (.dat (.int .u64) a0)), (1, .one (.dat (.int .u64) a1)), (6, .one (.dat (.int .u64) q1)), (7, .one (.dat (.int .u64) (Int.fdiv a0 (2 ^ (min (Int.toNat (32 : Int)) (IntKind.bits .u64)))))), (9, .one (.dat (.int .u64) (Int.fdiv a1 (2 ^ (min (Int.toNat (32 : Int)) (IntKind.bits .u64)))))), (11, .one (.dat (.int .u64) q5)), (12, .one (.dat (.int .u64) q7))], [], 0⟩) hO (fun h => by cases h) (by kernel_rfl) ⟨rfl, rfl, rfl, rfl, rfl, rfl, hq8, trivial⟩).ht ?_
 refine HT.rg2 (oHs 3) ⟨[(0, .one (.dat (.int .u64) a0)), (1, .one (.dat (.int .u64) a1)), (6, .one (.dat (.int .u64) q1)), (7, .one (.dat (.int .u64) (Int.fdiv a0 (2 ^ (min (Int.toNat (32 : Int)) (IntKind.bits .u64)))))), (9, .one (.dat (.int .u64) (Int.fdiv a1 (2 ^ (min (Int.toNat (32 : Int)) (IntKind.bits .u64)))))), (12, .one (.dat (.int .u64) q7)), (13, .one (.dat (.int .u64) (Int.fdiv q5 (2 ^ (min (Int.toNat (32 : Int)) (IntKind.bits .u64))))))], [], 0⟩ hX (by kernel_rfl) (aC (show (0 : Int) ≤ (32 : Int) from by decide) aN) ?_
 refine HT.rg2 (oHs 6) ⟨[(0, .one (.dat (.int .u64) a0)), (1, .one (.dat (.int .u64) a1)), (7, .one (.dat (.int .u64) (Int.fdiv a0 (2 ^ (min (Int.toNat (32 : Int)) (IntKind.bits .u64)))))), (9, .one (.dat (.int .u64) (Int.fdiv a1 (2 ^ (min (Int.toNat (32 : Int)) (IntKind.bits .u64)))))), (12, .one (.dat (.int .u64) (wadd .u64 q7 (wmul .u64 q1 (Int.fdiv a1 (2 ^ (min (Int.toNat (32 : Int)) (IntKind.bits .u64)))))))), (13, .one (.dat (.int .u64) (Int.fdiv q5 (2 ^ (min (Int.toNat (32 : Int)) (IntKind.bits .u64))))))], [], 0⟩ hX (by kernel_rfl) aN ?_
 obtain ⟨q9, hq10, hr⟩ := of_bind hr
 have hq10 := of_some2 hq10
 refine (Le.cv (s := ⟨[], [], [], false⟩) (own := []) (ps := [a0 = a0, a1 = a1, (Int.fdiv a0 (2 ^ (min (Int.toNat (32 : Int)) (IntKind.bits .u64)))) = (Int.fdiv a0 (2 ^ (min (Int.toNat (32 : Int)) (IntKind.bits .u64)))), (Int.fdiv a1 (2 ^ (min (Int.toNat (32 : Int)) (IntKind.bits .u64)))) = (Int.fdiv a1 (2 ^ (min (Int.toNat (32 : Int)) (IntKind.bits .u64)))), q9 = (wadd .u64 q7 (wmul .u64 q1 (Int.fdiv a1 (2 ^ (min (Int.toNat (32 : Int)) (IntKind.bits .u64)))))), (Int.fdiv q5 (2 ^ (min (Int.toNat (32 : Int)) (IntKind.bits .u64)))) = (Int.fdiv q5 (2 ^ (min (Int.toNat (32 : Int)) (IntKind.bits .u64))))]) (st' := ⟨[(0, .one (.dat (.int .u64) a0)), (1, .one (.dat (.int .u64) a1)), (7, .one (.dat (.int .u64) (Int.fdiv a0 (2 ^ (min (Int.toNat (32 : Int)) (IntKind.bits .u64)))))), (9, .one (.dat (.int .u64) (Int.fdiv a1 (2 ^ (min (Int.toNat (32 : Int)) (IntKind.bits .u64)))))), (12, .one (.dat (.int .u64) q9)), (13, .one (.dat (.int .u64) (Int.fdiv q5 (2 ^ (min (Int.toNat (32 : Int)) (IntKind.bits .u64))))))], [], 0⟩) hO (fun h => by cases h) (by kernel_rfl) ⟨rfl, rfl, rfl, rfl, hq10, rfl, trivial⟩).ht ?_
 refine HT.rg2 (oHs 9) ⟨[(0, .one (.dat (.int .u64) a0)), (1, .one (.dat (.int .u64) a1)), (4, .one (.dat (.int .u64) (wadd .u64 (wadd .u64 (wmul .u64 (Int.fdiv a0 (2 ^ (min (Int.toNat (32 : Int)) (IntKind.bits .u64)))) (Int.fdiv a1 (2 ^ (min (Int.toNat (32 : Int)) (IntKind.bits .u64))))) (Int.fdiv q5 (2 ^ (min (Int.toNat (32 : Int)) (IntKind.bits .u64))))) (Int.fdiv q9 (2 ^ (min (Int.toNat (32 : Int)) (IntKind.bits .u64)))))))], [], 0⟩ hX (by kernel_rfl) (aC (show (0 : Int) ≤ (32 : Int) from by decide) aN) ?_
 obtain ⟨q11, hq12, hr⟩ := of_bind hr
 have hq12 := of_some2 hq12
 refine (Le.cv (s := ⟨[], [], [], false⟩) (own := []) (ps := [a0 = a0, a1 = a1, q11 = (wadd .u64 (wadd .u64 (wmul .u64 (Int.fdiv a0 (2 ^ (min (Int.toNat (32 : Int)) (IntKind.bits .u64)))) (Int.fdiv a1 (2 ^ (min (Int.toNat (32 : Int)) (IntKind.bits .u64))))) (Int.fdiv q5 (2 ^ (min (Int.toNat (32 : Int)) (IntKind.bits .u64))))) (Int.fdiv q9 (2 ^ (min (Int.toNat (32 : Int)) (IntKind.bits .u64)))))]) (st' := ⟨[(0, .one (.dat (.int .u64) a0)), (1, .one (.dat (.int .u64) a1)), (4, .one (.dat (.int .u64) q11))], [], 0⟩) hO (fun h => by cases h) (by kernel_rfl) ⟨rfl, rfl, hq12, trivial⟩).ht ?_
 refine HT.rg2 (oHs 4) ⟨[(4, .one (.dat (.int .u64) q11)), (5, .one (.dat (.int .u64) (wmul .u64 a0 a1)))], [], 0⟩ hX (by kernel_rfl) aN ?_
 have hr := of_some hr
 subst hr
 exact HT.ret ⟨[.one (.dat (.int .u64) q11), .one (.dat (.int .u64) (wmul .u64 a0 a1))], [], [], by kernel_rfl, by kernel_rfl, rfl, by kernel_rfl, by kernel_rfl, trivial⟩

noncomputable def math_bits_Mul (a0 : Int) (a1 : Int) : Option (Int × Int) :=
 (math_bits_Mul64 a0 a1).bind fun y1 =>
 some (y1.1, y1.2)

theorem f124_ok {a0 : Int} {a1 : Int} {r : Int × Int} (hr : math_bits_Mul a0 a1 = some r) : CallOK Try.prog 124 [.imm (.int .u64) a0, .imm (.int .u64) a1] [⟨false, (.int .u64), r.1⟩, ⟨false, (.int .u64), r.2⟩] [] := by
 unfold math_bits_Mul at hr
 refine CallOK.of_body (ts := [(false, (.int .u64)), (false, (.int .u64))]) Try.func124 rfl (by kernel_rfl) (Nat.le_of_ble_eq_true (by kernel_rfl)) fun cx hP hN hO hF => ?_
 have hO : cx.own.map Prod.fst = [] := hO
 have hX := CxIs.mk hP hN hO
 have hF := hF rfl
 show HT cx ⟨[(0, .one (.dat (.int .u64) a0)), (1, .one (.dat (.int .u64) a1))], [], 0⟩ _ _
 refine HT.rg2 (oHs 2) ⟨[(0, .one (.dat (.int .u64) a0)), (1, .one (.dat (.int .u64) a1))], [], 0⟩ hX (by kernel_rfl) aN ?_
 refine HT.seq ?_
 refine HT.cond0 rfl (rfl : false = false) ?_
 refine HT.skip (qThen ?_)
 obtain ⟨y1, hc2, hr⟩ := of_bind hr
 refine HT.rg2 [oH, oH, ⟨none, .call [.imm (.int .u64), .imm (.int .u64)] [⟨false, (.int .u64), y1.1⟩, ⟨false, (.int .u64), y1.2⟩] []⟩, oH, oH, oH, oH, oH] ⟨[(8, .one (.dat (.int .u64) y1.1)), (9, .one (.dat (.int .u64) y1.2))], [], 0⟩ hX (by kernel_rfl) (aC (f138_ok hc2) aN) ?_
 refine HT.rg2 (oHs 4) ⟨[(4, .one (.dat (.int .u64) y1.1)), (5, .one (.dat (.int .u64) y1.2))], [], 0⟩ hX (by kernel_rfl) aN ?_
 have hr := of_some hr
 subst hr
 exact HT.ret ⟨[.one (.dat (.int .u64) y1.1), .one (.dat (.int .u64) y1.2)], [], [], by kernel_rfl, by kernel_rfl, rfl, by kernel_rfl, by kernel_rfl, trivial⟩

noncomputable def slices_Repeat___float32_float32_B1  (s13 : Int × List Nat) : Option ((Int × List Nat) ⊕ (List Nat)) :=
 bif (decide (s13.1 < (lenI s13.2))) then
  guardP ((0 : Int) ≤ s13.1 ∧ s13.1 ≤ lenI s13.2) (
   some (.inl ((wadd .i64 s13.1 ((Nat.min (List.length (List.take (Int.toNat s13.1) (List.drop 0 s13.2))) (Int.toNat (lenI s13.2) - Int.toNat s13.1) : Nat) : Int)), (List.take (Int.toNat s13.1) s13.2 ++ List.take (Nat.min (List.length (List.take (Int.toNat s13.1) (List.drop 0 s13.2))) (Int.toNat (lenI s13.2) - Int.toNat s13.1)) (List.take (Int.toNat s13.1) (List.drop 0 s13.2)) ++ List.drop ((Int.toNat s13.1) + Nat.min (List.length (List.take (Int.toNat s13.1) (List.drop 0 s13.2))) (Int.toNat (lenI s13.2) - Int.toNat s13.1)) s13.2))))
 else
  some (.inr s13.2)

noncomputable def slices_Repeat___float32_float32 (a0 : List Nat) (a1 : Int) : Option (List Nat) :=
 bif (decide (a1 < (0 : Int))) then
  none
 else
  (math_bits_Mul (IntKind.wrap .u64 (lenI a0)) (IntKind.wrap .u64 a1)).bind fun y2 =>
  (show Option (Bool) from
   bif (decide (y2.1 > (0 : Int))) then
    some true
   else
    some (decide (y2.2 > (9223372036854775807 : Int)))).bind fun v4 =>
  bif v4 then
   none
  else
   guardP ((0 : Int) ≤ (IntKind.wrap .i64 y2.2) ∧ (IntKind.wrap .i64 y2.2) ≤ 4294967296) (
    (some ((Nat.min (List.length a0) (List.length (List.replicate (Int.toNat (IntKind.wrap .i64 y2.2)) (0 : Nat))) : Nat) : Int)).bind fun q9 =>
    (some (List.take 0 (List.replicate (Int.toNat (IntKind.wrap .i64 y2.2)) (0 : Nat)) ++ List.take (Nat.min (List.length a0) (List.length (List.replicate (Int.toNat (IntKind.wrap .i64 y2.2)) (0 : Nat)))) a0 ++ List.drop (0 + Nat.min (List.length a0) (List.length (List.replicate (Int.toNat (IntKind.wrap .i64 y2.2)) (0 : Nat)))) (List.replicate (Int.toNat (IntKind.wrap .i64 y2.2)) (0 : Nat)))).bind fun q11 =>
    (rounds (slices_Repeat___float32_float32_B1) (q9, q11)).bind fun r15 =>
    some r15)

theorem f85_ok {a0 : List Nat} {a1 : Int} {r : List Nat} (hr : slices_Repeat___float32_float32 a0 a1 = some r) : CallOK Try.prog 85 [.imm tLF a0, .imm tI a1] [⟨true, tLF, r⟩] [] := by
 unfold slices_Repeat___float32_float32 at hr
 refine CallOK.of_body (ts := [(true, tLF)]) Try.func85 rfl (by kernel_rfl) (Nat.le_of_ble_eq_true (by kernel_rfl)) fun cx hP hN hO hF => ?_
 have hO : cx.own.map Prod.fst = [] := hO
 have hX := CxIs.mk hP hN hO
 have hF := hF rfl
 show HT cx ⟨[(0, lV a0), (1, iV a1)], [], 0⟩ _ _
 refine HT.rg2 [oH] ⟨[(0, lV a0), (1, iV a1)], [], 0⟩ hX (by kernel_rfl) aN ?_
 refine HT.seq ?_
 refine HT.rg2 (oHs 2) ⟨[(0, lV a0), (1, iV a1), (10, bV (decide (a1 < (0 : Int))))], [], 0⟩ hX (by kernel_rfl) aN ?_
 rcases of_bif hr with ⟨hb1, hr⟩ | ⟨hb1, hr⟩
 ·refine HT.cond1 rfl hb1 ?_
  cases hr
 ·refine HT.cond0 rfl hb1 ?_
  refine HT.skip (qThen ?_)
  obtain ⟨y2, hc3, hr⟩ := of_bind hr
  refine HT.rg2 [oH, oH, oH, oH, oH, ⟨none, .call [.imm (.int .u64), .imm (.int .u64)] [⟨false, (.int .u64), y2.1⟩, ⟨false, (.int .u64), y2.2⟩] []⟩, oH, oH, oH, oH, oH] ⟨[(0, lV a0), (5, .one (.dat (.int .u64) y2.1)), (6, .one (.dat (.int .u64) y2.2))], [], 0⟩ hX (by kernel_rfl) (aC (f124_ok hc3) aN) ?_
  refine HT.seq ?_
  obtain ⟨v4', hT6, hr⟩ := of_bind hr
  refine HT.join (fun (v4 : Bool) => ⟨[(0, lV a0), (6, .one (.dat (.int .u64) y2.2)), (26, bV v4)], [], 0⟩) (fun v => v = v4') (fun v4 hv5 => ?_) (fun cont => ?_)
  ·subst hv5
   rcases of_bif hr with ⟨hb7, hr⟩ | ⟨hb7, hr⟩
   ·refine HT.cond1 rfl hb7 ?_
    cases hr
   ·refine HT.cond0 rfl hb7 ?_
    refine HT.skip (qThen ?_)
    obtain ⟨hg8, hr⟩ := of_guard hr
    refine HT.rg2 [oH, oH, ⟨none, .ty tF⟩, oH] ⟨[(0, lV a0), (7, aV 0)], [(0, .seq tF (List.replicate (Int.toNat (IntKind.wrap .i64 y2.2)) (0 : Nat)))], 1⟩ hX (by kernel_rfl) (aC (show (0 : Int) ≤ (IntKind.wrap .i64 y2.2) ∧ (IntKind.wrap .i64 y2.2) ≤ (IntKind.wrap .i64 y2.2) ∧ (IntKind.wrap .i64 y2.2) ≤ 4294967296 from ⟨hg8.1, Int.le_refl _, hg8.2⟩) aN) ?_
    refine HT.rg2 (oHs 4) ⟨[(7, aV 0), (8, iV ((Nat.min (List.length a0) (List.length (List.replicate (Int.toNat (IntKind.wrap .i64 y2.2)) (0 : Nat))) : Nat) : Int))], [(0, .seq tF (List.take 0 (List.replicate (Int.toNat (IntKind.wrap .i64 y2.2)) (0 : Nat)) ++ List.take (Nat.min (List.length a0) (List.length (List.replicate (Int.toNat (IntKind.wrap .i64 y2.2)) (0 : Nat)))) a0 ++ List.drop (0 + Nat.min (List.length a0) (List.length (List.replicate (Int.toNat (IntKind.wrap .i64 y2.2)) (0 : Nat)))) (List.replicate (Int.toNat (IntKind.wrap .i64 y2.2)) (0 : Nat))))], 1⟩ hX (by kernel_rfl) aN ?_
    obtain ⟨q9, hq10, hr⟩ := of_bind hr
    have hq10 := of_some2 hq10
    obtain ⟨q11, hq12, hr⟩ := of_bind hr
    have hq12 := of_some2 hq12
    refine (Le.cv (s := ⟨[(0, 0)], [], [], false⟩) (own := []) (ps := [q9 = ((Nat.min (List.length a0) (List.length (List.replicate (Int.toNat (IntKind.wrap .i64 y2.2)) (0 : Nat))) : Nat) : Int), q11 = (List.take 0 (List.replicate (Int.toNat (IntKind.wrap .i64 y2.2)) (0 : Nat)) ++ List.take (Nat.min (List.length a0) (List.length (List.replicate (Int.toNat (IntKind.wrap .i64 y2.2)) (0 : Nat)))) a0 ++ List.drop (0 + Nat.min (List.length a0) (List.length (List.replicate (Int.toNat (IntKind.wrap .i64 y2.2)) (0 : Nat)))) (List.replicate (Int.toNat (IntKind.wrap .i64 y2.2)) (0 : Nat)))]) (st' := ⟨[(7, aV 0), (8, iV q9)], [(0, .seq tF q11)], 1⟩) hO (fun h => by cases h) (by kernel_rfl) ⟨hq10, hq12, trivial⟩).ht ?_
    refine HT.seq ?_
    refine HT.block ?_
    obtain ⟨r14, hL21, hr⟩ := of_bind hr
    refine HT.loopL (fun (s13 : Int × List Nat) => ⟨[(7, aV 0), (8, iV s13.1)], [(0, .seq tF s13.2)], 1⟩) (fun (r15 : List Nat) => (.exit 0, ⟨[(7, aV 0)], [(0, .seq tF r15)], 1⟩)) (Le.re [(0, 0)] [] hX (by kernel_rfl)) hL21 ?_ (fun s13 x16 hx17 hk18 => ?_)
    ·refine (qBlockX (qThen ?_))
     refine HT.rg2 (oHs 2) ⟨[(4, aV 0)], [(0, .seq tF r14)], 1⟩ hX (by kernel_rfl) aN ?_
     have hr := of_some hr
     subst hr
     exact HT.ret ⟨[aV 0], [0], [], by kernel_rfl, by kernel_rfl, rfl, by kernel_rfl, by kernel_rfl, trivial⟩
    ·refine HT.seq ?_
     refine HT.rg2 (oHs 4) ⟨[(7, aV 0), (8, iV s13.1), (37, bV (decide (s13.1 < (lenI s13.2))))], [(0, .seq tF s13.2)], 1⟩ hX (by kernel_rfl) aN ?_
     rcases of_bif hx17 with ⟨hb19, hx17⟩ | ⟨hb19, hx17⟩
     ·refine HT.cond1 rfl hb19 ?_
      refine HT.skip (qThen ?_)
      refine HT.block ?_
      obtain ⟨hg20, hx17⟩ := of_guard hx17
      have hx17 := of_some hx17
      subst hx17
      exact HT.drK 8 [⟨oH, []⟩, ⟨oH, []⟩, ⟨oH, []⟩, ⟨oH, [1, 2]⟩, ⟨oH, []⟩, ⟨oH, []⟩, ⟨oH, [4, 5]⟩, ⟨oH, [1, 2, 3, 4, 5, 6]⟩] [[0, 1, 2, 3, 4, 5, 6, 7], [0, 1, 2, 3, 4, 5, 6, 7, 8]] (oHs 2) [(0, 0)] [] hX (by kernel_rfl) (by kernel_rfl) (aC (show (0 : Int) ≤ s13.1 ∧ s13.1 ≤ lenI s13.2 ∧ lenI s13.2 ≤ lenI s13.2 from ⟨hg20.1, hg20.2, Int.le_refl _⟩) (aC (show (0 : Int) ≤ 0 ∧ (0 : Int) ≤ s13.1 ∧ s13.1 ≤ lenI s13.2 from ⟨Int.le_refl _, hg20.1, hg20.2⟩) aN)) (fun _ h => (qBlock (qLoopN ⟨((wadd .i64 s13.1 ((Nat.min (List.length (List.take (Int.toNat s13.1) (List.drop 0 s13.2))) (Int.toNat (lenI s13.2) - Int.toNat s13.1) : Nat) : Int)), (List.take (Int.toNat s13.1) s13.2 ++ List.take (Nat.min (List.length (List.take (Int.toNat s13.1) (List.drop 0 s13.2))) (Int.toNat (lenI s13.2) - Int.toNat s13.1)) (List.take (Int.toNat s13.1) (List.drop 0 s13.2)) ++ List.drop ((Int.toNat s13.1) + Nat.min (List.length (List.take (Int.toNat s13.1) (List.drop 0 s13.2))) (Int.toNat (lenI s13.2) - Int.toNat s13.1)) s13.2)), rfl, h⟩)))
     ·refine HT.cond0 rfl hb19 ?_
      have hx17 := of_some hx17
      subst hx17
      exact HT.exitL (Le.re [(0, 0)] [] hX (by kernel_rfl)) (qThenE (qLoopE (hk18 s13.2 rfl)))
  ·rcases of_bif hT6 with ⟨hb22, hT6⟩ | ⟨hb22, hT6⟩
   ·exact HT.rgK [oH, oH, oH, oT, oT, vT] [] [] hX (by kernel_rfl) (aC hb22 (aC hb22 (aC hb22 aN))) (fun _ h => (qThen (h.ht (cont true (of_some hT6)))))
   ·exact HT.rgK [oH, oH, oH, oF, oF, vF] [] [] hX (by kernel_rfl) (aC hb22 (aC hb22 (aC hb22 aN))) (fun _ h => (qThen (h.ht (cont (decide (y2.2 > (9223372036854775807 : Int))) (of_some hT6)))))

noncomputable def impl_Model_backward_B1 (a0 : Int × Int × List Nat × List Nat × List Nat) (a1 : List Int) (s7 : Int × List (List Nat)) (s15 : Int × List Nat) (s23 : Int × List Nat) : Option ((Int × List Nat) ⊕ (List Nat)) :=
 bif (decide (s23.1 < a0.1)) then
  guardP ((0 : Int) ≤ s15.1 ∧ s15.1 < lenI s23.2) (
   guardP ((0 : Int) ≤ s7.1 ∧ s7.1 < lenI a1) (
    (impl_Model_show (a0.1, a0.2.1, a0.2.2.1, a0.2.2.2.1, a0.2.2.2.2) s15.1 (List.getD a1 (Int.toNat s7.1) (0 : Int))).bind fun y32 =>
    (impl_Model_step (a0.1, a0.2.1, a0.2.2.1, a0.2.2.2.1, a0.2.2.2.2) s15.1 s23.1).bind fun y34 =>
    guardP ((0 : Int) ≤ (wadd .i64 s7.1 (1 : Int)) ∧ (wadd .i64 s7.1 (1 : Int)) < lenI s7.2) (
     guardP ((0 : Int) ≤ s23.1 ∧ s23.1 < lenI (List.getD s7.2 (Int.toNat (wadd .i64 s7.1 (1 : Int))) ([] : List Nat))) (
      some (.inl ((wadd .i64 s23.1 (1 : Int)), (List.set s23.2 (Int.toNat s15.1) (fop .add .f32 (List.getD s23.2 (Int.toNat s15.1) (0 : Nat)) (fop .mul .f32 (fop .mul .f32 y32 y34) (List.getD (List.getD s7.2 (Int.toNat (wadd .i64 s7.1 (1 : Int))) ([] : List Nat)) (Int.toNat s23.1) (0 : Nat)))))))))))
 else
  some (.inr s23.2)

noncomputable def impl_Model_backward_B2 (a0 : Int × Int × List Nat × List Nat × List Nat) (a1 : List Int) (s7 : Int × List (List Nat)) (s15 : Int × List Nat) : Option ((Int × List Nat) ⊕ (List Nat)) :=
 bif (decide (s15.1 < a0.1)) then
  (rounds (impl_Model_backward_B1 a0 a1 s7 s15) ((0 : Int), s15.2)).bind fun r25 =>
  some (.inl ((wadd .i64 s15.1 (1 : Int)), r25))
 else
  some (.inr s15.2)

noncomputable def impl_Model_backward_B3 (a0 : Int × Int × List Nat × List Nat × List Nat) (a1 : List Int) (s7 : Int × List (List Nat)) : Option ((Int × List (List Nat)) ⊕ (List (List Nat))) :=
 bif (decide (s7.1 ≥ (0 : Int))) then
  guardP ((0 : Int) ≤ a0.1 ∧ a0.1 ≤ 4294967296) (
   (rounds (impl_Model_backward_B2 a0 a1 s7) ((0 : Int), (List.replicate (Int.toNat a0.1) (0 : Nat)))).bind fun r17 =>
   guardP ((0 : Int) ≤ s7.1 ∧ s7.1 < lenI s7.2) (
    some (.inl ((wsub .i64 s7.1 (1 : Int)), (List.set s7.2 (Int.toNat s7.1) r17)))))
 else
  some (.inr s7.2)

noncomputable def impl_Model_backward (a0 : Int × Int × List Nat × List Nat × List Nat) (a1 : List Int) : Option (List (List Nat)) :=
 guardP ((0 : Int) ≤ (wadd .i64 (lenI a1) (1 : Int)) ∧ (wadd .i64 (lenI a1) (1 : Int)) ≤ 4294967296) (
  (slices_Repeat___float32_float32 ([(1065353216 : Nat)] : List Nat) a0.1).bind fun y2 =>
  guardP ((0 : Int) ≤ (lenI a1) ∧ (lenI a1) < lenI (List.replicate (Int.toNat (wadd .i64 (lenI a1) (1 : Int))) ([] : List Nat))) (
   (some (List.set (List.replicate (Int.toNat (wadd .i64 (lenI a1) (1 : Int))) ([] : List Nat)) (Int.toNat (lenI a1)) y2)).bind fun q5 =>
   (rounds (impl_Model_backward_B3 a0 a1) ((wsub .i64 (lenI a1) (1 : Int)), q5)).bind fun r9 =>
   some r9))

theorem f63_ok {a0 : Int × Int × List Nat × List Nat × List Nat} {a1 : List Int} {r : List (List Nat)} (hr : impl_Model_backward a0 a1 = some r) : CallOK Try.prog 63 [.imm (.st (.pair tI (.pair tI (.pair tLF (.pair tLF tLF))))) a0, .imm tLI a1] [⟨false, (.sl tLF), r⟩] [] := by
 unfold impl_Model_backward at hr
 refine CallOK.of_body (ts := [(false, (.sl tLF))]) Try.func63 rfl (by kernel_rfl) (Nat.le_of_ble_eq_true (by kernel_rfl)) fun cx hP hN hO hF => ?_
 have hO : cx.own.map Prod.fst = [] := hO
 have hX := CxIs.mk hP hN hO
 have hF := hF rfl
 show HT cx ⟨[(0, .agg [iC a0.1, iC a0.2.1, lC a0.2.2.1, lC a0.2.2.2.1, lC a0.2.2.2.2]), (1, nV a1)], [], 0⟩ _ _
 refine HT.rg2 (oHs 2) ⟨[(1, nV a1), (2, pV 0 0)], [(0, .box [iC a0.1, iC a0.2.1, lC a0.2.2.1, lC a0.2.2.2.1, lC a0.2.2.2.2])], 1⟩ hX (by kernel_rfl) aN ?_
 refine HT.rg2 (oHs 3) ⟨[(1, nV a1), (2, pV 0 0), (5, iV (lenI a1))], [(0, .box [iC a0.1, iC a0.2.1, lC a0.2.2.1, lC a0.2.2.2.1, lC a0.2.2.2.2])], 1⟩ hX (by kernel_rfl) aN ?_
 obtain ⟨hg1, hr⟩ := of_guard hr
 refine HT.rg2 [oH, oH, ⟨none, .ty tLF⟩, oH] ⟨[(1, nV a1), (2, pV 0 0), (5, iV (lenI a1)), (6, aV 1)], [(1, .seq tLF (List.replicate (Int.toNat (wadd .i64 (lenI a1) (1 : Int))) ([] : List Nat))), (0, .box [iC a0.1, iC a0.2.1, lC a0.2.2.1, lC a0.2.2.2.1, lC a0.2.2.2.2])], 2⟩ hX (by kernel_rfl) (aC (show (0 : Int) ≤ (wadd .i64 (lenI a1) (1 : Int)) ∧ (wadd .i64 (lenI a1) (1 : Int)) ≤ (wadd .i64 (lenI a1) (1 : Int)) ∧ (wadd .i64 (lenI a1) (1 : Int)) ≤ 4294967296 from ⟨hg1.1, Int.le_refl _, hg1.2⟩) aN) ?_
 obtain ⟨y2, hc3, hr⟩ := of_bind hr
 obtain ⟨hg4, hr⟩ := of_guard hr
 refine HT.rg2 [oH, oH, ⟨none, .tyD tF⟩, oH, oH, ⟨none, .call [.imm tLF, .imm tI] [⟨false, tLF, y2⟩] []⟩, oH, oH] ⟨[(1, nV a1), (2, pV 0 0), (5, iV (lenI a1)), (6, aV 1)], [(1, .seq tLF (List.set (List.replicate (Int.toNat (wadd .i64 (lenI a1) (1 : Int))) ([] : List Nat)) (Int.toNat (lenI a1)) y2)), (0, .box [iC a0.1, iC a0.2.1, lC a0.2.2.1, lC a0.2.2.2.1, lC a0.2.2.2.2])], 2⟩ hX (by kernel_rfl) (aC (CallOK.frz [true] rfl (f85_ok hc3)) (aC hg4 (aC (natLt hg4) aN))) ?_
 obtain ⟨q5, hq6, hr⟩ := of_bind hr
 have hq6 := of_some2 hq6
 refine (Le.cv (s := ⟨[(1, 1), (0, 0)], [], [], false⟩) (own := []) (ps := [a1 = a1, (lenI a1) = (lenI a1), q5 = (List.set (List.replicate (Int.toNat (wadd .i64 (lenI a1) (1 : Int))) ([] : List Nat)) (Int.toNat (lenI a1)) y2), a0.1 = a0.1, a0.2.1 = a0.2.1, a0.2.2.1 = a0.2.2.1, a0.2.2.2.1 = a0.2.2.2.1, a0.2.2.2.2 = a0.2.2.2.2]) (st' := ⟨[(1, nV a1), (2, pV 0 0), (5, iV (lenI a1)), (6, aV 1)], [(1, .seq tLF q5), (0, .box [iC a0.1, iC a0.2.1, lC a0.2.2.1, lC a0.2.2.2.1, lC a0.2.2.2.2])], 2⟩) hO (fun h => by cases h) (by kernel_rfl) ⟨rfl, rfl, hq6, rfl, rfl, rfl, rfl, rfl, trivial⟩).ht ?_
 refine HT.seq ?_
 refine HT.rg2 (oHs 3) ⟨[(1, nV a1), (2, pV 0 0), (6, aV 1), (7, iV (wsub .i64 (lenI a1) (1 : Int)))], [(1, .seq tLF q5), (0, .box [iC a0.1, iC a0.2.1, lC a0.2.2.1, lC a0.2.2.2.1, lC a0.2.2.2.2])], 2⟩ hX (by kernel_rfl) aN ?_
 refine HT.block ?_
 obtain ⟨r8, hL40, hr⟩ := of_bind hr
 refine HT.loopL (fun (s7 : Int × List (List Nat)) => ⟨[(1, nV a1), (2, pV 0 0), (6, aV 1), (7, iV s7.1)], [(0, .box [iC a0.1, iC a0.2.1, lC a0.2.2.1, lC a0.2.2.2.1, lC a0.2.2.2.2]), (1, .seq tLF s7.2)], 2⟩) (fun (r9 : List (List Nat)) => (.exit 0, ⟨[(6, aV 0)], [(0, .seq tLF r9)], 1⟩)) (Le.re [(0, 0), (1, 1)] [] hX (by kernel_rfl)) hL40 ?_ (fun s7 x10 hx11 hk12 => ?_)
 ·refine (qBlockX (qThen ?_))
  refine HT.rg2 (oHs 2) ⟨[(4, aV 0)], [(0, .seq tLF r8)], 1⟩ hX (by kernel_rfl) aN ?_
  have hr := of_some hr
  subst hr
  refine (Le.rz [] [] (st' := ⟨[(4, .one (.dat (.sl tLF) r8))], [], 1⟩) hX hF (by kernel_rfl)).ht ?_
  exact HT.ret ⟨[.one (.dat (.sl tLF) r8)], [], [], by kernel_rfl, by kernel_rfl, rfl, by kernel_rfl, by kernel_rfl, trivial⟩
 ·refine HT.seq ?_
  refine HT.rg2 (oHs 2) ⟨[(1, nV a1), (2, pV 0 0), (6, aV 1), (7, iV s7.1), (26, bV (decide (s7.1 ≥ (0 : Int))))], [(0, .box [iC a0.1, iC a0.2.1, lC a0.2.2.1, lC a0.2.2.2.1, lC a0.2.2.2.2]), (1, .seq tLF s7.2)], 2⟩ hX (by kernel_rfl) aN ?_
  rcases of_bif hx11 with ⟨hb13, hx11⟩ | ⟨hb13, hx11⟩
  ·refine HT.cond1 rfl hb13 ?_
   refine HT.skip (qThen ?_)
   refine HT.seq ?_
   refine HT.block ?_
   obtain ⟨hg14, hx11⟩ := of_guard hx11
   refine HT.rg2 [oH, oH, ⟨none, .ty tF⟩, oH] ⟨[(1, nV a1), (2, pV 0 0), (6, aV 1), (7, iV s7.1), (8, aV 2)], [(2, .seq tF (List.replicate (Int.toNat a0.1) (0 : Nat))), (0, .box [iC a0.1, iC a0.2.1, lC a0.2.2.1, lC a0.2.2.2.1, lC a0.2.2.2.2]), (1, .seq tLF s7.2)], 3⟩ hX (by kernel_rfl) (aC (show (0 : Int) ≤ a0.1 ∧ a0.1 ≤ a0.1 ∧ a0.1 ≤ 4294967296 from ⟨hg14.1, Int.le_refl _, hg14.2⟩) aN) ?_
   refine HT.seq ?_
   refine HT.rg2 (oHs 3) ⟨[(1, nV a1), (2, pV 0 0), (6, aV 1), (7, iV s7.1), (8, aV 2), (33, iV a0.1), (34, iV (0 : Int))], [(2, .seq tF (List.replicate (Int.toNat a0.1) (0 : Nat))), (0, .box [iC a0.1, iC a0.2.1, lC a0.2.2.1, lC a0.2.2.2.1, lC a0.2.2.2.2]), (1, .seq tLF s7.2)], 3⟩ hX (by kernel_rfl) aN ?_
   refine HT.block ?_
   obtain ⟨r16, hL39, hx11⟩ := of_bind hx11
   refine HT.loopL (fun (s15 : Int × List Nat) => ⟨[(1, nV a1), (2, pV 0 0), (6, aV 1), (7, iV s7.1), (8, aV 2), (33, iV a0.1), (34, iV s15.1)], [(0, .box [iC a0.1, iC a0.2.1, lC a0.2.2.1, lC a0.2.2.2.1, lC a0.2.2.2.2]), (1, .seq tLF s7.2), (2, .seq tF s15.2)], 3⟩) (fun (r17 : List Nat) => (.exit 2, ⟨[(1, nV a1), (2, pV 0 0), (6, aV 1), (7, iV s7.1), (8, aV 2)], [(0, .box [iC a0.1, iC a0.2.1, lC a0.2.2.1, lC a0.2.2.2.1, lC a0.2.2.2.2]), (1, .seq tLF s7.2), (2, .seq tF r17)], 3⟩)) (Le.re [(0, 0), (1, 1), (2, 2)] [] hX (by kernel_rfl)) hL39 ?_ (fun s15 x19 hx20 hk21 => ?_)
   ·refine (qBlockX (qThen ?_))
    refine (Le.rz [(0, 0), (1, 1)] [] (st' := ⟨[(1, nV a1), (2, pV 0 0), (6, aV 1), (7, iV s7.1), (8, lV r16)], [(0, .box [iC a0.1, iC a0.2.1, lC a0.2.2.1, lC a0.2.2.2.1, lC a0.2.2.2.2]), (1, .seq tLF s7.2)], 3⟩) hX hF (by kernel_rfl)).ht ?_
    obtain ⟨hg18, hx11⟩ := of_guard hx11
    refine HT.rgL (oHs 5) ⟨[(1, nV a1), (2, pV 0 0), (6, aV 1), (7, iV s7.1)], [(1, .seq tLF (List.set s7.2 (Int.toNat s7.1) r16)), (0, .box [iC a0.1, iC a0.2.1, lC a0.2.2.1, lC a0.2.2.2.1, lC a0.2.2.2.2])], 3⟩ hX (by kernel_rfl) (aC hg18 (aC (natLt hg18) aN)) (qBlock (qThen ?_))
    have hx11 := of_some hx11
    subst hx11
    exact HT.rgK (oHs 3) [(0, 0), (1, 1)] [] hX (by kernel_rfl) aN (fun _ h => (qLoopN ⟨((wsub .i64 s7.1 (1 : Int)), (List.set s7.2 (Int.toNat s7.1) r16)), rfl, h⟩))
   ·refine HT.rg2 [oH] ⟨[(1, nV a1), (2, pV 0 0), (6, aV 1), (7, iV s7.1), (8, aV 2), (33, iV a0.1), (34, iV s15.1), (35, bV (decide (s15.1 < a0.1)))], [(0, .box [iC a0.1, iC a0.2.1, lC a0.2.2.1, lC a0.2.2.2.1, lC a0.2.2.2.2]), (1, .seq tLF s7.2), (2, .seq tF s15.2)], 3⟩ hX (by kernel_rfl) aN ?_
    refine HT.seq ?_
    rcases of_bif hx20 with ⟨hb22, hx20⟩ | ⟨hb22, hx20⟩
    ·refine HT.cond1 rfl hb22 ?_
     refine HT.skip (qThen ?_)
     refine HT.seq ?_
     refine HT.block ?_
     refine HT.rg2 (oHs 2) ⟨[(1, nV a1), (2, pV 0 0), (6, aV 1), (7, iV s7.1), (8, aV 2), (9, iV s15.1), (33, iV a0.1), (34, iV s15.1)], [(0, .box [iC a0.1, iC a0.2.1, lC a0.2.2.1, lC a0.2.2.2.1, lC a0.2.2.2.2]), (1, .seq tLF s7.2), (2, .seq tF s15.2)], 3⟩ hX (by kernel_rfl) aN ?_
     refine HT.rg2 (oHs 3) ⟨[(1, nV a1), (2, pV 0 0), (6, aV 1), (7, iV s7.1), (8, aV 2), (9, iV s15.1), (33, iV a0.1), (34, iV s15.1), (38, iV a0.1), (39, iV (0 : Int))], [(0, .box [iC a0.1, iC a0.2.1, lC a0.2.2.1, lC a0.2.2.2.1, lC a0.2.2.2.2]), (1, .seq tLF s7.2), (2, .seq tF s15.2)], 3⟩ hX (by kernel_rfl) aN ?_
     refine HT.block ?_
     obtain ⟨r24, hL38, hx20⟩ := of_bind hx20
     refine HT.loopL (fun (s23 : Int × List Nat) => ⟨[(1, nV a1), (2, pV 0 0), (6, aV 1), (7, iV s7.1), (8, aV 2), (9, iV s15.1), (33, iV a0.1), (34, iV s15.1), (38, iV a0.1), (39, iV s23.1)], [(0, .box [iC a0.1, iC a0.2.1, lC a0.2.2.1, lC a0.2.2.2.1, lC a0.2.2.2.2]), (1, .seq tLF s7.2), (2, .seq tF s23.2)], 3⟩) (fun (r25 : List Nat) => (.exit 4, ⟨[(1, nV a1), (2, pV 0 0), (6, aV 1), (7, iV s7.1), (8, aV 2), (33, iV a0.1), (34, iV s15.1)], [(0, .box [iC a0.1, iC a0.2.1, lC a0.2.2.1, lC a0.2.2.2.1, lC a0.2.2.2.2]), (1, .seq tLF s7.2), (2, .seq tF r25)], 3⟩)) (Le.re [(0, 0), (1, 1), (2, 2)] [] hX (by kernel_rfl)) hL38 ?_ (fun s23 x26 hx27 hk28 => ?_)
     ·refine (qBlockX (qBlock (qThen ?_)))
      have hx20 := of_some hx20
      subst hx20
      exact HT.rgK (oHs 2) [(0, 0), (1, 1), (2, 2)] [] hX (by kernel_rfl) aN (fun _ h => (qLoopN ⟨((wadd .i64 s15.1 (1 : Int)), r24), rfl, h⟩))
     ·refine HT.rg2 [oH] ⟨[(1, nV a1), (2, pV 0 0), (6, aV 1), (7, iV s7.1), (8, aV 2), (9, iV s15.1), (33, iV a0.1), (34, iV s15.1), (38, iV a0.1), (39, iV s23.1), (40, bV (decide (s23.1 < a0.1)))], [(0, .box [iC a0.1, iC a0.2.1, lC a0.2.2.1, lC a0.2.2.2.1, lC a0.2.2.2.2]), (1, .seq tLF s7.2), (2, .seq tF s23.2)], 3⟩ hX (by kernel_rfl) aN ?_
      refine HT.seq ?_
      rcases of_bif hx27 with ⟨hb29, hx27⟩ | ⟨hb29, hx27⟩
      ·refine HT.cond1 rfl hb29 ?_
       refine HT.skip (qThen ?_)
       refine HT.seq ?_
       refine HT.block ?_
       refine HT.rg2 (oHs 2) ⟨[(1, nV a1), (2, pV 0 0), (6, aV 1), (7, iV s7.1), (8, aV 2), (9, iV s15.1), (10, iV s23.1), (33, iV a0.1), (34, iV s15.1), (38, iV a0.1), (39, iV s23.1)], [(0, .box [iC a0.1, iC a0.2.1, lC a0.2.2.1, lC a0.2.2.2.1, lC a0.2.2.2.2]), (1, .seq tLF s7.2), (2, .seq tF s23.2)], 3⟩ hX (by kernel_rfl) aN ?_
       obtain ⟨hg30, hx27⟩ := of_guard hx27
       obtain ⟨hg31, hx27⟩ := of_guard hx27
       obtain ⟨y32, hc33, hx27⟩ := of_bind hx27
       obtain ⟨y34, hc35, hx27⟩ := of_bind hx27
       obtain ⟨hg36, hx27⟩ := of_guard hx27
       obtain ⟨hg37, hx27⟩ := of_guard hx27
       refine HT.drL 28 [⟨oH, []⟩, ⟨oH, []⟩, ⟨oH, []⟩, ⟨oH, []⟩, ⟨oH, [2, 3]⟩, ⟨oH, [2, 3, 4]⟩, ⟨oH, []⟩, ⟨oH, []⟩, ⟨oH, []⟩, ⟨oH, []⟩, ⟨oH, [8, 9]⟩, ⟨oH, [8, 9, 10]⟩, ⟨⟨none, .call [.imm (.st (.pair tI (.pair tI (.pair tLF (.pair tLF tLF))))), .imm tI, .imm tI] [⟨false, tF, y32⟩] []⟩, [6, 7, 8, 9, 10, 11]⟩, ⟨oH, []⟩, ⟨oH, []⟩, ⟨oH, []⟩, ⟨⟨none, .call [.imm (.st (.pair tI (.pair tI (.pair tLF (.pair tLF tLF))))), .imm tI, .imm tI] [⟨false, tF, y34⟩] []⟩, [6, 7, 8, 9, 10, 11, 12, 13, 14, 15]⟩, ⟨oH, [6, 7, 8, 9, 10, 11, 12, 13, 14, 15, 16]⟩, ⟨oH, []⟩, ⟨oH, []⟩, ⟨oH, [19]⟩, ⟨oH, [18, 19, 20]⟩, ⟨oH, [18, 19, 20, 21]⟩, ⟨oH, []⟩, ⟨oH, [18, 19, 20, 21, 22, 23]⟩, ⟨oH, [18, 19, 20, 21, 22, 23, 24]⟩, ⟨oH, [6, 7, 8, 9, 10, 11, 12, 13, 14, 15, 16, 17, 18, 19, 20, 21, 22, 23, 24, 25]⟩, ⟨oH, [2, 3, 4, 5, 6, 7, 8, 9, 10, 11, 12, 13, 14, 15, 16, 17, 18, 19, 20, 21, 22, 23, 24, 25, 26]⟩] [[0, 1, 2, 3, 4, 5, 6, 7, 8, 9, 10, 11, 12, 13, 14, 15, 16, 17, 18, 19, 20, 21, 22, 23, 24, 25, 26, 27], [0, 1, 2, 3, 4, 5, 6, 7, 8, 9, 10, 11, 12, 13, 14, 15, 16, 17, 18, 19, 20, 21, 22, 23, 24, 25, 26, 27, 28]] (oHs 2) ⟨[(1, nV a1), (2, pV 0 0), (6, aV 1), (7, iV s7.1), (8, aV 2), (9, iV s15.1), (33, iV a0.1), (34, iV s15.1), (38, iV a0.1), (39, iV s23.1)], [(2, .seq tF (List.set s23.2 (Int.toNat s15.1) (fop .add .f32 (List.getD s23.2 (Int.toNat s15.1) (0 : Nat)) (fop .mul .f32 (fop .mul .f32 y32 y34) (List.getD (List.getD s7.2 (Int.toNat (wadd .i64 s7.1 (1 : Int))) ([] : List Nat)) (Int.toNat s23.1) (0 : Nat)))))), (0, .box [iC a0.1, iC a0.2.1, lC a0.2.2.1, lC a0.2.2.2.1, lC a0.2.2.2.2]), (1, .seq tLF s7.2)], 3⟩ hX (by kernel_rfl) (by kernel_rfl) (aC hg30 (aC (natLt hg30) (aC hg31 (aC (f58_ok hc33) (aC (f86_ok hc35) (aC hg36 (aC (natLt hg36) (aC hg37 (aC hg30 (aC (natLt hg30) aN)))))))))) (qBlock (qThen ?_))
       have hx27 := of_some hx27
       subst hx27
       exact HT.rgK (oHs 2) [(0, 0), (1, 1), (2, 2)] [] hX (by kernel_rfl) aN (fun _ h => (qLoopN ⟨((wadd .i64 s23.1 (1 : Int)), (List.set s23.2 (Int.toNat s15.1) (fop .add .f32 (List.getD s23.2 (Int.toNat s15.1) (0 : Nat)) (fop .mul .f32 (fop .mul .f32 y32 y34) (List.getD (List.getD s7.2 (Int.toNat (wadd .i64 s7.1 (1 : Int))) ([] : List Nat)) (Int.toNat s23.1) (0 : Nat)))))), rfl, h⟩))
      ·refine HT.cond0 rfl hb29 ?_
       have hx27 := of_some hx27
       subst hx27
       exact HT.exitL (Le.re [(0, 0), (1, 1), (2, 2)] [] hX (by kernel_rfl)) (qThenE (qLoopE (hk28 s23.2 rfl)))
    ·refine HT.cond0 rfl hb22 ?_
     have hx20 := of_some hx20
     subst hx20
     exact HT.exitL (Le.re [(0, 0), (1, 1), (2, 2)] [] hX (by kernel_rfl)) (qThenE (qLoopE (hk21 s15.2 rfl)))
  ·refine HT.cond0 rfl hb13 ?_
   have hx11 := of_some hx11
   subst hx11
   exact HT.exitL (Le.re [(1, 0)] [] hX (by kernel_rfl)) (qThenE (qLoopE (hk12 s7.2 rfl)))

noncomputable def impl_BackwardOf (a0 : Int × Int × List Nat × List Nat × List Nat) (a1 : List Int) : Option (List Nat × Bool) :=
 (impl_Model_has (a0.1, a0.2.1, a0.2.2.1, a0.2.2.2.1, a0.2.2.2.2) a1).bind fun y1 =>
 bif (!y1) then
  some (([] : List Nat), false)
 else
  (impl_Model_backward (a0.1, a0.2.1, a0.2.2.1, a0.2.2.2.1, a0.2.2.2.2) a1).bind fun y4 =>
  (slices_Concat___float32_float32 y4).bind fun y6 =>
  (impl_finiteList_mv0 y6).bind fun y8 =>
  some (y8.1, y8.2)

theorem f19_ok {a0 : Int × Int × List Nat × List Nat × List Nat} {a1 : List Int} {r : List Nat × Bool} (hr : impl_BackwardOf a0 a1 = some r) : CallOK Try.prog 19 [.imm (.st (.pair tI (.pair tI (.pair tLF (.pair tLF tLF))))) a0, .imm tLI a1] [⟨true, tLF, r.1⟩, ⟨false, .bool, r.2⟩] [] := by
 unfold impl_BackwardOf at hr
 refine CallOK.of_body (ts := [(true, tLF), (false, .bool)]) Try.func19 rfl (by kernel_rfl) (Nat.le_of_ble_eq_true (by kernel_rfl)) fun cx hP hN hO hF => ?_
 have hO : cx.own.map Prod.fst = [] := hO
 have hX := CxIs.mk hP hN hO
 have hF := hF rfl
 show HT cx ⟨[(0, .agg [iC a0.1, iC a0.2.1, lC a0.2.2.1, lC a0.2.2.2.1, lC a0.2.2.2.2]), (1, nV a1)], [], 0⟩ _ _
 refine HT.rg2 (oHs 3) ⟨[(1, nV a1), (2, pV 0 0)], [(0, .box [iC a0.1, iC a0.2.1, lC a0.2.2.1, lC a0.2.2.2.1, lC a0.2.2.2.2])], 1⟩ hX (by kernel_rfl) aN ?_
 refine HT.seq ?_
 obtain ⟨y1, hc2, hr⟩ := of_bind hr
 refine HT.rg2 [oH, oH, ⟨none, .call [.imm (.st (.pair tI (.pair tI (.pair tLF (.pair tLF tLF))))), .imm tLI] [⟨false, .bool, y1⟩] []⟩, oH] ⟨[(1, nV a1), (2, pV 0 0), (9, bV (!y1))], [(0, .box [iC a0.1, iC a0.2.1, lC a0.2.2.1, lC a0.2.2.2.1, lC a0.2.2.2.2])], 1⟩ hX (by kernel_rfl) (aC (f55_ok hc2) aN) ?_
 rcases of_bif hr with ⟨hb3, hr⟩ | ⟨hb3, hr⟩
 ·refine HT.cond1 rfl hb3 ?_
  refine HT.rg2 (oHs 2) ⟨[(4, .one (.nilS)), (5, bV false)], [], 1⟩ hX (by kernel_rfl) aN ?_
  have hr := of_some hr
  subst hr
  exact HT.ret (qThenR ⟨[.one (.nilS), bV false], [], [], by kernel_rfl, by kernel_rfl, rfl, by kernel_rfl, by kernel_rfl, trivial⟩)
 ·refine HT.cond0 rfl hb3 ?_
  refine HT.skip (qThen ?_)
  obtain ⟨y4, hc5, hr⟩ := of_bind hr
  obtain ⟨y6, hc7, hr⟩ := of_bind hr
  obtain ⟨y8, hc9, hr⟩ := of_bind hr
  refine HT.rg2 [oH, oH, ⟨none, .call [.imm (.st (.pair tI (.pair tI (.pair tLF (.pair tLF tLF))))), .imm tLI] [⟨false, (.sl tLF), y4⟩] []⟩, ⟨none, .call [.imm (.sl tLF)] [⟨true, tLF, y6⟩] []⟩, ⟨none, .call [.mv tLF] [⟨true, tLF, y8.1⟩, ⟨false, .bool, y8.2⟩] []⟩, oH, oH, oH, oH] ⟨[(4, aV 2), (5, bV y8.2)], [(2, .seq tF y8.1)], 3⟩ hX (by kernel_rfl) (aC (f63_ok hc5) (aC (f47_ok hc7) (aC (f61_mv0_ok hc9) aN))) ?_
  have hr := of_some hr
  subst hr
  exact HT.ret ⟨[aV 2, bV y8.2], [2], [], by kernel_rfl, by kernel_rfl, rfl, by kernel_rfl, by kernel_rfl, trivial⟩

noncomputable def spec_l01ExpWide_B1  (s9 : Nat × Int) : Option ((Nat × Int) ⊕ (Nat)) :=
 bif (decide (s9.2 < (8 : Int))) then
  some (.inl ((fop .mul .f64 s9.1 s9.1), (wadd .i64 s9.2 (1 : Int))))
 else
  some (.inr s9.1)

noncomputable def spec_l01ExpWide_B2 (a0 : Nat) (s6 : Nat × Int) : Option ((Nat × Int) ⊕ (Nat)) :=
 bif (decide (s6.2 ≥ (1 : Int))) then
  some (.inl ((fop .add .f64 (4607182418800017408 : Nat) (fop .quo .f64 (fop .mul .f64 (fop .quo .f64 a0 (4643211215818981376 : Nat)) s6.1) (fofint .f64 s6.2))), (wsub .i64 s6.2 (1 : Int))))
 else
  some (.inr s6.1)

noncomputable def spec_l01ExpWide (a0 : Nat) : Option (Nat) :=
 bif (!(feq .f64 a0 a0)) then
  some a0
 else
  bif (fgt .f64 a0 (4641240890982006784 : Nat)) then
   (math_Inf (1 : Int)).bind fun y3 =>
   some y3
  else
   bif (flt .f64 a0 (13864612927836782592 : Nat)) then
    some (0 : Nat)
   else
    (rounds (spec_l01ExpWide_B2 a0) ((4607182418800017408 : Nat), (12 : Int))).bind fun r8 =>
    (rounds (spec_l01ExpWide_B1) (r8, (0 : Int))).bind fun r11 =>
    some r11

theorem f111_ok {a0 : Nat} {r : Nat} (hr : spec_l01ExpWide a0 = some r) : CallOK Try.prog 111 [.imm (.flt .f64) a0] [⟨false, (.flt .f64), r⟩] [] := by
 unfold spec_l01ExpWide at hr
 refine CallOK.of_body (ts := [(false, (.flt .f64))]) Try.func111 rfl (by kernel_rfl) (Nat.le_of_ble_eq_true (by kernel_rfl)) fun cx hP hN hO hF => ?_
 have hO : cx.own.map Prod.fst = [] := hO
 have hX := CxIs.mk hP hN hO
 have hF := hF rfl
 show HT cx ⟨[(0, .one (.dat (.flt .f64) a0))], [], 0⟩ _ _
 refine HT.rg2 [oH] ⟨[(0, .one (.dat (.flt .f64) a0))], [], 0⟩ hX (by kernel_rfl) aN ?_
 refine HT.seq ?_
 refine HT.rg2 (oHs 3) ⟨[(0, .one (.dat (.flt .f64) a0)), (9, bV (!(feq .f64 a0 a0)))], [], 0⟩ hX (by kernel_rfl) aN ?_
 rcases of_bif hr with ⟨hb1, hr⟩ | ⟨hb1, hr⟩
 ·refine HT.cond1 rfl hb1 ?_
  refine HT.rg2 (oHs 2) ⟨[(2, .one (.dat (.flt .f64) a0))], [], 0⟩ hX (by kernel_rfl) aN ?_
  have hr := of_some hr
  subst hr
  exact HT.ret (qThenR ⟨[.one (.dat (.flt .f64) a0)], [], [], by kernel_rfl, by kernel_rfl, rfl, by kernel_rfl, by kernel_rfl, trivial⟩)
 ·refine HT.cond0 rfl hb1 ?_
  refine HT.skip (qThen ?_)
  refine HT.seq ?_
  refine HT.rg2 (oHs 2) ⟨[(0, .one (.dat (.flt .f64) a0)), (12, bV (fgt .f64 a0 (4641240890982006784 : Nat)))], [], 0⟩ hX (by kernel_rfl) aN ?_
  rcases of_bif hr with ⟨hb2, hr⟩ | ⟨hb2, hr⟩
  ·refine HT.cond1 rfl hb2 ?_
   obtain ⟨y3, hc4, hr⟩ := of_bind hr
   refine HT.rg2 [⟨none, .call [.imm tI] [⟨false, (.flt .f64), y3⟩] []⟩, oH] ⟨[(2, .one (.dat (.flt .f64) y3))], [], 0⟩ hX (by kernel_rfl) (aC (f104_ok hc4) aN) ?_
   have hr := of_some hr
   subst hr
   exact HT.ret (qThenR ⟨[.one (.dat (.flt .f64) y3)], [], [], by kernel_rfl, by kernel_rfl, rfl, by kernel_rfl, by kernel_rfl, trivial⟩)
  ·refine HT.cond0 rfl hb2 ?_
   refine HT.skip (qThen ?_)
   refine HT.seq ?_
   refine HT.rg2 (oHs 2) ⟨[(0, .one (.dat (.flt .f64) a0)), (15, bV (flt .f64 a0 (13864612927836782592 : Nat)))], [], 0⟩ hX (by kernel_rfl) aN ?_
   rcases of_bif hr with ⟨hb5, hr⟩ | ⟨hb5, hr⟩
   ·refine HT.cond1 rfl hb5 ?_
    refine HT.rg2 [oH] ⟨[(2, .one (.dat (.flt .f64) (0 : Nat)))], [], 0⟩ hX (by kernel_rfl) aN ?_
    have hr := of_some hr
    subst hr
    exact HT.ret (qThenR ⟨[.one (.dat (.flt .f64) (0 : Nat))], [], [], by kernel_rfl, by kernel_rfl, rfl, by kernel_rfl, by kernel_rfl, trivial⟩)
   ·refine HT.cond0 rfl hb5 ?_
    refine HT.skip (qThen ?_)
    refine HT.rg2 (oHs 3) ⟨[(3, .one (.dat (.flt .f64) (fop .quo .f64 a0 (4643211215818981376 : Nat))))], [], 0⟩ hX (by kernel_rfl) aN ?_
    refine HT.rg2 [oH] ⟨[(3, .one (.dat (.flt .f64) (fop .quo .f64 a0 (4643211215818981376 : Nat)))), (4, .one (.dat (.flt .f64) (4607182418800017408 : Nat)))], [], 0⟩ hX (by kernel_rfl) aN ?_
    refine HT.seq ?_
    refine HT.rg2 [oH] ⟨[(3, .one (.dat (.flt .f64) (fop .quo .f64 a0 (4643211215818981376 : Nat)))), (4, .one (.dat (.flt .f64) (4607182418800017408 : Nat))), (5, iV (12 : Int))], [], 0⟩ hX (by kernel_rfl) aN ?_
    refine HT.block ?_
    obtain ⟨r7, hL21, hr⟩ := of_bind hr
    refine HT.loopL (fun (s6 : Nat × Int) => ⟨[(3, .one (.dat (.flt .f64) (fop .quo .f64 a0 (4643211215818981376 : Nat)))), (4, .one (.dat (.flt .f64) s6.1)), (5, iV s6.2)], [], 0⟩) (fun (r8 : Nat) => (.exit 0, ⟨[(4, .one (.dat (.flt .f64) r8))], [], 0⟩)) (Le.re [] [] hX (by kernel_rfl)) hL21 ?_ (fun s6 x17 hx18 hk19 => ?_)
    ·refine (qBlockX (qThen ?_))
     refine HT.seq ?_
     refine HT.rg2 [oH] ⟨[(4, .one (.dat (.flt .f64) r7)), (6, iV (0 : Int))], [], 0⟩ hX (by kernel_rfl) aN ?_
     refine HT.block ?_
     obtain ⟨r10, hL16, hr⟩ := of_bind hr
     refine HT.loopL (fun (s9 : Nat × Int) => ⟨[(4, .one (.dat (.flt .f64) s9.1)), (6, iV s9.2)], [], 0⟩) (fun (r11 : Nat) => (.exit 2, ⟨[(4, .one (.dat (.flt .f64) r11))], [], 0⟩)) (Le.re [] [] hX (by kernel_rfl)) hL16 ?_ (fun s9 x12 hx13 hk14 => ?_)
     ·refine (qBlockX (qThen ?_))
      refine HT.rg2 (oHs 2) ⟨[(2, .one (.dat (.flt .f64) r10))], [], 0⟩ hX (by kernel_rfl) aN ?_
      have hr := of_some hr
      subst hr
      exact HT.ret ⟨[.one (.dat (.flt .f64) r10)], [], [], by kernel_rfl, by kernel_rfl, rfl, by kernel_rfl, by kernel_rfl, trivial⟩
     ·refine HT.seq ?_
      refine HT.rg2 (oHs 2) ⟨[(4, .one (.dat (.flt .f64) s9.1)), (6, iV s9.2), (30, bV (decide (s9.2 < (8 : Int))))], [], 0⟩ hX (by kernel_rfl) aN ?_
      rcases of_bif hx13 with ⟨hb15, hx13⟩ | ⟨hb15, hx13⟩
      ·refine HT.cond1 rfl hb15 ?_
       refine HT.skip (qThen ?_)
       refine HT.seq ?_
       refine HT.block ?_
       refine HT.rgL (oHs 4) ⟨[(4, .one (.dat (.flt .f64) (fop .mul .f64 s9.1 s9.1))), (6, iV s9.2)], [], 0⟩ hX (by kernel_rfl) aN (qBlock (qThen ?_))
       have hx13 := of_some hx13
       subst hx13
       exact HT.rgK (oHs 3) [] [] hX (by kernel_rfl) aN (fun _ h => (qLoopN ⟨((fop .mul .f64 s9.1 s9.1), (wadd .i64 s9.2 (1 : Int))), rfl, h⟩))
      ·refine HT.cond0 rfl hb15 ?_
       have hx13 := of_some hx13
       subst hx13
       exact HT.exitL (Le.re [] [] hX (by kernel_rfl)) (qThenE (qLoopE (hk14 s9.1 rfl)))
    ·refine HT.seq ?_
     refine HT.rg2 (oHs 2) ⟨[(3, .one (.dat (.flt .f64) (fop .quo .f64 a0 (4643211215818981376 : Nat)))), (4, .one (.dat (.flt .f64) s6.1)), (5, iV s6.2), (19, bV (decide (s6.2 ≥ (1 : Int))))], [], 0⟩ hX (by kernel_rfl) aN ?_
     rcases of_bif hx18 with ⟨hb20, hx18⟩ | ⟨hb20, hx18⟩
     ·refine HT.cond1 rfl hb20 ?_
      refine HT.skip (qThen ?_)
      refine HT.seq ?_
      refine HT.block ?_
      refine HT.rgL (oHs 8) ⟨[(3, .one (.dat (.flt .f64) (fop .quo .f64 a0 (4643211215818981376 : Nat)))), (4, .one (.dat (.flt .f64) (fop .add .f64 (4607182418800017408 : Nat) (fop .quo .f64 (fop .mul .f64 (fop .quo .f64 a0 (4643211215818981376 : Nat)) s6.1) (fofint .f64 s6.2))))), (5, iV s6.2)], [], 0⟩ hX (by kernel_rfl) aN (qBlock (qThen ?_))
      have hx18 := of_some hx18
      subst hx18
      exact HT.rgK (oHs 3) [] [] hX (by kernel_rfl) aN (fun _ h => (qLoopN ⟨((fop .add .f64 (4607182418800017408 : Nat) (fop .quo .f64 (fop .mul .f64 (fop .quo .f64 a0 (4643211215818981376 : Nat)) s6.1) (fofint .f64 s6.2))), (wsub .i64 s6.2 (1 : Int))), rfl, h⟩))
     ·refine HT.cond0 rfl hb20 ?_
      have hx18 := of_some hx18
      subst hx18
      exact HT.exitL (Le.re [] [] hX (by kernel_rfl)) (qThenE (qLoopE (hk19 s6.1 rfl)))

noncomputable def spec_l01Narrow (a0 : Nat) : Option (Nat) :=
 guardP (fconvOK .f64 .f32 a0 = true) (
  some (fconv .f64 .f32 a0))

theorem f110_ok {a0 : Nat} {r : Nat} (hr : spec_l01Narrow a0 = some r) : CallOK Try.prog 110 [.imm (.flt .f64) a0] [⟨false, tF, r⟩] [] := by
 unfold spec_l01Narrow at hr
 refine CallOK.of_body (ts := [(false, tF)]) Try.func110 rfl (by kernel_rfl) (Nat.le_of_ble_eq_true (by kernel_rfl)) fun cx hP hN hO hF => ?_
 have hO : cx.own.map Prod.fst = [] := hO
 have hX := CxIs.mk hP hN hO
 have hF := hF rfl
 show HT cx ⟨[(0, .one (.dat (.flt .f64) a0))], [], 0⟩ _ _
 refine HT.rg2 [oH] ⟨[(0, .one (.dat (.flt .f64) a0))], [], 0⟩ hX (by kernel_rfl) aN ?_
 obtain ⟨hg1, hr⟩ := of_guard hr
 refine HT.rg2 (oHs 3) ⟨[(2, fV (fconv .f64 .f32 a0))], [], 0⟩ hX (by kernel_rfl) (aC hg1 aN) ?_
 have hr := of_some hr
 subst hr
 exact HT.ret ⟨[fV (fconv .f64 .f32 a0)], [], [], by kernel_rfl, by kernel_rfl, rfl, by kernel_rfl, by kernel_rfl, trivial⟩

noncomputable def spec_l01Exp (a0 : Nat) : Option (Nat) :=
 (spec_l01ExpWide (fconv .f32 .f64 a0)).bind fun y1 =>
 (spec_l01Narrow y1).bind fun y3 =>
 some y3

theorem f67_ok {a0 : Nat} {r : Nat} (hr : spec_l01Exp a0 = some r) : CallOK Try.prog 67 [.imm tF a0] [⟨false, tF, r⟩] [] := by
 unfold spec_l01Exp at hr
 refine CallOK.of_body (ts := [(false, tF)]) Try.func67 rfl (by kernel_rfl) (Nat.le_of_ble_eq_true (by kernel_rfl)) fun cx hP hN hO hF => ?_
 have hO : cx.own.map Prod.fst = [] := hO
 have hX := CxIs.mk hP hN hO
 have hF := hF rfl
 show HT cx ⟨[(0, fV a0)], [], 0⟩ _ _
 refine HT.rg2 [oH] ⟨[(0, fV a0)], [], 0⟩ hX (by kernel_rfl) aN ?_
 obtain ⟨y1, hc2, hr⟩ := of_bind hr
 obtain ⟨y3, hc4, hr⟩ := of_bind hr
 refine HT.rg2 [oH, oH, ⟨none, .call [.imm (.flt .f64)] [⟨false, (.flt .f64), y1⟩] []⟩, ⟨none, .call [.imm (.flt .f64)] [⟨false, tF, y3⟩] []⟩, oH] ⟨[(2, fV y3)], [], 0⟩ hX (by kernel_rfl) (aC (show fconvOK .f32 .f64 a0 = true from (fconv_up _)) (aC (f111_ok hc2) (aC (f110_ok hc4) aN))) ?_
 have hr := of_some hr
 subst hr
 exact HT.ret ⟨[fV y3], [], [], by kernel_rfl, by kernel_rfl, rfl, by kernel_rfl, by kernel_rfl, trivial⟩

noncomputable def spec_ExpNumber (a0 : Nat) : Option (Nat) :=
 (spec_l01Exp a0).bind fun y1 =>
 some y1

theorem f23_ok {a0 : Nat} {r : Nat} (hr : spec_ExpNumber a0 = some r) : CallOK Try.prog 23 [.imm tF a0] [⟨false, tF, r⟩] [] := by
 unfold spec_ExpNumber at hr
 refine CallOK.of_body (ts := [(false, tF)]) Try.func23 rfl (by kernel_rfl) (Nat.le_of_ble_eq_true (by kernel_rfl)) fun cx hP hN hO hF => ?_
 have hO : cx.own.map Prod.fst = [] := hO
 have hX := CxIs.mk hP hN hO
 have hF := hF rfl
 show HT cx ⟨[(0, fV a0)], [], 0⟩ _ _
 refine HT.rg2 [oH] ⟨[(0, fV a0)], [], 0⟩ hX (by kernel_rfl) aN ?_
 obtain ⟨y1, hc2, hr⟩ := of_bind hr
 refine HT.rg2 [oH, ⟨none, .call [.imm tF] [⟨false, tF, y1⟩] []⟩, oH] ⟨[(2, fV y1)], [], 0⟩ hX (by kernel_rfl) (aC (f67_ok hc2) aN) ?_
 have hr := of_some hr
 subst hr
 exact HT.ret ⟨[fV y1], [], [], by kernel_rfl, by kernel_rfl, rfl, by kernel_rfl, by kernel_rfl, trivial⟩

noncomputable def laws_b10Gap (a0 : Nat) (a1 : Nat) : Option (Nat) :=
 bif (flt .f64 a0 a1) then
  some (fop .sub .f64 a1 a0)
 else
  some (fop .sub .f64 a0 a1)

theorem f22_ok {a0 : Nat} {a1 : Nat} {r : Nat} (hr : laws_b10Gap a0 a1 = some r) : CallOK Try.prog 22 [.imm (.flt .f64) a0, .imm (.flt .f64) a1] [⟨false, (.flt .f64), r⟩] [] := by
 unfold laws_b10Gap at hr
 refine CallOK.of_body (ts := [(false, (.flt .f64))]) Try.func22 rfl (by kernel_rfl) (Nat.le_of_ble_eq_true (by kernel_rfl)) fun cx hP hN hO hF => ?_
 have hO : cx.own.map Prod.fst = [] := hO
 have hX := CxIs.mk hP hN hO
 have hF := hF rfl
 show HT cx ⟨[(0, .one (.dat (.flt .f64) a0)), (1, .one (.dat (.flt .f64) a1))], [], 0⟩ _ _
 refine HT.rg2 [oH] ⟨[(0, .one (.dat (.flt .f64) a0)), (1, .one (.dat (.flt .f64) a1))], [], 0⟩ hX (by kernel_rfl) aN ?_
 refine HT.seq ?_
 refine HT.rg2 (oHs 3) ⟨[(0, .one (.dat (.flt .f64) a0)), (1, .one (.dat (.flt .f64) a1)), (7, bV (flt .f64 a0 a1))], [], 0⟩ hX (by kernel_rfl) aN ?_
 rcases of_bif hr with ⟨hb1, hr⟩ | ⟨hb1, hr⟩
 ·refine HT.cond1 rfl hb1 ?_
  refine HT.rg2 (oHs 4) ⟨[(4, .one (.dat (.flt .f64) (fop .sub .f64 a1 a0)))], [], 0⟩ hX (by kernel_rfl) aN ?_
  have hr := of_some hr
  subst hr
  exact HT.ret (qThenR ⟨[.one (.dat (.flt .f64) (fop .sub .f64 a1 a0))], [], [], by kernel_rfl, by kernel_rfl, rfl, by kernel_rfl, by kernel_rfl, trivial⟩)
 ·refine HT.cond0 rfl hb1 ?_
  refine HT.skip (qThen ?_)
  refine HT.rg2 (oHs 4) ⟨[(4, .one (.dat (.flt .f64) (fop .sub .f64 a0 a1)))], [], 0⟩ hX (by kernel_rfl) aN ?_
  have hr := of_some hr
  subst hr
  exact HT.ret ⟨[.one (.dat (.flt .f64) (fop .sub .f64 a0 a1))], [], [], by kernel_rfl, by kernel_rfl, rfl, by kernel_rfl, by kernel_rfl, trivial⟩

noncomputable def impl_NextLetters_B1 (a0 : Int × Int × List Nat × List Nat × List Nat) (a1 : List Int) (y4 : List (List Nat)) (s10 : Int × List Nat) (s19 : Nat × Int) : Option ((Nat × Int) ⊕ (Nat)) :=
 bif (decide (s19.2 < (lenI (List.getD y4 (Int.toNat (lenI a1)) ([] : List Nat))))) then
  guardP ((0 : Int) ≤ s19.2 ∧ s19.2 < lenI (List.getD y4 (Int.toNat (lenI a1)) ([] : List Nat))) (
   (impl_Model_show (a0.1, a0.2.1, a0.2.2.1, a0.2.2.2.1, a0.2.2.2.2) s19.2 s10.1).bind fun y28 =>
   some (.inl ((fop .add .f32 s19.1 (fop .mul .f32 (List.getD (List.getD y4 (Int.toNat (lenI a1)) ([] : List Nat)) (Int.toNat s19.2) (0 : Nat)) y28)), (wadd .i64 s19.2 (1 : Int)))))
 else
  some (.inr s19.1)

noncomputable def impl_NextLetters_B2 (a0 : Int × Int × List Nat × List Nat × List Nat) (a1 : List Int) (y4 : List (List Nat)) (y7 : Nat) (s10 : Int × List Nat) : Option ((Int × List Nat) ⊕ (List Nat)) :=
 bif (decide (s10.1 < a0.2.1)) then
  (rounds (impl_NextLetters_B1 a0 a1 y4 s10) ((0 : Nat), (0 : Int))).bind fun r21 =>
  guardP (List.length s10.2 + List.length ([(fop .quo .f32 r21 y7)] : List Nat) ≤ appMax) (
   some (.inl ((wadd .i64 s10.1 (1 : Int)), (s10.2 ++ ([(fop .quo .f32 r21 y7)] : List Nat)))))
 else
  some (.inr s10.2)

noncomputable def impl_NextLetters (a0 : Int × Int × List Nat × List Nat × List Nat) (a1 : List Int) : Option (List Nat × Bool) :=
 (impl_Model_has (a0.1, a0.2.1, a0.2.2.1, a0.2.2.2.1, a0.2.2.2.2) a1).bind fun y1 =>
 bif (!y1) then
  some (([] : List Nat), false)
 else
  (impl_Model_forward (a0.1, a0.2.1, a0.2.2.1, a0.2.2.2.1, a0.2.2.2.2) a1).bind fun y4 =>
  guardP ((0 : Int) ≤ (lenI a1) ∧ (lenI a1) < lenI y4) (
   (impl_addUp (List.getD y4 (Int.toNat (lenI a1)) ([] : List Nat))).bind fun y7 =>
   bif (!(fgt .f32 y7 (0 : Nat))) then
    some (([] : List Nat), false)
   else
    (rounds (impl_NextLetters_B2 a0 a1 y4 y7) ((0 : Int), ([] : List Nat))).bind fun r12 =>
    (impl_finiteList_mv0 r12).bind fun y13 =>
    some (y13.1, y13.2))

theorem f24_ok {a0 : Int × Int × List Nat × List Nat × List Nat} {a1 : List Int} {r : List Nat × Bool} (hr : impl_NextLetters a0 a1 = some r) : CallOK Try.prog 24 [.imm (.st (.pair tI (.pair tI (.pair tLF (.pair tLF tLF))))) a0, .imm tLI a1] [⟨true, tLF, r.1⟩, ⟨false, .bool, r.2⟩] [] := by
 unfold impl_NextLetters at hr
 refine CallOK.of_body (ts := [(true, tLF), (false, .bool)]) Try.func24 rfl (by kernel_rfl) (Nat.le_of_ble_eq_true (by kernel_rfl)) fun cx hP hN hO hF => ?_
 have hO : cx.own.map Prod.fst = [] := hO
 have hX := CxIs.mk hP hN hO
 have hF := hF rfl
 show HT cx ⟨[(0, .agg [iC a0.1, iC a0.2.1, lC a0.2.2.1, lC a0.2.2.2.1, lC a0.2.2.2.2]), (1, nV a1)], [], 0⟩ _ _
 refine HT.rg2 (oHs 3) ⟨[(1, nV a1), (2, pV 0 0)], [(0, .box [iC a0.1, iC a0.2.1, lC a0.2.2.1, lC a0.2.2.2.1, lC a0.2.2.2.2])], 1⟩ hX (by kernel_rfl) aN ?_
 refine HT.seq ?_
 obtain ⟨y1, hc2, hr⟩ := of_bind hr
 refine HT.rg2 [oH, oH, ⟨none, .call [.imm (.st (.pair tI (.pair tI (.pair tLF (.pair tLF tLF))))), .imm tLI] [⟨false, .bool, y1⟩] []⟩, oH] ⟨[(1, nV a1), (2, pV 0 0), (16, bV (!y1))], [(0, .box [iC a0.1, iC a0.2.1, lC a0.2.2.1, lC a0.2.2.2.1, lC a0.2.2.2.2])], 1⟩ hX (by kernel_rfl) (aC (f55_ok hc2) aN) ?_
 rcases of_bif hr with ⟨hb3, hr⟩ | ⟨hb3, hr⟩
 ·refine HT.cond1 rfl hb3 ?_
  refine HT.rg2 (oHs 2) ⟨[(4, .one (.nilS)), (5, bV false)], [], 1⟩ hX (by kernel_rfl) aN ?_
  have hr := of_some hr
  subst hr
  exact HT.ret (qThenR ⟨[.one (.nilS), bV false], [], [], by kernel_rfl, by kernel_rfl, rfl, by kernel_rfl, by kernel_rfl, trivial⟩)
 ·refine HT.cond0 rfl hb3 ?_
  refine HT.skip (qThen ?_)
  obtain ⟨y4, hc5, hr⟩ := of_bind hr
  obtain ⟨hg6, hr⟩ := of_guard hr
  refine HT.rg2 [oH, oH, ⟨none, .call [.imm (.st (.pair tI (.pair tI (.pair tLF (.pair tLF tLF))))), .imm tLI] [⟨false, (.sl tLF), y4⟩] []⟩, oH, oH, oH, oH, oH] ⟨[(2, pV 0 0), (6, lV (List.getD y4 (Int.toNat (lenI a1)) ([] : List Nat)))], [(0, .box [iC a0.1, iC a0.2.1, lC a0.2.2.1, lC a0.2.2.2.1, lC a0.2.2.2.2])], 1⟩ hX (by kernel_rfl) (aC (f62_ok hc5) (aC hg6 aN)) ?_
  obtain ⟨y7, hc8, hr⟩ := of_bind hr
  refine HT.rg2 [oH, ⟨none, .call [.imm tLF] [⟨false, tF, y7⟩] []⟩, oH] ⟨[(2, pV 0 0), (6, lV (List.getD y4 (Int.toNat (lenI a1)) ([] : List Nat))), (7, fV y7)], [(0, .box [iC a0.1, iC a0.2.1, lC a0.2.2.1, lC a0.2.2.2.1, lC a0.2.2.2.2])], 1⟩ hX (by kernel_rfl) (aC (f68_ok hc8) aN) ?_
  refine HT.seq ?_
  refine HT.rg2 (oHs 3) ⟨[(2, pV 0 0), (6, lV (List.getD y4 (Int.toNat (lenI a1)) ([] : List Nat))), (7, fV y7), (28, bV (!(fgt .f32 y7 (0 : Nat))))], [(0, .box [iC a0.1, iC a0.2.1, lC a0.2.2.1, lC a0.2.2.2.1, lC a0.2.2.2.2])], 1⟩ hX (by kernel_rfl) aN ?_
  rcases of_bif hr with ⟨hb9, hr⟩ | ⟨hb9, hr⟩
  ·refine HT.cond1 rfl hb9 ?_
   refine HT.rg2 (oHs 2) ⟨[(4, .one (.nilS)), (5, bV false)], [], 1⟩ hX (by kernel_rfl) aN ?_
   have hr := of_some hr
   subst hr
   exact HT.ret (qThenR ⟨[.one (.nilS), bV false], [], [], by kernel_rfl, by kernel_rfl, rfl, by kernel_rfl, by kernel_rfl, trivial⟩)
  ·refine HT.cond0 rfl hb9 ?_
   refine HT.skip (qThen ?_)
   refine HT.rg2 (oHs 2) ⟨[(2, pV 0 0), (6, lV (List.getD y4 (Int.toNat (lenI a1)) ([] : List Nat))), (7, fV y7), (8, .one (.nilS))], [(0, .box [iC a0.1, iC a0.2.1, lC a0.2.2.1, lC a0.2.2.2.1, lC a0.2.2.2.2])], 1⟩ hX (by kernel_rfl) aN ?_
   refine HT.seq ?_
   refine HT.rg2 (oHs 3) ⟨[(2, pV 0 0), (6, lV (List.getD y4 (Int.toNat (lenI a1)) ([] : List Nat))), (7, fV y7), (8, .one (.nilS)), (31, iV a0.2.1), (32, iV (0 : Int))], [(0, .box [iC a0.1, iC a0.2.1, lC a0.2.2.1, lC a0.2.2.2.1, lC a0.2.2.2.2])], 1⟩ hX (by kernel_rfl) aN ?_
   refine HT.block ?_
   obtain ⟨r11, hL31, hr⟩ := of_bind hr
   refine HT.loopL (fun (s10 : Int × List Nat) => ⟨[(2, pV 0 0), (6, lV (List.getD y4 (Int.toNat (lenI a1)) ([] : List Nat))), (7, fV y7), (8, aV 1), (31, iV a0.2.1), (32, iV s10.1)], [(0, .box [iC a0.1, iC a0.2.1, lC a0.2.2.1, lC a0.2.2.2.1, lC a0.2.2.2.2]), (1, .seq tF s10.2)], 2⟩) (fun (r12 : List Nat) => (.exit 0, ⟨[(8, aV 0)], [(0, .seq tF r12)], 1⟩)) (Le.re [(0, 0)] [1] hX (by kernel_rfl)) hL31 ?_ (fun s10 x15 hx16 hk17 => ?_)
   ·refine (qBlockX (qThen ?_))
    obtain ⟨y13, hc14, hr⟩ := of_bind hr
    refine HT.rg2 [oH, ⟨none, .call [.mv tLF] [⟨true, tLF, y13.1⟩, ⟨false, .bool, y13.2⟩] []⟩, oH, oH, oH, oH] ⟨[(4, aV 1), (5, bV y13.2)], [(1, .seq tF y13.1)], 2⟩ hX (by kernel_rfl) (aC (f61_mv0_ok hc14) aN) ?_
    have hr := of_some hr
    subst hr
    exact HT.ret ⟨[aV 1, bV y13.2], [1], [], by kernel_rfl, by kernel_rfl, rfl, by kernel_rfl, by kernel_rfl, trivial⟩
   ·refine HT.rg2 [oH] ⟨[(2, pV 0 0), (6, lV (List.getD y4 (Int.toNat (lenI a1)) ([] : List Nat))), (7, fV y7), (8, aV 1), (31, iV a0.2.1), (32, iV s10.1), (33, bV (decide (s10.1 < a0.2.1)))], [(0, .box [iC a0.1, iC a0.2.1, lC a0.2.2.1, lC a0.2.2.2.1, lC a0.2.2.2.2]), (1, .seq tF s10.2)], 2⟩ hX (by kernel_rfl) aN ?_
    refine HT.seq ?_
    rcases of_bif hx16 with ⟨hb18, hx16⟩ | ⟨hb18, hx16⟩
    ·refine HT.cond1 rfl hb18 ?_
     refine HT.skip (qThen ?_)
     refine HT.seq ?_
     refine HT.block ?_
     refine HT.rg2 (oHs 2) ⟨[(2, pV 0 0), (6, lV (List.getD y4 (Int.toNat (lenI a1)) ([] : List Nat))), (7, fV y7), (8, aV 1), (9, iV s10.1), (31, iV a0.2.1), (32, iV s10.1)], [(0, .box [iC a0.1, iC a0.2.1, lC a0.2.2.1, lC a0.2.2.2.1, lC a0.2.2.2.2]), (1, .seq tF s10.2)], 2⟩ hX (by kernel_rfl) aN ?_
     refine HT.rg2 [oH] ⟨[(2, pV 0 0), (6, lV (List.getD y4 (Int.toNat (lenI a1)) ([] : List Nat))), (7, fV y7), (8, aV 1), (9, iV s10.1), (10, fV (0 : Nat)), (31, iV a0.2.1), (32, iV s10.1)], [(0, .box [iC a0.1, iC a0.2.1, lC a0.2.2.1, lC a0.2.2.2.1, lC a0.2.2.2.2]), (1, .seq tF s10.2)], 2⟩ hX (by kernel_rfl) aN ?_
     refine HT.seq ?_
     refine HT.rg2 (oHs 3) ⟨[(2, pV 0 0), (6, lV (List.getD y4 (Int.toNat (lenI a1)) ([] : List Nat))), (7, fV y7), (8, aV 1), (9, iV s10.1), (10, fV (0 : Nat)), (31, iV a0.2.1), (32, iV s10.1), (35, lV (List.getD y4 (Int.toNat (lenI a1)) ([] : List Nat))), (36, iV (lenI (List.getD y4 (Int.toNat (lenI a1)) ([] : List Nat)))), (37, iV (0 : Int))], [(0, .box [iC a0.1, iC a0.2.1, lC a0.2.2.1, lC a0.2.2.2.1, lC a0.2.2.2.2]), (1, .seq tF s10.2)], 2⟩ hX (by kernel_rfl) aN ?_
     refine HT.block ?_
     obtain ⟨r20, hL30, hx16⟩ := of_bind hx16
     refine HT.loopL (fun (s19 : Nat × Int) => ⟨[(2, pV 0 0), (6, lV (List.getD y4 (Int.toNat (lenI a1)) ([] : List Nat))), (7, fV y7), (8, aV 1), (9, iV s10.1), (10, fV s19.1), (31, iV a0.2.1), (32, iV s10.1), (35, lV (List.getD y4 (Int.toNat (lenI a1)) ([] : List Nat))), (36, iV (lenI (List.getD y4 (Int.toNat (lenI a1)) ([] : List Nat)))), (37, iV s19.2)], [(0, .box [iC a0.1, iC a0.2.1, lC a0.2.2.1, lC a0.2.2.2.1, lC a0.2.2.2.2]), (1, .seq tF s10.2)], 2⟩) (fun (r21 : Nat) => (.exit 2, ⟨[(2, pV 0 0), (6, lV (List.getD y4 (Int.toNat (lenI a1)) ([] : List Nat))), (7, fV y7), (8, aV 1), (10, fV r21), (31, iV a0.2.1), (32, iV s10.1)], [(0, .box [iC a0.1, iC a0.2.1, lC a0.2.2.1, lC a0.2.2.2.1, lC a0.2.2.2.2]), (1, .seq tF s10.2)], 2⟩)) (Le.re [(0, 0), (1, 1)] [] hX (by kernel_rfl)) hL30 ?_ (fun s19 x23 hx24 hk25 => ?_)
     ·refine (qBlockX (qThen ?_))
      obtain ⟨hg22, hx16⟩ := of_guard hx16
      refine HT.rgL [oH, oH, oH, oH, ⟨none, .ty tF⟩, ⟨none, .ty tF⟩, oH] ⟨[(2, pV 0 0), (6, lV (List.getD y4 (Int.toNat (lenI a1)) ([] : List Nat))), (7, fV y7), (8, aV 3), (31, iV a0.2.1), (32, iV s10.1)], [(3, .seq tF (s10.2 ++ ([(fop .quo .f32 r20 y7)] : List Nat))), (0, .box [iC a0.1, iC a0.2.1, lC a0.2.2.1, lC a0.2.2.2.1, lC a0.2.2.2.2])], 4⟩ hX (by kernel_rfl) (aC hg22 aN) (qBlock (qThen ?_))
      have hx16 := of_some hx16
      subst hx16
      exact HT.rgK (oHs 2) [(0, 0), (3, 1)] [] hX (by kernel_rfl) aN (fun _ h => (qLoopN ⟨((wadd .i64 s10.1 (1 : Int)), (s10.2 ++ ([(fop .quo .f32 r20 y7)] : List Nat))), rfl, h⟩))
     ·refine HT.rg2 [oH] ⟨[(2, pV 0 0), (6, lV (List.getD y4 (Int.toNat (lenI a1)) ([] : List Nat))), (7, fV y7), (8, aV 1), (9, iV s10.1), (10, fV s19.1), (31, iV a0.2.1), (32, iV s10.1), (35, lV (List.getD y4 (Int.toNat (lenI a1)) ([] : List Nat))), (36, iV (lenI (List.getD y4 (Int.toNat (lenI a1)) ([] : List Nat)))), (37, iV s19.2), (38, bV (decide (s19.2 < (lenI (List.getD y4 (Int.toNat (lenI a1)) ([] : List Nat))))))], [(0, .box [iC a0.1, iC a0.2.1, lC a0.2.2.1, lC a0.2.2.2.1, lC a0.2.2.2.2]), (1, .seq tF s10.2)], 2⟩ hX (by kernel_rfl) aN ?_
      refine HT.seq ?_
      rcases of_bif hx24 with ⟨hb26, hx24⟩ | ⟨hb26, hx24⟩
      ·refine HT.cond1 rfl hb26 ?_
       refine HT.skip (qThen ?_)
       refine HT.seq ?_
       refine HT.block ?_
       obtain ⟨hg27, hx24⟩ := of_guard hx24
       refine HT.rg2 (oHs 5) ⟨[(2, pV 0 0), (6, lV (List.getD y4 (Int.toNat (lenI a1)) ([] : List Nat))), (7, fV y7), (8, aV 1), (9, iV s10.1), (10, fV s19.1), (11, iV s19.2), (12, fV (List.getD (List.getD y4 (Int.toNat (lenI a1)) ([] : List Nat)) (Int.toNat s19.2) (0 : Nat))), (31, iV a0.2.1), (32, iV s10.1), (35, lV (List.getD y4 (Int.toNat (lenI a1)) ([] : List Nat))), (36, iV (lenI (List.getD y4 (Int.toNat (lenI a1)) ([] : List Nat)))), (37, iV s19.2)], [(0, .box [iC a0.1, iC a0.2.1, lC a0.2.2.1, lC a0.2.2.2.1, lC a0.2.2.2.2]), (1, .seq tF s10.2)], 2⟩ hX (by kernel_rfl) (aC hg27 aN) ?_
       obtain ⟨y28, hc29, hx24⟩ := of_bind hx24
       refine HT.rgL [oH, oH, oH, oH, oH, ⟨none, .call [.imm (.st (.pair tI (.pair tI (.pair tLF (.pair tLF tLF))))), .imm tI, .imm tI] [⟨false, tF, y28⟩] []⟩, oH, oH, oH] ⟨[(2, pV 0 0), (6, lV (List.getD y4 (Int.toNat (lenI a1)) ([] : List Nat))), (7, fV y7), (8, aV 1), (9, iV s10.1), (10, fV (fop .add .f32 s19.1 (fop .mul .f32 (List.getD (List.getD y4 (Int.toNat (lenI a1)) ([] : List Nat)) (Int.toNat s19.2) (0 : Nat)) y28))), (31, iV a0.2.1), (32, iV s10.1), (35, lV (List.getD y4 (Int.toNat (lenI a1)) ([] : List Nat))), (36, iV (lenI (List.getD y4 (Int.toNat (lenI a1)) ([] : List Nat)))), (37, iV s19.2)], [(0, .box [iC a0.1, iC a0.2.1, lC a0.2.2.1, lC a0.2.2.2.1, lC a0.2.2.2.2]), (1, .seq tF s10.2)], 2⟩ hX (by kernel_rfl) (aC (f58_ok hc29) aN) (qBlock (qThen ?_))
       have hx24 := of_some hx24
       subst hx24
       exact HT.rgK (oHs 2) [(0, 0), (1, 1)] [] hX (by kernel_rfl) aN (fun _ h => (qLoopN ⟨((fop .add .f32 s19.1 (fop .mul .f32 (List.getD (List.getD y4 (Int.toNat (lenI a1)) ([] : List Nat)) (Int.toNat s19.2) (0 : Nat)) y28)), (wadd .i64 s19.2 (1 : Int))), rfl, h⟩))
      ·refine HT.cond0 rfl hb26 ?_
       have hx24 := of_some hx24
       subst hx24
       exact HT.exitL (Le.re [(0, 0), (1, 1)] [] hX (by kernel_rfl)) (qThenE (qLoopE (hk25 s19.1 rfl)))
    ·refine HT.cond0 rfl hb18 ?_
     have hx16 := of_some hx16
     subst hx16
     exact HT.exitL (Le.re [(1, 0)] [] hX (by kernel_rfl)) (qThenE (qLoopE (hk17 s10.2 rfl)))

/-- Whether a float is below nought, by its sign. -/
noncomputable def math_Signbit (a0 : Nat) : Option Bool :=
 guardP (a0 ≠ 9221120237041090560) <| some (decide (IntKind.wrap .i64 (a0 : Int) < 0))

theorem f130_walk (b : Nat) (w : World) : Calls Try.prog 130 #[.float .f64 b] w fun e w' => e = .returned (.bool (decide (IntKind.wrap .i64 (b : Int) < 0))) ∧ w' = w := by
 have hd : (callFunc 139 #[.float .f64 b]).run Try.prog w = .ok (.value (.int .u64 b)) w := by
  rw [run_callFunc_extern (fn := Try.f139) (e := Extern.MathFloatBits.float64bits) Try.func139 (by kernel_rfl) (by kernel_rfl) (by rfl) (by rfl)]
  rfl
 go_enter Try.func130, Try.ntmps130
 go_wp2
 go_ret
 rw [Go.IntWalk.i64_left]
 generalize RowKit.wrap64 (b : Int) = z
 exact ⟨rfl, rfl⟩

theorem f130_ok {a0 : Nat} {r : Bool} (h : math_Signbit a0 = some r) : CallOK Try.prog 130 [.imm (.flt .f64) a0] [⟨false, .bool, r⟩] [] := by
 obtain ⟨hg, h⟩ := of_guard h
 have h := of_some h
 subst h
 refine fltBool_ok ⟨_, Try.func130, by kernel_rfl, by kernel_rfl⟩ fun w b hb => ?_
 have e : b = a0 := by
  rw [fc64] at hb
  split at hb
  ·exact absurd hb.symm hg
  ·exact hb
 subst e
 exact f130_walk b w


noncomputable def impl_SameNumber (a0 : Nat) (a1 : Nat) : Option (Bool) :=
 (show Option (Bool) from
  bif (!(feq .f32 a0 a0)) then
   some true
  else
   some (!(feq .f32 a1 a1))).bind fun v1 =>
 bif v1 then
  (show Option (Bool) from
   bif (!(feq .f32 a0 a0)) then
    some (!(feq .f32 a1 a1))
   else
    some false).bind fun v5 =>
  some v5
 else
  (show Option (Bool) from
   bif (feq .f32 a0 a1) then
    (math_Signbit (fconv .f32 .f64 a0)).bind fun y13 =>
    (math_Signbit (fconv .f32 .f64 a1)).bind fun y15 =>
    some (y13 == y15)
   else
    some false).bind fun v9 =>
  some v9

theorem f109_ok {a0 : Nat} {a1 : Nat} {r : Bool} (hr : impl_SameNumber a0 a1 = some r) : CallOK Try.prog 109 [.imm tF a0, .imm tF a1] [⟨false, .bool, r⟩] [] := by
 unfold impl_SameNumber at hr
 refine CallOK.of_body (ts := [(false, .bool)]) Try.func109 rfl (by kernel_rfl) (Nat.le_of_ble_eq_true (by kernel_rfl)) fun cx hP hN hO hF => ?_
 have hO : cx.own.map Prod.fst = [] := hO
 have hX := CxIs.mk hP hN hO
 have hF := hF rfl
 show HT cx ⟨[(0, fV a0), (1, fV a1)], [], 0⟩ _ _
 refine HT.rg2 [oH] ⟨[(0, fV a0), (1, fV a1)], [], 0⟩ hX (by kernel_rfl) aN ?_
 refine HT.seq ?_
 obtain ⟨v1', hT3, hr⟩ := of_bind hr
 refine HT.join (fun (v1 : Bool) => ⟨[(0, fV a0), (1, fV a1), (12, bV v1)], [], 0⟩) (fun v => v = v1') (fun v1 hv2 => ?_) (fun cont => ?_)
 ·subst hv2
  rcases of_bif hr with ⟨hb4, hr⟩ | ⟨hb4, hr⟩
  ·refine HT.cond1 rfl hb4 ?_
   obtain ⟨v5', hT7, hr⟩ := of_bind hr
   refine HT.join (fun (v5 : Bool) => ⟨[(4, bV v5)], [], 0⟩) (fun v => v = v5') (fun v5 hv6 => ?_) (fun cont => ?_)
   ·subst hv6
    have hr := of_some hr
    subst hr
    exact HT.ret (qThenR ⟨[bV v5], [], [], by kernel_rfl, by kernel_rfl, rfl, by kernel_rfl, by kernel_rfl, trivial⟩)
   ·rcases of_bif hT7 with ⟨hb8, hT7⟩ | ⟨hb8, hT7⟩
    ·exact HT.rgK [oH, oH, oH, oH, oT, oT, oT, vT, oH] [] [] hX (by kernel_rfl) (aC hb8 (aC hb8 (aC hb8 (aC hb8 aN)))) (fun _ h => (qThen (h.ht (cont (!(feq .f32 a1 a1)) (of_some hT7)))))
    ·exact HT.rgK [oH, oH, oH, oH, oF, oF, oF, vF, oH] [] [] hX (by kernel_rfl) (aC hb8 (aC hb8 (aC hb8 (aC hb8 aN)))) (fun _ h => (qThen (h.ht (cont false (of_some hT7)))))
  ·refine HT.cond0 rfl hb4 ?_
   refine HT.skip (qThen ?_)
   obtain ⟨v9', hT11, hr⟩ := of_bind hr
   refine HT.join (fun (v9 : Bool) => ⟨[(4, bV v9)], [], 0⟩) (fun v => v = v9') (fun v9 hv10 => ?_) (fun cont => ?_)
   ·subst hv10
    have hr := of_some hr
    subst hr
    exact HT.ret ⟨[bV v9], [], [], by kernel_rfl, by kernel_rfl, rfl, by kernel_rfl, by kernel_rfl, trivial⟩
   ·rcases of_bif hT11 with ⟨hb12, hT11⟩ | ⟨hb12, hT11⟩
    ·obtain ⟨y13, hc14, hT11⟩ := of_bind hT11
     obtain ⟨y15, hc16, hT11⟩ := of_bind hT11
     exact HT.rgK [oH, oH, oH, oH, oT, oT, ⟨some true, .call [.imm (.flt .f64)] [⟨false, .bool, y13⟩] []⟩, oT, oT, ⟨some true, .call [.imm (.flt .f64)] [⟨false, .bool, y15⟩] []⟩, oT, vT, oH] [] [] hX (by kernel_rfl) (aC hb12 (aC hb12 (aC (show fconvOK .f32 .f64 a0 = true from (fconv_up _)) (aC hb12 (aC (f130_ok hc14) (aC hb12 (aC hb12 (aC (show fconvOK .f32 .f64 a1 = true from (fconv_up _)) (aC hb12 (aC (f130_ok hc16) (aC hb12 (aC hb12 aN)))))))))))) (fun _ h => (qThen (h.ht (cont (y13 == y15) (of_some hT11)))))
    ·exact HT.rgK [oH, oH, oH, oH, oF, oF, oF, oF, oF, oF, oF, vF, oH] [] [] hX (by kernel_rfl) (aC hb12 (aC hb12 (aC hb12 (aC hb12 (aC hb12 (aC hb12 (aC hb12 (aC hb12 aN)))))))) (fun _ h => (qThen (h.ht (cont false (of_some hT11)))))
 ·rcases of_bif hT3 with ⟨hb17, hT3⟩ | ⟨hb17, hT3⟩
  ·exact HT.rgK [oH, oH, oH, oH, oT, oT, oT, vT] [] [] hX (by kernel_rfl) (aC hb17 (aC hb17 (aC hb17 (aC hb17 aN)))) (fun _ h => (qThen (h.ht (cont true (of_some hT3)))))
  ·exact HT.rgK [oH, oH, oH, oH, oF, oF, oF, vF] [] [] hX (by kernel_rfl) (aC hb17 (aC hb17 (aC hb17 (aC hb17 aN)))) (fun _ h => (qThen (h.ht (cont (!(feq .f32 a1 a1)) (of_some hT3)))))

noncomputable def slices_EqualFunc___float32___float32_float32_float32_fn2_impl_SameNumber_B1 (a0 : List Nat) (a1 : List Nat) (s2 : Int) : Option ((Int) ⊕ (Unit ⊕ Unit)) :=
 bif (decide (s2 < (lenI a0))) then
  guardP ((0 : Int) ≤ s2 ∧ s2 < lenI a0) (
   guardP ((0 : Int) ≤ s2 ∧ s2 < lenI a1) (
    (impl_SameNumber (List.getD a0 (Int.toNat s2) (0 : Nat)) (List.getD a1 (Int.toNat s2) (0 : Nat))).bind fun y12 =>
    bif (!y12) then
     some (.inr (.inr ()))
    else
     some (.inl (wadd .i64 s2 (1 : Int)))))
 else
  some (.inr (.inl ()))

noncomputable def slices_EqualFunc___float32___float32_float32_float32_fn2_impl_SameNumber (a0 : List Nat) (a1 : List Nat) : Option (Bool) :=
 bif ((lenI a0) != (lenI a1)) then
  some false
 else
  (rounds (slices_EqualFunc___float32___float32_float32_float32_fn2_impl_SameNumber_B1 a0 a1) (0 : Int)).bind fun r3 => match r3 with
   | .inl r4 =>
    some true
   | .inr r5 =>
    some false

theorem f108_fn2_impl_SameNumber_ok {a0 : List Nat} {a1 : List Nat} {r : Bool} (hr : slices_EqualFunc___float32___float32_float32_float32_fn2_impl_SameNumber a0 a1 = some r) : CallOK Try.prog 108 [.imm tLF a0, .imm tLF a1, .fn 109] [⟨false, .bool, r⟩] [] := by
 unfold slices_EqualFunc___float32___float32_float32_float32_fn2_impl_SameNumber at hr
 refine CallOK.of_body (ts := [(false, .bool)]) Try.func108 rfl (by kernel_rfl) (Nat.le_of_ble_eq_true (by kernel_rfl)) fun cx hP hN hO hF => ?_
 have hO : cx.own.map Prod.fst = [] := hO
 have hX := CxIs.mk hP hN hO
 have hF := hF rfl
 show HT cx ⟨[(0, lV a0), (1, lV a1), (2, .one (.fn 109))], [], 0⟩ _ _
 refine HT.rg2 [oH] ⟨[(0, lV a0), (1, lV a1), (2, .one (.fn 109))], [], 0⟩ hX (by kernel_rfl) aN ?_
 refine HT.seq ?_
 refine HT.rg2 (oHs 5) ⟨[(0, lV a0), (1, lV a1), (2, .one (.fn 109)), (14, bV ((lenI a0) != (lenI a1)))], [], 0⟩ hX (by kernel_rfl) aN ?_
 rcases of_bif hr with ⟨hb1, hr⟩ | ⟨hb1, hr⟩
 ·refine HT.cond1 rfl hb1 ?_
  refine HT.rg2 [oH] ⟨[(6, bV false)], [], 0⟩ hX (by kernel_rfl) aN ?_
  have hr := of_some hr
  subst hr
  exact HT.ret (qThenR ⟨[bV false], [], [], by kernel_rfl, by kernel_rfl, rfl, by kernel_rfl, by kernel_rfl, trivial⟩)
 ·refine HT.cond0 rfl hb1 ?_
  refine HT.skip (qThen ?_)
  refine HT.seq ?_
  refine HT.rg2 (oHs 3) ⟨[(1, lV a1), (2, .one (.fn 109)), (15, lV a0), (16, iV (lenI a0)), (17, iV (0 : Int))], [], 0⟩ hX (by kernel_rfl) aN ?_
  refine HT.block ?_
  obtain ⟨r3, hL15, hr⟩ := of_bind hr
  refine HT.loopL (fun (s2 : Int) => ⟨[(1, lV a1), (2, .one (.fn 109)), (15, lV a0), (16, iV (lenI a0)), (17, iV s2)], [], 0⟩) (fun (r3 : Unit ⊕ Unit) => match r3 with | .inl r4 => (.exit 0, ⟨[], [], 0⟩) | .inr r5 => (.ret, ⟨[(6, bV false)], [], 0⟩)) (Le.re [] [] hX (by kernel_rfl)) hL15 ?_ (fun s2 x6 hx7 hk8 => ?_)
  ·rcases r3 with r4 | r5
   ·refine (qBlockX (qThen ?_))
    refine HT.rg2 [oH] ⟨[(6, bV true)], [], 0⟩ hX (by kernel_rfl) aN ?_
    have hr := of_some hr
    subst hr
    exact HT.ret ⟨[bV true], [], [], by kernel_rfl, by kernel_rfl, rfl, by kernel_rfl, by kernel_rfl, trivial⟩
   ·have hr := of_some hr
    subst hr
    exact (qBlockR (qThenR ⟨[bV false], [], [], by kernel_rfl, by kernel_rfl, rfl, by kernel_rfl, by kernel_rfl, trivial⟩))
  ·refine HT.rg2 [oH] ⟨[(1, lV a1), (2, .one (.fn 109)), (15, lV a0), (16, iV (lenI a0)), (17, iV s2), (18, bV (decide (s2 < (lenI a0))))], [], 0⟩ hX (by kernel_rfl) aN ?_
   refine HT.seq ?_
   rcases of_bif hx7 with ⟨hb9, hx7⟩ | ⟨hb9, hx7⟩
   ·refine HT.cond1 rfl hb9 ?_
    refine HT.skip (qThen ?_)
    refine HT.seq ?_
    refine HT.block ?_
    obtain ⟨hg10, hx7⟩ := of_guard hx7
    refine HT.rg2 (oHs 5) ⟨[(1, lV a1), (2, .one (.fn 109)), (7, iV s2), (8, fV (List.getD a0 (Int.toNat s2) (0 : Nat))), (15, lV a0), (16, iV (lenI a0)), (17, iV s2)], [], 0⟩ hX (by kernel_rfl) (aC hg10 aN) ?_
    obtain ⟨hg11, hx7⟩ := of_guard hx7
    refine HT.rg2 (oHs 5) ⟨[(1, lV a1), (2, .one (.fn 109)), (8, fV (List.getD a0 (Int.toNat s2) (0 : Nat))), (9, fV (List.getD a1 (Int.toNat s2) (0 : Nat))), (15, lV a0), (16, iV (lenI a0)), (17, iV s2)], [], 0⟩ hX (by kernel_rfl) (aC hg11 aN) ?_
    obtain ⟨y12, hc13, hx7⟩ := of_bind hx7
    refine HT.rg2 [oH, oH, oH, ⟨none, .call [.imm tF, .imm tF] [⟨false, .bool, y12⟩] []⟩, oH] ⟨[(1, lV a1), (2, .one (.fn 109)), (15, lV a0), (16, iV (lenI a0)), (17, iV s2), (30, bV (!y12))], [], 0⟩ hX (by kernel_rfl) (aC (f109_ok hc13) aN) ?_
    rcases of_bif hx7 with ⟨hb14, hx7⟩ | ⟨hb14, hx7⟩
    ·refine HT.cond1 rfl hb14 ?_
     refine HT.rg2 [oH] ⟨[(6, bV false)], [], 0⟩ hX (by kernel_rfl) aN ?_
     have hx7 := of_some hx7
     subst hx7
     exact HT.retL (Le.re [] [] hX (by kernel_rfl)) (qBlockR (qThenR (qLoopR (hk8 (.inr ()) rfl))))
    ·refine HT.cond0 rfl hb14 ?_
     refine HT.skip (qBlock (qThen ?_))
     have hx7 := of_some hx7
     subst hx7
     exact HT.rgK (oHs 2) [] [] hX (by kernel_rfl) aN (fun _ h => (qLoopN ⟨(wadd .i64 s2 (1 : Int)), rfl, h⟩))
   ·refine HT.cond0 rfl hb9 ?_
    have hx7 := of_some hx7
    subst hx7
    exact HT.exitL (Le.re [] [] hX (by kernel_rfl)) (qThenE (qLoopE (hk8 (.inl ()) rfl)))

noncomputable def impl_areSame (a0 : List Nat) (a1 : List Nat) : Option (Bool) :=
 (slices_EqualFunc___float32___float32_float32_float32_fn2_impl_SameNumber a0 a1).bind fun y1 =>
 some y1

theorem f66_ok {a0 : List Nat} {a1 : List Nat} {r : Bool} (hr : impl_areSame a0 a1 = some r) : CallOK Try.prog 66 [.imm tLF a0, .imm tLF a1] [⟨false, .bool, r⟩] [] := by
 unfold impl_areSame at hr
 refine CallOK.of_body (ts := [(false, .bool)]) Try.func66 rfl (by kernel_rfl) (Nat.le_of_ble_eq_true (by kernel_rfl)) fun cx hP hN hO hF => ?_
 have hO : cx.own.map Prod.fst = [] := hO
 have hX := CxIs.mk hP hN hO
 have hF := hF rfl
 show HT cx ⟨[(0, lV a0), (1, lV a1)], [], 0⟩ _ _
 refine HT.rg2 [oH] ⟨[(0, lV a0), (1, lV a1)], [], 0⟩ hX (by kernel_rfl) aN ?_
 obtain ⟨y1, hc2, hr⟩ := of_bind hr
 refine HT.rg2 [oH, oH, ⟨none, .call [.imm tLF, .imm tLF, .fn] [⟨false, .bool, y1⟩] []⟩, oH] ⟨[(4, bV y1)], [], 0⟩ hX (by kernel_rfl) (aC (f108_fn2_impl_SameNumber_ok hc2) aN) ?_
 have hr := of_some hr
 subst hr
 exact HT.ret ⟨[bV y1], [], [], by kernel_rfl, by kernel_rfl, rfl, by kernel_rfl, by kernel_rfl, trivial⟩

noncomputable def impl_SameModel (a0 : Int × Int × List Nat × List Nat × List Nat) (a1 : Int × Int × List Nat × List Nat × List Nat) : Option (Bool) :=
 (show Option (Bool) from
  bif (a0.1 == a1.1) then
   bif (a0.2.1 == a1.2.1) then
    (impl_areSame a0.2.2.1 a1.2.2.1).bind fun y6 =>
    bif y6 then
     (impl_areSame a0.2.2.2.1 a1.2.2.2.1).bind fun y9 =>
     bif y9 then
      (impl_areSame a0.2.2.2.2 a1.2.2.2.2).bind fun y12 =>
      some y12
     else
      some false
    else
     some false
   else
    some false
  else
   some false).bind fun v1 =>
 some v1

theorem f21_ok {a0 : Int × Int × List Nat × List Nat × List Nat} {a1 : Int × Int × List Nat × List Nat × List Nat} {r : Bool} (hr : impl_SameModel a0 a1 = some r) : CallOK Try.prog 21 [.imm (.st (.pair tI (.pair tI (.pair tLF (.pair tLF tLF))))) a0, .imm (.st (.pair tI (.pair tI (.pair tLF (.pair tLF tLF))))) a1] [⟨false, .bool, r⟩] [] := by
 unfold impl_SameModel at hr
 refine CallOK.of_body (ts := [(false, .bool)]) Try.func21 rfl (by kernel_rfl) (Nat.le_of_ble_eq_true (by kernel_rfl)) fun cx hP hN hO hF => ?_
 have hO : cx.own.map Prod.fst = [] := hO
 have hX := CxIs.mk hP hN hO
 have hF := hF rfl
 show HT cx ⟨[(0, .agg [iC a0.1, iC a0.2.1, lC a0.2.2.1, lC a0.2.2.2.1, lC a0.2.2.2.2]), (1, .agg [iC a1.1, iC a1.2.1, lC a1.2.2.1, lC a1.2.2.2.1, lC a1.2.2.2.2])], [], 0⟩ _ _
 refine HT.rg2 (oHs 3) ⟨[(2, pV 0 0), (3, pV 1 0)], [(1, .box [iC a1.1, iC a1.2.1, lC a1.2.2.1, lC a1.2.2.2.1, lC a1.2.2.2.2]), (0, .box [iC a0.1, iC a0.2.1, lC a0.2.2.1, lC a0.2.2.2.1, lC a0.2.2.2.2])], 2⟩ hX (by kernel_rfl) aN ?_
 obtain ⟨v1', hT3, hr⟩ := of_bind hr
 refine HT.join (fun (v1 : Bool) => ⟨[(4, bV v1)], [], 0⟩) (fun v => v = v1') (fun v1 hv2 => ?_) (fun cont => ?_)
 ·subst hv2
  have hr := of_some hr
  subst hr
  exact HT.ret ⟨[bV v1], [], [], by kernel_rfl, by kernel_rfl, rfl, by kernel_rfl, by kernel_rfl, trivial⟩
 ·rcases of_bif hT3 with ⟨hb4, hT3⟩ | ⟨hb4, hT3⟩
  ·rcases of_bif hT3 with ⟨hb5, hT3⟩ | ⟨hb5, hT3⟩
   ·obtain ⟨y6, hc7, hT3⟩ := of_bind hT3
    rcases of_bif hT3 with ⟨hb8, hT3⟩ | ⟨hb8, hT3⟩
    ·obtain ⟨y9, hc10, hT3⟩ := of_bind hT3
     rcases of_bif hT3 with ⟨hb11, hT3⟩ | ⟨hb11, hT3⟩
     ·obtain ⟨y12, hc13, hT3⟩ := of_bind hT3
      exact HT.rgK [oH, oH, oH, oH, oH, oH, oT, oT, oT, oT, oT, vT, oH, oT, oT, oT, oT, ⟨some true, .call [.imm tLF, .imm tLF] [⟨false, .bool, y6⟩] []⟩, vT, oH, oT, oT, oT, oT, ⟨some true, .call [.imm tLF, .imm tLF] [⟨false, .bool, y9⟩] []⟩, vT, oH, oT, oT, oT, oT, ⟨some true, .call [.imm tLF, .imm tLF] [⟨false, .bool, y12⟩] []⟩, vT, oH] [] [] hX (by kernel_rfl) (aC hb4 (aC hb4 (aC hb4 (aC hb4 (aC hb4 (aC hb4 (aC hb5 (aC hb5 (aC hb5 (aC hb5 (aC hb5 (aC (f66_ok hc7) (aC hb5 (aC hb8 (aC hb8 (aC hb8 (aC hb8 (aC hb8 (aC (f66_ok hc10) (aC hb8 (aC hb11 (aC hb11 (aC hb11 (aC hb11 (aC hb11 (aC (f66_ok hc13) (aC hb11 aN))))))))))))))))))))))))))) (fun _ h => (qThen (h.ht (cont y12 (of_some hT3)))))
     ·exact HT.rgK [oH, oH, oH, oH, oH, oH, oT, oT, oT, oT, oT, vT, oH, oT, oT, oT, oT, ⟨some true, .call [.imm tLF, .imm tLF] [⟨false, .bool, y6⟩] []⟩, vT, oH, oT, oT, oT, oT, ⟨some true, .call [.imm tLF, .imm tLF] [⟨false, .bool, y9⟩] []⟩, vT, oH, oF, oF, oF, oF, oF, vF, oH] [] [] hX (by kernel_rfl) (aC hb4 (aC hb4 (aC hb4 (aC hb4 (aC hb4 (aC hb4 (aC hb5 (aC hb5 (aC hb5 (aC hb5 (aC hb5 (aC (f66_ok hc7) (aC hb5 (aC hb8 (aC hb8 (aC hb8 (aC hb8 (aC hb8 (aC (f66_ok hc10) (aC hb8 (aC hb11 (aC hb11 (aC hb11 (aC hb11 (aC hb11 (aC hb11 aN)))))))))))))))))))))))))) (fun _ h => (qThen (h.ht (cont false (of_some hT3)))))
    ·exact HT.rgK [oH, oH, oH, oH, oH, oH, oT, oT, oT, oT, oT, vT, oH, oT, oT, oT, oT, ⟨some true, .call [.imm tLF, .imm tLF] [⟨false, .bool, y6⟩] []⟩, vT, oH, oF, oF, oF, oF, oF, vF, oH, oF, oF, oF, oF, oF, vF, oH] [] [] hX (by kernel_rfl) (aC hb4 (aC hb4 (aC hb4 (aC hb4 (aC hb4 (aC hb4 (aC hb5 (aC hb5 (aC hb5 (aC hb5 (aC hb5 (aC (f66_ok hc7) (aC hb5 (aC hb8 (aC hb8 (aC hb8 (aC hb8 (aC hb8 (aC hb8 (aF (aF (aF (aF (aF (aF aN))))))))))))))))))))))))) (fun _ h => (qThen (h.ht (cont false (of_some hT3)))))
   ·exact HT.rgK [oH, oH, oH, oH, oH, oH, oT, oT, oT, oT, oT, vT, oH, oF, oF, oF, oF, oF, vF, oH, oF, oF, oF, oF, oF, vF, oH, oF, oF, oF, oF, oF, vF, oH] [] [] hX (by kernel_rfl) (aC hb4 (aC hb4 (aC hb4 (aC hb4 (aC hb4 (aC hb4 (aC hb5 (aC hb5 (aC hb5 (aC hb5 (aC hb5 (aC hb5 (aF (aF (aF (aF (aF (aF (aF (aF (aF (aF (aF (aF aN)))))))))))))))))))))))) (fun _ h => (qThen (h.ht (cont false (of_some hT3)))))
  ·exact HT.rgK [oH, oH, oH, oH, oH, oH, oF, oF, oF, oF, oF, vF, oH, oF, oF, oF, oF, oF, vF, oH, oF, oF, oF, oF, oF, vF, oH, oF, oF, oF, oF, oF, vF, oH] [] [] hX (by kernel_rfl) (aC hb4 (aC hb4 (aC hb4 (aC hb4 (aC hb4 (aC hb4 (aF (aF (aF (aF (aF (aF (aF (aF (aF (aF (aF (aF (aF (aF (aF (aF (aF (aF aN)))))))))))))))))))))))) (fun _ h => (qThen (h.ht (cont false (of_some hT3)))))

end Go.Proofs
