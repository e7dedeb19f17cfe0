import Derived.Test.YtapgmbilojbacaaLibC
import Derived.Test.YtapgmbilojbacaaProg
set_option linter.unusedVariables false
set_option linter.unusedSimpArgs false
set_option linter.unusedSectionVars false
/-
 Functions as plain functions, and their contracts. Printed by a program.
-/
namespace Go.Proofs
open Go.Ide

abbrev TyG := List Int × List Int × List (List Int)
abbrev tG : Ty := .st (.pair tLI (.pair tLI (.sl tLI)))
abbrev oT : OH := ⟨some true, .no⟩
abbrev oF : OH := ⟨some false, .no⟩
abbrev vT : OH := ⟨none, .tv true⟩
abbrev vF : OH := ⟨none, .tv false⟩
theorem aN : AllP [] := allNil
theorem aC {p : Prop} {r : List Prop} (h : p) (hr : AllP r) : AllP (p :: r) := allCons h hr
theorem aT {r : List Prop} (hr : AllP r) : AllP ((true = true) :: r) := allCons rfl hr
theorem aT4 {r : List Prop} (hr : AllP r) : AllP ((true = true) :: (true = true) :: (true = true) :: (true = true) :: r) := aT (aT (aT (aT hr)))
theorem aF {r : List Prop} (hr : AllP r) : AllP ((false = false) :: r) := allCons rfl hr


noncomputable def laws_b10Long (a0 : List Int) (a1 : List Int) : Option (Bool) :=
 (show Option (Bool) from
  bif (decide ((lenI a0) > (1048576 : Int))) then
   some true
  else
   some (decide ((lenI a1) > (1048576 : Int)))).bind fun v1 =>
 some v1

theorem f11_ok {a0 : List Int} {a1 : List Int} {r : Bool} (hr : laws_b10Long a0 a1 = some r) : CallOK Try.prog 11 [.imm (.sl (.int .u8)) a0, .imm (.sl (.int .u8)) a1] [⟨false, .bool, r⟩] [] := by
 unfold laws_b10Long at hr
 refine CallOK.of_body (ts := [(false, .bool)]) Try.func11 rfl (by kernel_rfl) (Nat.le_of_ble_eq_true (by kernel_rfl)) fun cx hP hN hO hF => ?_
 have hO : cx.own.map Prod.fst = [] := hO
 have hX := CxIs.mk hP hN hO
 have hF := hF rfl
 show HT cx ⟨[(0, .one (.dat (.sl (.int .u8)) a0)), (1, .one (.dat (.sl (.int .u8)) a1))], [], 0⟩ _ _
 refine HT.rg2 [oH] ⟨[(0, .one (.dat (.sl (.int .u8)) a0)), (1, .one (.dat (.sl (.int .u8)) a1))], [], 0⟩ hX (by kernel_rfl) aN ?_
 obtain ⟨v1', hT3, hr⟩ := of_bind hr
 refine HT.join (fun (v1 : Bool) => ⟨[(4, bV v1)], [], 0⟩) (fun v => v = v1') (fun v1 hv2 => ?_) (fun cont => ?_)
 ·subst hv2
  have hr := of_some hr
  subst hr
  exact HT.ret ⟨[bV v1], [], [], by kernel_rfl, by kernel_rfl, rfl, by kernel_rfl, by kernel_rfl, trivial⟩
 ·rcases of_bif hT3 with ⟨hb4, hT3⟩ | ⟨hb4, hT3⟩
  ·exact HT.rgK [oH, oH, oH, oH, oT, oT, oT, vT, oH] [] [] hX (by kernel_rfl) (aC hb4 (aC hb4 (aC hb4 (aC hb4 aN)))) (fun _ h => (qThen (h.ht (cont true (of_some hT3)))))
  ·exact HT.rgK [oH, oH, oH, oH, oF, oF, oF, vF, oH] [] [] hX (by kernel_rfl) (aC hb4 (aC hb4 (aC hb4 (aC hb4 aN)))) (fun _ h => (qThen (h.ht (cont (decide ((lenI a1) > (1048576 : Int))) (of_some hT3)))))

noncomputable def spec_l00From (a0 : List Int) : Option ((List Int × Int × Int)) :=
 some (a0, (0 : Int), (0 : Int))

theorem f93_ok {a0 : List Int} {r : (List Int × Int × Int)} (hr : spec_l00From a0 = some r) : CallOK Try.prog 93 [.imm (.sl (.int .u8)) a0] [⟨true, (.bx (.st (.pair (.sl (.int .u8)) (.pair tI (.int .u64))))), [r]⟩] [] := by
 unfold spec_l00From at hr
 refine CallOK.of_body (ts := [(true, (.bx (.st (.pair (.sl (.int .u8)) (.pair tI (.int .u64))))))]) Try.func93 rfl (by kernel_rfl) (Nat.le_of_ble_eq_true (by kernel_rfl)) fun cx hP hN hO hF => ?_
 have hO : cx.own.map Prod.fst = [] := hO
 have hX := CxIs.mk hP hN hO
 have hF := hF rfl
 show HT cx ⟨[(0, .one (.dat (.sl (.int .u8)) a0))], [], 0⟩ _ _
 refine HT.rg2 [oH] ⟨[(0, .one (.dat (.sl (.int .u8)) a0))], [], 0⟩ hX (by kernel_rfl) aN ?_
 refine HT.rg2 [oH, oH, ⟨none, .ty (.st (.pair (.sl (.int .u8)) (.pair tI (.int .u64))))⟩, oH] ⟨[(2, .one (.elp 0 0 3 0))], [(0, .seq (.st (.pair (.sl (.int .u8)) (.pair tI (.int .u64)))) ([(a0, (0 : Int), (0 : Int))]))], 1⟩ hX (by kernel_rfl) aN ?_
 have hr := of_some hr
 subst hr
 exact HT.ret ⟨[.one (.elp 0 0 3 0)], [0], [], by kernel_rfl, by kernel_rfl, rfl, by kernel_rfl, by kernel_rfl, trivial⟩

noncomputable def spec_l00Src_next (a0 : List Int × Int × Int) : Option (Int × (List Int × Int × Int)) :=
 (show Option (Int) from
  bif (decide (a0.2.1 < (lenI a0.1))) then
   guardP ((0 : Int) ≤ a0.2.1 ∧ a0.2.1 < lenI a0.1) (
    some (IntKind.wrap .i64 (List.getD a0.1 (Int.toNat a0.2.1) (0 : Int))))
  else
   some (0 : Int)).bind fun v1 =>
 bif (decide ((wadd .i64 a0.2.1 (1 : Int)) ≤ (lenI a0.1))) then
  some (v1, a0.1, (wadd .i64 a0.2.1 (1 : Int)), (wadd .u64 (wadd .u64 (wmul .u64 a0.2.2 (6364136223846793005 : Int)) (IntKind.wrap .u64 v1)) (1442695040888963407 : Int)))
 else
  (some (IntKind.wrap .i64 (IntKind.wrap .u64 (BitVec.ofInt (IntKind.bits .u64) (Int.fdiv (wadd .u64 (wadd .u64 (wmul .u64 a0.2.2 (6364136223846793005 : Int)) (IntKind.wrap .u64 v1)) (1442695040888963407 : Int)) (2 ^ (min (Int.toNat (40 : Int)) (IntKind.bits .u64)))) &&& BitVec.ofInt (IntKind.bits .u64) (255 : Int)).toNat))).bind fun q5 =>
  some (q5, a0.1, (wadd .i64 a0.2.1 (1 : Int)), (wadd .u64 (wadd .u64 (wmul .u64 a0.2.2 (6364136223846793005 : Int)) (IntKind.wrap .u64 v1)) (1442695040888963407 : Int)))

theorem f192_ok {a0 : List Int × Int × Int} {r : Int × (List Int × Int × Int)} (hr : spec_l00Src_next a0 = some r) : CallOK Try.prog 192 [.own (.bx (.st (.pair (.sl (.int .u8)) (.pair tI (.int .u64))))) [a0]] [⟨false, tI, r.1⟩] [⟨(.bx (.st (.pair (.sl (.int .u8)) (.pair tI (.int .u64))))), [r.2]⟩] := by
 unfold spec_l00Src_next at hr
 refine CallOK.of_body (ts := [(false, tI)]) Try.func192 rfl (by kernel_rfl) (Nat.le_of_ble_eq_true (by kernel_rfl)) fun cx hP hN hO hF => ?_
 have hO : cx.own.map Prod.fst = [0] := hO
 have hX := CxIs.mk hP hN hO
 have hF := hF rfl
 show HT cx ⟨[(0, .one (.elp 0 0 3 0))], [(0, .seq (.st (.pair (.sl (.int .u8)) (.pair tI (.int .u64)))) ([a0]))], 1⟩ _ _
 refine HT.rg2 [oH] ⟨[(0, .one (.elp 0 0 3 0))], [(0, .seq (.st (.pair (.sl (.int .u8)) (.pair tI (.int .u64)))) ([a0]))], 1⟩ hX (by kernel_rfl) aN ?_
 refine HT.rg2 [oH] ⟨[(0, .one (.elp 0 0 3 0)), (3, iV (0 : Int))], [(0, .seq (.st (.pair (.sl (.int .u8)) (.pair tI (.int .u64)))) ([a0]))], 1⟩ hX (by kernel_rfl) aN ?_
 obtain ⟨v1', hT3, hr⟩ := of_bind hr
 refine HT.join (fun (v1 : Int) => ⟨[(0, .one (.elp 0 0 3 0)), (3, iV v1)], [(0, .seq (.st (.pair (.sl (.int .u8)) (.pair tI (.int .u64)))) ([a0]))], 1⟩) (fun v => v = v1') (fun v1 hv2 => ?_) (fun cont => ?_)
 ·subst hv2
  refine HT.rg2 (oHs 8) ⟨[(0, .one (.elp 0 0 3 0)), (3, iV v1)], [(0, .seq (.st (.pair (.sl (.int .u8)) (.pair tI (.int .u64)))) ([(a0.1, (wadd .i64 a0.2.1 (1 : Int)), a0.2.2)]))], 1⟩ hX (by kernel_rfl) (aC (show 0 < List.length [a0] from Nat.zero_lt_one) (aC (show 0 < List.length [a0] from Nat.zero_lt_one) aN)) ?_
  refine HT.rg2 (oHs 13) ⟨[(0, .one (.elp 0 0 3 0)), (3, iV v1)], [(0, .seq (.st (.pair (.sl (.int .u8)) (.pair tI (.int .u64)))) ([(a0.1, (wadd .i64 a0.2.1 (1 : Int)), (wadd .u64 (wadd .u64 (wmul .u64 a0.2.2 (6364136223846793005 : Int)) (IntKind.wrap .u64 v1)) (1442695040888963407 : Int)))]))], 1⟩ hX (by kernel_rfl) (aC (show 0 < List.length [(a0.1, (wadd .i64 a0.2.1 (1 : Int)), a0.2.2)] from Nat.zero_lt_one) (aC (show 0 < List.length [(a0.1, (wadd .i64 a0.2.1 (1 : Int)), a0.2.2)] from Nat.zero_lt_one) aN)) ?_
  refine HT.seq ?_
  refine HT.dr2 9 [⟨oH, []⟩, ⟨oH, [0]⟩, ⟨oH, [0, 1]⟩, ⟨oH, [0, 1, 2]⟩, ⟨oH, []⟩, ⟨oH, [4]⟩, ⟨oH, [4, 5]⟩, ⟨oH, [4, 5, 6]⟩, ⟨oH, [4, 5, 6, 7]⟩] [[0, 1, 2, 3, 4, 5, 6, 7, 8]] [oH] ⟨[(0, .one (.elp 0 0 3 0)), (3, iV v1), (53, bV (decide ((wadd .i64 a0.2.1 (1 : Int)) ≤ (lenI a0.1))))], [(0, .seq (.st (.pair (.sl (.int .u8)) (.pair tI (.int .u64)))) ([(a0.1, (wadd .i64 a0.2.1 (1 : Int)), (wadd .u64 (wadd .u64 (wmul .u64 a0.2.2 (6364136223846793005 : Int)) (IntKind.wrap .u64 v1)) (1442695040888963407 : Int)))]))], 1⟩ hX (by kernel_rfl) (by kernel_rfl) (aC (show 0 < List.length [(a0.1, (wadd .i64 a0.2.1 (1 : Int)), (wadd .u64 (wadd .u64 (wmul .u64 a0.2.2 (6364136223846793005 : Int)) (IntKind.wrap .u64 v1)) (1442695040888963407 : Int)))] from Nat.zero_lt_one) (aC (show 0 < List.length [(a0.1, (wadd .i64 a0.2.1 (1 : Int)), (wadd .u64 (wadd .u64 (wmul .u64 a0.2.2 (6364136223846793005 : Int)) (IntKind.wrap .u64 v1)) (1442695040888963407 : Int)))] from Nat.zero_lt_one) aN)) ?_
  rcases of_bif hr with ⟨hb4, hr⟩ | ⟨hb4, hr⟩
  ·refine HT.cond1 rfl hb4 ?_
   refine HT.rg2 (oHs 2) ⟨[(2, iV v1)], [(0, .seq (.st (.pair (.sl (.int .u8)) (.pair tI (.int .u64)))) ([(a0.1, (wadd .i64 a0.2.1 (1 : Int)), (wadd .u64 (wadd .u64 (wmul .u64 a0.2.2 (6364136223846793005 : Int)) (IntKind.wrap .u64 v1)) (1442695040888963407 : Int)))]))], 1⟩ hX (by kernel_rfl) aN ?_
   have hr := of_some hr
   subst hr
   exact HT.ret (qThenR ⟨[iV v1], [], [List.length ([(a0.1, (wadd .i64 a0.2.1 (1 : Int)), (wadd .u64 (wadd .u64 (wmul .u64 a0.2.2 (6364136223846793005 : Int)) (IntKind.wrap .u64 v1)) (1442695040888963407 : Int)))]) = List.length [a0]], by kernel_rfl, by kernel_rfl, rfl, by kernel_rfl, by kernel_rfl, ⟨(show List.length ([(a0.1, (wadd .i64 a0.2.1 (1 : Int)), (wadd .u64 (wadd .u64 (wmul .u64 a0.2.2 (6364136223846793005 : Int)) (IntKind.wrap .u64 v1)) (1442695040888963407 : Int)))]) = List.length [a0] from rfl), trivial⟩⟩)
  ·refine HT.cond0 rfl hb4 ?_
   refine HT.skip (qThen ?_)
   refine HT.rg2 (oHs 8) ⟨[(2, iV (IntKind.wrap .i64 (IntKind.wrap .u64 (BitVec.ofInt (IntKind.bits .u64) (Int.fdiv (wadd .u64 (wadd .u64 (wmul .u64 a0.2.2 (6364136223846793005 : Int)) (IntKind.wrap .u64 v1)) (1442695040888963407 : Int)) (2 ^ (min (Int.toNat (40 : Int)) (IntKind.bits .u64)))) &&& BitVec.ofInt (IntKind.bits .u64) (255 : Int)).toNat)))], [(0, .seq (.st (.pair (.sl (.int .u8)) (.pair tI (.int .u64)))) ([(a0.1, (wadd .i64 a0.2.1 (1 : Int)), (wadd .u64 (wadd .u64 (wmul .u64 a0.2.2 (6364136223846793005 : Int)) (IntKind.wrap .u64 v1)) (1442695040888963407 : Int)))]))], 1⟩ hX (by kernel_rfl) (aC (show 0 < List.length [(a0.1, (wadd .i64 a0.2.1 (1 : Int)), (wadd .u64 (wadd .u64 (wmul .u64 a0.2.2 (6364136223846793005 : Int)) (IntKind.wrap .u64 v1)) (1442695040888963407 : Int)))] from Nat.zero_lt_one) (aC (show (0 : Int) ≤ (40 : Int) from by decide) aN)) ?_
   obtain ⟨q5, hq6, hr⟩ := of_bind hr
   have hq6 := of_some2 hq6
   refine (Le.cv (s := ⟨[(0, 0)], [], [], false⟩) (own := [0]) (ps := [q5 = (IntKind.wrap .i64 (IntKind.wrap .u64 (BitVec.ofInt (IntKind.bits .u64) (Int.fdiv (wadd .u64 (wadd .u64 (wmul .u64 a0.2.2 (6364136223846793005 : Int)) (IntKind.wrap .u64 v1)) (1442695040888963407 : Int)) (2 ^ (min (Int.toNat (40 : Int)) (IntKind.bits .u64)))) &&& BitVec.ofInt (IntKind.bits .u64) (255 : Int)).toNat)), [(a0.1, (wadd .i64 a0.2.1 (1 : Int)), (wadd .u64 (wadd .u64 (wmul .u64 a0.2.2 (6364136223846793005 : Int)) (IntKind.wrap .u64 v1)) (1442695040888963407 : Int)))] = [(a0.1, (wadd .i64 a0.2.1 (1 : Int)), (wadd .u64 (wadd .u64 (wmul .u64 a0.2.2 (6364136223846793005 : Int)) (IntKind.wrap .u64 v1)) (1442695040888963407 : Int)))]]) (st' := ⟨[(2, iV q5)], [(0, .seq (.st (.pair (.sl (.int .u8)) (.pair tI (.int .u64)))) ([(a0.1, (wadd .i64 a0.2.1 (1 : Int)), (wadd .u64 (wadd .u64 (wmul .u64 a0.2.2 (6364136223846793005 : Int)) (IntKind.wrap .u64 v1)) (1442695040888963407 : Int)))]))], 1⟩) hO (fun h => by cases h) (by kernel_rfl) ⟨hq6, rfl, trivial⟩).ht ?_
   have hr := of_some hr
   subst hr
   exact HT.ret ⟨[iV q5], [], [List.length ([(a0.1, (wadd .i64 a0.2.1 (1 : Int)), (wadd .u64 (wadd .u64 (wmul .u64 a0.2.2 (6364136223846793005 : Int)) (IntKind.wrap .u64 v1)) (1442695040888963407 : Int)))]) = List.length [a0]], by kernel_rfl, by kernel_rfl, rfl, by kernel_rfl, by kernel_rfl, ⟨(show List.length ([(a0.1, (wadd .i64 a0.2.1 (1 : Int)), (wadd .u64 (wadd .u64 (wmul .u64 a0.2.2 (6364136223846793005 : Int)) (IntKind.wrap .u64 v1)) (1442695040888963407 : Int)))]) = List.length [a0] from rfl), trivial⟩⟩
 ·refine HT.dr2 9 [⟨oH, []⟩, ⟨oH, [0]⟩, ⟨oH, [0, 1]⟩, ⟨oH, [0, 1, 2]⟩, ⟨oH, []⟩, ⟨oH, [4]⟩, ⟨oH, [4, 5]⟩, ⟨oH, [4, 5, 6]⟩, ⟨oH, [4, 5, 6, 7]⟩] [[0, 1, 2, 3, 4, 5, 6, 7, 8]] [oH] ⟨[(0, .one (.elp 0 0 3 0)), (3, iV (0 : Int)), (13, bV (decide (a0.2.1 < (lenI a0.1))))], [(0, .seq (.st (.pair (.sl (.int .u8)) (.pair tI (.int .u64)))) ([a0]))], 1⟩ hX (by kernel_rfl) (by kernel_rfl) (aC (show 0 < List.length [a0] from Nat.zero_lt_one) (aC (show 0 < List.length [a0] from Nat.zero_lt_one) aN)) ?_
  rcases of_bif hT3 with ⟨hb7, hT3⟩ | ⟨hb7, hT3⟩
  ·refine HT.cond1 rfl hb7 ?_
   obtain ⟨hg8, hT3⟩ := of_guard hT3
   exact HT.drK 8 [⟨oH, []⟩, ⟨oH, [0]⟩, ⟨oH, [0, 1]⟩, ⟨oH, [0, 1, 2]⟩, ⟨oH, []⟩, ⟨oH, [4]⟩, ⟨oH, [4, 5]⟩, ⟨oH, [4, 5, 6]⟩] [[0, 1, 2, 3, 4, 5, 6, 7], [0, 1, 2, 3, 4, 5, 6, 7, 8], [0, 1, 2, 3, 4, 5, 6, 7, 8, 9], [0, 1, 2, 3, 4, 5, 6, 7, 8, 9, 10]] (oHs 4) [(0, 0)] [] hX (by kernel_rfl) (by kernel_rfl) (aC (show 0 < List.length [a0] from Nat.zero_lt_one) (aC (show 0 < List.length [a0] from Nat.zero_lt_one) (aC hg8 aN))) (fun _ h => (qThen (h.ht (cont (IntKind.wrap .i64 (List.getD a0.1 (Int.toNat a0.2.1) (0 : Int))) (of_some hT3)))))
  ·refine HT.cond0 rfl hb7 ?_
   refine HT.skip (qThen ?_)
   exact (Le.re [(0, 0)] [] hX (by kernel_rfl)).ht (cont (0 : Int) (of_some hT3))

noncomputable def spec_l00Src_pick (a0 : List Int × Int × Int) (a1 : Int) : Option (Int × (List Int × Int × Int)) :=
 bif (decide (a1 ≤ (1 : Int))) then
  some ((0 : Int), a0)
 else
  (spec_l00Src_next a0).bind fun y2 =>
  (show Option (Int × (List Int × Int × Int)) from
   bif (decide (a1 > (200 : Int))) then
    (spec_l00Src_next y2.2).bind fun y9 =>
    some ((wadd .i64 (wmul .i64 y2.1 (256 : Int)) y9.1), y9.2)
   else
    some (y2.1, y2.2)).bind fun v4 =>
  guardP (a1 ≠ 0) (
   some ((Int.tmod v4.1 a1), v4.2))

theorem f94_ok {a0 : List Int × Int × Int} {a1 : Int} {r : Int × (List Int × Int × Int)} (hr : spec_l00Src_pick a0 a1 = some r) : CallOK Try.prog 94 [.own (.bx (.st (.pair (.sl (.int .u8)) (.pair tI (.int .u64))))) [a0], .imm tI a1] [⟨false, tI, r.1⟩] [⟨(.bx (.st (.pair (.sl (.int .u8)) (.pair tI (.int .u64))))), [r.2]⟩] := by
 unfold spec_l00Src_pick at hr
 refine CallOK.of_body (ts := [(false, tI)]) Try.func94 rfl (by kernel_rfl) (Nat.le_of_ble_eq_true (by kernel_rfl)) fun cx hP hN hO hF => ?_
 have hO : cx.own.map Prod.fst = [0] := hO
 have hX := CxIs.mk hP hN hO
 have hF := hF rfl
 show HT cx ⟨[(0, .one (.elp 0 0 3 0)), (1, iV a1)], [(0, .seq (.st (.pair (.sl (.int .u8)) (.pair tI (.int .u64)))) ([a0]))], 1⟩ _ _
 refine HT.rg2 [oH] ⟨[(0, .one (.elp 0 0 3 0)), (1, iV a1)], [(0, .seq (.st (.pair (.sl (.int .u8)) (.pair tI (.int .u64)))) ([a0]))], 1⟩ hX (by kernel_rfl) aN ?_
 refine HT.seq ?_
 refine HT.rg2 (oHs 2) ⟨[(0, .one (.elp 0 0 3 0)), (1, iV a1), (7, bV (decide (a1 ≤ (1 : Int))))], [(0, .seq (.st (.pair (.sl (.int .u8)) (.pair tI (.int .u64)))) ([a0]))], 1⟩ hX (by kernel_rfl) aN ?_
 rcases of_bif hr with ⟨hb1, hr⟩ | ⟨hb1, hr⟩
 ·refine HT.cond1 rfl hb1 ?_
  refine HT.rg2 [oH] ⟨[(4, iV (0 : Int))], [(0, .seq (.st (.pair (.sl (.int .u8)) (.pair tI (.int .u64)))) ([a0]))], 1⟩ hX (by kernel_rfl) aN ?_
  have hr := of_some hr
  subst hr
  exact HT.ret (qThenR ⟨[iV (0 : Int)], [], [List.length ([a0]) = List.length [a0]], by kernel_rfl, by kernel_rfl, rfl, by kernel_rfl, by kernel_rfl, ⟨(show List.length ([a0]) = List.length [a0] from rfl), trivial⟩⟩)
 ·refine HT.cond0 rfl hb1 ?_
  refine HT.skip (qThen ?_)
  obtain ⟨y2, hc3, hr⟩ := of_bind hr
  refine HT.rg2 [oH, ⟨none, .call [.own (.bx (.st (.pair (.sl (.int .u8)) (.pair tI (.int .u64)))))] [⟨false, tI, y2.1⟩] [⟨(.bx (.st (.pair (.sl (.int .u8)) (.pair tI (.int .u64))))), [y2.2]⟩]⟩, oH] ⟨[(0, .one (.elp 0 0 3 0)), (1, iV a1), (5, iV y2.1)], [(0, .seq (.st (.pair (.sl (.int .u8)) (.pair tI (.int .u64)))) ([y2.2]))], 1⟩ hX (by kernel_rfl) (aC (f192_ok hc3) aN) ?_
  obtain ⟨v4', hT6, hr⟩ := of_bind hr
  refine HT.join (fun (v4 : Int × (List Int × Int × Int)) => ⟨[(1, iV a1), (5, iV v4.1)], [(0, .seq (.st (.pair (.sl (.int .u8)) (.pair tI (.int .u64)))) ([v4.2]))], 1⟩) (fun v => v = v4') (fun v4 hv5 => ?_) (fun cont => ?_)
  ·subst hv5
   obtain ⟨hg7, hr⟩ := of_guard hr
   refine HT.rg2 (oHs 4) ⟨[(4, iV (Int.tmod v4.1 a1))], [(0, .seq (.st (.pair (.sl (.int .u8)) (.pair tI (.int .u64)))) ([v4.2]))], 1⟩ hX (by kernel_rfl) (aC hg7 aN) ?_
   have hr := of_some hr
   subst hr
   exact HT.ret ⟨[iV (Int.tmod v4.1 a1)], [], [List.length ([v4.2]) = List.length [a0]], by kernel_rfl, by kernel_rfl, rfl, by kernel_rfl, by kernel_rfl, ⟨(show List.length ([v4.2]) = List.length [a0] from rfl), trivial⟩⟩
  ·refine HT.rg2 (oHs 2) ⟨[(0, .one (.elp 0 0 3 0)), (1, iV a1), (5, iV y2.1), (11, bV (decide (a1 > (200 : Int))))], [(0, .seq (.st (.pair (.sl (.int .u8)) (.pair tI (.int .u64)))) ([y2.2]))], 1⟩ hX (by kernel_rfl) aN ?_
   rcases of_bif hT6 with ⟨hb8, hT6⟩ | ⟨hb8, hT6⟩
   ·refine HT.cond1 rfl hb8 ?_
    obtain ⟨y9, hc10, hT6⟩ := of_bind hT6
    exact HT.rgK [oH, oH, oH, ⟨none, .call [.own (.bx (.st (.pair (.sl (.int .u8)) (.pair tI (.int .u64)))))] [⟨false, tI, y9.1⟩] [⟨(.bx (.st (.pair (.sl (.int .u8)) (.pair tI (.int .u64))))), [y9.2]⟩]⟩, oH, oH] [(0, 0)] [] hX (by kernel_rfl) (aC (f192_ok hc10) aN) (fun _ h => (qThen (h.ht (cont ((wadd .i64 (wmul .i64 y2.1 (256 : Int)) y9.1), y9.2) (of_some hT6)))))
   ·refine HT.cond0 rfl hb8 ?_
    refine HT.skip (qThen ?_)
    exact (Le.re [(0, 0)] [] hX (by kernel_rfl)).ht (cont (y2.1, y2.2) (of_some hT6))

noncomputable def spec_l00Src_one (a0 : List Int × Int × Int) (a1 : Int) : Option (Bool × (List Int × Int × Int)) :=
 (spec_l00Src_pick a0 a1).bind fun y1 =>
 some ((y1.1 == (0 : Int)), y1.2)

theorem f193_ok {a0 : List Int × Int × Int} {a1 : Int} {r : Bool × (List Int × Int × Int)} (hr : spec_l00Src_one a0 a1 = some r) : CallOK Try.prog 193 [.own (.bx (.st (.pair (.sl (.int .u8)) (.pair tI (.int .u64))))) [a0], .imm tI a1] [⟨false, .bool, r.1⟩] [⟨(.bx (.st (.pair (.sl (.int .u8)) (.pair tI (.int .u64))))), [r.2]⟩] := by
 unfold spec_l00Src_one at hr
 refine CallOK.of_body (ts := [(false, .bool)]) Try.func193 rfl (by kernel_rfl) (Nat.le_of_ble_eq_true (by kernel_rfl)) fun cx hP hN hO hF => ?_
 have hO : cx.own.map Prod.fst = [0] := hO
 have hX := CxIs.mk hP hN hO
 have hF := hF rfl
 show HT cx ⟨[(0, .one (.elp 0 0 3 0)), (1, iV a1)], [(0, .seq (.st (.pair (.sl (.int .u8)) (.pair tI (.int .u64)))) ([a0]))], 1⟩ _ _
 refine HT.rg2 [oH] ⟨[(0, .one (.elp 0 0 3 0)), (1, iV a1)], [(0, .seq (.st (.pair (.sl (.int .u8)) (.pair tI (.int .u64)))) ([a0]))], 1⟩ hX (by kernel_rfl) aN ?_
 obtain ⟨y1, hc2, hr⟩ := of_bind hr
 refine HT.rg2 [oH, oH, ⟨none, .call [.own (.bx (.st (.pair (.sl (.int .u8)) (.pair tI (.int .u64))))), .imm tI] [⟨false, tI, y1.1⟩] [⟨(.bx (.st (.pair (.sl (.int .u8)) (.pair tI (.int .u64))))), [y1.2]⟩]⟩, oH, oH] ⟨[(4, bV (y1.1 == (0 : Int)))], [(0, .seq (.st (.pair (.sl (.int .u8)) (.pair tI (.int .u64)))) ([y1.2]))], 1⟩ hX (by kernel_rfl) (aC (f94_ok hc2) aN) ?_
 have hr := of_some hr
 subst hr
 exact HT.ret ⟨[bV (y1.1 == (0 : Int))], [], [List.length ([y1.2]) = List.length [a0]], by kernel_rfl, by kernel_rfl, rfl, by kernel_rfl, by kernel_rfl, ⟨(show List.length ([y1.2]) = List.length [a0] from rfl), trivial⟩⟩

noncomputable def spec_l07DrawGameOk_B1 (y1 : Int × (List Int × Int × Int)) (s16 : Int × (List Int × Int × Int) × List Int) : Option ((Int × (List Int × Int × Int) × List Int) ⊕ (((List Int × Int × Int) × List Int))) :=
 bif (decide (s16.1 < (wadd .i64 (1 : Int) y1.1))) then
  (show Option ((List Int × Int × Int) × List Int) from
   (spec_l00Src_one s16.2.1 (3 : Int)).bind fun y34 =>
   bif y34.1 then
    guardP (List.length s16.2.2 + List.length ([s16.1] : List Int) ≤ appMax) (
     some (y34.2, (s16.2.2 ++ ([s16.1] : List Int))))
   else
    some (y34.2, s16.2.2)).bind fun v31 =>
  some (.inl ((wadd .i64 s16.1 (1 : Int)), v31.1, v31.2))
 else
  some (.inr (s16.2.1, s16.2.2))

noncomputable def spec_l07DrawGameOk_B2 (y1 : Int × (List Int × Int × Int)) (s3 : Int × (List Int × Int × Int) × TyG) : Option ((Int × (List Int × Int × Int) × TyG) ⊕ (((List Int × Int × Int) × TyG))) :=
 bif (decide (s3.1 < (wadd .i64 (1 : Int) y1.1))) then
  (spec_l00Src_pick s3.2.1 (2 : Int)).bind fun y10 =>
  guardP (List.length s3.2.2.1 + List.length ([y10.1] : List Int) ≤ appMax) (
   (spec_l00Src_pick y10.2 (6 : Int)).bind fun y13 =>
   guardP (List.length s3.2.2.2.1 + List.length ([y13.1] : List Int) ≤ appMax) (
    (rounds (spec_l07DrawGameOk_B1 y1) ((0 : Int), y13.2, ([] : List Int))).bind fun r18 =>
    (show Option ((List Int × Int × Int) × List Int) from
     bif ((lenI r18.2) == (0 : Int)) then
      (spec_l00Src_pick r18.1 (wadd .i64 (1 : Int) y1.1)).bind fun y24 =>
      guardP (List.length r18.2 + List.length ([y24.1] : List Int) ≤ appMax) (
       some (y24.2, (r18.2 ++ ([y24.1] : List Int))))
     else
      some (r18.1, r18.2)).bind fun v19 =>
    guardP (List.length s3.2.2.2.2 + List.length ([v19.2] : List (List Int)) ≤ appMax) (
     some (.inl ((wadd .i64 s3.1 (1 : Int)), v19.1, (s3.2.2.1 ++ ([y10.1] : List Int)), (s3.2.2.2.1 ++ ([y13.1] : List Int)), (s3.2.2.2.2 ++ ([v19.2] : List (List Int))))))))
 else
  some (.inr (s3.2.1, s3.2.2.1, s3.2.2.2.1, s3.2.2.2.2))

noncomputable def spec_l07DrawGameOk (a0 : List Int × Int × Int) : Option ((TyG) × (List Int × Int × Int)) :=
 (spec_l00Src_pick a0 (7 : Int)).bind fun y1 =>
 (rounds (spec_l07DrawGameOk_B2 y1) ((0 : Int), y1.2, ([] : List Int), ([] : List Int), ([] : List (List Int)))).bind fun r5 =>
 some ((r5.2.1, r5.2.2.1, r5.2.2.2), r5.1)

theorem f125_ok {a0 : List Int × Int × Int} {r : (TyG) × (List Int × Int × Int)} (hr : spec_l07DrawGameOk a0 = some r) : CallOK Try.prog 125 [.own (.bx (.st (.pair (.sl (.int .u8)) (.pair tI (.int .u64))))) [a0]] [⟨false, tG, r.1⟩] [⟨(.bx (.st (.pair (.sl (.int .u8)) (.pair tI (.int .u64))))), [r.2]⟩] := by
 unfold spec_l07DrawGameOk at hr
 refine CallOK.of_body (ts := [(false, tG)]) Try.func125 rfl (by kernel_rfl) (Nat.le_of_ble_eq_true (by kernel_rfl)) fun cx hP hN hO hF => ?_
 have hO : cx.own.map Prod.fst = [0] := hO
 have hX := CxIs.mk hP hN hO
 have hF := hF rfl
 show HT cx ⟨[(0, .one (.elp 0 0 3 0))], [(0, .seq (.st (.pair (.sl (.int .u8)) (.pair tI (.int .u64)))) ([a0]))], 1⟩ _ _
 refine HT.rg2 [oH] ⟨[(0, .one (.elp 0 0 3 0)), (2, pV 1 0)], [(1, .box [.nilS, .nilS, .nilS]), (0, .seq (.st (.pair (.sl (.int .u8)) (.pair tI (.int .u64)))) ([a0]))], 2⟩ hX (by kernel_rfl) aN ?_
 obtain ⟨y1, hc2, hr⟩ := of_bind hr
 refine HT.rg2 [oH, ⟨none, .call [.own (.bx (.st (.pair (.sl (.int .u8)) (.pair tI (.int .u64))))), .imm tI] [⟨false, tI, y1.1⟩] [⟨(.bx (.st (.pair (.sl (.int .u8)) (.pair tI (.int .u64))))), [y1.2]⟩]⟩, oH, oH] ⟨[(0, .one (.elp 0 0 3 0)), (2, pV 1 0), (3, iV (wadd .i64 (1 : Int) y1.1))], [(0, .seq (.st (.pair (.sl (.int .u8)) (.pair tI (.int .u64)))) ([y1.2])), (1, .box [.nilS, .nilS, .nilS])], 2⟩ hX (by kernel_rfl) (aC (f94_ok hc2) aN) ?_
 refine HT.rg2 (oHs 3) ⟨[(0, .one (.elp 0 0 3 0)), (2, pV 1 0), (3, iV (wadd .i64 (1 : Int) y1.1)), (4, pV 2 0)], [(2, .box [.nilS, .nilS, .nilS]), (0, .seq (.st (.pair (.sl (.int .u8)) (.pair tI (.int .u64)))) ([y1.2])), (1, .box [.nilS, .nilS, .nilS])], 3⟩ hX (by kernel_rfl) aN ?_
 refine HT.seq ?_
 refine HT.rg2 [oH] ⟨[(0, .one (.elp 0 0 3 0)), (2, pV 1 0), (3, iV (wadd .i64 (1 : Int) y1.1)), (4, pV 2 0), (5, iV (0 : Int))], [(2, .box [.nilS, .nilS, .nilS]), (0, .seq (.st (.pair (.sl (.int .u8)) (.pair tI (.int .u64)))) ([y1.2])), (1, .box [.nilS, .nilS, .nilS])], 3⟩ hX (by kernel_rfl) aN ?_
 refine HT.block ?_
 obtain ⟨r4, hL39, hr⟩ := of_bind hr
 refine HT.loopL (fun (s3 : Int × (List Int × Int × Int) × TyG) => ⟨[(0, .one (.elp 0 0 3 0)), (2, pV 1 0), (3, iV (wadd .i64 (1 : Int) y1.1)), (4, pV 2 0), (5, iV s3.1)], [(0, .seq (.st (.pair (.sl (.int .u8)) (.pair tI (.int .u64)))) ([s3.2.1])), (1, .box [.nilS, .nilS, .nilS]), (2, .box [.all 3, .all 4, .all 5]), (3, .seq tI s3.2.2.1), (4, .seq tI s3.2.2.2.1), (5, .seq tLI s3.2.2.2.2)], 6⟩) (fun (r5 : ((List Int × Int × Int) × TyG)) => (.exit 0, ⟨[(2, pV 1 0), (4, pV 2 0)], [(0, .seq (.st (.pair (.sl (.int .u8)) (.pair tI (.int .u64)))) ([r5.1])), (1, .box [.nilS, .nilS, .nilS]), (2, .box [.all 3, .all 4, .all 5]), (3, .seq tI r5.2.1), (4, .seq tI r5.2.2.1), (5, .seq tLI r5.2.2.2)], 6⟩)) (Le.re [(0, 0), (1, 1), (2, 2)] [3, 4, 5] hX (by kernel_rfl)) hL39 ?_ (fun s3 x6 hx7 hk8 => ?_)
 ·refine (qBlockX (qThen ?_))
  refine HT.rg2 (oHs 2) ⟨[(2, pV 1 0)], [(1, .box [.all 3, .all 4, .all 5]), (0, .seq (.st (.pair (.sl (.int .u8)) (.pair tI (.int .u64)))) ([r4.1])), (3, .seq tI r4.2.1), (4, .seq tI r4.2.2.1), (5, .seq tLI r4.2.2.2)], 6⟩ hX (by kernel_rfl) aN ?_
  have hr := of_some hr
  subst hr
  refine (Le.rz [(1, 1), (0, 0)] [] (st' := ⟨[(2, pV 1 0)], [(1, .box [nC r4.2.1, nC r4.2.2.1, .dat (.sl tLI) r4.2.2.2]), (0, .seq (.st (.pair (.sl (.int .u8)) (.pair tI (.int .u64)))) ([r4.1]))], 6⟩) hX hF (by kernel_rfl)).ht ?_
  exact HT.ret ⟨[.agg [nC r4.2.1, nC r4.2.2.1, .dat (.sl tLI) r4.2.2.2]], [], [List.length ([r4.1]) = List.length [a0]], by kernel_rfl, by kernel_rfl, rfl, by kernel_rfl, by kernel_rfl, ⟨(show List.length ([r4.1]) = List.length [a0] from rfl), trivial⟩⟩
 ·refine HT.seq ?_
  refine HT.rg2 (oHs 3) ⟨[(0, .one (.elp 0 0 3 0)), (2, pV 1 0), (3, iV (wadd .i64 (1 : Int) y1.1)), (4, pV 2 0), (5, iV s3.1), (14, bV (decide (s3.1 < (wadd .i64 (1 : Int) y1.1))))], [(0, .seq (.st (.pair (.sl (.int .u8)) (.pair tI (.int .u64)))) ([s3.2.1])), (1, .box [.nilS, .nilS, .nilS]), (2, .box [.all 3, .all 4, .all 5]), (3, .seq tI s3.2.2.1), (4, .seq tI s3.2.2.2.1), (5, .seq tLI s3.2.2.2.2)], 6⟩ hX (by kernel_rfl) aN ?_
  rcases of_bif hx7 with ⟨hb9, hx7⟩ | ⟨hb9, hx7⟩
  ·refine HT.cond1 rfl hb9 ?_
   refine HT.skip (qThen ?_)
   refine HT.seq ?_
   refine HT.block ?_
   obtain ⟨y10, hc11, hx7⟩ := of_bind hx7
   obtain ⟨hg12, hx7⟩ := of_guard hx7
   refine HT.dr2 5 [⟨oH, []⟩, ⟨oH, [0]⟩, ⟨oH, []⟩, ⟨⟨none, .call [.own (.bx (.st (.pair (.sl (.int .u8)) (.pair tI (.int .u64))))), .imm tI] [⟨false, tI, y10.1⟩] [⟨(.bx (.st (.pair (.sl (.int .u8)) (.pair tI (.int .u64))))), [y10.2]⟩]⟩, [2]⟩, ⟨⟨none, .ty tI⟩, [2, 3]⟩] [[0, 1, 2, 3, 4], [0, 1, 2, 3, 4, 5], [0, 1, 2, 3, 4, 5, 6]] [⟨none, .ty tI⟩, oH, oH] ⟨[(0, .one (.elp 0 0 3 0)), (2, pV 1 0), (3, iV (wadd .i64 (1 : Int) y1.1)), (4, pV 2 0), (5, iV s3.1)], [(2, .box [.all 7, .all 4, .all 5]), (7, .seq tI (s3.2.2.1 ++ ([y10.1] : List Int))), (0, .seq (.st (.pair (.sl (.int .u8)) (.pair tI (.int .u64)))) ([y10.2])), (1, .box [.nilS, .nilS, .nilS]), (4, .seq tI s3.2.2.2.1), (5, .seq tLI s3.2.2.2.2)], 8⟩ hX (by kernel_rfl) (by kernel_rfl) (aC (f94_ok hc11) (aC hg12 aN)) ?_
   obtain ⟨y13, hc14, hx7⟩ := of_bind hx7
   obtain ⟨hg15, hx7⟩ := of_guard hx7
   refine HT.dr2 5 [⟨oH, []⟩, ⟨oH, [0]⟩, ⟨oH, []⟩, ⟨⟨none, .call [.own (.bx (.st (.pair (.sl (.int .u8)) (.pair tI (.int .u64))))), .imm tI] [⟨false, tI, y13.1⟩] [⟨(.bx (.st (.pair (.sl (.int .u8)) (.pair tI (.int .u64))))), [y13.2]⟩]⟩, [2]⟩, ⟨⟨none, .ty tI⟩, [2, 3]⟩] [[0, 1, 2, 3, 4], [0, 1, 2, 3, 4, 5], [0, 1, 2, 3, 4, 5, 6]] [⟨none, .ty tI⟩, oH, oH] ⟨[(0, .one (.elp 0 0 3 0)), (2, pV 1 0), (3, iV (wadd .i64 (1 : Int) y1.1)), (4, pV 2 0), (5, iV s3.1)], [(2, .box [.all 7, .all 9, .all 5]), (9, .seq tI (s3.2.2.2.1 ++ ([y13.1] : List Int))), (0, .seq (.st (.pair (.sl (.int .u8)) (.pair tI (.int .u64)))) ([y13.2])), (7, .seq tI (s3.2.2.1 ++ ([y10.1] : List Int))), (1, .box [.nilS, .nilS, .nilS]), (5, .seq tLI s3.2.2.2.2)], 10⟩ hX (by kernel_rfl) (by kernel_rfl) (aC (f94_ok hc14) (aC hg15 aN)) ?_
   refine HT.rg2 (oHs 2) ⟨[(0, .one (.elp 0 0 3 0)), (2, pV 1 0), (3, iV (wadd .i64 (1 : Int) y1.1)), (4, pV 2 0), (5, iV s3.1), (6, .one (.nilS))], [(2, .box [.all 7, .all 9, .all 5]), (9, .seq tI (s3.2.2.2.1 ++ ([y13.1] : List Int))), (0, .seq (.st (.pair (.sl (.int .u8)) (.pair tI (.int .u64)))) ([y13.2])), (7, .seq tI (s3.2.2.1 ++ ([y10.1] : List Int))), (1, .box [.nilS, .nilS, .nilS]), (5, .seq tLI s3.2.2.2.2)], 10⟩ hX (by kernel_rfl) aN ?_
   refine HT.seq ?_
   refine HT.rg2 [oH] ⟨[(0, .one (.elp 0 0 3 0)), (2, pV 1 0), (3, iV (wadd .i64 (1 : Int) y1.1)), (4, pV 2 0), (5, iV s3.1), (6, .one (.nilS)), (7, iV (0 : Int))], [(2, .box [.all 7, .all 9, .all 5]), (9, .seq tI (s3.2.2.2.1 ++ ([y13.1] : List Int))), (0, .seq (.st (.pair (.sl (.int .u8)) (.pair tI (.int .u64)))) ([y13.2])), (7, .seq tI (s3.2.2.1 ++ ([y10.1] : List Int))), (1, .box [.nilS, .nilS, .nilS]), (5, .seq tLI s3.2.2.2.2)], 10⟩ hX (by kernel_rfl) aN ?_
   refine HT.block ?_
   obtain ⟨r17, hL38, hx7⟩ := of_bind hx7
   refine HT.loopL (fun (s16 : Int × (List Int × Int × Int) × List Int) => ⟨[(0, .one (.elp 0 0 3 0)), (2, pV 1 0), (3, iV (wadd .i64 (1 : Int) y1.1)), (4, pV 2 0), (5, iV s3.1), (6, aV 3), (7, iV s16.1)], [(0, .seq (.st (.pair (.sl (.int .u8)) (.pair tI (.int .u64)))) ([s16.2.1])), (1, .box [.nilS, .nilS, .nilS]), (2, .box [.all 4, .all 5, .all 6]), (3, .seq tI s16.2.2), (4, .seq tI (s3.2.2.1 ++ ([y10.1] : List Int))), (5, .seq tI (s3.2.2.2.1 ++ ([y13.1] : List Int))), (6, .seq tLI s3.2.2.2.2)], 7⟩) (fun (r18 : ((List Int × Int × Int) × List Int)) => (.exit 2, ⟨[(0, .one (.elp 0 0 3 0)), (2, pV 1 0), (3, iV (wadd .i64 (1 : Int) y1.1)), (4, pV 2 0), (5, iV s3.1), (6, aV 3)], [(0, .seq (.st (.pair (.sl (.int .u8)) (.pair tI (.int .u64)))) ([r18.1])), (1, .box [.nilS, .nilS, .nilS]), (2, .box [.all 4, .all 5, .all 6]), (3, .seq tI r18.2), (4, .seq tI (s3.2.2.1 ++ ([y10.1] : List Int))), (5, .seq tI (s3.2.2.2.1 ++ ([y13.1] : List Int))), (6, .seq tLI s3.2.2.2.2)], 7⟩)) (Le.re [(0, 0), (1, 1), (2, 2), (7, 4), (9, 5), (5, 6)] [3] hX (by kernel_rfl)) hL38 ?_ (fun s16 x27 hx28 hk29 => ?_)
   ·refine (qBlockX (qThen ?_))
    obtain ⟨v19', hT21, hx7⟩ := of_bind hx7
    refine HT.join (fun (v19 : (List Int × Int × Int) × List Int) => ⟨[(0, .one (.elp 0 0 3 0)), (2, pV 1 0), (3, iV (wadd .i64 (1 : Int) y1.1)), (4, pV 2 0), (5, iV s3.1), (6, aV 3)], [(0, .seq (.st (.pair (.sl (.int .u8)) (.pair tI (.int .u64)))) ([v19.1])), (1, .box [.nilS, .nilS, .nilS]), (2, .box [.all 4, .all 5, .all 6]), (3, .seq tI v19.2), (4, .seq tI (s3.2.2.1 ++ ([y10.1] : List Int))), (5, .seq tI (s3.2.2.2.1 ++ ([y13.1] : List Int))), (6, .seq tLI s3.2.2.2.2)], 7⟩) (fun v => v = v19') (fun v19 hv20 => ?_) (fun cont => ?_)
    ·subst hv20
     refine (Le.rz [(0, 0), (1, 1), (2, 2), (4, 4), (5, 5), (6, 6)] [] (st' := ⟨[(0, .one (.elp 0 0 3 0)), (2, pV 1 0), (3, iV (wadd .i64 (1 : Int) y1.1)), (4, pV 2 0), (5, iV s3.1), (6, nV v19.2)], [(0, .seq (.st (.pair (.sl (.int .u8)) (.pair tI (.int .u64)))) ([v19.1])), (1, .box [.nilS, .nilS, .nilS]), (2, .box [.all 4, .all 5, .all 6]), (4, .seq tI (s3.2.2.1 ++ ([y10.1] : List Int))), (5, .seq tI (s3.2.2.2.1 ++ ([y13.1] : List Int))), (6, .seq tLI s3.2.2.2.2)], 7⟩) hX hF (by kernel_rfl)).ht ?_
     obtain ⟨hg22, hx7⟩ := of_guard hx7
     refine HT.rgL [oH, oH, oH, ⟨none, .ty tLI⟩, ⟨none, .ty tLI⟩, oH, oH] ⟨[(0, .one (.elp 0 0 3 0)), (2, pV 1 0), (3, iV (wadd .i64 (1 : Int) y1.1)), (4, pV 2 0), (5, iV s3.1)], [(2, .box [.all 4, .all 5, .all 8]), (8, .seq tLI (s3.2.2.2.2 ++ ([v19.2] : List (List Int)))), (0, .seq (.st (.pair (.sl (.int .u8)) (.pair tI (.int .u64)))) ([v19.1])), (1, .box [.nilS, .nilS, .nilS]), (4, .seq tI (s3.2.2.1 ++ ([y10.1] : List Int))), (5, .seq tI (s3.2.2.2.1 ++ ([y13.1] : List Int)))], 9⟩ hX (by kernel_rfl) (aC hg22 aN) (qBlock (qThen ?_))
     have hx7 := of_some hx7
     subst hx7
     exact HT.rgK (oHs 3) [(0, 0), (1, 1), (2, 2), (4, 3), (5, 4), (8, 5)] [] hX (by kernel_rfl) aN (fun _ h => (qLoopN ⟨((wadd .i64 s3.1 (1 : Int)), v19.1, (s3.2.2.1 ++ ([y10.1] : List Int)), (s3.2.2.2.1 ++ ([y13.1] : List Int)), (s3.2.2.2.2 ++ ([v19.2] : List (List Int)))), rfl, h⟩))
    ·refine HT.rg2 (oHs 3) ⟨[(0, .one (.elp 0 0 3 0)), (2, pV 1 0), (3, iV (wadd .i64 (1 : Int) y1.1)), (4, pV 2 0), (5, iV s3.1), (6, aV 3), (45, bV ((lenI r17.2) == (0 : Int)))], [(0, .seq (.st (.pair (.sl (.int .u8)) (.pair tI (.int .u64)))) ([r17.1])), (1, .box [.nilS, .nilS, .nilS]), (2, .box [.all 4, .all 5, .all 6]), (3, .seq tI r17.2), (4, .seq tI (s3.2.2.1 ++ ([y10.1] : List Int))), (5, .seq tI (s3.2.2.2.1 ++ ([y13.1] : List Int))), (6, .seq tLI s3.2.2.2.2)], 7⟩ hX (by kernel_rfl) aN ?_
     rcases of_bif hT21 with ⟨hb23, hT21⟩ | ⟨hb23, hT21⟩
     ·refine HT.cond1 rfl hb23 ?_
      obtain ⟨y24, hc25, hT21⟩ := of_bind hT21
      obtain ⟨hg26, hT21⟩ := of_guard hT21
      exact HT.rgK [oH, oH, oH, ⟨none, .call [.own (.bx (.st (.pair (.sl (.int .u8)) (.pair tI (.int .u64))))), .imm tI] [⟨false, tI, y24.1⟩] [⟨(.bx (.st (.pair (.sl (.int .u8)) (.pair tI (.int .u64))))), [y24.2]⟩]⟩, ⟨none, .ty tI⟩, ⟨none, .ty tI⟩, oH] [(0, 0), (1, 1), (2, 2), (8, 3), (4, 4), (5, 5), (6, 6)] [] hX (by kernel_rfl) (aC (f94_ok hc25) (aC hg26 aN)) (fun _ h => (qThen (h.ht (cont (y24.2, (r17.2 ++ ([y24.1] : List Int))) (of_some hT21)))))
     ·refine HT.cond0 rfl hb23 ?_
      refine HT.skip (qThen ?_)
      exact (Le.re [(0, 0), (1, 1), (2, 2), (3, 3), (4, 4), (5, 5), (6, 6)] [] hX (by kernel_rfl)).ht (cont (r17.1, r17.2) (of_some hT21))
   ·refine HT.seq ?_
    refine HT.rg2 (oHs 3) ⟨[(0, .one (.elp 0 0 3 0)), (2, pV 1 0), (3, iV (wadd .i64 (1 : Int) y1.1)), (4, pV 2 0), (5, iV s3.1), (6, aV 3), (7, iV s16.1), (34, bV (decide (s16.1 < (wadd .i64 (1 : Int) y1.1))))], [(0, .seq (.st (.pair (.sl (.int .u8)) (.pair tI (.int .u64)))) ([s16.2.1])), (1, .box [.nilS, .nilS, .nilS]), (2, .box [.all 4, .all 5, .all 6]), (3, .seq tI s16.2.2), (4, .seq tI (s3.2.2.1 ++ ([y10.1] : List Int))), (5, .seq tI (s3.2.2.2.1 ++ ([y13.1] : List Int))), (6, .seq tLI s3.2.2.2.2)], 7⟩ hX (by kernel_rfl) aN ?_
    rcases of_bif hx28 with ⟨hb30, hx28⟩ | ⟨hb30, hx28⟩
    ·refine HT.cond1 rfl hb30 ?_
     refine HT.skip (qThen ?_)
     obtain ⟨v31', hT33, hx28⟩ := of_bind hx28
     refine HT.join (fun (v31 : (List Int × Int × Int) × List Int) => ⟨[(0, .one (.elp 0 0 3 0)), (2, pV 1 0), (3, iV (wadd .i64 (1 : Int) y1.1)), (4, pV 2 0), (5, iV s3.1), (6, aV 3), (7, iV s16.1)], [(0, .seq (.st (.pair (.sl (.int .u8)) (.pair tI (.int .u64)))) ([v31.1])), (1, .box [.nilS, .nilS, .nilS]), (2, .box [.all 4, .all 5, .all 6]), (3, .seq tI v31.2), (4, .seq tI (s3.2.2.1 ++ ([y10.1] : List Int))), (5, .seq tI (s3.2.2.2.1 ++ ([y13.1] : List Int))), (6, .seq tLI s3.2.2.2.2)], 7⟩) (fun v => v = v31') (fun v31 hv32 => ?_) (fun cont => ?_)
     ·subst hv32
      have hx28 := of_some hx28
      subst hx28
      exact HT.rgK (oHs 3) [(0, 0), (1, 1), (2, 2), (3, 3), (4, 4), (5, 5), (6, 6)] [] hX (by kernel_rfl) aN (fun _ h => (qLoopN ⟨((wadd .i64 s16.1 (1 : Int)), v31.1, v31.2), rfl, h⟩))
     ·refine HT.block ?_
      obtain ⟨y34, hc35, hT33⟩ := of_bind hT33
      refine HT.rg2 [oH, ⟨none, .call [.own (.bx (.st (.pair (.sl (.int .u8)) (.pair tI (.int .u64))))), .imm tI] [⟨false, .bool, y34.1⟩] [⟨(.bx (.st (.pair (.sl (.int .u8)) (.pair tI (.int .u64))))), [y34.2]⟩]⟩] ⟨[(0, .one (.elp 0 0 3 0)), (2, pV 1 0), (3, iV (wadd .i64 (1 : Int) y1.1)), (4, pV 2 0), (5, iV s3.1), (6, aV 3), (7, iV s16.1), (38, bV y34.1)], [(0, .seq (.st (.pair (.sl (.int .u8)) (.pair tI (.int .u64)))) ([y34.2])), (1, .box [.nilS, .nilS, .nilS]), (2, .box [.all 4, .all 5, .all 6]), (3, .seq tI s16.2.2), (4, .seq tI (s3.2.2.1 ++ ([y10.1] : List Int))), (5, .seq tI (s3.2.2.2.1 ++ ([y13.1] : List Int))), (6, .seq tLI s3.2.2.2.2)], 7⟩ hX (by kernel_rfl) (aC (f193_ok hc35) aN) ?_
      rcases of_bif hT33 with ⟨hb36, hT33⟩ | ⟨hb36, hT33⟩
      ·refine HT.cond1 rfl hb36 ?_
       obtain ⟨hg37, hT33⟩ := of_guard hT33
       exact HT.rgK [oH, oH, ⟨none, .ty tI⟩, ⟨none, .ty tI⟩, oH] [(0, 0), (1, 1), (2, 2), (8, 3), (4, 4), (5, 5), (6, 6)] [] hX (by kernel_rfl) (aC hg37 aN) (fun _ h => (qBlock (qThen (h.ht (cont (y34.2, (s16.2.2 ++ ([s16.1] : List Int))) (of_some hT33))))))
      ·refine HT.cond0 rfl hb36 ?_
       refine HT.skip (qBlock (qThen ?_))
       exact (Le.re [(0, 0), (1, 1), (2, 2), (3, 3), (4, 4), (5, 5), (6, 6)] [] hX (by kernel_rfl)).ht (cont (y34.2, s16.2.2) (of_some hT33))
    ·refine HT.cond0 rfl hb30 ?_
     have hx28 := of_some hx28
     subst hx28
     exact HT.exitL (Le.re [(0, 0), (1, 1), (2, 2), (3, 3), (4, 4), (5, 5), (6, 6)] [] hX (by kernel_rfl)) (qThenE (qLoopE (hk29 (s16.2.1, s16.2.2) rfl)))
  ·refine HT.cond0 rfl hb9 ?_
   have hx7 := of_some hx7
   subst hx7
   exact HT.exitL (Le.re [(0, 0), (1, 1), (2, 2), (3, 3), (4, 4), (5, 5)] [] hX (by kernel_rfl)) (qThenE (qLoopE (hk8 (s3.2.1, s3.2.2.1, s3.2.2.2.1, s3.2.2.2.2) rfl)))

noncomputable def spec_B10Game (a0 : List Int) : Option ((TyG)) :=
 (spec_l00From a0).bind fun y1 =>
 (spec_l07DrawGameOk y1).bind fun y3 =>
 some (y3.1.1, y3.1.2.1, y3.1.2.2)

theorem f46_ok {a0 : List Int} {r : (TyG)} (hr : spec_B10Game a0 = some r) : CallOK Try.prog 46 [.imm (.sl (.int .u8)) a0] [⟨false, tG, r⟩] [] := by
 unfold spec_B10Game at hr
 refine CallOK.of_body (ts := [(false, tG)]) Try.func46 rfl (by kernel_rfl) (Nat.le_of_ble_eq_true (by kernel_rfl)) fun cx hP hN hO hF => ?_
 have hO : cx.own.map Prod.fst = [] := hO
 have hX := CxIs.mk hP hN hO
 have hF := hF rfl
 show HT cx ⟨[(0, .one (.dat (.sl (.int .u8)) a0))], [], 0⟩ _ _
 refine HT.rg2 [oH] ⟨[(0, .one (.dat (.sl (.int .u8)) a0)), (2, pV 0 0)], [(0, .box [.nilS, .nilS, .nilS])], 1⟩ hX (by kernel_rfl) aN ?_
 obtain ⟨y1, hc2, hr⟩ := of_bind hr
 refine HT.rg2 [oH, ⟨none, .call [.imm (.sl (.int .u8))] [⟨true, (.bx (.st (.pair (.sl (.int .u8)) (.pair tI (.int .u64))))), [y1]⟩] []⟩, oH] ⟨[(2, pV 0 0), (3, .one (.elp 1 0 3 0))], [(1, .seq (.st (.pair (.sl (.int .u8)) (.pair tI (.int .u64)))) ([y1])), (0, .box [.nilS, .nilS, .nilS])], 2⟩ hX (by kernel_rfl) (aC (f93_ok hc2) aN) ?_
 obtain ⟨y3, hc4, hr⟩ := of_bind hr
 refine HT.rg2 [oH, ⟨none, .call [.own (.bx (.st (.pair (.sl (.int .u8)) (.pair tI (.int .u64)))))] [⟨false, tG, y3.1⟩] [⟨(.bx (.st (.pair (.sl (.int .u8)) (.pair tI (.int .u64))))), [y3.2]⟩]⟩, oH] ⟨[(2, pV 0 0)], [(0, .box [nC y3.1.1, nC y3.1.2.1, .dat (.sl tLI) y3.1.2.2])], 2⟩ hX (by kernel_rfl) (aC (f125_ok hc4) aN) ?_
 have hr := of_some hr
 subst hr
 exact HT.ret ⟨[.agg [nC y3.1.1, nC y3.1.2.1, .dat (.sl tLI) y3.1.2.2]], [], [], by kernel_rfl, by kernel_rfl, rfl, by kernel_rfl, by kernel_rfl, trivial⟩

noncomputable def impl_within (a0 : Int) (a1 : Int) (a2 : Int) : Option (Bool) :=
 (show Option (Bool) from
  bif (decide (a0 ≥ a1)) then
   some (decide (a0 ≤ a2))
  else
   some false).bind fun v1 =>
 some v1

theorem f111_ok {a0 : Int} {a1 : Int} {a2 : Int} {r : Bool} (hr : impl_within a0 a1 a2 = some r) : CallOK Try.prog 111 [.imm tI a0, .imm tI a1, .imm tI a2] [⟨false, .bool, r⟩] [] := by
 unfold impl_within at hr
 refine CallOK.of_body (ts := [(false, .bool)]) Try.func111 rfl (by kernel_rfl) (Nat.le_of_ble_eq_true (by kernel_rfl)) fun cx hP hN hO hF => ?_
 have hO : cx.own.map Prod.fst = [] := hO
 have hX := CxIs.mk hP hN hO
 have hF := hF rfl
 show HT cx ⟨[(0, iV a0), (1, iV a1), (2, iV a2)], [], 0⟩ _ _
 refine HT.rg2 [oH] ⟨[(0, iV a0), (1, iV a1), (2, iV a2)], [], 0⟩ hX (by kernel_rfl) aN ?_
 obtain ⟨v1', hT3, hr⟩ := of_bind hr
 refine HT.join (fun (v1 : Bool) => ⟨[(6, bV v1)], [], 0⟩) (fun v => v = v1') (fun v1 hv2 => ?_) (fun cont => ?_)
 ·subst hv2
  have hr := of_some hr
  subst hr
  exact HT.ret ⟨[bV v1], [], [], by kernel_rfl, by kernel_rfl, rfl, by kernel_rfl, by kernel_rfl, trivial⟩
 ·rcases of_bif hT3 with ⟨hb4, hT3⟩ | ⟨hb4, hT3⟩
  ·exact HT.rgK [oH, oH, oH, oH, oT, oT, oT, vT, oH] [] [] hX (by kernel_rfl) (aC hb4 (aC hb4 (aC hb4 (aC hb4 aN)))) (fun _ h => (qThen (h.ht (cont (decide (a0 ≤ a2)) (of_some hT3)))))
  ·exact HT.rgK [oH, oH, oH, oH, oF, oF, oF, vF, oH] [] [] hX (by kernel_rfl) (aC hb4 (aC hb4 (aC hb4 (aC hb4 aN)))) (fun _ h => (qThen (h.ht (cont false (of_some hT3)))))

noncomputable def impl_isSet_B1 (a0 : List Int) (a1 : Int) (s1 : Int) : Option ((Int) ⊕ (Unit ⊕ Unit)) :=
 bif (decide (s1 < (lenI a0))) then
  guardP ((0 : Int) ≤ s1 ∧ s1 < lenI a0) (
   (show Option (Bool) from
    (impl_within (List.getD a0 (Int.toNat s1) (0 : Int)) (0 : Int) (wsub .i64 a1 (1 : Int))).bind fun y14 =>
    bif (!y14) then
     some true
    else
     bif (decide (s1 > (0 : Int))) then
      guardP ((0 : Int) ≤ (wsub .i64 s1 (1 : Int)) ∧ (wsub .i64 s1 (1 : Int)) < lenI a0) (
       some (decide ((List.getD a0 (Int.toNat s1) (0 : Int)) ≤ (List.getD a0 (Int.toNat (wsub .i64 s1 (1 : Int))) (0 : Int)))))
     else
      some false).bind fun v10 =>
   bif v10 then
    some (.inr (.inr ()))
   else
    some (.inl (wadd .i64 s1 (1 : Int))))
 else
  some (.inr (.inl ()))

noncomputable def impl_isSet (a0 : List Int) (a1 : Int) : Option (Bool) :=
 (rounds (impl_isSet_B1 a0 a1) (0 : Int)).bind fun r2 => match r2 with
  | .inl r3 =>
   some true
  | .inr r4 =>
   some false

theorem f135_ok {a0 : List Int} {a1 : Int} {r : Bool} (hr : impl_isSet a0 a1 = some r) : CallOK Try.prog 135 [.imm tLI a0, .imm tI a1] [⟨false, .bool, r⟩] [] := by
 unfold impl_isSet at hr
 refine CallOK.of_body (ts := [(false, .bool)]) Try.func135 rfl (by kernel_rfl) (Nat.le_of_ble_eq_true (by kernel_rfl)) fun cx hP hN hO hF => ?_
 have hO : cx.own.map Prod.fst = [] := hO
 have hX := CxIs.mk hP hN hO
 have hF := hF rfl
 show HT cx ⟨[(0, nV a0), (1, iV a1)], [], 0⟩ _ _
 refine HT.rg2 [oH] ⟨[(0, nV a0), (1, iV a1)], [], 0⟩ hX (by kernel_rfl) aN ?_
 refine HT.seq ?_
 refine HT.rg2 (oHs 3) ⟨[(0, nV a0), (1, iV a1), (7, nV a0), (8, iV (lenI a0)), (9, iV (0 : Int))], [], 0⟩ hX (by kernel_rfl) aN ?_
 refine HT.block ?_
 obtain ⟨r2, hL19, hr⟩ := of_bind hr
 refine HT.loopL (fun (s1 : Int) => ⟨[(0, nV a0), (1, iV a1), (7, nV a0), (8, iV (lenI a0)), (9, iV s1)], [], 0⟩) (fun (r2 : Unit ⊕ Unit) => match r2 with | .inl r3 => (.exit 0, ⟨[], [], 0⟩) | .inr r4 => (.ret, ⟨[(4, bV false)], [], 0⟩)) (Le.re [] [] hX (by kernel_rfl)) hL19 ?_ (fun s1 x5 hx6 hk7 => ?_)
 ·rcases r2 with r3 | r4
  ·refine (qBlockX (qThen ?_))
   refine HT.rg2 [oH] ⟨[(4, bV true)], [], 0⟩ hX (by kernel_rfl) aN ?_
   have hr := of_some hr
   subst hr
   exact HT.ret ⟨[bV true], [], [], by kernel_rfl, by kernel_rfl, rfl, by kernel_rfl, by kernel_rfl, trivial⟩
  ·have hr := of_some hr
   subst hr
   exact (qBlockR (qThenR ⟨[bV false], [], [], by kernel_rfl, by kernel_rfl, rfl, by kernel_rfl, by kernel_rfl, trivial⟩))
 ·refine HT.rg2 [oH] ⟨[(0, nV a0), (1, iV a1), (7, nV a0), (8, iV (lenI a0)), (9, iV s1), (10, bV (decide (s1 < (lenI a0))))], [], 0⟩ hX (by kernel_rfl) aN ?_
  refine HT.seq ?_
  rcases of_bif hx6 with ⟨hb8, hx6⟩ | ⟨hb8, hx6⟩
  ·refine HT.cond1 rfl hb8 ?_
   refine HT.skip (qThen ?_)
   refine HT.seq ?_
   refine HT.block ?_
   obtain ⟨hg9, hx6⟩ := of_guard hx6
   refine HT.rg2 (oHs 5) ⟨[(0, nV a0), (1, iV a1), (5, iV s1), (6, iV (List.getD a0 (Int.toNat s1) (0 : Int))), (7, nV a0), (8, iV (lenI a0)), (9, iV s1)], [], 0⟩ hX (by kernel_rfl) (aC hg9 aN) ?_
   obtain ⟨v10', hT12, hx6⟩ := of_bind hx6
   refine HT.join (fun (v10 : Bool) => ⟨[(0, nV a0), (1, iV a1), (7, nV a0), (8, iV (lenI a0)), (9, iV s1), (31, bV v10)], [], 0⟩) (fun v => v = v10') (fun v10 hv11 => ?_) (fun cont => ?_)
   ·subst hv11
    rcases of_bif hx6 with ⟨hb13, hx6⟩ | ⟨hb13, hx6⟩
    ·refine HT.cond1 rfl hb13 ?_
     refine HT.rg2 [oH] ⟨[(4, bV false)], [], 0⟩ hX (by kernel_rfl) aN ?_
     have hx6 := of_some hx6
     subst hx6
     exact HT.retL (Le.re [] [] hX (by kernel_rfl)) (qBlockR (qThenR (qLoopR (hk7 (.inr ()) rfl))))
    ·refine HT.cond0 rfl hb13 ?_
     refine HT.skip (qBlock (qThen ?_))
     have hx6 := of_some hx6
     subst hx6
     exact HT.rgK (oHs 2) [] [] hX (by kernel_rfl) aN (fun _ h => (qLoopN ⟨(wadd .i64 s1 (1 : Int)), rfl, h⟩))
   ·obtain ⟨y14, hc15, hT12⟩ := of_bind hT12
    rcases of_bif hT12 with ⟨hb16, hT12⟩ | ⟨hb16, hT12⟩
    ·exact HT.rgK [oH, oH, oH, ⟨none, .call [.imm tI, .imm tI, .imm tI] [⟨false, .bool, y14⟩] []⟩, oH, oH, oT, oT, oT, oH, oH, oH, oH, oH, oH, oH, oT, vT] [] [] hX (by kernel_rfl) (aC (f111_ok hc15) (aC hb16 (aC hb16 (aC hb16 (aC hb16 (aC hb16 aN)))))) (fun _ h => (qThen (h.ht (cont true (of_some hT12)))))
    ·rcases of_bif hT12 with ⟨hb17, hT12⟩ | ⟨hb17, hT12⟩
     ·obtain ⟨hg18, hT12⟩ := of_guard hT12
      exact HT.rgK [oH, oH, oH, ⟨none, .call [.imm tI, .imm tI, .imm tI] [⟨false, .bool, y14⟩] []⟩, oH, oH, oF, oF, oF, oT, oT, oT, oT, oT, oT, oT, ⟨some false, .tv true⟩, vF] [] [] hX (by kernel_rfl) (aC (f111_ok hc15) (aC hb16 (aC hb16 (aC hb16 (aC hb17 (aC hb17 (aC hb17 (aC hb17 (aC hb17 (aC hg18 (aC hb17 (aC hb17 (aC hb16 (aC hb17 (aC hb16 aN))))))))))))))) (fun _ h => (qThen (h.ht (cont (decide ((List.getD a0 (Int.toNat s1) (0 : Int)) ≤ (List.getD a0 (Int.toNat (wsub .i64 s1 (1 : Int))) (0 : Int)))) (of_some hT12)))))
     ·exact HT.rgK [oH, oH, oH, ⟨none, .call [.imm tI, .imm tI, .imm tI] [⟨false, .bool, y14⟩] []⟩, oH, oH, oF, oF, oF, oF, oF, oF, oF, oF, oF, oF, ⟨some false, .tv false⟩, vF] [] [] hX (by kernel_rfl) (aC (f111_ok hc15) (aC hb16 (aC hb16 (aC hb16 (aC hb17 (aC hb17 (aC hb17 (aC hb17 (aC hb17 (aC hb17 (aC hb17 (aC hb16 (aC hb17 (aC hb16 aN)))))))))))))) (fun _ h => (qThen (h.ht (cont false (of_some hT12)))))
  ·refine HT.cond0 rfl hb8 ?_
   have hx6 := of_some hx6
   subst hx6
   exact HT.exitL (Le.re [] [] hX (by kernel_rfl)) (qThenE (qLoopE (hk7 (.inl ()) rfl)))

noncomputable def impl_ValidGame_1 (a0 : List Int) (a1 : Int) : Option (Bool) :=
 (show Option (Bool) from
  bif ((lenI a0) == (0 : Int)) then
   some true
  else
   (impl_isSet a0 a1).bind fun y5 =>
   some (!y5)).bind fun v1 =>
 some v1

theorem f134_ok {a0 : List Int} {a1 : Int} {r : Bool} (hr : impl_ValidGame_1 a0 a1 = some r) : CallOK Try.prog 134 [.imm tLI a0, .pimm tI a1] [⟨false, .bool, r⟩] [] := by
 unfold impl_ValidGame_1 at hr
 refine CallOK.of_body (ts := [(false, .bool)]) Try.func134 rfl (by kernel_rfl) (Nat.le_of_ble_eq_true (by kernel_rfl)) fun cx hP hN hO hF => ?_
 have hO : cx.own.map Prod.fst = [] := hO
 have hX := CxIs.mk hP hN hO
 have hF := hF rfl
 show HT cx ⟨[(0, nV a0), (1, .one (.ip tI a1 0))], [], 0⟩ _ _
 refine HT.rg2 [oH] ⟨[(0, nV a0), (1, .one (.ip tI a1 0))], [], 0⟩ hX (by kernel_rfl) aN ?_
 obtain ⟨v1', hT3, hr⟩ := of_bind hr
 refine HT.join (fun (v1 : Bool) => ⟨[(3, bV v1)], [], 0⟩) (fun v => v = v1') (fun v1 hv2 => ?_) (fun cont => ?_)
 ·subst hv2
  have hr := of_some hr
  subst hr
  exact HT.ret ⟨[bV v1], [], [], by kernel_rfl, by kernel_rfl, rfl, by kernel_rfl, by kernel_rfl, trivial⟩
 ·rcases of_bif hT3 with ⟨hb4, hT3⟩ | ⟨hb4, hT3⟩
  ·exact HT.rgK [oH, oH, oH, oH, oT, oT, oT, oT, vT, oH] [] [] hX (by kernel_rfl) (aC hb4 (aC hb4 (aC hb4 (aC hb4 (aC hb4 aN))))) (fun _ h => (qThen (h.ht (cont true (of_some hT3)))))
  ·obtain ⟨y5, hc6, hT3⟩ := of_bind hT3
   exact HT.rgK [oH, oH, oH, oH, oF, oF, ⟨some false, .call [.imm tLI, .imm tI] [⟨false, .bool, y5⟩] []⟩, oF, vF, oH] [] [] hX (by kernel_rfl) (aC hb4 (aC hb4 (aC hb4 (aC (f135_ok hc6) (aC hb4 (aC hb4 aN)))))) (fun _ h => (qThen (h.ht (cont (!y5) (of_some hT3)))))

noncomputable def slices_IndexFunc_____int64___int64_clo1_impl_ValidGame_1_B1 (a0 : List (List Int)) (a1 : Int) (s1 : Int) : Option ((Int) ⊕ (Unit ⊕ Int)) :=
 bif (decide (s1 < (lenI a0))) then
  guardP ((0 : Int) ≤ s1 ∧ s1 < lenI a0) (
   (impl_ValidGame_1 (List.getD a0 (Int.toNat s1) ([] : List Int)) a1).bind fun y10 =>
   bif y10 then
    some (.inr (.inr s1))
   else
    some (.inl (wadd .i64 s1 (1 : Int))))
 else
  some (.inr (.inl ()))

noncomputable def slices_IndexFunc_____int64___int64_clo1_impl_ValidGame_1 (a0 : List (List Int)) (a1 : Int) : Option (Int) :=
 (rounds (slices_IndexFunc_____int64___int64_clo1_impl_ValidGame_1_B1 a0 a1) (0 : Int)).bind fun r2 => match r2 with
  | .inl r3 =>
   some (-1 : Int)
  | .inr r4 =>
   some r4

theorem f205_clo1_impl_ValidGame_1_ok {a0 : List (List Int)} {a1 : Int} {r : Int} (hr : slices_IndexFunc_____int64___int64_clo1_impl_ValidGame_1 a0 a1 = some r) : CallOK Try.prog 205 [.imm (.sl tLI) a0, .clo 134 tI a1] [⟨false, tI, r⟩] [] := by
 unfold slices_IndexFunc_____int64___int64_clo1_impl_ValidGame_1 at hr
 refine CallOK.of_body (ts := [(false, tI)]) Try.func205 rfl (by kernel_rfl) (Nat.le_of_ble_eq_true (by kernel_rfl)) fun cx hP hN hO hF => ?_
 have hO : cx.own.map Prod.fst = [] := hO
 have hX := CxIs.mk hP hN hO
 have hF := hF rfl
 show HT cx ⟨[(0, .one (.dat (.sl tLI) a0)), (1, .one (.clo 134 tI a1))], [], 0⟩ _ _
 refine HT.rg2 [oH] ⟨[(0, .one (.dat (.sl tLI) a0)), (1, .one (.clo 134 tI a1))], [], 0⟩ hX (by kernel_rfl) aN ?_
 refine HT.seq ?_
 refine HT.rg2 (oHs 3) ⟨[(0, .one (.dat (.sl tLI) a0)), (1, .one (.clo 134 tI a1)), (7, iV (lenI a0)), (8, iV (0 : Int))], [], 0⟩ hX (by kernel_rfl) aN ?_
 refine HT.block ?_
 obtain ⟨r2, hL13, hr⟩ := of_bind hr
 refine HT.loopL (fun (s1 : Int) => ⟨[(0, .one (.dat (.sl tLI) a0)), (1, .one (.clo 134 tI a1)), (7, iV (lenI a0)), (8, iV s1)], [], 0⟩) (fun (r2 : Unit ⊕ Int) => match r2 with | .inl r3 => (.exit 0, ⟨[], [], 0⟩) | .inr r4 => (.ret, ⟨[(4, iV r4)], [], 0⟩)) (Le.re [] [] hX (by kernel_rfl)) hL13 ?_ (fun s1 x5 hx6 hk7 => ?_)
 ·rcases r2 with r3 | r4
  ·refine (qBlockX (qThen ?_))
   refine HT.rg2 [oH] ⟨[(4, iV (-1 : Int))], [], 0⟩ hX (by kernel_rfl) aN ?_
   have hr := of_some hr
   subst hr
   exact HT.ret ⟨[iV (-1 : Int)], [], [], by kernel_rfl, by kernel_rfl, rfl, by kernel_rfl, by kernel_rfl, trivial⟩
  ·have hr := of_some hr
   subst hr
   exact (qBlockR (qThenR ⟨[iV r4], [], [], by kernel_rfl, by kernel_rfl, rfl, by kernel_rfl, by kernel_rfl, trivial⟩))
 ·refine HT.rg2 [oH] ⟨[(0, .one (.dat (.sl tLI) a0)), (1, .one (.clo 134 tI a1)), (7, iV (lenI a0)), (8, iV s1), (9, bV (decide (s1 < (lenI a0))))], [], 0⟩ hX (by kernel_rfl) aN ?_
  refine HT.seq ?_
  rcases of_bif hx6 with ⟨hb8, hx6⟩ | ⟨hb8, hx6⟩
  ·refine HT.cond1 rfl hb8 ?_
   refine HT.skip (qThen ?_)
   refine HT.seq ?_
   refine HT.block ?_
   refine HT.rg2 (oHs 2) ⟨[(0, .one (.dat (.sl tLI) a0)), (1, .one (.clo 134 tI a1)), (5, iV s1), (7, iV (lenI a0)), (8, iV s1)], [], 0⟩ hX (by kernel_rfl) aN ?_
   obtain ⟨hg9, hx6⟩ := of_guard hx6
   obtain ⟨y10, hc11, hx6⟩ := of_bind hx6
   refine HT.rg2 [oH, oH, oH, oH, oH, ⟨none, .call [.imm tLI, .pimm tI] [⟨false, .bool, y10⟩] []⟩] ⟨[(0, .one (.dat (.sl tLI) a0)), (1, .one (.clo 134 tI a1)), (5, iV s1), (7, iV (lenI a0)), (8, iV s1), (16, bV y10)], [], 0⟩ hX (by kernel_rfl) (aC hg9 (aC (f134_ok hc11) aN)) ?_
   rcases of_bif hx6 with ⟨hb12, hx6⟩ | ⟨hb12, hx6⟩
   ·refine HT.cond1 rfl hb12 ?_
    refine HT.rg2 (oHs 2) ⟨[(4, iV s1)], [], 0⟩ hX (by kernel_rfl) aN ?_
    have hx6 := of_some hx6
    subst hx6
    exact HT.retL (Le.re [] [] hX (by kernel_rfl)) (qBlockR (qThenR (qLoopR (hk7 (.inr s1) rfl))))
   ·refine HT.cond0 rfl hb12 ?_
    refine HT.skip (qBlock (qThen ?_))
    have hx6 := of_some hx6
    subst hx6
    exact HT.rgK (oHs 2) [] [] hX (by kernel_rfl) aN (fun _ h => (qLoopN ⟨(wadd .i64 s1 (1 : Int)), rfl, h⟩))
  ·refine HT.cond0 rfl hb8 ?_
   have hx6 := of_some hx6
   subst hx6
   exact HT.exitL (Le.re [] [] hX (by kernel_rfl)) (qThenE (qLoopE (hk7 (.inl ()) rfl)))

noncomputable def slices_ContainsFunc_____int64___int64_clo1_impl_ValidGame_1 (a0 : List (List Int)) (a1 : Int) : Option (Bool) :=
 (slices_IndexFunc_____int64___int64_clo1_impl_ValidGame_1 a0 a1).bind fun y1 =>
 some (decide (y1 ≥ (0 : Int)))

theorem f133_clo1_impl_ValidGame_1_ok {a0 : List (List Int)} {a1 : Int} {r : Bool} (hr : slices_ContainsFunc_____int64___int64_clo1_impl_ValidGame_1 a0 a1 = some r) : CallOK Try.prog 133 [.imm (.sl tLI) a0, .clo 134 tI a1] [⟨false, .bool, r⟩] [] := by
 unfold slices_ContainsFunc_____int64___int64_clo1_impl_ValidGame_1 at hr
 refine CallOK.of_body (ts := [(false, .bool)]) Try.func133 rfl (by kernel_rfl) (Nat.le_of_ble_eq_true (by kernel_rfl)) fun cx hP hN hO hF => ?_
 have hO : cx.own.map Prod.fst = [] := hO
 have hX := CxIs.mk hP hN hO
 have hF := hF rfl
 show HT cx ⟨[(0, .one (.dat (.sl tLI) a0)), (1, .one (.clo 134 tI a1))], [], 0⟩ _ _
 refine HT.rg2 [oH] ⟨[(0, .one (.dat (.sl tLI) a0)), (1, .one (.clo 134 tI a1))], [], 0⟩ hX (by kernel_rfl) aN ?_
 obtain ⟨y1, hc2, hr⟩ := of_bind hr
 refine HT.rg2 [oH, oH, ⟨none, .call [.imm (.sl tLI), .clo tI] [⟨false, tI, y1⟩] []⟩, oH, oH] ⟨[(4, bV (decide (y1 ≥ (0 : Int))))], [], 0⟩ hX (by kernel_rfl) (aC (f205_clo1_impl_ValidGame_1_ok hc2) aN) ?_
 have hr := of_some hr
 subst hr
 exact HT.ret ⟨[bV (decide (y1 ≥ (0 : Int)))], [], [], by kernel_rfl, by kernel_rfl, rfl, by kernel_rfl, by kernel_rfl, trivial⟩

noncomputable def impl_areWithin_B1 (a0 : List Int) (a1 : Int) (a2 : Int) (s1 : Int) : Option ((Int) ⊕ (Unit ⊕ Unit)) :=
 bif (decide (s1 < (lenI a0))) then
  guardP ((0 : Int) ≤ s1 ∧ s1 < lenI a0) (
   (impl_within (List.getD a0 (Int.toNat s1) (0 : Int)) a1 a2).bind fun y10 =>
   bif (!y10) then
    some (.inr (.inr ()))
   else
    some (.inl (wadd .i64 s1 (1 : Int))))
 else
  some (.inr (.inl ()))

noncomputable def impl_areWithin (a0 : List Int) (a1 : Int) (a2 : Int) : Option (Bool) :=
 (rounds (impl_areWithin_B1 a0 a1 a2) (0 : Int)).bind fun r2 => match r2 with
  | .inl r3 =>
   some true
  | .inr r4 =>
   some false

theorem f113_ok {a0 : List Int} {a1 : Int} {a2 : Int} {r : Bool} (hr : impl_areWithin a0 a1 a2 = some r) : CallOK Try.prog 113 [.imm tLI a0, .imm tI a1, .imm tI a2] [⟨false, .bool, r⟩] [] := by
 unfold impl_areWithin at hr
 refine CallOK.of_body (ts := [(false, .bool)]) Try.func113 rfl (by kernel_rfl) (Nat.le_of_ble_eq_true (by kernel_rfl)) fun cx hP hN hO hF => ?_
 have hO : cx.own.map Prod.fst = [] := hO
 have hX := CxIs.mk hP hN hO
 have hF := hF rfl
 show HT cx ⟨[(0, nV a0), (1, iV a1), (2, iV a2)], [], 0⟩ _ _
 refine HT.rg2 [oH] ⟨[(0, nV a0), (1, iV a1), (2, iV a2)], [], 0⟩ hX (by kernel_rfl) aN ?_
 refine HT.seq ?_
 refine HT.rg2 (oHs 3) ⟨[(1, iV a1), (2, iV a2), (9, nV a0), (10, iV (lenI a0)), (11, iV (0 : Int))], [], 0⟩ hX (by kernel_rfl) aN ?_
 refine HT.block ?_
 obtain ⟨r2, hL13, hr⟩ := of_bind hr
 refine HT.loopL (fun (s1 : Int) => ⟨[(1, iV a1), (2, iV a2), (9, nV a0), (10, iV (lenI a0)), (11, iV s1)], [], 0⟩) (fun (r2 : Unit ⊕ Unit) => match r2 with | .inl r3 => (.exit 0, ⟨[], [], 0⟩) | .inr r4 => (.ret, ⟨[(6, bV false)], [], 0⟩)) (Le.re [] [] hX (by kernel_rfl)) hL13 ?_ (fun s1 x5 hx6 hk7 => ?_)
 ·rcases r2 with r3 | r4
  ·refine (qBlockX (qThen ?_))
   refine HT.rg2 [oH] ⟨[(6, bV true)], [], 0⟩ hX (by kernel_rfl) aN ?_
   have hr := of_some hr
   subst hr
   exact HT.ret ⟨[bV true], [], [], by kernel_rfl, by kernel_rfl, rfl, by kernel_rfl, by kernel_rfl, trivial⟩
  ·have hr := of_some hr
   subst hr
   exact (qBlockR (qThenR ⟨[bV false], [], [], by kernel_rfl, by kernel_rfl, rfl, by kernel_rfl, by kernel_rfl, trivial⟩))
 ·refine HT.rg2 [oH] ⟨[(1, iV a1), (2, iV a2), (9, nV a0), (10, iV (lenI a0)), (11, iV s1), (12, bV (decide (s1 < (lenI a0))))], [], 0⟩ hX (by kernel_rfl) aN ?_
  refine HT.seq ?_
  rcases of_bif hx6 with ⟨hb8, hx6⟩ | ⟨hb8, hx6⟩
  ·refine HT.cond1 rfl hb8 ?_
   refine HT.skip (qThen ?_)
   refine HT.seq ?_
   refine HT.block ?_
   obtain ⟨hg9, hx6⟩ := of_guard hx6
   refine HT.rg2 (oHs 3) ⟨[(1, iV a1), (2, iV a2), (8, iV (List.getD a0 (Int.toNat s1) (0 : Int))), (9, nV a0), (10, iV (lenI a0)), (11, iV s1)], [], 0⟩ hX (by kernel_rfl) (aC hg9 aN) ?_
   obtain ⟨y10, hc11, hx6⟩ := of_bind hx6
   refine HT.rg2 [oH, oH, oH, ⟨none, .call [.imm tI, .imm tI, .imm tI] [⟨false, .bool, y10⟩] []⟩, oH] ⟨[(1, iV a1), (2, iV a2), (9, nV a0), (10, iV (lenI a0)), (11, iV s1), (19, bV (!y10))], [], 0⟩ hX (by kernel_rfl) (aC (f111_ok hc11) aN) ?_
   rcases of_bif hx6 with ⟨hb12, hx6⟩ | ⟨hb12, hx6⟩
   ·refine HT.cond1 rfl hb12 ?_
    refine HT.rg2 [oH] ⟨[(6, bV false)], [], 0⟩ hX (by kernel_rfl) aN ?_
    have hx6 := of_some hx6
    subst hx6
    exact HT.retL (Le.re [] [] hX (by kernel_rfl)) (qBlockR (qThenR (qLoopR (hk7 (.inr ()) rfl))))
   ·refine HT.cond0 rfl hb12 ?_
    refine HT.skip (qBlock (qThen ?_))
    have hx6 := of_some hx6
    subst hx6
    exact HT.rgK (oHs 2) [] [] hX (by kernel_rfl) aN (fun _ h => (qLoopN ⟨(wadd .i64 s1 (1 : Int)), rfl, h⟩))
  ·refine HT.cond0 rfl hb8 ?_
   have hx6 := of_some hx6
   subst hx6
   exact HT.exitL (Le.re [] [] hX (by kernel_rfl)) (qThenE (qLoopE (hk7 (.inl ()) rfl)))

noncomputable def impl_ValidGame (a0 : TyG) : Option (Bool) :=
 (show Option (Bool) from
  (impl_within (lenI a0.1) (1 : Int) (16 : Int)).bind fun y7 =>
  bif (!y7) then
   some true
  else
   bif ((lenI a0.2.1) != (lenI a0.1)) then
    some true
   else
    bif ((lenI a0.2.2) != (lenI a0.1)) then
     some true
    else
     (impl_areWithin a0.1 (0 : Int) (1 : Int)).bind fun y12 =>
     bif (!y12) then
      some true
     else
      (impl_areWithin a0.2.1 (0 : Int) (8 : Int)).bind fun y15 =>
      some (!y15)).bind fun v1 =>
 bif v1 then
  some false
 else
  (slices_ContainsFunc_____int64___int64_clo1_impl_ValidGame_1 a0.2.2 (lenI a0.1)).bind fun y5 =>
  some (!y5)

theorem f53_ok {a0 : TyG} {r : Bool} (hr : impl_ValidGame a0 = some r) : CallOK Try.prog 53 [.imm tG a0] [⟨false, .bool, r⟩] [] := by
 unfold impl_ValidGame at hr
 refine CallOK.of_body (ts := [(false, .bool)]) Try.func53 rfl (by kernel_rfl) (Nat.le_of_ble_eq_true (by kernel_rfl)) fun cx hP hN hO hF => ?_
 have hO : cx.own.map Prod.fst = [] := hO
 have hX := CxIs.mk hP hN hO
 have hF := hF rfl
 show HT cx ⟨[(0, .agg [nC a0.1, nC a0.2.1, .dat (.sl tLI) a0.2.2])], [], 0⟩ _ _
 refine HT.rg2 (oHs 2) ⟨[(1, pV 0 0)], [(0, .box [nC a0.1, nC a0.2.1, .dat (.sl tLI) a0.2.2])], 1⟩ hX (by kernel_rfl) aN ?_
 refine HT.rg2 (oHs 5) ⟨[(1, pV 0 0), (3, pV 1 0)], [(1, .box [iC (lenI a0.1)]), (0, .box [nC a0.1, nC a0.2.1, .dat (.sl tLI) a0.2.2])], 2⟩ hX (by kernel_rfl) aN ?_
 refine HT.seq ?_
 obtain ⟨v1', hT3, hr⟩ := of_bind hr
 refine HT.join (fun (v1 : Bool) => ⟨[(1, pV 0 0), (3, pV 1 0), (35, bV v1)], [(0, .box [nC a0.1, nC a0.2.1, .dat (.sl tLI) a0.2.2]), (1, .box [iC (lenI a0.1)])], 2⟩) (fun v => v = v1') (fun v1 hv2 => ?_) (fun cont => ?_)
 ·subst hv2
  rcases of_bif hr with ⟨hb4, hr⟩ | ⟨hb4, hr⟩
  ·refine HT.cond1 rfl hb4 ?_
   refine HT.rg2 [oH] ⟨[(2, bV false)], [], 2⟩ hX (by kernel_rfl) aN ?_
   have hr := of_some hr
   subst hr
   exact HT.ret (qThenR ⟨[bV false], [], [], by kernel_rfl, by kernel_rfl, rfl, by kernel_rfl, by kernel_rfl, trivial⟩)
  ·refine HT.cond0 rfl hb4 ?_
   refine HT.skip (qThen ?_)
   refine (Le.rz [(0, 0)] [] (st' := ⟨[(1, pV 0 0), (3, .one (.ip tI (lenI a0.1) 0)), (35, bV v1)], [(0, .box [nC a0.1, nC a0.2.1, .dat (.sl tLI) a0.2.2])], 2⟩) hX hF (by kernel_rfl)).ht ?_
   obtain ⟨y5, hc6, hr⟩ := of_bind hr
   refine HT.rg2 [oH, oH, oH, ⟨none, .call [.imm (.sl tLI), .clo tI] [⟨false, .bool, y5⟩] []⟩, oH, oH] ⟨[(2, bV (!y5))], [], 2⟩ hX (by kernel_rfl) (aC (f133_clo1_impl_ValidGame_1_ok hc6) aN) ?_
   have hr := of_some hr
   subst hr
   exact HT.ret ⟨[bV (!y5)], [], [], by kernel_rfl, by kernel_rfl, rfl, by kernel_rfl, by kernel_rfl, trivial⟩
 ·obtain ⟨y7, hc8, hT3⟩ := of_bind hT3
  rcases of_bif hT3 with ⟨hb9, hT3⟩ | ⟨hb9, hT3⟩
  ·exact HT.rgK [oH, ⟨none, .call [.imm tI, .imm tI, .imm tI] [⟨false, .bool, y7⟩] []⟩, oH, oH, oT, oT, oT, oT, oT, vT, oH, oT, oT, oT, oT, oT, vT, oH, oT, oT, oT, oT, vT, oH, oT, oT, oT, oT, vT] [(0, 0), (1, 1)] [] hX (by kernel_rfl) (aC (f111_ok hc8) (aC hb9 (aC hb9 (aC hb9 (aC hb9 (aC hb9 (aC hb9 (aT4 (aT4 (aT4 (aT4 aN))))))))))) (fun _ h => (qThen (h.ht (cont true (of_some hT3)))))
  ·rcases of_bif hT3 with ⟨hb10, hT3⟩ | ⟨hb10, hT3⟩
   ·exact HT.rgK [oH, ⟨none, .call [.imm tI, .imm tI, .imm tI] [⟨false, .bool, y7⟩] []⟩, oH, oH, oF, oF, oF, oF, oF, vF, oH, oT, oT, oT, oT, oT, vT, oH, oT, oT, oT, oT, vT, oH, oT, oT, oT, oT, vT] [(0, 0), (1, 1)] [] hX (by kernel_rfl) (aC (f111_ok hc8) (aC hb9 (aC hb9 (aC hb9 (aC hb9 (aC hb9 (aC hb9 (aC hb10 (aC hb10 (aC hb10 (aC hb10 (aC hb10 (aC hb10 (aT4 (aT4 (aT (aT aN))))))))))))))))) (fun _ h => (qThen (h.ht (cont true (of_some hT3)))))
   ·rcases of_bif hT3 with ⟨hb11, hT3⟩ | ⟨hb11, hT3⟩
    ·exact HT.rgK [oH, ⟨none, .call [.imm tI, .imm tI, .imm tI] [⟨false, .bool, y7⟩] []⟩, oH, oH, oF, oF, oF, oF, oF, vF, oH, oF, oF, oF, oF, oF, vF, oH, oT, oT, oT, oT, vT, oH, oT, oT, oT, oT, vT] [(0, 0), (1, 1)] [] hX (by kernel_rfl) (aC (f111_ok hc8) (aC hb9 (aC hb9 (aC hb9 (aC hb9 (aC hb9 (aC hb9 (aC hb10 (aC hb10 (aC hb10 (aC hb10 (aC hb10 (aC hb10 (aC hb11 (aC hb11 (aC hb11 (aC hb11 (aC hb11 (aT4 (aT aN)))))))))))))))))))) (fun _ h => (qThen (h.ht (cont true (of_some hT3)))))
    ·obtain ⟨y12, hc13, hT3⟩ := of_bind hT3
     rcases of_bif hT3 with ⟨hb14, hT3⟩ | ⟨hb14, hT3⟩
     ·exact HT.rgK [oH, ⟨none, .call [.imm tI, .imm tI, .imm tI] [⟨false, .bool, y7⟩] []⟩, oH, oH, oF, oF, oF, oF, oF, vF, oH, oF, oF, oF, oF, oF, vF, oH, oF, oF, ⟨some false, .call [.imm tLI, .imm tI, .imm tI] [⟨false, .bool, y12⟩] []⟩, oF, vF, oH, oT, oT, oT, oT, vT] [(0, 0), (1, 1)] [] hX (by kernel_rfl) (aC (f111_ok hc8) (aC hb9 (aC hb9 (aC hb9 (aC hb9 (aC hb9 (aC hb9 (aC hb10 (aC hb10 (aC hb10 (aC hb10 (aC hb10 (aC hb10 (aC hb11 (aC hb11 (aC hb11 (aC (f113_ok hc13) (aC hb11 (aC hb11 (aC hb14 (aC hb14 (aC hb14 (aC hb14 (aC hb14 aN)))))))))))))))))))))))) (fun _ h => (qThen (h.ht (cont true (of_some hT3)))))
     ·obtain ⟨y15, hc16, hT3⟩ := of_bind hT3
      exact HT.rgK [oH, ⟨none, .call [.imm tI, .imm tI, .imm tI] [⟨false, .bool, y7⟩] []⟩, oH, oH, oF, oF, oF, oF, oF, vF, oH, oF, oF, oF, oF, oF, vF, oH, oF, oF, ⟨some false, .call [.imm tLI, .imm tI, .imm tI] [⟨false, .bool, y12⟩] []⟩, oF, vF, oH, oF, oF, ⟨some false, .call [.imm tLI, .imm tI, .imm tI] [⟨false, .bool, y15⟩] []⟩, oF, vF] [(0, 0), (1, 1)] [] hX (by kernel_rfl) (aC (f111_ok hc8) (aC hb9 (aC hb9 (aC hb9 (aC hb9 (aC hb9 (aC hb9 (aC hb10 (aC hb10 (aC hb10 (aC hb10 (aC hb10 (aC hb10 (aC hb11 (aC hb11 (aC hb11 (aC (f113_ok hc13) (aC hb11 (aC hb11 (aC hb14 (aC hb14 (aC hb14 (aC (f113_ok hc16) (aC hb14 (aC hb14 aN))))))))))))))))))))))))) (fun _ h => (qThen (h.ht (cont (!y15) (of_some hT3)))))

noncomputable def impl_Game_all (a0 : TyG) : Option (Int) :=
 guardP ((0 : Int) ≤ (lenI a0.1)) (
  (some (wsub .u32 (IntKind.wrap .u32 ((1 : Int) * 2 ^ (min (Int.toNat (lenI a0.1)) (IntKind.bits .u32)))) (1 : Int))).bind fun q2 =>
  some q2)

theorem f141_ok {a0 : TyG} {r : Int} (hr : impl_Game_all a0 = some r) : CallOK Try.prog 141 [.imm tG a0] [⟨false, (.int .u32), r⟩] [] := by
 unfold impl_Game_all at hr
 refine CallOK.of_body (ts := [(false, (.int .u32))]) Try.func141 rfl (by kernel_rfl) (Nat.le_of_ble_eq_true (by kernel_rfl)) fun cx hP hN hO hF => ?_
 have hO : cx.own.map Prod.fst = [] := hO
 have hX := CxIs.mk hP hN hO
 have hF := hF rfl
 show HT cx ⟨[(0, .agg [nC a0.1, nC a0.2.1, .dat (.sl tLI) a0.2.2])], [], 0⟩ _ _
 refine HT.rg2 (oHs 2) ⟨[(1, pV 0 0)], [(0, .box [nC a0.1, nC a0.2.1, .dat (.sl tLI) a0.2.2])], 1⟩ hX (by kernel_rfl) aN ?_
 obtain ⟨hg1, hr⟩ := of_guard hr
 refine HT.rg2 (oHs 6) ⟨[(2, .one (.dat (.int .u32) (wsub .u32 (IntKind.wrap .u32 ((1 : Int) * 2 ^ (min (Int.toNat (lenI a0.1)) (IntKind.bits .u32)))) (1 : Int))))], [], 1⟩ hX (by kernel_rfl) (aC hg1 aN) ?_
 obtain ⟨q2, hq3, hr⟩ := of_bind hr
 have hq3 := of_some2 hq3
 refine (Le.cv (s := ⟨[], [], [], false⟩) (own := []) (ps := [q2 = (wsub .u32 (IntKind.wrap .u32 ((1 : Int) * 2 ^ (min (Int.toNat (lenI a0.1)) (IntKind.bits .u32)))) (1 : Int))]) (st' := ⟨[(2, .one (.dat (.int .u32) q2))], [], 1⟩) hO (fun h => by cases h) (by kernel_rfl) ⟨hq3, trivial⟩).ht ?_
 have hr := of_some hr
 subst hr
 exact HT.ret ⟨[.one (.dat (.int .u32) q2)], [], [], by kernel_rfl, by kernel_rfl, rfl, by kernel_rfl, by kernel_rfl, trivial⟩

noncomputable def impl_Game_reach_B1 (a0 : TyG) (a1 : Int) (s8 : Int × Bool × Int) (s23 : Bool × Bool × Int) : Option ((Bool × Bool × Int) ⊕ ((Bool × Bool))) :=
 bif (decide (s23.2.2 < (lenI (List.getD a0.2.2 (Int.toNat s8.2.2) ([] : List Int))))) then
  (show Option (Bool × Bool) from
   guardP ((0 : Int) ≤ s23.2.2 ∧ s23.2.2 < lenI (List.getD a0.2.2 (Int.toNat s8.2.2) ([] : List Int))) (
    (some (List.getD (List.getD a0.2.2 (Int.toNat s8.2.2) ([] : List Int)) (Int.toNat s23.2.2) (0 : Int))).bind fun q46 =>
    guardP ((0 : Int) ≤ q46) (
     bif ((IntKind.wrap .u32 (BitVec.ofInt (IntKind.bits .u32) (Int.fdiv a1 (2 ^ (min (Int.toNat q46) (IntKind.bits .u32)))) &&& BitVec.ofInt (IntKind.bits .u32) (1 : Int)).toNat) == (1 : Int)) then
      (show Option (Bool) from
       bif s23.1 then
        some true
       else
        some ((IntKind.wrap .u32 (BitVec.ofInt (IntKind.bits .u32) (Int.fdiv s8.1 (2 ^ (min (Int.toNat q46) (IntKind.bits .u32)))) &&& BitVec.ofInt (IntKind.bits .u32) (1 : Int)).toNat) == (1 : Int))).bind fun v50 =>
      bif s23.2.1 then
       some (v50, ((IntKind.wrap .u32 (BitVec.ofInt (IntKind.bits .u32) (Int.fdiv s8.1 (2 ^ (min (Int.toNat q46) (IntKind.bits .u32)))) &&& BitVec.ofInt (IntKind.bits .u32) (1 : Int)).toNat) == (1 : Int)))
      else
       some (v50, false)
     else
      some (s23.1, s23.2.1)))).bind fun v42 =>
  some (.inl (v42.1, v42.2, (wadd .i64 s23.2.2 (1 : Int))))
 else
  some (.inr (s23.1, s23.2.1))

noncomputable def impl_Game_reach_B2 (a0 : TyG) (a1 : Int) (a3 : Int) (s8 : Int × Bool × Int) : Option ((Int × Bool × Int) ⊕ ((Int × Bool))) :=
 bif (decide (s8.2.2 < (lenI a0.2.2))) then
  (show Option (Int × Bool) from
   guardP ((0 : Int) ≤ s8.2.2 ∧ s8.2.2 < lenI a0.2.2) (
    (show Option (Bool) from
     guardP ((0 : Int) ≤ s8.2.2) (
      bif ((IntKind.wrap .u32 (BitVec.ofInt (IntKind.bits .u32) (Int.fdiv a1 (2 ^ (min (Int.toNat s8.2.2) (IntKind.bits .u32)))) &&& BitVec.ofInt (IntKind.bits .u32) (1 : Int)).toNat) == (0 : Int)) then
       some true
      else
       some ((IntKind.wrap .u32 (BitVec.ofInt (IntKind.bits .u32) (Int.fdiv s8.1 (2 ^ (min (Int.toNat s8.2.2) (IntKind.bits .u32)))) &&& BitVec.ofInt (IntKind.bits .u32) (1 : Int)).toNat) == (1 : Int)))).bind fun v19 =>
    bif v19 then
     some (s8.1, s8.2.1)
    else
     (rounds (impl_Game_reach_B1 a0 a1 s8) (false, true, (0 : Int))).bind fun r25 =>
     (show Option (Bool) from
      guardP ((0 : Int) ≤ s8.2.2 ∧ s8.2.2 < lenI a0.1) (
       bif ((List.getD a0.1 (Int.toNat s8.2.2) (0 : Int)) == a3) then
        bif r25.1 then
         some true
        else
         bif ((List.getD a0.1 (Int.toNat s8.2.2) (0 : Int)) != a3) then
          some r25.2
         else
          some false
       else
        bif ((List.getD a0.1 (Int.toNat s8.2.2) (0 : Int)) != a3) then
         some r25.2
        else
         some false)).bind fun v26 =>
     bif v26 then
      guardP ((0 : Int) ≤ s8.2.2) (
       (some (IntKind.wrap .u32 (BitVec.ofInt (IntKind.bits .u32) s8.1 ||| BitVec.ofInt (IntKind.bits .u32) (IntKind.wrap .u32 ((1 : Int) * 2 ^ (min (Int.toNat s8.2.2) (IntKind.bits .u32))))).toNat)).bind fun q31 =>
       some (q31, true))
     else
      some (s8.1, s8.2.1))).bind fun v15 =>
  some (.inl (v15.1, v15.2, (wadd .i64 s8.2.2 (1 : Int))))
 else
  some (.inr (s8.1, s8.2.1))

noncomputable def impl_Game_reach_B3 (a0 : TyG) (a1 : Int) (a3 : Int) (s1 : Int × Bool) : Option ((Int × Bool) ⊕ (Int)) :=
 bif s1.2 then
  (rounds (impl_Game_reach_B2 a0 a1 a3) (s1.1, false, (0 : Int))).bind fun r10 =>
  some (.inl (r10.1, r10.2))
 else
  some (.inr s1.1)

noncomputable def impl_Game_reach (a0 : TyG) (a1 : Int) (a2 : Int) (a3 : Int) : Option (Int) :=
 (rounds (impl_Game_reach_B3 a0 a1 a3) (a2, true)).bind fun r3 =>
 some r3

theorem f140_ok {a0 : TyG} {a1 : Int} {a2 : Int} {a3 : Int} {r : Int} (hr : impl_Game_reach a0 a1 a2 a3 = some r) : CallOK Try.prog 140 [.imm tG a0, .imm (.int .u32) a1, .imm (.int .u32) a2, .imm tI a3] [⟨false, (.int .u32), r⟩] [] := by
 unfold impl_Game_reach at hr
 refine CallOK.of_body (ts := [(false, (.int .u32))]) Try.func140 rfl (by kernel_rfl) (Nat.le_of_ble_eq_true (by kernel_rfl)) fun cx hP hN hO hF => ?_
 have hO : cx.own.map Prod.fst = [] := hO
 have hX := CxIs.mk hP hN hO
 have hF := hF rfl
 show HT cx ⟨[(0, .agg [nC a0.1, nC a0.2.1, .dat (.sl tLI) a0.2.2]), (1, .one (.dat (.int .u32) a1)), (2, .one (.dat (.int .u32) a2)), (3, iV a3)], [], 0⟩ _ _
 refine HT.rg2 (oHs 2) ⟨[(1, .one (.dat (.int .u32) a1)), (2, .one (.dat (.int .u32) a2)), (3, iV a3), (4, pV 0 0)], [(0, .box [nC a0.1, nC a0.2.1, .dat (.sl tLI) a0.2.2])], 1⟩ hX (by kernel_rfl) aN ?_
 refine HT.seq ?_
 refine HT.rg2 [oH] ⟨[(1, .one (.dat (.int .u32) a1)), (2, .one (.dat (.int .u32) a2)), (3, iV a3), (4, pV 0 0), (9, bV true)], [(0, .box [nC a0.1, nC a0.2.1, .dat (.sl tLI) a0.2.2])], 1⟩ hX (by kernel_rfl) aN ?_
 refine HT.block ?_
 obtain ⟨r2, hL59, hr⟩ := of_bind hr
 refine HT.loopL (fun (s1 : Int × Bool) => ⟨[(1, .one (.dat (.int .u32) a1)), (2, .one (.dat (.int .u32) s1.1)), (3, iV a3), (4, pV 0 0), (9, bV s1.2)], [(0, .box [nC a0.1, nC a0.2.1, .dat (.sl tLI) a0.2.2])], 1⟩) (fun (r3 : Int) => (.exit 0, ⟨[(2, .one (.dat (.int .u32) r3))], [], 0⟩)) (Le.re [(0, 0)] [] hX (by kernel_rfl)) hL59 ?_ (fun s1 x4 hx5 hk6 => ?_)
 ·refine (qBlockX (qThen ?_))
  refine HT.rg2 (oHs 2) ⟨[(8, .one (.dat (.int .u32) r2))], [], 0⟩ hX (by kernel_rfl) aN ?_
  have hr := of_some hr
  subst hr
  exact HT.ret ⟨[.one (.dat (.int .u32) r2)], [], [], by kernel_rfl, by kernel_rfl, rfl, by kernel_rfl, by kernel_rfl, trivial⟩
 ·refine HT.seq ?_
  refine HT.rg2 [oH] ⟨[(1, .one (.dat (.int .u32) a1)), (2, .one (.dat (.int .u32) s1.1)), (3, iV a3), (4, pV 0 0), (16, bV s1.2)], [(0, .box [nC a0.1, nC a0.2.1, .dat (.sl tLI) a0.2.2])], 1⟩ hX (by kernel_rfl) aN ?_
  rcases of_bif hx5 with ⟨hb7, hx5⟩ | ⟨hb7, hx5⟩
  ·refine HT.cond1 rfl hb7 ?_
   refine HT.skip (qThen ?_)
   refine HT.block ?_
   refine HT.rg2 [oH] ⟨[(1, .one (.dat (.int .u32) a1)), (2, .one (.dat (.int .u32) s1.1)), (3, iV a3), (4, pV 0 0), (9, bV false)], [(0, .box [nC a0.1, nC a0.2.1, .dat (.sl tLI) a0.2.2])], 1⟩ hX (by kernel_rfl) aN ?_
   refine HT.rg2 (oHs 4) ⟨[(1, .one (.dat (.int .u32) a1)), (2, .one (.dat (.int .u32) s1.1)), (3, iV a3), (4, pV 0 0), (9, bV false), (18, .one (.dat (.sl tLI) a0.2.2)), (19, iV (lenI a0.2.2)), (20, iV (0 : Int))], [(0, .box [nC a0.1, nC a0.2.1, .dat (.sl tLI) a0.2.2])], 1⟩ hX (by kernel_rfl) aN ?_
   refine HT.block ?_
   obtain ⟨r9, hL58, hx5⟩ := of_bind hx5
   refine HT.loopL (fun (s8 : Int × Bool × Int) => ⟨[(1, .one (.dat (.int .u32) a1)), (2, .one (.dat (.int .u32) s8.1)), (3, iV a3), (4, pV 0 0), (9, bV s8.2.1), (18, .one (.dat (.sl tLI) a0.2.2)), (19, iV (lenI a0.2.2)), (20, iV s8.2.2)], [(0, .box [nC a0.1, nC a0.2.1, .dat (.sl tLI) a0.2.2])], 1⟩) (fun (r10 : (Int × Bool)) => (.exit 2, ⟨[(1, .one (.dat (.int .u32) a1)), (2, .one (.dat (.int .u32) r10.1)), (3, iV a3), (4, pV 0 0), (9, bV r10.2)], [(0, .box [nC a0.1, nC a0.2.1, .dat (.sl tLI) a0.2.2])], 1⟩)) (Le.re [(0, 0)] [] hX (by kernel_rfl)) hL58 ?_ (fun s8 x11 hx12 hk13 => ?_)
   ·have hx5 := of_some hx5
    subst hx5
    refine (qBlockX (qBlock (qLoopN ⟨(r9.1, r9.2), rfl, Le.re [(0, 0)] [] hX (by kernel_rfl)⟩)))
   ·refine HT.rg2 [oH] ⟨[(1, .one (.dat (.int .u32) a1)), (2, .one (.dat (.int .u32) s8.1)), (3, iV a3), (4, pV 0 0), (9, bV s8.2.1), (18, .one (.dat (.sl tLI) a0.2.2)), (19, iV (lenI a0.2.2)), (20, iV s8.2.2), (21, bV (decide (s8.2.2 < (lenI a0.2.2))))], [(0, .box [nC a0.1, nC a0.2.1, .dat (.sl tLI) a0.2.2])], 1⟩ hX (by kernel_rfl) aN ?_
    refine HT.seq ?_
    rcases of_bif hx12 with ⟨hb14, hx12⟩ | ⟨hb14, hx12⟩
    ·refine HT.cond1 rfl hb14 ?_
     refine HT.skip (qThen ?_)
     obtain ⟨v15', hT17, hx12⟩ := of_bind hx12
     refine HT.join (fun (v15 : Int × Bool) => ⟨[(1, .one (.dat (.int .u32) a1)), (2, .one (.dat (.int .u32) v15.1)), (3, iV a3), (4, pV 0 0), (9, bV v15.2), (18, .one (.dat (.sl tLI) a0.2.2)), (19, iV (lenI a0.2.2)), (20, iV s8.2.2)], [(0, .box [nC a0.1, nC a0.2.1, .dat (.sl tLI) a0.2.2])], 1⟩) (fun v => v = v15') (fun v15 hv16 => ?_) (fun cont => ?_)
     ·subst hv16
      have hx12 := of_some hx12
      subst hx12
      exact HT.rgK (oHs 2) [(0, 0)] [] hX (by kernel_rfl) aN (fun _ h => (qLoopN ⟨(v15.1, v15.2, (wadd .i64 s8.2.2 (1 : Int))), rfl, h⟩))
     ·refine HT.block ?_
      obtain ⟨hg18, hT17⟩ := of_guard hT17
      refine HT.rg2 (oHs 5) ⟨[(1, .one (.dat (.int .u32) a1)), (2, .one (.dat (.int .u32) s8.1)), (3, iV a3), (4, pV 0 0), (9, bV s8.2.1), (10, iV s8.2.2), (11, nV (List.getD a0.2.2 (Int.toNat s8.2.2) ([] : List Int))), (18, .one (.dat (.sl tLI) a0.2.2)), (19, iV (lenI a0.2.2)), (20, iV s8.2.2)], [(0, .box [nC a0.1, nC a0.2.1, .dat (.sl tLI) a0.2.2])], 1⟩ hX (by kernel_rfl) (aC hg18 aN) ?_
      refine HT.seq ?_
      obtain ⟨v19', hT21, hT17⟩ := of_bind hT17
      refine HT.join (fun (v19 : Bool) => ⟨[(1, .one (.dat (.int .u32) a1)), (2, .one (.dat (.int .u32) s8.1)), (3, iV a3), (4, pV 0 0), (9, bV s8.2.1), (10, iV s8.2.2), (11, nV (List.getD a0.2.2 (Int.toNat s8.2.2) ([] : List Int))), (18, .one (.dat (.sl tLI) a0.2.2)), (19, iV (lenI a0.2.2)), (20, iV s8.2.2), (36, bV v19)], [(0, .box [nC a0.1, nC a0.2.1, .dat (.sl tLI) a0.2.2])], 1⟩) (fun v => v = v19') (fun v19 hv20 => ?_) (fun cont => ?_)
      ·subst hv20
       rcases of_bif hT17 with ⟨hb22, hT17⟩ | ⟨hb22, hT17⟩
       ·refine HT.cond1 rfl hb22 ?_
        refine HT.exit (qThenE (qBlockX (qThen ?_)))
        exact (Le.re [(0, 0)] [] hX (by kernel_rfl)).ht (cont (s8.1, s8.2.1) (of_some hT17))
       ·refine HT.cond0 rfl hb22 ?_
        refine HT.skip (qThen ?_)
        refine HT.rg2 (oHs 2) ⟨[(1, .one (.dat (.int .u32) a1)), (2, .one (.dat (.int .u32) s8.1)), (3, iV a3), (4, pV 0 0), (9, bV s8.2.1), (10, iV s8.2.2), (11, nV (List.getD a0.2.2 (Int.toNat s8.2.2) ([] : List Int))), (12, bV false), (13, bV true), (18, .one (.dat (.sl tLI) a0.2.2)), (19, iV (lenI a0.2.2)), (20, iV s8.2.2)], [(0, .box [nC a0.1, nC a0.2.1, .dat (.sl tLI) a0.2.2])], 1⟩ hX (by kernel_rfl) aN ?_
        refine HT.seq ?_
        refine HT.rg2 (oHs 3) ⟨[(1, .one (.dat (.int .u32) a1)), (2, .one (.dat (.int .u32) s8.1)), (3, iV a3), (4, pV 0 0), (9, bV s8.2.1), (10, iV s8.2.2), (12, bV false), (13, bV true), (18, .one (.dat (.sl tLI) a0.2.2)), (19, iV (lenI a0.2.2)), (20, iV s8.2.2), (37, nV (List.getD a0.2.2 (Int.toNat s8.2.2) ([] : List Int))), (38, iV (lenI (List.getD a0.2.2 (Int.toNat s8.2.2) ([] : List Int)))), (39, iV (0 : Int))], [(0, .box [nC a0.1, nC a0.2.1, .dat (.sl tLI) a0.2.2])], 1⟩ hX (by kernel_rfl) aN ?_
        refine HT.block ?_
        obtain ⟨r24, hL55, hT17⟩ := of_bind hT17
        refine HT.loopL (fun (s23 : Bool × Bool × Int) => ⟨[(1, .one (.dat (.int .u32) a1)), (2, .one (.dat (.int .u32) s8.1)), (3, iV a3), (4, pV 0 0), (9, bV s8.2.1), (10, iV s8.2.2), (12, bV s23.1), (13, bV s23.2.1), (18, .one (.dat (.sl tLI) a0.2.2)), (19, iV (lenI a0.2.2)), (20, iV s8.2.2), (37, nV (List.getD a0.2.2 (Int.toNat s8.2.2) ([] : List Int))), (38, iV (lenI (List.getD a0.2.2 (Int.toNat s8.2.2) ([] : List Int)))), (39, iV s23.2.2)], [(0, .box [nC a0.1, nC a0.2.1, .dat (.sl tLI) a0.2.2])], 1⟩) (fun (r25 : (Bool × Bool)) => (.exit 4, ⟨[(1, .one (.dat (.int .u32) a1)), (2, .one (.dat (.int .u32) s8.1)), (3, iV a3), (4, pV 0 0), (9, bV s8.2.1), (10, iV s8.2.2), (12, bV r25.1), (13, bV r25.2), (18, .one (.dat (.sl tLI) a0.2.2)), (19, iV (lenI a0.2.2)), (20, iV s8.2.2)], [(0, .box [nC a0.1, nC a0.2.1, .dat (.sl tLI) a0.2.2])], 1⟩)) (Le.re [(0, 0)] [] hX (by kernel_rfl)) hL55 ?_ (fun s23 x38 hx39 hk40 => ?_)
        ·refine (qBlockX (qThen ?_))
         obtain ⟨v26', hT28, hT17⟩ := of_bind hT17
         refine HT.join (fun (v26 : Bool) => ⟨[(1, .one (.dat (.int .u32) a1)), (2, .one (.dat (.int .u32) s8.1)), (3, iV a3), (4, pV 0 0), (9, bV s8.2.1), (10, iV s8.2.2), (18, .one (.dat (.sl tLI) a0.2.2)), (19, iV (lenI a0.2.2)), (20, iV s8.2.2), (86, bV v26)], [(0, .box [nC a0.1, nC a0.2.1, .dat (.sl tLI) a0.2.2])], 1⟩) (fun v => v = v26') (fun v26 hv27 => ?_) (fun cont => ?_)
         ·subst hv27
          rcases of_bif hT17 with ⟨hb29, hT17⟩ | ⟨hb29, hT17⟩
          ·refine HT.cond1 rfl hb29 ?_
           obtain ⟨hg30, hT17⟩ := of_guard hT17
           refine HT.rg2 (oHs 5) ⟨[(1, .one (.dat (.int .u32) a1)), (2, .one (.dat (.int .u32) (IntKind.wrap .u32 (BitVec.ofInt (IntKind.bits .u32) s8.1 ||| BitVec.ofInt (IntKind.bits .u32) (IntKind.wrap .u32 ((1 : Int) * 2 ^ (min (Int.toNat s8.2.2) (IntKind.bits .u32))))).toNat))), (3, iV a3), (4, pV 0 0), (18, .one (.dat (.sl tLI) a0.2.2)), (19, iV (lenI a0.2.2)), (20, iV s8.2.2)], [(0, .box [nC a0.1, nC a0.2.1, .dat (.sl tLI) a0.2.2])], 1⟩ hX (by kernel_rfl) (aC hg30 aN) ?_
           obtain ⟨q31, hq32, hT17⟩ := of_bind hT17
           have hq32 := of_some2 hq32
           refine (Le.cv (s := ⟨[(0, 0)], [], [], false⟩) (own := []) (ps := [a1 = a1, q31 = (IntKind.wrap .u32 (BitVec.ofInt (IntKind.bits .u32) s8.1 ||| BitVec.ofInt (IntKind.bits .u32) (IntKind.wrap .u32 ((1 : Int) * 2 ^ (min (Int.toNat s8.2.2) (IntKind.bits .u32))))).toNat), a3 = a3, a0.2.2 = a0.2.2, (lenI a0.2.2) = (lenI a0.2.2), s8.2.2 = s8.2.2, a0.1 = a0.1, a0.2.1 = a0.2.1, a0.2.2 = a0.2.2]) (st' := ⟨[(1, .one (.dat (.int .u32) a1)), (2, .one (.dat (.int .u32) q31)), (3, iV a3), (4, pV 0 0), (18, .one (.dat (.sl tLI) a0.2.2)), (19, iV (lenI a0.2.2)), (20, iV s8.2.2)], [(0, .box [nC a0.1, nC a0.2.1, .dat (.sl tLI) a0.2.2])], 1⟩) hO (fun h => by cases h) (by kernel_rfl) ⟨rfl, hq32, rfl, rfl, rfl, rfl, rfl, rfl, rfl, trivial⟩).ht ?_
           exact HT.rgK [oH] [(0, 0)] [] hX (by kernel_rfl) aN (fun _ h => (qBlock (qThen (h.ht (cont (q31, true) (of_some hT17))))))
          ·refine HT.cond0 rfl hb29 ?_
           refine HT.skip (qBlock (qThen ?_))
           exact (Le.re [(0, 0)] [] hX (by kernel_rfl)).ht (cont (s8.1, s8.2.1) (of_some hT17))
         ·obtain ⟨hg33, hT28⟩ := of_guard hT28
          rcases of_bif hT28 with ⟨hb34, hT28⟩ | ⟨hb34, hT28⟩
          ·rcases of_bif hT28 with ⟨hb35, hT28⟩ | ⟨hb35, hT28⟩
           ·exact HT.rgK [oH, oH, oH, oH, oH, oH, oH, oH, oT, vT, oH, oT, oT, oT, oT, oT, oT, oT, oT, oH, oT, vT] [(0, 0)] [] hX (by kernel_rfl) (aC hg33 (aC hb34 (aC hb34 (aC hb35 (aC hb35 (aC hb35 (aC hb35 (aC hb35 (aC hb35 (aC hb35 (aC hb35 (aC hb35 (aC hb35 aN))))))))))))) (fun _ h => (qThen (h.ht (cont true (of_some hT28)))))
           ·rcases of_bif hT28 with ⟨hb36, hT28⟩ | ⟨hb36, hT28⟩
            ·exact HT.rgK [oH, oH, oH, oH, oH, oH, oH, oH, oT, vT, oH, oF, oF, oF, oF, oF, oF, oF, oF, oT, ⟨some false, .tv true⟩, vF] [(0, 0)] [] hX (by kernel_rfl) (aC hg33 (aC hb34 (aC hb34 (aC hb35 (aC hb35 (aC hb35 (aC hb35 (aC hg33 (aC hb35 (aC hb35 (aC hb35 (aC hb35 (aC hb36 (aC hb35 (aC hb36 (aC hb35 aN)))))))))))))))) (fun _ h => (qThen (h.ht (cont r24.2 (of_some hT28)))))
            ·exact HT.rgK [oH, oH, oH, oH, oH, oH, oH, oH, oT, vT, oH, oF, oF, oF, oF, oF, oF, oF, oF, oF, ⟨some false, .tv false⟩, vF] [(0, 0)] [] hX (by kernel_rfl) (aC hg33 (aC hb34 (aC hb34 (aC hb35 (aC hb35 (aC hb35 (aC hb35 (aC hg33 (aC hb35 (aC hb35 (aC hb35 (aC hb35 (aC hb36 (aC hb35 (aC hb36 (aC hb35 aN)))))))))))))))) (fun _ h => (qThen (h.ht (cont false (of_some hT28)))))
          ·rcases of_bif hT28 with ⟨hb37, hT28⟩ | ⟨hb37, hT28⟩
           ·exact HT.rgK [oH, oH, oH, oH, oH, oH, oH, oH, oF, vF, oH, oF, oF, oF, oF, oF, oF, oF, oF, oT, ⟨some false, .tv true⟩, vF] [(0, 0)] [] hX (by kernel_rfl) (aC hg33 (aC hb34 (aC hb34 (aF (aF (aF (aF (aC hg33 (aF (aF (aF (aF (aC hb37 (aF (aC hb37 (aF aN)))))))))))))))) (fun _ h => (qThen (h.ht (cont r24.2 (of_some hT28)))))
           ·exact HT.rgK [oH, oH, oH, oH, oH, oH, oH, oH, oF, vF, oH, oF, oF, oF, oF, oF, oF, oF, oF, oF, ⟨some false, .tv false⟩, vF] [(0, 0)] [] hX (by kernel_rfl) (aC hg33 (aC hb34 (aC hb34 (aF (aF (aF (aF (aC hg33 (aF (aF (aF (aF (aC hb37 (aF (aC hb37 (aF aN)))))))))))))))) (fun _ h => (qThen (h.ht (cont false (of_some hT28)))))
        ·refine HT.rg2 [oH] ⟨[(1, .one (.dat (.int .u32) a1)), (2, .one (.dat (.int .u32) s8.1)), (3, iV a3), (4, pV 0 0), (9, bV s8.2.1), (10, iV s8.2.2), (12, bV s23.1), (13, bV s23.2.1), (18, .one (.dat (.sl tLI) a0.2.2)), (19, iV (lenI a0.2.2)), (20, iV s8.2.2), (37, nV (List.getD a0.2.2 (Int.toNat s8.2.2) ([] : List Int))), (38, iV (lenI (List.getD a0.2.2 (Int.toNat s8.2.2) ([] : List Int)))), (39, iV s23.2.2), (40, bV (decide (s23.2.2 < (lenI (List.getD a0.2.2 (Int.toNat s8.2.2) ([] : List Int))))))], [(0, .box [nC a0.1, nC a0.2.1, .dat (.sl tLI) a0.2.2])], 1⟩ hX (by kernel_rfl) aN ?_
         refine HT.seq ?_
         rcases of_bif hx39 with ⟨hb41, hx39⟩ | ⟨hb41, hx39⟩
         ·refine HT.cond1 rfl hb41 ?_
          refine HT.skip (qThen ?_)
          obtain ⟨v42', hT44, hx39⟩ := of_bind hx39
          refine HT.join (fun (v42 : Bool × Bool) => ⟨[(1, .one (.dat (.int .u32) a1)), (2, .one (.dat (.int .u32) s8.1)), (3, iV a3), (4, pV 0 0), (9, bV s8.2.1), (10, iV s8.2.2), (12, bV v42.1), (13, bV v42.2), (18, .one (.dat (.sl tLI) a0.2.2)), (19, iV (lenI a0.2.2)), (20, iV s8.2.2), (37, nV (List.getD a0.2.2 (Int.toNat s8.2.2) ([] : List Int))), (38, iV (lenI (List.getD a0.2.2 (Int.toNat s8.2.2) ([] : List Int)))), (39, iV s23.2.2)], [(0, .box [nC a0.1, nC a0.2.1, .dat (.sl tLI) a0.2.2])], 1⟩) (fun v => v = v42') (fun v42 hv43 => ?_) (fun cont => ?_)
          ·subst hv43
           have hx39 := of_some hx39
           subst hx39
           exact HT.rgK (oHs 2) [(0, 0)] [] hX (by kernel_rfl) aN (fun _ h => (qLoopN ⟨(v42.1, v42.2, (wadd .i64 s23.2.2 (1 : Int))), rfl, h⟩))
          ·refine HT.block ?_
           obtain ⟨hg45, hT44⟩ := of_guard hT44
           refine HT.rg2 (oHs 3) ⟨[(1, .one (.dat (.int .u32) a1)), (2, .one (.dat (.int .u32) s8.1)), (3, iV a3), (4, pV 0 0), (9, bV s8.2.1), (10, iV s8.2.2), (12, bV s23.1), (13, bV s23.2.1), (15, iV (List.getD (List.getD a0.2.2 (Int.toNat s8.2.2) ([] : List Int)) (Int.toNat s23.2.2) (0 : Int))), (18, .one (.dat (.sl tLI) a0.2.2)), (19, iV (lenI a0.2.2)), (20, iV s8.2.2), (37, nV (List.getD a0.2.2 (Int.toNat s8.2.2) ([] : List Int))), (38, iV (lenI (List.getD a0.2.2 (Int.toNat s8.2.2) ([] : List Int)))), (39, iV s23.2.2)], [(0, .box [nC a0.1, nC a0.2.1, .dat (.sl tLI) a0.2.2])], 1⟩ hX (by kernel_rfl) (aC hg45 aN) ?_
           obtain ⟨q46, hq47, hT44⟩ := of_bind hT44
           have hq47 := of_some2 hq47
           refine (Le.cv (s := ⟨[(0, 0)], [], [], false⟩) (own := []) (ps := [a1 = a1, s8.1 = s8.1, a3 = a3, s8.2.1 = s8.2.1, s8.2.2 = s8.2.2, s23.1 = s23.1, s23.2.1 = s23.2.1, q46 = (List.getD (List.getD a0.2.2 (Int.toNat s8.2.2) ([] : List Int)) (Int.toNat s23.2.2) (0 : Int)), a0.2.2 = a0.2.2, (lenI a0.2.2) = (lenI a0.2.2), s8.2.2 = s8.2.2, (List.getD a0.2.2 (Int.toNat s8.2.2) ([] : List Int)) = (List.getD a0.2.2 (Int.toNat s8.2.2) ([] : List Int)), (lenI (List.getD a0.2.2 (Int.toNat s8.2.2) ([] : List Int))) = (lenI (List.getD a0.2.2 (Int.toNat s8.2.2) ([] : List Int))), s23.2.2 = s23.2.2, a0.1 = a0.1, a0.2.1 = a0.2.1, a0.2.2 = a0.2.2]) (st' := ⟨[(1, .one (.dat (.int .u32) a1)), (2, .one (.dat (.int .u32) s8.1)), (3, iV a3), (4, pV 0 0), (9, bV s8.2.1), (10, iV s8.2.2), (12, bV s23.1), (13, bV s23.2.1), (15, iV q46), (18, .one (.dat (.sl tLI) a0.2.2)), (19, iV (lenI a0.2.2)), (20, iV s8.2.2), (37, nV (List.getD a0.2.2 (Int.toNat s8.2.2) ([] : List Int))), (38, iV (lenI (List.getD a0.2.2 (Int.toNat s8.2.2) ([] : List Int)))), (39, iV s23.2.2)], [(0, .box [nC a0.1, nC a0.2.1, .dat (.sl tLI) a0.2.2])], 1⟩) hO (fun h => by cases h) (by kernel_rfl) ⟨rfl, rfl, rfl, rfl, rfl, rfl, rfl, hq47, rfl, rfl, rfl, rfl, rfl, rfl, rfl, rfl, rfl, trivial⟩).ht ?_
           obtain ⟨hg48, hT44⟩ := of_guard hT44
           refine HT.rg2 (oHs 5) ⟨[(1, .one (.dat (.int .u32) a1)), (2, .one (.dat (.int .u32) s8.1)), (3, iV a3), (4, pV 0 0), (9, bV s8.2.1), (10, iV s8.2.2), (12, bV s23.1), (13, bV s23.2.1), (15, iV q46), (18, .one (.dat (.sl tLI) a0.2.2)), (19, iV (lenI a0.2.2)), (20, iV s8.2.2), (37, nV (List.getD a0.2.2 (Int.toNat s8.2.2) ([] : List Int))), (38, iV (lenI (List.getD a0.2.2 (Int.toNat s8.2.2) ([] : List Int)))), (39, iV s23.2.2), (47, bV ((IntKind.wrap .u32 (BitVec.ofInt (IntKind.bits .u32) (Int.fdiv a1 (2 ^ (min (Int.toNat q46) (IntKind.bits .u32)))) &&& BitVec.ofInt (IntKind.bits .u32) (1 : Int)).toNat) == (1 : Int)))], [(0, .box [nC a0.1, nC a0.2.1, .dat (.sl tLI) a0.2.2])], 1⟩ hX (by kernel_rfl) (aC hg48 aN) ?_
           rcases of_bif hT44 with ⟨hb49, hT44⟩ | ⟨hb49, hT44⟩
           ·refine HT.cond1 rfl hb49 ?_
            obtain ⟨v50', hT52, hT44⟩ := of_bind hT44
            refine HT.join (fun (v50 : Bool) => ⟨[(1, .one (.dat (.int .u32) a1)), (2, .one (.dat (.int .u32) s8.1)), (3, iV a3), (4, pV 0 0), (9, bV s8.2.1), (10, iV s8.2.2), (12, bV v50), (13, bV s23.2.1), (15, iV q46), (18, .one (.dat (.sl tLI) a0.2.2)), (19, iV (lenI a0.2.2)), (20, iV s8.2.2), (37, nV (List.getD a0.2.2 (Int.toNat s8.2.2) ([] : List Int))), (38, iV (lenI (List.getD a0.2.2 (Int.toNat s8.2.2) ([] : List Int)))), (39, iV s23.2.2)], [(0, .box [nC a0.1, nC a0.2.1, .dat (.sl tLI) a0.2.2])], 1⟩) (fun v => v = v50') (fun v50 hv51 => ?_) (fun cont => ?_)
            ·subst hv51
             rcases of_bif hT44 with ⟨hb53, hT44⟩ | ⟨hb53, hT44⟩
             ·exact HT.rgK [oH, oH, oT, oT, oT, oT, oT, vT, oH] [(0, 0)] [] hX (by kernel_rfl) (aC hb53 (aC hb53 (aC hb53 (aC hg48 (aC hb53 (aC hb53 (aC hb53 aN))))))) (fun _ h => (qBlock (qThen (h.ht (cont (v50, ((IntKind.wrap .u32 (BitVec.ofInt (IntKind.bits .u32) (Int.fdiv s8.1 (2 ^ (min (Int.toNat q46) (IntKind.bits .u32)))) &&& BitVec.ofInt (IntKind.bits .u32) (1 : Int)).toNat) == (1 : Int))) (of_some hT44))))))
             ·exact HT.rgK [oH, oH, oF, oF, oF, oF, oF, vF, oH] [(0, 0)] [] hX (by kernel_rfl) (aC hb53 (aC hb53 (aC hb53 (aC hb53 (aC hb53 (aC hb53 aN)))))) (fun _ h => (qBlock (qThen (h.ht (cont (v50, false) (of_some hT44))))))
            ·rcases of_bif hT52 with ⟨hb54, hT52⟩ | ⟨hb54, hT52⟩
             ·exact HT.rgK [oH, oH, oT, oT, oT, oT, oT, vT, oH] [(0, 0)] [] hX (by kernel_rfl) (aC hb54 (aC hb54 (aC hb54 (aC hb54 (aC hb54 (aC hb54 aN)))))) (fun _ h => (qThen (h.ht (cont true (of_some hT52)))))
             ·exact HT.rgK [oH, oH, oF, oF, oF, oF, oF, vF, oH] [(0, 0)] [] hX (by kernel_rfl) (aC hb54 (aC hb54 (aC hb54 (aC hg48 (aC hb54 (aC hb54 (aC hb54 aN))))))) (fun _ h => (qThen (h.ht (cont ((IntKind.wrap .u32 (BitVec.ofInt (IntKind.bits .u32) (Int.fdiv s8.1 (2 ^ (min (Int.toNat q46) (IntKind.bits .u32)))) &&& BitVec.ofInt (IntKind.bits .u32) (1 : Int)).toNat) == (1 : Int)) (of_some hT52)))))
           ·refine HT.cond0 rfl hb49 ?_
            refine HT.skip (qBlock (qThen ?_))
            exact (Le.re [(0, 0)] [] hX (by kernel_rfl)).ht (cont (s23.1, s23.2.1) (of_some hT44))
         ·refine HT.cond0 rfl hb41 ?_
          have hx39 := of_some hx39
          subst hx39
          exact HT.exitL (Le.re [(0, 0)] [] hX (by kernel_rfl)) (qThenE (qLoopE (hk40 (s23.1, s23.2.1) rfl)))
      ·obtain ⟨hg56, hT21⟩ := of_guard hT21
       rcases of_bif hT21 with ⟨hb57, hT21⟩ | ⟨hb57, hT21⟩
       ·exact HT.rgK [oH, oH, oH, oH, oH, oH, oT, oT, oT, oT, oT, vT] [(0, 0)] [] hX (by kernel_rfl) (aC hg56 (aC hb57 (aC hb57 (aC hb57 (aC hb57 (aC hb57 (aC hb57 aN))))))) (fun _ h => (qThen (h.ht (cont true (of_some hT21)))))
       ·exact HT.rgK [oH, oH, oH, oH, oH, oH, oF, oF, oF, oF, oF, vF] [(0, 0)] [] hX (by kernel_rfl) (aC hg56 (aC hb57 (aC hb57 (aC hb57 (aC hg56 (aC hb57 (aC hb57 (aC hb57 aN)))))))) (fun _ h => (qThen (h.ht (cont ((IntKind.wrap .u32 (BitVec.ofInt (IntKind.bits .u32) (Int.fdiv s8.1 (2 ^ (min (Int.toNat s8.2.2) (IntKind.bits .u32)))) &&& BitVec.ofInt (IntKind.bits .u32) (1 : Int)).toNat) == (1 : Int)) (of_some hT21)))))
    ·refine HT.cond0 rfl hb14 ?_
     have hx12 := of_some hx12
     subst hx12
     exact HT.exitL (Le.re [(0, 0)] [] hX (by kernel_rfl)) (qThenE (qLoopE (hk13 (s8.1, s8.2.1) rfl)))
  ·refine HT.cond0 rfl hb7 ?_
   have hx5 := of_some hx5
   subst hx5
   exact HT.exitL (Le.re [] [] hX (by kernel_rfl)) (qThenE (qLoopE (hk6 s1.1 rfl)))

noncomputable def impl_Game_lost_G (slv : ((TyG) × Int) → Option Int) (a0 : TyG) (a1 : Int) (a2 : Int) : Option (Int) :=
 (slv ((a0.1, a0.2.1, a0.2.2), a1)).bind fun y1 =>
 bif (a2 == (0 : Int)) then
  (some (IntKind.wrap .u32 (BitVec.ofInt (IntKind.bits .u32) a1 &&& ~~~(BitVec.ofInt (IntKind.bits .u32) y1)).toNat)).bind fun q4 =>
  some q4
 else
  some y1

theorem f233_okG {slv : ((TyG) × Int) → Option Int} (ih : ∀ {x : (TyG) × Int} {r : Int}, slv x = some r → CallOK Try.prog 201 [.imm tG x.1, .imm (.int .u32) x.2] [⟨false, (.int .u32), r⟩] []) {a0 : TyG} {a1 : Int} {a2 : Int} {r : Int} (hr : impl_Game_lost_G slv a0 a1 a2 = some r) : CallOK Try.prog 233 [.imm tG a0, .imm (.int .u32) a1, .imm tI a2] [⟨false, (.int .u32), r⟩] [] := by
 unfold impl_Game_lost_G at hr
 refine CallOK.of_body (ts := [(false, (.int .u32))]) Try.func233 rfl (by kernel_rfl) (Nat.le_of_ble_eq_true (by kernel_rfl)) fun cx hP hN hO hF => ?_
 have hO : cx.own.map Prod.fst = [] := hO
 have hX := CxIs.mk hP hN hO
 have hF := hF rfl
 show HT cx ⟨[(0, .agg [nC a0.1, nC a0.2.1, .dat (.sl tLI) a0.2.2]), (1, .one (.dat (.int .u32) a1)), (2, iV a2)], [], 0⟩ _ _
 refine HT.rg2 (oHs 2) ⟨[(1, .one (.dat (.int .u32) a1)), (2, iV a2), (3, pV 0 0)], [(0, .box [nC a0.1, nC a0.2.1, .dat (.sl tLI) a0.2.2])], 1⟩ hX (by kernel_rfl) aN ?_
 obtain ⟨y1, hc2, hr⟩ := of_bind hr
 refine HT.rg2 [oH, oH, ⟨none, .call [.imm tG, .imm (.int .u32)] [⟨false, (.int .u32), y1⟩] []⟩, oH] ⟨[(1, .one (.dat (.int .u32) a1)), (2, iV a2), (7, .one (.dat (.int .u32) y1))], [], 1⟩ hX (by kernel_rfl) (aC (ih hc2) aN) ?_
 refine HT.seq ?_
 refine HT.rg2 (oHs 2) ⟨[(1, .one (.dat (.int .u32) a1)), (7, .one (.dat (.int .u32) y1)), (12, bV (a2 == (0 : Int)))], [], 1⟩ hX (by kernel_rfl) aN ?_
 rcases of_bif hr with ⟨hb3, hr⟩ | ⟨hb3, hr⟩
 ·refine HT.cond1 rfl hb3 ?_
  refine HT.rg2 (oHs 4) ⟨[(6, .one (.dat (.int .u32) (IntKind.wrap .u32 (BitVec.ofInt (IntKind.bits .u32) a1 &&& ~~~(BitVec.ofInt (IntKind.bits .u32) y1)).toNat)))], [], 1⟩ hX (by kernel_rfl) aN ?_
  obtain ⟨q4, hq5, hr⟩ := of_bind hr
  have hq5 := of_some2 hq5
  refine (Le.cv (s := ⟨[], [], [], false⟩) (own := []) (ps := [q4 = (IntKind.wrap .u32 (BitVec.ofInt (IntKind.bits .u32) a1 &&& ~~~(BitVec.ofInt (IntKind.bits .u32) y1)).toNat)]) (st' := ⟨[(6, .one (.dat (.int .u32) q4))], [], 1⟩) hO (fun h => by cases h) (by kernel_rfl) ⟨hq5, trivial⟩).ht ?_
  have hr := of_some hr
  subst hr
  exact HT.ret (qThenR ⟨[.one (.dat (.int .u32) q4)], [], [], by kernel_rfl, by kernel_rfl, rfl, by kernel_rfl, by kernel_rfl, trivial⟩)
 ·refine HT.cond0 rfl hb3 ?_
  refine HT.skip (qThen ?_)
  refine HT.rg2 (oHs 2) ⟨[(6, .one (.dat (.int .u32) y1))], [], 1⟩ hX (by kernel_rfl) aN ?_
  have hr := of_some hr
  subst hr
  exact HT.ret ⟨[.one (.dat (.int .u32) y1)], [], [], by kernel_rfl, by kernel_rfl, rfl, by kernel_rfl, by kernel_rfl, trivial⟩

noncomputable def impl_Game_ofZero (a0 : TyG) (a1 : Int) (a2 : Int) (a3 : Int) : Option (Int) :=
 bif (a3 == (0 : Int)) then
  some a2
 else
  (some (IntKind.wrap .u32 (BitVec.ofInt (IntKind.bits .u32) a1 &&& ~~~(BitVec.ofInt (IntKind.bits .u32) a2)).toNat)).bind fun q2 =>
  some q2

theorem f234_ok {a0 : TyG} {a1 : Int} {a2 : Int} {a3 : Int} {r : Int} (hr : impl_Game_ofZero a0 a1 a2 a3 = some r) : CallOK Try.prog 234 [.imm tG a0, .imm (.int .u32) a1, .imm (.int .u32) a2, .imm tI a3] [⟨false, (.int .u32), r⟩] [] := by
 unfold impl_Game_ofZero at hr
 refine CallOK.of_body (ts := [(false, (.int .u32))]) Try.func234 rfl (by kernel_rfl) (Nat.le_of_ble_eq_true (by kernel_rfl)) fun cx hP hN hO hF => ?_
 have hO : cx.own.map Prod.fst = [] := hO
 have hX := CxIs.mk hP hN hO
 have hF := hF rfl
 show HT cx ⟨[(0, .agg [nC a0.1, nC a0.2.1, .dat (.sl tLI) a0.2.2]), (1, .one (.dat (.int .u32) a1)), (2, .one (.dat (.int .u32) a2)), (3, iV a3)], [], 0⟩ _ _
 refine HT.rg2 (oHs 2) ⟨[(1, .one (.dat (.int .u32) a1)), (2, .one (.dat (.int .u32) a2)), (3, iV a3)], [], 1⟩ hX (by kernel_rfl) aN ?_
 refine HT.seq ?_
 refine HT.rg2 (oHs 2) ⟨[(1, .one (.dat (.int .u32) a1)), (2, .one (.dat (.int .u32) a2)), (10, bV (a3 == (0 : Int)))], [], 1⟩ hX (by kernel_rfl) aN ?_
 rcases of_bif hr with ⟨hb1, hr⟩ | ⟨hb1, hr⟩
 ·refine HT.cond1 rfl hb1 ?_
  refine HT.rg2 (oHs 2) ⟨[(8, .one (.dat (.int .u32) a2))], [], 1⟩ hX (by kernel_rfl) aN ?_
  have hr := of_some hr
  subst hr
  exact HT.ret (qThenR ⟨[.one (.dat (.int .u32) a2)], [], [], by kernel_rfl, by kernel_rfl, rfl, by kernel_rfl, by kernel_rfl, trivial⟩)
 ·refine HT.cond0 rfl hb1 ?_
  refine HT.skip (qThen ?_)
  refine HT.rg2 (oHs 4) ⟨[(8, .one (.dat (.int .u32) (IntKind.wrap .u32 (BitVec.ofInt (IntKind.bits .u32) a1 &&& ~~~(BitVec.ofInt (IntKind.bits .u32) a2)).toNat)))], [], 1⟩ hX (by kernel_rfl) aN ?_
  obtain ⟨q2, hq3, hr⟩ := of_bind hr
  have hq3 := of_some2 hq3
  refine (Le.cv (s := ⟨[], [], [], false⟩) (own := []) (ps := [q2 = (IntKind.wrap .u32 (BitVec.ofInt (IntKind.bits .u32) a1 &&& ~~~(BitVec.ofInt (IntKind.bits .u32) a2)).toNat)]) (st' := ⟨[(8, .one (.dat (.int .u32) q2))], [], 1⟩) hO (fun h => by cases h) (by kernel_rfl) ⟨hq3, trivial⟩).ht ?_
  have hr := of_some hr
  subst hr
  exact HT.ret ⟨[.one (.dat (.int .u32) q2)], [], [], by kernel_rfl, by kernel_rfl, rfl, by kernel_rfl, by kernel_rfl, trivial⟩

noncomputable def impl_Game_solve_B1 (a0 : TyG) (a1 : Int) (s2 : Int × Int × Int) : Option ((Int × Int × Int) ⊕ ((Int × Int))) :=
 bif (decide (s2.2.2 < (lenI a0.2.1))) then
  (show Option (Int × Int) from
   guardP ((0 : Int) ≤ s2.2.2 ∧ s2.2.2 < lenI a0.2.1) (
    (show Option (Bool) from
     guardP ((0 : Int) ≤ s2.2.2) (
      bif ((IntKind.wrap .u32 (BitVec.ofInt (IntKind.bits .u32) (Int.fdiv a1 (2 ^ (min (Int.toNat s2.2.2) (IntKind.bits .u32)))) &&& BitVec.ofInt (IntKind.bits .u32) (1 : Int)).toNat) == (0 : Int)) then
       some true
      else
       some (decide ((List.getD a0.2.1 (Int.toNat s2.2.2) (0 : Int)) < s2.1)))).bind fun v28 =>
    bif v28 then
     some (s2.1, s2.2.1)
    else
     (show Option (Int × Int) from
      bif (decide ((List.getD a0.2.1 (Int.toNat s2.2.2) (0 : Int)) > s2.1)) then
       some ((List.getD a0.2.1 (Int.toNat s2.2.2) (0 : Int)), (0 : Int))
      else
       some (s2.1, s2.2.1)).bind fun v32 =>
     guardP ((0 : Int) ≤ s2.2.2) (
      some (v32.1, (IntKind.wrap .u32 (BitVec.ofInt (IntKind.bits .u32) v32.2 ||| BitVec.ofInt (IntKind.bits .u32) (IntKind.wrap .u32 ((1 : Int) * 2 ^ (min (Int.toNat s2.2.2) (IntKind.bits .u32))))).toNat))))).bind fun v24 =>
  some (.inl (v24.1, v24.2, (wadd .i64 s2.2.2 (1 : Int))))
 else
  some (.inr (s2.1, s2.2.1))

noncomputable def impl_Game_solve_G (slv : ((TyG) × Int) → Option Int) (a0 : TyG) (a1 : Int) : Option (Int) :=
 bif (a1 == (0 : Int)) then
  some (0 : Int)
 else
  (rounds (impl_Game_solve_B1 a0 a1) ((-1 : Int), (0 : Int), (0 : Int))).bind fun r4 =>
  (impl_Game_reach (a0.1, a0.2.1, a0.2.2) a1 r4.2 (Int.tmod r4.1 (2 : Int))).bind fun y5 =>
  (impl_Game_lost_G slv (a0.1, a0.2.1, a0.2.2) (IntKind.wrap .u32 (BitVec.ofInt (IntKind.bits .u32) a1 &&& ~~~(BitVec.ofInt (IntKind.bits .u32) y5)).toNat) (Int.tmod r4.1 (2 : Int))).bind fun y7 =>
  bif (y7 == (0 : Int)) then
   (impl_Game_ofZero (a0.1, a0.2.1, a0.2.2) a1 a1 (Int.tmod r4.1 (2 : Int))).bind fun y10 =>
   some y10
  else
   (impl_Game_reach (a0.1, a0.2.1, a0.2.2) a1 y7 (wsub .i64 (1 : Int) (Int.tmod r4.1 (2 : Int)))).bind fun y12 =>
   (impl_Game_lost_G slv (a0.1, a0.2.1, a0.2.2) (IntKind.wrap .u32 (BitVec.ofInt (IntKind.bits .u32) a1 &&& ~~~(BitVec.ofInt (IntKind.bits .u32) y12)).toNat) (Int.tmod r4.1 (2 : Int))).bind fun y14 =>
   (some (IntKind.wrap .u32 (BitVec.ofInt (IntKind.bits .u32) y12 ||| BitVec.ofInt (IntKind.bits .u32) y14).toNat)).bind fun q16 =>
   (impl_Game_ofZero (a0.1, a0.2.1, a0.2.2) a1 (IntKind.wrap .u32 (BitVec.ofInt (IntKind.bits .u32) a1 &&& ~~~(BitVec.ofInt (IntKind.bits .u32) q16)).toNat) (Int.tmod r4.1 (2 : Int))).bind fun y18 =>
   some y18

theorem f201_okG {slv : ((TyG) × Int) → Option Int} (ih : ∀ {x : (TyG) × Int} {r : Int}, slv x = some r → CallOK Try.prog 201 [.imm tG x.1, .imm (.int .u32) x.2] [⟨false, (.int .u32), r⟩] []) {a0 : TyG} {a1 : Int} {r : Int} (hr : impl_Game_solve_G slv a0 a1 = some r) : CallOK Try.prog 201 [.imm tG a0, .imm (.int .u32) a1] [⟨false, (.int .u32), r⟩] [] := by
 unfold impl_Game_solve_G at hr
 refine CallOK.of_body (ts := [(false, (.int .u32))]) Try.func201 rfl (by kernel_rfl) (Nat.le_of_ble_eq_true (by kernel_rfl)) fun cx hP hN hO hF => ?_
 have hO : cx.own.map Prod.fst = [] := hO
 have hX := CxIs.mk hP hN hO
 have hF := hF rfl
 show HT cx ⟨[(0, .agg [nC a0.1, nC a0.2.1, .dat (.sl tLI) a0.2.2]), (1, .one (.dat (.int .u32) a1))], [], 0⟩ _ _
 refine HT.rg2 (oHs 2) ⟨[(1, .one (.dat (.int .u32) a1)), (2, pV 0 0)], [(0, .box [nC a0.1, nC a0.2.1, .dat (.sl tLI) a0.2.2])], 1⟩ hX (by kernel_rfl) aN ?_
 refine HT.seq ?_
 refine HT.rg2 (oHs 2) ⟨[(1, .one (.dat (.int .u32) a1)), (2, pV 0 0), (14, bV (a1 == (0 : Int)))], [(0, .box [nC a0.1, nC a0.2.1, .dat (.sl tLI) a0.2.2])], 1⟩ hX (by kernel_rfl) aN ?_
 rcases of_bif hr with ⟨hb1, hr⟩ | ⟨hb1, hr⟩
 ·refine HT.cond1 rfl hb1 ?_
  refine HT.rg2 [oH] ⟨[(4, .one (.dat (.int .u32) (0 : Int)))], [], 1⟩ hX (by kernel_rfl) aN ?_
  have hr := of_some hr
  subst hr
  exact HT.ret (qThenR ⟨[.one (.dat (.int .u32) (0 : Int))], [], [], by kernel_rfl, by kernel_rfl, rfl, by kernel_rfl, by kernel_rfl, trivial⟩)
 ·refine HT.cond0 rfl hb1 ?_
  refine HT.skip (qThen ?_)
  refine HT.rg2 (oHs 2) ⟨[(1, .one (.dat (.int .u32) a1)), (2, pV 0 0), (5, iV (-1 : Int)), (6, .one (.dat (.int .u32) (0 : Int)))], [(0, .box [nC a0.1, nC a0.2.1, .dat (.sl tLI) a0.2.2])], 1⟩ hX (by kernel_rfl) aN ?_
  refine HT.seq ?_
  refine HT.rg2 (oHs 4) ⟨[(1, .one (.dat (.int .u32) a1)), (2, pV 0 0), (5, iV (-1 : Int)), (6, .one (.dat (.int .u32) (0 : Int))), (16, nV a0.2.1), (17, iV (lenI a0.2.1)), (18, iV (0 : Int))], [(0, .box [nC a0.1, nC a0.2.1, .dat (.sl tLI) a0.2.2])], 1⟩ hX (by kernel_rfl) aN ?_
  refine HT.block ?_
  obtain ⟨r3, hL39, hr⟩ := of_bind hr
  refine HT.loopL (fun (s2 : Int × Int × Int) => ⟨[(1, .one (.dat (.int .u32) a1)), (2, pV 0 0), (5, iV s2.1), (6, .one (.dat (.int .u32) s2.2.1)), (16, nV a0.2.1), (17, iV (lenI a0.2.1)), (18, iV s2.2.2)], [(0, .box [nC a0.1, nC a0.2.1, .dat (.sl tLI) a0.2.2])], 1⟩) (fun (r4 : (Int × Int)) => (.exit 0, ⟨[(1, .one (.dat (.int .u32) a1)), (2, pV 0 0), (5, iV r4.1), (6, .one (.dat (.int .u32) r4.2))], [(0, .box [nC a0.1, nC a0.2.1, .dat (.sl tLI) a0.2.2])], 1⟩)) (Le.re [(0, 0)] [] hX (by kernel_rfl)) hL39 ?_ (fun s2 x20 hx21 hk22 => ?_)
  ·refine (qBlockX (qThen ?_))
   refine HT.rg2 (oHs 3) ⟨[(1, .one (.dat (.int .u32) a1)), (2, pV 0 0), (6, .one (.dat (.int .u32) r3.2)), (9, iV (Int.tmod r3.1 (2 : Int)))], [(0, .box [nC a0.1, nC a0.2.1, .dat (.sl tLI) a0.2.2])], 1⟩ hX (by kernel_rfl) (aC (show (2 : Int) ≠ 0 from by decide) aN) ?_
   obtain ⟨y5, hc6, hr⟩ := of_bind hr
   refine HT.rg2 [oH, oH, oH, oH, ⟨none, .call [.imm tG, .imm (.int .u32), .imm (.int .u32), .imm tI] [⟨false, (.int .u32), y5⟩] []⟩, oH] ⟨[(1, .one (.dat (.int .u32) a1)), (2, pV 0 0), (9, iV (Int.tmod r3.1 (2 : Int))), (10, .one (.dat (.int .u32) y5))], [(0, .box [nC a0.1, nC a0.2.1, .dat (.sl tLI) a0.2.2])], 1⟩ hX (by kernel_rfl) (aC (f140_ok hc6) aN) ?_
   obtain ⟨y7, hc8, hr⟩ := of_bind hr
   refine HT.rg2 [oH, oH, oH, oH, oH, ⟨none, .call [.imm tG, .imm (.int .u32), .imm tI] [⟨false, (.int .u32), y7⟩] []⟩, oH] ⟨[(1, .one (.dat (.int .u32) a1)), (2, pV 0 0), (9, iV (Int.tmod r3.1 (2 : Int))), (11, .one (.dat (.int .u32) y7))], [(0, .box [nC a0.1, nC a0.2.1, .dat (.sl tLI) a0.2.2])], 1⟩ hX (by kernel_rfl) (aC (f233_okG ih hc8) aN) ?_
   refine HT.seq ?_
   refine HT.rg2 (oHs 2) ⟨[(1, .one (.dat (.int .u32) a1)), (2, pV 0 0), (9, iV (Int.tmod r3.1 (2 : Int))), (11, .one (.dat (.int .u32) y7)), (56, bV (y7 == (0 : Int)))], [(0, .box [nC a0.1, nC a0.2.1, .dat (.sl tLI) a0.2.2])], 1⟩ hX (by kernel_rfl) aN ?_
   rcases of_bif hr with ⟨hb9, hr⟩ | ⟨hb9, hr⟩
   ·refine HT.cond1 rfl hb9 ?_
    obtain ⟨y10, hc11, hr⟩ := of_bind hr
    refine HT.rg2 [oH, oH, oH, oH, ⟨none, .call [.imm tG, .imm (.int .u32), .imm (.int .u32), .imm tI] [⟨false, (.int .u32), y10⟩] []⟩, oH] ⟨[(4, .one (.dat (.int .u32) y10))], [], 1⟩ hX (by kernel_rfl) (aC (f234_ok hc11) aN) ?_
    have hr := of_some hr
    subst hr
    exact HT.ret (qThenR ⟨[.one (.dat (.int .u32) y10)], [], [], by kernel_rfl, by kernel_rfl, rfl, by kernel_rfl, by kernel_rfl, trivial⟩)
   ·refine HT.cond0 rfl hb9 ?_
    refine HT.skip (qThen ?_)
    obtain ⟨y12, hc13, hr⟩ := of_bind hr
    refine HT.rg2 [oH, oH, oH, oH, oH, ⟨none, .call [.imm tG, .imm (.int .u32), .imm (.int .u32), .imm tI] [⟨false, (.int .u32), y12⟩] []⟩, oH] ⟨[(1, .one (.dat (.int .u32) a1)), (2, pV 0 0), (9, iV (Int.tmod r3.1 (2 : Int))), (12, .one (.dat (.int .u32) y12))], [(0, .box [nC a0.1, nC a0.2.1, .dat (.sl tLI) a0.2.2])], 1⟩ hX (by kernel_rfl) (aC (f140_ok hc13) aN) ?_
    obtain ⟨y14, hc15, hr⟩ := of_bind hr
    refine HT.rg2 [oH, oH, oH, oH, oH, oH, ⟨none, .call [.imm tG, .imm (.int .u32), .imm tI] [⟨false, (.int .u32), y14⟩] []⟩, oH, oH] ⟨[(1, .one (.dat (.int .u32) a1)), (2, pV 0 0), (9, iV (Int.tmod r3.1 (2 : Int))), (11, .one (.dat (.int .u32) (IntKind.wrap .u32 (BitVec.ofInt (IntKind.bits .u32) y12 ||| BitVec.ofInt (IntKind.bits .u32) y14).toNat)))], [(0, .box [nC a0.1, nC a0.2.1, .dat (.sl tLI) a0.2.2])], 1⟩ hX (by kernel_rfl) (aC (f233_okG ih hc15) aN) ?_
    obtain ⟨q16, hq17, hr⟩ := of_bind hr
    have hq17 := of_some2 hq17
    refine (Le.cv (s := ⟨[(0, 0)], [], [], false⟩) (own := []) (ps := [a1 = a1, (Int.tmod r3.1 (2 : Int)) = (Int.tmod r3.1 (2 : Int)), q16 = (IntKind.wrap .u32 (BitVec.ofInt (IntKind.bits .u32) y12 ||| BitVec.ofInt (IntKind.bits .u32) y14).toNat), a0.1 = a0.1, a0.2.1 = a0.2.1, a0.2.2 = a0.2.2]) (st' := ⟨[(1, .one (.dat (.int .u32) a1)), (2, pV 0 0), (9, iV (Int.tmod r3.1 (2 : Int))), (11, .one (.dat (.int .u32) q16))], [(0, .box [nC a0.1, nC a0.2.1, .dat (.sl tLI) a0.2.2])], 1⟩) hO (fun h => by cases h) (by kernel_rfl) ⟨rfl, rfl, hq17, rfl, rfl, rfl, trivial⟩).ht ?_
    obtain ⟨y18, hc19, hr⟩ := of_bind hr
    refine HT.rg2 [oH, oH, oH, oH, oH, oH, ⟨none, .call [.imm tG, .imm (.int .u32), .imm (.int .u32), .imm tI] [⟨false, (.int .u32), y18⟩] []⟩, oH] ⟨[(4, .one (.dat (.int .u32) y18))], [], 1⟩ hX (by kernel_rfl) (aC (f234_ok hc19) aN) ?_
    have hr := of_some hr
    subst hr
    exact HT.ret ⟨[.one (.dat (.int .u32) y18)], [], [], by kernel_rfl, by kernel_rfl, rfl, by kernel_rfl, by kernel_rfl, trivial⟩
  ·refine HT.rg2 [oH] ⟨[(1, .one (.dat (.int .u32) a1)), (2, pV 0 0), (5, iV s2.1), (6, .one (.dat (.int .u32) s2.2.1)), (16, nV a0.2.1), (17, iV (lenI a0.2.1)), (18, iV s2.2.2), (19, bV (decide (s2.2.2 < (lenI a0.2.1))))], [(0, .box [nC a0.1, nC a0.2.1, .dat (.sl tLI) a0.2.2])], 1⟩ hX (by kernel_rfl) aN ?_
   refine HT.seq ?_
   rcases of_bif hx21 with ⟨hb23, hx21⟩ | ⟨hb23, hx21⟩
   ·refine HT.cond1 rfl hb23 ?_
    refine HT.skip (qThen ?_)
    obtain ⟨v24', hT26, hx21⟩ := of_bind hx21
    refine HT.join (fun (v24 : Int × Int) => ⟨[(1, .one (.dat (.int .u32) a1)), (2, pV 0 0), (5, iV v24.1), (6, .one (.dat (.int .u32) v24.2)), (16, nV a0.2.1), (17, iV (lenI a0.2.1)), (18, iV s2.2.2)], [(0, .box [nC a0.1, nC a0.2.1, .dat (.sl tLI) a0.2.2])], 1⟩) (fun v => v = v24') (fun v24 hv25 => ?_) (fun cont => ?_)
    ·subst hv25
     have hx21 := of_some hx21
     subst hx21
     exact HT.rgK (oHs 2) [(0, 0)] [] hX (by kernel_rfl) aN (fun _ h => (qLoopN ⟨(v24.1, v24.2, (wadd .i64 s2.2.2 (1 : Int))), rfl, h⟩))
    ·refine HT.block ?_
     obtain ⟨hg27, hT26⟩ := of_guard hT26
     refine HT.rg2 (oHs 5) ⟨[(1, .one (.dat (.int .u32) a1)), (2, pV 0 0), (5, iV s2.1), (6, .one (.dat (.int .u32) s2.2.1)), (7, iV s2.2.2), (8, iV (List.getD a0.2.1 (Int.toNat s2.2.2) (0 : Int))), (16, nV a0.2.1), (17, iV (lenI a0.2.1)), (18, iV s2.2.2)], [(0, .box [nC a0.1, nC a0.2.1, .dat (.sl tLI) a0.2.2])], 1⟩ hX (by kernel_rfl) (aC hg27 aN) ?_
     refine HT.seq ?_
     obtain ⟨v28', hT30, hT26⟩ := of_bind hT26
     refine HT.join (fun (v28 : Bool) => ⟨[(1, .one (.dat (.int .u32) a1)), (2, pV 0 0), (5, iV s2.1), (6, .one (.dat (.int .u32) s2.2.1)), (7, iV s2.2.2), (8, iV (List.getD a0.2.1 (Int.toNat s2.2.2) (0 : Int))), (16, nV a0.2.1), (17, iV (lenI a0.2.1)), (18, iV s2.2.2), (32, bV v28)], [(0, .box [nC a0.1, nC a0.2.1, .dat (.sl tLI) a0.2.2])], 1⟩) (fun v => v = v28') (fun v28 hv29 => ?_) (fun cont => ?_)
     ·subst hv29
      rcases of_bif hT26 with ⟨hb31, hT26⟩ | ⟨hb31, hT26⟩
      ·refine HT.cond1 rfl hb31 ?_
       refine HT.exit (qThenE (qBlockX (qThen ?_)))
       exact (Le.re [(0, 0)] [] hX (by kernel_rfl)).ht (cont (s2.1, s2.2.1) (of_some hT26))
      ·refine HT.cond0 rfl hb31 ?_
       refine HT.skip (qThen ?_)
       obtain ⟨v32', hT34, hT26⟩ := of_bind hT26
       refine HT.join (fun (v32 : Int × Int) => ⟨[(1, .one (.dat (.int .u32) a1)), (2, pV 0 0), (5, iV v32.1), (6, .one (.dat (.int .u32) v32.2)), (7, iV s2.2.2), (16, nV a0.2.1), (17, iV (lenI a0.2.1)), (18, iV s2.2.2)], [(0, .box [nC a0.1, nC a0.2.1, .dat (.sl tLI) a0.2.2])], 1⟩) (fun v => v = v32') (fun v32 hv33 => ?_) (fun cont => ?_)
       ·subst hv33
        obtain ⟨hg35, hT26⟩ := of_guard hT26
        exact HT.rgK (oHs 5) [(0, 0)] [] hX (by kernel_rfl) (aC hg35 aN) (fun _ h => (qBlock (qThen (h.ht (cont (v32.1, (IntKind.wrap .u32 (BitVec.ofInt (IntKind.bits .u32) v32.2 ||| BitVec.ofInt (IntKind.bits .u32) (IntKind.wrap .u32 ((1 : Int) * 2 ^ (min (Int.toNat s2.2.2) (IntKind.bits .u32))))).toNat)) (of_some hT26))))))
       ·refine HT.rg2 (oHs 3) ⟨[(1, .one (.dat (.int .u32) a1)), (2, pV 0 0), (5, iV s2.1), (6, .one (.dat (.int .u32) s2.2.1)), (7, iV s2.2.2), (8, iV (List.getD a0.2.1 (Int.toNat s2.2.2) (0 : Int))), (16, nV a0.2.1), (17, iV (lenI a0.2.1)), (18, iV s2.2.2), (35, bV (decide ((List.getD a0.2.1 (Int.toNat s2.2.2) (0 : Int)) > s2.1)))], [(0, .box [nC a0.1, nC a0.2.1, .dat (.sl tLI) a0.2.2])], 1⟩ hX (by kernel_rfl) aN ?_
        rcases of_bif hT34 with ⟨hb36, hT34⟩ | ⟨hb36, hT34⟩
        ·refine HT.cond1 rfl hb36 ?_
         exact HT.rgK (oHs 3) [(0, 0)] [] hX (by kernel_rfl) aN (fun _ h => (qThen (h.ht (cont ((List.getD a0.2.1 (Int.toNat s2.2.2) (0 : Int)), (0 : Int)) (of_some hT34)))))
        ·refine HT.cond0 rfl hb36 ?_
         refine HT.skip (qThen ?_)
         exact (Le.re [(0, 0)] [] hX (by kernel_rfl)).ht (cont (s2.1, s2.2.1) (of_some hT34))
     ·obtain ⟨hg37, hT30⟩ := of_guard hT30
      rcases of_bif hT30 with ⟨hb38, hT30⟩ | ⟨hb38, hT30⟩
      ·exact HT.rgK [oH, oH, oH, oH, oH, oH, oT, oT, oT, vT] [(0, 0)] [] hX (by kernel_rfl) (aC hg37 (aC hb38 (aC hb38 (aC hb38 (aC hb38 aN))))) (fun _ h => (qThen (h.ht (cont true (of_some hT30)))))
      ·exact HT.rgK [oH, oH, oH, oH, oH, oH, oF, oF, oF, vF] [(0, 0)] [] hX (by kernel_rfl) (aC hg37 (aC hb38 (aC hb38 (aC hb38 (aC hb38 aN))))) (fun _ h => (qThen (h.ht (cont (decide ((List.getD a0.2.1 (Int.toNat s2.2.2) (0 : Int)) < s2.1)) (of_some hT30)))))
   ·refine HT.cond0 rfl hb23 ?_
    have hx21 := of_some hx21
    subst hx21
    exact HT.exitL (Le.re [(0, 0)] [] hX (by kernel_rfl)) (qThenE (qLoopE (hk22 (s2.1, s2.2.1) rfl)))

noncomputable def impl_Game_solve (a0 : TyG) (a1 : Int) : Option (Int) := recO (fun slv x => impl_Game_solve_G slv x.1 x.2) (a0, a1)

theorem f201_ok {a0 : TyG} {a1 : Int} {r : Int} (hr : impl_Game_solve a0 a1 = some r) : CallOK Try.prog 201 [.imm tG a0, .imm (.int .u32) a1] [⟨false, (.int .u32), r⟩] [] :=
 recO_ok (F := fun slv x => impl_Game_solve_G slv x.1 x.2) (C := fun x r => CallOK Try.prog 201 [.imm tG x.1, .imm (.int .u32) x.2] [⟨false, (.int .u32), r⟩] []) (fun _ ih _ _ h => f201_okG (fun h => ih _ _ h) h) hr

noncomputable def impl_Game_winners_B1 (a0 : TyG) (y3 : Int) (s5 : Int × List Int) : Option ((Int × List Int) ⊕ (List Int)) :=
 bif (decide (s5.1 < (lenI a0.1))) then
  guardP ((0 : Int) ≤ s5.1) (
   guardP (List.length s5.2 + List.length ([(wsub .i64 (1 : Int) (IntKind.wrap .i64 (IntKind.wrap .u32 (BitVec.ofInt (IntKind.bits .u32) (Int.fdiv y3 (2 ^ (min (Int.toNat s5.1) (IntKind.bits .u32)))) &&& BitVec.ofInt (IntKind.bits .u32) (1 : Int)).toNat)))] : List Int) ≤ appMax) (
    some (.inl ((wadd .i64 s5.1 (1 : Int)), (s5.2 ++ ([(wsub .i64 (1 : Int) (IntKind.wrap .i64 (IntKind.wrap .u32 (BitVec.ofInt (IntKind.bits .u32) (Int.fdiv y3 (2 ^ (min (Int.toNat s5.1) (IntKind.bits .u32)))) &&& BitVec.ofInt (IntKind.bits .u32) (1 : Int)).toNat)))] : List Int))))))
 else
  some (.inr s5.2)

noncomputable def impl_Game_winners (a0 : TyG) : Option (List Int) :=
 (impl_Game_all (a0.1, a0.2.1, a0.2.2)).bind fun y1 =>
 (impl_Game_solve (a0.1, a0.2.1, a0.2.2) y1).bind fun y3 =>
 (rounds (impl_Game_winners_B1 a0 y3) ((0 : Int), ([] : List Int))).bind fun r7 =>
 some r7

theorem f126_ok {a0 : TyG} {r : List Int} (hr : impl_Game_winners a0 = some r) : CallOK Try.prog 126 [.imm tG a0] [⟨true, tLI, r⟩] [] := by
 unfold impl_Game_winners at hr
 refine CallOK.of_body (ts := [(true, tLI)]) Try.func126 rfl (by kernel_rfl) (Nat.le_of_ble_eq_true (by kernel_rfl)) fun cx hP hN hO hF => ?_
 have hO : cx.own.map Prod.fst = [] := hO
 have hX := CxIs.mk hP hN hO
 have hF := hF rfl
 show HT cx ⟨[(0, .agg [nC a0.1, nC a0.2.1, .dat (.sl tLI) a0.2.2])], [], 0⟩ _ _
 refine HT.rg2 (oHs 2) ⟨[(1, pV 0 0)], [(0, .box [nC a0.1, nC a0.2.1, .dat (.sl tLI) a0.2.2])], 1⟩ hX (by kernel_rfl) aN ?_
 obtain ⟨y1, hc2, hr⟩ := of_bind hr
 obtain ⟨y3, hc4, hr⟩ := of_bind hr
 refine HT.dr2 3 [⟨oH, []⟩, ⟨oH, []⟩, ⟨⟨none, .call [.imm tG] [⟨false, (.int .u32), y1⟩] []⟩, [1]⟩] [[0, 1, 2], [0, 1, 2, 3]] [⟨none, .call [.imm tG, .imm (.int .u32)] [⟨false, (.int .u32), y3⟩] []⟩, oH] ⟨[(1, pV 0 0), (3, .one (.dat (.int .u32) y3))], [(0, .box [nC a0.1, nC a0.2.1, .dat (.sl tLI) a0.2.2])], 1⟩ hX (by kernel_rfl) (by kernel_rfl) (aC (f141_ok hc2) (aC (f201_ok hc4) aN)) ?_
 refine HT.rg2 (oHs 2) ⟨[(1, pV 0 0), (3, .one (.dat (.int .u32) y3)), (4, .one (.nilS))], [(0, .box [nC a0.1, nC a0.2.1, .dat (.sl tLI) a0.2.2])], 1⟩ hX (by kernel_rfl) aN ?_
 refine HT.seq ?_
 refine HT.rg2 (oHs 4) ⟨[(3, .one (.dat (.int .u32) y3)), (4, .one (.nilS)), (13, iV (lenI a0.1)), (14, iV (0 : Int))], [], 1⟩ hX (by kernel_rfl) aN ?_
 refine HT.block ?_
 obtain ⟨r6, hL14, hr⟩ := of_bind hr
 refine HT.loopL (fun (s5 : Int × List Int) => ⟨[(3, .one (.dat (.int .u32) y3)), (4, aV 0), (13, iV (lenI a0.1)), (14, iV s5.1)], [(0, .seq tI s5.2)], 1⟩) (fun (r7 : List Int) => (.exit 0, ⟨[(4, aV 0)], [(0, .seq tI r7)], 1⟩)) (Le.re [] [0] hX (by kernel_rfl)) hL14 ?_ (fun s5 x8 hx9 hk10 => ?_)
 ·refine (qBlockX (qThen ?_))
  refine HT.rg2 (oHs 2) ⟨[(2, aV 0)], [(0, .seq tI r6)], 1⟩ hX (by kernel_rfl) aN ?_
  have hr := of_some hr
  subst hr
  exact HT.ret ⟨[aV 0], [0], [], by kernel_rfl, by kernel_rfl, rfl, by kernel_rfl, by kernel_rfl, trivial⟩
 ·refine HT.rg2 [oH] ⟨[(3, .one (.dat (.int .u32) y3)), (4, aV 0), (13, iV (lenI a0.1)), (14, iV s5.1), (15, bV (decide (s5.1 < (lenI a0.1))))], [(0, .seq tI s5.2)], 1⟩ hX (by kernel_rfl) aN ?_
  refine HT.seq ?_
  rcases of_bif hx9 with ⟨hb11, hx9⟩ | ⟨hb11, hx9⟩
  ·refine HT.cond1 rfl hb11 ?_
   refine HT.skip (qThen ?_)
   refine HT.seq ?_
   refine HT.block ?_
   refine HT.rg2 (oHs 2) ⟨[(3, .one (.dat (.int .u32) y3)), (4, aV 0), (5, iV s5.1), (13, iV (lenI a0.1)), (14, iV s5.1)], [(0, .seq tI s5.2)], 1⟩ hX (by kernel_rfl) aN ?_
   obtain ⟨hg12, hx9⟩ := of_guard hx9
   obtain ⟨hg13, hx9⟩ := of_guard hx9
   refine HT.rgL [oH, oH, oH, oH, oH, oH, oH, ⟨none, .ty tI⟩, ⟨none, .ty tI⟩, oH] ⟨[(3, .one (.dat (.int .u32) y3)), (4, aV 2), (13, iV (lenI a0.1)), (14, iV s5.1)], [(2, .seq tI (s5.2 ++ ([(wsub .i64 (1 : Int) (IntKind.wrap .i64 (IntKind.wrap .u32 (BitVec.ofInt (IntKind.bits .u32) (Int.fdiv y3 (2 ^ (min (Int.toNat s5.1) (IntKind.bits .u32)))) &&& BitVec.ofInt (IntKind.bits .u32) (1 : Int)).toNat)))] : List Int)))], 3⟩ hX (by kernel_rfl) (aC hg12 (aC hg13 aN)) (qBlock (qThen ?_))
   have hx9 := of_some hx9
   subst hx9
   exact HT.rgK (oHs 2) [(2, 0)] [] hX (by kernel_rfl) aN (fun _ h => (qLoopN ⟨((wadd .i64 s5.1 (1 : Int)), (s5.2 ++ ([(wsub .i64 (1 : Int) (IntKind.wrap .i64 (IntKind.wrap .u32 (BitVec.ofInt (IntKind.bits .u32) (Int.fdiv y3 (2 ^ (min (Int.toNat s5.1) (IntKind.bits .u32)))) &&& BitVec.ofInt (IntKind.bits .u32) (1 : Int)).toNat)))] : List Int))), rfl, h⟩))
  ·refine HT.cond0 rfl hb11 ?_
   have hx9 := of_some hx9
   subst hx9
   exact HT.exitL (Le.re [(0, 0)] [] hX (by kernel_rfl)) (qThenE (qLoopE (hk10 s5.2 rfl)))

noncomputable def impl_SolveGame (a0 : TyG) : Option (List Int × Bool) :=
 (impl_ValidGame (a0.1, a0.2.1, a0.2.2)).bind fun y1 =>
 bif (!y1) then
  some (([] : List Int), false)
 else
  (impl_Game_winners (a0.1, a0.2.1, a0.2.2)).bind fun y4 =>
  some (y4, true)

theorem f47_ok {a0 : TyG} {r : List Int × Bool} (hr : impl_SolveGame a0 = some r) : CallOK Try.prog 47 [.imm tG a0] [⟨true, tLI, r.1⟩, ⟨false, .bool, r.2⟩] [] := by
 unfold impl_SolveGame at hr
 refine CallOK.of_body (ts := [(true, tLI), (false, .bool)]) Try.func47 rfl (by kernel_rfl) (Nat.le_of_ble_eq_true (by kernel_rfl)) fun cx hP hN hO hF => ?_
 have hO : cx.own.map Prod.fst = [] := hO
 have hX := CxIs.mk hP hN hO
 have hF := hF rfl
 show HT cx ⟨[(0, .agg [nC a0.1, nC a0.2.1, .dat (.sl tLI) a0.2.2])], [], 0⟩ _ _
 refine HT.rg2 (oHs 3) ⟨[(1, pV 0 0)], [(0, .box [nC a0.1, nC a0.2.1, .dat (.sl tLI) a0.2.2])], 1⟩ hX (by kernel_rfl) aN ?_
 refine HT.seq ?_
 obtain ⟨y1, hc2, hr⟩ := of_bind hr
 refine HT.rg2 [oH, ⟨none, .call [.imm tG] [⟨false, .bool, y1⟩] []⟩, oH] ⟨[(1, pV 0 0), (6, bV (!y1))], [(0, .box [nC a0.1, nC a0.2.1, .dat (.sl tLI) a0.2.2])], 1⟩ hX (by kernel_rfl) (aC (f53_ok hc2) aN) ?_
 rcases of_bif hr with ⟨hb3, hr⟩ | ⟨hb3, hr⟩
 ·refine HT.cond1 rfl hb3 ?_
  refine HT.rg2 (oHs 2) ⟨[(2, .one (.nilS)), (3, bV false)], [], 1⟩ hX (by kernel_rfl) aN ?_
  have hr := of_some hr
  subst hr
  exact HT.ret (qThenR ⟨[.one (.nilS), bV false], [], [], by kernel_rfl, by kernel_rfl, rfl, by kernel_rfl, by kernel_rfl, trivial⟩)
 ·refine HT.cond0 rfl hb3 ?_
  refine HT.skip (qThen ?_)
  obtain ⟨y4, hc5, hr⟩ := of_bind hr
  refine HT.rg2 [oH, ⟨none, .call [.imm tG] [⟨true, tLI, y4⟩] []⟩, oH, oH] ⟨[(2, aV 1), (3, bV true)], [(1, .seq tI y4)], 2⟩ hX (by kernel_rfl) (aC (f126_ok hc5) aN) ?_
  have hr := of_some hr
  subst hr
  exact HT.ret ⟨[aV 1, bV true], [1], [], by kernel_rfl, by kernel_rfl, rfl, by kernel_rfl, by kernel_rfl, trivial⟩

noncomputable def spec_l00In (a0 : Int) (a1 : Int) (a2 : Int) : Option (Bool) :=
 (show Option (Bool) from
  bif (decide (a0 ≥ a1)) then
   some (decide (a0 ≤ a2))
  else
   some false).bind fun v1 =>
 some v1

theorem f114_ok {a0 : Int} {a1 : Int} {a2 : Int} {r : Bool} (hr : spec_l00In a0 a1 a2 = some r) : CallOK Try.prog 114 [.imm tI a0, .imm tI a1, .imm tI a2] [⟨false, .bool, r⟩] [] := by
 unfold spec_l00In at hr
 refine CallOK.of_body (ts := [(false, .bool)]) Try.func114 rfl (by kernel_rfl) (Nat.le_of_ble_eq_true (by kernel_rfl)) fun cx hP hN hO hF => ?_
 have hO : cx.own.map Prod.fst = [] := hO
 have hX := CxIs.mk hP hN hO
 have hF := hF rfl
 show HT cx ⟨[(0, iV a0), (1, iV a1), (2, iV a2)], [], 0⟩ _ _
 refine HT.rg2 [oH] ⟨[(0, iV a0), (1, iV a1), (2, iV a2)], [], 0⟩ hX (by kernel_rfl) aN ?_
 obtain ⟨v1', hT3, hr⟩ := of_bind hr
 refine HT.join (fun (v1 : Bool) => ⟨[(6, bV v1)], [], 0⟩) (fun v => v = v1') (fun v1 hv2 => ?_) (fun cont => ?_)
 ·subst hv2
  have hr := of_some hr
  subst hr
  exact HT.ret ⟨[bV v1], [], [], by kernel_rfl, by kernel_rfl, rfl, by kernel_rfl, by kernel_rfl, trivial⟩
 ·rcases of_bif hT3 with ⟨hb4, hT3⟩ | ⟨hb4, hT3⟩
  ·exact HT.rgK [oH, oH, oH, oH, oT, oT, oT, vT, oH] [] [] hX (by kernel_rfl) (aC hb4 (aC hb4 (aC hb4 (aC hb4 aN)))) (fun _ h => (qThen (h.ht (cont (decide (a0 ≤ a2)) (of_some hT3)))))
  ·exact HT.rgK [oH, oH, oH, oH, oF, oF, oF, vF, oH] [] [] hX (by kernel_rfl) (aC hb4 (aC hb4 (aC hb4 (aC hb4 aN)))) (fun _ h => (qThen (h.ht (cont false (of_some hT3)))))

noncomputable def spec_l07Game_B1 (a0 : TyG) (s5 : Int) (s18 : Int) : Option ((Int) ⊕ (Unit ⊕ Unit)) :=
 bif (decide (s18 < (lenI (List.getD a0.2.2 (Int.toNat s5) ([] : List Int))))) then
  (show Option (Bool) from
   guardP ((0 : Int) ≤ s18 ∧ s18 < lenI (List.getD a0.2.2 (Int.toNat s5) ([] : List Int))) (
    (spec_l00In (List.getD (List.getD a0.2.2 (Int.toNat s5) ([] : List Int)) (Int.toNat s18) (0 : Int)) (0 : Int) (wsub .i64 (lenI a0.1) (1 : Int))).bind fun y31 =>
    bif (!y31) then
     some true
    else
     bif (decide (s18 > (0 : Int))) then
      guardP ((0 : Int) ≤ (wsub .i64 s18 (1 : Int)) ∧ (wsub .i64 s18 (1 : Int)) < lenI (List.getD a0.2.2 (Int.toNat s5) ([] : List Int))) (
       some (decide ((List.getD (List.getD a0.2.2 (Int.toNat s5) ([] : List Int)) (Int.toNat s18) (0 : Int)) ≤ (List.getD (List.getD a0.2.2 (Int.toNat s5) ([] : List Int)) (Int.toNat (wsub .i64 s18 (1 : Int))) (0 : Int)))))
     else
      some false)).bind fun v26 =>
  bif v26 then
   some (.inr (.inr ()))
  else
   some (.inl (wadd .i64 s18 (1 : Int)))
 else
  some (.inr (.inl ()))

noncomputable def spec_l07Game_B2 (a0 : TyG) (s5 : Int) : Option ((Int) ⊕ (Unit ⊕ Unit)) :=
 bif (decide (s5 < (lenI a0.1))) then
  (show Option (Bool) from
   guardP ((0 : Int) ≤ s5 ∧ s5 < lenI a0.1) (
    (spec_l00In (List.getD a0.1 (Int.toNat s5) (0 : Int)) (0 : Int) (1 : Int)).bind fun y38 =>
    bif (!y38) then
     some true
    else
     guardP ((0 : Int) ≤ s5 ∧ s5 < lenI a0.2.1) (
      (spec_l00In (List.getD a0.2.1 (Int.toNat s5) (0 : Int)) (0 : Int) (8 : Int)).bind fun y42 =>
      bif (!y42) then
       some true
      else
       guardP ((0 : Int) ≤ s5 ∧ s5 < lenI a0.2.2) (
        some (decide ((lenI (List.getD a0.2.2 (Int.toNat s5) ([] : List Int))) < (1 : Int))))))).bind fun v13 =>
  bif v13 then
   some (.inr (.inr ()))
  else
   guardP ((0 : Int) ≤ s5 ∧ s5 < lenI a0.2.2) (
    (rounds (spec_l07Game_B1 a0 s5) (0 : Int)).bind fun r19 => match r19 with
     | .inl r20 =>
      some (.inl (wadd .i64 s5 (1 : Int)))
     | .inr r21 =>
      some (.inr (.inr ())))
 else
  some (.inr (.inl ()))

noncomputable def spec_l07Game (a0 : TyG) : Option (Bool) :=
 (show Option (Bool) from
  bif (decide ((lenI a0.1) < (1 : Int))) then
   some true
  else
   bif (decide ((lenI a0.1) > (16 : Int))) then
    some true
   else
    bif ((lenI a0.2.1) != (lenI a0.1)) then
     some true
    else
     some ((lenI a0.2.2) != (lenI a0.1))).bind fun v1 =>
 bif v1 then
  some false
 else
  (rounds (spec_l07Game_B2 a0) (0 : Int)).bind fun r6 => match r6 with
   | .inl r7 =>
    some true
   | .inr r8 =>
    some false

theorem f127_ok {a0 : TyG} {r : Bool} (hr : spec_l07Game a0 = some r) : CallOK Try.prog 127 [.pimm tG a0] [⟨false, .bool, r⟩] [] := by
 unfold spec_l07Game at hr
 refine CallOK.of_body (ts := [(false, .bool)]) Try.func127 rfl (by kernel_rfl) (Nat.le_of_ble_eq_true (by kernel_rfl)) fun cx hP hN hO hF => ?_
 have hO : cx.own.map Prod.fst = [] := hO
 have hX := CxIs.mk hP hN hO
 have hF := hF rfl
 show HT cx ⟨[(0, .one (.ip tG a0 0))], [], 0⟩ _ _
 refine HT.rg2 [oH] ⟨[(0, .one (.ip tG a0 0))], [], 0⟩ hX (by kernel_rfl) aN ?_
 refine HT.rg2 (oHs 6) ⟨[(0, .one (.ip tG a0 0)), (3, iV (lenI a0.1))], [], 0⟩ hX (by kernel_rfl) aN ?_
 refine HT.seq ?_
 obtain ⟨v1', hT3, hr⟩ := of_bind hr
 refine HT.join (fun (v1 : Bool) => ⟨[(0, .one (.ip tG a0 0)), (3, iV (lenI a0.1)), (34, bV v1)], [], 0⟩) (fun v => v = v1') (fun v1 hv2 => ?_) (fun cont => ?_)
 ·subst hv2
  rcases of_bif hr with ⟨hb4, hr⟩ | ⟨hb4, hr⟩
  ·refine HT.cond1 rfl hb4 ?_
   refine HT.rg2 [oH] ⟨[(2, bV false)], [], 0⟩ hX (by kernel_rfl) aN ?_
   have hr := of_some hr
   subst hr
   exact HT.ret (qThenR ⟨[bV false], [], [], by kernel_rfl, by kernel_rfl, rfl, by kernel_rfl, by kernel_rfl, trivial⟩)
  ·refine HT.cond0 rfl hb4 ?_
   refine HT.skip (qThen ?_)
   refine HT.seq ?_
   refine HT.rg2 (oHs 6) ⟨[(0, .one (.ip tG a0 0)), (3, iV (lenI a0.1)), (39, iV (lenI a0.1)), (40, iV (0 : Int))], [], 0⟩ hX (by kernel_rfl) aN ?_
   refine HT.block ?_
   obtain ⟨r6, hL46, hr⟩ := of_bind hr
   refine HT.loopL (fun (s5 : Int) => ⟨[(0, .one (.ip tG a0 0)), (3, iV (lenI a0.1)), (39, iV (lenI a0.1)), (40, iV s5)], [], 0⟩) (fun (r6 : Unit ⊕ Unit) => match r6 with | .inl r7 => (.exit 0, ⟨[], [], 0⟩) | .inr r8 => (.ret, ⟨[(2, bV false)], [], 0⟩)) (Le.re [] [] hX (by kernel_rfl)) hL46 ?_ (fun s5 x9 hx10 hk11 => ?_)
   ·rcases r6 with r7 | r8
    ·refine (qBlockX (qThen ?_))
     refine HT.rg2 [oH] ⟨[(2, bV true)], [], 0⟩ hX (by kernel_rfl) aN ?_
     have hr := of_some hr
     subst hr
     exact HT.ret ⟨[bV true], [], [], by kernel_rfl, by kernel_rfl, rfl, by kernel_rfl, by kernel_rfl, trivial⟩
    ·have hr := of_some hr
     subst hr
     exact (qBlockR (qThenR ⟨[bV false], [], [], by kernel_rfl, by kernel_rfl, rfl, by kernel_rfl, by kernel_rfl, trivial⟩))
   ·refine HT.rg2 [oH] ⟨[(0, .one (.ip tG a0 0)), (3, iV (lenI a0.1)), (39, iV (lenI a0.1)), (40, iV s5), (41, bV (decide (s5 < (lenI a0.1))))], [], 0⟩ hX (by kernel_rfl) aN ?_
    refine HT.seq ?_
    rcases of_bif hx10 with ⟨hb12, hx10⟩ | ⟨hb12, hx10⟩
    ·refine HT.cond1 rfl hb12 ?_
     refine HT.skip (qThen ?_)
     refine HT.seq ?_
     refine HT.block ?_
     refine HT.rg2 (oHs 2) ⟨[(0, .one (.ip tG a0 0)), (3, iV (lenI a0.1)), (4, iV s5), (39, iV (lenI a0.1)), (40, iV s5)], [], 0⟩ hX (by kernel_rfl) aN ?_
     refine HT.seq ?_
     obtain ⟨v13', hT15, hx10⟩ := of_bind hx10
     refine HT.join (fun (v13 : Bool) => ⟨[(0, .one (.ip tG a0 0)), (3, iV (lenI a0.1)), (4, iV s5), (39, iV (lenI a0.1)), (40, iV s5), (73, bV v13)], [], 0⟩) (fun v => v = v13') (fun v13 hv14 => ?_) (fun cont => ?_)
     ·subst hv14
      rcases of_bif hx10 with ⟨hb16, hx10⟩ | ⟨hb16, hx10⟩
      ·refine HT.cond1 rfl hb16 ?_
       refine HT.rg2 [oH] ⟨[(2, bV false)], [], 0⟩ hX (by kernel_rfl) aN ?_
       have hx10 := of_some hx10
       subst hx10
       exact HT.retL (Le.re [] [] hX (by kernel_rfl)) (qThenR (qBlockR (qThenR (qLoopR (hk11 (.inr ()) rfl)))))
      ·refine HT.cond0 rfl hb16 ?_
       refine HT.skip (qThen ?_)
       obtain ⟨hg17, hx10⟩ := of_guard hx10
       refine HT.rg2 (oHs 9) ⟨[(0, .one (.ip tG a0 0)), (3, iV (lenI a0.1)), (4, iV s5), (39, iV (lenI a0.1)), (40, iV s5), (81, iV (lenI (List.getD a0.2.2 (Int.toNat s5) ([] : List Int)))), (82, iV (0 : Int))], [], 0⟩ hX (by kernel_rfl) (aC hg17 aN) ?_
       refine HT.block ?_
       obtain ⟨r19, hL36, hx10⟩ := of_bind hx10
       refine HT.loopL (fun (s18 : Int) => ⟨[(0, .one (.ip tG a0 0)), (3, iV (lenI a0.1)), (4, iV s5), (39, iV (lenI a0.1)), (40, iV s5), (81, iV (lenI (List.getD a0.2.2 (Int.toNat s5) ([] : List Int)))), (82, iV s18)], [], 0⟩) (fun (r19 : Unit ⊕ Unit) => match r19 with | .inl r20 => (.exit 2, ⟨[(0, .one (.ip tG a0 0)), (3, iV (lenI a0.1)), (39, iV (lenI a0.1)), (40, iV s5)], [], 0⟩) | .inr r21 => (.ret, ⟨[(2, bV false)], [], 0⟩)) (Le.re [] [] hX (by kernel_rfl)) hL36 ?_ (fun s18 x22 hx23 hk24 => ?_)
       ·rcases r19 with r20 | r21
        ·refine (qBlockX (qBlock (qThen ?_)))
         have hx10 := of_some hx10
         subst hx10
         exact HT.rgK (oHs 2) [] [] hX (by kernel_rfl) aN (fun _ h => (qLoopN ⟨(wadd .i64 s5 (1 : Int)), rfl, h⟩))
        ·have hx10 := of_some hx10
         subst hx10
         exact (qBlockR (qBlockR (qThenR (qLoopR (hk11 (.inr ()) rfl)))))
       ·refine HT.rg2 [oH] ⟨[(0, .one (.ip tG a0 0)), (3, iV (lenI a0.1)), (4, iV s5), (39, iV (lenI a0.1)), (40, iV s5), (81, iV (lenI (List.getD a0.2.2 (Int.toNat s5) ([] : List Int)))), (82, iV s18), (83, bV (decide (s18 < (lenI (List.getD a0.2.2 (Int.toNat s5) ([] : List Int))))))], [], 0⟩ hX (by kernel_rfl) aN ?_
        refine HT.seq ?_
        rcases of_bif hx23 with ⟨hb25, hx23⟩ | ⟨hb25, hx23⟩
        ·refine HT.cond1 rfl hb25 ?_
         refine HT.skip (qThen ?_)
         refine HT.seq ?_
         refine HT.block ?_
         refine HT.rg2 (oHs 2) ⟨[(0, .one (.ip tG a0 0)), (3, iV (lenI a0.1)), (4, iV s5), (5, iV s18), (39, iV (lenI a0.1)), (40, iV s5), (81, iV (lenI (List.getD a0.2.2 (Int.toNat s5) ([] : List Int)))), (82, iV s18)], [], 0⟩ hX (by kernel_rfl) aN ?_
         obtain ⟨v26', hT28, hx23⟩ := of_bind hx23
         refine HT.join (fun (v26 : Bool) => ⟨[(0, .one (.ip tG a0 0)), (3, iV (lenI a0.1)), (4, iV s5), (39, iV (lenI a0.1)), (40, iV s5), (81, iV (lenI (List.getD a0.2.2 (Int.toNat s5) ([] : List Int)))), (82, iV s18), (126, bV v26)], [], 0⟩) (fun v => v = v26') (fun v26 hv27 => ?_) (fun cont => ?_)
         ·subst hv27
          rcases of_bif hx23 with ⟨hb29, hx23⟩ | ⟨hb29, hx23⟩
          ·refine HT.cond1 rfl hb29 ?_
           refine HT.rg2 [oH] ⟨[(2, bV false)], [], 0⟩ hX (by kernel_rfl) aN ?_
           have hx23 := of_some hx23
           subst hx23
           exact HT.retL (Le.re [] [] hX (by kernel_rfl)) (qBlockR (qThenR (qLoopR (hk24 (.inr ()) rfl))))
          ·refine HT.cond0 rfl hb29 ?_
           refine HT.skip (qBlock (qThen ?_))
           have hx23 := of_some hx23
           subst hx23
           exact HT.rgK (oHs 2) [] [] hX (by kernel_rfl) aN (fun _ h => (qLoopN ⟨(wadd .i64 s18 (1 : Int)), rfl, h⟩))
         ·obtain ⟨hg30, hT28⟩ := of_guard hT28
          obtain ⟨y31, hc32, hT28⟩ := of_bind hT28
          rcases of_bif hT28 with ⟨hb33, hT28⟩ | ⟨hb33, hT28⟩
          ·exact HT.drK 39 [⟨oH, []⟩, ⟨oH, [0]⟩, ⟨oH, [0, 1]⟩, ⟨oH, [0, 1, 2]⟩, ⟨oH, []⟩, ⟨oH, [0, 1, 2, 3, 4]⟩, ⟨oH, [0, 1, 2, 3, 4, 5]⟩, ⟨oH, []⟩, ⟨oH, [0, 1, 2, 3, 4, 5, 6, 7]⟩, ⟨oH, [0, 1, 2, 3, 4, 5, 6, 7, 8]⟩, ⟨oH, []⟩, ⟨oH, [10]⟩, ⟨⟨none, .call [.imm tI, .imm tI, .imm tI] [⟨false, .bool, y31⟩] []⟩, [0, 1, 2, 3, 4, 5, 6, 7, 8, 9, 10, 11]⟩, ⟨oH, [0, 1, 2, 3, 4, 5, 6, 7, 8, 9, 10, 11, 12]⟩, ⟨oH, [0, 1, 2, 3, 4, 5, 6, 7, 8, 9, 10, 11, 12, 13]⟩, ⟨oT, [0, 1, 2, 3, 4, 5, 6, 7, 8, 9, 10, 11, 12, 13, 14]⟩, ⟨oT, [0, 1, 2, 3, 4, 5, 6, 7, 8, 9, 10, 11, 12, 13, 14, 15]⟩, ⟨oT, [0, 1, 2, 3, 4, 5, 6, 7, 8, 9, 10, 11, 12, 13, 14, 15, 16]⟩, ⟨oH, [0, 1, 2, 3, 4, 5, 6, 7, 8, 9, 10, 11, 12, 13, 14, 15, 16, 17]⟩, ⟨oH, [0, 1, 2, 3, 4, 5, 6, 7, 8, 9, 10, 11, 12, 13, 14, 15, 16, 17, 18]⟩, ⟨oH, [0, 1, 2, 3, 4, 5, 6, 7, 8, 9, 10, 11, 12, 13, 14, 15, 16, 17, 18, 19]⟩, ⟨oH, [0, 1, 2, 3, 4, 5, 6, 7, 8, 9, 10, 11, 12, 13, 14, 15, 16, 17, 18, 19, 20]⟩, ⟨oH, [0, 1, 2, 3, 4, 5, 6, 7, 8, 9, 10, 11, 12, 13, 14, 15, 16, 17]⟩, ⟨oH, [0, 1, 2, 3, 4, 5, 6, 7, 8, 9, 10, 11, 12, 13, 14, 15, 16, 17, 18, 19, 20, 21, 22]⟩, ⟨oH, [0, 1, 2, 3, 4, 5, 6, 7, 8, 9, 10, 11, 12, 13, 14, 15, 16, 17, 18, 19, 20, 21, 22, 23]⟩, ⟨oH, [0, 1, 2, 3, 4, 5, 6, 7, 8, 9, 10, 11, 12, 13, 14, 15, 16, 17]⟩, ⟨oH, [0, 1, 2, 3, 4, 5, 6, 7, 8, 9, 10, 11, 12, 13, 14, 15, 16, 17, 18, 19, 20, 21, 22, 23, 24, 25]⟩, ⟨oH, [0, 1, 2, 3, 4, 5, 6, 7, 8, 9, 10, 11, 12, 13, 14, 15, 16, 17, 18, 19, 20, 21, 22, 23, 24, 25, 26]⟩, ⟨oH, [0, 1, 2, 3, 4, 5, 6, 7, 8, 9, 10, 11, 12, 13, 14, 15, 16, 17]⟩, ⟨oH, [0, 1, 2, 3, 4, 5, 6, 7, 8, 9, 10, 11, 12, 13, 14, 15, 16, 17, 28]⟩, ⟨oH, [0, 1, 2, 3, 4, 5, 6, 7, 8, 9, 10, 11, 12, 13, 14, 15, 16, 17, 28, 29]⟩, ⟨oH, [0, 1, 2, 3, 4, 5, 6, 7, 8, 9, 10, 11, 12, 13, 14, 15, 16, 17, 28, 29, 30]⟩, ⟨oH, [0, 1, 2, 3, 4, 5, 6, 7, 8, 9, 10, 11, 12, 13, 14, 15, 16, 17]⟩, ⟨oH, [0, 1, 2, 3, 4, 5, 6, 7, 8, 9, 10, 11, 12, 13, 14, 15, 16, 17, 28, 29, 30, 31, 32]⟩, ⟨oH, [0, 1, 2, 3, 4, 5, 6, 7, 8, 9, 10, 11, 12, 13, 14, 15, 16, 17, 28, 29, 30, 31, 32, 33]⟩, ⟨oH, [0, 1, 2, 3, 4, 5, 6, 7, 8, 9, 10, 11, 12, 13, 14, 15, 16, 17]⟩, ⟨oH, [0, 1, 2, 3, 4, 5, 6, 7, 8, 9, 10, 11, 12, 13, 14, 15, 16, 17, 35]⟩, ⟨oH, [0, 1, 2, 3, 4, 5, 6, 7, 8, 9, 10, 11, 12, 13, 14, 15, 16, 17, 28, 29, 30, 31, 32, 33, 34, 35, 36]⟩, ⟨oH, [0, 1, 2, 3, 4, 5, 6, 7, 8, 9, 10, 11, 12, 13, 14, 15, 16, 17, 28, 29, 30, 31, 32, 33, 34, 35, 36, 37]⟩] [[0, 1, 2, 3, 4, 5, 6, 7, 8, 9, 10, 11, 12, 13, 14, 15, 16, 17, 18, 19, 20, 21, 22, 23, 24, 25, 26, 27, 28, 29, 30, 31, 32, 33, 34, 35, 36, 37, 38], [0, 1, 2, 3, 4, 5, 6, 7, 8, 9, 10, 11, 12, 13, 14, 15, 16, 17, 18, 19, 20, 21, 22, 23, 24, 25, 26, 27, 28, 29, 30, 31, 32, 33, 34, 35, 36, 37, 38, 39], [0, 1, 2, 3, 4, 5, 6, 7, 8, 9, 10, 11, 12, 13, 14, 15, 16, 17, 18, 19, 20, 21, 22, 23, 24, 25, 26, 27, 28, 29, 30, 31, 32, 33, 34, 35, 36, 37, 38, 39, 40]] [oH, oT, vT] [] [] hX (by kernel_rfl) (by kernel_rfl) (aC hg17 (aC hg30 (aC (f114_ok hc32) (aC hb33 (aC hb33 (aC hb33 (aC hb33 (aC hb33 aN)))))))) (fun _ h => (qThen (h.ht (cont true (of_some hT28)))))
          ·rcases of_bif hT28 with ⟨hb34, hT28⟩ | ⟨hb34, hT28⟩
           ·obtain ⟨hg35, hT28⟩ := of_guard hT28
            exact HT.drK 39 [⟨oH, []⟩, ⟨oH, [0]⟩, ⟨oH, [0, 1]⟩, ⟨oH, [0, 1, 2]⟩, ⟨oH, []⟩, ⟨oH, [0, 1, 2, 3, 4]⟩, ⟨oH, [0, 1, 2, 3, 4, 5]⟩, ⟨oH, []⟩, ⟨oH, [0, 1, 2, 3, 4, 5, 6, 7]⟩, ⟨oH, [0, 1, 2, 3, 4, 5, 6, 7, 8]⟩, ⟨oH, []⟩, ⟨oH, [10]⟩, ⟨⟨none, .call [.imm tI, .imm tI, .imm tI] [⟨false, .bool, y31⟩] []⟩, [0, 1, 2, 3, 4, 5, 6, 7, 8, 9, 10, 11]⟩, ⟨oH, [0, 1, 2, 3, 4, 5, 6, 7, 8, 9, 10, 11, 12]⟩, ⟨oH, [0, 1, 2, 3, 4, 5, 6, 7, 8, 9, 10, 11, 12, 13]⟩, ⟨oF, [0, 1, 2, 3, 4, 5, 6, 7, 8, 9, 10, 11, 12, 13, 14]⟩, ⟨oF, [0, 1, 2, 3, 4, 5, 6, 7, 8, 9, 10, 11, 12, 13, 14, 15]⟩, ⟨oF, [0, 1, 2, 3, 4, 5, 6, 7, 8, 9, 10, 11, 12, 13, 14, 15, 16]⟩, ⟨oT, [0, 1, 2, 3, 4, 5, 6, 7, 8, 9, 10, 11, 12, 13, 14, 15, 16, 17]⟩, ⟨oT, [0, 1, 2, 3, 4, 5, 6, 7, 8, 9, 10, 11, 12, 13, 14, 15, 16, 17, 18]⟩, ⟨oT, [0, 1, 2, 3, 4, 5, 6, 7, 8, 9, 10, 11, 12, 13, 14, 15, 16, 17, 18, 19]⟩, ⟨oT, [0, 1, 2, 3, 4, 5, 6, 7, 8, 9, 10, 11, 12, 13, 14, 15, 16, 17, 18, 19, 20]⟩, ⟨oT, [0, 1, 2, 3, 4, 5, 6, 7, 8, 9, 10, 11, 12, 13, 14, 15, 16, 17]⟩, ⟨oT, [0, 1, 2, 3, 4, 5, 6, 7, 8, 9, 10, 11, 12, 13, 14, 15, 16, 17, 18, 19, 20, 21, 22]⟩, ⟨oT, [0, 1, 2, 3, 4, 5, 6, 7, 8, 9, 10, 11, 12, 13, 14, 15, 16, 17, 18, 19, 20, 21, 22, 23]⟩, ⟨oT, [0, 1, 2, 3, 4, 5, 6, 7, 8, 9, 10, 11, 12, 13, 14, 15, 16, 17]⟩, ⟨oT, [0, 1, 2, 3, 4, 5, 6, 7, 8, 9, 10, 11, 12, 13, 14, 15, 16, 17, 18, 19, 20, 21, 22, 23, 24, 25]⟩, ⟨oT, [0, 1, 2, 3, 4, 5, 6, 7, 8, 9, 10, 11, 12, 13, 14, 15, 16, 17, 18, 19, 20, 21, 22, 23, 24, 25, 26]⟩, ⟨oT, [0, 1, 2, 3, 4, 5, 6, 7, 8, 9, 10, 11, 12, 13, 14, 15, 16, 17]⟩, ⟨oT, [0, 1, 2, 3, 4, 5, 6, 7, 8, 9, 10, 11, 12, 13, 14, 15, 16, 17, 28]⟩, ⟨oT, [0, 1, 2, 3, 4, 5, 6, 7, 8, 9, 10, 11, 12, 13, 14, 15, 16, 17, 28, 29]⟩, ⟨oT, [0, 1, 2, 3, 4, 5, 6, 7, 8, 9, 10, 11, 12, 13, 14, 15, 16, 17, 28, 29, 30]⟩, ⟨oT, [0, 1, 2, 3, 4, 5, 6, 7, 8, 9, 10, 11, 12, 13, 14, 15, 16, 17]⟩, ⟨oT, [0, 1, 2, 3, 4, 5, 6, 7, 8, 9, 10, 11, 12, 13, 14, 15, 16, 17, 28, 29, 30, 31, 32]⟩, ⟨oT, [0, 1, 2, 3, 4, 5, 6, 7, 8, 9, 10, 11, 12, 13, 14, 15, 16, 17, 28, 29, 30, 31, 32, 33]⟩, ⟨oT, [0, 1, 2, 3, 4, 5, 6, 7, 8, 9, 10, 11, 12, 13, 14, 15, 16, 17]⟩, ⟨oT, [0, 1, 2, 3, 4, 5, 6, 7, 8, 9, 10, 11, 12, 13, 14, 15, 16, 17, 35]⟩, ⟨oT, [0, 1, 2, 3, 4, 5, 6, 7, 8, 9, 10, 11, 12, 13, 14, 15, 16, 17, 28, 29, 30, 31, 32, 33, 34, 35, 36]⟩, ⟨oT, [0, 1, 2, 3, 4, 5, 6, 7, 8, 9, 10, 11, 12, 13, 14, 15, 16, 17, 28, 29, 30, 31, 32, 33, 34, 35, 36, 37]⟩] [[0, 1, 2, 3, 4, 5, 6, 7, 8, 9, 10, 11, 12, 13, 14, 15, 16, 17, 18, 19, 20, 21, 22, 23, 24, 25, 26, 27, 28, 29, 30, 31, 32, 33, 34, 35, 36, 37, 38], [0, 1, 2, 3, 4, 5, 6, 7, 8, 9, 10, 11, 12, 13, 14, 15, 16, 17, 18, 19, 20, 21, 22, 23, 24, 25, 26, 27, 28, 29, 30, 31, 32, 33, 34, 35, 36, 37, 38, 39], [0, 1, 2, 3, 4, 5, 6, 7, 8, 9, 10, 11, 12, 13, 14, 15, 16, 17, 18, 19, 20, 21, 22, 23, 24, 25, 26, 27, 28, 29, 30, 31, 32, 33, 34, 35, 36, 37, 38, 39, 40]] [oT, ⟨some false, .tv true⟩, vF] [] [] hX (by kernel_rfl) (by kernel_rfl) (aC hg17 (aC hg30 (aC (f114_ok hc32) (aC hb33 (aC hb33 (aC hb33 (aC hb34 (aC hb34 (aC hb34 (aC hb34 (aC hb34 (aC hb34 (aC hg17 (aC hb34 (aC hb34 (aC hb34 (aC hg30 (aC hb34 (aC hb34 (aC hb34 (aC hb34 (aC hb34 (aC hb34 (aC hb34 (aC hg17 (aC hb34 (aC hb34 (aC hb34 (aC hb34 (aC hg35 (aC hb34 (aC hb34 (aC hb33 (aC hb34 (aC hb33 aN))))))))))))))))))))))))))))))))))) (fun _ h => (qThen (h.ht (cont (decide ((List.getD (List.getD a0.2.2 (Int.toNat s5) ([] : List Int)) (Int.toNat s18) (0 : Int)) ≤ (List.getD (List.getD a0.2.2 (Int.toNat s5) ([] : List Int)) (Int.toNat (wsub .i64 s18 (1 : Int))) (0 : Int)))) (of_some hT28)))))
           ·exact HT.drK 39 [⟨oH, []⟩, ⟨oH, [0]⟩, ⟨oH, [0, 1]⟩, ⟨oH, [0, 1, 2]⟩, ⟨oH, []⟩, ⟨oH, [0, 1, 2, 3, 4]⟩, ⟨oH, [0, 1, 2, 3, 4, 5]⟩, ⟨oH, []⟩, ⟨oH, [0, 1, 2, 3, 4, 5, 6, 7]⟩, ⟨oH, [0, 1, 2, 3, 4, 5, 6, 7, 8]⟩, ⟨oH, []⟩, ⟨oH, [10]⟩, ⟨⟨none, .call [.imm tI, .imm tI, .imm tI] [⟨false, .bool, y31⟩] []⟩, [0, 1, 2, 3, 4, 5, 6, 7, 8, 9, 10, 11]⟩, ⟨oH, [0, 1, 2, 3, 4, 5, 6, 7, 8, 9, 10, 11, 12]⟩, ⟨oH, [0, 1, 2, 3, 4, 5, 6, 7, 8, 9, 10, 11, 12, 13]⟩, ⟨oF, [0, 1, 2, 3, 4, 5, 6, 7, 8, 9, 10, 11, 12, 13, 14]⟩, ⟨oF, [0, 1, 2, 3, 4, 5, 6, 7, 8, 9, 10, 11, 12, 13, 14, 15]⟩, ⟨oF, [0, 1, 2, 3, 4, 5, 6, 7, 8, 9, 10, 11, 12, 13, 14, 15, 16]⟩, ⟨oF, [0, 1, 2, 3, 4, 5, 6, 7, 8, 9, 10, 11, 12, 13, 14, 15, 16, 17]⟩, ⟨oF, [0, 1, 2, 3, 4, 5, 6, 7, 8, 9, 10, 11, 12, 13, 14, 15, 16, 17, 18]⟩, ⟨oF, [0, 1, 2, 3, 4, 5, 6, 7, 8, 9, 10, 11, 12, 13, 14, 15, 16, 17, 18, 19]⟩, ⟨oF, [0, 1, 2, 3, 4, 5, 6, 7, 8, 9, 10, 11, 12, 13, 14, 15, 16, 17, 18, 19, 20]⟩, ⟨oF, [0, 1, 2, 3, 4, 5, 6, 7, 8, 9, 10, 11, 12, 13, 14, 15, 16, 17]⟩, ⟨oF, [0, 1, 2, 3, 4, 5, 6, 7, 8, 9, 10, 11, 12, 13, 14, 15, 16, 17, 18, 19, 20, 21, 22]⟩, ⟨oF, [0, 1, 2, 3, 4, 5, 6, 7, 8, 9, 10, 11, 12, 13, 14, 15, 16, 17, 18, 19, 20, 21, 22, 23]⟩, ⟨oF, [0, 1, 2, 3, 4, 5, 6, 7, 8, 9, 10, 11, 12, 13, 14, 15, 16, 17]⟩, ⟨oF, [0, 1, 2, 3, 4, 5, 6, 7, 8, 9, 10, 11, 12, 13, 14, 15, 16, 17, 18, 19, 20, 21, 22, 23, 24, 25]⟩, ⟨oF, [0, 1, 2, 3, 4, 5, 6, 7, 8, 9, 10, 11, 12, 13, 14, 15, 16, 17, 18, 19, 20, 21, 22, 23, 24, 25, 26]⟩, ⟨oF, [0, 1, 2, 3, 4, 5, 6, 7, 8, 9, 10, 11, 12, 13, 14, 15, 16, 17]⟩, ⟨oF, [0, 1, 2, 3, 4, 5, 6, 7, 8, 9, 10, 11, 12, 13, 14, 15, 16, 17, 28]⟩, ⟨oF, [0, 1, 2, 3, 4, 5, 6, 7, 8, 9, 10, 11, 12, 13, 14, 15, 16, 17, 28, 29]⟩, ⟨oF, [0, 1, 2, 3, 4, 5, 6, 7, 8, 9, 10, 11, 12, 13, 14, 15, 16, 17, 28, 29, 30]⟩, ⟨oF, [0, 1, 2, 3, 4, 5, 6, 7, 8, 9, 10, 11, 12, 13, 14, 15, 16, 17]⟩, ⟨oF, [0, 1, 2, 3, 4, 5, 6, 7, 8, 9, 10, 11, 12, 13, 14, 15, 16, 17, 28, 29, 30, 31, 32]⟩, ⟨oF, [0, 1, 2, 3, 4, 5, 6, 7, 8, 9, 10, 11, 12, 13, 14, 15, 16, 17, 28, 29, 30, 31, 32, 33]⟩, ⟨oF, [0, 1, 2, 3, 4, 5, 6, 7, 8, 9, 10, 11, 12, 13, 14, 15, 16, 17]⟩, ⟨oF, [0, 1, 2, 3, 4, 5, 6, 7, 8, 9, 10, 11, 12, 13, 14, 15, 16, 17, 35]⟩, ⟨oF, [0, 1, 2, 3, 4, 5, 6, 7, 8, 9, 10, 11, 12, 13, 14, 15, 16, 17, 28, 29, 30, 31, 32, 33, 34, 35, 36]⟩, ⟨oF, [0, 1, 2, 3, 4, 5, 6, 7, 8, 9, 10, 11, 12, 13, 14, 15, 16, 17, 28, 29, 30, 31, 32, 33, 34, 35, 36, 37]⟩] [[0, 1, 2, 3, 4, 5, 6, 7, 8, 9, 10, 11, 12, 13, 14, 15, 16, 17, 18, 19, 20, 21, 22, 23, 24, 25, 26, 27, 28, 29, 30, 31, 32, 33, 34, 35, 36, 37, 38], [0, 1, 2, 3, 4, 5, 6, 7, 8, 9, 10, 11, 12, 13, 14, 15, 16, 17, 18, 19, 20, 21, 22, 23, 24, 25, 26, 27, 28, 29, 30, 31, 32, 33, 34, 35, 36, 37, 38, 39], [0, 1, 2, 3, 4, 5, 6, 7, 8, 9, 10, 11, 12, 13, 14, 15, 16, 17, 18, 19, 20, 21, 22, 23, 24, 25, 26, 27, 28, 29, 30, 31, 32, 33, 34, 35, 36, 37, 38, 39, 40]] [oF, ⟨some false, .tv false⟩, vF] [] [] hX (by kernel_rfl) (by kernel_rfl) (aC hg17 (aC hg30 (aC (f114_ok hc32) (aC hb33 (aC hb33 (aC hb33 (aC hb34 (aC hb34 (aC hb34 (aC hb34 (aC hb34 (aC hb34 (aC hb34 (aC hb34 (aC hb34 (aC hb34 (aC hb34 (aC hb34 (aC hb34 (aC hb34 (aC hb34 (aC hb34 (aC hb34 (aC hb34 (aC hb34 (aC hb34 (aC hb34 (aC hb34 (aC hb33 (aC hb34 (aC hb33 aN))))))))))))))))))))))))))))))) (fun _ h => (qThen (h.ht (cont false (of_some hT28)))))
        ·refine HT.cond0 rfl hb25 ?_
         have hx23 := of_some hx23
         subst hx23
         exact HT.exitL (Le.re [] [] hX (by kernel_rfl)) (qThenE (qLoopE (hk24 (.inl ()) rfl)))
     ·obtain ⟨hg37, hT15⟩ := of_guard hT15
      obtain ⟨y38, hc39, hT15⟩ := of_bind hT15
      rcases of_bif hT15 with ⟨hb40, hT15⟩ | ⟨hb40, hT15⟩
      ·exact HT.rgK [oH, oH, oH, oH, oH, oH, oH, ⟨none, .call [.imm tI, .imm tI, .imm tI] [⟨false, .bool, y38⟩] []⟩, oH, oH, oT, oT, oT, oT, oT, oT, oT, oT, oT, vT, oH, oT, oT, oT, oT, oT, oT, oT, oT, oT, vT] [] [] hX (by kernel_rfl) (aC hg37 (aC (f114_ok hc39) (aC hb40 (aC hb40 (aC hb40 (aC hb40 (aC hb40 (aC hb40 (aC hb40 (aC hb40 (aC hb40 (aC hb40 (aT4 (aT4 (aT (aT aN)))))))))))))))) (fun _ h => (qThen (h.ht (cont true (of_some hT15)))))
      ·obtain ⟨hg41, hT15⟩ := of_guard hT15
       obtain ⟨y42, hc43, hT15⟩ := of_bind hT15
       rcases of_bif hT15 with ⟨hb44, hT15⟩ | ⟨hb44, hT15⟩
       ·exact HT.rgK [oH, oH, oH, oH, oH, oH, oH, ⟨none, .call [.imm tI, .imm tI, .imm tI] [⟨false, .bool, y38⟩] []⟩, oH, oH, oF, oF, oF, oF, oF, oF, oF, ⟨some false, .call [.imm tI, .imm tI, .imm tI] [⟨false, .bool, y42⟩] []⟩, oF, vF, oH, oT, oT, oT, oT, oT, oT, oT, oT, oT, vT] [] [] hX (by kernel_rfl) (aC hg37 (aC (f114_ok hc39) (aC hb40 (aC hb40 (aC hb40 (aC hb40 (aC hb40 (aC hb40 (aC hg41 (aC hb40 (aC hb40 (aC (f114_ok hc43) (aC hb40 (aC hb40 (aC hb44 (aC hb44 (aC hb44 (aC hb44 (aC hb44 (aC hb44 (aC hb44 (aC hb44 (aC hb44 (aC hb44 aN)))))))))))))))))))))))) (fun _ h => (qThen (h.ht (cont true (of_some hT15)))))
       ·obtain ⟨hg45, hT15⟩ := of_guard hT15
        exact HT.rgK [oH, oH, oH, oH, oH, oH, oH, ⟨none, .call [.imm tI, .imm tI, .imm tI] [⟨false, .bool, y38⟩] []⟩, oH, oH, oF, oF, oF, oF, oF, oF, oF, ⟨some false, .call [.imm tI, .imm tI, .imm tI] [⟨false, .bool, y42⟩] []⟩, oF, vF, oH, oF, oF, oF, oF, oF, oF, oF, oF, oF, vF] [] [] hX (by kernel_rfl) (aC hg37 (aC (f114_ok hc39) (aC hb40 (aC hb40 (aC hb40 (aC hb40 (aC hb40 (aC hb40 (aC hg41 (aC hb40 (aC hb40 (aC (f114_ok hc43) (aC hb40 (aC hb40 (aC hb44 (aC hb44 (aC hb44 (aC hb44 (aC hb44 (aC hb44 (aC hg45 (aC hb44 (aC hb44 (aC hb44 (aC hb44 aN))))))))))))))))))))))))) (fun _ h => (qThen (h.ht (cont (decide ((lenI (List.getD a0.2.2 (Int.toNat s5) ([] : List Int))) < (1 : Int))) (of_some hT15)))))
    ·refine HT.cond0 rfl hb12 ?_
     have hx10 := of_some hx10
     subst hx10
     exact HT.exitL (Le.re [] [] hX (by kernel_rfl)) (qThenE (qLoopE (hk11 (.inl ()) rfl)))
 ·rcases of_bif hT3 with ⟨hb47, hT3⟩ | ⟨hb47, hT3⟩
  ·exact HT.rgK [oH, oH, oH, oT, oT, vT, oH, oT, oT, oT, oT, oT, oT, oT, vT, oH, oT, oT, oT, oT, oT, oT, oT, vT] [] [] hX (by kernel_rfl) (aC hb47 (aC hb47 (aC hb47 (aT4 (aT4 (aT4 (aT4 aN))))))) (fun _ h => (qThen (h.ht (cont true (of_some hT3)))))
  ·rcases of_bif hT3 with ⟨hb48, hT3⟩ | ⟨hb48, hT3⟩
   ·exact HT.rgK [oH, oH, oH, oF, oF, vF, oH, oT, oT, oT, oT, oT, oT, oT, vT, oH, oT, oT, oT, oT, oT, oT, oT, vT] [] [] hX (by kernel_rfl) (aC hb47 (aC hb47 (aC hb47 (aC hb48 (aC hb48 (aC hb48 (aC hb48 (aC hb48 (aC hb48 (aC hb48 (aC hb48 (aT4 (aT4 aN))))))))))))) (fun _ h => (qThen (h.ht (cont true (of_some hT3)))))
   ·rcases of_bif hT3 with ⟨hb49, hT3⟩ | ⟨hb49, hT3⟩
    ·exact HT.rgK [oH, oH, oH, oF, oF, vF, oH, oF, oF, oF, oF, oF, oF, oF, vF, oH, oT, oT, oT, oT, oT, oT, oT, vT] [] [] hX (by kernel_rfl) (aC hb47 (aC hb47 (aC hb47 (aC hb48 (aC hb48 (aC hb48 (aC hb48 (aC hb48 (aC hb48 (aC hb48 (aC hb48 (aC hb49 (aC hb49 (aC hb49 (aC hb49 (aC hb49 (aC hb49 (aC hb49 (aC hb49 aN))))))))))))))))))) (fun _ h => (qThen (h.ht (cont true (of_some hT3)))))
    ·exact HT.rgK [oH, oH, oH, oF, oF, vF, oH, oF, oF, oF, oF, oF, oF, oF, vF, oH, oF, oF, oF, oF, oF, oF, oF, vF] [] [] hX (by kernel_rfl) (aC hb47 (aC hb47 (aC hb47 (aC hb48 (aC hb48 (aC hb48 (aC hb48 (aC hb48 (aC hb48 (aC hb48 (aC hb48 (aC hb49 (aC hb49 (aC hb49 (aC hb49 (aC hb49 (aC hb49 (aC hb49 (aC hb49 aN))))))))))))))))))) (fun _ h => (qThen (h.ht (cont ((lenI a0.2.2) != (lenI a0.1)) (of_some hT3)))))

noncomputable def spec_l07Draw_B1 (a0 : TyG) (a1 : List Bool) (s9 : Bool × Int × List Bool) (s24 : Bool × Bool × Int) : Option ((Bool × Bool × Int) ⊕ ((Bool × Bool))) :=
 bif (decide (s24.2.2 < (lenI (List.getD a0.2.2 (Int.toNat s9.2.1) ([] : List Int))))) then
  (show Option (Bool × Bool) from
   guardP ((0 : Int) ≤ s24.2.2 ∧ s24.2.2 < lenI (List.getD a0.2.2 (Int.toNat s9.2.1) ([] : List Int))) (
    (some (List.getD (List.getD a0.2.2 (Int.toNat s9.2.1) ([] : List Int)) (Int.toNat s24.2.2) (0 : Int))).bind fun q45 =>
    guardP ((0 : Int) ≤ q45 ∧ q45 < lenI a1) (
     bif (!(List.getD a1 (Int.toNat q45) false)) then
      some (s24.1, s24.2.1)
     else
      (show Option (Bool) from
       bif s24.1 then
        some true
       else
        guardP ((0 : Int) ≤ q45 ∧ q45 < lenI s9.2.2) (
         some (List.getD s9.2.2 (Int.toNat q45) false))).bind fun v49 =>
      bif s24.2.1 then
       guardP ((0 : Int) ≤ q45 ∧ q45 < lenI s9.2.2) (
        some (v49, (List.getD s9.2.2 (Int.toNat q45) false)))
      else
       some (v49, false)))).bind fun v41 =>
  some (.inl (v41.1, v41.2, (wadd .i64 s24.2.2 (1 : Int))))
 else
  some (.inr (s24.1, s24.2.1))

noncomputable def spec_l07Draw_B2 (a0 : TyG) (a1 : List Bool) (a3 : Int) (s2 : Bool × List Bool) (s9 : Bool × Int × List Bool) : Option ((Bool × Int × List Bool) ⊕ ((Bool × List Bool))) :=
 bif (decide (s9.2.1 < (lenI s2.2))) then
  (show Option (Bool × List Bool) from
   (show Option (Bool) from
    guardP ((0 : Int) ≤ s9.2.1 ∧ s9.2.1 < lenI s9.2.2) (
     bif (List.getD s9.2.2 (Int.toNat s9.2.1) false) then
      some true
     else
      guardP ((0 : Int) ≤ s9.2.1 ∧ s9.2.1 < lenI a1) (
       some (!(List.getD a1 (Int.toNat s9.2.1) false))))).bind fun v19 =>
   bif v19 then
    some (s9.1, s9.2.2)
   else
    guardP ((0 : Int) ≤ s9.2.1 ∧ s9.2.1 < lenI a0.2.2) (
     (rounds (spec_l07Draw_B1 a0 a1 s9) (false, true, (0 : Int))).bind fun r26 =>
     (show Option (Bool) from
      guardP ((0 : Int) ≤ s9.2.1 ∧ s9.2.1 < lenI a0.1) (
       bif ((List.getD a0.1 (Int.toNat s9.2.1) (0 : Int)) == a3) then
        bif r26.1 then
         some true
        else
         bif ((List.getD a0.1 (Int.toNat s9.2.1) (0 : Int)) != a3) then
          some r26.2
         else
          some false
       else
        bif ((List.getD a0.1 (Int.toNat s9.2.1) (0 : Int)) != a3) then
         some r26.2
        else
         some false)).bind fun v27 =>
     bif v27 then
      guardP ((0 : Int) ≤ s9.2.1 ∧ s9.2.1 < lenI s9.2.2) (
       some (true, (List.set s9.2.2 (Int.toNat s9.2.1) true)))
     else
      some (s9.1, s9.2.2))).bind fun v16 =>
  some (.inl (v16.1, (wadd .i64 s9.2.1 (1 : Int)), v16.2))
 else
  some (.inr (s9.1, s9.2.2))

noncomputable def spec_l07Draw_B3 (a0 : TyG) (a1 : List Bool) (a3 : Int) (s2 : Bool × List Bool) : Option ((Bool × List Bool) ⊕ (List Bool)) :=
 bif s2.1 then
  (rounds (spec_l07Draw_B2 a0 a1 a3 s2) (false, (0 : Int), s2.2)).bind fun r11 =>
  some (.inl (r11.1, r11.2))
 else
  some (.inr s2.2)

noncomputable def spec_l07Draw (a0 : TyG) (a1 : List Bool) (a2 : List Bool) (a3 : Int) : Option (List Bool) :=
 guardP (0 + List.length a2 ≤ appMax) (
  (rounds (spec_l07Draw_B3 a0 a1 a3) (true, a2)).bind fun r4 =>
  some r4)

theorem f142_ok {a0 : TyG} {a1 : List Bool} {a2 : List Bool} {a3 : Int} {r : List Bool} (hr : spec_l07Draw a0 a1 a2 a3 = some r) : CallOK Try.prog 142 [.pimm tG a0, .imm (.sl .bool) a1, .imm (.sl .bool) a2, .imm tI a3] [⟨true, (.sl .bool), r⟩] [] := by
 unfold spec_l07Draw at hr
 refine CallOK.of_body (ts := [(true, (.sl .bool))]) Try.func142 rfl (by kernel_rfl) (Nat.le_of_ble_eq_true (by kernel_rfl)) fun cx hP hN hO hF => ?_
 have hO : cx.own.map Prod.fst = [] := hO
 have hX := CxIs.mk hP hN hO
 have hF := hF rfl
 show HT cx ⟨[(0, .one (.ip tG a0 0)), (1, .one (.dat (.sl .bool) a1)), (2, .one (.dat (.sl .bool) a2)), (3, iV a3)], [], 0⟩ _ _
 refine HT.rg2 [oH] ⟨[(0, .one (.ip tG a0 0)), (1, .one (.dat (.sl .bool) a1)), (2, .one (.dat (.sl .bool) a2)), (3, iV a3)], [], 0⟩ hX (by kernel_rfl) aN ?_
 obtain ⟨hg1, hr⟩ := of_guard hr
 refine HT.rg2 [oH, oH, ⟨none, .ty .bool⟩, oH] ⟨[(0, .one (.ip tG a0 0)), (1, .one (.dat (.sl .bool) a1)), (3, iV a3), (9, aV 0)], [(0, .seq .bool a2)], 1⟩ hX (by kernel_rfl) (aC hg1 aN) ?_
 refine HT.seq ?_
 refine HT.rg2 [oH] ⟨[(0, .one (.ip tG a0 0)), (1, .one (.dat (.sl .bool) a1)), (3, iV a3), (9, aV 0), (10, bV true)], [(0, .seq .bool a2)], 1⟩ hX (by kernel_rfl) aN ?_
 refine HT.block ?_
 obtain ⟨r3, hL61, hr⟩ := of_bind hr
 refine HT.loopL (fun (s2 : Bool × List Bool) => ⟨[(0, .one (.ip tG a0 0)), (1, .one (.dat (.sl .bool) a1)), (3, iV a3), (9, aV 0), (10, bV s2.1)], [(0, .seq .bool s2.2)], 1⟩) (fun (r4 : List Bool) => (.exit 0, ⟨[(9, aV 0)], [(0, .seq .bool r4)], 1⟩)) (Le.re [(0, 0)] [] hX (by kernel_rfl)) hL61 ?_ (fun s2 x5 hx6 hk7 => ?_)
 ·refine (qBlockX (qThen ?_))
  refine HT.rg2 (oHs 2) ⟨[(8, aV 0)], [(0, .seq .bool r3)], 1⟩ hX (by kernel_rfl) aN ?_
  have hr := of_some hr
  subst hr
  exact HT.ret ⟨[aV 0], [0], [], by kernel_rfl, by kernel_rfl, rfl, by kernel_rfl, by kernel_rfl, trivial⟩
 ·refine HT.seq ?_
  refine HT.rg2 [oH] ⟨[(0, .one (.ip tG a0 0)), (1, .one (.dat (.sl .bool) a1)), (3, iV a3), (9, aV 0), (19, bV s2.1)], [(0, .seq .bool s2.2)], 1⟩ hX (by kernel_rfl) aN ?_
  rcases of_bif hx6 with ⟨hb8, hx6⟩ | ⟨hb8, hx6⟩
  ·refine HT.cond1 rfl hb8 ?_
   refine HT.skip (qThen ?_)
   refine HT.block ?_
   refine HT.rg2 [oH] ⟨[(0, .one (.ip tG a0 0)), (1, .one (.dat (.sl .bool) a1)), (3, iV a3), (9, aV 0), (10, bV false)], [(0, .seq .bool s2.2)], 1⟩ hX (by kernel_rfl) aN ?_
   refine HT.rg2 (oHs 3) ⟨[(0, .one (.ip tG a0 0)), (1, .one (.dat (.sl .bool) a1)), (3, iV a3), (9, aV 0), (10, bV false), (21, iV (lenI s2.2)), (22, iV (0 : Int))], [(0, .seq .bool s2.2)], 1⟩ hX (by kernel_rfl) aN ?_
   refine HT.block ?_
   obtain ⟨r10, hL60, hx6⟩ := of_bind hx6
   refine HT.loopL (fun (s9 : Bool × Int × List Bool) => ⟨[(0, .one (.ip tG a0 0)), (1, .one (.dat (.sl .bool) a1)), (3, iV a3), (9, aV 0), (10, bV s9.1), (21, iV (lenI s2.2)), (22, iV s9.2.1)], [(0, .seq .bool s9.2.2)], 1⟩) (fun (r11 : (Bool × List Bool)) => (.exit 2, ⟨[(0, .one (.ip tG a0 0)), (1, .one (.dat (.sl .bool) a1)), (3, iV a3), (9, aV 0), (10, bV r11.1)], [(0, .seq .bool r11.2)], 1⟩)) (Le.re [(0, 0)] [] hX (by kernel_rfl)) hL60 ?_ (fun s9 x12 hx13 hk14 => ?_)
   ·have hx6 := of_some hx6
    subst hx6
    refine (qBlockX (qBlock (qLoopN ⟨(r10.1, r10.2), rfl, Le.re [(0, 0)] [] hX (by kernel_rfl)⟩)))
   ·refine HT.rg2 [oH] ⟨[(0, .one (.ip tG a0 0)), (1, .one (.dat (.sl .bool) a1)), (3, iV a3), (9, aV 0), (10, bV s9.1), (21, iV (lenI s2.2)), (22, iV s9.2.1), (23, bV (decide (s9.2.1 < (lenI s2.2))))], [(0, .seq .bool s9.2.2)], 1⟩ hX (by kernel_rfl) aN ?_
    refine HT.seq ?_
    rcases of_bif hx13 with ⟨hb15, hx13⟩ | ⟨hb15, hx13⟩
    ·refine HT.cond1 rfl hb15 ?_
     refine HT.skip (qThen ?_)
     obtain ⟨v16', hT18, hx13⟩ := of_bind hx13
     refine HT.join (fun (v16 : Bool × List Bool) => ⟨[(0, .one (.ip tG a0 0)), (1, .one (.dat (.sl .bool) a1)), (3, iV a3), (9, aV 0), (10, bV v16.1), (21, iV (lenI s2.2)), (22, iV s9.2.1)], [(0, .seq .bool v16.2)], 1⟩) (fun v => v = v16') (fun v16 hv17 => ?_) (fun cont => ?_)
     ·subst hv17
      have hx13 := of_some hx13
      subst hx13
      exact HT.rgK (oHs 2) [(0, 0)] [] hX (by kernel_rfl) aN (fun _ h => (qLoopN ⟨(v16.1, (wadd .i64 s9.2.1 (1 : Int)), v16.2), rfl, h⟩))
     ·refine HT.block ?_
      refine HT.rg2 (oHs 2) ⟨[(0, .one (.ip tG a0 0)), (1, .one (.dat (.sl .bool) a1)), (3, iV a3), (9, aV 0), (10, bV s9.1), (11, iV s9.2.1), (21, iV (lenI s2.2)), (22, iV s9.2.1)], [(0, .seq .bool s9.2.2)], 1⟩ hX (by kernel_rfl) aN ?_
      refine HT.seq ?_
      obtain ⟨v19', hT21, hT18⟩ := of_bind hT18
      refine HT.join (fun (v19 : Bool) => ⟨[(0, .one (.ip tG a0 0)), (1, .one (.dat (.sl .bool) a1)), (3, iV a3), (9, aV 0), (10, bV s9.1), (11, iV s9.2.1), (21, iV (lenI s2.2)), (22, iV s9.2.1), (35, bV v19)], [(0, .seq .bool s9.2.2)], 1⟩) (fun v => v = v19') (fun v19 hv20 => ?_) (fun cont => ?_)
      ·subst hv20
       rcases of_bif hT18 with ⟨hb22, hT18⟩ | ⟨hb22, hT18⟩
       ·refine HT.cond1 rfl hb22 ?_
        refine HT.exit (qThenE (qBlockX (qThen ?_)))
        exact (Le.re [(0, 0)] [] hX (by kernel_rfl)).ht (cont (s9.1, s9.2.2) (of_some hT18))
       ·refine HT.cond0 rfl hb22 ?_
        refine HT.skip (qThen ?_)
        refine HT.rg2 [oH] ⟨[(0, .one (.ip tG a0 0)), (1, .one (.dat (.sl .bool) a1)), (3, iV a3), (9, aV 0), (10, bV s9.1), (11, iV s9.2.1), (12, bV false), (21, iV (lenI s2.2)), (22, iV s9.2.1)], [(0, .seq .bool s9.2.2)], 1⟩ hX (by kernel_rfl) aN ?_
        refine HT.rg2 [oH] ⟨[(0, .one (.ip tG a0 0)), (1, .one (.dat (.sl .bool) a1)), (3, iV a3), (9, aV 0), (10, bV s9.1), (11, iV s9.2.1), (12, bV false), (13, bV true), (21, iV (lenI s2.2)), (22, iV s9.2.1)], [(0, .seq .bool s9.2.2)], 1⟩ hX (by kernel_rfl) aN ?_
        refine HT.seq ?_
        obtain ⟨hg23, hT18⟩ := of_guard hT18
        refine HT.rg2 (oHs 9) ⟨[(0, .one (.ip tG a0 0)), (1, .one (.dat (.sl .bool) a1)), (3, iV a3), (9, aV 0), (10, bV s9.1), (11, iV s9.2.1), (12, bV false), (13, bV true), (21, iV (lenI s2.2)), (22, iV s9.2.1), (43, iV (lenI (List.getD a0.2.2 (Int.toNat s9.2.1) ([] : List Int)))), (44, iV (0 : Int))], [(0, .seq .bool s9.2.2)], 1⟩ hX (by kernel_rfl) (aC hg23 aN) ?_
        refine HT.block ?_
        obtain ⟨r25, hL56, hT18⟩ := of_bind hT18
        refine HT.loopL (fun (s24 : Bool × Bool × Int) => ⟨[(0, .one (.ip tG a0 0)), (1, .one (.dat (.sl .bool) a1)), (3, iV a3), (9, aV 0), (10, bV s9.1), (11, iV s9.2.1), (12, bV s24.1), (13, bV s24.2.1), (21, iV (lenI s2.2)), (22, iV s9.2.1), (43, iV (lenI (List.getD a0.2.2 (Int.toNat s9.2.1) ([] : List Int)))), (44, iV s24.2.2)], [(0, .seq .bool s9.2.2)], 1⟩) (fun (r26 : (Bool × Bool)) => (.exit 4, ⟨[(0, .one (.ip tG a0 0)), (1, .one (.dat (.sl .bool) a1)), (3, iV a3), (9, aV 0), (10, bV s9.1), (11, iV s9.2.1), (12, bV r26.1), (13, bV r26.2), (21, iV (lenI s2.2)), (22, iV s9.2.1)], [(0, .seq .bool s9.2.2)], 1⟩)) (Le.re [(0, 0)] [] hX (by kernel_rfl)) hL56 ?_ (fun s24 x37 hx38 hk39 => ?_)
        ·refine (qBlockX (qThen ?_))
         obtain ⟨v27', hT29, hT18⟩ := of_bind hT18
         refine HT.join (fun (v27 : Bool) => ⟨[(0, .one (.ip tG a0 0)), (1, .one (.dat (.sl .bool) a1)), (3, iV a3), (9, aV 0), (10, bV s9.1), (11, iV s9.2.1), (21, iV (lenI s2.2)), (22, iV s9.2.1), (102, bV v27)], [(0, .seq .bool s9.2.2)], 1⟩) (fun v => v = v27') (fun v27 hv28 => ?_) (fun cont => ?_)
         ·subst hv28
          rcases of_bif hT18 with ⟨hb30, hT18⟩ | ⟨hb30, hT18⟩
          ·refine HT.cond1 rfl hb30 ?_
           obtain ⟨hg31, hT18⟩ := of_guard hT18
           refine HT.rg2 (oHs 4) ⟨[(0, .one (.ip tG a0 0)), (1, .one (.dat (.sl .bool) a1)), (3, iV a3), (9, aV 0), (21, iV (lenI s2.2)), (22, iV s9.2.1)], [(0, .seq .bool (List.set s9.2.2 (Int.toNat s9.2.1) true))], 1⟩ hX (by kernel_rfl) (aC hg31 (aC (natLt hg31) aN)) ?_
           exact HT.rgK [oH] [(0, 0)] [] hX (by kernel_rfl) aN (fun _ h => (qBlock (qThen (h.ht (cont (true, (List.set s9.2.2 (Int.toNat s9.2.1) true)) (of_some hT18))))))
          ·refine HT.cond0 rfl hb30 ?_
           refine HT.skip (qBlock (qThen ?_))
           exact (Le.re [(0, 0)] [] hX (by kernel_rfl)).ht (cont (s9.1, s9.2.2) (of_some hT18))
         ·obtain ⟨hg32, hT29⟩ := of_guard hT29
          rcases of_bif hT29 with ⟨hb33, hT29⟩ | ⟨hb33, hT29⟩
          ·rcases of_bif hT29 with ⟨hb34, hT29⟩ | ⟨hb34, hT29⟩
           ·exact HT.rgK [oH, oH, oH, oH, oH, oH, oH, oH, oH, oH, oT, vT, oH, oT, oT, oT, oT, oT, oT, oT, oT, oT, oT, oH, oT, vT] [(0, 0)] [] hX (by kernel_rfl) (aC hg32 (aC hb33 (aC hb33 (aC hb34 (aC hb34 (aC hb34 (aC hb34 (aC hb34 (aC hb34 (aC hb34 (aC hb34 (aC hb34 (aC hb34 (aC hb34 (aC hb34 aN))))))))))))))) (fun _ h => (qThen (h.ht (cont true (of_some hT29)))))
           ·rcases of_bif hT29 with ⟨hb35, hT29⟩ | ⟨hb35, hT29⟩
            ·exact HT.rgK [oH, oH, oH, oH, oH, oH, oH, oH, oH, oH, oT, vT, oH, oF, oF, oF, oF, oF, oF, oF, oF, oF, oF, oT, ⟨some false, .tv true⟩, vF] [(0, 0)] [] hX (by kernel_rfl) (aC hg32 (aC hb33 (aC hb33 (aC hb34 (aC hb34 (aC hb34 (aC hb34 (aC hb34 (aC hb34 (aC hg32 (aC hb34 (aC hb34 (aC hb34 (aC hb34 (aC hb35 (aC hb34 (aC hb35 (aC hb34 aN)))))))))))))))))) (fun _ h => (qThen (h.ht (cont r25.2 (of_some hT29)))))
            ·exact HT.rgK [oH, oH, oH, oH, oH, oH, oH, oH, oH, oH, oT, vT, oH, oF, oF, oF, oF, oF, oF, oF, oF, oF, oF, oF, ⟨some false, .tv false⟩, vF] [(0, 0)] [] hX (by kernel_rfl) (aC hg32 (aC hb33 (aC hb33 (aC hb34 (aC hb34 (aC hb34 (aC hb34 (aC hb34 (aC hb34 (aC hg32 (aC hb34 (aC hb34 (aC hb34 (aC hb34 (aC hb35 (aC hb34 (aC hb35 (aC hb34 aN)))))))))))))))))) (fun _ h => (qThen (h.ht (cont false (of_some hT29)))))
          ·rcases of_bif hT29 with ⟨hb36, hT29⟩ | ⟨hb36, hT29⟩
           ·exact HT.rgK [oH, oH, oH, oH, oH, oH, oH, oH, oH, oH, oF, vF, oH, oF, oF, oF, oF, oF, oF, oF, oF, oF, oF, oT, ⟨some false, .tv true⟩, vF] [(0, 0)] [] hX (by kernel_rfl) (aC hg32 (aC hb33 (aC hb33 (aF (aF (aF (aF (aF (aF (aC hg32 (aF (aF (aF (aF (aC hb36 (aF (aC hb36 (aF aN)))))))))))))))))) (fun _ h => (qThen (h.ht (cont r25.2 (of_some hT29)))))
           ·exact HT.rgK [oH, oH, oH, oH, oH, oH, oH, oH, oH, oH, oF, vF, oH, oF, oF, oF, oF, oF, oF, oF, oF, oF, oF, oF, ⟨some false, .tv false⟩, vF] [(0, 0)] [] hX (by kernel_rfl) (aC hg32 (aC hb33 (aC hb33 (aF (aF (aF (aF (aF (aF (aC hg32 (aF (aF (aF (aF (aC hb36 (aF (aC hb36 (aF aN)))))))))))))))))) (fun _ h => (qThen (h.ht (cont false (of_some hT29)))))
        ·refine HT.rg2 [oH] ⟨[(0, .one (.ip tG a0 0)), (1, .one (.dat (.sl .bool) a1)), (3, iV a3), (9, aV 0), (10, bV s9.1), (11, iV s9.2.1), (12, bV s24.1), (13, bV s24.2.1), (21, iV (lenI s2.2)), (22, iV s9.2.1), (43, iV (lenI (List.getD a0.2.2 (Int.toNat s9.2.1) ([] : List Int)))), (44, iV s24.2.2), (45, bV (decide (s24.2.2 < (lenI (List.getD a0.2.2 (Int.toNat s9.2.1) ([] : List Int))))))], [(0, .seq .bool s9.2.2)], 1⟩ hX (by kernel_rfl) aN ?_
         refine HT.seq ?_
         rcases of_bif hx38 with ⟨hb40, hx38⟩ | ⟨hb40, hx38⟩
         ·refine HT.cond1 rfl hb40 ?_
          refine HT.skip (qThen ?_)
          obtain ⟨v41', hT43, hx38⟩ := of_bind hx38
          refine HT.join (fun (v41 : Bool × Bool) => ⟨[(0, .one (.ip tG a0 0)), (1, .one (.dat (.sl .bool) a1)), (3, iV a3), (9, aV 0), (10, bV s9.1), (11, iV s9.2.1), (12, bV v41.1), (13, bV v41.2), (21, iV (lenI s2.2)), (22, iV s9.2.1), (43, iV (lenI (List.getD a0.2.2 (Int.toNat s9.2.1) ([] : List Int)))), (44, iV s24.2.2)], [(0, .seq .bool s9.2.2)], 1⟩) (fun v => v = v41') (fun v41 hv42 => ?_) (fun cont => ?_)
          ·subst hv42
           have hx38 := of_some hx38
           subst hx38
           exact HT.rgK (oHs 2) [(0, 0)] [] hX (by kernel_rfl) aN (fun _ h => (qLoopN ⟨(v41.1, v41.2, (wadd .i64 s24.2.2 (1 : Int))), rfl, h⟩))
          ·refine HT.block ?_
           refine HT.rg2 (oHs 2) ⟨[(0, .one (.ip tG a0 0)), (1, .one (.dat (.sl .bool) a1)), (3, iV a3), (9, aV 0), (10, bV s9.1), (11, iV s9.2.1), (12, bV s24.1), (13, bV s24.2.1), (14, iV s24.2.2), (21, iV (lenI s2.2)), (22, iV s9.2.1), (43, iV (lenI (List.getD a0.2.2 (Int.toNat s9.2.1) ([] : List Int)))), (44, iV s24.2.2)], [(0, .seq .bool s9.2.2)], 1⟩ hX (by kernel_rfl) aN ?_
           obtain ⟨hg44, hT43⟩ := of_guard hT43
           refine HT.rg2 (oHs 11) ⟨[(0, .one (.ip tG a0 0)), (1, .one (.dat (.sl .bool) a1)), (3, iV a3), (9, aV 0), (10, bV s9.1), (11, iV s9.2.1), (12, bV s24.1), (13, bV s24.2.1), (15, iV (List.getD (List.getD a0.2.2 (Int.toNat s9.2.1) ([] : List Int)) (Int.toNat s24.2.2) (0 : Int))), (21, iV (lenI s2.2)), (22, iV s9.2.1), (43, iV (lenI (List.getD a0.2.2 (Int.toNat s9.2.1) ([] : List Int)))), (44, iV s24.2.2)], [(0, .seq .bool s9.2.2)], 1⟩ hX (by kernel_rfl) (aC hg23 (aC hg44 aN)) ?_
           obtain ⟨q45, hq46, hT43⟩ := of_bind hT43
           have hq46 := of_some2 hq46
           refine (Le.cv (s := ⟨[(0, 0)], [], [], false⟩) (own := []) (ps := [a0 = a0, a1 = a1, a3 = a3, s9.1 = s9.1, s9.2.1 = s9.2.1, s24.1 = s24.1, s24.2.1 = s24.2.1, q45 = (List.getD (List.getD a0.2.2 (Int.toNat s9.2.1) ([] : List Int)) (Int.toNat s24.2.2) (0 : Int)), (lenI s2.2) = (lenI s2.2), s9.2.1 = s9.2.1, (lenI (List.getD a0.2.2 (Int.toNat s9.2.1) ([] : List Int))) = (lenI (List.getD a0.2.2 (Int.toNat s9.2.1) ([] : List Int))), s24.2.2 = s24.2.2, s9.2.2 = s9.2.2]) (st' := ⟨[(0, .one (.ip tG a0 0)), (1, .one (.dat (.sl .bool) a1)), (3, iV a3), (9, aV 0), (10, bV s9.1), (11, iV s9.2.1), (12, bV s24.1), (13, bV s24.2.1), (15, iV q45), (21, iV (lenI s2.2)), (22, iV s9.2.1), (43, iV (lenI (List.getD a0.2.2 (Int.toNat s9.2.1) ([] : List Int)))), (44, iV s24.2.2)], [(0, .seq .bool s9.2.2)], 1⟩) hO (fun h => by cases h) (by kernel_rfl) ⟨rfl, rfl, rfl, rfl, rfl, rfl, rfl, hq46, rfl, rfl, rfl, rfl, rfl, trivial⟩).ht ?_
           refine HT.seq ?_
           obtain ⟨hg47, hT43⟩ := of_guard hT43
           refine HT.rg2 (oHs 5) ⟨[(0, .one (.ip tG a0 0)), (1, .one (.dat (.sl .bool) a1)), (3, iV a3), (9, aV 0), (10, bV s9.1), (11, iV s9.2.1), (12, bV s24.1), (13, bV s24.2.1), (15, iV q45), (21, iV (lenI s2.2)), (22, iV s9.2.1), (43, iV (lenI (List.getD a0.2.2 (Int.toNat s9.2.1) ([] : List Int)))), (44, iV s24.2.2), (61, bV (!(List.getD a1 (Int.toNat q45) false)))], [(0, .seq .bool s9.2.2)], 1⟩ hX (by kernel_rfl) (aC hg47 aN) ?_
           rcases of_bif hT43 with ⟨hb48, hT43⟩ | ⟨hb48, hT43⟩
           ·refine HT.cond1 rfl hb48 ?_
            refine HT.exit (qThenE (qBlockX (qThen ?_)))
            exact (Le.re [(0, 0)] [] hX (by kernel_rfl)).ht (cont (s24.1, s24.2.1) (of_some hT43))
           ·refine HT.cond0 rfl hb48 ?_
            refine HT.skip (qThen ?_)
            obtain ⟨v49', hT51, hT43⟩ := of_bind hT43
            refine HT.join (fun (v49 : Bool) => ⟨[(0, .one (.ip tG a0 0)), (1, .one (.dat (.sl .bool) a1)), (3, iV a3), (9, aV 0), (10, bV s9.1), (11, iV s9.2.1), (12, bV v49), (13, bV s24.2.1), (15, iV q45), (21, iV (lenI s2.2)), (22, iV s9.2.1), (43, iV (lenI (List.getD a0.2.2 (Int.toNat s9.2.1) ([] : List Int)))), (44, iV s24.2.2)], [(0, .seq .bool s9.2.2)], 1⟩) (fun v => v = v49') (fun v49 hv50 => ?_) (fun cont => ?_)
            ·subst hv50
             rcases of_bif hT43 with ⟨hb52, hT43⟩ | ⟨hb52, hT43⟩
             ·obtain ⟨hg53, hT43⟩ := of_guard hT43
              exact HT.rgK [oH, oH, oT, oT, oT, oT, vT, oH] [(0, 0)] [] hX (by kernel_rfl) (aC hb52 (aC hb52 (aC hb52 (aC hg53 (aC hb52 (aC (natLt hg53) (aC hb52 aN))))))) (fun _ h => (qBlock (qThen (h.ht (cont (v49, (List.getD s9.2.2 (Int.toNat q45) false)) (of_some hT43))))))
             ·exact HT.rgK [oH, oH, oF, oF, oF, oF, vF, oH] [(0, 0)] [] hX (by kernel_rfl) (aC hb52 (aC hb52 (aC hb52 (aC hb52 (aC hb52 aN))))) (fun _ h => (qBlock (qThen (h.ht (cont (v49, false) (of_some hT43))))))
            ·rcases of_bif hT51 with ⟨hb54, hT51⟩ | ⟨hb54, hT51⟩
             ·exact HT.rgK [oH, oH, oT, oT, oT, oT, vT, oH] [(0, 0)] [] hX (by kernel_rfl) (aC hb54 (aC hb54 (aC hb54 (aC hb54 (aC hb54 aN))))) (fun _ h => (qThen (h.ht (cont true (of_some hT51)))))
             ·obtain ⟨hg55, hT51⟩ := of_guard hT51
              exact HT.rgK [oH, oH, oF, oF, oF, oF, vF, oH] [(0, 0)] [] hX (by kernel_rfl) (aC hb54 (aC hb54 (aC hb54 (aC hg55 (aC hb54 (aC (natLt hg55) (aC hb54 aN))))))) (fun _ h => (qThen (h.ht (cont (List.getD s9.2.2 (Int.toNat q45) false) (of_some hT51)))))
         ·refine HT.cond0 rfl hb40 ?_
          have hx38 := of_some hx38
          subst hx38
          exact HT.exitL (Le.re [(0, 0)] [] hX (by kernel_rfl)) (qThenE (qLoopE (hk39 (s24.1, s24.2.1) rfl)))
      ·obtain ⟨hg57, hT21⟩ := of_guard hT21
       rcases of_bif hT21 with ⟨hb58, hT21⟩ | ⟨hb58, hT21⟩
       ·exact HT.rgK [oH, oH, oH, oH, oH, oT, oT, oT, oT, oT, vT] [(0, 0)] [] hX (by kernel_rfl) (aC hg57 (aC (natLt hg57) (aC hb58 (aC hb58 (aC hb58 (aC hb58 (aC hb58 (aC hb58 aN)))))))) (fun _ h => (qThen (h.ht (cont true (of_some hT21)))))
       ·obtain ⟨hg59, hT21⟩ := of_guard hT21
        exact HT.rgK [oH, oH, oH, oH, oH, oF, oF, oF, oF, oF, vF] [(0, 0)] [] hX (by kernel_rfl) (aC hg57 (aC (natLt hg57) (aC hb58 (aC hb58 (aC hb58 (aC hg59 (aC hb58 (aC hb58 (aC hb58 aN))))))))) (fun _ h => (qThen (h.ht (cont (!(List.getD a1 (Int.toNat s9.2.1) false)) (of_some hT21)))))
    ·refine HT.cond0 rfl hb15 ?_
     have hx13 := of_some hx13
     subst hx13
     exact HT.exitL (Le.re [(0, 0)] [] hX (by kernel_rfl)) (qThenE (qLoopE (hk14 (s9.1, s9.2.2) rfl)))
  ·refine HT.cond0 rfl hb8 ?_
   have hx6 := of_some hx6
   subst hx6
   exact HT.exitL (Le.re [(0, 0)] [] hX (by kernel_rfl)) (qThenE (qLoopE (hk7 s2.2 rfl)))

noncomputable def spec_l07Without_B1 (a0 : List Bool) (a1 : List Bool) (s1 : Int × List Bool) : Option ((Int × List Bool) ⊕ (List Bool)) :=
 bif (decide (s1.1 < (lenI a0))) then
  (show Option (List Bool) from
   guardP ((0 : Int) ≤ s1.1 ∧ s1.1 < lenI a0) (
    bif (List.getD a0 (Int.toNat s1.1) false) then
     guardP ((0 : Int) ≤ s1.1 ∧ s1.1 < lenI a1) (
      guardP (List.length s1.2 + List.length ([(!(List.getD a1 (Int.toNat s1.1) false))] : List Bool) ≤ appMax) (
       some (s1.2 ++ ([(!(List.getD a1 (Int.toNat s1.1) false))] : List Bool))))
    else
     guardP (List.length s1.2 + List.length ([false] : List Bool) ≤ appMax) (
      some (s1.2 ++ ([false] : List Bool))))).bind fun v8 =>
  some (.inl ((wadd .i64 s1.1 (1 : Int)), v8))
 else
  some (.inr s1.2)

noncomputable def spec_l07Without (a0 : List Bool) (a1 : List Bool) : Option (List Bool) :=
 (rounds (spec_l07Without_B1 a0 a1) ((0 : Int), ([] : List Bool))).bind fun r3 =>
 some r3

theorem f236_ok {a0 : List Bool} {a1 : List Bool} {r : List Bool} (hr : spec_l07Without a0 a1 = some r) : CallOK Try.prog 236 [.imm (.sl .bool) a0, .imm (.sl .bool) a1] [⟨true, (.sl .bool), r⟩] [] := by
 unfold spec_l07Without at hr
 refine CallOK.of_body (ts := [(true, (.sl .bool))]) Try.func236 rfl (by kernel_rfl) (Nat.le_of_ble_eq_true (by kernel_rfl)) fun cx hP hN hO hF => ?_
 have hO : cx.own.map Prod.fst = [] := hO
 have hX := CxIs.mk hP hN hO
 have hF := hF rfl
 show HT cx ⟨[(0, .one (.dat (.sl .bool) a0)), (1, .one (.dat (.sl .bool) a1))], [], 0⟩ _ _
 refine HT.rg2 [oH] ⟨[(0, .one (.dat (.sl .bool) a0)), (1, .one (.dat (.sl .bool) a1))], [], 0⟩ hX (by kernel_rfl) aN ?_
 refine HT.rg2 (oHs 2) ⟨[(0, .one (.dat (.sl .bool) a0)), (1, .one (.dat (.sl .bool) a1)), (5, .one (.nilS))], [], 0⟩ hX (by kernel_rfl) aN ?_
 refine HT.seq ?_
 refine HT.rg2 (oHs 3) ⟨[(0, .one (.dat (.sl .bool) a0)), (1, .one (.dat (.sl .bool) a1)), (5, .one (.nilS)), (9, iV (lenI a0)), (10, iV (0 : Int))], [], 0⟩ hX (by kernel_rfl) aN ?_
 refine HT.block ?_
 obtain ⟨r2, hL16, hr⟩ := of_bind hr
 refine HT.loopL (fun (s1 : Int × List Bool) => ⟨[(0, .one (.dat (.sl .bool) a0)), (1, .one (.dat (.sl .bool) a1)), (5, aV 0), (9, iV (lenI a0)), (10, iV s1.1)], [(0, .seq .bool s1.2)], 1⟩) (fun (r3 : List Bool) => (.exit 0, ⟨[(5, aV 0)], [(0, .seq .bool r3)], 1⟩)) (Le.re [] [0] hX (by kernel_rfl)) hL16 ?_ (fun s1 x4 hx5 hk6 => ?_)
 ·refine (qBlockX (qThen ?_))
  refine HT.rg2 (oHs 2) ⟨[(4, aV 0)], [(0, .seq .bool r2)], 1⟩ hX (by kernel_rfl) aN ?_
  have hr := of_some hr
  subst hr
  exact HT.ret ⟨[aV 0], [0], [], by kernel_rfl, by kernel_rfl, rfl, by kernel_rfl, by kernel_rfl, trivial⟩
 ·refine HT.rg2 [oH] ⟨[(0, .one (.dat (.sl .bool) a0)), (1, .one (.dat (.sl .bool) a1)), (5, aV 0), (9, iV (lenI a0)), (10, iV s1.1), (11, bV (decide (s1.1 < (lenI a0))))], [(0, .seq .bool s1.2)], 1⟩ hX (by kernel_rfl) aN ?_
  refine HT.seq ?_
  rcases of_bif hx5 with ⟨hb7, hx5⟩ | ⟨hb7, hx5⟩
  ·refine HT.cond1 rfl hb7 ?_
   refine HT.skip (qThen ?_)
   obtain ⟨v8', hT10, hx5⟩ := of_bind hx5
   refine HT.join (fun (v8 : List Bool) => ⟨[(0, .one (.dat (.sl .bool) a0)), (1, .one (.dat (.sl .bool) a1)), (5, aV 0), (9, iV (lenI a0)), (10, iV s1.1)], [(0, .seq .bool v8)], 1⟩) (fun v => v = v8') (fun v8 hv9 => ?_) (fun cont => ?_)
   ·subst hv9
    have hx5 := of_some hx5
    subst hx5
    exact HT.rgK (oHs 2) [(0, 0)] [] hX (by kernel_rfl) aN (fun _ h => (qLoopN ⟨((wadd .i64 s1.1 (1 : Int)), v8), rfl, h⟩))
   ·refine HT.block ?_
    refine HT.rg2 (oHs 2) ⟨[(0, .one (.dat (.sl .bool) a0)), (1, .one (.dat (.sl .bool) a1)), (5, aV 0), (6, iV s1.1), (9, iV (lenI a0)), (10, iV s1.1)], [(0, .seq .bool s1.2)], 1⟩ hX (by kernel_rfl) aN ?_
    obtain ⟨hg11, hT10⟩ := of_guard hT10
    rcases of_bif hT10 with ⟨hb12, hT10⟩ | ⟨hb12, hT10⟩
    ·obtain ⟨hg13, hT10⟩ := of_guard hT10
     obtain ⟨hg14, hT10⟩ := of_guard hT10
     exact HT.rgK [oH, oH, oH, oH, oH, oH, oT, oT, oT, oT, oT, vT, ⟨none, .ty .bool⟩, ⟨none, .ty .bool⟩, oH] [(2, 0)] [] hX (by kernel_rfl) (aC hg11 (aC hb12 (aC hb12 (aC hb12 (aC hg13 (aC hb12 (aC hb12 (aC hb12 (aC hg14 aN))))))))) (fun _ h => (qBlock (qThen (h.ht (cont (s1.2 ++ ([(!(List.getD a1 (Int.toNat s1.1) false))] : List Bool)) (of_some hT10))))))
    ·obtain ⟨hg15, hT10⟩ := of_guard hT10
     exact HT.rgK [oH, oH, oH, oH, oH, oH, oF, oF, oF, oF, oF, vF, ⟨none, .ty .bool⟩, ⟨none, .ty .bool⟩, oH] [(2, 0)] [] hX (by kernel_rfl) (aC hg11 (aC hb12 (aC hb12 (aC hb12 (aC hb12 (aC hb12 (aC hb12 (aC hg15 aN)))))))) (fun _ h => (qBlock (qThen (h.ht (cont (s1.2 ++ ([false] : List Bool)) (of_some hT10))))))
  ·refine HT.cond0 rfl hb7 ?_
   have hx5 := of_some hx5
   subst hx5
   exact HT.exitL (Le.re [(0, 0)] [] hX (by kernel_rfl)) (qThenE (qLoopE (hk6 s1.2 rfl)))

noncomputable def spec_l00Max (a0 : Int) (a1 : Int) : Option (Int) :=
 bif (decide (a0 > a1)) then
  some a0
 else
  some a1

theorem f235_ok {a0 : Int} {a1 : Int} {r : Int} (hr : spec_l00Max a0 a1 = some r) : CallOK Try.prog 235 [.imm tI a0, .imm tI a1] [⟨false, tI, r⟩] [] := by
 unfold spec_l00Max at hr
 refine CallOK.of_body (ts := [(false, tI)]) Try.func235 rfl (by kernel_rfl) (Nat.le_of_ble_eq_true (by kernel_rfl)) fun cx hP hN hO hF => ?_
 have hO : cx.own.map Prod.fst = [] := hO
 have hX := CxIs.mk hP hN hO
 have hF := hF rfl
 show HT cx ⟨[(0, iV a0), (1, iV a1)], [], 0⟩ _ _
 refine HT.rg2 [oH] ⟨[(0, iV a0), (1, iV a1)], [], 0⟩ hX (by kernel_rfl) aN ?_
 refine HT.seq ?_
 refine HT.rg2 (oHs 3) ⟨[(0, iV a0), (1, iV a1), (7, bV (decide (a0 > a1)))], [], 0⟩ hX (by kernel_rfl) aN ?_
 rcases of_bif hr with ⟨hb1, hr⟩ | ⟨hb1, hr⟩
 ·refine HT.cond1 rfl hb1 ?_
  refine HT.rg2 (oHs 2) ⟨[(4, iV a0)], [], 0⟩ hX (by kernel_rfl) aN ?_
  have hr := of_some hr
  subst hr
  exact HT.ret (qThenR ⟨[iV a0], [], [], by kernel_rfl, by kernel_rfl, rfl, by kernel_rfl, by kernel_rfl, trivial⟩)
 ·refine HT.cond0 rfl hb1 ?_
  refine HT.skip (qThen ?_)
  refine HT.rg2 (oHs 2) ⟨[(4, iV a1)], [], 0⟩ hX (by kernel_rfl) aN ?_
  have hr := of_some hr
  subst hr
  exact HT.ret ⟨[iV a1], [], [], by kernel_rfl, by kernel_rfl, rfl, by kernel_rfl, by kernel_rfl, trivial⟩

noncomputable def spec_l07Win_B1 (a1 : List Bool) (r3 : Int) (s19 : Int × List Bool) : Option ((Int × List Bool) ⊕ (List Bool)) :=
 bif (decide (s19.1 < (lenI a1))) then
  (show Option (List Bool) from
   guardP ((0 : Int) ≤ s19.1 ∧ s19.1 < lenI a1) (
    bif (List.getD a1 (Int.toNat s19.1) false) then
     guardP ((0 : Int) ≤ s19.1 ∧ s19.1 < lenI s19.2) (
      some (List.set s19.2 (Int.toNat s19.1) ((Int.tmod r3 (2 : Int)) == (1 : Int))))
    else
     guardP ((0 : Int) ≤ s19.1 ∧ s19.1 < lenI s19.2) (
      some (List.set s19.2 (Int.toNat s19.1) false)))).bind fun v26 =>
  some (.inl ((wadd .i64 s19.1 (1 : Int)), v26))
 else
  some (.inr s19.2)

noncomputable def spec_l07Win_B2 (a1 : List Bool) (r3 : Int) (y34 : List Bool) (y38 : List Bool) (s40 : Int × List Bool) : Option ((Int × List Bool) ⊕ (List Bool)) :=
 bif (decide (s40.1 < (lenI a1))) then
  (show Option (List Bool) from
   guardP ((0 : Int) ≤ s40.1 ∧ s40.1 < lenI y38) (
    bif (List.getD y38 (Int.toNat s40.1) false) then
     guardP ((0 : Int) ≤ s40.1 ∧ s40.1 < lenI s40.2) (
      some (List.set s40.2 (Int.toNat s40.1) true))
    else
     guardP ((0 : Int) ≤ s40.1 ∧ s40.1 < lenI y34) (
      bif (List.getD y34 (Int.toNat s40.1) false) then
       guardP ((0 : Int) ≤ s40.1 ∧ s40.1 < lenI s40.2) (
        some (List.set s40.2 (Int.toNat s40.1) ((Int.tmod r3 (2 : Int)) == (0 : Int))))
      else
       guardP ((0 : Int) ≤ s40.1 ∧ s40.1 < lenI s40.2) (
        some (List.set s40.2 (Int.toNat s40.1) false))))).bind fun v47 =>
  some (.inl ((wadd .i64 s40.1 (1 : Int)), v47))
 else
  some (.inr s40.2)

noncomputable def spec_l07Win_B3 (r3 : Int) (y11 : List Bool) (y13 : List Bool) (s15 : Bool × Int × List Bool) : Option ((Bool × Int × List Bool) ⊕ ((Bool × List Bool))) :=
 bif (decide (s15.2.1 < (lenI y11))) then
  (show Option (Bool × List Bool) from
   (show Option (List Bool) from
    guardP ((0 : Int) ≤ s15.2.1 ∧ s15.2.1 < lenI y11) (
     bif (List.getD y11 (Int.toNat s15.2.1) false) then
      guardP ((0 : Int) ≤ s15.2.1 ∧ s15.2.1 < lenI y13) (
       guardP ((0 : Int) ≤ s15.2.1 ∧ s15.2.1 < lenI s15.2.2) (
        some (List.set s15.2.2 (Int.toNat s15.2.1) ((List.getD y13 (Int.toNat s15.2.1) false) == ((Int.tmod r3 (2 : Int)) == (0 : Int))))))
     else
      guardP ((0 : Int) ≤ s15.2.1 ∧ s15.2.1 < lenI s15.2.2) (
       some (List.set s15.2.2 (Int.toNat s15.2.1) false)))).bind fun v65 =>
   bif s15.1 then
    some (true, v65)
   else
    guardP ((0 : Int) ≤ s15.2.1 ∧ s15.2.1 < lenI v65) (
     some ((List.getD v65 (Int.toNat s15.2.1) false), v65))).bind fun v62 =>
  some (.inl (v62.1, (wadd .i64 s15.2.1 (1 : Int)), v62.2))
 else
  some (.inr (s15.1, s15.2.2))

noncomputable def spec_l07Win_B4 (a0 : TyG) (a1 : List Bool) (r3 : Int) (s6 : Int × List Bool) : Option ((Int × List Bool) ⊕ (List Bool)) :=
 bif (decide (s6.1 < (lenI a1))) then
  (show Option (List Bool) from
   guardP ((0 : Int) ≤ s6.1 ∧ s6.1 < lenI a1) (
    bif (List.getD a1 (Int.toNat s6.1) false) then
     guardP ((0 : Int) ≤ s6.1 ∧ s6.1 < lenI a0.2.1) (
      guardP ((0 : Int) ≤ s6.1 ∧ s6.1 < lenI s6.2) (
       some (List.set s6.2 (Int.toNat s6.1) ((List.getD a0.2.1 (Int.toNat s6.1) (0 : Int)) == r3))))
    else
     guardP ((0 : Int) ≤ s6.1 ∧ s6.1 < lenI s6.2) (
      some (List.set s6.2 (Int.toNat s6.1) false)))).bind fun v80 =>
  some (.inl ((wadd .i64 s6.1 (1 : Int)), v80))
 else
  some (.inr s6.2)

noncomputable def spec_l07Win_B5 (a0 : TyG) (a1 : List Bool) (s1 : Int × Int) : Option ((Int × Int) ⊕ (Int)) :=
 bif (decide (s1.2 < (lenI a1))) then
  (show Option (Int) from
   guardP ((0 : Int) ≤ s1.2 ∧ s1.2 < lenI a1) (
    bif (List.getD a1 (Int.toNat s1.2) false) then
     guardP ((0 : Int) ≤ s1.2 ∧ s1.2 < lenI a0.2.1) (
      (spec_l00Max s1.1 (List.getD a0.2.1 (Int.toNat s1.2) (0 : Int))).bind fun y99 =>
      some y99)
    else
     some s1.1)).bind fun v93 =>
  some (.inl (v93, (wadd .i64 s1.2 (1 : Int))))
 else
  some (.inr s1.1)

noncomputable def spec_l07Win_G (slv : ((TyG) × List Bool) → Option (List Bool)) (a0 : TyG) (a1 : List Bool) : Option (List Bool) :=
 (rounds (spec_l07Win_B5 a0 a1) ((-1 : Int), (0 : Int))).bind fun r3 =>
 guardP ((0 : Int) ≤ (lenI a1) ∧ (lenI a1) ≤ 4294967296) (
  bif (decide (r3 < (0 : Int))) then
   some (List.replicate (Int.toNat (lenI a1)) false)
  else
   (rounds (spec_l07Win_B4 a0 a1 r3) ((0 : Int), (List.replicate (Int.toNat (lenI a1)) false))).bind fun r8 =>
   (spec_l07Draw (a0.1, a0.2.1, a0.2.2) a1 r8 (Int.tmod r3 (2 : Int))).bind fun y9 =>
   (spec_l07Without a1 y9).bind fun y11 =>
   (slv ((a0.1, a0.2.1, a0.2.2), y11)).bind fun y13 =>
   (rounds (spec_l07Win_B3 r3 y11 y13) (false, (0 : Int), (List.replicate (Int.toNat (lenI a1)) false))).bind fun r17 =>
   bif (!r17.1) then
    (rounds (spec_l07Win_B1 a1 r3) ((0 : Int), (List.replicate (Int.toNat (lenI a1)) false))).bind fun r21 =>
    some r21
   else
    (spec_l07Draw (a0.1, a0.2.1, a0.2.2) a1 r17.2 (wsub .i64 (1 : Int) (Int.tmod r3 (2 : Int)))).bind fun y34 =>
    (spec_l07Without a1 y34).bind fun y36 =>
    (slv ((a0.1, a0.2.1, a0.2.2), y36)).bind fun y38 =>
    (rounds (spec_l07Win_B2 a1 r3 y34 y38) ((0 : Int), (List.replicate (Int.toNat (lenI a1)) false))).bind fun r42 =>
    some r42)

theorem f202_okG {slv : ((TyG) × List Bool) → Option (List Bool)} (ih : ∀ {x : (TyG) × List Bool} {r : List Bool}, slv x = some r → CallOK Try.prog 202 [.pimm tG x.1, .imm (.sl .bool) x.2] [⟨true, (.sl .bool), r⟩] []) {a0 : TyG} {a1 : List Bool} {r : List Bool} (hr : spec_l07Win_G slv a0 a1 = some r) : CallOK Try.prog 202 [.pimm tG a0, .imm (.sl .bool) a1] [⟨true, (.sl .bool), r⟩] [] := by
 unfold spec_l07Win_G at hr
 refine CallOK.of_body (ts := [(true, (.sl .bool))]) Try.func202 rfl (by kernel_rfl) (Nat.le_of_ble_eq_true (by kernel_rfl)) fun cx hP hN hO hF => ?_
 have hO : cx.own.map Prod.fst = [] := hO
 have hX := CxIs.mk hP hN hO
 have hF := hF rfl
 show HT cx ⟨[(0, .one (.ip tG a0 0)), (1, .one (.dat (.sl .bool) a1))], [], 0⟩ _ _
 refine HT.rg2 [oH] ⟨[(0, .one (.ip tG a0 0)), (1, .one (.dat (.sl .bool) a1))], [], 0⟩ hX (by kernel_rfl) aN ?_
 refine HT.rg2 (oHs 3) ⟨[(0, .one (.ip tG a0 0)), (1, .one (.dat (.sl .bool) a1)), (5, iV (lenI a1))], [], 0⟩ hX (by kernel_rfl) aN ?_
 refine HT.rg2 [oH] ⟨[(0, .one (.ip tG a0 0)), (1, .one (.dat (.sl .bool) a1)), (5, iV (lenI a1)), (6, iV (-1 : Int))], [], 0⟩ hX (by kernel_rfl) aN ?_
 refine HT.seq ?_
 refine HT.rg2 (oHs 3) ⟨[(0, .one (.ip tG a0 0)), (1, .one (.dat (.sl .bool) a1)), (5, iV (lenI a1)), (6, iV (-1 : Int)), (26, iV (lenI a1)), (27, iV (0 : Int))], [], 0⟩ hX (by kernel_rfl) aN ?_
 refine HT.block ?_
 obtain ⟨r2, hL101, hr⟩ := of_bind hr
 refine HT.loopL (fun (s1 : Int × Int) => ⟨[(0, .one (.ip tG a0 0)), (1, .one (.dat (.sl .bool) a1)), (5, iV (lenI a1)), (6, iV s1.1), (26, iV (lenI a1)), (27, iV s1.2)], [], 0⟩) (fun (r3 : Int) => (.exit 0, ⟨[(0, .one (.ip tG a0 0)), (1, .one (.dat (.sl .bool) a1)), (5, iV (lenI a1)), (6, iV r3)], [], 0⟩)) (Le.re [] [] hX (by kernel_rfl)) hL101 ?_ (fun s1 x89 hx90 hk91 => ?_)
 ·refine (qBlockX (qThen ?_))
  obtain ⟨hg4, hr⟩ := of_guard hr
  refine HT.rg2 [oH, ⟨none, .ty .bool⟩, oH] ⟨[(0, .one (.ip tG a0 0)), (1, .one (.dat (.sl .bool) a1)), (5, iV (lenI a1)), (6, iV r2), (8, aV 0)], [(0, .seq .bool (List.replicate (Int.toNat (lenI a1)) false))], 1⟩ hX (by kernel_rfl) (aC (show (0 : Int) ≤ (lenI a1) ∧ (lenI a1) ≤ (lenI a1) ∧ (lenI a1) ≤ 4294967296 from ⟨hg4.1, Int.le_refl _, hg4.2⟩) aN) ?_
  refine HT.seq ?_
  refine HT.rg2 (oHs 2) ⟨[(0, .one (.ip tG a0 0)), (1, .one (.dat (.sl .bool) a1)), (5, iV (lenI a1)), (6, iV r2), (8, aV 0), (47, bV (decide (r2 < (0 : Int))))], [(0, .seq .bool (List.replicate (Int.toNat (lenI a1)) false))], 1⟩ hX (by kernel_rfl) aN ?_
  rcases of_bif hr with ⟨hb5, hr⟩ | ⟨hb5, hr⟩
  ·refine HT.cond1 rfl hb5 ?_
   refine HT.rg2 (oHs 2) ⟨[(4, aV 0)], [(0, .seq .bool (List.replicate (Int.toNat (lenI a1)) false))], 1⟩ hX (by kernel_rfl) aN ?_
   have hr := of_some hr
   subst hr
   exact HT.ret (qThenR ⟨[aV 0], [0], [], by kernel_rfl, by kernel_rfl, rfl, by kernel_rfl, by kernel_rfl, trivial⟩)
  ·refine HT.cond0 rfl hb5 ?_
   refine HT.skip (qThen ?_)
   refine HT.rg2 (oHs 3) ⟨[(0, .one (.ip tG a0 0)), (1, .one (.dat (.sl .bool) a1)), (5, iV (lenI a1)), (6, iV r2), (9, iV (Int.tmod r2 (2 : Int)))], [], 1⟩ hX (by kernel_rfl) (aC (show (2 : Int) ≠ 0 from by decide) aN) ?_
   refine HT.rg2 [oH, ⟨none, .ty .bool⟩, oH] ⟨[(0, .one (.ip tG a0 0)), (1, .one (.dat (.sl .bool) a1)), (5, iV (lenI a1)), (6, iV r2), (9, iV (Int.tmod r2 (2 : Int))), (10, aV 1)], [(1, .seq .bool (List.replicate (Int.toNat (lenI a1)) false))], 2⟩ hX (by kernel_rfl) (aC (show (0 : Int) ≤ (lenI a1) ∧ (lenI a1) ≤ (lenI a1) ∧ (lenI a1) ≤ 4294967296 from ⟨hg4.1, Int.le_refl _, hg4.2⟩) aN) ?_
   refine HT.seq ?_
   refine HT.rg2 (oHs 3) ⟨[(0, .one (.ip tG a0 0)), (1, .one (.dat (.sl .bool) a1)), (5, iV (lenI a1)), (6, iV r2), (9, iV (Int.tmod r2 (2 : Int))), (10, aV 1), (54, iV (lenI a1)), (55, iV (0 : Int))], [(1, .seq .bool (List.replicate (Int.toNat (lenI a1)) false))], 2⟩ hX (by kernel_rfl) aN ?_
   refine HT.block ?_
   obtain ⟨r7, hL88, hr⟩ := of_bind hr
   refine HT.loopL (fun (s6 : Int × List Bool) => ⟨[(0, .one (.ip tG a0 0)), (1, .one (.dat (.sl .bool) a1)), (5, iV (lenI a1)), (6, iV r2), (9, iV (Int.tmod r2 (2 : Int))), (10, aV 0), (54, iV (lenI a1)), (55, iV s6.1)], [(0, .seq .bool s6.2)], 1⟩) (fun (r8 : List Bool) => (.exit 2, ⟨[(0, .one (.ip tG a0 0)), (1, .one (.dat (.sl .bool) a1)), (5, iV (lenI a1)), (9, iV (Int.tmod r2 (2 : Int))), (10, aV 0)], [(0, .seq .bool r8)], 1⟩)) (Le.re [(1, 0)] [] hX (by kernel_rfl)) hL88 ?_ (fun s6 x76 hx77 hk78 => ?_)
   ·refine (qBlockX (qThen ?_))
    obtain ⟨y9, hc10, hr⟩ := of_bind hr
    refine HT.rg2 [oH, oH, oH, oH, ⟨none, .call [.pimm tG, .imm (.sl .bool), .imm (.sl .bool), .imm tI] [⟨true, (.sl .bool), y9⟩] []⟩, oH] ⟨[(0, .one (.ip tG a0 0)), (1, .one (.dat (.sl .bool) a1)), (5, iV (lenI a1)), (9, iV (Int.tmod r2 (2 : Int))), (12, aV 1)], [(1, .seq .bool y9)], 2⟩ hX (by kernel_rfl) (aC (f142_ok hc10) aN) ?_
    obtain ⟨y11, hc12, hr⟩ := of_bind hr
    refine HT.rg2 [oH, oH, ⟨none, .call [.imm (.sl .bool), .imm (.sl .bool)] [⟨true, (.sl .bool), y11⟩] []⟩, oH] ⟨[(0, .one (.ip tG a0 0)), (1, .one (.dat (.sl .bool) a1)), (5, iV (lenI a1)), (9, iV (Int.tmod r2 (2 : Int))), (13, aV 2)], [(2, .seq .bool y11)], 3⟩ hX (by kernel_rfl) (aC (f236_ok hc12) aN) ?_
    obtain ⟨y13, hc14, hr⟩ := of_bind hr
    refine HT.rg2 [oH, oH, ⟨none, .call [.pimm tG, .imm (.sl .bool)] [⟨true, (.sl .bool), y13⟩] []⟩, oH] ⟨[(0, .one (.ip tG a0 0)), (1, .one (.dat (.sl .bool) a1)), (5, iV (lenI a1)), (9, iV (Int.tmod r2 (2 : Int))), (13, aV 2), (14, aV 3)], [(3, .seq .bool y13), (2, .seq .bool y11)], 4⟩ hX (by kernel_rfl) (aC (ih hc14) aN) ?_
    refine HT.rg2 [oH, ⟨none, .ty .bool⟩, oH] ⟨[(0, .one (.ip tG a0 0)), (1, .one (.dat (.sl .bool) a1)), (5, iV (lenI a1)), (9, iV (Int.tmod r2 (2 : Int))), (13, aV 2), (14, aV 3), (15, aV 4)], [(4, .seq .bool (List.replicate (Int.toNat (lenI a1)) false)), (3, .seq .bool y13), (2, .seq .bool y11)], 5⟩ hX (by kernel_rfl) (aC (show (0 : Int) ≤ (lenI a1) ∧ (lenI a1) ≤ (lenI a1) ∧ (lenI a1) ≤ 4294967296 from ⟨hg4.1, Int.le_refl _, hg4.2⟩) aN) ?_
    refine HT.rg2 [oH] ⟨[(0, .one (.ip tG a0 0)), (1, .one (.dat (.sl .bool) a1)), (5, iV (lenI a1)), (9, iV (Int.tmod r2 (2 : Int))), (13, aV 2), (14, aV 3), (15, aV 4), (16, bV false)], [(4, .seq .bool (List.replicate (Int.toNat (lenI a1)) false)), (3, .seq .bool y13), (2, .seq .bool y11)], 5⟩ hX (by kernel_rfl) aN ?_
    refine HT.seq ?_
    refine HT.rg2 (oHs 3) ⟨[(0, .one (.ip tG a0 0)), (1, .one (.dat (.sl .bool) a1)), (5, iV (lenI a1)), (9, iV (Int.tmod r2 (2 : Int))), (13, aV 2), (14, aV 3), (15, aV 4), (16, bV false), (91, iV (lenI y11)), (92, iV (0 : Int))], [(4, .seq .bool (List.replicate (Int.toNat (lenI a1)) false)), (3, .seq .bool y13), (2, .seq .bool y11)], 5⟩ hX (by kernel_rfl) aN ?_
    refine HT.block ?_
    obtain ⟨r16, hL75, hr⟩ := of_bind hr
    refine HT.loopL (fun (s15 : Bool × Int × List Bool) => ⟨[(0, .one (.ip tG a0 0)), (1, .one (.dat (.sl .bool) a1)), (5, iV (lenI a1)), (9, iV (Int.tmod r2 (2 : Int))), (13, aV 0), (14, aV 1), (15, aV 2), (16, bV s15.1), (91, iV (lenI y11)), (92, iV s15.2.1)], [(0, .seq .bool y11), (1, .seq .bool y13), (2, .seq .bool s15.2.2)], 3⟩) (fun (r17 : (Bool × List Bool)) => (.exit 4, ⟨[(0, .one (.ip tG a0 0)), (1, .one (.dat (.sl .bool) a1)), (5, iV (lenI a1)), (9, iV (Int.tmod r2 (2 : Int))), (15, aV 0), (16, bV r17.1)], [(0, .seq .bool r17.2)], 1⟩)) (Le.re [(2, 0), (3, 1), (4, 2)] [] hX (by kernel_rfl)) hL75 ?_ (fun s15 x58 hx59 hk60 => ?_)
    ·refine (qBlockX (qThen ?_))
     refine HT.rg2 [oH, ⟨none, .ty .bool⟩, oH] ⟨[(0, .one (.ip tG a0 0)), (1, .one (.dat (.sl .bool) a1)), (9, iV (Int.tmod r2 (2 : Int))), (15, aV 0), (16, bV r16.1), (18, aV 1)], [(1, .seq .bool (List.replicate (Int.toNat (lenI a1)) false)), (0, .seq .bool r16.2)], 2⟩ hX (by kernel_rfl) (aC (show (0 : Int) ≤ (lenI a1) ∧ (lenI a1) ≤ (lenI a1) ∧ (lenI a1) ≤ 4294967296 from ⟨hg4.1, Int.le_refl _, hg4.2⟩) aN) ?_
     refine HT.seq ?_
     refine HT.rg2 (oHs 2) ⟨[(0, .one (.ip tG a0 0)), (1, .one (.dat (.sl .bool) a1)), (9, iV (Int.tmod r2 (2 : Int))), (15, aV 0), (18, aV 1), (122, bV (!r16.1))], [(1, .seq .bool (List.replicate (Int.toNat (lenI a1)) false)), (0, .seq .bool r16.2)], 2⟩ hX (by kernel_rfl) aN ?_
     rcases of_bif hr with ⟨hb18, hr⟩ | ⟨hb18, hr⟩
     ·refine HT.cond1 rfl hb18 ?_
      refine HT.seq ?_
      refine HT.rg2 (oHs 3) ⟨[(1, .one (.dat (.sl .bool) a1)), (9, iV (Int.tmod r2 (2 : Int))), (18, aV 1), (124, iV (lenI a1)), (125, iV (0 : Int))], [(1, .seq .bool (List.replicate (Int.toNat (lenI a1)) false))], 2⟩ hX (by kernel_rfl) aN ?_
      refine HT.block ?_
      obtain ⟨r20, hL33, hr⟩ := of_bind hr
      refine HT.loopL (fun (s19 : Int × List Bool) => ⟨[(1, .one (.dat (.sl .bool) a1)), (9, iV (Int.tmod r2 (2 : Int))), (18, aV 0), (124, iV (lenI a1)), (125, iV s19.1)], [(0, .seq .bool s19.2)], 1⟩) (fun (r21 : List Bool) => (.exit 6, ⟨[(18, aV 0)], [(0, .seq .bool r21)], 1⟩)) (Le.re [(1, 0)] [] hX (by kernel_rfl)) hL33 ?_ (fun s19 x22 hx23 hk24 => ?_)
      ·refine (qBlockX (qThen ?_))
       refine HT.rg2 (oHs 2) ⟨[(4, aV 0)], [(0, .seq .bool r20)], 1⟩ hX (by kernel_rfl) aN ?_
       have hr := of_some hr
       subst hr
       exact HT.ret (qThenR ⟨[aV 0], [0], [], by kernel_rfl, by kernel_rfl, rfl, by kernel_rfl, by kernel_rfl, trivial⟩)
      ·refine HT.rg2 [oH] ⟨[(1, .one (.dat (.sl .bool) a1)), (9, iV (Int.tmod r2 (2 : Int))), (18, aV 0), (124, iV (lenI a1)), (125, iV s19.1), (126, bV (decide (s19.1 < (lenI a1))))], [(0, .seq .bool s19.2)], 1⟩ hX (by kernel_rfl) aN ?_
       refine HT.seq ?_
       rcases of_bif hx23 with ⟨hb25, hx23⟩ | ⟨hb25, hx23⟩
       ·refine HT.cond1 rfl hb25 ?_
        refine HT.skip (qThen ?_)
        obtain ⟨v26', hT28, hx23⟩ := of_bind hx23
        refine HT.join (fun (v26 : List Bool) => ⟨[(1, .one (.dat (.sl .bool) a1)), (9, iV (Int.tmod r2 (2 : Int))), (18, aV 0), (124, iV (lenI a1)), (125, iV s19.1)], [(0, .seq .bool v26)], 1⟩) (fun v => v = v26') (fun v26 hv27 => ?_) (fun cont => ?_)
        ·subst hv27
         have hx23 := of_some hx23
         subst hx23
         exact HT.rgK (oHs 2) [(0, 0)] [] hX (by kernel_rfl) aN (fun _ h => (qLoopN ⟨((wadd .i64 s19.1 (1 : Int)), v26), rfl, h⟩))
        ·refine HT.block ?_
         refine HT.rg2 (oHs 2) ⟨[(1, .one (.dat (.sl .bool) a1)), (9, iV (Int.tmod r2 (2 : Int))), (18, aV 0), (19, iV s19.1), (124, iV (lenI a1)), (125, iV s19.1)], [(0, .seq .bool s19.2)], 1⟩ hX (by kernel_rfl) aN ?_
         obtain ⟨hg29, hT28⟩ := of_guard hT28
         rcases of_bif hT28 with ⟨hb30, hT28⟩ | ⟨hb30, hT28⟩
         ·obtain ⟨hg31, hT28⟩ := of_guard hT28
          exact HT.rgK [oH, oH, oH, oH, oH, oH, oH, oT, oT, vT, oH, oH] [(0, 0)] [] hX (by kernel_rfl) (aC hg29 (aC hb30 (aC hb30 (aC hb30 (aC hg31 (aC (natLt hg31) aN)))))) (fun _ h => (qBlock (qThen (h.ht (cont (List.set s19.2 (Int.toNat s19.1) ((Int.tmod r2 (2 : Int)) == (1 : Int))) (of_some hT28))))))
         ·obtain ⟨hg32, hT28⟩ := of_guard hT28
          exact HT.rgK [oH, oH, oH, oH, oH, oH, oH, oF, oF, vF, oH, oH] [(0, 0)] [] hX (by kernel_rfl) (aC hg29 (aC hb30 (aC hb30 (aC hb30 (aC hg32 (aC (natLt hg32) aN)))))) (fun _ h => (qBlock (qThen (h.ht (cont (List.set s19.2 (Int.toNat s19.1) false) (of_some hT28))))))
       ·refine HT.cond0 rfl hb25 ?_
        have hx23 := of_some hx23
        subst hx23
        exact HT.exitL (Le.re [(0, 0)] [] hX (by kernel_rfl)) (qThenE (qLoopE (hk24 s19.2 rfl)))
     ·refine HT.cond0 rfl hb18 ?_
      refine HT.skip (qThen ?_)
      obtain ⟨y34, hc35, hr⟩ := of_bind hr
      refine HT.rg2 [oH, oH, oH, oH, oH, ⟨none, .call [.pimm tG, .imm (.sl .bool), .imm (.sl .bool), .imm tI] [⟨true, (.sl .bool), y34⟩] []⟩, oH] ⟨[(0, .one (.ip tG a0 0)), (1, .one (.dat (.sl .bool) a1)), (9, iV (Int.tmod r2 (2 : Int))), (18, aV 1), (20, aV 2)], [(2, .seq .bool y34), (1, .seq .bool (List.replicate (Int.toNat (lenI a1)) false))], 3⟩ hX (by kernel_rfl) (aC (f142_ok hc35) aN) ?_
      refine (Le.rz [(1, 1)] [] (st' := ⟨[(0, .one (.ip tG a0 0)), (1, .one (.dat (.sl .bool) a1)), (9, iV (Int.tmod r2 (2 : Int))), (18, aV 1), (20, .one (.dat (.sl .bool) y34))], [(1, .seq .bool (List.replicate (Int.toNat (lenI a1)) false))], 3⟩) hX hF (by kernel_rfl)).ht ?_
      obtain ⟨y36, hc37, hr⟩ := of_bind hr
      obtain ⟨y38, hc39, hr⟩ := of_bind hr
      refine HT.rg2 [oH, oH, oH, ⟨none, .call [.imm (.sl .bool), .imm (.sl .bool)] [⟨false, (.sl .bool), y36⟩] []⟩, ⟨none, .call [.pimm tG, .imm (.sl .bool)] [⟨true, (.sl .bool), y38⟩] []⟩, oH] ⟨[(1, .one (.dat (.sl .bool) a1)), (9, iV (Int.tmod r2 (2 : Int))), (18, aV 1), (20, .one (.dat (.sl .bool) y34)), (21, aV 3)], [(3, .seq .bool y38), (1, .seq .bool (List.replicate (Int.toNat (lenI a1)) false))], 4⟩ hX (by kernel_rfl) (aC (CallOK.frz [true] rfl (f236_ok hc37)) (aC (ih hc39) aN)) ?_
      refine HT.seq ?_
      refine HT.rg2 (oHs 3) ⟨[(9, iV (Int.tmod r2 (2 : Int))), (18, aV 1), (20, .one (.dat (.sl .bool) y34)), (21, aV 3), (153, iV (lenI a1)), (154, iV (0 : Int))], [(3, .seq .bool y38), (1, .seq .bool (List.replicate (Int.toNat (lenI a1)) false))], 4⟩ hX (by kernel_rfl) aN ?_
      refine HT.block ?_
      obtain ⟨r41, hL57, hr⟩ := of_bind hr
      refine HT.loopL (fun (s40 : Int × List Bool) => ⟨[(9, iV (Int.tmod r2 (2 : Int))), (18, aV 0), (20, .one (.dat (.sl .bool) y34)), (21, aV 1), (153, iV (lenI a1)), (154, iV s40.1)], [(0, .seq .bool s40.2), (1, .seq .bool y38)], 2⟩) (fun (r42 : List Bool) => (.exit 8, ⟨[(18, aV 0)], [(0, .seq .bool r42)], 1⟩)) (Le.re [(1, 0), (3, 1)] [] hX (by kernel_rfl)) hL57 ?_ (fun s40 x43 hx44 hk45 => ?_)
      ·refine (qBlockX (qThen ?_))
       refine HT.rg2 (oHs 2) ⟨[(4, aV 0)], [(0, .seq .bool r41)], 1⟩ hX (by kernel_rfl) aN ?_
       have hr := of_some hr
       subst hr
       exact HT.ret ⟨[aV 0], [0], [], by kernel_rfl, by kernel_rfl, rfl, by kernel_rfl, by kernel_rfl, trivial⟩
      ·refine HT.rg2 [oH] ⟨[(9, iV (Int.tmod r2 (2 : Int))), (18, aV 0), (20, .one (.dat (.sl .bool) y34)), (21, aV 1), (153, iV (lenI a1)), (154, iV s40.1), (155, bV (decide (s40.1 < (lenI a1))))], [(0, .seq .bool s40.2), (1, .seq .bool y38)], 2⟩ hX (by kernel_rfl) aN ?_
       refine HT.seq ?_
       rcases of_bif hx44 with ⟨hb46, hx44⟩ | ⟨hb46, hx44⟩
       ·refine HT.cond1 rfl hb46 ?_
        refine HT.skip (qThen ?_)
        obtain ⟨v47', hT49, hx44⟩ := of_bind hx44
        refine HT.join (fun (v47 : List Bool) => ⟨[(9, iV (Int.tmod r2 (2 : Int))), (18, aV 0), (20, .one (.dat (.sl .bool) y34)), (21, aV 1), (153, iV (lenI a1)), (154, iV s40.1)], [(0, .seq .bool v47), (1, .seq .bool y38)], 2⟩) (fun v => v = v47') (fun v47 hv48 => ?_) (fun cont => ?_)
        ·subst hv48
         have hx44 := of_some hx44
         subst hx44
         exact HT.rgK (oHs 2) [(0, 0), (1, 1)] [] hX (by kernel_rfl) aN (fun _ h => (qLoopN ⟨((wadd .i64 s40.1 (1 : Int)), v47), rfl, h⟩))
        ·refine HT.block ?_
         refine HT.rg2 (oHs 2) ⟨[(9, iV (Int.tmod r2 (2 : Int))), (18, aV 0), (20, .one (.dat (.sl .bool) y34)), (21, aV 1), (22, iV s40.1), (153, iV (lenI a1)), (154, iV s40.1)], [(0, .seq .bool s40.2), (1, .seq .bool y38)], 2⟩ hX (by kernel_rfl) aN ?_
         obtain ⟨hg50, hT49⟩ := of_guard hT49
         rcases of_bif hT49 with ⟨hb51, hT49⟩ | ⟨hb51, hT49⟩
         ·obtain ⟨hg52, hT49⟩ := of_guard hT49
          exact HT.rgK [oH, oH, oH, oH, oH, oH, oH, oT, oT, oT, oT, oT, oH, oH, oT, vT, oH, oH] [(0, 0), (1, 1)] [] hX (by kernel_rfl) (aC hg50 (aC (natLt hg50) (aC hb51 (aC hb51 (aC hb51 (aC hb51 (aC hb51 (aC hb51 (aC hb51 (aC hg52 (aC (natLt hg52) aN))))))))))) (fun _ h => (qBlock (qThen (h.ht (cont (List.set s40.2 (Int.toNat s40.1) true) (of_some hT49))))))
         ·obtain ⟨hg53, hT49⟩ := of_guard hT49
          rcases of_bif hT49 with ⟨hb54, hT49⟩ | ⟨hb54, hT49⟩
          ·obtain ⟨hg55, hT49⟩ := of_guard hT49
           exact HT.rgK [oH, oH, oH, oH, oH, oH, oH, oF, oF, oF, oF, oF, oT, oT, ⟨some false, .tv true⟩, vF, oH, oH] [(0, 0), (1, 1)] [] hX (by kernel_rfl) (aC hg50 (aC (natLt hg50) (aC hb51 (aC hb51 (aC hb51 (aC hg53 (aC hb51 (aC hb51 (aC hb54 (aC hb54 (aC hb51 (aC hb54 (aC hb51 (aC hg55 (aC (natLt hg55) aN))))))))))))))) (fun _ h => (qBlock (qThen (h.ht (cont (List.set s40.2 (Int.toNat s40.1) ((Int.tmod r2 (2 : Int)) == (0 : Int))) (of_some hT49))))))
          ·obtain ⟨hg56, hT49⟩ := of_guard hT49
           exact HT.rgK [oH, oH, oH, oH, oH, oH, oH, oF, oF, oF, oF, oF, oF, oF, ⟨some false, .tv false⟩, vF, oH, oH] [(0, 0), (1, 1)] [] hX (by kernel_rfl) (aC hg50 (aC (natLt hg50) (aC hb51 (aC hb51 (aC hb51 (aC hg53 (aC hb51 (aC hb51 (aC hb54 (aC hb54 (aC hb51 (aC hb54 (aC hb51 (aC hg56 (aC (natLt hg56) aN))))))))))))))) (fun _ h => (qBlock (qThen (h.ht (cont (List.set s40.2 (Int.toNat s40.1) false) (of_some hT49))))))
       ·refine HT.cond0 rfl hb46 ?_
        have hx44 := of_some hx44
        subst hx44
        exact HT.exitL (Le.re [(0, 0)] [] hX (by kernel_rfl)) (qThenE (qLoopE (hk45 s40.2 rfl)))
    ·refine HT.rg2 [oH] ⟨[(0, .one (.ip tG a0 0)), (1, .one (.dat (.sl .bool) a1)), (5, iV (lenI a1)), (9, iV (Int.tmod r2 (2 : Int))), (13, aV 0), (14, aV 1), (15, aV 2), (16, bV s15.1), (91, iV (lenI y11)), (92, iV s15.2.1), (93, bV (decide (s15.2.1 < (lenI y11))))], [(0, .seq .bool y11), (1, .seq .bool y13), (2, .seq .bool s15.2.2)], 3⟩ hX (by kernel_rfl) aN ?_
     refine HT.seq ?_
     rcases of_bif hx59 with ⟨hb61, hx59⟩ | ⟨hb61, hx59⟩
     ·refine HT.cond1 rfl hb61 ?_
      refine HT.skip (qThen ?_)
      obtain ⟨v62', hT64, hx59⟩ := of_bind hx59
      refine HT.join (fun (v62 : Bool × List Bool) => ⟨[(0, .one (.ip tG a0 0)), (1, .one (.dat (.sl .bool) a1)), (5, iV (lenI a1)), (9, iV (Int.tmod r2 (2 : Int))), (13, aV 0), (14, aV 1), (15, aV 2), (16, bV v62.1), (91, iV (lenI y11)), (92, iV s15.2.1)], [(0, .seq .bool y11), (1, .seq .bool y13), (2, .seq .bool v62.2)], 3⟩) (fun v => v = v62') (fun v62 hv63 => ?_) (fun cont => ?_)
      ·subst hv63
       have hx59 := of_some hx59
       subst hx59
       exact HT.rgK (oHs 2) [(0, 0), (1, 1), (2, 2)] [] hX (by kernel_rfl) aN (fun _ h => (qLoopN ⟨(v62.1, (wadd .i64 s15.2.1 (1 : Int)), v62.2), rfl, h⟩))
      ·refine HT.block ?_
       refine HT.rg2 (oHs 2) ⟨[(0, .one (.ip tG a0 0)), (1, .one (.dat (.sl .bool) a1)), (5, iV (lenI a1)), (9, iV (Int.tmod r2 (2 : Int))), (13, aV 0), (14, aV 1), (15, aV 2), (16, bV s15.1), (17, iV s15.2.1), (91, iV (lenI y11)), (92, iV s15.2.1)], [(0, .seq .bool y11), (1, .seq .bool y13), (2, .seq .bool s15.2.2)], 3⟩ hX (by kernel_rfl) aN ?_
       obtain ⟨v65', hT67, hT64⟩ := of_bind hT64
       refine HT.join (fun (v65 : List Bool) => ⟨[(0, .one (.ip tG a0 0)), (1, .one (.dat (.sl .bool) a1)), (5, iV (lenI a1)), (9, iV (Int.tmod r2 (2 : Int))), (13, aV 0), (14, aV 1), (15, aV 2), (16, bV s15.1), (17, iV s15.2.1), (91, iV (lenI y11)), (92, iV s15.2.1)], [(0, .seq .bool y11), (1, .seq .bool y13), (2, .seq .bool v65)], 3⟩) (fun v => v = v65') (fun v65 hv66 => ?_) (fun cont => ?_)
       ·subst hv66
        rcases of_bif hT64 with ⟨hb68, hT64⟩ | ⟨hb68, hT64⟩
        ·exact HT.rgK [oH, oH, oT, oT, oT, oT, vT, oH] [(0, 0), (1, 1), (2, 2)] [] hX (by kernel_rfl) (aC hb68 (aC hb68 (aC hb68 (aC hb68 (aC hb68 aN))))) (fun _ h => (qBlock (qThen (h.ht (cont (true, v65) (of_some hT64))))))
        ·obtain ⟨hg69, hT64⟩ := of_guard hT64
         exact HT.rgK [oH, oH, oF, oF, oF, oF, vF, oH] [(0, 0), (1, 1), (2, 2)] [] hX (by kernel_rfl) (aC hb68 (aC hb68 (aC hb68 (aC hg69 (aC hb68 (aC (natLt hg69) (aC hb68 aN))))))) (fun _ h => (qBlock (qThen (h.ht (cont ((List.getD v65 (Int.toNat s15.2.1) false), v65) (of_some hT64))))))
       ·obtain ⟨hg70, hT67⟩ := of_guard hT67
        rcases of_bif hT67 with ⟨hb71, hT67⟩ | ⟨hb71, hT67⟩
        ·obtain ⟨hg72, hT67⟩ := of_guard hT67
         obtain ⟨hg73, hT67⟩ := of_guard hT67
         exact HT.rgK [oH, oH, oH, oH, oH, oH, oH, oT, oT, oT, oT, oT, oT, oT, vT, oH, oH] [(0, 0), (1, 1), (2, 2)] [] hX (by kernel_rfl) (aC hg70 (aC (natLt hg70) (aC hb71 (aC hb71 (aC hb71 (aC hg72 (aC hb71 (aC (natLt hg72) (aC hb71 (aC hb71 (aC hb71 (aC hb71 (aC hg73 (aC (natLt hg73) aN)))))))))))))) (fun _ h => (qThen (h.ht (cont (List.set s15.2.2 (Int.toNat s15.2.1) ((List.getD y13 (Int.toNat s15.2.1) false) == ((Int.tmod r2 (2 : Int)) == (0 : Int)))) (of_some hT67)))))
        ·obtain ⟨hg74, hT67⟩ := of_guard hT67
         exact HT.rgK [oH, oH, oH, oH, oH, oH, oH, oF, oF, oF, oF, oF, oF, oF, vF, oH, oH] [(0, 0), (1, 1), (2, 2)] [] hX (by kernel_rfl) (aC hg70 (aC (natLt hg70) (aC hb71 (aC hb71 (aC hb71 (aC hb71 (aC hb71 (aC hb71 (aC hb71 (aC hb71 (aC hg74 (aC (natLt hg74) aN)))))))))))) (fun _ h => (qThen (h.ht (cont (List.set s15.2.2 (Int.toNat s15.2.1) false) (of_some hT67)))))
     ·refine HT.cond0 rfl hb61 ?_
      have hx59 := of_some hx59
      subst hx59
      exact HT.exitL (Le.re [(2, 0)] [] hX (by kernel_rfl)) (qThenE (qLoopE (hk60 (s15.1, s15.2.2) rfl)))
   ·refine HT.rg2 [oH] ⟨[(0, .one (.ip tG a0 0)), (1, .one (.dat (.sl .bool) a1)), (5, iV (lenI a1)), (6, iV r2), (9, iV (Int.tmod r2 (2 : Int))), (10, aV 0), (54, iV (lenI a1)), (55, iV s6.1), (56, bV (decide (s6.1 < (lenI a1))))], [(0, .seq .bool s6.2)], 1⟩ hX (by kernel_rfl) aN ?_
    refine HT.seq ?_
    rcases of_bif hx77 with ⟨hb79, hx77⟩ | ⟨hb79, hx77⟩
    ·refine HT.cond1 rfl hb79 ?_
     refine HT.skip (qThen ?_)
     obtain ⟨v80', hT82, hx77⟩ := of_bind hx77
     refine HT.join (fun (v80 : List Bool) => ⟨[(0, .one (.ip tG a0 0)), (1, .one (.dat (.sl .bool) a1)), (5, iV (lenI a1)), (6, iV r2), (9, iV (Int.tmod r2 (2 : Int))), (10, aV 0), (54, iV (lenI a1)), (55, iV s6.1)], [(0, .seq .bool v80)], 1⟩) (fun v => v = v80') (fun v80 hv81 => ?_) (fun cont => ?_)
     ·subst hv81
      have hx77 := of_some hx77
      subst hx77
      exact HT.rgK (oHs 2) [(0, 0)] [] hX (by kernel_rfl) aN (fun _ h => (qLoopN ⟨((wadd .i64 s6.1 (1 : Int)), v80), rfl, h⟩))
     ·refine HT.block ?_
      refine HT.rg2 (oHs 2) ⟨[(0, .one (.ip tG a0 0)), (1, .one (.dat (.sl .bool) a1)), (5, iV (lenI a1)), (6, iV r2), (9, iV (Int.tmod r2 (2 : Int))), (10, aV 0), (11, iV s6.1), (54, iV (lenI a1)), (55, iV s6.1)], [(0, .seq .bool s6.2)], 1⟩ hX (by kernel_rfl) aN ?_
      obtain ⟨hg83, hT82⟩ := of_guard hT82
      rcases of_bif hT82 with ⟨hb84, hT82⟩ | ⟨hb84, hT82⟩
      ·obtain ⟨hg85, hT82⟩ := of_guard hT82
       obtain ⟨hg86, hT82⟩ := of_guard hT82
       exact HT.rgK [oH, oH, oH, oH, oH, oH, oH, oT, oT, oT, oT, oT, oT, oT, oT, oT, vT, oH, oH] [(0, 0)] [] hX (by kernel_rfl) (aC hg83 (aC hb84 (aC hb84 (aC hb84 (aC hb84 (aC hb84 (aC hb84 (aC hg85 (aC hb84 (aC hb84 (aC hb84 (aC hb84 (aC hg86 (aC (natLt hg86) aN)))))))))))))) (fun _ h => (qBlock (qThen (h.ht (cont (List.set s6.2 (Int.toNat s6.1) ((List.getD a0.2.1 (Int.toNat s6.1) (0 : Int)) == r2)) (of_some hT82))))))
      ·obtain ⟨hg87, hT82⟩ := of_guard hT82
       exact HT.rgK [oH, oH, oH, oH, oH, oH, oH, oF, oF, oF, oF, oF, oF, oF, oF, oF, vF, oH, oH] [(0, 0)] [] hX (by kernel_rfl) (aC hg83 (aC hb84 (aC hb84 (aC hb84 (aC hb84 (aC hb84 (aC hb84 (aC hb84 (aC hb84 (aC hb84 (aC hb84 (aC hg87 (aC (natLt hg87) aN))))))))))))) (fun _ h => (qBlock (qThen (h.ht (cont (List.set s6.2 (Int.toNat s6.1) false) (of_some hT82))))))
    ·refine HT.cond0 rfl hb79 ?_
     have hx77 := of_some hx77
     subst hx77
     exact HT.exitL (Le.re [(0, 0)] [] hX (by kernel_rfl)) (qThenE (qLoopE (hk78 s6.2 rfl)))
 ·refine HT.rg2 [oH] ⟨[(0, .one (.ip tG a0 0)), (1, .one (.dat (.sl .bool) a1)), (5, iV (lenI a1)), (6, iV s1.1), (26, iV (lenI a1)), (27, iV s1.2), (28, bV (decide (s1.2 < (lenI a1))))], [], 0⟩ hX (by kernel_rfl) aN ?_
  refine HT.seq ?_
  rcases of_bif hx90 with ⟨hb92, hx90⟩ | ⟨hb92, hx90⟩
  ·refine HT.cond1 rfl hb92 ?_
   refine HT.skip (qThen ?_)
   obtain ⟨v93', hT95, hx90⟩ := of_bind hx90
   refine HT.join (fun (v93 : Int) => ⟨[(0, .one (.ip tG a0 0)), (1, .one (.dat (.sl .bool) a1)), (5, iV (lenI a1)), (6, iV v93), (26, iV (lenI a1)), (27, iV s1.2)], [], 0⟩) (fun v => v = v93') (fun v93 hv94 => ?_) (fun cont => ?_)
   ·subst hv94
    have hx90 := of_some hx90
    subst hx90
    exact HT.rgK (oHs 2) [] [] hX (by kernel_rfl) aN (fun _ h => (qLoopN ⟨(v93, (wadd .i64 s1.2 (1 : Int))), rfl, h⟩))
   ·refine HT.block ?_
    refine HT.rg2 (oHs 2) ⟨[(0, .one (.ip tG a0 0)), (1, .one (.dat (.sl .bool) a1)), (5, iV (lenI a1)), (6, iV s1.1), (7, iV s1.2), (26, iV (lenI a1)), (27, iV s1.2)], [], 0⟩ hX (by kernel_rfl) aN ?_
    obtain ⟨hg96, hT95⟩ := of_guard hT95
    refine HT.rg2 (oHs 4) ⟨[(0, .one (.ip tG a0 0)), (1, .one (.dat (.sl .bool) a1)), (5, iV (lenI a1)), (6, iV s1.1), (7, iV s1.2), (26, iV (lenI a1)), (27, iV s1.2), (33, bV (List.getD a1 (Int.toNat s1.2) false))], [], 0⟩ hX (by kernel_rfl) (aC hg96 aN) ?_
    rcases of_bif hT95 with ⟨hb97, hT95⟩ | ⟨hb97, hT95⟩
    ·refine HT.cond1 rfl hb97 ?_
     obtain ⟨hg98, hT95⟩ := of_guard hT95
     obtain ⟨y99, hc100, hT95⟩ := of_bind hT95
     exact HT.rgK [oH, oH, oH, oH, oH, oH, oH, oH, ⟨none, .call [.imm tI, .imm tI] [⟨false, tI, y99⟩] []⟩, oH] [] [] hX (by kernel_rfl) (aC hg98 (aC (f235_ok hc100) aN)) (fun _ h => (qBlock (qThen (h.ht (cont y99 (of_some hT95))))))
    ·refine HT.cond0 rfl hb97 ?_
     refine HT.skip (qBlock (qThen ?_))
     exact (Le.re [] [] hX (by kernel_rfl)).ht (cont s1.1 (of_some hT95))
  ·refine HT.cond0 rfl hb92 ?_
   have hx90 := of_some hx90
   subst hx90
   exact HT.exitL (Le.re [] [] hX (by kernel_rfl)) (qThenE (qLoopE (hk91 s1.1 rfl)))

noncomputable def spec_l07Win (a0 : TyG) (a1 : List Bool) : Option (List Bool) := recO (fun slv x => spec_l07Win_G slv x.1 x.2) (a0, a1)

theorem f202_ok {a0 : TyG} {a1 : List Bool} {r : List Bool} (hr : spec_l07Win a0 a1 = some r) : CallOK Try.prog 202 [.pimm tG a0, .imm (.sl .bool) a1] [⟨true, (.sl .bool), r⟩] [] :=
 recO_ok (F := fun slv x => spec_l07Win_G slv x.1 x.2) (C := fun x r => CallOK Try.prog 202 [.pimm tG x.1, .imm (.sl .bool) x.2] [⟨true, (.sl .bool), r⟩] []) (fun _ ih _ _ h => f202_okG (fun h => ih _ _ h) h) hr

noncomputable def spec_l07Solve_B1 (y5 : List Bool) (s7 : Int × List Int) : Option ((Int × List Int) ⊕ (List Int)) :=
 bif (decide (s7.1 < (lenI y5))) then
  (show Option (List Int) from
   guardP ((0 : Int) ≤ s7.1 ∧ s7.1 < lenI y5) (
    bif (List.getD y5 (Int.toNat s7.1) false) then
     guardP (List.length s7.2 + List.length ([(1 : Int)] : List Int) ≤ appMax) (
      some (s7.2 ++ ([(1 : Int)] : List Int)))
    else
     guardP (List.length s7.2 + List.length ([(0 : Int)] : List Int) ≤ appMax) (
      some (s7.2 ++ ([(0 : Int)] : List Int))))).bind fun v14 =>
  some (.inl ((wadd .i64 s7.1 (1 : Int)), v14))
 else
  some (.inr s7.2)

noncomputable def spec_l07Solve_B2 (a0 : TyG) (s2 : Int × List Bool) : Option ((Int × List Bool) ⊕ (List Bool)) :=
 bif (decide (s2.1 < (lenI (List.replicate (Int.toNat (lenI a0.1)) false)))) then
  guardP ((0 : Int) ≤ s2.1 ∧ s2.1 < lenI s2.2) (
   some (.inl ((wadd .i64 s2.1 (1 : Int)), (List.set s2.2 (Int.toNat s2.1) true))))
 else
  some (.inr s2.2)

noncomputable def spec_l07Solve (a0 : TyG) : Option (List Int) :=
 guardP ((0 : Int) ≤ (lenI a0.1) ∧ (lenI a0.1) ≤ 4294967296) (
  (rounds (spec_l07Solve_B2 a0) ((0 : Int), (List.replicate (Int.toNat (lenI a0.1)) false))).bind fun r4 =>
  (spec_l07Win (a0.1, a0.2.1, a0.2.2) r4).bind fun y5 =>
  (rounds (spec_l07Solve_B1 y5) ((0 : Int), ([] : List Int))).bind fun r9 =>
  some r9)

theorem f128_ok {a0 : TyG} {r : List Int} (hr : spec_l07Solve a0 = some r) : CallOK Try.prog 128 [.pimm tG a0] [⟨true, tLI, r⟩] [] := by
 unfold spec_l07Solve at hr
 refine CallOK.of_body (ts := [(true, tLI)]) Try.func128 rfl (by kernel_rfl) (Nat.le_of_ble_eq_true (by kernel_rfl)) fun cx hP hN hO hF => ?_
 have hO : cx.own.map Prod.fst = [] := hO
 have hX := CxIs.mk hP hN hO
 have hF := hF rfl
 show HT cx ⟨[(0, .one (.ip tG a0 0))], [], 0⟩ _ _
 refine HT.rg2 [oH] ⟨[(0, .one (.ip tG a0 0))], [], 0⟩ hX (by kernel_rfl) aN ?_
 obtain ⟨hg1, hr⟩ := of_guard hr
 refine HT.rg2 [oH, oH, oH, oH, oH, ⟨none, .ty .bool⟩, oH] ⟨[(0, .one (.ip tG a0 0)), (3, aV 0)], [(0, .seq .bool (List.replicate (Int.toNat (lenI a0.1)) false))], 1⟩ hX (by kernel_rfl) (aC (show (0 : Int) ≤ (lenI a0.1) ∧ (lenI a0.1) ≤ (lenI a0.1) ∧ (lenI a0.1) ≤ 4294967296 from ⟨hg1.1, Int.le_refl _, hg1.2⟩) aN) ?_
 refine HT.seq ?_
 refine HT.rg2 (oHs 3) ⟨[(0, .one (.ip tG a0 0)), (3, aV 0), (15, iV (lenI (List.replicate (Int.toNat (lenI a0.1)) false))), (16, iV (0 : Int))], [(0, .seq .bool (List.replicate (Int.toNat (lenI a0.1)) false))], 1⟩ hX (by kernel_rfl) aN ?_
 refine HT.block ?_
 obtain ⟨r3, hL27, hr⟩ := of_bind hr
 refine HT.loopL (fun (s2 : Int × List Bool) => ⟨[(0, .one (.ip tG a0 0)), (3, aV 0), (15, iV (lenI (List.replicate (Int.toNat (lenI a0.1)) false))), (16, iV s2.1)], [(0, .seq .bool s2.2)], 1⟩) (fun (r4 : List Bool) => (.exit 0, ⟨[(0, .one (.ip tG a0 0)), (3, aV 0)], [(0, .seq .bool r4)], 1⟩)) (Le.re [(0, 0)] [] hX (by kernel_rfl)) hL27 ?_ (fun s2 x22 hx23 hk24 => ?_)
 ·refine (qBlockX (qThen ?_))
  obtain ⟨y5, hc6, hr⟩ := of_bind hr
  refine HT.rg2 [oH, oH, ⟨none, .call [.pimm tG, .imm (.sl .bool)] [⟨true, (.sl .bool), y5⟩] []⟩, oH] ⟨[(5, aV 1)], [(1, .seq .bool y5)], 2⟩ hX (by kernel_rfl) (aC (f202_ok hc6) aN) ?_
  refine HT.rg2 (oHs 2) ⟨[(5, aV 1), (6, .one (.nilS))], [(1, .seq .bool y5)], 2⟩ hX (by kernel_rfl) aN ?_
  refine HT.seq ?_
  refine HT.rg2 (oHs 3) ⟨[(5, aV 1), (6, .one (.nilS)), (28, iV (lenI y5)), (29, iV (0 : Int))], [(1, .seq .bool y5)], 2⟩ hX (by kernel_rfl) aN ?_
  refine HT.block ?_
  obtain ⟨r8, hL21, hr⟩ := of_bind hr
  refine HT.loopL (fun (s7 : Int × List Int) => ⟨[(5, aV 0), (6, aV 1), (28, iV (lenI y5)), (29, iV s7.1)], [(0, .seq .bool y5), (1, .seq tI s7.2)], 2⟩) (fun (r9 : List Int) => (.exit 2, ⟨[(6, aV 0)], [(0, .seq tI r9)], 1⟩)) (Le.re [(1, 0)] [1] hX (by kernel_rfl)) hL21 ?_ (fun s7 x10 hx11 hk12 => ?_)
  ·refine (qBlockX (qThen ?_))
   refine HT.rg2 (oHs 2) ⟨[(2, aV 0)], [(0, .seq tI r8)], 1⟩ hX (by kernel_rfl) aN ?_
   have hr := of_some hr
   subst hr
   exact HT.ret ⟨[aV 0], [0], [], by kernel_rfl, by kernel_rfl, rfl, by kernel_rfl, by kernel_rfl, trivial⟩
  ·refine HT.rg2 [oH] ⟨[(5, aV 0), (6, aV 1), (28, iV (lenI y5)), (29, iV s7.1), (30, bV (decide (s7.1 < (lenI y5))))], [(0, .seq .bool y5), (1, .seq tI s7.2)], 2⟩ hX (by kernel_rfl) aN ?_
   refine HT.seq ?_
   rcases of_bif hx11 with ⟨hb13, hx11⟩ | ⟨hb13, hx11⟩
   ·refine HT.cond1 rfl hb13 ?_
    refine HT.skip (qThen ?_)
    obtain ⟨v14', hT16, hx11⟩ := of_bind hx11
    refine HT.join (fun (v14 : List Int) => ⟨[(5, aV 0), (6, aV 1), (28, iV (lenI y5)), (29, iV s7.1)], [(0, .seq .bool y5), (1, .seq tI v14)], 2⟩) (fun v => v = v14') (fun v14 hv15 => ?_) (fun cont => ?_)
    ·subst hv15
     have hx11 := of_some hx11
     subst hx11
     exact HT.rgK (oHs 2) [(0, 0), (1, 1)] [] hX (by kernel_rfl) aN (fun _ h => (qLoopN ⟨((wadd .i64 s7.1 (1 : Int)), v14), rfl, h⟩))
    ·refine HT.block ?_
     refine HT.rg2 (oHs 2) ⟨[(5, aV 0), (6, aV 1), (7, iV s7.1), (28, iV (lenI y5)), (29, iV s7.1)], [(0, .seq .bool y5), (1, .seq tI s7.2)], 2⟩ hX (by kernel_rfl) aN ?_
     obtain ⟨hg17, hT16⟩ := of_guard hT16
     refine HT.rg2 (oHs 4) ⟨[(5, aV 0), (6, aV 1), (28, iV (lenI y5)), (29, iV s7.1), (35, bV (List.getD y5 (Int.toNat s7.1) false))], [(0, .seq .bool y5), (1, .seq tI s7.2)], 2⟩ hX (by kernel_rfl) (aC hg17 (aC (natLt hg17) aN)) ?_
     rcases of_bif hT16 with ⟨hb18, hT16⟩ | ⟨hb18, hT16⟩
     ·refine HT.cond1 rfl hb18 ?_
      obtain ⟨hg19, hT16⟩ := of_guard hT16
      exact HT.rgK [oH, ⟨none, .ty tI⟩, ⟨none, .ty tI⟩, oH] [(0, 0), (3, 1)] [] hX (by kernel_rfl) (aC hg19 aN) (fun _ h => (qBlock (qThen (h.ht (cont (s7.2 ++ ([(1 : Int)] : List Int)) (of_some hT16))))))
     ·refine HT.cond0 rfl hb18 ?_
      obtain ⟨hg20, hT16⟩ := of_guard hT16
      exact HT.rgK [oH, ⟨none, .ty tI⟩, ⟨none, .ty tI⟩, oH] [(0, 0), (3, 1)] [] hX (by kernel_rfl) (aC hg20 aN) (fun _ h => (qBlock (qThen (h.ht (cont (s7.2 ++ ([(0 : Int)] : List Int)) (of_some hT16))))))
   ·refine HT.cond0 rfl hb13 ?_
    have hx11 := of_some hx11
    subst hx11
    exact HT.exitL (Le.re [(1, 0)] [] hX (by kernel_rfl)) (qThenE (qLoopE (hk12 s7.2 rfl)))
 ·refine HT.rg2 [oH] ⟨[(0, .one (.ip tG a0 0)), (3, aV 0), (15, iV (lenI (List.replicate (Int.toNat (lenI a0.1)) false))), (16, iV s2.1), (17, bV (decide (s2.1 < (lenI (List.replicate (Int.toNat (lenI a0.1)) false)))))], [(0, .seq .bool s2.2)], 1⟩ hX (by kernel_rfl) aN ?_
  refine HT.seq ?_
  rcases of_bif hx23 with ⟨hb25, hx23⟩ | ⟨hb25, hx23⟩
  ·refine HT.cond1 rfl hb25 ?_
   refine HT.skip (qThen ?_)
   refine HT.seq ?_
   refine HT.block ?_
   refine HT.rg2 (oHs 2) ⟨[(0, .one (.ip tG a0 0)), (3, aV 0), (4, iV s2.1), (15, iV (lenI (List.replicate (Int.toNat (lenI a0.1)) false))), (16, iV s2.1)], [(0, .seq .bool s2.2)], 1⟩ hX (by kernel_rfl) aN ?_
   obtain ⟨hg26, hx23⟩ := of_guard hx23
   refine HT.rgL (oHs 4) ⟨[(0, .one (.ip tG a0 0)), (3, aV 0), (15, iV (lenI (List.replicate (Int.toNat (lenI a0.1)) false))), (16, iV s2.1)], [(0, .seq .bool (List.set s2.2 (Int.toNat s2.1) true))], 1⟩ hX (by kernel_rfl) (aC hg26 (aC (natLt hg26) aN)) (qBlock (qThen ?_))
   have hx23 := of_some hx23
   subst hx23
   exact HT.rgK (oHs 2) [(0, 0)] [] hX (by kernel_rfl) aN (fun _ h => (qLoopN ⟨((wadd .i64 s2.1 (1 : Int)), (List.set s2.2 (Int.toNat s2.1) true)), rfl, h⟩))
  ·refine HT.cond0 rfl hb25 ?_
   have hx23 := of_some hx23
   subst hx23
   exact HT.exitL (Le.re [(0, 0)] [] hX (by kernel_rfl)) (qThenE (qLoopE (hk24 s2.2 rfl)))

noncomputable def spec_SolveGame (a0 : TyG) : Option (List Int × Bool) :=
 (spec_l07Game (a0.1, a0.2.1, a0.2.2)).bind fun y1 =>
 bif (!y1) then
  some (([] : List Int), false)
 else
  (spec_l07Solve (a0.1, a0.2.1, a0.2.2)).bind fun y4 =>
  some (y4, true)

theorem f48_ok {a0 : TyG} {r : List Int × Bool} (hr : spec_SolveGame a0 = some r) : CallOK Try.prog 48 [.imm tG a0] [⟨true, tLI, r.1⟩, ⟨false, .bool, r.2⟩] [] := by
 unfold spec_SolveGame at hr
 refine CallOK.of_body (ts := [(true, tLI), (false, .bool)]) Try.func48 rfl (by kernel_rfl) (Nat.le_of_ble_eq_true (by kernel_rfl)) fun cx hP hN hO hF => ?_
 have hO : cx.own.map Prod.fst = [] := hO
 have hX := CxIs.mk hP hN hO
 have hF := hF rfl
 show HT cx ⟨[(0, .agg [nC a0.1, nC a0.2.1, .dat (.sl tLI) a0.2.2])], [], 0⟩ _ _
 refine HT.rg2 (oHs 3) ⟨[(1, pV 0 0)], [(0, .box [nC a0.1, nC a0.2.1, .dat (.sl tLI) a0.2.2])], 1⟩ hX (by kernel_rfl) aN ?_
 refine HT.seq ?_
 obtain ⟨y1, hc2, hr⟩ := of_bind hr
 refine HT.rg2 [⟨none, .call [.pimm tG] [⟨false, .bool, y1⟩] []⟩, oH] ⟨[(1, pV 0 0), (5, bV (!y1))], [(0, .box [nC a0.1, nC a0.2.1, .dat (.sl tLI) a0.2.2])], 1⟩ hX (by kernel_rfl) (aC (f127_ok hc2) aN) ?_
 rcases of_bif hr with ⟨hb3, hr⟩ | ⟨hb3, hr⟩
 ·refine HT.cond1 rfl hb3 ?_
  refine HT.rg2 (oHs 2) ⟨[(2, .one (.nilS)), (3, bV false)], [], 1⟩ hX (by kernel_rfl) aN ?_
  have hr := of_some hr
  subst hr
  exact HT.ret (qThenR ⟨[.one (.nilS), bV false], [], [], by kernel_rfl, by kernel_rfl, rfl, by kernel_rfl, by kernel_rfl, trivial⟩)
 ·refine HT.cond0 rfl hb3 ?_
  refine HT.skip (qThen ?_)
  obtain ⟨y4, hc5, hr⟩ := of_bind hr
  refine HT.rg2 [⟨none, .call [.pimm tG] [⟨true, tLI, y4⟩] []⟩, oH, oH] ⟨[(2, aV 1), (3, bV true)], [(1, .seq tI y4)], 2⟩ hX (by kernel_rfl) (aC (f128_ok hc5) aN) ?_
  have hr := of_some hr
  subst hr
  exact HT.ret ⟨[aV 1, bV true], [1], [], by kernel_rfl, by kernel_rfl, rfl, by kernel_rfl, by kernel_rfl, trivial⟩

theorem f129_ok {xs y : List (List Int)} (h : slices_Clone xs = some y) : CallOK Try.prog 129 [.imm (.sl tLI) xs] [⟨true, (.sl tLI), y⟩] [] := by
 obtain ⟨hg, h⟩ := of_guard h
 have h := of_some h
 subst h
 refine CallOK.of_body (ts := [(true, (.sl tLI))]) Try.func129 rfl (by kernel_rfl) (Nat.le_of_ble_eq_true (by kernel_rfl)) fun cx hP hN hO hF => ?_
 show HT cx ⟨[(0, .one (.dat (.sl tLI) xs))], [], 0⟩ _ _
 refine HT.reg1 [0] [⟨none, .no⟩] ⟨[(0, .one (.dat (.sl tLI) xs))], [], 0⟩ hP hN (by kernel_rfl) aN ?_
 refine HT.seq ?_
 refine HT.isNil (t3 := 3) (t4 := 4) (v := .one (.dat (.sl tLI) xs)) (t := tLI) (xs := xs) (st1 := ⟨[(3, .one (.dat (.sl tLI) xs)), (0, .one (.dat (.sl tLI) xs))], [], 0⟩) hP hN (by kernel_rfl) rfl rfl rfl rfl (e := 29) (by kernel_rfl) rfl rfl (fun b hb => ?_)
 show HT cx ⟨[(4, .one (.dat .bool b)), (3, .one (.dat (.sl tLI) xs)), (0, .one (.dat (.sl tLI) xs))], [], 0⟩ _ _
 cases b with
 | true =>
  have e := hb rfl
  subst e
  refine HT.cond1 rfl rfl ?_
  refine HT.reg1 [2] [⟨none, .no⟩] ⟨[(2, .one .nilS)], [], 0⟩ hP hN (by kernel_rfl) aN ?_
  exact HT.ret (qThenR ⟨[.one .nilS], [], [], by kernel_rfl, by kernel_rfl, rfl, by kernel_rfl, by kernel_rfl, trivial⟩)
 | false =>
  refine HT.cond0 rfl rfl ?_
  refine HT.skip (qThen ?_)
  refine HT.reg1 [2] [⟨none, .no⟩, ⟨none, .no⟩, ⟨none, .ty tLI⟩, ⟨none, .no⟩] ⟨[(2, .one (.all 0))], [(0, .seq tLI xs)], 1⟩ hP hN (by kernel_rfl) (aC hg aN) ?_
  exact HT.ret ⟨[.one (.all 0)], [0], [], by kernel_rfl, by kernel_rfl, rfl, by kernel_rfl, by kernel_rfl, trivial⟩

noncomputable def math_bits_Mul64 (a0 : Int) (a1 : Int) : Option (Int × Int) :=
 (some (IntKind.wrap .u64 (BitVec.ofInt (IntKind.bits .u64) a0 &&& BitVec.ofInt (IntKind.bits .u64) (4294967295 : Int)).toNat)).bind fun q1 =>
 (some (IntKind.wrap .u64 (BitVec.ofInt (IntKind.bits .u64) a1 &&& BitVec.ofInt (IntKind.bits .u64) (4294967295 : Int)).toNat)).bind fun q3 =>
 (some (wadd .u64 (wmul .u64 (Int.fdiv a0 (2 ^ (min (Int.toNat (32 : Int)) (IntKind.bits .u64)))) q3) (Int.fdiv (wmul .u64 q1 q3) (2 ^ (min (Int.toNat (32 : Int)) (IntKind.bits .u64)))))).bind fun q5 =>
 (some (IntKind.wrap .u64 (BitVec.ofInt (IntKind.bits .u64) q5 &&& BitVec.ofInt (IntKind.bits .u64) (4294967295 : Int)).toNat)).bind fun q7 =>
 (some (wadd .u64 q7 (wmul .u64 q1 (Int.fdiv a1 (2 ^ (min (Int.toNat (32 : Int)) (IntKind.bits .u64))))))).bind fun q9 =>
 (some (wadd .u64 (wadd .u64 (wmul .u64 (Int.fdiv a0 (2 ^ (min (Int.toNat (32 : Int)) (IntKind.bits .u64)))) (Int.fdiv a1 (2 ^ (min (Int.toNat (32 : Int)) (IntKind.bits .u64))))) (Int.fdiv q5 (2 ^ (min (Int.toNat (32 : Int)) (IntKind.bits .u64))))) (Int.fdiv q9 (2 ^ (min (Int.toNat (32 : Int)) (IntKind.bits .u64)))))).bind fun q11 =>
 some (q11, (wmul .u64 a0 a1))

theorem f240_ok {a0 : Int} {a1 : Int} {r : Int × Int} (hr : math_bits_Mul64 a0 a1 = some r) : CallOK Try.prog 240 [.imm (.int .u64) a0, .imm (.int .u64) a1] [⟨false, (.int .u64), r.1⟩, ⟨false, (.int .u64), r.2⟩] [] := by
 unfold math_bits_Mul64 at hr
 refine CallOK.of_body (ts := [(false, (.int .u64)), (false, (.int .u64))]) Try.func240 rfl (by kernel_rfl) (Nat.le_of_ble_eq_true (by kernel_rfl)) fun cx hP hN hO hF => ?_
 have hO : cx.own.map Prod.fst = [] := hO
 have hX := CxIs.mk hP hN hO
 have hF := hF rfl
 show HT cx ⟨[(0, .one (.dat (.int .u64) a0)), (1, .one (.dat (.int .u64) a1))], [], 0⟩ _ _
 refine HT.rg2 (oHs 2) ⟨[(0, .one (.dat (.int .u64) a0)), (1, .one (.dat (.int .u64) a1))], [], 0⟩ hX (by kernel_rfl) aN ?_
 refine HT.rg2 (oHs 3) ⟨[(0, .one (.dat (.int .u64) a0)), (1, .one (.dat (.int .u64) a1)), (6, .one (.dat (.int .u64) (IntKind.wrap .u64 (BitVec.ofInt (IntKind.bits .u64) a0 &&& BitVec.ofInt (IntKind.bits .u64) (4294967295 : Int)).toNat)))], [], 0⟩ hX (by kernel_rfl) aN ?_
 obtain ⟨q1, hq2, hr⟩ := of_bind hr
 have hq2 := of_some2 hq2
 refine (Le.cv (s := ⟨[], [], [], false⟩) (own := []) (ps := [a0 = a0, a1 = a1, q1 = (IntKind.wrap .u64 (BitVec.ofInt (IntKind.bits .u64) a0 &&& BitVec.ofInt (IntKind.bits .u64) (4294967295 : Int)).toNat)]) (st' := ⟨[(0, .one (.dat (.int .u64) a0)), (1, .one (.dat (.int .u64) a1)), (6, .one (.dat (.int .u64) q1))], [], 0⟩) hO (fun h => by cases h) (by kernel_rfl) ⟨rfl, rfl, hq2, trivial⟩).ht ?_
 refine HT.rg2 (oHs 3) ⟨[(0, .one (.dat (.int .u64) a0)), (1, .one (.dat (.int .u64) a1)), (6, .one (.dat (.int .u64) q1)), (7, .one (.dat (.int .u64) (Int.fdiv a0 (2 ^ (min (Int.toNat (32 : Int)) (IntKind.bits .u64))))))], [], 0⟩ hX (by kernel_rfl) (aC (show (0 : Int) ≤ (32 : Int) from by decide) aN) ?_
 refine HT.rg2 (oHs 3) ⟨[(0, .one (.dat (.int .u64) a0)), (1, .one (.dat (.int .u64) a1)), (6, .one (.dat (.int .u64) q1)), (7, .one (.dat (.int .u64) (Int.fdiv a0 (2 ^ (min (Int.toNat (32 : Int)) (IntKind.bits .u64)))))), (8, .one (.dat (.int .u64) (IntKind.wrap .u64 (BitVec.ofInt (IntKind.bits .u64) a1 &&& BitVec.ofInt (IntKind.bits .u64) (4294967295 : Int)).toNat)))], [], 0⟩ hX (by kernel_rfl) aN ?_
 obtain ⟨q3, hq4, hr⟩ := of_bind hr
 have hq4 := of_some2 hq4
 refine (Le.cv (s := ⟨[], [], [], false⟩) (own := []) (ps := [a0 = a0, a1 = a1, q1 = q1, (Int.fdiv a0 (2 ^ (min (Int.toNat (32 : Int)) (IntKind.bits .u64)))) = (Int.fdiv a0 (2 ^ (min (Int.toNat (32 : Int)) (IntKind.bits .u64)))), q3 = (IntKind.wrap .u64 (BitVec.ofInt (IntKind.bits .u64) a1 &&& BitVec.ofInt (IntKind.bits .u64) (4294967295 : Int)).toNat)]) (st' := ⟨[(0, .one (.dat (.int .u64) a0)), (1, .one (.dat (.int .u64) a1)), (6, .one (.dat (.int .u64) q1)), (7, .one (.dat (.int .u64) (Int.fdiv a0 (2 ^ (min (Int.toNat (32 : Int)) (IntKind.bits .u64)))))), (8, .one (.dat (.int .u64) q3))], [], 0⟩) hO (fun h => by cases h) (by kernel_rfl) ⟨rfl, rfl, rfl, rfl, hq4, trivial⟩).ht ?_
 refine HT.rg2 (oHs 3) ⟨[(0, .one (.dat (.int .u64) a0)), (1, .one (.dat (.int .u64) a1)), (6, .one (.dat (.int .u64) q1)), (7, .one (.dat (.int .u64) (Int.fdiv a0 (2 ^ (min (Int.toNat (32 : Int)) (IntKind.bits .u64)))))), (8, .one (.dat (.int .u64) q3)), (9, .one (.dat (.int .u64) (Int.fdiv a1 (2 ^ (min (Int.toNat (32 : Int)) (IntKind.bits .u64))))))], [], 0⟩ hX (by kernel_rfl) (aC (show (0 : Int) ≤ (32 : Int) from by decide) aN) ?_
 refine HT.rg2 (oHs 4) ⟨[(0, .one (.dat (.int .u64) a0)), (1, .one (.dat (.int .u64) a1)), (6, .one (.dat (.int .u64) q1)), (7, .one (.dat (.int .u64) (Int.fdiv a0 (2 ^ (min (Int.toNat (32 : Int)) (IntKind.bits .u64)))))), (8, .one (.dat (.int .u64) q3)), (9, .one (.dat (.int .u64) (Int.fdiv a1 (2 ^ (min (Int.toNat (32 : Int)) (IntKind.bits .u64)))))), (10, .one (.dat (.int .u64) (wmul .u64 q1 q3)))], [], 0⟩ hX (by kernel_rfl) aN ?_
 refine HT.rg2 (oHs 7) ⟨[(0, .one (.dat (.int .u64) a0)), (1, .one (.dat (.int .u64) a1)), (6, .one (.dat (.int .u64) q1)), (7, .one (.dat (.int .u64) (Int.fdiv a0 (2 ^ (min (Int.toNat (32 : Int)) (IntKind.bits .u64)))))), (9, .one (.dat (.int .u64) (Int.fdiv a1 (2 ^ (min (Int.toNat (32 : Int)) (IntKind.bits .u64)))))), (11, .one (.dat (.int .u64) (wadd .u64 (wmul .u64 (Int.fdiv a0 (2 ^ (min (Int.toNat (32 : Int)) (IntKind.bits .u64)))) q3) (Int.fdiv (wmul .u64 q1 q3) (2 ^ (min (Int.toNat (32 : Int)) (IntKind.bits .u64)))))))], [], 0⟩ hX (by kernel_rfl) (aC (show (0 : Int) ≤ (32 : Int) from by decide) aN) ?_
 obtain ⟨q5, hq6, hr⟩ := of_bind hr
 have hq6 := of_some2 hq6
 refine (Le.cv (s := ⟨[], [], [], false⟩) (own := []) (ps := [a0 = a0, a1 = a1, q1 = q1, (Int.fdiv a0 (2 ^ (min (Int.toNat (32 : Int)) (IntKind.bits .u64)))) = (Int.fdiv a0 (2 ^ (min (Int.toNat (32 : Int)) (IntKind.bits .u64)))), (Int.fdiv a1 (2 ^ (min (Int.toNat (32 : Int)) (IntKind.bits .u64)))) = (Int.fdiv a1 (2 ^ (min (Int.toNat (32 : Int)) (IntKind.bits .u64)))), q5 = (wadd .u64 (wmul .u64 (Int.fdiv a0 (2 ^ (min (Int.toNat (32 : Int)) (IntKind.bits .u64)))) q3) (Int.fdiv (wmul .u64 q1 q3) (2 ^ (min (Int.toNat (32 : Int)) (IntKind.bits .u64)))))]) (st' := ⟨[(0, .one (.dat (.int .u64) a0)), (1, .one (.dat (.int .u64) a1)), (6, .one (.dat (.int .u64) q1)), (7, .one (.dat (.int .u64) (Int.fdiv a0 (2 ^ (min (Int.toNat (32 : Int)) (IntKind.bits .u64)))))), (9, .one (.dat (.int .u64) (Int.fdiv a1 (2 ^ (min (Int.toNat (32 : Int)) (IntKind.bits .u64)))))), (11, .one (.dat (.int .u64) q5))], [], 0⟩) hO (fun h => by cases h) (by kernel_rfl) ⟨rfl, rfl, rfl, rfl, rfl, hq6, trivial⟩).ht ?_
 refine HT.rg2 (oHs 3) ⟨[(0, .one (.dat (.int .u64) a0)), (1, .one (.dat (.int .u64) a1)), (6, .one (.dat (.int .u64) q1)), (7, .one (.dat (.int .u64) (Int.fdiv a0 (2 ^ (min (Int.toNat (32 : Int)) (IntKind.bits .u64)))))), (9, .one (.dat (.int .u64) (Int.fdiv a1 (2 ^ (min (Int.toNat (32 : Int)) (IntKind.bits .u64)))))), (11, .one (.dat (.int .u64) q5)), (12, .one (.dat (.int .u64) (IntKind.wrap .u64 (BitVec.ofInt (IntKind.bits .u64) q5 &&& BitVec.ofInt (IntKind.bits .u64) (4294967295 : Int)).toNat)))], [], 0⟩ hX (by kernel_rfl) aN ?_
 obtain ⟨q7, hq8, hr⟩ := of_bind hr
 have hq8 := of_some2 hq8
 refine (Le.cv (s := ⟨[], [], [], false⟩) (own := []) (ps := [a0 = a0, a1 = a1, q1 = q1, (Int.fdiv a0 (2 ^ (min (Int.toNat (32 : Int)) (IntKind.bits .u64)))) = (Int.fdiv a0 (2 ^ (min (Int.toNat (32 : Int)) (IntKind.bits .u64)))), (Int.fdiv a1 (2 ^ (min (Int.toNat (32 : Int)) (IntKind.bits .u64)))) = (Int.fdiv a1 (2 ^ (min (Int.toNat (32 : Int)) (IntKind.bits .u64)))), q5 = q5, q7 = (IntKind.wrap .u64 (BitVec.ofInt (IntKind.bits .u64) q5 &&& BitVec.ofInt (IntKind.bits .u64) (4294967295 : Int)).toNat)]) (st' := ⟨[(0, .one (.dat (.int .u64) a0)), (1, .one (.dat (.int .u64) a1)), (6, .one (.dat (.int .u64) q1)), (7, .one (.dat (.int .u64) (Int.fdiv a0 (2 ^ (min (Int.toNat (32 : Int)) (IntKind.bits .u64)))))), (9, .one (.dat (.int .u64) (Int.fdiv a1 (2 ^ (min (Int.toNat (32 : Int)) (IntKind.bits .u64)))))), (11, .one (.dat (.int .u64) q5)), (12, .one (.dat (.int .u64) q7))], [], 0⟩) hO (fun h => by cases h) (by kernel_rfl) ⟨rfl, rfl, rfl, rfl, rfl, rfl, hq8, trivial⟩).ht ?_
 refine HT.rg2 (oHs 3) ⟨[(0, .one (.dat (.int .u64) a0)), (1, .one (.dat (.int .u64) a1)), (6, .one (.dat (.int .u64) q1)), (7, .one (.dat (.int .u64) (Int.fdiv a0 (2 ^ (min (Int.toNat (32 : Int)) (IntKind.bits .u64)))))), (9, .one (.dat (.int .u64) (Int.fdiv a1 (2 ^ (min (Int.toNat (32 : Int)) (IntKind.bits .u64)))))), (12, .one (.dat (.int .u64) q7)), (13, .one (.dat (.int .u64) (Int.fdiv q5 (2 ^ (min (Int.toNat (32 : Int)) (IntKind.bits .u64))))))], [], 0⟩ hX (by kernel_rfl) (aC (show (0 : Int) ≤ (32 : Int) from by decide) aN) ?_
 refine HT.rg2 (oHs 6) ⟨[(0, .one (.dat (.int .u64) a0)), (1, .one (.dat (.int .u64) a1)), (7, .one (.dat (.int .u64) (Int.fdiv a0 (2 ^ (min (Int.toNat (32 : Int)) (IntKind.bits .u64)))))), (9, .one (.dat (.int .u64) (Int.fdiv a1 (2 ^ (min (Int.toNat (32 : Int)) (IntKind.bits .u64)))))), (12, .one (.dat (.int .u64) (wadd .u64 q7 (wmul .u64 q1 (Int.fdiv a1 (2 ^ (min (Int.toNat (32 : Int)) (IntKind.bits .u64)))))))), (13, .one (.dat (.int .u64) (Int.fdiv q5 (2 ^ (min (Int.toNat (32 : Int)) (IntKind.bits .u64))))))], [], 0⟩ hX (by kernel_rfl) aN ?_
 obtain ⟨q9, hq10, hr⟩ := of_bind hr
 have hq10 := of_some2 hq10
 refine (Le.cv (s := ⟨[], [], [], false⟩) (own := []) (ps := [a0 = a0, a1 = a1, (Int.fdiv a0 (2 ^ (min (Int.toNat (32 : Int)) (IntKind.bits .u64)))) = (Int.fdiv a0 (2 ^ (min (Int.toNat (32 : Int)) (IntKind.bits .u64)))), (Int.fdiv a1 (2 ^ (min (Int.toNat (32 : Int)) (IntKind.bits .u64)))) = (Int.fdiv a1 (2 ^ (min (Int.toNat (32 : Int)) (IntKind.bits .u64)))), q9 = (wadd .u64 q7 (wmul .u64 q1 (Int.fdiv a1 (2 ^ (min (Int.toNat (32 : Int)) (IntKind.bits .u64)))))), (Int.fdiv q5 (2 ^ (min (Int.toNat (32 : Int)) (IntKind.bits .u64)))) = (Int.fdiv q5 (2 ^ (min (Int.toNat (32 : Int)) (IntKind.bits .u64))))]) (st' := ⟨[(0, .one (.dat (.int .u64) a0)), (1, .one (.dat (.int .u64) a1)), (7, .one (.dat (.int .u64) (Int.fdiv a0 (2 ^ (min (Int.toNat (32 : Int)) (IntKind.bits .u64)))))), (9, .one (.dat (.int .u64) (Int.fdiv a1 (2 ^ (min (Int.toNat (32 : Int)) (IntKind.bits .u64)))))), (12, .one (.dat (.int .u64) q9)), (13, .one (.dat (.int .u64) (Int.fdiv q5 (2 ^ (min (Int.toNat (32 : Int)) (IntKind.bits .u64))))))], [], 0⟩) hO (fun h => by cases h) (by kernel_rfl) ⟨rfl, rfl, rfl, rfl, hq10, rfl, trivial⟩).ht ?_
 refine HT.rg2 (oHs 9) ⟨[(0, .one (.dat (.int .u64) a0)), (1, .one (.dat (.int .u64) a1)), (4, .one (.dat (.int .u64) (wadd .u64 (wadd .u64 (wmul .u64 (Int.fdiv a0 (2 ^ (min (Int.toNat (32 : Int)) (IntKind.bits .u64)))) (Int.fdiv a1 (2 ^ (min (Int.toNat (32 : Int)) (IntKind.bits .u64))))) (Int.fdiv q5 (2 ^ (min (Int.toNat (32 : Int)) (IntKind.bits .u64))))) (Int.fdiv q9 (2 ^ (min (Int.toNat (32 : Int)) (IntKind.bits .u64)))))))], [], 0⟩ hX (by kernel_rfl) (aC (show (0 : Int) ≤ (32 : Int) from by decide) aN) ?_
 obtain ⟨q11, hq12, hr⟩ := of_bind hr
 have hq12 := of_some2 hq12
 refine (Le.cv (s := ⟨[], [], [], false⟩) (own := []) (ps := [a0 = a0, a1 = a1, q11 = (wadd .u64 (wadd .u64 (wmul .u64 (Int.fdiv a0 (2 ^ (min (Int.toNat (32 : Int)) (IntKind.bits .u64)))) (Int.fdiv a1 (2 ^ (min (Int.toNat (32 : Int)) (IntKind.bits .u64))))) (Int.fdiv q5 (2 ^ (min (Int.toNat (32 : Int)) (IntKind.bits .u64))))) (Int.fdiv q9 (2 ^ (min (Int.toNat (32 : Int)) (IntKind.bits .u64)))))]) (st' := ⟨[(0, .one (.dat (.int .u64) a0)), (1, .one (.dat (.int .u64) a1)), (4, .one (.dat (.int .u64) q11))], [], 0⟩) hO (fun h => by cases h) (by kernel_rfl) ⟨rfl, rfl, hq12, trivial⟩).ht ?_
 refine HT.rg2 (oHs 4) ⟨[(4, .one (.dat (.int .u64) q11)), (5, .one (.dat (.int .u64) (wmul .u64 a0 a1)))], [], 0⟩ hX (by kernel_rfl) aN ?_
 have hr := of_some hr
 subst hr
 exact HT.ret ⟨[.one (.dat (.int .u64) q11), .one (.dat (.int .u64) (wmul .u64 a0 a1))], [], [], by kernel_rfl, by kernel_rfl, rfl, by kernel_rfl, by kernel_rfl, trivial⟩

noncomputable def math_bits_Mul (a0 : Int) (a1 : Int) : Option (Int × Int) :=
 (math_bits_Mul64 a0 a1).bind fun y1 =>
 some (y1.1, y1.2)

theorem f217_ok {a0 : Int} {a1 : Int} {r : Int × Int} (hr : math_bits_Mul a0 a1 = some r) : CallOK Try.prog 217 [.imm (.int .u64) a0, .imm (.int .u64) a1] [⟨false, (.int .u64), r.1⟩, ⟨false, (.int .u64), r.2⟩] [] := by
 unfold math_bits_Mul at hr
 refine CallOK.of_body (ts := [(false, (.int .u64)), (false, (.int .u64))]) Try.func217 rfl (by kernel_rfl) (Nat.le_of_ble_eq_true (by kernel_rfl)) fun cx hP hN hO hF => ?_
 have hO : cx.own.map Prod.fst = [] := hO
 have hX := CxIs.mk hP hN hO
 have hF := hF rfl
 show HT cx ⟨[(0, .one (.dat (.int .u64) a0)), (1, .one (.dat (.int .u64) a1))], [], 0⟩ _ _
 refine HT.rg2 (oHs 2) ⟨[(0, .one (.dat (.int .u64) a0)), (1, .one (.dat (.int .u64) a1))], [], 0⟩ hX (by kernel_rfl) aN ?_
 refine HT.seq ?_
 refine HT.cond0 rfl (rfl : false = false) ?_
 refine HT.skip (qThen ?_)
 obtain ⟨y1, hc2, hr⟩ := of_bind hr
 refine HT.rg2 [oH, oH, ⟨none, .call [.imm (.int .u64), .imm (.int .u64)] [⟨false, (.int .u64), y1.1⟩, ⟨false, (.int .u64), y1.2⟩] []⟩, oH, oH, oH, oH, oH] ⟨[(8, .one (.dat (.int .u64) y1.1)), (9, .one (.dat (.int .u64) y1.2))], [], 0⟩ hX (by kernel_rfl) (aC (f240_ok hc2) aN) ?_
 refine HT.rg2 (oHs 4) ⟨[(4, .one (.dat (.int .u64) y1.1)), (5, .one (.dat (.int .u64) y1.2))], [], 0⟩ hX (by kernel_rfl) aN ?_
 have hr := of_some hr
 subst hr
 exact HT.ret ⟨[.one (.dat (.int .u64) y1.1), .one (.dat (.int .u64) y1.2)], [], [], by kernel_rfl, by kernel_rfl, rfl, by kernel_rfl, by kernel_rfl, trivial⟩

noncomputable def slices_Repeat___int64_int64_B1  (s13 : Int × List Int) : Option ((Int × List Int) ⊕ (List Int)) :=
 bif (decide (s13.1 < (lenI s13.2))) then
  guardP ((0 : Int) ≤ s13.1 ∧ s13.1 ≤ lenI s13.2) (
   some (.inl ((wadd .i64 s13.1 ((Nat.min (List.length (List.take (Int.toNat s13.1) (List.drop 0 s13.2))) (Int.toNat (lenI s13.2) - Int.toNat s13.1) : Nat) : Int)), (List.take (Int.toNat s13.1) s13.2 ++ List.take (Nat.min (List.length (List.take (Int.toNat s13.1) (List.drop 0 s13.2))) (Int.toNat (lenI s13.2) - Int.toNat s13.1)) (List.take (Int.toNat s13.1) (List.drop 0 s13.2)) ++ List.drop ((Int.toNat s13.1) + Nat.min (List.length (List.take (Int.toNat s13.1) (List.drop 0 s13.2))) (Int.toNat (lenI s13.2) - Int.toNat s13.1)) s13.2))))
 else
  some (.inr s13.2)

noncomputable def slices_Repeat___int64_int64 (a0 : List Int) (a1 : Int) : Option (List Int) :=
 bif (decide (a1 < (0 : Int))) then
  none
 else
  (math_bits_Mul (IntKind.wrap .u64 (lenI a0)) (IntKind.wrap .u64 a1)).bind fun y2 =>
  (show Option (Bool) from
   bif (decide (y2.1 > (0 : Int))) then
    some true
   else
    some (decide (y2.2 > (9223372036854775807 : Int)))).bind fun v4 =>
  bif v4 then
   none
  else
   guardP ((0 : Int) ≤ (IntKind.wrap .i64 y2.2) ∧ (IntKind.wrap .i64 y2.2) ≤ 4294967296) (
    (some ((Nat.min (List.length a0) (List.length (List.replicate (Int.toNat (IntKind.wrap .i64 y2.2)) (0 : Int))) : Nat) : Int)).bind fun q9 =>
    (some (List.take 0 (List.replicate (Int.toNat (IntKind.wrap .i64 y2.2)) (0 : Int)) ++ List.take (Nat.min (List.length a0) (List.length (List.replicate (Int.toNat (IntKind.wrap .i64 y2.2)) (0 : Int)))) a0 ++ List.drop (0 + Nat.min (List.length a0) (List.length (List.replicate (Int.toNat (IntKind.wrap .i64 y2.2)) (0 : Int)))) (List.replicate (Int.toNat (IntKind.wrap .i64 y2.2)) (0 : Int)))).bind fun q11 =>
    (rounds (slices_Repeat___int64_int64_B1) (q9, q11)).bind fun r15 =>
    some r15)

theorem f203_ok {a0 : List Int} {a1 : Int} {r : List Int} (hr : slices_Repeat___int64_int64 a0 a1 = some r) : CallOK Try.prog 203 [.imm tLI a0, .imm tI a1] [⟨true, tLI, r⟩] [] := by
 unfold slices_Repeat___int64_int64 at hr
 refine CallOK.of_body (ts := [(true, tLI)]) Try.func203 rfl (by kernel_rfl) (Nat.le_of_ble_eq_true (by kernel_rfl)) fun cx hP hN hO hF => ?_
 have hO : cx.own.map Prod.fst = [] := hO
 have hX := CxIs.mk hP hN hO
 have hF := hF rfl
 show HT cx ⟨[(0, nV a0), (1, iV a1)], [], 0⟩ _ _
 refine HT.rg2 [oH] ⟨[(0, nV a0), (1, iV a1)], [], 0⟩ hX (by kernel_rfl) aN ?_
 refine HT.seq ?_
 refine HT.rg2 (oHs 2) ⟨[(0, nV a0), (1, iV a1), (10, bV (decide (a1 < (0 : Int))))], [], 0⟩ hX (by kernel_rfl) aN ?_
 rcases of_bif hr with ⟨hb1, hr⟩ | ⟨hb1, hr⟩
 ·refine HT.cond1 rfl hb1 ?_
  cases hr
 ·refine HT.cond0 rfl hb1 ?_
  refine HT.skip (qThen ?_)
  obtain ⟨y2, hc3, hr⟩ := of_bind hr
  refine HT.rg2 [oH, oH, oH, oH, oH, ⟨none, .call [.imm (.int .u64), .imm (.int .u64)] [⟨false, (.int .u64), y2.1⟩, ⟨false, (.int .u64), y2.2⟩] []⟩, oH, oH, oH, oH, oH] ⟨[(0, nV a0), (5, .one (.dat (.int .u64) y2.1)), (6, .one (.dat (.int .u64) y2.2))], [], 0⟩ hX (by kernel_rfl) (aC (f217_ok hc3) aN) ?_
  refine HT.seq ?_
  obtain ⟨v4', hT6, hr⟩ := of_bind hr
  refine HT.join (fun (v4 : Bool) => ⟨[(0, nV a0), (6, .one (.dat (.int .u64) y2.2)), (26, bV v4)], [], 0⟩) (fun v => v = v4') (fun v4 hv5 => ?_) (fun cont => ?_)
  ·subst hv5
   rcases of_bif hr with ⟨hb7, hr⟩ | ⟨hb7, hr⟩
   ·refine HT.cond1 rfl hb7 ?_
    cases hr
   ·refine HT.cond0 rfl hb7 ?_
    refine HT.skip (qThen ?_)
    obtain ⟨hg8, hr⟩ := of_guard hr
    refine HT.rg2 [oH, oH, ⟨none, .ty tI⟩, oH] ⟨[(0, nV a0), (7, aV 0)], [(0, .seq tI (List.replicate (Int.toNat (IntKind.wrap .i64 y2.2)) (0 : Int)))], 1⟩ hX (by kernel_rfl) (aC (show (0 : Int) ≤ (IntKind.wrap .i64 y2.2) ∧ (IntKind.wrap .i64 y2.2) ≤ (IntKind.wrap .i64 y2.2) ∧ (IntKind.wrap .i64 y2.2) ≤ 4294967296 from ⟨hg8.1, Int.le_refl _, hg8.2⟩) aN) ?_
    refine HT.rg2 (oHs 4) ⟨[(7, aV 0), (8, iV ((Nat.min (List.length a0) (List.length (List.replicate (Int.toNat (IntKind.wrap .i64 y2.2)) (0 : Int))) : Nat) : Int))], [(0, .seq tI (List.take 0 (List.replicate (Int.toNat (IntKind.wrap .i64 y2.2)) (0 : Int)) ++ List.take (Nat.min (List.length a0) (List.length (List.replicate (Int.toNat (IntKind.wrap .i64 y2.2)) (0 : Int)))) a0 ++ List.drop (0 + Nat.min (List.length a0) (List.length (List.replicate (Int.toNat (IntKind.wrap .i64 y2.2)) (0 : Int)))) (List.replicate (Int.toNat (IntKind.wrap .i64 y2.2)) (0 : Int))))], 1⟩ hX (by kernel_rfl) aN ?_
    obtain ⟨q9, hq10, hr⟩ := of_bind hr
    have hq10 := of_some2 hq10
    obtain ⟨q11, hq12, hr⟩ := of_bind hr
    have hq12 := of_some2 hq12
    refine (Le.cv (s := ⟨[(0, 0)], [], [], false⟩) (own := []) (ps := [q9 = ((Nat.min (List.length a0) (List.length (List.replicate (Int.toNat (IntKind.wrap .i64 y2.2)) (0 : Int))) : Nat) : Int), q11 = (List.take 0 (List.replicate (Int.toNat (IntKind.wrap .i64 y2.2)) (0 : Int)) ++ List.take (Nat.min (List.length a0) (List.length (List.replicate (Int.toNat (IntKind.wrap .i64 y2.2)) (0 : Int)))) a0 ++ List.drop (0 + Nat.min (List.length a0) (List.length (List.replicate (Int.toNat (IntKind.wrap .i64 y2.2)) (0 : Int)))) (List.replicate (Int.toNat (IntKind.wrap .i64 y2.2)) (0 : Int)))]) (st' := ⟨[(7, aV 0), (8, iV q9)], [(0, .seq tI q11)], 1⟩) hO (fun h => by cases h) (by kernel_rfl) ⟨hq10, hq12, trivial⟩).ht ?_
    refine HT.seq ?_
    refine HT.block ?_
    obtain ⟨r14, hL21, hr⟩ := of_bind hr
    refine HT.loopL (fun (s13 : Int × List Int) => ⟨[(7, aV 0), (8, iV s13.1)], [(0, .seq tI s13.2)], 1⟩) (fun (r15 : List Int) => (.exit 0, ⟨[(7, aV 0)], [(0, .seq tI r15)], 1⟩)) (Le.re [(0, 0)] [] hX (by kernel_rfl)) hL21 ?_ (fun s13 x16 hx17 hk18 => ?_)
    ·refine (qBlockX (qThen ?_))
     refine HT.rg2 (oHs 2) ⟨[(4, aV 0)], [(0, .seq tI r14)], 1⟩ hX (by kernel_rfl) aN ?_
     have hr := of_some hr
     subst hr
     exact HT.ret ⟨[aV 0], [0], [], by kernel_rfl, by kernel_rfl, rfl, by kernel_rfl, by kernel_rfl, trivial⟩
    ·refine HT.seq ?_
     refine HT.rg2 (oHs 4) ⟨[(7, aV 0), (8, iV s13.1), (37, bV (decide (s13.1 < (lenI s13.2))))], [(0, .seq tI s13.2)], 1⟩ hX (by kernel_rfl) aN ?_
     rcases of_bif hx17 with ⟨hb19, hx17⟩ | ⟨hb19, hx17⟩
     ·refine HT.cond1 rfl hb19 ?_
      refine HT.skip (qThen ?_)
      refine HT.block ?_
      obtain ⟨hg20, hx17⟩ := of_guard hx17
      have hx17 := of_some hx17
      subst hx17
      exact HT.drK 8 [⟨oH, []⟩, ⟨oH, []⟩, ⟨oH, []⟩, ⟨oH, [1, 2]⟩, ⟨oH, []⟩, ⟨oH, []⟩, ⟨oH, [4, 5]⟩, ⟨oH, [1, 2, 3, 4, 5, 6]⟩] [[0, 1, 2, 3, 4, 5, 6, 7], [0, 1, 2, 3, 4, 5, 6, 7, 8]] (oHs 2) [(0, 0)] [] hX (by kernel_rfl) (by kernel_rfl) (aC (show (0 : Int) ≤ s13.1 ∧ s13.1 ≤ lenI s13.2 ∧ lenI s13.2 ≤ lenI s13.2 from ⟨hg20.1, hg20.2, Int.le_refl _⟩) (aC (show (0 : Int) ≤ 0 ∧ (0 : Int) ≤ s13.1 ∧ s13.1 ≤ lenI s13.2 from ⟨Int.le_refl _, hg20.1, hg20.2⟩) aN)) (fun _ h => (qBlock (qLoopN ⟨((wadd .i64 s13.1 ((Nat.min (List.length (List.take (Int.toNat s13.1) (List.drop 0 s13.2))) (Int.toNat (lenI s13.2) - Int.toNat s13.1) : Nat) : Int)), (List.take (Int.toNat s13.1) s13.2 ++ List.take (Nat.min (List.length (List.take (Int.toNat s13.1) (List.drop 0 s13.2))) (Int.toNat (lenI s13.2) - Int.toNat s13.1)) (List.take (Int.toNat s13.1) (List.drop 0 s13.2)) ++ List.drop ((Int.toNat s13.1) + Nat.min (List.length (List.take (Int.toNat s13.1) (List.drop 0 s13.2))) (Int.toNat (lenI s13.2) - Int.toNat s13.1)) s13.2)), rfl, h⟩)))
     ·refine HT.cond0 rfl hb19 ?_
      have hx17 := of_some hx17
      subst hx17
      exact HT.exitL (Le.re [(0, 0)] [] hX (by kernel_rfl)) (qThenE (qLoopE (hk18 s13.2 rfl)))
  ·rcases of_bif hT6 with ⟨hb22, hT6⟩ | ⟨hb22, hT6⟩
   ·exact HT.rgK [oH, oH, oH, oT, oT, vT] [] [] hX (by kernel_rfl) (aC hb22 (aC hb22 (aC hb22 aN))) (fun _ h => (qThen (h.ht (cont true (of_some hT6)))))
   ·exact HT.rgK [oH, oH, oH, oF, oF, vF] [] [] hX (by kernel_rfl) (aC hb22 (aC hb22 (aC hb22 aN))) (fun _ h => (qThen (h.ht (cont (decide (y2.2 > (9223372036854775807 : Int))) (of_some hT6)))))

noncomputable def impl_none (a0 : Int) : Option (List Int) :=
 (slices_Repeat___int64_int64 ([(-1 : Int)] : List Int) a0).bind fun y1 =>
 some y1

theorem f130_ok {a0 : Int} {r : List Int} (hr : impl_none a0 = some r) : CallOK Try.prog 130 [.imm tI a0] [⟨true, tLI, r⟩] [] := by
 unfold impl_none at hr
 refine CallOK.of_body (ts := [(true, tLI)]) Try.func130 rfl (by kernel_rfl) (Nat.le_of_ble_eq_true (by kernel_rfl)) fun cx hP hN hO hF => ?_
 have hO : cx.own.map Prod.fst = [] := hO
 have hX := CxIs.mk hP hN hO
 have hF := hF rfl
 show HT cx ⟨[(0, iV a0)], [], 0⟩ _ _
 refine HT.rg2 [oH] ⟨[(0, iV a0)], [], 0⟩ hX (by kernel_rfl) aN ?_
 obtain ⟨y1, hc2, hr⟩ := of_bind hr
 refine HT.rg2 [⟨none, .ty tI⟩, oH, ⟨none, .call [.imm tLI, .imm tI] [⟨true, tLI, y1⟩] []⟩, oH] ⟨[(2, aV 1)], [(1, .seq tI y1)], 2⟩ hX (by kernel_rfl) (aC (f203_ok hc2) aN) ?_
 have hr := of_some hr
 subst hr
 exact HT.ret ⟨[aV 1], [1], [], by kernel_rfl, by kernel_rfl, rfl, by kernel_rfl, by kernel_rfl, trivial⟩

end Go.Proofs
