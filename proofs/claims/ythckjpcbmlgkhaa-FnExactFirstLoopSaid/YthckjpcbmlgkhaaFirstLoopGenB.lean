import Derived.Test.YthckjpcbmlgkhaaFirstLoopGenA
import Derived.Test.YthckjpcbmlgkhaaProg
set_option linter.unusedVariables false
set_option linter.unusedSimpArgs false
set_option linter.unusedSectionVars false
/-
  Functions as plain functions, and their contracts. Printed by a program.
-/
namespace Go.Proofs
open Go.Ide

noncomputable def impl_statesOfLoop_B1 (a0 : Int × Int × List Int × List Bool) (a1 : List Int × List Int) (s14 : Int × Int × List Bool) : Option ((Int × Int × List Bool) ⊕ ((Int × List Bool))) :=
  bif (decide (s14.2.1 < (lenI a1.2))) then
    guardP ((0 : Int) ≤ s14.2.1 ∧ s14.2.1 < lenI a1.2) (
      (impl_Plain_to (a0.1, a0.2.1, a0.2.2.1, a0.2.2.2) s14.1 (List.getD a1.2 (Int.toNat s14.2.1) (0 : Int))).bind fun y22 =>
      guardP ((0 : Int) ≤ y22 ∧ y22 < lenI s14.2.2) (
        some (.inl (y22, (wadd .i64 s14.2.1 (1 : Int)), (List.set s14.2.2 (Int.toNat y22) true)))))
  else
    some (.inr (s14.1, s14.2.2))

noncomputable def impl_statesOfLoop_B2 (a0 : Int × Int × List Int × List Bool) (a1 : List Int × List Int) (s7 : Int × Int × List Bool) : Option ((Int × Int × List Bool) ⊕ (List Bool)) :=
  bif (decide (s7.2.1 < a0.1)) then
    (rounds (impl_statesOfLoop_B1 a0 a1) (s7.1, (0 : Int), s7.2.2)).bind fun r16 =>
    some (.inl (r16.1, (wadd .i64 s7.2.1 (1 : Int)), r16.2))
  else
    some (.inr s7.2.2)

noncomputable def impl_statesOfLoop_B3 (a0 : Int × Int × List Int × List Bool) (a1 : List Int × List Int) (s31 : Int × Int) : Option ((Int × Int) ⊕ (Int)) :=
  bif (decide (s31.2 < (lenI a1.2))) then
    guardP ((0 : Int) ≤ s31.2 ∧ s31.2 < lenI a1.2) (
      (impl_Plain_to (a0.1, a0.2.1, a0.2.2.1, a0.2.2.2) s31.1 (List.getD a1.2 (Int.toNat s31.2) (0 : Int))).bind fun y39 =>
      some (.inl (y39, (wadd .i64 s31.2 (1 : Int)))))
  else
    some (.inr s31.1)

noncomputable def impl_statesOfLoop_B4 (a0 : Int × Int × List Int × List Bool) (a1 : List Int × List Int) (s3 : Int × Int) : Option ((Int × Int) ⊕ (Int)) :=
  bif (decide (s3.2 < a0.1)) then
    (rounds (impl_statesOfLoop_B3 a0 a1) (s3.1, (0 : Int))).bind fun r33 =>
    some (.inl (r33, (wadd .i64 s3.2 (1 : Int))))
  else
    some (.inr s3.1)

noncomputable def impl_statesOfLoop (a0 : Int × Int × List Int × List Bool) (a1 : List Int × List Int) : Option (List Bool) :=
  (impl_Plain_stateOf (a0.1, a0.2.1, a0.2.2.1, a0.2.2.2) a1.1).bind fun y1 =>
  (rounds (impl_statesOfLoop_B4 a0 a1) (y1, (0 : Int))).bind fun r5 =>
  guardP ((0 : Int) ≤ a0.1 ∧ a0.1 ≤ 4294967296) (
    (rounds (impl_statesOfLoop_B2 a0 a1) (r5, (0 : Int), (List.replicate (Int.toNat a0.1) false))).bind fun r9 =>
    some r9)

theorem f121_ok {a0 : Int × Int × List Int × List Bool} {a1 : List Int × List Int} {r : List Bool} (hr : impl_statesOfLoop a0 a1 = some r) : CallOK Try.prog 121 [.imm (.st (.pair (.int .i64) (.pair (.int .i64) (.pair (.sl (.int .i64)) (.sl .bool))))) a0, .imm (.st (.pair (.sl (.int .i64)) (.sl (.int .i64)))) a1] [⟨true, (.sl .bool), r⟩] [] := by
  unfold impl_statesOfLoop at hr
  refine CallOK.of_body (ts := [(true, (.sl .bool))]) Try.func121 rfl (by kernel_rfl) (Nat.le_of_ble_eq_true (by kernel_rfl)) fun cx hP hN hO hF => ?_
  have hO : cx.own.map Prod.fst = [] := hO
  have hF := hF rfl
  show HT cx ⟨[(0, .agg [.dat (.int .i64) a0.1, .dat (.int .i64) a0.2.1, .dat (.sl (.int .i64)) a0.2.2.1, .dat (.sl .bool) a0.2.2.2]), (1, .agg [.dat (.sl (.int .i64)) a1.1, .dat (.sl (.int .i64)) a1.2])], [], 0⟩ _ _
  refine HT.reg1 [2, 3] [⟨none, .no⟩, ⟨none, .no⟩, ⟨none, .no⟩] ⟨[(2, .one (.ptr 0 0)), (3, .one (.ptr 1 0))], [(1, .box [.dat (.sl (.int .i64)) a1.1, .dat (.sl (.int .i64)) a1.2]), (0, .box [.dat (.int .i64) a0.1, .dat (.int .i64) a0.2.1, .dat (.sl (.int .i64)) a0.2.2.1, .dat (.sl .bool) a0.2.2.2])], 2⟩ hP hN (by kernel_rfl) allNil ?_
  obtain ⟨y1, hc2, hr⟩ := of_bind hr
  refine HT.reg1 [2, 3, 5] [⟨none, .no⟩, ⟨none, .no⟩, ⟨none, .no⟩, ⟨none, .call [.imm (.st (.pair (.int .i64) (.pair (.int .i64) (.pair (.sl (.int .i64)) (.sl .bool))))), .imm (.sl (.int .i64))] [⟨false, (.int .i64), y1⟩] []⟩, ⟨none, .no⟩] ⟨[(2, .one (.ptr 0 0)), (3, .one (.ptr 1 0)), (5, .one (.dat (.int .i64) y1))], [(1, .box [.dat (.sl (.int .i64)) a1.1, .dat (.sl (.int .i64)) a1.2]), (0, .box [.dat (.int .i64) a0.1, .dat (.int .i64) a0.2.1, .dat (.sl (.int .i64)) a0.2.2.1, .dat (.sl .bool) a0.2.2.2])], 2⟩ hP hN (by kernel_rfl) (allCons (f145_ok hc2) allNil) ?_
  refine HT.seq ?_
  refine HT.reg1 [2, 3, 5, 16, 17] [⟨none, .no⟩, ⟨none, .no⟩, ⟨none, .no⟩] ⟨[(2, .one (.ptr 0 0)), (3, .one (.ptr 1 0)), (5, .one (.dat (.int .i64) y1)), (16, .one (.dat (.int .i64) a0.1)), (17, .one (.dat (.int .i64) (0 : Int)))], [(1, .box [.dat (.sl (.int .i64)) a1.1, .dat (.sl (.int .i64)) a1.2]), (0, .box [.dat (.int .i64) a0.1, .dat (.int .i64) a0.2.1, .dat (.sl (.int .i64)) a0.2.2.1, .dat (.sl .bool) a0.2.2.2])], 2⟩ hP hN (by kernel_rfl) allNil ?_
  refine HT.block ?_
  obtain ⟨r4, hL42, hr⟩ := of_bind hr
  refine (Le.cv (s := ⟨[(0, 0), (1, 1)], [], [], false⟩) (own := []) (ps := [y1 = y1, a0.1 = a0.1, (0 : Int) = (0 : Int), a0.1 = a0.1, a0.2.1 = a0.2.1, a0.2.2.1 = a0.2.2.1, a0.2.2.2 = a0.2.2.2, a1.1 = a1.1, a1.2 = a1.2]) (st' := ⟨[(2, .one (.ptr 0 0)), (3, .one (.ptr 1 0)), (5, .one (.dat (.int .i64) y1)), (16, .one (.dat (.int .i64) a0.1)), (17, .one (.dat (.int .i64) (0 : Int)))], [(0, .box [.dat (.int .i64) a0.1, .dat (.int .i64) a0.2.1, .dat (.sl (.int .i64)) a0.2.2.1, .dat (.sl .bool) a0.2.2.2]), (1, .box [.dat (.sl (.int .i64)) a1.1, .dat (.sl (.int .i64)) a1.2])], 2⟩) hO (fun h => by cases h) (by kernel_rfl) ⟨rfl, rfl, rfl, rfl, rfl, rfl, rfl, rfl, rfl, trivial⟩).ht ?_
  refine HT.loopE (s := (y1, (0 : Int))) (fun (s3 : Int × Int) => ⟨[(2, .one (.ptr 0 0)), (3, .one (.ptr 1 0)), (5, .one (.dat (.int .i64) s3.1)), (16, .one (.dat (.int .i64) a0.1)), (17, .one (.dat (.int .i64) s3.2))], [(0, .box [.dat (.int .i64) a0.1, .dat (.int .i64) a0.2.1, .dat (.sl (.int .i64)) a0.2.2.1, .dat (.sl .bool) a0.2.2.2]), (1, .box [.dat (.sl (.int .i64)) a1.1, .dat (.sl (.int .i64)) a1.2])], 2⟩) (fun (r5 : Int) => (.exit 0, ⟨[(2, .one (.ptr 0 0)), (3, .one (.ptr 1 0)), (5, .one (.dat (.int .i64) r5))], [(0, .box [.dat (.int .i64) a0.1, .dat (.int .i64) a0.2.1, .dat (.sl (.int .i64)) a0.2.2.1, .dat (.sl .bool) a0.2.2.2]), (1, .box [.dat (.sl (.int .i64)) a1.1, .dat (.sl (.int .i64)) a1.2])], 2⟩)) hL42 ?_ (fun s3 x27 hx28 hk29 => ?_)
  · refine (qBlockX (qThen ?_))
    obtain ⟨hg6, hr⟩ := of_guard hr
    refine HT.reg1 [2, 3, 5, 8] [⟨none, .no⟩, ⟨none, .no⟩, ⟨none, .ty .bool⟩, ⟨none, .no⟩] ⟨[(2, .one (.ptr 0 0)), (3, .one (.ptr 1 0)), (5, .one (.dat (.int .i64) r4)), (8, .one (.all 2))], [(2, .seq .bool (List.replicate (Int.toNat a0.1) false)), (0, .box [.dat (.int .i64) a0.1, .dat (.int .i64) a0.2.1, .dat (.sl (.int .i64)) a0.2.2.1, .dat (.sl .bool) a0.2.2.2]), (1, .box [.dat (.sl (.int .i64)) a1.1, .dat (.sl (.int .i64)) a1.2])], 3⟩ hP hN (by kernel_rfl) (allCons (show (0 : Int) ≤ a0.1 ∧ a0.1 ≤ a0.1 ∧ a0.1 ≤ 4294967296 from ⟨hg6.1, Int.le_refl _, hg6.2⟩) allNil) ?_
    refine HT.seq ?_
    refine HT.reg1 [2, 3, 5, 8, 36, 37] [⟨none, .no⟩, ⟨none, .no⟩, ⟨none, .no⟩] ⟨[(2, .one (.ptr 0 0)), (3, .one (.ptr 1 0)), (5, .one (.dat (.int .i64) r4)), (8, .one (.all 2)), (36, .one (.dat (.int .i64) a0.1)), (37, .one (.dat (.int .i64) (0 : Int)))], [(2, .seq .bool (List.replicate (Int.toNat a0.1) false)), (0, .box [.dat (.int .i64) a0.1, .dat (.int .i64) a0.2.1, .dat (.sl (.int .i64)) a0.2.2.1, .dat (.sl .bool) a0.2.2.2]), (1, .box [.dat (.sl (.int .i64)) a1.1, .dat (.sl (.int .i64)) a1.2])], 3⟩ hP hN (by kernel_rfl) allNil ?_
    refine HT.block ?_
    obtain ⟨r8, hL26, hr⟩ := of_bind hr
    refine (Le.cv (s := ⟨[(0, 0), (1, 1), (2, 2)], [], [], false⟩) (own := []) (ps := [r4 = r4, a0.1 = a0.1, (0 : Int) = (0 : Int), a0.1 = a0.1, a0.2.1 = a0.2.1, a0.2.2.1 = a0.2.2.1, a0.2.2.2 = a0.2.2.2, a1.1 = a1.1, a1.2 = a1.2, (List.replicate (Int.toNat a0.1) false) = (List.replicate (Int.toNat a0.1) false)]) (st' := ⟨[(2, .one (.ptr 0 0)), (3, .one (.ptr 1 0)), (5, .one (.dat (.int .i64) r4)), (8, .one (.all 2)), (36, .one (.dat (.int .i64) a0.1)), (37, .one (.dat (.int .i64) (0 : Int)))], [(0, .box [.dat (.int .i64) a0.1, .dat (.int .i64) a0.2.1, .dat (.sl (.int .i64)) a0.2.2.1, .dat (.sl .bool) a0.2.2.2]), (1, .box [.dat (.sl (.int .i64)) a1.1, .dat (.sl (.int .i64)) a1.2]), (2, .seq .bool (List.replicate (Int.toNat a0.1) false))], 3⟩) hO (fun h => by cases h) (by kernel_rfl) ⟨rfl, rfl, rfl, rfl, rfl, rfl, rfl, rfl, rfl, rfl, trivial⟩).ht ?_
    refine HT.loopE (s := (r4, (0 : Int), (List.replicate (Int.toNat a0.1) false))) (fun (s7 : Int × Int × List Bool) => ⟨[(2, .one (.ptr 0 0)), (3, .one (.ptr 1 0)), (5, .one (.dat (.int .i64) s7.1)), (8, .one (.all 2)), (36, .one (.dat (.int .i64) a0.1)), (37, .one (.dat (.int .i64) s7.2.1))], [(0, .box [.dat (.int .i64) a0.1, .dat (.int .i64) a0.2.1, .dat (.sl (.int .i64)) a0.2.2.1, .dat (.sl .bool) a0.2.2.2]), (1, .box [.dat (.sl (.int .i64)) a1.1, .dat (.sl (.int .i64)) a1.2]), (2, .seq .bool s7.2.2)], 3⟩) (fun (r9 : List Bool) => (.exit 4, ⟨[(8, .one (.all 0))], [(0, .seq .bool r9)], 1⟩)) hL26 ?_ (fun s7 x10 hx11 hk12 => ?_)
    · refine (qBlockX (qThen ?_))
      refine HT.reg1 [4] [⟨none, .no⟩, ⟨none, .no⟩] ⟨[(4, .one (.all 0))], [(0, .seq .bool r8)], 1⟩ hP hN (by kernel_rfl) allNil ?_
      have hr := of_some hr
      subst hr
      exact HT.ret ⟨[.one (.all 0)], [0], [], by kernel_rfl, by kernel_rfl, rfl, by kernel_rfl, by kernel_rfl, trivial⟩
    · refine HT.reg1 [2, 3, 5, 8, 36, 37, 38] [⟨none, .no⟩] ⟨[(2, .one (.ptr 0 0)), (3, .one (.ptr 1 0)), (5, .one (.dat (.int .i64) s7.1)), (8, .one (.all 2)), (36, .one (.dat (.int .i64) a0.1)), (37, .one (.dat (.int .i64) s7.2.1)), (38, .one (.dat .bool (decide (s7.2.1 < a0.1))))], [(0, .box [.dat (.int .i64) a0.1, .dat (.int .i64) a0.2.1, .dat (.sl (.int .i64)) a0.2.2.1, .dat (.sl .bool) a0.2.2.2]), (1, .box [.dat (.sl (.int .i64)) a1.1, .dat (.sl (.int .i64)) a1.2]), (2, .seq .bool s7.2.2)], 3⟩ hP hN (by kernel_rfl) allNil ?_
      refine HT.seq ?_
      rcases of_bif hx11 with ⟨hb13, hx11⟩ | ⟨hb13, hx11⟩
      · refine HT.cond1 rfl hb13 ?_
        refine HT.skip (qThen ?_)
        refine HT.seq ?_
        refine HT.block ?_
        refine HT.reg1 [2, 3, 5, 8, 36, 37, 40, 41, 42] [⟨none, .no⟩, ⟨none, .no⟩, ⟨none, .no⟩, ⟨none, .no⟩] ⟨[(2, .one (.ptr 0 0)), (3, .one (.ptr 1 0)), (5, .one (.dat (.int .i64) s7.1)), (8, .one (.all 2)), (36, .one (.dat (.int .i64) a0.1)), (37, .one (.dat (.int .i64) s7.2.1)), (40, .one (.dat (.sl (.int .i64)) a1.2)), (41, .one (.dat (.int .i64) (lenI a1.2))), (42, .one (.dat (.int .i64) (0 : Int)))], [(0, .box [.dat (.int .i64) a0.1, .dat (.int .i64) a0.2.1, .dat (.sl (.int .i64)) a0.2.2.1, .dat (.sl .bool) a0.2.2.2]), (1, .box [.dat (.sl (.int .i64)) a1.1, .dat (.sl (.int .i64)) a1.2]), (2, .seq .bool s7.2.2)], 3⟩ hP hN (by kernel_rfl) allNil ?_
        refine HT.block ?_
        obtain ⟨r15, hL25, hx11⟩ := of_bind hx11
        refine (Le.cv (s := ⟨[(0, 0), (1, 1), (2, 2)], [], [], false⟩) (own := []) (ps := [s7.1 = s7.1, a0.1 = a0.1, s7.2.1 = s7.2.1, a1.2 = a1.2, (lenI a1.2) = (lenI a1.2), (0 : Int) = (0 : Int), a0.1 = a0.1, a0.2.1 = a0.2.1, a0.2.2.1 = a0.2.2.1, a0.2.2.2 = a0.2.2.2, a1.1 = a1.1, a1.2 = a1.2, s7.2.2 = s7.2.2]) (st' := ⟨[(2, .one (.ptr 0 0)), (3, .one (.ptr 1 0)), (5, .one (.dat (.int .i64) s7.1)), (8, .one (.all 2)), (36, .one (.dat (.int .i64) a0.1)), (37, .one (.dat (.int .i64) s7.2.1)), (40, .one (.dat (.sl (.int .i64)) a1.2)), (41, .one (.dat (.int .i64) (lenI a1.2))), (42, .one (.dat (.int .i64) (0 : Int)))], [(0, .box [.dat (.int .i64) a0.1, .dat (.int .i64) a0.2.1, .dat (.sl (.int .i64)) a0.2.2.1, .dat (.sl .bool) a0.2.2.2]), (1, .box [.dat (.sl (.int .i64)) a1.1, .dat (.sl (.int .i64)) a1.2]), (2, .seq .bool s7.2.2)], 3⟩) hO (fun h => by cases h) (by kernel_rfl) ⟨rfl, rfl, rfl, rfl, rfl, rfl, rfl, rfl, rfl, rfl, rfl, rfl, rfl, trivial⟩).ht ?_
        refine HT.loopE (s := (s7.1, (0 : Int), s7.2.2)) (fun (s14 : Int × Int × List Bool) => ⟨[(2, .one (.ptr 0 0)), (3, .one (.ptr 1 0)), (5, .one (.dat (.int .i64) s14.1)), (8, .one (.all 2)), (36, .one (.dat (.int .i64) a0.1)), (37, .one (.dat (.int .i64) s7.2.1)), (40, .one (.dat (.sl (.int .i64)) a1.2)), (41, .one (.dat (.int .i64) (lenI a1.2))), (42, .one (.dat (.int .i64) s14.2.1))], [(0, .box [.dat (.int .i64) a0.1, .dat (.int .i64) a0.2.1, .dat (.sl (.int .i64)) a0.2.2.1, .dat (.sl .bool) a0.2.2.2]), (1, .box [.dat (.sl (.int .i64)) a1.1, .dat (.sl (.int .i64)) a1.2]), (2, .seq .bool s14.2.2)], 3⟩) (fun (r16 : (Int × List Bool)) => (.exit 6, ⟨[(2, .one (.ptr 0 0)), (3, .one (.ptr 1 0)), (5, .one (.dat (.int .i64) r16.1)), (8, .one (.all 2)), (36, .one (.dat (.int .i64) a0.1)), (37, .one (.dat (.int .i64) s7.2.1))], [(0, .box [.dat (.int .i64) a0.1, .dat (.int .i64) a0.2.1, .dat (.sl (.int .i64)) a0.2.2.1, .dat (.sl .bool) a0.2.2.2]), (1, .box [.dat (.sl (.int .i64)) a1.1, .dat (.sl (.int .i64)) a1.2]), (2, .seq .bool r16.2)], 3⟩)) hL25 ?_ (fun s14 x17 hx18 hk19 => ?_)
        · refine (qBlockX (qBlock (qThen ?_)))
          have hx11 := of_some hx11
          subst hx11
          refine HT.reg (rs := [⟨none, .no⟩, ⟨none, .no⟩]) (st' := ⟨[(37, .one (.dat (.int .i64) (wadd .i64 s7.2.1 (1 : Int)))), (54, .one (.dat (.int .i64) (wadd .i64 s7.2.1 (1 : Int)))), (2, .one (.ptr 0 0)), (3, .one (.ptr 1 0)), (5, .one (.dat (.int .i64) r15.1)), (8, .one (.all 2)), (36, .one (.dat (.int .i64) a0.1)), (37, .one (.dat (.int .i64) s7.2.1))], [(0, .box [.dat (.int .i64) a0.1, .dat (.int .i64) a0.2.1, .dat (.sl (.int .i64)) a0.2.2.1, .dat (.sl .bool) a0.2.2.2]), (1, .box [.dat (.sl (.int .i64)) a1.1, .dat (.sl (.int .i64)) a1.2]), (2, .seq .bool r15.2)], 3⟩) hP hN (by kernel_rfl) allNil (qLoopN ⟨(r15.1, (wadd .i64 s7.2.1 (1 : Int)), r15.2), rfl, Le.cv (s := ⟨[(0, 0), (1, 1), (2, 2)], [], [], false⟩) (own := []) (ps := [r15.1 = r15.1, a0.1 = a0.1, (wadd .i64 s7.2.1 (1 : Int)) = (wadd .i64 s7.2.1 (1 : Int)), a0.1 = a0.1, a0.2.1 = a0.2.1, a0.2.2.1 = a0.2.2.1, a0.2.2.2 = a0.2.2.2, a1.1 = a1.1, a1.2 = a1.2, r15.2 = r15.2]) (st' := ⟨[(2, .one (.ptr 0 0)), (3, .one (.ptr 1 0)), (5, .one (.dat (.int .i64) r15.1)), (8, .one (.all 2)), (36, .one (.dat (.int .i64) a0.1)), (37, .one (.dat (.int .i64) (wadd .i64 s7.2.1 (1 : Int))))], [(0, .box [.dat (.int .i64) a0.1, .dat (.int .i64) a0.2.1, .dat (.sl (.int .i64)) a0.2.2.1, .dat (.sl .bool) a0.2.2.2]), (1, .box [.dat (.sl (.int .i64)) a1.1, .dat (.sl (.int .i64)) a1.2]), (2, .seq .bool r15.2)], 3⟩) hO (fun h => by cases h) (by kernel_rfl) ⟨rfl, rfl, rfl, rfl, rfl, rfl, rfl, rfl, rfl, rfl, trivial⟩⟩)
        · refine HT.reg1 [2, 3, 5, 8, 36, 37, 40, 41, 42, 43] [⟨none, .no⟩] ⟨[(2, .one (.ptr 0 0)), (3, .one (.ptr 1 0)), (5, .one (.dat (.int .i64) s14.1)), (8, .one (.all 2)), (36, .one (.dat (.int .i64) a0.1)), (37, .one (.dat (.int .i64) s7.2.1)), (40, .one (.dat (.sl (.int .i64)) a1.2)), (41, .one (.dat (.int .i64) (lenI a1.2))), (42, .one (.dat (.int .i64) s14.2.1)), (43, .one (.dat .bool (decide (s14.2.1 < (lenI a1.2)))))], [(0, .box [.dat (.int .i64) a0.1, .dat (.int .i64) a0.2.1, .dat (.sl (.int .i64)) a0.2.2.1, .dat (.sl .bool) a0.2.2.2]), (1, .box [.dat (.sl (.int .i64)) a1.1, .dat (.sl (.int .i64)) a1.2]), (2, .seq .bool s14.2.2)], 3⟩ hP hN (by kernel_rfl) allNil ?_
          refine HT.seq ?_
          rcases of_bif hx18 with ⟨hb20, hx18⟩ | ⟨hb20, hx18⟩
          · refine HT.cond1 rfl hb20 ?_
            refine HT.skip (qThen ?_)
            refine HT.seq ?_
            refine HT.block ?_
            obtain ⟨hg21, hx18⟩ := of_guard hx18
            refine HT.reg1 [2, 3, 5, 8, 10, 36, 37, 40, 41, 42] [⟨none, .no⟩, ⟨none, .no⟩, ⟨none, .no⟩] ⟨[(2, .one (.ptr 0 0)), (3, .one (.ptr 1 0)), (5, .one (.dat (.int .i64) s14.1)), (8, .one (.all 2)), (10, .one (.dat (.int .i64) (List.getD a1.2 (Int.toNat s14.2.1) (0 : Int)))), (36, .one (.dat (.int .i64) a0.1)), (37, .one (.dat (.int .i64) s7.2.1)), (40, .one (.dat (.sl (.int .i64)) a1.2)), (41, .one (.dat (.int .i64) (lenI a1.2))), (42, .one (.dat (.int .i64) s14.2.1))], [(0, .box [.dat (.int .i64) a0.1, .dat (.int .i64) a0.2.1, .dat (.sl (.int .i64)) a0.2.2.1, .dat (.sl .bool) a0.2.2.2]), (1, .box [.dat (.sl (.int .i64)) a1.1, .dat (.sl (.int .i64)) a1.2]), (2, .seq .bool s14.2.2)], 3⟩ hP hN (by kernel_rfl) (allCons hg21 allNil) ?_
            obtain ⟨y22, hc23, hx18⟩ := of_bind hx18
            refine HT.reg1 [2, 3, 5, 8, 36, 37, 40, 41, 42] [⟨none, .no⟩, ⟨none, .no⟩, ⟨none, .no⟩, ⟨none, .call [.imm (.st (.pair (.int .i64) (.pair (.int .i64) (.pair (.sl (.int .i64)) (.sl .bool))))), .imm (.int .i64), .imm (.int .i64)] [⟨false, (.int .i64), y22⟩] []⟩, ⟨none, .no⟩] ⟨[(2, .one (.ptr 0 0)), (3, .one (.ptr 1 0)), (5, .one (.dat (.int .i64) y22)), (8, .one (.all 2)), (36, .one (.dat (.int .i64) a0.1)), (37, .one (.dat (.int .i64) s7.2.1)), (40, .one (.dat (.sl (.int .i64)) a1.2)), (41, .one (.dat (.int .i64) (lenI a1.2))), (42, .one (.dat (.int .i64) s14.2.1))], [(0, .box [.dat (.int .i64) a0.1, .dat (.int .i64) a0.2.1, .dat (.sl (.int .i64)) a0.2.2.1, .dat (.sl .bool) a0.2.2.2]), (1, .box [.dat (.sl (.int .i64)) a1.1, .dat (.sl (.int .i64)) a1.2]), (2, .seq .bool s14.2.2)], 3⟩ hP hN (by kernel_rfl) (allCons (f146_ok hc23) allNil) ?_
            obtain ⟨hg24, hx18⟩ := of_guard hx18
            refine HT.reg (rs := [⟨none, .no⟩, ⟨none, .no⟩, ⟨none, .no⟩, ⟨none, .no⟩]) (st' := ⟨[(52, .one (.elp 2 (Int.toNat y22) 1 0)), (51, .one (.dat (.int .i64) y22)), (50, .one (.all 2)), (2, .one (.ptr 0 0)), (3, .one (.ptr 1 0)), (5, .one (.dat (.int .i64) y22)), (8, .one (.all 2)), (36, .one (.dat (.int .i64) a0.1)), (37, .one (.dat (.int .i64) s7.2.1)), (40, .one (.dat (.sl (.int .i64)) a1.2)), (41, .one (.dat (.int .i64) (lenI a1.2))), (42, .one (.dat (.int .i64) s14.2.1))], [(2, .seq .bool (List.set s14.2.2 (Int.toNat y22) true)), (0, .box [.dat (.int .i64) a0.1, .dat (.int .i64) a0.2.1, .dat (.sl (.int .i64)) a0.2.2.1, .dat (.sl .bool) a0.2.2.2]), (1, .box [.dat (.sl (.int .i64)) a1.1, .dat (.sl (.int .i64)) a1.2]), (2, .seq .bool s14.2.2)], 3⟩) hP hN (by kernel_rfl) (allCons hg24 (allCons (natLt hg24) allNil)) (qBlock (qThen ?_))
            have hx18 := of_some hx18
            subst hx18
            refine HT.reg (rs := [⟨none, .no⟩, ⟨none, .no⟩]) (st' := ⟨[(42, .one (.dat (.int .i64) (wadd .i64 s14.2.1 (1 : Int)))), (53, .one (.dat (.int .i64) (wadd .i64 s14.2.1 (1 : Int)))), (52, .one (.elp 2 (Int.toNat y22) 1 0)), (51, .one (.dat (.int .i64) y22)), (50, .one (.all 2)), (2, .one (.ptr 0 0)), (3, .one (.ptr 1 0)), (5, .one (.dat (.int .i64) y22)), (8, .one (.all 2)), (36, .one (.dat (.int .i64) a0.1)), (37, .one (.dat (.int .i64) s7.2.1)), (40, .one (.dat (.sl (.int .i64)) a1.2)), (41, .one (.dat (.int .i64) (lenI a1.2))), (42, .one (.dat (.int .i64) s14.2.1))], [(2, .seq .bool (List.set s14.2.2 (Int.toNat y22) true)), (0, .box [.dat (.int .i64) a0.1, .dat (.int .i64) a0.2.1, .dat (.sl (.int .i64)) a0.2.2.1, .dat (.sl .bool) a0.2.2.2]), (1, .box [.dat (.sl (.int .i64)) a1.1, .dat (.sl (.int .i64)) a1.2]), (2, .seq .bool s14.2.2)], 3⟩) hP hN (by kernel_rfl) allNil (qLoopN ⟨(y22, (wadd .i64 s14.2.1 (1 : Int)), (List.set s14.2.2 (Int.toNat y22) true)), rfl, Le.cv (s := ⟨[(0, 0), (1, 1), (2, 2)], [], [], false⟩) (own := []) (ps := [y22 = y22, a0.1 = a0.1, s7.2.1 = s7.2.1, a1.2 = a1.2, (lenI a1.2) = (lenI a1.2), (wadd .i64 s14.2.1 (1 : Int)) = (wadd .i64 s14.2.1 (1 : Int)), a0.1 = a0.1, a0.2.1 = a0.2.1, a0.2.2.1 = a0.2.2.1, a0.2.2.2 = a0.2.2.2, a1.1 = a1.1, a1.2 = a1.2, (List.set s14.2.2 (Int.toNat y22) true) = (List.set s14.2.2 (Int.toNat y22) true)]) (st' := ⟨[(2, .one (.ptr 0 0)), (3, .one (.ptr 1 0)), (5, .one (.dat (.int .i64) y22)), (8, .one (.all 2)), (36, .one (.dat (.int .i64) a0.1)), (37, .one (.dat (.int .i64) s7.2.1)), (40, .one (.dat (.sl (.int .i64)) a1.2)), (41, .one (.dat (.int .i64) (lenI a1.2))), (42, .one (.dat (.int .i64) (wadd .i64 s14.2.1 (1 : Int))))], [(0, .box [.dat (.int .i64) a0.1, .dat (.int .i64) a0.2.1, .dat (.sl (.int .i64)) a0.2.2.1, .dat (.sl .bool) a0.2.2.2]), (1, .box [.dat (.sl (.int .i64)) a1.1, .dat (.sl (.int .i64)) a1.2]), (2, .seq .bool (List.set s14.2.2 (Int.toNat y22) true))], 3⟩) hO (fun h => by cases h) (by kernel_rfl) ⟨rfl, rfl, rfl, rfl, rfl, rfl, rfl, rfl, rfl, rfl, rfl, rfl, rfl, trivial⟩⟩)
          · refine HT.cond0 rfl hb20 ?_
            have hx18 := of_some hx18
            subst hx18
            refine (Le.cv (s := ⟨[(0, 0), (1, 1), (2, 2)], [], [], false⟩) (own := []) (ps := [s14.1 = s14.1, a0.1 = a0.1, s7.2.1 = s7.2.1, a0.1 = a0.1, a0.2.1 = a0.2.1, a0.2.2.1 = a0.2.2.1, a0.2.2.2 = a0.2.2.2, a1.1 = a1.1, a1.2 = a1.2, s14.2.2 = s14.2.2]) (st' := ⟨[(2, .one (.ptr 0 0)), (3, .one (.ptr 1 0)), (5, .one (.dat (.int .i64) s14.1)), (8, .one (.all 2)), (36, .one (.dat (.int .i64) a0.1)), (37, .one (.dat (.int .i64) s7.2.1))], [(0, .box [.dat (.int .i64) a0.1, .dat (.int .i64) a0.2.1, .dat (.sl (.int .i64)) a0.2.2.1, .dat (.sl .bool) a0.2.2.2]), (1, .box [.dat (.sl (.int .i64)) a1.1, .dat (.sl (.int .i64)) a1.2]), (2, .seq .bool s14.2.2)], 3⟩) hO (fun h => by cases h) (by kernel_rfl) ⟨rfl, rfl, rfl, rfl, rfl, rfl, rfl, rfl, rfl, rfl, trivial⟩).ht ?_
            exact HT.exit (qThenE (qLoopE (hk19 (s14.1, s14.2.2) rfl)))
      · refine HT.cond0 rfl hb13 ?_
        have hx11 := of_some hx11
        subst hx11
        refine (Le.cv (s := ⟨[(2, 0)], [], [], false⟩) (own := []) (ps := [s7.2.2 = s7.2.2]) (st' := ⟨[(8, .one (.all 0))], [(0, .seq .bool s7.2.2)], 1⟩) hO (fun h => by cases h) (by kernel_rfl) ⟨rfl, trivial⟩).ht ?_
        exact HT.exit (qThenE (qLoopE (hk12 s7.2.2 rfl)))
  · refine HT.reg1 [2, 3, 5, 16, 17, 18] [⟨none, .no⟩] ⟨[(2, .one (.ptr 0 0)), (3, .one (.ptr 1 0)), (5, .one (.dat (.int .i64) s3.1)), (16, .one (.dat (.int .i64) a0.1)), (17, .one (.dat (.int .i64) s3.2)), (18, .one (.dat .bool (decide (s3.2 < a0.1))))], [(0, .box [.dat (.int .i64) a0.1, .dat (.int .i64) a0.2.1, .dat (.sl (.int .i64)) a0.2.2.1, .dat (.sl .bool) a0.2.2.2]), (1, .box [.dat (.sl (.int .i64)) a1.1, .dat (.sl (.int .i64)) a1.2])], 2⟩ hP hN (by kernel_rfl) allNil ?_
    refine HT.seq ?_
    rcases of_bif hx28 with ⟨hb30, hx28⟩ | ⟨hb30, hx28⟩
    · refine HT.cond1 rfl hb30 ?_
      refine HT.skip (qThen ?_)
      refine HT.seq ?_
      refine HT.block ?_
      refine HT.reg1 [2, 3, 5, 16, 17, 20, 21, 22] [⟨none, .no⟩, ⟨none, .no⟩, ⟨none, .no⟩, ⟨none, .no⟩] ⟨[(2, .one (.ptr 0 0)), (3, .one (.ptr 1 0)), (5, .one (.dat (.int .i64) s3.1)), (16, .one (.dat (.int .i64) a0.1)), (17, .one (.dat (.int .i64) s3.2)), (20, .one (.dat (.sl (.int .i64)) a1.2)), (21, .one (.dat (.int .i64) (lenI a1.2))), (22, .one (.dat (.int .i64) (0 : Int)))], [(0, .box [.dat (.int .i64) a0.1, .dat (.int .i64) a0.2.1, .dat (.sl (.int .i64)) a0.2.2.1, .dat (.sl .bool) a0.2.2.2]), (1, .box [.dat (.sl (.int .i64)) a1.1, .dat (.sl (.int .i64)) a1.2])], 2⟩ hP hN (by kernel_rfl) allNil ?_
      refine HT.block ?_
      obtain ⟨r32, hL41, hx28⟩ := of_bind hx28
      refine (Le.cv (s := ⟨[(0, 0), (1, 1)], [], [], false⟩) (own := []) (ps := [s3.1 = s3.1, a0.1 = a0.1, s3.2 = s3.2, a1.2 = a1.2, (lenI a1.2) = (lenI a1.2), (0 : Int) = (0 : Int), a0.1 = a0.1, a0.2.1 = a0.2.1, a0.2.2.1 = a0.2.2.1, a0.2.2.2 = a0.2.2.2, a1.1 = a1.1, a1.2 = a1.2]) (st' := ⟨[(2, .one (.ptr 0 0)), (3, .one (.ptr 1 0)), (5, .one (.dat (.int .i64) s3.1)), (16, .one (.dat (.int .i64) a0.1)), (17, .one (.dat (.int .i64) s3.2)), (20, .one (.dat (.sl (.int .i64)) a1.2)), (21, .one (.dat (.int .i64) (lenI a1.2))), (22, .one (.dat (.int .i64) (0 : Int)))], [(0, .box [.dat (.int .i64) a0.1, .dat (.int .i64) a0.2.1, .dat (.sl (.int .i64)) a0.2.2.1, .dat (.sl .bool) a0.2.2.2]), (1, .box [.dat (.sl (.int .i64)) a1.1, .dat (.sl (.int .i64)) a1.2])], 2⟩) hO (fun h => by cases h) (by kernel_rfl) ⟨rfl, rfl, rfl, rfl, rfl, rfl, rfl, rfl, rfl, rfl, rfl, rfl, trivial⟩).ht ?_
      refine HT.loopE (s := (s3.1, (0 : Int))) (fun (s31 : Int × Int) => ⟨[(2, .one (.ptr 0 0)), (3, .one (.ptr 1 0)), (5, .one (.dat (.int .i64) s31.1)), (16, .one (.dat (.int .i64) a0.1)), (17, .one (.dat (.int .i64) s3.2)), (20, .one (.dat (.sl (.int .i64)) a1.2)), (21, .one (.dat (.int .i64) (lenI a1.2))), (22, .one (.dat (.int .i64) s31.2))], [(0, .box [.dat (.int .i64) a0.1, .dat (.int .i64) a0.2.1, .dat (.sl (.int .i64)) a0.2.2.1, .dat (.sl .bool) a0.2.2.2]), (1, .box [.dat (.sl (.int .i64)) a1.1, .dat (.sl (.int .i64)) a1.2])], 2⟩) (fun (r33 : Int) => (.exit 2, ⟨[(2, .one (.ptr 0 0)), (3, .one (.ptr 1 0)), (5, .one (.dat (.int .i64) r33)), (16, .one (.dat (.int .i64) a0.1)), (17, .one (.dat (.int .i64) s3.2))], [(0, .box [.dat (.int .i64) a0.1, .dat (.int .i64) a0.2.1, .dat (.sl (.int .i64)) a0.2.2.1, .dat (.sl .bool) a0.2.2.2]), (1, .box [.dat (.sl (.int .i64)) a1.1, .dat (.sl (.int .i64)) a1.2])], 2⟩)) hL41 ?_ (fun s31 x34 hx35 hk36 => ?_)
      · refine (qBlockX (qBlock (qThen ?_)))
        have hx28 := of_some hx28
        subst hx28
        refine HT.reg (rs := [⟨none, .no⟩, ⟨none, .no⟩]) (st' := ⟨[(17, .one (.dat (.int .i64) (wadd .i64 s3.2 (1 : Int)))), (31, .one (.dat (.int .i64) (wadd .i64 s3.2 (1 : Int)))), (2, .one (.ptr 0 0)), (3, .one (.ptr 1 0)), (5, .one (.dat (.int .i64) r32)), (16, .one (.dat (.int .i64) a0.1)), (17, .one (.dat (.int .i64) s3.2))], [(0, .box [.dat (.int .i64) a0.1, .dat (.int .i64) a0.2.1, .dat (.sl (.int .i64)) a0.2.2.1, .dat (.sl .bool) a0.2.2.2]), (1, .box [.dat (.sl (.int .i64)) a1.1, .dat (.sl (.int .i64)) a1.2])], 2⟩) hP hN (by kernel_rfl) allNil (qLoopN ⟨(r32, (wadd .i64 s3.2 (1 : Int))), rfl, Le.cv (s := ⟨[(0, 0), (1, 1)], [], [], false⟩) (own := []) (ps := [r32 = r32, a0.1 = a0.1, (wadd .i64 s3.2 (1 : Int)) = (wadd .i64 s3.2 (1 : Int)), a0.1 = a0.1, a0.2.1 = a0.2.1, a0.2.2.1 = a0.2.2.1, a0.2.2.2 = a0.2.2.2, a1.1 = a1.1, a1.2 = a1.2]) (st' := ⟨[(2, .one (.ptr 0 0)), (3, .one (.ptr 1 0)), (5, .one (.dat (.int .i64) r32)), (16, .one (.dat (.int .i64) a0.1)), (17, .one (.dat (.int .i64) (wadd .i64 s3.2 (1 : Int))))], [(0, .box [.dat (.int .i64) a0.1, .dat (.int .i64) a0.2.1, .dat (.sl (.int .i64)) a0.2.2.1, .dat (.sl .bool) a0.2.2.2]), (1, .box [.dat (.sl (.int .i64)) a1.1, .dat (.sl (.int .i64)) a1.2])], 2⟩) hO (fun h => by cases h) (by kernel_rfl) ⟨rfl, rfl, rfl, rfl, rfl, rfl, rfl, rfl, rfl, trivial⟩⟩)
      · refine HT.reg1 [2, 3, 5, 16, 17, 20, 21, 22, 23] [⟨none, .no⟩] ⟨[(2, .one (.ptr 0 0)), (3, .one (.ptr 1 0)), (5, .one (.dat (.int .i64) s31.1)), (16, .one (.dat (.int .i64) a0.1)), (17, .one (.dat (.int .i64) s3.2)), (20, .one (.dat (.sl (.int .i64)) a1.2)), (21, .one (.dat (.int .i64) (lenI a1.2))), (22, .one (.dat (.int .i64) s31.2)), (23, .one (.dat .bool (decide (s31.2 < (lenI a1.2)))))], [(0, .box [.dat (.int .i64) a0.1, .dat (.int .i64) a0.2.1, .dat (.sl (.int .i64)) a0.2.2.1, .dat (.sl .bool) a0.2.2.2]), (1, .box [.dat (.sl (.int .i64)) a1.1, .dat (.sl (.int .i64)) a1.2])], 2⟩ hP hN (by kernel_rfl) allNil ?_
        refine HT.seq ?_
        rcases of_bif hx35 with ⟨hb37, hx35⟩ | ⟨hb37, hx35⟩
        · refine HT.cond1 rfl hb37 ?_
          refine HT.skip (qThen ?_)
          refine HT.seq ?_
          refine HT.block ?_
          obtain ⟨hg38, hx35⟩ := of_guard hx35
          refine HT.reg1 [2, 3, 5, 7, 16, 17, 20, 21, 22] [⟨none, .no⟩, ⟨none, .no⟩, ⟨none, .no⟩] ⟨[(2, .one (.ptr 0 0)), (3, .one (.ptr 1 0)), (5, .one (.dat (.int .i64) s31.1)), (7, .one (.dat (.int .i64) (List.getD a1.2 (Int.toNat s31.2) (0 : Int)))), (16, .one (.dat (.int .i64) a0.1)), (17, .one (.dat (.int .i64) s3.2)), (20, .one (.dat (.sl (.int .i64)) a1.2)), (21, .one (.dat (.int .i64) (lenI a1.2))), (22, .one (.dat (.int .i64) s31.2))], [(0, .box [.dat (.int .i64) a0.1, .dat (.int .i64) a0.2.1, .dat (.sl (.int .i64)) a0.2.2.1, .dat (.sl .bool) a0.2.2.2]), (1, .box [.dat (.sl (.int .i64)) a1.1, .dat (.sl (.int .i64)) a1.2])], 2⟩ hP hN (by kernel_rfl) (allCons hg38 allNil) ?_
          obtain ⟨y39, hc40, hx35⟩ := of_bind hx35
          refine HT.reg (rs := [⟨none, .no⟩, ⟨none, .no⟩, ⟨none, .no⟩, ⟨none, .call [.imm (.st (.pair (.int .i64) (.pair (.int .i64) (.pair (.sl (.int .i64)) (.sl .bool))))), .imm (.int .i64), .imm (.int .i64)] [⟨false, (.int .i64), y39⟩] []⟩, ⟨none, .no⟩]) (st' := ⟨[(5, .one (.dat (.int .i64) y39)), (29, .one (.dat (.int .i64) y39)), (28, .one (.dat (.int .i64) (List.getD a1.2 (Int.toNat s31.2) (0 : Int)))), (27, .one (.dat (.int .i64) s31.1)), (26, .agg [.dat (.int .i64) a0.1, .dat (.int .i64) a0.2.1, .dat (.sl (.int .i64)) a0.2.2.1, .dat (.sl .bool) a0.2.2.2]), (2, .one (.ptr 0 0)), (3, .one (.ptr 1 0)), (5, .one (.dat (.int .i64) s31.1)), (7, .one (.dat (.int .i64) (List.getD a1.2 (Int.toNat s31.2) (0 : Int)))), (16, .one (.dat (.int .i64) a0.1)), (17, .one (.dat (.int .i64) s3.2)), (20, .one (.dat (.sl (.int .i64)) a1.2)), (21, .one (.dat (.int .i64) (lenI a1.2))), (22, .one (.dat (.int .i64) s31.2))], [(0, .box [.dat (.int .i64) a0.1, .dat (.int .i64) a0.2.1, .dat (.sl (.int .i64)) a0.2.2.1, .dat (.sl .bool) a0.2.2.2]), (1, .box [.dat (.sl (.int .i64)) a1.1, .dat (.sl (.int .i64)) a1.2])], 2⟩) hP hN (by kernel_rfl) (allCons (f146_ok hc40) allNil) (qBlock (qThen ?_))
          have hx35 := of_some hx35
          subst hx35
          refine HT.reg (rs := [⟨none, .no⟩, ⟨none, .no⟩]) (st' := ⟨[(22, .one (.dat (.int .i64) (wadd .i64 s31.2 (1 : Int)))), (30, .one (.dat (.int .i64) (wadd .i64 s31.2 (1 : Int)))), (5, .one (.dat (.int .i64) y39)), (29, .one (.dat (.int .i64) y39)), (28, .one (.dat (.int .i64) (List.getD a1.2 (Int.toNat s31.2) (0 : Int)))), (27, .one (.dat (.int .i64) s31.1)), (26, .agg [.dat (.int .i64) a0.1, .dat (.int .i64) a0.2.1, .dat (.sl (.int .i64)) a0.2.2.1, .dat (.sl .bool) a0.2.2.2]), (2, .one (.ptr 0 0)), (3, .one (.ptr 1 0)), (5, .one (.dat (.int .i64) s31.1)), (7, .one (.dat (.int .i64) (List.getD a1.2 (Int.toNat s31.2) (0 : Int)))), (16, .one (.dat (.int .i64) a0.1)), (17, .one (.dat (.int .i64) s3.2)), (20, .one (.dat (.sl (.int .i64)) a1.2)), (21, .one (.dat (.int .i64) (lenI a1.2))), (22, .one (.dat (.int .i64) s31.2))], [(0, .box [.dat (.int .i64) a0.1, .dat (.int .i64) a0.2.1, .dat (.sl (.int .i64)) a0.2.2.1, .dat (.sl .bool) a0.2.2.2]), (1, .box [.dat (.sl (.int .i64)) a1.1, .dat (.sl (.int .i64)) a1.2])], 2⟩) hP hN (by kernel_rfl) allNil (qLoopN ⟨(y39, (wadd .i64 s31.2 (1 : Int))), rfl, Le.cv (s := ⟨[(0, 0), (1, 1)], [], [], false⟩) (own := []) (ps := [y39 = y39, a0.1 = a0.1, s3.2 = s3.2, a1.2 = a1.2, (lenI a1.2) = (lenI a1.2), (wadd .i64 s31.2 (1 : Int)) = (wadd .i64 s31.2 (1 : Int)), a0.1 = a0.1, a0.2.1 = a0.2.1, a0.2.2.1 = a0.2.2.1, a0.2.2.2 = a0.2.2.2, a1.1 = a1.1, a1.2 = a1.2]) (st' := ⟨[(2, .one (.ptr 0 0)), (3, .one (.ptr 1 0)), (5, .one (.dat (.int .i64) y39)), (16, .one (.dat (.int .i64) a0.1)), (17, .one (.dat (.int .i64) s3.2)), (20, .one (.dat (.sl (.int .i64)) a1.2)), (21, .one (.dat (.int .i64) (lenI a1.2))), (22, .one (.dat (.int .i64) (wadd .i64 s31.2 (1 : Int))))], [(0, .box [.dat (.int .i64) a0.1, .dat (.int .i64) a0.2.1, .dat (.sl (.int .i64)) a0.2.2.1, .dat (.sl .bool) a0.2.2.2]), (1, .box [.dat (.sl (.int .i64)) a1.1, .dat (.sl (.int .i64)) a1.2])], 2⟩) hO (fun h => by cases h) (by kernel_rfl) ⟨rfl, rfl, rfl, rfl, rfl, rfl, rfl, rfl, rfl, rfl, rfl, rfl, trivial⟩⟩)
        · refine HT.cond0 rfl hb37 ?_
          have hx35 := of_some hx35
          subst hx35
          refine (Le.cv (s := ⟨[(0, 0), (1, 1)], [], [], false⟩) (own := []) (ps := [s31.1 = s31.1, a0.1 = a0.1, s3.2 = s3.2, a0.1 = a0.1, a0.2.1 = a0.2.1, a0.2.2.1 = a0.2.2.1, a0.2.2.2 = a0.2.2.2, a1.1 = a1.1, a1.2 = a1.2]) (st' := ⟨[(2, .one (.ptr 0 0)), (3, .one (.ptr 1 0)), (5, .one (.dat (.int .i64) s31.1)), (16, .one (.dat (.int .i64) a0.1)), (17, .one (.dat (.int .i64) s3.2))], [(0, .box [.dat (.int .i64) a0.1, .dat (.int .i64) a0.2.1, .dat (.sl (.int .i64)) a0.2.2.1, .dat (.sl .bool) a0.2.2.2]), (1, .box [.dat (.sl (.int .i64)) a1.1, .dat (.sl (.int .i64)) a1.2])], 2⟩) hO (fun h => by cases h) (by kernel_rfl) ⟨rfl, rfl, rfl, rfl, rfl, rfl, rfl, rfl, rfl, trivial⟩).ht ?_
          exact HT.exit (qThenE (qLoopE (hk36 s31.1 rfl)))
    · refine HT.cond0 rfl hb30 ?_
      have hx28 := of_some hx28
      subst hx28
      refine (Le.cv (s := ⟨[(0, 0), (1, 1)], [], [], false⟩) (own := []) (ps := [s3.1 = s3.1, a0.1 = a0.1, a0.2.1 = a0.2.1, a0.2.2.1 = a0.2.2.1, a0.2.2.2 = a0.2.2.2, a1.1 = a1.1, a1.2 = a1.2]) (st' := ⟨[(2, .one (.ptr 0 0)), (3, .one (.ptr 1 0)), (5, .one (.dat (.int .i64) s3.1))], [(0, .box [.dat (.int .i64) a0.1, .dat (.int .i64) a0.2.1, .dat (.sl (.int .i64)) a0.2.2.1, .dat (.sl .bool) a0.2.2.2]), (1, .box [.dat (.sl (.int .i64)) a1.1, .dat (.sl (.int .i64)) a1.2])], 2⟩) hO (fun h => by cases h) (by kernel_rfl) ⟨rfl, rfl, rfl, rfl, rfl, rfl, rfl, trivial⟩).ht ?_
      exact HT.exit (qThenE (qLoopE (hk29 s3.1 rfl)))

noncomputable def impl_readsLoop_B1 (a0 : Int × Int × List Int × List Bool) (y1 : List Bool) (s3 : Int) : Option ((Int) ⊕ (Unit ⊕ Unit)) :=
  bif (decide (s3 < (lenI y1))) then
    guardP ((0 : Int) ≤ s3 ∧ s3 < lenI y1) (
      (show Option (Bool) from
        bif (List.getD y1 (Int.toNat s3) false) then
          guardP ((0 : Int) ≤ s3 ∧ s3 < lenI a0.2.2.2) (
            some (List.getD a0.2.2.2 (Int.toNat s3) false))
        else
          some false).bind fun v12 =>
      bif v12 then
        some (.inr (.inr ()))
      else
        some (.inl (wadd .i64 s3 (1 : Int))))
  else
    some (.inr (.inl ()))

noncomputable def impl_readsLoop (a0 : Int × Int × List Int × List Bool) (a1 : List Int × List Int) : Option (Bool) :=
  (impl_statesOfLoop (a0.1, a0.2.1, a0.2.2.1, a0.2.2.2) (a1.1, a1.2)).bind fun y1 =>
  (rounds (impl_readsLoop_B1 a0 y1) (0 : Int)).bind fun r4 => match r4 with
    | .inl r5 =>
      some false
    | .inr r6 =>
      some true

theorem f81_ok {a0 : Int × Int × List Int × List Bool} {a1 : List Int × List Int} {r : Bool} (hr : impl_readsLoop a0 a1 = some r) : CallOK Try.prog 81 [.imm (.st (.pair (.int .i64) (.pair (.int .i64) (.pair (.sl (.int .i64)) (.sl .bool))))) a0, .imm (.st (.pair (.sl (.int .i64)) (.sl (.int .i64)))) a1] [⟨false, .bool, r⟩] [] := by
  unfold impl_readsLoop at hr
  refine CallOK.of_body (ts := [(false, .bool)]) Try.func81 rfl (by kernel_rfl) (Nat.le_of_ble_eq_true (by kernel_rfl)) fun cx hP hN hO hF => ?_
  have hO : cx.own.map Prod.fst = [] := hO
  have hF := hF rfl
  show HT cx ⟨[(0, .agg [.dat (.int .i64) a0.1, .dat (.int .i64) a0.2.1, .dat (.sl (.int .i64)) a0.2.2.1, .dat (.sl .bool) a0.2.2.2]), (1, .agg [.dat (.sl (.int .i64)) a1.1, .dat (.sl (.int .i64)) a1.2])], [], 0⟩ _ _
  refine HT.reg1 [2, 3] [⟨none, .no⟩, ⟨none, .no⟩, ⟨none, .no⟩] ⟨[(2, .one (.ptr 0 0)), (3, .one (.ptr 1 0))], [(1, .box [.dat (.sl (.int .i64)) a1.1, .dat (.sl (.int .i64)) a1.2]), (0, .box [.dat (.int .i64) a0.1, .dat (.int .i64) a0.2.1, .dat (.sl (.int .i64)) a0.2.2.1, .dat (.sl .bool) a0.2.2.2])], 2⟩ hP hN (by kernel_rfl) allNil ?_
  refine HT.seq ?_
  obtain ⟨y1, hc2, hr⟩ := of_bind hr
  refine HT.reg1 [2, 9, 10, 11] [⟨none, .no⟩, ⟨none, .no⟩, ⟨none, .call [.imm (.st (.pair (.int .i64) (.pair (.int .i64) (.pair (.sl (.int .i64)) (.sl .bool))))), .imm (.st (.pair (.sl (.int .i64)) (.sl (.int .i64))))] [⟨true, (.sl .bool), y1⟩] []⟩, ⟨none, .no⟩, ⟨none, .no⟩] ⟨[(2, .one (.ptr 0 0)), (9, .one (.all 2)), (10, .one (.dat (.int .i64) (lenI y1))), (11, .one (.dat (.int .i64) (0 : Int)))], [(2, .seq .bool y1), (1, .box [.dat (.sl (.int .i64)) a1.1, .dat (.sl (.int .i64)) a1.2]), (0, .box [.dat (.int .i64) a0.1, .dat (.int .i64) a0.2.1, .dat (.sl (.int .i64)) a0.2.2.1, .dat (.sl .bool) a0.2.2.2])], 3⟩ hP hN (by kernel_rfl) (allCons (f121_ok hc2) allNil) ?_
  refine HT.block ?_
  obtain ⟨r4, hL18, hr⟩ := of_bind hr
  refine (Le.cv (s := ⟨[(0, 0), (2, 1)], [], [], false⟩) (own := []) (ps := [(lenI y1) = (lenI y1), (0 : Int) = (0 : Int), a0.1 = a0.1, a0.2.1 = a0.2.1, a0.2.2.1 = a0.2.2.1, a0.2.2.2 = a0.2.2.2, y1 = y1]) (st' := ⟨[(2, .one (.ptr 0 0)), (9, .one (.all 1)), (10, .one (.dat (.int .i64) (lenI y1))), (11, .one (.dat (.int .i64) (0 : Int)))], [(0, .box [.dat (.int .i64) a0.1, .dat (.int .i64) a0.2.1, .dat (.sl (.int .i64)) a0.2.2.1, .dat (.sl .bool) a0.2.2.2]), (1, .seq .bool y1)], 2⟩) hO (fun h => by cases h) (by kernel_rfl) ⟨rfl, rfl, rfl, rfl, rfl, rfl, rfl, trivial⟩).ht ?_
  refine HT.loopE (s := (0 : Int)) (fun (s3 : Int) => ⟨[(2, .one (.ptr 0 0)), (9, .one (.all 1)), (10, .one (.dat (.int .i64) (lenI y1))), (11, .one (.dat (.int .i64) s3))], [(0, .box [.dat (.int .i64) a0.1, .dat (.int .i64) a0.2.1, .dat (.sl (.int .i64)) a0.2.2.1, .dat (.sl .bool) a0.2.2.2]), (1, .seq .bool y1)], 2⟩) (fun (r4 : Unit ⊕ Unit) => match r4 with | .inl r5 => (.exit 0, ⟨[], [], 0⟩) | .inr r6 => (.ret, ⟨[(4, .one (.dat .bool true))], [], 0⟩)) hL18 ?_ (fun s3 x7 hx8 hk9 => ?_)
  · rcases r4 with r5 | r6
    · refine (qBlockX (qThen ?_))
      refine HT.reg1 [4] [⟨none, .no⟩] ⟨[(4, .one (.dat .bool false))], [], 0⟩ hP hN (by kernel_rfl) allNil ?_
      have hr := of_some hr
      subst hr
      exact HT.ret ⟨[.one (.dat .bool false)], [], [], by kernel_rfl, by kernel_rfl, rfl, by kernel_rfl, by kernel_rfl, trivial⟩
    · have hr := of_some hr
      subst hr
      exact (qBlockR (qThenR ⟨[.one (.dat .bool true)], [], [], by kernel_rfl, by kernel_rfl, rfl, by kernel_rfl, by kernel_rfl, trivial⟩))
  · refine HT.reg1 [2, 9, 10, 11, 12] [⟨none, .no⟩] ⟨[(2, .one (.ptr 0 0)), (9, .one (.all 1)), (10, .one (.dat (.int .i64) (lenI y1))), (11, .one (.dat (.int .i64) s3)), (12, .one (.dat .bool (decide (s3 < (lenI y1)))))], [(0, .box [.dat (.int .i64) a0.1, .dat (.int .i64) a0.2.1, .dat (.sl (.int .i64)) a0.2.2.1, .dat (.sl .bool) a0.2.2.2]), (1, .seq .bool y1)], 2⟩ hP hN (by kernel_rfl) allNil ?_
    refine HT.seq ?_
    rcases of_bif hx8 with ⟨hb10, hx8⟩ | ⟨hb10, hx8⟩
    · refine HT.cond1 rfl hb10 ?_
      refine HT.skip (qThen ?_)
      refine HT.seq ?_
      refine HT.block ?_
      obtain ⟨hg11, hx8⟩ := of_guard hx8
      refine HT.reg1 [2, 5, 6, 9, 10, 11] [⟨none, .no⟩, ⟨none, .no⟩, ⟨none, .no⟩, ⟨none, .no⟩, ⟨none, .no⟩] ⟨[(2, .one (.ptr 0 0)), (5, .one (.dat (.int .i64) s3)), (6, .one (.dat .bool (List.getD y1 (Int.toNat s3) false))), (9, .one (.all 1)), (10, .one (.dat (.int .i64) (lenI y1))), (11, .one (.dat (.int .i64) s3))], [(0, .box [.dat (.int .i64) a0.1, .dat (.int .i64) a0.2.1, .dat (.sl (.int .i64)) a0.2.2.1, .dat (.sl .bool) a0.2.2.2]), (1, .seq .bool y1)], 2⟩ hP hN (by kernel_rfl) (allCons hg11 (allCons (natLt hg11) allNil)) ?_
      obtain ⟨v12', hT14, hx8⟩ := of_bind hx8
      refine HT.join (fun (v12 : Bool) => ⟨[(2, .one (.ptr 0 0)), (9, .one (.all 1)), (10, .one (.dat (.int .i64) (lenI y1))), (11, .one (.dat (.int .i64) s3)), (23, .one (.dat .bool v12))], [(0, .box [.dat (.int .i64) a0.1, .dat (.int .i64) a0.2.1, .dat (.sl (.int .i64)) a0.2.2.1, .dat (.sl .bool) a0.2.2.2]), (1, .seq .bool y1)], 2⟩) (fun v => v = v12') (fun v12 hv13 => ?_) (fun cont => ?_)
      · subst hv13
        rcases of_bif hx8 with ⟨hb15, hx8⟩ | ⟨hb15, hx8⟩
        · refine HT.cond1 rfl hb15 ?_
          refine HT.reg1 [4] [⟨none, .no⟩] ⟨[(4, .one (.dat .bool true))], [(0, .box [.dat (.int .i64) a0.1, .dat (.int .i64) a0.2.1, .dat (.sl (.int .i64)) a0.2.2.1, .dat (.sl .bool) a0.2.2.2]), (1, .seq .bool y1)], 2⟩ hP hN (by kernel_rfl) allNil ?_
          have hx8 := of_some hx8
          subst hx8
          refine (Le.cv (s := ⟨[], [], [], false⟩) (own := []) (ps := [true = true]) (st' := ⟨[(4, .one (.dat .bool true))], [], 0⟩) hO (fun h => by cases h) (by kernel_rfl) ⟨rfl, trivial⟩).ht ?_
          exact HT.ret (qBlockR (qThenR (qLoopR (hk9 (.inr ()) rfl))))
        · refine HT.cond0 rfl hb15 ?_
          refine HT.skip (qBlock (qThen ?_))
          have hx8 := of_some hx8
          subst hx8
          refine HT.reg (rs := [⟨none, .no⟩, ⟨none, .no⟩]) (st' := ⟨[(11, .one (.dat (.int .i64) (wadd .i64 s3 (1 : Int)))), (24, .one (.dat (.int .i64) (wadd .i64 s3 (1 : Int)))), (2, .one (.ptr 0 0)), (9, .one (.all 1)), (10, .one (.dat (.int .i64) (lenI y1))), (11, .one (.dat (.int .i64) s3)), (23, .one (.dat .bool v12))], [(0, .box [.dat (.int .i64) a0.1, .dat (.int .i64) a0.2.1, .dat (.sl (.int .i64)) a0.2.2.1, .dat (.sl .bool) a0.2.2.2]), (1, .seq .bool y1)], 2⟩) hP hN (by kernel_rfl) allNil (qLoopN ⟨(wadd .i64 s3 (1 : Int)), rfl, Le.cv (s := ⟨[(0, 0), (1, 1)], [], [], false⟩) (own := []) (ps := [(lenI y1) = (lenI y1), (wadd .i64 s3 (1 : Int)) = (wadd .i64 s3 (1 : Int)), a0.1 = a0.1, a0.2.1 = a0.2.1, a0.2.2.1 = a0.2.2.1, a0.2.2.2 = a0.2.2.2, y1 = y1]) (st' := ⟨[(2, .one (.ptr 0 0)), (9, .one (.all 1)), (10, .one (.dat (.int .i64) (lenI y1))), (11, .one (.dat (.int .i64) (wadd .i64 s3 (1 : Int))))], [(0, .box [.dat (.int .i64) a0.1, .dat (.int .i64) a0.2.1, .dat (.sl (.int .i64)) a0.2.2.1, .dat (.sl .bool) a0.2.2.2]), (1, .seq .bool y1)], 2⟩) hO (fun h => by cases h) (by kernel_rfl) ⟨rfl, rfl, rfl, rfl, rfl, rfl, rfl, trivial⟩⟩)
      · rcases of_bif hT14 with ⟨hb16, hT14⟩ | ⟨hb16, hT14⟩
        · obtain ⟨hg17, hT14⟩ := of_guard hT14
          refine HT.reg (rs := [⟨none, .no⟩, ⟨none, .no⟩, ⟨some true, .no⟩, ⟨some true, .no⟩, ⟨some true, .no⟩, ⟨some true, .no⟩, ⟨some true, .no⟩, ⟨none, .tv true⟩]) (st' := ⟨[(23, .one (.dat .bool (List.getD a0.2.2.2 (Int.toNat s3) false))), (22, .one (.dat .bool (List.getD a0.2.2.2 (Int.toNat s3) false))), (21, .one (.ip .bool (List.getD a0.2.2.2 (Int.toNat s3) false) 0)), (20, .one (.dat (.int .i64) s3)), (19, .one (.dat (.sl .bool) a0.2.2.2)), (18, .one (.ptr 0 3)), (17, .one (.dat .bool (List.getD y1 (Int.toNat s3) false))), (16, .one (.dat .bool (List.getD y1 (Int.toNat s3) false))), (2, .one (.ptr 0 0)), (5, .one (.dat (.int .i64) s3)), (6, .one (.dat .bool (List.getD y1 (Int.toNat s3) false))), (9, .one (.all 1)), (10, .one (.dat (.int .i64) (lenI y1))), (11, .one (.dat (.int .i64) s3))], [(0, .box [.dat (.int .i64) a0.1, .dat (.int .i64) a0.2.1, .dat (.sl (.int .i64)) a0.2.2.1, .dat (.sl .bool) a0.2.2.2]), (1, .seq .bool y1)], 2⟩) hP hN (by kernel_rfl) (allCons hb16 (allCons hb16 (allCons hb16 (allCons hb16 (allCons hg17 (allCons hb16 (allCons hb16 allNil))))))) (qThen ?_)
          exact (Le.cv (s := ⟨[(0, 0), (1, 1)], [], [], false⟩) (own := []) (ps := [(lenI y1) = (lenI y1), s3 = s3, (List.getD a0.2.2.2 (Int.toNat s3) false) = (List.getD a0.2.2.2 (Int.toNat s3) false), a0.1 = a0.1, a0.2.1 = a0.2.1, a0.2.2.1 = a0.2.2.1, a0.2.2.2 = a0.2.2.2, y1 = y1]) (st' := ⟨[(2, .one (.ptr 0 0)), (9, .one (.all 1)), (10, .one (.dat (.int .i64) (lenI y1))), (11, .one (.dat (.int .i64) s3)), (23, .one (.dat .bool (List.getD a0.2.2.2 (Int.toNat s3) false)))], [(0, .box [.dat (.int .i64) a0.1, .dat (.int .i64) a0.2.1, .dat (.sl (.int .i64)) a0.2.2.1, .dat (.sl .bool) a0.2.2.2]), (1, .seq .bool y1)], 2⟩) hO (fun h => by cases h) (by kernel_rfl) ⟨rfl, rfl, rfl, rfl, rfl, rfl, rfl, rfl, trivial⟩).ht (cont (List.getD a0.2.2.2 (Int.toNat s3) false) (of_some hT14))
        · refine HT.reg (rs := [⟨none, .no⟩, ⟨none, .no⟩, ⟨some false, .no⟩, ⟨some false, .no⟩, ⟨some false, .no⟩, ⟨some false, .no⟩, ⟨some false, .no⟩, ⟨none, .tv false⟩]) (st' := ⟨[(23, .one (.dat .bool false)), (22, .und), (21, .und), (20, .und), (19, .und), (18, .und), (17, .one (.dat .bool (List.getD y1 (Int.toNat s3) false))), (16, .one (.dat .bool (List.getD y1 (Int.toNat s3) false))), (2, .one (.ptr 0 0)), (5, .one (.dat (.int .i64) s3)), (6, .one (.dat .bool (List.getD y1 (Int.toNat s3) false))), (9, .one (.all 1)), (10, .one (.dat (.int .i64) (lenI y1))), (11, .one (.dat (.int .i64) s3))], [(0, .box [.dat (.int .i64) a0.1, .dat (.int .i64) a0.2.1, .dat (.sl (.int .i64)) a0.2.2.1, .dat (.sl .bool) a0.2.2.2]), (1, .seq .bool y1)], 2⟩) hP hN (by kernel_rfl) (allCons hb16 (allCons hb16 (allCons hb16 (allCons hb16 (allCons hb16 (allCons hb16 allNil)))))) (qThen ?_)
          exact (Le.cv (s := ⟨[(0, 0), (1, 1)], [], [], false⟩) (own := []) (ps := [(lenI y1) = (lenI y1), s3 = s3, false = false, a0.1 = a0.1, a0.2.1 = a0.2.1, a0.2.2.1 = a0.2.2.1, a0.2.2.2 = a0.2.2.2, y1 = y1]) (st' := ⟨[(2, .one (.ptr 0 0)), (9, .one (.all 1)), (10, .one (.dat (.int .i64) (lenI y1))), (11, .one (.dat (.int .i64) s3)), (23, .one (.dat .bool false))], [(0, .box [.dat (.int .i64) a0.1, .dat (.int .i64) a0.2.1, .dat (.sl (.int .i64)) a0.2.2.1, .dat (.sl .bool) a0.2.2.2]), (1, .seq .bool y1)], 2⟩) hO (fun h => by cases h) (by kernel_rfl) ⟨rfl, rfl, rfl, rfl, rfl, rfl, rfl, rfl, trivial⟩).ht (cont false (of_some hT14))
    · refine HT.cond0 rfl hb10 ?_
      have hx8 := of_some hx8
      subst hx8
      refine (Le.cv (s := ⟨[], [], [], false⟩) (own := []) (ps := []) (st' := ⟨[], [], 0⟩) hO (fun h => by cases h) (by kernel_rfl) trivial).ht ?_
      exact HT.exit (qThenE (qLoopE (hk9 (.inl ()) rfl)))

noncomputable def impl_within (a0 : Int) (a1 : Int) (a2 : Int) : Option (Bool) :=
  (show Option (Bool) from
    bif (decide (a0 ≥ a1)) then
      some (decide (a0 ≤ a2))
    else
      some false).bind fun v1 =>
  some v1

theorem f69_ok {a0 : Int} {a1 : Int} {a2 : Int} {r : Bool} (hr : impl_within a0 a1 a2 = some r) : CallOK Try.prog 69 [.imm (.int .i64) a0, .imm (.int .i64) a1, .imm (.int .i64) a2] [⟨false, .bool, r⟩] [] := by
  unfold impl_within at hr
  refine CallOK.of_body (ts := [(false, .bool)]) Try.func69 rfl (by kernel_rfl) (Nat.le_of_ble_eq_true (by kernel_rfl)) fun cx hP hN hO hF => ?_
  have hO : cx.own.map Prod.fst = [] := hO
  have hF := hF rfl
  show HT cx ⟨[(0, .one (.dat (.int .i64) a0)), (1, .one (.dat (.int .i64) a1)), (2, .one (.dat (.int .i64) a2))], [], 0⟩ _ _
  refine HT.reg1 [0, 1, 2] [⟨none, .no⟩] ⟨[(0, .one (.dat (.int .i64) a0)), (1, .one (.dat (.int .i64) a1)), (2, .one (.dat (.int .i64) a2))], [], 0⟩ hP hN (by kernel_rfl) allNil ?_
  obtain ⟨v1', hT3, hr⟩ := of_bind hr
  refine HT.join (fun (v1 : Bool) => ⟨[(6, .one (.dat .bool v1))], [], 0⟩) (fun v => v = v1') (fun v1 hv2 => ?_) (fun cont => ?_)
  · subst hv2
    have hr := of_some hr
    subst hr
    exact HT.ret ⟨[.one (.dat .bool v1)], [], [], by kernel_rfl, by kernel_rfl, rfl, by kernel_rfl, by kernel_rfl, trivial⟩
  · rcases of_bif hT3 with ⟨hb4, hT3⟩ | ⟨hb4, hT3⟩
    · refine HT.reg (rs := [⟨none, .no⟩, ⟨none, .no⟩, ⟨none, .no⟩, ⟨none, .no⟩, ⟨some true, .no⟩, ⟨some true, .no⟩, ⟨some true, .no⟩, ⟨none, .tv true⟩, ⟨none, .no⟩]) (st' := ⟨[(6, .one (.dat .bool (decide (a0 ≤ a2)))), (14, .one (.dat .bool (decide (a0 ≤ a2)))), (13, .one (.dat .bool (decide (a0 ≤ a2)))), (12, .one (.dat (.int .i64) a2)), (11, .one (.dat (.int .i64) a0)), (10, .one (.dat .bool (decide (a0 ≥ a1)))), (9, .one (.dat .bool (decide (a0 ≥ a1)))), (8, .one (.dat (.int .i64) a1)), (7, .one (.dat (.int .i64) a0)), (0, .one (.dat (.int .i64) a0)), (1, .one (.dat (.int .i64) a1)), (2, .one (.dat (.int .i64) a2))], [], 0⟩) hP hN (by kernel_rfl) (allCons hb4 (allCons hb4 (allCons hb4 (allCons hb4 allNil)))) (qThen ?_)
      exact (Le.cv (s := ⟨[], [], [], false⟩) (own := []) (ps := [(decide (a0 ≤ a2)) = (decide (a0 ≤ a2))]) (st' := ⟨[(6, .one (.dat .bool (decide (a0 ≤ a2))))], [], 0⟩) hO (fun h => by cases h) (by kernel_rfl) ⟨rfl, trivial⟩).ht (cont (decide (a0 ≤ a2)) (of_some hT3))
    · refine HT.reg (rs := [⟨none, .no⟩, ⟨none, .no⟩, ⟨none, .no⟩, ⟨none, .no⟩, ⟨some false, .no⟩, ⟨some false, .no⟩, ⟨some false, .no⟩, ⟨none, .tv false⟩, ⟨none, .no⟩]) (st' := ⟨[(6, .one (.dat .bool false)), (14, .one (.dat .bool false)), (13, .und), (12, .und), (11, .und), (10, .one (.dat .bool (decide (a0 ≥ a1)))), (9, .one (.dat .bool (decide (a0 ≥ a1)))), (8, .one (.dat (.int .i64) a1)), (7, .one (.dat (.int .i64) a0)), (0, .one (.dat (.int .i64) a0)), (1, .one (.dat (.int .i64) a1)), (2, .one (.dat (.int .i64) a2))], [], 0⟩) hP hN (by kernel_rfl) (allCons hb4 (allCons hb4 (allCons hb4 (allCons hb4 allNil)))) (qThen ?_)
      exact (Le.cv (s := ⟨[], [], [], false⟩) (own := []) (ps := [false = false]) (st' := ⟨[(6, .one (.dat .bool false))], [], 0⟩) hO (fun h => by cases h) (by kernel_rfl) ⟨rfl, trivial⟩).ht (cont false (of_some hT3))

noncomputable def impl_areWithin_B1 (a0 : List Int) (a1 : Int) (a2 : Int) (s1 : Int) : Option ((Int) ⊕ (Unit ⊕ Unit)) :=
  bif (decide (s1 < (lenI a0))) then
    guardP ((0 : Int) ≤ s1 ∧ s1 < lenI a0) (
      (impl_within (List.getD a0 (Int.toNat s1) (0 : Int)) a1 a2).bind fun y10 =>
      bif (!y10) then
        some (.inr (.inr ()))
      else
        some (.inl (wadd .i64 s1 (1 : Int))))
  else
    some (.inr (.inl ()))

noncomputable def impl_areWithin (a0 : List Int) (a1 : Int) (a2 : Int) : Option (Bool) :=
  (rounds (impl_areWithin_B1 a0 a1 a2) (0 : Int)).bind fun r2 => match r2 with
    | .inl r3 =>
      some true
    | .inr r4 =>
      some false

theorem f120_ok {a0 : List Int} {a1 : Int} {a2 : Int} {r : Bool} (hr : impl_areWithin a0 a1 a2 = some r) : CallOK Try.prog 120 [.imm (.sl (.int .i64)) a0, .imm (.int .i64) a1, .imm (.int .i64) a2] [⟨false, .bool, r⟩] [] := by
  unfold impl_areWithin at hr
  refine CallOK.of_body (ts := [(false, .bool)]) Try.func120 rfl (by kernel_rfl) (Nat.le_of_ble_eq_true (by kernel_rfl)) fun cx hP hN hO hF => ?_
  have hO : cx.own.map Prod.fst = [] := hO
  have hF := hF rfl
  show HT cx ⟨[(0, .one (.dat (.sl (.int .i64)) a0)), (1, .one (.dat (.int .i64) a1)), (2, .one (.dat (.int .i64) a2))], [], 0⟩ _ _
  refine HT.reg1 [0, 1, 2] [⟨none, .no⟩] ⟨[(0, .one (.dat (.sl (.int .i64)) a0)), (1, .one (.dat (.int .i64) a1)), (2, .one (.dat (.int .i64) a2))], [], 0⟩ hP hN (by kernel_rfl) allNil ?_
  refine HT.seq ?_
  refine HT.reg1 [1, 2, 9, 10, 11] [⟨none, .no⟩, ⟨none, .no⟩, ⟨none, .no⟩] ⟨[(1, .one (.dat (.int .i64) a1)), (2, .one (.dat (.int .i64) a2)), (9, .one (.dat (.sl (.int .i64)) a0)), (10, .one (.dat (.int .i64) (lenI a0))), (11, .one (.dat (.int .i64) (0 : Int)))], [], 0⟩ hP hN (by kernel_rfl) allNil ?_
  refine HT.block ?_
  obtain ⟨r2, hL13, hr⟩ := of_bind hr
  refine (Le.cv (s := ⟨[], [], [], false⟩) (own := []) (ps := [a1 = a1, a2 = a2, a0 = a0, (lenI a0) = (lenI a0), (0 : Int) = (0 : Int)]) (st' := ⟨[(1, .one (.dat (.int .i64) a1)), (2, .one (.dat (.int .i64) a2)), (9, .one (.dat (.sl (.int .i64)) a0)), (10, .one (.dat (.int .i64) (lenI a0))), (11, .one (.dat (.int .i64) (0 : Int)))], [], 0⟩) hO (fun h => by cases h) (by kernel_rfl) ⟨rfl, rfl, rfl, rfl, rfl, trivial⟩).ht ?_
  refine HT.loopE (s := (0 : Int)) (fun (s1 : Int) => ⟨[(1, .one (.dat (.int .i64) a1)), (2, .one (.dat (.int .i64) a2)), (9, .one (.dat (.sl (.int .i64)) a0)), (10, .one (.dat (.int .i64) (lenI a0))), (11, .one (.dat (.int .i64) s1))], [], 0⟩) (fun (r2 : Unit ⊕ Unit) => match r2 with | .inl r3 => (.exit 0, ⟨[], [], 0⟩) | .inr r4 => (.ret, ⟨[(6, .one (.dat .bool false))], [], 0⟩)) hL13 ?_ (fun s1 x5 hx6 hk7 => ?_)
  · rcases r2 with r3 | r4
    · refine (qBlockX (qThen ?_))
      refine HT.reg1 [6] [⟨none, .no⟩] ⟨[(6, .one (.dat .bool true))], [], 0⟩ hP hN (by kernel_rfl) allNil ?_
      have hr := of_some hr
      subst hr
      exact HT.ret ⟨[.one (.dat .bool true)], [], [], by kernel_rfl, by kernel_rfl, rfl, by kernel_rfl, by kernel_rfl, trivial⟩
    · have hr := of_some hr
      subst hr
      exact (qBlockR (qThenR ⟨[.one (.dat .bool false)], [], [], by kernel_rfl, by kernel_rfl, rfl, by kernel_rfl, by kernel_rfl, trivial⟩))
  · refine HT.reg1 [1, 2, 9, 10, 11, 12] [⟨none, .no⟩] ⟨[(1, .one (.dat (.int .i64) a1)), (2, .one (.dat (.int .i64) a2)), (9, .one (.dat (.sl (.int .i64)) a0)), (10, .one (.dat (.int .i64) (lenI a0))), (11, .one (.dat (.int .i64) s1)), (12, .one (.dat .bool (decide (s1 < (lenI a0)))))], [], 0⟩ hP hN (by kernel_rfl) allNil ?_
    refine HT.seq ?_
    rcases of_bif hx6 with ⟨hb8, hx6⟩ | ⟨hb8, hx6⟩
    · refine HT.cond1 rfl hb8 ?_
      refine HT.skip (qThen ?_)
      refine HT.seq ?_
      refine HT.block ?_
      obtain ⟨hg9, hx6⟩ := of_guard hx6
      refine HT.reg1 [1, 2, 8, 9, 10, 11] [⟨none, .no⟩, ⟨none, .no⟩, ⟨none, .no⟩] ⟨[(1, .one (.dat (.int .i64) a1)), (2, .one (.dat (.int .i64) a2)), (8, .one (.dat (.int .i64) (List.getD a0 (Int.toNat s1) (0 : Int)))), (9, .one (.dat (.sl (.int .i64)) a0)), (10, .one (.dat (.int .i64) (lenI a0))), (11, .one (.dat (.int .i64) s1))], [], 0⟩ hP hN (by kernel_rfl) (allCons hg9 allNil) ?_
      obtain ⟨y10, hc11, hx6⟩ := of_bind hx6
      refine HT.reg1 [1, 2, 9, 10, 11, 19] [⟨none, .no⟩, ⟨none, .no⟩, ⟨none, .no⟩, ⟨none, .call [.imm (.int .i64), .imm (.int .i64), .imm (.int .i64)] [⟨false, .bool, y10⟩] []⟩, ⟨none, .no⟩] ⟨[(1, .one (.dat (.int .i64) a1)), (2, .one (.dat (.int .i64) a2)), (9, .one (.dat (.sl (.int .i64)) a0)), (10, .one (.dat (.int .i64) (lenI a0))), (11, .one (.dat (.int .i64) s1)), (19, .one (.dat .bool (!y10)))], [], 0⟩ hP hN (by kernel_rfl) (allCons (f69_ok hc11) allNil) ?_
      rcases of_bif hx6 with ⟨hb12, hx6⟩ | ⟨hb12, hx6⟩
      · refine HT.cond1 rfl hb12 ?_
        refine HT.reg1 [6] [⟨none, .no⟩] ⟨[(6, .one (.dat .bool false))], [], 0⟩ hP hN (by kernel_rfl) allNil ?_
        have hx6 := of_some hx6
        subst hx6
        refine (Le.cv (s := ⟨[], [], [], false⟩) (own := []) (ps := [false = false]) (st' := ⟨[(6, .one (.dat .bool false))], [], 0⟩) hO (fun h => by cases h) (by kernel_rfl) ⟨rfl, trivial⟩).ht ?_
        exact HT.ret (qBlockR (qThenR (qLoopR (hk7 (.inr ()) rfl))))
      · refine HT.cond0 rfl hb12 ?_
        refine HT.skip (qBlock (qThen ?_))
        have hx6 := of_some hx6
        subst hx6
        refine HT.reg (rs := [⟨none, .no⟩, ⟨none, .no⟩]) (st' := ⟨[(11, .one (.dat (.int .i64) (wadd .i64 s1 (1 : Int)))), (20, .one (.dat (.int .i64) (wadd .i64 s1 (1 : Int)))), (1, .one (.dat (.int .i64) a1)), (2, .one (.dat (.int .i64) a2)), (9, .one (.dat (.sl (.int .i64)) a0)), (10, .one (.dat (.int .i64) (lenI a0))), (11, .one (.dat (.int .i64) s1)), (19, .one (.dat .bool (!y10)))], [], 0⟩) hP hN (by kernel_rfl) allNil (qLoopN ⟨(wadd .i64 s1 (1 : Int)), rfl, Le.cv (s := ⟨[], [], [], false⟩) (own := []) (ps := [a1 = a1, a2 = a2, a0 = a0, (lenI a0) = (lenI a0), (wadd .i64 s1 (1 : Int)) = (wadd .i64 s1 (1 : Int))]) (st' := ⟨[(1, .one (.dat (.int .i64) a1)), (2, .one (.dat (.int .i64) a2)), (9, .one (.dat (.sl (.int .i64)) a0)), (10, .one (.dat (.int .i64) (lenI a0))), (11, .one (.dat (.int .i64) (wadd .i64 s1 (1 : Int))))], [], 0⟩) hO (fun h => by cases h) (by kernel_rfl) ⟨rfl, rfl, rfl, rfl, rfl, trivial⟩⟩)
    · refine HT.cond0 rfl hb8 ?_
      have hx6 := of_some hx6
      subst hx6
      refine (Le.cv (s := ⟨[], [], [], false⟩) (own := []) (ps := []) (st' := ⟨[], [], 0⟩) hO (fun h => by cases h) (by kernel_rfl) trivial).ht ?_
      exact HT.exit (qThenE (qLoopE (hk7 (.inl ()) rfl)))

noncomputable def impl_ValidPlain (a0 : Int × Int × List Int × List Bool) : Option (Bool) :=
  (show Option (Bool) from
    (impl_within a0.1 (1 : Int) (64 : Int)).bind fun y4 =>
    bif y4 then
      (impl_within a0.2.1 (1 : Int) (4 : Int)).bind fun y7 =>
      bif y7 then
        bif ((lenI a0.2.2.1) == (wmul .i64 a0.1 a0.2.1)) then
          (impl_areWithin a0.2.2.1 (0 : Int) (wsub .i64 a0.1 (1 : Int))).bind fun y11 =>
          bif y11 then
            some ((lenI a0.2.2.2) == a0.1)
          else
            some false
        else
          some false
      else
        some false
    else
      some false).bind fun v1 =>
  some v1

theorem f79_ok {a0 : Int × Int × List Int × List Bool} {r : Bool} (hr : impl_ValidPlain a0 = some r) : CallOK Try.prog 79 [.imm (.st (.pair (.int .i64) (.pair (.int .i64) (.pair (.sl (.int .i64)) (.sl .bool))))) a0] [⟨false, .bool, r⟩] [] := by
  unfold impl_ValidPlain at hr
  refine CallOK.of_body (ts := [(false, .bool)]) Try.func79 rfl (by kernel_rfl) (Nat.le_of_ble_eq_true (by kernel_rfl)) fun cx hP hN hO hF => ?_
  have hO : cx.own.map Prod.fst = [] := hO
  have hF := hF rfl
  show HT cx ⟨[(0, .agg [.dat (.int .i64) a0.1, .dat (.int .i64) a0.2.1, .dat (.sl (.int .i64)) a0.2.2.1, .dat (.sl .bool) a0.2.2.2])], [], 0⟩ _ _
  refine HT.reg1 [1] [⟨none, .no⟩, ⟨none, .no⟩] ⟨[(1, .one (.ptr 0 0))], [(0, .box [.dat (.int .i64) a0.1, .dat (.int .i64) a0.2.1, .dat (.sl (.int .i64)) a0.2.2.1, .dat (.sl .bool) a0.2.2.2])], 1⟩ hP hN (by kernel_rfl) allNil ?_
  obtain ⟨v1', hT3, hr⟩ := of_bind hr
  refine HT.join (fun (v1 : Bool) => ⟨[(2, .one (.dat .bool v1))], [], 0⟩) (fun v => v = v1') (fun v1 hv2 => ?_) (fun cont => ?_)
  · subst hv2
    have hr := of_some hr
    subst hr
    exact HT.ret ⟨[.one (.dat .bool v1)], [], [], by kernel_rfl, by kernel_rfl, rfl, by kernel_rfl, by kernel_rfl, trivial⟩
  · obtain ⟨y4, hc5, hT3⟩ := of_bind hT3
    rcases of_bif hT3 with ⟨hb6, hT3⟩ | ⟨hb6, hT3⟩
    · obtain ⟨y7, hc8, hT3⟩ := of_bind hT3
      rcases of_bif hT3 with ⟨hb9, hT3⟩ | ⟨hb9, hT3⟩
      · rcases of_bif hT3 with ⟨hb10, hT3⟩ | ⟨hb10, hT3⟩
        · obtain ⟨y11, hc12, hT3⟩ := of_bind hT3
          rcases of_bif hT3 with ⟨hb13, hT3⟩ | ⟨hb13, hT3⟩
          · refine HT.reg (rs := [⟨none, .no⟩, ⟨none, .no⟩, ⟨none, .call [.imm (.int .i64), .imm (.int .i64), .imm (.int .i64)] [⟨false, .bool, y4⟩] []⟩, ⟨none, .no⟩, ⟨some true, .no⟩, ⟨some true, .no⟩, ⟨some true, .call [.imm (.int .i64), .imm (.int .i64), .imm (.int .i64)] [⟨false, .bool, y7⟩] []⟩, ⟨none, .tv true⟩, ⟨none, .no⟩, ⟨some true, .no⟩, ⟨some true, .no⟩, ⟨some true, .no⟩, ⟨some true, .no⟩, ⟨some true, .no⟩, ⟨some true, .no⟩, ⟨some true, .no⟩, ⟨some true, .no⟩, ⟨some true, .no⟩, ⟨none, .tv true⟩, ⟨none, .no⟩, ⟨some true, .no⟩, ⟨some true, .no⟩, ⟨some true, .no⟩, ⟨some true, .no⟩, ⟨some true, .no⟩, ⟨some true, .call [.imm (.sl (.int .i64)), .imm (.int .i64), .imm (.int .i64)] [⟨false, .bool, y11⟩] []⟩, ⟨none, .tv true⟩, ⟨none, .no⟩, ⟨some true, .no⟩, ⟨some true, .no⟩, ⟨some true, .no⟩, ⟨some true, .no⟩, ⟨some true, .no⟩, ⟨some true, .no⟩, ⟨none, .tv true⟩, ⟨none, .no⟩]) (st' := ⟨[(2, .one (.dat .bool ((lenI a0.2.2.2) == a0.1))), (37, .one (.dat .bool ((lenI a0.2.2.2) == a0.1))), (36, .one (.dat .bool ((lenI a0.2.2.2) == a0.1))), (35, .one (.dat (.int .i64) a0.1)), (34, .one (.ptr 0 0)), (33, .one (.dat (.int .i64) (lenI a0.2.2.2))), (32, .one (.dat (.sl .bool) a0.2.2.2)), (31, .one (.ptr 0 3)), (30, .one (.dat .bool y11)), (29, .one (.dat .bool y11)), (28, .one (.dat .bool y11)), (27, .one (.dat (.int .i64) (wsub .i64 a0.1 (1 : Int)))), (26, .one (.dat (.int .i64) a0.1)), (25, .one (.ptr 0 0)), (24, .one (.dat (.sl (.int .i64)) a0.2.2.1)), (23, .one (.ptr 0 2)), (22, .one (.dat .bool ((lenI a0.2.2.1) == (wmul .i64 a0.1 a0.2.1)))), (21, .one (.dat .bool ((lenI a0.2.2.1) == (wmul .i64 a0.1 a0.2.1)))), (20, .one (.dat .bool ((lenI a0.2.2.1) == (wmul .i64 a0.1 a0.2.1)))), (19, .one (.dat (.int .i64) (wmul .i64 a0.1 a0.2.1))), (18, .one (.dat (.int .i64) a0.2.1)), (17, .one (.ptr 0 1)), (16, .one (.dat (.int .i64) a0.1)), (15, .one (.ptr 0 0)), (14, .one (.dat (.int .i64) (lenI a0.2.2.1))), (13, .one (.dat (.sl (.int .i64)) a0.2.2.1)), (12, .one (.ptr 0 2)), (11, .one (.dat .bool y7)), (10, .one (.dat .bool y7)), (9, .one (.dat .bool y7)), (8, .one (.dat (.int .i64) a0.2.1)), (7, .one (.ptr 0 1)), (6, .one (.dat .bool y4)), (5, .one (.dat .bool y4)), (4, .one (.dat (.int .i64) a0.1)), (3, .one (.ptr 0 0)), (1, .one (.ptr 0 0))], [(0, .box [.dat (.int .i64) a0.1, .dat (.int .i64) a0.2.1, .dat (.sl (.int .i64)) a0.2.2.1, .dat (.sl .bool) a0.2.2.2])], 1⟩) hP hN (by kernel_rfl) (allCons (f69_ok hc5) (allCons hb6 (allCons hb6 (allCons hb6 (allCons (f69_ok hc8) (allCons hb6 (allCons hb9 (allCons hb9 (allCons hb9 (allCons hb9 (allCons hb9 (allCons hb9 (allCons hb9 (allCons hb9 (allCons hb9 (allCons hb9 (allCons hb10 (allCons hb10 (allCons hb10 (allCons hb10 (allCons hb10 (allCons hb10 (allCons (f120_ok hc12) (allCons hb10 (allCons hb13 (allCons hb13 (allCons hb13 (allCons hb13 (allCons hb13 (allCons hb13 (allCons hb13 allNil))))))))))))))))))))))))))))))) (qThen ?_)
            exact (Le.cv (s := ⟨[], [], [], false⟩) (own := []) (ps := [((lenI a0.2.2.2) == a0.1) = ((lenI a0.2.2.2) == a0.1)]) (st' := ⟨[(2, .one (.dat .bool ((lenI a0.2.2.2) == a0.1)))], [], 0⟩) hO (fun h => by cases h) (by kernel_rfl) ⟨rfl, trivial⟩).ht (cont ((lenI a0.2.2.2) == a0.1) (of_some hT3))
          · refine HT.reg (rs := [⟨none, .no⟩, ⟨none, .no⟩, ⟨none, .call [.imm (.int .i64), .imm (.int .i64), .imm (.int .i64)] [⟨false, .bool, y4⟩] []⟩, ⟨none, .no⟩, ⟨some true, .no⟩, ⟨some true, .no⟩, ⟨some true, .call [.imm (.int .i64), .imm (.int .i64), .imm (.int .i64)] [⟨false, .bool, y7⟩] []⟩, ⟨none, .tv true⟩, ⟨none, .no⟩, ⟨some true, .no⟩, ⟨some true, .no⟩, ⟨some true, .no⟩, ⟨some true, .no⟩, ⟨some true, .no⟩, ⟨some true, .no⟩, ⟨some true, .no⟩, ⟨some true, .no⟩, ⟨some true, .no⟩, ⟨none, .tv true⟩, ⟨none, .no⟩, ⟨some true, .no⟩, ⟨some true, .no⟩, ⟨some true, .no⟩, ⟨some true, .no⟩, ⟨some true, .no⟩, ⟨some true, .call [.imm (.sl (.int .i64)), .imm (.int .i64), .imm (.int .i64)] [⟨false, .bool, y11⟩] []⟩, ⟨none, .tv true⟩, ⟨none, .no⟩, ⟨some false, .no⟩, ⟨some false, .no⟩, ⟨some false, .no⟩, ⟨some false, .no⟩, ⟨some false, .no⟩, ⟨some false, .no⟩, ⟨none, .tv false⟩, ⟨none, .no⟩]) (st' := ⟨[(2, .one (.dat .bool false)), (37, .one (.dat .bool false)), (36, .und), (35, .und), (34, .und), (33, .und), (32, .und), (31, .und), (30, .one (.dat .bool y11)), (29, .one (.dat .bool y11)), (28, .one (.dat .bool y11)), (27, .one (.dat (.int .i64) (wsub .i64 a0.1 (1 : Int)))), (26, .one (.dat (.int .i64) a0.1)), (25, .one (.ptr 0 0)), (24, .one (.dat (.sl (.int .i64)) a0.2.2.1)), (23, .one (.ptr 0 2)), (22, .one (.dat .bool ((lenI a0.2.2.1) == (wmul .i64 a0.1 a0.2.1)))), (21, .one (.dat .bool ((lenI a0.2.2.1) == (wmul .i64 a0.1 a0.2.1)))), (20, .one (.dat .bool ((lenI a0.2.2.1) == (wmul .i64 a0.1 a0.2.1)))), (19, .one (.dat (.int .i64) (wmul .i64 a0.1 a0.2.1))), (18, .one (.dat (.int .i64) a0.2.1)), (17, .one (.ptr 0 1)), (16, .one (.dat (.int .i64) a0.1)), (15, .one (.ptr 0 0)), (14, .one (.dat (.int .i64) (lenI a0.2.2.1))), (13, .one (.dat (.sl (.int .i64)) a0.2.2.1)), (12, .one (.ptr 0 2)), (11, .one (.dat .bool y7)), (10, .one (.dat .bool y7)), (9, .one (.dat .bool y7)), (8, .one (.dat (.int .i64) a0.2.1)), (7, .one (.ptr 0 1)), (6, .one (.dat .bool y4)), (5, .one (.dat .bool y4)), (4, .one (.dat (.int .i64) a0.1)), (3, .one (.ptr 0 0)), (1, .one (.ptr 0 0))], [(0, .box [.dat (.int .i64) a0.1, .dat (.int .i64) a0.2.1, .dat (.sl (.int .i64)) a0.2.2.1, .dat (.sl .bool) a0.2.2.2])], 1⟩) hP hN (by kernel_rfl) (allCons (f69_ok hc5) (allCons hb6 (allCons hb6 (allCons hb6 (allCons (f69_ok hc8) (allCons hb6 (allCons hb9 (allCons hb9 (allCons hb9 (allCons hb9 (allCons hb9 (allCons hb9 (allCons hb9 (allCons hb9 (allCons hb9 (allCons hb9 (allCons hb10 (allCons hb10 (allCons hb10 (allCons hb10 (allCons hb10 (allCons hb10 (allCons (f120_ok hc12) (allCons hb10 (allCons hb13 (allCons hb13 (allCons hb13 (allCons hb13 (allCons hb13 (allCons hb13 (allCons hb13 allNil))))))))))))))))))))))))))))))) (qThen ?_)
            exact (Le.cv (s := ⟨[], [], [], false⟩) (own := []) (ps := [false = false]) (st' := ⟨[(2, .one (.dat .bool false))], [], 0⟩) hO (fun h => by cases h) (by kernel_rfl) ⟨rfl, trivial⟩).ht (cont false (of_some hT3))
        · refine HT.reg (rs := [⟨none, .no⟩, ⟨none, .no⟩, ⟨none, .call [.imm (.int .i64), .imm (.int .i64), .imm (.int .i64)] [⟨false, .bool, y4⟩] []⟩, ⟨none, .no⟩, ⟨some true, .no⟩, ⟨some true, .no⟩, ⟨some true, .call [.imm (.int .i64), .imm (.int .i64), .imm (.int .i64)] [⟨false, .bool, y7⟩] []⟩, ⟨none, .tv true⟩, ⟨none, .no⟩, ⟨some true, .no⟩, ⟨some true, .no⟩, ⟨some true, .no⟩, ⟨some true, .no⟩, ⟨some true, .no⟩, ⟨some true, .no⟩, ⟨some true, .no⟩, ⟨some true, .no⟩, ⟨some true, .no⟩, ⟨none, .tv true⟩, ⟨none, .no⟩, ⟨some false, .no⟩, ⟨some false, .no⟩, ⟨some false, .no⟩, ⟨some false, .no⟩, ⟨some false, .no⟩, ⟨some false, .no⟩, ⟨none, .tv false⟩, ⟨none, .no⟩, ⟨some false, .no⟩, ⟨some false, .no⟩, ⟨some false, .no⟩, ⟨some false, .no⟩, ⟨some false, .no⟩, ⟨some false, .no⟩, ⟨none, .tv false⟩, ⟨none, .no⟩]) (st' := ⟨[(2, .one (.dat .bool false)), (37, .one (.dat .bool false)), (36, .und), (35, .und), (34, .und), (33, .und), (32, .und), (31, .und), (30, .one (.dat .bool false)), (29, .one (.dat .bool false)), (28, .und), (27, .und), (26, .und), (25, .und), (24, .und), (23, .und), (22, .one (.dat .bool ((lenI a0.2.2.1) == (wmul .i64 a0.1 a0.2.1)))), (21, .one (.dat .bool ((lenI a0.2.2.1) == (wmul .i64 a0.1 a0.2.1)))), (20, .one (.dat .bool ((lenI a0.2.2.1) == (wmul .i64 a0.1 a0.2.1)))), (19, .one (.dat (.int .i64) (wmul .i64 a0.1 a0.2.1))), (18, .one (.dat (.int .i64) a0.2.1)), (17, .one (.ptr 0 1)), (16, .one (.dat (.int .i64) a0.1)), (15, .one (.ptr 0 0)), (14, .one (.dat (.int .i64) (lenI a0.2.2.1))), (13, .one (.dat (.sl (.int .i64)) a0.2.2.1)), (12, .one (.ptr 0 2)), (11, .one (.dat .bool y7)), (10, .one (.dat .bool y7)), (9, .one (.dat .bool y7)), (8, .one (.dat (.int .i64) a0.2.1)), (7, .one (.ptr 0 1)), (6, .one (.dat .bool y4)), (5, .one (.dat .bool y4)), (4, .one (.dat (.int .i64) a0.1)), (3, .one (.ptr 0 0)), (1, .one (.ptr 0 0))], [(0, .box [.dat (.int .i64) a0.1, .dat (.int .i64) a0.2.1, .dat (.sl (.int .i64)) a0.2.2.1, .dat (.sl .bool) a0.2.2.2])], 1⟩) hP hN (by kernel_rfl) (allCons (f69_ok hc5) (allCons hb6 (allCons hb6 (allCons hb6 (allCons (f69_ok hc8) (allCons hb6 (allCons hb9 (allCons hb9 (allCons hb9 (allCons hb9 (allCons hb9 (allCons hb9 (allCons hb9 (allCons hb9 (allCons hb9 (allCons hb9 (allCons hb10 (allCons hb10 (allCons hb10 (allCons hb10 (allCons hb10 (allCons hb10 (allCons hb10 (allCons (rfl : false = false) (allCons (rfl : false = false) (allCons (rfl : false = false) (allCons (rfl : false = false) (allCons (rfl : false = false) (allCons (rfl : false = false) (allCons (rfl : false = false) allNil)))))))))))))))))))))))))))))) (qThen ?_)
          exact (Le.cv (s := ⟨[], [], [], false⟩) (own := []) (ps := [false = false]) (st' := ⟨[(2, .one (.dat .bool false))], [], 0⟩) hO (fun h => by cases h) (by kernel_rfl) ⟨rfl, trivial⟩).ht (cont false (of_some hT3))
      · refine HT.reg (rs := [⟨none, .no⟩, ⟨none, .no⟩, ⟨none, .call [.imm (.int .i64), .imm (.int .i64), .imm (.int .i64)] [⟨false, .bool, y4⟩] []⟩, ⟨none, .no⟩, ⟨some true, .no⟩, ⟨some true, .no⟩, ⟨some true, .call [.imm (.int .i64), .imm (.int .i64), .imm (.int .i64)] [⟨false, .bool, y7⟩] []⟩, ⟨none, .tv true⟩, ⟨none, .no⟩, ⟨some false, .no⟩, ⟨some false, .no⟩, ⟨some false, .no⟩, ⟨some false, .no⟩, ⟨some false, .no⟩, ⟨some false, .no⟩, ⟨some false, .no⟩, ⟨some false, .no⟩, ⟨some false, .no⟩, ⟨none, .tv false⟩, ⟨none, .no⟩, ⟨some false, .no⟩, ⟨some false, .no⟩, ⟨some false, .no⟩, ⟨some false, .no⟩, ⟨some false, .no⟩, ⟨some false, .no⟩, ⟨none, .tv false⟩, ⟨none, .no⟩, ⟨some false, .no⟩, ⟨some false, .no⟩, ⟨some false, .no⟩, ⟨some false, .no⟩, ⟨some false, .no⟩, ⟨some false, .no⟩, ⟨none, .tv false⟩, ⟨none, .no⟩]) (st' := ⟨[(2, .one (.dat .bool false)), (37, .one (.dat .bool false)), (36, .und), (35, .und), (34, .und), (33, .und), (32, .und), (31, .und), (30, .one (.dat .bool false)), (29, .one (.dat .bool false)), (28, .und), (27, .und), (26, .und), (25, .und), (24, .und), (23, .und), (22, .one (.dat .bool false)), (21, .one (.dat .bool false)), (20, .und), (19, .und), (18, .und), (17, .und), (16, .und), (15, .und), (14, .und), (13, .und), (12, .und), (11, .one (.dat .bool y7)), (10, .one (.dat .bool y7)), (9, .one (.dat .bool y7)), (8, .one (.dat (.int .i64) a0.2.1)), (7, .one (.ptr 0 1)), (6, .one (.dat .bool y4)), (5, .one (.dat .bool y4)), (4, .one (.dat (.int .i64) a0.1)), (3, .one (.ptr 0 0)), (1, .one (.ptr 0 0))], [(0, .box [.dat (.int .i64) a0.1, .dat (.int .i64) a0.2.1, .dat (.sl (.int .i64)) a0.2.2.1, .dat (.sl .bool) a0.2.2.2])], 1⟩) hP hN (by kernel_rfl) (allCons (f69_ok hc5) (allCons hb6 (allCons hb6 (allCons hb6 (allCons (f69_ok hc8) (allCons hb6 (allCons hb9 (allCons hb9 (allCons hb9 (allCons hb9 (allCons hb9 (allCons hb9 (allCons hb9 (allCons hb9 (allCons hb9 (allCons hb9 (allCons (rfl : false = false) (allCons (rfl : false = false) (allCons (rfl : false = false) (allCons (rfl : false = false) (allCons (rfl : false = false) (allCons (rfl : false = false) (allCons (rfl : false = false) (allCons (rfl : false = false) (allCons (rfl : false = false) (allCons (rfl : false = false) (allCons (rfl : false = false) (allCons (rfl : false = false) (allCons (rfl : false = false) (allCons (rfl : false = false) allNil)))))))))))))))))))))))))))))) (qThen ?_)
        exact (Le.cv (s := ⟨[], [], [], false⟩) (own := []) (ps := [false = false]) (st' := ⟨[(2, .one (.dat .bool false))], [], 0⟩) hO (fun h => by cases h) (by kernel_rfl) ⟨rfl, trivial⟩).ht (cont false (of_some hT3))
    · refine HT.reg (rs := [⟨none, .no⟩, ⟨none, .no⟩, ⟨none, .call [.imm (.int .i64), .imm (.int .i64), .imm (.int .i64)] [⟨false, .bool, y4⟩] []⟩, ⟨none, .no⟩, ⟨some false, .no⟩, ⟨some false, .no⟩, ⟨some false, .no⟩, ⟨none, .tv false⟩, ⟨none, .no⟩, ⟨some false, .no⟩, ⟨some false, .no⟩, ⟨some false, .no⟩, ⟨some false, .no⟩, ⟨some false, .no⟩, ⟨some false, .no⟩, ⟨some false, .no⟩, ⟨some false, .no⟩, ⟨some false, .no⟩, ⟨none, .tv false⟩, ⟨none, .no⟩, ⟨some false, .no⟩, ⟨some false, .no⟩, ⟨some false, .no⟩, ⟨some false, .no⟩, ⟨some false, .no⟩, ⟨some false, .no⟩, ⟨none, .tv false⟩, ⟨none, .no⟩, ⟨some false, .no⟩, ⟨some false, .no⟩, ⟨some false, .no⟩, ⟨some false, .no⟩, ⟨some false, .no⟩, ⟨some false, .no⟩, ⟨none, .tv false⟩, ⟨none, .no⟩]) (st' := ⟨[(2, .one (.dat .bool false)), (37, .one (.dat .bool false)), (36, .und), (35, .und), (34, .und), (33, .und), (32, .und), (31, .und), (30, .one (.dat .bool false)), (29, .one (.dat .bool false)), (28, .und), (27, .und), (26, .und), (25, .und), (24, .und), (23, .und), (22, .one (.dat .bool false)), (21, .one (.dat .bool false)), (20, .und), (19, .und), (18, .und), (17, .und), (16, .und), (15, .und), (14, .und), (13, .und), (12, .und), (11, .one (.dat .bool false)), (10, .one (.dat .bool false)), (9, .und), (8, .und), (7, .und), (6, .one (.dat .bool y4)), (5, .one (.dat .bool y4)), (4, .one (.dat (.int .i64) a0.1)), (3, .one (.ptr 0 0)), (1, .one (.ptr 0 0))], [(0, .box [.dat (.int .i64) a0.1, .dat (.int .i64) a0.2.1, .dat (.sl (.int .i64)) a0.2.2.1, .dat (.sl .bool) a0.2.2.2])], 1⟩) hP hN (by kernel_rfl) (allCons (f69_ok hc5) (allCons hb6 (allCons hb6 (allCons hb6 (allCons hb6 (allCons (rfl : false = false) (allCons (rfl : false = false) (allCons (rfl : false = false) (allCons (rfl : false = false) (allCons (rfl : false = false) (allCons (rfl : false = false) (allCons (rfl : false = false) (allCons (rfl : false = false) (allCons (rfl : false = false) (allCons (rfl : false = false) (allCons (rfl : false = false) (allCons (rfl : false = false) (allCons (rfl : false = false) (allCons (rfl : false = false) (allCons (rfl : false = false) (allCons (rfl : false = false) (allCons (rfl : false = false) (allCons (rfl : false = false) (allCons (rfl : false = false) (allCons (rfl : false = false) (allCons (rfl : false = false) (allCons (rfl : false = false) (allCons (rfl : false = false) (allCons (rfl : false = false) allNil))))))))))))))))))))))))))))) (qThen ?_)
      exact (Le.cv (s := ⟨[], [], [], false⟩) (own := []) (ps := [false = false]) (st' := ⟨[(2, .one (.dat .bool false))], [], 0⟩) hO (fun h => by cases h) (by kernel_rfl) ⟨rfl, trivial⟩).ht (cont false (of_some hT3))

noncomputable def impl_FirstLoop_B1 (a0 : Int × Int × List Int × List Bool) (s5 : Int) (y21 : List (List Int)) (s23 : Int) : Option ((Int) ⊕ (Unit ⊕ (List Int × List Int))) :=
  bif (decide (s23 < (lenI y21))) then
    guardP ((0 : Int) ≤ s23 ∧ s23 < lenI y21) (
      guardP ((0 : Int) ≤ s5 ∧ s5 ≤ lenI (List.getD y21 (Int.toNat s23) ([] : List Int))) (
        (slices_Clone (cut (List.getD y21 (Int.toNat s23) ([] : List Int)) (0 : Int) s5)).bind fun y33 =>
        (slices_Clone (cut (List.getD y21 (Int.toNat s23) ([] : List Int)) s5 (lenI (List.getD y21 (Int.toNat s23) ([] : List Int))))).bind fun y35 =>
        (impl_readsLoop (a0.1, a0.2.1, a0.2.2.1, a0.2.2.2) (y33, y35)).bind fun y37 =>
        bif y37 then
          some (.inr (.inr (y33, y35)))
        else
          some (.inl (wadd .i64 s23 (1 : Int)))))
  else
    some (.inr (.inl ()))

noncomputable def impl_FirstLoop_B2 (a0 : Int × Int × List Int × List Bool) (a1 : Int) (s5 : Int) (s13 : Int) : Option ((Int) ⊕ (Unit ⊕ (List Int × List Int))) :=
  bif (decide (s13 < a1)) then
    (impl_wordsOf a0.2.1 (wadd .i64 (wadd .i64 s5 s13) (1 : Int))).bind fun y21 =>
    (rounds (impl_FirstLoop_B1 a0 s5 y21) (0 : Int)).bind fun r24 => match r24 with
      | .inl r25 =>
        some (.inl (wadd .i64 s13 (1 : Int)))
      | .inr r26 =>
        some (.inr (.inr (r26.1, r26.2)))
  else
    some (.inr (.inl ()))

noncomputable def impl_FirstLoop_B3 (a0 : Int × Int × List Int × List Bool) (a1 : Int) (s5 : Int) : Option ((Int) ⊕ (Unit ⊕ (List Int × List Int))) :=
  bif (decide (s5 < (wadd .i64 a1 (1 : Int)))) then
    (rounds (impl_FirstLoop_B2 a0 a1 s5) (0 : Int)).bind fun r14 => match r14 with
      | .inl r15 =>
        some (.inl (wadd .i64 s5 (1 : Int)))
      | .inr r16 =>
        some (.inr (.inr (r16.1, r16.2)))
  else
    some (.inr (.inl ()))

noncomputable def impl_FirstLoop (a0 : Int × Int × List Int × List Bool) (a1 : Int) : Option ((List Int × List Int) × Bool) :=
  (show Option (Bool) from
    (impl_ValidPlain (a0.1, a0.2.1, a0.2.2.1, a0.2.2.2)).bind fun y43 =>
    bif (!y43) then
      some true
    else
      (impl_within a1 (1 : Int) (3 : Int)).bind fun y46 =>
      some (!y46)).bind fun v1 =>
  bif v1 then
    some ((([] : List Int), ([] : List Int)), false)
  else
    (rounds (impl_FirstLoop_B3 a0 a1) (0 : Int)).bind fun r6 => match r6 with
      | .inl r7 =>
        some ((([] : List Int), ([] : List Int)), false)
      | .inr r8 =>
        some ((r8.1, r8.2), true)

theorem f24_ok {a0 : Int × Int × List Int × List Bool} {a1 : Int} {r : (List Int × List Int) × Bool} (hr : impl_FirstLoop a0 a1 = some r) : CallOK Try.prog 24 [.imm (.st (.pair (.int .i64) (.pair (.int .i64) (.pair (.sl (.int .i64)) (.sl .bool))))) a0, .imm (.int .i64) a1] [⟨true, (.st (.pair (.sl (.int .i64)) (.sl (.int .i64)))), r.1⟩, ⟨false, .bool, r.2⟩] [] := by
  unfold impl_FirstLoop at hr
  refine CallOK.of_body (ts := [(true, (.st (.pair (.sl (.int .i64)) (.sl (.int .i64))))), (false, .bool)]) Try.func24 rfl (by kernel_rfl) (Nat.le_of_ble_eq_true (by kernel_rfl)) fun cx hP hN hO hF => ?_
  have hO : cx.own.map Prod.fst = [] := hO
  have hF := hF rfl
  show HT cx ⟨[(0, .agg [.dat (.int .i64) a0.1, .dat (.int .i64) a0.2.1, .dat (.sl (.int .i64)) a0.2.2.1, .dat (.sl .bool) a0.2.2.2]), (1, .one (.dat (.int .i64) a1))], [], 0⟩ _ _
  refine HT.reg1 [1, 2, 4] [⟨none, .no⟩, ⟨none, .no⟩, ⟨none, .no⟩] ⟨[(1, .one (.dat (.int .i64) a1)), (2, .one (.ptr 0 0)), (4, .one (.ptr 1 0))], [(1, .box [.nilS, .nilS]), (0, .box [.dat (.int .i64) a0.1, .dat (.int .i64) a0.2.1, .dat (.sl (.int .i64)) a0.2.2.1, .dat (.sl .bool) a0.2.2.2])], 2⟩ hP hN (by kernel_rfl) allNil ?_
  refine HT.seq ?_
  obtain ⟨v1', hT3, hr⟩ := of_bind hr
  refine HT.join (fun (v1 : Bool) => ⟨[(1, .one (.dat (.int .i64) a1)), (2, .one (.ptr 0 0)), (4, .one (.ptr 1 0)), (18, .one (.dat .bool v1))], [(0, .box [.dat (.int .i64) a0.1, .dat (.int .i64) a0.2.1, .dat (.sl (.int .i64)) a0.2.2.1, .dat (.sl .bool) a0.2.2.2]), (1, .box [.nilS, .nilS])], 2⟩) (fun v => v = v1') (fun v1 hv2 => ?_) (fun cont => ?_)
  · subst hv2
    rcases of_bif hr with ⟨hb4, hr⟩ | ⟨hb4, hr⟩
    · refine HT.cond1 rfl hb4 ?_
      refine HT.reg1 [4, 5] [⟨none, .no⟩, ⟨none, .no⟩, ⟨none, .no⟩] ⟨[(4, .one (.ptr 1 0)), (5, .one (.dat .bool false))], [(1, .box [.nilS, .nilS]), (0, .box [.dat (.int .i64) a0.1, .dat (.int .i64) a0.2.1, .dat (.sl (.int .i64)) a0.2.2.1, .dat (.sl .bool) a0.2.2.2]), (1, .box [.nilS, .nilS])], 2⟩ hP hN (by kernel_rfl) allNil ?_
      have hr := of_some hr
      subst hr
      exact HT.ret (qThenR ⟨[.agg [.nilS, .nilS], .one (.dat .bool false)], [], [], by kernel_rfl, by kernel_rfl, rfl, by kernel_rfl, by kernel_rfl, trivial⟩)
    · refine HT.cond0 rfl hb4 ?_
      refine HT.skip (qThen ?_)
      refine HT.seq ?_
      refine HT.reg1 [1, 2, 4, 21, 22] [⟨none, .no⟩, ⟨none, .no⟩, ⟨none, .no⟩] ⟨[(1, .one (.dat (.int .i64) a1)), (2, .one (.ptr 0 0)), (4, .one (.ptr 1 0)), (21, .one (.dat (.int .i64) (wadd .i64 a1 (1 : Int)))), (22, .one (.dat (.int .i64) (0 : Int)))], [(0, .box [.dat (.int .i64) a0.1, .dat (.int .i64) a0.2.1, .dat (.sl (.int .i64)) a0.2.2.1, .dat (.sl .bool) a0.2.2.2]), (1, .box [.nilS, .nilS])], 2⟩ hP hN (by kernel_rfl) allNil ?_
      refine HT.block ?_
      obtain ⟨r6, hL42, hr⟩ := of_bind hr
      refine (Le.cv (s := ⟨[(0, 0), (1, 1)], [], [], false⟩) (own := []) (ps := [a1 = a1, (wadd .i64 a1 (1 : Int)) = (wadd .i64 a1 (1 : Int)), (0 : Int) = (0 : Int), a0.1 = a0.1, a0.2.1 = a0.2.1, a0.2.2.1 = a0.2.2.1, a0.2.2.2 = a0.2.2.2]) (st' := ⟨[(1, .one (.dat (.int .i64) a1)), (2, .one (.ptr 0 0)), (4, .one (.ptr 1 0)), (21, .one (.dat (.int .i64) (wadd .i64 a1 (1 : Int)))), (22, .one (.dat (.int .i64) (0 : Int)))], [(0, .box [.dat (.int .i64) a0.1, .dat (.int .i64) a0.2.1, .dat (.sl (.int .i64)) a0.2.2.1, .dat (.sl .bool) a0.2.2.2]), (1, .box [.nilS, .nilS])], 2⟩) hO (fun h => by cases h) (by kernel_rfl) ⟨rfl, rfl, rfl, rfl, rfl, rfl, rfl, trivial⟩).ht ?_
      refine HT.loopE (s := (0 : Int)) (fun (s5 : Int) => ⟨[(1, .one (.dat (.int .i64) a1)), (2, .one (.ptr 0 0)), (4, .one (.ptr 1 0)), (21, .one (.dat (.int .i64) (wadd .i64 a1 (1 : Int)))), (22, .one (.dat (.int .i64) s5))], [(0, .box [.dat (.int .i64) a0.1, .dat (.int .i64) a0.2.1, .dat (.sl (.int .i64)) a0.2.2.1, .dat (.sl .bool) a0.2.2.2]), (1, .box [.nilS, .nilS])], 2⟩) (fun (r6 : Unit ⊕ (List Int × List Int)) => match r6 with | .inl r7 => (.exit 0, ⟨[(4, .one (.ptr 0 0))], [(0, .box [.nilS, .nilS])], 1⟩) | .inr r8 => (.ret, ⟨[(4, .one (.ptr 0 0)), (5, .one (.dat .bool true))], [(0, .box [.all 1, .all 2]), (1, .seq (.int .i64) r8.1), (2, .seq (.int .i64) r8.2)], 3⟩)) hL42 ?_ (fun s5 x9 hx10 hk11 => ?_)
      · rcases r6 with r7 | r8
        · refine (qBlockX (qThen ?_))
          refine HT.reg1 [4, 5] [⟨none, .no⟩, ⟨none, .no⟩, ⟨none, .no⟩] ⟨[(4, .one (.ptr 0 0)), (5, .one (.dat .bool false))], [(0, .box [.nilS, .nilS]), (0, .box [.nilS, .nilS])], 1⟩ hP hN (by kernel_rfl) allNil ?_
          have hr := of_some hr
          subst hr
          exact HT.ret ⟨[.agg [.nilS, .nilS], .one (.dat .bool false)], [], [], by kernel_rfl, by kernel_rfl, rfl, by kernel_rfl, by kernel_rfl, trivial⟩
        · have hr := of_some hr
          subst hr
          exact (qBlockR (qThenR ⟨[.agg [.all 1, .all 2], .one (.dat .bool true)], [1, 2], [], by kernel_rfl, by kernel_rfl, rfl, by kernel_rfl, by kernel_rfl, trivial⟩))
      · refine HT.reg1 [1, 2, 4, 21, 22, 23] [⟨none, .no⟩] ⟨[(1, .one (.dat (.int .i64) a1)), (2, .one (.ptr 0 0)), (4, .one (.ptr 1 0)), (21, .one (.dat (.int .i64) (wadd .i64 a1 (1 : Int)))), (22, .one (.dat (.int .i64) s5)), (23, .one (.dat .bool (decide (s5 < (wadd .i64 a1 (1 : Int))))))], [(0, .box [.dat (.int .i64) a0.1, .dat (.int .i64) a0.2.1, .dat (.sl (.int .i64)) a0.2.2.1, .dat (.sl .bool) a0.2.2.2]), (1, .box [.nilS, .nilS])], 2⟩ hP hN (by kernel_rfl) allNil ?_
        refine HT.seq ?_
        rcases of_bif hx10 with ⟨hb12, hx10⟩ | ⟨hb12, hx10⟩
        · refine HT.cond1 rfl hb12 ?_
          refine HT.skip (qThen ?_)
          refine HT.seq ?_
          refine HT.block ?_
          refine HT.reg1 [1, 2, 4, 6, 21, 22] [⟨none, .no⟩, ⟨none, .no⟩] ⟨[(1, .one (.dat (.int .i64) a1)), (2, .one (.ptr 0 0)), (4, .one (.ptr 1 0)), (6, .one (.dat (.int .i64) s5)), (21, .one (.dat (.int .i64) (wadd .i64 a1 (1 : Int)))), (22, .one (.dat (.int .i64) s5))], [(0, .box [.dat (.int .i64) a0.1, .dat (.int .i64) a0.2.1, .dat (.sl (.int .i64)) a0.2.2.1, .dat (.sl .bool) a0.2.2.2]), (1, .box [.nilS, .nilS])], 2⟩ hP hN (by kernel_rfl) allNil ?_
          refine HT.reg1 [1, 2, 4, 6, 21, 22, 25, 26] [⟨none, .no⟩, ⟨none, .no⟩] ⟨[(1, .one (.dat (.int .i64) a1)), (2, .one (.ptr 0 0)), (4, .one (.ptr 1 0)), (6, .one (.dat (.int .i64) s5)), (21, .one (.dat (.int .i64) (wadd .i64 a1 (1 : Int)))), (22, .one (.dat (.int .i64) s5)), (25, .one (.dat (.int .i64) a1)), (26, .one (.dat (.int .i64) (0 : Int)))], [(0, .box [.dat (.int .i64) a0.1, .dat (.int .i64) a0.2.1, .dat (.sl (.int .i64)) a0.2.2.1, .dat (.sl .bool) a0.2.2.2]), (1, .box [.nilS, .nilS])], 2⟩ hP hN (by kernel_rfl) allNil ?_
          refine HT.block ?_
          obtain ⟨r14, hL41, hx10⟩ := of_bind hx10
          refine (Le.cv (s := ⟨[(0, 0), (1, 1)], [], [], false⟩) (own := []) (ps := [a1 = a1, s5 = s5, (wadd .i64 a1 (1 : Int)) = (wadd .i64 a1 (1 : Int)), s5 = s5, a1 = a1, (0 : Int) = (0 : Int), a0.1 = a0.1, a0.2.1 = a0.2.1, a0.2.2.1 = a0.2.2.1, a0.2.2.2 = a0.2.2.2]) (st' := ⟨[(1, .one (.dat (.int .i64) a1)), (2, .one (.ptr 0 0)), (4, .one (.ptr 1 0)), (6, .one (.dat (.int .i64) s5)), (21, .one (.dat (.int .i64) (wadd .i64 a1 (1 : Int)))), (22, .one (.dat (.int .i64) s5)), (25, .one (.dat (.int .i64) a1)), (26, .one (.dat (.int .i64) (0 : Int)))], [(0, .box [.dat (.int .i64) a0.1, .dat (.int .i64) a0.2.1, .dat (.sl (.int .i64)) a0.2.2.1, .dat (.sl .bool) a0.2.2.2]), (1, .box [.nilS, .nilS])], 2⟩) hO (fun h => by cases h) (by kernel_rfl) ⟨rfl, rfl, rfl, rfl, rfl, rfl, rfl, rfl, rfl, rfl, trivial⟩).ht ?_
          refine HT.loopE (s := (0 : Int)) (fun (s13 : Int) => ⟨[(1, .one (.dat (.int .i64) a1)), (2, .one (.ptr 0 0)), (4, .one (.ptr 1 0)), (6, .one (.dat (.int .i64) s5)), (21, .one (.dat (.int .i64) (wadd .i64 a1 (1 : Int)))), (22, .one (.dat (.int .i64) s5)), (25, .one (.dat (.int .i64) a1)), (26, .one (.dat (.int .i64) s13))], [(0, .box [.dat (.int .i64) a0.1, .dat (.int .i64) a0.2.1, .dat (.sl (.int .i64)) a0.2.2.1, .dat (.sl .bool) a0.2.2.2]), (1, .box [.nilS, .nilS])], 2⟩) (fun (r14 : Unit ⊕ (List Int × List Int)) => match r14 with | .inl r15 => (.exit 2, ⟨[(1, .one (.dat (.int .i64) a1)), (2, .one (.ptr 0 0)), (4, .one (.ptr 1 0)), (21, .one (.dat (.int .i64) (wadd .i64 a1 (1 : Int)))), (22, .one (.dat (.int .i64) s5))], [(0, .box [.dat (.int .i64) a0.1, .dat (.int .i64) a0.2.1, .dat (.sl (.int .i64)) a0.2.2.1, .dat (.sl .bool) a0.2.2.2]), (1, .box [.nilS, .nilS])], 2⟩) | .inr r16 => (.ret, ⟨[(4, .one (.ptr 0 0)), (5, .one (.dat .bool true))], [(0, .box [.all 1, .all 2]), (1, .seq (.int .i64) r16.1), (2, .seq (.int .i64) r16.2)], 3⟩)) hL41 ?_ (fun s13 x17 hx18 hk19 => ?_)
          · rcases r14 with r15 | r16
            · refine (qBlockX (qBlock (qThen ?_)))
              have hx10 := of_some hx10
              subst hx10
              refine HT.reg (rs := [⟨none, .no⟩, ⟨none, .no⟩]) (st' := ⟨[(22, .one (.dat (.int .i64) (wadd .i64 s5 (1 : Int)))), (56, .one (.dat (.int .i64) (wadd .i64 s5 (1 : Int)))), (1, .one (.dat (.int .i64) a1)), (2, .one (.ptr 0 0)), (4, .one (.ptr 1 0)), (21, .one (.dat (.int .i64) (wadd .i64 a1 (1 : Int)))), (22, .one (.dat (.int .i64) s5))], [(0, .box [.dat (.int .i64) a0.1, .dat (.int .i64) a0.2.1, .dat (.sl (.int .i64)) a0.2.2.1, .dat (.sl .bool) a0.2.2.2]), (1, .box [.nilS, .nilS])], 2⟩) hP hN (by kernel_rfl) allNil (qLoopN ⟨(wadd .i64 s5 (1 : Int)), rfl, Le.cv (s := ⟨[(0, 0), (1, 1)], [], [], false⟩) (own := []) (ps := [a1 = a1, (wadd .i64 a1 (1 : Int)) = (wadd .i64 a1 (1 : Int)), (wadd .i64 s5 (1 : Int)) = (wadd .i64 s5 (1 : Int)), a0.1 = a0.1, a0.2.1 = a0.2.1, a0.2.2.1 = a0.2.2.1, a0.2.2.2 = a0.2.2.2]) (st' := ⟨[(1, .one (.dat (.int .i64) a1)), (2, .one (.ptr 0 0)), (4, .one (.ptr 1 0)), (21, .one (.dat (.int .i64) (wadd .i64 a1 (1 : Int)))), (22, .one (.dat (.int .i64) (wadd .i64 s5 (1 : Int))))], [(0, .box [.dat (.int .i64) a0.1, .dat (.int .i64) a0.2.1, .dat (.sl (.int .i64)) a0.2.2.1, .dat (.sl .bool) a0.2.2.2]), (1, .box [.nilS, .nilS])], 2⟩) hO (fun h => by cases h) (by kernel_rfl) ⟨rfl, rfl, rfl, rfl, rfl, rfl, rfl, trivial⟩⟩)
            · have hx10 := of_some hx10
              subst hx10
              exact (qBlockR (qBlockR (qThenR (qLoopR (hk11 (.inr (r16.1, r16.2)) rfl)))))
          · refine HT.reg1 [1, 2, 4, 6, 21, 22, 25, 26, 27] [⟨none, .no⟩] ⟨[(1, .one (.dat (.int .i64) a1)), (2, .one (.ptr 0 0)), (4, .one (.ptr 1 0)), (6, .one (.dat (.int .i64) s5)), (21, .one (.dat (.int .i64) (wadd .i64 a1 (1 : Int)))), (22, .one (.dat (.int .i64) s5)), (25, .one (.dat (.int .i64) a1)), (26, .one (.dat (.int .i64) s13)), (27, .one (.dat .bool (decide (s13 < a1))))], [(0, .box [.dat (.int .i64) a0.1, .dat (.int .i64) a0.2.1, .dat (.sl (.int .i64)) a0.2.2.1, .dat (.sl .bool) a0.2.2.2]), (1, .box [.nilS, .nilS])], 2⟩ hP hN (by kernel_rfl) allNil ?_
            refine HT.seq ?_
            rcases of_bif hx18 with ⟨hb20, hx18⟩ | ⟨hb20, hx18⟩
            · refine HT.cond1 rfl hb20 ?_
              refine HT.skip (qThen ?_)
              refine HT.seq ?_
              refine HT.block ?_
              refine HT.reg1 [1, 2, 4, 6, 7, 21, 22, 25, 26] [⟨none, .no⟩, ⟨none, .no⟩] ⟨[(1, .one (.dat (.int .i64) a1)), (2, .one (.ptr 0 0)), (4, .one (.ptr 1 0)), (6, .one (.dat (.int .i64) s5)), (7, .one (.dat (.int .i64) s13)), (21, .one (.dat (.int .i64) (wadd .i64 a1 (1 : Int)))), (22, .one (.dat (.int .i64) s5)), (25, .one (.dat (.int .i64) a1)), (26, .one (.dat (.int .i64) s13))], [(0, .box [.dat (.int .i64) a0.1, .dat (.int .i64) a0.2.1, .dat (.sl (.int .i64)) a0.2.2.1, .dat (.sl .bool) a0.2.2.2]), (1, .box [.nilS, .nilS])], 2⟩ hP hN (by kernel_rfl) allNil ?_
              obtain ⟨y21, hc22, hx18⟩ := of_bind hx18
              refine HT.reg1 [1, 2, 4, 6, 21, 22, 25, 26, 35, 36, 37] [⟨none, .no⟩, ⟨none, .no⟩, ⟨none, .no⟩, ⟨none, .no⟩, ⟨none, .no⟩, ⟨none, .no⟩, ⟨none, .call [.imm (.int .i64), .imm (.int .i64)] [⟨false, (.sl (.sl (.int .i64))), y21⟩] []⟩, ⟨none, .no⟩, ⟨none, .no⟩] ⟨[(1, .one (.dat (.int .i64) a1)), (2, .one (.ptr 0 0)), (4, .one (.ptr 1 0)), (6, .one (.dat (.int .i64) s5)), (21, .one (.dat (.int .i64) (wadd .i64 a1 (1 : Int)))), (22, .one (.dat (.int .i64) s5)), (25, .one (.dat (.int .i64) a1)), (26, .one (.dat (.int .i64) s13)), (35, .one (.dat (.sl (.sl (.int .i64))) y21)), (36, .one (.dat (.int .i64) (lenI y21))), (37, .one (.dat (.int .i64) (0 : Int)))], [(0, .box [.dat (.int .i64) a0.1, .dat (.int .i64) a0.2.1, .dat (.sl (.int .i64)) a0.2.2.1, .dat (.sl .bool) a0.2.2.2]), (1, .box [.nilS, .nilS])], 2⟩ hP hN (by kernel_rfl) (allCons (f70_ok hc22) allNil) ?_
              refine HT.block ?_
              obtain ⟨r24, hL40, hx18⟩ := of_bind hx18
              refine (Le.cv (s := ⟨[(0, 0), (1, 1)], [], [], false⟩) (own := []) (ps := [a1 = a1, s5 = s5, (wadd .i64 a1 (1 : Int)) = (wadd .i64 a1 (1 : Int)), s5 = s5, a1 = a1, s13 = s13, y21 = y21, (lenI y21) = (lenI y21), (0 : Int) = (0 : Int), a0.1 = a0.1, a0.2.1 = a0.2.1, a0.2.2.1 = a0.2.2.1, a0.2.2.2 = a0.2.2.2]) (st' := ⟨[(1, .one (.dat (.int .i64) a1)), (2, .one (.ptr 0 0)), (4, .one (.ptr 1 0)), (6, .one (.dat (.int .i64) s5)), (21, .one (.dat (.int .i64) (wadd .i64 a1 (1 : Int)))), (22, .one (.dat (.int .i64) s5)), (25, .one (.dat (.int .i64) a1)), (26, .one (.dat (.int .i64) s13)), (35, .one (.dat (.sl (.sl (.int .i64))) y21)), (36, .one (.dat (.int .i64) (lenI y21))), (37, .one (.dat (.int .i64) (0 : Int)))], [(0, .box [.dat (.int .i64) a0.1, .dat (.int .i64) a0.2.1, .dat (.sl (.int .i64)) a0.2.2.1, .dat (.sl .bool) a0.2.2.2]), (1, .box [.nilS, .nilS])], 2⟩) hO (fun h => by cases h) (by kernel_rfl) ⟨rfl, rfl, rfl, rfl, rfl, rfl, rfl, rfl, rfl, rfl, rfl, rfl, rfl, trivial⟩).ht ?_
              refine HT.loopE (s := (0 : Int)) (fun (s23 : Int) => ⟨[(1, .one (.dat (.int .i64) a1)), (2, .one (.ptr 0 0)), (4, .one (.ptr 1 0)), (6, .one (.dat (.int .i64) s5)), (21, .one (.dat (.int .i64) (wadd .i64 a1 (1 : Int)))), (22, .one (.dat (.int .i64) s5)), (25, .one (.dat (.int .i64) a1)), (26, .one (.dat (.int .i64) s13)), (35, .one (.dat (.sl (.sl (.int .i64))) y21)), (36, .one (.dat (.int .i64) (lenI y21))), (37, .one (.dat (.int .i64) s23))], [(0, .box [.dat (.int .i64) a0.1, .dat (.int .i64) a0.2.1, .dat (.sl (.int .i64)) a0.2.2.1, .dat (.sl .bool) a0.2.2.2]), (1, .box [.nilS, .nilS])], 2⟩) (fun (r24 : Unit ⊕ (List Int × List Int)) => match r24 with | .inl r25 => (.exit 4, ⟨[(1, .one (.dat (.int .i64) a1)), (2, .one (.ptr 0 0)), (4, .one (.ptr 1 0)), (6, .one (.dat (.int .i64) s5)), (21, .one (.dat (.int .i64) (wadd .i64 a1 (1 : Int)))), (22, .one (.dat (.int .i64) s5)), (25, .one (.dat (.int .i64) a1)), (26, .one (.dat (.int .i64) s13))], [(0, .box [.dat (.int .i64) a0.1, .dat (.int .i64) a0.2.1, .dat (.sl (.int .i64)) a0.2.2.1, .dat (.sl .bool) a0.2.2.2]), (1, .box [.nilS, .nilS])], 2⟩) | .inr r26 => (.ret, ⟨[(4, .one (.ptr 0 0)), (5, .one (.dat .bool true))], [(0, .box [.all 1, .all 2]), (1, .seq (.int .i64) r26.1), (2, .seq (.int .i64) r26.2)], 3⟩)) hL40 ?_ (fun s23 x27 hx28 hk29 => ?_)
              · rcases r24 with r25 | r26
                · refine (qBlockX (qBlock (qThen ?_)))
                  have hx18 := of_some hx18
                  subst hx18
                  refine HT.reg (rs := [⟨none, .no⟩, ⟨none, .no⟩]) (st' := ⟨[(26, .one (.dat (.int .i64) (wadd .i64 s13 (1 : Int)))), (55, .one (.dat (.int .i64) (wadd .i64 s13 (1 : Int)))), (1, .one (.dat (.int .i64) a1)), (2, .one (.ptr 0 0)), (4, .one (.ptr 1 0)), (6, .one (.dat (.int .i64) s5)), (21, .one (.dat (.int .i64) (wadd .i64 a1 (1 : Int)))), (22, .one (.dat (.int .i64) s5)), (25, .one (.dat (.int .i64) a1)), (26, .one (.dat (.int .i64) s13))], [(0, .box [.dat (.int .i64) a0.1, .dat (.int .i64) a0.2.1, .dat (.sl (.int .i64)) a0.2.2.1, .dat (.sl .bool) a0.2.2.2]), (1, .box [.nilS, .nilS])], 2⟩) hP hN (by kernel_rfl) allNil (qLoopN ⟨(wadd .i64 s13 (1 : Int)), rfl, Le.cv (s := ⟨[(0, 0), (1, 1)], [], [], false⟩) (own := []) (ps := [a1 = a1, s5 = s5, (wadd .i64 a1 (1 : Int)) = (wadd .i64 a1 (1 : Int)), s5 = s5, a1 = a1, (wadd .i64 s13 (1 : Int)) = (wadd .i64 s13 (1 : Int)), a0.1 = a0.1, a0.2.1 = a0.2.1, a0.2.2.1 = a0.2.2.1, a0.2.2.2 = a0.2.2.2]) (st' := ⟨[(1, .one (.dat (.int .i64) a1)), (2, .one (.ptr 0 0)), (4, .one (.ptr 1 0)), (6, .one (.dat (.int .i64) s5)), (21, .one (.dat (.int .i64) (wadd .i64 a1 (1 : Int)))), (22, .one (.dat (.int .i64) s5)), (25, .one (.dat (.int .i64) a1)), (26, .one (.dat (.int .i64) (wadd .i64 s13 (1 : Int))))], [(0, .box [.dat (.int .i64) a0.1, .dat (.int .i64) a0.2.1, .dat (.sl (.int .i64)) a0.2.2.1, .dat (.sl .bool) a0.2.2.2]), (1, .box [.nilS, .nilS])], 2⟩) hO (fun h => by cases h) (by kernel_rfl) ⟨rfl, rfl, rfl, rfl, rfl, rfl, rfl, rfl, rfl, rfl, trivial⟩⟩)
                · have hx18 := of_some hx18
                  subst hx18
                  exact (qBlockR (qBlockR (qThenR (qLoopR (hk19 (.inr (r26.1, r26.2)) rfl)))))
              · refine HT.reg1 [1, 2, 4, 6, 21, 22, 25, 26, 35, 36, 37, 38] [⟨none, .no⟩] ⟨[(1, .one (.dat (.int .i64) a1)), (2, .one (.ptr 0 0)), (4, .one (.ptr 1 0)), (6, .one (.dat (.int .i64) s5)), (21, .one (.dat (.int .i64) (wadd .i64 a1 (1 : Int)))), (22, .one (.dat (.int .i64) s5)), (25, .one (.dat (.int .i64) a1)), (26, .one (.dat (.int .i64) s13)), (35, .one (.dat (.sl (.sl (.int .i64))) y21)), (36, .one (.dat (.int .i64) (lenI y21))), (37, .one (.dat (.int .i64) s23)), (38, .one (.dat .bool (decide (s23 < (lenI y21)))))], [(0, .box [.dat (.int .i64) a0.1, .dat (.int .i64) a0.2.1, .dat (.sl (.int .i64)) a0.2.2.1, .dat (.sl .bool) a0.2.2.2]), (1, .box [.nilS, .nilS])], 2⟩ hP hN (by kernel_rfl) allNil ?_
                refine HT.seq ?_
                rcases of_bif hx28 with ⟨hb30, hx28⟩ | ⟨hb30, hx28⟩
                · refine HT.cond1 rfl hb30 ?_
                  refine HT.skip (qThen ?_)
                  refine HT.seq ?_
                  refine HT.block ?_
                  obtain ⟨hg31, hx28⟩ := of_guard hx28
                  refine HT.reg1 [1, 2, 4, 6, 9, 21, 22, 25, 26, 35, 36, 37] [⟨none, .no⟩, ⟨none, .no⟩, ⟨none, .no⟩] ⟨[(1, .one (.dat (.int .i64) a1)), (2, .one (.ptr 0 0)), (4, .one (.ptr 1 0)), (6, .one (.dat (.int .i64) s5)), (9, .one (.dat (.sl (.int .i64)) (List.getD y21 (Int.toNat s23) ([] : List Int)))), (21, .one (.dat (.int .i64) (wadd .i64 a1 (1 : Int)))), (22, .one (.dat (.int .i64) s5)), (25, .one (.dat (.int .i64) a1)), (26, .one (.dat (.int .i64) s13)), (35, .one (.dat (.sl (.sl (.int .i64))) y21)), (36, .one (.dat (.int .i64) (lenI y21))), (37, .one (.dat (.int .i64) s23))], [(0, .box [.dat (.int .i64) a0.1, .dat (.int .i64) a0.2.1, .dat (.sl (.int .i64)) a0.2.2.1, .dat (.sl .bool) a0.2.2.2]), (1, .box [.nilS, .nilS])], 2⟩ hP hN (by kernel_rfl) (allCons hg31 allNil) ?_
                  obtain ⟨hg32, hx28⟩ := of_guard hx28
                  obtain ⟨y33, hc34, hx28⟩ := of_bind hx28
                  obtain ⟨y35, hc36, hx28⟩ := of_bind hx28
                  refine HT.drw1 [1, 2, 4, 6, 10, 21, 22, 25, 26, 35, 36, 37] 10 [⟨⟨none, .no⟩, []⟩, ⟨⟨none, .no⟩, []⟩, ⟨⟨none, .no⟩, [0, 1]⟩, ⟨⟨none, .call [.imm (.sl (.int .i64))] [⟨true, (.sl (.int .i64)), y33⟩] []⟩, [0, 1, 2]⟩, ⟨⟨none, .no⟩, []⟩, ⟨⟨none, .no⟩, []⟩, ⟨⟨none, .no⟩, [4, 5]⟩, ⟨⟨none, .call [.imm (.sl (.int .i64))] [⟨true, (.sl (.int .i64)), y35⟩] []⟩, [0, 1, 2, 3, 4, 5, 6]⟩, ⟨⟨none, .no⟩, [0, 1, 2, 3, 4, 5, 6, 7]⟩, ⟨⟨none, .no⟩, []⟩] [[0, 1, 2, 3, 4, 5, 6, 7, 8, 9]] [⟨none, .no⟩] ⟨[(1, .one (.dat (.int .i64) a1)), (2, .one (.ptr 0 0)), (4, .one (.ptr 1 0)), (6, .one (.dat (.int .i64) s5)), (10, .one (.ptr 4 0)), (21, .one (.dat (.int .i64) (wadd .i64 a1 (1 : Int)))), (22, .one (.dat (.int .i64) s5)), (25, .one (.dat (.int .i64) a1)), (26, .one (.dat (.int .i64) s13)), (35, .one (.dat (.sl (.sl (.int .i64))) y21)), (36, .one (.dat (.int .i64) (lenI y21))), (37, .one (.dat (.int .i64) s23))], [(4, .box [.all 2, .all 3]), (4, .box [.nilS, .nilS]), (3, .seq (.int .i64) y35), (2, .seq (.int .i64) y33), (0, .box [.dat (.int .i64) a0.1, .dat (.int .i64) a0.2.1, .dat (.sl (.int .i64)) a0.2.2.1, .dat (.sl .bool) a0.2.2.2]), (1, .box [.nilS, .nilS])], 5⟩ hP hN (by kernel_rfl) (by kernel_rfl) (allCons (show (0 : Int) ≤ 0 ∧ (0 : Int) ≤ s5 ∧ s5 ≤ lenI (List.getD y21 (Int.toNat s23) ([] : List Int)) from ⟨Int.le_refl _, hg32.1, hg32.2⟩) (allCons (f80_ok hc34) (allCons (show (0 : Int) ≤ s5 ∧ s5 ≤ lenI (List.getD y21 (Int.toNat s23) ([] : List Int)) ∧ lenI (List.getD y21 (Int.toNat s23) ([] : List Int)) ≤ lenI (List.getD y21 (Int.toNat s23) ([] : List Int)) from ⟨hg32.1, hg32.2, Int.le_refl _⟩) (allCons (f80_ok hc36) allNil)))) ?_
                  obtain ⟨y37, hc38, hx28⟩ := of_bind hx28
                  refine HT.reg1 [1, 2, 4, 6, 10, 21, 22, 25, 26, 35, 36, 37, 52] [⟨none, .no⟩, ⟨none, .no⟩, ⟨none, .call [.imm (.st (.pair (.int .i64) (.pair (.int .i64) (.pair (.sl (.int .i64)) (.sl .bool))))), .imm (.st (.pair (.sl (.int .i64)) (.sl (.int .i64))))] [⟨false, .bool, y37⟩] []⟩] ⟨[(1, .one (.dat (.int .i64) a1)), (2, .one (.ptr 0 0)), (4, .one (.ptr 1 0)), (6, .one (.dat (.int .i64) s5)), (10, .one (.ptr 4 0)), (21, .one (.dat (.int .i64) (wadd .i64 a1 (1 : Int)))), (22, .one (.dat (.int .i64) s5)), (25, .one (.dat (.int .i64) a1)), (26, .one (.dat (.int .i64) s13)), (35, .one (.dat (.sl (.sl (.int .i64))) y21)), (36, .one (.dat (.int .i64) (lenI y21))), (37, .one (.dat (.int .i64) s23)), (52, .one (.dat .bool y37))], [(4, .box [.all 2, .all 3]), (4, .box [.nilS, .nilS]), (3, .seq (.int .i64) y35), (2, .seq (.int .i64) y33), (0, .box [.dat (.int .i64) a0.1, .dat (.int .i64) a0.2.1, .dat (.sl (.int .i64)) a0.2.2.1, .dat (.sl .bool) a0.2.2.2]), (1, .box [.nilS, .nilS])], 5⟩ hP hN (by kernel_rfl) (allCons (f81_ok hc38) allNil) ?_
                  rcases of_bif hx28 with ⟨hb39, hx28⟩ | ⟨hb39, hx28⟩
                  · refine HT.cond1 rfl hb39 ?_
                    refine HT.reg1 [4, 5] [⟨none, .no⟩, ⟨none, .no⟩, ⟨none, .no⟩] ⟨[(4, .one (.ptr 1 0)), (5, .one (.dat .bool true))], [(1, .box [.all 2, .all 3]), (4, .box [.all 2, .all 3]), (4, .box [.nilS, .nilS]), (3, .seq (.int .i64) y35), (2, .seq (.int .i64) y33), (0, .box [.dat (.int .i64) a0.1, .dat (.int .i64) a0.2.1, .dat (.sl (.int .i64)) a0.2.2.1, .dat (.sl .bool) a0.2.2.2]), (1, .box [.nilS, .nilS])], 5⟩ hP hN (by kernel_rfl) allNil ?_
                    have hx28 := of_some hx28
                    subst hx28
                    refine (Le.cv (s := ⟨[(1, 0), (2, 1), (3, 2)], [], [], false⟩) (own := []) (ps := [true = true, y33 = y33, y35 = y35]) (st' := ⟨[(4, .one (.ptr 0 0)), (5, .one (.dat .bool true))], [(0, .box [.all 1, .all 2]), (1, .seq (.int .i64) y33), (2, .seq (.int .i64) y35)], 3⟩) hO (fun h => by cases h) (by kernel_rfl) ⟨rfl, rfl, rfl, trivial⟩).ht ?_
                    exact HT.ret (qBlockR (qThenR (qLoopR (hk29 (.inr (y33, y35)) rfl))))
                  · refine HT.cond0 rfl hb39 ?_
                    refine HT.skip (qBlock (qThen ?_))
                    have hx28 := of_some hx28
                    subst hx28
                    refine HT.reg (rs := [⟨none, .no⟩, ⟨none, .no⟩]) (st' := ⟨[(37, .one (.dat (.int .i64) (wadd .i64 s23 (1 : Int)))), (54, .one (.dat (.int .i64) (wadd .i64 s23 (1 : Int)))), (1, .one (.dat (.int .i64) a1)), (2, .one (.ptr 0 0)), (4, .one (.ptr 1 0)), (6, .one (.dat (.int .i64) s5)), (10, .one (.ptr 4 0)), (21, .one (.dat (.int .i64) (wadd .i64 a1 (1 : Int)))), (22, .one (.dat (.int .i64) s5)), (25, .one (.dat (.int .i64) a1)), (26, .one (.dat (.int .i64) s13)), (35, .one (.dat (.sl (.sl (.int .i64))) y21)), (36, .one (.dat (.int .i64) (lenI y21))), (37, .one (.dat (.int .i64) s23)), (52, .one (.dat .bool y37))], [(4, .box [.all 2, .all 3]), (4, .box [.nilS, .nilS]), (3, .seq (.int .i64) y35), (2, .seq (.int .i64) y33), (0, .box [.dat (.int .i64) a0.1, .dat (.int .i64) a0.2.1, .dat (.sl (.int .i64)) a0.2.2.1, .dat (.sl .bool) a0.2.2.2]), (1, .box [.nilS, .nilS])], 5⟩) hP hN (by kernel_rfl) allNil (qLoopN ⟨(wadd .i64 s23 (1 : Int)), rfl, Le.cv (s := ⟨[(0, 0), (1, 1)], [], [], false⟩) (own := []) (ps := [a1 = a1, s5 = s5, (wadd .i64 a1 (1 : Int)) = (wadd .i64 a1 (1 : Int)), s5 = s5, a1 = a1, s13 = s13, y21 = y21, (lenI y21) = (lenI y21), (wadd .i64 s23 (1 : Int)) = (wadd .i64 s23 (1 : Int)), a0.1 = a0.1, a0.2.1 = a0.2.1, a0.2.2.1 = a0.2.2.1, a0.2.2.2 = a0.2.2.2]) (st' := ⟨[(1, .one (.dat (.int .i64) a1)), (2, .one (.ptr 0 0)), (4, .one (.ptr 1 0)), (6, .one (.dat (.int .i64) s5)), (21, .one (.dat (.int .i64) (wadd .i64 a1 (1 : Int)))), (22, .one (.dat (.int .i64) s5)), (25, .one (.dat (.int .i64) a1)), (26, .one (.dat (.int .i64) s13)), (35, .one (.dat (.sl (.sl (.int .i64))) y21)), (36, .one (.dat (.int .i64) (lenI y21))), (37, .one (.dat (.int .i64) (wadd .i64 s23 (1 : Int))))], [(0, .box [.dat (.int .i64) a0.1, .dat (.int .i64) a0.2.1, .dat (.sl (.int .i64)) a0.2.2.1, .dat (.sl .bool) a0.2.2.2]), (1, .box [.nilS, .nilS])], 2⟩) hO (fun h => by cases h) (by kernel_rfl) ⟨rfl, rfl, rfl, rfl, rfl, rfl, rfl, rfl, rfl, rfl, rfl, rfl, rfl, trivial⟩⟩)
                · refine HT.cond0 rfl hb30 ?_
                  have hx28 := of_some hx28
                  subst hx28
                  refine (Le.cv (s := ⟨[(0, 0), (1, 1)], [], [], false⟩) (own := []) (ps := [a1 = a1, s5 = s5, (wadd .i64 a1 (1 : Int)) = (wadd .i64 a1 (1 : Int)), s5 = s5, a1 = a1, s13 = s13, a0.1 = a0.1, a0.2.1 = a0.2.1, a0.2.2.1 = a0.2.2.1, a0.2.2.2 = a0.2.2.2]) (st' := ⟨[(1, .one (.dat (.int .i64) a1)), (2, .one (.ptr 0 0)), (4, .one (.ptr 1 0)), (6, .one (.dat (.int .i64) s5)), (21, .one (.dat (.int .i64) (wadd .i64 a1 (1 : Int)))), (22, .one (.dat (.int .i64) s5)), (25, .one (.dat (.int .i64) a1)), (26, .one (.dat (.int .i64) s13))], [(0, .box [.dat (.int .i64) a0.1, .dat (.int .i64) a0.2.1, .dat (.sl (.int .i64)) a0.2.2.1, .dat (.sl .bool) a0.2.2.2]), (1, .box [.nilS, .nilS])], 2⟩) hO (fun h => by cases h) (by kernel_rfl) ⟨rfl, rfl, rfl, rfl, rfl, rfl, rfl, rfl, rfl, rfl, trivial⟩).ht ?_
                  exact HT.exit (qThenE (qLoopE (hk29 (.inl ()) rfl)))
            · refine HT.cond0 rfl hb20 ?_
              have hx18 := of_some hx18
              subst hx18
              refine (Le.cv (s := ⟨[(0, 0), (1, 1)], [], [], false⟩) (own := []) (ps := [a1 = a1, (wadd .i64 a1 (1 : Int)) = (wadd .i64 a1 (1 : Int)), s5 = s5, a0.1 = a0.1, a0.2.1 = a0.2.1, a0.2.2.1 = a0.2.2.1, a0.2.2.2 = a0.2.2.2]) (st' := ⟨[(1, .one (.dat (.int .i64) a1)), (2, .one (.ptr 0 0)), (4, .one (.ptr 1 0)), (21, .one (.dat (.int .i64) (wadd .i64 a1 (1 : Int)))), (22, .one (.dat (.int .i64) s5))], [(0, .box [.dat (.int .i64) a0.1, .dat (.int .i64) a0.2.1, .dat (.sl (.int .i64)) a0.2.2.1, .dat (.sl .bool) a0.2.2.2]), (1, .box [.nilS, .nilS])], 2⟩) hO (fun h => by cases h) (by kernel_rfl) ⟨rfl, rfl, rfl, rfl, rfl, rfl, rfl, trivial⟩).ht ?_
              exact HT.exit (qThenE (qLoopE (hk19 (.inl ()) rfl)))
        · refine HT.cond0 rfl hb12 ?_
          have hx10 := of_some hx10
          subst hx10
          refine (Le.cv (s := ⟨[(1, 0)], [], [], false⟩) (own := []) (ps := []) (st' := ⟨[(4, .one (.ptr 0 0))], [(0, .box [.nilS, .nilS])], 1⟩) hO (fun h => by cases h) (by kernel_rfl) trivial).ht ?_
          exact HT.exit (qThenE (qLoopE (hk11 (.inl ()) rfl)))
  · obtain ⟨y43, hc44, hT3⟩ := of_bind hT3
    rcases of_bif hT3 with ⟨hb45, hT3⟩ | ⟨hb45, hT3⟩
    · refine HT.reg (rs := [⟨none, .no⟩, ⟨none, .call [.imm (.st (.pair (.int .i64) (.pair (.int .i64) (.pair (.sl (.int .i64)) (.sl .bool)))))] [⟨false, .bool, y43⟩] []⟩, ⟨none, .no⟩, ⟨none, .no⟩, ⟨some true, .no⟩, ⟨some true, .no⟩, ⟨some true, .no⟩, ⟨none, .tv true⟩]) (st' := ⟨[(18, .one (.dat .bool true)), (17, .und), (16, .und), (15, .und), (14, .one (.dat .bool (!y43))), (13, .one (.dat .bool (!y43))), (12, .one (.dat .bool y43)), (11, .agg [.dat (.int .i64) a0.1, .dat (.int .i64) a0.2.1, .dat (.sl (.int .i64)) a0.2.2.1, .dat (.sl .bool) a0.2.2.2]), (1, .one (.dat (.int .i64) a1)), (2, .one (.ptr 0 0)), (4, .one (.ptr 1 0))], [(1, .box [.nilS, .nilS]), (0, .box [.dat (.int .i64) a0.1, .dat (.int .i64) a0.2.1, .dat (.sl (.int .i64)) a0.2.2.1, .dat (.sl .bool) a0.2.2.2])], 2⟩) hP hN (by kernel_rfl) (allCons (f79_ok hc44) (allCons hb45 (allCons hb45 (allCons hb45 (allCons hb45 allNil))))) (qThen ?_)
      exact (Le.cv (s := ⟨[(0, 0), (1, 1)], [], [], false⟩) (own := []) (ps := [a1 = a1, true = true, a0.1 = a0.1, a0.2.1 = a0.2.1, a0.2.2.1 = a0.2.2.1, a0.2.2.2 = a0.2.2.2]) (st' := ⟨[(1, .one (.dat (.int .i64) a1)), (2, .one (.ptr 0 0)), (4, .one (.ptr 1 0)), (18, .one (.dat .bool true))], [(0, .box [.dat (.int .i64) a0.1, .dat (.int .i64) a0.2.1, .dat (.sl (.int .i64)) a0.2.2.1, .dat (.sl .bool) a0.2.2.2]), (1, .box [.nilS, .nilS])], 2⟩) hO (fun h => by cases h) (by kernel_rfl) ⟨rfl, rfl, rfl, rfl, rfl, rfl, trivial⟩).ht (cont true (of_some hT3))
    · obtain ⟨y46, hc47, hT3⟩ := of_bind hT3
      refine HT.reg (rs := [⟨none, .no⟩, ⟨none, .call [.imm (.st (.pair (.int .i64) (.pair (.int .i64) (.pair (.sl (.int .i64)) (.sl .bool)))))] [⟨false, .bool, y43⟩] []⟩, ⟨none, .no⟩, ⟨none, .no⟩, ⟨some false, .no⟩, ⟨some false, .call [.imm (.int .i64), .imm (.int .i64), .imm (.int .i64)] [⟨false, .bool, y46⟩] []⟩, ⟨some false, .no⟩, ⟨none, .tv false⟩]) (st' := ⟨[(18, .one (.dat .bool (!y46))), (17, .one (.dat .bool (!y46))), (16, .one (.dat .bool y46)), (15, .one (.dat (.int .i64) a1)), (14, .one (.dat .bool (!y43))), (13, .one (.dat .bool (!y43))), (12, .one (.dat .bool y43)), (11, .agg [.dat (.int .i64) a0.1, .dat (.int .i64) a0.2.1, .dat (.sl (.int .i64)) a0.2.2.1, .dat (.sl .bool) a0.2.2.2]), (1, .one (.dat (.int .i64) a1)), (2, .one (.ptr 0 0)), (4, .one (.ptr 1 0))], [(1, .box [.nilS, .nilS]), (0, .box [.dat (.int .i64) a0.1, .dat (.int .i64) a0.2.1, .dat (.sl (.int .i64)) a0.2.2.1, .dat (.sl .bool) a0.2.2.2])], 2⟩) hP hN (by kernel_rfl) (allCons (f79_ok hc44) (allCons hb45 (allCons hb45 (allCons (f69_ok hc47) (allCons hb45 (allCons hb45 allNil)))))) (qThen ?_)
      exact (Le.cv (s := ⟨[(0, 0), (1, 1)], [], [], false⟩) (own := []) (ps := [a1 = a1, (!y46) = (!y46), a0.1 = a0.1, a0.2.1 = a0.2.1, a0.2.2.1 = a0.2.2.1, a0.2.2.2 = a0.2.2.2]) (st' := ⟨[(1, .one (.dat (.int .i64) a1)), (2, .one (.ptr 0 0)), (4, .one (.ptr 1 0)), (18, .one (.dat .bool (!y46)))], [(0, .box [.dat (.int .i64) a0.1, .dat (.int .i64) a0.2.1, .dat (.sl (.int .i64)) a0.2.2.1, .dat (.sl .bool) a0.2.2.2]), (1, .box [.nilS, .nilS])], 2⟩) hO (fun h => by cases h) (by kernel_rfl) ⟨rfl, rfl, rfl, rfl, rfl, rfl, trivial⟩).ht (cont (!y46) (of_some hT3))

noncomputable def laws_eqInt64S_B1 (a0 : List Int) (a1 : List Int) (s2 : Int) : Option ((Int) ⊕ (Unit ⊕ Unit)) :=
  bif (decide (s2 < (lenI a0))) then
    guardP ((0 : Int) ≤ s2 ∧ s2 < lenI a0) (
      guardP ((0 : Int) ≤ s2 ∧ s2 < lenI a1) (
        bif ((List.getD a0 (Int.toNat s2) (0 : Int)) != (List.getD a1 (Int.toNat s2) (0 : Int))) then
          some (.inr (.inr ()))
        else
          some (.inl (wadd .i64 s2 (1 : Int)))))
  else
    some (.inr (.inl ()))

noncomputable def laws_eqInt64S (a0 : List Int) (a1 : List Int) : Option (Bool) :=
  bif ((lenI a0) != (lenI a1)) then
    some false
  else
    (rounds (laws_eqInt64S_B1 a0 a1) (0 : Int)).bind fun r3 => match r3 with
      | .inl r4 =>
        some true
      | .inr r5 =>
        some false

theorem f34_ok {a0 : List Int} {a1 : List Int} {r : Bool} (hr : laws_eqInt64S a0 a1 = some r) : CallOK Try.prog 34 [.imm (.sl (.int .i64)) a0, .imm (.sl (.int .i64)) a1] [⟨false, .bool, r⟩] [] := by
  unfold laws_eqInt64S at hr
  refine CallOK.of_body (ts := [(false, .bool)]) Try.func34 rfl (by kernel_rfl) (Nat.le_of_ble_eq_true (by kernel_rfl)) fun cx hP hN hO hF => ?_
  have hO : cx.own.map Prod.fst = [] := hO
  have hF := hF rfl
  show HT cx ⟨[(0, .one (.dat (.sl (.int .i64)) a0)), (1, .one (.dat (.sl (.int .i64)) a1))], [], 0⟩ _ _
  refine HT.reg1 [0, 1] [⟨none, .no⟩] ⟨[(0, .one (.dat (.sl (.int .i64)) a0)), (1, .one (.dat (.sl (.int .i64)) a1))], [], 0⟩ hP hN (by kernel_rfl) allNil ?_
  refine HT.seq ?_
  refine HT.reg1 [0, 1, 10] [⟨none, .no⟩, ⟨none, .no⟩, ⟨none, .no⟩, ⟨none, .no⟩, ⟨none, .no⟩] ⟨[(0, .one (.dat (.sl (.int .i64)) a0)), (1, .one (.dat (.sl (.int .i64)) a1)), (10, .one (.dat .bool ((lenI a0) != (lenI a1))))], [], 0⟩ hP hN (by kernel_rfl) allNil ?_
  rcases of_bif hr with ⟨hb1, hr⟩ | ⟨hb1, hr⟩
  · refine HT.cond1 rfl hb1 ?_
    refine HT.reg1 [4] [⟨none, .no⟩] ⟨[(4, .one (.dat .bool false))], [], 0⟩ hP hN (by kernel_rfl) allNil ?_
    have hr := of_some hr
    subst hr
    exact HT.ret (qThenR ⟨[.one (.dat .bool false)], [], [], by kernel_rfl, by kernel_rfl, rfl, by kernel_rfl, by kernel_rfl, trivial⟩)
  · refine HT.cond0 rfl hb1 ?_
    refine HT.skip (qThen ?_)
    refine HT.seq ?_
    refine HT.reg1 [0, 1, 5] [⟨none, .no⟩] ⟨[(0, .one (.dat (.sl (.int .i64)) a0)), (1, .one (.dat (.sl (.int .i64)) a1)), (5, .one (.dat (.int .i64) (0 : Int)))], [], 0⟩ hP hN (by kernel_rfl) allNil ?_
    refine HT.block ?_
    obtain ⟨r3, hL13, hr⟩ := of_bind hr
    refine (Le.cv (s := ⟨[], [], [], false⟩) (own := []) (ps := [a0 = a0, a1 = a1, (0 : Int) = (0 : Int)]) (st' := ⟨[(0, .one (.dat (.sl (.int .i64)) a0)), (1, .one (.dat (.sl (.int .i64)) a1)), (5, .one (.dat (.int .i64) (0 : Int)))], [], 0⟩) hO (fun h => by cases h) (by kernel_rfl) ⟨rfl, rfl, rfl, trivial⟩).ht ?_
    refine HT.loopE (s := (0 : Int)) (fun (s2 : Int) => ⟨[(0, .one (.dat (.sl (.int .i64)) a0)), (1, .one (.dat (.sl (.int .i64)) a1)), (5, .one (.dat (.int .i64) s2))], [], 0⟩) (fun (r3 : Unit ⊕ Unit) => match r3 with | .inl r4 => (.exit 0, ⟨[], [], 0⟩) | .inr r5 => (.ret, ⟨[(4, .one (.dat .bool false))], [], 0⟩)) hL13 ?_ (fun s2 x6 hx7 hk8 => ?_)
    · rcases r3 with r4 | r5
      · refine (qBlockX (qThen ?_))
        refine HT.reg1 [4] [⟨none, .no⟩] ⟨[(4, .one (.dat .bool true))], [], 0⟩ hP hN (by kernel_rfl) allNil ?_
        have hr := of_some hr
        subst hr
        exact HT.ret ⟨[.one (.dat .bool true)], [], [], by kernel_rfl, by kernel_rfl, rfl, by kernel_rfl, by kernel_rfl, trivial⟩
      · have hr := of_some hr
        subst hr
        exact (qBlockR (qThenR ⟨[.one (.dat .bool false)], [], [], by kernel_rfl, by kernel_rfl, rfl, by kernel_rfl, by kernel_rfl, trivial⟩))
    · refine HT.seq ?_
      refine HT.reg1 [0, 1, 5, 14] [⟨none, .no⟩, ⟨none, .no⟩, ⟨none, .no⟩, ⟨none, .no⟩] ⟨[(0, .one (.dat (.sl (.int .i64)) a0)), (1, .one (.dat (.sl (.int .i64)) a1)), (5, .one (.dat (.int .i64) s2)), (14, .one (.dat .bool (decide (s2 < (lenI a0)))))], [], 0⟩ hP hN (by kernel_rfl) allNil ?_
      rcases of_bif hx7 with ⟨hb9, hx7⟩ | ⟨hb9, hx7⟩
      · refine HT.cond1 rfl hb9 ?_
        refine HT.skip (qThen ?_)
        refine HT.seq ?_
        refine HT.block ?_
        obtain ⟨hg10, hx7⟩ := of_guard hx7
        obtain ⟨hg11, hx7⟩ := of_guard hx7
        refine HT.drw1 [0, 1, 5, 25] 8 [⟨⟨none, .no⟩, []⟩, ⟨⟨none, .no⟩, []⟩, ⟨⟨none, .no⟩, [0, 1]⟩, ⟨⟨none, .no⟩, [0, 1, 2]⟩, ⟨⟨none, .no⟩, []⟩, ⟨⟨none, .no⟩, []⟩, ⟨⟨none, .no⟩, [4, 5]⟩, ⟨⟨none, .no⟩, [4, 5, 6]⟩] [[0, 1, 2, 3, 4, 5, 6, 7]] [⟨none, .no⟩] ⟨[(0, .one (.dat (.sl (.int .i64)) a0)), (1, .one (.dat (.sl (.int .i64)) a1)), (5, .one (.dat (.int .i64) s2)), (25, .one (.dat .bool ((List.getD a0 (Int.toNat s2) (0 : Int)) != (List.getD a1 (Int.toNat s2) (0 : Int)))))], [], 0⟩ hP hN (by kernel_rfl) (by kernel_rfl) (allCons hg10 (allCons hg11 allNil)) ?_
        rcases of_bif hx7 with ⟨hb12, hx7⟩ | ⟨hb12, hx7⟩
        · refine HT.cond1 rfl hb12 ?_
          refine HT.reg1 [4] [⟨none, .no⟩] ⟨[(4, .one (.dat .bool false))], [], 0⟩ hP hN (by kernel_rfl) allNil ?_
          have hx7 := of_some hx7
          subst hx7
          refine (Le.cv (s := ⟨[], [], [], false⟩) (own := []) (ps := [false = false]) (st' := ⟨[(4, .one (.dat .bool false))], [], 0⟩) hO (fun h => by cases h) (by kernel_rfl) ⟨rfl, trivial⟩).ht ?_
          exact HT.ret (qBlockR (qThenR (qLoopR (hk8 (.inr ()) rfl))))
        · refine HT.cond0 rfl hb12 ?_
          refine HT.skip (qBlock (qThen ?_))
          have hx7 := of_some hx7
          subst hx7
          refine HT.reg (rs := [⟨none, .no⟩, ⟨none, .no⟩, ⟨none, .no⟩]) (st' := ⟨[(5, .one (.dat (.int .i64) (wadd .i64 s2 (1 : Int)))), (16, .one (.dat (.int .i64) (wadd .i64 s2 (1 : Int)))), (15, .one (.dat (.int .i64) s2)), (0, .one (.dat (.sl (.int .i64)) a0)), (1, .one (.dat (.sl (.int .i64)) a1)), (5, .one (.dat (.int .i64) s2)), (25, .one (.dat .bool ((List.getD a0 (Int.toNat s2) (0 : Int)) != (List.getD a1 (Int.toNat s2) (0 : Int)))))], [], 0⟩) hP hN (by kernel_rfl) allNil (qLoopN ⟨(wadd .i64 s2 (1 : Int)), rfl, Le.cv (s := ⟨[], [], [], false⟩) (own := []) (ps := [a0 = a0, a1 = a1, (wadd .i64 s2 (1 : Int)) = (wadd .i64 s2 (1 : Int))]) (st' := ⟨[(0, .one (.dat (.sl (.int .i64)) a0)), (1, .one (.dat (.sl (.int .i64)) a1)), (5, .one (.dat (.int .i64) (wadd .i64 s2 (1 : Int))))], [], 0⟩) hO (fun h => by cases h) (by kernel_rfl) ⟨rfl, rfl, rfl, trivial⟩⟩)
      · refine HT.cond0 rfl hb9 ?_
        have hx7 := of_some hx7
        subst hx7
        refine (Le.cv (s := ⟨[], [], [], false⟩) (own := []) (ps := []) (st' := ⟨[], [], 0⟩) hO (fun h => by cases h) (by kernel_rfl) trivial).ht ?_
        exact HT.exit (qThenE (qLoopE (hk8 (.inl ()) rfl)))

noncomputable def laws_eqBoolS_B1 (a0 : List Bool) (a1 : List Bool) (s2 : Int) : Option ((Int) ⊕ (Unit ⊕ Unit)) :=
  bif (decide (s2 < (lenI a0))) then
    guardP ((0 : Int) ≤ s2 ∧ s2 < lenI a0) (
      guardP ((0 : Int) ≤ s2 ∧ s2 < lenI a1) (
        bif ((List.getD a0 (Int.toNat s2) false) != (List.getD a1 (Int.toNat s2) false)) then
          some (.inr (.inr ()))
        else
          some (.inl (wadd .i64 s2 (1 : Int)))))
  else
    some (.inr (.inl ()))

noncomputable def laws_eqBoolS (a0 : List Bool) (a1 : List Bool) : Option (Bool) :=
  bif ((lenI a0) != (lenI a1)) then
    some false
  else
    (rounds (laws_eqBoolS_B1 a0 a1) (0 : Int)).bind fun r3 => match r3 with
      | .inl r4 =>
        some true
      | .inr r5 =>
        some false

theorem f82_ok {a0 : List Bool} {a1 : List Bool} {r : Bool} (hr : laws_eqBoolS a0 a1 = some r) : CallOK Try.prog 82 [.imm (.sl .bool) a0, .imm (.sl .bool) a1] [⟨false, .bool, r⟩] [] := by
  unfold laws_eqBoolS at hr
  refine CallOK.of_body (ts := [(false, .bool)]) Try.func82 rfl (by kernel_rfl) (Nat.le_of_ble_eq_true (by kernel_rfl)) fun cx hP hN hO hF => ?_
  have hO : cx.own.map Prod.fst = [] := hO
  have hF := hF rfl
  show HT cx ⟨[(0, .one (.dat (.sl .bool) a0)), (1, .one (.dat (.sl .bool) a1))], [], 0⟩ _ _
  refine HT.reg1 [0, 1] [⟨none, .no⟩] ⟨[(0, .one (.dat (.sl .bool) a0)), (1, .one (.dat (.sl .bool) a1))], [], 0⟩ hP hN (by kernel_rfl) allNil ?_
  refine HT.seq ?_
  refine HT.reg1 [0, 1, 10] [⟨none, .no⟩, ⟨none, .no⟩, ⟨none, .no⟩, ⟨none, .no⟩, ⟨none, .no⟩] ⟨[(0, .one (.dat (.sl .bool) a0)), (1, .one (.dat (.sl .bool) a1)), (10, .one (.dat .bool ((lenI a0) != (lenI a1))))], [], 0⟩ hP hN (by kernel_rfl) allNil ?_
  rcases of_bif hr with ⟨hb1, hr⟩ | ⟨hb1, hr⟩
  · refine HT.cond1 rfl hb1 ?_
    refine HT.reg1 [4] [⟨none, .no⟩] ⟨[(4, .one (.dat .bool false))], [], 0⟩ hP hN (by kernel_rfl) allNil ?_
    have hr := of_some hr
    subst hr
    exact HT.ret (qThenR ⟨[.one (.dat .bool false)], [], [], by kernel_rfl, by kernel_rfl, rfl, by kernel_rfl, by kernel_rfl, trivial⟩)
  · refine HT.cond0 rfl hb1 ?_
    refine HT.skip (qThen ?_)
    refine HT.seq ?_
    refine HT.reg1 [0, 1, 5] [⟨none, .no⟩] ⟨[(0, .one (.dat (.sl .bool) a0)), (1, .one (.dat (.sl .bool) a1)), (5, .one (.dat (.int .i64) (0 : Int)))], [], 0⟩ hP hN (by kernel_rfl) allNil ?_
    refine HT.block ?_
    obtain ⟨r3, hL13, hr⟩ := of_bind hr
    refine (Le.cv (s := ⟨[], [], [], false⟩) (own := []) (ps := [a0 = a0, a1 = a1, (0 : Int) = (0 : Int)]) (st' := ⟨[(0, .one (.dat (.sl .bool) a0)), (1, .one (.dat (.sl .bool) a1)), (5, .one (.dat (.int .i64) (0 : Int)))], [], 0⟩) hO (fun h => by cases h) (by kernel_rfl) ⟨rfl, rfl, rfl, trivial⟩).ht ?_
    refine HT.loopE (s := (0 : Int)) (fun (s2 : Int) => ⟨[(0, .one (.dat (.sl .bool) a0)), (1, .one (.dat (.sl .bool) a1)), (5, .one (.dat (.int .i64) s2))], [], 0⟩) (fun (r3 : Unit ⊕ Unit) => match r3 with | .inl r4 => (.exit 0, ⟨[], [], 0⟩) | .inr r5 => (.ret, ⟨[(4, .one (.dat .bool false))], [], 0⟩)) hL13 ?_ (fun s2 x6 hx7 hk8 => ?_)
    · rcases r3 with r4 | r5
      · refine (qBlockX (qThen ?_))
        refine HT.reg1 [4] [⟨none, .no⟩] ⟨[(4, .one (.dat .bool true))], [], 0⟩ hP hN (by kernel_rfl) allNil ?_
        have hr := of_some hr
        subst hr
        exact HT.ret ⟨[.one (.dat .bool true)], [], [], by kernel_rfl, by kernel_rfl, rfl, by kernel_rfl, by kernel_rfl, trivial⟩
      · have hr := of_some hr
        subst hr
        exact (qBlockR (qThenR ⟨[.one (.dat .bool false)], [], [], by kernel_rfl, by kernel_rfl, rfl, by kernel_rfl, by kernel_rfl, trivial⟩))
    · refine HT.seq ?_
      refine HT.reg1 [0, 1, 5, 14] [⟨none, .no⟩, ⟨none, .no⟩, ⟨none, .no⟩, ⟨none, .no⟩] ⟨[(0, .one (.dat (.sl .bool) a0)), (1, .one (.dat (.sl .bool) a1)), (5, .one (.dat (.int .i64) s2)), (14, .one (.dat .bool (decide (s2 < (lenI a0)))))], [], 0⟩ hP hN (by kernel_rfl) allNil ?_
      rcases of_bif hx7 with ⟨hb9, hx7⟩ | ⟨hb9, hx7⟩
      · refine HT.cond1 rfl hb9 ?_
        refine HT.skip (qThen ?_)
        refine HT.seq ?_
        refine HT.block ?_
        obtain ⟨hg10, hx7⟩ := of_guard hx7
        obtain ⟨hg11, hx7⟩ := of_guard hx7
        refine HT.drw1 [0, 1, 5, 25] 8 [⟨⟨none, .no⟩, []⟩, ⟨⟨none, .no⟩, []⟩, ⟨⟨none, .no⟩, [0, 1]⟩, ⟨⟨none, .no⟩, [0, 1, 2]⟩, ⟨⟨none, .no⟩, []⟩, ⟨⟨none, .no⟩, []⟩, ⟨⟨none, .no⟩, [4, 5]⟩, ⟨⟨none, .no⟩, [4, 5, 6]⟩] [[0, 1, 2, 3, 4, 5, 6, 7]] [⟨none, .no⟩] ⟨[(0, .one (.dat (.sl .bool) a0)), (1, .one (.dat (.sl .bool) a1)), (5, .one (.dat (.int .i64) s2)), (25, .one (.dat .bool ((List.getD a0 (Int.toNat s2) false) != (List.getD a1 (Int.toNat s2) false))))], [], 0⟩ hP hN (by kernel_rfl) (by kernel_rfl) (allCons hg10 (allCons hg11 allNil)) ?_
        rcases of_bif hx7 with ⟨hb12, hx7⟩ | ⟨hb12, hx7⟩
        · refine HT.cond1 rfl hb12 ?_
          refine HT.reg1 [4] [⟨none, .no⟩] ⟨[(4, .one (.dat .bool false))], [], 0⟩ hP hN (by kernel_rfl) allNil ?_
          have hx7 := of_some hx7
          subst hx7
          refine (Le.cv (s := ⟨[], [], [], false⟩) (own := []) (ps := [false = false]) (st' := ⟨[(4, .one (.dat .bool false))], [], 0⟩) hO (fun h => by cases h) (by kernel_rfl) ⟨rfl, trivial⟩).ht ?_
          exact HT.ret (qBlockR (qThenR (qLoopR (hk8 (.inr ()) rfl))))
        · refine HT.cond0 rfl hb12 ?_
          refine HT.skip (qBlock (qThen ?_))
          have hx7 := of_some hx7
          subst hx7
          refine HT.reg (rs := [⟨none, .no⟩, ⟨none, .no⟩, ⟨none, .no⟩]) (st' := ⟨[(5, .one (.dat (.int .i64) (wadd .i64 s2 (1 : Int)))), (16, .one (.dat (.int .i64) (wadd .i64 s2 (1 : Int)))), (15, .one (.dat (.int .i64) s2)), (0, .one (.dat (.sl .bool) a0)), (1, .one (.dat (.sl .bool) a1)), (5, .one (.dat (.int .i64) s2)), (25, .one (.dat .bool ((List.getD a0 (Int.toNat s2) false) != (List.getD a1 (Int.toNat s2) false))))], [], 0⟩) hP hN (by kernel_rfl) allNil (qLoopN ⟨(wadd .i64 s2 (1 : Int)), rfl, Le.cv (s := ⟨[], [], [], false⟩) (own := []) (ps := [a0 = a0, a1 = a1, (wadd .i64 s2 (1 : Int)) = (wadd .i64 s2 (1 : Int))]) (st' := ⟨[(0, .one (.dat (.sl .bool) a0)), (1, .one (.dat (.sl .bool) a1)), (5, .one (.dat (.int .i64) (wadd .i64 s2 (1 : Int))))], [], 0⟩) hO (fun h => by cases h) (by kernel_rfl) ⟨rfl, rfl, rfl, trivial⟩⟩)
      · refine HT.cond0 rfl hb9 ?_
        have hx7 := of_some hx7
        subst hx7
        refine (Le.cv (s := ⟨[], [], [], false⟩) (own := []) (ps := []) (st' := ⟨[], [], 0⟩) hO (fun h => by cases h) (by kernel_rfl) trivial).ht ?_
        exact HT.exit (qThenE (qLoopE (hk8 (.inl ()) rfl)))

noncomputable def laws_eqPlain (a0 : Int × Int × List Int × List Bool) (a1 : Int × Int × List Int × List Bool) : Option (Bool) :=
  bif (a0.1 != a1.1) then
    some false
  else
    bif (a0.2.1 != a1.2.1) then
      some false
    else
      (laws_eqInt64S a0.2.2.1 a1.2.2.1).bind fun y3 =>
      bif (!y3) then
        some false
      else
        (laws_eqBoolS a0.2.2.2 a1.2.2.2).bind fun y6 =>
        bif (!y6) then
          some false
        else
          some true

theorem f26_ok {a0 : Int × Int × List Int × List Bool} {a1 : Int × Int × List Int × List Bool} {r : Bool} (hr : laws_eqPlain a0 a1 = some r) : CallOK Try.prog 26 [.imm (.st (.pair (.int .i64) (.pair (.int .i64) (.pair (.sl (.int .i64)) (.sl .bool))))) a0, .imm (.st (.pair (.int .i64) (.pair (.int .i64) (.pair (.sl (.int .i64)) (.sl .bool))))) a1] [⟨false, .bool, r⟩] [] := by
  unfold laws_eqPlain at hr
  refine CallOK.of_body (ts := [(false, .bool)]) Try.func26 rfl (by kernel_rfl) (Nat.le_of_ble_eq_true (by kernel_rfl)) fun cx hP hN hO hF => ?_
  have hO : cx.own.map Prod.fst = [] := hO
  have hF := hF rfl
  show HT cx ⟨[(0, .agg [.dat (.int .i64) a0.1, .dat (.int .i64) a0.2.1, .dat (.sl (.int .i64)) a0.2.2.1, .dat (.sl .bool) a0.2.2.2]), (1, .agg [.dat (.int .i64) a1.1, .dat (.int .i64) a1.2.1, .dat (.sl (.int .i64)) a1.2.2.1, .dat (.sl .bool) a1.2.2.2])], [], 0⟩ _ _
  refine HT.reg1 [2, 3] [⟨none, .no⟩, ⟨none, .no⟩, ⟨none, .no⟩] ⟨[(2, .one (.ptr 0 0)), (3, .one (.ptr 1 0))], [(1, .box [.dat (.int .i64) a1.1, .dat (.int .i64) a1.2.1, .dat (.sl (.int .i64)) a1.2.2.1, .dat (.sl .bool) a1.2.2.2]), (0, .box [.dat (.int .i64) a0.1, .dat (.int .i64) a0.2.1, .dat (.sl (.int .i64)) a0.2.2.1, .dat (.sl .bool) a0.2.2.2])], 2⟩ hP hN (by kernel_rfl) allNil ?_
  refine HT.seq ?_
  refine HT.reg1 [2, 3, 9] [⟨none, .no⟩, ⟨none, .no⟩, ⟨none, .no⟩, ⟨none, .no⟩, ⟨none, .no⟩] ⟨[(2, .one (.ptr 0 0)), (3, .one (.ptr 1 0)), (9, .one (.dat .bool (a0.1 != a1.1)))], [(1, .box [.dat (.int .i64) a1.1, .dat (.int .i64) a1.2.1, .dat (.sl (.int .i64)) a1.2.2.1, .dat (.sl .bool) a1.2.2.2]), (0, .box [.dat (.int .i64) a0.1, .dat (.int .i64) a0.2.1, .dat (.sl (.int .i64)) a0.2.2.1, .dat (.sl .bool) a0.2.2.2])], 2⟩ hP hN (by kernel_rfl) allNil ?_
  rcases of_bif hr with ⟨hb1, hr⟩ | ⟨hb1, hr⟩
  · refine HT.cond1 rfl hb1 ?_
    refine HT.reg1 [4] [⟨none, .no⟩] ⟨[(4, .one (.dat .bool false))], [(1, .box [.dat (.int .i64) a1.1, .dat (.int .i64) a1.2.1, .dat (.sl (.int .i64)) a1.2.2.1, .dat (.sl .bool) a1.2.2.2]), (0, .box [.dat (.int .i64) a0.1, .dat (.int .i64) a0.2.1, .dat (.sl (.int .i64)) a0.2.2.1, .dat (.sl .bool) a0.2.2.2])], 2⟩ hP hN (by kernel_rfl) allNil ?_
    have hr := of_some hr
    subst hr
    exact HT.ret (qThenR ⟨[.one (.dat .bool false)], [], [], by kernel_rfl, by kernel_rfl, rfl, by kernel_rfl, by kernel_rfl, trivial⟩)
  · refine HT.cond0 rfl hb1 ?_
    refine HT.skip (qThen ?_)
    refine HT.seq ?_
    refine HT.reg1 [2, 3, 14] [⟨none, .no⟩, ⟨none, .no⟩, ⟨none, .no⟩, ⟨none, .no⟩, ⟨none, .no⟩] ⟨[(2, .one (.ptr 0 0)), (3, .one (.ptr 1 0)), (14, .one (.dat .bool (a0.2.1 != a1.2.1)))], [(1, .box [.dat (.int .i64) a1.1, .dat (.int .i64) a1.2.1, .dat (.sl (.int .i64)) a1.2.2.1, .dat (.sl .bool) a1.2.2.2]), (0, .box [.dat (.int .i64) a0.1, .dat (.int .i64) a0.2.1, .dat (.sl (.int .i64)) a0.2.2.1, .dat (.sl .bool) a0.2.2.2])], 2⟩ hP hN (by kernel_rfl) allNil ?_
    rcases of_bif hr with ⟨hb2, hr⟩ | ⟨hb2, hr⟩
    · refine HT.cond1 rfl hb2 ?_
      refine HT.reg1 [4] [⟨none, .no⟩] ⟨[(4, .one (.dat .bool false))], [(1, .box [.dat (.int .i64) a1.1, .dat (.int .i64) a1.2.1, .dat (.sl (.int .i64)) a1.2.2.1, .dat (.sl .bool) a1.2.2.2]), (0, .box [.dat (.int .i64) a0.1, .dat (.int .i64) a0.2.1, .dat (.sl (.int .i64)) a0.2.2.1, .dat (.sl .bool) a0.2.2.2])], 2⟩ hP hN (by kernel_rfl) allNil ?_
      have hr := of_some hr
      subst hr
      exact HT.ret (qThenR ⟨[.one (.dat .bool false)], [], [], by kernel_rfl, by kernel_rfl, rfl, by kernel_rfl, by kernel_rfl, trivial⟩)
    · refine HT.cond0 rfl hb2 ?_
      refine HT.skip (qThen ?_)
      refine HT.seq ?_
      obtain ⟨y3, hc4, hr⟩ := of_bind hr
      refine HT.reg1 [2, 3, 20] [⟨none, .no⟩, ⟨none, .no⟩, ⟨none, .no⟩, ⟨none, .no⟩, ⟨none, .call [.imm (.sl (.int .i64)), .imm (.sl (.int .i64))] [⟨false, .bool, y3⟩] []⟩, ⟨none, .no⟩] ⟨[(2, .one (.ptr 0 0)), (3, .one (.ptr 1 0)), (20, .one (.dat .bool (!y3)))], [(1, .box [.dat (.int .i64) a1.1, .dat (.int .i64) a1.2.1, .dat (.sl (.int .i64)) a1.2.2.1, .dat (.sl .bool) a1.2.2.2]), (0, .box [.dat (.int .i64) a0.1, .dat (.int .i64) a0.2.1, .dat (.sl (.int .i64)) a0.2.2.1, .dat (.sl .bool) a0.2.2.2])], 2⟩ hP hN (by kernel_rfl) (allCons (f34_ok hc4) allNil) ?_
      rcases of_bif hr with ⟨hb5, hr⟩ | ⟨hb5, hr⟩
      · refine HT.cond1 rfl hb5 ?_
        refine HT.reg1 [4] [⟨none, .no⟩] ⟨[(4, .one (.dat .bool false))], [(1, .box [.dat (.int .i64) a1.1, .dat (.int .i64) a1.2.1, .dat (.sl (.int .i64)) a1.2.2.1, .dat (.sl .bool) a1.2.2.2]), (0, .box [.dat (.int .i64) a0.1, .dat (.int .i64) a0.2.1, .dat (.sl (.int .i64)) a0.2.2.1, .dat (.sl .bool) a0.2.2.2])], 2⟩ hP hN (by kernel_rfl) allNil ?_
        have hr := of_some hr
        subst hr
        exact HT.ret (qThenR ⟨[.one (.dat .bool false)], [], [], by kernel_rfl, by kernel_rfl, rfl, by kernel_rfl, by kernel_rfl, trivial⟩)
      · refine HT.cond0 rfl hb5 ?_
        refine HT.skip (qThen ?_)
        refine HT.seq ?_
        obtain ⟨y6, hc7, hr⟩ := of_bind hr
        refine HT.reg1 [26] [⟨none, .no⟩, ⟨none, .no⟩, ⟨none, .no⟩, ⟨none, .no⟩, ⟨none, .call [.imm (.sl .bool), .imm (.sl .bool)] [⟨false, .bool, y6⟩] []⟩, ⟨none, .no⟩] ⟨[(26, .one (.dat .bool (!y6)))], [(1, .box [.dat (.int .i64) a1.1, .dat (.int .i64) a1.2.1, .dat (.sl (.int .i64)) a1.2.2.1, .dat (.sl .bool) a1.2.2.2]), (0, .box [.dat (.int .i64) a0.1, .dat (.int .i64) a0.2.1, .dat (.sl (.int .i64)) a0.2.2.1, .dat (.sl .bool) a0.2.2.2])], 2⟩ hP hN (by kernel_rfl) (allCons (f82_ok hc7) allNil) ?_
        rcases of_bif hr with ⟨hb8, hr⟩ | ⟨hb8, hr⟩
        · refine HT.cond1 rfl hb8 ?_
          refine HT.reg1 [4] [⟨none, .no⟩] ⟨[(4, .one (.dat .bool false))], [(1, .box [.dat (.int .i64) a1.1, .dat (.int .i64) a1.2.1, .dat (.sl (.int .i64)) a1.2.2.1, .dat (.sl .bool) a1.2.2.2]), (0, .box [.dat (.int .i64) a0.1, .dat (.int .i64) a0.2.1, .dat (.sl (.int .i64)) a0.2.2.1, .dat (.sl .bool) a0.2.2.2])], 2⟩ hP hN (by kernel_rfl) allNil ?_
          have hr := of_some hr
          subst hr
          exact HT.ret (qThenR ⟨[.one (.dat .bool false)], [], [], by kernel_rfl, by kernel_rfl, rfl, by kernel_rfl, by kernel_rfl, trivial⟩)
        · refine HT.cond0 rfl hb8 ?_
          refine HT.skip (qThen ?_)
          refine HT.reg1 [4] [⟨none, .no⟩] ⟨[(4, .one (.dat .bool true))], [(1, .box [.dat (.int .i64) a1.1, .dat (.int .i64) a1.2.1, .dat (.sl (.int .i64)) a1.2.2.1, .dat (.sl .bool) a1.2.2.2]), (0, .box [.dat (.int .i64) a0.1, .dat (.int .i64) a0.2.1, .dat (.sl (.int .i64)) a0.2.2.1, .dat (.sl .bool) a0.2.2.2])], 2⟩ hP hN (by kernel_rfl) allNil ?_
          have hr := of_some hr
          subst hr
          exact HT.ret ⟨[.one (.dat .bool true)], [], [], by kernel_rfl, by kernel_rfl, rfl, by kernel_rfl, by kernel_rfl, trivial⟩

noncomputable def laws_markInt64S_B1  (s1 : Int × Int × List Int) : Option ((Int × Int × List Int) ⊕ ((Int × List Int))) :=
  bif (decide (s1.2.1 < (lenI s1.2.2))) then
    guardP ((0 : Int) ≤ s1.2.1 ∧ s1.2.1 < lenI s1.2.2) (
      some (.inl ((wadd .i64 s1.1 (1 : Int)), (wadd .i64 s1.2.1 (1 : Int)), (List.set s1.2.2 (Int.toNat s1.2.1) s1.1))))
  else
    some (.inr (s1.1, s1.2.2))

noncomputable def laws_markInt64S (a0 : List Int) (a1 : Int) : Option (Int × List Int) :=
  (rounds (laws_markInt64S_B1) (a1, (0 : Int), a0)).bind fun r3 =>
  guardP (List.length r3.2 = List.length a0) (
    some (r3.1, r3.2))

theorem f36_ok {a0 : List Int} {a1 : Int} {r : Int × List Int} (hr : laws_markInt64S a0 a1 = some r) : CallOK Try.prog 36 [.own (.sl (.int .i64)) a0, .imm (.int .i64) a1] [⟨false, (.int .i64), r.1⟩] [⟨(.sl (.int .i64)), r.2⟩] := by
  unfold laws_markInt64S at hr
  refine CallOK.of_body (ts := [(false, (.int .i64))]) Try.func36 rfl (by kernel_rfl) (Nat.le_of_ble_eq_true (by kernel_rfl)) fun cx hP hN hO hF => ?_
  have hO : cx.own.map Prod.fst = [0] := hO
  have hF := hF rfl
  show HT cx ⟨[(0, .one (.all 0)), (1, .one (.dat (.int .i64) a1))], [(0, .seq (.int .i64) a0)], 1⟩ _ _
  refine HT.reg1 [0, 1] [⟨none, .no⟩] ⟨[(0, .one (.all 0)), (1, .one (.dat (.int .i64) a1))], [(0, .seq (.int .i64) a0)], 1⟩ hP hN (by kernel_rfl) allNil ?_
  refine HT.seq ?_
  refine HT.reg1 [0, 1, 5] [⟨none, .no⟩] ⟨[(0, .one (.all 0)), (1, .one (.dat (.int .i64) a1)), (5, .one (.dat (.int .i64) (0 : Int)))], [(0, .seq (.int .i64) a0)], 1⟩ hP hN (by kernel_rfl) allNil ?_
  refine HT.block ?_
  obtain ⟨r2, hL10, hr⟩ := of_bind hr
  refine (Le.cv (s := ⟨[(0, 0)], [], [], false⟩) (own := [0]) (ps := [a1 = a1, (0 : Int) = (0 : Int), a0 = a0]) (st' := ⟨[(0, .one (.all 0)), (1, .one (.dat (.int .i64) a1)), (5, .one (.dat (.int .i64) (0 : Int)))], [(0, .seq (.int .i64) a0)], 1⟩) hO (fun h => by cases h) (by kernel_rfl) ⟨rfl, rfl, rfl, trivial⟩).ht ?_
  refine HT.loopE (s := (a1, (0 : Int), a0)) (fun (s1 : Int × Int × List Int) => ⟨[(0, .one (.all 0)), (1, .one (.dat (.int .i64) s1.1)), (5, .one (.dat (.int .i64) s1.2.1))], [(0, .seq (.int .i64) s1.2.2)], 1⟩) (fun (r3 : (Int × List Int)) => (.exit 0, ⟨[(1, .one (.dat (.int .i64) r3.1))], [(0, .seq (.int .i64) r3.2)], 1⟩)) hL10 ?_ (fun s1 x5 hx6 hk7 => ?_)
  · refine (qBlockX (qThen ?_))
    refine HT.reg1 [4] [⟨none, .no⟩, ⟨none, .no⟩] ⟨[(4, .one (.dat (.int .i64) r2.1))], [(0, .seq (.int .i64) r2.2)], 1⟩ hP hN (by kernel_rfl) allNil ?_
    obtain ⟨hg4, hr⟩ := of_guard hr
    have hr := of_some hr
    subst hr
    exact HT.ret ⟨[.one (.dat (.int .i64) r2.1)], [], [List.length r2.2 = List.length a0], by kernel_rfl, by kernel_rfl, rfl, by kernel_rfl, by kernel_rfl, ⟨hg4, trivial⟩⟩
  · refine HT.seq ?_
    refine HT.reg1 [0, 1, 5, 9] [⟨none, .no⟩, ⟨none, .no⟩, ⟨none, .no⟩, ⟨none, .no⟩] ⟨[(0, .one (.all 0)), (1, .one (.dat (.int .i64) s1.1)), (5, .one (.dat (.int .i64) s1.2.1)), (9, .one (.dat .bool (decide (s1.2.1 < (lenI s1.2.2)))))], [(0, .seq (.int .i64) s1.2.2)], 1⟩ hP hN (by kernel_rfl) allNil ?_
    rcases of_bif hx6 with ⟨hb8, hx6⟩ | ⟨hb8, hx6⟩
    · refine HT.cond1 rfl hb8 ?_
      refine HT.skip (qThen ?_)
      refine HT.seq ?_
      refine HT.block ?_
      obtain ⟨hg9, hx6⟩ := of_guard hx6
      refine HT.reg1 [0, 1, 5] [⟨none, .no⟩, ⟨none, .no⟩, ⟨none, .no⟩, ⟨none, .no⟩, ⟨none, .no⟩] ⟨[(0, .one (.all 0)), (1, .one (.dat (.int .i64) s1.1)), (5, .one (.dat (.int .i64) s1.2.1))], [(0, .seq (.int .i64) (List.set s1.2.2 (Int.toNat s1.2.1) s1.1)), (0, .seq (.int .i64) s1.2.2)], 1⟩ hP hN (by kernel_rfl) (allCons hg9 (allCons (natLt hg9) allNil)) ?_
      refine HT.reg (rs := [⟨none, .no⟩, ⟨none, .no⟩, ⟨none, .no⟩]) (st' := ⟨[(1, .one (.dat (.int .i64) (wadd .i64 s1.1 (1 : Int)))), (17, .one (.dat (.int .i64) (wadd .i64 s1.1 (1 : Int)))), (16, .one (.dat (.int .i64) s1.1)), (0, .one (.all 0)), (1, .one (.dat (.int .i64) s1.1)), (5, .one (.dat (.int .i64) s1.2.1))], [(0, .seq (.int .i64) (List.set s1.2.2 (Int.toNat s1.2.1) s1.1)), (0, .seq (.int .i64) s1.2.2)], 1⟩) hP hN (by kernel_rfl) allNil (qBlock (qThen ?_))
      have hx6 := of_some hx6
      subst hx6
      refine HT.reg (rs := [⟨none, .no⟩, ⟨none, .no⟩, ⟨none, .no⟩]) (st' := ⟨[(5, .one (.dat (.int .i64) (wadd .i64 s1.2.1 (1 : Int)))), (11, .one (.dat (.int .i64) (wadd .i64 s1.2.1 (1 : Int)))), (10, .one (.dat (.int .i64) s1.2.1)), (1, .one (.dat (.int .i64) (wadd .i64 s1.1 (1 : Int)))), (17, .one (.dat (.int .i64) (wadd .i64 s1.1 (1 : Int)))), (16, .one (.dat (.int .i64) s1.1)), (0, .one (.all 0)), (1, .one (.dat (.int .i64) s1.1)), (5, .one (.dat (.int .i64) s1.2.1))], [(0, .seq (.int .i64) (List.set s1.2.2 (Int.toNat s1.2.1) s1.1)), (0, .seq (.int .i64) s1.2.2)], 1⟩) hP hN (by kernel_rfl) allNil (qLoopN ⟨((wadd .i64 s1.1 (1 : Int)), (wadd .i64 s1.2.1 (1 : Int)), (List.set s1.2.2 (Int.toNat s1.2.1) s1.1)), rfl, Le.cv (s := ⟨[(0, 0)], [], [], false⟩) (own := [0]) (ps := [(wadd .i64 s1.1 (1 : Int)) = (wadd .i64 s1.1 (1 : Int)), (wadd .i64 s1.2.1 (1 : Int)) = (wadd .i64 s1.2.1 (1 : Int)), (List.set s1.2.2 (Int.toNat s1.2.1) s1.1) = (List.set s1.2.2 (Int.toNat s1.2.1) s1.1)]) (st' := ⟨[(0, .one (.all 0)), (1, .one (.dat (.int .i64) (wadd .i64 s1.1 (1 : Int)))), (5, .one (.dat (.int .i64) (wadd .i64 s1.2.1 (1 : Int))))], [(0, .seq (.int .i64) (List.set s1.2.2 (Int.toNat s1.2.1) s1.1))], 1⟩) hO (fun h => by cases h) (by kernel_rfl) ⟨rfl, rfl, rfl, trivial⟩⟩)
    · refine HT.cond0 rfl hb8 ?_
      have hx6 := of_some hx6
      subst hx6
      refine (Le.cv (s := ⟨[(0, 0)], [], [], false⟩) (own := [0]) (ps := [s1.1 = s1.1, s1.2.2 = s1.2.2]) (st' := ⟨[(1, .one (.dat (.int .i64) s1.1))], [(0, .seq (.int .i64) s1.2.2)], 1⟩) hO (fun h => by cases h) (by kernel_rfl) ⟨rfl, rfl, trivial⟩).ht ?_
      exact HT.exit (qThenE (qLoopE (hk7 (s1.1, s1.2.2) rfl)))

noncomputable def laws_markBoolS_B1  (s1 : Int × Int × List Bool) : Option ((Int × Int × List Bool) ⊕ ((Int × List Bool))) :=
  bif (decide (s1.2.1 < (lenI s1.2.2))) then
    guardP ((0 : Int) ≤ s1.2.1 ∧ s1.2.1 < lenI s1.2.2) (
      some (.inl ((wadd .i64 s1.1 (1 : Int)), (wadd .i64 s1.2.1 (1 : Int)), (List.set s1.2.2 (Int.toNat s1.2.1) ((Int.tmod s1.1 (3 : Int)) == (0 : Int))))))
  else
    some (.inr (s1.1, s1.2.2))

noncomputable def laws_markBoolS (a0 : List Bool) (a1 : Int) : Option (Int × List Bool) :=
  (rounds (laws_markBoolS_B1) (a1, (0 : Int), a0)).bind fun r3 =>
  guardP (List.length r3.2 = List.length a0) (
    some (r3.1, r3.2))

theorem f83_ok {a0 : List Bool} {a1 : Int} {r : Int × List Bool} (hr : laws_markBoolS a0 a1 = some r) : CallOK Try.prog 83 [.own (.sl .bool) a0, .imm (.int .i64) a1] [⟨false, (.int .i64), r.1⟩] [⟨(.sl .bool), r.2⟩] := by
  unfold laws_markBoolS at hr
  refine CallOK.of_body (ts := [(false, (.int .i64))]) Try.func83 rfl (by kernel_rfl) (Nat.le_of_ble_eq_true (by kernel_rfl)) fun cx hP hN hO hF => ?_
  have hO : cx.own.map Prod.fst = [0] := hO
  have hF := hF rfl
  show HT cx ⟨[(0, .one (.all 0)), (1, .one (.dat (.int .i64) a1))], [(0, .seq .bool a0)], 1⟩ _ _
  refine HT.reg1 [0, 1] [⟨none, .no⟩] ⟨[(0, .one (.all 0)), (1, .one (.dat (.int .i64) a1))], [(0, .seq .bool a0)], 1⟩ hP hN (by kernel_rfl) allNil ?_
  refine HT.seq ?_
  refine HT.reg1 [0, 1, 5] [⟨none, .no⟩] ⟨[(0, .one (.all 0)), (1, .one (.dat (.int .i64) a1)), (5, .one (.dat (.int .i64) (0 : Int)))], [(0, .seq .bool a0)], 1⟩ hP hN (by kernel_rfl) allNil ?_
  refine HT.block ?_
  obtain ⟨r2, hL10, hr⟩ := of_bind hr
  refine (Le.cv (s := ⟨[(0, 0)], [], [], false⟩) (own := [0]) (ps := [a1 = a1, (0 : Int) = (0 : Int), a0 = a0]) (st' := ⟨[(0, .one (.all 0)), (1, .one (.dat (.int .i64) a1)), (5, .one (.dat (.int .i64) (0 : Int)))], [(0, .seq .bool a0)], 1⟩) hO (fun h => by cases h) (by kernel_rfl) ⟨rfl, rfl, rfl, trivial⟩).ht ?_
  refine HT.loopE (s := (a1, (0 : Int), a0)) (fun (s1 : Int × Int × List Bool) => ⟨[(0, .one (.all 0)), (1, .one (.dat (.int .i64) s1.1)), (5, .one (.dat (.int .i64) s1.2.1))], [(0, .seq .bool s1.2.2)], 1⟩) (fun (r3 : (Int × List Bool)) => (.exit 0, ⟨[(1, .one (.dat (.int .i64) r3.1))], [(0, .seq .bool r3.2)], 1⟩)) hL10 ?_ (fun s1 x5 hx6 hk7 => ?_)
  · refine (qBlockX (qThen ?_))
    refine HT.reg1 [4] [⟨none, .no⟩, ⟨none, .no⟩] ⟨[(4, .one (.dat (.int .i64) r2.1))], [(0, .seq .bool r2.2)], 1⟩ hP hN (by kernel_rfl) allNil ?_
    obtain ⟨hg4, hr⟩ := of_guard hr
    have hr := of_some hr
    subst hr
    exact HT.ret ⟨[.one (.dat (.int .i64) r2.1)], [], [List.length r2.2 = List.length a0], by kernel_rfl, by kernel_rfl, rfl, by kernel_rfl, by kernel_rfl, ⟨hg4, trivial⟩⟩
  · refine HT.seq ?_
    refine HT.reg1 [0, 1, 5, 9] [⟨none, .no⟩, ⟨none, .no⟩, ⟨none, .no⟩, ⟨none, .no⟩] ⟨[(0, .one (.all 0)), (1, .one (.dat (.int .i64) s1.1)), (5, .one (.dat (.int .i64) s1.2.1)), (9, .one (.dat .bool (decide (s1.2.1 < (lenI s1.2.2)))))], [(0, .seq .bool s1.2.2)], 1⟩ hP hN (by kernel_rfl) allNil ?_
    rcases of_bif hx6 with ⟨hb8, hx6⟩ | ⟨hb8, hx6⟩
    · refine HT.cond1 rfl hb8 ?_
      refine HT.skip (qThen ?_)
      refine HT.seq ?_
      refine HT.block ?_
      obtain ⟨hg9, hx6⟩ := of_guard hx6
      refine HT.reg1 [0, 1, 5] [⟨none, .no⟩, ⟨none, .no⟩, ⟨none, .no⟩, ⟨none, .no⟩, ⟨none, .no⟩, ⟨none, .no⟩, ⟨none, .no⟩] ⟨[(0, .one (.all 0)), (1, .one (.dat (.int .i64) s1.1)), (5, .one (.dat (.int .i64) s1.2.1))], [(0, .seq .bool (List.set s1.2.2 (Int.toNat s1.2.1) ((Int.tmod s1.1 (3 : Int)) == (0 : Int)))), (0, .seq .bool s1.2.2)], 1⟩ hP hN (by kernel_rfl) (allCons (show (3 : Int) ≠ 0 from by decide) (allCons hg9 (allCons (natLt hg9) allNil))) ?_
      refine HT.reg (rs := [⟨none, .no⟩, ⟨none, .no⟩, ⟨none, .no⟩]) (st' := ⟨[(1, .one (.dat (.int .i64) (wadd .i64 s1.1 (1 : Int)))), (19, .one (.dat (.int .i64) (wadd .i64 s1.1 (1 : Int)))), (18, .one (.dat (.int .i64) s1.1)), (0, .one (.all 0)), (1, .one (.dat (.int .i64) s1.1)), (5, .one (.dat (.int .i64) s1.2.1))], [(0, .seq .bool (List.set s1.2.2 (Int.toNat s1.2.1) ((Int.tmod s1.1 (3 : Int)) == (0 : Int)))), (0, .seq .bool s1.2.2)], 1⟩) hP hN (by kernel_rfl) allNil (qBlock (qThen ?_))
      have hx6 := of_some hx6
      subst hx6
      refine HT.reg (rs := [⟨none, .no⟩, ⟨none, .no⟩, ⟨none, .no⟩]) (st' := ⟨[(5, .one (.dat (.int .i64) (wadd .i64 s1.2.1 (1 : Int)))), (11, .one (.dat (.int .i64) (wadd .i64 s1.2.1 (1 : Int)))), (10, .one (.dat (.int .i64) s1.2.1)), (1, .one (.dat (.int .i64) (wadd .i64 s1.1 (1 : Int)))), (19, .one (.dat (.int .i64) (wadd .i64 s1.1 (1 : Int)))), (18, .one (.dat (.int .i64) s1.1)), (0, .one (.all 0)), (1, .one (.dat (.int .i64) s1.1)), (5, .one (.dat (.int .i64) s1.2.1))], [(0, .seq .bool (List.set s1.2.2 (Int.toNat s1.2.1) ((Int.tmod s1.1 (3 : Int)) == (0 : Int)))), (0, .seq .bool s1.2.2)], 1⟩) hP hN (by kernel_rfl) allNil (qLoopN ⟨((wadd .i64 s1.1 (1 : Int)), (wadd .i64 s1.2.1 (1 : Int)), (List.set s1.2.2 (Int.toNat s1.2.1) ((Int.tmod s1.1 (3 : Int)) == (0 : Int)))), rfl, Le.cv (s := ⟨[(0, 0)], [], [], false⟩) (own := [0]) (ps := [(wadd .i64 s1.1 (1 : Int)) = (wadd .i64 s1.1 (1 : Int)), (wadd .i64 s1.2.1 (1 : Int)) = (wadd .i64 s1.2.1 (1 : Int)), (List.set s1.2.2 (Int.toNat s1.2.1) ((Int.tmod s1.1 (3 : Int)) == (0 : Int))) = (List.set s1.2.2 (Int.toNat s1.2.1) ((Int.tmod s1.1 (3 : Int)) == (0 : Int)))]) (st' := ⟨[(0, .one (.all 0)), (1, .one (.dat (.int .i64) (wadd .i64 s1.1 (1 : Int)))), (5, .one (.dat (.int .i64) (wadd .i64 s1.2.1 (1 : Int))))], [(0, .seq .bool (List.set s1.2.2 (Int.toNat s1.2.1) ((Int.tmod s1.1 (3 : Int)) == (0 : Int))))], 1⟩) hO (fun h => by cases h) (by kernel_rfl) ⟨rfl, rfl, rfl, trivial⟩⟩)
    · refine HT.cond0 rfl hb8 ?_
      have hx6 := of_some hx6
      subst hx6
      refine (Le.cv (s := ⟨[(0, 0)], [], [], false⟩) (own := [0]) (ps := [s1.1 = s1.1, s1.2.2 = s1.2.2]) (st' := ⟨[(1, .one (.dat (.int .i64) s1.1))], [(0, .seq .bool s1.2.2)], 1⟩) hO (fun h => by cases h) (by kernel_rfl) ⟨rfl, rfl, trivial⟩).ht ?_
      exact HT.exit (qThenE (qLoopE (hk7 (s1.1, s1.2.2) rfl)))

noncomputable def laws_markPlain (a0 : Int × Int × List Int × List Bool) (a1 : Int) : Option (Int × (Int × Int × List Int × List Bool)) :=
  (laws_markInt64S a0.2.2.1 a1).bind fun y1 =>
  (laws_markBoolS a0.2.2.2 y1.1).bind fun y3 =>
  guardP (List.length y1.2 = List.length a0.2.2.1) (
    guardP (List.length y3.2 = List.length a0.2.2.2) (
      some (y3.1, a0.1, a0.2.1, y1.2, y3.2)))

theorem f27_ok {a0 : Int × Int × List Int × List Bool} {a1 : Int} {r : Int × (Int × Int × List Int × List Bool)} (hr : laws_markPlain a0 a1 = some r) : CallOK Try.prog 27 [.own (.st (.pair (.int .i64) (.pair (.int .i64) (.pair (.sl (.int .i64)) (.sl .bool))))) a0, .imm (.int .i64) a1] [⟨false, (.int .i64), r.1⟩] [⟨(.st (.pair (.int .i64) (.pair (.int .i64) (.pair (.sl (.int .i64)) (.sl .bool))))), r.2⟩] := by
  unfold laws_markPlain at hr
  refine CallOK.of_body (ts := [(false, (.int .i64))]) Try.func27 rfl (by kernel_rfl) (Nat.le_of_ble_eq_true (by kernel_rfl)) fun cx hP hN hO hF => ?_
  have hO : cx.own.map Prod.fst = [0, 1] := hO
  have hF := hF rfl
  show HT cx ⟨[(0, .agg [.dat (.int .i64) a0.1, .dat (.int .i64) a0.2.1, .all 0, .all 1]), (1, .one (.dat (.int .i64) a1))], [(0, .seq (.int .i64) a0.2.2.1), (1, .seq .bool a0.2.2.2)], 2⟩ _ _
  refine HT.reg1 [1, 2] [⟨none, .no⟩, ⟨none, .no⟩] ⟨[(1, .one (.dat (.int .i64) a1)), (2, .one (.ptr 2 0))], [(2, .box [.dat (.int .i64) a0.1, .dat (.int .i64) a0.2.1, .all 0, .all 1]), (0, .seq (.int .i64) a0.2.2.1), (1, .seq .bool a0.2.2.2)], 3⟩ hP hN (by kernel_rfl) allNil ?_
  obtain ⟨y1, hc2, hr⟩ := of_bind hr
  refine HT.reg1 [1, 2] [⟨none, .no⟩, ⟨none, .no⟩, ⟨none, .no⟩, ⟨none, .call [.own (.sl (.int .i64)), .imm (.int .i64)] [⟨false, (.int .i64), y1.1⟩] [⟨(.sl (.int .i64)), y1.2⟩]⟩, ⟨none, .no⟩] ⟨[(1, .one (.dat (.int .i64) y1.1)), (2, .one (.ptr 2 0))], [(0, .seq (.int .i64) y1.2), (2, .box [.dat (.int .i64) a0.1, .dat (.int .i64) a0.2.1, .all 0, .all 1]), (0, .seq (.int .i64) a0.2.2.1), (1, .seq .bool a0.2.2.2)], 3⟩ hP hN (by kernel_rfl) (allCons (f36_ok hc2) allNil) ?_
  obtain ⟨y3, hc4, hr⟩ := of_bind hr
  refine HT.reg1 [1] [⟨none, .no⟩, ⟨none, .no⟩, ⟨none, .no⟩, ⟨none, .call [.own (.sl .bool), .imm (.int .i64)] [⟨false, (.int .i64), y3.1⟩] [⟨(.sl .bool), y3.2⟩]⟩, ⟨none, .no⟩] ⟨[(1, .one (.dat (.int .i64) y3.1))], [(1, .seq .bool y3.2), (0, .seq (.int .i64) y1.2), (2, .box [.dat (.int .i64) a0.1, .dat (.int .i64) a0.2.1, .all 0, .all 1]), (0, .seq (.int .i64) a0.2.2.1), (1, .seq .bool a0.2.2.2)], 3⟩ hP hN (by kernel_rfl) (allCons (f83_ok hc4) allNil) ?_
  refine HT.reg1 [4] [⟨none, .no⟩, ⟨none, .no⟩] ⟨[(4, .one (.dat (.int .i64) y3.1))], [(1, .seq .bool y3.2), (0, .seq (.int .i64) y1.2), (2, .box [.dat (.int .i64) a0.1, .dat (.int .i64) a0.2.1, .all 0, .all 1]), (0, .seq (.int .i64) a0.2.2.1), (1, .seq .bool a0.2.2.2)], 3⟩ hP hN (by kernel_rfl) allNil ?_
  obtain ⟨hg5, hr⟩ := of_guard hr
  obtain ⟨hg6, hr⟩ := of_guard hr
  have hr := of_some hr
  subst hr
  exact HT.ret ⟨[.one (.dat (.int .i64) y3.1)], [], [List.length y1.2 = List.length a0.2.2.1, List.length y3.2 = List.length a0.2.2.2], by kernel_rfl, by kernel_rfl, rfl, by kernel_rfl, by kernel_rfl, ⟨hg5, hg6, trivial⟩⟩

noncomputable def laws_markLoop (a0 : List Int × List Int) (a1 : Int) : Option (Int × (List Int × List Int)) :=
  (laws_markInt64S a0.1 a1).bind fun y1 =>
  (laws_markInt64S a0.2 y1.1).bind fun y3 =>
  guardP (List.length y1.2 = List.length a0.1) (
    guardP (List.length y3.2 = List.length a0.2) (
      some (y3.1, y1.2, y3.2)))

theorem f28_ok {a0 : List Int × List Int} {a1 : Int} {r : Int × (List Int × List Int)} (hr : laws_markLoop a0 a1 = some r) : CallOK Try.prog 28 [.own (.st (.pair (.sl (.int .i64)) (.sl (.int .i64)))) a0, .imm (.int .i64) a1] [⟨false, (.int .i64), r.1⟩] [⟨(.st (.pair (.sl (.int .i64)) (.sl (.int .i64)))), r.2⟩] := by
  unfold laws_markLoop at hr
  refine CallOK.of_body (ts := [(false, (.int .i64))]) Try.func28 rfl (by kernel_rfl) (Nat.le_of_ble_eq_true (by kernel_rfl)) fun cx hP hN hO hF => ?_
  have hO : cx.own.map Prod.fst = [0, 1] := hO
  have hF := hF rfl
  show HT cx ⟨[(0, .agg [.all 0, .all 1]), (1, .one (.dat (.int .i64) a1))], [(0, .seq (.int .i64) a0.1), (1, .seq (.int .i64) a0.2)], 2⟩ _ _
  refine HT.reg1 [1, 2] [⟨none, .no⟩, ⟨none, .no⟩] ⟨[(1, .one (.dat (.int .i64) a1)), (2, .one (.ptr 2 0))], [(2, .box [.all 0, .all 1]), (0, .seq (.int .i64) a0.1), (1, .seq (.int .i64) a0.2)], 3⟩ hP hN (by kernel_rfl) allNil ?_
  obtain ⟨y1, hc2, hr⟩ := of_bind hr
  refine HT.reg1 [1, 2] [⟨none, .no⟩, ⟨none, .no⟩, ⟨none, .no⟩, ⟨none, .call [.own (.sl (.int .i64)), .imm (.int .i64)] [⟨false, (.int .i64), y1.1⟩] [⟨(.sl (.int .i64)), y1.2⟩]⟩, ⟨none, .no⟩] ⟨[(1, .one (.dat (.int .i64) y1.1)), (2, .one (.ptr 2 0))], [(0, .seq (.int .i64) y1.2), (2, .box [.all 0, .all 1]), (0, .seq (.int .i64) a0.1), (1, .seq (.int .i64) a0.2)], 3⟩ hP hN (by kernel_rfl) (allCons (f36_ok hc2) allNil) ?_
  obtain ⟨y3, hc4, hr⟩ := of_bind hr
  refine HT.reg1 [1] [⟨none, .no⟩, ⟨none, .no⟩, ⟨none, .no⟩, ⟨none, .call [.own (.sl (.int .i64)), .imm (.int .i64)] [⟨false, (.int .i64), y3.1⟩] [⟨(.sl (.int .i64)), y3.2⟩]⟩, ⟨none, .no⟩] ⟨[(1, .one (.dat (.int .i64) y3.1))], [(1, .seq (.int .i64) y3.2), (0, .seq (.int .i64) y1.2), (2, .box [.all 0, .all 1]), (0, .seq (.int .i64) a0.1), (1, .seq (.int .i64) a0.2)], 3⟩ hP hN (by kernel_rfl) (allCons (f36_ok hc4) allNil) ?_
  refine HT.reg1 [4] [⟨none, .no⟩, ⟨none, .no⟩] ⟨[(4, .one (.dat (.int .i64) y3.1))], [(1, .seq (.int .i64) y3.2), (0, .seq (.int .i64) y1.2), (2, .box [.all 0, .all 1]), (0, .seq (.int .i64) a0.1), (1, .seq (.int .i64) a0.2)], 3⟩ hP hN (by kernel_rfl) allNil ?_
  obtain ⟨hg5, hr⟩ := of_guard hr
  obtain ⟨hg6, hr⟩ := of_guard hr
  have hr := of_some hr
  subst hr
  exact HT.ret ⟨[.one (.dat (.int .i64) y3.1)], [], [List.length y1.2 = List.length a0.1, List.length y3.2 = List.length a0.2], by kernel_rfl, by kernel_rfl, rfl, by kernel_rfl, by kernel_rfl, ⟨hg5, hg6, trivial⟩⟩

noncomputable def laws_heldInt64S_B1 (a0 : List Int) (s1 : Int × Int) : Option ((Int × Int) ⊕ (Int ⊕ Unit)) :=
  bif (decide (s1.2 < (lenI a0))) then
    guardP ((0 : Int) ≤ s1.2 ∧ s1.2 < lenI a0) (
      bif ((List.getD a0 (Int.toNat s1.2) (0 : Int)) != s1.1) then
        some (.inr (.inr ()))
      else
        some (.inl ((wadd .i64 s1.1 (1 : Int)), (wadd .i64 s1.2 (1 : Int)))))
  else
    some (.inr (.inl s1.1))

noncomputable def laws_heldInt64S (a0 : List Int) (a1 : Int) : Option (Int) :=
  (rounds (laws_heldInt64S_B1 a0) (a1, (0 : Int))).bind fun r2 => match r2 with
    | .inl r3 =>
      some r3
    | .inr r4 =>
      some (-1 : Int)

theorem f84_ok {a0 : List Int} {a1 : Int} {r : Int} (hr : laws_heldInt64S a0 a1 = some r) : CallOK Try.prog 84 [.imm (.sl (.int .i64)) a0, .imm (.int .i64) a1] [⟨false, (.int .i64), r⟩] [] := by
  unfold laws_heldInt64S at hr
  refine CallOK.of_body (ts := [(false, (.int .i64))]) Try.func84 rfl (by kernel_rfl) (Nat.le_of_ble_eq_true (by kernel_rfl)) fun cx hP hN hO hF => ?_
  have hO : cx.own.map Prod.fst = [] := hO
  have hF := hF rfl
  show HT cx ⟨[(0, .one (.dat (.sl (.int .i64)) a0)), (1, .one (.dat (.int .i64) a1))], [], 0⟩ _ _
  refine HT.reg1 [0, 1] [⟨none, .no⟩] ⟨[(0, .one (.dat (.sl (.int .i64)) a0)), (1, .one (.dat (.int .i64) a1))], [], 0⟩ hP hN (by kernel_rfl) allNil ?_
  refine HT.seq ?_
  refine HT.reg1 [0, 1, 5] [⟨none, .no⟩] ⟨[(0, .one (.dat (.sl (.int .i64)) a0)), (1, .one (.dat (.int .i64) a1)), (5, .one (.dat (.int .i64) (0 : Int)))], [], 0⟩ hP hN (by kernel_rfl) allNil ?_
  refine HT.block ?_
  obtain ⟨r2, hL11, hr⟩ := of_bind hr
  refine (Le.cv (s := ⟨[], [], [], false⟩) (own := []) (ps := [a0 = a0, a1 = a1, (0 : Int) = (0 : Int)]) (st' := ⟨[(0, .one (.dat (.sl (.int .i64)) a0)), (1, .one (.dat (.int .i64) a1)), (5, .one (.dat (.int .i64) (0 : Int)))], [], 0⟩) hO (fun h => by cases h) (by kernel_rfl) ⟨rfl, rfl, rfl, trivial⟩).ht ?_
  refine HT.loopE (s := (a1, (0 : Int))) (fun (s1 : Int × Int) => ⟨[(0, .one (.dat (.sl (.int .i64)) a0)), (1, .one (.dat (.int .i64) s1.1)), (5, .one (.dat (.int .i64) s1.2))], [], 0⟩) (fun (r2 : Int ⊕ Unit) => match r2 with | .inl r3 => (.exit 0, ⟨[(1, .one (.dat (.int .i64) r3))], [], 0⟩) | .inr r4 => (.ret, ⟨[(4, .one (.dat (.int .i64) (-1 : Int)))], [], 0⟩)) hL11 ?_ (fun s1 x5 hx6 hk7 => ?_)
  · rcases r2 with r3 | r4
    · refine (qBlockX (qThen ?_))
      refine HT.reg1 [4] [⟨none, .no⟩, ⟨none, .no⟩] ⟨[(4, .one (.dat (.int .i64) r3))], [], 0⟩ hP hN (by kernel_rfl) allNil ?_
      have hr := of_some hr
      subst hr
      exact HT.ret ⟨[.one (.dat (.int .i64) r3)], [], [], by kernel_rfl, by kernel_rfl, rfl, by kernel_rfl, by kernel_rfl, trivial⟩
    · have hr := of_some hr
      subst hr
      exact (qBlockR (qThenR ⟨[.one (.dat (.int .i64) (-1 : Int))], [], [], by kernel_rfl, by kernel_rfl, rfl, by kernel_rfl, by kernel_rfl, trivial⟩))
  · refine HT.seq ?_
    refine HT.reg1 [0, 1, 5, 9] [⟨none, .no⟩, ⟨none, .no⟩, ⟨none, .no⟩, ⟨none, .no⟩] ⟨[(0, .one (.dat (.sl (.int .i64)) a0)), (1, .one (.dat (.int .i64) s1.1)), (5, .one (.dat (.int .i64) s1.2)), (9, .one (.dat .bool (decide (s1.2 < (lenI a0)))))], [], 0⟩ hP hN (by kernel_rfl) allNil ?_
    rcases of_bif hx6 with ⟨hb8, hx6⟩ | ⟨hb8, hx6⟩
    · refine HT.cond1 rfl hb8 ?_
      refine HT.skip (qThen ?_)
      refine HT.seq ?_
      refine HT.block ?_
      refine HT.seq ?_
      obtain ⟨hg9, hx6⟩ := of_guard hx6
      refine HT.reg1 [0, 1, 5, 17] [⟨none, .no⟩, ⟨none, .no⟩, ⟨none, .no⟩, ⟨none, .no⟩, ⟨none, .no⟩, ⟨none, .no⟩] ⟨[(0, .one (.dat (.sl (.int .i64)) a0)), (1, .one (.dat (.int .i64) s1.1)), (5, .one (.dat (.int .i64) s1.2)), (17, .one (.dat .bool ((List.getD a0 (Int.toNat s1.2) (0 : Int)) != s1.1)))], [], 0⟩ hP hN (by kernel_rfl) (allCons hg9 allNil) ?_
      rcases of_bif hx6 with ⟨hb10, hx6⟩ | ⟨hb10, hx6⟩
      · refine HT.cond1 rfl hb10 ?_
        refine HT.reg1 [4] [⟨none, .no⟩] ⟨[(4, .one (.dat (.int .i64) (-1 : Int)))], [], 0⟩ hP hN (by kernel_rfl) allNil ?_
        have hx6 := of_some hx6
        subst hx6
        refine (Le.cv (s := ⟨[], [], [], false⟩) (own := []) (ps := [(-1 : Int) = (-1 : Int)]) (st' := ⟨[(4, .one (.dat (.int .i64) (-1 : Int)))], [], 0⟩) hO (fun h => by cases h) (by kernel_rfl) ⟨rfl, trivial⟩).ht ?_
        exact HT.ret (qThenR (qBlockR (qThenR (qLoopR (hk7 (.inr ()) rfl)))))
      · refine HT.cond0 rfl hb10 ?_
        refine HT.skip (qThen ?_)
        refine HT.reg (rs := [⟨none, .no⟩, ⟨none, .no⟩, ⟨none, .no⟩]) (st' := ⟨[(1, .one (.dat (.int .i64) (wadd .i64 s1.1 (1 : Int)))), (19, .one (.dat (.int .i64) (wadd .i64 s1.1 (1 : Int)))), (18, .one (.dat (.int .i64) s1.1)), (0, .one (.dat (.sl (.int .i64)) a0)), (1, .one (.dat (.int .i64) s1.1)), (5, .one (.dat (.int .i64) s1.2)), (17, .one (.dat .bool ((List.getD a0 (Int.toNat s1.2) (0 : Int)) != s1.1)))], [], 0⟩) hP hN (by kernel_rfl) allNil (qBlock (qThen ?_))
        have hx6 := of_some hx6
        subst hx6
        refine HT.reg (rs := [⟨none, .no⟩, ⟨none, .no⟩, ⟨none, .no⟩]) (st' := ⟨[(5, .one (.dat (.int .i64) (wadd .i64 s1.2 (1 : Int)))), (11, .one (.dat (.int .i64) (wadd .i64 s1.2 (1 : Int)))), (10, .one (.dat (.int .i64) s1.2)), (1, .one (.dat (.int .i64) (wadd .i64 s1.1 (1 : Int)))), (19, .one (.dat (.int .i64) (wadd .i64 s1.1 (1 : Int)))), (18, .one (.dat (.int .i64) s1.1)), (0, .one (.dat (.sl (.int .i64)) a0)), (1, .one (.dat (.int .i64) s1.1)), (5, .one (.dat (.int .i64) s1.2)), (17, .one (.dat .bool ((List.getD a0 (Int.toNat s1.2) (0 : Int)) != s1.1)))], [], 0⟩) hP hN (by kernel_rfl) allNil (qLoopN ⟨((wadd .i64 s1.1 (1 : Int)), (wadd .i64 s1.2 (1 : Int))), rfl, Le.cv (s := ⟨[], [], [], false⟩) (own := []) (ps := [a0 = a0, (wadd .i64 s1.1 (1 : Int)) = (wadd .i64 s1.1 (1 : Int)), (wadd .i64 s1.2 (1 : Int)) = (wadd .i64 s1.2 (1 : Int))]) (st' := ⟨[(0, .one (.dat (.sl (.int .i64)) a0)), (1, .one (.dat (.int .i64) (wadd .i64 s1.1 (1 : Int)))), (5, .one (.dat (.int .i64) (wadd .i64 s1.2 (1 : Int))))], [], 0⟩) hO (fun h => by cases h) (by kernel_rfl) ⟨rfl, rfl, rfl, trivial⟩⟩)
    · refine HT.cond0 rfl hb8 ?_
      have hx6 := of_some hx6
      subst hx6
      refine (Le.cv (s := ⟨[], [], [], false⟩) (own := []) (ps := [s1.1 = s1.1]) (st' := ⟨[(1, .one (.dat (.int .i64) s1.1))], [], 0⟩) hO (fun h => by cases h) (by kernel_rfl) ⟨rfl, trivial⟩).ht ?_
      exact HT.exit (qThenE (qLoopE (hk7 (.inl s1.1) rfl)))

noncomputable def laws_heldLoop (a0 : List Int × List Int) (a1 : Int) : Option (Int) :=
  (laws_heldInt64S a0.1 a1).bind fun y1 =>
  bif (decide (y1 < (0 : Int))) then
    some (-1 : Int)
  else
    (laws_heldInt64S a0.2 y1).bind fun y4 =>
    bif (decide (y4 < (0 : Int))) then
      some (-1 : Int)
    else
      some y4

theorem f29_ok {a0 : List Int × List Int} {a1 : Int} {r : Int} (hr : laws_heldLoop a0 a1 = some r) : CallOK Try.prog 29 [.imm (.st (.pair (.sl (.int .i64)) (.sl (.int .i64)))) a0, .imm (.int .i64) a1] [⟨false, (.int .i64), r⟩] [] := by
  unfold laws_heldLoop at hr
  refine CallOK.of_body (ts := [(false, (.int .i64))]) Try.func29 rfl (by kernel_rfl) (Nat.le_of_ble_eq_true (by kernel_rfl)) fun cx hP hN hO hF => ?_
  have hO : cx.own.map Prod.fst = [] := hO
  have hF := hF rfl
  show HT cx ⟨[(0, .agg [.dat (.sl (.int .i64)) a0.1, .dat (.sl (.int .i64)) a0.2]), (1, .one (.dat (.int .i64) a1))], [], 0⟩ _ _
  refine HT.reg1 [1, 2] [⟨none, .no⟩, ⟨none, .no⟩] ⟨[(1, .one (.dat (.int .i64) a1)), (2, .one (.ptr 0 0))], [(0, .box [.dat (.sl (.int .i64)) a0.1, .dat (.sl (.int .i64)) a0.2])], 1⟩ hP hN (by kernel_rfl) allNil ?_
  obtain ⟨y1, hc2, hr⟩ := of_bind hr
  refine HT.reg1 [1, 2] [⟨none, .no⟩, ⟨none, .no⟩, ⟨none, .no⟩, ⟨none, .call [.imm (.sl (.int .i64)), .imm (.int .i64)] [⟨false, (.int .i64), y1⟩] []⟩, ⟨none, .no⟩] ⟨[(1, .one (.dat (.int .i64) y1)), (2, .one (.ptr 0 0))], [(0, .box [.dat (.sl (.int .i64)) a0.1, .dat (.sl (.int .i64)) a0.2])], 1⟩ hP hN (by kernel_rfl) (allCons (f84_ok hc2) allNil) ?_
  refine HT.seq ?_
  refine HT.reg1 [1, 2, 10] [⟨none, .no⟩, ⟨none, .no⟩] ⟨[(1, .one (.dat (.int .i64) y1)), (2, .one (.ptr 0 0)), (10, .one (.dat .bool (decide (y1 < (0 : Int)))))], [(0, .box [.dat (.sl (.int .i64)) a0.1, .dat (.sl (.int .i64)) a0.2])], 1⟩ hP hN (by kernel_rfl) allNil ?_
  rcases of_bif hr with ⟨hb3, hr⟩ | ⟨hb3, hr⟩
  · refine HT.cond1 rfl hb3 ?_
    refine HT.reg1 [4] [⟨none, .no⟩] ⟨[(4, .one (.dat (.int .i64) (-1 : Int)))], [(0, .box [.dat (.sl (.int .i64)) a0.1, .dat (.sl (.int .i64)) a0.2])], 1⟩ hP hN (by kernel_rfl) allNil ?_
    have hr := of_some hr
    subst hr
    exact HT.ret (qThenR ⟨[.one (.dat (.int .i64) (-1 : Int))], [], [], by kernel_rfl, by kernel_rfl, rfl, by kernel_rfl, by kernel_rfl, trivial⟩)
  · refine HT.cond0 rfl hb3 ?_
    refine HT.skip (qThen ?_)
    obtain ⟨y4, hc5, hr⟩ := of_bind hr
    refine HT.reg1 [1] [⟨none, .no⟩, ⟨none, .no⟩, ⟨none, .no⟩, ⟨none, .call [.imm (.sl (.int .i64)), .imm (.int .i64)] [⟨false, (.int .i64), y4⟩] []⟩, ⟨none, .no⟩] ⟨[(1, .one (.dat (.int .i64) y4))], [(0, .box [.dat (.sl (.int .i64)) a0.1, .dat (.sl (.int .i64)) a0.2])], 1⟩ hP hN (by kernel_rfl) (allCons (f84_ok hc5) allNil) ?_
    refine HT.seq ?_
    refine HT.reg1 [1, 16] [⟨none, .no⟩, ⟨none, .no⟩] ⟨[(1, .one (.dat (.int .i64) y4)), (16, .one (.dat .bool (decide (y4 < (0 : Int)))))], [(0, .box [.dat (.sl (.int .i64)) a0.1, .dat (.sl (.int .i64)) a0.2])], 1⟩ hP hN (by kernel_rfl) allNil ?_
    rcases of_bif hr with ⟨hb6, hr⟩ | ⟨hb6, hr⟩
    · refine HT.cond1 rfl hb6 ?_
      refine HT.reg1 [4] [⟨none, .no⟩] ⟨[(4, .one (.dat (.int .i64) (-1 : Int)))], [(0, .box [.dat (.sl (.int .i64)) a0.1, .dat (.sl (.int .i64)) a0.2])], 1⟩ hP hN (by kernel_rfl) allNil ?_
      have hr := of_some hr
      subst hr
      exact HT.ret (qThenR ⟨[.one (.dat (.int .i64) (-1 : Int))], [], [], by kernel_rfl, by kernel_rfl, rfl, by kernel_rfl, by kernel_rfl, trivial⟩)
    · refine HT.cond0 rfl hb6 ?_
      refine HT.skip (qThen ?_)
      refine HT.reg1 [4] [⟨none, .no⟩, ⟨none, .no⟩] ⟨[(4, .one (.dat (.int .i64) y4))], [(0, .box [.dat (.sl (.int .i64)) a0.1, .dat (.sl (.int .i64)) a0.2])], 1⟩ hP hN (by kernel_rfl) allNil ?_
      have hr := of_some hr
      subst hr
      exact HT.ret ⟨[.one (.dat (.int .i64) y4)], [], [], by kernel_rfl, by kernel_rfl, rfl, by kernel_rfl, by kernel_rfl, trivial⟩

noncomputable def laws_eqLoop (a0 : List Int × List Int) (a1 : List Int × List Int) : Option (Bool) :=
  (laws_eqInt64S a0.1 a1.1).bind fun y1 =>
  bif (!y1) then
    some false
  else
    (laws_eqInt64S a0.2 a1.2).bind fun y4 =>
    bif (!y4) then
      some false
    else
      some true

theorem f25_ok {a0 : List Int × List Int} {a1 : List Int × List Int} {r : Bool} (hr : laws_eqLoop a0 a1 = some r) : CallOK Try.prog 25 [.imm (.st (.pair (.sl (.int .i64)) (.sl (.int .i64)))) a0, .imm (.st (.pair (.sl (.int .i64)) (.sl (.int .i64)))) a1] [⟨false, .bool, r⟩] [] := by
  unfold laws_eqLoop at hr
  refine CallOK.of_body (ts := [(false, .bool)]) Try.func25 rfl (by kernel_rfl) (Nat.le_of_ble_eq_true (by kernel_rfl)) fun cx hP hN hO hF => ?_
  have hO : cx.own.map Prod.fst = [] := hO
  have hF := hF rfl
  show HT cx ⟨[(0, .agg [.dat (.sl (.int .i64)) a0.1, .dat (.sl (.int .i64)) a0.2]), (1, .agg [.dat (.sl (.int .i64)) a1.1, .dat (.sl (.int .i64)) a1.2])], [], 0⟩ _ _
  refine HT.reg1 [2, 3] [⟨none, .no⟩, ⟨none, .no⟩, ⟨none, .no⟩] ⟨[(2, .one (.ptr 0 0)), (3, .one (.ptr 1 0))], [(1, .box [.dat (.sl (.int .i64)) a1.1, .dat (.sl (.int .i64)) a1.2]), (0, .box [.dat (.sl (.int .i64)) a0.1, .dat (.sl (.int .i64)) a0.2])], 2⟩ hP hN (by kernel_rfl) allNil ?_
  refine HT.seq ?_
  obtain ⟨y1, hc2, hr⟩ := of_bind hr
  refine HT.reg1 [2, 3, 10] [⟨none, .no⟩, ⟨none, .no⟩, ⟨none, .no⟩, ⟨none, .no⟩, ⟨none, .call [.imm (.sl (.int .i64)), .imm (.sl (.int .i64))] [⟨false, .bool, y1⟩] []⟩, ⟨none, .no⟩] ⟨[(2, .one (.ptr 0 0)), (3, .one (.ptr 1 0)), (10, .one (.dat .bool (!y1)))], [(1, .box [.dat (.sl (.int .i64)) a1.1, .dat (.sl (.int .i64)) a1.2]), (0, .box [.dat (.sl (.int .i64)) a0.1, .dat (.sl (.int .i64)) a0.2])], 2⟩ hP hN (by kernel_rfl) (allCons (f34_ok hc2) allNil) ?_
  rcases of_bif hr with ⟨hb3, hr⟩ | ⟨hb3, hr⟩
  · refine HT.cond1 rfl hb3 ?_
    refine HT.reg1 [4] [⟨none, .no⟩] ⟨[(4, .one (.dat .bool false))], [(1, .box [.dat (.sl (.int .i64)) a1.1, .dat (.sl (.int .i64)) a1.2]), (0, .box [.dat (.sl (.int .i64)) a0.1, .dat (.sl (.int .i64)) a0.2])], 2⟩ hP hN (by kernel_rfl) allNil ?_
    have hr := of_some hr
    subst hr
    exact HT.ret (qThenR ⟨[.one (.dat .bool false)], [], [], by kernel_rfl, by kernel_rfl, rfl, by kernel_rfl, by kernel_rfl, trivial⟩)
  · refine HT.cond0 rfl hb3 ?_
    refine HT.skip (qThen ?_)
    refine HT.seq ?_
    obtain ⟨y4, hc5, hr⟩ := of_bind hr
    refine HT.reg1 [16] [⟨none, .no⟩, ⟨none, .no⟩, ⟨none, .no⟩, ⟨none, .no⟩, ⟨none, .call [.imm (.sl (.int .i64)), .imm (.sl (.int .i64))] [⟨false, .bool, y4⟩] []⟩, ⟨none, .no⟩] ⟨[(16, .one (.dat .bool (!y4)))], [(1, .box [.dat (.sl (.int .i64)) a1.1, .dat (.sl (.int .i64)) a1.2]), (0, .box [.dat (.sl (.int .i64)) a0.1, .dat (.sl (.int .i64)) a0.2])], 2⟩ hP hN (by kernel_rfl) (allCons (f34_ok hc5) allNil) ?_
    rcases of_bif hr with ⟨hb6, hr⟩ | ⟨hb6, hr⟩
    · refine HT.cond1 rfl hb6 ?_
      refine HT.reg1 [4] [⟨none, .no⟩] ⟨[(4, .one (.dat .bool false))], [(1, .box [.dat (.sl (.int .i64)) a1.1, .dat (.sl (.int .i64)) a1.2]), (0, .box [.dat (.sl (.int .i64)) a0.1, .dat (.sl (.int .i64)) a0.2])], 2⟩ hP hN (by kernel_rfl) allNil ?_
      have hr := of_some hr
      subst hr
      exact HT.ret (qThenR ⟨[.one (.dat .bool false)], [], [], by kernel_rfl, by kernel_rfl, rfl, by kernel_rfl, by kernel_rfl, trivial⟩)
    · refine HT.cond0 rfl hb6 ?_
      refine HT.skip (qThen ?_)
      refine HT.reg1 [4] [⟨none, .no⟩] ⟨[(4, .one (.dat .bool true))], [(1, .box [.dat (.sl (.int .i64)) a1.1, .dat (.sl (.int .i64)) a1.2]), (0, .box [.dat (.sl (.int .i64)) a0.1, .dat (.sl (.int .i64)) a0.2])], 2⟩ hP hN (by kernel_rfl) allNil ?_
      have hr := of_some hr
      subst hr
      exact HT.ret ⟨[.one (.dat .bool true)], [], [], by kernel_rfl, by kernel_rfl, rfl, by kernel_rfl, by kernel_rfl, trivial⟩

noncomputable def laws_FnExactFirstLoop (a0 : Int × Int × List Int × List Bool) (a1 : Int) : Option (Bool) :=
  (laws_szPlain (a0.1, a0.2.1, a0.2.2.1, a0.2.2.2) (1048576 : Int)).bind fun y1 =>
  bif (decide (y1 < (0 : Int))) then
    some true
  else
    (laws_toPlain (a0.1, a0.2.1, a0.2.2.1, a0.2.2.2)).bind fun y4 =>
    (spec_FirstLoop (y4.1, y4.2.1, y4.2.2.1, y4.2.2.2) a1).bind fun y6 =>
    (laws_toPlain (a0.1, a0.2.1, a0.2.2.1, a0.2.2.2)).bind fun y8 =>
    (impl_FirstLoop (y8.1, y8.2.1, y8.2.2.1, y8.2.2.2) a1).bind fun y10 =>
    (show Option (Bool) from
      (laws_eqLoop (y10.1.1, y10.1.2) (y6.1.1, y6.1.2)).bind fun y52 =>
      bif (!y52) then
        some true
      else
        some (y10.2 != y6.2)).bind fun v12 =>
    bif v12 then
      some false
    else
      (laws_toPlain (a0.1, a0.2.1, a0.2.2.1, a0.2.2.2)).bind fun y16 =>
      (laws_eqPlain (y8.1, y8.2.1, y8.2.2.1, y8.2.2.2) (y16.1, y16.2.1, y16.2.2.1, y16.2.2.2)).bind fun y18 =>
      bif (!y18) then
        some false
      else
        (laws_markPlain (y8.1, y8.2.1, y8.2.2.1, y8.2.2.2) (1 : Int)).bind fun y21 =>
        (show Option (Bool) from
          bif (decide (y21.1 < (0 : Int))) then
            some true
          else
            (laws_eqLoop (y10.1.1, y10.1.2) (y6.1.1, y6.1.2)).bind fun y49 =>
            bif (!y49) then
              some true
            else
              some (y10.2 != y6.2)).bind fun v23 =>
        bif v23 then
          some false
        else
          (laws_markLoop (y10.1.1, y10.1.2) (1 : Int)).bind fun y27 =>
          (laws_heldLoop (y27.2.1, y27.2.2) (1 : Int)).bind fun y29 =>
          bif (decide (y29 < (0 : Int))) then
            some false
          else
            bif (y29 != y27.1) then
              some false
            else
              (laws_toPlain (a0.1, a0.2.1, a0.2.2.1, a0.2.2.2)).bind fun y33 =>
              (impl_FirstLoop (y33.1, y33.2.1, y33.2.2.1, y33.2.2.2) a1).bind fun y35 =>
              (show Option (Bool) from
                (laws_eqLoop (y35.1.1, y35.1.2) (y6.1.1, y6.1.2)).bind fun y45 =>
                bif (!y45) then
                  some true
                else
                  some (y35.2 != y6.2)).bind fun v37 =>
              bif v37 then
                some false
              else
                (laws_heldLoop (y27.2.1, y27.2.2) (1 : Int)).bind fun y41 =>
                bif (decide (y41 < (0 : Int))) then
                  some false
                else
                  bif (y41 != y27.1) then
                    some false
                  else
                    some true

theorem f4_ok {a0 : Int × Int × List Int × List Bool} {a1 : Int} {r : Bool} (hr : laws_FnExactFirstLoop a0 a1 = some r) : CallOK Try.prog 4 [.imm (.st (.pair (.int .i64) (.pair (.int .i64) (.pair (.sl (.int .i64)) (.sl .bool))))) a0, .imm (.int .i64) a1] [⟨false, .bool, r⟩] [] := by
  unfold laws_FnExactFirstLoop at hr
  refine CallOK.of_body (ts := [(false, .bool)]) Try.func4 rfl (by kernel_rfl) (Nat.le_of_ble_eq_true (by kernel_rfl)) fun cx hP hN hO hF => ?_
  have hO : cx.own.map Prod.fst = [] := hO
  have hF := hF rfl
  show HT cx ⟨[(0, .agg [.dat (.int .i64) a0.1, .dat (.int .i64) a0.2.1, .dat (.sl (.int .i64)) a0.2.2.1, .dat (.sl .bool) a0.2.2.2]), (1, .one (.dat (.int .i64) a1))], [], 0⟩ _ _
  refine HT.reg1 [1, 2] [⟨none, .no⟩, ⟨none, .no⟩] ⟨[(1, .one (.dat (.int .i64) a1)), (2, .one (.ptr 0 0))], [(0, .box [.dat (.int .i64) a0.1, .dat (.int .i64) a0.2.1, .dat (.sl (.int .i64)) a0.2.2.1, .dat (.sl .bool) a0.2.2.2])], 1⟩ hP hN (by kernel_rfl) allNil ?_
  refine HT.reg1 [1, 2, 5] [⟨none, .no⟩] ⟨[(1, .one (.dat (.int .i64) a1)), (2, .one (.ptr 0 0)), (5, .one (.dat (.int .i64) (1048576 : Int)))], [(0, .box [.dat (.int .i64) a0.1, .dat (.int .i64) a0.2.1, .dat (.sl (.int .i64)) a0.2.2.1, .dat (.sl .bool) a0.2.2.2])], 1⟩ hP hN (by kernel_rfl) allNil ?_
  obtain ⟨y1, hc2, hr⟩ := of_bind hr
  refine HT.reg1 [1, 2, 5] [⟨none, .no⟩, ⟨none, .no⟩, ⟨none, .call [.imm (.st (.pair (.int .i64) (.pair (.int .i64) (.pair (.sl (.int .i64)) (.sl .bool))))), .imm (.int .i64)] [⟨false, (.int .i64), y1⟩] []⟩, ⟨none, .no⟩] ⟨[(1, .one (.dat (.int .i64) a1)), (2, .one (.ptr 0 0)), (5, .one (.dat (.int .i64) y1))], [(0, .box [.dat (.int .i64) a0.1, .dat (.int .i64) a0.2.1, .dat (.sl (.int .i64)) a0.2.2.1, .dat (.sl .bool) a0.2.2.2])], 1⟩ hP hN (by kernel_rfl) (allCons (f21_ok hc2) allNil) ?_
  refine HT.seq ?_
  refine HT.reg1 [1, 2, 20] [⟨none, .no⟩, ⟨none, .no⟩] ⟨[(1, .one (.dat (.int .i64) a1)), (2, .one (.ptr 0 0)), (20, .one (.dat .bool (decide (y1 < (0 : Int)))))], [(0, .box [.dat (.int .i64) a0.1, .dat (.int .i64) a0.2.1, .dat (.sl (.int .i64)) a0.2.2.1, .dat (.sl .bool) a0.2.2.2])], 1⟩ hP hN (by kernel_rfl) allNil ?_
  rcases of_bif hr with ⟨hb3, hr⟩ | ⟨hb3, hr⟩
  · refine HT.cond1 rfl hb3 ?_
    refine HT.reg1 [4] [⟨none, .no⟩] ⟨[(4, .one (.dat .bool true))], [(0, .box [.dat (.int .i64) a0.1, .dat (.int .i64) a0.2.1, .dat (.sl (.int .i64)) a0.2.2.1, .dat (.sl .bool) a0.2.2.2])], 1⟩ hP hN (by kernel_rfl) allNil ?_
    have hr := of_some hr
    subst hr
    exact HT.ret (qThenR ⟨[.one (.dat .bool true)], [], [], by kernel_rfl, by kernel_rfl, rfl, by kernel_rfl, by kernel_rfl, trivial⟩)
  · refine HT.cond0 rfl hb3 ?_
    refine HT.skip (qThen ?_)
    obtain ⟨y4, hc5, hr⟩ := of_bind hr
    obtain ⟨y6, hc7, hr⟩ := of_bind hr
    refine HT.reg1 [1, 2, 6, 7] [⟨none, .no⟩, ⟨none, .call [.imm (.st (.pair (.int .i64) (.pair (.int .i64) (.pair (.sl (.int .i64)) (.sl .bool)))))] [⟨false, (.st (.pair (.int .i64) (.pair (.int .i64) (.pair (.sl (.int .i64)) (.sl .bool))))), y4⟩] []⟩, ⟨none, .no⟩, ⟨none, .call [.imm (.st (.pair (.int .i64) (.pair (.int .i64) (.pair (.sl (.int .i64)) (.sl .bool))))), .imm (.int .i64)] [⟨false, (.st (.pair (.sl (.int .i64)) (.sl (.int .i64)))), y6.1⟩, ⟨false, .bool, y6.2⟩] []⟩, ⟨none, .no⟩, ⟨none, .no⟩, ⟨none, .no⟩, ⟨none, .no⟩, ⟨none, .no⟩, ⟨none, .no⟩] ⟨[(1, .one (.dat (.int .i64) a1)), (2, .one (.ptr 0 0)), (6, .one (.ptr 1 0)), (7, .one (.dat .bool y6.2))], [(1, .box [.dat (.sl (.int .i64)) y6.1.1, .dat (.sl (.int .i64)) y6.1.2]), (1, .box [.nilS, .nilS]), (0, .box [.dat (.int .i64) a0.1, .dat (.int .i64) a0.2.1, .dat (.sl (.int .i64)) a0.2.2.1, .dat (.sl .bool) a0.2.2.2])], 2⟩ hP hN (by kernel_rfl) (allCons (CallOK.frz [true] rfl (f23_ok hc5)) (allCons (f22_ok hc7) allNil)) ?_
    obtain ⟨y8, hc9, hr⟩ := of_bind hr
    refine HT.reg1 [1, 2, 6, 7, 8] [⟨none, .no⟩, ⟨none, .call [.imm (.st (.pair (.int .i64) (.pair (.int .i64) (.pair (.sl (.int .i64)) (.sl .bool)))))] [⟨true, (.st (.pair (.int .i64) (.pair (.int .i64) (.pair (.sl (.int .i64)) (.sl .bool))))), y8⟩] []⟩, ⟨none, .no⟩, ⟨none, .no⟩] ⟨[(1, .one (.dat (.int .i64) a1)), (2, .one (.ptr 0 0)), (6, .one (.ptr 1 0)), (7, .one (.dat .bool y6.2)), (8, .one (.ptr 4 0))], [(4, .box [.dat (.int .i64) y8.1, .dat (.int .i64) y8.2.1, .all 2, .all 3]), (4, .box [.dat (.int .i64) (0 : Int), .dat (.int .i64) (0 : Int), .nilS, .nilS]), (2, .seq (.int .i64) y8.2.2.1), (3, .seq .bool y8.2.2.2), (1, .box [.dat (.sl (.int .i64)) y6.1.1, .dat (.sl (.int .i64)) y6.1.2]), (1, .box [.nilS, .nilS]), (0, .box [.dat (.int .i64) a0.1, .dat (.int .i64) a0.2.1, .dat (.sl (.int .i64)) a0.2.2.1, .dat (.sl .bool) a0.2.2.2])], 5⟩ hP hN (by kernel_rfl) (allCons (f23_ok hc9) allNil) ?_
    obtain ⟨y10, hc11, hr⟩ := of_bind hr
    refine HT.reg1 [1, 2, 6, 7, 8, 9, 10] [⟨none, .no⟩, ⟨none, .no⟩, ⟨none, .call [.imm (.st (.pair (.int .i64) (.pair (.int .i64) (.pair (.sl (.int .i64)) (.sl .bool))))), .imm (.int .i64)] [⟨true, (.st (.pair (.sl (.int .i64)) (.sl (.int .i64)))), y10.1⟩, ⟨false, .bool, y10.2⟩] []⟩, ⟨none, .no⟩, ⟨none, .no⟩, ⟨none, .no⟩, ⟨none, .no⟩, ⟨none, .no⟩, ⟨none, .no⟩] ⟨[(1, .one (.dat (.int .i64) a1)), (2, .one (.ptr 0 0)), (6, .one (.ptr 1 0)), (7, .one (.dat .bool y6.2)), (8, .one (.ptr 4 0)), (9, .one (.ptr 7 0)), (10, .one (.dat .bool y10.2))], [(7, .box [.all 5, .all 6]), (7, .box [.nilS, .nilS]), (5, .seq (.int .i64) y10.1.1), (6, .seq (.int .i64) y10.1.2), (4, .box [.dat (.int .i64) y8.1, .dat (.int .i64) y8.2.1, .all 2, .all 3]), (4, .box [.dat (.int .i64) (0 : Int), .dat (.int .i64) (0 : Int), .nilS, .nilS]), (2, .seq (.int .i64) y8.2.2.1), (3, .seq .bool y8.2.2.2), (1, .box [.dat (.sl (.int .i64)) y6.1.1, .dat (.sl (.int .i64)) y6.1.2]), (1, .box [.nilS, .nilS]), (0, .box [.dat (.int .i64) a0.1, .dat (.int .i64) a0.2.1, .dat (.sl (.int .i64)) a0.2.2.1, .dat (.sl .bool) a0.2.2.2])], 8⟩ hP hN (by kernel_rfl) (allCons (f24_ok hc11) allNil) ?_
    refine HT.seq ?_
    obtain ⟨v12', hT14, hr⟩ := of_bind hr
    refine HT.join (fun (v12 : Bool) => ⟨[(1, .one (.dat (.int .i64) a1)), (2, .one (.ptr 0 0)), (6, .one (.ptr 1 0)), (7, .one (.dat .bool y6.2)), (8, .one (.ptr 2 0)), (9, .one (.ptr 3 0)), (10, .one (.dat .bool y10.2)), (44, .one (.dat .bool v12))], [(0, .box [.dat (.int .i64) a0.1, .dat (.int .i64) a0.2.1, .dat (.sl (.int .i64)) a0.2.2.1, .dat (.sl .bool) a0.2.2.2]), (1, .box [.dat (.sl (.int .i64)) y6.1.1, .dat (.sl (.int .i64)) y6.1.2]), (2, .box [.dat (.int .i64) y8.1, .dat (.int .i64) y8.2.1, .all 4, .all 5]), (3, .box [.all 6, .all 7]), (4, .seq (.int .i64) y8.2.2.1), (5, .seq .bool y8.2.2.2), (6, .seq (.int .i64) y10.1.1), (7, .seq (.int .i64) y10.1.2)], 8⟩) (fun v => v = v12') (fun v12 hv13 => ?_) (fun cont => ?_)
    · subst hv13
      rcases of_bif hr with ⟨hb15, hr⟩ | ⟨hb15, hr⟩
      · refine HT.cond1 rfl hb15 ?_
        refine HT.reg1 [4] [⟨none, .no⟩] ⟨[(4, .one (.dat .bool false))], [(0, .box [.dat (.int .i64) a0.1, .dat (.int .i64) a0.2.1, .dat (.sl (.int .i64)) a0.2.2.1, .dat (.sl .bool) a0.2.2.2]), (1, .box [.dat (.sl (.int .i64)) y6.1.1, .dat (.sl (.int .i64)) y6.1.2]), (2, .box [.dat (.int .i64) y8.1, .dat (.int .i64) y8.2.1, .all 4, .all 5]), (3, .box [.all 6, .all 7]), (4, .seq (.int .i64) y8.2.2.1), (5, .seq .bool y8.2.2.2), (6, .seq (.int .i64) y10.1.1), (7, .seq (.int .i64) y10.1.2)], 8⟩ hP hN (by kernel_rfl) allNil ?_
        have hr := of_some hr
        subst hr
        exact HT.ret (qThenR ⟨[.one (.dat .bool false)], [], [], by kernel_rfl, by kernel_rfl, rfl, by kernel_rfl, by kernel_rfl, trivial⟩)
      · refine HT.cond0 rfl hb15 ?_
        refine HT.skip (qThen ?_)
        refine HT.seq ?_
        obtain ⟨y16, hc17, hr⟩ := of_bind hr
        obtain ⟨y18, hc19, hr⟩ := of_bind hr
        refine HT.drw1 [1, 2, 6, 7, 8, 9, 10, 49] 3 [⟨⟨none, .no⟩, []⟩, ⟨⟨none, .no⟩, []⟩, ⟨⟨none, .call [.imm (.st (.pair (.int .i64) (.pair (.int .i64) (.pair (.sl (.int .i64)) (.sl .bool)))))] [⟨true, (.st (.pair (.int .i64) (.pair (.int .i64) (.pair (.sl (.int .i64)) (.sl .bool))))), y16⟩] []⟩, [1]⟩] [[0, 1, 2], [0, 1, 2, 3]] [⟨none, .call [.imm (.st (.pair (.int .i64) (.pair (.int .i64) (.pair (.sl (.int .i64)) (.sl .bool))))), .imm (.st (.pair (.int .i64) (.pair (.int .i64) (.pair (.sl (.int .i64)) (.sl .bool)))))] [⟨false, .bool, y18⟩] []⟩, ⟨none, .no⟩] ⟨[(1, .one (.dat (.int .i64) a1)), (2, .one (.ptr 0 0)), (6, .one (.ptr 1 0)), (7, .one (.dat .bool y6.2)), (8, .one (.ptr 2 0)), (9, .one (.ptr 3 0)), (10, .one (.dat .bool y10.2)), (49, .one (.dat .bool (!y18)))], [(8, .seq (.int .i64) y16.2.2.1), (9, .seq .bool y16.2.2.2), (0, .box [.dat (.int .i64) a0.1, .dat (.int .i64) a0.2.1, .dat (.sl (.int .i64)) a0.2.2.1, .dat (.sl .bool) a0.2.2.2]), (1, .box [.dat (.sl (.int .i64)) y6.1.1, .dat (.sl (.int .i64)) y6.1.2]), (2, .box [.dat (.int .i64) y8.1, .dat (.int .i64) y8.2.1, .all 4, .all 5]), (3, .box [.all 6, .all 7]), (4, .seq (.int .i64) y8.2.2.1), (5, .seq .bool y8.2.2.2), (6, .seq (.int .i64) y10.1.1), (7, .seq (.int .i64) y10.1.2)], 10⟩ hP hN (by kernel_rfl) (by kernel_rfl) (allCons (f23_ok hc17) (allCons (f26_ok hc19) allNil)) ?_
        rcases of_bif hr with ⟨hb20, hr⟩ | ⟨hb20, hr⟩
        · refine HT.cond1 rfl hb20 ?_
          refine HT.reg1 [4] [⟨none, .no⟩] ⟨[(4, .one (.dat .bool false))], [(8, .seq (.int .i64) y16.2.2.1), (9, .seq .bool y16.2.2.2), (0, .box [.dat (.int .i64) a0.1, .dat (.int .i64) a0.2.1, .dat (.sl (.int .i64)) a0.2.2.1, .dat (.sl .bool) a0.2.2.2]), (1, .box [.dat (.sl (.int .i64)) y6.1.1, .dat (.sl (.int .i64)) y6.1.2]), (2, .box [.dat (.int .i64) y8.1, .dat (.int .i64) y8.2.1, .all 4, .all 5]), (3, .box [.all 6, .all 7]), (4, .seq (.int .i64) y8.2.2.1), (5, .seq .bool y8.2.2.2), (6, .seq (.int .i64) y10.1.1), (7, .seq (.int .i64) y10.1.2)], 10⟩ hP hN (by kernel_rfl) allNil ?_
          have hr := of_some hr
          subst hr
          exact HT.ret (qThenR ⟨[.one (.dat .bool false)], [], [], by kernel_rfl, by kernel_rfl, rfl, by kernel_rfl, by kernel_rfl, trivial⟩)
        · refine HT.cond0 rfl hb20 ?_
          refine HT.skip (qThen ?_)
          refine HT.reg1 [1, 2, 6, 7, 8, 9, 10, 11] [⟨none, .no⟩] ⟨[(1, .one (.dat (.int .i64) a1)), (2, .one (.ptr 0 0)), (6, .one (.ptr 1 0)), (7, .one (.dat .bool y6.2)), (8, .one (.ptr 2 0)), (9, .one (.ptr 3 0)), (10, .one (.dat .bool y10.2)), (11, .one (.dat (.int .i64) (1 : Int)))], [(8, .seq (.int .i64) y16.2.2.1), (9, .seq .bool y16.2.2.2), (0, .box [.dat (.int .i64) a0.1, .dat (.int .i64) a0.2.1, .dat (.sl (.int .i64)) a0.2.2.1, .dat (.sl .bool) a0.2.2.2]), (1, .box [.dat (.sl (.int .i64)) y6.1.1, .dat (.sl (.int .i64)) y6.1.2]), (2, .box [.dat (.int .i64) y8.1, .dat (.int .i64) y8.2.1, .all 4, .all 5]), (3, .box [.all 6, .all 7]), (4, .seq (.int .i64) y8.2.2.1), (5, .seq .bool y8.2.2.2), (6, .seq (.int .i64) y10.1.1), (7, .seq (.int .i64) y10.1.2)], 10⟩ hP hN (by kernel_rfl) allNil ?_
          obtain ⟨y21, hc22, hr⟩ := of_bind hr
          refine HT.reg1 [1, 2, 6, 7, 9, 10, 11] [⟨none, .no⟩, ⟨none, .no⟩, ⟨none, .call [.own (.st (.pair (.int .i64) (.pair (.int .i64) (.pair (.sl (.int .i64)) (.sl .bool))))), .imm (.int .i64)] [⟨false, (.int .i64), y21.1⟩] [⟨(.st (.pair (.int .i64) (.pair (.int .i64) (.pair (.sl (.int .i64)) (.sl .bool))))), y21.2⟩]⟩, ⟨none, .no⟩] ⟨[(1, .one (.dat (.int .i64) a1)), (2, .one (.ptr 0 0)), (6, .one (.ptr 1 0)), (7, .one (.dat .bool y6.2)), (9, .one (.ptr 3 0)), (10, .one (.dat .bool y10.2)), (11, .one (.dat (.int .i64) y21.1))], [(4, .seq (.int .i64) y21.2.2.2.1), (5, .seq .bool y21.2.2.2.2), (8, .seq (.int .i64) y16.2.2.1), (9, .seq .bool y16.2.2.2), (0, .box [.dat (.int .i64) a0.1, .dat (.int .i64) a0.2.1, .dat (.sl (.int .i64)) a0.2.2.1, .dat (.sl .bool) a0.2.2.2]), (1, .box [.dat (.sl (.int .i64)) y6.1.1, .dat (.sl (.int .i64)) y6.1.2]), (2, .box [.dat (.int .i64) y8.1, .dat (.int .i64) y8.2.1, .all 4, .all 5]), (3, .box [.all 6, .all 7]), (4, .seq (.int .i64) y8.2.2.1), (5, .seq .bool y8.2.2.2), (6, .seq (.int .i64) y10.1.1), (7, .seq (.int .i64) y10.1.2)], 10⟩ hP hN (by kernel_rfl) (allCons (f27_ok hc22) allNil) ?_
          refine HT.seq ?_
          obtain ⟨v23', hT25, hr⟩ := of_bind hr
          refine HT.join (fun (v23 : Bool) => ⟨[(1, .one (.dat (.int .i64) a1)), (2, .one (.ptr 0 0)), (6, .one (.ptr 1 0)), (7, .one (.dat .bool y6.2)), (9, .one (.ptr 2 0)), (65, .one (.dat .bool v23))], [(0, .box [.dat (.int .i64) a0.1, .dat (.int .i64) a0.2.1, .dat (.sl (.int .i64)) a0.2.2.1, .dat (.sl .bool) a0.2.2.2]), (1, .box [.dat (.sl (.int .i64)) y6.1.1, .dat (.sl (.int .i64)) y6.1.2]), (2, .box [.all 3, .all 4]), (3, .seq (.int .i64) y10.1.1), (4, .seq (.int .i64) y10.1.2)], 5⟩) (fun v => v = v23') (fun v23 hv24 => ?_) (fun cont => ?_)
          · subst hv24
            rcases of_bif hr with ⟨hb26, hr⟩ | ⟨hb26, hr⟩
            · refine HT.cond1 rfl hb26 ?_
              refine HT.reg1 [4] [⟨none, .no⟩] ⟨[(4, .one (.dat .bool false))], [(0, .box [.dat (.int .i64) a0.1, .dat (.int .i64) a0.2.1, .dat (.sl (.int .i64)) a0.2.2.1, .dat (.sl .bool) a0.2.2.2]), (1, .box [.dat (.sl (.int .i64)) y6.1.1, .dat (.sl (.int .i64)) y6.1.2]), (2, .box [.all 3, .all 4]), (3, .seq (.int .i64) y10.1.1), (4, .seq (.int .i64) y10.1.2)], 5⟩ hP hN (by kernel_rfl) allNil ?_
              have hr := of_some hr
              subst hr
              exact HT.ret (qThenR ⟨[.one (.dat .bool false)], [], [], by kernel_rfl, by kernel_rfl, rfl, by kernel_rfl, by kernel_rfl, trivial⟩)
            · refine HT.cond0 rfl hb26 ?_
              refine HT.skip (qThen ?_)
              refine HT.reg1 [1, 2, 6, 7, 9, 12] [⟨none, .no⟩] ⟨[(1, .one (.dat (.int .i64) a1)), (2, .one (.ptr 0 0)), (6, .one (.ptr 1 0)), (7, .one (.dat .bool y6.2)), (9, .one (.ptr 2 0)), (12, .one (.dat (.int .i64) (1 : Int)))], [(0, .box [.dat (.int .i64) a0.1, .dat (.int .i64) a0.2.1, .dat (.sl (.int .i64)) a0.2.2.1, .dat (.sl .bool) a0.2.2.2]), (1, .box [.dat (.sl (.int .i64)) y6.1.1, .dat (.sl (.int .i64)) y6.1.2]), (2, .box [.all 3, .all 4]), (3, .seq (.int .i64) y10.1.1), (4, .seq (.int .i64) y10.1.2)], 5⟩ hP hN (by kernel_rfl) allNil ?_
              obtain ⟨y27, hc28, hr⟩ := of_bind hr
              refine HT.reg1 [1, 2, 6, 7, 9, 12] [⟨none, .no⟩, ⟨none, .no⟩, ⟨none, .call [.own (.st (.pair (.sl (.int .i64)) (.sl (.int .i64)))), .imm (.int .i64)] [⟨false, (.int .i64), y27.1⟩] [⟨(.st (.pair (.sl (.int .i64)) (.sl (.int .i64)))), y27.2⟩]⟩, ⟨none, .no⟩] ⟨[(1, .one (.dat (.int .i64) a1)), (2, .one (.ptr 0 0)), (6, .one (.ptr 1 0)), (7, .one (.dat .bool y6.2)), (9, .one (.ptr 2 0)), (12, .one (.dat (.int .i64) y27.1))], [(3, .seq (.int .i64) y27.2.1), (4, .seq (.int .i64) y27.2.2), (0, .box [.dat (.int .i64) a0.1, .dat (.int .i64) a0.2.1, .dat (.sl (.int .i64)) a0.2.2.1, .dat (.sl .bool) a0.2.2.2]), (1, .box [.dat (.sl (.int .i64)) y6.1.1, .dat (.sl (.int .i64)) y6.1.2]), (2, .box [.all 3, .all 4]), (3, .seq (.int .i64) y10.1.1), (4, .seq (.int .i64) y10.1.2)], 5⟩ hP hN (by kernel_rfl) (allCons (f28_ok hc28) allNil) ?_
              refine HT.reg1 [1, 2, 6, 7, 9, 12, 13] [⟨none, .no⟩] ⟨[(1, .one (.dat (.int .i64) a1)), (2, .one (.ptr 0 0)), (6, .one (.ptr 1 0)), (7, .one (.dat .bool y6.2)), (9, .one (.ptr 2 0)), (12, .one (.dat (.int .i64) y27.1)), (13, .one (.dat (.int .i64) (1 : Int)))], [(3, .seq (.int .i64) y27.2.1), (4, .seq (.int .i64) y27.2.2), (0, .box [.dat (.int .i64) a0.1, .dat (.int .i64) a0.2.1, .dat (.sl (.int .i64)) a0.2.2.1, .dat (.sl .bool) a0.2.2.2]), (1, .box [.dat (.sl (.int .i64)) y6.1.1, .dat (.sl (.int .i64)) y6.1.2]), (2, .box [.all 3, .all 4]), (3, .seq (.int .i64) y10.1.1), (4, .seq (.int .i64) y10.1.2)], 5⟩ hP hN (by kernel_rfl) allNil ?_
              obtain ⟨y29, hc30, hr⟩ := of_bind hr
              refine HT.reg1 [1, 2, 6, 7, 9, 12, 13] [⟨none, .no⟩, ⟨none, .no⟩, ⟨none, .call [.imm (.st (.pair (.sl (.int .i64)) (.sl (.int .i64)))), .imm (.int .i64)] [⟨false, (.int .i64), y29⟩] []⟩, ⟨none, .no⟩] ⟨[(1, .one (.dat (.int .i64) a1)), (2, .one (.ptr 0 0)), (6, .one (.ptr 1 0)), (7, .one (.dat .bool y6.2)), (9, .one (.ptr 2 0)), (12, .one (.dat (.int .i64) y27.1)), (13, .one (.dat (.int .i64) y29))], [(3, .seq (.int .i64) y27.2.1), (4, .seq (.int .i64) y27.2.2), (0, .box [.dat (.int .i64) a0.1, .dat (.int .i64) a0.2.1, .dat (.sl (.int .i64)) a0.2.2.1, .dat (.sl .bool) a0.2.2.2]), (1, .box [.dat (.sl (.int .i64)) y6.1.1, .dat (.sl (.int .i64)) y6.1.2]), (2, .box [.all 3, .all 4]), (3, .seq (.int .i64) y10.1.1), (4, .seq (.int .i64) y10.1.2)], 5⟩ hP hN (by kernel_rfl) (allCons (f29_ok hc30) allNil) ?_
              refine HT.seq ?_
              refine HT.reg1 [1, 2, 6, 7, 9, 12, 13, 73] [⟨none, .no⟩, ⟨none, .no⟩] ⟨[(1, .one (.dat (.int .i64) a1)), (2, .one (.ptr 0 0)), (6, .one (.ptr 1 0)), (7, .one (.dat .bool y6.2)), (9, .one (.ptr 2 0)), (12, .one (.dat (.int .i64) y27.1)), (13, .one (.dat (.int .i64) y29)), (73, .one (.dat .bool (decide (y29 < (0 : Int)))))], [(3, .seq (.int .i64) y27.2.1), (4, .seq (.int .i64) y27.2.2), (0, .box [.dat (.int .i64) a0.1, .dat (.int .i64) a0.2.1, .dat (.sl (.int .i64)) a0.2.2.1, .dat (.sl .bool) a0.2.2.2]), (1, .box [.dat (.sl (.int .i64)) y6.1.1, .dat (.sl (.int .i64)) y6.1.2]), (2, .box [.all 3, .all 4]), (3, .seq (.int .i64) y10.1.1), (4, .seq (.int .i64) y10.1.2)], 5⟩ hP hN (by kernel_rfl) allNil ?_
              rcases of_bif hr with ⟨hb31, hr⟩ | ⟨hb31, hr⟩
              · refine HT.cond1 rfl hb31 ?_
                refine HT.reg1 [4] [⟨none, .no⟩] ⟨[(4, .one (.dat .bool false))], [(3, .seq (.int .i64) y27.2.1), (4, .seq (.int .i64) y27.2.2), (0, .box [.dat (.int .i64) a0.1, .dat (.int .i64) a0.2.1, .dat (.sl (.int .i64)) a0.2.2.1, .dat (.sl .bool) a0.2.2.2]), (1, .box [.dat (.sl (.int .i64)) y6.1.1, .dat (.sl (.int .i64)) y6.1.2]), (2, .box [.all 3, .all 4]), (3, .seq (.int .i64) y10.1.1), (4, .seq (.int .i64) y10.1.2)], 5⟩ hP hN (by kernel_rfl) allNil ?_
                have hr := of_some hr
                subst hr
                exact HT.ret (qThenR ⟨[.one (.dat .bool false)], [], [], by kernel_rfl, by kernel_rfl, rfl, by kernel_rfl, by kernel_rfl, trivial⟩)
              · refine HT.cond0 rfl hb31 ?_
                refine HT.skip (qThen ?_)
                refine HT.seq ?_
                refine HT.reg1 [1, 2, 6, 7, 9, 12, 76] [⟨none, .no⟩, ⟨none, .no⟩, ⟨none, .no⟩] ⟨[(1, .one (.dat (.int .i64) a1)), (2, .one (.ptr 0 0)), (6, .one (.ptr 1 0)), (7, .one (.dat .bool y6.2)), (9, .one (.ptr 2 0)), (12, .one (.dat (.int .i64) y27.1)), (76, .one (.dat .bool (y29 != y27.1)))], [(3, .seq (.int .i64) y27.2.1), (4, .seq (.int .i64) y27.2.2), (0, .box [.dat (.int .i64) a0.1, .dat (.int .i64) a0.2.1, .dat (.sl (.int .i64)) a0.2.2.1, .dat (.sl .bool) a0.2.2.2]), (1, .box [.dat (.sl (.int .i64)) y6.1.1, .dat (.sl (.int .i64)) y6.1.2]), (2, .box [.all 3, .all 4]), (3, .seq (.int .i64) y10.1.1), (4, .seq (.int .i64) y10.1.2)], 5⟩ hP hN (by kernel_rfl) allNil ?_
                rcases of_bif hr with ⟨hb32, hr⟩ | ⟨hb32, hr⟩
                · refine HT.cond1 rfl hb32 ?_
                  refine HT.reg1 [4] [⟨none, .no⟩] ⟨[(4, .one (.dat .bool false))], [(3, .seq (.int .i64) y27.2.1), (4, .seq (.int .i64) y27.2.2), (0, .box [.dat (.int .i64) a0.1, .dat (.int .i64) a0.2.1, .dat (.sl (.int .i64)) a0.2.2.1, .dat (.sl .bool) a0.2.2.2]), (1, .box [.dat (.sl (.int .i64)) y6.1.1, .dat (.sl (.int .i64)) y6.1.2]), (2, .box [.all 3, .all 4]), (3, .seq (.int .i64) y10.1.1), (4, .seq (.int .i64) y10.1.2)], 5⟩ hP hN (by kernel_rfl) allNil ?_
                  have hr := of_some hr
                  subst hr
                  exact HT.ret (qThenR ⟨[.one (.dat .bool false)], [], [], by kernel_rfl, by kernel_rfl, rfl, by kernel_rfl, by kernel_rfl, trivial⟩)
                · refine HT.cond0 rfl hb32 ?_
                  refine HT.skip (qThen ?_)
                  obtain ⟨y33, hc34, hr⟩ := of_bind hr
                  obtain ⟨y35, hc36, hr⟩ := of_bind hr
                  refine HT.reg1 [6, 7, 9, 12, 14, 15] [⟨none, .no⟩, ⟨none, .call [.imm (.st (.pair (.int .i64) (.pair (.int .i64) (.pair (.sl (.int .i64)) (.sl .bool)))))] [⟨true, (.st (.pair (.int .i64) (.pair (.int .i64) (.pair (.sl (.int .i64)) (.sl .bool))))), y33⟩] []⟩, ⟨none, .no⟩, ⟨none, .call [.imm (.st (.pair (.int .i64) (.pair (.int .i64) (.pair (.sl (.int .i64)) (.sl .bool))))), .imm (.int .i64)] [⟨true, (.st (.pair (.sl (.int .i64)) (.sl (.int .i64)))), y35.1⟩, ⟨false, .bool, y35.2⟩] []⟩, ⟨none, .no⟩, ⟨none, .no⟩, ⟨none, .no⟩, ⟨none, .no⟩, ⟨none, .no⟩, ⟨none, .no⟩] ⟨[(6, .one (.ptr 1 0)), (7, .one (.dat .bool y6.2)), (9, .one (.ptr 2 0)), (12, .one (.dat (.int .i64) y27.1)), (14, .one (.ptr 9 0)), (15, .one (.dat .bool y35.2))], [(9, .box [.all 7, .all 8]), (9, .box [.nilS, .nilS]), (7, .seq (.int .i64) y35.1.1), (8, .seq (.int .i64) y35.1.2), (5, .seq (.int .i64) y33.2.2.1), (6, .seq .bool y33.2.2.2), (3, .seq (.int .i64) y27.2.1), (4, .seq (.int .i64) y27.2.2), (0, .box [.dat (.int .i64) a0.1, .dat (.int .i64) a0.2.1, .dat (.sl (.int .i64)) a0.2.2.1, .dat (.sl .bool) a0.2.2.2]), (1, .box [.dat (.sl (.int .i64)) y6.1.1, .dat (.sl (.int .i64)) y6.1.2]), (2, .box [.all 3, .all 4]), (3, .seq (.int .i64) y10.1.1), (4, .seq (.int .i64) y10.1.2)], 10⟩ hP hN (by kernel_rfl) (allCons (f23_ok hc34) (allCons (f24_ok hc36) allNil)) ?_
                  refine HT.seq ?_
                  obtain ⟨v37', hT39, hr⟩ := of_bind hr
                  refine HT.join (fun (v37 : Bool) => ⟨[(9, .one (.ptr 0 0)), (12, .one (.dat (.int .i64) y27.1)), (92, .one (.dat .bool v37))], [(0, .box [.all 1, .all 2]), (1, .seq (.int .i64) y27.2.1), (2, .seq (.int .i64) y27.2.2)], 3⟩) (fun v => v = v37') (fun v37 hv38 => ?_) (fun cont => ?_)
                  · subst hv38
                    rcases of_bif hr with ⟨hb40, hr⟩ | ⟨hb40, hr⟩
                    · refine HT.cond1 rfl hb40 ?_
                      refine HT.reg1 [4] [⟨none, .no⟩] ⟨[(4, .one (.dat .bool false))], [(0, .box [.all 1, .all 2]), (1, .seq (.int .i64) y27.2.1), (2, .seq (.int .i64) y27.2.2)], 3⟩ hP hN (by kernel_rfl) allNil ?_
                      have hr := of_some hr
                      subst hr
                      exact HT.ret (qThenR ⟨[.one (.dat .bool false)], [], [], by kernel_rfl, by kernel_rfl, rfl, by kernel_rfl, by kernel_rfl, trivial⟩)
                    · refine HT.cond0 rfl hb40 ?_
                      refine HT.skip (qThen ?_)
                      refine HT.reg1 [9, 12, 13] [⟨none, .no⟩] ⟨[(9, .one (.ptr 0 0)), (12, .one (.dat (.int .i64) y27.1)), (13, .one (.dat (.int .i64) (1 : Int)))], [(0, .box [.all 1, .all 2]), (1, .seq (.int .i64) y27.2.1), (2, .seq (.int .i64) y27.2.2)], 3⟩ hP hN (by kernel_rfl) allNil ?_
                      obtain ⟨y41, hc42, hr⟩ := of_bind hr
                      refine HT.reg1 [12, 13] [⟨none, .no⟩, ⟨none, .no⟩, ⟨none, .call [.imm (.st (.pair (.sl (.int .i64)) (.sl (.int .i64)))), .imm (.int .i64)] [⟨false, (.int .i64), y41⟩] []⟩, ⟨none, .no⟩] ⟨[(12, .one (.dat (.int .i64) y27.1)), (13, .one (.dat (.int .i64) y41))], [(0, .box [.all 1, .all 2]), (1, .seq (.int .i64) y27.2.1), (2, .seq (.int .i64) y27.2.2)], 3⟩ hP hN (by kernel_rfl) (allCons (f29_ok hc42) allNil) ?_
                      refine HT.seq ?_
                      refine HT.reg1 [12, 13, 97] [⟨none, .no⟩, ⟨none, .no⟩] ⟨[(12, .one (.dat (.int .i64) y27.1)), (13, .one (.dat (.int .i64) y41)), (97, .one (.dat .bool (decide (y41 < (0 : Int)))))], [(0, .box [.all 1, .all 2]), (1, .seq (.int .i64) y27.2.1), (2, .seq (.int .i64) y27.2.2)], 3⟩ hP hN (by kernel_rfl) allNil ?_
                      rcases of_bif hr with ⟨hb43, hr⟩ | ⟨hb43, hr⟩
                      · refine HT.cond1 rfl hb43 ?_
                        refine HT.reg1 [4] [⟨none, .no⟩] ⟨[(4, .one (.dat .bool false))], [(0, .box [.all 1, .all 2]), (1, .seq (.int .i64) y27.2.1), (2, .seq (.int .i64) y27.2.2)], 3⟩ hP hN (by kernel_rfl) allNil ?_
                        have hr := of_some hr
                        subst hr
                        exact HT.ret (qThenR ⟨[.one (.dat .bool false)], [], [], by kernel_rfl, by kernel_rfl, rfl, by kernel_rfl, by kernel_rfl, trivial⟩)
                      · refine HT.cond0 rfl hb43 ?_
                        refine HT.skip (qThen ?_)
                        refine HT.seq ?_
                        refine HT.reg1 [100] [⟨none, .no⟩, ⟨none, .no⟩, ⟨none, .no⟩] ⟨[(100, .one (.dat .bool (y41 != y27.1)))], [(0, .box [.all 1, .all 2]), (1, .seq (.int .i64) y27.2.1), (2, .seq (.int .i64) y27.2.2)], 3⟩ hP hN (by kernel_rfl) allNil ?_
                        rcases of_bif hr with ⟨hb44, hr⟩ | ⟨hb44, hr⟩
                        · refine HT.cond1 rfl hb44 ?_
                          refine HT.reg1 [4] [⟨none, .no⟩] ⟨[(4, .one (.dat .bool false))], [(0, .box [.all 1, .all 2]), (1, .seq (.int .i64) y27.2.1), (2, .seq (.int .i64) y27.2.2)], 3⟩ hP hN (by kernel_rfl) allNil ?_
                          have hr := of_some hr
                          subst hr
                          exact HT.ret (qThenR ⟨[.one (.dat .bool false)], [], [], by kernel_rfl, by kernel_rfl, rfl, by kernel_rfl, by kernel_rfl, trivial⟩)
                        · refine HT.cond0 rfl hb44 ?_
                          refine HT.skip (qThen ?_)
                          refine HT.reg1 [4] [⟨none, .no⟩] ⟨[(4, .one (.dat .bool true))], [(0, .box [.all 1, .all 2]), (1, .seq (.int .i64) y27.2.1), (2, .seq (.int .i64) y27.2.2)], 3⟩ hP hN (by kernel_rfl) allNil ?_
                          have hr := of_some hr
                          subst hr
                          exact HT.ret ⟨[.one (.dat .bool true)], [], [], by kernel_rfl, by kernel_rfl, rfl, by kernel_rfl, by kernel_rfl, trivial⟩
                  · obtain ⟨y45, hc46, hT39⟩ := of_bind hT39
                    rcases of_bif hT39 with ⟨hb47, hT39⟩ | ⟨hb47, hT39⟩
                    · refine HT.reg (rs := [⟨none, .no⟩, ⟨none, .no⟩, ⟨none, .call [.imm (.st (.pair (.sl (.int .i64)) (.sl (.int .i64)))), .imm (.st (.pair (.sl (.int .i64)) (.sl (.int .i64))))] [⟨false, .bool, y45⟩] []⟩, ⟨none, .no⟩, ⟨none, .no⟩, ⟨some true, .no⟩, ⟨some true, .no⟩, ⟨some true, .no⟩, ⟨none, .tv true⟩]) (st' := ⟨[(92, .one (.dat .bool true)), (91, .und), (90, .und), (89, .und), (88, .one (.dat .bool (!y45))), (87, .one (.dat .bool (!y45))), (86, .one (.dat .bool y45)), (85, .agg [.dat (.sl (.int .i64)) y6.1.1, .dat (.sl (.int .i64)) y6.1.2]), (84, .agg [.all 7, .all 8]), (6, .one (.ptr 1 0)), (7, .one (.dat .bool y6.2)), (9, .one (.ptr 2 0)), (12, .one (.dat (.int .i64) y27.1)), (14, .one (.ptr 9 0)), (15, .one (.dat .bool y35.2))], [(9, .box [.all 7, .all 8]), (9, .box [.nilS, .nilS]), (7, .seq (.int .i64) y35.1.1), (8, .seq (.int .i64) y35.1.2), (5, .seq (.int .i64) y33.2.2.1), (6, .seq .bool y33.2.2.2), (3, .seq (.int .i64) y27.2.1), (4, .seq (.int .i64) y27.2.2), (0, .box [.dat (.int .i64) a0.1, .dat (.int .i64) a0.2.1, .dat (.sl (.int .i64)) a0.2.2.1, .dat (.sl .bool) a0.2.2.2]), (1, .box [.dat (.sl (.int .i64)) y6.1.1, .dat (.sl (.int .i64)) y6.1.2]), (2, .box [.all 3, .all 4]), (3, .seq (.int .i64) y10.1.1), (4, .seq (.int .i64) y10.1.2)], 10⟩) hP hN (by kernel_rfl) (allCons (f25_ok hc46) (allCons hb47 (allCons hb47 (allCons hb47 (allCons hb47 allNil))))) (qThen ?_)
                      exact (Le.cv (s := ⟨[(2, 0), (3, 1), (4, 2)], [], [], false⟩) (own := []) (ps := [y27.1 = y27.1, true = true, y27.2.1 = y27.2.1, y27.2.2 = y27.2.2]) (st' := ⟨[(9, .one (.ptr 0 0)), (12, .one (.dat (.int .i64) y27.1)), (92, .one (.dat .bool true))], [(0, .box [.all 1, .all 2]), (1, .seq (.int .i64) y27.2.1), (2, .seq (.int .i64) y27.2.2)], 3⟩) hO (fun h => by cases h) (by kernel_rfl) ⟨rfl, rfl, rfl, rfl, trivial⟩).ht (cont true (of_some hT39))
                    · refine HT.reg (rs := [⟨none, .no⟩, ⟨none, .no⟩, ⟨none, .call [.imm (.st (.pair (.sl (.int .i64)) (.sl (.int .i64)))), .imm (.st (.pair (.sl (.int .i64)) (.sl (.int .i64))))] [⟨false, .bool, y45⟩] []⟩, ⟨none, .no⟩, ⟨none, .no⟩, ⟨some false, .no⟩, ⟨some false, .no⟩, ⟨some false, .no⟩, ⟨none, .tv false⟩]) (st' := ⟨[(92, .one (.dat .bool (y35.2 != y6.2))), (91, .one (.dat .bool (y35.2 != y6.2))), (90, .one (.dat .bool y6.2)), (89, .one (.dat .bool y35.2)), (88, .one (.dat .bool (!y45))), (87, .one (.dat .bool (!y45))), (86, .one (.dat .bool y45)), (85, .agg [.dat (.sl (.int .i64)) y6.1.1, .dat (.sl (.int .i64)) y6.1.2]), (84, .agg [.all 7, .all 8]), (6, .one (.ptr 1 0)), (7, .one (.dat .bool y6.2)), (9, .one (.ptr 2 0)), (12, .one (.dat (.int .i64) y27.1)), (14, .one (.ptr 9 0)), (15, .one (.dat .bool y35.2))], [(9, .box [.all 7, .all 8]), (9, .box [.nilS, .nilS]), (7, .seq (.int .i64) y35.1.1), (8, .seq (.int .i64) y35.1.2), (5, .seq (.int .i64) y33.2.2.1), (6, .seq .bool y33.2.2.2), (3, .seq (.int .i64) y27.2.1), (4, .seq (.int .i64) y27.2.2), (0, .box [.dat (.int .i64) a0.1, .dat (.int .i64) a0.2.1, .dat (.sl (.int .i64)) a0.2.2.1, .dat (.sl .bool) a0.2.2.2]), (1, .box [.dat (.sl (.int .i64)) y6.1.1, .dat (.sl (.int .i64)) y6.1.2]), (2, .box [.all 3, .all 4]), (3, .seq (.int .i64) y10.1.1), (4, .seq (.int .i64) y10.1.2)], 10⟩) hP hN (by kernel_rfl) (allCons (f25_ok hc46) (allCons hb47 (allCons hb47 (allCons hb47 (allCons hb47 allNil))))) (qThen ?_)
                      exact (Le.cv (s := ⟨[(2, 0), (3, 1), (4, 2)], [], [], false⟩) (own := []) (ps := [y27.1 = y27.1, (y35.2 != y6.2) = (y35.2 != y6.2), y27.2.1 = y27.2.1, y27.2.2 = y27.2.2]) (st' := ⟨[(9, .one (.ptr 0 0)), (12, .one (.dat (.int .i64) y27.1)), (92, .one (.dat .bool (y35.2 != y6.2)))], [(0, .box [.all 1, .all 2]), (1, .seq (.int .i64) y27.2.1), (2, .seq (.int .i64) y27.2.2)], 3⟩) hO (fun h => by cases h) (by kernel_rfl) ⟨rfl, rfl, rfl, rfl, trivial⟩).ht (cont (y35.2 != y6.2) (of_some hT39))
          · rcases of_bif hT25 with ⟨hb48, hT25⟩ | ⟨hb48, hT25⟩
            · refine HT.reg (rs := [⟨none, .no⟩, ⟨none, .no⟩, ⟨none, .no⟩, ⟨some true, .no⟩, ⟨some true, .no⟩, ⟨some true, .no⟩, ⟨some true, .no⟩, ⟨none, .tv true⟩, ⟨none, .no⟩, ⟨some true, .no⟩, ⟨some true, .no⟩, ⟨some true, .no⟩, ⟨none, .tv true⟩]) (st' := ⟨[(65, .one (.dat .bool true)), (64, .und), (63, .und), (62, .und), (61, .one (.dat .bool true)), (60, .one (.dat .bool true)), (59, .und), (58, .und), (57, .und), (56, .und), (55, .one (.dat .bool (decide (y21.1 < (0 : Int))))), (54, .one (.dat .bool (decide (y21.1 < (0 : Int))))), (53, .one (.dat (.int .i64) y21.1)), (1, .one (.dat (.int .i64) a1)), (2, .one (.ptr 0 0)), (6, .one (.ptr 1 0)), (7, .one (.dat .bool y6.2)), (9, .one (.ptr 3 0)), (10, .one (.dat .bool y10.2)), (11, .one (.dat (.int .i64) y21.1))], [(4, .seq (.int .i64) y21.2.2.2.1), (5, .seq .bool y21.2.2.2.2), (8, .seq (.int .i64) y16.2.2.1), (9, .seq .bool y16.2.2.2), (0, .box [.dat (.int .i64) a0.1, .dat (.int .i64) a0.2.1, .dat (.sl (.int .i64)) a0.2.2.1, .dat (.sl .bool) a0.2.2.2]), (1, .box [.dat (.sl (.int .i64)) y6.1.1, .dat (.sl (.int .i64)) y6.1.2]), (2, .box [.dat (.int .i64) y8.1, .dat (.int .i64) y8.2.1, .all 4, .all 5]), (3, .box [.all 6, .all 7]), (4, .seq (.int .i64) y8.2.2.1), (5, .seq .bool y8.2.2.2), (6, .seq (.int .i64) y10.1.1), (7, .seq (.int .i64) y10.1.2)], 10⟩) hP hN (by kernel_rfl) (allCons hb48 (allCons hb48 (allCons hb48 (allCons hb48 (allCons hb48 (allCons (rfl : true = true) (allCons (rfl : true = true) (allCons (rfl : true = true) (allCons (rfl : true = true) allNil))))))))) (qThen ?_)
              exact (Le.cv (s := ⟨[(0, 0), (1, 1), (3, 2), (6, 3), (7, 4)], [], [], false⟩) (own := []) (ps := [a1 = a1, y6.2 = y6.2, true = true, a0.1 = a0.1, a0.2.1 = a0.2.1, a0.2.2.1 = a0.2.2.1, a0.2.2.2 = a0.2.2.2, y6.1.1 = y6.1.1, y6.1.2 = y6.1.2, y10.1.1 = y10.1.1, y10.1.2 = y10.1.2]) (st' := ⟨[(1, .one (.dat (.int .i64) a1)), (2, .one (.ptr 0 0)), (6, .one (.ptr 1 0)), (7, .one (.dat .bool y6.2)), (9, .one (.ptr 2 0)), (65, .one (.dat .bool true))], [(0, .box [.dat (.int .i64) a0.1, .dat (.int .i64) a0.2.1, .dat (.sl (.int .i64)) a0.2.2.1, .dat (.sl .bool) a0.2.2.2]), (1, .box [.dat (.sl (.int .i64)) y6.1.1, .dat (.sl (.int .i64)) y6.1.2]), (2, .box [.all 3, .all 4]), (3, .seq (.int .i64) y10.1.1), (4, .seq (.int .i64) y10.1.2)], 5⟩) hO (fun h => by cases h) (by kernel_rfl) ⟨rfl, rfl, rfl, rfl, rfl, rfl, rfl, rfl, rfl, rfl, rfl, trivial⟩).ht (cont true (of_some hT25))
            · obtain ⟨y49, hc50, hT25⟩ := of_bind hT25
              rcases of_bif hT25 with ⟨hb51, hT25⟩ | ⟨hb51, hT25⟩
              · refine HT.reg (rs := [⟨none, .no⟩, ⟨none, .no⟩, ⟨none, .no⟩, ⟨some false, .no⟩, ⟨some false, .no⟩, ⟨some false, .call [.imm (.st (.pair (.sl (.int .i64)) (.sl (.int .i64)))), .imm (.st (.pair (.sl (.int .i64)) (.sl (.int .i64))))] [⟨false, .bool, y49⟩] []⟩, ⟨some false, .no⟩, ⟨none, .tv false⟩, ⟨none, .no⟩, ⟨some true, .no⟩, ⟨some true, .no⟩, ⟨some true, .no⟩, ⟨none, .tv true⟩]) (st' := ⟨[(65, .one (.dat .bool true)), (64, .und), (63, .und), (62, .und), (61, .one (.dat .bool (!y49))), (60, .one (.dat .bool (!y49))), (59, .one (.dat .bool (!y49))), (58, .one (.dat .bool y49)), (57, .agg [.dat (.sl (.int .i64)) y6.1.1, .dat (.sl (.int .i64)) y6.1.2]), (56, .agg [.all 6, .all 7]), (55, .one (.dat .bool (decide (y21.1 < (0 : Int))))), (54, .one (.dat .bool (decide (y21.1 < (0 : Int))))), (53, .one (.dat (.int .i64) y21.1)), (1, .one (.dat (.int .i64) a1)), (2, .one (.ptr 0 0)), (6, .one (.ptr 1 0)), (7, .one (.dat .bool y6.2)), (9, .one (.ptr 3 0)), (10, .one (.dat .bool y10.2)), (11, .one (.dat (.int .i64) y21.1))], [(4, .seq (.int .i64) y21.2.2.2.1), (5, .seq .bool y21.2.2.2.2), (8, .seq (.int .i64) y16.2.2.1), (9, .seq .bool y16.2.2.2), (0, .box [.dat (.int .i64) a0.1, .dat (.int .i64) a0.2.1, .dat (.sl (.int .i64)) a0.2.2.1, .dat (.sl .bool) a0.2.2.2]), (1, .box [.dat (.sl (.int .i64)) y6.1.1, .dat (.sl (.int .i64)) y6.1.2]), (2, .box [.dat (.int .i64) y8.1, .dat (.int .i64) y8.2.1, .all 4, .all 5]), (3, .box [.all 6, .all 7]), (4, .seq (.int .i64) y8.2.2.1), (5, .seq .bool y8.2.2.2), (6, .seq (.int .i64) y10.1.1), (7, .seq (.int .i64) y10.1.2)], 10⟩) hP hN (by kernel_rfl) (allCons hb48 (allCons hb48 (allCons hb48 (allCons (f25_ok hc50) (allCons hb48 (allCons hb48 (allCons hb51 (allCons hb51 (allCons hb51 (allCons hb51 allNil)))))))))) (qThen ?_)
                exact (Le.cv (s := ⟨[(0, 0), (1, 1), (3, 2), (6, 3), (7, 4)], [], [], false⟩) (own := []) (ps := [a1 = a1, y6.2 = y6.2, true = true, a0.1 = a0.1, a0.2.1 = a0.2.1, a0.2.2.1 = a0.2.2.1, a0.2.2.2 = a0.2.2.2, y6.1.1 = y6.1.1, y6.1.2 = y6.1.2, y10.1.1 = y10.1.1, y10.1.2 = y10.1.2]) (st' := ⟨[(1, .one (.dat (.int .i64) a1)), (2, .one (.ptr 0 0)), (6, .one (.ptr 1 0)), (7, .one (.dat .bool y6.2)), (9, .one (.ptr 2 0)), (65, .one (.dat .bool true))], [(0, .box [.dat (.int .i64) a0.1, .dat (.int .i64) a0.2.1, .dat (.sl (.int .i64)) a0.2.2.1, .dat (.sl .bool) a0.2.2.2]), (1, .box [.dat (.sl (.int .i64)) y6.1.1, .dat (.sl (.int .i64)) y6.1.2]), (2, .box [.all 3, .all 4]), (3, .seq (.int .i64) y10.1.1), (4, .seq (.int .i64) y10.1.2)], 5⟩) hO (fun h => by cases h) (by kernel_rfl) ⟨rfl, rfl, rfl, rfl, rfl, rfl, rfl, rfl, rfl, rfl, rfl, trivial⟩).ht (cont true (of_some hT25))
              · refine HT.reg (rs := [⟨none, .no⟩, ⟨none, .no⟩, ⟨none, .no⟩, ⟨some false, .no⟩, ⟨some false, .no⟩, ⟨some false, .call [.imm (.st (.pair (.sl (.int .i64)) (.sl (.int .i64)))), .imm (.st (.pair (.sl (.int .i64)) (.sl (.int .i64))))] [⟨false, .bool, y49⟩] []⟩, ⟨some false, .no⟩, ⟨none, .tv false⟩, ⟨none, .no⟩, ⟨some false, .no⟩, ⟨some false, .no⟩, ⟨some false, .no⟩, ⟨none, .tv false⟩]) (st' := ⟨[(65, .one (.dat .bool (y10.2 != y6.2))), (64, .one (.dat .bool (y10.2 != y6.2))), (63, .one (.dat .bool y6.2)), (62, .one (.dat .bool y10.2)), (61, .one (.dat .bool (!y49))), (60, .one (.dat .bool (!y49))), (59, .one (.dat .bool (!y49))), (58, .one (.dat .bool y49)), (57, .agg [.dat (.sl (.int .i64)) y6.1.1, .dat (.sl (.int .i64)) y6.1.2]), (56, .agg [.all 6, .all 7]), (55, .one (.dat .bool (decide (y21.1 < (0 : Int))))), (54, .one (.dat .bool (decide (y21.1 < (0 : Int))))), (53, .one (.dat (.int .i64) y21.1)), (1, .one (.dat (.int .i64) a1)), (2, .one (.ptr 0 0)), (6, .one (.ptr 1 0)), (7, .one (.dat .bool y6.2)), (9, .one (.ptr 3 0)), (10, .one (.dat .bool y10.2)), (11, .one (.dat (.int .i64) y21.1))], [(4, .seq (.int .i64) y21.2.2.2.1), (5, .seq .bool y21.2.2.2.2), (8, .seq (.int .i64) y16.2.2.1), (9, .seq .bool y16.2.2.2), (0, .box [.dat (.int .i64) a0.1, .dat (.int .i64) a0.2.1, .dat (.sl (.int .i64)) a0.2.2.1, .dat (.sl .bool) a0.2.2.2]), (1, .box [.dat (.sl (.int .i64)) y6.1.1, .dat (.sl (.int .i64)) y6.1.2]), (2, .box [.dat (.int .i64) y8.1, .dat (.int .i64) y8.2.1, .all 4, .all 5]), (3, .box [.all 6, .all 7]), (4, .seq (.int .i64) y8.2.2.1), (5, .seq .bool y8.2.2.2), (6, .seq (.int .i64) y10.1.1), (7, .seq (.int .i64) y10.1.2)], 10⟩) hP hN (by kernel_rfl) (allCons hb48 (allCons hb48 (allCons hb48 (allCons (f25_ok hc50) (allCons hb48 (allCons hb48 (allCons hb51 (allCons hb51 (allCons hb51 (allCons hb51 allNil)))))))))) (qThen ?_)
                exact (Le.cv (s := ⟨[(0, 0), (1, 1), (3, 2), (6, 3), (7, 4)], [], [], false⟩) (own := []) (ps := [a1 = a1, y6.2 = y6.2, (y10.2 != y6.2) = (y10.2 != y6.2), a0.1 = a0.1, a0.2.1 = a0.2.1, a0.2.2.1 = a0.2.2.1, a0.2.2.2 = a0.2.2.2, y6.1.1 = y6.1.1, y6.1.2 = y6.1.2, y10.1.1 = y10.1.1, y10.1.2 = y10.1.2]) (st' := ⟨[(1, .one (.dat (.int .i64) a1)), (2, .one (.ptr 0 0)), (6, .one (.ptr 1 0)), (7, .one (.dat .bool y6.2)), (9, .one (.ptr 2 0)), (65, .one (.dat .bool (y10.2 != y6.2)))], [(0, .box [.dat (.int .i64) a0.1, .dat (.int .i64) a0.2.1, .dat (.sl (.int .i64)) a0.2.2.1, .dat (.sl .bool) a0.2.2.2]), (1, .box [.dat (.sl (.int .i64)) y6.1.1, .dat (.sl (.int .i64)) y6.1.2]), (2, .box [.all 3, .all 4]), (3, .seq (.int .i64) y10.1.1), (4, .seq (.int .i64) y10.1.2)], 5⟩) hO (fun h => by cases h) (by kernel_rfl) ⟨rfl, rfl, rfl, rfl, rfl, rfl, rfl, rfl, rfl, rfl, rfl, trivial⟩).ht (cont (y10.2 != y6.2) (of_some hT25))
    · obtain ⟨y52, hc53, hT14⟩ := of_bind hT14
      rcases of_bif hT14 with ⟨hb54, hT14⟩ | ⟨hb54, hT14⟩
      · refine HT.reg (rs := [⟨none, .no⟩, ⟨none, .no⟩, ⟨none, .call [.imm (.st (.pair (.sl (.int .i64)) (.sl (.int .i64)))), .imm (.st (.pair (.sl (.int .i64)) (.sl (.int .i64))))] [⟨false, .bool, y52⟩] []⟩, ⟨none, .no⟩, ⟨none, .no⟩, ⟨some true, .no⟩, ⟨some true, .no⟩, ⟨some true, .no⟩, ⟨none, .tv true⟩]) (st' := ⟨[(44, .one (.dat .bool true)), (43, .und), (42, .und), (41, .und), (40, .one (.dat .bool (!y52))), (39, .one (.dat .bool (!y52))), (38, .one (.dat .bool y52)), (37, .agg [.dat (.sl (.int .i64)) y6.1.1, .dat (.sl (.int .i64)) y6.1.2]), (36, .agg [.all 5, .all 6]), (1, .one (.dat (.int .i64) a1)), (2, .one (.ptr 0 0)), (6, .one (.ptr 1 0)), (7, .one (.dat .bool y6.2)), (8, .one (.ptr 4 0)), (9, .one (.ptr 7 0)), (10, .one (.dat .bool y10.2))], [(7, .box [.all 5, .all 6]), (7, .box [.nilS, .nilS]), (5, .seq (.int .i64) y10.1.1), (6, .seq (.int .i64) y10.1.2), (4, .box [.dat (.int .i64) y8.1, .dat (.int .i64) y8.2.1, .all 2, .all 3]), (4, .box [.dat (.int .i64) (0 : Int), .dat (.int .i64) (0 : Int), .nilS, .nilS]), (2, .seq (.int .i64) y8.2.2.1), (3, .seq .bool y8.2.2.2), (1, .box [.dat (.sl (.int .i64)) y6.1.1, .dat (.sl (.int .i64)) y6.1.2]), (1, .box [.nilS, .nilS]), (0, .box [.dat (.int .i64) a0.1, .dat (.int .i64) a0.2.1, .dat (.sl (.int .i64)) a0.2.2.1, .dat (.sl .bool) a0.2.2.2])], 8⟩) hP hN (by kernel_rfl) (allCons (f25_ok hc53) (allCons hb54 (allCons hb54 (allCons hb54 (allCons hb54 allNil))))) (qThen ?_)
        exact (Le.cv (s := ⟨[(0, 0), (1, 1), (4, 2), (7, 3), (2, 4), (3, 5), (5, 6), (6, 7)], [], [], false⟩) (own := []) (ps := [a1 = a1, y6.2 = y6.2, y10.2 = y10.2, true = true, a0.1 = a0.1, a0.2.1 = a0.2.1, a0.2.2.1 = a0.2.2.1, a0.2.2.2 = a0.2.2.2, y6.1.1 = y6.1.1, y6.1.2 = y6.1.2, y8.1 = y8.1, y8.2.1 = y8.2.1, y8.2.2.1 = y8.2.2.1, y8.2.2.2 = y8.2.2.2, y10.1.1 = y10.1.1, y10.1.2 = y10.1.2]) (st' := ⟨[(1, .one (.dat (.int .i64) a1)), (2, .one (.ptr 0 0)), (6, .one (.ptr 1 0)), (7, .one (.dat .bool y6.2)), (8, .one (.ptr 2 0)), (9, .one (.ptr 3 0)), (10, .one (.dat .bool y10.2)), (44, .one (.dat .bool true))], [(0, .box [.dat (.int .i64) a0.1, .dat (.int .i64) a0.2.1, .dat (.sl (.int .i64)) a0.2.2.1, .dat (.sl .bool) a0.2.2.2]), (1, .box [.dat (.sl (.int .i64)) y6.1.1, .dat (.sl (.int .i64)) y6.1.2]), (2, .box [.dat (.int .i64) y8.1, .dat (.int .i64) y8.2.1, .all 4, .all 5]), (3, .box [.all 6, .all 7]), (4, .seq (.int .i64) y8.2.2.1), (5, .seq .bool y8.2.2.2), (6, .seq (.int .i64) y10.1.1), (7, .seq (.int .i64) y10.1.2)], 8⟩) hO (fun h => by cases h) (by kernel_rfl) ⟨rfl, rfl, rfl, rfl, rfl, rfl, rfl, rfl, rfl, rfl, rfl, rfl, rfl, rfl, rfl, rfl, trivial⟩).ht (cont true (of_some hT14))
      · refine HT.reg (rs := [⟨none, .no⟩, ⟨none, .no⟩, ⟨none, .call [.imm (.st (.pair (.sl (.int .i64)) (.sl (.int .i64)))), .imm (.st (.pair (.sl (.int .i64)) (.sl (.int .i64))))] [⟨false, .bool, y52⟩] []⟩, ⟨none, .no⟩, ⟨none, .no⟩, ⟨some false, .no⟩, ⟨some false, .no⟩, ⟨some false, .no⟩, ⟨none, .tv false⟩]) (st' := ⟨[(44, .one (.dat .bool (y10.2 != y6.2))), (43, .one (.dat .bool (y10.2 != y6.2))), (42, .one (.dat .bool y6.2)), (41, .one (.dat .bool y10.2)), (40, .one (.dat .bool (!y52))), (39, .one (.dat .bool (!y52))), (38, .one (.dat .bool y52)), (37, .agg [.dat (.sl (.int .i64)) y6.1.1, .dat (.sl (.int .i64)) y6.1.2]), (36, .agg [.all 5, .all 6]), (1, .one (.dat (.int .i64) a1)), (2, .one (.ptr 0 0)), (6, .one (.ptr 1 0)), (7, .one (.dat .bool y6.2)), (8, .one (.ptr 4 0)), (9, .one (.ptr 7 0)), (10, .one (.dat .bool y10.2))], [(7, .box [.all 5, .all 6]), (7, .box [.nilS, .nilS]), (5, .seq (.int .i64) y10.1.1), (6, .seq (.int .i64) y10.1.2), (4, .box [.dat (.int .i64) y8.1, .dat (.int .i64) y8.2.1, .all 2, .all 3]), (4, .box [.dat (.int .i64) (0 : Int), .dat (.int .i64) (0 : Int), .nilS, .nilS]), (2, .seq (.int .i64) y8.2.2.1), (3, .seq .bool y8.2.2.2), (1, .box [.dat (.sl (.int .i64)) y6.1.1, .dat (.sl (.int .i64)) y6.1.2]), (1, .box [.nilS, .nilS]), (0, .box [.dat (.int .i64) a0.1, .dat (.int .i64) a0.2.1, .dat (.sl (.int .i64)) a0.2.2.1, .dat (.sl .bool) a0.2.2.2])], 8⟩) hP hN (by kernel_rfl) (allCons (f25_ok hc53) (allCons hb54 (allCons hb54 (allCons hb54 (allCons hb54 allNil))))) (qThen ?_)
        exact (Le.cv (s := ⟨[(0, 0), (1, 1), (4, 2), (7, 3), (2, 4), (3, 5), (5, 6), (6, 7)], [], [], false⟩) (own := []) (ps := [a1 = a1, y6.2 = y6.2, y10.2 = y10.2, (y10.2 != y6.2) = (y10.2 != y6.2), a0.1 = a0.1, a0.2.1 = a0.2.1, a0.2.2.1 = a0.2.2.1, a0.2.2.2 = a0.2.2.2, y6.1.1 = y6.1.1, y6.1.2 = y6.1.2, y8.1 = y8.1, y8.2.1 = y8.2.1, y8.2.2.1 = y8.2.2.1, y8.2.2.2 = y8.2.2.2, y10.1.1 = y10.1.1, y10.1.2 = y10.1.2]) (st' := ⟨[(1, .one (.dat (.int .i64) a1)), (2, .one (.ptr 0 0)), (6, .one (.ptr 1 0)), (7, .one (.dat .bool y6.2)), (8, .one (.ptr 2 0)), (9, .one (.ptr 3 0)), (10, .one (.dat .bool y10.2)), (44, .one (.dat .bool (y10.2 != y6.2)))], [(0, .box [.dat (.int .i64) a0.1, .dat (.int .i64) a0.2.1, .dat (.sl (.int .i64)) a0.2.2.1, .dat (.sl .bool) a0.2.2.2]), (1, .box [.dat (.sl (.int .i64)) y6.1.1, .dat (.sl (.int .i64)) y6.1.2]), (2, .box [.dat (.int .i64) y8.1, .dat (.int .i64) y8.2.1, .all 4, .all 5]), (3, .box [.all 6, .all 7]), (4, .seq (.int .i64) y8.2.2.1), (5, .seq .bool y8.2.2.2), (6, .seq (.int .i64) y10.1.1), (7, .seq (.int .i64) y10.1.2)], 8⟩) hO (fun h => by cases h) (by kernel_rfl) ⟨rfl, rfl, rfl, rfl, rfl, rfl, rfl, rfl, rfl, rfl, rfl, rfl, rfl, rfl, rfl, rfl, trivial⟩).ht (cont (y10.2 != y6.2) (of_some hT14))

end Go.Proofs
