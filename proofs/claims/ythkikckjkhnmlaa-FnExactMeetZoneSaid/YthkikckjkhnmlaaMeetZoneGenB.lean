import Derived.Test.YthkikckjkhnmlaaMeetZoneGenA
import Derived.Test.YthkikckjkhnmlaaProg
set_option linter.unusedVariables false
set_option linter.unusedSimpArgs false
/-
  Functions as plain functions, and their contracts. Printed by a program.
-/
namespace Go.Proofs
open Go.Ide

noncomputable def impl_MeetZone_B1 (a0 : Int × List Int) (a1 : Int × List Int) (s5 : Int × List Int) : Option ((Int × List Int) ⊕ (List Int)) :=
  bif (decide (s5.1 < (lenI a0.2))) then
    guardP ((0 : Int) ≤ s5.1 ∧ s5.1 < lenI a0.2) (
      guardP ((0 : Int) ≤ s5.1 ∧ s5.1 < lenI a1.2) (
        guardP (List.length s5.2 + List.length ([(if (List.getD a1.2 (Int.toNat s5.1) (0 : Int)) < (List.getD a0.2 (Int.toNat s5.1) (0 : Int)) then (List.getD a1.2 (Int.toNat s5.1) (0 : Int)) else (List.getD a0.2 (Int.toNat s5.1) (0 : Int)))] : List Int) ≤ appMax) (
          some (.inl ((wadd .i64 s5.1 (1 : Int)), (s5.2 ++ ([(if (List.getD a1.2 (Int.toNat s5.1) (0 : Int)) < (List.getD a0.2 (Int.toNat s5.1) (0 : Int)) then (List.getD a1.2 (Int.toNat s5.1) (0 : Int)) else (List.getD a0.2 (Int.toNat s5.1) (0 : Int)))] : List Int)))))))
  else
    some (.inr s5.2)

noncomputable def impl_MeetZone (a0 : Int × List Int) (a1 : Int × List Int) : Option ((Int × List Int) × Bool) :=
  (show Option (Bool) from
    (impl_ValidZone (a0.1, a0.2)).bind fun y18 =>
    bif (!y18) then
      some true
    else
      (impl_ValidZone (a1.1, a1.2)).bind fun y21 =>
      bif (!y21) then
        some true
      else
        some (a0.1 != a1.1)).bind fun v1 =>
  bif v1 then
    some (((0 : Int), ([] : List Int)), false)
  else
    (rounds (impl_MeetZone_B1 a0 a1) ((0 : Int), ([] : List Int))).bind fun r7 =>
    (impl_TightZone (a0.1, r7)).bind fun y8 =>
    some ((y8.1.1, y8.1.2), y8.2)

theorem f19_ok {a0 : Int × List Int} {a1 : Int × List Int} {r : (Int × List Int) × Bool} (hr : impl_MeetZone a0 a1 = some r) : CallOK Try.prog 19 [.imm (.st (.pair (.int .i64) (.sl (.int .i64)))) a0, .imm (.st (.pair (.int .i64) (.sl (.int .i64)))) a1] [⟨true, (.st (.pair (.int .i64) (.sl (.int .i64)))), r.1⟩, ⟨false, .bool, r.2⟩] [] := by
  unfold impl_MeetZone at hr
  refine CallOK.of_body (ts := [(true, (.st (.pair (.int .i64) (.sl (.int .i64))))), (false, .bool)]) Try.func19 rfl (by kernel_rfl) (Nat.le_of_ble_eq_true (by kernel_rfl)) fun cx hP hN hO hF => ?_
  have hO : cx.own.map Prod.fst = [] := hO
  show HT cx ⟨[(0, .agg [.dat (.int .i64) a0.1, .dat (.sl (.int .i64)) a0.2]), (1, .agg [.dat (.int .i64) a1.1, .dat (.sl (.int .i64)) a1.2])], [], 0⟩ _ _
  refine HT.reg1 [2, 3, 4] [⟨none, .no⟩, ⟨none, .no⟩, ⟨none, .no⟩, ⟨none, .no⟩] ⟨[(2, .one (.ptr 0 0)), (3, .one (.ptr 1 0)), (4, .one (.ptr 2 0))], [(2, .box [.dat (.int .i64) (0 : Int), .nilS]), (1, .box [.dat (.int .i64) a1.1, .dat (.sl (.int .i64)) a1.2]), (0, .box [.dat (.int .i64) a0.1, .dat (.sl (.int .i64)) a0.2])], 3⟩ hP hN (by kernel_rfl) allNil ?_
  refine HT.seq ?_
  obtain ⟨v1', hT3, hr⟩ := of_bind hr
  refine HT.join (fun (v1 : Bool) => ⟨[(2, .one (.ptr 0 0)), (3, .one (.ptr 1 0)), (4, .one (.ptr 2 0)), (23, .one (.dat .bool v1))], [(0, .box [.dat (.int .i64) a0.1, .dat (.sl (.int .i64)) a0.2]), (1, .box [.dat (.int .i64) a1.1, .dat (.sl (.int .i64)) a1.2]), (2, .box [.dat (.int .i64) (0 : Int), .nilS])], 3⟩) (fun v => v = v1') (fun v1 hv2 => ?_) (fun cont => ?_)
  · subst hv2
    rcases of_bif hr with ⟨hb4, hr⟩ | ⟨hb4, hr⟩
    · refine HT.cond1 rfl hb4 ?_
      refine HT.reg1 [4, 5] [⟨none, .no⟩, ⟨none, .no⟩, ⟨none, .no⟩] ⟨[(4, .one (.ptr 2 0)), (5, .one (.dat .bool false))], [(2, .box [.dat (.int .i64) (0 : Int), .nilS]), (0, .box [.dat (.int .i64) a0.1, .dat (.sl (.int .i64)) a0.2]), (1, .box [.dat (.int .i64) a1.1, .dat (.sl (.int .i64)) a1.2]), (2, .box [.dat (.int .i64) (0 : Int), .nilS])], 3⟩ hP hN (by kernel_rfl) allNil ?_
      have hr := of_some hr
      subst hr
      exact HT.ret (qThenR ⟨[.agg [.dat (.int .i64) (0 : Int), .nilS], .one (.dat .bool false)], [], [], by kernel_rfl, by kernel_rfl, rfl, (.inl rfl), by kernel_rfl, trivial⟩)
    · refine HT.cond0 rfl hb4 ?_
      refine HT.skip (qThen ?_)
      refine HT.reg1 [2, 3, 4, 6] [⟨none, .no⟩, ⟨none, .no⟩, ⟨none, .no⟩, ⟨none, .no⟩, ⟨none, .no⟩] ⟨[(2, .one (.ptr 0 0)), (3, .one (.ptr 1 0)), (4, .one (.ptr 2 0)), (6, .one (.ptr 3 0))], [(3, .box [.dat (.int .i64) a0.1, .nilS]), (3, .box [.dat (.int .i64) (0 : Int), .nilS]), (0, .box [.dat (.int .i64) a0.1, .dat (.sl (.int .i64)) a0.2]), (1, .box [.dat (.int .i64) a1.1, .dat (.sl (.int .i64)) a1.2]), (2, .box [.dat (.int .i64) (0 : Int), .nilS])], 4⟩ hP hN (by kernel_rfl) allNil ?_
      refine HT.seq ?_
      refine HT.reg1 [3, 4, 6, 29, 30, 31] [⟨none, .no⟩, ⟨none, .no⟩, ⟨none, .no⟩, ⟨none, .no⟩] ⟨[(3, .one (.ptr 1 0)), (4, .one (.ptr 2 0)), (6, .one (.ptr 3 0)), (29, .one (.dat (.sl (.int .i64)) a0.2)), (30, .one (.dat (.int .i64) (lenI a0.2))), (31, .one (.dat (.int .i64) (0 : Int)))], [(3, .box [.dat (.int .i64) a0.1, .nilS]), (3, .box [.dat (.int .i64) (0 : Int), .nilS]), (0, .box [.dat (.int .i64) a0.1, .dat (.sl (.int .i64)) a0.2]), (1, .box [.dat (.int .i64) a1.1, .dat (.sl (.int .i64)) a1.2]), (2, .box [.dat (.int .i64) (0 : Int), .nilS])], 4⟩ hP hN (by kernel_rfl) allNil ?_
      refine HT.block ?_
      obtain ⟨r6, hL17, hr⟩ := of_bind hr
      refine (Le.cv (s := ⟨[(1, 0), (2, 1), (3, 2)], [3], [], false⟩) (own := []) (ps := [a0.2 = a0.2, (lenI a0.2) = (lenI a0.2), (0 : Int) = (0 : Int), a1.1 = a1.1, a1.2 = a1.2, (0 : Int) = (0 : Int), a0.1 = a0.1, ([] : List Int) = []]) (st' := ⟨[(3, .one (.ptr 0 0)), (4, .one (.ptr 1 0)), (6, .one (.ptr 2 0)), (29, .one (.dat (.sl (.int .i64)) a0.2)), (30, .one (.dat (.int .i64) (lenI a0.2))), (31, .one (.dat (.int .i64) (0 : Int)))], [(0, .box [.dat (.int .i64) a1.1, .dat (.sl (.int .i64)) a1.2]), (1, .box [.dat (.int .i64) (0 : Int), .nilS]), (2, .box [.dat (.int .i64) a0.1, .all 3]), (3, .seq (.int .i64) ([] : List Int))], 4⟩) hO (fun h => by cases h) (by kernel_rfl) ⟨rfl, rfl, rfl, rfl, rfl, rfl, rfl, rfl, trivial⟩).ht ?_
      refine HT.loopE (s := ((0 : Int), ([] : List Int))) (fun (s5 : Int × List Int) => ⟨[(3, .one (.ptr 0 0)), (4, .one (.ptr 1 0)), (6, .one (.ptr 2 0)), (29, .one (.dat (.sl (.int .i64)) a0.2)), (30, .one (.dat (.int .i64) (lenI a0.2))), (31, .one (.dat (.int .i64) s5.1))], [(0, .box [.dat (.int .i64) a1.1, .dat (.sl (.int .i64)) a1.2]), (1, .box [.dat (.int .i64) (0 : Int), .nilS]), (2, .box [.dat (.int .i64) a0.1, .all 3]), (3, .seq (.int .i64) s5.2)], 4⟩) (fun (r7 : List Int) => (.exit 0, ⟨[(4, .one (.ptr 0 0)), (6, .one (.ptr 1 0))], [(0, .box [.dat (.int .i64) (0 : Int), .nilS]), (1, .box [.dat (.int .i64) a0.1, .all 2]), (2, .seq (.int .i64) r7)], 3⟩)) hL17 ?_ (fun s5 x10 hx11 hk12 => ?_)
      · refine (qBlockX (qThen ?_))
        obtain ⟨y8, hc9, hr⟩ := of_bind hr
        refine HT.reg1 [4, 5] [⟨none, .no⟩, ⟨none, .call [.imm (.st (.pair (.int .i64) (.sl (.int .i64))))] [⟨true, (.st (.pair (.int .i64) (.sl (.int .i64)))), y8.1⟩, ⟨false, .bool, y8.2⟩] []⟩, ⟨none, .no⟩, ⟨none, .no⟩, ⟨none, .no⟩, ⟨none, .no⟩] ⟨[(4, .one (.ptr 0 0)), (5, .one (.dat .bool y8.2))], [(0, .box [.dat (.int .i64) y8.1.1, .all 3]), (3, .seq (.int .i64) y8.1.2), (0, .box [.dat (.int .i64) (0 : Int), .nilS]), (1, .box [.dat (.int .i64) a0.1, .all 2]), (2, .seq (.int .i64) r6)], 4⟩ hP hN (by kernel_rfl) (allCons (f53_ok hc9) allNil) ?_
        have hr := of_some hr
        subst hr
        exact HT.ret ⟨[.agg [.dat (.int .i64) y8.1.1, .all 3], .one (.dat .bool y8.2)], [3], [], by kernel_rfl, by kernel_rfl, rfl, (.inl rfl), by kernel_rfl, trivial⟩
      · refine HT.reg1 [3, 4, 6, 29, 30, 31, 32] [⟨none, .no⟩] ⟨[(3, .one (.ptr 0 0)), (4, .one (.ptr 1 0)), (6, .one (.ptr 2 0)), (29, .one (.dat (.sl (.int .i64)) a0.2)), (30, .one (.dat (.int .i64) (lenI a0.2))), (31, .one (.dat (.int .i64) s5.1)), (32, .one (.dat .bool (decide (s5.1 < (lenI a0.2)))))], [(0, .box [.dat (.int .i64) a1.1, .dat (.sl (.int .i64)) a1.2]), (1, .box [.dat (.int .i64) (0 : Int), .nilS]), (2, .box [.dat (.int .i64) a0.1, .all 3]), (3, .seq (.int .i64) s5.2)], 4⟩ hP hN (by kernel_rfl) allNil ?_
        refine HT.seq ?_
        rcases of_bif hx11 with ⟨hb13, hx11⟩ | ⟨hb13, hx11⟩
        · refine HT.cond1 rfl hb13 ?_
          refine HT.skip (qThen ?_)
          refine HT.seq ?_
          refine HT.block ?_
          obtain ⟨hg14, hx11⟩ := of_guard hx11
          refine HT.reg1 [3, 4, 6, 7, 8, 29, 30, 31] [⟨none, .no⟩, ⟨none, .no⟩, ⟨none, .no⟩, ⟨none, .no⟩, ⟨none, .no⟩] ⟨[(3, .one (.ptr 0 0)), (4, .one (.ptr 1 0)), (6, .one (.ptr 2 0)), (7, .one (.dat (.int .i64) s5.1)), (8, .one (.dat (.int .i64) (List.getD a0.2 (Int.toNat s5.1) (0 : Int)))), (29, .one (.dat (.sl (.int .i64)) a0.2)), (30, .one (.dat (.int .i64) (lenI a0.2))), (31, .one (.dat (.int .i64) s5.1))], [(0, .box [.dat (.int .i64) a1.1, .dat (.sl (.int .i64)) a1.2]), (1, .box [.dat (.int .i64) (0 : Int), .nilS]), (2, .box [.dat (.int .i64) a0.1, .all 3]), (3, .seq (.int .i64) s5.2)], 4⟩ hP hN (by kernel_rfl) (allCons hg14 allNil) ?_
          obtain ⟨hg15, hx11⟩ := of_guard hx11
          obtain ⟨hg16, hx11⟩ := of_guard hx11
          refine drawS (h := 10) (hrs := [⟨⟨none, .no⟩, []⟩, ⟨⟨none, .no⟩, [0]⟩, ⟨⟨none, .no⟩, []⟩, ⟨⟨none, .no⟩, []⟩, ⟨⟨none, .no⟩, [3]⟩, ⟨⟨none, .no⟩, []⟩, ⟨⟨none, .no⟩, [3, 4, 5]⟩, ⟨⟨none, .no⟩, [3, 4, 5, 6]⟩, ⟨⟨none, .no⟩, [2, 3, 4, 5, 6, 7]⟩, ⟨⟨none, .ty (.int .i64)⟩, [2, 3, 4, 5, 6, 7, 8]⟩]) (tds := [[0, 1, 2, 3, 4, 5, 6, 7, 8, 9], [0, 1, 2, 3, 4, 5, 6, 7, 8, 9, 10], [0, 1, 2, 3, 4, 5, 6, 7, 8, 9, 10, 11]]) (rs := [⟨none, .ty (.int .i64)⟩, ⟨none, .no⟩, ⟨none, .no⟩]) (st' := ⟨[(47, .one (.ptr 2 1)), (46, .one (.all 5)), (45, .one (.all 4)), (44, .one (.dat (.int .i64) (if (List.getD a1.2 (Int.toNat s5.1) (0 : Int)) < (List.getD a0.2 (Int.toNat s5.1) (0 : Int)) then (List.getD a1.2 (Int.toNat s5.1) (0 : Int)) else (List.getD a0.2 (Int.toNat s5.1) (0 : Int))))), (43, .one (.dat (.int .i64) (List.getD a1.2 (Int.toNat s5.1) (0 : Int)))), (42, .one (.ip (.int .i64) (List.getD a1.2 (Int.toNat s5.1) (0 : Int)) 0)), (41, .one (.dat (.int .i64) s5.1)), (40, .one (.dat (.sl (.int .i64)) a1.2)), (39, .one (.ptr 0 1)), (38, .one (.dat (.int .i64) (List.getD a0.2 (Int.toNat s5.1) (0 : Int)))), (37, .one (.all 3)), (36, .one (.ptr 2 1)), (3, .one (.ptr 0 0)), (4, .one (.ptr 1 0)), (6, .one (.ptr 2 0)), (7, .one (.dat (.int .i64) s5.1)), (8, .one (.dat (.int .i64) (List.getD a0.2 (Int.toNat s5.1) (0 : Int)))), (29, .one (.dat (.sl (.int .i64)) a0.2)), (30, .one (.dat (.int .i64) (lenI a0.2))), (31, .one (.dat (.int .i64) s5.1))], [(2, .box [.dat (.int .i64) a0.1, .all 5]), (3, .gone), (5, .seq (.int .i64) (s5.2 ++ ([(if (List.getD a1.2 (Int.toNat s5.1) (0 : Int)) < (List.getD a0.2 (Int.toNat s5.1) (0 : Int)) then (List.getD a1.2 (Int.toNat s5.1) (0 : Int)) else (List.getD a0.2 (Int.toNat s5.1) (0 : Int)))] : List Int))), (4, .seq (.int .i64) ([(if (List.getD a1.2 (Int.toNat s5.1) (0 : Int)) < (List.getD a0.2 (Int.toNat s5.1) (0 : Int)) then (List.getD a1.2 (Int.toNat s5.1) (0 : Int)) else (List.getD a0.2 (Int.toNat s5.1) (0 : Int)))] : List Int)), (0, .box [.dat (.int .i64) a1.1, .dat (.sl (.int .i64)) a1.2]), (1, .box [.dat (.int .i64) (0 : Int), .nilS]), (2, .box [.dat (.int .i64) a0.1, .all 3]), (3, .seq (.int .i64) s5.2)], 6⟩) hP hN (by kernel_rfl) (by kernel_rfl) (allCons hg15 (allCons hg16 allNil)) (qBlock (qThen ?_))
          have hx11 := of_some hx11
          subst hx11
          refine HT.reg (rs := [⟨none, .no⟩, ⟨none, .no⟩]) (st' := ⟨[(31, .one (.dat (.int .i64) (wadd .i64 s5.1 (1 : Int)))), (48, .one (.dat (.int .i64) (wadd .i64 s5.1 (1 : Int)))), (47, .one (.ptr 2 1)), (46, .one (.all 5)), (45, .one (.all 4)), (44, .one (.dat (.int .i64) (if (List.getD a1.2 (Int.toNat s5.1) (0 : Int)) < (List.getD a0.2 (Int.toNat s5.1) (0 : Int)) then (List.getD a1.2 (Int.toNat s5.1) (0 : Int)) else (List.getD a0.2 (Int.toNat s5.1) (0 : Int))))), (43, .one (.dat (.int .i64) (List.getD a1.2 (Int.toNat s5.1) (0 : Int)))), (42, .one (.ip (.int .i64) (List.getD a1.2 (Int.toNat s5.1) (0 : Int)) 0)), (41, .one (.dat (.int .i64) s5.1)), (40, .one (.dat (.sl (.int .i64)) a1.2)), (39, .one (.ptr 0 1)), (38, .one (.dat (.int .i64) (List.getD a0.2 (Int.toNat s5.1) (0 : Int)))), (37, .one (.all 3)), (36, .one (.ptr 2 1)), (3, .one (.ptr 0 0)), (4, .one (.ptr 1 0)), (6, .one (.ptr 2 0)), (7, .one (.dat (.int .i64) s5.1)), (8, .one (.dat (.int .i64) (List.getD a0.2 (Int.toNat s5.1) (0 : Int)))), (29, .one (.dat (.sl (.int .i64)) a0.2)), (30, .one (.dat (.int .i64) (lenI a0.2))), (31, .one (.dat (.int .i64) s5.1))], [(2, .box [.dat (.int .i64) a0.1, .all 5]), (3, .gone), (5, .seq (.int .i64) (s5.2 ++ ([(if (List.getD a1.2 (Int.toNat s5.1) (0 : Int)) < (List.getD a0.2 (Int.toNat s5.1) (0 : Int)) then (List.getD a1.2 (Int.toNat s5.1) (0 : Int)) else (List.getD a0.2 (Int.toNat s5.1) (0 : Int)))] : List Int))), (4, .seq (.int .i64) ([(if (List.getD a1.2 (Int.toNat s5.1) (0 : Int)) < (List.getD a0.2 (Int.toNat s5.1) (0 : Int)) then (List.getD a1.2 (Int.toNat s5.1) (0 : Int)) else (List.getD a0.2 (Int.toNat s5.1) (0 : Int)))] : List Int)), (0, .box [.dat (.int .i64) a1.1, .dat (.sl (.int .i64)) a1.2]), (1, .box [.dat (.int .i64) (0 : Int), .nilS]), (2, .box [.dat (.int .i64) a0.1, .all 3]), (3, .seq (.int .i64) s5.2)], 6⟩) hP hN (by kernel_rfl) allNil (qLoopN ⟨((wadd .i64 s5.1 (1 : Int)), (s5.2 ++ ([(if (List.getD a1.2 (Int.toNat s5.1) (0 : Int)) < (List.getD a0.2 (Int.toNat s5.1) (0 : Int)) then (List.getD a1.2 (Int.toNat s5.1) (0 : Int)) else (List.getD a0.2 (Int.toNat s5.1) (0 : Int)))] : List Int))), rfl, Le.cv (s := ⟨[(0, 0), (1, 1), (2, 2), (5, 3)], [], [], false⟩) (own := []) (ps := [a0.2 = a0.2, (lenI a0.2) = (lenI a0.2), (wadd .i64 s5.1 (1 : Int)) = (wadd .i64 s5.1 (1 : Int)), a1.1 = a1.1, a1.2 = a1.2, (0 : Int) = (0 : Int), a0.1 = a0.1, (s5.2 ++ ([(if (List.getD a1.2 (Int.toNat s5.1) (0 : Int)) < (List.getD a0.2 (Int.toNat s5.1) (0 : Int)) then (List.getD a1.2 (Int.toNat s5.1) (0 : Int)) else (List.getD a0.2 (Int.toNat s5.1) (0 : Int)))] : List Int)) = (s5.2 ++ ([(if (List.getD a1.2 (Int.toNat s5.1) (0 : Int)) < (List.getD a0.2 (Int.toNat s5.1) (0 : Int)) then (List.getD a1.2 (Int.toNat s5.1) (0 : Int)) else (List.getD a0.2 (Int.toNat s5.1) (0 : Int)))] : List Int))]) (st' := ⟨[(3, .one (.ptr 0 0)), (4, .one (.ptr 1 0)), (6, .one (.ptr 2 0)), (29, .one (.dat (.sl (.int .i64)) a0.2)), (30, .one (.dat (.int .i64) (lenI a0.2))), (31, .one (.dat (.int .i64) (wadd .i64 s5.1 (1 : Int))))], [(0, .box [.dat (.int .i64) a1.1, .dat (.sl (.int .i64)) a1.2]), (1, .box [.dat (.int .i64) (0 : Int), .nilS]), (2, .box [.dat (.int .i64) a0.1, .all 3]), (3, .seq (.int .i64) (s5.2 ++ ([(if (List.getD a1.2 (Int.toNat s5.1) (0 : Int)) < (List.getD a0.2 (Int.toNat s5.1) (0 : Int)) then (List.getD a1.2 (Int.toNat s5.1) (0 : Int)) else (List.getD a0.2 (Int.toNat s5.1) (0 : Int)))] : List Int)))], 4⟩) hO (fun h => by cases h) (by kernel_rfl) ⟨rfl, rfl, rfl, rfl, rfl, rfl, rfl, rfl, trivial⟩⟩)
        · refine HT.cond0 rfl hb13 ?_
          have hx11 := of_some hx11
          subst hx11
          refine (Le.cv (s := ⟨[(1, 0), (2, 1), (3, 2)], [], [], false⟩) (own := []) (ps := [(0 : Int) = (0 : Int), a0.1 = a0.1, s5.2 = s5.2]) (st' := ⟨[(4, .one (.ptr 0 0)), (6, .one (.ptr 1 0))], [(0, .box [.dat (.int .i64) (0 : Int), .nilS]), (1, .box [.dat (.int .i64) a0.1, .all 2]), (2, .seq (.int .i64) s5.2)], 3⟩) hO (fun h => by cases h) (by kernel_rfl) ⟨rfl, rfl, rfl, trivial⟩).ht ?_
          exact HT.exit (qThenE (qLoopE (hk12 s5.2 rfl)))
  · obtain ⟨y18, hc19, hT3⟩ := of_bind hT3
    rcases of_bif hT3 with ⟨hb20, hT3⟩ | ⟨hb20, hT3⟩
    · refine HT.reg (rs := [⟨none, .no⟩, ⟨none, .call [.imm (.st (.pair (.int .i64) (.sl (.int .i64))))] [⟨false, .bool, y18⟩] []⟩, ⟨none, .no⟩, ⟨none, .no⟩, ⟨some true, .no⟩, ⟨some true, .no⟩, ⟨some true, .no⟩, ⟨none, .tv true⟩, ⟨none, .no⟩, ⟨some true, .no⟩, ⟨some true, .no⟩, ⟨some true, .no⟩, ⟨some true, .no⟩, ⟨some true, .no⟩, ⟨none, .tv true⟩]) (st' := ⟨[(23, .one (.dat .bool true)), (22, .und), (21, .und), (20, .und), (19, .und), (18, .und), (17, .one (.dat .bool true)), (16, .one (.dat .bool true)), (15, .und), (14, .und), (13, .und), (12, .one (.dat .bool (!y18))), (11, .one (.dat .bool (!y18))), (10, .one (.dat .bool y18)), (9, .agg [.dat (.int .i64) a0.1, .dat (.sl (.int .i64)) a0.2]), (2, .one (.ptr 0 0)), (3, .one (.ptr 1 0)), (4, .one (.ptr 2 0))], [(2, .box [.dat (.int .i64) (0 : Int), .nilS]), (1, .box [.dat (.int .i64) a1.1, .dat (.sl (.int .i64)) a1.2]), (0, .box [.dat (.int .i64) a0.1, .dat (.sl (.int .i64)) a0.2])], 3⟩) hP hN (by kernel_rfl) (allCons (f52_ok hc19) (allCons hb20 (allCons hb20 (allCons hb20 (allCons hb20 (allCons (rfl : true = true) (allCons (rfl : true = true) (allCons (rfl : true = true) (allCons (rfl : true = true) (allCons (rfl : true = true) (allCons (rfl : true = true) allNil))))))))))) (qThen ?_)
      exact (Le.cv (s := ⟨[(0, 0), (1, 1), (2, 2)], [], [], false⟩) (own := []) (ps := [true = true, a0.1 = a0.1, a0.2 = a0.2, a1.1 = a1.1, a1.2 = a1.2, (0 : Int) = (0 : Int)]) (st' := ⟨[(2, .one (.ptr 0 0)), (3, .one (.ptr 1 0)), (4, .one (.ptr 2 0)), (23, .one (.dat .bool true))], [(0, .box [.dat (.int .i64) a0.1, .dat (.sl (.int .i64)) a0.2]), (1, .box [.dat (.int .i64) a1.1, .dat (.sl (.int .i64)) a1.2]), (2, .box [.dat (.int .i64) (0 : Int), .nilS])], 3⟩) hO (fun h => by cases h) (by kernel_rfl) ⟨rfl, rfl, rfl, rfl, rfl, rfl, trivial⟩).ht (cont true (of_some hT3))
    · obtain ⟨y21, hc22, hT3⟩ := of_bind hT3
      rcases of_bif hT3 with ⟨hb23, hT3⟩ | ⟨hb23, hT3⟩
      · refine HT.reg (rs := [⟨none, .no⟩, ⟨none, .call [.imm (.st (.pair (.int .i64) (.sl (.int .i64))))] [⟨false, .bool, y18⟩] []⟩, ⟨none, .no⟩, ⟨none, .no⟩, ⟨some false, .no⟩, ⟨some false, .call [.imm (.st (.pair (.int .i64) (.sl (.int .i64))))] [⟨false, .bool, y21⟩] []⟩, ⟨some false, .no⟩, ⟨none, .tv false⟩, ⟨none, .no⟩, ⟨some true, .no⟩, ⟨some true, .no⟩, ⟨some true, .no⟩, ⟨some true, .no⟩, ⟨some true, .no⟩, ⟨none, .tv true⟩]) (st' := ⟨[(23, .one (.dat .bool true)), (22, .und), (21, .und), (20, .und), (19, .und), (18, .und), (17, .one (.dat .bool (!y21))), (16, .one (.dat .bool (!y21))), (15, .one (.dat .bool (!y21))), (14, .one (.dat .bool y21)), (13, .agg [.dat (.int .i64) a1.1, .dat (.sl (.int .i64)) a1.2]), (12, .one (.dat .bool (!y18))), (11, .one (.dat .bool (!y18))), (10, .one (.dat .bool y18)), (9, .agg [.dat (.int .i64) a0.1, .dat (.sl (.int .i64)) a0.2]), (2, .one (.ptr 0 0)), (3, .one (.ptr 1 0)), (4, .one (.ptr 2 0))], [(2, .box [.dat (.int .i64) (0 : Int), .nilS]), (1, .box [.dat (.int .i64) a1.1, .dat (.sl (.int .i64)) a1.2]), (0, .box [.dat (.int .i64) a0.1, .dat (.sl (.int .i64)) a0.2])], 3⟩) hP hN (by kernel_rfl) (allCons (f52_ok hc19) (allCons hb20 (allCons hb20 (allCons (f52_ok hc22) (allCons hb20 (allCons hb20 (allCons hb23 (allCons hb23 (allCons hb23 (allCons hb23 (allCons hb23 (allCons hb23 allNil)))))))))))) (qThen ?_)
        exact (Le.cv (s := ⟨[(0, 0), (1, 1), (2, 2)], [], [], false⟩) (own := []) (ps := [true = true, a0.1 = a0.1, a0.2 = a0.2, a1.1 = a1.1, a1.2 = a1.2, (0 : Int) = (0 : Int)]) (st' := ⟨[(2, .one (.ptr 0 0)), (3, .one (.ptr 1 0)), (4, .one (.ptr 2 0)), (23, .one (.dat .bool true))], [(0, .box [.dat (.int .i64) a0.1, .dat (.sl (.int .i64)) a0.2]), (1, .box [.dat (.int .i64) a1.1, .dat (.sl (.int .i64)) a1.2]), (2, .box [.dat (.int .i64) (0 : Int), .nilS])], 3⟩) hO (fun h => by cases h) (by kernel_rfl) ⟨rfl, rfl, rfl, rfl, rfl, rfl, trivial⟩).ht (cont true (of_some hT3))
      · refine HT.reg (rs := [⟨none, .no⟩, ⟨none, .call [.imm (.st (.pair (.int .i64) (.sl (.int .i64))))] [⟨false, .bool, y18⟩] []⟩, ⟨none, .no⟩, ⟨none, .no⟩, ⟨some false, .no⟩, ⟨some false, .call [.imm (.st (.pair (.int .i64) (.sl (.int .i64))))] [⟨false, .bool, y21⟩] []⟩, ⟨some false, .no⟩, ⟨none, .tv false⟩, ⟨none, .no⟩, ⟨some false, .no⟩, ⟨some false, .no⟩, ⟨some false, .no⟩, ⟨some false, .no⟩, ⟨some false, .no⟩, ⟨none, .tv false⟩]) (st' := ⟨[(23, .one (.dat .bool (a0.1 != a1.1))), (22, .one (.dat .bool (a0.1 != a1.1))), (21, .one (.dat (.int .i64) a1.1)), (20, .one (.ptr 1 0)), (19, .one (.dat (.int .i64) a0.1)), (18, .one (.ptr 0 0)), (17, .one (.dat .bool (!y21))), (16, .one (.dat .bool (!y21))), (15, .one (.dat .bool (!y21))), (14, .one (.dat .bool y21)), (13, .agg [.dat (.int .i64) a1.1, .dat (.sl (.int .i64)) a1.2]), (12, .one (.dat .bool (!y18))), (11, .one (.dat .bool (!y18))), (10, .one (.dat .bool y18)), (9, .agg [.dat (.int .i64) a0.1, .dat (.sl (.int .i64)) a0.2]), (2, .one (.ptr 0 0)), (3, .one (.ptr 1 0)), (4, .one (.ptr 2 0))], [(2, .box [.dat (.int .i64) (0 : Int), .nilS]), (1, .box [.dat (.int .i64) a1.1, .dat (.sl (.int .i64)) a1.2]), (0, .box [.dat (.int .i64) a0.1, .dat (.sl (.int .i64)) a0.2])], 3⟩) hP hN (by kernel_rfl) (allCons (f52_ok hc19) (allCons hb20 (allCons hb20 (allCons (f52_ok hc22) (allCons hb20 (allCons hb20 (allCons hb23 (allCons hb23 (allCons hb23 (allCons hb23 (allCons hb23 (allCons hb23 allNil)))))))))))) (qThen ?_)
        exact (Le.cv (s := ⟨[(0, 0), (1, 1), (2, 2)], [], [], false⟩) (own := []) (ps := [(a0.1 != a1.1) = (a0.1 != a1.1), a0.1 = a0.1, a0.2 = a0.2, a1.1 = a1.1, a1.2 = a1.2, (0 : Int) = (0 : Int)]) (st' := ⟨[(2, .one (.ptr 0 0)), (3, .one (.ptr 1 0)), (4, .one (.ptr 2 0)), (23, .one (.dat .bool (a0.1 != a1.1)))], [(0, .box [.dat (.int .i64) a0.1, .dat (.sl (.int .i64)) a0.2]), (1, .box [.dat (.int .i64) a1.1, .dat (.sl (.int .i64)) a1.2]), (2, .box [.dat (.int .i64) (0 : Int), .nilS])], 3⟩) hO (fun h => by cases h) (by kernel_rfl) ⟨rfl, rfl, rfl, rfl, rfl, rfl, trivial⟩).ht (cont (a0.1 != a1.1) (of_some hT3))

noncomputable def laws_eqInt64S_B1 (a0 : List Int) (a1 : List Int) (s2 : Int) : Option ((Int) ⊕ (Unit ⊕ Unit)) :=
  bif (decide (s2 < (lenI a0))) then
    guardP ((0 : Int) ≤ s2 ∧ s2 < lenI a0) (
      guardP ((0 : Int) ≤ s2 ∧ s2 < lenI a1) (
        bif ((List.getD a0 (Int.toNat s2) (0 : Int)) != (List.getD a1 (Int.toNat s2) (0 : Int))) then
          some (.inr (.inr ()))
        else
          some (.inl (wadd .i64 s2 (1 : Int)))))
  else
    some (.inr (.inl ()))

noncomputable def laws_eqInt64S (a0 : List Int) (a1 : List Int) : Option (Bool) :=
  bif ((lenI a0) != (lenI a1)) then
    some false
  else
    (rounds (laws_eqInt64S_B1 a0 a1) (0 : Int)).bind fun r3 => match r3 with
      | .inl r4 =>
        some true
      | .inr r5 =>
        some false

theorem f46_ok {a0 : List Int} {a1 : List Int} {r : Bool} (hr : laws_eqInt64S a0 a1 = some r) : CallOK Try.prog 46 [.imm (.sl (.int .i64)) a0, .imm (.sl (.int .i64)) a1] [⟨false, .bool, r⟩] [] := by
  unfold laws_eqInt64S at hr
  refine CallOK.of_body (ts := [(false, .bool)]) Try.func46 rfl (by kernel_rfl) (Nat.le_of_ble_eq_true (by kernel_rfl)) fun cx hP hN hO hF => ?_
  have hO : cx.own.map Prod.fst = [] := hO
  show HT cx ⟨[(0, .one (.dat (.sl (.int .i64)) a0)), (1, .one (.dat (.sl (.int .i64)) a1))], [], 0⟩ _ _
  refine HT.reg1 [0, 1] [⟨none, .no⟩] ⟨[(0, .one (.dat (.sl (.int .i64)) a0)), (1, .one (.dat (.sl (.int .i64)) a1))], [], 0⟩ hP hN (by kernel_rfl) allNil ?_
  refine HT.seq ?_
  refine HT.reg1 [0, 1, 10] [⟨none, .no⟩, ⟨none, .no⟩, ⟨none, .no⟩, ⟨none, .no⟩, ⟨none, .no⟩] ⟨[(0, .one (.dat (.sl (.int .i64)) a0)), (1, .one (.dat (.sl (.int .i64)) a1)), (10, .one (.dat .bool ((lenI a0) != (lenI a1))))], [], 0⟩ hP hN (by kernel_rfl) allNil ?_
  rcases of_bif hr with ⟨hb1, hr⟩ | ⟨hb1, hr⟩
  · refine HT.cond1 rfl hb1 ?_
    refine HT.reg1 [4] [⟨none, .no⟩] ⟨[(4, .one (.dat .bool false))], [], 0⟩ hP hN (by kernel_rfl) allNil ?_
    have hr := of_some hr
    subst hr
    exact HT.ret (qThenR ⟨[.one (.dat .bool false)], [], [], by kernel_rfl, by kernel_rfl, rfl, (.inl rfl), by kernel_rfl, trivial⟩)
  · refine HT.cond0 rfl hb1 ?_
    refine HT.skip (qThen ?_)
    refine HT.seq ?_
    refine HT.reg1 [0, 1, 5] [⟨none, .no⟩] ⟨[(0, .one (.dat (.sl (.int .i64)) a0)), (1, .one (.dat (.sl (.int .i64)) a1)), (5, .one (.dat (.int .i64) (0 : Int)))], [], 0⟩ hP hN (by kernel_rfl) allNil ?_
    refine HT.block ?_
    obtain ⟨r3, hL13, hr⟩ := of_bind hr
    refine (Le.cv (s := ⟨[], [], [], false⟩) (own := []) (ps := [a0 = a0, a1 = a1, (0 : Int) = (0 : Int)]) (st' := ⟨[(0, .one (.dat (.sl (.int .i64)) a0)), (1, .one (.dat (.sl (.int .i64)) a1)), (5, .one (.dat (.int .i64) (0 : Int)))], [], 0⟩) hO (fun h => by cases h) (by kernel_rfl) ⟨rfl, rfl, rfl, trivial⟩).ht ?_
    refine HT.loopE (s := (0 : Int)) (fun (s2 : Int) => ⟨[(0, .one (.dat (.sl (.int .i64)) a0)), (1, .one (.dat (.sl (.int .i64)) a1)), (5, .one (.dat (.int .i64) s2))], [], 0⟩) (fun (r3 : Unit ⊕ Unit) => match r3 with | .inl r4 => (.exit 0, ⟨[], [], 0⟩) | .inr r5 => (.ret, ⟨[(4, .one (.dat .bool false))], [], 0⟩)) hL13 ?_ (fun s2 x6 hx7 hk8 => ?_)
    · rcases r3 with r4 | r5
      · refine (qBlockX (qThen ?_))
        refine HT.reg1 [4] [⟨none, .no⟩] ⟨[(4, .one (.dat .bool true))], [], 0⟩ hP hN (by kernel_rfl) allNil ?_
        have hr := of_some hr
        subst hr
        exact HT.ret ⟨[.one (.dat .bool true)], [], [], by kernel_rfl, by kernel_rfl, rfl, (.inl rfl), by kernel_rfl, trivial⟩
      · have hr := of_some hr
        subst hr
        exact (qBlockR (qThenR ⟨[.one (.dat .bool false)], [], [], by kernel_rfl, by kernel_rfl, rfl, (.inl rfl), by kernel_rfl, trivial⟩))
    · refine HT.seq ?_
      refine HT.reg1 [0, 1, 5, 14] [⟨none, .no⟩, ⟨none, .no⟩, ⟨none, .no⟩, ⟨none, .no⟩] ⟨[(0, .one (.dat (.sl (.int .i64)) a0)), (1, .one (.dat (.sl (.int .i64)) a1)), (5, .one (.dat (.int .i64) s2)), (14, .one (.dat .bool (decide (s2 < (lenI a0)))))], [], 0⟩ hP hN (by kernel_rfl) allNil ?_
      rcases of_bif hx7 with ⟨hb9, hx7⟩ | ⟨hb9, hx7⟩
      · refine HT.cond1 rfl hb9 ?_
        refine HT.skip (qThen ?_)
        refine HT.seq ?_
        refine HT.block ?_
        obtain ⟨hg10, hx7⟩ := of_guard hx7
        obtain ⟨hg11, hx7⟩ := of_guard hx7
        refine HT.drw1 [0, 1, 5, 25] 8 [⟨⟨none, .no⟩, []⟩, ⟨⟨none, .no⟩, []⟩, ⟨⟨none, .no⟩, [0, 1]⟩, ⟨⟨none, .no⟩, [0, 1, 2]⟩, ⟨⟨none, .no⟩, []⟩, ⟨⟨none, .no⟩, []⟩, ⟨⟨none, .no⟩, [4, 5]⟩, ⟨⟨none, .no⟩, [4, 5, 6]⟩] [[0, 1, 2, 3, 4, 5, 6, 7]] [⟨none, .no⟩] ⟨[(0, .one (.dat (.sl (.int .i64)) a0)), (1, .one (.dat (.sl (.int .i64)) a1)), (5, .one (.dat (.int .i64) s2)), (25, .one (.dat .bool ((List.getD a0 (Int.toNat s2) (0 : Int)) != (List.getD a1 (Int.toNat s2) (0 : Int)))))], [], 0⟩ hP hN (by kernel_rfl) (by kernel_rfl) (allCons hg10 (allCons hg11 allNil)) ?_
        rcases of_bif hx7 with ⟨hb12, hx7⟩ | ⟨hb12, hx7⟩
        · refine HT.cond1 rfl hb12 ?_
          refine HT.reg1 [4] [⟨none, .no⟩] ⟨[(4, .one (.dat .bool false))], [], 0⟩ hP hN (by kernel_rfl) allNil ?_
          have hx7 := of_some hx7
          subst hx7
          refine (Le.cv (s := ⟨[], [], [], false⟩) (own := []) (ps := [false = false]) (st' := ⟨[(4, .one (.dat .bool false))], [], 0⟩) hO (fun h => by cases h) (by kernel_rfl) ⟨rfl, trivial⟩).ht ?_
          exact HT.ret (qBlockR (qThenR (qLoopR (hk8 (.inr ()) rfl))))
        · refine HT.cond0 rfl hb12 ?_
          refine HT.skip (qBlock (qThen ?_))
          have hx7 := of_some hx7
          subst hx7
          refine HT.reg (rs := [⟨none, .no⟩, ⟨none, .no⟩, ⟨none, .no⟩]) (st' := ⟨[(5, .one (.dat (.int .i64) (wadd .i64 s2 (1 : Int)))), (16, .one (.dat (.int .i64) (wadd .i64 s2 (1 : Int)))), (15, .one (.dat (.int .i64) s2)), (0, .one (.dat (.sl (.int .i64)) a0)), (1, .one (.dat (.sl (.int .i64)) a1)), (5, .one (.dat (.int .i64) s2)), (25, .one (.dat .bool ((List.getD a0 (Int.toNat s2) (0 : Int)) != (List.getD a1 (Int.toNat s2) (0 : Int)))))], [], 0⟩) hP hN (by kernel_rfl) allNil (qLoopN ⟨(wadd .i64 s2 (1 : Int)), rfl, Le.cv (s := ⟨[], [], [], false⟩) (own := []) (ps := [a0 = a0, a1 = a1, (wadd .i64 s2 (1 : Int)) = (wadd .i64 s2 (1 : Int))]) (st' := ⟨[(0, .one (.dat (.sl (.int .i64)) a0)), (1, .one (.dat (.sl (.int .i64)) a1)), (5, .one (.dat (.int .i64) (wadd .i64 s2 (1 : Int))))], [], 0⟩) hO (fun h => by cases h) (by kernel_rfl) ⟨rfl, rfl, rfl, trivial⟩⟩)
      · refine HT.cond0 rfl hb9 ?_
        have hx7 := of_some hx7
        subst hx7
        refine (Le.cv (s := ⟨[], [], [], false⟩) (own := []) (ps := []) (st' := ⟨[], [], 0⟩) hO (fun h => by cases h) (by kernel_rfl) trivial).ht ?_
        exact HT.exit (qThenE (qLoopE (hk8 (.inl ()) rfl)))

noncomputable def laws_eqZone (a0 : Int × List Int) (a1 : Int × List Int) : Option (Bool) :=
  bif (a0.1 != a1.1) then
    some false
  else
    (laws_eqInt64S a0.2 a1.2).bind fun y2 =>
    bif (!y2) then
      some false
    else
      some true

theorem f20_ok {a0 : Int × List Int} {a1 : Int × List Int} {r : Bool} (hr : laws_eqZone a0 a1 = some r) : CallOK Try.prog 20 [.imm (.st (.pair (.int .i64) (.sl (.int .i64)))) a0, .imm (.st (.pair (.int .i64) (.sl (.int .i64)))) a1] [⟨false, .bool, r⟩] [] := by
  unfold laws_eqZone at hr
  refine CallOK.of_body (ts := [(false, .bool)]) Try.func20 rfl (by kernel_rfl) (Nat.le_of_ble_eq_true (by kernel_rfl)) fun cx hP hN hO hF => ?_
  have hO : cx.own.map Prod.fst = [] := hO
  show HT cx ⟨[(0, .agg [.dat (.int .i64) a0.1, .dat (.sl (.int .i64)) a0.2]), (1, .agg [.dat (.int .i64) a1.1, .dat (.sl (.int .i64)) a1.2])], [], 0⟩ _ _
  refine HT.reg1 [2, 3] [⟨none, .no⟩, ⟨none, .no⟩, ⟨none, .no⟩] ⟨[(2, .one (.ptr 0 0)), (3, .one (.ptr 1 0))], [(1, .box [.dat (.int .i64) a1.1, .dat (.sl (.int .i64)) a1.2]), (0, .box [.dat (.int .i64) a0.1, .dat (.sl (.int .i64)) a0.2])], 2⟩ hP hN (by kernel_rfl) allNil ?_
  refine HT.seq ?_
  refine HT.reg1 [2, 3, 9] [⟨none, .no⟩, ⟨none, .no⟩, ⟨none, .no⟩, ⟨none, .no⟩, ⟨none, .no⟩] ⟨[(2, .one (.ptr 0 0)), (3, .one (.ptr 1 0)), (9, .one (.dat .bool (a0.1 != a1.1)))], [(1, .box [.dat (.int .i64) a1.1, .dat (.sl (.int .i64)) a1.2]), (0, .box [.dat (.int .i64) a0.1, .dat (.sl (.int .i64)) a0.2])], 2⟩ hP hN (by kernel_rfl) allNil ?_
  rcases of_bif hr with ⟨hb1, hr⟩ | ⟨hb1, hr⟩
  · refine HT.cond1 rfl hb1 ?_
    refine HT.reg1 [4] [⟨none, .no⟩] ⟨[(4, .one (.dat .bool false))], [(1, .box [.dat (.int .i64) a1.1, .dat (.sl (.int .i64)) a1.2]), (0, .box [.dat (.int .i64) a0.1, .dat (.sl (.int .i64)) a0.2])], 2⟩ hP hN (by kernel_rfl) allNil ?_
    have hr := of_some hr
    subst hr
    exact HT.ret (qThenR ⟨[.one (.dat .bool false)], [], [], by kernel_rfl, by kernel_rfl, rfl, (.inl rfl), by kernel_rfl, trivial⟩)
  · refine HT.cond0 rfl hb1 ?_
    refine HT.skip (qThen ?_)
    refine HT.seq ?_
    obtain ⟨y2, hc3, hr⟩ := of_bind hr
    refine HT.reg1 [15] [⟨none, .no⟩, ⟨none, .no⟩, ⟨none, .no⟩, ⟨none, .no⟩, ⟨none, .call [.imm (.sl (.int .i64)), .imm (.sl (.int .i64))] [⟨false, .bool, y2⟩] []⟩, ⟨none, .no⟩] ⟨[(15, .one (.dat .bool (!y2)))], [(1, .box [.dat (.int .i64) a1.1, .dat (.sl (.int .i64)) a1.2]), (0, .box [.dat (.int .i64) a0.1, .dat (.sl (.int .i64)) a0.2])], 2⟩ hP hN (by kernel_rfl) (allCons (f46_ok hc3) allNil) ?_
    rcases of_bif hr with ⟨hb4, hr⟩ | ⟨hb4, hr⟩
    · refine HT.cond1 rfl hb4 ?_
      refine HT.reg1 [4] [⟨none, .no⟩] ⟨[(4, .one (.dat .bool false))], [(1, .box [.dat (.int .i64) a1.1, .dat (.sl (.int .i64)) a1.2]), (0, .box [.dat (.int .i64) a0.1, .dat (.sl (.int .i64)) a0.2])], 2⟩ hP hN (by kernel_rfl) allNil ?_
      have hr := of_some hr
      subst hr
      exact HT.ret (qThenR ⟨[.one (.dat .bool false)], [], [], by kernel_rfl, by kernel_rfl, rfl, (.inl rfl), by kernel_rfl, trivial⟩)
    · refine HT.cond0 rfl hb4 ?_
      refine HT.skip (qThen ?_)
      refine HT.reg1 [4] [⟨none, .no⟩] ⟨[(4, .one (.dat .bool true))], [(1, .box [.dat (.int .i64) a1.1, .dat (.sl (.int .i64)) a1.2]), (0, .box [.dat (.int .i64) a0.1, .dat (.sl (.int .i64)) a0.2])], 2⟩ hP hN (by kernel_rfl) allNil ?_
      have hr := of_some hr
      subst hr
      exact HT.ret ⟨[.one (.dat .bool true)], [], [], by kernel_rfl, by kernel_rfl, rfl, (.inl rfl), by kernel_rfl, trivial⟩

noncomputable def laws_markInt64S_B1  (s1 : Int × Int × List Int) : Option ((Int × Int × List Int) ⊕ ((Int × List Int))) :=
  bif (decide (s1.2.1 < (lenI s1.2.2))) then
    guardP ((0 : Int) ≤ s1.2.1 ∧ s1.2.1 < lenI s1.2.2) (
      some (.inl ((wadd .i64 s1.1 (1 : Int)), (wadd .i64 s1.2.1 (1 : Int)), (List.set s1.2.2 (Int.toNat s1.2.1) s1.1))))
  else
    some (.inr (s1.1, s1.2.2))

noncomputable def laws_markInt64S (a0 : List Int) (a1 : Int) : Option (Int × List Int) :=
  (rounds (laws_markInt64S_B1) (a1, (0 : Int), a0)).bind fun r3 =>
  guardP (List.length r3.2 = List.length a0) (
    some (r3.1, r3.2))

theorem f47_ok {a0 : List Int} {a1 : Int} {r : Int × List Int} (hr : laws_markInt64S a0 a1 = some r) : CallOK Try.prog 47 [.own (.sl (.int .i64)) a0, .imm (.int .i64) a1] [⟨false, (.int .i64), r.1⟩] [⟨(.sl (.int .i64)), r.2⟩] := by
  unfold laws_markInt64S at hr
  refine CallOK.of_body (ts := [(false, (.int .i64))]) Try.func47 rfl (by kernel_rfl) (Nat.le_of_ble_eq_true (by kernel_rfl)) fun cx hP hN hO hF => ?_
  have hO : cx.own.map Prod.fst = [0] := hO
  show HT cx ⟨[(0, .one (.all 0)), (1, .one (.dat (.int .i64) a1))], [(0, .seq (.int .i64) a0)], 1⟩ _ _
  refine HT.reg1 [0, 1] [⟨none, .no⟩] ⟨[(0, .one (.all 0)), (1, .one (.dat (.int .i64) a1))], [(0, .seq (.int .i64) a0)], 1⟩ hP hN (by kernel_rfl) allNil ?_
  refine HT.seq ?_
  refine HT.reg1 [0, 1, 5] [⟨none, .no⟩] ⟨[(0, .one (.all 0)), (1, .one (.dat (.int .i64) a1)), (5, .one (.dat (.int .i64) (0 : Int)))], [(0, .seq (.int .i64) a0)], 1⟩ hP hN (by kernel_rfl) allNil ?_
  refine HT.block ?_
  obtain ⟨r2, hL10, hr⟩ := of_bind hr
  refine (Le.cv (s := ⟨[(0, 0)], [], [], false⟩) (own := [0]) (ps := [a1 = a1, (0 : Int) = (0 : Int), a0 = a0]) (st' := ⟨[(0, .one (.all 0)), (1, .one (.dat (.int .i64) a1)), (5, .one (.dat (.int .i64) (0 : Int)))], [(0, .seq (.int .i64) a0)], 1⟩) hO (fun h => by cases h) (by kernel_rfl) ⟨rfl, rfl, rfl, trivial⟩).ht ?_
  refine HT.loopE (s := (a1, (0 : Int), a0)) (fun (s1 : Int × Int × List Int) => ⟨[(0, .one (.all 0)), (1, .one (.dat (.int .i64) s1.1)), (5, .one (.dat (.int .i64) s1.2.1))], [(0, .seq (.int .i64) s1.2.2)], 1⟩) (fun (r3 : (Int × List Int)) => (.exit 0, ⟨[(1, .one (.dat (.int .i64) r3.1))], [(0, .seq (.int .i64) r3.2)], 1⟩)) hL10 ?_ (fun s1 x5 hx6 hk7 => ?_)
  · refine (qBlockX (qThen ?_))
    refine HT.reg1 [4] [⟨none, .no⟩, ⟨none, .no⟩] ⟨[(4, .one (.dat (.int .i64) r2.1))], [(0, .seq (.int .i64) r2.2)], 1⟩ hP hN (by kernel_rfl) allNil ?_
    obtain ⟨hg4, hr⟩ := of_guard hr
    have hr := of_some hr
    subst hr
    exact HT.ret ⟨[.one (.dat (.int .i64) r2.1)], [], [List.length r2.2 = List.length a0], by kernel_rfl, by kernel_rfl, rfl, (.inr rfl), by kernel_rfl, ⟨hg4, trivial⟩⟩
  · refine HT.seq ?_
    refine HT.reg1 [0, 1, 5, 9] [⟨none, .no⟩, ⟨none, .no⟩, ⟨none, .no⟩, ⟨none, .no⟩] ⟨[(0, .one (.all 0)), (1, .one (.dat (.int .i64) s1.1)), (5, .one (.dat (.int .i64) s1.2.1)), (9, .one (.dat .bool (decide (s1.2.1 < (lenI s1.2.2)))))], [(0, .seq (.int .i64) s1.2.2)], 1⟩ hP hN (by kernel_rfl) allNil ?_
    rcases of_bif hx6 with ⟨hb8, hx6⟩ | ⟨hb8, hx6⟩
    · refine HT.cond1 rfl hb8 ?_
      refine HT.skip (qThen ?_)
      refine HT.seq ?_
      refine HT.block ?_
      obtain ⟨hg9, hx6⟩ := of_guard hx6
      refine HT.reg1 [0, 1, 5] [⟨none, .no⟩, ⟨none, .no⟩, ⟨none, .no⟩, ⟨none, .no⟩, ⟨none, .no⟩] ⟨[(0, .one (.all 0)), (1, .one (.dat (.int .i64) s1.1)), (5, .one (.dat (.int .i64) s1.2.1))], [(0, .seq (.int .i64) (List.set s1.2.2 (Int.toNat s1.2.1) s1.1)), (0, .seq (.int .i64) s1.2.2)], 1⟩ hP hN (by kernel_rfl) (allCons hg9 (allCons (natLt hg9) allNil)) ?_
      refine HT.reg (rs := [⟨none, .no⟩, ⟨none, .no⟩, ⟨none, .no⟩]) (st' := ⟨[(1, .one (.dat (.int .i64) (wadd .i64 s1.1 (1 : Int)))), (17, .one (.dat (.int .i64) (wadd .i64 s1.1 (1 : Int)))), (16, .one (.dat (.int .i64) s1.1)), (0, .one (.all 0)), (1, .one (.dat (.int .i64) s1.1)), (5, .one (.dat (.int .i64) s1.2.1))], [(0, .seq (.int .i64) (List.set s1.2.2 (Int.toNat s1.2.1) s1.1)), (0, .seq (.int .i64) s1.2.2)], 1⟩) hP hN (by kernel_rfl) allNil (qBlock (qThen ?_))
      have hx6 := of_some hx6
      subst hx6
      refine HT.reg (rs := [⟨none, .no⟩, ⟨none, .no⟩, ⟨none, .no⟩]) (st' := ⟨[(5, .one (.dat (.int .i64) (wadd .i64 s1.2.1 (1 : Int)))), (11, .one (.dat (.int .i64) (wadd .i64 s1.2.1 (1 : Int)))), (10, .one (.dat (.int .i64) s1.2.1)), (1, .one (.dat (.int .i64) (wadd .i64 s1.1 (1 : Int)))), (17, .one (.dat (.int .i64) (wadd .i64 s1.1 (1 : Int)))), (16, .one (.dat (.int .i64) s1.1)), (0, .one (.all 0)), (1, .one (.dat (.int .i64) s1.1)), (5, .one (.dat (.int .i64) s1.2.1))], [(0, .seq (.int .i64) (List.set s1.2.2 (Int.toNat s1.2.1) s1.1)), (0, .seq (.int .i64) s1.2.2)], 1⟩) hP hN (by kernel_rfl) allNil (qLoopN ⟨((wadd .i64 s1.1 (1 : Int)), (wadd .i64 s1.2.1 (1 : Int)), (List.set s1.2.2 (Int.toNat s1.2.1) s1.1)), rfl, Le.cv (s := ⟨[(0, 0)], [], [], false⟩) (own := [0]) (ps := [(wadd .i64 s1.1 (1 : Int)) = (wadd .i64 s1.1 (1 : Int)), (wadd .i64 s1.2.1 (1 : Int)) = (wadd .i64 s1.2.1 (1 : Int)), (List.set s1.2.2 (Int.toNat s1.2.1) s1.1) = (List.set s1.2.2 (Int.toNat s1.2.1) s1.1)]) (st' := ⟨[(0, .one (.all 0)), (1, .one (.dat (.int .i64) (wadd .i64 s1.1 (1 : Int)))), (5, .one (.dat (.int .i64) (wadd .i64 s1.2.1 (1 : Int))))], [(0, .seq (.int .i64) (List.set s1.2.2 (Int.toNat s1.2.1) s1.1))], 1⟩) hO (fun h => by cases h) (by kernel_rfl) ⟨rfl, rfl, rfl, trivial⟩⟩)
    · refine HT.cond0 rfl hb8 ?_
      have hx6 := of_some hx6
      subst hx6
      refine (Le.cv (s := ⟨[(0, 0)], [], [], false⟩) (own := [0]) (ps := [s1.1 = s1.1, s1.2.2 = s1.2.2]) (st' := ⟨[(1, .one (.dat (.int .i64) s1.1))], [(0, .seq (.int .i64) s1.2.2)], 1⟩) hO (fun h => by cases h) (by kernel_rfl) ⟨rfl, rfl, trivial⟩).ht ?_
      exact HT.exit (qThenE (qLoopE (hk7 (s1.1, s1.2.2) rfl)))

noncomputable def laws_markZone (a0 : Int × List Int) (a1 : Int) : Option (Int × (Int × List Int)) :=
  (laws_markInt64S a0.2 a1).bind fun y1 =>
  guardP (List.length y1.2 = List.length a0.2) (
    some (y1.1, a0.1, y1.2))

theorem f21_ok {a0 : Int × List Int} {a1 : Int} {r : Int × (Int × List Int)} (hr : laws_markZone a0 a1 = some r) : CallOK Try.prog 21 [.own (.st (.pair (.int .i64) (.sl (.int .i64)))) a0, .imm (.int .i64) a1] [⟨false, (.int .i64), r.1⟩] [⟨(.st (.pair (.int .i64) (.sl (.int .i64)))), r.2⟩] := by
  unfold laws_markZone at hr
  refine CallOK.of_body (ts := [(false, (.int .i64))]) Try.func21 rfl (by kernel_rfl) (Nat.le_of_ble_eq_true (by kernel_rfl)) fun cx hP hN hO hF => ?_
  have hO : cx.own.map Prod.fst = [0] := hO
  show HT cx ⟨[(0, .agg [.dat (.int .i64) a0.1, .all 0]), (1, .one (.dat (.int .i64) a1))], [(0, .seq (.int .i64) a0.2)], 1⟩ _ _
  refine HT.reg1 [1, 2] [⟨none, .no⟩, ⟨none, .no⟩] ⟨[(1, .one (.dat (.int .i64) a1)), (2, .one (.ptr 1 0))], [(1, .box [.dat (.int .i64) a0.1, .all 0]), (0, .seq (.int .i64) a0.2)], 2⟩ hP hN (by kernel_rfl) allNil ?_
  obtain ⟨y1, hc2, hr⟩ := of_bind hr
  refine HT.reg1 [1] [⟨none, .no⟩, ⟨none, .no⟩, ⟨none, .no⟩, ⟨none, .call [.own (.sl (.int .i64)), .imm (.int .i64)] [⟨false, (.int .i64), y1.1⟩] [⟨(.sl (.int .i64)), y1.2⟩]⟩, ⟨none, .no⟩] ⟨[(1, .one (.dat (.int .i64) y1.1))], [(0, .seq (.int .i64) y1.2), (1, .box [.dat (.int .i64) a0.1, .all 0]), (0, .seq (.int .i64) a0.2)], 2⟩ hP hN (by kernel_rfl) (allCons (f47_ok hc2) allNil) ?_
  refine HT.reg1 [4] [⟨none, .no⟩, ⟨none, .no⟩] ⟨[(4, .one (.dat (.int .i64) y1.1))], [(0, .seq (.int .i64) y1.2), (1, .box [.dat (.int .i64) a0.1, .all 0]), (0, .seq (.int .i64) a0.2)], 2⟩ hP hN (by kernel_rfl) allNil ?_
  obtain ⟨hg3, hr⟩ := of_guard hr
  have hr := of_some hr
  subst hr
  exact HT.ret ⟨[.one (.dat (.int .i64) y1.1)], [], [List.length y1.2 = List.length a0.2], by kernel_rfl, by kernel_rfl, rfl, (.inr rfl), by kernel_rfl, ⟨hg3, trivial⟩⟩

noncomputable def laws_heldInt64S_B1 (a0 : List Int) (s1 : Int × Int) : Option ((Int × Int) ⊕ (Int ⊕ Unit)) :=
  bif (decide (s1.2 < (lenI a0))) then
    guardP ((0 : Int) ≤ s1.2 ∧ s1.2 < lenI a0) (
      bif ((List.getD a0 (Int.toNat s1.2) (0 : Int)) != s1.1) then
        some (.inr (.inr ()))
      else
        some (.inl ((wadd .i64 s1.1 (1 : Int)), (wadd .i64 s1.2 (1 : Int)))))
  else
    some (.inr (.inl s1.1))

noncomputable def laws_heldInt64S (a0 : List Int) (a1 : Int) : Option (Int) :=
  (rounds (laws_heldInt64S_B1 a0) (a1, (0 : Int))).bind fun r2 => match r2 with
    | .inl r3 =>
      some r3
    | .inr r4 =>
      some (-1 : Int)

theorem f48_ok {a0 : List Int} {a1 : Int} {r : Int} (hr : laws_heldInt64S a0 a1 = some r) : CallOK Try.prog 48 [.imm (.sl (.int .i64)) a0, .imm (.int .i64) a1] [⟨false, (.int .i64), r⟩] [] := by
  unfold laws_heldInt64S at hr
  refine CallOK.of_body (ts := [(false, (.int .i64))]) Try.func48 rfl (by kernel_rfl) (Nat.le_of_ble_eq_true (by kernel_rfl)) fun cx hP hN hO hF => ?_
  have hO : cx.own.map Prod.fst = [] := hO
  show HT cx ⟨[(0, .one (.dat (.sl (.int .i64)) a0)), (1, .one (.dat (.int .i64) a1))], [], 0⟩ _ _
  refine HT.reg1 [0, 1] [⟨none, .no⟩] ⟨[(0, .one (.dat (.sl (.int .i64)) a0)), (1, .one (.dat (.int .i64) a1))], [], 0⟩ hP hN (by kernel_rfl) allNil ?_
  refine HT.seq ?_
  refine HT.reg1 [0, 1, 5] [⟨none, .no⟩] ⟨[(0, .one (.dat (.sl (.int .i64)) a0)), (1, .one (.dat (.int .i64) a1)), (5, .one (.dat (.int .i64) (0 : Int)))], [], 0⟩ hP hN (by kernel_rfl) allNil ?_
  refine HT.block ?_
  obtain ⟨r2, hL11, hr⟩ := of_bind hr
  refine (Le.cv (s := ⟨[], [], [], false⟩) (own := []) (ps := [a0 = a0, a1 = a1, (0 : Int) = (0 : Int)]) (st' := ⟨[(0, .one (.dat (.sl (.int .i64)) a0)), (1, .one (.dat (.int .i64) a1)), (5, .one (.dat (.int .i64) (0 : Int)))], [], 0⟩) hO (fun h => by cases h) (by kernel_rfl) ⟨rfl, rfl, rfl, trivial⟩).ht ?_
  refine HT.loopE (s := (a1, (0 : Int))) (fun (s1 : Int × Int) => ⟨[(0, .one (.dat (.sl (.int .i64)) a0)), (1, .one (.dat (.int .i64) s1.1)), (5, .one (.dat (.int .i64) s1.2))], [], 0⟩) (fun (r2 : Int ⊕ Unit) => match r2 with | .inl r3 => (.exit 0, ⟨[(1, .one (.dat (.int .i64) r3))], [], 0⟩) | .inr r4 => (.ret, ⟨[(4, .one (.dat (.int .i64) (-1 : Int)))], [], 0⟩)) hL11 ?_ (fun s1 x5 hx6 hk7 => ?_)
  · rcases r2 with r3 | r4
    · refine (qBlockX (qThen ?_))
      refine HT.reg1 [4] [⟨none, .no⟩, ⟨none, .no⟩] ⟨[(4, .one (.dat (.int .i64) r3))], [], 0⟩ hP hN (by kernel_rfl) allNil ?_
      have hr := of_some hr
      subst hr
      exact HT.ret ⟨[.one (.dat (.int .i64) r3)], [], [], by kernel_rfl, by kernel_rfl, rfl, (.inl rfl), by kernel_rfl, trivial⟩
    · have hr := of_some hr
      subst hr
      exact (qBlockR (qThenR ⟨[.one (.dat (.int .i64) (-1 : Int))], [], [], by kernel_rfl, by kernel_rfl, rfl, (.inl rfl), by kernel_rfl, trivial⟩))
  · refine HT.seq ?_
    refine HT.reg1 [0, 1, 5, 9] [⟨none, .no⟩, ⟨none, .no⟩, ⟨none, .no⟩, ⟨none, .no⟩] ⟨[(0, .one (.dat (.sl (.int .i64)) a0)), (1, .one (.dat (.int .i64) s1.1)), (5, .one (.dat (.int .i64) s1.2)), (9, .one (.dat .bool (decide (s1.2 < (lenI a0)))))], [], 0⟩ hP hN (by kernel_rfl) allNil ?_
    rcases of_bif hx6 with ⟨hb8, hx6⟩ | ⟨hb8, hx6⟩
    · refine HT.cond1 rfl hb8 ?_
      refine HT.skip (qThen ?_)
      refine HT.seq ?_
      refine HT.block ?_
      refine HT.seq ?_
      obtain ⟨hg9, hx6⟩ := of_guard hx6
      refine HT.reg1 [0, 1, 5, 17] [⟨none, .no⟩, ⟨none, .no⟩, ⟨none, .no⟩, ⟨none, .no⟩, ⟨none, .no⟩, ⟨none, .no⟩] ⟨[(0, .one (.dat (.sl (.int .i64)) a0)), (1, .one (.dat (.int .i64) s1.1)), (5, .one (.dat (.int .i64) s1.2)), (17, .one (.dat .bool ((List.getD a0 (Int.toNat s1.2) (0 : Int)) != s1.1)))], [], 0⟩ hP hN (by kernel_rfl) (allCons hg9 allNil) ?_
      rcases of_bif hx6 with ⟨hb10, hx6⟩ | ⟨hb10, hx6⟩
      · refine HT.cond1 rfl hb10 ?_
        refine HT.reg1 [4] [⟨none, .no⟩] ⟨[(4, .one (.dat (.int .i64) (-1 : Int)))], [], 0⟩ hP hN (by kernel_rfl) allNil ?_
        have hx6 := of_some hx6
        subst hx6
        refine (Le.cv (s := ⟨[], [], [], false⟩) (own := []) (ps := [(-1 : Int) = (-1 : Int)]) (st' := ⟨[(4, .one (.dat (.int .i64) (-1 : Int)))], [], 0⟩) hO (fun h => by cases h) (by kernel_rfl) ⟨rfl, trivial⟩).ht ?_
        exact HT.ret (qThenR (qBlockR (qThenR (qLoopR (hk7 (.inr ()) rfl)))))
      · refine HT.cond0 rfl hb10 ?_
        refine HT.skip (qThen ?_)
        refine HT.reg (rs := [⟨none, .no⟩, ⟨none, .no⟩, ⟨none, .no⟩]) (st' := ⟨[(1, .one (.dat (.int .i64) (wadd .i64 s1.1 (1 : Int)))), (19, .one (.dat (.int .i64) (wadd .i64 s1.1 (1 : Int)))), (18, .one (.dat (.int .i64) s1.1)), (0, .one (.dat (.sl (.int .i64)) a0)), (1, .one (.dat (.int .i64) s1.1)), (5, .one (.dat (.int .i64) s1.2)), (17, .one (.dat .bool ((List.getD a0 (Int.toNat s1.2) (0 : Int)) != s1.1)))], [], 0⟩) hP hN (by kernel_rfl) allNil (qBlock (qThen ?_))
        have hx6 := of_some hx6
        subst hx6
        refine HT.reg (rs := [⟨none, .no⟩, ⟨none, .no⟩, ⟨none, .no⟩]) (st' := ⟨[(5, .one (.dat (.int .i64) (wadd .i64 s1.2 (1 : Int)))), (11, .one (.dat (.int .i64) (wadd .i64 s1.2 (1 : Int)))), (10, .one (.dat (.int .i64) s1.2)), (1, .one (.dat (.int .i64) (wadd .i64 s1.1 (1 : Int)))), (19, .one (.dat (.int .i64) (wadd .i64 s1.1 (1 : Int)))), (18, .one (.dat (.int .i64) s1.1)), (0, .one (.dat (.sl (.int .i64)) a0)), (1, .one (.dat (.int .i64) s1.1)), (5, .one (.dat (.int .i64) s1.2)), (17, .one (.dat .bool ((List.getD a0 (Int.toNat s1.2) (0 : Int)) != s1.1)))], [], 0⟩) hP hN (by kernel_rfl) allNil (qLoopN ⟨((wadd .i64 s1.1 (1 : Int)), (wadd .i64 s1.2 (1 : Int))), rfl, Le.cv (s := ⟨[], [], [], false⟩) (own := []) (ps := [a0 = a0, (wadd .i64 s1.1 (1 : Int)) = (wadd .i64 s1.1 (1 : Int)), (wadd .i64 s1.2 (1 : Int)) = (wadd .i64 s1.2 (1 : Int))]) (st' := ⟨[(0, .one (.dat (.sl (.int .i64)) a0)), (1, .one (.dat (.int .i64) (wadd .i64 s1.1 (1 : Int)))), (5, .one (.dat (.int .i64) (wadd .i64 s1.2 (1 : Int))))], [], 0⟩) hO (fun h => by cases h) (by kernel_rfl) ⟨rfl, rfl, rfl, trivial⟩⟩)
    · refine HT.cond0 rfl hb8 ?_
      have hx6 := of_some hx6
      subst hx6
      refine (Le.cv (s := ⟨[], [], [], false⟩) (own := []) (ps := [s1.1 = s1.1]) (st' := ⟨[(1, .one (.dat (.int .i64) s1.1))], [], 0⟩) hO (fun h => by cases h) (by kernel_rfl) ⟨rfl, trivial⟩).ht ?_
      exact HT.exit (qThenE (qLoopE (hk7 (.inl s1.1) rfl)))

noncomputable def laws_heldZone (a0 : Int × List Int) (a1 : Int) : Option (Int) :=
  (laws_heldInt64S a0.2 a1).bind fun y1 =>
  bif (decide (y1 < (0 : Int))) then
    some (-1 : Int)
  else
    some y1

theorem f22_ok {a0 : Int × List Int} {a1 : Int} {r : Int} (hr : laws_heldZone a0 a1 = some r) : CallOK Try.prog 22 [.imm (.st (.pair (.int .i64) (.sl (.int .i64)))) a0, .imm (.int .i64) a1] [⟨false, (.int .i64), r⟩] [] := by
  unfold laws_heldZone at hr
  refine CallOK.of_body (ts := [(false, (.int .i64))]) Try.func22 rfl (by kernel_rfl) (Nat.le_of_ble_eq_true (by kernel_rfl)) fun cx hP hN hO hF => ?_
  have hO : cx.own.map Prod.fst = [] := hO
  show HT cx ⟨[(0, .agg [.dat (.int .i64) a0.1, .dat (.sl (.int .i64)) a0.2]), (1, .one (.dat (.int .i64) a1))], [], 0⟩ _ _
  refine HT.reg1 [1, 2] [⟨none, .no⟩, ⟨none, .no⟩] ⟨[(1, .one (.dat (.int .i64) a1)), (2, .one (.ptr 0 0))], [(0, .box [.dat (.int .i64) a0.1, .dat (.sl (.int .i64)) a0.2])], 1⟩ hP hN (by kernel_rfl) allNil ?_
  obtain ⟨y1, hc2, hr⟩ := of_bind hr
  refine HT.reg1 [1] [⟨none, .no⟩, ⟨none, .no⟩, ⟨none, .no⟩, ⟨none, .call [.imm (.sl (.int .i64)), .imm (.int .i64)] [⟨false, (.int .i64), y1⟩] []⟩, ⟨none, .no⟩] ⟨[(1, .one (.dat (.int .i64) y1))], [(0, .box [.dat (.int .i64) a0.1, .dat (.sl (.int .i64)) a0.2])], 1⟩ hP hN (by kernel_rfl) (allCons (f48_ok hc2) allNil) ?_
  refine HT.seq ?_
  refine HT.reg1 [1, 10] [⟨none, .no⟩, ⟨none, .no⟩] ⟨[(1, .one (.dat (.int .i64) y1)), (10, .one (.dat .bool (decide (y1 < (0 : Int)))))], [(0, .box [.dat (.int .i64) a0.1, .dat (.sl (.int .i64)) a0.2])], 1⟩ hP hN (by kernel_rfl) allNil ?_
  rcases of_bif hr with ⟨hb3, hr⟩ | ⟨hb3, hr⟩
  · refine HT.cond1 rfl hb3 ?_
    refine HT.reg1 [4] [⟨none, .no⟩] ⟨[(4, .one (.dat (.int .i64) (-1 : Int)))], [(0, .box [.dat (.int .i64) a0.1, .dat (.sl (.int .i64)) a0.2])], 1⟩ hP hN (by kernel_rfl) allNil ?_
    have hr := of_some hr
    subst hr
    exact HT.ret (qThenR ⟨[.one (.dat (.int .i64) (-1 : Int))], [], [], by kernel_rfl, by kernel_rfl, rfl, (.inl rfl), by kernel_rfl, trivial⟩)
  · refine HT.cond0 rfl hb3 ?_
    refine HT.skip (qThen ?_)
    refine HT.reg1 [4] [⟨none, .no⟩, ⟨none, .no⟩] ⟨[(4, .one (.dat (.int .i64) y1))], [(0, .box [.dat (.int .i64) a0.1, .dat (.sl (.int .i64)) a0.2])], 1⟩ hP hN (by kernel_rfl) allNil ?_
    have hr := of_some hr
    subst hr
    exact HT.ret ⟨[.one (.dat (.int .i64) y1)], [], [], by kernel_rfl, by kernel_rfl, rfl, (.inl rfl), by kernel_rfl, trivial⟩

noncomputable def laws_FnExactMeetZone (a0 : Int × List Int) (a1 : Int × List Int) : Option (Bool) :=
  (laws_szZone (a0.1, a0.2) (1048576 : Int)).bind fun y1 =>
  bif (decide (y1 < (0 : Int))) then
    some true
  else
    (laws_szZone (a1.1, a1.2) y1).bind fun y4 =>
    bif (decide (y4 < (0 : Int))) then
      some true
    else
      (laws_toZone (a0.1, a0.2)).bind fun y7 =>
      (laws_toZone (a1.1, a1.2)).bind fun y9 =>
      (spec_MeetZone (y7.1, y7.2) (y9.1, y9.2)).bind fun y11 =>
      (laws_toZone (a0.1, a0.2)).bind fun y13 =>
      (laws_toZone (a1.1, a1.2)).bind fun y15 =>
      (impl_MeetZone (y13.1, y13.2) (y15.1, y15.2)).bind fun y17 =>
      (show Option (Bool) from
        (laws_eqZone (y17.1.1, y17.1.2) (y11.1.1, y11.1.2)).bind fun y68 =>
        bif (!y68) then
          some true
        else
          some (y17.2 != y11.2)).bind fun v19 =>
      bif v19 then
        some false
      else
        (laws_toZone (a0.1, a0.2)).bind fun y23 =>
        (laws_eqZone (y13.1, y13.2) (y23.1, y23.2)).bind fun y25 =>
        bif (!y25) then
          some false
        else
          (laws_toZone (a1.1, a1.2)).bind fun y28 =>
          (laws_eqZone (y15.1, y15.2) (y28.1, y28.2)).bind fun y30 =>
          bif (!y30) then
            some false
          else
            (laws_markZone (y13.1, y13.2) (1 : Int)).bind fun y33 =>
            (laws_markZone (y15.1, y15.2) y33.1).bind fun y35 =>
            (show Option (Bool) from
              bif (decide (y35.1 < (0 : Int))) then
                some true
              else
                (laws_eqZone (y17.1.1, y17.1.2) (y11.1.1, y11.1.2)).bind fun y65 =>
                bif (!y65) then
                  some true
                else
                  some (y17.2 != y11.2)).bind fun v37 =>
            bif v37 then
              some false
            else
              (laws_markZone (y17.1.1, y17.1.2) (1 : Int)).bind fun y41 =>
              (laws_heldZone (y17.1.1, y41.2.2) (1 : Int)).bind fun y43 =>
              bif (decide (y43 < (0 : Int))) then
                some false
              else
                bif (y43 != y41.1) then
                  some false
                else
                  (laws_toZone (a0.1, a0.2)).bind fun y47 =>
                  (laws_toZone (a1.1, a1.2)).bind fun y49 =>
                  (impl_MeetZone (y47.1, y47.2) (y49.1, y49.2)).bind fun y51 =>
                  (show Option (Bool) from
                    (laws_eqZone (y51.1.1, y51.1.2) (y11.1.1, y11.1.2)).bind fun y61 =>
                    bif (!y61) then
                      some true
                    else
                      some (y51.2 != y11.2)).bind fun v53 =>
                  bif v53 then
                    some false
                  else
                    (laws_heldZone (y17.1.1, y41.2.2) (1 : Int)).bind fun y57 =>
                    bif (decide (y57 < (0 : Int))) then
                      some false
                    else
                      bif (y57 != y41.1) then
                        some false
                      else
                        some true

theorem f4_ok {a0 : Int × List Int} {a1 : Int × List Int} {r : Bool} (hr : laws_FnExactMeetZone a0 a1 = some r) : CallOK Try.prog 4 [.imm (.st (.pair (.int .i64) (.sl (.int .i64)))) a0, .imm (.st (.pair (.int .i64) (.sl (.int .i64)))) a1] [⟨false, .bool, r⟩] [] := by
  unfold laws_FnExactMeetZone at hr
  refine CallOK.of_body (ts := [(false, .bool)]) Try.func4 rfl (by kernel_rfl) (Nat.le_of_ble_eq_true (by kernel_rfl)) fun cx hP hN hO hF => ?_
  have hO : cx.own.map Prod.fst = [] := hO
  show HT cx ⟨[(0, .agg [.dat (.int .i64) a0.1, .dat (.sl (.int .i64)) a0.2]), (1, .agg [.dat (.int .i64) a1.1, .dat (.sl (.int .i64)) a1.2])], [], 0⟩ _ _
  refine HT.reg1 [2, 3] [⟨none, .no⟩, ⟨none, .no⟩, ⟨none, .no⟩] ⟨[(2, .one (.ptr 0 0)), (3, .one (.ptr 1 0))], [(1, .box [.dat (.int .i64) a1.1, .dat (.sl (.int .i64)) a1.2]), (0, .box [.dat (.int .i64) a0.1, .dat (.sl (.int .i64)) a0.2])], 2⟩ hP hN (by kernel_rfl) allNil ?_
  refine HT.reg1 [2, 3, 5] [⟨none, .no⟩] ⟨[(2, .one (.ptr 0 0)), (3, .one (.ptr 1 0)), (5, .one (.dat (.int .i64) (1048576 : Int)))], [(1, .box [.dat (.int .i64) a1.1, .dat (.sl (.int .i64)) a1.2]), (0, .box [.dat (.int .i64) a0.1, .dat (.sl (.int .i64)) a0.2])], 2⟩ hP hN (by kernel_rfl) allNil ?_
  obtain ⟨y1, hc2, hr⟩ := of_bind hr
  refine HT.reg1 [2, 3, 5] [⟨none, .no⟩, ⟨none, .no⟩, ⟨none, .call [.imm (.st (.pair (.int .i64) (.sl (.int .i64)))), .imm (.int .i64)] [⟨false, (.int .i64), y1⟩] []⟩, ⟨none, .no⟩] ⟨[(2, .one (.ptr 0 0)), (3, .one (.ptr 1 0)), (5, .one (.dat (.int .i64) y1))], [(1, .box [.dat (.int .i64) a1.1, .dat (.sl (.int .i64)) a1.2]), (0, .box [.dat (.int .i64) a0.1, .dat (.sl (.int .i64)) a0.2])], 2⟩ hP hN (by kernel_rfl) (allCons (f16_ok hc2) allNil) ?_
  refine HT.seq ?_
  refine HT.reg1 [2, 3, 5, 21] [⟨none, .no⟩, ⟨none, .no⟩] ⟨[(2, .one (.ptr 0 0)), (3, .one (.ptr 1 0)), (5, .one (.dat (.int .i64) y1)), (21, .one (.dat .bool (decide (y1 < (0 : Int)))))], [(1, .box [.dat (.int .i64) a1.1, .dat (.sl (.int .i64)) a1.2]), (0, .box [.dat (.int .i64) a0.1, .dat (.sl (.int .i64)) a0.2])], 2⟩ hP hN (by kernel_rfl) allNil ?_
  rcases of_bif hr with ⟨hb3, hr⟩ | ⟨hb3, hr⟩
  · refine HT.cond1 rfl hb3 ?_
    refine HT.reg1 [4] [⟨none, .no⟩] ⟨[(4, .one (.dat .bool true))], [(1, .box [.dat (.int .i64) a1.1, .dat (.sl (.int .i64)) a1.2]), (0, .box [.dat (.int .i64) a0.1, .dat (.sl (.int .i64)) a0.2])], 2⟩ hP hN (by kernel_rfl) allNil ?_
    have hr := of_some hr
    subst hr
    exact HT.ret (qThenR ⟨[.one (.dat .bool true)], [], [], by kernel_rfl, by kernel_rfl, rfl, (.inl rfl), by kernel_rfl, trivial⟩)
  · refine HT.cond0 rfl hb3 ?_
    refine HT.skip (qThen ?_)
    obtain ⟨y4, hc5, hr⟩ := of_bind hr
    refine HT.reg1 [2, 3, 5] [⟨none, .no⟩, ⟨none, .no⟩, ⟨none, .call [.imm (.st (.pair (.int .i64) (.sl (.int .i64)))), .imm (.int .i64)] [⟨false, (.int .i64), y4⟩] []⟩, ⟨none, .no⟩] ⟨[(2, .one (.ptr 0 0)), (3, .one (.ptr 1 0)), (5, .one (.dat (.int .i64) y4))], [(1, .box [.dat (.int .i64) a1.1, .dat (.sl (.int .i64)) a1.2]), (0, .box [.dat (.int .i64) a0.1, .dat (.sl (.int .i64)) a0.2])], 2⟩ hP hN (by kernel_rfl) (allCons (f16_ok hc5) allNil) ?_
    refine HT.seq ?_
    refine HT.reg1 [2, 3, 26] [⟨none, .no⟩, ⟨none, .no⟩] ⟨[(2, .one (.ptr 0 0)), (3, .one (.ptr 1 0)), (26, .one (.dat .bool (decide (y4 < (0 : Int)))))], [(1, .box [.dat (.int .i64) a1.1, .dat (.sl (.int .i64)) a1.2]), (0, .box [.dat (.int .i64) a0.1, .dat (.sl (.int .i64)) a0.2])], 2⟩ hP hN (by kernel_rfl) allNil ?_
    rcases of_bif hr with ⟨hb6, hr⟩ | ⟨hb6, hr⟩
    · refine HT.cond1 rfl hb6 ?_
      refine HT.reg1 [4] [⟨none, .no⟩] ⟨[(4, .one (.dat .bool true))], [(1, .box [.dat (.int .i64) a1.1, .dat (.sl (.int .i64)) a1.2]), (0, .box [.dat (.int .i64) a0.1, .dat (.sl (.int .i64)) a0.2])], 2⟩ hP hN (by kernel_rfl) allNil ?_
      have hr := of_some hr
      subst hr
      exact HT.ret (qThenR ⟨[.one (.dat .bool true)], [], [], by kernel_rfl, by kernel_rfl, rfl, (.inl rfl), by kernel_rfl, trivial⟩)
    · refine HT.cond0 rfl hb6 ?_
      refine HT.skip (qThen ?_)
      obtain ⟨y7, hc8, hr⟩ := of_bind hr
      obtain ⟨y9, hc10, hr⟩ := of_bind hr
      obtain ⟨y11, hc12, hr⟩ := of_bind hr
      refine HT.drw1 [2, 3, 6, 7] 10 [⟨⟨none, .no⟩, []⟩, ⟨⟨none, .call [.imm (.st (.pair (.int .i64) (.sl (.int .i64))))] [⟨true, (.st (.pair (.int .i64) (.sl (.int .i64)))), y7⟩] []⟩, [0]⟩, ⟨⟨none, .no⟩, []⟩, ⟨⟨none, .call [.imm (.st (.pair (.int .i64) (.sl (.int .i64))))] [⟨true, (.st (.pair (.int .i64) (.sl (.int .i64)))), y9⟩] []⟩, [0, 1, 2]⟩, ⟨⟨none, .call [.imm (.st (.pair (.int .i64) (.sl (.int .i64)))), .imm (.st (.pair (.int .i64) (.sl (.int .i64))))] [⟨true, (.st (.pair (.int .i64) (.sl (.int .i64)))), y11.1⟩, ⟨false, .bool, y11.2⟩] []⟩, [0, 1, 2, 3]⟩, ⟨⟨none, .no⟩, [0, 1, 2, 3, 4]⟩, ⟨⟨none, .no⟩, [0, 1, 2, 3, 4, 5]⟩, ⟨⟨none, .no⟩, [0, 1, 2, 3, 4, 5]⟩, ⟨⟨none, .no⟩, []⟩, ⟨⟨none, .no⟩, [0, 1, 2, 3, 4, 5, 6, 8]⟩] [[0, 1, 2, 3, 4, 5, 6, 7, 8, 9]] [⟨none, .no⟩] ⟨[(2, .one (.ptr 0 0)), (3, .one (.ptr 1 0)), (6, .one (.ptr 5 0)), (7, .one (.dat .bool y11.2))], [(5, .box [.dat (.int .i64) y11.1.1, .all 4]), (5, .box [.dat (.int .i64) (0 : Int), .nilS]), (4, .seq (.int .i64) y11.1.2), (3, .seq (.int .i64) y9.2), (2, .seq (.int .i64) y7.2), (1, .box [.dat (.int .i64) a1.1, .dat (.sl (.int .i64)) a1.2]), (0, .box [.dat (.int .i64) a0.1, .dat (.sl (.int .i64)) a0.2])], 6⟩ hP hN (by kernel_rfl) (by kernel_rfl) (allCons (f18_ok hc8) (allCons (f18_ok hc10) (allCons (f17_ok hc12) allNil))) ?_
      obtain ⟨y13, hc14, hr⟩ := of_bind hr
      refine HT.reg1 [2, 3, 6, 7, 8] [⟨none, .no⟩, ⟨none, .call [.imm (.st (.pair (.int .i64) (.sl (.int .i64))))] [⟨true, (.st (.pair (.int .i64) (.sl (.int .i64)))), y13⟩] []⟩, ⟨none, .no⟩, ⟨none, .no⟩] ⟨[(2, .one (.ptr 0 0)), (3, .one (.ptr 1 0)), (6, .one (.ptr 5 0)), (7, .one (.dat .bool y11.2)), (8, .one (.ptr 7 0))], [(7, .box [.dat (.int .i64) y13.1, .all 6]), (7, .box [.dat (.int .i64) (0 : Int), .nilS]), (6, .seq (.int .i64) y13.2), (5, .box [.dat (.int .i64) y11.1.1, .all 4]), (5, .box [.dat (.int .i64) (0 : Int), .nilS]), (4, .seq (.int .i64) y11.1.2), (3, .seq (.int .i64) y9.2), (2, .seq (.int .i64) y7.2), (1, .box [.dat (.int .i64) a1.1, .dat (.sl (.int .i64)) a1.2]), (0, .box [.dat (.int .i64) a0.1, .dat (.sl (.int .i64)) a0.2])], 8⟩ hP hN (by kernel_rfl) (allCons (f18_ok hc14) allNil) ?_
      obtain ⟨y15, hc16, hr⟩ := of_bind hr
      refine HT.reg1 [2, 3, 6, 7, 8, 9] [⟨none, .no⟩, ⟨none, .call [.imm (.st (.pair (.int .i64) (.sl (.int .i64))))] [⟨true, (.st (.pair (.int .i64) (.sl (.int .i64)))), y15⟩] []⟩, ⟨none, .no⟩, ⟨none, .no⟩] ⟨[(2, .one (.ptr 0 0)), (3, .one (.ptr 1 0)), (6, .one (.ptr 5 0)), (7, .one (.dat .bool y11.2)), (8, .one (.ptr 7 0)), (9, .one (.ptr 9 0))], [(9, .box [.dat (.int .i64) y15.1, .all 8]), (9, .box [.dat (.int .i64) (0 : Int), .nilS]), (8, .seq (.int .i64) y15.2), (7, .box [.dat (.int .i64) y13.1, .all 6]), (7, .box [.dat (.int .i64) (0 : Int), .nilS]), (6, .seq (.int .i64) y13.2), (5, .box [.dat (.int .i64) y11.1.1, .all 4]), (5, .box [.dat (.int .i64) (0 : Int), .nilS]), (4, .seq (.int .i64) y11.1.2), (3, .seq (.int .i64) y9.2), (2, .seq (.int .i64) y7.2), (1, .box [.dat (.int .i64) a1.1, .dat (.sl (.int .i64)) a1.2]), (0, .box [.dat (.int .i64) a0.1, .dat (.sl (.int .i64)) a0.2])], 10⟩ hP hN (by kernel_rfl) (allCons (f18_ok hc16) allNil) ?_
      obtain ⟨y17, hc18, hr⟩ := of_bind hr
      refine HT.reg1 [2, 3, 6, 7, 8, 9, 10, 11] [⟨none, .no⟩, ⟨none, .no⟩, ⟨none, .call [.imm (.st (.pair (.int .i64) (.sl (.int .i64)))), .imm (.st (.pair (.int .i64) (.sl (.int .i64))))] [⟨true, (.st (.pair (.int .i64) (.sl (.int .i64)))), y17.1⟩, ⟨false, .bool, y17.2⟩] []⟩, ⟨none, .no⟩, ⟨none, .no⟩, ⟨none, .no⟩, ⟨none, .no⟩, ⟨none, .no⟩, ⟨none, .no⟩] ⟨[(2, .one (.ptr 0 0)), (3, .one (.ptr 1 0)), (6, .one (.ptr 5 0)), (7, .one (.dat .bool y11.2)), (8, .one (.ptr 7 0)), (9, .one (.ptr 9 0)), (10, .one (.ptr 11 0)), (11, .one (.dat .bool y17.2))], [(11, .box [.dat (.int .i64) y17.1.1, .all 10]), (11, .box [.dat (.int .i64) (0 : Int), .nilS]), (10, .seq (.int .i64) y17.1.2), (9, .box [.dat (.int .i64) y15.1, .all 8]), (9, .box [.dat (.int .i64) (0 : Int), .nilS]), (8, .seq (.int .i64) y15.2), (7, .box [.dat (.int .i64) y13.1, .all 6]), (7, .box [.dat (.int .i64) (0 : Int), .nilS]), (6, .seq (.int .i64) y13.2), (5, .box [.dat (.int .i64) y11.1.1, .all 4]), (5, .box [.dat (.int .i64) (0 : Int), .nilS]), (4, .seq (.int .i64) y11.1.2), (3, .seq (.int .i64) y9.2), (2, .seq (.int .i64) y7.2), (1, .box [.dat (.int .i64) a1.1, .dat (.sl (.int .i64)) a1.2]), (0, .box [.dat (.int .i64) a0.1, .dat (.sl (.int .i64)) a0.2])], 12⟩ hP hN (by kernel_rfl) (allCons (f19_ok hc18) allNil) ?_
      refine HT.seq ?_
      obtain ⟨v19', hT21, hr⟩ := of_bind hr
      refine HT.join (fun (v19 : Bool) => ⟨[(2, .one (.ptr 0 0)), (3, .one (.ptr 1 0)), (6, .one (.ptr 2 0)), (7, .one (.dat .bool y11.2)), (8, .one (.ptr 3 0)), (9, .one (.ptr 4 0)), (10, .one (.ptr 5 0)), (11, .one (.dat .bool y17.2)), (53, .one (.dat .bool v19))], [(0, .box [.dat (.int .i64) a0.1, .dat (.sl (.int .i64)) a0.2]), (1, .box [.dat (.int .i64) a1.1, .dat (.sl (.int .i64)) a1.2]), (2, .box [.dat (.int .i64) y11.1.1, .all 6]), (3, .box [.dat (.int .i64) y13.1, .all 7]), (4, .box [.dat (.int .i64) y15.1, .all 8]), (5, .box [.dat (.int .i64) y17.1.1, .all 9]), (6, .seq (.int .i64) y11.1.2), (7, .seq (.int .i64) y13.2), (8, .seq (.int .i64) y15.2), (9, .seq (.int .i64) y17.1.2)], 10⟩) (fun v => v = v19') (fun v19 hv20 => ?_) (fun cont => ?_)
      · subst hv20
        rcases of_bif hr with ⟨hb22, hr⟩ | ⟨hb22, hr⟩
        · refine HT.cond1 rfl hb22 ?_
          refine HT.reg1 [4] [⟨none, .no⟩] ⟨[(4, .one (.dat .bool false))], [(0, .box [.dat (.int .i64) a0.1, .dat (.sl (.int .i64)) a0.2]), (1, .box [.dat (.int .i64) a1.1, .dat (.sl (.int .i64)) a1.2]), (2, .box [.dat (.int .i64) y11.1.1, .all 6]), (3, .box [.dat (.int .i64) y13.1, .all 7]), (4, .box [.dat (.int .i64) y15.1, .all 8]), (5, .box [.dat (.int .i64) y17.1.1, .all 9]), (6, .seq (.int .i64) y11.1.2), (7, .seq (.int .i64) y13.2), (8, .seq (.int .i64) y15.2), (9, .seq (.int .i64) y17.1.2)], 10⟩ hP hN (by kernel_rfl) allNil ?_
          have hr := of_some hr
          subst hr
          exact HT.ret (qThenR ⟨[.one (.dat .bool false)], [], [], by kernel_rfl, by kernel_rfl, rfl, (.inl rfl), by kernel_rfl, trivial⟩)
        · refine HT.cond0 rfl hb22 ?_
          refine HT.skip (qThen ?_)
          refine HT.seq ?_
          obtain ⟨y23, hc24, hr⟩ := of_bind hr
          obtain ⟨y25, hc26, hr⟩ := of_bind hr
          refine HT.drw1 [2, 3, 6, 7, 8, 9, 10, 11, 58] 3 [⟨⟨none, .no⟩, []⟩, ⟨⟨none, .no⟩, []⟩, ⟨⟨none, .call [.imm (.st (.pair (.int .i64) (.sl (.int .i64))))] [⟨true, (.st (.pair (.int .i64) (.sl (.int .i64)))), y23⟩] []⟩, [1]⟩] [[0, 1, 2], [0, 1, 2, 3]] [⟨none, .call [.imm (.st (.pair (.int .i64) (.sl (.int .i64)))), .imm (.st (.pair (.int .i64) (.sl (.int .i64))))] [⟨false, .bool, y25⟩] []⟩, ⟨none, .no⟩] ⟨[(2, .one (.ptr 0 0)), (3, .one (.ptr 1 0)), (6, .one (.ptr 2 0)), (7, .one (.dat .bool y11.2)), (8, .one (.ptr 3 0)), (9, .one (.ptr 4 0)), (10, .one (.ptr 5 0)), (11, .one (.dat .bool y17.2)), (58, .one (.dat .bool (!y25)))], [(10, .seq (.int .i64) y23.2), (0, .box [.dat (.int .i64) a0.1, .dat (.sl (.int .i64)) a0.2]), (1, .box [.dat (.int .i64) a1.1, .dat (.sl (.int .i64)) a1.2]), (2, .box [.dat (.int .i64) y11.1.1, .all 6]), (3, .box [.dat (.int .i64) y13.1, .all 7]), (4, .box [.dat (.int .i64) y15.1, .all 8]), (5, .box [.dat (.int .i64) y17.1.1, .all 9]), (6, .seq (.int .i64) y11.1.2), (7, .seq (.int .i64) y13.2), (8, .seq (.int .i64) y15.2), (9, .seq (.int .i64) y17.1.2)], 11⟩ hP hN (by kernel_rfl) (by kernel_rfl) (allCons (f18_ok hc24) (allCons (f20_ok hc26) allNil)) ?_
          rcases of_bif hr with ⟨hb27, hr⟩ | ⟨hb27, hr⟩
          · refine HT.cond1 rfl hb27 ?_
            refine HT.reg1 [4] [⟨none, .no⟩] ⟨[(4, .one (.dat .bool false))], [(10, .seq (.int .i64) y23.2), (0, .box [.dat (.int .i64) a0.1, .dat (.sl (.int .i64)) a0.2]), (1, .box [.dat (.int .i64) a1.1, .dat (.sl (.int .i64)) a1.2]), (2, .box [.dat (.int .i64) y11.1.1, .all 6]), (3, .box [.dat (.int .i64) y13.1, .all 7]), (4, .box [.dat (.int .i64) y15.1, .all 8]), (5, .box [.dat (.int .i64) y17.1.1, .all 9]), (6, .seq (.int .i64) y11.1.2), (7, .seq (.int .i64) y13.2), (8, .seq (.int .i64) y15.2), (9, .seq (.int .i64) y17.1.2)], 11⟩ hP hN (by kernel_rfl) allNil ?_
            have hr := of_some hr
            subst hr
            exact HT.ret (qThenR ⟨[.one (.dat .bool false)], [], [], by kernel_rfl, by kernel_rfl, rfl, (.inl rfl), by kernel_rfl, trivial⟩)
          · refine HT.cond0 rfl hb27 ?_
            refine HT.skip (qThen ?_)
            refine HT.seq ?_
            obtain ⟨y28, hc29, hr⟩ := of_bind hr
            obtain ⟨y30, hc31, hr⟩ := of_bind hr
            refine HT.drw1 [2, 3, 6, 7, 8, 9, 10, 11, 63] 3 [⟨⟨none, .no⟩, []⟩, ⟨⟨none, .no⟩, []⟩, ⟨⟨none, .call [.imm (.st (.pair (.int .i64) (.sl (.int .i64))))] [⟨true, (.st (.pair (.int .i64) (.sl (.int .i64)))), y28⟩] []⟩, [1]⟩] [[0, 1, 2], [0, 1, 2, 3]] [⟨none, .call [.imm (.st (.pair (.int .i64) (.sl (.int .i64)))), .imm (.st (.pair (.int .i64) (.sl (.int .i64))))] [⟨false, .bool, y30⟩] []⟩, ⟨none, .no⟩] ⟨[(2, .one (.ptr 0 0)), (3, .one (.ptr 1 0)), (6, .one (.ptr 2 0)), (7, .one (.dat .bool y11.2)), (8, .one (.ptr 3 0)), (9, .one (.ptr 4 0)), (10, .one (.ptr 5 0)), (11, .one (.dat .bool y17.2)), (63, .one (.dat .bool (!y30)))], [(11, .seq (.int .i64) y28.2), (10, .seq (.int .i64) y23.2), (0, .box [.dat (.int .i64) a0.1, .dat (.sl (.int .i64)) a0.2]), (1, .box [.dat (.int .i64) a1.1, .dat (.sl (.int .i64)) a1.2]), (2, .box [.dat (.int .i64) y11.1.1, .all 6]), (3, .box [.dat (.int .i64) y13.1, .all 7]), (4, .box [.dat (.int .i64) y15.1, .all 8]), (5, .box [.dat (.int .i64) y17.1.1, .all 9]), (6, .seq (.int .i64) y11.1.2), (7, .seq (.int .i64) y13.2), (8, .seq (.int .i64) y15.2), (9, .seq (.int .i64) y17.1.2)], 12⟩ hP hN (by kernel_rfl) (by kernel_rfl) (allCons (f18_ok hc29) (allCons (f20_ok hc31) allNil)) ?_
            rcases of_bif hr with ⟨hb32, hr⟩ | ⟨hb32, hr⟩
            · refine HT.cond1 rfl hb32 ?_
              refine HT.reg1 [4] [⟨none, .no⟩] ⟨[(4, .one (.dat .bool false))], [(11, .seq (.int .i64) y28.2), (10, .seq (.int .i64) y23.2), (0, .box [.dat (.int .i64) a0.1, .dat (.sl (.int .i64)) a0.2]), (1, .box [.dat (.int .i64) a1.1, .dat (.sl (.int .i64)) a1.2]), (2, .box [.dat (.int .i64) y11.1.1, .all 6]), (3, .box [.dat (.int .i64) y13.1, .all 7]), (4, .box [.dat (.int .i64) y15.1, .all 8]), (5, .box [.dat (.int .i64) y17.1.1, .all 9]), (6, .seq (.int .i64) y11.1.2), (7, .seq (.int .i64) y13.2), (8, .seq (.int .i64) y15.2), (9, .seq (.int .i64) y17.1.2)], 12⟩ hP hN (by kernel_rfl) allNil ?_
              have hr := of_some hr
              subst hr
              exact HT.ret (qThenR ⟨[.one (.dat .bool false)], [], [], by kernel_rfl, by kernel_rfl, rfl, (.inl rfl), by kernel_rfl, trivial⟩)
            · refine HT.cond0 rfl hb32 ?_
              refine HT.skip (qThen ?_)
              refine HT.reg1 [2, 3, 6, 7, 8, 9, 10, 11, 12] [⟨none, .no⟩] ⟨[(2, .one (.ptr 0 0)), (3, .one (.ptr 1 0)), (6, .one (.ptr 2 0)), (7, .one (.dat .bool y11.2)), (8, .one (.ptr 3 0)), (9, .one (.ptr 4 0)), (10, .one (.ptr 5 0)), (11, .one (.dat .bool y17.2)), (12, .one (.dat (.int .i64) (1 : Int)))], [(11, .seq (.int .i64) y28.2), (10, .seq (.int .i64) y23.2), (0, .box [.dat (.int .i64) a0.1, .dat (.sl (.int .i64)) a0.2]), (1, .box [.dat (.int .i64) a1.1, .dat (.sl (.int .i64)) a1.2]), (2, .box [.dat (.int .i64) y11.1.1, .all 6]), (3, .box [.dat (.int .i64) y13.1, .all 7]), (4, .box [.dat (.int .i64) y15.1, .all 8]), (5, .box [.dat (.int .i64) y17.1.1, .all 9]), (6, .seq (.int .i64) y11.1.2), (7, .seq (.int .i64) y13.2), (8, .seq (.int .i64) y15.2), (9, .seq (.int .i64) y17.1.2)], 12⟩ hP hN (by kernel_rfl) allNil ?_
              obtain ⟨y33, hc34, hr⟩ := of_bind hr
              refine HT.reg1 [2, 3, 6, 7, 9, 10, 11, 12] [⟨none, .no⟩, ⟨none, .no⟩, ⟨none, .call [.own (.st (.pair (.int .i64) (.sl (.int .i64)))), .imm (.int .i64)] [⟨false, (.int .i64), y33.1⟩] [⟨(.st (.pair (.int .i64) (.sl (.int .i64)))), y33.2⟩]⟩, ⟨none, .no⟩] ⟨[(2, .one (.ptr 0 0)), (3, .one (.ptr 1 0)), (6, .one (.ptr 2 0)), (7, .one (.dat .bool y11.2)), (9, .one (.ptr 4 0)), (10, .one (.ptr 5 0)), (11, .one (.dat .bool y17.2)), (12, .one (.dat (.int .i64) y33.1))], [(7, .seq (.int .i64) y33.2.2), (11, .seq (.int .i64) y28.2), (10, .seq (.int .i64) y23.2), (0, .box [.dat (.int .i64) a0.1, .dat (.sl (.int .i64)) a0.2]), (1, .box [.dat (.int .i64) a1.1, .dat (.sl (.int .i64)) a1.2]), (2, .box [.dat (.int .i64) y11.1.1, .all 6]), (3, .box [.dat (.int .i64) y13.1, .all 7]), (4, .box [.dat (.int .i64) y15.1, .all 8]), (5, .box [.dat (.int .i64) y17.1.1, .all 9]), (6, .seq (.int .i64) y11.1.2), (7, .seq (.int .i64) y13.2), (8, .seq (.int .i64) y15.2), (9, .seq (.int .i64) y17.1.2)], 12⟩ hP hN (by kernel_rfl) (allCons (f21_ok hc34) allNil) ?_
              obtain ⟨y35, hc36, hr⟩ := of_bind hr
              refine HT.reg1 [2, 3, 6, 7, 10, 11, 12] [⟨none, .no⟩, ⟨none, .no⟩, ⟨none, .call [.own (.st (.pair (.int .i64) (.sl (.int .i64)))), .imm (.int .i64)] [⟨false, (.int .i64), y35.1⟩] [⟨(.st (.pair (.int .i64) (.sl (.int .i64)))), y35.2⟩]⟩, ⟨none, .no⟩] ⟨[(2, .one (.ptr 0 0)), (3, .one (.ptr 1 0)), (6, .one (.ptr 2 0)), (7, .one (.dat .bool y11.2)), (10, .one (.ptr 5 0)), (11, .one (.dat .bool y17.2)), (12, .one (.dat (.int .i64) y35.1))], [(8, .seq (.int .i64) y35.2.2), (7, .seq (.int .i64) y33.2.2), (11, .seq (.int .i64) y28.2), (10, .seq (.int .i64) y23.2), (0, .box [.dat (.int .i64) a0.1, .dat (.sl (.int .i64)) a0.2]), (1, .box [.dat (.int .i64) a1.1, .dat (.sl (.int .i64)) a1.2]), (2, .box [.dat (.int .i64) y11.1.1, .all 6]), (3, .box [.dat (.int .i64) y13.1, .all 7]), (4, .box [.dat (.int .i64) y15.1, .all 8]), (5, .box [.dat (.int .i64) y17.1.1, .all 9]), (6, .seq (.int .i64) y11.1.2), (7, .seq (.int .i64) y13.2), (8, .seq (.int .i64) y15.2), (9, .seq (.int .i64) y17.1.2)], 12⟩ hP hN (by kernel_rfl) (allCons (f21_ok hc36) allNil) ?_
              refine HT.seq ?_
              obtain ⟨v37', hT39, hr⟩ := of_bind hr
              refine HT.join (fun (v37 : Bool) => ⟨[(2, .one (.ptr 0 0)), (3, .one (.ptr 1 0)), (6, .one (.ptr 2 0)), (7, .one (.dat .bool y11.2)), (10, .one (.ptr 3 0)), (82, .one (.dat .bool v37))], [(0, .box [.dat (.int .i64) a0.1, .dat (.sl (.int .i64)) a0.2]), (1, .box [.dat (.int .i64) a1.1, .dat (.sl (.int .i64)) a1.2]), (2, .box [.dat (.int .i64) y11.1.1, .all 4]), (3, .box [.dat (.int .i64) y17.1.1, .all 5]), (4, .seq (.int .i64) y11.1.2), (5, .seq (.int .i64) y17.1.2)], 6⟩) (fun v => v = v37') (fun v37 hv38 => ?_) (fun cont => ?_)
              · subst hv38
                rcases of_bif hr with ⟨hb40, hr⟩ | ⟨hb40, hr⟩
                · refine HT.cond1 rfl hb40 ?_
                  refine HT.reg1 [4] [⟨none, .no⟩] ⟨[(4, .one (.dat .bool false))], [(0, .box [.dat (.int .i64) a0.1, .dat (.sl (.int .i64)) a0.2]), (1, .box [.dat (.int .i64) a1.1, .dat (.sl (.int .i64)) a1.2]), (2, .box [.dat (.int .i64) y11.1.1, .all 4]), (3, .box [.dat (.int .i64) y17.1.1, .all 5]), (4, .seq (.int .i64) y11.1.2), (5, .seq (.int .i64) y17.1.2)], 6⟩ hP hN (by kernel_rfl) allNil ?_
                  have hr := of_some hr
                  subst hr
                  exact HT.ret (qThenR ⟨[.one (.dat .bool false)], [], [], by kernel_rfl, by kernel_rfl, rfl, (.inl rfl), by kernel_rfl, trivial⟩)
                · refine HT.cond0 rfl hb40 ?_
                  refine HT.skip (qThen ?_)
                  refine HT.reg1 [2, 3, 6, 7, 10, 13] [⟨none, .no⟩] ⟨[(2, .one (.ptr 0 0)), (3, .one (.ptr 1 0)), (6, .one (.ptr 2 0)), (7, .one (.dat .bool y11.2)), (10, .one (.ptr 3 0)), (13, .one (.dat (.int .i64) (1 : Int)))], [(0, .box [.dat (.int .i64) a0.1, .dat (.sl (.int .i64)) a0.2]), (1, .box [.dat (.int .i64) a1.1, .dat (.sl (.int .i64)) a1.2]), (2, .box [.dat (.int .i64) y11.1.1, .all 4]), (3, .box [.dat (.int .i64) y17.1.1, .all 5]), (4, .seq (.int .i64) y11.1.2), (5, .seq (.int .i64) y17.1.2)], 6⟩ hP hN (by kernel_rfl) allNil ?_
                  obtain ⟨y41, hc42, hr⟩ := of_bind hr
                  refine HT.reg1 [2, 3, 6, 7, 10, 13] [⟨none, .no⟩, ⟨none, .no⟩, ⟨none, .call [.own (.st (.pair (.int .i64) (.sl (.int .i64)))), .imm (.int .i64)] [⟨false, (.int .i64), y41.1⟩] [⟨(.st (.pair (.int .i64) (.sl (.int .i64)))), y41.2⟩]⟩, ⟨none, .no⟩] ⟨[(2, .one (.ptr 0 0)), (3, .one (.ptr 1 0)), (6, .one (.ptr 2 0)), (7, .one (.dat .bool y11.2)), (10, .one (.ptr 3 0)), (13, .one (.dat (.int .i64) y41.1))], [(5, .seq (.int .i64) y41.2.2), (0, .box [.dat (.int .i64) a0.1, .dat (.sl (.int .i64)) a0.2]), (1, .box [.dat (.int .i64) a1.1, .dat (.sl (.int .i64)) a1.2]), (2, .box [.dat (.int .i64) y11.1.1, .all 4]), (3, .box [.dat (.int .i64) y17.1.1, .all 5]), (4, .seq (.int .i64) y11.1.2), (5, .seq (.int .i64) y17.1.2)], 6⟩ hP hN (by kernel_rfl) (allCons (f21_ok hc42) allNil) ?_
                  refine HT.reg1 [2, 3, 6, 7, 10, 13, 14] [⟨none, .no⟩] ⟨[(2, .one (.ptr 0 0)), (3, .one (.ptr 1 0)), (6, .one (.ptr 2 0)), (7, .one (.dat .bool y11.2)), (10, .one (.ptr 3 0)), (13, .one (.dat (.int .i64) y41.1)), (14, .one (.dat (.int .i64) (1 : Int)))], [(5, .seq (.int .i64) y41.2.2), (0, .box [.dat (.int .i64) a0.1, .dat (.sl (.int .i64)) a0.2]), (1, .box [.dat (.int .i64) a1.1, .dat (.sl (.int .i64)) a1.2]), (2, .box [.dat (.int .i64) y11.1.1, .all 4]), (3, .box [.dat (.int .i64) y17.1.1, .all 5]), (4, .seq (.int .i64) y11.1.2), (5, .seq (.int .i64) y17.1.2)], 6⟩ hP hN (by kernel_rfl) allNil ?_
                  obtain ⟨y43, hc44, hr⟩ := of_bind hr
                  refine HT.reg1 [2, 3, 6, 7, 10, 13, 14] [⟨none, .no⟩, ⟨none, .no⟩, ⟨none, .call [.imm (.st (.pair (.int .i64) (.sl (.int .i64)))), .imm (.int .i64)] [⟨false, (.int .i64), y43⟩] []⟩, ⟨none, .no⟩] ⟨[(2, .one (.ptr 0 0)), (3, .one (.ptr 1 0)), (6, .one (.ptr 2 0)), (7, .one (.dat .bool y11.2)), (10, .one (.ptr 3 0)), (13, .one (.dat (.int .i64) y41.1)), (14, .one (.dat (.int .i64) y43))], [(5, .seq (.int .i64) y41.2.2), (0, .box [.dat (.int .i64) a0.1, .dat (.sl (.int .i64)) a0.2]), (1, .box [.dat (.int .i64) a1.1, .dat (.sl (.int .i64)) a1.2]), (2, .box [.dat (.int .i64) y11.1.1, .all 4]), (3, .box [.dat (.int .i64) y17.1.1, .all 5]), (4, .seq (.int .i64) y11.1.2), (5, .seq (.int .i64) y17.1.2)], 6⟩ hP hN (by kernel_rfl) (allCons (f22_ok hc44) allNil) ?_
                  refine HT.seq ?_
                  refine HT.reg1 [2, 3, 6, 7, 10, 13, 14, 90] [⟨none, .no⟩, ⟨none, .no⟩] ⟨[(2, .one (.ptr 0 0)), (3, .one (.ptr 1 0)), (6, .one (.ptr 2 0)), (7, .one (.dat .bool y11.2)), (10, .one (.ptr 3 0)), (13, .one (.dat (.int .i64) y41.1)), (14, .one (.dat (.int .i64) y43)), (90, .one (.dat .bool (decide (y43 < (0 : Int)))))], [(5, .seq (.int .i64) y41.2.2), (0, .box [.dat (.int .i64) a0.1, .dat (.sl (.int .i64)) a0.2]), (1, .box [.dat (.int .i64) a1.1, .dat (.sl (.int .i64)) a1.2]), (2, .box [.dat (.int .i64) y11.1.1, .all 4]), (3, .box [.dat (.int .i64) y17.1.1, .all 5]), (4, .seq (.int .i64) y11.1.2), (5, .seq (.int .i64) y17.1.2)], 6⟩ hP hN (by kernel_rfl) allNil ?_
                  rcases of_bif hr with ⟨hb45, hr⟩ | ⟨hb45, hr⟩
                  · refine HT.cond1 rfl hb45 ?_
                    refine HT.reg1 [4] [⟨none, .no⟩] ⟨[(4, .one (.dat .bool false))], [(5, .seq (.int .i64) y41.2.2), (0, .box [.dat (.int .i64) a0.1, .dat (.sl (.int .i64)) a0.2]), (1, .box [.dat (.int .i64) a1.1, .dat (.sl (.int .i64)) a1.2]), (2, .box [.dat (.int .i64) y11.1.1, .all 4]), (3, .box [.dat (.int .i64) y17.1.1, .all 5]), (4, .seq (.int .i64) y11.1.2), (5, .seq (.int .i64) y17.1.2)], 6⟩ hP hN (by kernel_rfl) allNil ?_
                    have hr := of_some hr
                    subst hr
                    exact HT.ret (qThenR ⟨[.one (.dat .bool false)], [], [], by kernel_rfl, by kernel_rfl, rfl, (.inl rfl), by kernel_rfl, trivial⟩)
                  · refine HT.cond0 rfl hb45 ?_
                    refine HT.skip (qThen ?_)
                    refine HT.seq ?_
                    refine HT.reg1 [2, 3, 6, 7, 10, 13, 93] [⟨none, .no⟩, ⟨none, .no⟩, ⟨none, .no⟩] ⟨[(2, .one (.ptr 0 0)), (3, .one (.ptr 1 0)), (6, .one (.ptr 2 0)), (7, .one (.dat .bool y11.2)), (10, .one (.ptr 3 0)), (13, .one (.dat (.int .i64) y41.1)), (93, .one (.dat .bool (y43 != y41.1)))], [(5, .seq (.int .i64) y41.2.2), (0, .box [.dat (.int .i64) a0.1, .dat (.sl (.int .i64)) a0.2]), (1, .box [.dat (.int .i64) a1.1, .dat (.sl (.int .i64)) a1.2]), (2, .box [.dat (.int .i64) y11.1.1, .all 4]), (3, .box [.dat (.int .i64) y17.1.1, .all 5]), (4, .seq (.int .i64) y11.1.2), (5, .seq (.int .i64) y17.1.2)], 6⟩ hP hN (by kernel_rfl) allNil ?_
                    rcases of_bif hr with ⟨hb46, hr⟩ | ⟨hb46, hr⟩
                    · refine HT.cond1 rfl hb46 ?_
                      refine HT.reg1 [4] [⟨none, .no⟩] ⟨[(4, .one (.dat .bool false))], [(5, .seq (.int .i64) y41.2.2), (0, .box [.dat (.int .i64) a0.1, .dat (.sl (.int .i64)) a0.2]), (1, .box [.dat (.int .i64) a1.1, .dat (.sl (.int .i64)) a1.2]), (2, .box [.dat (.int .i64) y11.1.1, .all 4]), (3, .box [.dat (.int .i64) y17.1.1, .all 5]), (4, .seq (.int .i64) y11.1.2), (5, .seq (.int .i64) y17.1.2)], 6⟩ hP hN (by kernel_rfl) allNil ?_
                      have hr := of_some hr
                      subst hr
                      exact HT.ret (qThenR ⟨[.one (.dat .bool false)], [], [], by kernel_rfl, by kernel_rfl, rfl, (.inl rfl), by kernel_rfl, trivial⟩)
                    · refine HT.cond0 rfl hb46 ?_
                      refine HT.skip (qThen ?_)
                      obtain ⟨y47, hc48, hr⟩ := of_bind hr
                      obtain ⟨y49, hc50, hr⟩ := of_bind hr
                      obtain ⟨y51, hc52, hr⟩ := of_bind hr
                      refine HT.drw1 [6, 7, 10, 13, 15, 16] 10 [⟨⟨none, .no⟩, []⟩, ⟨⟨none, .call [.imm (.st (.pair (.int .i64) (.sl (.int .i64))))] [⟨true, (.st (.pair (.int .i64) (.sl (.int .i64)))), y47⟩] []⟩, [0]⟩, ⟨⟨none, .no⟩, []⟩, ⟨⟨none, .call [.imm (.st (.pair (.int .i64) (.sl (.int .i64))))] [⟨true, (.st (.pair (.int .i64) (.sl (.int .i64)))), y49⟩] []⟩, [0, 1, 2]⟩, ⟨⟨none, .call [.imm (.st (.pair (.int .i64) (.sl (.int .i64)))), .imm (.st (.pair (.int .i64) (.sl (.int .i64))))] [⟨true, (.st (.pair (.int .i64) (.sl (.int .i64)))), y51.1⟩, ⟨false, .bool, y51.2⟩] []⟩, [0, 1, 2, 3]⟩, ⟨⟨none, .no⟩, [0, 1, 2, 3, 4]⟩, ⟨⟨none, .no⟩, [0, 1, 2, 3, 4, 5]⟩, ⟨⟨none, .no⟩, [0, 1, 2, 3, 4, 5]⟩, ⟨⟨none, .no⟩, []⟩, ⟨⟨none, .no⟩, [0, 1, 2, 3, 4, 5, 6, 8]⟩] [[0, 1, 2, 3, 4, 5, 6, 7, 8, 9]] [⟨none, .no⟩] ⟨[(6, .one (.ptr 2 0)), (7, .one (.dat .bool y11.2)), (10, .one (.ptr 3 0)), (13, .one (.dat (.int .i64) y41.1)), (15, .one (.ptr 9 0)), (16, .one (.dat .bool y51.2))], [(9, .box [.dat (.int .i64) y51.1.1, .all 8]), (9, .box [.dat (.int .i64) (0 : Int), .nilS]), (8, .seq (.int .i64) y51.1.2), (7, .seq (.int .i64) y49.2), (6, .seq (.int .i64) y47.2), (5, .seq (.int .i64) y41.2.2), (0, .box [.dat (.int .i64) a0.1, .dat (.sl (.int .i64)) a0.2]), (1, .box [.dat (.int .i64) a1.1, .dat (.sl (.int .i64)) a1.2]), (2, .box [.dat (.int .i64) y11.1.1, .all 4]), (3, .box [.dat (.int .i64) y17.1.1, .all 5]), (4, .seq (.int .i64) y11.1.2), (5, .seq (.int .i64) y17.1.2)], 10⟩ hP hN (by kernel_rfl) (by kernel_rfl) (allCons (f18_ok hc48) (allCons (f18_ok hc50) (allCons (f19_ok hc52) allNil))) ?_
                      refine HT.seq ?_
                      obtain ⟨v53', hT55, hr⟩ := of_bind hr
                      refine HT.join (fun (v53 : Bool) => ⟨[(10, .one (.ptr 0 0)), (13, .one (.dat (.int .i64) y41.1)), (110, .one (.dat .bool v53))], [(0, .box [.dat (.int .i64) y17.1.1, .all 1]), (1, .seq (.int .i64) y41.2.2)], 2⟩) (fun v => v = v53') (fun v53 hv54 => ?_) (fun cont => ?_)
                      · subst hv54
                        rcases of_bif hr with ⟨hb56, hr⟩ | ⟨hb56, hr⟩
                        · refine HT.cond1 rfl hb56 ?_
                          refine HT.reg1 [4] [⟨none, .no⟩] ⟨[(4, .one (.dat .bool false))], [(0, .box [.dat (.int .i64) y17.1.1, .all 1]), (1, .seq (.int .i64) y41.2.2)], 2⟩ hP hN (by kernel_rfl) allNil ?_
                          have hr := of_some hr
                          subst hr
                          exact HT.ret (qThenR ⟨[.one (.dat .bool false)], [], [], by kernel_rfl, by kernel_rfl, rfl, (.inl rfl), by kernel_rfl, trivial⟩)
                        · refine HT.cond0 rfl hb56 ?_
                          refine HT.skip (qThen ?_)
                          refine HT.reg1 [10, 13, 14] [⟨none, .no⟩] ⟨[(10, .one (.ptr 0 0)), (13, .one (.dat (.int .i64) y41.1)), (14, .one (.dat (.int .i64) (1 : Int)))], [(0, .box [.dat (.int .i64) y17.1.1, .all 1]), (1, .seq (.int .i64) y41.2.2)], 2⟩ hP hN (by kernel_rfl) allNil ?_
                          obtain ⟨y57, hc58, hr⟩ := of_bind hr
                          refine HT.reg1 [13, 14] [⟨none, .no⟩, ⟨none, .no⟩, ⟨none, .call [.imm (.st (.pair (.int .i64) (.sl (.int .i64)))), .imm (.int .i64)] [⟨false, (.int .i64), y57⟩] []⟩, ⟨none, .no⟩] ⟨[(13, .one (.dat (.int .i64) y41.1)), (14, .one (.dat (.int .i64) y57))], [(0, .box [.dat (.int .i64) y17.1.1, .all 1]), (1, .seq (.int .i64) y41.2.2)], 2⟩ hP hN (by kernel_rfl) (allCons (f22_ok hc58) allNil) ?_
                          refine HT.seq ?_
                          refine HT.reg1 [13, 14, 115] [⟨none, .no⟩, ⟨none, .no⟩] ⟨[(13, .one (.dat (.int .i64) y41.1)), (14, .one (.dat (.int .i64) y57)), (115, .one (.dat .bool (decide (y57 < (0 : Int)))))], [(0, .box [.dat (.int .i64) y17.1.1, .all 1]), (1, .seq (.int .i64) y41.2.2)], 2⟩ hP hN (by kernel_rfl) allNil ?_
                          rcases of_bif hr with ⟨hb59, hr⟩ | ⟨hb59, hr⟩
                          · refine HT.cond1 rfl hb59 ?_
                            refine HT.reg1 [4] [⟨none, .no⟩] ⟨[(4, .one (.dat .bool false))], [(0, .box [.dat (.int .i64) y17.1.1, .all 1]), (1, .seq (.int .i64) y41.2.2)], 2⟩ hP hN (by kernel_rfl) allNil ?_
                            have hr := of_some hr
                            subst hr
                            exact HT.ret (qThenR ⟨[.one (.dat .bool false)], [], [], by kernel_rfl, by kernel_rfl, rfl, (.inl rfl), by kernel_rfl, trivial⟩)
                          · refine HT.cond0 rfl hb59 ?_
                            refine HT.skip (qThen ?_)
                            refine HT.seq ?_
                            refine HT.reg1 [118] [⟨none, .no⟩, ⟨none, .no⟩, ⟨none, .no⟩] ⟨[(118, .one (.dat .bool (y57 != y41.1)))], [(0, .box [.dat (.int .i64) y17.1.1, .all 1]), (1, .seq (.int .i64) y41.2.2)], 2⟩ hP hN (by kernel_rfl) allNil ?_
                            rcases of_bif hr with ⟨hb60, hr⟩ | ⟨hb60, hr⟩
                            · refine HT.cond1 rfl hb60 ?_
                              refine HT.reg1 [4] [⟨none, .no⟩] ⟨[(4, .one (.dat .bool false))], [(0, .box [.dat (.int .i64) y17.1.1, .all 1]), (1, .seq (.int .i64) y41.2.2)], 2⟩ hP hN (by kernel_rfl) allNil ?_
                              have hr := of_some hr
                              subst hr
                              exact HT.ret (qThenR ⟨[.one (.dat .bool false)], [], [], by kernel_rfl, by kernel_rfl, rfl, (.inl rfl), by kernel_rfl, trivial⟩)
                            · refine HT.cond0 rfl hb60 ?_
                              refine HT.skip (qThen ?_)
                              refine HT.reg1 [4] [⟨none, .no⟩] ⟨[(4, .one (.dat .bool true))], [(0, .box [.dat (.int .i64) y17.1.1, .all 1]), (1, .seq (.int .i64) y41.2.2)], 2⟩ hP hN (by kernel_rfl) allNil ?_
                              have hr := of_some hr
                              subst hr
                              exact HT.ret ⟨[.one (.dat .bool true)], [], [], by kernel_rfl, by kernel_rfl, rfl, (.inl rfl), by kernel_rfl, trivial⟩
                      · obtain ⟨y61, hc62, hT55⟩ := of_bind hT55
                        rcases of_bif hT55 with ⟨hb63, hT55⟩ | ⟨hb63, hT55⟩
                        · refine HT.reg (rs := [⟨none, .no⟩, ⟨none, .no⟩, ⟨none, .call [.imm (.st (.pair (.int .i64) (.sl (.int .i64)))), .imm (.st (.pair (.int .i64) (.sl (.int .i64))))] [⟨false, .bool, y61⟩] []⟩, ⟨none, .no⟩, ⟨none, .no⟩, ⟨some true, .no⟩, ⟨some true, .no⟩, ⟨some true, .no⟩, ⟨none, .tv true⟩]) (st' := ⟨[(110, .one (.dat .bool true)), (109, .und), (108, .und), (107, .und), (106, .one (.dat .bool (!y61))), (105, .one (.dat .bool (!y61))), (104, .one (.dat .bool y61)), (103, .agg [.dat (.int .i64) y11.1.1, .all 4]), (102, .agg [.dat (.int .i64) y51.1.1, .all 8]), (6, .one (.ptr 2 0)), (7, .one (.dat .bool y11.2)), (10, .one (.ptr 3 0)), (13, .one (.dat (.int .i64) y41.1)), (15, .one (.ptr 9 0)), (16, .one (.dat .bool y51.2))], [(9, .box [.dat (.int .i64) y51.1.1, .all 8]), (9, .box [.dat (.int .i64) (0 : Int), .nilS]), (8, .seq (.int .i64) y51.1.2), (7, .seq (.int .i64) y49.2), (6, .seq (.int .i64) y47.2), (5, .seq (.int .i64) y41.2.2), (0, .box [.dat (.int .i64) a0.1, .dat (.sl (.int .i64)) a0.2]), (1, .box [.dat (.int .i64) a1.1, .dat (.sl (.int .i64)) a1.2]), (2, .box [.dat (.int .i64) y11.1.1, .all 4]), (3, .box [.dat (.int .i64) y17.1.1, .all 5]), (4, .seq (.int .i64) y11.1.2), (5, .seq (.int .i64) y17.1.2)], 10⟩) hP hN (by kernel_rfl) (allCons (f20_ok hc62) (allCons hb63 (allCons hb63 (allCons hb63 (allCons hb63 allNil))))) (qThen ?_)
                          exact (Le.cv (s := ⟨[(3, 0), (5, 1)], [], [], false⟩) (own := []) (ps := [y41.1 = y41.1, true = true, y17.1.1 = y17.1.1, y41.2.2 = y41.2.2]) (st' := ⟨[(10, .one (.ptr 0 0)), (13, .one (.dat (.int .i64) y41.1)), (110, .one (.dat .bool true))], [(0, .box [.dat (.int .i64) y17.1.1, .all 1]), (1, .seq (.int .i64) y41.2.2)], 2⟩) hO (fun h => by cases h) (by kernel_rfl) ⟨rfl, rfl, rfl, rfl, trivial⟩).ht (cont true (of_some hT55))
                        · refine HT.reg (rs := [⟨none, .no⟩, ⟨none, .no⟩, ⟨none, .call [.imm (.st (.pair (.int .i64) (.sl (.int .i64)))), .imm (.st (.pair (.int .i64) (.sl (.int .i64))))] [⟨false, .bool, y61⟩] []⟩, ⟨none, .no⟩, ⟨none, .no⟩, ⟨some false, .no⟩, ⟨some false, .no⟩, ⟨some false, .no⟩, ⟨none, .tv false⟩]) (st' := ⟨[(110, .one (.dat .bool (y51.2 != y11.2))), (109, .one (.dat .bool (y51.2 != y11.2))), (108, .one (.dat .bool y11.2)), (107, .one (.dat .bool y51.2)), (106, .one (.dat .bool (!y61))), (105, .one (.dat .bool (!y61))), (104, .one (.dat .bool y61)), (103, .agg [.dat (.int .i64) y11.1.1, .all 4]), (102, .agg [.dat (.int .i64) y51.1.1, .all 8]), (6, .one (.ptr 2 0)), (7, .one (.dat .bool y11.2)), (10, .one (.ptr 3 0)), (13, .one (.dat (.int .i64) y41.1)), (15, .one (.ptr 9 0)), (16, .one (.dat .bool y51.2))], [(9, .box [.dat (.int .i64) y51.1.1, .all 8]), (9, .box [.dat (.int .i64) (0 : Int), .nilS]), (8, .seq (.int .i64) y51.1.2), (7, .seq (.int .i64) y49.2), (6, .seq (.int .i64) y47.2), (5, .seq (.int .i64) y41.2.2), (0, .box [.dat (.int .i64) a0.1, .dat (.sl (.int .i64)) a0.2]), (1, .box [.dat (.int .i64) a1.1, .dat (.sl (.int .i64)) a1.2]), (2, .box [.dat (.int .i64) y11.1.1, .all 4]), (3, .box [.dat (.int .i64) y17.1.1, .all 5]), (4, .seq (.int .i64) y11.1.2), (5, .seq (.int .i64) y17.1.2)], 10⟩) hP hN (by kernel_rfl) (allCons (f20_ok hc62) (allCons hb63 (allCons hb63 (allCons hb63 (allCons hb63 allNil))))) (qThen ?_)
                          exact (Le.cv (s := ⟨[(3, 0), (5, 1)], [], [], false⟩) (own := []) (ps := [y41.1 = y41.1, (y51.2 != y11.2) = (y51.2 != y11.2), y17.1.1 = y17.1.1, y41.2.2 = y41.2.2]) (st' := ⟨[(10, .one (.ptr 0 0)), (13, .one (.dat (.int .i64) y41.1)), (110, .one (.dat .bool (y51.2 != y11.2)))], [(0, .box [.dat (.int .i64) y17.1.1, .all 1]), (1, .seq (.int .i64) y41.2.2)], 2⟩) hO (fun h => by cases h) (by kernel_rfl) ⟨rfl, rfl, rfl, rfl, trivial⟩).ht (cont (y51.2 != y11.2) (of_some hT55))
              · rcases of_bif hT39 with ⟨hb64, hT39⟩ | ⟨hb64, hT39⟩
                · refine HT.reg (rs := [⟨none, .no⟩, ⟨none, .no⟩, ⟨none, .no⟩, ⟨some true, .no⟩, ⟨some true, .no⟩, ⟨some true, .no⟩, ⟨some true, .no⟩, ⟨none, .tv true⟩, ⟨none, .no⟩, ⟨some true, .no⟩, ⟨some true, .no⟩, ⟨some true, .no⟩, ⟨none, .tv true⟩]) (st' := ⟨[(82, .one (.dat .bool true)), (81, .und), (80, .und), (79, .und), (78, .one (.dat .bool true)), (77, .one (.dat .bool true)), (76, .und), (75, .und), (74, .und), (73, .und), (72, .one (.dat .bool (decide (y35.1 < (0 : Int))))), (71, .one (.dat .bool (decide (y35.1 < (0 : Int))))), (70, .one (.dat (.int .i64) y35.1)), (2, .one (.ptr 0 0)), (3, .one (.ptr 1 0)), (6, .one (.ptr 2 0)), (7, .one (.dat .bool y11.2)), (10, .one (.ptr 5 0)), (11, .one (.dat .bool y17.2)), (12, .one (.dat (.int .i64) y35.1))], [(8, .seq (.int .i64) y35.2.2), (7, .seq (.int .i64) y33.2.2), (11, .seq (.int .i64) y28.2), (10, .seq (.int .i64) y23.2), (0, .box [.dat (.int .i64) a0.1, .dat (.sl (.int .i64)) a0.2]), (1, .box [.dat (.int .i64) a1.1, .dat (.sl (.int .i64)) a1.2]), (2, .box [.dat (.int .i64) y11.1.1, .all 6]), (3, .box [.dat (.int .i64) y13.1, .all 7]), (4, .box [.dat (.int .i64) y15.1, .all 8]), (5, .box [.dat (.int .i64) y17.1.1, .all 9]), (6, .seq (.int .i64) y11.1.2), (7, .seq (.int .i64) y13.2), (8, .seq (.int .i64) y15.2), (9, .seq (.int .i64) y17.1.2)], 12⟩) hP hN (by kernel_rfl) (allCons hb64 (allCons hb64 (allCons hb64 (allCons hb64 (allCons hb64 (allCons (rfl : true = true) (allCons (rfl : true = true) (allCons (rfl : true = true) (allCons (rfl : true = true) allNil))))))))) (qThen ?_)
                  exact (Le.cv (s := ⟨[(0, 0), (1, 1), (2, 2), (5, 3), (6, 4), (9, 5)], [], [], false⟩) (own := []) (ps := [y11.2 = y11.2, true = true, a0.1 = a0.1, a0.2 = a0.2, a1.1 = a1.1, a1.2 = a1.2, y11.1.1 = y11.1.1, y17.1.1 = y17.1.1, y11.1.2 = y11.1.2, y17.1.2 = y17.1.2]) (st' := ⟨[(2, .one (.ptr 0 0)), (3, .one (.ptr 1 0)), (6, .one (.ptr 2 0)), (7, .one (.dat .bool y11.2)), (10, .one (.ptr 3 0)), (82, .one (.dat .bool true))], [(0, .box [.dat (.int .i64) a0.1, .dat (.sl (.int .i64)) a0.2]), (1, .box [.dat (.int .i64) a1.1, .dat (.sl (.int .i64)) a1.2]), (2, .box [.dat (.int .i64) y11.1.1, .all 4]), (3, .box [.dat (.int .i64) y17.1.1, .all 5]), (4, .seq (.int .i64) y11.1.2), (5, .seq (.int .i64) y17.1.2)], 6⟩) hO (fun h => by cases h) (by kernel_rfl) ⟨rfl, rfl, rfl, rfl, rfl, rfl, rfl, rfl, rfl, rfl, trivial⟩).ht (cont true (of_some hT39))
                · obtain ⟨y65, hc66, hT39⟩ := of_bind hT39
                  rcases of_bif hT39 with ⟨hb67, hT39⟩ | ⟨hb67, hT39⟩
                  · refine HT.reg (rs := [⟨none, .no⟩, ⟨none, .no⟩, ⟨none, .no⟩, ⟨some false, .no⟩, ⟨some false, .no⟩, ⟨some false, .call [.imm (.st (.pair (.int .i64) (.sl (.int .i64)))), .imm (.st (.pair (.int .i64) (.sl (.int .i64))))] [⟨false, .bool, y65⟩] []⟩, ⟨some false, .no⟩, ⟨none, .tv false⟩, ⟨none, .no⟩, ⟨some true, .no⟩, ⟨some true, .no⟩, ⟨some true, .no⟩, ⟨none, .tv true⟩]) (st' := ⟨[(82, .one (.dat .bool true)), (81, .und), (80, .und), (79, .und), (78, .one (.dat .bool (!y65))), (77, .one (.dat .bool (!y65))), (76, .one (.dat .bool (!y65))), (75, .one (.dat .bool y65)), (74, .agg [.dat (.int .i64) y11.1.1, .all 6]), (73, .agg [.dat (.int .i64) y17.1.1, .all 9]), (72, .one (.dat .bool (decide (y35.1 < (0 : Int))))), (71, .one (.dat .bool (decide (y35.1 < (0 : Int))))), (70, .one (.dat (.int .i64) y35.1)), (2, .one (.ptr 0 0)), (3, .one (.ptr 1 0)), (6, .one (.ptr 2 0)), (7, .one (.dat .bool y11.2)), (10, .one (.ptr 5 0)), (11, .one (.dat .bool y17.2)), (12, .one (.dat (.int .i64) y35.1))], [(8, .seq (.int .i64) y35.2.2), (7, .seq (.int .i64) y33.2.2), (11, .seq (.int .i64) y28.2), (10, .seq (.int .i64) y23.2), (0, .box [.dat (.int .i64) a0.1, .dat (.sl (.int .i64)) a0.2]), (1, .box [.dat (.int .i64) a1.1, .dat (.sl (.int .i64)) a1.2]), (2, .box [.dat (.int .i64) y11.1.1, .all 6]), (3, .box [.dat (.int .i64) y13.1, .all 7]), (4, .box [.dat (.int .i64) y15.1, .all 8]), (5, .box [.dat (.int .i64) y17.1.1, .all 9]), (6, .seq (.int .i64) y11.1.2), (7, .seq (.int .i64) y13.2), (8, .seq (.int .i64) y15.2), (9, .seq (.int .i64) y17.1.2)], 12⟩) hP hN (by kernel_rfl) (allCons hb64 (allCons hb64 (allCons hb64 (allCons (f20_ok hc66) (allCons hb64 (allCons hb64 (allCons hb67 (allCons hb67 (allCons hb67 (allCons hb67 allNil)))))))))) (qThen ?_)
                    exact (Le.cv (s := ⟨[(0, 0), (1, 1), (2, 2), (5, 3), (6, 4), (9, 5)], [], [], false⟩) (own := []) (ps := [y11.2 = y11.2, true = true, a0.1 = a0.1, a0.2 = a0.2, a1.1 = a1.1, a1.2 = a1.2, y11.1.1 = y11.1.1, y17.1.1 = y17.1.1, y11.1.2 = y11.1.2, y17.1.2 = y17.1.2]) (st' := ⟨[(2, .one (.ptr 0 0)), (3, .one (.ptr 1 0)), (6, .one (.ptr 2 0)), (7, .one (.dat .bool y11.2)), (10, .one (.ptr 3 0)), (82, .one (.dat .bool true))], [(0, .box [.dat (.int .i64) a0.1, .dat (.sl (.int .i64)) a0.2]), (1, .box [.dat (.int .i64) a1.1, .dat (.sl (.int .i64)) a1.2]), (2, .box [.dat (.int .i64) y11.1.1, .all 4]), (3, .box [.dat (.int .i64) y17.1.1, .all 5]), (4, .seq (.int .i64) y11.1.2), (5, .seq (.int .i64) y17.1.2)], 6⟩) hO (fun h => by cases h) (by kernel_rfl) ⟨rfl, rfl, rfl, rfl, rfl, rfl, rfl, rfl, rfl, rfl, trivial⟩).ht (cont true (of_some hT39))
                  · refine HT.reg (rs := [⟨none, .no⟩, ⟨none, .no⟩, ⟨none, .no⟩, ⟨some false, .no⟩, ⟨some false, .no⟩, ⟨some false, .call [.imm (.st (.pair (.int .i64) (.sl (.int .i64)))), .imm (.st (.pair (.int .i64) (.sl (.int .i64))))] [⟨false, .bool, y65⟩] []⟩, ⟨some false, .no⟩, ⟨none, .tv false⟩, ⟨none, .no⟩, ⟨some false, .no⟩, ⟨some false, .no⟩, ⟨some false, .no⟩, ⟨none, .tv false⟩]) (st' := ⟨[(82, .one (.dat .bool (y17.2 != y11.2))), (81, .one (.dat .bool (y17.2 != y11.2))), (80, .one (.dat .bool y11.2)), (79, .one (.dat .bool y17.2)), (78, .one (.dat .bool (!y65))), (77, .one (.dat .bool (!y65))), (76, .one (.dat .bool (!y65))), (75, .one (.dat .bool y65)), (74, .agg [.dat (.int .i64) y11.1.1, .all 6]), (73, .agg [.dat (.int .i64) y17.1.1, .all 9]), (72, .one (.dat .bool (decide (y35.1 < (0 : Int))))), (71, .one (.dat .bool (decide (y35.1 < (0 : Int))))), (70, .one (.dat (.int .i64) y35.1)), (2, .one (.ptr 0 0)), (3, .one (.ptr 1 0)), (6, .one (.ptr 2 0)), (7, .one (.dat .bool y11.2)), (10, .one (.ptr 5 0)), (11, .one (.dat .bool y17.2)), (12, .one (.dat (.int .i64) y35.1))], [(8, .seq (.int .i64) y35.2.2), (7, .seq (.int .i64) y33.2.2), (11, .seq (.int .i64) y28.2), (10, .seq (.int .i64) y23.2), (0, .box [.dat (.int .i64) a0.1, .dat (.sl (.int .i64)) a0.2]), (1, .box [.dat (.int .i64) a1.1, .dat (.sl (.int .i64)) a1.2]), (2, .box [.dat (.int .i64) y11.1.1, .all 6]), (3, .box [.dat (.int .i64) y13.1, .all 7]), (4, .box [.dat (.int .i64) y15.1, .all 8]), (5, .box [.dat (.int .i64) y17.1.1, .all 9]), (6, .seq (.int .i64) y11.1.2), (7, .seq (.int .i64) y13.2), (8, .seq (.int .i64) y15.2), (9, .seq (.int .i64) y17.1.2)], 12⟩) hP hN (by kernel_rfl) (allCons hb64 (allCons hb64 (allCons hb64 (allCons (f20_ok hc66) (allCons hb64 (allCons hb64 (allCons hb67 (allCons hb67 (allCons hb67 (allCons hb67 allNil)))))))))) (qThen ?_)
                    exact (Le.cv (s := ⟨[(0, 0), (1, 1), (2, 2), (5, 3), (6, 4), (9, 5)], [], [], false⟩) (own := []) (ps := [y11.2 = y11.2, (y17.2 != y11.2) = (y17.2 != y11.2), a0.1 = a0.1, a0.2 = a0.2, a1.1 = a1.1, a1.2 = a1.2, y11.1.1 = y11.1.1, y17.1.1 = y17.1.1, y11.1.2 = y11.1.2, y17.1.2 = y17.1.2]) (st' := ⟨[(2, .one (.ptr 0 0)), (3, .one (.ptr 1 0)), (6, .one (.ptr 2 0)), (7, .one (.dat .bool y11.2)), (10, .one (.ptr 3 0)), (82, .one (.dat .bool (y17.2 != y11.2)))], [(0, .box [.dat (.int .i64) a0.1, .dat (.sl (.int .i64)) a0.2]), (1, .box [.dat (.int .i64) a1.1, .dat (.sl (.int .i64)) a1.2]), (2, .box [.dat (.int .i64) y11.1.1, .all 4]), (3, .box [.dat (.int .i64) y17.1.1, .all 5]), (4, .seq (.int .i64) y11.1.2), (5, .seq (.int .i64) y17.1.2)], 6⟩) hO (fun h => by cases h) (by kernel_rfl) ⟨rfl, rfl, rfl, rfl, rfl, rfl, rfl, rfl, rfl, rfl, trivial⟩).ht (cont (y17.2 != y11.2) (of_some hT39))
      · obtain ⟨y68, hc69, hT21⟩ := of_bind hT21
        rcases of_bif hT21 with ⟨hb70, hT21⟩ | ⟨hb70, hT21⟩
        · refine HT.reg (rs := [⟨none, .no⟩, ⟨none, .no⟩, ⟨none, .call [.imm (.st (.pair (.int .i64) (.sl (.int .i64)))), .imm (.st (.pair (.int .i64) (.sl (.int .i64))))] [⟨false, .bool, y68⟩] []⟩, ⟨none, .no⟩, ⟨none, .no⟩, ⟨some true, .no⟩, ⟨some true, .no⟩, ⟨some true, .no⟩, ⟨none, .tv true⟩]) (st' := ⟨[(53, .one (.dat .bool true)), (52, .und), (51, .und), (50, .und), (49, .one (.dat .bool (!y68))), (48, .one (.dat .bool (!y68))), (47, .one (.dat .bool y68)), (46, .agg [.dat (.int .i64) y11.1.1, .all 4]), (45, .agg [.dat (.int .i64) y17.1.1, .all 10]), (2, .one (.ptr 0 0)), (3, .one (.ptr 1 0)), (6, .one (.ptr 5 0)), (7, .one (.dat .bool y11.2)), (8, .one (.ptr 7 0)), (9, .one (.ptr 9 0)), (10, .one (.ptr 11 0)), (11, .one (.dat .bool y17.2))], [(11, .box [.dat (.int .i64) y17.1.1, .all 10]), (11, .box [.dat (.int .i64) (0 : Int), .nilS]), (10, .seq (.int .i64) y17.1.2), (9, .box [.dat (.int .i64) y15.1, .all 8]), (9, .box [.dat (.int .i64) (0 : Int), .nilS]), (8, .seq (.int .i64) y15.2), (7, .box [.dat (.int .i64) y13.1, .all 6]), (7, .box [.dat (.int .i64) (0 : Int), .nilS]), (6, .seq (.int .i64) y13.2), (5, .box [.dat (.int .i64) y11.1.1, .all 4]), (5, .box [.dat (.int .i64) (0 : Int), .nilS]), (4, .seq (.int .i64) y11.1.2), (3, .seq (.int .i64) y9.2), (2, .seq (.int .i64) y7.2), (1, .box [.dat (.int .i64) a1.1, .dat (.sl (.int .i64)) a1.2]), (0, .box [.dat (.int .i64) a0.1, .dat (.sl (.int .i64)) a0.2])], 12⟩) hP hN (by kernel_rfl) (allCons (f20_ok hc69) (allCons hb70 (allCons hb70 (allCons hb70 (allCons hb70 allNil))))) (qThen ?_)
          exact (Le.cv (s := ⟨[(0, 0), (1, 1), (5, 2), (7, 3), (9, 4), (11, 5), (4, 6), (6, 7), (8, 8), (10, 9)], [], [], false⟩) (own := []) (ps := [y11.2 = y11.2, y17.2 = y17.2, true = true, a0.1 = a0.1, a0.2 = a0.2, a1.1 = a1.1, a1.2 = a1.2, y11.1.1 = y11.1.1, y13.1 = y13.1, y15.1 = y15.1, y17.1.1 = y17.1.1, y11.1.2 = y11.1.2, y13.2 = y13.2, y15.2 = y15.2, y17.1.2 = y17.1.2]) (st' := ⟨[(2, .one (.ptr 0 0)), (3, .one (.ptr 1 0)), (6, .one (.ptr 2 0)), (7, .one (.dat .bool y11.2)), (8, .one (.ptr 3 0)), (9, .one (.ptr 4 0)), (10, .one (.ptr 5 0)), (11, .one (.dat .bool y17.2)), (53, .one (.dat .bool true))], [(0, .box [.dat (.int .i64) a0.1, .dat (.sl (.int .i64)) a0.2]), (1, .box [.dat (.int .i64) a1.1, .dat (.sl (.int .i64)) a1.2]), (2, .box [.dat (.int .i64) y11.1.1, .all 6]), (3, .box [.dat (.int .i64) y13.1, .all 7]), (4, .box [.dat (.int .i64) y15.1, .all 8]), (5, .box [.dat (.int .i64) y17.1.1, .all 9]), (6, .seq (.int .i64) y11.1.2), (7, .seq (.int .i64) y13.2), (8, .seq (.int .i64) y15.2), (9, .seq (.int .i64) y17.1.2)], 10⟩) hO (fun h => by cases h) (by kernel_rfl) ⟨rfl, rfl, rfl, rfl, rfl, rfl, rfl, rfl, rfl, rfl, rfl, rfl, rfl, rfl, rfl, trivial⟩).ht (cont true (of_some hT21))
        · refine HT.reg (rs := [⟨none, .no⟩, ⟨none, .no⟩, ⟨none, .call [.imm (.st (.pair (.int .i64) (.sl (.int .i64)))), .imm (.st (.pair (.int .i64) (.sl (.int .i64))))] [⟨false, .bool, y68⟩] []⟩, ⟨none, .no⟩, ⟨none, .no⟩, ⟨some false, .no⟩, ⟨some false, .no⟩, ⟨some false, .no⟩, ⟨none, .tv false⟩]) (st' := ⟨[(53, .one (.dat .bool (y17.2 != y11.2))), (52, .one (.dat .bool (y17.2 != y11.2))), (51, .one (.dat .bool y11.2)), (50, .one (.dat .bool y17.2)), (49, .one (.dat .bool (!y68))), (48, .one (.dat .bool (!y68))), (47, .one (.dat .bool y68)), (46, .agg [.dat (.int .i64) y11.1.1, .all 4]), (45, .agg [.dat (.int .i64) y17.1.1, .all 10]), (2, .one (.ptr 0 0)), (3, .one (.ptr 1 0)), (6, .one (.ptr 5 0)), (7, .one (.dat .bool y11.2)), (8, .one (.ptr 7 0)), (9, .one (.ptr 9 0)), (10, .one (.ptr 11 0)), (11, .one (.dat .bool y17.2))], [(11, .box [.dat (.int .i64) y17.1.1, .all 10]), (11, .box [.dat (.int .i64) (0 : Int), .nilS]), (10, .seq (.int .i64) y17.1.2), (9, .box [.dat (.int .i64) y15.1, .all 8]), (9, .box [.dat (.int .i64) (0 : Int), .nilS]), (8, .seq (.int .i64) y15.2), (7, .box [.dat (.int .i64) y13.1, .all 6]), (7, .box [.dat (.int .i64) (0 : Int), .nilS]), (6, .seq (.int .i64) y13.2), (5, .box [.dat (.int .i64) y11.1.1, .all 4]), (5, .box [.dat (.int .i64) (0 : Int), .nilS]), (4, .seq (.int .i64) y11.1.2), (3, .seq (.int .i64) y9.2), (2, .seq (.int .i64) y7.2), (1, .box [.dat (.int .i64) a1.1, .dat (.sl (.int .i64)) a1.2]), (0, .box [.dat (.int .i64) a0.1, .dat (.sl (.int .i64)) a0.2])], 12⟩) hP hN (by kernel_rfl) (allCons (f20_ok hc69) (allCons hb70 (allCons hb70 (allCons hb70 (allCons hb70 allNil))))) (qThen ?_)
          exact (Le.cv (s := ⟨[(0, 0), (1, 1), (5, 2), (7, 3), (9, 4), (11, 5), (4, 6), (6, 7), (8, 8), (10, 9)], [], [], false⟩) (own := []) (ps := [y11.2 = y11.2, y17.2 = y17.2, (y17.2 != y11.2) = (y17.2 != y11.2), a0.1 = a0.1, a0.2 = a0.2, a1.1 = a1.1, a1.2 = a1.2, y11.1.1 = y11.1.1, y13.1 = y13.1, y15.1 = y15.1, y17.1.1 = y17.1.1, y11.1.2 = y11.1.2, y13.2 = y13.2, y15.2 = y15.2, y17.1.2 = y17.1.2]) (st' := ⟨[(2, .one (.ptr 0 0)), (3, .one (.ptr 1 0)), (6, .one (.ptr 2 0)), (7, .one (.dat .bool y11.2)), (8, .one (.ptr 3 0)), (9, .one (.ptr 4 0)), (10, .one (.ptr 5 0)), (11, .one (.dat .bool y17.2)), (53, .one (.dat .bool (y17.2 != y11.2)))], [(0, .box [.dat (.int .i64) a0.1, .dat (.sl (.int .i64)) a0.2]), (1, .box [.dat (.int .i64) a1.1, .dat (.sl (.int .i64)) a1.2]), (2, .box [.dat (.int .i64) y11.1.1, .all 6]), (3, .box [.dat (.int .i64) y13.1, .all 7]), (4, .box [.dat (.int .i64) y15.1, .all 8]), (5, .box [.dat (.int .i64) y17.1.1, .all 9]), (6, .seq (.int .i64) y11.1.2), (7, .seq (.int .i64) y13.2), (8, .seq (.int .i64) y15.2), (9, .seq (.int .i64) y17.1.2)], 10⟩) hO (fun h => by cases h) (by kernel_rfl) ⟨rfl, rfl, rfl, rfl, rfl, rfl, rfl, rfl, rfl, rfl, rfl, rfl, rfl, rfl, rfl, trivial⟩).ht (cont (y17.2 != y11.2) (of_some hT21))

noncomputable def spec_TightZone (a0 : Int × List Int) : Option ((Int × List Int) × Bool) :=
  (spec_l07Zone (a0.1, a0.2)).bind fun y1 =>
  bif (!y1) then
    some (((0 : Int), ([] : List Int)), false)
  else
    (spec_l07Tight (a0.1, a0.2)).bind fun y4 =>
    some ((y4.1.1, y4.1.2), y4.2)

theorem f54_ok {a0 : Int × List Int} {r : (Int × List Int) × Bool} (hr : spec_TightZone a0 = some r) : CallOK Try.prog 54 [.imm (.st (.pair (.int .i64) (.sl (.int .i64)))) a0] [⟨true, (.st (.pair (.int .i64) (.sl (.int .i64)))), r.1⟩, ⟨false, .bool, r.2⟩] [] := by
  unfold spec_TightZone at hr
  refine CallOK.of_body (ts := [(true, (.st (.pair (.int .i64) (.sl (.int .i64))))), (false, .bool)]) Try.func54 rfl (by kernel_rfl) (Nat.le_of_ble_eq_true (by kernel_rfl)) fun cx hP hN hO hF => ?_
  have hO : cx.own.map Prod.fst = [] := hO
  show HT cx ⟨[(0, .agg [.dat (.int .i64) a0.1, .dat (.sl (.int .i64)) a0.2])], [], 0⟩ _ _
  refine HT.reg1 [1, 2] [⟨none, .no⟩, ⟨none, .no⟩, ⟨none, .no⟩] ⟨[(1, .one (.ptr 0 0)), (2, .one (.ptr 1 0))], [(1, .box [.dat (.int .i64) (0 : Int), .nilS]), (0, .box [.dat (.int .i64) a0.1, .dat (.sl (.int .i64)) a0.2])], 2⟩ hP hN (by kernel_rfl) allNil ?_
  refine HT.seq ?_
  obtain ⟨y1, hc2, hr⟩ := of_bind hr
  refine HT.reg1 [1, 2, 5] [⟨none, .call [.pimm (.st (.pair (.int .i64) (.sl (.int .i64))))] [⟨false, .bool, y1⟩] []⟩, ⟨none, .no⟩] ⟨[(1, .one (.ptr 0 0)), (2, .one (.ptr 1 0)), (5, .one (.dat .bool (!y1)))], [(1, .box [.dat (.int .i64) (0 : Int), .nilS]), (0, .box [.dat (.int .i64) a0.1, .dat (.sl (.int .i64)) a0.2])], 2⟩ hP hN (by kernel_rfl) (allCons (f49_ok hc2) allNil) ?_
  rcases of_bif hr with ⟨hb3, hr⟩ | ⟨hb3, hr⟩
  · refine HT.cond1 rfl hb3 ?_
    refine HT.reg1 [2, 3] [⟨none, .no⟩, ⟨none, .no⟩, ⟨none, .no⟩] ⟨[(2, .one (.ptr 1 0)), (3, .one (.dat .bool false))], [(1, .box [.dat (.int .i64) (0 : Int), .nilS]), (1, .box [.dat (.int .i64) (0 : Int), .nilS]), (0, .box [.dat (.int .i64) a0.1, .dat (.sl (.int .i64)) a0.2])], 2⟩ hP hN (by kernel_rfl) allNil ?_
    have hr := of_some hr
    subst hr
    exact HT.ret (qThenR ⟨[.agg [.dat (.int .i64) (0 : Int), .nilS], .one (.dat .bool false)], [], [], by kernel_rfl, by kernel_rfl, rfl, (.inl rfl), by kernel_rfl, trivial⟩)
  · refine HT.cond0 rfl hb3 ?_
    refine HT.skip (qThen ?_)
    obtain ⟨y4, hc5, hr⟩ := of_bind hr
    refine HT.reg1 [2, 3] [⟨none, .call [.pimm (.st (.pair (.int .i64) (.sl (.int .i64))))] [⟨true, (.st (.pair (.int .i64) (.sl (.int .i64)))), y4.1⟩, ⟨false, .bool, y4.2⟩] []⟩, ⟨none, .no⟩, ⟨none, .no⟩, ⟨none, .no⟩, ⟨none, .no⟩] ⟨[(2, .one (.ptr 1 0)), (3, .one (.dat .bool y4.2))], [(1, .box [.dat (.int .i64) y4.1.1, .all 2]), (2, .seq (.int .i64) y4.1.2), (1, .box [.dat (.int .i64) (0 : Int), .nilS]), (0, .box [.dat (.int .i64) a0.1, .dat (.sl (.int .i64)) a0.2])], 3⟩ hP hN (by kernel_rfl) (allCons (f51_ok hc5) allNil) ?_
    have hr := of_some hr
    subst hr
    exact HT.ret ⟨[.agg [.dat (.int .i64) y4.1.1, .all 2], .one (.dat .bool y4.2)], [2], [], by kernel_rfl, by kernel_rfl, rfl, (.inl rfl), by kernel_rfl, trivial⟩

end Go.Proofs
