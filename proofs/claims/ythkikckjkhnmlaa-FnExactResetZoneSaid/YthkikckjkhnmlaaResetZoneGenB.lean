import Derived.Test.YthkikckjkhnmlaaResetZoneGenA
import Derived.Test.YthkikckjkhnmlaaProg
set_option linter.unusedVariables false
set_option linter.unusedSimpArgs false
/-
  Functions as plain functions, and their contracts. Printed by a program.
-/
namespace Go.Proofs
open Go.Ide

noncomputable def impl_TightZone_B1 (a0 : Int × List Int) (s8 : Int × List Int) (s20 : Int × List Int) (y27 : Int) (s29 : Int × List Int) : Option ((Int × List Int) ⊕ (List Int)) :=
  bif (decide (s29.1 < y27)) then
    (show Option (List Int) from
      (impl_Zone_at (a0.1, a0.2) s20.1 s8.1).bind fun y39 =>
      guardP ((0 : Int) ≤ y39 ∧ y39 < lenI s29.2) (
        (impl_Zone_at (a0.1, a0.2) s8.1 s29.1).bind fun y42 =>
        guardP ((0 : Int) ≤ y42 ∧ y42 < lenI s29.2) (
          (show Option (Bool) from
            bif ((List.getD s29.2 (Int.toNat y39) (0 : Int)) != (1000000000 : Int)) then
              some ((List.getD s29.2 (Int.toNat y42) (0 : Int)) != (1000000000 : Int))
            else
              some false).bind fun v45 =>
          bif v45 then
            (impl_Zone_at (a0.1, a0.2) s20.1 s29.1).bind fun y49 =>
            (impl_Zone_at (a0.1, a0.2) s20.1 s29.1).bind fun y51 =>
            guardP ((0 : Int) ≤ y51 ∧ y51 < lenI s29.2) (
              guardP ((0 : Int) ≤ y49 ∧ y49 < lenI s29.2) (
                some (List.set s29.2 (Int.toNat y49) (if (wadd .i64 (List.getD s29.2 (Int.toNat y39) (0 : Int)) (List.getD s29.2 (Int.toNat y42) (0 : Int))) < (List.getD s29.2 (Int.toNat y51) (0 : Int)) then (wadd .i64 (List.getD s29.2 (Int.toNat y39) (0 : Int)) (List.getD s29.2 (Int.toNat y42) (0 : Int))) else (List.getD s29.2 (Int.toNat y51) (0 : Int))))))
          else
            some s29.2))).bind fun v36 =>
    some (.inl ((wadd .i64 s29.1 (1 : Int)), v36))
  else
    some (.inr s29.2)

noncomputable def impl_TightZone_B2 (a0 : Int × List Int) (s8 : Int × List Int) (y18 : Int) (s20 : Int × List Int) : Option ((Int × List Int) ⊕ (List Int)) :=
  bif (decide (s20.1 < y18)) then
    (impl_Zone_wide (a0.1, a0.2)).bind fun y27 =>
    (rounds (impl_TightZone_B1 a0 s8 s20 y27) ((0 : Int), s20.2)).bind fun r31 =>
    some (.inl ((wadd .i64 s20.1 (1 : Int)), r31))
  else
    some (.inr s20.2)

noncomputable def impl_TightZone_B3 (a0 : Int × List Int) (y6 : Int) (s8 : Int × List Int) : Option ((Int × List Int) ⊕ (List Int)) :=
  bif (decide (s8.1 < y6)) then
    (impl_Zone_wide (a0.1, a0.2)).bind fun y18 =>
    (rounds (impl_TightZone_B2 a0 s8 y18) ((0 : Int), s8.2)).bind fun r22 =>
    some (.inl ((wadd .i64 s8.1 (1 : Int)), r22))
  else
    some (.inr s8.2)

noncomputable def impl_TightZone (a0 : Int × List Int) : Option ((Int × List Int) × Bool) :=
  (impl_ValidZone (a0.1, a0.2)).bind fun y1 =>
  bif (!y1) then
    some (((0 : Int), ([] : List Int)), false)
  else
    (slices_Clone a0.2).bind fun y4 =>
    (impl_Zone_wide (a0.1, a0.2)).bind fun y6 =>
    (rounds (impl_TightZone_B3 a0 y6) ((0 : Int), y4)).bind fun r10 =>
    (impl_ValidZone (a0.1, r10)).bind fun y11 =>
    bif (!y11) then
      some (((0 : Int), ([] : List Int)), false)
    else
      some ((a0.1, r10), true)

theorem f53_ok {a0 : Int × List Int} {r : (Int × List Int) × Bool} (hr : impl_TightZone a0 = some r) : CallOK Try.prog 53 [.imm (.st (.pair (.int .i64) (.sl (.int .i64)))) a0] [⟨true, (.st (.pair (.int .i64) (.sl (.int .i64)))), r.1⟩, ⟨false, .bool, r.2⟩] [] := by
  unfold impl_TightZone at hr
  refine CallOK.of_body (ts := [(true, (.st (.pair (.int .i64) (.sl (.int .i64))))), (false, .bool)]) Try.func53 rfl (by kernel_rfl) (Nat.le_of_ble_eq_true (by kernel_rfl)) fun cx hP hN hO hF => ?_
  have hO : cx.own.map Prod.fst = [] := hO
  show HT cx ⟨[(0, .agg [.dat (.int .i64) a0.1, .dat (.sl (.int .i64)) a0.2])], [], 0⟩ _ _
  refine HT.reg1 [1, 2] [⟨none, .no⟩, ⟨none, .no⟩, ⟨none, .no⟩] ⟨[(1, .one (.ptr 0 0)), (2, .one (.ptr 1 0))], [(1, .box [.dat (.int .i64) (0 : Int), .nilS]), (0, .box [.dat (.int .i64) a0.1, .dat (.sl (.int .i64)) a0.2])], 2⟩ hP hN (by kernel_rfl) allNil ?_
  refine HT.seq ?_
  obtain ⟨y1, hc2, hr⟩ := of_bind hr
  refine HT.reg1 [1, 2, 12] [⟨none, .no⟩, ⟨none, .call [.imm (.st (.pair (.int .i64) (.sl (.int .i64))))] [⟨false, .bool, y1⟩] []⟩, ⟨none, .no⟩] ⟨[(1, .one (.ptr 0 0)), (2, .one (.ptr 1 0)), (12, .one (.dat .bool (!y1)))], [(1, .box [.dat (.int .i64) (0 : Int), .nilS]), (0, .box [.dat (.int .i64) a0.1, .dat (.sl (.int .i64)) a0.2])], 2⟩ hP hN (by kernel_rfl) (allCons (f52_ok hc2) allNil) ?_
  rcases of_bif hr with ⟨hb3, hr⟩ | ⟨hb3, hr⟩
  · refine HT.cond1 rfl hb3 ?_
    refine HT.reg1 [2, 3] [⟨none, .no⟩, ⟨none, .no⟩, ⟨none, .no⟩] ⟨[(2, .one (.ptr 1 0)), (3, .one (.dat .bool false))], [(1, .box [.dat (.int .i64) (0 : Int), .nilS]), (1, .box [.dat (.int .i64) (0 : Int), .nilS]), (0, .box [.dat (.int .i64) a0.1, .dat (.sl (.int .i64)) a0.2])], 2⟩ hP hN (by kernel_rfl) allNil ?_
    have hr := of_some hr
    subst hr
    exact HT.ret (qThenR ⟨[.agg [.dat (.int .i64) (0 : Int), .nilS], .one (.dat .bool false)], [], [], by kernel_rfl, by kernel_rfl, rfl, (.inl rfl), by kernel_rfl, trivial⟩)
  · refine HT.cond0 rfl hb3 ?_
    refine HT.skip (qThen ?_)
    obtain ⟨y4, hc5, hr⟩ := of_bind hr
    refine HT.drw1 [1, 2, 4] 7 [⟨⟨none, .no⟩, []⟩, ⟨⟨none, .no⟩, [0]⟩, ⟨⟨none, .no⟩, []⟩, ⟨⟨none, .no⟩, [2]⟩, ⟨⟨none, .call [.imm (.sl (.int .i64))] [⟨true, (.sl (.int .i64)), y4⟩] []⟩, [2, 3]⟩, ⟨⟨none, .no⟩, [0, 1, 2, 3, 4]⟩, ⟨⟨none, .no⟩, []⟩] [[0, 1, 2, 3, 4, 5, 6]] [⟨none, .no⟩] ⟨[(1, .one (.ptr 0 0)), (2, .one (.ptr 1 0)), (4, .one (.ptr 3 0))], [(3, .box [.dat (.int .i64) a0.1, .all 2]), (3, .box [.dat (.int .i64) (0 : Int), .nilS]), (2, .seq (.int .i64) y4), (1, .box [.dat (.int .i64) (0 : Int), .nilS]), (0, .box [.dat (.int .i64) a0.1, .dat (.sl (.int .i64)) a0.2])], 4⟩ hP hN (by kernel_rfl) (by kernel_rfl) (allCons (f44_ok hc5) allNil) ?_
    refine HT.seq ?_
    obtain ⟨y6, hc7, hr⟩ := of_bind hr
    refine HT.reg1 [1, 2, 4, 21, 22] [⟨none, .no⟩, ⟨none, .call [.imm (.st (.pair (.int .i64) (.sl (.int .i64))))] [⟨false, (.int .i64), y6⟩] []⟩, ⟨none, .no⟩] ⟨[(1, .one (.ptr 0 0)), (2, .one (.ptr 1 0)), (4, .one (.ptr 3 0)), (21, .one (.dat (.int .i64) y6)), (22, .one (.dat (.int .i64) (0 : Int)))], [(3, .box [.dat (.int .i64) a0.1, .all 2]), (3, .box [.dat (.int .i64) (0 : Int), .nilS]), (2, .seq (.int .i64) y4), (1, .box [.dat (.int .i64) (0 : Int), .nilS]), (0, .box [.dat (.int .i64) a0.1, .dat (.sl (.int .i64)) a0.2])], 4⟩ hP hN (by kernel_rfl) (allCons (f58_ok hc7) allNil) ?_
    refine HT.block ?_
    obtain ⟨r9, hL58, hr⟩ := of_bind hr
    refine (Le.cv (s := ⟨[(0, 0), (1, 1), (3, 2), (2, 3)], [], [], false⟩) (own := []) (ps := [y6 = y6, (0 : Int) = (0 : Int), a0.1 = a0.1, a0.2 = a0.2, (0 : Int) = (0 : Int), a0.1 = a0.1, y4 = y4]) (st' := ⟨[(1, .one (.ptr 0 0)), (2, .one (.ptr 1 0)), (4, .one (.ptr 2 0)), (21, .one (.dat (.int .i64) y6)), (22, .one (.dat (.int .i64) (0 : Int)))], [(0, .box [.dat (.int .i64) a0.1, .dat (.sl (.int .i64)) a0.2]), (1, .box [.dat (.int .i64) (0 : Int), .nilS]), (2, .box [.dat (.int .i64) a0.1, .all 3]), (3, .seq (.int .i64) y4)], 4⟩) hO (fun h => by cases h) (by kernel_rfl) ⟨rfl, rfl, rfl, rfl, rfl, rfl, rfl, trivial⟩).ht ?_
    refine HT.loopE (s := ((0 : Int), y4)) (fun (s8 : Int × List Int) => ⟨[(1, .one (.ptr 0 0)), (2, .one (.ptr 1 0)), (4, .one (.ptr 2 0)), (21, .one (.dat (.int .i64) y6)), (22, .one (.dat (.int .i64) s8.1))], [(0, .box [.dat (.int .i64) a0.1, .dat (.sl (.int .i64)) a0.2]), (1, .box [.dat (.int .i64) (0 : Int), .nilS]), (2, .box [.dat (.int .i64) a0.1, .all 3]), (3, .seq (.int .i64) s8.2)], 4⟩) (fun (r10 : List Int) => (.exit 0, ⟨[(2, .one (.ptr 0 0)), (4, .one (.ptr 1 0))], [(0, .box [.dat (.int .i64) (0 : Int), .nilS]), (1, .box [.dat (.int .i64) a0.1, .all 2]), (2, .seq (.int .i64) r10)], 3⟩)) hL58 ?_ (fun s8 x14 hx15 hk16 => ?_)
    · refine (qBlockX (qThen ?_))
      refine HT.seq ?_
      obtain ⟨y11, hc12, hr⟩ := of_bind hr
      refine HT.reg1 [2, 4, 81] [⟨none, .no⟩, ⟨none, .call [.imm (.st (.pair (.int .i64) (.sl (.int .i64))))] [⟨false, .bool, y11⟩] []⟩, ⟨none, .no⟩] ⟨[(2, .one (.ptr 0 0)), (4, .one (.ptr 1 0)), (81, .one (.dat .bool (!y11)))], [(0, .box [.dat (.int .i64) (0 : Int), .nilS]), (1, .box [.dat (.int .i64) a0.1, .all 2]), (2, .seq (.int .i64) r9)], 3⟩ hP hN (by kernel_rfl) (allCons (f52_ok hc12) allNil) ?_
      rcases of_bif hr with ⟨hb13, hr⟩ | ⟨hb13, hr⟩
      · refine HT.cond1 rfl hb13 ?_
        refine HT.reg1 [2, 3] [⟨none, .no⟩, ⟨none, .no⟩, ⟨none, .no⟩] ⟨[(2, .one (.ptr 0 0)), (3, .one (.dat .bool false))], [(0, .box [.dat (.int .i64) (0 : Int), .nilS]), (0, .box [.dat (.int .i64) (0 : Int), .nilS]), (1, .box [.dat (.int .i64) a0.1, .all 2]), (2, .seq (.int .i64) r9)], 3⟩ hP hN (by kernel_rfl) allNil ?_
        have hr := of_some hr
        subst hr
        exact HT.ret (qThenR ⟨[.agg [.dat (.int .i64) (0 : Int), .nilS], .one (.dat .bool false)], [], [], by kernel_rfl, by kernel_rfl, rfl, (.inl rfl), by kernel_rfl, trivial⟩)
      · refine HT.cond0 rfl hb13 ?_
        refine HT.skip (qThen ?_)
        refine HT.reg1 [2, 3] [⟨none, .no⟩, ⟨none, .no⟩, ⟨none, .no⟩] ⟨[(2, .one (.ptr 0 0)), (3, .one (.dat .bool true))], [(0, .box [.dat (.int .i64) a0.1, .all 2]), (0, .box [.dat (.int .i64) (0 : Int), .nilS]), (1, .box [.dat (.int .i64) a0.1, .all 2]), (2, .seq (.int .i64) r9)], 3⟩ hP hN (by kernel_rfl) allNil ?_
        have hr := of_some hr
        subst hr
        exact HT.ret ⟨[.agg [.dat (.int .i64) a0.1, .all 2], .one (.dat .bool true)], [2], [], by kernel_rfl, by kernel_rfl, rfl, (.inl rfl), by kernel_rfl, trivial⟩
    · refine HT.reg1 [1, 2, 4, 21, 22, 23] [⟨none, .no⟩] ⟨[(1, .one (.ptr 0 0)), (2, .one (.ptr 1 0)), (4, .one (.ptr 2 0)), (21, .one (.dat (.int .i64) y6)), (22, .one (.dat (.int .i64) s8.1)), (23, .one (.dat .bool (decide (s8.1 < y6))))], [(0, .box [.dat (.int .i64) a0.1, .dat (.sl (.int .i64)) a0.2]), (1, .box [.dat (.int .i64) (0 : Int), .nilS]), (2, .box [.dat (.int .i64) a0.1, .all 3]), (3, .seq (.int .i64) s8.2)], 4⟩ hP hN (by kernel_rfl) allNil ?_
      refine HT.seq ?_
      rcases of_bif hx15 with ⟨hb17, hx15⟩ | ⟨hb17, hx15⟩
      · refine HT.cond1 rfl hb17 ?_
        refine HT.skip (qThen ?_)
        refine HT.seq ?_
        refine HT.block ?_
        refine HT.reg1 [1, 2, 4, 5, 21, 22] [⟨none, .no⟩, ⟨none, .no⟩] ⟨[(1, .one (.ptr 0 0)), (2, .one (.ptr 1 0)), (4, .one (.ptr 2 0)), (5, .one (.dat (.int .i64) s8.1)), (21, .one (.dat (.int .i64) y6)), (22, .one (.dat (.int .i64) s8.1))], [(0, .box [.dat (.int .i64) a0.1, .dat (.sl (.int .i64)) a0.2]), (1, .box [.dat (.int .i64) (0 : Int), .nilS]), (2, .box [.dat (.int .i64) a0.1, .all 3]), (3, .seq (.int .i64) s8.2)], 4⟩ hP hN (by kernel_rfl) allNil ?_
        obtain ⟨y18, hc19, hx15⟩ := of_bind hx15
        refine HT.reg1 [1, 2, 4, 5, 21, 22, 26, 27] [⟨none, .no⟩, ⟨none, .call [.imm (.st (.pair (.int .i64) (.sl (.int .i64))))] [⟨false, (.int .i64), y18⟩] []⟩, ⟨none, .no⟩] ⟨[(1, .one (.ptr 0 0)), (2, .one (.ptr 1 0)), (4, .one (.ptr 2 0)), (5, .one (.dat (.int .i64) s8.1)), (21, .one (.dat (.int .i64) y6)), (22, .one (.dat (.int .i64) s8.1)), (26, .one (.dat (.int .i64) y18)), (27, .one (.dat (.int .i64) (0 : Int)))], [(0, .box [.dat (.int .i64) a0.1, .dat (.sl (.int .i64)) a0.2]), (1, .box [.dat (.int .i64) (0 : Int), .nilS]), (2, .box [.dat (.int .i64) a0.1, .all 3]), (3, .seq (.int .i64) s8.2)], 4⟩ hP hN (by kernel_rfl) (allCons (f58_ok hc19) allNil) ?_
        refine HT.block ?_
        obtain ⟨r21, hL57, hx15⟩ := of_bind hx15
        refine (Le.cv (s := ⟨[(0, 0), (1, 1), (2, 2), (3, 3)], [], [], false⟩) (own := []) (ps := [s8.1 = s8.1, y6 = y6, s8.1 = s8.1, y18 = y18, (0 : Int) = (0 : Int), a0.1 = a0.1, a0.2 = a0.2, (0 : Int) = (0 : Int), a0.1 = a0.1, s8.2 = s8.2]) (st' := ⟨[(1, .one (.ptr 0 0)), (2, .one (.ptr 1 0)), (4, .one (.ptr 2 0)), (5, .one (.dat (.int .i64) s8.1)), (21, .one (.dat (.int .i64) y6)), (22, .one (.dat (.int .i64) s8.1)), (26, .one (.dat (.int .i64) y18)), (27, .one (.dat (.int .i64) (0 : Int)))], [(0, .box [.dat (.int .i64) a0.1, .dat (.sl (.int .i64)) a0.2]), (1, .box [.dat (.int .i64) (0 : Int), .nilS]), (2, .box [.dat (.int .i64) a0.1, .all 3]), (3, .seq (.int .i64) s8.2)], 4⟩) hO (fun h => by cases h) (by kernel_rfl) ⟨rfl, rfl, rfl, rfl, rfl, rfl, rfl, rfl, rfl, rfl, trivial⟩).ht ?_
        refine HT.loopE (s := ((0 : Int), s8.2)) (fun (s20 : Int × List Int) => ⟨[(1, .one (.ptr 0 0)), (2, .one (.ptr 1 0)), (4, .one (.ptr 2 0)), (5, .one (.dat (.int .i64) s8.1)), (21, .one (.dat (.int .i64) y6)), (22, .one (.dat (.int .i64) s8.1)), (26, .one (.dat (.int .i64) y18)), (27, .one (.dat (.int .i64) s20.1))], [(0, .box [.dat (.int .i64) a0.1, .dat (.sl (.int .i64)) a0.2]), (1, .box [.dat (.int .i64) (0 : Int), .nilS]), (2, .box [.dat (.int .i64) a0.1, .all 3]), (3, .seq (.int .i64) s20.2)], 4⟩) (fun (r22 : List Int) => (.exit 2, ⟨[(1, .one (.ptr 0 0)), (2, .one (.ptr 1 0)), (4, .one (.ptr 2 0)), (21, .one (.dat (.int .i64) y6)), (22, .one (.dat (.int .i64) s8.1))], [(0, .box [.dat (.int .i64) a0.1, .dat (.sl (.int .i64)) a0.2]), (1, .box [.dat (.int .i64) (0 : Int), .nilS]), (2, .box [.dat (.int .i64) a0.1, .all 3]), (3, .seq (.int .i64) r22)], 4⟩)) hL57 ?_ (fun s20 x23 hx24 hk25 => ?_)
        · refine (qBlockX (qBlock (qThen ?_)))
          have hx15 := of_some hx15
          subst hx15
          refine HT.reg (rs := [⟨none, .no⟩, ⟨none, .no⟩]) (st' := ⟨[(22, .one (.dat (.int .i64) (wadd .i64 s8.1 (1 : Int)))), (78, .one (.dat (.int .i64) (wadd .i64 s8.1 (1 : Int)))), (1, .one (.ptr 0 0)), (2, .one (.ptr 1 0)), (4, .one (.ptr 2 0)), (21, .one (.dat (.int .i64) y6)), (22, .one (.dat (.int .i64) s8.1))], [(0, .box [.dat (.int .i64) a0.1, .dat (.sl (.int .i64)) a0.2]), (1, .box [.dat (.int .i64) (0 : Int), .nilS]), (2, .box [.dat (.int .i64) a0.1, .all 3]), (3, .seq (.int .i64) r21)], 4⟩) hP hN (by kernel_rfl) allNil (qLoopN ⟨((wadd .i64 s8.1 (1 : Int)), r21), rfl, Le.cv (s := ⟨[(0, 0), (1, 1), (2, 2), (3, 3)], [], [], false⟩) (own := []) (ps := [y6 = y6, (wadd .i64 s8.1 (1 : Int)) = (wadd .i64 s8.1 (1 : Int)), a0.1 = a0.1, a0.2 = a0.2, (0 : Int) = (0 : Int), a0.1 = a0.1, r21 = r21]) (st' := ⟨[(1, .one (.ptr 0 0)), (2, .one (.ptr 1 0)), (4, .one (.ptr 2 0)), (21, .one (.dat (.int .i64) y6)), (22, .one (.dat (.int .i64) (wadd .i64 s8.1 (1 : Int))))], [(0, .box [.dat (.int .i64) a0.1, .dat (.sl (.int .i64)) a0.2]), (1, .box [.dat (.int .i64) (0 : Int), .nilS]), (2, .box [.dat (.int .i64) a0.1, .all 3]), (3, .seq (.int .i64) r21)], 4⟩) hO (fun h => by cases h) (by kernel_rfl) ⟨rfl, rfl, rfl, rfl, rfl, rfl, rfl, trivial⟩⟩)
        · refine HT.reg1 [1, 2, 4, 5, 21, 22, 26, 27, 28] [⟨none, .no⟩] ⟨[(1, .one (.ptr 0 0)), (2, .one (.ptr 1 0)), (4, .one (.ptr 2 0)), (5, .one (.dat (.int .i64) s8.1)), (21, .one (.dat (.int .i64) y6)), (22, .one (.dat (.int .i64) s8.1)), (26, .one (.dat (.int .i64) y18)), (27, .one (.dat (.int .i64) s20.1)), (28, .one (.dat .bool (decide (s20.1 < y18))))], [(0, .box [.dat (.int .i64) a0.1, .dat (.sl (.int .i64)) a0.2]), (1, .box [.dat (.int .i64) (0 : Int), .nilS]), (2, .box [.dat (.int .i64) a0.1, .all 3]), (3, .seq (.int .i64) s20.2)], 4⟩ hP hN (by kernel_rfl) allNil ?_
          refine HT.seq ?_
          rcases of_bif hx24 with ⟨hb26, hx24⟩ | ⟨hb26, hx24⟩
          · refine HT.cond1 rfl hb26 ?_
            refine HT.skip (qThen ?_)
            refine HT.seq ?_
            refine HT.block ?_
            refine HT.reg1 [1, 2, 4, 5, 6, 21, 22, 26, 27] [⟨none, .no⟩, ⟨none, .no⟩] ⟨[(1, .one (.ptr 0 0)), (2, .one (.ptr 1 0)), (4, .one (.ptr 2 0)), (5, .one (.dat (.int .i64) s8.1)), (6, .one (.dat (.int .i64) s20.1)), (21, .one (.dat (.int .i64) y6)), (22, .one (.dat (.int .i64) s8.1)), (26, .one (.dat (.int .i64) y18)), (27, .one (.dat (.int .i64) s20.1))], [(0, .box [.dat (.int .i64) a0.1, .dat (.sl (.int .i64)) a0.2]), (1, .box [.dat (.int .i64) (0 : Int), .nilS]), (2, .box [.dat (.int .i64) a0.1, .all 3]), (3, .seq (.int .i64) s20.2)], 4⟩ hP hN (by kernel_rfl) allNil ?_
            obtain ⟨y27, hc28, hx24⟩ := of_bind hx24
            refine HT.reg1 [1, 2, 4, 5, 6, 21, 22, 26, 27, 31, 32] [⟨none, .no⟩, ⟨none, .call [.imm (.st (.pair (.int .i64) (.sl (.int .i64))))] [⟨false, (.int .i64), y27⟩] []⟩, ⟨none, .no⟩] ⟨[(1, .one (.ptr 0 0)), (2, .one (.ptr 1 0)), (4, .one (.ptr 2 0)), (5, .one (.dat (.int .i64) s8.1)), (6, .one (.dat (.int .i64) s20.1)), (21, .one (.dat (.int .i64) y6)), (22, .one (.dat (.int .i64) s8.1)), (26, .one (.dat (.int .i64) y18)), (27, .one (.dat (.int .i64) s20.1)), (31, .one (.dat (.int .i64) y27)), (32, .one (.dat (.int .i64) (0 : Int)))], [(0, .box [.dat (.int .i64) a0.1, .dat (.sl (.int .i64)) a0.2]), (1, .box [.dat (.int .i64) (0 : Int), .nilS]), (2, .box [.dat (.int .i64) a0.1, .all 3]), (3, .seq (.int .i64) s20.2)], 4⟩ hP hN (by kernel_rfl) (allCons (f58_ok hc28) allNil) ?_
            refine HT.block ?_
            obtain ⟨r30, hL56, hx24⟩ := of_bind hx24
            refine (Le.cv (s := ⟨[(0, 0), (1, 1), (2, 2), (3, 3)], [], [], false⟩) (own := []) (ps := [s8.1 = s8.1, s20.1 = s20.1, y6 = y6, s8.1 = s8.1, y18 = y18, s20.1 = s20.1, y27 = y27, (0 : Int) = (0 : Int), a0.1 = a0.1, a0.2 = a0.2, (0 : Int) = (0 : Int), a0.1 = a0.1, s20.2 = s20.2]) (st' := ⟨[(1, .one (.ptr 0 0)), (2, .one (.ptr 1 0)), (4, .one (.ptr 2 0)), (5, .one (.dat (.int .i64) s8.1)), (6, .one (.dat (.int .i64) s20.1)), (21, .one (.dat (.int .i64) y6)), (22, .one (.dat (.int .i64) s8.1)), (26, .one (.dat (.int .i64) y18)), (27, .one (.dat (.int .i64) s20.1)), (31, .one (.dat (.int .i64) y27)), (32, .one (.dat (.int .i64) (0 : Int)))], [(0, .box [.dat (.int .i64) a0.1, .dat (.sl (.int .i64)) a0.2]), (1, .box [.dat (.int .i64) (0 : Int), .nilS]), (2, .box [.dat (.int .i64) a0.1, .all 3]), (3, .seq (.int .i64) s20.2)], 4⟩) hO (fun h => by cases h) (by kernel_rfl) ⟨rfl, rfl, rfl, rfl, rfl, rfl, rfl, rfl, rfl, rfl, rfl, rfl, rfl, trivial⟩).ht ?_
            refine HT.loopE (s := ((0 : Int), s20.2)) (fun (s29 : Int × List Int) => ⟨[(1, .one (.ptr 0 0)), (2, .one (.ptr 1 0)), (4, .one (.ptr 2 0)), (5, .one (.dat (.int .i64) s8.1)), (6, .one (.dat (.int .i64) s20.1)), (21, .one (.dat (.int .i64) y6)), (22, .one (.dat (.int .i64) s8.1)), (26, .one (.dat (.int .i64) y18)), (27, .one (.dat (.int .i64) s20.1)), (31, .one (.dat (.int .i64) y27)), (32, .one (.dat (.int .i64) s29.1))], [(0, .box [.dat (.int .i64) a0.1, .dat (.sl (.int .i64)) a0.2]), (1, .box [.dat (.int .i64) (0 : Int), .nilS]), (2, .box [.dat (.int .i64) a0.1, .all 3]), (3, .seq (.int .i64) s29.2)], 4⟩) (fun (r31 : List Int) => (.exit 4, ⟨[(1, .one (.ptr 0 0)), (2, .one (.ptr 1 0)), (4, .one (.ptr 2 0)), (5, .one (.dat (.int .i64) s8.1)), (21, .one (.dat (.int .i64) y6)), (22, .one (.dat (.int .i64) s8.1)), (26, .one (.dat (.int .i64) y18)), (27, .one (.dat (.int .i64) s20.1))], [(0, .box [.dat (.int .i64) a0.1, .dat (.sl (.int .i64)) a0.2]), (1, .box [.dat (.int .i64) (0 : Int), .nilS]), (2, .box [.dat (.int .i64) a0.1, .all 3]), (3, .seq (.int .i64) r31)], 4⟩)) hL56 ?_ (fun s29 x32 hx33 hk34 => ?_)
            · refine (qBlockX (qBlock (qThen ?_)))
              have hx24 := of_some hx24
              subst hx24
              refine HT.reg (rs := [⟨none, .no⟩, ⟨none, .no⟩]) (st' := ⟨[(27, .one (.dat (.int .i64) (wadd .i64 s20.1 (1 : Int)))), (77, .one (.dat (.int .i64) (wadd .i64 s20.1 (1 : Int)))), (1, .one (.ptr 0 0)), (2, .one (.ptr 1 0)), (4, .one (.ptr 2 0)), (5, .one (.dat (.int .i64) s8.1)), (21, .one (.dat (.int .i64) y6)), (22, .one (.dat (.int .i64) s8.1)), (26, .one (.dat (.int .i64) y18)), (27, .one (.dat (.int .i64) s20.1))], [(0, .box [.dat (.int .i64) a0.1, .dat (.sl (.int .i64)) a0.2]), (1, .box [.dat (.int .i64) (0 : Int), .nilS]), (2, .box [.dat (.int .i64) a0.1, .all 3]), (3, .seq (.int .i64) r30)], 4⟩) hP hN (by kernel_rfl) allNil (qLoopN ⟨((wadd .i64 s20.1 (1 : Int)), r30), rfl, Le.cv (s := ⟨[(0, 0), (1, 1), (2, 2), (3, 3)], [], [], false⟩) (own := []) (ps := [s8.1 = s8.1, y6 = y6, s8.1 = s8.1, y18 = y18, (wadd .i64 s20.1 (1 : Int)) = (wadd .i64 s20.1 (1 : Int)), a0.1 = a0.1, a0.2 = a0.2, (0 : Int) = (0 : Int), a0.1 = a0.1, r30 = r30]) (st' := ⟨[(1, .one (.ptr 0 0)), (2, .one (.ptr 1 0)), (4, .one (.ptr 2 0)), (5, .one (.dat (.int .i64) s8.1)), (21, .one (.dat (.int .i64) y6)), (22, .one (.dat (.int .i64) s8.1)), (26, .one (.dat (.int .i64) y18)), (27, .one (.dat (.int .i64) (wadd .i64 s20.1 (1 : Int))))], [(0, .box [.dat (.int .i64) a0.1, .dat (.sl (.int .i64)) a0.2]), (1, .box [.dat (.int .i64) (0 : Int), .nilS]), (2, .box [.dat (.int .i64) a0.1, .all 3]), (3, .seq (.int .i64) r30)], 4⟩) hO (fun h => by cases h) (by kernel_rfl) ⟨rfl, rfl, rfl, rfl, rfl, rfl, rfl, rfl, rfl, rfl, trivial⟩⟩)
            · refine HT.reg1 [1, 2, 4, 5, 6, 21, 22, 26, 27, 31, 32, 33] [⟨none, .no⟩] ⟨[(1, .one (.ptr 0 0)), (2, .one (.ptr 1 0)), (4, .one (.ptr 2 0)), (5, .one (.dat (.int .i64) s8.1)), (6, .one (.dat (.int .i64) s20.1)), (21, .one (.dat (.int .i64) y6)), (22, .one (.dat (.int .i64) s8.1)), (26, .one (.dat (.int .i64) y18)), (27, .one (.dat (.int .i64) s20.1)), (31, .one (.dat (.int .i64) y27)), (32, .one (.dat (.int .i64) s29.1)), (33, .one (.dat .bool (decide (s29.1 < y27))))], [(0, .box [.dat (.int .i64) a0.1, .dat (.sl (.int .i64)) a0.2]), (1, .box [.dat (.int .i64) (0 : Int), .nilS]), (2, .box [.dat (.int .i64) a0.1, .all 3]), (3, .seq (.int .i64) s29.2)], 4⟩ hP hN (by kernel_rfl) allNil ?_
              refine HT.seq ?_
              rcases of_bif hx33 with ⟨hb35, hx33⟩ | ⟨hb35, hx33⟩
              · refine HT.cond1 rfl hb35 ?_
                refine HT.skip (qThen ?_)
                obtain ⟨v36', hT38, hx33⟩ := of_bind hx33
                refine HT.join (fun (v36 : List Int) => ⟨[(1, .one (.ptr 0 0)), (2, .one (.ptr 1 0)), (4, .one (.ptr 2 0)), (5, .one (.dat (.int .i64) s8.1)), (6, .one (.dat (.int .i64) s20.1)), (21, .one (.dat (.int .i64) y6)), (22, .one (.dat (.int .i64) s8.1)), (26, .one (.dat (.int .i64) y18)), (27, .one (.dat (.int .i64) s20.1)), (31, .one (.dat (.int .i64) y27)), (32, .one (.dat (.int .i64) s29.1))], [(0, .box [.dat (.int .i64) a0.1, .dat (.sl (.int .i64)) a0.2]), (1, .box [.dat (.int .i64) (0 : Int), .nilS]), (2, .box [.dat (.int .i64) a0.1, .all 3]), (3, .seq (.int .i64) v36)], 4⟩) (fun v => v = v36') (fun v36 hv37 => ?_) (fun cont => ?_)
                · subst hv37
                  have hx33 := of_some hx33
                  subst hx33
                  refine HT.reg (rs := [⟨none, .no⟩, ⟨none, .no⟩]) (st' := ⟨[(32, .one (.dat (.int .i64) (wadd .i64 s29.1 (1 : Int)))), (76, .one (.dat (.int .i64) (wadd .i64 s29.1 (1 : Int)))), (1, .one (.ptr 0 0)), (2, .one (.ptr 1 0)), (4, .one (.ptr 2 0)), (5, .one (.dat (.int .i64) s8.1)), (6, .one (.dat (.int .i64) s20.1)), (21, .one (.dat (.int .i64) y6)), (22, .one (.dat (.int .i64) s8.1)), (26, .one (.dat (.int .i64) y18)), (27, .one (.dat (.int .i64) s20.1)), (31, .one (.dat (.int .i64) y27)), (32, .one (.dat (.int .i64) s29.1))], [(0, .box [.dat (.int .i64) a0.1, .dat (.sl (.int .i64)) a0.2]), (1, .box [.dat (.int .i64) (0 : Int), .nilS]), (2, .box [.dat (.int .i64) a0.1, .all 3]), (3, .seq (.int .i64) v36)], 4⟩) hP hN (by kernel_rfl) allNil (qLoopN ⟨((wadd .i64 s29.1 (1 : Int)), v36), rfl, Le.cv (s := ⟨[(0, 0), (1, 1), (2, 2), (3, 3)], [], [], false⟩) (own := []) (ps := [s8.1 = s8.1, s20.1 = s20.1, y6 = y6, s8.1 = s8.1, y18 = y18, s20.1 = s20.1, y27 = y27, (wadd .i64 s29.1 (1 : Int)) = (wadd .i64 s29.1 (1 : Int)), a0.1 = a0.1, a0.2 = a0.2, (0 : Int) = (0 : Int), a0.1 = a0.1, v36 = v36]) (st' := ⟨[(1, .one (.ptr 0 0)), (2, .one (.ptr 1 0)), (4, .one (.ptr 2 0)), (5, .one (.dat (.int .i64) s8.1)), (6, .one (.dat (.int .i64) s20.1)), (21, .one (.dat (.int .i64) y6)), (22, .one (.dat (.int .i64) s8.1)), (26, .one (.dat (.int .i64) y18)), (27, .one (.dat (.int .i64) s20.1)), (31, .one (.dat (.int .i64) y27)), (32, .one (.dat (.int .i64) (wadd .i64 s29.1 (1 : Int))))], [(0, .box [.dat (.int .i64) a0.1, .dat (.sl (.int .i64)) a0.2]), (1, .box [.dat (.int .i64) (0 : Int), .nilS]), (2, .box [.dat (.int .i64) a0.1, .all 3]), (3, .seq (.int .i64) v36)], 4⟩) hO (fun h => by cases h) (by kernel_rfl) ⟨rfl, rfl, rfl, rfl, rfl, rfl, rfl, rfl, rfl, rfl, rfl, rfl, rfl, trivial⟩⟩)
                · refine HT.block ?_
                  refine HT.reg1 [1, 2, 4, 5, 6, 7, 21, 22, 26, 27, 31, 32] [⟨none, .no⟩, ⟨none, .no⟩] ⟨[(1, .one (.ptr 0 0)), (2, .one (.ptr 1 0)), (4, .one (.ptr 2 0)), (5, .one (.dat (.int .i64) s8.1)), (6, .one (.dat (.int .i64) s20.1)), (7, .one (.dat (.int .i64) s29.1)), (21, .one (.dat (.int .i64) y6)), (22, .one (.dat (.int .i64) s8.1)), (26, .one (.dat (.int .i64) y18)), (27, .one (.dat (.int .i64) s20.1)), (31, .one (.dat (.int .i64) y27)), (32, .one (.dat (.int .i64) s29.1))], [(0, .box [.dat (.int .i64) a0.1, .dat (.sl (.int .i64)) a0.2]), (1, .box [.dat (.int .i64) (0 : Int), .nilS]), (2, .box [.dat (.int .i64) a0.1, .all 3]), (3, .seq (.int .i64) s29.2)], 4⟩ hP hN (by kernel_rfl) allNil ?_
                  obtain ⟨y39, hc40, hT38⟩ := of_bind hT38
                  obtain ⟨hg41, hT38⟩ := of_guard hT38
                  obtain ⟨y42, hc43, hT38⟩ := of_bind hT38
                  obtain ⟨hg44, hT38⟩ := of_guard hT38
                  refine HT.drw1 [1, 2, 4, 5, 6, 7, 8, 9, 21, 22, 26, 27, 31, 32] 17 [⟨⟨none, .no⟩, []⟩, ⟨⟨none, .no⟩, [0]⟩, ⟨⟨none, .no⟩, []⟩, ⟨⟨none, .no⟩, []⟩, ⟨⟨none, .no⟩, []⟩, ⟨⟨none, .call [.imm (.st (.pair (.int .i64) (.sl (.int .i64)))), .imm (.int .i64), .imm (.int .i64)] [⟨false, (.int .i64), y39⟩] []⟩, [2, 3, 4]⟩, ⟨⟨none, .no⟩, [0, 1, 2, 3, 4, 5]⟩, ⟨⟨none, .no⟩, [0, 1, 2, 3, 4, 5, 6]⟩, ⟨⟨none, .no⟩, []⟩, ⟨⟨none, .no⟩, [8]⟩, ⟨⟨none, .no⟩, []⟩, ⟨⟨none, .no⟩, []⟩, ⟨⟨none, .no⟩, []⟩, ⟨⟨none, .call [.imm (.st (.pair (.int .i64) (.sl (.int .i64)))), .imm (.int .i64), .imm (.int .i64)] [⟨false, (.int .i64), y42⟩] []⟩, [2, 3, 4, 5, 10, 11, 12]⟩, ⟨⟨none, .no⟩, [2, 3, 4, 5, 8, 9, 10, 11, 12, 13]⟩, ⟨⟨none, .no⟩, [2, 3, 4, 5, 8, 9, 10, 11, 12, 13, 14]⟩, ⟨⟨none, .no⟩, [0, 1, 2, 3, 4, 5, 6, 7, 10, 11, 12, 13]⟩] [[0, 1, 2, 3, 4, 5, 6, 7, 8, 9, 10, 11, 12, 13, 14, 15, 16]] [⟨none, .no⟩] ⟨[(1, .one (.ptr 0 0)), (2, .one (.ptr 1 0)), (4, .one (.ptr 2 0)), (5, .one (.dat (.int .i64) s8.1)), (6, .one (.dat (.int .i64) s20.1)), (7, .one (.dat (.int .i64) s29.1)), (8, .one (.dat (.int .i64) (List.getD s29.2 (Int.toNat y39) (0 : Int)))), (9, .one (.dat (.int .i64) (List.getD s29.2 (Int.toNat y42) (0 : Int)))), (21, .one (.dat (.int .i64) y6)), (22, .one (.dat (.int .i64) s8.1)), (26, .one (.dat (.int .i64) y18)), (27, .one (.dat (.int .i64) s20.1)), (31, .one (.dat (.int .i64) y27)), (32, .one (.dat (.int .i64) s29.1))], [(0, .box [.dat (.int .i64) a0.1, .dat (.sl (.int .i64)) a0.2]), (1, .box [.dat (.int .i64) (0 : Int), .nilS]), (2, .box [.dat (.int .i64) a0.1, .all 3]), (3, .seq (.int .i64) s29.2)], 4⟩ hP hN (by kernel_rfl) (by kernel_rfl) (allCons (f55_ok hc40) (allCons hg41 (allCons (natLt hg41) (allCons (f55_ok hc43) (allCons hg44 (allCons (natLt hg44) allNil)))))) ?_
                  obtain ⟨v45', hT47, hT38⟩ := of_bind hT38
                  refine HT.join (fun (v45 : Bool) => ⟨[(1, .one (.ptr 0 0)), (2, .one (.ptr 1 0)), (4, .one (.ptr 2 0)), (5, .one (.dat (.int .i64) s8.1)), (6, .one (.dat (.int .i64) s20.1)), (7, .one (.dat (.int .i64) s29.1)), (8, .one (.dat (.int .i64) (List.getD s29.2 (Int.toNat y39) (0 : Int)))), (9, .one (.dat (.int .i64) (List.getD s29.2 (Int.toNat y42) (0 : Int)))), (21, .one (.dat (.int .i64) y6)), (22, .one (.dat (.int .i64) s8.1)), (26, .one (.dat (.int .i64) y18)), (27, .one (.dat (.int .i64) s20.1)), (31, .one (.dat (.int .i64) y27)), (32, .one (.dat (.int .i64) s29.1)), (56, .one (.dat .bool v45))], [(0, .box [.dat (.int .i64) a0.1, .dat (.sl (.int .i64)) a0.2]), (1, .box [.dat (.int .i64) (0 : Int), .nilS]), (2, .box [.dat (.int .i64) a0.1, .all 3]), (3, .seq (.int .i64) s29.2)], 4⟩) (fun v => v = v45') (fun v45 hv46 => ?_) (fun cont => ?_)
                  · subst hv46
                    rcases of_bif hT38 with ⟨hb48, hT38⟩ | ⟨hb48, hT38⟩
                    · refine HT.cond1 rfl hb48 ?_
                      obtain ⟨y49, hc50, hT38⟩ := of_bind hT38
                      obtain ⟨y51, hc52, hT38⟩ := of_bind hT38
                      obtain ⟨hg53, hT38⟩ := of_guard hT38
                      obtain ⟨hg54, hT38⟩ := of_guard hT38
                      refine drawS (h := 18) (hrs := [⟨⟨none, .no⟩, []⟩, ⟨⟨none, .no⟩, [0]⟩, ⟨⟨none, .no⟩, []⟩, ⟨⟨none, .no⟩, []⟩, ⟨⟨none, .no⟩, []⟩, ⟨⟨none, .call [.imm (.st (.pair (.int .i64) (.sl (.int .i64)))), .imm (.int .i64), .imm (.int .i64)] [⟨false, (.int .i64), y49⟩] []⟩, [2, 3, 4]⟩, ⟨⟨none, .no⟩, []⟩, ⟨⟨none, .no⟩, [6]⟩, ⟨⟨none, .no⟩, []⟩, ⟨⟨none, .no⟩, []⟩, ⟨⟨none, .no⟩, []⟩, ⟨⟨none, .call [.imm (.st (.pair (.int .i64) (.sl (.int .i64)))), .imm (.int .i64), .imm (.int .i64)] [⟨false, (.int .i64), y51⟩] []⟩, [2, 3, 4, 5, 8, 9, 10]⟩, ⟨⟨none, .no⟩, [2, 3, 4, 5, 6, 7, 8, 9, 10, 11]⟩, ⟨⟨none, .no⟩, [2, 3, 4, 5, 6, 7, 8, 9, 10, 11, 12]⟩, ⟨⟨none, .no⟩, []⟩, ⟨⟨none, .no⟩, []⟩, ⟨⟨none, .no⟩, [14, 15]⟩, ⟨⟨none, .no⟩, [2, 3, 4, 5, 6, 7, 8, 9, 10, 11, 12, 13, 14, 15, 16]⟩]) (tds := [[0, 1, 2, 3, 4, 5, 6, 7, 8, 9, 10, 11, 12, 13, 14, 15, 16, 17], [0, 1, 2, 3, 4, 5, 6, 7, 8, 9, 10, 11, 12, 13, 14, 15, 16, 17, 18]]) (rs := [⟨none, .no⟩, ⟨none, .no⟩]) (st' := ⟨[(75, .one (.elp 3 (Int.toNat y49) 1)), (74, .one (.dat (.int .i64) (if (wadd .i64 (List.getD s29.2 (Int.toNat y39) (0 : Int)) (List.getD s29.2 (Int.toNat y42) (0 : Int))) < (List.getD s29.2 (Int.toNat y51) (0 : Int)) then (wadd .i64 (List.getD s29.2 (Int.toNat y39) (0 : Int)) (List.getD s29.2 (Int.toNat y42) (0 : Int))) else (List.getD s29.2 (Int.toNat y51) (0 : Int))))), (73, .one (.dat (.int .i64) (wadd .i64 (List.getD s29.2 (Int.toNat y39) (0 : Int)) (List.getD s29.2 (Int.toNat y42) (0 : Int))))), (72, .one (.dat (.int .i64) (List.getD s29.2 (Int.toNat y42) (0 : Int)))), (71, .one (.dat (.int .i64) (List.getD s29.2 (Int.toNat y39) (0 : Int)))), (70, .one (.dat (.int .i64) (List.getD s29.2 (Int.toNat y51) (0 : Int)))), (69, .one (.elp 3 (Int.toNat y51) 1)), (68, .one (.dat (.int .i64) y51)), (67, .one (.dat (.int .i64) s29.1)), (66, .one (.dat (.int .i64) s20.1)), (65, .agg [.dat (.int .i64) a0.1, .dat (.sl (.int .i64)) a0.2]), (64, .one (.all 3)), (63, .one (.ptr 2 1)), (62, .one (.dat (.int .i64) y49)), (61, .one (.dat (.int .i64) s29.1)), (60, .one (.dat (.int .i64) s20.1)), (59, .agg [.dat (.int .i64) a0.1, .dat (.sl (.int .i64)) a0.2]), (58, .one (.all 3)), (57, .one (.ptr 2 1)), (1, .one (.ptr 0 0)), (2, .one (.ptr 1 0)), (4, .one (.ptr 2 0)), (5, .one (.dat (.int .i64) s8.1)), (6, .one (.dat (.int .i64) s20.1)), (7, .one (.dat (.int .i64) s29.1)), (8, .one (.dat (.int .i64) (List.getD s29.2 (Int.toNat y39) (0 : Int)))), (9, .one (.dat (.int .i64) (List.getD s29.2 (Int.toNat y42) (0 : Int)))), (21, .one (.dat (.int .i64) y6)), (22, .one (.dat (.int .i64) s8.1)), (26, .one (.dat (.int .i64) y18)), (27, .one (.dat (.int .i64) s20.1)), (31, .one (.dat (.int .i64) y27)), (32, .one (.dat (.int .i64) s29.1)), (56, .one (.dat .bool v45))], [(3, .seq (.int .i64) (List.set s29.2 (Int.toNat y49) (if (wadd .i64 (List.getD s29.2 (Int.toNat y39) (0 : Int)) (List.getD s29.2 (Int.toNat y42) (0 : Int))) < (List.getD s29.2 (Int.toNat y51) (0 : Int)) then (wadd .i64 (List.getD s29.2 (Int.toNat y39) (0 : Int)) (List.getD s29.2 (Int.toNat y42) (0 : Int))) else (List.getD s29.2 (Int.toNat y51) (0 : Int))))), (0, .box [.dat (.int .i64) a0.1, .dat (.sl (.int .i64)) a0.2]), (1, .box [.dat (.int .i64) (0 : Int), .nilS]), (2, .box [.dat (.int .i64) a0.1, .all 3]), (3, .seq (.int .i64) s29.2)], 4⟩) hP hN (by kernel_rfl) (by kernel_rfl) (allCons (f55_ok hc50) (allCons (f55_ok hc52) (allCons hg53 (allCons (natLt hg53) (allCons hg54 (allCons (natLt hg54) allNil)))))) (qBlock (qThen ?_))
                      exact (Le.cv (s := ⟨[(0, 0), (1, 1), (2, 2), (3, 3)], [], [], false⟩) (own := []) (ps := [s8.1 = s8.1, s20.1 = s20.1, y6 = y6, s8.1 = s8.1, y18 = y18, s20.1 = s20.1, y27 = y27, s29.1 = s29.1, a0.1 = a0.1, a0.2 = a0.2, (0 : Int) = (0 : Int), a0.1 = a0.1, (List.set s29.2 (Int.toNat y49) (if (wadd .i64 (List.getD s29.2 (Int.toNat y39) (0 : Int)) (List.getD s29.2 (Int.toNat y42) (0 : Int))) < (List.getD s29.2 (Int.toNat y51) (0 : Int)) then (wadd .i64 (List.getD s29.2 (Int.toNat y39) (0 : Int)) (List.getD s29.2 (Int.toNat y42) (0 : Int))) else (List.getD s29.2 (Int.toNat y51) (0 : Int)))) = (List.set s29.2 (Int.toNat y49) (if (wadd .i64 (List.getD s29.2 (Int.toNat y39) (0 : Int)) (List.getD s29.2 (Int.toNat y42) (0 : Int))) < (List.getD s29.2 (Int.toNat y51) (0 : Int)) then (wadd .i64 (List.getD s29.2 (Int.toNat y39) (0 : Int)) (List.getD s29.2 (Int.toNat y42) (0 : Int))) else (List.getD s29.2 (Int.toNat y51) (0 : Int))))]) (st' := ⟨[(1, .one (.ptr 0 0)), (2, .one (.ptr 1 0)), (4, .one (.ptr 2 0)), (5, .one (.dat (.int .i64) s8.1)), (6, .one (.dat (.int .i64) s20.1)), (21, .one (.dat (.int .i64) y6)), (22, .one (.dat (.int .i64) s8.1)), (26, .one (.dat (.int .i64) y18)), (27, .one (.dat (.int .i64) s20.1)), (31, .one (.dat (.int .i64) y27)), (32, .one (.dat (.int .i64) s29.1))], [(0, .box [.dat (.int .i64) a0.1, .dat (.sl (.int .i64)) a0.2]), (1, .box [.dat (.int .i64) (0 : Int), .nilS]), (2, .box [.dat (.int .i64) a0.1, .all 3]), (3, .seq (.int .i64) (List.set s29.2 (Int.toNat y49) (if (wadd .i64 (List.getD s29.2 (Int.toNat y39) (0 : Int)) (List.getD s29.2 (Int.toNat y42) (0 : Int))) < (List.getD s29.2 (Int.toNat y51) (0 : Int)) then (wadd .i64 (List.getD s29.2 (Int.toNat y39) (0 : Int)) (List.getD s29.2 (Int.toNat y42) (0 : Int))) else (List.getD s29.2 (Int.toNat y51) (0 : Int)))))], 4⟩) hO (fun h => by cases h) (by kernel_rfl) ⟨rfl, rfl, rfl, rfl, rfl, rfl, rfl, rfl, rfl, rfl, rfl, rfl, rfl, trivial⟩).ht (cont (List.set s29.2 (Int.toNat y49) (if (wadd .i64 (List.getD s29.2 (Int.toNat y39) (0 : Int)) (List.getD s29.2 (Int.toNat y42) (0 : Int))) < (List.getD s29.2 (Int.toNat y51) (0 : Int)) then (wadd .i64 (List.getD s29.2 (Int.toNat y39) (0 : Int)) (List.getD s29.2 (Int.toNat y42) (0 : Int))) else (List.getD s29.2 (Int.toNat y51) (0 : Int)))) (of_some hT38))
                    · refine HT.cond0 rfl hb48 ?_
                      refine HT.skip (qBlock (qThen ?_))
                      exact (Le.cv (s := ⟨[(0, 0), (1, 1), (2, 2), (3, 3)], [], [], false⟩) (own := []) (ps := [s8.1 = s8.1, s20.1 = s20.1, y6 = y6, s8.1 = s8.1, y18 = y18, s20.1 = s20.1, y27 = y27, s29.1 = s29.1, a0.1 = a0.1, a0.2 = a0.2, (0 : Int) = (0 : Int), a0.1 = a0.1, s29.2 = s29.2]) (st' := ⟨[(1, .one (.ptr 0 0)), (2, .one (.ptr 1 0)), (4, .one (.ptr 2 0)), (5, .one (.dat (.int .i64) s8.1)), (6, .one (.dat (.int .i64) s20.1)), (21, .one (.dat (.int .i64) y6)), (22, .one (.dat (.int .i64) s8.1)), (26, .one (.dat (.int .i64) y18)), (27, .one (.dat (.int .i64) s20.1)), (31, .one (.dat (.int .i64) y27)), (32, .one (.dat (.int .i64) s29.1))], [(0, .box [.dat (.int .i64) a0.1, .dat (.sl (.int .i64)) a0.2]), (1, .box [.dat (.int .i64) (0 : Int), .nilS]), (2, .box [.dat (.int .i64) a0.1, .all 3]), (3, .seq (.int .i64) s29.2)], 4⟩) hO (fun h => by cases h) (by kernel_rfl) ⟨rfl, rfl, rfl, rfl, rfl, rfl, rfl, rfl, rfl, rfl, rfl, rfl, rfl, trivial⟩).ht (cont s29.2 (of_some hT38))
                  · rcases of_bif hT47 with ⟨hb55, hT47⟩ | ⟨hb55, hT47⟩
                    · refine HT.reg (rs := [⟨none, .no⟩, ⟨none, .no⟩, ⟨none, .no⟩, ⟨some true, .no⟩, ⟨some true, .no⟩, ⟨none, .tv true⟩]) (st' := ⟨[(56, .one (.dat .bool ((List.getD s29.2 (Int.toNat y42) (0 : Int)) != (1000000000 : Int)))), (55, .one (.dat .bool ((List.getD s29.2 (Int.toNat y42) (0 : Int)) != (1000000000 : Int)))), (54, .one (.dat (.int .i64) (List.getD s29.2 (Int.toNat y42) (0 : Int)))), (53, .one (.dat .bool ((List.getD s29.2 (Int.toNat y39) (0 : Int)) != (1000000000 : Int)))), (52, .one (.dat .bool ((List.getD s29.2 (Int.toNat y39) (0 : Int)) != (1000000000 : Int)))), (51, .one (.dat (.int .i64) (List.getD s29.2 (Int.toNat y39) (0 : Int)))), (1, .one (.ptr 0 0)), (2, .one (.ptr 1 0)), (4, .one (.ptr 2 0)), (5, .one (.dat (.int .i64) s8.1)), (6, .one (.dat (.int .i64) s20.1)), (7, .one (.dat (.int .i64) s29.1)), (8, .one (.dat (.int .i64) (List.getD s29.2 (Int.toNat y39) (0 : Int)))), (9, .one (.dat (.int .i64) (List.getD s29.2 (Int.toNat y42) (0 : Int)))), (21, .one (.dat (.int .i64) y6)), (22, .one (.dat (.int .i64) s8.1)), (26, .one (.dat (.int .i64) y18)), (27, .one (.dat (.int .i64) s20.1)), (31, .one (.dat (.int .i64) y27)), (32, .one (.dat (.int .i64) s29.1))], [(0, .box [.dat (.int .i64) a0.1, .dat (.sl (.int .i64)) a0.2]), (1, .box [.dat (.int .i64) (0 : Int), .nilS]), (2, .box [.dat (.int .i64) a0.1, .all 3]), (3, .seq (.int .i64) s29.2)], 4⟩) hP hN (by kernel_rfl) (allCons hb55 (allCons hb55 (allCons hb55 allNil))) (qThen ?_)
                      exact (Le.cv (s := ⟨[(0, 0), (1, 1), (2, 2), (3, 3)], [], [], false⟩) (own := []) (ps := [s8.1 = s8.1, s20.1 = s20.1, s29.1 = s29.1, (List.getD s29.2 (Int.toNat y39) (0 : Int)) = (List.getD s29.2 (Int.toNat y39) (0 : Int)), (List.getD s29.2 (Int.toNat y42) (0 : Int)) = (List.getD s29.2 (Int.toNat y42) (0 : Int)), y6 = y6, s8.1 = s8.1, y18 = y18, s20.1 = s20.1, y27 = y27, s29.1 = s29.1, ((List.getD s29.2 (Int.toNat y42) (0 : Int)) != (1000000000 : Int)) = ((List.getD s29.2 (Int.toNat y42) (0 : Int)) != (1000000000 : Int)), a0.1 = a0.1, a0.2 = a0.2, (0 : Int) = (0 : Int), a0.1 = a0.1, s29.2 = s29.2]) (st' := ⟨[(1, .one (.ptr 0 0)), (2, .one (.ptr 1 0)), (4, .one (.ptr 2 0)), (5, .one (.dat (.int .i64) s8.1)), (6, .one (.dat (.int .i64) s20.1)), (7, .one (.dat (.int .i64) s29.1)), (8, .one (.dat (.int .i64) (List.getD s29.2 (Int.toNat y39) (0 : Int)))), (9, .one (.dat (.int .i64) (List.getD s29.2 (Int.toNat y42) (0 : Int)))), (21, .one (.dat (.int .i64) y6)), (22, .one (.dat (.int .i64) s8.1)), (26, .one (.dat (.int .i64) y18)), (27, .one (.dat (.int .i64) s20.1)), (31, .one (.dat (.int .i64) y27)), (32, .one (.dat (.int .i64) s29.1)), (56, .one (.dat .bool ((List.getD s29.2 (Int.toNat y42) (0 : Int)) != (1000000000 : Int))))], [(0, .box [.dat (.int .i64) a0.1, .dat (.sl (.int .i64)) a0.2]), (1, .box [.dat (.int .i64) (0 : Int), .nilS]), (2, .box [.dat (.int .i64) a0.1, .all 3]), (3, .seq (.int .i64) s29.2)], 4⟩) hO (fun h => by cases h) (by kernel_rfl) ⟨rfl, rfl, rfl, rfl, rfl, rfl, rfl, rfl, rfl, rfl, rfl, rfl, rfl, rfl, rfl, rfl, rfl, trivial⟩).ht (cont ((List.getD s29.2 (Int.toNat y42) (0 : Int)) != (1000000000 : Int)) (of_some hT47))
                    · refine HT.reg (rs := [⟨none, .no⟩, ⟨none, .no⟩, ⟨none, .no⟩, ⟨some false, .no⟩, ⟨some false, .no⟩, ⟨none, .tv false⟩]) (st' := ⟨[(56, .one (.dat .bool false)), (55, .und), (54, .und), (53, .one (.dat .bool ((List.getD s29.2 (Int.toNat y39) (0 : Int)) != (1000000000 : Int)))), (52, .one (.dat .bool ((List.getD s29.2 (Int.toNat y39) (0 : Int)) != (1000000000 : Int)))), (51, .one (.dat (.int .i64) (List.getD s29.2 (Int.toNat y39) (0 : Int)))), (1, .one (.ptr 0 0)), (2, .one (.ptr 1 0)), (4, .one (.ptr 2 0)), (5, .one (.dat (.int .i64) s8.1)), (6, .one (.dat (.int .i64) s20.1)), (7, .one (.dat (.int .i64) s29.1)), (8, .one (.dat (.int .i64) (List.getD s29.2 (Int.toNat y39) (0 : Int)))), (9, .one (.dat (.int .i64) (List.getD s29.2 (Int.toNat y42) (0 : Int)))), (21, .one (.dat (.int .i64) y6)), (22, .one (.dat (.int .i64) s8.1)), (26, .one (.dat (.int .i64) y18)), (27, .one (.dat (.int .i64) s20.1)), (31, .one (.dat (.int .i64) y27)), (32, .one (.dat (.int .i64) s29.1))], [(0, .box [.dat (.int .i64) a0.1, .dat (.sl (.int .i64)) a0.2]), (1, .box [.dat (.int .i64) (0 : Int), .nilS]), (2, .box [.dat (.int .i64) a0.1, .all 3]), (3, .seq (.int .i64) s29.2)], 4⟩) hP hN (by kernel_rfl) (allCons hb55 (allCons hb55 (allCons hb55 allNil))) (qThen ?_)
                      exact (Le.cv (s := ⟨[(0, 0), (1, 1), (2, 2), (3, 3)], [], [], false⟩) (own := []) (ps := [s8.1 = s8.1, s20.1 = s20.1, s29.1 = s29.1, (List.getD s29.2 (Int.toNat y39) (0 : Int)) = (List.getD s29.2 (Int.toNat y39) (0 : Int)), (List.getD s29.2 (Int.toNat y42) (0 : Int)) = (List.getD s29.2 (Int.toNat y42) (0 : Int)), y6 = y6, s8.1 = s8.1, y18 = y18, s20.1 = s20.1, y27 = y27, s29.1 = s29.1, false = false, a0.1 = a0.1, a0.2 = a0.2, (0 : Int) = (0 : Int), a0.1 = a0.1, s29.2 = s29.2]) (st' := ⟨[(1, .one (.ptr 0 0)), (2, .one (.ptr 1 0)), (4, .one (.ptr 2 0)), (5, .one (.dat (.int .i64) s8.1)), (6, .one (.dat (.int .i64) s20.1)), (7, .one (.dat (.int .i64) s29.1)), (8, .one (.dat (.int .i64) (List.getD s29.2 (Int.toNat y39) (0 : Int)))), (9, .one (.dat (.int .i64) (List.getD s29.2 (Int.toNat y42) (0 : Int)))), (21, .one (.dat (.int .i64) y6)), (22, .one (.dat (.int .i64) s8.1)), (26, .one (.dat (.int .i64) y18)), (27, .one (.dat (.int .i64) s20.1)), (31, .one (.dat (.int .i64) y27)), (32, .one (.dat (.int .i64) s29.1)), (56, .one (.dat .bool false))], [(0, .box [.dat (.int .i64) a0.1, .dat (.sl (.int .i64)) a0.2]), (1, .box [.dat (.int .i64) (0 : Int), .nilS]), (2, .box [.dat (.int .i64) a0.1, .all 3]), (3, .seq (.int .i64) s29.2)], 4⟩) hO (fun h => by cases h) (by kernel_rfl) ⟨rfl, rfl, rfl, rfl, rfl, rfl, rfl, rfl, rfl, rfl, rfl, rfl, rfl, rfl, rfl, rfl, rfl, trivial⟩).ht (cont false (of_some hT47))
              · refine HT.cond0 rfl hb35 ?_
                have hx33 := of_some hx33
                subst hx33
                refine (Le.cv (s := ⟨[(0, 0), (1, 1), (2, 2), (3, 3)], [], [], false⟩) (own := []) (ps := [s8.1 = s8.1, y6 = y6, s8.1 = s8.1, y18 = y18, s20.1 = s20.1, a0.1 = a0.1, a0.2 = a0.2, (0 : Int) = (0 : Int), a0.1 = a0.1, s29.2 = s29.2]) (st' := ⟨[(1, .one (.ptr 0 0)), (2, .one (.ptr 1 0)), (4, .one (.ptr 2 0)), (5, .one (.dat (.int .i64) s8.1)), (21, .one (.dat (.int .i64) y6)), (22, .one (.dat (.int .i64) s8.1)), (26, .one (.dat (.int .i64) y18)), (27, .one (.dat (.int .i64) s20.1))], [(0, .box [.dat (.int .i64) a0.1, .dat (.sl (.int .i64)) a0.2]), (1, .box [.dat (.int .i64) (0 : Int), .nilS]), (2, .box [.dat (.int .i64) a0.1, .all 3]), (3, .seq (.int .i64) s29.2)], 4⟩) hO (fun h => by cases h) (by kernel_rfl) ⟨rfl, rfl, rfl, rfl, rfl, rfl, rfl, rfl, rfl, rfl, trivial⟩).ht ?_
                exact HT.exit (qThenE (qLoopE (hk34 s29.2 rfl)))
          · refine HT.cond0 rfl hb26 ?_
            have hx24 := of_some hx24
            subst hx24
            refine (Le.cv (s := ⟨[(0, 0), (1, 1), (2, 2), (3, 3)], [], [], false⟩) (own := []) (ps := [y6 = y6, s8.1 = s8.1, a0.1 = a0.1, a0.2 = a0.2, (0 : Int) = (0 : Int), a0.1 = a0.1, s20.2 = s20.2]) (st' := ⟨[(1, .one (.ptr 0 0)), (2, .one (.ptr 1 0)), (4, .one (.ptr 2 0)), (21, .one (.dat (.int .i64) y6)), (22, .one (.dat (.int .i64) s8.1))], [(0, .box [.dat (.int .i64) a0.1, .dat (.sl (.int .i64)) a0.2]), (1, .box [.dat (.int .i64) (0 : Int), .nilS]), (2, .box [.dat (.int .i64) a0.1, .all 3]), (3, .seq (.int .i64) s20.2)], 4⟩) hO (fun h => by cases h) (by kernel_rfl) ⟨rfl, rfl, rfl, rfl, rfl, rfl, rfl, trivial⟩).ht ?_
            exact HT.exit (qThenE (qLoopE (hk25 s20.2 rfl)))
      · refine HT.cond0 rfl hb17 ?_
        have hx15 := of_some hx15
        subst hx15
        refine (Le.cv (s := ⟨[(1, 0), (2, 1), (3, 2)], [], [], false⟩) (own := []) (ps := [(0 : Int) = (0 : Int), a0.1 = a0.1, s8.2 = s8.2]) (st' := ⟨[(2, .one (.ptr 0 0)), (4, .one (.ptr 1 0))], [(0, .box [.dat (.int .i64) (0 : Int), .nilS]), (1, .box [.dat (.int .i64) a0.1, .all 2]), (2, .seq (.int .i64) s8.2)], 3⟩) hO (fun h => by cases h) (by kernel_rfl) ⟨rfl, rfl, rfl, trivial⟩).ht ?_
        exact HT.exit (qThenE (qLoopE (hk16 s8.2 rfl)))

noncomputable def impl_ResetZone_B1 (a1 : Int) (y1 : (Int × List Int) × Bool) (y12 : Int) (s14 : Int × List Int) : Option ((Int × List Int) ⊕ (List Int)) :=
  bif (decide (s14.1 < y12)) then
    (impl_Zone_at (y1.1.1, s14.2) s14.1 a1).bind fun y24 =>
    (impl_Zone_at (y1.1.1, s14.2) s14.1 (0 : Int)).bind fun y26 =>
    guardP ((0 : Int) ≤ y26 ∧ y26 < lenI s14.2) (
      guardP ((0 : Int) ≤ y24 ∧ y24 < lenI s14.2) (
        some (.inl ((wadd .i64 s14.1 (1 : Int)), (List.set s14.2 (Int.toNat y24) (List.getD s14.2 (Int.toNat y26) (0 : Int)))))))
  else
    some (.inr s14.2)

noncomputable def impl_ResetZone_B2 (a1 : Int) (y1 : (Int × List Int) × Bool) (y7 : Int) (s9 : Int × List Int) : Option ((Int × List Int) ⊕ (List Int)) :=
  bif (decide (s9.1 < y7)) then
    (impl_Zone_at (y1.1.1, s9.2) a1 s9.1).bind fun y35 =>
    (impl_Zone_at (y1.1.1, s9.2) (0 : Int) s9.1).bind fun y37 =>
    guardP ((0 : Int) ≤ y37 ∧ y37 < lenI s9.2) (
      guardP ((0 : Int) ≤ y35 ∧ y35 < lenI s9.2) (
        some (.inl ((wadd .i64 s9.1 (1 : Int)), (List.set s9.2 (Int.toNat y35) (List.getD s9.2 (Int.toNat y37) (0 : Int)))))))
  else
    some (.inr s9.2)

noncomputable def impl_ResetZone (a0 : Int × List Int) (a1 : Int) : Option ((Int × List Int) × Bool) :=
  (impl_TightZone (a0.1, a0.2)).bind fun y1 =>
  (show Option (Bool) from
    bif (!y1.2) then
      some true
    else
      (impl_within a1 (1 : Int) a0.1).bind fun y43 =>
      some (!y43)).bind fun v3 =>
  bif v3 then
    some (((0 : Int), ([] : List Int)), false)
  else
    (impl_Zone_wide (y1.1.1, y1.1.2)).bind fun y7 =>
    (rounds (impl_ResetZone_B2 a1 y1 y7) ((0 : Int), y1.1.2)).bind fun r11 =>
    (impl_Zone_wide (y1.1.1, r11)).bind fun y12 =>
    (rounds (impl_ResetZone_B1 a1 y1 y12) ((0 : Int), r11)).bind fun r16 =>
    (impl_Zone_at (y1.1.1, r16) a1 a1).bind fun y17 =>
    guardP ((0 : Int) ≤ y17 ∧ y17 < lenI r16) (
      some ((y1.1.1, (List.set r16 (Int.toNat y17) (0 : Int))), true))

theorem f26_ok {a0 : Int × List Int} {a1 : Int} {r : (Int × List Int) × Bool} (hr : impl_ResetZone a0 a1 = some r) : CallOK Try.prog 26 [.imm (.st (.pair (.int .i64) (.sl (.int .i64)))) a0, .imm (.int .i64) a1] [⟨true, (.st (.pair (.int .i64) (.sl (.int .i64)))), r.1⟩, ⟨false, .bool, r.2⟩] [] := by
  unfold impl_ResetZone at hr
  refine CallOK.of_body (ts := [(true, (.st (.pair (.int .i64) (.sl (.int .i64))))), (false, .bool)]) Try.func26 rfl (by kernel_rfl) (Nat.le_of_ble_eq_true (by kernel_rfl)) fun cx hP hN hO hF => ?_
  have hO : cx.own.map Prod.fst = [] := hO
  show HT cx ⟨[(0, .agg [.dat (.int .i64) a0.1, .dat (.sl (.int .i64)) a0.2]), (1, .one (.dat (.int .i64) a1))], [], 0⟩ _ _
  refine HT.reg1 [1, 2, 4] [⟨none, .no⟩, ⟨none, .no⟩, ⟨none, .no⟩] ⟨[(1, .one (.dat (.int .i64) a1)), (2, .one (.ptr 0 0)), (4, .one (.ptr 1 0))], [(1, .box [.dat (.int .i64) (0 : Int), .nilS]), (0, .box [.dat (.int .i64) a0.1, .dat (.sl (.int .i64)) a0.2])], 2⟩ hP hN (by kernel_rfl) allNil ?_
  obtain ⟨y1, hc2, hr⟩ := of_bind hr
  refine HT.reg1 [1, 2, 4, 6, 7] [⟨none, .no⟩, ⟨none, .call [.imm (.st (.pair (.int .i64) (.sl (.int .i64))))] [⟨true, (.st (.pair (.int .i64) (.sl (.int .i64)))), y1.1⟩, ⟨false, .bool, y1.2⟩] []⟩, ⟨none, .no⟩, ⟨none, .no⟩, ⟨none, .no⟩, ⟨none, .no⟩, ⟨none, .no⟩, ⟨none, .no⟩] ⟨[(1, .one (.dat (.int .i64) a1)), (2, .one (.ptr 0 0)), (4, .one (.ptr 1 0)), (6, .one (.ptr 3 0)), (7, .one (.dat .bool y1.2))], [(3, .box [.dat (.int .i64) y1.1.1, .all 2]), (3, .box [.dat (.int .i64) (0 : Int), .nilS]), (2, .seq (.int .i64) y1.1.2), (1, .box [.dat (.int .i64) (0 : Int), .nilS]), (0, .box [.dat (.int .i64) a0.1, .dat (.sl (.int .i64)) a0.2])], 4⟩ hP hN (by kernel_rfl) (allCons (f53_ok hc2) allNil) ?_
  refine HT.seq ?_
  obtain ⟨v3', hT5, hr⟩ := of_bind hr
  refine HT.join (fun (v3 : Bool) => ⟨[(1, .one (.dat (.int .i64) a1)), (4, .one (.ptr 0 0)), (6, .one (.ptr 1 0)), (23, .one (.dat .bool v3))], [(0, .box [.dat (.int .i64) (0 : Int), .nilS]), (1, .box [.dat (.int .i64) y1.1.1, .all 2]), (2, .seq (.int .i64) y1.1.2)], 3⟩) (fun v => v = v3') (fun v3 hv4 => ?_) (fun cont => ?_)
  · subst hv4
    rcases of_bif hr with ⟨hb6, hr⟩ | ⟨hb6, hr⟩
    · refine HT.cond1 rfl hb6 ?_
      refine HT.reg1 [4, 5] [⟨none, .no⟩, ⟨none, .no⟩, ⟨none, .no⟩] ⟨[(4, .one (.ptr 0 0)), (5, .one (.dat .bool false))], [(0, .box [.dat (.int .i64) (0 : Int), .nilS]), (0, .box [.dat (.int .i64) (0 : Int), .nilS]), (1, .box [.dat (.int .i64) y1.1.1, .all 2]), (2, .seq (.int .i64) y1.1.2)], 3⟩ hP hN (by kernel_rfl) allNil ?_
      have hr := of_some hr
      subst hr
      exact HT.ret (qThenR ⟨[.agg [.dat (.int .i64) (0 : Int), .nilS], .one (.dat .bool false)], [], [], by kernel_rfl, by kernel_rfl, rfl, (.inl rfl), by kernel_rfl, trivial⟩)
    · refine HT.cond0 rfl hb6 ?_
      refine HT.skip (qThen ?_)
      refine HT.seq ?_
      obtain ⟨y7, hc8, hr⟩ := of_bind hr
      refine HT.reg1 [1, 4, 6, 26, 27] [⟨none, .no⟩, ⟨none, .call [.imm (.st (.pair (.int .i64) (.sl (.int .i64))))] [⟨false, (.int .i64), y7⟩] []⟩, ⟨none, .no⟩] ⟨[(1, .one (.dat (.int .i64) a1)), (4, .one (.ptr 0 0)), (6, .one (.ptr 1 0)), (26, .one (.dat (.int .i64) y7)), (27, .one (.dat (.int .i64) (0 : Int)))], [(0, .box [.dat (.int .i64) (0 : Int), .nilS]), (1, .box [.dat (.int .i64) y1.1.1, .all 2]), (2, .seq (.int .i64) y1.1.2)], 3⟩ hP hN (by kernel_rfl) (allCons (f58_ok hc8) allNil) ?_
      refine HT.block ?_
      obtain ⟨r10, hL41, hr⟩ := of_bind hr
      refine (Le.cv (s := ⟨[(0, 0), (1, 1), (2, 2)], [], [], false⟩) (own := []) (ps := [a1 = a1, y7 = y7, (0 : Int) = (0 : Int), (0 : Int) = (0 : Int), y1.1.1 = y1.1.1, y1.1.2 = y1.1.2]) (st' := ⟨[(1, .one (.dat (.int .i64) a1)), (4, .one (.ptr 0 0)), (6, .one (.ptr 1 0)), (26, .one (.dat (.int .i64) y7)), (27, .one (.dat (.int .i64) (0 : Int)))], [(0, .box [.dat (.int .i64) (0 : Int), .nilS]), (1, .box [.dat (.int .i64) y1.1.1, .all 2]), (2, .seq (.int .i64) y1.1.2)], 3⟩) hO (fun h => by cases h) (by kernel_rfl) ⟨rfl, rfl, rfl, rfl, rfl, rfl, trivial⟩).ht ?_
      refine HT.loopE (s := ((0 : Int), y1.1.2)) (fun (s9 : Int × List Int) => ⟨[(1, .one (.dat (.int .i64) a1)), (4, .one (.ptr 0 0)), (6, .one (.ptr 1 0)), (26, .one (.dat (.int .i64) y7)), (27, .one (.dat (.int .i64) s9.1))], [(0, .box [.dat (.int .i64) (0 : Int), .nilS]), (1, .box [.dat (.int .i64) y1.1.1, .all 2]), (2, .seq (.int .i64) s9.2)], 3⟩) (fun (r11 : List Int) => (.exit 0, ⟨[(1, .one (.dat (.int .i64) a1)), (4, .one (.ptr 0 0)), (6, .one (.ptr 1 0))], [(0, .box [.dat (.int .i64) (0 : Int), .nilS]), (1, .box [.dat (.int .i64) y1.1.1, .all 2]), (2, .seq (.int .i64) r11)], 3⟩)) hL41 ?_ (fun s9 x31 hx32 hk33 => ?_)
      · refine (qBlockX (qThen ?_))
        refine HT.seq ?_
        obtain ⟨y12, hc13, hr⟩ := of_bind hr
        refine HT.reg1 [1, 4, 6, 46, 47] [⟨none, .no⟩, ⟨none, .call [.imm (.st (.pair (.int .i64) (.sl (.int .i64))))] [⟨false, (.int .i64), y12⟩] []⟩, ⟨none, .no⟩] ⟨[(1, .one (.dat (.int .i64) a1)), (4, .one (.ptr 0 0)), (6, .one (.ptr 1 0)), (46, .one (.dat (.int .i64) y12)), (47, .one (.dat (.int .i64) (0 : Int)))], [(0, .box [.dat (.int .i64) (0 : Int), .nilS]), (1, .box [.dat (.int .i64) y1.1.1, .all 2]), (2, .seq (.int .i64) r10)], 3⟩ hP hN (by kernel_rfl) (allCons (f58_ok hc13) allNil) ?_
        refine HT.block ?_
        obtain ⟨r15, hL30, hr⟩ := of_bind hr
        refine (Le.cv (s := ⟨[(0, 0), (1, 1), (2, 2)], [], [], false⟩) (own := []) (ps := [a1 = a1, y12 = y12, (0 : Int) = (0 : Int), (0 : Int) = (0 : Int), y1.1.1 = y1.1.1, r10 = r10]) (st' := ⟨[(1, .one (.dat (.int .i64) a1)), (4, .one (.ptr 0 0)), (6, .one (.ptr 1 0)), (46, .one (.dat (.int .i64) y12)), (47, .one (.dat (.int .i64) (0 : Int)))], [(0, .box [.dat (.int .i64) (0 : Int), .nilS]), (1, .box [.dat (.int .i64) y1.1.1, .all 2]), (2, .seq (.int .i64) r10)], 3⟩) hO (fun h => by cases h) (by kernel_rfl) ⟨rfl, rfl, rfl, rfl, rfl, rfl, trivial⟩).ht ?_
        refine HT.loopE (s := ((0 : Int), r10)) (fun (s14 : Int × List Int) => ⟨[(1, .one (.dat (.int .i64) a1)), (4, .one (.ptr 0 0)), (6, .one (.ptr 1 0)), (46, .one (.dat (.int .i64) y12)), (47, .one (.dat (.int .i64) s14.1))], [(0, .box [.dat (.int .i64) (0 : Int), .nilS]), (1, .box [.dat (.int .i64) y1.1.1, .all 2]), (2, .seq (.int .i64) s14.2)], 3⟩) (fun (r16 : List Int) => (.exit 2, ⟨[(1, .one (.dat (.int .i64) a1)), (4, .one (.ptr 0 0)), (6, .one (.ptr 1 0))], [(0, .box [.dat (.int .i64) (0 : Int), .nilS]), (1, .box [.dat (.int .i64) y1.1.1, .all 2]), (2, .seq (.int .i64) r16)], 3⟩)) hL30 ?_ (fun s14 x20 hx21 hk22 => ?_)
        · refine (qBlockX (qThen ?_))
          obtain ⟨y17, hc18, hr⟩ := of_bind hr
          obtain ⟨hg19, hr⟩ := of_guard hr
          refine HT.drw1 [4, 6] 6 [⟨⟨none, .no⟩, []⟩, ⟨⟨none, .no⟩, [0]⟩, ⟨⟨none, .no⟩, []⟩, ⟨⟨none, .no⟩, []⟩, ⟨⟨none, .no⟩, []⟩, ⟨⟨none, .call [.imm (.st (.pair (.int .i64) (.sl (.int .i64)))), .imm (.int .i64), .imm (.int .i64)] [⟨false, (.int .i64), y17⟩] []⟩, [2, 3, 4]⟩] [[0, 1, 2, 3, 4, 5], [0, 1, 2, 3, 4, 5, 6]] [⟨none, .no⟩, ⟨none, .no⟩] ⟨[(4, .one (.ptr 0 0)), (6, .one (.ptr 1 0))], [(2, .seq (.int .i64) (List.set r15 (Int.toNat y17) (0 : Int))), (0, .box [.dat (.int .i64) (0 : Int), .nilS]), (1, .box [.dat (.int .i64) y1.1.1, .all 2]), (2, .seq (.int .i64) r15)], 3⟩ hP hN (by kernel_rfl) (by kernel_rfl) (allCons (f55_ok hc18) (allCons hg19 (allCons (natLt hg19) allNil))) ?_
          refine HT.reg1 [4, 5] [⟨none, .no⟩, ⟨none, .no⟩, ⟨none, .no⟩] ⟨[(4, .one (.ptr 0 0)), (5, .one (.dat .bool true))], [(0, .box [.dat (.int .i64) y1.1.1, .all 2]), (2, .seq (.int .i64) (List.set r15 (Int.toNat y17) (0 : Int))), (0, .box [.dat (.int .i64) (0 : Int), .nilS]), (1, .box [.dat (.int .i64) y1.1.1, .all 2]), (2, .seq (.int .i64) r15)], 3⟩ hP hN (by kernel_rfl) allNil ?_
          have hr := of_some hr
          subst hr
          exact HT.ret ⟨[.agg [.dat (.int .i64) y1.1.1, .all 2], .one (.dat .bool true)], [2], [], by kernel_rfl, by kernel_rfl, rfl, (.inl rfl), by kernel_rfl, trivial⟩
        · refine HT.reg1 [1, 4, 6, 46, 47, 48] [⟨none, .no⟩] ⟨[(1, .one (.dat (.int .i64) a1)), (4, .one (.ptr 0 0)), (6, .one (.ptr 1 0)), (46, .one (.dat (.int .i64) y12)), (47, .one (.dat (.int .i64) s14.1)), (48, .one (.dat .bool (decide (s14.1 < y12))))], [(0, .box [.dat (.int .i64) (0 : Int), .nilS]), (1, .box [.dat (.int .i64) y1.1.1, .all 2]), (2, .seq (.int .i64) s14.2)], 3⟩ hP hN (by kernel_rfl) allNil ?_
          refine HT.seq ?_
          rcases of_bif hx21 with ⟨hb23, hx21⟩ | ⟨hb23, hx21⟩
          · refine HT.cond1 rfl hb23 ?_
            refine HT.skip (qThen ?_)
            refine HT.seq ?_
            refine HT.block ?_
            refine HT.reg1 [1, 4, 6, 9, 46, 47] [⟨none, .no⟩, ⟨none, .no⟩] ⟨[(1, .one (.dat (.int .i64) a1)), (4, .one (.ptr 0 0)), (6, .one (.ptr 1 0)), (9, .one (.dat (.int .i64) s14.1)), (46, .one (.dat (.int .i64) y12)), (47, .one (.dat (.int .i64) s14.1))], [(0, .box [.dat (.int .i64) (0 : Int), .nilS]), (1, .box [.dat (.int .i64) y1.1.1, .all 2]), (2, .seq (.int .i64) s14.2)], 3⟩ hP hN (by kernel_rfl) allNil ?_
            obtain ⟨y24, hc25, hx21⟩ := of_bind hx21
            obtain ⟨y26, hc27, hx21⟩ := of_bind hx21
            obtain ⟨hg28, hx21⟩ := of_guard hx21
            obtain ⟨hg29, hx21⟩ := of_guard hx21
            refine drawS (h := 13) (hrs := [⟨⟨none, .no⟩, []⟩, ⟨⟨none, .no⟩, [0]⟩, ⟨⟨none, .no⟩, []⟩, ⟨⟨none, .no⟩, []⟩, ⟨⟨none, .no⟩, []⟩, ⟨⟨none, .call [.imm (.st (.pair (.int .i64) (.sl (.int .i64)))), .imm (.int .i64), .imm (.int .i64)] [⟨false, (.int .i64), y24⟩] []⟩, [2, 3, 4]⟩, ⟨⟨none, .no⟩, []⟩, ⟨⟨none, .no⟩, [6]⟩, ⟨⟨none, .no⟩, []⟩, ⟨⟨none, .no⟩, []⟩, ⟨⟨none, .call [.imm (.st (.pair (.int .i64) (.sl (.int .i64)))), .imm (.int .i64), .imm (.int .i64)] [⟨false, (.int .i64), y26⟩] []⟩, [2, 3, 4, 5, 8, 9]⟩, ⟨⟨none, .no⟩, [2, 3, 4, 5, 6, 7, 8, 9, 10]⟩, ⟨⟨none, .no⟩, [2, 3, 4, 5, 6, 7, 8, 9, 10, 11]⟩]) (tds := [[0, 1, 2, 3, 4, 5, 6, 7, 8, 9, 10, 11, 12], [0, 1, 2, 3, 4, 5, 6, 7, 8, 9, 10, 11, 12, 13]]) (rs := [⟨none, .no⟩, ⟨none, .no⟩]) (st' := ⟨[(63, .one (.elp 2 (Int.toNat y24) 1)), (62, .one (.dat (.int .i64) (List.getD s14.2 (Int.toNat y26) (0 : Int)))), (61, .one (.elp 2 (Int.toNat y26) 1)), (60, .one (.dat (.int .i64) y26)), (59, .one (.dat (.int .i64) s14.1)), (58, .agg [.dat (.int .i64) y1.1.1, .all 2]), (57, .one (.all 2)), (56, .one (.ptr 1 1)), (55, .one (.dat (.int .i64) y24)), (54, .one (.dat (.int .i64) a1)), (53, .one (.dat (.int .i64) s14.1)), (52, .agg [.dat (.int .i64) y1.1.1, .all 2]), (51, .one (.all 2)), (50, .one (.ptr 1 1)), (1, .one (.dat (.int .i64) a1)), (4, .one (.ptr 0 0)), (6, .one (.ptr 1 0)), (9, .one (.dat (.int .i64) s14.1)), (46, .one (.dat (.int .i64) y12)), (47, .one (.dat (.int .i64) s14.1))], [(2, .seq (.int .i64) (List.set s14.2 (Int.toNat y24) (List.getD s14.2 (Int.toNat y26) (0 : Int)))), (0, .box [.dat (.int .i64) (0 : Int), .nilS]), (1, .box [.dat (.int .i64) y1.1.1, .all 2]), (2, .seq (.int .i64) s14.2)], 3⟩) hP hN (by kernel_rfl) (by kernel_rfl) (allCons (f55_ok hc25) (allCons (f55_ok hc27) (allCons hg28 (allCons (natLt hg28) (allCons hg29 (allCons (natLt hg29) allNil)))))) (qBlock (qThen ?_))
            have hx21 := of_some hx21
            subst hx21
            refine HT.reg (rs := [⟨none, .no⟩, ⟨none, .no⟩]) (st' := ⟨[(47, .one (.dat (.int .i64) (wadd .i64 s14.1 (1 : Int)))), (64, .one (.dat (.int .i64) (wadd .i64 s14.1 (1 : Int)))), (63, .one (.elp 2 (Int.toNat y24) 1)), (62, .one (.dat (.int .i64) (List.getD s14.2 (Int.toNat y26) (0 : Int)))), (61, .one (.elp 2 (Int.toNat y26) 1)), (60, .one (.dat (.int .i64) y26)), (59, .one (.dat (.int .i64) s14.1)), (58, .agg [.dat (.int .i64) y1.1.1, .all 2]), (57, .one (.all 2)), (56, .one (.ptr 1 1)), (55, .one (.dat (.int .i64) y24)), (54, .one (.dat (.int .i64) a1)), (53, .one (.dat (.int .i64) s14.1)), (52, .agg [.dat (.int .i64) y1.1.1, .all 2]), (51, .one (.all 2)), (50, .one (.ptr 1 1)), (1, .one (.dat (.int .i64) a1)), (4, .one (.ptr 0 0)), (6, .one (.ptr 1 0)), (9, .one (.dat (.int .i64) s14.1)), (46, .one (.dat (.int .i64) y12)), (47, .one (.dat (.int .i64) s14.1))], [(2, .seq (.int .i64) (List.set s14.2 (Int.toNat y24) (List.getD s14.2 (Int.toNat y26) (0 : Int)))), (0, .box [.dat (.int .i64) (0 : Int), .nilS]), (1, .box [.dat (.int .i64) y1.1.1, .all 2]), (2, .seq (.int .i64) s14.2)], 3⟩) hP hN (by kernel_rfl) allNil (qLoopN ⟨((wadd .i64 s14.1 (1 : Int)), (List.set s14.2 (Int.toNat y24) (List.getD s14.2 (Int.toNat y26) (0 : Int)))), rfl, Le.cv (s := ⟨[(0, 0), (1, 1), (2, 2)], [], [], false⟩) (own := []) (ps := [a1 = a1, y12 = y12, (wadd .i64 s14.1 (1 : Int)) = (wadd .i64 s14.1 (1 : Int)), (0 : Int) = (0 : Int), y1.1.1 = y1.1.1, (List.set s14.2 (Int.toNat y24) (List.getD s14.2 (Int.toNat y26) (0 : Int))) = (List.set s14.2 (Int.toNat y24) (List.getD s14.2 (Int.toNat y26) (0 : Int)))]) (st' := ⟨[(1, .one (.dat (.int .i64) a1)), (4, .one (.ptr 0 0)), (6, .one (.ptr 1 0)), (46, .one (.dat (.int .i64) y12)), (47, .one (.dat (.int .i64) (wadd .i64 s14.1 (1 : Int))))], [(0, .box [.dat (.int .i64) (0 : Int), .nilS]), (1, .box [.dat (.int .i64) y1.1.1, .all 2]), (2, .seq (.int .i64) (List.set s14.2 (Int.toNat y24) (List.getD s14.2 (Int.toNat y26) (0 : Int))))], 3⟩) hO (fun h => by cases h) (by kernel_rfl) ⟨rfl, rfl, rfl, rfl, rfl, rfl, trivial⟩⟩)
          · refine HT.cond0 rfl hb23 ?_
            have hx21 := of_some hx21
            subst hx21
            refine (Le.cv (s := ⟨[(0, 0), (1, 1), (2, 2)], [], [], false⟩) (own := []) (ps := [a1 = a1, (0 : Int) = (0 : Int), y1.1.1 = y1.1.1, s14.2 = s14.2]) (st' := ⟨[(1, .one (.dat (.int .i64) a1)), (4, .one (.ptr 0 0)), (6, .one (.ptr 1 0))], [(0, .box [.dat (.int .i64) (0 : Int), .nilS]), (1, .box [.dat (.int .i64) y1.1.1, .all 2]), (2, .seq (.int .i64) s14.2)], 3⟩) hO (fun h => by cases h) (by kernel_rfl) ⟨rfl, rfl, rfl, rfl, trivial⟩).ht ?_
            exact HT.exit (qThenE (qLoopE (hk22 s14.2 rfl)))
      · refine HT.reg1 [1, 4, 6, 26, 27, 28] [⟨none, .no⟩] ⟨[(1, .one (.dat (.int .i64) a1)), (4, .one (.ptr 0 0)), (6, .one (.ptr 1 0)), (26, .one (.dat (.int .i64) y7)), (27, .one (.dat (.int .i64) s9.1)), (28, .one (.dat .bool (decide (s9.1 < y7))))], [(0, .box [.dat (.int .i64) (0 : Int), .nilS]), (1, .box [.dat (.int .i64) y1.1.1, .all 2]), (2, .seq (.int .i64) s9.2)], 3⟩ hP hN (by kernel_rfl) allNil ?_
        refine HT.seq ?_
        rcases of_bif hx32 with ⟨hb34, hx32⟩ | ⟨hb34, hx32⟩
        · refine HT.cond1 rfl hb34 ?_
          refine HT.skip (qThen ?_)
          refine HT.seq ?_
          refine HT.block ?_
          refine HT.reg1 [1, 4, 6, 8, 26, 27] [⟨none, .no⟩, ⟨none, .no⟩] ⟨[(1, .one (.dat (.int .i64) a1)), (4, .one (.ptr 0 0)), (6, .one (.ptr 1 0)), (8, .one (.dat (.int .i64) s9.1)), (26, .one (.dat (.int .i64) y7)), (27, .one (.dat (.int .i64) s9.1))], [(0, .box [.dat (.int .i64) (0 : Int), .nilS]), (1, .box [.dat (.int .i64) y1.1.1, .all 2]), (2, .seq (.int .i64) s9.2)], 3⟩ hP hN (by kernel_rfl) allNil ?_
          obtain ⟨y35, hc36, hx32⟩ := of_bind hx32
          obtain ⟨y37, hc38, hx32⟩ := of_bind hx32
          obtain ⟨hg39, hx32⟩ := of_guard hx32
          obtain ⟨hg40, hx32⟩ := of_guard hx32
          refine drawS (h := 13) (hrs := [⟨⟨none, .no⟩, []⟩, ⟨⟨none, .no⟩, [0]⟩, ⟨⟨none, .no⟩, []⟩, ⟨⟨none, .no⟩, []⟩, ⟨⟨none, .no⟩, []⟩, ⟨⟨none, .call [.imm (.st (.pair (.int .i64) (.sl (.int .i64)))), .imm (.int .i64), .imm (.int .i64)] [⟨false, (.int .i64), y35⟩] []⟩, [2, 3, 4]⟩, ⟨⟨none, .no⟩, []⟩, ⟨⟨none, .no⟩, [6]⟩, ⟨⟨none, .no⟩, []⟩, ⟨⟨none, .no⟩, []⟩, ⟨⟨none, .call [.imm (.st (.pair (.int .i64) (.sl (.int .i64)))), .imm (.int .i64), .imm (.int .i64)] [⟨false, (.int .i64), y37⟩] []⟩, [2, 3, 4, 5, 8, 9]⟩, ⟨⟨none, .no⟩, [2, 3, 4, 5, 6, 7, 8, 9, 10]⟩, ⟨⟨none, .no⟩, [2, 3, 4, 5, 6, 7, 8, 9, 10, 11]⟩]) (tds := [[0, 1, 2, 3, 4, 5, 6, 7, 8, 9, 10, 11, 12], [0, 1, 2, 3, 4, 5, 6, 7, 8, 9, 10, 11, 12, 13]]) (rs := [⟨none, .no⟩, ⟨none, .no⟩]) (st' := ⟨[(43, .one (.elp 2 (Int.toNat y35) 1)), (42, .one (.dat (.int .i64) (List.getD s9.2 (Int.toNat y37) (0 : Int)))), (41, .one (.elp 2 (Int.toNat y37) 1)), (40, .one (.dat (.int .i64) y37)), (39, .one (.dat (.int .i64) s9.1)), (38, .agg [.dat (.int .i64) y1.1.1, .all 2]), (37, .one (.all 2)), (36, .one (.ptr 1 1)), (35, .one (.dat (.int .i64) y35)), (34, .one (.dat (.int .i64) s9.1)), (33, .one (.dat (.int .i64) a1)), (32, .agg [.dat (.int .i64) y1.1.1, .all 2]), (31, .one (.all 2)), (30, .one (.ptr 1 1)), (1, .one (.dat (.int .i64) a1)), (4, .one (.ptr 0 0)), (6, .one (.ptr 1 0)), (8, .one (.dat (.int .i64) s9.1)), (26, .one (.dat (.int .i64) y7)), (27, .one (.dat (.int .i64) s9.1))], [(2, .seq (.int .i64) (List.set s9.2 (Int.toNat y35) (List.getD s9.2 (Int.toNat y37) (0 : Int)))), (0, .box [.dat (.int .i64) (0 : Int), .nilS]), (1, .box [.dat (.int .i64) y1.1.1, .all 2]), (2, .seq (.int .i64) s9.2)], 3⟩) hP hN (by kernel_rfl) (by kernel_rfl) (allCons (f55_ok hc36) (allCons (f55_ok hc38) (allCons hg39 (allCons (natLt hg39) (allCons hg40 (allCons (natLt hg40) allNil)))))) (qBlock (qThen ?_))
          have hx32 := of_some hx32
          subst hx32
          refine HT.reg (rs := [⟨none, .no⟩, ⟨none, .no⟩]) (st' := ⟨[(27, .one (.dat (.int .i64) (wadd .i64 s9.1 (1 : Int)))), (44, .one (.dat (.int .i64) (wadd .i64 s9.1 (1 : Int)))), (43, .one (.elp 2 (Int.toNat y35) 1)), (42, .one (.dat (.int .i64) (List.getD s9.2 (Int.toNat y37) (0 : Int)))), (41, .one (.elp 2 (Int.toNat y37) 1)), (40, .one (.dat (.int .i64) y37)), (39, .one (.dat (.int .i64) s9.1)), (38, .agg [.dat (.int .i64) y1.1.1, .all 2]), (37, .one (.all 2)), (36, .one (.ptr 1 1)), (35, .one (.dat (.int .i64) y35)), (34, .one (.dat (.int .i64) s9.1)), (33, .one (.dat (.int .i64) a1)), (32, .agg [.dat (.int .i64) y1.1.1, .all 2]), (31, .one (.all 2)), (30, .one (.ptr 1 1)), (1, .one (.dat (.int .i64) a1)), (4, .one (.ptr 0 0)), (6, .one (.ptr 1 0)), (8, .one (.dat (.int .i64) s9.1)), (26, .one (.dat (.int .i64) y7)), (27, .one (.dat (.int .i64) s9.1))], [(2, .seq (.int .i64) (List.set s9.2 (Int.toNat y35) (List.getD s9.2 (Int.toNat y37) (0 : Int)))), (0, .box [.dat (.int .i64) (0 : Int), .nilS]), (1, .box [.dat (.int .i64) y1.1.1, .all 2]), (2, .seq (.int .i64) s9.2)], 3⟩) hP hN (by kernel_rfl) allNil (qLoopN ⟨((wadd .i64 s9.1 (1 : Int)), (List.set s9.2 (Int.toNat y35) (List.getD s9.2 (Int.toNat y37) (0 : Int)))), rfl, Le.cv (s := ⟨[(0, 0), (1, 1), (2, 2)], [], [], false⟩) (own := []) (ps := [a1 = a1, y7 = y7, (wadd .i64 s9.1 (1 : Int)) = (wadd .i64 s9.1 (1 : Int)), (0 : Int) = (0 : Int), y1.1.1 = y1.1.1, (List.set s9.2 (Int.toNat y35) (List.getD s9.2 (Int.toNat y37) (0 : Int))) = (List.set s9.2 (Int.toNat y35) (List.getD s9.2 (Int.toNat y37) (0 : Int)))]) (st' := ⟨[(1, .one (.dat (.int .i64) a1)), (4, .one (.ptr 0 0)), (6, .one (.ptr 1 0)), (26, .one (.dat (.int .i64) y7)), (27, .one (.dat (.int .i64) (wadd .i64 s9.1 (1 : Int))))], [(0, .box [.dat (.int .i64) (0 : Int), .nilS]), (1, .box [.dat (.int .i64) y1.1.1, .all 2]), (2, .seq (.int .i64) (List.set s9.2 (Int.toNat y35) (List.getD s9.2 (Int.toNat y37) (0 : Int))))], 3⟩) hO (fun h => by cases h) (by kernel_rfl) ⟨rfl, rfl, rfl, rfl, rfl, rfl, trivial⟩⟩)
        · refine HT.cond0 rfl hb34 ?_
          have hx32 := of_some hx32
          subst hx32
          refine (Le.cv (s := ⟨[(0, 0), (1, 1), (2, 2)], [], [], false⟩) (own := []) (ps := [a1 = a1, (0 : Int) = (0 : Int), y1.1.1 = y1.1.1, s9.2 = s9.2]) (st' := ⟨[(1, .one (.dat (.int .i64) a1)), (4, .one (.ptr 0 0)), (6, .one (.ptr 1 0))], [(0, .box [.dat (.int .i64) (0 : Int), .nilS]), (1, .box [.dat (.int .i64) y1.1.1, .all 2]), (2, .seq (.int .i64) s9.2)], 3⟩) hO (fun h => by cases h) (by kernel_rfl) ⟨rfl, rfl, rfl, rfl, trivial⟩).ht ?_
          exact HT.exit (qThenE (qLoopE (hk33 s9.2 rfl)))
  · rcases of_bif hT5 with ⟨hb42, hT5⟩ | ⟨hb42, hT5⟩
    · refine HT.reg (rs := [⟨none, .no⟩, ⟨none, .no⟩, ⟨none, .no⟩, ⟨some true, .no⟩, ⟨some true, .no⟩, ⟨some true, .no⟩, ⟨some true, .no⟩, ⟨some true, .no⟩, ⟨none, .tv true⟩]) (st' := ⟨[(23, .one (.dat .bool true)), (22, .und), (21, .und), (20, .und), (19, .und), (18, .und), (17, .one (.dat .bool (!y1.2))), (16, .one (.dat .bool (!y1.2))), (15, .one (.dat .bool y1.2)), (1, .one (.dat (.int .i64) a1)), (2, .one (.ptr 0 0)), (4, .one (.ptr 1 0)), (6, .one (.ptr 3 0)), (7, .one (.dat .bool y1.2))], [(3, .box [.dat (.int .i64) y1.1.1, .all 2]), (3, .box [.dat (.int .i64) (0 : Int), .nilS]), (2, .seq (.int .i64) y1.1.2), (1, .box [.dat (.int .i64) (0 : Int), .nilS]), (0, .box [.dat (.int .i64) a0.1, .dat (.sl (.int .i64)) a0.2])], 4⟩) hP hN (by kernel_rfl) (allCons hb42 (allCons hb42 (allCons hb42 (allCons hb42 (allCons hb42 (allCons hb42 allNil)))))) (qThen ?_)
      exact (Le.cv (s := ⟨[(1, 0), (3, 1), (2, 2)], [], [], false⟩) (own := []) (ps := [a1 = a1, true = true, (0 : Int) = (0 : Int), y1.1.1 = y1.1.1, y1.1.2 = y1.1.2]) (st' := ⟨[(1, .one (.dat (.int .i64) a1)), (4, .one (.ptr 0 0)), (6, .one (.ptr 1 0)), (23, .one (.dat .bool true))], [(0, .box [.dat (.int .i64) (0 : Int), .nilS]), (1, .box [.dat (.int .i64) y1.1.1, .all 2]), (2, .seq (.int .i64) y1.1.2)], 3⟩) hO (fun h => by cases h) (by kernel_rfl) ⟨rfl, rfl, rfl, rfl, rfl, trivial⟩).ht (cont true (of_some hT5))
    · obtain ⟨y43, hc44, hT5⟩ := of_bind hT5
      refine HT.reg (rs := [⟨none, .no⟩, ⟨none, .no⟩, ⟨none, .no⟩, ⟨some false, .no⟩, ⟨some false, .no⟩, ⟨some false, .no⟩, ⟨some false, .call [.imm (.int .i64), .imm (.int .i64), .imm (.int .i64)] [⟨false, .bool, y43⟩] []⟩, ⟨some false, .no⟩, ⟨none, .tv false⟩]) (st' := ⟨[(23, .one (.dat .bool (!y43))), (22, .one (.dat .bool (!y43))), (21, .one (.dat .bool y43)), (20, .one (.dat (.int .i64) a0.1)), (19, .one (.ptr 0 0)), (18, .one (.dat (.int .i64) a1)), (17, .one (.dat .bool (!y1.2))), (16, .one (.dat .bool (!y1.2))), (15, .one (.dat .bool y1.2)), (1, .one (.dat (.int .i64) a1)), (2, .one (.ptr 0 0)), (4, .one (.ptr 1 0)), (6, .one (.ptr 3 0)), (7, .one (.dat .bool y1.2))], [(3, .box [.dat (.int .i64) y1.1.1, .all 2]), (3, .box [.dat (.int .i64) (0 : Int), .nilS]), (2, .seq (.int .i64) y1.1.2), (1, .box [.dat (.int .i64) (0 : Int), .nilS]), (0, .box [.dat (.int .i64) a0.1, .dat (.sl (.int .i64)) a0.2])], 4⟩) hP hN (by kernel_rfl) (allCons hb42 (allCons hb42 (allCons hb42 (allCons hb42 (allCons (f57_ok hc44) (allCons hb42 (allCons hb42 allNil))))))) (qThen ?_)
      exact (Le.cv (s := ⟨[(1, 0), (3, 1), (2, 2)], [], [], false⟩) (own := []) (ps := [a1 = a1, (!y43) = (!y43), (0 : Int) = (0 : Int), y1.1.1 = y1.1.1, y1.1.2 = y1.1.2]) (st' := ⟨[(1, .one (.dat (.int .i64) a1)), (4, .one (.ptr 0 0)), (6, .one (.ptr 1 0)), (23, .one (.dat .bool (!y43)))], [(0, .box [.dat (.int .i64) (0 : Int), .nilS]), (1, .box [.dat (.int .i64) y1.1.1, .all 2]), (2, .seq (.int .i64) y1.1.2)], 3⟩) hO (fun h => by cases h) (by kernel_rfl) ⟨rfl, rfl, rfl, rfl, rfl, trivial⟩).ht (cont (!y43) (of_some hT5))

noncomputable def laws_eqInt64S_B1 (a0 : List Int) (a1 : List Int) (s2 : Int) : Option ((Int) ⊕ (Unit ⊕ Unit)) :=
  bif (decide (s2 < (lenI a0))) then
    guardP ((0 : Int) ≤ s2 ∧ s2 < lenI a0) (
      guardP ((0 : Int) ≤ s2 ∧ s2 < lenI a1) (
        bif ((List.getD a0 (Int.toNat s2) (0 : Int)) != (List.getD a1 (Int.toNat s2) (0 : Int))) then
          some (.inr (.inr ()))
        else
          some (.inl (wadd .i64 s2 (1 : Int)))))
  else
    some (.inr (.inl ()))

noncomputable def laws_eqInt64S (a0 : List Int) (a1 : List Int) : Option (Bool) :=
  bif ((lenI a0) != (lenI a1)) then
    some false
  else
    (rounds (laws_eqInt64S_B1 a0 a1) (0 : Int)).bind fun r3 => match r3 with
      | .inl r4 =>
        some true
      | .inr r5 =>
        some false

theorem f46_ok {a0 : List Int} {a1 : List Int} {r : Bool} (hr : laws_eqInt64S a0 a1 = some r) : CallOK Try.prog 46 [.imm (.sl (.int .i64)) a0, .imm (.sl (.int .i64)) a1] [⟨false, .bool, r⟩] [] := by
  unfold laws_eqInt64S at hr
  refine CallOK.of_body (ts := [(false, .bool)]) Try.func46 rfl (by kernel_rfl) (Nat.le_of_ble_eq_true (by kernel_rfl)) fun cx hP hN hO hF => ?_
  have hO : cx.own.map Prod.fst = [] := hO
  show HT cx ⟨[(0, .one (.dat (.sl (.int .i64)) a0)), (1, .one (.dat (.sl (.int .i64)) a1))], [], 0⟩ _ _
  refine HT.reg1 [0, 1] [⟨none, .no⟩] ⟨[(0, .one (.dat (.sl (.int .i64)) a0)), (1, .one (.dat (.sl (.int .i64)) a1))], [], 0⟩ hP hN (by kernel_rfl) allNil ?_
  refine HT.seq ?_
  refine HT.reg1 [0, 1, 10] [⟨none, .no⟩, ⟨none, .no⟩, ⟨none, .no⟩, ⟨none, .no⟩, ⟨none, .no⟩] ⟨[(0, .one (.dat (.sl (.int .i64)) a0)), (1, .one (.dat (.sl (.int .i64)) a1)), (10, .one (.dat .bool ((lenI a0) != (lenI a1))))], [], 0⟩ hP hN (by kernel_rfl) allNil ?_
  rcases of_bif hr with ⟨hb1, hr⟩ | ⟨hb1, hr⟩
  · refine HT.cond1 rfl hb1 ?_
    refine HT.reg1 [4] [⟨none, .no⟩] ⟨[(4, .one (.dat .bool false))], [], 0⟩ hP hN (by kernel_rfl) allNil ?_
    have hr := of_some hr
    subst hr
    exact HT.ret (qThenR ⟨[.one (.dat .bool false)], [], [], by kernel_rfl, by kernel_rfl, rfl, (.inl rfl), by kernel_rfl, trivial⟩)
  · refine HT.cond0 rfl hb1 ?_
    refine HT.skip (qThen ?_)
    refine HT.seq ?_
    refine HT.reg1 [0, 1, 5] [⟨none, .no⟩] ⟨[(0, .one (.dat (.sl (.int .i64)) a0)), (1, .one (.dat (.sl (.int .i64)) a1)), (5, .one (.dat (.int .i64) (0 : Int)))], [], 0⟩ hP hN (by kernel_rfl) allNil ?_
    refine HT.block ?_
    obtain ⟨r3, hL13, hr⟩ := of_bind hr
    refine (Le.cv (s := ⟨[], [], [], false⟩) (own := []) (ps := [a0 = a0, a1 = a1, (0 : Int) = (0 : Int)]) (st' := ⟨[(0, .one (.dat (.sl (.int .i64)) a0)), (1, .one (.dat (.sl (.int .i64)) a1)), (5, .one (.dat (.int .i64) (0 : Int)))], [], 0⟩) hO (fun h => by cases h) (by kernel_rfl) ⟨rfl, rfl, rfl, trivial⟩).ht ?_
    refine HT.loopE (s := (0 : Int)) (fun (s2 : Int) => ⟨[(0, .one (.dat (.sl (.int .i64)) a0)), (1, .one (.dat (.sl (.int .i64)) a1)), (5, .one (.dat (.int .i64) s2))], [], 0⟩) (fun (r3 : Unit ⊕ Unit) => match r3 with | .inl r4 => (.exit 0, ⟨[], [], 0⟩) | .inr r5 => (.ret, ⟨[(4, .one (.dat .bool false))], [], 0⟩)) hL13 ?_ (fun s2 x6 hx7 hk8 => ?_)
    · rcases r3 with r4 | r5
      · refine (qBlockX (qThen ?_))
        refine HT.reg1 [4] [⟨none, .no⟩] ⟨[(4, .one (.dat .bool true))], [], 0⟩ hP hN (by kernel_rfl) allNil ?_
        have hr := of_some hr
        subst hr
        exact HT.ret ⟨[.one (.dat .bool true)], [], [], by kernel_rfl, by kernel_rfl, rfl, (.inl rfl), by kernel_rfl, trivial⟩
      · have hr := of_some hr
        subst hr
        exact (qBlockR (qThenR ⟨[.one (.dat .bool false)], [], [], by kernel_rfl, by kernel_rfl, rfl, (.inl rfl), by kernel_rfl, trivial⟩))
    · refine HT.seq ?_
      refine HT.reg1 [0, 1, 5, 14] [⟨none, .no⟩, ⟨none, .no⟩, ⟨none, .no⟩, ⟨none, .no⟩] ⟨[(0, .one (.dat (.sl (.int .i64)) a0)), (1, .one (.dat (.sl (.int .i64)) a1)), (5, .one (.dat (.int .i64) s2)), (14, .one (.dat .bool (decide (s2 < (lenI a0)))))], [], 0⟩ hP hN (by kernel_rfl) allNil ?_
      rcases of_bif hx7 with ⟨hb9, hx7⟩ | ⟨hb9, hx7⟩
      · refine HT.cond1 rfl hb9 ?_
        refine HT.skip (qThen ?_)
        refine HT.seq ?_
        refine HT.block ?_
        obtain ⟨hg10, hx7⟩ := of_guard hx7
        obtain ⟨hg11, hx7⟩ := of_guard hx7
        refine HT.drw1 [0, 1, 5, 25] 8 [⟨⟨none, .no⟩, []⟩, ⟨⟨none, .no⟩, []⟩, ⟨⟨none, .no⟩, [0, 1]⟩, ⟨⟨none, .no⟩, [0, 1, 2]⟩, ⟨⟨none, .no⟩, []⟩, ⟨⟨none, .no⟩, []⟩, ⟨⟨none, .no⟩, [4, 5]⟩, ⟨⟨none, .no⟩, [4, 5, 6]⟩] [[0, 1, 2, 3, 4, 5, 6, 7]] [⟨none, .no⟩] ⟨[(0, .one (.dat (.sl (.int .i64)) a0)), (1, .one (.dat (.sl (.int .i64)) a1)), (5, .one (.dat (.int .i64) s2)), (25, .one (.dat .bool ((List.getD a0 (Int.toNat s2) (0 : Int)) != (List.getD a1 (Int.toNat s2) (0 : Int)))))], [], 0⟩ hP hN (by kernel_rfl) (by kernel_rfl) (allCons hg10 (allCons hg11 allNil)) ?_
        rcases of_bif hx7 with ⟨hb12, hx7⟩ | ⟨hb12, hx7⟩
        · refine HT.cond1 rfl hb12 ?_
          refine HT.reg1 [4] [⟨none, .no⟩] ⟨[(4, .one (.dat .bool false))], [], 0⟩ hP hN (by kernel_rfl) allNil ?_
          have hx7 := of_some hx7
          subst hx7
          refine (Le.cv (s := ⟨[], [], [], false⟩) (own := []) (ps := [false = false]) (st' := ⟨[(4, .one (.dat .bool false))], [], 0⟩) hO (fun h => by cases h) (by kernel_rfl) ⟨rfl, trivial⟩).ht ?_
          exact HT.ret (qBlockR (qThenR (qLoopR (hk8 (.inr ()) rfl))))
        · refine HT.cond0 rfl hb12 ?_
          refine HT.skip (qBlock (qThen ?_))
          have hx7 := of_some hx7
          subst hx7
          refine HT.reg (rs := [⟨none, .no⟩, ⟨none, .no⟩, ⟨none, .no⟩]) (st' := ⟨[(5, .one (.dat (.int .i64) (wadd .i64 s2 (1 : Int)))), (16, .one (.dat (.int .i64) (wadd .i64 s2 (1 : Int)))), (15, .one (.dat (.int .i64) s2)), (0, .one (.dat (.sl (.int .i64)) a0)), (1, .one (.dat (.sl (.int .i64)) a1)), (5, .one (.dat (.int .i64) s2)), (25, .one (.dat .bool ((List.getD a0 (Int.toNat s2) (0 : Int)) != (List.getD a1 (Int.toNat s2) (0 : Int)))))], [], 0⟩) hP hN (by kernel_rfl) allNil (qLoopN ⟨(wadd .i64 s2 (1 : Int)), rfl, Le.cv (s := ⟨[], [], [], false⟩) (own := []) (ps := [a0 = a0, a1 = a1, (wadd .i64 s2 (1 : Int)) = (wadd .i64 s2 (1 : Int))]) (st' := ⟨[(0, .one (.dat (.sl (.int .i64)) a0)), (1, .one (.dat (.sl (.int .i64)) a1)), (5, .one (.dat (.int .i64) (wadd .i64 s2 (1 : Int))))], [], 0⟩) hO (fun h => by cases h) (by kernel_rfl) ⟨rfl, rfl, rfl, trivial⟩⟩)
      · refine HT.cond0 rfl hb9 ?_
        have hx7 := of_some hx7
        subst hx7
        refine (Le.cv (s := ⟨[], [], [], false⟩) (own := []) (ps := []) (st' := ⟨[], [], 0⟩) hO (fun h => by cases h) (by kernel_rfl) trivial).ht ?_
        exact HT.exit (qThenE (qLoopE (hk8 (.inl ()) rfl)))

noncomputable def laws_eqZone (a0 : Int × List Int) (a1 : Int × List Int) : Option (Bool) :=
  bif (a0.1 != a1.1) then
    some false
  else
    (laws_eqInt64S a0.2 a1.2).bind fun y2 =>
    bif (!y2) then
      some false
    else
      some true

theorem f20_ok {a0 : Int × List Int} {a1 : Int × List Int} {r : Bool} (hr : laws_eqZone a0 a1 = some r) : CallOK Try.prog 20 [.imm (.st (.pair (.int .i64) (.sl (.int .i64)))) a0, .imm (.st (.pair (.int .i64) (.sl (.int .i64)))) a1] [⟨false, .bool, r⟩] [] := by
  unfold laws_eqZone at hr
  refine CallOK.of_body (ts := [(false, .bool)]) Try.func20 rfl (by kernel_rfl) (Nat.le_of_ble_eq_true (by kernel_rfl)) fun cx hP hN hO hF => ?_
  have hO : cx.own.map Prod.fst = [] := hO
  show HT cx ⟨[(0, .agg [.dat (.int .i64) a0.1, .dat (.sl (.int .i64)) a0.2]), (1, .agg [.dat (.int .i64) a1.1, .dat (.sl (.int .i64)) a1.2])], [], 0⟩ _ _
  refine HT.reg1 [2, 3] [⟨none, .no⟩, ⟨none, .no⟩, ⟨none, .no⟩] ⟨[(2, .one (.ptr 0 0)), (3, .one (.ptr 1 0))], [(1, .box [.dat (.int .i64) a1.1, .dat (.sl (.int .i64)) a1.2]), (0, .box [.dat (.int .i64) a0.1, .dat (.sl (.int .i64)) a0.2])], 2⟩ hP hN (by kernel_rfl) allNil ?_
  refine HT.seq ?_
  refine HT.reg1 [2, 3, 9] [⟨none, .no⟩, ⟨none, .no⟩, ⟨none, .no⟩, ⟨none, .no⟩, ⟨none, .no⟩] ⟨[(2, .one (.ptr 0 0)), (3, .one (.ptr 1 0)), (9, .one (.dat .bool (a0.1 != a1.1)))], [(1, .box [.dat (.int .i64) a1.1, .dat (.sl (.int .i64)) a1.2]), (0, .box [.dat (.int .i64) a0.1, .dat (.sl (.int .i64)) a0.2])], 2⟩ hP hN (by kernel_rfl) allNil ?_
  rcases of_bif hr with ⟨hb1, hr⟩ | ⟨hb1, hr⟩
  · refine HT.cond1 rfl hb1 ?_
    refine HT.reg1 [4] [⟨none, .no⟩] ⟨[(4, .one (.dat .bool false))], [(1, .box [.dat (.int .i64) a1.1, .dat (.sl (.int .i64)) a1.2]), (0, .box [.dat (.int .i64) a0.1, .dat (.sl (.int .i64)) a0.2])], 2⟩ hP hN (by kernel_rfl) allNil ?_
    have hr := of_some hr
    subst hr
    exact HT.ret (qThenR ⟨[.one (.dat .bool false)], [], [], by kernel_rfl, by kernel_rfl, rfl, (.inl rfl), by kernel_rfl, trivial⟩)
  · refine HT.cond0 rfl hb1 ?_
    refine HT.skip (qThen ?_)
    refine HT.seq ?_
    obtain ⟨y2, hc3, hr⟩ := of_bind hr
    refine HT.reg1 [15] [⟨none, .no⟩, ⟨none, .no⟩, ⟨none, .no⟩, ⟨none, .no⟩, ⟨none, .call [.imm (.sl (.int .i64)), .imm (.sl (.int .i64))] [⟨false, .bool, y2⟩] []⟩, ⟨none, .no⟩] ⟨[(15, .one (.dat .bool (!y2)))], [(1, .box [.dat (.int .i64) a1.1, .dat (.sl (.int .i64)) a1.2]), (0, .box [.dat (.int .i64) a0.1, .dat (.sl (.int .i64)) a0.2])], 2⟩ hP hN (by kernel_rfl) (allCons (f46_ok hc3) allNil) ?_
    rcases of_bif hr with ⟨hb4, hr⟩ | ⟨hb4, hr⟩
    · refine HT.cond1 rfl hb4 ?_
      refine HT.reg1 [4] [⟨none, .no⟩] ⟨[(4, .one (.dat .bool false))], [(1, .box [.dat (.int .i64) a1.1, .dat (.sl (.int .i64)) a1.2]), (0, .box [.dat (.int .i64) a0.1, .dat (.sl (.int .i64)) a0.2])], 2⟩ hP hN (by kernel_rfl) allNil ?_
      have hr := of_some hr
      subst hr
      exact HT.ret (qThenR ⟨[.one (.dat .bool false)], [], [], by kernel_rfl, by kernel_rfl, rfl, (.inl rfl), by kernel_rfl, trivial⟩)
    · refine HT.cond0 rfl hb4 ?_
      refine HT.skip (qThen ?_)
      refine HT.reg1 [4] [⟨none, .no⟩] ⟨[(4, .one (.dat .bool true))], [(1, .box [.dat (.int .i64) a1.1, .dat (.sl (.int .i64)) a1.2]), (0, .box [.dat (.int .i64) a0.1, .dat (.sl (.int .i64)) a0.2])], 2⟩ hP hN (by kernel_rfl) allNil ?_
      have hr := of_some hr
      subst hr
      exact HT.ret ⟨[.one (.dat .bool true)], [], [], by kernel_rfl, by kernel_rfl, rfl, (.inl rfl), by kernel_rfl, trivial⟩

noncomputable def laws_markInt64S_B1  (s1 : Int × Int × List Int) : Option ((Int × Int × List Int) ⊕ ((Int × List Int))) :=
  bif (decide (s1.2.1 < (lenI s1.2.2))) then
    guardP ((0 : Int) ≤ s1.2.1 ∧ s1.2.1 < lenI s1.2.2) (
      some (.inl ((wadd .i64 s1.1 (1 : Int)), (wadd .i64 s1.2.1 (1 : Int)), (List.set s1.2.2 (Int.toNat s1.2.1) s1.1))))
  else
    some (.inr (s1.1, s1.2.2))

noncomputable def laws_markInt64S (a0 : List Int) (a1 : Int) : Option (Int × List Int) :=
  (rounds (laws_markInt64S_B1) (a1, (0 : Int), a0)).bind fun r3 =>
  guardP (List.length r3.2 = List.length a0) (
    some (r3.1, r3.2))

theorem f47_ok {a0 : List Int} {a1 : Int} {r : Int × List Int} (hr : laws_markInt64S a0 a1 = some r) : CallOK Try.prog 47 [.own (.sl (.int .i64)) a0, .imm (.int .i64) a1] [⟨false, (.int .i64), r.1⟩] [⟨(.sl (.int .i64)), r.2⟩] := by
  unfold laws_markInt64S at hr
  refine CallOK.of_body (ts := [(false, (.int .i64))]) Try.func47 rfl (by kernel_rfl) (Nat.le_of_ble_eq_true (by kernel_rfl)) fun cx hP hN hO hF => ?_
  have hO : cx.own.map Prod.fst = [0] := hO
  show HT cx ⟨[(0, .one (.all 0)), (1, .one (.dat (.int .i64) a1))], [(0, .seq (.int .i64) a0)], 1⟩ _ _
  refine HT.reg1 [0, 1] [⟨none, .no⟩] ⟨[(0, .one (.all 0)), (1, .one (.dat (.int .i64) a1))], [(0, .seq (.int .i64) a0)], 1⟩ hP hN (by kernel_rfl) allNil ?_
  refine HT.seq ?_
  refine HT.reg1 [0, 1, 5] [⟨none, .no⟩] ⟨[(0, .one (.all 0)), (1, .one (.dat (.int .i64) a1)), (5, .one (.dat (.int .i64) (0 : Int)))], [(0, .seq (.int .i64) a0)], 1⟩ hP hN (by kernel_rfl) allNil ?_
  refine HT.block ?_
  obtain ⟨r2, hL10, hr⟩ := of_bind hr
  refine (Le.cv (s := ⟨[(0, 0)], [], [], false⟩) (own := [0]) (ps := [a1 = a1, (0 : Int) = (0 : Int), a0 = a0]) (st' := ⟨[(0, .one (.all 0)), (1, .one (.dat (.int .i64) a1)), (5, .one (.dat (.int .i64) (0 : Int)))], [(0, .seq (.int .i64) a0)], 1⟩) hO (fun h => by cases h) (by kernel_rfl) ⟨rfl, rfl, rfl, trivial⟩).ht ?_
  refine HT.loopE (s := (a1, (0 : Int), a0)) (fun (s1 : Int × Int × List Int) => ⟨[(0, .one (.all 0)), (1, .one (.dat (.int .i64) s1.1)), (5, .one (.dat (.int .i64) s1.2.1))], [(0, .seq (.int .i64) s1.2.2)], 1⟩) (fun (r3 : (Int × List Int)) => (.exit 0, ⟨[(1, .one (.dat (.int .i64) r3.1))], [(0, .seq (.int .i64) r3.2)], 1⟩)) hL10 ?_ (fun s1 x5 hx6 hk7 => ?_)
  · refine (qBlockX (qThen ?_))
    refine HT.reg1 [4] [⟨none, .no⟩, ⟨none, .no⟩] ⟨[(4, .one (.dat (.int .i64) r2.1))], [(0, .seq (.int .i64) r2.2)], 1⟩ hP hN (by kernel_rfl) allNil ?_
    obtain ⟨hg4, hr⟩ := of_guard hr
    have hr := of_some hr
    subst hr
    exact HT.ret ⟨[.one (.dat (.int .i64) r2.1)], [], [List.length r2.2 = List.length a0], by kernel_rfl, by kernel_rfl, rfl, (.inr rfl), by kernel_rfl, ⟨hg4, trivial⟩⟩
  · refine HT.seq ?_
    refine HT.reg1 [0, 1, 5, 9] [⟨none, .no⟩, ⟨none, .no⟩, ⟨none, .no⟩, ⟨none, .no⟩] ⟨[(0, .one (.all 0)), (1, .one (.dat (.int .i64) s1.1)), (5, .one (.dat (.int .i64) s1.2.1)), (9, .one (.dat .bool (decide (s1.2.1 < (lenI s1.2.2)))))], [(0, .seq (.int .i64) s1.2.2)], 1⟩ hP hN (by kernel_rfl) allNil ?_
    rcases of_bif hx6 with ⟨hb8, hx6⟩ | ⟨hb8, hx6⟩
    · refine HT.cond1 rfl hb8 ?_
      refine HT.skip (qThen ?_)
      refine HT.seq ?_
      refine HT.block ?_
      obtain ⟨hg9, hx6⟩ := of_guard hx6
      refine HT.reg1 [0, 1, 5] [⟨none, .no⟩, ⟨none, .no⟩, ⟨none, .no⟩, ⟨none, .no⟩, ⟨none, .no⟩] ⟨[(0, .one (.all 0)), (1, .one (.dat (.int .i64) s1.1)), (5, .one (.dat (.int .i64) s1.2.1))], [(0, .seq (.int .i64) (List.set s1.2.2 (Int.toNat s1.2.1) s1.1)), (0, .seq (.int .i64) s1.2.2)], 1⟩ hP hN (by kernel_rfl) (allCons hg9 (allCons (natLt hg9) allNil)) ?_
      refine HT.reg (rs := [⟨none, .no⟩, ⟨none, .no⟩, ⟨none, .no⟩]) (st' := ⟨[(1, .one (.dat (.int .i64) (wadd .i64 s1.1 (1 : Int)))), (17, .one (.dat (.int .i64) (wadd .i64 s1.1 (1 : Int)))), (16, .one (.dat (.int .i64) s1.1)), (0, .one (.all 0)), (1, .one (.dat (.int .i64) s1.1)), (5, .one (.dat (.int .i64) s1.2.1))], [(0, .seq (.int .i64) (List.set s1.2.2 (Int.toNat s1.2.1) s1.1)), (0, .seq (.int .i64) s1.2.2)], 1⟩) hP hN (by kernel_rfl) allNil (qBlock (qThen ?_))
      have hx6 := of_some hx6
      subst hx6
      refine HT.reg (rs := [⟨none, .no⟩, ⟨none, .no⟩, ⟨none, .no⟩]) (st' := ⟨[(5, .one (.dat (.int .i64) (wadd .i64 s1.2.1 (1 : Int)))), (11, .one (.dat (.int .i64) (wadd .i64 s1.2.1 (1 : Int)))), (10, .one (.dat (.int .i64) s1.2.1)), (1, .one (.dat (.int .i64) (wadd .i64 s1.1 (1 : Int)))), (17, .one (.dat (.int .i64) (wadd .i64 s1.1 (1 : Int)))), (16, .one (.dat (.int .i64) s1.1)), (0, .one (.all 0)), (1, .one (.dat (.int .i64) s1.1)), (5, .one (.dat (.int .i64) s1.2.1))], [(0, .seq (.int .i64) (List.set s1.2.2 (Int.toNat s1.2.1) s1.1)), (0, .seq (.int .i64) s1.2.2)], 1⟩) hP hN (by kernel_rfl) allNil (qLoopN ⟨((wadd .i64 s1.1 (1 : Int)), (wadd .i64 s1.2.1 (1 : Int)), (List.set s1.2.2 (Int.toNat s1.2.1) s1.1)), rfl, Le.cv (s := ⟨[(0, 0)], [], [], false⟩) (own := [0]) (ps := [(wadd .i64 s1.1 (1 : Int)) = (wadd .i64 s1.1 (1 : Int)), (wadd .i64 s1.2.1 (1 : Int)) = (wadd .i64 s1.2.1 (1 : Int)), (List.set s1.2.2 (Int.toNat s1.2.1) s1.1) = (List.set s1.2.2 (Int.toNat s1.2.1) s1.1)]) (st' := ⟨[(0, .one (.all 0)), (1, .one (.dat (.int .i64) (wadd .i64 s1.1 (1 : Int)))), (5, .one (.dat (.int .i64) (wadd .i64 s1.2.1 (1 : Int))))], [(0, .seq (.int .i64) (List.set s1.2.2 (Int.toNat s1.2.1) s1.1))], 1⟩) hO (fun h => by cases h) (by kernel_rfl) ⟨rfl, rfl, rfl, trivial⟩⟩)
    · refine HT.cond0 rfl hb8 ?_
      have hx6 := of_some hx6
      subst hx6
      refine (Le.cv (s := ⟨[(0, 0)], [], [], false⟩) (own := [0]) (ps := [s1.1 = s1.1, s1.2.2 = s1.2.2]) (st' := ⟨[(1, .one (.dat (.int .i64) s1.1))], [(0, .seq (.int .i64) s1.2.2)], 1⟩) hO (fun h => by cases h) (by kernel_rfl) ⟨rfl, rfl, trivial⟩).ht ?_
      exact HT.exit (qThenE (qLoopE (hk7 (s1.1, s1.2.2) rfl)))

noncomputable def laws_markZone (a0 : Int × List Int) (a1 : Int) : Option (Int × (Int × List Int)) :=
  (laws_markInt64S a0.2 a1).bind fun y1 =>
  guardP (List.length y1.2 = List.length a0.2) (
    some (y1.1, a0.1, y1.2))

theorem f21_ok {a0 : Int × List Int} {a1 : Int} {r : Int × (Int × List Int)} (hr : laws_markZone a0 a1 = some r) : CallOK Try.prog 21 [.own (.st (.pair (.int .i64) (.sl (.int .i64)))) a0, .imm (.int .i64) a1] [⟨false, (.int .i64), r.1⟩] [⟨(.st (.pair (.int .i64) (.sl (.int .i64)))), r.2⟩] := by
  unfold laws_markZone at hr
  refine CallOK.of_body (ts := [(false, (.int .i64))]) Try.func21 rfl (by kernel_rfl) (Nat.le_of_ble_eq_true (by kernel_rfl)) fun cx hP hN hO hF => ?_
  have hO : cx.own.map Prod.fst = [0] := hO
  show HT cx ⟨[(0, .agg [.dat (.int .i64) a0.1, .all 0]), (1, .one (.dat (.int .i64) a1))], [(0, .seq (.int .i64) a0.2)], 1⟩ _ _
  refine HT.reg1 [1, 2] [⟨none, .no⟩, ⟨none, .no⟩] ⟨[(1, .one (.dat (.int .i64) a1)), (2, .one (.ptr 1 0))], [(1, .box [.dat (.int .i64) a0.1, .all 0]), (0, .seq (.int .i64) a0.2)], 2⟩ hP hN (by kernel_rfl) allNil ?_
  obtain ⟨y1, hc2, hr⟩ := of_bind hr
  refine HT.reg1 [1] [⟨none, .no⟩, ⟨none, .no⟩, ⟨none, .no⟩, ⟨none, .call [.own (.sl (.int .i64)), .imm (.int .i64)] [⟨false, (.int .i64), y1.1⟩] [⟨(.sl (.int .i64)), y1.2⟩]⟩, ⟨none, .no⟩] ⟨[(1, .one (.dat (.int .i64) y1.1))], [(0, .seq (.int .i64) y1.2), (1, .box [.dat (.int .i64) a0.1, .all 0]), (0, .seq (.int .i64) a0.2)], 2⟩ hP hN (by kernel_rfl) (allCons (f47_ok hc2) allNil) ?_
  refine HT.reg1 [4] [⟨none, .no⟩, ⟨none, .no⟩] ⟨[(4, .one (.dat (.int .i64) y1.1))], [(0, .seq (.int .i64) y1.2), (1, .box [.dat (.int .i64) a0.1, .all 0]), (0, .seq (.int .i64) a0.2)], 2⟩ hP hN (by kernel_rfl) allNil ?_
  obtain ⟨hg3, hr⟩ := of_guard hr
  have hr := of_some hr
  subst hr
  exact HT.ret ⟨[.one (.dat (.int .i64) y1.1)], [], [List.length y1.2 = List.length a0.2], by kernel_rfl, by kernel_rfl, rfl, (.inr rfl), by kernel_rfl, ⟨hg3, trivial⟩⟩

noncomputable def laws_heldInt64S_B1 (a0 : List Int) (s1 : Int × Int) : Option ((Int × Int) ⊕ (Int ⊕ Unit)) :=
  bif (decide (s1.2 < (lenI a0))) then
    guardP ((0 : Int) ≤ s1.2 ∧ s1.2 < lenI a0) (
      bif ((List.getD a0 (Int.toNat s1.2) (0 : Int)) != s1.1) then
        some (.inr (.inr ()))
      else
        some (.inl ((wadd .i64 s1.1 (1 : Int)), (wadd .i64 s1.2 (1 : Int)))))
  else
    some (.inr (.inl s1.1))

noncomputable def laws_heldInt64S (a0 : List Int) (a1 : Int) : Option (Int) :=
  (rounds (laws_heldInt64S_B1 a0) (a1, (0 : Int))).bind fun r2 => match r2 with
    | .inl r3 =>
      some r3
    | .inr r4 =>
      some (-1 : Int)

theorem f48_ok {a0 : List Int} {a1 : Int} {r : Int} (hr : laws_heldInt64S a0 a1 = some r) : CallOK Try.prog 48 [.imm (.sl (.int .i64)) a0, .imm (.int .i64) a1] [⟨false, (.int .i64), r⟩] [] := by
  unfold laws_heldInt64S at hr
  refine CallOK.of_body (ts := [(false, (.int .i64))]) Try.func48 rfl (by kernel_rfl) (Nat.le_of_ble_eq_true (by kernel_rfl)) fun cx hP hN hO hF => ?_
  have hO : cx.own.map Prod.fst = [] := hO
  show HT cx ⟨[(0, .one (.dat (.sl (.int .i64)) a0)), (1, .one (.dat (.int .i64) a1))], [], 0⟩ _ _
  refine HT.reg1 [0, 1] [⟨none, .no⟩] ⟨[(0, .one (.dat (.sl (.int .i64)) a0)), (1, .one (.dat (.int .i64) a1))], [], 0⟩ hP hN (by kernel_rfl) allNil ?_
  refine HT.seq ?_
  refine HT.reg1 [0, 1, 5] [⟨none, .no⟩] ⟨[(0, .one (.dat (.sl (.int .i64)) a0)), (1, .one (.dat (.int .i64) a1)), (5, .one (.dat (.int .i64) (0 : Int)))], [], 0⟩ hP hN (by kernel_rfl) allNil ?_
  refine HT.block ?_
  obtain ⟨r2, hL11, hr⟩ := of_bind hr
  refine (Le.cv (s := ⟨[], [], [], false⟩) (own := []) (ps := [a0 = a0, a1 = a1, (0 : Int) = (0 : Int)]) (st' := ⟨[(0, .one (.dat (.sl (.int .i64)) a0)), (1, .one (.dat (.int .i64) a1)), (5, .one (.dat (.int .i64) (0 : Int)))], [], 0⟩) hO (fun h => by cases h) (by kernel_rfl) ⟨rfl, rfl, rfl, trivial⟩).ht ?_
  refine HT.loopE (s := (a1, (0 : Int))) (fun (s1 : Int × Int) => ⟨[(0, .one (.dat (.sl (.int .i64)) a0)), (1, .one (.dat (.int .i64) s1.1)), (5, .one (.dat (.int .i64) s1.2))], [], 0⟩) (fun (r2 : Int ⊕ Unit) => match r2 with | .inl r3 => (.exit 0, ⟨[(1, .one (.dat (.int .i64) r3))], [], 0⟩) | .inr r4 => (.ret, ⟨[(4, .one (.dat (.int .i64) (-1 : Int)))], [], 0⟩)) hL11 ?_ (fun s1 x5 hx6 hk7 => ?_)
  · rcases r2 with r3 | r4
    · refine (qBlockX (qThen ?_))
      refine HT.reg1 [4] [⟨none, .no⟩, ⟨none, .no⟩] ⟨[(4, .one (.dat (.int .i64) r3))], [], 0⟩ hP hN (by kernel_rfl) allNil ?_
      have hr := of_some hr
      subst hr
      exact HT.ret ⟨[.one (.dat (.int .i64) r3)], [], [], by kernel_rfl, by kernel_rfl, rfl, (.inl rfl), by kernel_rfl, trivial⟩
    · have hr := of_some hr
      subst hr
      exact (qBlockR (qThenR ⟨[.one (.dat (.int .i64) (-1 : Int))], [], [], by kernel_rfl, by kernel_rfl, rfl, (.inl rfl), by kernel_rfl, trivial⟩))
  · refine HT.seq ?_
    refine HT.reg1 [0, 1, 5, 9] [⟨none, .no⟩, ⟨none, .no⟩, ⟨none, .no⟩, ⟨none, .no⟩] ⟨[(0, .one (.dat (.sl (.int .i64)) a0)), (1, .one (.dat (.int .i64) s1.1)), (5, .one (.dat (.int .i64) s1.2)), (9, .one (.dat .bool (decide (s1.2 < (lenI a0)))))], [], 0⟩ hP hN (by kernel_rfl) allNil ?_
    rcases of_bif hx6 with ⟨hb8, hx6⟩ | ⟨hb8, hx6⟩
    · refine HT.cond1 rfl hb8 ?_
      refine HT.skip (qThen ?_)
      refine HT.seq ?_
      refine HT.block ?_
      refine HT.seq ?_
      obtain ⟨hg9, hx6⟩ := of_guard hx6
      refine HT.reg1 [0, 1, 5, 17] [⟨none, .no⟩, ⟨none, .no⟩, ⟨none, .no⟩, ⟨none, .no⟩, ⟨none, .no⟩, ⟨none, .no⟩] ⟨[(0, .one (.dat (.sl (.int .i64)) a0)), (1, .one (.dat (.int .i64) s1.1)), (5, .one (.dat (.int .i64) s1.2)), (17, .one (.dat .bool ((List.getD a0 (Int.toNat s1.2) (0 : Int)) != s1.1)))], [], 0⟩ hP hN (by kernel_rfl) (allCons hg9 allNil) ?_
      rcases of_bif hx6 with ⟨hb10, hx6⟩ | ⟨hb10, hx6⟩
      · refine HT.cond1 rfl hb10 ?_
        refine HT.reg1 [4] [⟨none, .no⟩] ⟨[(4, .one (.dat (.int .i64) (-1 : Int)))], [], 0⟩ hP hN (by kernel_rfl) allNil ?_
        have hx6 := of_some hx6
        subst hx6
        refine (Le.cv (s := ⟨[], [], [], false⟩) (own := []) (ps := [(-1 : Int) = (-1 : Int)]) (st' := ⟨[(4, .one (.dat (.int .i64) (-1 : Int)))], [], 0⟩) hO (fun h => by cases h) (by kernel_rfl) ⟨rfl, trivial⟩).ht ?_
        exact HT.ret (qThenR (qBlockR (qThenR (qLoopR (hk7 (.inr ()) rfl)))))
      · refine HT.cond0 rfl hb10 ?_
        refine HT.skip (qThen ?_)
        refine HT.reg (rs := [⟨none, .no⟩, ⟨none, .no⟩, ⟨none, .no⟩]) (st' := ⟨[(1, .one (.dat (.int .i64) (wadd .i64 s1.1 (1 : Int)))), (19, .one (.dat (.int .i64) (wadd .i64 s1.1 (1 : Int)))), (18, .one (.dat (.int .i64) s1.1)), (0, .one (.dat (.sl (.int .i64)) a0)), (1, .one (.dat (.int .i64) s1.1)), (5, .one (.dat (.int .i64) s1.2)), (17, .one (.dat .bool ((List.getD a0 (Int.toNat s1.2) (0 : Int)) != s1.1)))], [], 0⟩) hP hN (by kernel_rfl) allNil (qBlock (qThen ?_))
        have hx6 := of_some hx6
        subst hx6
        refine HT.reg (rs := [⟨none, .no⟩, ⟨none, .no⟩, ⟨none, .no⟩]) (st' := ⟨[(5, .one (.dat (.int .i64) (wadd .i64 s1.2 (1 : Int)))), (11, .one (.dat (.int .i64) (wadd .i64 s1.2 (1 : Int)))), (10, .one (.dat (.int .i64) s1.2)), (1, .one (.dat (.int .i64) (wadd .i64 s1.1 (1 : Int)))), (19, .one (.dat (.int .i64) (wadd .i64 s1.1 (1 : Int)))), (18, .one (.dat (.int .i64) s1.1)), (0, .one (.dat (.sl (.int .i64)) a0)), (1, .one (.dat (.int .i64) s1.1)), (5, .one (.dat (.int .i64) s1.2)), (17, .one (.dat .bool ((List.getD a0 (Int.toNat s1.2) (0 : Int)) != s1.1)))], [], 0⟩) hP hN (by kernel_rfl) allNil (qLoopN ⟨((wadd .i64 s1.1 (1 : Int)), (wadd .i64 s1.2 (1 : Int))), rfl, Le.cv (s := ⟨[], [], [], false⟩) (own := []) (ps := [a0 = a0, (wadd .i64 s1.1 (1 : Int)) = (wadd .i64 s1.1 (1 : Int)), (wadd .i64 s1.2 (1 : Int)) = (wadd .i64 s1.2 (1 : Int))]) (st' := ⟨[(0, .one (.dat (.sl (.int .i64)) a0)), (1, .one (.dat (.int .i64) (wadd .i64 s1.1 (1 : Int)))), (5, .one (.dat (.int .i64) (wadd .i64 s1.2 (1 : Int))))], [], 0⟩) hO (fun h => by cases h) (by kernel_rfl) ⟨rfl, rfl, rfl, trivial⟩⟩)
    · refine HT.cond0 rfl hb8 ?_
      have hx6 := of_some hx6
      subst hx6
      refine (Le.cv (s := ⟨[], [], [], false⟩) (own := []) (ps := [s1.1 = s1.1]) (st' := ⟨[(1, .one (.dat (.int .i64) s1.1))], [], 0⟩) hO (fun h => by cases h) (by kernel_rfl) ⟨rfl, trivial⟩).ht ?_
      exact HT.exit (qThenE (qLoopE (hk7 (.inl s1.1) rfl)))

noncomputable def laws_heldZone (a0 : Int × List Int) (a1 : Int) : Option (Int) :=
  (laws_heldInt64S a0.2 a1).bind fun y1 =>
  bif (decide (y1 < (0 : Int))) then
    some (-1 : Int)
  else
    some y1

theorem f22_ok {a0 : Int × List Int} {a1 : Int} {r : Int} (hr : laws_heldZone a0 a1 = some r) : CallOK Try.prog 22 [.imm (.st (.pair (.int .i64) (.sl (.int .i64)))) a0, .imm (.int .i64) a1] [⟨false, (.int .i64), r⟩] [] := by
  unfold laws_heldZone at hr
  refine CallOK.of_body (ts := [(false, (.int .i64))]) Try.func22 rfl (by kernel_rfl) (Nat.le_of_ble_eq_true (by kernel_rfl)) fun cx hP hN hO hF => ?_
  have hO : cx.own.map Prod.fst = [] := hO
  show HT cx ⟨[(0, .agg [.dat (.int .i64) a0.1, .dat (.sl (.int .i64)) a0.2]), (1, .one (.dat (.int .i64) a1))], [], 0⟩ _ _
  refine HT.reg1 [1, 2] [⟨none, .no⟩, ⟨none, .no⟩] ⟨[(1, .one (.dat (.int .i64) a1)), (2, .one (.ptr 0 0))], [(0, .box [.dat (.int .i64) a0.1, .dat (.sl (.int .i64)) a0.2])], 1⟩ hP hN (by kernel_rfl) allNil ?_
  obtain ⟨y1, hc2, hr⟩ := of_bind hr
  refine HT.reg1 [1] [⟨none, .no⟩, ⟨none, .no⟩, ⟨none, .no⟩, ⟨none, .call [.imm (.sl (.int .i64)), .imm (.int .i64)] [⟨false, (.int .i64), y1⟩] []⟩, ⟨none, .no⟩] ⟨[(1, .one (.dat (.int .i64) y1))], [(0, .box [.dat (.int .i64) a0.1, .dat (.sl (.int .i64)) a0.2])], 1⟩ hP hN (by kernel_rfl) (allCons (f48_ok hc2) allNil) ?_
  refine HT.seq ?_
  refine HT.reg1 [1, 10] [⟨none, .no⟩, ⟨none, .no⟩] ⟨[(1, .one (.dat (.int .i64) y1)), (10, .one (.dat .bool (decide (y1 < (0 : Int)))))], [(0, .box [.dat (.int .i64) a0.1, .dat (.sl (.int .i64)) a0.2])], 1⟩ hP hN (by kernel_rfl) allNil ?_
  rcases of_bif hr with ⟨hb3, hr⟩ | ⟨hb3, hr⟩
  · refine HT.cond1 rfl hb3 ?_
    refine HT.reg1 [4] [⟨none, .no⟩] ⟨[(4, .one (.dat (.int .i64) (-1 : Int)))], [(0, .box [.dat (.int .i64) a0.1, .dat (.sl (.int .i64)) a0.2])], 1⟩ hP hN (by kernel_rfl) allNil ?_
    have hr := of_some hr
    subst hr
    exact HT.ret (qThenR ⟨[.one (.dat (.int .i64) (-1 : Int))], [], [], by kernel_rfl, by kernel_rfl, rfl, (.inl rfl), by kernel_rfl, trivial⟩)
  · refine HT.cond0 rfl hb3 ?_
    refine HT.skip (qThen ?_)
    refine HT.reg1 [4] [⟨none, .no⟩, ⟨none, .no⟩] ⟨[(4, .one (.dat (.int .i64) y1))], [(0, .box [.dat (.int .i64) a0.1, .dat (.sl (.int .i64)) a0.2])], 1⟩ hP hN (by kernel_rfl) allNil ?_
    have hr := of_some hr
    subst hr
    exact HT.ret ⟨[.one (.dat (.int .i64) y1)], [], [], by kernel_rfl, by kernel_rfl, rfl, (.inl rfl), by kernel_rfl, trivial⟩

noncomputable def laws_FnExactResetZone (a0 : Int × List Int) (a1 : Int) : Option (Bool) :=
  (laws_szZone (a0.1, a0.2) (1048576 : Int)).bind fun y1 =>
  bif (decide (y1 < (0 : Int))) then
    some true
  else
    (laws_toZone (a0.1, a0.2)).bind fun y4 =>
    (spec_ResetZone (y4.1, y4.2) a1).bind fun y6 =>
    (laws_toZone (a0.1, a0.2)).bind fun y8 =>
    (impl_ResetZone (y8.1, y8.2) a1).bind fun y10 =>
    (show Option (Bool) from
      (laws_eqZone (y10.1.1, y10.1.2) (y6.1.1, y6.1.2)).bind fun y52 =>
      bif (!y52) then
        some true
      else
        some (y10.2 != y6.2)).bind fun v12 =>
    bif v12 then
      some false
    else
      (laws_toZone (a0.1, a0.2)).bind fun y16 =>
      (laws_eqZone (y8.1, y8.2) (y16.1, y16.2)).bind fun y18 =>
      bif (!y18) then
        some false
      else
        (laws_markZone (y8.1, y8.2) (1 : Int)).bind fun y21 =>
        (show Option (Bool) from
          bif (decide (y21.1 < (0 : Int))) then
            some true
          else
            (laws_eqZone (y10.1.1, y10.1.2) (y6.1.1, y6.1.2)).bind fun y49 =>
            bif (!y49) then
              some true
            else
              some (y10.2 != y6.2)).bind fun v23 =>
        bif v23 then
          some false
        else
          (laws_markZone (y10.1.1, y10.1.2) (1 : Int)).bind fun y27 =>
          (laws_heldZone (y10.1.1, y27.2.2) (1 : Int)).bind fun y29 =>
          bif (decide (y29 < (0 : Int))) then
            some false
          else
            bif (y29 != y27.1) then
              some false
            else
              (laws_toZone (a0.1, a0.2)).bind fun y33 =>
              (impl_ResetZone (y33.1, y33.2) a1).bind fun y35 =>
              (show Option (Bool) from
                (laws_eqZone (y35.1.1, y35.1.2) (y6.1.1, y6.1.2)).bind fun y45 =>
                bif (!y45) then
                  some true
                else
                  some (y35.2 != y6.2)).bind fun v37 =>
              bif v37 then
                some false
              else
                (laws_heldZone (y10.1.1, y27.2.2) (1 : Int)).bind fun y41 =>
                bif (decide (y41 < (0 : Int))) then
                  some false
                else
                  bif (y41 != y27.1) then
                    some false
                  else
                    some true

theorem f6_ok {a0 : Int × List Int} {a1 : Int} {r : Bool} (hr : laws_FnExactResetZone a0 a1 = some r) : CallOK Try.prog 6 [.imm (.st (.pair (.int .i64) (.sl (.int .i64)))) a0, .imm (.int .i64) a1] [⟨false, .bool, r⟩] [] := by
  unfold laws_FnExactResetZone at hr
  refine CallOK.of_body (ts := [(false, .bool)]) Try.func6 rfl (by kernel_rfl) (Nat.le_of_ble_eq_true (by kernel_rfl)) fun cx hP hN hO hF => ?_
  have hO : cx.own.map Prod.fst = [] := hO
  show HT cx ⟨[(0, .agg [.dat (.int .i64) a0.1, .dat (.sl (.int .i64)) a0.2]), (1, .one (.dat (.int .i64) a1))], [], 0⟩ _ _
  refine HT.reg1 [1, 2] [⟨none, .no⟩, ⟨none, .no⟩] ⟨[(1, .one (.dat (.int .i64) a1)), (2, .one (.ptr 0 0))], [(0, .box [.dat (.int .i64) a0.1, .dat (.sl (.int .i64)) a0.2])], 1⟩ hP hN (by kernel_rfl) allNil ?_
  refine HT.reg1 [1, 2, 5] [⟨none, .no⟩] ⟨[(1, .one (.dat (.int .i64) a1)), (2, .one (.ptr 0 0)), (5, .one (.dat (.int .i64) (1048576 : Int)))], [(0, .box [.dat (.int .i64) a0.1, .dat (.sl (.int .i64)) a0.2])], 1⟩ hP hN (by kernel_rfl) allNil ?_
  obtain ⟨y1, hc2, hr⟩ := of_bind hr
  refine HT.reg1 [1, 2, 5] [⟨none, .no⟩, ⟨none, .no⟩, ⟨none, .call [.imm (.st (.pair (.int .i64) (.sl (.int .i64)))), .imm (.int .i64)] [⟨false, (.int .i64), y1⟩] []⟩, ⟨none, .no⟩] ⟨[(1, .one (.dat (.int .i64) a1)), (2, .one (.ptr 0 0)), (5, .one (.dat (.int .i64) y1))], [(0, .box [.dat (.int .i64) a0.1, .dat (.sl (.int .i64)) a0.2])], 1⟩ hP hN (by kernel_rfl) (allCons (f16_ok hc2) allNil) ?_
  refine HT.seq ?_
  refine HT.reg1 [1, 2, 20] [⟨none, .no⟩, ⟨none, .no⟩] ⟨[(1, .one (.dat (.int .i64) a1)), (2, .one (.ptr 0 0)), (20, .one (.dat .bool (decide (y1 < (0 : Int)))))], [(0, .box [.dat (.int .i64) a0.1, .dat (.sl (.int .i64)) a0.2])], 1⟩ hP hN (by kernel_rfl) allNil ?_
  rcases of_bif hr with ⟨hb3, hr⟩ | ⟨hb3, hr⟩
  · refine HT.cond1 rfl hb3 ?_
    refine HT.reg1 [4] [⟨none, .no⟩] ⟨[(4, .one (.dat .bool true))], [(0, .box [.dat (.int .i64) a0.1, .dat (.sl (.int .i64)) a0.2])], 1⟩ hP hN (by kernel_rfl) allNil ?_
    have hr := of_some hr
    subst hr
    exact HT.ret (qThenR ⟨[.one (.dat .bool true)], [], [], by kernel_rfl, by kernel_rfl, rfl, (.inl rfl), by kernel_rfl, trivial⟩)
  · refine HT.cond0 rfl hb3 ?_
    refine HT.skip (qThen ?_)
    obtain ⟨y4, hc5, hr⟩ := of_bind hr
    obtain ⟨y6, hc7, hr⟩ := of_bind hr
    refine HT.reg1 [1, 2, 6, 7] [⟨none, .no⟩, ⟨none, .call [.imm (.st (.pair (.int .i64) (.sl (.int .i64))))] [⟨true, (.st (.pair (.int .i64) (.sl (.int .i64)))), y4⟩] []⟩, ⟨none, .no⟩, ⟨none, .call [.imm (.st (.pair (.int .i64) (.sl (.int .i64)))), .imm (.int .i64)] [⟨true, (.st (.pair (.int .i64) (.sl (.int .i64)))), y6.1⟩, ⟨false, .bool, y6.2⟩] []⟩, ⟨none, .no⟩, ⟨none, .no⟩, ⟨none, .no⟩, ⟨none, .no⟩, ⟨none, .no⟩, ⟨none, .no⟩] ⟨[(1, .one (.dat (.int .i64) a1)), (2, .one (.ptr 0 0)), (6, .one (.ptr 3 0)), (7, .one (.dat .bool y6.2))], [(3, .box [.dat (.int .i64) y6.1.1, .all 2]), (3, .box [.dat (.int .i64) (0 : Int), .nilS]), (2, .seq (.int .i64) y6.1.2), (1, .seq (.int .i64) y4.2), (0, .box [.dat (.int .i64) a0.1, .dat (.sl (.int .i64)) a0.2])], 4⟩ hP hN (by kernel_rfl) (allCons (f18_ok hc5) (allCons (f25_ok hc7) allNil)) ?_
    obtain ⟨y8, hc9, hr⟩ := of_bind hr
    refine HT.reg1 [1, 2, 6, 7, 8] [⟨none, .no⟩, ⟨none, .call [.imm (.st (.pair (.int .i64) (.sl (.int .i64))))] [⟨true, (.st (.pair (.int .i64) (.sl (.int .i64)))), y8⟩] []⟩, ⟨none, .no⟩, ⟨none, .no⟩] ⟨[(1, .one (.dat (.int .i64) a1)), (2, .one (.ptr 0 0)), (6, .one (.ptr 3 0)), (7, .one (.dat .bool y6.2)), (8, .one (.ptr 5 0))], [(5, .box [.dat (.int .i64) y8.1, .all 4]), (5, .box [.dat (.int .i64) (0 : Int), .nilS]), (4, .seq (.int .i64) y8.2), (3, .box [.dat (.int .i64) y6.1.1, .all 2]), (3, .box [.dat (.int .i64) (0 : Int), .nilS]), (2, .seq (.int .i64) y6.1.2), (1, .seq (.int .i64) y4.2), (0, .box [.dat (.int .i64) a0.1, .dat (.sl (.int .i64)) a0.2])], 6⟩ hP hN (by kernel_rfl) (allCons (f18_ok hc9) allNil) ?_
    obtain ⟨y10, hc11, hr⟩ := of_bind hr
    refine HT.reg1 [1, 2, 6, 7, 8, 9, 10] [⟨none, .no⟩, ⟨none, .no⟩, ⟨none, .call [.imm (.st (.pair (.int .i64) (.sl (.int .i64)))), .imm (.int .i64)] [⟨true, (.st (.pair (.int .i64) (.sl (.int .i64)))), y10.1⟩, ⟨false, .bool, y10.2⟩] []⟩, ⟨none, .no⟩, ⟨none, .no⟩, ⟨none, .no⟩, ⟨none, .no⟩, ⟨none, .no⟩, ⟨none, .no⟩] ⟨[(1, .one (.dat (.int .i64) a1)), (2, .one (.ptr 0 0)), (6, .one (.ptr 3 0)), (7, .one (.dat .bool y6.2)), (8, .one (.ptr 5 0)), (9, .one (.ptr 7 0)), (10, .one (.dat .bool y10.2))], [(7, .box [.dat (.int .i64) y10.1.1, .all 6]), (7, .box [.dat (.int .i64) (0 : Int), .nilS]), (6, .seq (.int .i64) y10.1.2), (5, .box [.dat (.int .i64) y8.1, .all 4]), (5, .box [.dat (.int .i64) (0 : Int), .nilS]), (4, .seq (.int .i64) y8.2), (3, .box [.dat (.int .i64) y6.1.1, .all 2]), (3, .box [.dat (.int .i64) (0 : Int), .nilS]), (2, .seq (.int .i64) y6.1.2), (1, .seq (.int .i64) y4.2), (0, .box [.dat (.int .i64) a0.1, .dat (.sl (.int .i64)) a0.2])], 8⟩ hP hN (by kernel_rfl) (allCons (f26_ok hc11) allNil) ?_
    refine HT.seq ?_
    obtain ⟨v12', hT14, hr⟩ := of_bind hr
    refine HT.join (fun (v12 : Bool) => ⟨[(1, .one (.dat (.int .i64) a1)), (2, .one (.ptr 0 0)), (6, .one (.ptr 1 0)), (7, .one (.dat .bool y6.2)), (8, .one (.ptr 2 0)), (9, .one (.ptr 3 0)), (10, .one (.dat .bool y10.2)), (44, .one (.dat .bool v12))], [(0, .box [.dat (.int .i64) a0.1, .dat (.sl (.int .i64)) a0.2]), (1, .box [.dat (.int .i64) y6.1.1, .all 4]), (2, .box [.dat (.int .i64) y8.1, .all 5]), (3, .box [.dat (.int .i64) y10.1.1, .all 6]), (4, .seq (.int .i64) y6.1.2), (5, .seq (.int .i64) y8.2), (6, .seq (.int .i64) y10.1.2)], 7⟩) (fun v => v = v12') (fun v12 hv13 => ?_) (fun cont => ?_)
    · subst hv13
      rcases of_bif hr with ⟨hb15, hr⟩ | ⟨hb15, hr⟩
      · refine HT.cond1 rfl hb15 ?_
        refine HT.reg1 [4] [⟨none, .no⟩] ⟨[(4, .one (.dat .bool false))], [(0, .box [.dat (.int .i64) a0.1, .dat (.sl (.int .i64)) a0.2]), (1, .box [.dat (.int .i64) y6.1.1, .all 4]), (2, .box [.dat (.int .i64) y8.1, .all 5]), (3, .box [.dat (.int .i64) y10.1.1, .all 6]), (4, .seq (.int .i64) y6.1.2), (5, .seq (.int .i64) y8.2), (6, .seq (.int .i64) y10.1.2)], 7⟩ hP hN (by kernel_rfl) allNil ?_
        have hr := of_some hr
        subst hr
        exact HT.ret (qThenR ⟨[.one (.dat .bool false)], [], [], by kernel_rfl, by kernel_rfl, rfl, (.inl rfl), by kernel_rfl, trivial⟩)
      · refine HT.cond0 rfl hb15 ?_
        refine HT.skip (qThen ?_)
        refine HT.seq ?_
        obtain ⟨y16, hc17, hr⟩ := of_bind hr
        obtain ⟨y18, hc19, hr⟩ := of_bind hr
        refine HT.drw1 [1, 2, 6, 7, 8, 9, 10, 49] 3 [⟨⟨none, .no⟩, []⟩, ⟨⟨none, .no⟩, []⟩, ⟨⟨none, .call [.imm (.st (.pair (.int .i64) (.sl (.int .i64))))] [⟨true, (.st (.pair (.int .i64) (.sl (.int .i64)))), y16⟩] []⟩, [1]⟩] [[0, 1, 2], [0, 1, 2, 3]] [⟨none, .call [.imm (.st (.pair (.int .i64) (.sl (.int .i64)))), .imm (.st (.pair (.int .i64) (.sl (.int .i64))))] [⟨false, .bool, y18⟩] []⟩, ⟨none, .no⟩] ⟨[(1, .one (.dat (.int .i64) a1)), (2, .one (.ptr 0 0)), (6, .one (.ptr 1 0)), (7, .one (.dat .bool y6.2)), (8, .one (.ptr 2 0)), (9, .one (.ptr 3 0)), (10, .one (.dat .bool y10.2)), (49, .one (.dat .bool (!y18)))], [(7, .seq (.int .i64) y16.2), (0, .box [.dat (.int .i64) a0.1, .dat (.sl (.int .i64)) a0.2]), (1, .box [.dat (.int .i64) y6.1.1, .all 4]), (2, .box [.dat (.int .i64) y8.1, .all 5]), (3, .box [.dat (.int .i64) y10.1.1, .all 6]), (4, .seq (.int .i64) y6.1.2), (5, .seq (.int .i64) y8.2), (6, .seq (.int .i64) y10.1.2)], 8⟩ hP hN (by kernel_rfl) (by kernel_rfl) (allCons (f18_ok hc17) (allCons (f20_ok hc19) allNil)) ?_
        rcases of_bif hr with ⟨hb20, hr⟩ | ⟨hb20, hr⟩
        · refine HT.cond1 rfl hb20 ?_
          refine HT.reg1 [4] [⟨none, .no⟩] ⟨[(4, .one (.dat .bool false))], [(7, .seq (.int .i64) y16.2), (0, .box [.dat (.int .i64) a0.1, .dat (.sl (.int .i64)) a0.2]), (1, .box [.dat (.int .i64) y6.1.1, .all 4]), (2, .box [.dat (.int .i64) y8.1, .all 5]), (3, .box [.dat (.int .i64) y10.1.1, .all 6]), (4, .seq (.int .i64) y6.1.2), (5, .seq (.int .i64) y8.2), (6, .seq (.int .i64) y10.1.2)], 8⟩ hP hN (by kernel_rfl) allNil ?_
          have hr := of_some hr
          subst hr
          exact HT.ret (qThenR ⟨[.one (.dat .bool false)], [], [], by kernel_rfl, by kernel_rfl, rfl, (.inl rfl), by kernel_rfl, trivial⟩)
        · refine HT.cond0 rfl hb20 ?_
          refine HT.skip (qThen ?_)
          refine HT.reg1 [1, 2, 6, 7, 8, 9, 10, 11] [⟨none, .no⟩] ⟨[(1, .one (.dat (.int .i64) a1)), (2, .one (.ptr 0 0)), (6, .one (.ptr 1 0)), (7, .one (.dat .bool y6.2)), (8, .one (.ptr 2 0)), (9, .one (.ptr 3 0)), (10, .one (.dat .bool y10.2)), (11, .one (.dat (.int .i64) (1 : Int)))], [(7, .seq (.int .i64) y16.2), (0, .box [.dat (.int .i64) a0.1, .dat (.sl (.int .i64)) a0.2]), (1, .box [.dat (.int .i64) y6.1.1, .all 4]), (2, .box [.dat (.int .i64) y8.1, .all 5]), (3, .box [.dat (.int .i64) y10.1.1, .all 6]), (4, .seq (.int .i64) y6.1.2), (5, .seq (.int .i64) y8.2), (6, .seq (.int .i64) y10.1.2)], 8⟩ hP hN (by kernel_rfl) allNil ?_
          obtain ⟨y21, hc22, hr⟩ := of_bind hr
          refine HT.reg1 [1, 2, 6, 7, 9, 10, 11] [⟨none, .no⟩, ⟨none, .no⟩, ⟨none, .call [.own (.st (.pair (.int .i64) (.sl (.int .i64)))), .imm (.int .i64)] [⟨false, (.int .i64), y21.1⟩] [⟨(.st (.pair (.int .i64) (.sl (.int .i64)))), y21.2⟩]⟩, ⟨none, .no⟩] ⟨[(1, .one (.dat (.int .i64) a1)), (2, .one (.ptr 0 0)), (6, .one (.ptr 1 0)), (7, .one (.dat .bool y6.2)), (9, .one (.ptr 3 0)), (10, .one (.dat .bool y10.2)), (11, .one (.dat (.int .i64) y21.1))], [(5, .seq (.int .i64) y21.2.2), (7, .seq (.int .i64) y16.2), (0, .box [.dat (.int .i64) a0.1, .dat (.sl (.int .i64)) a0.2]), (1, .box [.dat (.int .i64) y6.1.1, .all 4]), (2, .box [.dat (.int .i64) y8.1, .all 5]), (3, .box [.dat (.int .i64) y10.1.1, .all 6]), (4, .seq (.int .i64) y6.1.2), (5, .seq (.int .i64) y8.2), (6, .seq (.int .i64) y10.1.2)], 8⟩ hP hN (by kernel_rfl) (allCons (f21_ok hc22) allNil) ?_
          refine HT.seq ?_
          obtain ⟨v23', hT25, hr⟩ := of_bind hr
          refine HT.join (fun (v23 : Bool) => ⟨[(1, .one (.dat (.int .i64) a1)), (2, .one (.ptr 0 0)), (6, .one (.ptr 1 0)), (7, .one (.dat .bool y6.2)), (9, .one (.ptr 2 0)), (65, .one (.dat .bool v23))], [(0, .box [.dat (.int .i64) a0.1, .dat (.sl (.int .i64)) a0.2]), (1, .box [.dat (.int .i64) y6.1.1, .all 3]), (2, .box [.dat (.int .i64) y10.1.1, .all 4]), (3, .seq (.int .i64) y6.1.2), (4, .seq (.int .i64) y10.1.2)], 5⟩) (fun v => v = v23') (fun v23 hv24 => ?_) (fun cont => ?_)
          · subst hv24
            rcases of_bif hr with ⟨hb26, hr⟩ | ⟨hb26, hr⟩
            · refine HT.cond1 rfl hb26 ?_
              refine HT.reg1 [4] [⟨none, .no⟩] ⟨[(4, .one (.dat .bool false))], [(0, .box [.dat (.int .i64) a0.1, .dat (.sl (.int .i64)) a0.2]), (1, .box [.dat (.int .i64) y6.1.1, .all 3]), (2, .box [.dat (.int .i64) y10.1.1, .all 4]), (3, .seq (.int .i64) y6.1.2), (4, .seq (.int .i64) y10.1.2)], 5⟩ hP hN (by kernel_rfl) allNil ?_
              have hr := of_some hr
              subst hr
              exact HT.ret (qThenR ⟨[.one (.dat .bool false)], [], [], by kernel_rfl, by kernel_rfl, rfl, (.inl rfl), by kernel_rfl, trivial⟩)
            · refine HT.cond0 rfl hb26 ?_
              refine HT.skip (qThen ?_)
              refine HT.reg1 [1, 2, 6, 7, 9, 12] [⟨none, .no⟩] ⟨[(1, .one (.dat (.int .i64) a1)), (2, .one (.ptr 0 0)), (6, .one (.ptr 1 0)), (7, .one (.dat .bool y6.2)), (9, .one (.ptr 2 0)), (12, .one (.dat (.int .i64) (1 : Int)))], [(0, .box [.dat (.int .i64) a0.1, .dat (.sl (.int .i64)) a0.2]), (1, .box [.dat (.int .i64) y6.1.1, .all 3]), (2, .box [.dat (.int .i64) y10.1.1, .all 4]), (3, .seq (.int .i64) y6.1.2), (4, .seq (.int .i64) y10.1.2)], 5⟩ hP hN (by kernel_rfl) allNil ?_
              obtain ⟨y27, hc28, hr⟩ := of_bind hr
              refine HT.reg1 [1, 2, 6, 7, 9, 12] [⟨none, .no⟩, ⟨none, .no⟩, ⟨none, .call [.own (.st (.pair (.int .i64) (.sl (.int .i64)))), .imm (.int .i64)] [⟨false, (.int .i64), y27.1⟩] [⟨(.st (.pair (.int .i64) (.sl (.int .i64)))), y27.2⟩]⟩, ⟨none, .no⟩] ⟨[(1, .one (.dat (.int .i64) a1)), (2, .one (.ptr 0 0)), (6, .one (.ptr 1 0)), (7, .one (.dat .bool y6.2)), (9, .one (.ptr 2 0)), (12, .one (.dat (.int .i64) y27.1))], [(4, .seq (.int .i64) y27.2.2), (0, .box [.dat (.int .i64) a0.1, .dat (.sl (.int .i64)) a0.2]), (1, .box [.dat (.int .i64) y6.1.1, .all 3]), (2, .box [.dat (.int .i64) y10.1.1, .all 4]), (3, .seq (.int .i64) y6.1.2), (4, .seq (.int .i64) y10.1.2)], 5⟩ hP hN (by kernel_rfl) (allCons (f21_ok hc28) allNil) ?_
              refine HT.reg1 [1, 2, 6, 7, 9, 12, 13] [⟨none, .no⟩] ⟨[(1, .one (.dat (.int .i64) a1)), (2, .one (.ptr 0 0)), (6, .one (.ptr 1 0)), (7, .one (.dat .bool y6.2)), (9, .one (.ptr 2 0)), (12, .one (.dat (.int .i64) y27.1)), (13, .one (.dat (.int .i64) (1 : Int)))], [(4, .seq (.int .i64) y27.2.2), (0, .box [.dat (.int .i64) a0.1, .dat (.sl (.int .i64)) a0.2]), (1, .box [.dat (.int .i64) y6.1.1, .all 3]), (2, .box [.dat (.int .i64) y10.1.1, .all 4]), (3, .seq (.int .i64) y6.1.2), (4, .seq (.int .i64) y10.1.2)], 5⟩ hP hN (by kernel_rfl) allNil ?_
              obtain ⟨y29, hc30, hr⟩ := of_bind hr
              refine HT.reg1 [1, 2, 6, 7, 9, 12, 13] [⟨none, .no⟩, ⟨none, .no⟩, ⟨none, .call [.imm (.st (.pair (.int .i64) (.sl (.int .i64)))), .imm (.int .i64)] [⟨false, (.int .i64), y29⟩] []⟩, ⟨none, .no⟩] ⟨[(1, .one (.dat (.int .i64) a1)), (2, .one (.ptr 0 0)), (6, .one (.ptr 1 0)), (7, .one (.dat .bool y6.2)), (9, .one (.ptr 2 0)), (12, .one (.dat (.int .i64) y27.1)), (13, .one (.dat (.int .i64) y29))], [(4, .seq (.int .i64) y27.2.2), (0, .box [.dat (.int .i64) a0.1, .dat (.sl (.int .i64)) a0.2]), (1, .box [.dat (.int .i64) y6.1.1, .all 3]), (2, .box [.dat (.int .i64) y10.1.1, .all 4]), (3, .seq (.int .i64) y6.1.2), (4, .seq (.int .i64) y10.1.2)], 5⟩ hP hN (by kernel_rfl) (allCons (f22_ok hc30) allNil) ?_
              refine HT.seq ?_
              refine HT.reg1 [1, 2, 6, 7, 9, 12, 13, 73] [⟨none, .no⟩, ⟨none, .no⟩] ⟨[(1, .one (.dat (.int .i64) a1)), (2, .one (.ptr 0 0)), (6, .one (.ptr 1 0)), (7, .one (.dat .bool y6.2)), (9, .one (.ptr 2 0)), (12, .one (.dat (.int .i64) y27.1)), (13, .one (.dat (.int .i64) y29)), (73, .one (.dat .bool (decide (y29 < (0 : Int)))))], [(4, .seq (.int .i64) y27.2.2), (0, .box [.dat (.int .i64) a0.1, .dat (.sl (.int .i64)) a0.2]), (1, .box [.dat (.int .i64) y6.1.1, .all 3]), (2, .box [.dat (.int .i64) y10.1.1, .all 4]), (3, .seq (.int .i64) y6.1.2), (4, .seq (.int .i64) y10.1.2)], 5⟩ hP hN (by kernel_rfl) allNil ?_
              rcases of_bif hr with ⟨hb31, hr⟩ | ⟨hb31, hr⟩
              · refine HT.cond1 rfl hb31 ?_
                refine HT.reg1 [4] [⟨none, .no⟩] ⟨[(4, .one (.dat .bool false))], [(4, .seq (.int .i64) y27.2.2), (0, .box [.dat (.int .i64) a0.1, .dat (.sl (.int .i64)) a0.2]), (1, .box [.dat (.int .i64) y6.1.1, .all 3]), (2, .box [.dat (.int .i64) y10.1.1, .all 4]), (3, .seq (.int .i64) y6.1.2), (4, .seq (.int .i64) y10.1.2)], 5⟩ hP hN (by kernel_rfl) allNil ?_
                have hr := of_some hr
                subst hr
                exact HT.ret (qThenR ⟨[.one (.dat .bool false)], [], [], by kernel_rfl, by kernel_rfl, rfl, (.inl rfl), by kernel_rfl, trivial⟩)
              · refine HT.cond0 rfl hb31 ?_
                refine HT.skip (qThen ?_)
                refine HT.seq ?_
                refine HT.reg1 [1, 2, 6, 7, 9, 12, 76] [⟨none, .no⟩, ⟨none, .no⟩, ⟨none, .no⟩] ⟨[(1, .one (.dat (.int .i64) a1)), (2, .one (.ptr 0 0)), (6, .one (.ptr 1 0)), (7, .one (.dat .bool y6.2)), (9, .one (.ptr 2 0)), (12, .one (.dat (.int .i64) y27.1)), (76, .one (.dat .bool (y29 != y27.1)))], [(4, .seq (.int .i64) y27.2.2), (0, .box [.dat (.int .i64) a0.1, .dat (.sl (.int .i64)) a0.2]), (1, .box [.dat (.int .i64) y6.1.1, .all 3]), (2, .box [.dat (.int .i64) y10.1.1, .all 4]), (3, .seq (.int .i64) y6.1.2), (4, .seq (.int .i64) y10.1.2)], 5⟩ hP hN (by kernel_rfl) allNil ?_
                rcases of_bif hr with ⟨hb32, hr⟩ | ⟨hb32, hr⟩
                · refine HT.cond1 rfl hb32 ?_
                  refine HT.reg1 [4] [⟨none, .no⟩] ⟨[(4, .one (.dat .bool false))], [(4, .seq (.int .i64) y27.2.2), (0, .box [.dat (.int .i64) a0.1, .dat (.sl (.int .i64)) a0.2]), (1, .box [.dat (.int .i64) y6.1.1, .all 3]), (2, .box [.dat (.int .i64) y10.1.1, .all 4]), (3, .seq (.int .i64) y6.1.2), (4, .seq (.int .i64) y10.1.2)], 5⟩ hP hN (by kernel_rfl) allNil ?_
                  have hr := of_some hr
                  subst hr
                  exact HT.ret (qThenR ⟨[.one (.dat .bool false)], [], [], by kernel_rfl, by kernel_rfl, rfl, (.inl rfl), by kernel_rfl, trivial⟩)
                · refine HT.cond0 rfl hb32 ?_
                  refine HT.skip (qThen ?_)
                  obtain ⟨y33, hc34, hr⟩ := of_bind hr
                  obtain ⟨y35, hc36, hr⟩ := of_bind hr
                  refine HT.reg1 [6, 7, 9, 12, 14, 15] [⟨none, .no⟩, ⟨none, .call [.imm (.st (.pair (.int .i64) (.sl (.int .i64))))] [⟨true, (.st (.pair (.int .i64) (.sl (.int .i64)))), y33⟩] []⟩, ⟨none, .no⟩, ⟨none, .call [.imm (.st (.pair (.int .i64) (.sl (.int .i64)))), .imm (.int .i64)] [⟨true, (.st (.pair (.int .i64) (.sl (.int .i64)))), y35.1⟩, ⟨false, .bool, y35.2⟩] []⟩, ⟨none, .no⟩, ⟨none, .no⟩, ⟨none, .no⟩, ⟨none, .no⟩, ⟨none, .no⟩, ⟨none, .no⟩] ⟨[(6, .one (.ptr 1 0)), (7, .one (.dat .bool y6.2)), (9, .one (.ptr 2 0)), (12, .one (.dat (.int .i64) y27.1)), (14, .one (.ptr 7 0)), (15, .one (.dat .bool y35.2))], [(7, .box [.dat (.int .i64) y35.1.1, .all 6]), (7, .box [.dat (.int .i64) (0 : Int), .nilS]), (6, .seq (.int .i64) y35.1.2), (5, .seq (.int .i64) y33.2), (4, .seq (.int .i64) y27.2.2), (0, .box [.dat (.int .i64) a0.1, .dat (.sl (.int .i64)) a0.2]), (1, .box [.dat (.int .i64) y6.1.1, .all 3]), (2, .box [.dat (.int .i64) y10.1.1, .all 4]), (3, .seq (.int .i64) y6.1.2), (4, .seq (.int .i64) y10.1.2)], 8⟩ hP hN (by kernel_rfl) (allCons (f18_ok hc34) (allCons (f26_ok hc36) allNil)) ?_
                  refine HT.seq ?_
                  obtain ⟨v37', hT39, hr⟩ := of_bind hr
                  refine HT.join (fun (v37 : Bool) => ⟨[(9, .one (.ptr 0 0)), (12, .one (.dat (.int .i64) y27.1)), (92, .one (.dat .bool v37))], [(0, .box [.dat (.int .i64) y10.1.1, .all 1]), (1, .seq (.int .i64) y27.2.2)], 2⟩) (fun v => v = v37') (fun v37 hv38 => ?_) (fun cont => ?_)
                  · subst hv38
                    rcases of_bif hr with ⟨hb40, hr⟩ | ⟨hb40, hr⟩
                    · refine HT.cond1 rfl hb40 ?_
                      refine HT.reg1 [4] [⟨none, .no⟩] ⟨[(4, .one (.dat .bool false))], [(0, .box [.dat (.int .i64) y10.1.1, .all 1]), (1, .seq (.int .i64) y27.2.2)], 2⟩ hP hN (by kernel_rfl) allNil ?_
                      have hr := of_some hr
                      subst hr
                      exact HT.ret (qThenR ⟨[.one (.dat .bool false)], [], [], by kernel_rfl, by kernel_rfl, rfl, (.inl rfl), by kernel_rfl, trivial⟩)
                    · refine HT.cond0 rfl hb40 ?_
                      refine HT.skip (qThen ?_)
                      refine HT.reg1 [9, 12, 13] [⟨none, .no⟩] ⟨[(9, .one (.ptr 0 0)), (12, .one (.dat (.int .i64) y27.1)), (13, .one (.dat (.int .i64) (1 : Int)))], [(0, .box [.dat (.int .i64) y10.1.1, .all 1]), (1, .seq (.int .i64) y27.2.2)], 2⟩ hP hN (by kernel_rfl) allNil ?_
                      obtain ⟨y41, hc42, hr⟩ := of_bind hr
                      refine HT.reg1 [12, 13] [⟨none, .no⟩, ⟨none, .no⟩, ⟨none, .call [.imm (.st (.pair (.int .i64) (.sl (.int .i64)))), .imm (.int .i64)] [⟨false, (.int .i64), y41⟩] []⟩, ⟨none, .no⟩] ⟨[(12, .one (.dat (.int .i64) y27.1)), (13, .one (.dat (.int .i64) y41))], [(0, .box [.dat (.int .i64) y10.1.1, .all 1]), (1, .seq (.int .i64) y27.2.2)], 2⟩ hP hN (by kernel_rfl) (allCons (f22_ok hc42) allNil) ?_
                      refine HT.seq ?_
                      refine HT.reg1 [12, 13, 97] [⟨none, .no⟩, ⟨none, .no⟩] ⟨[(12, .one (.dat (.int .i64) y27.1)), (13, .one (.dat (.int .i64) y41)), (97, .one (.dat .bool (decide (y41 < (0 : Int)))))], [(0, .box [.dat (.int .i64) y10.1.1, .all 1]), (1, .seq (.int .i64) y27.2.2)], 2⟩ hP hN (by kernel_rfl) allNil ?_
                      rcases of_bif hr with ⟨hb43, hr⟩ | ⟨hb43, hr⟩
                      · refine HT.cond1 rfl hb43 ?_
                        refine HT.reg1 [4] [⟨none, .no⟩] ⟨[(4, .one (.dat .bool false))], [(0, .box [.dat (.int .i64) y10.1.1, .all 1]), (1, .seq (.int .i64) y27.2.2)], 2⟩ hP hN (by kernel_rfl) allNil ?_
                        have hr := of_some hr
                        subst hr
                        exact HT.ret (qThenR ⟨[.one (.dat .bool false)], [], [], by kernel_rfl, by kernel_rfl, rfl, (.inl rfl), by kernel_rfl, trivial⟩)
                      · refine HT.cond0 rfl hb43 ?_
                        refine HT.skip (qThen ?_)
                        refine HT.seq ?_
                        refine HT.reg1 [100] [⟨none, .no⟩, ⟨none, .no⟩, ⟨none, .no⟩] ⟨[(100, .one (.dat .bool (y41 != y27.1)))], [(0, .box [.dat (.int .i64) y10.1.1, .all 1]), (1, .seq (.int .i64) y27.2.2)], 2⟩ hP hN (by kernel_rfl) allNil ?_
                        rcases of_bif hr with ⟨hb44, hr⟩ | ⟨hb44, hr⟩
                        · refine HT.cond1 rfl hb44 ?_
                          refine HT.reg1 [4] [⟨none, .no⟩] ⟨[(4, .one (.dat .bool false))], [(0, .box [.dat (.int .i64) y10.1.1, .all 1]), (1, .seq (.int .i64) y27.2.2)], 2⟩ hP hN (by kernel_rfl) allNil ?_
                          have hr := of_some hr
                          subst hr
                          exact HT.ret (qThenR ⟨[.one (.dat .bool false)], [], [], by kernel_rfl, by kernel_rfl, rfl, (.inl rfl), by kernel_rfl, trivial⟩)
                        · refine HT.cond0 rfl hb44 ?_
                          refine HT.skip (qThen ?_)
                          refine HT.reg1 [4] [⟨none, .no⟩] ⟨[(4, .one (.dat .bool true))], [(0, .box [.dat (.int .i64) y10.1.1, .all 1]), (1, .seq (.int .i64) y27.2.2)], 2⟩ hP hN (by kernel_rfl) allNil ?_
                          have hr := of_some hr
                          subst hr
                          exact HT.ret ⟨[.one (.dat .bool true)], [], [], by kernel_rfl, by kernel_rfl, rfl, (.inl rfl), by kernel_rfl, trivial⟩
                  · obtain ⟨y45, hc46, hT39⟩ := of_bind hT39
                    rcases of_bif hT39 with ⟨hb47, hT39⟩ | ⟨hb47, hT39⟩
                    · refine HT.reg (rs := [⟨none, .no⟩, ⟨none, .no⟩, ⟨none, .call [.imm (.st (.pair (.int .i64) (.sl (.int .i64)))), .imm (.st (.pair (.int .i64) (.sl (.int .i64))))] [⟨false, .bool, y45⟩] []⟩, ⟨none, .no⟩, ⟨none, .no⟩, ⟨some true, .no⟩, ⟨some true, .no⟩, ⟨some true, .no⟩, ⟨none, .tv true⟩]) (st' := ⟨[(92, .one (.dat .bool true)), (91, .und), (90, .und), (89, .und), (88, .one (.dat .bool (!y45))), (87, .one (.dat .bool (!y45))), (86, .one (.dat .bool y45)), (85, .agg [.dat (.int .i64) y6.1.1, .all 3]), (84, .agg [.dat (.int .i64) y35.1.1, .all 6]), (6, .one (.ptr 1 0)), (7, .one (.dat .bool y6.2)), (9, .one (.ptr 2 0)), (12, .one (.dat (.int .i64) y27.1)), (14, .one (.ptr 7 0)), (15, .one (.dat .bool y35.2))], [(7, .box [.dat (.int .i64) y35.1.1, .all 6]), (7, .box [.dat (.int .i64) (0 : Int), .nilS]), (6, .seq (.int .i64) y35.1.2), (5, .seq (.int .i64) y33.2), (4, .seq (.int .i64) y27.2.2), (0, .box [.dat (.int .i64) a0.1, .dat (.sl (.int .i64)) a0.2]), (1, .box [.dat (.int .i64) y6.1.1, .all 3]), (2, .box [.dat (.int .i64) y10.1.1, .all 4]), (3, .seq (.int .i64) y6.1.2), (4, .seq (.int .i64) y10.1.2)], 8⟩) hP hN (by kernel_rfl) (allCons (f20_ok hc46) (allCons hb47 (allCons hb47 (allCons hb47 (allCons hb47 allNil))))) (qThen ?_)
                      exact (Le.cv (s := ⟨[(2, 0), (4, 1)], [], [], false⟩) (own := []) (ps := [y27.1 = y27.1, true = true, y10.1.1 = y10.1.1, y27.2.2 = y27.2.2]) (st' := ⟨[(9, .one (.ptr 0 0)), (12, .one (.dat (.int .i64) y27.1)), (92, .one (.dat .bool true))], [(0, .box [.dat (.int .i64) y10.1.1, .all 1]), (1, .seq (.int .i64) y27.2.2)], 2⟩) hO (fun h => by cases h) (by kernel_rfl) ⟨rfl, rfl, rfl, rfl, trivial⟩).ht (cont true (of_some hT39))
                    · refine HT.reg (rs := [⟨none, .no⟩, ⟨none, .no⟩, ⟨none, .call [.imm (.st (.pair (.int .i64) (.sl (.int .i64)))), .imm (.st (.pair (.int .i64) (.sl (.int .i64))))] [⟨false, .bool, y45⟩] []⟩, ⟨none, .no⟩, ⟨none, .no⟩, ⟨some false, .no⟩, ⟨some false, .no⟩, ⟨some false, .no⟩, ⟨none, .tv false⟩]) (st' := ⟨[(92, .one (.dat .bool (y35.2 != y6.2))), (91, .one (.dat .bool (y35.2 != y6.2))), (90, .one (.dat .bool y6.2)), (89, .one (.dat .bool y35.2)), (88, .one (.dat .bool (!y45))), (87, .one (.dat .bool (!y45))), (86, .one (.dat .bool y45)), (85, .agg [.dat (.int .i64) y6.1.1, .all 3]), (84, .agg [.dat (.int .i64) y35.1.1, .all 6]), (6, .one (.ptr 1 0)), (7, .one (.dat .bool y6.2)), (9, .one (.ptr 2 0)), (12, .one (.dat (.int .i64) y27.1)), (14, .one (.ptr 7 0)), (15, .one (.dat .bool y35.2))], [(7, .box [.dat (.int .i64) y35.1.1, .all 6]), (7, .box [.dat (.int .i64) (0 : Int), .nilS]), (6, .seq (.int .i64) y35.1.2), (5, .seq (.int .i64) y33.2), (4, .seq (.int .i64) y27.2.2), (0, .box [.dat (.int .i64) a0.1, .dat (.sl (.int .i64)) a0.2]), (1, .box [.dat (.int .i64) y6.1.1, .all 3]), (2, .box [.dat (.int .i64) y10.1.1, .all 4]), (3, .seq (.int .i64) y6.1.2), (4, .seq (.int .i64) y10.1.2)], 8⟩) hP hN (by kernel_rfl) (allCons (f20_ok hc46) (allCons hb47 (allCons hb47 (allCons hb47 (allCons hb47 allNil))))) (qThen ?_)
                      exact (Le.cv (s := ⟨[(2, 0), (4, 1)], [], [], false⟩) (own := []) (ps := [y27.1 = y27.1, (y35.2 != y6.2) = (y35.2 != y6.2), y10.1.1 = y10.1.1, y27.2.2 = y27.2.2]) (st' := ⟨[(9, .one (.ptr 0 0)), (12, .one (.dat (.int .i64) y27.1)), (92, .one (.dat .bool (y35.2 != y6.2)))], [(0, .box [.dat (.int .i64) y10.1.1, .all 1]), (1, .seq (.int .i64) y27.2.2)], 2⟩) hO (fun h => by cases h) (by kernel_rfl) ⟨rfl, rfl, rfl, rfl, trivial⟩).ht (cont (y35.2 != y6.2) (of_some hT39))
          · rcases of_bif hT25 with ⟨hb48, hT25⟩ | ⟨hb48, hT25⟩
            · refine HT.reg (rs := [⟨none, .no⟩, ⟨none, .no⟩, ⟨none, .no⟩, ⟨some true, .no⟩, ⟨some true, .no⟩, ⟨some true, .no⟩, ⟨some true, .no⟩, ⟨none, .tv true⟩, ⟨none, .no⟩, ⟨some true, .no⟩, ⟨some true, .no⟩, ⟨some true, .no⟩, ⟨none, .tv true⟩]) (st' := ⟨[(65, .one (.dat .bool true)), (64, .und), (63, .und), (62, .und), (61, .one (.dat .bool true)), (60, .one (.dat .bool true)), (59, .und), (58, .und), (57, .und), (56, .und), (55, .one (.dat .bool (decide (y21.1 < (0 : Int))))), (54, .one (.dat .bool (decide (y21.1 < (0 : Int))))), (53, .one (.dat (.int .i64) y21.1)), (1, .one (.dat (.int .i64) a1)), (2, .one (.ptr 0 0)), (6, .one (.ptr 1 0)), (7, .one (.dat .bool y6.2)), (9, .one (.ptr 3 0)), (10, .one (.dat .bool y10.2)), (11, .one (.dat (.int .i64) y21.1))], [(5, .seq (.int .i64) y21.2.2), (7, .seq (.int .i64) y16.2), (0, .box [.dat (.int .i64) a0.1, .dat (.sl (.int .i64)) a0.2]), (1, .box [.dat (.int .i64) y6.1.1, .all 4]), (2, .box [.dat (.int .i64) y8.1, .all 5]), (3, .box [.dat (.int .i64) y10.1.1, .all 6]), (4, .seq (.int .i64) y6.1.2), (5, .seq (.int .i64) y8.2), (6, .seq (.int .i64) y10.1.2)], 8⟩) hP hN (by kernel_rfl) (allCons hb48 (allCons hb48 (allCons hb48 (allCons hb48 (allCons hb48 (allCons (rfl : true = true) (allCons (rfl : true = true) (allCons (rfl : true = true) (allCons (rfl : true = true) allNil))))))))) (qThen ?_)
              exact (Le.cv (s := ⟨[(0, 0), (1, 1), (3, 2), (4, 3), (6, 4)], [], [], false⟩) (own := []) (ps := [a1 = a1, y6.2 = y6.2, true = true, a0.1 = a0.1, a0.2 = a0.2, y6.1.1 = y6.1.1, y10.1.1 = y10.1.1, y6.1.2 = y6.1.2, y10.1.2 = y10.1.2]) (st' := ⟨[(1, .one (.dat (.int .i64) a1)), (2, .one (.ptr 0 0)), (6, .one (.ptr 1 0)), (7, .one (.dat .bool y6.2)), (9, .one (.ptr 2 0)), (65, .one (.dat .bool true))], [(0, .box [.dat (.int .i64) a0.1, .dat (.sl (.int .i64)) a0.2]), (1, .box [.dat (.int .i64) y6.1.1, .all 3]), (2, .box [.dat (.int .i64) y10.1.1, .all 4]), (3, .seq (.int .i64) y6.1.2), (4, .seq (.int .i64) y10.1.2)], 5⟩) hO (fun h => by cases h) (by kernel_rfl) ⟨rfl, rfl, rfl, rfl, rfl, rfl, rfl, rfl, rfl, trivial⟩).ht (cont true (of_some hT25))
            · obtain ⟨y49, hc50, hT25⟩ := of_bind hT25
              rcases of_bif hT25 with ⟨hb51, hT25⟩ | ⟨hb51, hT25⟩
              · refine HT.reg (rs := [⟨none, .no⟩, ⟨none, .no⟩, ⟨none, .no⟩, ⟨some false, .no⟩, ⟨some false, .no⟩, ⟨some false, .call [.imm (.st (.pair (.int .i64) (.sl (.int .i64)))), .imm (.st (.pair (.int .i64) (.sl (.int .i64))))] [⟨false, .bool, y49⟩] []⟩, ⟨some false, .no⟩, ⟨none, .tv false⟩, ⟨none, .no⟩, ⟨some true, .no⟩, ⟨some true, .no⟩, ⟨some true, .no⟩, ⟨none, .tv true⟩]) (st' := ⟨[(65, .one (.dat .bool true)), (64, .und), (63, .und), (62, .und), (61, .one (.dat .bool (!y49))), (60, .one (.dat .bool (!y49))), (59, .one (.dat .bool (!y49))), (58, .one (.dat .bool y49)), (57, .agg [.dat (.int .i64) y6.1.1, .all 4]), (56, .agg [.dat (.int .i64) y10.1.1, .all 6]), (55, .one (.dat .bool (decide (y21.1 < (0 : Int))))), (54, .one (.dat .bool (decide (y21.1 < (0 : Int))))), (53, .one (.dat (.int .i64) y21.1)), (1, .one (.dat (.int .i64) a1)), (2, .one (.ptr 0 0)), (6, .one (.ptr 1 0)), (7, .one (.dat .bool y6.2)), (9, .one (.ptr 3 0)), (10, .one (.dat .bool y10.2)), (11, .one (.dat (.int .i64) y21.1))], [(5, .seq (.int .i64) y21.2.2), (7, .seq (.int .i64) y16.2), (0, .box [.dat (.int .i64) a0.1, .dat (.sl (.int .i64)) a0.2]), (1, .box [.dat (.int .i64) y6.1.1, .all 4]), (2, .box [.dat (.int .i64) y8.1, .all 5]), (3, .box [.dat (.int .i64) y10.1.1, .all 6]), (4, .seq (.int .i64) y6.1.2), (5, .seq (.int .i64) y8.2), (6, .seq (.int .i64) y10.1.2)], 8⟩) hP hN (by kernel_rfl) (allCons hb48 (allCons hb48 (allCons hb48 (allCons (f20_ok hc50) (allCons hb48 (allCons hb48 (allCons hb51 (allCons hb51 (allCons hb51 (allCons hb51 allNil)))))))))) (qThen ?_)
                exact (Le.cv (s := ⟨[(0, 0), (1, 1), (3, 2), (4, 3), (6, 4)], [], [], false⟩) (own := []) (ps := [a1 = a1, y6.2 = y6.2, true = true, a0.1 = a0.1, a0.2 = a0.2, y6.1.1 = y6.1.1, y10.1.1 = y10.1.1, y6.1.2 = y6.1.2, y10.1.2 = y10.1.2]) (st' := ⟨[(1, .one (.dat (.int .i64) a1)), (2, .one (.ptr 0 0)), (6, .one (.ptr 1 0)), (7, .one (.dat .bool y6.2)), (9, .one (.ptr 2 0)), (65, .one (.dat .bool true))], [(0, .box [.dat (.int .i64) a0.1, .dat (.sl (.int .i64)) a0.2]), (1, .box [.dat (.int .i64) y6.1.1, .all 3]), (2, .box [.dat (.int .i64) y10.1.1, .all 4]), (3, .seq (.int .i64) y6.1.2), (4, .seq (.int .i64) y10.1.2)], 5⟩) hO (fun h => by cases h) (by kernel_rfl) ⟨rfl, rfl, rfl, rfl, rfl, rfl, rfl, rfl, rfl, trivial⟩).ht (cont true (of_some hT25))
              · refine HT.reg (rs := [⟨none, .no⟩, ⟨none, .no⟩, ⟨none, .no⟩, ⟨some false, .no⟩, ⟨some false, .no⟩, ⟨some false, .call [.imm (.st (.pair (.int .i64) (.sl (.int .i64)))), .imm (.st (.pair (.int .i64) (.sl (.int .i64))))] [⟨false, .bool, y49⟩] []⟩, ⟨some false, .no⟩, ⟨none, .tv false⟩, ⟨none, .no⟩, ⟨some false, .no⟩, ⟨some false, .no⟩, ⟨some false, .no⟩, ⟨none, .tv false⟩]) (st' := ⟨[(65, .one (.dat .bool (y10.2 != y6.2))), (64, .one (.dat .bool (y10.2 != y6.2))), (63, .one (.dat .bool y6.2)), (62, .one (.dat .bool y10.2)), (61, .one (.dat .bool (!y49))), (60, .one (.dat .bool (!y49))), (59, .one (.dat .bool (!y49))), (58, .one (.dat .bool y49)), (57, .agg [.dat (.int .i64) y6.1.1, .all 4]), (56, .agg [.dat (.int .i64) y10.1.1, .all 6]), (55, .one (.dat .bool (decide (y21.1 < (0 : Int))))), (54, .one (.dat .bool (decide (y21.1 < (0 : Int))))), (53, .one (.dat (.int .i64) y21.1)), (1, .one (.dat (.int .i64) a1)), (2, .one (.ptr 0 0)), (6, .one (.ptr 1 0)), (7, .one (.dat .bool y6.2)), (9, .one (.ptr 3 0)), (10, .one (.dat .bool y10.2)), (11, .one (.dat (.int .i64) y21.1))], [(5, .seq (.int .i64) y21.2.2), (7, .seq (.int .i64) y16.2), (0, .box [.dat (.int .i64) a0.1, .dat (.sl (.int .i64)) a0.2]), (1, .box [.dat (.int .i64) y6.1.1, .all 4]), (2, .box [.dat (.int .i64) y8.1, .all 5]), (3, .box [.dat (.int .i64) y10.1.1, .all 6]), (4, .seq (.int .i64) y6.1.2), (5, .seq (.int .i64) y8.2), (6, .seq (.int .i64) y10.1.2)], 8⟩) hP hN (by kernel_rfl) (allCons hb48 (allCons hb48 (allCons hb48 (allCons (f20_ok hc50) (allCons hb48 (allCons hb48 (allCons hb51 (allCons hb51 (allCons hb51 (allCons hb51 allNil)))))))))) (qThen ?_)
                exact (Le.cv (s := ⟨[(0, 0), (1, 1), (3, 2), (4, 3), (6, 4)], [], [], false⟩) (own := []) (ps := [a1 = a1, y6.2 = y6.2, (y10.2 != y6.2) = (y10.2 != y6.2), a0.1 = a0.1, a0.2 = a0.2, y6.1.1 = y6.1.1, y10.1.1 = y10.1.1, y6.1.2 = y6.1.2, y10.1.2 = y10.1.2]) (st' := ⟨[(1, .one (.dat (.int .i64) a1)), (2, .one (.ptr 0 0)), (6, .one (.ptr 1 0)), (7, .one (.dat .bool y6.2)), (9, .one (.ptr 2 0)), (65, .one (.dat .bool (y10.2 != y6.2)))], [(0, .box [.dat (.int .i64) a0.1, .dat (.sl (.int .i64)) a0.2]), (1, .box [.dat (.int .i64) y6.1.1, .all 3]), (2, .box [.dat (.int .i64) y10.1.1, .all 4]), (3, .seq (.int .i64) y6.1.2), (4, .seq (.int .i64) y10.1.2)], 5⟩) hO (fun h => by cases h) (by kernel_rfl) ⟨rfl, rfl, rfl, rfl, rfl, rfl, rfl, rfl, rfl, trivial⟩).ht (cont (y10.2 != y6.2) (of_some hT25))
    · obtain ⟨y52, hc53, hT14⟩ := of_bind hT14
      rcases of_bif hT14 with ⟨hb54, hT14⟩ | ⟨hb54, hT14⟩
      · refine HT.reg (rs := [⟨none, .no⟩, ⟨none, .no⟩, ⟨none, .call [.imm (.st (.pair (.int .i64) (.sl (.int .i64)))), .imm (.st (.pair (.int .i64) (.sl (.int .i64))))] [⟨false, .bool, y52⟩] []⟩, ⟨none, .no⟩, ⟨none, .no⟩, ⟨some true, .no⟩, ⟨some true, .no⟩, ⟨some true, .no⟩, ⟨none, .tv true⟩]) (st' := ⟨[(44, .one (.dat .bool true)), (43, .und), (42, .und), (41, .und), (40, .one (.dat .bool (!y52))), (39, .one (.dat .bool (!y52))), (38, .one (.dat .bool y52)), (37, .agg [.dat (.int .i64) y6.1.1, .all 2]), (36, .agg [.dat (.int .i64) y10.1.1, .all 6]), (1, .one (.dat (.int .i64) a1)), (2, .one (.ptr 0 0)), (6, .one (.ptr 3 0)), (7, .one (.dat .bool y6.2)), (8, .one (.ptr 5 0)), (9, .one (.ptr 7 0)), (10, .one (.dat .bool y10.2))], [(7, .box [.dat (.int .i64) y10.1.1, .all 6]), (7, .box [.dat (.int .i64) (0 : Int), .nilS]), (6, .seq (.int .i64) y10.1.2), (5, .box [.dat (.int .i64) y8.1, .all 4]), (5, .box [.dat (.int .i64) (0 : Int), .nilS]), (4, .seq (.int .i64) y8.2), (3, .box [.dat (.int .i64) y6.1.1, .all 2]), (3, .box [.dat (.int .i64) (0 : Int), .nilS]), (2, .seq (.int .i64) y6.1.2), (1, .seq (.int .i64) y4.2), (0, .box [.dat (.int .i64) a0.1, .dat (.sl (.int .i64)) a0.2])], 8⟩) hP hN (by kernel_rfl) (allCons (f20_ok hc53) (allCons hb54 (allCons hb54 (allCons hb54 (allCons hb54 allNil))))) (qThen ?_)
        exact (Le.cv (s := ⟨[(0, 0), (3, 1), (5, 2), (7, 3), (2, 4), (4, 5), (6, 6)], [], [], false⟩) (own := []) (ps := [a1 = a1, y6.2 = y6.2, y10.2 = y10.2, true = true, a0.1 = a0.1, a0.2 = a0.2, y6.1.1 = y6.1.1, y8.1 = y8.1, y10.1.1 = y10.1.1, y6.1.2 = y6.1.2, y8.2 = y8.2, y10.1.2 = y10.1.2]) (st' := ⟨[(1, .one (.dat (.int .i64) a1)), (2, .one (.ptr 0 0)), (6, .one (.ptr 1 0)), (7, .one (.dat .bool y6.2)), (8, .one (.ptr 2 0)), (9, .one (.ptr 3 0)), (10, .one (.dat .bool y10.2)), (44, .one (.dat .bool true))], [(0, .box [.dat (.int .i64) a0.1, .dat (.sl (.int .i64)) a0.2]), (1, .box [.dat (.int .i64) y6.1.1, .all 4]), (2, .box [.dat (.int .i64) y8.1, .all 5]), (3, .box [.dat (.int .i64) y10.1.1, .all 6]), (4, .seq (.int .i64) y6.1.2), (5, .seq (.int .i64) y8.2), (6, .seq (.int .i64) y10.1.2)], 7⟩) hO (fun h => by cases h) (by kernel_rfl) ⟨rfl, rfl, rfl, rfl, rfl, rfl, rfl, rfl, rfl, rfl, rfl, rfl, trivial⟩).ht (cont true (of_some hT14))
      · refine HT.reg (rs := [⟨none, .no⟩, ⟨none, .no⟩, ⟨none, .call [.imm (.st (.pair (.int .i64) (.sl (.int .i64)))), .imm (.st (.pair (.int .i64) (.sl (.int .i64))))] [⟨false, .bool, y52⟩] []⟩, ⟨none, .no⟩, ⟨none, .no⟩, ⟨some false, .no⟩, ⟨some false, .no⟩, ⟨some false, .no⟩, ⟨none, .tv false⟩]) (st' := ⟨[(44, .one (.dat .bool (y10.2 != y6.2))), (43, .one (.dat .bool (y10.2 != y6.2))), (42, .one (.dat .bool y6.2)), (41, .one (.dat .bool y10.2)), (40, .one (.dat .bool (!y52))), (39, .one (.dat .bool (!y52))), (38, .one (.dat .bool y52)), (37, .agg [.dat (.int .i64) y6.1.1, .all 2]), (36, .agg [.dat (.int .i64) y10.1.1, .all 6]), (1, .one (.dat (.int .i64) a1)), (2, .one (.ptr 0 0)), (6, .one (.ptr 3 0)), (7, .one (.dat .bool y6.2)), (8, .one (.ptr 5 0)), (9, .one (.ptr 7 0)), (10, .one (.dat .bool y10.2))], [(7, .box [.dat (.int .i64) y10.1.1, .all 6]), (7, .box [.dat (.int .i64) (0 : Int), .nilS]), (6, .seq (.int .i64) y10.1.2), (5, .box [.dat (.int .i64) y8.1, .all 4]), (5, .box [.dat (.int .i64) (0 : Int), .nilS]), (4, .seq (.int .i64) y8.2), (3, .box [.dat (.int .i64) y6.1.1, .all 2]), (3, .box [.dat (.int .i64) (0 : Int), .nilS]), (2, .seq (.int .i64) y6.1.2), (1, .seq (.int .i64) y4.2), (0, .box [.dat (.int .i64) a0.1, .dat (.sl (.int .i64)) a0.2])], 8⟩) hP hN (by kernel_rfl) (allCons (f20_ok hc53) (allCons hb54 (allCons hb54 (allCons hb54 (allCons hb54 allNil))))) (qThen ?_)
        exact (Le.cv (s := ⟨[(0, 0), (3, 1), (5, 2), (7, 3), (2, 4), (4, 5), (6, 6)], [], [], false⟩) (own := []) (ps := [a1 = a1, y6.2 = y6.2, y10.2 = y10.2, (y10.2 != y6.2) = (y10.2 != y6.2), a0.1 = a0.1, a0.2 = a0.2, y6.1.1 = y6.1.1, y8.1 = y8.1, y10.1.1 = y10.1.1, y6.1.2 = y6.1.2, y8.2 = y8.2, y10.1.2 = y10.1.2]) (st' := ⟨[(1, .one (.dat (.int .i64) a1)), (2, .one (.ptr 0 0)), (6, .one (.ptr 1 0)), (7, .one (.dat .bool y6.2)), (8, .one (.ptr 2 0)), (9, .one (.ptr 3 0)), (10, .one (.dat .bool y10.2)), (44, .one (.dat .bool (y10.2 != y6.2)))], [(0, .box [.dat (.int .i64) a0.1, .dat (.sl (.int .i64)) a0.2]), (1, .box [.dat (.int .i64) y6.1.1, .all 4]), (2, .box [.dat (.int .i64) y8.1, .all 5]), (3, .box [.dat (.int .i64) y10.1.1, .all 6]), (4, .seq (.int .i64) y6.1.2), (5, .seq (.int .i64) y8.2), (6, .seq (.int .i64) y10.1.2)], 7⟩) hO (fun h => by cases h) (by kernel_rfl) ⟨rfl, rfl, rfl, rfl, rfl, rfl, rfl, rfl, rfl, rfl, rfl, rfl, trivial⟩).ht (cont (y10.2 != y6.2) (of_some hT14))

end Go.Proofs
