import Derived.Test.YthckjpcbmlgkhaaMoreBitsGenA
import Derived.Test.YthckjpcbmlgkhaaProg
set_option linter.unusedVariables false
set_option linter.unusedSimpArgs false
set_option linter.unusedSectionVars false
/-
  Functions as plain functions, and their contracts. Printed by a program.
-/
namespace Go.Proofs
open Go.Ide

noncomputable def impl_wordsOf_B1 (a0 : Int) (s1 : Int × List (List Int)) (s8 : Int × List (List Int)) (s16 : Int × List (List Int)) : Option ((Int × List (List Int)) ⊕ (List (List Int))) :=
  bif (decide (s16.1 < a0)) then
    (slices_Clone (List.getD s1.2 (Int.toNat s8.1) ([] : List Int))).bind fun y23 =>
    guardP (List.length y23 + List.length ([s16.1] : List Int) ≤ appMax) (
      guardP (List.length s16.2 + List.length ([(y23 ++ ([s16.1] : List Int))] : List (List Int)) ≤ appMax) (
        some (.inl ((wadd .i64 s16.1 (1 : Int)), (s16.2 ++ ([(y23 ++ ([s16.1] : List Int))] : List (List Int)))))))
  else
    some (.inr s16.2)

noncomputable def impl_wordsOf_B2 (a0 : Int) (s1 : Int × List (List Int)) (s8 : Int × List (List Int)) : Option ((Int × List (List Int)) ⊕ (List (List Int))) :=
  bif (decide (s8.1 < (lenI s1.2))) then
    guardP ((0 : Int) ≤ s8.1 ∧ s8.1 < lenI s1.2) (
      (rounds (impl_wordsOf_B1 a0 s1 s8) ((0 : Int), s8.2)).bind fun r18 =>
      some (.inl ((wadd .i64 s8.1 (1 : Int)), r18)))
  else
    some (.inr s8.2)

noncomputable def impl_wordsOf_B3 (a0 : Int) (a1 : Int) (s1 : Int × List (List Int)) : Option ((Int × List (List Int)) ⊕ (List (List Int))) :=
  bif (decide (s1.1 < a1)) then
    (rounds (impl_wordsOf_B2 a0 s1) ((0 : Int), ([] : List (List Int)))).bind fun r10 =>
    some (.inl ((wadd .i64 s1.1 (1 : Int)), r10))
  else
    some (.inr s1.2)

noncomputable def impl_wordsOf (a0 : Int) (a1 : Int) : Option (List (List Int)) :=
  (rounds (impl_wordsOf_B3 a0 a1) ((0 : Int), ([([] : List Int)] : List (List Int)))).bind fun r3 =>
  some r3

theorem f70_ok {a0 : Int} {a1 : Int} {r : List (List Int)} (hr : impl_wordsOf a0 a1 = some r) : CallOK Try.prog 70 [.imm (.int .i64) a0, .imm (.int .i64) a1] [⟨false, (.sl (.sl (.int .i64))), r⟩] [] := by
  unfold impl_wordsOf at hr
  refine CallOK.of_body (ts := [(false, (.sl (.sl (.int .i64))))]) Try.func70 rfl (by kernel_rfl) (Nat.le_of_ble_eq_true (by kernel_rfl)) fun cx hP hN hO hF => ?_
  have hO : cx.own.map Prod.fst = [] := hO
  have hF := hF rfl
  show HT cx ⟨[(0, .one (.dat (.int .i64) a0)), (1, .one (.dat (.int .i64) a1))], [], 0⟩ _ _
  refine HT.reg1 [0, 1] [⟨none, .no⟩] ⟨[(0, .one (.dat (.int .i64) a0)), (1, .one (.dat (.int .i64) a1))], [], 0⟩ hP hN (by kernel_rfl) allNil ?_
  refine HT.reg1 [0, 1, 5] [⟨none, .no⟩, ⟨none, .ty (.sl (.int .i64))⟩, ⟨none, .no⟩] ⟨[(0, .one (.dat (.int .i64) a0)), (1, .one (.dat (.int .i64) a1)), (5, .one (.all 0))], [(0, .seq (.sl (.int .i64)) ([([] : List Int)] : List (List Int)))], 1⟩ hP hN (by kernel_rfl) allNil ?_
  refine HT.seq ?_
  refine HT.reg1 [0, 5, 12, 13] [⟨none, .no⟩, ⟨none, .no⟩] ⟨[(0, .one (.dat (.int .i64) a0)), (5, .one (.all 0)), (12, .one (.dat (.int .i64) a1)), (13, .one (.dat (.int .i64) (0 : Int)))], [(0, .seq (.sl (.int .i64)) ([([] : List Int)] : List (List Int)))], 1⟩ hP hN (by kernel_rfl) allNil ?_
  refine HT.block ?_
  obtain ⟨r2, hL29, hr⟩ := of_bind hr
  refine (Le.cv (s := ⟨[(0, 0)], [], [], false⟩) (own := []) (ps := [a0 = a0, a1 = a1, (0 : Int) = (0 : Int), ([([] : List Int)] : List (List Int)) = ([([] : List Int)] : List (List Int))]) (st' := ⟨[(0, .one (.dat (.int .i64) a0)), (5, .one (.all 0)), (12, .one (.dat (.int .i64) a1)), (13, .one (.dat (.int .i64) (0 : Int)))], [(0, .seq (.sl (.int .i64)) ([([] : List Int)] : List (List Int)))], 1⟩) hO (fun h => by cases h) (by kernel_rfl) ⟨rfl, rfl, rfl, rfl, trivial⟩).ht ?_
  refine HT.loopE (s := ((0 : Int), ([([] : List Int)] : List (List Int)))) (fun (s1 : Int × List (List Int)) => ⟨[(0, .one (.dat (.int .i64) a0)), (5, .one (.all 0)), (12, .one (.dat (.int .i64) a1)), (13, .one (.dat (.int .i64) s1.1))], [(0, .seq (.sl (.int .i64)) s1.2)], 1⟩) (fun (r3 : List (List Int)) => (.exit 0, ⟨[(5, .one (.all 0))], [(0, .seq (.sl (.int .i64)) r3)], 1⟩)) hL29 ?_ (fun s1 x4 hx5 hk6 => ?_)
  · refine (qBlockX (qThen ?_))
    refine HT.reg1 [4] [⟨none, .no⟩, ⟨none, .no⟩] ⟨[(4, .one (.all 0))], [(0, .seq (.sl (.int .i64)) r2)], 1⟩ hP hN (by kernel_rfl) allNil ?_
    have hr := of_some hr
    subst hr
    refine (Le.cv (s := ⟨[], [], [], true⟩) (own := []) (ps := [r2 = r2]) (st' := ⟨[(4, .one (.dat (.sl (.sl (.int .i64))) r2))], [], 1⟩) hO (fun _ => hF) (by kernel_rfl) ⟨rfl, trivial⟩).ht ?_
    exact HT.ret ⟨[.one (.dat (.sl (.sl (.int .i64))) r2)], [], [], by kernel_rfl, by kernel_rfl, rfl, by kernel_rfl, by kernel_rfl, trivial⟩
  · refine HT.reg1 [0, 5, 12, 13, 14] [⟨none, .no⟩] ⟨[(0, .one (.dat (.int .i64) a0)), (5, .one (.all 0)), (12, .one (.dat (.int .i64) a1)), (13, .one (.dat (.int .i64) s1.1)), (14, .one (.dat .bool (decide (s1.1 < a1))))], [(0, .seq (.sl (.int .i64)) s1.2)], 1⟩ hP hN (by kernel_rfl) allNil ?_
    refine HT.seq ?_
    rcases of_bif hx5 with ⟨hb7, hx5⟩ | ⟨hb7, hx5⟩
    · refine HT.cond1 rfl hb7 ?_
      refine HT.skip (qThen ?_)
      refine HT.seq ?_
      refine HT.block ?_
      refine HT.reg1 [0, 5, 6, 12, 13] [⟨none, .no⟩, ⟨none, .no⟩] ⟨[(0, .one (.dat (.int .i64) a0)), (5, .one (.all 0)), (6, .one (.nilS)), (12, .one (.dat (.int .i64) a1)), (13, .one (.dat (.int .i64) s1.1))], [(0, .seq (.sl (.int .i64)) s1.2)], 1⟩ hP hN (by kernel_rfl) allNil ?_
      refine HT.seq ?_
      refine HT.reg1 [0, 6, 12, 13, 16, 17, 18] [⟨none, .no⟩, ⟨none, .no⟩, ⟨none, .no⟩] ⟨[(0, .one (.dat (.int .i64) a0)), (6, .one (.nilS)), (12, .one (.dat (.int .i64) a1)), (13, .one (.dat (.int .i64) s1.1)), (16, .one (.all 0)), (17, .one (.dat (.int .i64) (lenI s1.2))), (18, .one (.dat (.int .i64) (0 : Int)))], [(0, .seq (.sl (.int .i64)) s1.2)], 1⟩ hP hN (by kernel_rfl) allNil ?_
      refine HT.block ?_
      obtain ⟨r9, hL28, hx5⟩ := of_bind hx5
      refine (Le.cv (s := ⟨[(0, 1)], [0], [], false⟩) (own := []) (ps := [a0 = a0, a1 = a1, s1.1 = s1.1, (lenI s1.2) = (lenI s1.2), (0 : Int) = (0 : Int), ([] : List (List Int)) = [], s1.2 = s1.2]) (st' := ⟨[(0, .one (.dat (.int .i64) a0)), (6, .one (.all 0)), (12, .one (.dat (.int .i64) a1)), (13, .one (.dat (.int .i64) s1.1)), (16, .one (.all 1)), (17, .one (.dat (.int .i64) (lenI s1.2))), (18, .one (.dat (.int .i64) (0 : Int)))], [(0, .seq (.sl (.int .i64)) ([] : List (List Int))), (1, .seq (.sl (.int .i64)) s1.2)], 2⟩) hO (fun h => by cases h) (by kernel_rfl) ⟨rfl, rfl, rfl, rfl, rfl, rfl, rfl, trivial⟩).ht ?_
      refine HT.loopE (s := ((0 : Int), ([] : List (List Int)))) (fun (s8 : Int × List (List Int)) => ⟨[(0, .one (.dat (.int .i64) a0)), (6, .one (.all 0)), (12, .one (.dat (.int .i64) a1)), (13, .one (.dat (.int .i64) s1.1)), (16, .one (.all 1)), (17, .one (.dat (.int .i64) (lenI s1.2))), (18, .one (.dat (.int .i64) s8.1))], [(0, .seq (.sl (.int .i64)) s8.2), (1, .seq (.sl (.int .i64)) s1.2)], 2⟩) (fun (r10 : List (List Int)) => (.exit 2, ⟨[(0, .one (.dat (.int .i64) a0)), (6, .one (.all 0)), (12, .one (.dat (.int .i64) a1)), (13, .one (.dat (.int .i64) s1.1))], [(0, .seq (.sl (.int .i64)) r10)], 1⟩)) hL28 ?_ (fun s8 x11 hx12 hk13 => ?_)
      · refine (qBlockX (qThen ?_))
        refine HT.reg (rs := [⟨none, .no⟩, ⟨none, .no⟩]) (st' := ⟨[(5, .one (.all 0)), (36, .one (.all 0)), (0, .one (.dat (.int .i64) a0)), (6, .one (.all 0)), (12, .one (.dat (.int .i64) a1)), (13, .one (.dat (.int .i64) s1.1))], [(0, .seq (.sl (.int .i64)) r9)], 1⟩) hP hN (by kernel_rfl) allNil (qBlock (qThen ?_))
        have hx5 := of_some hx5
        subst hx5
        refine HT.reg (rs := [⟨none, .no⟩, ⟨none, .no⟩]) (st' := ⟨[(13, .one (.dat (.int .i64) (wadd .i64 s1.1 (1 : Int)))), (37, .one (.dat (.int .i64) (wadd .i64 s1.1 (1 : Int)))), (5, .one (.all 0)), (36, .one (.all 0)), (0, .one (.dat (.int .i64) a0)), (6, .one (.all 0)), (12, .one (.dat (.int .i64) a1)), (13, .one (.dat (.int .i64) s1.1))], [(0, .seq (.sl (.int .i64)) r9)], 1⟩) hP hN (by kernel_rfl) allNil (qLoopN ⟨((wadd .i64 s1.1 (1 : Int)), r9), rfl, Le.cv (s := ⟨[(0, 0)], [], [], false⟩) (own := []) (ps := [a0 = a0, a1 = a1, (wadd .i64 s1.1 (1 : Int)) = (wadd .i64 s1.1 (1 : Int)), r9 = r9]) (st' := ⟨[(0, .one (.dat (.int .i64) a0)), (5, .one (.all 0)), (12, .one (.dat (.int .i64) a1)), (13, .one (.dat (.int .i64) (wadd .i64 s1.1 (1 : Int))))], [(0, .seq (.sl (.int .i64)) r9)], 1⟩) hO (fun h => by cases h) (by kernel_rfl) ⟨rfl, rfl, rfl, rfl, trivial⟩⟩)
      · refine HT.reg1 [0, 6, 12, 13, 16, 17, 18, 19] [⟨none, .no⟩] ⟨[(0, .one (.dat (.int .i64) a0)), (6, .one (.all 0)), (12, .one (.dat (.int .i64) a1)), (13, .one (.dat (.int .i64) s1.1)), (16, .one (.all 1)), (17, .one (.dat (.int .i64) (lenI s1.2))), (18, .one (.dat (.int .i64) s8.1)), (19, .one (.dat .bool (decide (s8.1 < (lenI s1.2)))))], [(0, .seq (.sl (.int .i64)) s8.2), (1, .seq (.sl (.int .i64)) s1.2)], 2⟩ hP hN (by kernel_rfl) allNil ?_
        refine HT.seq ?_
        rcases of_bif hx12 with ⟨hb14, hx12⟩ | ⟨hb14, hx12⟩
        · refine HT.cond1 rfl hb14 ?_
          refine HT.skip (qThen ?_)
          refine HT.seq ?_
          refine HT.block ?_
          obtain ⟨hg15, hx12⟩ := of_guard hx12
          refine HT.reg1 [0, 6, 8, 12, 13, 16, 17, 18] [⟨none, .no⟩, ⟨none, .no⟩, ⟨none, .no⟩] ⟨[(0, .one (.dat (.int .i64) a0)), (6, .one (.all 0)), (8, .one (.dat (.sl (.int .i64)) (List.getD s1.2 (Int.toNat s8.1) ([] : List Int)))), (12, .one (.dat (.int .i64) a1)), (13, .one (.dat (.int .i64) s1.1)), (16, .one (.all 1)), (17, .one (.dat (.int .i64) (lenI s1.2))), (18, .one (.dat (.int .i64) s8.1))], [(0, .seq (.sl (.int .i64)) s8.2), (1, .seq (.sl (.int .i64)) s1.2)], 2⟩ hP hN (by kernel_rfl) (allCons hg15 (allCons (natLt hg15) allNil)) ?_
          refine HT.reg1 [0, 6, 8, 12, 13, 16, 17, 18, 22, 23] [⟨none, .no⟩, ⟨none, .no⟩] ⟨[(0, .one (.dat (.int .i64) a0)), (6, .one (.all 0)), (8, .one (.dat (.sl (.int .i64)) (List.getD s1.2 (Int.toNat s8.1) ([] : List Int)))), (12, .one (.dat (.int .i64) a1)), (13, .one (.dat (.int .i64) s1.1)), (16, .one (.all 1)), (17, .one (.dat (.int .i64) (lenI s1.2))), (18, .one (.dat (.int .i64) s8.1)), (22, .one (.dat (.int .i64) a0)), (23, .one (.dat (.int .i64) (0 : Int)))], [(0, .seq (.sl (.int .i64)) s8.2), (1, .seq (.sl (.int .i64)) s1.2)], 2⟩ hP hN (by kernel_rfl) allNil ?_
          refine HT.block ?_
          obtain ⟨r17, hL27, hx12⟩ := of_bind hx12
          refine (Le.cv (s := ⟨[(0, 0), (1, 1)], [], [], false⟩) (own := []) (ps := [a0 = a0, (List.getD s1.2 (Int.toNat s8.1) ([] : List Int)) = (List.getD s1.2 (Int.toNat s8.1) ([] : List Int)), a1 = a1, s1.1 = s1.1, (lenI s1.2) = (lenI s1.2), s8.1 = s8.1, a0 = a0, (0 : Int) = (0 : Int), s8.2 = s8.2, s1.2 = s1.2]) (st' := ⟨[(0, .one (.dat (.int .i64) a0)), (6, .one (.all 0)), (8, .one (.dat (.sl (.int .i64)) (List.getD s1.2 (Int.toNat s8.1) ([] : List Int)))), (12, .one (.dat (.int .i64) a1)), (13, .one (.dat (.int .i64) s1.1)), (16, .one (.all 1)), (17, .one (.dat (.int .i64) (lenI s1.2))), (18, .one (.dat (.int .i64) s8.1)), (22, .one (.dat (.int .i64) a0)), (23, .one (.dat (.int .i64) (0 : Int)))], [(0, .seq (.sl (.int .i64)) s8.2), (1, .seq (.sl (.int .i64)) s1.2)], 2⟩) hO (fun h => by cases h) (by kernel_rfl) ⟨rfl, rfl, rfl, rfl, rfl, rfl, rfl, rfl, rfl, rfl, trivial⟩).ht ?_
          refine HT.loopE (s := ((0 : Int), s8.2)) (fun (s16 : Int × List (List Int)) => ⟨[(0, .one (.dat (.int .i64) a0)), (6, .one (.all 0)), (8, .one (.dat (.sl (.int .i64)) (List.getD s1.2 (Int.toNat s8.1) ([] : List Int)))), (12, .one (.dat (.int .i64) a1)), (13, .one (.dat (.int .i64) s1.1)), (16, .one (.all 1)), (17, .one (.dat (.int .i64) (lenI s1.2))), (18, .one (.dat (.int .i64) s8.1)), (22, .one (.dat (.int .i64) a0)), (23, .one (.dat (.int .i64) s16.1))], [(0, .seq (.sl (.int .i64)) s16.2), (1, .seq (.sl (.int .i64)) s1.2)], 2⟩) (fun (r18 : List (List Int)) => (.exit 4, ⟨[(0, .one (.dat (.int .i64) a0)), (6, .one (.all 0)), (12, .one (.dat (.int .i64) a1)), (13, .one (.dat (.int .i64) s1.1)), (16, .one (.all 1)), (17, .one (.dat (.int .i64) (lenI s1.2))), (18, .one (.dat (.int .i64) s8.1))], [(0, .seq (.sl (.int .i64)) r18), (1, .seq (.sl (.int .i64)) s1.2)], 2⟩)) hL27 ?_ (fun s16 x19 hx20 hk21 => ?_)
          · refine (qBlockX (qBlock (qThen ?_)))
            have hx12 := of_some hx12
            subst hx12
            refine HT.reg (rs := [⟨none, .no⟩, ⟨none, .no⟩]) (st' := ⟨[(18, .one (.dat (.int .i64) (wadd .i64 s8.1 (1 : Int)))), (35, .one (.dat (.int .i64) (wadd .i64 s8.1 (1 : Int)))), (0, .one (.dat (.int .i64) a0)), (6, .one (.all 0)), (12, .one (.dat (.int .i64) a1)), (13, .one (.dat (.int .i64) s1.1)), (16, .one (.all 1)), (17, .one (.dat (.int .i64) (lenI s1.2))), (18, .one (.dat (.int .i64) s8.1))], [(0, .seq (.sl (.int .i64)) r17), (1, .seq (.sl (.int .i64)) s1.2)], 2⟩) hP hN (by kernel_rfl) allNil (qLoopN ⟨((wadd .i64 s8.1 (1 : Int)), r17), rfl, Le.cv (s := ⟨[(0, 0), (1, 1)], [], [], false⟩) (own := []) (ps := [a0 = a0, a1 = a1, s1.1 = s1.1, (lenI s1.2) = (lenI s1.2), (wadd .i64 s8.1 (1 : Int)) = (wadd .i64 s8.1 (1 : Int)), r17 = r17, s1.2 = s1.2]) (st' := ⟨[(0, .one (.dat (.int .i64) a0)), (6, .one (.all 0)), (12, .one (.dat (.int .i64) a1)), (13, .one (.dat (.int .i64) s1.1)), (16, .one (.all 1)), (17, .one (.dat (.int .i64) (lenI s1.2))), (18, .one (.dat (.int .i64) (wadd .i64 s8.1 (1 : Int))))], [(0, .seq (.sl (.int .i64)) r17), (1, .seq (.sl (.int .i64)) s1.2)], 2⟩) hO (fun h => by cases h) (by kernel_rfl) ⟨rfl, rfl, rfl, rfl, rfl, rfl, rfl, trivial⟩⟩)
          · refine HT.reg1 [0, 6, 8, 12, 13, 16, 17, 18, 22, 23, 24] [⟨none, .no⟩] ⟨[(0, .one (.dat (.int .i64) a0)), (6, .one (.all 0)), (8, .one (.dat (.sl (.int .i64)) (List.getD s1.2 (Int.toNat s8.1) ([] : List Int)))), (12, .one (.dat (.int .i64) a1)), (13, .one (.dat (.int .i64) s1.1)), (16, .one (.all 1)), (17, .one (.dat (.int .i64) (lenI s1.2))), (18, .one (.dat (.int .i64) s8.1)), (22, .one (.dat (.int .i64) a0)), (23, .one (.dat (.int .i64) s16.1)), (24, .one (.dat .bool (decide (s16.1 < a0))))], [(0, .seq (.sl (.int .i64)) s16.2), (1, .seq (.sl (.int .i64)) s1.2)], 2⟩ hP hN (by kernel_rfl) allNil ?_
            refine HT.seq ?_
            rcases of_bif hx20 with ⟨hb22, hx20⟩ | ⟨hb22, hx20⟩
            · refine HT.cond1 rfl hb22 ?_
              refine HT.skip (qThen ?_)
              refine HT.seq ?_
              refine HT.block ?_
              refine HT.reg1 [0, 6, 8, 9, 12, 13, 16, 17, 18, 22, 23] [⟨none, .no⟩, ⟨none, .no⟩] ⟨[(0, .one (.dat (.int .i64) a0)), (6, .one (.all 0)), (8, .one (.dat (.sl (.int .i64)) (List.getD s1.2 (Int.toNat s8.1) ([] : List Int)))), (9, .one (.dat (.int .i64) s16.1)), (12, .one (.dat (.int .i64) a1)), (13, .one (.dat (.int .i64) s1.1)), (16, .one (.all 1)), (17, .one (.dat (.int .i64) (lenI s1.2))), (18, .one (.dat (.int .i64) s8.1)), (22, .one (.dat (.int .i64) a0)), (23, .one (.dat (.int .i64) s16.1))], [(0, .seq (.sl (.int .i64)) s16.2), (1, .seq (.sl (.int .i64)) s1.2)], 2⟩ hP hN (by kernel_rfl) allNil ?_
              obtain ⟨y23, hc24, hx20⟩ := of_bind hx20
              obtain ⟨hg25, hx20⟩ := of_guard hx20
              obtain ⟨hg26, hx20⟩ := of_guard hx20
              refine HT.cut1 6 [⟨none, .no⟩, ⟨none, .no⟩, ⟨none, .call [.imm (.sl (.int .i64))] [⟨true, (.sl (.int .i64)), y23⟩] []⟩, ⟨none, .no⟩, ⟨none, .ty (.int .i64)⟩, ⟨none, .ty (.int .i64)⟩] ⟨[(31, .one (.all 4)), (30, .one (.all 3)), (29, .one (.dat (.int .i64) s16.1)), (28, .one (.all 2)), (27, .one (.dat (.sl (.int .i64)) (List.getD s1.2 (Int.toNat s8.1) ([] : List Int)))), (26, .one (.all 0)), (0, .one (.dat (.int .i64) a0)), (6, .one (.all 0)), (8, .one (.dat (.sl (.int .i64)) (List.getD s1.2 (Int.toNat s8.1) ([] : List Int)))), (9, .one (.dat (.int .i64) s16.1)), (12, .one (.dat (.int .i64) a1)), (13, .one (.dat (.int .i64) s1.1)), (16, .one (.all 1)), (17, .one (.dat (.int .i64) (lenI s1.2))), (18, .one (.dat (.int .i64) s8.1)), (22, .one (.dat (.int .i64) a0)), (23, .one (.dat (.int .i64) s16.1))], [(2, .gone), (4, .seq (.int .i64) (y23 ++ ([s16.1] : List Int))), (3, .seq (.int .i64) ([s16.1] : List Int)), (2, .seq (.int .i64) y23), (0, .seq (.sl (.int .i64)) s16.2), (1, .seq (.sl (.int .i64)) s1.2)], 5⟩ [⟨none, .ty (.sl (.int .i64))⟩, ⟨none, .ty (.sl (.int .i64))⟩, ⟨none, .no⟩] ⟨[(6, .one (.all 6)), (33, .one (.all 6)), (32, .one (.all 5)), (31, .one (.dat (.sl (.int .i64)) (y23 ++ ([s16.1] : List Int)))), (30, .one (.all 3)), (29, .one (.dat (.int .i64) s16.1)), (27, .one (.dat (.sl (.int .i64)) (List.getD s1.2 (Int.toNat s8.1) ([] : List Int)))), (26, .one (.all 0)), (0, .one (.dat (.int .i64) a0)), (6, .one (.all 0)), (8, .one (.dat (.sl (.int .i64)) (List.getD s1.2 (Int.toNat s8.1) ([] : List Int)))), (9, .one (.dat (.int .i64) s16.1)), (12, .one (.dat (.int .i64) a1)), (13, .one (.dat (.int .i64) s1.1)), (16, .one (.all 1)), (17, .one (.dat (.int .i64) (lenI s1.2))), (18, .one (.dat (.int .i64) s8.1)), (22, .one (.dat (.int .i64) a0)), (23, .one (.dat (.int .i64) s16.1))], [(0, .gone), (6, .seq (.sl (.int .i64)) (s16.2 ++ ([(y23 ++ ([s16.1] : List Int))] : List (List Int)))), (5, .seq (.sl (.int .i64)) ([(y23 ++ ([s16.1] : List Int))] : List (List Int))), (3, .seq (.int .i64) ([s16.1] : List Int)), (0, .seq (.sl (.int .i64)) s16.2), (1, .seq (.sl (.int .i64)) s1.2)], 7⟩ hP hN (by kernel_rfl) (allCons (f80_ok hc24) (allCons hg25 allNil)) (Le.cv (s := ⟨[(3, 3), (0, 0), (1, 1)], [], [], true⟩) (own := []) (ps := [(y23 ++ ([s16.1] : List Int)) = (y23 ++ ([s16.1] : List Int)), s16.1 = s16.1, (List.getD s1.2 (Int.toNat s8.1) ([] : List Int)) = (List.getD s1.2 (Int.toNat s8.1) ([] : List Int)), a0 = a0, (List.getD s1.2 (Int.toNat s8.1) ([] : List Int)) = (List.getD s1.2 (Int.toNat s8.1) ([] : List Int)), s16.1 = s16.1, a1 = a1, s1.1 = s1.1, (lenI s1.2) = (lenI s1.2), s8.1 = s8.1, a0 = a0, s16.1 = s16.1, ([s16.1] : List Int) = ([s16.1] : List Int), s16.2 = s16.2, s1.2 = s1.2]) (st' := ⟨[(31, .one (.dat (.sl (.int .i64)) (y23 ++ ([s16.1] : List Int)))), (30, .one (.all 3)), (29, .one (.dat (.int .i64) s16.1)), (27, .one (.dat (.sl (.int .i64)) (List.getD s1.2 (Int.toNat s8.1) ([] : List Int)))), (26, .one (.all 0)), (0, .one (.dat (.int .i64) a0)), (6, .one (.all 0)), (8, .one (.dat (.sl (.int .i64)) (List.getD s1.2 (Int.toNat s8.1) ([] : List Int)))), (9, .one (.dat (.int .i64) s16.1)), (12, .one (.dat (.int .i64) a1)), (13, .one (.dat (.int .i64) s1.1)), (16, .one (.all 1)), (17, .one (.dat (.int .i64) (lenI s1.2))), (18, .one (.dat (.int .i64) s8.1)), (22, .one (.dat (.int .i64) a0)), (23, .one (.dat (.int .i64) s16.1))], [(3, .seq (.int .i64) ([s16.1] : List Int)), (0, .seq (.sl (.int .i64)) s16.2), (1, .seq (.sl (.int .i64)) s1.2)], 5⟩) hO (fun _ => hF) (by kernel_rfl) ⟨rfl, rfl, rfl, rfl, rfl, rfl, rfl, rfl, rfl, rfl, rfl, rfl, rfl, rfl, rfl, trivial⟩) (by kernel_rfl) (allCons hg26 allNil) (qBlock (qThen ?_))
              have hx20 := of_some hx20
              subst hx20
              refine HT.reg (rs := [⟨none, .no⟩, ⟨none, .no⟩]) (st' := ⟨[(23, .one (.dat (.int .i64) (wadd .i64 s16.1 (1 : Int)))), (34, .one (.dat (.int .i64) (wadd .i64 s16.1 (1 : Int)))), (6, .one (.all 6)), (33, .one (.all 6)), (32, .one (.all 5)), (31, .one (.dat (.sl (.int .i64)) (y23 ++ ([s16.1] : List Int)))), (30, .one (.all 3)), (29, .one (.dat (.int .i64) s16.1)), (27, .one (.dat (.sl (.int .i64)) (List.getD s1.2 (Int.toNat s8.1) ([] : List Int)))), (26, .one (.all 0)), (0, .one (.dat (.int .i64) a0)), (6, .one (.all 0)), (8, .one (.dat (.sl (.int .i64)) (List.getD s1.2 (Int.toNat s8.1) ([] : List Int)))), (9, .one (.dat (.int .i64) s16.1)), (12, .one (.dat (.int .i64) a1)), (13, .one (.dat (.int .i64) s1.1)), (16, .one (.all 1)), (17, .one (.dat (.int .i64) (lenI s1.2))), (18, .one (.dat (.int .i64) s8.1)), (22, .one (.dat (.int .i64) a0)), (23, .one (.dat (.int .i64) s16.1))], [(0, .gone), (6, .seq (.sl (.int .i64)) (s16.2 ++ ([(y23 ++ ([s16.1] : List Int))] : List (List Int)))), (5, .seq (.sl (.int .i64)) ([(y23 ++ ([s16.1] : List Int))] : List (List Int))), (3, .seq (.int .i64) ([s16.1] : List Int)), (0, .seq (.sl (.int .i64)) s16.2), (1, .seq (.sl (.int .i64)) s1.2)], 7⟩) hP hN (by kernel_rfl) allNil (qLoopN ⟨((wadd .i64 s16.1 (1 : Int)), (s16.2 ++ ([(y23 ++ ([s16.1] : List Int))] : List (List Int)))), rfl, Le.cv (s := ⟨[(6, 0), (1, 1)], [], [], false⟩) (own := []) (ps := [a0 = a0, (List.getD s1.2 (Int.toNat s8.1) ([] : List Int)) = (List.getD s1.2 (Int.toNat s8.1) ([] : List Int)), a1 = a1, s1.1 = s1.1, (lenI s1.2) = (lenI s1.2), s8.1 = s8.1, a0 = a0, (wadd .i64 s16.1 (1 : Int)) = (wadd .i64 s16.1 (1 : Int)), (s16.2 ++ ([(y23 ++ ([s16.1] : List Int))] : List (List Int))) = (s16.2 ++ ([(y23 ++ ([s16.1] : List Int))] : List (List Int))), s1.2 = s1.2]) (st' := ⟨[(0, .one (.dat (.int .i64) a0)), (6, .one (.all 0)), (8, .one (.dat (.sl (.int .i64)) (List.getD s1.2 (Int.toNat s8.1) ([] : List Int)))), (12, .one (.dat (.int .i64) a1)), (13, .one (.dat (.int .i64) s1.1)), (16, .one (.all 1)), (17, .one (.dat (.int .i64) (lenI s1.2))), (18, .one (.dat (.int .i64) s8.1)), (22, .one (.dat (.int .i64) a0)), (23, .one (.dat (.int .i64) (wadd .i64 s16.1 (1 : Int))))], [(0, .seq (.sl (.int .i64)) (s16.2 ++ ([(y23 ++ ([s16.1] : List Int))] : List (List Int)))), (1, .seq (.sl (.int .i64)) s1.2)], 2⟩) hO (fun h => by cases h) (by kernel_rfl) ⟨rfl, rfl, rfl, rfl, rfl, rfl, rfl, rfl, rfl, rfl, trivial⟩⟩)
            · refine HT.cond0 rfl hb22 ?_
              have hx20 := of_some hx20
              subst hx20
              refine (Le.cv (s := ⟨[(0, 0), (1, 1)], [], [], false⟩) (own := []) (ps := [a0 = a0, a1 = a1, s1.1 = s1.1, (lenI s1.2) = (lenI s1.2), s8.1 = s8.1, s16.2 = s16.2, s1.2 = s1.2]) (st' := ⟨[(0, .one (.dat (.int .i64) a0)), (6, .one (.all 0)), (12, .one (.dat (.int .i64) a1)), (13, .one (.dat (.int .i64) s1.1)), (16, .one (.all 1)), (17, .one (.dat (.int .i64) (lenI s1.2))), (18, .one (.dat (.int .i64) s8.1))], [(0, .seq (.sl (.int .i64)) s16.2), (1, .seq (.sl (.int .i64)) s1.2)], 2⟩) hO (fun h => by cases h) (by kernel_rfl) ⟨rfl, rfl, rfl, rfl, rfl, rfl, rfl, trivial⟩).ht ?_
              exact HT.exit (qThenE (qLoopE (hk21 s16.2 rfl)))
        · refine HT.cond0 rfl hb14 ?_
          have hx12 := of_some hx12
          subst hx12
          refine (Le.cv (s := ⟨[(0, 0)], [], [], false⟩) (own := []) (ps := [a0 = a0, a1 = a1, s1.1 = s1.1, s8.2 = s8.2]) (st' := ⟨[(0, .one (.dat (.int .i64) a0)), (6, .one (.all 0)), (12, .one (.dat (.int .i64) a1)), (13, .one (.dat (.int .i64) s1.1))], [(0, .seq (.sl (.int .i64)) s8.2)], 1⟩) hO (fun h => by cases h) (by kernel_rfl) ⟨rfl, rfl, rfl, rfl, trivial⟩).ht ?_
          exact HT.exit (qThenE (qLoopE (hk13 s8.2 rfl)))
    · refine HT.cond0 rfl hb7 ?_
      have hx5 := of_some hx5
      subst hx5
      refine (Le.cv (s := ⟨[(0, 0)], [], [], false⟩) (own := []) (ps := [s1.2 = s1.2]) (st' := ⟨[(5, .one (.all 0))], [(0, .seq (.sl (.int .i64)) s1.2)], 1⟩) hO (fun h => by cases h) (by kernel_rfl) ⟨rfl, trivial⟩).ht ?_
      exact HT.exit (qThenE (qLoopE (hk6 s1.2 rfl)))

noncomputable def impl_IsFinite (a0 : Nat) : Option (Bool) :=
  some (feq .f32 (fop .sub .f32 a0 a0) (0 : Nat))

theorem f118_ok {a0 : Nat} {r : Bool} (hr : impl_IsFinite a0 = some r) : CallOK Try.prog 118 [.imm (.flt .f32) a0] [⟨false, .bool, r⟩] [] := by
  unfold impl_IsFinite at hr
  refine CallOK.of_body (ts := [(false, .bool)]) Try.func118 rfl (by kernel_rfl) (Nat.le_of_ble_eq_true (by kernel_rfl)) fun cx hP hN hO hF => ?_
  have hO : cx.own.map Prod.fst = [] := hO
  have hF := hF rfl
  show HT cx ⟨[(0, .one (.dat (.flt .f32) a0))], [], 0⟩ _ _
  refine HT.reg1 [0] [⟨none, .no⟩] ⟨[(0, .one (.dat (.flt .f32) a0))], [], 0⟩ hP hN (by kernel_rfl) allNil ?_
  refine HT.reg1 [2] [⟨none, .no⟩, ⟨none, .no⟩, ⟨none, .no⟩, ⟨none, .no⟩, ⟨none, .no⟩] ⟨[(2, .one (.dat .bool (feq .f32 (fop .sub .f32 a0 a0) (0 : Nat))))], [], 0⟩ hP hN (by kernel_rfl) allNil ?_
  have hr := of_some hr
  subst hr
  exact HT.ret ⟨[.one (.dat .bool (feq .f32 (fop .sub .f32 a0 a0) (0 : Nat)))], [], [], by kernel_rfl, by kernel_rfl, rfl, by kernel_rfl, by kernel_rfl, trivial⟩

noncomputable def impl_finite (a0 : Nat) : Option (Nat × Bool) :=
  (impl_IsFinite a0).bind fun y1 =>
  bif (!y1) then
    some ((0 : Nat), false)
  else
    some (a0, true)

theorem f73_ok {a0 : Nat} {r : Nat × Bool} (hr : impl_finite a0 = some r) : CallOK Try.prog 73 [.imm (.flt .f32) a0] [⟨false, (.flt .f32), r.1⟩, ⟨false, .bool, r.2⟩] [] := by
  unfold impl_finite at hr
  refine CallOK.of_body (ts := [(false, (.flt .f32)), (false, .bool)]) Try.func73 rfl (by kernel_rfl) (Nat.le_of_ble_eq_true (by kernel_rfl)) fun cx hP hN hO hF => ?_
  have hO : cx.own.map Prod.fst = [] := hO
  have hF := hF rfl
  show HT cx ⟨[(0, .one (.dat (.flt .f32) a0))], [], 0⟩ _ _
  refine HT.reg1 [0] [⟨none, .no⟩, ⟨none, .no⟩] ⟨[(0, .one (.dat (.flt .f32) a0))], [], 0⟩ hP hN (by kernel_rfl) allNil ?_
  refine HT.seq ?_
  obtain ⟨y1, hc2, hr⟩ := of_bind hr
  refine HT.reg1 [0, 6] [⟨none, .no⟩, ⟨none, .call [.imm (.flt .f32)] [⟨false, .bool, y1⟩] []⟩, ⟨none, .no⟩] ⟨[(0, .one (.dat (.flt .f32) a0)), (6, .one (.dat .bool (!y1)))], [], 0⟩ hP hN (by kernel_rfl) (allCons (f118_ok hc2) allNil) ?_
  rcases of_bif hr with ⟨hb3, hr⟩ | ⟨hb3, hr⟩
  · refine HT.cond1 rfl hb3 ?_
    refine HT.reg1 [2, 3] [⟨none, .no⟩, ⟨none, .no⟩] ⟨[(2, .one (.dat (.flt .f32) (0 : Nat))), (3, .one (.dat .bool false))], [], 0⟩ hP hN (by kernel_rfl) allNil ?_
    have hr := of_some hr
    subst hr
    exact HT.ret (qThenR ⟨[.one (.dat (.flt .f32) (0 : Nat)), .one (.dat .bool false)], [], [], by kernel_rfl, by kernel_rfl, rfl, by kernel_rfl, by kernel_rfl, trivial⟩)
  · refine HT.cond0 rfl hb3 ?_
    refine HT.skip (qThen ?_)
    refine HT.reg1 [2, 3] [⟨none, .no⟩, ⟨none, .no⟩, ⟨none, .no⟩] ⟨[(2, .one (.dat (.flt .f32) a0)), (3, .one (.dat .bool true))], [], 0⟩ hP hN (by kernel_rfl) allNil ?_
    have hr := of_some hr
    subst hr
    exact HT.ret ⟨[.one (.dat (.flt .f32) a0), .one (.dat .bool true)], [], [], by kernel_rfl, by kernel_rfl, rfl, by kernel_rfl, by kernel_rfl, trivial⟩

theorem f99_ok {xs y : List Nat} (h : slices_Clone xs = some y) : CallOK Try.prog 99 [.imm (.sl (.flt .f32)) xs] [⟨true, (.sl (.flt .f32)), y⟩] [] := by
  obtain ⟨hg, h⟩ := of_guard h
  have h := of_some h
  subst h
  refine CallOK.of_body (ts := [(true, (.sl (.flt .f32)))]) Try.func99 rfl (by kernel_rfl) (Nat.le_of_ble_eq_true (by kernel_rfl)) fun cx hP hN hO hF => ?_
  show HT cx ⟨[(0, .one (.dat (.sl (.flt .f32)) xs))], [], 0⟩ _ _
  refine HT.reg1 [0] [⟨none, .no⟩] ⟨[(0, .one (.dat (.sl (.flt .f32)) xs))], [], 0⟩ hP hN (by kernel_rfl) allNil ?_
  refine HT.seq ?_
  refine HT.isNil (t3 := 3) (t4 := 4) (v := .one (.dat (.sl (.flt .f32)) xs)) (t := (.flt .f32)) (xs := xs) (st1 := ⟨[(3, .one (.dat (.sl (.flt .f32)) xs)), (0, .one (.dat (.sl (.flt .f32)) xs))], [], 0⟩) hP hN (by kernel_rfl) rfl rfl rfl rfl (e := 26) (by kernel_rfl) rfl rfl (fun b hb => ?_)
  show HT cx ⟨[(4, .one (.dat .bool b)), (3, .one (.dat (.sl (.flt .f32)) xs)), (0, .one (.dat (.sl (.flt .f32)) xs))], [], 0⟩ _ _
  cases b with
  | true =>
    have e := hb rfl
    subst e
    refine HT.cond1 rfl rfl ?_
    refine HT.reg1 [2] [⟨none, .no⟩] ⟨[(2, .one .nilS)], [], 0⟩ hP hN (by kernel_rfl) allNil ?_
    exact HT.ret (qThenR ⟨[.one .nilS], [], [], by kernel_rfl, by kernel_rfl, rfl, by kernel_rfl, by kernel_rfl, trivial⟩)
  | false =>
    refine HT.cond0 rfl rfl ?_
    refine HT.skip (qThen ?_)
    refine HT.reg1 [2] [⟨none, .no⟩, ⟨none, .no⟩, ⟨none, .ty (.flt .f32)⟩, ⟨none, .no⟩] ⟨[(2, .one (.all 0))], [(0, .seq (.flt .f32) xs)], 1⟩ hP hN (by kernel_rfl) (allCons hg allNil) ?_
    exact HT.ret ⟨[.one (.all 0)], [0], [], by kernel_rfl, by kernel_rfl, rfl, by kernel_rfl, by kernel_rfl, trivial⟩

noncomputable def impl_Model_show (a0 : Int × Int × List Nat × List Nat × List Nat) (a1 : Int) (a2 : Int) : Option (Nat) :=
  guardP ((0 : Int) ≤ (wadd .i64 (wmul .i64 a1 a0.2.1) a2) ∧ (wadd .i64 (wmul .i64 a1 a0.2.1) a2) < lenI a0.2.2.2.2) (
    some (List.getD a0.2.2.2.2 (Int.toNat (wadd .i64 (wmul .i64 a1 a0.2.1) a2)) (0 : Nat)))

theorem f95_ok {a0 : Int × Int × List Nat × List Nat × List Nat} {a1 : Int} {a2 : Int} {r : Nat} (hr : impl_Model_show a0 a1 a2 = some r) : CallOK Try.prog 95 [.imm (.st (.pair (.int .i64) (.pair (.int .i64) (.pair (.sl (.flt .f32)) (.pair (.sl (.flt .f32)) (.sl (.flt .f32))))))) a0, .imm (.int .i64) a1, .imm (.int .i64) a2] [⟨false, (.flt .f32), r⟩] [] := by
  unfold impl_Model_show at hr
  refine CallOK.of_body (ts := [(false, (.flt .f32))]) Try.func95 rfl (by kernel_rfl) (Nat.le_of_ble_eq_true (by kernel_rfl)) fun cx hP hN hO hF => ?_
  have hO : cx.own.map Prod.fst = [] := hO
  have hF := hF rfl
  show HT cx ⟨[(0, .agg [.dat (.int .i64) a0.1, .dat (.int .i64) a0.2.1, .dat (.sl (.flt .f32)) a0.2.2.1, .dat (.sl (.flt .f32)) a0.2.2.2.1, .dat (.sl (.flt .f32)) a0.2.2.2.2]), (1, .one (.dat (.int .i64) a1)), (2, .one (.dat (.int .i64) a2))], [], 0⟩ _ _
  refine HT.reg1 [1, 2, 3] [⟨none, .no⟩, ⟨none, .no⟩] ⟨[(1, .one (.dat (.int .i64) a1)), (2, .one (.dat (.int .i64) a2)), (3, .one (.ptr 0 0))], [(0, .box [.dat (.int .i64) a0.1, .dat (.int .i64) a0.2.1, .dat (.sl (.flt .f32)) a0.2.2.1, .dat (.sl (.flt .f32)) a0.2.2.2.1, .dat (.sl (.flt .f32)) a0.2.2.2.2])], 1⟩ hP hN (by kernel_rfl) allNil ?_
  obtain ⟨hg1, hr⟩ := of_guard hr
  refine HT.reg1 [6] [⟨none, .no⟩, ⟨none, .no⟩, ⟨none, .no⟩, ⟨none, .no⟩, ⟨none, .no⟩, ⟨none, .no⟩, ⟨none, .no⟩, ⟨none, .no⟩, ⟨none, .no⟩, ⟨none, .no⟩, ⟨none, .no⟩] ⟨[(6, .one (.dat (.flt .f32) (List.getD a0.2.2.2.2 (Int.toNat (wadd .i64 (wmul .i64 a1 a0.2.1) a2)) (0 : Nat))))], [(0, .box [.dat (.int .i64) a0.1, .dat (.int .i64) a0.2.1, .dat (.sl (.flt .f32)) a0.2.2.1, .dat (.sl (.flt .f32)) a0.2.2.2.1, .dat (.sl (.flt .f32)) a0.2.2.2.2])], 1⟩ hP hN (by kernel_rfl) (allCons hg1 allNil) ?_
  have hr := of_some hr
  subst hr
  exact HT.ret ⟨[.one (.dat (.flt .f32) (List.getD a0.2.2.2.2 (Int.toNat (wadd .i64 (wmul .i64 a1 a0.2.1) a2)) (0 : Nat)))], [], [], by kernel_rfl, by kernel_rfl, rfl, by kernel_rfl, by kernel_rfl, trivial⟩

noncomputable def impl_Model_step (a0 : Int × Int × List Nat × List Nat × List Nat) (a1 : Int) (a2 : Int) : Option (Nat) :=
  guardP ((0 : Int) ≤ (wadd .i64 (wmul .i64 a1 a0.1) a2) ∧ (wadd .i64 (wmul .i64 a1 a0.1) a2) < lenI a0.2.2.2.1) (
    some (List.getD a0.2.2.2.1 (Int.toNat (wadd .i64 (wmul .i64 a1 a0.1) a2)) (0 : Nat)))

theorem f129_ok {a0 : Int × Int × List Nat × List Nat × List Nat} {a1 : Int} {a2 : Int} {r : Nat} (hr : impl_Model_step a0 a1 a2 = some r) : CallOK Try.prog 129 [.imm (.st (.pair (.int .i64) (.pair (.int .i64) (.pair (.sl (.flt .f32)) (.pair (.sl (.flt .f32)) (.sl (.flt .f32))))))) a0, .imm (.int .i64) a1, .imm (.int .i64) a2] [⟨false, (.flt .f32), r⟩] [] := by
  unfold impl_Model_step at hr
  refine CallOK.of_body (ts := [(false, (.flt .f32))]) Try.func129 rfl (by kernel_rfl) (Nat.le_of_ble_eq_true (by kernel_rfl)) fun cx hP hN hO hF => ?_
  have hO : cx.own.map Prod.fst = [] := hO
  have hF := hF rfl
  show HT cx ⟨[(0, .agg [.dat (.int .i64) a0.1, .dat (.int .i64) a0.2.1, .dat (.sl (.flt .f32)) a0.2.2.1, .dat (.sl (.flt .f32)) a0.2.2.2.1, .dat (.sl (.flt .f32)) a0.2.2.2.2]), (1, .one (.dat (.int .i64) a1)), (2, .one (.dat (.int .i64) a2))], [], 0⟩ _ _
  refine HT.reg1 [1, 2, 3] [⟨none, .no⟩, ⟨none, .no⟩] ⟨[(1, .one (.dat (.int .i64) a1)), (2, .one (.dat (.int .i64) a2)), (3, .one (.ptr 0 0))], [(0, .box [.dat (.int .i64) a0.1, .dat (.int .i64) a0.2.1, .dat (.sl (.flt .f32)) a0.2.2.1, .dat (.sl (.flt .f32)) a0.2.2.2.1, .dat (.sl (.flt .f32)) a0.2.2.2.2])], 1⟩ hP hN (by kernel_rfl) allNil ?_
  obtain ⟨hg1, hr⟩ := of_guard hr
  refine HT.reg1 [6] [⟨none, .no⟩, ⟨none, .no⟩, ⟨none, .no⟩, ⟨none, .no⟩, ⟨none, .no⟩, ⟨none, .no⟩, ⟨none, .no⟩, ⟨none, .no⟩, ⟨none, .no⟩, ⟨none, .no⟩, ⟨none, .no⟩] ⟨[(6, .one (.dat (.flt .f32) (List.getD a0.2.2.2.1 (Int.toNat (wadd .i64 (wmul .i64 a1 a0.1) a2)) (0 : Nat))))], [(0, .box [.dat (.int .i64) a0.1, .dat (.int .i64) a0.2.1, .dat (.sl (.flt .f32)) a0.2.2.1, .dat (.sl (.flt .f32)) a0.2.2.2.1, .dat (.sl (.flt .f32)) a0.2.2.2.2])], 1⟩ hP hN (by kernel_rfl) (allCons hg1 allNil) ?_
  have hr := of_some hr
  subst hr
  exact HT.ret ⟨[.one (.dat (.flt .f32) (List.getD a0.2.2.2.1 (Int.toNat (wadd .i64 (wmul .i64 a1 a0.1) a2)) (0 : Nat)))], [], [], by kernel_rfl, by kernel_rfl, rfl, by kernel_rfl, by kernel_rfl, trivial⟩

noncomputable def impl_Model_nextRow_B1 (a0 : Int × Int × List Nat × List Nat × List Nat) (a1 : List Nat) (a2 : Int) (s2 : Int × List Nat) (s9 : Int × List Nat) : Option ((Int × List Nat) ⊕ (List Nat)) :=
  bif (decide (s9.1 < a0.1)) then
    guardP ((0 : Int) ≤ s2.1 ∧ s2.1 < lenI s9.2) (
      guardP ((0 : Int) ≤ s9.1 ∧ s9.1 < lenI a1) (
        (impl_Model_show (a0.1, a0.2.1, a0.2.2.1, a0.2.2.2.1, a0.2.2.2.2) s9.1 a2).bind fun y18 =>
        (impl_Model_step (a0.1, a0.2.1, a0.2.2.1, a0.2.2.2.1, a0.2.2.2.2) s9.1 s2.1).bind fun y20 =>
        some (.inl ((wadd .i64 s9.1 (1 : Int)), (List.set s9.2 (Int.toNat s2.1) (fop .add .f32 (List.getD s9.2 (Int.toNat s2.1) (0 : Nat)) (fop .mul .f32 (fop .mul .f32 (List.getD a1 (Int.toNat s9.1) (0 : Nat)) y18) y20)))))))
  else
    some (.inr s9.2)

noncomputable def impl_Model_nextRow_B2 (a0 : Int × Int × List Nat × List Nat × List Nat) (a1 : List Nat) (a2 : Int) (s2 : Int × List Nat) : Option ((Int × List Nat) ⊕ (List Nat)) :=
  bif (decide (s2.1 < a0.1)) then
    (rounds (impl_Model_nextRow_B1 a0 a1 a2 s2) ((0 : Int), s2.2)).bind fun r11 =>
    some (.inl ((wadd .i64 s2.1 (1 : Int)), r11))
  else
    some (.inr s2.2)

noncomputable def impl_Model_nextRow (a0 : Int × Int × List Nat × List Nat × List Nat) (a1 : List Nat) (a2 : Int) : Option (List Nat) :=
  guardP ((0 : Int) ≤ a0.1 ∧ a0.1 ≤ 4294967296) (
    (rounds (impl_Model_nextRow_B2 a0 a1 a2) ((0 : Int), (List.replicate (Int.toNat a0.1) (0 : Nat)))).bind fun r4 =>
    some r4)

theorem f100_ok {a0 : Int × Int × List Nat × List Nat × List Nat} {a1 : List Nat} {a2 : Int} {r : List Nat} (hr : impl_Model_nextRow a0 a1 a2 = some r) : CallOK Try.prog 100 [.imm (.st (.pair (.int .i64) (.pair (.int .i64) (.pair (.sl (.flt .f32)) (.pair (.sl (.flt .f32)) (.sl (.flt .f32))))))) a0, .imm (.sl (.flt .f32)) a1, .imm (.int .i64) a2] [⟨true, (.sl (.flt .f32)), r⟩] [] := by
  unfold impl_Model_nextRow at hr
  refine CallOK.of_body (ts := [(true, (.sl (.flt .f32)))]) Try.func100 rfl (by kernel_rfl) (Nat.le_of_ble_eq_true (by kernel_rfl)) fun cx hP hN hO hF => ?_
  have hO : cx.own.map Prod.fst = [] := hO
  have hF := hF rfl
  show HT cx ⟨[(0, .agg [.dat (.int .i64) a0.1, .dat (.int .i64) a0.2.1, .dat (.sl (.flt .f32)) a0.2.2.1, .dat (.sl (.flt .f32)) a0.2.2.2.1, .dat (.sl (.flt .f32)) a0.2.2.2.2]), (1, .one (.dat (.sl (.flt .f32)) a1)), (2, .one (.dat (.int .i64) a2))], [], 0⟩ _ _
  refine HT.reg1 [1, 2, 3] [⟨none, .no⟩, ⟨none, .no⟩] ⟨[(1, .one (.dat (.sl (.flt .f32)) a1)), (2, .one (.dat (.int .i64) a2)), (3, .one (.ptr 0 0))], [(0, .box [.dat (.int .i64) a0.1, .dat (.int .i64) a0.2.1, .dat (.sl (.flt .f32)) a0.2.2.1, .dat (.sl (.flt .f32)) a0.2.2.2.1, .dat (.sl (.flt .f32)) a0.2.2.2.2])], 1⟩ hP hN (by kernel_rfl) allNil ?_
  obtain ⟨hg1, hr⟩ := of_guard hr
  refine HT.reg1 [1, 2, 3, 7] [⟨none, .no⟩, ⟨none, .no⟩, ⟨none, .ty (.flt .f32)⟩, ⟨none, .no⟩] ⟨[(1, .one (.dat (.sl (.flt .f32)) a1)), (2, .one (.dat (.int .i64) a2)), (3, .one (.ptr 0 0)), (7, .one (.all 1))], [(1, .seq (.flt .f32) (List.replicate (Int.toNat a0.1) (0 : Nat))), (0, .box [.dat (.int .i64) a0.1, .dat (.int .i64) a0.2.1, .dat (.sl (.flt .f32)) a0.2.2.1, .dat (.sl (.flt .f32)) a0.2.2.2.1, .dat (.sl (.flt .f32)) a0.2.2.2.2])], 2⟩ hP hN (by kernel_rfl) (allCons (show (0 : Int) ≤ a0.1 ∧ a0.1 ≤ a0.1 ∧ a0.1 ≤ 4294967296 from ⟨hg1.1, Int.le_refl _, hg1.2⟩) allNil) ?_
  refine HT.seq ?_
  refine HT.reg1 [1, 2, 3, 7, 14, 15] [⟨none, .no⟩, ⟨none, .no⟩, ⟨none, .no⟩] ⟨[(1, .one (.dat (.sl (.flt .f32)) a1)), (2, .one (.dat (.int .i64) a2)), (3, .one (.ptr 0 0)), (7, .one (.all 1)), (14, .one (.dat (.int .i64) a0.1)), (15, .one (.dat (.int .i64) (0 : Int)))], [(1, .seq (.flt .f32) (List.replicate (Int.toNat a0.1) (0 : Nat))), (0, .box [.dat (.int .i64) a0.1, .dat (.int .i64) a0.2.1, .dat (.sl (.flt .f32)) a0.2.2.1, .dat (.sl (.flt .f32)) a0.2.2.2.1, .dat (.sl (.flt .f32)) a0.2.2.2.2])], 2⟩ hP hN (by kernel_rfl) allNil ?_
  refine HT.block ?_
  obtain ⟨r3, hL23, hr⟩ := of_bind hr
  refine (Le.cv (s := ⟨[(0, 0), (1, 1)], [], [], false⟩) (own := []) (ps := [a1 = a1, a2 = a2, a0.1 = a0.1, (0 : Int) = (0 : Int), a0.1 = a0.1, a0.2.1 = a0.2.1, a0.2.2.1 = a0.2.2.1, a0.2.2.2.1 = a0.2.2.2.1, a0.2.2.2.2 = a0.2.2.2.2, (List.replicate (Int.toNat a0.1) (0 : Nat)) = (List.replicate (Int.toNat a0.1) (0 : Nat))]) (st' := ⟨[(1, .one (.dat (.sl (.flt .f32)) a1)), (2, .one (.dat (.int .i64) a2)), (3, .one (.ptr 0 0)), (7, .one (.all 1)), (14, .one (.dat (.int .i64) a0.1)), (15, .one (.dat (.int .i64) (0 : Int)))], [(0, .box [.dat (.int .i64) a0.1, .dat (.int .i64) a0.2.1, .dat (.sl (.flt .f32)) a0.2.2.1, .dat (.sl (.flt .f32)) a0.2.2.2.1, .dat (.sl (.flt .f32)) a0.2.2.2.2]), (1, .seq (.flt .f32) (List.replicate (Int.toNat a0.1) (0 : Nat)))], 2⟩) hO (fun h => by cases h) (by kernel_rfl) ⟨rfl, rfl, rfl, rfl, rfl, rfl, rfl, rfl, rfl, rfl, trivial⟩).ht ?_
  refine HT.loopE (s := ((0 : Int), (List.replicate (Int.toNat a0.1) (0 : Nat)))) (fun (s2 : Int × List Nat) => ⟨[(1, .one (.dat (.sl (.flt .f32)) a1)), (2, .one (.dat (.int .i64) a2)), (3, .one (.ptr 0 0)), (7, .one (.all 1)), (14, .one (.dat (.int .i64) a0.1)), (15, .one (.dat (.int .i64) s2.1))], [(0, .box [.dat (.int .i64) a0.1, .dat (.int .i64) a0.2.1, .dat (.sl (.flt .f32)) a0.2.2.1, .dat (.sl (.flt .f32)) a0.2.2.2.1, .dat (.sl (.flt .f32)) a0.2.2.2.2]), (1, .seq (.flt .f32) s2.2)], 2⟩) (fun (r4 : List Nat) => (.exit 0, ⟨[(7, .one (.all 0))], [(0, .seq (.flt .f32) r4)], 1⟩)) hL23 ?_ (fun s2 x5 hx6 hk7 => ?_)
  · refine (qBlockX (qThen ?_))
    refine HT.reg1 [6] [⟨none, .no⟩, ⟨none, .no⟩] ⟨[(6, .one (.all 0))], [(0, .seq (.flt .f32) r3)], 1⟩ hP hN (by kernel_rfl) allNil ?_
    have hr := of_some hr
    subst hr
    exact HT.ret ⟨[.one (.all 0)], [0], [], by kernel_rfl, by kernel_rfl, rfl, by kernel_rfl, by kernel_rfl, trivial⟩
  · refine HT.reg1 [1, 2, 3, 7, 14, 15, 16] [⟨none, .no⟩] ⟨[(1, .one (.dat (.sl (.flt .f32)) a1)), (2, .one (.dat (.int .i64) a2)), (3, .one (.ptr 0 0)), (7, .one (.all 1)), (14, .one (.dat (.int .i64) a0.1)), (15, .one (.dat (.int .i64) s2.1)), (16, .one (.dat .bool (decide (s2.1 < a0.1))))], [(0, .box [.dat (.int .i64) a0.1, .dat (.int .i64) a0.2.1, .dat (.sl (.flt .f32)) a0.2.2.1, .dat (.sl (.flt .f32)) a0.2.2.2.1, .dat (.sl (.flt .f32)) a0.2.2.2.2]), (1, .seq (.flt .f32) s2.2)], 2⟩ hP hN (by kernel_rfl) allNil ?_
    refine HT.seq ?_
    rcases of_bif hx6 with ⟨hb8, hx6⟩ | ⟨hb8, hx6⟩
    · refine HT.cond1 rfl hb8 ?_
      refine HT.skip (qThen ?_)
      refine HT.seq ?_
      refine HT.block ?_
      refine HT.reg1 [1, 2, 3, 7, 8, 14, 15] [⟨none, .no⟩, ⟨none, .no⟩] ⟨[(1, .one (.dat (.sl (.flt .f32)) a1)), (2, .one (.dat (.int .i64) a2)), (3, .one (.ptr 0 0)), (7, .one (.all 1)), (8, .one (.dat (.int .i64) s2.1)), (14, .one (.dat (.int .i64) a0.1)), (15, .one (.dat (.int .i64) s2.1))], [(0, .box [.dat (.int .i64) a0.1, .dat (.int .i64) a0.2.1, .dat (.sl (.flt .f32)) a0.2.2.1, .dat (.sl (.flt .f32)) a0.2.2.2.1, .dat (.sl (.flt .f32)) a0.2.2.2.2]), (1, .seq (.flt .f32) s2.2)], 2⟩ hP hN (by kernel_rfl) allNil ?_
      refine HT.reg1 [1, 2, 3, 7, 8, 14, 15, 19, 20] [⟨none, .no⟩, ⟨none, .no⟩, ⟨none, .no⟩] ⟨[(1, .one (.dat (.sl (.flt .f32)) a1)), (2, .one (.dat (.int .i64) a2)), (3, .one (.ptr 0 0)), (7, .one (.all 1)), (8, .one (.dat (.int .i64) s2.1)), (14, .one (.dat (.int .i64) a0.1)), (15, .one (.dat (.int .i64) s2.1)), (19, .one (.dat (.int .i64) a0.1)), (20, .one (.dat (.int .i64) (0 : Int)))], [(0, .box [.dat (.int .i64) a0.1, .dat (.int .i64) a0.2.1, .dat (.sl (.flt .f32)) a0.2.2.1, .dat (.sl (.flt .f32)) a0.2.2.2.1, .dat (.sl (.flt .f32)) a0.2.2.2.2]), (1, .seq (.flt .f32) s2.2)], 2⟩ hP hN (by kernel_rfl) allNil ?_
      refine HT.block ?_
      obtain ⟨r10, hL22, hx6⟩ := of_bind hx6
      refine (Le.cv (s := ⟨[(0, 0), (1, 1)], [], [], false⟩) (own := []) (ps := [a1 = a1, a2 = a2, s2.1 = s2.1, a0.1 = a0.1, s2.1 = s2.1, a0.1 = a0.1, (0 : Int) = (0 : Int), a0.1 = a0.1, a0.2.1 = a0.2.1, a0.2.2.1 = a0.2.2.1, a0.2.2.2.1 = a0.2.2.2.1, a0.2.2.2.2 = a0.2.2.2.2, s2.2 = s2.2]) (st' := ⟨[(1, .one (.dat (.sl (.flt .f32)) a1)), (2, .one (.dat (.int .i64) a2)), (3, .one (.ptr 0 0)), (7, .one (.all 1)), (8, .one (.dat (.int .i64) s2.1)), (14, .one (.dat (.int .i64) a0.1)), (15, .one (.dat (.int .i64) s2.1)), (19, .one (.dat (.int .i64) a0.1)), (20, .one (.dat (.int .i64) (0 : Int)))], [(0, .box [.dat (.int .i64) a0.1, .dat (.int .i64) a0.2.1, .dat (.sl (.flt .f32)) a0.2.2.1, .dat (.sl (.flt .f32)) a0.2.2.2.1, .dat (.sl (.flt .f32)) a0.2.2.2.2]), (1, .seq (.flt .f32) s2.2)], 2⟩) hO (fun h => by cases h) (by kernel_rfl) ⟨rfl, rfl, rfl, rfl, rfl, rfl, rfl, rfl, rfl, rfl, rfl, rfl, rfl, trivial⟩).ht ?_
      refine HT.loopE (s := ((0 : Int), s2.2)) (fun (s9 : Int × List Nat) => ⟨[(1, .one (.dat (.sl (.flt .f32)) a1)), (2, .one (.dat (.int .i64) a2)), (3, .one (.ptr 0 0)), (7, .one (.all 1)), (8, .one (.dat (.int .i64) s2.1)), (14, .one (.dat (.int .i64) a0.1)), (15, .one (.dat (.int .i64) s2.1)), (19, .one (.dat (.int .i64) a0.1)), (20, .one (.dat (.int .i64) s9.1))], [(0, .box [.dat (.int .i64) a0.1, .dat (.int .i64) a0.2.1, .dat (.sl (.flt .f32)) a0.2.2.1, .dat (.sl (.flt .f32)) a0.2.2.2.1, .dat (.sl (.flt .f32)) a0.2.2.2.2]), (1, .seq (.flt .f32) s9.2)], 2⟩) (fun (r11 : List Nat) => (.exit 2, ⟨[(1, .one (.dat (.sl (.flt .f32)) a1)), (2, .one (.dat (.int .i64) a2)), (3, .one (.ptr 0 0)), (7, .one (.all 1)), (14, .one (.dat (.int .i64) a0.1)), (15, .one (.dat (.int .i64) s2.1))], [(0, .box [.dat (.int .i64) a0.1, .dat (.int .i64) a0.2.1, .dat (.sl (.flt .f32)) a0.2.2.1, .dat (.sl (.flt .f32)) a0.2.2.2.1, .dat (.sl (.flt .f32)) a0.2.2.2.2]), (1, .seq (.flt .f32) r11)], 2⟩)) hL22 ?_ (fun s9 x12 hx13 hk14 => ?_)
      · refine (qBlockX (qBlock (qThen ?_)))
        have hx6 := of_some hx6
        subst hx6
        refine HT.reg (rs := [⟨none, .no⟩, ⟨none, .no⟩]) (st' := ⟨[(15, .one (.dat (.int .i64) (wadd .i64 s2.1 (1 : Int)))), (46, .one (.dat (.int .i64) (wadd .i64 s2.1 (1 : Int)))), (1, .one (.dat (.sl (.flt .f32)) a1)), (2, .one (.dat (.int .i64) a2)), (3, .one (.ptr 0 0)), (7, .one (.all 1)), (14, .one (.dat (.int .i64) a0.1)), (15, .one (.dat (.int .i64) s2.1))], [(0, .box [.dat (.int .i64) a0.1, .dat (.int .i64) a0.2.1, .dat (.sl (.flt .f32)) a0.2.2.1, .dat (.sl (.flt .f32)) a0.2.2.2.1, .dat (.sl (.flt .f32)) a0.2.2.2.2]), (1, .seq (.flt .f32) r10)], 2⟩) hP hN (by kernel_rfl) allNil (qLoopN ⟨((wadd .i64 s2.1 (1 : Int)), r10), rfl, Le.cv (s := ⟨[(0, 0), (1, 1)], [], [], false⟩) (own := []) (ps := [a1 = a1, a2 = a2, a0.1 = a0.1, (wadd .i64 s2.1 (1 : Int)) = (wadd .i64 s2.1 (1 : Int)), a0.1 = a0.1, a0.2.1 = a0.2.1, a0.2.2.1 = a0.2.2.1, a0.2.2.2.1 = a0.2.2.2.1, a0.2.2.2.2 = a0.2.2.2.2, r10 = r10]) (st' := ⟨[(1, .one (.dat (.sl (.flt .f32)) a1)), (2, .one (.dat (.int .i64) a2)), (3, .one (.ptr 0 0)), (7, .one (.all 1)), (14, .one (.dat (.int .i64) a0.1)), (15, .one (.dat (.int .i64) (wadd .i64 s2.1 (1 : Int))))], [(0, .box [.dat (.int .i64) a0.1, .dat (.int .i64) a0.2.1, .dat (.sl (.flt .f32)) a0.2.2.1, .dat (.sl (.flt .f32)) a0.2.2.2.1, .dat (.sl (.flt .f32)) a0.2.2.2.2]), (1, .seq (.flt .f32) r10)], 2⟩) hO (fun h => by cases h) (by kernel_rfl) ⟨rfl, rfl, rfl, rfl, rfl, rfl, rfl, rfl, rfl, rfl, trivial⟩⟩)
      · refine HT.reg1 [1, 2, 3, 7, 8, 14, 15, 19, 20, 21] [⟨none, .no⟩] ⟨[(1, .one (.dat (.sl (.flt .f32)) a1)), (2, .one (.dat (.int .i64) a2)), (3, .one (.ptr 0 0)), (7, .one (.all 1)), (8, .one (.dat (.int .i64) s2.1)), (14, .one (.dat (.int .i64) a0.1)), (15, .one (.dat (.int .i64) s2.1)), (19, .one (.dat (.int .i64) a0.1)), (20, .one (.dat (.int .i64) s9.1)), (21, .one (.dat .bool (decide (s9.1 < a0.1))))], [(0, .box [.dat (.int .i64) a0.1, .dat (.int .i64) a0.2.1, .dat (.sl (.flt .f32)) a0.2.2.1, .dat (.sl (.flt .f32)) a0.2.2.2.1, .dat (.sl (.flt .f32)) a0.2.2.2.2]), (1, .seq (.flt .f32) s9.2)], 2⟩ hP hN (by kernel_rfl) allNil ?_
        refine HT.seq ?_
        rcases of_bif hx13 with ⟨hb15, hx13⟩ | ⟨hb15, hx13⟩
        · refine HT.cond1 rfl hb15 ?_
          refine HT.skip (qThen ?_)
          refine HT.seq ?_
          refine HT.block ?_
          refine HT.reg1 [1, 2, 3, 7, 8, 9, 14, 15, 19, 20] [⟨none, .no⟩, ⟨none, .no⟩] ⟨[(1, .one (.dat (.sl (.flt .f32)) a1)), (2, .one (.dat (.int .i64) a2)), (3, .one (.ptr 0 0)), (7, .one (.all 1)), (8, .one (.dat (.int .i64) s2.1)), (9, .one (.dat (.int .i64) s9.1)), (14, .one (.dat (.int .i64) a0.1)), (15, .one (.dat (.int .i64) s2.1)), (19, .one (.dat (.int .i64) a0.1)), (20, .one (.dat (.int .i64) s9.1))], [(0, .box [.dat (.int .i64) a0.1, .dat (.int .i64) a0.2.1, .dat (.sl (.flt .f32)) a0.2.2.1, .dat (.sl (.flt .f32)) a0.2.2.2.1, .dat (.sl (.flt .f32)) a0.2.2.2.2]), (1, .seq (.flt .f32) s9.2)], 2⟩ hP hN (by kernel_rfl) allNil ?_
          obtain ⟨hg16, hx13⟩ := of_guard hx13
          obtain ⟨hg17, hx13⟩ := of_guard hx13
          obtain ⟨y18, hc19, hx13⟩ := of_bind hx13
          obtain ⟨y20, hc21, hx13⟩ := of_bind hx13
          refine drawS (h := 21) (hrs := [⟨⟨none, .no⟩, []⟩, ⟨⟨none, .no⟩, []⟩, ⟨⟨none, .no⟩, []⟩, ⟨⟨none, .no⟩, []⟩, ⟨⟨none, .no⟩, [2, 3]⟩, ⟨⟨none, .no⟩, [2, 3, 4]⟩, ⟨⟨none, .no⟩, []⟩, ⟨⟨none, .no⟩, []⟩, ⟨⟨none, .no⟩, [6, 7]⟩, ⟨⟨none, .no⟩, [6, 7, 8]⟩, ⟨⟨none, .no⟩, []⟩, ⟨⟨none, .no⟩, []⟩, ⟨⟨none, .no⟩, []⟩, ⟨⟨none, .call [.imm (.st (.pair (.int .i64) (.pair (.int .i64) (.pair (.sl (.flt .f32)) (.pair (.sl (.flt .f32)) (.sl (.flt .f32))))))), .imm (.int .i64), .imm (.int .i64)] [⟨false, (.flt .f32), y18⟩] []⟩, [10, 11, 12]⟩, ⟨⟨none, .no⟩, [6, 7, 8, 9, 10, 11, 12, 13]⟩, ⟨⟨none, .no⟩, []⟩, ⟨⟨none, .no⟩, []⟩, ⟨⟨none, .no⟩, []⟩, ⟨⟨none, .call [.imm (.st (.pair (.int .i64) (.pair (.int .i64) (.pair (.sl (.flt .f32)) (.pair (.sl (.flt .f32)) (.sl (.flt .f32))))))), .imm (.int .i64), .imm (.int .i64)] [⟨false, (.flt .f32), y20⟩] []⟩, [10, 11, 12, 13, 15, 16, 17]⟩, ⟨⟨none, .no⟩, [6, 7, 8, 9, 10, 11, 12, 13, 14, 15, 16, 17, 18]⟩, ⟨⟨none, .no⟩, [2, 3, 4, 5, 6, 7, 8, 9, 10, 11, 12, 13, 14, 15, 16, 17, 18, 19]⟩]) (tds := [[0, 1, 2, 3, 4, 5, 6, 7, 8, 9, 10, 11, 12, 13, 14, 15, 16, 17, 18, 19, 20], [0, 1, 2, 3, 4, 5, 6, 7, 8, 9, 10, 11, 12, 13, 14, 15, 16, 17, 18, 19, 20, 21]]) (rs := [⟨none, .no⟩, ⟨none, .no⟩]) (st' := ⟨[(44, .one (.elp 1 (Int.toNat s2.1) 1 0)), (43, .one (.dat (.flt .f32) (fop .add .f32 (List.getD s9.2 (Int.toNat s2.1) (0 : Nat)) (fop .mul .f32 (fop .mul .f32 (List.getD a1 (Int.toNat s9.1) (0 : Nat)) y18) y20)))), (42, .one (.dat (.flt .f32) (fop .mul .f32 (fop .mul .f32 (List.getD a1 (Int.toNat s9.1) (0 : Nat)) y18) y20))), (41, .one (.dat (.flt .f32) y20)), (40, .one (.dat (.int .i64) s2.1)), (39, .one (.dat (.int .i64) s9.1)), (38, .agg [.dat (.int .i64) a0.1, .dat (.int .i64) a0.2.1, .dat (.sl (.flt .f32)) a0.2.2.1, .dat (.sl (.flt .f32)) a0.2.2.2.1, .dat (.sl (.flt .f32)) a0.2.2.2.2]), (37, .one (.dat (.flt .f32) (fop .mul .f32 (List.getD a1 (Int.toNat s9.1) (0 : Nat)) y18))), (36, .one (.dat (.flt .f32) y18)), (35, .one (.dat (.int .i64) a2)), (34, .one (.dat (.int .i64) s9.1)), (33, .agg [.dat (.int .i64) a0.1, .dat (.int .i64) a0.2.1, .dat (.sl (.flt .f32)) a0.2.2.1, .dat (.sl (.flt .f32)) a0.2.2.2.1, .dat (.sl (.flt .f32)) a0.2.2.2.2]), (32, .one (.dat (.flt .f32) (List.getD a1 (Int.toNat s9.1) (0 : Nat)))), (31, .one (.ip (.flt .f32) (List.getD a1 (Int.toNat s9.1) (0 : Nat)) 0)), (30, .one (.dat (.int .i64) s9.1)), (29, .one (.dat (.sl (.flt .f32)) a1)), (28, .one (.dat (.flt .f32) (List.getD s9.2 (Int.toNat s2.1) (0 : Nat)))), (27, .one (.elp 1 (Int.toNat s2.1) 1 0)), (26, .one (.dat (.int .i64) s2.1)), (25, .one (.all 1)), (24, .one (.dat (.int .i64) s2.1)), (23, .one (.all 1)), (1, .one (.dat (.sl (.flt .f32)) a1)), (2, .one (.dat (.int .i64) a2)), (3, .one (.ptr 0 0)), (7, .one (.all 1)), (8, .one (.dat (.int .i64) s2.1)), (9, .one (.dat (.int .i64) s9.1)), (14, .one (.dat (.int .i64) a0.1)), (15, .one (.dat (.int .i64) s2.1)), (19, .one (.dat (.int .i64) a0.1)), (20, .one (.dat (.int .i64) s9.1))], [(1, .seq (.flt .f32) (List.set s9.2 (Int.toNat s2.1) (fop .add .f32 (List.getD s9.2 (Int.toNat s2.1) (0 : Nat)) (fop .mul .f32 (fop .mul .f32 (List.getD a1 (Int.toNat s9.1) (0 : Nat)) y18) y20)))), (0, .box [.dat (.int .i64) a0.1, .dat (.int .i64) a0.2.1, .dat (.sl (.flt .f32)) a0.2.2.1, .dat (.sl (.flt .f32)) a0.2.2.2.1, .dat (.sl (.flt .f32)) a0.2.2.2.2]), (1, .seq (.flt .f32) s9.2)], 2⟩) hP hN (by kernel_rfl) (by kernel_rfl) (allCons hg16 (allCons (natLt hg16) (allCons hg17 (allCons (f95_ok hc19) (allCons (f129_ok hc21) (allCons hg16 (allCons (natLt hg16) allNil))))))) (qBlock (qThen ?_))
          have hx13 := of_some hx13
          subst hx13
          refine HT.reg (rs := [⟨none, .no⟩, ⟨none, .no⟩]) (st' := ⟨[(20, .one (.dat (.int .i64) (wadd .i64 s9.1 (1 : Int)))), (45, .one (.dat (.int .i64) (wadd .i64 s9.1 (1 : Int)))), (44, .one (.elp 1 (Int.toNat s2.1) 1 0)), (43, .one (.dat (.flt .f32) (fop .add .f32 (List.getD s9.2 (Int.toNat s2.1) (0 : Nat)) (fop .mul .f32 (fop .mul .f32 (List.getD a1 (Int.toNat s9.1) (0 : Nat)) y18) y20)))), (42, .one (.dat (.flt .f32) (fop .mul .f32 (fop .mul .f32 (List.getD a1 (Int.toNat s9.1) (0 : Nat)) y18) y20))), (41, .one (.dat (.flt .f32) y20)), (40, .one (.dat (.int .i64) s2.1)), (39, .one (.dat (.int .i64) s9.1)), (38, .agg [.dat (.int .i64) a0.1, .dat (.int .i64) a0.2.1, .dat (.sl (.flt .f32)) a0.2.2.1, .dat (.sl (.flt .f32)) a0.2.2.2.1, .dat (.sl (.flt .f32)) a0.2.2.2.2]), (37, .one (.dat (.flt .f32) (fop .mul .f32 (List.getD a1 (Int.toNat s9.1) (0 : Nat)) y18))), (36, .one (.dat (.flt .f32) y18)), (35, .one (.dat (.int .i64) a2)), (34, .one (.dat (.int .i64) s9.1)), (33, .agg [.dat (.int .i64) a0.1, .dat (.int .i64) a0.2.1, .dat (.sl (.flt .f32)) a0.2.2.1, .dat (.sl (.flt .f32)) a0.2.2.2.1, .dat (.sl (.flt .f32)) a0.2.2.2.2]), (32, .one (.dat (.flt .f32) (List.getD a1 (Int.toNat s9.1) (0 : Nat)))), (31, .one (.ip (.flt .f32) (List.getD a1 (Int.toNat s9.1) (0 : Nat)) 0)), (30, .one (.dat (.int .i64) s9.1)), (29, .one (.dat (.sl (.flt .f32)) a1)), (28, .one (.dat (.flt .f32) (List.getD s9.2 (Int.toNat s2.1) (0 : Nat)))), (27, .one (.elp 1 (Int.toNat s2.1) 1 0)), (26, .one (.dat (.int .i64) s2.1)), (25, .one (.all 1)), (24, .one (.dat (.int .i64) s2.1)), (23, .one (.all 1)), (1, .one (.dat (.sl (.flt .f32)) a1)), (2, .one (.dat (.int .i64) a2)), (3, .one (.ptr 0 0)), (7, .one (.all 1)), (8, .one (.dat (.int .i64) s2.1)), (9, .one (.dat (.int .i64) s9.1)), (14, .one (.dat (.int .i64) a0.1)), (15, .one (.dat (.int .i64) s2.1)), (19, .one (.dat (.int .i64) a0.1)), (20, .one (.dat (.int .i64) s9.1))], [(1, .seq (.flt .f32) (List.set s9.2 (Int.toNat s2.1) (fop .add .f32 (List.getD s9.2 (Int.toNat s2.1) (0 : Nat)) (fop .mul .f32 (fop .mul .f32 (List.getD a1 (Int.toNat s9.1) (0 : Nat)) y18) y20)))), (0, .box [.dat (.int .i64) a0.1, .dat (.int .i64) a0.2.1, .dat (.sl (.flt .f32)) a0.2.2.1, .dat (.sl (.flt .f32)) a0.2.2.2.1, .dat (.sl (.flt .f32)) a0.2.2.2.2]), (1, .seq (.flt .f32) s9.2)], 2⟩) hP hN (by kernel_rfl) allNil (qLoopN ⟨((wadd .i64 s9.1 (1 : Int)), (List.set s9.2 (Int.toNat s2.1) (fop .add .f32 (List.getD s9.2 (Int.toNat s2.1) (0 : Nat)) (fop .mul .f32 (fop .mul .f32 (List.getD a1 (Int.toNat s9.1) (0 : Nat)) y18) y20)))), rfl, Le.cv (s := ⟨[(0, 0), (1, 1)], [], [], false⟩) (own := []) (ps := [a1 = a1, a2 = a2, s2.1 = s2.1, a0.1 = a0.1, s2.1 = s2.1, a0.1 = a0.1, (wadd .i64 s9.1 (1 : Int)) = (wadd .i64 s9.1 (1 : Int)), a0.1 = a0.1, a0.2.1 = a0.2.1, a0.2.2.1 = a0.2.2.1, a0.2.2.2.1 = a0.2.2.2.1, a0.2.2.2.2 = a0.2.2.2.2, (List.set s9.2 (Int.toNat s2.1) (fop .add .f32 (List.getD s9.2 (Int.toNat s2.1) (0 : Nat)) (fop .mul .f32 (fop .mul .f32 (List.getD a1 (Int.toNat s9.1) (0 : Nat)) y18) y20))) = (List.set s9.2 (Int.toNat s2.1) (fop .add .f32 (List.getD s9.2 (Int.toNat s2.1) (0 : Nat)) (fop .mul .f32 (fop .mul .f32 (List.getD a1 (Int.toNat s9.1) (0 : Nat)) y18) y20)))]) (st' := ⟨[(1, .one (.dat (.sl (.flt .f32)) a1)), (2, .one (.dat (.int .i64) a2)), (3, .one (.ptr 0 0)), (7, .one (.all 1)), (8, .one (.dat (.int .i64) s2.1)), (14, .one (.dat (.int .i64) a0.1)), (15, .one (.dat (.int .i64) s2.1)), (19, .one (.dat (.int .i64) a0.1)), (20, .one (.dat (.int .i64) (wadd .i64 s9.1 (1 : Int))))], [(0, .box [.dat (.int .i64) a0.1, .dat (.int .i64) a0.2.1, .dat (.sl (.flt .f32)) a0.2.2.1, .dat (.sl (.flt .f32)) a0.2.2.2.1, .dat (.sl (.flt .f32)) a0.2.2.2.2]), (1, .seq (.flt .f32) (List.set s9.2 (Int.toNat s2.1) (fop .add .f32 (List.getD s9.2 (Int.toNat s2.1) (0 : Nat)) (fop .mul .f32 (fop .mul .f32 (List.getD a1 (Int.toNat s9.1) (0 : Nat)) y18) y20))))], 2⟩) hO (fun h => by cases h) (by kernel_rfl) ⟨rfl, rfl, rfl, rfl, rfl, rfl, rfl, rfl, rfl, rfl, rfl, rfl, rfl, trivial⟩⟩)
        · refine HT.cond0 rfl hb15 ?_
          have hx13 := of_some hx13
          subst hx13
          refine (Le.cv (s := ⟨[(0, 0), (1, 1)], [], [], false⟩) (own := []) (ps := [a1 = a1, a2 = a2, a0.1 = a0.1, s2.1 = s2.1, a0.1 = a0.1, a0.2.1 = a0.2.1, a0.2.2.1 = a0.2.2.1, a0.2.2.2.1 = a0.2.2.2.1, a0.2.2.2.2 = a0.2.2.2.2, s9.2 = s9.2]) (st' := ⟨[(1, .one (.dat (.sl (.flt .f32)) a1)), (2, .one (.dat (.int .i64) a2)), (3, .one (.ptr 0 0)), (7, .one (.all 1)), (14, .one (.dat (.int .i64) a0.1)), (15, .one (.dat (.int .i64) s2.1))], [(0, .box [.dat (.int .i64) a0.1, .dat (.int .i64) a0.2.1, .dat (.sl (.flt .f32)) a0.2.2.1, .dat (.sl (.flt .f32)) a0.2.2.2.1, .dat (.sl (.flt .f32)) a0.2.2.2.2]), (1, .seq (.flt .f32) s9.2)], 2⟩) hO (fun h => by cases h) (by kernel_rfl) ⟨rfl, rfl, rfl, rfl, rfl, rfl, rfl, rfl, rfl, rfl, trivial⟩).ht ?_
          exact HT.exit (qThenE (qLoopE (hk14 s9.2 rfl)))
    · refine HT.cond0 rfl hb8 ?_
      have hx6 := of_some hx6
      subst hx6
      refine (Le.cv (s := ⟨[(1, 0)], [], [], false⟩) (own := []) (ps := [s2.2 = s2.2]) (st' := ⟨[(7, .one (.all 0))], [(0, .seq (.flt .f32) s2.2)], 1⟩) hO (fun h => by cases h) (by kernel_rfl) ⟨rfl, trivial⟩).ht ?_
      exact HT.exit (qThenE (qLoopE (hk7 s2.2 rfl)))

noncomputable def impl_Model_forward_B1 (a0 : Int × Int × List Nat × List Nat × List Nat) (a1 : List Int) (s3 : Int × List (List Nat)) : Option ((Int × List (List Nat)) ⊕ (List (List Nat))) :=
  bif (decide (s3.1 < (lenI a1))) then
    guardP ((0 : Int) ≤ s3.1 ∧ s3.1 < lenI a1) (
      guardP ((0 : Int) ≤ s3.1 ∧ s3.1 < lenI s3.2) (
        (impl_Model_nextRow (a0.1, a0.2.1, a0.2.2.1, a0.2.2.2.1, a0.2.2.2.2) (List.getD s3.2 (Int.toNat s3.1) ([] : List Nat)) (List.getD a1 (Int.toNat s3.1) (0 : Int))).bind fun y12 =>
        guardP (List.length s3.2 + List.length ([y12] : List (List Nat)) ≤ appMax) (
          some (.inl ((wadd .i64 s3.1 (1 : Int)), (s3.2 ++ ([y12] : List (List Nat))))))))
  else
    some (.inr s3.2)

noncomputable def impl_Model_forward (a0 : Int × Int × List Nat × List Nat × List Nat) (a1 : List Int) : Option (List (List Nat)) :=
  (slices_Clone a0.2.2.1).bind fun y1 =>
  (rounds (impl_Model_forward_B1 a0 a1) ((0 : Int), ([y1] : List (List Nat)))).bind fun r5 =>
  some r5

theorem f91_ok {a0 : Int × Int × List Nat × List Nat × List Nat} {a1 : List Int} {r : List (List Nat)} (hr : impl_Model_forward a0 a1 = some r) : CallOK Try.prog 91 [.imm (.st (.pair (.int .i64) (.pair (.int .i64) (.pair (.sl (.flt .f32)) (.pair (.sl (.flt .f32)) (.sl (.flt .f32))))))) a0, .imm (.sl (.int .i64)) a1] [⟨false, (.sl (.sl (.flt .f32))), r⟩] [] := by
  unfold impl_Model_forward at hr
  refine CallOK.of_body (ts := [(false, (.sl (.sl (.flt .f32))))]) Try.func91 rfl (by kernel_rfl) (Nat.le_of_ble_eq_true (by kernel_rfl)) fun cx hP hN hO hF => ?_
  have hO : cx.own.map Prod.fst = [] := hO
  have hF := hF rfl
  show HT cx ⟨[(0, .agg [.dat (.int .i64) a0.1, .dat (.int .i64) a0.2.1, .dat (.sl (.flt .f32)) a0.2.2.1, .dat (.sl (.flt .f32)) a0.2.2.2.1, .dat (.sl (.flt .f32)) a0.2.2.2.2]), (1, .one (.dat (.sl (.int .i64)) a1))], [], 0⟩ _ _
  refine HT.reg1 [1, 2] [⟨none, .no⟩, ⟨none, .no⟩] ⟨[(1, .one (.dat (.sl (.int .i64)) a1)), (2, .one (.ptr 0 0))], [(0, .box [.dat (.int .i64) a0.1, .dat (.int .i64) a0.2.1, .dat (.sl (.flt .f32)) a0.2.2.1, .dat (.sl (.flt .f32)) a0.2.2.2.1, .dat (.sl (.flt .f32)) a0.2.2.2.2])], 1⟩ hP hN (by kernel_rfl) allNil ?_
  obtain ⟨y1, hc2, hr⟩ := of_bind hr
  refine HT.reg1 [1, 2, 5] [⟨none, .no⟩, ⟨none, .no⟩, ⟨none, .call [.imm (.sl (.flt .f32))] [⟨false, (.sl (.flt .f32)), y1⟩] []⟩, ⟨none, .ty (.sl (.flt .f32))⟩, ⟨none, .no⟩] ⟨[(1, .one (.dat (.sl (.int .i64)) a1)), (2, .one (.ptr 0 0)), (5, .one (.all 1))], [(1, .seq (.sl (.flt .f32)) ([y1] : List (List Nat))), (0, .box [.dat (.int .i64) a0.1, .dat (.int .i64) a0.2.1, .dat (.sl (.flt .f32)) a0.2.2.1, .dat (.sl (.flt .f32)) a0.2.2.2.1, .dat (.sl (.flt .f32)) a0.2.2.2.2])], 2⟩ hP hN (by kernel_rfl) (allCons (CallOK.frz [true] rfl (f99_ok hc2)) allNil) ?_
  refine HT.seq ?_
  refine HT.reg1 [2, 5, 12, 13, 14] [⟨none, .no⟩, ⟨none, .no⟩, ⟨none, .no⟩] ⟨[(2, .one (.ptr 0 0)), (5, .one (.all 1)), (12, .one (.dat (.sl (.int .i64)) a1)), (13, .one (.dat (.int .i64) (lenI a1))), (14, .one (.dat (.int .i64) (0 : Int)))], [(1, .seq (.sl (.flt .f32)) ([y1] : List (List Nat))), (0, .box [.dat (.int .i64) a0.1, .dat (.int .i64) a0.2.1, .dat (.sl (.flt .f32)) a0.2.2.1, .dat (.sl (.flt .f32)) a0.2.2.2.1, .dat (.sl (.flt .f32)) a0.2.2.2.2])], 2⟩ hP hN (by kernel_rfl) allNil ?_
  refine HT.block ?_
  obtain ⟨r4, hL15, hr⟩ := of_bind hr
  refine (Le.cv (s := ⟨[(0, 0), (1, 1)], [], [], false⟩) (own := []) (ps := [a1 = a1, (lenI a1) = (lenI a1), (0 : Int) = (0 : Int), a0.1 = a0.1, a0.2.1 = a0.2.1, a0.2.2.1 = a0.2.2.1, a0.2.2.2.1 = a0.2.2.2.1, a0.2.2.2.2 = a0.2.2.2.2, ([y1] : List (List Nat)) = ([y1] : List (List Nat))]) (st' := ⟨[(2, .one (.ptr 0 0)), (5, .one (.all 1)), (12, .one (.dat (.sl (.int .i64)) a1)), (13, .one (.dat (.int .i64) (lenI a1))), (14, .one (.dat (.int .i64) (0 : Int)))], [(0, .box [.dat (.int .i64) a0.1, .dat (.int .i64) a0.2.1, .dat (.sl (.flt .f32)) a0.2.2.1, .dat (.sl (.flt .f32)) a0.2.2.2.1, .dat (.sl (.flt .f32)) a0.2.2.2.2]), (1, .seq (.sl (.flt .f32)) ([y1] : List (List Nat)))], 2⟩) hO (fun h => by cases h) (by kernel_rfl) ⟨rfl, rfl, rfl, rfl, rfl, rfl, rfl, rfl, rfl, trivial⟩).ht ?_
  refine HT.loopE (s := ((0 : Int), ([y1] : List (List Nat)))) (fun (s3 : Int × List (List Nat)) => ⟨[(2, .one (.ptr 0 0)), (5, .one (.all 1)), (12, .one (.dat (.sl (.int .i64)) a1)), (13, .one (.dat (.int .i64) (lenI a1))), (14, .one (.dat (.int .i64) s3.1))], [(0, .box [.dat (.int .i64) a0.1, .dat (.int .i64) a0.2.1, .dat (.sl (.flt .f32)) a0.2.2.1, .dat (.sl (.flt .f32)) a0.2.2.2.1, .dat (.sl (.flt .f32)) a0.2.2.2.2]), (1, .seq (.sl (.flt .f32)) s3.2)], 2⟩) (fun (r5 : List (List Nat)) => (.exit 0, ⟨[(5, .one (.all 0))], [(0, .seq (.sl (.flt .f32)) r5)], 1⟩)) hL15 ?_ (fun s3 x6 hx7 hk8 => ?_)
  · refine (qBlockX (qThen ?_))
    refine HT.reg1 [4] [⟨none, .no⟩, ⟨none, .no⟩] ⟨[(4, .one (.all 0))], [(0, .seq (.sl (.flt .f32)) r4)], 1⟩ hP hN (by kernel_rfl) allNil ?_
    have hr := of_some hr
    subst hr
    refine (Le.cv (s := ⟨[], [], [], true⟩) (own := []) (ps := [r4 = r4]) (st' := ⟨[(4, .one (.dat (.sl (.sl (.flt .f32))) r4))], [], 1⟩) hO (fun _ => hF) (by kernel_rfl) ⟨rfl, trivial⟩).ht ?_
    exact HT.ret ⟨[.one (.dat (.sl (.sl (.flt .f32))) r4)], [], [], by kernel_rfl, by kernel_rfl, rfl, by kernel_rfl, by kernel_rfl, trivial⟩
  · refine HT.reg1 [2, 5, 12, 13, 14, 15] [⟨none, .no⟩] ⟨[(2, .one (.ptr 0 0)), (5, .one (.all 1)), (12, .one (.dat (.sl (.int .i64)) a1)), (13, .one (.dat (.int .i64) (lenI a1))), (14, .one (.dat (.int .i64) s3.1)), (15, .one (.dat .bool (decide (s3.1 < (lenI a1)))))], [(0, .box [.dat (.int .i64) a0.1, .dat (.int .i64) a0.2.1, .dat (.sl (.flt .f32)) a0.2.2.1, .dat (.sl (.flt .f32)) a0.2.2.2.1, .dat (.sl (.flt .f32)) a0.2.2.2.2]), (1, .seq (.sl (.flt .f32)) s3.2)], 2⟩ hP hN (by kernel_rfl) allNil ?_
    refine HT.seq ?_
    rcases of_bif hx7 with ⟨hb9, hx7⟩ | ⟨hb9, hx7⟩
    · refine HT.cond1 rfl hb9 ?_
      refine HT.skip (qThen ?_)
      refine HT.seq ?_
      refine HT.block ?_
      obtain ⟨hg10, hx7⟩ := of_guard hx7
      refine HT.reg1 [2, 5, 6, 7, 12, 13, 14] [⟨none, .no⟩, ⟨none, .no⟩, ⟨none, .no⟩, ⟨none, .no⟩, ⟨none, .no⟩] ⟨[(2, .one (.ptr 0 0)), (5, .one (.all 1)), (6, .one (.dat (.int .i64) s3.1)), (7, .one (.dat (.int .i64) (List.getD a1 (Int.toNat s3.1) (0 : Int)))), (12, .one (.dat (.sl (.int .i64)) a1)), (13, .one (.dat (.int .i64) (lenI a1))), (14, .one (.dat (.int .i64) s3.1))], [(0, .box [.dat (.int .i64) a0.1, .dat (.int .i64) a0.2.1, .dat (.sl (.flt .f32)) a0.2.2.1, .dat (.sl (.flt .f32)) a0.2.2.2.1, .dat (.sl (.flt .f32)) a0.2.2.2.2]), (1, .seq (.sl (.flt .f32)) s3.2)], 2⟩ hP hN (by kernel_rfl) (allCons hg10 allNil) ?_
      obtain ⟨hg11, hx7⟩ := of_guard hx7
      obtain ⟨y12, hc13, hx7⟩ := of_bind hx7
      obtain ⟨hg14, hx7⟩ := of_guard hx7
      refine drawS (h := 9) (hrs := [⟨⟨none, .no⟩, []⟩, ⟨⟨none, .no⟩, []⟩, ⟨⟨none, .no⟩, []⟩, ⟨⟨none, .no⟩, []⟩, ⟨⟨none, .no⟩, [2, 3]⟩, ⟨⟨none, .no⟩, [2, 3, 4]⟩, ⟨⟨none, .no⟩, []⟩, ⟨⟨none, .call [.imm (.st (.pair (.int .i64) (.pair (.int .i64) (.pair (.sl (.flt .f32)) (.pair (.sl (.flt .f32)) (.sl (.flt .f32))))))), .imm (.sl (.flt .f32)), .imm (.int .i64)] [⟨false, (.sl (.flt .f32)), y12⟩] []⟩, [1, 2, 3, 4, 5, 6]⟩, ⟨⟨none, .ty (.sl (.flt .f32))⟩, [1, 2, 3, 4, 5, 6, 7]⟩]) (tds := [[0, 1, 2, 3, 4, 5, 6, 7, 8], [0, 1, 2, 3, 4, 5, 6, 7, 8, 9]]) (rs := [⟨none, .ty (.sl (.flt .f32))⟩, ⟨none, .no⟩]) (st' := ⟨[(5, .one (.all 3)), (28, .one (.all 3)), (27, .one (.all 2)), (26, .one (.dat (.sl (.flt .f32)) y12)), (25, .one (.dat (.int .i64) (List.getD a1 (Int.toNat s3.1) (0 : Int)))), (24, .one (.dat (.sl (.flt .f32)) (List.getD s3.2 (Int.toNat s3.1) ([] : List Nat)))), (23, .one (.elp 1 (Int.toNat s3.1) 1 0)), (22, .one (.dat (.int .i64) s3.1)), (21, .one (.all 1)), (20, .agg [.dat (.int .i64) a0.1, .dat (.int .i64) a0.2.1, .dat (.sl (.flt .f32)) a0.2.2.1, .dat (.sl (.flt .f32)) a0.2.2.2.1, .dat (.sl (.flt .f32)) a0.2.2.2.2]), (19, .one (.all 1)), (2, .one (.ptr 0 0)), (5, .one (.all 1)), (6, .one (.dat (.int .i64) s3.1)), (7, .one (.dat (.int .i64) (List.getD a1 (Int.toNat s3.1) (0 : Int)))), (12, .one (.dat (.sl (.int .i64)) a1)), (13, .one (.dat (.int .i64) (lenI a1))), (14, .one (.dat (.int .i64) s3.1))], [(1, .gone), (3, .seq (.sl (.flt .f32)) (s3.2 ++ ([y12] : List (List Nat)))), (2, .seq (.sl (.flt .f32)) ([y12] : List (List Nat))), (0, .box [.dat (.int .i64) a0.1, .dat (.int .i64) a0.2.1, .dat (.sl (.flt .f32)) a0.2.2.1, .dat (.sl (.flt .f32)) a0.2.2.2.1, .dat (.sl (.flt .f32)) a0.2.2.2.2]), (1, .seq (.sl (.flt .f32)) s3.2)], 4⟩) hP hN (by kernel_rfl) (by kernel_rfl) (allCons hg11 (allCons (natLt hg11) (allCons (CallOK.frz [true] rfl (f100_ok hc13)) (allCons hg14 allNil)))) (qBlock (qThen ?_))
      have hx7 := of_some hx7
      subst hx7
      refine HT.reg (rs := [⟨none, .no⟩, ⟨none, .no⟩]) (st' := ⟨[(14, .one (.dat (.int .i64) (wadd .i64 s3.1 (1 : Int)))), (29, .one (.dat (.int .i64) (wadd .i64 s3.1 (1 : Int)))), (5, .one (.all 3)), (28, .one (.all 3)), (27, .one (.all 2)), (26, .one (.dat (.sl (.flt .f32)) y12)), (25, .one (.dat (.int .i64) (List.getD a1 (Int.toNat s3.1) (0 : Int)))), (24, .one (.dat (.sl (.flt .f32)) (List.getD s3.2 (Int.toNat s3.1) ([] : List Nat)))), (23, .one (.elp 1 (Int.toNat s3.1) 1 0)), (22, .one (.dat (.int .i64) s3.1)), (21, .one (.all 1)), (20, .agg [.dat (.int .i64) a0.1, .dat (.int .i64) a0.2.1, .dat (.sl (.flt .f32)) a0.2.2.1, .dat (.sl (.flt .f32)) a0.2.2.2.1, .dat (.sl (.flt .f32)) a0.2.2.2.2]), (19, .one (.all 1)), (2, .one (.ptr 0 0)), (5, .one (.all 1)), (6, .one (.dat (.int .i64) s3.1)), (7, .one (.dat (.int .i64) (List.getD a1 (Int.toNat s3.1) (0 : Int)))), (12, .one (.dat (.sl (.int .i64)) a1)), (13, .one (.dat (.int .i64) (lenI a1))), (14, .one (.dat (.int .i64) s3.1))], [(1, .gone), (3, .seq (.sl (.flt .f32)) (s3.2 ++ ([y12] : List (List Nat)))), (2, .seq (.sl (.flt .f32)) ([y12] : List (List Nat))), (0, .box [.dat (.int .i64) a0.1, .dat (.int .i64) a0.2.1, .dat (.sl (.flt .f32)) a0.2.2.1, .dat (.sl (.flt .f32)) a0.2.2.2.1, .dat (.sl (.flt .f32)) a0.2.2.2.2]), (1, .seq (.sl (.flt .f32)) s3.2)], 4⟩) hP hN (by kernel_rfl) allNil (qLoopN ⟨((wadd .i64 s3.1 (1 : Int)), (s3.2 ++ ([y12] : List (List Nat)))), rfl, Le.cv (s := ⟨[(0, 0), (3, 1)], [], [], false⟩) (own := []) (ps := [a1 = a1, (lenI a1) = (lenI a1), (wadd .i64 s3.1 (1 : Int)) = (wadd .i64 s3.1 (1 : Int)), a0.1 = a0.1, a0.2.1 = a0.2.1, a0.2.2.1 = a0.2.2.1, a0.2.2.2.1 = a0.2.2.2.1, a0.2.2.2.2 = a0.2.2.2.2, (s3.2 ++ ([y12] : List (List Nat))) = (s3.2 ++ ([y12] : List (List Nat)))]) (st' := ⟨[(2, .one (.ptr 0 0)), (5, .one (.all 1)), (12, .one (.dat (.sl (.int .i64)) a1)), (13, .one (.dat (.int .i64) (lenI a1))), (14, .one (.dat (.int .i64) (wadd .i64 s3.1 (1 : Int))))], [(0, .box [.dat (.int .i64) a0.1, .dat (.int .i64) a0.2.1, .dat (.sl (.flt .f32)) a0.2.2.1, .dat (.sl (.flt .f32)) a0.2.2.2.1, .dat (.sl (.flt .f32)) a0.2.2.2.2]), (1, .seq (.sl (.flt .f32)) (s3.2 ++ ([y12] : List (List Nat))))], 2⟩) hO (fun h => by cases h) (by kernel_rfl) ⟨rfl, rfl, rfl, rfl, rfl, rfl, rfl, rfl, rfl, trivial⟩⟩)
    · refine HT.cond0 rfl hb9 ?_
      have hx7 := of_some hx7
      subst hx7
      refine (Le.cv (s := ⟨[(1, 0)], [], [], false⟩) (own := []) (ps := [s3.2 = s3.2]) (st' := ⟨[(5, .one (.all 0))], [(0, .seq (.sl (.flt .f32)) s3.2)], 1⟩) hO (fun h => by cases h) (by kernel_rfl) ⟨rfl, trivial⟩).ht ?_
      exact HT.exit (qThenE (qLoopE (hk8 s3.2 rfl)))

noncomputable def impl_addUp_B1 (a0 : List Nat) (s1 : Nat × Int) : Option ((Nat × Int) ⊕ (Nat)) :=
  bif (decide (s1.2 < (lenI a0))) then
    guardP ((0 : Int) ≤ s1.2 ∧ s1.2 < lenI a0) (
      some (.inl ((fop .add .f32 s1.1 (List.getD a0 (Int.toNat s1.2) (0 : Nat))), (wadd .i64 s1.2 (1 : Int)))))
  else
    some (.inr s1.1)

noncomputable def impl_addUp (a0 : List Nat) : Option (Nat) :=
  (rounds (impl_addUp_B1 a0) ((0 : Nat), (0 : Int))).bind fun r3 =>
  some r3

theorem f94_ok {a0 : List Nat} {r : Nat} (hr : impl_addUp a0 = some r) : CallOK Try.prog 94 [.imm (.sl (.flt .f32)) a0] [⟨false, (.flt .f32), r⟩] [] := by
  unfold impl_addUp at hr
  refine CallOK.of_body (ts := [(false, (.flt .f32))]) Try.func94 rfl (by kernel_rfl) (Nat.le_of_ble_eq_true (by kernel_rfl)) fun cx hP hN hO hF => ?_
  have hO : cx.own.map Prod.fst = [] := hO
  have hF := hF rfl
  show HT cx ⟨[(0, .one (.dat (.sl (.flt .f32)) a0))], [], 0⟩ _ _
  refine HT.reg1 [0] [⟨none, .no⟩] ⟨[(0, .one (.dat (.sl (.flt .f32)) a0))], [], 0⟩ hP hN (by kernel_rfl) allNil ?_
  refine HT.reg1 [0, 3] [⟨none, .no⟩] ⟨[(0, .one (.dat (.sl (.flt .f32)) a0)), (3, .one (.dat (.flt .f32) (0 : Nat)))], [], 0⟩ hP hN (by kernel_rfl) allNil ?_
  refine HT.seq ?_
  refine HT.reg1 [3, 6, 7, 8] [⟨none, .no⟩, ⟨none, .no⟩, ⟨none, .no⟩] ⟨[(3, .one (.dat (.flt .f32) (0 : Nat))), (6, .one (.dat (.sl (.flt .f32)) a0)), (7, .one (.dat (.int .i64) (lenI a0))), (8, .one (.dat (.int .i64) (0 : Int)))], [], 0⟩ hP hN (by kernel_rfl) allNil ?_
  refine HT.block ?_
  obtain ⟨r2, hL9, hr⟩ := of_bind hr
  refine (Le.cv (s := ⟨[], [], [], false⟩) (own := []) (ps := [(0 : Nat) = (0 : Nat), a0 = a0, (lenI a0) = (lenI a0), (0 : Int) = (0 : Int)]) (st' := ⟨[(3, .one (.dat (.flt .f32) (0 : Nat))), (6, .one (.dat (.sl (.flt .f32)) a0)), (7, .one (.dat (.int .i64) (lenI a0))), (8, .one (.dat (.int .i64) (0 : Int)))], [], 0⟩) hO (fun h => by cases h) (by kernel_rfl) ⟨rfl, rfl, rfl, rfl, trivial⟩).ht ?_
  refine HT.loopE (s := ((0 : Nat), (0 : Int))) (fun (s1 : Nat × Int) => ⟨[(3, .one (.dat (.flt .f32) s1.1)), (6, .one (.dat (.sl (.flt .f32)) a0)), (7, .one (.dat (.int .i64) (lenI a0))), (8, .one (.dat (.int .i64) s1.2))], [], 0⟩) (fun (r3 : Nat) => (.exit 0, ⟨[(3, .one (.dat (.flt .f32) r3))], [], 0⟩)) hL9 ?_ (fun s1 x4 hx5 hk6 => ?_)
  · refine (qBlockX (qThen ?_))
    refine HT.reg1 [2] [⟨none, .no⟩, ⟨none, .no⟩] ⟨[(2, .one (.dat (.flt .f32) r2))], [], 0⟩ hP hN (by kernel_rfl) allNil ?_
    have hr := of_some hr
    subst hr
    exact HT.ret ⟨[.one (.dat (.flt .f32) r2)], [], [], by kernel_rfl, by kernel_rfl, rfl, by kernel_rfl, by kernel_rfl, trivial⟩
  · refine HT.reg1 [3, 6, 7, 8, 9] [⟨none, .no⟩] ⟨[(3, .one (.dat (.flt .f32) s1.1)), (6, .one (.dat (.sl (.flt .f32)) a0)), (7, .one (.dat (.int .i64) (lenI a0))), (8, .one (.dat (.int .i64) s1.2)), (9, .one (.dat .bool (decide (s1.2 < (lenI a0)))))], [], 0⟩ hP hN (by kernel_rfl) allNil ?_
    refine HT.seq ?_
    rcases of_bif hx5 with ⟨hb7, hx5⟩ | ⟨hb7, hx5⟩
    · refine HT.cond1 rfl hb7 ?_
      refine HT.skip (qThen ?_)
      refine HT.seq ?_
      refine HT.block ?_
      obtain ⟨hg8, hx5⟩ := of_guard hx5
      refine HT.reg1 [3, 5, 6, 7, 8] [⟨none, .no⟩, ⟨none, .no⟩, ⟨none, .no⟩] ⟨[(3, .one (.dat (.flt .f32) s1.1)), (5, .one (.dat (.flt .f32) (List.getD a0 (Int.toNat s1.2) (0 : Nat)))), (6, .one (.dat (.sl (.flt .f32)) a0)), (7, .one (.dat (.int .i64) (lenI a0))), (8, .one (.dat (.int .i64) s1.2))], [], 0⟩ hP hN (by kernel_rfl) (allCons hg8 allNil) ?_
      refine HT.reg (rs := [⟨none, .no⟩, ⟨none, .no⟩, ⟨none, .no⟩, ⟨none, .no⟩]) (st' := ⟨[(3, .one (.dat (.flt .f32) (fop .add .f32 s1.1 (List.getD a0 (Int.toNat s1.2) (0 : Nat))))), (14, .one (.dat (.flt .f32) (fop .add .f32 s1.1 (List.getD a0 (Int.toNat s1.2) (0 : Nat))))), (13, .one (.dat (.flt .f32) (List.getD a0 (Int.toNat s1.2) (0 : Nat)))), (12, .one (.dat (.flt .f32) s1.1)), (3, .one (.dat (.flt .f32) s1.1)), (5, .one (.dat (.flt .f32) (List.getD a0 (Int.toNat s1.2) (0 : Nat)))), (6, .one (.dat (.sl (.flt .f32)) a0)), (7, .one (.dat (.int .i64) (lenI a0))), (8, .one (.dat (.int .i64) s1.2))], [], 0⟩) hP hN (by kernel_rfl) allNil (qBlock (qThen ?_))
      have hx5 := of_some hx5
      subst hx5
      refine HT.reg (rs := [⟨none, .no⟩, ⟨none, .no⟩]) (st' := ⟨[(8, .one (.dat (.int .i64) (wadd .i64 s1.2 (1 : Int)))), (15, .one (.dat (.int .i64) (wadd .i64 s1.2 (1 : Int)))), (3, .one (.dat (.flt .f32) (fop .add .f32 s1.1 (List.getD a0 (Int.toNat s1.2) (0 : Nat))))), (14, .one (.dat (.flt .f32) (fop .add .f32 s1.1 (List.getD a0 (Int.toNat s1.2) (0 : Nat))))), (13, .one (.dat (.flt .f32) (List.getD a0 (Int.toNat s1.2) (0 : Nat)))), (12, .one (.dat (.flt .f32) s1.1)), (3, .one (.dat (.flt .f32) s1.1)), (5, .one (.dat (.flt .f32) (List.getD a0 (Int.toNat s1.2) (0 : Nat)))), (6, .one (.dat (.sl (.flt .f32)) a0)), (7, .one (.dat (.int .i64) (lenI a0))), (8, .one (.dat (.int .i64) s1.2))], [], 0⟩) hP hN (by kernel_rfl) allNil (qLoopN ⟨((fop .add .f32 s1.1 (List.getD a0 (Int.toNat s1.2) (0 : Nat))), (wadd .i64 s1.2 (1 : Int))), rfl, Le.cv (s := ⟨[], [], [], false⟩) (own := []) (ps := [(fop .add .f32 s1.1 (List.getD a0 (Int.toNat s1.2) (0 : Nat))) = (fop .add .f32 s1.1 (List.getD a0 (Int.toNat s1.2) (0 : Nat))), a0 = a0, (lenI a0) = (lenI a0), (wadd .i64 s1.2 (1 : Int)) = (wadd .i64 s1.2 (1 : Int))]) (st' := ⟨[(3, .one (.dat (.flt .f32) (fop .add .f32 s1.1 (List.getD a0 (Int.toNat s1.2) (0 : Nat))))), (6, .one (.dat (.sl (.flt .f32)) a0)), (7, .one (.dat (.int .i64) (lenI a0))), (8, .one (.dat (.int .i64) (wadd .i64 s1.2 (1 : Int))))], [], 0⟩) hO (fun h => by cases h) (by kernel_rfl) ⟨rfl, rfl, rfl, rfl, trivial⟩⟩)
    · refine HT.cond0 rfl hb7 ?_
      have hx5 := of_some hx5
      subst hx5
      refine (Le.cv (s := ⟨[], [], [], false⟩) (own := []) (ps := [s1.1 = s1.1]) (st' := ⟨[(3, .one (.dat (.flt .f32) s1.1))], [], 0⟩) hO (fun h => by cases h) (by kernel_rfl) ⟨rfl, trivial⟩).ht ?_
      exact HT.exit (qThenE (qLoopE (hk6 s1.1 rfl)))

noncomputable def impl_Model_chance (a0 : Int × Int × List Nat × List Nat × List Nat) (a1 : List Int) : Option (Nat) :=
  (impl_Model_forward (a0.1, a0.2.1, a0.2.2.1, a0.2.2.2.1, a0.2.2.2.2) a1).bind fun y1 =>
  guardP ((0 : Int) ≤ (lenI a1) ∧ (lenI a1) < lenI y1) (
    (impl_addUp (List.getD y1 (Int.toNat (lenI a1)) ([] : List Nat))).bind fun y4 =>
    some y4)

theorem f72_ok {a0 : Int × Int × List Nat × List Nat × List Nat} {a1 : List Int} {r : Nat} (hr : impl_Model_chance a0 a1 = some r) : CallOK Try.prog 72 [.imm (.st (.pair (.int .i64) (.pair (.int .i64) (.pair (.sl (.flt .f32)) (.pair (.sl (.flt .f32)) (.sl (.flt .f32))))))) a0, .imm (.sl (.int .i64)) a1] [⟨false, (.flt .f32), r⟩] [] := by
  unfold impl_Model_chance at hr
  refine CallOK.of_body (ts := [(false, (.flt .f32))]) Try.func72 rfl (by kernel_rfl) (Nat.le_of_ble_eq_true (by kernel_rfl)) fun cx hP hN hO hF => ?_
  have hO : cx.own.map Prod.fst = [] := hO
  have hF := hF rfl
  show HT cx ⟨[(0, .agg [.dat (.int .i64) a0.1, .dat (.int .i64) a0.2.1, .dat (.sl (.flt .f32)) a0.2.2.1, .dat (.sl (.flt .f32)) a0.2.2.2.1, .dat (.sl (.flt .f32)) a0.2.2.2.2]), (1, .one (.dat (.sl (.int .i64)) a1))], [], 0⟩ _ _
  refine HT.reg1 [1, 2] [⟨none, .no⟩, ⟨none, .no⟩] ⟨[(1, .one (.dat (.sl (.int .i64)) a1)), (2, .one (.ptr 0 0))], [(0, .box [.dat (.int .i64) a0.1, .dat (.int .i64) a0.2.1, .dat (.sl (.flt .f32)) a0.2.2.1, .dat (.sl (.flt .f32)) a0.2.2.2.1, .dat (.sl (.flt .f32)) a0.2.2.2.2])], 1⟩ hP hN (by kernel_rfl) allNil ?_
  obtain ⟨y1, hc2, hr⟩ := of_bind hr
  obtain ⟨hg3, hr⟩ := of_guard hr
  obtain ⟨y4, hc5, hr⟩ := of_bind hr
  refine HT.reg1 [4] [⟨none, .no⟩, ⟨none, .no⟩, ⟨none, .call [.imm (.st (.pair (.int .i64) (.pair (.int .i64) (.pair (.sl (.flt .f32)) (.pair (.sl (.flt .f32)) (.sl (.flt .f32))))))), .imm (.sl (.int .i64))] [⟨false, (.sl (.sl (.flt .f32))), y1⟩] []⟩, ⟨none, .no⟩, ⟨none, .no⟩, ⟨none, .no⟩, ⟨none, .no⟩, ⟨none, .call [.imm (.sl (.flt .f32))] [⟨false, (.flt .f32), y4⟩] []⟩, ⟨none, .no⟩] ⟨[(4, .one (.dat (.flt .f32) y4))], [(0, .box [.dat (.int .i64) a0.1, .dat (.int .i64) a0.2.1, .dat (.sl (.flt .f32)) a0.2.2.1, .dat (.sl (.flt .f32)) a0.2.2.2.1, .dat (.sl (.flt .f32)) a0.2.2.2.2])], 1⟩ hP hN (by kernel_rfl) (allCons (f91_ok hc2) (allCons hg3 (allCons (f94_ok hc5) allNil))) ?_
  have hr := of_some hr
  subst hr
  exact HT.ret ⟨[.one (.dat (.flt .f32) y4)], [], [], by kernel_rfl, by kernel_rfl, rfl, by kernel_rfl, by kernel_rfl, trivial⟩

noncomputable def impl_naturalLog_B1 (q7 : Nat) (s9 : Nat × Nat) : Option ((Nat × Nat) ⊕ (Nat)) :=
  bif (fge .f64 s9.2 (4607182418800017408 : Nat)) then
    some (.inl ((fop .add .f64 (fop .quo .f64 (4607182418800017408 : Nat) s9.2) (fop .mul .f64 (fop .mul .f64 q7 q7) s9.1)), (fop .sub .f64 s9.2 (4611686018427387904 : Nat))))
  else
    some (.inr s9.1)

noncomputable def impl_naturalLog_B2  (s4 : Nat × Nat) : Option ((Nat × Nat) ⊕ ((Nat × Nat))) :=
  bif (flt .f64 s4.1 (4604930618986332160 : Nat)) then
    some (.inl ((fop .mul .f64 s4.1 (4611686018427387904 : Nat)), (fop .sub .f64 s4.2 (4607182418800017408 : Nat))))
  else
    some (.inr (s4.1, s4.2))

noncomputable def impl_naturalLog_B3  (s1 : Nat × Nat) : Option ((Nat × Nat) ⊕ ((Nat × Nat))) :=
  bif (fge .f64 s1.1 (4609434218613702656 : Nat)) then
    some (.inl ((fop .quo .f64 s1.1 (4611686018427387904 : Nat)), (fop .add .f64 s1.2 (4607182418800017408 : Nat))))
  else
    some (.inr (s1.1, s1.2))

noncomputable def impl_naturalLog (a0 : Nat) : Option (Nat) :=
  (rounds (impl_naturalLog_B3) (a0, (0 : Nat))).bind fun r3 =>
  (rounds (impl_naturalLog_B2) (r3.1, r3.2)).bind fun r6 =>
  (some (fop .quo .f64 (fop .sub .f64 r6.1 (4607182418800017408 : Nat)) (fop .add .f64 r6.1 (4607182418800017408 : Nat)))).bind fun q7 =>
  (rounds (impl_naturalLog_B1 q7) ((0 : Nat), (4627730092099895296 : Nat))).bind fun r11 =>
  (some (fop .add .f64 (fop .mul .f64 (4611686018427387904 : Nat) (fop .mul .f64 q7 r11)) (fop .mul .f64 r6.2 (4604418534313441775 : Nat)))).bind fun q12 =>
  some q12

theorem f132_ok {a0 : Nat} {r : Nat} (hr : impl_naturalLog a0 = some r) : CallOK Try.prog 132 [.imm (.flt .f64) a0] [⟨false, (.flt .f64), r⟩] [] := by
  unfold impl_naturalLog at hr
  refine CallOK.of_body (ts := [(false, (.flt .f64))]) Try.func132 rfl (by kernel_rfl) (Nat.le_of_ble_eq_true (by kernel_rfl)) fun cx hP hN hO hF => ?_
  have hO : cx.own.map Prod.fst = [] := hO
  have hF := hF rfl
  show HT cx ⟨[(0, .one (.dat (.flt .f64) a0))], [], 0⟩ _ _
  refine HT.reg1 [0] [⟨none, .no⟩] ⟨[(0, .one (.dat (.flt .f64) a0))], [], 0⟩ hP hN (by kernel_rfl) allNil ?_
  refine HT.reg1 [0, 3] [⟨none, .no⟩] ⟨[(0, .one (.dat (.flt .f64) a0)), (3, .one (.dat (.flt .f64) (0 : Nat)))], [], 0⟩ hP hN (by kernel_rfl) allNil ?_
  refine HT.seq ?_
  refine HT.block ?_
  obtain ⟨r2, hL28, hr⟩ := of_bind hr
  refine (Le.cv (s := ⟨[], [], [], false⟩) (own := []) (ps := [a0 = a0, (0 : Nat) = (0 : Nat)]) (st' := ⟨[(0, .one (.dat (.flt .f64) a0)), (3, .one (.dat (.flt .f64) (0 : Nat)))], [], 0⟩) hO (fun h => by cases h) (by kernel_rfl) ⟨rfl, rfl, trivial⟩).ht ?_
  refine HT.loopE (s := (a0, (0 : Nat))) (fun (s1 : Nat × Nat) => ⟨[(0, .one (.dat (.flt .f64) s1.1)), (3, .one (.dat (.flt .f64) s1.2))], [], 0⟩) (fun (r3 : (Nat × Nat)) => (.exit 0, ⟨[(0, .one (.dat (.flt .f64) r3.1)), (3, .one (.dat (.flt .f64) r3.2))], [], 0⟩)) hL28 ?_ (fun s1 x24 hx25 hk26 => ?_)
  · refine (qBlockX (qThen ?_))
    refine HT.seq ?_
    refine HT.block ?_
    obtain ⟨r5, hL23, hr⟩ := of_bind hr
    refine (Le.cv (s := ⟨[], [], [], false⟩) (own := []) (ps := [r2.1 = r2.1, r2.2 = r2.2]) (st' := ⟨[(0, .one (.dat (.flt .f64) r2.1)), (3, .one (.dat (.flt .f64) r2.2))], [], 0⟩) hO (fun h => by cases h) (by kernel_rfl) ⟨rfl, rfl, trivial⟩).ht ?_
    refine HT.loopE (s := (r2.1, r2.2)) (fun (s4 : Nat × Nat) => ⟨[(0, .one (.dat (.flt .f64) s4.1)), (3, .one (.dat (.flt .f64) s4.2))], [], 0⟩) (fun (r6 : (Nat × Nat)) => (.exit 2, ⟨[(0, .one (.dat (.flt .f64) r6.1)), (3, .one (.dat (.flt .f64) r6.2))], [], 0⟩)) hL23 ?_ (fun s4 x19 hx20 hk21 => ?_)
    · refine (qBlockX (qThen ?_))
      refine HT.reg1 [3, 4] [⟨none, .no⟩, ⟨none, .no⟩, ⟨none, .no⟩, ⟨none, .no⟩, ⟨none, .no⟩, ⟨none, .no⟩] ⟨[(3, .one (.dat (.flt .f64) r5.2)), (4, .one (.dat (.flt .f64) (fop .quo .f64 (fop .sub .f64 r5.1 (4607182418800017408 : Nat)) (fop .add .f64 r5.1 (4607182418800017408 : Nat)))))], [], 0⟩ hP hN (by kernel_rfl) allNil ?_
      obtain ⟨q7, hq8, hr⟩ := of_bind hr
      have hq8 := of_some2 hq8
      refine (Le.cv (s := ⟨[], [], [], false⟩) (own := []) (ps := [r5.2 = r5.2, q7 = (fop .quo .f64 (fop .sub .f64 r5.1 (4607182418800017408 : Nat)) (fop .add .f64 r5.1 (4607182418800017408 : Nat)))]) (st' := ⟨[(3, .one (.dat (.flt .f64) r5.2)), (4, .one (.dat (.flt .f64) q7))], [], 0⟩) hO (fun h => by cases h) (by kernel_rfl) ⟨rfl, hq8, trivial⟩).ht ?_
      refine HT.reg1 [3, 4, 5] [⟨none, .no⟩, ⟨none, .no⟩, ⟨none, .no⟩, ⟨none, .no⟩] ⟨[(3, .one (.dat (.flt .f64) r5.2)), (4, .one (.dat (.flt .f64) q7)), (5, .one (.dat (.flt .f64) (fop .mul .f64 q7 q7)))], [], 0⟩ hP hN (by kernel_rfl) allNil ?_
      refine HT.reg1 [3, 4, 5, 6] [⟨none, .no⟩] ⟨[(3, .one (.dat (.flt .f64) r5.2)), (4, .one (.dat (.flt .f64) q7)), (5, .one (.dat (.flt .f64) (fop .mul .f64 q7 q7))), (6, .one (.dat (.flt .f64) (0 : Nat)))], [], 0⟩ hP hN (by kernel_rfl) allNil ?_
      refine HT.seq ?_
      refine HT.reg1 [3, 4, 5, 6, 7] [⟨none, .no⟩] ⟨[(3, .one (.dat (.flt .f64) r5.2)), (4, .one (.dat (.flt .f64) q7)), (5, .one (.dat (.flt .f64) (fop .mul .f64 q7 q7))), (6, .one (.dat (.flt .f64) (0 : Nat))), (7, .one (.dat (.flt .f64) (4627730092099895296 : Nat)))], [], 0⟩ hP hN (by kernel_rfl) allNil ?_
      refine HT.block ?_
      obtain ⟨r10, hL18, hr⟩ := of_bind hr
      refine (Le.cv (s := ⟨[], [], [], false⟩) (own := []) (ps := [r5.2 = r5.2, q7 = q7, (fop .mul .f64 q7 q7) = (fop .mul .f64 q7 q7), (0 : Nat) = (0 : Nat), (4627730092099895296 : Nat) = (4627730092099895296 : Nat)]) (st' := ⟨[(3, .one (.dat (.flt .f64) r5.2)), (4, .one (.dat (.flt .f64) q7)), (5, .one (.dat (.flt .f64) (fop .mul .f64 q7 q7))), (6, .one (.dat (.flt .f64) (0 : Nat))), (7, .one (.dat (.flt .f64) (4627730092099895296 : Nat)))], [], 0⟩) hO (fun h => by cases h) (by kernel_rfl) ⟨rfl, rfl, rfl, rfl, rfl, trivial⟩).ht ?_
      refine HT.loopE (s := ((0 : Nat), (4627730092099895296 : Nat))) (fun (s9 : Nat × Nat) => ⟨[(3, .one (.dat (.flt .f64) r5.2)), (4, .one (.dat (.flt .f64) q7)), (5, .one (.dat (.flt .f64) (fop .mul .f64 q7 q7))), (6, .one (.dat (.flt .f64) s9.1)), (7, .one (.dat (.flt .f64) s9.2))], [], 0⟩) (fun (r11 : Nat) => (.exit 4, ⟨[(3, .one (.dat (.flt .f64) r5.2)), (4, .one (.dat (.flt .f64) q7)), (6, .one (.dat (.flt .f64) r11))], [], 0⟩)) hL18 ?_ (fun s9 x14 hx15 hk16 => ?_)
      · refine (qBlockX (qThen ?_))
        refine HT.reg1 [2] [⟨none, .no⟩, ⟨none, .no⟩, ⟨none, .no⟩, ⟨none, .no⟩, ⟨none, .no⟩, ⟨none, .no⟩, ⟨none, .no⟩, ⟨none, .no⟩] ⟨[(2, .one (.dat (.flt .f64) (fop .add .f64 (fop .mul .f64 (4611686018427387904 : Nat) (fop .mul .f64 q7 r10)) (fop .mul .f64 r5.2 (4604418534313441775 : Nat)))))], [], 0⟩ hP hN (by kernel_rfl) allNil ?_
        obtain ⟨q12, hq13, hr⟩ := of_bind hr
        have hq13 := of_some2 hq13
        refine (Le.cv (s := ⟨[], [], [], false⟩) (own := []) (ps := [q12 = (fop .add .f64 (fop .mul .f64 (4611686018427387904 : Nat) (fop .mul .f64 q7 r10)) (fop .mul .f64 r5.2 (4604418534313441775 : Nat)))]) (st' := ⟨[(2, .one (.dat (.flt .f64) q12))], [], 0⟩) hO (fun h => by cases h) (by kernel_rfl) ⟨hq13, trivial⟩).ht ?_
        have hr := of_some hr
        subst hr
        exact HT.ret ⟨[.one (.dat (.flt .f64) q12)], [], [], by kernel_rfl, by kernel_rfl, rfl, by kernel_rfl, by kernel_rfl, trivial⟩
      · refine HT.seq ?_
        refine HT.reg1 [3, 4, 5, 6, 7, 29] [⟨none, .no⟩, ⟨none, .no⟩] ⟨[(3, .one (.dat (.flt .f64) r5.2)), (4, .one (.dat (.flt .f64) q7)), (5, .one (.dat (.flt .f64) (fop .mul .f64 q7 q7))), (6, .one (.dat (.flt .f64) s9.1)), (7, .one (.dat (.flt .f64) s9.2)), (29, .one (.dat .bool (fge .f64 s9.2 (4607182418800017408 : Nat))))], [], 0⟩ hP hN (by kernel_rfl) allNil ?_
        rcases of_bif hx15 with ⟨hb17, hx15⟩ | ⟨hb17, hx15⟩
        · refine HT.cond1 rfl hb17 ?_
          refine HT.skip (qThen ?_)
          refine HT.seq ?_
          refine HT.block ?_
          refine HT.reg (rs := [⟨none, .no⟩, ⟨none, .no⟩, ⟨none, .no⟩, ⟨none, .no⟩, ⟨none, .no⟩, ⟨none, .no⟩, ⟨none, .no⟩]) (st' := ⟨[(6, .one (.dat (.flt .f64) (fop .add .f64 (fop .quo .f64 (4607182418800017408 : Nat) s9.2) (fop .mul .f64 (fop .mul .f64 q7 q7) s9.1)))), (37, .one (.dat (.flt .f64) (fop .add .f64 (fop .quo .f64 (4607182418800017408 : Nat) s9.2) (fop .mul .f64 (fop .mul .f64 q7 q7) s9.1)))), (36, .one (.dat (.flt .f64) (fop .mul .f64 (fop .mul .f64 q7 q7) s9.1))), (35, .one (.dat (.flt .f64) s9.1)), (34, .one (.dat (.flt .f64) (fop .mul .f64 q7 q7))), (33, .one (.dat (.flt .f64) (fop .quo .f64 (4607182418800017408 : Nat) s9.2))), (32, .one (.dat (.flt .f64) s9.2)), (3, .one (.dat (.flt .f64) r5.2)), (4, .one (.dat (.flt .f64) q7)), (5, .one (.dat (.flt .f64) (fop .mul .f64 q7 q7))), (6, .one (.dat (.flt .f64) s9.1)), (7, .one (.dat (.flt .f64) s9.2)), (29, .one (.dat .bool (fge .f64 s9.2 (4607182418800017408 : Nat))))], [], 0⟩) hP hN (by kernel_rfl) allNil (qBlock (qThen ?_))
          have hx15 := of_some hx15
          subst hx15
          refine HT.reg (rs := [⟨none, .no⟩, ⟨none, .no⟩, ⟨none, .no⟩]) (st' := ⟨[(7, .one (.dat (.flt .f64) (fop .sub .f64 s9.2 (4611686018427387904 : Nat)))), (31, .one (.dat (.flt .f64) (fop .sub .f64 s9.2 (4611686018427387904 : Nat)))), (30, .one (.dat (.flt .f64) s9.2)), (6, .one (.dat (.flt .f64) (fop .add .f64 (fop .quo .f64 (4607182418800017408 : Nat) s9.2) (fop .mul .f64 (fop .mul .f64 q7 q7) s9.1)))), (37, .one (.dat (.flt .f64) (fop .add .f64 (fop .quo .f64 (4607182418800017408 : Nat) s9.2) (fop .mul .f64 (fop .mul .f64 q7 q7) s9.1)))), (36, .one (.dat (.flt .f64) (fop .mul .f64 (fop .mul .f64 q7 q7) s9.1))), (35, .one (.dat (.flt .f64) s9.1)), (34, .one (.dat (.flt .f64) (fop .mul .f64 q7 q7))), (33, .one (.dat (.flt .f64) (fop .quo .f64 (4607182418800017408 : Nat) s9.2))), (32, .one (.dat (.flt .f64) s9.2)), (3, .one (.dat (.flt .f64) r5.2)), (4, .one (.dat (.flt .f64) q7)), (5, .one (.dat (.flt .f64) (fop .mul .f64 q7 q7))), (6, .one (.dat (.flt .f64) s9.1)), (7, .one (.dat (.flt .f64) s9.2)), (29, .one (.dat .bool (fge .f64 s9.2 (4607182418800017408 : Nat))))], [], 0⟩) hP hN (by kernel_rfl) allNil (qLoopN ⟨((fop .add .f64 (fop .quo .f64 (4607182418800017408 : Nat) s9.2) (fop .mul .f64 (fop .mul .f64 q7 q7) s9.1)), (fop .sub .f64 s9.2 (4611686018427387904 : Nat))), rfl, Le.cv (s := ⟨[], [], [], false⟩) (own := []) (ps := [r5.2 = r5.2, q7 = q7, (fop .mul .f64 q7 q7) = (fop .mul .f64 q7 q7), (fop .add .f64 (fop .quo .f64 (4607182418800017408 : Nat) s9.2) (fop .mul .f64 (fop .mul .f64 q7 q7) s9.1)) = (fop .add .f64 (fop .quo .f64 (4607182418800017408 : Nat) s9.2) (fop .mul .f64 (fop .mul .f64 q7 q7) s9.1)), (fop .sub .f64 s9.2 (4611686018427387904 : Nat)) = (fop .sub .f64 s9.2 (4611686018427387904 : Nat))]) (st' := ⟨[(3, .one (.dat (.flt .f64) r5.2)), (4, .one (.dat (.flt .f64) q7)), (5, .one (.dat (.flt .f64) (fop .mul .f64 q7 q7))), (6, .one (.dat (.flt .f64) (fop .add .f64 (fop .quo .f64 (4607182418800017408 : Nat) s9.2) (fop .mul .f64 (fop .mul .f64 q7 q7) s9.1)))), (7, .one (.dat (.flt .f64) (fop .sub .f64 s9.2 (4611686018427387904 : Nat))))], [], 0⟩) hO (fun h => by cases h) (by kernel_rfl) ⟨rfl, rfl, rfl, rfl, rfl, trivial⟩⟩)
        · refine HT.cond0 rfl hb17 ?_
          have hx15 := of_some hx15
          subst hx15
          refine (Le.cv (s := ⟨[], [], [], false⟩) (own := []) (ps := [r5.2 = r5.2, q7 = q7, s9.1 = s9.1]) (st' := ⟨[(3, .one (.dat (.flt .f64) r5.2)), (4, .one (.dat (.flt .f64) q7)), (6, .one (.dat (.flt .f64) s9.1))], [], 0⟩) hO (fun h => by cases h) (by kernel_rfl) ⟨rfl, rfl, rfl, trivial⟩).ht ?_
          exact HT.exit (qThenE (qLoopE (hk16 s9.1 rfl)))
    · refine HT.seq ?_
      refine HT.reg1 [0, 3, 15] [⟨none, .no⟩, ⟨none, .no⟩] ⟨[(0, .one (.dat (.flt .f64) s4.1)), (3, .one (.dat (.flt .f64) s4.2)), (15, .one (.dat .bool (flt .f64 s4.1 (4604930618986332160 : Nat))))], [], 0⟩ hP hN (by kernel_rfl) allNil ?_
      rcases of_bif hx20 with ⟨hb22, hx20⟩ | ⟨hb22, hx20⟩
      · refine HT.cond1 rfl hb22 ?_
        refine HT.skip (qThen ?_)
        refine HT.block ?_
        refine HT.reg1 [0, 3] [⟨none, .no⟩, ⟨none, .no⟩, ⟨none, .no⟩] ⟨[(0, .one (.dat (.flt .f64) (fop .mul .f64 s4.1 (4611686018427387904 : Nat)))), (3, .one (.dat (.flt .f64) s4.2))], [], 0⟩ hP hN (by kernel_rfl) allNil ?_
        have hx20 := of_some hx20
        subst hx20
        refine HT.reg (rs := [⟨none, .no⟩, ⟨none, .no⟩, ⟨none, .no⟩]) (st' := ⟨[(3, .one (.dat (.flt .f64) (fop .sub .f64 s4.2 (4607182418800017408 : Nat)))), (19, .one (.dat (.flt .f64) (fop .sub .f64 s4.2 (4607182418800017408 : Nat)))), (18, .one (.dat (.flt .f64) s4.2)), (0, .one (.dat (.flt .f64) (fop .mul .f64 s4.1 (4611686018427387904 : Nat)))), (3, .one (.dat (.flt .f64) s4.2))], [], 0⟩) hP hN (by kernel_rfl) allNil (qBlock (qLoopN ⟨((fop .mul .f64 s4.1 (4611686018427387904 : Nat)), (fop .sub .f64 s4.2 (4607182418800017408 : Nat))), rfl, Le.cv (s := ⟨[], [], [], false⟩) (own := []) (ps := [(fop .mul .f64 s4.1 (4611686018427387904 : Nat)) = (fop .mul .f64 s4.1 (4611686018427387904 : Nat)), (fop .sub .f64 s4.2 (4607182418800017408 : Nat)) = (fop .sub .f64 s4.2 (4607182418800017408 : Nat))]) (st' := ⟨[(0, .one (.dat (.flt .f64) (fop .mul .f64 s4.1 (4611686018427387904 : Nat)))), (3, .one (.dat (.flt .f64) (fop .sub .f64 s4.2 (4607182418800017408 : Nat))))], [], 0⟩) hO (fun h => by cases h) (by kernel_rfl) ⟨rfl, rfl, trivial⟩⟩))
      · refine HT.cond0 rfl hb22 ?_
        have hx20 := of_some hx20
        subst hx20
        refine (Le.cv (s := ⟨[], [], [], false⟩) (own := []) (ps := [s4.1 = s4.1, s4.2 = s4.2]) (st' := ⟨[(0, .one (.dat (.flt .f64) s4.1)), (3, .one (.dat (.flt .f64) s4.2))], [], 0⟩) hO (fun h => by cases h) (by kernel_rfl) ⟨rfl, rfl, trivial⟩).ht ?_
        exact HT.exit (qThenE (qLoopE (hk21 (s4.1, s4.2) rfl)))
  · refine HT.seq ?_
    refine HT.reg1 [0, 3, 9] [⟨none, .no⟩, ⟨none, .no⟩] ⟨[(0, .one (.dat (.flt .f64) s1.1)), (3, .one (.dat (.flt .f64) s1.2)), (9, .one (.dat .bool (fge .f64 s1.1 (4609434218613702656 : Nat))))], [], 0⟩ hP hN (by kernel_rfl) allNil ?_
    rcases of_bif hx25 with ⟨hb27, hx25⟩ | ⟨hb27, hx25⟩
    · refine HT.cond1 rfl hb27 ?_
      refine HT.skip (qThen ?_)
      refine HT.block ?_
      refine HT.reg1 [0, 3] [⟨none, .no⟩, ⟨none, .no⟩, ⟨none, .no⟩] ⟨[(0, .one (.dat (.flt .f64) (fop .quo .f64 s1.1 (4611686018427387904 : Nat)))), (3, .one (.dat (.flt .f64) s1.2))], [], 0⟩ hP hN (by kernel_rfl) allNil ?_
      have hx25 := of_some hx25
      subst hx25
      refine HT.reg (rs := [⟨none, .no⟩, ⟨none, .no⟩, ⟨none, .no⟩]) (st' := ⟨[(3, .one (.dat (.flt .f64) (fop .add .f64 s1.2 (4607182418800017408 : Nat)))), (13, .one (.dat (.flt .f64) (fop .add .f64 s1.2 (4607182418800017408 : Nat)))), (12, .one (.dat (.flt .f64) s1.2)), (0, .one (.dat (.flt .f64) (fop .quo .f64 s1.1 (4611686018427387904 : Nat)))), (3, .one (.dat (.flt .f64) s1.2))], [], 0⟩) hP hN (by kernel_rfl) allNil (qBlock (qLoopN ⟨((fop .quo .f64 s1.1 (4611686018427387904 : Nat)), (fop .add .f64 s1.2 (4607182418800017408 : Nat))), rfl, Le.cv (s := ⟨[], [], [], false⟩) (own := []) (ps := [(fop .quo .f64 s1.1 (4611686018427387904 : Nat)) = (fop .quo .f64 s1.1 (4611686018427387904 : Nat)), (fop .add .f64 s1.2 (4607182418800017408 : Nat)) = (fop .add .f64 s1.2 (4607182418800017408 : Nat))]) (st' := ⟨[(0, .one (.dat (.flt .f64) (fop .quo .f64 s1.1 (4611686018427387904 : Nat)))), (3, .one (.dat (.flt .f64) (fop .add .f64 s1.2 (4607182418800017408 : Nat))))], [], 0⟩) hO (fun h => by cases h) (by kernel_rfl) ⟨rfl, rfl, trivial⟩⟩))
    · refine HT.cond0 rfl hb27 ?_
      have hx25 := of_some hx25
      subst hx25
      refine (Le.cv (s := ⟨[], [], [], false⟩) (own := []) (ps := [s1.1 = s1.1, s1.2 = s1.2]) (st' := ⟨[(0, .one (.dat (.flt .f64) s1.1)), (3, .one (.dat (.flt .f64) s1.2))], [], 0⟩) hO (fun h => by cases h) (by kernel_rfl) ⟨rfl, rfl, trivial⟩).ht ?_
      exact HT.exit (qThenE (qLoopE (hk26 (s1.1, s1.2) rfl)))

noncomputable def impl_LogNumber (a0 : Nat) : Option (Nat) :=
  bif (feq .f32 a0 (0 : Nat)) then
    (math_Inf (-1 : Int)).bind fun y2 =>
    guardP (fconvOK .f64 .f32 y2 = true) (
      some (fconv .f64 .f32 y2))
  else
    (show Option (Bool) from
      bif (flt .f32 a0 (0 : Nat)) then
        some true
      else
        some (!(feq .f32 a0 a0))).bind fun v5 =>
    bif v5 then
      (math_NaN).bind fun y9 =>
      guardP (fconvOK .f64 .f32 y9 = true) (
        some (fconv .f64 .f32 y9))
    else
      (impl_IsFinite a0).bind fun y12 =>
      bif (!y12) then
        some a0
      else
        (impl_naturalLog (fconv .f32 .f64 a0)).bind fun y15 =>
        guardP (fconvOK .f64 .f32 y15 = true) (
          some (fconv .f64 .f32 y15))

theorem f101_ok {a0 : Nat} {r : Nat} (hr : impl_LogNumber a0 = some r) : CallOK Try.prog 101 [.imm (.flt .f32) a0] [⟨false, (.flt .f32), r⟩] [] := by
  unfold impl_LogNumber at hr
  refine CallOK.of_body (ts := [(false, (.flt .f32))]) Try.func101 rfl (by kernel_rfl) (Nat.le_of_ble_eq_true (by kernel_rfl)) fun cx hP hN hO hF => ?_
  have hO : cx.own.map Prod.fst = [] := hO
  have hF := hF rfl
  show HT cx ⟨[(0, .one (.dat (.flt .f32) a0))], [], 0⟩ _ _
  refine HT.reg1 [0] [⟨none, .no⟩] ⟨[(0, .one (.dat (.flt .f32) a0))], [], 0⟩ hP hN (by kernel_rfl) allNil ?_
  refine HT.seq ?_
  refine HT.block ?_
  refine HT.reg1 [0, 3] [⟨none, .no⟩, ⟨none, .no⟩, ⟨none, .no⟩] ⟨[(0, .one (.dat (.flt .f32) a0)), (3, .one (.dat .bool (feq .f32 a0 (0 : Nat))))], [], 0⟩ hP hN (by kernel_rfl) allNil ?_
  rcases of_bif hr with ⟨hb1, hr⟩ | ⟨hb1, hr⟩
  · refine HT.cond1 rfl hb1 ?_
    obtain ⟨y2, hc3, hr⟩ := of_bind hr
    obtain ⟨hg4, hr⟩ := of_guard hr
    refine HT.reg1 [2] [⟨none, .call [.imm (.int .i64)] [⟨false, (.flt .f64), y2⟩] []⟩, ⟨none, .no⟩, ⟨none, .no⟩] ⟨[(2, .one (.dat (.flt .f32) (fconv .f64 .f32 y2)))], [], 0⟩ hP hN (by kernel_rfl) (allCons (f130_ok hc3) (allCons hg4 allNil)) ?_
    have hr := of_some hr
    subst hr
    exact HT.ret (qBlockR (qThenR ⟨[.one (.dat (.flt .f32) (fconv .f64 .f32 y2))], [], [], by kernel_rfl, by kernel_rfl, rfl, by kernel_rfl, by kernel_rfl, trivial⟩))
  · refine HT.cond0 rfl hb1 ?_
    obtain ⟨v5', hT7, hr⟩ := of_bind hr
    refine HT.join (fun (v5 : Bool) => ⟨[(0, .one (.dat (.flt .f32) a0)), (8, .one (.dat .bool v5))], [], 0⟩) (fun v => v = v5') (fun v5 hv6 => ?_) (fun cont => ?_)
    · subst hv6
      rcases of_bif hr with ⟨hb8, hr⟩ | ⟨hb8, hr⟩
      · refine HT.cond1 rfl hb8 ?_
        obtain ⟨y9, hc10, hr⟩ := of_bind hr
        obtain ⟨hg11, hr⟩ := of_guard hr
        refine HT.reg1 [2] [⟨none, .call [] [⟨false, (.flt .f64), y9⟩] []⟩, ⟨none, .no⟩, ⟨none, .no⟩] ⟨[(2, .one (.dat (.flt .f32) (fconv .f64 .f32 y9)))], [], 0⟩ hP hN (by kernel_rfl) (allCons (f131_ok hc10) (allCons hg11 allNil)) ?_
        have hr := of_some hr
        subst hr
        exact HT.ret (qBlockR (qThenR ⟨[.one (.dat (.flt .f32) (fconv .f64 .f32 y9))], [], [], by kernel_rfl, by kernel_rfl, rfl, by kernel_rfl, by kernel_rfl, trivial⟩))
      · refine HT.cond0 rfl hb8 ?_
        obtain ⟨y12, hc13, hr⟩ := of_bind hr
        refine HT.reg1 [0, 18] [⟨none, .no⟩, ⟨none, .call [.imm (.flt .f32)] [⟨false, .bool, y12⟩] []⟩, ⟨none, .no⟩, ⟨none, .no⟩] ⟨[(0, .one (.dat (.flt .f32) a0)), (18, .one (.dat .bool (!y12)))], [], 0⟩ hP hN (by kernel_rfl) (allCons (f118_ok hc13) allNil) ?_
        rcases of_bif hr with ⟨hb14, hr⟩ | ⟨hb14, hr⟩
        · refine HT.cond1 rfl hb14 ?_
          refine HT.reg1 [2] [⟨none, .no⟩, ⟨none, .no⟩] ⟨[(2, .one (.dat (.flt .f32) a0))], [], 0⟩ hP hN (by kernel_rfl) allNil ?_
          have hr := of_some hr
          subst hr
          exact HT.ret (qBlockR (qThenR ⟨[.one (.dat (.flt .f32) a0)], [], [], by kernel_rfl, by kernel_rfl, rfl, by kernel_rfl, by kernel_rfl, trivial⟩))
        · refine HT.cond0 rfl hb14 ?_
          refine HT.skip (qBlock (qThen ?_))
          obtain ⟨y15, hc16, hr⟩ := of_bind hr
          obtain ⟨hg17, hr⟩ := of_guard hr
          refine HT.reg1 [2] [⟨none, .no⟩, ⟨none, .no⟩, ⟨none, .call [.imm (.flt .f64)] [⟨false, (.flt .f64), y15⟩] []⟩, ⟨none, .no⟩, ⟨none, .no⟩] ⟨[(2, .one (.dat (.flt .f32) (fconv .f64 .f32 y15)))], [], 0⟩ hP hN (by kernel_rfl) (allCons (show fconvOK .f32 .f64 a0 = true from (fconv_up _)) (allCons (f132_ok hc16) (allCons hg17 allNil))) ?_
          have hr := of_some hr
          subst hr
          exact HT.ret ⟨[.one (.dat (.flt .f32) (fconv .f64 .f32 y15))], [], [], by kernel_rfl, by kernel_rfl, rfl, by kernel_rfl, by kernel_rfl, trivial⟩
    · rcases of_bif hT7 with ⟨hb18, hT7⟩ | ⟨hb18, hT7⟩
      · refine HT.reg (rs := [⟨none, .no⟩, ⟨none, .no⟩, ⟨none, .no⟩, ⟨some true, .no⟩, ⟨some true, .no⟩, ⟨some true, .no⟩, ⟨none, .tv true⟩, ⟨none, .no⟩]) (st' := ⟨[(8, .one (.dat .bool true)), (15, .one (.dat .bool true)), (14, .und), (13, .und), (12, .und), (11, .one (.dat .bool (flt .f32 a0 (0 : Nat)))), (10, .one (.dat .bool (flt .f32 a0 (0 : Nat)))), (9, .one (.dat (.flt .f32) a0)), (0, .one (.dat (.flt .f32) a0)), (3, .one (.dat .bool (feq .f32 a0 (0 : Nat))))], [], 0⟩) hP hN (by kernel_rfl) (allCons hb18 (allCons hb18 (allCons hb18 (allCons hb18 allNil)))) (qThen ?_)
        exact (Le.cv (s := ⟨[], [], [], false⟩) (own := []) (ps := [a0 = a0, true = true]) (st' := ⟨[(0, .one (.dat (.flt .f32) a0)), (8, .one (.dat .bool true))], [], 0⟩) hO (fun h => by cases h) (by kernel_rfl) ⟨rfl, rfl, trivial⟩).ht (cont true (of_some hT7))
      · refine HT.reg (rs := [⟨none, .no⟩, ⟨none, .no⟩, ⟨none, .no⟩, ⟨some false, .no⟩, ⟨some false, .no⟩, ⟨some false, .no⟩, ⟨none, .tv false⟩, ⟨none, .no⟩]) (st' := ⟨[(8, .one (.dat .bool (!(feq .f32 a0 a0)))), (15, .one (.dat .bool (!(feq .f32 a0 a0)))), (14, .one (.dat .bool (!(feq .f32 a0 a0)))), (13, .one (.dat (.flt .f32) a0)), (12, .one (.dat (.flt .f32) a0)), (11, .one (.dat .bool (flt .f32 a0 (0 : Nat)))), (10, .one (.dat .bool (flt .f32 a0 (0 : Nat)))), (9, .one (.dat (.flt .f32) a0)), (0, .one (.dat (.flt .f32) a0)), (3, .one (.dat .bool (feq .f32 a0 (0 : Nat))))], [], 0⟩) hP hN (by kernel_rfl) (allCons hb18 (allCons hb18 (allCons hb18 (allCons hb18 allNil)))) (qThen ?_)
        exact (Le.cv (s := ⟨[], [], [], false⟩) (own := []) (ps := [a0 = a0, (!(feq .f32 a0 a0)) = (!(feq .f32 a0 a0))]) (st' := ⟨[(0, .one (.dat (.flt .f32) a0)), (8, .one (.dat .bool (!(feq .f32 a0 a0))))], [], 0⟩) hO (fun h => by cases h) (by kernel_rfl) ⟨rfl, rfl, trivial⟩).ht (cont (!(feq .f32 a0 a0)) (of_some hT7))

noncomputable def impl_within (a0 : Int) (a1 : Int) (a2 : Int) : Option (Bool) :=
  (show Option (Bool) from
    bif (decide (a0 ≥ a1)) then
      some (decide (a0 ≤ a2))
    else
      some false).bind fun v1 =>
  some v1

theorem f69_ok {a0 : Int} {a1 : Int} {a2 : Int} {r : Bool} (hr : impl_within a0 a1 a2 = some r) : CallOK Try.prog 69 [.imm (.int .i64) a0, .imm (.int .i64) a1, .imm (.int .i64) a2] [⟨false, .bool, r⟩] [] := by
  unfold impl_within at hr
  refine CallOK.of_body (ts := [(false, .bool)]) Try.func69 rfl (by kernel_rfl) (Nat.le_of_ble_eq_true (by kernel_rfl)) fun cx hP hN hO hF => ?_
  have hO : cx.own.map Prod.fst = [] := hO
  have hF := hF rfl
  show HT cx ⟨[(0, .one (.dat (.int .i64) a0)), (1, .one (.dat (.int .i64) a1)), (2, .one (.dat (.int .i64) a2))], [], 0⟩ _ _
  refine HT.reg1 [0, 1, 2] [⟨none, .no⟩] ⟨[(0, .one (.dat (.int .i64) a0)), (1, .one (.dat (.int .i64) a1)), (2, .one (.dat (.int .i64) a2))], [], 0⟩ hP hN (by kernel_rfl) allNil ?_
  obtain ⟨v1', hT3, hr⟩ := of_bind hr
  refine HT.join (fun (v1 : Bool) => ⟨[(6, .one (.dat .bool v1))], [], 0⟩) (fun v => v = v1') (fun v1 hv2 => ?_) (fun cont => ?_)
  · subst hv2
    have hr := of_some hr
    subst hr
    exact HT.ret ⟨[.one (.dat .bool v1)], [], [], by kernel_rfl, by kernel_rfl, rfl, by kernel_rfl, by kernel_rfl, trivial⟩
  · rcases of_bif hT3 with ⟨hb4, hT3⟩ | ⟨hb4, hT3⟩
    · refine HT.reg (rs := [⟨none, .no⟩, ⟨none, .no⟩, ⟨none, .no⟩, ⟨none, .no⟩, ⟨some true, .no⟩, ⟨some true, .no⟩, ⟨some true, .no⟩, ⟨none, .tv true⟩, ⟨none, .no⟩]) (st' := ⟨[(6, .one (.dat .bool (decide (a0 ≤ a2)))), (14, .one (.dat .bool (decide (a0 ≤ a2)))), (13, .one (.dat .bool (decide (a0 ≤ a2)))), (12, .one (.dat (.int .i64) a2)), (11, .one (.dat (.int .i64) a0)), (10, .one (.dat .bool (decide (a0 ≥ a1)))), (9, .one (.dat .bool (decide (a0 ≥ a1)))), (8, .one (.dat (.int .i64) a1)), (7, .one (.dat (.int .i64) a0)), (0, .one (.dat (.int .i64) a0)), (1, .one (.dat (.int .i64) a1)), (2, .one (.dat (.int .i64) a2))], [], 0⟩) hP hN (by kernel_rfl) (allCons hb4 (allCons hb4 (allCons hb4 (allCons hb4 allNil)))) (qThen ?_)
      exact (Le.cv (s := ⟨[], [], [], false⟩) (own := []) (ps := [(decide (a0 ≤ a2)) = (decide (a0 ≤ a2))]) (st' := ⟨[(6, .one (.dat .bool (decide (a0 ≤ a2))))], [], 0⟩) hO (fun h => by cases h) (by kernel_rfl) ⟨rfl, trivial⟩).ht (cont (decide (a0 ≤ a2)) (of_some hT3))
    · refine HT.reg (rs := [⟨none, .no⟩, ⟨none, .no⟩, ⟨none, .no⟩, ⟨none, .no⟩, ⟨some false, .no⟩, ⟨some false, .no⟩, ⟨some false, .no⟩, ⟨none, .tv false⟩, ⟨none, .no⟩]) (st' := ⟨[(6, .one (.dat .bool false)), (14, .one (.dat .bool false)), (13, .und), (12, .und), (11, .und), (10, .one (.dat .bool (decide (a0 ≥ a1)))), (9, .one (.dat .bool (decide (a0 ≥ a1)))), (8, .one (.dat (.int .i64) a1)), (7, .one (.dat (.int .i64) a0)), (0, .one (.dat (.int .i64) a0)), (1, .one (.dat (.int .i64) a1)), (2, .one (.dat (.int .i64) a2))], [], 0⟩) hP hN (by kernel_rfl) (allCons hb4 (allCons hb4 (allCons hb4 (allCons hb4 allNil)))) (qThen ?_)
      exact (Le.cv (s := ⟨[], [], [], false⟩) (own := []) (ps := [false = false]) (st' := ⟨[(6, .one (.dat .bool false))], [], 0⟩) hO (fun h => by cases h) (by kernel_rfl) ⟨rfl, trivial⟩).ht (cont false (of_some hT3))

noncomputable def impl_rowOf_float32 (a0 : List Nat) (a1 : Int) (a2 : Int) : Option (List Nat) :=
  guardP ((0 : Int) ≤ (wmul .i64 a2 a1) ∧ (wmul .i64 a2 a1) ≤ (wmul .i64 (wadd .i64 a2 (1 : Int)) a1) ∧ (wmul .i64 (wadd .i64 a2 (1 : Int)) a1) ≤ (wmul .i64 (wadd .i64 a2 (1 : Int)) a1) ∧ (wmul .i64 (wadd .i64 a2 (1 : Int)) a1) ≤ lenI a0) (
    some (cut a0 (wmul .i64 a2 a1) (wmul .i64 (wadd .i64 a2 (1 : Int)) a1)))

theorem f154_ok {a0 : List Nat} {a1 : Int} {a2 : Int} {r : List Nat} (hr : impl_rowOf_float32 a0 a1 a2 = some r) : CallOK Try.prog 154 [.imm (.sl (.flt .f32)) a0, .imm (.int .i64) a1, .imm (.int .i64) a2] [⟨false, (.sl (.flt .f32)), r⟩] [] := by
  unfold impl_rowOf_float32 at hr
  refine CallOK.of_body (ts := [(false, (.sl (.flt .f32)))]) Try.func154 rfl (by kernel_rfl) (Nat.le_of_ble_eq_true (by kernel_rfl)) fun cx hP hN hO hF => ?_
  have hO : cx.own.map Prod.fst = [] := hO
  have hF := hF rfl
  show HT cx ⟨[(0, .one (.dat (.sl (.flt .f32)) a0)), (1, .one (.dat (.int .i64) a1)), (2, .one (.dat (.int .i64) a2))], [], 0⟩ _ _
  refine HT.reg1 [0, 1, 2] [⟨none, .no⟩] ⟨[(0, .one (.dat (.sl (.flt .f32)) a0)), (1, .one (.dat (.int .i64) a1)), (2, .one (.dat (.int .i64) a2))], [], 0⟩ hP hN (by kernel_rfl) allNil ?_
  obtain ⟨hg1, hr⟩ := of_guard hr
  refine HT.reg1 [6] [⟨none, .no⟩, ⟨none, .no⟩, ⟨none, .no⟩, ⟨none, .no⟩, ⟨none, .no⟩, ⟨none, .no⟩, ⟨none, .no⟩, ⟨none, .no⟩, ⟨none, .no⟩, ⟨none, .no⟩, ⟨none, .no⟩, ⟨none, .no⟩, ⟨none, .no⟩, ⟨none, .no⟩] ⟨[(6, .one (.dat (.sl (.flt .f32)) (cut a0 (wmul .i64 a2 a1) (wmul .i64 (wadd .i64 a2 (1 : Int)) a1))))], [], 0⟩ hP hN (by kernel_rfl) (allCons hg1 allNil) ?_
  have hr := of_some hr
  subst hr
  exact HT.ret ⟨[.one (.dat (.sl (.flt .f32)) (cut a0 (wmul .i64 a2 a1) (wmul .i64 (wadd .i64 a2 (1 : Int)) a1)))], [], [], by kernel_rfl, by kernel_rfl, rfl, by kernel_rfl, by kernel_rfl, trivial⟩

noncomputable def impl_absolute (a0 : Nat) : Option (Nat) :=
  bif (flt .f32 a0 (0 : Nat)) then
    some (fneg .f32 a0)
  else
    some a0

theorem f71_ok {a0 : Nat} {r : Nat} (hr : impl_absolute a0 = some r) : CallOK Try.prog 71 [.imm (.flt .f32) a0] [⟨false, (.flt .f32), r⟩] [] := by
  unfold impl_absolute at hr
  refine CallOK.of_body (ts := [(false, (.flt .f32))]) Try.func71 rfl (by kernel_rfl) (Nat.le_of_ble_eq_true (by kernel_rfl)) fun cx hP hN hO hF => ?_
  have hO : cx.own.map Prod.fst = [] := hO
  have hF := hF rfl
  show HT cx ⟨[(0, .one (.dat (.flt .f32) a0))], [], 0⟩ _ _
  refine HT.reg1 [0] [⟨none, .no⟩] ⟨[(0, .one (.dat (.flt .f32) a0))], [], 0⟩ hP hN (by kernel_rfl) allNil ?_
  refine HT.seq ?_
  refine HT.reg1 [0, 4] [⟨none, .no⟩, ⟨none, .no⟩] ⟨[(0, .one (.dat (.flt .f32) a0)), (4, .one (.dat .bool (flt .f32 a0 (0 : Nat))))], [], 0⟩ hP hN (by kernel_rfl) allNil ?_
  rcases of_bif hr with ⟨hb1, hr⟩ | ⟨hb1, hr⟩
  · refine HT.cond1 rfl hb1 ?_
    refine HT.reg1 [2] [⟨none, .no⟩, ⟨none, .no⟩, ⟨none, .no⟩] ⟨[(2, .one (.dat (.flt .f32) (fneg .f32 a0)))], [], 0⟩ hP hN (by kernel_rfl) allNil ?_
    have hr := of_some hr
    subst hr
    exact HT.ret (qThenR ⟨[.one (.dat (.flt .f32) (fneg .f32 a0))], [], [], by kernel_rfl, by kernel_rfl, rfl, by kernel_rfl, by kernel_rfl, trivial⟩)
  · refine HT.cond0 rfl hb1 ?_
    refine HT.skip (qThen ?_)
    refine HT.reg1 [2] [⟨none, .no⟩, ⟨none, .no⟩] ⟨[(2, .one (.dat (.flt .f32) a0))], [], 0⟩ hP hN (by kernel_rfl) allNil ?_
    have hr := of_some hr
    subst hr
    exact HT.ret ⟨[.one (.dat (.flt .f32) a0)], [], [], by kernel_rfl, by kernel_rfl, rfl, by kernel_rfl, by kernel_rfl, trivial⟩

noncomputable def impl_areChances_B1 (a0 : List Nat) (s1 : Int) : Option ((Int) ⊕ (Unit ⊕ Unit)) :=
  bif (decide (s1 < (lenI a0))) then
    guardP ((0 : Int) ≤ s1 ∧ s1 < lenI a0) (
      (show Option (Bool) from
        bif (fge .f32 (List.getD a0 (Int.toNat s1) (0 : Nat)) (0 : Nat)) then
          some (!(fle .f32 (List.getD a0 (Int.toNat s1) (0 : Nat)) (1065353216 : Nat)))
        else
          some true).bind fun v14 =>
      bif v14 then
        some (.inr (.inr ()))
      else
        some (.inl (wadd .i64 s1 (1 : Int))))
  else
    some (.inr (.inl ()))

noncomputable def impl_areChances (a0 : List Nat) : Option (Bool) :=
  (rounds (impl_areChances_B1 a0) (0 : Int)).bind fun r2 => match r2 with
    | .inl r3 =>
      (impl_addUp a0).bind fun y4 =>
      (impl_absolute (fop .sub .f32 y4 (1065353216 : Nat))).bind fun y6 =>
      some (fle .f32 y6 (981668463 : Nat))
    | .inr r8 =>
      some false

theorem f156_ok {a0 : List Nat} {r : Bool} (hr : impl_areChances a0 = some r) : CallOK Try.prog 156 [.imm (.sl (.flt .f32)) a0] [⟨false, .bool, r⟩] [] := by
  unfold impl_areChances at hr
  refine CallOK.of_body (ts := [(false, .bool)]) Try.func156 rfl (by kernel_rfl) (Nat.le_of_ble_eq_true (by kernel_rfl)) fun cx hP hN hO hF => ?_
  have hO : cx.own.map Prod.fst = [] := hO
  have hF := hF rfl
  show HT cx ⟨[(0, .one (.dat (.sl (.flt .f32)) a0))], [], 0⟩ _ _
  refine HT.reg1 [0] [⟨none, .no⟩] ⟨[(0, .one (.dat (.sl (.flt .f32)) a0))], [], 0⟩ hP hN (by kernel_rfl) allNil ?_
  refine HT.seq ?_
  refine HT.reg1 [0, 5, 6, 7] [⟨none, .no⟩, ⟨none, .no⟩, ⟨none, .no⟩] ⟨[(0, .one (.dat (.sl (.flt .f32)) a0)), (5, .one (.dat (.sl (.flt .f32)) a0)), (6, .one (.dat (.int .i64) (lenI a0))), (7, .one (.dat (.int .i64) (0 : Int)))], [], 0⟩ hP hN (by kernel_rfl) allNil ?_
  refine HT.block ?_
  obtain ⟨r2, hL19, hr⟩ := of_bind hr
  refine (Le.cv (s := ⟨[], [], [], false⟩) (own := []) (ps := [a0 = a0, a0 = a0, (lenI a0) = (lenI a0), (0 : Int) = (0 : Int)]) (st' := ⟨[(0, .one (.dat (.sl (.flt .f32)) a0)), (5, .one (.dat (.sl (.flt .f32)) a0)), (6, .one (.dat (.int .i64) (lenI a0))), (7, .one (.dat (.int .i64) (0 : Int)))], [], 0⟩) hO (fun h => by cases h) (by kernel_rfl) ⟨rfl, rfl, rfl, rfl, trivial⟩).ht ?_
  refine HT.loopE (s := (0 : Int)) (fun (s1 : Int) => ⟨[(0, .one (.dat (.sl (.flt .f32)) a0)), (5, .one (.dat (.sl (.flt .f32)) a0)), (6, .one (.dat (.int .i64) (lenI a0))), (7, .one (.dat (.int .i64) s1))], [], 0⟩) (fun (r2 : Unit ⊕ Unit) => match r2 with | .inl r3 => (.exit 0, ⟨[(0, .one (.dat (.sl (.flt .f32)) a0))], [], 0⟩) | .inr r8 => (.ret, ⟨[(2, .one (.dat .bool false))], [], 0⟩)) hL19 ?_ (fun s1 x9 hx10 hk11 => ?_)
  · rcases r2 with r3 | r8
    · refine (qBlockX (qThen ?_))
      obtain ⟨y4, hc5, hr⟩ := of_bind hr
      obtain ⟨y6, hc7, hr⟩ := of_bind hr
      refine HT.reg1 [2] [⟨none, .no⟩, ⟨none, .call [.imm (.sl (.flt .f32))] [⟨false, (.flt .f32), y4⟩] []⟩, ⟨none, .no⟩, ⟨none, .call [.imm (.flt .f32)] [⟨false, (.flt .f32), y6⟩] []⟩, ⟨none, .no⟩, ⟨none, .no⟩] ⟨[(2, .one (.dat .bool (fle .f32 y6 (981668463 : Nat))))], [], 0⟩ hP hN (by kernel_rfl) (allCons (f94_ok hc5) (allCons (f71_ok hc7) allNil)) ?_
      have hr := of_some hr
      subst hr
      exact HT.ret ⟨[.one (.dat .bool (fle .f32 y6 (981668463 : Nat)))], [], [], by kernel_rfl, by kernel_rfl, rfl, by kernel_rfl, by kernel_rfl, trivial⟩
    · have hr := of_some hr
      subst hr
      exact (qBlockR (qThenR ⟨[.one (.dat .bool false)], [], [], by kernel_rfl, by kernel_rfl, rfl, by kernel_rfl, by kernel_rfl, trivial⟩))
  · refine HT.reg1 [0, 5, 6, 7, 8] [⟨none, .no⟩] ⟨[(0, .one (.dat (.sl (.flt .f32)) a0)), (5, .one (.dat (.sl (.flt .f32)) a0)), (6, .one (.dat (.int .i64) (lenI a0))), (7, .one (.dat (.int .i64) s1)), (8, .one (.dat .bool (decide (s1 < (lenI a0)))))], [], 0⟩ hP hN (by kernel_rfl) allNil ?_
    refine HT.seq ?_
    rcases of_bif hx10 with ⟨hb12, hx10⟩ | ⟨hb12, hx10⟩
    · refine HT.cond1 rfl hb12 ?_
      refine HT.skip (qThen ?_)
      refine HT.seq ?_
      refine HT.block ?_
      obtain ⟨hg13, hx10⟩ := of_guard hx10
      refine HT.reg1 [0, 4, 5, 6, 7] [⟨none, .no⟩, ⟨none, .no⟩, ⟨none, .no⟩] ⟨[(0, .one (.dat (.sl (.flt .f32)) a0)), (4, .one (.dat (.flt .f32) (List.getD a0 (Int.toNat s1) (0 : Nat)))), (5, .one (.dat (.sl (.flt .f32)) a0)), (6, .one (.dat (.int .i64) (lenI a0))), (7, .one (.dat (.int .i64) s1))], [], 0⟩ hP hN (by kernel_rfl) (allCons hg13 allNil) ?_
      obtain ⟨v14', hT16, hx10⟩ := of_bind hx10
      refine HT.join (fun (v14 : Bool) => ⟨[(0, .one (.dat (.sl (.flt .f32)) a0)), (5, .one (.dat (.sl (.flt .f32)) a0)), (6, .one (.dat (.int .i64) (lenI a0))), (7, .one (.dat (.int .i64) s1)), (17, .one (.dat .bool v14))], [], 0⟩) (fun v => v = v14') (fun v14 hv15 => ?_) (fun cont => ?_)
      · subst hv15
        rcases of_bif hx10 with ⟨hb17, hx10⟩ | ⟨hb17, hx10⟩
        · refine HT.cond1 rfl hb17 ?_
          refine HT.reg1 [2] [⟨none, .no⟩] ⟨[(2, .one (.dat .bool false))], [], 0⟩ hP hN (by kernel_rfl) allNil ?_
          have hx10 := of_some hx10
          subst hx10
          refine (Le.cv (s := ⟨[], [], [], false⟩) (own := []) (ps := [false = false]) (st' := ⟨[(2, .one (.dat .bool false))], [], 0⟩) hO (fun h => by cases h) (by kernel_rfl) ⟨rfl, trivial⟩).ht ?_
          exact HT.ret (qBlockR (qThenR (qLoopR (hk11 (.inr ()) rfl))))
        · refine HT.cond0 rfl hb17 ?_
          refine HT.skip (qBlock (qThen ?_))
          have hx10 := of_some hx10
          subst hx10
          refine HT.reg (rs := [⟨none, .no⟩, ⟨none, .no⟩]) (st' := ⟨[(7, .one (.dat (.int .i64) (wadd .i64 s1 (1 : Int)))), (18, .one (.dat (.int .i64) (wadd .i64 s1 (1 : Int)))), (0, .one (.dat (.sl (.flt .f32)) a0)), (5, .one (.dat (.sl (.flt .f32)) a0)), (6, .one (.dat (.int .i64) (lenI a0))), (7, .one (.dat (.int .i64) s1)), (17, .one (.dat .bool v14))], [], 0⟩) hP hN (by kernel_rfl) allNil (qLoopN ⟨(wadd .i64 s1 (1 : Int)), rfl, Le.cv (s := ⟨[], [], [], false⟩) (own := []) (ps := [a0 = a0, a0 = a0, (lenI a0) = (lenI a0), (wadd .i64 s1 (1 : Int)) = (wadd .i64 s1 (1 : Int))]) (st' := ⟨[(0, .one (.dat (.sl (.flt .f32)) a0)), (5, .one (.dat (.sl (.flt .f32)) a0)), (6, .one (.dat (.int .i64) (lenI a0))), (7, .one (.dat (.int .i64) (wadd .i64 s1 (1 : Int))))], [], 0⟩) hO (fun h => by cases h) (by kernel_rfl) ⟨rfl, rfl, rfl, rfl, trivial⟩⟩)
      · rcases of_bif hT16 with ⟨hb18, hT16⟩ | ⟨hb18, hT16⟩
        · refine HT.reg (rs := [⟨none, .no⟩, ⟨none, .no⟩, ⟨none, .no⟩, ⟨some true, .no⟩, ⟨some true, .no⟩, ⟨none, .tv true⟩, ⟨none, .no⟩]) (st' := ⟨[(17, .one (.dat .bool (!(fle .f32 (List.getD a0 (Int.toNat s1) (0 : Nat)) (1065353216 : Nat))))), (16, .one (.dat .bool (fle .f32 (List.getD a0 (Int.toNat s1) (0 : Nat)) (1065353216 : Nat)))), (15, .one (.dat .bool (fle .f32 (List.getD a0 (Int.toNat s1) (0 : Nat)) (1065353216 : Nat)))), (14, .one (.dat (.flt .f32) (List.getD a0 (Int.toNat s1) (0 : Nat)))), (13, .one (.dat .bool (fge .f32 (List.getD a0 (Int.toNat s1) (0 : Nat)) (0 : Nat)))), (12, .one (.dat .bool (fge .f32 (List.getD a0 (Int.toNat s1) (0 : Nat)) (0 : Nat)))), (11, .one (.dat (.flt .f32) (List.getD a0 (Int.toNat s1) (0 : Nat)))), (0, .one (.dat (.sl (.flt .f32)) a0)), (4, .one (.dat (.flt .f32) (List.getD a0 (Int.toNat s1) (0 : Nat)))), (5, .one (.dat (.sl (.flt .f32)) a0)), (6, .one (.dat (.int .i64) (lenI a0))), (7, .one (.dat (.int .i64) s1))], [], 0⟩) hP hN (by kernel_rfl) (allCons hb18 (allCons hb18 (allCons hb18 allNil))) (qThen ?_)
          exact (Le.cv (s := ⟨[], [], [], false⟩) (own := []) (ps := [a0 = a0, a0 = a0, (lenI a0) = (lenI a0), s1 = s1, (!(fle .f32 (List.getD a0 (Int.toNat s1) (0 : Nat)) (1065353216 : Nat))) = (!(fle .f32 (List.getD a0 (Int.toNat s1) (0 : Nat)) (1065353216 : Nat)))]) (st' := ⟨[(0, .one (.dat (.sl (.flt .f32)) a0)), (5, .one (.dat (.sl (.flt .f32)) a0)), (6, .one (.dat (.int .i64) (lenI a0))), (7, .one (.dat (.int .i64) s1)), (17, .one (.dat .bool (!(fle .f32 (List.getD a0 (Int.toNat s1) (0 : Nat)) (1065353216 : Nat)))))], [], 0⟩) hO (fun h => by cases h) (by kernel_rfl) ⟨rfl, rfl, rfl, rfl, rfl, trivial⟩).ht (cont (!(fle .f32 (List.getD a0 (Int.toNat s1) (0 : Nat)) (1065353216 : Nat))) (of_some hT16))
        · refine HT.reg (rs := [⟨none, .no⟩, ⟨none, .no⟩, ⟨none, .no⟩, ⟨some false, .no⟩, ⟨some false, .no⟩, ⟨none, .tv false⟩, ⟨none, .no⟩]) (st' := ⟨[(17, .one (.dat .bool true)), (16, .one (.dat .bool false)), (15, .und), (14, .und), (13, .one (.dat .bool (fge .f32 (List.getD a0 (Int.toNat s1) (0 : Nat)) (0 : Nat)))), (12, .one (.dat .bool (fge .f32 (List.getD a0 (Int.toNat s1) (0 : Nat)) (0 : Nat)))), (11, .one (.dat (.flt .f32) (List.getD a0 (Int.toNat s1) (0 : Nat)))), (0, .one (.dat (.sl (.flt .f32)) a0)), (4, .one (.dat (.flt .f32) (List.getD a0 (Int.toNat s1) (0 : Nat)))), (5, .one (.dat (.sl (.flt .f32)) a0)), (6, .one (.dat (.int .i64) (lenI a0))), (7, .one (.dat (.int .i64) s1))], [], 0⟩) hP hN (by kernel_rfl) (allCons hb18 (allCons hb18 (allCons hb18 allNil))) (qThen ?_)
          exact (Le.cv (s := ⟨[], [], [], false⟩) (own := []) (ps := [a0 = a0, a0 = a0, (lenI a0) = (lenI a0), s1 = s1, true = true]) (st' := ⟨[(0, .one (.dat (.sl (.flt .f32)) a0)), (5, .one (.dat (.sl (.flt .f32)) a0)), (6, .one (.dat (.int .i64) (lenI a0))), (7, .one (.dat (.int .i64) s1)), (17, .one (.dat .bool true))], [], 0⟩) hO (fun h => by cases h) (by kernel_rfl) ⟨rfl, rfl, rfl, rfl, rfl, trivial⟩).ht (cont true (of_some hT16))
    · refine HT.cond0 rfl hb12 ?_
      have hx10 := of_some hx10
      subst hx10
      refine (Le.cv (s := ⟨[], [], [], false⟩) (own := []) (ps := [a0 = a0]) (st' := ⟨[(0, .one (.dat (.sl (.flt .f32)) a0))], [], 0⟩) hO (fun h => by cases h) (by kernel_rfl) ⟨rfl, trivial⟩).ht ?_
      exact HT.exit (qThenE (qLoopE (hk11 (.inl ()) rfl)))

noncomputable def impl_areRows_B1 (a0 : List Nat) (a1 : Int) (a2 : Int) (s2 : Int) : Option ((Int) ⊕ (Unit ⊕ Unit)) :=
  bif (decide (s2 < a1)) then
    (impl_rowOf_float32 a0 a2 s2).bind fun y10 =>
    (impl_areChances y10).bind fun y12 =>
    bif (!y12) then
      some (.inr (.inr ()))
    else
      some (.inl (wadd .i64 s2 (1 : Int)))
  else
    some (.inr (.inl ()))

noncomputable def impl_areRows (a0 : List Nat) (a1 : Int) (a2 : Int) : Option (Bool) :=
  bif ((lenI a0) != (wmul .i64 a1 a2)) then
    some false
  else
    (rounds (impl_areRows_B1 a0 a1 a2) (0 : Int)).bind fun r3 => match r3 with
      | .inl r4 =>
        some true
      | .inr r5 =>
        some false

theorem f142_ok {a0 : List Nat} {a1 : Int} {a2 : Int} {r : Bool} (hr : impl_areRows a0 a1 a2 = some r) : CallOK Try.prog 142 [.imm (.sl (.flt .f32)) a0, .imm (.int .i64) a1, .imm (.int .i64) a2] [⟨false, .bool, r⟩] [] := by
  unfold impl_areRows at hr
  refine CallOK.of_body (ts := [(false, .bool)]) Try.func142 rfl (by kernel_rfl) (Nat.le_of_ble_eq_true (by kernel_rfl)) fun cx hP hN hO hF => ?_
  have hO : cx.own.map Prod.fst = [] := hO
  have hF := hF rfl
  show HT cx ⟨[(0, .one (.dat (.sl (.flt .f32)) a0)), (1, .one (.dat (.int .i64) a1)), (2, .one (.dat (.int .i64) a2))], [], 0⟩ _ _
  refine HT.reg1 [0, 1, 2] [⟨none, .no⟩] ⟨[(0, .one (.dat (.sl (.flt .f32)) a0)), (1, .one (.dat (.int .i64) a1)), (2, .one (.dat (.int .i64) a2))], [], 0⟩ hP hN (by kernel_rfl) allNil ?_
  refine HT.seq ?_
  refine HT.reg1 [0, 1, 2, 13] [⟨none, .no⟩, ⟨none, .no⟩, ⟨none, .no⟩, ⟨none, .no⟩, ⟨none, .no⟩, ⟨none, .no⟩] ⟨[(0, .one (.dat (.sl (.flt .f32)) a0)), (1, .one (.dat (.int .i64) a1)), (2, .one (.dat (.int .i64) a2)), (13, .one (.dat .bool ((lenI a0) != (wmul .i64 a1 a2))))], [], 0⟩ hP hN (by kernel_rfl) allNil ?_
  rcases of_bif hr with ⟨hb1, hr⟩ | ⟨hb1, hr⟩
  · refine HT.cond1 rfl hb1 ?_
    refine HT.reg1 [6] [⟨none, .no⟩] ⟨[(6, .one (.dat .bool false))], [], 0⟩ hP hN (by kernel_rfl) allNil ?_
    have hr := of_some hr
    subst hr
    exact HT.ret (qThenR ⟨[.one (.dat .bool false)], [], [], by kernel_rfl, by kernel_rfl, rfl, by kernel_rfl, by kernel_rfl, trivial⟩)
  · refine HT.cond0 rfl hb1 ?_
    refine HT.skip (qThen ?_)
    refine HT.seq ?_
    refine HT.reg1 [0, 2, 14, 15] [⟨none, .no⟩, ⟨none, .no⟩] ⟨[(0, .one (.dat (.sl (.flt .f32)) a0)), (2, .one (.dat (.int .i64) a2)), (14, .one (.dat (.int .i64) a1)), (15, .one (.dat (.int .i64) (0 : Int)))], [], 0⟩ hP hN (by kernel_rfl) allNil ?_
    refine HT.block ?_
    obtain ⟨r3, hL15, hr⟩ := of_bind hr
    refine (Le.cv (s := ⟨[], [], [], false⟩) (own := []) (ps := [a0 = a0, a2 = a2, a1 = a1, (0 : Int) = (0 : Int)]) (st' := ⟨[(0, .one (.dat (.sl (.flt .f32)) a0)), (2, .one (.dat (.int .i64) a2)), (14, .one (.dat (.int .i64) a1)), (15, .one (.dat (.int .i64) (0 : Int)))], [], 0⟩) hO (fun h => by cases h) (by kernel_rfl) ⟨rfl, rfl, rfl, rfl, trivial⟩).ht ?_
    refine HT.loopE (s := (0 : Int)) (fun (s2 : Int) => ⟨[(0, .one (.dat (.sl (.flt .f32)) a0)), (2, .one (.dat (.int .i64) a2)), (14, .one (.dat (.int .i64) a1)), (15, .one (.dat (.int .i64) s2))], [], 0⟩) (fun (r3 : Unit ⊕ Unit) => match r3 with | .inl r4 => (.exit 0, ⟨[], [], 0⟩) | .inr r5 => (.ret, ⟨[(6, .one (.dat .bool false))], [], 0⟩)) hL15 ?_ (fun s2 x6 hx7 hk8 => ?_)
    · rcases r3 with r4 | r5
      · refine (qBlockX (qThen ?_))
        refine HT.reg1 [6] [⟨none, .no⟩] ⟨[(6, .one (.dat .bool true))], [], 0⟩ hP hN (by kernel_rfl) allNil ?_
        have hr := of_some hr
        subst hr
        exact HT.ret ⟨[.one (.dat .bool true)], [], [], by kernel_rfl, by kernel_rfl, rfl, by kernel_rfl, by kernel_rfl, trivial⟩
      · have hr := of_some hr
        subst hr
        exact (qBlockR (qThenR ⟨[.one (.dat .bool false)], [], [], by kernel_rfl, by kernel_rfl, rfl, by kernel_rfl, by kernel_rfl, trivial⟩))
    · refine HT.reg1 [0, 2, 14, 15, 16] [⟨none, .no⟩] ⟨[(0, .one (.dat (.sl (.flt .f32)) a0)), (2, .one (.dat (.int .i64) a2)), (14, .one (.dat (.int .i64) a1)), (15, .one (.dat (.int .i64) s2)), (16, .one (.dat .bool (decide (s2 < a1))))], [], 0⟩ hP hN (by kernel_rfl) allNil ?_
      refine HT.seq ?_
      rcases of_bif hx7 with ⟨hb9, hx7⟩ | ⟨hb9, hx7⟩
      · refine HT.cond1 rfl hb9 ?_
        refine HT.skip (qThen ?_)
        refine HT.seq ?_
        refine HT.block ?_
        refine HT.reg1 [0, 2, 7, 14, 15] [⟨none, .no⟩, ⟨none, .no⟩] ⟨[(0, .one (.dat (.sl (.flt .f32)) a0)), (2, .one (.dat (.int .i64) a2)), (7, .one (.dat (.int .i64) s2)), (14, .one (.dat (.int .i64) a1)), (15, .one (.dat (.int .i64) s2))], [], 0⟩ hP hN (by kernel_rfl) allNil ?_
        obtain ⟨y10, hc11, hx7⟩ := of_bind hx7
        obtain ⟨y12, hc13, hx7⟩ := of_bind hx7
        refine HT.reg1 [0, 2, 14, 15, 23] [⟨none, .no⟩, ⟨none, .no⟩, ⟨none, .no⟩, ⟨none, .call [.imm (.sl (.flt .f32)), .imm (.int .i64), .imm (.int .i64)] [⟨false, (.sl (.flt .f32)), y10⟩] []⟩, ⟨none, .call [.imm (.sl (.flt .f32))] [⟨false, .bool, y12⟩] []⟩, ⟨none, .no⟩] ⟨[(0, .one (.dat (.sl (.flt .f32)) a0)), (2, .one (.dat (.int .i64) a2)), (14, .one (.dat (.int .i64) a1)), (15, .one (.dat (.int .i64) s2)), (23, .one (.dat .bool (!y12)))], [], 0⟩ hP hN (by kernel_rfl) (allCons (f154_ok hc11) (allCons (f156_ok hc13) allNil)) ?_
        rcases of_bif hx7 with ⟨hb14, hx7⟩ | ⟨hb14, hx7⟩
        · refine HT.cond1 rfl hb14 ?_
          refine HT.reg1 [6] [⟨none, .no⟩] ⟨[(6, .one (.dat .bool false))], [], 0⟩ hP hN (by kernel_rfl) allNil ?_
          have hx7 := of_some hx7
          subst hx7
          refine (Le.cv (s := ⟨[], [], [], false⟩) (own := []) (ps := [false = false]) (st' := ⟨[(6, .one (.dat .bool false))], [], 0⟩) hO (fun h => by cases h) (by kernel_rfl) ⟨rfl, trivial⟩).ht ?_
          exact HT.ret (qBlockR (qThenR (qLoopR (hk8 (.inr ()) rfl))))
        · refine HT.cond0 rfl hb14 ?_
          refine HT.skip (qBlock (qThen ?_))
          have hx7 := of_some hx7
          subst hx7
          refine HT.reg (rs := [⟨none, .no⟩, ⟨none, .no⟩]) (st' := ⟨[(15, .one (.dat (.int .i64) (wadd .i64 s2 (1 : Int)))), (24, .one (.dat (.int .i64) (wadd .i64 s2 (1 : Int)))), (0, .one (.dat (.sl (.flt .f32)) a0)), (2, .one (.dat (.int .i64) a2)), (14, .one (.dat (.int .i64) a1)), (15, .one (.dat (.int .i64) s2)), (23, .one (.dat .bool (!y12)))], [], 0⟩) hP hN (by kernel_rfl) allNil (qLoopN ⟨(wadd .i64 s2 (1 : Int)), rfl, Le.cv (s := ⟨[], [], [], false⟩) (own := []) (ps := [a0 = a0, a2 = a2, a1 = a1, (wadd .i64 s2 (1 : Int)) = (wadd .i64 s2 (1 : Int))]) (st' := ⟨[(0, .one (.dat (.sl (.flt .f32)) a0)), (2, .one (.dat (.int .i64) a2)), (14, .one (.dat (.int .i64) a1)), (15, .one (.dat (.int .i64) (wadd .i64 s2 (1 : Int))))], [], 0⟩) hO (fun h => by cases h) (by kernel_rfl) ⟨rfl, rfl, rfl, rfl, trivial⟩⟩)
      · refine HT.cond0 rfl hb9 ?_
        have hx7 := of_some hx7
        subst hx7
        refine (Le.cv (s := ⟨[], [], [], false⟩) (own := []) (ps := []) (st' := ⟨[], [], 0⟩) hO (fun h => by cases h) (by kernel_rfl) trivial).ht ?_
        exact HT.exit (qThenE (qLoopE (hk8 (.inl ()) rfl)))

noncomputable def impl_ValidModel (a0 : Int × Int × List Nat × List Nat × List Nat) : Option (Bool) :=
  (show Option (Bool) from
    (impl_within a0.1 (1 : Int) (5 : Int)).bind fun y4 =>
    bif y4 then
      (impl_within a0.2.1 (1 : Int) (4 : Int)).bind fun y7 =>
      bif y7 then
        (impl_areRows a0.2.2.1 (1 : Int) a0.1).bind fun y10 =>
        bif y10 then
          (impl_areRows a0.2.2.2.1 a0.1 a0.1).bind fun y13 =>
          bif y13 then
            (impl_areRows a0.2.2.2.2 a0.1 a0.2.1).bind fun y16 =>
            some y16
          else
            some false
        else
          some false
      else
        some false
    else
      some false).bind fun v1 =>
  some v1

theorem f117_ok {a0 : Int × Int × List Nat × List Nat × List Nat} {r : Bool} (hr : impl_ValidModel a0 = some r) : CallOK Try.prog 117 [.imm (.st (.pair (.int .i64) (.pair (.int .i64) (.pair (.sl (.flt .f32)) (.pair (.sl (.flt .f32)) (.sl (.flt .f32))))))) a0] [⟨false, .bool, r⟩] [] := by
  unfold impl_ValidModel at hr
  refine CallOK.of_body (ts := [(false, .bool)]) Try.func117 rfl (by kernel_rfl) (Nat.le_of_ble_eq_true (by kernel_rfl)) fun cx hP hN hO hF => ?_
  have hO : cx.own.map Prod.fst = [] := hO
  have hF := hF rfl
  show HT cx ⟨[(0, .agg [.dat (.int .i64) a0.1, .dat (.int .i64) a0.2.1, .dat (.sl (.flt .f32)) a0.2.2.1, .dat (.sl (.flt .f32)) a0.2.2.2.1, .dat (.sl (.flt .f32)) a0.2.2.2.2])], [], 0⟩ _ _
  refine HT.reg1 [1] [⟨none, .no⟩, ⟨none, .no⟩] ⟨[(1, .one (.ptr 0 0))], [(0, .box [.dat (.int .i64) a0.1, .dat (.int .i64) a0.2.1, .dat (.sl (.flt .f32)) a0.2.2.1, .dat (.sl (.flt .f32)) a0.2.2.2.1, .dat (.sl (.flt .f32)) a0.2.2.2.2])], 1⟩ hP hN (by kernel_rfl) allNil ?_
  obtain ⟨v1', hT3, hr⟩ := of_bind hr
  refine HT.join (fun (v1 : Bool) => ⟨[(2, .one (.dat .bool v1))], [], 0⟩) (fun v => v = v1') (fun v1 hv2 => ?_) (fun cont => ?_)
  · subst hv2
    have hr := of_some hr
    subst hr
    exact HT.ret ⟨[.one (.dat .bool v1)], [], [], by kernel_rfl, by kernel_rfl, rfl, by kernel_rfl, by kernel_rfl, trivial⟩
  · obtain ⟨y4, hc5, hT3⟩ := of_bind hT3
    rcases of_bif hT3 with ⟨hb6, hT3⟩ | ⟨hb6, hT3⟩
    · obtain ⟨y7, hc8, hT3⟩ := of_bind hT3
      rcases of_bif hT3 with ⟨hb9, hT3⟩ | ⟨hb9, hT3⟩
      · obtain ⟨y10, hc11, hT3⟩ := of_bind hT3
        rcases of_bif hT3 with ⟨hb12, hT3⟩ | ⟨hb12, hT3⟩
        · obtain ⟨y13, hc14, hT3⟩ := of_bind hT3
          rcases of_bif hT3 with ⟨hb15, hT3⟩ | ⟨hb15, hT3⟩
          · obtain ⟨y16, hc17, hT3⟩ := of_bind hT3
            refine HT.reg (rs := [⟨none, .no⟩, ⟨none, .no⟩, ⟨none, .call [.imm (.int .i64), .imm (.int .i64), .imm (.int .i64)] [⟨false, .bool, y4⟩] []⟩, ⟨none, .no⟩, ⟨some true, .no⟩, ⟨some true, .no⟩, ⟨some true, .call [.imm (.int .i64), .imm (.int .i64), .imm (.int .i64)] [⟨false, .bool, y7⟩] []⟩, ⟨none, .tv true⟩, ⟨none, .no⟩, ⟨some true, .no⟩, ⟨some true, .no⟩, ⟨some true, .no⟩, ⟨some true, .no⟩, ⟨some true, .call [.imm (.sl (.flt .f32)), .imm (.int .i64), .imm (.int .i64)] [⟨false, .bool, y10⟩] []⟩, ⟨none, .tv true⟩, ⟨none, .no⟩, ⟨some true, .no⟩, ⟨some true, .no⟩, ⟨some true, .no⟩, ⟨some true, .no⟩, ⟨some true, .no⟩, ⟨some true, .no⟩, ⟨some true, .call [.imm (.sl (.flt .f32)), .imm (.int .i64), .imm (.int .i64)] [⟨false, .bool, y13⟩] []⟩, ⟨none, .tv true⟩, ⟨none, .no⟩, ⟨some true, .no⟩, ⟨some true, .no⟩, ⟨some true, .no⟩, ⟨some true, .no⟩, ⟨some true, .no⟩, ⟨some true, .no⟩, ⟨some true, .call [.imm (.sl (.flt .f32)), .imm (.int .i64), .imm (.int .i64)] [⟨false, .bool, y16⟩] []⟩, ⟨none, .tv true⟩, ⟨none, .no⟩]) (st' := ⟨[(2, .one (.dat .bool y16)), (35, .one (.dat .bool y16)), (34, .one (.dat .bool y16)), (33, .one (.dat (.int .i64) a0.2.1)), (32, .one (.ptr 0 1)), (31, .one (.dat (.int .i64) a0.1)), (30, .one (.ptr 0 0)), (29, .one (.dat (.sl (.flt .f32)) a0.2.2.2.2)), (28, .one (.ptr 0 4)), (27, .one (.dat .bool y13)), (26, .one (.dat .bool y13)), (25, .one (.dat .bool y13)), (24, .one (.dat (.int .i64) a0.1)), (23, .one (.ptr 0 0)), (22, .one (.dat (.int .i64) a0.1)), (21, .one (.ptr 0 0)), (20, .one (.dat (.sl (.flt .f32)) a0.2.2.2.1)), (19, .one (.ptr 0 3)), (18, .one (.dat .bool y10)), (17, .one (.dat .bool y10)), (16, .one (.dat .bool y10)), (15, .one (.dat (.int .i64) a0.1)), (14, .one (.ptr 0 0)), (13, .one (.dat (.sl (.flt .f32)) a0.2.2.1)), (12, .one (.ptr 0 2)), (11, .one (.dat .bool y7)), (10, .one (.dat .bool y7)), (9, .one (.dat .bool y7)), (8, .one (.dat (.int .i64) a0.2.1)), (7, .one (.ptr 0 1)), (6, .one (.dat .bool y4)), (5, .one (.dat .bool y4)), (4, .one (.dat (.int .i64) a0.1)), (3, .one (.ptr 0 0)), (1, .one (.ptr 0 0))], [(0, .box [.dat (.int .i64) a0.1, .dat (.int .i64) a0.2.1, .dat (.sl (.flt .f32)) a0.2.2.1, .dat (.sl (.flt .f32)) a0.2.2.2.1, .dat (.sl (.flt .f32)) a0.2.2.2.2])], 1⟩) hP hN (by kernel_rfl) (allCons (f69_ok hc5) (allCons hb6 (allCons hb6 (allCons hb6 (allCons (f69_ok hc8) (allCons hb6 (allCons hb9 (allCons hb9 (allCons hb9 (allCons hb9 (allCons hb9 (allCons (f142_ok hc11) (allCons hb9 (allCons hb12 (allCons hb12 (allCons hb12 (allCons hb12 (allCons hb12 (allCons hb12 (allCons hb12 (allCons (f142_ok hc14) (allCons hb12 (allCons hb15 (allCons hb15 (allCons hb15 (allCons hb15 (allCons hb15 (allCons hb15 (allCons hb15 (allCons (f142_ok hc17) (allCons hb15 allNil))))))))))))))))))))))))))))))) (qThen ?_)
            exact (Le.cv (s := ⟨[], [], [], false⟩) (own := []) (ps := [y16 = y16]) (st' := ⟨[(2, .one (.dat .bool y16))], [], 0⟩) hO (fun h => by cases h) (by kernel_rfl) ⟨rfl, trivial⟩).ht (cont y16 (of_some hT3))
          · refine HT.reg (rs := [⟨none, .no⟩, ⟨none, .no⟩, ⟨none, .call [.imm (.int .i64), .imm (.int .i64), .imm (.int .i64)] [⟨false, .bool, y4⟩] []⟩, ⟨none, .no⟩, ⟨some true, .no⟩, ⟨some true, .no⟩, ⟨some true, .call [.imm (.int .i64), .imm (.int .i64), .imm (.int .i64)] [⟨false, .bool, y7⟩] []⟩, ⟨none, .tv true⟩, ⟨none, .no⟩, ⟨some true, .no⟩, ⟨some true, .no⟩, ⟨some true, .no⟩, ⟨some true, .no⟩, ⟨some true, .call [.imm (.sl (.flt .f32)), .imm (.int .i64), .imm (.int .i64)] [⟨false, .bool, y10⟩] []⟩, ⟨none, .tv true⟩, ⟨none, .no⟩, ⟨some true, .no⟩, ⟨some true, .no⟩, ⟨some true, .no⟩, ⟨some true, .no⟩, ⟨some true, .no⟩, ⟨some true, .no⟩, ⟨some true, .call [.imm (.sl (.flt .f32)), .imm (.int .i64), .imm (.int .i64)] [⟨false, .bool, y13⟩] []⟩, ⟨none, .tv true⟩, ⟨none, .no⟩, ⟨some false, .no⟩, ⟨some false, .no⟩, ⟨some false, .no⟩, ⟨some false, .no⟩, ⟨some false, .no⟩, ⟨some false, .no⟩, ⟨some false, .no⟩, ⟨none, .tv false⟩, ⟨none, .no⟩]) (st' := ⟨[(2, .one (.dat .bool false)), (35, .one (.dat .bool false)), (34, .und), (33, .und), (32, .und), (31, .und), (30, .und), (29, .und), (28, .und), (27, .one (.dat .bool y13)), (26, .one (.dat .bool y13)), (25, .one (.dat .bool y13)), (24, .one (.dat (.int .i64) a0.1)), (23, .one (.ptr 0 0)), (22, .one (.dat (.int .i64) a0.1)), (21, .one (.ptr 0 0)), (20, .one (.dat (.sl (.flt .f32)) a0.2.2.2.1)), (19, .one (.ptr 0 3)), (18, .one (.dat .bool y10)), (17, .one (.dat .bool y10)), (16, .one (.dat .bool y10)), (15, .one (.dat (.int .i64) a0.1)), (14, .one (.ptr 0 0)), (13, .one (.dat (.sl (.flt .f32)) a0.2.2.1)), (12, .one (.ptr 0 2)), (11, .one (.dat .bool y7)), (10, .one (.dat .bool y7)), (9, .one (.dat .bool y7)), (8, .one (.dat (.int .i64) a0.2.1)), (7, .one (.ptr 0 1)), (6, .one (.dat .bool y4)), (5, .one (.dat .bool y4)), (4, .one (.dat (.int .i64) a0.1)), (3, .one (.ptr 0 0)), (1, .one (.ptr 0 0))], [(0, .box [.dat (.int .i64) a0.1, .dat (.int .i64) a0.2.1, .dat (.sl (.flt .f32)) a0.2.2.1, .dat (.sl (.flt .f32)) a0.2.2.2.1, .dat (.sl (.flt .f32)) a0.2.2.2.2])], 1⟩) hP hN (by kernel_rfl) (allCons (f69_ok hc5) (allCons hb6 (allCons hb6 (allCons hb6 (allCons (f69_ok hc8) (allCons hb6 (allCons hb9 (allCons hb9 (allCons hb9 (allCons hb9 (allCons hb9 (allCons (f142_ok hc11) (allCons hb9 (allCons hb12 (allCons hb12 (allCons hb12 (allCons hb12 (allCons hb12 (allCons hb12 (allCons hb12 (allCons (f142_ok hc14) (allCons hb12 (allCons hb15 (allCons hb15 (allCons hb15 (allCons hb15 (allCons hb15 (allCons hb15 (allCons hb15 (allCons hb15 allNil)))))))))))))))))))))))))))))) (qThen ?_)
            exact (Le.cv (s := ⟨[], [], [], false⟩) (own := []) (ps := [false = false]) (st' := ⟨[(2, .one (.dat .bool false))], [], 0⟩) hO (fun h => by cases h) (by kernel_rfl) ⟨rfl, trivial⟩).ht (cont false (of_some hT3))
        · refine HT.reg (rs := [⟨none, .no⟩, ⟨none, .no⟩, ⟨none, .call [.imm (.int .i64), .imm (.int .i64), .imm (.int .i64)] [⟨false, .bool, y4⟩] []⟩, ⟨none, .no⟩, ⟨some true, .no⟩, ⟨some true, .no⟩, ⟨some true, .call [.imm (.int .i64), .imm (.int .i64), .imm (.int .i64)] [⟨false, .bool, y7⟩] []⟩, ⟨none, .tv true⟩, ⟨none, .no⟩, ⟨some true, .no⟩, ⟨some true, .no⟩, ⟨some true, .no⟩, ⟨some true, .no⟩, ⟨some true, .call [.imm (.sl (.flt .f32)), .imm (.int .i64), .imm (.int .i64)] [⟨false, .bool, y10⟩] []⟩, ⟨none, .tv true⟩, ⟨none, .no⟩, ⟨some false, .no⟩, ⟨some false, .no⟩, ⟨some false, .no⟩, ⟨some false, .no⟩, ⟨some false, .no⟩, ⟨some false, .no⟩, ⟨some false, .no⟩, ⟨none, .tv false⟩, ⟨none, .no⟩, ⟨some false, .no⟩, ⟨some false, .no⟩, ⟨some false, .no⟩, ⟨some false, .no⟩, ⟨some false, .no⟩, ⟨some false, .no⟩, ⟨some false, .no⟩, ⟨none, .tv false⟩, ⟨none, .no⟩]) (st' := ⟨[(2, .one (.dat .bool false)), (35, .one (.dat .bool false)), (34, .und), (33, .und), (32, .und), (31, .und), (30, .und), (29, .und), (28, .und), (27, .one (.dat .bool false)), (26, .one (.dat .bool false)), (25, .und), (24, .und), (23, .und), (22, .und), (21, .und), (20, .und), (19, .und), (18, .one (.dat .bool y10)), (17, .one (.dat .bool y10)), (16, .one (.dat .bool y10)), (15, .one (.dat (.int .i64) a0.1)), (14, .one (.ptr 0 0)), (13, .one (.dat (.sl (.flt .f32)) a0.2.2.1)), (12, .one (.ptr 0 2)), (11, .one (.dat .bool y7)), (10, .one (.dat .bool y7)), (9, .one (.dat .bool y7)), (8, .one (.dat (.int .i64) a0.2.1)), (7, .one (.ptr 0 1)), (6, .one (.dat .bool y4)), (5, .one (.dat .bool y4)), (4, .one (.dat (.int .i64) a0.1)), (3, .one (.ptr 0 0)), (1, .one (.ptr 0 0))], [(0, .box [.dat (.int .i64) a0.1, .dat (.int .i64) a0.2.1, .dat (.sl (.flt .f32)) a0.2.2.1, .dat (.sl (.flt .f32)) a0.2.2.2.1, .dat (.sl (.flt .f32)) a0.2.2.2.2])], 1⟩) hP hN (by kernel_rfl) (allCons (f69_ok hc5) (allCons hb6 (allCons hb6 (allCons hb6 (allCons (f69_ok hc8) (allCons hb6 (allCons hb9 (allCons hb9 (allCons hb9 (allCons hb9 (allCons hb9 (allCons (f142_ok hc11) (allCons hb9 (allCons hb12 (allCons hb12 (allCons hb12 (allCons hb12 (allCons hb12 (allCons hb12 (allCons hb12 (allCons hb12 (allCons (rfl : false = false) (allCons (rfl : false = false) (allCons (rfl : false = false) (allCons (rfl : false = false) (allCons (rfl : false = false) (allCons (rfl : false = false) (allCons (rfl : false = false) (allCons (rfl : false = false) allNil))))))))))))))))))))))))))))) (qThen ?_)
          exact (Le.cv (s := ⟨[], [], [], false⟩) (own := []) (ps := [false = false]) (st' := ⟨[(2, .one (.dat .bool false))], [], 0⟩) hO (fun h => by cases h) (by kernel_rfl) ⟨rfl, trivial⟩).ht (cont false (of_some hT3))
      · refine HT.reg (rs := [⟨none, .no⟩, ⟨none, .no⟩, ⟨none, .call [.imm (.int .i64), .imm (.int .i64), .imm (.int .i64)] [⟨false, .bool, y4⟩] []⟩, ⟨none, .no⟩, ⟨some true, .no⟩, ⟨some true, .no⟩, ⟨some true, .call [.imm (.int .i64), .imm (.int .i64), .imm (.int .i64)] [⟨false, .bool, y7⟩] []⟩, ⟨none, .tv true⟩, ⟨none, .no⟩, ⟨some false, .no⟩, ⟨some false, .no⟩, ⟨some false, .no⟩, ⟨some false, .no⟩, ⟨some false, .no⟩, ⟨none, .tv false⟩, ⟨none, .no⟩, ⟨some false, .no⟩, ⟨some false, .no⟩, ⟨some false, .no⟩, ⟨some false, .no⟩, ⟨some false, .no⟩, ⟨some false, .no⟩, ⟨some false, .no⟩, ⟨none, .tv false⟩, ⟨none, .no⟩, ⟨some false, .no⟩, ⟨some false, .no⟩, ⟨some false, .no⟩, ⟨some false, .no⟩, ⟨some false, .no⟩, ⟨some false, .no⟩, ⟨some false, .no⟩, ⟨none, .tv false⟩, ⟨none, .no⟩]) (st' := ⟨[(2, .one (.dat .bool false)), (35, .one (.dat .bool false)), (34, .und), (33, .und), (32, .und), (31, .und), (30, .und), (29, .und), (28, .und), (27, .one (.dat .bool false)), (26, .one (.dat .bool false)), (25, .und), (24, .und), (23, .und), (22, .und), (21, .und), (20, .und), (19, .und), (18, .one (.dat .bool false)), (17, .one (.dat .bool false)), (16, .und), (15, .und), (14, .und), (13, .und), (12, .und), (11, .one (.dat .bool y7)), (10, .one (.dat .bool y7)), (9, .one (.dat .bool y7)), (8, .one (.dat (.int .i64) a0.2.1)), (7, .one (.ptr 0 1)), (6, .one (.dat .bool y4)), (5, .one (.dat .bool y4)), (4, .one (.dat (.int .i64) a0.1)), (3, .one (.ptr 0 0)), (1, .one (.ptr 0 0))], [(0, .box [.dat (.int .i64) a0.1, .dat (.int .i64) a0.2.1, .dat (.sl (.flt .f32)) a0.2.2.1, .dat (.sl (.flt .f32)) a0.2.2.2.1, .dat (.sl (.flt .f32)) a0.2.2.2.2])], 1⟩) hP hN (by kernel_rfl) (allCons (f69_ok hc5) (allCons hb6 (allCons hb6 (allCons hb6 (allCons (f69_ok hc8) (allCons hb6 (allCons hb9 (allCons hb9 (allCons hb9 (allCons hb9 (allCons hb9 (allCons hb9 (allCons (rfl : false = false) (allCons (rfl : false = false) (allCons (rfl : false = false) (allCons (rfl : false = false) (allCons (rfl : false = false) (allCons (rfl : false = false) (allCons (rfl : false = false) (allCons (rfl : false = false) (allCons (rfl : false = false) (allCons (rfl : false = false) (allCons (rfl : false = false) (allCons (rfl : false = false) (allCons (rfl : false = false) (allCons (rfl : false = false) (allCons (rfl : false = false) (allCons (rfl : false = false) allNil)))))))))))))))))))))))))))) (qThen ?_)
        exact (Le.cv (s := ⟨[], [], [], false⟩) (own := []) (ps := [false = false]) (st' := ⟨[(2, .one (.dat .bool false))], [], 0⟩) hO (fun h => by cases h) (by kernel_rfl) ⟨rfl, trivial⟩).ht (cont false (of_some hT3))
    · refine HT.reg (rs := [⟨none, .no⟩, ⟨none, .no⟩, ⟨none, .call [.imm (.int .i64), .imm (.int .i64), .imm (.int .i64)] [⟨false, .bool, y4⟩] []⟩, ⟨none, .no⟩, ⟨some false, .no⟩, ⟨some false, .no⟩, ⟨some false, .no⟩, ⟨none, .tv false⟩, ⟨none, .no⟩, ⟨some false, .no⟩, ⟨some false, .no⟩, ⟨some false, .no⟩, ⟨some false, .no⟩, ⟨some false, .no⟩, ⟨none, .tv false⟩, ⟨none, .no⟩, ⟨some false, .no⟩, ⟨some false, .no⟩, ⟨some false, .no⟩, ⟨some false, .no⟩, ⟨some false, .no⟩, ⟨some false, .no⟩, ⟨some false, .no⟩, ⟨none, .tv false⟩, ⟨none, .no⟩, ⟨some false, .no⟩, ⟨some false, .no⟩, ⟨some false, .no⟩, ⟨some false, .no⟩, ⟨some false, .no⟩, ⟨some false, .no⟩, ⟨some false, .no⟩, ⟨none, .tv false⟩, ⟨none, .no⟩]) (st' := ⟨[(2, .one (.dat .bool false)), (35, .one (.dat .bool false)), (34, .und), (33, .und), (32, .und), (31, .und), (30, .und), (29, .und), (28, .und), (27, .one (.dat .bool false)), (26, .one (.dat .bool false)), (25, .und), (24, .und), (23, .und), (22, .und), (21, .und), (20, .und), (19, .und), (18, .one (.dat .bool false)), (17, .one (.dat .bool false)), (16, .und), (15, .und), (14, .und), (13, .und), (12, .und), (11, .one (.dat .bool false)), (10, .one (.dat .bool false)), (9, .und), (8, .und), (7, .und), (6, .one (.dat .bool y4)), (5, .one (.dat .bool y4)), (4, .one (.dat (.int .i64) a0.1)), (3, .one (.ptr 0 0)), (1, .one (.ptr 0 0))], [(0, .box [.dat (.int .i64) a0.1, .dat (.int .i64) a0.2.1, .dat (.sl (.flt .f32)) a0.2.2.1, .dat (.sl (.flt .f32)) a0.2.2.2.1, .dat (.sl (.flt .f32)) a0.2.2.2.2])], 1⟩) hP hN (by kernel_rfl) (allCons (f69_ok hc5) (allCons hb6 (allCons hb6 (allCons hb6 (allCons hb6 (allCons (rfl : false = false) (allCons (rfl : false = false) (allCons (rfl : false = false) (allCons (rfl : false = false) (allCons (rfl : false = false) (allCons (rfl : false = false) (allCons (rfl : false = false) (allCons (rfl : false = false) (allCons (rfl : false = false) (allCons (rfl : false = false) (allCons (rfl : false = false) (allCons (rfl : false = false) (allCons (rfl : false = false) (allCons (rfl : false = false) (allCons (rfl : false = false) (allCons (rfl : false = false) (allCons (rfl : false = false) (allCons (rfl : false = false) (allCons (rfl : false = false) (allCons (rfl : false = false) (allCons (rfl : false = false) (allCons (rfl : false = false) allNil))))))))))))))))))))))))))) (qThen ?_)
      exact (Le.cv (s := ⟨[], [], [], false⟩) (own := []) (ps := [false = false]) (st' := ⟨[(2, .one (.dat .bool false))], [], 0⟩) hO (fun h => by cases h) (by kernel_rfl) ⟨rfl, trivial⟩).ht (cont false (of_some hT3))

noncomputable def impl_areTwo (a0 : Int × Int × List Nat × List Nat × List Nat) (a1 : Int × Int × List Nat × List Nat × List Nat) : Option (Bool) :=
  (show Option (Bool) from
    (impl_ValidModel (a0.1, a0.2.1, a0.2.2.1, a0.2.2.2.1, a0.2.2.2.2)).bind fun y4 =>
    bif y4 then
      (impl_ValidModel (a1.1, a1.2.1, a1.2.2.1, a1.2.2.2.1, a1.2.2.2.2)).bind fun y7 =>
      bif y7 then
        some (a0.2.1 == a1.2.1)
      else
        some false
    else
      some false).bind fun v1 =>
  some v1

theorem f68_ok {a0 : Int × Int × List Nat × List Nat × List Nat} {a1 : Int × Int × List Nat × List Nat × List Nat} {r : Bool} (hr : impl_areTwo a0 a1 = some r) : CallOK Try.prog 68 [.imm (.st (.pair (.int .i64) (.pair (.int .i64) (.pair (.sl (.flt .f32)) (.pair (.sl (.flt .f32)) (.sl (.flt .f32))))))) a0, .imm (.st (.pair (.int .i64) (.pair (.int .i64) (.pair (.sl (.flt .f32)) (.pair (.sl (.flt .f32)) (.sl (.flt .f32))))))) a1] [⟨false, .bool, r⟩] [] := by
  unfold impl_areTwo at hr
  refine CallOK.of_body (ts := [(false, .bool)]) Try.func68 rfl (by kernel_rfl) (Nat.le_of_ble_eq_true (by kernel_rfl)) fun cx hP hN hO hF => ?_
  have hO : cx.own.map Prod.fst = [] := hO
  have hF := hF rfl
  show HT cx ⟨[(0, .agg [.dat (.int .i64) a0.1, .dat (.int .i64) a0.2.1, .dat (.sl (.flt .f32)) a0.2.2.1, .dat (.sl (.flt .f32)) a0.2.2.2.1, .dat (.sl (.flt .f32)) a0.2.2.2.2]), (1, .agg [.dat (.int .i64) a1.1, .dat (.int .i64) a1.2.1, .dat (.sl (.flt .f32)) a1.2.2.1, .dat (.sl (.flt .f32)) a1.2.2.2.1, .dat (.sl (.flt .f32)) a1.2.2.2.2])], [], 0⟩ _ _
  refine HT.reg1 [2, 3] [⟨none, .no⟩, ⟨none, .no⟩, ⟨none, .no⟩] ⟨[(2, .one (.ptr 0 0)), (3, .one (.ptr 1 0))], [(1, .box [.dat (.int .i64) a1.1, .dat (.int .i64) a1.2.1, .dat (.sl (.flt .f32)) a1.2.2.1, .dat (.sl (.flt .f32)) a1.2.2.2.1, .dat (.sl (.flt .f32)) a1.2.2.2.2]), (0, .box [.dat (.int .i64) a0.1, .dat (.int .i64) a0.2.1, .dat (.sl (.flt .f32)) a0.2.2.1, .dat (.sl (.flt .f32)) a0.2.2.2.1, .dat (.sl (.flt .f32)) a0.2.2.2.2])], 2⟩ hP hN (by kernel_rfl) allNil ?_
  obtain ⟨v1', hT3, hr⟩ := of_bind hr
  refine HT.join (fun (v1 : Bool) => ⟨[(4, .one (.dat .bool v1))], [], 0⟩) (fun v => v = v1') (fun v1 hv2 => ?_) (fun cont => ?_)
  · subst hv2
    have hr := of_some hr
    subst hr
    exact HT.ret ⟨[.one (.dat .bool v1)], [], [], by kernel_rfl, by kernel_rfl, rfl, by kernel_rfl, by kernel_rfl, trivial⟩
  · obtain ⟨y4, hc5, hT3⟩ := of_bind hT3
    rcases of_bif hT3 with ⟨hb6, hT3⟩ | ⟨hb6, hT3⟩
    · obtain ⟨y7, hc8, hT3⟩ := of_bind hT3
      rcases of_bif hT3 with ⟨hb9, hT3⟩ | ⟨hb9, hT3⟩
      · refine HT.reg (rs := [⟨none, .no⟩, ⟨none, .call [.imm (.st (.pair (.int .i64) (.pair (.int .i64) (.pair (.sl (.flt .f32)) (.pair (.sl (.flt .f32)) (.sl (.flt .f32)))))))] [⟨false, .bool, y4⟩] []⟩, ⟨none, .no⟩, ⟨some true, .no⟩, ⟨some true, .call [.imm (.st (.pair (.int .i64) (.pair (.int .i64) (.pair (.sl (.flt .f32)) (.pair (.sl (.flt .f32)) (.sl (.flt .f32)))))))] [⟨false, .bool, y7⟩] []⟩, ⟨none, .tv true⟩, ⟨none, .no⟩, ⟨some true, .no⟩, ⟨some true, .no⟩, ⟨some true, .no⟩, ⟨some true, .no⟩, ⟨some true, .no⟩, ⟨none, .tv true⟩, ⟨none, .no⟩]) (st' := ⟨[(4, .one (.dat .bool (a0.2.1 == a1.2.1))), (17, .one (.dat .bool (a0.2.1 == a1.2.1))), (16, .one (.dat .bool (a0.2.1 == a1.2.1))), (15, .one (.dat (.int .i64) a1.2.1)), (14, .one (.ptr 1 1)), (13, .one (.dat (.int .i64) a0.2.1)), (12, .one (.ptr 0 1)), (11, .one (.dat .bool y7)), (10, .one (.dat .bool y7)), (9, .one (.dat .bool y7)), (8, .agg [.dat (.int .i64) a1.1, .dat (.int .i64) a1.2.1, .dat (.sl (.flt .f32)) a1.2.2.1, .dat (.sl (.flt .f32)) a1.2.2.2.1, .dat (.sl (.flt .f32)) a1.2.2.2.2]), (7, .one (.dat .bool y4)), (6, .one (.dat .bool y4)), (5, .agg [.dat (.int .i64) a0.1, .dat (.int .i64) a0.2.1, .dat (.sl (.flt .f32)) a0.2.2.1, .dat (.sl (.flt .f32)) a0.2.2.2.1, .dat (.sl (.flt .f32)) a0.2.2.2.2]), (2, .one (.ptr 0 0)), (3, .one (.ptr 1 0))], [(1, .box [.dat (.int .i64) a1.1, .dat (.int .i64) a1.2.1, .dat (.sl (.flt .f32)) a1.2.2.1, .dat (.sl (.flt .f32)) a1.2.2.2.1, .dat (.sl (.flt .f32)) a1.2.2.2.2]), (0, .box [.dat (.int .i64) a0.1, .dat (.int .i64) a0.2.1, .dat (.sl (.flt .f32)) a0.2.2.1, .dat (.sl (.flt .f32)) a0.2.2.2.1, .dat (.sl (.flt .f32)) a0.2.2.2.2])], 2⟩) hP hN (by kernel_rfl) (allCons (f117_ok hc5) (allCons hb6 (allCons hb6 (allCons (f117_ok hc8) (allCons hb6 (allCons hb9 (allCons hb9 (allCons hb9 (allCons hb9 (allCons hb9 (allCons hb9 allNil))))))))))) (qThen ?_)
        exact (Le.cv (s := ⟨[], [], [], false⟩) (own := []) (ps := [(a0.2.1 == a1.2.1) = (a0.2.1 == a1.2.1)]) (st' := ⟨[(4, .one (.dat .bool (a0.2.1 == a1.2.1)))], [], 0⟩) hO (fun h => by cases h) (by kernel_rfl) ⟨rfl, trivial⟩).ht (cont (a0.2.1 == a1.2.1) (of_some hT3))
      · refine HT.reg (rs := [⟨none, .no⟩, ⟨none, .call [.imm (.st (.pair (.int .i64) (.pair (.int .i64) (.pair (.sl (.flt .f32)) (.pair (.sl (.flt .f32)) (.sl (.flt .f32)))))))] [⟨false, .bool, y4⟩] []⟩, ⟨none, .no⟩, ⟨some true, .no⟩, ⟨some true, .call [.imm (.st (.pair (.int .i64) (.pair (.int .i64) (.pair (.sl (.flt .f32)) (.pair (.sl (.flt .f32)) (.sl (.flt .f32)))))))] [⟨false, .bool, y7⟩] []⟩, ⟨none, .tv true⟩, ⟨none, .no⟩, ⟨some false, .no⟩, ⟨some false, .no⟩, ⟨some false, .no⟩, ⟨some false, .no⟩, ⟨some false, .no⟩, ⟨none, .tv false⟩, ⟨none, .no⟩]) (st' := ⟨[(4, .one (.dat .bool false)), (17, .one (.dat .bool false)), (16, .und), (15, .und), (14, .und), (13, .und), (12, .und), (11, .one (.dat .bool y7)), (10, .one (.dat .bool y7)), (9, .one (.dat .bool y7)), (8, .agg [.dat (.int .i64) a1.1, .dat (.int .i64) a1.2.1, .dat (.sl (.flt .f32)) a1.2.2.1, .dat (.sl (.flt .f32)) a1.2.2.2.1, .dat (.sl (.flt .f32)) a1.2.2.2.2]), (7, .one (.dat .bool y4)), (6, .one (.dat .bool y4)), (5, .agg [.dat (.int .i64) a0.1, .dat (.int .i64) a0.2.1, .dat (.sl (.flt .f32)) a0.2.2.1, .dat (.sl (.flt .f32)) a0.2.2.2.1, .dat (.sl (.flt .f32)) a0.2.2.2.2]), (2, .one (.ptr 0 0)), (3, .one (.ptr 1 0))], [(1, .box [.dat (.int .i64) a1.1, .dat (.int .i64) a1.2.1, .dat (.sl (.flt .f32)) a1.2.2.1, .dat (.sl (.flt .f32)) a1.2.2.2.1, .dat (.sl (.flt .f32)) a1.2.2.2.2]), (0, .box [.dat (.int .i64) a0.1, .dat (.int .i64) a0.2.1, .dat (.sl (.flt .f32)) a0.2.2.1, .dat (.sl (.flt .f32)) a0.2.2.2.1, .dat (.sl (.flt .f32)) a0.2.2.2.2])], 2⟩) hP hN (by kernel_rfl) (allCons (f117_ok hc5) (allCons hb6 (allCons hb6 (allCons (f117_ok hc8) (allCons hb6 (allCons hb9 (allCons hb9 (allCons hb9 (allCons hb9 (allCons hb9 (allCons hb9 allNil))))))))))) (qThen ?_)
        exact (Le.cv (s := ⟨[], [], [], false⟩) (own := []) (ps := [false = false]) (st' := ⟨[(4, .one (.dat .bool false))], [], 0⟩) hO (fun h => by cases h) (by kernel_rfl) ⟨rfl, trivial⟩).ht (cont false (of_some hT3))
    · refine HT.reg (rs := [⟨none, .no⟩, ⟨none, .call [.imm (.st (.pair (.int .i64) (.pair (.int .i64) (.pair (.sl (.flt .f32)) (.pair (.sl (.flt .f32)) (.sl (.flt .f32)))))))] [⟨false, .bool, y4⟩] []⟩, ⟨none, .no⟩, ⟨some false, .no⟩, ⟨some false, .no⟩, ⟨none, .tv false⟩, ⟨none, .no⟩, ⟨some false, .no⟩, ⟨some false, .no⟩, ⟨some false, .no⟩, ⟨some false, .no⟩, ⟨some false, .no⟩, ⟨none, .tv false⟩, ⟨none, .no⟩]) (st' := ⟨[(4, .one (.dat .bool false)), (17, .one (.dat .bool false)), (16, .und), (15, .und), (14, .und), (13, .und), (12, .und), (11, .one (.dat .bool false)), (10, .one (.dat .bool false)), (9, .und), (8, .und), (7, .one (.dat .bool y4)), (6, .one (.dat .bool y4)), (5, .agg [.dat (.int .i64) a0.1, .dat (.int .i64) a0.2.1, .dat (.sl (.flt .f32)) a0.2.2.1, .dat (.sl (.flt .f32)) a0.2.2.2.1, .dat (.sl (.flt .f32)) a0.2.2.2.2]), (2, .one (.ptr 0 0)), (3, .one (.ptr 1 0))], [(1, .box [.dat (.int .i64) a1.1, .dat (.int .i64) a1.2.1, .dat (.sl (.flt .f32)) a1.2.2.1, .dat (.sl (.flt .f32)) a1.2.2.2.1, .dat (.sl (.flt .f32)) a1.2.2.2.2]), (0, .box [.dat (.int .i64) a0.1, .dat (.int .i64) a0.2.1, .dat (.sl (.flt .f32)) a0.2.2.1, .dat (.sl (.flt .f32)) a0.2.2.2.1, .dat (.sl (.flt .f32)) a0.2.2.2.2])], 2⟩) hP hN (by kernel_rfl) (allCons (f117_ok hc5) (allCons hb6 (allCons hb6 (allCons hb6 (allCons (rfl : false = false) (allCons (rfl : false = false) (allCons (rfl : false = false) (allCons (rfl : false = false) (allCons (rfl : false = false) (allCons (rfl : false = false) allNil)))))))))) (qThen ?_)
      exact (Le.cv (s := ⟨[], [], [], false⟩) (own := []) (ps := [false = false]) (st' := ⟨[(4, .one (.dat .bool false))], [], 0⟩) hO (fun h => by cases h) (by kernel_rfl) ⟨rfl, trivial⟩).ht (cont false (of_some hT3))

noncomputable def impl_MoreBits_B1 (a0 : Int × Int × List Nat × List Nat × List Nat) (a1 : Int × Int × List Nat × List Nat × List Nat) (y5 : List (List Int)) (s7 : Nat × Int) : Option ((Nat × Int) ⊕ (Nat ⊕ Unit)) :=
  bif (decide (s7.2 < (lenI y5))) then
    (show Option (Nat ⊕ ((Nat × Int) ⊕ (Nat ⊕ Unit))) from
      guardP ((0 : Int) ≤ s7.2 ∧ s7.2 < lenI y5) (
        (impl_Model_chance (a0.1, a0.2.1, a0.2.2.1, a0.2.2.2.1, a0.2.2.2.2) (List.getD y5 (Int.toNat s7.2) ([] : List Int))).bind fun y22 =>
        (impl_Model_chance (a1.1, a1.2.1, a1.2.2.1, a1.2.2.2.1, a1.2.2.2.2) (List.getD y5 (Int.toNat s7.2) ([] : List Int))).bind fun y24 =>
        bif (!(fgt .f32 y22 (0 : Nat))) then
          some (.inl s7.1)
        else
          bif (!(fgt .f32 y24 (0 : Nat))) then
            inrO (some (.inr (.inr ())))
          else
            (impl_LogNumber y22).bind fun y31 =>
            (impl_LogNumber y24).bind fun y33 =>
            some (.inl (fop .add .f32 s7.1 (fop .quo .f32 (fop .mul .f32 y22 (fop .sub .f32 y31 y33)) (1060205080 : Nat)))))).bind fun w20 => match w20 with
      | .inl v17 =>
        some (.inl (v17, (wadd .i64 s7.2 (1 : Int))))
      | .inr z => some z
  else
    some (.inr (.inl s7.1))

noncomputable def impl_MoreBits (a0 : Int × Int × List Nat × List Nat × List Nat) (a1 : Int × Int × List Nat × List Nat × List Nat) (a2 : Int) : Option (Nat × Bool) :=
  (show Option (Bool) from
    (impl_areTwo (a0.1, a0.2.1, a0.2.2.1, a0.2.2.2.1, a0.2.2.2.2) (a1.1, a1.2.1, a1.2.2.1, a1.2.2.2.1, a1.2.2.2.2)).bind fun y36 =>
    bif (!y36) then
      some true
    else
      (impl_within a2 (0 : Int) (4 : Int)).bind fun y39 =>
      some (!y39)).bind fun v1 =>
  bif v1 then
    some ((0 : Nat), false)
  else
    (impl_wordsOf a0.2.1 a2).bind fun y5 =>
    (rounds (impl_MoreBits_B1 a0 a1 y5) ((0 : Nat), (0 : Int))).bind fun r8 => match r8 with
      | .inl r9 =>
        (impl_finite r9).bind fun y10 =>
        some (y10.1, y10.2)
      | .inr r12 =>
        some ((0 : Nat), false)

theorem f46_ok {a0 : Int × Int × List Nat × List Nat × List Nat} {a1 : Int × Int × List Nat × List Nat × List Nat} {a2 : Int} {r : Nat × Bool} (hr : impl_MoreBits a0 a1 a2 = some r) : CallOK Try.prog 46 [.imm (.st (.pair (.int .i64) (.pair (.int .i64) (.pair (.sl (.flt .f32)) (.pair (.sl (.flt .f32)) (.sl (.flt .f32))))))) a0, .imm (.st (.pair (.int .i64) (.pair (.int .i64) (.pair (.sl (.flt .f32)) (.pair (.sl (.flt .f32)) (.sl (.flt .f32))))))) a1, .imm (.int .i64) a2] [⟨false, (.flt .f32), r.1⟩, ⟨false, .bool, r.2⟩] [] := by
  unfold impl_MoreBits at hr
  refine CallOK.of_body (ts := [(false, (.flt .f32)), (false, .bool)]) Try.func46 rfl (by kernel_rfl) (Nat.le_of_ble_eq_true (by kernel_rfl)) fun cx hP hN hO hF => ?_
  have hO : cx.own.map Prod.fst = [] := hO
  have hF := hF rfl
  show HT cx ⟨[(0, .agg [.dat (.int .i64) a0.1, .dat (.int .i64) a0.2.1, .dat (.sl (.flt .f32)) a0.2.2.1, .dat (.sl (.flt .f32)) a0.2.2.2.1, .dat (.sl (.flt .f32)) a0.2.2.2.2]), (1, .agg [.dat (.int .i64) a1.1, .dat (.int .i64) a1.2.1, .dat (.sl (.flt .f32)) a1.2.2.1, .dat (.sl (.flt .f32)) a1.2.2.2.1, .dat (.sl (.flt .f32)) a1.2.2.2.2]), (2, .one (.dat (.int .i64) a2))], [], 0⟩ _ _
  refine HT.reg1 [2, 3, 4] [⟨none, .no⟩, ⟨none, .no⟩, ⟨none, .no⟩, ⟨none, .no⟩] ⟨[(2, .one (.dat (.int .i64) a2)), (3, .one (.ptr 0 0)), (4, .one (.ptr 1 0))], [(1, .box [.dat (.int .i64) a1.1, .dat (.int .i64) a1.2.1, .dat (.sl (.flt .f32)) a1.2.2.1, .dat (.sl (.flt .f32)) a1.2.2.2.1, .dat (.sl (.flt .f32)) a1.2.2.2.2]), (0, .box [.dat (.int .i64) a0.1, .dat (.int .i64) a0.2.1, .dat (.sl (.flt .f32)) a0.2.2.1, .dat (.sl (.flt .f32)) a0.2.2.2.1, .dat (.sl (.flt .f32)) a0.2.2.2.2])], 2⟩ hP hN (by kernel_rfl) allNil ?_
  refine HT.seq ?_
  obtain ⟨v1', hT3, hr⟩ := of_bind hr
  refine HT.join (fun (v1 : Bool) => ⟨[(2, .one (.dat (.int .i64) a2)), (3, .one (.ptr 0 0)), (4, .one (.ptr 1 0)), (21, .one (.dat .bool v1))], [(0, .box [.dat (.int .i64) a0.1, .dat (.int .i64) a0.2.1, .dat (.sl (.flt .f32)) a0.2.2.1, .dat (.sl (.flt .f32)) a0.2.2.2.1, .dat (.sl (.flt .f32)) a0.2.2.2.2]), (1, .box [.dat (.int .i64) a1.1, .dat (.int .i64) a1.2.1, .dat (.sl (.flt .f32)) a1.2.2.1, .dat (.sl (.flt .f32)) a1.2.2.2.1, .dat (.sl (.flt .f32)) a1.2.2.2.2])], 2⟩) (fun v => v = v1') (fun v1 hv2 => ?_) (fun cont => ?_)
  · subst hv2
    rcases of_bif hr with ⟨hb4, hr⟩ | ⟨hb4, hr⟩
    · refine HT.cond1 rfl hb4 ?_
      refine HT.reg1 [6, 7] [⟨none, .no⟩, ⟨none, .no⟩] ⟨[(6, .one (.dat (.flt .f32) (0 : Nat))), (7, .one (.dat .bool false))], [(0, .box [.dat (.int .i64) a0.1, .dat (.int .i64) a0.2.1, .dat (.sl (.flt .f32)) a0.2.2.1, .dat (.sl (.flt .f32)) a0.2.2.2.1, .dat (.sl (.flt .f32)) a0.2.2.2.2]), (1, .box [.dat (.int .i64) a1.1, .dat (.int .i64) a1.2.1, .dat (.sl (.flt .f32)) a1.2.2.1, .dat (.sl (.flt .f32)) a1.2.2.2.1, .dat (.sl (.flt .f32)) a1.2.2.2.2])], 2⟩ hP hN (by kernel_rfl) allNil ?_
      have hr := of_some hr
      subst hr
      exact HT.ret (qThenR ⟨[.one (.dat (.flt .f32) (0 : Nat)), .one (.dat .bool false)], [], [], by kernel_rfl, by kernel_rfl, rfl, by kernel_rfl, by kernel_rfl, trivial⟩)
    · refine HT.cond0 rfl hb4 ?_
      refine HT.skip (qThen ?_)
      refine HT.reg1 [2, 3, 4, 8] [⟨none, .no⟩] ⟨[(2, .one (.dat (.int .i64) a2)), (3, .one (.ptr 0 0)), (4, .one (.ptr 1 0)), (8, .one (.dat (.flt .f32) (0 : Nat)))], [(0, .box [.dat (.int .i64) a0.1, .dat (.int .i64) a0.2.1, .dat (.sl (.flt .f32)) a0.2.2.1, .dat (.sl (.flt .f32)) a0.2.2.2.1, .dat (.sl (.flt .f32)) a0.2.2.2.2]), (1, .box [.dat (.int .i64) a1.1, .dat (.int .i64) a1.2.1, .dat (.sl (.flt .f32)) a1.2.2.1, .dat (.sl (.flt .f32)) a1.2.2.2.1, .dat (.sl (.flt .f32)) a1.2.2.2.2])], 2⟩ hP hN (by kernel_rfl) allNil ?_
      refine HT.seq ?_
      obtain ⟨y5, hc6, hr⟩ := of_bind hr
      refine HT.reg1 [3, 4, 8, 25, 26, 27] [⟨none, .no⟩, ⟨none, .no⟩, ⟨none, .no⟩, ⟨none, .call [.imm (.int .i64), .imm (.int .i64)] [⟨false, (.sl (.sl (.int .i64))), y5⟩] []⟩, ⟨none, .no⟩, ⟨none, .no⟩] ⟨[(3, .one (.ptr 0 0)), (4, .one (.ptr 1 0)), (8, .one (.dat (.flt .f32) (0 : Nat))), (25, .one (.dat (.sl (.sl (.int .i64))) y5)), (26, .one (.dat (.int .i64) (lenI y5))), (27, .one (.dat (.int .i64) (0 : Int)))], [(0, .box [.dat (.int .i64) a0.1, .dat (.int .i64) a0.2.1, .dat (.sl (.flt .f32)) a0.2.2.1, .dat (.sl (.flt .f32)) a0.2.2.2.1, .dat (.sl (.flt .f32)) a0.2.2.2.2]), (1, .box [.dat (.int .i64) a1.1, .dat (.int .i64) a1.2.1, .dat (.sl (.flt .f32)) a1.2.2.1, .dat (.sl (.flt .f32)) a1.2.2.2.1, .dat (.sl (.flt .f32)) a1.2.2.2.2])], 2⟩ hP hN (by kernel_rfl) (allCons (f70_ok hc6) allNil) ?_
      refine HT.block ?_
      obtain ⟨r8, hL35, hr⟩ := of_bind hr
      refine (Le.cv (s := ⟨[(0, 0), (1, 1)], [], [], false⟩) (own := []) (ps := [(0 : Nat) = (0 : Nat), y5 = y5, (lenI y5) = (lenI y5), (0 : Int) = (0 : Int), a0.1 = a0.1, a0.2.1 = a0.2.1, a0.2.2.1 = a0.2.2.1, a0.2.2.2.1 = a0.2.2.2.1, a0.2.2.2.2 = a0.2.2.2.2, a1.1 = a1.1, a1.2.1 = a1.2.1, a1.2.2.1 = a1.2.2.1, a1.2.2.2.1 = a1.2.2.2.1, a1.2.2.2.2 = a1.2.2.2.2]) (st' := ⟨[(3, .one (.ptr 0 0)), (4, .one (.ptr 1 0)), (8, .one (.dat (.flt .f32) (0 : Nat))), (25, .one (.dat (.sl (.sl (.int .i64))) y5)), (26, .one (.dat (.int .i64) (lenI y5))), (27, .one (.dat (.int .i64) (0 : Int)))], [(0, .box [.dat (.int .i64) a0.1, .dat (.int .i64) a0.2.1, .dat (.sl (.flt .f32)) a0.2.2.1, .dat (.sl (.flt .f32)) a0.2.2.2.1, .dat (.sl (.flt .f32)) a0.2.2.2.2]), (1, .box [.dat (.int .i64) a1.1, .dat (.int .i64) a1.2.1, .dat (.sl (.flt .f32)) a1.2.2.1, .dat (.sl (.flt .f32)) a1.2.2.2.1, .dat (.sl (.flt .f32)) a1.2.2.2.2])], 2⟩) hO (fun h => by cases h) (by kernel_rfl) ⟨rfl, rfl, rfl, rfl, rfl, rfl, rfl, rfl, rfl, rfl, rfl, rfl, rfl, rfl, trivial⟩).ht ?_
      refine HT.loopE (s := ((0 : Nat), (0 : Int))) (fun (s7 : Nat × Int) => ⟨[(3, .one (.ptr 0 0)), (4, .one (.ptr 1 0)), (8, .one (.dat (.flt .f32) s7.1)), (25, .one (.dat (.sl (.sl (.int .i64))) y5)), (26, .one (.dat (.int .i64) (lenI y5))), (27, .one (.dat (.int .i64) s7.2))], [(0, .box [.dat (.int .i64) a0.1, .dat (.int .i64) a0.2.1, .dat (.sl (.flt .f32)) a0.2.2.1, .dat (.sl (.flt .f32)) a0.2.2.2.1, .dat (.sl (.flt .f32)) a0.2.2.2.2]), (1, .box [.dat (.int .i64) a1.1, .dat (.int .i64) a1.2.1, .dat (.sl (.flt .f32)) a1.2.2.1, .dat (.sl (.flt .f32)) a1.2.2.2.1, .dat (.sl (.flt .f32)) a1.2.2.2.2])], 2⟩) (fun (r8 : Nat ⊕ Unit) => match r8 with | .inl r9 => (.exit 0, ⟨[(8, .one (.dat (.flt .f32) r9))], [], 0⟩) | .inr r12 => (.ret, ⟨[(6, .one (.dat (.flt .f32) (0 : Nat))), (7, .one (.dat .bool false))], [], 0⟩)) hL35 ?_ (fun s7 x13 hx14 hk15 => ?_)
      · rcases r8 with r9 | r12
        · refine (qBlockX (qThen ?_))
          obtain ⟨y10, hc11, hr⟩ := of_bind hr
          refine HT.reg1 [6, 7] [⟨none, .no⟩, ⟨none, .call [.imm (.flt .f32)] [⟨false, (.flt .f32), y10.1⟩, ⟨false, .bool, y10.2⟩] []⟩, ⟨none, .no⟩, ⟨none, .no⟩, ⟨none, .no⟩, ⟨none, .no⟩] ⟨[(6, .one (.dat (.flt .f32) y10.1)), (7, .one (.dat .bool y10.2))], [], 0⟩ hP hN (by kernel_rfl) (allCons (f73_ok hc11) allNil) ?_
          have hr := of_some hr
          subst hr
          exact HT.ret ⟨[.one (.dat (.flt .f32) y10.1), .one (.dat .bool y10.2)], [], [], by kernel_rfl, by kernel_rfl, rfl, by kernel_rfl, by kernel_rfl, trivial⟩
        · have hr := of_some hr
          subst hr
          exact (qBlockR (qThenR ⟨[.one (.dat (.flt .f32) (0 : Nat)), .one (.dat .bool false)], [], [], by kernel_rfl, by kernel_rfl, rfl, by kernel_rfl, by kernel_rfl, trivial⟩))
      · refine HT.reg1 [3, 4, 8, 25, 26, 27, 28] [⟨none, .no⟩] ⟨[(3, .one (.ptr 0 0)), (4, .one (.ptr 1 0)), (8, .one (.dat (.flt .f32) s7.1)), (25, .one (.dat (.sl (.sl (.int .i64))) y5)), (26, .one (.dat (.int .i64) (lenI y5))), (27, .one (.dat (.int .i64) s7.2)), (28, .one (.dat .bool (decide (s7.2 < (lenI y5)))))], [(0, .box [.dat (.int .i64) a0.1, .dat (.int .i64) a0.2.1, .dat (.sl (.flt .f32)) a0.2.2.1, .dat (.sl (.flt .f32)) a0.2.2.2.1, .dat (.sl (.flt .f32)) a0.2.2.2.2]), (1, .box [.dat (.int .i64) a1.1, .dat (.int .i64) a1.2.1, .dat (.sl (.flt .f32)) a1.2.2.1, .dat (.sl (.flt .f32)) a1.2.2.2.1, .dat (.sl (.flt .f32)) a1.2.2.2.2])], 2⟩ hP hN (by kernel_rfl) allNil ?_
        refine HT.seq ?_
        rcases of_bif hx14 with ⟨hb16, hx14⟩ | ⟨hb16, hx14⟩
        · refine HT.cond1 rfl hb16 ?_
          refine HT.skip (qThen ?_)
          obtain ⟨w20, hT19, hx14⟩ := of_bind hx14
          refine HT.join (fun (v17 : Nat) => ⟨[(3, .one (.ptr 0 0)), (4, .one (.ptr 1 0)), (8, .one (.dat (.flt .f32) v17)), (25, .one (.dat (.sl (.sl (.int .i64))) y5)), (26, .one (.dat (.int .i64) (lenI y5))), (27, .one (.dat (.int .i64) s7.2))], [(0, .box [.dat (.int .i64) a0.1, .dat (.int .i64) a0.2.1, .dat (.sl (.flt .f32)) a0.2.2.1, .dat (.sl (.flt .f32)) a0.2.2.2.1, .dat (.sl (.flt .f32)) a0.2.2.2.2]), (1, .box [.dat (.int .i64) a1.1, .dat (.int .i64) a1.2.1, .dat (.sl (.flt .f32)) a1.2.2.1, .dat (.sl (.flt .f32)) a1.2.2.2.1, .dat (.sl (.flt .f32)) a1.2.2.2.2])], 2⟩) (fun v => w20 = Sum.inl v) (fun v17 hv18 => ?_) (fun cont => ?_)
          · subst hv18
            have hx14 := of_some hx14
            subst hx14
            refine HT.reg (rs := [⟨none, .no⟩, ⟨none, .no⟩]) (st' := ⟨[(27, .one (.dat (.int .i64) (wadd .i64 s7.2 (1 : Int)))), (53, .one (.dat (.int .i64) (wadd .i64 s7.2 (1 : Int)))), (3, .one (.ptr 0 0)), (4, .one (.ptr 1 0)), (8, .one (.dat (.flt .f32) v17)), (25, .one (.dat (.sl (.sl (.int .i64))) y5)), (26, .one (.dat (.int .i64) (lenI y5))), (27, .one (.dat (.int .i64) s7.2))], [(0, .box [.dat (.int .i64) a0.1, .dat (.int .i64) a0.2.1, .dat (.sl (.flt .f32)) a0.2.2.1, .dat (.sl (.flt .f32)) a0.2.2.2.1, .dat (.sl (.flt .f32)) a0.2.2.2.2]), (1, .box [.dat (.int .i64) a1.1, .dat (.int .i64) a1.2.1, .dat (.sl (.flt .f32)) a1.2.2.1, .dat (.sl (.flt .f32)) a1.2.2.2.1, .dat (.sl (.flt .f32)) a1.2.2.2.2])], 2⟩) hP hN (by kernel_rfl) allNil (qLoopN ⟨(v17, (wadd .i64 s7.2 (1 : Int))), rfl, Le.cv (s := ⟨[(0, 0), (1, 1)], [], [], false⟩) (own := []) (ps := [v17 = v17, y5 = y5, (lenI y5) = (lenI y5), (wadd .i64 s7.2 (1 : Int)) = (wadd .i64 s7.2 (1 : Int)), a0.1 = a0.1, a0.2.1 = a0.2.1, a0.2.2.1 = a0.2.2.1, a0.2.2.2.1 = a0.2.2.2.1, a0.2.2.2.2 = a0.2.2.2.2, a1.1 = a1.1, a1.2.1 = a1.2.1, a1.2.2.1 = a1.2.2.1, a1.2.2.2.1 = a1.2.2.2.1, a1.2.2.2.2 = a1.2.2.2.2]) (st' := ⟨[(3, .one (.ptr 0 0)), (4, .one (.ptr 1 0)), (8, .one (.dat (.flt .f32) v17)), (25, .one (.dat (.sl (.sl (.int .i64))) y5)), (26, .one (.dat (.int .i64) (lenI y5))), (27, .one (.dat (.int .i64) (wadd .i64 s7.2 (1 : Int))))], [(0, .box [.dat (.int .i64) a0.1, .dat (.int .i64) a0.2.1, .dat (.sl (.flt .f32)) a0.2.2.1, .dat (.sl (.flt .f32)) a0.2.2.2.1, .dat (.sl (.flt .f32)) a0.2.2.2.2]), (1, .box [.dat (.int .i64) a1.1, .dat (.int .i64) a1.2.1, .dat (.sl (.flt .f32)) a1.2.2.1, .dat (.sl (.flt .f32)) a1.2.2.2.1, .dat (.sl (.flt .f32)) a1.2.2.2.2])], 2⟩) hO (fun h => by cases h) (by kernel_rfl) ⟨rfl, rfl, rfl, rfl, rfl, rfl, rfl, rfl, rfl, rfl, rfl, rfl, rfl, rfl, trivial⟩⟩)
          · refine HT.block ?_
            obtain ⟨hg21, hT19⟩ := of_guard hT19
            refine HT.reg1 [3, 4, 8, 10, 25, 26, 27] [⟨none, .no⟩, ⟨none, .no⟩, ⟨none, .no⟩] ⟨[(3, .one (.ptr 0 0)), (4, .one (.ptr 1 0)), (8, .one (.dat (.flt .f32) s7.1)), (10, .one (.dat (.sl (.int .i64)) (List.getD y5 (Int.toNat s7.2) ([] : List Int)))), (25, .one (.dat (.sl (.sl (.int .i64))) y5)), (26, .one (.dat (.int .i64) (lenI y5))), (27, .one (.dat (.int .i64) s7.2))], [(0, .box [.dat (.int .i64) a0.1, .dat (.int .i64) a0.2.1, .dat (.sl (.flt .f32)) a0.2.2.1, .dat (.sl (.flt .f32)) a0.2.2.2.1, .dat (.sl (.flt .f32)) a0.2.2.2.2]), (1, .box [.dat (.int .i64) a1.1, .dat (.int .i64) a1.2.1, .dat (.sl (.flt .f32)) a1.2.2.1, .dat (.sl (.flt .f32)) a1.2.2.2.1, .dat (.sl (.flt .f32)) a1.2.2.2.2])], 2⟩ hP hN (by kernel_rfl) (allCons hg21 allNil) ?_
            obtain ⟨y22, hc23, hT19⟩ := of_bind hT19
            obtain ⟨y24, hc25, hT19⟩ := of_bind hT19
            refine HT.drw1 [3, 4, 8, 11, 12, 25, 26, 27] 5 [⟨⟨none, .no⟩, []⟩, ⟨⟨none, .no⟩, []⟩, ⟨⟨none, .call [.imm (.st (.pair (.int .i64) (.pair (.int .i64) (.pair (.sl (.flt .f32)) (.pair (.sl (.flt .f32)) (.sl (.flt .f32))))))), .imm (.sl (.int .i64))] [⟨false, (.flt .f32), y22⟩] []⟩, [0, 1]⟩, ⟨⟨none, .no⟩, []⟩, ⟨⟨none, .no⟩, []⟩] [[0, 1, 2, 3, 4], [0, 1, 2, 3, 4, 5], [0, 1, 2, 3, 4, 5, 6]] [⟨none, .call [.imm (.st (.pair (.int .i64) (.pair (.int .i64) (.pair (.sl (.flt .f32)) (.pair (.sl (.flt .f32)) (.sl (.flt .f32))))))), .imm (.sl (.int .i64))] [⟨false, (.flt .f32), y24⟩] []⟩, ⟨none, .no⟩, ⟨none, .no⟩] ⟨[(3, .one (.ptr 0 0)), (4, .one (.ptr 1 0)), (8, .one (.dat (.flt .f32) s7.1)), (11, .one (.dat (.flt .f32) y22)), (12, .one (.dat (.flt .f32) y24)), (25, .one (.dat (.sl (.sl (.int .i64))) y5)), (26, .one (.dat (.int .i64) (lenI y5))), (27, .one (.dat (.int .i64) s7.2))], [(0, .box [.dat (.int .i64) a0.1, .dat (.int .i64) a0.2.1, .dat (.sl (.flt .f32)) a0.2.2.1, .dat (.sl (.flt .f32)) a0.2.2.2.1, .dat (.sl (.flt .f32)) a0.2.2.2.2]), (1, .box [.dat (.int .i64) a1.1, .dat (.int .i64) a1.2.1, .dat (.sl (.flt .f32)) a1.2.2.1, .dat (.sl (.flt .f32)) a1.2.2.2.1, .dat (.sl (.flt .f32)) a1.2.2.2.2])], 2⟩ hP hN (by kernel_rfl) (by kernel_rfl) (allCons (f72_ok hc23) (allCons (f72_ok hc25) allNil)) ?_
            refine HT.seq ?_
            refine HT.reg1 [3, 4, 8, 11, 12, 25, 26, 27, 39] [⟨none, .no⟩, ⟨none, .no⟩, ⟨none, .no⟩] ⟨[(3, .one (.ptr 0 0)), (4, .one (.ptr 1 0)), (8, .one (.dat (.flt .f32) s7.1)), (11, .one (.dat (.flt .f32) y22)), (12, .one (.dat (.flt .f32) y24)), (25, .one (.dat (.sl (.sl (.int .i64))) y5)), (26, .one (.dat (.int .i64) (lenI y5))), (27, .one (.dat (.int .i64) s7.2)), (39, .one (.dat .bool (!(fgt .f32 y22 (0 : Nat)))))], [(0, .box [.dat (.int .i64) a0.1, .dat (.int .i64) a0.2.1, .dat (.sl (.flt .f32)) a0.2.2.1, .dat (.sl (.flt .f32)) a0.2.2.2.1, .dat (.sl (.flt .f32)) a0.2.2.2.2]), (1, .box [.dat (.int .i64) a1.1, .dat (.int .i64) a1.2.1, .dat (.sl (.flt .f32)) a1.2.2.1, .dat (.sl (.flt .f32)) a1.2.2.2.1, .dat (.sl (.flt .f32)) a1.2.2.2.2])], 2⟩ hP hN (by kernel_rfl) allNil ?_
            rcases of_bif hT19 with ⟨hb26, hT19⟩ | ⟨hb26, hT19⟩
            · refine HT.cond1 rfl hb26 ?_
              refine HT.exit (qThenE (qBlockX (qThen ?_)))
              exact (Le.cv (s := ⟨[(0, 0), (1, 1)], [], [], false⟩) (own := []) (ps := [s7.1 = s7.1, y5 = y5, (lenI y5) = (lenI y5), s7.2 = s7.2, a0.1 = a0.1, a0.2.1 = a0.2.1, a0.2.2.1 = a0.2.2.1, a0.2.2.2.1 = a0.2.2.2.1, a0.2.2.2.2 = a0.2.2.2.2, a1.1 = a1.1, a1.2.1 = a1.2.1, a1.2.2.1 = a1.2.2.1, a1.2.2.2.1 = a1.2.2.2.1, a1.2.2.2.2 = a1.2.2.2.2]) (st' := ⟨[(3, .one (.ptr 0 0)), (4, .one (.ptr 1 0)), (8, .one (.dat (.flt .f32) s7.1)), (25, .one (.dat (.sl (.sl (.int .i64))) y5)), (26, .one (.dat (.int .i64) (lenI y5))), (27, .one (.dat (.int .i64) s7.2))], [(0, .box [.dat (.int .i64) a0.1, .dat (.int .i64) a0.2.1, .dat (.sl (.flt .f32)) a0.2.2.1, .dat (.sl (.flt .f32)) a0.2.2.2.1, .dat (.sl (.flt .f32)) a0.2.2.2.2]), (1, .box [.dat (.int .i64) a1.1, .dat (.int .i64) a1.2.1, .dat (.sl (.flt .f32)) a1.2.2.1, .dat (.sl (.flt .f32)) a1.2.2.2.1, .dat (.sl (.flt .f32)) a1.2.2.2.2])], 2⟩) hO (fun h => by cases h) (by kernel_rfl) ⟨rfl, rfl, rfl, rfl, rfl, rfl, rfl, rfl, rfl, rfl, rfl, rfl, rfl, rfl, trivial⟩).ht (cont s7.1 (of_some2 hT19))
            · refine HT.cond0 rfl hb26 ?_
              refine HT.skip (qThen ?_)
              refine HT.seq ?_
              refine HT.reg1 [3, 4, 8, 11, 12, 25, 26, 27, 42] [⟨none, .no⟩, ⟨none, .no⟩, ⟨none, .no⟩] ⟨[(3, .one (.ptr 0 0)), (4, .one (.ptr 1 0)), (8, .one (.dat (.flt .f32) s7.1)), (11, .one (.dat (.flt .f32) y22)), (12, .one (.dat (.flt .f32) y24)), (25, .one (.dat (.sl (.sl (.int .i64))) y5)), (26, .one (.dat (.int .i64) (lenI y5))), (27, .one (.dat (.int .i64) s7.2)), (42, .one (.dat .bool (!(fgt .f32 y24 (0 : Nat)))))], [(0, .box [.dat (.int .i64) a0.1, .dat (.int .i64) a0.2.1, .dat (.sl (.flt .f32)) a0.2.2.1, .dat (.sl (.flt .f32)) a0.2.2.2.1, .dat (.sl (.flt .f32)) a0.2.2.2.2]), (1, .box [.dat (.int .i64) a1.1, .dat (.int .i64) a1.2.1, .dat (.sl (.flt .f32)) a1.2.2.1, .dat (.sl (.flt .f32)) a1.2.2.2.1, .dat (.sl (.flt .f32)) a1.2.2.2.2])], 2⟩ hP hN (by kernel_rfl) allNil ?_
              rcases of_bif hT19 with ⟨hb27, hT19⟩ | ⟨hb27, hT19⟩
              · refine HT.cond1 rfl hb27 ?_
                refine HT.reg1 [6, 7] [⟨none, .no⟩, ⟨none, .no⟩] ⟨[(6, .one (.dat (.flt .f32) (0 : Nat))), (7, .one (.dat .bool false))], [(0, .box [.dat (.int .i64) a0.1, .dat (.int .i64) a0.2.1, .dat (.sl (.flt .f32)) a0.2.2.1, .dat (.sl (.flt .f32)) a0.2.2.2.1, .dat (.sl (.flt .f32)) a0.2.2.2.2]), (1, .box [.dat (.int .i64) a1.1, .dat (.int .i64) a1.2.1, .dat (.sl (.flt .f32)) a1.2.2.1, .dat (.sl (.flt .f32)) a1.2.2.2.1, .dat (.sl (.flt .f32)) a1.2.2.2.2])], 2⟩ hP hN (by kernel_rfl) allNil ?_
                obtain ⟨z28, hT30, hz29⟩ := of_inr hT19
                subst hz29
                have hx14 := hT30.trans hx14
                have hx14 := of_some hx14
                subst hx14
                refine (Le.cv (s := ⟨[], [], [], false⟩) (own := []) (ps := [(0 : Nat) = (0 : Nat), false = false]) (st' := ⟨[(6, .one (.dat (.flt .f32) (0 : Nat))), (7, .one (.dat .bool false))], [], 0⟩) hO (fun h => by cases h) (by kernel_rfl) ⟨rfl, rfl, trivial⟩).ht ?_
                exact HT.ret (qThenR (qBlockR (qThenR (qLoopR (hk15 (.inr ()) rfl)))))
              · refine HT.cond0 rfl hb27 ?_
                refine HT.skip (qThen ?_)
                obtain ⟨y31, hc32, hT19⟩ := of_bind hT19
                obtain ⟨y33, hc34, hT19⟩ := of_bind hT19
                refine HT.reg (rs := [⟨none, .no⟩, ⟨none, .no⟩, ⟨none, .no⟩, ⟨none, .call [.imm (.flt .f32)] [⟨false, (.flt .f32), y31⟩] []⟩, ⟨none, .no⟩, ⟨none, .call [.imm (.flt .f32)] [⟨false, (.flt .f32), y33⟩] []⟩, ⟨none, .no⟩, ⟨none, .no⟩, ⟨none, .no⟩, ⟨none, .no⟩, ⟨none, .no⟩]) (st' := ⟨[(8, .one (.dat (.flt .f32) (fop .add .f32 s7.1 (fop .quo .f32 (fop .mul .f32 y22 (fop .sub .f32 y31 y33)) (1060205080 : Nat))))), (52, .one (.dat (.flt .f32) (fop .add .f32 s7.1 (fop .quo .f32 (fop .mul .f32 y22 (fop .sub .f32 y31 y33)) (1060205080 : Nat))))), (51, .one (.dat (.flt .f32) (fop .quo .f32 (fop .mul .f32 y22 (fop .sub .f32 y31 y33)) (1060205080 : Nat)))), (50, .one (.dat (.flt .f32) (fop .mul .f32 y22 (fop .sub .f32 y31 y33)))), (49, .one (.dat (.flt .f32) (fop .sub .f32 y31 y33))), (48, .one (.dat (.flt .f32) y33)), (47, .one (.dat (.flt .f32) y24)), (46, .one (.dat (.flt .f32) y31)), (45, .one (.dat (.flt .f32) y22)), (44, .one (.dat (.flt .f32) y22)), (43, .one (.dat (.flt .f32) s7.1)), (3, .one (.ptr 0 0)), (4, .one (.ptr 1 0)), (8, .one (.dat (.flt .f32) s7.1)), (11, .one (.dat (.flt .f32) y22)), (12, .one (.dat (.flt .f32) y24)), (25, .one (.dat (.sl (.sl (.int .i64))) y5)), (26, .one (.dat (.int .i64) (lenI y5))), (27, .one (.dat (.int .i64) s7.2)), (42, .one (.dat .bool (!(fgt .f32 y24 (0 : Nat)))))], [(0, .box [.dat (.int .i64) a0.1, .dat (.int .i64) a0.2.1, .dat (.sl (.flt .f32)) a0.2.2.1, .dat (.sl (.flt .f32)) a0.2.2.2.1, .dat (.sl (.flt .f32)) a0.2.2.2.2]), (1, .box [.dat (.int .i64) a1.1, .dat (.int .i64) a1.2.1, .dat (.sl (.flt .f32)) a1.2.2.1, .dat (.sl (.flt .f32)) a1.2.2.2.1, .dat (.sl (.flt .f32)) a1.2.2.2.2])], 2⟩) hP hN (by kernel_rfl) (allCons (f101_ok hc32) (allCons (f101_ok hc34) allNil)) (qBlock (qThen ?_))
                exact (Le.cv (s := ⟨[(0, 0), (1, 1)], [], [], false⟩) (own := []) (ps := [(fop .add .f32 s7.1 (fop .quo .f32 (fop .mul .f32 y22 (fop .sub .f32 y31 y33)) (1060205080 : Nat))) = (fop .add .f32 s7.1 (fop .quo .f32 (fop .mul .f32 y22 (fop .sub .f32 y31 y33)) (1060205080 : Nat))), y5 = y5, (lenI y5) = (lenI y5), s7.2 = s7.2, a0.1 = a0.1, a0.2.1 = a0.2.1, a0.2.2.1 = a0.2.2.1, a0.2.2.2.1 = a0.2.2.2.1, a0.2.2.2.2 = a0.2.2.2.2, a1.1 = a1.1, a1.2.1 = a1.2.1, a1.2.2.1 = a1.2.2.1, a1.2.2.2.1 = a1.2.2.2.1, a1.2.2.2.2 = a1.2.2.2.2]) (st' := ⟨[(3, .one (.ptr 0 0)), (4, .one (.ptr 1 0)), (8, .one (.dat (.flt .f32) (fop .add .f32 s7.1 (fop .quo .f32 (fop .mul .f32 y22 (fop .sub .f32 y31 y33)) (1060205080 : Nat))))), (25, .one (.dat (.sl (.sl (.int .i64))) y5)), (26, .one (.dat (.int .i64) (lenI y5))), (27, .one (.dat (.int .i64) s7.2))], [(0, .box [.dat (.int .i64) a0.1, .dat (.int .i64) a0.2.1, .dat (.sl (.flt .f32)) a0.2.2.1, .dat (.sl (.flt .f32)) a0.2.2.2.1, .dat (.sl (.flt .f32)) a0.2.2.2.2]), (1, .box [.dat (.int .i64) a1.1, .dat (.int .i64) a1.2.1, .dat (.sl (.flt .f32)) a1.2.2.1, .dat (.sl (.flt .f32)) a1.2.2.2.1, .dat (.sl (.flt .f32)) a1.2.2.2.2])], 2⟩) hO (fun h => by cases h) (by kernel_rfl) ⟨rfl, rfl, rfl, rfl, rfl, rfl, rfl, rfl, rfl, rfl, rfl, rfl, rfl, rfl, trivial⟩).ht (cont (fop .add .f32 s7.1 (fop .quo .f32 (fop .mul .f32 y22 (fop .sub .f32 y31 y33)) (1060205080 : Nat))) (of_some2 hT19))
        · refine HT.cond0 rfl hb16 ?_
          have hx14 := of_some hx14
          subst hx14
          refine (Le.cv (s := ⟨[], [], [], false⟩) (own := []) (ps := [s7.1 = s7.1]) (st' := ⟨[(8, .one (.dat (.flt .f32) s7.1))], [], 0⟩) hO (fun h => by cases h) (by kernel_rfl) ⟨rfl, trivial⟩).ht ?_
          exact HT.exit (qThenE (qLoopE (hk15 (.inl s7.1) rfl)))
  · obtain ⟨y36, hc37, hT3⟩ := of_bind hT3
    rcases of_bif hT3 with ⟨hb38, hT3⟩ | ⟨hb38, hT3⟩
    · refine HT.reg (rs := [⟨none, .no⟩, ⟨none, .no⟩, ⟨none, .call [.imm (.st (.pair (.int .i64) (.pair (.int .i64) (.pair (.sl (.flt .f32)) (.pair (.sl (.flt .f32)) (.sl (.flt .f32))))))), .imm (.st (.pair (.int .i64) (.pair (.int .i64) (.pair (.sl (.flt .f32)) (.pair (.sl (.flt .f32)) (.sl (.flt .f32)))))))] [⟨false, .bool, y36⟩] []⟩, ⟨none, .no⟩, ⟨none, .no⟩, ⟨some true, .no⟩, ⟨some true, .no⟩, ⟨some true, .no⟩, ⟨none, .tv true⟩]) (st' := ⟨[(21, .one (.dat .bool true)), (20, .und), (19, .und), (18, .und), (17, .one (.dat .bool (!y36))), (16, .one (.dat .bool (!y36))), (15, .one (.dat .bool y36)), (14, .agg [.dat (.int .i64) a1.1, .dat (.int .i64) a1.2.1, .dat (.sl (.flt .f32)) a1.2.2.1, .dat (.sl (.flt .f32)) a1.2.2.2.1, .dat (.sl (.flt .f32)) a1.2.2.2.2]), (13, .agg [.dat (.int .i64) a0.1, .dat (.int .i64) a0.2.1, .dat (.sl (.flt .f32)) a0.2.2.1, .dat (.sl (.flt .f32)) a0.2.2.2.1, .dat (.sl (.flt .f32)) a0.2.2.2.2]), (2, .one (.dat (.int .i64) a2)), (3, .one (.ptr 0 0)), (4, .one (.ptr 1 0))], [(1, .box [.dat (.int .i64) a1.1, .dat (.int .i64) a1.2.1, .dat (.sl (.flt .f32)) a1.2.2.1, .dat (.sl (.flt .f32)) a1.2.2.2.1, .dat (.sl (.flt .f32)) a1.2.2.2.2]), (0, .box [.dat (.int .i64) a0.1, .dat (.int .i64) a0.2.1, .dat (.sl (.flt .f32)) a0.2.2.1, .dat (.sl (.flt .f32)) a0.2.2.2.1, .dat (.sl (.flt .f32)) a0.2.2.2.2])], 2⟩) hP hN (by kernel_rfl) (allCons (f68_ok hc37) (allCons hb38 (allCons hb38 (allCons hb38 (allCons hb38 allNil))))) (qThen ?_)
      exact (Le.cv (s := ⟨[(0, 0), (1, 1)], [], [], false⟩) (own := []) (ps := [a2 = a2, true = true, a0.1 = a0.1, a0.2.1 = a0.2.1, a0.2.2.1 = a0.2.2.1, a0.2.2.2.1 = a0.2.2.2.1, a0.2.2.2.2 = a0.2.2.2.2, a1.1 = a1.1, a1.2.1 = a1.2.1, a1.2.2.1 = a1.2.2.1, a1.2.2.2.1 = a1.2.2.2.1, a1.2.2.2.2 = a1.2.2.2.2]) (st' := ⟨[(2, .one (.dat (.int .i64) a2)), (3, .one (.ptr 0 0)), (4, .one (.ptr 1 0)), (21, .one (.dat .bool true))], [(0, .box [.dat (.int .i64) a0.1, .dat (.int .i64) a0.2.1, .dat (.sl (.flt .f32)) a0.2.2.1, .dat (.sl (.flt .f32)) a0.2.2.2.1, .dat (.sl (.flt .f32)) a0.2.2.2.2]), (1, .box [.dat (.int .i64) a1.1, .dat (.int .i64) a1.2.1, .dat (.sl (.flt .f32)) a1.2.2.1, .dat (.sl (.flt .f32)) a1.2.2.2.1, .dat (.sl (.flt .f32)) a1.2.2.2.2])], 2⟩) hO (fun h => by cases h) (by kernel_rfl) ⟨rfl, rfl, rfl, rfl, rfl, rfl, rfl, rfl, rfl, rfl, rfl, rfl, trivial⟩).ht (cont true (of_some hT3))
    · obtain ⟨y39, hc40, hT3⟩ := of_bind hT3
      refine HT.reg (rs := [⟨none, .no⟩, ⟨none, .no⟩, ⟨none, .call [.imm (.st (.pair (.int .i64) (.pair (.int .i64) (.pair (.sl (.flt .f32)) (.pair (.sl (.flt .f32)) (.sl (.flt .f32))))))), .imm (.st (.pair (.int .i64) (.pair (.int .i64) (.pair (.sl (.flt .f32)) (.pair (.sl (.flt .f32)) (.sl (.flt .f32)))))))] [⟨false, .bool, y36⟩] []⟩, ⟨none, .no⟩, ⟨none, .no⟩, ⟨some false, .no⟩, ⟨some false, .call [.imm (.int .i64), .imm (.int .i64), .imm (.int .i64)] [⟨false, .bool, y39⟩] []⟩, ⟨some false, .no⟩, ⟨none, .tv false⟩]) (st' := ⟨[(21, .one (.dat .bool (!y39))), (20, .one (.dat .bool (!y39))), (19, .one (.dat .bool y39)), (18, .one (.dat (.int .i64) a2)), (17, .one (.dat .bool (!y36))), (16, .one (.dat .bool (!y36))), (15, .one (.dat .bool y36)), (14, .agg [.dat (.int .i64) a1.1, .dat (.int .i64) a1.2.1, .dat (.sl (.flt .f32)) a1.2.2.1, .dat (.sl (.flt .f32)) a1.2.2.2.1, .dat (.sl (.flt .f32)) a1.2.2.2.2]), (13, .agg [.dat (.int .i64) a0.1, .dat (.int .i64) a0.2.1, .dat (.sl (.flt .f32)) a0.2.2.1, .dat (.sl (.flt .f32)) a0.2.2.2.1, .dat (.sl (.flt .f32)) a0.2.2.2.2]), (2, .one (.dat (.int .i64) a2)), (3, .one (.ptr 0 0)), (4, .one (.ptr 1 0))], [(1, .box [.dat (.int .i64) a1.1, .dat (.int .i64) a1.2.1, .dat (.sl (.flt .f32)) a1.2.2.1, .dat (.sl (.flt .f32)) a1.2.2.2.1, .dat (.sl (.flt .f32)) a1.2.2.2.2]), (0, .box [.dat (.int .i64) a0.1, .dat (.int .i64) a0.2.1, .dat (.sl (.flt .f32)) a0.2.2.1, .dat (.sl (.flt .f32)) a0.2.2.2.1, .dat (.sl (.flt .f32)) a0.2.2.2.2])], 2⟩) hP hN (by kernel_rfl) (allCons (f68_ok hc37) (allCons hb38 (allCons hb38 (allCons (f69_ok hc40) (allCons hb38 (allCons hb38 allNil)))))) (qThen ?_)
      exact (Le.cv (s := ⟨[(0, 0), (1, 1)], [], [], false⟩) (own := []) (ps := [a2 = a2, (!y39) = (!y39), a0.1 = a0.1, a0.2.1 = a0.2.1, a0.2.2.1 = a0.2.2.1, a0.2.2.2.1 = a0.2.2.2.1, a0.2.2.2.2 = a0.2.2.2.2, a1.1 = a1.1, a1.2.1 = a1.2.1, a1.2.2.1 = a1.2.2.1, a1.2.2.2.1 = a1.2.2.2.1, a1.2.2.2.2 = a1.2.2.2.2]) (st' := ⟨[(2, .one (.dat (.int .i64) a2)), (3, .one (.ptr 0 0)), (4, .one (.ptr 1 0)), (21, .one (.dat .bool (!y39)))], [(0, .box [.dat (.int .i64) a0.1, .dat (.int .i64) a0.2.1, .dat (.sl (.flt .f32)) a0.2.2.1, .dat (.sl (.flt .f32)) a0.2.2.2.1, .dat (.sl (.flt .f32)) a0.2.2.2.2]), (1, .box [.dat (.int .i64) a1.1, .dat (.int .i64) a1.2.1, .dat (.sl (.flt .f32)) a1.2.2.1, .dat (.sl (.flt .f32)) a1.2.2.2.1, .dat (.sl (.flt .f32)) a1.2.2.2.2])], 2⟩) hO (fun h => by cases h) (by kernel_rfl) ⟨rfl, rfl, rfl, rfl, rfl, rfl, rfl, rfl, rfl, rfl, rfl, rfl, trivial⟩).ht (cont (!y39) (of_some hT3))

noncomputable def laws_sameFloat (a0 : Nat) (a1 : Nat) : Option (Bool) :=
  (show Option (Bool) from
    bif (!(feq .f64 a0 a0)) then
      some true
    else
      some (!(feq .f64 a1 a1))).bind fun v1 =>
  bif v1 then
    (show Option (Bool) from
      bif (!(feq .f64 a0 a0)) then
        some (!(feq .f64 a1 a1))
      else
        some false).bind fun v5 =>
    some v5
  else
    (show Option (Bool) from
      bif (feq .f64 a0 (0 : Nat)) then
        some (feq .f64 a1 (0 : Nat))
      else
        some false).bind fun v9 =>
    bif v9 then
      some ((fgt .f64 (fop .quo .f64 (4607182418800017408 : Nat) a0) (0 : Nat)) == (fgt .f64 (fop .quo .f64 (4607182418800017408 : Nat) a1) (0 : Nat)))
    else
      some (feq .f64 a0 a1)

theorem f19_ok {a0 : Nat} {a1 : Nat} {r : Bool} (hr : laws_sameFloat a0 a1 = some r) : CallOK Try.prog 19 [.imm (.flt .f64) a0, .imm (.flt .f64) a1] [⟨false, .bool, r⟩] [] := by
  unfold laws_sameFloat at hr
  refine CallOK.of_body (ts := [(false, .bool)]) Try.func19 rfl (by kernel_rfl) (Nat.le_of_ble_eq_true (by kernel_rfl)) fun cx hP hN hO hF => ?_
  have hO : cx.own.map Prod.fst = [] := hO
  have hF := hF rfl
  show HT cx ⟨[(0, .one (.dat (.flt .f64) a0)), (1, .one (.dat (.flt .f64) a1))], [], 0⟩ _ _
  refine HT.reg1 [0, 1] [⟨none, .no⟩] ⟨[(0, .one (.dat (.flt .f64) a0)), (1, .one (.dat (.flt .f64) a1))], [], 0⟩ hP hN (by kernel_rfl) allNil ?_
  refine HT.seq ?_
  obtain ⟨v1', hT3, hr⟩ := of_bind hr
  refine HT.join (fun (v1 : Bool) => ⟨[(0, .one (.dat (.flt .f64) a0)), (1, .one (.dat (.flt .f64) a1)), (12, .one (.dat .bool v1))], [], 0⟩) (fun v => v = v1') (fun v1 hv2 => ?_) (fun cont => ?_)
  · subst hv2
    rcases of_bif hr with ⟨hb4, hr⟩ | ⟨hb4, hr⟩
    · refine HT.cond1 rfl hb4 ?_
      obtain ⟨v5', hT7, hr⟩ := of_bind hr
      refine HT.join (fun (v5 : Bool) => ⟨[(4, .one (.dat .bool v5))], [], 0⟩) (fun v => v = v5') (fun v5 hv6 => ?_) (fun cont => ?_)
      · subst hv6
        have hr := of_some hr
        subst hr
        exact HT.ret (qThenR ⟨[.one (.dat .bool v5)], [], [], by kernel_rfl, by kernel_rfl, rfl, by kernel_rfl, by kernel_rfl, trivial⟩)
      · rcases of_bif hT7 with ⟨hb8, hT7⟩ | ⟨hb8, hT7⟩
        · refine HT.reg (rs := [⟨none, .no⟩, ⟨none, .no⟩, ⟨none, .no⟩, ⟨none, .no⟩, ⟨some true, .no⟩, ⟨some true, .no⟩, ⟨some true, .no⟩, ⟨none, .tv true⟩, ⟨none, .no⟩]) (st' := ⟨[(4, .one (.dat .bool (!(feq .f64 a1 a1)))), (20, .one (.dat .bool (!(feq .f64 a1 a1)))), (19, .one (.dat .bool (!(feq .f64 a1 a1)))), (18, .one (.dat (.flt .f64) a1)), (17, .one (.dat (.flt .f64) a1)), (16, .one (.dat .bool (!(feq .f64 a0 a0)))), (15, .one (.dat .bool (!(feq .f64 a0 a0)))), (14, .one (.dat (.flt .f64) a0)), (13, .one (.dat (.flt .f64) a0)), (0, .one (.dat (.flt .f64) a0)), (1, .one (.dat (.flt .f64) a1)), (12, .one (.dat .bool v1))], [], 0⟩) hP hN (by kernel_rfl) (allCons hb8 (allCons hb8 (allCons hb8 (allCons hb8 allNil)))) (qThen ?_)
          exact (Le.cv (s := ⟨[], [], [], false⟩) (own := []) (ps := [(!(feq .f64 a1 a1)) = (!(feq .f64 a1 a1))]) (st' := ⟨[(4, .one (.dat .bool (!(feq .f64 a1 a1))))], [], 0⟩) hO (fun h => by cases h) (by kernel_rfl) ⟨rfl, trivial⟩).ht (cont (!(feq .f64 a1 a1)) (of_some hT7))
        · refine HT.reg (rs := [⟨none, .no⟩, ⟨none, .no⟩, ⟨none, .no⟩, ⟨none, .no⟩, ⟨some false, .no⟩, ⟨some false, .no⟩, ⟨some false, .no⟩, ⟨none, .tv false⟩, ⟨none, .no⟩]) (st' := ⟨[(4, .one (.dat .bool false)), (20, .one (.dat .bool false)), (19, .und), (18, .und), (17, .und), (16, .one (.dat .bool (!(feq .f64 a0 a0)))), (15, .one (.dat .bool (!(feq .f64 a0 a0)))), (14, .one (.dat (.flt .f64) a0)), (13, .one (.dat (.flt .f64) a0)), (0, .one (.dat (.flt .f64) a0)), (1, .one (.dat (.flt .f64) a1)), (12, .one (.dat .bool v1))], [], 0⟩) hP hN (by kernel_rfl) (allCons hb8 (allCons hb8 (allCons hb8 (allCons hb8 allNil)))) (qThen ?_)
          exact (Le.cv (s := ⟨[], [], [], false⟩) (own := []) (ps := [false = false]) (st' := ⟨[(4, .one (.dat .bool false))], [], 0⟩) hO (fun h => by cases h) (by kernel_rfl) ⟨rfl, trivial⟩).ht (cont false (of_some hT7))
    · refine HT.cond0 rfl hb4 ?_
      refine HT.skip (qThen ?_)
      refine HT.seq ?_
      obtain ⟨v9', hT11, hr⟩ := of_bind hr
      refine HT.join (fun (v9 : Bool) => ⟨[(0, .one (.dat (.flt .f64) a0)), (1, .one (.dat (.flt .f64) a1)), (26, .one (.dat .bool v9))], [], 0⟩) (fun v => v = v9') (fun v9 hv10 => ?_) (fun cont => ?_)
      · subst hv10
        rcases of_bif hr with ⟨hb12, hr⟩ | ⟨hb12, hr⟩
        · refine HT.cond1 rfl hb12 ?_
          refine HT.reg1 [4] [⟨none, .no⟩, ⟨none, .no⟩, ⟨none, .no⟩, ⟨none, .no⟩, ⟨none, .no⟩, ⟨none, .no⟩, ⟨none, .no⟩, ⟨none, .no⟩] ⟨[(4, .one (.dat .bool ((fgt .f64 (fop .quo .f64 (4607182418800017408 : Nat) a0) (0 : Nat)) == (fgt .f64 (fop .quo .f64 (4607182418800017408 : Nat) a1) (0 : Nat)))))], [], 0⟩ hP hN (by kernel_rfl) allNil ?_
          have hr := of_some hr
          subst hr
          exact HT.ret (qThenR ⟨[.one (.dat .bool ((fgt .f64 (fop .quo .f64 (4607182418800017408 : Nat) a0) (0 : Nat)) == (fgt .f64 (fop .quo .f64 (4607182418800017408 : Nat) a1) (0 : Nat))))], [], [], by kernel_rfl, by kernel_rfl, rfl, by kernel_rfl, by kernel_rfl, trivial⟩)
        · refine HT.cond0 rfl hb12 ?_
          refine HT.skip (qThen ?_)
          refine HT.reg1 [4] [⟨none, .no⟩, ⟨none, .no⟩, ⟨none, .no⟩, ⟨none, .no⟩] ⟨[(4, .one (.dat .bool (feq .f64 a0 a1)))], [], 0⟩ hP hN (by kernel_rfl) allNil ?_
          have hr := of_some hr
          subst hr
          exact HT.ret ⟨[.one (.dat .bool (feq .f64 a0 a1))], [], [], by kernel_rfl, by kernel_rfl, rfl, by kernel_rfl, by kernel_rfl, trivial⟩
      · rcases of_bif hT11 with ⟨hb13, hT11⟩ | ⟨hb13, hT11⟩
        · refine HT.reg (rs := [⟨none, .no⟩, ⟨none, .no⟩, ⟨none, .no⟩, ⟨some true, .no⟩, ⟨some true, .no⟩, ⟨none, .tv true⟩]) (st' := ⟨[(26, .one (.dat .bool (feq .f64 a1 (0 : Nat)))), (25, .one (.dat .bool (feq .f64 a1 (0 : Nat)))), (24, .one (.dat (.flt .f64) a1)), (23, .one (.dat .bool (feq .f64 a0 (0 : Nat)))), (22, .one (.dat .bool (feq .f64 a0 (0 : Nat)))), (21, .one (.dat (.flt .f64) a0)), (0, .one (.dat (.flt .f64) a0)), (1, .one (.dat (.flt .f64) a1)), (12, .one (.dat .bool v1))], [], 0⟩) hP hN (by kernel_rfl) (allCons hb13 (allCons hb13 (allCons hb13 allNil))) (qThen ?_)
          exact (Le.cv (s := ⟨[], [], [], false⟩) (own := []) (ps := [a0 = a0, a1 = a1, (feq .f64 a1 (0 : Nat)) = (feq .f64 a1 (0 : Nat))]) (st' := ⟨[(0, .one (.dat (.flt .f64) a0)), (1, .one (.dat (.flt .f64) a1)), (26, .one (.dat .bool (feq .f64 a1 (0 : Nat))))], [], 0⟩) hO (fun h => by cases h) (by kernel_rfl) ⟨rfl, rfl, rfl, trivial⟩).ht (cont (feq .f64 a1 (0 : Nat)) (of_some hT11))
        · refine HT.reg (rs := [⟨none, .no⟩, ⟨none, .no⟩, ⟨none, .no⟩, ⟨some false, .no⟩, ⟨some false, .no⟩, ⟨none, .tv false⟩]) (st' := ⟨[(26, .one (.dat .bool false)), (25, .und), (24, .und), (23, .one (.dat .bool (feq .f64 a0 (0 : Nat)))), (22, .one (.dat .bool (feq .f64 a0 (0 : Nat)))), (21, .one (.dat (.flt .f64) a0)), (0, .one (.dat (.flt .f64) a0)), (1, .one (.dat (.flt .f64) a1)), (12, .one (.dat .bool v1))], [], 0⟩) hP hN (by kernel_rfl) (allCons hb13 (allCons hb13 (allCons hb13 allNil))) (qThen ?_)
          exact (Le.cv (s := ⟨[], [], [], false⟩) (own := []) (ps := [a0 = a0, a1 = a1, false = false]) (st' := ⟨[(0, .one (.dat (.flt .f64) a0)), (1, .one (.dat (.flt .f64) a1)), (26, .one (.dat .bool false))], [], 0⟩) hO (fun h => by cases h) (by kernel_rfl) ⟨rfl, rfl, rfl, trivial⟩).ht (cont false (of_some hT11))
  · rcases of_bif hT3 with ⟨hb14, hT3⟩ | ⟨hb14, hT3⟩
    · refine HT.reg (rs := [⟨none, .no⟩, ⟨none, .no⟩, ⟨none, .no⟩, ⟨none, .no⟩, ⟨some true, .no⟩, ⟨some true, .no⟩, ⟨some true, .no⟩, ⟨none, .tv true⟩]) (st' := ⟨[(12, .one (.dat .bool true)), (11, .und), (10, .und), (9, .und), (8, .one (.dat .bool (!(feq .f64 a0 a0)))), (7, .one (.dat .bool (!(feq .f64 a0 a0)))), (6, .one (.dat (.flt .f64) a0)), (5, .one (.dat (.flt .f64) a0)), (0, .one (.dat (.flt .f64) a0)), (1, .one (.dat (.flt .f64) a1))], [], 0⟩) hP hN (by kernel_rfl) (allCons hb14 (allCons hb14 (allCons hb14 (allCons hb14 allNil)))) (qThen ?_)
      exact (Le.cv (s := ⟨[], [], [], false⟩) (own := []) (ps := [a0 = a0, a1 = a1, true = true]) (st' := ⟨[(0, .one (.dat (.flt .f64) a0)), (1, .one (.dat (.flt .f64) a1)), (12, .one (.dat .bool true))], [], 0⟩) hO (fun h => by cases h) (by kernel_rfl) ⟨rfl, rfl, rfl, trivial⟩).ht (cont true (of_some hT3))
    · refine HT.reg (rs := [⟨none, .no⟩, ⟨none, .no⟩, ⟨none, .no⟩, ⟨none, .no⟩, ⟨some false, .no⟩, ⟨some false, .no⟩, ⟨some false, .no⟩, ⟨none, .tv false⟩]) (st' := ⟨[(12, .one (.dat .bool (!(feq .f64 a1 a1)))), (11, .one (.dat .bool (!(feq .f64 a1 a1)))), (10, .one (.dat (.flt .f64) a1)), (9, .one (.dat (.flt .f64) a1)), (8, .one (.dat .bool (!(feq .f64 a0 a0)))), (7, .one (.dat .bool (!(feq .f64 a0 a0)))), (6, .one (.dat (.flt .f64) a0)), (5, .one (.dat (.flt .f64) a0)), (0, .one (.dat (.flt .f64) a0)), (1, .one (.dat (.flt .f64) a1))], [], 0⟩) hP hN (by kernel_rfl) (allCons hb14 (allCons hb14 (allCons hb14 (allCons hb14 allNil)))) (qThen ?_)
      exact (Le.cv (s := ⟨[], [], [], false⟩) (own := []) (ps := [a0 = a0, a1 = a1, (!(feq .f64 a1 a1)) = (!(feq .f64 a1 a1))]) (st' := ⟨[(0, .one (.dat (.flt .f64) a0)), (1, .one (.dat (.flt .f64) a1)), (12, .one (.dat .bool (!(feq .f64 a1 a1))))], [], 0⟩) hO (fun h => by cases h) (by kernel_rfl) ⟨rfl, rfl, rfl, trivial⟩).ht (cont (!(feq .f64 a1 a1)) (of_some hT3))

noncomputable def laws_eqFloat32S_B1 (a0 : List Nat) (a1 : List Nat) (s2 : Int) : Option ((Int) ⊕ (Unit ⊕ Unit)) :=
  bif (decide (s2 < (lenI a0))) then
    guardP ((0 : Int) ≤ s2 ∧ s2 < lenI a0) (
      guardP ((0 : Int) ≤ s2 ∧ s2 < lenI a1) (
        (laws_sameFloat (fconv .f32 .f64 (List.getD a0 (Int.toNat s2) (0 : Nat))) (fconv .f32 .f64 (List.getD a1 (Int.toNat s2) (0 : Nat)))).bind fun y12 =>
        bif (!y12) then
          some (.inr (.inr ()))
        else
          some (.inl (wadd .i64 s2 (1 : Int)))))
  else
    some (.inr (.inl ()))

noncomputable def laws_eqFloat32S (a0 : List Nat) (a1 : List Nat) : Option (Bool) :=
  bif ((lenI a0) != (lenI a1)) then
    some false
  else
    (rounds (laws_eqFloat32S_B1 a0 a1) (0 : Int)).bind fun r3 => match r3 with
      | .inl r4 =>
        some true
      | .inr r5 =>
        some false

theorem f33_ok {a0 : List Nat} {a1 : List Nat} {r : Bool} (hr : laws_eqFloat32S a0 a1 = some r) : CallOK Try.prog 33 [.imm (.sl (.flt .f32)) a0, .imm (.sl (.flt .f32)) a1] [⟨false, .bool, r⟩] [] := by
  unfold laws_eqFloat32S at hr
  refine CallOK.of_body (ts := [(false, .bool)]) Try.func33 rfl (by kernel_rfl) (Nat.le_of_ble_eq_true (by kernel_rfl)) fun cx hP hN hO hF => ?_
  have hO : cx.own.map Prod.fst = [] := hO
  have hF := hF rfl
  show HT cx ⟨[(0, .one (.dat (.sl (.flt .f32)) a0)), (1, .one (.dat (.sl (.flt .f32)) a1))], [], 0⟩ _ _
  refine HT.reg1 [0, 1] [⟨none, .no⟩] ⟨[(0, .one (.dat (.sl (.flt .f32)) a0)), (1, .one (.dat (.sl (.flt .f32)) a1))], [], 0⟩ hP hN (by kernel_rfl) allNil ?_
  refine HT.seq ?_
  refine HT.reg1 [0, 1, 10] [⟨none, .no⟩, ⟨none, .no⟩, ⟨none, .no⟩, ⟨none, .no⟩, ⟨none, .no⟩] ⟨[(0, .one (.dat (.sl (.flt .f32)) a0)), (1, .one (.dat (.sl (.flt .f32)) a1)), (10, .one (.dat .bool ((lenI a0) != (lenI a1))))], [], 0⟩ hP hN (by kernel_rfl) allNil ?_
  rcases of_bif hr with ⟨hb1, hr⟩ | ⟨hb1, hr⟩
  · refine HT.cond1 rfl hb1 ?_
    refine HT.reg1 [4] [⟨none, .no⟩] ⟨[(4, .one (.dat .bool false))], [], 0⟩ hP hN (by kernel_rfl) allNil ?_
    have hr := of_some hr
    subst hr
    exact HT.ret (qThenR ⟨[.one (.dat .bool false)], [], [], by kernel_rfl, by kernel_rfl, rfl, by kernel_rfl, by kernel_rfl, trivial⟩)
  · refine HT.cond0 rfl hb1 ?_
    refine HT.skip (qThen ?_)
    refine HT.seq ?_
    refine HT.reg1 [0, 1, 5] [⟨none, .no⟩] ⟨[(0, .one (.dat (.sl (.flt .f32)) a0)), (1, .one (.dat (.sl (.flt .f32)) a1)), (5, .one (.dat (.int .i64) (0 : Int)))], [], 0⟩ hP hN (by kernel_rfl) allNil ?_
    refine HT.block ?_
    obtain ⟨r3, hL15, hr⟩ := of_bind hr
    refine (Le.cv (s := ⟨[], [], [], false⟩) (own := []) (ps := [a0 = a0, a1 = a1, (0 : Int) = (0 : Int)]) (st' := ⟨[(0, .one (.dat (.sl (.flt .f32)) a0)), (1, .one (.dat (.sl (.flt .f32)) a1)), (5, .one (.dat (.int .i64) (0 : Int)))], [], 0⟩) hO (fun h => by cases h) (by kernel_rfl) ⟨rfl, rfl, rfl, trivial⟩).ht ?_
    refine HT.loopE (s := (0 : Int)) (fun (s2 : Int) => ⟨[(0, .one (.dat (.sl (.flt .f32)) a0)), (1, .one (.dat (.sl (.flt .f32)) a1)), (5, .one (.dat (.int .i64) s2))], [], 0⟩) (fun (r3 : Unit ⊕ Unit) => match r3 with | .inl r4 => (.exit 0, ⟨[], [], 0⟩) | .inr r5 => (.ret, ⟨[(4, .one (.dat .bool false))], [], 0⟩)) hL15 ?_ (fun s2 x6 hx7 hk8 => ?_)
    · rcases r3 with r4 | r5
      · refine (qBlockX (qThen ?_))
        refine HT.reg1 [4] [⟨none, .no⟩] ⟨[(4, .one (.dat .bool true))], [], 0⟩ hP hN (by kernel_rfl) allNil ?_
        have hr := of_some hr
        subst hr
        exact HT.ret ⟨[.one (.dat .bool true)], [], [], by kernel_rfl, by kernel_rfl, rfl, by kernel_rfl, by kernel_rfl, trivial⟩
      · have hr := of_some hr
        subst hr
        exact (qBlockR (qThenR ⟨[.one (.dat .bool false)], [], [], by kernel_rfl, by kernel_rfl, rfl, by kernel_rfl, by kernel_rfl, trivial⟩))
    · refine HT.seq ?_
      refine HT.reg1 [0, 1, 5, 14] [⟨none, .no⟩, ⟨none, .no⟩, ⟨none, .no⟩, ⟨none, .no⟩] ⟨[(0, .one (.dat (.sl (.flt .f32)) a0)), (1, .one (.dat (.sl (.flt .f32)) a1)), (5, .one (.dat (.int .i64) s2)), (14, .one (.dat .bool (decide (s2 < (lenI a0)))))], [], 0⟩ hP hN (by kernel_rfl) allNil ?_
      rcases of_bif hx7 with ⟨hb9, hx7⟩ | ⟨hb9, hx7⟩
      · refine HT.cond1 rfl hb9 ?_
        refine HT.skip (qThen ?_)
        refine HT.seq ?_
        refine HT.block ?_
        obtain ⟨hg10, hx7⟩ := of_guard hx7
        obtain ⟨hg11, hx7⟩ := of_guard hx7
        obtain ⟨y12, hc13, hx7⟩ := of_bind hx7
        refine HT.drw1 [0, 1, 5, 28] 10 [⟨⟨none, .no⟩, []⟩, ⟨⟨none, .no⟩, []⟩, ⟨⟨none, .no⟩, [0, 1]⟩, ⟨⟨none, .no⟩, [0, 1, 2]⟩, ⟨⟨none, .no⟩, [0, 1, 2, 3]⟩, ⟨⟨none, .no⟩, []⟩, ⟨⟨none, .no⟩, []⟩, ⟨⟨none, .no⟩, [5, 6]⟩, ⟨⟨none, .no⟩, [5, 6, 7]⟩, ⟨⟨none, .no⟩, [5, 6, 7, 8]⟩] [[0, 1, 2, 3, 4, 5, 6, 7, 8, 9], [0, 1, 2, 3, 4, 5, 6, 7, 8, 9, 10]] [⟨none, .call [.imm (.flt .f64), .imm (.flt .f64)] [⟨false, .bool, y12⟩] []⟩, ⟨none, .no⟩] ⟨[(0, .one (.dat (.sl (.flt .f32)) a0)), (1, .one (.dat (.sl (.flt .f32)) a1)), (5, .one (.dat (.int .i64) s2)), (28, .one (.dat .bool (!y12)))], [], 0⟩ hP hN (by kernel_rfl) (by kernel_rfl) (allCons hg10 (allCons (show fconvOK .f32 .f64 (List.getD a0 (Int.toNat s2) (0 : Nat)) = true from (fconv_up _)) (allCons hg11 (allCons (show fconvOK .f32 .f64 (List.getD a1 (Int.toNat s2) (0 : Nat)) = true from (fconv_up _)) (allCons (f19_ok hc13) allNil))))) ?_
        rcases of_bif hx7 with ⟨hb14, hx7⟩ | ⟨hb14, hx7⟩
        · refine HT.cond1 rfl hb14 ?_
          refine HT.reg1 [4] [⟨none, .no⟩] ⟨[(4, .one (.dat .bool false))], [], 0⟩ hP hN (by kernel_rfl) allNil ?_
          have hx7 := of_some hx7
          subst hx7
          refine (Le.cv (s := ⟨[], [], [], false⟩) (own := []) (ps := [false = false]) (st' := ⟨[(4, .one (.dat .bool false))], [], 0⟩) hO (fun h => by cases h) (by kernel_rfl) ⟨rfl, trivial⟩).ht ?_
          exact HT.ret (qBlockR (qThenR (qLoopR (hk8 (.inr ()) rfl))))
        · refine HT.cond0 rfl hb14 ?_
          refine HT.skip (qBlock (qThen ?_))
          have hx7 := of_some hx7
          subst hx7
          refine HT.reg (rs := [⟨none, .no⟩, ⟨none, .no⟩, ⟨none, .no⟩]) (st' := ⟨[(5, .one (.dat (.int .i64) (wadd .i64 s2 (1 : Int)))), (16, .one (.dat (.int .i64) (wadd .i64 s2 (1 : Int)))), (15, .one (.dat (.int .i64) s2)), (0, .one (.dat (.sl (.flt .f32)) a0)), (1, .one (.dat (.sl (.flt .f32)) a1)), (5, .one (.dat (.int .i64) s2)), (28, .one (.dat .bool (!y12)))], [], 0⟩) hP hN (by kernel_rfl) allNil (qLoopN ⟨(wadd .i64 s2 (1 : Int)), rfl, Le.cv (s := ⟨[], [], [], false⟩) (own := []) (ps := [a0 = a0, a1 = a1, (wadd .i64 s2 (1 : Int)) = (wadd .i64 s2 (1 : Int))]) (st' := ⟨[(0, .one (.dat (.sl (.flt .f32)) a0)), (1, .one (.dat (.sl (.flt .f32)) a1)), (5, .one (.dat (.int .i64) (wadd .i64 s2 (1 : Int))))], [], 0⟩) hO (fun h => by cases h) (by kernel_rfl) ⟨rfl, rfl, rfl, trivial⟩⟩)
      · refine HT.cond0 rfl hb9 ?_
        have hx7 := of_some hx7
        subst hx7
        refine (Le.cv (s := ⟨[], [], [], false⟩) (own := []) (ps := []) (st' := ⟨[], [], 0⟩) hO (fun h => by cases h) (by kernel_rfl) trivial).ht ?_
        exact HT.exit (qThenE (qLoopE (hk8 (.inl ()) rfl)))

noncomputable def laws_eqModel (a0 : Int × Int × List Nat × List Nat × List Nat) (a1 : Int × Int × List Nat × List Nat × List Nat) : Option (Bool) :=
  bif (a0.1 != a1.1) then
    some false
  else
    bif (a0.2.1 != a1.2.1) then
      some false
    else
      (laws_eqFloat32S a0.2.2.1 a1.2.2.1).bind fun y3 =>
      bif (!y3) then
        some false
      else
        (laws_eqFloat32S a0.2.2.2.1 a1.2.2.2.1).bind fun y6 =>
        bif (!y6) then
          some false
        else
          (laws_eqFloat32S a0.2.2.2.2 a1.2.2.2.2).bind fun y9 =>
          bif (!y9) then
            some false
          else
            some true

theorem f20_ok {a0 : Int × Int × List Nat × List Nat × List Nat} {a1 : Int × Int × List Nat × List Nat × List Nat} {r : Bool} (hr : laws_eqModel a0 a1 = some r) : CallOK Try.prog 20 [.imm (.st (.pair (.int .i64) (.pair (.int .i64) (.pair (.sl (.flt .f32)) (.pair (.sl (.flt .f32)) (.sl (.flt .f32))))))) a0, .imm (.st (.pair (.int .i64) (.pair (.int .i64) (.pair (.sl (.flt .f32)) (.pair (.sl (.flt .f32)) (.sl (.flt .f32))))))) a1] [⟨false, .bool, r⟩] [] := by
  unfold laws_eqModel at hr
  refine CallOK.of_body (ts := [(false, .bool)]) Try.func20 rfl (by kernel_rfl) (Nat.le_of_ble_eq_true (by kernel_rfl)) fun cx hP hN hO hF => ?_
  have hO : cx.own.map Prod.fst = [] := hO
  have hF := hF rfl
  show HT cx ⟨[(0, .agg [.dat (.int .i64) a0.1, .dat (.int .i64) a0.2.1, .dat (.sl (.flt .f32)) a0.2.2.1, .dat (.sl (.flt .f32)) a0.2.2.2.1, .dat (.sl (.flt .f32)) a0.2.2.2.2]), (1, .agg [.dat (.int .i64) a1.1, .dat (.int .i64) a1.2.1, .dat (.sl (.flt .f32)) a1.2.2.1, .dat (.sl (.flt .f32)) a1.2.2.2.1, .dat (.sl (.flt .f32)) a1.2.2.2.2])], [], 0⟩ _ _
  refine HT.reg1 [2, 3] [⟨none, .no⟩, ⟨none, .no⟩, ⟨none, .no⟩] ⟨[(2, .one (.ptr 0 0)), (3, .one (.ptr 1 0))], [(1, .box [.dat (.int .i64) a1.1, .dat (.int .i64) a1.2.1, .dat (.sl (.flt .f32)) a1.2.2.1, .dat (.sl (.flt .f32)) a1.2.2.2.1, .dat (.sl (.flt .f32)) a1.2.2.2.2]), (0, .box [.dat (.int .i64) a0.1, .dat (.int .i64) a0.2.1, .dat (.sl (.flt .f32)) a0.2.2.1, .dat (.sl (.flt .f32)) a0.2.2.2.1, .dat (.sl (.flt .f32)) a0.2.2.2.2])], 2⟩ hP hN (by kernel_rfl) allNil ?_
  refine HT.seq ?_
  refine HT.reg1 [2, 3, 9] [⟨none, .no⟩, ⟨none, .no⟩, ⟨none, .no⟩, ⟨none, .no⟩, ⟨none, .no⟩] ⟨[(2, .one (.ptr 0 0)), (3, .one (.ptr 1 0)), (9, .one (.dat .bool (a0.1 != a1.1)))], [(1, .box [.dat (.int .i64) a1.1, .dat (.int .i64) a1.2.1, .dat (.sl (.flt .f32)) a1.2.2.1, .dat (.sl (.flt .f32)) a1.2.2.2.1, .dat (.sl (.flt .f32)) a1.2.2.2.2]), (0, .box [.dat (.int .i64) a0.1, .dat (.int .i64) a0.2.1, .dat (.sl (.flt .f32)) a0.2.2.1, .dat (.sl (.flt .f32)) a0.2.2.2.1, .dat (.sl (.flt .f32)) a0.2.2.2.2])], 2⟩ hP hN (by kernel_rfl) allNil ?_
  rcases of_bif hr with ⟨hb1, hr⟩ | ⟨hb1, hr⟩
  · refine HT.cond1 rfl hb1 ?_
    refine HT.reg1 [4] [⟨none, .no⟩] ⟨[(4, .one (.dat .bool false))], [(1, .box [.dat (.int .i64) a1.1, .dat (.int .i64) a1.2.1, .dat (.sl (.flt .f32)) a1.2.2.1, .dat (.sl (.flt .f32)) a1.2.2.2.1, .dat (.sl (.flt .f32)) a1.2.2.2.2]), (0, .box [.dat (.int .i64) a0.1, .dat (.int .i64) a0.2.1, .dat (.sl (.flt .f32)) a0.2.2.1, .dat (.sl (.flt .f32)) a0.2.2.2.1, .dat (.sl (.flt .f32)) a0.2.2.2.2])], 2⟩ hP hN (by kernel_rfl) allNil ?_
    have hr := of_some hr
    subst hr
    exact HT.ret (qThenR ⟨[.one (.dat .bool false)], [], [], by kernel_rfl, by kernel_rfl, rfl, by kernel_rfl, by kernel_rfl, trivial⟩)
  · refine HT.cond0 rfl hb1 ?_
    refine HT.skip (qThen ?_)
    refine HT.seq ?_
    refine HT.reg1 [2, 3, 14] [⟨none, .no⟩, ⟨none, .no⟩, ⟨none, .no⟩, ⟨none, .no⟩, ⟨none, .no⟩] ⟨[(2, .one (.ptr 0 0)), (3, .one (.ptr 1 0)), (14, .one (.dat .bool (a0.2.1 != a1.2.1)))], [(1, .box [.dat (.int .i64) a1.1, .dat (.int .i64) a1.2.1, .dat (.sl (.flt .f32)) a1.2.2.1, .dat (.sl (.flt .f32)) a1.2.2.2.1, .dat (.sl (.flt .f32)) a1.2.2.2.2]), (0, .box [.dat (.int .i64) a0.1, .dat (.int .i64) a0.2.1, .dat (.sl (.flt .f32)) a0.2.2.1, .dat (.sl (.flt .f32)) a0.2.2.2.1, .dat (.sl (.flt .f32)) a0.2.2.2.2])], 2⟩ hP hN (by kernel_rfl) allNil ?_
    rcases of_bif hr with ⟨hb2, hr⟩ | ⟨hb2, hr⟩
    · refine HT.cond1 rfl hb2 ?_
      refine HT.reg1 [4] [⟨none, .no⟩] ⟨[(4, .one (.dat .bool false))], [(1, .box [.dat (.int .i64) a1.1, .dat (.int .i64) a1.2.1, .dat (.sl (.flt .f32)) a1.2.2.1, .dat (.sl (.flt .f32)) a1.2.2.2.1, .dat (.sl (.flt .f32)) a1.2.2.2.2]), (0, .box [.dat (.int .i64) a0.1, .dat (.int .i64) a0.2.1, .dat (.sl (.flt .f32)) a0.2.2.1, .dat (.sl (.flt .f32)) a0.2.2.2.1, .dat (.sl (.flt .f32)) a0.2.2.2.2])], 2⟩ hP hN (by kernel_rfl) allNil ?_
      have hr := of_some hr
      subst hr
      exact HT.ret (qThenR ⟨[.one (.dat .bool false)], [], [], by kernel_rfl, by kernel_rfl, rfl, by kernel_rfl, by kernel_rfl, trivial⟩)
    · refine HT.cond0 rfl hb2 ?_
      refine HT.skip (qThen ?_)
      refine HT.seq ?_
      obtain ⟨y3, hc4, hr⟩ := of_bind hr
      refine HT.reg1 [2, 3, 20] [⟨none, .no⟩, ⟨none, .no⟩, ⟨none, .no⟩, ⟨none, .no⟩, ⟨none, .call [.imm (.sl (.flt .f32)), .imm (.sl (.flt .f32))] [⟨false, .bool, y3⟩] []⟩, ⟨none, .no⟩] ⟨[(2, .one (.ptr 0 0)), (3, .one (.ptr 1 0)), (20, .one (.dat .bool (!y3)))], [(1, .box [.dat (.int .i64) a1.1, .dat (.int .i64) a1.2.1, .dat (.sl (.flt .f32)) a1.2.2.1, .dat (.sl (.flt .f32)) a1.2.2.2.1, .dat (.sl (.flt .f32)) a1.2.2.2.2]), (0, .box [.dat (.int .i64) a0.1, .dat (.int .i64) a0.2.1, .dat (.sl (.flt .f32)) a0.2.2.1, .dat (.sl (.flt .f32)) a0.2.2.2.1, .dat (.sl (.flt .f32)) a0.2.2.2.2])], 2⟩ hP hN (by kernel_rfl) (allCons (f33_ok hc4) allNil) ?_
      rcases of_bif hr with ⟨hb5, hr⟩ | ⟨hb5, hr⟩
      · refine HT.cond1 rfl hb5 ?_
        refine HT.reg1 [4] [⟨none, .no⟩] ⟨[(4, .one (.dat .bool false))], [(1, .box [.dat (.int .i64) a1.1, .dat (.int .i64) a1.2.1, .dat (.sl (.flt .f32)) a1.2.2.1, .dat (.sl (.flt .f32)) a1.2.2.2.1, .dat (.sl (.flt .f32)) a1.2.2.2.2]), (0, .box [.dat (.int .i64) a0.1, .dat (.int .i64) a0.2.1, .dat (.sl (.flt .f32)) a0.2.2.1, .dat (.sl (.flt .f32)) a0.2.2.2.1, .dat (.sl (.flt .f32)) a0.2.2.2.2])], 2⟩ hP hN (by kernel_rfl) allNil ?_
        have hr := of_some hr
        subst hr
        exact HT.ret (qThenR ⟨[.one (.dat .bool false)], [], [], by kernel_rfl, by kernel_rfl, rfl, by kernel_rfl, by kernel_rfl, trivial⟩)
      · refine HT.cond0 rfl hb5 ?_
        refine HT.skip (qThen ?_)
        refine HT.seq ?_
        obtain ⟨y6, hc7, hr⟩ := of_bind hr
        refine HT.reg1 [2, 3, 26] [⟨none, .no⟩, ⟨none, .no⟩, ⟨none, .no⟩, ⟨none, .no⟩, ⟨none, .call [.imm (.sl (.flt .f32)), .imm (.sl (.flt .f32))] [⟨false, .bool, y6⟩] []⟩, ⟨none, .no⟩] ⟨[(2, .one (.ptr 0 0)), (3, .one (.ptr 1 0)), (26, .one (.dat .bool (!y6)))], [(1, .box [.dat (.int .i64) a1.1, .dat (.int .i64) a1.2.1, .dat (.sl (.flt .f32)) a1.2.2.1, .dat (.sl (.flt .f32)) a1.2.2.2.1, .dat (.sl (.flt .f32)) a1.2.2.2.2]), (0, .box [.dat (.int .i64) a0.1, .dat (.int .i64) a0.2.1, .dat (.sl (.flt .f32)) a0.2.2.1, .dat (.sl (.flt .f32)) a0.2.2.2.1, .dat (.sl (.flt .f32)) a0.2.2.2.2])], 2⟩ hP hN (by kernel_rfl) (allCons (f33_ok hc7) allNil) ?_
        rcases of_bif hr with ⟨hb8, hr⟩ | ⟨hb8, hr⟩
        · refine HT.cond1 rfl hb8 ?_
          refine HT.reg1 [4] [⟨none, .no⟩] ⟨[(4, .one (.dat .bool false))], [(1, .box [.dat (.int .i64) a1.1, .dat (.int .i64) a1.2.1, .dat (.sl (.flt .f32)) a1.2.2.1, .dat (.sl (.flt .f32)) a1.2.2.2.1, .dat (.sl (.flt .f32)) a1.2.2.2.2]), (0, .box [.dat (.int .i64) a0.1, .dat (.int .i64) a0.2.1, .dat (.sl (.flt .f32)) a0.2.2.1, .dat (.sl (.flt .f32)) a0.2.2.2.1, .dat (.sl (.flt .f32)) a0.2.2.2.2])], 2⟩ hP hN (by kernel_rfl) allNil ?_
          have hr := of_some hr
          subst hr
          exact HT.ret (qThenR ⟨[.one (.dat .bool false)], [], [], by kernel_rfl, by kernel_rfl, rfl, by kernel_rfl, by kernel_rfl, trivial⟩)
        · refine HT.cond0 rfl hb8 ?_
          refine HT.skip (qThen ?_)
          refine HT.seq ?_
          obtain ⟨y9, hc10, hr⟩ := of_bind hr
          refine HT.reg1 [32] [⟨none, .no⟩, ⟨none, .no⟩, ⟨none, .no⟩, ⟨none, .no⟩, ⟨none, .call [.imm (.sl (.flt .f32)), .imm (.sl (.flt .f32))] [⟨false, .bool, y9⟩] []⟩, ⟨none, .no⟩] ⟨[(32, .one (.dat .bool (!y9)))], [(1, .box [.dat (.int .i64) a1.1, .dat (.int .i64) a1.2.1, .dat (.sl (.flt .f32)) a1.2.2.1, .dat (.sl (.flt .f32)) a1.2.2.2.1, .dat (.sl (.flt .f32)) a1.2.2.2.2]), (0, .box [.dat (.int .i64) a0.1, .dat (.int .i64) a0.2.1, .dat (.sl (.flt .f32)) a0.2.2.1, .dat (.sl (.flt .f32)) a0.2.2.2.1, .dat (.sl (.flt .f32)) a0.2.2.2.2])], 2⟩ hP hN (by kernel_rfl) (allCons (f33_ok hc10) allNil) ?_
          rcases of_bif hr with ⟨hb11, hr⟩ | ⟨hb11, hr⟩
          · refine HT.cond1 rfl hb11 ?_
            refine HT.reg1 [4] [⟨none, .no⟩] ⟨[(4, .one (.dat .bool false))], [(1, .box [.dat (.int .i64) a1.1, .dat (.int .i64) a1.2.1, .dat (.sl (.flt .f32)) a1.2.2.1, .dat (.sl (.flt .f32)) a1.2.2.2.1, .dat (.sl (.flt .f32)) a1.2.2.2.2]), (0, .box [.dat (.int .i64) a0.1, .dat (.int .i64) a0.2.1, .dat (.sl (.flt .f32)) a0.2.2.1, .dat (.sl (.flt .f32)) a0.2.2.2.1, .dat (.sl (.flt .f32)) a0.2.2.2.2])], 2⟩ hP hN (by kernel_rfl) allNil ?_
            have hr := of_some hr
            subst hr
            exact HT.ret (qThenR ⟨[.one (.dat .bool false)], [], [], by kernel_rfl, by kernel_rfl, rfl, by kernel_rfl, by kernel_rfl, trivial⟩)
          · refine HT.cond0 rfl hb11 ?_
            refine HT.skip (qThen ?_)
            refine HT.reg1 [4] [⟨none, .no⟩] ⟨[(4, .one (.dat .bool true))], [(1, .box [.dat (.int .i64) a1.1, .dat (.int .i64) a1.2.1, .dat (.sl (.flt .f32)) a1.2.2.1, .dat (.sl (.flt .f32)) a1.2.2.2.1, .dat (.sl (.flt .f32)) a1.2.2.2.2]), (0, .box [.dat (.int .i64) a0.1, .dat (.int .i64) a0.2.1, .dat (.sl (.flt .f32)) a0.2.2.1, .dat (.sl (.flt .f32)) a0.2.2.2.1, .dat (.sl (.flt .f32)) a0.2.2.2.2])], 2⟩ hP hN (by kernel_rfl) allNil ?_
            have hr := of_some hr
            subst hr
            exact HT.ret ⟨[.one (.dat .bool true)], [], [], by kernel_rfl, by kernel_rfl, rfl, by kernel_rfl, by kernel_rfl, trivial⟩

noncomputable def laws_FnExactMoreBits (a0 : Int × Int × List Nat × List Nat × List Nat) (a1 : Int × Int × List Nat × List Nat × List Nat) (a2 : Int) : Option (Bool) :=
  (laws_szModel (a0.1, a0.2.1, a0.2.2.1, a0.2.2.2.1, a0.2.2.2.2) (1048576 : Int)).bind fun y1 =>
  bif (decide (y1 < (0 : Int))) then
    some true
  else
    (laws_szModel (a1.1, a1.2.1, a1.2.2.1, a1.2.2.2.1, a1.2.2.2.2) y1).bind fun y4 =>
    bif (decide (y4 < (0 : Int))) then
      some true
    else
      (laws_toModel (a0.1, a0.2.1, a0.2.2.1, a0.2.2.2.1, a0.2.2.2.2)).bind fun y7 =>
      (laws_toModel (a1.1, a1.2.1, a1.2.2.1, a1.2.2.2.1, a1.2.2.2.2)).bind fun y9 =>
      (spec_MoreBits (y7.1, y7.2.1, y7.2.2.1, y7.2.2.2.1, y7.2.2.2.2) (y9.1, y9.2.1, y9.2.2.1, y9.2.2.2.1, y9.2.2.2.2) a2).bind fun y11 =>
      (laws_toModel (a0.1, a0.2.1, a0.2.2.1, a0.2.2.2.1, a0.2.2.2.2)).bind fun y13 =>
      (laws_toModel (a1.1, a1.2.1, a1.2.2.1, a1.2.2.2.1, a1.2.2.2.2)).bind fun y15 =>
      (impl_MoreBits (y13.1, y13.2.1, y13.2.2.1, y13.2.2.2.1, y13.2.2.2.2) (y15.1, y15.2.1, y15.2.2.1, y15.2.2.2.1, y15.2.2.2.2) a2).bind fun y17 =>
      (show Option (Bool) from
        (laws_sameFloat (fconv .f32 .f64 y17.1) (fconv .f32 .f64 y11.1)).bind fun y33 =>
        bif (!y33) then
          some true
        else
          some (y17.2 != y11.2)).bind fun v19 =>
      bif v19 then
        some false
      else
        (laws_toModel (a0.1, a0.2.1, a0.2.2.1, a0.2.2.2.1, a0.2.2.2.2)).bind fun y23 =>
        (laws_eqModel (y13.1, y13.2.1, y13.2.2.1, y13.2.2.2.1, y13.2.2.2.2) (y23.1, y23.2.1, y23.2.2.1, y23.2.2.2.1, y23.2.2.2.2)).bind fun y25 =>
        bif (!y25) then
          some false
        else
          (laws_toModel (a1.1, a1.2.1, a1.2.2.1, a1.2.2.2.1, a1.2.2.2.2)).bind fun y28 =>
          (laws_eqModel (y15.1, y15.2.1, y15.2.2.1, y15.2.2.2.1, y15.2.2.2.2) (y28.1, y28.2.1, y28.2.2.1, y28.2.2.2.1, y28.2.2.2.2)).bind fun y30 =>
          bif (!y30) then
            some false
          else
            some true

theorem f9_ok {a0 : Int × Int × List Nat × List Nat × List Nat} {a1 : Int × Int × List Nat × List Nat × List Nat} {a2 : Int} {r : Bool} (hr : laws_FnExactMoreBits a0 a1 a2 = some r) : CallOK Try.prog 9 [.imm (.st (.pair (.int .i64) (.pair (.int .i64) (.pair (.sl (.flt .f32)) (.pair (.sl (.flt .f32)) (.sl (.flt .f32))))))) a0, .imm (.st (.pair (.int .i64) (.pair (.int .i64) (.pair (.sl (.flt .f32)) (.pair (.sl (.flt .f32)) (.sl (.flt .f32))))))) a1, .imm (.int .i64) a2] [⟨false, .bool, r⟩] [] := by
  unfold laws_FnExactMoreBits at hr
  refine CallOK.of_body (ts := [(false, .bool)]) Try.func9 rfl (by kernel_rfl) (Nat.le_of_ble_eq_true (by kernel_rfl)) fun cx hP hN hO hF => ?_
  have hO : cx.own.map Prod.fst = [] := hO
  have hF := hF rfl
  show HT cx ⟨[(0, .agg [.dat (.int .i64) a0.1, .dat (.int .i64) a0.2.1, .dat (.sl (.flt .f32)) a0.2.2.1, .dat (.sl (.flt .f32)) a0.2.2.2.1, .dat (.sl (.flt .f32)) a0.2.2.2.2]), (1, .agg [.dat (.int .i64) a1.1, .dat (.int .i64) a1.2.1, .dat (.sl (.flt .f32)) a1.2.2.1, .dat (.sl (.flt .f32)) a1.2.2.2.1, .dat (.sl (.flt .f32)) a1.2.2.2.2]), (2, .one (.dat (.int .i64) a2))], [], 0⟩ _ _
  refine HT.reg1 [2, 3, 4] [⟨none, .no⟩, ⟨none, .no⟩, ⟨none, .no⟩] ⟨[(2, .one (.dat (.int .i64) a2)), (3, .one (.ptr 0 0)), (4, .one (.ptr 1 0))], [(1, .box [.dat (.int .i64) a1.1, .dat (.int .i64) a1.2.1, .dat (.sl (.flt .f32)) a1.2.2.1, .dat (.sl (.flt .f32)) a1.2.2.2.1, .dat (.sl (.flt .f32)) a1.2.2.2.2]), (0, .box [.dat (.int .i64) a0.1, .dat (.int .i64) a0.2.1, .dat (.sl (.flt .f32)) a0.2.2.1, .dat (.sl (.flt .f32)) a0.2.2.2.1, .dat (.sl (.flt .f32)) a0.2.2.2.2])], 2⟩ hP hN (by kernel_rfl) allNil ?_
  refine HT.reg1 [2, 3, 4, 7] [⟨none, .no⟩] ⟨[(2, .one (.dat (.int .i64) a2)), (3, .one (.ptr 0 0)), (4, .one (.ptr 1 0)), (7, .one (.dat (.int .i64) (1048576 : Int)))], [(1, .box [.dat (.int .i64) a1.1, .dat (.int .i64) a1.2.1, .dat (.sl (.flt .f32)) a1.2.2.1, .dat (.sl (.flt .f32)) a1.2.2.2.1, .dat (.sl (.flt .f32)) a1.2.2.2.2]), (0, .box [.dat (.int .i64) a0.1, .dat (.int .i64) a0.2.1, .dat (.sl (.flt .f32)) a0.2.2.1, .dat (.sl (.flt .f32)) a0.2.2.2.1, .dat (.sl (.flt .f32)) a0.2.2.2.2])], 2⟩ hP hN (by kernel_rfl) allNil ?_
  obtain ⟨y1, hc2, hr⟩ := of_bind hr
  refine HT.reg1 [2, 3, 4, 7] [⟨none, .no⟩, ⟨none, .no⟩, ⟨none, .call [.imm (.st (.pair (.int .i64) (.pair (.int .i64) (.pair (.sl (.flt .f32)) (.pair (.sl (.flt .f32)) (.sl (.flt .f32))))))), .imm (.int .i64)] [⟨false, (.int .i64), y1⟩] []⟩, ⟨none, .no⟩] ⟨[(2, .one (.dat (.int .i64) a2)), (3, .one (.ptr 0 0)), (4, .one (.ptr 1 0)), (7, .one (.dat (.int .i64) y1))], [(1, .box [.dat (.int .i64) a1.1, .dat (.int .i64) a1.2.1, .dat (.sl (.flt .f32)) a1.2.2.1, .dat (.sl (.flt .f32)) a1.2.2.2.1, .dat (.sl (.flt .f32)) a1.2.2.2.2]), (0, .box [.dat (.int .i64) a0.1, .dat (.int .i64) a0.2.1, .dat (.sl (.flt .f32)) a0.2.2.1, .dat (.sl (.flt .f32)) a0.2.2.2.1, .dat (.sl (.flt .f32)) a0.2.2.2.2])], 2⟩ hP hN (by kernel_rfl) (allCons (f15_ok hc2) allNil) ?_
  refine HT.seq ?_
  refine HT.reg1 [2, 3, 4, 7, 18] [⟨none, .no⟩, ⟨none, .no⟩] ⟨[(2, .one (.dat (.int .i64) a2)), (3, .one (.ptr 0 0)), (4, .one (.ptr 1 0)), (7, .one (.dat (.int .i64) y1)), (18, .one (.dat .bool (decide (y1 < (0 : Int)))))], [(1, .box [.dat (.int .i64) a1.1, .dat (.int .i64) a1.2.1, .dat (.sl (.flt .f32)) a1.2.2.1, .dat (.sl (.flt .f32)) a1.2.2.2.1, .dat (.sl (.flt .f32)) a1.2.2.2.2]), (0, .box [.dat (.int .i64) a0.1, .dat (.int .i64) a0.2.1, .dat (.sl (.flt .f32)) a0.2.2.1, .dat (.sl (.flt .f32)) a0.2.2.2.1, .dat (.sl (.flt .f32)) a0.2.2.2.2])], 2⟩ hP hN (by kernel_rfl) allNil ?_
  rcases of_bif hr with ⟨hb3, hr⟩ | ⟨hb3, hr⟩
  · refine HT.cond1 rfl hb3 ?_
    refine HT.reg1 [6] [⟨none, .no⟩] ⟨[(6, .one (.dat .bool true))], [(1, .box [.dat (.int .i64) a1.1, .dat (.int .i64) a1.2.1, .dat (.sl (.flt .f32)) a1.2.2.1, .dat (.sl (.flt .f32)) a1.2.2.2.1, .dat (.sl (.flt .f32)) a1.2.2.2.2]), (0, .box [.dat (.int .i64) a0.1, .dat (.int .i64) a0.2.1, .dat (.sl (.flt .f32)) a0.2.2.1, .dat (.sl (.flt .f32)) a0.2.2.2.1, .dat (.sl (.flt .f32)) a0.2.2.2.2])], 2⟩ hP hN (by kernel_rfl) allNil ?_
    have hr := of_some hr
    subst hr
    exact HT.ret (qThenR ⟨[.one (.dat .bool true)], [], [], by kernel_rfl, by kernel_rfl, rfl, by kernel_rfl, by kernel_rfl, trivial⟩)
  · refine HT.cond0 rfl hb3 ?_
    refine HT.skip (qThen ?_)
    obtain ⟨y4, hc5, hr⟩ := of_bind hr
    refine HT.reg1 [2, 3, 4, 7] [⟨none, .no⟩, ⟨none, .no⟩, ⟨none, .call [.imm (.st (.pair (.int .i64) (.pair (.int .i64) (.pair (.sl (.flt .f32)) (.pair (.sl (.flt .f32)) (.sl (.flt .f32))))))), .imm (.int .i64)] [⟨false, (.int .i64), y4⟩] []⟩, ⟨none, .no⟩] ⟨[(2, .one (.dat (.int .i64) a2)), (3, .one (.ptr 0 0)), (4, .one (.ptr 1 0)), (7, .one (.dat (.int .i64) y4))], [(1, .box [.dat (.int .i64) a1.1, .dat (.int .i64) a1.2.1, .dat (.sl (.flt .f32)) a1.2.2.1, .dat (.sl (.flt .f32)) a1.2.2.2.1, .dat (.sl (.flt .f32)) a1.2.2.2.2]), (0, .box [.dat (.int .i64) a0.1, .dat (.int .i64) a0.2.1, .dat (.sl (.flt .f32)) a0.2.2.1, .dat (.sl (.flt .f32)) a0.2.2.2.1, .dat (.sl (.flt .f32)) a0.2.2.2.2])], 2⟩ hP hN (by kernel_rfl) (allCons (f15_ok hc5) allNil) ?_
    refine HT.seq ?_
    refine HT.reg1 [2, 3, 4, 23] [⟨none, .no⟩, ⟨none, .no⟩] ⟨[(2, .one (.dat (.int .i64) a2)), (3, .one (.ptr 0 0)), (4, .one (.ptr 1 0)), (23, .one (.dat .bool (decide (y4 < (0 : Int)))))], [(1, .box [.dat (.int .i64) a1.1, .dat (.int .i64) a1.2.1, .dat (.sl (.flt .f32)) a1.2.2.1, .dat (.sl (.flt .f32)) a1.2.2.2.1, .dat (.sl (.flt .f32)) a1.2.2.2.2]), (0, .box [.dat (.int .i64) a0.1, .dat (.int .i64) a0.2.1, .dat (.sl (.flt .f32)) a0.2.2.1, .dat (.sl (.flt .f32)) a0.2.2.2.1, .dat (.sl (.flt .f32)) a0.2.2.2.2])], 2⟩ hP hN (by kernel_rfl) allNil ?_
    rcases of_bif hr with ⟨hb6, hr⟩ | ⟨hb6, hr⟩
    · refine HT.cond1 rfl hb6 ?_
      refine HT.reg1 [6] [⟨none, .no⟩] ⟨[(6, .one (.dat .bool true))], [(1, .box [.dat (.int .i64) a1.1, .dat (.int .i64) a1.2.1, .dat (.sl (.flt .f32)) a1.2.2.1, .dat (.sl (.flt .f32)) a1.2.2.2.1, .dat (.sl (.flt .f32)) a1.2.2.2.2]), (0, .box [.dat (.int .i64) a0.1, .dat (.int .i64) a0.2.1, .dat (.sl (.flt .f32)) a0.2.2.1, .dat (.sl (.flt .f32)) a0.2.2.2.1, .dat (.sl (.flt .f32)) a0.2.2.2.2])], 2⟩ hP hN (by kernel_rfl) allNil ?_
      have hr := of_some hr
      subst hr
      exact HT.ret (qThenR ⟨[.one (.dat .bool true)], [], [], by kernel_rfl, by kernel_rfl, rfl, by kernel_rfl, by kernel_rfl, trivial⟩)
    · refine HT.cond0 rfl hb6 ?_
      refine HT.skip (qThen ?_)
      obtain ⟨y7, hc8, hr⟩ := of_bind hr
      obtain ⟨y9, hc10, hr⟩ := of_bind hr
      obtain ⟨y11, hc12, hr⟩ := of_bind hr
      refine HT.drw1 [2, 3, 4, 8, 9] 10 [⟨⟨none, .no⟩, []⟩, ⟨⟨none, .call [.imm (.st (.pair (.int .i64) (.pair (.int .i64) (.pair (.sl (.flt .f32)) (.pair (.sl (.flt .f32)) (.sl (.flt .f32)))))))] [⟨true, (.st (.pair (.int .i64) (.pair (.int .i64) (.pair (.sl (.flt .f32)) (.pair (.sl (.flt .f32)) (.sl (.flt .f32))))))), y7⟩] []⟩, [0]⟩, ⟨⟨none, .no⟩, []⟩, ⟨⟨none, .call [.imm (.st (.pair (.int .i64) (.pair (.int .i64) (.pair (.sl (.flt .f32)) (.pair (.sl (.flt .f32)) (.sl (.flt .f32)))))))] [⟨true, (.st (.pair (.int .i64) (.pair (.int .i64) (.pair (.sl (.flt .f32)) (.pair (.sl (.flt .f32)) (.sl (.flt .f32))))))), y9⟩] []⟩, [0, 1, 2]⟩, ⟨⟨none, .no⟩, []⟩, ⟨⟨none, .call [.imm (.st (.pair (.int .i64) (.pair (.int .i64) (.pair (.sl (.flt .f32)) (.pair (.sl (.flt .f32)) (.sl (.flt .f32))))))), .imm (.st (.pair (.int .i64) (.pair (.int .i64) (.pair (.sl (.flt .f32)) (.pair (.sl (.flt .f32)) (.sl (.flt .f32))))))), .imm (.int .i64)] [⟨false, (.flt .f32), y11.1⟩, ⟨false, .bool, y11.2⟩] []⟩, [0, 1, 2, 3, 4]⟩, ⟨⟨none, .no⟩, [0, 1, 2, 3, 4, 5]⟩, ⟨⟨none, .no⟩, [0, 1, 2, 3, 4, 5, 6]⟩, ⟨⟨none, .no⟩, [0, 1, 2, 3, 4, 5, 6]⟩, ⟨⟨none, .no⟩, [0, 1, 2, 3, 4, 5, 6, 7]⟩] [[0, 1, 2, 3, 4, 5, 6, 7, 8, 9]] [⟨none, .no⟩] ⟨[(2, .one (.dat (.int .i64) a2)), (3, .one (.ptr 0 0)), (4, .one (.ptr 1 0)), (8, .one (.dat (.flt .f32) y11.1)), (9, .one (.dat .bool y11.2))], [(5, .seq (.flt .f32) y9.2.2.1), (6, .seq (.flt .f32) y9.2.2.2.1), (7, .seq (.flt .f32) y9.2.2.2.2), (2, .seq (.flt .f32) y7.2.2.1), (3, .seq (.flt .f32) y7.2.2.2.1), (4, .seq (.flt .f32) y7.2.2.2.2), (1, .box [.dat (.int .i64) a1.1, .dat (.int .i64) a1.2.1, .dat (.sl (.flt .f32)) a1.2.2.1, .dat (.sl (.flt .f32)) a1.2.2.2.1, .dat (.sl (.flt .f32)) a1.2.2.2.2]), (0, .box [.dat (.int .i64) a0.1, .dat (.int .i64) a0.2.1, .dat (.sl (.flt .f32)) a0.2.2.1, .dat (.sl (.flt .f32)) a0.2.2.2.1, .dat (.sl (.flt .f32)) a0.2.2.2.2])], 8⟩ hP hN (by kernel_rfl) (by kernel_rfl) (allCons (f17_ok hc8) (allCons (f17_ok hc10) (allCons (f45_ok hc12) allNil))) ?_
      obtain ⟨y13, hc14, hr⟩ := of_bind hr
      refine HT.reg1 [2, 3, 4, 8, 9, 10] [⟨none, .no⟩, ⟨none, .call [.imm (.st (.pair (.int .i64) (.pair (.int .i64) (.pair (.sl (.flt .f32)) (.pair (.sl (.flt .f32)) (.sl (.flt .f32)))))))] [⟨true, (.st (.pair (.int .i64) (.pair (.int .i64) (.pair (.sl (.flt .f32)) (.pair (.sl (.flt .f32)) (.sl (.flt .f32))))))), y13⟩] []⟩, ⟨none, .no⟩, ⟨none, .no⟩] ⟨[(2, .one (.dat (.int .i64) a2)), (3, .one (.ptr 0 0)), (4, .one (.ptr 1 0)), (8, .one (.dat (.flt .f32) y11.1)), (9, .one (.dat .bool y11.2)), (10, .one (.ptr 11 0))], [(11, .box [.dat (.int .i64) y13.1, .dat (.int .i64) y13.2.1, .all 8, .all 9, .all 10]), (11, .box [.dat (.int .i64) (0 : Int), .dat (.int .i64) (0 : Int), .nilS, .nilS, .nilS]), (8, .seq (.flt .f32) y13.2.2.1), (9, .seq (.flt .f32) y13.2.2.2.1), (10, .seq (.flt .f32) y13.2.2.2.2), (5, .seq (.flt .f32) y9.2.2.1), (6, .seq (.flt .f32) y9.2.2.2.1), (7, .seq (.flt .f32) y9.2.2.2.2), (2, .seq (.flt .f32) y7.2.2.1), (3, .seq (.flt .f32) y7.2.2.2.1), (4, .seq (.flt .f32) y7.2.2.2.2), (1, .box [.dat (.int .i64) a1.1, .dat (.int .i64) a1.2.1, .dat (.sl (.flt .f32)) a1.2.2.1, .dat (.sl (.flt .f32)) a1.2.2.2.1, .dat (.sl (.flt .f32)) a1.2.2.2.2]), (0, .box [.dat (.int .i64) a0.1, .dat (.int .i64) a0.2.1, .dat (.sl (.flt .f32)) a0.2.2.1, .dat (.sl (.flt .f32)) a0.2.2.2.1, .dat (.sl (.flt .f32)) a0.2.2.2.2])], 12⟩ hP hN (by kernel_rfl) (allCons (f17_ok hc14) allNil) ?_
      obtain ⟨y15, hc16, hr⟩ := of_bind hr
      refine HT.reg1 [2, 3, 4, 8, 9, 10, 11] [⟨none, .no⟩, ⟨none, .call [.imm (.st (.pair (.int .i64) (.pair (.int .i64) (.pair (.sl (.flt .f32)) (.pair (.sl (.flt .f32)) (.sl (.flt .f32)))))))] [⟨true, (.st (.pair (.int .i64) (.pair (.int .i64) (.pair (.sl (.flt .f32)) (.pair (.sl (.flt .f32)) (.sl (.flt .f32))))))), y15⟩] []⟩, ⟨none, .no⟩, ⟨none, .no⟩] ⟨[(2, .one (.dat (.int .i64) a2)), (3, .one (.ptr 0 0)), (4, .one (.ptr 1 0)), (8, .one (.dat (.flt .f32) y11.1)), (9, .one (.dat .bool y11.2)), (10, .one (.ptr 11 0)), (11, .one (.ptr 15 0))], [(15, .box [.dat (.int .i64) y15.1, .dat (.int .i64) y15.2.1, .all 12, .all 13, .all 14]), (15, .box [.dat (.int .i64) (0 : Int), .dat (.int .i64) (0 : Int), .nilS, .nilS, .nilS]), (12, .seq (.flt .f32) y15.2.2.1), (13, .seq (.flt .f32) y15.2.2.2.1), (14, .seq (.flt .f32) y15.2.2.2.2), (11, .box [.dat (.int .i64) y13.1, .dat (.int .i64) y13.2.1, .all 8, .all 9, .all 10]), (11, .box [.dat (.int .i64) (0 : Int), .dat (.int .i64) (0 : Int), .nilS, .nilS, .nilS]), (8, .seq (.flt .f32) y13.2.2.1), (9, .seq (.flt .f32) y13.2.2.2.1), (10, .seq (.flt .f32) y13.2.2.2.2), (5, .seq (.flt .f32) y9.2.2.1), (6, .seq (.flt .f32) y9.2.2.2.1), (7, .seq (.flt .f32) y9.2.2.2.2), (2, .seq (.flt .f32) y7.2.2.1), (3, .seq (.flt .f32) y7.2.2.2.1), (4, .seq (.flt .f32) y7.2.2.2.2), (1, .box [.dat (.int .i64) a1.1, .dat (.int .i64) a1.2.1, .dat (.sl (.flt .f32)) a1.2.2.1, .dat (.sl (.flt .f32)) a1.2.2.2.1, .dat (.sl (.flt .f32)) a1.2.2.2.2]), (0, .box [.dat (.int .i64) a0.1, .dat (.int .i64) a0.2.1, .dat (.sl (.flt .f32)) a0.2.2.1, .dat (.sl (.flt .f32)) a0.2.2.2.1, .dat (.sl (.flt .f32)) a0.2.2.2.2])], 16⟩ hP hN (by kernel_rfl) (allCons (f17_ok hc16) allNil) ?_
      obtain ⟨y17, hc18, hr⟩ := of_bind hr
      refine HT.reg1 [3, 4, 8, 9, 10, 11, 12, 13] [⟨none, .no⟩, ⟨none, .no⟩, ⟨none, .no⟩, ⟨none, .call [.imm (.st (.pair (.int .i64) (.pair (.int .i64) (.pair (.sl (.flt .f32)) (.pair (.sl (.flt .f32)) (.sl (.flt .f32))))))), .imm (.st (.pair (.int .i64) (.pair (.int .i64) (.pair (.sl (.flt .f32)) (.pair (.sl (.flt .f32)) (.sl (.flt .f32))))))), .imm (.int .i64)] [⟨false, (.flt .f32), y17.1⟩, ⟨false, .bool, y17.2⟩] []⟩, ⟨none, .no⟩, ⟨none, .no⟩, ⟨none, .no⟩, ⟨none, .no⟩, ⟨none, .no⟩] ⟨[(3, .one (.ptr 0 0)), (4, .one (.ptr 1 0)), (8, .one (.dat (.flt .f32) y11.1)), (9, .one (.dat .bool y11.2)), (10, .one (.ptr 11 0)), (11, .one (.ptr 15 0)), (12, .one (.dat (.flt .f32) y17.1)), (13, .one (.dat .bool y17.2))], [(15, .box [.dat (.int .i64) y15.1, .dat (.int .i64) y15.2.1, .all 12, .all 13, .all 14]), (15, .box [.dat (.int .i64) (0 : Int), .dat (.int .i64) (0 : Int), .nilS, .nilS, .nilS]), (12, .seq (.flt .f32) y15.2.2.1), (13, .seq (.flt .f32) y15.2.2.2.1), (14, .seq (.flt .f32) y15.2.2.2.2), (11, .box [.dat (.int .i64) y13.1, .dat (.int .i64) y13.2.1, .all 8, .all 9, .all 10]), (11, .box [.dat (.int .i64) (0 : Int), .dat (.int .i64) (0 : Int), .nilS, .nilS, .nilS]), (8, .seq (.flt .f32) y13.2.2.1), (9, .seq (.flt .f32) y13.2.2.2.1), (10, .seq (.flt .f32) y13.2.2.2.2), (5, .seq (.flt .f32) y9.2.2.1), (6, .seq (.flt .f32) y9.2.2.2.1), (7, .seq (.flt .f32) y9.2.2.2.2), (2, .seq (.flt .f32) y7.2.2.1), (3, .seq (.flt .f32) y7.2.2.2.1), (4, .seq (.flt .f32) y7.2.2.2.2), (1, .box [.dat (.int .i64) a1.1, .dat (.int .i64) a1.2.1, .dat (.sl (.flt .f32)) a1.2.2.1, .dat (.sl (.flt .f32)) a1.2.2.2.1, .dat (.sl (.flt .f32)) a1.2.2.2.2]), (0, .box [.dat (.int .i64) a0.1, .dat (.int .i64) a0.2.1, .dat (.sl (.flt .f32)) a0.2.2.1, .dat (.sl (.flt .f32)) a0.2.2.2.1, .dat (.sl (.flt .f32)) a0.2.2.2.2])], 16⟩ hP hN (by kernel_rfl) (allCons (f46_ok hc18) allNil) ?_
      refine HT.seq ?_
      obtain ⟨v19', hT21, hr⟩ := of_bind hr
      refine HT.join (fun (v19 : Bool) => ⟨[(3, .one (.ptr 0 0)), (4, .one (.ptr 1 0)), (10, .one (.ptr 2 0)), (11, .one (.ptr 3 0)), (54, .one (.dat .bool v19))], [(0, .box [.dat (.int .i64) a0.1, .dat (.int .i64) a0.2.1, .dat (.sl (.flt .f32)) a0.2.2.1, .dat (.sl (.flt .f32)) a0.2.2.2.1, .dat (.sl (.flt .f32)) a0.2.2.2.2]), (1, .box [.dat (.int .i64) a1.1, .dat (.int .i64) a1.2.1, .dat (.sl (.flt .f32)) a1.2.2.1, .dat (.sl (.flt .f32)) a1.2.2.2.1, .dat (.sl (.flt .f32)) a1.2.2.2.2]), (2, .box [.dat (.int .i64) y13.1, .dat (.int .i64) y13.2.1, .all 4, .all 5, .all 6]), (3, .box [.dat (.int .i64) y15.1, .dat (.int .i64) y15.2.1, .all 7, .all 8, .all 9]), (4, .seq (.flt .f32) y13.2.2.1), (5, .seq (.flt .f32) y13.2.2.2.1), (6, .seq (.flt .f32) y13.2.2.2.2), (7, .seq (.flt .f32) y15.2.2.1), (8, .seq (.flt .f32) y15.2.2.2.1), (9, .seq (.flt .f32) y15.2.2.2.2)], 10⟩) (fun v => v = v19') (fun v19 hv20 => ?_) (fun cont => ?_)
      · subst hv20
        rcases of_bif hr with ⟨hb22, hr⟩ | ⟨hb22, hr⟩
        · refine HT.cond1 rfl hb22 ?_
          refine HT.reg1 [6] [⟨none, .no⟩] ⟨[(6, .one (.dat .bool false))], [(0, .box [.dat (.int .i64) a0.1, .dat (.int .i64) a0.2.1, .dat (.sl (.flt .f32)) a0.2.2.1, .dat (.sl (.flt .f32)) a0.2.2.2.1, .dat (.sl (.flt .f32)) a0.2.2.2.2]), (1, .box [.dat (.int .i64) a1.1, .dat (.int .i64) a1.2.1, .dat (.sl (.flt .f32)) a1.2.2.1, .dat (.sl (.flt .f32)) a1.2.2.2.1, .dat (.sl (.flt .f32)) a1.2.2.2.2]), (2, .box [.dat (.int .i64) y13.1, .dat (.int .i64) y13.2.1, .all 4, .all 5, .all 6]), (3, .box [.dat (.int .i64) y15.1, .dat (.int .i64) y15.2.1, .all 7, .all 8, .all 9]), (4, .seq (.flt .f32) y13.2.2.1), (5, .seq (.flt .f32) y13.2.2.2.1), (6, .seq (.flt .f32) y13.2.2.2.2), (7, .seq (.flt .f32) y15.2.2.1), (8, .seq (.flt .f32) y15.2.2.2.1), (9, .seq (.flt .f32) y15.2.2.2.2)], 10⟩ hP hN (by kernel_rfl) allNil ?_
          have hr := of_some hr
          subst hr
          exact HT.ret (qThenR ⟨[.one (.dat .bool false)], [], [], by kernel_rfl, by kernel_rfl, rfl, by kernel_rfl, by kernel_rfl, trivial⟩)
        · refine HT.cond0 rfl hb22 ?_
          refine HT.skip (qThen ?_)
          refine HT.seq ?_
          obtain ⟨y23, hc24, hr⟩ := of_bind hr
          obtain ⟨y25, hc26, hr⟩ := of_bind hr
          refine HT.drw1 [4, 11, 59] 3 [⟨⟨none, .no⟩, []⟩, ⟨⟨none, .no⟩, []⟩, ⟨⟨none, .call [.imm (.st (.pair (.int .i64) (.pair (.int .i64) (.pair (.sl (.flt .f32)) (.pair (.sl (.flt .f32)) (.sl (.flt .f32)))))))] [⟨true, (.st (.pair (.int .i64) (.pair (.int .i64) (.pair (.sl (.flt .f32)) (.pair (.sl (.flt .f32)) (.sl (.flt .f32))))))), y23⟩] []⟩, [1]⟩] [[0, 1, 2], [0, 1, 2, 3]] [⟨none, .call [.imm (.st (.pair (.int .i64) (.pair (.int .i64) (.pair (.sl (.flt .f32)) (.pair (.sl (.flt .f32)) (.sl (.flt .f32))))))), .imm (.st (.pair (.int .i64) (.pair (.int .i64) (.pair (.sl (.flt .f32)) (.pair (.sl (.flt .f32)) (.sl (.flt .f32)))))))] [⟨false, .bool, y25⟩] []⟩, ⟨none, .no⟩] ⟨[(4, .one (.ptr 1 0)), (11, .one (.ptr 3 0)), (59, .one (.dat .bool (!y25)))], [(10, .seq (.flt .f32) y23.2.2.1), (11, .seq (.flt .f32) y23.2.2.2.1), (12, .seq (.flt .f32) y23.2.2.2.2), (0, .box [.dat (.int .i64) a0.1, .dat (.int .i64) a0.2.1, .dat (.sl (.flt .f32)) a0.2.2.1, .dat (.sl (.flt .f32)) a0.2.2.2.1, .dat (.sl (.flt .f32)) a0.2.2.2.2]), (1, .box [.dat (.int .i64) a1.1, .dat (.int .i64) a1.2.1, .dat (.sl (.flt .f32)) a1.2.2.1, .dat (.sl (.flt .f32)) a1.2.2.2.1, .dat (.sl (.flt .f32)) a1.2.2.2.2]), (2, .box [.dat (.int .i64) y13.1, .dat (.int .i64) y13.2.1, .all 4, .all 5, .all 6]), (3, .box [.dat (.int .i64) y15.1, .dat (.int .i64) y15.2.1, .all 7, .all 8, .all 9]), (4, .seq (.flt .f32) y13.2.2.1), (5, .seq (.flt .f32) y13.2.2.2.1), (6, .seq (.flt .f32) y13.2.2.2.2), (7, .seq (.flt .f32) y15.2.2.1), (8, .seq (.flt .f32) y15.2.2.2.1), (9, .seq (.flt .f32) y15.2.2.2.2)], 13⟩ hP hN (by kernel_rfl) (by kernel_rfl) (allCons (f17_ok hc24) (allCons (f20_ok hc26) allNil)) ?_
          rcases of_bif hr with ⟨hb27, hr⟩ | ⟨hb27, hr⟩
          · refine HT.cond1 rfl hb27 ?_
            refine HT.reg1 [6] [⟨none, .no⟩] ⟨[(6, .one (.dat .bool false))], [(10, .seq (.flt .f32) y23.2.2.1), (11, .seq (.flt .f32) y23.2.2.2.1), (12, .seq (.flt .f32) y23.2.2.2.2), (0, .box [.dat (.int .i64) a0.1, .dat (.int .i64) a0.2.1, .dat (.sl (.flt .f32)) a0.2.2.1, .dat (.sl (.flt .f32)) a0.2.2.2.1, .dat (.sl (.flt .f32)) a0.2.2.2.2]), (1, .box [.dat (.int .i64) a1.1, .dat (.int .i64) a1.2.1, .dat (.sl (.flt .f32)) a1.2.2.1, .dat (.sl (.flt .f32)) a1.2.2.2.1, .dat (.sl (.flt .f32)) a1.2.2.2.2]), (2, .box [.dat (.int .i64) y13.1, .dat (.int .i64) y13.2.1, .all 4, .all 5, .all 6]), (3, .box [.dat (.int .i64) y15.1, .dat (.int .i64) y15.2.1, .all 7, .all 8, .all 9]), (4, .seq (.flt .f32) y13.2.2.1), (5, .seq (.flt .f32) y13.2.2.2.1), (6, .seq (.flt .f32) y13.2.2.2.2), (7, .seq (.flt .f32) y15.2.2.1), (8, .seq (.flt .f32) y15.2.2.2.1), (9, .seq (.flt .f32) y15.2.2.2.2)], 13⟩ hP hN (by kernel_rfl) allNil ?_
            have hr := of_some hr
            subst hr
            exact HT.ret (qThenR ⟨[.one (.dat .bool false)], [], [], by kernel_rfl, by kernel_rfl, rfl, by kernel_rfl, by kernel_rfl, trivial⟩)
          · refine HT.cond0 rfl hb27 ?_
            refine HT.skip (qThen ?_)
            refine HT.seq ?_
            obtain ⟨y28, hc29, hr⟩ := of_bind hr
            obtain ⟨y30, hc31, hr⟩ := of_bind hr
            refine HT.drw1 [64] 3 [⟨⟨none, .no⟩, []⟩, ⟨⟨none, .no⟩, []⟩, ⟨⟨none, .call [.imm (.st (.pair (.int .i64) (.pair (.int .i64) (.pair (.sl (.flt .f32)) (.pair (.sl (.flt .f32)) (.sl (.flt .f32)))))))] [⟨true, (.st (.pair (.int .i64) (.pair (.int .i64) (.pair (.sl (.flt .f32)) (.pair (.sl (.flt .f32)) (.sl (.flt .f32))))))), y28⟩] []⟩, [1]⟩] [[0, 1, 2], [0, 1, 2, 3]] [⟨none, .call [.imm (.st (.pair (.int .i64) (.pair (.int .i64) (.pair (.sl (.flt .f32)) (.pair (.sl (.flt .f32)) (.sl (.flt .f32))))))), .imm (.st (.pair (.int .i64) (.pair (.int .i64) (.pair (.sl (.flt .f32)) (.pair (.sl (.flt .f32)) (.sl (.flt .f32)))))))] [⟨false, .bool, y30⟩] []⟩, ⟨none, .no⟩] ⟨[(64, .one (.dat .bool (!y30)))], [(13, .seq (.flt .f32) y28.2.2.1), (14, .seq (.flt .f32) y28.2.2.2.1), (15, .seq (.flt .f32) y28.2.2.2.2), (10, .seq (.flt .f32) y23.2.2.1), (11, .seq (.flt .f32) y23.2.2.2.1), (12, .seq (.flt .f32) y23.2.2.2.2), (0, .box [.dat (.int .i64) a0.1, .dat (.int .i64) a0.2.1, .dat (.sl (.flt .f32)) a0.2.2.1, .dat (.sl (.flt .f32)) a0.2.2.2.1, .dat (.sl (.flt .f32)) a0.2.2.2.2]), (1, .box [.dat (.int .i64) a1.1, .dat (.int .i64) a1.2.1, .dat (.sl (.flt .f32)) a1.2.2.1, .dat (.sl (.flt .f32)) a1.2.2.2.1, .dat (.sl (.flt .f32)) a1.2.2.2.2]), (2, .box [.dat (.int .i64) y13.1, .dat (.int .i64) y13.2.1, .all 4, .all 5, .all 6]), (3, .box [.dat (.int .i64) y15.1, .dat (.int .i64) y15.2.1, .all 7, .all 8, .all 9]), (4, .seq (.flt .f32) y13.2.2.1), (5, .seq (.flt .f32) y13.2.2.2.1), (6, .seq (.flt .f32) y13.2.2.2.2), (7, .seq (.flt .f32) y15.2.2.1), (8, .seq (.flt .f32) y15.2.2.2.1), (9, .seq (.flt .f32) y15.2.2.2.2)], 16⟩ hP hN (by kernel_rfl) (by kernel_rfl) (allCons (f17_ok hc29) (allCons (f20_ok hc31) allNil)) ?_
            rcases of_bif hr with ⟨hb32, hr⟩ | ⟨hb32, hr⟩
            · refine HT.cond1 rfl hb32 ?_
              refine HT.reg1 [6] [⟨none, .no⟩] ⟨[(6, .one (.dat .bool false))], [(13, .seq (.flt .f32) y28.2.2.1), (14, .seq (.flt .f32) y28.2.2.2.1), (15, .seq (.flt .f32) y28.2.2.2.2), (10, .seq (.flt .f32) y23.2.2.1), (11, .seq (.flt .f32) y23.2.2.2.1), (12, .seq (.flt .f32) y23.2.2.2.2), (0, .box [.dat (.int .i64) a0.1, .dat (.int .i64) a0.2.1, .dat (.sl (.flt .f32)) a0.2.2.1, .dat (.sl (.flt .f32)) a0.2.2.2.1, .dat (.sl (.flt .f32)) a0.2.2.2.2]), (1, .box [.dat (.int .i64) a1.1, .dat (.int .i64) a1.2.1, .dat (.sl (.flt .f32)) a1.2.2.1, .dat (.sl (.flt .f32)) a1.2.2.2.1, .dat (.sl (.flt .f32)) a1.2.2.2.2]), (2, .box [.dat (.int .i64) y13.1, .dat (.int .i64) y13.2.1, .all 4, .all 5, .all 6]), (3, .box [.dat (.int .i64) y15.1, .dat (.int .i64) y15.2.1, .all 7, .all 8, .all 9]), (4, .seq (.flt .f32) y13.2.2.1), (5, .seq (.flt .f32) y13.2.2.2.1), (6, .seq (.flt .f32) y13.2.2.2.2), (7, .seq (.flt .f32) y15.2.2.1), (8, .seq (.flt .f32) y15.2.2.2.1), (9, .seq (.flt .f32) y15.2.2.2.2)], 16⟩ hP hN (by kernel_rfl) allNil ?_
              have hr := of_some hr
              subst hr
              exact HT.ret (qThenR ⟨[.one (.dat .bool false)], [], [], by kernel_rfl, by kernel_rfl, rfl, by kernel_rfl, by kernel_rfl, trivial⟩)
            · refine HT.cond0 rfl hb32 ?_
              refine HT.skip (qThen ?_)
              refine HT.reg1 [6] [⟨none, .no⟩] ⟨[(6, .one (.dat .bool true))], [(13, .seq (.flt .f32) y28.2.2.1), (14, .seq (.flt .f32) y28.2.2.2.1), (15, .seq (.flt .f32) y28.2.2.2.2), (10, .seq (.flt .f32) y23.2.2.1), (11, .seq (.flt .f32) y23.2.2.2.1), (12, .seq (.flt .f32) y23.2.2.2.2), (0, .box [.dat (.int .i64) a0.1, .dat (.int .i64) a0.2.1, .dat (.sl (.flt .f32)) a0.2.2.1, .dat (.sl (.flt .f32)) a0.2.2.2.1, .dat (.sl (.flt .f32)) a0.2.2.2.2]), (1, .box [.dat (.int .i64) a1.1, .dat (.int .i64) a1.2.1, .dat (.sl (.flt .f32)) a1.2.2.1, .dat (.sl (.flt .f32)) a1.2.2.2.1, .dat (.sl (.flt .f32)) a1.2.2.2.2]), (2, .box [.dat (.int .i64) y13.1, .dat (.int .i64) y13.2.1, .all 4, .all 5, .all 6]), (3, .box [.dat (.int .i64) y15.1, .dat (.int .i64) y15.2.1, .all 7, .all 8, .all 9]), (4, .seq (.flt .f32) y13.2.2.1), (5, .seq (.flt .f32) y13.2.2.2.1), (6, .seq (.flt .f32) y13.2.2.2.2), (7, .seq (.flt .f32) y15.2.2.1), (8, .seq (.flt .f32) y15.2.2.2.1), (9, .seq (.flt .f32) y15.2.2.2.2)], 16⟩ hP hN (by kernel_rfl) allNil ?_
              have hr := of_some hr
              subst hr
              exact HT.ret ⟨[.one (.dat .bool true)], [], [], by kernel_rfl, by kernel_rfl, rfl, by kernel_rfl, by kernel_rfl, trivial⟩
      · obtain ⟨y33, hc34, hT21⟩ := of_bind hT21
        rcases of_bif hT21 with ⟨hb35, hT21⟩ | ⟨hb35, hT21⟩
        · refine HT.reg (rs := [⟨none, .no⟩, ⟨none, .no⟩, ⟨none, .no⟩, ⟨none, .no⟩, ⟨none, .call [.imm (.flt .f64), .imm (.flt .f64)] [⟨false, .bool, y33⟩] []⟩, ⟨none, .no⟩, ⟨none, .no⟩, ⟨some true, .no⟩, ⟨some true, .no⟩, ⟨some true, .no⟩, ⟨none, .tv true⟩]) (st' := ⟨[(54, .one (.dat .bool true)), (53, .und), (52, .und), (51, .und), (50, .one (.dat .bool (!y33))), (49, .one (.dat .bool (!y33))), (48, .one (.dat .bool y33)), (47, .one (.dat (.flt .f64) (fconv .f32 .f64 y11.1))), (46, .one (.dat (.flt .f32) y11.1)), (45, .one (.dat (.flt .f64) (fconv .f32 .f64 y17.1))), (44, .one (.dat (.flt .f32) y17.1)), (3, .one (.ptr 0 0)), (4, .one (.ptr 1 0)), (8, .one (.dat (.flt .f32) y11.1)), (9, .one (.dat .bool y11.2)), (10, .one (.ptr 11 0)), (11, .one (.ptr 15 0)), (12, .one (.dat (.flt .f32) y17.1)), (13, .one (.dat .bool y17.2))], [(15, .box [.dat (.int .i64) y15.1, .dat (.int .i64) y15.2.1, .all 12, .all 13, .all 14]), (15, .box [.dat (.int .i64) (0 : Int), .dat (.int .i64) (0 : Int), .nilS, .nilS, .nilS]), (12, .seq (.flt .f32) y15.2.2.1), (13, .seq (.flt .f32) y15.2.2.2.1), (14, .seq (.flt .f32) y15.2.2.2.2), (11, .box [.dat (.int .i64) y13.1, .dat (.int .i64) y13.2.1, .all 8, .all 9, .all 10]), (11, .box [.dat (.int .i64) (0 : Int), .dat (.int .i64) (0 : Int), .nilS, .nilS, .nilS]), (8, .seq (.flt .f32) y13.2.2.1), (9, .seq (.flt .f32) y13.2.2.2.1), (10, .seq (.flt .f32) y13.2.2.2.2), (5, .seq (.flt .f32) y9.2.2.1), (6, .seq (.flt .f32) y9.2.2.2.1), (7, .seq (.flt .f32) y9.2.2.2.2), (2, .seq (.flt .f32) y7.2.2.1), (3, .seq (.flt .f32) y7.2.2.2.1), (4, .seq (.flt .f32) y7.2.2.2.2), (1, .box [.dat (.int .i64) a1.1, .dat (.int .i64) a1.2.1, .dat (.sl (.flt .f32)) a1.2.2.1, .dat (.sl (.flt .f32)) a1.2.2.2.1, .dat (.sl (.flt .f32)) a1.2.2.2.2]), (0, .box [.dat (.int .i64) a0.1, .dat (.int .i64) a0.2.1, .dat (.sl (.flt .f32)) a0.2.2.1, .dat (.sl (.flt .f32)) a0.2.2.2.1, .dat (.sl (.flt .f32)) a0.2.2.2.2])], 16⟩) hP hN (by kernel_rfl) (allCons (show fconvOK .f32 .f64 y17.1 = true from (fconv_up _)) (allCons (show fconvOK .f32 .f64 y11.1 = true from (fconv_up _)) (allCons (f19_ok hc34) (allCons hb35 (allCons hb35 (allCons hb35 (allCons hb35 allNil))))))) (qThen ?_)
          exact (Le.cv (s := ⟨[(0, 0), (1, 1), (11, 2), (15, 3), (8, 4), (9, 5), (10, 6), (12, 7), (13, 8), (14, 9)], [], [], false⟩) (own := []) (ps := [true = true, a0.1 = a0.1, a0.2.1 = a0.2.1, a0.2.2.1 = a0.2.2.1, a0.2.2.2.1 = a0.2.2.2.1, a0.2.2.2.2 = a0.2.2.2.2, a1.1 = a1.1, a1.2.1 = a1.2.1, a1.2.2.1 = a1.2.2.1, a1.2.2.2.1 = a1.2.2.2.1, a1.2.2.2.2 = a1.2.2.2.2, y13.1 = y13.1, y13.2.1 = y13.2.1, y15.1 = y15.1, y15.2.1 = y15.2.1, y13.2.2.1 = y13.2.2.1, y13.2.2.2.1 = y13.2.2.2.1, y13.2.2.2.2 = y13.2.2.2.2, y15.2.2.1 = y15.2.2.1, y15.2.2.2.1 = y15.2.2.2.1, y15.2.2.2.2 = y15.2.2.2.2]) (st' := ⟨[(3, .one (.ptr 0 0)), (4, .one (.ptr 1 0)), (10, .one (.ptr 2 0)), (11, .one (.ptr 3 0)), (54, .one (.dat .bool true))], [(0, .box [.dat (.int .i64) a0.1, .dat (.int .i64) a0.2.1, .dat (.sl (.flt .f32)) a0.2.2.1, .dat (.sl (.flt .f32)) a0.2.2.2.1, .dat (.sl (.flt .f32)) a0.2.2.2.2]), (1, .box [.dat (.int .i64) a1.1, .dat (.int .i64) a1.2.1, .dat (.sl (.flt .f32)) a1.2.2.1, .dat (.sl (.flt .f32)) a1.2.2.2.1, .dat (.sl (.flt .f32)) a1.2.2.2.2]), (2, .box [.dat (.int .i64) y13.1, .dat (.int .i64) y13.2.1, .all 4, .all 5, .all 6]), (3, .box [.dat (.int .i64) y15.1, .dat (.int .i64) y15.2.1, .all 7, .all 8, .all 9]), (4, .seq (.flt .f32) y13.2.2.1), (5, .seq (.flt .f32) y13.2.2.2.1), (6, .seq (.flt .f32) y13.2.2.2.2), (7, .seq (.flt .f32) y15.2.2.1), (8, .seq (.flt .f32) y15.2.2.2.1), (9, .seq (.flt .f32) y15.2.2.2.2)], 10⟩) hO (fun h => by cases h) (by kernel_rfl) ⟨rfl, rfl, rfl, rfl, rfl, rfl, rfl, rfl, rfl, rfl, rfl, rfl, rfl, rfl, rfl, rfl, rfl, rfl, rfl, rfl, rfl, trivial⟩).ht (cont true (of_some hT21))
        · refine HT.reg (rs := [⟨none, .no⟩, ⟨none, .no⟩, ⟨none, .no⟩, ⟨none, .no⟩, ⟨none, .call [.imm (.flt .f64), .imm (.flt .f64)] [⟨false, .bool, y33⟩] []⟩, ⟨none, .no⟩, ⟨none, .no⟩, ⟨some false, .no⟩, ⟨some false, .no⟩, ⟨some false, .no⟩, ⟨none, .tv false⟩]) (st' := ⟨[(54, .one (.dat .bool (y17.2 != y11.2))), (53, .one (.dat .bool (y17.2 != y11.2))), (52, .one (.dat .bool y11.2)), (51, .one (.dat .bool y17.2)), (50, .one (.dat .bool (!y33))), (49, .one (.dat .bool (!y33))), (48, .one (.dat .bool y33)), (47, .one (.dat (.flt .f64) (fconv .f32 .f64 y11.1))), (46, .one (.dat (.flt .f32) y11.1)), (45, .one (.dat (.flt .f64) (fconv .f32 .f64 y17.1))), (44, .one (.dat (.flt .f32) y17.1)), (3, .one (.ptr 0 0)), (4, .one (.ptr 1 0)), (8, .one (.dat (.flt .f32) y11.1)), (9, .one (.dat .bool y11.2)), (10, .one (.ptr 11 0)), (11, .one (.ptr 15 0)), (12, .one (.dat (.flt .f32) y17.1)), (13, .one (.dat .bool y17.2))], [(15, .box [.dat (.int .i64) y15.1, .dat (.int .i64) y15.2.1, .all 12, .all 13, .all 14]), (15, .box [.dat (.int .i64) (0 : Int), .dat (.int .i64) (0 : Int), .nilS, .nilS, .nilS]), (12, .seq (.flt .f32) y15.2.2.1), (13, .seq (.flt .f32) y15.2.2.2.1), (14, .seq (.flt .f32) y15.2.2.2.2), (11, .box [.dat (.int .i64) y13.1, .dat (.int .i64) y13.2.1, .all 8, .all 9, .all 10]), (11, .box [.dat (.int .i64) (0 : Int), .dat (.int .i64) (0 : Int), .nilS, .nilS, .nilS]), (8, .seq (.flt .f32) y13.2.2.1), (9, .seq (.flt .f32) y13.2.2.2.1), (10, .seq (.flt .f32) y13.2.2.2.2), (5, .seq (.flt .f32) y9.2.2.1), (6, .seq (.flt .f32) y9.2.2.2.1), (7, .seq (.flt .f32) y9.2.2.2.2), (2, .seq (.flt .f32) y7.2.2.1), (3, .seq (.flt .f32) y7.2.2.2.1), (4, .seq (.flt .f32) y7.2.2.2.2), (1, .box [.dat (.int .i64) a1.1, .dat (.int .i64) a1.2.1, .dat (.sl (.flt .f32)) a1.2.2.1, .dat (.sl (.flt .f32)) a1.2.2.2.1, .dat (.sl (.flt .f32)) a1.2.2.2.2]), (0, .box [.dat (.int .i64) a0.1, .dat (.int .i64) a0.2.1, .dat (.sl (.flt .f32)) a0.2.2.1, .dat (.sl (.flt .f32)) a0.2.2.2.1, .dat (.sl (.flt .f32)) a0.2.2.2.2])], 16⟩) hP hN (by kernel_rfl) (allCons (show fconvOK .f32 .f64 y17.1 = true from (fconv_up _)) (allCons (show fconvOK .f32 .f64 y11.1 = true from (fconv_up _)) (allCons (f19_ok hc34) (allCons hb35 (allCons hb35 (allCons hb35 (allCons hb35 allNil))))))) (qThen ?_)
          exact (Le.cv (s := ⟨[(0, 0), (1, 1), (11, 2), (15, 3), (8, 4), (9, 5), (10, 6), (12, 7), (13, 8), (14, 9)], [], [], false⟩) (own := []) (ps := [(y17.2 != y11.2) = (y17.2 != y11.2), a0.1 = a0.1, a0.2.1 = a0.2.1, a0.2.2.1 = a0.2.2.1, a0.2.2.2.1 = a0.2.2.2.1, a0.2.2.2.2 = a0.2.2.2.2, a1.1 = a1.1, a1.2.1 = a1.2.1, a1.2.2.1 = a1.2.2.1, a1.2.2.2.1 = a1.2.2.2.1, a1.2.2.2.2 = a1.2.2.2.2, y13.1 = y13.1, y13.2.1 = y13.2.1, y15.1 = y15.1, y15.2.1 = y15.2.1, y13.2.2.1 = y13.2.2.1, y13.2.2.2.1 = y13.2.2.2.1, y13.2.2.2.2 = y13.2.2.2.2, y15.2.2.1 = y15.2.2.1, y15.2.2.2.1 = y15.2.2.2.1, y15.2.2.2.2 = y15.2.2.2.2]) (st' := ⟨[(3, .one (.ptr 0 0)), (4, .one (.ptr 1 0)), (10, .one (.ptr 2 0)), (11, .one (.ptr 3 0)), (54, .one (.dat .bool (y17.2 != y11.2)))], [(0, .box [.dat (.int .i64) a0.1, .dat (.int .i64) a0.2.1, .dat (.sl (.flt .f32)) a0.2.2.1, .dat (.sl (.flt .f32)) a0.2.2.2.1, .dat (.sl (.flt .f32)) a0.2.2.2.2]), (1, .box [.dat (.int .i64) a1.1, .dat (.int .i64) a1.2.1, .dat (.sl (.flt .f32)) a1.2.2.1, .dat (.sl (.flt .f32)) a1.2.2.2.1, .dat (.sl (.flt .f32)) a1.2.2.2.2]), (2, .box [.dat (.int .i64) y13.1, .dat (.int .i64) y13.2.1, .all 4, .all 5, .all 6]), (3, .box [.dat (.int .i64) y15.1, .dat (.int .i64) y15.2.1, .all 7, .all 8, .all 9]), (4, .seq (.flt .f32) y13.2.2.1), (5, .seq (.flt .f32) y13.2.2.2.1), (6, .seq (.flt .f32) y13.2.2.2.2), (7, .seq (.flt .f32) y15.2.2.1), (8, .seq (.flt .f32) y15.2.2.2.1), (9, .seq (.flt .f32) y15.2.2.2.2)], 10⟩) hO (fun h => by cases h) (by kernel_rfl) ⟨rfl, rfl, rfl, rfl, rfl, rfl, rfl, rfl, rfl, rfl, rfl, rfl, rfl, rfl, rfl, rfl, rfl, rfl, rfl, rfl, rfl, trivial⟩).ht (cont (y17.2 != y11.2) (of_some hT21))

end Go.Proofs
