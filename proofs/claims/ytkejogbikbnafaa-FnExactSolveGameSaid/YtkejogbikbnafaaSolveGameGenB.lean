import Derived.Test.YtkejogbikbnafaaSolveGameGenA
import Derived.Test.YtkejogbikbnafaaProg
set_option linter.unusedVariables false
set_option linter.unusedSimpArgs false
set_option linter.unusedSectionVars false
/-
  Functions as plain functions, and their contracts. Printed by a program.
-/
namespace Go.Proofs
open Go.Ide

noncomputable def laws_markGame (a0 : List Int × List Int × List (List Int)) (a1 : Int) : Option (Int × (List Int × List Int × List (List Int))) :=
  (laws_markInt64S a0.1 a1).bind fun y1 =>
  (laws_markInt64S a0.2.1 y1.1).bind fun y3 =>
  (laws_markInt64SS a0.2.2 y3.1).bind fun y5 =>
  guardP (List.length y1.2 = List.length a0.1) (
    guardP (List.length y3.2 = List.length a0.2.1) (
      guardP (ShapeEq (.own tI) a0.2.2 y5.2) (
        some (y5.1, y1.2, y3.2, y5.2))))

theorem f15_ok {a0 : List Int × List Int × List (List Int)} {a1 : Int} {r : Int × (List Int × List Int × List (List Int))} (hr : laws_markGame a0 a1 = some r) : CallOK Try.prog 15 [.own (.st (.pair tLI (.pair tLI (.sl (.own tI))))) a0, .imm tI a1] [⟨false, tI, r.1⟩] [⟨(.st (.pair tLI (.pair tLI (.sl (.own tI))))), r.2⟩] := by
  unfold laws_markGame at hr
  refine CallOK.of_body (ts := [(false, tI)]) Try.func15 rfl (by kernel_rfl) (Nat.le_of_ble_eq_true (by kernel_rfl)) fun cx hP hN hO hF => ?_
  have hO : cx.own.map Prod.fst = [0, 1, 2] := hO
  have hX := CxIs.mk hP hN hO
  have hF := hF rfl
  show HT cx ⟨[(0, .agg [.all 0, .all 1, .all 2]), (1, iV a1)], [(0, .seq tI a0.1), (1, .seq tI a0.2.1), (2, .seq (.own tI) a0.2.2)], 3⟩ _ _
  refine HT.rg2 (oHs 2) ⟨[(1, iV a1), (2, pV 3 0)], [(3, .box [.all 0, .all 1, .all 2]), (0, .seq tI a0.1), (1, .seq tI a0.2.1), (2, .seq (.own tI) a0.2.2)], 4⟩ hX (by kernel_rfl) allNil ?_
  obtain ⟨y1, hc2, hr⟩ := of_bind hr
  refine HT.rg2 [oH, oH, oH, ⟨none, .call [.own tLI, .imm tI] [⟨false, tI, y1.1⟩] [⟨tLI, y1.2⟩]⟩, oH] ⟨[(1, iV y1.1), (2, pV 3 0)], [(0, .seq tI y1.2), (3, .box [.all 0, .all 1, .all 2]), (1, .seq tI a0.2.1), (2, .seq (.own tI) a0.2.2)], 4⟩ hX (by kernel_rfl) (allCons (f21_ok hc2) allNil) ?_
  obtain ⟨y3, hc4, hr⟩ := of_bind hr
  refine HT.rg2 [oH, oH, oH, ⟨none, .call [.own tLI, .imm tI] [⟨false, tI, y3.1⟩] [⟨tLI, y3.2⟩]⟩, oH] ⟨[(1, iV y3.1), (2, pV 3 0)], [(1, .seq tI y3.2), (0, .seq tI y1.2), (3, .box [.all 0, .all 1, .all 2]), (2, .seq (.own tI) a0.2.2)], 4⟩ hX (by kernel_rfl) (allCons (f21_ok hc4) allNil) ?_
  obtain ⟨y5, hc6, hr⟩ := of_bind hr
  refine HT.rg2 [oH, oH, oH, ⟨none, .call [.own (.sl (.own tI)), .imm tI] [⟨false, tI, y5.1⟩] [⟨(.sl (.own tI)), y5.2⟩]⟩, oH] ⟨[(1, iV y5.1)], [(2, .seq (.own tI) y5.2), (1, .seq tI y3.2), (0, .seq tI y1.2)], 4⟩ hX (by kernel_rfl) (allCons (f32_ok hc6) allNil) ?_
  refine HT.rg2 (oHs 2) ⟨[(4, iV y5.1)], [(2, .seq (.own tI) y5.2), (1, .seq tI y3.2), (0, .seq tI y1.2)], 4⟩ hX (by kernel_rfl) allNil ?_
  obtain ⟨hg7, hr⟩ := of_guard hr
  obtain ⟨hg8, hr⟩ := of_guard hr
  obtain ⟨hg9, hr⟩ := of_guard hr
  have hr := of_some hr
  subst hr
  exact HT.ret ⟨[iV y5.1], [], [List.length y1.2 = List.length a0.1, List.length y3.2 = List.length a0.2.1, ShapeEq (.own tI) a0.2.2 y5.2], by kernel_rfl, by kernel_rfl, rfl, by kernel_rfl, by kernel_rfl, ⟨hg7, hg8, hg9, trivial⟩⟩

noncomputable def laws_heldInt64S_B1 (a0 : List Int) (s1 : Int × Int) : Option ((Int × Int) ⊕ (Int ⊕ Unit)) :=
  bif (decide (s1.2 < (lenI a0))) then
    guardP ((0 : Int) ≤ s1.2 ∧ s1.2 < lenI a0) (
      bif ((List.getD a0 (Int.toNat s1.2) (0 : Int)) != s1.1) then
        some (.inr (.inr ()))
      else
        some (.inl ((wadd .i64 s1.1 (1 : Int)), (wadd .i64 s1.2 (1 : Int)))))
  else
    some (.inr (.inl s1.1))

noncomputable def laws_heldInt64S (a0 : List Int) (a1 : Int) : Option (Int) :=
  (rounds (laws_heldInt64S_B1 a0) (a1, (0 : Int))).bind fun r2 => match r2 with
    | .inl r3 =>
      some r3
    | .inr r4 =>
      some (-1 : Int)

theorem f22_ok {a0 : List Int} {a1 : Int} {r : Int} (hr : laws_heldInt64S a0 a1 = some r) : CallOK Try.prog 22 [.imm tLI a0, .imm tI a1] [⟨false, tI, r⟩] [] := by
  unfold laws_heldInt64S at hr
  refine CallOK.of_body (ts := [(false, tI)]) Try.func22 rfl (by kernel_rfl) (Nat.le_of_ble_eq_true (by kernel_rfl)) fun cx hP hN hO hF => ?_
  have hO : cx.own.map Prod.fst = [] := hO
  have hX := CxIs.mk hP hN hO
  have hF := hF rfl
  show HT cx ⟨[(0, nV a0), (1, iV a1)], [], 0⟩ _ _
  refine HT.rg2 [oH] ⟨[(0, nV a0), (1, iV a1)], [], 0⟩ hX (by kernel_rfl) allNil ?_
  refine HT.seq ?_
  refine HT.rg2 [oH] ⟨[(0, nV a0), (1, iV a1), (5, iV (0 : Int))], [], 0⟩ hX (by kernel_rfl) allNil ?_
  refine HT.block ?_
  obtain ⟨r2, hL11, hr⟩ := of_bind hr
  refine HT.loopL (fun (s1 : Int × Int) => ⟨[(0, nV a0), (1, iV s1.1), (5, iV s1.2)], [], 0⟩) (fun (r2 : Int ⊕ Unit) => match r2 with | .inl r3 => (.exit 0, ⟨[(1, iV r3)], [], 0⟩) | .inr r4 => (.ret, ⟨[(4, iV (-1 : Int))], [], 0⟩)) (Le.re [] [] hX (by kernel_rfl)) hL11 ?_ (fun s1 x5 hx6 hk7 => ?_)
  · rcases r2 with r3 | r4
    · refine (qBlockX (qThen ?_))
      refine HT.rg2 (oHs 2) ⟨[(4, iV r3)], [], 0⟩ hX (by kernel_rfl) allNil ?_
      have hr := of_some hr
      subst hr
      exact HT.ret ⟨[iV r3], [], [], by kernel_rfl, by kernel_rfl, rfl, by kernel_rfl, by kernel_rfl, trivial⟩
    · have hr := of_some hr
      subst hr
      exact (qBlockR (qThenR ⟨[iV (-1 : Int)], [], [], by kernel_rfl, by kernel_rfl, rfl, by kernel_rfl, by kernel_rfl, trivial⟩))
  · refine HT.seq ?_
    refine HT.rg2 (oHs 4) ⟨[(0, nV a0), (1, iV s1.1), (5, iV s1.2), (9, bV (decide (s1.2 < (lenI a0))))], [], 0⟩ hX (by kernel_rfl) allNil ?_
    rcases of_bif hx6 with ⟨hb8, hx6⟩ | ⟨hb8, hx6⟩
    · refine HT.cond1 rfl hb8 ?_
      refine HT.skip (qThen ?_)
      refine HT.seq ?_
      refine HT.block ?_
      refine HT.seq ?_
      obtain ⟨hg9, hx6⟩ := of_guard hx6
      refine HT.rg2 (oHs 6) ⟨[(0, nV a0), (1, iV s1.1), (5, iV s1.2), (17, bV ((List.getD a0 (Int.toNat s1.2) (0 : Int)) != s1.1))], [], 0⟩ hX (by kernel_rfl) (allCons hg9 allNil) ?_
      rcases of_bif hx6 with ⟨hb10, hx6⟩ | ⟨hb10, hx6⟩
      · refine HT.cond1 rfl hb10 ?_
        refine HT.rg2 [oH] ⟨[(4, iV (-1 : Int))], [], 0⟩ hX (by kernel_rfl) allNil ?_
        have hx6 := of_some hx6
        subst hx6
        exact HT.retL (Le.re [] [] hX (by kernel_rfl)) (qThenR (qBlockR (qThenR (qLoopR (hk7 (.inr ()) rfl)))))
      · refine HT.cond0 rfl hb10 ?_
        refine HT.skip (qThen ?_)
        refine HT.rgL (oHs 3) ⟨[(0, nV a0), (1, iV (wadd .i64 s1.1 (1 : Int))), (5, iV s1.2)], [], 0⟩ hX (by kernel_rfl) allNil (qBlock (qThen ?_))
        have hx6 := of_some hx6
        subst hx6
        exact HT.rgK (oHs 3) [] [] hX (by kernel_rfl) allNil (fun _ h => (qLoopN ⟨((wadd .i64 s1.1 (1 : Int)), (wadd .i64 s1.2 (1 : Int))), rfl, h⟩))
    · refine HT.cond0 rfl hb8 ?_
      have hx6 := of_some hx6
      subst hx6
      exact HT.exitL (Le.re [] [] hX (by kernel_rfl)) (qThenE (qLoopE (hk7 (.inl s1.1) rfl)))

noncomputable def laws_FnExactSolveGame (a0 : List Int × List Int × List (List Int)) : Option (Bool) :=
  (laws_szGame (a0.1, a0.2.1, a0.2.2) (1048576 : Int)).bind fun y1 =>
  bif (decide (y1 < (0 : Int))) then
    some true
  else
    (laws_toGame (a0.1, a0.2.1, a0.2.2)).bind fun y4 =>
    (spec_SolveGame (y4.1, y4.2.1, y4.2.2)).bind fun y6 =>
    (laws_toGame (a0.1, a0.2.1, a0.2.2)).bind fun y8 =>
    (impl_SolveGame (y8.1, y8.2.1, y8.2.2)).bind fun y10 =>
    (show Option (Bool) from
      (laws_eqInt64S y10.1 y6.1).bind fun y52 =>
      bif (!y52) then
        some true
      else
        some (y10.2 != y6.2)).bind fun v12 =>
    bif v12 then
      some false
    else
      (laws_toGame (a0.1, a0.2.1, a0.2.2)).bind fun y16 =>
      (laws_eqGame (y8.1, y8.2.1, y8.2.2) (y16.1, y16.2.1, y16.2.2)).bind fun y18 =>
      bif (!y18) then
        some false
      else
        (laws_markGame (y8.1, y8.2.1, y8.2.2) (1 : Int)).bind fun y21 =>
        (show Option (Bool) from
          bif (decide (y21.1 < (0 : Int))) then
            some true
          else
            (laws_eqInt64S y10.1 y6.1).bind fun y49 =>
            bif (!y49) then
              some true
            else
              some (y10.2 != y6.2)).bind fun v23 =>
        bif v23 then
          some false
        else
          (laws_markInt64S y10.1 (1 : Int)).bind fun y27 =>
          (laws_heldInt64S y27.2 (1 : Int)).bind fun y29 =>
          bif (decide (y29 < (0 : Int))) then
            some false
          else
            bif (y29 != y27.1) then
              some false
            else
              (laws_toGame (a0.1, a0.2.1, a0.2.2)).bind fun y33 =>
              (impl_SolveGame (y33.1, y33.2.1, y33.2.2)).bind fun y35 =>
              (show Option (Bool) from
                (laws_eqInt64S y35.1 y6.1).bind fun y45 =>
                bif (!y45) then
                  some true
                else
                  some (y35.2 != y6.2)).bind fun v37 =>
              bif v37 then
                some false
              else
                (laws_heldInt64S y27.2 (1 : Int)).bind fun y41 =>
                bif (decide (y41 < (0 : Int))) then
                  some false
                else
                  bif (y41 != y27.1) then
                    some false
                  else
                    some true

theorem f5_ok {a0 : List Int × List Int × List (List Int)} {r : Bool} (hr : laws_FnExactSolveGame a0 = some r) : CallOK Try.prog 5 [.imm (.st (.pair tLI (.pair tLI (.sl tLI)))) a0] [⟨false, .bool, r⟩] [] := by
  unfold laws_FnExactSolveGame at hr
  refine CallOK.of_body (ts := [(false, .bool)]) Try.func5 rfl (by kernel_rfl) (Nat.le_of_ble_eq_true (by kernel_rfl)) fun cx hP hN hO hF => ?_
  have hO : cx.own.map Prod.fst = [] := hO
  have hX := CxIs.mk hP hN hO
  have hF := hF rfl
  show HT cx ⟨[(0, .agg [nC a0.1, nC a0.2.1, .dat (.sl tLI) a0.2.2])], [], 0⟩ _ _
  refine HT.rg2 (oHs 2) ⟨[(1, pV 0 0)], [(0, .box [nC a0.1, nC a0.2.1, .dat (.sl tLI) a0.2.2])], 1⟩ hX (by kernel_rfl) allNil ?_
  refine HT.rg2 [oH] ⟨[(1, pV 0 0), (3, iV (1048576 : Int))], [(0, .box [nC a0.1, nC a0.2.1, .dat (.sl tLI) a0.2.2])], 1⟩ hX (by kernel_rfl) allNil ?_
  obtain ⟨y1, hc2, hr⟩ := of_bind hr
  refine HT.rg2 [oH, oH, ⟨none, .call [.imm (.st (.pair tLI (.pair tLI (.sl tLI)))), .imm tI] [⟨false, tI, y1⟩] []⟩, oH] ⟨[(1, pV 0 0), (3, iV y1)], [(0, .box [nC a0.1, nC a0.2.1, .dat (.sl tLI) a0.2.2])], 1⟩ hX (by kernel_rfl) (allCons (f10_ok hc2) allNil) ?_
  refine HT.seq ?_
  refine HT.rg2 (oHs 2) ⟨[(1, pV 0 0), (18, bV (decide (y1 < (0 : Int))))], [(0, .box [nC a0.1, nC a0.2.1, .dat (.sl tLI) a0.2.2])], 1⟩ hX (by kernel_rfl) allNil ?_
  rcases of_bif hr with ⟨hb3, hr⟩ | ⟨hb3, hr⟩
  · refine HT.cond1 rfl hb3 ?_
    refine HT.rg2 [oH] ⟨[(2, bV true)], [], 1⟩ hX (by kernel_rfl) allNil ?_
    have hr := of_some hr
    subst hr
    exact HT.ret (qThenR ⟨[bV true], [], [], by kernel_rfl, by kernel_rfl, rfl, by kernel_rfl, by kernel_rfl, trivial⟩)
  · refine HT.cond0 rfl hb3 ?_
    refine HT.skip (qThen ?_)
    obtain ⟨y4, hc5, hr⟩ := of_bind hr
    obtain ⟨y6, hc7, hr⟩ := of_bind hr
    refine HT.rg2 [oH, ⟨none, .call [.imm (.st (.pair tLI (.pair tLI (.sl tLI))))] [⟨true, (.st (.pair tLI (.pair tLI (.sl (.own tI))))), y4⟩] []⟩, ⟨none, .call [.imm (.st (.pair tLI (.pair tLI (.sl tLI))))] [⟨true, tLI, y6.1⟩, ⟨false, .bool, y6.2⟩] []⟩, oH, oH, oH, oH, oH] ⟨[(1, pV 0 0), (4, aV 4), (5, bV y6.2)], [(4, .seq tI y6.1), (0, .box [nC a0.1, nC a0.2.1, .dat (.sl tLI) a0.2.2])], 5⟩ hX (by kernel_rfl) (allCons (f12_ok hc5) (allCons (f23_ok hc7) allNil)) ?_
    obtain ⟨y8, hc9, hr⟩ := of_bind hr
    refine HT.rg2 [oH, ⟨none, .call [.imm (.st (.pair tLI (.pair tLI (.sl tLI))))] [⟨true, (.st (.pair tLI (.pair tLI (.sl (.own tI))))), y8⟩] []⟩, oH, oH] ⟨[(1, pV 0 0), (4, aV 4), (5, bV y6.2), (6, pV 8 0)], [(8, .box [.all 5, .all 6, .all 7]), (5, .seq tI y8.1), (6, .seq tI y8.2.1), (7, .seq (.own tI) y8.2.2), (4, .seq tI y6.1), (0, .box [nC a0.1, nC a0.2.1, .dat (.sl tLI) a0.2.2])], 9⟩ hX (by kernel_rfl) (allCons (f12_ok hc9) allNil) ?_
    obtain ⟨y10, hc11, hr⟩ := of_bind hr
    refine HT.rg2 [oH, ⟨none, .call [.imm (.st (.pair tLI (.pair tLI (.sl tLI))))] [⟨true, tLI, y10.1⟩, ⟨false, .bool, y10.2⟩] []⟩, oH, oH, oH, oH, oH] ⟨[(1, pV 0 0), (4, aV 4), (5, bV y6.2), (6, pV 8 0), (7, aV 9), (8, bV y10.2)], [(9, .seq tI y10.1), (8, .box [.all 5, .all 6, .all 7]), (5, .seq tI y8.1), (6, .seq tI y8.2.1), (7, .seq (.own tI) y8.2.2), (4, .seq tI y6.1), (0, .box [nC a0.1, nC a0.2.1, .dat (.sl tLI) a0.2.2])], 10⟩ hX (by kernel_rfl) (allCons (f24_ok hc11) allNil) ?_
    refine HT.seq ?_
    obtain ⟨v12', hT14, hr⟩ := of_bind hr
    refine HT.join (fun (v12 : Bool) => ⟨[(1, pV 0 0), (4, aV 1), (5, bV y6.2), (6, pV 2 0), (7, aV 3), (8, bV y10.2), (40, bV v12)], [(0, .box [nC a0.1, nC a0.2.1, .dat (.sl tLI) a0.2.2]), (1, .seq tI y6.1), (2, .box [.all 4, .all 5, .all 6]), (3, .seq tI y10.1), (4, .seq tI y8.1), (5, .seq tI y8.2.1), (6, .seq (.own tI) y8.2.2)], 7⟩) (fun v => v = v12') (fun v12 hv13 => ?_) (fun cont => ?_)
    · subst hv13
      rcases of_bif hr with ⟨hb15, hr⟩ | ⟨hb15, hr⟩
      · refine HT.cond1 rfl hb15 ?_
        refine HT.rg2 [oH] ⟨[(2, bV false)], [], 7⟩ hX (by kernel_rfl) allNil ?_
        have hr := of_some hr
        subst hr
        exact HT.ret (qThenR ⟨[bV false], [], [], by kernel_rfl, by kernel_rfl, rfl, by kernel_rfl, by kernel_rfl, trivial⟩)
      · refine HT.cond0 rfl hb15 ?_
        refine HT.skip (qThen ?_)
        refine HT.seq ?_
        obtain ⟨y16, hc17, hr⟩ := of_bind hr
        obtain ⟨y18, hc19, hr⟩ := of_bind hr
        refine HT.dr2 3 [⟨oH, []⟩, ⟨oH, []⟩, ⟨⟨none, .call [.imm (.st (.pair tLI (.pair tLI (.sl tLI))))] [⟨true, (.st (.pair tLI (.pair tLI (.sl (.own tI))))), y16⟩] []⟩, [1]⟩] [[0, 1, 2], [0, 1, 2, 3]] [⟨none, .call [.imm (.st (.pair tLI (.pair tLI (.sl tLI)))), .imm (.st (.pair tLI (.pair tLI (.sl tLI))))] [⟨false, .bool, y18⟩] []⟩, oH] ⟨[(1, pV 0 0), (4, aV 1), (5, bV y6.2), (6, pV 2 0), (7, aV 3), (8, bV y10.2), (45, bV (!y18))], [(0, .box [nC a0.1, nC a0.2.1, .dat (.sl tLI) a0.2.2]), (1, .seq tI y6.1), (2, .box [.all 4, .all 5, .all 6]), (3, .seq tI y10.1), (4, .seq tI y8.1), (5, .seq tI y8.2.1), (6, .seq (.own tI) y8.2.2)], 10⟩ hX (by kernel_rfl) (by kernel_rfl) (allCons (f12_ok hc17) (allCons (f14_ok hc19) allNil)) ?_
        rcases of_bif hr with ⟨hb20, hr⟩ | ⟨hb20, hr⟩
        · refine HT.cond1 rfl hb20 ?_
          refine HT.rg2 [oH] ⟨[(2, bV false)], [], 10⟩ hX (by kernel_rfl) allNil ?_
          have hr := of_some hr
          subst hr
          exact HT.ret (qThenR ⟨[bV false], [], [], by kernel_rfl, by kernel_rfl, rfl, by kernel_rfl, by kernel_rfl, trivial⟩)
        · refine HT.cond0 rfl hb20 ?_
          refine HT.skip (qThen ?_)
          refine HT.rg2 [oH] ⟨[(1, pV 0 0), (4, aV 1), (5, bV y6.2), (6, pV 2 0), (7, aV 3), (8, bV y10.2), (9, iV (1 : Int))], [(0, .box [nC a0.1, nC a0.2.1, .dat (.sl tLI) a0.2.2]), (1, .seq tI y6.1), (2, .box [.all 4, .all 5, .all 6]), (3, .seq tI y10.1), (4, .seq tI y8.1), (5, .seq tI y8.2.1), (6, .seq (.own tI) y8.2.2)], 10⟩ hX (by kernel_rfl) allNil ?_
          obtain ⟨y21, hc22, hr⟩ := of_bind hr
          refine HT.rg2 [oH, oH, ⟨none, .call [.own (.st (.pair tLI (.pair tLI (.sl (.own tI))))), .imm tI] [⟨false, tI, y21.1⟩] [⟨(.st (.pair tLI (.pair tLI (.sl (.own tI))))), y21.2⟩]⟩, oH] ⟨[(1, pV 0 0), (4, aV 1), (5, bV y6.2), (7, aV 3), (8, bV y10.2), (9, iV y21.1)], [(0, .box [nC a0.1, nC a0.2.1, .dat (.sl tLI) a0.2.2]), (1, .seq tI y6.1), (3, .seq tI y10.1)], 10⟩ hX (by kernel_rfl) (allCons (f15_ok hc22) allNil) ?_
          refine HT.seq ?_
          obtain ⟨v23', hT25, hr⟩ := of_bind hr
          refine HT.join (fun (v23 : Bool) => ⟨[(1, pV 0 0), (4, aV 1), (5, bV y6.2), (7, aV 2), (61, bV v23)], [(0, .box [nC a0.1, nC a0.2.1, .dat (.sl tLI) a0.2.2]), (1, .seq tI y6.1), (2, .seq tI y10.1)], 3⟩) (fun v => v = v23') (fun v23 hv24 => ?_) (fun cont => ?_)
          · subst hv24
            rcases of_bif hr with ⟨hb26, hr⟩ | ⟨hb26, hr⟩
            · refine HT.cond1 rfl hb26 ?_
              refine HT.rg2 [oH] ⟨[(2, bV false)], [], 3⟩ hX (by kernel_rfl) allNil ?_
              have hr := of_some hr
              subst hr
              exact HT.ret (qThenR ⟨[bV false], [], [], by kernel_rfl, by kernel_rfl, rfl, by kernel_rfl, by kernel_rfl, trivial⟩)
            · refine HT.cond0 rfl hb26 ?_
              refine HT.skip (qThen ?_)
              refine HT.rg2 [oH] ⟨[(1, pV 0 0), (4, aV 1), (5, bV y6.2), (7, aV 2), (10, iV (1 : Int))], [(0, .box [nC a0.1, nC a0.2.1, .dat (.sl tLI) a0.2.2]), (1, .seq tI y6.1), (2, .seq tI y10.1)], 3⟩ hX (by kernel_rfl) allNil ?_
              obtain ⟨y27, hc28, hr⟩ := of_bind hr
              refine HT.rg2 [oH, oH, ⟨none, .call [.own tLI, .imm tI] [⟨false, tI, y27.1⟩] [⟨tLI, y27.2⟩]⟩, oH] ⟨[(1, pV 0 0), (4, aV 1), (5, bV y6.2), (7, aV 2), (10, iV y27.1)], [(2, .seq tI y27.2), (0, .box [nC a0.1, nC a0.2.1, .dat (.sl tLI) a0.2.2]), (1, .seq tI y6.1)], 3⟩ hX (by kernel_rfl) (allCons (f21_ok hc28) allNil) ?_
              refine HT.rg2 [oH] ⟨[(1, pV 0 0), (4, aV 1), (5, bV y6.2), (7, aV 2), (10, iV y27.1), (11, iV (1 : Int))], [(2, .seq tI y27.2), (0, .box [nC a0.1, nC a0.2.1, .dat (.sl tLI) a0.2.2]), (1, .seq tI y6.1)], 3⟩ hX (by kernel_rfl) allNil ?_
              obtain ⟨y29, hc30, hr⟩ := of_bind hr
              refine HT.rg2 [oH, oH, ⟨none, .call [.imm tLI, .imm tI] [⟨false, tI, y29⟩] []⟩, oH] ⟨[(1, pV 0 0), (4, aV 1), (5, bV y6.2), (7, aV 2), (10, iV y27.1), (11, iV y29)], [(2, .seq tI y27.2), (0, .box [nC a0.1, nC a0.2.1, .dat (.sl tLI) a0.2.2]), (1, .seq tI y6.1)], 3⟩ hX (by kernel_rfl) (allCons (f22_ok hc30) allNil) ?_
              refine HT.seq ?_
              refine HT.rg2 (oHs 2) ⟨[(1, pV 0 0), (4, aV 1), (5, bV y6.2), (7, aV 2), (10, iV y27.1), (11, iV y29), (69, bV (decide (y29 < (0 : Int))))], [(2, .seq tI y27.2), (0, .box [nC a0.1, nC a0.2.1, .dat (.sl tLI) a0.2.2]), (1, .seq tI y6.1)], 3⟩ hX (by kernel_rfl) allNil ?_
              rcases of_bif hr with ⟨hb31, hr⟩ | ⟨hb31, hr⟩
              · refine HT.cond1 rfl hb31 ?_
                refine HT.rg2 [oH] ⟨[(2, bV false)], [], 3⟩ hX (by kernel_rfl) allNil ?_
                have hr := of_some hr
                subst hr
                exact HT.ret (qThenR ⟨[bV false], [], [], by kernel_rfl, by kernel_rfl, rfl, by kernel_rfl, by kernel_rfl, trivial⟩)
              · refine HT.cond0 rfl hb31 ?_
                refine HT.skip (qThen ?_)
                refine HT.seq ?_
                refine HT.rg2 (oHs 3) ⟨[(1, pV 0 0), (4, aV 1), (5, bV y6.2), (7, aV 2), (10, iV y27.1), (72, bV (y29 != y27.1))], [(2, .seq tI y27.2), (0, .box [nC a0.1, nC a0.2.1, .dat (.sl tLI) a0.2.2]), (1, .seq tI y6.1)], 3⟩ hX (by kernel_rfl) allNil ?_
                rcases of_bif hr with ⟨hb32, hr⟩ | ⟨hb32, hr⟩
                · refine HT.cond1 rfl hb32 ?_
                  refine HT.rg2 [oH] ⟨[(2, bV false)], [], 3⟩ hX (by kernel_rfl) allNil ?_
                  have hr := of_some hr
                  subst hr
                  exact HT.ret (qThenR ⟨[bV false], [], [], by kernel_rfl, by kernel_rfl, rfl, by kernel_rfl, by kernel_rfl, trivial⟩)
                · refine HT.cond0 rfl hb32 ?_
                  refine HT.skip (qThen ?_)
                  obtain ⟨y33, hc34, hr⟩ := of_bind hr
                  obtain ⟨y35, hc36, hr⟩ := of_bind hr
                  refine HT.rg2 [oH, ⟨none, .call [.imm (.st (.pair tLI (.pair tLI (.sl tLI))))] [⟨true, (.st (.pair tLI (.pair tLI (.sl (.own tI))))), y33⟩] []⟩, ⟨none, .call [.imm (.st (.pair tLI (.pair tLI (.sl tLI))))] [⟨true, tLI, y35.1⟩, ⟨false, .bool, y35.2⟩] []⟩, oH, oH, oH, oH, oH] ⟨[(4, aV 1), (5, bV y6.2), (7, aV 2), (10, iV y27.1), (12, aV 6), (13, bV y35.2)], [(6, .seq tI y35.1), (2, .seq tI y27.2), (1, .seq tI y6.1)], 7⟩ hX (by kernel_rfl) (allCons (f12_ok hc34) (allCons (f24_ok hc36) allNil)) ?_
                  refine HT.seq ?_
                  obtain ⟨v37', hT39, hr⟩ := of_bind hr
                  refine HT.join (fun (v37 : Bool) => ⟨[(7, aV 0), (10, iV y27.1), (87, bV v37)], [(0, .seq tI y27.2)], 1⟩) (fun v => v = v37') (fun v37 hv38 => ?_) (fun cont => ?_)
                  · subst hv38
                    rcases of_bif hr with ⟨hb40, hr⟩ | ⟨hb40, hr⟩
                    · refine HT.cond1 rfl hb40 ?_
                      refine HT.rg2 [oH] ⟨[(2, bV false)], [], 1⟩ hX (by kernel_rfl) allNil ?_
                      have hr := of_some hr
                      subst hr
                      exact HT.ret (qThenR ⟨[bV false], [], [], by kernel_rfl, by kernel_rfl, rfl, by kernel_rfl, by kernel_rfl, trivial⟩)
                    · refine HT.cond0 rfl hb40 ?_
                      refine HT.skip (qThen ?_)
                      refine HT.rg2 [oH] ⟨[(7, aV 0), (10, iV y27.1), (11, iV (1 : Int))], [(0, .seq tI y27.2)], 1⟩ hX (by kernel_rfl) allNil ?_
                      obtain ⟨y41, hc42, hr⟩ := of_bind hr
                      refine HT.rg2 [oH, oH, ⟨none, .call [.imm tLI, .imm tI] [⟨false, tI, y41⟩] []⟩, oH] ⟨[(10, iV y27.1), (11, iV y41)], [], 1⟩ hX (by kernel_rfl) (allCons (f22_ok hc42) allNil) ?_
                      refine HT.seq ?_
                      refine HT.rg2 (oHs 2) ⟨[(10, iV y27.1), (11, iV y41), (92, bV (decide (y41 < (0 : Int))))], [], 1⟩ hX (by kernel_rfl) allNil ?_
                      rcases of_bif hr with ⟨hb43, hr⟩ | ⟨hb43, hr⟩
                      · refine HT.cond1 rfl hb43 ?_
                        refine HT.rg2 [oH] ⟨[(2, bV false)], [], 1⟩ hX (by kernel_rfl) allNil ?_
                        have hr := of_some hr
                        subst hr
                        exact HT.ret (qThenR ⟨[bV false], [], [], by kernel_rfl, by kernel_rfl, rfl, by kernel_rfl, by kernel_rfl, trivial⟩)
                      · refine HT.cond0 rfl hb43 ?_
                        refine HT.skip (qThen ?_)
                        refine HT.seq ?_
                        refine HT.rg2 (oHs 3) ⟨[(95, bV (y41 != y27.1))], [], 1⟩ hX (by kernel_rfl) allNil ?_
                        rcases of_bif hr with ⟨hb44, hr⟩ | ⟨hb44, hr⟩
                        · refine HT.cond1 rfl hb44 ?_
                          refine HT.rg2 [oH] ⟨[(2, bV false)], [], 1⟩ hX (by kernel_rfl) allNil ?_
                          have hr := of_some hr
                          subst hr
                          exact HT.ret (qThenR ⟨[bV false], [], [], by kernel_rfl, by kernel_rfl, rfl, by kernel_rfl, by kernel_rfl, trivial⟩)
                        · refine HT.cond0 rfl hb44 ?_
                          refine HT.skip (qThen ?_)
                          refine HT.rg2 [oH] ⟨[(2, bV true)], [], 1⟩ hX (by kernel_rfl) allNil ?_
                          have hr := of_some hr
                          subst hr
                          exact HT.ret ⟨[bV true], [], [], by kernel_rfl, by kernel_rfl, rfl, by kernel_rfl, by kernel_rfl, trivial⟩
                  · obtain ⟨y45, hc46, hT39⟩ := of_bind hT39
                    rcases of_bif hT39 with ⟨hb47, hT39⟩ | ⟨hb47, hT39⟩
                    · exact HT.rgK [oH, oH, ⟨none, .call [.imm tLI, .imm tLI] [⟨false, .bool, y45⟩] []⟩, oH, oH, ⟨some true, .no⟩, ⟨some true, .no⟩, ⟨some true, .no⟩, ⟨none, .tv true⟩] [(2, 0)] [] hX (by kernel_rfl) (allCons (f20_ok hc46) (allCons hb47 (allCons hb47 (allCons hb47 (allCons hb47 allNil))))) (fun _ h => (qThen (h.ht (cont true (of_some hT39)))))
                    · exact HT.rgK [oH, oH, ⟨none, .call [.imm tLI, .imm tLI] [⟨false, .bool, y45⟩] []⟩, oH, oH, ⟨some false, .no⟩, ⟨some false, .no⟩, ⟨some false, .no⟩, ⟨none, .tv false⟩] [(2, 0)] [] hX (by kernel_rfl) (allCons (f20_ok hc46) (allCons hb47 (allCons hb47 (allCons hb47 (allCons hb47 allNil))))) (fun _ h => (qThen (h.ht (cont (y35.2 != y6.2) (of_some hT39)))))
          · rcases of_bif hT25 with ⟨hb48, hT25⟩ | ⟨hb48, hT25⟩
            · exact HT.rgK [oH, oH, oH, ⟨some true, .no⟩, ⟨some true, .no⟩, ⟨some true, .no⟩, ⟨some true, .no⟩, ⟨none, .tv true⟩, oH, ⟨some true, .no⟩, ⟨some true, .no⟩, ⟨some true, .no⟩, ⟨none, .tv true⟩] [(0, 0), (1, 1), (3, 2)] [] hX (by kernel_rfl) (allCons hb48 (allCons hb48 (allCons hb48 (allCons hb48 (allCons hb48 (allCons (rfl : true = true) (allCons (rfl : true = true) (allCons (rfl : true = true) (allCons (rfl : true = true) allNil))))))))) (fun _ h => (qThen (h.ht (cont true (of_some hT25)))))
            · obtain ⟨y49, hc50, hT25⟩ := of_bind hT25
              rcases of_bif hT25 with ⟨hb51, hT25⟩ | ⟨hb51, hT25⟩
              · exact HT.rgK [oH, oH, oH, ⟨some false, .no⟩, ⟨some false, .no⟩, ⟨some false, .call [.imm tLI, .imm tLI] [⟨false, .bool, y49⟩] []⟩, ⟨some false, .no⟩, ⟨none, .tv false⟩, oH, ⟨some true, .no⟩, ⟨some true, .no⟩, ⟨some true, .no⟩, ⟨none, .tv true⟩] [(0, 0), (1, 1), (3, 2)] [] hX (by kernel_rfl) (allCons hb48 (allCons hb48 (allCons hb48 (allCons (f20_ok hc50) (allCons hb48 (allCons hb48 (allCons hb51 (allCons hb51 (allCons hb51 (allCons hb51 allNil)))))))))) (fun _ h => (qThen (h.ht (cont true (of_some hT25)))))
              · exact HT.rgK [oH, oH, oH, ⟨some false, .no⟩, ⟨some false, .no⟩, ⟨some false, .call [.imm tLI, .imm tLI] [⟨false, .bool, y49⟩] []⟩, ⟨some false, .no⟩, ⟨none, .tv false⟩, oH, ⟨some false, .no⟩, ⟨some false, .no⟩, ⟨some false, .no⟩, ⟨none, .tv false⟩] [(0, 0), (1, 1), (3, 2)] [] hX (by kernel_rfl) (allCons hb48 (allCons hb48 (allCons hb48 (allCons (f20_ok hc50) (allCons hb48 (allCons hb48 (allCons hb51 (allCons hb51 (allCons hb51 (allCons hb51 allNil)))))))))) (fun _ h => (qThen (h.ht (cont (y10.2 != y6.2) (of_some hT25)))))
    · obtain ⟨y52, hc53, hT14⟩ := of_bind hT14
      rcases of_bif hT14 with ⟨hb54, hT14⟩ | ⟨hb54, hT14⟩
      · exact HT.rgK [oH, oH, ⟨none, .call [.imm tLI, .imm tLI] [⟨false, .bool, y52⟩] []⟩, oH, oH, ⟨some true, .no⟩, ⟨some true, .no⟩, ⟨some true, .no⟩, ⟨none, .tv true⟩] [(0, 0), (4, 1), (8, 2), (9, 3), (5, 4), (6, 5), (7, 6)] [] hX (by kernel_rfl) (allCons (f20_ok hc53) (allCons hb54 (allCons hb54 (allCons hb54 (allCons hb54 allNil))))) (fun _ h => (qThen (h.ht (cont true (of_some hT14)))))
      · exact HT.rgK [oH, oH, ⟨none, .call [.imm tLI, .imm tLI] [⟨false, .bool, y52⟩] []⟩, oH, oH, ⟨some false, .no⟩, ⟨some false, .no⟩, ⟨some false, .no⟩, ⟨none, .tv false⟩] [(0, 0), (4, 1), (8, 2), (9, 3), (5, 4), (6, 5), (7, 6)] [] hX (by kernel_rfl) (allCons (f20_ok hc53) (allCons hb54 (allCons hb54 (allCons hb54 (allCons hb54 allNil))))) (fun _ h => (qThen (h.ht (cont (y10.2 != y6.2) (of_some hT14)))))

end Go.Proofs
