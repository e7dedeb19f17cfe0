import Derived.Test.YtkejogbikbnafaaGamesSharedGenA
import Derived.Test.YtkejogbikbnafaaProg
set_option linter.unusedVariables false
set_option linter.unusedSimpArgs false
set_option linter.unusedSectionVars false
/-
  Functions as plain functions, and their contracts. Printed by a program.
-/
namespace Go.Proofs
open Go.Ide

noncomputable def impl_GamesShared_B1 (a0 : List (List Int × List Int × List (List Int))) (s5 : Int × List (List Int)) : Option ((Int × List (List Int)) ⊕ (List (List Int) ⊕ Unit)) :=
  bif (decide (s5.1 < (lenI a0))) then
    guardP ((0 : Int) ≤ s5.1 ∧ s5.1 < lenI a0) (
      (some ((List.getD a0 (Int.toNat s5.1) (([] : List Int), ([] : List Int), ([] : List (List Int)))).1)).bind fun q14 =>
      (some (((List.getD a0 (Int.toNat s5.1) (([] : List Int), ([] : List Int), ([] : List (List Int)))).2).1)).bind fun q16 =>
      (some (((List.getD a0 (Int.toNat s5.1) (([] : List Int), ([] : List Int), ([] : List (List Int)))).2).2)).bind fun q18 =>
      (impl_SolveGame (q14, q16, q18)).bind fun y20 =>
      bif (!y20.2) then
        some (.inr (.inr ()))
      else
        guardP (List.length s5.2 + List.length ([y20.1] : List (List Int)) ≤ appMax) (
          some (.inl ((wadd .i64 s5.1 (1 : Int)), (s5.2 ++ ([y20.1] : List (List Int)))))))
  else
    some (.inr (.inl s5.2))

noncomputable def impl_GamesShared (a0 : List (List Int × List Int × List (List Int))) (a1 : Int) : Option (List (List Int) × Bool) :=
  (show Option (Bool) from
    bif (decide ((lenI a0) > (8 : Int))) then
      some true
    else
      (impl_within a1 (1 : Int) (8 : Int)).bind fun y26 =>
      some (!y26)).bind fun v1 =>
  bif v1 then
    some (([] : List (List Int)), false)
  else
    (rounds (impl_GamesShared_B1 a0) ((0 : Int), ([] : List (List Int)))).bind fun r6 => match r6 with
      | .inl r7 =>
        some (r7, true)
      | .inr r8 =>
        some (([] : List (List Int)), false)

theorem f28_ok {a0 : List (List Int × List Int × List (List Int))} {a1 : Int} {r : List (List Int) × Bool} (hr : impl_GamesShared a0 a1 = some r) : CallOK Try.prog 28 [.imm (.sl (.st (.pair tLI (.pair tLI (.sl tLI))))) a0, .imm tI a1] [⟨true, (.sl (.own tI)), r.1⟩, ⟨false, .bool, r.2⟩] [] := by
  unfold impl_GamesShared at hr
  refine CallOK.of_body (ts := [(true, (.sl (.own tI))), (false, .bool)]) Try.func28 rfl (by kernel_rfl) (Nat.le_of_ble_eq_true (by kernel_rfl)) fun cx hP hN hO hF => ?_
  have hO : cx.own.map Prod.fst = [] := hO
  have hX := CxIs.mk hP hN hO
  have hF := hF rfl
  show HT cx ⟨[(0, .one (.dat (.sl (.st (.pair tLI (.pair tLI (.sl tLI))))) a0)), (1, iV a1)], [], 0⟩ _ _
  refine HT.rg2 (oHs 2) ⟨[(0, .one (.dat (.sl (.st (.pair tLI (.pair tLI (.sl tLI))))) a0)), (1, iV a1)], [], 0⟩ hX (by kernel_rfl) allNil ?_
  refine HT.seq ?_
  obtain ⟨v1', hT3, hr⟩ := of_bind hr
  refine HT.join (fun (v1 : Bool) => ⟨[(0, .one (.dat (.sl (.st (.pair tLI (.pair tLI (.sl tLI))))) a0)), (18, bV v1)], [], 0⟩) (fun v => v = v1') (fun v1 hv2 => ?_) (fun cont => ?_)
  · subst hv2
    rcases of_bif hr with ⟨hb4, hr⟩ | ⟨hb4, hr⟩
    · refine HT.cond1 rfl hb4 ?_
      refine HT.rg2 (oHs 2) ⟨[(4, .one (.nilS)), (5, bV false)], [], 0⟩ hX (by kernel_rfl) allNil ?_
      have hr := of_some hr
      subst hr
      exact HT.ret (qThenR ⟨[.one (.nilS), bV false], [], [], by kernel_rfl, by kernel_rfl, rfl, by kernel_rfl, by kernel_rfl, trivial⟩)
    · refine HT.cond0 rfl hb4 ?_
      refine HT.skip (qThen ?_)
      refine HT.rg2 (oHs 2) ⟨[(0, .one (.dat (.sl (.st (.pair tLI (.pair tLI (.sl tLI))))) a0)), (6, .one (.nilS))], [], 0⟩ hX (by kernel_rfl) allNil ?_
      refine HT.seq ?_
      refine HT.rg2 (oHs 3) ⟨[(6, .one (.nilS)), (20, .one (.dat (.sl (.st (.pair tLI (.pair tLI (.sl tLI))))) a0)), (21, iV (lenI a0)), (22, iV (0 : Int))], [], 0⟩ hX (by kernel_rfl) allNil ?_
      refine HT.block ?_
      obtain ⟨r6, hL24, hr⟩ := of_bind hr
      refine HT.loopL (fun (s5 : Int × List (List Int)) => ⟨[(6, aV 0), (20, .one (.dat (.sl (.st (.pair tLI (.pair tLI (.sl tLI))))) a0)), (21, iV (lenI a0)), (22, iV s5.1)], [(0, .seq (.own tI) s5.2)], 1⟩) (fun (r6 : List (List Int) ⊕ Unit) => match r6 with | .inl r7 => (.exit 0, ⟨[(6, aV 0)], [(0, .seq (.own tI) r7)], 1⟩) | .inr r8 => (.ret, ⟨[(4, .one (.nilS)), (5, bV false)], [], 0⟩)) (Le.re [] [0] hX (by kernel_rfl)) hL24 ?_ (fun s5 x9 hx10 hk11 => ?_)
      · rcases r6 with r7 | r8
        · refine (qBlockX (qThen ?_))
          refine HT.rg2 (oHs 3) ⟨[(4, aV 0), (5, bV true)], [(0, .seq (.own tI) r7)], 1⟩ hX (by kernel_rfl) allNil ?_
          have hr := of_some hr
          subst hr
          exact HT.ret ⟨[aV 0, bV true], [0], [], by kernel_rfl, by kernel_rfl, rfl, by kernel_rfl, by kernel_rfl, trivial⟩
        · have hr := of_some hr
          subst hr
          exact (qBlockR (qThenR ⟨[.one (.nilS), bV false], [], [], by kernel_rfl, by kernel_rfl, rfl, by kernel_rfl, by kernel_rfl, trivial⟩))
      · refine HT.rg2 [oH] ⟨[(6, aV 0), (20, .one (.dat (.sl (.st (.pair tLI (.pair tLI (.sl tLI))))) a0)), (21, iV (lenI a0)), (22, iV s5.1), (23, bV (decide (s5.1 < (lenI a0))))], [(0, .seq (.own tI) s5.2)], 1⟩ hX (by kernel_rfl) allNil ?_
        refine HT.seq ?_
        rcases of_bif hx10 with ⟨hb12, hx10⟩ | ⟨hb12, hx10⟩
        · refine HT.cond1 rfl hb12 ?_
          refine HT.skip (qThen ?_)
          refine HT.seq ?_
          refine HT.block ?_
          obtain ⟨hg13, hx10⟩ := of_guard hx10
          refine HT.rg2 (oHs 4) ⟨[(6, aV 0), (8, pV 1 0), (20, .one (.dat (.sl (.st (.pair tLI (.pair tLI (.sl tLI))))) a0)), (21, iV (lenI a0)), (22, iV s5.1)], [(1, .box [nC ((List.getD a0 (Int.toNat s5.1) (([] : List Int), ([] : List Int), ([] : List (List Int)))).1), nC (((List.getD a0 (Int.toNat s5.1) (([] : List Int), ([] : List Int), ([] : List (List Int)))).2).1), .dat (.sl tLI) (((List.getD a0 (Int.toNat s5.1) (([] : List Int), ([] : List Int), ([] : List (List Int)))).2).2)]), (0, .seq (.own tI) s5.2)], 2⟩ hX (by kernel_rfl) (allCons hg13 allNil) ?_
          obtain ⟨q14, hq15, hx10⟩ := of_bind hx10
          have hq15 := of_some2 hq15
          obtain ⟨q16, hq17, hx10⟩ := of_bind hx10
          have hq17 := of_some2 hq17
          obtain ⟨q18, hq19, hx10⟩ := of_bind hx10
          have hq19 := of_some2 hq19
          refine (Le.cv (s := ⟨[(1, 1), (0, 0)], [], [], false⟩) (own := []) (ps := [a0 = a0, (lenI a0) = (lenI a0), s5.1 = s5.1, q14 = (List.getD a0 (Int.toNat s5.1) (([] : List Int), ([] : List Int), ([] : List (List Int)))).1, q16 = ((List.getD a0 (Int.toNat s5.1) (([] : List Int), ([] : List Int), ([] : List (List Int)))).2).1, q18 = ((List.getD a0 (Int.toNat s5.1) (([] : List Int), ([] : List Int), ([] : List (List Int)))).2).2, s5.2 = s5.2]) (st' := ⟨[(6, aV 0), (8, pV 1 0), (20, .one (.dat (.sl (.st (.pair tLI (.pair tLI (.sl tLI))))) a0)), (21, iV (lenI a0)), (22, iV s5.1)], [(1, .box [nC q14, nC q16, .dat (.sl tLI) q18]), (0, .seq (.own tI) s5.2)], 2⟩) hO (fun h => by cases h) (by kernel_rfl) ⟨rfl, rfl, rfl, hq15, hq17, hq19, rfl, trivial⟩).ht ?_
          obtain ⟨y20, hc21, hx10⟩ := of_bind hx10
          refine HT.rg2 [oH, ⟨none, .call [.imm (.st (.pair tLI (.pair tLI (.sl tLI))))] [⟨true, tLI, y20.1⟩, ⟨false, .bool, y20.2⟩] []⟩, oH, oH, oH, oH, oH] ⟨[(6, aV 0), (9, aV 2), (10, bV y20.2), (20, .one (.dat (.sl (.st (.pair tLI (.pair tLI (.sl tLI))))) a0)), (21, iV (lenI a0)), (22, iV s5.1)], [(2, .seq tI y20.1), (0, .seq (.own tI) s5.2)], 3⟩ hX (by kernel_rfl) (allCons (f24_ok hc21) allNil) ?_
          refine HT.seq ?_
          refine HT.rg2 (oHs 2) ⟨[(6, aV 0), (9, aV 2), (20, .one (.dat (.sl (.st (.pair tLI (.pair tLI (.sl tLI))))) a0)), (21, iV (lenI a0)), (22, iV s5.1), (32, bV (!y20.2))], [(2, .seq tI y20.1), (0, .seq (.own tI) s5.2)], 3⟩ hX (by kernel_rfl) allNil ?_
          rcases of_bif hx10 with ⟨hb22, hx10⟩ | ⟨hb22, hx10⟩
          · refine HT.cond1 rfl hb22 ?_
            refine HT.rg2 (oHs 2) ⟨[(4, .one (.nilS)), (5, bV false)], [], 3⟩ hX (by kernel_rfl) allNil ?_
            have hx10 := of_some hx10
            subst hx10
            exact HT.retL (Le.re [] [] hX (by kernel_rfl)) (qThenR (qBlockR (qThenR (qLoopR (hk11 (.inr ()) rfl)))))
          · refine HT.cond0 rfl hb22 ?_
            refine HT.skip (qThen ?_)
            obtain ⟨hg23, hx10⟩ := of_guard hx10
            refine HT.rgL [oH, oH, ⟨none, .ty (.own tI)⟩, ⟨none, .ty (.own tI)⟩, oH] ⟨[(6, aV 4), (20, .one (.dat (.sl (.st (.pair tLI (.pair tLI (.sl tLI))))) a0)), (21, iV (lenI a0)), (22, iV s5.1)], [(4, .seq (.own tI) (s5.2 ++ ([y20.1] : List (List Int))))], 5⟩ hX (by kernel_rfl) (allCons hg23 allNil) (qBlock (qThen ?_))
            have hx10 := of_some hx10
            subst hx10
            exact HT.rgK (oHs 2) [(4, 0)] [] hX (by kernel_rfl) allNil (fun _ h => (qLoopN ⟨((wadd .i64 s5.1 (1 : Int)), (s5.2 ++ ([y20.1] : List (List Int)))), rfl, h⟩))
        · refine HT.cond0 rfl hb12 ?_
          have hx10 := of_some hx10
          subst hx10
          exact HT.exitL (Le.re [(0, 0)] [] hX (by kernel_rfl)) (qThenE (qLoopE (hk11 (.inl s5.2) rfl)))
  · rcases of_bif hT3 with ⟨hb25, hT3⟩ | ⟨hb25, hT3⟩
    · exact HT.rgK [oH, oH, oH, oH, ⟨some true, .no⟩, ⟨some true, .no⟩, ⟨some true, .no⟩, ⟨none, .tv true⟩] [] [] hX (by kernel_rfl) (allCons hb25 (allCons hb25 (allCons hb25 (allCons hb25 allNil)))) (fun _ h => (qThen (h.ht (cont true (of_some hT3)))))
    · obtain ⟨y26, hc27, hT3⟩ := of_bind hT3
      exact HT.rgK [oH, oH, oH, oH, ⟨some false, .no⟩, ⟨some false, .call [.imm tI, .imm tI, .imm tI] [⟨false, .bool, y26⟩] []⟩, ⟨some false, .no⟩, ⟨none, .tv false⟩] [] [] hX (by kernel_rfl) (allCons hb25 (allCons hb25 (allCons (f54_ok hc27) (allCons hb25 (allCons hb25 allNil))))) (fun _ h => (qThen (h.ht (cont (!y26) (of_some hT3)))))

noncomputable def laws_eqInt64S_B1 (a0 : List Int) (a1 : List Int) (s2 : Int) : Option ((Int) ⊕ (Unit ⊕ Unit)) :=
  bif (decide (s2 < (lenI a0))) then
    guardP ((0 : Int) ≤ s2 ∧ s2 < lenI a0) (
      guardP ((0 : Int) ≤ s2 ∧ s2 < lenI a1) (
        bif ((List.getD a0 (Int.toNat s2) (0 : Int)) != (List.getD a1 (Int.toNat s2) (0 : Int))) then
          some (.inr (.inr ()))
        else
          some (.inl (wadd .i64 s2 (1 : Int)))))
  else
    some (.inr (.inl ()))

noncomputable def laws_eqInt64S (a0 : List Int) (a1 : List Int) : Option (Bool) :=
  bif ((lenI a0) != (lenI a1)) then
    some false
  else
    (rounds (laws_eqInt64S_B1 a0 a1) (0 : Int)).bind fun r3 => match r3 with
      | .inl r4 =>
        some true
      | .inr r5 =>
        some false

theorem f20_ok {a0 : List Int} {a1 : List Int} {r : Bool} (hr : laws_eqInt64S a0 a1 = some r) : CallOK Try.prog 20 [.imm tLI a0, .imm tLI a1] [⟨false, .bool, r⟩] [] := by
  unfold laws_eqInt64S at hr
  refine CallOK.of_body (ts := [(false, .bool)]) Try.func20 rfl (by kernel_rfl) (Nat.le_of_ble_eq_true (by kernel_rfl)) fun cx hP hN hO hF => ?_
  have hO : cx.own.map Prod.fst = [] := hO
  have hX := CxIs.mk hP hN hO
  have hF := hF rfl
  show HT cx ⟨[(0, nV a0), (1, nV a1)], [], 0⟩ _ _
  refine HT.rg2 [oH] ⟨[(0, nV a0), (1, nV a1)], [], 0⟩ hX (by kernel_rfl) allNil ?_
  refine HT.seq ?_
  refine HT.rg2 (oHs 5) ⟨[(0, nV a0), (1, nV a1), (10, bV ((lenI a0) != (lenI a1)))], [], 0⟩ hX (by kernel_rfl) allNil ?_
  rcases of_bif hr with ⟨hb1, hr⟩ | ⟨hb1, hr⟩
  · refine HT.cond1 rfl hb1 ?_
    refine HT.rg2 [oH] ⟨[(4, bV false)], [], 0⟩ hX (by kernel_rfl) allNil ?_
    have hr := of_some hr
    subst hr
    exact HT.ret (qThenR ⟨[bV false], [], [], by kernel_rfl, by kernel_rfl, rfl, by kernel_rfl, by kernel_rfl, trivial⟩)
  · refine HT.cond0 rfl hb1 ?_
    refine HT.skip (qThen ?_)
    refine HT.seq ?_
    refine HT.rg2 [oH] ⟨[(0, nV a0), (1, nV a1), (5, iV (0 : Int))], [], 0⟩ hX (by kernel_rfl) allNil ?_
    refine HT.block ?_
    obtain ⟨r3, hL13, hr⟩ := of_bind hr
    refine HT.loopL (fun (s2 : Int) => ⟨[(0, nV a0), (1, nV a1), (5, iV s2)], [], 0⟩) (fun (r3 : Unit ⊕ Unit) => match r3 with | .inl r4 => (.exit 0, ⟨[], [], 0⟩) | .inr r5 => (.ret, ⟨[(4, bV false)], [], 0⟩)) (Le.re [] [] hX (by kernel_rfl)) hL13 ?_ (fun s2 x6 hx7 hk8 => ?_)
    · rcases r3 with r4 | r5
      · refine (qBlockX (qThen ?_))
        refine HT.rg2 [oH] ⟨[(4, bV true)], [], 0⟩ hX (by kernel_rfl) allNil ?_
        have hr := of_some hr
        subst hr
        exact HT.ret ⟨[bV true], [], [], by kernel_rfl, by kernel_rfl, rfl, by kernel_rfl, by kernel_rfl, trivial⟩
      · have hr := of_some hr
        subst hr
        exact (qBlockR (qThenR ⟨[bV false], [], [], by kernel_rfl, by kernel_rfl, rfl, by kernel_rfl, by kernel_rfl, trivial⟩))
    · refine HT.seq ?_
      refine HT.rg2 (oHs 4) ⟨[(0, nV a0), (1, nV a1), (5, iV s2), (14, bV (decide (s2 < (lenI a0))))], [], 0⟩ hX (by kernel_rfl) allNil ?_
      rcases of_bif hx7 with ⟨hb9, hx7⟩ | ⟨hb9, hx7⟩
      · refine HT.cond1 rfl hb9 ?_
        refine HT.skip (qThen ?_)
        refine HT.seq ?_
        refine HT.block ?_
        obtain ⟨hg10, hx7⟩ := of_guard hx7
        obtain ⟨hg11, hx7⟩ := of_guard hx7
        refine HT.dr2 8 [⟨oH, []⟩, ⟨oH, []⟩, ⟨oH, [0, 1]⟩, ⟨oH, [0, 1, 2]⟩, ⟨oH, []⟩, ⟨oH, []⟩, ⟨oH, [4, 5]⟩, ⟨oH, [4, 5, 6]⟩] [[0, 1, 2, 3, 4, 5, 6, 7]] [oH] ⟨[(0, nV a0), (1, nV a1), (5, iV s2), (25, bV ((List.getD a0 (Int.toNat s2) (0 : Int)) != (List.getD a1 (Int.toNat s2) (0 : Int))))], [], 0⟩ hX (by kernel_rfl) (by kernel_rfl) (allCons hg10 (allCons hg11 allNil)) ?_
        rcases of_bif hx7 with ⟨hb12, hx7⟩ | ⟨hb12, hx7⟩
        · refine HT.cond1 rfl hb12 ?_
          refine HT.rg2 [oH] ⟨[(4, bV false)], [], 0⟩ hX (by kernel_rfl) allNil ?_
          have hx7 := of_some hx7
          subst hx7
          exact HT.retL (Le.re [] [] hX (by kernel_rfl)) (qBlockR (qThenR (qLoopR (hk8 (.inr ()) rfl))))
        · refine HT.cond0 rfl hb12 ?_
          refine HT.skip (qBlock (qThen ?_))
          have hx7 := of_some hx7
          subst hx7
          exact HT.rgK (oHs 3) [] [] hX (by kernel_rfl) allNil (fun _ h => (qLoopN ⟨(wadd .i64 s2 (1 : Int)), rfl, h⟩))
      · refine HT.cond0 rfl hb9 ?_
        have hx7 := of_some hx7
        subst hx7
        exact HT.exitL (Le.re [] [] hX (by kernel_rfl)) (qThenE (qLoopE (hk8 (.inl ()) rfl)))

noncomputable def laws_eqInt64SS_B1 (a0 : List (List Int)) (a1 : List (List Int)) (s2 : Int) : Option ((Int) ⊕ (Unit ⊕ Unit)) :=
  bif (decide (s2 < (lenI a0))) then
    guardP ((0 : Int) ≤ s2 ∧ s2 < lenI a0) (
      guardP ((0 : Int) ≤ s2 ∧ s2 < lenI a1) (
        (laws_eqInt64S (List.getD a0 (Int.toNat s2) ([] : List Int)) (List.getD a1 (Int.toNat s2) ([] : List Int))).bind fun y12 =>
        bif (!y12) then
          some (.inr (.inr ()))
        else
          some (.inl (wadd .i64 s2 (1 : Int)))))
  else
    some (.inr (.inl ()))

noncomputable def laws_eqInt64SS (a0 : List (List Int)) (a1 : List (List Int)) : Option (Bool) :=
  bif ((lenI a0) != (lenI a1)) then
    some false
  else
    (rounds (laws_eqInt64SS_B1 a0 a1) (0 : Int)).bind fun r3 => match r3 with
      | .inl r4 =>
        some true
      | .inr r5 =>
        some false

theorem f29_ok {a0 : List (List Int)} {a1 : List (List Int)} {r : Bool} (hr : laws_eqInt64SS a0 a1 = some r) : CallOK Try.prog 29 [.imm (.sl tLI) a0, .imm (.sl tLI) a1] [⟨false, .bool, r⟩] [] := by
  unfold laws_eqInt64SS at hr
  refine CallOK.of_body (ts := [(false, .bool)]) Try.func29 rfl (by kernel_rfl) (Nat.le_of_ble_eq_true (by kernel_rfl)) fun cx hP hN hO hF => ?_
  have hO : cx.own.map Prod.fst = [] := hO
  have hX := CxIs.mk hP hN hO
  have hF := hF rfl
  show HT cx ⟨[(0, .one (.dat (.sl tLI) a0)), (1, .one (.dat (.sl tLI) a1))], [], 0⟩ _ _
  refine HT.rg2 [oH] ⟨[(0, .one (.dat (.sl tLI) a0)), (1, .one (.dat (.sl tLI) a1))], [], 0⟩ hX (by kernel_rfl) allNil ?_
  refine HT.seq ?_
  refine HT.rg2 (oHs 5) ⟨[(0, .one (.dat (.sl tLI) a0)), (1, .one (.dat (.sl tLI) a1)), (10, bV ((lenI a0) != (lenI a1)))], [], 0⟩ hX (by kernel_rfl) allNil ?_
  rcases of_bif hr with ⟨hb1, hr⟩ | ⟨hb1, hr⟩
  · refine HT.cond1 rfl hb1 ?_
    refine HT.rg2 [oH] ⟨[(4, bV false)], [], 0⟩ hX (by kernel_rfl) allNil ?_
    have hr := of_some hr
    subst hr
    exact HT.ret (qThenR ⟨[bV false], [], [], by kernel_rfl, by kernel_rfl, rfl, by kernel_rfl, by kernel_rfl, trivial⟩)
  · refine HT.cond0 rfl hb1 ?_
    refine HT.skip (qThen ?_)
    refine HT.seq ?_
    refine HT.rg2 [oH] ⟨[(0, .one (.dat (.sl tLI) a0)), (1, .one (.dat (.sl tLI) a1)), (5, iV (0 : Int))], [], 0⟩ hX (by kernel_rfl) allNil ?_
    refine HT.block ?_
    obtain ⟨r3, hL15, hr⟩ := of_bind hr
    refine HT.loopL (fun (s2 : Int) => ⟨[(0, .one (.dat (.sl tLI) a0)), (1, .one (.dat (.sl tLI) a1)), (5, iV s2)], [], 0⟩) (fun (r3 : Unit ⊕ Unit) => match r3 with | .inl r4 => (.exit 0, ⟨[], [], 0⟩) | .inr r5 => (.ret, ⟨[(4, bV false)], [], 0⟩)) (Le.re [] [] hX (by kernel_rfl)) hL15 ?_ (fun s2 x6 hx7 hk8 => ?_)
    · rcases r3 with r4 | r5
      · refine (qBlockX (qThen ?_))
        refine HT.rg2 [oH] ⟨[(4, bV true)], [], 0⟩ hX (by kernel_rfl) allNil ?_
        have hr := of_some hr
        subst hr
        exact HT.ret ⟨[bV true], [], [], by kernel_rfl, by kernel_rfl, rfl, by kernel_rfl, by kernel_rfl, trivial⟩
      · have hr := of_some hr
        subst hr
        exact (qBlockR (qThenR ⟨[bV false], [], [], by kernel_rfl, by kernel_rfl, rfl, by kernel_rfl, by kernel_rfl, trivial⟩))
    · refine HT.seq ?_
      refine HT.rg2 (oHs 4) ⟨[(0, .one (.dat (.sl tLI) a0)), (1, .one (.dat (.sl tLI) a1)), (5, iV s2), (14, bV (decide (s2 < (lenI a0))))], [], 0⟩ hX (by kernel_rfl) allNil ?_
      rcases of_bif hx7 with ⟨hb9, hx7⟩ | ⟨hb9, hx7⟩
      · refine HT.cond1 rfl hb9 ?_
        refine HT.skip (qThen ?_)
        refine HT.seq ?_
        refine HT.block ?_
        obtain ⟨hg10, hx7⟩ := of_guard hx7
        obtain ⟨hg11, hx7⟩ := of_guard hx7
        obtain ⟨y12, hc13, hx7⟩ := of_bind hx7
        refine HT.dr2 8 [⟨oH, []⟩, ⟨oH, []⟩, ⟨oH, [0, 1]⟩, ⟨oH, [0, 1, 2]⟩, ⟨oH, []⟩, ⟨oH, []⟩, ⟨oH, [4, 5]⟩, ⟨oH, [4, 5, 6]⟩] [[0, 1, 2, 3, 4, 5, 6, 7], [0, 1, 2, 3, 4, 5, 6, 7, 8]] [⟨none, .call [.imm tLI, .imm tLI] [⟨false, .bool, y12⟩] []⟩, oH] ⟨[(0, .one (.dat (.sl tLI) a0)), (1, .one (.dat (.sl tLI) a1)), (5, iV s2), (26, bV (!y12))], [], 0⟩ hX (by kernel_rfl) (by kernel_rfl) (allCons hg10 (allCons hg11 (allCons (f20_ok hc13) allNil))) ?_
        rcases of_bif hx7 with ⟨hb14, hx7⟩ | ⟨hb14, hx7⟩
        · refine HT.cond1 rfl hb14 ?_
          refine HT.rg2 [oH] ⟨[(4, bV false)], [], 0⟩ hX (by kernel_rfl) allNil ?_
          have hx7 := of_some hx7
          subst hx7
          exact HT.retL (Le.re [] [] hX (by kernel_rfl)) (qBlockR (qThenR (qLoopR (hk8 (.inr ()) rfl))))
        · refine HT.cond0 rfl hb14 ?_
          refine HT.skip (qBlock (qThen ?_))
          have hx7 := of_some hx7
          subst hx7
          exact HT.rgK (oHs 3) [] [] hX (by kernel_rfl) allNil (fun _ h => (qLoopN ⟨(wadd .i64 s2 (1 : Int)), rfl, h⟩))
      · refine HT.cond0 rfl hb9 ?_
        have hx7 := of_some hx7
        subst hx7
        exact HT.exitL (Le.re [] [] hX (by kernel_rfl)) (qThenE (qLoopE (hk8 (.inl ()) rfl)))

noncomputable def laws_eqGame (a0 : List Int × List Int × List (List Int)) (a1 : List Int × List Int × List (List Int)) : Option (Bool) :=
  (laws_eqInt64S a0.1 a1.1).bind fun y1 =>
  bif (!y1) then
    some false
  else
    (laws_eqInt64S a0.2.1 a1.2.1).bind fun y4 =>
    bif (!y4) then
      some false
    else
      (laws_eqInt64SS a0.2.2 a1.2.2).bind fun y7 =>
      bif (!y7) then
        some false
      else
        some true

theorem f14_ok {a0 : List Int × List Int × List (List Int)} {a1 : List Int × List Int × List (List Int)} {r : Bool} (hr : laws_eqGame a0 a1 = some r) : CallOK Try.prog 14 [.imm (.st (.pair tLI (.pair tLI (.sl tLI)))) a0, .imm (.st (.pair tLI (.pair tLI (.sl tLI)))) a1] [⟨false, .bool, r⟩] [] := by
  unfold laws_eqGame at hr
  refine CallOK.of_body (ts := [(false, .bool)]) Try.func14 rfl (by kernel_rfl) (Nat.le_of_ble_eq_true (by kernel_rfl)) fun cx hP hN hO hF => ?_
  have hO : cx.own.map Prod.fst = [] := hO
  have hX := CxIs.mk hP hN hO
  have hF := hF rfl
  show HT cx ⟨[(0, .agg [nC a0.1, nC a0.2.1, .dat (.sl tLI) a0.2.2]), (1, .agg [nC a1.1, nC a1.2.1, .dat (.sl tLI) a1.2.2])], [], 0⟩ _ _
  refine HT.rg2 (oHs 3) ⟨[(2, pV 0 0), (3, pV 1 0)], [(1, .box [nC a1.1, nC a1.2.1, .dat (.sl tLI) a1.2.2]), (0, .box [nC a0.1, nC a0.2.1, .dat (.sl tLI) a0.2.2])], 2⟩ hX (by kernel_rfl) allNil ?_
  refine HT.seq ?_
  obtain ⟨y1, hc2, hr⟩ := of_bind hr
  refine HT.rg2 [oH, oH, oH, oH, ⟨none, .call [.imm tLI, .imm tLI] [⟨false, .bool, y1⟩] []⟩, oH] ⟨[(2, pV 0 0), (3, pV 1 0), (10, bV (!y1))], [(1, .box [nC a1.1, nC a1.2.1, .dat (.sl tLI) a1.2.2]), (0, .box [nC a0.1, nC a0.2.1, .dat (.sl tLI) a0.2.2])], 2⟩ hX (by kernel_rfl) (allCons (f20_ok hc2) allNil) ?_
  rcases of_bif hr with ⟨hb3, hr⟩ | ⟨hb3, hr⟩
  · refine HT.cond1 rfl hb3 ?_
    refine HT.rg2 [oH] ⟨[(4, bV false)], [], 2⟩ hX (by kernel_rfl) allNil ?_
    have hr := of_some hr
    subst hr
    exact HT.ret (qThenR ⟨[bV false], [], [], by kernel_rfl, by kernel_rfl, rfl, by kernel_rfl, by kernel_rfl, trivial⟩)
  · refine HT.cond0 rfl hb3 ?_
    refine HT.skip (qThen ?_)
    refine HT.seq ?_
    obtain ⟨y4, hc5, hr⟩ := of_bind hr
    refine HT.rg2 [oH, oH, oH, oH, ⟨none, .call [.imm tLI, .imm tLI] [⟨false, .bool, y4⟩] []⟩, oH] ⟨[(2, pV 0 0), (3, pV 1 0), (16, bV (!y4))], [(1, .box [nC a1.1, nC a1.2.1, .dat (.sl tLI) a1.2.2]), (0, .box [nC a0.1, nC a0.2.1, .dat (.sl tLI) a0.2.2])], 2⟩ hX (by kernel_rfl) (allCons (f20_ok hc5) allNil) ?_
    rcases of_bif hr with ⟨hb6, hr⟩ | ⟨hb6, hr⟩
    · refine HT.cond1 rfl hb6 ?_
      refine HT.rg2 [oH] ⟨[(4, bV false)], [], 2⟩ hX (by kernel_rfl) allNil ?_
      have hr := of_some hr
      subst hr
      exact HT.ret (qThenR ⟨[bV false], [], [], by kernel_rfl, by kernel_rfl, rfl, by kernel_rfl, by kernel_rfl, trivial⟩)
    · refine HT.cond0 rfl hb6 ?_
      refine HT.skip (qThen ?_)
      refine HT.seq ?_
      obtain ⟨y7, hc8, hr⟩ := of_bind hr
      refine HT.rg2 [oH, oH, oH, oH, ⟨none, .call [.imm (.sl tLI), .imm (.sl tLI)] [⟨false, .bool, y7⟩] []⟩, oH] ⟨[(22, bV (!y7))], [], 2⟩ hX (by kernel_rfl) (allCons (f29_ok hc8) allNil) ?_
      rcases of_bif hr with ⟨hb9, hr⟩ | ⟨hb9, hr⟩
      · refine HT.cond1 rfl hb9 ?_
        refine HT.rg2 [oH] ⟨[(4, bV false)], [], 2⟩ hX (by kernel_rfl) allNil ?_
        have hr := of_some hr
        subst hr
        exact HT.ret (qThenR ⟨[bV false], [], [], by kernel_rfl, by kernel_rfl, rfl, by kernel_rfl, by kernel_rfl, trivial⟩)
      · refine HT.cond0 rfl hb9 ?_
        refine HT.skip (qThen ?_)
        refine HT.rg2 [oH] ⟨[(4, bV true)], [], 2⟩ hX (by kernel_rfl) allNil ?_
        have hr := of_some hr
        subst hr
        exact HT.ret ⟨[bV true], [], [], by kernel_rfl, by kernel_rfl, rfl, by kernel_rfl, by kernel_rfl, trivial⟩

noncomputable def laws_eqGameS_B1 (a0 : List (List Int × List Int × List (List Int))) (a1 : List (List Int × List Int × List (List Int))) (s2 : Int) : Option ((Int) ⊕ (Unit ⊕ Unit)) :=
  bif (decide (s2 < (lenI a0))) then
    guardP ((0 : Int) ≤ s2 ∧ s2 < lenI a0) (
      guardP ((0 : Int) ≤ s2 ∧ s2 < lenI a1) (
        (laws_eqGame ((List.getD a0 (Int.toNat s2) (([] : List Int), ([] : List Int), ([] : List (List Int)))).1, ((List.getD a0 (Int.toNat s2) (([] : List Int), ([] : List Int), ([] : List (List Int)))).2).1, ((List.getD a0 (Int.toNat s2) (([] : List Int), ([] : List Int), ([] : List (List Int)))).2).2) ((List.getD a1 (Int.toNat s2) (([] : List Int), ([] : List Int), ([] : List (List Int)))).1, ((List.getD a1 (Int.toNat s2) (([] : List Int), ([] : List Int), ([] : List (List Int)))).2).1, ((List.getD a1 (Int.toNat s2) (([] : List Int), ([] : List Int), ([] : List (List Int)))).2).2)).bind fun y12 =>
        bif (!y12) then
          some (.inr (.inr ()))
        else
          some (.inl (wadd .i64 s2 (1 : Int)))))
  else
    some (.inr (.inl ()))

noncomputable def laws_eqGameS (a0 : List (List Int × List Int × List (List Int))) (a1 : List (List Int × List Int × List (List Int))) : Option (Bool) :=
  bif ((lenI a0) != (lenI a1)) then
    some false
  else
    (rounds (laws_eqGameS_B1 a0 a1) (0 : Int)).bind fun r3 => match r3 with
      | .inl r4 =>
        some true
      | .inr r5 =>
        some false

theorem f30_ok {a0 : List (List Int × List Int × List (List Int))} {a1 : List (List Int × List Int × List (List Int))} {r : Bool} (hr : laws_eqGameS a0 a1 = some r) : CallOK Try.prog 30 [.imm (.sl (.st (.pair tLI (.pair tLI (.sl tLI))))) a0, .imm (.sl (.st (.pair tLI (.pair tLI (.sl tLI))))) a1] [⟨false, .bool, r⟩] [] := by
  unfold laws_eqGameS at hr
  refine CallOK.of_body (ts := [(false, .bool)]) Try.func30 rfl (by kernel_rfl) (Nat.le_of_ble_eq_true (by kernel_rfl)) fun cx hP hN hO hF => ?_
  have hO : cx.own.map Prod.fst = [] := hO
  have hX := CxIs.mk hP hN hO
  have hF := hF rfl
  show HT cx ⟨[(0, .one (.dat (.sl (.st (.pair tLI (.pair tLI (.sl tLI))))) a0)), (1, .one (.dat (.sl (.st (.pair tLI (.pair tLI (.sl tLI))))) a1))], [], 0⟩ _ _
  refine HT.rg2 [oH] ⟨[(0, .one (.dat (.sl (.st (.pair tLI (.pair tLI (.sl tLI))))) a0)), (1, .one (.dat (.sl (.st (.pair tLI (.pair tLI (.sl tLI))))) a1))], [], 0⟩ hX (by kernel_rfl) allNil ?_
  refine HT.seq ?_
  refine HT.rg2 (oHs 5) ⟨[(0, .one (.dat (.sl (.st (.pair tLI (.pair tLI (.sl tLI))))) a0)), (1, .one (.dat (.sl (.st (.pair tLI (.pair tLI (.sl tLI))))) a1)), (10, bV ((lenI a0) != (lenI a1)))], [], 0⟩ hX (by kernel_rfl) allNil ?_
  rcases of_bif hr with ⟨hb1, hr⟩ | ⟨hb1, hr⟩
  · refine HT.cond1 rfl hb1 ?_
    refine HT.rg2 [oH] ⟨[(4, bV false)], [], 0⟩ hX (by kernel_rfl) allNil ?_
    have hr := of_some hr
    subst hr
    exact HT.ret (qThenR ⟨[bV false], [], [], by kernel_rfl, by kernel_rfl, rfl, by kernel_rfl, by kernel_rfl, trivial⟩)
  · refine HT.cond0 rfl hb1 ?_
    refine HT.skip (qThen ?_)
    refine HT.seq ?_
    refine HT.rg2 [oH] ⟨[(0, .one (.dat (.sl (.st (.pair tLI (.pair tLI (.sl tLI))))) a0)), (1, .one (.dat (.sl (.st (.pair tLI (.pair tLI (.sl tLI))))) a1)), (5, iV (0 : Int))], [], 0⟩ hX (by kernel_rfl) allNil ?_
    refine HT.block ?_
    obtain ⟨r3, hL15, hr⟩ := of_bind hr
    refine HT.loopL (fun (s2 : Int) => ⟨[(0, .one (.dat (.sl (.st (.pair tLI (.pair tLI (.sl tLI))))) a0)), (1, .one (.dat (.sl (.st (.pair tLI (.pair tLI (.sl tLI))))) a1)), (5, iV s2)], [], 0⟩) (fun (r3 : Unit ⊕ Unit) => match r3 with | .inl r4 => (.exit 0, ⟨[], [], 0⟩) | .inr r5 => (.ret, ⟨[(4, bV false)], [], 0⟩)) (Le.re [] [] hX (by kernel_rfl)) hL15 ?_ (fun s2 x6 hx7 hk8 => ?_)
    · rcases r3 with r4 | r5
      · refine (qBlockX (qThen ?_))
        refine HT.rg2 [oH] ⟨[(4, bV true)], [], 0⟩ hX (by kernel_rfl) allNil ?_
        have hr := of_some hr
        subst hr
        exact HT.ret ⟨[bV true], [], [], by kernel_rfl, by kernel_rfl, rfl, by kernel_rfl, by kernel_rfl, trivial⟩
      · have hr := of_some hr
        subst hr
        exact (qBlockR (qThenR ⟨[bV false], [], [], by kernel_rfl, by kernel_rfl, rfl, by kernel_rfl, by kernel_rfl, trivial⟩))
    · refine HT.seq ?_
      refine HT.rg2 (oHs 4) ⟨[(0, .one (.dat (.sl (.st (.pair tLI (.pair tLI (.sl tLI))))) a0)), (1, .one (.dat (.sl (.st (.pair tLI (.pair tLI (.sl tLI))))) a1)), (5, iV s2), (14, bV (decide (s2 < (lenI a0))))], [], 0⟩ hX (by kernel_rfl) allNil ?_
      rcases of_bif hx7 with ⟨hb9, hx7⟩ | ⟨hb9, hx7⟩
      · refine HT.cond1 rfl hb9 ?_
        refine HT.skip (qThen ?_)
        refine HT.seq ?_
        refine HT.block ?_
        obtain ⟨hg10, hx7⟩ := of_guard hx7
        obtain ⟨hg11, hx7⟩ := of_guard hx7
        obtain ⟨y12, hc13, hx7⟩ := of_bind hx7
        refine HT.dr2 8 [⟨oH, []⟩, ⟨oH, []⟩, ⟨oH, [0, 1]⟩, ⟨oH, [0, 1, 2]⟩, ⟨oH, []⟩, ⟨oH, []⟩, ⟨oH, [4, 5]⟩, ⟨oH, [4, 5, 6]⟩] [[0, 1, 2, 3, 4, 5, 6, 7], [0, 1, 2, 3, 4, 5, 6, 7, 8]] [⟨none, .call [.imm (.st (.pair tLI (.pair tLI (.sl tLI)))), .imm (.st (.pair tLI (.pair tLI (.sl tLI))))] [⟨false, .bool, y12⟩] []⟩, oH] ⟨[(0, .one (.dat (.sl (.st (.pair tLI (.pair tLI (.sl tLI))))) a0)), (1, .one (.dat (.sl (.st (.pair tLI (.pair tLI (.sl tLI))))) a1)), (5, iV s2), (26, bV (!y12))], [], 0⟩ hX (by kernel_rfl) (by kernel_rfl) (allCons hg10 (allCons hg11 (allCons (f14_ok hc13) allNil))) ?_
        rcases of_bif hx7 with ⟨hb14, hx7⟩ | ⟨hb14, hx7⟩
        · refine HT.cond1 rfl hb14 ?_
          refine HT.rg2 [oH] ⟨[(4, bV false)], [], 0⟩ hX (by kernel_rfl) allNil ?_
          have hx7 := of_some hx7
          subst hx7
          exact HT.retL (Le.re [] [] hX (by kernel_rfl)) (qBlockR (qThenR (qLoopR (hk8 (.inr ()) rfl))))
        · refine HT.cond0 rfl hb14 ?_
          refine HT.skip (qBlock (qThen ?_))
          have hx7 := of_some hx7
          subst hx7
          exact HT.rgK (oHs 3) [] [] hX (by kernel_rfl) allNil (fun _ h => (qLoopN ⟨(wadd .i64 s2 (1 : Int)), rfl, h⟩))
      · refine HT.cond0 rfl hb9 ?_
        have hx7 := of_some hx7
        subst hx7
        exact HT.exitL (Le.re [] [] hX (by kernel_rfl)) (qThenE (qLoopE (hk8 (.inl ()) rfl)))

noncomputable def laws_markInt64S_B1  (s1 : Int × Int × List Int) : Option ((Int × Int × List Int) ⊕ ((Int × List Int))) :=
  bif (decide (s1.2.1 < (lenI s1.2.2))) then
    guardP ((0 : Int) ≤ s1.2.1 ∧ s1.2.1 < lenI s1.2.2) (
      some (.inl ((wadd .i64 s1.1 (1 : Int)), (wadd .i64 s1.2.1 (1 : Int)), (List.set s1.2.2 (Int.toNat s1.2.1) s1.1))))
  else
    some (.inr (s1.1, s1.2.2))

noncomputable def laws_markInt64S (a0 : List Int) (a1 : Int) : Option (Int × List Int) :=
  (rounds (laws_markInt64S_B1) (a1, (0 : Int), a0)).bind fun r3 =>
  guardP (List.length r3.2 = List.length a0) (
    some (r3.1, r3.2))

theorem f21_ok {a0 : List Int} {a1 : Int} {r : Int × List Int} (hr : laws_markInt64S a0 a1 = some r) : CallOK Try.prog 21 [.own tLI a0, .imm tI a1] [⟨false, tI, r.1⟩] [⟨tLI, r.2⟩] := by
  unfold laws_markInt64S at hr
  refine CallOK.of_body (ts := [(false, tI)]) Try.func21 rfl (by kernel_rfl) (Nat.le_of_ble_eq_true (by kernel_rfl)) fun cx hP hN hO hF => ?_
  have hO : cx.own.map Prod.fst = [0] := hO
  have hX := CxIs.mk hP hN hO
  have hF := hF rfl
  show HT cx ⟨[(0, aV 0), (1, iV a1)], [(0, .seq tI a0)], 1⟩ _ _
  refine HT.rg2 [oH] ⟨[(0, aV 0), (1, iV a1)], [(0, .seq tI a0)], 1⟩ hX (by kernel_rfl) allNil ?_
  refine HT.seq ?_
  refine HT.rg2 [oH] ⟨[(0, aV 0), (1, iV a1), (5, iV (0 : Int))], [(0, .seq tI a0)], 1⟩ hX (by kernel_rfl) allNil ?_
  refine HT.block ?_
  obtain ⟨r2, hL10, hr⟩ := of_bind hr
  refine HT.loopL (fun (s1 : Int × Int × List Int) => ⟨[(0, aV 0), (1, iV s1.1), (5, iV s1.2.1)], [(0, .seq tI s1.2.2)], 1⟩) (fun (r3 : (Int × List Int)) => (.exit 0, ⟨[(1, iV r3.1)], [(0, .seq tI r3.2)], 1⟩)) (Le.re [(0, 0)] [] hX (by kernel_rfl)) hL10 ?_ (fun s1 x5 hx6 hk7 => ?_)
  · refine (qBlockX (qThen ?_))
    refine HT.rg2 (oHs 2) ⟨[(4, iV r2.1)], [(0, .seq tI r2.2)], 1⟩ hX (by kernel_rfl) allNil ?_
    obtain ⟨hg4, hr⟩ := of_guard hr
    have hr := of_some hr
    subst hr
    exact HT.ret ⟨[iV r2.1], [], [List.length r2.2 = List.length a0], by kernel_rfl, by kernel_rfl, rfl, by kernel_rfl, by kernel_rfl, ⟨hg4, trivial⟩⟩
  · refine HT.seq ?_
    refine HT.rg2 (oHs 4) ⟨[(0, aV 0), (1, iV s1.1), (5, iV s1.2.1), (9, bV (decide (s1.2.1 < (lenI s1.2.2))))], [(0, .seq tI s1.2.2)], 1⟩ hX (by kernel_rfl) allNil ?_
    rcases of_bif hx6 with ⟨hb8, hx6⟩ | ⟨hb8, hx6⟩
    · refine HT.cond1 rfl hb8 ?_
      refine HT.skip (qThen ?_)
      refine HT.seq ?_
      refine HT.block ?_
      obtain ⟨hg9, hx6⟩ := of_guard hx6
      refine HT.rg2 (oHs 5) ⟨[(0, aV 0), (1, iV s1.1), (5, iV s1.2.1)], [(0, .seq tI (List.set s1.2.2 (Int.toNat s1.2.1) s1.1))], 1⟩ hX (by kernel_rfl) (allCons hg9 (allCons (natLt hg9) allNil)) ?_
      refine HT.rgL (oHs 3) ⟨[(0, aV 0), (1, iV (wadd .i64 s1.1 (1 : Int))), (5, iV s1.2.1)], [(0, .seq tI (List.set s1.2.2 (Int.toNat s1.2.1) s1.1))], 1⟩ hX (by kernel_rfl) allNil (qBlock (qThen ?_))
      have hx6 := of_some hx6
      subst hx6
      exact HT.rgK (oHs 3) [(0, 0)] [] hX (by kernel_rfl) allNil (fun _ h => (qLoopN ⟨((wadd .i64 s1.1 (1 : Int)), (wadd .i64 s1.2.1 (1 : Int)), (List.set s1.2.2 (Int.toNat s1.2.1) s1.1)), rfl, h⟩))
    · refine HT.cond0 rfl hb8 ?_
      have hx6 := of_some hx6
      subst hx6
      exact HT.exitL (Le.re [(0, 0)] [] hX (by kernel_rfl)) (qThenE (qLoopE (hk7 (s1.1, s1.2.2) rfl)))

noncomputable def laws_markInt64SS_B1  (s1 : Int × Int × List (List Int)) : Option ((Int × Int × List (List Int)) ⊕ ((Int × List (List Int)))) :=
  bif (decide (s1.2.1 < (lenI s1.2.2))) then
    guardP ((0 : Int) ≤ s1.2.1 ∧ s1.2.1 < lenI s1.2.2) (
      (laws_markInt64S (List.getD s1.2.2 (Int.toNat s1.2.1) ([] : List Int)) s1.1).bind fun y10 =>
      some (.inl (y10.1, (wadd .i64 s1.2.1 (1 : Int)), (List.set s1.2.2 (Int.toNat s1.2.1) y10.2))))
  else
    some (.inr (s1.1, s1.2.2))

noncomputable def laws_markInt64SS (a0 : List (List Int)) (a1 : Int) : Option (Int × List (List Int)) :=
  (rounds (laws_markInt64SS_B1) (a1, (0 : Int), a0)).bind fun r3 =>
  guardP (ShapeEq (.own tI) a0 r3.2) (
    some (r3.1, r3.2))

theorem f32_ok {a0 : List (List Int)} {a1 : Int} {r : Int × List (List Int)} (hr : laws_markInt64SS a0 a1 = some r) : CallOK Try.prog 32 [.own (.sl (.own tI)) a0, .imm tI a1] [⟨false, tI, r.1⟩] [⟨(.sl (.own tI)), r.2⟩] := by
  unfold laws_markInt64SS at hr
  refine CallOK.of_body (ts := [(false, tI)]) Try.func32 rfl (by kernel_rfl) (Nat.le_of_ble_eq_true (by kernel_rfl)) fun cx hP hN hO hF => ?_
  have hO : cx.own.map Prod.fst = [0] := hO
  have hX := CxIs.mk hP hN hO
  have hF := hF rfl
  show HT cx ⟨[(0, aV 0), (1, iV a1)], [(0, .seq (.own tI) a0)], 1⟩ _ _
  refine HT.rg2 [oH] ⟨[(0, aV 0), (1, iV a1)], [(0, .seq (.own tI) a0)], 1⟩ hX (by kernel_rfl) allNil ?_
  refine HT.seq ?_
  refine HT.rg2 [oH] ⟨[(0, aV 0), (1, iV a1), (5, iV (0 : Int))], [(0, .seq (.own tI) a0)], 1⟩ hX (by kernel_rfl) allNil ?_
  refine HT.block ?_
  obtain ⟨r2, hL12, hr⟩ := of_bind hr
  refine HT.loopL (fun (s1 : Int × Int × List (List Int)) => ⟨[(0, aV 0), (1, iV s1.1), (5, iV s1.2.1)], [(0, .seq (.own tI) s1.2.2)], 1⟩) (fun (r3 : (Int × List (List Int))) => (.exit 0, ⟨[(1, iV r3.1)], [(0, .seq (.own tI) r3.2)], 1⟩)) (Le.re [(0, 0)] [] hX (by kernel_rfl)) hL12 ?_ (fun s1 x5 hx6 hk7 => ?_)
  · refine (qBlockX (qThen ?_))
    refine HT.rg2 (oHs 2) ⟨[(4, iV r2.1)], [(0, .seq (.own tI) r2.2)], 1⟩ hX (by kernel_rfl) allNil ?_
    obtain ⟨hg4, hr⟩ := of_guard hr
    have hr := of_some hr
    subst hr
    exact HT.ret ⟨[iV r2.1], [], [ShapeEq (.own tI) a0 r2.2], by kernel_rfl, by kernel_rfl, rfl, by kernel_rfl, by kernel_rfl, ⟨hg4, trivial⟩⟩
  · refine HT.seq ?_
    refine HT.rg2 (oHs 4) ⟨[(0, aV 0), (1, iV s1.1), (5, iV s1.2.1), (9, bV (decide (s1.2.1 < (lenI s1.2.2))))], [(0, .seq (.own tI) s1.2.2)], 1⟩ hX (by kernel_rfl) allNil ?_
    rcases of_bif hx6 with ⟨hb8, hx6⟩ | ⟨hb8, hx6⟩
    · refine HT.cond1 rfl hb8 ?_
      refine HT.skip (qThen ?_)
      refine HT.seq ?_
      refine HT.block ?_
      obtain ⟨hg9, hx6⟩ := of_guard hx6
      obtain ⟨y10, hc11, hx6⟩ := of_bind hx6
      refine HT.regC (rs := [oH, oH, oH, ⟨none, .opn⟩, oH, ⟨none, .call [.own tLI, .imm tI] [⟨false, tI, y10.1⟩] [⟨tLI, y10.2⟩]⟩, oH]) ⟨[(1, iV y10.1), (17, iV y10.1), (16, iV s1.1), (15, aV 1), (14, .one (.elp 0 (Int.toNat s1.2.1) 1 0)), (13, iV s1.2.1), (12, aV 0), (0, aV 0), (1, iV s1.1), (5, iV s1.2.1), (9, bV (decide (s1.2.1 < (lenI s1.2.2))))], [(1, .seq tI y10.2), (0, .opn (.own tI) s1.2.2 (Int.toNat s1.2.1) [.all 1] [1]), (1, .seq tI (List.getD s1.2.2 (Int.toNat s1.2.1) ([] : List Int))), (0, .seq (.own tI) s1.2.2)], 2⟩ hP hN (by kernel_rfl) (allCons hg9 (allCons (natLt hg9) (allCons (f21_ok hc11) allNil))) (Le.close (own := [0]) 0 (st' := ⟨[(1, iV y10.1), (17, iV y10.1), (16, iV s1.1), (15, aV 1), (14, .one (.elp 0 (Int.toNat s1.2.1) 1 0)), (13, iV s1.2.1), (12, aV 0), (0, aV 0), (1, iV s1.1), (5, iV s1.2.1), (9, bV (decide (s1.2.1 < (lenI s1.2.2))))], [(0, .seq (.own tI) (List.set s1.2.2 (Int.toNat s1.2.1) y10.2)), (1, .gone)], 2⟩) hO (by kernel_rfl)) (qBlock (qThen ?_))
      have hx6 := of_some hx6
      subst hx6
      exact HT.rgK (oHs 3) [(0, 0)] [] hX (by kernel_rfl) allNil (fun _ h => (qLoopN ⟨(y10.1, (wadd .i64 s1.2.1 (1 : Int)), (List.set s1.2.2 (Int.toNat s1.2.1) y10.2)), rfl, h⟩))
    · refine HT.cond0 rfl hb8 ?_
      have hx6 := of_some hx6
      subst hx6
      exact HT.exitL (Le.re [(0, 0)] [] hX (by kernel_rfl)) (qThenE (qLoopE (hk7 (s1.1, s1.2.2) rfl)))

noncomputable def laws_markGameS_B1  (s1 : Int × Int × (List (List Int × List Int × List (List Int)))) : Option ((Int × Int × (List (List Int × List Int × List (List Int)))) ⊕ ((Int × (List (List Int × List Int × List (List Int)))))) :=
  bif (decide (s1.2.1 < (lenI s1.2.2))) then
    guardP ((0 : Int) ≤ s1.2.1 ∧ s1.2.1 < lenI s1.2.2) (
      (laws_markInt64S ((List.getD s1.2.2 (Int.toNat s1.2.1) (([] : List Int), ([] : List Int), ([] : List (List Int)))).1) s1.1).bind fun y10 =>
      (some (List.set s1.2.2 (Int.toNat s1.2.1) (y10.2, ((List.getD s1.2.2 (Int.toNat s1.2.1) (([] : List Int), ([] : List Int), ([] : List (List Int)))).2).1, ((List.getD s1.2.2 (Int.toNat s1.2.1) (([] : List Int), ([] : List Int), ([] : List (List Int)))).2).2))).bind fun q12 =>
      guardP ((0 : Int) ≤ s1.2.1 ∧ s1.2.1 < lenI q12) (
        (laws_markInt64S (((List.getD q12 (Int.toNat s1.2.1) (([] : List Int), ([] : List Int), ([] : List (List Int)))).2).1) y10.1).bind fun y15 =>
        (some (List.set q12 (Int.toNat s1.2.1) ((List.getD q12 (Int.toNat s1.2.1) (([] : List Int), ([] : List Int), ([] : List (List Int)))).1, y15.2, ((List.getD q12 (Int.toNat s1.2.1) (([] : List Int), ([] : List Int), ([] : List (List Int)))).2).2))).bind fun q17 =>
        guardP ((0 : Int) ≤ s1.2.1 ∧ s1.2.1 < lenI q17) (
          (laws_markInt64SS (((List.getD q17 (Int.toNat s1.2.1) (([] : List Int), ([] : List Int), ([] : List (List Int)))).2).2) y15.1).bind fun y20 =>
          some (.inl (y20.1, (wadd .i64 s1.2.1 (1 : Int)), (List.set q17 (Int.toNat s1.2.1) ((List.getD q17 (Int.toNat s1.2.1) (([] : List Int), ([] : List Int), ([] : List (List Int)))).1, ((List.getD q17 (Int.toNat s1.2.1) (([] : List Int), ([] : List Int), ([] : List (List Int)))).2).1, y20.2)))))))
  else
    some (.inr (s1.1, s1.2.2))

noncomputable def laws_markGameS (a0 : List (List Int × List Int × List (List Int))) (a1 : Int) : Option (Int × (List (List Int × List Int × List (List Int)))) :=
  (rounds (laws_markGameS_B1) (a1, (0 : Int), a0)).bind fun r3 =>
  guardP (ShapeEq (.st (.pair (.own tI) (.pair (.own tI) (.own (.own tI))))) a0 r3.2) (
    some (r3.1, r3.2))

theorem f31_ok {a0 : List (List Int × List Int × List (List Int))} {a1 : Int} {r : Int × (List (List Int × List Int × List (List Int)))} (hr : laws_markGameS a0 a1 = some r) : CallOK Try.prog 31 [.own (.sl (.st (.pair (.own tI) (.pair (.own tI) (.own (.own tI)))))) a0, .imm tI a1] [⟨false, tI, r.1⟩] [⟨(.sl (.st (.pair (.own tI) (.pair (.own tI) (.own (.own tI)))))), r.2⟩] := by
  unfold laws_markGameS at hr
  refine CallOK.of_body (ts := [(false, tI)]) Try.func31 rfl (by kernel_rfl) (Nat.le_of_ble_eq_true (by kernel_rfl)) fun cx hP hN hO hF => ?_
  have hO : cx.own.map Prod.fst = [0] := hO
  have hX := CxIs.mk hP hN hO
  have hF := hF rfl
  show HT cx ⟨[(0, aV 0), (1, iV a1)], [(0, .seq (.st (.pair (.own tI) (.pair (.own tI) (.own (.own tI))))) a0)], 1⟩ _ _
  refine HT.rg2 [oH] ⟨[(0, aV 0), (1, iV a1)], [(0, .seq (.st (.pair (.own tI) (.pair (.own tI) (.own (.own tI))))) a0)], 1⟩ hX (by kernel_rfl) allNil ?_
  refine HT.seq ?_
  refine HT.rg2 [oH] ⟨[(0, aV 0), (1, iV a1), (5, iV (0 : Int))], [(0, .seq (.st (.pair (.own tI) (.pair (.own tI) (.own (.own tI))))) a0)], 1⟩ hX (by kernel_rfl) allNil ?_
  refine HT.block ?_
  obtain ⟨r2, hL22, hr⟩ := of_bind hr
  refine HT.loopL (fun (s1 : Int × Int × (List (List Int × List Int × List (List Int)))) => ⟨[(0, aV 0), (1, iV s1.1), (5, iV s1.2.1)], [(0, .seq (.st (.pair (.own tI) (.pair (.own tI) (.own (.own tI))))) s1.2.2)], 1⟩) (fun (r3 : (Int × (List (List Int × List Int × List (List Int))))) => (.exit 0, ⟨[(1, iV r3.1)], [(0, .seq (.st (.pair (.own tI) (.pair (.own tI) (.own (.own tI))))) r3.2)], 1⟩)) (Le.re [(0, 0)] [] hX (by kernel_rfl)) hL22 ?_ (fun s1 x5 hx6 hk7 => ?_)
  · refine (qBlockX (qThen ?_))
    refine HT.rg2 (oHs 2) ⟨[(4, iV r2.1)], [(0, .seq (.st (.pair (.own tI) (.pair (.own tI) (.own (.own tI))))) r2.2)], 1⟩ hX (by kernel_rfl) allNil ?_
    obtain ⟨hg4, hr⟩ := of_guard hr
    have hr := of_some hr
    subst hr
    exact HT.ret ⟨[iV r2.1], [], [ShapeEq (.st (.pair (.own tI) (.pair (.own tI) (.own (.own tI))))) a0 r2.2], by kernel_rfl, by kernel_rfl, rfl, by kernel_rfl, by kernel_rfl, ⟨hg4, trivial⟩⟩
  · refine HT.seq ?_
    refine HT.rg2 (oHs 4) ⟨[(0, aV 0), (1, iV s1.1), (5, iV s1.2.1), (9, bV (decide (s1.2.1 < (lenI s1.2.2))))], [(0, .seq (.st (.pair (.own tI) (.pair (.own tI) (.own (.own tI))))) s1.2.2)], 1⟩ hX (by kernel_rfl) allNil ?_
    rcases of_bif hx6 with ⟨hb8, hx6⟩ | ⟨hb8, hx6⟩
    · refine HT.cond1 rfl hb8 ?_
      refine HT.skip (qThen ?_)
      refine HT.seq ?_
      refine HT.block ?_
      obtain ⟨hg9, hx6⟩ := of_guard hx6
      obtain ⟨y10, hc11, hx6⟩ := of_bind hx6
      refine HT.rg2 [oH, oH, oH, oH, ⟨none, .opn⟩, oH, ⟨none, .call [.own tLI, .imm tI] [⟨false, tI, y10.1⟩] [⟨tLI, y10.2⟩]⟩, oH] ⟨[(0, aV 0), (1, iV y10.1), (5, iV s1.2.1)], [(1, .seq tI y10.2), (0, .opn (.st (.pair (.own tI) (.pair (.own tI) (.own (.own tI))))) s1.2.2 (Int.toNat s1.2.1) [.all 1, .all 2, .all 3] [1, 2, 3]), (2, .seq tI (((List.getD s1.2.2 (Int.toNat s1.2.1) (([] : List Int), ([] : List Int), ([] : List (List Int)))).2).1)), (3, .seq (.own tI) (((List.getD s1.2.2 (Int.toNat s1.2.1) (([] : List Int), ([] : List Int), ([] : List (List Int)))).2).2))], 4⟩ hX (by kernel_rfl) (allCons hg9 (allCons (natLt hg9) (allCons (f21_ok hc11) allNil))) ?_
      refine (Le.close (own := [0]) 0 (st' := ⟨[(0, aV 0), (1, iV y10.1), (5, iV s1.2.1)], [(0, .seq (.st (.pair (.own tI) (.pair (.own tI) (.own (.own tI))))) (List.set s1.2.2 (Int.toNat s1.2.1) (y10.2, ((List.getD s1.2.2 (Int.toNat s1.2.1) (([] : List Int), ([] : List Int), ([] : List (List Int)))).2).1, ((List.getD s1.2.2 (Int.toNat s1.2.1) (([] : List Int), ([] : List Int), ([] : List (List Int)))).2).2))), (1, .gone), (2, .gone), (3, .gone)], 4⟩) hO (by kernel_rfl)).ht ?_
      obtain ⟨q12, hq13, hx6⟩ := of_bind hx6
      have hq13 := of_some2 hq13
      refine (Le.cv (s := ⟨[(0, 0)], [], [], false⟩) (own := [0]) (ps := [y10.1 = y10.1, s1.2.1 = s1.2.1, q12 = (List.set s1.2.2 (Int.toNat s1.2.1) (y10.2, ((List.getD s1.2.2 (Int.toNat s1.2.1) (([] : List Int), ([] : List Int), ([] : List (List Int)))).2).1, ((List.getD s1.2.2 (Int.toNat s1.2.1) (([] : List Int), ([] : List Int), ([] : List (List Int)))).2).2))]) (st' := ⟨[(0, aV 0), (1, iV y10.1), (5, iV s1.2.1)], [(0, .seq (.st (.pair (.own tI) (.pair (.own tI) (.own (.own tI))))) q12)], 4⟩) hO (fun h => by cases h) (by kernel_rfl) ⟨rfl, rfl, hq13, trivial⟩).ht ?_
      obtain ⟨hg14, hx6⟩ := of_guard hx6
      obtain ⟨y15, hc16, hx6⟩ := of_bind hx6
      refine HT.rg2 [oH, oH, oH, oH, ⟨none, .opn⟩, oH, ⟨none, .call [.own tLI, .imm tI] [⟨false, tI, y15.1⟩] [⟨tLI, y15.2⟩]⟩, oH] ⟨[(0, aV 0), (1, iV y15.1), (5, iV s1.2.1)], [(5, .seq tI y15.2), (0, .opn (.st (.pair (.own tI) (.pair (.own tI) (.own (.own tI))))) q12 (Int.toNat s1.2.1) [.all 4, .all 5, .all 6] [4, 5, 6]), (4, .seq tI ((List.getD q12 (Int.toNat s1.2.1) (([] : List Int), ([] : List Int), ([] : List (List Int)))).1)), (6, .seq (.own tI) (((List.getD q12 (Int.toNat s1.2.1) (([] : List Int), ([] : List Int), ([] : List (List Int)))).2).2))], 7⟩ hX (by kernel_rfl) (allCons hg14 (allCons (natLt hg14) (allCons (f21_ok hc16) allNil))) ?_
      refine (Le.close (own := [0]) 0 (st' := ⟨[(0, aV 0), (1, iV y15.1), (5, iV s1.2.1)], [(0, .seq (.st (.pair (.own tI) (.pair (.own tI) (.own (.own tI))))) (List.set q12 (Int.toNat s1.2.1) ((List.getD q12 (Int.toNat s1.2.1) (([] : List Int), ([] : List Int), ([] : List (List Int)))).1, y15.2, ((List.getD q12 (Int.toNat s1.2.1) (([] : List Int), ([] : List Int), ([] : List (List Int)))).2).2))), (4, .gone), (5, .gone), (6, .gone)], 7⟩) hO (by kernel_rfl)).ht ?_
      obtain ⟨q17, hq18, hx6⟩ := of_bind hx6
      have hq18 := of_some2 hq18
      refine (Le.cv (s := ⟨[(0, 0)], [], [], false⟩) (own := [0]) (ps := [y15.1 = y15.1, s1.2.1 = s1.2.1, q17 = (List.set q12 (Int.toNat s1.2.1) ((List.getD q12 (Int.toNat s1.2.1) (([] : List Int), ([] : List Int), ([] : List (List Int)))).1, y15.2, ((List.getD q12 (Int.toNat s1.2.1) (([] : List Int), ([] : List Int), ([] : List (List Int)))).2).2))]) (st' := ⟨[(0, aV 0), (1, iV y15.1), (5, iV s1.2.1)], [(0, .seq (.st (.pair (.own tI) (.pair (.own tI) (.own (.own tI))))) q17)], 7⟩) hO (fun h => by cases h) (by kernel_rfl) ⟨rfl, rfl, hq18, trivial⟩).ht ?_
      obtain ⟨hg19, hx6⟩ := of_guard hx6
      obtain ⟨y20, hc21, hx6⟩ := of_bind hx6
      refine HT.regC (rs := [oH, oH, oH, oH, ⟨none, .opn⟩, oH, ⟨none, .call [.own (.sl (.own tI)), .imm tI] [⟨false, tI, y20.1⟩] [⟨(.sl (.own tI)), y20.2⟩]⟩, oH]) ⟨[(1, iV y20.1), (32, iV y20.1), (31, iV y15.1), (30, aV 9), (29, .one (.elp 0 (Int.toNat s1.2.1) 3 2)), (28, .one (.elp 0 (Int.toNat s1.2.1) 3 0)), (27, iV s1.2.1), (26, aV 0), (0, aV 0), (1, iV y15.1), (5, iV s1.2.1)], [(9, .seq (.own tI) y20.2), (0, .opn (.st (.pair (.own tI) (.pair (.own tI) (.own (.own tI))))) q17 (Int.toNat s1.2.1) [.all 7, .all 8, .all 9] [7, 8, 9]), (7, .seq tI ((List.getD q17 (Int.toNat s1.2.1) (([] : List Int), ([] : List Int), ([] : List (List Int)))).1)), (8, .seq tI (((List.getD q17 (Int.toNat s1.2.1) (([] : List Int), ([] : List Int), ([] : List (List Int)))).2).1)), (9, .seq (.own tI) (((List.getD q17 (Int.toNat s1.2.1) (([] : List Int), ([] : List Int), ([] : List (List Int)))).2).2)), (0, .seq (.st (.pair (.own tI) (.pair (.own tI) (.own (.own tI))))) q17)], 10⟩ hP hN (by kernel_rfl) (allCons hg19 (allCons (natLt hg19) (allCons (f32_ok hc21) allNil))) (Le.close (own := [0]) 0 (st' := ⟨[(1, iV y20.1), (32, iV y20.1), (31, iV y15.1), (30, aV 9), (29, .one (.elp 0 (Int.toNat s1.2.1) 3 2)), (28, .one (.elp 0 (Int.toNat s1.2.1) 3 0)), (27, iV s1.2.1), (26, aV 0), (0, aV 0), (1, iV y15.1), (5, iV s1.2.1)], [(0, .seq (.st (.pair (.own tI) (.pair (.own tI) (.own (.own tI))))) (List.set q17 (Int.toNat s1.2.1) ((List.getD q17 (Int.toNat s1.2.1) (([] : List Int), ([] : List Int), ([] : List (List Int)))).1, ((List.getD q17 (Int.toNat s1.2.1) (([] : List Int), ([] : List Int), ([] : List (List Int)))).2).1, y20.2))), (7, .gone), (8, .gone), (9, .gone)], 10⟩) hO (by kernel_rfl)) (qBlock (qThen ?_))
      have hx6 := of_some hx6
      subst hx6
      exact HT.rgK (oHs 3) [(0, 0)] [] hX (by kernel_rfl) allNil (fun _ h => (qLoopN ⟨(y20.1, (wadd .i64 s1.2.1 (1 : Int)), (List.set q17 (Int.toNat s1.2.1) ((List.getD q17 (Int.toNat s1.2.1) (([] : List Int), ([] : List Int), ([] : List (List Int)))).1, ((List.getD q17 (Int.toNat s1.2.1) (([] : List Int), ([] : List Int), ([] : List (List Int)))).2).1, y20.2))), rfl, h⟩))
    · refine HT.cond0 rfl hb8 ?_
      have hx6 := of_some hx6
      subst hx6
      exact HT.exitL (Le.re [(0, 0)] [] hX (by kernel_rfl)) (qThenE (qLoopE (hk7 (s1.1, s1.2.2) rfl)))

noncomputable def laws_heldInt64S_B1 (a0 : List Int) (s1 : Int × Int) : Option ((Int × Int) ⊕ (Int ⊕ Unit)) :=
  bif (decide (s1.2 < (lenI a0))) then
    guardP ((0 : Int) ≤ s1.2 ∧ s1.2 < lenI a0) (
      bif ((List.getD a0 (Int.toNat s1.2) (0 : Int)) != s1.1) then
        some (.inr (.inr ()))
      else
        some (.inl ((wadd .i64 s1.1 (1 : Int)), (wadd .i64 s1.2 (1 : Int)))))
  else
    some (.inr (.inl s1.1))

noncomputable def laws_heldInt64S (a0 : List Int) (a1 : Int) : Option (Int) :=
  (rounds (laws_heldInt64S_B1 a0) (a1, (0 : Int))).bind fun r2 => match r2 with
    | .inl r3 =>
      some r3
    | .inr r4 =>
      some (-1 : Int)

theorem f22_ok {a0 : List Int} {a1 : Int} {r : Int} (hr : laws_heldInt64S a0 a1 = some r) : CallOK Try.prog 22 [.imm tLI a0, .imm tI a1] [⟨false, tI, r⟩] [] := by
  unfold laws_heldInt64S at hr
  refine CallOK.of_body (ts := [(false, tI)]) Try.func22 rfl (by kernel_rfl) (Nat.le_of_ble_eq_true (by kernel_rfl)) fun cx hP hN hO hF => ?_
  have hO : cx.own.map Prod.fst = [] := hO
  have hX := CxIs.mk hP hN hO
  have hF := hF rfl
  show HT cx ⟨[(0, nV a0), (1, iV a1)], [], 0⟩ _ _
  refine HT.rg2 [oH] ⟨[(0, nV a0), (1, iV a1)], [], 0⟩ hX (by kernel_rfl) allNil ?_
  refine HT.seq ?_
  refine HT.rg2 [oH] ⟨[(0, nV a0), (1, iV a1), (5, iV (0 : Int))], [], 0⟩ hX (by kernel_rfl) allNil ?_
  refine HT.block ?_
  obtain ⟨r2, hL11, hr⟩ := of_bind hr
  refine HT.loopL (fun (s1 : Int × Int) => ⟨[(0, nV a0), (1, iV s1.1), (5, iV s1.2)], [], 0⟩) (fun (r2 : Int ⊕ Unit) => match r2 with | .inl r3 => (.exit 0, ⟨[(1, iV r3)], [], 0⟩) | .inr r4 => (.ret, ⟨[(4, iV (-1 : Int))], [], 0⟩)) (Le.re [] [] hX (by kernel_rfl)) hL11 ?_ (fun s1 x5 hx6 hk7 => ?_)
  · rcases r2 with r3 | r4
    · refine (qBlockX (qThen ?_))
      refine HT.rg2 (oHs 2) ⟨[(4, iV r3)], [], 0⟩ hX (by kernel_rfl) allNil ?_
      have hr := of_some hr
      subst hr
      exact HT.ret ⟨[iV r3], [], [], by kernel_rfl, by kernel_rfl, rfl, by kernel_rfl, by kernel_rfl, trivial⟩
    · have hr := of_some hr
      subst hr
      exact (qBlockR (qThenR ⟨[iV (-1 : Int)], [], [], by kernel_rfl, by kernel_rfl, rfl, by kernel_rfl, by kernel_rfl, trivial⟩))
  · refine HT.seq ?_
    refine HT.rg2 (oHs 4) ⟨[(0, nV a0), (1, iV s1.1), (5, iV s1.2), (9, bV (decide (s1.2 < (lenI a0))))], [], 0⟩ hX (by kernel_rfl) allNil ?_
    rcases of_bif hx6 with ⟨hb8, hx6⟩ | ⟨hb8, hx6⟩
    · refine HT.cond1 rfl hb8 ?_
      refine HT.skip (qThen ?_)
      refine HT.seq ?_
      refine HT.block ?_
      refine HT.seq ?_
      obtain ⟨hg9, hx6⟩ := of_guard hx6
      refine HT.rg2 (oHs 6) ⟨[(0, nV a0), (1, iV s1.1), (5, iV s1.2), (17, bV ((List.getD a0 (Int.toNat s1.2) (0 : Int)) != s1.1))], [], 0⟩ hX (by kernel_rfl) (allCons hg9 allNil) ?_
      rcases of_bif hx6 with ⟨hb10, hx6⟩ | ⟨hb10, hx6⟩
      · refine HT.cond1 rfl hb10 ?_
        refine HT.rg2 [oH] ⟨[(4, iV (-1 : Int))], [], 0⟩ hX (by kernel_rfl) allNil ?_
        have hx6 := of_some hx6
        subst hx6
        exact HT.retL (Le.re [] [] hX (by kernel_rfl)) (qThenR (qBlockR (qThenR (qLoopR (hk7 (.inr ()) rfl)))))
      · refine HT.cond0 rfl hb10 ?_
        refine HT.skip (qThen ?_)
        refine HT.rgL (oHs 3) ⟨[(0, nV a0), (1, iV (wadd .i64 s1.1 (1 : Int))), (5, iV s1.2)], [], 0⟩ hX (by kernel_rfl) allNil (qBlock (qThen ?_))
        have hx6 := of_some hx6
        subst hx6
        exact HT.rgK (oHs 3) [] [] hX (by kernel_rfl) allNil (fun _ h => (qLoopN ⟨((wadd .i64 s1.1 (1 : Int)), (wadd .i64 s1.2 (1 : Int))), rfl, h⟩))
    · refine HT.cond0 rfl hb8 ?_
      have hx6 := of_some hx6
      subst hx6
      exact HT.exitL (Le.re [] [] hX (by kernel_rfl)) (qThenE (qLoopE (hk7 (.inl s1.1) rfl)))

noncomputable def laws_heldInt64SS_B1 (a0 : List (List Int)) (s1 : Int × Int) : Option ((Int × Int) ⊕ (Int ⊕ Unit)) :=
  bif (decide (s1.2 < (lenI a0))) then
    guardP ((0 : Int) ≤ s1.2 ∧ s1.2 < lenI a0) (
      (laws_heldInt64S (List.getD a0 (Int.toNat s1.2) ([] : List Int)) s1.1).bind fun y10 =>
      bif (decide (y10 < (0 : Int))) then
        some (.inr (.inr ()))
      else
        some (.inl (y10, (wadd .i64 s1.2 (1 : Int)))))
  else
    some (.inr (.inl s1.1))

noncomputable def laws_heldInt64SS (a0 : List (List Int)) (a1 : Int) : Option (Int) :=
  (rounds (laws_heldInt64SS_B1 a0) (a1, (0 : Int))).bind fun r2 => match r2 with
    | .inl r3 =>
      some r3
    | .inr r4 =>
      some (-1 : Int)

theorem f33_ok {a0 : List (List Int)} {a1 : Int} {r : Int} (hr : laws_heldInt64SS a0 a1 = some r) : CallOK Try.prog 33 [.imm (.sl tLI) a0, .imm tI a1] [⟨false, tI, r⟩] [] := by
  unfold laws_heldInt64SS at hr
  refine CallOK.of_body (ts := [(false, tI)]) Try.func33 rfl (by kernel_rfl) (Nat.le_of_ble_eq_true (by kernel_rfl)) fun cx hP hN hO hF => ?_
  have hO : cx.own.map Prod.fst = [] := hO
  have hX := CxIs.mk hP hN hO
  have hF := hF rfl
  show HT cx ⟨[(0, .one (.dat (.sl tLI) a0)), (1, iV a1)], [], 0⟩ _ _
  refine HT.rg2 [oH] ⟨[(0, .one (.dat (.sl tLI) a0)), (1, iV a1)], [], 0⟩ hX (by kernel_rfl) allNil ?_
  refine HT.seq ?_
  refine HT.rg2 [oH] ⟨[(0, .one (.dat (.sl tLI) a0)), (1, iV a1), (5, iV (0 : Int))], [], 0⟩ hX (by kernel_rfl) allNil ?_
  refine HT.block ?_
  obtain ⟨r2, hL13, hr⟩ := of_bind hr
  refine HT.loopL (fun (s1 : Int × Int) => ⟨[(0, .one (.dat (.sl tLI) a0)), (1, iV s1.1), (5, iV s1.2)], [], 0⟩) (fun (r2 : Int ⊕ Unit) => match r2 with | .inl r3 => (.exit 0, ⟨[(1, iV r3)], [], 0⟩) | .inr r4 => (.ret, ⟨[(4, iV (-1 : Int))], [], 0⟩)) (Le.re [] [] hX (by kernel_rfl)) hL13 ?_ (fun s1 x5 hx6 hk7 => ?_)
  · rcases r2 with r3 | r4
    · refine (qBlockX (qThen ?_))
      refine HT.rg2 (oHs 2) ⟨[(4, iV r3)], [], 0⟩ hX (by kernel_rfl) allNil ?_
      have hr := of_some hr
      subst hr
      exact HT.ret ⟨[iV r3], [], [], by kernel_rfl, by kernel_rfl, rfl, by kernel_rfl, by kernel_rfl, trivial⟩
    · have hr := of_some hr
      subst hr
      exact (qBlockR (qThenR ⟨[iV (-1 : Int)], [], [], by kernel_rfl, by kernel_rfl, rfl, by kernel_rfl, by kernel_rfl, trivial⟩))
  · refine HT.seq ?_
    refine HT.rg2 (oHs 4) ⟨[(0, .one (.dat (.sl tLI) a0)), (1, iV s1.1), (5, iV s1.2), (9, bV (decide (s1.2 < (lenI a0))))], [], 0⟩ hX (by kernel_rfl) allNil ?_
    rcases of_bif hx6 with ⟨hb8, hx6⟩ | ⟨hb8, hx6⟩
    · refine HT.cond1 rfl hb8 ?_
      refine HT.skip (qThen ?_)
      refine HT.seq ?_
      refine HT.block ?_
      obtain ⟨hg9, hx6⟩ := of_guard hx6
      obtain ⟨y10, hc11, hx6⟩ := of_bind hx6
      refine HT.rg2 [oH, oH, oH, oH, oH, ⟨none, .call [.imm tLI, .imm tI] [⟨false, tI, y10⟩] []⟩, oH] ⟨[(0, .one (.dat (.sl tLI) a0)), (1, iV y10), (5, iV s1.2)], [], 0⟩ hX (by kernel_rfl) (allCons hg9 (allCons (f22_ok hc11) allNil)) ?_
      refine HT.rg2 (oHs 2) ⟨[(0, .one (.dat (.sl tLI) a0)), (1, iV y10), (5, iV s1.2), (19, bV (decide (y10 < (0 : Int))))], [], 0⟩ hX (by kernel_rfl) allNil ?_
      rcases of_bif hx6 with ⟨hb12, hx6⟩ | ⟨hb12, hx6⟩
      · refine HT.cond1 rfl hb12 ?_
        refine HT.rg2 [oH] ⟨[(4, iV (-1 : Int))], [], 0⟩ hX (by kernel_rfl) allNil ?_
        have hx6 := of_some hx6
        subst hx6
        exact HT.retL (Le.re [] [] hX (by kernel_rfl)) (qBlockR (qThenR (qLoopR (hk7 (.inr ()) rfl))))
      · refine HT.cond0 rfl hb12 ?_
        refine HT.skip (qBlock (qThen ?_))
        have hx6 := of_some hx6
        subst hx6
        exact HT.rgK (oHs 3) [] [] hX (by kernel_rfl) allNil (fun _ h => (qLoopN ⟨(y10, (wadd .i64 s1.2 (1 : Int))), rfl, h⟩))
    · refine HT.cond0 rfl hb8 ?_
      have hx6 := of_some hx6
      subst hx6
      exact HT.exitL (Le.re [] [] hX (by kernel_rfl)) (qThenE (qLoopE (hk7 (.inl s1.1) rfl)))

noncomputable def laws_FnExactGamesShared (a0 : List (List Int × List Int × List (List Int))) (a1 : Int) : Option (Bool) :=
  (laws_szGameS a0 (1048576 : Int)).bind fun y1 =>
  bif (decide (y1 < (0 : Int))) then
    some true
  else
    (laws_toGameS a0).bind fun y4 =>
    (spec_GamesShared y4 a1).bind fun y6 =>
    (laws_toGameS a0).bind fun y8 =>
    (impl_GamesShared y8 a1).bind fun y10 =>
    (show Option (Bool) from
      (laws_eqInt64SS y10.1 y6.1).bind fun y52 =>
      bif (!y52) then
        some true
      else
        some (y10.2 != y6.2)).bind fun v12 =>
    bif v12 then
      some false
    else
      (laws_toGameS a0).bind fun y16 =>
      (laws_eqGameS y8 y16).bind fun y18 =>
      bif (!y18) then
        some false
      else
        (laws_markGameS y8 (1 : Int)).bind fun y21 =>
        (show Option (Bool) from
          bif (decide (y21.1 < (0 : Int))) then
            some true
          else
            (laws_eqInt64SS y10.1 y6.1).bind fun y49 =>
            bif (!y49) then
              some true
            else
              some (y10.2 != y6.2)).bind fun v23 =>
        bif v23 then
          some false
        else
          (laws_markInt64SS y10.1 (1 : Int)).bind fun y27 =>
          (laws_heldInt64SS y27.2 (1 : Int)).bind fun y29 =>
          bif (decide (y29 < (0 : Int))) then
            some false
          else
            bif (y29 != y27.1) then
              some false
            else
              (laws_toGameS a0).bind fun y33 =>
              (impl_GamesShared y33 a1).bind fun y35 =>
              (show Option (Bool) from
                (laws_eqInt64SS y35.1 y6.1).bind fun y45 =>
                bif (!y45) then
                  some true
                else
                  some (y35.2 != y6.2)).bind fun v37 =>
              bif v37 then
                some false
              else
                (laws_heldInt64SS y27.2 (1 : Int)).bind fun y41 =>
                bif (decide (y41 < (0 : Int))) then
                  some false
                else
                  bif (y41 != y27.1) then
                    some false
                  else
                    some true

theorem f6_ok {a0 : List (List Int × List Int × List (List Int))} {a1 : Int} {r : Bool} (hr : laws_FnExactGamesShared a0 a1 = some r) : CallOK Try.prog 6 [.imm (.sl (.st (.pair tLI (.pair tLI (.sl tLI))))) a0, .imm tI a1] [⟨false, .bool, r⟩] [] := by
  unfold laws_FnExactGamesShared at hr
  refine CallOK.of_body (ts := [(false, .bool)]) Try.func6 rfl (by kernel_rfl) (Nat.le_of_ble_eq_true (by kernel_rfl)) fun cx hP hN hO hF => ?_
  have hO : cx.own.map Prod.fst = [] := hO
  have hX := CxIs.mk hP hN hO
  have hF := hF rfl
  show HT cx ⟨[(0, .one (.dat (.sl (.st (.pair tLI (.pair tLI (.sl tLI))))) a0)), (1, iV a1)], [], 0⟩ _ _
  refine HT.rg2 [oH] ⟨[(0, .one (.dat (.sl (.st (.pair tLI (.pair tLI (.sl tLI))))) a0)), (1, iV a1)], [], 0⟩ hX (by kernel_rfl) allNil ?_
  refine HT.rg2 [oH] ⟨[(0, .one (.dat (.sl (.st (.pair tLI (.pair tLI (.sl tLI))))) a0)), (1, iV a1), (5, iV (1048576 : Int))], [], 0⟩ hX (by kernel_rfl) allNil ?_
  obtain ⟨y1, hc2, hr⟩ := of_bind hr
  refine HT.rg2 [oH, oH, ⟨none, .call [.imm (.sl (.st (.pair tLI (.pair tLI (.sl tLI))))), .imm tI] [⟨false, tI, y1⟩] []⟩, oH] ⟨[(0, .one (.dat (.sl (.st (.pair tLI (.pair tLI (.sl tLI))))) a0)), (1, iV a1), (5, iV y1)], [], 0⟩ hX (by kernel_rfl) (allCons (f25_ok hc2) allNil) ?_
  refine HT.seq ?_
  refine HT.rg2 (oHs 2) ⟨[(0, .one (.dat (.sl (.st (.pair tLI (.pair tLI (.sl tLI))))) a0)), (1, iV a1), (20, bV (decide (y1 < (0 : Int))))], [], 0⟩ hX (by kernel_rfl) allNil ?_
  rcases of_bif hr with ⟨hb3, hr⟩ | ⟨hb3, hr⟩
  · refine HT.cond1 rfl hb3 ?_
    refine HT.rg2 [oH] ⟨[(4, bV true)], [], 0⟩ hX (by kernel_rfl) allNil ?_
    have hr := of_some hr
    subst hr
    exact HT.ret (qThenR ⟨[bV true], [], [], by kernel_rfl, by kernel_rfl, rfl, by kernel_rfl, by kernel_rfl, trivial⟩)
  · refine HT.cond0 rfl hb3 ?_
    refine HT.skip (qThen ?_)
    obtain ⟨y4, hc5, hr⟩ := of_bind hr
    obtain ⟨y6, hc7, hr⟩ := of_bind hr
    refine HT.rg2 [oH, ⟨none, .call [.imm (.sl (.st (.pair tLI (.pair tLI (.sl tLI)))))] [⟨true, (.sl (.st (.pair (.own tI) (.pair (.own tI) (.own (.own tI)))))), y4⟩] []⟩, oH, ⟨none, .call [.imm (.sl (.st (.pair tLI (.pair tLI (.sl tLI))))), .imm tI] [⟨true, (.sl (.own tI)), y6.1⟩, ⟨false, .bool, y6.2⟩] []⟩, oH, oH, oH, oH, oH] ⟨[(0, .one (.dat (.sl (.st (.pair tLI (.pair tLI (.sl tLI))))) a0)), (1, iV a1), (6, aV 1), (7, bV y6.2)], [(1, .seq (.own tI) y6.1)], 2⟩ hX (by kernel_rfl) (allCons (f27_ok hc5) (allCons (f26_ok hc7) allNil)) ?_
    obtain ⟨y8, hc9, hr⟩ := of_bind hr
    refine HT.rg2 [oH, ⟨none, .call [.imm (.sl (.st (.pair tLI (.pair tLI (.sl tLI)))))] [⟨true, (.sl (.st (.pair (.own tI) (.pair (.own tI) (.own (.own tI)))))), y8⟩] []⟩, oH] ⟨[(0, .one (.dat (.sl (.st (.pair tLI (.pair tLI (.sl tLI))))) a0)), (1, iV a1), (6, aV 1), (7, bV y6.2), (8, aV 2)], [(2, .seq (.st (.pair (.own tI) (.pair (.own tI) (.own (.own tI))))) y8), (1, .seq (.own tI) y6.1)], 3⟩ hX (by kernel_rfl) (allCons (f27_ok hc9) allNil) ?_
    obtain ⟨y10, hc11, hr⟩ := of_bind hr
    refine HT.rg2 [oH, oH, ⟨none, .call [.imm (.sl (.st (.pair tLI (.pair tLI (.sl tLI))))), .imm tI] [⟨true, (.sl (.own tI)), y10.1⟩, ⟨false, .bool, y10.2⟩] []⟩, oH, oH, oH, oH, oH] ⟨[(0, .one (.dat (.sl (.st (.pair tLI (.pair tLI (.sl tLI))))) a0)), (1, iV a1), (6, aV 1), (7, bV y6.2), (8, aV 2), (9, aV 3), (10, bV y10.2)], [(3, .seq (.own tI) y10.1), (2, .seq (.st (.pair (.own tI) (.pair (.own tI) (.own (.own tI))))) y8), (1, .seq (.own tI) y6.1)], 4⟩ hX (by kernel_rfl) (allCons (f28_ok hc11) allNil) ?_
    refine HT.seq ?_
    obtain ⟨v12', hT14, hr⟩ := of_bind hr
    refine HT.join (fun (v12 : Bool) => ⟨[(0, .one (.dat (.sl (.st (.pair tLI (.pair tLI (.sl tLI))))) a0)), (1, iV a1), (6, aV 0), (7, bV y6.2), (8, aV 1), (9, aV 2), (10, bV y10.2), (44, bV v12)], [(0, .seq (.own tI) y6.1), (1, .seq (.st (.pair (.own tI) (.pair (.own tI) (.own (.own tI))))) y8), (2, .seq (.own tI) y10.1)], 3⟩) (fun v => v = v12') (fun v12 hv13 => ?_) (fun cont => ?_)
    · subst hv13
      rcases of_bif hr with ⟨hb15, hr⟩ | ⟨hb15, hr⟩
      · refine HT.cond1 rfl hb15 ?_
        refine HT.rg2 [oH] ⟨[(4, bV false)], [], 3⟩ hX (by kernel_rfl) allNil ?_
        have hr := of_some hr
        subst hr
        exact HT.ret (qThenR ⟨[bV false], [], [], by kernel_rfl, by kernel_rfl, rfl, by kernel_rfl, by kernel_rfl, trivial⟩)
      · refine HT.cond0 rfl hb15 ?_
        refine HT.skip (qThen ?_)
        refine HT.seq ?_
        obtain ⟨y16, hc17, hr⟩ := of_bind hr
        obtain ⟨y18, hc19, hr⟩ := of_bind hr
        refine HT.rg2 [oH, oH, ⟨none, .call [.imm (.sl (.st (.pair tLI (.pair tLI (.sl tLI)))))] [⟨true, (.sl (.st (.pair (.own tI) (.pair (.own tI) (.own (.own tI)))))), y16⟩] []⟩, ⟨none, .call [.imm (.sl (.st (.pair tLI (.pair tLI (.sl tLI))))), .imm (.sl (.st (.pair tLI (.pair tLI (.sl tLI)))))] [⟨false, .bool, y18⟩] []⟩, oH] ⟨[(0, .one (.dat (.sl (.st (.pair tLI (.pair tLI (.sl tLI))))) a0)), (1, iV a1), (6, aV 0), (7, bV y6.2), (8, aV 1), (9, aV 2), (10, bV y10.2), (49, bV (!y18))], [(0, .seq (.own tI) y6.1), (1, .seq (.st (.pair (.own tI) (.pair (.own tI) (.own (.own tI))))) y8), (2, .seq (.own tI) y10.1)], 4⟩ hX (by kernel_rfl) (allCons (f27_ok hc17) (allCons (f30_ok hc19) allNil)) ?_
        rcases of_bif hr with ⟨hb20, hr⟩ | ⟨hb20, hr⟩
        · refine HT.cond1 rfl hb20 ?_
          refine HT.rg2 [oH] ⟨[(4, bV false)], [], 4⟩ hX (by kernel_rfl) allNil ?_
          have hr := of_some hr
          subst hr
          exact HT.ret (qThenR ⟨[bV false], [], [], by kernel_rfl, by kernel_rfl, rfl, by kernel_rfl, by kernel_rfl, trivial⟩)
        · refine HT.cond0 rfl hb20 ?_
          refine HT.skip (qThen ?_)
          refine HT.rg2 [oH] ⟨[(0, .one (.dat (.sl (.st (.pair tLI (.pair tLI (.sl tLI))))) a0)), (1, iV a1), (6, aV 0), (7, bV y6.2), (8, aV 1), (9, aV 2), (10, bV y10.2), (11, iV (1 : Int))], [(0, .seq (.own tI) y6.1), (1, .seq (.st (.pair (.own tI) (.pair (.own tI) (.own (.own tI))))) y8), (2, .seq (.own tI) y10.1)], 4⟩ hX (by kernel_rfl) allNil ?_
          obtain ⟨y21, hc22, hr⟩ := of_bind hr
          refine HT.rg2 [oH, oH, ⟨none, .call [.own (.sl (.st (.pair (.own tI) (.pair (.own tI) (.own (.own tI)))))), .imm tI] [⟨false, tI, y21.1⟩] [⟨(.sl (.st (.pair (.own tI) (.pair (.own tI) (.own (.own tI)))))), y21.2⟩]⟩, oH] ⟨[(0, .one (.dat (.sl (.st (.pair tLI (.pair tLI (.sl tLI))))) a0)), (1, iV a1), (6, aV 0), (7, bV y6.2), (9, aV 2), (10, bV y10.2), (11, iV y21.1)], [(0, .seq (.own tI) y6.1), (2, .seq (.own tI) y10.1)], 4⟩ hX (by kernel_rfl) (allCons (f31_ok hc22) allNil) ?_
          refine HT.seq ?_
          obtain ⟨v23', hT25, hr⟩ := of_bind hr
          refine HT.join (fun (v23 : Bool) => ⟨[(0, .one (.dat (.sl (.st (.pair tLI (.pair tLI (.sl tLI))))) a0)), (1, iV a1), (6, aV 0), (7, bV y6.2), (9, aV 1), (65, bV v23)], [(0, .seq (.own tI) y6.1), (1, .seq (.own tI) y10.1)], 2⟩) (fun v => v = v23') (fun v23 hv24 => ?_) (fun cont => ?_)
          · subst hv24
            rcases of_bif hr with ⟨hb26, hr⟩ | ⟨hb26, hr⟩
            · refine HT.cond1 rfl hb26 ?_
              refine HT.rg2 [oH] ⟨[(4, bV false)], [], 2⟩ hX (by kernel_rfl) allNil ?_
              have hr := of_some hr
              subst hr
              exact HT.ret (qThenR ⟨[bV false], [], [], by kernel_rfl, by kernel_rfl, rfl, by kernel_rfl, by kernel_rfl, trivial⟩)
            · refine HT.cond0 rfl hb26 ?_
              refine HT.skip (qThen ?_)
              refine HT.rg2 [oH] ⟨[(0, .one (.dat (.sl (.st (.pair tLI (.pair tLI (.sl tLI))))) a0)), (1, iV a1), (6, aV 0), (7, bV y6.2), (9, aV 1), (12, iV (1 : Int))], [(0, .seq (.own tI) y6.1), (1, .seq (.own tI) y10.1)], 2⟩ hX (by kernel_rfl) allNil ?_
              obtain ⟨y27, hc28, hr⟩ := of_bind hr
              refine HT.rg2 [oH, oH, ⟨none, .call [.own (.sl (.own tI)), .imm tI] [⟨false, tI, y27.1⟩] [⟨(.sl (.own tI)), y27.2⟩]⟩, oH] ⟨[(0, .one (.dat (.sl (.st (.pair tLI (.pair tLI (.sl tLI))))) a0)), (1, iV a1), (6, aV 0), (7, bV y6.2), (9, aV 1), (12, iV y27.1)], [(1, .seq (.own tI) y27.2), (0, .seq (.own tI) y6.1)], 2⟩ hX (by kernel_rfl) (allCons (f32_ok hc28) allNil) ?_
              refine HT.rg2 [oH] ⟨[(0, .one (.dat (.sl (.st (.pair tLI (.pair tLI (.sl tLI))))) a0)), (1, iV a1), (6, aV 0), (7, bV y6.2), (9, aV 1), (12, iV y27.1), (13, iV (1 : Int))], [(1, .seq (.own tI) y27.2), (0, .seq (.own tI) y6.1)], 2⟩ hX (by kernel_rfl) allNil ?_
              obtain ⟨y29, hc30, hr⟩ := of_bind hr
              refine HT.rg2 [oH, oH, ⟨none, .call [.imm (.sl tLI), .imm tI] [⟨false, tI, y29⟩] []⟩, oH] ⟨[(0, .one (.dat (.sl (.st (.pair tLI (.pair tLI (.sl tLI))))) a0)), (1, iV a1), (6, aV 0), (7, bV y6.2), (9, aV 1), (12, iV y27.1), (13, iV y29)], [(1, .seq (.own tI) y27.2), (0, .seq (.own tI) y6.1)], 2⟩ hX (by kernel_rfl) (allCons (f33_ok hc30) allNil) ?_
              refine HT.seq ?_
              refine HT.rg2 (oHs 2) ⟨[(0, .one (.dat (.sl (.st (.pair tLI (.pair tLI (.sl tLI))))) a0)), (1, iV a1), (6, aV 0), (7, bV y6.2), (9, aV 1), (12, iV y27.1), (13, iV y29), (73, bV (decide (y29 < (0 : Int))))], [(1, .seq (.own tI) y27.2), (0, .seq (.own tI) y6.1)], 2⟩ hX (by kernel_rfl) allNil ?_
              rcases of_bif hr with ⟨hb31, hr⟩ | ⟨hb31, hr⟩
              · refine HT.cond1 rfl hb31 ?_
                refine HT.rg2 [oH] ⟨[(4, bV false)], [], 2⟩ hX (by kernel_rfl) allNil ?_
                have hr := of_some hr
                subst hr
                exact HT.ret (qThenR ⟨[bV false], [], [], by kernel_rfl, by kernel_rfl, rfl, by kernel_rfl, by kernel_rfl, trivial⟩)
              · refine HT.cond0 rfl hb31 ?_
                refine HT.skip (qThen ?_)
                refine HT.seq ?_
                refine HT.rg2 (oHs 3) ⟨[(0, .one (.dat (.sl (.st (.pair tLI (.pair tLI (.sl tLI))))) a0)), (1, iV a1), (6, aV 0), (7, bV y6.2), (9, aV 1), (12, iV y27.1), (76, bV (y29 != y27.1))], [(1, .seq (.own tI) y27.2), (0, .seq (.own tI) y6.1)], 2⟩ hX (by kernel_rfl) allNil ?_
                rcases of_bif hr with ⟨hb32, hr⟩ | ⟨hb32, hr⟩
                · refine HT.cond1 rfl hb32 ?_
                  refine HT.rg2 [oH] ⟨[(4, bV false)], [], 2⟩ hX (by kernel_rfl) allNil ?_
                  have hr := of_some hr
                  subst hr
                  exact HT.ret (qThenR ⟨[bV false], [], [], by kernel_rfl, by kernel_rfl, rfl, by kernel_rfl, by kernel_rfl, trivial⟩)
                · refine HT.cond0 rfl hb32 ?_
                  refine HT.skip (qThen ?_)
                  obtain ⟨y33, hc34, hr⟩ := of_bind hr
                  obtain ⟨y35, hc36, hr⟩ := of_bind hr
                  refine HT.rg2 [oH, ⟨none, .call [.imm (.sl (.st (.pair tLI (.pair tLI (.sl tLI)))))] [⟨true, (.sl (.st (.pair (.own tI) (.pair (.own tI) (.own (.own tI)))))), y33⟩] []⟩, oH, ⟨none, .call [.imm (.sl (.st (.pair tLI (.pair tLI (.sl tLI))))), .imm tI] [⟨true, (.sl (.own tI)), y35.1⟩, ⟨false, .bool, y35.2⟩] []⟩, oH, oH, oH, oH, oH] ⟨[(6, aV 0), (7, bV y6.2), (9, aV 1), (12, iV y27.1), (14, aV 3), (15, bV y35.2)], [(3, .seq (.own tI) y35.1), (1, .seq (.own tI) y27.2), (0, .seq (.own tI) y6.1)], 4⟩ hX (by kernel_rfl) (allCons (f27_ok hc34) (allCons (f28_ok hc36) allNil)) ?_
                  refine HT.seq ?_
                  obtain ⟨v37', hT39, hr⟩ := of_bind hr
                  refine HT.join (fun (v37 : Bool) => ⟨[(9, aV 0), (12, iV y27.1), (92, bV v37)], [(0, .seq (.own tI) y27.2)], 1⟩) (fun v => v = v37') (fun v37 hv38 => ?_) (fun cont => ?_)
                  · subst hv38
                    rcases of_bif hr with ⟨hb40, hr⟩ | ⟨hb40, hr⟩
                    · refine HT.cond1 rfl hb40 ?_
                      refine HT.rg2 [oH] ⟨[(4, bV false)], [], 1⟩ hX (by kernel_rfl) allNil ?_
                      have hr := of_some hr
                      subst hr
                      exact HT.ret (qThenR ⟨[bV false], [], [], by kernel_rfl, by kernel_rfl, rfl, by kernel_rfl, by kernel_rfl, trivial⟩)
                    · refine HT.cond0 rfl hb40 ?_
                      refine HT.skip (qThen ?_)
                      refine HT.rg2 [oH] ⟨[(9, aV 0), (12, iV y27.1), (13, iV (1 : Int))], [(0, .seq (.own tI) y27.2)], 1⟩ hX (by kernel_rfl) allNil ?_
                      obtain ⟨y41, hc42, hr⟩ := of_bind hr
                      refine HT.rg2 [oH, oH, ⟨none, .call [.imm (.sl tLI), .imm tI] [⟨false, tI, y41⟩] []⟩, oH] ⟨[(12, iV y27.1), (13, iV y41)], [], 1⟩ hX (by kernel_rfl) (allCons (f33_ok hc42) allNil) ?_
                      refine HT.seq ?_
                      refine HT.rg2 (oHs 2) ⟨[(12, iV y27.1), (13, iV y41), (97, bV (decide (y41 < (0 : Int))))], [], 1⟩ hX (by kernel_rfl) allNil ?_
                      rcases of_bif hr with ⟨hb43, hr⟩ | ⟨hb43, hr⟩
                      · refine HT.cond1 rfl hb43 ?_
                        refine HT.rg2 [oH] ⟨[(4, bV false)], [], 1⟩ hX (by kernel_rfl) allNil ?_
                        have hr := of_some hr
                        subst hr
                        exact HT.ret (qThenR ⟨[bV false], [], [], by kernel_rfl, by kernel_rfl, rfl, by kernel_rfl, by kernel_rfl, trivial⟩)
                      · refine HT.cond0 rfl hb43 ?_
                        refine HT.skip (qThen ?_)
                        refine HT.seq ?_
                        refine HT.rg2 (oHs 3) ⟨[(100, bV (y41 != y27.1))], [], 1⟩ hX (by kernel_rfl) allNil ?_
                        rcases of_bif hr with ⟨hb44, hr⟩ | ⟨hb44, hr⟩
                        · refine HT.cond1 rfl hb44 ?_
                          refine HT.rg2 [oH] ⟨[(4, bV false)], [], 1⟩ hX (by kernel_rfl) allNil ?_
                          have hr := of_some hr
                          subst hr
                          exact HT.ret (qThenR ⟨[bV false], [], [], by kernel_rfl, by kernel_rfl, rfl, by kernel_rfl, by kernel_rfl, trivial⟩)
                        · refine HT.cond0 rfl hb44 ?_
                          refine HT.skip (qThen ?_)
                          refine HT.rg2 [oH] ⟨[(4, bV true)], [], 1⟩ hX (by kernel_rfl) allNil ?_
                          have hr := of_some hr
                          subst hr
                          exact HT.ret ⟨[bV true], [], [], by kernel_rfl, by kernel_rfl, rfl, by kernel_rfl, by kernel_rfl, trivial⟩
                  · obtain ⟨y45, hc46, hT39⟩ := of_bind hT39
                    rcases of_bif hT39 with ⟨hb47, hT39⟩ | ⟨hb47, hT39⟩
                    · exact HT.rgK [oH, oH, ⟨none, .call [.imm (.sl tLI), .imm (.sl tLI)] [⟨false, .bool, y45⟩] []⟩, oH, oH, ⟨some true, .no⟩, ⟨some true, .no⟩, ⟨some true, .no⟩, ⟨none, .tv true⟩] [(1, 0)] [] hX (by kernel_rfl) (allCons (f29_ok hc46) (allCons hb47 (allCons hb47 (allCons hb47 (allCons hb47 allNil))))) (fun _ h => (qThen (h.ht (cont true (of_some hT39)))))
                    · exact HT.rgK [oH, oH, ⟨none, .call [.imm (.sl tLI), .imm (.sl tLI)] [⟨false, .bool, y45⟩] []⟩, oH, oH, ⟨some false, .no⟩, ⟨some false, .no⟩, ⟨some false, .no⟩, ⟨none, .tv false⟩] [(1, 0)] [] hX (by kernel_rfl) (allCons (f29_ok hc46) (allCons hb47 (allCons hb47 (allCons hb47 (allCons hb47 allNil))))) (fun _ h => (qThen (h.ht (cont (y35.2 != y6.2) (of_some hT39)))))
          · rcases of_bif hT25 with ⟨hb48, hT25⟩ | ⟨hb48, hT25⟩
            · exact HT.rgK [oH, oH, oH, ⟨some true, .no⟩, ⟨some true, .no⟩, ⟨some true, .no⟩, ⟨some true, .no⟩, ⟨none, .tv true⟩, oH, ⟨some true, .no⟩, ⟨some true, .no⟩, ⟨some true, .no⟩, ⟨none, .tv true⟩] [(0, 0), (2, 1)] [] hX (by kernel_rfl) (allCons hb48 (allCons hb48 (allCons hb48 (allCons hb48 (allCons hb48 (allCons (rfl : true = true) (allCons (rfl : true = true) (allCons (rfl : true = true) (allCons (rfl : true = true) allNil))))))))) (fun _ h => (qThen (h.ht (cont true (of_some hT25)))))
            · obtain ⟨y49, hc50, hT25⟩ := of_bind hT25
              rcases of_bif hT25 with ⟨hb51, hT25⟩ | ⟨hb51, hT25⟩
              · exact HT.rgK [oH, oH, oH, ⟨some false, .no⟩, ⟨some false, .no⟩, ⟨some false, .call [.imm (.sl tLI), .imm (.sl tLI)] [⟨false, .bool, y49⟩] []⟩, ⟨some false, .no⟩, ⟨none, .tv false⟩, oH, ⟨some true, .no⟩, ⟨some true, .no⟩, ⟨some true, .no⟩, ⟨none, .tv true⟩] [(0, 0), (2, 1)] [] hX (by kernel_rfl) (allCons hb48 (allCons hb48 (allCons hb48 (allCons (f29_ok hc50) (allCons hb48 (allCons hb48 (allCons hb51 (allCons hb51 (allCons hb51 (allCons hb51 allNil)))))))))) (fun _ h => (qThen (h.ht (cont true (of_some hT25)))))
              · exact HT.rgK [oH, oH, oH, ⟨some false, .no⟩, ⟨some false, .no⟩, ⟨some false, .call [.imm (.sl tLI), .imm (.sl tLI)] [⟨false, .bool, y49⟩] []⟩, ⟨some false, .no⟩, ⟨none, .tv false⟩, oH, ⟨some false, .no⟩, ⟨some false, .no⟩, ⟨some false, .no⟩, ⟨none, .tv false⟩] [(0, 0), (2, 1)] [] hX (by kernel_rfl) (allCons hb48 (allCons hb48 (allCons hb48 (allCons (f29_ok hc50) (allCons hb48 (allCons hb48 (allCons hb51 (allCons hb51 (allCons hb51 (allCons hb51 allNil)))))))))) (fun _ h => (qThen (h.ht (cont (y10.2 != y6.2) (of_some hT25)))))
    · obtain ⟨y52, hc53, hT14⟩ := of_bind hT14
      rcases of_bif hT14 with ⟨hb54, hT14⟩ | ⟨hb54, hT14⟩
      · exact HT.rgK [oH, oH, ⟨none, .call [.imm (.sl tLI), .imm (.sl tLI)] [⟨false, .bool, y52⟩] []⟩, oH, oH, ⟨some true, .no⟩, ⟨some true, .no⟩, ⟨some true, .no⟩, ⟨none, .tv true⟩] [(1, 0), (2, 1), (3, 2)] [] hX (by kernel_rfl) (allCons (f29_ok hc53) (allCons hb54 (allCons hb54 (allCons hb54 (allCons hb54 allNil))))) (fun _ h => (qThen (h.ht (cont true (of_some hT14)))))
      · exact HT.rgK [oH, oH, ⟨none, .call [.imm (.sl tLI), .imm (.sl tLI)] [⟨false, .bool, y52⟩] []⟩, oH, oH, ⟨some false, .no⟩, ⟨some false, .no⟩, ⟨some false, .no⟩, ⟨none, .tv false⟩] [(1, 0), (2, 1), (3, 2)] [] hX (by kernel_rfl) (allCons (f29_ok hc53) (allCons hb54 (allCons hb54 (allCons hb54 (allCons hb54 allNil))))) (fun _ h => (qThen (h.ht (cont (y10.2 != y6.2) (of_some hT14)))))

end Go.Proofs
