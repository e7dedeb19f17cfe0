import Derived.Test.YtapgmbilojbacaaLoopsGenA
import Derived.Test.YtapgmbilojbacaaProg
set_option linter.unusedVariables false
set_option linter.unusedSimpArgs false
set_option linter.unusedSectionVars false
/-
  Functions as plain functions, and their contracts. Printed by a program.
-/
namespace Go.Proofs
open Go.Ide

noncomputable def spec_FirstLoop_B1 (a0 : Int × Int × List Int × List Bool) (s34 : Bool × Int × List Int) : Option ((Bool × Int × List Int) ⊕ ((Bool × List Int))) :=
  (show Option (Bool) from
    bif (decide (s34.2.1 ≥ (0 : Int))) then
      some (!s34.1)
    else
      some false).bind fun v40 =>
  bif v40 then
    (show Option (Bool × List Int) from
      guardP ((0 : Int) ≤ s34.2.1 ∧ s34.2.1 < lenI s34.2.2) (
        (some (List.set s34.2.2 (Int.toNat s34.2.1) (wadd .i64 (List.getD s34.2.2 (Int.toNat s34.2.1) (0 : Int)) (1 : Int)))).bind fun q48 =>
        guardP ((0 : Int) ≤ s34.2.1 ∧ s34.2.1 < lenI q48) (
          bif (!(decide ((List.getD q48 (Int.toNat s34.2.1) (0 : Int)) < a0.2.1))) then
            some ((decide ((List.getD q48 (Int.toNat s34.2.1) (0 : Int)) < a0.2.1)), (List.set q48 (Int.toNat s34.2.1) (0 : Int)))
          else
            some ((decide ((List.getD q48 (Int.toNat s34.2.1) (0 : Int)) < a0.2.1)), q48)))).bind fun v44 =>
    some (.inl (v44.1, (wsub .i64 s34.2.1 (1 : Int)), v44.2))
  else
    some (.inr (s34.1, s34.2.2))

noncomputable def spec_FirstLoop_B2 (a0 : Int × Int × List Int × List Bool) (s5 : Int) (s22 : Bool × List Int) : Option ((Bool × List Int) ⊕ (Unit ⊕ (List Int × List Int))) :=
  bif s22.1 then
    guardP ((0 : Int) ≤ s5 ∧ s5 ≤ lenI s22.2) (
      (spec_l07Reads (a0.1, a0.2.1, a0.2.2.1, a0.2.2.2) ((List.take (Int.toNat s5) (List.drop 0 s22.2)), (List.take (Int.toNat (lenI s22.2) - Int.toNat s5) (List.drop (Int.toNat s5) s22.2)))).bind fun y31 =>
      bif y31 then
        some (.inr (.inr ((List.take (Int.toNat s5) (List.drop 0 s22.2)), (List.take (Int.toNat (lenI s22.2) - Int.toNat s5) (List.drop (Int.toNat s5) s22.2)))))
      else
        (rounds (spec_FirstLoop_B1 a0) (false, (wsub .i64 (lenI s22.2) (1 : Int)), s22.2)).bind fun r36 =>
        some (.inl (r36.1, r36.2)))
  else
    some (.inr (.inl ()))

noncomputable def spec_FirstLoop_B3 (a0 : Int × Int × List Int × List Bool) (a1 : Int) (s5 : Int) (s13 : Int) : Option ((Int) ⊕ (Unit ⊕ (List Int × List Int))) :=
  bif (decide (s13 ≤ a1)) then
    guardP ((0 : Int) ≤ (wadd .i64 s5 s13) ∧ (wadd .i64 s5 s13) ≤ 4294967296) (
      (rounds (spec_FirstLoop_B2 a0 s5) (true, (List.replicate (Int.toNat (wadd .i64 s5 s13)) (0 : Int)))).bind fun r23 => match r23 with
        | .inl r24 =>
          some (.inl (wadd .i64 s13 (1 : Int)))
        | .inr r25 =>
          some (.inr (.inr (r25.1, r25.2))))
  else
    some (.inr (.inl ()))

noncomputable def spec_FirstLoop_B4 (a0 : Int × Int × List Int × List Bool) (a1 : Int) (s5 : Int) : Option ((Int) ⊕ (Unit ⊕ (List Int × List Int))) :=
  bif (decide (s5 ≤ a1)) then
    (rounds (spec_FirstLoop_B3 a0 a1 s5) (1 : Int)).bind fun r14 => match r14 with
      | .inl r15 =>
        some (.inl (wadd .i64 s5 (1 : Int)))
      | .inr r16 =>
        some (.inr (.inr (r16.1, r16.2)))
  else
    some (.inr (.inl ()))

noncomputable def spec_FirstLoop (a0 : Int × Int × List Int × List Bool) (a1 : Int) : Option ((List Int × List Int) × Bool) :=
  (show Option (Bool) from
    (spec_l02Plain (a0.1, a0.2.1, a0.2.2.1, a0.2.2.2)).bind fun y57 =>
    bif (!y57) then
      some true
    else
      (spec_l00In a1 (1 : Int) (3 : Int)).bind fun y60 =>
      some (!y60)).bind fun v1 =>
  bif v1 then
    some ((([] : List Int), ([] : List Int)), false)
  else
    (rounds (spec_FirstLoop_B4 a0 a1) (0 : Int)).bind fun r6 => match r6 with
      | .inl r7 =>
        some ((([] : List Int), ([] : List Int)), false)
      | .inr r8 =>
        some ((r8.1, r8.2), true)

theorem f45_ok {a0 : Int × Int × List Int × List Bool} {a1 : Int} {r : (List Int × List Int) × Bool} (hr : spec_FirstLoop a0 a1 = some r) : CallOK Try.prog 45 [.imm (.st (.pair tI (.pair tI (.pair tLI (.sl .bool))))) a0, .imm tI a1] [⟨false, (.st (.pair tLI tLI)), r.1⟩, ⟨false, .bool, r.2⟩] [] := by
  unfold spec_FirstLoop at hr
  refine CallOK.of_body (ts := [(false, (.st (.pair tLI tLI))), (false, .bool)]) Try.func45 rfl (by kernel_rfl) (Nat.le_of_ble_eq_true (by kernel_rfl)) fun cx hP hN hO hF => ?_
  have hO : cx.own.map Prod.fst = [] := hO
  have hX := CxIs.mk hP hN hO
  have hF := hF rfl
  show HT cx ⟨[(0, .agg [iC a0.1, iC a0.2.1, nC a0.2.2.1, .dat (.sl .bool) a0.2.2.2]), (1, iV a1)], [], 0⟩ _ _
  refine HT.rg2 (oHs 3) ⟨[(1, iV a1), (2, pV 0 0), (4, pV 1 0)], [(1, .box [.nilS, .nilS]), (0, .box [iC a0.1, iC a0.2.1, nC a0.2.2.1, .dat (.sl .bool) a0.2.2.2])], 2⟩ hX (by kernel_rfl) allNil ?_
  refine HT.seq ?_
  obtain ⟨v1', hT3, hr⟩ := of_bind hr
  refine HT.join (fun (v1 : Bool) => ⟨[(1, iV a1), (2, pV 0 0), (4, pV 1 0), (18, bV v1)], [(0, .box [iC a0.1, iC a0.2.1, nC a0.2.2.1, .dat (.sl .bool) a0.2.2.2]), (1, .box [.nilS, .nilS])], 2⟩) (fun v => v = v1') (fun v1 hv2 => ?_) (fun cont => ?_)
  · subst hv2
    rcases of_bif hr with ⟨hb4, hr⟩ | ⟨hb4, hr⟩
    · refine HT.cond1 rfl hb4 ?_
      refine HT.rg2 (oHs 3) ⟨[(4, pV 1 0), (5, bV false)], [(1, .box [.nilS, .nilS])], 2⟩ hX (by kernel_rfl) allNil ?_
      have hr := of_some hr
      subst hr
      exact HT.ret (qThenR ⟨[.agg [.nilS, .nilS], bV false], [], [], by kernel_rfl, by kernel_rfl, rfl, by kernel_rfl, by kernel_rfl, trivial⟩)
    · refine HT.cond0 rfl hb4 ?_
      refine HT.skip (qThen ?_)
      refine HT.seq ?_
      refine HT.rg2 [oH] ⟨[(1, iV a1), (2, pV 0 0), (4, pV 1 0), (6, iV (0 : Int))], [(0, .box [iC a0.1, iC a0.2.1, nC a0.2.2.1, .dat (.sl .bool) a0.2.2.2]), (1, .box [.nilS, .nilS])], 2⟩ hX (by kernel_rfl) allNil ?_
      refine HT.block ?_
      obtain ⟨r6, hL56, hr⟩ := of_bind hr
      refine HT.loopL (fun (s5 : Int) => ⟨[(1, iV a1), (2, pV 0 0), (4, pV 1 0), (6, iV s5)], [(0, .box [iC a0.1, iC a0.2.1, nC a0.2.2.1, .dat (.sl .bool) a0.2.2.2]), (1, .box [.nilS, .nilS])], 2⟩) (fun (r6 : Unit ⊕ (List Int × List Int)) => match r6 with | .inl r7 => (.exit 0, ⟨[(4, pV 0 0)], [(0, .box [.nilS, .nilS])], 1⟩) | .inr r8 => (.ret, ⟨[(4, pV 0 0), (5, bV true)], [(0, .box [nC r8.1, nC r8.2])], 1⟩)) (Le.re [(0, 0), (1, 1)] [] hX (by kernel_rfl)) hL56 ?_ (fun s5 x9 hx10 hk11 => ?_)
      · rcases r6 with r7 | r8
        · refine (qBlockX (qThen ?_))
          refine HT.rg2 (oHs 3) ⟨[(4, pV 0 0), (5, bV false)], [(0, .box [.nilS, .nilS])], 1⟩ hX (by kernel_rfl) allNil ?_
          have hr := of_some hr
          subst hr
          exact HT.ret ⟨[.agg [.nilS, .nilS], bV false], [], [], by kernel_rfl, by kernel_rfl, rfl, by kernel_rfl, by kernel_rfl, trivial⟩
        · have hr := of_some hr
          subst hr
          exact (qBlockR (qThenR ⟨[.agg [nC r8.1, nC r8.2], bV true], [], [], by kernel_rfl, by kernel_rfl, rfl, by kernel_rfl, by kernel_rfl, trivial⟩))
      · refine HT.seq ?_
        refine HT.rg2 (oHs 3) ⟨[(1, iV a1), (2, pV 0 0), (4, pV 1 0), (6, iV s5), (22, bV (decide (s5 ≤ a1)))], [(0, .box [iC a0.1, iC a0.2.1, nC a0.2.2.1, .dat (.sl .bool) a0.2.2.2]), (1, .box [.nilS, .nilS])], 2⟩ hX (by kernel_rfl) allNil ?_
        rcases of_bif hx10 with ⟨hb12, hx10⟩ | ⟨hb12, hx10⟩
        · refine HT.cond1 rfl hb12 ?_
          refine HT.skip (qThen ?_)
          refine HT.seq ?_
          refine HT.block ?_
          refine HT.rg2 [oH] ⟨[(1, iV a1), (2, pV 0 0), (4, pV 1 0), (6, iV s5), (7, iV (1 : Int))], [(0, .box [iC a0.1, iC a0.2.1, nC a0.2.2.1, .dat (.sl .bool) a0.2.2.2]), (1, .box [.nilS, .nilS])], 2⟩ hX (by kernel_rfl) allNil ?_
          refine HT.block ?_
          obtain ⟨r14, hL55, hx10⟩ := of_bind hx10
          refine HT.loopL (fun (s13 : Int) => ⟨[(1, iV a1), (2, pV 0 0), (4, pV 1 0), (6, iV s5), (7, iV s13)], [(0, .box [iC a0.1, iC a0.2.1, nC a0.2.2.1, .dat (.sl .bool) a0.2.2.2]), (1, .box [.nilS, .nilS])], 2⟩) (fun (r14 : Unit ⊕ (List Int × List Int)) => match r14 with | .inl r15 => (.exit 2, ⟨[(1, iV a1), (2, pV 0 0), (4, pV 1 0), (6, iV s5)], [(0, .box [iC a0.1, iC a0.2.1, nC a0.2.2.1, .dat (.sl .bool) a0.2.2.2]), (1, .box [.nilS, .nilS])], 2⟩) | .inr r16 => (.ret, ⟨[(4, pV 0 0), (5, bV true)], [(0, .box [nC r16.1, nC r16.2])], 1⟩)) (Le.re [(0, 0), (1, 1)] [] hX (by kernel_rfl)) hL55 ?_ (fun s13 x17 hx18 hk19 => ?_)
          · rcases r14 with r15 | r16
            · refine (qBlockX (qBlock (qThen ?_)))
              have hx10 := of_some hx10
              subst hx10
              exact HT.rgK (oHs 3) [(0, 0), (1, 1)] [] hX (by kernel_rfl) allNil (fun _ h => (qLoopN ⟨(wadd .i64 s5 (1 : Int)), rfl, h⟩))
            · have hx10 := of_some hx10
              subst hx10
              exact (qBlockR (qBlockR (qThenR (qLoopR (hk11 (.inr (r16.1, r16.2)) rfl)))))
          · refine HT.seq ?_
            refine HT.rg2 (oHs 3) ⟨[(1, iV a1), (2, pV 0 0), (4, pV 1 0), (6, iV s5), (7, iV s13), (27, bV (decide (s13 ≤ a1)))], [(0, .box [iC a0.1, iC a0.2.1, nC a0.2.2.1, .dat (.sl .bool) a0.2.2.2]), (1, .box [.nilS, .nilS])], 2⟩ hX (by kernel_rfl) allNil ?_
            rcases of_bif hx18 with ⟨hb20, hx18⟩ | ⟨hb20, hx18⟩
            · refine HT.cond1 rfl hb20 ?_
              refine HT.skip (qThen ?_)
              refine HT.seq ?_
              refine HT.block ?_
              obtain ⟨hg21, hx18⟩ := of_guard hx18
              refine HT.rg2 [oH, oH, oH, ⟨none, .ty tI⟩, oH] ⟨[(1, iV a1), (2, pV 0 0), (4, pV 1 0), (6, iV s5), (7, iV s13), (8, aV 2)], [(2, .seq tI (List.replicate (Int.toNat (wadd .i64 s5 s13)) (0 : Int))), (0, .box [iC a0.1, iC a0.2.1, nC a0.2.2.1, .dat (.sl .bool) a0.2.2.2]), (1, .box [.nilS, .nilS])], 3⟩ hX (by kernel_rfl) (allCons (show (0 : Int) ≤ (wadd .i64 s5 s13) ∧ (wadd .i64 s5 s13) ≤ (wadd .i64 s5 s13) ∧ (wadd .i64 s5 s13) ≤ 4294967296 from ⟨hg21.1, Int.le_refl _, hg21.2⟩) allNil) ?_
              refine HT.rg2 [oH] ⟨[(1, iV a1), (2, pV 0 0), (4, pV 1 0), (6, iV s5), (7, iV s13), (8, aV 2), (9, bV true)], [(2, .seq tI (List.replicate (Int.toNat (wadd .i64 s5 s13)) (0 : Int))), (0, .box [iC a0.1, iC a0.2.1, nC a0.2.2.1, .dat (.sl .bool) a0.2.2.2]), (1, .box [.nilS, .nilS])], 3⟩ hX (by kernel_rfl) allNil ?_
              refine HT.block ?_
              obtain ⟨r23, hL54, hx18⟩ := of_bind hx18
              refine HT.loopL (fun (s22 : Bool × List Int) => ⟨[(1, iV a1), (2, pV 0 0), (4, pV 1 0), (6, iV s5), (7, iV s13), (8, aV 2), (9, bV s22.1)], [(0, .box [iC a0.1, iC a0.2.1, nC a0.2.2.1, .dat (.sl .bool) a0.2.2.2]), (1, .box [.nilS, .nilS]), (2, .seq tI s22.2)], 3⟩) (fun (r23 : Unit ⊕ (List Int × List Int)) => match r23 with | .inl r24 => (.exit 4, ⟨[(1, iV a1), (2, pV 0 0), (4, pV 1 0), (6, iV s5), (7, iV s13)], [(0, .box [iC a0.1, iC a0.2.1, nC a0.2.2.1, .dat (.sl .bool) a0.2.2.2]), (1, .box [.nilS, .nilS])], 2⟩) | .inr r25 => (.ret, ⟨[(4, pV 0 0), (5, bV true)], [(0, .box [nC r25.1, nC r25.2])], 1⟩)) (Le.re [(0, 0), (1, 1), (2, 2)] [] hX (by kernel_rfl)) hL54 ?_ (fun s22 x26 hx27 hk28 => ?_)
              · rcases r23 with r24 | r25
                · refine (qBlockX (qBlock (qThen ?_)))
                  have hx18 := of_some hx18
                  subst hx18
                  exact HT.rgK (oHs 3) [(0, 0), (1, 1)] [] hX (by kernel_rfl) allNil (fun _ h => (qLoopN ⟨(wadd .i64 s13 (1 : Int)), rfl, h⟩))
                · have hx18 := of_some hx18
                  subst hx18
                  exact (qBlockR (qBlockR (qThenR (qLoopR (hk19 (.inr (r25.1, r25.2)) rfl)))))
              · refine HT.seq ?_
                refine HT.rg2 [oH] ⟨[(1, iV a1), (2, pV 0 0), (4, pV 1 0), (6, iV s5), (7, iV s13), (8, aV 2), (34, bV s22.1)], [(0, .box [iC a0.1, iC a0.2.1, nC a0.2.2.1, .dat (.sl .bool) a0.2.2.2]), (1, .box [.nilS, .nilS]), (2, .seq tI s22.2)], 3⟩ hX (by kernel_rfl) allNil ?_
                rcases of_bif hx27 with ⟨hb29, hx27⟩ | ⟨hb29, hx27⟩
                · refine HT.cond1 rfl hb29 ?_
                  refine HT.skip (qThen ?_)
                  refine HT.block ?_
                  obtain ⟨hg30, hx27⟩ := of_guard hx27
                  refine HT.dr2 8 [⟨oH, []⟩, ⟨oH, []⟩, ⟨oH, [0, 1]⟩, ⟨oH, []⟩, ⟨oH, []⟩, ⟨oH, [3, 4]⟩, ⟨oH, [0, 1, 2, 3, 4, 5]⟩, ⟨oH, []⟩] [[0, 1, 2, 3, 4, 5, 6, 7]] [oH] ⟨[(1, iV a1), (2, pV 0 0), (4, pV 1 0), (6, iV s5), (7, iV s13), (8, aV 2), (10, pV 3 0)], [(3, .box [.ref 2 0 (Int.toNat s5), .ref 2 (Int.toNat s5) (Int.toNat (lenI s22.2) - Int.toNat s5)]), (0, .box [iC a0.1, iC a0.2.1, nC a0.2.2.1, .dat (.sl .bool) a0.2.2.2]), (1, .box [.nilS, .nilS]), (2, .seq tI s22.2)], 4⟩ hX (by kernel_rfl) (by kernel_rfl) (allCons (show (0 : Int) ≤ 0 ∧ (0 : Int) ≤ s5 ∧ s5 ≤ lenI s22.2 from ⟨Int.le_refl _, hg30.1, hg30.2⟩) (allCons (show (0 : Int) ≤ s5 ∧ s5 ≤ lenI s22.2 ∧ lenI s22.2 ≤ lenI s22.2 from ⟨hg30.1, hg30.2, Int.le_refl _⟩) allNil)) ?_
                  refine HT.seq ?_
                  obtain ⟨y31, hc32, hx27⟩ := of_bind hx27
                  refine HT.rg2 [⟨none, .call [.pimm (.st (.pair tI (.pair tI (.pair tLI (.sl .bool))))), .pimm (.st (.pair tLI tLI))] [⟨false, .bool, y31⟩] []⟩] ⟨[(1, iV a1), (2, pV 0 0), (4, pV 1 0), (6, iV s5), (7, iV s13), (8, aV 2), (10, pV 3 0), (42, bV y31)], [(3, .box [.ref 2 0 (Int.toNat s5), .ref 2 (Int.toNat s5) (Int.toNat (lenI s22.2) - Int.toNat s5)]), (0, .box [iC a0.1, iC a0.2.1, nC a0.2.2.1, .dat (.sl .bool) a0.2.2.2]), (1, .box [.nilS, .nilS]), (2, .seq tI s22.2)], 4⟩ hX (by kernel_rfl) (allCons (f124_ok hc32) allNil) ?_
                  rcases of_bif hx27 with ⟨hb33, hx27⟩ | ⟨hb33, hx27⟩
                  · refine HT.cond1 rfl hb33 ?_
                    refine HT.rg2 (oHs 3) ⟨[(4, pV 1 0), (5, bV true)], [(1, .box [.ref 2 0 (Int.toNat s5), .ref 2 (Int.toNat s5) (Int.toNat (lenI s22.2) - Int.toNat s5)]), (2, .seq tI s22.2)], 4⟩ hX (by kernel_rfl) allNil ?_
                    have hx27 := of_some hx27
                    subst hx27
                    exact HT.retL (Le.rz [(1, 0)] [] hX hF (by kernel_rfl)) (qThenR (qBlockR (qLoopR (hk28 (.inr ((List.take (Int.toNat s5) (List.drop 0 s22.2)), (List.take (Int.toNat (lenI s22.2) - Int.toNat s5) (List.drop (Int.toNat s5) s22.2)))) rfl))))
                  · refine HT.cond0 rfl hb33 ?_
                    refine HT.skip (qThen ?_)
                    refine HT.rg2 [oH] ⟨[(1, iV a1), (2, pV 0 0), (4, pV 1 0), (6, iV s5), (7, iV s13), (8, aV 2), (9, bV false)], [(0, .box [iC a0.1, iC a0.2.1, nC a0.2.2.1, .dat (.sl .bool) a0.2.2.2]), (1, .box [.nilS, .nilS]), (2, .seq tI s22.2)], 4⟩ hX (by kernel_rfl) allNil ?_
                    refine HT.rg2 (oHs 4) ⟨[(1, iV a1), (2, pV 0 0), (4, pV 1 0), (6, iV s5), (7, iV s13), (8, aV 2), (9, bV false), (11, iV (wsub .i64 (lenI s22.2) (1 : Int)))], [(0, .box [iC a0.1, iC a0.2.1, nC a0.2.2.1, .dat (.sl .bool) a0.2.2.2]), (1, .box [.nilS, .nilS]), (2, .seq tI s22.2)], 4⟩ hX (by kernel_rfl) allNil ?_
                    refine HT.block ?_
                    obtain ⟨r35, hL53, hx27⟩ := of_bind hx27
                    refine HT.loopL (fun (s34 : Bool × Int × List Int) => ⟨[(1, iV a1), (2, pV 0 0), (4, pV 1 0), (6, iV s5), (7, iV s13), (8, aV 2), (9, bV s34.1), (11, iV s34.2.1)], [(0, .box [iC a0.1, iC a0.2.1, nC a0.2.2.1, .dat (.sl .bool) a0.2.2.2]), (1, .box [.nilS, .nilS]), (2, .seq tI s34.2.2)], 3⟩) (fun (r36 : (Bool × List Int)) => (.exit 6, ⟨[(1, iV a1), (2, pV 0 0), (4, pV 1 0), (6, iV s5), (7, iV s13), (8, aV 2), (9, bV r36.1)], [(0, .box [iC a0.1, iC a0.2.1, nC a0.2.2.1, .dat (.sl .bool) a0.2.2.2]), (1, .box [.nilS, .nilS]), (2, .seq tI r36.2)], 3⟩)) (Le.re [(0, 0), (1, 1), (2, 2)] [] hX (by kernel_rfl)) hL53 ?_ (fun s34 x37 hx38 hk39 => ?_)
                    · have hx27 := of_some hx27
                      subst hx27
                      refine (qBlockX (qBlock (qLoopN ⟨(r35.1, r35.2), rfl, Le.re [(0, 0), (1, 1), (2, 2)] [] hX (by kernel_rfl)⟩)))
                    · refine HT.seq ?_
                      obtain ⟨v40', hT42, hx38⟩ := of_bind hx38
                      refine HT.join (fun (v40 : Bool) => ⟨[(1, iV a1), (2, pV 0 0), (4, pV 1 0), (6, iV s5), (7, iV s13), (8, aV 2), (9, bV s34.1), (11, iV s34.2.1), (52, bV v40)], [(0, .box [iC a0.1, iC a0.2.1, nC a0.2.2.1, .dat (.sl .bool) a0.2.2.2]), (1, .box [.nilS, .nilS]), (2, .seq tI s34.2.2)], 3⟩) (fun v => v = v40') (fun v40 hv41 => ?_) (fun cont => ?_)
                      · subst hv41
                        rcases of_bif hx38 with ⟨hb43, hx38⟩ | ⟨hb43, hx38⟩
                        · refine HT.cond1 rfl hb43 ?_
                          refine HT.skip (qThen ?_)
                          obtain ⟨v44', hT46, hx38⟩ := of_bind hx38
                          refine HT.join (fun (v44 : Bool × List Int) => ⟨[(1, iV a1), (2, pV 0 0), (4, pV 1 0), (6, iV s5), (7, iV s13), (8, aV 2), (9, bV v44.1), (11, iV s34.2.1)], [(0, .box [iC a0.1, iC a0.2.1, nC a0.2.2.1, .dat (.sl .bool) a0.2.2.2]), (1, .box [.nilS, .nilS]), (2, .seq tI v44.2)], 3⟩) (fun v => v = v44') (fun v44 hv45 => ?_) (fun cont => ?_)
                          · subst hv45
                            have hx38 := of_some hx38
                            subst hx38
                            exact HT.rgK (oHs 3) [(0, 0), (1, 1), (2, 2)] [] hX (by kernel_rfl) allNil (fun _ h => (qLoopN ⟨(v44.1, (wsub .i64 s34.2.1 (1 : Int)), v44.2), rfl, h⟩))
                          · refine HT.block ?_
                            obtain ⟨hg47, hT46⟩ := of_guard hT46
                            refine HT.rg2 (oHs 7) ⟨[(1, iV a1), (2, pV 0 0), (4, pV 1 0), (6, iV s5), (7, iV s13), (8, aV 2), (11, iV s34.2.1)], [(2, .seq tI (List.set s34.2.2 (Int.toNat s34.2.1) (wadd .i64 (List.getD s34.2.2 (Int.toNat s34.2.1) (0 : Int)) (1 : Int)))), (0, .box [iC a0.1, iC a0.2.1, nC a0.2.2.1, .dat (.sl .bool) a0.2.2.2]), (1, .box [.nilS, .nilS])], 3⟩ hX (by kernel_rfl) (allCons hg47 (allCons (natLt hg47) (allCons hg47 (allCons (natLt hg47) allNil)))) ?_
                            obtain ⟨q48, hq49, hT46⟩ := of_bind hT46
                            have hq49 := of_some2 hq49
                            refine (Le.cv (s := ⟨[(2, 2), (0, 0), (1, 1)], [], [], false⟩) (own := []) (ps := [a1 = a1, s5 = s5, s13 = s13, s34.2.1 = s34.2.1, q48 = (List.set s34.2.2 (Int.toNat s34.2.1) (wadd .i64 (List.getD s34.2.2 (Int.toNat s34.2.1) (0 : Int)) (1 : Int))), a0.1 = a0.1, a0.2.1 = a0.2.1, a0.2.2.1 = a0.2.2.1, a0.2.2.2 = a0.2.2.2]) (st' := ⟨[(1, iV a1), (2, pV 0 0), (4, pV 1 0), (6, iV s5), (7, iV s13), (8, aV 2), (11, iV s34.2.1)], [(2, .seq tI q48), (0, .box [iC a0.1, iC a0.2.1, nC a0.2.2.1, .dat (.sl .bool) a0.2.2.2]), (1, .box [.nilS, .nilS])], 3⟩) hO (fun h => by cases h) (by kernel_rfl) ⟨rfl, rfl, rfl, rfl, hq49, rfl, rfl, rfl, rfl, trivial⟩).ht ?_
                            obtain ⟨hg50, hT46⟩ := of_guard hT46
                            refine HT.dr2 6 [⟨oH, []⟩, ⟨oH, []⟩, ⟨oH, [0, 1]⟩, ⟨oH, [0, 1, 2]⟩, ⟨oH, []⟩, ⟨oH, [4]⟩] [[0, 1, 2, 3, 4, 5], [0, 1, 2, 3, 4, 5, 6]] (oHs 2) ⟨[(1, iV a1), (2, pV 0 0), (4, pV 1 0), (6, iV s5), (7, iV s13), (8, aV 2), (9, bV (decide ((List.getD q48 (Int.toNat s34.2.1) (0 : Int)) < a0.2.1))), (11, iV s34.2.1)], [(2, .seq tI q48), (0, .box [iC a0.1, iC a0.2.1, nC a0.2.2.1, .dat (.sl .bool) a0.2.2.2]), (1, .box [.nilS, .nilS])], 3⟩ hX (by kernel_rfl) (by kernel_rfl) (allCons hg50 (allCons (natLt hg50) allNil)) ?_
                            refine HT.rg2 (oHs 2) ⟨[(1, iV a1), (2, pV 0 0), (4, pV 1 0), (6, iV s5), (7, iV s13), (8, aV 2), (9, bV (decide ((List.getD q48 (Int.toNat s34.2.1) (0 : Int)) < a0.2.1))), (11, iV s34.2.1), (69, bV (!(decide ((List.getD q48 (Int.toNat s34.2.1) (0 : Int)) < a0.2.1))))], [(2, .seq tI q48), (0, .box [iC a0.1, iC a0.2.1, nC a0.2.2.1, .dat (.sl .bool) a0.2.2.2]), (1, .box [.nilS, .nilS])], 3⟩ hX (by kernel_rfl) allNil ?_
                            rcases of_bif hT46 with ⟨hb51, hT46⟩ | ⟨hb51, hT46⟩
                            · refine HT.cond1 rfl hb51 ?_
                              exact HT.rgK (oHs 4) [(0, 0), (1, 1), (2, 2)] [] hX (by kernel_rfl) (allCons hg50 (allCons (natLt hg50) allNil)) (fun _ h => (qBlock (qThen (h.ht (cont ((decide ((List.getD q48 (Int.toNat s34.2.1) (0 : Int)) < a0.2.1)), (List.set q48 (Int.toNat s34.2.1) (0 : Int))) (of_some hT46))))))
                            · refine HT.cond0 rfl hb51 ?_
                              refine HT.skip (qBlock (qThen ?_))
                              exact (Le.re [(0, 0), (1, 1), (2, 2)] [] hX (by kernel_rfl)).ht (cont ((decide ((List.getD q48 (Int.toNat s34.2.1) (0 : Int)) < a0.2.1)), q48) (of_some hT46))
                        · refine HT.cond0 rfl hb43 ?_
                          have hx38 := of_some hx38
                          subst hx38
                          exact HT.exitL (Le.re [(0, 0), (1, 1), (2, 2)] [] hX (by kernel_rfl)) (qThenE (qLoopE (hk39 (s34.1, s34.2.2) rfl)))
                      · rcases of_bif hT42 with ⟨hb52, hT42⟩ | ⟨hb52, hT42⟩
                        · exact HT.rgK [oH, oH, oH, ⟨some true, .no⟩, ⟨some true, .no⟩, ⟨none, .tv true⟩] [(0, 0), (1, 1), (2, 2)] [] hX (by kernel_rfl) (allCons hb52 (allCons hb52 (allCons hb52 allNil))) (fun _ h => (qThen (h.ht (cont (!s34.1) (of_some hT42)))))
                        · exact HT.rgK [oH, oH, oH, ⟨some false, .no⟩, ⟨some false, .no⟩, ⟨none, .tv false⟩] [(0, 0), (1, 1), (2, 2)] [] hX (by kernel_rfl) (allCons hb52 (allCons hb52 (allCons hb52 allNil))) (fun _ h => (qThen (h.ht (cont false (of_some hT42)))))
                · refine HT.cond0 rfl hb29 ?_
                  have hx27 := of_some hx27
                  subst hx27
                  exact HT.exitL (Le.re [(0, 0), (1, 1)] [] hX (by kernel_rfl)) (qThenE (qLoopE (hk28 (.inl ()) rfl)))
            · refine HT.cond0 rfl hb20 ?_
              have hx18 := of_some hx18
              subst hx18
              exact HT.exitL (Le.re [(0, 0), (1, 1)] [] hX (by kernel_rfl)) (qThenE (qLoopE (hk19 (.inl ()) rfl)))
        · refine HT.cond0 rfl hb12 ?_
          have hx10 := of_some hx10
          subst hx10
          exact HT.exitL (Le.re [(1, 0)] [] hX (by kernel_rfl)) (qThenE (qLoopE (hk11 (.inl ()) rfl)))
  · obtain ⟨y57, hc58, hT3⟩ := of_bind hT3
    rcases of_bif hT3 with ⟨hb59, hT3⟩ | ⟨hb59, hT3⟩
    · exact HT.rgK [⟨none, .call [.pimm (.st (.pair tI (.pair tI (.pair tLI (.sl .bool)))))] [⟨false, .bool, y57⟩] []⟩, oH, oH, ⟨some true, .no⟩, ⟨some true, .no⟩, ⟨some true, .no⟩, ⟨none, .tv true⟩] [(0, 0), (1, 1)] [] hX (by kernel_rfl) (allCons (f123_ok hc58) (allCons hb59 (allCons hb59 (allCons hb59 (allCons hb59 allNil))))) (fun _ h => (qThen (h.ht (cont true (of_some hT3)))))
    · obtain ⟨y60, hc61, hT3⟩ := of_bind hT3
      exact HT.rgK [⟨none, .call [.pimm (.st (.pair tI (.pair tI (.pair tLI (.sl .bool)))))] [⟨false, .bool, y57⟩] []⟩, oH, oH, ⟨some false, .no⟩, ⟨some false, .call [.imm tI, .imm tI, .imm tI] [⟨false, .bool, y60⟩] []⟩, ⟨some false, .no⟩, ⟨none, .tv false⟩] [(0, 0), (1, 1)] [] hX (by kernel_rfl) (allCons (f123_ok hc58) (allCons hb59 (allCons hb59 (allCons (f114_ok hc61) (allCons hb59 (allCons hb59 allNil)))))) (fun _ h => (qThen (h.ht (cont (!y60) (of_some hT3)))))

noncomputable def laws_b10Ints_B1 (a0 : List Int) (a1 : List Int) (s2 : Int) : Option ((Int) ⊕ (Unit ⊕ Unit)) :=
  bif (decide (s2 < (lenI a0))) then
    guardP ((0 : Int) ≤ s2 ∧ s2 < lenI a0) (
      guardP ((0 : Int) ≤ s2 ∧ s2 < lenI a1) (
        bif ((List.getD a0 (Int.toNat s2) (0 : Int)) != (List.getD a1 (Int.toNat s2) (0 : Int))) then
          some (.inr (.inr ()))
        else
          some (.inl (wadd .i64 s2 (1 : Int)))))
  else
    some (.inr (.inl ()))

noncomputable def laws_b10Ints (a0 : List Int) (a1 : List Int) : Option (Bool) :=
  bif ((lenI a0) != (lenI a1)) then
    some false
  else
    (rounds (laws_b10Ints_B1 a0 a1) (0 : Int)).bind fun r3 => match r3 with
      | .inl r4 =>
        some true
      | .inr r5 =>
        some false

theorem f38_ok {a0 : List Int} {a1 : List Int} {r : Bool} (hr : laws_b10Ints a0 a1 = some r) : CallOK Try.prog 38 [.imm tLI a0, .imm tLI a1] [⟨false, .bool, r⟩] [] := by
  unfold laws_b10Ints at hr
  refine CallOK.of_body (ts := [(false, .bool)]) Try.func38 rfl (by kernel_rfl) (Nat.le_of_ble_eq_true (by kernel_rfl)) fun cx hP hN hO hF => ?_
  have hO : cx.own.map Prod.fst = [] := hO
  have hX := CxIs.mk hP hN hO
  have hF := hF rfl
  show HT cx ⟨[(0, nV a0), (1, nV a1)], [], 0⟩ _ _
  refine HT.rg2 [oH] ⟨[(0, nV a0), (1, nV a1)], [], 0⟩ hX (by kernel_rfl) allNil ?_
  refine HT.seq ?_
  refine HT.rg2 (oHs 5) ⟨[(0, nV a0), (1, nV a1), (10, bV ((lenI a0) != (lenI a1)))], [], 0⟩ hX (by kernel_rfl) allNil ?_
  rcases of_bif hr with ⟨hb1, hr⟩ | ⟨hb1, hr⟩
  · refine HT.cond1 rfl hb1 ?_
    refine HT.rg2 [oH] ⟨[(4, bV false)], [], 0⟩ hX (by kernel_rfl) allNil ?_
    have hr := of_some hr
    subst hr
    exact HT.ret (qThenR ⟨[bV false], [], [], by kernel_rfl, by kernel_rfl, rfl, by kernel_rfl, by kernel_rfl, trivial⟩)
  · refine HT.cond0 rfl hb1 ?_
    refine HT.skip (qThen ?_)
    refine HT.seq ?_
    refine HT.rg2 (oHs 3) ⟨[(0, nV a0), (1, nV a1), (12, iV (lenI a0)), (13, iV (0 : Int))], [], 0⟩ hX (by kernel_rfl) allNil ?_
    refine HT.block ?_
    obtain ⟨r3, hL13, hr⟩ := of_bind hr
    refine HT.loopL (fun (s2 : Int) => ⟨[(0, nV a0), (1, nV a1), (12, iV (lenI a0)), (13, iV s2)], [], 0⟩) (fun (r3 : Unit ⊕ Unit) => match r3 with | .inl r4 => (.exit 0, ⟨[], [], 0⟩) | .inr r5 => (.ret, ⟨[(4, bV false)], [], 0⟩)) (Le.re [] [] hX (by kernel_rfl)) hL13 ?_ (fun s2 x6 hx7 hk8 => ?_)
    · rcases r3 with r4 | r5
      · refine (qBlockX (qThen ?_))
        refine HT.rg2 [oH] ⟨[(4, bV true)], [], 0⟩ hX (by kernel_rfl) allNil ?_
        have hr := of_some hr
        subst hr
        exact HT.ret ⟨[bV true], [], [], by kernel_rfl, by kernel_rfl, rfl, by kernel_rfl, by kernel_rfl, trivial⟩
      · have hr := of_some hr
        subst hr
        exact (qBlockR (qThenR ⟨[bV false], [], [], by kernel_rfl, by kernel_rfl, rfl, by kernel_rfl, by kernel_rfl, trivial⟩))
    · refine HT.rg2 [oH] ⟨[(0, nV a0), (1, nV a1), (12, iV (lenI a0)), (13, iV s2), (14, bV (decide (s2 < (lenI a0))))], [], 0⟩ hX (by kernel_rfl) allNil ?_
      refine HT.seq ?_
      rcases of_bif hx7 with ⟨hb9, hx7⟩ | ⟨hb9, hx7⟩
      · refine HT.cond1 rfl hb9 ?_
        refine HT.skip (qThen ?_)
        refine HT.seq ?_
        refine HT.block ?_
        refine HT.rg2 (oHs 2) ⟨[(0, nV a0), (1, nV a1), (5, iV s2), (12, iV (lenI a0)), (13, iV s2)], [], 0⟩ hX (by kernel_rfl) allNil ?_
        obtain ⟨hg10, hx7⟩ := of_guard hx7
        obtain ⟨hg11, hx7⟩ := of_guard hx7
        refine HT.dr2 8 [⟨oH, []⟩, ⟨oH, []⟩, ⟨oH, [0, 1]⟩, ⟨oH, [0, 1, 2]⟩, ⟨oH, []⟩, ⟨oH, []⟩, ⟨oH, [4, 5]⟩, ⟨oH, [4, 5, 6]⟩] [[0, 1, 2, 3, 4, 5, 6, 7]] [oH] ⟨[(0, nV a0), (1, nV a1), (12, iV (lenI a0)), (13, iV s2), (24, bV ((List.getD a0 (Int.toNat s2) (0 : Int)) != (List.getD a1 (Int.toNat s2) (0 : Int))))], [], 0⟩ hX (by kernel_rfl) (by kernel_rfl) (allCons hg10 (allCons hg11 allNil)) ?_
        rcases of_bif hx7 with ⟨hb12, hx7⟩ | ⟨hb12, hx7⟩
        · refine HT.cond1 rfl hb12 ?_
          refine HT.rg2 [oH] ⟨[(4, bV false)], [], 0⟩ hX (by kernel_rfl) allNil ?_
          have hx7 := of_some hx7
          subst hx7
          exact HT.retL (Le.re [] [] hX (by kernel_rfl)) (qBlockR (qThenR (qLoopR (hk8 (.inr ()) rfl))))
        · refine HT.cond0 rfl hb12 ?_
          refine HT.skip (qBlock (qThen ?_))
          have hx7 := of_some hx7
          subst hx7
          exact HT.rgK (oHs 2) [] [] hX (by kernel_rfl) allNil (fun _ h => (qLoopN ⟨(wadd .i64 s2 (1 : Int)), rfl, h⟩))
      · refine HT.cond0 rfl hb9 ?_
        have hx7 := of_some hx7
        subst hx7
        exact HT.exitL (Le.re [] [] hX (by kernel_rfl)) (qThenE (qLoopE (hk8 (.inl ()) rfl)))

noncomputable def impl_LetterAt (a0 : List Int × List Int) (a1 : Int) (a2 : Int) : Option (Int × Bool) :=
  (show Option (Bool) from
    (impl_ValidLoop (a0.1, a0.2) a1).bind fun y9 =>
    bif (!y9) then
      some true
    else
      (impl_within a2 (0 : Int) (1000000 : Int)).bind fun y12 =>
      some (!y12)).bind fun v1 =>
  bif v1 then
    some ((0 : Int), false)
  else
    bif (decide (a2 < (lenI a0.1))) then
      guardP ((0 : Int) ≤ a2 ∧ a2 < lenI a0.1) (
        some ((List.getD a0.1 (Int.toNat a2) (0 : Int)), true))
    else
      guardP ((lenI a0.2) ≠ 0) (
        guardP ((0 : Int) ≤ (Int.tmod (wsub .i64 a2 (lenI a0.1)) (lenI a0.2)) ∧ (Int.tmod (wsub .i64 a2 (lenI a0.1)) (lenI a0.2)) < lenI a0.2) (
          some ((List.getD a0.2 (Int.toNat (Int.tmod (wsub .i64 a2 (lenI a0.1)) (lenI a0.2))) (0 : Int)), true)))

theorem f40_ok {a0 : List Int × List Int} {a1 : Int} {a2 : Int} {r : Int × Bool} (hr : impl_LetterAt a0 a1 a2 = some r) : CallOK Try.prog 40 [.imm (.st (.pair tLI tLI)) a0, .imm tI a1, .imm tI a2] [⟨false, tI, r.1⟩, ⟨false, .bool, r.2⟩] [] := by
  unfold impl_LetterAt at hr
  refine CallOK.of_body (ts := [(false, tI), (false, .bool)]) Try.func40 rfl (by kernel_rfl) (Nat.le_of_ble_eq_true (by kernel_rfl)) fun cx hP hN hO hF => ?_
  have hO : cx.own.map Prod.fst = [] := hO
  have hX := CxIs.mk hP hN hO
  have hF := hF rfl
  show HT cx ⟨[(0, .agg [nC a0.1, nC a0.2]), (1, iV a1), (2, iV a2)], [], 0⟩ _ _
  refine HT.rg2 (oHs 3) ⟨[(1, iV a1), (2, iV a2), (3, pV 0 0)], [(0, .box [nC a0.1, nC a0.2])], 1⟩ hX (by kernel_rfl) allNil ?_
  refine HT.seq ?_
  obtain ⟨v1', hT3, hr⟩ := of_bind hr
  refine HT.join (fun (v1 : Bool) => ⟨[(2, iV a2), (3, pV 0 0), (16, bV v1)], [(0, .box [nC a0.1, nC a0.2])], 1⟩) (fun v => v = v1') (fun v1 hv2 => ?_) (fun cont => ?_)
  · subst hv2
    rcases of_bif hr with ⟨hb4, hr⟩ | ⟨hb4, hr⟩
    · refine HT.cond1 rfl hb4 ?_
      refine HT.rg2 (oHs 2) ⟨[(6, iV (0 : Int)), (7, bV false)], [], 1⟩ hX (by kernel_rfl) allNil ?_
      have hr := of_some hr
      subst hr
      exact HT.ret (qThenR ⟨[iV (0 : Int), bV false], [], [], by kernel_rfl, by kernel_rfl, rfl, by kernel_rfl, by kernel_rfl, trivial⟩)
    · refine HT.cond0 rfl hb4 ?_
      refine HT.skip (qThen ?_)
      refine HT.seq ?_
      refine HT.rg2 (oHs 5) ⟨[(2, iV a2), (3, pV 0 0), (21, bV (decide (a2 < (lenI a0.1))))], [(0, .box [nC a0.1, nC a0.2])], 1⟩ hX (by kernel_rfl) allNil ?_
      rcases of_bif hr with ⟨hb5, hr⟩ | ⟨hb5, hr⟩
      · refine HT.cond1 rfl hb5 ?_
        obtain ⟨hg6, hr⟩ := of_guard hr
        refine HT.rg2 (oHs 7) ⟨[(6, iV (List.getD a0.1 (Int.toNat a2) (0 : Int))), (7, bV true)], [], 1⟩ hX (by kernel_rfl) (allCons hg6 allNil) ?_
        have hr := of_some hr
        subst hr
        exact HT.ret (qThenR ⟨[iV (List.getD a0.1 (Int.toNat a2) (0 : Int)), bV true], [], [], by kernel_rfl, by kernel_rfl, rfl, by kernel_rfl, by kernel_rfl, trivial⟩)
      · refine HT.cond0 rfl hb5 ?_
        refine HT.skip (qThen ?_)
        obtain ⟨hg7, hr⟩ := of_guard hr
        obtain ⟨hg8, hr⟩ := of_guard hr
        refine HT.dr2 11 [⟨oH, []⟩, ⟨oH, [0]⟩, ⟨oH, []⟩, ⟨oH, []⟩, ⟨oH, [3]⟩, ⟨oH, [3, 4]⟩, ⟨oH, [2, 3, 4, 5]⟩, ⟨oH, []⟩, ⟨oH, [7]⟩, ⟨oH, [7, 8]⟩, ⟨oH, [2, 3, 4, 5, 6, 7, 8, 9]⟩] [[0, 1, 2, 3, 4, 5, 6, 7, 8, 9, 10], [0, 1, 2, 3, 4, 5, 6, 7, 8, 9, 10, 11], [0, 1, 2, 3, 4, 5, 6, 7, 8, 9, 10, 11, 12], [0, 1, 2, 3, 4, 5, 6, 7, 8, 9, 10, 11, 12, 13]] (oHs 4) ⟨[(6, iV (List.getD a0.2 (Int.toNat (Int.tmod (wsub .i64 a2 (lenI a0.1)) (lenI a0.2))) (0 : Int))), (7, bV true)], [], 1⟩ hX (by kernel_rfl) (by kernel_rfl) (allCons hg7 (allCons hg8 allNil)) ?_
        have hr := of_some hr
        subst hr
        exact HT.ret ⟨[iV (List.getD a0.2 (Int.toNat (Int.tmod (wsub .i64 a2 (lenI a0.1)) (lenI a0.2))) (0 : Int)), bV true], [], [], by kernel_rfl, by kernel_rfl, rfl, by kernel_rfl, by kernel_rfl, trivial⟩
  · obtain ⟨y9, hc10, hT3⟩ := of_bind hT3
    rcases of_bif hT3 with ⟨hb11, hT3⟩ | ⟨hb11, hT3⟩
    · exact HT.rgK [oH, oH, ⟨none, .call [.imm (.st (.pair tLI tLI)), .imm tI] [⟨false, .bool, y9⟩] []⟩, oH, oH, ⟨some true, .no⟩, ⟨some true, .no⟩, ⟨some true, .no⟩, ⟨none, .tv true⟩] [(0, 0)] [] hX (by kernel_rfl) (allCons (f37_ok hc10) (allCons hb11 (allCons hb11 (allCons hb11 (allCons hb11 allNil))))) (fun _ h => (qThen (h.ht (cont true (of_some hT3)))))
    · obtain ⟨y12, hc13, hT3⟩ := of_bind hT3
      exact HT.rgK [oH, oH, ⟨none, .call [.imm (.st (.pair tLI tLI)), .imm tI] [⟨false, .bool, y9⟩] []⟩, oH, oH, ⟨some false, .no⟩, ⟨some false, .call [.imm tI, .imm tI, .imm tI] [⟨false, .bool, y12⟩] []⟩, ⟨some false, .no⟩, ⟨none, .tv false⟩] [(0, 0)] [] hX (by kernel_rfl) (allCons (f37_ok hc10) (allCons hb11 (allCons hb11 (allCons (f111_ok hc13) (allCons hb11 (allCons hb11 allNil)))))) (fun _ h => (qThen (h.ht (cont (!y12) (of_some hT3)))))

noncomputable def spec_ValidLoop (a0 : List Int × List Int) (a1 : Int) : Option (Bool) :=
  (spec_l07Loop (a0.1, a0.2) a1).bind fun y1 =>
  some y1

theorem f39_ok {a0 : List Int × List Int} {a1 : Int} {r : Bool} (hr : spec_ValidLoop a0 a1 = some r) : CallOK Try.prog 39 [.imm (.st (.pair tLI tLI)) a0, .imm tI a1] [⟨false, .bool, r⟩] [] := by
  unfold spec_ValidLoop at hr
  refine CallOK.of_body (ts := [(false, .bool)]) Try.func39 rfl (by kernel_rfl) (Nat.le_of_ble_eq_true (by kernel_rfl)) fun cx hP hN hO hF => ?_
  have hO : cx.own.map Prod.fst = [] := hO
  have hX := CxIs.mk hP hN hO
  have hF := hF rfl
  show HT cx ⟨[(0, .agg [nC a0.1, nC a0.2]), (1, iV a1)], [], 0⟩ _ _
  refine HT.rg2 (oHs 2) ⟨[(1, iV a1), (2, pV 0 0)], [(0, .box [nC a0.1, nC a0.2])], 1⟩ hX (by kernel_rfl) allNil ?_
  obtain ⟨y1, hc2, hr⟩ := of_bind hr
  refine HT.rg2 [oH, ⟨none, .call [.pimm (.st (.pair tLI tLI)), .imm tI] [⟨false, .bool, y1⟩] []⟩, oH] ⟨[(4, bV y1)], [], 1⟩ hX (by kernel_rfl) (allCons (f117_ok hc2) allNil) ?_
  have hr := of_some hr
  subst hr
  exact HT.ret ⟨[bV y1], [], [], by kernel_rfl, by kernel_rfl, rfl, by kernel_rfl, by kernel_rfl, trivial⟩

noncomputable def laws_FnLoops_B1 (y28 : (Int × Int × List Int × List Bool)) (y30 : List Int × Bool) (s42 : Bool × Int) : Option ((Bool × Int) ⊕ (Bool ⊕ Unit)) :=
  bif (decide (s42.2 < (lenI y30.1))) then
    (show Option (Bool ⊕ ((Bool × Int) ⊕ (Bool ⊕ Unit))) from
      (show Option (Bool) from
        guardP ((0 : Int) ≤ s42.2 ∧ s42.2 < lenI y30.1) (
          bif (decide ((List.getD y30.1 (Int.toNat s42.2) (0 : Int)) < (0 : Int))) then
            some true
          else
            some (decide ((List.getD y30.1 (Int.toNat s42.2) (0 : Int)) ≥ y28.1)))).bind fun v76 =>
      bif v76 then
        inrO (some (.inr (.inr ())))
      else
        bif s42.1 then
          some (.inl true)
        else
          guardP ((0 : Int) ≤ s42.2 ∧ s42.2 < lenI y30.1) (
            guardP ((0 : Int) ≤ (List.getD y30.1 (Int.toNat s42.2) (0 : Int)) ∧ (List.getD y30.1 (Int.toNat s42.2) (0 : Int)) < lenI y28.2.2.2) (
              some (.inl (List.getD y28.2.2.2 (Int.toNat (List.getD y30.1 (Int.toNat s42.2) (0 : Int))) false))))).bind fun w75 => match w75 with
      | .inl v72 =>
        some (.inl (v72, (wadd .i64 s42.2 (1 : Int))))
      | .inr z => some z
  else
    some (.inr (.inl s42.1))

noncomputable def laws_FnLoops_B2 (y4 : Int) (y8 : List Int) (v14 : List Int) (y17 : (List Int × List Int) × Bool) (s25 : Int) : Option ((Int) ⊕ (Unit ⊕ Unit)) :=
  bif (decide (s25 < (30 : Int))) then
    (impl_LetterAt (y8, v14) (wadd .i64 (1 : Int) y4) s25).bind fun y102 =>
    (impl_LetterAt (y17.1.1, y17.1.2) (wadd .i64 (1 : Int) y4) s25).bind fun y104 =>
    (show Option (Bool) from
      bif (!y102.2) then
        some true
      else
        bif (!y104.2) then
          some true
        else
          some (y102.1 != y104.1)).bind fun v106 =>
    bif v106 then
      some (.inr (.inr ()))
    else
      some (.inl (wadd .i64 s25 (1 : Int)))
  else
    some (.inr (.inl ()))

noncomputable def laws_FnLoops (a0 : List Int) (a1 : List Int) : Option (Bool) :=
  (laws_b10Long a0 a1).bind fun y1 =>
  bif y1 then
    some true
  else
    (laws_b10At a1 (0 : Int) (3 : Int)).bind fun y4 =>
    (laws_b10At a1 (1 : Int) (5 : Int)).bind fun y6 =>
    (spec_B10Word a0 (wadd .i64 (1 : Int) y4) y6).bind fun y8 =>
    (laws_b10At a1 (2 : Int) (6 : Int)).bind fun y10 =>
    (spec_B10Word a1 (wadd .i64 (1 : Int) y4) (wadd .i64 (1 : Int) y10)).bind fun y12 =>
    (show Option (List Int) from
      (show Option (Bool) from
        (laws_b10At a1 (3 : Int) (2 : Int)).bind fun y134 =>
        bif (y134 == (0 : Int)) then
          some (decide ((lenI y12) ≤ (6 : Int)))
        else
          some false).bind fun v128 =>
      bif v128 then
        guardP (0 + List.length y12 ≤ appMax) (
          guardP (List.length y12 + List.length y12 ≤ appMax) (
            some (y12 ++ y12)))
      else
        some y12).bind fun v14 =>
    (impl_NormalLoop (y8, v14) (wadd .i64 (1 : Int) y4)).bind fun y17 =>
    (spec_NormalLoop (y8, v14) (wadd .i64 (1 : Int) y4)).bind fun y19 =>
    (show Option (Bool) from
      bif (!y17.2) then
        some true
      else
        bif (!y19.2) then
          some true
        else
          (impl_ValidLoop (y8, v14) (wadd .i64 (1 : Int) y4)).bind fun y115 =>
          bif (!y115) then
            some true
          else
            (laws_b10Ints y17.1.1 y19.1.1).bind fun y118 =>
            bif (!y118) then
              some true
            else
              (laws_b10Ints y17.1.2 y19.1.2).bind fun y121 =>
              bif (!y121) then
                some true
              else
                (spec_ValidLoop (y17.1.1, y17.1.2) (wadd .i64 (1 : Int) y4)).bind fun y124 =>
                bif (!y124) then
                  some true
                else
                  bif (decide ((lenI y17.1.2) > (lenI v14))) then
                    some true
                  else
                    some (decide ((lenI y17.1.1) > (lenI y8)))).bind fun v21 =>
    bif v21 then
      some false
    else
      (rounds (laws_FnLoops_B2 y4 y8 v14 y17) (0 : Int)).bind fun r26 => match r26 with
        | .inl r27 =>
          (spec_B10Plain a0 (wadd .i64 (1 : Int) y4)).bind fun y28 =>
          (impl_StatesOfLoop (y28.1, y28.2.1, y28.2.2.1, y28.2.2.2) (y8, v14)).bind fun y30 =>
          (impl_StatesOfLoop (y28.1, y28.2.1, y28.2.2.1, y28.2.2.2) (y17.1.1, y17.1.2)).bind fun y32 =>
          (impl_ReadsLoop (y28.1, y28.2.1, y28.2.2.1, y28.2.2.2) (y8, v14)).bind fun y34 =>
          (impl_ReadsLoop (y28.1, y28.2.1, y28.2.2.1, y28.2.2.2) (y17.1.1, y17.1.2)).bind fun y36 =>
          (show Option (Bool) from
            bif (!y30.2) then
              some true
            else
              bif (!y32.2) then
                some true
              else
                bif (!y34.2) then
                  some true
                else
                  bif (!y36.2) then
                    some true
                  else
                    (laws_b10Ints y30.1 y32.1).bind fun y93 =>
                    bif (!y93) then
                      some true
                    else
                      bif (decide ((lenI y30.1) < (1 : Int))) then
                        some true
                      else
                        some (y34.1 != y36.1)).bind fun v38 =>
          bif v38 then
            some false
          else
            (rounds (laws_FnLoops_B1 y28 y30) (false, (0 : Int))).bind fun r43 => match r43 with
              | .inl r44 =>
                (impl_FirstLoop (y28.1, y28.2.1, y28.2.2.1, y28.2.2.2) (2 : Int)).bind fun y45 =>
                (spec_FirstLoop (y28.1, y28.2.1, y28.2.2.1, y28.2.2.2) (2 : Int)).bind fun y47 =>
                (show Option (Bool) from
                  bif (r44 != y34.1) then
                    some true
                  else
                    some (y45.2 != y47.2)).bind fun v49 =>
                bif v49 then
                  some false
                else
                  bif (!y45.2) then
                    some true
                  else
                    (impl_ReadsLoop (y28.1, y28.2.1, y28.2.2.1, y28.2.2.2) (y45.1.1, y45.1.2)).bind fun y54 =>
                    (show Option (Bool) from
                      bif y54.2 then
                        bif y54.1 then
                          (laws_b10Ints y45.1.1 y47.1.1).bind fun y61 =>
                          bif y61 then
                            (laws_b10Ints y45.1.2 y47.1.2).bind fun y64 =>
                            some y64
                          else
                            some false
                        else
                          some false
                      else
                        some false).bind fun v56 =>
                    some v56
              | .inr r67 =>
                some false
        | .inr r97 =>
          some false

theorem f5_ok {a0 : List Int} {a1 : List Int} {r : Bool} (hr : laws_FnLoops a0 a1 = some r) : CallOK Try.prog 5 [.imm (.sl (.int .u8)) a0, .imm (.sl (.int .u8)) a1] [⟨false, .bool, r⟩] [] := by
  unfold laws_FnLoops at hr
  refine CallOK.of_body (ts := [(false, .bool)]) Try.func5 rfl (by kernel_rfl) (Nat.le_of_ble_eq_true (by kernel_rfl)) fun cx hP hN hO hF => ?_
  have hO : cx.own.map Prod.fst = [] := hO
  have hX := CxIs.mk hP hN hO
  have hF := hF rfl
  show HT cx ⟨[(0, .one (.dat (.sl (.int .u8)) a0)), (1, .one (.dat (.sl (.int .u8)) a1))], [], 0⟩ _ _
  refine HT.rg2 [oH] ⟨[(0, .one (.dat (.sl (.int .u8)) a0)), (1, .one (.dat (.sl (.int .u8)) a1))], [], 0⟩ hX (by kernel_rfl) allNil ?_
  refine HT.seq ?_
  obtain ⟨y1, hc2, hr⟩ := of_bind hr
  refine HT.rg2 [oH, oH, ⟨none, .call [.imm (.sl (.int .u8)), .imm (.sl (.int .u8))] [⟨false, .bool, y1⟩] []⟩] ⟨[(0, .one (.dat (.sl (.int .u8)) a0)), (1, .one (.dat (.sl (.int .u8)) a1)), (35, bV y1)], [], 0⟩ hX (by kernel_rfl) (allCons (f11_ok hc2) allNil) ?_
  rcases of_bif hr with ⟨hb3, hr⟩ | ⟨hb3, hr⟩
  · refine HT.cond1 rfl hb3 ?_
    refine HT.rg2 [oH] ⟨[(4, bV true)], [], 0⟩ hX (by kernel_rfl) allNil ?_
    have hr := of_some hr
    subst hr
    exact HT.ret (qThenR ⟨[bV true], [], [], by kernel_rfl, by kernel_rfl, rfl, by kernel_rfl, by kernel_rfl, trivial⟩)
  · refine HT.cond0 rfl hb3 ?_
    refine HT.skip (qThen ?_)
    obtain ⟨y4, hc5, hr⟩ := of_bind hr
    refine HT.rg2 [oH, ⟨none, .call [.imm (.sl (.int .u8)), .imm tI, .imm tI] [⟨false, tI, y4⟩] []⟩, oH, oH] ⟨[(0, .one (.dat (.sl (.int .u8)) a0)), (1, .one (.dat (.sl (.int .u8)) a1)), (5, iV (wadd .i64 (1 : Int) y4))], [], 0⟩ hX (by kernel_rfl) (allCons (f19_ok hc5) allNil) ?_
    obtain ⟨y6, hc7, hr⟩ := of_bind hr
    obtain ⟨y8, hc9, hr⟩ := of_bind hr
    obtain ⟨y10, hc11, hr⟩ := of_bind hr
    obtain ⟨y12, hc13, hr⟩ := of_bind hr
    refine HT.rg2 [oH, oH, oH, ⟨none, .call [.imm (.sl (.int .u8)), .imm tI, .imm tI] [⟨false, tI, y6⟩] []⟩, ⟨none, .call [.imm (.sl (.int .u8)), .imm tI, .imm tI] [⟨true, tLI, y8⟩] []⟩, oH, oH, oH, ⟨none, .call [.imm (.sl (.int .u8)), .imm tI, .imm tI] [⟨false, tI, y10⟩] []⟩, oH, ⟨none, .call [.imm (.sl (.int .u8)), .imm tI, .imm tI] [⟨true, tLI, y12⟩] []⟩, oH, oH, oH] ⟨[(0, .one (.dat (.sl (.int .u8)) a0)), (1, .one (.dat (.sl (.int .u8)) a1)), (5, iV (wadd .i64 (1 : Int) y4)), (6, pV 2 0)], [(2, .box [.all 0, .all 1]), (1, .seq tI y12), (0, .seq tI y8)], 3⟩ hX (by kernel_rfl) (allCons (f19_ok hc7) (allCons (f34_ok hc9) (allCons (f19_ok hc11) (allCons (f34_ok hc13) allNil)))) ?_
    obtain ⟨v14', hT16, hr⟩ := of_bind hr
    refine HT.join (fun (v14 : List Int) => ⟨[(0, .one (.dat (.sl (.int .u8)) a0)), (5, iV (wadd .i64 (1 : Int) y4)), (6, pV 0 0)], [(0, .box [.all 1, .all 2]), (1, .seq tI y8), (2, .seq tI v14)], 3⟩) (fun v => v = v14') (fun v14 hv15 => ?_) (fun cont => ?_)
    · subst hv15
      obtain ⟨y17, hc18, hr⟩ := of_bind hr
      refine HT.rg2 [oH, oH, ⟨none, .call [.imm (.st (.pair tLI tLI)), .imm tI] [⟨true, (.st (.pair tLI tLI)), y17.1⟩, ⟨false, .bool, y17.2⟩] []⟩, oH, oH, oH, oH, oH, oH] ⟨[(0, .one (.dat (.sl (.int .u8)) a0)), (5, iV (wadd .i64 (1 : Int) y4)), (6, pV 0 0), (7, pV 5 0), (8, bV y17.2)], [(5, .box [.all 3, .all 4]), (3, .seq tI y17.1.1), (4, .seq tI y17.1.2), (0, .box [.all 1, .all 2]), (1, .seq tI y8), (2, .seq tI v14)], 6⟩ hX (by kernel_rfl) (allCons (f35_ok hc18) allNil) ?_
      obtain ⟨y19, hc20, hr⟩ := of_bind hr
      refine HT.rg2 [oH, oH, ⟨none, .call [.imm (.st (.pair tLI tLI)), .imm tI] [⟨true, (.st (.pair tLI tLI)), y19.1⟩, ⟨false, .bool, y19.2⟩] []⟩, oH, oH, oH, oH, oH, oH] ⟨[(0, .one (.dat (.sl (.int .u8)) a0)), (5, iV (wadd .i64 (1 : Int) y4)), (6, pV 0 0), (7, pV 5 0), (8, bV y17.2), (9, pV 8 0), (10, bV y19.2)], [(8, .box [.all 6, .all 7]), (6, .seq tI y19.1.1), (7, .seq tI y19.1.2), (5, .box [.all 3, .all 4]), (3, .seq tI y17.1.1), (4, .seq tI y17.1.2), (0, .box [.all 1, .all 2]), (1, .seq tI y8), (2, .seq tI v14)], 9⟩ hX (by kernel_rfl) (allCons (f36_ok hc20) allNil) ?_
      refine HT.seq ?_
      obtain ⟨v21', hT23, hr⟩ := of_bind hr
      refine HT.join (fun (v21 : Bool) => ⟨[(0, .one (.dat (.sl (.int .u8)) a0)), (5, iV (wadd .i64 (1 : Int) y4)), (6, pV 0 0), (7, pV 1 0), (131, bV v21)], [(0, .box [.all 2, .all 3]), (1, .box [.all 4, .all 5]), (2, .seq tI y8), (3, .seq tI v14), (4, .seq tI y17.1.1), (5, .seq tI y17.1.2)], 6⟩) (fun v => v = v21') (fun v21 hv22 => ?_) (fun cont => ?_)
      · subst hv22
        rcases of_bif hr with ⟨hb24, hr⟩ | ⟨hb24, hr⟩
        · refine HT.cond1 rfl hb24 ?_
          refine HT.rg2 [oH] ⟨[(4, bV false)], [], 6⟩ hX (by kernel_rfl) allNil ?_
          have hr := of_some hr
          subst hr
          exact HT.ret (qThenR ⟨[bV false], [], [], by kernel_rfl, by kernel_rfl, rfl, by kernel_rfl, by kernel_rfl, trivial⟩)
        · refine HT.cond0 rfl hb24 ?_
          refine HT.skip (qThen ?_)
          refine HT.seq ?_
          refine HT.rg2 [oH] ⟨[(0, .one (.dat (.sl (.int .u8)) a0)), (5, iV (wadd .i64 (1 : Int) y4)), (6, pV 0 0), (7, pV 1 0), (11, iV (0 : Int))], [(0, .box [.all 2, .all 3]), (1, .box [.all 4, .all 5]), (2, .seq tI y8), (3, .seq tI v14), (4, .seq tI y17.1.1), (5, .seq tI y17.1.2)], 6⟩ hX (by kernel_rfl) allNil ?_
          refine HT.block ?_
          obtain ⟨r26, hL112, hr⟩ := of_bind hr
          refine HT.loopL (fun (s25 : Int) => ⟨[(0, .one (.dat (.sl (.int .u8)) a0)), (5, iV (wadd .i64 (1 : Int) y4)), (6, pV 0 0), (7, pV 1 0), (11, iV s25)], [(0, .box [.all 2, .all 3]), (1, .box [.all 4, .all 5]), (2, .seq tI y8), (3, .seq tI v14), (4, .seq tI y17.1.1), (5, .seq tI y17.1.2)], 6⟩) (fun (r26 : Unit ⊕ Unit) => match r26 with | .inl r27 => (.exit 0, ⟨[(0, .one (.dat (.sl (.int .u8)) a0)), (5, iV (wadd .i64 (1 : Int) y4)), (6, pV 0 0), (7, pV 1 0)], [(0, .box [.all 2, .all 3]), (1, .box [.all 4, .all 5]), (2, .seq tI y8), (3, .seq tI v14), (4, .seq tI y17.1.1), (5, .seq tI y17.1.2)], 6⟩) | .inr r97 => (.ret, ⟨[(4, bV false)], [], 0⟩)) (Le.re [(0, 0), (1, 1), (2, 2), (3, 3), (4, 4), (5, 5)] [] hX (by kernel_rfl)) hL112 ?_ (fun s25 x98 hx99 hk100 => ?_)
          · rcases r26 with r27 | r97
            · refine (qBlockX (qThen ?_))
              obtain ⟨y28, hc29, hr⟩ := of_bind hr
              refine HT.rg2 [oH, oH, ⟨none, .call [.imm (.sl (.int .u8)), .imm tI] [⟨true, (.st (.pair tI (.pair tI (.pair tLI (.sl .bool))))), y28⟩] []⟩, oH, oH] ⟨[(6, pV 0 0), (7, pV 1 0), (16, pV 8 0)], [(8, .box [iC y28.1, iC y28.2.1, .all 6, .all 7]), (6, .seq tI y28.2.2.1), (7, .seq .bool y28.2.2.2), (0, .box [.all 2, .all 3]), (1, .box [.all 4, .all 5]), (2, .seq tI y8), (3, .seq tI v14), (4, .seq tI y17.1.1), (5, .seq tI y17.1.2)], 9⟩ hX (by kernel_rfl) (allCons (f41_ok hc29) allNil) ?_
              obtain ⟨y30, hc31, hr⟩ := of_bind hr
              refine HT.rg2 [oH, oH, ⟨none, .call [.imm (.st (.pair tI (.pair tI (.pair tLI (.sl .bool))))), .imm (.st (.pair tLI tLI))] [⟨true, tLI, y30.1⟩, ⟨false, .bool, y30.2⟩] []⟩, oH, oH, oH, oH, oH] ⟨[(6, pV 0 0), (7, pV 1 0), (16, pV 8 0), (17, aV 9), (18, bV y30.2)], [(9, .seq tI y30.1), (8, .box [iC y28.1, iC y28.2.1, .all 6, .all 7]), (6, .seq tI y28.2.2.1), (7, .seq .bool y28.2.2.2), (0, .box [.all 2, .all 3]), (1, .box [.all 4, .all 5]), (2, .seq tI y8), (3, .seq tI v14), (4, .seq tI y17.1.1), (5, .seq tI y17.1.2)], 10⟩ hX (by kernel_rfl) (allCons (f42_ok hc31) allNil) ?_
              obtain ⟨y32, hc33, hr⟩ := of_bind hr
              refine HT.rg2 [oH, oH, ⟨none, .call [.imm (.st (.pair tI (.pair tI (.pair tLI (.sl .bool))))), .imm (.st (.pair tLI tLI))] [⟨true, tLI, y32.1⟩, ⟨false, .bool, y32.2⟩] []⟩, oH, oH, oH, oH, oH] ⟨[(6, pV 0 0), (7, pV 1 0), (16, pV 8 0), (17, aV 9), (18, bV y30.2), (19, aV 10), (20, bV y32.2)], [(10, .seq tI y32.1), (9, .seq tI y30.1), (8, .box [iC y28.1, iC y28.2.1, .all 6, .all 7]), (6, .seq tI y28.2.2.1), (7, .seq .bool y28.2.2.2), (0, .box [.all 2, .all 3]), (1, .box [.all 4, .all 5]), (2, .seq tI y8), (3, .seq tI v14), (4, .seq tI y17.1.1), (5, .seq tI y17.1.2)], 11⟩ hX (by kernel_rfl) (allCons (f42_ok hc33) allNil) ?_
              obtain ⟨y34, hc35, hr⟩ := of_bind hr
              refine HT.rg2 [oH, oH, ⟨none, .call [.imm (.st (.pair tI (.pair tI (.pair tLI (.sl .bool))))), .imm (.st (.pair tLI tLI))] [⟨false, .bool, y34.1⟩, ⟨false, .bool, y34.2⟩] []⟩, oH, oH, oH, oH, oH] ⟨[(7, pV 1 0), (16, pV 8 0), (17, aV 9), (18, bV y30.2), (19, aV 10), (20, bV y32.2), (21, bV y34.1), (22, bV y34.2)], [(10, .seq tI y32.1), (9, .seq tI y30.1), (8, .box [iC y28.1, iC y28.2.1, .all 6, .all 7]), (6, .seq tI y28.2.2.1), (7, .seq .bool y28.2.2.2), (1, .box [.all 4, .all 5]), (4, .seq tI y17.1.1), (5, .seq tI y17.1.2)], 11⟩ hX (by kernel_rfl) (allCons (f43_ok hc35) allNil) ?_
              obtain ⟨y36, hc37, hr⟩ := of_bind hr
              refine HT.rg2 [oH, oH, ⟨none, .call [.imm (.st (.pair tI (.pair tI (.pair tLI (.sl .bool))))), .imm (.st (.pair tLI tLI))] [⟨false, .bool, y36.1⟩, ⟨false, .bool, y36.2⟩] []⟩, oH, oH, oH, oH, oH] ⟨[(16, pV 8 0), (17, aV 9), (18, bV y30.2), (19, aV 10), (20, bV y32.2), (21, bV y34.1), (22, bV y34.2), (23, bV y36.1), (24, bV y36.2)], [(10, .seq tI y32.1), (9, .seq tI y30.1), (8, .box [iC y28.1, iC y28.2.1, .all 6, .all 7]), (6, .seq tI y28.2.2.1), (7, .seq .bool y28.2.2.2)], 11⟩ hX (by kernel_rfl) (allCons (f43_ok hc37) allNil) ?_
              refine HT.seq ?_
              obtain ⟨v38', hT40, hr⟩ := of_bind hr
              refine HT.join (fun (v38 : Bool) => ⟨[(16, pV 0 0), (17, aV 1), (21, bV y34.1), (217, bV v38)], [(0, .box [iC y28.1, iC y28.2.1, .all 2, .all 3]), (1, .seq tI y30.1), (2, .seq tI y28.2.2.1), (3, .seq .bool y28.2.2.2)], 4⟩) (fun v => v = v38') (fun v38 hv39 => ?_) (fun cont => ?_)
              · subst hv39
                rcases of_bif hr with ⟨hb41, hr⟩ | ⟨hb41, hr⟩
                · refine HT.cond1 rfl hb41 ?_
                  refine HT.rg2 [oH] ⟨[(4, bV false)], [], 4⟩ hX (by kernel_rfl) allNil ?_
                  have hr := of_some hr
                  subst hr
                  exact HT.ret (qThenR ⟨[bV false], [], [], by kernel_rfl, by kernel_rfl, rfl, by kernel_rfl, by kernel_rfl, trivial⟩)
                · refine HT.cond0 rfl hb41 ?_
                  refine HT.skip (qThen ?_)
                  refine HT.rg2 [oH] ⟨[(16, pV 0 0), (17, aV 1), (21, bV y34.1), (25, bV false)], [(0, .box [iC y28.1, iC y28.2.1, .all 2, .all 3]), (1, .seq tI y30.1), (2, .seq tI y28.2.2.1), (3, .seq .bool y28.2.2.2)], 4⟩ hX (by kernel_rfl) allNil ?_
                  refine HT.seq ?_
                  refine HT.rg2 (oHs 3) ⟨[(16, pV 0 0), (17, aV 1), (21, bV y34.1), (25, bV false), (219, iV (lenI y30.1)), (220, iV (0 : Int))], [(0, .box [iC y28.1, iC y28.2.1, .all 2, .all 3]), (1, .seq tI y30.1), (2, .seq tI y28.2.2.1), (3, .seq .bool y28.2.2.2)], 4⟩ hX (by kernel_rfl) allNil ?_
                  refine HT.block ?_
                  obtain ⟨r43, hL88, hr⟩ := of_bind hr
                  refine HT.loopL (fun (s42 : Bool × Int) => ⟨[(16, pV 0 0), (17, aV 1), (21, bV y34.1), (25, bV s42.1), (219, iV (lenI y30.1)), (220, iV s42.2)], [(0, .box [iC y28.1, iC y28.2.1, .all 2, .all 3]), (1, .seq tI y30.1), (2, .seq tI y28.2.2.1), (3, .seq .bool y28.2.2.2)], 4⟩) (fun (r43 : Bool ⊕ Unit) => match r43 with | .inl r44 => (.exit 2, ⟨[(16, pV 0 0), (21, bV y34.1), (25, bV r44)], [(0, .box [iC y28.1, iC y28.2.1, .all 1, .all 2]), (1, .seq tI y28.2.2.1), (2, .seq .bool y28.2.2.2)], 3⟩) | .inr r67 => (.ret, ⟨[(4, bV false)], [], 0⟩)) (Le.re [(0, 0), (1, 1), (2, 2), (3, 3)] [] hX (by kernel_rfl)) hL88 ?_ (fun s42 x68 hx69 hk70 => ?_)
                  · rcases r43 with r44 | r67
                    · refine (qBlockX (qThen ?_))
                      obtain ⟨y45, hc46, hr⟩ := of_bind hr
                      refine HT.rg2 [oH, ⟨none, .call [.imm (.st (.pair tI (.pair tI (.pair tLI (.sl .bool))))), .imm tI] [⟨true, (.st (.pair tLI tLI)), y45.1⟩, ⟨false, .bool, y45.2⟩] []⟩, oH, oH, oH, oH, oH, oH] ⟨[(16, pV 0 0), (21, bV y34.1), (25, bV r44), (27, pV 5 0), (28, bV y45.2)], [(5, .box [.all 3, .all 4]), (3, .seq tI y45.1.1), (4, .seq tI y45.1.2), (0, .box [iC y28.1, iC y28.2.1, .all 1, .all 2]), (1, .seq tI y28.2.2.1), (2, .seq .bool y28.2.2.2)], 6⟩ hX (by kernel_rfl) (allCons (f44_ok hc46) allNil) ?_
                      refine (Le.rz [(5, 5), (3, 3), (4, 4), (0, 0), (2, 2)] [] (st' := ⟨[(16, pV 0 0), (21, bV y34.1), (25, bV r44), (27, pV 5 0), (28, bV y45.2)], [(5, .box [.all 3, .all 4]), (3, .seq tI y45.1.1), (4, .seq tI y45.1.2), (0, .box [iC y28.1, iC y28.2.1, nC y28.2.2.1, .all 2]), (2, .seq .bool y28.2.2.2)], 6⟩) hX hF (by kernel_rfl)).ht ?_
                      refine (Le.rz [(5, 5), (3, 3), (4, 4), (0, 0)] [] (st' := ⟨[(16, pV 0 0), (21, bV y34.1), (25, bV r44), (27, pV 5 0), (28, bV y45.2)], [(5, .box [.all 3, .all 4]), (3, .seq tI y45.1.1), (4, .seq tI y45.1.2), (0, .box [iC y28.1, iC y28.2.1, nC y28.2.2.1, .dat (.sl .bool) y28.2.2.2])], 6⟩) hX hF (by kernel_rfl)).ht ?_
                      obtain ⟨y47, hc48, hr⟩ := of_bind hr
                      refine HT.rg2 [oH, ⟨none, .call [.imm (.st (.pair tI (.pair tI (.pair tLI (.sl .bool))))), .imm tI] [⟨false, (.st (.pair tLI tLI)), y47.1⟩, ⟨false, .bool, y47.2⟩] []⟩, oH, oH, oH, oH, oH, oH] ⟨[(16, pV 0 0), (21, bV y34.1), (25, bV r44), (27, pV 5 0), (28, bV y45.2), (29, pV 6 0), (30, bV y47.2)], [(6, .box [nC y47.1.1, nC y47.1.2]), (5, .box [.all 3, .all 4]), (3, .seq tI y45.1.1), (4, .seq tI y45.1.2), (0, .box [iC y28.1, iC y28.2.1, nC y28.2.2.1, .dat (.sl .bool) y28.2.2.2])], 7⟩ hX (by kernel_rfl) (allCons (f45_ok hc48) allNil) ?_
                      refine HT.seq ?_
                      obtain ⟨v49', hT51, hr⟩ := of_bind hr
                      refine HT.join (fun (v49 : Bool) => ⟨[(16, pV 0 0), (27, pV 1 0), (28, bV y45.2), (29, pV 2 0), (266, bV v49)], [(0, .box [iC y28.1, iC y28.2.1, nC y28.2.2.1, .dat (.sl .bool) y28.2.2.2]), (1, .box [.all 3, .all 4]), (2, .box [nC y47.1.1, nC y47.1.2]), (3, .seq tI y45.1.1), (4, .seq tI y45.1.2)], 5⟩) (fun v => v = v49') (fun v49 hv50 => ?_) (fun cont => ?_)
                      · subst hv50
                        rcases of_bif hr with ⟨hb52, hr⟩ | ⟨hb52, hr⟩
                        · refine HT.cond1 rfl hb52 ?_
                          refine HT.rg2 [oH] ⟨[(4, bV false)], [], 5⟩ hX (by kernel_rfl) allNil ?_
                          have hr := of_some hr
                          subst hr
                          exact HT.ret (qThenR ⟨[bV false], [], [], by kernel_rfl, by kernel_rfl, rfl, by kernel_rfl, by kernel_rfl, trivial⟩)
                        · refine HT.cond0 rfl hb52 ?_
                          refine HT.skip (qThen ?_)
                          refine HT.seq ?_
                          refine HT.rg2 (oHs 2) ⟨[(16, pV 0 0), (27, pV 1 0), (29, pV 2 0), (268, bV (!y45.2))], [(0, .box [iC y28.1, iC y28.2.1, nC y28.2.2.1, .dat (.sl .bool) y28.2.2.2]), (1, .box [.all 3, .all 4]), (2, .box [nC y47.1.1, nC y47.1.2]), (3, .seq tI y45.1.1), (4, .seq tI y45.1.2)], 5⟩ hX (by kernel_rfl) allNil ?_
                          rcases of_bif hr with ⟨hb53, hr⟩ | ⟨hb53, hr⟩
                          · refine HT.cond1 rfl hb53 ?_
                            refine HT.rg2 [oH] ⟨[(4, bV true)], [], 5⟩ hX (by kernel_rfl) allNil ?_
                            have hr := of_some hr
                            subst hr
                            exact HT.ret (qThenR ⟨[bV true], [], [], by kernel_rfl, by kernel_rfl, rfl, by kernel_rfl, by kernel_rfl, trivial⟩)
                          · refine HT.cond0 rfl hb53 ?_
                            refine HT.skip (qThen ?_)
                            obtain ⟨y54, hc55, hr⟩ := of_bind hr
                            refine HT.rg2 [oH, oH, ⟨none, .call [.imm (.st (.pair tI (.pair tI (.pair tLI (.sl .bool))))), .imm (.st (.pair tLI tLI))] [⟨false, .bool, y54.1⟩, ⟨false, .bool, y54.2⟩] []⟩, oH, oH, oH, oH, oH] ⟨[(27, pV 1 0), (29, pV 2 0), (31, bV y54.1), (32, bV y54.2)], [(1, .box [.all 3, .all 4]), (2, .box [nC y47.1.1, nC y47.1.2]), (3, .seq tI y45.1.1), (4, .seq tI y45.1.2)], 5⟩ hX (by kernel_rfl) (allCons (f43_ok hc55) allNil) ?_
                            obtain ⟨v56', hT58, hr⟩ := of_bind hr
                            refine HT.join (fun (v56 : Bool) => ⟨[(4, bV v56)], [], 0⟩) (fun v => v = v56') (fun v56 hv57 => ?_) (fun cont => ?_)
                            · subst hv57
                              have hr := of_some hr
                              subst hr
                              exact HT.ret ⟨[bV v56], [], [], by kernel_rfl, by kernel_rfl, rfl, by kernel_rfl, by kernel_rfl, trivial⟩
                            · rcases of_bif hT58 with ⟨hb59, hT58⟩ | ⟨hb59, hT58⟩
                              · rcases of_bif hT58 with ⟨hb60, hT58⟩ | ⟨hb60, hT58⟩
                                · obtain ⟨y61, hc62, hT58⟩ := of_bind hT58
                                  rcases of_bif hT58 with ⟨hb63, hT58⟩ | ⟨hb63, hT58⟩
                                  · obtain ⟨y64, hc65, hT58⟩ := of_bind hT58
                                    exact HT.rgK [oH, oH, ⟨some true, .no⟩, ⟨none, .tv true⟩, oH, ⟨some true, .no⟩, ⟨some true, .no⟩, ⟨some true, .no⟩, ⟨some true, .no⟩, ⟨some true, .call [.imm tLI, .imm tLI] [⟨false, .bool, y61⟩] []⟩, ⟨none, .tv true⟩, oH, ⟨some true, .no⟩, ⟨some true, .no⟩, ⟨some true, .no⟩, ⟨some true, .no⟩, ⟨some true, .call [.imm tLI, .imm tLI] [⟨false, .bool, y64⟩] []⟩, ⟨none, .tv true⟩, oH] [] [] hX (by kernel_rfl) (allCons hb59 (allCons hb59 (allCons hb60 (allCons hb60 (allCons hb60 (allCons hb60 (allCons hb60 (allCons (f38_ok hc62) (allCons hb60 (allCons hb63 (allCons hb63 (allCons hb63 (allCons hb63 (allCons hb63 (allCons (f38_ok hc65) (allCons hb63 allNil)))))))))))))))) (fun _ h => (qThen (h.ht (cont y64 (of_some hT58)))))
                                  · exact HT.rgK [oH, oH, ⟨some true, .no⟩, ⟨none, .tv true⟩, oH, ⟨some true, .no⟩, ⟨some true, .no⟩, ⟨some true, .no⟩, ⟨some true, .no⟩, ⟨some true, .call [.imm tLI, .imm tLI] [⟨false, .bool, y61⟩] []⟩, ⟨none, .tv true⟩, oH, ⟨some false, .no⟩, ⟨some false, .no⟩, ⟨some false, .no⟩, ⟨some false, .no⟩, ⟨some false, .no⟩, ⟨none, .tv false⟩, oH] [] [] hX (by kernel_rfl) (allCons hb59 (allCons hb59 (allCons hb60 (allCons hb60 (allCons hb60 (allCons hb60 (allCons hb60 (allCons (f38_ok hc62) (allCons hb60 (allCons hb63 (allCons hb63 (allCons hb63 (allCons hb63 (allCons hb63 (allCons hb63 allNil))))))))))))))) (fun _ h => (qThen (h.ht (cont false (of_some hT58)))))
                                · exact HT.rgK [oH, oH, ⟨some true, .no⟩, ⟨none, .tv true⟩, oH, ⟨some false, .no⟩, ⟨some false, .no⟩, ⟨some false, .no⟩, ⟨some false, .no⟩, ⟨some false, .no⟩, ⟨none, .tv false⟩, oH, ⟨some false, .no⟩, ⟨some false, .no⟩, ⟨some false, .no⟩, ⟨some false, .no⟩, ⟨some false, .no⟩, ⟨none, .tv false⟩, oH] [] [] hX (by kernel_rfl) (allCons hb59 (allCons hb59 (allCons hb60 (allCons hb60 (allCons hb60 (allCons hb60 (allCons hb60 (allCons hb60 (allCons (rfl : false = false) (allCons (rfl : false = false) (allCons (rfl : false = false) (allCons (rfl : false = false) (allCons (rfl : false = false) (allCons (rfl : false = false) allNil)))))))))))))) (fun _ h => (qThen (h.ht (cont false (of_some hT58)))))
                              · exact HT.rgK [oH, oH, ⟨some false, .no⟩, ⟨none, .tv false⟩, oH, ⟨some false, .no⟩, ⟨some false, .no⟩, ⟨some false, .no⟩, ⟨some false, .no⟩, ⟨some false, .no⟩, ⟨none, .tv false⟩, oH, ⟨some false, .no⟩, ⟨some false, .no⟩, ⟨some false, .no⟩, ⟨some false, .no⟩, ⟨some false, .no⟩, ⟨none, .tv false⟩, oH] [] [] hX (by kernel_rfl) (allCons hb59 (allCons hb59 (allCons (rfl : false = false) (allCons (rfl : false = false) (allCons (rfl : false = false) (allCons (rfl : false = false) (allCons (rfl : false = false) (allCons (rfl : false = false) (allCons (rfl : false = false) (allCons (rfl : false = false) (allCons (rfl : false = false) (allCons (rfl : false = false) (allCons (rfl : false = false) (allCons (rfl : false = false) allNil)))))))))))))) (fun _ h => (qThen (h.ht (cont false (of_some hT58)))))
                      · rcases of_bif hT51 with ⟨hb66, hT51⟩ | ⟨hb66, hT51⟩
                        · exact HT.rgK [oH, oH, oH, oH, ⟨some true, .no⟩, ⟨some true, .no⟩, ⟨some true, .no⟩, ⟨none, .tv true⟩] [(0, 0), (5, 1), (6, 2), (3, 3), (4, 4)] [] hX (by kernel_rfl) (allCons hb66 (allCons hb66 (allCons hb66 (allCons hb66 allNil)))) (fun _ h => (qThen (h.ht (cont true (of_some hT51)))))
                        · exact HT.rgK [oH, oH, oH, oH, ⟨some false, .no⟩, ⟨some false, .no⟩, ⟨some false, .no⟩, ⟨none, .tv false⟩] [(0, 0), (5, 1), (6, 2), (3, 3), (4, 4)] [] hX (by kernel_rfl) (allCons hb66 (allCons hb66 (allCons hb66 (allCons hb66 allNil)))) (fun _ h => (qThen (h.ht (cont (y45.2 != y47.2) (of_some hT51)))))
                    · have hr := of_some hr
                      subst hr
                      exact (qBlockR (qThenR ⟨[bV false], [], [], by kernel_rfl, by kernel_rfl, rfl, by kernel_rfl, by kernel_rfl, trivial⟩))
                  · refine HT.rg2 [oH] ⟨[(16, pV 0 0), (17, aV 1), (21, bV y34.1), (25, bV s42.1), (219, iV (lenI y30.1)), (220, iV s42.2), (221, bV (decide (s42.2 < (lenI y30.1))))], [(0, .box [iC y28.1, iC y28.2.1, .all 2, .all 3]), (1, .seq tI y30.1), (2, .seq tI y28.2.2.1), (3, .seq .bool y28.2.2.2)], 4⟩ hX (by kernel_rfl) allNil ?_
                    refine HT.seq ?_
                    rcases of_bif hx69 with ⟨hb71, hx69⟩ | ⟨hb71, hx69⟩
                    · refine HT.cond1 rfl hb71 ?_
                      refine HT.skip (qThen ?_)
                      obtain ⟨w75, hT74, hx69⟩ := of_bind hx69
                      refine HT.join (fun (v72 : Bool) => ⟨[(16, pV 0 0), (17, aV 1), (21, bV y34.1), (25, bV v72), (219, iV (lenI y30.1)), (220, iV s42.2)], [(0, .box [iC y28.1, iC y28.2.1, .all 2, .all 3]), (1, .seq tI y30.1), (2, .seq tI y28.2.2.1), (3, .seq .bool y28.2.2.2)], 4⟩) (fun v => w75 = Sum.inl v) (fun v72 hv73 => ?_) (fun cont => ?_)
                      · subst hv73
                        have hx69 := of_some hx69
                        subst hx69
                        exact HT.rgK (oHs 2) [(0, 0), (1, 1), (2, 2), (3, 3)] [] hX (by kernel_rfl) allNil (fun _ h => (qLoopN ⟨(v72, (wadd .i64 s42.2 (1 : Int))), rfl, h⟩))
                      · refine HT.block ?_
                        refine HT.rg2 (oHs 2) ⟨[(16, pV 0 0), (17, aV 1), (21, bV y34.1), (25, bV s42.1), (26, iV s42.2), (219, iV (lenI y30.1)), (220, iV s42.2)], [(0, .box [iC y28.1, iC y28.2.1, .all 2, .all 3]), (1, .seq tI y30.1), (2, .seq tI y28.2.2.1), (3, .seq .bool y28.2.2.2)], 4⟩ hX (by kernel_rfl) allNil ?_
                        refine HT.seq ?_
                        obtain ⟨v76', hT78, hT74⟩ := of_bind hT74
                        refine HT.join (fun (v76 : Bool) => ⟨[(16, pV 0 0), (17, aV 1), (21, bV y34.1), (25, bV s42.1), (26, iV s42.2), (219, iV (lenI y30.1)), (220, iV s42.2), (236, bV v76)], [(0, .box [iC y28.1, iC y28.2.1, .all 2, .all 3]), (1, .seq tI y30.1), (2, .seq tI y28.2.2.1), (3, .seq .bool y28.2.2.2)], 4⟩) (fun v => v = v76') (fun v76 hv77 => ?_) (fun cont => ?_)
                        · subst hv77
                          rcases of_bif hT74 with ⟨hb79, hT74⟩ | ⟨hb79, hT74⟩
                          · refine HT.cond1 rfl hb79 ?_
                            refine HT.rg2 [oH] ⟨[(4, bV false)], [], 4⟩ hX (by kernel_rfl) allNil ?_
                            obtain ⟨z80, hT82, hz81⟩ := of_inr hT74
                            subst hz81
                            have hx69 := hT82.trans hx69
                            have hx69 := of_some hx69
                            subst hx69
                            exact HT.retL (Le.re [] [] hX (by kernel_rfl)) (qThenR (qBlockR (qThenR (qLoopR (hk70 (.inr ()) rfl)))))
                          · refine HT.cond0 rfl hb79 ?_
                            refine HT.skip (qThen ?_)
                            rcases of_bif hT74 with ⟨hb83, hT74⟩ | ⟨hb83, hT74⟩
                            · exact HT.drK 8 [⟨oH, []⟩, ⟨oH, [0]⟩, ⟨⟨some true, .no⟩, [0, 1]⟩, ⟨⟨some true, .no⟩, [0, 1, 2]⟩, ⟨⟨some true, .no⟩, [0, 1]⟩, ⟨⟨some true, .no⟩, [0, 1]⟩, ⟨⟨some true, .no⟩, [0, 1, 4, 5]⟩, ⟨⟨some true, .no⟩, [0, 1, 4, 5, 6]⟩] [[0, 1, 2, 3, 4, 5, 6, 7], [0, 1, 2, 3, 4, 5, 6, 7, 8], [0, 1, 2, 3, 4, 5, 6, 7, 8, 9], [0, 1, 2, 3, 4, 5, 6, 7, 8, 9, 10]] [⟨some true, .no⟩, ⟨some true, .no⟩, ⟨none, .tv true⟩, oH] [(0, 0), (1, 1), (2, 2), (3, 3)] [] hX (by kernel_rfl) (by kernel_rfl) (allCons hb83 (allCons hb83 (allCons hb83 (allCons hb83 (allCons hb83 (allCons hb83 (allCons hb83 (allCons hb83 (allCons hb83 allNil))))))))) (fun _ h => (qBlock (qThen (h.ht (cont true (of_some2 hT74))))))
                            · obtain ⟨hg84, hT74⟩ := of_guard hT74
                              obtain ⟨hg85, hT74⟩ := of_guard hT74
                              exact HT.drK 8 [⟨oH, []⟩, ⟨oH, [0]⟩, ⟨⟨some false, .no⟩, [0, 1]⟩, ⟨⟨some false, .no⟩, [0, 1, 2]⟩, ⟨⟨some false, .no⟩, [0, 1]⟩, ⟨⟨some false, .no⟩, [0, 1]⟩, ⟨⟨some false, .no⟩, [0, 1, 4, 5]⟩, ⟨⟨some false, .no⟩, [0, 1, 4, 5, 6]⟩] [[0, 1, 2, 3, 4, 5, 6, 7], [0, 1, 2, 3, 4, 5, 6, 7, 8], [0, 1, 2, 3, 4, 5, 6, 7, 8, 9], [0, 1, 2, 3, 4, 5, 6, 7, 8, 9, 10]] [⟨some false, .no⟩, ⟨some false, .no⟩, ⟨none, .tv false⟩, oH] [(0, 0), (1, 1), (2, 2), (3, 3)] [] hX (by kernel_rfl) (by kernel_rfl) (allCons hb83 (allCons hb83 (allCons hb83 (allCons hb83 (allCons hb83 (allCons hg84 (allCons hb83 (allCons (natLt hg84) (allCons hb83 (allCons hg85 (allCons hb83 (allCons (natLt hg85) (allCons hb83 allNil))))))))))))) (fun _ h => (qBlock (qThen (h.ht (cont (List.getD y28.2.2.2 (Int.toNat (List.getD y30.1 (Int.toNat s42.2) (0 : Int))) false) (of_some2 hT74))))))
                        · obtain ⟨hg86, hT78⟩ := of_guard hT78
                          rcases of_bif hT78 with ⟨hb87, hT78⟩ | ⟨hb87, hT78⟩
                          · exact HT.drK 12 [⟨oH, []⟩, ⟨oH, []⟩, ⟨oH, [0, 1]⟩, ⟨oH, [0, 1, 2]⟩, ⟨oH, [0, 1, 2, 3]⟩, ⟨oH, [0, 1, 2, 3, 4]⟩, ⟨⟨some true, .no⟩, [0, 1, 2, 3, 4, 5]⟩, ⟨⟨some true, .no⟩, [0, 1, 2, 3, 4, 5]⟩, ⟨⟨some true, .no⟩, [0, 1, 2, 3, 4, 5, 6, 7]⟩, ⟨⟨some true, .no⟩, [0, 1, 2, 3, 4, 5, 6, 7, 8]⟩, ⟨⟨some true, .no⟩, [0, 1, 2, 3, 4, 5]⟩, ⟨⟨some true, .no⟩, [0, 1, 2, 3, 4, 5, 10]⟩] [[0, 1, 2, 3, 4, 5, 6, 7, 8, 9, 10, 11], [0, 1, 2, 3, 4, 5, 6, 7, 8, 9, 10, 11, 12]] [⟨some true, .no⟩, ⟨none, .tv true⟩] [(0, 0), (1, 1), (2, 2), (3, 3)] [] hX (by kernel_rfl) (by kernel_rfl) (allCons hg86 (allCons (natLt hg86) (allCons hb87 (allCons hb87 (allCons hb87 (allCons hb87 (allCons hb87 (allCons hb87 (allCons hb87 (allCons hb87 allNil)))))))))) (fun _ h => (qThen (h.ht (cont true (of_some hT78)))))
                          · exact HT.drK 12 [⟨oH, []⟩, ⟨oH, []⟩, ⟨oH, [0, 1]⟩, ⟨oH, [0, 1, 2]⟩, ⟨oH, [0, 1, 2, 3]⟩, ⟨oH, [0, 1, 2, 3, 4]⟩, ⟨⟨some false, .no⟩, [0, 1, 2, 3, 4, 5]⟩, ⟨⟨some false, .no⟩, [0, 1, 2, 3, 4, 5]⟩, ⟨⟨some false, .no⟩, [0, 1, 2, 3, 4, 5, 6, 7]⟩, ⟨⟨some false, .no⟩, [0, 1, 2, 3, 4, 5, 6, 7, 8]⟩, ⟨⟨some false, .no⟩, [0, 1, 2, 3, 4, 5]⟩, ⟨⟨some false, .no⟩, [0, 1, 2, 3, 4, 5, 10]⟩] [[0, 1, 2, 3, 4, 5, 6, 7, 8, 9, 10, 11], [0, 1, 2, 3, 4, 5, 6, 7, 8, 9, 10, 11, 12]] [⟨some false, .no⟩, ⟨none, .tv false⟩] [(0, 0), (1, 1), (2, 2), (3, 3)] [] hX (by kernel_rfl) (by kernel_rfl) (allCons hg86 (allCons (natLt hg86) (allCons hb87 (allCons hb87 (allCons hb87 (allCons hg86 (allCons hb87 (allCons (natLt hg86) (allCons hb87 (allCons hb87 (allCons hb87 (allCons hb87 allNil)))))))))))) (fun _ h => (qThen (h.ht (cont (decide ((List.getD y30.1 (Int.toNat s42.2) (0 : Int)) ≥ y28.1)) (of_some hT78)))))
                    · refine HT.cond0 rfl hb71 ?_
                      have hx69 := of_some hx69
                      subst hx69
                      exact HT.exitL (Le.re [(0, 0), (2, 1), (3, 2)] [] hX (by kernel_rfl)) (qThenE (qLoopE (hk70 (.inl s42.1) rfl)))
              · rcases of_bif hT40 with ⟨hb89, hT40⟩ | ⟨hb89, hT40⟩
                · exact HT.rgK [oH, oH, oH, ⟨some true, .no⟩, ⟨some true, .no⟩, ⟨none, .tv true⟩, oH, ⟨some true, .no⟩, ⟨some true, .no⟩, ⟨none, .tv true⟩, oH, ⟨some true, .no⟩, ⟨some true, .no⟩, ⟨none, .tv true⟩, oH, ⟨some true, .no⟩, ⟨some true, .no⟩, ⟨some true, .no⟩, ⟨some true, .no⟩, ⟨none, .tv true⟩, oH, ⟨some true, .no⟩, ⟨some true, .no⟩, ⟨some true, .no⟩, ⟨none, .tv true⟩, oH, ⟨some true, .no⟩, ⟨some true, .no⟩, ⟨some true, .no⟩, ⟨none, .tv true⟩] [(8, 0), (9, 1), (6, 2), (7, 3)] [] hX (by kernel_rfl) (allCons hb89 (allCons hb89 (allCons hb89 (allCons (rfl : true = true) (allCons (rfl : true = true) (allCons (rfl : true = true) (allCons (rfl : true = true) (allCons (rfl : true = true) (allCons (rfl : true = true) (allCons (rfl : true = true) (allCons (rfl : true = true) (allCons (rfl : true = true) (allCons (rfl : true = true) (allCons (rfl : true = true) (allCons (rfl : true = true) (allCons (rfl : true = true) (allCons (rfl : true = true) (allCons (rfl : true = true) (allCons (rfl : true = true) (allCons (rfl : true = true) (allCons (rfl : true = true) (allCons (rfl : true = true) allNil)))))))))))))))))))))) (fun _ h => (qThen (h.ht (cont true (of_some hT40)))))
                · rcases of_bif hT40 with ⟨hb90, hT40⟩ | ⟨hb90, hT40⟩
                  · exact HT.rgK [oH, oH, oH, ⟨some false, .no⟩, ⟨some false, .no⟩, ⟨none, .tv false⟩, oH, ⟨some true, .no⟩, ⟨some true, .no⟩, ⟨none, .tv true⟩, oH, ⟨some true, .no⟩, ⟨some true, .no⟩, ⟨none, .tv true⟩, oH, ⟨some true, .no⟩, ⟨some true, .no⟩, ⟨some true, .no⟩, ⟨some true, .no⟩, ⟨none, .tv true⟩, oH, ⟨some true, .no⟩, ⟨some true, .no⟩, ⟨some true, .no⟩, ⟨none, .tv true⟩, oH, ⟨some true, .no⟩, ⟨some true, .no⟩, ⟨some true, .no⟩, ⟨none, .tv true⟩] [(8, 0), (9, 1), (6, 2), (7, 3)] [] hX (by kernel_rfl) (allCons hb89 (allCons hb89 (allCons hb89 (allCons hb90 (allCons hb90 (allCons hb90 (allCons (rfl : true = true) (allCons (rfl : true = true) (allCons (rfl : true = true) (allCons (rfl : true = true) (allCons (rfl : true = true) (allCons (rfl : true = true) (allCons (rfl : true = true) (allCons (rfl : true = true) (allCons (rfl : true = true) (allCons (rfl : true = true) (allCons (rfl : true = true) (allCons (rfl : true = true) (allCons (rfl : true = true) (allCons (rfl : true = true) (allCons (rfl : true = true) (allCons (rfl : true = true) allNil)))))))))))))))))))))) (fun _ h => (qThen (h.ht (cont true (of_some hT40)))))
                  · rcases of_bif hT40 with ⟨hb91, hT40⟩ | ⟨hb91, hT40⟩
                    · exact HT.rgK [oH, oH, oH, ⟨some false, .no⟩, ⟨some false, .no⟩, ⟨none, .tv false⟩, oH, ⟨some false, .no⟩, ⟨some false, .no⟩, ⟨none, .tv false⟩, oH, ⟨some true, .no⟩, ⟨some true, .no⟩, ⟨none, .tv true⟩, oH, ⟨some true, .no⟩, ⟨some true, .no⟩, ⟨some true, .no⟩, ⟨some true, .no⟩, ⟨none, .tv true⟩, oH, ⟨some true, .no⟩, ⟨some true, .no⟩, ⟨some true, .no⟩, ⟨none, .tv true⟩, oH, ⟨some true, .no⟩, ⟨some true, .no⟩, ⟨some true, .no⟩, ⟨none, .tv true⟩] [(8, 0), (9, 1), (6, 2), (7, 3)] [] hX (by kernel_rfl) (allCons hb89 (allCons hb89 (allCons hb89 (allCons hb90 (allCons hb90 (allCons hb90 (allCons hb91 (allCons hb91 (allCons hb91 (allCons (rfl : true = true) (allCons (rfl : true = true) (allCons (rfl : true = true) (allCons (rfl : true = true) (allCons (rfl : true = true) (allCons (rfl : true = true) (allCons (rfl : true = true) (allCons (rfl : true = true) (allCons (rfl : true = true) (allCons (rfl : true = true) (allCons (rfl : true = true) (allCons (rfl : true = true) (allCons (rfl : true = true) allNil)))))))))))))))))))))) (fun _ h => (qThen (h.ht (cont true (of_some hT40)))))
                    · rcases of_bif hT40 with ⟨hb92, hT40⟩ | ⟨hb92, hT40⟩
                      · exact HT.rgK [oH, oH, oH, ⟨some false, .no⟩, ⟨some false, .no⟩, ⟨none, .tv false⟩, oH, ⟨some false, .no⟩, ⟨some false, .no⟩, ⟨none, .tv false⟩, oH, ⟨some false, .no⟩, ⟨some false, .no⟩, ⟨none, .tv false⟩, oH, ⟨some true, .no⟩, ⟨some true, .no⟩, ⟨some true, .no⟩, ⟨some true, .no⟩, ⟨none, .tv true⟩, oH, ⟨some true, .no⟩, ⟨some true, .no⟩, ⟨some true, .no⟩, ⟨none, .tv true⟩, oH, ⟨some true, .no⟩, ⟨some true, .no⟩, ⟨some true, .no⟩, ⟨none, .tv true⟩] [(8, 0), (9, 1), (6, 2), (7, 3)] [] hX (by kernel_rfl) (allCons hb89 (allCons hb89 (allCons hb89 (allCons hb90 (allCons hb90 (allCons hb90 (allCons hb91 (allCons hb91 (allCons hb91 (allCons hb92 (allCons hb92 (allCons hb92 (allCons hb92 (allCons hb92 (allCons (rfl : true = true) (allCons (rfl : true = true) (allCons (rfl : true = true) (allCons (rfl : true = true) (allCons (rfl : true = true) (allCons (rfl : true = true) (allCons (rfl : true = true) (allCons (rfl : true = true) allNil)))))))))))))))))))))) (fun _ h => (qThen (h.ht (cont true (of_some hT40)))))
                      · obtain ⟨y93, hc94, hT40⟩ := of_bind hT40
                        rcases of_bif hT40 with ⟨hb95, hT40⟩ | ⟨hb95, hT40⟩
                        · exact HT.rgK [oH, oH, oH, ⟨some false, .no⟩, ⟨some false, .no⟩, ⟨none, .tv false⟩, oH, ⟨some false, .no⟩, ⟨some false, .no⟩, ⟨none, .tv false⟩, oH, ⟨some false, .no⟩, ⟨some false, .no⟩, ⟨none, .tv false⟩, oH, ⟨some false, .no⟩, ⟨some false, .no⟩, ⟨some false, .call [.imm tLI, .imm tLI] [⟨false, .bool, y93⟩] []⟩, ⟨some false, .no⟩, ⟨none, .tv false⟩, oH, ⟨some true, .no⟩, ⟨some true, .no⟩, ⟨some true, .no⟩, ⟨none, .tv true⟩, oH, ⟨some true, .no⟩, ⟨some true, .no⟩, ⟨some true, .no⟩, ⟨none, .tv true⟩] [(8, 0), (9, 1), (6, 2), (7, 3)] [] hX (by kernel_rfl) (allCons hb89 (allCons hb89 (allCons hb89 (allCons hb90 (allCons hb90 (allCons hb90 (allCons hb91 (allCons hb91 (allCons hb91 (allCons hb92 (allCons hb92 (allCons hb92 (allCons (f38_ok hc94) (allCons hb92 (allCons hb92 (allCons hb95 (allCons hb95 (allCons hb95 (allCons hb95 (allCons (rfl : true = true) (allCons (rfl : true = true) (allCons (rfl : true = true) (allCons (rfl : true = true) allNil))))))))))))))))))))))) (fun _ h => (qThen (h.ht (cont true (of_some hT40)))))
                        · rcases of_bif hT40 with ⟨hb96, hT40⟩ | ⟨hb96, hT40⟩
                          · exact HT.rgK [oH, oH, oH, ⟨some false, .no⟩, ⟨some false, .no⟩, ⟨none, .tv false⟩, oH, ⟨some false, .no⟩, ⟨some false, .no⟩, ⟨none, .tv false⟩, oH, ⟨some false, .no⟩, ⟨some false, .no⟩, ⟨none, .tv false⟩, oH, ⟨some false, .no⟩, ⟨some false, .no⟩, ⟨some false, .call [.imm tLI, .imm tLI] [⟨false, .bool, y93⟩] []⟩, ⟨some false, .no⟩, ⟨none, .tv false⟩, oH, ⟨some false, .no⟩, ⟨some false, .no⟩, ⟨some false, .no⟩, ⟨none, .tv false⟩, oH, ⟨some true, .no⟩, ⟨some true, .no⟩, ⟨some true, .no⟩, ⟨none, .tv true⟩] [(8, 0), (9, 1), (6, 2), (7, 3)] [] hX (by kernel_rfl) (allCons hb89 (allCons hb89 (allCons hb89 (allCons hb90 (allCons hb90 (allCons hb90 (allCons hb91 (allCons hb91 (allCons hb91 (allCons hb92 (allCons hb92 (allCons hb92 (allCons (f38_ok hc94) (allCons hb92 (allCons hb92 (allCons hb95 (allCons hb95 (allCons hb95 (allCons hb95 (allCons hb96 (allCons hb96 (allCons hb96 (allCons hb96 allNil))))))))))))))))))))))) (fun _ h => (qThen (h.ht (cont true (of_some hT40)))))
                          · exact HT.rgK [oH, oH, oH, ⟨some false, .no⟩, ⟨some false, .no⟩, ⟨none, .tv false⟩, oH, ⟨some false, .no⟩, ⟨some false, .no⟩, ⟨none, .tv false⟩, oH, ⟨some false, .no⟩, ⟨some false, .no⟩, ⟨none, .tv false⟩, oH, ⟨some false, .no⟩, ⟨some false, .no⟩, ⟨some false, .call [.imm tLI, .imm tLI] [⟨false, .bool, y93⟩] []⟩, ⟨some false, .no⟩, ⟨none, .tv false⟩, oH, ⟨some false, .no⟩, ⟨some false, .no⟩, ⟨some false, .no⟩, ⟨none, .tv false⟩, oH, ⟨some false, .no⟩, ⟨some false, .no⟩, ⟨some false, .no⟩, ⟨none, .tv false⟩] [(8, 0), (9, 1), (6, 2), (7, 3)] [] hX (by kernel_rfl) (allCons hb89 (allCons hb89 (allCons hb89 (allCons hb90 (allCons hb90 (allCons hb90 (allCons hb91 (allCons hb91 (allCons hb91 (allCons hb92 (allCons hb92 (allCons hb92 (allCons (f38_ok hc94) (allCons hb92 (allCons hb92 (allCons hb95 (allCons hb95 (allCons hb95 (allCons hb95 (allCons hb96 (allCons hb96 (allCons hb96 (allCons hb96 allNil))))))))))))))))))))))) (fun _ h => (qThen (h.ht (cont (y34.1 != y36.1) (of_some hT40)))))
            · have hr := of_some hr
              subst hr
              exact (qBlockR (qThenR ⟨[bV false], [], [], by kernel_rfl, by kernel_rfl, rfl, by kernel_rfl, by kernel_rfl, trivial⟩))
          · refine HT.seq ?_
            refine HT.rg2 (oHs 2) ⟨[(0, .one (.dat (.sl (.int .u8)) a0)), (5, iV (wadd .i64 (1 : Int) y4)), (6, pV 0 0), (7, pV 1 0), (11, iV s25), (133, bV (decide (s25 < (30 : Int))))], [(0, .box [.all 2, .all 3]), (1, .box [.all 4, .all 5]), (2, .seq tI y8), (3, .seq tI v14), (4, .seq tI y17.1.1), (5, .seq tI y17.1.2)], 6⟩ hX (by kernel_rfl) allNil ?_
            rcases of_bif hx99 with ⟨hb101, hx99⟩ | ⟨hb101, hx99⟩
            · refine HT.cond1 rfl hb101 ?_
              refine HT.skip (qThen ?_)
              refine HT.seq ?_
              refine HT.block ?_
              obtain ⟨y102, hc103, hx99⟩ := of_bind hx99
              refine HT.rg2 [oH, oH, oH, ⟨none, .call [.imm (.st (.pair tLI tLI)), .imm tI, .imm tI] [⟨false, tI, y102.1⟩, ⟨false, .bool, y102.2⟩] []⟩, oH, oH, oH, oH, oH] ⟨[(0, .one (.dat (.sl (.int .u8)) a0)), (5, iV (wadd .i64 (1 : Int) y4)), (6, pV 0 0), (7, pV 1 0), (11, iV s25), (12, iV y102.1), (13, bV y102.2)], [(0, .box [.all 2, .all 3]), (1, .box [.all 4, .all 5]), (2, .seq tI y8), (3, .seq tI v14), (4, .seq tI y17.1.1), (5, .seq tI y17.1.2)], 6⟩ hX (by kernel_rfl) (allCons (f40_ok hc103) allNil) ?_
              obtain ⟨y104, hc105, hx99⟩ := of_bind hx99
              refine HT.rg2 [oH, oH, oH, ⟨none, .call [.imm (.st (.pair tLI tLI)), .imm tI, .imm tI] [⟨false, tI, y104.1⟩, ⟨false, .bool, y104.2⟩] []⟩, oH, oH, oH, oH, oH] ⟨[(0, .one (.dat (.sl (.int .u8)) a0)), (5, iV (wadd .i64 (1 : Int) y4)), (6, pV 0 0), (7, pV 1 0), (11, iV s25), (12, iV y102.1), (13, bV y102.2), (14, iV y104.1), (15, bV y104.2)], [(0, .box [.all 2, .all 3]), (1, .box [.all 4, .all 5]), (2, .seq tI y8), (3, .seq tI v14), (4, .seq tI y17.1.1), (5, .seq tI y17.1.2)], 6⟩ hX (by kernel_rfl) (allCons (f40_ok hc105) allNil) ?_
              obtain ⟨v106', hT108, hx99⟩ := of_bind hx99
              refine HT.join (fun (v106 : Bool) => ⟨[(0, .one (.dat (.sl (.int .u8)) a0)), (5, iV (wadd .i64 (1 : Int) y4)), (6, pV 0 0), (7, pV 1 0), (11, iV s25), (160, bV v106)], [(0, .box [.all 2, .all 3]), (1, .box [.all 4, .all 5]), (2, .seq tI y8), (3, .seq tI v14), (4, .seq tI y17.1.1), (5, .seq tI y17.1.2)], 6⟩) (fun v => v = v106') (fun v106 hv107 => ?_) (fun cont => ?_)
              · subst hv107
                rcases of_bif hx99 with ⟨hb109, hx99⟩ | ⟨hb109, hx99⟩
                · refine HT.cond1 rfl hb109 ?_
                  refine HT.rg2 [oH] ⟨[(4, bV false)], [], 6⟩ hX (by kernel_rfl) allNil ?_
                  have hx99 := of_some hx99
                  subst hx99
                  exact HT.retL (Le.re [] [] hX (by kernel_rfl)) (qBlockR (qThenR (qLoopR (hk100 (.inr ()) rfl))))
                · refine HT.cond0 rfl hb109 ?_
                  refine HT.skip (qBlock (qThen ?_))
                  have hx99 := of_some hx99
                  subst hx99
                  exact HT.rgK (oHs 3) [(0, 0), (1, 1), (2, 2), (3, 3), (4, 4), (5, 5)] [] hX (by kernel_rfl) allNil (fun _ h => (qLoopN ⟨(wadd .i64 s25 (1 : Int)), rfl, h⟩))
              · rcases of_bif hT108 with ⟨hb110, hT108⟩ | ⟨hb110, hT108⟩
                · exact HT.rgK [oH, oH, oH, ⟨some true, .no⟩, ⟨some true, .no⟩, ⟨none, .tv true⟩, oH, ⟨some true, .no⟩, ⟨some true, .no⟩, ⟨some true, .no⟩, ⟨none, .tv true⟩] [(0, 0), (1, 1), (2, 2), (3, 3), (4, 4), (5, 5)] [] hX (by kernel_rfl) (allCons hb110 (allCons hb110 (allCons hb110 (allCons (rfl : true = true) (allCons (rfl : true = true) (allCons (rfl : true = true) (allCons (rfl : true = true) allNil))))))) (fun _ h => (qThen (h.ht (cont true (of_some hT108)))))
                · rcases of_bif hT108 with ⟨hb111, hT108⟩ | ⟨hb111, hT108⟩
                  · exact HT.rgK [oH, oH, oH, ⟨some false, .no⟩, ⟨some false, .no⟩, ⟨none, .tv false⟩, oH, ⟨some true, .no⟩, ⟨some true, .no⟩, ⟨some true, .no⟩, ⟨none, .tv true⟩] [(0, 0), (1, 1), (2, 2), (3, 3), (4, 4), (5, 5)] [] hX (by kernel_rfl) (allCons hb110 (allCons hb110 (allCons hb110 (allCons hb111 (allCons hb111 (allCons hb111 (allCons hb111 allNil))))))) (fun _ h => (qThen (h.ht (cont true (of_some hT108)))))
                  · exact HT.rgK [oH, oH, oH, ⟨some false, .no⟩, ⟨some false, .no⟩, ⟨none, .tv false⟩, oH, ⟨some false, .no⟩, ⟨some false, .no⟩, ⟨some false, .no⟩, ⟨none, .tv false⟩] [(0, 0), (1, 1), (2, 2), (3, 3), (4, 4), (5, 5)] [] hX (by kernel_rfl) (allCons hb110 (allCons hb110 (allCons hb110 (allCons hb111 (allCons hb111 (allCons hb111 (allCons hb111 allNil))))))) (fun _ h => (qThen (h.ht (cont (y102.1 != y104.1) (of_some hT108)))))
            · refine HT.cond0 rfl hb101 ?_
              have hx99 := of_some hx99
              subst hx99
              exact HT.exitL (Le.re [(0, 0), (1, 1), (2, 2), (3, 3), (4, 4), (5, 5)] [] hX (by kernel_rfl)) (qThenE (qLoopE (hk100 (.inl ()) rfl)))
      · rcases of_bif hT23 with ⟨hb113, hT23⟩ | ⟨hb113, hT23⟩
        · exact HT.rgK [oH, oH, oH, ⟨some true, .no⟩, ⟨some true, .no⟩, ⟨none, .tv true⟩, oH, ⟨some true, .no⟩, ⟨some true, .no⟩, ⟨some true, .no⟩, ⟨some true, .no⟩, ⟨none, .tv true⟩, oH, ⟨some true, .no⟩, ⟨some true, .no⟩, ⟨some true, .no⟩, ⟨some true, .no⟩, ⟨some true, .no⟩, ⟨some true, .no⟩, ⟨none, .tv true⟩, oH, ⟨some true, .no⟩, ⟨some true, .no⟩, ⟨some true, .no⟩, ⟨some true, .no⟩, ⟨some true, .no⟩, ⟨some true, .no⟩, ⟨none, .tv true⟩, oH, ⟨some true, .no⟩, ⟨some true, .no⟩, ⟨some true, .no⟩, ⟨some true, .no⟩, ⟨none, .tv true⟩, oH, ⟨some true, .no⟩, ⟨some true, .no⟩, ⟨some true, .no⟩, ⟨some true, .no⟩, ⟨some true, .no⟩, ⟨some true, .no⟩, ⟨some true, .no⟩, ⟨none, .tv true⟩, oH, ⟨some true, .no⟩, ⟨some true, .no⟩, ⟨some true, .no⟩, ⟨some true, .no⟩, ⟨some true, .no⟩, ⟨some true, .no⟩, ⟨some true, .no⟩, ⟨none, .tv true⟩] [(0, 0), (5, 1), (1, 2), (2, 3), (3, 4), (4, 5)] [] hX (by kernel_rfl) (allCons hb113 (allCons hb113 (allCons hb113 (allCons (rfl : true = true) (allCons (rfl : true = true) (allCons (rfl : true = true) (allCons (rfl : true = true) (allCons (rfl : true = true) (allCons (rfl : true = true) (allCons (rfl : true = true) (allCons (rfl : true = true) (allCons (rfl : true = true) (allCons (rfl : true = true) (allCons (rfl : true = true) (allCons (rfl : true = true) (allCons (rfl : true = true) (allCons (rfl : true = true) (allCons (rfl : true = true) (allCons (rfl : true = true) (allCons (rfl : true = true) (allCons (rfl : true = true) (allCons (rfl : true = true) (allCons (rfl : true = true) (allCons (rfl : true = true) (allCons (rfl : true = true) (allCons (rfl : true = true) (allCons (rfl : true = true) (allCons (rfl : true = true) (allCons (rfl : true = true) (allCons (rfl : true = true) (allCons (rfl : true = true) (allCons (rfl : true = true) (allCons (rfl : true = true) (allCons (rfl : true = true) (allCons (rfl : true = true) (allCons (rfl : true = true) (allCons (rfl : true = true) (allCons (rfl : true = true) (allCons (rfl : true = true) (allCons (rfl : true = true) (allCons (rfl : true = true) (allCons (rfl : true = true) (allCons (rfl : true = true) allNil))))))))))))))))))))))))))))))))))))))))))) (fun _ h => (qThen (h.ht (cont true (of_some hT23)))))
        · rcases of_bif hT23 with ⟨hb114, hT23⟩ | ⟨hb114, hT23⟩
          · exact HT.rgK [oH, oH, oH, ⟨some false, .no⟩, ⟨some false, .no⟩, ⟨none, .tv false⟩, oH, ⟨some true, .no⟩, ⟨some true, .no⟩, ⟨some true, .no⟩, ⟨some true, .no⟩, ⟨none, .tv true⟩, oH, ⟨some true, .no⟩, ⟨some true, .no⟩, ⟨some true, .no⟩, ⟨some true, .no⟩, ⟨some true, .no⟩, ⟨some true, .no⟩, ⟨none, .tv true⟩, oH, ⟨some true, .no⟩, ⟨some true, .no⟩, ⟨some true, .no⟩, ⟨some true, .no⟩, ⟨some true, .no⟩, ⟨some true, .no⟩, ⟨none, .tv true⟩, oH, ⟨some true, .no⟩, ⟨some true, .no⟩, ⟨some true, .no⟩, ⟨some true, .no⟩, ⟨none, .tv true⟩, oH, ⟨some true, .no⟩, ⟨some true, .no⟩, ⟨some true, .no⟩, ⟨some true, .no⟩, ⟨some true, .no⟩, ⟨some true, .no⟩, ⟨some true, .no⟩, ⟨none, .tv true⟩, oH, ⟨some true, .no⟩, ⟨some true, .no⟩, ⟨some true, .no⟩, ⟨some true, .no⟩, ⟨some true, .no⟩, ⟨some true, .no⟩, ⟨some true, .no⟩, ⟨none, .tv true⟩] [(0, 0), (5, 1), (1, 2), (2, 3), (3, 4), (4, 5)] [] hX (by kernel_rfl) (allCons hb113 (allCons hb113 (allCons hb113 (allCons hb114 (allCons hb114 (allCons hb114 (allCons hb114 (allCons hb114 (allCons (rfl : true = true) (allCons (rfl : true = true) (allCons (rfl : true = true) (allCons (rfl : true = true) (allCons (rfl : true = true) (allCons (rfl : true = true) (allCons (rfl : true = true) (allCons (rfl : true = true) (allCons (rfl : true = true) (allCons (rfl : true = true) (allCons (rfl : true = true) (allCons (rfl : true = true) (allCons (rfl : true = true) (allCons (rfl : true = true) (allCons (rfl : true = true) (allCons (rfl : true = true) (allCons (rfl : true = true) (allCons (rfl : true = true) (allCons (rfl : true = true) (allCons (rfl : true = true) (allCons (rfl : true = true) (allCons (rfl : true = true) (allCons (rfl : true = true) (allCons (rfl : true = true) (allCons (rfl : true = true) (allCons (rfl : true = true) (allCons (rfl : true = true) (allCons (rfl : true = true) (allCons (rfl : true = true) (allCons (rfl : true = true) (allCons (rfl : true = true) (allCons (rfl : true = true) (allCons (rfl : true = true) (allCons (rfl : true = true) (allCons (rfl : true = true) allNil))))))))))))))))))))))))))))))))))))))))))) (fun _ h => (qThen (h.ht (cont true (of_some hT23)))))
          · obtain ⟨y115, hc116, hT23⟩ := of_bind hT23
            rcases of_bif hT23 with ⟨hb117, hT23⟩ | ⟨hb117, hT23⟩
            · exact HT.rgK [oH, oH, oH, ⟨some false, .no⟩, ⟨some false, .no⟩, ⟨none, .tv false⟩, oH, ⟨some false, .no⟩, ⟨some false, .no⟩, ⟨some false, .call [.imm (.st (.pair tLI tLI)), .imm tI] [⟨false, .bool, y115⟩] []⟩, ⟨some false, .no⟩, ⟨none, .tv false⟩, oH, ⟨some true, .no⟩, ⟨some true, .no⟩, ⟨some true, .no⟩, ⟨some true, .no⟩, ⟨some true, .no⟩, ⟨some true, .no⟩, ⟨none, .tv true⟩, oH, ⟨some true, .no⟩, ⟨some true, .no⟩, ⟨some true, .no⟩, ⟨some true, .no⟩, ⟨some true, .no⟩, ⟨some true, .no⟩, ⟨none, .tv true⟩, oH, ⟨some true, .no⟩, ⟨some true, .no⟩, ⟨some true, .no⟩, ⟨some true, .no⟩, ⟨none, .tv true⟩, oH, ⟨some true, .no⟩, ⟨some true, .no⟩, ⟨some true, .no⟩, ⟨some true, .no⟩, ⟨some true, .no⟩, ⟨some true, .no⟩, ⟨some true, .no⟩, ⟨none, .tv true⟩, oH, ⟨some true, .no⟩, ⟨some true, .no⟩, ⟨some true, .no⟩, ⟨some true, .no⟩, ⟨some true, .no⟩, ⟨some true, .no⟩, ⟨some true, .no⟩, ⟨none, .tv true⟩] [(0, 0), (5, 1), (1, 2), (2, 3), (3, 4), (4, 5)] [] hX (by kernel_rfl) (allCons hb113 (allCons hb113 (allCons hb113 (allCons hb114 (allCons hb114 (allCons hb114 (allCons (f37_ok hc116) (allCons hb114 (allCons hb114 (allCons hb117 (allCons hb117 (allCons hb117 (allCons hb117 (allCons hb117 (allCons hb117 (allCons hb117 (allCons (rfl : true = true) (allCons (rfl : true = true) (allCons (rfl : true = true) (allCons (rfl : true = true) (allCons (rfl : true = true) (allCons (rfl : true = true) (allCons (rfl : true = true) (allCons (rfl : true = true) (allCons (rfl : true = true) (allCons (rfl : true = true) (allCons (rfl : true = true) (allCons (rfl : true = true) (allCons (rfl : true = true) (allCons (rfl : true = true) (allCons (rfl : true = true) (allCons (rfl : true = true) (allCons (rfl : true = true) (allCons (rfl : true = true) (allCons (rfl : true = true) (allCons (rfl : true = true) (allCons (rfl : true = true) (allCons (rfl : true = true) (allCons (rfl : true = true) (allCons (rfl : true = true) (allCons (rfl : true = true) (allCons (rfl : true = true) (allCons (rfl : true = true) (allCons (rfl : true = true) allNil)))))))))))))))))))))))))))))))))))))))))))) (fun _ h => (qThen (h.ht (cont true (of_some hT23)))))
            · obtain ⟨y118, hc119, hT23⟩ := of_bind hT23
              rcases of_bif hT23 with ⟨hb120, hT23⟩ | ⟨hb120, hT23⟩
              · exact HT.rgK [oH, oH, oH, ⟨some false, .no⟩, ⟨some false, .no⟩, ⟨none, .tv false⟩, oH, ⟨some false, .no⟩, ⟨some false, .no⟩, ⟨some false, .call [.imm (.st (.pair tLI tLI)), .imm tI] [⟨false, .bool, y115⟩] []⟩, ⟨some false, .no⟩, ⟨none, .tv false⟩, oH, ⟨some false, .no⟩, ⟨some false, .no⟩, ⟨some false, .no⟩, ⟨some false, .no⟩, ⟨some false, .call [.imm tLI, .imm tLI] [⟨false, .bool, y118⟩] []⟩, ⟨some false, .no⟩, ⟨none, .tv false⟩, oH, ⟨some true, .no⟩, ⟨some true, .no⟩, ⟨some true, .no⟩, ⟨some true, .no⟩, ⟨some true, .no⟩, ⟨some true, .no⟩, ⟨none, .tv true⟩, oH, ⟨some true, .no⟩, ⟨some true, .no⟩, ⟨some true, .no⟩, ⟨some true, .no⟩, ⟨none, .tv true⟩, oH, ⟨some true, .no⟩, ⟨some true, .no⟩, ⟨some true, .no⟩, ⟨some true, .no⟩, ⟨some true, .no⟩, ⟨some true, .no⟩, ⟨some true, .no⟩, ⟨none, .tv true⟩, oH, ⟨some true, .no⟩, ⟨some true, .no⟩, ⟨some true, .no⟩, ⟨some true, .no⟩, ⟨some true, .no⟩, ⟨some true, .no⟩, ⟨some true, .no⟩, ⟨none, .tv true⟩] [(0, 0), (5, 1), (1, 2), (2, 3), (3, 4), (4, 5)] [] hX (by kernel_rfl) (allCons hb113 (allCons hb113 (allCons hb113 (allCons hb114 (allCons hb114 (allCons hb114 (allCons (f37_ok hc116) (allCons hb114 (allCons hb114 (allCons hb117 (allCons hb117 (allCons hb117 (allCons hb117 (allCons hb117 (allCons (f38_ok hc119) (allCons hb117 (allCons hb117 (allCons hb120 (allCons hb120 (allCons hb120 (allCons hb120 (allCons hb120 (allCons hb120 (allCons hb120 (allCons (rfl : true = true) (allCons (rfl : true = true) (allCons (rfl : true = true) (allCons (rfl : true = true) (allCons (rfl : true = true) (allCons (rfl : true = true) (allCons (rfl : true = true) (allCons (rfl : true = true) (allCons (rfl : true = true) (allCons (rfl : true = true) (allCons (rfl : true = true) (allCons (rfl : true = true) (allCons (rfl : true = true) (allCons (rfl : true = true) (allCons (rfl : true = true) (allCons (rfl : true = true) (allCons (rfl : true = true) (allCons (rfl : true = true) (allCons (rfl : true = true) (allCons (rfl : true = true) (allCons (rfl : true = true) allNil))))))))))))))))))))))))))))))))))))))))))))) (fun _ h => (qThen (h.ht (cont true (of_some hT23)))))
              · obtain ⟨y121, hc122, hT23⟩ := of_bind hT23
                rcases of_bif hT23 with ⟨hb123, hT23⟩ | ⟨hb123, hT23⟩
                · exact HT.rgK [oH, oH, oH, ⟨some false, .no⟩, ⟨some false, .no⟩, ⟨none, .tv false⟩, oH, ⟨some false, .no⟩, ⟨some false, .no⟩, ⟨some false, .call [.imm (.st (.pair tLI tLI)), .imm tI] [⟨false, .bool, y115⟩] []⟩, ⟨some false, .no⟩, ⟨none, .tv false⟩, oH, ⟨some false, .no⟩, ⟨some false, .no⟩, ⟨some false, .no⟩, ⟨some false, .no⟩, ⟨some false, .call [.imm tLI, .imm tLI] [⟨false, .bool, y118⟩] []⟩, ⟨some false, .no⟩, ⟨none, .tv false⟩, oH, ⟨some false, .no⟩, ⟨some false, .no⟩, ⟨some false, .no⟩, ⟨some false, .no⟩, ⟨some false, .call [.imm tLI, .imm tLI] [⟨false, .bool, y121⟩] []⟩, ⟨some false, .no⟩, ⟨none, .tv false⟩, oH, ⟨some true, .no⟩, ⟨some true, .no⟩, ⟨some true, .no⟩, ⟨some true, .no⟩, ⟨none, .tv true⟩, oH, ⟨some true, .no⟩, ⟨some true, .no⟩, ⟨some true, .no⟩, ⟨some true, .no⟩, ⟨some true, .no⟩, ⟨some true, .no⟩, ⟨some true, .no⟩, ⟨none, .tv true⟩, oH, ⟨some true, .no⟩, ⟨some true, .no⟩, ⟨some true, .no⟩, ⟨some true, .no⟩, ⟨some true, .no⟩, ⟨some true, .no⟩, ⟨some true, .no⟩, ⟨none, .tv true⟩] [(0, 0), (5, 1), (1, 2), (2, 3), (3, 4), (4, 5)] [] hX (by kernel_rfl) (allCons hb113 (allCons hb113 (allCons hb113 (allCons hb114 (allCons hb114 (allCons hb114 (allCons (f37_ok hc116) (allCons hb114 (allCons hb114 (allCons hb117 (allCons hb117 (allCons hb117 (allCons hb117 (allCons hb117 (allCons (f38_ok hc119) (allCons hb117 (allCons hb117 (allCons hb120 (allCons hb120 (allCons hb120 (allCons hb120 (allCons hb120 (allCons (f38_ok hc122) (allCons hb120 (allCons hb120 (allCons hb123 (allCons hb123 (allCons hb123 (allCons hb123 (allCons hb123 (allCons (rfl : true = true) (allCons (rfl : true = true) (allCons (rfl : true = true) (allCons (rfl : true = true) (allCons (rfl : true = true) (allCons (rfl : true = true) (allCons (rfl : true = true) (allCons (rfl : true = true) (allCons (rfl : true = true) (allCons (rfl : true = true) (allCons (rfl : true = true) (allCons (rfl : true = true) (allCons (rfl : true = true) (allCons (rfl : true = true) (allCons (rfl : true = true) (allCons (rfl : true = true) allNil)))))))))))))))))))))))))))))))))))))))))))))) (fun _ h => (qThen (h.ht (cont true (of_some hT23)))))
                · obtain ⟨y124, hc125, hT23⟩ := of_bind hT23
                  rcases of_bif hT23 with ⟨hb126, hT23⟩ | ⟨hb126, hT23⟩
                  · exact HT.rgK [oH, oH, oH, ⟨some false, .no⟩, ⟨some false, .no⟩, ⟨none, .tv false⟩, oH, ⟨some false, .no⟩, ⟨some false, .no⟩, ⟨some false, .call [.imm (.st (.pair tLI tLI)), .imm tI] [⟨false, .bool, y115⟩] []⟩, ⟨some false, .no⟩, ⟨none, .tv false⟩, oH, ⟨some false, .no⟩, ⟨some false, .no⟩, ⟨some false, .no⟩, ⟨some false, .no⟩, ⟨some false, .call [.imm tLI, .imm tLI] [⟨false, .bool, y118⟩] []⟩, ⟨some false, .no⟩, ⟨none, .tv false⟩, oH, ⟨some false, .no⟩, ⟨some false, .no⟩, ⟨some false, .no⟩, ⟨some false, .no⟩, ⟨some false, .call [.imm tLI, .imm tLI] [⟨false, .bool, y121⟩] []⟩, ⟨some false, .no⟩, ⟨none, .tv false⟩, oH, ⟨some false, .no⟩, ⟨some false, .no⟩, ⟨some false, .call [.imm (.st (.pair tLI tLI)), .imm tI] [⟨false, .bool, y124⟩] []⟩, ⟨some false, .no⟩, ⟨none, .tv false⟩, oH, ⟨some true, .no⟩, ⟨some true, .no⟩, ⟨some true, .no⟩, ⟨some true, .no⟩, ⟨some true, .no⟩, ⟨some true, .no⟩, ⟨some true, .no⟩, ⟨none, .tv true⟩, oH, ⟨some true, .no⟩, ⟨some true, .no⟩, ⟨some true, .no⟩, ⟨some true, .no⟩, ⟨some true, .no⟩, ⟨some true, .no⟩, ⟨some true, .no⟩, ⟨none, .tv true⟩] [(0, 0), (5, 1), (1, 2), (2, 3), (3, 4), (4, 5)] [] hX (by kernel_rfl) (allCons hb113 (allCons hb113 (allCons hb113 (allCons hb114 (allCons hb114 (allCons hb114 (allCons (f37_ok hc116) (allCons hb114 (allCons hb114 (allCons hb117 (allCons hb117 (allCons hb117 (allCons hb117 (allCons hb117 (allCons (f38_ok hc119) (allCons hb117 (allCons hb117 (allCons hb120 (allCons hb120 (allCons hb120 (allCons hb120 (allCons hb120 (allCons (f38_ok hc122) (allCons hb120 (allCons hb120 (allCons hb123 (allCons hb123 (allCons hb123 (allCons (f39_ok hc125) (allCons hb123 (allCons hb123 (allCons hb126 (allCons hb126 (allCons hb126 (allCons hb126 (allCons hb126 (allCons hb126 (allCons hb126 (allCons hb126 (allCons (rfl : true = true) (allCons (rfl : true = true) (allCons (rfl : true = true) (allCons (rfl : true = true) (allCons (rfl : true = true) (allCons (rfl : true = true) (allCons (rfl : true = true) (allCons (rfl : true = true) allNil))))))))))))))))))))))))))))))))))))))))))))))) (fun _ h => (qThen (h.ht (cont true (of_some hT23)))))
                  · rcases of_bif hT23 with ⟨hb127, hT23⟩ | ⟨hb127, hT23⟩
                    · exact HT.rgK [oH, oH, oH, ⟨some false, .no⟩, ⟨some false, .no⟩, ⟨none, .tv false⟩, oH, ⟨some false, .no⟩, ⟨some false, .no⟩, ⟨some false, .call [.imm (.st (.pair tLI tLI)), .imm tI] [⟨false, .bool, y115⟩] []⟩, ⟨some false, .no⟩, ⟨none, .tv false⟩, oH, ⟨some false, .no⟩, ⟨some false, .no⟩, ⟨some false, .no⟩, ⟨some false, .no⟩, ⟨some false, .call [.imm tLI, .imm tLI] [⟨false, .bool, y118⟩] []⟩, ⟨some false, .no⟩, ⟨none, .tv false⟩, oH, ⟨some false, .no⟩, ⟨some false, .no⟩, ⟨some false, .no⟩, ⟨some false, .no⟩, ⟨some false, .call [.imm tLI, .imm tLI] [⟨false, .bool, y121⟩] []⟩, ⟨some false, .no⟩, ⟨none, .tv false⟩, oH, ⟨some false, .no⟩, ⟨some false, .no⟩, ⟨some false, .call [.imm (.st (.pair tLI tLI)), .imm tI] [⟨false, .bool, y124⟩] []⟩, ⟨some false, .no⟩, ⟨none, .tv false⟩, oH, ⟨some false, .no⟩, ⟨some false, .no⟩, ⟨some false, .no⟩, ⟨some false, .no⟩, ⟨some false, .no⟩, ⟨some false, .no⟩, ⟨some false, .no⟩, ⟨none, .tv false⟩, oH, ⟨some true, .no⟩, ⟨some true, .no⟩, ⟨some true, .no⟩, ⟨some true, .no⟩, ⟨some true, .no⟩, ⟨some true, .no⟩, ⟨some true, .no⟩, ⟨none, .tv true⟩] [(0, 0), (5, 1), (1, 2), (2, 3), (3, 4), (4, 5)] [] hX (by kernel_rfl) (allCons hb113 (allCons hb113 (allCons hb113 (allCons hb114 (allCons hb114 (allCons hb114 (allCons (f37_ok hc116) (allCons hb114 (allCons hb114 (allCons hb117 (allCons hb117 (allCons hb117 (allCons hb117 (allCons hb117 (allCons (f38_ok hc119) (allCons hb117 (allCons hb117 (allCons hb120 (allCons hb120 (allCons hb120 (allCons hb120 (allCons hb120 (allCons (f38_ok hc122) (allCons hb120 (allCons hb120 (allCons hb123 (allCons hb123 (allCons hb123 (allCons (f39_ok hc125) (allCons hb123 (allCons hb123 (allCons hb126 (allCons hb126 (allCons hb126 (allCons hb126 (allCons hb126 (allCons hb126 (allCons hb126 (allCons hb126 (allCons hb127 (allCons hb127 (allCons hb127 (allCons hb127 (allCons hb127 (allCons hb127 (allCons hb127 (allCons hb127 allNil))))))))))))))))))))))))))))))))))))))))))))))) (fun _ h => (qThen (h.ht (cont true (of_some hT23)))))
                    · exact HT.rgK [oH, oH, oH, ⟨some false, .no⟩, ⟨some false, .no⟩, ⟨none, .tv false⟩, oH, ⟨some false, .no⟩, ⟨some false, .no⟩, ⟨some false, .call [.imm (.st (.pair tLI tLI)), .imm tI] [⟨false, .bool, y115⟩] []⟩, ⟨some false, .no⟩, ⟨none, .tv false⟩, oH, ⟨some false, .no⟩, ⟨some false, .no⟩, ⟨some false, .no⟩, ⟨some false, .no⟩, ⟨some false, .call [.imm tLI, .imm tLI] [⟨false, .bool, y118⟩] []⟩, ⟨some false, .no⟩, ⟨none, .tv false⟩, oH, ⟨some false, .no⟩, ⟨some false, .no⟩, ⟨some false, .no⟩, ⟨some false, .no⟩, ⟨some false, .call [.imm tLI, .imm tLI] [⟨false, .bool, y121⟩] []⟩, ⟨some false, .no⟩, ⟨none, .tv false⟩, oH, ⟨some false, .no⟩, ⟨some false, .no⟩, ⟨some false, .call [.imm (.st (.pair tLI tLI)), .imm tI] [⟨false, .bool, y124⟩] []⟩, ⟨some false, .no⟩, ⟨none, .tv false⟩, oH, ⟨some false, .no⟩, ⟨some false, .no⟩, ⟨some false, .no⟩, ⟨some false, .no⟩, ⟨some false, .no⟩, ⟨some false, .no⟩, ⟨some false, .no⟩, ⟨none, .tv false⟩, oH, ⟨some false, .no⟩, ⟨some false, .no⟩, ⟨some false, .no⟩, ⟨some false, .no⟩, ⟨some false, .no⟩, ⟨some false, .no⟩, ⟨some false, .no⟩, ⟨none, .tv false⟩] [(0, 0), (5, 1), (1, 2), (2, 3), (3, 4), (4, 5)] [] hX (by kernel_rfl) (allCons hb113 (allCons hb113 (allCons hb113 (allCons hb114 (allCons hb114 (allCons hb114 (allCons (f37_ok hc116) (allCons hb114 (allCons hb114 (allCons hb117 (allCons hb117 (allCons hb117 (allCons hb117 (allCons hb117 (allCons (f38_ok hc119) (allCons hb117 (allCons hb117 (allCons hb120 (allCons hb120 (allCons hb120 (allCons hb120 (allCons hb120 (allCons (f38_ok hc122) (allCons hb120 (allCons hb120 (allCons hb123 (allCons hb123 (allCons hb123 (allCons (f39_ok hc125) (allCons hb123 (allCons hb123 (allCons hb126 (allCons hb126 (allCons hb126 (allCons hb126 (allCons hb126 (allCons hb126 (allCons hb126 (allCons hb126 (allCons hb127 (allCons hb127 (allCons hb127 (allCons hb127 (allCons hb127 (allCons hb127 (allCons hb127 (allCons hb127 allNil))))))))))))))))))))))))))))))))))))))))))))))) (fun _ h => (qThen (h.ht (cont (decide ((lenI y17.1.1) > (lenI y8))) (of_some hT23)))))
    · obtain ⟨v128', hT130, hT16⟩ := of_bind hT16
      refine HT.join (fun (v128 : Bool) => ⟨[(0, .one (.dat (.sl (.int .u8)) a0)), (5, iV (wadd .i64 (1 : Int) y4)), (6, pV 0 0), (59, bV v128)], [(0, .box [.all 1, .all 2]), (1, .seq tI y8), (2, .seq tI y12)], 3⟩) (fun v => v = v128') (fun v128 hv129 => ?_) (fun cont => ?_)
      · subst hv129
        rcases of_bif hT16 with ⟨hb131, hT16⟩ | ⟨hb131, hT16⟩
        · refine HT.cond1 rfl hb131 ?_
          obtain ⟨hg132, hT16⟩ := of_guard hT16
          obtain ⟨hg133, hT16⟩ := of_guard hT16
          exact HT.drK 6 [⟨oH, []⟩, ⟨oH, []⟩, ⟨oH, [1]⟩, ⟨⟨none, .ty tI⟩, [0, 1, 2]⟩, ⟨oH, []⟩, ⟨oH, [4]⟩] [[0, 1, 2, 3, 4, 5], [0, 1, 2, 3, 4, 5, 6], [0, 1, 2, 3, 4, 5, 6, 7]] [⟨none, .ty tI⟩, oH, oH] [(0, 0), (1, 1), (4, 2)] [] hX (by kernel_rfl) (by kernel_rfl) (allCons hg132 (allCons hg133 allNil)) (fun _ h => (qThen (h.ht (cont (y12 ++ y12) (of_some hT16)))))
        · refine HT.cond0 rfl hb131 ?_
          refine HT.skip (qThen ?_)
          exact (Le.re [(0, 0), (1, 1), (2, 2)] [] hX (by kernel_rfl)).ht (cont y12 (of_some hT16))
      · obtain ⟨y134, hc135, hT130⟩ := of_bind hT130
        rcases of_bif hT130 with ⟨hb136, hT130⟩ | ⟨hb136, hT130⟩
        · exact HT.rgK [oH, ⟨none, .call [.imm (.sl (.int .u8)), .imm tI, .imm tI] [⟨false, tI, y134⟩] []⟩, oH, oH, ⟨some true, .no⟩, ⟨some true, .no⟩, ⟨some true, .no⟩, ⟨some true, .no⟩, ⟨none, .tv true⟩] [(2, 0), (0, 1), (1, 2)] [] hX (by kernel_rfl) (allCons (f19_ok hc135) (allCons hb136 (allCons hb136 (allCons hb136 (allCons hb136 (allCons hb136 allNil)))))) (fun _ h => (qThen (h.ht (cont (decide ((lenI y12) ≤ (6 : Int))) (of_some hT130)))))
        · exact HT.rgK [oH, ⟨none, .call [.imm (.sl (.int .u8)), .imm tI, .imm tI] [⟨false, tI, y134⟩] []⟩, oH, oH, ⟨some false, .no⟩, ⟨some false, .no⟩, ⟨some false, .no⟩, ⟨some false, .no⟩, ⟨none, .tv false⟩] [(2, 0), (0, 1), (1, 2)] [] hX (by kernel_rfl) (allCons (f19_ok hc135) (allCons hb136 (allCons hb136 (allCons hb136 (allCons hb136 (allCons hb136 allNil)))))) (fun _ h => (qThen (h.ht (cont false (of_some hT130)))))

end Go.Proofs
