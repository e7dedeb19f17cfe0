import Derived.Test.YtkejogbikbnafaaLibC
import Derived.Test.YtkejogbikbnafaaProg
set_option linter.unusedVariables false
set_option linter.unusedSimpArgs false
set_option linter.unusedSectionVars false
/-
  Functions as plain functions, and their contracts. Printed by a program.
-/
namespace Go.Proofs
open Go.Ide

noncomputable def laws_szInt64S (a0 : List Int) (a1 : Int) : Option (Int) :=
  bif (decide ((wsub .i64 a1 (lenI a0)) < (0 : Int))) then
    some (-1 : Int)
  else
    some (wsub .i64 a1 (lenI a0))

theorem f43_ok {a0 : List Int} {a1 : Int} {r : Int} (hr : laws_szInt64S a0 a1 = some r) : CallOK Try.prog 43 [.imm tLI a0, .imm tI a1] [⟨false, tI, r⟩] [] := by
  unfold laws_szInt64S at hr
  refine CallOK.of_body (ts := [(false, tI)]) Try.func43 rfl (by kernel_rfl) (Nat.le_of_ble_eq_true (by kernel_rfl)) fun cx hP hN hO hF => ?_
  have hO : cx.own.map Prod.fst = [] := hO
  have hX := CxIs.mk hP hN hO
  have hF := hF rfl
  show HT cx ⟨[(0, nV a0), (1, iV a1)], [], 0⟩ _ _
  refine HT.rg2 [oH] ⟨[(0, nV a0), (1, iV a1)], [], 0⟩ hX (by kernel_rfl) allNil ?_
  refine HT.rg2 (oHs 5) ⟨[(1, iV (wsub .i64 a1 (lenI a0)))], [], 0⟩ hX (by kernel_rfl) allNil ?_
  refine HT.seq ?_
  refine HT.rg2 (oHs 2) ⟨[(1, iV (wsub .i64 a1 (lenI a0))), (10, bV (decide ((wsub .i64 a1 (lenI a0)) < (0 : Int))))], [], 0⟩ hX (by kernel_rfl) allNil ?_
  rcases of_bif hr with ⟨hb1, hr⟩ | ⟨hb1, hr⟩
  · refine HT.cond1 rfl hb1 ?_
    refine HT.rg2 [oH] ⟨[(4, iV (-1 : Int))], [], 0⟩ hX (by kernel_rfl) allNil ?_
    have hr := of_some hr
    subst hr
    exact HT.ret (qThenR ⟨[iV (-1 : Int)], [], [], by kernel_rfl, by kernel_rfl, rfl, by kernel_rfl, by kernel_rfl, trivial⟩)
  · refine HT.cond0 rfl hb1 ?_
    refine HT.skip (qThen ?_)
    refine HT.rg2 (oHs 2) ⟨[(4, iV (wsub .i64 a1 (lenI a0)))], [], 0⟩ hX (by kernel_rfl) allNil ?_
    have hr := of_some hr
    subst hr
    exact HT.ret ⟨[iV (wsub .i64 a1 (lenI a0))], [], [], by kernel_rfl, by kernel_rfl, rfl, by kernel_rfl, by kernel_rfl, trivial⟩

noncomputable def laws_szInt64SS_B1 (a0 : List (List Int)) (s2 : Int × Int) : Option ((Int × Int) ⊕ (Int ⊕ Unit)) :=
  bif (decide (s2.2 < (lenI a0))) then
    guardP ((0 : Int) ≤ s2.2 ∧ s2.2 < lenI a0) (
      (laws_szInt64S (List.getD a0 (Int.toNat s2.2) ([] : List Int)) s2.1).bind fun y11 =>
      bif (decide (y11 < (0 : Int))) then
        some (.inr (.inr ()))
      else
        some (.inl (y11, (wadd .i64 s2.2 (1 : Int)))))
  else
    some (.inr (.inl s2.1))

noncomputable def laws_szInt64SS (a0 : List (List Int)) (a1 : Int) : Option (Int) :=
  bif (decide ((wsub .i64 a1 (lenI a0)) < (0 : Int))) then
    some (-1 : Int)
  else
    (rounds (laws_szInt64SS_B1 a0) ((wsub .i64 a1 (lenI a0)), (0 : Int))).bind fun r3 => match r3 with
      | .inl r4 =>
        some r4
      | .inr r5 =>
        some (-1 : Int)

theorem f44_ok {a0 : List (List Int)} {a1 : Int} {r : Int} (hr : laws_szInt64SS a0 a1 = some r) : CallOK Try.prog 44 [.imm (.sl tLI) a0, .imm tI a1] [⟨false, tI, r⟩] [] := by
  unfold laws_szInt64SS at hr
  refine CallOK.of_body (ts := [(false, tI)]) Try.func44 rfl (by kernel_rfl) (Nat.le_of_ble_eq_true (by kernel_rfl)) fun cx hP hN hO hF => ?_
  have hO : cx.own.map Prod.fst = [] := hO
  have hX := CxIs.mk hP hN hO
  have hF := hF rfl
  show HT cx ⟨[(0, .one (.dat (.sl tLI) a0)), (1, iV a1)], [], 0⟩ _ _
  refine HT.rg2 [oH] ⟨[(0, .one (.dat (.sl tLI) a0)), (1, iV a1)], [], 0⟩ hX (by kernel_rfl) allNil ?_
  refine HT.rg2 (oHs 5) ⟨[(0, .one (.dat (.sl tLI) a0)), (1, iV (wsub .i64 a1 (lenI a0)))], [], 0⟩ hX (by kernel_rfl) allNil ?_
  refine HT.seq ?_
  refine HT.rg2 (oHs 2) ⟨[(0, .one (.dat (.sl tLI) a0)), (1, iV (wsub .i64 a1 (lenI a0))), (11, bV (decide ((wsub .i64 a1 (lenI a0)) < (0 : Int))))], [], 0⟩ hX (by kernel_rfl) allNil ?_
  rcases of_bif hr with ⟨hb1, hr⟩ | ⟨hb1, hr⟩
  · refine HT.cond1 rfl hb1 ?_
    refine HT.rg2 [oH] ⟨[(4, iV (-1 : Int))], [], 0⟩ hX (by kernel_rfl) allNil ?_
    have hr := of_some hr
    subst hr
    exact HT.ret (qThenR ⟨[iV (-1 : Int)], [], [], by kernel_rfl, by kernel_rfl, rfl, by kernel_rfl, by kernel_rfl, trivial⟩)
  · refine HT.cond0 rfl hb1 ?_
    refine HT.skip (qThen ?_)
    refine HT.seq ?_
    refine HT.rg2 [oH] ⟨[(0, .one (.dat (.sl tLI) a0)), (1, iV (wsub .i64 a1 (lenI a0))), (5, iV (0 : Int))], [], 0⟩ hX (by kernel_rfl) allNil ?_
    refine HT.block ?_
    obtain ⟨r3, hL14, hr⟩ := of_bind hr
    refine HT.loopL (fun (s2 : Int × Int) => ⟨[(0, .one (.dat (.sl tLI) a0)), (1, iV s2.1), (5, iV s2.2)], [], 0⟩) (fun (r3 : Int ⊕ Unit) => match r3 with | .inl r4 => (.exit 0, ⟨[(1, iV r4)], [], 0⟩) | .inr r5 => (.ret, ⟨[(4, iV (-1 : Int))], [], 0⟩)) (Le.re [] [] hX (by kernel_rfl)) hL14 ?_ (fun s2 x6 hx7 hk8 => ?_)
    · rcases r3 with r4 | r5
      · refine (qBlockX (qThen ?_))
        refine HT.rg2 (oHs 2) ⟨[(4, iV r4)], [], 0⟩ hX (by kernel_rfl) allNil ?_
        have hr := of_some hr
        subst hr
        exact HT.ret ⟨[iV r4], [], [], by kernel_rfl, by kernel_rfl, rfl, by kernel_rfl, by kernel_rfl, trivial⟩
      · have hr := of_some hr
        subst hr
        exact (qBlockR (qThenR ⟨[iV (-1 : Int)], [], [], by kernel_rfl, by kernel_rfl, rfl, by kernel_rfl, by kernel_rfl, trivial⟩))
    · refine HT.seq ?_
      refine HT.rg2 (oHs 4) ⟨[(0, .one (.dat (.sl tLI) a0)), (1, iV s2.1), (5, iV s2.2), (15, bV (decide (s2.2 < (lenI a0))))], [], 0⟩ hX (by kernel_rfl) allNil ?_
      rcases of_bif hx7 with ⟨hb9, hx7⟩ | ⟨hb9, hx7⟩
      · refine HT.cond1 rfl hb9 ?_
        refine HT.skip (qThen ?_)
        refine HT.seq ?_
        refine HT.block ?_
        obtain ⟨hg10, hx7⟩ := of_guard hx7
        obtain ⟨y11, hc12, hx7⟩ := of_bind hx7
        refine HT.rg2 [oH, oH, oH, oH, oH, ⟨none, .call [.imm tLI, .imm tI] [⟨false, tI, y11⟩] []⟩, oH] ⟨[(0, .one (.dat (.sl tLI) a0)), (1, iV y11), (5, iV s2.2)], [], 0⟩ hX (by kernel_rfl) (allCons hg10 (allCons (f43_ok hc12) allNil)) ?_
        refine HT.rg2 (oHs 2) ⟨[(0, .one (.dat (.sl tLI) a0)), (1, iV y11), (5, iV s2.2), (25, bV (decide (y11 < (0 : Int))))], [], 0⟩ hX (by kernel_rfl) allNil ?_
        rcases of_bif hx7 with ⟨hb13, hx7⟩ | ⟨hb13, hx7⟩
        · refine HT.cond1 rfl hb13 ?_
          refine HT.rg2 [oH] ⟨[(4, iV (-1 : Int))], [], 0⟩ hX (by kernel_rfl) allNil ?_
          have hx7 := of_some hx7
          subst hx7
          exact HT.retL (Le.re [] [] hX (by kernel_rfl)) (qBlockR (qThenR (qLoopR (hk8 (.inr ()) rfl))))
        · refine HT.cond0 rfl hb13 ?_
          refine HT.skip (qBlock (qThen ?_))
          have hx7 := of_some hx7
          subst hx7
          exact HT.rgK (oHs 3) [] [] hX (by kernel_rfl) allNil (fun _ h => (qLoopN ⟨(y11, (wadd .i64 s2.2 (1 : Int))), rfl, h⟩))
      · refine HT.cond0 rfl hb9 ?_
        have hx7 := of_some hx7
        subst hx7
        exact HT.exitL (Le.re [] [] hX (by kernel_rfl)) (qThenE (qLoopE (hk8 (.inl s2.1) rfl)))

noncomputable def laws_szGame (a0 : List Int × List Int × List (List Int)) (a1 : Int) : Option (Int) :=
  (laws_szInt64S a0.1 a1).bind fun y1 =>
  bif (decide (y1 < (0 : Int))) then
    some (-1 : Int)
  else
    (laws_szInt64S a0.2.1 y1).bind fun y4 =>
    bif (decide (y4 < (0 : Int))) then
      some (-1 : Int)
    else
      (laws_szInt64SS a0.2.2 y4).bind fun y7 =>
      bif (decide (y7 < (0 : Int))) then
        some (-1 : Int)
      else
        some y7

theorem f10_ok {a0 : List Int × List Int × List (List Int)} {a1 : Int} {r : Int} (hr : laws_szGame a0 a1 = some r) : CallOK Try.prog 10 [.imm (.st (.pair tLI (.pair tLI (.sl tLI)))) a0, .imm tI a1] [⟨false, tI, r⟩] [] := by
  unfold laws_szGame at hr
  refine CallOK.of_body (ts := [(false, tI)]) Try.func10 rfl (by kernel_rfl) (Nat.le_of_ble_eq_true (by kernel_rfl)) fun cx hP hN hO hF => ?_
  have hO : cx.own.map Prod.fst = [] := hO
  have hX := CxIs.mk hP hN hO
  have hF := hF rfl
  show HT cx ⟨[(0, .agg [nC a0.1, nC a0.2.1, .dat (.sl tLI) a0.2.2]), (1, iV a1)], [], 0⟩ _ _
  refine HT.rg2 (oHs 2) ⟨[(1, iV a1), (2, pV 0 0)], [(0, .box [nC a0.1, nC a0.2.1, .dat (.sl tLI) a0.2.2])], 1⟩ hX (by kernel_rfl) allNil ?_
  obtain ⟨y1, hc2, hr⟩ := of_bind hr
  refine HT.rg2 [oH, oH, oH, ⟨none, .call [.imm tLI, .imm tI] [⟨false, tI, y1⟩] []⟩, oH] ⟨[(1, iV y1), (2, pV 0 0)], [(0, .box [nC a0.1, nC a0.2.1, .dat (.sl tLI) a0.2.2])], 1⟩ hX (by kernel_rfl) (allCons (f43_ok hc2) allNil) ?_
  refine HT.seq ?_
  refine HT.rg2 (oHs 2) ⟨[(1, iV y1), (2, pV 0 0), (10, bV (decide (y1 < (0 : Int))))], [(0, .box [nC a0.1, nC a0.2.1, .dat (.sl tLI) a0.2.2])], 1⟩ hX (by kernel_rfl) allNil ?_
  rcases of_bif hr with ⟨hb3, hr⟩ | ⟨hb3, hr⟩
  · refine HT.cond1 rfl hb3 ?_
    refine HT.rg2 [oH] ⟨[(4, iV (-1 : Int))], [], 1⟩ hX (by kernel_rfl) allNil ?_
    have hr := of_some hr
    subst hr
    exact HT.ret (qThenR ⟨[iV (-1 : Int)], [], [], by kernel_rfl, by kernel_rfl, rfl, by kernel_rfl, by kernel_rfl, trivial⟩)
  · refine HT.cond0 rfl hb3 ?_
    refine HT.skip (qThen ?_)
    obtain ⟨y4, hc5, hr⟩ := of_bind hr
    refine HT.rg2 [oH, oH, oH, ⟨none, .call [.imm tLI, .imm tI] [⟨false, tI, y4⟩] []⟩, oH] ⟨[(1, iV y4), (2, pV 0 0)], [(0, .box [nC a0.1, nC a0.2.1, .dat (.sl tLI) a0.2.2])], 1⟩ hX (by kernel_rfl) (allCons (f43_ok hc5) allNil) ?_
    refine HT.seq ?_
    refine HT.rg2 (oHs 2) ⟨[(1, iV y4), (2, pV 0 0), (16, bV (decide (y4 < (0 : Int))))], [(0, .box [nC a0.1, nC a0.2.1, .dat (.sl tLI) a0.2.2])], 1⟩ hX (by kernel_rfl) allNil ?_
    rcases of_bif hr with ⟨hb6, hr⟩ | ⟨hb6, hr⟩
    · refine HT.cond1 rfl hb6 ?_
      refine HT.rg2 [oH] ⟨[(4, iV (-1 : Int))], [], 1⟩ hX (by kernel_rfl) allNil ?_
      have hr := of_some hr
      subst hr
      exact HT.ret (qThenR ⟨[iV (-1 : Int)], [], [], by kernel_rfl, by kernel_rfl, rfl, by kernel_rfl, by kernel_rfl, trivial⟩)
    · refine HT.cond0 rfl hb6 ?_
      refine HT.skip (qThen ?_)
      obtain ⟨y7, hc8, hr⟩ := of_bind hr
      refine HT.rg2 [oH, oH, oH, ⟨none, .call [.imm (.sl tLI), .imm tI] [⟨false, tI, y7⟩] []⟩, oH] ⟨[(1, iV y7)], [], 1⟩ hX (by kernel_rfl) (allCons (f44_ok hc8) allNil) ?_
      refine HT.seq ?_
      refine HT.rg2 (oHs 2) ⟨[(1, iV y7), (22, bV (decide (y7 < (0 : Int))))], [], 1⟩ hX (by kernel_rfl) allNil ?_
      rcases of_bif hr with ⟨hb9, hr⟩ | ⟨hb9, hr⟩
      · refine HT.cond1 rfl hb9 ?_
        refine HT.rg2 [oH] ⟨[(4, iV (-1 : Int))], [], 1⟩ hX (by kernel_rfl) allNil ?_
        have hr := of_some hr
        subst hr
        exact HT.ret (qThenR ⟨[iV (-1 : Int)], [], [], by kernel_rfl, by kernel_rfl, rfl, by kernel_rfl, by kernel_rfl, trivial⟩)
      · refine HT.cond0 rfl hb9 ?_
        refine HT.skip (qThen ?_)
        refine HT.rg2 (oHs 2) ⟨[(4, iV y7)], [], 1⟩ hX (by kernel_rfl) allNil ?_
        have hr := of_some hr
        subst hr
        exact HT.ret ⟨[iV y7], [], [], by kernel_rfl, by kernel_rfl, rfl, by kernel_rfl, by kernel_rfl, trivial⟩

noncomputable def laws_toInt64S_B1 (a0 : List Int) (s2 : Int × List Int) : Option ((Int × List Int) ⊕ (List Int)) :=
  bif (decide (s2.1 < (lenI a0))) then
    guardP ((0 : Int) ≤ s2.1 ∧ s2.1 < lenI a0) (
      guardP ((0 : Int) ≤ s2.1 ∧ s2.1 < lenI s2.2) (
        some (.inl ((wadd .i64 s2.1 (1 : Int)), (List.set s2.2 (Int.toNat s2.1) (List.getD a0 (Int.toNat s2.1) (0 : Int)))))))
  else
    some (.inr s2.2)

noncomputable def laws_toInt64S (a0 : List Int) : Option (List Int) :=
  guardP ((0 : Int) ≤ (lenI a0) ∧ (lenI a0) ≤ 4294967296) (
    (rounds (laws_toInt64S_B1 a0) ((0 : Int), (List.replicate (Int.toNat (lenI a0)) (0 : Int)))).bind fun r4 =>
    some r4)

theorem f18_ok {a0 : List Int} {r : List Int} (hr : laws_toInt64S a0 = some r) : CallOK Try.prog 18 [.imm tLI a0] [⟨true, tLI, r⟩] [] := by
  unfold laws_toInt64S at hr
  refine CallOK.of_body (ts := [(true, tLI)]) Try.func18 rfl (by kernel_rfl) (Nat.le_of_ble_eq_true (by kernel_rfl)) fun cx hP hN hO hF => ?_
  have hO : cx.own.map Prod.fst = [] := hO
  have hX := CxIs.mk hP hN hO
  have hF := hF rfl
  show HT cx ⟨[(0, nV a0)], [], 0⟩ _ _
  refine HT.rg2 [oH] ⟨[(0, nV a0)], [], 0⟩ hX (by kernel_rfl) allNil ?_
  obtain ⟨hg1, hr⟩ := of_guard hr
  refine HT.rg2 [oH, oH, ⟨none, .ty tI⟩, oH] ⟨[(0, nV a0), (3, aV 0)], [(0, .seq tI (List.replicate (Int.toNat (lenI a0)) (0 : Int)))], 1⟩ hX (by kernel_rfl) (allCons (show (0 : Int) ≤ (lenI a0) ∧ (lenI a0) ≤ (lenI a0) ∧ (lenI a0) ≤ 4294967296 from ⟨hg1.1, Int.le_refl _, hg1.2⟩) allNil) ?_
  refine HT.seq ?_
  refine HT.rg2 [oH] ⟨[(0, nV a0), (3, aV 0), (4, iV (0 : Int))], [(0, .seq tI (List.replicate (Int.toNat (lenI a0)) (0 : Int)))], 1⟩ hX (by kernel_rfl) allNil ?_
  refine HT.block ?_
  obtain ⟨r3, hL11, hr⟩ := of_bind hr
  refine HT.loopL (fun (s2 : Int × List Int) => ⟨[(0, nV a0), (3, aV 0), (4, iV s2.1)], [(0, .seq tI s2.2)], 1⟩) (fun (r4 : List Int) => (.exit 0, ⟨[(3, aV 0)], [(0, .seq tI r4)], 1⟩)) (Le.re [(0, 0)] [] hX (by kernel_rfl)) hL11 ?_ (fun s2 x5 hx6 hk7 => ?_)
  · refine (qBlockX (qThen ?_))
    refine HT.rg2 (oHs 2) ⟨[(2, aV 0)], [(0, .seq tI r3)], 1⟩ hX (by kernel_rfl) allNil ?_
    have hr := of_some hr
    subst hr
    exact HT.ret ⟨[aV 0], [0], [], by kernel_rfl, by kernel_rfl, rfl, by kernel_rfl, by kernel_rfl, trivial⟩
  · refine HT.seq ?_
    refine HT.rg2 (oHs 4) ⟨[(0, nV a0), (3, aV 0), (4, iV s2.1), (11, bV (decide (s2.1 < (lenI a0))))], [(0, .seq tI s2.2)], 1⟩ hX (by kernel_rfl) allNil ?_
    rcases of_bif hx6 with ⟨hb8, hx6⟩ | ⟨hb8, hx6⟩
    · refine HT.cond1 rfl hb8 ?_
      refine HT.skip (qThen ?_)
      refine HT.seq ?_
      refine HT.block ?_
      obtain ⟨hg9, hx6⟩ := of_guard hx6
      obtain ⟨hg10, hx6⟩ := of_guard hx6
      refine HT.rgL (oHs 8) ⟨[(0, nV a0), (3, aV 0), (4, iV s2.1)], [(0, .seq tI (List.set s2.2 (Int.toNat s2.1) (List.getD a0 (Int.toNat s2.1) (0 : Int))))], 1⟩ hX (by kernel_rfl) (allCons hg9 (allCons hg10 (allCons (natLt hg10) allNil))) (qBlock (qThen ?_))
      have hx6 := of_some hx6
      subst hx6
      exact HT.rgK (oHs 3) [(0, 0)] [] hX (by kernel_rfl) allNil (fun _ h => (qLoopN ⟨((wadd .i64 s2.1 (1 : Int)), (List.set s2.2 (Int.toNat s2.1) (List.getD a0 (Int.toNat s2.1) (0 : Int)))), rfl, h⟩))
    · refine HT.cond0 rfl hb8 ?_
      have hx6 := of_some hx6
      subst hx6
      exact HT.exitL (Le.re [(0, 0)] [] hX (by kernel_rfl)) (qThenE (qLoopE (hk7 s2.2 rfl)))

noncomputable def laws_toInt64SS_B1 (a0 : List (List Int)) (s2 : Int × List (List Int)) : Option ((Int × List (List Int)) ⊕ (List (List Int))) :=
  bif (decide (s2.1 < (lenI a0))) then
    guardP ((0 : Int) ≤ s2.1 ∧ s2.1 < lenI a0) (
      (laws_toInt64S (List.getD a0 (Int.toNat s2.1) ([] : List Int))).bind fun y10 =>
      guardP ((0 : Int) ≤ s2.1 ∧ s2.1 < lenI s2.2) (
        some (.inl ((wadd .i64 s2.1 (1 : Int)), (List.set s2.2 (Int.toNat s2.1) y10)))))
  else
    some (.inr s2.2)

noncomputable def laws_toInt64SS (a0 : List (List Int)) : Option (List (List Int)) :=
  guardP ((0 : Int) ≤ (lenI a0) ∧ (lenI a0) ≤ 4294967296) (
    (rounds (laws_toInt64SS_B1 a0) ((0 : Int), (List.replicate (Int.toNat (lenI a0)) ([] : List Int)))).bind fun r4 =>
    some r4)

theorem f47_ok {a0 : List (List Int)} {r : List (List Int)} (hr : laws_toInt64SS a0 = some r) : CallOK Try.prog 47 [.imm (.sl tLI) a0] [⟨true, (.sl (.own tI)), r⟩] [] := by
  unfold laws_toInt64SS at hr
  refine CallOK.of_body (ts := [(true, (.sl (.own tI)))]) Try.func47 rfl (by kernel_rfl) (Nat.le_of_ble_eq_true (by kernel_rfl)) fun cx hP hN hO hF => ?_
  have hO : cx.own.map Prod.fst = [] := hO
  have hX := CxIs.mk hP hN hO
  have hF := hF rfl
  show HT cx ⟨[(0, .one (.dat (.sl tLI) a0))], [], 0⟩ _ _
  refine HT.rg2 [oH] ⟨[(0, .one (.dat (.sl tLI) a0))], [], 0⟩ hX (by kernel_rfl) allNil ?_
  obtain ⟨hg1, hr⟩ := of_guard hr
  refine HT.rg2 [oH, oH, ⟨none, .ty (.own tI)⟩, oH] ⟨[(0, .one (.dat (.sl tLI) a0)), (3, aV 0)], [(0, .seq (.own tI) (List.replicate (Int.toNat (lenI a0)) ([] : List Int)))], 1⟩ hX (by kernel_rfl) (allCons (show (0 : Int) ≤ (lenI a0) ∧ (lenI a0) ≤ (lenI a0) ∧ (lenI a0) ≤ 4294967296 from ⟨hg1.1, Int.le_refl _, hg1.2⟩) allNil) ?_
  refine HT.seq ?_
  refine HT.rg2 [oH] ⟨[(0, .one (.dat (.sl tLI) a0)), (3, aV 0), (4, iV (0 : Int))], [(0, .seq (.own tI) (List.replicate (Int.toNat (lenI a0)) ([] : List Int)))], 1⟩ hX (by kernel_rfl) allNil ?_
  refine HT.block ?_
  obtain ⟨r3, hL13, hr⟩ := of_bind hr
  refine HT.loopL (fun (s2 : Int × List (List Int)) => ⟨[(0, .one (.dat (.sl tLI) a0)), (3, aV 0), (4, iV s2.1)], [(0, .seq (.own tI) s2.2)], 1⟩) (fun (r4 : List (List Int)) => (.exit 0, ⟨[(3, aV 0)], [(0, .seq (.own tI) r4)], 1⟩)) (Le.re [(0, 0)] [] hX (by kernel_rfl)) hL13 ?_ (fun s2 x5 hx6 hk7 => ?_)
  · refine (qBlockX (qThen ?_))
    refine HT.rg2 (oHs 2) ⟨[(2, aV 0)], [(0, .seq (.own tI) r3)], 1⟩ hX (by kernel_rfl) allNil ?_
    have hr := of_some hr
    subst hr
    exact HT.ret ⟨[aV 0], [0], [], by kernel_rfl, by kernel_rfl, rfl, by kernel_rfl, by kernel_rfl, trivial⟩
  · refine HT.seq ?_
    refine HT.rg2 (oHs 4) ⟨[(0, .one (.dat (.sl tLI) a0)), (3, aV 0), (4, iV s2.1), (11, bV (decide (s2.1 < (lenI a0))))], [(0, .seq (.own tI) s2.2)], 1⟩ hX (by kernel_rfl) allNil ?_
    rcases of_bif hx6 with ⟨hb8, hx6⟩ | ⟨hb8, hx6⟩
    · refine HT.cond1 rfl hb8 ?_
      refine HT.skip (qThen ?_)
      refine HT.seq ?_
      refine HT.block ?_
      obtain ⟨hg9, hx6⟩ := of_guard hx6
      obtain ⟨y10, hc11, hx6⟩ := of_bind hx6
      obtain ⟨hg12, hx6⟩ := of_guard hx6
      refine HT.regC (rs := [oH, oH, oH, oH, oH, oH, ⟨none, .call [.imm tLI] [⟨true, tLI, y10⟩] []⟩, oH, ⟨none, .opn⟩]) ⟨[(21, .one (.elp 0 (Int.toNat s2.1) 1 0)), (20, aV 1), (19, nV (List.getD a0 (Int.toNat s2.1) ([] : List Int))), (18, .one (.ip tLI (List.getD a0 (Int.toNat s2.1) ([] : List Int)) 0)), (17, iV s2.1), (16, .one (.dat (.sl tLI) a0)), (15, iV s2.1), (14, aV 0), (0, .one (.dat (.sl tLI) a0)), (3, aV 0), (4, iV s2.1), (11, bV (decide (s2.1 < (lenI a0))))], [(0, .opn (.own tI) s2.2 (Int.toNat s2.1) [.all 1] [2]), (0, .opn (.own tI) s2.2 (Int.toNat s2.1) [.all 2] [2]), (2, .seq tI (List.getD s2.2 (Int.toNat s2.1) ([] : List Int))), (1, .seq tI y10), (0, .seq (.own tI) s2.2)], 3⟩ hP hN (by kernel_rfl) (allCons hg9 (allCons (f18_ok hc11) (allCons hg12 (allCons (natLt hg12) allNil)))) (Le.close (own := []) 0 (st' := ⟨[(21, .one (.elp 0 (Int.toNat s2.1) 1 0)), (20, aV 1), (19, nV (List.getD a0 (Int.toNat s2.1) ([] : List Int))), (18, .one (.ip tLI (List.getD a0 (Int.toNat s2.1) ([] : List Int)) 0)), (17, iV s2.1), (16, .one (.dat (.sl tLI) a0)), (15, iV s2.1), (14, aV 0), (0, .one (.dat (.sl tLI) a0)), (3, aV 0), (4, iV s2.1), (11, bV (decide (s2.1 < (lenI a0))))], [(0, .seq (.own tI) (List.set s2.2 (Int.toNat s2.1) y10)), (1, .gone), (2, .seq tI (List.getD s2.2 (Int.toNat s2.1) ([] : List Int)))], 3⟩) hO (by kernel_rfl)) (qBlock (qThen ?_))
      have hx6 := of_some hx6
      subst hx6
      exact HT.rgK (oHs 3) [(0, 0)] [] hX (by kernel_rfl) allNil (fun _ h => (qLoopN ⟨((wadd .i64 s2.1 (1 : Int)), (List.set s2.2 (Int.toNat s2.1) y10)), rfl, h⟩))
    · refine HT.cond0 rfl hb8 ?_
      have hx6 := of_some hx6
      subst hx6
      exact HT.exitL (Le.re [(0, 0)] [] hX (by kernel_rfl)) (qThenE (qLoopE (hk7 s2.2 rfl)))

noncomputable def laws_toGame (a0 : List Int × List Int × List (List Int)) : Option ((List Int × List Int × List (List Int))) :=
  (laws_toInt64S a0.1).bind fun y1 =>
  (laws_toInt64S a0.2.1).bind fun y3 =>
  (laws_toInt64SS a0.2.2).bind fun y5 =>
  some (y1, y3, y5)

theorem f12_ok {a0 : List Int × List Int × List (List Int)} {r : (List Int × List Int × List (List Int))} (hr : laws_toGame a0 = some r) : CallOK Try.prog 12 [.imm (.st (.pair tLI (.pair tLI (.sl tLI)))) a0] [⟨true, (.st (.pair tLI (.pair tLI (.sl (.own tI))))), r⟩] [] := by
  unfold laws_toGame at hr
  refine CallOK.of_body (ts := [(true, (.st (.pair tLI (.pair tLI (.sl (.own tI))))))]) Try.func12 rfl (by kernel_rfl) (Nat.le_of_ble_eq_true (by kernel_rfl)) fun cx hP hN hO hF => ?_
  have hO : cx.own.map Prod.fst = [] := hO
  have hX := CxIs.mk hP hN hO
  have hF := hF rfl
  show HT cx ⟨[(0, .agg [nC a0.1, nC a0.2.1, .dat (.sl tLI) a0.2.2])], [], 0⟩ _ _
  refine HT.rg2 (oHs 2) ⟨[(1, pV 0 0), (2, pV 1 0)], [(1, .box [.nilS, .nilS, .nilS]), (0, .box [nC a0.1, nC a0.2.1, .dat (.sl tLI) a0.2.2])], 2⟩ hX (by kernel_rfl) allNil ?_
  refine HT.rg2 [oH] ⟨[(1, pV 0 0), (2, pV 1 0), (3, pV 2 0)], [(2, .box [.nilS, .nilS, .nilS]), (1, .box [.nilS, .nilS, .nilS]), (0, .box [nC a0.1, nC a0.2.1, .dat (.sl tLI) a0.2.2])], 3⟩ hX (by kernel_rfl) allNil ?_
  obtain ⟨y1, hc2, hr⟩ := of_bind hr
  refine HT.rg2 [oH, oH, ⟨none, .call [.imm tLI] [⟨true, tLI, y1⟩] []⟩, oH, oH] ⟨[(1, pV 0 0), (2, pV 1 0), (3, pV 2 0)], [(2, .box [.all 3, .nilS, .nilS]), (3, .seq tI y1), (1, .box [.nilS, .nilS, .nilS]), (0, .box [nC a0.1, nC a0.2.1, .dat (.sl tLI) a0.2.2])], 4⟩ hX (by kernel_rfl) (allCons (f18_ok hc2) allNil) ?_
  obtain ⟨y3, hc4, hr⟩ := of_bind hr
  refine HT.rg2 [oH, oH, ⟨none, .call [.imm tLI] [⟨true, tLI, y3⟩] []⟩, oH, oH] ⟨[(1, pV 0 0), (2, pV 1 0), (3, pV 2 0)], [(2, .box [.all 3, .all 4, .nilS]), (4, .seq tI y3), (3, .seq tI y1), (1, .box [.nilS, .nilS, .nilS]), (0, .box [nC a0.1, nC a0.2.1, .dat (.sl tLI) a0.2.2])], 5⟩ hX (by kernel_rfl) (allCons (f18_ok hc4) allNil) ?_
  obtain ⟨y5, hc6, hr⟩ := of_bind hr
  refine HT.rg2 [oH, oH, ⟨none, .call [.imm (.sl tLI)] [⟨true, (.sl (.own tI)), y5⟩] []⟩, oH, oH] ⟨[(2, pV 1 0), (3, pV 2 0)], [(2, .box [.all 3, .all 4, .all 5]), (5, .seq (.own tI) y5), (4, .seq tI y3), (3, .seq tI y1), (1, .box [.nilS, .nilS, .nilS])], 6⟩ hX (by kernel_rfl) (allCons (f47_ok hc6) allNil) ?_
  refine HT.rg2 (oHs 2) ⟨[(2, pV 1 0)], [(1, .box [.all 3, .all 4, .all 5]), (5, .seq (.own tI) y5), (4, .seq tI y3), (3, .seq tI y1)], 6⟩ hX (by kernel_rfl) allNil ?_
  have hr := of_some hr
  subst hr
  exact HT.ret ⟨[.agg [.all 3, .all 4, .all 5]], [3, 4, 5], [], by kernel_rfl, by kernel_rfl, rfl, by kernel_rfl, by kernel_rfl, trivial⟩

noncomputable def spec_l07Draw_B1 (a0 : List Int × List Int × List (List Int)) (a1 : List Bool) (s9 : Bool × Int × List Bool) (s24 : Bool × Bool × Int) : Option ((Bool × Bool × Int) ⊕ ((Bool × Bool))) :=
  bif (decide (s24.2.2 < (lenI (List.getD a0.2.2 (Int.toNat s9.2.1) ([] : List Int))))) then
    (show Option (Bool × Bool) from
      guardP ((0 : Int) ≤ s24.2.2 ∧ s24.2.2 < lenI (List.getD a0.2.2 (Int.toNat s9.2.1) ([] : List Int))) (
        (some (List.getD (List.getD a0.2.2 (Int.toNat s9.2.1) ([] : List Int)) (Int.toNat s24.2.2) (0 : Int))).bind fun q45 =>
        guardP ((0 : Int) ≤ q45 ∧ q45 < lenI a1) (
          bif (!(List.getD a1 (Int.toNat q45) false)) then
            some (s24.1, s24.2.1)
          else
            (show Option (Bool) from
              bif s24.1 then
                some true
              else
                guardP ((0 : Int) ≤ q45 ∧ q45 < lenI s9.2.2) (
                  some (List.getD s9.2.2 (Int.toNat q45) false))).bind fun v49 =>
            bif s24.2.1 then
              guardP ((0 : Int) ≤ q45 ∧ q45 < lenI s9.2.2) (
                some (v49, (List.getD s9.2.2 (Int.toNat q45) false)))
            else
              some (v49, false)))).bind fun v41 =>
    some (.inl (v41.1, v41.2, (wadd .i64 s24.2.2 (1 : Int))))
  else
    some (.inr (s24.1, s24.2.1))

noncomputable def spec_l07Draw_B2 (a0 : List Int × List Int × List (List Int)) (a1 : List Bool) (a3 : Int) (s2 : Bool × List Bool) (s9 : Bool × Int × List Bool) : Option ((Bool × Int × List Bool) ⊕ ((Bool × List Bool))) :=
  bif (decide (s9.2.1 < (lenI s2.2))) then
    (show Option (Bool × List Bool) from
      (show Option (Bool) from
        guardP ((0 : Int) ≤ s9.2.1 ∧ s9.2.1 < lenI s9.2.2) (
          bif (List.getD s9.2.2 (Int.toNat s9.2.1) false) then
            some true
          else
            guardP ((0 : Int) ≤ s9.2.1 ∧ s9.2.1 < lenI a1) (
              some (!(List.getD a1 (Int.toNat s9.2.1) false))))).bind fun v19 =>
      bif v19 then
        some (s9.1, s9.2.2)
      else
        guardP ((0 : Int) ≤ s9.2.1 ∧ s9.2.1 < lenI a0.2.2) (
          (rounds (spec_l07Draw_B1 a0 a1 s9) (false, true, (0 : Int))).bind fun r26 =>
          (show Option (Bool) from
            guardP ((0 : Int) ≤ s9.2.1 ∧ s9.2.1 < lenI a0.1) (
              bif ((List.getD a0.1 (Int.toNat s9.2.1) (0 : Int)) == a3) then
                bif r26.1 then
                  some true
                else
                  bif ((List.getD a0.1 (Int.toNat s9.2.1) (0 : Int)) != a3) then
                    some r26.2
                  else
                    some false
              else
                bif ((List.getD a0.1 (Int.toNat s9.2.1) (0 : Int)) != a3) then
                  some r26.2
                else
                  some false)).bind fun v27 =>
          bif v27 then
            guardP ((0 : Int) ≤ s9.2.1 ∧ s9.2.1 < lenI s9.2.2) (
              some (true, (List.set s9.2.2 (Int.toNat s9.2.1) true)))
          else
            some (s9.1, s9.2.2))).bind fun v16 =>
    some (.inl (v16.1, (wadd .i64 s9.2.1 (1 : Int)), v16.2))
  else
    some (.inr (s9.1, s9.2.2))

noncomputable def spec_l07Draw_B3 (a0 : List Int × List Int × List (List Int)) (a1 : List Bool) (a3 : Int) (s2 : Bool × List Bool) : Option ((Bool × List Bool) ⊕ (List Bool)) :=
  bif s2.1 then
    (rounds (spec_l07Draw_B2 a0 a1 a3 s2) (false, (0 : Int), s2.2)).bind fun r11 =>
    some (.inl (r11.1, r11.2))
  else
    some (.inr s2.2)

noncomputable def spec_l07Draw (a0 : List Int × List Int × List (List Int)) (a1 : List Bool) (a2 : List Bool) (a3 : Int) : Option (List Bool) :=
  guardP (0 + List.length a2 ≤ appMax) (
    (rounds (spec_l07Draw_B3 a0 a1 a3) (true, a2)).bind fun r4 =>
    some r4)

theorem f52_ok {a0 : List Int × List Int × List (List Int)} {a1 : List Bool} {a2 : List Bool} {a3 : Int} {r : List Bool} (hr : spec_l07Draw a0 a1 a2 a3 = some r) : CallOK Try.prog 52 [.pimm (.st (.pair tLI (.pair tLI (.sl tLI)))) a0, .imm (.sl .bool) a1, .imm (.sl .bool) a2, .imm tI a3] [⟨true, (.sl .bool), r⟩] [] := by
  unfold spec_l07Draw at hr
  refine CallOK.of_body (ts := [(true, (.sl .bool))]) Try.func52 rfl (by kernel_rfl) (Nat.le_of_ble_eq_true (by kernel_rfl)) fun cx hP hN hO hF => ?_
  have hO : cx.own.map Prod.fst = [] := hO
  have hX := CxIs.mk hP hN hO
  have hF := hF rfl
  show HT cx ⟨[(0, .one (.ip (.st (.pair tLI (.pair tLI (.sl tLI)))) a0 0)), (1, .one (.dat (.sl .bool) a1)), (2, .one (.dat (.sl .bool) a2)), (3, iV a3)], [], 0⟩ _ _
  refine HT.rg2 [oH] ⟨[(0, .one (.ip (.st (.pair tLI (.pair tLI (.sl tLI)))) a0 0)), (1, .one (.dat (.sl .bool) a1)), (2, .one (.dat (.sl .bool) a2)), (3, iV a3)], [], 0⟩ hX (by kernel_rfl) allNil ?_
  obtain ⟨hg1, hr⟩ := of_guard hr
  refine HT.rg2 [oH, oH, ⟨none, .ty .bool⟩, oH] ⟨[(0, .one (.ip (.st (.pair tLI (.pair tLI (.sl tLI)))) a0 0)), (1, .one (.dat (.sl .bool) a1)), (3, iV a3), (9, aV 0)], [(0, .seq .bool a2)], 1⟩ hX (by kernel_rfl) (allCons hg1 allNil) ?_
  refine HT.seq ?_
  refine HT.rg2 [oH] ⟨[(0, .one (.ip (.st (.pair tLI (.pair tLI (.sl tLI)))) a0 0)), (1, .one (.dat (.sl .bool) a1)), (3, iV a3), (9, aV 0), (10, bV true)], [(0, .seq .bool a2)], 1⟩ hX (by kernel_rfl) allNil ?_
  refine HT.block ?_
  obtain ⟨r3, hL61, hr⟩ := of_bind hr
  refine HT.loopL (fun (s2 : Bool × List Bool) => ⟨[(0, .one (.ip (.st (.pair tLI (.pair tLI (.sl tLI)))) a0 0)), (1, .one (.dat (.sl .bool) a1)), (3, iV a3), (9, aV 0), (10, bV s2.1)], [(0, .seq .bool s2.2)], 1⟩) (fun (r4 : List Bool) => (.exit 0, ⟨[(9, aV 0)], [(0, .seq .bool r4)], 1⟩)) (Le.re [(0, 0)] [] hX (by kernel_rfl)) hL61 ?_ (fun s2 x5 hx6 hk7 => ?_)
  · refine (qBlockX (qThen ?_))
    refine HT.rg2 (oHs 2) ⟨[(8, aV 0)], [(0, .seq .bool r3)], 1⟩ hX (by kernel_rfl) allNil ?_
    have hr := of_some hr
    subst hr
    exact HT.ret ⟨[aV 0], [0], [], by kernel_rfl, by kernel_rfl, rfl, by kernel_rfl, by kernel_rfl, trivial⟩
  · refine HT.seq ?_
    refine HT.rg2 [oH] ⟨[(0, .one (.ip (.st (.pair tLI (.pair tLI (.sl tLI)))) a0 0)), (1, .one (.dat (.sl .bool) a1)), (3, iV a3), (9, aV 0), (19, bV s2.1)], [(0, .seq .bool s2.2)], 1⟩ hX (by kernel_rfl) allNil ?_
    rcases of_bif hx6 with ⟨hb8, hx6⟩ | ⟨hb8, hx6⟩
    · refine HT.cond1 rfl hb8 ?_
      refine HT.skip (qThen ?_)
      refine HT.block ?_
      refine HT.rg2 [oH] ⟨[(0, .one (.ip (.st (.pair tLI (.pair tLI (.sl tLI)))) a0 0)), (1, .one (.dat (.sl .bool) a1)), (3, iV a3), (9, aV 0), (10, bV false)], [(0, .seq .bool s2.2)], 1⟩ hX (by kernel_rfl) allNil ?_
      refine HT.rg2 (oHs 3) ⟨[(0, .one (.ip (.st (.pair tLI (.pair tLI (.sl tLI)))) a0 0)), (1, .one (.dat (.sl .bool) a1)), (3, iV a3), (9, aV 0), (10, bV false), (21, iV (lenI s2.2)), (22, iV (0 : Int))], [(0, .seq .bool s2.2)], 1⟩ hX (by kernel_rfl) allNil ?_
      refine HT.block ?_
      obtain ⟨r10, hL60, hx6⟩ := of_bind hx6
      refine HT.loopL (fun (s9 : Bool × Int × List Bool) => ⟨[(0, .one (.ip (.st (.pair tLI (.pair tLI (.sl tLI)))) a0 0)), (1, .one (.dat (.sl .bool) a1)), (3, iV a3), (9, aV 0), (10, bV s9.1), (21, iV (lenI s2.2)), (22, iV s9.2.1)], [(0, .seq .bool s9.2.2)], 1⟩) (fun (r11 : (Bool × List Bool)) => (.exit 2, ⟨[(0, .one (.ip (.st (.pair tLI (.pair tLI (.sl tLI)))) a0 0)), (1, .one (.dat (.sl .bool) a1)), (3, iV a3), (9, aV 0), (10, bV r11.1)], [(0, .seq .bool r11.2)], 1⟩)) (Le.re [(0, 0)] [] hX (by kernel_rfl)) hL60 ?_ (fun s9 x12 hx13 hk14 => ?_)
      · have hx6 := of_some hx6
        subst hx6
        refine (qBlockX (qBlock (qLoopN ⟨(r10.1, r10.2), rfl, Le.re [(0, 0)] [] hX (by kernel_rfl)⟩)))
      · refine HT.rg2 [oH] ⟨[(0, .one (.ip (.st (.pair tLI (.pair tLI (.sl tLI)))) a0 0)), (1, .one (.dat (.sl .bool) a1)), (3, iV a3), (9, aV 0), (10, bV s9.1), (21, iV (lenI s2.2)), (22, iV s9.2.1), (23, bV (decide (s9.2.1 < (lenI s2.2))))], [(0, .seq .bool s9.2.2)], 1⟩ hX (by kernel_rfl) allNil ?_
        refine HT.seq ?_
        rcases of_bif hx13 with ⟨hb15, hx13⟩ | ⟨hb15, hx13⟩
        · refine HT.cond1 rfl hb15 ?_
          refine HT.skip (qThen ?_)
          obtain ⟨v16', hT18, hx13⟩ := of_bind hx13
          refine HT.join (fun (v16 : Bool × List Bool) => ⟨[(0, .one (.ip (.st (.pair tLI (.pair tLI (.sl tLI)))) a0 0)), (1, .one (.dat (.sl .bool) a1)), (3, iV a3), (9, aV 0), (10, bV v16.1), (21, iV (lenI s2.2)), (22, iV s9.2.1)], [(0, .seq .bool v16.2)], 1⟩) (fun v => v = v16') (fun v16 hv17 => ?_) (fun cont => ?_)
          · subst hv17
            have hx13 := of_some hx13
            subst hx13
            exact HT.rgK (oHs 2) [(0, 0)] [] hX (by kernel_rfl) allNil (fun _ h => (qLoopN ⟨(v16.1, (wadd .i64 s9.2.1 (1 : Int)), v16.2), rfl, h⟩))
          · refine HT.block ?_
            refine HT.rg2 (oHs 2) ⟨[(0, .one (.ip (.st (.pair tLI (.pair tLI (.sl tLI)))) a0 0)), (1, .one (.dat (.sl .bool) a1)), (3, iV a3), (9, aV 0), (10, bV s9.1), (11, iV s9.2.1), (21, iV (lenI s2.2)), (22, iV s9.2.1)], [(0, .seq .bool s9.2.2)], 1⟩ hX (by kernel_rfl) allNil ?_
            refine HT.seq ?_
            obtain ⟨v19', hT21, hT18⟩ := of_bind hT18
            refine HT.join (fun (v19 : Bool) => ⟨[(0, .one (.ip (.st (.pair tLI (.pair tLI (.sl tLI)))) a0 0)), (1, .one (.dat (.sl .bool) a1)), (3, iV a3), (9, aV 0), (10, bV s9.1), (11, iV s9.2.1), (21, iV (lenI s2.2)), (22, iV s9.2.1), (35, bV v19)], [(0, .seq .bool s9.2.2)], 1⟩) (fun v => v = v19') (fun v19 hv20 => ?_) (fun cont => ?_)
            · subst hv20
              rcases of_bif hT18 with ⟨hb22, hT18⟩ | ⟨hb22, hT18⟩
              · refine HT.cond1 rfl hb22 ?_
                refine HT.exit (qThenE (qBlockX (qThen ?_)))
                exact (Le.re [(0, 0)] [] hX (by kernel_rfl)).ht (cont (s9.1, s9.2.2) (of_some hT18))
              · refine HT.cond0 rfl hb22 ?_
                refine HT.skip (qThen ?_)
                refine HT.rg2 [oH] ⟨[(0, .one (.ip (.st (.pair tLI (.pair tLI (.sl tLI)))) a0 0)), (1, .one (.dat (.sl .bool) a1)), (3, iV a3), (9, aV 0), (10, bV s9.1), (11, iV s9.2.1), (12, bV false), (21, iV (lenI s2.2)), (22, iV s9.2.1)], [(0, .seq .bool s9.2.2)], 1⟩ hX (by kernel_rfl) allNil ?_
                refine HT.rg2 [oH] ⟨[(0, .one (.ip (.st (.pair tLI (.pair tLI (.sl tLI)))) a0 0)), (1, .one (.dat (.sl .bool) a1)), (3, iV a3), (9, aV 0), (10, bV s9.1), (11, iV s9.2.1), (12, bV false), (13, bV true), (21, iV (lenI s2.2)), (22, iV s9.2.1)], [(0, .seq .bool s9.2.2)], 1⟩ hX (by kernel_rfl) allNil ?_
                refine HT.seq ?_
                obtain ⟨hg23, hT18⟩ := of_guard hT18
                refine HT.rg2 (oHs 9) ⟨[(0, .one (.ip (.st (.pair tLI (.pair tLI (.sl tLI)))) a0 0)), (1, .one (.dat (.sl .bool) a1)), (3, iV a3), (9, aV 0), (10, bV s9.1), (11, iV s9.2.1), (12, bV false), (13, bV true), (21, iV (lenI s2.2)), (22, iV s9.2.1), (43, iV (lenI (List.getD a0.2.2 (Int.toNat s9.2.1) ([] : List Int)))), (44, iV (0 : Int))], [(0, .seq .bool s9.2.2)], 1⟩ hX (by kernel_rfl) (allCons hg23 allNil) ?_
                refine HT.block ?_
                obtain ⟨r25, hL56, hT18⟩ := of_bind hT18
                refine HT.loopL (fun (s24 : Bool × Bool × Int) => ⟨[(0, .one (.ip (.st (.pair tLI (.pair tLI (.sl tLI)))) a0 0)), (1, .one (.dat (.sl .bool) a1)), (3, iV a3), (9, aV 0), (10, bV s9.1), (11, iV s9.2.1), (12, bV s24.1), (13, bV s24.2.1), (21, iV (lenI s2.2)), (22, iV s9.2.1), (43, iV (lenI (List.getD a0.2.2 (Int.toNat s9.2.1) ([] : List Int)))), (44, iV s24.2.2)], [(0, .seq .bool s9.2.2)], 1⟩) (fun (r26 : (Bool × Bool)) => (.exit 4, ⟨[(0, .one (.ip (.st (.pair tLI (.pair tLI (.sl tLI)))) a0 0)), (1, .one (.dat (.sl .bool) a1)), (3, iV a3), (9, aV 0), (10, bV s9.1), (11, iV s9.2.1), (12, bV r26.1), (13, bV r26.2), (21, iV (lenI s2.2)), (22, iV s9.2.1)], [(0, .seq .bool s9.2.2)], 1⟩)) (Le.re [(0, 0)] [] hX (by kernel_rfl)) hL56 ?_ (fun s24 x37 hx38 hk39 => ?_)
                · refine (qBlockX (qThen ?_))
                  obtain ⟨v27', hT29, hT18⟩ := of_bind hT18
                  refine HT.join (fun (v27 : Bool) => ⟨[(0, .one (.ip (.st (.pair tLI (.pair tLI (.sl tLI)))) a0 0)), (1, .one (.dat (.sl .bool) a1)), (3, iV a3), (9, aV 0), (10, bV s9.1), (11, iV s9.2.1), (21, iV (lenI s2.2)), (22, iV s9.2.1), (102, bV v27)], [(0, .seq .bool s9.2.2)], 1⟩) (fun v => v = v27') (fun v27 hv28 => ?_) (fun cont => ?_)
                  · subst hv28
                    rcases of_bif hT18 with ⟨hb30, hT18⟩ | ⟨hb30, hT18⟩
                    · refine HT.cond1 rfl hb30 ?_
                      obtain ⟨hg31, hT18⟩ := of_guard hT18
                      refine HT.rg2 (oHs 4) ⟨[(0, .one (.ip (.st (.pair tLI (.pair tLI (.sl tLI)))) a0 0)), (1, .one (.dat (.sl .bool) a1)), (3, iV a3), (9, aV 0), (21, iV (lenI s2.2)), (22, iV s9.2.1)], [(0, .seq .bool (List.set s9.2.2 (Int.toNat s9.2.1) true))], 1⟩ hX (by kernel_rfl) (allCons hg31 (allCons (natLt hg31) allNil)) ?_
                      exact HT.rgK [oH] [(0, 0)] [] hX (by kernel_rfl) allNil (fun _ h => (qBlock (qThen (h.ht (cont (true, (List.set s9.2.2 (Int.toNat s9.2.1) true)) (of_some hT18))))))
                    · refine HT.cond0 rfl hb30 ?_
                      refine HT.skip (qBlock (qThen ?_))
                      exact (Le.re [(0, 0)] [] hX (by kernel_rfl)).ht (cont (s9.1, s9.2.2) (of_some hT18))
                  · obtain ⟨hg32, hT29⟩ := of_guard hT29
                    rcases of_bif hT29 with ⟨hb33, hT29⟩ | ⟨hb33, hT29⟩
                    · rcases of_bif hT29 with ⟨hb34, hT29⟩ | ⟨hb34, hT29⟩
                      · exact HT.rgK [oH, oH, oH, oH, oH, oH, oH, oH, oH, oH, ⟨some true, .no⟩, ⟨none, .tv true⟩, oH, ⟨some true, .no⟩, ⟨some true, .no⟩, ⟨some true, .no⟩, ⟨some true, .no⟩, ⟨some true, .no⟩, ⟨some true, .no⟩, ⟨some true, .no⟩, ⟨some true, .no⟩, ⟨some true, .no⟩, ⟨some true, .no⟩, oH, ⟨some true, .no⟩, ⟨none, .tv true⟩] [(0, 0)] [] hX (by kernel_rfl) (allCons hg32 (allCons hb33 (allCons hb33 (allCons hb34 (allCons hb34 (allCons hb34 (allCons hb34 (allCons hb34 (allCons hb34 (allCons hb34 (allCons hb34 (allCons hb34 (allCons hb34 (allCons hb34 (allCons hb34 allNil))))))))))))))) (fun _ h => (qThen (h.ht (cont true (of_some hT29)))))
                      · rcases of_bif hT29 with ⟨hb35, hT29⟩ | ⟨hb35, hT29⟩
                        · exact HT.rgK [oH, oH, oH, oH, oH, oH, oH, oH, oH, oH, ⟨some true, .no⟩, ⟨none, .tv true⟩, oH, ⟨some false, .no⟩, ⟨some false, .no⟩, ⟨some false, .no⟩, ⟨some false, .no⟩, ⟨some false, .no⟩, ⟨some false, .no⟩, ⟨some false, .no⟩, ⟨some false, .no⟩, ⟨some false, .no⟩, ⟨some false, .no⟩, ⟨some true, .no⟩, ⟨some false, .tv true⟩, ⟨none, .tv false⟩] [(0, 0)] [] hX (by kernel_rfl) (allCons hg32 (allCons hb33 (allCons hb33 (allCons hb34 (allCons hb34 (allCons hb34 (allCons hb34 (allCons hb34 (allCons hb34 (allCons hg32 (allCons hb34 (allCons hb34 (allCons hb34 (allCons hb34 (allCons hb35 (allCons hb34 (allCons hb35 (allCons hb34 allNil)))))))))))))))))) (fun _ h => (qThen (h.ht (cont r25.2 (of_some hT29)))))
                        · exact HT.rgK [oH, oH, oH, oH, oH, oH, oH, oH, oH, oH, ⟨some true, .no⟩, ⟨none, .tv true⟩, oH, ⟨some false, .no⟩, ⟨some false, .no⟩, ⟨some false, .no⟩, ⟨some false, .no⟩, ⟨some false, .no⟩, ⟨some false, .no⟩, ⟨some false, .no⟩, ⟨some false, .no⟩, ⟨some false, .no⟩, ⟨some false, .no⟩, ⟨some false, .no⟩, ⟨some false, .tv false⟩, ⟨none, .tv false⟩] [(0, 0)] [] hX (by kernel_rfl) (allCons hg32 (allCons hb33 (allCons hb33 (allCons hb34 (allCons hb34 (allCons hb34 (allCons hb34 (allCons hb34 (allCons hb34 (allCons hg32 (allCons hb34 (allCons hb34 (allCons hb34 (allCons hb34 (allCons hb35 (allCons hb34 (allCons hb35 (allCons hb34 allNil)))))))))))))))))) (fun _ h => (qThen (h.ht (cont false (of_some hT29)))))
                    · rcases of_bif hT29 with ⟨hb36, hT29⟩ | ⟨hb36, hT29⟩
                      · exact HT.rgK [oH, oH, oH, oH, oH, oH, oH, oH, oH, oH, ⟨some false, .no⟩, ⟨none, .tv false⟩, oH, ⟨some false, .no⟩, ⟨some false, .no⟩, ⟨some false, .no⟩, ⟨some false, .no⟩, ⟨some false, .no⟩, ⟨some false, .no⟩, ⟨some false, .no⟩, ⟨some false, .no⟩, ⟨some false, .no⟩, ⟨some false, .no⟩, ⟨some true, .no⟩, ⟨some false, .tv true⟩, ⟨none, .tv false⟩] [(0, 0)] [] hX (by kernel_rfl) (allCons hg32 (allCons hb33 (allCons hb33 (allCons (rfl : false = false) (allCons (rfl : false = false) (allCons (rfl : false = false) (allCons (rfl : false = false) (allCons (rfl : false = false) (allCons (rfl : false = false) (allCons hg32 (allCons (rfl : false = false) (allCons (rfl : false = false) (allCons (rfl : false = false) (allCons (rfl : false = false) (allCons hb36 (allCons (rfl : false = false) (allCons hb36 (allCons (rfl : false = false) allNil)))))))))))))))))) (fun _ h => (qThen (h.ht (cont r25.2 (of_some hT29)))))
                      · exact HT.rgK [oH, oH, oH, oH, oH, oH, oH, oH, oH, oH, ⟨some false, .no⟩, ⟨none, .tv false⟩, oH, ⟨some false, .no⟩, ⟨some false, .no⟩, ⟨some false, .no⟩, ⟨some false, .no⟩, ⟨some false, .no⟩, ⟨some false, .no⟩, ⟨some false, .no⟩, ⟨some false, .no⟩, ⟨some false, .no⟩, ⟨some false, .no⟩, ⟨some false, .no⟩, ⟨some false, .tv false⟩, ⟨none, .tv false⟩] [(0, 0)] [] hX (by kernel_rfl) (allCons hg32 (allCons hb33 (allCons hb33 (allCons (rfl : false = false) (allCons (rfl : false = false) (allCons (rfl : false = false) (allCons (rfl : false = false) (allCons (rfl : false = false) (allCons (rfl : false = false) (allCons hg32 (allCons (rfl : false = false) (allCons (rfl : false = false) (allCons (rfl : false = false) (allCons (rfl : false = false) (allCons hb36 (allCons (rfl : false = false) (allCons hb36 (allCons (rfl : false = false) allNil)))))))))))))))))) (fun _ h => (qThen (h.ht (cont false (of_some hT29)))))
                · refine HT.rg2 [oH] ⟨[(0, .one (.ip (.st (.pair tLI (.pair tLI (.sl tLI)))) a0 0)), (1, .one (.dat (.sl .bool) a1)), (3, iV a3), (9, aV 0), (10, bV s9.1), (11, iV s9.2.1), (12, bV s24.1), (13, bV s24.2.1), (21, iV (lenI s2.2)), (22, iV s9.2.1), (43, iV (lenI (List.getD a0.2.2 (Int.toNat s9.2.1) ([] : List Int)))), (44, iV s24.2.2), (45, bV (decide (s24.2.2 < (lenI (List.getD a0.2.2 (Int.toNat s9.2.1) ([] : List Int))))))], [(0, .seq .bool s9.2.2)], 1⟩ hX (by kernel_rfl) allNil ?_
                  refine HT.seq ?_
                  rcases of_bif hx38 with ⟨hb40, hx38⟩ | ⟨hb40, hx38⟩
                  · refine HT.cond1 rfl hb40 ?_
                    refine HT.skip (qThen ?_)
                    obtain ⟨v41', hT43, hx38⟩ := of_bind hx38
                    refine HT.join (fun (v41 : Bool × Bool) => ⟨[(0, .one (.ip (.st (.pair tLI (.pair tLI (.sl tLI)))) a0 0)), (1, .one (.dat (.sl .bool) a1)), (3, iV a3), (9, aV 0), (10, bV s9.1), (11, iV s9.2.1), (12, bV v41.1), (13, bV v41.2), (21, iV (lenI s2.2)), (22, iV s9.2.1), (43, iV (lenI (List.getD a0.2.2 (Int.toNat s9.2.1) ([] : List Int)))), (44, iV s24.2.2)], [(0, .seq .bool s9.2.2)], 1⟩) (fun v => v = v41') (fun v41 hv42 => ?_) (fun cont => ?_)
                    · subst hv42
                      have hx38 := of_some hx38
                      subst hx38
                      exact HT.rgK (oHs 2) [(0, 0)] [] hX (by kernel_rfl) allNil (fun _ h => (qLoopN ⟨(v41.1, v41.2, (wadd .i64 s24.2.2 (1 : Int))), rfl, h⟩))
                    · refine HT.block ?_
                      refine HT.rg2 (oHs 2) ⟨[(0, .one (.ip (.st (.pair tLI (.pair tLI (.sl tLI)))) a0 0)), (1, .one (.dat (.sl .bool) a1)), (3, iV a3), (9, aV 0), (10, bV s9.1), (11, iV s9.2.1), (12, bV s24.1), (13, bV s24.2.1), (14, iV s24.2.2), (21, iV (lenI s2.2)), (22, iV s9.2.1), (43, iV (lenI (List.getD a0.2.2 (Int.toNat s9.2.1) ([] : List Int)))), (44, iV s24.2.2)], [(0, .seq .bool s9.2.2)], 1⟩ hX (by kernel_rfl) allNil ?_
                      obtain ⟨hg44, hT43⟩ := of_guard hT43
                      refine HT.rg2 (oHs 11) ⟨[(0, .one (.ip (.st (.pair tLI (.pair tLI (.sl tLI)))) a0 0)), (1, .one (.dat (.sl .bool) a1)), (3, iV a3), (9, aV 0), (10, bV s9.1), (11, iV s9.2.1), (12, bV s24.1), (13, bV s24.2.1), (15, iV (List.getD (List.getD a0.2.2 (Int.toNat s9.2.1) ([] : List Int)) (Int.toNat s24.2.2) (0 : Int))), (21, iV (lenI s2.2)), (22, iV s9.2.1), (43, iV (lenI (List.getD a0.2.2 (Int.toNat s9.2.1) ([] : List Int)))), (44, iV s24.2.2)], [(0, .seq .bool s9.2.2)], 1⟩ hX (by kernel_rfl) (allCons hg23 (allCons hg44 allNil)) ?_
                      obtain ⟨q45, hq46, hT43⟩ := of_bind hT43
                      have hq46 := of_some2 hq46
                      refine (Le.cv (s := ⟨[(0, 0)], [], [], false⟩) (own := []) (ps := [a0 = a0, a1 = a1, a3 = a3, s9.1 = s9.1, s9.2.1 = s9.2.1, s24.1 = s24.1, s24.2.1 = s24.2.1, q45 = (List.getD (List.getD a0.2.2 (Int.toNat s9.2.1) ([] : List Int)) (Int.toNat s24.2.2) (0 : Int)), (lenI s2.2) = (lenI s2.2), s9.2.1 = s9.2.1, (lenI (List.getD a0.2.2 (Int.toNat s9.2.1) ([] : List Int))) = (lenI (List.getD a0.2.2 (Int.toNat s9.2.1) ([] : List Int))), s24.2.2 = s24.2.2, s9.2.2 = s9.2.2]) (st' := ⟨[(0, .one (.ip (.st (.pair tLI (.pair tLI (.sl tLI)))) a0 0)), (1, .one (.dat (.sl .bool) a1)), (3, iV a3), (9, aV 0), (10, bV s9.1), (11, iV s9.2.1), (12, bV s24.1), (13, bV s24.2.1), (15, iV q45), (21, iV (lenI s2.2)), (22, iV s9.2.1), (43, iV (lenI (List.getD a0.2.2 (Int.toNat s9.2.1) ([] : List Int)))), (44, iV s24.2.2)], [(0, .seq .bool s9.2.2)], 1⟩) hO (fun h => by cases h) (by kernel_rfl) ⟨rfl, rfl, rfl, rfl, rfl, rfl, rfl, hq46, rfl, rfl, rfl, rfl, rfl, trivial⟩).ht ?_
                      refine HT.seq ?_
                      obtain ⟨hg47, hT43⟩ := of_guard hT43
                      refine HT.rg2 (oHs 5) ⟨[(0, .one (.ip (.st (.pair tLI (.pair tLI (.sl tLI)))) a0 0)), (1, .one (.dat (.sl .bool) a1)), (3, iV a3), (9, aV 0), (10, bV s9.1), (11, iV s9.2.1), (12, bV s24.1), (13, bV s24.2.1), (15, iV q45), (21, iV (lenI s2.2)), (22, iV s9.2.1), (43, iV (lenI (List.getD a0.2.2 (Int.toNat s9.2.1) ([] : List Int)))), (44, iV s24.2.2), (61, bV (!(List.getD a1 (Int.toNat q45) false)))], [(0, .seq .bool s9.2.2)], 1⟩ hX (by kernel_rfl) (allCons hg47 allNil) ?_
                      rcases of_bif hT43 with ⟨hb48, hT43⟩ | ⟨hb48, hT43⟩
                      · refine HT.cond1 rfl hb48 ?_
                        refine HT.exit (qThenE (qBlockX (qThen ?_)))
                        exact (Le.re [(0, 0)] [] hX (by kernel_rfl)).ht (cont (s24.1, s24.2.1) (of_some hT43))
                      · refine HT.cond0 rfl hb48 ?_
                        refine HT.skip (qThen ?_)
                        obtain ⟨v49', hT51, hT43⟩ := of_bind hT43
                        refine HT.join (fun (v49 : Bool) => ⟨[(0, .one (.ip (.st (.pair tLI (.pair tLI (.sl tLI)))) a0 0)), (1, .one (.dat (.sl .bool) a1)), (3, iV a3), (9, aV 0), (10, bV s9.1), (11, iV s9.2.1), (12, bV v49), (13, bV s24.2.1), (15, iV q45), (21, iV (lenI s2.2)), (22, iV s9.2.1), (43, iV (lenI (List.getD a0.2.2 (Int.toNat s9.2.1) ([] : List Int)))), (44, iV s24.2.2)], [(0, .seq .bool s9.2.2)], 1⟩) (fun v => v = v49') (fun v49 hv50 => ?_) (fun cont => ?_)
                        · subst hv50
                          rcases of_bif hT43 with ⟨hb52, hT43⟩ | ⟨hb52, hT43⟩
                          · obtain ⟨hg53, hT43⟩ := of_guard hT43
                            exact HT.rgK [oH, oH, ⟨some true, .no⟩, ⟨some true, .no⟩, ⟨some true, .no⟩, ⟨some true, .no⟩, ⟨none, .tv true⟩, oH] [(0, 0)] [] hX (by kernel_rfl) (allCons hb52 (allCons hb52 (allCons hb52 (allCons hg53 (allCons hb52 (allCons (natLt hg53) (allCons hb52 allNil))))))) (fun _ h => (qBlock (qThen (h.ht (cont (v49, (List.getD s9.2.2 (Int.toNat q45) false)) (of_some hT43))))))
                          · exact HT.rgK [oH, oH, ⟨some false, .no⟩, ⟨some false, .no⟩, ⟨some false, .no⟩, ⟨some false, .no⟩, ⟨none, .tv false⟩, oH] [(0, 0)] [] hX (by kernel_rfl) (allCons hb52 (allCons hb52 (allCons hb52 (allCons hb52 (allCons hb52 allNil))))) (fun _ h => (qBlock (qThen (h.ht (cont (v49, false) (of_some hT43))))))
                        · rcases of_bif hT51 with ⟨hb54, hT51⟩ | ⟨hb54, hT51⟩
                          · exact HT.rgK [oH, oH, ⟨some true, .no⟩, ⟨some true, .no⟩, ⟨some true, .no⟩, ⟨some true, .no⟩, ⟨none, .tv true⟩, oH] [(0, 0)] [] hX (by kernel_rfl) (allCons hb54 (allCons hb54 (allCons hb54 (allCons hb54 (allCons hb54 allNil))))) (fun _ h => (qThen (h.ht (cont true (of_some hT51)))))
                          · obtain ⟨hg55, hT51⟩ := of_guard hT51
                            exact HT.rgK [oH, oH, ⟨some false, .no⟩, ⟨some false, .no⟩, ⟨some false, .no⟩, ⟨some false, .no⟩, ⟨none, .tv false⟩, oH] [(0, 0)] [] hX (by kernel_rfl) (allCons hb54 (allCons hb54 (allCons hb54 (allCons hg55 (allCons hb54 (allCons (natLt hg55) (allCons hb54 allNil))))))) (fun _ h => (qThen (h.ht (cont (List.getD s9.2.2 (Int.toNat q45) false) (of_some hT51)))))
                  · refine HT.cond0 rfl hb40 ?_
                    have hx38 := of_some hx38
                    subst hx38
                    exact HT.exitL (Le.re [(0, 0)] [] hX (by kernel_rfl)) (qThenE (qLoopE (hk39 (s24.1, s24.2.1) rfl)))
            · obtain ⟨hg57, hT21⟩ := of_guard hT21
              rcases of_bif hT21 with ⟨hb58, hT21⟩ | ⟨hb58, hT21⟩
              · exact HT.rgK [oH, oH, oH, oH, oH, ⟨some true, .no⟩, ⟨some true, .no⟩, ⟨some true, .no⟩, ⟨some true, .no⟩, ⟨some true, .no⟩, ⟨none, .tv true⟩] [(0, 0)] [] hX (by kernel_rfl) (allCons hg57 (allCons (natLt hg57) (allCons hb58 (allCons hb58 (allCons hb58 (allCons hb58 (allCons hb58 (allCons hb58 allNil)))))))) (fun _ h => (qThen (h.ht (cont true (of_some hT21)))))
              · obtain ⟨hg59, hT21⟩ := of_guard hT21
                exact HT.rgK [oH, oH, oH, oH, oH, ⟨some false, .no⟩, ⟨some false, .no⟩, ⟨some false, .no⟩, ⟨some false, .no⟩, ⟨some false, .no⟩, ⟨none, .tv false⟩] [(0, 0)] [] hX (by kernel_rfl) (allCons hg57 (allCons (natLt hg57) (allCons hb58 (allCons hb58 (allCons hb58 (allCons hg59 (allCons hb58 (allCons hb58 (allCons hb58 allNil))))))))) (fun _ h => (qThen (h.ht (cont (!(List.getD a1 (Int.toNat s9.2.1) false)) (of_some hT21)))))
        · refine HT.cond0 rfl hb15 ?_
          have hx13 := of_some hx13
          subst hx13
          exact HT.exitL (Le.re [(0, 0)] [] hX (by kernel_rfl)) (qThenE (qLoopE (hk14 (s9.1, s9.2.2) rfl)))
    · refine HT.cond0 rfl hb8 ?_
      have hx6 := of_some hx6
      subst hx6
      exact HT.exitL (Le.re [(0, 0)] [] hX (by kernel_rfl)) (qThenE (qLoopE (hk7 s2.2 rfl)))

noncomputable def spec_l00In (a0 : Int) (a1 : Int) (a2 : Int) : Option (Bool) :=
  (show Option (Bool) from
    bif (decide (a0 ≥ a1)) then
      some (decide (a0 ≤ a2))
    else
      some false).bind fun v1 =>
  some v1

theorem f51_ok {a0 : Int} {a1 : Int} {a2 : Int} {r : Bool} (hr : spec_l00In a0 a1 a2 = some r) : CallOK Try.prog 51 [.imm tI a0, .imm tI a1, .imm tI a2] [⟨false, .bool, r⟩] [] := by
  unfold spec_l00In at hr
  refine CallOK.of_body (ts := [(false, .bool)]) Try.func51 rfl (by kernel_rfl) (Nat.le_of_ble_eq_true (by kernel_rfl)) fun cx hP hN hO hF => ?_
  have hO : cx.own.map Prod.fst = [] := hO
  have hX := CxIs.mk hP hN hO
  have hF := hF rfl
  show HT cx ⟨[(0, iV a0), (1, iV a1), (2, iV a2)], [], 0⟩ _ _
  refine HT.rg2 [oH] ⟨[(0, iV a0), (1, iV a1), (2, iV a2)], [], 0⟩ hX (by kernel_rfl) allNil ?_
  obtain ⟨v1', hT3, hr⟩ := of_bind hr
  refine HT.join (fun (v1 : Bool) => ⟨[(6, bV v1)], [], 0⟩) (fun v => v = v1') (fun v1 hv2 => ?_) (fun cont => ?_)
  · subst hv2
    have hr := of_some hr
    subst hr
    exact HT.ret ⟨[bV v1], [], [], by kernel_rfl, by kernel_rfl, rfl, by kernel_rfl, by kernel_rfl, trivial⟩
  · rcases of_bif hT3 with ⟨hb4, hT3⟩ | ⟨hb4, hT3⟩
    · exact HT.rgK [oH, oH, oH, oH, ⟨some true, .no⟩, ⟨some true, .no⟩, ⟨some true, .no⟩, ⟨none, .tv true⟩, oH] [] [] hX (by kernel_rfl) (allCons hb4 (allCons hb4 (allCons hb4 (allCons hb4 allNil)))) (fun _ h => (qThen (h.ht (cont (decide (a0 ≤ a2)) (of_some hT3)))))
    · exact HT.rgK [oH, oH, oH, oH, ⟨some false, .no⟩, ⟨some false, .no⟩, ⟨some false, .no⟩, ⟨none, .tv false⟩, oH] [] [] hX (by kernel_rfl) (allCons hb4 (allCons hb4 (allCons hb4 (allCons hb4 allNil)))) (fun _ h => (qThen (h.ht (cont false (of_some hT3)))))

noncomputable def spec_l07Game_B1 (a0 : List Int × List Int × List (List Int)) (s5 : Int) (s18 : Int) : Option ((Int) ⊕ (Unit ⊕ Unit)) :=
  bif (decide (s18 < (lenI (List.getD a0.2.2 (Int.toNat s5) ([] : List Int))))) then
    (show Option (Bool) from
      guardP ((0 : Int) ≤ s18 ∧ s18 < lenI (List.getD a0.2.2 (Int.toNat s5) ([] : List Int))) (
        (spec_l00In (List.getD (List.getD a0.2.2 (Int.toNat s5) ([] : List Int)) (Int.toNat s18) (0 : Int)) (0 : Int) (wsub .i64 (lenI a0.1) (1 : Int))).bind fun y31 =>
        bif (!y31) then
          some true
        else
          bif (decide (s18 > (0 : Int))) then
            guardP ((0 : Int) ≤ (wsub .i64 s18 (1 : Int)) ∧ (wsub .i64 s18 (1 : Int)) < lenI (List.getD a0.2.2 (Int.toNat s5) ([] : List Int))) (
              some (decide ((List.getD (List.getD a0.2.2 (Int.toNat s5) ([] : List Int)) (Int.toNat s18) (0 : Int)) ≤ (List.getD (List.getD a0.2.2 (Int.toNat s5) ([] : List Int)) (Int.toNat (wsub .i64 s18 (1 : Int))) (0 : Int)))))
          else
            some false)).bind fun v26 =>
    bif v26 then
      some (.inr (.inr ()))
    else
      some (.inl (wadd .i64 s18 (1 : Int)))
  else
    some (.inr (.inl ()))

noncomputable def spec_l07Game_B2 (a0 : List Int × List Int × List (List Int)) (s5 : Int) : Option ((Int) ⊕ (Unit ⊕ Unit)) :=
  bif (decide (s5 < (lenI a0.1))) then
    (show Option (Bool) from
      guardP ((0 : Int) ≤ s5 ∧ s5 < lenI a0.1) (
        (spec_l00In (List.getD a0.1 (Int.toNat s5) (0 : Int)) (0 : Int) (1 : Int)).bind fun y38 =>
        bif (!y38) then
          some true
        else
          guardP ((0 : Int) ≤ s5 ∧ s5 < lenI a0.2.1) (
            (spec_l00In (List.getD a0.2.1 (Int.toNat s5) (0 : Int)) (0 : Int) (8 : Int)).bind fun y42 =>
            bif (!y42) then
              some true
            else
              guardP ((0 : Int) ≤ s5 ∧ s5 < lenI a0.2.2) (
                some (decide ((lenI (List.getD a0.2.2 (Int.toNat s5) ([] : List Int))) < (1 : Int))))))).bind fun v13 =>
    bif v13 then
      some (.inr (.inr ()))
    else
      guardP ((0 : Int) ≤ s5 ∧ s5 < lenI a0.2.2) (
        (rounds (spec_l07Game_B1 a0 s5) (0 : Int)).bind fun r19 => match r19 with
          | .inl r20 =>
            some (.inl (wadd .i64 s5 (1 : Int)))
          | .inr r21 =>
            some (.inr (.inr ())))
  else
    some (.inr (.inl ()))

noncomputable def spec_l07Game (a0 : List Int × List Int × List (List Int)) : Option (Bool) :=
  (show Option (Bool) from
    bif (decide ((lenI a0.1) < (1 : Int))) then
      some true
    else
      bif (decide ((lenI a0.1) > (16 : Int))) then
        some true
      else
        bif ((lenI a0.2.1) != (lenI a0.1)) then
          some true
        else
          some ((lenI a0.2.2) != (lenI a0.1))).bind fun v1 =>
  bif v1 then
    some false
  else
    (rounds (spec_l07Game_B2 a0) (0 : Int)).bind fun r6 => match r6 with
      | .inl r7 =>
        some true
      | .inr r8 =>
        some false

theorem f45_ok {a0 : List Int × List Int × List (List Int)} {r : Bool} (hr : spec_l07Game a0 = some r) : CallOK Try.prog 45 [.pimm (.st (.pair tLI (.pair tLI (.sl tLI)))) a0] [⟨false, .bool, r⟩] [] := by
  unfold spec_l07Game at hr
  refine CallOK.of_body (ts := [(false, .bool)]) Try.func45 rfl (by kernel_rfl) (Nat.le_of_ble_eq_true (by kernel_rfl)) fun cx hP hN hO hF => ?_
  have hO : cx.own.map Prod.fst = [] := hO
  have hX := CxIs.mk hP hN hO
  have hF := hF rfl
  show HT cx ⟨[(0, .one (.ip (.st (.pair tLI (.pair tLI (.sl tLI)))) a0 0))], [], 0⟩ _ _
  refine HT.rg2 [oH] ⟨[(0, .one (.ip (.st (.pair tLI (.pair tLI (.sl tLI)))) a0 0))], [], 0⟩ hX (by kernel_rfl) allNil ?_
  refine HT.rg2 (oHs 6) ⟨[(0, .one (.ip (.st (.pair tLI (.pair tLI (.sl tLI)))) a0 0)), (3, iV (lenI a0.1))], [], 0⟩ hX (by kernel_rfl) allNil ?_
  refine HT.seq ?_
  obtain ⟨v1', hT3, hr⟩ := of_bind hr
  refine HT.join (fun (v1 : Bool) => ⟨[(0, .one (.ip (.st (.pair tLI (.pair tLI (.sl tLI)))) a0 0)), (3, iV (lenI a0.1)), (34, bV v1)], [], 0⟩) (fun v => v = v1') (fun v1 hv2 => ?_) (fun cont => ?_)
  · subst hv2
    rcases of_bif hr with ⟨hb4, hr⟩ | ⟨hb4, hr⟩
    · refine HT.cond1 rfl hb4 ?_
      refine HT.rg2 [oH] ⟨[(2, bV false)], [], 0⟩ hX (by kernel_rfl) allNil ?_
      have hr := of_some hr
      subst hr
      exact HT.ret (qThenR ⟨[bV false], [], [], by kernel_rfl, by kernel_rfl, rfl, by kernel_rfl, by kernel_rfl, trivial⟩)
    · refine HT.cond0 rfl hb4 ?_
      refine HT.skip (qThen ?_)
      refine HT.seq ?_
      refine HT.rg2 (oHs 6) ⟨[(0, .one (.ip (.st (.pair tLI (.pair tLI (.sl tLI)))) a0 0)), (3, iV (lenI a0.1)), (39, iV (lenI a0.1)), (40, iV (0 : Int))], [], 0⟩ hX (by kernel_rfl) allNil ?_
      refine HT.block ?_
      obtain ⟨r6, hL46, hr⟩ := of_bind hr
      refine HT.loopL (fun (s5 : Int) => ⟨[(0, .one (.ip (.st (.pair tLI (.pair tLI (.sl tLI)))) a0 0)), (3, iV (lenI a0.1)), (39, iV (lenI a0.1)), (40, iV s5)], [], 0⟩) (fun (r6 : Unit ⊕ Unit) => match r6 with | .inl r7 => (.exit 0, ⟨[], [], 0⟩) | .inr r8 => (.ret, ⟨[(2, bV false)], [], 0⟩)) (Le.re [] [] hX (by kernel_rfl)) hL46 ?_ (fun s5 x9 hx10 hk11 => ?_)
      · rcases r6 with r7 | r8
        · refine (qBlockX (qThen ?_))
          refine HT.rg2 [oH] ⟨[(2, bV true)], [], 0⟩ hX (by kernel_rfl) allNil ?_
          have hr := of_some hr
          subst hr
          exact HT.ret ⟨[bV true], [], [], by kernel_rfl, by kernel_rfl, rfl, by kernel_rfl, by kernel_rfl, trivial⟩
        · have hr := of_some hr
          subst hr
          exact (qBlockR (qThenR ⟨[bV false], [], [], by kernel_rfl, by kernel_rfl, rfl, by kernel_rfl, by kernel_rfl, trivial⟩))
      · refine HT.rg2 [oH] ⟨[(0, .one (.ip (.st (.pair tLI (.pair tLI (.sl tLI)))) a0 0)), (3, iV (lenI a0.1)), (39, iV (lenI a0.1)), (40, iV s5), (41, bV (decide (s5 < (lenI a0.1))))], [], 0⟩ hX (by kernel_rfl) allNil ?_
        refine HT.seq ?_
        rcases of_bif hx10 with ⟨hb12, hx10⟩ | ⟨hb12, hx10⟩
        · refine HT.cond1 rfl hb12 ?_
          refine HT.skip (qThen ?_)
          refine HT.seq ?_
          refine HT.block ?_
          refine HT.rg2 (oHs 2) ⟨[(0, .one (.ip (.st (.pair tLI (.pair tLI (.sl tLI)))) a0 0)), (3, iV (lenI a0.1)), (4, iV s5), (39, iV (lenI a0.1)), (40, iV s5)], [], 0⟩ hX (by kernel_rfl) allNil ?_
          refine HT.seq ?_
          obtain ⟨v13', hT15, hx10⟩ := of_bind hx10
          refine HT.join (fun (v13 : Bool) => ⟨[(0, .one (.ip (.st (.pair tLI (.pair tLI (.sl tLI)))) a0 0)), (3, iV (lenI a0.1)), (4, iV s5), (39, iV (lenI a0.1)), (40, iV s5), (73, bV v13)], [], 0⟩) (fun v => v = v13') (fun v13 hv14 => ?_) (fun cont => ?_)
          · subst hv14
            rcases of_bif hx10 with ⟨hb16, hx10⟩ | ⟨hb16, hx10⟩
            · refine HT.cond1 rfl hb16 ?_
              refine HT.rg2 [oH] ⟨[(2, bV false)], [], 0⟩ hX (by kernel_rfl) allNil ?_
              have hx10 := of_some hx10
              subst hx10
              exact HT.retL (Le.re [] [] hX (by kernel_rfl)) (qThenR (qBlockR (qThenR (qLoopR (hk11 (.inr ()) rfl)))))
            · refine HT.cond0 rfl hb16 ?_
              refine HT.skip (qThen ?_)
              obtain ⟨hg17, hx10⟩ := of_guard hx10
              refine HT.rg2 (oHs 9) ⟨[(0, .one (.ip (.st (.pair tLI (.pair tLI (.sl tLI)))) a0 0)), (3, iV (lenI a0.1)), (4, iV s5), (39, iV (lenI a0.1)), (40, iV s5), (81, iV (lenI (List.getD a0.2.2 (Int.toNat s5) ([] : List Int)))), (82, iV (0 : Int))], [], 0⟩ hX (by kernel_rfl) (allCons hg17 allNil) ?_
              refine HT.block ?_
              obtain ⟨r19, hL36, hx10⟩ := of_bind hx10
              refine HT.loopL (fun (s18 : Int) => ⟨[(0, .one (.ip (.st (.pair tLI (.pair tLI (.sl tLI)))) a0 0)), (3, iV (lenI a0.1)), (4, iV s5), (39, iV (lenI a0.1)), (40, iV s5), (81, iV (lenI (List.getD a0.2.2 (Int.toNat s5) ([] : List Int)))), (82, iV s18)], [], 0⟩) (fun (r19 : Unit ⊕ Unit) => match r19 with | .inl r20 => (.exit 2, ⟨[(0, .one (.ip (.st (.pair tLI (.pair tLI (.sl tLI)))) a0 0)), (3, iV (lenI a0.1)), (39, iV (lenI a0.1)), (40, iV s5)], [], 0⟩) | .inr r21 => (.ret, ⟨[(2, bV false)], [], 0⟩)) (Le.re [] [] hX (by kernel_rfl)) hL36 ?_ (fun s18 x22 hx23 hk24 => ?_)
              · rcases r19 with r20 | r21
                · refine (qBlockX (qBlock (qThen ?_)))
                  have hx10 := of_some hx10
                  subst hx10
                  exact HT.rgK (oHs 2) [] [] hX (by kernel_rfl) allNil (fun _ h => (qLoopN ⟨(wadd .i64 s5 (1 : Int)), rfl, h⟩))
                · have hx10 := of_some hx10
                  subst hx10
                  exact (qBlockR (qBlockR (qThenR (qLoopR (hk11 (.inr ()) rfl)))))
              · refine HT.rg2 [oH] ⟨[(0, .one (.ip (.st (.pair tLI (.pair tLI (.sl tLI)))) a0 0)), (3, iV (lenI a0.1)), (4, iV s5), (39, iV (lenI a0.1)), (40, iV s5), (81, iV (lenI (List.getD a0.2.2 (Int.toNat s5) ([] : List Int)))), (82, iV s18), (83, bV (decide (s18 < (lenI (List.getD a0.2.2 (Int.toNat s5) ([] : List Int))))))], [], 0⟩ hX (by kernel_rfl) allNil ?_
                refine HT.seq ?_
                rcases of_bif hx23 with ⟨hb25, hx23⟩ | ⟨hb25, hx23⟩
                · refine HT.cond1 rfl hb25 ?_
                  refine HT.skip (qThen ?_)
                  refine HT.seq ?_
                  refine HT.block ?_
                  refine HT.rg2 (oHs 2) ⟨[(0, .one (.ip (.st (.pair tLI (.pair tLI (.sl tLI)))) a0 0)), (3, iV (lenI a0.1)), (4, iV s5), (5, iV s18), (39, iV (lenI a0.1)), (40, iV s5), (81, iV (lenI (List.getD a0.2.2 (Int.toNat s5) ([] : List Int)))), (82, iV s18)], [], 0⟩ hX (by kernel_rfl) allNil ?_
                  obtain ⟨v26', hT28, hx23⟩ := of_bind hx23
                  refine HT.join (fun (v26 : Bool) => ⟨[(0, .one (.ip (.st (.pair tLI (.pair tLI (.sl tLI)))) a0 0)), (3, iV (lenI a0.1)), (4, iV s5), (39, iV (lenI a0.1)), (40, iV s5), (81, iV (lenI (List.getD a0.2.2 (Int.toNat s5) ([] : List Int)))), (82, iV s18), (126, bV v26)], [], 0⟩) (fun v => v = v26') (fun v26 hv27 => ?_) (fun cont => ?_)
                  · subst hv27
                    rcases of_bif hx23 with ⟨hb29, hx23⟩ | ⟨hb29, hx23⟩
                    · refine HT.cond1 rfl hb29 ?_
                      refine HT.rg2 [oH] ⟨[(2, bV false)], [], 0⟩ hX (by kernel_rfl) allNil ?_
                      have hx23 := of_some hx23
                      subst hx23
                      exact HT.retL (Le.re [] [] hX (by kernel_rfl)) (qBlockR (qThenR (qLoopR (hk24 (.inr ()) rfl))))
                    · refine HT.cond0 rfl hb29 ?_
                      refine HT.skip (qBlock (qThen ?_))
                      have hx23 := of_some hx23
                      subst hx23
                      exact HT.rgK (oHs 2) [] [] hX (by kernel_rfl) allNil (fun _ h => (qLoopN ⟨(wadd .i64 s18 (1 : Int)), rfl, h⟩))
                  · obtain ⟨hg30, hT28⟩ := of_guard hT28
                    obtain ⟨y31, hc32, hT28⟩ := of_bind hT28
                    rcases of_bif hT28 with ⟨hb33, hT28⟩ | ⟨hb33, hT28⟩
                    · exact HT.drK 39 [⟨oH, []⟩, ⟨oH, [0]⟩, ⟨oH, [0, 1]⟩, ⟨oH, [0, 1, 2]⟩, ⟨oH, []⟩, ⟨oH, [0, 1, 2, 3, 4]⟩, ⟨oH, [0, 1, 2, 3, 4, 5]⟩, ⟨oH, []⟩, ⟨oH, [0, 1, 2, 3, 4, 5, 6, 7]⟩, ⟨oH, [0, 1, 2, 3, 4, 5, 6, 7, 8]⟩, ⟨oH, []⟩, ⟨oH, [10]⟩, ⟨⟨none, .call [.imm tI, .imm tI, .imm tI] [⟨false, .bool, y31⟩] []⟩, [0, 1, 2, 3, 4, 5, 6, 7, 8, 9, 10, 11]⟩, ⟨oH, [0, 1, 2, 3, 4, 5, 6, 7, 8, 9, 10, 11, 12]⟩, ⟨oH, [0, 1, 2, 3, 4, 5, 6, 7, 8, 9, 10, 11, 12, 13]⟩, ⟨⟨some true, .no⟩, [0, 1, 2, 3, 4, 5, 6, 7, 8, 9, 10, 11, 12, 13, 14]⟩, ⟨⟨some true, .no⟩, [0, 1, 2, 3, 4, 5, 6, 7, 8, 9, 10, 11, 12, 13, 14, 15]⟩, ⟨⟨some true, .no⟩, [0, 1, 2, 3, 4, 5, 6, 7, 8, 9, 10, 11, 12, 13, 14, 15, 16]⟩, ⟨oH, [0, 1, 2, 3, 4, 5, 6, 7, 8, 9, 10, 11, 12, 13, 14, 15, 16, 17]⟩, ⟨oH, [0, 1, 2, 3, 4, 5, 6, 7, 8, 9, 10, 11, 12, 13, 14, 15, 16, 17, 18]⟩, ⟨oH, [0, 1, 2, 3, 4, 5, 6, 7, 8, 9, 10, 11, 12, 13, 14, 15, 16, 17, 18, 19]⟩, ⟨oH, [0, 1, 2, 3, 4, 5, 6, 7, 8, 9, 10, 11, 12, 13, 14, 15, 16, 17, 18, 19, 20]⟩, ⟨oH, [0, 1, 2, 3, 4, 5, 6, 7, 8, 9, 10, 11, 12, 13, 14, 15, 16, 17]⟩, ⟨oH, [0, 1, 2, 3, 4, 5, 6, 7, 8, 9, 10, 11, 12, 13, 14, 15, 16, 17, 18, 19, 20, 21, 22]⟩, ⟨oH, [0, 1, 2, 3, 4, 5, 6, 7, 8, 9, 10, 11, 12, 13, 14, 15, 16, 17, 18, 19, 20, 21, 22, 23]⟩, ⟨oH, [0, 1, 2, 3, 4, 5, 6, 7, 8, 9, 10, 11, 12, 13, 14, 15, 16, 17]⟩, ⟨oH, [0, 1, 2, 3, 4, 5, 6, 7, 8, 9, 10, 11, 12, 13, 14, 15, 16, 17, 18, 19, 20, 21, 22, 23, 24, 25]⟩, ⟨oH, [0, 1, 2, 3, 4, 5, 6, 7, 8, 9, 10, 11, 12, 13, 14, 15, 16, 17, 18, 19, 20, 21, 22, 23, 24, 25, 26]⟩, ⟨oH, [0, 1, 2, 3, 4, 5, 6, 7, 8, 9, 10, 11, 12, 13, 14, 15, 16, 17]⟩, ⟨oH, [0, 1, 2, 3, 4, 5, 6, 7, 8, 9, 10, 11, 12, 13, 14, 15, 16, 17, 28]⟩, ⟨oH, [0, 1, 2, 3, 4, 5, 6, 7, 8, 9, 10, 11, 12, 13, 14, 15, 16, 17, 28, 29]⟩, ⟨oH, [0, 1, 2, 3, 4, 5, 6, 7, 8, 9, 10, 11, 12, 13, 14, 15, 16, 17, 28, 29, 30]⟩, ⟨oH, [0, 1, 2, 3, 4, 5, 6, 7, 8, 9, 10, 11, 12, 13, 14, 15, 16, 17]⟩, ⟨oH, [0, 1, 2, 3, 4, 5, 6, 7, 8, 9, 10, 11, 12, 13, 14, 15, 16, 17, 28, 29, 30, 31, 32]⟩, ⟨oH, [0, 1, 2, 3, 4, 5, 6, 7, 8, 9, 10, 11, 12, 13, 14, 15, 16, 17, 28, 29, 30, 31, 32, 33]⟩, ⟨oH, [0, 1, 2, 3, 4, 5, 6, 7, 8, 9, 10, 11, 12, 13, 14, 15, 16, 17]⟩, ⟨oH, [0, 1, 2, 3, 4, 5, 6, 7, 8, 9, 10, 11, 12, 13, 14, 15, 16, 17, 35]⟩, ⟨oH, [0, 1, 2, 3, 4, 5, 6, 7, 8, 9, 10, 11, 12, 13, 14, 15, 16, 17, 28, 29, 30, 31, 32, 33, 34, 35, 36]⟩, ⟨oH, [0, 1, 2, 3, 4, 5, 6, 7, 8, 9, 10, 11, 12, 13, 14, 15, 16, 17, 28, 29, 30, 31, 32, 33, 34, 35, 36, 37]⟩] [[0, 1, 2, 3, 4, 5, 6, 7, 8, 9, 10, 11, 12, 13, 14, 15, 16, 17, 18, 19, 20, 21, 22, 23, 24, 25, 26, 27, 28, 29, 30, 31, 32, 33, 34, 35, 36, 37, 38], [0, 1, 2, 3, 4, 5, 6, 7, 8, 9, 10, 11, 12, 13, 14, 15, 16, 17, 18, 19, 20, 21, 22, 23, 24, 25, 26, 27, 28, 29, 30, 31, 32, 33, 34, 35, 36, 37, 38, 39], [0, 1, 2, 3, 4, 5, 6, 7, 8, 9, 10, 11, 12, 13, 14, 15, 16, 17, 18, 19, 20, 21, 22, 23, 24, 25, 26, 27, 28, 29, 30, 31, 32, 33, 34, 35, 36, 37, 38, 39, 40]] [oH, ⟨some true, .no⟩, ⟨none, .tv true⟩] [] [] hX (by kernel_rfl) (by kernel_rfl) (allCons hg17 (allCons hg30 (allCons (f51_ok hc32) (allCons hb33 (allCons hb33 (allCons hb33 (allCons hb33 (allCons hb33 allNil)))))))) (fun _ h => (qThen (h.ht (cont true (of_some hT28)))))
                    · rcases of_bif hT28 with ⟨hb34, hT28⟩ | ⟨hb34, hT28⟩
                      · obtain ⟨hg35, hT28⟩ := of_guard hT28
                        exact HT.drK 39 [⟨oH, []⟩, ⟨oH, [0]⟩, ⟨oH, [0, 1]⟩, ⟨oH, [0, 1, 2]⟩, ⟨oH, []⟩, ⟨oH, [0, 1, 2, 3, 4]⟩, ⟨oH, [0, 1, 2, 3, 4, 5]⟩, ⟨oH, []⟩, ⟨oH, [0, 1, 2, 3, 4, 5, 6, 7]⟩, ⟨oH, [0, 1, 2, 3, 4, 5, 6, 7, 8]⟩, ⟨oH, []⟩, ⟨oH, [10]⟩, ⟨⟨none, .call [.imm tI, .imm tI, .imm tI] [⟨false, .bool, y31⟩] []⟩, [0, 1, 2, 3, 4, 5, 6, 7, 8, 9, 10, 11]⟩, ⟨oH, [0, 1, 2, 3, 4, 5, 6, 7, 8, 9, 10, 11, 12]⟩, ⟨oH, [0, 1, 2, 3, 4, 5, 6, 7, 8, 9, 10, 11, 12, 13]⟩, ⟨⟨some false, .no⟩, [0, 1, 2, 3, 4, 5, 6, 7, 8, 9, 10, 11, 12, 13, 14]⟩, ⟨⟨some false, .no⟩, [0, 1, 2, 3, 4, 5, 6, 7, 8, 9, 10, 11, 12, 13, 14, 15]⟩, ⟨⟨some false, .no⟩, [0, 1, 2, 3, 4, 5, 6, 7, 8, 9, 10, 11, 12, 13, 14, 15, 16]⟩, ⟨⟨some true, .no⟩, [0, 1, 2, 3, 4, 5, 6, 7, 8, 9, 10, 11, 12, 13, 14, 15, 16, 17]⟩, ⟨⟨some true, .no⟩, [0, 1, 2, 3, 4, 5, 6, 7, 8, 9, 10, 11, 12, 13, 14, 15, 16, 17, 18]⟩, ⟨⟨some true, .no⟩, [0, 1, 2, 3, 4, 5, 6, 7, 8, 9, 10, 11, 12, 13, 14, 15, 16, 17, 18, 19]⟩, ⟨⟨some true, .no⟩, [0, 1, 2, 3, 4, 5, 6, 7, 8, 9, 10, 11, 12, 13, 14, 15, 16, 17, 18, 19, 20]⟩, ⟨⟨some true, .no⟩, [0, 1, 2, 3, 4, 5, 6, 7, 8, 9, 10, 11, 12, 13, 14, 15, 16, 17]⟩, ⟨⟨some true, .no⟩, [0, 1, 2, 3, 4, 5, 6, 7, 8, 9, 10, 11, 12, 13, 14, 15, 16, 17, 18, 19, 20, 21, 22]⟩, ⟨⟨some true, .no⟩, [0, 1, 2, 3, 4, 5, 6, 7, 8, 9, 10, 11, 12, 13, 14, 15, 16, 17, 18, 19, 20, 21, 22, 23]⟩, ⟨⟨some true, .no⟩, [0, 1, 2, 3, 4, 5, 6, 7, 8, 9, 10, 11, 12, 13, 14, 15, 16, 17]⟩, ⟨⟨some true, .no⟩, [0, 1, 2, 3, 4, 5, 6, 7, 8, 9, 10, 11, 12, 13, 14, 15, 16, 17, 18, 19, 20, 21, 22, 23, 24, 25]⟩, ⟨⟨some true, .no⟩, [0, 1, 2, 3, 4, 5, 6, 7, 8, 9, 10, 11, 12, 13, 14, 15, 16, 17, 18, 19, 20, 21, 22, 23, 24, 25, 26]⟩, ⟨⟨some true, .no⟩, [0, 1, 2, 3, 4, 5, 6, 7, 8, 9, 10, 11, 12, 13, 14, 15, 16, 17]⟩, ⟨⟨some true, .no⟩, [0, 1, 2, 3, 4, 5, 6, 7, 8, 9, 10, 11, 12, 13, 14, 15, 16, 17, 28]⟩, ⟨⟨some true, .no⟩, [0, 1, 2, 3, 4, 5, 6, 7, 8, 9, 10, 11, 12, 13, 14, 15, 16, 17, 28, 29]⟩, ⟨⟨some true, .no⟩, [0, 1, 2, 3, 4, 5, 6, 7, 8, 9, 10, 11, 12, 13, 14, 15, 16, 17, 28, 29, 30]⟩, ⟨⟨some true, .no⟩, [0, 1, 2, 3, 4, 5, 6, 7, 8, 9, 10, 11, 12, 13, 14, 15, 16, 17]⟩, ⟨⟨some true, .no⟩, [0, 1, 2, 3, 4, 5, 6, 7, 8, 9, 10, 11, 12, 13, 14, 15, 16, 17, 28, 29, 30, 31, 32]⟩, ⟨⟨some true, .no⟩, [0, 1, 2, 3, 4, 5, 6, 7, 8, 9, 10, 11, 12, 13, 14, 15, 16, 17, 28, 29, 30, 31, 32, 33]⟩, ⟨⟨some true, .no⟩, [0, 1, 2, 3, 4, 5, 6, 7, 8, 9, 10, 11, 12, 13, 14, 15, 16, 17]⟩, ⟨⟨some true, .no⟩, [0, 1, 2, 3, 4, 5, 6, 7, 8, 9, 10, 11, 12, 13, 14, 15, 16, 17, 35]⟩, ⟨⟨some true, .no⟩, [0, 1, 2, 3, 4, 5, 6, 7, 8, 9, 10, 11, 12, 13, 14, 15, 16, 17, 28, 29, 30, 31, 32, 33, 34, 35, 36]⟩, ⟨⟨some true, .no⟩, [0, 1, 2, 3, 4, 5, 6, 7, 8, 9, 10, 11, 12, 13, 14, 15, 16, 17, 28, 29, 30, 31, 32, 33, 34, 35, 36, 37]⟩] [[0, 1, 2, 3, 4, 5, 6, 7, 8, 9, 10, 11, 12, 13, 14, 15, 16, 17, 18, 19, 20, 21, 22, 23, 24, 25, 26, 27, 28, 29, 30, 31, 32, 33, 34, 35, 36, 37, 38], [0, 1, 2, 3, 4, 5, 6, 7, 8, 9, 10, 11, 12, 13, 14, 15, 16, 17, 18, 19, 20, 21, 22, 23, 24, 25, 26, 27, 28, 29, 30, 31, 32, 33, 34, 35, 36, 37, 38, 39], [0, 1, 2, 3, 4, 5, 6, 7, 8, 9, 10, 11, 12, 13, 14, 15, 16, 17, 18, 19, 20, 21, 22, 23, 24, 25, 26, 27, 28, 29, 30, 31, 32, 33, 34, 35, 36, 37, 38, 39, 40]] [⟨some true, .no⟩, ⟨some false, .tv true⟩, ⟨none, .tv false⟩] [] [] hX (by kernel_rfl) (by kernel_rfl) (allCons hg17 (allCons hg30 (allCons (f51_ok hc32) (allCons hb33 (allCons hb33 (allCons hb33 (allCons hb34 (allCons hb34 (allCons hb34 (allCons hb34 (allCons hb34 (allCons hb34 (allCons hg17 (allCons hb34 (allCons hb34 (allCons hb34 (allCons hg30 (allCons hb34 (allCons hb34 (allCons hb34 (allCons hb34 (allCons hb34 (allCons hb34 (allCons hb34 (allCons hg17 (allCons hb34 (allCons hb34 (allCons hb34 (allCons hb34 (allCons hg35 (allCons hb34 (allCons hb34 (allCons hb33 (allCons hb34 (allCons hb33 allNil))))))))))))))))))))))))))))))))))) (fun _ h => (qThen (h.ht (cont (decide ((List.getD (List.getD a0.2.2 (Int.toNat s5) ([] : List Int)) (Int.toNat s18) (0 : Int)) ≤ (List.getD (List.getD a0.2.2 (Int.toNat s5) ([] : List Int)) (Int.toNat (wsub .i64 s18 (1 : Int))) (0 : Int)))) (of_some hT28)))))
                      · exact HT.drK 39 [⟨oH, []⟩, ⟨oH, [0]⟩, ⟨oH, [0, 1]⟩, ⟨oH, [0, 1, 2]⟩, ⟨oH, []⟩, ⟨oH, [0, 1, 2, 3, 4]⟩, ⟨oH, [0, 1, 2, 3, 4, 5]⟩, ⟨oH, []⟩, ⟨oH, [0, 1, 2, 3, 4, 5, 6, 7]⟩, ⟨oH, [0, 1, 2, 3, 4, 5, 6, 7, 8]⟩, ⟨oH, []⟩, ⟨oH, [10]⟩, ⟨⟨none, .call [.imm tI, .imm tI, .imm tI] [⟨false, .bool, y31⟩] []⟩, [0, 1, 2, 3, 4, 5, 6, 7, 8, 9, 10, 11]⟩, ⟨oH, [0, 1, 2, 3, 4, 5, 6, 7, 8, 9, 10, 11, 12]⟩, ⟨oH, [0, 1, 2, 3, 4, 5, 6, 7, 8, 9, 10, 11, 12, 13]⟩, ⟨⟨some false, .no⟩, [0, 1, 2, 3, 4, 5, 6, 7, 8, 9, 10, 11, 12, 13, 14]⟩, ⟨⟨some false, .no⟩, [0, 1, 2, 3, 4, 5, 6, 7, 8, 9, 10, 11, 12, 13, 14, 15]⟩, ⟨⟨some false, .no⟩, [0, 1, 2, 3, 4, 5, 6, 7, 8, 9, 10, 11, 12, 13, 14, 15, 16]⟩, ⟨⟨some false, .no⟩, [0, 1, 2, 3, 4, 5, 6, 7, 8, 9, 10, 11, 12, 13, 14, 15, 16, 17]⟩, ⟨⟨some false, .no⟩, [0, 1, 2, 3, 4, 5, 6, 7, 8, 9, 10, 11, 12, 13, 14, 15, 16, 17, 18]⟩, ⟨⟨some false, .no⟩, [0, 1, 2, 3, 4, 5, 6, 7, 8, 9, 10, 11, 12, 13, 14, 15, 16, 17, 18, 19]⟩, ⟨⟨some false, .no⟩, [0, 1, 2, 3, 4, 5, 6, 7, 8, 9, 10, 11, 12, 13, 14, 15, 16, 17, 18, 19, 20]⟩, ⟨⟨some false, .no⟩, [0, 1, 2, 3, 4, 5, 6, 7, 8, 9, 10, 11, 12, 13, 14, 15, 16, 17]⟩, ⟨⟨some false, .no⟩, [0, 1, 2, 3, 4, 5, 6, 7, 8, 9, 10, 11, 12, 13, 14, 15, 16, 17, 18, 19, 20, 21, 22]⟩, ⟨⟨some false, .no⟩, [0, 1, 2, 3, 4, 5, 6, 7, 8, 9, 10, 11, 12, 13, 14, 15, 16, 17, 18, 19, 20, 21, 22, 23]⟩, ⟨⟨some false, .no⟩, [0, 1, 2, 3, 4, 5, 6, 7, 8, 9, 10, 11, 12, 13, 14, 15, 16, 17]⟩, ⟨⟨some false, .no⟩, [0, 1, 2, 3, 4, 5, 6, 7, 8, 9, 10, 11, 12, 13, 14, 15, 16, 17, 18, 19, 20, 21, 22, 23, 24, 25]⟩, ⟨⟨some false, .no⟩, [0, 1, 2, 3, 4, 5, 6, 7, 8, 9, 10, 11, 12, 13, 14, 15, 16, 17, 18, 19, 20, 21, 22, 23, 24, 25, 26]⟩, ⟨⟨some false, .no⟩, [0, 1, 2, 3, 4, 5, 6, 7, 8, 9, 10, 11, 12, 13, 14, 15, 16, 17]⟩, ⟨⟨some false, .no⟩, [0, 1, 2, 3, 4, 5, 6, 7, 8, 9, 10, 11, 12, 13, 14, 15, 16, 17, 28]⟩, ⟨⟨some false, .no⟩, [0, 1, 2, 3, 4, 5, 6, 7, 8, 9, 10, 11, 12, 13, 14, 15, 16, 17, 28, 29]⟩, ⟨⟨some false, .no⟩, [0, 1, 2, 3, 4, 5, 6, 7, 8, 9, 10, 11, 12, 13, 14, 15, 16, 17, 28, 29, 30]⟩, ⟨⟨some false, .no⟩, [0, 1, 2, 3, 4, 5, 6, 7, 8, 9, 10, 11, 12, 13, 14, 15, 16, 17]⟩, ⟨⟨some false, .no⟩, [0, 1, 2, 3, 4, 5, 6, 7, 8, 9, 10, 11, 12, 13, 14, 15, 16, 17, 28, 29, 30, 31, 32]⟩, ⟨⟨some false, .no⟩, [0, 1, 2, 3, 4, 5, 6, 7, 8, 9, 10, 11, 12, 13, 14, 15, 16, 17, 28, 29, 30, 31, 32, 33]⟩, ⟨⟨some false, .no⟩, [0, 1, 2, 3, 4, 5, 6, 7, 8, 9, 10, 11, 12, 13, 14, 15, 16, 17]⟩, ⟨⟨some false, .no⟩, [0, 1, 2, 3, 4, 5, 6, 7, 8, 9, 10, 11, 12, 13, 14, 15, 16, 17, 35]⟩, ⟨⟨some false, .no⟩, [0, 1, 2, 3, 4, 5, 6, 7, 8, 9, 10, 11, 12, 13, 14, 15, 16, 17, 28, 29, 30, 31, 32, 33, 34, 35, 36]⟩, ⟨⟨some false, .no⟩, [0, 1, 2, 3, 4, 5, 6, 7, 8, 9, 10, 11, 12, 13, 14, 15, 16, 17, 28, 29, 30, 31, 32, 33, 34, 35, 36, 37]⟩] [[0, 1, 2, 3, 4, 5, 6, 7, 8, 9, 10, 11, 12, 13, 14, 15, 16, 17, 18, 19, 20, 21, 22, 23, 24, 25, 26, 27, 28, 29, 30, 31, 32, 33, 34, 35, 36, 37, 38], [0, 1, 2, 3, 4, 5, 6, 7, 8, 9, 10, 11, 12, 13, 14, 15, 16, 17, 18, 19, 20, 21, 22, 23, 24, 25, 26, 27, 28, 29, 30, 31, 32, 33, 34, 35, 36, 37, 38, 39], [0, 1, 2, 3, 4, 5, 6, 7, 8, 9, 10, 11, 12, 13, 14, 15, 16, 17, 18, 19, 20, 21, 22, 23, 24, 25, 26, 27, 28, 29, 30, 31, 32, 33, 34, 35, 36, 37, 38, 39, 40]] [⟨some false, .no⟩, ⟨some false, .tv false⟩, ⟨none, .tv false⟩] [] [] hX (by kernel_rfl) (by kernel_rfl) (allCons hg17 (allCons hg30 (allCons (f51_ok hc32) (allCons hb33 (allCons hb33 (allCons hb33 (allCons hb34 (allCons hb34 (allCons hb34 (allCons hb34 (allCons hb34 (allCons hb34 (allCons hb34 (allCons hb34 (allCons hb34 (allCons hb34 (allCons hb34 (allCons hb34 (allCons hb34 (allCons hb34 (allCons hb34 (allCons hb34 (allCons hb34 (allCons hb34 (allCons hb34 (allCons hb34 (allCons hb34 (allCons hb34 (allCons hb33 (allCons hb34 (allCons hb33 allNil))))))))))))))))))))))))))))))) (fun _ h => (qThen (h.ht (cont false (of_some hT28)))))
                · refine HT.cond0 rfl hb25 ?_
                  have hx23 := of_some hx23
                  subst hx23
                  exact HT.exitL (Le.re [] [] hX (by kernel_rfl)) (qThenE (qLoopE (hk24 (.inl ()) rfl)))
          · obtain ⟨hg37, hT15⟩ := of_guard hT15
            obtain ⟨y38, hc39, hT15⟩ := of_bind hT15
            rcases of_bif hT15 with ⟨hb40, hT15⟩ | ⟨hb40, hT15⟩
            · exact HT.rgK [oH, oH, oH, oH, oH, oH, oH, ⟨none, .call [.imm tI, .imm tI, .imm tI] [⟨false, .bool, y38⟩] []⟩, oH, oH, ⟨some true, .no⟩, ⟨some true, .no⟩, ⟨some true, .no⟩, ⟨some true, .no⟩, ⟨some true, .no⟩, ⟨some true, .no⟩, ⟨some true, .no⟩, ⟨some true, .no⟩, ⟨some true, .no⟩, ⟨none, .tv true⟩, oH, ⟨some true, .no⟩, ⟨some true, .no⟩, ⟨some true, .no⟩, ⟨some true, .no⟩, ⟨some true, .no⟩, ⟨some true, .no⟩, ⟨some true, .no⟩, ⟨some true, .no⟩, ⟨some true, .no⟩, ⟨none, .tv true⟩] [] [] hX (by kernel_rfl) (allCons hg37 (allCons (f51_ok hc39) (allCons hb40 (allCons hb40 (allCons hb40 (allCons hb40 (allCons hb40 (allCons hb40 (allCons hb40 (allCons hb40 (allCons hb40 (allCons hb40 (allCons (rfl : true = true) (allCons (rfl : true = true) (allCons (rfl : true = true) (allCons (rfl : true = true) (allCons (rfl : true = true) (allCons (rfl : true = true) (allCons (rfl : true = true) (allCons (rfl : true = true) (allCons (rfl : true = true) (allCons (rfl : true = true) allNil)))))))))))))))))))))) (fun _ h => (qThen (h.ht (cont true (of_some hT15)))))
            · obtain ⟨hg41, hT15⟩ := of_guard hT15
              obtain ⟨y42, hc43, hT15⟩ := of_bind hT15
              rcases of_bif hT15 with ⟨hb44, hT15⟩ | ⟨hb44, hT15⟩
              · exact HT.rgK [oH, oH, oH, oH, oH, oH, oH, ⟨none, .call [.imm tI, .imm tI, .imm tI] [⟨false, .bool, y38⟩] []⟩, oH, oH, ⟨some false, .no⟩, ⟨some false, .no⟩, ⟨some false, .no⟩, ⟨some false, .no⟩, ⟨some false, .no⟩, ⟨some false, .no⟩, ⟨some false, .no⟩, ⟨some false, .call [.imm tI, .imm tI, .imm tI] [⟨false, .bool, y42⟩] []⟩, ⟨some false, .no⟩, ⟨none, .tv false⟩, oH, ⟨some true, .no⟩, ⟨some true, .no⟩, ⟨some true, .no⟩, ⟨some true, .no⟩, ⟨some true, .no⟩, ⟨some true, .no⟩, ⟨some true, .no⟩, ⟨some true, .no⟩, ⟨some true, .no⟩, ⟨none, .tv true⟩] [] [] hX (by kernel_rfl) (allCons hg37 (allCons (f51_ok hc39) (allCons hb40 (allCons hb40 (allCons hb40 (allCons hb40 (allCons hb40 (allCons hb40 (allCons hg41 (allCons hb40 (allCons hb40 (allCons (f51_ok hc43) (allCons hb40 (allCons hb40 (allCons hb44 (allCons hb44 (allCons hb44 (allCons hb44 (allCons hb44 (allCons hb44 (allCons hb44 (allCons hb44 (allCons hb44 (allCons hb44 allNil)))))))))))))))))))))))) (fun _ h => (qThen (h.ht (cont true (of_some hT15)))))
              · obtain ⟨hg45, hT15⟩ := of_guard hT15
                exact HT.rgK [oH, oH, oH, oH, oH, oH, oH, ⟨none, .call [.imm tI, .imm tI, .imm tI] [⟨false, .bool, y38⟩] []⟩, oH, oH, ⟨some false, .no⟩, ⟨some false, .no⟩, ⟨some false, .no⟩, ⟨some false, .no⟩, ⟨some false, .no⟩, ⟨some false, .no⟩, ⟨some false, .no⟩, ⟨some false, .call [.imm tI, .imm tI, .imm tI] [⟨false, .bool, y42⟩] []⟩, ⟨some false, .no⟩, ⟨none, .tv false⟩, oH, ⟨some false, .no⟩, ⟨some false, .no⟩, ⟨some false, .no⟩, ⟨some false, .no⟩, ⟨some false, .no⟩, ⟨some false, .no⟩, ⟨some false, .no⟩, ⟨some false, .no⟩, ⟨some false, .no⟩, ⟨none, .tv false⟩] [] [] hX (by kernel_rfl) (allCons hg37 (allCons (f51_ok hc39) (allCons hb40 (allCons hb40 (allCons hb40 (allCons hb40 (allCons hb40 (allCons hb40 (allCons hg41 (allCons hb40 (allCons hb40 (allCons (f51_ok hc43) (allCons hb40 (allCons hb40 (allCons hb44 (allCons hb44 (allCons hb44 (allCons hb44 (allCons hb44 (allCons hb44 (allCons hg45 (allCons hb44 (allCons hb44 (allCons hb44 (allCons hb44 allNil))))))))))))))))))))))))) (fun _ h => (qThen (h.ht (cont (decide ((lenI (List.getD a0.2.2 (Int.toNat s5) ([] : List Int))) < (1 : Int))) (of_some hT15)))))
        · refine HT.cond0 rfl hb12 ?_
          have hx10 := of_some hx10
          subst hx10
          exact HT.exitL (Le.re [] [] hX (by kernel_rfl)) (qThenE (qLoopE (hk11 (.inl ()) rfl)))
  · rcases of_bif hT3 with ⟨hb47, hT3⟩ | ⟨hb47, hT3⟩
    · exact HT.rgK [oH, oH, oH, ⟨some true, .no⟩, ⟨some true, .no⟩, ⟨none, .tv true⟩, oH, ⟨some true, .no⟩, ⟨some true, .no⟩, ⟨some true, .no⟩, ⟨some true, .no⟩, ⟨some true, .no⟩, ⟨some true, .no⟩, ⟨some true, .no⟩, ⟨none, .tv true⟩, oH, ⟨some true, .no⟩, ⟨some true, .no⟩, ⟨some true, .no⟩, ⟨some true, .no⟩, ⟨some true, .no⟩, ⟨some true, .no⟩, ⟨some true, .no⟩, ⟨none, .tv true⟩] [] [] hX (by kernel_rfl) (allCons hb47 (allCons hb47 (allCons hb47 (allCons (rfl : true = true) (allCons (rfl : true = true) (allCons (rfl : true = true) (allCons (rfl : true = true) (allCons (rfl : true = true) (allCons (rfl : true = true) (allCons (rfl : true = true) (allCons (rfl : true = true) (allCons (rfl : true = true) (allCons (rfl : true = true) (allCons (rfl : true = true) (allCons (rfl : true = true) (allCons (rfl : true = true) (allCons (rfl : true = true) (allCons (rfl : true = true) (allCons (rfl : true = true) allNil))))))))))))))))))) (fun _ h => (qThen (h.ht (cont true (of_some hT3)))))
    · rcases of_bif hT3 with ⟨hb48, hT3⟩ | ⟨hb48, hT3⟩
      · exact HT.rgK [oH, oH, oH, ⟨some false, .no⟩, ⟨some false, .no⟩, ⟨none, .tv false⟩, oH, ⟨some true, .no⟩, ⟨some true, .no⟩, ⟨some true, .no⟩, ⟨some true, .no⟩, ⟨some true, .no⟩, ⟨some true, .no⟩, ⟨some true, .no⟩, ⟨none, .tv true⟩, oH, ⟨some true, .no⟩, ⟨some true, .no⟩, ⟨some true, .no⟩, ⟨some true, .no⟩, ⟨some true, .no⟩, ⟨some true, .no⟩, ⟨some true, .no⟩, ⟨none, .tv true⟩] [] [] hX (by kernel_rfl) (allCons hb47 (allCons hb47 (allCons hb47 (allCons hb48 (allCons hb48 (allCons hb48 (allCons hb48 (allCons hb48 (allCons hb48 (allCons hb48 (allCons hb48 (allCons (rfl : true = true) (allCons (rfl : true = true) (allCons (rfl : true = true) (allCons (rfl : true = true) (allCons (rfl : true = true) (allCons (rfl : true = true) (allCons (rfl : true = true) (allCons (rfl : true = true) allNil))))))))))))))))))) (fun _ h => (qThen (h.ht (cont true (of_some hT3)))))
      · rcases of_bif hT3 with ⟨hb49, hT3⟩ | ⟨hb49, hT3⟩
        · exact HT.rgK [oH, oH, oH, ⟨some false, .no⟩, ⟨some false, .no⟩, ⟨none, .tv false⟩, oH, ⟨some false, .no⟩, ⟨some false, .no⟩, ⟨some false, .no⟩, ⟨some false, .no⟩, ⟨some false, .no⟩, ⟨some false, .no⟩, ⟨some false, .no⟩, ⟨none, .tv false⟩, oH, ⟨some true, .no⟩, ⟨some true, .no⟩, ⟨some true, .no⟩, ⟨some true, .no⟩, ⟨some true, .no⟩, ⟨some true, .no⟩, ⟨some true, .no⟩, ⟨none, .tv true⟩] [] [] hX (by kernel_rfl) (allCons hb47 (allCons hb47 (allCons hb47 (allCons hb48 (allCons hb48 (allCons hb48 (allCons hb48 (allCons hb48 (allCons hb48 (allCons hb48 (allCons hb48 (allCons hb49 (allCons hb49 (allCons hb49 (allCons hb49 (allCons hb49 (allCons hb49 (allCons hb49 (allCons hb49 allNil))))))))))))))))))) (fun _ h => (qThen (h.ht (cont true (of_some hT3)))))
        · exact HT.rgK [oH, oH, oH, ⟨some false, .no⟩, ⟨some false, .no⟩, ⟨none, .tv false⟩, oH, ⟨some false, .no⟩, ⟨some false, .no⟩, ⟨some false, .no⟩, ⟨some false, .no⟩, ⟨some false, .no⟩, ⟨some false, .no⟩, ⟨some false, .no⟩, ⟨none, .tv false⟩, oH, ⟨some false, .no⟩, ⟨some false, .no⟩, ⟨some false, .no⟩, ⟨some false, .no⟩, ⟨some false, .no⟩, ⟨some false, .no⟩, ⟨some false, .no⟩, ⟨none, .tv false⟩] [] [] hX (by kernel_rfl) (allCons hb47 (allCons hb47 (allCons hb47 (allCons hb48 (allCons hb48 (allCons hb48 (allCons hb48 (allCons hb48 (allCons hb48 (allCons hb48 (allCons hb48 (allCons hb49 (allCons hb49 (allCons hb49 (allCons hb49 (allCons hb49 (allCons hb49 (allCons hb49 (allCons hb49 allNil))))))))))))))))))) (fun _ h => (qThen (h.ht (cont ((lenI a0.2.2) != (lenI a0.1)) (of_some hT3)))))

noncomputable def spec_ReachOf_B1 (y12 : List Bool) (s14 : Int × List Int) : Option ((Int × List Int) ⊕ (List Int)) :=
  bif (decide (s14.1 < (lenI y12))) then
    (show Option (List Int) from
      guardP ((0 : Int) ≤ s14.1 ∧ s14.1 < lenI y12) (
        bif (List.getD y12 (Int.toNat s14.1) false) then
          guardP (List.length s14.2 + List.length ([s14.1] : List Int) ≤ appMax) (
            some (s14.2 ++ ([s14.1] : List Int)))
        else
          some s14.2)).bind fun v21 =>
    some (.inl ((wadd .i64 s14.1 (1 : Int)), v21))
  else
    some (.inr s14.2)

noncomputable def spec_ReachOf_B2 (a1 : List Int) (r8 : List Bool) (s9 : Int × List Bool) : Option ((Int × List Bool) ⊕ (List Bool ⊕ Unit)) :=
  bif (decide (s9.1 < (lenI a1))) then
    (show Option (Bool) from
      guardP ((0 : Int) ≤ s9.1 ∧ s9.1 < lenI a1) (
        (spec_l00In (List.getD a1 (Int.toNat s9.1) (0 : Int)) (0 : Int) (wsub .i64 (lenI r8) (1 : Int))).bind fun y40 =>
        bif (!y40) then
          some true
        else
          bif (decide (s9.1 > (0 : Int))) then
            guardP ((0 : Int) ≤ (wsub .i64 s9.1 (1 : Int)) ∧ (wsub .i64 s9.1 (1 : Int)) < lenI a1) (
              some (decide ((List.getD a1 (Int.toNat s9.1) (0 : Int)) ≤ (List.getD a1 (Int.toNat (wsub .i64 s9.1 (1 : Int))) (0 : Int)))))
          else
            some false)).bind fun v33 =>
    bif v33 then
      some (.inr (.inr ()))
    else
      guardP ((0 : Int) ≤ s9.1 ∧ s9.1 < lenI a1) (
        guardP ((0 : Int) ≤ (List.getD a1 (Int.toNat s9.1) (0 : Int)) ∧ (List.getD a1 (Int.toNat s9.1) (0 : Int)) < lenI s9.2) (
          some (.inl ((wadd .i64 s9.1 (1 : Int)), (List.set s9.2 (Int.toNat (List.getD a1 (Int.toNat s9.1) (0 : Int))) true)))))
  else
    some (.inr (.inl s9.2))

noncomputable def spec_ReachOf_B3 (a0 : List Int × List Int × List (List Int)) (s6 : Int × List Bool) : Option ((Int × List Bool) ⊕ (List Bool)) :=
  bif (decide (s6.1 < (lenI (List.replicate (Int.toNat (lenI a0.1)) false)))) then
    guardP ((0 : Int) ≤ s6.1 ∧ s6.1 < lenI s6.2) (
      some (.inl ((wadd .i64 s6.1 (1 : Int)), (List.set s6.2 (Int.toNat s6.1) true))))
  else
    some (.inr s6.2)

noncomputable def spec_ReachOf (a0 : List Int × List Int × List (List Int)) (a1 : List Int) (a2 : Int) : Option (List Int × Bool) :=
  (show Option (Bool) from
    (spec_l07Game (a0.1, a0.2.1, a0.2.2)).bind fun y52 =>
    bif (!y52) then
      some true
    else
      (spec_l00In a2 (0 : Int) (1 : Int)).bind fun y55 =>
      some (!y55)).bind fun v1 =>
  bif v1 then
    some (([] : List Int), false)
  else
    guardP ((0 : Int) ≤ (lenI a0.1) ∧ (lenI a0.1) ≤ 4294967296) (
      (rounds (spec_ReachOf_B3 a0) ((0 : Int), (List.replicate (Int.toNat (lenI a0.1)) false))).bind fun r8 =>
      (rounds (spec_ReachOf_B2 a1 r8) ((0 : Int), (List.replicate (Int.toNat (lenI a0.1)) false))).bind fun r10 => match r10 with
        | .inl r11 =>
          (spec_l07Draw (a0.1, a0.2.1, a0.2.2) r8 r11 a2).bind fun y12 =>
          (rounds (spec_ReachOf_B1 y12) ((0 : Int), ([] : List Int))).bind fun r16 =>
          some (r16, true)
        | .inr r28 =>
          some (([] : List Int), false))

theorem f17_ok {a0 : List Int × List Int × List (List Int)} {a1 : List Int} {a2 : Int} {r : List Int × Bool} (hr : spec_ReachOf a0 a1 a2 = some r) : CallOK Try.prog 17 [.imm (.st (.pair tLI (.pair tLI (.sl tLI)))) a0, .imm tLI a1, .imm tI a2] [⟨true, tLI, r.1⟩, ⟨false, .bool, r.2⟩] [] := by
  unfold spec_ReachOf at hr
  refine CallOK.of_body (ts := [(true, tLI), (false, .bool)]) Try.func17 rfl (by kernel_rfl) (Nat.le_of_ble_eq_true (by kernel_rfl)) fun cx hP hN hO hF => ?_
  have hO : cx.own.map Prod.fst = [] := hO
  have hX := CxIs.mk hP hN hO
  have hF := hF rfl
  show HT cx ⟨[(0, .agg [nC a0.1, nC a0.2.1, .dat (.sl tLI) a0.2.2]), (1, nV a1), (2, iV a2)], [], 0⟩ _ _
  refine HT.rg2 (oHs 3) ⟨[(1, nV a1), (2, iV a2), (3, pV 0 0)], [(0, .box [nC a0.1, nC a0.2.1, .dat (.sl tLI) a0.2.2])], 1⟩ hX (by kernel_rfl) allNil ?_
  refine HT.seq ?_
  obtain ⟨v1', hT3, hr⟩ := of_bind hr
  refine HT.join (fun (v1 : Bool) => ⟨[(1, nV a1), (2, iV a2), (3, pV 0 0), (21, bV v1)], [(0, .box [nC a0.1, nC a0.2.1, .dat (.sl tLI) a0.2.2])], 1⟩) (fun v => v = v1') (fun v1 hv2 => ?_) (fun cont => ?_)
  · subst hv2
    rcases of_bif hr with ⟨hb4, hr⟩ | ⟨hb4, hr⟩
    · refine HT.cond1 rfl hb4 ?_
      refine HT.rg2 (oHs 2) ⟨[(6, .one (.nilS)), (7, bV false)], [], 1⟩ hX (by kernel_rfl) allNil ?_
      have hr := of_some hr
      subst hr
      exact HT.ret (qThenR ⟨[.one (.nilS), bV false], [], [], by kernel_rfl, by kernel_rfl, rfl, by kernel_rfl, by kernel_rfl, trivial⟩)
    · refine HT.cond0 rfl hb4 ?_
      refine HT.skip (qThen ?_)
      obtain ⟨hg5, hr⟩ := of_guard hr
      refine HT.rg2 [oH, oH, oH, ⟨none, .ty .bool⟩, oH] ⟨[(1, nV a1), (2, iV a2), (3, pV 0 0), (8, aV 1)], [(1, .seq .bool (List.replicate (Int.toNat (lenI a0.1)) false)), (0, .box [nC a0.1, nC a0.2.1, .dat (.sl tLI) a0.2.2])], 2⟩ hX (by kernel_rfl) (allCons (show (0 : Int) ≤ (lenI a0.1) ∧ (lenI a0.1) ≤ (lenI a0.1) ∧ (lenI a0.1) ≤ 4294967296 from ⟨hg5.1, Int.le_refl _, hg5.2⟩) allNil) ?_
      refine HT.rg2 [oH, oH, oH, ⟨none, .ty .bool⟩, oH] ⟨[(1, nV a1), (2, iV a2), (3, pV 0 0), (8, aV 1), (9, aV 2)], [(2, .seq .bool (List.replicate (Int.toNat (lenI a0.1)) false)), (1, .seq .bool (List.replicate (Int.toNat (lenI a0.1)) false)), (0, .box [nC a0.1, nC a0.2.1, .dat (.sl tLI) a0.2.2])], 3⟩ hX (by kernel_rfl) (allCons (show (0 : Int) ≤ (lenI a0.1) ∧ (lenI a0.1) ≤ (lenI a0.1) ∧ (lenI a0.1) ≤ 4294967296 from ⟨hg5.1, Int.le_refl _, hg5.2⟩) allNil) ?_
      refine HT.seq ?_
      refine HT.rg2 (oHs 3) ⟨[(1, nV a1), (2, iV a2), (3, pV 0 0), (8, aV 1), (9, aV 2), (31, iV (lenI (List.replicate (Int.toNat (lenI a0.1)) false))), (32, iV (0 : Int))], [(2, .seq .bool (List.replicate (Int.toNat (lenI a0.1)) false)), (1, .seq .bool (List.replicate (Int.toNat (lenI a0.1)) false)), (0, .box [nC a0.1, nC a0.2.1, .dat (.sl tLI) a0.2.2])], 3⟩ hX (by kernel_rfl) allNil ?_
      refine HT.block ?_
      obtain ⟨r7, hL51, hr⟩ := of_bind hr
      refine HT.loopL (fun (s6 : Int × List Bool) => ⟨[(1, nV a1), (2, iV a2), (3, pV 0 0), (8, aV 1), (9, aV 2), (31, iV (lenI (List.replicate (Int.toNat (lenI a0.1)) false))), (32, iV s6.1)], [(0, .box [nC a0.1, nC a0.2.1, .dat (.sl tLI) a0.2.2]), (1, .seq .bool s6.2), (2, .seq .bool (List.replicate (Int.toNat (lenI a0.1)) false))], 3⟩) (fun (r8 : List Bool) => (.exit 0, ⟨[(1, nV a1), (2, iV a2), (3, pV 0 0), (8, aV 1), (9, aV 2)], [(0, .box [nC a0.1, nC a0.2.1, .dat (.sl tLI) a0.2.2]), (1, .seq .bool r8), (2, .seq .bool (List.replicate (Int.toNat (lenI a0.1)) false))], 3⟩)) (Le.re [(0, 0), (1, 1), (2, 2)] [] hX (by kernel_rfl)) hL51 ?_ (fun s6 x46 hx47 hk48 => ?_)
      · refine (qBlockX (qThen ?_))
        refine HT.seq ?_
        refine HT.rg2 (oHs 3) ⟨[(1, nV a1), (2, iV a2), (3, pV 0 0), (8, aV 1), (9, aV 2), (40, iV (lenI a1)), (41, iV (0 : Int))], [(0, .box [nC a0.1, nC a0.2.1, .dat (.sl tLI) a0.2.2]), (1, .seq .bool r7), (2, .seq .bool (List.replicate (Int.toNat (lenI a0.1)) false))], 3⟩ hX (by kernel_rfl) allNil ?_
        refine HT.block ?_
        obtain ⟨r10, hL45, hr⟩ := of_bind hr
        refine HT.loopL (fun (s9 : Int × List Bool) => ⟨[(1, nV a1), (2, iV a2), (3, pV 0 0), (8, aV 1), (9, aV 2), (40, iV (lenI a1)), (41, iV s9.1)], [(0, .box [nC a0.1, nC a0.2.1, .dat (.sl tLI) a0.2.2]), (1, .seq .bool r7), (2, .seq .bool s9.2)], 3⟩) (fun (r10 : List Bool ⊕ Unit) => match r10 with | .inl r11 => (.exit 2, ⟨[(2, iV a2), (3, pV 0 0), (8, aV 1), (9, aV 2)], [(0, .box [nC a0.1, nC a0.2.1, .dat (.sl tLI) a0.2.2]), (1, .seq .bool r7), (2, .seq .bool r11)], 3⟩) | .inr r28 => (.ret, ⟨[(6, .one (.nilS)), (7, bV false)], [], 0⟩)) (Le.re [(0, 0), (1, 1), (2, 2)] [] hX (by kernel_rfl)) hL45 ?_ (fun s9 x29 hx30 hk31 => ?_)
        · rcases r10 with r11 | r28
          · refine (qBlockX (qThen ?_))
            obtain ⟨y12, hc13, hr⟩ := of_bind hr
            refine HT.rg2 [oH, oH, oH, ⟨none, .call [.pimm (.st (.pair tLI (.pair tLI (.sl tLI)))), .imm (.sl .bool), .imm (.sl .bool), .imm tI] [⟨true, (.sl .bool), y12⟩] []⟩, oH] ⟨[(12, aV 3)], [(3, .seq .bool y12)], 4⟩ hX (by kernel_rfl) (allCons (f52_ok hc13) allNil) ?_
            refine HT.rg2 (oHs 2) ⟨[(12, aV 3), (13, .one (.nilS))], [(3, .seq .bool y12)], 4⟩ hX (by kernel_rfl) allNil ?_
            refine HT.seq ?_
            refine HT.rg2 (oHs 3) ⟨[(12, aV 3), (13, .one (.nilS)), (82, iV (lenI y12)), (83, iV (0 : Int))], [(3, .seq .bool y12)], 4⟩ hX (by kernel_rfl) allNil ?_
            refine HT.block ?_
            obtain ⟨r15, hL27, hr⟩ := of_bind hr
            refine HT.loopL (fun (s14 : Int × List Int) => ⟨[(12, aV 0), (13, aV 1), (82, iV (lenI y12)), (83, iV s14.1)], [(0, .seq .bool y12), (1, .seq tI s14.2)], 2⟩) (fun (r16 : List Int) => (.exit 4, ⟨[(13, aV 0)], [(0, .seq tI r16)], 1⟩)) (Le.re [(3, 0)] [1] hX (by kernel_rfl)) hL27 ?_ (fun s14 x17 hx18 hk19 => ?_)
            · refine (qBlockX (qThen ?_))
              refine HT.rg2 (oHs 3) ⟨[(6, aV 0), (7, bV true)], [(0, .seq tI r15)], 1⟩ hX (by kernel_rfl) allNil ?_
              have hr := of_some hr
              subst hr
              exact HT.ret ⟨[aV 0, bV true], [0], [], by kernel_rfl, by kernel_rfl, rfl, by kernel_rfl, by kernel_rfl, trivial⟩
            · refine HT.rg2 [oH] ⟨[(12, aV 0), (13, aV 1), (82, iV (lenI y12)), (83, iV s14.1), (84, bV (decide (s14.1 < (lenI y12))))], [(0, .seq .bool y12), (1, .seq tI s14.2)], 2⟩ hX (by kernel_rfl) allNil ?_
              refine HT.seq ?_
              rcases of_bif hx18 with ⟨hb20, hx18⟩ | ⟨hb20, hx18⟩
              · refine HT.cond1 rfl hb20 ?_
                refine HT.skip (qThen ?_)
                obtain ⟨v21', hT23, hx18⟩ := of_bind hx18
                refine HT.join (fun (v21 : List Int) => ⟨[(12, aV 0), (13, aV 1), (82, iV (lenI y12)), (83, iV s14.1)], [(0, .seq .bool y12), (1, .seq tI v21)], 2⟩) (fun v => v = v21') (fun v21 hv22 => ?_) (fun cont => ?_)
                · subst hv22
                  have hx18 := of_some hx18
                  subst hx18
                  exact HT.rgK (oHs 2) [(0, 0), (1, 1)] [] hX (by kernel_rfl) allNil (fun _ h => (qLoopN ⟨((wadd .i64 s14.1 (1 : Int)), v21), rfl, h⟩))
                · refine HT.block ?_
                  refine HT.rg2 (oHs 2) ⟨[(12, aV 0), (13, aV 1), (14, iV s14.1), (82, iV (lenI y12)), (83, iV s14.1)], [(0, .seq .bool y12), (1, .seq tI s14.2)], 2⟩ hX (by kernel_rfl) allNil ?_
                  obtain ⟨hg24, hT23⟩ := of_guard hT23
                  refine HT.rg2 (oHs 4) ⟨[(12, aV 0), (13, aV 1), (14, iV s14.1), (82, iV (lenI y12)), (83, iV s14.1), (89, bV (List.getD y12 (Int.toNat s14.1) false))], [(0, .seq .bool y12), (1, .seq tI s14.2)], 2⟩ hX (by kernel_rfl) (allCons hg24 (allCons (natLt hg24) allNil)) ?_
                  rcases of_bif hT23 with ⟨hb25, hT23⟩ | ⟨hb25, hT23⟩
                  · refine HT.cond1 rfl hb25 ?_
                    obtain ⟨hg26, hT23⟩ := of_guard hT23
                    exact HT.rgK [oH, oH, ⟨none, .ty tI⟩, ⟨none, .ty tI⟩, oH] [(0, 0), (3, 1)] [] hX (by kernel_rfl) (allCons hg26 allNil) (fun _ h => (qBlock (qThen (h.ht (cont (s14.2 ++ ([s14.1] : List Int)) (of_some hT23))))))
                  · refine HT.cond0 rfl hb25 ?_
                    refine HT.skip (qBlock (qThen ?_))
                    exact (Le.re [(0, 0), (1, 1)] [] hX (by kernel_rfl)).ht (cont s14.2 (of_some hT23))
              · refine HT.cond0 rfl hb20 ?_
                have hx18 := of_some hx18
                subst hx18
                exact HT.exitL (Le.re [(1, 0)] [] hX (by kernel_rfl)) (qThenE (qLoopE (hk19 s14.2 rfl)))
          · have hr := of_some hr
            subst hr
            exact (qBlockR (qThenR ⟨[.one (.nilS), bV false], [], [], by kernel_rfl, by kernel_rfl, rfl, by kernel_rfl, by kernel_rfl, trivial⟩))
        · refine HT.rg2 [oH] ⟨[(1, nV a1), (2, iV a2), (3, pV 0 0), (8, aV 1), (9, aV 2), (40, iV (lenI a1)), (41, iV s9.1), (42, bV (decide (s9.1 < (lenI a1))))], [(0, .box [nC a0.1, nC a0.2.1, .dat (.sl tLI) a0.2.2]), (1, .seq .bool r7), (2, .seq .bool s9.2)], 3⟩ hX (by kernel_rfl) allNil ?_
          refine HT.seq ?_
          rcases of_bif hx30 with ⟨hb32, hx30⟩ | ⟨hb32, hx30⟩
          · refine HT.cond1 rfl hb32 ?_
            refine HT.skip (qThen ?_)
            refine HT.seq ?_
            refine HT.block ?_
            refine HT.rg2 (oHs 2) ⟨[(1, nV a1), (2, iV a2), (3, pV 0 0), (8, aV 1), (9, aV 2), (11, iV s9.1), (40, iV (lenI a1)), (41, iV s9.1)], [(0, .box [nC a0.1, nC a0.2.1, .dat (.sl tLI) a0.2.2]), (1, .seq .bool r7), (2, .seq .bool s9.2)], 3⟩ hX (by kernel_rfl) allNil ?_
            refine HT.seq ?_
            obtain ⟨v33', hT35, hx30⟩ := of_bind hx30
            refine HT.join (fun (v33 : Bool) => ⟨[(1, nV a1), (2, iV a2), (3, pV 0 0), (8, aV 1), (9, aV 2), (11, iV s9.1), (40, iV (lenI a1)), (41, iV s9.1), (68, bV v33)], [(0, .box [nC a0.1, nC a0.2.1, .dat (.sl tLI) a0.2.2]), (1, .seq .bool r7), (2, .seq .bool s9.2)], 3⟩) (fun v => v = v33') (fun v33 hv34 => ?_) (fun cont => ?_)
            · subst hv34
              rcases of_bif hx30 with ⟨hb36, hx30⟩ | ⟨hb36, hx30⟩
              · refine HT.cond1 rfl hb36 ?_
                refine HT.rg2 (oHs 2) ⟨[(6, .one (.nilS)), (7, bV false)], [], 3⟩ hX (by kernel_rfl) allNil ?_
                have hx30 := of_some hx30
                subst hx30
                exact HT.retL (Le.re [] [] hX (by kernel_rfl)) (qThenR (qBlockR (qThenR (qLoopR (hk31 (.inr ()) rfl)))))
              · refine HT.cond0 rfl hb36 ?_
                refine HT.skip (qThen ?_)
                obtain ⟨hg37, hx30⟩ := of_guard hx30
                obtain ⟨hg38, hx30⟩ := of_guard hx30
                refine HT.rgL (oHs 7) ⟨[(1, nV a1), (2, iV a2), (3, pV 0 0), (8, aV 1), (9, aV 2), (40, iV (lenI a1)), (41, iV s9.1)], [(2, .seq .bool (List.set s9.2 (Int.toNat (List.getD a1 (Int.toNat s9.1) (0 : Int))) true)), (0, .box [nC a0.1, nC a0.2.1, .dat (.sl tLI) a0.2.2]), (1, .seq .bool r7)], 3⟩ hX (by kernel_rfl) (allCons hg37 (allCons hg38 (allCons (natLt hg38) allNil))) (qBlock (qThen ?_))
                have hx30 := of_some hx30
                subst hx30
                exact HT.rgK (oHs 2) [(0, 0), (1, 1), (2, 2)] [] hX (by kernel_rfl) allNil (fun _ h => (qLoopN ⟨((wadd .i64 s9.1 (1 : Int)), (List.set s9.2 (Int.toNat (List.getD a1 (Int.toNat s9.1) (0 : Int))) true)), rfl, h⟩))
            · obtain ⟨hg39, hT35⟩ := of_guard hT35
              obtain ⟨y40, hc41, hT35⟩ := of_bind hT35
              rcases of_bif hT35 with ⟨hb42, hT35⟩ | ⟨hb42, hT35⟩
              · exact HT.drK 22 [⟨oH, []⟩, ⟨oH, []⟩, ⟨oH, [0, 1]⟩, ⟨oH, [0, 1, 2]⟩, ⟨oH, []⟩, ⟨oH, [4]⟩, ⟨oH, [4, 5]⟩, ⟨⟨none, .call [.imm tI, .imm tI, .imm tI] [⟨false, .bool, y40⟩] []⟩, [0, 1, 2, 3, 4, 5, 6]⟩, ⟨oH, [0, 1, 2, 3, 4, 5, 6, 7]⟩, ⟨oH, [0, 1, 2, 3, 4, 5, 6, 7, 8]⟩, ⟨⟨some true, .no⟩, [0, 1, 2, 3, 4, 5, 6, 7, 8, 9]⟩, ⟨⟨some true, .no⟩, [0, 1, 2, 3, 4, 5, 6, 7, 8, 9, 10]⟩, ⟨⟨some true, .no⟩, [0, 1, 2, 3, 4, 5, 6, 7, 8, 9, 10, 11]⟩, ⟨oH, [0, 1, 2, 3, 4, 5, 6, 7, 8, 9, 10, 11, 12]⟩, ⟨oH, [0, 1, 2, 3, 4, 5, 6, 7, 8, 9, 10, 11, 12]⟩, ⟨oH, [0, 1, 2, 3, 4, 5, 6, 7, 8, 9, 10, 11, 12, 13, 14]⟩, ⟨oH, [0, 1, 2, 3, 4, 5, 6, 7, 8, 9, 10, 11, 12, 13, 14, 15]⟩, ⟨oH, [0, 1, 2, 3, 4, 5, 6, 7, 8, 9, 10, 11, 12]⟩, ⟨oH, [0, 1, 2, 3, 4, 5, 6, 7, 8, 9, 10, 11, 12]⟩, ⟨oH, [0, 1, 2, 3, 4, 5, 6, 7, 8, 9, 10, 11, 12, 18]⟩, ⟨oH, [0, 1, 2, 3, 4, 5, 6, 7, 8, 9, 10, 11, 12, 17, 18, 19]⟩, ⟨oH, [0, 1, 2, 3, 4, 5, 6, 7, 8, 9, 10, 11, 12, 17, 18, 19, 20]⟩] [[0, 1, 2, 3, 4, 5, 6, 7, 8, 9, 10, 11, 12, 13, 14, 15, 16, 17, 18, 19, 20, 21], [0, 1, 2, 3, 4, 5, 6, 7, 8, 9, 10, 11, 12, 13, 14, 15, 16, 17, 18, 19, 20, 21, 22], [0, 1, 2, 3, 4, 5, 6, 7, 8, 9, 10, 11, 12, 13, 14, 15, 16, 17, 18, 19, 20, 21, 22, 23]] [oH, ⟨some true, .no⟩, ⟨none, .tv true⟩] [(0, 0), (1, 1), (2, 2)] [] hX (by kernel_rfl) (by kernel_rfl) (allCons hg39 (allCons (f51_ok hc41) (allCons hb42 (allCons hb42 (allCons hb42 (allCons hb42 (allCons hb42 allNil))))))) (fun _ h => (qThen (h.ht (cont true (of_some hT35)))))
              · rcases of_bif hT35 with ⟨hb43, hT35⟩ | ⟨hb43, hT35⟩
                · obtain ⟨hg44, hT35⟩ := of_guard hT35
                  exact HT.drK 22 [⟨oH, []⟩, ⟨oH, []⟩, ⟨oH, [0, 1]⟩, ⟨oH, [0, 1, 2]⟩, ⟨oH, []⟩, ⟨oH, [4]⟩, ⟨oH, [4, 5]⟩, ⟨⟨none, .call [.imm tI, .imm tI, .imm tI] [⟨false, .bool, y40⟩] []⟩, [0, 1, 2, 3, 4, 5, 6]⟩, ⟨oH, [0, 1, 2, 3, 4, 5, 6, 7]⟩, ⟨oH, [0, 1, 2, 3, 4, 5, 6, 7, 8]⟩, ⟨⟨some false, .no⟩, [0, 1, 2, 3, 4, 5, 6, 7, 8, 9]⟩, ⟨⟨some false, .no⟩, [0, 1, 2, 3, 4, 5, 6, 7, 8, 9, 10]⟩, ⟨⟨some false, .no⟩, [0, 1, 2, 3, 4, 5, 6, 7, 8, 9, 10, 11]⟩, ⟨⟨some true, .no⟩, [0, 1, 2, 3, 4, 5, 6, 7, 8, 9, 10, 11, 12]⟩, ⟨⟨some true, .no⟩, [0, 1, 2, 3, 4, 5, 6, 7, 8, 9, 10, 11, 12]⟩, ⟨⟨some true, .no⟩, [0, 1, 2, 3, 4, 5, 6, 7, 8, 9, 10, 11, 12, 13, 14]⟩, ⟨⟨some true, .no⟩, [0, 1, 2, 3, 4, 5, 6, 7, 8, 9, 10, 11, 12, 13, 14, 15]⟩, ⟨⟨some true, .no⟩, [0, 1, 2, 3, 4, 5, 6, 7, 8, 9, 10, 11, 12]⟩, ⟨⟨some true, .no⟩, [0, 1, 2, 3, 4, 5, 6, 7, 8, 9, 10, 11, 12]⟩, ⟨⟨some true, .no⟩, [0, 1, 2, 3, 4, 5, 6, 7, 8, 9, 10, 11, 12, 18]⟩, ⟨⟨some true, .no⟩, [0, 1, 2, 3, 4, 5, 6, 7, 8, 9, 10, 11, 12, 17, 18, 19]⟩, ⟨⟨some true, .no⟩, [0, 1, 2, 3, 4, 5, 6, 7, 8, 9, 10, 11, 12, 17, 18, 19, 20]⟩] [[0, 1, 2, 3, 4, 5, 6, 7, 8, 9, 10, 11, 12, 13, 14, 15, 16, 17, 18, 19, 20, 21], [0, 1, 2, 3, 4, 5, 6, 7, 8, 9, 10, 11, 12, 13, 14, 15, 16, 17, 18, 19, 20, 21, 22], [0, 1, 2, 3, 4, 5, 6, 7, 8, 9, 10, 11, 12, 13, 14, 15, 16, 17, 18, 19, 20, 21, 22, 23]] [⟨some true, .no⟩, ⟨some false, .tv true⟩, ⟨none, .tv false⟩] [(0, 0), (1, 1), (2, 2)] [] hX (by kernel_rfl) (by kernel_rfl) (allCons hg39 (allCons (f51_ok hc41) (allCons hb42 (allCons hb42 (allCons hb42 (allCons hb43 (allCons hb43 (allCons hb43 (allCons hg39 (allCons hb43 (allCons hb43 (allCons hb43 (allCons hb43 (allCons hb43 (allCons hg44 (allCons hb43 (allCons hb43 (allCons hb42 (allCons hb43 (allCons hb42 allNil)))))))))))))))))))) (fun _ h => (qThen (h.ht (cont (decide ((List.getD a1 (Int.toNat s9.1) (0 : Int)) ≤ (List.getD a1 (Int.toNat (wsub .i64 s9.1 (1 : Int))) (0 : Int)))) (of_some hT35)))))
                · exact HT.drK 22 [⟨oH, []⟩, ⟨oH, []⟩, ⟨oH, [0, 1]⟩, ⟨oH, [0, 1, 2]⟩, ⟨oH, []⟩, ⟨oH, [4]⟩, ⟨oH, [4, 5]⟩, ⟨⟨none, .call [.imm tI, .imm tI, .imm tI] [⟨false, .bool, y40⟩] []⟩, [0, 1, 2, 3, 4, 5, 6]⟩, ⟨oH, [0, 1, 2, 3, 4, 5, 6, 7]⟩, ⟨oH, [0, 1, 2, 3, 4, 5, 6, 7, 8]⟩, ⟨⟨some false, .no⟩, [0, 1, 2, 3, 4, 5, 6, 7, 8, 9]⟩, ⟨⟨some false, .no⟩, [0, 1, 2, 3, 4, 5, 6, 7, 8, 9, 10]⟩, ⟨⟨some false, .no⟩, [0, 1, 2, 3, 4, 5, 6, 7, 8, 9, 10, 11]⟩, ⟨⟨some false, .no⟩, [0, 1, 2, 3, 4, 5, 6, 7, 8, 9, 10, 11, 12]⟩, ⟨⟨some false, .no⟩, [0, 1, 2, 3, 4, 5, 6, 7, 8, 9, 10, 11, 12]⟩, ⟨⟨some false, .no⟩, [0, 1, 2, 3, 4, 5, 6, 7, 8, 9, 10, 11, 12, 13, 14]⟩, ⟨⟨some false, .no⟩, [0, 1, 2, 3, 4, 5, 6, 7, 8, 9, 10, 11, 12, 13, 14, 15]⟩, ⟨⟨some false, .no⟩, [0, 1, 2, 3, 4, 5, 6, 7, 8, 9, 10, 11, 12]⟩, ⟨⟨some false, .no⟩, [0, 1, 2, 3, 4, 5, 6, 7, 8, 9, 10, 11, 12]⟩, ⟨⟨some false, .no⟩, [0, 1, 2, 3, 4, 5, 6, 7, 8, 9, 10, 11, 12, 18]⟩, ⟨⟨some false, .no⟩, [0, 1, 2, 3, 4, 5, 6, 7, 8, 9, 10, 11, 12, 17, 18, 19]⟩, ⟨⟨some false, .no⟩, [0, 1, 2, 3, 4, 5, 6, 7, 8, 9, 10, 11, 12, 17, 18, 19, 20]⟩] [[0, 1, 2, 3, 4, 5, 6, 7, 8, 9, 10, 11, 12, 13, 14, 15, 16, 17, 18, 19, 20, 21], [0, 1, 2, 3, 4, 5, 6, 7, 8, 9, 10, 11, 12, 13, 14, 15, 16, 17, 18, 19, 20, 21, 22], [0, 1, 2, 3, 4, 5, 6, 7, 8, 9, 10, 11, 12, 13, 14, 15, 16, 17, 18, 19, 20, 21, 22, 23]] [⟨some false, .no⟩, ⟨some false, .tv false⟩, ⟨none, .tv false⟩] [(0, 0), (1, 1), (2, 2)] [] hX (by kernel_rfl) (by kernel_rfl) (allCons hg39 (allCons (f51_ok hc41) (allCons hb42 (allCons hb42 (allCons hb42 (allCons hb43 (allCons hb43 (allCons hb43 (allCons hb43 (allCons hb43 (allCons hb43 (allCons hb43 (allCons hb43 (allCons hb43 (allCons hb43 (allCons hb42 (allCons hb43 (allCons hb42 allNil)))))))))))))))))) (fun _ h => (qThen (h.ht (cont false (of_some hT35)))))
          · refine HT.cond0 rfl hb32 ?_
            have hx30 := of_some hx30
            subst hx30
            exact HT.exitL (Le.re [(0, 0), (1, 1), (2, 2)] [] hX (by kernel_rfl)) (qThenE (qLoopE (hk31 (.inl s9.2) rfl)))
      · refine HT.rg2 [oH] ⟨[(1, nV a1), (2, iV a2), (3, pV 0 0), (8, aV 1), (9, aV 2), (31, iV (lenI (List.replicate (Int.toNat (lenI a0.1)) false))), (32, iV s6.1), (33, bV (decide (s6.1 < (lenI (List.replicate (Int.toNat (lenI a0.1)) false)))))], [(0, .box [nC a0.1, nC a0.2.1, .dat (.sl tLI) a0.2.2]), (1, .seq .bool s6.2), (2, .seq .bool (List.replicate (Int.toNat (lenI a0.1)) false))], 3⟩ hX (by kernel_rfl) allNil ?_
        refine HT.seq ?_
        rcases of_bif hx47 with ⟨hb49, hx47⟩ | ⟨hb49, hx47⟩
        · refine HT.cond1 rfl hb49 ?_
          refine HT.skip (qThen ?_)
          refine HT.seq ?_
          refine HT.block ?_
          refine HT.rg2 (oHs 2) ⟨[(1, nV a1), (2, iV a2), (3, pV 0 0), (8, aV 1), (9, aV 2), (10, iV s6.1), (31, iV (lenI (List.replicate (Int.toNat (lenI a0.1)) false))), (32, iV s6.1)], [(0, .box [nC a0.1, nC a0.2.1, .dat (.sl tLI) a0.2.2]), (1, .seq .bool s6.2), (2, .seq .bool (List.replicate (Int.toNat (lenI a0.1)) false))], 3⟩ hX (by kernel_rfl) allNil ?_
          obtain ⟨hg50, hx47⟩ := of_guard hx47
          refine HT.rgL (oHs 4) ⟨[(1, nV a1), (2, iV a2), (3, pV 0 0), (8, aV 1), (9, aV 2), (31, iV (lenI (List.replicate (Int.toNat (lenI a0.1)) false))), (32, iV s6.1)], [(1, .seq .bool (List.set s6.2 (Int.toNat s6.1) true)), (0, .box [nC a0.1, nC a0.2.1, .dat (.sl tLI) a0.2.2]), (2, .seq .bool (List.replicate (Int.toNat (lenI a0.1)) false))], 3⟩ hX (by kernel_rfl) (allCons hg50 (allCons (natLt hg50) allNil)) (qBlock (qThen ?_))
          have hx47 := of_some hx47
          subst hx47
          exact HT.rgK (oHs 2) [(0, 0), (1, 1), (2, 2)] [] hX (by kernel_rfl) allNil (fun _ h => (qLoopN ⟨((wadd .i64 s6.1 (1 : Int)), (List.set s6.2 (Int.toNat s6.1) true)), rfl, h⟩))
        · refine HT.cond0 rfl hb49 ?_
          have hx47 := of_some hx47
          subst hx47
          exact HT.exitL (Le.re [(0, 0), (1, 1), (2, 2)] [] hX (by kernel_rfl)) (qThenE (qLoopE (hk48 s6.2 rfl)))
  · obtain ⟨y52, hc53, hT3⟩ := of_bind hT3
    rcases of_bif hT3 with ⟨hb54, hT3⟩ | ⟨hb54, hT3⟩
    · exact HT.rgK [⟨none, .call [.pimm (.st (.pair tLI (.pair tLI (.sl tLI))))] [⟨false, .bool, y52⟩] []⟩, oH, oH, ⟨some true, .no⟩, ⟨some true, .no⟩, ⟨some true, .no⟩, ⟨none, .tv true⟩] [(0, 0)] [] hX (by kernel_rfl) (allCons (f45_ok hc53) (allCons hb54 (allCons hb54 (allCons hb54 (allCons hb54 allNil))))) (fun _ h => (qThen (h.ht (cont true (of_some hT3)))))
    · obtain ⟨y55, hc56, hT3⟩ := of_bind hT3
      exact HT.rgK [⟨none, .call [.pimm (.st (.pair tLI (.pair tLI (.sl tLI))))] [⟨false, .bool, y52⟩] []⟩, oH, oH, ⟨some false, .no⟩, ⟨some false, .call [.imm tI, .imm tI, .imm tI] [⟨false, .bool, y55⟩] []⟩, ⟨some false, .no⟩, ⟨none, .tv false⟩] [(0, 0)] [] hX (by kernel_rfl) (allCons (f45_ok hc53) (allCons hb54 (allCons hb54 (allCons (f51_ok hc56) (allCons hb54 (allCons hb54 allNil)))))) (fun _ h => (qThen (h.ht (cont (!y55) (of_some hT3)))))

noncomputable def impl_Game_all (a0 : List Int × List Int × List (List Int)) : Option (Int) :=
  guardP ((0 : Int) ≤ (lenI a0.1)) (
    (some (wsub .u32 (IntKind.wrap .u32 ((1 : Int) * 2 ^ (min (Int.toNat (lenI a0.1)) (IntKind.bits .u32)))) (1 : Int))).bind fun q2 =>
    some q2)

theorem f58_ok {a0 : List Int × List Int × List (List Int)} {r : Int} (hr : impl_Game_all a0 = some r) : CallOK Try.prog 58 [.imm (.st (.pair tLI (.pair tLI (.sl tLI)))) a0] [⟨false, (.int .u32), r⟩] [] := by
  unfold impl_Game_all at hr
  refine CallOK.of_body (ts := [(false, (.int .u32))]) Try.func58 rfl (by kernel_rfl) (Nat.le_of_ble_eq_true (by kernel_rfl)) fun cx hP hN hO hF => ?_
  have hO : cx.own.map Prod.fst = [] := hO
  have hX := CxIs.mk hP hN hO
  have hF := hF rfl
  show HT cx ⟨[(0, .agg [nC a0.1, nC a0.2.1, .dat (.sl tLI) a0.2.2])], [], 0⟩ _ _
  refine HT.rg2 (oHs 2) ⟨[(1, pV 0 0)], [(0, .box [nC a0.1, nC a0.2.1, .dat (.sl tLI) a0.2.2])], 1⟩ hX (by kernel_rfl) allNil ?_
  obtain ⟨hg1, hr⟩ := of_guard hr
  refine HT.rg2 (oHs 6) ⟨[(2, .one (.dat (.int .u32) (wsub .u32 (IntKind.wrap .u32 ((1 : Int) * 2 ^ (min (Int.toNat (lenI a0.1)) (IntKind.bits .u32)))) (1 : Int))))], [], 1⟩ hX (by kernel_rfl) (allCons hg1 allNil) ?_
  obtain ⟨q2, hq3, hr⟩ := of_bind hr
  have hq3 := of_some2 hq3
  refine (Le.cv (s := ⟨[], [], [], false⟩) (own := []) (ps := [q2 = (wsub .u32 (IntKind.wrap .u32 ((1 : Int) * 2 ^ (min (Int.toNat (lenI a0.1)) (IntKind.bits .u32)))) (1 : Int))]) (st' := ⟨[(2, .one (.dat (.int .u32) q2))], [], 1⟩) hO (fun h => by cases h) (by kernel_rfl) ⟨hq3, trivial⟩).ht ?_
  have hr := of_some hr
  subst hr
  exact HT.ret ⟨[.one (.dat (.int .u32) q2)], [], [], by kernel_rfl, by kernel_rfl, rfl, by kernel_rfl, by kernel_rfl, trivial⟩

noncomputable def impl_Game_reach_B1 (a0 : List Int × List Int × List (List Int)) (a1 : Int) (s8 : Int × Bool × Int) (s23 : Bool × Bool × Int) : Option ((Bool × Bool × Int) ⊕ ((Bool × Bool))) :=
  bif (decide (s23.2.2 < (lenI (List.getD a0.2.2 (Int.toNat s8.2.2) ([] : List Int))))) then
    (show Option (Bool × Bool) from
      guardP ((0 : Int) ≤ s23.2.2 ∧ s23.2.2 < lenI (List.getD a0.2.2 (Int.toNat s8.2.2) ([] : List Int))) (
        (some (List.getD (List.getD a0.2.2 (Int.toNat s8.2.2) ([] : List Int)) (Int.toNat s23.2.2) (0 : Int))).bind fun q46 =>
        guardP ((0 : Int) ≤ q46) (
          bif ((IntKind.wrap .u32 (BitVec.ofInt (IntKind.bits .u32) (Int.fdiv a1 (2 ^ (min (Int.toNat q46) (IntKind.bits .u32)))) &&& BitVec.ofInt (IntKind.bits .u32) (1 : Int)).toNat) == (1 : Int)) then
            (show Option (Bool) from
              bif s23.1 then
                some true
              else
                some ((IntKind.wrap .u32 (BitVec.ofInt (IntKind.bits .u32) (Int.fdiv s8.1 (2 ^ (min (Int.toNat q46) (IntKind.bits .u32)))) &&& BitVec.ofInt (IntKind.bits .u32) (1 : Int)).toNat) == (1 : Int))).bind fun v50 =>
            bif s23.2.1 then
              some (v50, ((IntKind.wrap .u32 (BitVec.ofInt (IntKind.bits .u32) (Int.fdiv s8.1 (2 ^ (min (Int.toNat q46) (IntKind.bits .u32)))) &&& BitVec.ofInt (IntKind.bits .u32) (1 : Int)).toNat) == (1 : Int)))
            else
              some (v50, false)
          else
            some (s23.1, s23.2.1)))).bind fun v42 =>
    some (.inl (v42.1, v42.2, (wadd .i64 s23.2.2 (1 : Int))))
  else
    some (.inr (s23.1, s23.2.1))

noncomputable def impl_Game_reach_B2 (a0 : List Int × List Int × List (List Int)) (a1 : Int) (a3 : Int) (s8 : Int × Bool × Int) : Option ((Int × Bool × Int) ⊕ ((Int × Bool))) :=
  bif (decide (s8.2.2 < (lenI a0.2.2))) then
    (show Option (Int × Bool) from
      guardP ((0 : Int) ≤ s8.2.2 ∧ s8.2.2 < lenI a0.2.2) (
        (show Option (Bool) from
          guardP ((0 : Int) ≤ s8.2.2) (
            bif ((IntKind.wrap .u32 (BitVec.ofInt (IntKind.bits .u32) (Int.fdiv a1 (2 ^ (min (Int.toNat s8.2.2) (IntKind.bits .u32)))) &&& BitVec.ofInt (IntKind.bits .u32) (1 : Int)).toNat) == (0 : Int)) then
              some true
            else
              some ((IntKind.wrap .u32 (BitVec.ofInt (IntKind.bits .u32) (Int.fdiv s8.1 (2 ^ (min (Int.toNat s8.2.2) (IntKind.bits .u32)))) &&& BitVec.ofInt (IntKind.bits .u32) (1 : Int)).toNat) == (1 : Int)))).bind fun v19 =>
        bif v19 then
          some (s8.1, s8.2.1)
        else
          (rounds (impl_Game_reach_B1 a0 a1 s8) (false, true, (0 : Int))).bind fun r25 =>
          (show Option (Bool) from
            guardP ((0 : Int) ≤ s8.2.2 ∧ s8.2.2 < lenI a0.1) (
              bif ((List.getD a0.1 (Int.toNat s8.2.2) (0 : Int)) == a3) then
                bif r25.1 then
                  some true
                else
                  bif ((List.getD a0.1 (Int.toNat s8.2.2) (0 : Int)) != a3) then
                    some r25.2
                  else
                    some false
              else
                bif ((List.getD a0.1 (Int.toNat s8.2.2) (0 : Int)) != a3) then
                  some r25.2
                else
                  some false)).bind fun v26 =>
          bif v26 then
            guardP ((0 : Int) ≤ s8.2.2) (
              (some (IntKind.wrap .u32 (BitVec.ofInt (IntKind.bits .u32) s8.1 ||| BitVec.ofInt (IntKind.bits .u32) (IntKind.wrap .u32 ((1 : Int) * 2 ^ (min (Int.toNat s8.2.2) (IntKind.bits .u32))))).toNat)).bind fun q31 =>
              some (q31, true))
          else
            some (s8.1, s8.2.1))).bind fun v15 =>
    some (.inl (v15.1, v15.2, (wadd .i64 s8.2.2 (1 : Int))))
  else
    some (.inr (s8.1, s8.2.1))

noncomputable def impl_Game_reach_B3 (a0 : List Int × List Int × List (List Int)) (a1 : Int) (a3 : Int) (s1 : Int × Bool) : Option ((Int × Bool) ⊕ (Int)) :=
  bif s1.2 then
    (rounds (impl_Game_reach_B2 a0 a1 a3) (s1.1, false, (0 : Int))).bind fun r10 =>
    some (.inl (r10.1, r10.2))
  else
    some (.inr s1.1)

noncomputable def impl_Game_reach (a0 : List Int × List Int × List (List Int)) (a1 : Int) (a2 : Int) (a3 : Int) : Option (Int) :=
  (rounds (impl_Game_reach_B3 a0 a1 a3) (a2, true)).bind fun r3 =>
  some r3

theorem f57_ok {a0 : List Int × List Int × List (List Int)} {a1 : Int} {a2 : Int} {a3 : Int} {r : Int} (hr : impl_Game_reach a0 a1 a2 a3 = some r) : CallOK Try.prog 57 [.imm (.st (.pair tLI (.pair tLI (.sl tLI)))) a0, .imm (.int .u32) a1, .imm (.int .u32) a2, .imm tI a3] [⟨false, (.int .u32), r⟩] [] := by
  unfold impl_Game_reach at hr
  refine CallOK.of_body (ts := [(false, (.int .u32))]) Try.func57 rfl (by kernel_rfl) (Nat.le_of_ble_eq_true (by kernel_rfl)) fun cx hP hN hO hF => ?_
  have hO : cx.own.map Prod.fst = [] := hO
  have hX := CxIs.mk hP hN hO
  have hF := hF rfl
  show HT cx ⟨[(0, .agg [nC a0.1, nC a0.2.1, .dat (.sl tLI) a0.2.2]), (1, .one (.dat (.int .u32) a1)), (2, .one (.dat (.int .u32) a2)), (3, iV a3)], [], 0⟩ _ _
  refine HT.rg2 (oHs 2) ⟨[(1, .one (.dat (.int .u32) a1)), (2, .one (.dat (.int .u32) a2)), (3, iV a3), (4, pV 0 0)], [(0, .box [nC a0.1, nC a0.2.1, .dat (.sl tLI) a0.2.2])], 1⟩ hX (by kernel_rfl) allNil ?_
  refine HT.seq ?_
  refine HT.rg2 [oH] ⟨[(1, .one (.dat (.int .u32) a1)), (2, .one (.dat (.int .u32) a2)), (3, iV a3), (4, pV 0 0), (9, bV true)], [(0, .box [nC a0.1, nC a0.2.1, .dat (.sl tLI) a0.2.2])], 1⟩ hX (by kernel_rfl) allNil ?_
  refine HT.block ?_
  obtain ⟨r2, hL59, hr⟩ := of_bind hr
  refine HT.loopL (fun (s1 : Int × Bool) => ⟨[(1, .one (.dat (.int .u32) a1)), (2, .one (.dat (.int .u32) s1.1)), (3, iV a3), (4, pV 0 0), (9, bV s1.2)], [(0, .box [nC a0.1, nC a0.2.1, .dat (.sl tLI) a0.2.2])], 1⟩) (fun (r3 : Int) => (.exit 0, ⟨[(2, .one (.dat (.int .u32) r3))], [], 0⟩)) (Le.re [(0, 0)] [] hX (by kernel_rfl)) hL59 ?_ (fun s1 x4 hx5 hk6 => ?_)
  · refine (qBlockX (qThen ?_))
    refine HT.rg2 (oHs 2) ⟨[(8, .one (.dat (.int .u32) r2))], [], 0⟩ hX (by kernel_rfl) allNil ?_
    have hr := of_some hr
    subst hr
    exact HT.ret ⟨[.one (.dat (.int .u32) r2)], [], [], by kernel_rfl, by kernel_rfl, rfl, by kernel_rfl, by kernel_rfl, trivial⟩
  · refine HT.seq ?_
    refine HT.rg2 [oH] ⟨[(1, .one (.dat (.int .u32) a1)), (2, .one (.dat (.int .u32) s1.1)), (3, iV a3), (4, pV 0 0), (16, bV s1.2)], [(0, .box [nC a0.1, nC a0.2.1, .dat (.sl tLI) a0.2.2])], 1⟩ hX (by kernel_rfl) allNil ?_
    rcases of_bif hx5 with ⟨hb7, hx5⟩ | ⟨hb7, hx5⟩
    · refine HT.cond1 rfl hb7 ?_
      refine HT.skip (qThen ?_)
      refine HT.block ?_
      refine HT.rg2 [oH] ⟨[(1, .one (.dat (.int .u32) a1)), (2, .one (.dat (.int .u32) s1.1)), (3, iV a3), (4, pV 0 0), (9, bV false)], [(0, .box [nC a0.1, nC a0.2.1, .dat (.sl tLI) a0.2.2])], 1⟩ hX (by kernel_rfl) allNil ?_
      refine HT.rg2 (oHs 4) ⟨[(1, .one (.dat (.int .u32) a1)), (2, .one (.dat (.int .u32) s1.1)), (3, iV a3), (4, pV 0 0), (9, bV false), (18, .one (.dat (.sl tLI) a0.2.2)), (19, iV (lenI a0.2.2)), (20, iV (0 : Int))], [(0, .box [nC a0.1, nC a0.2.1, .dat (.sl tLI) a0.2.2])], 1⟩ hX (by kernel_rfl) allNil ?_
      refine HT.block ?_
      obtain ⟨r9, hL58, hx5⟩ := of_bind hx5
      refine HT.loopL (fun (s8 : Int × Bool × Int) => ⟨[(1, .one (.dat (.int .u32) a1)), (2, .one (.dat (.int .u32) s8.1)), (3, iV a3), (4, pV 0 0), (9, bV s8.2.1), (18, .one (.dat (.sl tLI) a0.2.2)), (19, iV (lenI a0.2.2)), (20, iV s8.2.2)], [(0, .box [nC a0.1, nC a0.2.1, .dat (.sl tLI) a0.2.2])], 1⟩) (fun (r10 : (Int × Bool)) => (.exit 2, ⟨[(1, .one (.dat (.int .u32) a1)), (2, .one (.dat (.int .u32) r10.1)), (3, iV a3), (4, pV 0 0), (9, bV r10.2)], [(0, .box [nC a0.1, nC a0.2.1, .dat (.sl tLI) a0.2.2])], 1⟩)) (Le.re [(0, 0)] [] hX (by kernel_rfl)) hL58 ?_ (fun s8 x11 hx12 hk13 => ?_)
      · have hx5 := of_some hx5
        subst hx5
        refine (qBlockX (qBlock (qLoopN ⟨(r9.1, r9.2), rfl, Le.re [(0, 0)] [] hX (by kernel_rfl)⟩)))
      · refine HT.rg2 [oH] ⟨[(1, .one (.dat (.int .u32) a1)), (2, .one (.dat (.int .u32) s8.1)), (3, iV a3), (4, pV 0 0), (9, bV s8.2.1), (18, .one (.dat (.sl tLI) a0.2.2)), (19, iV (lenI a0.2.2)), (20, iV s8.2.2), (21, bV (decide (s8.2.2 < (lenI a0.2.2))))], [(0, .box [nC a0.1, nC a0.2.1, .dat (.sl tLI) a0.2.2])], 1⟩ hX (by kernel_rfl) allNil ?_
        refine HT.seq ?_
        rcases of_bif hx12 with ⟨hb14, hx12⟩ | ⟨hb14, hx12⟩
        · refine HT.cond1 rfl hb14 ?_
          refine HT.skip (qThen ?_)
          obtain ⟨v15', hT17, hx12⟩ := of_bind hx12
          refine HT.join (fun (v15 : Int × Bool) => ⟨[(1, .one (.dat (.int .u32) a1)), (2, .one (.dat (.int .u32) v15.1)), (3, iV a3), (4, pV 0 0), (9, bV v15.2), (18, .one (.dat (.sl tLI) a0.2.2)), (19, iV (lenI a0.2.2)), (20, iV s8.2.2)], [(0, .box [nC a0.1, nC a0.2.1, .dat (.sl tLI) a0.2.2])], 1⟩) (fun v => v = v15') (fun v15 hv16 => ?_) (fun cont => ?_)
          · subst hv16
            have hx12 := of_some hx12
            subst hx12
            exact HT.rgK (oHs 2) [(0, 0)] [] hX (by kernel_rfl) allNil (fun _ h => (qLoopN ⟨(v15.1, v15.2, (wadd .i64 s8.2.2 (1 : Int))), rfl, h⟩))
          · refine HT.block ?_
            obtain ⟨hg18, hT17⟩ := of_guard hT17
            refine HT.rg2 (oHs 5) ⟨[(1, .one (.dat (.int .u32) a1)), (2, .one (.dat (.int .u32) s8.1)), (3, iV a3), (4, pV 0 0), (9, bV s8.2.1), (10, iV s8.2.2), (11, nV (List.getD a0.2.2 (Int.toNat s8.2.2) ([] : List Int))), (18, .one (.dat (.sl tLI) a0.2.2)), (19, iV (lenI a0.2.2)), (20, iV s8.2.2)], [(0, .box [nC a0.1, nC a0.2.1, .dat (.sl tLI) a0.2.2])], 1⟩ hX (by kernel_rfl) (allCons hg18 allNil) ?_
            refine HT.seq ?_
            obtain ⟨v19', hT21, hT17⟩ := of_bind hT17
            refine HT.join (fun (v19 : Bool) => ⟨[(1, .one (.dat (.int .u32) a1)), (2, .one (.dat (.int .u32) s8.1)), (3, iV a3), (4, pV 0 0), (9, bV s8.2.1), (10, iV s8.2.2), (11, nV (List.getD a0.2.2 (Int.toNat s8.2.2) ([] : List Int))), (18, .one (.dat (.sl tLI) a0.2.2)), (19, iV (lenI a0.2.2)), (20, iV s8.2.2), (36, bV v19)], [(0, .box [nC a0.1, nC a0.2.1, .dat (.sl tLI) a0.2.2])], 1⟩) (fun v => v = v19') (fun v19 hv20 => ?_) (fun cont => ?_)
            · subst hv20
              rcases of_bif hT17 with ⟨hb22, hT17⟩ | ⟨hb22, hT17⟩
              · refine HT.cond1 rfl hb22 ?_
                refine HT.exit (qThenE (qBlockX (qThen ?_)))
                exact (Le.re [(0, 0)] [] hX (by kernel_rfl)).ht (cont (s8.1, s8.2.1) (of_some hT17))
              · refine HT.cond0 rfl hb22 ?_
                refine HT.skip (qThen ?_)
                refine HT.rg2 (oHs 2) ⟨[(1, .one (.dat (.int .u32) a1)), (2, .one (.dat (.int .u32) s8.1)), (3, iV a3), (4, pV 0 0), (9, bV s8.2.1), (10, iV s8.2.2), (11, nV (List.getD a0.2.2 (Int.toNat s8.2.2) ([] : List Int))), (12, bV false), (13, bV true), (18, .one (.dat (.sl tLI) a0.2.2)), (19, iV (lenI a0.2.2)), (20, iV s8.2.2)], [(0, .box [nC a0.1, nC a0.2.1, .dat (.sl tLI) a0.2.2])], 1⟩ hX (by kernel_rfl) allNil ?_
                refine HT.seq ?_
                refine HT.rg2 (oHs 3) ⟨[(1, .one (.dat (.int .u32) a1)), (2, .one (.dat (.int .u32) s8.1)), (3, iV a3), (4, pV 0 0), (9, bV s8.2.1), (10, iV s8.2.2), (12, bV false), (13, bV true), (18, .one (.dat (.sl tLI) a0.2.2)), (19, iV (lenI a0.2.2)), (20, iV s8.2.2), (37, nV (List.getD a0.2.2 (Int.toNat s8.2.2) ([] : List Int))), (38, iV (lenI (List.getD a0.2.2 (Int.toNat s8.2.2) ([] : List Int)))), (39, iV (0 : Int))], [(0, .box [nC a0.1, nC a0.2.1, .dat (.sl tLI) a0.2.2])], 1⟩ hX (by kernel_rfl) allNil ?_
                refine HT.block ?_
                obtain ⟨r24, hL55, hT17⟩ := of_bind hT17
                refine HT.loopL (fun (s23 : Bool × Bool × Int) => ⟨[(1, .one (.dat (.int .u32) a1)), (2, .one (.dat (.int .u32) s8.1)), (3, iV a3), (4, pV 0 0), (9, bV s8.2.1), (10, iV s8.2.2), (12, bV s23.1), (13, bV s23.2.1), (18, .one (.dat (.sl tLI) a0.2.2)), (19, iV (lenI a0.2.2)), (20, iV s8.2.2), (37, nV (List.getD a0.2.2 (Int.toNat s8.2.2) ([] : List Int))), (38, iV (lenI (List.getD a0.2.2 (Int.toNat s8.2.2) ([] : List Int)))), (39, iV s23.2.2)], [(0, .box [nC a0.1, nC a0.2.1, .dat (.sl tLI) a0.2.2])], 1⟩) (fun (r25 : (Bool × Bool)) => (.exit 4, ⟨[(1, .one (.dat (.int .u32) a1)), (2, .one (.dat (.int .u32) s8.1)), (3, iV a3), (4, pV 0 0), (9, bV s8.2.1), (10, iV s8.2.2), (12, bV r25.1), (13, bV r25.2), (18, .one (.dat (.sl tLI) a0.2.2)), (19, iV (lenI a0.2.2)), (20, iV s8.2.2)], [(0, .box [nC a0.1, nC a0.2.1, .dat (.sl tLI) a0.2.2])], 1⟩)) (Le.re [(0, 0)] [] hX (by kernel_rfl)) hL55 ?_ (fun s23 x38 hx39 hk40 => ?_)
                · refine (qBlockX (qThen ?_))
                  obtain ⟨v26', hT28, hT17⟩ := of_bind hT17
                  refine HT.join (fun (v26 : Bool) => ⟨[(1, .one (.dat (.int .u32) a1)), (2, .one (.dat (.int .u32) s8.1)), (3, iV a3), (4, pV 0 0), (9, bV s8.2.1), (10, iV s8.2.2), (18, .one (.dat (.sl tLI) a0.2.2)), (19, iV (lenI a0.2.2)), (20, iV s8.2.2), (86, bV v26)], [(0, .box [nC a0.1, nC a0.2.1, .dat (.sl tLI) a0.2.2])], 1⟩) (fun v => v = v26') (fun v26 hv27 => ?_) (fun cont => ?_)
                  · subst hv27
                    rcases of_bif hT17 with ⟨hb29, hT17⟩ | ⟨hb29, hT17⟩
                    · refine HT.cond1 rfl hb29 ?_
                      obtain ⟨hg30, hT17⟩ := of_guard hT17
                      refine HT.rg2 (oHs 5) ⟨[(1, .one (.dat (.int .u32) a1)), (2, .one (.dat (.int .u32) (IntKind.wrap .u32 (BitVec.ofInt (IntKind.bits .u32) s8.1 ||| BitVec.ofInt (IntKind.bits .u32) (IntKind.wrap .u32 ((1 : Int) * 2 ^ (min (Int.toNat s8.2.2) (IntKind.bits .u32))))).toNat))), (3, iV a3), (4, pV 0 0), (18, .one (.dat (.sl tLI) a0.2.2)), (19, iV (lenI a0.2.2)), (20, iV s8.2.2)], [(0, .box [nC a0.1, nC a0.2.1, .dat (.sl tLI) a0.2.2])], 1⟩ hX (by kernel_rfl) (allCons hg30 allNil) ?_
                      obtain ⟨q31, hq32, hT17⟩ := of_bind hT17
                      have hq32 := of_some2 hq32
                      refine (Le.cv (s := ⟨[(0, 0)], [], [], false⟩) (own := []) (ps := [a1 = a1, q31 = (IntKind.wrap .u32 (BitVec.ofInt (IntKind.bits .u32) s8.1 ||| BitVec.ofInt (IntKind.bits .u32) (IntKind.wrap .u32 ((1 : Int) * 2 ^ (min (Int.toNat s8.2.2) (IntKind.bits .u32))))).toNat), a3 = a3, a0.2.2 = a0.2.2, (lenI a0.2.2) = (lenI a0.2.2), s8.2.2 = s8.2.2, a0.1 = a0.1, a0.2.1 = a0.2.1, a0.2.2 = a0.2.2]) (st' := ⟨[(1, .one (.dat (.int .u32) a1)), (2, .one (.dat (.int .u32) q31)), (3, iV a3), (4, pV 0 0), (18, .one (.dat (.sl tLI) a0.2.2)), (19, iV (lenI a0.2.2)), (20, iV s8.2.2)], [(0, .box [nC a0.1, nC a0.2.1, .dat (.sl tLI) a0.2.2])], 1⟩) hO (fun h => by cases h) (by kernel_rfl) ⟨rfl, hq32, rfl, rfl, rfl, rfl, rfl, rfl, rfl, trivial⟩).ht ?_
                      exact HT.rgK [oH] [(0, 0)] [] hX (by kernel_rfl) allNil (fun _ h => (qBlock (qThen (h.ht (cont (q31, true) (of_some hT17))))))
                    · refine HT.cond0 rfl hb29 ?_
                      refine HT.skip (qBlock (qThen ?_))
                      exact (Le.re [(0, 0)] [] hX (by kernel_rfl)).ht (cont (s8.1, s8.2.1) (of_some hT17))
                  · obtain ⟨hg33, hT28⟩ := of_guard hT28
                    rcases of_bif hT28 with ⟨hb34, hT28⟩ | ⟨hb34, hT28⟩
                    · rcases of_bif hT28 with ⟨hb35, hT28⟩ | ⟨hb35, hT28⟩
                      · exact HT.rgK [oH, oH, oH, oH, oH, oH, oH, oH, ⟨some true, .no⟩, ⟨none, .tv true⟩, oH, ⟨some true, .no⟩, ⟨some true, .no⟩, ⟨some true, .no⟩, ⟨some true, .no⟩, ⟨some true, .no⟩, ⟨some true, .no⟩, ⟨some true, .no⟩, ⟨some true, .no⟩, oH, ⟨some true, .no⟩, ⟨none, .tv true⟩] [(0, 0)] [] hX (by kernel_rfl) (allCons hg33 (allCons hb34 (allCons hb34 (allCons hb35 (allCons hb35 (allCons hb35 (allCons hb35 (allCons hb35 (allCons hb35 (allCons hb35 (allCons hb35 (allCons hb35 (allCons hb35 allNil))))))))))))) (fun _ h => (qThen (h.ht (cont true (of_some hT28)))))
                      · rcases of_bif hT28 with ⟨hb36, hT28⟩ | ⟨hb36, hT28⟩
                        · exact HT.rgK [oH, oH, oH, oH, oH, oH, oH, oH, ⟨some true, .no⟩, ⟨none, .tv true⟩, oH, ⟨some false, .no⟩, ⟨some false, .no⟩, ⟨some false, .no⟩, ⟨some false, .no⟩, ⟨some false, .no⟩, ⟨some false, .no⟩, ⟨some false, .no⟩, ⟨some false, .no⟩, ⟨some true, .no⟩, ⟨some false, .tv true⟩, ⟨none, .tv false⟩] [(0, 0)] [] hX (by kernel_rfl) (allCons hg33 (allCons hb34 (allCons hb34 (allCons hb35 (allCons hb35 (allCons hb35 (allCons hb35 (allCons hg33 (allCons hb35 (allCons hb35 (allCons hb35 (allCons hb35 (allCons hb36 (allCons hb35 (allCons hb36 (allCons hb35 allNil)))))))))))))))) (fun _ h => (qThen (h.ht (cont r24.2 (of_some hT28)))))
                        · exact HT.rgK [oH, oH, oH, oH, oH, oH, oH, oH, ⟨some true, .no⟩, ⟨none, .tv true⟩, oH, ⟨some false, .no⟩, ⟨some false, .no⟩, ⟨some false, .no⟩, ⟨some false, .no⟩, ⟨some false, .no⟩, ⟨some false, .no⟩, ⟨some false, .no⟩, ⟨some false, .no⟩, ⟨some false, .no⟩, ⟨some false, .tv false⟩, ⟨none, .tv false⟩] [(0, 0)] [] hX (by kernel_rfl) (allCons hg33 (allCons hb34 (allCons hb34 (allCons hb35 (allCons hb35 (allCons hb35 (allCons hb35 (allCons hg33 (allCons hb35 (allCons hb35 (allCons hb35 (allCons hb35 (allCons hb36 (allCons hb35 (allCons hb36 (allCons hb35 allNil)))))))))))))))) (fun _ h => (qThen (h.ht (cont false (of_some hT28)))))
                    · rcases of_bif hT28 with ⟨hb37, hT28⟩ | ⟨hb37, hT28⟩
                      · exact HT.rgK [oH, oH, oH, oH, oH, oH, oH, oH, ⟨some false, .no⟩, ⟨none, .tv false⟩, oH, ⟨some false, .no⟩, ⟨some false, .no⟩, ⟨some false, .no⟩, ⟨some false, .no⟩, ⟨some false, .no⟩, ⟨some false, .no⟩, ⟨some false, .no⟩, ⟨some false, .no⟩, ⟨some true, .no⟩, ⟨some false, .tv true⟩, ⟨none, .tv false⟩] [(0, 0)] [] hX (by kernel_rfl) (allCons hg33 (allCons hb34 (allCons hb34 (allCons (rfl : false = false) (allCons (rfl : false = false) (allCons (rfl : false = false) (allCons (rfl : false = false) (allCons hg33 (allCons (rfl : false = false) (allCons (rfl : false = false) (allCons (rfl : false = false) (allCons (rfl : false = false) (allCons hb37 (allCons (rfl : false = false) (allCons hb37 (allCons (rfl : false = false) allNil)))))))))))))))) (fun _ h => (qThen (h.ht (cont r24.2 (of_some hT28)))))
                      · exact HT.rgK [oH, oH, oH, oH, oH, oH, oH, oH, ⟨some false, .no⟩, ⟨none, .tv false⟩, oH, ⟨some false, .no⟩, ⟨some false, .no⟩, ⟨some false, .no⟩, ⟨some false, .no⟩, ⟨some false, .no⟩, ⟨some false, .no⟩, ⟨some false, .no⟩, ⟨some false, .no⟩, ⟨some false, .no⟩, ⟨some false, .tv false⟩, ⟨none, .tv false⟩] [(0, 0)] [] hX (by kernel_rfl) (allCons hg33 (allCons hb34 (allCons hb34 (allCons (rfl : false = false) (allCons (rfl : false = false) (allCons (rfl : false = false) (allCons (rfl : false = false) (allCons hg33 (allCons (rfl : false = false) (allCons (rfl : false = false) (allCons (rfl : false = false) (allCons (rfl : false = false) (allCons hb37 (allCons (rfl : false = false) (allCons hb37 (allCons (rfl : false = false) allNil)))))))))))))))) (fun _ h => (qThen (h.ht (cont false (of_some hT28)))))
                · refine HT.rg2 [oH] ⟨[(1, .one (.dat (.int .u32) a1)), (2, .one (.dat (.int .u32) s8.1)), (3, iV a3), (4, pV 0 0), (9, bV s8.2.1), (10, iV s8.2.2), (12, bV s23.1), (13, bV s23.2.1), (18, .one (.dat (.sl tLI) a0.2.2)), (19, iV (lenI a0.2.2)), (20, iV s8.2.2), (37, nV (List.getD a0.2.2 (Int.toNat s8.2.2) ([] : List Int))), (38, iV (lenI (List.getD a0.2.2 (Int.toNat s8.2.2) ([] : List Int)))), (39, iV s23.2.2), (40, bV (decide (s23.2.2 < (lenI (List.getD a0.2.2 (Int.toNat s8.2.2) ([] : List Int))))))], [(0, .box [nC a0.1, nC a0.2.1, .dat (.sl tLI) a0.2.2])], 1⟩ hX (by kernel_rfl) allNil ?_
                  refine HT.seq ?_
                  rcases of_bif hx39 with ⟨hb41, hx39⟩ | ⟨hb41, hx39⟩
                  · refine HT.cond1 rfl hb41 ?_
                    refine HT.skip (qThen ?_)
                    obtain ⟨v42', hT44, hx39⟩ := of_bind hx39
                    refine HT.join (fun (v42 : Bool × Bool) => ⟨[(1, .one (.dat (.int .u32) a1)), (2, .one (.dat (.int .u32) s8.1)), (3, iV a3), (4, pV 0 0), (9, bV s8.2.1), (10, iV s8.2.2), (12, bV v42.1), (13, bV v42.2), (18, .one (.dat (.sl tLI) a0.2.2)), (19, iV (lenI a0.2.2)), (20, iV s8.2.2), (37, nV (List.getD a0.2.2 (Int.toNat s8.2.2) ([] : List Int))), (38, iV (lenI (List.getD a0.2.2 (Int.toNat s8.2.2) ([] : List Int)))), (39, iV s23.2.2)], [(0, .box [nC a0.1, nC a0.2.1, .dat (.sl tLI) a0.2.2])], 1⟩) (fun v => v = v42') (fun v42 hv43 => ?_) (fun cont => ?_)
                    · subst hv43
                      have hx39 := of_some hx39
                      subst hx39
                      exact HT.rgK (oHs 2) [(0, 0)] [] hX (by kernel_rfl) allNil (fun _ h => (qLoopN ⟨(v42.1, v42.2, (wadd .i64 s23.2.2 (1 : Int))), rfl, h⟩))
                    · refine HT.block ?_
                      obtain ⟨hg45, hT44⟩ := of_guard hT44
                      refine HT.rg2 (oHs 3) ⟨[(1, .one (.dat (.int .u32) a1)), (2, .one (.dat (.int .u32) s8.1)), (3, iV a3), (4, pV 0 0), (9, bV s8.2.1), (10, iV s8.2.2), (12, bV s23.1), (13, bV s23.2.1), (15, iV (List.getD (List.getD a0.2.2 (Int.toNat s8.2.2) ([] : List Int)) (Int.toNat s23.2.2) (0 : Int))), (18, .one (.dat (.sl tLI) a0.2.2)), (19, iV (lenI a0.2.2)), (20, iV s8.2.2), (37, nV (List.getD a0.2.2 (Int.toNat s8.2.2) ([] : List Int))), (38, iV (lenI (List.getD a0.2.2 (Int.toNat s8.2.2) ([] : List Int)))), (39, iV s23.2.2)], [(0, .box [nC a0.1, nC a0.2.1, .dat (.sl tLI) a0.2.2])], 1⟩ hX (by kernel_rfl) (allCons hg45 allNil) ?_
                      obtain ⟨q46, hq47, hT44⟩ := of_bind hT44
                      have hq47 := of_some2 hq47
                      refine (Le.cv (s := ⟨[(0, 0)], [], [], false⟩) (own := []) (ps := [a1 = a1, s8.1 = s8.1, a3 = a3, s8.2.1 = s8.2.1, s8.2.2 = s8.2.2, s23.1 = s23.1, s23.2.1 = s23.2.1, q46 = (List.getD (List.getD a0.2.2 (Int.toNat s8.2.2) ([] : List Int)) (Int.toNat s23.2.2) (0 : Int)), a0.2.2 = a0.2.2, (lenI a0.2.2) = (lenI a0.2.2), s8.2.2 = s8.2.2, (List.getD a0.2.2 (Int.toNat s8.2.2) ([] : List Int)) = (List.getD a0.2.2 (Int.toNat s8.2.2) ([] : List Int)), (lenI (List.getD a0.2.2 (Int.toNat s8.2.2) ([] : List Int))) = (lenI (List.getD a0.2.2 (Int.toNat s8.2.2) ([] : List Int))), s23.2.2 = s23.2.2, a0.1 = a0.1, a0.2.1 = a0.2.1, a0.2.2 = a0.2.2]) (st' := ⟨[(1, .one (.dat (.int .u32) a1)), (2, .one (.dat (.int .u32) s8.1)), (3, iV a3), (4, pV 0 0), (9, bV s8.2.1), (10, iV s8.2.2), (12, bV s23.1), (13, bV s23.2.1), (15, iV q46), (18, .one (.dat (.sl tLI) a0.2.2)), (19, iV (lenI a0.2.2)), (20, iV s8.2.2), (37, nV (List.getD a0.2.2 (Int.toNat s8.2.2) ([] : List Int))), (38, iV (lenI (List.getD a0.2.2 (Int.toNat s8.2.2) ([] : List Int)))), (39, iV s23.2.2)], [(0, .box [nC a0.1, nC a0.2.1, .dat (.sl tLI) a0.2.2])], 1⟩) hO (fun h => by cases h) (by kernel_rfl) ⟨rfl, rfl, rfl, rfl, rfl, rfl, rfl, hq47, rfl, rfl, rfl, rfl, rfl, rfl, rfl, rfl, rfl, trivial⟩).ht ?_
                      obtain ⟨hg48, hT44⟩ := of_guard hT44
                      refine HT.rg2 (oHs 5) ⟨[(1, .one (.dat (.int .u32) a1)), (2, .one (.dat (.int .u32) s8.1)), (3, iV a3), (4, pV 0 0), (9, bV s8.2.1), (10, iV s8.2.2), (12, bV s23.1), (13, bV s23.2.1), (15, iV q46), (18, .one (.dat (.sl tLI) a0.2.2)), (19, iV (lenI a0.2.2)), (20, iV s8.2.2), (37, nV (List.getD a0.2.2 (Int.toNat s8.2.2) ([] : List Int))), (38, iV (lenI (List.getD a0.2.2 (Int.toNat s8.2.2) ([] : List Int)))), (39, iV s23.2.2), (47, bV ((IntKind.wrap .u32 (BitVec.ofInt (IntKind.bits .u32) (Int.fdiv a1 (2 ^ (min (Int.toNat q46) (IntKind.bits .u32)))) &&& BitVec.ofInt (IntKind.bits .u32) (1 : Int)).toNat) == (1 : Int)))], [(0, .box [nC a0.1, nC a0.2.1, .dat (.sl tLI) a0.2.2])], 1⟩ hX (by kernel_rfl) (allCons hg48 allNil) ?_
                      rcases of_bif hT44 with ⟨hb49, hT44⟩ | ⟨hb49, hT44⟩
                      · refine HT.cond1 rfl hb49 ?_
                        obtain ⟨v50', hT52, hT44⟩ := of_bind hT44
                        refine HT.join (fun (v50 : Bool) => ⟨[(1, .one (.dat (.int .u32) a1)), (2, .one (.dat (.int .u32) s8.1)), (3, iV a3), (4, pV 0 0), (9, bV s8.2.1), (10, iV s8.2.2), (12, bV v50), (13, bV s23.2.1), (15, iV q46), (18, .one (.dat (.sl tLI) a0.2.2)), (19, iV (lenI a0.2.2)), (20, iV s8.2.2), (37, nV (List.getD a0.2.2 (Int.toNat s8.2.2) ([] : List Int))), (38, iV (lenI (List.getD a0.2.2 (Int.toNat s8.2.2) ([] : List Int)))), (39, iV s23.2.2)], [(0, .box [nC a0.1, nC a0.2.1, .dat (.sl tLI) a0.2.2])], 1⟩) (fun v => v = v50') (fun v50 hv51 => ?_) (fun cont => ?_)
                        · subst hv51
                          rcases of_bif hT44 with ⟨hb53, hT44⟩ | ⟨hb53, hT44⟩
                          · exact HT.rgK [oH, oH, ⟨some true, .no⟩, ⟨some true, .no⟩, ⟨some true, .no⟩, ⟨some true, .no⟩, ⟨some true, .no⟩, ⟨none, .tv true⟩, oH] [(0, 0)] [] hX (by kernel_rfl) (allCons hb53 (allCons hb53 (allCons hb53 (allCons hg48 (allCons hb53 (allCons hb53 (allCons hb53 allNil))))))) (fun _ h => (qBlock (qThen (h.ht (cont (v50, ((IntKind.wrap .u32 (BitVec.ofInt (IntKind.bits .u32) (Int.fdiv s8.1 (2 ^ (min (Int.toNat q46) (IntKind.bits .u32)))) &&& BitVec.ofInt (IntKind.bits .u32) (1 : Int)).toNat) == (1 : Int))) (of_some hT44))))))
                          · exact HT.rgK [oH, oH, ⟨some false, .no⟩, ⟨some false, .no⟩, ⟨some false, .no⟩, ⟨some false, .no⟩, ⟨some false, .no⟩, ⟨none, .tv false⟩, oH] [(0, 0)] [] hX (by kernel_rfl) (allCons hb53 (allCons hb53 (allCons hb53 (allCons hb53 (allCons hb53 (allCons hb53 allNil)))))) (fun _ h => (qBlock (qThen (h.ht (cont (v50, false) (of_some hT44))))))
                        · rcases of_bif hT52 with ⟨hb54, hT52⟩ | ⟨hb54, hT52⟩
                          · exact HT.rgK [oH, oH, ⟨some true, .no⟩, ⟨some true, .no⟩, ⟨some true, .no⟩, ⟨some true, .no⟩, ⟨some true, .no⟩, ⟨none, .tv true⟩, oH] [(0, 0)] [] hX (by kernel_rfl) (allCons hb54 (allCons hb54 (allCons hb54 (allCons hb54 (allCons hb54 (allCons hb54 allNil)))))) (fun _ h => (qThen (h.ht (cont true (of_some hT52)))))
                          · exact HT.rgK [oH, oH, ⟨some false, .no⟩, ⟨some false, .no⟩, ⟨some false, .no⟩, ⟨some false, .no⟩, ⟨some false, .no⟩, ⟨none, .tv false⟩, oH] [(0, 0)] [] hX (by kernel_rfl) (allCons hb54 (allCons hb54 (allCons hb54 (allCons hg48 (allCons hb54 (allCons hb54 (allCons hb54 allNil))))))) (fun _ h => (qThen (h.ht (cont ((IntKind.wrap .u32 (BitVec.ofInt (IntKind.bits .u32) (Int.fdiv s8.1 (2 ^ (min (Int.toNat q46) (IntKind.bits .u32)))) &&& BitVec.ofInt (IntKind.bits .u32) (1 : Int)).toNat) == (1 : Int)) (of_some hT52)))))
                      · refine HT.cond0 rfl hb49 ?_
                        refine HT.skip (qBlock (qThen ?_))
                        exact (Le.re [(0, 0)] [] hX (by kernel_rfl)).ht (cont (s23.1, s23.2.1) (of_some hT44))
                  · refine HT.cond0 rfl hb41 ?_
                    have hx39 := of_some hx39
                    subst hx39
                    exact HT.exitL (Le.re [(0, 0)] [] hX (by kernel_rfl)) (qThenE (qLoopE (hk40 (s23.1, s23.2.1) rfl)))
            · obtain ⟨hg56, hT21⟩ := of_guard hT21
              rcases of_bif hT21 with ⟨hb57, hT21⟩ | ⟨hb57, hT21⟩
              · exact HT.rgK [oH, oH, oH, oH, oH, oH, ⟨some true, .no⟩, ⟨some true, .no⟩, ⟨some true, .no⟩, ⟨some true, .no⟩, ⟨some true, .no⟩, ⟨none, .tv true⟩] [(0, 0)] [] hX (by kernel_rfl) (allCons hg56 (allCons hb57 (allCons hb57 (allCons hb57 (allCons hb57 (allCons hb57 (allCons hb57 allNil))))))) (fun _ h => (qThen (h.ht (cont true (of_some hT21)))))
              · exact HT.rgK [oH, oH, oH, oH, oH, oH, ⟨some false, .no⟩, ⟨some false, .no⟩, ⟨some false, .no⟩, ⟨some false, .no⟩, ⟨some false, .no⟩, ⟨none, .tv false⟩] [(0, 0)] [] hX (by kernel_rfl) (allCons hg56 (allCons hb57 (allCons hb57 (allCons hb57 (allCons hg56 (allCons hb57 (allCons hb57 (allCons hb57 allNil)))))))) (fun _ h => (qThen (h.ht (cont ((IntKind.wrap .u32 (BitVec.ofInt (IntKind.bits .u32) (Int.fdiv s8.1 (2 ^ (min (Int.toNat s8.2.2) (IntKind.bits .u32)))) &&& BitVec.ofInt (IntKind.bits .u32) (1 : Int)).toNat) == (1 : Int)) (of_some hT21)))))
        · refine HT.cond0 rfl hb14 ?_
          have hx12 := of_some hx12
          subst hx12
          exact HT.exitL (Le.re [(0, 0)] [] hX (by kernel_rfl)) (qThenE (qLoopE (hk13 (s8.1, s8.2.1) rfl)))
    · refine HT.cond0 rfl hb7 ?_
      have hx5 := of_some hx5
      subst hx5
      exact HT.exitL (Le.re [] [] hX (by kernel_rfl)) (qThenE (qLoopE (hk6 s1.1 rfl)))

noncomputable def impl_bitsOf_B1 (a0 : Int) (a1 : Int) (s2 : Int × List Bool) : Option ((Int × List Bool) ⊕ (List Bool)) :=
  bif (decide (s2.1 < (lenI (List.replicate (Int.toNat a1) false)))) then
    guardP ((0 : Int) ≤ s2.1) (
      guardP ((0 : Int) ≤ s2.1 ∧ s2.1 < lenI s2.2) (
        some (.inl ((wadd .i64 s2.1 (1 : Int)), (List.set s2.2 (Int.toNat s2.1) ((IntKind.wrap .u32 (BitVec.ofInt (IntKind.bits .u32) (Int.fdiv a0 (2 ^ (min (Int.toNat s2.1) (IntKind.bits .u32)))) &&& BitVec.ofInt (IntKind.bits .u32) (1 : Int)).toNat) == (1 : Int)))))))
  else
    some (.inr s2.2)

noncomputable def impl_bitsOf (a0 : Int) (a1 : Int) : Option (List Bool) :=
  guardP ((0 : Int) ≤ a1 ∧ a1 ≤ 4294967296) (
    (rounds (impl_bitsOf_B1 a0 a1) ((0 : Int), (List.replicate (Int.toNat a1) false))).bind fun r4 =>
    some r4)

theorem f56_ok {a0 : Int} {a1 : Int} {r : List Bool} (hr : impl_bitsOf a0 a1 = some r) : CallOK Try.prog 56 [.imm (.int .u32) a0, .imm tI a1] [⟨true, (.sl .bool), r⟩] [] := by
  unfold impl_bitsOf at hr
  refine CallOK.of_body (ts := [(true, (.sl .bool))]) Try.func56 rfl (by kernel_rfl) (Nat.le_of_ble_eq_true (by kernel_rfl)) fun cx hP hN hO hF => ?_
  have hO : cx.own.map Prod.fst = [] := hO
  have hX := CxIs.mk hP hN hO
  have hF := hF rfl
  show HT cx ⟨[(0, .one (.dat (.int .u32) a0)), (1, iV a1)], [], 0⟩ _ _
  refine HT.rg2 [oH] ⟨[(0, .one (.dat (.int .u32) a0)), (1, iV a1)], [], 0⟩ hX (by kernel_rfl) allNil ?_
  obtain ⟨hg1, hr⟩ := of_guard hr
  refine HT.rg2 [oH, ⟨none, .ty .bool⟩, oH] ⟨[(0, .one (.dat (.int .u32) a0)), (5, aV 0)], [(0, .seq .bool (List.replicate (Int.toNat a1) false))], 1⟩ hX (by kernel_rfl) (allCons (show (0 : Int) ≤ a1 ∧ a1 ≤ a1 ∧ a1 ≤ 4294967296 from ⟨hg1.1, Int.le_refl _, hg1.2⟩) allNil) ?_
  refine HT.seq ?_
  refine HT.rg2 (oHs 3) ⟨[(0, .one (.dat (.int .u32) a0)), (5, aV 0), (10, iV (lenI (List.replicate (Int.toNat a1) false))), (11, iV (0 : Int))], [(0, .seq .bool (List.replicate (Int.toNat a1) false))], 1⟩ hX (by kernel_rfl) allNil ?_
  refine HT.block ?_
  obtain ⟨r3, hL11, hr⟩ := of_bind hr
  refine HT.loopL (fun (s2 : Int × List Bool) => ⟨[(0, .one (.dat (.int .u32) a0)), (5, aV 0), (10, iV (lenI (List.replicate (Int.toNat a1) false))), (11, iV s2.1)], [(0, .seq .bool s2.2)], 1⟩) (fun (r4 : List Bool) => (.exit 0, ⟨[(5, aV 0)], [(0, .seq .bool r4)], 1⟩)) (Le.re [(0, 0)] [] hX (by kernel_rfl)) hL11 ?_ (fun s2 x5 hx6 hk7 => ?_)
  · refine (qBlockX (qThen ?_))
    refine HT.rg2 (oHs 2) ⟨[(4, aV 0)], [(0, .seq .bool r3)], 1⟩ hX (by kernel_rfl) allNil ?_
    have hr := of_some hr
    subst hr
    exact HT.ret ⟨[aV 0], [0], [], by kernel_rfl, by kernel_rfl, rfl, by kernel_rfl, by kernel_rfl, trivial⟩
  · refine HT.rg2 [oH] ⟨[(0, .one (.dat (.int .u32) a0)), (5, aV 0), (10, iV (lenI (List.replicate (Int.toNat a1) false))), (11, iV s2.1), (12, bV (decide (s2.1 < (lenI (List.replicate (Int.toNat a1) false)))))], [(0, .seq .bool s2.2)], 1⟩ hX (by kernel_rfl) allNil ?_
    refine HT.seq ?_
    rcases of_bif hx6 with ⟨hb8, hx6⟩ | ⟨hb8, hx6⟩
    · refine HT.cond1 rfl hb8 ?_
      refine HT.skip (qThen ?_)
      refine HT.seq ?_
      refine HT.block ?_
      refine HT.rg2 (oHs 2) ⟨[(0, .one (.dat (.int .u32) a0)), (5, aV 0), (6, iV s2.1), (10, iV (lenI (List.replicate (Int.toNat a1) false))), (11, iV s2.1)], [(0, .seq .bool s2.2)], 1⟩ hX (by kernel_rfl) allNil ?_
      obtain ⟨hg9, hx6⟩ := of_guard hx6
      obtain ⟨hg10, hx6⟩ := of_guard hx6
      refine HT.rgL (oHs 9) ⟨[(0, .one (.dat (.int .u32) a0)), (5, aV 0), (10, iV (lenI (List.replicate (Int.toNat a1) false))), (11, iV s2.1)], [(0, .seq .bool (List.set s2.2 (Int.toNat s2.1) ((IntKind.wrap .u32 (BitVec.ofInt (IntKind.bits .u32) (Int.fdiv a0 (2 ^ (min (Int.toNat s2.1) (IntKind.bits .u32)))) &&& BitVec.ofInt (IntKind.bits .u32) (1 : Int)).toNat) == (1 : Int))))], 1⟩ hX (by kernel_rfl) (allCons hg9 (allCons hg10 (allCons (natLt hg10) allNil))) (qBlock (qThen ?_))
      have hx6 := of_some hx6
      subst hx6
      exact HT.rgK (oHs 2) [(0, 0)] [] hX (by kernel_rfl) allNil (fun _ h => (qLoopN ⟨((wadd .i64 s2.1 (1 : Int)), (List.set s2.2 (Int.toNat s2.1) ((IntKind.wrap .u32 (BitVec.ofInt (IntKind.bits .u32) (Int.fdiv a0 (2 ^ (min (Int.toNat s2.1) (IntKind.bits .u32)))) &&& BitVec.ofInt (IntKind.bits .u32) (1 : Int)).toNat) == (1 : Int)))), rfl, h⟩))
    · refine HT.cond0 rfl hb8 ?_
      have hx6 := of_some hx6
      subst hx6
      exact HT.exitL (Le.re [(0, 0)] [] hX (by kernel_rfl)) (qThenE (qLoopE (hk7 s2.2 rfl)))

noncomputable def impl_indicesOf_B1 (a0 : List Bool) (s1 : Int × List Int) : Option ((Int × List Int) ⊕ (List Int)) :=
  bif (decide (s1.1 < (lenI a0))) then
    (show Option (List Int) from
      guardP ((0 : Int) ≤ s1.1 ∧ s1.1 < lenI a0) (
        bif (List.getD a0 (Int.toNat s1.1) false) then
          guardP (List.length s1.2 + List.length ([s1.1] : List Int) ≤ appMax) (
            some (s1.2 ++ ([s1.1] : List Int)))
        else
          some s1.2)).bind fun v8 =>
    some (.inl ((wadd .i64 s1.1 (1 : Int)), v8))
  else
    some (.inr s1.2)

noncomputable def impl_indicesOf (a0 : List Bool) : Option (List Int) :=
  (rounds (impl_indicesOf_B1 a0) ((0 : Int), ([] : List Int))).bind fun r3 =>
  some r3

theorem f55_ok {a0 : List Bool} {r : List Int} (hr : impl_indicesOf a0 = some r) : CallOK Try.prog 55 [.imm (.sl .bool) a0] [⟨true, tLI, r⟩] [] := by
  unfold impl_indicesOf at hr
  refine CallOK.of_body (ts := [(true, tLI)]) Try.func55 rfl (by kernel_rfl) (Nat.le_of_ble_eq_true (by kernel_rfl)) fun cx hP hN hO hF => ?_
  have hO : cx.own.map Prod.fst = [] := hO
  have hX := CxIs.mk hP hN hO
  have hF := hF rfl
  show HT cx ⟨[(0, .one (.dat (.sl .bool) a0))], [], 0⟩ _ _
  refine HT.rg2 [oH] ⟨[(0, .one (.dat (.sl .bool) a0))], [], 0⟩ hX (by kernel_rfl) allNil ?_
  refine HT.rg2 (oHs 2) ⟨[(0, .one (.dat (.sl .bool) a0)), (3, .one (.nilS))], [], 0⟩ hX (by kernel_rfl) allNil ?_
  refine HT.seq ?_
  refine HT.rg2 (oHs 3) ⟨[(3, .one (.nilS)), (7, .one (.dat (.sl .bool) a0)), (8, iV (lenI a0)), (9, iV (0 : Int))], [], 0⟩ hX (by kernel_rfl) allNil ?_
  refine HT.block ?_
  obtain ⟨r2, hL14, hr⟩ := of_bind hr
  refine HT.loopL (fun (s1 : Int × List Int) => ⟨[(3, aV 0), (7, .one (.dat (.sl .bool) a0)), (8, iV (lenI a0)), (9, iV s1.1)], [(0, .seq tI s1.2)], 1⟩) (fun (r3 : List Int) => (.exit 0, ⟨[(3, aV 0)], [(0, .seq tI r3)], 1⟩)) (Le.re [] [0] hX (by kernel_rfl)) hL14 ?_ (fun s1 x4 hx5 hk6 => ?_)
  · refine (qBlockX (qThen ?_))
    refine HT.rg2 (oHs 2) ⟨[(2, aV 0)], [(0, .seq tI r2)], 1⟩ hX (by kernel_rfl) allNil ?_
    have hr := of_some hr
    subst hr
    exact HT.ret ⟨[aV 0], [0], [], by kernel_rfl, by kernel_rfl, rfl, by kernel_rfl, by kernel_rfl, trivial⟩
  · refine HT.rg2 [oH] ⟨[(3, aV 0), (7, .one (.dat (.sl .bool) a0)), (8, iV (lenI a0)), (9, iV s1.1), (10, bV (decide (s1.1 < (lenI a0))))], [(0, .seq tI s1.2)], 1⟩ hX (by kernel_rfl) allNil ?_
    refine HT.seq ?_
    rcases of_bif hx5 with ⟨hb7, hx5⟩ | ⟨hb7, hx5⟩
    · refine HT.cond1 rfl hb7 ?_
      refine HT.skip (qThen ?_)
      obtain ⟨v8', hT10, hx5⟩ := of_bind hx5
      refine HT.join (fun (v8 : List Int) => ⟨[(3, aV 0), (7, .one (.dat (.sl .bool) a0)), (8, iV (lenI a0)), (9, iV s1.1)], [(0, .seq tI v8)], 1⟩) (fun v => v = v8') (fun v8 hv9 => ?_) (fun cont => ?_)
      · subst hv9
        have hx5 := of_some hx5
        subst hx5
        exact HT.rgK (oHs 2) [(0, 0)] [] hX (by kernel_rfl) allNil (fun _ h => (qLoopN ⟨((wadd .i64 s1.1 (1 : Int)), v8), rfl, h⟩))
      · refine HT.block ?_
        obtain ⟨hg11, hT10⟩ := of_guard hT10
        refine HT.rg2 (oHs 5) ⟨[(3, aV 0), (4, iV s1.1), (5, bV (List.getD a0 (Int.toNat s1.1) false)), (7, .one (.dat (.sl .bool) a0)), (8, iV (lenI a0)), (9, iV s1.1)], [(0, .seq tI s1.2)], 1⟩ hX (by kernel_rfl) (allCons hg11 allNil) ?_
        refine HT.rg2 [oH] ⟨[(3, aV 0), (4, iV s1.1), (7, .one (.dat (.sl .bool) a0)), (8, iV (lenI a0)), (9, iV s1.1), (14, bV (List.getD a0 (Int.toNat s1.1) false))], [(0, .seq tI s1.2)], 1⟩ hX (by kernel_rfl) allNil ?_
        rcases of_bif hT10 with ⟨hb12, hT10⟩ | ⟨hb12, hT10⟩
        · refine HT.cond1 rfl hb12 ?_
          obtain ⟨hg13, hT10⟩ := of_guard hT10
          exact HT.rgK [oH, oH, ⟨none, .ty tI⟩, ⟨none, .ty tI⟩, oH] [(2, 0)] [] hX (by kernel_rfl) (allCons hg13 allNil) (fun _ h => (qBlock (qThen (h.ht (cont (s1.2 ++ ([s1.1] : List Int)) (of_some hT10))))))
        · refine HT.cond0 rfl hb12 ?_
          refine HT.skip (qBlock (qThen ?_))
          exact (Le.re [(0, 0)] [] hX (by kernel_rfl)).ht (cont s1.2 (of_some hT10))
    · refine HT.cond0 rfl hb7 ?_
      have hx5 := of_some hx5
      subst hx5
      exact HT.exitL (Le.re [(0, 0)] [] hX (by kernel_rfl)) (qThenE (qLoopE (hk6 s1.2 rfl)))

noncomputable def impl_within (a0 : Int) (a1 : Int) (a2 : Int) : Option (Bool) :=
  (show Option (Bool) from
    bif (decide (a0 ≥ a1)) then
      some (decide (a0 ≤ a2))
    else
      some false).bind fun v1 =>
  some v1

theorem f54_ok {a0 : Int} {a1 : Int} {a2 : Int} {r : Bool} (hr : impl_within a0 a1 a2 = some r) : CallOK Try.prog 54 [.imm tI a0, .imm tI a1, .imm tI a2] [⟨false, .bool, r⟩] [] := by
  unfold impl_within at hr
  refine CallOK.of_body (ts := [(false, .bool)]) Try.func54 rfl (by kernel_rfl) (Nat.le_of_ble_eq_true (by kernel_rfl)) fun cx hP hN hO hF => ?_
  have hO : cx.own.map Prod.fst = [] := hO
  have hX := CxIs.mk hP hN hO
  have hF := hF rfl
  show HT cx ⟨[(0, iV a0), (1, iV a1), (2, iV a2)], [], 0⟩ _ _
  refine HT.rg2 [oH] ⟨[(0, iV a0), (1, iV a1), (2, iV a2)], [], 0⟩ hX (by kernel_rfl) allNil ?_
  obtain ⟨v1', hT3, hr⟩ := of_bind hr
  refine HT.join (fun (v1 : Bool) => ⟨[(6, bV v1)], [], 0⟩) (fun v => v = v1') (fun v1 hv2 => ?_) (fun cont => ?_)
  · subst hv2
    have hr := of_some hr
    subst hr
    exact HT.ret ⟨[bV v1], [], [], by kernel_rfl, by kernel_rfl, rfl, by kernel_rfl, by kernel_rfl, trivial⟩
  · rcases of_bif hT3 with ⟨hb4, hT3⟩ | ⟨hb4, hT3⟩
    · exact HT.rgK [oH, oH, oH, oH, ⟨some true, .no⟩, ⟨some true, .no⟩, ⟨some true, .no⟩, ⟨none, .tv true⟩, oH] [] [] hX (by kernel_rfl) (allCons hb4 (allCons hb4 (allCons hb4 (allCons hb4 allNil)))) (fun _ h => (qThen (h.ht (cont (decide (a0 ≤ a2)) (of_some hT3)))))
    · exact HT.rgK [oH, oH, oH, oH, ⟨some false, .no⟩, ⟨some false, .no⟩, ⟨some false, .no⟩, ⟨none, .tv false⟩, oH] [] [] hX (by kernel_rfl) (allCons hb4 (allCons hb4 (allCons hb4 (allCons hb4 allNil)))) (fun _ h => (qThen (h.ht (cont false (of_some hT3)))))

noncomputable def impl_isSet_B1 (a0 : List Int) (a1 : Int) (s1 : Int) : Option ((Int) ⊕ (Unit ⊕ Unit)) :=
  bif (decide (s1 < (lenI a0))) then
    guardP ((0 : Int) ≤ s1 ∧ s1 < lenI a0) (
      (show Option (Bool) from
        (impl_within (List.getD a0 (Int.toNat s1) (0 : Int)) (0 : Int) (wsub .i64 a1 (1 : Int))).bind fun y14 =>
        bif (!y14) then
          some true
        else
          bif (decide (s1 > (0 : Int))) then
            guardP ((0 : Int) ≤ (wsub .i64 s1 (1 : Int)) ∧ (wsub .i64 s1 (1 : Int)) < lenI a0) (
              some (decide ((List.getD a0 (Int.toNat s1) (0 : Int)) ≤ (List.getD a0 (Int.toNat (wsub .i64 s1 (1 : Int))) (0 : Int)))))
          else
            some false).bind fun v10 =>
      bif v10 then
        some (.inr (.inr ()))
      else
        some (.inl (wadd .i64 s1 (1 : Int))))
  else
    some (.inr (.inl ()))

noncomputable def impl_isSet (a0 : List Int) (a1 : Int) : Option (Bool) :=
  (rounds (impl_isSet_B1 a0 a1) (0 : Int)).bind fun r2 => match r2 with
    | .inl r3 =>
      some true
    | .inr r4 =>
      some false

theorem f53_ok {a0 : List Int} {a1 : Int} {r : Bool} (hr : impl_isSet a0 a1 = some r) : CallOK Try.prog 53 [.imm tLI a0, .imm tI a1] [⟨false, .bool, r⟩] [] := by
  unfold impl_isSet at hr
  refine CallOK.of_body (ts := [(false, .bool)]) Try.func53 rfl (by kernel_rfl) (Nat.le_of_ble_eq_true (by kernel_rfl)) fun cx hP hN hO hF => ?_
  have hO : cx.own.map Prod.fst = [] := hO
  have hX := CxIs.mk hP hN hO
  have hF := hF rfl
  show HT cx ⟨[(0, nV a0), (1, iV a1)], [], 0⟩ _ _
  refine HT.rg2 [oH] ⟨[(0, nV a0), (1, iV a1)], [], 0⟩ hX (by kernel_rfl) allNil ?_
  refine HT.seq ?_
  refine HT.rg2 (oHs 3) ⟨[(0, nV a0), (1, iV a1), (7, nV a0), (8, iV (lenI a0)), (9, iV (0 : Int))], [], 0⟩ hX (by kernel_rfl) allNil ?_
  refine HT.block ?_
  obtain ⟨r2, hL19, hr⟩ := of_bind hr
  refine HT.loopL (fun (s1 : Int) => ⟨[(0, nV a0), (1, iV a1), (7, nV a0), (8, iV (lenI a0)), (9, iV s1)], [], 0⟩) (fun (r2 : Unit ⊕ Unit) => match r2 with | .inl r3 => (.exit 0, ⟨[], [], 0⟩) | .inr r4 => (.ret, ⟨[(4, bV false)], [], 0⟩)) (Le.re [] [] hX (by kernel_rfl)) hL19 ?_ (fun s1 x5 hx6 hk7 => ?_)
  · rcases r2 with r3 | r4
    · refine (qBlockX (qThen ?_))
      refine HT.rg2 [oH] ⟨[(4, bV true)], [], 0⟩ hX (by kernel_rfl) allNil ?_
      have hr := of_some hr
      subst hr
      exact HT.ret ⟨[bV true], [], [], by kernel_rfl, by kernel_rfl, rfl, by kernel_rfl, by kernel_rfl, trivial⟩
    · have hr := of_some hr
      subst hr
      exact (qBlockR (qThenR ⟨[bV false], [], [], by kernel_rfl, by kernel_rfl, rfl, by kernel_rfl, by kernel_rfl, trivial⟩))
  · refine HT.rg2 [oH] ⟨[(0, nV a0), (1, iV a1), (7, nV a0), (8, iV (lenI a0)), (9, iV s1), (10, bV (decide (s1 < (lenI a0))))], [], 0⟩ hX (by kernel_rfl) allNil ?_
    refine HT.seq ?_
    rcases of_bif hx6 with ⟨hb8, hx6⟩ | ⟨hb8, hx6⟩
    · refine HT.cond1 rfl hb8 ?_
      refine HT.skip (qThen ?_)
      refine HT.seq ?_
      refine HT.block ?_
      obtain ⟨hg9, hx6⟩ := of_guard hx6
      refine HT.rg2 (oHs 5) ⟨[(0, nV a0), (1, iV a1), (5, iV s1), (6, iV (List.getD a0 (Int.toNat s1) (0 : Int))), (7, nV a0), (8, iV (lenI a0)), (9, iV s1)], [], 0⟩ hX (by kernel_rfl) (allCons hg9 allNil) ?_
      obtain ⟨v10', hT12, hx6⟩ := of_bind hx6
      refine HT.join (fun (v10 : Bool) => ⟨[(0, nV a0), (1, iV a1), (7, nV a0), (8, iV (lenI a0)), (9, iV s1), (31, bV v10)], [], 0⟩) (fun v => v = v10') (fun v10 hv11 => ?_) (fun cont => ?_)
      · subst hv11
        rcases of_bif hx6 with ⟨hb13, hx6⟩ | ⟨hb13, hx6⟩
        · refine HT.cond1 rfl hb13 ?_
          refine HT.rg2 [oH] ⟨[(4, bV false)], [], 0⟩ hX (by kernel_rfl) allNil ?_
          have hx6 := of_some hx6
          subst hx6
          exact HT.retL (Le.re [] [] hX (by kernel_rfl)) (qBlockR (qThenR (qLoopR (hk7 (.inr ()) rfl))))
        · refine HT.cond0 rfl hb13 ?_
          refine HT.skip (qBlock (qThen ?_))
          have hx6 := of_some hx6
          subst hx6
          exact HT.rgK (oHs 2) [] [] hX (by kernel_rfl) allNil (fun _ h => (qLoopN ⟨(wadd .i64 s1 (1 : Int)), rfl, h⟩))
      · obtain ⟨y14, hc15, hT12⟩ := of_bind hT12
        rcases of_bif hT12 with ⟨hb16, hT12⟩ | ⟨hb16, hT12⟩
        · exact HT.rgK [oH, oH, oH, ⟨none, .call [.imm tI, .imm tI, .imm tI] [⟨false, .bool, y14⟩] []⟩, oH, oH, ⟨some true, .no⟩, ⟨some true, .no⟩, ⟨some true, .no⟩, oH, oH, oH, oH, oH, oH, oH, ⟨some true, .no⟩, ⟨none, .tv true⟩] [] [] hX (by kernel_rfl) (allCons (f54_ok hc15) (allCons hb16 (allCons hb16 (allCons hb16 (allCons hb16 (allCons hb16 allNil)))))) (fun _ h => (qThen (h.ht (cont true (of_some hT12)))))
        · rcases of_bif hT12 with ⟨hb17, hT12⟩ | ⟨hb17, hT12⟩
          · obtain ⟨hg18, hT12⟩ := of_guard hT12
            exact HT.rgK [oH, oH, oH, ⟨none, .call [.imm tI, .imm tI, .imm tI] [⟨false, .bool, y14⟩] []⟩, oH, oH, ⟨some false, .no⟩, ⟨some false, .no⟩, ⟨some false, .no⟩, ⟨some true, .no⟩, ⟨some true, .no⟩, ⟨some true, .no⟩, ⟨some true, .no⟩, ⟨some true, .no⟩, ⟨some true, .no⟩, ⟨some true, .no⟩, ⟨some false, .tv true⟩, ⟨none, .tv false⟩] [] [] hX (by kernel_rfl) (allCons (f54_ok hc15) (allCons hb16 (allCons hb16 (allCons hb16 (allCons hb17 (allCons hb17 (allCons hb17 (allCons hb17 (allCons hb17 (allCons hg18 (allCons hb17 (allCons hb17 (allCons hb16 (allCons hb17 (allCons hb16 allNil))))))))))))))) (fun _ h => (qThen (h.ht (cont (decide ((List.getD a0 (Int.toNat s1) (0 : Int)) ≤ (List.getD a0 (Int.toNat (wsub .i64 s1 (1 : Int))) (0 : Int)))) (of_some hT12)))))
          · exact HT.rgK [oH, oH, oH, ⟨none, .call [.imm tI, .imm tI, .imm tI] [⟨false, .bool, y14⟩] []⟩, oH, oH, ⟨some false, .no⟩, ⟨some false, .no⟩, ⟨some false, .no⟩, ⟨some false, .no⟩, ⟨some false, .no⟩, ⟨some false, .no⟩, ⟨some false, .no⟩, ⟨some false, .no⟩, ⟨some false, .no⟩, ⟨some false, .no⟩, ⟨some false, .tv false⟩, ⟨none, .tv false⟩] [] [] hX (by kernel_rfl) (allCons (f54_ok hc15) (allCons hb16 (allCons hb16 (allCons hb16 (allCons hb17 (allCons hb17 (allCons hb17 (allCons hb17 (allCons hb17 (allCons hb17 (allCons hb17 (allCons hb16 (allCons hb17 (allCons hb16 allNil)))))))))))))) (fun _ h => (qThen (h.ht (cont false (of_some hT12)))))
    · refine HT.cond0 rfl hb8 ?_
      have hx6 := of_some hx6
      subst hx6
      exact HT.exitL (Le.re [] [] hX (by kernel_rfl)) (qThenE (qLoopE (hk7 (.inl ()) rfl)))

noncomputable def impl_ValidGame_1 (a0 : List Int) (a1 : Int) : Option (Bool) :=
  (show Option (Bool) from
    bif ((lenI a0) == (0 : Int)) then
      some true
    else
      (impl_isSet a0 a1).bind fun y5 =>
      some (!y5)).bind fun v1 =>
  some v1

theorem f75_ok {a0 : List Int} {a1 : Int} {r : Bool} (hr : impl_ValidGame_1 a0 a1 = some r) : CallOK Try.prog 75 [.imm tLI a0, .pimm tI a1] [⟨false, .bool, r⟩] [] := by
  unfold impl_ValidGame_1 at hr
  refine CallOK.of_body (ts := [(false, .bool)]) Try.func75 rfl (by kernel_rfl) (Nat.le_of_ble_eq_true (by kernel_rfl)) fun cx hP hN hO hF => ?_
  have hO : cx.own.map Prod.fst = [] := hO
  have hX := CxIs.mk hP hN hO
  have hF := hF rfl
  show HT cx ⟨[(0, nV a0), (1, .one (.ip tI a1 0))], [], 0⟩ _ _
  refine HT.rg2 [oH] ⟨[(0, nV a0), (1, .one (.ip tI a1 0))], [], 0⟩ hX (by kernel_rfl) allNil ?_
  obtain ⟨v1', hT3, hr⟩ := of_bind hr
  refine HT.join (fun (v1 : Bool) => ⟨[(3, bV v1)], [], 0⟩) (fun v => v = v1') (fun v1 hv2 => ?_) (fun cont => ?_)
  · subst hv2
    have hr := of_some hr
    subst hr
    exact HT.ret ⟨[bV v1], [], [], by kernel_rfl, by kernel_rfl, rfl, by kernel_rfl, by kernel_rfl, trivial⟩
  · rcases of_bif hT3 with ⟨hb4, hT3⟩ | ⟨hb4, hT3⟩
    · exact HT.rgK [oH, oH, oH, oH, ⟨some true, .no⟩, ⟨some true, .no⟩, ⟨some true, .no⟩, ⟨some true, .no⟩, ⟨none, .tv true⟩, oH] [] [] hX (by kernel_rfl) (allCons hb4 (allCons hb4 (allCons hb4 (allCons hb4 (allCons hb4 allNil))))) (fun _ h => (qThen (h.ht (cont true (of_some hT3)))))
    · obtain ⟨y5, hc6, hT3⟩ := of_bind hT3
      exact HT.rgK [oH, oH, oH, oH, ⟨some false, .no⟩, ⟨some false, .no⟩, ⟨some false, .call [.imm tLI, .imm tI] [⟨false, .bool, y5⟩] []⟩, ⟨some false, .no⟩, ⟨none, .tv false⟩, oH] [] [] hX (by kernel_rfl) (allCons hb4 (allCons hb4 (allCons hb4 (allCons (f53_ok hc6) (allCons hb4 (allCons hb4 allNil)))))) (fun _ h => (qThen (h.ht (cont (!y5) (of_some hT3)))))

noncomputable def slices_IndexFunc_____int64___int64_clo1_impl_ValidGame_1_B1 (a0 : List (List Int)) (a1 : Int) (s1 : Int) : Option ((Int) ⊕ (Unit ⊕ Int)) :=
  bif (decide (s1 < (lenI a0))) then
    guardP ((0 : Int) ≤ s1 ∧ s1 < lenI a0) (
      (impl_ValidGame_1 (List.getD a0 (Int.toNat s1) ([] : List Int)) a1).bind fun y10 =>
      bif y10 then
        some (.inr (.inr s1))
      else
        some (.inl (wadd .i64 s1 (1 : Int))))
  else
    some (.inr (.inl ()))

noncomputable def slices_IndexFunc_____int64___int64_clo1_impl_ValidGame_1 (a0 : List (List Int)) (a1 : Int) : Option (Int) :=
  (rounds (slices_IndexFunc_____int64___int64_clo1_impl_ValidGame_1_B1 a0 a1) (0 : Int)).bind fun r2 => match r2 with
    | .inl r3 =>
      some (-1 : Int)
    | .inr r4 =>
      some r4

theorem f86_clo1_impl_ValidGame_1_ok {a0 : List (List Int)} {a1 : Int} {r : Int} (hr : slices_IndexFunc_____int64___int64_clo1_impl_ValidGame_1 a0 a1 = some r) : CallOK Try.prog 86 [.imm (.sl tLI) a0, .clo 75 tI a1] [⟨false, tI, r⟩] [] := by
  unfold slices_IndexFunc_____int64___int64_clo1_impl_ValidGame_1 at hr
  refine CallOK.of_body (ts := [(false, tI)]) Try.func86 rfl (by kernel_rfl) (Nat.le_of_ble_eq_true (by kernel_rfl)) fun cx hP hN hO hF => ?_
  have hO : cx.own.map Prod.fst = [] := hO
  have hX := CxIs.mk hP hN hO
  have hF := hF rfl
  show HT cx ⟨[(0, .one (.dat (.sl tLI) a0)), (1, .one (.clo 75 tI a1))], [], 0⟩ _ _
  refine HT.rg2 [oH] ⟨[(0, .one (.dat (.sl tLI) a0)), (1, .one (.clo 75 tI a1))], [], 0⟩ hX (by kernel_rfl) allNil ?_
  refine HT.seq ?_
  refine HT.rg2 (oHs 3) ⟨[(0, .one (.dat (.sl tLI) a0)), (1, .one (.clo 75 tI a1)), (7, iV (lenI a0)), (8, iV (0 : Int))], [], 0⟩ hX (by kernel_rfl) allNil ?_
  refine HT.block ?_
  obtain ⟨r2, hL13, hr⟩ := of_bind hr
  refine HT.loopL (fun (s1 : Int) => ⟨[(0, .one (.dat (.sl tLI) a0)), (1, .one (.clo 75 tI a1)), (7, iV (lenI a0)), (8, iV s1)], [], 0⟩) (fun (r2 : Unit ⊕ Int) => match r2 with | .inl r3 => (.exit 0, ⟨[], [], 0⟩) | .inr r4 => (.ret, ⟨[(4, iV r4)], [], 0⟩)) (Le.re [] [] hX (by kernel_rfl)) hL13 ?_ (fun s1 x5 hx6 hk7 => ?_)
  · rcases r2 with r3 | r4
    · refine (qBlockX (qThen ?_))
      refine HT.rg2 [oH] ⟨[(4, iV (-1 : Int))], [], 0⟩ hX (by kernel_rfl) allNil ?_
      have hr := of_some hr
      subst hr
      exact HT.ret ⟨[iV (-1 : Int)], [], [], by kernel_rfl, by kernel_rfl, rfl, by kernel_rfl, by kernel_rfl, trivial⟩
    · have hr := of_some hr
      subst hr
      exact (qBlockR (qThenR ⟨[iV r4], [], [], by kernel_rfl, by kernel_rfl, rfl, by kernel_rfl, by kernel_rfl, trivial⟩))
  · refine HT.rg2 [oH] ⟨[(0, .one (.dat (.sl tLI) a0)), (1, .one (.clo 75 tI a1)), (7, iV (lenI a0)), (8, iV s1), (9, bV (decide (s1 < (lenI a0))))], [], 0⟩ hX (by kernel_rfl) allNil ?_
    refine HT.seq ?_
    rcases of_bif hx6 with ⟨hb8, hx6⟩ | ⟨hb8, hx6⟩
    · refine HT.cond1 rfl hb8 ?_
      refine HT.skip (qThen ?_)
      refine HT.seq ?_
      refine HT.block ?_
      refine HT.rg2 (oHs 2) ⟨[(0, .one (.dat (.sl tLI) a0)), (1, .one (.clo 75 tI a1)), (5, iV s1), (7, iV (lenI a0)), (8, iV s1)], [], 0⟩ hX (by kernel_rfl) allNil ?_
      obtain ⟨hg9, hx6⟩ := of_guard hx6
      obtain ⟨y10, hc11, hx6⟩ := of_bind hx6
      refine HT.rg2 [oH, oH, oH, oH, oH, ⟨none, .call [.imm tLI, .pimm tI] [⟨false, .bool, y10⟩] []⟩] ⟨[(0, .one (.dat (.sl tLI) a0)), (1, .one (.clo 75 tI a1)), (5, iV s1), (7, iV (lenI a0)), (8, iV s1), (16, bV y10)], [], 0⟩ hX (by kernel_rfl) (allCons hg9 (allCons (f75_ok hc11) allNil)) ?_
      rcases of_bif hx6 with ⟨hb12, hx6⟩ | ⟨hb12, hx6⟩
      · refine HT.cond1 rfl hb12 ?_
        refine HT.rg2 (oHs 2) ⟨[(4, iV s1)], [], 0⟩ hX (by kernel_rfl) allNil ?_
        have hx6 := of_some hx6
        subst hx6
        exact HT.retL (Le.re [] [] hX (by kernel_rfl)) (qBlockR (qThenR (qLoopR (hk7 (.inr s1) rfl))))
      · refine HT.cond0 rfl hb12 ?_
        refine HT.skip (qBlock (qThen ?_))
        have hx6 := of_some hx6
        subst hx6
        exact HT.rgK (oHs 2) [] [] hX (by kernel_rfl) allNil (fun _ h => (qLoopN ⟨(wadd .i64 s1 (1 : Int)), rfl, h⟩))
    · refine HT.cond0 rfl hb8 ?_
      have hx6 := of_some hx6
      subst hx6
      exact HT.exitL (Le.re [] [] hX (by kernel_rfl)) (qThenE (qLoopE (hk7 (.inl ()) rfl)))

noncomputable def slices_ContainsFunc_____int64___int64_clo1_impl_ValidGame_1 (a0 : List (List Int)) (a1 : Int) : Option (Bool) :=
  (slices_IndexFunc_____int64___int64_clo1_impl_ValidGame_1 a0 a1).bind fun y1 =>
  some (decide (y1 ≥ (0 : Int)))

theorem f74_clo1_impl_ValidGame_1_ok {a0 : List (List Int)} {a1 : Int} {r : Bool} (hr : slices_ContainsFunc_____int64___int64_clo1_impl_ValidGame_1 a0 a1 = some r) : CallOK Try.prog 74 [.imm (.sl tLI) a0, .clo 75 tI a1] [⟨false, .bool, r⟩] [] := by
  unfold slices_ContainsFunc_____int64___int64_clo1_impl_ValidGame_1 at hr
  refine CallOK.of_body (ts := [(false, .bool)]) Try.func74 rfl (by kernel_rfl) (Nat.le_of_ble_eq_true (by kernel_rfl)) fun cx hP hN hO hF => ?_
  have hO : cx.own.map Prod.fst = [] := hO
  have hX := CxIs.mk hP hN hO
  have hF := hF rfl
  show HT cx ⟨[(0, .one (.dat (.sl tLI) a0)), (1, .one (.clo 75 tI a1))], [], 0⟩ _ _
  refine HT.rg2 [oH] ⟨[(0, .one (.dat (.sl tLI) a0)), (1, .one (.clo 75 tI a1))], [], 0⟩ hX (by kernel_rfl) allNil ?_
  obtain ⟨y1, hc2, hr⟩ := of_bind hr
  refine HT.rg2 [oH, oH, ⟨none, .call [.imm (.sl tLI), .clo tI] [⟨false, tI, y1⟩] []⟩, oH, oH] ⟨[(4, bV (decide (y1 ≥ (0 : Int))))], [], 0⟩ hX (by kernel_rfl) (allCons (f86_clo1_impl_ValidGame_1_ok hc2) allNil) ?_
  have hr := of_some hr
  subst hr
  exact HT.ret ⟨[bV (decide (y1 ≥ (0 : Int)))], [], [], by kernel_rfl, by kernel_rfl, rfl, by kernel_rfl, by kernel_rfl, trivial⟩

noncomputable def impl_areWithin_B1 (a0 : List Int) (a1 : Int) (a2 : Int) (s1 : Int) : Option ((Int) ⊕ (Unit ⊕ Unit)) :=
  bif (decide (s1 < (lenI a0))) then
    guardP ((0 : Int) ≤ s1 ∧ s1 < lenI a0) (
      (impl_within (List.getD a0 (Int.toNat s1) (0 : Int)) a1 a2).bind fun y10 =>
      bif (!y10) then
        some (.inr (.inr ()))
      else
        some (.inl (wadd .i64 s1 (1 : Int))))
  else
    some (.inr (.inl ()))

noncomputable def impl_areWithin (a0 : List Int) (a1 : Int) (a2 : Int) : Option (Bool) :=
  (rounds (impl_areWithin_B1 a0 a1 a2) (0 : Int)).bind fun r2 => match r2 with
    | .inl r3 =>
      some true
    | .inr r4 =>
      some false

theorem f63_ok {a0 : List Int} {a1 : Int} {a2 : Int} {r : Bool} (hr : impl_areWithin a0 a1 a2 = some r) : CallOK Try.prog 63 [.imm tLI a0, .imm tI a1, .imm tI a2] [⟨false, .bool, r⟩] [] := by
  unfold impl_areWithin at hr
  refine CallOK.of_body (ts := [(false, .bool)]) Try.func63 rfl (by kernel_rfl) (Nat.le_of_ble_eq_true (by kernel_rfl)) fun cx hP hN hO hF => ?_
  have hO : cx.own.map Prod.fst = [] := hO
  have hX := CxIs.mk hP hN hO
  have hF := hF rfl
  show HT cx ⟨[(0, nV a0), (1, iV a1), (2, iV a2)], [], 0⟩ _ _
  refine HT.rg2 [oH] ⟨[(0, nV a0), (1, iV a1), (2, iV a2)], [], 0⟩ hX (by kernel_rfl) allNil ?_
  refine HT.seq ?_
  refine HT.rg2 (oHs 3) ⟨[(1, iV a1), (2, iV a2), (9, nV a0), (10, iV (lenI a0)), (11, iV (0 : Int))], [], 0⟩ hX (by kernel_rfl) allNil ?_
  refine HT.block ?_
  obtain ⟨r2, hL13, hr⟩ := of_bind hr
  refine HT.loopL (fun (s1 : Int) => ⟨[(1, iV a1), (2, iV a2), (9, nV a0), (10, iV (lenI a0)), (11, iV s1)], [], 0⟩) (fun (r2 : Unit ⊕ Unit) => match r2 with | .inl r3 => (.exit 0, ⟨[], [], 0⟩) | .inr r4 => (.ret, ⟨[(6, bV false)], [], 0⟩)) (Le.re [] [] hX (by kernel_rfl)) hL13 ?_ (fun s1 x5 hx6 hk7 => ?_)
  · rcases r2 with r3 | r4
    · refine (qBlockX (qThen ?_))
      refine HT.rg2 [oH] ⟨[(6, bV true)], [], 0⟩ hX (by kernel_rfl) allNil ?_
      have hr := of_some hr
      subst hr
      exact HT.ret ⟨[bV true], [], [], by kernel_rfl, by kernel_rfl, rfl, by kernel_rfl, by kernel_rfl, trivial⟩
    · have hr := of_some hr
      subst hr
      exact (qBlockR (qThenR ⟨[bV false], [], [], by kernel_rfl, by kernel_rfl, rfl, by kernel_rfl, by kernel_rfl, trivial⟩))
  · refine HT.rg2 [oH] ⟨[(1, iV a1), (2, iV a2), (9, nV a0), (10, iV (lenI a0)), (11, iV s1), (12, bV (decide (s1 < (lenI a0))))], [], 0⟩ hX (by kernel_rfl) allNil ?_
    refine HT.seq ?_
    rcases of_bif hx6 with ⟨hb8, hx6⟩ | ⟨hb8, hx6⟩
    · refine HT.cond1 rfl hb8 ?_
      refine HT.skip (qThen ?_)
      refine HT.seq ?_
      refine HT.block ?_
      obtain ⟨hg9, hx6⟩ := of_guard hx6
      refine HT.rg2 (oHs 3) ⟨[(1, iV a1), (2, iV a2), (8, iV (List.getD a0 (Int.toNat s1) (0 : Int))), (9, nV a0), (10, iV (lenI a0)), (11, iV s1)], [], 0⟩ hX (by kernel_rfl) (allCons hg9 allNil) ?_
      obtain ⟨y10, hc11, hx6⟩ := of_bind hx6
      refine HT.rg2 [oH, oH, oH, ⟨none, .call [.imm tI, .imm tI, .imm tI] [⟨false, .bool, y10⟩] []⟩, oH] ⟨[(1, iV a1), (2, iV a2), (9, nV a0), (10, iV (lenI a0)), (11, iV s1), (19, bV (!y10))], [], 0⟩ hX (by kernel_rfl) (allCons (f54_ok hc11) allNil) ?_
      rcases of_bif hx6 with ⟨hb12, hx6⟩ | ⟨hb12, hx6⟩
      · refine HT.cond1 rfl hb12 ?_
        refine HT.rg2 [oH] ⟨[(6, bV false)], [], 0⟩ hX (by kernel_rfl) allNil ?_
        have hx6 := of_some hx6
        subst hx6
        exact HT.retL (Le.re [] [] hX (by kernel_rfl)) (qBlockR (qThenR (qLoopR (hk7 (.inr ()) rfl))))
      · refine HT.cond0 rfl hb12 ?_
        refine HT.skip (qBlock (qThen ?_))
        have hx6 := of_some hx6
        subst hx6
        exact HT.rgK (oHs 2) [] [] hX (by kernel_rfl) allNil (fun _ h => (qLoopN ⟨(wadd .i64 s1 (1 : Int)), rfl, h⟩))
    · refine HT.cond0 rfl hb8 ?_
      have hx6 := of_some hx6
      subst hx6
      exact HT.exitL (Le.re [] [] hX (by kernel_rfl)) (qThenE (qLoopE (hk7 (.inl ()) rfl)))

noncomputable def impl_ValidGame (a0 : List Int × List Int × List (List Int)) : Option (Bool) :=
  (show Option (Bool) from
    (impl_within (lenI a0.1) (1 : Int) (16 : Int)).bind fun y7 =>
    bif (!y7) then
      some true
    else
      bif ((lenI a0.2.1) != (lenI a0.1)) then
        some true
      else
        bif ((lenI a0.2.2) != (lenI a0.1)) then
          some true
        else
          (impl_areWithin a0.1 (0 : Int) (1 : Int)).bind fun y12 =>
          bif (!y12) then
            some true
          else
            (impl_areWithin a0.2.1 (0 : Int) (8 : Int)).bind fun y15 =>
            some (!y15)).bind fun v1 =>
  bif v1 then
    some false
  else
    (slices_ContainsFunc_____int64___int64_clo1_impl_ValidGame_1 a0.2.2 (lenI a0.1)).bind fun y5 =>
    some (!y5)

theorem f48_ok {a0 : List Int × List Int × List (List Int)} {r : Bool} (hr : impl_ValidGame a0 = some r) : CallOK Try.prog 48 [.imm (.st (.pair tLI (.pair tLI (.sl tLI)))) a0] [⟨false, .bool, r⟩] [] := by
  unfold impl_ValidGame at hr
  refine CallOK.of_body (ts := [(false, .bool)]) Try.func48 rfl (by kernel_rfl) (Nat.le_of_ble_eq_true (by kernel_rfl)) fun cx hP hN hO hF => ?_
  have hO : cx.own.map Prod.fst = [] := hO
  have hX := CxIs.mk hP hN hO
  have hF := hF rfl
  show HT cx ⟨[(0, .agg [nC a0.1, nC a0.2.1, .dat (.sl tLI) a0.2.2])], [], 0⟩ _ _
  refine HT.rg2 (oHs 2) ⟨[(1, pV 0 0)], [(0, .box [nC a0.1, nC a0.2.1, .dat (.sl tLI) a0.2.2])], 1⟩ hX (by kernel_rfl) allNil ?_
  refine HT.rg2 (oHs 5) ⟨[(1, pV 0 0), (3, pV 1 0)], [(1, .box [iC (lenI a0.1)]), (0, .box [nC a0.1, nC a0.2.1, .dat (.sl tLI) a0.2.2])], 2⟩ hX (by kernel_rfl) allNil ?_
  refine HT.seq ?_
  obtain ⟨v1', hT3, hr⟩ := of_bind hr
  refine HT.join (fun (v1 : Bool) => ⟨[(1, pV 0 0), (3, pV 1 0), (35, bV v1)], [(0, .box [nC a0.1, nC a0.2.1, .dat (.sl tLI) a0.2.2]), (1, .box [iC (lenI a0.1)])], 2⟩) (fun v => v = v1') (fun v1 hv2 => ?_) (fun cont => ?_)
  · subst hv2
    rcases of_bif hr with ⟨hb4, hr⟩ | ⟨hb4, hr⟩
    · refine HT.cond1 rfl hb4 ?_
      refine HT.rg2 [oH] ⟨[(2, bV false)], [], 2⟩ hX (by kernel_rfl) allNil ?_
      have hr := of_some hr
      subst hr
      exact HT.ret (qThenR ⟨[bV false], [], [], by kernel_rfl, by kernel_rfl, rfl, by kernel_rfl, by kernel_rfl, trivial⟩)
    · refine HT.cond0 rfl hb4 ?_
      refine HT.skip (qThen ?_)
      refine (Le.rz [(0, 0)] [] (st' := ⟨[(1, pV 0 0), (3, .one (.ip tI (lenI a0.1) 0)), (35, bV v1)], [(0, .box [nC a0.1, nC a0.2.1, .dat (.sl tLI) a0.2.2])], 2⟩) hX hF (by kernel_rfl)).ht ?_
      obtain ⟨y5, hc6, hr⟩ := of_bind hr
      refine HT.rg2 [oH, oH, oH, ⟨none, .call [.imm (.sl tLI), .clo tI] [⟨false, .bool, y5⟩] []⟩, oH, oH] ⟨[(2, bV (!y5))], [], 2⟩ hX (by kernel_rfl) (allCons (f74_clo1_impl_ValidGame_1_ok hc6) allNil) ?_
      have hr := of_some hr
      subst hr
      exact HT.ret ⟨[bV (!y5)], [], [], by kernel_rfl, by kernel_rfl, rfl, by kernel_rfl, by kernel_rfl, trivial⟩
  · obtain ⟨y7, hc8, hT3⟩ := of_bind hT3
    rcases of_bif hT3 with ⟨hb9, hT3⟩ | ⟨hb9, hT3⟩
    · exact HT.rgK [oH, ⟨none, .call [.imm tI, .imm tI, .imm tI] [⟨false, .bool, y7⟩] []⟩, oH, oH, ⟨some true, .no⟩, ⟨some true, .no⟩, ⟨some true, .no⟩, ⟨some true, .no⟩, ⟨some true, .no⟩, ⟨none, .tv true⟩, oH, ⟨some true, .no⟩, ⟨some true, .no⟩, ⟨some true, .no⟩, ⟨some true, .no⟩, ⟨some true, .no⟩, ⟨none, .tv true⟩, oH, ⟨some true, .no⟩, ⟨some true, .no⟩, ⟨some true, .no⟩, ⟨some true, .no⟩, ⟨none, .tv true⟩, oH, ⟨some true, .no⟩, ⟨some true, .no⟩, ⟨some true, .no⟩, ⟨some true, .no⟩, ⟨none, .tv true⟩] [(0, 0), (1, 1)] [] hX (by kernel_rfl) (allCons (f54_ok hc8) (allCons hb9 (allCons hb9 (allCons hb9 (allCons hb9 (allCons hb9 (allCons hb9 (allCons (rfl : true = true) (allCons (rfl : true = true) (allCons (rfl : true = true) (allCons (rfl : true = true) (allCons (rfl : true = true) (allCons (rfl : true = true) (allCons (rfl : true = true) (allCons (rfl : true = true) (allCons (rfl : true = true) (allCons (rfl : true = true) (allCons (rfl : true = true) (allCons (rfl : true = true) (allCons (rfl : true = true) (allCons (rfl : true = true) (allCons (rfl : true = true) (allCons (rfl : true = true) allNil))))))))))))))))))))))) (fun _ h => (qThen (h.ht (cont true (of_some hT3)))))
    · rcases of_bif hT3 with ⟨hb10, hT3⟩ | ⟨hb10, hT3⟩
      · exact HT.rgK [oH, ⟨none, .call [.imm tI, .imm tI, .imm tI] [⟨false, .bool, y7⟩] []⟩, oH, oH, ⟨some false, .no⟩, ⟨some false, .no⟩, ⟨some false, .no⟩, ⟨some false, .no⟩, ⟨some false, .no⟩, ⟨none, .tv false⟩, oH, ⟨some true, .no⟩, ⟨some true, .no⟩, ⟨some true, .no⟩, ⟨some true, .no⟩, ⟨some true, .no⟩, ⟨none, .tv true⟩, oH, ⟨some true, .no⟩, ⟨some true, .no⟩, ⟨some true, .no⟩, ⟨some true, .no⟩, ⟨none, .tv true⟩, oH, ⟨some true, .no⟩, ⟨some true, .no⟩, ⟨some true, .no⟩, ⟨some true, .no⟩, ⟨none, .tv true⟩] [(0, 0), (1, 1)] [] hX (by kernel_rfl) (allCons (f54_ok hc8) (allCons hb9 (allCons hb9 (allCons hb9 (allCons hb9 (allCons hb9 (allCons hb9 (allCons hb10 (allCons hb10 (allCons hb10 (allCons hb10 (allCons hb10 (allCons hb10 (allCons (rfl : true = true) (allCons (rfl : true = true) (allCons (rfl : true = true) (allCons (rfl : true = true) (allCons (rfl : true = true) (allCons (rfl : true = true) (allCons (rfl : true = true) (allCons (rfl : true = true) (allCons (rfl : true = true) (allCons (rfl : true = true) allNil))))))))))))))))))))))) (fun _ h => (qThen (h.ht (cont true (of_some hT3)))))
      · rcases of_bif hT3 with ⟨hb11, hT3⟩ | ⟨hb11, hT3⟩
        · exact HT.rgK [oH, ⟨none, .call [.imm tI, .imm tI, .imm tI] [⟨false, .bool, y7⟩] []⟩, oH, oH, ⟨some false, .no⟩, ⟨some false, .no⟩, ⟨some false, .no⟩, ⟨some false, .no⟩, ⟨some false, .no⟩, ⟨none, .tv false⟩, oH, ⟨some false, .no⟩, ⟨some false, .no⟩, ⟨some false, .no⟩, ⟨some false, .no⟩, ⟨some false, .no⟩, ⟨none, .tv false⟩, oH, ⟨some true, .no⟩, ⟨some true, .no⟩, ⟨some true, .no⟩, ⟨some true, .no⟩, ⟨none, .tv true⟩, oH, ⟨some true, .no⟩, ⟨some true, .no⟩, ⟨some true, .no⟩, ⟨some true, .no⟩, ⟨none, .tv true⟩] [(0, 0), (1, 1)] [] hX (by kernel_rfl) (allCons (f54_ok hc8) (allCons hb9 (allCons hb9 (allCons hb9 (allCons hb9 (allCons hb9 (allCons hb9 (allCons hb10 (allCons hb10 (allCons hb10 (allCons hb10 (allCons hb10 (allCons hb10 (allCons hb11 (allCons hb11 (allCons hb11 (allCons hb11 (allCons hb11 (allCons (rfl : true = true) (allCons (rfl : true = true) (allCons (rfl : true = true) (allCons (rfl : true = true) (allCons (rfl : true = true) allNil))))))))))))))))))))))) (fun _ h => (qThen (h.ht (cont true (of_some hT3)))))
        · obtain ⟨y12, hc13, hT3⟩ := of_bind hT3
          rcases of_bif hT3 with ⟨hb14, hT3⟩ | ⟨hb14, hT3⟩
          · exact HT.rgK [oH, ⟨none, .call [.imm tI, .imm tI, .imm tI] [⟨false, .bool, y7⟩] []⟩, oH, oH, ⟨some false, .no⟩, ⟨some false, .no⟩, ⟨some false, .no⟩, ⟨some false, .no⟩, ⟨some false, .no⟩, ⟨none, .tv false⟩, oH, ⟨some false, .no⟩, ⟨some false, .no⟩, ⟨some false, .no⟩, ⟨some false, .no⟩, ⟨some false, .no⟩, ⟨none, .tv false⟩, oH, ⟨some false, .no⟩, ⟨some false, .no⟩, ⟨some false, .call [.imm tLI, .imm tI, .imm tI] [⟨false, .bool, y12⟩] []⟩, ⟨some false, .no⟩, ⟨none, .tv false⟩, oH, ⟨some true, .no⟩, ⟨some true, .no⟩, ⟨some true, .no⟩, ⟨some true, .no⟩, ⟨none, .tv true⟩] [(0, 0), (1, 1)] [] hX (by kernel_rfl) (allCons (f54_ok hc8) (allCons hb9 (allCons hb9 (allCons hb9 (allCons hb9 (allCons hb9 (allCons hb9 (allCons hb10 (allCons hb10 (allCons hb10 (allCons hb10 (allCons hb10 (allCons hb10 (allCons hb11 (allCons hb11 (allCons hb11 (allCons (f63_ok hc13) (allCons hb11 (allCons hb11 (allCons hb14 (allCons hb14 (allCons hb14 (allCons hb14 (allCons hb14 allNil)))))))))))))))))))))))) (fun _ h => (qThen (h.ht (cont true (of_some hT3)))))
          · obtain ⟨y15, hc16, hT3⟩ := of_bind hT3
            exact HT.rgK [oH, ⟨none, .call [.imm tI, .imm tI, .imm tI] [⟨false, .bool, y7⟩] []⟩, oH, oH, ⟨some false, .no⟩, ⟨some false, .no⟩, ⟨some false, .no⟩, ⟨some false, .no⟩, ⟨some false, .no⟩, ⟨none, .tv false⟩, oH, ⟨some false, .no⟩, ⟨some false, .no⟩, ⟨some false, .no⟩, ⟨some false, .no⟩, ⟨some false, .no⟩, ⟨none, .tv false⟩, oH, ⟨some false, .no⟩, ⟨some false, .no⟩, ⟨some false, .call [.imm tLI, .imm tI, .imm tI] [⟨false, .bool, y12⟩] []⟩, ⟨some false, .no⟩, ⟨none, .tv false⟩, oH, ⟨some false, .no⟩, ⟨some false, .no⟩, ⟨some false, .call [.imm tLI, .imm tI, .imm tI] [⟨false, .bool, y15⟩] []⟩, ⟨some false, .no⟩, ⟨none, .tv false⟩] [(0, 0), (1, 1)] [] hX (by kernel_rfl) (allCons (f54_ok hc8) (allCons hb9 (allCons hb9 (allCons hb9 (allCons hb9 (allCons hb9 (allCons hb9 (allCons hb10 (allCons hb10 (allCons hb10 (allCons hb10 (allCons hb10 (allCons hb10 (allCons hb11 (allCons hb11 (allCons hb11 (allCons (f63_ok hc13) (allCons hb11 (allCons hb11 (allCons hb14 (allCons hb14 (allCons hb14 (allCons (f63_ok hc16) (allCons hb14 (allCons hb14 allNil))))))))))))))))))))))))) (fun _ h => (qThen (h.ht (cont (!y15) (of_some hT3)))))

noncomputable def impl_ReachOf_B1 (a1 : List Int) (s5 : Int × Int) : Option ((Int × Int) ⊕ (Int)) :=
  bif (decide (s5.2 < (lenI a1))) then
    guardP ((0 : Int) ≤ s5.2 ∧ s5.2 < lenI a1) (
      guardP ((0 : Int) ≤ (List.getD a1 (Int.toNat s5.2) (0 : Int))) (
        some (.inl ((IntKind.wrap .u32 (BitVec.ofInt (IntKind.bits .u32) s5.1 ||| BitVec.ofInt (IntKind.bits .u32) (IntKind.wrap .u32 ((1 : Int) * 2 ^ (min (Int.toNat (List.getD a1 (Int.toNat s5.2) (0 : Int))) (IntKind.bits .u32))))).toNat), (wadd .i64 s5.2 (1 : Int))))))
  else
    some (.inr s5.1)

noncomputable def impl_ReachOf (a0 : List Int × List Int × List (List Int)) (a1 : List Int) (a2 : Int) : Option (List Int × Bool) :=
  (show Option (Bool) from
    (impl_ValidGame (a0.1, a0.2.1, a0.2.2)).bind fun y23 =>
    bif (!y23) then
      some true
    else
      (impl_isSet a1 (lenI a0.1)).bind fun y26 =>
      bif (!y26) then
        some true
      else
        (impl_within a2 (0 : Int) (1 : Int)).bind fun y29 =>
        some (!y29)).bind fun v1 =>
  bif v1 then
    some (([] : List Int), false)
  else
    (rounds (impl_ReachOf_B1 a1) ((0 : Int), (0 : Int))).bind fun r7 =>
    (impl_Game_all (a0.1, a0.2.1, a0.2.2)).bind fun y8 =>
    (impl_Game_reach (a0.1, a0.2.1, a0.2.2) y8 r7 a2).bind fun y10 =>
    (impl_bitsOf y10 (lenI a0.1)).bind fun y12 =>
    (impl_indicesOf y12).bind fun y14 =>
    some (y14, true)

theorem f19_ok {a0 : List Int × List Int × List (List Int)} {a1 : List Int} {a2 : Int} {r : List Int × Bool} (hr : impl_ReachOf a0 a1 a2 = some r) : CallOK Try.prog 19 [.imm (.st (.pair tLI (.pair tLI (.sl tLI)))) a0, .imm tLI a1, .imm tI a2] [⟨true, tLI, r.1⟩, ⟨false, .bool, r.2⟩] [] := by
  unfold impl_ReachOf at hr
  refine CallOK.of_body (ts := [(true, tLI), (false, .bool)]) Try.func19 rfl (by kernel_rfl) (Nat.le_of_ble_eq_true (by kernel_rfl)) fun cx hP hN hO hF => ?_
  have hO : cx.own.map Prod.fst = [] := hO
  have hX := CxIs.mk hP hN hO
  have hF := hF rfl
  show HT cx ⟨[(0, .agg [nC a0.1, nC a0.2.1, .dat (.sl tLI) a0.2.2]), (1, nV a1), (2, iV a2)], [], 0⟩ _ _
  refine HT.rg2 (oHs 3) ⟨[(1, nV a1), (2, iV a2), (3, pV 0 0)], [(0, .box [nC a0.1, nC a0.2.1, .dat (.sl tLI) a0.2.2])], 1⟩ hX (by kernel_rfl) allNil ?_
  refine HT.seq ?_
  obtain ⟨v1', hT3, hr⟩ := of_bind hr
  refine HT.join (fun (v1 : Bool) => ⟨[(1, nV a1), (2, iV a2), (3, pV 0 0), (26, bV v1)], [(0, .box [nC a0.1, nC a0.2.1, .dat (.sl tLI) a0.2.2])], 1⟩) (fun v => v = v1') (fun v1 hv2 => ?_) (fun cont => ?_)
  · subst hv2
    rcases of_bif hr with ⟨hb4, hr⟩ | ⟨hb4, hr⟩
    · refine HT.cond1 rfl hb4 ?_
      refine HT.rg2 (oHs 2) ⟨[(6, .one (.nilS)), (7, bV false)], [], 1⟩ hX (by kernel_rfl) allNil ?_
      have hr := of_some hr
      subst hr
      exact HT.ret (qThenR ⟨[.one (.nilS), bV false], [], [], by kernel_rfl, by kernel_rfl, rfl, by kernel_rfl, by kernel_rfl, trivial⟩)
    · refine HT.cond0 rfl hb4 ?_
      refine HT.skip (qThen ?_)
      refine HT.rg2 [oH] ⟨[(1, nV a1), (2, iV a2), (3, pV 0 0), (8, .one (.dat (.int .u32) (0 : Int)))], [(0, .box [nC a0.1, nC a0.2.1, .dat (.sl tLI) a0.2.2])], 1⟩ hX (by kernel_rfl) allNil ?_
      refine HT.seq ?_
      refine HT.rg2 (oHs 3) ⟨[(2, iV a2), (3, pV 0 0), (8, .one (.dat (.int .u32) (0 : Int))), (27, nV a1), (28, iV (lenI a1)), (29, iV (0 : Int))], [(0, .box [nC a0.1, nC a0.2.1, .dat (.sl tLI) a0.2.2])], 1⟩ hX (by kernel_rfl) allNil ?_
      refine HT.block ?_
      obtain ⟨r6, hL22, hr⟩ := of_bind hr
      refine HT.loopL (fun (s5 : Int × Int) => ⟨[(2, iV a2), (3, pV 0 0), (8, .one (.dat (.int .u32) s5.1)), (27, nV a1), (28, iV (lenI a1)), (29, iV s5.2)], [(0, .box [nC a0.1, nC a0.2.1, .dat (.sl tLI) a0.2.2])], 1⟩) (fun (r7 : Int) => (.exit 0, ⟨[(2, iV a2), (3, pV 0 0), (8, .one (.dat (.int .u32) r7))], [(0, .box [nC a0.1, nC a0.2.1, .dat (.sl tLI) a0.2.2])], 1⟩)) (Le.re [(0, 0)] [] hX (by kernel_rfl)) hL22 ?_ (fun s5 x16 hx17 hk18 => ?_)
      · refine (qBlockX (qThen ?_))
        obtain ⟨y8, hc9, hr⟩ := of_bind hr
        obtain ⟨y10, hc11, hr⟩ := of_bind hr
        obtain ⟨y12, hc13, hr⟩ := of_bind hr
        obtain ⟨y14, hc15, hr⟩ := of_bind hr
        refine HT.dr2 9 [⟨oH, []⟩, ⟨oH, []⟩, ⟨⟨none, .call [.imm (.st (.pair tLI (.pair tLI (.sl tLI))))] [⟨false, (.int .u32), y8⟩] []⟩, [1]⟩, ⟨oH, []⟩, ⟨oH, []⟩, ⟨⟨none, .call [.imm (.st (.pair tLI (.pair tLI (.sl tLI)))), .imm (.int .u32), .imm (.int .u32), .imm tI] [⟨false, (.int .u32), y10⟩] []⟩, [0, 1, 2, 3, 4]⟩, ⟨oH, []⟩, ⟨oH, [6]⟩, ⟨oH, [6, 7]⟩] [[0, 1, 2, 3, 4, 5, 6, 7, 8], [0, 1, 2, 3, 4, 5, 6, 7, 8, 9], [0, 1, 2, 3, 4, 5, 6, 7, 8, 9, 10], [0, 1, 2, 3, 4, 5, 6, 7, 8, 9, 10, 11]] [⟨none, .call [.imm (.int .u32), .imm tI] [⟨true, (.sl .bool), y12⟩] []⟩, ⟨none, .call [.imm (.sl .bool)] [⟨true, tLI, y14⟩] []⟩, oH, oH] ⟨[(6, aV 2), (7, bV true)], [(2, .seq tI y14)], 3⟩ hX (by kernel_rfl) (by kernel_rfl) (allCons (f58_ok hc9) (allCons (f57_ok hc11) (allCons (f56_ok hc13) (allCons (f55_ok hc15) allNil)))) ?_
        have hr := of_some hr
        subst hr
        exact HT.ret ⟨[aV 2, bV true], [2], [], by kernel_rfl, by kernel_rfl, rfl, by kernel_rfl, by kernel_rfl, trivial⟩
      · refine HT.rg2 [oH] ⟨[(2, iV a2), (3, pV 0 0), (8, .one (.dat (.int .u32) s5.1)), (27, nV a1), (28, iV (lenI a1)), (29, iV s5.2), (30, bV (decide (s5.2 < (lenI a1))))], [(0, .box [nC a0.1, nC a0.2.1, .dat (.sl tLI) a0.2.2])], 1⟩ hX (by kernel_rfl) allNil ?_
        refine HT.seq ?_
        rcases of_bif hx17 with ⟨hb19, hx17⟩ | ⟨hb19, hx17⟩
        · refine HT.cond1 rfl hb19 ?_
          refine HT.skip (qThen ?_)
          refine HT.seq ?_
          refine HT.block ?_
          obtain ⟨hg20, hx17⟩ := of_guard hx17
          refine HT.rg2 (oHs 3) ⟨[(2, iV a2), (3, pV 0 0), (8, .one (.dat (.int .u32) s5.1)), (10, iV (List.getD a1 (Int.toNat s5.2) (0 : Int))), (27, nV a1), (28, iV (lenI a1)), (29, iV s5.2)], [(0, .box [nC a0.1, nC a0.2.1, .dat (.sl tLI) a0.2.2])], 1⟩ hX (by kernel_rfl) (allCons hg20 allNil) ?_
          obtain ⟨hg21, hx17⟩ := of_guard hx17
          refine HT.rgL (oHs 5) ⟨[(2, iV a2), (3, pV 0 0), (8, .one (.dat (.int .u32) (IntKind.wrap .u32 (BitVec.ofInt (IntKind.bits .u32) s5.1 ||| BitVec.ofInt (IntKind.bits .u32) (IntKind.wrap .u32 ((1 : Int) * 2 ^ (min (Int.toNat (List.getD a1 (Int.toNat s5.2) (0 : Int))) (IntKind.bits .u32))))).toNat))), (27, nV a1), (28, iV (lenI a1)), (29, iV s5.2)], [(0, .box [nC a0.1, nC a0.2.1, .dat (.sl tLI) a0.2.2])], 1⟩ hX (by kernel_rfl) (allCons hg21 allNil) (qBlock (qThen ?_))
          have hx17 := of_some hx17
          subst hx17
          exact HT.rgK (oHs 2) [(0, 0)] [] hX (by kernel_rfl) allNil (fun _ h => (qLoopN ⟨((IntKind.wrap .u32 (BitVec.ofInt (IntKind.bits .u32) s5.1 ||| BitVec.ofInt (IntKind.bits .u32) (IntKind.wrap .u32 ((1 : Int) * 2 ^ (min (Int.toNat (List.getD a1 (Int.toNat s5.2) (0 : Int))) (IntKind.bits .u32))))).toNat), (wadd .i64 s5.2 (1 : Int))), rfl, h⟩))
        · refine HT.cond0 rfl hb19 ?_
          have hx17 := of_some hx17
          subst hx17
          exact HT.exitL (Le.re [(0, 0)] [] hX (by kernel_rfl)) (qThenE (qLoopE (hk18 s5.1 rfl)))
  · obtain ⟨y23, hc24, hT3⟩ := of_bind hT3
    rcases of_bif hT3 with ⟨hb25, hT3⟩ | ⟨hb25, hT3⟩
    · exact HT.rgK [oH, ⟨none, .call [.imm (.st (.pair tLI (.pair tLI (.sl tLI))))] [⟨false, .bool, y23⟩] []⟩, oH, oH, ⟨some true, .no⟩, ⟨some true, .no⟩, ⟨some true, .no⟩, ⟨some true, .no⟩, ⟨some true, .no⟩, ⟨some true, .no⟩, ⟨none, .tv true⟩, oH, ⟨some true, .no⟩, ⟨some true, .no⟩, ⟨some true, .no⟩, ⟨none, .tv true⟩] [(0, 0)] [] hX (by kernel_rfl) (allCons (f48_ok hc24) (allCons hb25 (allCons hb25 (allCons hb25 (allCons hb25 (allCons hb25 (allCons hb25 (allCons hb25 (allCons (rfl : true = true) (allCons (rfl : true = true) (allCons (rfl : true = true) (allCons (rfl : true = true) allNil)))))))))))) (fun _ h => (qThen (h.ht (cont true (of_some hT3)))))
    · obtain ⟨y26, hc27, hT3⟩ := of_bind hT3
      rcases of_bif hT3 with ⟨hb28, hT3⟩ | ⟨hb28, hT3⟩
      · exact HT.rgK [oH, ⟨none, .call [.imm (.st (.pair tLI (.pair tLI (.sl tLI))))] [⟨false, .bool, y23⟩] []⟩, oH, oH, ⟨some false, .no⟩, ⟨some false, .no⟩, ⟨some false, .no⟩, ⟨some false, .no⟩, ⟨some false, .call [.imm tLI, .imm tI] [⟨false, .bool, y26⟩] []⟩, ⟨some false, .no⟩, ⟨none, .tv false⟩, oH, ⟨some true, .no⟩, ⟨some true, .no⟩, ⟨some true, .no⟩, ⟨none, .tv true⟩] [(0, 0)] [] hX (by kernel_rfl) (allCons (f48_ok hc24) (allCons hb25 (allCons hb25 (allCons hb25 (allCons hb25 (allCons hb25 (allCons (f53_ok hc27) (allCons hb25 (allCons hb25 (allCons hb28 (allCons hb28 (allCons hb28 (allCons hb28 allNil))))))))))))) (fun _ h => (qThen (h.ht (cont true (of_some hT3)))))
      · obtain ⟨y29, hc30, hT3⟩ := of_bind hT3
        exact HT.rgK [oH, ⟨none, .call [.imm (.st (.pair tLI (.pair tLI (.sl tLI))))] [⟨false, .bool, y23⟩] []⟩, oH, oH, ⟨some false, .no⟩, ⟨some false, .no⟩, ⟨some false, .no⟩, ⟨some false, .no⟩, ⟨some false, .call [.imm tLI, .imm tI] [⟨false, .bool, y26⟩] []⟩, ⟨some false, .no⟩, ⟨none, .tv false⟩, oH, ⟨some false, .no⟩, ⟨some false, .call [.imm tI, .imm tI, .imm tI] [⟨false, .bool, y29⟩] []⟩, ⟨some false, .no⟩, ⟨none, .tv false⟩] [(0, 0)] [] hX (by kernel_rfl) (allCons (f48_ok hc24) (allCons hb25 (allCons hb25 (allCons hb25 (allCons hb25 (allCons hb25 (allCons (f53_ok hc27) (allCons hb25 (allCons hb25 (allCons hb28 (allCons hb28 (allCons (f54_ok hc30) (allCons hb28 (allCons hb28 allNil)))))))))))))) (fun _ h => (qThen (h.ht (cont (!y29) (of_some hT3)))))

noncomputable def laws_eqInt64S_B1 (a0 : List Int) (a1 : List Int) (s2 : Int) : Option ((Int) ⊕ (Unit ⊕ Unit)) :=
  bif (decide (s2 < (lenI a0))) then
    guardP ((0 : Int) ≤ s2 ∧ s2 < lenI a0) (
      guardP ((0 : Int) ≤ s2 ∧ s2 < lenI a1) (
        bif ((List.getD a0 (Int.toNat s2) (0 : Int)) != (List.getD a1 (Int.toNat s2) (0 : Int))) then
          some (.inr (.inr ()))
        else
          some (.inl (wadd .i64 s2 (1 : Int)))))
  else
    some (.inr (.inl ()))

noncomputable def laws_eqInt64S (a0 : List Int) (a1 : List Int) : Option (Bool) :=
  bif ((lenI a0) != (lenI a1)) then
    some false
  else
    (rounds (laws_eqInt64S_B1 a0 a1) (0 : Int)).bind fun r3 => match r3 with
      | .inl r4 =>
        some true
      | .inr r5 =>
        some false

theorem f20_ok {a0 : List Int} {a1 : List Int} {r : Bool} (hr : laws_eqInt64S a0 a1 = some r) : CallOK Try.prog 20 [.imm tLI a0, .imm tLI a1] [⟨false, .bool, r⟩] [] := by
  unfold laws_eqInt64S at hr
  refine CallOK.of_body (ts := [(false, .bool)]) Try.func20 rfl (by kernel_rfl) (Nat.le_of_ble_eq_true (by kernel_rfl)) fun cx hP hN hO hF => ?_
  have hO : cx.own.map Prod.fst = [] := hO
  have hX := CxIs.mk hP hN hO
  have hF := hF rfl
  show HT cx ⟨[(0, nV a0), (1, nV a1)], [], 0⟩ _ _
  refine HT.rg2 [oH] ⟨[(0, nV a0), (1, nV a1)], [], 0⟩ hX (by kernel_rfl) allNil ?_
  refine HT.seq ?_
  refine HT.rg2 (oHs 5) ⟨[(0, nV a0), (1, nV a1), (10, bV ((lenI a0) != (lenI a1)))], [], 0⟩ hX (by kernel_rfl) allNil ?_
  rcases of_bif hr with ⟨hb1, hr⟩ | ⟨hb1, hr⟩
  · refine HT.cond1 rfl hb1 ?_
    refine HT.rg2 [oH] ⟨[(4, bV false)], [], 0⟩ hX (by kernel_rfl) allNil ?_
    have hr := of_some hr
    subst hr
    exact HT.ret (qThenR ⟨[bV false], [], [], by kernel_rfl, by kernel_rfl, rfl, by kernel_rfl, by kernel_rfl, trivial⟩)
  · refine HT.cond0 rfl hb1 ?_
    refine HT.skip (qThen ?_)
    refine HT.seq ?_
    refine HT.rg2 [oH] ⟨[(0, nV a0), (1, nV a1), (5, iV (0 : Int))], [], 0⟩ hX (by kernel_rfl) allNil ?_
    refine HT.block ?_
    obtain ⟨r3, hL13, hr⟩ := of_bind hr
    refine HT.loopL (fun (s2 : Int) => ⟨[(0, nV a0), (1, nV a1), (5, iV s2)], [], 0⟩) (fun (r3 : Unit ⊕ Unit) => match r3 with | .inl r4 => (.exit 0, ⟨[], [], 0⟩) | .inr r5 => (.ret, ⟨[(4, bV false)], [], 0⟩)) (Le.re [] [] hX (by kernel_rfl)) hL13 ?_ (fun s2 x6 hx7 hk8 => ?_)
    · rcases r3 with r4 | r5
      · refine (qBlockX (qThen ?_))
        refine HT.rg2 [oH] ⟨[(4, bV true)], [], 0⟩ hX (by kernel_rfl) allNil ?_
        have hr := of_some hr
        subst hr
        exact HT.ret ⟨[bV true], [], [], by kernel_rfl, by kernel_rfl, rfl, by kernel_rfl, by kernel_rfl, trivial⟩
      · have hr := of_some hr
        subst hr
        exact (qBlockR (qThenR ⟨[bV false], [], [], by kernel_rfl, by kernel_rfl, rfl, by kernel_rfl, by kernel_rfl, trivial⟩))
    · refine HT.seq ?_
      refine HT.rg2 (oHs 4) ⟨[(0, nV a0), (1, nV a1), (5, iV s2), (14, bV (decide (s2 < (lenI a0))))], [], 0⟩ hX (by kernel_rfl) allNil ?_
      rcases of_bif hx7 with ⟨hb9, hx7⟩ | ⟨hb9, hx7⟩
      · refine HT.cond1 rfl hb9 ?_
        refine HT.skip (qThen ?_)
        refine HT.seq ?_
        refine HT.block ?_
        obtain ⟨hg10, hx7⟩ := of_guard hx7
        obtain ⟨hg11, hx7⟩ := of_guard hx7
        refine HT.dr2 8 [⟨oH, []⟩, ⟨oH, []⟩, ⟨oH, [0, 1]⟩, ⟨oH, [0, 1, 2]⟩, ⟨oH, []⟩, ⟨oH, []⟩, ⟨oH, [4, 5]⟩, ⟨oH, [4, 5, 6]⟩] [[0, 1, 2, 3, 4, 5, 6, 7]] [oH] ⟨[(0, nV a0), (1, nV a1), (5, iV s2), (25, bV ((List.getD a0 (Int.toNat s2) (0 : Int)) != (List.getD a1 (Int.toNat s2) (0 : Int))))], [], 0⟩ hX (by kernel_rfl) (by kernel_rfl) (allCons hg10 (allCons hg11 allNil)) ?_
        rcases of_bif hx7 with ⟨hb12, hx7⟩ | ⟨hb12, hx7⟩
        · refine HT.cond1 rfl hb12 ?_
          refine HT.rg2 [oH] ⟨[(4, bV false)], [], 0⟩ hX (by kernel_rfl) allNil ?_
          have hx7 := of_some hx7
          subst hx7
          exact HT.retL (Le.re [] [] hX (by kernel_rfl)) (qBlockR (qThenR (qLoopR (hk8 (.inr ()) rfl))))
        · refine HT.cond0 rfl hb12 ?_
          refine HT.skip (qBlock (qThen ?_))
          have hx7 := of_some hx7
          subst hx7
          exact HT.rgK (oHs 3) [] [] hX (by kernel_rfl) allNil (fun _ h => (qLoopN ⟨(wadd .i64 s2 (1 : Int)), rfl, h⟩))
      · refine HT.cond0 rfl hb9 ?_
        have hx7 := of_some hx7
        subst hx7
        exact HT.exitL (Le.re [] [] hX (by kernel_rfl)) (qThenE (qLoopE (hk8 (.inl ()) rfl)))

noncomputable def laws_eqInt64SS_B1 (a0 : List (List Int)) (a1 : List (List Int)) (s2 : Int) : Option ((Int) ⊕ (Unit ⊕ Unit)) :=
  bif (decide (s2 < (lenI a0))) then
    guardP ((0 : Int) ≤ s2 ∧ s2 < lenI a0) (
      guardP ((0 : Int) ≤ s2 ∧ s2 < lenI a1) (
        (laws_eqInt64S (List.getD a0 (Int.toNat s2) ([] : List Int)) (List.getD a1 (Int.toNat s2) ([] : List Int))).bind fun y12 =>
        bif (!y12) then
          some (.inr (.inr ()))
        else
          some (.inl (wadd .i64 s2 (1 : Int)))))
  else
    some (.inr (.inl ()))

noncomputable def laws_eqInt64SS (a0 : List (List Int)) (a1 : List (List Int)) : Option (Bool) :=
  bif ((lenI a0) != (lenI a1)) then
    some false
  else
    (rounds (laws_eqInt64SS_B1 a0 a1) (0 : Int)).bind fun r3 => match r3 with
      | .inl r4 =>
        some true
      | .inr r5 =>
        some false

theorem f29_ok {a0 : List (List Int)} {a1 : List (List Int)} {r : Bool} (hr : laws_eqInt64SS a0 a1 = some r) : CallOK Try.prog 29 [.imm (.sl tLI) a0, .imm (.sl tLI) a1] [⟨false, .bool, r⟩] [] := by
  unfold laws_eqInt64SS at hr
  refine CallOK.of_body (ts := [(false, .bool)]) Try.func29 rfl (by kernel_rfl) (Nat.le_of_ble_eq_true (by kernel_rfl)) fun cx hP hN hO hF => ?_
  have hO : cx.own.map Prod.fst = [] := hO
  have hX := CxIs.mk hP hN hO
  have hF := hF rfl
  show HT cx ⟨[(0, .one (.dat (.sl tLI) a0)), (1, .one (.dat (.sl tLI) a1))], [], 0⟩ _ _
  refine HT.rg2 [oH] ⟨[(0, .one (.dat (.sl tLI) a0)), (1, .one (.dat (.sl tLI) a1))], [], 0⟩ hX (by kernel_rfl) allNil ?_
  refine HT.seq ?_
  refine HT.rg2 (oHs 5) ⟨[(0, .one (.dat (.sl tLI) a0)), (1, .one (.dat (.sl tLI) a1)), (10, bV ((lenI a0) != (lenI a1)))], [], 0⟩ hX (by kernel_rfl) allNil ?_
  rcases of_bif hr with ⟨hb1, hr⟩ | ⟨hb1, hr⟩
  · refine HT.cond1 rfl hb1 ?_
    refine HT.rg2 [oH] ⟨[(4, bV false)], [], 0⟩ hX (by kernel_rfl) allNil ?_
    have hr := of_some hr
    subst hr
    exact HT.ret (qThenR ⟨[bV false], [], [], by kernel_rfl, by kernel_rfl, rfl, by kernel_rfl, by kernel_rfl, trivial⟩)
  · refine HT.cond0 rfl hb1 ?_
    refine HT.skip (qThen ?_)
    refine HT.seq ?_
    refine HT.rg2 [oH] ⟨[(0, .one (.dat (.sl tLI) a0)), (1, .one (.dat (.sl tLI) a1)), (5, iV (0 : Int))], [], 0⟩ hX (by kernel_rfl) allNil ?_
    refine HT.block ?_
    obtain ⟨r3, hL15, hr⟩ := of_bind hr
    refine HT.loopL (fun (s2 : Int) => ⟨[(0, .one (.dat (.sl tLI) a0)), (1, .one (.dat (.sl tLI) a1)), (5, iV s2)], [], 0⟩) (fun (r3 : Unit ⊕ Unit) => match r3 with | .inl r4 => (.exit 0, ⟨[], [], 0⟩) | .inr r5 => (.ret, ⟨[(4, bV false)], [], 0⟩)) (Le.re [] [] hX (by kernel_rfl)) hL15 ?_ (fun s2 x6 hx7 hk8 => ?_)
    · rcases r3 with r4 | r5
      · refine (qBlockX (qThen ?_))
        refine HT.rg2 [oH] ⟨[(4, bV true)], [], 0⟩ hX (by kernel_rfl) allNil ?_
        have hr := of_some hr
        subst hr
        exact HT.ret ⟨[bV true], [], [], by kernel_rfl, by kernel_rfl, rfl, by kernel_rfl, by kernel_rfl, trivial⟩
      · have hr := of_some hr
        subst hr
        exact (qBlockR (qThenR ⟨[bV false], [], [], by kernel_rfl, by kernel_rfl, rfl, by kernel_rfl, by kernel_rfl, trivial⟩))
    · refine HT.seq ?_
      refine HT.rg2 (oHs 4) ⟨[(0, .one (.dat (.sl tLI) a0)), (1, .one (.dat (.sl tLI) a1)), (5, iV s2), (14, bV (decide (s2 < (lenI a0))))], [], 0⟩ hX (by kernel_rfl) allNil ?_
      rcases of_bif hx7 with ⟨hb9, hx7⟩ | ⟨hb9, hx7⟩
      · refine HT.cond1 rfl hb9 ?_
        refine HT.skip (qThen ?_)
        refine HT.seq ?_
        refine HT.block ?_
        obtain ⟨hg10, hx7⟩ := of_guard hx7
        obtain ⟨hg11, hx7⟩ := of_guard hx7
        obtain ⟨y12, hc13, hx7⟩ := of_bind hx7
        refine HT.dr2 8 [⟨oH, []⟩, ⟨oH, []⟩, ⟨oH, [0, 1]⟩, ⟨oH, [0, 1, 2]⟩, ⟨oH, []⟩, ⟨oH, []⟩, ⟨oH, [4, 5]⟩, ⟨oH, [4, 5, 6]⟩] [[0, 1, 2, 3, 4, 5, 6, 7], [0, 1, 2, 3, 4, 5, 6, 7, 8]] [⟨none, .call [.imm tLI, .imm tLI] [⟨false, .bool, y12⟩] []⟩, oH] ⟨[(0, .one (.dat (.sl tLI) a0)), (1, .one (.dat (.sl tLI) a1)), (5, iV s2), (26, bV (!y12))], [], 0⟩ hX (by kernel_rfl) (by kernel_rfl) (allCons hg10 (allCons hg11 (allCons (f20_ok hc13) allNil))) ?_
        rcases of_bif hx7 with ⟨hb14, hx7⟩ | ⟨hb14, hx7⟩
        · refine HT.cond1 rfl hb14 ?_
          refine HT.rg2 [oH] ⟨[(4, bV false)], [], 0⟩ hX (by kernel_rfl) allNil ?_
          have hx7 := of_some hx7
          subst hx7
          exact HT.retL (Le.re [] [] hX (by kernel_rfl)) (qBlockR (qThenR (qLoopR (hk8 (.inr ()) rfl))))
        · refine HT.cond0 rfl hb14 ?_
          refine HT.skip (qBlock (qThen ?_))
          have hx7 := of_some hx7
          subst hx7
          exact HT.rgK (oHs 3) [] [] hX (by kernel_rfl) allNil (fun _ h => (qLoopN ⟨(wadd .i64 s2 (1 : Int)), rfl, h⟩))
      · refine HT.cond0 rfl hb9 ?_
        have hx7 := of_some hx7
        subst hx7
        exact HT.exitL (Le.re [] [] hX (by kernel_rfl)) (qThenE (qLoopE (hk8 (.inl ()) rfl)))

noncomputable def laws_eqGame (a0 : List Int × List Int × List (List Int)) (a1 : List Int × List Int × List (List Int)) : Option (Bool) :=
  (laws_eqInt64S a0.1 a1.1).bind fun y1 =>
  bif (!y1) then
    some false
  else
    (laws_eqInt64S a0.2.1 a1.2.1).bind fun y4 =>
    bif (!y4) then
      some false
    else
      (laws_eqInt64SS a0.2.2 a1.2.2).bind fun y7 =>
      bif (!y7) then
        some false
      else
        some true

theorem f14_ok {a0 : List Int × List Int × List (List Int)} {a1 : List Int × List Int × List (List Int)} {r : Bool} (hr : laws_eqGame a0 a1 = some r) : CallOK Try.prog 14 [.imm (.st (.pair tLI (.pair tLI (.sl tLI)))) a0, .imm (.st (.pair tLI (.pair tLI (.sl tLI)))) a1] [⟨false, .bool, r⟩] [] := by
  unfold laws_eqGame at hr
  refine CallOK.of_body (ts := [(false, .bool)]) Try.func14 rfl (by kernel_rfl) (Nat.le_of_ble_eq_true (by kernel_rfl)) fun cx hP hN hO hF => ?_
  have hO : cx.own.map Prod.fst = [] := hO
  have hX := CxIs.mk hP hN hO
  have hF := hF rfl
  show HT cx ⟨[(0, .agg [nC a0.1, nC a0.2.1, .dat (.sl tLI) a0.2.2]), (1, .agg [nC a1.1, nC a1.2.1, .dat (.sl tLI) a1.2.2])], [], 0⟩ _ _
  refine HT.rg2 (oHs 3) ⟨[(2, pV 0 0), (3, pV 1 0)], [(1, .box [nC a1.1, nC a1.2.1, .dat (.sl tLI) a1.2.2]), (0, .box [nC a0.1, nC a0.2.1, .dat (.sl tLI) a0.2.2])], 2⟩ hX (by kernel_rfl) allNil ?_
  refine HT.seq ?_
  obtain ⟨y1, hc2, hr⟩ := of_bind hr
  refine HT.rg2 [oH, oH, oH, oH, ⟨none, .call [.imm tLI, .imm tLI] [⟨false, .bool, y1⟩] []⟩, oH] ⟨[(2, pV 0 0), (3, pV 1 0), (10, bV (!y1))], [(1, .box [nC a1.1, nC a1.2.1, .dat (.sl tLI) a1.2.2]), (0, .box [nC a0.1, nC a0.2.1, .dat (.sl tLI) a0.2.2])], 2⟩ hX (by kernel_rfl) (allCons (f20_ok hc2) allNil) ?_
  rcases of_bif hr with ⟨hb3, hr⟩ | ⟨hb3, hr⟩
  · refine HT.cond1 rfl hb3 ?_
    refine HT.rg2 [oH] ⟨[(4, bV false)], [], 2⟩ hX (by kernel_rfl) allNil ?_
    have hr := of_some hr
    subst hr
    exact HT.ret (qThenR ⟨[bV false], [], [], by kernel_rfl, by kernel_rfl, rfl, by kernel_rfl, by kernel_rfl, trivial⟩)
  · refine HT.cond0 rfl hb3 ?_
    refine HT.skip (qThen ?_)
    refine HT.seq ?_
    obtain ⟨y4, hc5, hr⟩ := of_bind hr
    refine HT.rg2 [oH, oH, oH, oH, ⟨none, .call [.imm tLI, .imm tLI] [⟨false, .bool, y4⟩] []⟩, oH] ⟨[(2, pV 0 0), (3, pV 1 0), (16, bV (!y4))], [(1, .box [nC a1.1, nC a1.2.1, .dat (.sl tLI) a1.2.2]), (0, .box [nC a0.1, nC a0.2.1, .dat (.sl tLI) a0.2.2])], 2⟩ hX (by kernel_rfl) (allCons (f20_ok hc5) allNil) ?_
    rcases of_bif hr with ⟨hb6, hr⟩ | ⟨hb6, hr⟩
    · refine HT.cond1 rfl hb6 ?_
      refine HT.rg2 [oH] ⟨[(4, bV false)], [], 2⟩ hX (by kernel_rfl) allNil ?_
      have hr := of_some hr
      subst hr
      exact HT.ret (qThenR ⟨[bV false], [], [], by kernel_rfl, by kernel_rfl, rfl, by kernel_rfl, by kernel_rfl, trivial⟩)
    · refine HT.cond0 rfl hb6 ?_
      refine HT.skip (qThen ?_)
      refine HT.seq ?_
      obtain ⟨y7, hc8, hr⟩ := of_bind hr
      refine HT.rg2 [oH, oH, oH, oH, ⟨none, .call [.imm (.sl tLI), .imm (.sl tLI)] [⟨false, .bool, y7⟩] []⟩, oH] ⟨[(22, bV (!y7))], [], 2⟩ hX (by kernel_rfl) (allCons (f29_ok hc8) allNil) ?_
      rcases of_bif hr with ⟨hb9, hr⟩ | ⟨hb9, hr⟩
      · refine HT.cond1 rfl hb9 ?_
        refine HT.rg2 [oH] ⟨[(4, bV false)], [], 2⟩ hX (by kernel_rfl) allNil ?_
        have hr := of_some hr
        subst hr
        exact HT.ret (qThenR ⟨[bV false], [], [], by kernel_rfl, by kernel_rfl, rfl, by kernel_rfl, by kernel_rfl, trivial⟩)
      · refine HT.cond0 rfl hb9 ?_
        refine HT.skip (qThen ?_)
        refine HT.rg2 [oH] ⟨[(4, bV true)], [], 2⟩ hX (by kernel_rfl) allNil ?_
        have hr := of_some hr
        subst hr
        exact HT.ret ⟨[bV true], [], [], by kernel_rfl, by kernel_rfl, rfl, by kernel_rfl, by kernel_rfl, trivial⟩

noncomputable def laws_markInt64S_B1  (s1 : Int × Int × List Int) : Option ((Int × Int × List Int) ⊕ ((Int × List Int))) :=
  bif (decide (s1.2.1 < (lenI s1.2.2))) then
    guardP ((0 : Int) ≤ s1.2.1 ∧ s1.2.1 < lenI s1.2.2) (
      some (.inl ((wadd .i64 s1.1 (1 : Int)), (wadd .i64 s1.2.1 (1 : Int)), (List.set s1.2.2 (Int.toNat s1.2.1) s1.1))))
  else
    some (.inr (s1.1, s1.2.2))

noncomputable def laws_markInt64S (a0 : List Int) (a1 : Int) : Option (Int × List Int) :=
  (rounds (laws_markInt64S_B1) (a1, (0 : Int), a0)).bind fun r3 =>
  guardP (List.length r3.2 = List.length a0) (
    some (r3.1, r3.2))

theorem f21_ok {a0 : List Int} {a1 : Int} {r : Int × List Int} (hr : laws_markInt64S a0 a1 = some r) : CallOK Try.prog 21 [.own tLI a0, .imm tI a1] [⟨false, tI, r.1⟩] [⟨tLI, r.2⟩] := by
  unfold laws_markInt64S at hr
  refine CallOK.of_body (ts := [(false, tI)]) Try.func21 rfl (by kernel_rfl) (Nat.le_of_ble_eq_true (by kernel_rfl)) fun cx hP hN hO hF => ?_
  have hO : cx.own.map Prod.fst = [0] := hO
  have hX := CxIs.mk hP hN hO
  have hF := hF rfl
  show HT cx ⟨[(0, aV 0), (1, iV a1)], [(0, .seq tI a0)], 1⟩ _ _
  refine HT.rg2 [oH] ⟨[(0, aV 0), (1, iV a1)], [(0, .seq tI a0)], 1⟩ hX (by kernel_rfl) allNil ?_
  refine HT.seq ?_
  refine HT.rg2 [oH] ⟨[(0, aV 0), (1, iV a1), (5, iV (0 : Int))], [(0, .seq tI a0)], 1⟩ hX (by kernel_rfl) allNil ?_
  refine HT.block ?_
  obtain ⟨r2, hL10, hr⟩ := of_bind hr
  refine HT.loopL (fun (s1 : Int × Int × List Int) => ⟨[(0, aV 0), (1, iV s1.1), (5, iV s1.2.1)], [(0, .seq tI s1.2.2)], 1⟩) (fun (r3 : (Int × List Int)) => (.exit 0, ⟨[(1, iV r3.1)], [(0, .seq tI r3.2)], 1⟩)) (Le.re [(0, 0)] [] hX (by kernel_rfl)) hL10 ?_ (fun s1 x5 hx6 hk7 => ?_)
  · refine (qBlockX (qThen ?_))
    refine HT.rg2 (oHs 2) ⟨[(4, iV r2.1)], [(0, .seq tI r2.2)], 1⟩ hX (by kernel_rfl) allNil ?_
    obtain ⟨hg4, hr⟩ := of_guard hr
    have hr := of_some hr
    subst hr
    exact HT.ret ⟨[iV r2.1], [], [List.length r2.2 = List.length a0], by kernel_rfl, by kernel_rfl, rfl, by kernel_rfl, by kernel_rfl, ⟨hg4, trivial⟩⟩
  · refine HT.seq ?_
    refine HT.rg2 (oHs 4) ⟨[(0, aV 0), (1, iV s1.1), (5, iV s1.2.1), (9, bV (decide (s1.2.1 < (lenI s1.2.2))))], [(0, .seq tI s1.2.2)], 1⟩ hX (by kernel_rfl) allNil ?_
    rcases of_bif hx6 with ⟨hb8, hx6⟩ | ⟨hb8, hx6⟩
    · refine HT.cond1 rfl hb8 ?_
      refine HT.skip (qThen ?_)
      refine HT.seq ?_
      refine HT.block ?_
      obtain ⟨hg9, hx6⟩ := of_guard hx6
      refine HT.rg2 (oHs 5) ⟨[(0, aV 0), (1, iV s1.1), (5, iV s1.2.1)], [(0, .seq tI (List.set s1.2.2 (Int.toNat s1.2.1) s1.1))], 1⟩ hX (by kernel_rfl) (allCons hg9 (allCons (natLt hg9) allNil)) ?_
      refine HT.rgL (oHs 3) ⟨[(0, aV 0), (1, iV (wadd .i64 s1.1 (1 : Int))), (5, iV s1.2.1)], [(0, .seq tI (List.set s1.2.2 (Int.toNat s1.2.1) s1.1))], 1⟩ hX (by kernel_rfl) allNil (qBlock (qThen ?_))
      have hx6 := of_some hx6
      subst hx6
      exact HT.rgK (oHs 3) [(0, 0)] [] hX (by kernel_rfl) allNil (fun _ h => (qLoopN ⟨((wadd .i64 s1.1 (1 : Int)), (wadd .i64 s1.2.1 (1 : Int)), (List.set s1.2.2 (Int.toNat s1.2.1) s1.1)), rfl, h⟩))
    · refine HT.cond0 rfl hb8 ?_
      have hx6 := of_some hx6
      subst hx6
      exact HT.exitL (Le.re [(0, 0)] [] hX (by kernel_rfl)) (qThenE (qLoopE (hk7 (s1.1, s1.2.2) rfl)))

noncomputable def laws_markInt64SS_B1  (s1 : Int × Int × List (List Int)) : Option ((Int × Int × List (List Int)) ⊕ ((Int × List (List Int)))) :=
  bif (decide (s1.2.1 < (lenI s1.2.2))) then
    guardP ((0 : Int) ≤ s1.2.1 ∧ s1.2.1 < lenI s1.2.2) (
      (laws_markInt64S (List.getD s1.2.2 (Int.toNat s1.2.1) ([] : List Int)) s1.1).bind fun y10 =>
      some (.inl (y10.1, (wadd .i64 s1.2.1 (1 : Int)), (List.set s1.2.2 (Int.toNat s1.2.1) y10.2))))
  else
    some (.inr (s1.1, s1.2.2))

noncomputable def laws_markInt64SS (a0 : List (List Int)) (a1 : Int) : Option (Int × List (List Int)) :=
  (rounds (laws_markInt64SS_B1) (a1, (0 : Int), a0)).bind fun r3 =>
  guardP (ShapeEq (.own tI) a0 r3.2) (
    some (r3.1, r3.2))

theorem f32_ok {a0 : List (List Int)} {a1 : Int} {r : Int × List (List Int)} (hr : laws_markInt64SS a0 a1 = some r) : CallOK Try.prog 32 [.own (.sl (.own tI)) a0, .imm tI a1] [⟨false, tI, r.1⟩] [⟨(.sl (.own tI)), r.2⟩] := by
  unfold laws_markInt64SS at hr
  refine CallOK.of_body (ts := [(false, tI)]) Try.func32 rfl (by kernel_rfl) (Nat.le_of_ble_eq_true (by kernel_rfl)) fun cx hP hN hO hF => ?_
  have hO : cx.own.map Prod.fst = [0] := hO
  have hX := CxIs.mk hP hN hO
  have hF := hF rfl
  show HT cx ⟨[(0, aV 0), (1, iV a1)], [(0, .seq (.own tI) a0)], 1⟩ _ _
  refine HT.rg2 [oH] ⟨[(0, aV 0), (1, iV a1)], [(0, .seq (.own tI) a0)], 1⟩ hX (by kernel_rfl) allNil ?_
  refine HT.seq ?_
  refine HT.rg2 [oH] ⟨[(0, aV 0), (1, iV a1), (5, iV (0 : Int))], [(0, .seq (.own tI) a0)], 1⟩ hX (by kernel_rfl) allNil ?_
  refine HT.block ?_
  obtain ⟨r2, hL12, hr⟩ := of_bind hr
  refine HT.loopL (fun (s1 : Int × Int × List (List Int)) => ⟨[(0, aV 0), (1, iV s1.1), (5, iV s1.2.1)], [(0, .seq (.own tI) s1.2.2)], 1⟩) (fun (r3 : (Int × List (List Int))) => (.exit 0, ⟨[(1, iV r3.1)], [(0, .seq (.own tI) r3.2)], 1⟩)) (Le.re [(0, 0)] [] hX (by kernel_rfl)) hL12 ?_ (fun s1 x5 hx6 hk7 => ?_)
  · refine (qBlockX (qThen ?_))
    refine HT.rg2 (oHs 2) ⟨[(4, iV r2.1)], [(0, .seq (.own tI) r2.2)], 1⟩ hX (by kernel_rfl) allNil ?_
    obtain ⟨hg4, hr⟩ := of_guard hr
    have hr := of_some hr
    subst hr
    exact HT.ret ⟨[iV r2.1], [], [ShapeEq (.own tI) a0 r2.2], by kernel_rfl, by kernel_rfl, rfl, by kernel_rfl, by kernel_rfl, ⟨hg4, trivial⟩⟩
  · refine HT.seq ?_
    refine HT.rg2 (oHs 4) ⟨[(0, aV 0), (1, iV s1.1), (5, iV s1.2.1), (9, bV (decide (s1.2.1 < (lenI s1.2.2))))], [(0, .seq (.own tI) s1.2.2)], 1⟩ hX (by kernel_rfl) allNil ?_
    rcases of_bif hx6 with ⟨hb8, hx6⟩ | ⟨hb8, hx6⟩
    · refine HT.cond1 rfl hb8 ?_
      refine HT.skip (qThen ?_)
      refine HT.seq ?_
      refine HT.block ?_
      obtain ⟨hg9, hx6⟩ := of_guard hx6
      obtain ⟨y10, hc11, hx6⟩ := of_bind hx6
      refine HT.regC (rs := [oH, oH, oH, ⟨none, .opn⟩, oH, ⟨none, .call [.own tLI, .imm tI] [⟨false, tI, y10.1⟩] [⟨tLI, y10.2⟩]⟩, oH]) ⟨[(1, iV y10.1), (17, iV y10.1), (16, iV s1.1), (15, aV 1), (14, .one (.elp 0 (Int.toNat s1.2.1) 1 0)), (13, iV s1.2.1), (12, aV 0), (0, aV 0), (1, iV s1.1), (5, iV s1.2.1), (9, bV (decide (s1.2.1 < (lenI s1.2.2))))], [(1, .seq tI y10.2), (0, .opn (.own tI) s1.2.2 (Int.toNat s1.2.1) [.all 1] [1]), (1, .seq tI (List.getD s1.2.2 (Int.toNat s1.2.1) ([] : List Int))), (0, .seq (.own tI) s1.2.2)], 2⟩ hP hN (by kernel_rfl) (allCons hg9 (allCons (natLt hg9) (allCons (f21_ok hc11) allNil))) (Le.close (own := [0]) 0 (st' := ⟨[(1, iV y10.1), (17, iV y10.1), (16, iV s1.1), (15, aV 1), (14, .one (.elp 0 (Int.toNat s1.2.1) 1 0)), (13, iV s1.2.1), (12, aV 0), (0, aV 0), (1, iV s1.1), (5, iV s1.2.1), (9, bV (decide (s1.2.1 < (lenI s1.2.2))))], [(0, .seq (.own tI) (List.set s1.2.2 (Int.toNat s1.2.1) y10.2)), (1, .gone)], 2⟩) hO (by kernel_rfl)) (qBlock (qThen ?_))
      have hx6 := of_some hx6
      subst hx6
      exact HT.rgK (oHs 3) [(0, 0)] [] hX (by kernel_rfl) allNil (fun _ h => (qLoopN ⟨(y10.1, (wadd .i64 s1.2.1 (1 : Int)), (List.set s1.2.2 (Int.toNat s1.2.1) y10.2)), rfl, h⟩))
    · refine HT.cond0 rfl hb8 ?_
      have hx6 := of_some hx6
      subst hx6
      exact HT.exitL (Le.re [(0, 0)] [] hX (by kernel_rfl)) (qThenE (qLoopE (hk7 (s1.1, s1.2.2) rfl)))

noncomputable def laws_markGame (a0 : List Int × List Int × List (List Int)) (a1 : Int) : Option (Int × (List Int × List Int × List (List Int))) :=
  (laws_markInt64S a0.1 a1).bind fun y1 =>
  (laws_markInt64S a0.2.1 y1.1).bind fun y3 =>
  (laws_markInt64SS a0.2.2 y3.1).bind fun y5 =>
  guardP (List.length y1.2 = List.length a0.1) (
    guardP (List.length y3.2 = List.length a0.2.1) (
      guardP (ShapeEq (.own tI) a0.2.2 y5.2) (
        some (y5.1, y1.2, y3.2, y5.2))))

theorem f15_ok {a0 : List Int × List Int × List (List Int)} {a1 : Int} {r : Int × (List Int × List Int × List (List Int))} (hr : laws_markGame a0 a1 = some r) : CallOK Try.prog 15 [.own (.st (.pair tLI (.pair tLI (.sl (.own tI))))) a0, .imm tI a1] [⟨false, tI, r.1⟩] [⟨(.st (.pair tLI (.pair tLI (.sl (.own tI))))), r.2⟩] := by
  unfold laws_markGame at hr
  refine CallOK.of_body (ts := [(false, tI)]) Try.func15 rfl (by kernel_rfl) (Nat.le_of_ble_eq_true (by kernel_rfl)) fun cx hP hN hO hF => ?_
  have hO : cx.own.map Prod.fst = [0, 1, 2] := hO
  have hX := CxIs.mk hP hN hO
  have hF := hF rfl
  show HT cx ⟨[(0, .agg [.all 0, .all 1, .all 2]), (1, iV a1)], [(0, .seq tI a0.1), (1, .seq tI a0.2.1), (2, .seq (.own tI) a0.2.2)], 3⟩ _ _
  refine HT.rg2 (oHs 2) ⟨[(1, iV a1), (2, pV 3 0)], [(3, .box [.all 0, .all 1, .all 2]), (0, .seq tI a0.1), (1, .seq tI a0.2.1), (2, .seq (.own tI) a0.2.2)], 4⟩ hX (by kernel_rfl) allNil ?_
  obtain ⟨y1, hc2, hr⟩ := of_bind hr
  refine HT.rg2 [oH, oH, oH, ⟨none, .call [.own tLI, .imm tI] [⟨false, tI, y1.1⟩] [⟨tLI, y1.2⟩]⟩, oH] ⟨[(1, iV y1.1), (2, pV 3 0)], [(0, .seq tI y1.2), (3, .box [.all 0, .all 1, .all 2]), (1, .seq tI a0.2.1), (2, .seq (.own tI) a0.2.2)], 4⟩ hX (by kernel_rfl) (allCons (f21_ok hc2) allNil) ?_
  obtain ⟨y3, hc4, hr⟩ := of_bind hr
  refine HT.rg2 [oH, oH, oH, ⟨none, .call [.own tLI, .imm tI] [⟨false, tI, y3.1⟩] [⟨tLI, y3.2⟩]⟩, oH] ⟨[(1, iV y3.1), (2, pV 3 0)], [(1, .seq tI y3.2), (0, .seq tI y1.2), (3, .box [.all 0, .all 1, .all 2]), (2, .seq (.own tI) a0.2.2)], 4⟩ hX (by kernel_rfl) (allCons (f21_ok hc4) allNil) ?_
  obtain ⟨y5, hc6, hr⟩ := of_bind hr
  refine HT.rg2 [oH, oH, oH, ⟨none, .call [.own (.sl (.own tI)), .imm tI] [⟨false, tI, y5.1⟩] [⟨(.sl (.own tI)), y5.2⟩]⟩, oH] ⟨[(1, iV y5.1)], [(2, .seq (.own tI) y5.2), (1, .seq tI y3.2), (0, .seq tI y1.2)], 4⟩ hX (by kernel_rfl) (allCons (f32_ok hc6) allNil) ?_
  refine HT.rg2 (oHs 2) ⟨[(4, iV y5.1)], [(2, .seq (.own tI) y5.2), (1, .seq tI y3.2), (0, .seq tI y1.2)], 4⟩ hX (by kernel_rfl) allNil ?_
  obtain ⟨hg7, hr⟩ := of_guard hr
  obtain ⟨hg8, hr⟩ := of_guard hr
  obtain ⟨hg9, hr⟩ := of_guard hr
  have hr := of_some hr
  subst hr
  exact HT.ret ⟨[iV y5.1], [], [List.length y1.2 = List.length a0.1, List.length y3.2 = List.length a0.2.1, ShapeEq (.own tI) a0.2.2 y5.2], by kernel_rfl, by kernel_rfl, rfl, by kernel_rfl, by kernel_rfl, ⟨hg7, hg8, hg9, trivial⟩⟩

noncomputable def laws_heldInt64S_B1 (a0 : List Int) (s1 : Int × Int) : Option ((Int × Int) ⊕ (Int ⊕ Unit)) :=
  bif (decide (s1.2 < (lenI a0))) then
    guardP ((0 : Int) ≤ s1.2 ∧ s1.2 < lenI a0) (
      bif ((List.getD a0 (Int.toNat s1.2) (0 : Int)) != s1.1) then
        some (.inr (.inr ()))
      else
        some (.inl ((wadd .i64 s1.1 (1 : Int)), (wadd .i64 s1.2 (1 : Int)))))
  else
    some (.inr (.inl s1.1))

noncomputable def laws_heldInt64S (a0 : List Int) (a1 : Int) : Option (Int) :=
  (rounds (laws_heldInt64S_B1 a0) (a1, (0 : Int))).bind fun r2 => match r2 with
    | .inl r3 =>
      some r3
    | .inr r4 =>
      some (-1 : Int)

theorem f22_ok {a0 : List Int} {a1 : Int} {r : Int} (hr : laws_heldInt64S a0 a1 = some r) : CallOK Try.prog 22 [.imm tLI a0, .imm tI a1] [⟨false, tI, r⟩] [] := by
  unfold laws_heldInt64S at hr
  refine CallOK.of_body (ts := [(false, tI)]) Try.func22 rfl (by kernel_rfl) (Nat.le_of_ble_eq_true (by kernel_rfl)) fun cx hP hN hO hF => ?_
  have hO : cx.own.map Prod.fst = [] := hO
  have hX := CxIs.mk hP hN hO
  have hF := hF rfl
  show HT cx ⟨[(0, nV a0), (1, iV a1)], [], 0⟩ _ _
  refine HT.rg2 [oH] ⟨[(0, nV a0), (1, iV a1)], [], 0⟩ hX (by kernel_rfl) allNil ?_
  refine HT.seq ?_
  refine HT.rg2 [oH] ⟨[(0, nV a0), (1, iV a1), (5, iV (0 : Int))], [], 0⟩ hX (by kernel_rfl) allNil ?_
  refine HT.block ?_
  obtain ⟨r2, hL11, hr⟩ := of_bind hr
  refine HT.loopL (fun (s1 : Int × Int) => ⟨[(0, nV a0), (1, iV s1.1), (5, iV s1.2)], [], 0⟩) (fun (r2 : Int ⊕ Unit) => match r2 with | .inl r3 => (.exit 0, ⟨[(1, iV r3)], [], 0⟩) | .inr r4 => (.ret, ⟨[(4, iV (-1 : Int))], [], 0⟩)) (Le.re [] [] hX (by kernel_rfl)) hL11 ?_ (fun s1 x5 hx6 hk7 => ?_)
  · rcases r2 with r3 | r4
    · refine (qBlockX (qThen ?_))
      refine HT.rg2 (oHs 2) ⟨[(4, iV r3)], [], 0⟩ hX (by kernel_rfl) allNil ?_
      have hr := of_some hr
      subst hr
      exact HT.ret ⟨[iV r3], [], [], by kernel_rfl, by kernel_rfl, rfl, by kernel_rfl, by kernel_rfl, trivial⟩
    · have hr := of_some hr
      subst hr
      exact (qBlockR (qThenR ⟨[iV (-1 : Int)], [], [], by kernel_rfl, by kernel_rfl, rfl, by kernel_rfl, by kernel_rfl, trivial⟩))
  · refine HT.seq ?_
    refine HT.rg2 (oHs 4) ⟨[(0, nV a0), (1, iV s1.1), (5, iV s1.2), (9, bV (decide (s1.2 < (lenI a0))))], [], 0⟩ hX (by kernel_rfl) allNil ?_
    rcases of_bif hx6 with ⟨hb8, hx6⟩ | ⟨hb8, hx6⟩
    · refine HT.cond1 rfl hb8 ?_
      refine HT.skip (qThen ?_)
      refine HT.seq ?_
      refine HT.block ?_
      refine HT.seq ?_
      obtain ⟨hg9, hx6⟩ := of_guard hx6
      refine HT.rg2 (oHs 6) ⟨[(0, nV a0), (1, iV s1.1), (5, iV s1.2), (17, bV ((List.getD a0 (Int.toNat s1.2) (0 : Int)) != s1.1))], [], 0⟩ hX (by kernel_rfl) (allCons hg9 allNil) ?_
      rcases of_bif hx6 with ⟨hb10, hx6⟩ | ⟨hb10, hx6⟩
      · refine HT.cond1 rfl hb10 ?_
        refine HT.rg2 [oH] ⟨[(4, iV (-1 : Int))], [], 0⟩ hX (by kernel_rfl) allNil ?_
        have hx6 := of_some hx6
        subst hx6
        exact HT.retL (Le.re [] [] hX (by kernel_rfl)) (qThenR (qBlockR (qThenR (qLoopR (hk7 (.inr ()) rfl)))))
      · refine HT.cond0 rfl hb10 ?_
        refine HT.skip (qThen ?_)
        refine HT.rgL (oHs 3) ⟨[(0, nV a0), (1, iV (wadd .i64 s1.1 (1 : Int))), (5, iV s1.2)], [], 0⟩ hX (by kernel_rfl) allNil (qBlock (qThen ?_))
        have hx6 := of_some hx6
        subst hx6
        exact HT.rgK (oHs 3) [] [] hX (by kernel_rfl) allNil (fun _ h => (qLoopN ⟨((wadd .i64 s1.1 (1 : Int)), (wadd .i64 s1.2 (1 : Int))), rfl, h⟩))
    · refine HT.cond0 rfl hb8 ?_
      have hx6 := of_some hx6
      subst hx6
      exact HT.exitL (Le.re [] [] hX (by kernel_rfl)) (qThenE (qLoopE (hk7 (.inl s1.1) rfl)))

noncomputable def laws_FnExactReachOf (a0 : List Int × List Int × List (List Int)) (a1 : List Int) (a2 : Int) : Option (Bool) :=
  bif (decide ((lenI a1) > (1048576 : Int))) then
    some true
  else
    (laws_szGame (a0.1, a0.2.1, a0.2.2) (1048576 : Int)).bind fun y2 =>
    bif (decide (y2 < (0 : Int))) then
      some true
    else
      (laws_toGame (a0.1, a0.2.1, a0.2.2)).bind fun y5 =>
      (laws_toInt64S a1).bind fun y7 =>
      (spec_ReachOf (y5.1, y5.2.1, y5.2.2) y7 a2).bind fun y9 =>
      (laws_toGame (a0.1, a0.2.1, a0.2.2)).bind fun y11 =>
      (laws_toInt64S a1).bind fun y13 =>
      (impl_ReachOf (y11.1, y11.2.1, y11.2.2) y13 a2).bind fun y15 =>
      (show Option (Bool) from
        (laws_eqInt64S y15.1 y9.1).bind fun y66 =>
        bif (!y66) then
          some true
        else
          some (y15.2 != y9.2)).bind fun v17 =>
      bif v17 then
        some false
      else
        (laws_toGame (a0.1, a0.2.1, a0.2.2)).bind fun y21 =>
        (laws_eqGame (y11.1, y11.2.1, y11.2.2) (y21.1, y21.2.1, y21.2.2)).bind fun y23 =>
        bif (!y23) then
          some false
        else
          (laws_toInt64S a1).bind fun y26 =>
          (laws_eqInt64S y13 y26).bind fun y28 =>
          bif (!y28) then
            some false
          else
            (laws_markGame (y11.1, y11.2.1, y11.2.2) (1 : Int)).bind fun y31 =>
            (laws_markInt64S y13 y31.1).bind fun y33 =>
            (show Option (Bool) from
              bif (decide (y33.1 < (0 : Int))) then
                some true
              else
                (laws_eqInt64S y15.1 y9.1).bind fun y63 =>
                bif (!y63) then
                  some true
                else
                  some (y15.2 != y9.2)).bind fun v35 =>
            bif v35 then
              some false
            else
              (laws_markInt64S y15.1 (1 : Int)).bind fun y39 =>
              (laws_heldInt64S y39.2 (1 : Int)).bind fun y41 =>
              bif (decide (y41 < (0 : Int))) then
                some false
              else
                bif (y41 != y39.1) then
                  some false
                else
                  (laws_toGame (a0.1, a0.2.1, a0.2.2)).bind fun y45 =>
                  (laws_toInt64S a1).bind fun y47 =>
                  (impl_ReachOf (y45.1, y45.2.1, y45.2.2) y47 a2).bind fun y49 =>
                  (show Option (Bool) from
                    (laws_eqInt64S y49.1 y9.1).bind fun y59 =>
                    bif (!y59) then
                      some true
                    else
                      some (y49.2 != y9.2)).bind fun v51 =>
                  bif v51 then
                    some false
                  else
                    (laws_heldInt64S y39.2 (1 : Int)).bind fun y55 =>
                    bif (decide (y55 < (0 : Int))) then
                      some false
                    else
                      bif (y55 != y39.1) then
                        some false
                      else
                        some true

theorem f4_ok {a0 : List Int × List Int × List (List Int)} {a1 : List Int} {a2 : Int} {r : Bool} (hr : laws_FnExactReachOf a0 a1 a2 = some r) : CallOK Try.prog 4 [.imm (.st (.pair tLI (.pair tLI (.sl tLI)))) a0, .imm tLI a1, .imm tI a2] [⟨false, .bool, r⟩] [] := by
  unfold laws_FnExactReachOf at hr
  refine CallOK.of_body (ts := [(false, .bool)]) Try.func4 rfl (by kernel_rfl) (Nat.le_of_ble_eq_true (by kernel_rfl)) fun cx hP hN hO hF => ?_
  have hO : cx.own.map Prod.fst = [] := hO
  have hX := CxIs.mk hP hN hO
  have hF := hF rfl
  show HT cx ⟨[(0, .agg [nC a0.1, nC a0.2.1, .dat (.sl tLI) a0.2.2]), (1, nV a1), (2, iV a2)], [], 0⟩ _ _
  refine HT.rg2 (oHs 2) ⟨[(1, nV a1), (2, iV a2), (3, pV 0 0)], [(0, .box [nC a0.1, nC a0.2.1, .dat (.sl tLI) a0.2.2])], 1⟩ hX (by kernel_rfl) allNil ?_
  refine HT.seq ?_
  refine HT.rg2 (oHs 3) ⟨[(1, nV a1), (2, iV a2), (3, pV 0 0), (21, bV (decide ((lenI a1) > (1048576 : Int))))], [(0, .box [nC a0.1, nC a0.2.1, .dat (.sl tLI) a0.2.2])], 1⟩ hX (by kernel_rfl) allNil ?_
  rcases of_bif hr with ⟨hb1, hr⟩ | ⟨hb1, hr⟩
  · refine HT.cond1 rfl hb1 ?_
    refine HT.rg2 [oH] ⟨[(6, bV true)], [], 1⟩ hX (by kernel_rfl) allNil ?_
    have hr := of_some hr
    subst hr
    exact HT.ret (qThenR ⟨[bV true], [], [], by kernel_rfl, by kernel_rfl, rfl, by kernel_rfl, by kernel_rfl, trivial⟩)
  · refine HT.cond0 rfl hb1 ?_
    refine HT.skip (qThen ?_)
    refine HT.rg2 [oH] ⟨[(1, nV a1), (2, iV a2), (3, pV 0 0), (7, iV (1048576 : Int))], [(0, .box [nC a0.1, nC a0.2.1, .dat (.sl tLI) a0.2.2])], 1⟩ hX (by kernel_rfl) allNil ?_
    obtain ⟨y2, hc3, hr⟩ := of_bind hr
    refine HT.rg2 [oH, oH, ⟨none, .call [.imm (.st (.pair tLI (.pair tLI (.sl tLI)))), .imm tI] [⟨false, tI, y2⟩] []⟩, oH] ⟨[(1, nV a1), (2, iV a2), (3, pV 0 0), (7, iV y2)], [(0, .box [nC a0.1, nC a0.2.1, .dat (.sl tLI) a0.2.2])], 1⟩ hX (by kernel_rfl) (allCons (f10_ok hc3) allNil) ?_
    refine HT.seq ?_
    refine HT.rg2 (oHs 2) ⟨[(1, nV a1), (2, iV a2), (3, pV 0 0), (26, bV (decide (y2 < (0 : Int))))], [(0, .box [nC a0.1, nC a0.2.1, .dat (.sl tLI) a0.2.2])], 1⟩ hX (by kernel_rfl) allNil ?_
    rcases of_bif hr with ⟨hb4, hr⟩ | ⟨hb4, hr⟩
    · refine HT.cond1 rfl hb4 ?_
      refine HT.rg2 [oH] ⟨[(6, bV true)], [], 1⟩ hX (by kernel_rfl) allNil ?_
      have hr := of_some hr
      subst hr
      exact HT.ret (qThenR ⟨[bV true], [], [], by kernel_rfl, by kernel_rfl, rfl, by kernel_rfl, by kernel_rfl, trivial⟩)
    · refine HT.cond0 rfl hb4 ?_
      refine HT.skip (qThen ?_)
      obtain ⟨y5, hc6, hr⟩ := of_bind hr
      obtain ⟨y7, hc8, hr⟩ := of_bind hr
      obtain ⟨y9, hc10, hr⟩ := of_bind hr
      refine HT.rg2 [oH, ⟨none, .call [.imm (.st (.pair tLI (.pair tLI (.sl tLI))))] [⟨true, (.st (.pair tLI (.pair tLI (.sl (.own tI))))), y5⟩] []⟩, oH, ⟨none, .call [.imm tLI] [⟨true, tLI, y7⟩] []⟩, oH, ⟨none, .call [.imm (.st (.pair tLI (.pair tLI (.sl tLI)))), .imm tLI, .imm tI] [⟨true, tLI, y9.1⟩, ⟨false, .bool, y9.2⟩] []⟩, oH, oH, oH, oH, oH] ⟨[(1, nV a1), (2, iV a2), (3, pV 0 0), (8, aV 5), (9, bV y9.2)], [(5, .seq tI y9.1), (0, .box [nC a0.1, nC a0.2.1, .dat (.sl tLI) a0.2.2])], 6⟩ hX (by kernel_rfl) (allCons (f12_ok hc6) (allCons (f18_ok hc8) (allCons (f17_ok hc10) allNil))) ?_
      obtain ⟨y11, hc12, hr⟩ := of_bind hr
      refine HT.rg2 [oH, ⟨none, .call [.imm (.st (.pair tLI (.pair tLI (.sl tLI))))] [⟨true, (.st (.pair tLI (.pair tLI (.sl (.own tI))))), y11⟩] []⟩, oH, oH] ⟨[(1, nV a1), (2, iV a2), (3, pV 0 0), (8, aV 5), (9, bV y9.2), (10, pV 9 0)], [(9, .box [.all 6, .all 7, .all 8]), (6, .seq tI y11.1), (7, .seq tI y11.2.1), (8, .seq (.own tI) y11.2.2), (5, .seq tI y9.1), (0, .box [nC a0.1, nC a0.2.1, .dat (.sl tLI) a0.2.2])], 10⟩ hX (by kernel_rfl) (allCons (f12_ok hc12) allNil) ?_
      obtain ⟨y13, hc14, hr⟩ := of_bind hr
      refine HT.rg2 [oH, ⟨none, .call [.imm tLI] [⟨true, tLI, y13⟩] []⟩, oH] ⟨[(1, nV a1), (2, iV a2), (3, pV 0 0), (8, aV 5), (9, bV y9.2), (10, pV 9 0), (11, aV 10)], [(10, .seq tI y13), (9, .box [.all 6, .all 7, .all 8]), (6, .seq tI y11.1), (7, .seq tI y11.2.1), (8, .seq (.own tI) y11.2.2), (5, .seq tI y9.1), (0, .box [nC a0.1, nC a0.2.1, .dat (.sl tLI) a0.2.2])], 11⟩ hX (by kernel_rfl) (allCons (f18_ok hc14) allNil) ?_
      obtain ⟨y15, hc16, hr⟩ := of_bind hr
      refine HT.rg2 [oH, oH, oH, ⟨none, .call [.imm (.st (.pair tLI (.pair tLI (.sl tLI)))), .imm tLI, .imm tI] [⟨true, tLI, y15.1⟩, ⟨false, .bool, y15.2⟩] []⟩, oH, oH, oH, oH, oH] ⟨[(1, nV a1), (2, iV a2), (3, pV 0 0), (8, aV 5), (9, bV y9.2), (10, pV 9 0), (11, aV 10), (12, aV 11), (13, bV y15.2)], [(11, .seq tI y15.1), (10, .seq tI y13), (9, .box [.all 6, .all 7, .all 8]), (6, .seq tI y11.1), (7, .seq tI y11.2.1), (8, .seq (.own tI) y11.2.2), (5, .seq tI y9.1), (0, .box [nC a0.1, nC a0.2.1, .dat (.sl tLI) a0.2.2])], 12⟩ hX (by kernel_rfl) (allCons (f19_ok hc16) allNil) ?_
      refine HT.seq ?_
      obtain ⟨v17', hT19, hr⟩ := of_bind hr
      refine HT.join (fun (v17 : Bool) => ⟨[(1, nV a1), (2, iV a2), (3, pV 0 0), (8, aV 1), (9, bV y9.2), (10, pV 2 0), (11, aV 3), (12, aV 4), (13, bV y15.2), (55, bV v17)], [(0, .box [nC a0.1, nC a0.2.1, .dat (.sl tLI) a0.2.2]), (1, .seq tI y9.1), (2, .box [.all 5, .all 6, .all 7]), (3, .seq tI y13), (4, .seq tI y15.1), (5, .seq tI y11.1), (6, .seq tI y11.2.1), (7, .seq (.own tI) y11.2.2)], 8⟩) (fun v => v = v17') (fun v17 hv18 => ?_) (fun cont => ?_)
      · subst hv18
        rcases of_bif hr with ⟨hb20, hr⟩ | ⟨hb20, hr⟩
        · refine HT.cond1 rfl hb20 ?_
          refine HT.rg2 [oH] ⟨[(6, bV false)], [], 8⟩ hX (by kernel_rfl) allNil ?_
          have hr := of_some hr
          subst hr
          exact HT.ret (qThenR ⟨[bV false], [], [], by kernel_rfl, by kernel_rfl, rfl, by kernel_rfl, by kernel_rfl, trivial⟩)
        · refine HT.cond0 rfl hb20 ?_
          refine HT.skip (qThen ?_)
          refine HT.seq ?_
          obtain ⟨y21, hc22, hr⟩ := of_bind hr
          obtain ⟨y23, hc24, hr⟩ := of_bind hr
          refine HT.dr2 3 [⟨oH, []⟩, ⟨oH, []⟩, ⟨⟨none, .call [.imm (.st (.pair tLI (.pair tLI (.sl tLI))))] [⟨true, (.st (.pair tLI (.pair tLI (.sl (.own tI))))), y21⟩] []⟩, [1]⟩] [[0, 1, 2], [0, 1, 2, 3]] [⟨none, .call [.imm (.st (.pair tLI (.pair tLI (.sl tLI)))), .imm (.st (.pair tLI (.pair tLI (.sl tLI))))] [⟨false, .bool, y23⟩] []⟩, oH] ⟨[(1, nV a1), (2, iV a2), (3, pV 0 0), (8, aV 1), (9, bV y9.2), (10, pV 2 0), (11, aV 3), (12, aV 4), (13, bV y15.2), (60, bV (!y23))], [(0, .box [nC a0.1, nC a0.2.1, .dat (.sl tLI) a0.2.2]), (1, .seq tI y9.1), (2, .box [.all 5, .all 6, .all 7]), (3, .seq tI y13), (4, .seq tI y15.1), (5, .seq tI y11.1), (6, .seq tI y11.2.1), (7, .seq (.own tI) y11.2.2)], 11⟩ hX (by kernel_rfl) (by kernel_rfl) (allCons (f12_ok hc22) (allCons (f14_ok hc24) allNil)) ?_
          rcases of_bif hr with ⟨hb25, hr⟩ | ⟨hb25, hr⟩
          · refine HT.cond1 rfl hb25 ?_
            refine HT.rg2 [oH] ⟨[(6, bV false)], [], 11⟩ hX (by kernel_rfl) allNil ?_
            have hr := of_some hr
            subst hr
            exact HT.ret (qThenR ⟨[bV false], [], [], by kernel_rfl, by kernel_rfl, rfl, by kernel_rfl, by kernel_rfl, trivial⟩)
          · refine HT.cond0 rfl hb25 ?_
            refine HT.skip (qThen ?_)
            refine HT.seq ?_
            obtain ⟨y26, hc27, hr⟩ := of_bind hr
            obtain ⟨y28, hc29, hr⟩ := of_bind hr
            refine HT.rg2 [oH, oH, ⟨none, .call [.imm tLI] [⟨true, tLI, y26⟩] []⟩, ⟨none, .call [.imm tLI, .imm tLI] [⟨false, .bool, y28⟩] []⟩, oH] ⟨[(1, nV a1), (2, iV a2), (3, pV 0 0), (8, aV 1), (9, bV y9.2), (10, pV 2 0), (11, aV 3), (12, aV 4), (13, bV y15.2), (65, bV (!y28))], [(0, .box [nC a0.1, nC a0.2.1, .dat (.sl tLI) a0.2.2]), (1, .seq tI y9.1), (2, .box [.all 5, .all 6, .all 7]), (3, .seq tI y13), (4, .seq tI y15.1), (5, .seq tI y11.1), (6, .seq tI y11.2.1), (7, .seq (.own tI) y11.2.2)], 12⟩ hX (by kernel_rfl) (allCons (f18_ok hc27) (allCons (f20_ok hc29) allNil)) ?_
            rcases of_bif hr with ⟨hb30, hr⟩ | ⟨hb30, hr⟩
            · refine HT.cond1 rfl hb30 ?_
              refine HT.rg2 [oH] ⟨[(6, bV false)], [], 12⟩ hX (by kernel_rfl) allNil ?_
              have hr := of_some hr
              subst hr
              exact HT.ret (qThenR ⟨[bV false], [], [], by kernel_rfl, by kernel_rfl, rfl, by kernel_rfl, by kernel_rfl, trivial⟩)
            · refine HT.cond0 rfl hb30 ?_
              refine HT.skip (qThen ?_)
              refine HT.rg2 [oH] ⟨[(1, nV a1), (2, iV a2), (3, pV 0 0), (8, aV 1), (9, bV y9.2), (10, pV 2 0), (11, aV 3), (12, aV 4), (13, bV y15.2), (14, iV (1 : Int))], [(0, .box [nC a0.1, nC a0.2.1, .dat (.sl tLI) a0.2.2]), (1, .seq tI y9.1), (2, .box [.all 5, .all 6, .all 7]), (3, .seq tI y13), (4, .seq tI y15.1), (5, .seq tI y11.1), (6, .seq tI y11.2.1), (7, .seq (.own tI) y11.2.2)], 12⟩ hX (by kernel_rfl) allNil ?_
              obtain ⟨y31, hc32, hr⟩ := of_bind hr
              refine HT.rg2 [oH, oH, ⟨none, .call [.own (.st (.pair tLI (.pair tLI (.sl (.own tI))))), .imm tI] [⟨false, tI, y31.1⟩] [⟨(.st (.pair tLI (.pair tLI (.sl (.own tI))))), y31.2⟩]⟩, oH] ⟨[(1, nV a1), (2, iV a2), (3, pV 0 0), (8, aV 1), (9, bV y9.2), (11, aV 3), (12, aV 4), (13, bV y15.2), (14, iV y31.1)], [(0, .box [nC a0.1, nC a0.2.1, .dat (.sl tLI) a0.2.2]), (1, .seq tI y9.1), (3, .seq tI y13), (4, .seq tI y15.1)], 12⟩ hX (by kernel_rfl) (allCons (f15_ok hc32) allNil) ?_
              obtain ⟨y33, hc34, hr⟩ := of_bind hr
              refine HT.rg2 [oH, oH, ⟨none, .call [.own tLI, .imm tI] [⟨false, tI, y33.1⟩] [⟨tLI, y33.2⟩]⟩, oH] ⟨[(1, nV a1), (2, iV a2), (3, pV 0 0), (8, aV 1), (9, bV y9.2), (12, aV 4), (13, bV y15.2), (14, iV y33.1)], [(0, .box [nC a0.1, nC a0.2.1, .dat (.sl tLI) a0.2.2]), (1, .seq tI y9.1), (4, .seq tI y15.1)], 12⟩ hX (by kernel_rfl) (allCons (f21_ok hc34) allNil) ?_
              refine HT.seq ?_
              obtain ⟨v35', hT37, hr⟩ := of_bind hr
              refine HT.join (fun (v35 : Bool) => ⟨[(1, nV a1), (2, iV a2), (3, pV 0 0), (8, aV 1), (9, bV y9.2), (12, aV 2), (84, bV v35)], [(0, .box [nC a0.1, nC a0.2.1, .dat (.sl tLI) a0.2.2]), (1, .seq tI y9.1), (2, .seq tI y15.1)], 3⟩) (fun v => v = v35') (fun v35 hv36 => ?_) (fun cont => ?_)
              · subst hv36
                rcases of_bif hr with ⟨hb38, hr⟩ | ⟨hb38, hr⟩
                · refine HT.cond1 rfl hb38 ?_
                  refine HT.rg2 [oH] ⟨[(6, bV false)], [], 3⟩ hX (by kernel_rfl) allNil ?_
                  have hr := of_some hr
                  subst hr
                  exact HT.ret (qThenR ⟨[bV false], [], [], by kernel_rfl, by kernel_rfl, rfl, by kernel_rfl, by kernel_rfl, trivial⟩)
                · refine HT.cond0 rfl hb38 ?_
                  refine HT.skip (qThen ?_)
                  refine HT.rg2 [oH] ⟨[(1, nV a1), (2, iV a2), (3, pV 0 0), (8, aV 1), (9, bV y9.2), (12, aV 2), (15, iV (1 : Int))], [(0, .box [nC a0.1, nC a0.2.1, .dat (.sl tLI) a0.2.2]), (1, .seq tI y9.1), (2, .seq tI y15.1)], 3⟩ hX (by kernel_rfl) allNil ?_
                  obtain ⟨y39, hc40, hr⟩ := of_bind hr
                  refine HT.rg2 [oH, oH, ⟨none, .call [.own tLI, .imm tI] [⟨false, tI, y39.1⟩] [⟨tLI, y39.2⟩]⟩, oH] ⟨[(1, nV a1), (2, iV a2), (3, pV 0 0), (8, aV 1), (9, bV y9.2), (12, aV 2), (15, iV y39.1)], [(2, .seq tI y39.2), (0, .box [nC a0.1, nC a0.2.1, .dat (.sl tLI) a0.2.2]), (1, .seq tI y9.1)], 3⟩ hX (by kernel_rfl) (allCons (f21_ok hc40) allNil) ?_
                  refine HT.rg2 [oH] ⟨[(1, nV a1), (2, iV a2), (3, pV 0 0), (8, aV 1), (9, bV y9.2), (12, aV 2), (15, iV y39.1), (16, iV (1 : Int))], [(2, .seq tI y39.2), (0, .box [nC a0.1, nC a0.2.1, .dat (.sl tLI) a0.2.2]), (1, .seq tI y9.1)], 3⟩ hX (by kernel_rfl) allNil ?_
                  obtain ⟨y41, hc42, hr⟩ := of_bind hr
                  refine HT.rg2 [oH, oH, ⟨none, .call [.imm tLI, .imm tI] [⟨false, tI, y41⟩] []⟩, oH] ⟨[(1, nV a1), (2, iV a2), (3, pV 0 0), (8, aV 1), (9, bV y9.2), (12, aV 2), (15, iV y39.1), (16, iV y41)], [(2, .seq tI y39.2), (0, .box [nC a0.1, nC a0.2.1, .dat (.sl tLI) a0.2.2]), (1, .seq tI y9.1)], 3⟩ hX (by kernel_rfl) (allCons (f22_ok hc42) allNil) ?_
                  refine HT.seq ?_
                  refine HT.rg2 (oHs 2) ⟨[(1, nV a1), (2, iV a2), (3, pV 0 0), (8, aV 1), (9, bV y9.2), (12, aV 2), (15, iV y39.1), (16, iV y41), (92, bV (decide (y41 < (0 : Int))))], [(2, .seq tI y39.2), (0, .box [nC a0.1, nC a0.2.1, .dat (.sl tLI) a0.2.2]), (1, .seq tI y9.1)], 3⟩ hX (by kernel_rfl) allNil ?_
                  rcases of_bif hr with ⟨hb43, hr⟩ | ⟨hb43, hr⟩
                  · refine HT.cond1 rfl hb43 ?_
                    refine HT.rg2 [oH] ⟨[(6, bV false)], [], 3⟩ hX (by kernel_rfl) allNil ?_
                    have hr := of_some hr
                    subst hr
                    exact HT.ret (qThenR ⟨[bV false], [], [], by kernel_rfl, by kernel_rfl, rfl, by kernel_rfl, by kernel_rfl, trivial⟩)
                  · refine HT.cond0 rfl hb43 ?_
                    refine HT.skip (qThen ?_)
                    refine HT.seq ?_
                    refine HT.rg2 (oHs 3) ⟨[(1, nV a1), (2, iV a2), (3, pV 0 0), (8, aV 1), (9, bV y9.2), (12, aV 2), (15, iV y39.1), (95, bV (y41 != y39.1))], [(2, .seq tI y39.2), (0, .box [nC a0.1, nC a0.2.1, .dat (.sl tLI) a0.2.2]), (1, .seq tI y9.1)], 3⟩ hX (by kernel_rfl) allNil ?_
                    rcases of_bif hr with ⟨hb44, hr⟩ | ⟨hb44, hr⟩
                    · refine HT.cond1 rfl hb44 ?_
                      refine HT.rg2 [oH] ⟨[(6, bV false)], [], 3⟩ hX (by kernel_rfl) allNil ?_
                      have hr := of_some hr
                      subst hr
                      exact HT.ret (qThenR ⟨[bV false], [], [], by kernel_rfl, by kernel_rfl, rfl, by kernel_rfl, by kernel_rfl, trivial⟩)
                    · refine HT.cond0 rfl hb44 ?_
                      refine HT.skip (qThen ?_)
                      obtain ⟨y45, hc46, hr⟩ := of_bind hr
                      obtain ⟨y47, hc48, hr⟩ := of_bind hr
                      obtain ⟨y49, hc50, hr⟩ := of_bind hr
                      refine HT.rg2 [oH, ⟨none, .call [.imm (.st (.pair tLI (.pair tLI (.sl tLI))))] [⟨true, (.st (.pair tLI (.pair tLI (.sl (.own tI))))), y45⟩] []⟩, oH, ⟨none, .call [.imm tLI] [⟨true, tLI, y47⟩] []⟩, oH, ⟨none, .call [.imm (.st (.pair tLI (.pair tLI (.sl tLI)))), .imm tLI, .imm tI] [⟨true, tLI, y49.1⟩, ⟨false, .bool, y49.2⟩] []⟩, oH, oH, oH, oH, oH] ⟨[(8, aV 1), (9, bV y9.2), (12, aV 2), (15, iV y39.1), (17, aV 7), (18, bV y49.2)], [(7, .seq tI y49.1), (2, .seq tI y39.2), (1, .seq tI y9.1)], 8⟩ hX (by kernel_rfl) (allCons (f12_ok hc46) (allCons (f18_ok hc48) (allCons (f19_ok hc50) allNil))) ?_
                      refine HT.seq ?_
                      obtain ⟨v51', hT53, hr⟩ := of_bind hr
                      refine HT.join (fun (v51 : Bool) => ⟨[(12, aV 0), (15, iV y39.1), (113, bV v51)], [(0, .seq tI y39.2)], 1⟩) (fun v => v = v51') (fun v51 hv52 => ?_) (fun cont => ?_)
                      · subst hv52
                        rcases of_bif hr with ⟨hb54, hr⟩ | ⟨hb54, hr⟩
                        · refine HT.cond1 rfl hb54 ?_
                          refine HT.rg2 [oH] ⟨[(6, bV false)], [], 1⟩ hX (by kernel_rfl) allNil ?_
                          have hr := of_some hr
                          subst hr
                          exact HT.ret (qThenR ⟨[bV false], [], [], by kernel_rfl, by kernel_rfl, rfl, by kernel_rfl, by kernel_rfl, trivial⟩)
                        · refine HT.cond0 rfl hb54 ?_
                          refine HT.skip (qThen ?_)
                          refine HT.rg2 [oH] ⟨[(12, aV 0), (15, iV y39.1), (16, iV (1 : Int))], [(0, .seq tI y39.2)], 1⟩ hX (by kernel_rfl) allNil ?_
                          obtain ⟨y55, hc56, hr⟩ := of_bind hr
                          refine HT.rg2 [oH, oH, ⟨none, .call [.imm tLI, .imm tI] [⟨false, tI, y55⟩] []⟩, oH] ⟨[(15, iV y39.1), (16, iV y55)], [], 1⟩ hX (by kernel_rfl) (allCons (f22_ok hc56) allNil) ?_
                          refine HT.seq ?_
                          refine HT.rg2 (oHs 2) ⟨[(15, iV y39.1), (16, iV y55), (118, bV (decide (y55 < (0 : Int))))], [], 1⟩ hX (by kernel_rfl) allNil ?_
                          rcases of_bif hr with ⟨hb57, hr⟩ | ⟨hb57, hr⟩
                          · refine HT.cond1 rfl hb57 ?_
                            refine HT.rg2 [oH] ⟨[(6, bV false)], [], 1⟩ hX (by kernel_rfl) allNil ?_
                            have hr := of_some hr
                            subst hr
                            exact HT.ret (qThenR ⟨[bV false], [], [], by kernel_rfl, by kernel_rfl, rfl, by kernel_rfl, by kernel_rfl, trivial⟩)
                          · refine HT.cond0 rfl hb57 ?_
                            refine HT.skip (qThen ?_)
                            refine HT.seq ?_
                            refine HT.rg2 (oHs 3) ⟨[(121, bV (y55 != y39.1))], [], 1⟩ hX (by kernel_rfl) allNil ?_
                            rcases of_bif hr with ⟨hb58, hr⟩ | ⟨hb58, hr⟩
                            · refine HT.cond1 rfl hb58 ?_
                              refine HT.rg2 [oH] ⟨[(6, bV false)], [], 1⟩ hX (by kernel_rfl) allNil ?_
                              have hr := of_some hr
                              subst hr
                              exact HT.ret (qThenR ⟨[bV false], [], [], by kernel_rfl, by kernel_rfl, rfl, by kernel_rfl, by kernel_rfl, trivial⟩)
                            · refine HT.cond0 rfl hb58 ?_
                              refine HT.skip (qThen ?_)
                              refine HT.rg2 [oH] ⟨[(6, bV true)], [], 1⟩ hX (by kernel_rfl) allNil ?_
                              have hr := of_some hr
                              subst hr
                              exact HT.ret ⟨[bV true], [], [], by kernel_rfl, by kernel_rfl, rfl, by kernel_rfl, by kernel_rfl, trivial⟩
                      · obtain ⟨y59, hc60, hT53⟩ := of_bind hT53
                        rcases of_bif hT53 with ⟨hb61, hT53⟩ | ⟨hb61, hT53⟩
                        · exact HT.rgK [oH, oH, ⟨none, .call [.imm tLI, .imm tLI] [⟨false, .bool, y59⟩] []⟩, oH, oH, ⟨some true, .no⟩, ⟨some true, .no⟩, ⟨some true, .no⟩, ⟨none, .tv true⟩] [(2, 0)] [] hX (by kernel_rfl) (allCons (f20_ok hc60) (allCons hb61 (allCons hb61 (allCons hb61 (allCons hb61 allNil))))) (fun _ h => (qThen (h.ht (cont true (of_some hT53)))))
                        · exact HT.rgK [oH, oH, ⟨none, .call [.imm tLI, .imm tLI] [⟨false, .bool, y59⟩] []⟩, oH, oH, ⟨some false, .no⟩, ⟨some false, .no⟩, ⟨some false, .no⟩, ⟨none, .tv false⟩] [(2, 0)] [] hX (by kernel_rfl) (allCons (f20_ok hc60) (allCons hb61 (allCons hb61 (allCons hb61 (allCons hb61 allNil))))) (fun _ h => (qThen (h.ht (cont (y49.2 != y9.2) (of_some hT53)))))
              · rcases of_bif hT37 with ⟨hb62, hT37⟩ | ⟨hb62, hT37⟩
                · exact HT.rgK [oH, oH, oH, ⟨some true, .no⟩, ⟨some true, .no⟩, ⟨some true, .no⟩, ⟨some true, .no⟩, ⟨none, .tv true⟩, oH, ⟨some true, .no⟩, ⟨some true, .no⟩, ⟨some true, .no⟩, ⟨none, .tv true⟩] [(0, 0), (1, 1), (4, 2)] [] hX (by kernel_rfl) (allCons hb62 (allCons hb62 (allCons hb62 (allCons hb62 (allCons hb62 (allCons (rfl : true = true) (allCons (rfl : true = true) (allCons (rfl : true = true) (allCons (rfl : true = true) allNil))))))))) (fun _ h => (qThen (h.ht (cont true (of_some hT37)))))
                · obtain ⟨y63, hc64, hT37⟩ := of_bind hT37
                  rcases of_bif hT37 with ⟨hb65, hT37⟩ | ⟨hb65, hT37⟩
                  · exact HT.rgK [oH, oH, oH, ⟨some false, .no⟩, ⟨some false, .no⟩, ⟨some false, .call [.imm tLI, .imm tLI] [⟨false, .bool, y63⟩] []⟩, ⟨some false, .no⟩, ⟨none, .tv false⟩, oH, ⟨some true, .no⟩, ⟨some true, .no⟩, ⟨some true, .no⟩, ⟨none, .tv true⟩] [(0, 0), (1, 1), (4, 2)] [] hX (by kernel_rfl) (allCons hb62 (allCons hb62 (allCons hb62 (allCons (f20_ok hc64) (allCons hb62 (allCons hb62 (allCons hb65 (allCons hb65 (allCons hb65 (allCons hb65 allNil)))))))))) (fun _ h => (qThen (h.ht (cont true (of_some hT37)))))
                  · exact HT.rgK [oH, oH, oH, ⟨some false, .no⟩, ⟨some false, .no⟩, ⟨some false, .call [.imm tLI, .imm tLI] [⟨false, .bool, y63⟩] []⟩, ⟨some false, .no⟩, ⟨none, .tv false⟩, oH, ⟨some false, .no⟩, ⟨some false, .no⟩, ⟨some false, .no⟩, ⟨none, .tv false⟩] [(0, 0), (1, 1), (4, 2)] [] hX (by kernel_rfl) (allCons hb62 (allCons hb62 (allCons hb62 (allCons (f20_ok hc64) (allCons hb62 (allCons hb62 (allCons hb65 (allCons hb65 (allCons hb65 (allCons hb65 allNil)))))))))) (fun _ h => (qThen (h.ht (cont (y15.2 != y9.2) (of_some hT37)))))
      · obtain ⟨y66, hc67, hT19⟩ := of_bind hT19
        rcases of_bif hT19 with ⟨hb68, hT19⟩ | ⟨hb68, hT19⟩
        · exact HT.rgK [oH, oH, ⟨none, .call [.imm tLI, .imm tLI] [⟨false, .bool, y66⟩] []⟩, oH, oH, ⟨some true, .no⟩, ⟨some true, .no⟩, ⟨some true, .no⟩, ⟨none, .tv true⟩] [(0, 0), (5, 1), (9, 2), (10, 3), (11, 4), (6, 5), (7, 6), (8, 7)] [] hX (by kernel_rfl) (allCons (f20_ok hc67) (allCons hb68 (allCons hb68 (allCons hb68 (allCons hb68 allNil))))) (fun _ h => (qThen (h.ht (cont true (of_some hT19)))))
        · exact HT.rgK [oH, oH, ⟨none, .call [.imm tLI, .imm tLI] [⟨false, .bool, y66⟩] []⟩, oH, oH, ⟨some false, .no⟩, ⟨some false, .no⟩, ⟨some false, .no⟩, ⟨none, .tv false⟩] [(0, 0), (5, 1), (9, 2), (10, 3), (11, 4), (6, 5), (7, 6), (8, 7)] [] hX (by kernel_rfl) (allCons (f20_ok hc67) (allCons hb68 (allCons hb68 (allCons hb68 (allCons hb68 allNil))))) (fun _ h => (qThen (h.ht (cont (y15.2 != y9.2) (of_some hT19)))))

end Go.Proofs
