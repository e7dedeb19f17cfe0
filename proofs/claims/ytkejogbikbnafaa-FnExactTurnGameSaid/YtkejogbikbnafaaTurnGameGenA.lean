import Derived.Test.YtkejogbikbnafaaLibC
import Derived.Test.YtkejogbikbnafaaProg
set_option linter.unusedVariables false
set_option linter.unusedSimpArgs false
set_option linter.unusedSectionVars false
/-
  Functions as plain functions, and their contracts. Printed by a program.
-/
namespace Go.Proofs
open Go.Ide

noncomputable def laws_szInt64S (a0 : List Int) (a1 : Int) : Option (Int) :=
  bif (decide ((wsub .i64 a1 (lenI a0)) < (0 : Int))) then
    some (-1 : Int)
  else
    some (wsub .i64 a1 (lenI a0))

theorem f43_ok {a0 : List Int} {a1 : Int} {r : Int} (hr : laws_szInt64S a0 a1 = some r) : CallOK Try.prog 43 [.imm tLI a0, .imm tI a1] [⟨false, tI, r⟩] [] := by
  unfold laws_szInt64S at hr
  refine CallOK.of_body (ts := [(false, tI)]) Try.func43 rfl (by kernel_rfl) (Nat.le_of_ble_eq_true (by kernel_rfl)) fun cx hP hN hO hF => ?_
  have hO : cx.own.map Prod.fst = [] := hO
  have hX := CxIs.mk hP hN hO
  have hF := hF rfl
  show HT cx ⟨[(0, nV a0), (1, iV a1)], [], 0⟩ _ _
  refine HT.rg2 [oH] ⟨[(0, nV a0), (1, iV a1)], [], 0⟩ hX (by kernel_rfl) allNil ?_
  refine HT.rg2 (oHs 5) ⟨[(1, iV (wsub .i64 a1 (lenI a0)))], [], 0⟩ hX (by kernel_rfl) allNil ?_
  refine HT.seq ?_
  refine HT.rg2 (oHs 2) ⟨[(1, iV (wsub .i64 a1 (lenI a0))), (10, bV (decide ((wsub .i64 a1 (lenI a0)) < (0 : Int))))], [], 0⟩ hX (by kernel_rfl) allNil ?_
  rcases of_bif hr with ⟨hb1, hr⟩ | ⟨hb1, hr⟩
  · refine HT.cond1 rfl hb1 ?_
    refine HT.rg2 [oH] ⟨[(4, iV (-1 : Int))], [], 0⟩ hX (by kernel_rfl) allNil ?_
    have hr := of_some hr
    subst hr
    exact HT.ret (qThenR ⟨[iV (-1 : Int)], [], [], by kernel_rfl, by kernel_rfl, rfl, by kernel_rfl, by kernel_rfl, trivial⟩)
  · refine HT.cond0 rfl hb1 ?_
    refine HT.skip (qThen ?_)
    refine HT.rg2 (oHs 2) ⟨[(4, iV (wsub .i64 a1 (lenI a0)))], [], 0⟩ hX (by kernel_rfl) allNil ?_
    have hr := of_some hr
    subst hr
    exact HT.ret ⟨[iV (wsub .i64 a1 (lenI a0))], [], [], by kernel_rfl, by kernel_rfl, rfl, by kernel_rfl, by kernel_rfl, trivial⟩

noncomputable def laws_szInt64SS_B1 (a0 : List (List Int)) (s2 : Int × Int) : Option ((Int × Int) ⊕ (Int ⊕ Unit)) :=
  bif (decide (s2.2 < (lenI a0))) then
    guardP ((0 : Int) ≤ s2.2 ∧ s2.2 < lenI a0) (
      (laws_szInt64S (List.getD a0 (Int.toNat s2.2) ([] : List Int)) s2.1).bind fun y11 =>
      bif (decide (y11 < (0 : Int))) then
        some (.inr (.inr ()))
      else
        some (.inl (y11, (wadd .i64 s2.2 (1 : Int)))))
  else
    some (.inr (.inl s2.1))

noncomputable def laws_szInt64SS (a0 : List (List Int)) (a1 : Int) : Option (Int) :=
  bif (decide ((wsub .i64 a1 (lenI a0)) < (0 : Int))) then
    some (-1 : Int)
  else
    (rounds (laws_szInt64SS_B1 a0) ((wsub .i64 a1 (lenI a0)), (0 : Int))).bind fun r3 => match r3 with
      | .inl r4 =>
        some r4
      | .inr r5 =>
        some (-1 : Int)

theorem f44_ok {a0 : List (List Int)} {a1 : Int} {r : Int} (hr : laws_szInt64SS a0 a1 = some r) : CallOK Try.prog 44 [.imm (.sl tLI) a0, .imm tI a1] [⟨false, tI, r⟩] [] := by
  unfold laws_szInt64SS at hr
  refine CallOK.of_body (ts := [(false, tI)]) Try.func44 rfl (by kernel_rfl) (Nat.le_of_ble_eq_true (by kernel_rfl)) fun cx hP hN hO hF => ?_
  have hO : cx.own.map Prod.fst = [] := hO
  have hX := CxIs.mk hP hN hO
  have hF := hF rfl
  show HT cx ⟨[(0, .one (.dat (.sl tLI) a0)), (1, iV a1)], [], 0⟩ _ _
  refine HT.rg2 [oH] ⟨[(0, .one (.dat (.sl tLI) a0)), (1, iV a1)], [], 0⟩ hX (by kernel_rfl) allNil ?_
  refine HT.rg2 (oHs 5) ⟨[(0, .one (.dat (.sl tLI) a0)), (1, iV (wsub .i64 a1 (lenI a0)))], [], 0⟩ hX (by kernel_rfl) allNil ?_
  refine HT.seq ?_
  refine HT.rg2 (oHs 2) ⟨[(0, .one (.dat (.sl tLI) a0)), (1, iV (wsub .i64 a1 (lenI a0))), (11, bV (decide ((wsub .i64 a1 (lenI a0)) < (0 : Int))))], [], 0⟩ hX (by kernel_rfl) allNil ?_
  rcases of_bif hr with ⟨hb1, hr⟩ | ⟨hb1, hr⟩
  · refine HT.cond1 rfl hb1 ?_
    refine HT.rg2 [oH] ⟨[(4, iV (-1 : Int))], [], 0⟩ hX (by kernel_rfl) allNil ?_
    have hr := of_some hr
    subst hr
    exact HT.ret (qThenR ⟨[iV (-1 : Int)], [], [], by kernel_rfl, by kernel_rfl, rfl, by kernel_rfl, by kernel_rfl, trivial⟩)
  · refine HT.cond0 rfl hb1 ?_
    refine HT.skip (qThen ?_)
    refine HT.seq ?_
    refine HT.rg2 [oH] ⟨[(0, .one (.dat (.sl tLI) a0)), (1, iV (wsub .i64 a1 (lenI a0))), (5, iV (0 : Int))], [], 0⟩ hX (by kernel_rfl) allNil ?_
    refine HT.block ?_
    obtain ⟨r3, hL14, hr⟩ := of_bind hr
    refine HT.loopL (fun (s2 : Int × Int) => ⟨[(0, .one (.dat (.sl tLI) a0)), (1, iV s2.1), (5, iV s2.2)], [], 0⟩) (fun (r3 : Int ⊕ Unit) => match r3 with | .inl r4 => (.exit 0, ⟨[(1, iV r4)], [], 0⟩) | .inr r5 => (.ret, ⟨[(4, iV (-1 : Int))], [], 0⟩)) (Le.re [] [] hX (by kernel_rfl)) hL14 ?_ (fun s2 x6 hx7 hk8 => ?_)
    · rcases r3 with r4 | r5
      · refine (qBlockX (qThen ?_))
        refine HT.rg2 (oHs 2) ⟨[(4, iV r4)], [], 0⟩ hX (by kernel_rfl) allNil ?_
        have hr := of_some hr
        subst hr
        exact HT.ret ⟨[iV r4], [], [], by kernel_rfl, by kernel_rfl, rfl, by kernel_rfl, by kernel_rfl, trivial⟩
      · have hr := of_some hr
        subst hr
        exact (qBlockR (qThenR ⟨[iV (-1 : Int)], [], [], by kernel_rfl, by kernel_rfl, rfl, by kernel_rfl, by kernel_rfl, trivial⟩))
    · refine HT.seq ?_
      refine HT.rg2 (oHs 4) ⟨[(0, .one (.dat (.sl tLI) a0)), (1, iV s2.1), (5, iV s2.2), (15, bV (decide (s2.2 < (lenI a0))))], [], 0⟩ hX (by kernel_rfl) allNil ?_
      rcases of_bif hx7 with ⟨hb9, hx7⟩ | ⟨hb9, hx7⟩
      · refine HT.cond1 rfl hb9 ?_
        refine HT.skip (qThen ?_)
        refine HT.seq ?_
        refine HT.block ?_
        obtain ⟨hg10, hx7⟩ := of_guard hx7
        obtain ⟨y11, hc12, hx7⟩ := of_bind hx7
        refine HT.rg2 [oH, oH, oH, oH, oH, ⟨none, .call [.imm tLI, .imm tI] [⟨false, tI, y11⟩] []⟩, oH] ⟨[(0, .one (.dat (.sl tLI) a0)), (1, iV y11), (5, iV s2.2)], [], 0⟩ hX (by kernel_rfl) (allCons hg10 (allCons (f43_ok hc12) allNil)) ?_
        refine HT.rg2 (oHs 2) ⟨[(0, .one (.dat (.sl tLI) a0)), (1, iV y11), (5, iV s2.2), (25, bV (decide (y11 < (0 : Int))))], [], 0⟩ hX (by kernel_rfl) allNil ?_
        rcases of_bif hx7 with ⟨hb13, hx7⟩ | ⟨hb13, hx7⟩
        · refine HT.cond1 rfl hb13 ?_
          refine HT.rg2 [oH] ⟨[(4, iV (-1 : Int))], [], 0⟩ hX (by kernel_rfl) allNil ?_
          have hx7 := of_some hx7
          subst hx7
          exact HT.retL (Le.re [] [] hX (by kernel_rfl)) (qBlockR (qThenR (qLoopR (hk8 (.inr ()) rfl))))
        · refine HT.cond0 rfl hb13 ?_
          refine HT.skip (qBlock (qThen ?_))
          have hx7 := of_some hx7
          subst hx7
          exact HT.rgK (oHs 3) [] [] hX (by kernel_rfl) allNil (fun _ h => (qLoopN ⟨(y11, (wadd .i64 s2.2 (1 : Int))), rfl, h⟩))
      · refine HT.cond0 rfl hb9 ?_
        have hx7 := of_some hx7
        subst hx7
        exact HT.exitL (Le.re [] [] hX (by kernel_rfl)) (qThenE (qLoopE (hk8 (.inl s2.1) rfl)))

noncomputable def laws_szGame (a0 : List Int × List Int × List (List Int)) (a1 : Int) : Option (Int) :=
  (laws_szInt64S a0.1 a1).bind fun y1 =>
  bif (decide (y1 < (0 : Int))) then
    some (-1 : Int)
  else
    (laws_szInt64S a0.2.1 y1).bind fun y4 =>
    bif (decide (y4 < (0 : Int))) then
      some (-1 : Int)
    else
      (laws_szInt64SS a0.2.2 y4).bind fun y7 =>
      bif (decide (y7 < (0 : Int))) then
        some (-1 : Int)
      else
        some y7

theorem f10_ok {a0 : List Int × List Int × List (List Int)} {a1 : Int} {r : Int} (hr : laws_szGame a0 a1 = some r) : CallOK Try.prog 10 [.imm (.st (.pair tLI (.pair tLI (.sl tLI)))) a0, .imm tI a1] [⟨false, tI, r⟩] [] := by
  unfold laws_szGame at hr
  refine CallOK.of_body (ts := [(false, tI)]) Try.func10 rfl (by kernel_rfl) (Nat.le_of_ble_eq_true (by kernel_rfl)) fun cx hP hN hO hF => ?_
  have hO : cx.own.map Prod.fst = [] := hO
  have hX := CxIs.mk hP hN hO
  have hF := hF rfl
  show HT cx ⟨[(0, .agg [nC a0.1, nC a0.2.1, .dat (.sl tLI) a0.2.2]), (1, iV a1)], [], 0⟩ _ _
  refine HT.rg2 (oHs 2) ⟨[(1, iV a1), (2, pV 0 0)], [(0, .box [nC a0.1, nC a0.2.1, .dat (.sl tLI) a0.2.2])], 1⟩ hX (by kernel_rfl) allNil ?_
  obtain ⟨y1, hc2, hr⟩ := of_bind hr
  refine HT.rg2 [oH, oH, oH, ⟨none, .call [.imm tLI, .imm tI] [⟨false, tI, y1⟩] []⟩, oH] ⟨[(1, iV y1), (2, pV 0 0)], [(0, .box [nC a0.1, nC a0.2.1, .dat (.sl tLI) a0.2.2])], 1⟩ hX (by kernel_rfl) (allCons (f43_ok hc2) allNil) ?_
  refine HT.seq ?_
  refine HT.rg2 (oHs 2) ⟨[(1, iV y1), (2, pV 0 0), (10, bV (decide (y1 < (0 : Int))))], [(0, .box [nC a0.1, nC a0.2.1, .dat (.sl tLI) a0.2.2])], 1⟩ hX (by kernel_rfl) allNil ?_
  rcases of_bif hr with ⟨hb3, hr⟩ | ⟨hb3, hr⟩
  · refine HT.cond1 rfl hb3 ?_
    refine HT.rg2 [oH] ⟨[(4, iV (-1 : Int))], [], 1⟩ hX (by kernel_rfl) allNil ?_
    have hr := of_some hr
    subst hr
    exact HT.ret (qThenR ⟨[iV (-1 : Int)], [], [], by kernel_rfl, by kernel_rfl, rfl, by kernel_rfl, by kernel_rfl, trivial⟩)
  · refine HT.cond0 rfl hb3 ?_
    refine HT.skip (qThen ?_)
    obtain ⟨y4, hc5, hr⟩ := of_bind hr
    refine HT.rg2 [oH, oH, oH, ⟨none, .call [.imm tLI, .imm tI] [⟨false, tI, y4⟩] []⟩, oH] ⟨[(1, iV y4), (2, pV 0 0)], [(0, .box [nC a0.1, nC a0.2.1, .dat (.sl tLI) a0.2.2])], 1⟩ hX (by kernel_rfl) (allCons (f43_ok hc5) allNil) ?_
    refine HT.seq ?_
    refine HT.rg2 (oHs 2) ⟨[(1, iV y4), (2, pV 0 0), (16, bV (decide (y4 < (0 : Int))))], [(0, .box [nC a0.1, nC a0.2.1, .dat (.sl tLI) a0.2.2])], 1⟩ hX (by kernel_rfl) allNil ?_
    rcases of_bif hr with ⟨hb6, hr⟩ | ⟨hb6, hr⟩
    · refine HT.cond1 rfl hb6 ?_
      refine HT.rg2 [oH] ⟨[(4, iV (-1 : Int))], [], 1⟩ hX (by kernel_rfl) allNil ?_
      have hr := of_some hr
      subst hr
      exact HT.ret (qThenR ⟨[iV (-1 : Int)], [], [], by kernel_rfl, by kernel_rfl, rfl, by kernel_rfl, by kernel_rfl, trivial⟩)
    · refine HT.cond0 rfl hb6 ?_
      refine HT.skip (qThen ?_)
      obtain ⟨y7, hc8, hr⟩ := of_bind hr
      refine HT.rg2 [oH, oH, oH, ⟨none, .call [.imm (.sl tLI), .imm tI] [⟨false, tI, y7⟩] []⟩, oH] ⟨[(1, iV y7)], [], 1⟩ hX (by kernel_rfl) (allCons (f44_ok hc8) allNil) ?_
      refine HT.seq ?_
      refine HT.rg2 (oHs 2) ⟨[(1, iV y7), (22, bV (decide (y7 < (0 : Int))))], [], 1⟩ hX (by kernel_rfl) allNil ?_
      rcases of_bif hr with ⟨hb9, hr⟩ | ⟨hb9, hr⟩
      · refine HT.cond1 rfl hb9 ?_
        refine HT.rg2 [oH] ⟨[(4, iV (-1 : Int))], [], 1⟩ hX (by kernel_rfl) allNil ?_
        have hr := of_some hr
        subst hr
        exact HT.ret (qThenR ⟨[iV (-1 : Int)], [], [], by kernel_rfl, by kernel_rfl, rfl, by kernel_rfl, by kernel_rfl, trivial⟩)
      · refine HT.cond0 rfl hb9 ?_
        refine HT.skip (qThen ?_)
        refine HT.rg2 (oHs 2) ⟨[(4, iV y7)], [], 1⟩ hX (by kernel_rfl) allNil ?_
        have hr := of_some hr
        subst hr
        exact HT.ret ⟨[iV y7], [], [], by kernel_rfl, by kernel_rfl, rfl, by kernel_rfl, by kernel_rfl, trivial⟩

noncomputable def laws_toInt64S_B1 (a0 : List Int) (s2 : Int × List Int) : Option ((Int × List Int) ⊕ (List Int)) :=
  bif (decide (s2.1 < (lenI a0))) then
    guardP ((0 : Int) ≤ s2.1 ∧ s2.1 < lenI a0) (
      guardP ((0 : Int) ≤ s2.1 ∧ s2.1 < lenI s2.2) (
        some (.inl ((wadd .i64 s2.1 (1 : Int)), (List.set s2.2 (Int.toNat s2.1) (List.getD a0 (Int.toNat s2.1) (0 : Int)))))))
  else
    some (.inr s2.2)

noncomputable def laws_toInt64S (a0 : List Int) : Option (List Int) :=
  guardP ((0 : Int) ≤ (lenI a0) ∧ (lenI a0) ≤ 4294967296) (
    (rounds (laws_toInt64S_B1 a0) ((0 : Int), (List.replicate (Int.toNat (lenI a0)) (0 : Int)))).bind fun r4 =>
    some r4)

theorem f18_ok {a0 : List Int} {r : List Int} (hr : laws_toInt64S a0 = some r) : CallOK Try.prog 18 [.imm tLI a0] [⟨true, tLI, r⟩] [] := by
  unfold laws_toInt64S at hr
  refine CallOK.of_body (ts := [(true, tLI)]) Try.func18 rfl (by kernel_rfl) (Nat.le_of_ble_eq_true (by kernel_rfl)) fun cx hP hN hO hF => ?_
  have hO : cx.own.map Prod.fst = [] := hO
  have hX := CxIs.mk hP hN hO
  have hF := hF rfl
  show HT cx ⟨[(0, nV a0)], [], 0⟩ _ _
  refine HT.rg2 [oH] ⟨[(0, nV a0)], [], 0⟩ hX (by kernel_rfl) allNil ?_
  obtain ⟨hg1, hr⟩ := of_guard hr
  refine HT.rg2 [oH, oH, ⟨none, .ty tI⟩, oH] ⟨[(0, nV a0), (3, aV 0)], [(0, .seq tI (List.replicate (Int.toNat (lenI a0)) (0 : Int)))], 1⟩ hX (by kernel_rfl) (allCons (show (0 : Int) ≤ (lenI a0) ∧ (lenI a0) ≤ (lenI a0) ∧ (lenI a0) ≤ 4294967296 from ⟨hg1.1, Int.le_refl _, hg1.2⟩) allNil) ?_
  refine HT.seq ?_
  refine HT.rg2 [oH] ⟨[(0, nV a0), (3, aV 0), (4, iV (0 : Int))], [(0, .seq tI (List.replicate (Int.toNat (lenI a0)) (0 : Int)))], 1⟩ hX (by kernel_rfl) allNil ?_
  refine HT.block ?_
  obtain ⟨r3, hL11, hr⟩ := of_bind hr
  refine HT.loopL (fun (s2 : Int × List Int) => ⟨[(0, nV a0), (3, aV 0), (4, iV s2.1)], [(0, .seq tI s2.2)], 1⟩) (fun (r4 : List Int) => (.exit 0, ⟨[(3, aV 0)], [(0, .seq tI r4)], 1⟩)) (Le.re [(0, 0)] [] hX (by kernel_rfl)) hL11 ?_ (fun s2 x5 hx6 hk7 => ?_)
  · refine (qBlockX (qThen ?_))
    refine HT.rg2 (oHs 2) ⟨[(2, aV 0)], [(0, .seq tI r3)], 1⟩ hX (by kernel_rfl) allNil ?_
    have hr := of_some hr
    subst hr
    exact HT.ret ⟨[aV 0], [0], [], by kernel_rfl, by kernel_rfl, rfl, by kernel_rfl, by kernel_rfl, trivial⟩
  · refine HT.seq ?_
    refine HT.rg2 (oHs 4) ⟨[(0, nV a0), (3, aV 0), (4, iV s2.1), (11, bV (decide (s2.1 < (lenI a0))))], [(0, .seq tI s2.2)], 1⟩ hX (by kernel_rfl) allNil ?_
    rcases of_bif hx6 with ⟨hb8, hx6⟩ | ⟨hb8, hx6⟩
    · refine HT.cond1 rfl hb8 ?_
      refine HT.skip (qThen ?_)
      refine HT.seq ?_
      refine HT.block ?_
      obtain ⟨hg9, hx6⟩ := of_guard hx6
      obtain ⟨hg10, hx6⟩ := of_guard hx6
      refine HT.rgL (oHs 8) ⟨[(0, nV a0), (3, aV 0), (4, iV s2.1)], [(0, .seq tI (List.set s2.2 (Int.toNat s2.1) (List.getD a0 (Int.toNat s2.1) (0 : Int))))], 1⟩ hX (by kernel_rfl) (allCons hg9 (allCons hg10 (allCons (natLt hg10) allNil))) (qBlock (qThen ?_))
      have hx6 := of_some hx6
      subst hx6
      exact HT.rgK (oHs 3) [(0, 0)] [] hX (by kernel_rfl) allNil (fun _ h => (qLoopN ⟨((wadd .i64 s2.1 (1 : Int)), (List.set s2.2 (Int.toNat s2.1) (List.getD a0 (Int.toNat s2.1) (0 : Int)))), rfl, h⟩))
    · refine HT.cond0 rfl hb8 ?_
      have hx6 := of_some hx6
      subst hx6
      exact HT.exitL (Le.re [(0, 0)] [] hX (by kernel_rfl)) (qThenE (qLoopE (hk7 s2.2 rfl)))

noncomputable def laws_toInt64SS_B1 (a0 : List (List Int)) (s2 : Int × List (List Int)) : Option ((Int × List (List Int)) ⊕ (List (List Int))) :=
  bif (decide (s2.1 < (lenI a0))) then
    guardP ((0 : Int) ≤ s2.1 ∧ s2.1 < lenI a0) (
      (laws_toInt64S (List.getD a0 (Int.toNat s2.1) ([] : List Int))).bind fun y10 =>
      guardP ((0 : Int) ≤ s2.1 ∧ s2.1 < lenI s2.2) (
        some (.inl ((wadd .i64 s2.1 (1 : Int)), (List.set s2.2 (Int.toNat s2.1) y10)))))
  else
    some (.inr s2.2)

noncomputable def laws_toInt64SS (a0 : List (List Int)) : Option (List (List Int)) :=
  guardP ((0 : Int) ≤ (lenI a0) ∧ (lenI a0) ≤ 4294967296) (
    (rounds (laws_toInt64SS_B1 a0) ((0 : Int), (List.replicate (Int.toNat (lenI a0)) ([] : List Int)))).bind fun r4 =>
    some r4)

theorem f47_ok {a0 : List (List Int)} {r : List (List Int)} (hr : laws_toInt64SS a0 = some r) : CallOK Try.prog 47 [.imm (.sl tLI) a0] [⟨true, (.sl (.own tI)), r⟩] [] := by
  unfold laws_toInt64SS at hr
  refine CallOK.of_body (ts := [(true, (.sl (.own tI)))]) Try.func47 rfl (by kernel_rfl) (Nat.le_of_ble_eq_true (by kernel_rfl)) fun cx hP hN hO hF => ?_
  have hO : cx.own.map Prod.fst = [] := hO
  have hX := CxIs.mk hP hN hO
  have hF := hF rfl
  show HT cx ⟨[(0, .one (.dat (.sl tLI) a0))], [], 0⟩ _ _
  refine HT.rg2 [oH] ⟨[(0, .one (.dat (.sl tLI) a0))], [], 0⟩ hX (by kernel_rfl) allNil ?_
  obtain ⟨hg1, hr⟩ := of_guard hr
  refine HT.rg2 [oH, oH, ⟨none, .ty (.own tI)⟩, oH] ⟨[(0, .one (.dat (.sl tLI) a0)), (3, aV 0)], [(0, .seq (.own tI) (List.replicate (Int.toNat (lenI a0)) ([] : List Int)))], 1⟩ hX (by kernel_rfl) (allCons (show (0 : Int) ≤ (lenI a0) ∧ (lenI a0) ≤ (lenI a0) ∧ (lenI a0) ≤ 4294967296 from ⟨hg1.1, Int.le_refl _, hg1.2⟩) allNil) ?_
  refine HT.seq ?_
  refine HT.rg2 [oH] ⟨[(0, .one (.dat (.sl tLI) a0)), (3, aV 0), (4, iV (0 : Int))], [(0, .seq (.own tI) (List.replicate (Int.toNat (lenI a0)) ([] : List Int)))], 1⟩ hX (by kernel_rfl) allNil ?_
  refine HT.block ?_
  obtain ⟨r3, hL13, hr⟩ := of_bind hr
  refine HT.loopL (fun (s2 : Int × List (List Int)) => ⟨[(0, .one (.dat (.sl tLI) a0)), (3, aV 0), (4, iV s2.1)], [(0, .seq (.own tI) s2.2)], 1⟩) (fun (r4 : List (List Int)) => (.exit 0, ⟨[(3, aV 0)], [(0, .seq (.own tI) r4)], 1⟩)) (Le.re [(0, 0)] [] hX (by kernel_rfl)) hL13 ?_ (fun s2 x5 hx6 hk7 => ?_)
  · refine (qBlockX (qThen ?_))
    refine HT.rg2 (oHs 2) ⟨[(2, aV 0)], [(0, .seq (.own tI) r3)], 1⟩ hX (by kernel_rfl) allNil ?_
    have hr := of_some hr
    subst hr
    exact HT.ret ⟨[aV 0], [0], [], by kernel_rfl, by kernel_rfl, rfl, by kernel_rfl, by kernel_rfl, trivial⟩
  · refine HT.seq ?_
    refine HT.rg2 (oHs 4) ⟨[(0, .one (.dat (.sl tLI) a0)), (3, aV 0), (4, iV s2.1), (11, bV (decide (s2.1 < (lenI a0))))], [(0, .seq (.own tI) s2.2)], 1⟩ hX (by kernel_rfl) allNil ?_
    rcases of_bif hx6 with ⟨hb8, hx6⟩ | ⟨hb8, hx6⟩
    · refine HT.cond1 rfl hb8 ?_
      refine HT.skip (qThen ?_)
      refine HT.seq ?_
      refine HT.block ?_
      obtain ⟨hg9, hx6⟩ := of_guard hx6
      obtain ⟨y10, hc11, hx6⟩ := of_bind hx6
      obtain ⟨hg12, hx6⟩ := of_guard hx6
      refine HT.regC (rs := [oH, oH, oH, oH, oH, oH, ⟨none, .call [.imm tLI] [⟨true, tLI, y10⟩] []⟩, oH, ⟨none, .opn⟩]) ⟨[(21, .one (.elp 0 (Int.toNat s2.1) 1 0)), (20, aV 1), (19, nV (List.getD a0 (Int.toNat s2.1) ([] : List Int))), (18, .one (.ip tLI (List.getD a0 (Int.toNat s2.1) ([] : List Int)) 0)), (17, iV s2.1), (16, .one (.dat (.sl tLI) a0)), (15, iV s2.1), (14, aV 0), (0, .one (.dat (.sl tLI) a0)), (3, aV 0), (4, iV s2.1), (11, bV (decide (s2.1 < (lenI a0))))], [(0, .opn (.own tI) s2.2 (Int.toNat s2.1) [.all 1] [2]), (0, .opn (.own tI) s2.2 (Int.toNat s2.1) [.all 2] [2]), (2, .seq tI (List.getD s2.2 (Int.toNat s2.1) ([] : List Int))), (1, .seq tI y10), (0, .seq (.own tI) s2.2)], 3⟩ hP hN (by kernel_rfl) (allCons hg9 (allCons (f18_ok hc11) (allCons hg12 (allCons (natLt hg12) allNil)))) (Le.close (own := []) 0 (st' := ⟨[(21, .one (.elp 0 (Int.toNat s2.1) 1 0)), (20, aV 1), (19, nV (List.getD a0 (Int.toNat s2.1) ([] : List Int))), (18, .one (.ip tLI (List.getD a0 (Int.toNat s2.1) ([] : List Int)) 0)), (17, iV s2.1), (16, .one (.dat (.sl tLI) a0)), (15, iV s2.1), (14, aV 0), (0, .one (.dat (.sl tLI) a0)), (3, aV 0), (4, iV s2.1), (11, bV (decide (s2.1 < (lenI a0))))], [(0, .seq (.own tI) (List.set s2.2 (Int.toNat s2.1) y10)), (1, .gone), (2, .seq tI (List.getD s2.2 (Int.toNat s2.1) ([] : List Int)))], 3⟩) hO (by kernel_rfl)) (qBlock (qThen ?_))
      have hx6 := of_some hx6
      subst hx6
      exact HT.rgK (oHs 3) [(0, 0)] [] hX (by kernel_rfl) allNil (fun _ h => (qLoopN ⟨((wadd .i64 s2.1 (1 : Int)), (List.set s2.2 (Int.toNat s2.1) y10)), rfl, h⟩))
    · refine HT.cond0 rfl hb8 ?_
      have hx6 := of_some hx6
      subst hx6
      exact HT.exitL (Le.re [(0, 0)] [] hX (by kernel_rfl)) (qThenE (qLoopE (hk7 s2.2 rfl)))

noncomputable def laws_toGame (a0 : List Int × List Int × List (List Int)) : Option ((List Int × List Int × List (List Int))) :=
  (laws_toInt64S a0.1).bind fun y1 =>
  (laws_toInt64S a0.2.1).bind fun y3 =>
  (laws_toInt64SS a0.2.2).bind fun y5 =>
  some (y1, y3, y5)

theorem f12_ok {a0 : List Int × List Int × List (List Int)} {r : (List Int × List Int × List (List Int))} (hr : laws_toGame a0 = some r) : CallOK Try.prog 12 [.imm (.st (.pair tLI (.pair tLI (.sl tLI)))) a0] [⟨true, (.st (.pair tLI (.pair tLI (.sl (.own tI))))), r⟩] [] := by
  unfold laws_toGame at hr
  refine CallOK.of_body (ts := [(true, (.st (.pair tLI (.pair tLI (.sl (.own tI))))))]) Try.func12 rfl (by kernel_rfl) (Nat.le_of_ble_eq_true (by kernel_rfl)) fun cx hP hN hO hF => ?_
  have hO : cx.own.map Prod.fst = [] := hO
  have hX := CxIs.mk hP hN hO
  have hF := hF rfl
  show HT cx ⟨[(0, .agg [nC a0.1, nC a0.2.1, .dat (.sl tLI) a0.2.2])], [], 0⟩ _ _
  refine HT.rg2 (oHs 2) ⟨[(1, pV 0 0), (2, pV 1 0)], [(1, .box [.nilS, .nilS, .nilS]), (0, .box [nC a0.1, nC a0.2.1, .dat (.sl tLI) a0.2.2])], 2⟩ hX (by kernel_rfl) allNil ?_
  refine HT.rg2 [oH] ⟨[(1, pV 0 0), (2, pV 1 0), (3, pV 2 0)], [(2, .box [.nilS, .nilS, .nilS]), (1, .box [.nilS, .nilS, .nilS]), (0, .box [nC a0.1, nC a0.2.1, .dat (.sl tLI) a0.2.2])], 3⟩ hX (by kernel_rfl) allNil ?_
  obtain ⟨y1, hc2, hr⟩ := of_bind hr
  refine HT.rg2 [oH, oH, ⟨none, .call [.imm tLI] [⟨true, tLI, y1⟩] []⟩, oH, oH] ⟨[(1, pV 0 0), (2, pV 1 0), (3, pV 2 0)], [(2, .box [.all 3, .nilS, .nilS]), (3, .seq tI y1), (1, .box [.nilS, .nilS, .nilS]), (0, .box [nC a0.1, nC a0.2.1, .dat (.sl tLI) a0.2.2])], 4⟩ hX (by kernel_rfl) (allCons (f18_ok hc2) allNil) ?_
  obtain ⟨y3, hc4, hr⟩ := of_bind hr
  refine HT.rg2 [oH, oH, ⟨none, .call [.imm tLI] [⟨true, tLI, y3⟩] []⟩, oH, oH] ⟨[(1, pV 0 0), (2, pV 1 0), (3, pV 2 0)], [(2, .box [.all 3, .all 4, .nilS]), (4, .seq tI y3), (3, .seq tI y1), (1, .box [.nilS, .nilS, .nilS]), (0, .box [nC a0.1, nC a0.2.1, .dat (.sl tLI) a0.2.2])], 5⟩ hX (by kernel_rfl) (allCons (f18_ok hc4) allNil) ?_
  obtain ⟨y5, hc6, hr⟩ := of_bind hr
  refine HT.rg2 [oH, oH, ⟨none, .call [.imm (.sl tLI)] [⟨true, (.sl (.own tI)), y5⟩] []⟩, oH, oH] ⟨[(2, pV 1 0), (3, pV 2 0)], [(2, .box [.all 3, .all 4, .all 5]), (5, .seq (.own tI) y5), (4, .seq tI y3), (3, .seq tI y1), (1, .box [.nilS, .nilS, .nilS])], 6⟩ hX (by kernel_rfl) (allCons (f47_ok hc6) allNil) ?_
  refine HT.rg2 (oHs 2) ⟨[(2, pV 1 0)], [(1, .box [.all 3, .all 4, .all 5]), (5, .seq (.own tI) y5), (4, .seq tI y3), (3, .seq tI y1)], 6⟩ hX (by kernel_rfl) allNil ?_
  have hr := of_some hr
  subst hr
  exact HT.ret ⟨[.agg [.all 3, .all 4, .all 5]], [3, 4, 5], [], by kernel_rfl, by kernel_rfl, rfl, by kernel_rfl, by kernel_rfl, trivial⟩

noncomputable def spec_l00In (a0 : Int) (a1 : Int) (a2 : Int) : Option (Bool) :=
  (show Option (Bool) from
    bif (decide (a0 ≥ a1)) then
      some (decide (a0 ≤ a2))
    else
      some false).bind fun v1 =>
  some v1

theorem f51_ok {a0 : Int} {a1 : Int} {a2 : Int} {r : Bool} (hr : spec_l00In a0 a1 a2 = some r) : CallOK Try.prog 51 [.imm tI a0, .imm tI a1, .imm tI a2] [⟨false, .bool, r⟩] [] := by
  unfold spec_l00In at hr
  refine CallOK.of_body (ts := [(false, .bool)]) Try.func51 rfl (by kernel_rfl) (Nat.le_of_ble_eq_true (by kernel_rfl)) fun cx hP hN hO hF => ?_
  have hO : cx.own.map Prod.fst = [] := hO
  have hX := CxIs.mk hP hN hO
  have hF := hF rfl
  show HT cx ⟨[(0, iV a0), (1, iV a1), (2, iV a2)], [], 0⟩ _ _
  refine HT.rg2 [oH] ⟨[(0, iV a0), (1, iV a1), (2, iV a2)], [], 0⟩ hX (by kernel_rfl) allNil ?_
  obtain ⟨v1', hT3, hr⟩ := of_bind hr
  refine HT.join (fun (v1 : Bool) => ⟨[(6, bV v1)], [], 0⟩) (fun v => v = v1') (fun v1 hv2 => ?_) (fun cont => ?_)
  · subst hv2
    have hr := of_some hr
    subst hr
    exact HT.ret ⟨[bV v1], [], [], by kernel_rfl, by kernel_rfl, rfl, by kernel_rfl, by kernel_rfl, trivial⟩
  · rcases of_bif hT3 with ⟨hb4, hT3⟩ | ⟨hb4, hT3⟩
    · exact HT.rgK [oH, oH, oH, oH, ⟨some true, .no⟩, ⟨some true, .no⟩, ⟨some true, .no⟩, ⟨none, .tv true⟩, oH] [] [] hX (by kernel_rfl) (allCons hb4 (allCons hb4 (allCons hb4 (allCons hb4 allNil)))) (fun _ h => (qThen (h.ht (cont (decide (a0 ≤ a2)) (of_some hT3)))))
    · exact HT.rgK [oH, oH, oH, oH, ⟨some false, .no⟩, ⟨some false, .no⟩, ⟨some false, .no⟩, ⟨none, .tv false⟩, oH] [] [] hX (by kernel_rfl) (allCons hb4 (allCons hb4 (allCons hb4 (allCons hb4 allNil)))) (fun _ h => (qThen (h.ht (cont false (of_some hT3)))))

noncomputable def spec_l07Game_B1 (a0 : List Int × List Int × List (List Int)) (s5 : Int) (s18 : Int) : Option ((Int) ⊕ (Unit ⊕ Unit)) :=
  bif (decide (s18 < (lenI (List.getD a0.2.2 (Int.toNat s5) ([] : List Int))))) then
    (show Option (Bool) from
      guardP ((0 : Int) ≤ s18 ∧ s18 < lenI (List.getD a0.2.2 (Int.toNat s5) ([] : List Int))) (
        (spec_l00In (List.getD (List.getD a0.2.2 (Int.toNat s5) ([] : List Int)) (Int.toNat s18) (0 : Int)) (0 : Int) (wsub .i64 (lenI a0.1) (1 : Int))).bind fun y31 =>
        bif (!y31) then
          some true
        else
          bif (decide (s18 > (0 : Int))) then
            guardP ((0 : Int) ≤ (wsub .i64 s18 (1 : Int)) ∧ (wsub .i64 s18 (1 : Int)) < lenI (List.getD a0.2.2 (Int.toNat s5) ([] : List Int))) (
              some (decide ((List.getD (List.getD a0.2.2 (Int.toNat s5) ([] : List Int)) (Int.toNat s18) (0 : Int)) ≤ (List.getD (List.getD a0.2.2 (Int.toNat s5) ([] : List Int)) (Int.toNat (wsub .i64 s18 (1 : Int))) (0 : Int)))))
          else
            some false)).bind fun v26 =>
    bif v26 then
      some (.inr (.inr ()))
    else
      some (.inl (wadd .i64 s18 (1 : Int)))
  else
    some (.inr (.inl ()))

noncomputable def spec_l07Game_B2 (a0 : List Int × List Int × List (List Int)) (s5 : Int) : Option ((Int) ⊕ (Unit ⊕ Unit)) :=
  bif (decide (s5 < (lenI a0.1))) then
    (show Option (Bool) from
      guardP ((0 : Int) ≤ s5 ∧ s5 < lenI a0.1) (
        (spec_l00In (List.getD a0.1 (Int.toNat s5) (0 : Int)) (0 : Int) (1 : Int)).bind fun y38 =>
        bif (!y38) then
          some true
        else
          guardP ((0 : Int) ≤ s5 ∧ s5 < lenI a0.2.1) (
            (spec_l00In (List.getD a0.2.1 (Int.toNat s5) (0 : Int)) (0 : Int) (8 : Int)).bind fun y42 =>
            bif (!y42) then
              some true
            else
              guardP ((0 : Int) ≤ s5 ∧ s5 < lenI a0.2.2) (
                some (decide ((lenI (List.getD a0.2.2 (Int.toNat s5) ([] : List Int))) < (1 : Int))))))).bind fun v13 =>
    bif v13 then
      some (.inr (.inr ()))
    else
      guardP ((0 : Int) ≤ s5 ∧ s5 < lenI a0.2.2) (
        (rounds (spec_l07Game_B1 a0 s5) (0 : Int)).bind fun r19 => match r19 with
          | .inl r20 =>
            some (.inl (wadd .i64 s5 (1 : Int)))
          | .inr r21 =>
            some (.inr (.inr ())))
  else
    some (.inr (.inl ()))

noncomputable def spec_l07Game (a0 : List Int × List Int × List (List Int)) : Option (Bool) :=
  (show Option (Bool) from
    bif (decide ((lenI a0.1) < (1 : Int))) then
      some true
    else
      bif (decide ((lenI a0.1) > (16 : Int))) then
        some true
      else
        bif ((lenI a0.2.1) != (lenI a0.1)) then
          some true
        else
          some ((lenI a0.2.2) != (lenI a0.1))).bind fun v1 =>
  bif v1 then
    some false
  else
    (rounds (spec_l07Game_B2 a0) (0 : Int)).bind fun r6 => match r6 with
      | .inl r7 =>
        some true
      | .inr r8 =>
        some false

theorem f45_ok {a0 : List Int × List Int × List (List Int)} {r : Bool} (hr : spec_l07Game a0 = some r) : CallOK Try.prog 45 [.pimm (.st (.pair tLI (.pair tLI (.sl tLI)))) a0] [⟨false, .bool, r⟩] [] := by
  unfold spec_l07Game at hr
  refine CallOK.of_body (ts := [(false, .bool)]) Try.func45 rfl (by kernel_rfl) (Nat.le_of_ble_eq_true (by kernel_rfl)) fun cx hP hN hO hF => ?_
  have hO : cx.own.map Prod.fst = [] := hO
  have hX := CxIs.mk hP hN hO
  have hF := hF rfl
  show HT cx ⟨[(0, .one (.ip (.st (.pair tLI (.pair tLI (.sl tLI)))) a0 0))], [], 0⟩ _ _
  refine HT.rg2 [oH] ⟨[(0, .one (.ip (.st (.pair tLI (.pair tLI (.sl tLI)))) a0 0))], [], 0⟩ hX (by kernel_rfl) allNil ?_
  refine HT.rg2 (oHs 6) ⟨[(0, .one (.ip (.st (.pair tLI (.pair tLI (.sl tLI)))) a0 0)), (3, iV (lenI a0.1))], [], 0⟩ hX (by kernel_rfl) allNil ?_
  refine HT.seq ?_
  obtain ⟨v1', hT3, hr⟩ := of_bind hr
  refine HT.join (fun (v1 : Bool) => ⟨[(0, .one (.ip (.st (.pair tLI (.pair tLI (.sl tLI)))) a0 0)), (3, iV (lenI a0.1)), (34, bV v1)], [], 0⟩) (fun v => v = v1') (fun v1 hv2 => ?_) (fun cont => ?_)
  · subst hv2
    rcases of_bif hr with ⟨hb4, hr⟩ | ⟨hb4, hr⟩
    · refine HT.cond1 rfl hb4 ?_
      refine HT.rg2 [oH] ⟨[(2, bV false)], [], 0⟩ hX (by kernel_rfl) allNil ?_
      have hr := of_some hr
      subst hr
      exact HT.ret (qThenR ⟨[bV false], [], [], by kernel_rfl, by kernel_rfl, rfl, by kernel_rfl, by kernel_rfl, trivial⟩)
    · refine HT.cond0 rfl hb4 ?_
      refine HT.skip (qThen ?_)
      refine HT.seq ?_
      refine HT.rg2 (oHs 6) ⟨[(0, .one (.ip (.st (.pair tLI (.pair tLI (.sl tLI)))) a0 0)), (3, iV (lenI a0.1)), (39, iV (lenI a0.1)), (40, iV (0 : Int))], [], 0⟩ hX (by kernel_rfl) allNil ?_
      refine HT.block ?_
      obtain ⟨r6, hL46, hr⟩ := of_bind hr
      refine HT.loopL (fun (s5 : Int) => ⟨[(0, .one (.ip (.st (.pair tLI (.pair tLI (.sl tLI)))) a0 0)), (3, iV (lenI a0.1)), (39, iV (lenI a0.1)), (40, iV s5)], [], 0⟩) (fun (r6 : Unit ⊕ Unit) => match r6 with | .inl r7 => (.exit 0, ⟨[], [], 0⟩) | .inr r8 => (.ret, ⟨[(2, bV false)], [], 0⟩)) (Le.re [] [] hX (by kernel_rfl)) hL46 ?_ (fun s5 x9 hx10 hk11 => ?_)
      · rcases r6 with r7 | r8
        · refine (qBlockX (qThen ?_))
          refine HT.rg2 [oH] ⟨[(2, bV true)], [], 0⟩ hX (by kernel_rfl) allNil ?_
          have hr := of_some hr
          subst hr
          exact HT.ret ⟨[bV true], [], [], by kernel_rfl, by kernel_rfl, rfl, by kernel_rfl, by kernel_rfl, trivial⟩
        · have hr := of_some hr
          subst hr
          exact (qBlockR (qThenR ⟨[bV false], [], [], by kernel_rfl, by kernel_rfl, rfl, by kernel_rfl, by kernel_rfl, trivial⟩))
      · refine HT.rg2 [oH] ⟨[(0, .one (.ip (.st (.pair tLI (.pair tLI (.sl tLI)))) a0 0)), (3, iV (lenI a0.1)), (39, iV (lenI a0.1)), (40, iV s5), (41, bV (decide (s5 < (lenI a0.1))))], [], 0⟩ hX (by kernel_rfl) allNil ?_
        refine HT.seq ?_
        rcases of_bif hx10 with ⟨hb12, hx10⟩ | ⟨hb12, hx10⟩
        · refine HT.cond1 rfl hb12 ?_
          refine HT.skip (qThen ?_)
          refine HT.seq ?_
          refine HT.block ?_
          refine HT.rg2 (oHs 2) ⟨[(0, .one (.ip (.st (.pair tLI (.pair tLI (.sl tLI)))) a0 0)), (3, iV (lenI a0.1)), (4, iV s5), (39, iV (lenI a0.1)), (40, iV s5)], [], 0⟩ hX (by kernel_rfl) allNil ?_
          refine HT.seq ?_
          obtain ⟨v13', hT15, hx10⟩ := of_bind hx10
          refine HT.join (fun (v13 : Bool) => ⟨[(0, .one (.ip (.st (.pair tLI (.pair tLI (.sl tLI)))) a0 0)), (3, iV (lenI a0.1)), (4, iV s5), (39, iV (lenI a0.1)), (40, iV s5), (73, bV v13)], [], 0⟩) (fun v => v = v13') (fun v13 hv14 => ?_) (fun cont => ?_)
          · subst hv14
            rcases of_bif hx10 with ⟨hb16, hx10⟩ | ⟨hb16, hx10⟩
            · refine HT.cond1 rfl hb16 ?_
              refine HT.rg2 [oH] ⟨[(2, bV false)], [], 0⟩ hX (by kernel_rfl) allNil ?_
              have hx10 := of_some hx10
              subst hx10
              exact HT.retL (Le.re [] [] hX (by kernel_rfl)) (qThenR (qBlockR (qThenR (qLoopR (hk11 (.inr ()) rfl)))))
            · refine HT.cond0 rfl hb16 ?_
              refine HT.skip (qThen ?_)
              obtain ⟨hg17, hx10⟩ := of_guard hx10
              refine HT.rg2 (oHs 9) ⟨[(0, .one (.ip (.st (.pair tLI (.pair tLI (.sl tLI)))) a0 0)), (3, iV (lenI a0.1)), (4, iV s5), (39, iV (lenI a0.1)), (40, iV s5), (81, iV (lenI (List.getD a0.2.2 (Int.toNat s5) ([] : List Int)))), (82, iV (0 : Int))], [], 0⟩ hX (by kernel_rfl) (allCons hg17 allNil) ?_
              refine HT.block ?_
              obtain ⟨r19, hL36, hx10⟩ := of_bind hx10
              refine HT.loopL (fun (s18 : Int) => ⟨[(0, .one (.ip (.st (.pair tLI (.pair tLI (.sl tLI)))) a0 0)), (3, iV (lenI a0.1)), (4, iV s5), (39, iV (lenI a0.1)), (40, iV s5), (81, iV (lenI (List.getD a0.2.2 (Int.toNat s5) ([] : List Int)))), (82, iV s18)], [], 0⟩) (fun (r19 : Unit ⊕ Unit) => match r19 with | .inl r20 => (.exit 2, ⟨[(0, .one (.ip (.st (.pair tLI (.pair tLI (.sl tLI)))) a0 0)), (3, iV (lenI a0.1)), (39, iV (lenI a0.1)), (40, iV s5)], [], 0⟩) | .inr r21 => (.ret, ⟨[(2, bV false)], [], 0⟩)) (Le.re [] [] hX (by kernel_rfl)) hL36 ?_ (fun s18 x22 hx23 hk24 => ?_)
              · rcases r19 with r20 | r21
                · refine (qBlockX (qBlock (qThen ?_)))
                  have hx10 := of_some hx10
                  subst hx10
                  exact HT.rgK (oHs 2) [] [] hX (by kernel_rfl) allNil (fun _ h => (qLoopN ⟨(wadd .i64 s5 (1 : Int)), rfl, h⟩))
                · have hx10 := of_some hx10
                  subst hx10
                  exact (qBlockR (qBlockR (qThenR (qLoopR (hk11 (.inr ()) rfl)))))
              · refine HT.rg2 [oH] ⟨[(0, .one (.ip (.st (.pair tLI (.pair tLI (.sl tLI)))) a0 0)), (3, iV (lenI a0.1)), (4, iV s5), (39, iV (lenI a0.1)), (40, iV s5), (81, iV (lenI (List.getD a0.2.2 (Int.toNat s5) ([] : List Int)))), (82, iV s18), (83, bV (decide (s18 < (lenI (List.getD a0.2.2 (Int.toNat s5) ([] : List Int))))))], [], 0⟩ hX (by kernel_rfl) allNil ?_
                refine HT.seq ?_
                rcases of_bif hx23 with ⟨hb25, hx23⟩ | ⟨hb25, hx23⟩
                · refine HT.cond1 rfl hb25 ?_
                  refine HT.skip (qThen ?_)
                  refine HT.seq ?_
                  refine HT.block ?_
                  refine HT.rg2 (oHs 2) ⟨[(0, .one (.ip (.st (.pair tLI (.pair tLI (.sl tLI)))) a0 0)), (3, iV (lenI a0.1)), (4, iV s5), (5, iV s18), (39, iV (lenI a0.1)), (40, iV s5), (81, iV (lenI (List.getD a0.2.2 (Int.toNat s5) ([] : List Int)))), (82, iV s18)], [], 0⟩ hX (by kernel_rfl) allNil ?_
                  obtain ⟨v26', hT28, hx23⟩ := of_bind hx23
                  refine HT.join (fun (v26 : Bool) => ⟨[(0, .one (.ip (.st (.pair tLI (.pair tLI (.sl tLI)))) a0 0)), (3, iV (lenI a0.1)), (4, iV s5), (39, iV (lenI a0.1)), (40, iV s5), (81, iV (lenI (List.getD a0.2.2 (Int.toNat s5) ([] : List Int)))), (82, iV s18), (126, bV v26)], [], 0⟩) (fun v => v = v26') (fun v26 hv27 => ?_) (fun cont => ?_)
                  · subst hv27
                    rcases of_bif hx23 with ⟨hb29, hx23⟩ | ⟨hb29, hx23⟩
                    · refine HT.cond1 rfl hb29 ?_
                      refine HT.rg2 [oH] ⟨[(2, bV false)], [], 0⟩ hX (by kernel_rfl) allNil ?_
                      have hx23 := of_some hx23
                      subst hx23
                      exact HT.retL (Le.re [] [] hX (by kernel_rfl)) (qBlockR (qThenR (qLoopR (hk24 (.inr ()) rfl))))
                    · refine HT.cond0 rfl hb29 ?_
                      refine HT.skip (qBlock (qThen ?_))
                      have hx23 := of_some hx23
                      subst hx23
                      exact HT.rgK (oHs 2) [] [] hX (by kernel_rfl) allNil (fun _ h => (qLoopN ⟨(wadd .i64 s18 (1 : Int)), rfl, h⟩))
                  · obtain ⟨hg30, hT28⟩ := of_guard hT28
                    obtain ⟨y31, hc32, hT28⟩ := of_bind hT28
                    rcases of_bif hT28 with ⟨hb33, hT28⟩ | ⟨hb33, hT28⟩
                    · exact HT.drK 39 [⟨oH, []⟩, ⟨oH, [0]⟩, ⟨oH, [0, 1]⟩, ⟨oH, [0, 1, 2]⟩, ⟨oH, []⟩, ⟨oH, [0, 1, 2, 3, 4]⟩, ⟨oH, [0, 1, 2, 3, 4, 5]⟩, ⟨oH, []⟩, ⟨oH, [0, 1, 2, 3, 4, 5, 6, 7]⟩, ⟨oH, [0, 1, 2, 3, 4, 5, 6, 7, 8]⟩, ⟨oH, []⟩, ⟨oH, [10]⟩, ⟨⟨none, .call [.imm tI, .imm tI, .imm tI] [⟨false, .bool, y31⟩] []⟩, [0, 1, 2, 3, 4, 5, 6, 7, 8, 9, 10, 11]⟩, ⟨oH, [0, 1, 2, 3, 4, 5, 6, 7, 8, 9, 10, 11, 12]⟩, ⟨oH, [0, 1, 2, 3, 4, 5, 6, 7, 8, 9, 10, 11, 12, 13]⟩, ⟨⟨some true, .no⟩, [0, 1, 2, 3, 4, 5, 6, 7, 8, 9, 10, 11, 12, 13, 14]⟩, ⟨⟨some true, .no⟩, [0, 1, 2, 3, 4, 5, 6, 7, 8, 9, 10, 11, 12, 13, 14, 15]⟩, ⟨⟨some true, .no⟩, [0, 1, 2, 3, 4, 5, 6, 7, 8, 9, 10, 11, 12, 13, 14, 15, 16]⟩, ⟨oH, [0, 1, 2, 3, 4, 5, 6, 7, 8, 9, 10, 11, 12, 13, 14, 15, 16, 17]⟩, ⟨oH, [0, 1, 2, 3, 4, 5, 6, 7, 8, 9, 10, 11, 12, 13, 14, 15, 16, 17, 18]⟩, ⟨oH, [0, 1, 2, 3, 4, 5, 6, 7, 8, 9, 10, 11, 12, 13, 14, 15, 16, 17, 18, 19]⟩, ⟨oH, [0, 1, 2, 3, 4, 5, 6, 7, 8, 9, 10, 11, 12, 13, 14, 15, 16, 17, 18, 19, 20]⟩, ⟨oH, [0, 1, 2, 3, 4, 5, 6, 7, 8, 9, 10, 11, 12, 13, 14, 15, 16, 17]⟩, ⟨oH, [0, 1, 2, 3, 4, 5, 6, 7, 8, 9, 10, 11, 12, 13, 14, 15, 16, 17, 18, 19, 20, 21, 22]⟩, ⟨oH, [0, 1, 2, 3, 4, 5, 6, 7, 8, 9, 10, 11, 12, 13, 14, 15, 16, 17, 18, 19, 20, 21, 22, 23]⟩, ⟨oH, [0, 1, 2, 3, 4, 5, 6, 7, 8, 9, 10, 11, 12, 13, 14, 15, 16, 17]⟩, ⟨oH, [0, 1, 2, 3, 4, 5, 6, 7, 8, 9, 10, 11, 12, 13, 14, 15, 16, 17, 18, 19, 20, 21, 22, 23, 24, 25]⟩, ⟨oH, [0, 1, 2, 3, 4, 5, 6, 7, 8, 9, 10, 11, 12, 13, 14, 15, 16, 17, 18, 19, 20, 21, 22, 23, 24, 25, 26]⟩, ⟨oH, [0, 1, 2, 3, 4, 5, 6, 7, 8, 9, 10, 11, 12, 13, 14, 15, 16, 17]⟩, ⟨oH, [0, 1, 2, 3, 4, 5, 6, 7, 8, 9, 10, 11, 12, 13, 14, 15, 16, 17, 28]⟩, ⟨oH, [0, 1, 2, 3, 4, 5, 6, 7, 8, 9, 10, 11, 12, 13, 14, 15, 16, 17, 28, 29]⟩, ⟨oH, [0, 1, 2, 3, 4, 5, 6, 7, 8, 9, 10, 11, 12, 13, 14, 15, 16, 17, 28, 29, 30]⟩, ⟨oH, [0, 1, 2, 3, 4, 5, 6, 7, 8, 9, 10, 11, 12, 13, 14, 15, 16, 17]⟩, ⟨oH, [0, 1, 2, 3, 4, 5, 6, 7, 8, 9, 10, 11, 12, 13, 14, 15, 16, 17, 28, 29, 30, 31, 32]⟩, ⟨oH, [0, 1, 2, 3, 4, 5, 6, 7, 8, 9, 10, 11, 12, 13, 14, 15, 16, 17, 28, 29, 30, 31, 32, 33]⟩, ⟨oH, [0, 1, 2, 3, 4, 5, 6, 7, 8, 9, 10, 11, 12, 13, 14, 15, 16, 17]⟩, ⟨oH, [0, 1, 2, 3, 4, 5, 6, 7, 8, 9, 10, 11, 12, 13, 14, 15, 16, 17, 35]⟩, ⟨oH, [0, 1, 2, 3, 4, 5, 6, 7, 8, 9, 10, 11, 12, 13, 14, 15, 16, 17, 28, 29, 30, 31, 32, 33, 34, 35, 36]⟩, ⟨oH, [0, 1, 2, 3, 4, 5, 6, 7, 8, 9, 10, 11, 12, 13, 14, 15, 16, 17, 28, 29, 30, 31, 32, 33, 34, 35, 36, 37]⟩] [[0, 1, 2, 3, 4, 5, 6, 7, 8, 9, 10, 11, 12, 13, 14, 15, 16, 17, 18, 19, 20, 21, 22, 23, 24, 25, 26, 27, 28, 29, 30, 31, 32, 33, 34, 35, 36, 37, 38], [0, 1, 2, 3, 4, 5, 6, 7, 8, 9, 10, 11, 12, 13, 14, 15, 16, 17, 18, 19, 20, 21, 22, 23, 24, 25, 26, 27, 28, 29, 30, 31, 32, 33, 34, 35, 36, 37, 38, 39], [0, 1, 2, 3, 4, 5, 6, 7, 8, 9, 10, 11, 12, 13, 14, 15, 16, 17, 18, 19, 20, 21, 22, 23, 24, 25, 26, 27, 28, 29, 30, 31, 32, 33, 34, 35, 36, 37, 38, 39, 40]] [oH, ⟨some true, .no⟩, ⟨none, .tv true⟩] [] [] hX (by kernel_rfl) (by kernel_rfl) (allCons hg17 (allCons hg30 (allCons (f51_ok hc32) (allCons hb33 (allCons hb33 (allCons hb33 (allCons hb33 (allCons hb33 allNil)))))))) (fun _ h => (qThen (h.ht (cont true (of_some hT28)))))
                    · rcases of_bif hT28 with ⟨hb34, hT28⟩ | ⟨hb34, hT28⟩
                      · obtain ⟨hg35, hT28⟩ := of_guard hT28
                        exact HT.drK 39 [⟨oH, []⟩, ⟨oH, [0]⟩, ⟨oH, [0, 1]⟩, ⟨oH, [0, 1, 2]⟩, ⟨oH, []⟩, ⟨oH, [0, 1, 2, 3, 4]⟩, ⟨oH, [0, 1, 2, 3, 4, 5]⟩, ⟨oH, []⟩, ⟨oH, [0, 1, 2, 3, 4, 5, 6, 7]⟩, ⟨oH, [0, 1, 2, 3, 4, 5, 6, 7, 8]⟩, ⟨oH, []⟩, ⟨oH, [10]⟩, ⟨⟨none, .call [.imm tI, .imm tI, .imm tI] [⟨false, .bool, y31⟩] []⟩, [0, 1, 2, 3, 4, 5, 6, 7, 8, 9, 10, 11]⟩, ⟨oH, [0, 1, 2, 3, 4, 5, 6, 7, 8, 9, 10, 11, 12]⟩, ⟨oH, [0, 1, 2, 3, 4, 5, 6, 7, 8, 9, 10, 11, 12, 13]⟩, ⟨⟨some false, .no⟩, [0, 1, 2, 3, 4, 5, 6, 7, 8, 9, 10, 11, 12, 13, 14]⟩, ⟨⟨some false, .no⟩, [0, 1, 2, 3, 4, 5, 6, 7, 8, 9, 10, 11, 12, 13, 14, 15]⟩, ⟨⟨some false, .no⟩, [0, 1, 2, 3, 4, 5, 6, 7, 8, 9, 10, 11, 12, 13, 14, 15, 16]⟩, ⟨⟨some true, .no⟩, [0, 1, 2, 3, 4, 5, 6, 7, 8, 9, 10, 11, 12, 13, 14, 15, 16, 17]⟩, ⟨⟨some true, .no⟩, [0, 1, 2, 3, 4, 5, 6, 7, 8, 9, 10, 11, 12, 13, 14, 15, 16, 17, 18]⟩, ⟨⟨some true, .no⟩, [0, 1, 2, 3, 4, 5, 6, 7, 8, 9, 10, 11, 12, 13, 14, 15, 16, 17, 18, 19]⟩, ⟨⟨some true, .no⟩, [0, 1, 2, 3, 4, 5, 6, 7, 8, 9, 10, 11, 12, 13, 14, 15, 16, 17, 18, 19, 20]⟩, ⟨⟨some true, .no⟩, [0, 1, 2, 3, 4, 5, 6, 7, 8, 9, 10, 11, 12, 13, 14, 15, 16, 17]⟩, ⟨⟨some true, .no⟩, [0, 1, 2, 3, 4, 5, 6, 7, 8, 9, 10, 11, 12, 13, 14, 15, 16, 17, 18, 19, 20, 21, 22]⟩, ⟨⟨some true, .no⟩, [0, 1, 2, 3, 4, 5, 6, 7, 8, 9, 10, 11, 12, 13, 14, 15, 16, 17, 18, 19, 20, 21, 22, 23]⟩, ⟨⟨some true, .no⟩, [0, 1, 2, 3, 4, 5, 6, 7, 8, 9, 10, 11, 12, 13, 14, 15, 16, 17]⟩, ⟨⟨some true, .no⟩, [0, 1, 2, 3, 4, 5, 6, 7, 8, 9, 10, 11, 12, 13, 14, 15, 16, 17, 18, 19, 20, 21, 22, 23, 24, 25]⟩, ⟨⟨some true, .no⟩, [0, 1, 2, 3, 4, 5, 6, 7, 8, 9, 10, 11, 12, 13, 14, 15, 16, 17, 18, 19, 20, 21, 22, 23, 24, 25, 26]⟩, ⟨⟨some true, .no⟩, [0, 1, 2, 3, 4, 5, 6, 7, 8, 9, 10, 11, 12, 13, 14, 15, 16, 17]⟩, ⟨⟨some true, .no⟩, [0, 1, 2, 3, 4, 5, 6, 7, 8, 9, 10, 11, 12, 13, 14, 15, 16, 17, 28]⟩, ⟨⟨some true, .no⟩, [0, 1, 2, 3, 4, 5, 6, 7, 8, 9, 10, 11, 12, 13, 14, 15, 16, 17, 28, 29]⟩, ⟨⟨some true, .no⟩, [0, 1, 2, 3, 4, 5, 6, 7, 8, 9, 10, 11, 12, 13, 14, 15, 16, 17, 28, 29, 30]⟩, ⟨⟨some true, .no⟩, [0, 1, 2, 3, 4, 5, 6, 7, 8, 9, 10, 11, 12, 13, 14, 15, 16, 17]⟩, ⟨⟨some true, .no⟩, [0, 1, 2, 3, 4, 5, 6, 7, 8, 9, 10, 11, 12, 13, 14, 15, 16, 17, 28, 29, 30, 31, 32]⟩, ⟨⟨some true, .no⟩, [0, 1, 2, 3, 4, 5, 6, 7, 8, 9, 10, 11, 12, 13, 14, 15, 16, 17, 28, 29, 30, 31, 32, 33]⟩, ⟨⟨some true, .no⟩, [0, 1, 2, 3, 4, 5, 6, 7, 8, 9, 10, 11, 12, 13, 14, 15, 16, 17]⟩, ⟨⟨some true, .no⟩, [0, 1, 2, 3, 4, 5, 6, 7, 8, 9, 10, 11, 12, 13, 14, 15, 16, 17, 35]⟩, ⟨⟨some true, .no⟩, [0, 1, 2, 3, 4, 5, 6, 7, 8, 9, 10, 11, 12, 13, 14, 15, 16, 17, 28, 29, 30, 31, 32, 33, 34, 35, 36]⟩, ⟨⟨some true, .no⟩, [0, 1, 2, 3, 4, 5, 6, 7, 8, 9, 10, 11, 12, 13, 14, 15, 16, 17, 28, 29, 30, 31, 32, 33, 34, 35, 36, 37]⟩] [[0, 1, 2, 3, 4, 5, 6, 7, 8, 9, 10, 11, 12, 13, 14, 15, 16, 17, 18, 19, 20, 21, 22, 23, 24, 25, 26, 27, 28, 29, 30, 31, 32, 33, 34, 35, 36, 37, 38], [0, 1, 2, 3, 4, 5, 6, 7, 8, 9, 10, 11, 12, 13, 14, 15, 16, 17, 18, 19, 20, 21, 22, 23, 24, 25, 26, 27, 28, 29, 30, 31, 32, 33, 34, 35, 36, 37, 38, 39], [0, 1, 2, 3, 4, 5, 6, 7, 8, 9, 10, 11, 12, 13, 14, 15, 16, 17, 18, 19, 20, 21, 22, 23, 24, 25, 26, 27, 28, 29, 30, 31, 32, 33, 34, 35, 36, 37, 38, 39, 40]] [⟨some true, .no⟩, ⟨some false, .tv true⟩, ⟨none, .tv false⟩] [] [] hX (by kernel_rfl) (by kernel_rfl) (allCons hg17 (allCons hg30 (allCons (f51_ok hc32) (allCons hb33 (allCons hb33 (allCons hb33 (allCons hb34 (allCons hb34 (allCons hb34 (allCons hb34 (allCons hb34 (allCons hb34 (allCons hg17 (allCons hb34 (allCons hb34 (allCons hb34 (allCons hg30 (allCons hb34 (allCons hb34 (allCons hb34 (allCons hb34 (allCons hb34 (allCons hb34 (allCons hb34 (allCons hg17 (allCons hb34 (allCons hb34 (allCons hb34 (allCons hb34 (allCons hg35 (allCons hb34 (allCons hb34 (allCons hb33 (allCons hb34 (allCons hb33 allNil))))))))))))))))))))))))))))))))))) (fun _ h => (qThen (h.ht (cont (decide ((List.getD (List.getD a0.2.2 (Int.toNat s5) ([] : List Int)) (Int.toNat s18) (0 : Int)) ≤ (List.getD (List.getD a0.2.2 (Int.toNat s5) ([] : List Int)) (Int.toNat (wsub .i64 s18 (1 : Int))) (0 : Int)))) (of_some hT28)))))
                      · exact HT.drK 39 [⟨oH, []⟩, ⟨oH, [0]⟩, ⟨oH, [0, 1]⟩, ⟨oH, [0, 1, 2]⟩, ⟨oH, []⟩, ⟨oH, [0, 1, 2, 3, 4]⟩, ⟨oH, [0, 1, 2, 3, 4, 5]⟩, ⟨oH, []⟩, ⟨oH, [0, 1, 2, 3, 4, 5, 6, 7]⟩, ⟨oH, [0, 1, 2, 3, 4, 5, 6, 7, 8]⟩, ⟨oH, []⟩, ⟨oH, [10]⟩, ⟨⟨none, .call [.imm tI, .imm tI, .imm tI] [⟨false, .bool, y31⟩] []⟩, [0, 1, 2, 3, 4, 5, 6, 7, 8, 9, 10, 11]⟩, ⟨oH, [0, 1, 2, 3, 4, 5, 6, 7, 8, 9, 10, 11, 12]⟩, ⟨oH, [0, 1, 2, 3, 4, 5, 6, 7, 8, 9, 10, 11, 12, 13]⟩, ⟨⟨some false, .no⟩, [0, 1, 2, 3, 4, 5, 6, 7, 8, 9, 10, 11, 12, 13, 14]⟩, ⟨⟨some false, .no⟩, [0, 1, 2, 3, 4, 5, 6, 7, 8, 9, 10, 11, 12, 13, 14, 15]⟩, ⟨⟨some false, .no⟩, [0, 1, 2, 3, 4, 5, 6, 7, 8, 9, 10, 11, 12, 13, 14, 15, 16]⟩, ⟨⟨some false, .no⟩, [0, 1, 2, 3, 4, 5, 6, 7, 8, 9, 10, 11, 12, 13, 14, 15, 16, 17]⟩, ⟨⟨some false, .no⟩, [0, 1, 2, 3, 4, 5, 6, 7, 8, 9, 10, 11, 12, 13, 14, 15, 16, 17, 18]⟩, ⟨⟨some false, .no⟩, [0, 1, 2, 3, 4, 5, 6, 7, 8, 9, 10, 11, 12, 13, 14, 15, 16, 17, 18, 19]⟩, ⟨⟨some false, .no⟩, [0, 1, 2, 3, 4, 5, 6, 7, 8, 9, 10, 11, 12, 13, 14, 15, 16, 17, 18, 19, 20]⟩, ⟨⟨some false, .no⟩, [0, 1, 2, 3, 4, 5, 6, 7, 8, 9, 10, 11, 12, 13, 14, 15, 16, 17]⟩, ⟨⟨some false, .no⟩, [0, 1, 2, 3, 4, 5, 6, 7, 8, 9, 10, 11, 12, 13, 14, 15, 16, 17, 18, 19, 20, 21, 22]⟩, ⟨⟨some false, .no⟩, [0, 1, 2, 3, 4, 5, 6, 7, 8, 9, 10, 11, 12, 13, 14, 15, 16, 17, 18, 19, 20, 21, 22, 23]⟩, ⟨⟨some false, .no⟩, [0, 1, 2, 3, 4, 5, 6, 7, 8, 9, 10, 11, 12, 13, 14, 15, 16, 17]⟩, ⟨⟨some false, .no⟩, [0, 1, 2, 3, 4, 5, 6, 7, 8, 9, 10, 11, 12, 13, 14, 15, 16, 17, 18, 19, 20, 21, 22, 23, 24, 25]⟩, ⟨⟨some false, .no⟩, [0, 1, 2, 3, 4, 5, 6, 7, 8, 9, 10, 11, 12, 13, 14, 15, 16, 17, 18, 19, 20, 21, 22, 23, 24, 25, 26]⟩, ⟨⟨some false, .no⟩, [0, 1, 2, 3, 4, 5, 6, 7, 8, 9, 10, 11, 12, 13, 14, 15, 16, 17]⟩, ⟨⟨some false, .no⟩, [0, 1, 2, 3, 4, 5, 6, 7, 8, 9, 10, 11, 12, 13, 14, 15, 16, 17, 28]⟩, ⟨⟨some false, .no⟩, [0, 1, 2, 3, 4, 5, 6, 7, 8, 9, 10, 11, 12, 13, 14, 15, 16, 17, 28, 29]⟩, ⟨⟨some false, .no⟩, [0, 1, 2, 3, 4, 5, 6, 7, 8, 9, 10, 11, 12, 13, 14, 15, 16, 17, 28, 29, 30]⟩, ⟨⟨some false, .no⟩, [0, 1, 2, 3, 4, 5, 6, 7, 8, 9, 10, 11, 12, 13, 14, 15, 16, 17]⟩, ⟨⟨some false, .no⟩, [0, 1, 2, 3, 4, 5, 6, 7, 8, 9, 10, 11, 12, 13, 14, 15, 16, 17, 28, 29, 30, 31, 32]⟩, ⟨⟨some false, .no⟩, [0, 1, 2, 3, 4, 5, 6, 7, 8, 9, 10, 11, 12, 13, 14, 15, 16, 17, 28, 29, 30, 31, 32, 33]⟩, ⟨⟨some false, .no⟩, [0, 1, 2, 3, 4, 5, 6, 7, 8, 9, 10, 11, 12, 13, 14, 15, 16, 17]⟩, ⟨⟨some false, .no⟩, [0, 1, 2, 3, 4, 5, 6, 7, 8, 9, 10, 11, 12, 13, 14, 15, 16, 17, 35]⟩, ⟨⟨some false, .no⟩, [0, 1, 2, 3, 4, 5, 6, 7, 8, 9, 10, 11, 12, 13, 14, 15, 16, 17, 28, 29, 30, 31, 32, 33, 34, 35, 36]⟩, ⟨⟨some false, .no⟩, [0, 1, 2, 3, 4, 5, 6, 7, 8, 9, 10, 11, 12, 13, 14, 15, 16, 17, 28, 29, 30, 31, 32, 33, 34, 35, 36, 37]⟩] [[0, 1, 2, 3, 4, 5, 6, 7, 8, 9, 10, 11, 12, 13, 14, 15, 16, 17, 18, 19, 20, 21, 22, 23, 24, 25, 26, 27, 28, 29, 30, 31, 32, 33, 34, 35, 36, 37, 38], [0, 1, 2, 3, 4, 5, 6, 7, 8, 9, 10, 11, 12, 13, 14, 15, 16, 17, 18, 19, 20, 21, 22, 23, 24, 25, 26, 27, 28, 29, 30, 31, 32, 33, 34, 35, 36, 37, 38, 39], [0, 1, 2, 3, 4, 5, 6, 7, 8, 9, 10, 11, 12, 13, 14, 15, 16, 17, 18, 19, 20, 21, 22, 23, 24, 25, 26, 27, 28, 29, 30, 31, 32, 33, 34, 35, 36, 37, 38, 39, 40]] [⟨some false, .no⟩, ⟨some false, .tv false⟩, ⟨none, .tv false⟩] [] [] hX (by kernel_rfl) (by kernel_rfl) (allCons hg17 (allCons hg30 (allCons (f51_ok hc32) (allCons hb33 (allCons hb33 (allCons hb33 (allCons hb34 (allCons hb34 (allCons hb34 (allCons hb34 (allCons hb34 (allCons hb34 (allCons hb34 (allCons hb34 (allCons hb34 (allCons hb34 (allCons hb34 (allCons hb34 (allCons hb34 (allCons hb34 (allCons hb34 (allCons hb34 (allCons hb34 (allCons hb34 (allCons hb34 (allCons hb34 (allCons hb34 (allCons hb34 (allCons hb33 (allCons hb34 (allCons hb33 allNil))))))))))))))))))))))))))))))) (fun _ h => (qThen (h.ht (cont false (of_some hT28)))))
                · refine HT.cond0 rfl hb25 ?_
                  have hx23 := of_some hx23
                  subst hx23
                  exact HT.exitL (Le.re [] [] hX (by kernel_rfl)) (qThenE (qLoopE (hk24 (.inl ()) rfl)))
          · obtain ⟨hg37, hT15⟩ := of_guard hT15
            obtain ⟨y38, hc39, hT15⟩ := of_bind hT15
            rcases of_bif hT15 with ⟨hb40, hT15⟩ | ⟨hb40, hT15⟩
            · exact HT.rgK [oH, oH, oH, oH, oH, oH, oH, ⟨none, .call [.imm tI, .imm tI, .imm tI] [⟨false, .bool, y38⟩] []⟩, oH, oH, ⟨some true, .no⟩, ⟨some true, .no⟩, ⟨some true, .no⟩, ⟨some true, .no⟩, ⟨some true, .no⟩, ⟨some true, .no⟩, ⟨some true, .no⟩, ⟨some true, .no⟩, ⟨some true, .no⟩, ⟨none, .tv true⟩, oH, ⟨some true, .no⟩, ⟨some true, .no⟩, ⟨some true, .no⟩, ⟨some true, .no⟩, ⟨some true, .no⟩, ⟨some true, .no⟩, ⟨some true, .no⟩, ⟨some true, .no⟩, ⟨some true, .no⟩, ⟨none, .tv true⟩] [] [] hX (by kernel_rfl) (allCons hg37 (allCons (f51_ok hc39) (allCons hb40 (allCons hb40 (allCons hb40 (allCons hb40 (allCons hb40 (allCons hb40 (allCons hb40 (allCons hb40 (allCons hb40 (allCons hb40 (allCons (rfl : true = true) (allCons (rfl : true = true) (allCons (rfl : true = true) (allCons (rfl : true = true) (allCons (rfl : true = true) (allCons (rfl : true = true) (allCons (rfl : true = true) (allCons (rfl : true = true) (allCons (rfl : true = true) (allCons (rfl : true = true) allNil)))))))))))))))))))))) (fun _ h => (qThen (h.ht (cont true (of_some hT15)))))
            · obtain ⟨hg41, hT15⟩ := of_guard hT15
              obtain ⟨y42, hc43, hT15⟩ := of_bind hT15
              rcases of_bif hT15 with ⟨hb44, hT15⟩ | ⟨hb44, hT15⟩
              · exact HT.rgK [oH, oH, oH, oH, oH, oH, oH, ⟨none, .call [.imm tI, .imm tI, .imm tI] [⟨false, .bool, y38⟩] []⟩, oH, oH, ⟨some false, .no⟩, ⟨some false, .no⟩, ⟨some false, .no⟩, ⟨some false, .no⟩, ⟨some false, .no⟩, ⟨some false, .no⟩, ⟨some false, .no⟩, ⟨some false, .call [.imm tI, .imm tI, .imm tI] [⟨false, .bool, y42⟩] []⟩, ⟨some false, .no⟩, ⟨none, .tv false⟩, oH, ⟨some true, .no⟩, ⟨some true, .no⟩, ⟨some true, .no⟩, ⟨some true, .no⟩, ⟨some true, .no⟩, ⟨some true, .no⟩, ⟨some true, .no⟩, ⟨some true, .no⟩, ⟨some true, .no⟩, ⟨none, .tv true⟩] [] [] hX (by kernel_rfl) (allCons hg37 (allCons (f51_ok hc39) (allCons hb40 (allCons hb40 (allCons hb40 (allCons hb40 (allCons hb40 (allCons hb40 (allCons hg41 (allCons hb40 (allCons hb40 (allCons (f51_ok hc43) (allCons hb40 (allCons hb40 (allCons hb44 (allCons hb44 (allCons hb44 (allCons hb44 (allCons hb44 (allCons hb44 (allCons hb44 (allCons hb44 (allCons hb44 (allCons hb44 allNil)))))))))))))))))))))))) (fun _ h => (qThen (h.ht (cont true (of_some hT15)))))
              · obtain ⟨hg45, hT15⟩ := of_guard hT15
                exact HT.rgK [oH, oH, oH, oH, oH, oH, oH, ⟨none, .call [.imm tI, .imm tI, .imm tI] [⟨false, .bool, y38⟩] []⟩, oH, oH, ⟨some false, .no⟩, ⟨some false, .no⟩, ⟨some false, .no⟩, ⟨some false, .no⟩, ⟨some false, .no⟩, ⟨some false, .no⟩, ⟨some false, .no⟩, ⟨some false, .call [.imm tI, .imm tI, .imm tI] [⟨false, .bool, y42⟩] []⟩, ⟨some false, .no⟩, ⟨none, .tv false⟩, oH, ⟨some false, .no⟩, ⟨some false, .no⟩, ⟨some false, .no⟩, ⟨some false, .no⟩, ⟨some false, .no⟩, ⟨some false, .no⟩, ⟨some false, .no⟩, ⟨some false, .no⟩, ⟨some false, .no⟩, ⟨none, .tv false⟩] [] [] hX (by kernel_rfl) (allCons hg37 (allCons (f51_ok hc39) (allCons hb40 (allCons hb40 (allCons hb40 (allCons hb40 (allCons hb40 (allCons hb40 (allCons hg41 (allCons hb40 (allCons hb40 (allCons (f51_ok hc43) (allCons hb40 (allCons hb40 (allCons hb44 (allCons hb44 (allCons hb44 (allCons hb44 (allCons hb44 (allCons hb44 (allCons hg45 (allCons hb44 (allCons hb44 (allCons hb44 (allCons hb44 allNil))))))))))))))))))))))))) (fun _ h => (qThen (h.ht (cont (decide ((lenI (List.getD a0.2.2 (Int.toNat s5) ([] : List Int))) < (1 : Int))) (of_some hT15)))))
        · refine HT.cond0 rfl hb12 ?_
          have hx10 := of_some hx10
          subst hx10
          exact HT.exitL (Le.re [] [] hX (by kernel_rfl)) (qThenE (qLoopE (hk11 (.inl ()) rfl)))
  · rcases of_bif hT3 with ⟨hb47, hT3⟩ | ⟨hb47, hT3⟩
    · exact HT.rgK [oH, oH, oH, ⟨some true, .no⟩, ⟨some true, .no⟩, ⟨none, .tv true⟩, oH, ⟨some true, .no⟩, ⟨some true, .no⟩, ⟨some true, .no⟩, ⟨some true, .no⟩, ⟨some true, .no⟩, ⟨some true, .no⟩, ⟨some true, .no⟩, ⟨none, .tv true⟩, oH, ⟨some true, .no⟩, ⟨some true, .no⟩, ⟨some true, .no⟩, ⟨some true, .no⟩, ⟨some true, .no⟩, ⟨some true, .no⟩, ⟨some true, .no⟩, ⟨none, .tv true⟩] [] [] hX (by kernel_rfl) (allCons hb47 (allCons hb47 (allCons hb47 (allCons (rfl : true = true) (allCons (rfl : true = true) (allCons (rfl : true = true) (allCons (rfl : true = true) (allCons (rfl : true = true) (allCons (rfl : true = true) (allCons (rfl : true = true) (allCons (rfl : true = true) (allCons (rfl : true = true) (allCons (rfl : true = true) (allCons (rfl : true = true) (allCons (rfl : true = true) (allCons (rfl : true = true) (allCons (rfl : true = true) (allCons (rfl : true = true) (allCons (rfl : true = true) allNil))))))))))))))))))) (fun _ h => (qThen (h.ht (cont true (of_some hT3)))))
    · rcases of_bif hT3 with ⟨hb48, hT3⟩ | ⟨hb48, hT3⟩
      · exact HT.rgK [oH, oH, oH, ⟨some false, .no⟩, ⟨some false, .no⟩, ⟨none, .tv false⟩, oH, ⟨some true, .no⟩, ⟨some true, .no⟩, ⟨some true, .no⟩, ⟨some true, .no⟩, ⟨some true, .no⟩, ⟨some true, .no⟩, ⟨some true, .no⟩, ⟨none, .tv true⟩, oH, ⟨some true, .no⟩, ⟨some true, .no⟩, ⟨some true, .no⟩, ⟨some true, .no⟩, ⟨some true, .no⟩, ⟨some true, .no⟩, ⟨some true, .no⟩, ⟨none, .tv true⟩] [] [] hX (by kernel_rfl) (allCons hb47 (allCons hb47 (allCons hb47 (allCons hb48 (allCons hb48 (allCons hb48 (allCons hb48 (allCons hb48 (allCons hb48 (allCons hb48 (allCons hb48 (allCons (rfl : true = true) (allCons (rfl : true = true) (allCons (rfl : true = true) (allCons (rfl : true = true) (allCons (rfl : true = true) (allCons (rfl : true = true) (allCons (rfl : true = true) (allCons (rfl : true = true) allNil))))))))))))))))))) (fun _ h => (qThen (h.ht (cont true (of_some hT3)))))
      · rcases of_bif hT3 with ⟨hb49, hT3⟩ | ⟨hb49, hT3⟩
        · exact HT.rgK [oH, oH, oH, ⟨some false, .no⟩, ⟨some false, .no⟩, ⟨none, .tv false⟩, oH, ⟨some false, .no⟩, ⟨some false, .no⟩, ⟨some false, .no⟩, ⟨some false, .no⟩, ⟨some false, .no⟩, ⟨some false, .no⟩, ⟨some false, .no⟩, ⟨none, .tv false⟩, oH, ⟨some true, .no⟩, ⟨some true, .no⟩, ⟨some true, .no⟩, ⟨some true, .no⟩, ⟨some true, .no⟩, ⟨some true, .no⟩, ⟨some true, .no⟩, ⟨none, .tv true⟩] [] [] hX (by kernel_rfl) (allCons hb47 (allCons hb47 (allCons hb47 (allCons hb48 (allCons hb48 (allCons hb48 (allCons hb48 (allCons hb48 (allCons hb48 (allCons hb48 (allCons hb48 (allCons hb49 (allCons hb49 (allCons hb49 (allCons hb49 (allCons hb49 (allCons hb49 (allCons hb49 (allCons hb49 allNil))))))))))))))))))) (fun _ h => (qThen (h.ht (cont true (of_some hT3)))))
        · exact HT.rgK [oH, oH, oH, ⟨some false, .no⟩, ⟨some false, .no⟩, ⟨none, .tv false⟩, oH, ⟨some false, .no⟩, ⟨some false, .no⟩, ⟨some false, .no⟩, ⟨some false, .no⟩, ⟨some false, .no⟩, ⟨some false, .no⟩, ⟨some false, .no⟩, ⟨none, .tv false⟩, oH, ⟨some false, .no⟩, ⟨some false, .no⟩, ⟨some false, .no⟩, ⟨some false, .no⟩, ⟨some false, .no⟩, ⟨some false, .no⟩, ⟨some false, .no⟩, ⟨none, .tv false⟩] [] [] hX (by kernel_rfl) (allCons hb47 (allCons hb47 (allCons hb47 (allCons hb48 (allCons hb48 (allCons hb48 (allCons hb48 (allCons hb48 (allCons hb48 (allCons hb48 (allCons hb48 (allCons hb49 (allCons hb49 (allCons hb49 (allCons hb49 (allCons hb49 (allCons hb49 (allCons hb49 (allCons hb49 allNil))))))))))))))))))) (fun _ h => (qThen (h.ht (cont ((lenI a0.2.2) != (lenI a0.1)) (of_some hT3)))))

noncomputable def spec_l07OwnGame_B1 (a0 : List Int × List Int × List (List Int)) (s3 : Int × List (List Int)) : Option ((Int × List (List Int)) ⊕ (List (List Int))) :=
  bif (decide (s3.1 < (lenI a0.2.2))) then
    guardP ((0 : Int) ≤ s3.1 ∧ s3.1 < lenI a0.2.2) (
      guardP (0 + List.length (List.getD a0.2.2 (Int.toNat s3.1) ([] : List Int)) ≤ appMax) (
        guardP (List.length s3.2 + List.length ([(List.getD a0.2.2 (Int.toNat s3.1) ([] : List Int))] : List (List Int)) ≤ appMax) (
          some (.inl ((wadd .i64 s3.1 (1 : Int)), (s3.2 ++ ([(List.getD a0.2.2 (Int.toNat s3.1) ([] : List Int))] : List (List Int))))))))
  else
    some (.inr s3.2)

noncomputable def spec_l07OwnGame (a0 : List Int × List Int × List (List Int)) : Option ((List Int × List Int × List (List Int))) :=
  guardP (0 + List.length a0.1 ≤ appMax) (
    guardP (0 + List.length a0.2.1 ≤ appMax) (
      (rounds (spec_l07OwnGame_B1 a0) ((0 : Int), ([] : List (List Int)))).bind fun r5 =>
      some (a0.1, a0.2.1, r5)))

theorem f46_ok {a0 : List Int × List Int × List (List Int)} {r : (List Int × List Int × List (List Int))} (hr : spec_l07OwnGame a0 = some r) : CallOK Try.prog 46 [.pimm (.st (.pair tLI (.pair tLI (.sl tLI)))) a0] [⟨true, (.st (.pair tLI (.pair tLI (.sl (.own tI))))), r⟩] [] := by
  unfold spec_l07OwnGame at hr
  refine CallOK.of_body (ts := [(true, (.st (.pair tLI (.pair tLI (.sl (.own tI))))))]) Try.func46 rfl (by kernel_rfl) (Nat.le_of_ble_eq_true (by kernel_rfl)) fun cx hP hN hO hF => ?_
  have hO : cx.own.map Prod.fst = [] := hO
  have hX := CxIs.mk hP hN hO
  have hF := hF rfl
  show HT cx ⟨[(0, .one (.ip (.st (.pair tLI (.pair tLI (.sl tLI)))) a0 0))], [], 0⟩ _ _
  refine HT.rg2 [oH] ⟨[(0, .one (.ip (.st (.pair tLI (.pair tLI (.sl tLI)))) a0 0)), (2, pV 0 0)], [(0, .box [.nilS, .nilS, .nilS])], 1⟩ hX (by kernel_rfl) allNil ?_
  obtain ⟨hg1, hr⟩ := of_guard hr
  obtain ⟨hg2, hr⟩ := of_guard hr
  refine HT.dr2 14 [⟨oH, []⟩, ⟨oH, []⟩, ⟨oH, [1]⟩, ⟨oH, [1, 2]⟩, ⟨oH, [1, 2, 3]⟩, ⟨⟨none, .ty tI⟩, [0, 1, 2, 3, 4]⟩, ⟨oH, []⟩, ⟨oH, []⟩, ⟨oH, [7]⟩, ⟨oH, [7, 8]⟩, ⟨oH, [7, 8, 9]⟩, ⟨⟨none, .ty tI⟩, [0, 1, 2, 3, 4, 5, 6, 7, 8, 9, 10]⟩, ⟨oH, [0, 1, 2, 3, 4, 5, 6, 7, 8, 9, 10, 11]⟩, ⟨oH, []⟩] [[0, 1, 2, 3, 4, 5, 6, 7, 8, 9, 10, 11, 12, 13]] [oH] ⟨[(0, .one (.ip (.st (.pair tLI (.pair tLI (.sl tLI)))) a0 0)), (2, pV 0 0), (3, pV 3 0)], [(3, .box [.all 1, .all 2, .nilS]), (2, .seq tI a0.2.1), (1, .seq tI a0.1), (0, .box [.nilS, .nilS, .nilS])], 4⟩ hX (by kernel_rfl) (by kernel_rfl) (allCons hg1 (allCons hg2 allNil)) ?_
  refine HT.seq ?_
  refine HT.rg2 (oHs 6) ⟨[(0, .one (.ip (.st (.pair tLI (.pair tLI (.sl tLI)))) a0 0)), (2, pV 0 0), (3, pV 3 0), (22, iV (lenI a0.2.2)), (23, iV (0 : Int))], [(3, .box [.all 1, .all 2, .nilS]), (2, .seq tI a0.2.1), (1, .seq tI a0.1), (0, .box [.nilS, .nilS, .nilS])], 4⟩ hX (by kernel_rfl) allNil ?_
  refine HT.block ?_
  obtain ⟨r4, hL13, hr⟩ := of_bind hr
  refine HT.loopL (fun (s3 : Int × List (List Int)) => ⟨[(0, .one (.ip (.st (.pair tLI (.pair tLI (.sl tLI)))) a0 0)), (2, pV 0 0), (3, pV 1 0), (22, iV (lenI a0.2.2)), (23, iV s3.1)], [(0, .box [.nilS, .nilS, .nilS]), (1, .box [.all 2, .all 3, .all 4]), (2, .seq tI a0.1), (3, .seq tI a0.2.1), (4, .seq (.own tI) s3.2)], 5⟩) (fun (r5 : List (List Int)) => (.exit 0, ⟨[(2, pV 0 0), (3, pV 1 0)], [(0, .box [.nilS, .nilS, .nilS]), (1, .box [.all 2, .all 3, .all 4]), (2, .seq tI a0.1), (3, .seq tI a0.2.1), (4, .seq (.own tI) r5)], 5⟩)) (Le.re [(0, 0), (3, 1), (1, 2), (2, 3)] [4] hX (by kernel_rfl)) hL13 ?_ (fun s3 x6 hx7 hk8 => ?_)
  · refine (qBlockX (qThen ?_))
    refine HT.rg2 (oHs 2) ⟨[(2, pV 0 0)], [(0, .box [.all 2, .all 3, .all 4]), (2, .seq tI a0.1), (3, .seq tI a0.2.1), (4, .seq (.own tI) r4)], 5⟩ hX (by kernel_rfl) allNil ?_
    have hr := of_some hr
    subst hr
    exact HT.ret ⟨[.agg [.all 2, .all 3, .all 4]], [2, 3, 4], [], by kernel_rfl, by kernel_rfl, rfl, by kernel_rfl, by kernel_rfl, trivial⟩
  · refine HT.rg2 [oH] ⟨[(0, .one (.ip (.st (.pair tLI (.pair tLI (.sl tLI)))) a0 0)), (2, pV 0 0), (3, pV 1 0), (22, iV (lenI a0.2.2)), (23, iV s3.1), (24, bV (decide (s3.1 < (lenI a0.2.2))))], [(0, .box [.nilS, .nilS, .nilS]), (1, .box [.all 2, .all 3, .all 4]), (2, .seq tI a0.1), (3, .seq tI a0.2.1), (4, .seq (.own tI) s3.2)], 5⟩ hX (by kernel_rfl) allNil ?_
    refine HT.seq ?_
    rcases of_bif hx7 with ⟨hb9, hx7⟩ | ⟨hb9, hx7⟩
    · refine HT.cond1 rfl hb9 ?_
      refine HT.skip (qThen ?_)
      refine HT.seq ?_
      refine HT.block ?_
      refine HT.rg2 (oHs 2) ⟨[(0, .one (.ip (.st (.pair tLI (.pair tLI (.sl tLI)))) a0 0)), (2, pV 0 0), (3, pV 1 0), (4, iV s3.1), (22, iV (lenI a0.2.2)), (23, iV s3.1)], [(0, .box [.nilS, .nilS, .nilS]), (1, .box [.all 2, .all 3, .all 4]), (2, .seq tI a0.1), (3, .seq tI a0.2.1), (4, .seq (.own tI) s3.2)], 5⟩ hX (by kernel_rfl) allNil ?_
      obtain ⟨hg10, hx7⟩ := of_guard hx7
      obtain ⟨hg11, hx7⟩ := of_guard hx7
      obtain ⟨hg12, hx7⟩ := of_guard hx7
      refine HT.drL 12 [⟨oH, []⟩, ⟨oH, [0]⟩, ⟨oH, []⟩, ⟨oH, []⟩, ⟨oH, [3]⟩, ⟨oH, [3, 4]⟩, ⟨oH, [3, 4, 5]⟩, ⟨oH, []⟩, ⟨oH, [3, 4, 5, 6, 7]⟩, ⟨oH, [3, 4, 5, 6, 7, 8]⟩, ⟨⟨none, .ty tI⟩, [2, 3, 4, 5, 6, 7, 8, 9]⟩, ⟨⟨none, .ty (.own tI)⟩, [2, 3, 4, 5, 6, 7, 8, 9, 10]⟩] [[0, 1, 2, 3, 4, 5, 6, 7, 8, 9, 10, 11], [0, 1, 2, 3, 4, 5, 6, 7, 8, 9, 10, 11, 12], [0, 1, 2, 3, 4, 5, 6, 7, 8, 9, 10, 11, 12, 13]] [⟨none, .ty (.own tI)⟩, oH, oH] ⟨[(0, .one (.ip (.st (.pair tLI (.pair tLI (.sl tLI)))) a0 0)), (2, pV 0 0), (3, pV 1 0), (22, iV (lenI a0.2.2)), (23, iV s3.1)], [(1, .box [.all 2, .all 3, .all 7]), (7, .seq (.own tI) (s3.2 ++ ([(List.getD a0.2.2 (Int.toNat s3.1) ([] : List Int))] : List (List Int)))), (0, .box [.nilS, .nilS, .nilS]), (2, .seq tI a0.1), (3, .seq tI a0.2.1)], 8⟩ hX (by kernel_rfl) (by kernel_rfl) (allCons hg10 (allCons hg11 (allCons hg12 allNil))) (qBlock (qThen ?_))
      have hx7 := of_some hx7
      subst hx7
      exact HT.rgK (oHs 2) [(0, 0), (1, 1), (2, 2), (3, 3), (7, 4)] [] hX (by kernel_rfl) allNil (fun _ h => (qLoopN ⟨((wadd .i64 s3.1 (1 : Int)), (s3.2 ++ ([(List.getD a0.2.2 (Int.toNat s3.1) ([] : List Int))] : List (List Int)))), rfl, h⟩))
    · refine HT.cond0 rfl hb9 ?_
      have hx7 := of_some hx7
      subst hx7
      exact HT.exitL (Le.re [(0, 0), (1, 1), (2, 2), (3, 3), (4, 4)] [] hX (by kernel_rfl)) (qThenE (qLoopE (hk8 s3.2 rfl)))

noncomputable def spec_TurnGame_B1 (y4 : (List Int × List Int × List (List Int))) (s6 : Int × List Int × List Int) : Option ((Int × List Int × List Int) ⊕ ((List Int × List Int))) :=
  bif (decide (s6.1 < (lenI y4.1))) then
    guardP ((0 : Int) ≤ s6.1 ∧ s6.1 < lenI s6.2.1) (
      (some (List.set s6.2.1 (Int.toNat s6.1) (wsub .i64 (1 : Int) (List.getD s6.2.1 (Int.toNat s6.1) (0 : Int))))).bind fun q17 =>
      guardP ((0 : Int) ≤ s6.1 ∧ s6.1 < lenI s6.2.2) (
        some (.inl ((wadd .i64 s6.1 (1 : Int)), q17, (List.set s6.2.2 (Int.toNat s6.1) (wadd .i64 (List.getD s6.2.2 (Int.toNat s6.1) (0 : Int)) (1 : Int)))))))
  else
    some (.inr (s6.2.1, s6.2.2))

noncomputable def spec_TurnGame (a0 : List Int × List Int × List (List Int)) : Option ((List Int × List Int × List (List Int)) × Bool) :=
  (spec_l07Game (a0.1, a0.2.1, a0.2.2)).bind fun y1 =>
  bif (!y1) then
    some ((([] : List Int), ([] : List Int), ([] : List (List Int))), false)
  else
    (spec_l07OwnGame (a0.1, a0.2.1, a0.2.2)).bind fun y4 =>
    (rounds (spec_TurnGame_B1 y4) ((0 : Int), y4.1, y4.2.1)).bind fun r8 =>
    (spec_l07Game (r8.1, r8.2, y4.2.2)).bind fun y9 =>
    bif (!y9) then
      some ((([] : List Int), ([] : List Int), ([] : List (List Int))), false)
    else
      some ((r8.1, r8.2, y4.2.2), true)

theorem f11_ok {a0 : List Int × List Int × List (List Int)} {r : (List Int × List Int × List (List Int)) × Bool} (hr : spec_TurnGame a0 = some r) : CallOK Try.prog 11 [.imm (.st (.pair tLI (.pair tLI (.sl tLI)))) a0] [⟨true, (.st (.pair tLI (.pair tLI (.sl (.own tI))))), r.1⟩, ⟨false, .bool, r.2⟩] [] := by
  unfold spec_TurnGame at hr
  refine CallOK.of_body (ts := [(true, (.st (.pair tLI (.pair tLI (.sl (.own tI)))))), (false, .bool)]) Try.func11 rfl (by kernel_rfl) (Nat.le_of_ble_eq_true (by kernel_rfl)) fun cx hP hN hO hF => ?_
  have hO : cx.own.map Prod.fst = [] := hO
  have hX := CxIs.mk hP hN hO
  have hF := hF rfl
  show HT cx ⟨[(0, .agg [nC a0.1, nC a0.2.1, .dat (.sl tLI) a0.2.2])], [], 0⟩ _ _
  refine HT.rg2 (oHs 3) ⟨[(1, pV 0 0), (2, pV 1 0)], [(1, .box [.nilS, .nilS, .nilS]), (0, .box [nC a0.1, nC a0.2.1, .dat (.sl tLI) a0.2.2])], 2⟩ hX (by kernel_rfl) allNil ?_
  refine HT.seq ?_
  obtain ⟨y1, hc2, hr⟩ := of_bind hr
  refine HT.rg2 [⟨none, .call [.pimm (.st (.pair tLI (.pair tLI (.sl tLI))))] [⟨false, .bool, y1⟩] []⟩, oH] ⟨[(1, pV 0 0), (2, pV 1 0), (7, bV (!y1))], [(1, .box [.nilS, .nilS, .nilS]), (0, .box [nC a0.1, nC a0.2.1, .dat (.sl tLI) a0.2.2])], 2⟩ hX (by kernel_rfl) (allCons (f45_ok hc2) allNil) ?_
  rcases of_bif hr with ⟨hb3, hr⟩ | ⟨hb3, hr⟩
  · refine HT.cond1 rfl hb3 ?_
    refine HT.rg2 (oHs 3) ⟨[(2, pV 1 0), (3, bV false)], [(1, .box [.nilS, .nilS, .nilS])], 2⟩ hX (by kernel_rfl) allNil ?_
    have hr := of_some hr
    subst hr
    exact HT.ret (qThenR ⟨[.agg [.nilS, .nilS, .nilS], bV false], [], [], by kernel_rfl, by kernel_rfl, rfl, by kernel_rfl, by kernel_rfl, trivial⟩)
  · refine HT.cond0 rfl hb3 ?_
    refine HT.skip (qThen ?_)
    obtain ⟨y4, hc5, hr⟩ := of_bind hr
    refine HT.rg2 [⟨none, .call [.pimm (.st (.pair tLI (.pair tLI (.sl tLI))))] [⟨true, (.st (.pair tLI (.pair tLI (.sl (.own tI))))), y4⟩] []⟩, oH, oH] ⟨[(2, pV 1 0), (4, pV 5 0)], [(5, .box [.all 2, .all 3, .all 4]), (2, .seq tI y4.1), (3, .seq tI y4.2.1), (4, .seq (.own tI) y4.2.2), (1, .box [.nilS, .nilS, .nilS])], 6⟩ hX (by kernel_rfl) (allCons (f46_ok hc5) allNil) ?_
    refine HT.seq ?_
    refine HT.rg2 (oHs 4) ⟨[(2, pV 1 0), (4, pV 5 0), (12, iV (lenI y4.1)), (13, iV (0 : Int))], [(5, .box [.all 2, .all 3, .all 4]), (2, .seq tI y4.1), (3, .seq tI y4.2.1), (4, .seq (.own tI) y4.2.2), (1, .box [.nilS, .nilS, .nilS])], 6⟩ hX (by kernel_rfl) allNil ?_
    refine HT.block ?_
    obtain ⟨r7, hL20, hr⟩ := of_bind hr
    refine HT.loopL (fun (s6 : Int × List Int × List Int) => ⟨[(2, pV 0 0), (4, pV 1 0), (12, iV (lenI y4.1)), (13, iV s6.1)], [(0, .box [.nilS, .nilS, .nilS]), (1, .box [.all 2, .all 3, .all 4]), (2, .seq tI s6.2.1), (3, .seq tI s6.2.2), (4, .seq (.own tI) y4.2.2)], 5⟩) (fun (r8 : (List Int × List Int)) => (.exit 0, ⟨[(2, pV 0 0), (4, pV 1 0)], [(0, .box [.nilS, .nilS, .nilS]), (1, .box [.all 2, .all 3, .all 4]), (2, .seq tI r8.1), (3, .seq tI r8.2), (4, .seq (.own tI) y4.2.2)], 5⟩)) (Le.re [(1, 0), (5, 1), (2, 2), (3, 3), (4, 4)] [] hX (by kernel_rfl)) hL20 ?_ (fun s6 x12 hx13 hk14 => ?_)
    · refine (qBlockX (qThen ?_))
      refine HT.seq ?_
      obtain ⟨y9, hc10, hr⟩ := of_bind hr
      refine HT.rg2 [⟨none, .call [.pimm (.st (.pair tLI (.pair tLI (.sl tLI))))] [⟨false, .bool, y9⟩] []⟩, oH] ⟨[(2, pV 0 0), (4, pV 1 0), (35, bV (!y9))], [(0, .box [.nilS, .nilS, .nilS]), (1, .box [.all 2, .all 3, .all 4]), (2, .seq tI r7.1), (3, .seq tI r7.2), (4, .seq (.own tI) y4.2.2)], 5⟩ hX (by kernel_rfl) (allCons (f45_ok hc10) allNil) ?_
      rcases of_bif hr with ⟨hb11, hr⟩ | ⟨hb11, hr⟩
      · refine HT.cond1 rfl hb11 ?_
        refine HT.rg2 (oHs 3) ⟨[(2, pV 0 0), (3, bV false)], [(0, .box [.nilS, .nilS, .nilS])], 5⟩ hX (by kernel_rfl) allNil ?_
        have hr := of_some hr
        subst hr
        exact HT.ret (qThenR ⟨[.agg [.nilS, .nilS, .nilS], bV false], [], [], by kernel_rfl, by kernel_rfl, rfl, by kernel_rfl, by kernel_rfl, trivial⟩)
      · refine HT.cond0 rfl hb11 ?_
        refine HT.skip (qThen ?_)
        refine HT.rg2 (oHs 3) ⟨[(2, pV 0 0), (3, bV true)], [(0, .box [.all 2, .all 3, .all 4]), (2, .seq tI r7.1), (3, .seq tI r7.2), (4, .seq (.own tI) y4.2.2)], 5⟩ hX (by kernel_rfl) allNil ?_
        have hr := of_some hr
        subst hr
        exact HT.ret ⟨[.agg [.all 2, .all 3, .all 4], bV true], [2, 3, 4], [], by kernel_rfl, by kernel_rfl, rfl, by kernel_rfl, by kernel_rfl, trivial⟩
    · refine HT.rg2 [oH] ⟨[(2, pV 0 0), (4, pV 1 0), (12, iV (lenI y4.1)), (13, iV s6.1), (14, bV (decide (s6.1 < (lenI y4.1))))], [(0, .box [.nilS, .nilS, .nilS]), (1, .box [.all 2, .all 3, .all 4]), (2, .seq tI s6.2.1), (3, .seq tI s6.2.2), (4, .seq (.own tI) y4.2.2)], 5⟩ hX (by kernel_rfl) allNil ?_
      refine HT.seq ?_
      rcases of_bif hx13 with ⟨hb15, hx13⟩ | ⟨hb15, hx13⟩
      · refine HT.cond1 rfl hb15 ?_
        refine HT.skip (qThen ?_)
        refine HT.seq ?_
        refine HT.block ?_
        refine HT.rg2 (oHs 2) ⟨[(2, pV 0 0), (4, pV 1 0), (5, iV s6.1), (12, iV (lenI y4.1)), (13, iV s6.1)], [(0, .box [.nilS, .nilS, .nilS]), (1, .box [.all 2, .all 3, .all 4]), (2, .seq tI s6.2.1), (3, .seq tI s6.2.2), (4, .seq (.own tI) y4.2.2)], 5⟩ hX (by kernel_rfl) allNil ?_
        obtain ⟨hg16, hx13⟩ := of_guard hx13
        refine HT.dr2 9 [⟨oH, []⟩, ⟨oH, [0]⟩, ⟨oH, []⟩, ⟨oH, []⟩, ⟨oH, [3]⟩, ⟨oH, []⟩, ⟨oH, [3, 4, 5]⟩, ⟨oH, [3, 4, 5, 6]⟩, ⟨oH, [3, 4, 5, 6, 7]⟩] [[0, 1, 2, 3, 4, 5, 6, 7, 8], [0, 1, 2, 3, 4, 5, 6, 7, 8, 9]] (oHs 2) ⟨[(2, pV 0 0), (4, pV 1 0), (5, iV s6.1), (12, iV (lenI y4.1)), (13, iV s6.1)], [(2, .seq tI (List.set s6.2.1 (Int.toNat s6.1) (wsub .i64 (1 : Int) (List.getD s6.2.1 (Int.toNat s6.1) (0 : Int))))), (0, .box [.nilS, .nilS, .nilS]), (1, .box [.all 2, .all 3, .all 4]), (3, .seq tI s6.2.2), (4, .seq (.own tI) y4.2.2)], 5⟩ hX (by kernel_rfl) (by kernel_rfl) (allCons hg16 (allCons (natLt hg16) (allCons hg16 (allCons (natLt hg16) allNil)))) ?_
        obtain ⟨q17, hq18, hx13⟩ := of_bind hx13
        have hq18 := of_some2 hq18
        refine (Le.cv (s := ⟨[(2, 2), (0, 0), (1, 1), (3, 3), (4, 4)], [], [], false⟩) (own := []) (ps := [s6.1 = s6.1, (lenI y4.1) = (lenI y4.1), s6.1 = s6.1, q17 = (List.set s6.2.1 (Int.toNat s6.1) (wsub .i64 (1 : Int) (List.getD s6.2.1 (Int.toNat s6.1) (0 : Int)))), s6.2.2 = s6.2.2, y4.2.2 = y4.2.2]) (st' := ⟨[(2, pV 0 0), (4, pV 1 0), (5, iV s6.1), (12, iV (lenI y4.1)), (13, iV s6.1)], [(2, .seq tI q17), (0, .box [.nilS, .nilS, .nilS]), (1, .box [.all 2, .all 3, .all 4]), (3, .seq tI s6.2.2), (4, .seq (.own tI) y4.2.2)], 5⟩) hO (fun h => by cases h) (by kernel_rfl) ⟨rfl, rfl, rfl, hq18, rfl, rfl, trivial⟩).ht ?_
        obtain ⟨hg19, hx13⟩ := of_guard hx13
        refine HT.rgL (oHs 8) ⟨[(2, pV 0 0), (4, pV 1 0), (12, iV (lenI y4.1)), (13, iV s6.1)], [(3, .seq tI (List.set s6.2.2 (Int.toNat s6.1) (wadd .i64 (List.getD s6.2.2 (Int.toNat s6.1) (0 : Int)) (1 : Int)))), (2, .seq tI q17), (0, .box [.nilS, .nilS, .nilS]), (1, .box [.all 2, .all 3, .all 4]), (4, .seq (.own tI) y4.2.2)], 5⟩ hX (by kernel_rfl) (allCons hg19 (allCons (natLt hg19) (allCons hg19 (allCons (natLt hg19) allNil)))) (qBlock (qThen ?_))
        have hx13 := of_some hx13
        subst hx13
        exact HT.rgK (oHs 2) [(0, 0), (1, 1), (2, 2), (3, 3), (4, 4)] [] hX (by kernel_rfl) allNil (fun _ h => (qLoopN ⟨((wadd .i64 s6.1 (1 : Int)), q17, (List.set s6.2.2 (Int.toNat s6.1) (wadd .i64 (List.getD s6.2.2 (Int.toNat s6.1) (0 : Int)) (1 : Int)))), rfl, h⟩))
      · refine HT.cond0 rfl hb15 ?_
        have hx13 := of_some hx13
        subst hx13
        exact HT.exitL (Le.re [(0, 0), (1, 1), (2, 2), (3, 3), (4, 4)] [] hX (by kernel_rfl)) (qThenE (qLoopE (hk14 (s6.2.1, s6.2.2) rfl)))

theorem f50_ok {xs y : List Int} (h : slices_Clone xs = some y) : CallOK Try.prog 50 [.imm tLI xs] [⟨true, tLI, y⟩] [] := by
  obtain ⟨hg, h⟩ := of_guard h
  have h := of_some h
  subst h
  refine CallOK.of_body (ts := [(true, tLI)]) Try.func50 rfl (by kernel_rfl) (Nat.le_of_ble_eq_true (by kernel_rfl)) fun cx hP hN hO hF => ?_
  show HT cx ⟨[(0, .one (.dat tLI xs))], [], 0⟩ _ _
  refine HT.reg1 [0] [⟨none, .no⟩] ⟨[(0, .one (.dat tLI xs))], [], 0⟩ hP hN (by kernel_rfl) allNil ?_
  refine HT.seq ?_
  refine HT.isNil (t3 := 3) (t4 := 4) (v := .one (.dat tLI xs)) (t := tI) (xs := xs) (st1 := ⟨[(3, .one (.dat tLI xs)), (0, .one (.dat tLI xs))], [], 0⟩) hP hN (by kernel_rfl) rfl rfl rfl rfl (e := 2) (by kernel_rfl) rfl rfl (fun b hb => ?_)
  show HT cx ⟨[(4, .one (.dat .bool b)), (3, .one (.dat tLI xs)), (0, .one (.dat tLI xs))], [], 0⟩ _ _
  cases b with
  | true =>
    have e := hb rfl
    subst e
    refine HT.cond1 rfl rfl ?_
    refine HT.reg1 [2] [⟨none, .no⟩] ⟨[(2, .one .nilS)], [], 0⟩ hP hN (by kernel_rfl) allNil ?_
    exact HT.ret (qThenR ⟨[.one .nilS], [], [], by kernel_rfl, by kernel_rfl, rfl, by kernel_rfl, by kernel_rfl, trivial⟩)
  | false =>
    refine HT.cond0 rfl rfl ?_
    refine HT.skip (qThen ?_)
    refine HT.reg1 [2] [⟨none, .no⟩, ⟨none, .no⟩, ⟨none, .ty tI⟩, ⟨none, .no⟩] ⟨[(2, .one (.all 0))], [(0, .seq tI xs)], 1⟩ hP hN (by kernel_rfl) (allCons hg allNil) ?_
    exact HT.ret ⟨[.one (.all 0)], [0], [], by kernel_rfl, by kernel_rfl, rfl, by kernel_rfl, by kernel_rfl, trivial⟩

noncomputable def impl_within (a0 : Int) (a1 : Int) (a2 : Int) : Option (Bool) :=
  (show Option (Bool) from
    bif (decide (a0 ≥ a1)) then
      some (decide (a0 ≤ a2))
    else
      some false).bind fun v1 =>
  some v1

theorem f54_ok {a0 : Int} {a1 : Int} {a2 : Int} {r : Bool} (hr : impl_within a0 a1 a2 = some r) : CallOK Try.prog 54 [.imm tI a0, .imm tI a1, .imm tI a2] [⟨false, .bool, r⟩] [] := by
  unfold impl_within at hr
  refine CallOK.of_body (ts := [(false, .bool)]) Try.func54 rfl (by kernel_rfl) (Nat.le_of_ble_eq_true (by kernel_rfl)) fun cx hP hN hO hF => ?_
  have hO : cx.own.map Prod.fst = [] := hO
  have hX := CxIs.mk hP hN hO
  have hF := hF rfl
  show HT cx ⟨[(0, iV a0), (1, iV a1), (2, iV a2)], [], 0⟩ _ _
  refine HT.rg2 [oH] ⟨[(0, iV a0), (1, iV a1), (2, iV a2)], [], 0⟩ hX (by kernel_rfl) allNil ?_
  obtain ⟨v1', hT3, hr⟩ := of_bind hr
  refine HT.join (fun (v1 : Bool) => ⟨[(6, bV v1)], [], 0⟩) (fun v => v = v1') (fun v1 hv2 => ?_) (fun cont => ?_)
  · subst hv2
    have hr := of_some hr
    subst hr
    exact HT.ret ⟨[bV v1], [], [], by kernel_rfl, by kernel_rfl, rfl, by kernel_rfl, by kernel_rfl, trivial⟩
  · rcases of_bif hT3 with ⟨hb4, hT3⟩ | ⟨hb4, hT3⟩
    · exact HT.rgK [oH, oH, oH, oH, ⟨some true, .no⟩, ⟨some true, .no⟩, ⟨some true, .no⟩, ⟨none, .tv true⟩, oH] [] [] hX (by kernel_rfl) (allCons hb4 (allCons hb4 (allCons hb4 (allCons hb4 allNil)))) (fun _ h => (qThen (h.ht (cont (decide (a0 ≤ a2)) (of_some hT3)))))
    · exact HT.rgK [oH, oH, oH, oH, ⟨some false, .no⟩, ⟨some false, .no⟩, ⟨some false, .no⟩, ⟨none, .tv false⟩, oH] [] [] hX (by kernel_rfl) (allCons hb4 (allCons hb4 (allCons hb4 (allCons hb4 allNil)))) (fun _ h => (qThen (h.ht (cont false (of_some hT3)))))

noncomputable def impl_isSet_B1 (a0 : List Int) (a1 : Int) (s1 : Int) : Option ((Int) ⊕ (Unit ⊕ Unit)) :=
  bif (decide (s1 < (lenI a0))) then
    guardP ((0 : Int) ≤ s1 ∧ s1 < lenI a0) (
      (show Option (Bool) from
        (impl_within (List.getD a0 (Int.toNat s1) (0 : Int)) (0 : Int) (wsub .i64 a1 (1 : Int))).bind fun y14 =>
        bif (!y14) then
          some true
        else
          bif (decide (s1 > (0 : Int))) then
            guardP ((0 : Int) ≤ (wsub .i64 s1 (1 : Int)) ∧ (wsub .i64 s1 (1 : Int)) < lenI a0) (
              some (decide ((List.getD a0 (Int.toNat s1) (0 : Int)) ≤ (List.getD a0 (Int.toNat (wsub .i64 s1 (1 : Int))) (0 : Int)))))
          else
            some false).bind fun v10 =>
      bif v10 then
        some (.inr (.inr ()))
      else
        some (.inl (wadd .i64 s1 (1 : Int))))
  else
    some (.inr (.inl ()))

noncomputable def impl_isSet (a0 : List Int) (a1 : Int) : Option (Bool) :=
  (rounds (impl_isSet_B1 a0 a1) (0 : Int)).bind fun r2 => match r2 with
    | .inl r3 =>
      some true
    | .inr r4 =>
      some false

theorem f53_ok {a0 : List Int} {a1 : Int} {r : Bool} (hr : impl_isSet a0 a1 = some r) : CallOK Try.prog 53 [.imm tLI a0, .imm tI a1] [⟨false, .bool, r⟩] [] := by
  unfold impl_isSet at hr
  refine CallOK.of_body (ts := [(false, .bool)]) Try.func53 rfl (by kernel_rfl) (Nat.le_of_ble_eq_true (by kernel_rfl)) fun cx hP hN hO hF => ?_
  have hO : cx.own.map Prod.fst = [] := hO
  have hX := CxIs.mk hP hN hO
  have hF := hF rfl
  show HT cx ⟨[(0, nV a0), (1, iV a1)], [], 0⟩ _ _
  refine HT.rg2 [oH] ⟨[(0, nV a0), (1, iV a1)], [], 0⟩ hX (by kernel_rfl) allNil ?_
  refine HT.seq ?_
  refine HT.rg2 (oHs 3) ⟨[(0, nV a0), (1, iV a1), (7, nV a0), (8, iV (lenI a0)), (9, iV (0 : Int))], [], 0⟩ hX (by kernel_rfl) allNil ?_
  refine HT.block ?_
  obtain ⟨r2, hL19, hr⟩ := of_bind hr
  refine HT.loopL (fun (s1 : Int) => ⟨[(0, nV a0), (1, iV a1), (7, nV a0), (8, iV (lenI a0)), (9, iV s1)], [], 0⟩) (fun (r2 : Unit ⊕ Unit) => match r2 with | .inl r3 => (.exit 0, ⟨[], [], 0⟩) | .inr r4 => (.ret, ⟨[(4, bV false)], [], 0⟩)) (Le.re [] [] hX (by kernel_rfl)) hL19 ?_ (fun s1 x5 hx6 hk7 => ?_)
  · rcases r2 with r3 | r4
    · refine (qBlockX (qThen ?_))
      refine HT.rg2 [oH] ⟨[(4, bV true)], [], 0⟩ hX (by kernel_rfl) allNil ?_
      have hr := of_some hr
      subst hr
      exact HT.ret ⟨[bV true], [], [], by kernel_rfl, by kernel_rfl, rfl, by kernel_rfl, by kernel_rfl, trivial⟩
    · have hr := of_some hr
      subst hr
      exact (qBlockR (qThenR ⟨[bV false], [], [], by kernel_rfl, by kernel_rfl, rfl, by kernel_rfl, by kernel_rfl, trivial⟩))
  · refine HT.rg2 [oH] ⟨[(0, nV a0), (1, iV a1), (7, nV a0), (8, iV (lenI a0)), (9, iV s1), (10, bV (decide (s1 < (lenI a0))))], [], 0⟩ hX (by kernel_rfl) allNil ?_
    refine HT.seq ?_
    rcases of_bif hx6 with ⟨hb8, hx6⟩ | ⟨hb8, hx6⟩
    · refine HT.cond1 rfl hb8 ?_
      refine HT.skip (qThen ?_)
      refine HT.seq ?_
      refine HT.block ?_
      obtain ⟨hg9, hx6⟩ := of_guard hx6
      refine HT.rg2 (oHs 5) ⟨[(0, nV a0), (1, iV a1), (5, iV s1), (6, iV (List.getD a0 (Int.toNat s1) (0 : Int))), (7, nV a0), (8, iV (lenI a0)), (9, iV s1)], [], 0⟩ hX (by kernel_rfl) (allCons hg9 allNil) ?_
      obtain ⟨v10', hT12, hx6⟩ := of_bind hx6
      refine HT.join (fun (v10 : Bool) => ⟨[(0, nV a0), (1, iV a1), (7, nV a0), (8, iV (lenI a0)), (9, iV s1), (31, bV v10)], [], 0⟩) (fun v => v = v10') (fun v10 hv11 => ?_) (fun cont => ?_)
      · subst hv11
        rcases of_bif hx6 with ⟨hb13, hx6⟩ | ⟨hb13, hx6⟩
        · refine HT.cond1 rfl hb13 ?_
          refine HT.rg2 [oH] ⟨[(4, bV false)], [], 0⟩ hX (by kernel_rfl) allNil ?_
          have hx6 := of_some hx6
          subst hx6
          exact HT.retL (Le.re [] [] hX (by kernel_rfl)) (qBlockR (qThenR (qLoopR (hk7 (.inr ()) rfl))))
        · refine HT.cond0 rfl hb13 ?_
          refine HT.skip (qBlock (qThen ?_))
          have hx6 := of_some hx6
          subst hx6
          exact HT.rgK (oHs 2) [] [] hX (by kernel_rfl) allNil (fun _ h => (qLoopN ⟨(wadd .i64 s1 (1 : Int)), rfl, h⟩))
      · obtain ⟨y14, hc15, hT12⟩ := of_bind hT12
        rcases of_bif hT12 with ⟨hb16, hT12⟩ | ⟨hb16, hT12⟩
        · exact HT.rgK [oH, oH, oH, ⟨none, .call [.imm tI, .imm tI, .imm tI] [⟨false, .bool, y14⟩] []⟩, oH, oH, ⟨some true, .no⟩, ⟨some true, .no⟩, ⟨some true, .no⟩, oH, oH, oH, oH, oH, oH, oH, ⟨some true, .no⟩, ⟨none, .tv true⟩] [] [] hX (by kernel_rfl) (allCons (f54_ok hc15) (allCons hb16 (allCons hb16 (allCons hb16 (allCons hb16 (allCons hb16 allNil)))))) (fun _ h => (qThen (h.ht (cont true (of_some hT12)))))
        · rcases of_bif hT12 with ⟨hb17, hT12⟩ | ⟨hb17, hT12⟩
          · obtain ⟨hg18, hT12⟩ := of_guard hT12
            exact HT.rgK [oH, oH, oH, ⟨none, .call [.imm tI, .imm tI, .imm tI] [⟨false, .bool, y14⟩] []⟩, oH, oH, ⟨some false, .no⟩, ⟨some false, .no⟩, ⟨some false, .no⟩, ⟨some true, .no⟩, ⟨some true, .no⟩, ⟨some true, .no⟩, ⟨some true, .no⟩, ⟨some true, .no⟩, ⟨some true, .no⟩, ⟨some true, .no⟩, ⟨some false, .tv true⟩, ⟨none, .tv false⟩] [] [] hX (by kernel_rfl) (allCons (f54_ok hc15) (allCons hb16 (allCons hb16 (allCons hb16 (allCons hb17 (allCons hb17 (allCons hb17 (allCons hb17 (allCons hb17 (allCons hg18 (allCons hb17 (allCons hb17 (allCons hb16 (allCons hb17 (allCons hb16 allNil))))))))))))))) (fun _ h => (qThen (h.ht (cont (decide ((List.getD a0 (Int.toNat s1) (0 : Int)) ≤ (List.getD a0 (Int.toNat (wsub .i64 s1 (1 : Int))) (0 : Int)))) (of_some hT12)))))
          · exact HT.rgK [oH, oH, oH, ⟨none, .call [.imm tI, .imm tI, .imm tI] [⟨false, .bool, y14⟩] []⟩, oH, oH, ⟨some false, .no⟩, ⟨some false, .no⟩, ⟨some false, .no⟩, ⟨some false, .no⟩, ⟨some false, .no⟩, ⟨some false, .no⟩, ⟨some false, .no⟩, ⟨some false, .no⟩, ⟨some false, .no⟩, ⟨some false, .no⟩, ⟨some false, .tv false⟩, ⟨none, .tv false⟩] [] [] hX (by kernel_rfl) (allCons (f54_ok hc15) (allCons hb16 (allCons hb16 (allCons hb16 (allCons hb17 (allCons hb17 (allCons hb17 (allCons hb17 (allCons hb17 (allCons hb17 (allCons hb17 (allCons hb16 (allCons hb17 (allCons hb16 allNil)))))))))))))) (fun _ h => (qThen (h.ht (cont false (of_some hT12)))))
    · refine HT.cond0 rfl hb8 ?_
      have hx6 := of_some hx6
      subst hx6
      exact HT.exitL (Le.re [] [] hX (by kernel_rfl)) (qThenE (qLoopE (hk7 (.inl ()) rfl)))

noncomputable def impl_ValidGame_1 (a0 : List Int) (a1 : Int) : Option (Bool) :=
  (show Option (Bool) from
    bif ((lenI a0) == (0 : Int)) then
      some true
    else
      (impl_isSet a0 a1).bind fun y5 =>
      some (!y5)).bind fun v1 =>
  some v1

theorem f75_ok {a0 : List Int} {a1 : Int} {r : Bool} (hr : impl_ValidGame_1 a0 a1 = some r) : CallOK Try.prog 75 [.imm tLI a0, .pimm tI a1] [⟨false, .bool, r⟩] [] := by
  unfold impl_ValidGame_1 at hr
  refine CallOK.of_body (ts := [(false, .bool)]) Try.func75 rfl (by kernel_rfl) (Nat.le_of_ble_eq_true (by kernel_rfl)) fun cx hP hN hO hF => ?_
  have hO : cx.own.map Prod.fst = [] := hO
  have hX := CxIs.mk hP hN hO
  have hF := hF rfl
  show HT cx ⟨[(0, nV a0), (1, .one (.ip tI a1 0))], [], 0⟩ _ _
  refine HT.rg2 [oH] ⟨[(0, nV a0), (1, .one (.ip tI a1 0))], [], 0⟩ hX (by kernel_rfl) allNil ?_
  obtain ⟨v1', hT3, hr⟩ := of_bind hr
  refine HT.join (fun (v1 : Bool) => ⟨[(3, bV v1)], [], 0⟩) (fun v => v = v1') (fun v1 hv2 => ?_) (fun cont => ?_)
  · subst hv2
    have hr := of_some hr
    subst hr
    exact HT.ret ⟨[bV v1], [], [], by kernel_rfl, by kernel_rfl, rfl, by kernel_rfl, by kernel_rfl, trivial⟩
  · rcases of_bif hT3 with ⟨hb4, hT3⟩ | ⟨hb4, hT3⟩
    · exact HT.rgK [oH, oH, oH, oH, ⟨some true, .no⟩, ⟨some true, .no⟩, ⟨some true, .no⟩, ⟨some true, .no⟩, ⟨none, .tv true⟩, oH] [] [] hX (by kernel_rfl) (allCons hb4 (allCons hb4 (allCons hb4 (allCons hb4 (allCons hb4 allNil))))) (fun _ h => (qThen (h.ht (cont true (of_some hT3)))))
    · obtain ⟨y5, hc6, hT3⟩ := of_bind hT3
      exact HT.rgK [oH, oH, oH, oH, ⟨some false, .no⟩, ⟨some false, .no⟩, ⟨some false, .call [.imm tLI, .imm tI] [⟨false, .bool, y5⟩] []⟩, ⟨some false, .no⟩, ⟨none, .tv false⟩, oH] [] [] hX (by kernel_rfl) (allCons hb4 (allCons hb4 (allCons hb4 (allCons (f53_ok hc6) (allCons hb4 (allCons hb4 allNil)))))) (fun _ h => (qThen (h.ht (cont (!y5) (of_some hT3)))))

noncomputable def slices_IndexFunc_____int64___int64_clo1_impl_ValidGame_1_B1 (a0 : List (List Int)) (a1 : Int) (s1 : Int) : Option ((Int) ⊕ (Unit ⊕ Int)) :=
  bif (decide (s1 < (lenI a0))) then
    guardP ((0 : Int) ≤ s1 ∧ s1 < lenI a0) (
      (impl_ValidGame_1 (List.getD a0 (Int.toNat s1) ([] : List Int)) a1).bind fun y10 =>
      bif y10 then
        some (.inr (.inr s1))
      else
        some (.inl (wadd .i64 s1 (1 : Int))))
  else
    some (.inr (.inl ()))

noncomputable def slices_IndexFunc_____int64___int64_clo1_impl_ValidGame_1 (a0 : List (List Int)) (a1 : Int) : Option (Int) :=
  (rounds (slices_IndexFunc_____int64___int64_clo1_impl_ValidGame_1_B1 a0 a1) (0 : Int)).bind fun r2 => match r2 with
    | .inl r3 =>
      some (-1 : Int)
    | .inr r4 =>
      some r4

theorem f86_clo1_impl_ValidGame_1_ok {a0 : List (List Int)} {a1 : Int} {r : Int} (hr : slices_IndexFunc_____int64___int64_clo1_impl_ValidGame_1 a0 a1 = some r) : CallOK Try.prog 86 [.imm (.sl tLI) a0, .clo 75 tI a1] [⟨false, tI, r⟩] [] := by
  unfold slices_IndexFunc_____int64___int64_clo1_impl_ValidGame_1 at hr
  refine CallOK.of_body (ts := [(false, tI)]) Try.func86 rfl (by kernel_rfl) (Nat.le_of_ble_eq_true (by kernel_rfl)) fun cx hP hN hO hF => ?_
  have hO : cx.own.map Prod.fst = [] := hO
  have hX := CxIs.mk hP hN hO
  have hF := hF rfl
  show HT cx ⟨[(0, .one (.dat (.sl tLI) a0)), (1, .one (.clo 75 tI a1))], [], 0⟩ _ _
  refine HT.rg2 [oH] ⟨[(0, .one (.dat (.sl tLI) a0)), (1, .one (.clo 75 tI a1))], [], 0⟩ hX (by kernel_rfl) allNil ?_
  refine HT.seq ?_
  refine HT.rg2 (oHs 3) ⟨[(0, .one (.dat (.sl tLI) a0)), (1, .one (.clo 75 tI a1)), (7, iV (lenI a0)), (8, iV (0 : Int))], [], 0⟩ hX (by kernel_rfl) allNil ?_
  refine HT.block ?_
  obtain ⟨r2, hL13, hr⟩ := of_bind hr
  refine HT.loopL (fun (s1 : Int) => ⟨[(0, .one (.dat (.sl tLI) a0)), (1, .one (.clo 75 tI a1)), (7, iV (lenI a0)), (8, iV s1)], [], 0⟩) (fun (r2 : Unit ⊕ Int) => match r2 with | .inl r3 => (.exit 0, ⟨[], [], 0⟩) | .inr r4 => (.ret, ⟨[(4, iV r4)], [], 0⟩)) (Le.re [] [] hX (by kernel_rfl)) hL13 ?_ (fun s1 x5 hx6 hk7 => ?_)
  · rcases r2 with r3 | r4
    · refine (qBlockX (qThen ?_))
      refine HT.rg2 [oH] ⟨[(4, iV (-1 : Int))], [], 0⟩ hX (by kernel_rfl) allNil ?_
      have hr := of_some hr
      subst hr
      exact HT.ret ⟨[iV (-1 : Int)], [], [], by kernel_rfl, by kernel_rfl, rfl, by kernel_rfl, by kernel_rfl, trivial⟩
    · have hr := of_some hr
      subst hr
      exact (qBlockR (qThenR ⟨[iV r4], [], [], by kernel_rfl, by kernel_rfl, rfl, by kernel_rfl, by kernel_rfl, trivial⟩))
  · refine HT.rg2 [oH] ⟨[(0, .one (.dat (.sl tLI) a0)), (1, .one (.clo 75 tI a1)), (7, iV (lenI a0)), (8, iV s1), (9, bV (decide (s1 < (lenI a0))))], [], 0⟩ hX (by kernel_rfl) allNil ?_
    refine HT.seq ?_
    rcases of_bif hx6 with ⟨hb8, hx6⟩ | ⟨hb8, hx6⟩
    · refine HT.cond1 rfl hb8 ?_
      refine HT.skip (qThen ?_)
      refine HT.seq ?_
      refine HT.block ?_
      refine HT.rg2 (oHs 2) ⟨[(0, .one (.dat (.sl tLI) a0)), (1, .one (.clo 75 tI a1)), (5, iV s1), (7, iV (lenI a0)), (8, iV s1)], [], 0⟩ hX (by kernel_rfl) allNil ?_
      obtain ⟨hg9, hx6⟩ := of_guard hx6
      obtain ⟨y10, hc11, hx6⟩ := of_bind hx6
      refine HT.rg2 [oH, oH, oH, oH, oH, ⟨none, .call [.imm tLI, .pimm tI] [⟨false, .bool, y10⟩] []⟩] ⟨[(0, .one (.dat (.sl tLI) a0)), (1, .one (.clo 75 tI a1)), (5, iV s1), (7, iV (lenI a0)), (8, iV s1), (16, bV y10)], [], 0⟩ hX (by kernel_rfl) (allCons hg9 (allCons (f75_ok hc11) allNil)) ?_
      rcases of_bif hx6 with ⟨hb12, hx6⟩ | ⟨hb12, hx6⟩
      · refine HT.cond1 rfl hb12 ?_
        refine HT.rg2 (oHs 2) ⟨[(4, iV s1)], [], 0⟩ hX (by kernel_rfl) allNil ?_
        have hx6 := of_some hx6
        subst hx6
        exact HT.retL (Le.re [] [] hX (by kernel_rfl)) (qBlockR (qThenR (qLoopR (hk7 (.inr s1) rfl))))
      · refine HT.cond0 rfl hb12 ?_
        refine HT.skip (qBlock (qThen ?_))
        have hx6 := of_some hx6
        subst hx6
        exact HT.rgK (oHs 2) [] [] hX (by kernel_rfl) allNil (fun _ h => (qLoopN ⟨(wadd .i64 s1 (1 : Int)), rfl, h⟩))
    · refine HT.cond0 rfl hb8 ?_
      have hx6 := of_some hx6
      subst hx6
      exact HT.exitL (Le.re [] [] hX (by kernel_rfl)) (qThenE (qLoopE (hk7 (.inl ()) rfl)))

noncomputable def slices_ContainsFunc_____int64___int64_clo1_impl_ValidGame_1 (a0 : List (List Int)) (a1 : Int) : Option (Bool) :=
  (slices_IndexFunc_____int64___int64_clo1_impl_ValidGame_1 a0 a1).bind fun y1 =>
  some (decide (y1 ≥ (0 : Int)))

theorem f74_clo1_impl_ValidGame_1_ok {a0 : List (List Int)} {a1 : Int} {r : Bool} (hr : slices_ContainsFunc_____int64___int64_clo1_impl_ValidGame_1 a0 a1 = some r) : CallOK Try.prog 74 [.imm (.sl tLI) a0, .clo 75 tI a1] [⟨false, .bool, r⟩] [] := by
  unfold slices_ContainsFunc_____int64___int64_clo1_impl_ValidGame_1 at hr
  refine CallOK.of_body (ts := [(false, .bool)]) Try.func74 rfl (by kernel_rfl) (Nat.le_of_ble_eq_true (by kernel_rfl)) fun cx hP hN hO hF => ?_
  have hO : cx.own.map Prod.fst = [] := hO
  have hX := CxIs.mk hP hN hO
  have hF := hF rfl
  show HT cx ⟨[(0, .one (.dat (.sl tLI) a0)), (1, .one (.clo 75 tI a1))], [], 0⟩ _ _
  refine HT.rg2 [oH] ⟨[(0, .one (.dat (.sl tLI) a0)), (1, .one (.clo 75 tI a1))], [], 0⟩ hX (by kernel_rfl) allNil ?_
  obtain ⟨y1, hc2, hr⟩ := of_bind hr
  refine HT.rg2 [oH, oH, ⟨none, .call [.imm (.sl tLI), .clo tI] [⟨false, tI, y1⟩] []⟩, oH, oH] ⟨[(4, bV (decide (y1 ≥ (0 : Int))))], [], 0⟩ hX (by kernel_rfl) (allCons (f86_clo1_impl_ValidGame_1_ok hc2) allNil) ?_
  have hr := of_some hr
  subst hr
  exact HT.ret ⟨[bV (decide (y1 ≥ (0 : Int)))], [], [], by kernel_rfl, by kernel_rfl, rfl, by kernel_rfl, by kernel_rfl, trivial⟩

noncomputable def impl_areWithin_B1 (a0 : List Int) (a1 : Int) (a2 : Int) (s1 : Int) : Option ((Int) ⊕ (Unit ⊕ Unit)) :=
  bif (decide (s1 < (lenI a0))) then
    guardP ((0 : Int) ≤ s1 ∧ s1 < lenI a0) (
      (impl_within (List.getD a0 (Int.toNat s1) (0 : Int)) a1 a2).bind fun y10 =>
      bif (!y10) then
        some (.inr (.inr ()))
      else
        some (.inl (wadd .i64 s1 (1 : Int))))
  else
    some (.inr (.inl ()))

noncomputable def impl_areWithin (a0 : List Int) (a1 : Int) (a2 : Int) : Option (Bool) :=
  (rounds (impl_areWithin_B1 a0 a1 a2) (0 : Int)).bind fun r2 => match r2 with
    | .inl r3 =>
      some true
    | .inr r4 =>
      some false

theorem f63_ok {a0 : List Int} {a1 : Int} {a2 : Int} {r : Bool} (hr : impl_areWithin a0 a1 a2 = some r) : CallOK Try.prog 63 [.imm tLI a0, .imm tI a1, .imm tI a2] [⟨false, .bool, r⟩] [] := by
  unfold impl_areWithin at hr
  refine CallOK.of_body (ts := [(false, .bool)]) Try.func63 rfl (by kernel_rfl) (Nat.le_of_ble_eq_true (by kernel_rfl)) fun cx hP hN hO hF => ?_
  have hO : cx.own.map Prod.fst = [] := hO
  have hX := CxIs.mk hP hN hO
  have hF := hF rfl
  show HT cx ⟨[(0, nV a0), (1, iV a1), (2, iV a2)], [], 0⟩ _ _
  refine HT.rg2 [oH] ⟨[(0, nV a0), (1, iV a1), (2, iV a2)], [], 0⟩ hX (by kernel_rfl) allNil ?_
  refine HT.seq ?_
  refine HT.rg2 (oHs 3) ⟨[(1, iV a1), (2, iV a2), (9, nV a0), (10, iV (lenI a0)), (11, iV (0 : Int))], [], 0⟩ hX (by kernel_rfl) allNil ?_
  refine HT.block ?_
  obtain ⟨r2, hL13, hr⟩ := of_bind hr
  refine HT.loopL (fun (s1 : Int) => ⟨[(1, iV a1), (2, iV a2), (9, nV a0), (10, iV (lenI a0)), (11, iV s1)], [], 0⟩) (fun (r2 : Unit ⊕ Unit) => match r2 with | .inl r3 => (.exit 0, ⟨[], [], 0⟩) | .inr r4 => (.ret, ⟨[(6, bV false)], [], 0⟩)) (Le.re [] [] hX (by kernel_rfl)) hL13 ?_ (fun s1 x5 hx6 hk7 => ?_)
  · rcases r2 with r3 | r4
    · refine (qBlockX (qThen ?_))
      refine HT.rg2 [oH] ⟨[(6, bV true)], [], 0⟩ hX (by kernel_rfl) allNil ?_
      have hr := of_some hr
      subst hr
      exact HT.ret ⟨[bV true], [], [], by kernel_rfl, by kernel_rfl, rfl, by kernel_rfl, by kernel_rfl, trivial⟩
    · have hr := of_some hr
      subst hr
      exact (qBlockR (qThenR ⟨[bV false], [], [], by kernel_rfl, by kernel_rfl, rfl, by kernel_rfl, by kernel_rfl, trivial⟩))
  · refine HT.rg2 [oH] ⟨[(1, iV a1), (2, iV a2), (9, nV a0), (10, iV (lenI a0)), (11, iV s1), (12, bV (decide (s1 < (lenI a0))))], [], 0⟩ hX (by kernel_rfl) allNil ?_
    refine HT.seq ?_
    rcases of_bif hx6 with ⟨hb8, hx6⟩ | ⟨hb8, hx6⟩
    · refine HT.cond1 rfl hb8 ?_
      refine HT.skip (qThen ?_)
      refine HT.seq ?_
      refine HT.block ?_
      obtain ⟨hg9, hx6⟩ := of_guard hx6
      refine HT.rg2 (oHs 3) ⟨[(1, iV a1), (2, iV a2), (8, iV (List.getD a0 (Int.toNat s1) (0 : Int))), (9, nV a0), (10, iV (lenI a0)), (11, iV s1)], [], 0⟩ hX (by kernel_rfl) (allCons hg9 allNil) ?_
      obtain ⟨y10, hc11, hx6⟩ := of_bind hx6
      refine HT.rg2 [oH, oH, oH, ⟨none, .call [.imm tI, .imm tI, .imm tI] [⟨false, .bool, y10⟩] []⟩, oH] ⟨[(1, iV a1), (2, iV a2), (9, nV a0), (10, iV (lenI a0)), (11, iV s1), (19, bV (!y10))], [], 0⟩ hX (by kernel_rfl) (allCons (f54_ok hc11) allNil) ?_
      rcases of_bif hx6 with ⟨hb12, hx6⟩ | ⟨hb12, hx6⟩
      · refine HT.cond1 rfl hb12 ?_
        refine HT.rg2 [oH] ⟨[(6, bV false)], [], 0⟩ hX (by kernel_rfl) allNil ?_
        have hx6 := of_some hx6
        subst hx6
        exact HT.retL (Le.re [] [] hX (by kernel_rfl)) (qBlockR (qThenR (qLoopR (hk7 (.inr ()) rfl))))
      · refine HT.cond0 rfl hb12 ?_
        refine HT.skip (qBlock (qThen ?_))
        have hx6 := of_some hx6
        subst hx6
        exact HT.rgK (oHs 2) [] [] hX (by kernel_rfl) allNil (fun _ h => (qLoopN ⟨(wadd .i64 s1 (1 : Int)), rfl, h⟩))
    · refine HT.cond0 rfl hb8 ?_
      have hx6 := of_some hx6
      subst hx6
      exact HT.exitL (Le.re [] [] hX (by kernel_rfl)) (qThenE (qLoopE (hk7 (.inl ()) rfl)))

noncomputable def impl_ValidGame (a0 : List Int × List Int × List (List Int)) : Option (Bool) :=
  (show Option (Bool) from
    (impl_within (lenI a0.1) (1 : Int) (16 : Int)).bind fun y7 =>
    bif (!y7) then
      some true
    else
      bif ((lenI a0.2.1) != (lenI a0.1)) then
        some true
      else
        bif ((lenI a0.2.2) != (lenI a0.1)) then
          some true
        else
          (impl_areWithin a0.1 (0 : Int) (1 : Int)).bind fun y12 =>
          bif (!y12) then
            some true
          else
            (impl_areWithin a0.2.1 (0 : Int) (8 : Int)).bind fun y15 =>
            some (!y15)).bind fun v1 =>
  bif v1 then
    some false
  else
    (slices_ContainsFunc_____int64___int64_clo1_impl_ValidGame_1 a0.2.2 (lenI a0.1)).bind fun y5 =>
    some (!y5)

theorem f48_ok {a0 : List Int × List Int × List (List Int)} {r : Bool} (hr : impl_ValidGame a0 = some r) : CallOK Try.prog 48 [.imm (.st (.pair tLI (.pair tLI (.sl tLI)))) a0] [⟨false, .bool, r⟩] [] := by
  unfold impl_ValidGame at hr
  refine CallOK.of_body (ts := [(false, .bool)]) Try.func48 rfl (by kernel_rfl) (Nat.le_of_ble_eq_true (by kernel_rfl)) fun cx hP hN hO hF => ?_
  have hO : cx.own.map Prod.fst = [] := hO
  have hX := CxIs.mk hP hN hO
  have hF := hF rfl
  show HT cx ⟨[(0, .agg [nC a0.1, nC a0.2.1, .dat (.sl tLI) a0.2.2])], [], 0⟩ _ _
  refine HT.rg2 (oHs 2) ⟨[(1, pV 0 0)], [(0, .box [nC a0.1, nC a0.2.1, .dat (.sl tLI) a0.2.2])], 1⟩ hX (by kernel_rfl) allNil ?_
  refine HT.rg2 (oHs 5) ⟨[(1, pV 0 0), (3, pV 1 0)], [(1, .box [iC (lenI a0.1)]), (0, .box [nC a0.1, nC a0.2.1, .dat (.sl tLI) a0.2.2])], 2⟩ hX (by kernel_rfl) allNil ?_
  refine HT.seq ?_
  obtain ⟨v1', hT3, hr⟩ := of_bind hr
  refine HT.join (fun (v1 : Bool) => ⟨[(1, pV 0 0), (3, pV 1 0), (35, bV v1)], [(0, .box [nC a0.1, nC a0.2.1, .dat (.sl tLI) a0.2.2]), (1, .box [iC (lenI a0.1)])], 2⟩) (fun v => v = v1') (fun v1 hv2 => ?_) (fun cont => ?_)
  · subst hv2
    rcases of_bif hr with ⟨hb4, hr⟩ | ⟨hb4, hr⟩
    · refine HT.cond1 rfl hb4 ?_
      refine HT.rg2 [oH] ⟨[(2, bV false)], [], 2⟩ hX (by kernel_rfl) allNil ?_
      have hr := of_some hr
      subst hr
      exact HT.ret (qThenR ⟨[bV false], [], [], by kernel_rfl, by kernel_rfl, rfl, by kernel_rfl, by kernel_rfl, trivial⟩)
    · refine HT.cond0 rfl hb4 ?_
      refine HT.skip (qThen ?_)
      refine (Le.rz [(0, 0)] [] (st' := ⟨[(1, pV 0 0), (3, .one (.ip tI (lenI a0.1) 0)), (35, bV v1)], [(0, .box [nC a0.1, nC a0.2.1, .dat (.sl tLI) a0.2.2])], 2⟩) hX hF (by kernel_rfl)).ht ?_
      obtain ⟨y5, hc6, hr⟩ := of_bind hr
      refine HT.rg2 [oH, oH, oH, ⟨none, .call [.imm (.sl tLI), .clo tI] [⟨false, .bool, y5⟩] []⟩, oH, oH] ⟨[(2, bV (!y5))], [], 2⟩ hX (by kernel_rfl) (allCons (f74_clo1_impl_ValidGame_1_ok hc6) allNil) ?_
      have hr := of_some hr
      subst hr
      exact HT.ret ⟨[bV (!y5)], [], [], by kernel_rfl, by kernel_rfl, rfl, by kernel_rfl, by kernel_rfl, trivial⟩
  · obtain ⟨y7, hc8, hT3⟩ := of_bind hT3
    rcases of_bif hT3 with ⟨hb9, hT3⟩ | ⟨hb9, hT3⟩
    · exact HT.rgK [oH, ⟨none, .call [.imm tI, .imm tI, .imm tI] [⟨false, .bool, y7⟩] []⟩, oH, oH, ⟨some true, .no⟩, ⟨some true, .no⟩, ⟨some true, .no⟩, ⟨some true, .no⟩, ⟨some true, .no⟩, ⟨none, .tv true⟩, oH, ⟨some true, .no⟩, ⟨some true, .no⟩, ⟨some true, .no⟩, ⟨some true, .no⟩, ⟨some true, .no⟩, ⟨none, .tv true⟩, oH, ⟨some true, .no⟩, ⟨some true, .no⟩, ⟨some true, .no⟩, ⟨some true, .no⟩, ⟨none, .tv true⟩, oH, ⟨some true, .no⟩, ⟨some true, .no⟩, ⟨some true, .no⟩, ⟨some true, .no⟩, ⟨none, .tv true⟩] [(0, 0), (1, 1)] [] hX (by kernel_rfl) (allCons (f54_ok hc8) (allCons hb9 (allCons hb9 (allCons hb9 (allCons hb9 (allCons hb9 (allCons hb9 (allCons (rfl : true = true) (allCons (rfl : true = true) (allCons (rfl : true = true) (allCons (rfl : true = true) (allCons (rfl : true = true) (allCons (rfl : true = true) (allCons (rfl : true = true) (allCons (rfl : true = true) (allCons (rfl : true = true) (allCons (rfl : true = true) (allCons (rfl : true = true) (allCons (rfl : true = true) (allCons (rfl : true = true) (allCons (rfl : true = true) (allCons (rfl : true = true) (allCons (rfl : true = true) allNil))))))))))))))))))))))) (fun _ h => (qThen (h.ht (cont true (of_some hT3)))))
    · rcases of_bif hT3 with ⟨hb10, hT3⟩ | ⟨hb10, hT3⟩
      · exact HT.rgK [oH, ⟨none, .call [.imm tI, .imm tI, .imm tI] [⟨false, .bool, y7⟩] []⟩, oH, oH, ⟨some false, .no⟩, ⟨some false, .no⟩, ⟨some false, .no⟩, ⟨some false, .no⟩, ⟨some false, .no⟩, ⟨none, .tv false⟩, oH, ⟨some true, .no⟩, ⟨some true, .no⟩, ⟨some true, .no⟩, ⟨some true, .no⟩, ⟨some true, .no⟩, ⟨none, .tv true⟩, oH, ⟨some true, .no⟩, ⟨some true, .no⟩, ⟨some true, .no⟩, ⟨some true, .no⟩, ⟨none, .tv true⟩, oH, ⟨some true, .no⟩, ⟨some true, .no⟩, ⟨some true, .no⟩, ⟨some true, .no⟩, ⟨none, .tv true⟩] [(0, 0), (1, 1)] [] hX (by kernel_rfl) (allCons (f54_ok hc8) (allCons hb9 (allCons hb9 (allCons hb9 (allCons hb9 (allCons hb9 (allCons hb9 (allCons hb10 (allCons hb10 (allCons hb10 (allCons hb10 (allCons hb10 (allCons hb10 (allCons (rfl : true = true) (allCons (rfl : true = true) (allCons (rfl : true = true) (allCons (rfl : true = true) (allCons (rfl : true = true) (allCons (rfl : true = true) (allCons (rfl : true = true) (allCons (rfl : true = true) (allCons (rfl : true = true) (allCons (rfl : true = true) allNil))))))))))))))))))))))) (fun _ h => (qThen (h.ht (cont true (of_some hT3)))))
      · rcases of_bif hT3 with ⟨hb11, hT3⟩ | ⟨hb11, hT3⟩
        · exact HT.rgK [oH, ⟨none, .call [.imm tI, .imm tI, .imm tI] [⟨false, .bool, y7⟩] []⟩, oH, oH, ⟨some false, .no⟩, ⟨some false, .no⟩, ⟨some false, .no⟩, ⟨some false, .no⟩, ⟨some false, .no⟩, ⟨none, .tv false⟩, oH, ⟨some false, .no⟩, ⟨some false, .no⟩, ⟨some false, .no⟩, ⟨some false, .no⟩, ⟨some false, .no⟩, ⟨none, .tv false⟩, oH, ⟨some true, .no⟩, ⟨some true, .no⟩, ⟨some true, .no⟩, ⟨some true, .no⟩, ⟨none, .tv true⟩, oH, ⟨some true, .no⟩, ⟨some true, .no⟩, ⟨some true, .no⟩, ⟨some true, .no⟩, ⟨none, .tv true⟩] [(0, 0), (1, 1)] [] hX (by kernel_rfl) (allCons (f54_ok hc8) (allCons hb9 (allCons hb9 (allCons hb9 (allCons hb9 (allCons hb9 (allCons hb9 (allCons hb10 (allCons hb10 (allCons hb10 (allCons hb10 (allCons hb10 (allCons hb10 (allCons hb11 (allCons hb11 (allCons hb11 (allCons hb11 (allCons hb11 (allCons (rfl : true = true) (allCons (rfl : true = true) (allCons (rfl : true = true) (allCons (rfl : true = true) (allCons (rfl : true = true) allNil))))))))))))))))))))))) (fun _ h => (qThen (h.ht (cont true (of_some hT3)))))
        · obtain ⟨y12, hc13, hT3⟩ := of_bind hT3
          rcases of_bif hT3 with ⟨hb14, hT3⟩ | ⟨hb14, hT3⟩
          · exact HT.rgK [oH, ⟨none, .call [.imm tI, .imm tI, .imm tI] [⟨false, .bool, y7⟩] []⟩, oH, oH, ⟨some false, .no⟩, ⟨some false, .no⟩, ⟨some false, .no⟩, ⟨some false, .no⟩, ⟨some false, .no⟩, ⟨none, .tv false⟩, oH, ⟨some false, .no⟩, ⟨some false, .no⟩, ⟨some false, .no⟩, ⟨some false, .no⟩, ⟨some false, .no⟩, ⟨none, .tv false⟩, oH, ⟨some false, .no⟩, ⟨some false, .no⟩, ⟨some false, .call [.imm tLI, .imm tI, .imm tI] [⟨false, .bool, y12⟩] []⟩, ⟨some false, .no⟩, ⟨none, .tv false⟩, oH, ⟨some true, .no⟩, ⟨some true, .no⟩, ⟨some true, .no⟩, ⟨some true, .no⟩, ⟨none, .tv true⟩] [(0, 0), (1, 1)] [] hX (by kernel_rfl) (allCons (f54_ok hc8) (allCons hb9 (allCons hb9 (allCons hb9 (allCons hb9 (allCons hb9 (allCons hb9 (allCons hb10 (allCons hb10 (allCons hb10 (allCons hb10 (allCons hb10 (allCons hb10 (allCons hb11 (allCons hb11 (allCons hb11 (allCons (f63_ok hc13) (allCons hb11 (allCons hb11 (allCons hb14 (allCons hb14 (allCons hb14 (allCons hb14 (allCons hb14 allNil)))))))))))))))))))))))) (fun _ h => (qThen (h.ht (cont true (of_some hT3)))))
          · obtain ⟨y15, hc16, hT3⟩ := of_bind hT3
            exact HT.rgK [oH, ⟨none, .call [.imm tI, .imm tI, .imm tI] [⟨false, .bool, y7⟩] []⟩, oH, oH, ⟨some false, .no⟩, ⟨some false, .no⟩, ⟨some false, .no⟩, ⟨some false, .no⟩, ⟨some false, .no⟩, ⟨none, .tv false⟩, oH, ⟨some false, .no⟩, ⟨some false, .no⟩, ⟨some false, .no⟩, ⟨some false, .no⟩, ⟨some false, .no⟩, ⟨none, .tv false⟩, oH, ⟨some false, .no⟩, ⟨some false, .no⟩, ⟨some false, .call [.imm tLI, .imm tI, .imm tI] [⟨false, .bool, y12⟩] []⟩, ⟨some false, .no⟩, ⟨none, .tv false⟩, oH, ⟨some false, .no⟩, ⟨some false, .no⟩, ⟨some false, .call [.imm tLI, .imm tI, .imm tI] [⟨false, .bool, y15⟩] []⟩, ⟨some false, .no⟩, ⟨none, .tv false⟩] [(0, 0), (1, 1)] [] hX (by kernel_rfl) (allCons (f54_ok hc8) (allCons hb9 (allCons hb9 (allCons hb9 (allCons hb9 (allCons hb9 (allCons hb9 (allCons hb10 (allCons hb10 (allCons hb10 (allCons hb10 (allCons hb10 (allCons hb10 (allCons hb11 (allCons hb11 (allCons hb11 (allCons (f63_ok hc13) (allCons hb11 (allCons hb11 (allCons hb14 (allCons hb14 (allCons hb14 (allCons (f63_ok hc16) (allCons hb14 (allCons hb14 allNil))))))))))))))))))))))))) (fun _ h => (qThen (h.ht (cont (!y15) (of_some hT3)))))

noncomputable def slices_Index___int64_int64_B1 (a0 : List Int) (a1 : Int) (s1 : Int) : Option ((Int) ⊕ (Unit ⊕ Int)) :=
  bif (decide (s1 < (lenI a0))) then
    guardP ((0 : Int) ≤ s1 ∧ s1 < lenI a0) (
      bif (a1 == (List.getD a0 (Int.toNat s1) (0 : Int))) then
        some (.inr (.inr s1))
      else
        some (.inl (wadd .i64 s1 (1 : Int))))
  else
    some (.inr (.inl ()))

noncomputable def slices_Index___int64_int64 (a0 : List Int) (a1 : Int) : Option (Int) :=
  (rounds (slices_Index___int64_int64_B1 a0 a1) (0 : Int)).bind fun r2 => match r2 with
    | .inl r3 =>
      some (-1 : Int)
    | .inr r4 =>
      some r4

theorem f76_ok {a0 : List Int} {a1 : Int} {r : Int} (hr : slices_Index___int64_int64 a0 a1 = some r) : CallOK Try.prog 76 [.imm tLI a0, .imm tI a1] [⟨false, tI, r⟩] [] := by
  unfold slices_Index___int64_int64 at hr
  refine CallOK.of_body (ts := [(false, tI)]) Try.func76 rfl (by kernel_rfl) (Nat.le_of_ble_eq_true (by kernel_rfl)) fun cx hP hN hO hF => ?_
  have hO : cx.own.map Prod.fst = [] := hO
  have hX := CxIs.mk hP hN hO
  have hF := hF rfl
  show HT cx ⟨[(0, nV a0), (1, iV a1)], [], 0⟩ _ _
  refine HT.rg2 [oH] ⟨[(0, nV a0), (1, iV a1)], [], 0⟩ hX (by kernel_rfl) allNil ?_
  refine HT.seq ?_
  refine HT.rg2 (oHs 3) ⟨[(0, nV a0), (1, iV a1), (7, iV (lenI a0)), (8, iV (0 : Int))], [], 0⟩ hX (by kernel_rfl) allNil ?_
  refine HT.block ?_
  obtain ⟨r2, hL11, hr⟩ := of_bind hr
  refine HT.loopL (fun (s1 : Int) => ⟨[(0, nV a0), (1, iV a1), (7, iV (lenI a0)), (8, iV s1)], [], 0⟩) (fun (r2 : Unit ⊕ Int) => match r2 with | .inl r3 => (.exit 0, ⟨[], [], 0⟩) | .inr r4 => (.ret, ⟨[(4, iV r4)], [], 0⟩)) (Le.re [] [] hX (by kernel_rfl)) hL11 ?_ (fun s1 x5 hx6 hk7 => ?_)
  · rcases r2 with r3 | r4
    · refine (qBlockX (qThen ?_))
      refine HT.rg2 [oH] ⟨[(4, iV (-1 : Int))], [], 0⟩ hX (by kernel_rfl) allNil ?_
      have hr := of_some hr
      subst hr
      exact HT.ret ⟨[iV (-1 : Int)], [], [], by kernel_rfl, by kernel_rfl, rfl, by kernel_rfl, by kernel_rfl, trivial⟩
    · have hr := of_some hr
      subst hr
      exact (qBlockR (qThenR ⟨[iV r4], [], [], by kernel_rfl, by kernel_rfl, rfl, by kernel_rfl, by kernel_rfl, trivial⟩))
  · refine HT.rg2 [oH] ⟨[(0, nV a0), (1, iV a1), (7, iV (lenI a0)), (8, iV s1), (9, bV (decide (s1 < (lenI a0))))], [], 0⟩ hX (by kernel_rfl) allNil ?_
    refine HT.seq ?_
    rcases of_bif hx6 with ⟨hb8, hx6⟩ | ⟨hb8, hx6⟩
    · refine HT.cond1 rfl hb8 ?_
      refine HT.skip (qThen ?_)
      refine HT.seq ?_
      refine HT.block ?_
      refine HT.rg2 (oHs 2) ⟨[(0, nV a0), (1, iV a1), (5, iV s1), (7, iV (lenI a0)), (8, iV s1)], [], 0⟩ hX (by kernel_rfl) allNil ?_
      obtain ⟨hg9, hx6⟩ := of_guard hx6
      refine HT.rg2 (oHs 6) ⟨[(0, nV a0), (1, iV a1), (5, iV s1), (7, iV (lenI a0)), (8, iV s1), (16, bV (a1 == (List.getD a0 (Int.toNat s1) (0 : Int))))], [], 0⟩ hX (by kernel_rfl) (allCons hg9 allNil) ?_
      rcases of_bif hx6 with ⟨hb10, hx6⟩ | ⟨hb10, hx6⟩
      · refine HT.cond1 rfl hb10 ?_
        refine HT.rg2 (oHs 2) ⟨[(4, iV s1)], [], 0⟩ hX (by kernel_rfl) allNil ?_
        have hx6 := of_some hx6
        subst hx6
        exact HT.retL (Le.re [] [] hX (by kernel_rfl)) (qBlockR (qThenR (qLoopR (hk7 (.inr s1) rfl))))
      · refine HT.cond0 rfl hb10 ?_
        refine HT.skip (qBlock (qThen ?_))
        have hx6 := of_some hx6
        subst hx6
        exact HT.rgK (oHs 2) [] [] hX (by kernel_rfl) allNil (fun _ h => (qLoopN ⟨(wadd .i64 s1 (1 : Int)), rfl, h⟩))
    · refine HT.cond0 rfl hb8 ?_
      have hx6 := of_some hx6
      subst hx6
      exact HT.exitL (Le.re [] [] hX (by kernel_rfl)) (qThenE (qLoopE (hk7 (.inl ()) rfl)))

noncomputable def slices_Contains___int64_int64 (a0 : List Int) (a1 : Int) : Option (Bool) :=
  (slices_Index___int64_int64 a0 a1).bind fun y1 =>
  some (decide (y1 ≥ (0 : Int)))

theorem f49_ok {a0 : List Int} {a1 : Int} {r : Bool} (hr : slices_Contains___int64_int64 a0 a1 = some r) : CallOK Try.prog 49 [.imm tLI a0, .imm tI a1] [⟨false, .bool, r⟩] [] := by
  unfold slices_Contains___int64_int64 at hr
  refine CallOK.of_body (ts := [(false, .bool)]) Try.func49 rfl (by kernel_rfl) (Nat.le_of_ble_eq_true (by kernel_rfl)) fun cx hP hN hO hF => ?_
  have hO : cx.own.map Prod.fst = [] := hO
  have hX := CxIs.mk hP hN hO
  have hF := hF rfl
  show HT cx ⟨[(0, nV a0), (1, iV a1)], [], 0⟩ _ _
  refine HT.rg2 [oH] ⟨[(0, nV a0), (1, iV a1)], [], 0⟩ hX (by kernel_rfl) allNil ?_
  obtain ⟨y1, hc2, hr⟩ := of_bind hr
  refine HT.rg2 [oH, oH, ⟨none, .call [.imm tLI, .imm tI] [⟨false, tI, y1⟩] []⟩, oH, oH] ⟨[(4, bV (decide (y1 ≥ (0 : Int))))], [], 0⟩ hX (by kernel_rfl) (allCons (f76_ok hc2) allNil) ?_
  have hr := of_some hr
  subst hr
  exact HT.ret ⟨[bV (decide (y1 ≥ (0 : Int)))], [], [], by kernel_rfl, by kernel_rfl, rfl, by kernel_rfl, by kernel_rfl, trivial⟩

noncomputable def impl_TurnGame_B1 (a0 : List Int × List Int × List (List Int)) (s5 : Int × List Int × List Int × List (List Int)) : Option ((Int × List Int × List Int × List (List Int)) ⊕ ((List Int × List Int × List (List Int)))) :=
  bif (decide (s5.1 < (lenI a0.1))) then
    guardP ((0 : Int) ≤ s5.1 ∧ s5.1 < lenI a0.1) (
      guardP (List.length s5.2.1 + List.length ([(wsub .i64 (1 : Int) (List.getD a0.1 (Int.toNat s5.1) (0 : Int)))] : List Int) ≤ appMax) (
        guardP ((0 : Int) ≤ s5.1 ∧ s5.1 < lenI a0.2.1) (
          guardP (List.length s5.2.2.1 + List.length ([(wadd .i64 (List.getD a0.2.1 (Int.toNat s5.1) (0 : Int)) (1 : Int))] : List Int) ≤ appMax) (
            (some (s5.2.2.1 ++ ([(wadd .i64 (List.getD a0.2.1 (Int.toNat s5.1) (0 : Int)) (1 : Int))] : List Int))).bind fun q16 =>
            guardP ((0 : Int) ≤ s5.1 ∧ s5.1 < lenI a0.2.2) (
              (slices_Clone (List.getD a0.2.2 (Int.toNat s5.1) ([] : List Int))).bind fun y19 =>
              guardP (List.length s5.2.2.2 + List.length ([y19] : List (List Int)) ≤ appMax) (
                some (.inl ((wadd .i64 s5.1 (1 : Int)), (s5.2.1 ++ ([(wsub .i64 (1 : Int) (List.getD a0.1 (Int.toNat s5.1) (0 : Int)))] : List Int)), q16, (s5.2.2.2 ++ ([y19] : List (List Int)))))))))))
  else
    some (.inr (s5.2.1, s5.2.2.1, s5.2.2.2))

noncomputable def impl_TurnGame (a0 : List Int × List Int × List (List Int)) : Option ((List Int × List Int × List (List Int)) × Bool) :=
  (show Option (Bool) from
    (impl_ValidGame (a0.1, a0.2.1, a0.2.2)).bind fun y23 =>
    bif (!y23) then
      some true
    else
      (slices_Contains___int64_int64 a0.2.1 (8 : Int)).bind fun y26 =>
      some y26).bind fun v1 =>
  bif v1 then
    some ((([] : List Int), ([] : List Int), ([] : List (List Int))), false)
  else
    (rounds (impl_TurnGame_B1 a0) ((0 : Int), ([] : List Int), ([] : List Int), ([] : List (List Int)))).bind fun r7 =>
    some ((r7.1, r7.2.1, r7.2.2), true)

theorem f13_ok {a0 : List Int × List Int × List (List Int)} {r : (List Int × List Int × List (List Int)) × Bool} (hr : impl_TurnGame a0 = some r) : CallOK Try.prog 13 [.imm (.st (.pair tLI (.pair tLI (.sl tLI)))) a0] [⟨true, (.st (.pair tLI (.pair tLI (.sl (.own tI))))), r.1⟩, ⟨false, .bool, r.2⟩] [] := by
  unfold impl_TurnGame at hr
  refine CallOK.of_body (ts := [(true, (.st (.pair tLI (.pair tLI (.sl (.own tI)))))), (false, .bool)]) Try.func13 rfl (by kernel_rfl) (Nat.le_of_ble_eq_true (by kernel_rfl)) fun cx hP hN hO hF => ?_
  have hO : cx.own.map Prod.fst = [] := hO
  have hX := CxIs.mk hP hN hO
  have hF := hF rfl
  show HT cx ⟨[(0, .agg [nC a0.1, nC a0.2.1, .dat (.sl tLI) a0.2.2])], [], 0⟩ _ _
  refine HT.rg2 (oHs 3) ⟨[(1, pV 0 0), (2, pV 1 0)], [(1, .box [.nilS, .nilS, .nilS]), (0, .box [nC a0.1, nC a0.2.1, .dat (.sl tLI) a0.2.2])], 2⟩ hX (by kernel_rfl) allNil ?_
  refine HT.seq ?_
  obtain ⟨v1', hT3, hr⟩ := of_bind hr
  refine HT.join (fun (v1 : Bool) => ⟨[(1, pV 0 0), (2, pV 1 0), (14, bV v1)], [(0, .box [nC a0.1, nC a0.2.1, .dat (.sl tLI) a0.2.2]), (1, .box [.nilS, .nilS, .nilS])], 2⟩) (fun v => v = v1') (fun v1 hv2 => ?_) (fun cont => ?_)
  · subst hv2
    rcases of_bif hr with ⟨hb4, hr⟩ | ⟨hb4, hr⟩
    · refine HT.cond1 rfl hb4 ?_
      refine HT.rg2 (oHs 3) ⟨[(2, pV 1 0), (3, bV false)], [(1, .box [.nilS, .nilS, .nilS])], 2⟩ hX (by kernel_rfl) allNil ?_
      have hr := of_some hr
      subst hr
      exact HT.ret (qThenR ⟨[.agg [.nilS, .nilS, .nilS], bV false], [], [], by kernel_rfl, by kernel_rfl, rfl, by kernel_rfl, by kernel_rfl, trivial⟩)
    · refine HT.cond0 rfl hb4 ?_
      refine HT.skip (qThen ?_)
      refine HT.rg2 (oHs 3) ⟨[(1, pV 0 0), (2, pV 1 0), (4, pV 2 0)], [(2, .box [.nilS, .nilS, .nilS]), (0, .box [nC a0.1, nC a0.2.1, .dat (.sl tLI) a0.2.2]), (1, .box [.nilS, .nilS, .nilS])], 3⟩ hX (by kernel_rfl) allNil ?_
      refine HT.seq ?_
      refine HT.rg2 (oHs 4) ⟨[(1, pV 0 0), (2, pV 1 0), (4, pV 2 0), (18, nV a0.1), (19, iV (lenI a0.1)), (20, iV (0 : Int))], [(2, .box [.nilS, .nilS, .nilS]), (0, .box [nC a0.1, nC a0.2.1, .dat (.sl tLI) a0.2.2]), (1, .box [.nilS, .nilS, .nilS])], 3⟩ hX (by kernel_rfl) allNil ?_
      refine HT.block ?_
      obtain ⟨r6, hL22, hr⟩ := of_bind hr
      refine HT.loopL (fun (s5 : Int × List Int × List Int × List (List Int)) => ⟨[(1, pV 0 0), (2, pV 1 0), (4, pV 2 0), (18, nV a0.1), (19, iV (lenI a0.1)), (20, iV s5.1)], [(0, .box [nC a0.1, nC a0.2.1, .dat (.sl tLI) a0.2.2]), (1, .box [.nilS, .nilS, .nilS]), (2, .box [.all 3, .all 4, .all 5]), (3, .seq tI s5.2.1), (4, .seq tI s5.2.2.1), (5, .seq (.own tI) s5.2.2.2)], 6⟩) (fun (r7 : (List Int × List Int × List (List Int))) => (.exit 0, ⟨[(2, pV 0 0), (4, pV 1 0)], [(0, .box [.nilS, .nilS, .nilS]), (1, .box [.all 2, .all 3, .all 4]), (2, .seq tI r7.1), (3, .seq tI r7.2.1), (4, .seq (.own tI) r7.2.2)], 5⟩)) (Le.re [(0, 0), (1, 1), (2, 2)] [3, 4, 5] hX (by kernel_rfl)) hL22 ?_ (fun s5 x8 hx9 hk10 => ?_)
      · refine (qBlockX (qThen ?_))
        refine HT.rg2 (oHs 3) ⟨[(2, pV 0 0), (3, bV true)], [(0, .box [.all 2, .all 3, .all 4]), (2, .seq tI r6.1), (3, .seq tI r6.2.1), (4, .seq (.own tI) r6.2.2)], 5⟩ hX (by kernel_rfl) allNil ?_
        have hr := of_some hr
        subst hr
        exact HT.ret ⟨[.agg [.all 2, .all 3, .all 4], bV true], [2, 3, 4], [], by kernel_rfl, by kernel_rfl, rfl, by kernel_rfl, by kernel_rfl, trivial⟩
      · refine HT.rg2 [oH] ⟨[(1, pV 0 0), (2, pV 1 0), (4, pV 2 0), (18, nV a0.1), (19, iV (lenI a0.1)), (20, iV s5.1), (21, bV (decide (s5.1 < (lenI a0.1))))], [(0, .box [nC a0.1, nC a0.2.1, .dat (.sl tLI) a0.2.2]), (1, .box [.nilS, .nilS, .nilS]), (2, .box [.all 3, .all 4, .all 5]), (3, .seq tI s5.2.1), (4, .seq tI s5.2.2.1), (5, .seq (.own tI) s5.2.2.2)], 6⟩ hX (by kernel_rfl) allNil ?_
        refine HT.seq ?_
        rcases of_bif hx9 with ⟨hb11, hx9⟩ | ⟨hb11, hx9⟩
        · refine HT.cond1 rfl hb11 ?_
          refine HT.skip (qThen ?_)
          refine HT.seq ?_
          refine HT.block ?_
          obtain ⟨hg12, hx9⟩ := of_guard hx9
          refine HT.rg2 (oHs 5) ⟨[(1, pV 0 0), (2, pV 1 0), (4, pV 2 0), (5, iV s5.1), (6, iV (List.getD a0.1 (Int.toNat s5.1) (0 : Int))), (18, nV a0.1), (19, iV (lenI a0.1)), (20, iV s5.1)], [(0, .box [nC a0.1, nC a0.2.1, .dat (.sl tLI) a0.2.2]), (1, .box [.nilS, .nilS, .nilS]), (2, .box [.all 3, .all 4, .all 5]), (3, .seq tI s5.2.1), (4, .seq tI s5.2.2.1), (5, .seq (.own tI) s5.2.2.2)], 6⟩ hX (by kernel_rfl) (allCons hg12 allNil) ?_
          obtain ⟨hg13, hx9⟩ := of_guard hx9
          refine HT.rg2 [oH, oH, oH, oH, ⟨none, .ty tI⟩, ⟨none, .ty tI⟩, oH, oH] ⟨[(1, pV 0 0), (2, pV 1 0), (4, pV 2 0), (5, iV s5.1), (18, nV a0.1), (19, iV (lenI a0.1)), (20, iV s5.1)], [(2, .box [.all 7, .all 4, .all 5]), (7, .seq tI (s5.2.1 ++ ([(wsub .i64 (1 : Int) (List.getD a0.1 (Int.toNat s5.1) (0 : Int)))] : List Int))), (0, .box [nC a0.1, nC a0.2.1, .dat (.sl tLI) a0.2.2]), (1, .box [.nilS, .nilS, .nilS]), (4, .seq tI s5.2.2.1), (5, .seq (.own tI) s5.2.2.2)], 8⟩ hX (by kernel_rfl) (allCons hg13 allNil) ?_
          obtain ⟨hg14, hx9⟩ := of_guard hx9
          obtain ⟨hg15, hx9⟩ := of_guard hx9
          refine HT.dr2 9 [⟨oH, []⟩, ⟨oH, [0]⟩, ⟨oH, []⟩, ⟨oH, [2]⟩, ⟨oH, []⟩, ⟨oH, [2, 3, 4]⟩, ⟨oH, [2, 3, 4, 5]⟩, ⟨oH, [2, 3, 4, 5, 6]⟩, ⟨⟨none, .ty tI⟩, [2, 3, 4, 5, 6, 7]⟩] [[0, 1, 2, 3, 4, 5, 6, 7, 8], [0, 1, 2, 3, 4, 5, 6, 7, 8, 9], [0, 1, 2, 3, 4, 5, 6, 7, 8, 9, 10]] [⟨none, .ty tI⟩, oH, oH] ⟨[(1, pV 0 0), (2, pV 1 0), (4, pV 2 0), (5, iV s5.1), (18, nV a0.1), (19, iV (lenI a0.1)), (20, iV s5.1)], [(2, .box [.all 7, .all 9, .all 5]), (9, .seq tI (s5.2.2.1 ++ ([(wadd .i64 (List.getD a0.2.1 (Int.toNat s5.1) (0 : Int)) (1 : Int))] : List Int))), (7, .seq tI (s5.2.1 ++ ([(wsub .i64 (1 : Int) (List.getD a0.1 (Int.toNat s5.1) (0 : Int)))] : List Int))), (0, .box [nC a0.1, nC a0.2.1, .dat (.sl tLI) a0.2.2]), (1, .box [.nilS, .nilS, .nilS]), (5, .seq (.own tI) s5.2.2.2)], 10⟩ hX (by kernel_rfl) (by kernel_rfl) (allCons hg14 (allCons hg15 allNil)) ?_
          obtain ⟨q16, hq17, hx9⟩ := of_bind hx9
          have hq17 := of_some2 hq17
          refine (Le.cv (s := ⟨[(2, 2), (9, 9), (7, 7), (0, 0), (1, 1), (5, 5)], [], [], false⟩) (own := []) (ps := [s5.1 = s5.1, a0.1 = a0.1, (lenI a0.1) = (lenI a0.1), s5.1 = s5.1, q16 = (s5.2.2.1 ++ ([(wadd .i64 (List.getD a0.2.1 (Int.toNat s5.1) (0 : Int)) (1 : Int))] : List Int)), (s5.2.1 ++ ([(wsub .i64 (1 : Int) (List.getD a0.1 (Int.toNat s5.1) (0 : Int)))] : List Int)) = (s5.2.1 ++ ([(wsub .i64 (1 : Int) (List.getD a0.1 (Int.toNat s5.1) (0 : Int)))] : List Int)), a0.1 = a0.1, a0.2.1 = a0.2.1, a0.2.2 = a0.2.2, s5.2.2.2 = s5.2.2.2]) (st' := ⟨[(1, pV 0 0), (2, pV 1 0), (4, pV 2 0), (5, iV s5.1), (18, nV a0.1), (19, iV (lenI a0.1)), (20, iV s5.1)], [(2, .box [.all 7, .all 9, .all 5]), (9, .seq tI q16), (7, .seq tI (s5.2.1 ++ ([(wsub .i64 (1 : Int) (List.getD a0.1 (Int.toNat s5.1) (0 : Int)))] : List Int))), (0, .box [nC a0.1, nC a0.2.1, .dat (.sl tLI) a0.2.2]), (1, .box [.nilS, .nilS, .nilS]), (5, .seq (.own tI) s5.2.2.2)], 10⟩) hO (fun h => by cases h) (by kernel_rfl) ⟨rfl, rfl, rfl, rfl, hq17, rfl, rfl, rfl, rfl, rfl, trivial⟩).ht ?_
          obtain ⟨hg18, hx9⟩ := of_guard hx9
          obtain ⟨y19, hc20, hx9⟩ := of_bind hx9
          obtain ⟨hg21, hx9⟩ := of_guard hx9
          refine HT.drL 9 [⟨oH, []⟩, ⟨oH, [0]⟩, ⟨oH, []⟩, ⟨oH, [2]⟩, ⟨oH, []⟩, ⟨oH, [2, 3, 4]⟩, ⟨oH, [2, 3, 4, 5]⟩, ⟨⟨none, .call [.imm tLI] [⟨true, tLI, y19⟩] []⟩, [2, 3, 4, 5, 6]⟩, ⟨⟨none, .ty (.own tI)⟩, [2, 3, 4, 5, 6, 7]⟩] [[0, 1, 2, 3, 4, 5, 6, 7, 8], [0, 1, 2, 3, 4, 5, 6, 7, 8, 9], [0, 1, 2, 3, 4, 5, 6, 7, 8, 9, 10]] [⟨none, .ty (.own tI)⟩, oH, oH] ⟨[(1, pV 0 0), (2, pV 1 0), (4, pV 2 0), (18, nV a0.1), (19, iV (lenI a0.1)), (20, iV s5.1)], [(2, .box [.all 7, .all 9, .all 12]), (12, .seq (.own tI) (s5.2.2.2 ++ ([y19] : List (List Int)))), (9, .seq tI q16), (7, .seq tI (s5.2.1 ++ ([(wsub .i64 (1 : Int) (List.getD a0.1 (Int.toNat s5.1) (0 : Int)))] : List Int))), (0, .box [nC a0.1, nC a0.2.1, .dat (.sl tLI) a0.2.2]), (1, .box [.nilS, .nilS, .nilS])], 13⟩ hX (by kernel_rfl) (by kernel_rfl) (allCons hg18 (allCons (f50_ok hc20) (allCons hg21 allNil))) (qBlock (qThen ?_))
          have hx9 := of_some hx9
          subst hx9
          exact HT.rgK (oHs 2) [(0, 0), (1, 1), (2, 2), (7, 3), (9, 4), (12, 5)] [] hX (by kernel_rfl) allNil (fun _ h => (qLoopN ⟨((wadd .i64 s5.1 (1 : Int)), (s5.2.1 ++ ([(wsub .i64 (1 : Int) (List.getD a0.1 (Int.toNat s5.1) (0 : Int)))] : List Int)), q16, (s5.2.2.2 ++ ([y19] : List (List Int)))), rfl, h⟩))
        · refine HT.cond0 rfl hb11 ?_
          have hx9 := of_some hx9
          subst hx9
          exact HT.exitL (Le.re [(1, 0), (2, 1), (3, 2), (4, 3), (5, 4)] [] hX (by kernel_rfl)) (qThenE (qLoopE (hk10 (s5.2.1, s5.2.2.1, s5.2.2.2) rfl)))
  · obtain ⟨y23, hc24, hT3⟩ := of_bind hT3
    rcases of_bif hT3 with ⟨hb25, hT3⟩ | ⟨hb25, hT3⟩
    · exact HT.rgK [oH, ⟨none, .call [.imm (.st (.pair tLI (.pair tLI (.sl tLI))))] [⟨false, .bool, y23⟩] []⟩, oH, oH, ⟨some true, .no⟩, ⟨some true, .no⟩, ⟨some true, .no⟩, ⟨none, .tv true⟩] [(0, 0), (1, 1)] [] hX (by kernel_rfl) (allCons (f48_ok hc24) (allCons hb25 (allCons hb25 (allCons hb25 (allCons hb25 allNil))))) (fun _ h => (qThen (h.ht (cont true (of_some hT3)))))
    · obtain ⟨y26, hc27, hT3⟩ := of_bind hT3
      exact HT.rgK [oH, ⟨none, .call [.imm (.st (.pair tLI (.pair tLI (.sl tLI))))] [⟨false, .bool, y23⟩] []⟩, oH, oH, ⟨some false, .no⟩, ⟨some false, .no⟩, ⟨some false, .call [.imm tLI, .imm tI] [⟨false, .bool, y26⟩] []⟩, ⟨none, .tv false⟩] [(0, 0), (1, 1)] [] hX (by kernel_rfl) (allCons (f48_ok hc24) (allCons hb25 (allCons hb25 (allCons hb25 (allCons (f49_ok hc27) (allCons hb25 allNil)))))) (fun _ h => (qThen (h.ht (cont y26 (of_some hT3)))))

noncomputable def laws_eqInt64S_B1 (a0 : List Int) (a1 : List Int) (s2 : Int) : Option ((Int) ⊕ (Unit ⊕ Unit)) :=
  bif (decide (s2 < (lenI a0))) then
    guardP ((0 : Int) ≤ s2 ∧ s2 < lenI a0) (
      guardP ((0 : Int) ≤ s2 ∧ s2 < lenI a1) (
        bif ((List.getD a0 (Int.toNat s2) (0 : Int)) != (List.getD a1 (Int.toNat s2) (0 : Int))) then
          some (.inr (.inr ()))
        else
          some (.inl (wadd .i64 s2 (1 : Int)))))
  else
    some (.inr (.inl ()))

noncomputable def laws_eqInt64S (a0 : List Int) (a1 : List Int) : Option (Bool) :=
  bif ((lenI a0) != (lenI a1)) then
    some false
  else
    (rounds (laws_eqInt64S_B1 a0 a1) (0 : Int)).bind fun r3 => match r3 with
      | .inl r4 =>
        some true
      | .inr r5 =>
        some false

theorem f20_ok {a0 : List Int} {a1 : List Int} {r : Bool} (hr : laws_eqInt64S a0 a1 = some r) : CallOK Try.prog 20 [.imm tLI a0, .imm tLI a1] [⟨false, .bool, r⟩] [] := by
  unfold laws_eqInt64S at hr
  refine CallOK.of_body (ts := [(false, .bool)]) Try.func20 rfl (by kernel_rfl) (Nat.le_of_ble_eq_true (by kernel_rfl)) fun cx hP hN hO hF => ?_
  have hO : cx.own.map Prod.fst = [] := hO
  have hX := CxIs.mk hP hN hO
  have hF := hF rfl
  show HT cx ⟨[(0, nV a0), (1, nV a1)], [], 0⟩ _ _
  refine HT.rg2 [oH] ⟨[(0, nV a0), (1, nV a1)], [], 0⟩ hX (by kernel_rfl) allNil ?_
  refine HT.seq ?_
  refine HT.rg2 (oHs 5) ⟨[(0, nV a0), (1, nV a1), (10, bV ((lenI a0) != (lenI a1)))], [], 0⟩ hX (by kernel_rfl) allNil ?_
  rcases of_bif hr with ⟨hb1, hr⟩ | ⟨hb1, hr⟩
  · refine HT.cond1 rfl hb1 ?_
    refine HT.rg2 [oH] ⟨[(4, bV false)], [], 0⟩ hX (by kernel_rfl) allNil ?_
    have hr := of_some hr
    subst hr
    exact HT.ret (qThenR ⟨[bV false], [], [], by kernel_rfl, by kernel_rfl, rfl, by kernel_rfl, by kernel_rfl, trivial⟩)
  · refine HT.cond0 rfl hb1 ?_
    refine HT.skip (qThen ?_)
    refine HT.seq ?_
    refine HT.rg2 [oH] ⟨[(0, nV a0), (1, nV a1), (5, iV (0 : Int))], [], 0⟩ hX (by kernel_rfl) allNil ?_
    refine HT.block ?_
    obtain ⟨r3, hL13, hr⟩ := of_bind hr
    refine HT.loopL (fun (s2 : Int) => ⟨[(0, nV a0), (1, nV a1), (5, iV s2)], [], 0⟩) (fun (r3 : Unit ⊕ Unit) => match r3 with | .inl r4 => (.exit 0, ⟨[], [], 0⟩) | .inr r5 => (.ret, ⟨[(4, bV false)], [], 0⟩)) (Le.re [] [] hX (by kernel_rfl)) hL13 ?_ (fun s2 x6 hx7 hk8 => ?_)
    · rcases r3 with r4 | r5
      · refine (qBlockX (qThen ?_))
        refine HT.rg2 [oH] ⟨[(4, bV true)], [], 0⟩ hX (by kernel_rfl) allNil ?_
        have hr := of_some hr
        subst hr
        exact HT.ret ⟨[bV true], [], [], by kernel_rfl, by kernel_rfl, rfl, by kernel_rfl, by kernel_rfl, trivial⟩
      · have hr := of_some hr
        subst hr
        exact (qBlockR (qThenR ⟨[bV false], [], [], by kernel_rfl, by kernel_rfl, rfl, by kernel_rfl, by kernel_rfl, trivial⟩))
    · refine HT.seq ?_
      refine HT.rg2 (oHs 4) ⟨[(0, nV a0), (1, nV a1), (5, iV s2), (14, bV (decide (s2 < (lenI a0))))], [], 0⟩ hX (by kernel_rfl) allNil ?_
      rcases of_bif hx7 with ⟨hb9, hx7⟩ | ⟨hb9, hx7⟩
      · refine HT.cond1 rfl hb9 ?_
        refine HT.skip (qThen ?_)
        refine HT.seq ?_
        refine HT.block ?_
        obtain ⟨hg10, hx7⟩ := of_guard hx7
        obtain ⟨hg11, hx7⟩ := of_guard hx7
        refine HT.dr2 8 [⟨oH, []⟩, ⟨oH, []⟩, ⟨oH, [0, 1]⟩, ⟨oH, [0, 1, 2]⟩, ⟨oH, []⟩, ⟨oH, []⟩, ⟨oH, [4, 5]⟩, ⟨oH, [4, 5, 6]⟩] [[0, 1, 2, 3, 4, 5, 6, 7]] [oH] ⟨[(0, nV a0), (1, nV a1), (5, iV s2), (25, bV ((List.getD a0 (Int.toNat s2) (0 : Int)) != (List.getD a1 (Int.toNat s2) (0 : Int))))], [], 0⟩ hX (by kernel_rfl) (by kernel_rfl) (allCons hg10 (allCons hg11 allNil)) ?_
        rcases of_bif hx7 with ⟨hb12, hx7⟩ | ⟨hb12, hx7⟩
        · refine HT.cond1 rfl hb12 ?_
          refine HT.rg2 [oH] ⟨[(4, bV false)], [], 0⟩ hX (by kernel_rfl) allNil ?_
          have hx7 := of_some hx7
          subst hx7
          exact HT.retL (Le.re [] [] hX (by kernel_rfl)) (qBlockR (qThenR (qLoopR (hk8 (.inr ()) rfl))))
        · refine HT.cond0 rfl hb12 ?_
          refine HT.skip (qBlock (qThen ?_))
          have hx7 := of_some hx7
          subst hx7
          exact HT.rgK (oHs 3) [] [] hX (by kernel_rfl) allNil (fun _ h => (qLoopN ⟨(wadd .i64 s2 (1 : Int)), rfl, h⟩))
      · refine HT.cond0 rfl hb9 ?_
        have hx7 := of_some hx7
        subst hx7
        exact HT.exitL (Le.re [] [] hX (by kernel_rfl)) (qThenE (qLoopE (hk8 (.inl ()) rfl)))

noncomputable def laws_eqInt64SS_B1 (a0 : List (List Int)) (a1 : List (List Int)) (s2 : Int) : Option ((Int) ⊕ (Unit ⊕ Unit)) :=
  bif (decide (s2 < (lenI a0))) then
    guardP ((0 : Int) ≤ s2 ∧ s2 < lenI a0) (
      guardP ((0 : Int) ≤ s2 ∧ s2 < lenI a1) (
        (laws_eqInt64S (List.getD a0 (Int.toNat s2) ([] : List Int)) (List.getD a1 (Int.toNat s2) ([] : List Int))).bind fun y12 =>
        bif (!y12) then
          some (.inr (.inr ()))
        else
          some (.inl (wadd .i64 s2 (1 : Int)))))
  else
    some (.inr (.inl ()))

noncomputable def laws_eqInt64SS (a0 : List (List Int)) (a1 : List (List Int)) : Option (Bool) :=
  bif ((lenI a0) != (lenI a1)) then
    some false
  else
    (rounds (laws_eqInt64SS_B1 a0 a1) (0 : Int)).bind fun r3 => match r3 with
      | .inl r4 =>
        some true
      | .inr r5 =>
        some false

theorem f29_ok {a0 : List (List Int)} {a1 : List (List Int)} {r : Bool} (hr : laws_eqInt64SS a0 a1 = some r) : CallOK Try.prog 29 [.imm (.sl tLI) a0, .imm (.sl tLI) a1] [⟨false, .bool, r⟩] [] := by
  unfold laws_eqInt64SS at hr
  refine CallOK.of_body (ts := [(false, .bool)]) Try.func29 rfl (by kernel_rfl) (Nat.le_of_ble_eq_true (by kernel_rfl)) fun cx hP hN hO hF => ?_
  have hO : cx.own.map Prod.fst = [] := hO
  have hX := CxIs.mk hP hN hO
  have hF := hF rfl
  show HT cx ⟨[(0, .one (.dat (.sl tLI) a0)), (1, .one (.dat (.sl tLI) a1))], [], 0⟩ _ _
  refine HT.rg2 [oH] ⟨[(0, .one (.dat (.sl tLI) a0)), (1, .one (.dat (.sl tLI) a1))], [], 0⟩ hX (by kernel_rfl) allNil ?_
  refine HT.seq ?_
  refine HT.rg2 (oHs 5) ⟨[(0, .one (.dat (.sl tLI) a0)), (1, .one (.dat (.sl tLI) a1)), (10, bV ((lenI a0) != (lenI a1)))], [], 0⟩ hX (by kernel_rfl) allNil ?_
  rcases of_bif hr with ⟨hb1, hr⟩ | ⟨hb1, hr⟩
  · refine HT.cond1 rfl hb1 ?_
    refine HT.rg2 [oH] ⟨[(4, bV false)], [], 0⟩ hX (by kernel_rfl) allNil ?_
    have hr := of_some hr
    subst hr
    exact HT.ret (qThenR ⟨[bV false], [], [], by kernel_rfl, by kernel_rfl, rfl, by kernel_rfl, by kernel_rfl, trivial⟩)
  · refine HT.cond0 rfl hb1 ?_
    refine HT.skip (qThen ?_)
    refine HT.seq ?_
    refine HT.rg2 [oH] ⟨[(0, .one (.dat (.sl tLI) a0)), (1, .one (.dat (.sl tLI) a1)), (5, iV (0 : Int))], [], 0⟩ hX (by kernel_rfl) allNil ?_
    refine HT.block ?_
    obtain ⟨r3, hL15, hr⟩ := of_bind hr
    refine HT.loopL (fun (s2 : Int) => ⟨[(0, .one (.dat (.sl tLI) a0)), (1, .one (.dat (.sl tLI) a1)), (5, iV s2)], [], 0⟩) (fun (r3 : Unit ⊕ Unit) => match r3 with | .inl r4 => (.exit 0, ⟨[], [], 0⟩) | .inr r5 => (.ret, ⟨[(4, bV false)], [], 0⟩)) (Le.re [] [] hX (by kernel_rfl)) hL15 ?_ (fun s2 x6 hx7 hk8 => ?_)
    · rcases r3 with r4 | r5
      · refine (qBlockX (qThen ?_))
        refine HT.rg2 [oH] ⟨[(4, bV true)], [], 0⟩ hX (by kernel_rfl) allNil ?_
        have hr := of_some hr
        subst hr
        exact HT.ret ⟨[bV true], [], [], by kernel_rfl, by kernel_rfl, rfl, by kernel_rfl, by kernel_rfl, trivial⟩
      · have hr := of_some hr
        subst hr
        exact (qBlockR (qThenR ⟨[bV false], [], [], by kernel_rfl, by kernel_rfl, rfl, by kernel_rfl, by kernel_rfl, trivial⟩))
    · refine HT.seq ?_
      refine HT.rg2 (oHs 4) ⟨[(0, .one (.dat (.sl tLI) a0)), (1, .one (.dat (.sl tLI) a1)), (5, iV s2), (14, bV (decide (s2 < (lenI a0))))], [], 0⟩ hX (by kernel_rfl) allNil ?_
      rcases of_bif hx7 with ⟨hb9, hx7⟩ | ⟨hb9, hx7⟩
      · refine HT.cond1 rfl hb9 ?_
        refine HT.skip (qThen ?_)
        refine HT.seq ?_
        refine HT.block ?_
        obtain ⟨hg10, hx7⟩ := of_guard hx7
        obtain ⟨hg11, hx7⟩ := of_guard hx7
        obtain ⟨y12, hc13, hx7⟩ := of_bind hx7
        refine HT.dr2 8 [⟨oH, []⟩, ⟨oH, []⟩, ⟨oH, [0, 1]⟩, ⟨oH, [0, 1, 2]⟩, ⟨oH, []⟩, ⟨oH, []⟩, ⟨oH, [4, 5]⟩, ⟨oH, [4, 5, 6]⟩] [[0, 1, 2, 3, 4, 5, 6, 7], [0, 1, 2, 3, 4, 5, 6, 7, 8]] [⟨none, .call [.imm tLI, .imm tLI] [⟨false, .bool, y12⟩] []⟩, oH] ⟨[(0, .one (.dat (.sl tLI) a0)), (1, .one (.dat (.sl tLI) a1)), (5, iV s2), (26, bV (!y12))], [], 0⟩ hX (by kernel_rfl) (by kernel_rfl) (allCons hg10 (allCons hg11 (allCons (f20_ok hc13) allNil))) ?_
        rcases of_bif hx7 with ⟨hb14, hx7⟩ | ⟨hb14, hx7⟩
        · refine HT.cond1 rfl hb14 ?_
          refine HT.rg2 [oH] ⟨[(4, bV false)], [], 0⟩ hX (by kernel_rfl) allNil ?_
          have hx7 := of_some hx7
          subst hx7
          exact HT.retL (Le.re [] [] hX (by kernel_rfl)) (qBlockR (qThenR (qLoopR (hk8 (.inr ()) rfl))))
        · refine HT.cond0 rfl hb14 ?_
          refine HT.skip (qBlock (qThen ?_))
          have hx7 := of_some hx7
          subst hx7
          exact HT.rgK (oHs 3) [] [] hX (by kernel_rfl) allNil (fun _ h => (qLoopN ⟨(wadd .i64 s2 (1 : Int)), rfl, h⟩))
      · refine HT.cond0 rfl hb9 ?_
        have hx7 := of_some hx7
        subst hx7
        exact HT.exitL (Le.re [] [] hX (by kernel_rfl)) (qThenE (qLoopE (hk8 (.inl ()) rfl)))

noncomputable def laws_eqGame (a0 : List Int × List Int × List (List Int)) (a1 : List Int × List Int × List (List Int)) : Option (Bool) :=
  (laws_eqInt64S a0.1 a1.1).bind fun y1 =>
  bif (!y1) then
    some false
  else
    (laws_eqInt64S a0.2.1 a1.2.1).bind fun y4 =>
    bif (!y4) then
      some false
    else
      (laws_eqInt64SS a0.2.2 a1.2.2).bind fun y7 =>
      bif (!y7) then
        some false
      else
        some true

theorem f14_ok {a0 : List Int × List Int × List (List Int)} {a1 : List Int × List Int × List (List Int)} {r : Bool} (hr : laws_eqGame a0 a1 = some r) : CallOK Try.prog 14 [.imm (.st (.pair tLI (.pair tLI (.sl tLI)))) a0, .imm (.st (.pair tLI (.pair tLI (.sl tLI)))) a1] [⟨false, .bool, r⟩] [] := by
  unfold laws_eqGame at hr
  refine CallOK.of_body (ts := [(false, .bool)]) Try.func14 rfl (by kernel_rfl) (Nat.le_of_ble_eq_true (by kernel_rfl)) fun cx hP hN hO hF => ?_
  have hO : cx.own.map Prod.fst = [] := hO
  have hX := CxIs.mk hP hN hO
  have hF := hF rfl
  show HT cx ⟨[(0, .agg [nC a0.1, nC a0.2.1, .dat (.sl tLI) a0.2.2]), (1, .agg [nC a1.1, nC a1.2.1, .dat (.sl tLI) a1.2.2])], [], 0⟩ _ _
  refine HT.rg2 (oHs 3) ⟨[(2, pV 0 0), (3, pV 1 0)], [(1, .box [nC a1.1, nC a1.2.1, .dat (.sl tLI) a1.2.2]), (0, .box [nC a0.1, nC a0.2.1, .dat (.sl tLI) a0.2.2])], 2⟩ hX (by kernel_rfl) allNil ?_
  refine HT.seq ?_
  obtain ⟨y1, hc2, hr⟩ := of_bind hr
  refine HT.rg2 [oH, oH, oH, oH, ⟨none, .call [.imm tLI, .imm tLI] [⟨false, .bool, y1⟩] []⟩, oH] ⟨[(2, pV 0 0), (3, pV 1 0), (10, bV (!y1))], [(1, .box [nC a1.1, nC a1.2.1, .dat (.sl tLI) a1.2.2]), (0, .box [nC a0.1, nC a0.2.1, .dat (.sl tLI) a0.2.2])], 2⟩ hX (by kernel_rfl) (allCons (f20_ok hc2) allNil) ?_
  rcases of_bif hr with ⟨hb3, hr⟩ | ⟨hb3, hr⟩
  · refine HT.cond1 rfl hb3 ?_
    refine HT.rg2 [oH] ⟨[(4, bV false)], [], 2⟩ hX (by kernel_rfl) allNil ?_
    have hr := of_some hr
    subst hr
    exact HT.ret (qThenR ⟨[bV false], [], [], by kernel_rfl, by kernel_rfl, rfl, by kernel_rfl, by kernel_rfl, trivial⟩)
  · refine HT.cond0 rfl hb3 ?_
    refine HT.skip (qThen ?_)
    refine HT.seq ?_
    obtain ⟨y4, hc5, hr⟩ := of_bind hr
    refine HT.rg2 [oH, oH, oH, oH, ⟨none, .call [.imm tLI, .imm tLI] [⟨false, .bool, y4⟩] []⟩, oH] ⟨[(2, pV 0 0), (3, pV 1 0), (16, bV (!y4))], [(1, .box [nC a1.1, nC a1.2.1, .dat (.sl tLI) a1.2.2]), (0, .box [nC a0.1, nC a0.2.1, .dat (.sl tLI) a0.2.2])], 2⟩ hX (by kernel_rfl) (allCons (f20_ok hc5) allNil) ?_
    rcases of_bif hr with ⟨hb6, hr⟩ | ⟨hb6, hr⟩
    · refine HT.cond1 rfl hb6 ?_
      refine HT.rg2 [oH] ⟨[(4, bV false)], [], 2⟩ hX (by kernel_rfl) allNil ?_
      have hr := of_some hr
      subst hr
      exact HT.ret (qThenR ⟨[bV false], [], [], by kernel_rfl, by kernel_rfl, rfl, by kernel_rfl, by kernel_rfl, trivial⟩)
    · refine HT.cond0 rfl hb6 ?_
      refine HT.skip (qThen ?_)
      refine HT.seq ?_
      obtain ⟨y7, hc8, hr⟩ := of_bind hr
      refine HT.rg2 [oH, oH, oH, oH, ⟨none, .call [.imm (.sl tLI), .imm (.sl tLI)] [⟨false, .bool, y7⟩] []⟩, oH] ⟨[(22, bV (!y7))], [], 2⟩ hX (by kernel_rfl) (allCons (f29_ok hc8) allNil) ?_
      rcases of_bif hr with ⟨hb9, hr⟩ | ⟨hb9, hr⟩
      · refine HT.cond1 rfl hb9 ?_
        refine HT.rg2 [oH] ⟨[(4, bV false)], [], 2⟩ hX (by kernel_rfl) allNil ?_
        have hr := of_some hr
        subst hr
        exact HT.ret (qThenR ⟨[bV false], [], [], by kernel_rfl, by kernel_rfl, rfl, by kernel_rfl, by kernel_rfl, trivial⟩)
      · refine HT.cond0 rfl hb9 ?_
        refine HT.skip (qThen ?_)
        refine HT.rg2 [oH] ⟨[(4, bV true)], [], 2⟩ hX (by kernel_rfl) allNil ?_
        have hr := of_some hr
        subst hr
        exact HT.ret ⟨[bV true], [], [], by kernel_rfl, by kernel_rfl, rfl, by kernel_rfl, by kernel_rfl, trivial⟩

noncomputable def laws_markInt64S_B1  (s1 : Int × Int × List Int) : Option ((Int × Int × List Int) ⊕ ((Int × List Int))) :=
  bif (decide (s1.2.1 < (lenI s1.2.2))) then
    guardP ((0 : Int) ≤ s1.2.1 ∧ s1.2.1 < lenI s1.2.2) (
      some (.inl ((wadd .i64 s1.1 (1 : Int)), (wadd .i64 s1.2.1 (1 : Int)), (List.set s1.2.2 (Int.toNat s1.2.1) s1.1))))
  else
    some (.inr (s1.1, s1.2.2))

noncomputable def laws_markInt64S (a0 : List Int) (a1 : Int) : Option (Int × List Int) :=
  (rounds (laws_markInt64S_B1) (a1, (0 : Int), a0)).bind fun r3 =>
  guardP (List.length r3.2 = List.length a0) (
    some (r3.1, r3.2))

theorem f21_ok {a0 : List Int} {a1 : Int} {r : Int × List Int} (hr : laws_markInt64S a0 a1 = some r) : CallOK Try.prog 21 [.own tLI a0, .imm tI a1] [⟨false, tI, r.1⟩] [⟨tLI, r.2⟩] := by
  unfold laws_markInt64S at hr
  refine CallOK.of_body (ts := [(false, tI)]) Try.func21 rfl (by kernel_rfl) (Nat.le_of_ble_eq_true (by kernel_rfl)) fun cx hP hN hO hF => ?_
  have hO : cx.own.map Prod.fst = [0] := hO
  have hX := CxIs.mk hP hN hO
  have hF := hF rfl
  show HT cx ⟨[(0, aV 0), (1, iV a1)], [(0, .seq tI a0)], 1⟩ _ _
  refine HT.rg2 [oH] ⟨[(0, aV 0), (1, iV a1)], [(0, .seq tI a0)], 1⟩ hX (by kernel_rfl) allNil ?_
  refine HT.seq ?_
  refine HT.rg2 [oH] ⟨[(0, aV 0), (1, iV a1), (5, iV (0 : Int))], [(0, .seq tI a0)], 1⟩ hX (by kernel_rfl) allNil ?_
  refine HT.block ?_
  obtain ⟨r2, hL10, hr⟩ := of_bind hr
  refine HT.loopL (fun (s1 : Int × Int × List Int) => ⟨[(0, aV 0), (1, iV s1.1), (5, iV s1.2.1)], [(0, .seq tI s1.2.2)], 1⟩) (fun (r3 : (Int × List Int)) => (.exit 0, ⟨[(1, iV r3.1)], [(0, .seq tI r3.2)], 1⟩)) (Le.re [(0, 0)] [] hX (by kernel_rfl)) hL10 ?_ (fun s1 x5 hx6 hk7 => ?_)
  · refine (qBlockX (qThen ?_))
    refine HT.rg2 (oHs 2) ⟨[(4, iV r2.1)], [(0, .seq tI r2.2)], 1⟩ hX (by kernel_rfl) allNil ?_
    obtain ⟨hg4, hr⟩ := of_guard hr
    have hr := of_some hr
    subst hr
    exact HT.ret ⟨[iV r2.1], [], [List.length r2.2 = List.length a0], by kernel_rfl, by kernel_rfl, rfl, by kernel_rfl, by kernel_rfl, ⟨hg4, trivial⟩⟩
  · refine HT.seq ?_
    refine HT.rg2 (oHs 4) ⟨[(0, aV 0), (1, iV s1.1), (5, iV s1.2.1), (9, bV (decide (s1.2.1 < (lenI s1.2.2))))], [(0, .seq tI s1.2.2)], 1⟩ hX (by kernel_rfl) allNil ?_
    rcases of_bif hx6 with ⟨hb8, hx6⟩ | ⟨hb8, hx6⟩
    · refine HT.cond1 rfl hb8 ?_
      refine HT.skip (qThen ?_)
      refine HT.seq ?_
      refine HT.block ?_
      obtain ⟨hg9, hx6⟩ := of_guard hx6
      refine HT.rg2 (oHs 5) ⟨[(0, aV 0), (1, iV s1.1), (5, iV s1.2.1)], [(0, .seq tI (List.set s1.2.2 (Int.toNat s1.2.1) s1.1))], 1⟩ hX (by kernel_rfl) (allCons hg9 (allCons (natLt hg9) allNil)) ?_
      refine HT.rgL (oHs 3) ⟨[(0, aV 0), (1, iV (wadd .i64 s1.1 (1 : Int))), (5, iV s1.2.1)], [(0, .seq tI (List.set s1.2.2 (Int.toNat s1.2.1) s1.1))], 1⟩ hX (by kernel_rfl) allNil (qBlock (qThen ?_))
      have hx6 := of_some hx6
      subst hx6
      exact HT.rgK (oHs 3) [(0, 0)] [] hX (by kernel_rfl) allNil (fun _ h => (qLoopN ⟨((wadd .i64 s1.1 (1 : Int)), (wadd .i64 s1.2.1 (1 : Int)), (List.set s1.2.2 (Int.toNat s1.2.1) s1.1)), rfl, h⟩))
    · refine HT.cond0 rfl hb8 ?_
      have hx6 := of_some hx6
      subst hx6
      exact HT.exitL (Le.re [(0, 0)] [] hX (by kernel_rfl)) (qThenE (qLoopE (hk7 (s1.1, s1.2.2) rfl)))

noncomputable def laws_markInt64SS_B1  (s1 : Int × Int × List (List Int)) : Option ((Int × Int × List (List Int)) ⊕ ((Int × List (List Int)))) :=
  bif (decide (s1.2.1 < (lenI s1.2.2))) then
    guardP ((0 : Int) ≤ s1.2.1 ∧ s1.2.1 < lenI s1.2.2) (
      (laws_markInt64S (List.getD s1.2.2 (Int.toNat s1.2.1) ([] : List Int)) s1.1).bind fun y10 =>
      some (.inl (y10.1, (wadd .i64 s1.2.1 (1 : Int)), (List.set s1.2.2 (Int.toNat s1.2.1) y10.2))))
  else
    some (.inr (s1.1, s1.2.2))

noncomputable def laws_markInt64SS (a0 : List (List Int)) (a1 : Int) : Option (Int × List (List Int)) :=
  (rounds (laws_markInt64SS_B1) (a1, (0 : Int), a0)).bind fun r3 =>
  guardP (ShapeEq (.own tI) a0 r3.2) (
    some (r3.1, r3.2))

theorem f32_ok {a0 : List (List Int)} {a1 : Int} {r : Int × List (List Int)} (hr : laws_markInt64SS a0 a1 = some r) : CallOK Try.prog 32 [.own (.sl (.own tI)) a0, .imm tI a1] [⟨false, tI, r.1⟩] [⟨(.sl (.own tI)), r.2⟩] := by
  unfold laws_markInt64SS at hr
  refine CallOK.of_body (ts := [(false, tI)]) Try.func32 rfl (by kernel_rfl) (Nat.le_of_ble_eq_true (by kernel_rfl)) fun cx hP hN hO hF => ?_
  have hO : cx.own.map Prod.fst = [0] := hO
  have hX := CxIs.mk hP hN hO
  have hF := hF rfl
  show HT cx ⟨[(0, aV 0), (1, iV a1)], [(0, .seq (.own tI) a0)], 1⟩ _ _
  refine HT.rg2 [oH] ⟨[(0, aV 0), (1, iV a1)], [(0, .seq (.own tI) a0)], 1⟩ hX (by kernel_rfl) allNil ?_
  refine HT.seq ?_
  refine HT.rg2 [oH] ⟨[(0, aV 0), (1, iV a1), (5, iV (0 : Int))], [(0, .seq (.own tI) a0)], 1⟩ hX (by kernel_rfl) allNil ?_
  refine HT.block ?_
  obtain ⟨r2, hL12, hr⟩ := of_bind hr
  refine HT.loopL (fun (s1 : Int × Int × List (List Int)) => ⟨[(0, aV 0), (1, iV s1.1), (5, iV s1.2.1)], [(0, .seq (.own tI) s1.2.2)], 1⟩) (fun (r3 : (Int × List (List Int))) => (.exit 0, ⟨[(1, iV r3.1)], [(0, .seq (.own tI) r3.2)], 1⟩)) (Le.re [(0, 0)] [] hX (by kernel_rfl)) hL12 ?_ (fun s1 x5 hx6 hk7 => ?_)
  · refine (qBlockX (qThen ?_))
    refine HT.rg2 (oHs 2) ⟨[(4, iV r2.1)], [(0, .seq (.own tI) r2.2)], 1⟩ hX (by kernel_rfl) allNil ?_
    obtain ⟨hg4, hr⟩ := of_guard hr
    have hr := of_some hr
    subst hr
    exact HT.ret ⟨[iV r2.1], [], [ShapeEq (.own tI) a0 r2.2], by kernel_rfl, by kernel_rfl, rfl, by kernel_rfl, by kernel_rfl, ⟨hg4, trivial⟩⟩
  · refine HT.seq ?_
    refine HT.rg2 (oHs 4) ⟨[(0, aV 0), (1, iV s1.1), (5, iV s1.2.1), (9, bV (decide (s1.2.1 < (lenI s1.2.2))))], [(0, .seq (.own tI) s1.2.2)], 1⟩ hX (by kernel_rfl) allNil ?_
    rcases of_bif hx6 with ⟨hb8, hx6⟩ | ⟨hb8, hx6⟩
    · refine HT.cond1 rfl hb8 ?_
      refine HT.skip (qThen ?_)
      refine HT.seq ?_
      refine HT.block ?_
      obtain ⟨hg9, hx6⟩ := of_guard hx6
      obtain ⟨y10, hc11, hx6⟩ := of_bind hx6
      refine HT.regC (rs := [oH, oH, oH, ⟨none, .opn⟩, oH, ⟨none, .call [.own tLI, .imm tI] [⟨false, tI, y10.1⟩] [⟨tLI, y10.2⟩]⟩, oH]) ⟨[(1, iV y10.1), (17, iV y10.1), (16, iV s1.1), (15, aV 1), (14, .one (.elp 0 (Int.toNat s1.2.1) 1 0)), (13, iV s1.2.1), (12, aV 0), (0, aV 0), (1, iV s1.1), (5, iV s1.2.1), (9, bV (decide (s1.2.1 < (lenI s1.2.2))))], [(1, .seq tI y10.2), (0, .opn (.own tI) s1.2.2 (Int.toNat s1.2.1) [.all 1] [1]), (1, .seq tI (List.getD s1.2.2 (Int.toNat s1.2.1) ([] : List Int))), (0, .seq (.own tI) s1.2.2)], 2⟩ hP hN (by kernel_rfl) (allCons hg9 (allCons (natLt hg9) (allCons (f21_ok hc11) allNil))) (Le.close (own := [0]) 0 (st' := ⟨[(1, iV y10.1), (17, iV y10.1), (16, iV s1.1), (15, aV 1), (14, .one (.elp 0 (Int.toNat s1.2.1) 1 0)), (13, iV s1.2.1), (12, aV 0), (0, aV 0), (1, iV s1.1), (5, iV s1.2.1), (9, bV (decide (s1.2.1 < (lenI s1.2.2))))], [(0, .seq (.own tI) (List.set s1.2.2 (Int.toNat s1.2.1) y10.2)), (1, .gone)], 2⟩) hO (by kernel_rfl)) (qBlock (qThen ?_))
      have hx6 := of_some hx6
      subst hx6
      exact HT.rgK (oHs 3) [(0, 0)] [] hX (by kernel_rfl) allNil (fun _ h => (qLoopN ⟨(y10.1, (wadd .i64 s1.2.1 (1 : Int)), (List.set s1.2.2 (Int.toNat s1.2.1) y10.2)), rfl, h⟩))
    · refine HT.cond0 rfl hb8 ?_
      have hx6 := of_some hx6
      subst hx6
      exact HT.exitL (Le.re [(0, 0)] [] hX (by kernel_rfl)) (qThenE (qLoopE (hk7 (s1.1, s1.2.2) rfl)))

noncomputable def laws_markGame (a0 : List Int × List Int × List (List Int)) (a1 : Int) : Option (Int × (List Int × List Int × List (List Int))) :=
  (laws_markInt64S a0.1 a1).bind fun y1 =>
  (laws_markInt64S a0.2.1 y1.1).bind fun y3 =>
  (laws_markInt64SS a0.2.2 y3.1).bind fun y5 =>
  guardP (List.length y1.2 = List.length a0.1) (
    guardP (List.length y3.2 = List.length a0.2.1) (
      guardP (ShapeEq (.own tI) a0.2.2 y5.2) (
        some (y5.1, y1.2, y3.2, y5.2))))

theorem f15_ok {a0 : List Int × List Int × List (List Int)} {a1 : Int} {r : Int × (List Int × List Int × List (List Int))} (hr : laws_markGame a0 a1 = some r) : CallOK Try.prog 15 [.own (.st (.pair tLI (.pair tLI (.sl (.own tI))))) a0, .imm tI a1] [⟨false, tI, r.1⟩] [⟨(.st (.pair tLI (.pair tLI (.sl (.own tI))))), r.2⟩] := by
  unfold laws_markGame at hr
  refine CallOK.of_body (ts := [(false, tI)]) Try.func15 rfl (by kernel_rfl) (Nat.le_of_ble_eq_true (by kernel_rfl)) fun cx hP hN hO hF => ?_
  have hO : cx.own.map Prod.fst = [0, 1, 2] := hO
  have hX := CxIs.mk hP hN hO
  have hF := hF rfl
  show HT cx ⟨[(0, .agg [.all 0, .all 1, .all 2]), (1, iV a1)], [(0, .seq tI a0.1), (1, .seq tI a0.2.1), (2, .seq (.own tI) a0.2.2)], 3⟩ _ _
  refine HT.rg2 (oHs 2) ⟨[(1, iV a1), (2, pV 3 0)], [(3, .box [.all 0, .all 1, .all 2]), (0, .seq tI a0.1), (1, .seq tI a0.2.1), (2, .seq (.own tI) a0.2.2)], 4⟩ hX (by kernel_rfl) allNil ?_
  obtain ⟨y1, hc2, hr⟩ := of_bind hr
  refine HT.rg2 [oH, oH, oH, ⟨none, .call [.own tLI, .imm tI] [⟨false, tI, y1.1⟩] [⟨tLI, y1.2⟩]⟩, oH] ⟨[(1, iV y1.1), (2, pV 3 0)], [(0, .seq tI y1.2), (3, .box [.all 0, .all 1, .all 2]), (1, .seq tI a0.2.1), (2, .seq (.own tI) a0.2.2)], 4⟩ hX (by kernel_rfl) (allCons (f21_ok hc2) allNil) ?_
  obtain ⟨y3, hc4, hr⟩ := of_bind hr
  refine HT.rg2 [oH, oH, oH, ⟨none, .call [.own tLI, .imm tI] [⟨false, tI, y3.1⟩] [⟨tLI, y3.2⟩]⟩, oH] ⟨[(1, iV y3.1), (2, pV 3 0)], [(1, .seq tI y3.2), (0, .seq tI y1.2), (3, .box [.all 0, .all 1, .all 2]), (2, .seq (.own tI) a0.2.2)], 4⟩ hX (by kernel_rfl) (allCons (f21_ok hc4) allNil) ?_
  obtain ⟨y5, hc6, hr⟩ := of_bind hr
  refine HT.rg2 [oH, oH, oH, ⟨none, .call [.own (.sl (.own tI)), .imm tI] [⟨false, tI, y5.1⟩] [⟨(.sl (.own tI)), y5.2⟩]⟩, oH] ⟨[(1, iV y5.1)], [(2, .seq (.own tI) y5.2), (1, .seq tI y3.2), (0, .seq tI y1.2)], 4⟩ hX (by kernel_rfl) (allCons (f32_ok hc6) allNil) ?_
  refine HT.rg2 (oHs 2) ⟨[(4, iV y5.1)], [(2, .seq (.own tI) y5.2), (1, .seq tI y3.2), (0, .seq tI y1.2)], 4⟩ hX (by kernel_rfl) allNil ?_
  obtain ⟨hg7, hr⟩ := of_guard hr
  obtain ⟨hg8, hr⟩ := of_guard hr
  obtain ⟨hg9, hr⟩ := of_guard hr
  have hr := of_some hr
  subst hr
  exact HT.ret ⟨[iV y5.1], [], [List.length y1.2 = List.length a0.1, List.length y3.2 = List.length a0.2.1, ShapeEq (.own tI) a0.2.2 y5.2], by kernel_rfl, by kernel_rfl, rfl, by kernel_rfl, by kernel_rfl, ⟨hg7, hg8, hg9, trivial⟩⟩

noncomputable def laws_heldInt64S_B1 (a0 : List Int) (s1 : Int × Int) : Option ((Int × Int) ⊕ (Int ⊕ Unit)) :=
  bif (decide (s1.2 < (lenI a0))) then
    guardP ((0 : Int) ≤ s1.2 ∧ s1.2 < lenI a0) (
      bif ((List.getD a0 (Int.toNat s1.2) (0 : Int)) != s1.1) then
        some (.inr (.inr ()))
      else
        some (.inl ((wadd .i64 s1.1 (1 : Int)), (wadd .i64 s1.2 (1 : Int)))))
  else
    some (.inr (.inl s1.1))

noncomputable def laws_heldInt64S (a0 : List Int) (a1 : Int) : Option (Int) :=
  (rounds (laws_heldInt64S_B1 a0) (a1, (0 : Int))).bind fun r2 => match r2 with
    | .inl r3 =>
      some r3
    | .inr r4 =>
      some (-1 : Int)

theorem f22_ok {a0 : List Int} {a1 : Int} {r : Int} (hr : laws_heldInt64S a0 a1 = some r) : CallOK Try.prog 22 [.imm tLI a0, .imm tI a1] [⟨false, tI, r⟩] [] := by
  unfold laws_heldInt64S at hr
  refine CallOK.of_body (ts := [(false, tI)]) Try.func22 rfl (by kernel_rfl) (Nat.le_of_ble_eq_true (by kernel_rfl)) fun cx hP hN hO hF => ?_
  have hO : cx.own.map Prod.fst = [] := hO
  have hX := CxIs.mk hP hN hO
  have hF := hF rfl
  show HT cx ⟨[(0, nV a0), (1, iV a1)], [], 0⟩ _ _
  refine HT.rg2 [oH] ⟨[(0, nV a0), (1, iV a1)], [], 0⟩ hX (by kernel_rfl) allNil ?_
  refine HT.seq ?_
  refine HT.rg2 [oH] ⟨[(0, nV a0), (1, iV a1), (5, iV (0 : Int))], [], 0⟩ hX (by kernel_rfl) allNil ?_
  refine HT.block ?_
  obtain ⟨r2, hL11, hr⟩ := of_bind hr
  refine HT.loopL (fun (s1 : Int × Int) => ⟨[(0, nV a0), (1, iV s1.1), (5, iV s1.2)], [], 0⟩) (fun (r2 : Int ⊕ Unit) => match r2 with | .inl r3 => (.exit 0, ⟨[(1, iV r3)], [], 0⟩) | .inr r4 => (.ret, ⟨[(4, iV (-1 : Int))], [], 0⟩)) (Le.re [] [] hX (by kernel_rfl)) hL11 ?_ (fun s1 x5 hx6 hk7 => ?_)
  · rcases r2 with r3 | r4
    · refine (qBlockX (qThen ?_))
      refine HT.rg2 (oHs 2) ⟨[(4, iV r3)], [], 0⟩ hX (by kernel_rfl) allNil ?_
      have hr := of_some hr
      subst hr
      exact HT.ret ⟨[iV r3], [], [], by kernel_rfl, by kernel_rfl, rfl, by kernel_rfl, by kernel_rfl, trivial⟩
    · have hr := of_some hr
      subst hr
      exact (qBlockR (qThenR ⟨[iV (-1 : Int)], [], [], by kernel_rfl, by kernel_rfl, rfl, by kernel_rfl, by kernel_rfl, trivial⟩))
  · refine HT.seq ?_
    refine HT.rg2 (oHs 4) ⟨[(0, nV a0), (1, iV s1.1), (5, iV s1.2), (9, bV (decide (s1.2 < (lenI a0))))], [], 0⟩ hX (by kernel_rfl) allNil ?_
    rcases of_bif hx6 with ⟨hb8, hx6⟩ | ⟨hb8, hx6⟩
    · refine HT.cond1 rfl hb8 ?_
      refine HT.skip (qThen ?_)
      refine HT.seq ?_
      refine HT.block ?_
      refine HT.seq ?_
      obtain ⟨hg9, hx6⟩ := of_guard hx6
      refine HT.rg2 (oHs 6) ⟨[(0, nV a0), (1, iV s1.1), (5, iV s1.2), (17, bV ((List.getD a0 (Int.toNat s1.2) (0 : Int)) != s1.1))], [], 0⟩ hX (by kernel_rfl) (allCons hg9 allNil) ?_
      rcases of_bif hx6 with ⟨hb10, hx6⟩ | ⟨hb10, hx6⟩
      · refine HT.cond1 rfl hb10 ?_
        refine HT.rg2 [oH] ⟨[(4, iV (-1 : Int))], [], 0⟩ hX (by kernel_rfl) allNil ?_
        have hx6 := of_some hx6
        subst hx6
        exact HT.retL (Le.re [] [] hX (by kernel_rfl)) (qThenR (qBlockR (qThenR (qLoopR (hk7 (.inr ()) rfl)))))
      · refine HT.cond0 rfl hb10 ?_
        refine HT.skip (qThen ?_)
        refine HT.rgL (oHs 3) ⟨[(0, nV a0), (1, iV (wadd .i64 s1.1 (1 : Int))), (5, iV s1.2)], [], 0⟩ hX (by kernel_rfl) allNil (qBlock (qThen ?_))
        have hx6 := of_some hx6
        subst hx6
        exact HT.rgK (oHs 3) [] [] hX (by kernel_rfl) allNil (fun _ h => (qLoopN ⟨((wadd .i64 s1.1 (1 : Int)), (wadd .i64 s1.2 (1 : Int))), rfl, h⟩))
    · refine HT.cond0 rfl hb8 ?_
      have hx6 := of_some hx6
      subst hx6
      exact HT.exitL (Le.re [] [] hX (by kernel_rfl)) (qThenE (qLoopE (hk7 (.inl s1.1) rfl)))

noncomputable def laws_heldInt64SS_B1 (a0 : List (List Int)) (s1 : Int × Int) : Option ((Int × Int) ⊕ (Int ⊕ Unit)) :=
  bif (decide (s1.2 < (lenI a0))) then
    guardP ((0 : Int) ≤ s1.2 ∧ s1.2 < lenI a0) (
      (laws_heldInt64S (List.getD a0 (Int.toNat s1.2) ([] : List Int)) s1.1).bind fun y10 =>
      bif (decide (y10 < (0 : Int))) then
        some (.inr (.inr ()))
      else
        some (.inl (y10, (wadd .i64 s1.2 (1 : Int)))))
  else
    some (.inr (.inl s1.1))

noncomputable def laws_heldInt64SS (a0 : List (List Int)) (a1 : Int) : Option (Int) :=
  (rounds (laws_heldInt64SS_B1 a0) (a1, (0 : Int))).bind fun r2 => match r2 with
    | .inl r3 =>
      some r3
    | .inr r4 =>
      some (-1 : Int)

theorem f33_ok {a0 : List (List Int)} {a1 : Int} {r : Int} (hr : laws_heldInt64SS a0 a1 = some r) : CallOK Try.prog 33 [.imm (.sl tLI) a0, .imm tI a1] [⟨false, tI, r⟩] [] := by
  unfold laws_heldInt64SS at hr
  refine CallOK.of_body (ts := [(false, tI)]) Try.func33 rfl (by kernel_rfl) (Nat.le_of_ble_eq_true (by kernel_rfl)) fun cx hP hN hO hF => ?_
  have hO : cx.own.map Prod.fst = [] := hO
  have hX := CxIs.mk hP hN hO
  have hF := hF rfl
  show HT cx ⟨[(0, .one (.dat (.sl tLI) a0)), (1, iV a1)], [], 0⟩ _ _
  refine HT.rg2 [oH] ⟨[(0, .one (.dat (.sl tLI) a0)), (1, iV a1)], [], 0⟩ hX (by kernel_rfl) allNil ?_
  refine HT.seq ?_
  refine HT.rg2 [oH] ⟨[(0, .one (.dat (.sl tLI) a0)), (1, iV a1), (5, iV (0 : Int))], [], 0⟩ hX (by kernel_rfl) allNil ?_
  refine HT.block ?_
  obtain ⟨r2, hL13, hr⟩ := of_bind hr
  refine HT.loopL (fun (s1 : Int × Int) => ⟨[(0, .one (.dat (.sl tLI) a0)), (1, iV s1.1), (5, iV s1.2)], [], 0⟩) (fun (r2 : Int ⊕ Unit) => match r2 with | .inl r3 => (.exit 0, ⟨[(1, iV r3)], [], 0⟩) | .inr r4 => (.ret, ⟨[(4, iV (-1 : Int))], [], 0⟩)) (Le.re [] [] hX (by kernel_rfl)) hL13 ?_ (fun s1 x5 hx6 hk7 => ?_)
  · rcases r2 with r3 | r4
    · refine (qBlockX (qThen ?_))
      refine HT.rg2 (oHs 2) ⟨[(4, iV r3)], [], 0⟩ hX (by kernel_rfl) allNil ?_
      have hr := of_some hr
      subst hr
      exact HT.ret ⟨[iV r3], [], [], by kernel_rfl, by kernel_rfl, rfl, by kernel_rfl, by kernel_rfl, trivial⟩
    · have hr := of_some hr
      subst hr
      exact (qBlockR (qThenR ⟨[iV (-1 : Int)], [], [], by kernel_rfl, by kernel_rfl, rfl, by kernel_rfl, by kernel_rfl, trivial⟩))
  · refine HT.seq ?_
    refine HT.rg2 (oHs 4) ⟨[(0, .one (.dat (.sl tLI) a0)), (1, iV s1.1), (5, iV s1.2), (9, bV (decide (s1.2 < (lenI a0))))], [], 0⟩ hX (by kernel_rfl) allNil ?_
    rcases of_bif hx6 with ⟨hb8, hx6⟩ | ⟨hb8, hx6⟩
    · refine HT.cond1 rfl hb8 ?_
      refine HT.skip (qThen ?_)
      refine HT.seq ?_
      refine HT.block ?_
      obtain ⟨hg9, hx6⟩ := of_guard hx6
      obtain ⟨y10, hc11, hx6⟩ := of_bind hx6
      refine HT.rg2 [oH, oH, oH, oH, oH, ⟨none, .call [.imm tLI, .imm tI] [⟨false, tI, y10⟩] []⟩, oH] ⟨[(0, .one (.dat (.sl tLI) a0)), (1, iV y10), (5, iV s1.2)], [], 0⟩ hX (by kernel_rfl) (allCons hg9 (allCons (f22_ok hc11) allNil)) ?_
      refine HT.rg2 (oHs 2) ⟨[(0, .one (.dat (.sl tLI) a0)), (1, iV y10), (5, iV s1.2), (19, bV (decide (y10 < (0 : Int))))], [], 0⟩ hX (by kernel_rfl) allNil ?_
      rcases of_bif hx6 with ⟨hb12, hx6⟩ | ⟨hb12, hx6⟩
      · refine HT.cond1 rfl hb12 ?_
        refine HT.rg2 [oH] ⟨[(4, iV (-1 : Int))], [], 0⟩ hX (by kernel_rfl) allNil ?_
        have hx6 := of_some hx6
        subst hx6
        exact HT.retL (Le.re [] [] hX (by kernel_rfl)) (qBlockR (qThenR (qLoopR (hk7 (.inr ()) rfl))))
      · refine HT.cond0 rfl hb12 ?_
        refine HT.skip (qBlock (qThen ?_))
        have hx6 := of_some hx6
        subst hx6
        exact HT.rgK (oHs 3) [] [] hX (by kernel_rfl) allNil (fun _ h => (qLoopN ⟨(y10, (wadd .i64 s1.2 (1 : Int))), rfl, h⟩))
    · refine HT.cond0 rfl hb8 ?_
      have hx6 := of_some hx6
      subst hx6
      exact HT.exitL (Le.re [] [] hX (by kernel_rfl)) (qThenE (qLoopE (hk7 (.inl s1.1) rfl)))

noncomputable def laws_heldGame (a0 : List Int × List Int × List (List Int)) (a1 : Int) : Option (Int) :=
  (laws_heldInt64S a0.1 a1).bind fun y1 =>
  bif (decide (y1 < (0 : Int))) then
    some (-1 : Int)
  else
    (laws_heldInt64S a0.2.1 y1).bind fun y4 =>
    bif (decide (y4 < (0 : Int))) then
      some (-1 : Int)
    else
      (laws_heldInt64SS a0.2.2 y4).bind fun y7 =>
      bif (decide (y7 < (0 : Int))) then
        some (-1 : Int)
      else
        some y7

theorem f16_ok {a0 : List Int × List Int × List (List Int)} {a1 : Int} {r : Int} (hr : laws_heldGame a0 a1 = some r) : CallOK Try.prog 16 [.imm (.st (.pair tLI (.pair tLI (.sl tLI)))) a0, .imm tI a1] [⟨false, tI, r⟩] [] := by
  unfold laws_heldGame at hr
  refine CallOK.of_body (ts := [(false, tI)]) Try.func16 rfl (by kernel_rfl) (Nat.le_of_ble_eq_true (by kernel_rfl)) fun cx hP hN hO hF => ?_
  have hO : cx.own.map Prod.fst = [] := hO
  have hX := CxIs.mk hP hN hO
  have hF := hF rfl
  show HT cx ⟨[(0, .agg [nC a0.1, nC a0.2.1, .dat (.sl tLI) a0.2.2]), (1, iV a1)], [], 0⟩ _ _
  refine HT.rg2 (oHs 2) ⟨[(1, iV a1), (2, pV 0 0)], [(0, .box [nC a0.1, nC a0.2.1, .dat (.sl tLI) a0.2.2])], 1⟩ hX (by kernel_rfl) allNil ?_
  obtain ⟨y1, hc2, hr⟩ := of_bind hr
  refine HT.rg2 [oH, oH, oH, ⟨none, .call [.imm tLI, .imm tI] [⟨false, tI, y1⟩] []⟩, oH] ⟨[(1, iV y1), (2, pV 0 0)], [(0, .box [nC a0.1, nC a0.2.1, .dat (.sl tLI) a0.2.2])], 1⟩ hX (by kernel_rfl) (allCons (f22_ok hc2) allNil) ?_
  refine HT.seq ?_
  refine HT.rg2 (oHs 2) ⟨[(1, iV y1), (2, pV 0 0), (10, bV (decide (y1 < (0 : Int))))], [(0, .box [nC a0.1, nC a0.2.1, .dat (.sl tLI) a0.2.2])], 1⟩ hX (by kernel_rfl) allNil ?_
  rcases of_bif hr with ⟨hb3, hr⟩ | ⟨hb3, hr⟩
  · refine HT.cond1 rfl hb3 ?_
    refine HT.rg2 [oH] ⟨[(4, iV (-1 : Int))], [], 1⟩ hX (by kernel_rfl) allNil ?_
    have hr := of_some hr
    subst hr
    exact HT.ret (qThenR ⟨[iV (-1 : Int)], [], [], by kernel_rfl, by kernel_rfl, rfl, by kernel_rfl, by kernel_rfl, trivial⟩)
  · refine HT.cond0 rfl hb3 ?_
    refine HT.skip (qThen ?_)
    obtain ⟨y4, hc5, hr⟩ := of_bind hr
    refine HT.rg2 [oH, oH, oH, ⟨none, .call [.imm tLI, .imm tI] [⟨false, tI, y4⟩] []⟩, oH] ⟨[(1, iV y4), (2, pV 0 0)], [(0, .box [nC a0.1, nC a0.2.1, .dat (.sl tLI) a0.2.2])], 1⟩ hX (by kernel_rfl) (allCons (f22_ok hc5) allNil) ?_
    refine HT.seq ?_
    refine HT.rg2 (oHs 2) ⟨[(1, iV y4), (2, pV 0 0), (16, bV (decide (y4 < (0 : Int))))], [(0, .box [nC a0.1, nC a0.2.1, .dat (.sl tLI) a0.2.2])], 1⟩ hX (by kernel_rfl) allNil ?_
    rcases of_bif hr with ⟨hb6, hr⟩ | ⟨hb6, hr⟩
    · refine HT.cond1 rfl hb6 ?_
      refine HT.rg2 [oH] ⟨[(4, iV (-1 : Int))], [], 1⟩ hX (by kernel_rfl) allNil ?_
      have hr := of_some hr
      subst hr
      exact HT.ret (qThenR ⟨[iV (-1 : Int)], [], [], by kernel_rfl, by kernel_rfl, rfl, by kernel_rfl, by kernel_rfl, trivial⟩)
    · refine HT.cond0 rfl hb6 ?_
      refine HT.skip (qThen ?_)
      obtain ⟨y7, hc8, hr⟩ := of_bind hr
      refine HT.rg2 [oH, oH, oH, ⟨none, .call [.imm (.sl tLI), .imm tI] [⟨false, tI, y7⟩] []⟩, oH] ⟨[(1, iV y7)], [], 1⟩ hX (by kernel_rfl) (allCons (f33_ok hc8) allNil) ?_
      refine HT.seq ?_
      refine HT.rg2 (oHs 2) ⟨[(1, iV y7), (22, bV (decide (y7 < (0 : Int))))], [], 1⟩ hX (by kernel_rfl) allNil ?_
      rcases of_bif hr with ⟨hb9, hr⟩ | ⟨hb9, hr⟩
      · refine HT.cond1 rfl hb9 ?_
        refine HT.rg2 [oH] ⟨[(4, iV (-1 : Int))], [], 1⟩ hX (by kernel_rfl) allNil ?_
        have hr := of_some hr
        subst hr
        exact HT.ret (qThenR ⟨[iV (-1 : Int)], [], [], by kernel_rfl, by kernel_rfl, rfl, by kernel_rfl, by kernel_rfl, trivial⟩)
      · refine HT.cond0 rfl hb9 ?_
        refine HT.skip (qThen ?_)
        refine HT.rg2 (oHs 2) ⟨[(4, iV y7)], [], 1⟩ hX (by kernel_rfl) allNil ?_
        have hr := of_some hr
        subst hr
        exact HT.ret ⟨[iV y7], [], [], by kernel_rfl, by kernel_rfl, rfl, by kernel_rfl, by kernel_rfl, trivial⟩

noncomputable def laws_FnExactTurnGame (a0 : List Int × List Int × List (List Int)) : Option (Bool) :=
  (laws_szGame (a0.1, a0.2.1, a0.2.2) (1048576 : Int)).bind fun y1 =>
  bif (decide (y1 < (0 : Int))) then
    some true
  else
    (laws_toGame (a0.1, a0.2.1, a0.2.2)).bind fun y4 =>
    (spec_TurnGame (y4.1, y4.2.1, y4.2.2)).bind fun y6 =>
    (laws_toGame (a0.1, a0.2.1, a0.2.2)).bind fun y8 =>
    (impl_TurnGame (y8.1, y8.2.1, y8.2.2)).bind fun y10 =>
    (show Option (Bool) from
      (laws_eqGame (y10.1.1, y10.1.2.1, y10.1.2.2) (y6.1.1, y6.1.2.1, y6.1.2.2)).bind fun y52 =>
      bif (!y52) then
        some true
      else
        some (y10.2 != y6.2)).bind fun v12 =>
    bif v12 then
      some false
    else
      (laws_toGame (a0.1, a0.2.1, a0.2.2)).bind fun y16 =>
      (laws_eqGame (y8.1, y8.2.1, y8.2.2) (y16.1, y16.2.1, y16.2.2)).bind fun y18 =>
      bif (!y18) then
        some false
      else
        (laws_markGame (y8.1, y8.2.1, y8.2.2) (1 : Int)).bind fun y21 =>
        (show Option (Bool) from
          bif (decide (y21.1 < (0 : Int))) then
            some true
          else
            (laws_eqGame (y10.1.1, y10.1.2.1, y10.1.2.2) (y6.1.1, y6.1.2.1, y6.1.2.2)).bind fun y49 =>
            bif (!y49) then
              some true
            else
              some (y10.2 != y6.2)).bind fun v23 =>
        bif v23 then
          some false
        else
          (laws_markGame (y10.1.1, y10.1.2.1, y10.1.2.2) (1 : Int)).bind fun y27 =>
          (laws_heldGame (y27.2.1, y27.2.2.1, y27.2.2.2) (1 : Int)).bind fun y29 =>
          bif (decide (y29 < (0 : Int))) then
            some false
          else
            bif (y29 != y27.1) then
              some false
            else
              (laws_toGame (a0.1, a0.2.1, a0.2.2)).bind fun y33 =>
              (impl_TurnGame (y33.1, y33.2.1, y33.2.2)).bind fun y35 =>
              (show Option (Bool) from
                (laws_eqGame (y35.1.1, y35.1.2.1, y35.1.2.2) (y6.1.1, y6.1.2.1, y6.1.2.2)).bind fun y45 =>
                bif (!y45) then
                  some true
                else
                  some (y35.2 != y6.2)).bind fun v37 =>
              bif v37 then
                some false
              else
                (laws_heldGame (y27.2.1, y27.2.2.1, y27.2.2.2) (1 : Int)).bind fun y41 =>
                bif (decide (y41 < (0 : Int))) then
                  some false
                else
                  bif (y41 != y27.1) then
                    some false
                  else
                    some true

theorem f3_ok {a0 : List Int × List Int × List (List Int)} {r : Bool} (hr : laws_FnExactTurnGame a0 = some r) : CallOK Try.prog 3 [.imm (.st (.pair tLI (.pair tLI (.sl tLI)))) a0] [⟨false, .bool, r⟩] [] := by
  unfold laws_FnExactTurnGame at hr
  refine CallOK.of_body (ts := [(false, .bool)]) Try.func3 rfl (by kernel_rfl) (Nat.le_of_ble_eq_true (by kernel_rfl)) fun cx hP hN hO hF => ?_
  have hO : cx.own.map Prod.fst = [] := hO
  have hX := CxIs.mk hP hN hO
  have hF := hF rfl
  show HT cx ⟨[(0, .agg [nC a0.1, nC a0.2.1, .dat (.sl tLI) a0.2.2])], [], 0⟩ _ _
  refine HT.rg2 (oHs 2) ⟨[(1, pV 0 0)], [(0, .box [nC a0.1, nC a0.2.1, .dat (.sl tLI) a0.2.2])], 1⟩ hX (by kernel_rfl) allNil ?_
  refine HT.rg2 [oH] ⟨[(1, pV 0 0), (3, iV (1048576 : Int))], [(0, .box [nC a0.1, nC a0.2.1, .dat (.sl tLI) a0.2.2])], 1⟩ hX (by kernel_rfl) allNil ?_
  obtain ⟨y1, hc2, hr⟩ := of_bind hr
  refine HT.rg2 [oH, oH, ⟨none, .call [.imm (.st (.pair tLI (.pair tLI (.sl tLI)))), .imm tI] [⟨false, tI, y1⟩] []⟩, oH] ⟨[(1, pV 0 0), (3, iV y1)], [(0, .box [nC a0.1, nC a0.2.1, .dat (.sl tLI) a0.2.2])], 1⟩ hX (by kernel_rfl) (allCons (f10_ok hc2) allNil) ?_
  refine HT.seq ?_
  refine HT.rg2 (oHs 2) ⟨[(1, pV 0 0), (18, bV (decide (y1 < (0 : Int))))], [(0, .box [nC a0.1, nC a0.2.1, .dat (.sl tLI) a0.2.2])], 1⟩ hX (by kernel_rfl) allNil ?_
  rcases of_bif hr with ⟨hb3, hr⟩ | ⟨hb3, hr⟩
  · refine HT.cond1 rfl hb3 ?_
    refine HT.rg2 [oH] ⟨[(2, bV true)], [], 1⟩ hX (by kernel_rfl) allNil ?_
    have hr := of_some hr
    subst hr
    exact HT.ret (qThenR ⟨[bV true], [], [], by kernel_rfl, by kernel_rfl, rfl, by kernel_rfl, by kernel_rfl, trivial⟩)
  · refine HT.cond0 rfl hb3 ?_
    refine HT.skip (qThen ?_)
    obtain ⟨y4, hc5, hr⟩ := of_bind hr
    obtain ⟨y6, hc7, hr⟩ := of_bind hr
    refine HT.rg2 [oH, ⟨none, .call [.imm (.st (.pair tLI (.pair tLI (.sl tLI))))] [⟨true, (.st (.pair tLI (.pair tLI (.sl (.own tI))))), y4⟩] []⟩, ⟨none, .call [.imm (.st (.pair tLI (.pair tLI (.sl tLI))))] [⟨true, (.st (.pair tLI (.pair tLI (.sl (.own tI))))), y6.1⟩, ⟨false, .bool, y6.2⟩] []⟩, oH, oH, oH, oH, oH, oH] ⟨[(1, pV 0 0), (4, pV 7 0), (5, bV y6.2)], [(7, .box [.all 4, .all 5, .all 6]), (4, .seq tI y6.1.1), (5, .seq tI y6.1.2.1), (6, .seq (.own tI) y6.1.2.2), (0, .box [nC a0.1, nC a0.2.1, .dat (.sl tLI) a0.2.2])], 8⟩ hX (by kernel_rfl) (allCons (f12_ok hc5) (allCons (f11_ok hc7) allNil)) ?_
    obtain ⟨y8, hc9, hr⟩ := of_bind hr
    refine HT.rg2 [oH, ⟨none, .call [.imm (.st (.pair tLI (.pair tLI (.sl tLI))))] [⟨true, (.st (.pair tLI (.pair tLI (.sl (.own tI))))), y8⟩] []⟩, oH, oH] ⟨[(1, pV 0 0), (4, pV 7 0), (5, bV y6.2), (6, pV 11 0)], [(11, .box [.all 8, .all 9, .all 10]), (8, .seq tI y8.1), (9, .seq tI y8.2.1), (10, .seq (.own tI) y8.2.2), (7, .box [.all 4, .all 5, .all 6]), (4, .seq tI y6.1.1), (5, .seq tI y6.1.2.1), (6, .seq (.own tI) y6.1.2.2), (0, .box [nC a0.1, nC a0.2.1, .dat (.sl tLI) a0.2.2])], 12⟩ hX (by kernel_rfl) (allCons (f12_ok hc9) allNil) ?_
    obtain ⟨y10, hc11, hr⟩ := of_bind hr
    refine HT.rg2 [oH, ⟨none, .call [.imm (.st (.pair tLI (.pair tLI (.sl tLI))))] [⟨true, (.st (.pair tLI (.pair tLI (.sl (.own tI))))), y10.1⟩, ⟨false, .bool, y10.2⟩] []⟩, oH, oH, oH, oH, oH, oH] ⟨[(1, pV 0 0), (4, pV 7 0), (5, bV y6.2), (6, pV 11 0), (7, pV 15 0), (8, bV y10.2)], [(15, .box [.all 12, .all 13, .all 14]), (12, .seq tI y10.1.1), (13, .seq tI y10.1.2.1), (14, .seq (.own tI) y10.1.2.2), (11, .box [.all 8, .all 9, .all 10]), (8, .seq tI y8.1), (9, .seq tI y8.2.1), (10, .seq (.own tI) y8.2.2), (7, .box [.all 4, .all 5, .all 6]), (4, .seq tI y6.1.1), (5, .seq tI y6.1.2.1), (6, .seq (.own tI) y6.1.2.2), (0, .box [nC a0.1, nC a0.2.1, .dat (.sl tLI) a0.2.2])], 16⟩ hX (by kernel_rfl) (allCons (f13_ok hc11) allNil) ?_
    refine HT.seq ?_
    obtain ⟨v12', hT14, hr⟩ := of_bind hr
    refine HT.join (fun (v12 : Bool) => ⟨[(1, pV 0 0), (4, pV 1 0), (5, bV y6.2), (6, pV 2 0), (7, pV 3 0), (8, bV y10.2), (40, bV v12)], [(0, .box [nC a0.1, nC a0.2.1, .dat (.sl tLI) a0.2.2]), (1, .box [.all 4, .all 5, .all 6]), (2, .box [.all 7, .all 8, .all 9]), (3, .box [.all 10, .all 11, .all 12]), (4, .seq tI y6.1.1), (5, .seq tI y6.1.2.1), (6, .seq (.own tI) y6.1.2.2), (7, .seq tI y8.1), (8, .seq tI y8.2.1), (9, .seq (.own tI) y8.2.2), (10, .seq tI y10.1.1), (11, .seq tI y10.1.2.1), (12, .seq (.own tI) y10.1.2.2)], 13⟩) (fun v => v = v12') (fun v12 hv13 => ?_) (fun cont => ?_)
    · subst hv13
      rcases of_bif hr with ⟨hb15, hr⟩ | ⟨hb15, hr⟩
      · refine HT.cond1 rfl hb15 ?_
        refine HT.rg2 [oH] ⟨[(2, bV false)], [], 13⟩ hX (by kernel_rfl) allNil ?_
        have hr := of_some hr
        subst hr
        exact HT.ret (qThenR ⟨[bV false], [], [], by kernel_rfl, by kernel_rfl, rfl, by kernel_rfl, by kernel_rfl, trivial⟩)
      · refine HT.cond0 rfl hb15 ?_
        refine HT.skip (qThen ?_)
        refine HT.seq ?_
        obtain ⟨y16, hc17, hr⟩ := of_bind hr
        obtain ⟨y18, hc19, hr⟩ := of_bind hr
        refine HT.dr2 3 [⟨oH, []⟩, ⟨oH, []⟩, ⟨⟨none, .call [.imm (.st (.pair tLI (.pair tLI (.sl tLI))))] [⟨true, (.st (.pair tLI (.pair tLI (.sl (.own tI))))), y16⟩] []⟩, [1]⟩] [[0, 1, 2], [0, 1, 2, 3]] [⟨none, .call [.imm (.st (.pair tLI (.pair tLI (.sl tLI)))), .imm (.st (.pair tLI (.pair tLI (.sl tLI))))] [⟨false, .bool, y18⟩] []⟩, oH] ⟨[(1, pV 0 0), (4, pV 1 0), (5, bV y6.2), (6, pV 2 0), (7, pV 3 0), (8, bV y10.2), (45, bV (!y18))], [(0, .box [nC a0.1, nC a0.2.1, .dat (.sl tLI) a0.2.2]), (1, .box [.all 4, .all 5, .all 6]), (2, .box [.all 7, .all 8, .all 9]), (3, .box [.all 10, .all 11, .all 12]), (4, .seq tI y6.1.1), (5, .seq tI y6.1.2.1), (6, .seq (.own tI) y6.1.2.2), (7, .seq tI y8.1), (8, .seq tI y8.2.1), (9, .seq (.own tI) y8.2.2), (10, .seq tI y10.1.1), (11, .seq tI y10.1.2.1), (12, .seq (.own tI) y10.1.2.2)], 16⟩ hX (by kernel_rfl) (by kernel_rfl) (allCons (f12_ok hc17) (allCons (f14_ok hc19) allNil)) ?_
        rcases of_bif hr with ⟨hb20, hr⟩ | ⟨hb20, hr⟩
        · refine HT.cond1 rfl hb20 ?_
          refine HT.rg2 [oH] ⟨[(2, bV false)], [], 16⟩ hX (by kernel_rfl) allNil ?_
          have hr := of_some hr
          subst hr
          exact HT.ret (qThenR ⟨[bV false], [], [], by kernel_rfl, by kernel_rfl, rfl, by kernel_rfl, by kernel_rfl, trivial⟩)
        · refine HT.cond0 rfl hb20 ?_
          refine HT.skip (qThen ?_)
          refine HT.rg2 [oH] ⟨[(1, pV 0 0), (4, pV 1 0), (5, bV y6.2), (6, pV 2 0), (7, pV 3 0), (8, bV y10.2), (9, iV (1 : Int))], [(0, .box [nC a0.1, nC a0.2.1, .dat (.sl tLI) a0.2.2]), (1, .box [.all 4, .all 5, .all 6]), (2, .box [.all 7, .all 8, .all 9]), (3, .box [.all 10, .all 11, .all 12]), (4, .seq tI y6.1.1), (5, .seq tI y6.1.2.1), (6, .seq (.own tI) y6.1.2.2), (7, .seq tI y8.1), (8, .seq tI y8.2.1), (9, .seq (.own tI) y8.2.2), (10, .seq tI y10.1.1), (11, .seq tI y10.1.2.1), (12, .seq (.own tI) y10.1.2.2)], 16⟩ hX (by kernel_rfl) allNil ?_
          obtain ⟨y21, hc22, hr⟩ := of_bind hr
          refine HT.rg2 [oH, oH, ⟨none, .call [.own (.st (.pair tLI (.pair tLI (.sl (.own tI))))), .imm tI] [⟨false, tI, y21.1⟩] [⟨(.st (.pair tLI (.pair tLI (.sl (.own tI))))), y21.2⟩]⟩, oH] ⟨[(1, pV 0 0), (4, pV 1 0), (5, bV y6.2), (7, pV 3 0), (8, bV y10.2), (9, iV y21.1)], [(0, .box [nC a0.1, nC a0.2.1, .dat (.sl tLI) a0.2.2]), (1, .box [.all 4, .all 5, .all 6]), (3, .box [.all 10, .all 11, .all 12]), (4, .seq tI y6.1.1), (5, .seq tI y6.1.2.1), (6, .seq (.own tI) y6.1.2.2), (10, .seq tI y10.1.1), (11, .seq tI y10.1.2.1), (12, .seq (.own tI) y10.1.2.2)], 16⟩ hX (by kernel_rfl) (allCons (f15_ok hc22) allNil) ?_
          refine HT.seq ?_
          obtain ⟨v23', hT25, hr⟩ := of_bind hr
          refine HT.join (fun (v23 : Bool) => ⟨[(1, pV 0 0), (4, pV 1 0), (5, bV y6.2), (7, pV 2 0), (61, bV v23)], [(0, .box [nC a0.1, nC a0.2.1, .dat (.sl tLI) a0.2.2]), (1, .box [.all 3, .all 4, .all 5]), (2, .box [.all 6, .all 7, .all 8]), (3, .seq tI y6.1.1), (4, .seq tI y6.1.2.1), (5, .seq (.own tI) y6.1.2.2), (6, .seq tI y10.1.1), (7, .seq tI y10.1.2.1), (8, .seq (.own tI) y10.1.2.2)], 9⟩) (fun v => v = v23') (fun v23 hv24 => ?_) (fun cont => ?_)
          · subst hv24
            rcases of_bif hr with ⟨hb26, hr⟩ | ⟨hb26, hr⟩
            · refine HT.cond1 rfl hb26 ?_
              refine HT.rg2 [oH] ⟨[(2, bV false)], [], 9⟩ hX (by kernel_rfl) allNil ?_
              have hr := of_some hr
              subst hr
              exact HT.ret (qThenR ⟨[bV false], [], [], by kernel_rfl, by kernel_rfl, rfl, by kernel_rfl, by kernel_rfl, trivial⟩)
            · refine HT.cond0 rfl hb26 ?_
              refine HT.skip (qThen ?_)
              refine HT.rg2 [oH] ⟨[(1, pV 0 0), (4, pV 1 0), (5, bV y6.2), (7, pV 2 0), (10, iV (1 : Int))], [(0, .box [nC a0.1, nC a0.2.1, .dat (.sl tLI) a0.2.2]), (1, .box [.all 3, .all 4, .all 5]), (2, .box [.all 6, .all 7, .all 8]), (3, .seq tI y6.1.1), (4, .seq tI y6.1.2.1), (5, .seq (.own tI) y6.1.2.2), (6, .seq tI y10.1.1), (7, .seq tI y10.1.2.1), (8, .seq (.own tI) y10.1.2.2)], 9⟩ hX (by kernel_rfl) allNil ?_
              obtain ⟨y27, hc28, hr⟩ := of_bind hr
              refine HT.rg2 [oH, oH, ⟨none, .call [.own (.st (.pair tLI (.pair tLI (.sl (.own tI))))), .imm tI] [⟨false, tI, y27.1⟩] [⟨(.st (.pair tLI (.pair tLI (.sl (.own tI))))), y27.2⟩]⟩, oH] ⟨[(1, pV 0 0), (4, pV 1 0), (5, bV y6.2), (7, pV 2 0), (10, iV y27.1)], [(6, .seq tI y27.2.1), (7, .seq tI y27.2.2.1), (8, .seq (.own tI) y27.2.2.2), (0, .box [nC a0.1, nC a0.2.1, .dat (.sl tLI) a0.2.2]), (1, .box [.all 3, .all 4, .all 5]), (2, .box [.all 6, .all 7, .all 8]), (3, .seq tI y6.1.1), (4, .seq tI y6.1.2.1), (5, .seq (.own tI) y6.1.2.2)], 9⟩ hX (by kernel_rfl) (allCons (f15_ok hc28) allNil) ?_
              refine HT.rg2 [oH] ⟨[(1, pV 0 0), (4, pV 1 0), (5, bV y6.2), (7, pV 2 0), (10, iV y27.1), (11, iV (1 : Int))], [(6, .seq tI y27.2.1), (7, .seq tI y27.2.2.1), (8, .seq (.own tI) y27.2.2.2), (0, .box [nC a0.1, nC a0.2.1, .dat (.sl tLI) a0.2.2]), (1, .box [.all 3, .all 4, .all 5]), (2, .box [.all 6, .all 7, .all 8]), (3, .seq tI y6.1.1), (4, .seq tI y6.1.2.1), (5, .seq (.own tI) y6.1.2.2)], 9⟩ hX (by kernel_rfl) allNil ?_
              obtain ⟨y29, hc30, hr⟩ := of_bind hr
              refine HT.rg2 [oH, oH, ⟨none, .call [.imm (.st (.pair tLI (.pair tLI (.sl tLI)))), .imm tI] [⟨false, tI, y29⟩] []⟩, oH] ⟨[(1, pV 0 0), (4, pV 1 0), (5, bV y6.2), (7, pV 2 0), (10, iV y27.1), (11, iV y29)], [(6, .seq tI y27.2.1), (7, .seq tI y27.2.2.1), (8, .seq (.own tI) y27.2.2.2), (0, .box [nC a0.1, nC a0.2.1, .dat (.sl tLI) a0.2.2]), (1, .box [.all 3, .all 4, .all 5]), (2, .box [.all 6, .all 7, .all 8]), (3, .seq tI y6.1.1), (4, .seq tI y6.1.2.1), (5, .seq (.own tI) y6.1.2.2)], 9⟩ hX (by kernel_rfl) (allCons (f16_ok hc30) allNil) ?_
              refine HT.seq ?_
              refine HT.rg2 (oHs 2) ⟨[(1, pV 0 0), (4, pV 1 0), (5, bV y6.2), (7, pV 2 0), (10, iV y27.1), (11, iV y29), (69, bV (decide (y29 < (0 : Int))))], [(6, .seq tI y27.2.1), (7, .seq tI y27.2.2.1), (8, .seq (.own tI) y27.2.2.2), (0, .box [nC a0.1, nC a0.2.1, .dat (.sl tLI) a0.2.2]), (1, .box [.all 3, .all 4, .all 5]), (2, .box [.all 6, .all 7, .all 8]), (3, .seq tI y6.1.1), (4, .seq tI y6.1.2.1), (5, .seq (.own tI) y6.1.2.2)], 9⟩ hX (by kernel_rfl) allNil ?_
              rcases of_bif hr with ⟨hb31, hr⟩ | ⟨hb31, hr⟩
              · refine HT.cond1 rfl hb31 ?_
                refine HT.rg2 [oH] ⟨[(2, bV false)], [], 9⟩ hX (by kernel_rfl) allNil ?_
                have hr := of_some hr
                subst hr
                exact HT.ret (qThenR ⟨[bV false], [], [], by kernel_rfl, by kernel_rfl, rfl, by kernel_rfl, by kernel_rfl, trivial⟩)
              · refine HT.cond0 rfl hb31 ?_
                refine HT.skip (qThen ?_)
                refine HT.seq ?_
                refine HT.rg2 (oHs 3) ⟨[(1, pV 0 0), (4, pV 1 0), (5, bV y6.2), (7, pV 2 0), (10, iV y27.1), (72, bV (y29 != y27.1))], [(6, .seq tI y27.2.1), (7, .seq tI y27.2.2.1), (8, .seq (.own tI) y27.2.2.2), (0, .box [nC a0.1, nC a0.2.1, .dat (.sl tLI) a0.2.2]), (1, .box [.all 3, .all 4, .all 5]), (2, .box [.all 6, .all 7, .all 8]), (3, .seq tI y6.1.1), (4, .seq tI y6.1.2.1), (5, .seq (.own tI) y6.1.2.2)], 9⟩ hX (by kernel_rfl) allNil ?_
                rcases of_bif hr with ⟨hb32, hr⟩ | ⟨hb32, hr⟩
                · refine HT.cond1 rfl hb32 ?_
                  refine HT.rg2 [oH] ⟨[(2, bV false)], [], 9⟩ hX (by kernel_rfl) allNil ?_
                  have hr := of_some hr
                  subst hr
                  exact HT.ret (qThenR ⟨[bV false], [], [], by kernel_rfl, by kernel_rfl, rfl, by kernel_rfl, by kernel_rfl, trivial⟩)
                · refine HT.cond0 rfl hb32 ?_
                  refine HT.skip (qThen ?_)
                  obtain ⟨y33, hc34, hr⟩ := of_bind hr
                  obtain ⟨y35, hc36, hr⟩ := of_bind hr
                  refine HT.rg2 [oH, ⟨none, .call [.imm (.st (.pair tLI (.pair tLI (.sl tLI))))] [⟨true, (.st (.pair tLI (.pair tLI (.sl (.own tI))))), y33⟩] []⟩, ⟨none, .call [.imm (.st (.pair tLI (.pair tLI (.sl tLI))))] [⟨true, (.st (.pair tLI (.pair tLI (.sl (.own tI))))), y35.1⟩, ⟨false, .bool, y35.2⟩] []⟩, oH, oH, oH, oH, oH, oH] ⟨[(4, pV 1 0), (5, bV y6.2), (7, pV 2 0), (10, iV y27.1), (12, pV 15 0), (13, bV y35.2)], [(15, .box [.all 12, .all 13, .all 14]), (12, .seq tI y35.1.1), (13, .seq tI y35.1.2.1), (14, .seq (.own tI) y35.1.2.2), (6, .seq tI y27.2.1), (7, .seq tI y27.2.2.1), (8, .seq (.own tI) y27.2.2.2), (1, .box [.all 3, .all 4, .all 5]), (2, .box [.all 6, .all 7, .all 8]), (3, .seq tI y6.1.1), (4, .seq tI y6.1.2.1), (5, .seq (.own tI) y6.1.2.2)], 16⟩ hX (by kernel_rfl) (allCons (f12_ok hc34) (allCons (f13_ok hc36) allNil)) ?_
                  refine HT.seq ?_
                  obtain ⟨v37', hT39, hr⟩ := of_bind hr
                  refine HT.join (fun (v37 : Bool) => ⟨[(7, pV 0 0), (10, iV y27.1), (87, bV v37)], [(0, .box [.all 1, .all 2, .all 3]), (1, .seq tI y27.2.1), (2, .seq tI y27.2.2.1), (3, .seq (.own tI) y27.2.2.2)], 4⟩) (fun v => v = v37') (fun v37 hv38 => ?_) (fun cont => ?_)
                  · subst hv38
                    rcases of_bif hr with ⟨hb40, hr⟩ | ⟨hb40, hr⟩
                    · refine HT.cond1 rfl hb40 ?_
                      refine HT.rg2 [oH] ⟨[(2, bV false)], [], 4⟩ hX (by kernel_rfl) allNil ?_
                      have hr := of_some hr
                      subst hr
                      exact HT.ret (qThenR ⟨[bV false], [], [], by kernel_rfl, by kernel_rfl, rfl, by kernel_rfl, by kernel_rfl, trivial⟩)
                    · refine HT.cond0 rfl hb40 ?_
                      refine HT.skip (qThen ?_)
                      refine HT.rg2 [oH] ⟨[(7, pV 0 0), (10, iV y27.1), (11, iV (1 : Int))], [(0, .box [.all 1, .all 2, .all 3]), (1, .seq tI y27.2.1), (2, .seq tI y27.2.2.1), (3, .seq (.own tI) y27.2.2.2)], 4⟩ hX (by kernel_rfl) allNil ?_
                      obtain ⟨y41, hc42, hr⟩ := of_bind hr
                      refine HT.rg2 [oH, oH, ⟨none, .call [.imm (.st (.pair tLI (.pair tLI (.sl tLI)))), .imm tI] [⟨false, tI, y41⟩] []⟩, oH] ⟨[(10, iV y27.1), (11, iV y41)], [], 4⟩ hX (by kernel_rfl) (allCons (f16_ok hc42) allNil) ?_
                      refine HT.seq ?_
                      refine HT.rg2 (oHs 2) ⟨[(10, iV y27.1), (11, iV y41), (92, bV (decide (y41 < (0 : Int))))], [], 4⟩ hX (by kernel_rfl) allNil ?_
                      rcases of_bif hr with ⟨hb43, hr⟩ | ⟨hb43, hr⟩
                      · refine HT.cond1 rfl hb43 ?_
                        refine HT.rg2 [oH] ⟨[(2, bV false)], [], 4⟩ hX (by kernel_rfl) allNil ?_
                        have hr := of_some hr
                        subst hr
                        exact HT.ret (qThenR ⟨[bV false], [], [], by kernel_rfl, by kernel_rfl, rfl, by kernel_rfl, by kernel_rfl, trivial⟩)
                      · refine HT.cond0 rfl hb43 ?_
                        refine HT.skip (qThen ?_)
                        refine HT.seq ?_
                        refine HT.rg2 (oHs 3) ⟨[(95, bV (y41 != y27.1))], [], 4⟩ hX (by kernel_rfl) allNil ?_
                        rcases of_bif hr with ⟨hb44, hr⟩ | ⟨hb44, hr⟩
                        · refine HT.cond1 rfl hb44 ?_
                          refine HT.rg2 [oH] ⟨[(2, bV false)], [], 4⟩ hX (by kernel_rfl) allNil ?_
                          have hr := of_some hr
                          subst hr
                          exact HT.ret (qThenR ⟨[bV false], [], [], by kernel_rfl, by kernel_rfl, rfl, by kernel_rfl, by kernel_rfl, trivial⟩)
                        · refine HT.cond0 rfl hb44 ?_
                          refine HT.skip (qThen ?_)
                          refine HT.rg2 [oH] ⟨[(2, bV true)], [], 4⟩ hX (by kernel_rfl) allNil ?_
                          have hr := of_some hr
                          subst hr
                          exact HT.ret ⟨[bV true], [], [], by kernel_rfl, by kernel_rfl, rfl, by kernel_rfl, by kernel_rfl, trivial⟩
                  · obtain ⟨y45, hc46, hT39⟩ := of_bind hT39
                    rcases of_bif hT39 with ⟨hb47, hT39⟩ | ⟨hb47, hT39⟩
                    · exact HT.rgK [oH, oH, ⟨none, .call [.imm (.st (.pair tLI (.pair tLI (.sl tLI)))), .imm (.st (.pair tLI (.pair tLI (.sl tLI))))] [⟨false, .bool, y45⟩] []⟩, oH, oH, ⟨some true, .no⟩, ⟨some true, .no⟩, ⟨some true, .no⟩, ⟨none, .tv true⟩] [(2, 0), (6, 1), (7, 2), (8, 3)] [] hX (by kernel_rfl) (allCons (f14_ok hc46) (allCons hb47 (allCons hb47 (allCons hb47 (allCons hb47 allNil))))) (fun _ h => (qThen (h.ht (cont true (of_some hT39)))))
                    · exact HT.rgK [oH, oH, ⟨none, .call [.imm (.st (.pair tLI (.pair tLI (.sl tLI)))), .imm (.st (.pair tLI (.pair tLI (.sl tLI))))] [⟨false, .bool, y45⟩] []⟩, oH, oH, ⟨some false, .no⟩, ⟨some false, .no⟩, ⟨some false, .no⟩, ⟨none, .tv false⟩] [(2, 0), (6, 1), (7, 2), (8, 3)] [] hX (by kernel_rfl) (allCons (f14_ok hc46) (allCons hb47 (allCons hb47 (allCons hb47 (allCons hb47 allNil))))) (fun _ h => (qThen (h.ht (cont (y35.2 != y6.2) (of_some hT39)))))
          · rcases of_bif hT25 with ⟨hb48, hT25⟩ | ⟨hb48, hT25⟩
            · exact HT.rgK [oH, oH, oH, ⟨some true, .no⟩, ⟨some true, .no⟩, ⟨some true, .no⟩, ⟨some true, .no⟩, ⟨none, .tv true⟩, oH, ⟨some true, .no⟩, ⟨some true, .no⟩, ⟨some true, .no⟩, ⟨none, .tv true⟩] [(0, 0), (1, 1), (3, 2), (4, 3), (5, 4), (6, 5), (10, 6), (11, 7), (12, 8)] [] hX (by kernel_rfl) (allCons hb48 (allCons hb48 (allCons hb48 (allCons hb48 (allCons hb48 (allCons (rfl : true = true) (allCons (rfl : true = true) (allCons (rfl : true = true) (allCons (rfl : true = true) allNil))))))))) (fun _ h => (qThen (h.ht (cont true (of_some hT25)))))
            · obtain ⟨y49, hc50, hT25⟩ := of_bind hT25
              rcases of_bif hT25 with ⟨hb51, hT25⟩ | ⟨hb51, hT25⟩
              · exact HT.rgK [oH, oH, oH, ⟨some false, .no⟩, ⟨some false, .no⟩, ⟨some false, .call [.imm (.st (.pair tLI (.pair tLI (.sl tLI)))), .imm (.st (.pair tLI (.pair tLI (.sl tLI))))] [⟨false, .bool, y49⟩] []⟩, ⟨some false, .no⟩, ⟨none, .tv false⟩, oH, ⟨some true, .no⟩, ⟨some true, .no⟩, ⟨some true, .no⟩, ⟨none, .tv true⟩] [(0, 0), (1, 1), (3, 2), (4, 3), (5, 4), (6, 5), (10, 6), (11, 7), (12, 8)] [] hX (by kernel_rfl) (allCons hb48 (allCons hb48 (allCons hb48 (allCons (f14_ok hc50) (allCons hb48 (allCons hb48 (allCons hb51 (allCons hb51 (allCons hb51 (allCons hb51 allNil)))))))))) (fun _ h => (qThen (h.ht (cont true (of_some hT25)))))
              · exact HT.rgK [oH, oH, oH, ⟨some false, .no⟩, ⟨some false, .no⟩, ⟨some false, .call [.imm (.st (.pair tLI (.pair tLI (.sl tLI)))), .imm (.st (.pair tLI (.pair tLI (.sl tLI))))] [⟨false, .bool, y49⟩] []⟩, ⟨some false, .no⟩, ⟨none, .tv false⟩, oH, ⟨some false, .no⟩, ⟨some false, .no⟩, ⟨some false, .no⟩, ⟨none, .tv false⟩] [(0, 0), (1, 1), (3, 2), (4, 3), (5, 4), (6, 5), (10, 6), (11, 7), (12, 8)] [] hX (by kernel_rfl) (allCons hb48 (allCons hb48 (allCons hb48 (allCons (f14_ok hc50) (allCons hb48 (allCons hb48 (allCons hb51 (allCons hb51 (allCons hb51 (allCons hb51 allNil)))))))))) (fun _ h => (qThen (h.ht (cont (y10.2 != y6.2) (of_some hT25)))))
    · obtain ⟨y52, hc53, hT14⟩ := of_bind hT14
      rcases of_bif hT14 with ⟨hb54, hT14⟩ | ⟨hb54, hT14⟩
      · exact HT.rgK [oH, oH, ⟨none, .call [.imm (.st (.pair tLI (.pair tLI (.sl tLI)))), .imm (.st (.pair tLI (.pair tLI (.sl tLI))))] [⟨false, .bool, y52⟩] []⟩, oH, oH, ⟨some true, .no⟩, ⟨some true, .no⟩, ⟨some true, .no⟩, ⟨none, .tv true⟩] [(0, 0), (7, 1), (11, 2), (15, 3), (4, 4), (5, 5), (6, 6), (8, 7), (9, 8), (10, 9), (12, 10), (13, 11), (14, 12)] [] hX (by kernel_rfl) (allCons (f14_ok hc53) (allCons hb54 (allCons hb54 (allCons hb54 (allCons hb54 allNil))))) (fun _ h => (qThen (h.ht (cont true (of_some hT14)))))
      · exact HT.rgK [oH, oH, ⟨none, .call [.imm (.st (.pair tLI (.pair tLI (.sl tLI)))), .imm (.st (.pair tLI (.pair tLI (.sl tLI))))] [⟨false, .bool, y52⟩] []⟩, oH, oH, ⟨some false, .no⟩, ⟨some false, .no⟩, ⟨some false, .no⟩, ⟨none, .tv false⟩] [(0, 0), (7, 1), (11, 2), (15, 3), (4, 4), (5, 5), (6, 6), (8, 7), (9, 8), (10, 9), (12, 10), (13, 11), (14, 12)] [] hX (by kernel_rfl) (allCons (f14_ok hc53) (allCons hb54 (allCons hb54 (allCons hb54 (allCons hb54 allNil))))) (fun _ h => (qThen (h.ht (cont (y10.2 != y6.2) (of_some hT14)))))

end Go.Proofs
