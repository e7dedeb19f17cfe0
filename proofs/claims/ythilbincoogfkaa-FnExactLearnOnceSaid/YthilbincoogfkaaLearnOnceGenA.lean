import Derived.Test.YthilbincoogfkaaLibC
import Derived.Test.YthilbincoogfkaaProg
set_option linter.unusedVariables false
set_option linter.unusedSimpArgs false
set_option linter.unusedSectionVars false
/-
  Functions as plain functions, and their contracts. Printed by a program.
-/
namespace Go.Proofs
open Go.Ide

noncomputable def laws_szFloat32S (a0 : List Nat) (a1 : Int) : Option (Int) :=
  bif (decide ((wsub .i64 a1 (lenI a0)) < (0 : Int))) then
    some (-1 : Int)
  else
    some (wsub .i64 a1 (lenI a0))

theorem f42_ok {a0 : List Nat} {a1 : Int} {r : Int} (hr : laws_szFloat32S a0 a1 = some r) : CallOK Try.prog 42 [.imm tLF a0, .imm tI a1] [⟨false, tI, r⟩] [] := by
  unfold laws_szFloat32S at hr
  refine CallOK.of_body (ts := [(false, tI)]) Try.func42 rfl (by kernel_rfl) (Nat.le_of_ble_eq_true (by kernel_rfl)) fun cx hP hN hO hF => ?_
  have hO : cx.own.map Prod.fst = [] := hO
  have hX := CxIs.mk hP hN hO
  have hF := hF rfl
  show HT cx ⟨[(0, lV a0), (1, iV a1)], [], 0⟩ _ _
  refine HT.rg2 [oH] ⟨[(0, lV a0), (1, iV a1)], [], 0⟩ hX (by kernel_rfl) allNil ?_
  refine HT.rg2 (oHs 5) ⟨[(1, iV (wsub .i64 a1 (lenI a0)))], [], 0⟩ hX (by kernel_rfl) allNil ?_
  refine HT.seq ?_
  refine HT.rg2 (oHs 2) ⟨[(1, iV (wsub .i64 a1 (lenI a0))), (10, bV (decide ((wsub .i64 a1 (lenI a0)) < (0 : Int))))], [], 0⟩ hX (by kernel_rfl) allNil ?_
  rcases of_bif hr with ⟨hb1, hr⟩ | ⟨hb1, hr⟩
  · refine HT.cond1 rfl hb1 ?_
    refine HT.rg2 [oH] ⟨[(4, iV (-1 : Int))], [], 0⟩ hX (by kernel_rfl) allNil ?_
    have hr := of_some hr
    subst hr
    exact HT.ret (qThenR ⟨[iV (-1 : Int)], [], [], by kernel_rfl, by kernel_rfl, rfl, by kernel_rfl, by kernel_rfl, trivial⟩)
  · refine HT.cond0 rfl hb1 ?_
    refine HT.skip (qThen ?_)
    refine HT.rg2 (oHs 2) ⟨[(4, iV (wsub .i64 a1 (lenI a0)))], [], 0⟩ hX (by kernel_rfl) allNil ?_
    have hr := of_some hr
    subst hr
    exact HT.ret ⟨[iV (wsub .i64 a1 (lenI a0))], [], [], by kernel_rfl, by kernel_rfl, rfl, by kernel_rfl, by kernel_rfl, trivial⟩

noncomputable def laws_szModel (a0 : Int × Int × List Nat × List Nat × List Nat) (a1 : Int) : Option (Int) :=
  (laws_szFloat32S a0.2.2.1 a1).bind fun y1 =>
  bif (decide (y1 < (0 : Int))) then
    some (-1 : Int)
  else
    (laws_szFloat32S a0.2.2.2.1 y1).bind fun y4 =>
    bif (decide (y4 < (0 : Int))) then
      some (-1 : Int)
    else
      (laws_szFloat32S a0.2.2.2.2 y4).bind fun y7 =>
      bif (decide (y7 < (0 : Int))) then
        some (-1 : Int)
      else
        some y7

theorem f10_ok {a0 : Int × Int × List Nat × List Nat × List Nat} {a1 : Int} {r : Int} (hr : laws_szModel a0 a1 = some r) : CallOK Try.prog 10 [.imm (.st (.pair tI (.pair tI (.pair tLF (.pair tLF tLF))))) a0, .imm tI a1] [⟨false, tI, r⟩] [] := by
  unfold laws_szModel at hr
  refine CallOK.of_body (ts := [(false, tI)]) Try.func10 rfl (by kernel_rfl) (Nat.le_of_ble_eq_true (by kernel_rfl)) fun cx hP hN hO hF => ?_
  have hO : cx.own.map Prod.fst = [] := hO
  have hX := CxIs.mk hP hN hO
  have hF := hF rfl
  show HT cx ⟨[(0, .agg [iC a0.1, iC a0.2.1, lC a0.2.2.1, lC a0.2.2.2.1, lC a0.2.2.2.2]), (1, iV a1)], [], 0⟩ _ _
  refine HT.rg2 (oHs 2) ⟨[(1, iV a1), (2, pV 0 0)], [(0, .box [iC a0.1, iC a0.2.1, lC a0.2.2.1, lC a0.2.2.2.1, lC a0.2.2.2.2])], 1⟩ hX (by kernel_rfl) allNil ?_
  obtain ⟨y1, hc2, hr⟩ := of_bind hr
  refine HT.rg2 [oH, oH, oH, ⟨none, .call [.imm tLF, .imm tI] [⟨false, tI, y1⟩] []⟩, oH] ⟨[(1, iV y1), (2, pV 0 0)], [(0, .box [iC a0.1, iC a0.2.1, lC a0.2.2.1, lC a0.2.2.2.1, lC a0.2.2.2.2])], 1⟩ hX (by kernel_rfl) (allCons (f42_ok hc2) allNil) ?_
  refine HT.seq ?_
  refine HT.rg2 (oHs 2) ⟨[(1, iV y1), (2, pV 0 0), (10, bV (decide (y1 < (0 : Int))))], [(0, .box [iC a0.1, iC a0.2.1, lC a0.2.2.1, lC a0.2.2.2.1, lC a0.2.2.2.2])], 1⟩ hX (by kernel_rfl) allNil ?_
  rcases of_bif hr with ⟨hb3, hr⟩ | ⟨hb3, hr⟩
  · refine HT.cond1 rfl hb3 ?_
    refine HT.rg2 [oH] ⟨[(4, iV (-1 : Int))], [], 1⟩ hX (by kernel_rfl) allNil ?_
    have hr := of_some hr
    subst hr
    exact HT.ret (qThenR ⟨[iV (-1 : Int)], [], [], by kernel_rfl, by kernel_rfl, rfl, by kernel_rfl, by kernel_rfl, trivial⟩)
  · refine HT.cond0 rfl hb3 ?_
    refine HT.skip (qThen ?_)
    obtain ⟨y4, hc5, hr⟩ := of_bind hr
    refine HT.rg2 [oH, oH, oH, ⟨none, .call [.imm tLF, .imm tI] [⟨false, tI, y4⟩] []⟩, oH] ⟨[(1, iV y4), (2, pV 0 0)], [(0, .box [iC a0.1, iC a0.2.1, lC a0.2.2.1, lC a0.2.2.2.1, lC a0.2.2.2.2])], 1⟩ hX (by kernel_rfl) (allCons (f42_ok hc5) allNil) ?_
    refine HT.seq ?_
    refine HT.rg2 (oHs 2) ⟨[(1, iV y4), (2, pV 0 0), (16, bV (decide (y4 < (0 : Int))))], [(0, .box [iC a0.1, iC a0.2.1, lC a0.2.2.1, lC a0.2.2.2.1, lC a0.2.2.2.2])], 1⟩ hX (by kernel_rfl) allNil ?_
    rcases of_bif hr with ⟨hb6, hr⟩ | ⟨hb6, hr⟩
    · refine HT.cond1 rfl hb6 ?_
      refine HT.rg2 [oH] ⟨[(4, iV (-1 : Int))], [], 1⟩ hX (by kernel_rfl) allNil ?_
      have hr := of_some hr
      subst hr
      exact HT.ret (qThenR ⟨[iV (-1 : Int)], [], [], by kernel_rfl, by kernel_rfl, rfl, by kernel_rfl, by kernel_rfl, trivial⟩)
    · refine HT.cond0 rfl hb6 ?_
      refine HT.skip (qThen ?_)
      obtain ⟨y7, hc8, hr⟩ := of_bind hr
      refine HT.rg2 [oH, oH, oH, ⟨none, .call [.imm tLF, .imm tI] [⟨false, tI, y7⟩] []⟩, oH] ⟨[(1, iV y7)], [], 1⟩ hX (by kernel_rfl) (allCons (f42_ok hc8) allNil) ?_
      refine HT.seq ?_
      refine HT.rg2 (oHs 2) ⟨[(1, iV y7), (22, bV (decide (y7 < (0 : Int))))], [], 1⟩ hX (by kernel_rfl) allNil ?_
      rcases of_bif hr with ⟨hb9, hr⟩ | ⟨hb9, hr⟩
      · refine HT.cond1 rfl hb9 ?_
        refine HT.rg2 [oH] ⟨[(4, iV (-1 : Int))], [], 1⟩ hX (by kernel_rfl) allNil ?_
        have hr := of_some hr
        subst hr
        exact HT.ret (qThenR ⟨[iV (-1 : Int)], [], [], by kernel_rfl, by kernel_rfl, rfl, by kernel_rfl, by kernel_rfl, trivial⟩)
      · refine HT.cond0 rfl hb9 ?_
        refine HT.skip (qThen ?_)
        refine HT.rg2 (oHs 2) ⟨[(4, iV y7)], [], 1⟩ hX (by kernel_rfl) allNil ?_
        have hr := of_some hr
        subst hr
        exact HT.ret ⟨[iV y7], [], [], by kernel_rfl, by kernel_rfl, rfl, by kernel_rfl, by kernel_rfl, trivial⟩

noncomputable def laws_szInt64S (a0 : List Int) (a1 : Int) : Option (Int) :=
  bif (decide ((wsub .i64 a1 (lenI a0)) < (0 : Int))) then
    some (-1 : Int)
  else
    some (wsub .i64 a1 (lenI a0))

theorem f59_ok {a0 : List Int} {a1 : Int} {r : Int} (hr : laws_szInt64S a0 a1 = some r) : CallOK Try.prog 59 [.imm tLI a0, .imm tI a1] [⟨false, tI, r⟩] [] := by
  unfold laws_szInt64S at hr
  refine CallOK.of_body (ts := [(false, tI)]) Try.func59 rfl (by kernel_rfl) (Nat.le_of_ble_eq_true (by kernel_rfl)) fun cx hP hN hO hF => ?_
  have hO : cx.own.map Prod.fst = [] := hO
  have hX := CxIs.mk hP hN hO
  have hF := hF rfl
  show HT cx ⟨[(0, nV a0), (1, iV a1)], [], 0⟩ _ _
  refine HT.rg2 [oH] ⟨[(0, nV a0), (1, iV a1)], [], 0⟩ hX (by kernel_rfl) allNil ?_
  refine HT.rg2 (oHs 5) ⟨[(1, iV (wsub .i64 a1 (lenI a0)))], [], 0⟩ hX (by kernel_rfl) allNil ?_
  refine HT.seq ?_
  refine HT.rg2 (oHs 2) ⟨[(1, iV (wsub .i64 a1 (lenI a0))), (10, bV (decide ((wsub .i64 a1 (lenI a0)) < (0 : Int))))], [], 0⟩ hX (by kernel_rfl) allNil ?_
  rcases of_bif hr with ⟨hb1, hr⟩ | ⟨hb1, hr⟩
  · refine HT.cond1 rfl hb1 ?_
    refine HT.rg2 [oH] ⟨[(4, iV (-1 : Int))], [], 0⟩ hX (by kernel_rfl) allNil ?_
    have hr := of_some hr
    subst hr
    exact HT.ret (qThenR ⟨[iV (-1 : Int)], [], [], by kernel_rfl, by kernel_rfl, rfl, by kernel_rfl, by kernel_rfl, trivial⟩)
  · refine HT.cond0 rfl hb1 ?_
    refine HT.skip (qThen ?_)
    refine HT.rg2 (oHs 2) ⟨[(4, iV (wsub .i64 a1 (lenI a0)))], [], 0⟩ hX (by kernel_rfl) allNil ?_
    have hr := of_some hr
    subst hr
    exact HT.ret ⟨[iV (wsub .i64 a1 (lenI a0))], [], [], by kernel_rfl, by kernel_rfl, rfl, by kernel_rfl, by kernel_rfl, trivial⟩

noncomputable def laws_szInt64SS_B1 (a0 : List (List Int)) (s2 : Int × Int) : Option ((Int × Int) ⊕ (Int ⊕ Unit)) :=
  bif (decide (s2.2 < (lenI a0))) then
    guardP ((0 : Int) ≤ s2.2 ∧ s2.2 < lenI a0) (
      (laws_szInt64S (List.getD a0 (Int.toNat s2.2) ([] : List Int)) s2.1).bind fun y11 =>
      bif (decide (y11 < (0 : Int))) then
        some (.inr (.inr ()))
      else
        some (.inl (y11, (wadd .i64 s2.2 (1 : Int)))))
  else
    some (.inr (.inl s2.1))

noncomputable def laws_szInt64SS (a0 : List (List Int)) (a1 : Int) : Option (Int) :=
  bif (decide ((wsub .i64 a1 (lenI a0)) < (0 : Int))) then
    some (-1 : Int)
  else
    (rounds (laws_szInt64SS_B1 a0) ((wsub .i64 a1 (lenI a0)), (0 : Int))).bind fun r3 => match r3 with
      | .inl r4 =>
        some r4
      | .inr r5 =>
        some (-1 : Int)

theorem f26_ok {a0 : List (List Int)} {a1 : Int} {r : Int} (hr : laws_szInt64SS a0 a1 = some r) : CallOK Try.prog 26 [.imm (.sl tLI) a0, .imm tI a1] [⟨false, tI, r⟩] [] := by
  unfold laws_szInt64SS at hr
  refine CallOK.of_body (ts := [(false, tI)]) Try.func26 rfl (by kernel_rfl) (Nat.le_of_ble_eq_true (by kernel_rfl)) fun cx hP hN hO hF => ?_
  have hO : cx.own.map Prod.fst = [] := hO
  have hX := CxIs.mk hP hN hO
  have hF := hF rfl
  show HT cx ⟨[(0, .one (.dat (.sl tLI) a0)), (1, iV a1)], [], 0⟩ _ _
  refine HT.rg2 [oH] ⟨[(0, .one (.dat (.sl tLI) a0)), (1, iV a1)], [], 0⟩ hX (by kernel_rfl) allNil ?_
  refine HT.rg2 (oHs 5) ⟨[(0, .one (.dat (.sl tLI) a0)), (1, iV (wsub .i64 a1 (lenI a0)))], [], 0⟩ hX (by kernel_rfl) allNil ?_
  refine HT.seq ?_
  refine HT.rg2 (oHs 2) ⟨[(0, .one (.dat (.sl tLI) a0)), (1, iV (wsub .i64 a1 (lenI a0))), (11, bV (decide ((wsub .i64 a1 (lenI a0)) < (0 : Int))))], [], 0⟩ hX (by kernel_rfl) allNil ?_
  rcases of_bif hr with ⟨hb1, hr⟩ | ⟨hb1, hr⟩
  · refine HT.cond1 rfl hb1 ?_
    refine HT.rg2 [oH] ⟨[(4, iV (-1 : Int))], [], 0⟩ hX (by kernel_rfl) allNil ?_
    have hr := of_some hr
    subst hr
    exact HT.ret (qThenR ⟨[iV (-1 : Int)], [], [], by kernel_rfl, by kernel_rfl, rfl, by kernel_rfl, by kernel_rfl, trivial⟩)
  · refine HT.cond0 rfl hb1 ?_
    refine HT.skip (qThen ?_)
    refine HT.seq ?_
    refine HT.rg2 [oH] ⟨[(0, .one (.dat (.sl tLI) a0)), (1, iV (wsub .i64 a1 (lenI a0))), (5, iV (0 : Int))], [], 0⟩ hX (by kernel_rfl) allNil ?_
    refine HT.block ?_
    obtain ⟨r3, hL14, hr⟩ := of_bind hr
    refine HT.loopL (fun (s2 : Int × Int) => ⟨[(0, .one (.dat (.sl tLI) a0)), (1, iV s2.1), (5, iV s2.2)], [], 0⟩) (fun (r3 : Int ⊕ Unit) => match r3 with | .inl r4 => (.exit 0, ⟨[(1, iV r4)], [], 0⟩) | .inr r5 => (.ret, ⟨[(4, iV (-1 : Int))], [], 0⟩)) (Le.re [] [] hX (by kernel_rfl)) hL14 ?_ (fun s2 x6 hx7 hk8 => ?_)
    · rcases r3 with r4 | r5
      · refine (qBlockX (qThen ?_))
        refine HT.rg2 (oHs 2) ⟨[(4, iV r4)], [], 0⟩ hX (by kernel_rfl) allNil ?_
        have hr := of_some hr
        subst hr
        exact HT.ret ⟨[iV r4], [], [], by kernel_rfl, by kernel_rfl, rfl, by kernel_rfl, by kernel_rfl, trivial⟩
      · have hr := of_some hr
        subst hr
        exact (qBlockR (qThenR ⟨[iV (-1 : Int)], [], [], by kernel_rfl, by kernel_rfl, rfl, by kernel_rfl, by kernel_rfl, trivial⟩))
    · refine HT.seq ?_
      refine HT.rg2 (oHs 4) ⟨[(0, .one (.dat (.sl tLI) a0)), (1, iV s2.1), (5, iV s2.2), (15, bV (decide (s2.2 < (lenI a0))))], [], 0⟩ hX (by kernel_rfl) allNil ?_
      rcases of_bif hx7 with ⟨hb9, hx7⟩ | ⟨hb9, hx7⟩
      · refine HT.cond1 rfl hb9 ?_
        refine HT.skip (qThen ?_)
        refine HT.seq ?_
        refine HT.block ?_
        obtain ⟨hg10, hx7⟩ := of_guard hx7
        obtain ⟨y11, hc12, hx7⟩ := of_bind hx7
        refine HT.rg2 [oH, oH, oH, oH, oH, ⟨none, .call [.imm tLI, .imm tI] [⟨false, tI, y11⟩] []⟩, oH] ⟨[(0, .one (.dat (.sl tLI) a0)), (1, iV y11), (5, iV s2.2)], [], 0⟩ hX (by kernel_rfl) (allCons hg10 (allCons (f59_ok hc12) allNil)) ?_
        refine HT.rg2 (oHs 2) ⟨[(0, .one (.dat (.sl tLI) a0)), (1, iV y11), (5, iV s2.2), (25, bV (decide (y11 < (0 : Int))))], [], 0⟩ hX (by kernel_rfl) allNil ?_
        rcases of_bif hx7 with ⟨hb13, hx7⟩ | ⟨hb13, hx7⟩
        · refine HT.cond1 rfl hb13 ?_
          refine HT.rg2 [oH] ⟨[(4, iV (-1 : Int))], [], 0⟩ hX (by kernel_rfl) allNil ?_
          have hx7 := of_some hx7
          subst hx7
          exact HT.retL (Le.re [] [] hX (by kernel_rfl)) (qBlockR (qThenR (qLoopR (hk8 (.inr ()) rfl))))
        · refine HT.cond0 rfl hb13 ?_
          refine HT.skip (qBlock (qThen ?_))
          have hx7 := of_some hx7
          subst hx7
          exact HT.rgK (oHs 3) [] [] hX (by kernel_rfl) allNil (fun _ h => (qLoopN ⟨(y11, (wadd .i64 s2.2 (1 : Int))), rfl, h⟩))
      · refine HT.cond0 rfl hb9 ?_
        have hx7 := of_some hx7
        subst hx7
        exact HT.exitL (Le.re [] [] hX (by kernel_rfl)) (qThenE (qLoopE (hk8 (.inl s2.1) rfl)))

noncomputable def laws_toFloat32S_B1 (a0 : List Nat) (s2 : Int × List Nat) : Option ((Int × List Nat) ⊕ (List Nat)) :=
  bif (decide (s2.1 < (lenI a0))) then
    guardP ((0 : Int) ≤ s2.1 ∧ s2.1 < lenI a0) (
      guardP ((0 : Int) ≤ s2.1 ∧ s2.1 < lenI s2.2) (
        some (.inl ((wadd .i64 s2.1 (1 : Int)), (List.set s2.2 (Int.toNat s2.1) (List.getD a0 (Int.toNat s2.1) (0 : Nat)))))))
  else
    some (.inr s2.2)

noncomputable def laws_toFloat32S (a0 : List Nat) : Option (List Nat) :=
  guardP ((0 : Int) ≤ (lenI a0) ∧ (lenI a0) ≤ 4294967296) (
    (rounds (laws_toFloat32S_B1 a0) ((0 : Int), (List.replicate (Int.toNat (lenI a0)) (0 : Nat)))).bind fun r4 =>
    some r4)

theorem f46_ok {a0 : List Nat} {r : List Nat} (hr : laws_toFloat32S a0 = some r) : CallOK Try.prog 46 [.imm tLF a0] [⟨true, tLF, r⟩] [] := by
  unfold laws_toFloat32S at hr
  refine CallOK.of_body (ts := [(true, tLF)]) Try.func46 rfl (by kernel_rfl) (Nat.le_of_ble_eq_true (by kernel_rfl)) fun cx hP hN hO hF => ?_
  have hO : cx.own.map Prod.fst = [] := hO
  have hX := CxIs.mk hP hN hO
  have hF := hF rfl
  show HT cx ⟨[(0, lV a0)], [], 0⟩ _ _
  refine HT.rg2 [oH] ⟨[(0, lV a0)], [], 0⟩ hX (by kernel_rfl) allNil ?_
  obtain ⟨hg1, hr⟩ := of_guard hr
  refine HT.rg2 [oH, oH, ⟨none, .ty tF⟩, oH] ⟨[(0, lV a0), (3, aV 0)], [(0, .seq tF (List.replicate (Int.toNat (lenI a0)) (0 : Nat)))], 1⟩ hX (by kernel_rfl) (allCons (show (0 : Int) ≤ (lenI a0) ∧ (lenI a0) ≤ (lenI a0) ∧ (lenI a0) ≤ 4294967296 from ⟨hg1.1, Int.le_refl _, hg1.2⟩) allNil) ?_
  refine HT.seq ?_
  refine HT.rg2 [oH] ⟨[(0, lV a0), (3, aV 0), (4, iV (0 : Int))], [(0, .seq tF (List.replicate (Int.toNat (lenI a0)) (0 : Nat)))], 1⟩ hX (by kernel_rfl) allNil ?_
  refine HT.block ?_
  obtain ⟨r3, hL11, hr⟩ := of_bind hr
  refine HT.loopL (fun (s2 : Int × List Nat) => ⟨[(0, lV a0), (3, aV 0), (4, iV s2.1)], [(0, .seq tF s2.2)], 1⟩) (fun (r4 : List Nat) => (.exit 0, ⟨[(3, aV 0)], [(0, .seq tF r4)], 1⟩)) (Le.re [(0, 0)] [] hX (by kernel_rfl)) hL11 ?_ (fun s2 x5 hx6 hk7 => ?_)
  · refine (qBlockX (qThen ?_))
    refine HT.rg2 (oHs 2) ⟨[(2, aV 0)], [(0, .seq tF r3)], 1⟩ hX (by kernel_rfl) allNil ?_
    have hr := of_some hr
    subst hr
    exact HT.ret ⟨[aV 0], [0], [], by kernel_rfl, by kernel_rfl, rfl, by kernel_rfl, by kernel_rfl, trivial⟩
  · refine HT.seq ?_
    refine HT.rg2 (oHs 4) ⟨[(0, lV a0), (3, aV 0), (4, iV s2.1), (11, bV (decide (s2.1 < (lenI a0))))], [(0, .seq tF s2.2)], 1⟩ hX (by kernel_rfl) allNil ?_
    rcases of_bif hx6 with ⟨hb8, hx6⟩ | ⟨hb8, hx6⟩
    · refine HT.cond1 rfl hb8 ?_
      refine HT.skip (qThen ?_)
      refine HT.seq ?_
      refine HT.block ?_
      obtain ⟨hg9, hx6⟩ := of_guard hx6
      obtain ⟨hg10, hx6⟩ := of_guard hx6
      refine HT.rgL (oHs 8) ⟨[(0, lV a0), (3, aV 0), (4, iV s2.1)], [(0, .seq tF (List.set s2.2 (Int.toNat s2.1) (List.getD a0 (Int.toNat s2.1) (0 : Nat))))], 1⟩ hX (by kernel_rfl) (allCons hg9 (allCons hg10 (allCons (natLt hg10) allNil))) (qBlock (qThen ?_))
      have hx6 := of_some hx6
      subst hx6
      exact HT.rgK (oHs 3) [(0, 0)] [] hX (by kernel_rfl) allNil (fun _ h => (qLoopN ⟨((wadd .i64 s2.1 (1 : Int)), (List.set s2.2 (Int.toNat s2.1) (List.getD a0 (Int.toNat s2.1) (0 : Nat)))), rfl, h⟩))
    · refine HT.cond0 rfl hb8 ?_
      have hx6 := of_some hx6
      subst hx6
      exact HT.exitL (Le.re [(0, 0)] [] hX (by kernel_rfl)) (qThenE (qLoopE (hk7 s2.2 rfl)))

noncomputable def laws_toModel (a0 : Int × Int × List Nat × List Nat × List Nat) : Option ((Int × Int × List Nat × List Nat × List Nat)) :=
  (laws_toFloat32S a0.2.2.1).bind fun y1 =>
  (laws_toFloat32S a0.2.2.2.1).bind fun y3 =>
  (laws_toFloat32S a0.2.2.2.2).bind fun y5 =>
  some (a0.1, a0.2.1, y1, y3, y5)

theorem f12_ok {a0 : Int × Int × List Nat × List Nat × List Nat} {r : (Int × Int × List Nat × List Nat × List Nat)} (hr : laws_toModel a0 = some r) : CallOK Try.prog 12 [.imm (.st (.pair tI (.pair tI (.pair tLF (.pair tLF tLF))))) a0] [⟨true, (.st (.pair tI (.pair tI (.pair tLF (.pair tLF tLF))))), r⟩] [] := by
  unfold laws_toModel at hr
  refine CallOK.of_body (ts := [(true, (.st (.pair tI (.pair tI (.pair tLF (.pair tLF tLF))))))]) Try.func12 rfl (by kernel_rfl) (Nat.le_of_ble_eq_true (by kernel_rfl)) fun cx hP hN hO hF => ?_
  have hO : cx.own.map Prod.fst = [] := hO
  have hX := CxIs.mk hP hN hO
  have hF := hF rfl
  show HT cx ⟨[(0, .agg [iC a0.1, iC a0.2.1, lC a0.2.2.1, lC a0.2.2.2.1, lC a0.2.2.2.2])], [], 0⟩ _ _
  refine HT.rg2 (oHs 2) ⟨[(1, pV 0 0), (2, pV 1 0)], [(1, .box [iC (0 : Int), iC (0 : Int), .nilS, .nilS, .nilS]), (0, .box [iC a0.1, iC a0.2.1, lC a0.2.2.1, lC a0.2.2.2.1, lC a0.2.2.2.2])], 2⟩ hX (by kernel_rfl) allNil ?_
  refine HT.rg2 [oH] ⟨[(1, pV 0 0), (2, pV 1 0), (3, pV 2 0)], [(2, .box [iC (0 : Int), iC (0 : Int), .nilS, .nilS, .nilS]), (1, .box [iC (0 : Int), iC (0 : Int), .nilS, .nilS, .nilS]), (0, .box [iC a0.1, iC a0.2.1, lC a0.2.2.1, lC a0.2.2.2.1, lC a0.2.2.2.2])], 3⟩ hX (by kernel_rfl) allNil ?_
  refine HT.rg2 (oHs 4) ⟨[(1, pV 0 0), (2, pV 1 0), (3, pV 2 0)], [(2, .box [iC a0.1, iC (0 : Int), .nilS, .nilS, .nilS]), (1, .box [iC (0 : Int), iC (0 : Int), .nilS, .nilS, .nilS]), (0, .box [iC a0.1, iC a0.2.1, lC a0.2.2.1, lC a0.2.2.2.1, lC a0.2.2.2.2])], 3⟩ hX (by kernel_rfl) allNil ?_
  refine HT.rg2 (oHs 4) ⟨[(1, pV 0 0), (2, pV 1 0), (3, pV 2 0)], [(2, .box [iC a0.1, iC a0.2.1, .nilS, .nilS, .nilS]), (1, .box [iC (0 : Int), iC (0 : Int), .nilS, .nilS, .nilS]), (0, .box [iC a0.1, iC a0.2.1, lC a0.2.2.1, lC a0.2.2.2.1, lC a0.2.2.2.2])], 3⟩ hX (by kernel_rfl) allNil ?_
  obtain ⟨y1, hc2, hr⟩ := of_bind hr
  refine HT.rg2 [oH, oH, ⟨none, .call [.imm tLF] [⟨true, tLF, y1⟩] []⟩, oH, oH] ⟨[(1, pV 0 0), (2, pV 1 0), (3, pV 2 0)], [(2, .box [iC a0.1, iC a0.2.1, .all 3, .nilS, .nilS]), (3, .seq tF y1), (1, .box [iC (0 : Int), iC (0 : Int), .nilS, .nilS, .nilS]), (0, .box [iC a0.1, iC a0.2.1, lC a0.2.2.1, lC a0.2.2.2.1, lC a0.2.2.2.2])], 4⟩ hX (by kernel_rfl) (allCons (f46_ok hc2) allNil) ?_
  obtain ⟨y3, hc4, hr⟩ := of_bind hr
  refine HT.rg2 [oH, oH, ⟨none, .call [.imm tLF] [⟨true, tLF, y3⟩] []⟩, oH, oH] ⟨[(1, pV 0 0), (2, pV 1 0), (3, pV 2 0)], [(2, .box [iC a0.1, iC a0.2.1, .all 3, .all 4, .nilS]), (4, .seq tF y3), (3, .seq tF y1), (1, .box [iC (0 : Int), iC (0 : Int), .nilS, .nilS, .nilS]), (0, .box [iC a0.1, iC a0.2.1, lC a0.2.2.1, lC a0.2.2.2.1, lC a0.2.2.2.2])], 5⟩ hX (by kernel_rfl) (allCons (f46_ok hc4) allNil) ?_
  obtain ⟨y5, hc6, hr⟩ := of_bind hr
  refine HT.rg2 [oH, oH, ⟨none, .call [.imm tLF] [⟨true, tLF, y5⟩] []⟩, oH, oH] ⟨[(2, pV 1 0), (3, pV 2 0)], [(2, .box [iC a0.1, iC a0.2.1, .all 3, .all 4, .all 5]), (5, .seq tF y5), (4, .seq tF y3), (3, .seq tF y1), (1, .box [iC (0 : Int), iC (0 : Int), .nilS, .nilS, .nilS])], 6⟩ hX (by kernel_rfl) (allCons (f46_ok hc6) allNil) ?_
  refine HT.rg2 (oHs 2) ⟨[(2, pV 1 0)], [(1, .box [iC a0.1, iC a0.2.1, .all 3, .all 4, .all 5]), (5, .seq tF y5), (4, .seq tF y3), (3, .seq tF y1)], 6⟩ hX (by kernel_rfl) allNil ?_
  have hr := of_some hr
  subst hr
  exact HT.ret ⟨[.agg [iC a0.1, iC a0.2.1, .all 3, .all 4, .all 5]], [3, 4, 5], [], by kernel_rfl, by kernel_rfl, rfl, by kernel_rfl, by kernel_rfl, trivial⟩

noncomputable def laws_toInt64S_B1 (a0 : List Int) (s2 : Int × List Int) : Option ((Int × List Int) ⊕ (List Int)) :=
  bif (decide (s2.1 < (lenI a0))) then
    guardP ((0 : Int) ≤ s2.1 ∧ s2.1 < lenI a0) (
      guardP ((0 : Int) ≤ s2.1 ∧ s2.1 < lenI s2.2) (
        some (.inl ((wadd .i64 s2.1 (1 : Int)), (List.set s2.2 (Int.toNat s2.1) (List.getD a0 (Int.toNat s2.1) (0 : Int)))))))
  else
    some (.inr s2.2)

noncomputable def laws_toInt64S (a0 : List Int) : Option (List Int) :=
  guardP ((0 : Int) ≤ (lenI a0) ∧ (lenI a0) ≤ 4294967296) (
    (rounds (laws_toInt64S_B1 a0) ((0 : Int), (List.replicate (Int.toNat (lenI a0)) (0 : Int)))).bind fun r4 =>
    some r4)

theorem f13_ok {a0 : List Int} {r : List Int} (hr : laws_toInt64S a0 = some r) : CallOK Try.prog 13 [.imm tLI a0] [⟨true, tLI, r⟩] [] := by
  unfold laws_toInt64S at hr
  refine CallOK.of_body (ts := [(true, tLI)]) Try.func13 rfl (by kernel_rfl) (Nat.le_of_ble_eq_true (by kernel_rfl)) fun cx hP hN hO hF => ?_
  have hO : cx.own.map Prod.fst = [] := hO
  have hX := CxIs.mk hP hN hO
  have hF := hF rfl
  show HT cx ⟨[(0, nV a0)], [], 0⟩ _ _
  refine HT.rg2 [oH] ⟨[(0, nV a0)], [], 0⟩ hX (by kernel_rfl) allNil ?_
  obtain ⟨hg1, hr⟩ := of_guard hr
  refine HT.rg2 [oH, oH, ⟨none, .ty tI⟩, oH] ⟨[(0, nV a0), (3, aV 0)], [(0, .seq tI (List.replicate (Int.toNat (lenI a0)) (0 : Int)))], 1⟩ hX (by kernel_rfl) (allCons (show (0 : Int) ≤ (lenI a0) ∧ (lenI a0) ≤ (lenI a0) ∧ (lenI a0) ≤ 4294967296 from ⟨hg1.1, Int.le_refl _, hg1.2⟩) allNil) ?_
  refine HT.seq ?_
  refine HT.rg2 [oH] ⟨[(0, nV a0), (3, aV 0), (4, iV (0 : Int))], [(0, .seq tI (List.replicate (Int.toNat (lenI a0)) (0 : Int)))], 1⟩ hX (by kernel_rfl) allNil ?_
  refine HT.block ?_
  obtain ⟨r3, hL11, hr⟩ := of_bind hr
  refine HT.loopL (fun (s2 : Int × List Int) => ⟨[(0, nV a0), (3, aV 0), (4, iV s2.1)], [(0, .seq tI s2.2)], 1⟩) (fun (r4 : List Int) => (.exit 0, ⟨[(3, aV 0)], [(0, .seq tI r4)], 1⟩)) (Le.re [(0, 0)] [] hX (by kernel_rfl)) hL11 ?_ (fun s2 x5 hx6 hk7 => ?_)
  · refine (qBlockX (qThen ?_))
    refine HT.rg2 (oHs 2) ⟨[(2, aV 0)], [(0, .seq tI r3)], 1⟩ hX (by kernel_rfl) allNil ?_
    have hr := of_some hr
    subst hr
    exact HT.ret ⟨[aV 0], [0], [], by kernel_rfl, by kernel_rfl, rfl, by kernel_rfl, by kernel_rfl, trivial⟩
  · refine HT.seq ?_
    refine HT.rg2 (oHs 4) ⟨[(0, nV a0), (3, aV 0), (4, iV s2.1), (11, bV (decide (s2.1 < (lenI a0))))], [(0, .seq tI s2.2)], 1⟩ hX (by kernel_rfl) allNil ?_
    rcases of_bif hx6 with ⟨hb8, hx6⟩ | ⟨hb8, hx6⟩
    · refine HT.cond1 rfl hb8 ?_
      refine HT.skip (qThen ?_)
      refine HT.seq ?_
      refine HT.block ?_
      obtain ⟨hg9, hx6⟩ := of_guard hx6
      obtain ⟨hg10, hx6⟩ := of_guard hx6
      refine HT.rgL (oHs 8) ⟨[(0, nV a0), (3, aV 0), (4, iV s2.1)], [(0, .seq tI (List.set s2.2 (Int.toNat s2.1) (List.getD a0 (Int.toNat s2.1) (0 : Int))))], 1⟩ hX (by kernel_rfl) (allCons hg9 (allCons hg10 (allCons (natLt hg10) allNil))) (qBlock (qThen ?_))
      have hx6 := of_some hx6
      subst hx6
      exact HT.rgK (oHs 3) [(0, 0)] [] hX (by kernel_rfl) allNil (fun _ h => (qLoopN ⟨((wadd .i64 s2.1 (1 : Int)), (List.set s2.2 (Int.toNat s2.1) (List.getD a0 (Int.toNat s2.1) (0 : Int)))), rfl, h⟩))
    · refine HT.cond0 rfl hb8 ?_
      have hx6 := of_some hx6
      subst hx6
      exact HT.exitL (Le.re [(0, 0)] [] hX (by kernel_rfl)) (qThenE (qLoopE (hk7 s2.2 rfl)))

noncomputable def laws_toInt64SS_B1 (a0 : List (List Int)) (s2 : Int × List (List Int)) : Option ((Int × List (List Int)) ⊕ (List (List Int))) :=
  bif (decide (s2.1 < (lenI a0))) then
    guardP ((0 : Int) ≤ s2.1 ∧ s2.1 < lenI a0) (
      (laws_toInt64S (List.getD a0 (Int.toNat s2.1) ([] : List Int))).bind fun y10 =>
      guardP ((0 : Int) ≤ s2.1 ∧ s2.1 < lenI s2.2) (
        some (.inl ((wadd .i64 s2.1 (1 : Int)), (List.set s2.2 (Int.toNat s2.1) y10)))))
  else
    some (.inr s2.2)

noncomputable def laws_toInt64SS (a0 : List (List Int)) : Option (List (List Int)) :=
  guardP ((0 : Int) ≤ (lenI a0) ∧ (lenI a0) ≤ 4294967296) (
    (rounds (laws_toInt64SS_B1 a0) ((0 : Int), (List.replicate (Int.toNat (lenI a0)) ([] : List Int)))).bind fun r4 =>
    some r4)

theorem f28_ok {a0 : List (List Int)} {r : List (List Int)} (hr : laws_toInt64SS a0 = some r) : CallOK Try.prog 28 [.imm (.sl tLI) a0] [⟨true, (.sl (.own tI)), r⟩] [] := by
  unfold laws_toInt64SS at hr
  refine CallOK.of_body (ts := [(true, (.sl (.own tI)))]) Try.func28 rfl (by kernel_rfl) (Nat.le_of_ble_eq_true (by kernel_rfl)) fun cx hP hN hO hF => ?_
  have hO : cx.own.map Prod.fst = [] := hO
  have hX := CxIs.mk hP hN hO
  have hF := hF rfl
  show HT cx ⟨[(0, .one (.dat (.sl tLI) a0))], [], 0⟩ _ _
  refine HT.rg2 [oH] ⟨[(0, .one (.dat (.sl tLI) a0))], [], 0⟩ hX (by kernel_rfl) allNil ?_
  obtain ⟨hg1, hr⟩ := of_guard hr
  refine HT.rg2 [oH, oH, ⟨none, .ty (.own tI)⟩, oH] ⟨[(0, .one (.dat (.sl tLI) a0)), (3, aV 0)], [(0, .seq (.own tI) (List.replicate (Int.toNat (lenI a0)) ([] : List Int)))], 1⟩ hX (by kernel_rfl) (allCons (show (0 : Int) ≤ (lenI a0) ∧ (lenI a0) ≤ (lenI a0) ∧ (lenI a0) ≤ 4294967296 from ⟨hg1.1, Int.le_refl _, hg1.2⟩) allNil) ?_
  refine HT.seq ?_
  refine HT.rg2 [oH] ⟨[(0, .one (.dat (.sl tLI) a0)), (3, aV 0), (4, iV (0 : Int))], [(0, .seq (.own tI) (List.replicate (Int.toNat (lenI a0)) ([] : List Int)))], 1⟩ hX (by kernel_rfl) allNil ?_
  refine HT.block ?_
  obtain ⟨r3, hL13, hr⟩ := of_bind hr
  refine HT.loopL (fun (s2 : Int × List (List Int)) => ⟨[(0, .one (.dat (.sl tLI) a0)), (3, aV 0), (4, iV s2.1)], [(0, .seq (.own tI) s2.2)], 1⟩) (fun (r4 : List (List Int)) => (.exit 0, ⟨[(3, aV 0)], [(0, .seq (.own tI) r4)], 1⟩)) (Le.re [(0, 0)] [] hX (by kernel_rfl)) hL13 ?_ (fun s2 x5 hx6 hk7 => ?_)
  · refine (qBlockX (qThen ?_))
    refine HT.rg2 (oHs 2) ⟨[(2, aV 0)], [(0, .seq (.own tI) r3)], 1⟩ hX (by kernel_rfl) allNil ?_
    have hr := of_some hr
    subst hr
    exact HT.ret ⟨[aV 0], [0], [], by kernel_rfl, by kernel_rfl, rfl, by kernel_rfl, by kernel_rfl, trivial⟩
  · refine HT.seq ?_
    refine HT.rg2 (oHs 4) ⟨[(0, .one (.dat (.sl tLI) a0)), (3, aV 0), (4, iV s2.1), (11, bV (decide (s2.1 < (lenI a0))))], [(0, .seq (.own tI) s2.2)], 1⟩ hX (by kernel_rfl) allNil ?_
    rcases of_bif hx6 with ⟨hb8, hx6⟩ | ⟨hb8, hx6⟩
    · refine HT.cond1 rfl hb8 ?_
      refine HT.skip (qThen ?_)
      refine HT.seq ?_
      refine HT.block ?_
      obtain ⟨hg9, hx6⟩ := of_guard hx6
      obtain ⟨y10, hc11, hx6⟩ := of_bind hx6
      obtain ⟨hg12, hx6⟩ := of_guard hx6
      refine HT.regC (rs := [oH, oH, oH, oH, oH, oH, ⟨none, .call [.imm tLI] [⟨true, tLI, y10⟩] []⟩, oH, ⟨none, .opn⟩]) ⟨[(21, .one (.elp 0 (Int.toNat s2.1) 1 0)), (20, aV 1), (19, nV (List.getD a0 (Int.toNat s2.1) ([] : List Int))), (18, .one (.ip tLI (List.getD a0 (Int.toNat s2.1) ([] : List Int)) 0)), (17, iV s2.1), (16, .one (.dat (.sl tLI) a0)), (15, iV s2.1), (14, aV 0), (0, .one (.dat (.sl tLI) a0)), (3, aV 0), (4, iV s2.1), (11, bV (decide (s2.1 < (lenI a0))))], [(0, .opn (.own tI) s2.2 (Int.toNat s2.1) [.all 1] [2]), (0, .opn (.own tI) s2.2 (Int.toNat s2.1) [.all 2] [2]), (2, .seq tI (List.getD s2.2 (Int.toNat s2.1) ([] : List Int))), (1, .seq tI y10), (0, .seq (.own tI) s2.2)], 3⟩ hP hN (by kernel_rfl) (allCons hg9 (allCons (f13_ok hc11) (allCons hg12 (allCons (natLt hg12) allNil)))) (Le.close (own := []) 0 (st' := ⟨[(21, .one (.elp 0 (Int.toNat s2.1) 1 0)), (20, aV 1), (19, nV (List.getD a0 (Int.toNat s2.1) ([] : List Int))), (18, .one (.ip tLI (List.getD a0 (Int.toNat s2.1) ([] : List Int)) 0)), (17, iV s2.1), (16, .one (.dat (.sl tLI) a0)), (15, iV s2.1), (14, aV 0), (0, .one (.dat (.sl tLI) a0)), (3, aV 0), (4, iV s2.1), (11, bV (decide (s2.1 < (lenI a0))))], [(0, .seq (.own tI) (List.set s2.2 (Int.toNat s2.1) y10)), (1, .gone), (2, .seq tI (List.getD s2.2 (Int.toNat s2.1) ([] : List Int)))], 3⟩) hO (by kernel_rfl)) (qBlock (qThen ?_))
      have hx6 := of_some hx6
      subst hx6
      exact HT.rgK (oHs 3) [(0, 0)] [] hX (by kernel_rfl) allNil (fun _ h => (qLoopN ⟨((wadd .i64 s2.1 (1 : Int)), (List.set s2.2 (Int.toNat s2.1) y10)), rfl, h⟩))
    · refine HT.cond0 rfl hb8 ?_
      have hx6 := of_some hx6
      subst hx6
      exact HT.exitL (Le.re [(0, 0)] [] hX (by kernel_rfl)) (qThenE (qLoopE (hk7 s2.2 rfl)))

noncomputable def spec_l00In (a0 : Int) (a1 : Int) (a2 : Int) : Option (Bool) :=
  (show Option (Bool) from
    bif (decide (a0 ≥ a1)) then
      some (decide (a0 ≤ a2))
    else
      some false).bind fun v1 =>
  some v1

theorem f52_ok {a0 : Int} {a1 : Int} {a2 : Int} {r : Bool} (hr : spec_l00In a0 a1 a2 = some r) : CallOK Try.prog 52 [.imm tI a0, .imm tI a1, .imm tI a2] [⟨false, .bool, r⟩] [] := by
  unfold spec_l00In at hr
  refine CallOK.of_body (ts := [(false, .bool)]) Try.func52 rfl (by kernel_rfl) (Nat.le_of_ble_eq_true (by kernel_rfl)) fun cx hP hN hO hF => ?_
  have hO : cx.own.map Prod.fst = [] := hO
  have hX := CxIs.mk hP hN hO
  have hF := hF rfl
  show HT cx ⟨[(0, iV a0), (1, iV a1), (2, iV a2)], [], 0⟩ _ _
  refine HT.rg2 [oH] ⟨[(0, iV a0), (1, iV a1), (2, iV a2)], [], 0⟩ hX (by kernel_rfl) allNil ?_
  obtain ⟨v1', hT3, hr⟩ := of_bind hr
  refine HT.join (fun (v1 : Bool) => ⟨[(6, bV v1)], [], 0⟩) (fun v => v = v1') (fun v1 hv2 => ?_) (fun cont => ?_)
  · subst hv2
    have hr := of_some hr
    subst hr
    exact HT.ret ⟨[bV v1], [], [], by kernel_rfl, by kernel_rfl, rfl, by kernel_rfl, by kernel_rfl, trivial⟩
  · rcases of_bif hT3 with ⟨hb4, hT3⟩ | ⟨hb4, hT3⟩
    · exact HT.rgK [oH, oH, oH, oH, ⟨some true, .no⟩, ⟨some true, .no⟩, ⟨some true, .no⟩, ⟨none, .tv true⟩, oH] [] [] hX (by kernel_rfl) (allCons hb4 (allCons hb4 (allCons hb4 (allCons hb4 allNil)))) (fun _ h => (qThen (h.ht (cont (decide (a0 ≤ a2)) (of_some hT3)))))
    · exact HT.rgK [oH, oH, oH, oH, ⟨some false, .no⟩, ⟨some false, .no⟩, ⟨some false, .no⟩, ⟨none, .tv false⟩, oH] [] [] hX (by kernel_rfl) (allCons hb4 (allCons hb4 (allCons hb4 (allCons hb4 allNil)))) (fun _ h => (qThen (h.ht (cont false (of_some hT3)))))

noncomputable def spec_l02Word_B1 (a0 : List Int) (a1 : Int) (s1 : Int) : Option ((Int) ⊕ (Unit ⊕ Unit)) :=
  bif (decide (s1 < (lenI a0))) then
    guardP ((0 : Int) ≤ s1 ∧ s1 < lenI a0) (
      (spec_l00In (List.getD a0 (Int.toNat s1) (0 : Int)) (0 : Int) (wsub .i64 a1 (1 : Int))).bind fun y10 =>
      bif (!y10) then
        some (.inr (.inr ()))
      else
        some (.inl (wadd .i64 s1 (1 : Int))))
  else
    some (.inr (.inl ()))

noncomputable def spec_l02Word (a0 : List Int) (a1 : Int) : Option (Bool) :=
  (rounds (spec_l02Word_B1 a0 a1) (0 : Int)).bind fun r2 => match r2 with
    | .inl r3 =>
      some (decide ((lenI a0) ≤ (12 : Int)))
    | .inr r4 =>
      some false

theorem f77_ok {a0 : List Int} {a1 : Int} {r : Bool} (hr : spec_l02Word a0 a1 = some r) : CallOK Try.prog 77 [.imm tLI a0, .imm tI a1] [⟨false, .bool, r⟩] [] := by
  unfold spec_l02Word at hr
  refine CallOK.of_body (ts := [(false, .bool)]) Try.func77 rfl (by kernel_rfl) (Nat.le_of_ble_eq_true (by kernel_rfl)) fun cx hP hN hO hF => ?_
  have hO : cx.own.map Prod.fst = [] := hO
  have hX := CxIs.mk hP hN hO
  have hF := hF rfl
  show HT cx ⟨[(0, nV a0), (1, iV a1)], [], 0⟩ _ _
  refine HT.rg2 [oH] ⟨[(0, nV a0), (1, iV a1)], [], 0⟩ hX (by kernel_rfl) allNil ?_
  refine HT.seq ?_
  refine HT.rg2 [oH] ⟨[(0, nV a0), (1, iV a1), (5, iV (0 : Int))], [], 0⟩ hX (by kernel_rfl) allNil ?_
  refine HT.block ?_
  obtain ⟨r2, hL13, hr⟩ := of_bind hr
  refine HT.loopL (fun (s1 : Int) => ⟨[(0, nV a0), (1, iV a1), (5, iV s1)], [], 0⟩) (fun (r2 : Unit ⊕ Unit) => match r2 with | .inl r3 => (.exit 0, ⟨[(0, nV a0)], [], 0⟩) | .inr r4 => (.ret, ⟨[(4, bV false)], [], 0⟩)) (Le.re [] [] hX (by kernel_rfl)) hL13 ?_ (fun s1 x5 hx6 hk7 => ?_)
  · rcases r2 with r3 | r4
    · refine (qBlockX (qThen ?_))
      refine HT.rg2 (oHs 4) ⟨[(4, bV (decide ((lenI a0) ≤ (12 : Int))))], [], 0⟩ hX (by kernel_rfl) allNil ?_
      have hr := of_some hr
      subst hr
      exact HT.ret ⟨[bV (decide ((lenI a0) ≤ (12 : Int)))], [], [], by kernel_rfl, by kernel_rfl, rfl, by kernel_rfl, by kernel_rfl, trivial⟩
    · have hr := of_some hr
      subst hr
      exact (qBlockR (qThenR ⟨[bV false], [], [], by kernel_rfl, by kernel_rfl, rfl, by kernel_rfl, by kernel_rfl, trivial⟩))
  · refine HT.seq ?_
    refine HT.rg2 (oHs 4) ⟨[(0, nV a0), (1, iV a1), (5, iV s1), (9, bV (decide (s1 < (lenI a0))))], [], 0⟩ hX (by kernel_rfl) allNil ?_
    rcases of_bif hx6 with ⟨hb8, hx6⟩ | ⟨hb8, hx6⟩
    · refine HT.cond1 rfl hb8 ?_
      refine HT.skip (qThen ?_)
      refine HT.seq ?_
      refine HT.block ?_
      obtain ⟨hg9, hx6⟩ := of_guard hx6
      obtain ⟨y10, hc11, hx6⟩ := of_bind hx6
      refine HT.rg2 [oH, oH, oH, oH, oH, oH, ⟨none, .call [.imm tI, .imm tI, .imm tI] [⟨false, .bool, y10⟩] []⟩, oH] ⟨[(0, nV a0), (1, iV a1), (5, iV s1), (19, bV (!y10))], [], 0⟩ hX (by kernel_rfl) (allCons hg9 (allCons (f52_ok hc11) allNil)) ?_
      rcases of_bif hx6 with ⟨hb12, hx6⟩ | ⟨hb12, hx6⟩
      · refine HT.cond1 rfl hb12 ?_
        refine HT.rg2 [oH] ⟨[(4, bV false)], [], 0⟩ hX (by kernel_rfl) allNil ?_
        have hx6 := of_some hx6
        subst hx6
        exact HT.retL (Le.re [] [] hX (by kernel_rfl)) (qBlockR (qThenR (qLoopR (hk7 (.inr ()) rfl))))
      · refine HT.cond0 rfl hb12 ?_
        refine HT.skip (qBlock (qThen ?_))
        have hx6 := of_some hx6
        subst hx6
        exact HT.rgK (oHs 3) [] [] hX (by kernel_rfl) allNil (fun _ h => (qLoopN ⟨(wadd .i64 s1 (1 : Int)), rfl, h⟩))
    · refine HT.cond0 rfl hb8 ?_
      have hx6 := of_some hx6
      subst hx6
      exact HT.exitL (Le.re [] [] hX (by kernel_rfl)) (qThenE (qLoopE (hk7 (.inl ()) rfl)))

noncomputable def spec_l02Share (a0 : Nat) : Option (Bool) :=
  (show Option (Bool) from
    bif (fge .f32 a0 (0 : Nat)) then
      some (fle .f32 a0 (1065353216 : Nat))
    else
      some false).bind fun v1 =>
  some v1

theorem f126_ok {a0 : Nat} {r : Bool} (hr : spec_l02Share a0 = some r) : CallOK Try.prog 126 [.imm tF a0] [⟨false, .bool, r⟩] [] := by
  unfold spec_l02Share at hr
  refine CallOK.of_body (ts := [(false, .bool)]) Try.func126 rfl (by kernel_rfl) (Nat.le_of_ble_eq_true (by kernel_rfl)) fun cx hP hN hO hF => ?_
  have hO : cx.own.map Prod.fst = [] := hO
  have hX := CxIs.mk hP hN hO
  have hF := hF rfl
  show HT cx ⟨[(0, fV a0)], [], 0⟩ _ _
  refine HT.rg2 [oH] ⟨[(0, fV a0)], [], 0⟩ hX (by kernel_rfl) allNil ?_
  obtain ⟨v1', hT3, hr⟩ := of_bind hr
  refine HT.join (fun (v1 : Bool) => ⟨[(2, bV v1)], [], 0⟩) (fun v => v = v1') (fun v1 hv2 => ?_) (fun cont => ?_)
  · subst hv2
    have hr := of_some hr
    subst hr
    exact HT.ret ⟨[bV v1], [], [], by kernel_rfl, by kernel_rfl, rfl, by kernel_rfl, by kernel_rfl, trivial⟩
  · rcases of_bif hT3 with ⟨hb4, hT3⟩ | ⟨hb4, hT3⟩
    · exact HT.rgK [oH, oH, oH, ⟨some true, .no⟩, ⟨some true, .no⟩, ⟨none, .tv true⟩, oH] [] [] hX (by kernel_rfl) (allCons hb4 (allCons hb4 (allCons hb4 allNil))) (fun _ h => (qThen (h.ht (cont (fle .f32 a0 (1065353216 : Nat)) (of_some hT3)))))
    · exact HT.rgK [oH, oH, oH, ⟨some false, .no⟩, ⟨some false, .no⟩, ⟨none, .tv false⟩, oH] [] [] hX (by kernel_rfl) (allCons hb4 (allCons hb4 (allCons hb4 allNil))) (fun _ h => (qThen (h.ht (cont false (of_some hT3)))))

noncomputable def spec_l03Row_B1 (a0 : List Nat) (s1 : Nat × Int) : Option ((Nat × Int) ⊕ (Nat ⊕ Unit)) :=
  bif (decide (s1.2 < (lenI a0))) then
    guardP ((0 : Int) ≤ s1.2 ∧ s1.2 < lenI a0) (
      (spec_l02Share (List.getD a0 (Int.toNat s1.2) (0 : Nat))).bind fun y14 =>
      bif (!y14) then
        some (.inr (.inr ()))
      else
        some (.inl ((fop .add .f32 s1.1 (List.getD a0 (Int.toNat s1.2) (0 : Nat))), (wadd .i64 s1.2 (1 : Int)))))
  else
    some (.inr (.inl s1.1))

noncomputable def spec_l03Row (a0 : List Nat) : Option (Bool) :=
  (rounds (spec_l03Row_B1 a0) ((0 : Nat), (0 : Int))).bind fun r2 => match r2 with
    | .inl r3 =>
      (show Option (Bool) from
        bif (fle .f32 (fop .sub .f32 r3 (1065353216 : Nat)) (981668463 : Nat)) then
          some (fge .f32 (fop .sub .f32 r3 (1065353216 : Nat)) (3129152111 : Nat))
        else
          some false).bind fun v4 =>
      some v4
    | .inr r8 =>
      some false

theorem f101_ok {a0 : List Nat} {r : Bool} (hr : spec_l03Row a0 = some r) : CallOK Try.prog 101 [.imm tLF a0] [⟨false, .bool, r⟩] [] := by
  unfold spec_l03Row at hr
  refine CallOK.of_body (ts := [(false, .bool)]) Try.func101 rfl (by kernel_rfl) (Nat.le_of_ble_eq_true (by kernel_rfl)) fun cx hP hN hO hF => ?_
  have hO : cx.own.map Prod.fst = [] := hO
  have hX := CxIs.mk hP hN hO
  have hF := hF rfl
  show HT cx ⟨[(0, lV a0)], [], 0⟩ _ _
  refine HT.rg2 [oH] ⟨[(0, lV a0)], [], 0⟩ hX (by kernel_rfl) allNil ?_
  refine HT.rg2 [oH] ⟨[(0, lV a0), (3, fV (0 : Nat))], [], 0⟩ hX (by kernel_rfl) allNil ?_
  refine HT.seq ?_
  refine HT.rg2 (oHs 3) ⟨[(0, lV a0), (3, fV (0 : Nat)), (6, iV (lenI a0)), (7, iV (0 : Int))], [], 0⟩ hX (by kernel_rfl) allNil ?_
  refine HT.block ?_
  obtain ⟨r2, hL17, hr⟩ := of_bind hr
  refine HT.loopL (fun (s1 : Nat × Int) => ⟨[(0, lV a0), (3, fV s1.1), (6, iV (lenI a0)), (7, iV s1.2)], [], 0⟩) (fun (r2 : Nat ⊕ Unit) => match r2 with | .inl r3 => (.exit 0, ⟨[(3, fV r3)], [], 0⟩) | .inr r8 => (.ret, ⟨[(2, bV false)], [], 0⟩)) (Le.re [] [] hX (by kernel_rfl)) hL17 ?_ (fun s1 x9 hx10 hk11 => ?_)
  · rcases r2 with r3 | r8
    · refine (qBlockX (qThen ?_))
      obtain ⟨v4', hT6, hr⟩ := of_bind hr
      refine HT.join (fun (v4 : Bool) => ⟨[(2, bV v4)], [], 0⟩) (fun v => v = v4') (fun v4 hv5 => ?_) (fun cont => ?_)
      · subst hv5
        have hr := of_some hr
        subst hr
        exact HT.ret ⟨[bV v4], [], [], by kernel_rfl, by kernel_rfl, rfl, by kernel_rfl, by kernel_rfl, trivial⟩
      · rcases of_bif hT6 with ⟨hb7, hT6⟩ | ⟨hb7, hT6⟩
        · exact HT.rgK [oH, oH, oH, oH, ⟨some true, .no⟩, ⟨some true, .no⟩, ⟨some true, .no⟩, ⟨none, .tv true⟩, oH] [] [] hX (by kernel_rfl) (allCons hb7 (allCons hb7 (allCons hb7 (allCons hb7 allNil)))) (fun _ h => (qThen (h.ht (cont (fge .f32 (fop .sub .f32 r3 (1065353216 : Nat)) (3129152111 : Nat)) (of_some hT6)))))
        · exact HT.rgK [oH, oH, oH, oH, ⟨some false, .no⟩, ⟨some false, .no⟩, ⟨some false, .no⟩, ⟨none, .tv false⟩, oH] [] [] hX (by kernel_rfl) (allCons hb7 (allCons hb7 (allCons hb7 (allCons hb7 allNil)))) (fun _ h => (qThen (h.ht (cont false (of_some hT6)))))
    · have hr := of_some hr
      subst hr
      exact (qBlockR (qThenR ⟨[bV false], [], [], by kernel_rfl, by kernel_rfl, rfl, by kernel_rfl, by kernel_rfl, trivial⟩))
  · refine HT.rg2 [oH] ⟨[(0, lV a0), (3, fV s1.1), (6, iV (lenI a0)), (7, iV s1.2), (8, bV (decide (s1.2 < (lenI a0))))], [], 0⟩ hX (by kernel_rfl) allNil ?_
    refine HT.seq ?_
    rcases of_bif hx10 with ⟨hb12, hx10⟩ | ⟨hb12, hx10⟩
    · refine HT.cond1 rfl hb12 ?_
      refine HT.skip (qThen ?_)
      refine HT.seq ?_
      refine HT.block ?_
      refine HT.rg2 (oHs 2) ⟨[(0, lV a0), (3, fV s1.1), (4, iV s1.2), (6, iV (lenI a0)), (7, iV s1.2)], [], 0⟩ hX (by kernel_rfl) allNil ?_
      refine HT.seq ?_
      obtain ⟨hg13, hx10⟩ := of_guard hx10
      obtain ⟨y14, hc15, hx10⟩ := of_bind hx10
      refine HT.rg2 [oH, oH, oH, oH, ⟨none, .call [.imm tF] [⟨false, .bool, y14⟩] []⟩, oH] ⟨[(0, lV a0), (3, fV s1.1), (4, iV s1.2), (6, iV (lenI a0)), (7, iV s1.2), (15, bV (!y14))], [], 0⟩ hX (by kernel_rfl) (allCons hg13 (allCons (f126_ok hc15) allNil)) ?_
      rcases of_bif hx10 with ⟨hb16, hx10⟩ | ⟨hb16, hx10⟩
      · refine HT.cond1 rfl hb16 ?_
        refine HT.rg2 [oH] ⟨[(2, bV false)], [], 0⟩ hX (by kernel_rfl) allNil ?_
        have hx10 := of_some hx10
        subst hx10
        exact HT.retL (Le.re [] [] hX (by kernel_rfl)) (qThenR (qBlockR (qThenR (qLoopR (hk11 (.inr ()) rfl)))))
      · refine HT.cond0 rfl hb16 ?_
        refine HT.skip (qThen ?_)
        refine HT.rgL (oHs 7) ⟨[(0, lV a0), (3, fV (fop .add .f32 s1.1 (List.getD a0 (Int.toNat s1.2) (0 : Nat)))), (6, iV (lenI a0)), (7, iV s1.2)], [], 0⟩ hX (by kernel_rfl) (allCons hg13 allNil) (qBlock (qThen ?_))
        have hx10 := of_some hx10
        subst hx10
        exact HT.rgK (oHs 2) [] [] hX (by kernel_rfl) allNil (fun _ h => (qLoopN ⟨((fop .add .f32 s1.1 (List.getD a0 (Int.toNat s1.2) (0 : Nat))), (wadd .i64 s1.2 (1 : Int))), rfl, h⟩))
    · refine HT.cond0 rfl hb12 ?_
      have hx10 := of_some hx10
      subst hx10
      exact HT.exitL (Le.re [] [] hX (by kernel_rfl)) (qThenE (qLoopE (hk11 (.inl s1.1) rfl)))

noncomputable def spec_l03Is_B1 (a0 : Int × Int × List Nat × List Nat × List Nat) (s5 : Int) : Option ((Int) ⊕ (Unit ⊕ Unit)) :=
  bif (decide (s5 < a0.1)) then
    (show Option (Bool) from
      guardP ((0 : Int) ≤ (wmul .i64 s5 a0.1) ∧ (wmul .i64 s5 a0.1) ≤ (wadd .i64 (wmul .i64 s5 a0.1) a0.1) ∧ (wadd .i64 (wmul .i64 s5 a0.1) a0.1) ≤ lenI a0.2.2.2.1) (
        (spec_l03Row (cut a0.2.2.2.1 (wmul .i64 s5 a0.1) (wadd .i64 (wmul .i64 s5 a0.1) a0.1))).bind fun y18 =>
        bif (!y18) then
          some true
        else
          guardP ((0 : Int) ≤ (wmul .i64 s5 a0.2.1) ∧ (wmul .i64 s5 a0.2.1) ≤ (wadd .i64 (wmul .i64 s5 a0.2.1) a0.2.1) ∧ (wadd .i64 (wmul .i64 s5 a0.2.1) a0.2.1) ≤ lenI a0.2.2.2.2) (
            (spec_l03Row (cut a0.2.2.2.2 (wmul .i64 s5 a0.2.1) (wadd .i64 (wmul .i64 s5 a0.2.1) a0.2.1))).bind fun y22 =>
            some (!y22)))).bind fun v13 =>
    bif v13 then
      some (.inr (.inr ()))
    else
      some (.inl (wadd .i64 s5 (1 : Int)))
  else
    some (.inr (.inl ()))

noncomputable def spec_l03Is (a0 : Int × Int × List Nat × List Nat × List Nat) : Option (Bool) :=
  (show Option (Bool) from
    (spec_l00In a0.1 (1 : Int) (5 : Int)).bind fun y25 =>
    bif (!y25) then
      some true
    else
      (spec_l00In a0.2.1 (1 : Int) (4 : Int)).bind fun y28 =>
      bif (!y28) then
        some true
      else
        bif ((lenI a0.2.2.1) != a0.1) then
          some true
        else
          bif ((lenI a0.2.2.2.1) != (wmul .i64 a0.1 a0.1)) then
            some true
          else
            bif ((lenI a0.2.2.2.2) != (wmul .i64 a0.1 a0.2.1)) then
              some true
            else
              (spec_l03Row a0.2.2.1).bind fun y34 =>
              some (!y34)).bind fun v1 =>
  bif v1 then
    some false
  else
    (rounds (spec_l03Is_B1 a0) (0 : Int)).bind fun r6 => match r6 with
      | .inl r7 =>
        some true
      | .inr r8 =>
        some false

theorem f76_ok {a0 : Int × Int × List Nat × List Nat × List Nat} {r : Bool} (hr : spec_l03Is a0 = some r) : CallOK Try.prog 76 [.pimm (.st (.pair tI (.pair tI (.pair tLF (.pair tLF tLF))))) a0] [⟨false, .bool, r⟩] [] := by
  unfold spec_l03Is at hr
  refine CallOK.of_body (ts := [(false, .bool)]) Try.func76 rfl (by kernel_rfl) (Nat.le_of_ble_eq_true (by kernel_rfl)) fun cx hP hN hO hF => ?_
  have hO : cx.own.map Prod.fst = [] := hO
  have hX := CxIs.mk hP hN hO
  have hF := hF rfl
  show HT cx ⟨[(0, .one (.ip (.st (.pair tI (.pair tI (.pair tLF (.pair tLF tLF))))) a0 0))], [], 0⟩ _ _
  refine HT.rg2 [oH] ⟨[(0, .one (.ip (.st (.pair tI (.pair tI (.pair tLF (.pair tLF tLF))))) a0 0))], [], 0⟩ hX (by kernel_rfl) allNil ?_
  refine HT.rg2 (oHs 5) ⟨[(0, .one (.ip (.st (.pair tI (.pair tI (.pair tLF (.pair tLF tLF))))) a0 0)), (3, iV a0.1)], [], 0⟩ hX (by kernel_rfl) allNil ?_
  refine HT.rg2 (oHs 5) ⟨[(0, .one (.ip (.st (.pair tI (.pair tI (.pair tLF (.pair tLF tLF))))) a0 0)), (3, iV a0.1), (4, iV a0.2.1)], [], 0⟩ hX (by kernel_rfl) allNil ?_
  refine HT.seq ?_
  obtain ⟨v1', hT3, hr⟩ := of_bind hr
  refine HT.join (fun (v1 : Bool) => ⟨[(0, .one (.ip (.st (.pair tI (.pair tI (.pair tLF (.pair tLF tLF))))) a0 0)), (3, iV a0.1), (4, iV a0.2.1), (60, bV v1)], [], 0⟩) (fun v => v = v1') (fun v1 hv2 => ?_) (fun cont => ?_)
  · subst hv2
    rcases of_bif hr with ⟨hb4, hr⟩ | ⟨hb4, hr⟩
    · refine HT.cond1 rfl hb4 ?_
      refine HT.rg2 [oH] ⟨[(2, bV false)], [], 0⟩ hX (by kernel_rfl) allNil ?_
      have hr := of_some hr
      subst hr
      exact HT.ret (qThenR ⟨[bV false], [], [], by kernel_rfl, by kernel_rfl, rfl, by kernel_rfl, by kernel_rfl, trivial⟩)
    · refine HT.cond0 rfl hb4 ?_
      refine HT.skip (qThen ?_)
      refine HT.seq ?_
      refine HT.rg2 [oH] ⟨[(0, .one (.ip (.st (.pair tI (.pair tI (.pair tLF (.pair tLF tLF))))) a0 0)), (3, iV a0.1), (4, iV a0.2.1), (5, iV (0 : Int))], [], 0⟩ hX (by kernel_rfl) allNil ?_
      refine HT.block ?_
      obtain ⟨r6, hL24, hr⟩ := of_bind hr
      refine HT.loopL (fun (s5 : Int) => ⟨[(0, .one (.ip (.st (.pair tI (.pair tI (.pair tLF (.pair tLF tLF))))) a0 0)), (3, iV a0.1), (4, iV a0.2.1), (5, iV s5)], [], 0⟩) (fun (r6 : Unit ⊕ Unit) => match r6 with | .inl r7 => (.exit 0, ⟨[], [], 0⟩) | .inr r8 => (.ret, ⟨[(2, bV false)], [], 0⟩)) (Le.re [] [] hX (by kernel_rfl)) hL24 ?_ (fun s5 x9 hx10 hk11 => ?_)
      · rcases r6 with r7 | r8
        · refine (qBlockX (qThen ?_))
          refine HT.rg2 [oH] ⟨[(2, bV true)], [], 0⟩ hX (by kernel_rfl) allNil ?_
          have hr := of_some hr
          subst hr
          exact HT.ret ⟨[bV true], [], [], by kernel_rfl, by kernel_rfl, rfl, by kernel_rfl, by kernel_rfl, trivial⟩
        · have hr := of_some hr
          subst hr
          exact (qBlockR (qThenR ⟨[bV false], [], [], by kernel_rfl, by kernel_rfl, rfl, by kernel_rfl, by kernel_rfl, trivial⟩))
      · refine HT.seq ?_
        refine HT.rg2 (oHs 3) ⟨[(0, .one (.ip (.st (.pair tI (.pair tI (.pair tLF (.pair tLF tLF))))) a0 0)), (3, iV a0.1), (4, iV a0.2.1), (5, iV s5), (63, bV (decide (s5 < a0.1)))], [], 0⟩ hX (by kernel_rfl) allNil ?_
        rcases of_bif hx10 with ⟨hb12, hx10⟩ | ⟨hb12, hx10⟩
        · refine HT.cond1 rfl hb12 ?_
          refine HT.skip (qThen ?_)
          refine HT.seq ?_
          refine HT.block ?_
          obtain ⟨v13', hT15, hx10⟩ := of_bind hx10
          refine HT.join (fun (v13 : Bool) => ⟨[(0, .one (.ip (.st (.pair tI (.pair tI (.pair tLF (.pair tLF tLF))))) a0 0)), (3, iV a0.1), (4, iV a0.2.1), (5, iV s5), (97, bV v13)], [], 0⟩) (fun v => v = v13') (fun v13 hv14 => ?_) (fun cont => ?_)
          · subst hv14
            rcases of_bif hx10 with ⟨hb16, hx10⟩ | ⟨hb16, hx10⟩
            · refine HT.cond1 rfl hb16 ?_
              refine HT.rg2 [oH] ⟨[(2, bV false)], [], 0⟩ hX (by kernel_rfl) allNil ?_
              have hx10 := of_some hx10
              subst hx10
              exact HT.retL (Le.re [] [] hX (by kernel_rfl)) (qBlockR (qThenR (qLoopR (hk11 (.inr ()) rfl))))
            · refine HT.cond0 rfl hb16 ?_
              refine HT.skip (qBlock (qThen ?_))
              have hx10 := of_some hx10
              subst hx10
              exact HT.rgK (oHs 3) [] [] hX (by kernel_rfl) allNil (fun _ h => (qLoopN ⟨(wadd .i64 s5 (1 : Int)), rfl, h⟩))
          · obtain ⟨hg17, hT15⟩ := of_guard hT15
            obtain ⟨y18, hc19, hT15⟩ := of_bind hT15
            rcases of_bif hT15 with ⟨hb20, hT15⟩ | ⟨hb20, hT15⟩
            · exact HT.rgK [oH, oH, oH, oH, oH, oH, oH, oH, oH, oH, oH, oH, oH, ⟨none, .call [.imm tLF] [⟨false, .bool, y18⟩] []⟩, oH, oH, ⟨some true, .no⟩, ⟨some true, .no⟩, ⟨some true, .no⟩, ⟨some true, .no⟩, ⟨some true, .no⟩, ⟨some true, .no⟩, ⟨some true, .no⟩, ⟨some true, .no⟩, ⟨some true, .no⟩, ⟨some true, .no⟩, ⟨some true, .no⟩, ⟨some true, .no⟩, ⟨some true, .no⟩, ⟨some true, .no⟩, ⟨some true, .no⟩, ⟨none, .tv true⟩] [] [] hX (by kernel_rfl) (allCons hg17 (allCons (f101_ok hc19) (allCons hb20 (allCons hb20 (allCons hb20 (allCons hb20 (allCons hb20 (allCons hb20 (allCons hb20 (allCons hb20 (allCons hb20 (allCons hb20 (allCons hb20 (allCons hb20 (allCons hb20 (allCons hb20 (allCons hb20 (allCons hb20 allNil)))))))))))))))))) (fun _ h => (qThen (h.ht (cont true (of_some hT15)))))
            · obtain ⟨hg21, hT15⟩ := of_guard hT15
              obtain ⟨y22, hc23, hT15⟩ := of_bind hT15
              exact HT.rgK [oH, oH, oH, oH, oH, oH, oH, oH, oH, oH, oH, oH, oH, ⟨none, .call [.imm tLF] [⟨false, .bool, y18⟩] []⟩, oH, oH, ⟨some false, .no⟩, ⟨some false, .no⟩, ⟨some false, .no⟩, ⟨some false, .no⟩, ⟨some false, .no⟩, ⟨some false, .no⟩, ⟨some false, .no⟩, ⟨some false, .no⟩, ⟨some false, .no⟩, ⟨some false, .no⟩, ⟨some false, .no⟩, ⟨some false, .no⟩, ⟨some false, .no⟩, ⟨some false, .call [.imm tLF] [⟨false, .bool, y22⟩] []⟩, ⟨some false, .no⟩, ⟨none, .tv false⟩] [] [] hX (by kernel_rfl) (allCons hg17 (allCons (f101_ok hc19) (allCons hb20 (allCons hb20 (allCons hb20 (allCons hb20 (allCons hb20 (allCons hb20 (allCons hb20 (allCons hb20 (allCons hb20 (allCons hb20 (allCons hb20 (allCons hb20 (allCons hb20 (allCons hg21 (allCons hb20 (allCons (f101_ok hc23) (allCons hb20 (allCons hb20 allNil)))))))))))))))))))) (fun _ h => (qThen (h.ht (cont (!y22) (of_some hT15)))))
        · refine HT.cond0 rfl hb12 ?_
          have hx10 := of_some hx10
          subst hx10
          exact HT.exitL (Le.re [] [] hX (by kernel_rfl)) (qThenE (qLoopE (hk11 (.inl ()) rfl)))
  · obtain ⟨y25, hc26, hT3⟩ := of_bind hT3
    rcases of_bif hT3 with ⟨hb27, hT3⟩ | ⟨hb27, hT3⟩
    · exact HT.rgK [oH, ⟨none, .call [.imm tI, .imm tI, .imm tI] [⟨false, .bool, y25⟩] []⟩, oH, oH, ⟨some true, .no⟩, ⟨some true, .no⟩, ⟨some true, .no⟩, ⟨none, .tv true⟩, oH, ⟨some true, .no⟩, ⟨some true, .no⟩, ⟨some true, .no⟩, ⟨some true, .no⟩, ⟨some true, .no⟩, ⟨some true, .no⟩, ⟨some true, .no⟩, ⟨none, .tv true⟩, oH, ⟨some true, .no⟩, ⟨some true, .no⟩, ⟨some true, .no⟩, ⟨some true, .no⟩, ⟨some true, .no⟩, ⟨some true, .no⟩, ⟨some true, .no⟩, ⟨some true, .no⟩, ⟨some true, .no⟩, ⟨none, .tv true⟩, oH, ⟨some true, .no⟩, ⟨some true, .no⟩, ⟨some true, .no⟩, ⟨some true, .no⟩, ⟨some true, .no⟩, ⟨some true, .no⟩, ⟨some true, .no⟩, ⟨some true, .no⟩, ⟨some true, .no⟩, ⟨none, .tv true⟩, oH, ⟨some true, .no⟩, ⟨some true, .no⟩, ⟨some true, .no⟩, ⟨some true, .no⟩, ⟨some true, .no⟩, ⟨some true, .no⟩, ⟨none, .tv true⟩] [] [] hX (by kernel_rfl) (allCons (f52_ok hc26) (allCons hb27 (allCons hb27 (allCons hb27 (allCons hb27 (allCons (rfl : true = true) (allCons (rfl : true = true) (allCons (rfl : true = true) (allCons (rfl : true = true) (allCons (rfl : true = true) (allCons (rfl : true = true) (allCons (rfl : true = true) (allCons (rfl : true = true) (allCons (rfl : true = true) (allCons (rfl : true = true) (allCons (rfl : true = true) (allCons (rfl : true = true) (allCons (rfl : true = true) (allCons (rfl : true = true) (allCons (rfl : true = true) (allCons (rfl : true = true) (allCons (rfl : true = true) (allCons (rfl : true = true) (allCons (rfl : true = true) (allCons (rfl : true = true) (allCons (rfl : true = true) (allCons (rfl : true = true) (allCons (rfl : true = true) (allCons (rfl : true = true) (allCons (rfl : true = true) (allCons (rfl : true = true) (allCons (rfl : true = true) (allCons (rfl : true = true) (allCons (rfl : true = true) (allCons (rfl : true = true) (allCons (rfl : true = true) (allCons (rfl : true = true) (allCons (rfl : true = true) (allCons (rfl : true = true) (allCons (rfl : true = true) allNil)))))))))))))))))))))))))))))))))))))))) (fun _ h => (qThen (h.ht (cont true (of_some hT3)))))
    · obtain ⟨y28, hc29, hT3⟩ := of_bind hT3
      rcases of_bif hT3 with ⟨hb30, hT3⟩ | ⟨hb30, hT3⟩
      · exact HT.rgK [oH, ⟨none, .call [.imm tI, .imm tI, .imm tI] [⟨false, .bool, y25⟩] []⟩, oH, oH, ⟨some false, .no⟩, ⟨some false, .call [.imm tI, .imm tI, .imm tI] [⟨false, .bool, y28⟩] []⟩, ⟨some false, .no⟩, ⟨none, .tv false⟩, oH, ⟨some true, .no⟩, ⟨some true, .no⟩, ⟨some true, .no⟩, ⟨some true, .no⟩, ⟨some true, .no⟩, ⟨some true, .no⟩, ⟨some true, .no⟩, ⟨none, .tv true⟩, oH, ⟨some true, .no⟩, ⟨some true, .no⟩, ⟨some true, .no⟩, ⟨some true, .no⟩, ⟨some true, .no⟩, ⟨some true, .no⟩, ⟨some true, .no⟩, ⟨some true, .no⟩, ⟨some true, .no⟩, ⟨none, .tv true⟩, oH, ⟨some true, .no⟩, ⟨some true, .no⟩, ⟨some true, .no⟩, ⟨some true, .no⟩, ⟨some true, .no⟩, ⟨some true, .no⟩, ⟨some true, .no⟩, ⟨some true, .no⟩, ⟨some true, .no⟩, ⟨none, .tv true⟩, oH, ⟨some true, .no⟩, ⟨some true, .no⟩, ⟨some true, .no⟩, ⟨some true, .no⟩, ⟨some true, .no⟩, ⟨some true, .no⟩, ⟨none, .tv true⟩] [] [] hX (by kernel_rfl) (allCons (f52_ok hc26) (allCons hb27 (allCons hb27 (allCons (f52_ok hc29) (allCons hb27 (allCons hb27 (allCons hb30 (allCons hb30 (allCons hb30 (allCons hb30 (allCons hb30 (allCons hb30 (allCons hb30 (allCons hb30 (allCons (rfl : true = true) (allCons (rfl : true = true) (allCons (rfl : true = true) (allCons (rfl : true = true) (allCons (rfl : true = true) (allCons (rfl : true = true) (allCons (rfl : true = true) (allCons (rfl : true = true) (allCons (rfl : true = true) (allCons (rfl : true = true) (allCons (rfl : true = true) (allCons (rfl : true = true) (allCons (rfl : true = true) (allCons (rfl : true = true) (allCons (rfl : true = true) (allCons (rfl : true = true) (allCons (rfl : true = true) (allCons (rfl : true = true) (allCons (rfl : true = true) (allCons (rfl : true = true) (allCons (rfl : true = true) (allCons (rfl : true = true) (allCons (rfl : true = true) (allCons (rfl : true = true) (allCons (rfl : true = true) (allCons (rfl : true = true) (allCons (rfl : true = true) allNil))))))))))))))))))))))))))))))))))))))))) (fun _ h => (qThen (h.ht (cont true (of_some hT3)))))
      · rcases of_bif hT3 with ⟨hb31, hT3⟩ | ⟨hb31, hT3⟩
        · exact HT.rgK [oH, ⟨none, .call [.imm tI, .imm tI, .imm tI] [⟨false, .bool, y25⟩] []⟩, oH, oH, ⟨some false, .no⟩, ⟨some false, .call [.imm tI, .imm tI, .imm tI] [⟨false, .bool, y28⟩] []⟩, ⟨some false, .no⟩, ⟨none, .tv false⟩, oH, ⟨some false, .no⟩, ⟨some false, .no⟩, ⟨some false, .no⟩, ⟨some false, .no⟩, ⟨some false, .no⟩, ⟨some false, .no⟩, ⟨some false, .no⟩, ⟨none, .tv false⟩, oH, ⟨some true, .no⟩, ⟨some true, .no⟩, ⟨some true, .no⟩, ⟨some true, .no⟩, ⟨some true, .no⟩, ⟨some true, .no⟩, ⟨some true, .no⟩, ⟨some true, .no⟩, ⟨some true, .no⟩, ⟨none, .tv true⟩, oH, ⟨some true, .no⟩, ⟨some true, .no⟩, ⟨some true, .no⟩, ⟨some true, .no⟩, ⟨some true, .no⟩, ⟨some true, .no⟩, ⟨some true, .no⟩, ⟨some true, .no⟩, ⟨some true, .no⟩, ⟨none, .tv true⟩, oH, ⟨some true, .no⟩, ⟨some true, .no⟩, ⟨some true, .no⟩, ⟨some true, .no⟩, ⟨some true, .no⟩, ⟨some true, .no⟩, ⟨none, .tv true⟩] [] [] hX (by kernel_rfl) (allCons (f52_ok hc26) (allCons hb27 (allCons hb27 (allCons (f52_ok hc29) (allCons hb27 (allCons hb27 (allCons hb30 (allCons hb30 (allCons hb30 (allCons hb30 (allCons hb30 (allCons hb30 (allCons hb30 (allCons hb30 (allCons hb31 (allCons hb31 (allCons hb31 (allCons hb31 (allCons hb31 (allCons hb31 (allCons hb31 (allCons hb31 (allCons hb31 (allCons hb31 (allCons (rfl : true = true) (allCons (rfl : true = true) (allCons (rfl : true = true) (allCons (rfl : true = true) (allCons (rfl : true = true) (allCons (rfl : true = true) (allCons (rfl : true = true) (allCons (rfl : true = true) (allCons (rfl : true = true) (allCons (rfl : true = true) (allCons (rfl : true = true) (allCons (rfl : true = true) (allCons (rfl : true = true) (allCons (rfl : true = true) (allCons (rfl : true = true) (allCons (rfl : true = true) (allCons (rfl : true = true) allNil))))))))))))))))))))))))))))))))))))))))) (fun _ h => (qThen (h.ht (cont true (of_some hT3)))))
        · rcases of_bif hT3 with ⟨hb32, hT3⟩ | ⟨hb32, hT3⟩
          · exact HT.rgK [oH, ⟨none, .call [.imm tI, .imm tI, .imm tI] [⟨false, .bool, y25⟩] []⟩, oH, oH, ⟨some false, .no⟩, ⟨some false, .call [.imm tI, .imm tI, .imm tI] [⟨false, .bool, y28⟩] []⟩, ⟨some false, .no⟩, ⟨none, .tv false⟩, oH, ⟨some false, .no⟩, ⟨some false, .no⟩, ⟨some false, .no⟩, ⟨some false, .no⟩, ⟨some false, .no⟩, ⟨some false, .no⟩, ⟨some false, .no⟩, ⟨none, .tv false⟩, oH, ⟨some false, .no⟩, ⟨some false, .no⟩, ⟨some false, .no⟩, ⟨some false, .no⟩, ⟨some false, .no⟩, ⟨some false, .no⟩, ⟨some false, .no⟩, ⟨some false, .no⟩, ⟨some false, .no⟩, ⟨none, .tv false⟩, oH, ⟨some true, .no⟩, ⟨some true, .no⟩, ⟨some true, .no⟩, ⟨some true, .no⟩, ⟨some true, .no⟩, ⟨some true, .no⟩, ⟨some true, .no⟩, ⟨some true, .no⟩, ⟨some true, .no⟩, ⟨none, .tv true⟩, oH, ⟨some true, .no⟩, ⟨some true, .no⟩, ⟨some true, .no⟩, ⟨some true, .no⟩, ⟨some true, .no⟩, ⟨some true, .no⟩, ⟨none, .tv true⟩] [] [] hX (by kernel_rfl) (allCons (f52_ok hc26) (allCons hb27 (allCons hb27 (allCons (f52_ok hc29) (allCons hb27 (allCons hb27 (allCons hb30 (allCons hb30 (allCons hb30 (allCons hb30 (allCons hb30 (allCons hb30 (allCons hb30 (allCons hb30 (allCons hb31 (allCons hb31 (allCons hb31 (allCons hb31 (allCons hb31 (allCons hb31 (allCons hb31 (allCons hb31 (allCons hb31 (allCons hb31 (allCons hb32 (allCons hb32 (allCons hb32 (allCons hb32 (allCons hb32 (allCons hb32 (allCons hb32 (allCons hb32 (allCons hb32 (allCons hb32 (allCons (rfl : true = true) (allCons (rfl : true = true) (allCons (rfl : true = true) (allCons (rfl : true = true) (allCons (rfl : true = true) (allCons (rfl : true = true) (allCons (rfl : true = true) allNil))))))))))))))))))))))))))))))))))))))))) (fun _ h => (qThen (h.ht (cont true (of_some hT3)))))
          · rcases of_bif hT3 with ⟨hb33, hT3⟩ | ⟨hb33, hT3⟩
            · exact HT.rgK [oH, ⟨none, .call [.imm tI, .imm tI, .imm tI] [⟨false, .bool, y25⟩] []⟩, oH, oH, ⟨some false, .no⟩, ⟨some false, .call [.imm tI, .imm tI, .imm tI] [⟨false, .bool, y28⟩] []⟩, ⟨some false, .no⟩, ⟨none, .tv false⟩, oH, ⟨some false, .no⟩, ⟨some false, .no⟩, ⟨some false, .no⟩, ⟨some false, .no⟩, ⟨some false, .no⟩, ⟨some false, .no⟩, ⟨some false, .no⟩, ⟨none, .tv false⟩, oH, ⟨some false, .no⟩, ⟨some false, .no⟩, ⟨some false, .no⟩, ⟨some false, .no⟩, ⟨some false, .no⟩, ⟨some false, .no⟩, ⟨some false, .no⟩, ⟨some false, .no⟩, ⟨some false, .no⟩, ⟨none, .tv false⟩, oH, ⟨some false, .no⟩, ⟨some false, .no⟩, ⟨some false, .no⟩, ⟨some false, .no⟩, ⟨some false, .no⟩, ⟨some false, .no⟩, ⟨some false, .no⟩, ⟨some false, .no⟩, ⟨some false, .no⟩, ⟨none, .tv false⟩, oH, ⟨some true, .no⟩, ⟨some true, .no⟩, ⟨some true, .no⟩, ⟨some true, .no⟩, ⟨some true, .no⟩, ⟨some true, .no⟩, ⟨none, .tv true⟩] [] [] hX (by kernel_rfl) (allCons (f52_ok hc26) (allCons hb27 (allCons hb27 (allCons (f52_ok hc29) (allCons hb27 (allCons hb27 (allCons hb30 (allCons hb30 (allCons hb30 (allCons hb30 (allCons hb30 (allCons hb30 (allCons hb30 (allCons hb30 (allCons hb31 (allCons hb31 (allCons hb31 (allCons hb31 (allCons hb31 (allCons hb31 (allCons hb31 (allCons hb31 (allCons hb31 (allCons hb31 (allCons hb32 (allCons hb32 (allCons hb32 (allCons hb32 (allCons hb32 (allCons hb32 (allCons hb32 (allCons hb32 (allCons hb32 (allCons hb32 (allCons hb33 (allCons hb33 (allCons hb33 (allCons hb33 (allCons hb33 (allCons hb33 (allCons hb33 allNil))))))))))))))))))))))))))))))))))))))))) (fun _ h => (qThen (h.ht (cont true (of_some hT3)))))
            · obtain ⟨y34, hc35, hT3⟩ := of_bind hT3
              exact HT.rgK [oH, ⟨none, .call [.imm tI, .imm tI, .imm tI] [⟨false, .bool, y25⟩] []⟩, oH, oH, ⟨some false, .no⟩, ⟨some false, .call [.imm tI, .imm tI, .imm tI] [⟨false, .bool, y28⟩] []⟩, ⟨some false, .no⟩, ⟨none, .tv false⟩, oH, ⟨some false, .no⟩, ⟨some false, .no⟩, ⟨some false, .no⟩, ⟨some false, .no⟩, ⟨some false, .no⟩, ⟨some false, .no⟩, ⟨some false, .no⟩, ⟨none, .tv false⟩, oH, ⟨some false, .no⟩, ⟨some false, .no⟩, ⟨some false, .no⟩, ⟨some false, .no⟩, ⟨some false, .no⟩, ⟨some false, .no⟩, ⟨some false, .no⟩, ⟨some false, .no⟩, ⟨some false, .no⟩, ⟨none, .tv false⟩, oH, ⟨some false, .no⟩, ⟨some false, .no⟩, ⟨some false, .no⟩, ⟨some false, .no⟩, ⟨some false, .no⟩, ⟨some false, .no⟩, ⟨some false, .no⟩, ⟨some false, .no⟩, ⟨some false, .no⟩, ⟨none, .tv false⟩, oH, ⟨some false, .no⟩, ⟨some false, .no⟩, ⟨some false, .no⟩, ⟨some false, .no⟩, ⟨some false, .call [.imm tLF] [⟨false, .bool, y34⟩] []⟩, ⟨some false, .no⟩, ⟨none, .tv false⟩] [] [] hX (by kernel_rfl) (allCons (f52_ok hc26) (allCons hb27 (allCons hb27 (allCons (f52_ok hc29) (allCons hb27 (allCons hb27 (allCons hb30 (allCons hb30 (allCons hb30 (allCons hb30 (allCons hb30 (allCons hb30 (allCons hb30 (allCons hb30 (allCons hb31 (allCons hb31 (allCons hb31 (allCons hb31 (allCons hb31 (allCons hb31 (allCons hb31 (allCons hb31 (allCons hb31 (allCons hb31 (allCons hb32 (allCons hb32 (allCons hb32 (allCons hb32 (allCons hb32 (allCons hb32 (allCons hb32 (allCons hb32 (allCons hb32 (allCons hb32 (allCons hb33 (allCons hb33 (allCons hb33 (allCons hb33 (allCons hb33 (allCons (f101_ok hc35) (allCons hb33 (allCons hb33 allNil)))))))))))))))))))))))))))))))))))))))))) (fun _ h => (qThen (h.ht (cont (!y34) (of_some hT3)))))

noncomputable def spec_l03Words_B1 (a0 : Int × Int × List Nat × List Nat × List Nat) (a1 : List (List Int)) (s5 : Int) : Option ((Int) ⊕ (Unit ⊕ Unit)) :=
  bif (decide (s5 < (lenI a1))) then
    guardP ((0 : Int) ≤ s5 ∧ s5 < lenI a1) (
      (spec_l02Word (List.getD a1 (Int.toNat s5) ([] : List Int)) a0.2.1).bind fun y14 =>
      bif (!y14) then
        some (.inr (.inr ()))
      else
        some (.inl (wadd .i64 s5 (1 : Int))))
  else
    some (.inr (.inl ()))

noncomputable def spec_l03Words (a0 : Int × Int × List Nat × List Nat × List Nat) (a1 : List (List Int)) : Option (Bool) :=
  (show Option (Bool) from
    (spec_l03Is (a0.1, a0.2.1, a0.2.2.1, a0.2.2.2.1, a0.2.2.2.2)).bind fun y18 =>
    bif (!y18) then
      some true
    else
      bif (decide ((lenI a1) < (1 : Int))) then
        some true
      else
        some (decide ((lenI a1) > (16 : Int)))).bind fun v1 =>
  bif v1 then
    some false
  else
    (rounds (spec_l03Words_B1 a0 a1) (0 : Int)).bind fun r6 => match r6 with
      | .inl r7 =>
        some true
      | .inr r8 =>
        some false

theorem f60_ok {a0 : Int × Int × List Nat × List Nat × List Nat} {a1 : List (List Int)} {r : Bool} (hr : spec_l03Words a0 a1 = some r) : CallOK Try.prog 60 [.pimm (.st (.pair tI (.pair tI (.pair tLF (.pair tLF tLF))))) a0, .imm (.sl tLI) a1] [⟨false, .bool, r⟩] [] := by
  unfold spec_l03Words at hr
  refine CallOK.of_body (ts := [(false, .bool)]) Try.func60 rfl (by kernel_rfl) (Nat.le_of_ble_eq_true (by kernel_rfl)) fun cx hP hN hO hF => ?_
  have hO : cx.own.map Prod.fst = [] := hO
  have hX := CxIs.mk hP hN hO
  have hF := hF rfl
  show HT cx ⟨[(0, .one (.ip (.st (.pair tI (.pair tI (.pair tLF (.pair tLF tLF))))) a0 0)), (1, .one (.dat (.sl tLI) a1))], [], 0⟩ _ _
  refine HT.rg2 [oH] ⟨[(0, .one (.ip (.st (.pair tI (.pair tI (.pair tLF (.pair tLF tLF))))) a0 0)), (1, .one (.dat (.sl tLI) a1))], [], 0⟩ hX (by kernel_rfl) allNil ?_
  refine HT.seq ?_
  obtain ⟨v1', hT3, hr⟩ := of_bind hr
  refine HT.join (fun (v1 : Bool) => ⟨[(0, .one (.ip (.st (.pair tI (.pair tI (.pair tLF (.pair tLF tLF))))) a0 0)), (1, .one (.dat (.sl tLI) a1)), (18, bV v1)], [], 0⟩) (fun v => v = v1') (fun v1 hv2 => ?_) (fun cont => ?_)
  · subst hv2
    rcases of_bif hr with ⟨hb4, hr⟩ | ⟨hb4, hr⟩
    · refine HT.cond1 rfl hb4 ?_
      refine HT.rg2 [oH] ⟨[(4, bV false)], [], 0⟩ hX (by kernel_rfl) allNil ?_
      have hr := of_some hr
      subst hr
      exact HT.ret (qThenR ⟨[bV false], [], [], by kernel_rfl, by kernel_rfl, rfl, by kernel_rfl, by kernel_rfl, trivial⟩)
    · refine HT.cond0 rfl hb4 ?_
      refine HT.skip (qThen ?_)
      refine HT.seq ?_
      refine HT.rg2 (oHs 3) ⟨[(0, .one (.ip (.st (.pair tI (.pair tI (.pair tLF (.pair tLF tLF))))) a0 0)), (1, .one (.dat (.sl tLI) a1)), (20, iV (lenI a1)), (21, iV (0 : Int))], [], 0⟩ hX (by kernel_rfl) allNil ?_
      refine HT.block ?_
      obtain ⟨r6, hL17, hr⟩ := of_bind hr
      refine HT.loopL (fun (s5 : Int) => ⟨[(0, .one (.ip (.st (.pair tI (.pair tI (.pair tLF (.pair tLF tLF))))) a0 0)), (1, .one (.dat (.sl tLI) a1)), (20, iV (lenI a1)), (21, iV s5)], [], 0⟩) (fun (r6 : Unit ⊕ Unit) => match r6 with | .inl r7 => (.exit 0, ⟨[], [], 0⟩) | .inr r8 => (.ret, ⟨[(4, bV false)], [], 0⟩)) (Le.re [] [] hX (by kernel_rfl)) hL17 ?_ (fun s5 x9 hx10 hk11 => ?_)
      · rcases r6 with r7 | r8
        · refine (qBlockX (qThen ?_))
          refine HT.rg2 [oH] ⟨[(4, bV true)], [], 0⟩ hX (by kernel_rfl) allNil ?_
          have hr := of_some hr
          subst hr
          exact HT.ret ⟨[bV true], [], [], by kernel_rfl, by kernel_rfl, rfl, by kernel_rfl, by kernel_rfl, trivial⟩
        · have hr := of_some hr
          subst hr
          exact (qBlockR (qThenR ⟨[bV false], [], [], by kernel_rfl, by kernel_rfl, rfl, by kernel_rfl, by kernel_rfl, trivial⟩))
      · refine HT.rg2 [oH] ⟨[(0, .one (.ip (.st (.pair tI (.pair tI (.pair tLF (.pair tLF tLF))))) a0 0)), (1, .one (.dat (.sl tLI) a1)), (20, iV (lenI a1)), (21, iV s5), (22, bV (decide (s5 < (lenI a1))))], [], 0⟩ hX (by kernel_rfl) allNil ?_
        refine HT.seq ?_
        rcases of_bif hx10 with ⟨hb12, hx10⟩ | ⟨hb12, hx10⟩
        · refine HT.cond1 rfl hb12 ?_
          refine HT.skip (qThen ?_)
          refine HT.seq ?_
          refine HT.block ?_
          refine HT.rg2 (oHs 2) ⟨[(0, .one (.ip (.st (.pair tI (.pair tI (.pair tLF (.pair tLF tLF))))) a0 0)), (1, .one (.dat (.sl tLI) a1)), (5, iV s5), (20, iV (lenI a1)), (21, iV s5)], [], 0⟩ hX (by kernel_rfl) allNil ?_
          obtain ⟨hg13, hx10⟩ := of_guard hx10
          obtain ⟨y14, hc15, hx10⟩ := of_bind hx10
          refine HT.dr2 8 [⟨oH, []⟩, ⟨oH, []⟩, ⟨oH, [0, 1]⟩, ⟨oH, [0, 1, 2]⟩, ⟨oH, []⟩, ⟨oH, [4]⟩, ⟨oH, [4, 5]⟩, ⟨oH, [4, 5, 6]⟩] [[0, 1, 2, 3, 4, 5, 6, 7], [0, 1, 2, 3, 4, 5, 6, 7, 8]] [⟨none, .call [.imm tLI, .imm tI] [⟨false, .bool, y14⟩] []⟩, oH] ⟨[(0, .one (.ip (.st (.pair tI (.pair tI (.pair tLF (.pair tLF tLF))))) a0 0)), (1, .one (.dat (.sl tLI) a1)), (20, iV (lenI a1)), (21, iV s5), (33, bV (!y14))], [], 0⟩ hX (by kernel_rfl) (by kernel_rfl) (allCons hg13 (allCons (f77_ok hc15) allNil)) ?_
          rcases of_bif hx10 with ⟨hb16, hx10⟩ | ⟨hb16, hx10⟩
          · refine HT.cond1 rfl hb16 ?_
            refine HT.rg2 [oH] ⟨[(4, bV false)], [], 0⟩ hX (by kernel_rfl) allNil ?_
            have hx10 := of_some hx10
            subst hx10
            exact HT.retL (Le.re [] [] hX (by kernel_rfl)) (qBlockR (qThenR (qLoopR (hk11 (.inr ()) rfl))))
          · refine HT.cond0 rfl hb16 ?_
            refine HT.skip (qBlock (qThen ?_))
            have hx10 := of_some hx10
            subst hx10
            exact HT.rgK (oHs 2) [] [] hX (by kernel_rfl) allNil (fun _ h => (qLoopN ⟨(wadd .i64 s5 (1 : Int)), rfl, h⟩))
        · refine HT.cond0 rfl hb12 ?_
          have hx10 := of_some hx10
          subst hx10
          exact HT.exitL (Le.re [] [] hX (by kernel_rfl)) (qThenE (qLoopE (hk11 (.inl ()) rfl)))
  · obtain ⟨y18, hc19, hT3⟩ := of_bind hT3
    rcases of_bif hT3 with ⟨hb20, hT3⟩ | ⟨hb20, hT3⟩
    · exact HT.rgK [oH, ⟨none, .call [.pimm (.st (.pair tI (.pair tI (.pair tLF (.pair tLF tLF)))))] [⟨false, .bool, y18⟩] []⟩, oH, oH, ⟨some true, .no⟩, ⟨some true, .no⟩, ⟨some true, .no⟩, ⟨none, .tv true⟩, oH, ⟨some true, .no⟩, ⟨some true, .no⟩, ⟨some true, .no⟩, ⟨none, .tv true⟩] [] [] hX (by kernel_rfl) (allCons (f76_ok hc19) (allCons hb20 (allCons hb20 (allCons hb20 (allCons hb20 (allCons (rfl : true = true) (allCons (rfl : true = true) (allCons (rfl : true = true) (allCons (rfl : true = true) allNil))))))))) (fun _ h => (qThen (h.ht (cont true (of_some hT3)))))
    · rcases of_bif hT3 with ⟨hb21, hT3⟩ | ⟨hb21, hT3⟩
      · exact HT.rgK [oH, ⟨none, .call [.pimm (.st (.pair tI (.pair tI (.pair tLF (.pair tLF tLF)))))] [⟨false, .bool, y18⟩] []⟩, oH, oH, ⟨some false, .no⟩, ⟨some false, .no⟩, ⟨some false, .no⟩, ⟨none, .tv false⟩, oH, ⟨some true, .no⟩, ⟨some true, .no⟩, ⟨some true, .no⟩, ⟨none, .tv true⟩] [] [] hX (by kernel_rfl) (allCons (f76_ok hc19) (allCons hb20 (allCons hb20 (allCons hb20 (allCons hb20 (allCons hb21 (allCons hb21 (allCons hb21 (allCons hb21 allNil))))))))) (fun _ h => (qThen (h.ht (cont true (of_some hT3)))))
      · exact HT.rgK [oH, ⟨none, .call [.pimm (.st (.pair tI (.pair tI (.pair tLF (.pair tLF tLF)))))] [⟨false, .bool, y18⟩] []⟩, oH, oH, ⟨some false, .no⟩, ⟨some false, .no⟩, ⟨some false, .no⟩, ⟨none, .tv false⟩, oH, ⟨some false, .no⟩, ⟨some false, .no⟩, ⟨some false, .no⟩, ⟨none, .tv false⟩] [] [] hX (by kernel_rfl) (allCons (f76_ok hc19) (allCons hb20 (allCons hb20 (allCons hb20 (allCons hb20 (allCons hb21 (allCons hb21 (allCons hb21 (allCons hb21 allNil))))))))) (fun _ h => (qThen (h.ht (cont (decide ((lenI a1) > (16 : Int))) (of_some hT3)))))

noncomputable def spec_l03Sum_B1 (a0 : List Nat) (s1 : Nat × Int) : Option ((Nat × Int) ⊕ (Nat)) :=
  bif (decide (s1.2 < (lenI a0))) then
    guardP ((0 : Int) ≤ s1.2 ∧ s1.2 < lenI a0) (
      some (.inl ((fop .add .f32 s1.1 (List.getD a0 (Int.toNat s1.2) (0 : Nat))), (wadd .i64 s1.2 (1 : Int)))))
  else
    some (.inr s1.1)

noncomputable def spec_l03Sum (a0 : List Nat) : Option (Nat) :=
  (rounds (spec_l03Sum_B1 a0) ((0 : Nat), (0 : Int))).bind fun r3 =>
  some r3

theorem f109_ok {a0 : List Nat} {r : Nat} (hr : spec_l03Sum a0 = some r) : CallOK Try.prog 109 [.imm tLF a0] [⟨false, tF, r⟩] [] := by
  unfold spec_l03Sum at hr
  refine CallOK.of_body (ts := [(false, tF)]) Try.func109 rfl (by kernel_rfl) (Nat.le_of_ble_eq_true (by kernel_rfl)) fun cx hP hN hO hF => ?_
  have hO : cx.own.map Prod.fst = [] := hO
  have hX := CxIs.mk hP hN hO
  have hF := hF rfl
  show HT cx ⟨[(0, lV a0)], [], 0⟩ _ _
  refine HT.rg2 [oH] ⟨[(0, lV a0)], [], 0⟩ hX (by kernel_rfl) allNil ?_
  refine HT.rg2 [oH] ⟨[(0, lV a0), (3, fV (0 : Nat))], [], 0⟩ hX (by kernel_rfl) allNil ?_
  refine HT.seq ?_
  refine HT.rg2 (oHs 3) ⟨[(0, lV a0), (3, fV (0 : Nat)), (6, iV (lenI a0)), (7, iV (0 : Int))], [], 0⟩ hX (by kernel_rfl) allNil ?_
  refine HT.block ?_
  obtain ⟨r2, hL9, hr⟩ := of_bind hr
  refine HT.loopL (fun (s1 : Nat × Int) => ⟨[(0, lV a0), (3, fV s1.1), (6, iV (lenI a0)), (7, iV s1.2)], [], 0⟩) (fun (r3 : Nat) => (.exit 0, ⟨[(3, fV r3)], [], 0⟩)) (Le.re [] [] hX (by kernel_rfl)) hL9 ?_ (fun s1 x4 hx5 hk6 => ?_)
  · refine (qBlockX (qThen ?_))
    refine HT.rg2 (oHs 2) ⟨[(2, fV r2)], [], 0⟩ hX (by kernel_rfl) allNil ?_
    have hr := of_some hr
    subst hr
    exact HT.ret ⟨[fV r2], [], [], by kernel_rfl, by kernel_rfl, rfl, by kernel_rfl, by kernel_rfl, trivial⟩
  · refine HT.rg2 [oH] ⟨[(0, lV a0), (3, fV s1.1), (6, iV (lenI a0)), (7, iV s1.2), (8, bV (decide (s1.2 < (lenI a0))))], [], 0⟩ hX (by kernel_rfl) allNil ?_
    refine HT.seq ?_
    rcases of_bif hx5 with ⟨hb7, hx5⟩ | ⟨hb7, hx5⟩
    · refine HT.cond1 rfl hb7 ?_
      refine HT.skip (qThen ?_)
      refine HT.seq ?_
      refine HT.block ?_
      refine HT.rg2 (oHs 2) ⟨[(0, lV a0), (3, fV s1.1), (4, iV s1.2), (6, iV (lenI a0)), (7, iV s1.2)], [], 0⟩ hX (by kernel_rfl) allNil ?_
      obtain ⟨hg8, hx5⟩ := of_guard hx5
      refine HT.rgL (oHs 7) ⟨[(0, lV a0), (3, fV (fop .add .f32 s1.1 (List.getD a0 (Int.toNat s1.2) (0 : Nat)))), (6, iV (lenI a0)), (7, iV s1.2)], [], 0⟩ hX (by kernel_rfl) (allCons hg8 allNil) (qBlock (qThen ?_))
      have hx5 := of_some hx5
      subst hx5
      exact HT.rgK (oHs 2) [] [] hX (by kernel_rfl) allNil (fun _ h => (qLoopN ⟨((fop .add .f32 s1.1 (List.getD a0 (Int.toNat s1.2) (0 : Nat))), (wadd .i64 s1.2 (1 : Int))), rfl, h⟩))
    · refine HT.cond0 rfl hb7 ?_
      have hx5 := of_some hx5
      subst hx5
      exact HT.exitL (Le.re [] [] hX (by kernel_rfl)) (qThenE (qLoopE (hk6 s1.1 rfl)))

noncomputable def spec_l03Fill_B1 (a0 : List Nat) (y1 : Nat) (s4 : Int × List Nat) : Option ((Int × List Nat) ⊕ (List Nat)) :=
  bif (decide (s4.1 < (lenI a0))) then
    guardP ((0 : Int) ≤ s4.1 ∧ s4.1 < lenI a0) (
      guardP (List.length s4.2 + List.length ([(fop .quo .f32 (List.getD a0 (Int.toNat s4.1) (0 : Nat)) y1)] : List Nat) ≤ appMax) (
        some (.inl ((wadd .i64 s4.1 (1 : Int)), (s4.2 ++ ([(fop .quo .f32 (List.getD a0 (Int.toNat s4.1) (0 : Nat)) y1)] : List Nat))))))
  else
    some (.inr s4.2)

noncomputable def spec_l03Fill (a0 : List Nat) (a1 : List Nat) : Option (List Nat) :=
  (spec_l03Sum a0).bind fun y1 =>
  bif (!(fgt .f32 y1 (0 : Nat))) then
    some a1
  else
    (rounds (spec_l03Fill_B1 a0 y1) ((0 : Int), ([] : List Nat))).bind fun r6 =>
    some r6

theorem f112_ok {a0 : List Nat} {a1 : List Nat} {r : List Nat} (hr : spec_l03Fill a0 a1 = some r) : CallOK Try.prog 112 [.imm tLF a0, .imm tLF a1] [⟨false, tLF, r⟩] [] := by
  unfold spec_l03Fill at hr
  refine CallOK.of_body (ts := [(false, tLF)]) Try.func112 rfl (by kernel_rfl) (Nat.le_of_ble_eq_true (by kernel_rfl)) fun cx hP hN hO hF => ?_
  have hO : cx.own.map Prod.fst = [] := hO
  have hX := CxIs.mk hP hN hO
  have hF := hF rfl
  show HT cx ⟨[(0, lV a0), (1, lV a1)], [], 0⟩ _ _
  refine HT.rg2 [oH] ⟨[(0, lV a0), (1, lV a1)], [], 0⟩ hX (by kernel_rfl) allNil ?_
  obtain ⟨y1, hc2, hr⟩ := of_bind hr
  refine HT.rg2 [oH, ⟨none, .call [.imm tLF] [⟨false, tF, y1⟩] []⟩, oH] ⟨[(0, lV a0), (1, lV a1), (5, fV y1)], [], 0⟩ hX (by kernel_rfl) (allCons (f109_ok hc2) allNil) ?_
  refine HT.seq ?_
  refine HT.rg2 (oHs 3) ⟨[(0, lV a0), (1, lV a1), (5, fV y1), (12, bV (!(fgt .f32 y1 (0 : Nat))))], [], 0⟩ hX (by kernel_rfl) allNil ?_
  rcases of_bif hr with ⟨hb3, hr⟩ | ⟨hb3, hr⟩
  · refine HT.cond1 rfl hb3 ?_
    refine HT.rg2 (oHs 2) ⟨[(4, lV a1)], [], 0⟩ hX (by kernel_rfl) allNil ?_
    have hr := of_some hr
    subst hr
    exact HT.ret (qThenR ⟨[lV a1], [], [], by kernel_rfl, by kernel_rfl, rfl, by kernel_rfl, by kernel_rfl, trivial⟩)
  · refine HT.cond0 rfl hb3 ?_
    refine HT.skip (qThen ?_)
    refine HT.rg2 (oHs 2) ⟨[(0, lV a0), (5, fV y1), (6, .one (.nilS))], [], 0⟩ hX (by kernel_rfl) allNil ?_
    refine HT.seq ?_
    refine HT.rg2 (oHs 3) ⟨[(0, lV a0), (5, fV y1), (6, .one (.nilS)), (16, iV (lenI a0)), (17, iV (0 : Int))], [], 0⟩ hX (by kernel_rfl) allNil ?_
    refine HT.block ?_
    obtain ⟨r5, hL13, hr⟩ := of_bind hr
    refine HT.loopL (fun (s4 : Int × List Nat) => ⟨[(0, lV a0), (5, fV y1), (6, aV 0), (16, iV (lenI a0)), (17, iV s4.1)], [(0, .seq tF s4.2)], 1⟩) (fun (r6 : List Nat) => (.exit 0, ⟨[(6, aV 0)], [(0, .seq tF r6)], 1⟩)) (Le.re [] [0] hX (by kernel_rfl)) hL13 ?_ (fun s4 x7 hx8 hk9 => ?_)
    · refine (qBlockX (qThen ?_))
      refine HT.rg2 (oHs 2) ⟨[(4, aV 0)], [(0, .seq tF r5)], 1⟩ hX (by kernel_rfl) allNil ?_
      have hr := of_some hr
      subst hr
      refine (Le.rz [] [] (st' := ⟨[(4, lV r5)], [], 1⟩) hX hF (by kernel_rfl)).ht ?_
      exact HT.ret ⟨[lV r5], [], [], by kernel_rfl, by kernel_rfl, rfl, by kernel_rfl, by kernel_rfl, trivial⟩
    · refine HT.rg2 [oH] ⟨[(0, lV a0), (5, fV y1), (6, aV 0), (16, iV (lenI a0)), (17, iV s4.1), (18, bV (decide (s4.1 < (lenI a0))))], [(0, .seq tF s4.2)], 1⟩ hX (by kernel_rfl) allNil ?_
      refine HT.seq ?_
      rcases of_bif hx8 with ⟨hb10, hx8⟩ | ⟨hb10, hx8⟩
      · refine HT.cond1 rfl hb10 ?_
        refine HT.skip (qThen ?_)
        refine HT.seq ?_
        refine HT.block ?_
        refine HT.rg2 (oHs 2) ⟨[(0, lV a0), (5, fV y1), (6, aV 0), (7, iV s4.1), (16, iV (lenI a0)), (17, iV s4.1)], [(0, .seq tF s4.2)], 1⟩ hX (by kernel_rfl) allNil ?_
        obtain ⟨hg11, hx8⟩ := of_guard hx8
        obtain ⟨hg12, hx8⟩ := of_guard hx8
        refine HT.rgL [oH, oH, oH, oH, oH, oH, oH, ⟨none, .ty tF⟩, ⟨none, .ty tF⟩, oH] ⟨[(0, lV a0), (5, fV y1), (6, aV 2), (16, iV (lenI a0)), (17, iV s4.1)], [(2, .seq tF (s4.2 ++ ([(fop .quo .f32 (List.getD a0 (Int.toNat s4.1) (0 : Nat)) y1)] : List Nat)))], 3⟩ hX (by kernel_rfl) (allCons hg11 (allCons hg12 allNil)) (qBlock (qThen ?_))
        have hx8 := of_some hx8
        subst hx8
        exact HT.rgK (oHs 2) [(2, 0)] [] hX (by kernel_rfl) allNil (fun _ h => (qLoopN ⟨((wadd .i64 s4.1 (1 : Int)), (s4.2 ++ ([(fop .quo .f32 (List.getD a0 (Int.toNat s4.1) (0 : Nat)) y1)] : List Nat))), rfl, h⟩))
      · refine HT.cond0 rfl hb10 ?_
        have hx8 := of_some hx8
        subst hx8
        exact HT.exitL (Le.re [(0, 0)] [] hX (by kernel_rfl)) (qThenE (qLoopE (hk9 s4.2 rfl)))

noncomputable def spec_l03Give_mv0 (a0 : Int × Int × List Nat × List Nat × List Nat) : Option ((Int × Int × List Nat × List Nat × List Nat) × Bool) :=
  (spec_l03Is (a0.1, a0.2.1, a0.2.2.1, a0.2.2.2.1, a0.2.2.2.2)).bind fun y1 =>
  bif (!y1) then
    some (((0 : Int), (0 : Int), ([] : List Nat), ([] : List Nat), ([] : List Nat)), false)
  else
    some ((a0.1, a0.2.1, a0.2.2.1, a0.2.2.2.1, a0.2.2.2.2), true)

theorem f113_mv0_ok {a0 : Int × Int × List Nat × List Nat × List Nat} {r : (Int × Int × List Nat × List Nat × List Nat) × Bool} (hr : spec_l03Give_mv0 a0 = some r) : CallOK Try.prog 113 [.mv (.st (.pair tI (.pair tI (.pair tLF (.pair tLF tLF))))) a0] [⟨true, (.st (.pair tI (.pair tI (.pair tLF (.pair tLF tLF))))), r.1⟩, ⟨false, .bool, r.2⟩] [] := by
  unfold spec_l03Give_mv0 at hr
  refine CallOK.of_body (ts := [(true, (.st (.pair tI (.pair tI (.pair tLF (.pair tLF tLF)))))), (false, .bool)]) Try.func113 rfl (by kernel_rfl) (Nat.le_of_ble_eq_true (by kernel_rfl)) fun cx hP hN hO hF => ?_
  have hO : cx.own.map Prod.fst = [] := hO
  have hX := CxIs.mk hP hN hO
  show HT cx ⟨[(0, .agg [iC a0.1, iC a0.2.1, .all 0, .all 1, .all 2])], [(0, .seq tF a0.2.2.1), (1, .seq tF a0.2.2.2.1), (2, .seq tF a0.2.2.2.2)], 3⟩ _ _
  refine HT.rg2 (oHs 3) ⟨[(1, pV 3 0), (2, pV 4 0)], [(4, .box [iC (0 : Int), iC (0 : Int), .nilS, .nilS, .nilS]), (3, .box [iC a0.1, iC a0.2.1, .all 0, .all 1, .all 2]), (0, .seq tF a0.2.2.1), (1, .seq tF a0.2.2.2.1), (2, .seq tF a0.2.2.2.2)], 5⟩ hX (by kernel_rfl) allNil ?_
  refine HT.seq ?_
  obtain ⟨y1, hc2, hr⟩ := of_bind hr
  refine HT.rg2 [⟨none, .call [.pimm (.st (.pair tI (.pair tI (.pair tLF (.pair tLF tLF)))))] [⟨false, .bool, y1⟩] []⟩, oH] ⟨[(1, pV 3 0), (2, pV 4 0), (5, bV (!y1))], [(4, .box [iC (0 : Int), iC (0 : Int), .nilS, .nilS, .nilS]), (3, .box [iC a0.1, iC a0.2.1, .all 0, .all 1, .all 2]), (0, .seq tF a0.2.2.1), (1, .seq tF a0.2.2.2.1), (2, .seq tF a0.2.2.2.2)], 5⟩ hX (by kernel_rfl) (allCons (f76_ok hc2) allNil) ?_
  rcases of_bif hr with ⟨hb3, hr⟩ | ⟨hb3, hr⟩
  · refine HT.cond1 rfl hb3 ?_
    refine HT.rg2 (oHs 3) ⟨[(2, pV 4 0), (3, bV false)], [(4, .box [iC (0 : Int), iC (0 : Int), .nilS, .nilS, .nilS])], 5⟩ hX (by kernel_rfl) allNil ?_
    have hr := of_some hr
    subst hr
    exact HT.ret (qThenR ⟨[.agg [iC (0 : Int), iC (0 : Int), .nilS, .nilS, .nilS], bV false], [], [], by kernel_rfl, by kernel_rfl, rfl, by kernel_rfl, by kernel_rfl, trivial⟩)
  · refine HT.cond0 rfl hb3 ?_
    refine HT.skip (qThen ?_)
    refine HT.rg2 (oHs 3) ⟨[(2, pV 4 0), (3, bV true)], [(4, .box [iC a0.1, iC a0.2.1, .all 0, .all 1, .all 2]), (0, .seq tF a0.2.2.1), (1, .seq tF a0.2.2.2.1), (2, .seq tF a0.2.2.2.2)], 5⟩ hX (by kernel_rfl) allNil ?_
    have hr := of_some hr
    subst hr
    exact HT.ret ⟨[.agg [iC a0.1, iC a0.2.1, .all 0, .all 1, .all 2], bV true], [0, 1, 2], [], by kernel_rfl, by kernel_rfl, rfl, by kernel_rfl, by kernel_rfl, trivial⟩

noncomputable def spec_l03Filled_B1 (a0 : Int × Int × List Nat × List Nat × List Nat) (a2 : List Nat) (a3 : List Nat) (s4 : Int × List Nat × List Nat) : Option ((Int × List Nat × List Nat) ⊕ ((List Nat × List Nat))) :=
  bif (decide (s4.1 < a0.1)) then
    guardP ((0 : Int) ≤ (wmul .i64 s4.1 a0.1) ∧ (wmul .i64 s4.1 a0.1) ≤ (wadd .i64 (wmul .i64 s4.1 a0.1) a0.1) ∧ (wadd .i64 (wmul .i64 s4.1 a0.1) a0.1) ≤ lenI a2) (
      guardP ((0 : Int) ≤ (wmul .i64 s4.1 a0.1) ∧ (wmul .i64 s4.1 a0.1) ≤ (wadd .i64 (wmul .i64 s4.1 a0.1) a0.1) ∧ (wadd .i64 (wmul .i64 s4.1 a0.1) a0.1) ≤ lenI a0.2.2.2.1) (
        (spec_l03Fill (cut a2 (wmul .i64 s4.1 a0.1) (wadd .i64 (wmul .i64 s4.1 a0.1) a0.1)) (cut a0.2.2.2.1 (wmul .i64 s4.1 a0.1) (wadd .i64 (wmul .i64 s4.1 a0.1) a0.1))).bind fun y15 =>
        guardP (List.length s4.2.1 + List.length y15 ≤ appMax) (
          guardP ((0 : Int) ≤ (wmul .i64 s4.1 a0.2.1) ∧ (wmul .i64 s4.1 a0.2.1) ≤ (wadd .i64 (wmul .i64 s4.1 a0.2.1) a0.2.1) ∧ (wadd .i64 (wmul .i64 s4.1 a0.2.1) a0.2.1) ≤ lenI a3) (
            guardP ((0 : Int) ≤ (wmul .i64 s4.1 a0.2.1) ∧ (wmul .i64 s4.1 a0.2.1) ≤ (wadd .i64 (wmul .i64 s4.1 a0.2.1) a0.2.1) ∧ (wadd .i64 (wmul .i64 s4.1 a0.2.1) a0.2.1) ≤ lenI a0.2.2.2.2) (
              (spec_l03Fill (cut a3 (wmul .i64 s4.1 a0.2.1) (wadd .i64 (wmul .i64 s4.1 a0.2.1) a0.2.1)) (cut a0.2.2.2.2 (wmul .i64 s4.1 a0.2.1) (wadd .i64 (wmul .i64 s4.1 a0.2.1) a0.2.1))).bind fun y20 =>
              guardP (List.length s4.2.2 + List.length y20 ≤ appMax) (
                some (.inl ((wadd .i64 s4.1 (1 : Int)), (s4.2.1 ++ y15), (s4.2.2 ++ y20)))))))))
  else
    some (.inr (s4.2.1, s4.2.2))

noncomputable def spec_l03Filled (a0 : Int × Int × List Nat × List Nat × List Nat) (a1 : List Nat) (a2 : List Nat) (a3 : List Nat) : Option ((Int × Int × List Nat × List Nat × List Nat) × Bool) :=
  (spec_l03Fill a1 a0.2.2.1).bind fun y1 =>
  guardP (0 + List.length y1 ≤ appMax) (
    (rounds (spec_l03Filled_B1 a0 a2 a3) ((0 : Int), ([] : List Nat), ([] : List Nat))).bind fun r6 =>
    (spec_l03Give_mv0 (a0.1, a0.2.1, y1, r6.1, r6.2)).bind fun y7 =>
    some ((y7.1.1, y7.1.2.1, y7.1.2.2.1, y7.1.2.2.2.1, y7.1.2.2.2.2), y7.2))

theorem f89_ok {a0 : Int × Int × List Nat × List Nat × List Nat} {a1 : List Nat} {a2 : List Nat} {a3 : List Nat} {r : (Int × Int × List Nat × List Nat × List Nat) × Bool} (hr : spec_l03Filled a0 a1 a2 a3 = some r) : CallOK Try.prog 89 [.pimm (.st (.pair tI (.pair tI (.pair tLF (.pair tLF tLF))))) a0, .imm tLF a1, .imm tLF a2, .imm tLF a3] [⟨true, (.st (.pair tI (.pair tI (.pair tLF (.pair tLF tLF))))), r.1⟩, ⟨false, .bool, r.2⟩] [] := by
  unfold spec_l03Filled at hr
  refine CallOK.of_body (ts := [(true, (.st (.pair tI (.pair tI (.pair tLF (.pair tLF tLF)))))), (false, .bool)]) Try.func89 rfl (by kernel_rfl) (Nat.le_of_ble_eq_true (by kernel_rfl)) fun cx hP hN hO hF => ?_
  have hO : cx.own.map Prod.fst = [] := hO
  have hX := CxIs.mk hP hN hO
  have hF := hF rfl
  show HT cx ⟨[(0, .one (.ip (.st (.pair tI (.pair tI (.pair tLF (.pair tLF tLF))))) a0 0)), (1, lV a1), (2, lV a2), (3, lV a3)], [], 0⟩ _ _
  refine HT.rg2 (oHs 2) ⟨[(0, .one (.ip (.st (.pair tI (.pair tI (.pair tLF (.pair tLF tLF))))) a0 0)), (1, lV a1), (2, lV a2), (3, lV a3), (8, pV 0 0)], [(0, .box [iC (0 : Int), iC (0 : Int), .nilS, .nilS, .nilS])], 1⟩ hX (by kernel_rfl) allNil ?_
  refine HT.rg2 (oHs 5) ⟨[(0, .one (.ip (.st (.pair tI (.pair tI (.pair tLF (.pair tLF tLF))))) a0 0)), (1, lV a1), (2, lV a2), (3, lV a3), (8, pV 0 0), (10, iV a0.1)], [(0, .box [iC (0 : Int), iC (0 : Int), .nilS, .nilS, .nilS])], 1⟩ hX (by kernel_rfl) allNil ?_
  refine HT.rg2 (oHs 5) ⟨[(0, .one (.ip (.st (.pair tI (.pair tI (.pair tLF (.pair tLF tLF))))) a0 0)), (1, lV a1), (2, lV a2), (3, lV a3), (8, pV 0 0), (10, iV a0.1), (11, iV a0.2.1)], [(0, .box [iC (0 : Int), iC (0 : Int), .nilS, .nilS, .nilS])], 1⟩ hX (by kernel_rfl) allNil ?_
  obtain ⟨y1, hc2, hr⟩ := of_bind hr
  obtain ⟨hg3, hr⟩ := of_guard hr
  refine HT.rg2 [oH, oH, oH, oH, oH, oH, oH, oH, ⟨none, .call [.imm tLF, .imm tLF] [⟨false, tLF, y1⟩] []⟩, ⟨none, .ty tF⟩, oH, oH, oH] ⟨[(0, .one (.ip (.st (.pair tI (.pair tI (.pair tLF (.pair tLF tLF))))) a0 0)), (2, lV a2), (3, lV a3), (8, pV 0 0), (10, iV a0.1), (11, iV a0.2.1), (12, pV 2 0)], [(2, .box [iC a0.1, iC a0.2.1, .all 1, .nilS, .nilS]), (1, .seq tF y1), (0, .box [iC (0 : Int), iC (0 : Int), .nilS, .nilS, .nilS])], 3⟩ hX (by kernel_rfl) (allCons (f112_ok hc2) (allCons hg3 allNil)) ?_
  refine HT.seq ?_
  refine HT.rg2 [oH] ⟨[(0, .one (.ip (.st (.pair tI (.pair tI (.pair tLF (.pair tLF tLF))))) a0 0)), (2, lV a2), (3, lV a3), (8, pV 0 0), (10, iV a0.1), (11, iV a0.2.1), (12, pV 2 0), (13, iV (0 : Int))], [(2, .box [iC a0.1, iC a0.2.1, .all 1, .nilS, .nilS]), (1, .seq tF y1), (0, .box [iC (0 : Int), iC (0 : Int), .nilS, .nilS, .nilS])], 3⟩ hX (by kernel_rfl) allNil ?_
  refine HT.block ?_
  obtain ⟨r5, hL23, hr⟩ := of_bind hr
  refine HT.loopL (fun (s4 : Int × List Nat × List Nat) => ⟨[(0, .one (.ip (.st (.pair tI (.pair tI (.pair tLF (.pair tLF tLF))))) a0 0)), (2, lV a2), (3, lV a3), (8, pV 0 0), (10, iV a0.1), (11, iV a0.2.1), (12, pV 1 0), (13, iV s4.1)], [(0, .box [iC (0 : Int), iC (0 : Int), .nilS, .nilS, .nilS]), (1, .box [iC a0.1, iC a0.2.1, .all 2, .all 3, .all 4]), (2, .seq tF y1), (3, .seq tF s4.2.1), (4, .seq tF s4.2.2)], 5⟩) (fun (r6 : (List Nat × List Nat)) => (.exit 0, ⟨[(8, pV 0 0), (12, pV 1 0)], [(0, .box [iC (0 : Int), iC (0 : Int), .nilS, .nilS, .nilS]), (1, .box [iC a0.1, iC a0.2.1, .all 2, .all 3, .all 4]), (2, .seq tF y1), (3, .seq tF r6.1), (4, .seq tF r6.2)], 5⟩)) (Le.re [(0, 0), (2, 1), (1, 2)] [3, 4] hX (by kernel_rfl)) hL23 ?_ (fun s4 x9 hx10 hk11 => ?_)
  · refine (qBlockX (qThen ?_))
    obtain ⟨y7, hc8, hr⟩ := of_bind hr
    refine HT.rg2 [oH, ⟨none, .call [.mv (.st (.pair tI (.pair tI (.pair tLF (.pair tLF tLF)))))] [⟨true, (.st (.pair tI (.pair tI (.pair tLF (.pair tLF tLF))))), y7.1⟩, ⟨false, .bool, y7.2⟩] []⟩, oH, oH, oH, oH] ⟨[(8, pV 0 0), (9, bV y7.2)], [(0, .box [iC y7.1.1, iC y7.1.2.1, .all 5, .all 6, .all 7]), (5, .seq tF y7.1.2.2.1), (6, .seq tF y7.1.2.2.2.1), (7, .seq tF y7.1.2.2.2.2)], 8⟩ hX (by kernel_rfl) (allCons (f113_mv0_ok hc8) allNil) ?_
    have hr := of_some hr
    subst hr
    exact HT.ret ⟨[.agg [iC y7.1.1, iC y7.1.2.1, .all 5, .all 6, .all 7], bV y7.2], [5, 6, 7], [], by kernel_rfl, by kernel_rfl, rfl, by kernel_rfl, by kernel_rfl, trivial⟩
  · refine HT.seq ?_
    refine HT.rg2 (oHs 3) ⟨[(0, .one (.ip (.st (.pair tI (.pair tI (.pair tLF (.pair tLF tLF))))) a0 0)), (2, lV a2), (3, lV a3), (8, pV 0 0), (10, iV a0.1), (11, iV a0.2.1), (12, pV 1 0), (13, iV s4.1), (35, bV (decide (s4.1 < a0.1)))], [(0, .box [iC (0 : Int), iC (0 : Int), .nilS, .nilS, .nilS]), (1, .box [iC a0.1, iC a0.2.1, .all 2, .all 3, .all 4]), (2, .seq tF y1), (3, .seq tF s4.2.1), (4, .seq tF s4.2.2)], 5⟩ hX (by kernel_rfl) allNil ?_
    rcases of_bif hx10 with ⟨hb12, hx10⟩ | ⟨hb12, hx10⟩
    · refine HT.cond1 rfl hb12 ?_
      refine HT.skip (qThen ?_)
      refine HT.seq ?_
      refine HT.block ?_
      obtain ⟨hg13, hx10⟩ := of_guard hx10
      obtain ⟨hg14, hx10⟩ := of_guard hx10
      obtain ⟨y15, hc16, hx10⟩ := of_bind hx10
      obtain ⟨hg17, hx10⟩ := of_guard hx10
      refine HT.dr2 26 [⟨oH, []⟩, ⟨oH, [0]⟩, ⟨oH, []⟩, ⟨oH, []⟩, ⟨oH, []⟩, ⟨oH, [3, 4]⟩, ⟨oH, []⟩, ⟨oH, []⟩, ⟨oH, [6, 7]⟩, ⟨oH, []⟩, ⟨oH, [6, 7, 8, 9]⟩, ⟨oH, [2, 3, 4, 5, 6, 7, 8, 9, 10]⟩, ⟨oH, []⟩, ⟨oH, [12]⟩, ⟨oH, [12, 13]⟩, ⟨oH, [12, 13, 14]⟩, ⟨oH, []⟩, ⟨oH, []⟩, ⟨oH, [16, 17]⟩, ⟨oH, []⟩, ⟨oH, []⟩, ⟨oH, [19, 20]⟩, ⟨oH, []⟩, ⟨oH, [19, 20, 21, 22]⟩, ⟨oH, [12, 13, 14, 15, 16, 17, 18, 19, 20, 21, 22, 23]⟩, ⟨⟨none, .call [.imm tLF, .imm tLF] [⟨false, tLF, y15⟩] []⟩, [2, 3, 4, 5, 6, 7, 8, 9, 10, 11, 12, 13, 14, 15, 16, 17, 18, 19, 20, 21, 22, 23, 24]⟩] [[0, 1, 2, 3, 4, 5, 6, 7, 8, 9, 10, 11, 12, 13, 14, 15, 16, 17, 18, 19, 20, 21, 22, 23, 24, 25], [0, 1, 2, 3, 4, 5, 6, 7, 8, 9, 10, 11, 12, 13, 14, 15, 16, 17, 18, 19, 20, 21, 22, 23, 24, 25, 26], [0, 1, 2, 3, 4, 5, 6, 7, 8, 9, 10, 11, 12, 13, 14, 15, 16, 17, 18, 19, 20, 21, 22, 23, 24, 25, 26, 27]] [⟨none, .ty tF⟩, oH, oH] ⟨[(0, .one (.ip (.st (.pair tI (.pair tI (.pair tLF (.pair tLF tLF))))) a0 0)), (2, lV a2), (3, lV a3), (8, pV 0 0), (10, iV a0.1), (11, iV a0.2.1), (12, pV 1 0), (13, iV s4.1)], [(1, .box [iC a0.1, iC a0.2.1, .all 2, .all 5, .all 4]), (5, .seq tF (s4.2.1 ++ y15)), (0, .box [iC (0 : Int), iC (0 : Int), .nilS, .nilS, .nilS]), (2, .seq tF y1), (4, .seq tF s4.2.2)], 6⟩ hX (by kernel_rfl) (by kernel_rfl) (allCons hg13 (allCons hg14 (allCons (f112_ok hc16) (allCons hg17 allNil)))) ?_
      obtain ⟨hg18, hx10⟩ := of_guard hx10
      obtain ⟨hg19, hx10⟩ := of_guard hx10
      obtain ⟨y20, hc21, hx10⟩ := of_bind hx10
      obtain ⟨hg22, hx10⟩ := of_guard hx10
      refine HT.drL 26 [⟨oH, []⟩, ⟨oH, [0]⟩, ⟨oH, []⟩, ⟨oH, []⟩, ⟨oH, []⟩, ⟨oH, [3, 4]⟩, ⟨oH, []⟩, ⟨oH, []⟩, ⟨oH, [6, 7]⟩, ⟨oH, []⟩, ⟨oH, [6, 7, 8, 9]⟩, ⟨oH, [2, 3, 4, 5, 6, 7, 8, 9, 10]⟩, ⟨oH, []⟩, ⟨oH, [12]⟩, ⟨oH, [12, 13]⟩, ⟨oH, [12, 13, 14]⟩, ⟨oH, []⟩, ⟨oH, []⟩, ⟨oH, [16, 17]⟩, ⟨oH, []⟩, ⟨oH, []⟩, ⟨oH, [19, 20]⟩, ⟨oH, []⟩, ⟨oH, [19, 20, 21, 22]⟩, ⟨oH, [12, 13, 14, 15, 16, 17, 18, 19, 20, 21, 22, 23]⟩, ⟨⟨none, .call [.imm tLF, .imm tLF] [⟨false, tLF, y20⟩] []⟩, [2, 3, 4, 5, 6, 7, 8, 9, 10, 11, 12, 13, 14, 15, 16, 17, 18, 19, 20, 21, 22, 23, 24]⟩] [[0, 1, 2, 3, 4, 5, 6, 7, 8, 9, 10, 11, 12, 13, 14, 15, 16, 17, 18, 19, 20, 21, 22, 23, 24, 25], [0, 1, 2, 3, 4, 5, 6, 7, 8, 9, 10, 11, 12, 13, 14, 15, 16, 17, 18, 19, 20, 21, 22, 23, 24, 25, 26], [0, 1, 2, 3, 4, 5, 6, 7, 8, 9, 10, 11, 12, 13, 14, 15, 16, 17, 18, 19, 20, 21, 22, 23, 24, 25, 26, 27]] [⟨none, .ty tF⟩, oH, oH] ⟨[(0, .one (.ip (.st (.pair tI (.pair tI (.pair tLF (.pair tLF tLF))))) a0 0)), (2, lV a2), (3, lV a3), (8, pV 0 0), (10, iV a0.1), (11, iV a0.2.1), (12, pV 1 0), (13, iV s4.1)], [(1, .box [iC a0.1, iC a0.2.1, .all 2, .all 5, .all 6]), (6, .seq tF (s4.2.2 ++ y20)), (5, .seq tF (s4.2.1 ++ y15)), (0, .box [iC (0 : Int), iC (0 : Int), .nilS, .nilS, .nilS]), (2, .seq tF y1)], 7⟩ hX (by kernel_rfl) (by kernel_rfl) (allCons hg18 (allCons hg19 (allCons (f112_ok hc21) (allCons hg22 allNil)))) (qBlock (qThen ?_))
      have hx10 := of_some hx10
      subst hx10
      exact HT.rgK (oHs 3) [(0, 0), (1, 1), (2, 2), (5, 3), (6, 4)] [] hX (by kernel_rfl) allNil (fun _ h => (qLoopN ⟨((wadd .i64 s4.1 (1 : Int)), (s4.2.1 ++ y15), (s4.2.2 ++ y20)), rfl, h⟩))
    · refine HT.cond0 rfl hb12 ?_
      have hx10 := of_some hx10
      subst hx10
      exact HT.exitL (Le.re [(0, 0), (1, 1), (2, 2), (3, 3), (4, 4)] [] hX (by kernel_rfl)) (qThenE (qLoopE (hk11 (s4.2.1, s4.2.2) rfl)))

noncomputable def spec_l03Next_B1 (a0 : Int × Int × List Nat × List Nat × List Nat) (a1 : List Nat) (a2 : Int) (s1 : Int × List Nat) (s8 : Nat × Int) : Option ((Nat × Int) ⊕ (Nat)) :=
  bif (decide (s8.2 < a0.1)) then
    guardP ((0 : Int) ≤ s8.2 ∧ s8.2 < lenI a1) (
      guardP ((0 : Int) ≤ (wadd .i64 (wmul .i64 s8.2 a0.2.1) a2) ∧ (wadd .i64 (wmul .i64 s8.2 a0.2.1) a2) < lenI a0.2.2.2.2) (
        guardP ((0 : Int) ≤ (wadd .i64 (wmul .i64 s8.2 a0.1) s1.1) ∧ (wadd .i64 (wmul .i64 s8.2 a0.1) s1.1) < lenI a0.2.2.2.1) (
          some (.inl ((fop .add .f32 s8.1 (fop .mul .f32 (fop .mul .f32 (List.getD a1 (Int.toNat s8.2) (0 : Nat)) (List.getD a0.2.2.2.2 (Int.toNat (wadd .i64 (wmul .i64 s8.2 a0.2.1) a2)) (0 : Nat))) (List.getD a0.2.2.2.1 (Int.toNat (wadd .i64 (wmul .i64 s8.2 a0.1) s1.1)) (0 : Nat)))), (wadd .i64 s8.2 (1 : Int)))))))
  else
    some (.inr s8.1)

noncomputable def spec_l03Next_B2 (a0 : Int × Int × List Nat × List Nat × List Nat) (a1 : List Nat) (a2 : Int) (s1 : Int × List Nat) : Option ((Int × List Nat) ⊕ (List Nat)) :=
  bif (decide (s1.1 < a0.1)) then
    (rounds (spec_l03Next_B1 a0 a1 a2 s1) ((0 : Nat), (0 : Int))).bind fun r10 =>
    guardP (List.length s1.2 + List.length ([r10] : List Nat) ≤ appMax) (
      some (.inl ((wadd .i64 s1.1 (1 : Int)), (s1.2 ++ ([r10] : List Nat)))))
  else
    some (.inr s1.2)

noncomputable def spec_l03Next (a0 : Int × Int × List Nat × List Nat × List Nat) (a1 : List Nat) (a2 : Int) : Option (List Nat) :=
  (rounds (spec_l03Next_B2 a0 a1 a2) ((0 : Int), ([] : List Nat))).bind fun r3 =>
  some r3

theorem f108_ok {a0 : Int × Int × List Nat × List Nat × List Nat} {a1 : List Nat} {a2 : Int} {r : List Nat} (hr : spec_l03Next a0 a1 a2 = some r) : CallOK Try.prog 108 [.pimm (.st (.pair tI (.pair tI (.pair tLF (.pair tLF tLF))))) a0, .imm tLF a1, .imm tI a2] [⟨true, tLF, r⟩] [] := by
  unfold spec_l03Next at hr
  refine CallOK.of_body (ts := [(true, tLF)]) Try.func108 rfl (by kernel_rfl) (Nat.le_of_ble_eq_true (by kernel_rfl)) fun cx hP hN hO hF => ?_
  have hO : cx.own.map Prod.fst = [] := hO
  have hX := CxIs.mk hP hN hO
  have hF := hF rfl
  show HT cx ⟨[(0, .one (.ip (.st (.pair tI (.pair tI (.pair tLF (.pair tLF tLF))))) a0 0)), (1, lV a1), (2, iV a2)], [], 0⟩ _ _
  refine HT.rg2 [oH] ⟨[(0, .one (.ip (.st (.pair tI (.pair tI (.pair tLF (.pair tLF tLF))))) a0 0)), (1, lV a1), (2, iV a2)], [], 0⟩ hX (by kernel_rfl) allNil ?_
  refine HT.rg2 (oHs 2) ⟨[(0, .one (.ip (.st (.pair tI (.pair tI (.pair tLF (.pair tLF tLF))))) a0 0)), (1, lV a1), (2, iV a2), (7, .one (.nilS))], [], 0⟩ hX (by kernel_rfl) allNil ?_
  refine HT.seq ?_
  refine HT.rg2 [oH] ⟨[(0, .one (.ip (.st (.pair tI (.pair tI (.pair tLF (.pair tLF tLF))))) a0 0)), (1, lV a1), (2, iV a2), (7, .one (.nilS)), (8, iV (0 : Int))], [], 0⟩ hX (by kernel_rfl) allNil ?_
  refine HT.block ?_
  obtain ⟨r2, hL20, hr⟩ := of_bind hr
  refine HT.loopL (fun (s1 : Int × List Nat) => ⟨[(0, .one (.ip (.st (.pair tI (.pair tI (.pair tLF (.pair tLF tLF))))) a0 0)), (1, lV a1), (2, iV a2), (7, aV 0), (8, iV s1.1)], [(0, .seq tF s1.2)], 1⟩) (fun (r3 : List Nat) => (.exit 0, ⟨[(7, aV 0)], [(0, .seq tF r3)], 1⟩)) (Le.re [] [0] hX (by kernel_rfl)) hL20 ?_ (fun s1 x4 hx5 hk6 => ?_)
  · refine (qBlockX (qThen ?_))
    refine HT.rg2 (oHs 2) ⟨[(6, aV 0)], [(0, .seq tF r2)], 1⟩ hX (by kernel_rfl) allNil ?_
    have hr := of_some hr
    subst hr
    exact HT.ret ⟨[aV 0], [0], [], by kernel_rfl, by kernel_rfl, rfl, by kernel_rfl, by kernel_rfl, trivial⟩
  · refine HT.seq ?_
    refine HT.rg2 (oHs 6) ⟨[(0, .one (.ip (.st (.pair tI (.pair tI (.pair tLF (.pair tLF tLF))))) a0 0)), (1, lV a1), (2, iV a2), (7, aV 0), (8, iV s1.1), (17, bV (decide (s1.1 < a0.1)))], [(0, .seq tF s1.2)], 1⟩ hX (by kernel_rfl) allNil ?_
    rcases of_bif hx5 with ⟨hb7, hx5⟩ | ⟨hb7, hx5⟩
    · refine HT.cond1 rfl hb7 ?_
      refine HT.skip (qThen ?_)
      refine HT.seq ?_
      refine HT.block ?_
      refine HT.rg2 [oH] ⟨[(0, .one (.ip (.st (.pair tI (.pair tI (.pair tLF (.pair tLF tLF))))) a0 0)), (1, lV a1), (2, iV a2), (7, aV 0), (8, iV s1.1), (9, fV (0 : Nat))], [(0, .seq tF s1.2)], 1⟩ hX (by kernel_rfl) allNil ?_
      refine HT.seq ?_
      refine HT.rg2 [oH] ⟨[(0, .one (.ip (.st (.pair tI (.pair tI (.pair tLF (.pair tLF tLF))))) a0 0)), (1, lV a1), (2, iV a2), (7, aV 0), (8, iV s1.1), (9, fV (0 : Nat)), (10, iV (0 : Int))], [(0, .seq tF s1.2)], 1⟩ hX (by kernel_rfl) allNil ?_
      refine HT.block ?_
      obtain ⟨r9, hL19, hx5⟩ := of_bind hx5
      refine HT.loopL (fun (s8 : Nat × Int) => ⟨[(0, .one (.ip (.st (.pair tI (.pair tI (.pair tLF (.pair tLF tLF))))) a0 0)), (1, lV a1), (2, iV a2), (7, aV 0), (8, iV s1.1), (9, fV s8.1), (10, iV s8.2)], [(0, .seq tF s1.2)], 1⟩) (fun (r10 : Nat) => (.exit 2, ⟨[(0, .one (.ip (.st (.pair tI (.pair tI (.pair tLF (.pair tLF tLF))))) a0 0)), (1, lV a1), (2, iV a2), (7, aV 0), (8, iV s1.1), (9, fV r10)], [(0, .seq tF s1.2)], 1⟩)) (Le.re [(0, 0)] [] hX (by kernel_rfl)) hL19 ?_ (fun s8 x12 hx13 hk14 => ?_)
      · refine (qBlockX (qThen ?_))
        obtain ⟨hg11, hx5⟩ := of_guard hx5
        refine HT.rgL [oH, oH, ⟨none, .ty tF⟩, ⟨none, .ty tF⟩, oH] ⟨[(0, .one (.ip (.st (.pair tI (.pair tI (.pair tLF (.pair tLF tLF))))) a0 0)), (1, lV a1), (2, iV a2), (7, aV 2), (8, iV s1.1)], [(2, .seq tF (s1.2 ++ ([r9] : List Nat)))], 3⟩ hX (by kernel_rfl) (allCons hg11 allNil) (qBlock (qThen ?_))
        have hx5 := of_some hx5
        subst hx5
        exact HT.rgK (oHs 3) [(2, 0)] [] hX (by kernel_rfl) allNil (fun _ h => (qLoopN ⟨((wadd .i64 s1.1 (1 : Int)), (s1.2 ++ ([r9] : List Nat))), rfl, h⟩))
      · refine HT.seq ?_
        refine HT.rg2 (oHs 6) ⟨[(0, .one (.ip (.st (.pair tI (.pair tI (.pair tLF (.pair tLF tLF))))) a0 0)), (1, lV a1), (2, iV a2), (7, aV 0), (8, iV s1.1), (9, fV s8.1), (10, iV s8.2), (25, bV (decide (s8.2 < a0.1)))], [(0, .seq tF s1.2)], 1⟩ hX (by kernel_rfl) allNil ?_
        rcases of_bif hx13 with ⟨hb15, hx13⟩ | ⟨hb15, hx13⟩
        · refine HT.cond1 rfl hb15 ?_
          refine HT.skip (qThen ?_)
          refine HT.seq ?_
          refine HT.block ?_
          obtain ⟨hg16, hx13⟩ := of_guard hx13
          obtain ⟨hg17, hx13⟩ := of_guard hx13
          obtain ⟨hg18, hx13⟩ := of_guard hx13
          refine HT.drL 35 [⟨oH, []⟩, ⟨oH, []⟩, ⟨oH, []⟩, ⟨oH, [1, 2]⟩, ⟨oH, [1, 2, 3]⟩, ⟨oH, []⟩, ⟨oH, [5]⟩, ⟨oH, [5, 6]⟩, ⟨oH, [5, 6, 7]⟩, ⟨oH, []⟩, ⟨oH, []⟩, ⟨oH, [10]⟩, ⟨oH, [10, 11]⟩, ⟨oH, [10, 11, 12]⟩, ⟨oH, [9, 10, 11, 12, 13]⟩, ⟨oH, []⟩, ⟨oH, [9, 10, 11, 12, 13, 14, 15]⟩, ⟨oH, [5, 6, 7, 8, 9, 10, 11, 12, 13, 14, 15, 16]⟩, ⟨oH, [5, 6, 7, 8, 9, 10, 11, 12, 13, 14, 15, 16, 17]⟩, ⟨oH, [1, 2, 3, 4, 5, 6, 7, 8, 9, 10, 11, 12, 13, 14, 15, 16, 17, 18]⟩, ⟨oH, []⟩, ⟨oH, [20]⟩, ⟨oH, [20, 21]⟩, ⟨oH, [20, 21, 22]⟩, ⟨oH, []⟩, ⟨oH, []⟩, ⟨oH, [25]⟩, ⟨oH, [25, 26]⟩, ⟨oH, [25, 26, 27]⟩, ⟨oH, [24, 25, 26, 27, 28]⟩, ⟨oH, []⟩, ⟨oH, [24, 25, 26, 27, 28, 29, 30]⟩, ⟨oH, [20, 21, 22, 23, 24, 25, 26, 27, 28, 29, 30, 31]⟩, ⟨oH, [20, 21, 22, 23, 24, 25, 26, 27, 28, 29, 30, 31, 32]⟩, ⟨oH, [1, 2, 3, 4, 5, 6, 7, 8, 9, 10, 11, 12, 13, 14, 15, 16, 17, 18, 19, 20, 21, 22, 23, 24, 25, 26, 27, 28, 29, 30, 31, 32, 33]⟩] [[0, 1, 2, 3, 4, 5, 6, 7, 8, 9, 10, 11, 12, 13, 14, 15, 16, 17, 18, 19, 20, 21, 22, 23, 24, 25, 26, 27, 28, 29, 30, 31, 32, 33, 34], [0, 1, 2, 3, 4, 5, 6, 7, 8, 9, 10, 11, 12, 13, 14, 15, 16, 17, 18, 19, 20, 21, 22, 23, 24, 25, 26, 27, 28, 29, 30, 31, 32, 33, 34, 35]] (oHs 2) ⟨[(0, .one (.ip (.st (.pair tI (.pair tI (.pair tLF (.pair tLF tLF))))) a0 0)), (1, lV a1), (2, iV a2), (7, aV 0), (8, iV s1.1), (9, fV (fop .add .f32 s8.1 (fop .mul .f32 (fop .mul .f32 (List.getD a1 (Int.toNat s8.2) (0 : Nat)) (List.getD a0.2.2.2.2 (Int.toNat (wadd .i64 (wmul .i64 s8.2 a0.2.1) a2)) (0 : Nat))) (List.getD a0.2.2.2.1 (Int.toNat (wadd .i64 (wmul .i64 s8.2 a0.1) s1.1)) (0 : Nat))))), (10, iV s8.2)], [(0, .seq tF s1.2)], 1⟩ hX (by kernel_rfl) (by kernel_rfl) (allCons hg16 (allCons hg17 (allCons hg18 allNil))) (qBlock (qThen ?_))
          have hx13 := of_some hx13
          subst hx13
          exact HT.rgK (oHs 3) [(0, 0)] [] hX (by kernel_rfl) allNil (fun _ h => (qLoopN ⟨((fop .add .f32 s8.1 (fop .mul .f32 (fop .mul .f32 (List.getD a1 (Int.toNat s8.2) (0 : Nat)) (List.getD a0.2.2.2.2 (Int.toNat (wadd .i64 (wmul .i64 s8.2 a0.2.1) a2)) (0 : Nat))) (List.getD a0.2.2.2.1 (Int.toNat (wadd .i64 (wmul .i64 s8.2 a0.1) s1.1)) (0 : Nat)))), (wadd .i64 s8.2 (1 : Int))), rfl, h⟩))
        · refine HT.cond0 rfl hb15 ?_
          have hx13 := of_some hx13
          subst hx13
          exact HT.exitL (Le.re [(0, 0)] [] hX (by kernel_rfl)) (qThenE (qLoopE (hk14 s8.1 rfl)))
    · refine HT.cond0 rfl hb7 ?_
      have hx5 := of_some hx5
      subst hx5
      exact HT.exitL (Le.re [(0, 0)] [] hX (by kernel_rfl)) (qThenE (qLoopE (hk6 s1.2 rfl)))

noncomputable def spec_l03Forward_B1 (a0 : Int × Int × List Nat × List Nat × List Nat) (a1 : List Int) (s1 : Int × List (List Nat)) : Option ((Int × List (List Nat)) ⊕ (List (List Nat))) :=
  bif (decide (s1.1 < (lenI a1))) then
    guardP ((0 : Int) ≤ s1.1 ∧ s1.1 < lenI s1.2) (
      guardP ((0 : Int) ≤ s1.1 ∧ s1.1 < lenI a1) (
        (spec_l03Next (a0.1, a0.2.1, a0.2.2.1, a0.2.2.2.1, a0.2.2.2.2) (List.getD s1.2 (Int.toNat s1.1) ([] : List Nat)) (List.getD a1 (Int.toNat s1.1) (0 : Int))).bind fun y10 =>
        guardP (List.length s1.2 + List.length ([y10] : List (List Nat)) ≤ appMax) (
          some (.inl ((wadd .i64 s1.1 (1 : Int)), (s1.2 ++ ([y10] : List (List Nat))))))))
  else
    some (.inr s1.2)

noncomputable def spec_l03Forward (a0 : Int × Int × List Nat × List Nat × List Nat) (a1 : List Int) : Option (List (List Nat)) :=
  (rounds (spec_l03Forward_B1 a0 a1) ((0 : Int), ([a0.2.2.1] : List (List Nat)))).bind fun r3 =>
  some r3

theorem f85_ok {a0 : Int × Int × List Nat × List Nat × List Nat} {a1 : List Int} {r : List (List Nat)} (hr : spec_l03Forward a0 a1 = some r) : CallOK Try.prog 85 [.pimm (.st (.pair tI (.pair tI (.pair tLF (.pair tLF tLF))))) a0, .imm tLI a1] [⟨false, (.sl tLF), r⟩] [] := by
  unfold spec_l03Forward at hr
  refine CallOK.of_body (ts := [(false, (.sl tLF))]) Try.func85 rfl (by kernel_rfl) (Nat.le_of_ble_eq_true (by kernel_rfl)) fun cx hP hN hO hF => ?_
  have hO : cx.own.map Prod.fst = [] := hO
  have hX := CxIs.mk hP hN hO
  have hF := hF rfl
  show HT cx ⟨[(0, .one (.ip (.st (.pair tI (.pair tI (.pair tLF (.pair tLF tLF))))) a0 0)), (1, nV a1)], [], 0⟩ _ _
  refine HT.rg2 [oH] ⟨[(0, .one (.ip (.st (.pair tI (.pair tI (.pair tLF (.pair tLF tLF))))) a0 0)), (1, nV a1)], [], 0⟩ hX (by kernel_rfl) allNil ?_
  refine HT.rg2 [oH, oH, oH, oH, ⟨none, .ty tLF⟩, oH] ⟨[(0, .one (.ip (.st (.pair tI (.pair tI (.pair tLF (.pair tLF tLF))))) a0 0)), (1, nV a1), (5, aV 0)], [(0, .seq tLF ([a0.2.2.1] : List (List Nat)))], 1⟩ hX (by kernel_rfl) allNil ?_
  refine HT.seq ?_
  refine HT.rg2 (oHs 3) ⟨[(0, .one (.ip (.st (.pair tI (.pair tI (.pair tLF (.pair tLF tLF))))) a0 0)), (1, nV a1), (5, aV 0), (13, iV (lenI a1)), (14, iV (0 : Int))], [(0, .seq tLF ([a0.2.2.1] : List (List Nat)))], 1⟩ hX (by kernel_rfl) allNil ?_
  refine HT.block ?_
  obtain ⟨r2, hL13, hr⟩ := of_bind hr
  refine HT.loopL (fun (s1 : Int × List (List Nat)) => ⟨[(0, .one (.ip (.st (.pair tI (.pair tI (.pair tLF (.pair tLF tLF))))) a0 0)), (1, nV a1), (5, aV 0), (13, iV (lenI a1)), (14, iV s1.1)], [(0, .seq tLF s1.2)], 1⟩) (fun (r3 : List (List Nat)) => (.exit 0, ⟨[(5, aV 0)], [(0, .seq tLF r3)], 1⟩)) (Le.re [(0, 0)] [] hX (by kernel_rfl)) hL13 ?_ (fun s1 x4 hx5 hk6 => ?_)
  · refine (qBlockX (qThen ?_))
    refine HT.rg2 (oHs 2) ⟨[(4, aV 0)], [(0, .seq tLF r2)], 1⟩ hX (by kernel_rfl) allNil ?_
    have hr := of_some hr
    subst hr
    refine (Le.rz [] [] (st' := ⟨[(4, .one (.dat (.sl tLF) r2))], [], 1⟩) hX hF (by kernel_rfl)).ht ?_
    exact HT.ret ⟨[.one (.dat (.sl tLF) r2)], [], [], by kernel_rfl, by kernel_rfl, rfl, by kernel_rfl, by kernel_rfl, trivial⟩
  · refine HT.rg2 [oH] ⟨[(0, .one (.ip (.st (.pair tI (.pair tI (.pair tLF (.pair tLF tLF))))) a0 0)), (1, nV a1), (5, aV 0), (13, iV (lenI a1)), (14, iV s1.1), (15, bV (decide (s1.1 < (lenI a1))))], [(0, .seq tLF s1.2)], 1⟩ hX (by kernel_rfl) allNil ?_
    refine HT.seq ?_
    rcases of_bif hx5 with ⟨hb7, hx5⟩ | ⟨hb7, hx5⟩
    · refine HT.cond1 rfl hb7 ?_
      refine HT.skip (qThen ?_)
      refine HT.seq ?_
      refine HT.block ?_
      refine HT.rg2 (oHs 2) ⟨[(0, .one (.ip (.st (.pair tI (.pair tI (.pair tLF (.pair tLF tLF))))) a0 0)), (1, nV a1), (5, aV 0), (6, iV s1.1), (13, iV (lenI a1)), (14, iV s1.1)], [(0, .seq tLF s1.2)], 1⟩ hX (by kernel_rfl) allNil ?_
      obtain ⟨hg8, hx5⟩ := of_guard hx5
      obtain ⟨hg9, hx5⟩ := of_guard hx5
      obtain ⟨y10, hc11, hx5⟩ := of_bind hx5
      obtain ⟨hg12, hx5⟩ := of_guard hx5
      refine HT.drL 12 [⟨oH, []⟩, ⟨oH, []⟩, ⟨oH, []⟩, ⟨oH, []⟩, ⟨oH, [2, 3]⟩, ⟨oH, [2, 3, 4]⟩, ⟨oH, []⟩, ⟨oH, []⟩, ⟨oH, [6, 7]⟩, ⟨oH, [6, 7, 8]⟩, ⟨⟨none, .call [.pimm (.st (.pair tI (.pair tI (.pair tLF (.pair tLF tLF))))), .imm tLF, .imm tI] [⟨false, tLF, y10⟩] []⟩, [1, 2, 3, 4, 5, 6, 7, 8, 9]⟩, ⟨⟨none, .ty tLF⟩, [1, 2, 3, 4, 5, 6, 7, 8, 9, 10]⟩] [[0, 1, 2, 3, 4, 5, 6, 7, 8, 9, 10, 11], [0, 1, 2, 3, 4, 5, 6, 7, 8, 9, 10, 11, 12]] [⟨none, .ty tLF⟩, oH] ⟨[(0, .one (.ip (.st (.pair tI (.pair tI (.pair tLF (.pair tLF tLF))))) a0 0)), (1, nV a1), (5, aV 2), (13, iV (lenI a1)), (14, iV s1.1)], [(2, .seq tLF (s1.2 ++ ([y10] : List (List Nat))))], 3⟩ hX (by kernel_rfl) (by kernel_rfl) (allCons hg8 (allCons (natLt hg8) (allCons hg9 (allCons (CallOK.frz [true] rfl (f108_ok hc11)) (allCons hg12 allNil))))) (qBlock (qThen ?_))
      have hx5 := of_some hx5
      subst hx5
      exact HT.rgK (oHs 2) [(2, 0)] [] hX (by kernel_rfl) allNil (fun _ h => (qLoopN ⟨((wadd .i64 s1.1 (1 : Int)), (s1.2 ++ ([y10] : List (List Nat)))), rfl, h⟩))
    · refine HT.cond0 rfl hb7 ?_
      have hx5 := of_some hx5
      subst hx5
      exact HT.exitL (Le.re [(0, 0)] [] hX (by kernel_rfl)) (qThenE (qLoopE (hk6 s1.2 rfl)))

noncomputable def spec_l03Backward_B1 (a0 : Int × Int × List Nat × List Nat × List Nat) (a1 : List Int) (s5 : Int × List (List Nat)) (s12 : Int × List (List Nat)) (s19 : Nat × Int) : Option ((Nat × Int) ⊕ (Nat)) :=
  bif (decide (s19.2 < a0.1)) then
    guardP ((0 : Int) ≤ s5.1 ∧ s5.1 < lenI a1) (
      guardP ((0 : Int) ≤ (wadd .i64 (wmul .i64 s12.1 a0.2.1) (List.getD a1 (Int.toNat s5.1) (0 : Int))) ∧ (wadd .i64 (wmul .i64 s12.1 a0.2.1) (List.getD a1 (Int.toNat s5.1) (0 : Int))) < lenI a0.2.2.2.2) (
        guardP ((0 : Int) ≤ (wadd .i64 (wmul .i64 s12.1 a0.1) s19.2) ∧ (wadd .i64 (wmul .i64 s12.1 a0.1) s19.2) < lenI a0.2.2.2.1) (
          guardP ((0 : Int) ≤ (wadd .i64 s5.1 (1 : Int)) ∧ (wadd .i64 s5.1 (1 : Int)) < lenI s12.2) (
            guardP ((0 : Int) ≤ s19.2 ∧ s19.2 < lenI (List.getD s12.2 (Int.toNat (wadd .i64 s5.1 (1 : Int))) ([] : List Nat))) (
              some (.inl ((fop .add .f32 s19.1 (fop .mul .f32 (fop .mul .f32 (List.getD a0.2.2.2.2 (Int.toNat (wadd .i64 (wmul .i64 s12.1 a0.2.1) (List.getD a1 (Int.toNat s5.1) (0 : Int)))) (0 : Nat)) (List.getD a0.2.2.2.1 (Int.toNat (wadd .i64 (wmul .i64 s12.1 a0.1) s19.2)) (0 : Nat))) (List.getD (List.getD s12.2 (Int.toNat (wadd .i64 s5.1 (1 : Int))) ([] : List Nat)) (Int.toNat s19.2) (0 : Nat)))), (wadd .i64 s19.2 (1 : Int)))))))))
  else
    some (.inr s19.1)

noncomputable def spec_l03Backward_B2 (a0 : Int × Int × List Nat × List Nat × List Nat) (a1 : List Int) (s5 : Int × List (List Nat)) (s12 : Int × List (List Nat)) : Option ((Int × List (List Nat)) ⊕ (List (List Nat))) :=
  bif (decide (s12.1 < a0.1)) then
    (rounds (spec_l03Backward_B1 a0 a1 s5 s12) ((0 : Nat), (0 : Int))).bind fun r21 =>
    guardP ((0 : Int) ≤ s5.1 ∧ s5.1 < lenI s12.2) (
      guardP (List.length (List.getD s12.2 (Int.toNat s5.1) ([] : List Nat)) + List.length ([r21] : List Nat) ≤ appMax) (
        some (.inl ((wadd .i64 s12.1 (1 : Int)), (List.set s12.2 (Int.toNat s5.1) ((List.getD s12.2 (Int.toNat s5.1) ([] : List Nat)) ++ ([r21] : List Nat)))))))
  else
    some (.inr s12.2)

noncomputable def spec_l03Backward_B3 (a0 : Int × Int × List Nat × List Nat × List Nat) (a1 : List Int) (s5 : Int × List (List Nat)) : Option ((Int × List (List Nat)) ⊕ (List (List Nat))) :=
  bif (decide (s5.1 ≥ (0 : Int))) then
    (rounds (spec_l03Backward_B2 a0 a1 s5) ((0 : Int), s5.2)).bind fun r14 =>
    some (.inl ((wsub .i64 s5.1 (1 : Int)), r14))
  else
    some (.inr s5.2)

noncomputable def spec_l03Backward_B4 (a0 : Int × Int × List Nat × List Nat × List Nat) (a1 : List Int) (s2 : Int × List (List Nat)) : Option ((Int × List (List Nat)) ⊕ (List (List Nat))) :=
  bif (decide (s2.1 < a0.1)) then
    guardP ((0 : Int) ≤ (lenI a1) ∧ (lenI a1) < lenI s2.2) (
      guardP (List.length (List.getD s2.2 (Int.toNat (lenI a1)) ([] : List Nat)) + List.length ([(1065353216 : Nat)] : List Nat) ≤ appMax) (
        some (.inl ((wadd .i64 s2.1 (1 : Int)), (List.set s2.2 (Int.toNat (lenI a1)) ((List.getD s2.2 (Int.toNat (lenI a1)) ([] : List Nat)) ++ ([(1065353216 : Nat)] : List Nat)))))))
  else
    some (.inr s2.2)

noncomputable def spec_l03Backward (a0 : Int × Int × List Nat × List Nat × List Nat) (a1 : List Int) : Option (List (List Nat)) :=
  guardP ((0 : Int) ≤ (wadd .i64 (lenI a1) (1 : Int)) ∧ (wadd .i64 (lenI a1) (1 : Int)) ≤ 4294967296) (
    (rounds (spec_l03Backward_B4 a0 a1) ((0 : Int), (List.replicate (Int.toNat (wadd .i64 (lenI a1) (1 : Int))) ([] : List Nat)))).bind fun r4 =>
    (rounds (spec_l03Backward_B3 a0 a1) ((wsub .i64 (lenI a1) (1 : Int)), r4)).bind fun r7 =>
    some r7)

theorem f45_ok {a0 : Int × Int × List Nat × List Nat × List Nat} {a1 : List Int} {r : List (List Nat)} (hr : spec_l03Backward a0 a1 = some r) : CallOK Try.prog 45 [.pimm (.st (.pair tI (.pair tI (.pair tLF (.pair tLF tLF))))) a0, .imm tLI a1] [⟨true, (.sl (.own tF)), r⟩] [] := by
  unfold spec_l03Backward at hr
  refine CallOK.of_body (ts := [(true, (.sl (.own tF)))]) Try.func45 rfl (by kernel_rfl) (Nat.le_of_ble_eq_true (by kernel_rfl)) fun cx hP hN hO hF => ?_
  have hO : cx.own.map Prod.fst = [] := hO
  have hX := CxIs.mk hP hN hO
  have hF := hF rfl
  show HT cx ⟨[(0, .one (.ip (.st (.pair tI (.pair tI (.pair tLF (.pair tLF tLF))))) a0 0)), (1, nV a1)], [], 0⟩ _ _
  refine HT.rg2 [oH] ⟨[(0, .one (.ip (.st (.pair tI (.pair tI (.pair tLF (.pair tLF tLF))))) a0 0)), (1, nV a1)], [], 0⟩ hX (by kernel_rfl) allNil ?_
  refine HT.rg2 (oHs 3) ⟨[(0, .one (.ip (.st (.pair tI (.pair tI (.pair tLF (.pair tLF tLF))))) a0 0)), (1, nV a1), (5, iV (lenI a1))], [], 0⟩ hX (by kernel_rfl) allNil ?_
  obtain ⟨hg1, hr⟩ := of_guard hr
  refine HT.rg2 [oH, oH, ⟨none, .ty (.own tF)⟩, oH] ⟨[(0, .one (.ip (.st (.pair tI (.pair tI (.pair tLF (.pair tLF tLF))))) a0 0)), (1, nV a1), (5, iV (lenI a1)), (6, aV 0)], [(0, .seq (.own tF) (List.replicate (Int.toNat (wadd .i64 (lenI a1) (1 : Int))) ([] : List Nat)))], 1⟩ hX (by kernel_rfl) (allCons (show (0 : Int) ≤ (wadd .i64 (lenI a1) (1 : Int)) ∧ (wadd .i64 (lenI a1) (1 : Int)) ≤ (wadd .i64 (lenI a1) (1 : Int)) ∧ (wadd .i64 (lenI a1) (1 : Int)) ≤ 4294967296 from ⟨hg1.1, Int.le_refl _, hg1.2⟩) allNil) ?_
  refine HT.seq ?_
  refine HT.rg2 [oH] ⟨[(0, .one (.ip (.st (.pair tI (.pair tI (.pair tLF (.pair tLF tLF))))) a0 0)), (1, nV a1), (5, iV (lenI a1)), (6, aV 0), (7, iV (0 : Int))], [(0, .seq (.own tF) (List.replicate (Int.toNat (wadd .i64 (lenI a1) (1 : Int))) ([] : List Nat)))], 1⟩ hX (by kernel_rfl) allNil ?_
  refine HT.block ?_
  obtain ⟨r3, hL42, hr⟩ := of_bind hr
  refine HT.loopL (fun (s2 : Int × List (List Nat)) => ⟨[(0, .one (.ip (.st (.pair tI (.pair tI (.pair tLF (.pair tLF tLF))))) a0 0)), (1, nV a1), (5, iV (lenI a1)), (6, aV 0), (7, iV s2.1)], [(0, .seq (.own tF) s2.2)], 1⟩) (fun (r4 : List (List Nat)) => (.exit 0, ⟨[(0, .one (.ip (.st (.pair tI (.pair tI (.pair tLF (.pair tLF tLF))))) a0 0)), (1, nV a1), (5, iV (lenI a1)), (6, aV 0)], [(0, .seq (.own tF) r4)], 1⟩)) (Le.re [(0, 0)] [] hX (by kernel_rfl)) hL42 ?_ (fun s2 x36 hx37 hk38 => ?_)
  · refine (qBlockX (qThen ?_))
    refine HT.seq ?_
    refine HT.rg2 (oHs 3) ⟨[(0, .one (.ip (.st (.pair tI (.pair tI (.pair tLF (.pair tLF tLF))))) a0 0)), (1, nV a1), (6, aV 0), (8, iV (wsub .i64 (lenI a1) (1 : Int)))], [(0, .seq (.own tF) r3)], 1⟩ hX (by kernel_rfl) allNil ?_
    refine HT.block ?_
    obtain ⟨r6, hL35, hr⟩ := of_bind hr
    refine HT.loopL (fun (s5 : Int × List (List Nat)) => ⟨[(0, .one (.ip (.st (.pair tI (.pair tI (.pair tLF (.pair tLF tLF))))) a0 0)), (1, nV a1), (6, aV 0), (8, iV s5.1)], [(0, .seq (.own tF) s5.2)], 1⟩) (fun (r7 : List (List Nat)) => (.exit 2, ⟨[(6, aV 0)], [(0, .seq (.own tF) r7)], 1⟩)) (Le.re [(0, 0)] [] hX (by kernel_rfl)) hL35 ?_ (fun s5 x8 hx9 hk10 => ?_)
    · refine (qBlockX (qThen ?_))
      refine HT.rg2 (oHs 2) ⟨[(4, aV 0)], [(0, .seq (.own tF) r6)], 1⟩ hX (by kernel_rfl) allNil ?_
      have hr := of_some hr
      subst hr
      exact HT.ret ⟨[aV 0], [0], [], by kernel_rfl, by kernel_rfl, rfl, by kernel_rfl, by kernel_rfl, trivial⟩
    · refine HT.seq ?_
      refine HT.rg2 (oHs 2) ⟨[(0, .one (.ip (.st (.pair tI (.pair tI (.pair tLF (.pair tLF tLF))))) a0 0)), (1, nV a1), (6, aV 0), (8, iV s5.1), (37, bV (decide (s5.1 ≥ (0 : Int))))], [(0, .seq (.own tF) s5.2)], 1⟩ hX (by kernel_rfl) allNil ?_
      rcases of_bif hx9 with ⟨hb11, hx9⟩ | ⟨hb11, hx9⟩
      · refine HT.cond1 rfl hb11 ?_
        refine HT.skip (qThen ?_)
        refine HT.seq ?_
        refine HT.block ?_
        refine HT.rg2 [oH] ⟨[(0, .one (.ip (.st (.pair tI (.pair tI (.pair tLF (.pair tLF tLF))))) a0 0)), (1, nV a1), (6, aV 0), (8, iV s5.1), (9, iV (0 : Int))], [(0, .seq (.own tF) s5.2)], 1⟩ hX (by kernel_rfl) allNil ?_
        refine HT.block ?_
        obtain ⟨r13, hL34, hx9⟩ := of_bind hx9
        refine HT.loopL (fun (s12 : Int × List (List Nat)) => ⟨[(0, .one (.ip (.st (.pair tI (.pair tI (.pair tLF (.pair tLF tLF))))) a0 0)), (1, nV a1), (6, aV 0), (8, iV s5.1), (9, iV s12.1)], [(0, .seq (.own tF) s12.2)], 1⟩) (fun (r14 : List (List Nat)) => (.exit 4, ⟨[(0, .one (.ip (.st (.pair tI (.pair tI (.pair tLF (.pair tLF tLF))))) a0 0)), (1, nV a1), (6, aV 0), (8, iV s5.1)], [(0, .seq (.own tF) r14)], 1⟩)) (Le.re [(0, 0)] [] hX (by kernel_rfl)) hL34 ?_ (fun s12 x15 hx16 hk17 => ?_)
        · refine (qBlockX (qBlock (qThen ?_)))
          have hx9 := of_some hx9
          subst hx9
          exact HT.rgK (oHs 3) [(0, 0)] [] hX (by kernel_rfl) allNil (fun _ h => (qLoopN ⟨((wsub .i64 s5.1 (1 : Int)), r13), rfl, h⟩))
        · refine HT.seq ?_
          refine HT.rg2 (oHs 6) ⟨[(0, .one (.ip (.st (.pair tI (.pair tI (.pair tLF (.pair tLF tLF))))) a0 0)), (1, nV a1), (6, aV 0), (8, iV s5.1), (9, iV s12.1), (45, bV (decide (s12.1 < a0.1)))], [(0, .seq (.own tF) s12.2)], 1⟩ hX (by kernel_rfl) allNil ?_
          rcases of_bif hx16 with ⟨hb18, hx16⟩ | ⟨hb18, hx16⟩
          · refine HT.cond1 rfl hb18 ?_
            refine HT.skip (qThen ?_)
            refine HT.seq ?_
            refine HT.block ?_
            refine HT.rg2 [oH] ⟨[(0, .one (.ip (.st (.pair tI (.pair tI (.pair tLF (.pair tLF tLF))))) a0 0)), (1, nV a1), (6, aV 0), (8, iV s5.1), (9, iV s12.1), (10, fV (0 : Nat))], [(0, .seq (.own tF) s12.2)], 1⟩ hX (by kernel_rfl) allNil ?_
            refine HT.seq ?_
            refine HT.rg2 [oH] ⟨[(0, .one (.ip (.st (.pair tI (.pair tI (.pair tLF (.pair tLF tLF))))) a0 0)), (1, nV a1), (6, aV 0), (8, iV s5.1), (9, iV s12.1), (10, fV (0 : Nat)), (11, iV (0 : Int))], [(0, .seq (.own tF) s12.2)], 1⟩ hX (by kernel_rfl) allNil ?_
            refine HT.block ?_
            obtain ⟨r20, hL33, hx16⟩ := of_bind hx16
            refine HT.loopL (fun (s19 : Nat × Int) => ⟨[(0, .one (.ip (.st (.pair tI (.pair tI (.pair tLF (.pair tLF tLF))))) a0 0)), (1, nV a1), (6, aV 0), (8, iV s5.1), (9, iV s12.1), (10, fV s19.1), (11, iV s19.2)], [(0, .seq (.own tF) s12.2)], 1⟩) (fun (r21 : Nat) => (.exit 6, ⟨[(0, .one (.ip (.st (.pair tI (.pair tI (.pair tLF (.pair tLF tLF))))) a0 0)), (1, nV a1), (6, aV 0), (8, iV s5.1), (9, iV s12.1), (10, fV r21)], [(0, .seq (.own tF) s12.2)], 1⟩)) (Le.re [(0, 0)] [] hX (by kernel_rfl)) hL33 ?_ (fun s19 x24 hx25 hk26 => ?_)
            · refine (qBlockX (qThen ?_))
              obtain ⟨hg22, hx16⟩ := of_guard hx16
              obtain ⟨hg23, hx16⟩ := of_guard hx16
              refine HT.regC (rs := [oH, oH, oH, oH, oH, ⟨none, .opn⟩, oH, ⟨none, .ty tF⟩, ⟨none, .ty tF⟩, oH, oH]) ⟨[(108, .one (.elp 0 (Int.toNat s5.1) 1 0)), (107, aV 3), (106, aV 2), (105, fV r20), (104, aV 1), (103, .one (.elp 0 (Int.toNat s5.1) 1 0)), (102, iV s5.1), (101, aV 0), (100, iV s5.1), (99, aV 0), (0, .one (.ip (.st (.pair tI (.pair tI (.pair tLF (.pair tLF tLF))))) a0 0)), (1, nV a1), (6, aV 0), (8, iV s5.1), (9, iV s12.1), (10, fV r20)], [(0, .opn (.own tF) s12.2 (Int.toNat s5.1) [.all 3] [1]), (1, .gone), (3, .seq tF ((List.getD s12.2 (Int.toNat s5.1) ([] : List Nat)) ++ ([r20] : List Nat))), (2, .seq tF ([r20] : List Nat)), (0, .opn (.own tF) s12.2 (Int.toNat s5.1) [.all 1] [1]), (1, .seq tF (List.getD s12.2 (Int.toNat s5.1) ([] : List Nat))), (0, .seq (.own tF) s12.2)], 4⟩ hP hN (by kernel_rfl) (allCons hg22 (allCons (natLt hg22) (allCons hg23 (allCons hg22 (allCons (show Int.toNat s5.1 = Int.toNat s5.1 from rfl) allNil))))) (Le.close (own := []) 0 (st' := ⟨[(108, .one (.elp 0 (Int.toNat s5.1) 1 0)), (107, aV 3), (106, aV 2), (105, fV r20), (104, aV 1), (103, .one (.elp 0 (Int.toNat s5.1) 1 0)), (102, iV s5.1), (101, aV 0), (100, iV s5.1), (99, aV 0), (0, .one (.ip (.st (.pair tI (.pair tI (.pair tLF (.pair tLF tLF))))) a0 0)), (1, nV a1), (6, aV 0), (8, iV s5.1), (9, iV s12.1), (10, fV r20)], [(0, .seq (.own tF) (List.set s12.2 (Int.toNat s5.1) ((List.getD s12.2 (Int.toNat s5.1) ([] : List Nat)) ++ ([r20] : List Nat)))), (3, .gone), (1, .gone), (2, .seq tF ([r20] : List Nat)), (1, .seq tF (List.getD s12.2 (Int.toNat s5.1) ([] : List Nat)))], 4⟩) hO (by kernel_rfl)) (qBlock (qThen ?_))
              have hx16 := of_some hx16
              subst hx16
              exact HT.rgK (oHs 3) [(0, 0)] [] hX (by kernel_rfl) allNil (fun _ h => (qLoopN ⟨((wadd .i64 s12.1 (1 : Int)), (List.set s12.2 (Int.toNat s5.1) ((List.getD s12.2 (Int.toNat s5.1) ([] : List Nat)) ++ ([r20] : List Nat)))), rfl, h⟩))
            · refine HT.seq ?_
              refine HT.rg2 (oHs 6) ⟨[(0, .one (.ip (.st (.pair tI (.pair tI (.pair tLF (.pair tLF tLF))))) a0 0)), (1, nV a1), (6, aV 0), (8, iV s5.1), (9, iV s12.1), (10, fV s19.1), (11, iV s19.2), (53, bV (decide (s19.2 < a0.1)))], [(0, .seq (.own tF) s12.2)], 1⟩ hX (by kernel_rfl) allNil ?_
              rcases of_bif hx25 with ⟨hb27, hx25⟩ | ⟨hb27, hx25⟩
              · refine HT.cond1 rfl hb27 ?_
                refine HT.skip (qThen ?_)
                refine HT.seq ?_
                refine HT.block ?_
                obtain ⟨hg28, hx25⟩ := of_guard hx25
                obtain ⟨hg29, hx25⟩ := of_guard hx25
                obtain ⟨hg30, hx25⟩ := of_guard hx25
                obtain ⟨hg31, hx25⟩ := of_guard hx25
                obtain ⟨hg32, hx25⟩ := of_guard hx25
                refine HT.drL 42 [⟨oH, []⟩, ⟨oH, []⟩, ⟨oH, [1]⟩, ⟨oH, [1, 2]⟩, ⟨oH, [1, 2, 3]⟩, ⟨oH, []⟩, ⟨oH, []⟩, ⟨oH, [6]⟩, ⟨oH, [6, 7]⟩, ⟨oH, [6, 7, 8]⟩, ⟨oH, [5, 6, 7, 8, 9]⟩, ⟨oH, []⟩, ⟨oH, []⟩, ⟨oH, [11, 12]⟩, ⟨oH, [11, 12, 13]⟩, ⟨oH, [5, 6, 7, 8, 9, 10, 11, 12, 13, 14]⟩, ⟨oH, [1, 2, 3, 4, 5, 6, 7, 8, 9, 10, 11, 12, 13, 14, 15]⟩, ⟨oH, [1, 2, 3, 4, 5, 6, 7, 8, 9, 10, 11, 12, 13, 14, 15, 16]⟩, ⟨oH, []⟩, ⟨oH, [18]⟩, ⟨oH, [18, 19]⟩, ⟨oH, [18, 19, 20]⟩, ⟨oH, []⟩, ⟨oH, []⟩, ⟨oH, [23]⟩, ⟨oH, [23, 24]⟩, ⟨oH, [23, 24, 25]⟩, ⟨oH, [22, 23, 24, 25, 26]⟩, ⟨oH, []⟩, ⟨oH, [22, 23, 24, 25, 26, 27, 28]⟩, ⟨oH, [18, 19, 20, 21, 22, 23, 24, 25, 26, 27, 28, 29]⟩, ⟨oH, [18, 19, 20, 21, 22, 23, 24, 25, 26, 27, 28, 29, 30]⟩, ⟨oH, [1, 2, 3, 4, 5, 6, 7, 8, 9, 10, 11, 12, 13, 14, 15, 16, 17, 18, 19, 20, 21, 22, 23, 24, 25, 26, 27, 28, 29, 30, 31]⟩, ⟨oH, []⟩, ⟨oH, []⟩, ⟨oH, [34]⟩, ⟨oH, [33, 34, 35]⟩, ⟨oH, [33, 34, 35, 36]⟩, ⟨oH, []⟩, ⟨oH, [33, 34, 35, 36, 37, 38]⟩, ⟨oH, [33, 34, 35, 36, 37, 38, 39]⟩, ⟨oH, [1, 2, 3, 4, 5, 6, 7, 8, 9, 10, 11, 12, 13, 14, 15, 16, 17, 18, 19, 20, 21, 22, 23, 24, 25, 26, 27, 28, 29, 30, 31, 32, 33, 34, 35, 36, 37, 38, 39, 40]⟩] [[0, 1, 2, 3, 4, 5, 6, 7, 8, 9, 10, 11, 12, 13, 14, 15, 16, 17, 18, 19, 20, 21, 22, 23, 24, 25, 26, 27, 28, 29, 30, 31, 32, 33, 34, 35, 36, 37, 38, 39, 40, 41], [0, 1, 2, 3, 4, 5, 6, 7, 8, 9, 10, 11, 12, 13, 14, 15, 16, 17, 18, 19, 20, 21, 22, 23, 24, 25, 26, 27, 28, 29, 30, 31, 32, 33, 34, 35, 36, 37, 38, 39, 40, 41, 42]] (oHs 2) ⟨[(0, .one (.ip (.st (.pair tI (.pair tI (.pair tLF (.pair tLF tLF))))) a0 0)), (1, nV a1), (6, aV 0), (8, iV s5.1), (9, iV s12.1), (10, fV (fop .add .f32 s19.1 (fop .mul .f32 (fop .mul .f32 (List.getD a0.2.2.2.2 (Int.toNat (wadd .i64 (wmul .i64 s12.1 a0.2.1) (List.getD a1 (Int.toNat s5.1) (0 : Int)))) (0 : Nat)) (List.getD a0.2.2.2.1 (Int.toNat (wadd .i64 (wmul .i64 s12.1 a0.1) s19.2)) (0 : Nat))) (List.getD (List.getD s12.2 (Int.toNat (wadd .i64 s5.1 (1 : Int))) ([] : List Nat)) (Int.toNat s19.2) (0 : Nat))))), (11, iV s19.2)], [(0, .seq (.own tF) s12.2)], 1⟩ hX (by kernel_rfl) (by kernel_rfl) (allCons hg28 (allCons hg29 (allCons hg30 (allCons hg31 (allCons (natLt hg31) (allCons hg32 (allCons (natLt hg32) allNil))))))) (qBlock (qThen ?_))
                have hx25 := of_some hx25
                subst hx25
                exact HT.rgK (oHs 3) [(0, 0)] [] hX (by kernel_rfl) allNil (fun _ h => (qLoopN ⟨((fop .add .f32 s19.1 (fop .mul .f32 (fop .mul .f32 (List.getD a0.2.2.2.2 (Int.toNat (wadd .i64 (wmul .i64 s12.1 a0.2.1) (List.getD a1 (Int.toNat s5.1) (0 : Int)))) (0 : Nat)) (List.getD a0.2.2.2.1 (Int.toNat (wadd .i64 (wmul .i64 s12.1 a0.1) s19.2)) (0 : Nat))) (List.getD (List.getD s12.2 (Int.toNat (wadd .i64 s5.1 (1 : Int))) ([] : List Nat)) (Int.toNat s19.2) (0 : Nat)))), (wadd .i64 s19.2 (1 : Int))), rfl, h⟩))
              · refine HT.cond0 rfl hb27 ?_
                have hx25 := of_some hx25
                subst hx25
                exact HT.exitL (Le.re [(0, 0)] [] hX (by kernel_rfl)) (qThenE (qLoopE (hk26 s19.1 rfl)))
          · refine HT.cond0 rfl hb18 ?_
            have hx16 := of_some hx16
            subst hx16
            exact HT.exitL (Le.re [(0, 0)] [] hX (by kernel_rfl)) (qThenE (qLoopE (hk17 s12.2 rfl)))
      · refine HT.cond0 rfl hb11 ?_
        have hx9 := of_some hx9
        subst hx9
        exact HT.exitL (Le.re [(0, 0)] [] hX (by kernel_rfl)) (qThenE (qLoopE (hk10 s5.2 rfl)))
  · refine HT.seq ?_
    refine HT.rg2 (oHs 6) ⟨[(0, .one (.ip (.st (.pair tI (.pair tI (.pair tLF (.pair tLF tLF))))) a0 0)), (1, nV a1), (5, iV (lenI a1)), (6, aV 0), (7, iV s2.1), (22, bV (decide (s2.1 < a0.1)))], [(0, .seq (.own tF) s2.2)], 1⟩ hX (by kernel_rfl) allNil ?_
    rcases of_bif hx37 with ⟨hb39, hx37⟩ | ⟨hb39, hx37⟩
    · refine HT.cond1 rfl hb39 ?_
      refine HT.skip (qThen ?_)
      refine HT.seq ?_
      refine HT.block ?_
      obtain ⟨hg40, hx37⟩ := of_guard hx37
      obtain ⟨hg41, hx37⟩ := of_guard hx37
      refine HT.regC (rs := [oH, oH, oH, oH, oH, ⟨none, .opn⟩, ⟨none, .ty tF⟩, ⟨none, .ty tF⟩, oH, oH]) ⟨[(33, .one (.elp 0 (Int.toNat (lenI a1)) 1 0)), (32, aV 3), (31, aV 2), (30, aV 1), (29, .one (.elp 0 (Int.toNat (lenI a1)) 1 0)), (28, iV (lenI a1)), (27, aV 0), (26, iV (lenI a1)), (25, aV 0), (0, .one (.ip (.st (.pair tI (.pair tI (.pair tLF (.pair tLF tLF))))) a0 0)), (1, nV a1), (5, iV (lenI a1)), (6, aV 0), (7, iV s2.1), (22, bV (decide (s2.1 < a0.1)))], [(0, .opn (.own tF) s2.2 (Int.toNat (lenI a1)) [.all 3] [1]), (1, .gone), (3, .seq tF ((List.getD s2.2 (Int.toNat (lenI a1)) ([] : List Nat)) ++ ([(1065353216 : Nat)] : List Nat))), (2, .seq tF ([(1065353216 : Nat)] : List Nat)), (0, .opn (.own tF) s2.2 (Int.toNat (lenI a1)) [.all 1] [1]), (1, .seq tF (List.getD s2.2 (Int.toNat (lenI a1)) ([] : List Nat))), (0, .seq (.own tF) s2.2)], 4⟩ hP hN (by kernel_rfl) (allCons hg40 (allCons (natLt hg40) (allCons hg41 (allCons hg40 (allCons (show Int.toNat (lenI a1) = Int.toNat (lenI a1) from rfl) allNil))))) (Le.close (own := []) 0 (st' := ⟨[(33, .one (.elp 0 (Int.toNat (lenI a1)) 1 0)), (32, aV 3), (31, aV 2), (30, aV 1), (29, .one (.elp 0 (Int.toNat (lenI a1)) 1 0)), (28, iV (lenI a1)), (27, aV 0), (26, iV (lenI a1)), (25, aV 0), (0, .one (.ip (.st (.pair tI (.pair tI (.pair tLF (.pair tLF tLF))))) a0 0)), (1, nV a1), (5, iV (lenI a1)), (6, aV 0), (7, iV s2.1), (22, bV (decide (s2.1 < a0.1)))], [(0, .seq (.own tF) (List.set s2.2 (Int.toNat (lenI a1)) ((List.getD s2.2 (Int.toNat (lenI a1)) ([] : List Nat)) ++ ([(1065353216 : Nat)] : List Nat)))), (3, .gone), (1, .gone), (2, .seq tF ([(1065353216 : Nat)] : List Nat)), (1, .seq tF (List.getD s2.2 (Int.toNat (lenI a1)) ([] : List Nat)))], 4⟩) hO (by kernel_rfl)) (qBlock (qThen ?_))
      have hx37 := of_some hx37
      subst hx37
      exact HT.rgK (oHs 3) [(0, 0)] [] hX (by kernel_rfl) allNil (fun _ h => (qLoopN ⟨((wadd .i64 s2.1 (1 : Int)), (List.set s2.2 (Int.toNat (lenI a1)) ((List.getD s2.2 (Int.toNat (lenI a1)) ([] : List Nat)) ++ ([(1065353216 : Nat)] : List Nat)))), rfl, h⟩))
    · refine HT.cond0 rfl hb39 ?_
      have hx37 := of_some hx37
      subst hx37
      exact HT.exitL (Le.re [(0, 0)] [] hX (by kernel_rfl)) (qThenE (qLoopE (hk38 s2.2 rfl)))

noncomputable def spec_l01Finite (a0 : Nat) : Option (Bool) :=
  some (feq .f32 (fop .sub .f32 a0 a0) (0 : Nat))

theorem f131_ok {a0 : Nat} {r : Bool} (hr : spec_l01Finite a0 = some r) : CallOK Try.prog 131 [.imm tF a0] [⟨false, .bool, r⟩] [] := by
  unfold spec_l01Finite at hr
  refine CallOK.of_body (ts := [(false, .bool)]) Try.func131 rfl (by kernel_rfl) (Nat.le_of_ble_eq_true (by kernel_rfl)) fun cx hP hN hO hF => ?_
  have hO : cx.own.map Prod.fst = [] := hO
  have hX := CxIs.mk hP hN hO
  have hF := hF rfl
  show HT cx ⟨[(0, fV a0)], [], 0⟩ _ _
  refine HT.rg2 [oH] ⟨[(0, fV a0)], [], 0⟩ hX (by kernel_rfl) allNil ?_
  refine HT.rg2 (oHs 5) ⟨[(2, bV (feq .f32 (fop .sub .f32 a0 a0) (0 : Nat)))], [], 0⟩ hX (by kernel_rfl) allNil ?_
  have hr := of_some hr
  subst hr
  exact HT.ret ⟨[bV (feq .f32 (fop .sub .f32 a0 a0) (0 : Nat))], [], [], by kernel_rfl, by kernel_rfl, rfl, by kernel_rfl, by kernel_rfl, trivial⟩

noncomputable def spec_l02Finite_B1 (a0 : List Nat) (s1 : Int) : Option ((Int) ⊕ (Unit ⊕ Unit)) :=
  bif (decide (s1 < (lenI a0))) then
    guardP ((0 : Int) ≤ s1 ∧ s1 < lenI a0) (
      (spec_l01Finite (List.getD a0 (Int.toNat s1) (0 : Nat))).bind fun y10 =>
      bif (!y10) then
        some (.inr (.inr ()))
      else
        some (.inl (wadd .i64 s1 (1 : Int))))
  else
    some (.inr (.inl ()))

noncomputable def spec_l02Finite (a0 : List Nat) : Option (Bool) :=
  (rounds (spec_l02Finite_B1 a0) (0 : Int)).bind fun r2 => match r2 with
    | .inl r3 =>
      some true
    | .inr r4 =>
      some false

theorem f110_ok {a0 : List Nat} {r : Bool} (hr : spec_l02Finite a0 = some r) : CallOK Try.prog 110 [.imm tLF a0] [⟨false, .bool, r⟩] [] := by
  unfold spec_l02Finite at hr
  refine CallOK.of_body (ts := [(false, .bool)]) Try.func110 rfl (by kernel_rfl) (Nat.le_of_ble_eq_true (by kernel_rfl)) fun cx hP hN hO hF => ?_
  have hO : cx.own.map Prod.fst = [] := hO
  have hX := CxIs.mk hP hN hO
  have hF := hF rfl
  show HT cx ⟨[(0, lV a0)], [], 0⟩ _ _
  refine HT.rg2 [oH] ⟨[(0, lV a0)], [], 0⟩ hX (by kernel_rfl) allNil ?_
  refine HT.seq ?_
  refine HT.rg2 [oH] ⟨[(0, lV a0), (3, iV (0 : Int))], [], 0⟩ hX (by kernel_rfl) allNil ?_
  refine HT.block ?_
  obtain ⟨r2, hL13, hr⟩ := of_bind hr
  refine HT.loopL (fun (s1 : Int) => ⟨[(0, lV a0), (3, iV s1)], [], 0⟩) (fun (r2 : Unit ⊕ Unit) => match r2 with | .inl r3 => (.exit 0, ⟨[], [], 0⟩) | .inr r4 => (.ret, ⟨[(2, bV false)], [], 0⟩)) (Le.re [] [] hX (by kernel_rfl)) hL13 ?_ (fun s1 x5 hx6 hk7 => ?_)
  · rcases r2 with r3 | r4
    · refine (qBlockX (qThen ?_))
      refine HT.rg2 [oH] ⟨[(2, bV true)], [], 0⟩ hX (by kernel_rfl) allNil ?_
      have hr := of_some hr
      subst hr
      exact HT.ret ⟨[bV true], [], [], by kernel_rfl, by kernel_rfl, rfl, by kernel_rfl, by kernel_rfl, trivial⟩
    · have hr := of_some hr
      subst hr
      exact (qBlockR (qThenR ⟨[bV false], [], [], by kernel_rfl, by kernel_rfl, rfl, by kernel_rfl, by kernel_rfl, trivial⟩))
  · refine HT.seq ?_
    refine HT.rg2 (oHs 4) ⟨[(0, lV a0), (3, iV s1), (7, bV (decide (s1 < (lenI a0))))], [], 0⟩ hX (by kernel_rfl) allNil ?_
    rcases of_bif hx6 with ⟨hb8, hx6⟩ | ⟨hb8, hx6⟩
    · refine HT.cond1 rfl hb8 ?_
      refine HT.skip (qThen ?_)
      refine HT.seq ?_
      refine HT.block ?_
      obtain ⟨hg9, hx6⟩ := of_guard hx6
      obtain ⟨y10, hc11, hx6⟩ := of_bind hx6
      refine HT.rg2 [oH, oH, oH, oH, ⟨none, .call [.imm tF] [⟨false, .bool, y10⟩] []⟩, oH] ⟨[(0, lV a0), (3, iV s1), (15, bV (!y10))], [], 0⟩ hX (by kernel_rfl) (allCons hg9 (allCons (f131_ok hc11) allNil)) ?_
      rcases of_bif hx6 with ⟨hb12, hx6⟩ | ⟨hb12, hx6⟩
      · refine HT.cond1 rfl hb12 ?_
        refine HT.rg2 [oH] ⟨[(2, bV false)], [], 0⟩ hX (by kernel_rfl) allNil ?_
        have hx6 := of_some hx6
        subst hx6
        exact HT.retL (Le.re [] [] hX (by kernel_rfl)) (qBlockR (qThenR (qLoopR (hk7 (.inr ()) rfl))))
      · refine HT.cond0 rfl hb12 ?_
        refine HT.skip (qBlock (qThen ?_))
        have hx6 := of_some hx6
        subst hx6
        exact HT.rgK (oHs 3) [] [] hX (by kernel_rfl) allNil (fun _ h => (qLoopN ⟨(wadd .i64 s1 (1 : Int)), rfl, h⟩))
    · refine HT.cond0 rfl hb8 ?_
      have hx6 := of_some hx6
      subst hx6
      exact HT.exitL (Le.re [] [] hX (by kernel_rfl)) (qThenE (qLoopE (hk7 (.inl ()) rfl)))

noncomputable def spec_l03Shares_B1 (a0 : List Nat) (y1 : Nat) (s4 : Int × List Nat) : Option ((Int × List Nat) ⊕ (List Nat)) :=
  bif (decide (s4.1 < (lenI a0))) then
    guardP ((0 : Int) ≤ s4.1 ∧ s4.1 < lenI a0) (
      guardP (List.length s4.2 + List.length ([(fop .quo .f32 (List.getD a0 (Int.toNat s4.1) (0 : Nat)) y1)] : List Nat) ≤ appMax) (
        some (.inl ((wadd .i64 s4.1 (1 : Int)), (s4.2 ++ ([(fop .quo .f32 (List.getD a0 (Int.toNat s4.1) (0 : Nat)) y1)] : List Nat))))))
  else
    some (.inr s4.2)

noncomputable def spec_l03Shares (a0 : List Nat) : Option (List Nat × Bool) :=
  (spec_l03Sum a0).bind fun y1 =>
  bif (!(fgt .f32 y1 (0 : Nat))) then
    some (([] : List Nat), false)
  else
    (rounds (spec_l03Shares_B1 a0 y1) ((0 : Int), ([] : List Nat))).bind fun r6 =>
    (spec_l02Finite r6).bind fun y7 =>
    some (r6, y7)

theorem f86_ok {a0 : List Nat} {r : List Nat × Bool} (hr : spec_l03Shares a0 = some r) : CallOK Try.prog 86 [.imm tLF a0] [⟨true, tLF, r.1⟩, ⟨false, .bool, r.2⟩] [] := by
  unfold spec_l03Shares at hr
  refine CallOK.of_body (ts := [(true, tLF), (false, .bool)]) Try.func86 rfl (by kernel_rfl) (Nat.le_of_ble_eq_true (by kernel_rfl)) fun cx hP hN hO hF => ?_
  have hO : cx.own.map Prod.fst = [] := hO
  have hX := CxIs.mk hP hN hO
  have hF := hF rfl
  show HT cx ⟨[(0, lV a0)], [], 0⟩ _ _
  refine HT.rg2 (oHs 2) ⟨[(0, lV a0)], [], 0⟩ hX (by kernel_rfl) allNil ?_
  obtain ⟨y1, hc2, hr⟩ := of_bind hr
  refine HT.rg2 [oH, ⟨none, .call [.imm tLF] [⟨false, tF, y1⟩] []⟩, oH] ⟨[(0, lV a0), (4, fV y1)], [], 0⟩ hX (by kernel_rfl) (allCons (f109_ok hc2) allNil) ?_
  refine HT.seq ?_
  refine HT.rg2 (oHs 3) ⟨[(0, lV a0), (4, fV y1), (11, bV (!(fgt .f32 y1 (0 : Nat))))], [], 0⟩ hX (by kernel_rfl) allNil ?_
  rcases of_bif hr with ⟨hb3, hr⟩ | ⟨hb3, hr⟩
  · refine HT.cond1 rfl hb3 ?_
    refine HT.rg2 (oHs 2) ⟨[(2, .one (.nilS)), (3, bV false)], [], 0⟩ hX (by kernel_rfl) allNil ?_
    have hr := of_some hr
    subst hr
    exact HT.ret (qThenR ⟨[.one (.nilS), bV false], [], [], by kernel_rfl, by kernel_rfl, rfl, by kernel_rfl, by kernel_rfl, trivial⟩)
  · refine HT.cond0 rfl hb3 ?_
    refine HT.skip (qThen ?_)
    refine HT.rg2 (oHs 2) ⟨[(0, lV a0), (4, fV y1), (5, .one (.nilS))], [], 0⟩ hX (by kernel_rfl) allNil ?_
    refine HT.seq ?_
    refine HT.rg2 (oHs 3) ⟨[(0, lV a0), (4, fV y1), (5, .one (.nilS)), (14, iV (lenI a0)), (15, iV (0 : Int))], [], 0⟩ hX (by kernel_rfl) allNil ?_
    refine HT.block ?_
    obtain ⟨r5, hL15, hr⟩ := of_bind hr
    refine HT.loopL (fun (s4 : Int × List Nat) => ⟨[(0, lV a0), (4, fV y1), (5, aV 0), (14, iV (lenI a0)), (15, iV s4.1)], [(0, .seq tF s4.2)], 1⟩) (fun (r6 : List Nat) => (.exit 0, ⟨[(5, aV 0)], [(0, .seq tF r6)], 1⟩)) (Le.re [] [0] hX (by kernel_rfl)) hL15 ?_ (fun s4 x9 hx10 hk11 => ?_)
    · refine (qBlockX (qThen ?_))
      obtain ⟨y7, hc8, hr⟩ := of_bind hr
      refine HT.rg2 [oH, oH, ⟨none, .call [.imm tLF] [⟨false, .bool, y7⟩] []⟩, oH, oH] ⟨[(2, aV 0), (3, bV y7)], [(0, .seq tF r5)], 1⟩ hX (by kernel_rfl) (allCons (f110_ok hc8) allNil) ?_
      have hr := of_some hr
      subst hr
      exact HT.ret ⟨[aV 0, bV y7], [0], [], by kernel_rfl, by kernel_rfl, rfl, by kernel_rfl, by kernel_rfl, trivial⟩
    · refine HT.rg2 [oH] ⟨[(0, lV a0), (4, fV y1), (5, aV 0), (14, iV (lenI a0)), (15, iV s4.1), (16, bV (decide (s4.1 < (lenI a0))))], [(0, .seq tF s4.2)], 1⟩ hX (by kernel_rfl) allNil ?_
      refine HT.seq ?_
      rcases of_bif hx10 with ⟨hb12, hx10⟩ | ⟨hb12, hx10⟩
      · refine HT.cond1 rfl hb12 ?_
        refine HT.skip (qThen ?_)
        refine HT.seq ?_
        refine HT.block ?_
        refine HT.rg2 (oHs 2) ⟨[(0, lV a0), (4, fV y1), (5, aV 0), (6, iV s4.1), (14, iV (lenI a0)), (15, iV s4.1)], [(0, .seq tF s4.2)], 1⟩ hX (by kernel_rfl) allNil ?_
        obtain ⟨hg13, hx10⟩ := of_guard hx10
        obtain ⟨hg14, hx10⟩ := of_guard hx10
        refine HT.rgL [oH, oH, oH, oH, oH, oH, oH, ⟨none, .ty tF⟩, ⟨none, .ty tF⟩, oH] ⟨[(0, lV a0), (4, fV y1), (5, aV 2), (14, iV (lenI a0)), (15, iV s4.1)], [(2, .seq tF (s4.2 ++ ([(fop .quo .f32 (List.getD a0 (Int.toNat s4.1) (0 : Nat)) y1)] : List Nat)))], 3⟩ hX (by kernel_rfl) (allCons hg13 (allCons hg14 allNil)) (qBlock (qThen ?_))
        have hx10 := of_some hx10
        subst hx10
        exact HT.rgK (oHs 2) [(2, 0)] [] hX (by kernel_rfl) allNil (fun _ h => (qLoopN ⟨((wadd .i64 s4.1 (1 : Int)), (s4.2 ++ ([(fop .quo .f32 (List.getD a0 (Int.toNat s4.1) (0 : Nat)) y1)] : List Nat))), rfl, h⟩))
      · refine HT.cond0 rfl hb12 ?_
        have hx10 := of_some hx10
        subst hx10
        exact HT.exitL (Le.re [(0, 0)] [] hX (by kernel_rfl)) (qThenE (qLoopE (hk11 s4.2 rfl)))

noncomputable def spec_l03Hidden_B1 (a2 : Int) (y1 : List (List Nat)) (y4 : List (List Nat)) (s7 : Int × List Nat) : Option ((Int × List Nat) ⊕ (List Nat)) :=
  bif (decide (s7.1 < (lenI (List.getD y1 (Int.toNat a2) ([] : List Nat))))) then
    guardP ((0 : Int) ≤ s7.1 ∧ s7.1 < lenI (List.getD y1 (Int.toNat a2) ([] : List Nat))) (
      guardP ((0 : Int) ≤ s7.1 ∧ s7.1 < lenI (List.getD y4 (Int.toNat a2) ([] : List Nat))) (
        guardP (List.length s7.2 + List.length ([(fop .mul .f32 (List.getD (List.getD y1 (Int.toNat a2) ([] : List Nat)) (Int.toNat s7.1) (0 : Nat)) (List.getD (List.getD y4 (Int.toNat a2) ([] : List Nat)) (Int.toNat s7.1) (0 : Nat)))] : List Nat) ≤ appMax) (
          some (.inl ((wadd .i64 s7.1 (1 : Int)), (s7.2 ++ ([(fop .mul .f32 (List.getD (List.getD y1 (Int.toNat a2) ([] : List Nat)) (Int.toNat s7.1) (0 : Nat)) (List.getD (List.getD y4 (Int.toNat a2) ([] : List Nat)) (Int.toNat s7.1) (0 : Nat)))] : List Nat)))))))
  else
    some (.inr s7.2)

noncomputable def spec_l03Hidden (a0 : Int × Int × List Nat × List Nat × List Nat) (a1 : List Int) (a2 : Int) : Option (List Nat × Bool) :=
  (spec_l03Forward (a0.1, a0.2.1, a0.2.2.1, a0.2.2.2.1, a0.2.2.2.2) a1).bind fun y1 =>
  guardP ((0 : Int) ≤ a2 ∧ a2 < lenI y1) (
    (spec_l03Backward (a0.1, a0.2.1, a0.2.2.1, a0.2.2.2.1, a0.2.2.2.2) a1).bind fun y4 =>
    guardP ((0 : Int) ≤ a2 ∧ a2 < lenI y4) (
      (rounds (spec_l03Hidden_B1 a2 y1 y4) ((0 : Int), ([] : List Nat))).bind fun r9 =>
      (spec_l03Shares r9).bind fun y10 =>
      some (y10.1, y10.2)))

theorem f53_ok {a0 : Int × Int × List Nat × List Nat × List Nat} {a1 : List Int} {a2 : Int} {r : List Nat × Bool} (hr : spec_l03Hidden a0 a1 a2 = some r) : CallOK Try.prog 53 [.pimm (.st (.pair tI (.pair tI (.pair tLF (.pair tLF tLF))))) a0, .imm tLI a1, .imm tI a2] [⟨true, tLF, r.1⟩, ⟨false, .bool, r.2⟩] [] := by
  unfold spec_l03Hidden at hr
  refine CallOK.of_body (ts := [(true, tLF), (false, .bool)]) Try.func53 rfl (by kernel_rfl) (Nat.le_of_ble_eq_true (by kernel_rfl)) fun cx hP hN hO hF => ?_
  have hO : cx.own.map Prod.fst = [] := hO
  have hX := CxIs.mk hP hN hO
  have hF := hF rfl
  show HT cx ⟨[(0, .one (.ip (.st (.pair tI (.pair tI (.pair tLF (.pair tLF tLF))))) a0 0)), (1, nV a1), (2, iV a2)], [], 0⟩ _ _
  refine HT.rg2 (oHs 2) ⟨[(0, .one (.ip (.st (.pair tI (.pair tI (.pair tLF (.pair tLF tLF))))) a0 0)), (1, nV a1), (2, iV a2)], [], 0⟩ hX (by kernel_rfl) allNil ?_
  obtain ⟨y1, hc2, hr⟩ := of_bind hr
  obtain ⟨hg3, hr⟩ := of_guard hr
  refine HT.rg2 [oH, oH, ⟨none, .call [.pimm (.st (.pair tI (.pair tI (.pair tLF (.pair tLF tLF))))), .imm tLI] [⟨false, (.sl tLF), y1⟩] []⟩, oH, oH, oH, oH] ⟨[(0, .one (.ip (.st (.pair tI (.pair tI (.pair tLF (.pair tLF tLF))))) a0 0)), (1, nV a1), (2, iV a2), (8, lV (List.getD y1 (Int.toNat a2) ([] : List Nat)))], [], 0⟩ hX (by kernel_rfl) (allCons (f85_ok hc2) (allCons hg3 allNil)) ?_
  obtain ⟨y4, hc5, hr⟩ := of_bind hr
  obtain ⟨hg6, hr⟩ := of_guard hr
  refine HT.rg2 [oH, oH, ⟨none, .call [.pimm (.st (.pair tI (.pair tI (.pair tLF (.pair tLF tLF))))), .imm tLI] [⟨false, (.sl tLF), y4⟩] []⟩, oH, oH, oH, oH] ⟨[(8, lV (List.getD y1 (Int.toNat a2) ([] : List Nat))), (9, lV (List.getD y4 (Int.toNat a2) ([] : List Nat)))], [], 0⟩ hX (by kernel_rfl) (allCons (CallOK.frz [true] rfl (f45_ok hc5)) (allCons hg6 allNil)) ?_
  refine HT.rg2 (oHs 2) ⟨[(8, lV (List.getD y1 (Int.toNat a2) ([] : List Nat))), (9, lV (List.getD y4 (Int.toNat a2) ([] : List Nat))), (10, .one (.nilS))], [], 0⟩ hX (by kernel_rfl) allNil ?_
  refine HT.seq ?_
  refine HT.rg2 (oHs 3) ⟨[(8, lV (List.getD y1 (Int.toNat a2) ([] : List Nat))), (9, lV (List.getD y4 (Int.toNat a2) ([] : List Nat))), (10, .one (.nilS)), (26, iV (lenI (List.getD y1 (Int.toNat a2) ([] : List Nat)))), (27, iV (0 : Int))], [], 0⟩ hX (by kernel_rfl) allNil ?_
  refine HT.block ?_
  obtain ⟨r8, hL19, hr⟩ := of_bind hr
  refine HT.loopL (fun (s7 : Int × List Nat) => ⟨[(8, lV (List.getD y1 (Int.toNat a2) ([] : List Nat))), (9, lV (List.getD y4 (Int.toNat a2) ([] : List Nat))), (10, aV 0), (26, iV (lenI (List.getD y1 (Int.toNat a2) ([] : List Nat)))), (27, iV s7.1)], [(0, .seq tF s7.2)], 1⟩) (fun (r9 : List Nat) => (.exit 0, ⟨[(10, aV 0)], [(0, .seq tF r9)], 1⟩)) (Le.re [] [0] hX (by kernel_rfl)) hL19 ?_ (fun s7 x12 hx13 hk14 => ?_)
  · refine (qBlockX (qThen ?_))
    obtain ⟨y10, hc11, hr⟩ := of_bind hr
    refine HT.rg2 [oH, ⟨none, .call [.imm tLF] [⟨true, tLF, y10.1⟩, ⟨false, .bool, y10.2⟩] []⟩, oH, oH, oH, oH] ⟨[(6, aV 1), (7, bV y10.2)], [(1, .seq tF y10.1)], 2⟩ hX (by kernel_rfl) (allCons (f86_ok hc11) allNil) ?_
    have hr := of_some hr
    subst hr
    exact HT.ret ⟨[aV 1, bV y10.2], [1], [], by kernel_rfl, by kernel_rfl, rfl, by kernel_rfl, by kernel_rfl, trivial⟩
  · refine HT.rg2 [oH] ⟨[(8, lV (List.getD y1 (Int.toNat a2) ([] : List Nat))), (9, lV (List.getD y4 (Int.toNat a2) ([] : List Nat))), (10, aV 0), (26, iV (lenI (List.getD y1 (Int.toNat a2) ([] : List Nat)))), (27, iV s7.1), (28, bV (decide (s7.1 < (lenI (List.getD y1 (Int.toNat a2) ([] : List Nat))))))], [(0, .seq tF s7.2)], 1⟩ hX (by kernel_rfl) allNil ?_
    refine HT.seq ?_
    rcases of_bif hx13 with ⟨hb15, hx13⟩ | ⟨hb15, hx13⟩
    · refine HT.cond1 rfl hb15 ?_
      refine HT.skip (qThen ?_)
      refine HT.seq ?_
      refine HT.block ?_
      refine HT.rg2 (oHs 2) ⟨[(8, lV (List.getD y1 (Int.toNat a2) ([] : List Nat))), (9, lV (List.getD y4 (Int.toNat a2) ([] : List Nat))), (10, aV 0), (11, iV s7.1), (26, iV (lenI (List.getD y1 (Int.toNat a2) ([] : List Nat)))), (27, iV s7.1)], [(0, .seq tF s7.2)], 1⟩ hX (by kernel_rfl) allNil ?_
      obtain ⟨hg16, hx13⟩ := of_guard hx13
      obtain ⟨hg17, hx13⟩ := of_guard hx13
      obtain ⟨hg18, hx13⟩ := of_guard hx13
      refine HT.drL 11 [⟨oH, []⟩, ⟨oH, []⟩, ⟨oH, []⟩, ⟨oH, [1, 2]⟩, ⟨oH, [1, 2, 3]⟩, ⟨oH, []⟩, ⟨oH, []⟩, ⟨oH, [5, 6]⟩, ⟨oH, [5, 6, 7]⟩, ⟨oH, [1, 2, 3, 4, 5, 6, 7, 8]⟩, ⟨⟨none, .ty tF⟩, [1, 2, 3, 4, 5, 6, 7, 8, 9]⟩] [[0, 1, 2, 3, 4, 5, 6, 7, 8, 9, 10], [0, 1, 2, 3, 4, 5, 6, 7, 8, 9, 10, 11]] [⟨none, .ty tF⟩, oH] ⟨[(8, lV (List.getD y1 (Int.toNat a2) ([] : List Nat))), (9, lV (List.getD y4 (Int.toNat a2) ([] : List Nat))), (10, aV 2), (26, iV (lenI (List.getD y1 (Int.toNat a2) ([] : List Nat)))), (27, iV s7.1)], [(2, .seq tF (s7.2 ++ ([(fop .mul .f32 (List.getD (List.getD y1 (Int.toNat a2) ([] : List Nat)) (Int.toNat s7.1) (0 : Nat)) (List.getD (List.getD y4 (Int.toNat a2) ([] : List Nat)) (Int.toNat s7.1) (0 : Nat)))] : List Nat)))], 3⟩ hX (by kernel_rfl) (by kernel_rfl) (allCons hg16 (allCons hg17 (allCons hg18 allNil))) (qBlock (qThen ?_))
      have hx13 := of_some hx13
      subst hx13
      exact HT.rgK (oHs 2) [(2, 0)] [] hX (by kernel_rfl) allNil (fun _ h => (qLoopN ⟨((wadd .i64 s7.1 (1 : Int)), (s7.2 ++ ([(fop .mul .f32 (List.getD (List.getD y1 (Int.toNat a2) ([] : List Nat)) (Int.toNat s7.1) (0 : Nat)) (List.getD (List.getD y4 (Int.toNat a2) ([] : List Nat)) (Int.toNat s7.1) (0 : Nat)))] : List Nat))), rfl, h⟩))
    · refine HT.cond0 rfl hb15 ?_
      have hx13 := of_some hx13
      subst hx13
      exact HT.exitL (Le.re [(0, 0)] [] hX (by kernel_rfl)) (qThenE (qLoopE (hk14 s7.2 rfl)))

noncomputable def spec_l03Pair_B1 (a0 : Int × Int × List Nat × List Nat × List Nat) (a1 : List Int) (a2 : Int) (y1 : List (List Nat)) (y4 : List (List Nat)) (s7 : Int × List Nat) (s16 : Int × List Nat) : Option ((Int × List Nat) ⊕ (List Nat)) :=
  bif (decide (s16.1 < a0.1)) then
    guardP ((0 : Int) ≤ s7.1 ∧ s7.1 < lenI (List.getD y1 (Int.toNat a2) ([] : List Nat))) (
      guardP ((0 : Int) ≤ a2 ∧ a2 < lenI a1) (
        guardP ((0 : Int) ≤ (wadd .i64 (wmul .i64 s7.1 a0.2.1) (List.getD a1 (Int.toNat a2) (0 : Int))) ∧ (wadd .i64 (wmul .i64 s7.1 a0.2.1) (List.getD a1 (Int.toNat a2) (0 : Int))) < lenI a0.2.2.2.2) (
          (some (fop .mul .f32 (List.getD (List.getD y1 (Int.toNat a2) ([] : List Nat)) (Int.toNat s7.1) (0 : Nat)) (List.getD a0.2.2.2.2 (Int.toNat (wadd .i64 (wmul .i64 s7.1 a0.2.1) (List.getD a1 (Int.toNat a2) (0 : Int)))) (0 : Nat)))).bind fun q26 =>
          guardP ((0 : Int) ≤ (wadd .i64 (wmul .i64 s7.1 a0.1) s16.1) ∧ (wadd .i64 (wmul .i64 s7.1 a0.1) s16.1) < lenI a0.2.2.2.1) (
            guardP ((0 : Int) ≤ s16.1 ∧ s16.1 < lenI (List.getD y4 (Int.toNat (wadd .i64 a2 (1 : Int))) ([] : List Nat))) (
              guardP (List.length s16.2 + List.length ([(fop .mul .f32 (fop .mul .f32 q26 (List.getD a0.2.2.2.1 (Int.toNat (wadd .i64 (wmul .i64 s7.1 a0.1) s16.1)) (0 : Nat))) (List.getD (List.getD y4 (Int.toNat (wadd .i64 a2 (1 : Int))) ([] : List Nat)) (Int.toNat s16.1) (0 : Nat)))] : List Nat) ≤ appMax) (
                some (.inl ((wadd .i64 s16.1 (1 : Int)), (s16.2 ++ ([(fop .mul .f32 (fop .mul .f32 q26 (List.getD a0.2.2.2.1 (Int.toNat (wadd .i64 (wmul .i64 s7.1 a0.1) s16.1)) (0 : Nat))) (List.getD (List.getD y4 (Int.toNat (wadd .i64 a2 (1 : Int))) ([] : List Nat)) (Int.toNat s16.1) (0 : Nat)))] : List Nat))))))))))
  else
    some (.inr s16.2)

noncomputable def spec_l03Pair_B2 (a0 : Int × Int × List Nat × List Nat × List Nat) (a1 : List Int) (a2 : Int) (y1 : List (List Nat)) (y4 : List (List Nat)) (s7 : Int × List Nat) : Option ((Int × List Nat) ⊕ (List Nat)) :=
  bif (decide (s7.1 < a0.1)) then
    (rounds (spec_l03Pair_B1 a0 a1 a2 y1 y4 s7) ((0 : Int), s7.2)).bind fun r18 =>
    some (.inl ((wadd .i64 s7.1 (1 : Int)), r18))
  else
    some (.inr s7.2)

noncomputable def spec_l03Pair (a0 : Int × Int × List Nat × List Nat × List Nat) (a1 : List Int) (a2 : Int) : Option (List Nat × Bool) :=
  (spec_l03Forward (a0.1, a0.2.1, a0.2.2.1, a0.2.2.2.1, a0.2.2.2.2) a1).bind fun y1 =>
  guardP ((0 : Int) ≤ a2 ∧ a2 < lenI y1) (
    (spec_l03Backward (a0.1, a0.2.1, a0.2.2.1, a0.2.2.2.1, a0.2.2.2.2) a1).bind fun y4 =>
    guardP ((0 : Int) ≤ (wadd .i64 a2 (1 : Int)) ∧ (wadd .i64 a2 (1 : Int)) < lenI y4) (
      (rounds (spec_l03Pair_B2 a0 a1 a2 y1 y4) ((0 : Int), ([] : List Nat))).bind fun r9 =>
      (spec_l03Shares r9).bind fun y10 =>
      some (y10.1, y10.2)))

theorem f57_ok {a0 : Int × Int × List Nat × List Nat × List Nat} {a1 : List Int} {a2 : Int} {r : List Nat × Bool} (hr : spec_l03Pair a0 a1 a2 = some r) : CallOK Try.prog 57 [.pimm (.st (.pair tI (.pair tI (.pair tLF (.pair tLF tLF))))) a0, .imm tLI a1, .imm tI a2] [⟨true, tLF, r.1⟩, ⟨false, .bool, r.2⟩] [] := by
  unfold spec_l03Pair at hr
  refine CallOK.of_body (ts := [(true, tLF), (false, .bool)]) Try.func57 rfl (by kernel_rfl) (Nat.le_of_ble_eq_true (by kernel_rfl)) fun cx hP hN hO hF => ?_
  have hO : cx.own.map Prod.fst = [] := hO
  have hX := CxIs.mk hP hN hO
  have hF := hF rfl
  show HT cx ⟨[(0, .one (.ip (.st (.pair tI (.pair tI (.pair tLF (.pair tLF tLF))))) a0 0)), (1, nV a1), (2, iV a2)], [], 0⟩ _ _
  refine HT.rg2 (oHs 2) ⟨[(0, .one (.ip (.st (.pair tI (.pair tI (.pair tLF (.pair tLF tLF))))) a0 0)), (1, nV a1), (2, iV a2)], [], 0⟩ hX (by kernel_rfl) allNil ?_
  obtain ⟨y1, hc2, hr⟩ := of_bind hr
  obtain ⟨hg3, hr⟩ := of_guard hr
  refine HT.rg2 [oH, oH, ⟨none, .call [.pimm (.st (.pair tI (.pair tI (.pair tLF (.pair tLF tLF))))), .imm tLI] [⟨false, (.sl tLF), y1⟩] []⟩, oH, oH, oH, oH] ⟨[(0, .one (.ip (.st (.pair tI (.pair tI (.pair tLF (.pair tLF tLF))))) a0 0)), (1, nV a1), (2, iV a2), (8, lV (List.getD y1 (Int.toNat a2) ([] : List Nat)))], [], 0⟩ hX (by kernel_rfl) (allCons (f85_ok hc2) (allCons hg3 allNil)) ?_
  obtain ⟨y4, hc5, hr⟩ := of_bind hr
  obtain ⟨hg6, hr⟩ := of_guard hr
  refine HT.rg2 [oH, oH, ⟨none, .call [.pimm (.st (.pair tI (.pair tI (.pair tLF (.pair tLF tLF))))), .imm tLI] [⟨false, (.sl tLF), y4⟩] []⟩, oH, oH, oH, oH, oH] ⟨[(0, .one (.ip (.st (.pair tI (.pair tI (.pair tLF (.pair tLF tLF))))) a0 0)), (1, nV a1), (2, iV a2), (8, lV (List.getD y1 (Int.toNat a2) ([] : List Nat))), (9, lV (List.getD y4 (Int.toNat (wadd .i64 a2 (1 : Int))) ([] : List Nat)))], [], 0⟩ hX (by kernel_rfl) (allCons (CallOK.frz [true] rfl (f45_ok hc5)) (allCons hg6 allNil)) ?_
  refine HT.rg2 (oHs 2) ⟨[(0, .one (.ip (.st (.pair tI (.pair tI (.pair tLF (.pair tLF tLF))))) a0 0)), (1, nV a1), (2, iV a2), (8, lV (List.getD y1 (Int.toNat a2) ([] : List Nat))), (9, lV (List.getD y4 (Int.toNat (wadd .i64 a2 (1 : Int))) ([] : List Nat))), (10, .one (.nilS))], [], 0⟩ hX (by kernel_rfl) allNil ?_
  refine HT.seq ?_
  refine HT.rg2 [oH] ⟨[(0, .one (.ip (.st (.pair tI (.pair tI (.pair tLF (.pair tLF tLF))))) a0 0)), (1, nV a1), (2, iV a2), (8, lV (List.getD y1 (Int.toNat a2) ([] : List Nat))), (9, lV (List.getD y4 (Int.toNat (wadd .i64 a2 (1 : Int))) ([] : List Nat))), (10, .one (.nilS)), (11, iV (0 : Int))], [], 0⟩ hX (by kernel_rfl) allNil ?_
  refine HT.block ?_
  obtain ⟨r8, hL32, hr⟩ := of_bind hr
  refine HT.loopL (fun (s7 : Int × List Nat) => ⟨[(0, .one (.ip (.st (.pair tI (.pair tI (.pair tLF (.pair tLF tLF))))) a0 0)), (1, nV a1), (2, iV a2), (8, lV (List.getD y1 (Int.toNat a2) ([] : List Nat))), (9, lV (List.getD y4 (Int.toNat (wadd .i64 a2 (1 : Int))) ([] : List Nat))), (10, aV 0), (11, iV s7.1)], [(0, .seq tF s7.2)], 1⟩) (fun (r9 : List Nat) => (.exit 0, ⟨[(10, aV 0)], [(0, .seq tF r9)], 1⟩)) (Le.re [] [0] hX (by kernel_rfl)) hL32 ?_ (fun s7 x12 hx13 hk14 => ?_)
  · refine (qBlockX (qThen ?_))
    obtain ⟨y10, hc11, hr⟩ := of_bind hr
    refine HT.rg2 [oH, ⟨none, .call [.imm tLF] [⟨true, tLF, y10.1⟩, ⟨false, .bool, y10.2⟩] []⟩, oH, oH, oH, oH] ⟨[(6, aV 1), (7, bV y10.2)], [(1, .seq tF y10.1)], 2⟩ hX (by kernel_rfl) (allCons (f86_ok hc11) allNil) ?_
    have hr := of_some hr
    subst hr
    exact HT.ret ⟨[aV 1, bV y10.2], [1], [], by kernel_rfl, by kernel_rfl, rfl, by kernel_rfl, by kernel_rfl, trivial⟩
  · refine HT.seq ?_
    refine HT.rg2 (oHs 6) ⟨[(0, .one (.ip (.st (.pair tI (.pair tI (.pair tLF (.pair tLF tLF))))) a0 0)), (1, nV a1), (2, iV a2), (8, lV (List.getD y1 (Int.toNat a2) ([] : List Nat))), (9, lV (List.getD y4 (Int.toNat (wadd .i64 a2 (1 : Int))) ([] : List Nat))), (10, aV 0), (11, iV s7.1), (33, bV (decide (s7.1 < a0.1)))], [(0, .seq tF s7.2)], 1⟩ hX (by kernel_rfl) allNil ?_
    rcases of_bif hx13 with ⟨hb15, hx13⟩ | ⟨hb15, hx13⟩
    · refine HT.cond1 rfl hb15 ?_
      refine HT.skip (qThen ?_)
      refine HT.seq ?_
      refine HT.block ?_
      refine HT.rg2 [oH] ⟨[(0, .one (.ip (.st (.pair tI (.pair tI (.pair tLF (.pair tLF tLF))))) a0 0)), (1, nV a1), (2, iV a2), (8, lV (List.getD y1 (Int.toNat a2) ([] : List Nat))), (9, lV (List.getD y4 (Int.toNat (wadd .i64 a2 (1 : Int))) ([] : List Nat))), (10, aV 0), (11, iV s7.1), (12, iV (0 : Int))], [(0, .seq tF s7.2)], 1⟩ hX (by kernel_rfl) allNil ?_
      refine HT.block ?_
      obtain ⟨r17, hL31, hx13⟩ := of_bind hx13
      refine HT.loopL (fun (s16 : Int × List Nat) => ⟨[(0, .one (.ip (.st (.pair tI (.pair tI (.pair tLF (.pair tLF tLF))))) a0 0)), (1, nV a1), (2, iV a2), (8, lV (List.getD y1 (Int.toNat a2) ([] : List Nat))), (9, lV (List.getD y4 (Int.toNat (wadd .i64 a2 (1 : Int))) ([] : List Nat))), (10, aV 0), (11, iV s7.1), (12, iV s16.1)], [(0, .seq tF s16.2)], 1⟩) (fun (r18 : List Nat) => (.exit 2, ⟨[(0, .one (.ip (.st (.pair tI (.pair tI (.pair tLF (.pair tLF tLF))))) a0 0)), (1, nV a1), (2, iV a2), (8, lV (List.getD y1 (Int.toNat a2) ([] : List Nat))), (9, lV (List.getD y4 (Int.toNat (wadd .i64 a2 (1 : Int))) ([] : List Nat))), (10, aV 0), (11, iV s7.1)], [(0, .seq tF r18)], 1⟩)) (Le.re [(0, 0)] [] hX (by kernel_rfl)) hL31 ?_ (fun s16 x19 hx20 hk21 => ?_)
      · refine (qBlockX (qBlock (qThen ?_)))
        have hx13 := of_some hx13
        subst hx13
        exact HT.rgK (oHs 3) [(0, 0)] [] hX (by kernel_rfl) allNil (fun _ h => (qLoopN ⟨((wadd .i64 s7.1 (1 : Int)), r17), rfl, h⟩))
      · refine HT.seq ?_
        refine HT.rg2 (oHs 6) ⟨[(0, .one (.ip (.st (.pair tI (.pair tI (.pair tLF (.pair tLF tLF))))) a0 0)), (1, nV a1), (2, iV a2), (8, lV (List.getD y1 (Int.toNat a2) ([] : List Nat))), (9, lV (List.getD y4 (Int.toNat (wadd .i64 a2 (1 : Int))) ([] : List Nat))), (10, aV 0), (11, iV s7.1), (12, iV s16.1), (41, bV (decide (s16.1 < a0.1)))], [(0, .seq tF s16.2)], 1⟩ hX (by kernel_rfl) allNil ?_
        rcases of_bif hx20 with ⟨hb22, hx20⟩ | ⟨hb22, hx20⟩
        · refine HT.cond1 rfl hb22 ?_
          refine HT.skip (qThen ?_)
          refine HT.seq ?_
          refine HT.block ?_
          obtain ⟨hg23, hx20⟩ := of_guard hx20
          obtain ⟨hg24, hx20⟩ := of_guard hx20
          obtain ⟨hg25, hx20⟩ := of_guard hx20
          refine HT.dr2 21 [⟨oH, []⟩, ⟨oH, []⟩, ⟨oH, [0, 1]⟩, ⟨oH, [0, 1, 2]⟩, ⟨oH, []⟩, ⟨oH, [4]⟩, ⟨oH, [4, 5]⟩, ⟨oH, [4, 5, 6]⟩, ⟨oH, []⟩, ⟨oH, []⟩, ⟨oH, [9]⟩, ⟨oH, [9, 10]⟩, ⟨oH, [9, 10, 11]⟩, ⟨oH, [8, 9, 10, 11, 12]⟩, ⟨oH, []⟩, ⟨oH, []⟩, ⟨oH, [14, 15]⟩, ⟨oH, [14, 15, 16]⟩, ⟨oH, [8, 9, 10, 11, 12, 13, 14, 15, 16, 17]⟩, ⟨oH, [4, 5, 6, 7, 8, 9, 10, 11, 12, 13, 14, 15, 16, 17, 18]⟩, ⟨oH, [4, 5, 6, 7, 8, 9, 10, 11, 12, 13, 14, 15, 16, 17, 18, 19]⟩] [[0, 1, 2, 3, 4, 5, 6, 7, 8, 9, 10, 11, 12, 13, 14, 15, 16, 17, 18, 19, 20], [0, 1, 2, 3, 4, 5, 6, 7, 8, 9, 10, 11, 12, 13, 14, 15, 16, 17, 18, 19, 20, 21]] (oHs 2) ⟨[(0, .one (.ip (.st (.pair tI (.pair tI (.pair tLF (.pair tLF tLF))))) a0 0)), (1, nV a1), (2, iV a2), (8, lV (List.getD y1 (Int.toNat a2) ([] : List Nat))), (9, lV (List.getD y4 (Int.toNat (wadd .i64 a2 (1 : Int))) ([] : List Nat))), (10, aV 0), (11, iV s7.1), (12, iV s16.1), (13, fV (fop .mul .f32 (List.getD (List.getD y1 (Int.toNat a2) ([] : List Nat)) (Int.toNat s7.1) (0 : Nat)) (List.getD a0.2.2.2.2 (Int.toNat (wadd .i64 (wmul .i64 s7.1 a0.2.1) (List.getD a1 (Int.toNat a2) (0 : Int)))) (0 : Nat))))], [(0, .seq tF s16.2)], 1⟩ hX (by kernel_rfl) (by kernel_rfl) (allCons hg23 (allCons hg24 (allCons hg25 allNil))) ?_
          obtain ⟨q26, hq27, hx20⟩ := of_bind hx20
          have hq27 := of_some2 hq27
          refine (Le.cv (s := ⟨[(0, 0)], [], [], false⟩) (own := []) (ps := [a0 = a0, a1 = a1, a2 = a2, (List.getD y1 (Int.toNat a2) ([] : List Nat)) = (List.getD y1 (Int.toNat a2) ([] : List Nat)), (List.getD y4 (Int.toNat (wadd .i64 a2 (1 : Int))) ([] : List Nat)) = (List.getD y4 (Int.toNat (wadd .i64 a2 (1 : Int))) ([] : List Nat)), s7.1 = s7.1, s16.1 = s16.1, q26 = (fop .mul .f32 (List.getD (List.getD y1 (Int.toNat a2) ([] : List Nat)) (Int.toNat s7.1) (0 : Nat)) (List.getD a0.2.2.2.2 (Int.toNat (wadd .i64 (wmul .i64 s7.1 a0.2.1) (List.getD a1 (Int.toNat a2) (0 : Int)))) (0 : Nat))), s16.2 = s16.2]) (st' := ⟨[(0, .one (.ip (.st (.pair tI (.pair tI (.pair tLF (.pair tLF tLF))))) a0 0)), (1, nV a1), (2, iV a2), (8, lV (List.getD y1 (Int.toNat a2) ([] : List Nat))), (9, lV (List.getD y4 (Int.toNat (wadd .i64 a2 (1 : Int))) ([] : List Nat))), (10, aV 0), (11, iV s7.1), (12, iV s16.1), (13, fV q26)], [(0, .seq tF s16.2)], 1⟩) hO (fun h => by cases h) (by kernel_rfl) ⟨rfl, rfl, rfl, rfl, rfl, rfl, rfl, hq27, rfl, trivial⟩).ht ?_
          obtain ⟨hg28, hx20⟩ := of_guard hx20
          obtain ⟨hg29, hx20⟩ := of_guard hx20
          obtain ⟨hg30, hx20⟩ := of_guard hx20
          refine HT.drL 23 [⟨oH, []⟩, ⟨oH, []⟩, ⟨oH, []⟩, ⟨oH, [2]⟩, ⟨oH, [2, 3]⟩, ⟨oH, [2, 3, 4]⟩, ⟨oH, []⟩, ⟨oH, []⟩, ⟨oH, [7]⟩, ⟨oH, [7, 8]⟩, ⟨oH, [7, 8, 9]⟩, ⟨oH, [6, 7, 8, 9, 10]⟩, ⟨oH, []⟩, ⟨oH, [6, 7, 8, 9, 10, 11, 12]⟩, ⟨oH, [2, 3, 4, 5, 6, 7, 8, 9, 10, 11, 12, 13]⟩, ⟨oH, [2, 3, 4, 5, 6, 7, 8, 9, 10, 11, 12, 13, 14]⟩, ⟨oH, [1, 2, 3, 4, 5, 6, 7, 8, 9, 10, 11, 12, 13, 14, 15]⟩, ⟨oH, []⟩, ⟨oH, []⟩, ⟨oH, [17, 18]⟩, ⟨oH, [17, 18, 19]⟩, ⟨oH, [1, 2, 3, 4, 5, 6, 7, 8, 9, 10, 11, 12, 13, 14, 15, 16, 17, 18, 19, 20]⟩, ⟨⟨none, .ty tF⟩, [1, 2, 3, 4, 5, 6, 7, 8, 9, 10, 11, 12, 13, 14, 15, 16, 17, 18, 19, 20, 21]⟩] [[0, 1, 2, 3, 4, 5, 6, 7, 8, 9, 10, 11, 12, 13, 14, 15, 16, 17, 18, 19, 20, 21, 22], [0, 1, 2, 3, 4, 5, 6, 7, 8, 9, 10, 11, 12, 13, 14, 15, 16, 17, 18, 19, 20, 21, 22, 23]] [⟨none, .ty tF⟩, oH] ⟨[(0, .one (.ip (.st (.pair tI (.pair tI (.pair tLF (.pair tLF tLF))))) a0 0)), (1, nV a1), (2, iV a2), (8, lV (List.getD y1 (Int.toNat a2) ([] : List Nat))), (9, lV (List.getD y4 (Int.toNat (wadd .i64 a2 (1 : Int))) ([] : List Nat))), (10, aV 2), (11, iV s7.1), (12, iV s16.1)], [(2, .seq tF (s16.2 ++ ([(fop .mul .f32 (fop .mul .f32 q26 (List.getD a0.2.2.2.1 (Int.toNat (wadd .i64 (wmul .i64 s7.1 a0.1) s16.1)) (0 : Nat))) (List.getD (List.getD y4 (Int.toNat (wadd .i64 a2 (1 : Int))) ([] : List Nat)) (Int.toNat s16.1) (0 : Nat)))] : List Nat)))], 3⟩ hX (by kernel_rfl) (by kernel_rfl) (allCons hg28 (allCons hg29 (allCons hg30 allNil))) (qBlock (qThen ?_))
          have hx20 := of_some hx20
          subst hx20
          exact HT.rgK (oHs 3) [(2, 0)] [] hX (by kernel_rfl) allNil (fun _ h => (qLoopN ⟨((wadd .i64 s16.1 (1 : Int)), (s16.2 ++ ([(fop .mul .f32 (fop .mul .f32 q26 (List.getD a0.2.2.2.1 (Int.toNat (wadd .i64 (wmul .i64 s7.1 a0.1) s16.1)) (0 : Nat))) (List.getD (List.getD y4 (Int.toNat (wadd .i64 a2 (1 : Int))) ([] : List Nat)) (Int.toNat s16.1) (0 : Nat)))] : List Nat))), rfl, h⟩))
        · refine HT.cond0 rfl hb22 ?_
          have hx20 := of_some hx20
          subst hx20
          exact HT.exitL (Le.re [(0, 0)] [] hX (by kernel_rfl)) (qThenE (qLoopE (hk21 s16.2 rfl)))
    · refine HT.cond0 rfl hb15 ?_
      have hx13 := of_some hx13
      subst hx13
      exact HT.exitL (Le.re [(0, 0)] [] hX (by kernel_rfl)) (qThenE (qLoopE (hk14 s7.2 rfl)))

noncomputable def spec_l03Learn_B1 (y31 : List Nat × Bool) (s40 : Int × List Nat) : Option ((Int × List Nat) ⊕ (List Nat)) :=
  bif (decide (s40.1 < (lenI y31.1))) then
    guardP ((0 : Int) ≤ s40.1 ∧ s40.1 < lenI s40.2) (
      guardP ((0 : Int) ≤ s40.1 ∧ s40.1 < lenI y31.1) (
        some (.inl ((wadd .i64 s40.1 (1 : Int)), (List.set s40.2 (Int.toNat s40.1) (fop .add .f32 (List.getD s40.2 (Int.toNat s40.1) (0 : Nat)) (List.getD y31.1 (Int.toNat s40.1) (0 : Nat))))))))
  else
    some (.inr s40.2)

noncomputable def spec_l03Learn_B2 (a0 : Int × Int × List Nat × List Nat × List Nat) (a1 : List (List Int)) (s4 : Int × List Nat × List Nat × List Nat) (s21 : Int × List Nat × List Nat) (y29 : List Nat × Bool) (s37 : Int × List Nat) : Option ((Int × List Nat) ⊕ (List Nat)) :=
  bif (decide (s37.1 < (lenI y29.1))) then
    guardP ((0 : Int) ≤ s21.1 ∧ s21.1 < lenI (List.getD a1 (Int.toNat s4.1) ([] : List Int))) (
      guardP ((0 : Int) ≤ (wadd .i64 (wmul .i64 s37.1 a0.2.1) (List.getD (List.getD a1 (Int.toNat s4.1) ([] : List Int)) (Int.toNat s21.1) (0 : Int))) ∧ (wadd .i64 (wmul .i64 s37.1 a0.2.1) (List.getD (List.getD a1 (Int.toNat s4.1) ([] : List Int)) (Int.toNat s21.1) (0 : Int))) < lenI s37.2) (
        guardP ((0 : Int) ≤ s37.1 ∧ s37.1 < lenI y29.1) (
          some (.inl ((wadd .i64 s37.1 (1 : Int)), (List.set s37.2 (Int.toNat (wadd .i64 (wmul .i64 s37.1 a0.2.1) (List.getD (List.getD a1 (Int.toNat s4.1) ([] : List Int)) (Int.toNat s21.1) (0 : Int)))) (fop .add .f32 (List.getD s37.2 (Int.toNat (wadd .i64 (wmul .i64 s37.1 a0.2.1) (List.getD (List.getD a1 (Int.toNat s4.1) ([] : List Int)) (Int.toNat s21.1) (0 : Int)))) (0 : Nat)) (List.getD y29.1 (Int.toNat s37.1) (0 : Nat)))))))))
  else
    some (.inr s37.2)

noncomputable def spec_l03Learn_B3 (a0 : Int × Int × List Nat × List Nat × List Nat) (a1 : List (List Int)) (s4 : Int × List Nat × List Nat × List Nat) (s21 : Int × List Nat × List Nat) : Option ((Int × List Nat × List Nat) ⊕ ((List Nat × List Nat) ⊕ Unit)) :=
  bif (decide (s21.1 < (lenI (List.getD a1 (Int.toNat s4.1) ([] : List Int))))) then
    (spec_l03Hidden (a0.1, a0.2.1, a0.2.2.1, a0.2.2.2.1, a0.2.2.2.2) (List.getD a1 (Int.toNat s4.1) ([] : List Int)) s21.1).bind fun y29 =>
    (spec_l03Pair (a0.1, a0.2.1, a0.2.2.1, a0.2.2.2.1, a0.2.2.2.2) (List.getD a1 (Int.toNat s4.1) ([] : List Int)) s21.1).bind fun y31 =>
    (show Option (Bool) from
      bif (!y29.2) then
        some true
      else
        some (!y31.2)).bind fun v33 =>
    bif v33 then
      some (.inr (.inr ()))
    else
      (rounds (spec_l03Learn_B2 a0 a1 s4 s21 y29) ((0 : Int), s21.2.2)).bind fun r39 =>
      (rounds (spec_l03Learn_B1 y31) ((0 : Int), s21.2.1)).bind fun r42 =>
      some (.inl ((wadd .i64 s21.1 (1 : Int)), r42, r39))
  else
    some (.inr (.inl (s21.2.1, s21.2.2)))

noncomputable def spec_l03Learn_B4 (y15 : List Nat × Bool) (s18 : Int × List Nat) : Option ((Int × List Nat) ⊕ (List Nat)) :=
  bif (decide (s18.1 < (lenI y15.1))) then
    guardP ((0 : Int) ≤ s18.1 ∧ s18.1 < lenI s18.2) (
      guardP ((0 : Int) ≤ s18.1 ∧ s18.1 < lenI y15.1) (
        some (.inl ((wadd .i64 s18.1 (1 : Int)), (List.set s18.2 (Int.toNat s18.1) (fop .add .f32 (List.getD s18.2 (Int.toNat s18.1) (0 : Nat)) (List.getD y15.1 (Int.toNat s18.1) (0 : Nat))))))))
  else
    some (.inr s18.2)

noncomputable def spec_l03Learn_B5 (a0 : Int × Int × List Nat × List Nat × List Nat) (a1 : List (List Int)) (s4 : Int × List Nat × List Nat × List Nat) : Option ((Int × List Nat × List Nat × List Nat) ⊕ ((List Nat × List Nat × List Nat) ⊕ Unit)) :=
  bif (decide (s4.1 < (lenI a1))) then
    guardP ((0 : Int) ≤ s4.1 ∧ s4.1 < lenI a1) (
      (spec_l03Hidden (a0.1, a0.2.1, a0.2.2.1, a0.2.2.2.1, a0.2.2.2.2) (List.getD a1 (Int.toNat s4.1) ([] : List Int)) (0 : Int)).bind fun y15 =>
      bif (!y15.2) then
        some (.inr (.inr ()))
      else
        (rounds (spec_l03Learn_B4 y15) ((0 : Int), s4.2.1)).bind fun r20 =>
        (rounds (spec_l03Learn_B3 a0 a1 s4) ((0 : Int), s4.2.2.1, s4.2.2.2)).bind fun r22 => match r22 with
          | .inl r23 =>
            some (.inl ((wadd .i64 s4.1 (1 : Int)), r20, r23.1, r23.2))
          | .inr r24 =>
            some (.inr (.inr ())))
  else
    some (.inr (.inl (s4.2.1, s4.2.2.1, s4.2.2.2)))

noncomputable def spec_l03Learn (a0 : Int × Int × List Nat × List Nat × List Nat) (a1 : List (List Int)) : Option ((Int × Int × List Nat × List Nat × List Nat) × Bool) :=
  guardP ((0 : Int) ≤ a0.1 ∧ a0.1 ≤ 4294967296) (
    guardP ((0 : Int) ≤ (wmul .i64 a0.1 a0.1) ∧ (wmul .i64 a0.1 a0.1) ≤ 4294967296) (
      guardP ((0 : Int) ≤ (wmul .i64 a0.1 a0.2.1) ∧ (wmul .i64 a0.1 a0.2.1) ≤ 4294967296) (
        (rounds (spec_l03Learn_B5 a0 a1) ((0 : Int), (List.replicate (Int.toNat a0.1) (0 : Nat)), (List.replicate (Int.toNat (wmul .i64 a0.1 a0.1)) (0 : Nat)), (List.replicate (Int.toNat (wmul .i64 a0.1 a0.2.1)) (0 : Nat)))).bind fun r5 => match r5 with
          | .inl r6 =>
            (spec_l03Filled (a0.1, a0.2.1, a0.2.2.1, a0.2.2.2.1, a0.2.2.2.2) r6.1 r6.2.1 r6.2.2).bind fun y7 =>
            some ((y7.1.1, y7.1.2.1, y7.1.2.2.1, y7.1.2.2.2.1, y7.1.2.2.2.2), y7.2)
          | .inr r9 =>
            some (((0 : Int), (0 : Int), ([] : List Nat), ([] : List Nat), ([] : List Nat)), false))))

theorem f61_ok {a0 : Int × Int × List Nat × List Nat × List Nat} {a1 : List (List Int)} {r : (Int × Int × List Nat × List Nat × List Nat) × Bool} (hr : spec_l03Learn a0 a1 = some r) : CallOK Try.prog 61 [.pimm (.st (.pair tI (.pair tI (.pair tLF (.pair tLF tLF))))) a0, .imm (.sl tLI) a1] [⟨true, (.st (.pair tI (.pair tI (.pair tLF (.pair tLF tLF))))), r.1⟩, ⟨false, .bool, r.2⟩] [] := by
  unfold spec_l03Learn at hr
  refine CallOK.of_body (ts := [(true, (.st (.pair tI (.pair tI (.pair tLF (.pair tLF tLF)))))), (false, .bool)]) Try.func61 rfl (by kernel_rfl) (Nat.le_of_ble_eq_true (by kernel_rfl)) fun cx hP hN hO hF => ?_
  have hO : cx.own.map Prod.fst = [] := hO
  have hX := CxIs.mk hP hN hO
  have hF := hF rfl
  show HT cx ⟨[(0, .one (.ip (.st (.pair tI (.pair tI (.pair tLF (.pair tLF tLF))))) a0 0)), (1, .one (.dat (.sl tLI) a1))], [], 0⟩ _ _
  refine HT.rg2 (oHs 2) ⟨[(0, .one (.ip (.st (.pair tI (.pair tI (.pair tLF (.pair tLF tLF))))) a0 0)), (1, .one (.dat (.sl tLI) a1)), (4, pV 0 0)], [(0, .box [iC (0 : Int), iC (0 : Int), .nilS, .nilS, .nilS])], 1⟩ hX (by kernel_rfl) allNil ?_
  obtain ⟨hg1, hr⟩ := of_guard hr
  refine HT.rg2 [oH, oH, oH, oH, ⟨none, .ty tF⟩, oH] ⟨[(0, .one (.ip (.st (.pair tI (.pair tI (.pair tLF (.pair tLF tLF))))) a0 0)), (1, .one (.dat (.sl tLI) a1)), (4, pV 0 0), (6, aV 1)], [(1, .seq tF (List.replicate (Int.toNat a0.1) (0 : Nat))), (0, .box [iC (0 : Int), iC (0 : Int), .nilS, .nilS, .nilS])], 2⟩ hX (by kernel_rfl) (allCons (show (0 : Int) ≤ a0.1 ∧ a0.1 ≤ a0.1 ∧ a0.1 ≤ 4294967296 from ⟨hg1.1, Int.le_refl _, hg1.2⟩) allNil) ?_
  obtain ⟨hg2, hr⟩ := of_guard hr
  refine HT.dr2 8 [⟨oH, []⟩, ⟨oH, [0]⟩, ⟨oH, [0, 1]⟩, ⟨oH, [0, 1, 2]⟩, ⟨oH, []⟩, ⟨oH, [4]⟩, ⟨oH, [4, 5]⟩, ⟨oH, [4, 5, 6]⟩] [[0, 1, 2, 3, 4, 5, 6, 7], [0, 1, 2, 3, 4, 5, 6, 7, 8], [0, 1, 2, 3, 4, 5, 6, 7, 8, 9]] [oH, ⟨none, .ty tF⟩, oH] ⟨[(0, .one (.ip (.st (.pair tI (.pair tI (.pair tLF (.pair tLF tLF))))) a0 0)), (1, .one (.dat (.sl tLI) a1)), (4, pV 0 0), (6, aV 1), (7, aV 2)], [(2, .seq tF (List.replicate (Int.toNat (wmul .i64 a0.1 a0.1)) (0 : Nat))), (1, .seq tF (List.replicate (Int.toNat a0.1) (0 : Nat))), (0, .box [iC (0 : Int), iC (0 : Int), .nilS, .nilS, .nilS])], 3⟩ hX (by kernel_rfl) (by kernel_rfl) (allCons (show (0 : Int) ≤ (wmul .i64 a0.1 a0.1) ∧ (wmul .i64 a0.1 a0.1) ≤ (wmul .i64 a0.1 a0.1) ∧ (wmul .i64 a0.1 a0.1) ≤ 4294967296 from ⟨hg2.1, Int.le_refl _, hg2.2⟩) allNil) ?_
  obtain ⟨hg3, hr⟩ := of_guard hr
  refine HT.dr2 8 [⟨oH, []⟩, ⟨oH, [0]⟩, ⟨oH, [0, 1]⟩, ⟨oH, [0, 1, 2]⟩, ⟨oH, []⟩, ⟨oH, [4]⟩, ⟨oH, [4, 5]⟩, ⟨oH, [4, 5, 6]⟩] [[0, 1, 2, 3, 4, 5, 6, 7], [0, 1, 2, 3, 4, 5, 6, 7, 8], [0, 1, 2, 3, 4, 5, 6, 7, 8, 9]] [oH, ⟨none, .ty tF⟩, oH] ⟨[(0, .one (.ip (.st (.pair tI (.pair tI (.pair tLF (.pair tLF tLF))))) a0 0)), (1, .one (.dat (.sl tLI) a1)), (4, pV 0 0), (6, aV 1), (7, aV 2), (8, aV 3)], [(3, .seq tF (List.replicate (Int.toNat (wmul .i64 a0.1 a0.2.1)) (0 : Nat))), (2, .seq tF (List.replicate (Int.toNat (wmul .i64 a0.1 a0.1)) (0 : Nat))), (1, .seq tF (List.replicate (Int.toNat a0.1) (0 : Nat))), (0, .box [iC (0 : Int), iC (0 : Int), .nilS, .nilS, .nilS])], 4⟩ hX (by kernel_rfl) (by kernel_rfl) (allCons (show (0 : Int) ≤ (wmul .i64 a0.1 a0.2.1) ∧ (wmul .i64 a0.1 a0.2.1) ≤ (wmul .i64 a0.1 a0.2.1) ∧ (wmul .i64 a0.1 a0.2.1) ≤ 4294967296 from ⟨hg3.1, Int.le_refl _, hg3.2⟩) allNil) ?_
  refine HT.seq ?_
  refine HT.rg2 (oHs 3) ⟨[(0, .one (.ip (.st (.pair tI (.pair tI (.pair tLF (.pair tLF tLF))))) a0 0)), (1, .one (.dat (.sl tLI) a1)), (4, pV 0 0), (6, aV 1), (7, aV 2), (8, aV 3), (46, iV (lenI a1)), (47, iV (0 : Int))], [(3, .seq tF (List.replicate (Int.toNat (wmul .i64 a0.1 a0.2.1)) (0 : Nat))), (2, .seq tF (List.replicate (Int.toNat (wmul .i64 a0.1 a0.1)) (0 : Nat))), (1, .seq tF (List.replicate (Int.toNat a0.1) (0 : Nat))), (0, .box [iC (0 : Int), iC (0 : Int), .nilS, .nilS, .nilS])], 4⟩ hX (by kernel_rfl) allNil ?_
  refine HT.block ?_
  obtain ⟨r5, hL67, hr⟩ := of_bind hr
  refine HT.loopL (fun (s4 : Int × List Nat × List Nat × List Nat) => ⟨[(0, .one (.ip (.st (.pair tI (.pair tI (.pair tLF (.pair tLF tLF))))) a0 0)), (1, .one (.dat (.sl tLI) a1)), (4, pV 0 0), (6, aV 1), (7, aV 2), (8, aV 3), (46, iV (lenI a1)), (47, iV s4.1)], [(0, .box [iC (0 : Int), iC (0 : Int), .nilS, .nilS, .nilS]), (1, .seq tF s4.2.1), (2, .seq tF s4.2.2.1), (3, .seq tF s4.2.2.2)], 4⟩) (fun (r5 : (List Nat × List Nat × List Nat) ⊕ Unit) => match r5 with | .inl r6 => (.exit 0, ⟨[(0, .one (.ip (.st (.pair tI (.pair tI (.pair tLF (.pair tLF tLF))))) a0 0)), (4, pV 0 0), (6, aV 1), (7, aV 2), (8, aV 3)], [(0, .box [iC (0 : Int), iC (0 : Int), .nilS, .nilS, .nilS]), (1, .seq tF r6.1), (2, .seq tF r6.2.1), (3, .seq tF r6.2.2)], 4⟩) | .inr r9 => (.ret, ⟨[(4, pV 0 0), (5, bV false)], [(0, .box [iC (0 : Int), iC (0 : Int), .nilS, .nilS, .nilS])], 1⟩)) (Le.re [(0, 0), (1, 1), (2, 2), (3, 3)] [] hX (by kernel_rfl)) hL67 ?_ (fun s4 x10 hx11 hk12 => ?_)
  · rcases r5 with r6 | r9
    · refine (qBlockX (qThen ?_))
      obtain ⟨y7, hc8, hr⟩ := of_bind hr
      refine HT.rg2 [oH, oH, oH, oH, ⟨none, .call [.pimm (.st (.pair tI (.pair tI (.pair tLF (.pair tLF tLF))))), .imm tLF, .imm tLF, .imm tLF] [⟨true, (.st (.pair tI (.pair tI (.pair tLF (.pair tLF tLF))))), y7.1⟩, ⟨false, .bool, y7.2⟩] []⟩, oH, oH, oH, oH] ⟨[(4, pV 0 0), (5, bV y7.2)], [(0, .box [iC y7.1.1, iC y7.1.2.1, .all 4, .all 5, .all 6]), (4, .seq tF y7.1.2.2.1), (5, .seq tF y7.1.2.2.2.1), (6, .seq tF y7.1.2.2.2.2)], 7⟩ hX (by kernel_rfl) (allCons (f89_ok hc8) allNil) ?_
      have hr := of_some hr
      subst hr
      exact HT.ret ⟨[.agg [iC y7.1.1, iC y7.1.2.1, .all 4, .all 5, .all 6], bV y7.2], [4, 5, 6], [], by kernel_rfl, by kernel_rfl, rfl, by kernel_rfl, by kernel_rfl, trivial⟩
    · have hr := of_some hr
      subst hr
      exact (qBlockR (qThenR ⟨[.agg [iC (0 : Int), iC (0 : Int), .nilS, .nilS, .nilS], bV false], [], [], by kernel_rfl, by kernel_rfl, rfl, by kernel_rfl, by kernel_rfl, trivial⟩))
  · refine HT.rg2 [oH] ⟨[(0, .one (.ip (.st (.pair tI (.pair tI (.pair tLF (.pair tLF tLF))))) a0 0)), (1, .one (.dat (.sl tLI) a1)), (4, pV 0 0), (6, aV 1), (7, aV 2), (8, aV 3), (46, iV (lenI a1)), (47, iV s4.1), (48, bV (decide (s4.1 < (lenI a1))))], [(0, .box [iC (0 : Int), iC (0 : Int), .nilS, .nilS, .nilS]), (1, .seq tF s4.2.1), (2, .seq tF s4.2.2.1), (3, .seq tF s4.2.2.2)], 4⟩ hX (by kernel_rfl) allNil ?_
    refine HT.seq ?_
    rcases of_bif hx11 with ⟨hb13, hx11⟩ | ⟨hb13, hx11⟩
    · refine HT.cond1 rfl hb13 ?_
      refine HT.skip (qThen ?_)
      refine HT.seq ?_
      refine HT.block ?_
      refine HT.rg2 (oHs 2) ⟨[(0, .one (.ip (.st (.pair tI (.pair tI (.pair tLF (.pair tLF tLF))))) a0 0)), (1, .one (.dat (.sl tLI) a1)), (4, pV 0 0), (6, aV 1), (7, aV 2), (8, aV 3), (9, iV s4.1), (46, iV (lenI a1)), (47, iV s4.1)], [(0, .box [iC (0 : Int), iC (0 : Int), .nilS, .nilS, .nilS]), (1, .seq tF s4.2.1), (2, .seq tF s4.2.2.1), (3, .seq tF s4.2.2.2)], 4⟩ hX (by kernel_rfl) allNil ?_
      obtain ⟨hg14, hx11⟩ := of_guard hx11
      obtain ⟨y15, hc16, hx11⟩ := of_bind hx11
      refine HT.rg2 [oH, oH, oH, oH, oH, ⟨none, .call [.pimm (.st (.pair tI (.pair tI (.pair tLF (.pair tLF tLF))))), .imm tLI, .imm tI] [⟨true, tLF, y15.1⟩, ⟨false, .bool, y15.2⟩] []⟩, oH, oH, oH, oH, oH] ⟨[(0, .one (.ip (.st (.pair tI (.pair tI (.pair tLF (.pair tLF tLF))))) a0 0)), (1, .one (.dat (.sl tLI) a1)), (4, pV 0 0), (6, aV 1), (7, aV 2), (8, aV 3), (9, iV s4.1), (10, aV 4), (11, bV y15.2), (46, iV (lenI a1)), (47, iV s4.1)], [(4, .seq tF y15.1), (0, .box [iC (0 : Int), iC (0 : Int), .nilS, .nilS, .nilS]), (1, .seq tF s4.2.1), (2, .seq tF s4.2.2.1), (3, .seq tF s4.2.2.2)], 5⟩ hX (by kernel_rfl) (allCons hg14 (allCons (f53_ok hc16) allNil)) ?_
      refine HT.seq ?_
      refine HT.rg2 (oHs 2) ⟨[(0, .one (.ip (.st (.pair tI (.pair tI (.pair tLF (.pair tLF tLF))))) a0 0)), (1, .one (.dat (.sl tLI) a1)), (4, pV 0 0), (6, aV 1), (7, aV 2), (8, aV 3), (9, iV s4.1), (10, aV 4), (46, iV (lenI a1)), (47, iV s4.1), (60, bV (!y15.2))], [(4, .seq tF y15.1), (0, .box [iC (0 : Int), iC (0 : Int), .nilS, .nilS, .nilS]), (1, .seq tF s4.2.1), (2, .seq tF s4.2.2.1), (3, .seq tF s4.2.2.2)], 5⟩ hX (by kernel_rfl) allNil ?_
      rcases of_bif hx11 with ⟨hb17, hx11⟩ | ⟨hb17, hx11⟩
      · refine HT.cond1 rfl hb17 ?_
        refine HT.rg2 (oHs 3) ⟨[(4, pV 0 0), (5, bV false)], [(0, .box [iC (0 : Int), iC (0 : Int), .nilS, .nilS, .nilS])], 5⟩ hX (by kernel_rfl) allNil ?_
        have hx11 := of_some hx11
        subst hx11
        exact HT.retL (Le.re [(0, 0)] [] hX (by kernel_rfl)) (qThenR (qBlockR (qThenR (qLoopR (hk12 (.inr ()) rfl)))))
      · refine HT.cond0 rfl hb17 ?_
        refine HT.skip (qThen ?_)
        refine HT.seq ?_
        refine HT.rg2 (oHs 3) ⟨[(0, .one (.ip (.st (.pair tI (.pair tI (.pair tLF (.pair tLF tLF))))) a0 0)), (1, .one (.dat (.sl tLI) a1)), (4, pV 0 0), (6, aV 1), (7, aV 2), (8, aV 3), (9, iV s4.1), (10, aV 4), (46, iV (lenI a1)), (47, iV s4.1), (63, iV (lenI y15.1)), (64, iV (0 : Int))], [(4, .seq tF y15.1), (0, .box [iC (0 : Int), iC (0 : Int), .nilS, .nilS, .nilS]), (1, .seq tF s4.2.1), (2, .seq tF s4.2.2.1), (3, .seq tF s4.2.2.2)], 5⟩ hX (by kernel_rfl) allNil ?_
        refine HT.block ?_
        obtain ⟨r19, hL66, hx11⟩ := of_bind hx11
        refine HT.loopL (fun (s18 : Int × List Nat) => ⟨[(0, .one (.ip (.st (.pair tI (.pair tI (.pair tLF (.pair tLF tLF))))) a0 0)), (1, .one (.dat (.sl tLI) a1)), (4, pV 0 0), (6, aV 1), (7, aV 2), (8, aV 3), (9, iV s4.1), (10, aV 4), (46, iV (lenI a1)), (47, iV s4.1), (63, iV (lenI y15.1)), (64, iV s18.1)], [(0, .box [iC (0 : Int), iC (0 : Int), .nilS, .nilS, .nilS]), (1, .seq tF s18.2), (2, .seq tF s4.2.2.1), (3, .seq tF s4.2.2.2), (4, .seq tF y15.1)], 5⟩) (fun (r20 : List Nat) => (.exit 2, ⟨[(0, .one (.ip (.st (.pair tI (.pair tI (.pair tLF (.pair tLF tLF))))) a0 0)), (1, .one (.dat (.sl tLI) a1)), (4, pV 0 0), (6, aV 1), (7, aV 2), (8, aV 3), (9, iV s4.1), (46, iV (lenI a1)), (47, iV s4.1)], [(0, .box [iC (0 : Int), iC (0 : Int), .nilS, .nilS, .nilS]), (1, .seq tF r20), (2, .seq tF s4.2.2.1), (3, .seq tF s4.2.2.2)], 4⟩)) (Le.re [(0, 0), (1, 1), (2, 2), (3, 3), (4, 4)] [] hX (by kernel_rfl)) hL66 ?_ (fun s18 x60 hx61 hk62 => ?_)
        · refine (qBlockX (qThen ?_))
          refine HT.rg2 (oHs 6) ⟨[(0, .one (.ip (.st (.pair tI (.pair tI (.pair tLF (.pair tLF tLF))))) a0 0)), (1, .one (.dat (.sl tLI) a1)), (4, pV 0 0), (6, aV 1), (7, aV 2), (8, aV 3), (9, iV s4.1), (46, iV (lenI a1)), (47, iV s4.1), (82, iV (lenI (List.getD a1 (Int.toNat s4.1) ([] : List Int)))), (83, iV (0 : Int))], [(0, .box [iC (0 : Int), iC (0 : Int), .nilS, .nilS, .nilS]), (1, .seq tF r19), (2, .seq tF s4.2.2.1), (3, .seq tF s4.2.2.2)], 4⟩ hX (by kernel_rfl) (allCons hg14 allNil) ?_
          refine HT.block ?_
          obtain ⟨r22, hL59, hx11⟩ := of_bind hx11
          refine HT.loopL (fun (s21 : Int × List Nat × List Nat) => ⟨[(0, .one (.ip (.st (.pair tI (.pair tI (.pair tLF (.pair tLF tLF))))) a0 0)), (1, .one (.dat (.sl tLI) a1)), (4, pV 0 0), (6, aV 1), (7, aV 2), (8, aV 3), (9, iV s4.1), (46, iV (lenI a1)), (47, iV s4.1), (82, iV (lenI (List.getD a1 (Int.toNat s4.1) ([] : List Int)))), (83, iV s21.1)], [(0, .box [iC (0 : Int), iC (0 : Int), .nilS, .nilS, .nilS]), (1, .seq tF r19), (2, .seq tF s21.2.1), (3, .seq tF s21.2.2)], 4⟩) (fun (r22 : (List Nat × List Nat) ⊕ Unit) => match r22 with | .inl r23 => (.exit 4, ⟨[(0, .one (.ip (.st (.pair tI (.pair tI (.pair tLF (.pair tLF tLF))))) a0 0)), (1, .one (.dat (.sl tLI) a1)), (4, pV 0 0), (6, aV 1), (7, aV 2), (8, aV 3), (46, iV (lenI a1)), (47, iV s4.1)], [(0, .box [iC (0 : Int), iC (0 : Int), .nilS, .nilS, .nilS]), (1, .seq tF r19), (2, .seq tF r23.1), (3, .seq tF r23.2)], 4⟩) | .inr r24 => (.ret, ⟨[(4, pV 0 0), (5, bV false)], [(0, .box [iC (0 : Int), iC (0 : Int), .nilS, .nilS, .nilS])], 1⟩)) (Le.re [(0, 0), (1, 1), (2, 2), (3, 3)] [] hX (by kernel_rfl)) hL59 ?_ (fun s21 x25 hx26 hk27 => ?_)
          · rcases r22 with r23 | r24
            · refine (qBlockX (qBlock (qThen ?_)))
              have hx11 := of_some hx11
              subst hx11
              exact HT.rgK (oHs 2) [(0, 0), (1, 1), (2, 2), (3, 3)] [] hX (by kernel_rfl) allNil (fun _ h => (qLoopN ⟨((wadd .i64 s4.1 (1 : Int)), r19, r23.1, r23.2), rfl, h⟩))
            · have hx11 := of_some hx11
              subst hx11
              exact (qBlockR (qBlockR (qThenR (qLoopR (hk12 (.inr ()) rfl)))))
          · refine HT.rg2 [oH] ⟨[(0, .one (.ip (.st (.pair tI (.pair tI (.pair tLF (.pair tLF tLF))))) a0 0)), (1, .one (.dat (.sl tLI) a1)), (4, pV 0 0), (6, aV 1), (7, aV 2), (8, aV 3), (9, iV s4.1), (46, iV (lenI a1)), (47, iV s4.1), (82, iV (lenI (List.getD a1 (Int.toNat s4.1) ([] : List Int)))), (83, iV s21.1), (84, bV (decide (s21.1 < (lenI (List.getD a1 (Int.toNat s4.1) ([] : List Int))))))], [(0, .box [iC (0 : Int), iC (0 : Int), .nilS, .nilS, .nilS]), (1, .seq tF r19), (2, .seq tF s21.2.1), (3, .seq tF s21.2.2)], 4⟩ hX (by kernel_rfl) allNil ?_
            refine HT.seq ?_
            rcases of_bif hx26 with ⟨hb28, hx26⟩ | ⟨hb28, hx26⟩
            · refine HT.cond1 rfl hb28 ?_
              refine HT.skip (qThen ?_)
              refine HT.seq ?_
              refine HT.block ?_
              refine HT.rg2 (oHs 2) ⟨[(0, .one (.ip (.st (.pair tI (.pair tI (.pair tLF (.pair tLF tLF))))) a0 0)), (1, .one (.dat (.sl tLI) a1)), (4, pV 0 0), (6, aV 1), (7, aV 2), (8, aV 3), (9, iV s4.1), (13, iV s21.1), (46, iV (lenI a1)), (47, iV s4.1), (82, iV (lenI (List.getD a1 (Int.toNat s4.1) ([] : List Int)))), (83, iV s21.1)], [(0, .box [iC (0 : Int), iC (0 : Int), .nilS, .nilS, .nilS]), (1, .seq tF r19), (2, .seq tF s21.2.1), (3, .seq tF s21.2.2)], 4⟩ hX (by kernel_rfl) allNil ?_
              obtain ⟨y29, hc30, hx26⟩ := of_bind hx26
              refine HT.rg2 [oH, oH, oH, oH, oH, oH, ⟨none, .call [.pimm (.st (.pair tI (.pair tI (.pair tLF (.pair tLF tLF))))), .imm tLI, .imm tI] [⟨true, tLF, y29.1⟩, ⟨false, .bool, y29.2⟩] []⟩, oH, oH, oH, oH, oH] ⟨[(0, .one (.ip (.st (.pair tI (.pair tI (.pair tLF (.pair tLF tLF))))) a0 0)), (1, .one (.dat (.sl tLI) a1)), (4, pV 0 0), (6, aV 1), (7, aV 2), (8, aV 3), (9, iV s4.1), (13, iV s21.1), (14, aV 4), (15, bV y29.2), (46, iV (lenI a1)), (47, iV s4.1), (82, iV (lenI (List.getD a1 (Int.toNat s4.1) ([] : List Int)))), (83, iV s21.1)], [(4, .seq tF y29.1), (0, .box [iC (0 : Int), iC (0 : Int), .nilS, .nilS, .nilS]), (1, .seq tF r19), (2, .seq tF s21.2.1), (3, .seq tF s21.2.2)], 5⟩ hX (by kernel_rfl) (allCons hg14 (allCons (f53_ok hc30) allNil)) ?_
              obtain ⟨y31, hc32, hx26⟩ := of_bind hx26
              refine HT.rg2 [oH, oH, oH, oH, oH, oH, ⟨none, .call [.pimm (.st (.pair tI (.pair tI (.pair tLF (.pair tLF tLF))))), .imm tLI, .imm tI] [⟨true, tLF, y31.1⟩, ⟨false, .bool, y31.2⟩] []⟩, oH, oH, oH, oH, oH] ⟨[(0, .one (.ip (.st (.pair tI (.pair tI (.pair tLF (.pair tLF tLF))))) a0 0)), (1, .one (.dat (.sl tLI) a1)), (4, pV 0 0), (6, aV 1), (7, aV 2), (8, aV 3), (9, iV s4.1), (13, iV s21.1), (14, aV 4), (15, bV y29.2), (16, aV 5), (17, bV y31.2), (46, iV (lenI a1)), (47, iV s4.1), (82, iV (lenI (List.getD a1 (Int.toNat s4.1) ([] : List Int)))), (83, iV s21.1)], [(5, .seq tF y31.1), (4, .seq tF y29.1), (0, .box [iC (0 : Int), iC (0 : Int), .nilS, .nilS, .nilS]), (1, .seq tF r19), (2, .seq tF s21.2.1), (3, .seq tF s21.2.2)], 6⟩ hX (by kernel_rfl) (allCons hg14 (allCons (f57_ok hc32) allNil)) ?_
              refine HT.seq ?_
              obtain ⟨v33', hT35, hx26⟩ := of_bind hx26
              refine HT.join (fun (v33 : Bool) => ⟨[(0, .one (.ip (.st (.pair tI (.pair tI (.pair tLF (.pair tLF tLF))))) a0 0)), (1, .one (.dat (.sl tLI) a1)), (4, pV 0 0), (6, aV 1), (7, aV 2), (8, aV 3), (9, iV s4.1), (13, iV s21.1), (14, aV 4), (16, aV 5), (46, iV (lenI a1)), (47, iV s4.1), (82, iV (lenI (List.getD a1 (Int.toNat s4.1) ([] : List Int)))), (83, iV s21.1), (111, bV v33)], [(0, .box [iC (0 : Int), iC (0 : Int), .nilS, .nilS, .nilS]), (1, .seq tF r19), (2, .seq tF s21.2.1), (3, .seq tF s21.2.2), (4, .seq tF y29.1), (5, .seq tF y31.1)], 6⟩) (fun v => v = v33') (fun v33 hv34 => ?_) (fun cont => ?_)
              · subst hv34
                rcases of_bif hx26 with ⟨hb36, hx26⟩ | ⟨hb36, hx26⟩
                · refine HT.cond1 rfl hb36 ?_
                  refine HT.rg2 (oHs 3) ⟨[(4, pV 0 0), (5, bV false)], [(0, .box [iC (0 : Int), iC (0 : Int), .nilS, .nilS, .nilS])], 6⟩ hX (by kernel_rfl) allNil ?_
                  have hx26 := of_some hx26
                  subst hx26
                  exact HT.retL (Le.re [(0, 0)] [] hX (by kernel_rfl)) (qThenR (qBlockR (qThenR (qLoopR (hk27 (.inr ()) rfl)))))
                · refine HT.cond0 rfl hb36 ?_
                  refine HT.skip (qThen ?_)
                  refine HT.seq ?_
                  refine HT.rg2 (oHs 3) ⟨[(0, .one (.ip (.st (.pair tI (.pair tI (.pair tLF (.pair tLF tLF))))) a0 0)), (1, .one (.dat (.sl tLI) a1)), (4, pV 0 0), (6, aV 1), (7, aV 2), (8, aV 3), (9, iV s4.1), (13, iV s21.1), (14, aV 4), (16, aV 5), (46, iV (lenI a1)), (47, iV s4.1), (82, iV (lenI (List.getD a1 (Int.toNat s4.1) ([] : List Int)))), (83, iV s21.1), (114, iV (lenI y29.1)), (115, iV (0 : Int))], [(0, .box [iC (0 : Int), iC (0 : Int), .nilS, .nilS, .nilS]), (1, .seq tF r19), (2, .seq tF s21.2.1), (3, .seq tF s21.2.2), (4, .seq tF y29.1), (5, .seq tF y31.1)], 6⟩ hX (by kernel_rfl) allNil ?_
                  refine HT.block ?_
                  obtain ⟨r38, hL57, hx26⟩ := of_bind hx26
                  refine HT.loopL (fun (s37 : Int × List Nat) => ⟨[(0, .one (.ip (.st (.pair tI (.pair tI (.pair tLF (.pair tLF tLF))))) a0 0)), (1, .one (.dat (.sl tLI) a1)), (4, pV 0 0), (6, aV 1), (7, aV 2), (8, aV 3), (9, iV s4.1), (13, iV s21.1), (14, aV 4), (16, aV 5), (46, iV (lenI a1)), (47, iV s4.1), (82, iV (lenI (List.getD a1 (Int.toNat s4.1) ([] : List Int)))), (83, iV s21.1), (114, iV (lenI y29.1)), (115, iV s37.1)], [(0, .box [iC (0 : Int), iC (0 : Int), .nilS, .nilS, .nilS]), (1, .seq tF r19), (2, .seq tF s21.2.1), (3, .seq tF s37.2), (4, .seq tF y29.1), (5, .seq tF y31.1)], 6⟩) (fun (r39 : List Nat) => (.exit 6, ⟨[(0, .one (.ip (.st (.pair tI (.pair tI (.pair tLF (.pair tLF tLF))))) a0 0)), (1, .one (.dat (.sl tLI) a1)), (4, pV 0 0), (6, aV 1), (7, aV 2), (8, aV 3), (9, iV s4.1), (16, aV 4), (46, iV (lenI a1)), (47, iV s4.1), (82, iV (lenI (List.getD a1 (Int.toNat s4.1) ([] : List Int)))), (83, iV s21.1)], [(0, .box [iC (0 : Int), iC (0 : Int), .nilS, .nilS, .nilS]), (1, .seq tF r19), (2, .seq tF s21.2.1), (3, .seq tF r39), (4, .seq tF y31.1)], 5⟩)) (Le.re [(0, 0), (1, 1), (2, 2), (3, 3), (4, 4), (5, 5)] [] hX (by kernel_rfl)) hL57 ?_ (fun s37 x50 hx51 hk52 => ?_)
                  · refine (qBlockX (qThen ?_))
                    refine HT.rg2 (oHs 3) ⟨[(0, .one (.ip (.st (.pair tI (.pair tI (.pair tLF (.pair tLF tLF))))) a0 0)), (1, .one (.dat (.sl tLI) a1)), (4, pV 0 0), (6, aV 1), (7, aV 2), (8, aV 3), (9, iV s4.1), (16, aV 4), (46, iV (lenI a1)), (47, iV s4.1), (82, iV (lenI (List.getD a1 (Int.toNat s4.1) ([] : List Int)))), (83, iV s21.1), (143, iV (lenI y31.1)), (144, iV (0 : Int))], [(0, .box [iC (0 : Int), iC (0 : Int), .nilS, .nilS, .nilS]), (1, .seq tF r19), (2, .seq tF s21.2.1), (3, .seq tF r38), (4, .seq tF y31.1)], 5⟩ hX (by kernel_rfl) allNil ?_
                    refine HT.block ?_
                    obtain ⟨r41, hL49, hx26⟩ := of_bind hx26
                    refine HT.loopL (fun (s40 : Int × List Nat) => ⟨[(0, .one (.ip (.st (.pair tI (.pair tI (.pair tLF (.pair tLF tLF))))) a0 0)), (1, .one (.dat (.sl tLI) a1)), (4, pV 0 0), (6, aV 1), (7, aV 2), (8, aV 3), (9, iV s4.1), (16, aV 4), (46, iV (lenI a1)), (47, iV s4.1), (82, iV (lenI (List.getD a1 (Int.toNat s4.1) ([] : List Int)))), (83, iV s21.1), (143, iV (lenI y31.1)), (144, iV s40.1)], [(0, .box [iC (0 : Int), iC (0 : Int), .nilS, .nilS, .nilS]), (1, .seq tF r19), (2, .seq tF s40.2), (3, .seq tF r38), (4, .seq tF y31.1)], 5⟩) (fun (r42 : List Nat) => (.exit 8, ⟨[(0, .one (.ip (.st (.pair tI (.pair tI (.pair tLF (.pair tLF tLF))))) a0 0)), (1, .one (.dat (.sl tLI) a1)), (4, pV 0 0), (6, aV 1), (7, aV 2), (8, aV 3), (9, iV s4.1), (46, iV (lenI a1)), (47, iV s4.1), (82, iV (lenI (List.getD a1 (Int.toNat s4.1) ([] : List Int)))), (83, iV s21.1)], [(0, .box [iC (0 : Int), iC (0 : Int), .nilS, .nilS, .nilS]), (1, .seq tF r19), (2, .seq tF r42), (3, .seq tF r38)], 4⟩)) (Le.re [(0, 0), (1, 1), (2, 2), (3, 3), (4, 4)] [] hX (by kernel_rfl)) hL49 ?_ (fun s40 x43 hx44 hk45 => ?_)
                    · refine (qBlockX (qBlock (qThen ?_)))
                      have hx26 := of_some hx26
                      subst hx26
                      exact HT.rgK (oHs 2) [(0, 0), (1, 1), (2, 2), (3, 3)] [] hX (by kernel_rfl) allNil (fun _ h => (qLoopN ⟨((wadd .i64 s21.1 (1 : Int)), r41, r38), rfl, h⟩))
                    · refine HT.rg2 [oH] ⟨[(0, .one (.ip (.st (.pair tI (.pair tI (.pair tLF (.pair tLF tLF))))) a0 0)), (1, .one (.dat (.sl tLI) a1)), (4, pV 0 0), (6, aV 1), (7, aV 2), (8, aV 3), (9, iV s4.1), (16, aV 4), (46, iV (lenI a1)), (47, iV s4.1), (82, iV (lenI (List.getD a1 (Int.toNat s4.1) ([] : List Int)))), (83, iV s21.1), (143, iV (lenI y31.1)), (144, iV s40.1), (145, bV (decide (s40.1 < (lenI y31.1))))], [(0, .box [iC (0 : Int), iC (0 : Int), .nilS, .nilS, .nilS]), (1, .seq tF r19), (2, .seq tF s40.2), (3, .seq tF r38), (4, .seq tF y31.1)], 5⟩ hX (by kernel_rfl) allNil ?_
                      refine HT.seq ?_
                      rcases of_bif hx44 with ⟨hb46, hx44⟩ | ⟨hb46, hx44⟩
                      · refine HT.cond1 rfl hb46 ?_
                        refine HT.skip (qThen ?_)
                        refine HT.seq ?_
                        refine HT.block ?_
                        refine HT.rg2 (oHs 2) ⟨[(0, .one (.ip (.st (.pair tI (.pair tI (.pair tLF (.pair tLF tLF))))) a0 0)), (1, .one (.dat (.sl tLI) a1)), (4, pV 0 0), (6, aV 1), (7, aV 2), (8, aV 3), (9, iV s4.1), (16, aV 4), (19, iV s40.1), (46, iV (lenI a1)), (47, iV s4.1), (82, iV (lenI (List.getD a1 (Int.toNat s4.1) ([] : List Int)))), (83, iV s21.1), (143, iV (lenI y31.1)), (144, iV s40.1)], [(0, .box [iC (0 : Int), iC (0 : Int), .nilS, .nilS, .nilS]), (1, .seq tF r19), (2, .seq tF s40.2), (3, .seq tF r38), (4, .seq tF y31.1)], 5⟩ hX (by kernel_rfl) allNil ?_
                        obtain ⟨hg47, hx44⟩ := of_guard hx44
                        obtain ⟨hg48, hx44⟩ := of_guard hx44
                        refine HT.drL 8 [⟨oH, []⟩, ⟨oH, []⟩, ⟨oH, [0, 1]⟩, ⟨oH, [0, 1, 2]⟩, ⟨oH, []⟩, ⟨oH, []⟩, ⟨oH, [4, 5]⟩, ⟨oH, [4, 5, 6]⟩] [[0, 1, 2, 3, 4, 5, 6, 7], [0, 1, 2, 3, 4, 5, 6, 7, 8], [0, 1, 2, 3, 4, 5, 6, 7, 8, 9]] (oHs 3) ⟨[(0, .one (.ip (.st (.pair tI (.pair tI (.pair tLF (.pair tLF tLF))))) a0 0)), (1, .one (.dat (.sl tLI) a1)), (4, pV 0 0), (6, aV 1), (7, aV 2), (8, aV 3), (9, iV s4.1), (16, aV 4), (46, iV (lenI a1)), (47, iV s4.1), (82, iV (lenI (List.getD a1 (Int.toNat s4.1) ([] : List Int)))), (83, iV s21.1), (143, iV (lenI y31.1)), (144, iV s40.1)], [(2, .seq tF (List.set s40.2 (Int.toNat s40.1) (fop .add .f32 (List.getD s40.2 (Int.toNat s40.1) (0 : Nat)) (List.getD y31.1 (Int.toNat s40.1) (0 : Nat))))), (0, .box [iC (0 : Int), iC (0 : Int), .nilS, .nilS, .nilS]), (1, .seq tF r19), (3, .seq tF r38), (4, .seq tF y31.1)], 5⟩ hX (by kernel_rfl) (by kernel_rfl) (allCons hg47 (allCons (natLt hg47) (allCons hg48 (allCons (natLt hg48) (allCons hg47 (allCons (natLt hg47) allNil)))))) (qBlock (qThen ?_))
                        have hx44 := of_some hx44
                        subst hx44
                        exact HT.rgK (oHs 2) [(0, 0), (1, 1), (2, 2), (3, 3), (4, 4)] [] hX (by kernel_rfl) allNil (fun _ h => (qLoopN ⟨((wadd .i64 s40.1 (1 : Int)), (List.set s40.2 (Int.toNat s40.1) (fop .add .f32 (List.getD s40.2 (Int.toNat s40.1) (0 : Nat)) (List.getD y31.1 (Int.toNat s40.1) (0 : Nat))))), rfl, h⟩))
                      · refine HT.cond0 rfl hb46 ?_
                        have hx44 := of_some hx44
                        subst hx44
                        exact HT.exitL (Le.re [(0, 0), (1, 1), (2, 2), (3, 3)] [] hX (by kernel_rfl)) (qThenE (qLoopE (hk45 s40.2 rfl)))
                  · refine HT.rg2 [oH] ⟨[(0, .one (.ip (.st (.pair tI (.pair tI (.pair tLF (.pair tLF tLF))))) a0 0)), (1, .one (.dat (.sl tLI) a1)), (4, pV 0 0), (6, aV 1), (7, aV 2), (8, aV 3), (9, iV s4.1), (13, iV s21.1), (14, aV 4), (16, aV 5), (46, iV (lenI a1)), (47, iV s4.1), (82, iV (lenI (List.getD a1 (Int.toNat s4.1) ([] : List Int)))), (83, iV s21.1), (114, iV (lenI y29.1)), (115, iV s37.1), (116, bV (decide (s37.1 < (lenI y29.1))))], [(0, .box [iC (0 : Int), iC (0 : Int), .nilS, .nilS, .nilS]), (1, .seq tF r19), (2, .seq tF s21.2.1), (3, .seq tF s37.2), (4, .seq tF y29.1), (5, .seq tF y31.1)], 6⟩ hX (by kernel_rfl) allNil ?_
                    refine HT.seq ?_
                    rcases of_bif hx51 with ⟨hb53, hx51⟩ | ⟨hb53, hx51⟩
                    · refine HT.cond1 rfl hb53 ?_
                      refine HT.skip (qThen ?_)
                      refine HT.seq ?_
                      refine HT.block ?_
                      refine HT.rg2 (oHs 2) ⟨[(0, .one (.ip (.st (.pair tI (.pair tI (.pair tLF (.pair tLF tLF))))) a0 0)), (1, .one (.dat (.sl tLI) a1)), (4, pV 0 0), (6, aV 1), (7, aV 2), (8, aV 3), (9, iV s4.1), (13, iV s21.1), (14, aV 4), (16, aV 5), (18, iV s37.1), (46, iV (lenI a1)), (47, iV s4.1), (82, iV (lenI (List.getD a1 (Int.toNat s4.1) ([] : List Int)))), (83, iV s21.1), (114, iV (lenI y29.1)), (115, iV s37.1)], [(0, .box [iC (0 : Int), iC (0 : Int), .nilS, .nilS, .nilS]), (1, .seq tF r19), (2, .seq tF s21.2.1), (3, .seq tF s37.2), (4, .seq tF y29.1), (5, .seq tF y31.1)], 6⟩ hX (by kernel_rfl) allNil ?_
                      obtain ⟨hg54, hx51⟩ := of_guard hx51
                      obtain ⟨hg55, hx51⟩ := of_guard hx51
                      obtain ⟨hg56, hx51⟩ := of_guard hx51
                      refine HT.drL 21 [⟨oH, []⟩, ⟨oH, []⟩, ⟨oH, []⟩, ⟨oH, [2]⟩, ⟨oH, [2, 3]⟩, ⟨oH, [2, 3, 4]⟩, ⟨oH, [1, 2, 3, 4, 5]⟩, ⟨oH, []⟩, ⟨oH, []⟩, ⟨oH, [7, 8]⟩, ⟨oH, [7, 8, 9]⟩, ⟨oH, []⟩, ⟨oH, [7, 8, 9, 10, 11]⟩, ⟨oH, [7, 8, 9, 10, 11, 12]⟩, ⟨oH, [1, 2, 3, 4, 5, 6, 7, 8, 9, 10, 11, 12, 13]⟩, ⟨oH, [0, 1, 2, 3, 4, 5, 6, 7, 8, 9, 10, 11, 12, 13, 14]⟩, ⟨oH, [0, 1, 2, 3, 4, 5, 6, 7, 8, 9, 10, 11, 12, 13, 14, 15]⟩, ⟨oH, []⟩, ⟨oH, []⟩, ⟨oH, [17, 18]⟩, ⟨oH, [17, 18, 19]⟩] [[0, 1, 2, 3, 4, 5, 6, 7, 8, 9, 10, 11, 12, 13, 14, 15, 16, 17, 18, 19, 20], [0, 1, 2, 3, 4, 5, 6, 7, 8, 9, 10, 11, 12, 13, 14, 15, 16, 17, 18, 19, 20, 21], [0, 1, 2, 3, 4, 5, 6, 7, 8, 9, 10, 11, 12, 13, 14, 15, 16, 17, 18, 19, 20, 21, 22]] (oHs 3) ⟨[(0, .one (.ip (.st (.pair tI (.pair tI (.pair tLF (.pair tLF tLF))))) a0 0)), (1, .one (.dat (.sl tLI) a1)), (4, pV 0 0), (6, aV 1), (7, aV 2), (8, aV 3), (9, iV s4.1), (13, iV s21.1), (14, aV 4), (16, aV 5), (46, iV (lenI a1)), (47, iV s4.1), (82, iV (lenI (List.getD a1 (Int.toNat s4.1) ([] : List Int)))), (83, iV s21.1), (114, iV (lenI y29.1)), (115, iV s37.1)], [(3, .seq tF (List.set s37.2 (Int.toNat (wadd .i64 (wmul .i64 s37.1 a0.2.1) (List.getD (List.getD a1 (Int.toNat s4.1) ([] : List Int)) (Int.toNat s21.1) (0 : Int)))) (fop .add .f32 (List.getD s37.2 (Int.toNat (wadd .i64 (wmul .i64 s37.1 a0.2.1) (List.getD (List.getD a1 (Int.toNat s4.1) ([] : List Int)) (Int.toNat s21.1) (0 : Int)))) (0 : Nat)) (List.getD y29.1 (Int.toNat s37.1) (0 : Nat))))), (0, .box [iC (0 : Int), iC (0 : Int), .nilS, .nilS, .nilS]), (1, .seq tF r19), (2, .seq tF s21.2.1), (4, .seq tF y29.1), (5, .seq tF y31.1)], 6⟩ hX (by kernel_rfl) (by kernel_rfl) (allCons hg14 (allCons hg54 (allCons hg55 (allCons (natLt hg55) (allCons hg56 (allCons (natLt hg56) (allCons hg55 (allCons (natLt hg55) allNil)))))))) (qBlock (qThen ?_))
                      have hx51 := of_some hx51
                      subst hx51
                      exact HT.rgK (oHs 2) [(0, 0), (1, 1), (2, 2), (3, 3), (4, 4), (5, 5)] [] hX (by kernel_rfl) allNil (fun _ h => (qLoopN ⟨((wadd .i64 s37.1 (1 : Int)), (List.set s37.2 (Int.toNat (wadd .i64 (wmul .i64 s37.1 a0.2.1) (List.getD (List.getD a1 (Int.toNat s4.1) ([] : List Int)) (Int.toNat s21.1) (0 : Int)))) (fop .add .f32 (List.getD s37.2 (Int.toNat (wadd .i64 (wmul .i64 s37.1 a0.2.1) (List.getD (List.getD a1 (Int.toNat s4.1) ([] : List Int)) (Int.toNat s21.1) (0 : Int)))) (0 : Nat)) (List.getD y29.1 (Int.toNat s37.1) (0 : Nat))))), rfl, h⟩))
                    · refine HT.cond0 rfl hb53 ?_
                      have hx51 := of_some hx51
                      subst hx51
                      exact HT.exitL (Le.re [(0, 0), (1, 1), (2, 2), (3, 3), (5, 4)] [] hX (by kernel_rfl)) (qThenE (qLoopE (hk52 s37.2 rfl)))
              · rcases of_bif hT35 with ⟨hb58, hT35⟩ | ⟨hb58, hT35⟩
                · exact HT.rgK [oH, oH, oH, ⟨some true, .no⟩, ⟨some true, .no⟩, ⟨none, .tv true⟩] [(0, 0), (1, 1), (2, 2), (3, 3), (4, 4), (5, 5)] [] hX (by kernel_rfl) (allCons hb58 (allCons hb58 (allCons hb58 allNil))) (fun _ h => (qThen (h.ht (cont true (of_some hT35)))))
                · exact HT.rgK [oH, oH, oH, ⟨some false, .no⟩, ⟨some false, .no⟩, ⟨none, .tv false⟩] [(0, 0), (1, 1), (2, 2), (3, 3), (4, 4), (5, 5)] [] hX (by kernel_rfl) (allCons hb58 (allCons hb58 (allCons hb58 allNil))) (fun _ h => (qThen (h.ht (cont (!y31.2) (of_some hT35)))))
            · refine HT.cond0 rfl hb28 ?_
              have hx26 := of_some hx26
              subst hx26
              exact HT.exitL (Le.re [(0, 0), (1, 1), (2, 2), (3, 3)] [] hX (by kernel_rfl)) (qThenE (qLoopE (hk27 (.inl (s21.2.1, s21.2.2)) rfl)))
        · refine HT.rg2 [oH] ⟨[(0, .one (.ip (.st (.pair tI (.pair tI (.pair tLF (.pair tLF tLF))))) a0 0)), (1, .one (.dat (.sl tLI) a1)), (4, pV 0 0), (6, aV 1), (7, aV 2), (8, aV 3), (9, iV s4.1), (10, aV 4), (46, iV (lenI a1)), (47, iV s4.1), (63, iV (lenI y15.1)), (64, iV s18.1), (65, bV (decide (s18.1 < (lenI y15.1))))], [(0, .box [iC (0 : Int), iC (0 : Int), .nilS, .nilS, .nilS]), (1, .seq tF s18.2), (2, .seq tF s4.2.2.1), (3, .seq tF s4.2.2.2), (4, .seq tF y15.1)], 5⟩ hX (by kernel_rfl) allNil ?_
          refine HT.seq ?_
          rcases of_bif hx61 with ⟨hb63, hx61⟩ | ⟨hb63, hx61⟩
          · refine HT.cond1 rfl hb63 ?_
            refine HT.skip (qThen ?_)
            refine HT.seq ?_
            refine HT.block ?_
            refine HT.rg2 (oHs 2) ⟨[(0, .one (.ip (.st (.pair tI (.pair tI (.pair tLF (.pair tLF tLF))))) a0 0)), (1, .one (.dat (.sl tLI) a1)), (4, pV 0 0), (6, aV 1), (7, aV 2), (8, aV 3), (9, iV s4.1), (10, aV 4), (12, iV s18.1), (46, iV (lenI a1)), (47, iV s4.1), (63, iV (lenI y15.1)), (64, iV s18.1)], [(0, .box [iC (0 : Int), iC (0 : Int), .nilS, .nilS, .nilS]), (1, .seq tF s18.2), (2, .seq tF s4.2.2.1), (3, .seq tF s4.2.2.2), (4, .seq tF y15.1)], 5⟩ hX (by kernel_rfl) allNil ?_
            obtain ⟨hg64, hx61⟩ := of_guard hx61
            obtain ⟨hg65, hx61⟩ := of_guard hx61
            refine HT.drL 8 [⟨oH, []⟩, ⟨oH, []⟩, ⟨oH, [0, 1]⟩, ⟨oH, [0, 1, 2]⟩, ⟨oH, []⟩, ⟨oH, []⟩, ⟨oH, [4, 5]⟩, ⟨oH, [4, 5, 6]⟩] [[0, 1, 2, 3, 4, 5, 6, 7], [0, 1, 2, 3, 4, 5, 6, 7, 8], [0, 1, 2, 3, 4, 5, 6, 7, 8, 9]] (oHs 3) ⟨[(0, .one (.ip (.st (.pair tI (.pair tI (.pair tLF (.pair tLF tLF))))) a0 0)), (1, .one (.dat (.sl tLI) a1)), (4, pV 0 0), (6, aV 1), (7, aV 2), (8, aV 3), (9, iV s4.1), (10, aV 4), (46, iV (lenI a1)), (47, iV s4.1), (63, iV (lenI y15.1)), (64, iV s18.1)], [(1, .seq tF (List.set s18.2 (Int.toNat s18.1) (fop .add .f32 (List.getD s18.2 (Int.toNat s18.1) (0 : Nat)) (List.getD y15.1 (Int.toNat s18.1) (0 : Nat))))), (0, .box [iC (0 : Int), iC (0 : Int), .nilS, .nilS, .nilS]), (2, .seq tF s4.2.2.1), (3, .seq tF s4.2.2.2), (4, .seq tF y15.1)], 5⟩ hX (by kernel_rfl) (by kernel_rfl) (allCons hg64 (allCons (natLt hg64) (allCons hg65 (allCons (natLt hg65) (allCons hg64 (allCons (natLt hg64) allNil)))))) (qBlock (qThen ?_))
            have hx61 := of_some hx61
            subst hx61
            exact HT.rgK (oHs 2) [(0, 0), (1, 1), (2, 2), (3, 3), (4, 4)] [] hX (by kernel_rfl) allNil (fun _ h => (qLoopN ⟨((wadd .i64 s18.1 (1 : Int)), (List.set s18.2 (Int.toNat s18.1) (fop .add .f32 (List.getD s18.2 (Int.toNat s18.1) (0 : Nat)) (List.getD y15.1 (Int.toNat s18.1) (0 : Nat))))), rfl, h⟩))
          · refine HT.cond0 rfl hb63 ?_
            have hx61 := of_some hx61
            subst hx61
            exact HT.exitL (Le.re [(0, 0), (1, 1), (2, 2), (3, 3)] [] hX (by kernel_rfl)) (qThenE (qLoopE (hk62 s18.2 rfl)))
    · refine HT.cond0 rfl hb13 ?_
      have hx11 := of_some hx11
      subst hx11
      exact HT.exitL (Le.re [(0, 0), (1, 1), (2, 2), (3, 3)] [] hX (by kernel_rfl)) (qThenE (qLoopE (hk12 (.inl (s4.2.1, s4.2.2.1, s4.2.2.2)) rfl)))

noncomputable def spec_LearnOnce (a0 : Int × Int × List Nat × List Nat × List Nat) (a1 : List (List Int)) : Option ((Int × Int × List Nat × List Nat × List Nat) × Bool) :=
  (spec_l03Words (a0.1, a0.2.1, a0.2.2.1, a0.2.2.2.1, a0.2.2.2.2) a1).bind fun y1 =>
  bif (!y1) then
    some (((0 : Int), (0 : Int), ([] : List Nat), ([] : List Nat), ([] : List Nat)), false)
  else
    (spec_l03Learn (a0.1, a0.2.1, a0.2.2.1, a0.2.2.2.1, a0.2.2.2.2) a1).bind fun y4 =>
    some ((y4.1.1, y4.1.2.1, y4.1.2.2.1, y4.1.2.2.2.1, y4.1.2.2.2.2), y4.2)

theorem f27_ok {a0 : Int × Int × List Nat × List Nat × List Nat} {a1 : List (List Int)} {r : (Int × Int × List Nat × List Nat × List Nat) × Bool} (hr : spec_LearnOnce a0 a1 = some r) : CallOK Try.prog 27 [.imm (.st (.pair tI (.pair tI (.pair tLF (.pair tLF tLF))))) a0, .imm (.sl tLI) a1] [⟨true, (.st (.pair tI (.pair tI (.pair tLF (.pair tLF tLF))))), r.1⟩, ⟨false, .bool, r.2⟩] [] := by
  unfold spec_LearnOnce at hr
  refine CallOK.of_body (ts := [(true, (.st (.pair tI (.pair tI (.pair tLF (.pair tLF tLF)))))), (false, .bool)]) Try.func27 rfl (by kernel_rfl) (Nat.le_of_ble_eq_true (by kernel_rfl)) fun cx hP hN hO hF => ?_
  have hO : cx.own.map Prod.fst = [] := hO
  have hX := CxIs.mk hP hN hO
  have hF := hF rfl
  show HT cx ⟨[(0, .agg [iC a0.1, iC a0.2.1, lC a0.2.2.1, lC a0.2.2.2.1, lC a0.2.2.2.2]), (1, .one (.dat (.sl tLI) a1))], [], 0⟩ _ _
  refine HT.rg2 (oHs 3) ⟨[(1, .one (.dat (.sl tLI) a1)), (2, pV 0 0), (4, pV 1 0)], [(1, .box [iC (0 : Int), iC (0 : Int), .nilS, .nilS, .nilS]), (0, .box [iC a0.1, iC a0.2.1, lC a0.2.2.1, lC a0.2.2.2.1, lC a0.2.2.2.2])], 2⟩ hX (by kernel_rfl) allNil ?_
  refine HT.seq ?_
  obtain ⟨y1, hc2, hr⟩ := of_bind hr
  refine HT.rg2 [oH, ⟨none, .call [.pimm (.st (.pair tI (.pair tI (.pair tLF (.pair tLF tLF))))), .imm (.sl tLI)] [⟨false, .bool, y1⟩] []⟩, oH] ⟨[(1, .one (.dat (.sl tLI) a1)), (2, pV 0 0), (4, pV 1 0), (8, bV (!y1))], [(1, .box [iC (0 : Int), iC (0 : Int), .nilS, .nilS, .nilS]), (0, .box [iC a0.1, iC a0.2.1, lC a0.2.2.1, lC a0.2.2.2.1, lC a0.2.2.2.2])], 2⟩ hX (by kernel_rfl) (allCons (f60_ok hc2) allNil) ?_
  rcases of_bif hr with ⟨hb3, hr⟩ | ⟨hb3, hr⟩
  · refine HT.cond1 rfl hb3 ?_
    refine HT.rg2 (oHs 3) ⟨[(4, pV 1 0), (5, bV false)], [(1, .box [iC (0 : Int), iC (0 : Int), .nilS, .nilS, .nilS])], 2⟩ hX (by kernel_rfl) allNil ?_
    have hr := of_some hr
    subst hr
    exact HT.ret (qThenR ⟨[.agg [iC (0 : Int), iC (0 : Int), .nilS, .nilS, .nilS], bV false], [], [], by kernel_rfl, by kernel_rfl, rfl, by kernel_rfl, by kernel_rfl, trivial⟩)
  · refine HT.cond0 rfl hb3 ?_
    refine HT.skip (qThen ?_)
    obtain ⟨y4, hc5, hr⟩ := of_bind hr
    refine HT.rg2 [oH, ⟨none, .call [.pimm (.st (.pair tI (.pair tI (.pair tLF (.pair tLF tLF))))), .imm (.sl tLI)] [⟨true, (.st (.pair tI (.pair tI (.pair tLF (.pair tLF tLF))))), y4.1⟩, ⟨false, .bool, y4.2⟩] []⟩, oH, oH, oH, oH] ⟨[(4, pV 1 0), (5, bV y4.2)], [(1, .box [iC y4.1.1, iC y4.1.2.1, .all 2, .all 3, .all 4]), (2, .seq tF y4.1.2.2.1), (3, .seq tF y4.1.2.2.2.1), (4, .seq tF y4.1.2.2.2.2)], 5⟩ hX (by kernel_rfl) (allCons (f61_ok hc5) allNil) ?_
    have hr := of_some hr
    subst hr
    exact HT.ret ⟨[.agg [iC y4.1.1, iC y4.1.2.1, .all 2, .all 3, .all 4], bV y4.2], [2, 3, 4], [], by kernel_rfl, by kernel_rfl, rfl, by kernel_rfl, by kernel_rfl, trivial⟩

noncomputable def impl_within (a0 : Int) (a1 : Int) (a2 : Int) : Option (Bool) :=
  (show Option (Bool) from
    bif (decide (a0 ≥ a1)) then
      some (decide (a0 ≤ a2))
    else
      some false).bind fun v1 =>
  some v1

theorem f54_ok {a0 : Int} {a1 : Int} {a2 : Int} {r : Bool} (hr : impl_within a0 a1 a2 = some r) : CallOK Try.prog 54 [.imm tI a0, .imm tI a1, .imm tI a2] [⟨false, .bool, r⟩] [] := by
  unfold impl_within at hr
  refine CallOK.of_body (ts := [(false, .bool)]) Try.func54 rfl (by kernel_rfl) (Nat.le_of_ble_eq_true (by kernel_rfl)) fun cx hP hN hO hF => ?_
  have hO : cx.own.map Prod.fst = [] := hO
  have hX := CxIs.mk hP hN hO
  have hF := hF rfl
  show HT cx ⟨[(0, iV a0), (1, iV a1), (2, iV a2)], [], 0⟩ _ _
  refine HT.rg2 [oH] ⟨[(0, iV a0), (1, iV a1), (2, iV a2)], [], 0⟩ hX (by kernel_rfl) allNil ?_
  obtain ⟨v1', hT3, hr⟩ := of_bind hr
  refine HT.join (fun (v1 : Bool) => ⟨[(6, bV v1)], [], 0⟩) (fun v => v = v1') (fun v1 hv2 => ?_) (fun cont => ?_)
  · subst hv2
    have hr := of_some hr
    subst hr
    exact HT.ret ⟨[bV v1], [], [], by kernel_rfl, by kernel_rfl, rfl, by kernel_rfl, by kernel_rfl, trivial⟩
  · rcases of_bif hT3 with ⟨hb4, hT3⟩ | ⟨hb4, hT3⟩
    · exact HT.rgK [oH, oH, oH, oH, ⟨some true, .no⟩, ⟨some true, .no⟩, ⟨some true, .no⟩, ⟨none, .tv true⟩, oH] [] [] hX (by kernel_rfl) (allCons hb4 (allCons hb4 (allCons hb4 (allCons hb4 allNil)))) (fun _ h => (qThen (h.ht (cont (decide (a0 ≤ a2)) (of_some hT3)))))
    · exact HT.rgK [oH, oH, oH, oH, ⟨some false, .no⟩, ⟨some false, .no⟩, ⟨some false, .no⟩, ⟨none, .tv false⟩, oH] [] [] hX (by kernel_rfl) (allCons hb4 (allCons hb4 (allCons hb4 (allCons hb4 allNil)))) (fun _ h => (qThen (h.ht (cont false (of_some hT3)))))

noncomputable def impl_rowOf_float32 (a0 : List Nat) (a1 : Int) (a2 : Int) : Option (List Nat) :=
  guardP ((0 : Int) ≤ (wmul .i64 a2 a1) ∧ (wmul .i64 a2 a1) ≤ (wmul .i64 (wadd .i64 a2 (1 : Int)) a1) ∧ (wmul .i64 (wadd .i64 a2 (1 : Int)) a1) ≤ (wmul .i64 (wadd .i64 a2 (1 : Int)) a1) ∧ (wmul .i64 (wadd .i64 a2 (1 : Int)) a1) ≤ lenI a0) (
    some (cut a0 (wmul .i64 a2 a1) (wmul .i64 (wadd .i64 a2 (1 : Int)) a1)))

theorem f114_ok {a0 : List Nat} {a1 : Int} {a2 : Int} {r : List Nat} (hr : impl_rowOf_float32 a0 a1 a2 = some r) : CallOK Try.prog 114 [.imm tLF a0, .imm tI a1, .imm tI a2] [⟨false, tLF, r⟩] [] := by
  unfold impl_rowOf_float32 at hr
  refine CallOK.of_body (ts := [(false, tLF)]) Try.func114 rfl (by kernel_rfl) (Nat.le_of_ble_eq_true (by kernel_rfl)) fun cx hP hN hO hF => ?_
  have hO : cx.own.map Prod.fst = [] := hO
  have hX := CxIs.mk hP hN hO
  have hF := hF rfl
  show HT cx ⟨[(0, lV a0), (1, iV a1), (2, iV a2)], [], 0⟩ _ _
  refine HT.rg2 [oH] ⟨[(0, lV a0), (1, iV a1), (2, iV a2)], [], 0⟩ hX (by kernel_rfl) allNil ?_
  obtain ⟨hg1, hr⟩ := of_guard hr
  refine HT.rg2 (oHs 14) ⟨[(6, lV (cut a0 (wmul .i64 a2 a1) (wmul .i64 (wadd .i64 a2 (1 : Int)) a1)))], [], 0⟩ hX (by kernel_rfl) (allCons hg1 allNil) ?_
  have hr := of_some hr
  subst hr
  exact HT.ret ⟨[lV (cut a0 (wmul .i64 a2 a1) (wmul .i64 (wadd .i64 a2 (1 : Int)) a1))], [], [], by kernel_rfl, by kernel_rfl, rfl, by kernel_rfl, by kernel_rfl, trivial⟩

noncomputable def impl_addUp_B1 (a0 : List Nat) (s1 : Nat × Int) : Option ((Nat × Int) ⊕ (Nat)) :=
  bif (decide (s1.2 < (lenI a0))) then
    guardP ((0 : Int) ≤ s1.2 ∧ s1.2 < lenI a0) (
      some (.inl ((fop .add .f32 s1.1 (List.getD a0 (Int.toNat s1.2) (0 : Nat))), (wadd .i64 s1.2 (1 : Int)))))
  else
    some (.inr s1.1)

noncomputable def impl_addUp (a0 : List Nat) : Option (Nat) :=
  (rounds (impl_addUp_B1 a0) ((0 : Nat), (0 : Int))).bind fun r3 =>
  some r3

theorem f111_ok {a0 : List Nat} {r : Nat} (hr : impl_addUp a0 = some r) : CallOK Try.prog 111 [.imm tLF a0] [⟨false, tF, r⟩] [] := by
  unfold impl_addUp at hr
  refine CallOK.of_body (ts := [(false, tF)]) Try.func111 rfl (by kernel_rfl) (Nat.le_of_ble_eq_true (by kernel_rfl)) fun cx hP hN hO hF => ?_
  have hO : cx.own.map Prod.fst = [] := hO
  have hX := CxIs.mk hP hN hO
  have hF := hF rfl
  show HT cx ⟨[(0, lV a0)], [], 0⟩ _ _
  refine HT.rg2 [oH] ⟨[(0, lV a0)], [], 0⟩ hX (by kernel_rfl) allNil ?_
  refine HT.rg2 [oH] ⟨[(0, lV a0), (3, fV (0 : Nat))], [], 0⟩ hX (by kernel_rfl) allNil ?_
  refine HT.seq ?_
  refine HT.rg2 (oHs 3) ⟨[(3, fV (0 : Nat)), (6, lV a0), (7, iV (lenI a0)), (8, iV (0 : Int))], [], 0⟩ hX (by kernel_rfl) allNil ?_
  refine HT.block ?_
  obtain ⟨r2, hL9, hr⟩ := of_bind hr
  refine HT.loopL (fun (s1 : Nat × Int) => ⟨[(3, fV s1.1), (6, lV a0), (7, iV (lenI a0)), (8, iV s1.2)], [], 0⟩) (fun (r3 : Nat) => (.exit 0, ⟨[(3, fV r3)], [], 0⟩)) (Le.re [] [] hX (by kernel_rfl)) hL9 ?_ (fun s1 x4 hx5 hk6 => ?_)
  · refine (qBlockX (qThen ?_))
    refine HT.rg2 (oHs 2) ⟨[(2, fV r2)], [], 0⟩ hX (by kernel_rfl) allNil ?_
    have hr := of_some hr
    subst hr
    exact HT.ret ⟨[fV r2], [], [], by kernel_rfl, by kernel_rfl, rfl, by kernel_rfl, by kernel_rfl, trivial⟩
  · refine HT.rg2 [oH] ⟨[(3, fV s1.1), (6, lV a0), (7, iV (lenI a0)), (8, iV s1.2), (9, bV (decide (s1.2 < (lenI a0))))], [], 0⟩ hX (by kernel_rfl) allNil ?_
    refine HT.seq ?_
    rcases of_bif hx5 with ⟨hb7, hx5⟩ | ⟨hb7, hx5⟩
    · refine HT.cond1 rfl hb7 ?_
      refine HT.skip (qThen ?_)
      refine HT.seq ?_
      refine HT.block ?_
      obtain ⟨hg8, hx5⟩ := of_guard hx5
      refine HT.rg2 (oHs 3) ⟨[(3, fV s1.1), (5, fV (List.getD a0 (Int.toNat s1.2) (0 : Nat))), (6, lV a0), (7, iV (lenI a0)), (8, iV s1.2)], [], 0⟩ hX (by kernel_rfl) (allCons hg8 allNil) ?_
      refine HT.rgL (oHs 4) ⟨[(3, fV (fop .add .f32 s1.1 (List.getD a0 (Int.toNat s1.2) (0 : Nat)))), (6, lV a0), (7, iV (lenI a0)), (8, iV s1.2)], [], 0⟩ hX (by kernel_rfl) allNil (qBlock (qThen ?_))
      have hx5 := of_some hx5
      subst hx5
      exact HT.rgK (oHs 2) [] [] hX (by kernel_rfl) allNil (fun _ h => (qLoopN ⟨((fop .add .f32 s1.1 (List.getD a0 (Int.toNat s1.2) (0 : Nat))), (wadd .i64 s1.2 (1 : Int))), rfl, h⟩))
    · refine HT.cond0 rfl hb7 ?_
      have hx5 := of_some hx5
      subst hx5
      exact HT.exitL (Le.re [] [] hX (by kernel_rfl)) (qThenE (qLoopE (hk6 s1.1 rfl)))

noncomputable def impl_absolute (a0 : Nat) : Option (Nat) :=
  bif (flt .f32 a0 (0 : Nat)) then
    some (fneg .f32 a0)
  else
    some a0

theorem f139_ok {a0 : Nat} {r : Nat} (hr : impl_absolute a0 = some r) : CallOK Try.prog 139 [.imm tF a0] [⟨false, tF, r⟩] [] := by
  unfold impl_absolute at hr
  refine CallOK.of_body (ts := [(false, tF)]) Try.func139 rfl (by kernel_rfl) (Nat.le_of_ble_eq_true (by kernel_rfl)) fun cx hP hN hO hF => ?_
  have hO : cx.own.map Prod.fst = [] := hO
  have hX := CxIs.mk hP hN hO
  have hF := hF rfl
  show HT cx ⟨[(0, fV a0)], [], 0⟩ _ _
  refine HT.rg2 [oH] ⟨[(0, fV a0)], [], 0⟩ hX (by kernel_rfl) allNil ?_
  refine HT.seq ?_
  refine HT.rg2 (oHs 2) ⟨[(0, fV a0), (4, bV (flt .f32 a0 (0 : Nat)))], [], 0⟩ hX (by kernel_rfl) allNil ?_
  rcases of_bif hr with ⟨hb1, hr⟩ | ⟨hb1, hr⟩
  · refine HT.cond1 rfl hb1 ?_
    refine HT.rg2 (oHs 3) ⟨[(2, fV (fneg .f32 a0))], [], 0⟩ hX (by kernel_rfl) allNil ?_
    have hr := of_some hr
    subst hr
    exact HT.ret (qThenR ⟨[fV (fneg .f32 a0)], [], [], by kernel_rfl, by kernel_rfl, rfl, by kernel_rfl, by kernel_rfl, trivial⟩)
  · refine HT.cond0 rfl hb1 ?_
    refine HT.skip (qThen ?_)
    refine HT.rg2 (oHs 2) ⟨[(2, fV a0)], [], 0⟩ hX (by kernel_rfl) allNil ?_
    have hr := of_some hr
    subst hr
    exact HT.ret ⟨[fV a0], [], [], by kernel_rfl, by kernel_rfl, rfl, by kernel_rfl, by kernel_rfl, trivial⟩

noncomputable def impl_areChances_B1 (a0 : List Nat) (s1 : Int) : Option ((Int) ⊕ (Unit ⊕ Unit)) :=
  bif (decide (s1 < (lenI a0))) then
    guardP ((0 : Int) ≤ s1 ∧ s1 < lenI a0) (
      (show Option (Bool) from
        bif (fge .f32 (List.getD a0 (Int.toNat s1) (0 : Nat)) (0 : Nat)) then
          some (!(fle .f32 (List.getD a0 (Int.toNat s1) (0 : Nat)) (1065353216 : Nat)))
        else
          some true).bind fun v14 =>
      bif v14 then
        some (.inr (.inr ()))
      else
        some (.inl (wadd .i64 s1 (1 : Int))))
  else
    some (.inr (.inl ()))

noncomputable def impl_areChances (a0 : List Nat) : Option (Bool) :=
  (rounds (impl_areChances_B1 a0) (0 : Int)).bind fun r2 => match r2 with
    | .inl r3 =>
      (impl_addUp a0).bind fun y4 =>
      (impl_absolute (fop .sub .f32 y4 (1065353216 : Nat))).bind fun y6 =>
      some (fle .f32 y6 (981668463 : Nat))
    | .inr r8 =>
      some false

theorem f127_ok {a0 : List Nat} {r : Bool} (hr : impl_areChances a0 = some r) : CallOK Try.prog 127 [.imm tLF a0] [⟨false, .bool, r⟩] [] := by
  unfold impl_areChances at hr
  refine CallOK.of_body (ts := [(false, .bool)]) Try.func127 rfl (by kernel_rfl) (Nat.le_of_ble_eq_true (by kernel_rfl)) fun cx hP hN hO hF => ?_
  have hO : cx.own.map Prod.fst = [] := hO
  have hX := CxIs.mk hP hN hO
  have hF := hF rfl
  show HT cx ⟨[(0, lV a0)], [], 0⟩ _ _
  refine HT.rg2 [oH] ⟨[(0, lV a0)], [], 0⟩ hX (by kernel_rfl) allNil ?_
  refine HT.seq ?_
  refine HT.rg2 (oHs 3) ⟨[(0, lV a0), (5, lV a0), (6, iV (lenI a0)), (7, iV (0 : Int))], [], 0⟩ hX (by kernel_rfl) allNil ?_
  refine HT.block ?_
  obtain ⟨r2, hL19, hr⟩ := of_bind hr
  refine HT.loopL (fun (s1 : Int) => ⟨[(0, lV a0), (5, lV a0), (6, iV (lenI a0)), (7, iV s1)], [], 0⟩) (fun (r2 : Unit ⊕ Unit) => match r2 with | .inl r3 => (.exit 0, ⟨[(0, lV a0)], [], 0⟩) | .inr r8 => (.ret, ⟨[(2, bV false)], [], 0⟩)) (Le.re [] [] hX (by kernel_rfl)) hL19 ?_ (fun s1 x9 hx10 hk11 => ?_)
  · rcases r2 with r3 | r8
    · refine (qBlockX (qThen ?_))
      obtain ⟨y4, hc5, hr⟩ := of_bind hr
      obtain ⟨y6, hc7, hr⟩ := of_bind hr
      refine HT.rg2 [oH, ⟨none, .call [.imm tLF] [⟨false, tF, y4⟩] []⟩, oH, ⟨none, .call [.imm tF] [⟨false, tF, y6⟩] []⟩, oH, oH] ⟨[(2, bV (fle .f32 y6 (981668463 : Nat)))], [], 0⟩ hX (by kernel_rfl) (allCons (f111_ok hc5) (allCons (f139_ok hc7) allNil)) ?_
      have hr := of_some hr
      subst hr
      exact HT.ret ⟨[bV (fle .f32 y6 (981668463 : Nat))], [], [], by kernel_rfl, by kernel_rfl, rfl, by kernel_rfl, by kernel_rfl, trivial⟩
    · have hr := of_some hr
      subst hr
      exact (qBlockR (qThenR ⟨[bV false], [], [], by kernel_rfl, by kernel_rfl, rfl, by kernel_rfl, by kernel_rfl, trivial⟩))
  · refine HT.rg2 [oH] ⟨[(0, lV a0), (5, lV a0), (6, iV (lenI a0)), (7, iV s1), (8, bV (decide (s1 < (lenI a0))))], [], 0⟩ hX (by kernel_rfl) allNil ?_
    refine HT.seq ?_
    rcases of_bif hx10 with ⟨hb12, hx10⟩ | ⟨hb12, hx10⟩
    · refine HT.cond1 rfl hb12 ?_
      refine HT.skip (qThen ?_)
      refine HT.seq ?_
      refine HT.block ?_
      obtain ⟨hg13, hx10⟩ := of_guard hx10
      refine HT.rg2 (oHs 3) ⟨[(0, lV a0), (4, fV (List.getD a0 (Int.toNat s1) (0 : Nat))), (5, lV a0), (6, iV (lenI a0)), (7, iV s1)], [], 0⟩ hX (by kernel_rfl) (allCons hg13 allNil) ?_
      obtain ⟨v14', hT16, hx10⟩ := of_bind hx10
      refine HT.join (fun (v14 : Bool) => ⟨[(0, lV a0), (5, lV a0), (6, iV (lenI a0)), (7, iV s1), (17, bV v14)], [], 0⟩) (fun v => v = v14') (fun v14 hv15 => ?_) (fun cont => ?_)
      · subst hv15
        rcases of_bif hx10 with ⟨hb17, hx10⟩ | ⟨hb17, hx10⟩
        · refine HT.cond1 rfl hb17 ?_
          refine HT.rg2 [oH] ⟨[(2, bV false)], [], 0⟩ hX (by kernel_rfl) allNil ?_
          have hx10 := of_some hx10
          subst hx10
          exact HT.retL (Le.re [] [] hX (by kernel_rfl)) (qBlockR (qThenR (qLoopR (hk11 (.inr ()) rfl))))
        · refine HT.cond0 rfl hb17 ?_
          refine HT.skip (qBlock (qThen ?_))
          have hx10 := of_some hx10
          subst hx10
          exact HT.rgK (oHs 2) [] [] hX (by kernel_rfl) allNil (fun _ h => (qLoopN ⟨(wadd .i64 s1 (1 : Int)), rfl, h⟩))
      · rcases of_bif hT16 with ⟨hb18, hT16⟩ | ⟨hb18, hT16⟩
        · exact HT.rgK [oH, oH, oH, ⟨some true, .no⟩, ⟨some true, .no⟩, ⟨none, .tv true⟩, oH] [] [] hX (by kernel_rfl) (allCons hb18 (allCons hb18 (allCons hb18 allNil))) (fun _ h => (qThen (h.ht (cont (!(fle .f32 (List.getD a0 (Int.toNat s1) (0 : Nat)) (1065353216 : Nat))) (of_some hT16)))))
        · exact HT.rgK [oH, oH, oH, ⟨some false, .no⟩, ⟨some false, .no⟩, ⟨none, .tv false⟩, oH] [] [] hX (by kernel_rfl) (allCons hb18 (allCons hb18 (allCons hb18 allNil))) (fun _ h => (qThen (h.ht (cont true (of_some hT16)))))
    · refine HT.cond0 rfl hb12 ?_
      have hx10 := of_some hx10
      subst hx10
      exact HT.exitL (Le.re [] [] hX (by kernel_rfl)) (qThenE (qLoopE (hk11 (.inl ()) rfl)))

noncomputable def impl_areRows_B1 (a0 : List Nat) (a1 : Int) (a2 : Int) (s2 : Int) : Option ((Int) ⊕ (Unit ⊕ Unit)) :=
  bif (decide (s2 < a1)) then
    (impl_rowOf_float32 a0 a2 s2).bind fun y10 =>
    (impl_areChances y10).bind fun y12 =>
    bif (!y12) then
      some (.inr (.inr ()))
    else
      some (.inl (wadd .i64 s2 (1 : Int)))
  else
    some (.inr (.inl ()))

noncomputable def impl_areRows (a0 : List Nat) (a1 : Int) (a2 : Int) : Option (Bool) :=
  bif ((lenI a0) != (wmul .i64 a1 a2)) then
    some false
  else
    (rounds (impl_areRows_B1 a0 a1 a2) (0 : Int)).bind fun r3 => match r3 with
      | .inl r4 =>
        some true
      | .inr r5 =>
        some false

theorem f102_ok {a0 : List Nat} {a1 : Int} {a2 : Int} {r : Bool} (hr : impl_areRows a0 a1 a2 = some r) : CallOK Try.prog 102 [.imm tLF a0, .imm tI a1, .imm tI a2] [⟨false, .bool, r⟩] [] := by
  unfold impl_areRows at hr
  refine CallOK.of_body (ts := [(false, .bool)]) Try.func102 rfl (by kernel_rfl) (Nat.le_of_ble_eq_true (by kernel_rfl)) fun cx hP hN hO hF => ?_
  have hO : cx.own.map Prod.fst = [] := hO
  have hX := CxIs.mk hP hN hO
  have hF := hF rfl
  show HT cx ⟨[(0, lV a0), (1, iV a1), (2, iV a2)], [], 0⟩ _ _
  refine HT.rg2 [oH] ⟨[(0, lV a0), (1, iV a1), (2, iV a2)], [], 0⟩ hX (by kernel_rfl) allNil ?_
  refine HT.seq ?_
  refine HT.rg2 (oHs 6) ⟨[(0, lV a0), (1, iV a1), (2, iV a2), (13, bV ((lenI a0) != (wmul .i64 a1 a2)))], [], 0⟩ hX (by kernel_rfl) allNil ?_
  rcases of_bif hr with ⟨hb1, hr⟩ | ⟨hb1, hr⟩
  · refine HT.cond1 rfl hb1 ?_
    refine HT.rg2 [oH] ⟨[(6, bV false)], [], 0⟩ hX (by kernel_rfl) allNil ?_
    have hr := of_some hr
    subst hr
    exact HT.ret (qThenR ⟨[bV false], [], [], by kernel_rfl, by kernel_rfl, rfl, by kernel_rfl, by kernel_rfl, trivial⟩)
  · refine HT.cond0 rfl hb1 ?_
    refine HT.skip (qThen ?_)
    refine HT.seq ?_
    refine HT.rg2 (oHs 2) ⟨[(0, lV a0), (2, iV a2), (14, iV a1), (15, iV (0 : Int))], [], 0⟩ hX (by kernel_rfl) allNil ?_
    refine HT.block ?_
    obtain ⟨r3, hL15, hr⟩ := of_bind hr
    refine HT.loopL (fun (s2 : Int) => ⟨[(0, lV a0), (2, iV a2), (14, iV a1), (15, iV s2)], [], 0⟩) (fun (r3 : Unit ⊕ Unit) => match r3 with | .inl r4 => (.exit 0, ⟨[], [], 0⟩) | .inr r5 => (.ret, ⟨[(6, bV false)], [], 0⟩)) (Le.re [] [] hX (by kernel_rfl)) hL15 ?_ (fun s2 x6 hx7 hk8 => ?_)
    · rcases r3 with r4 | r5
      · refine (qBlockX (qThen ?_))
        refine HT.rg2 [oH] ⟨[(6, bV true)], [], 0⟩ hX (by kernel_rfl) allNil ?_
        have hr := of_some hr
        subst hr
        exact HT.ret ⟨[bV true], [], [], by kernel_rfl, by kernel_rfl, rfl, by kernel_rfl, by kernel_rfl, trivial⟩
      · have hr := of_some hr
        subst hr
        exact (qBlockR (qThenR ⟨[bV false], [], [], by kernel_rfl, by kernel_rfl, rfl, by kernel_rfl, by kernel_rfl, trivial⟩))
    · refine HT.rg2 [oH] ⟨[(0, lV a0), (2, iV a2), (14, iV a1), (15, iV s2), (16, bV (decide (s2 < a1)))], [], 0⟩ hX (by kernel_rfl) allNil ?_
      refine HT.seq ?_
      rcases of_bif hx7 with ⟨hb9, hx7⟩ | ⟨hb9, hx7⟩
      · refine HT.cond1 rfl hb9 ?_
        refine HT.skip (qThen ?_)
        refine HT.seq ?_
        refine HT.block ?_
        refine HT.rg2 (oHs 2) ⟨[(0, lV a0), (2, iV a2), (7, iV s2), (14, iV a1), (15, iV s2)], [], 0⟩ hX (by kernel_rfl) allNil ?_
        obtain ⟨y10, hc11, hx7⟩ := of_bind hx7
        obtain ⟨y12, hc13, hx7⟩ := of_bind hx7
        refine HT.rg2 [oH, oH, oH, ⟨none, .call [.imm tLF, .imm tI, .imm tI] [⟨false, tLF, y10⟩] []⟩, ⟨none, .call [.imm tLF] [⟨false, .bool, y12⟩] []⟩, oH] ⟨[(0, lV a0), (2, iV a2), (14, iV a1), (15, iV s2), (23, bV (!y12))], [], 0⟩ hX (by kernel_rfl) (allCons (f114_ok hc11) (allCons (f127_ok hc13) allNil)) ?_
        rcases of_bif hx7 with ⟨hb14, hx7⟩ | ⟨hb14, hx7⟩
        · refine HT.cond1 rfl hb14 ?_
          refine HT.rg2 [oH] ⟨[(6, bV false)], [], 0⟩ hX (by kernel_rfl) allNil ?_
          have hx7 := of_some hx7
          subst hx7
          exact HT.retL (Le.re [] [] hX (by kernel_rfl)) (qBlockR (qThenR (qLoopR (hk8 (.inr ()) rfl))))
        · refine HT.cond0 rfl hb14 ?_
          refine HT.skip (qBlock (qThen ?_))
          have hx7 := of_some hx7
          subst hx7
          exact HT.rgK (oHs 2) [] [] hX (by kernel_rfl) allNil (fun _ h => (qLoopN ⟨(wadd .i64 s2 (1 : Int)), rfl, h⟩))
      · refine HT.cond0 rfl hb9 ?_
        have hx7 := of_some hx7
        subst hx7
        exact HT.exitL (Le.re [] [] hX (by kernel_rfl)) (qThenE (qLoopE (hk8 (.inl ()) rfl)))

noncomputable def impl_ValidModel (a0 : Int × Int × List Nat × List Nat × List Nat) : Option (Bool) :=
  (show Option (Bool) from
    (impl_within a0.1 (1 : Int) (5 : Int)).bind fun y4 =>
    bif y4 then
      (impl_within a0.2.1 (1 : Int) (4 : Int)).bind fun y7 =>
      bif y7 then
        (impl_areRows a0.2.2.1 (1 : Int) a0.1).bind fun y10 =>
        bif y10 then
          (impl_areRows a0.2.2.2.1 a0.1 a0.1).bind fun y13 =>
          bif y13 then
            (impl_areRows a0.2.2.2.2 a0.1 a0.2.1).bind fun y16 =>
            some y16
          else
            some false
        else
          some false
      else
        some false
    else
      some false).bind fun v1 =>
  some v1

theorem f78_ok {a0 : Int × Int × List Nat × List Nat × List Nat} {r : Bool} (hr : impl_ValidModel a0 = some r) : CallOK Try.prog 78 [.imm (.st (.pair tI (.pair tI (.pair tLF (.pair tLF tLF))))) a0] [⟨false, .bool, r⟩] [] := by
  unfold impl_ValidModel at hr
  refine CallOK.of_body (ts := [(false, .bool)]) Try.func78 rfl (by kernel_rfl) (Nat.le_of_ble_eq_true (by kernel_rfl)) fun cx hP hN hO hF => ?_
  have hO : cx.own.map Prod.fst = [] := hO
  have hX := CxIs.mk hP hN hO
  have hF := hF rfl
  show HT cx ⟨[(0, .agg [iC a0.1, iC a0.2.1, lC a0.2.2.1, lC a0.2.2.2.1, lC a0.2.2.2.2])], [], 0⟩ _ _
  refine HT.rg2 (oHs 2) ⟨[(1, pV 0 0)], [(0, .box [iC a0.1, iC a0.2.1, lC a0.2.2.1, lC a0.2.2.2.1, lC a0.2.2.2.2])], 1⟩ hX (by kernel_rfl) allNil ?_
  obtain ⟨v1', hT3, hr⟩ := of_bind hr
  refine HT.join (fun (v1 : Bool) => ⟨[(2, bV v1)], [], 0⟩) (fun v => v = v1') (fun v1 hv2 => ?_) (fun cont => ?_)
  · subst hv2
    have hr := of_some hr
    subst hr
    exact HT.ret ⟨[bV v1], [], [], by kernel_rfl, by kernel_rfl, rfl, by kernel_rfl, by kernel_rfl, trivial⟩
  · obtain ⟨y4, hc5, hT3⟩ := of_bind hT3
    rcases of_bif hT3 with ⟨hb6, hT3⟩ | ⟨hb6, hT3⟩
    · obtain ⟨y7, hc8, hT3⟩ := of_bind hT3
      rcases of_bif hT3 with ⟨hb9, hT3⟩ | ⟨hb9, hT3⟩
      · obtain ⟨y10, hc11, hT3⟩ := of_bind hT3
        rcases of_bif hT3 with ⟨hb12, hT3⟩ | ⟨hb12, hT3⟩
        · obtain ⟨y13, hc14, hT3⟩ := of_bind hT3
          rcases of_bif hT3 with ⟨hb15, hT3⟩ | ⟨hb15, hT3⟩
          · obtain ⟨y16, hc17, hT3⟩ := of_bind hT3
            exact HT.rgK [oH, oH, ⟨none, .call [.imm tI, .imm tI, .imm tI] [⟨false, .bool, y4⟩] []⟩, oH, ⟨some true, .no⟩, ⟨some true, .no⟩, ⟨some true, .call [.imm tI, .imm tI, .imm tI] [⟨false, .bool, y7⟩] []⟩, ⟨none, .tv true⟩, oH, ⟨some true, .no⟩, ⟨some true, .no⟩, ⟨some true, .no⟩, ⟨some true, .no⟩, ⟨some true, .call [.imm tLF, .imm tI, .imm tI] [⟨false, .bool, y10⟩] []⟩, ⟨none, .tv true⟩, oH, ⟨some true, .no⟩, ⟨some true, .no⟩, ⟨some true, .no⟩, ⟨some true, .no⟩, ⟨some true, .no⟩, ⟨some true, .no⟩, ⟨some true, .call [.imm tLF, .imm tI, .imm tI] [⟨false, .bool, y13⟩] []⟩, ⟨none, .tv true⟩, oH, ⟨some true, .no⟩, ⟨some true, .no⟩, ⟨some true, .no⟩, ⟨some true, .no⟩, ⟨some true, .no⟩, ⟨some true, .no⟩, ⟨some true, .call [.imm tLF, .imm tI, .imm tI] [⟨false, .bool, y16⟩] []⟩, ⟨none, .tv true⟩, oH] [] [] hX (by kernel_rfl) (allCons (f54_ok hc5) (allCons hb6 (allCons hb6 (allCons hb6 (allCons (f54_ok hc8) (allCons hb6 (allCons hb9 (allCons hb9 (allCons hb9 (allCons hb9 (allCons hb9 (allCons (f102_ok hc11) (allCons hb9 (allCons hb12 (allCons hb12 (allCons hb12 (allCons hb12 (allCons hb12 (allCons hb12 (allCons hb12 (allCons (f102_ok hc14) (allCons hb12 (allCons hb15 (allCons hb15 (allCons hb15 (allCons hb15 (allCons hb15 (allCons hb15 (allCons hb15 (allCons (f102_ok hc17) (allCons hb15 allNil))))))))))))))))))))))))))))))) (fun _ h => (qThen (h.ht (cont y16 (of_some hT3)))))
          · exact HT.rgK [oH, oH, ⟨none, .call [.imm tI, .imm tI, .imm tI] [⟨false, .bool, y4⟩] []⟩, oH, ⟨some true, .no⟩, ⟨some true, .no⟩, ⟨some true, .call [.imm tI, .imm tI, .imm tI] [⟨false, .bool, y7⟩] []⟩, ⟨none, .tv true⟩, oH, ⟨some true, .no⟩, ⟨some true, .no⟩, ⟨some true, .no⟩, ⟨some true, .no⟩, ⟨some true, .call [.imm tLF, .imm tI, .imm tI] [⟨false, .bool, y10⟩] []⟩, ⟨none, .tv true⟩, oH, ⟨some true, .no⟩, ⟨some true, .no⟩, ⟨some true, .no⟩, ⟨some true, .no⟩, ⟨some true, .no⟩, ⟨some true, .no⟩, ⟨some true, .call [.imm tLF, .imm tI, .imm tI] [⟨false, .bool, y13⟩] []⟩, ⟨none, .tv true⟩, oH, ⟨some false, .no⟩, ⟨some false, .no⟩, ⟨some false, .no⟩, ⟨some false, .no⟩, ⟨some false, .no⟩, ⟨some false, .no⟩, ⟨some false, .no⟩, ⟨none, .tv false⟩, oH] [] [] hX (by kernel_rfl) (allCons (f54_ok hc5) (allCons hb6 (allCons hb6 (allCons hb6 (allCons (f54_ok hc8) (allCons hb6 (allCons hb9 (allCons hb9 (allCons hb9 (allCons hb9 (allCons hb9 (allCons (f102_ok hc11) (allCons hb9 (allCons hb12 (allCons hb12 (allCons hb12 (allCons hb12 (allCons hb12 (allCons hb12 (allCons hb12 (allCons (f102_ok hc14) (allCons hb12 (allCons hb15 (allCons hb15 (allCons hb15 (allCons hb15 (allCons hb15 (allCons hb15 (allCons hb15 (allCons hb15 allNil)))))))))))))))))))))))))))))) (fun _ h => (qThen (h.ht (cont false (of_some hT3)))))
        · exact HT.rgK [oH, oH, ⟨none, .call [.imm tI, .imm tI, .imm tI] [⟨false, .bool, y4⟩] []⟩, oH, ⟨some true, .no⟩, ⟨some true, .no⟩, ⟨some true, .call [.imm tI, .imm tI, .imm tI] [⟨false, .bool, y7⟩] []⟩, ⟨none, .tv true⟩, oH, ⟨some true, .no⟩, ⟨some true, .no⟩, ⟨some true, .no⟩, ⟨some true, .no⟩, ⟨some true, .call [.imm tLF, .imm tI, .imm tI] [⟨false, .bool, y10⟩] []⟩, ⟨none, .tv true⟩, oH, ⟨some false, .no⟩, ⟨some false, .no⟩, ⟨some false, .no⟩, ⟨some false, .no⟩, ⟨some false, .no⟩, ⟨some false, .no⟩, ⟨some false, .no⟩, ⟨none, .tv false⟩, oH, ⟨some false, .no⟩, ⟨some false, .no⟩, ⟨some false, .no⟩, ⟨some false, .no⟩, ⟨some false, .no⟩, ⟨some false, .no⟩, ⟨some false, .no⟩, ⟨none, .tv false⟩, oH] [] [] hX (by kernel_rfl) (allCons (f54_ok hc5) (allCons hb6 (allCons hb6 (allCons hb6 (allCons (f54_ok hc8) (allCons hb6 (allCons hb9 (allCons hb9 (allCons hb9 (allCons hb9 (allCons hb9 (allCons (f102_ok hc11) (allCons hb9 (allCons hb12 (allCons hb12 (allCons hb12 (allCons hb12 (allCons hb12 (allCons hb12 (allCons hb12 (allCons hb12 (allCons (rfl : false = false) (allCons (rfl : false = false) (allCons (rfl : false = false) (allCons (rfl : false = false) (allCons (rfl : false = false) (allCons (rfl : false = false) (allCons (rfl : false = false) (allCons (rfl : false = false) allNil))))))))))))))))))))))))))))) (fun _ h => (qThen (h.ht (cont false (of_some hT3)))))
      · exact HT.rgK [oH, oH, ⟨none, .call [.imm tI, .imm tI, .imm tI] [⟨false, .bool, y4⟩] []⟩, oH, ⟨some true, .no⟩, ⟨some true, .no⟩, ⟨some true, .call [.imm tI, .imm tI, .imm tI] [⟨false, .bool, y7⟩] []⟩, ⟨none, .tv true⟩, oH, ⟨some false, .no⟩, ⟨some false, .no⟩, ⟨some false, .no⟩, ⟨some false, .no⟩, ⟨some false, .no⟩, ⟨none, .tv false⟩, oH, ⟨some false, .no⟩, ⟨some false, .no⟩, ⟨some false, .no⟩, ⟨some false, .no⟩, ⟨some false, .no⟩, ⟨some false, .no⟩, ⟨some false, .no⟩, ⟨none, .tv false⟩, oH, ⟨some false, .no⟩, ⟨some false, .no⟩, ⟨some false, .no⟩, ⟨some false, .no⟩, ⟨some false, .no⟩, ⟨some false, .no⟩, ⟨some false, .no⟩, ⟨none, .tv false⟩, oH] [] [] hX (by kernel_rfl) (allCons (f54_ok hc5) (allCons hb6 (allCons hb6 (allCons hb6 (allCons (f54_ok hc8) (allCons hb6 (allCons hb9 (allCons hb9 (allCons hb9 (allCons hb9 (allCons hb9 (allCons hb9 (allCons (rfl : false = false) (allCons (rfl : false = false) (allCons (rfl : false = false) (allCons (rfl : false = false) (allCons (rfl : false = false) (allCons (rfl : false = false) (allCons (rfl : false = false) (allCons (rfl : false = false) (allCons (rfl : false = false) (allCons (rfl : false = false) (allCons (rfl : false = false) (allCons (rfl : false = false) (allCons (rfl : false = false) (allCons (rfl : false = false) (allCons (rfl : false = false) (allCons (rfl : false = false) allNil)))))))))))))))))))))))))))) (fun _ h => (qThen (h.ht (cont false (of_some hT3)))))
    · exact HT.rgK [oH, oH, ⟨none, .call [.imm tI, .imm tI, .imm tI] [⟨false, .bool, y4⟩] []⟩, oH, ⟨some false, .no⟩, ⟨some false, .no⟩, ⟨some false, .no⟩, ⟨none, .tv false⟩, oH, ⟨some false, .no⟩, ⟨some false, .no⟩, ⟨some false, .no⟩, ⟨some false, .no⟩, ⟨some false, .no⟩, ⟨none, .tv false⟩, oH, ⟨some false, .no⟩, ⟨some false, .no⟩, ⟨some false, .no⟩, ⟨some false, .no⟩, ⟨some false, .no⟩, ⟨some false, .no⟩, ⟨some false, .no⟩, ⟨none, .tv false⟩, oH, ⟨some false, .no⟩, ⟨some false, .no⟩, ⟨some false, .no⟩, ⟨some false, .no⟩, ⟨some false, .no⟩, ⟨some false, .no⟩, ⟨some false, .no⟩, ⟨none, .tv false⟩, oH] [] [] hX (by kernel_rfl) (allCons (f54_ok hc5) (allCons hb6 (allCons hb6 (allCons hb6 (allCons hb6 (allCons (rfl : false = false) (allCons (rfl : false = false) (allCons (rfl : false = false) (allCons (rfl : false = false) (allCons (rfl : false = false) (allCons (rfl : false = false) (allCons (rfl : false = false) (allCons (rfl : false = false) (allCons (rfl : false = false) (allCons (rfl : false = false) (allCons (rfl : false = false) (allCons (rfl : false = false) (allCons (rfl : false = false) (allCons (rfl : false = false) (allCons (rfl : false = false) (allCons (rfl : false = false) (allCons (rfl : false = false) (allCons (rfl : false = false) (allCons (rfl : false = false) (allCons (rfl : false = false) (allCons (rfl : false = false) (allCons (rfl : false = false) allNil))))))))))))))))))))))))))) (fun _ h => (qThen (h.ht (cont false (of_some hT3)))))

noncomputable def impl_areWithin_B1 (a0 : List Int) (a1 : Int) (a2 : Int) (s1 : Int) : Option ((Int) ⊕ (Unit ⊕ Unit)) :=
  bif (decide (s1 < (lenI a0))) then
    guardP ((0 : Int) ≤ s1 ∧ s1 < lenI a0) (
      (impl_within (List.getD a0 (Int.toNat s1) (0 : Int)) a1 a2).bind fun y10 =>
      bif (!y10) then
        some (.inr (.inr ()))
      else
        some (.inl (wadd .i64 s1 (1 : Int))))
  else
    some (.inr (.inl ()))

noncomputable def impl_areWithin (a0 : List Int) (a1 : Int) (a2 : Int) : Option (Bool) :=
  (rounds (impl_areWithin_B1 a0 a1 a2) (0 : Int)).bind fun r2 => match r2 with
    | .inl r3 =>
      some true
    | .inr r4 =>
      some false

theorem f103_ok {a0 : List Int} {a1 : Int} {a2 : Int} {r : Bool} (hr : impl_areWithin a0 a1 a2 = some r) : CallOK Try.prog 103 [.imm tLI a0, .imm tI a1, .imm tI a2] [⟨false, .bool, r⟩] [] := by
  unfold impl_areWithin at hr
  refine CallOK.of_body (ts := [(false, .bool)]) Try.func103 rfl (by kernel_rfl) (Nat.le_of_ble_eq_true (by kernel_rfl)) fun cx hP hN hO hF => ?_
  have hO : cx.own.map Prod.fst = [] := hO
  have hX := CxIs.mk hP hN hO
  have hF := hF rfl
  show HT cx ⟨[(0, nV a0), (1, iV a1), (2, iV a2)], [], 0⟩ _ _
  refine HT.rg2 [oH] ⟨[(0, nV a0), (1, iV a1), (2, iV a2)], [], 0⟩ hX (by kernel_rfl) allNil ?_
  refine HT.seq ?_
  refine HT.rg2 (oHs 3) ⟨[(1, iV a1), (2, iV a2), (9, nV a0), (10, iV (lenI a0)), (11, iV (0 : Int))], [], 0⟩ hX (by kernel_rfl) allNil ?_
  refine HT.block ?_
  obtain ⟨r2, hL13, hr⟩ := of_bind hr
  refine HT.loopL (fun (s1 : Int) => ⟨[(1, iV a1), (2, iV a2), (9, nV a0), (10, iV (lenI a0)), (11, iV s1)], [], 0⟩) (fun (r2 : Unit ⊕ Unit) => match r2 with | .inl r3 => (.exit 0, ⟨[], [], 0⟩) | .inr r4 => (.ret, ⟨[(6, bV false)], [], 0⟩)) (Le.re [] [] hX (by kernel_rfl)) hL13 ?_ (fun s1 x5 hx6 hk7 => ?_)
  · rcases r2 with r3 | r4
    · refine (qBlockX (qThen ?_))
      refine HT.rg2 [oH] ⟨[(6, bV true)], [], 0⟩ hX (by kernel_rfl) allNil ?_
      have hr := of_some hr
      subst hr
      exact HT.ret ⟨[bV true], [], [], by kernel_rfl, by kernel_rfl, rfl, by kernel_rfl, by kernel_rfl, trivial⟩
    · have hr := of_some hr
      subst hr
      exact (qBlockR (qThenR ⟨[bV false], [], [], by kernel_rfl, by kernel_rfl, rfl, by kernel_rfl, by kernel_rfl, trivial⟩))
  · refine HT.rg2 [oH] ⟨[(1, iV a1), (2, iV a2), (9, nV a0), (10, iV (lenI a0)), (11, iV s1), (12, bV (decide (s1 < (lenI a0))))], [], 0⟩ hX (by kernel_rfl) allNil ?_
    refine HT.seq ?_
    rcases of_bif hx6 with ⟨hb8, hx6⟩ | ⟨hb8, hx6⟩
    · refine HT.cond1 rfl hb8 ?_
      refine HT.skip (qThen ?_)
      refine HT.seq ?_
      refine HT.block ?_
      obtain ⟨hg9, hx6⟩ := of_guard hx6
      refine HT.rg2 (oHs 3) ⟨[(1, iV a1), (2, iV a2), (8, iV (List.getD a0 (Int.toNat s1) (0 : Int))), (9, nV a0), (10, iV (lenI a0)), (11, iV s1)], [], 0⟩ hX (by kernel_rfl) (allCons hg9 allNil) ?_
      obtain ⟨y10, hc11, hx6⟩ := of_bind hx6
      refine HT.rg2 [oH, oH, oH, ⟨none, .call [.imm tI, .imm tI, .imm tI] [⟨false, .bool, y10⟩] []⟩, oH] ⟨[(1, iV a1), (2, iV a2), (9, nV a0), (10, iV (lenI a0)), (11, iV s1), (19, bV (!y10))], [], 0⟩ hX (by kernel_rfl) (allCons (f54_ok hc11) allNil) ?_
      rcases of_bif hx6 with ⟨hb12, hx6⟩ | ⟨hb12, hx6⟩
      · refine HT.cond1 rfl hb12 ?_
        refine HT.rg2 [oH] ⟨[(6, bV false)], [], 0⟩ hX (by kernel_rfl) allNil ?_
        have hx6 := of_some hx6
        subst hx6
        exact HT.retL (Le.re [] [] hX (by kernel_rfl)) (qBlockR (qThenR (qLoopR (hk7 (.inr ()) rfl))))
      · refine HT.cond0 rfl hb12 ?_
        refine HT.skip (qBlock (qThen ?_))
        have hx6 := of_some hx6
        subst hx6
        exact HT.rgK (oHs 2) [] [] hX (by kernel_rfl) allNil (fun _ h => (qLoopN ⟨(wadd .i64 s1 (1 : Int)), rfl, h⟩))
    · refine HT.cond0 rfl hb8 ?_
      have hx6 := of_some hx6
      subst hx6
      exact HT.exitL (Le.re [] [] hX (by kernel_rfl)) (qThenE (qLoopE (hk7 (.inl ()) rfl)))

noncomputable def impl_IsWord (a0 : List Int) (a1 : Int) : Option (Bool) :=
  (show Option (Bool) from
    (impl_within a1 (1 : Int) (4 : Int)).bind fun y4 =>
    bif y4 then
      bif (decide ((lenI a0) ≤ (12 : Int))) then
        (impl_areWithin a0 (0 : Int) (wsub .i64 a1 (1 : Int))).bind fun y8 =>
        some y8
      else
        some false
    else
      some false).bind fun v1 =>
  some v1

theorem f79_ok {a0 : List Int} {a1 : Int} {r : Bool} (hr : impl_IsWord a0 a1 = some r) : CallOK Try.prog 79 [.imm tLI a0, .imm tI a1] [⟨false, .bool, r⟩] [] := by
  unfold impl_IsWord at hr
  refine CallOK.of_body (ts := [(false, .bool)]) Try.func79 rfl (by kernel_rfl) (Nat.le_of_ble_eq_true (by kernel_rfl)) fun cx hP hN hO hF => ?_
  have hO : cx.own.map Prod.fst = [] := hO
  have hX := CxIs.mk hP hN hO
  have hF := hF rfl
  show HT cx ⟨[(0, nV a0), (1, iV a1)], [], 0⟩ _ _
  refine HT.rg2 [oH] ⟨[(0, nV a0), (1, iV a1)], [], 0⟩ hX (by kernel_rfl) allNil ?_
  obtain ⟨v1', hT3, hr⟩ := of_bind hr
  refine HT.join (fun (v1 : Bool) => ⟨[(4, bV v1)], [], 0⟩) (fun v => v = v1') (fun v1 hv2 => ?_) (fun cont => ?_)
  · subst hv2
    have hr := of_some hr
    subst hr
    exact HT.ret ⟨[bV v1], [], [], by kernel_rfl, by kernel_rfl, rfl, by kernel_rfl, by kernel_rfl, trivial⟩
  · obtain ⟨y4, hc5, hT3⟩ := of_bind hT3
    rcases of_bif hT3 with ⟨hb6, hT3⟩ | ⟨hb6, hT3⟩
    · rcases of_bif hT3 with ⟨hb7, hT3⟩ | ⟨hb7, hT3⟩
      · obtain ⟨y8, hc9, hT3⟩ := of_bind hT3
        exact HT.rgK [oH, ⟨none, .call [.imm tI, .imm tI, .imm tI] [⟨false, .bool, y4⟩] []⟩, oH, ⟨some true, .no⟩, ⟨some true, .no⟩, ⟨some true, .no⟩, ⟨none, .tv true⟩, oH, ⟨some true, .no⟩, ⟨some true, .no⟩, ⟨some true, .no⟩, ⟨some true, .call [.imm tLI, .imm tI, .imm tI] [⟨false, .bool, y8⟩] []⟩, ⟨none, .tv true⟩, oH] [] [] hX (by kernel_rfl) (allCons (f54_ok hc5) (allCons hb6 (allCons hb6 (allCons hb6 (allCons hb6 (allCons hb7 (allCons hb7 (allCons hb7 (allCons hb7 (allCons (f103_ok hc9) (allCons hb7 allNil))))))))))) (fun _ h => (qThen (h.ht (cont y8 (of_some hT3)))))
      · exact HT.rgK [oH, ⟨none, .call [.imm tI, .imm tI, .imm tI] [⟨false, .bool, y4⟩] []⟩, oH, ⟨some true, .no⟩, ⟨some true, .no⟩, ⟨some true, .no⟩, ⟨none, .tv true⟩, oH, ⟨some false, .no⟩, ⟨some false, .no⟩, ⟨some false, .no⟩, ⟨some false, .no⟩, ⟨none, .tv false⟩, oH] [] [] hX (by kernel_rfl) (allCons (f54_ok hc5) (allCons hb6 (allCons hb6 (allCons hb6 (allCons hb6 (allCons hb7 (allCons hb7 (allCons hb7 (allCons hb7 (allCons hb7 allNil)))))))))) (fun _ h => (qThen (h.ht (cont false (of_some hT3)))))
    · exact HT.rgK [oH, ⟨none, .call [.imm tI, .imm tI, .imm tI] [⟨false, .bool, y4⟩] []⟩, oH, ⟨some false, .no⟩, ⟨some false, .no⟩, ⟨some false, .no⟩, ⟨none, .tv false⟩, oH, ⟨some false, .no⟩, ⟨some false, .no⟩, ⟨some false, .no⟩, ⟨some false, .no⟩, ⟨none, .tv false⟩, oH] [] [] hX (by kernel_rfl) (allCons (f54_ok hc5) (allCons hb6 (allCons hb6 (allCons hb6 (allCons hb6 (allCons (rfl : false = false) (allCons (rfl : false = false) (allCons (rfl : false = false) (allCons (rfl : false = false) (allCons (rfl : false = false) allNil)))))))))) (fun _ h => (qThen (h.ht (cont false (of_some hT3)))))

noncomputable def impl_areWords_B1 (a0 : List (List Int)) (a1 : Int) (s1 : Int) : Option ((Int) ⊕ (Unit ⊕ Unit)) :=
  bif (decide (s1 < (lenI a0))) then
    guardP ((0 : Int) ≤ s1 ∧ s1 < lenI a0) (
      (impl_IsWord (List.getD a0 (Int.toNat s1) ([] : List Int)) a1).bind fun y10 =>
      bif (!y10) then
        some (.inr (.inr ()))
      else
        some (.inl (wadd .i64 s1 (1 : Int))))
  else
    some (.inr (.inl ()))

noncomputable def impl_areWords (a0 : List (List Int)) (a1 : Int) : Option (Bool) :=
  (rounds (impl_areWords_B1 a0 a1) (0 : Int)).bind fun r2 => match r2 with
    | .inl r3 =>
      some true
    | .inr r4 =>
      some false

theorem f90_ok {a0 : List (List Int)} {a1 : Int} {r : Bool} (hr : impl_areWords a0 a1 = some r) : CallOK Try.prog 90 [.imm (.sl tLI) a0, .imm tI a1] [⟨false, .bool, r⟩] [] := by
  unfold impl_areWords at hr
  refine CallOK.of_body (ts := [(false, .bool)]) Try.func90 rfl (by kernel_rfl) (Nat.le_of_ble_eq_true (by kernel_rfl)) fun cx hP hN hO hF => ?_
  have hO : cx.own.map Prod.fst = [] := hO
  have hX := CxIs.mk hP hN hO
  have hF := hF rfl
  show HT cx ⟨[(0, .one (.dat (.sl tLI) a0)), (1, iV a1)], [], 0⟩ _ _
  refine HT.rg2 [oH] ⟨[(0, .one (.dat (.sl tLI) a0)), (1, iV a1)], [], 0⟩ hX (by kernel_rfl) allNil ?_
  refine HT.seq ?_
  refine HT.rg2 (oHs 3) ⟨[(1, iV a1), (7, .one (.dat (.sl tLI) a0)), (8, iV (lenI a0)), (9, iV (0 : Int))], [], 0⟩ hX (by kernel_rfl) allNil ?_
  refine HT.block ?_
  obtain ⟨r2, hL13, hr⟩ := of_bind hr
  refine HT.loopL (fun (s1 : Int) => ⟨[(1, iV a1), (7, .one (.dat (.sl tLI) a0)), (8, iV (lenI a0)), (9, iV s1)], [], 0⟩) (fun (r2 : Unit ⊕ Unit) => match r2 with | .inl r3 => (.exit 0, ⟨[], [], 0⟩) | .inr r4 => (.ret, ⟨[(4, bV false)], [], 0⟩)) (Le.re [] [] hX (by kernel_rfl)) hL13 ?_ (fun s1 x5 hx6 hk7 => ?_)
  · rcases r2 with r3 | r4
    · refine (qBlockX (qThen ?_))
      refine HT.rg2 [oH] ⟨[(4, bV true)], [], 0⟩ hX (by kernel_rfl) allNil ?_
      have hr := of_some hr
      subst hr
      exact HT.ret ⟨[bV true], [], [], by kernel_rfl, by kernel_rfl, rfl, by kernel_rfl, by kernel_rfl, trivial⟩
    · have hr := of_some hr
      subst hr
      exact (qBlockR (qThenR ⟨[bV false], [], [], by kernel_rfl, by kernel_rfl, rfl, by kernel_rfl, by kernel_rfl, trivial⟩))
  · refine HT.rg2 [oH] ⟨[(1, iV a1), (7, .one (.dat (.sl tLI) a0)), (8, iV (lenI a0)), (9, iV s1), (10, bV (decide (s1 < (lenI a0))))], [], 0⟩ hX (by kernel_rfl) allNil ?_
    refine HT.seq ?_
    rcases of_bif hx6 with ⟨hb8, hx6⟩ | ⟨hb8, hx6⟩
    · refine HT.cond1 rfl hb8 ?_
      refine HT.skip (qThen ?_)
      refine HT.seq ?_
      refine HT.block ?_
      obtain ⟨hg9, hx6⟩ := of_guard hx6
      refine HT.rg2 (oHs 3) ⟨[(1, iV a1), (6, nV (List.getD a0 (Int.toNat s1) ([] : List Int))), (7, .one (.dat (.sl tLI) a0)), (8, iV (lenI a0)), (9, iV s1)], [], 0⟩ hX (by kernel_rfl) (allCons hg9 allNil) ?_
      obtain ⟨y10, hc11, hx6⟩ := of_bind hx6
      refine HT.rg2 [oH, oH, ⟨none, .call [.imm tLI, .imm tI] [⟨false, .bool, y10⟩] []⟩, oH] ⟨[(1, iV a1), (7, .one (.dat (.sl tLI) a0)), (8, iV (lenI a0)), (9, iV s1), (16, bV (!y10))], [], 0⟩ hX (by kernel_rfl) (allCons (f79_ok hc11) allNil) ?_
      rcases of_bif hx6 with ⟨hb12, hx6⟩ | ⟨hb12, hx6⟩
      · refine HT.cond1 rfl hb12 ?_
        refine HT.rg2 [oH] ⟨[(4, bV false)], [], 0⟩ hX (by kernel_rfl) allNil ?_
        have hx6 := of_some hx6
        subst hx6
        exact HT.retL (Le.re [] [] hX (by kernel_rfl)) (qBlockR (qThenR (qLoopR (hk7 (.inr ()) rfl))))
      · refine HT.cond0 rfl hb12 ?_
        refine HT.skip (qBlock (qThen ?_))
        have hx6 := of_some hx6
        subst hx6
        exact HT.rgK (oHs 2) [] [] hX (by kernel_rfl) allNil (fun _ h => (qLoopN ⟨(wadd .i64 s1 (1 : Int)), rfl, h⟩))
    · refine HT.cond0 rfl hb8 ?_
      have hx6 := of_some hx6
      subst hx6
      exact HT.exitL (Le.re [] [] hX (by kernel_rfl)) (qThenE (qLoopE (hk7 (.inl ()) rfl)))

noncomputable def impl_Model_haveWords (a0 : Int × Int × List Nat × List Nat × List Nat) (a1 : List (List Int)) : Option (Bool) :=
  (show Option (Bool) from
    (impl_ValidModel (a0.1, a0.2.1, a0.2.2.1, a0.2.2.2.1, a0.2.2.2.2)).bind fun y4 =>
    bif y4 then
      bif (decide ((lenI a1) ≥ (1 : Int))) then
        bif (decide ((lenI a1) ≤ (16 : Int))) then
          (impl_areWords a1 a0.2.1).bind fun y9 =>
          some y9
        else
          some false
      else
        some false
    else
      some false).bind fun v1 =>
  some v1

theorem f62_ok {a0 : Int × Int × List Nat × List Nat × List Nat} {a1 : List (List Int)} {r : Bool} (hr : impl_Model_haveWords a0 a1 = some r) : CallOK Try.prog 62 [.imm (.st (.pair tI (.pair tI (.pair tLF (.pair tLF tLF))))) a0, .imm (.sl tLI) a1] [⟨false, .bool, r⟩] [] := by
  unfold impl_Model_haveWords at hr
  refine CallOK.of_body (ts := [(false, .bool)]) Try.func62 rfl (by kernel_rfl) (Nat.le_of_ble_eq_true (by kernel_rfl)) fun cx hP hN hO hF => ?_
  have hO : cx.own.map Prod.fst = [] := hO
  have hX := CxIs.mk hP hN hO
  have hF := hF rfl
  show HT cx ⟨[(0, .agg [iC a0.1, iC a0.2.1, lC a0.2.2.1, lC a0.2.2.2.1, lC a0.2.2.2.2]), (1, .one (.dat (.sl tLI) a1))], [], 0⟩ _ _
  refine HT.rg2 (oHs 2) ⟨[(1, .one (.dat (.sl tLI) a1)), (2, pV 0 0)], [(0, .box [iC a0.1, iC a0.2.1, lC a0.2.2.1, lC a0.2.2.2.1, lC a0.2.2.2.2])], 1⟩ hX (by kernel_rfl) allNil ?_
  obtain ⟨v1', hT3, hr⟩ := of_bind hr
  refine HT.join (fun (v1 : Bool) => ⟨[(4, bV v1)], [], 0⟩) (fun v => v = v1') (fun v1 hv2 => ?_) (fun cont => ?_)
  · subst hv2
    have hr := of_some hr
    subst hr
    exact HT.ret ⟨[bV v1], [], [], by kernel_rfl, by kernel_rfl, rfl, by kernel_rfl, by kernel_rfl, trivial⟩
  · obtain ⟨y4, hc5, hT3⟩ := of_bind hT3
    rcases of_bif hT3 with ⟨hb6, hT3⟩ | ⟨hb6, hT3⟩
    · rcases of_bif hT3 with ⟨hb7, hT3⟩ | ⟨hb7, hT3⟩
      · rcases of_bif hT3 with ⟨hb8, hT3⟩ | ⟨hb8, hT3⟩
        · obtain ⟨y9, hc10, hT3⟩ := of_bind hT3
          exact HT.rgK [oH, ⟨none, .call [.imm (.st (.pair tI (.pair tI (.pair tLF (.pair tLF tLF)))))] [⟨false, .bool, y4⟩] []⟩, oH, ⟨some true, .no⟩, ⟨some true, .no⟩, ⟨some true, .no⟩, ⟨none, .tv true⟩, oH, ⟨some true, .no⟩, ⟨some true, .no⟩, ⟨some true, .no⟩, ⟨none, .tv true⟩, oH, ⟨some true, .no⟩, ⟨some true, .no⟩, ⟨some true, .no⟩, ⟨some true, .call [.imm (.sl tLI), .imm tI] [⟨false, .bool, y9⟩] []⟩, ⟨none, .tv true⟩, oH] [] [] hX (by kernel_rfl) (allCons (f78_ok hc5) (allCons hb6 (allCons hb6 (allCons hb6 (allCons hb6 (allCons hb7 (allCons hb7 (allCons hb7 (allCons hb7 (allCons hb8 (allCons hb8 (allCons hb8 (allCons hb8 (allCons (f90_ok hc10) (allCons hb8 allNil))))))))))))))) (fun _ h => (qThen (h.ht (cont y9 (of_some hT3)))))
        · exact HT.rgK [oH, ⟨none, .call [.imm (.st (.pair tI (.pair tI (.pair tLF (.pair tLF tLF)))))] [⟨false, .bool, y4⟩] []⟩, oH, ⟨some true, .no⟩, ⟨some true, .no⟩, ⟨some true, .no⟩, ⟨none, .tv true⟩, oH, ⟨some true, .no⟩, ⟨some true, .no⟩, ⟨some true, .no⟩, ⟨none, .tv true⟩, oH, ⟨some false, .no⟩, ⟨some false, .no⟩, ⟨some false, .no⟩, ⟨some false, .no⟩, ⟨none, .tv false⟩, oH] [] [] hX (by kernel_rfl) (allCons (f78_ok hc5) (allCons hb6 (allCons hb6 (allCons hb6 (allCons hb6 (allCons hb7 (allCons hb7 (allCons hb7 (allCons hb7 (allCons hb8 (allCons hb8 (allCons hb8 (allCons hb8 (allCons hb8 allNil)))))))))))))) (fun _ h => (qThen (h.ht (cont false (of_some hT3)))))
      · exact HT.rgK [oH, ⟨none, .call [.imm (.st (.pair tI (.pair tI (.pair tLF (.pair tLF tLF)))))] [⟨false, .bool, y4⟩] []⟩, oH, ⟨some true, .no⟩, ⟨some true, .no⟩, ⟨some true, .no⟩, ⟨none, .tv true⟩, oH, ⟨some false, .no⟩, ⟨some false, .no⟩, ⟨some false, .no⟩, ⟨none, .tv false⟩, oH, ⟨some false, .no⟩, ⟨some false, .no⟩, ⟨some false, .no⟩, ⟨some false, .no⟩, ⟨none, .tv false⟩, oH] [] [] hX (by kernel_rfl) (allCons (f78_ok hc5) (allCons hb6 (allCons hb6 (allCons hb6 (allCons hb6 (allCons hb7 (allCons hb7 (allCons hb7 (allCons hb7 (allCons (rfl : false = false) (allCons (rfl : false = false) (allCons (rfl : false = false) (allCons (rfl : false = false) (allCons (rfl : false = false) allNil)))))))))))))) (fun _ h => (qThen (h.ht (cont false (of_some hT3)))))
    · exact HT.rgK [oH, ⟨none, .call [.imm (.st (.pair tI (.pair tI (.pair tLF (.pair tLF tLF)))))] [⟨false, .bool, y4⟩] []⟩, oH, ⟨some false, .no⟩, ⟨some false, .no⟩, ⟨some false, .no⟩, ⟨none, .tv false⟩, oH, ⟨some false, .no⟩, ⟨some false, .no⟩, ⟨some false, .no⟩, ⟨none, .tv false⟩, oH, ⟨some false, .no⟩, ⟨some false, .no⟩, ⟨some false, .no⟩, ⟨some false, .no⟩, ⟨none, .tv false⟩, oH] [] [] hX (by kernel_rfl) (allCons (f78_ok hc5) (allCons hb6 (allCons hb6 (allCons hb6 (allCons hb6 (allCons (rfl : false = false) (allCons (rfl : false = false) (allCons (rfl : false = false) (allCons (rfl : false = false) (allCons (rfl : false = false) (allCons (rfl : false = false) (allCons (rfl : false = false) (allCons (rfl : false = false) (allCons (rfl : false = false) allNil)))))))))))))) (fun _ h => (qThen (h.ht (cont false (of_some hT3)))))

noncomputable def impl_Model_noCounts (a0 : Int × Int × List Nat × List Nat × List Nat) : Option ((List Nat × List Nat × List Nat)) :=
  guardP ((0 : Int) ≤ (lenI a0.2.2.1) ∧ (lenI a0.2.2.1) ≤ 4294967296) (
    guardP ((0 : Int) ≤ (lenI a0.2.2.2.1) ∧ (lenI a0.2.2.2.1) ≤ 4294967296) (
      guardP ((0 : Int) ≤ (lenI a0.2.2.2.2) ∧ (lenI a0.2.2.2.2) ≤ 4294967296) (
        some ((List.replicate (Int.toNat (lenI a0.2.2.1)) (0 : Nat)), (List.replicate (Int.toNat (lenI a0.2.2.2.1)) (0 : Nat)), (List.replicate (Int.toNat (lenI a0.2.2.2.2)) (0 : Nat))))))

theorem f63_ok {a0 : Int × Int × List Nat × List Nat × List Nat} {r : (List Nat × List Nat × List Nat)} (hr : impl_Model_noCounts a0 = some r) : CallOK Try.prog 63 [.imm (.st (.pair tI (.pair tI (.pair tLF (.pair tLF tLF))))) a0] [⟨true, (.st (.pair tLF (.pair tLF tLF))), r⟩] [] := by
  unfold impl_Model_noCounts at hr
  refine CallOK.of_body (ts := [(true, (.st (.pair tLF (.pair tLF tLF))))]) Try.func63 rfl (by kernel_rfl) (Nat.le_of_ble_eq_true (by kernel_rfl)) fun cx hP hN hO hF => ?_
  have hO : cx.own.map Prod.fst = [] := hO
  have hX := CxIs.mk hP hN hO
  have hF := hF rfl
  show HT cx ⟨[(0, .agg [iC a0.1, iC a0.2.1, lC a0.2.2.1, lC a0.2.2.2.1, lC a0.2.2.2.2])], [], 0⟩ _ _
  refine HT.rg2 (oHs 2) ⟨[(1, pV 0 0), (2, pV 1 0)], [(1, .box [.nilS, .nilS, .nilS]), (0, .box [iC a0.1, iC a0.2.1, lC a0.2.2.1, lC a0.2.2.2.1, lC a0.2.2.2.2])], 2⟩ hX (by kernel_rfl) allNil ?_
  obtain ⟨hg1, hr⟩ := of_guard hr
  obtain ⟨hg2, hr⟩ := of_guard hr
  obtain ⟨hg3, hr⟩ := of_guard hr
  refine HT.dr2 12 [⟨oH, []⟩, ⟨oH, [0]⟩, ⟨oH, [0, 1]⟩, ⟨⟨none, .ty tF⟩, [0, 1, 2]⟩, ⟨oH, []⟩, ⟨oH, [4]⟩, ⟨oH, [4, 5]⟩, ⟨⟨none, .ty tF⟩, [4, 5, 6]⟩, ⟨oH, []⟩, ⟨oH, [8]⟩, ⟨oH, [8, 9]⟩, ⟨⟨none, .ty tF⟩, [8, 9, 10]⟩] [[0, 1, 2, 3, 4, 5, 6, 7, 8, 9, 10, 11], [0, 1, 2, 3, 4, 5, 6, 7, 8, 9, 10, 11, 12]] (oHs 2) ⟨[(2, pV 1 0)], [(1, .box [.all 2, .all 3, .all 4]), (4, .seq tF (List.replicate (Int.toNat (lenI a0.2.2.2.2)) (0 : Nat))), (3, .seq tF (List.replicate (Int.toNat (lenI a0.2.2.2.1)) (0 : Nat))), (2, .seq tF (List.replicate (Int.toNat (lenI a0.2.2.1)) (0 : Nat)))], 5⟩ hX (by kernel_rfl) (by kernel_rfl) (allCons (show (0 : Int) ≤ (lenI a0.2.2.1) ∧ (lenI a0.2.2.1) ≤ (lenI a0.2.2.1) ∧ (lenI a0.2.2.1) ≤ 4294967296 from ⟨hg1.1, Int.le_refl _, hg1.2⟩) (allCons (show (0 : Int) ≤ (lenI a0.2.2.2.1) ∧ (lenI a0.2.2.2.1) ≤ (lenI a0.2.2.2.1) ∧ (lenI a0.2.2.2.1) ≤ 4294967296 from ⟨hg2.1, Int.le_refl _, hg2.2⟩) (allCons (show (0 : Int) ≤ (lenI a0.2.2.2.2) ∧ (lenI a0.2.2.2.2) ≤ (lenI a0.2.2.2.2) ∧ (lenI a0.2.2.2.2) ≤ 4294967296 from ⟨hg3.1, Int.le_refl _, hg3.2⟩) allNil))) ?_
  have hr := of_some hr
  subst hr
  exact HT.ret ⟨[.agg [.all 2, .all 3, .all 4]], [2, 3, 4], [], by kernel_rfl, by kernel_rfl, rfl, by kernel_rfl, by kernel_rfl, trivial⟩

theorem f66_ok {xs y : List Nat} (h : slices_Clone xs = some y) : CallOK Try.prog 66 [.imm tLF xs] [⟨true, tLF, y⟩] [] := by
  obtain ⟨hg, h⟩ := of_guard h
  have h := of_some h
  subst h
  refine CallOK.of_body (ts := [(true, tLF)]) Try.func66 rfl (by kernel_rfl) (Nat.le_of_ble_eq_true (by kernel_rfl)) fun cx hP hN hO hF => ?_
  show HT cx ⟨[(0, .one (.dat tLF xs))], [], 0⟩ _ _
  refine HT.reg1 [0] [⟨none, .no⟩] ⟨[(0, .one (.dat tLF xs))], [], 0⟩ hP hN (by kernel_rfl) allNil ?_
  refine HT.seq ?_
  refine HT.isNil (t3 := 3) (t4 := 4) (v := .one (.dat tLF xs)) (t := tF) (xs := xs) (st1 := ⟨[(3, .one (.dat tLF xs)), (0, .one (.dat tLF xs))], [], 0⟩) hP hN (by kernel_rfl) rfl rfl rfl rfl (e := 66) (by kernel_rfl) rfl rfl (fun b hb => ?_)
  show HT cx ⟨[(4, .one (.dat .bool b)), (3, .one (.dat tLF xs)), (0, .one (.dat tLF xs))], [], 0⟩ _ _
  cases b with
  | true =>
    have e := hb rfl
    subst e
    refine HT.cond1 rfl rfl ?_
    refine HT.reg1 [2] [⟨none, .no⟩] ⟨[(2, .one .nilS)], [], 0⟩ hP hN (by kernel_rfl) allNil ?_
    exact HT.ret (qThenR ⟨[.one .nilS], [], [], by kernel_rfl, by kernel_rfl, rfl, by kernel_rfl, by kernel_rfl, trivial⟩)
  | false =>
    refine HT.cond0 rfl rfl ?_
    refine HT.skip (qThen ?_)
    refine HT.reg1 [2] [⟨none, .no⟩, ⟨none, .no⟩, ⟨none, .ty tF⟩, ⟨none, .no⟩] ⟨[(2, .one (.all 0))], [(0, .seq tF xs)], 1⟩ hP hN (by kernel_rfl) (allCons hg allNil) ?_
    exact HT.ret ⟨[.one (.all 0)], [0], [], by kernel_rfl, by kernel_rfl, rfl, by kernel_rfl, by kernel_rfl, trivial⟩

end Go.Proofs
