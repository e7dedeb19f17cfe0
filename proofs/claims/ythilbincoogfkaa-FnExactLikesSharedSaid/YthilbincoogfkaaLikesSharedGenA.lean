import Derived.Test.YthilbincoogfkaaLibC
import Derived.Test.YthilbincoogfkaaProg
set_option linter.unusedVariables false
set_option linter.unusedSimpArgs false
set_option linter.unusedSectionVars false
/-
  Functions as plain functions, and their contracts. Printed by a program.
-/
namespace Go.Proofs
open Go.Ide

noncomputable def laws_szFloat32S (a0 : List Nat) (a1 : Int) : Option (Int) :=
  bif (decide ((wsub .i64 a1 (lenI a0)) < (0 : Int))) then
    some (-1 : Int)
  else
    some (wsub .i64 a1 (lenI a0))

theorem f42_ok {a0 : List Nat} {a1 : Int} {r : Int} (hr : laws_szFloat32S a0 a1 = some r) : CallOK Try.prog 42 [.imm tLF a0, .imm tI a1] [⟨false, tI, r⟩] [] := by
  unfold laws_szFloat32S at hr
  refine CallOK.of_body (ts := [(false, tI)]) Try.func42 rfl (by kernel_rfl) (Nat.le_of_ble_eq_true (by kernel_rfl)) fun cx hP hN hO hF => ?_
  have hO : cx.own.map Prod.fst = [] := hO
  have hX := CxIs.mk hP hN hO
  have hF := hF rfl
  show HT cx ⟨[(0, lV a0), (1, iV a1)], [], 0⟩ _ _
  refine HT.rg2 [oH] ⟨[(0, lV a0), (1, iV a1)], [], 0⟩ hX (by kernel_rfl) allNil ?_
  refine HT.rg2 (oHs 5) ⟨[(1, iV (wsub .i64 a1 (lenI a0)))], [], 0⟩ hX (by kernel_rfl) allNil ?_
  refine HT.seq ?_
  refine HT.rg2 (oHs 2) ⟨[(1, iV (wsub .i64 a1 (lenI a0))), (10, bV (decide ((wsub .i64 a1 (lenI a0)) < (0 : Int))))], [], 0⟩ hX (by kernel_rfl) allNil ?_
  rcases of_bif hr with ⟨hb1, hr⟩ | ⟨hb1, hr⟩
  · refine HT.cond1 rfl hb1 ?_
    refine HT.rg2 [oH] ⟨[(4, iV (-1 : Int))], [], 0⟩ hX (by kernel_rfl) allNil ?_
    have hr := of_some hr
    subst hr
    exact HT.ret (qThenR ⟨[iV (-1 : Int)], [], [], by kernel_rfl, by kernel_rfl, rfl, by kernel_rfl, by kernel_rfl, trivial⟩)
  · refine HT.cond0 rfl hb1 ?_
    refine HT.skip (qThen ?_)
    refine HT.rg2 (oHs 2) ⟨[(4, iV (wsub .i64 a1 (lenI a0)))], [], 0⟩ hX (by kernel_rfl) allNil ?_
    have hr := of_some hr
    subst hr
    exact HT.ret ⟨[iV (wsub .i64 a1 (lenI a0))], [], [], by kernel_rfl, by kernel_rfl, rfl, by kernel_rfl, by kernel_rfl, trivial⟩

noncomputable def laws_szModel (a0 : Int × Int × List Nat × List Nat × List Nat) (a1 : Int) : Option (Int) :=
  (laws_szFloat32S a0.2.2.1 a1).bind fun y1 =>
  bif (decide (y1 < (0 : Int))) then
    some (-1 : Int)
  else
    (laws_szFloat32S a0.2.2.2.1 y1).bind fun y4 =>
    bif (decide (y4 < (0 : Int))) then
      some (-1 : Int)
    else
      (laws_szFloat32S a0.2.2.2.2 y4).bind fun y7 =>
      bif (decide (y7 < (0 : Int))) then
        some (-1 : Int)
      else
        some y7

theorem f10_ok {a0 : Int × Int × List Nat × List Nat × List Nat} {a1 : Int} {r : Int} (hr : laws_szModel a0 a1 = some r) : CallOK Try.prog 10 [.imm (.st (.pair tI (.pair tI (.pair tLF (.pair tLF tLF))))) a0, .imm tI a1] [⟨false, tI, r⟩] [] := by
  unfold laws_szModel at hr
  refine CallOK.of_body (ts := [(false, tI)]) Try.func10 rfl (by kernel_rfl) (Nat.le_of_ble_eq_true (by kernel_rfl)) fun cx hP hN hO hF => ?_
  have hO : cx.own.map Prod.fst = [] := hO
  have hX := CxIs.mk hP hN hO
  have hF := hF rfl
  show HT cx ⟨[(0, .agg [iC a0.1, iC a0.2.1, lC a0.2.2.1, lC a0.2.2.2.1, lC a0.2.2.2.2]), (1, iV a1)], [], 0⟩ _ _
  refine HT.rg2 (oHs 2) ⟨[(1, iV a1), (2, pV 0 0)], [(0, .box [iC a0.1, iC a0.2.1, lC a0.2.2.1, lC a0.2.2.2.1, lC a0.2.2.2.2])], 1⟩ hX (by kernel_rfl) allNil ?_
  obtain ⟨y1, hc2, hr⟩ := of_bind hr
  refine HT.rg2 [oH, oH, oH, ⟨none, .call [.imm tLF, .imm tI] [⟨false, tI, y1⟩] []⟩, oH] ⟨[(1, iV y1), (2, pV 0 0)], [(0, .box [iC a0.1, iC a0.2.1, lC a0.2.2.1, lC a0.2.2.2.1, lC a0.2.2.2.2])], 1⟩ hX (by kernel_rfl) (allCons (f42_ok hc2) allNil) ?_
  refine HT.seq ?_
  refine HT.rg2 (oHs 2) ⟨[(1, iV y1), (2, pV 0 0), (10, bV (decide (y1 < (0 : Int))))], [(0, .box [iC a0.1, iC a0.2.1, lC a0.2.2.1, lC a0.2.2.2.1, lC a0.2.2.2.2])], 1⟩ hX (by kernel_rfl) allNil ?_
  rcases of_bif hr with ⟨hb3, hr⟩ | ⟨hb3, hr⟩
  · refine HT.cond1 rfl hb3 ?_
    refine HT.rg2 [oH] ⟨[(4, iV (-1 : Int))], [], 1⟩ hX (by kernel_rfl) allNil ?_
    have hr := of_some hr
    subst hr
    exact HT.ret (qThenR ⟨[iV (-1 : Int)], [], [], by kernel_rfl, by kernel_rfl, rfl, by kernel_rfl, by kernel_rfl, trivial⟩)
  · refine HT.cond0 rfl hb3 ?_
    refine HT.skip (qThen ?_)
    obtain ⟨y4, hc5, hr⟩ := of_bind hr
    refine HT.rg2 [oH, oH, oH, ⟨none, .call [.imm tLF, .imm tI] [⟨false, tI, y4⟩] []⟩, oH] ⟨[(1, iV y4), (2, pV 0 0)], [(0, .box [iC a0.1, iC a0.2.1, lC a0.2.2.1, lC a0.2.2.2.1, lC a0.2.2.2.2])], 1⟩ hX (by kernel_rfl) (allCons (f42_ok hc5) allNil) ?_
    refine HT.seq ?_
    refine HT.rg2 (oHs 2) ⟨[(1, iV y4), (2, pV 0 0), (16, bV (decide (y4 < (0 : Int))))], [(0, .box [iC a0.1, iC a0.2.1, lC a0.2.2.1, lC a0.2.2.2.1, lC a0.2.2.2.2])], 1⟩ hX (by kernel_rfl) allNil ?_
    rcases of_bif hr with ⟨hb6, hr⟩ | ⟨hb6, hr⟩
    · refine HT.cond1 rfl hb6 ?_
      refine HT.rg2 [oH] ⟨[(4, iV (-1 : Int))], [], 1⟩ hX (by kernel_rfl) allNil ?_
      have hr := of_some hr
      subst hr
      exact HT.ret (qThenR ⟨[iV (-1 : Int)], [], [], by kernel_rfl, by kernel_rfl, rfl, by kernel_rfl, by kernel_rfl, trivial⟩)
    · refine HT.cond0 rfl hb6 ?_
      refine HT.skip (qThen ?_)
      obtain ⟨y7, hc8, hr⟩ := of_bind hr
      refine HT.rg2 [oH, oH, oH, ⟨none, .call [.imm tLF, .imm tI] [⟨false, tI, y7⟩] []⟩, oH] ⟨[(1, iV y7)], [], 1⟩ hX (by kernel_rfl) (allCons (f42_ok hc8) allNil) ?_
      refine HT.seq ?_
      refine HT.rg2 (oHs 2) ⟨[(1, iV y7), (22, bV (decide (y7 < (0 : Int))))], [], 1⟩ hX (by kernel_rfl) allNil ?_
      rcases of_bif hr with ⟨hb9, hr⟩ | ⟨hb9, hr⟩
      · refine HT.cond1 rfl hb9 ?_
        refine HT.rg2 [oH] ⟨[(4, iV (-1 : Int))], [], 1⟩ hX (by kernel_rfl) allNil ?_
        have hr := of_some hr
        subst hr
        exact HT.ret (qThenR ⟨[iV (-1 : Int)], [], [], by kernel_rfl, by kernel_rfl, rfl, by kernel_rfl, by kernel_rfl, trivial⟩)
      · refine HT.cond0 rfl hb9 ?_
        refine HT.skip (qThen ?_)
        refine HT.rg2 (oHs 2) ⟨[(4, iV y7)], [], 1⟩ hX (by kernel_rfl) allNil ?_
        have hr := of_some hr
        subst hr
        exact HT.ret ⟨[iV y7], [], [], by kernel_rfl, by kernel_rfl, rfl, by kernel_rfl, by kernel_rfl, trivial⟩

noncomputable def laws_szInt64S (a0 : List Int) (a1 : Int) : Option (Int) :=
  bif (decide ((wsub .i64 a1 (lenI a0)) < (0 : Int))) then
    some (-1 : Int)
  else
    some (wsub .i64 a1 (lenI a0))

theorem f59_ok {a0 : List Int} {a1 : Int} {r : Int} (hr : laws_szInt64S a0 a1 = some r) : CallOK Try.prog 59 [.imm tLI a0, .imm tI a1] [⟨false, tI, r⟩] [] := by
  unfold laws_szInt64S at hr
  refine CallOK.of_body (ts := [(false, tI)]) Try.func59 rfl (by kernel_rfl) (Nat.le_of_ble_eq_true (by kernel_rfl)) fun cx hP hN hO hF => ?_
  have hO : cx.own.map Prod.fst = [] := hO
  have hX := CxIs.mk hP hN hO
  have hF := hF rfl
  show HT cx ⟨[(0, nV a0), (1, iV a1)], [], 0⟩ _ _
  refine HT.rg2 [oH] ⟨[(0, nV a0), (1, iV a1)], [], 0⟩ hX (by kernel_rfl) allNil ?_
  refine HT.rg2 (oHs 5) ⟨[(1, iV (wsub .i64 a1 (lenI a0)))], [], 0⟩ hX (by kernel_rfl) allNil ?_
  refine HT.seq ?_
  refine HT.rg2 (oHs 2) ⟨[(1, iV (wsub .i64 a1 (lenI a0))), (10, bV (decide ((wsub .i64 a1 (lenI a0)) < (0 : Int))))], [], 0⟩ hX (by kernel_rfl) allNil ?_
  rcases of_bif hr with ⟨hb1, hr⟩ | ⟨hb1, hr⟩
  · refine HT.cond1 rfl hb1 ?_
    refine HT.rg2 [oH] ⟨[(4, iV (-1 : Int))], [], 0⟩ hX (by kernel_rfl) allNil ?_
    have hr := of_some hr
    subst hr
    exact HT.ret (qThenR ⟨[iV (-1 : Int)], [], [], by kernel_rfl, by kernel_rfl, rfl, by kernel_rfl, by kernel_rfl, trivial⟩)
  · refine HT.cond0 rfl hb1 ?_
    refine HT.skip (qThen ?_)
    refine HT.rg2 (oHs 2) ⟨[(4, iV (wsub .i64 a1 (lenI a0)))], [], 0⟩ hX (by kernel_rfl) allNil ?_
    have hr := of_some hr
    subst hr
    exact HT.ret ⟨[iV (wsub .i64 a1 (lenI a0))], [], [], by kernel_rfl, by kernel_rfl, rfl, by kernel_rfl, by kernel_rfl, trivial⟩

noncomputable def laws_szInt64SS_B1 (a0 : List (List Int)) (s2 : Int × Int) : Option ((Int × Int) ⊕ (Int ⊕ Unit)) :=
  bif (decide (s2.2 < (lenI a0))) then
    guardP ((0 : Int) ≤ s2.2 ∧ s2.2 < lenI a0) (
      (laws_szInt64S (List.getD a0 (Int.toNat s2.2) ([] : List Int)) s2.1).bind fun y11 =>
      bif (decide (y11 < (0 : Int))) then
        some (.inr (.inr ()))
      else
        some (.inl (y11, (wadd .i64 s2.2 (1 : Int)))))
  else
    some (.inr (.inl s2.1))

noncomputable def laws_szInt64SS (a0 : List (List Int)) (a1 : Int) : Option (Int) :=
  bif (decide ((wsub .i64 a1 (lenI a0)) < (0 : Int))) then
    some (-1 : Int)
  else
    (rounds (laws_szInt64SS_B1 a0) ((wsub .i64 a1 (lenI a0)), (0 : Int))).bind fun r3 => match r3 with
      | .inl r4 =>
        some r4
      | .inr r5 =>
        some (-1 : Int)

theorem f26_ok {a0 : List (List Int)} {a1 : Int} {r : Int} (hr : laws_szInt64SS a0 a1 = some r) : CallOK Try.prog 26 [.imm (.sl tLI) a0, .imm tI a1] [⟨false, tI, r⟩] [] := by
  unfold laws_szInt64SS at hr
  refine CallOK.of_body (ts := [(false, tI)]) Try.func26 rfl (by kernel_rfl) (Nat.le_of_ble_eq_true (by kernel_rfl)) fun cx hP hN hO hF => ?_
  have hO : cx.own.map Prod.fst = [] := hO
  have hX := CxIs.mk hP hN hO
  have hF := hF rfl
  show HT cx ⟨[(0, .one (.dat (.sl tLI) a0)), (1, iV a1)], [], 0⟩ _ _
  refine HT.rg2 [oH] ⟨[(0, .one (.dat (.sl tLI) a0)), (1, iV a1)], [], 0⟩ hX (by kernel_rfl) allNil ?_
  refine HT.rg2 (oHs 5) ⟨[(0, .one (.dat (.sl tLI) a0)), (1, iV (wsub .i64 a1 (lenI a0)))], [], 0⟩ hX (by kernel_rfl) allNil ?_
  refine HT.seq ?_
  refine HT.rg2 (oHs 2) ⟨[(0, .one (.dat (.sl tLI) a0)), (1, iV (wsub .i64 a1 (lenI a0))), (11, bV (decide ((wsub .i64 a1 (lenI a0)) < (0 : Int))))], [], 0⟩ hX (by kernel_rfl) allNil ?_
  rcases of_bif hr with ⟨hb1, hr⟩ | ⟨hb1, hr⟩
  · refine HT.cond1 rfl hb1 ?_
    refine HT.rg2 [oH] ⟨[(4, iV (-1 : Int))], [], 0⟩ hX (by kernel_rfl) allNil ?_
    have hr := of_some hr
    subst hr
    exact HT.ret (qThenR ⟨[iV (-1 : Int)], [], [], by kernel_rfl, by kernel_rfl, rfl, by kernel_rfl, by kernel_rfl, trivial⟩)
  · refine HT.cond0 rfl hb1 ?_
    refine HT.skip (qThen ?_)
    refine HT.seq ?_
    refine HT.rg2 [oH] ⟨[(0, .one (.dat (.sl tLI) a0)), (1, iV (wsub .i64 a1 (lenI a0))), (5, iV (0 : Int))], [], 0⟩ hX (by kernel_rfl) allNil ?_
    refine HT.block ?_
    obtain ⟨r3, hL14, hr⟩ := of_bind hr
    refine (Le.cv (s := ⟨[], [], [], false⟩) (own := []) (ps := [a0 = a0, (wsub .i64 a1 (lenI a0)) = (wsub .i64 a1 (lenI a0)), (0 : Int) = (0 : Int)]) (st' := ⟨[(0, .one (.dat (.sl tLI) a0)), (1, iV (wsub .i64 a1 (lenI a0))), (5, iV (0 : Int))], [], 0⟩) hO (fun h => by cases h) (by kernel_rfl) ⟨rfl, rfl, rfl, trivial⟩).ht ?_
    refine HT.loopE (s := ((wsub .i64 a1 (lenI a0)), (0 : Int))) (fun (s2 : Int × Int) => ⟨[(0, .one (.dat (.sl tLI) a0)), (1, iV s2.1), (5, iV s2.2)], [], 0⟩) (fun (r3 : Int ⊕ Unit) => match r3 with | .inl r4 => (.exit 0, ⟨[(1, iV r4)], [], 0⟩) | .inr r5 => (.ret, ⟨[(4, iV (-1 : Int))], [], 0⟩)) hL14 ?_ (fun s2 x6 hx7 hk8 => ?_)
    · rcases r3 with r4 | r5
      · refine (qBlockX (qThen ?_))
        refine HT.rg2 (oHs 2) ⟨[(4, iV r4)], [], 0⟩ hX (by kernel_rfl) allNil ?_
        have hr := of_some hr
        subst hr
        exact HT.ret ⟨[iV r4], [], [], by kernel_rfl, by kernel_rfl, rfl, by kernel_rfl, by kernel_rfl, trivial⟩
      · have hr := of_some hr
        subst hr
        exact (qBlockR (qThenR ⟨[iV (-1 : Int)], [], [], by kernel_rfl, by kernel_rfl, rfl, by kernel_rfl, by kernel_rfl, trivial⟩))
    · refine HT.seq ?_
      refine HT.rg2 (oHs 4) ⟨[(0, .one (.dat (.sl tLI) a0)), (1, iV s2.1), (5, iV s2.2), (15, bV (decide (s2.2 < (lenI a0))))], [], 0⟩ hX (by kernel_rfl) allNil ?_
      rcases of_bif hx7 with ⟨hb9, hx7⟩ | ⟨hb9, hx7⟩
      · refine HT.cond1 rfl hb9 ?_
        refine HT.skip (qThen ?_)
        refine HT.seq ?_
        refine HT.block ?_
        obtain ⟨hg10, hx7⟩ := of_guard hx7
        obtain ⟨y11, hc12, hx7⟩ := of_bind hx7
        refine HT.rg2 [oH, oH, oH, oH, oH, ⟨none, .call [.imm tLI, .imm tI] [⟨false, tI, y11⟩] []⟩, oH] ⟨[(0, .one (.dat (.sl tLI) a0)), (1, iV y11), (5, iV s2.2)], [], 0⟩ hX (by kernel_rfl) (allCons hg10 (allCons (f59_ok hc12) allNil)) ?_
        refine HT.rg2 (oHs 2) ⟨[(0, .one (.dat (.sl tLI) a0)), (1, iV y11), (5, iV s2.2), (25, bV (decide (y11 < (0 : Int))))], [], 0⟩ hX (by kernel_rfl) allNil ?_
        rcases of_bif hx7 with ⟨hb13, hx7⟩ | ⟨hb13, hx7⟩
        · refine HT.cond1 rfl hb13 ?_
          refine HT.rg2 [oH] ⟨[(4, iV (-1 : Int))], [], 0⟩ hX (by kernel_rfl) allNil ?_
          have hx7 := of_some hx7
          subst hx7
          refine (Le.cv (s := ⟨[], [], [], false⟩) (own := []) (ps := [(-1 : Int) = (-1 : Int)]) (st' := ⟨[(4, iV (-1 : Int))], [], 0⟩) hO (fun h => by cases h) (by kernel_rfl) ⟨rfl, trivial⟩).ht ?_
          exact HT.ret (qBlockR (qThenR (qLoopR (hk8 (.inr ()) rfl))))
        · refine HT.cond0 rfl hb13 ?_
          refine HT.skip (qBlock (qThen ?_))
          have hx7 := of_some hx7
          subst hx7
          refine HT.rgL (oHs 3) ⟨[(0, .one (.dat (.sl tLI) a0)), (1, iV y11), (5, iV (wadd .i64 s2.2 (1 : Int)))], [], 0⟩ hX (by kernel_rfl) allNil (qLoopN ⟨(y11, (wadd .i64 s2.2 (1 : Int))), rfl, Le.cv (s := ⟨[], [], [], false⟩) (own := []) (ps := [a0 = a0, y11 = y11, (wadd .i64 s2.2 (1 : Int)) = (wadd .i64 s2.2 (1 : Int))]) (st' := ⟨[(0, .one (.dat (.sl tLI) a0)), (1, iV y11), (5, iV (wadd .i64 s2.2 (1 : Int)))], [], 0⟩) hO (fun h => by cases h) (by kernel_rfl) ⟨rfl, rfl, rfl, trivial⟩⟩)
      · refine HT.cond0 rfl hb9 ?_
        have hx7 := of_some hx7
        subst hx7
        refine (Le.cv (s := ⟨[], [], [], false⟩) (own := []) (ps := [s2.1 = s2.1]) (st' := ⟨[(1, iV s2.1)], [], 0⟩) hO (fun h => by cases h) (by kernel_rfl) ⟨rfl, trivial⟩).ht ?_
        exact HT.exit (qThenE (qLoopE (hk8 (.inl s2.1) rfl)))

noncomputable def laws_toFloat32S_B1 (a0 : List Nat) (s2 : Int × List Nat) : Option ((Int × List Nat) ⊕ (List Nat)) :=
  bif (decide (s2.1 < (lenI a0))) then
    guardP ((0 : Int) ≤ s2.1 ∧ s2.1 < lenI a0) (
      guardP ((0 : Int) ≤ s2.1 ∧ s2.1 < lenI s2.2) (
        some (.inl ((wadd .i64 s2.1 (1 : Int)), (List.set s2.2 (Int.toNat s2.1) (List.getD a0 (Int.toNat s2.1) (0 : Nat)))))))
  else
    some (.inr s2.2)

noncomputable def laws_toFloat32S (a0 : List Nat) : Option (List Nat) :=
  guardP ((0 : Int) ≤ (lenI a0) ∧ (lenI a0) ≤ 4294967296) (
    (rounds (laws_toFloat32S_B1 a0) ((0 : Int), (List.replicate (Int.toNat (lenI a0)) (0 : Nat)))).bind fun r4 =>
    some r4)

theorem f46_ok {a0 : List Nat} {r : List Nat} (hr : laws_toFloat32S a0 = some r) : CallOK Try.prog 46 [.imm tLF a0] [⟨true, tLF, r⟩] [] := by
  unfold laws_toFloat32S at hr
  refine CallOK.of_body (ts := [(true, tLF)]) Try.func46 rfl (by kernel_rfl) (Nat.le_of_ble_eq_true (by kernel_rfl)) fun cx hP hN hO hF => ?_
  have hO : cx.own.map Prod.fst = [] := hO
  have hX := CxIs.mk hP hN hO
  have hF := hF rfl
  show HT cx ⟨[(0, lV a0)], [], 0⟩ _ _
  refine HT.rg2 [oH] ⟨[(0, lV a0)], [], 0⟩ hX (by kernel_rfl) allNil ?_
  obtain ⟨hg1, hr⟩ := of_guard hr
  refine HT.rg2 [oH, oH, ⟨none, .ty tF⟩, oH] ⟨[(0, lV a0), (3, aV 0)], [(0, .seq tF (List.replicate (Int.toNat (lenI a0)) (0 : Nat)))], 1⟩ hX (by kernel_rfl) (allCons (show (0 : Int) ≤ (lenI a0) ∧ (lenI a0) ≤ (lenI a0) ∧ (lenI a0) ≤ 4294967296 from ⟨hg1.1, Int.le_refl _, hg1.2⟩) allNil) ?_
  refine HT.seq ?_
  refine HT.rg2 [oH] ⟨[(0, lV a0), (3, aV 0), (4, iV (0 : Int))], [(0, .seq tF (List.replicate (Int.toNat (lenI a0)) (0 : Nat)))], 1⟩ hX (by kernel_rfl) allNil ?_
  refine HT.block ?_
  obtain ⟨r3, hL11, hr⟩ := of_bind hr
  refine (Le.cv (s := ⟨[(0, 0)], [], [], false⟩) (own := []) (ps := [a0 = a0, (0 : Int) = (0 : Int), (List.replicate (Int.toNat (lenI a0)) (0 : Nat)) = (List.replicate (Int.toNat (lenI a0)) (0 : Nat))]) (st' := ⟨[(0, lV a0), (3, aV 0), (4, iV (0 : Int))], [(0, .seq tF (List.replicate (Int.toNat (lenI a0)) (0 : Nat)))], 1⟩) hO (fun h => by cases h) (by kernel_rfl) ⟨rfl, rfl, rfl, trivial⟩).ht ?_
  refine HT.loopE (s := ((0 : Int), (List.replicate (Int.toNat (lenI a0)) (0 : Nat)))) (fun (s2 : Int × List Nat) => ⟨[(0, lV a0), (3, aV 0), (4, iV s2.1)], [(0, .seq tF s2.2)], 1⟩) (fun (r4 : List Nat) => (.exit 0, ⟨[(3, aV 0)], [(0, .seq tF r4)], 1⟩)) hL11 ?_ (fun s2 x5 hx6 hk7 => ?_)
  · refine (qBlockX (qThen ?_))
    refine HT.rg2 (oHs 2) ⟨[(2, aV 0)], [(0, .seq tF r3)], 1⟩ hX (by kernel_rfl) allNil ?_
    have hr := of_some hr
    subst hr
    exact HT.ret ⟨[aV 0], [0], [], by kernel_rfl, by kernel_rfl, rfl, by kernel_rfl, by kernel_rfl, trivial⟩
  · refine HT.seq ?_
    refine HT.rg2 (oHs 4) ⟨[(0, lV a0), (3, aV 0), (4, iV s2.1), (11, bV (decide (s2.1 < (lenI a0))))], [(0, .seq tF s2.2)], 1⟩ hX (by kernel_rfl) allNil ?_
    rcases of_bif hx6 with ⟨hb8, hx6⟩ | ⟨hb8, hx6⟩
    · refine HT.cond1 rfl hb8 ?_
      refine HT.skip (qThen ?_)
      refine HT.seq ?_
      refine HT.block ?_
      obtain ⟨hg9, hx6⟩ := of_guard hx6
      obtain ⟨hg10, hx6⟩ := of_guard hx6
      refine HT.rgL (oHs 8) ⟨[(0, lV a0), (3, aV 0), (4, iV s2.1)], [(0, .seq tF (List.set s2.2 (Int.toNat s2.1) (List.getD a0 (Int.toNat s2.1) (0 : Nat))))], 1⟩ hX (by kernel_rfl) (allCons hg9 (allCons hg10 (allCons (natLt hg10) allNil))) (qBlock (qThen ?_))
      have hx6 := of_some hx6
      subst hx6
      refine HT.rgL (oHs 3) ⟨[(0, lV a0), (3, aV 0), (4, iV (wadd .i64 s2.1 (1 : Int)))], [(0, .seq tF (List.set s2.2 (Int.toNat s2.1) (List.getD a0 (Int.toNat s2.1) (0 : Nat))))], 1⟩ hX (by kernel_rfl) allNil (qLoopN ⟨((wadd .i64 s2.1 (1 : Int)), (List.set s2.2 (Int.toNat s2.1) (List.getD a0 (Int.toNat s2.1) (0 : Nat)))), rfl, Le.cv (s := ⟨[(0, 0)], [], [], false⟩) (own := []) (ps := [a0 = a0, (wadd .i64 s2.1 (1 : Int)) = (wadd .i64 s2.1 (1 : Int)), (List.set s2.2 (Int.toNat s2.1) (List.getD a0 (Int.toNat s2.1) (0 : Nat))) = (List.set s2.2 (Int.toNat s2.1) (List.getD a0 (Int.toNat s2.1) (0 : Nat)))]) (st' := ⟨[(0, lV a0), (3, aV 0), (4, iV (wadd .i64 s2.1 (1 : Int)))], [(0, .seq tF (List.set s2.2 (Int.toNat s2.1) (List.getD a0 (Int.toNat s2.1) (0 : Nat))))], 1⟩) hO (fun h => by cases h) (by kernel_rfl) ⟨rfl, rfl, rfl, trivial⟩⟩)
    · refine HT.cond0 rfl hb8 ?_
      have hx6 := of_some hx6
      subst hx6
      refine (Le.cv (s := ⟨[(0, 0)], [], [], false⟩) (own := []) (ps := [s2.2 = s2.2]) (st' := ⟨[(3, aV 0)], [(0, .seq tF s2.2)], 1⟩) hO (fun h => by cases h) (by kernel_rfl) ⟨rfl, trivial⟩).ht ?_
      exact HT.exit (qThenE (qLoopE (hk7 s2.2 rfl)))

noncomputable def laws_toModel (a0 : Int × Int × List Nat × List Nat × List Nat) : Option ((Int × Int × List Nat × List Nat × List Nat)) :=
  (laws_toFloat32S a0.2.2.1).bind fun y1 =>
  (laws_toFloat32S a0.2.2.2.1).bind fun y3 =>
  (laws_toFloat32S a0.2.2.2.2).bind fun y5 =>
  some (a0.1, a0.2.1, y1, y3, y5)

theorem f12_ok {a0 : Int × Int × List Nat × List Nat × List Nat} {r : (Int × Int × List Nat × List Nat × List Nat)} (hr : laws_toModel a0 = some r) : CallOK Try.prog 12 [.imm (.st (.pair tI (.pair tI (.pair tLF (.pair tLF tLF))))) a0] [⟨true, (.st (.pair tI (.pair tI (.pair tLF (.pair tLF tLF))))), r⟩] [] := by
  unfold laws_toModel at hr
  refine CallOK.of_body (ts := [(true, (.st (.pair tI (.pair tI (.pair tLF (.pair tLF tLF))))))]) Try.func12 rfl (by kernel_rfl) (Nat.le_of_ble_eq_true (by kernel_rfl)) fun cx hP hN hO hF => ?_
  have hO : cx.own.map Prod.fst = [] := hO
  have hX := CxIs.mk hP hN hO
  have hF := hF rfl
  show HT cx ⟨[(0, .agg [iC a0.1, iC a0.2.1, lC a0.2.2.1, lC a0.2.2.2.1, lC a0.2.2.2.2])], [], 0⟩ _ _
  refine HT.rg2 (oHs 2) ⟨[(1, pV 0 0), (2, pV 1 0)], [(1, .box [iC (0 : Int), iC (0 : Int), .nilS, .nilS, .nilS]), (0, .box [iC a0.1, iC a0.2.1, lC a0.2.2.1, lC a0.2.2.2.1, lC a0.2.2.2.2])], 2⟩ hX (by kernel_rfl) allNil ?_
  refine HT.rg2 [oH] ⟨[(1, pV 0 0), (2, pV 1 0), (3, pV 2 0)], [(2, .box [iC (0 : Int), iC (0 : Int), .nilS, .nilS, .nilS]), (1, .box [iC (0 : Int), iC (0 : Int), .nilS, .nilS, .nilS]), (0, .box [iC a0.1, iC a0.2.1, lC a0.2.2.1, lC a0.2.2.2.1, lC a0.2.2.2.2])], 3⟩ hX (by kernel_rfl) allNil ?_
  refine HT.rg2 (oHs 4) ⟨[(1, pV 0 0), (2, pV 1 0), (3, pV 2 0)], [(2, .box [iC a0.1, iC (0 : Int), .nilS, .nilS, .nilS]), (1, .box [iC (0 : Int), iC (0 : Int), .nilS, .nilS, .nilS]), (0, .box [iC a0.1, iC a0.2.1, lC a0.2.2.1, lC a0.2.2.2.1, lC a0.2.2.2.2])], 3⟩ hX (by kernel_rfl) allNil ?_
  refine HT.rg2 (oHs 4) ⟨[(1, pV 0 0), (2, pV 1 0), (3, pV 2 0)], [(2, .box [iC a0.1, iC a0.2.1, .nilS, .nilS, .nilS]), (1, .box [iC (0 : Int), iC (0 : Int), .nilS, .nilS, .nilS]), (0, .box [iC a0.1, iC a0.2.1, lC a0.2.2.1, lC a0.2.2.2.1, lC a0.2.2.2.2])], 3⟩ hX (by kernel_rfl) allNil ?_
  obtain ⟨y1, hc2, hr⟩ := of_bind hr
  refine HT.rg2 [oH, oH, ⟨none, .call [.imm tLF] [⟨true, tLF, y1⟩] []⟩, oH, oH] ⟨[(1, pV 0 0), (2, pV 1 0), (3, pV 2 0)], [(2, .box [iC a0.1, iC a0.2.1, .all 3, .nilS, .nilS]), (3, .seq tF y1), (1, .box [iC (0 : Int), iC (0 : Int), .nilS, .nilS, .nilS]), (0, .box [iC a0.1, iC a0.2.1, lC a0.2.2.1, lC a0.2.2.2.1, lC a0.2.2.2.2])], 4⟩ hX (by kernel_rfl) (allCons (f46_ok hc2) allNil) ?_
  obtain ⟨y3, hc4, hr⟩ := of_bind hr
  refine HT.rg2 [oH, oH, ⟨none, .call [.imm tLF] [⟨true, tLF, y3⟩] []⟩, oH, oH] ⟨[(1, pV 0 0), (2, pV 1 0), (3, pV 2 0)], [(2, .box [iC a0.1, iC a0.2.1, .all 3, .all 4, .nilS]), (4, .seq tF y3), (3, .seq tF y1), (1, .box [iC (0 : Int), iC (0 : Int), .nilS, .nilS, .nilS]), (0, .box [iC a0.1, iC a0.2.1, lC a0.2.2.1, lC a0.2.2.2.1, lC a0.2.2.2.2])], 5⟩ hX (by kernel_rfl) (allCons (f46_ok hc4) allNil) ?_
  obtain ⟨y5, hc6, hr⟩ := of_bind hr
  refine HT.rg2 [oH, oH, ⟨none, .call [.imm tLF] [⟨true, tLF, y5⟩] []⟩, oH, oH] ⟨[(2, pV 1 0), (3, pV 2 0)], [(2, .box [iC a0.1, iC a0.2.1, .all 3, .all 4, .all 5]), (5, .seq tF y5), (4, .seq tF y3), (3, .seq tF y1), (1, .box [iC (0 : Int), iC (0 : Int), .nilS, .nilS, .nilS])], 6⟩ hX (by kernel_rfl) (allCons (f46_ok hc6) allNil) ?_
  refine HT.rg2 (oHs 2) ⟨[(2, pV 1 0)], [(1, .box [iC a0.1, iC a0.2.1, .all 3, .all 4, .all 5]), (5, .seq tF y5), (4, .seq tF y3), (3, .seq tF y1)], 6⟩ hX (by kernel_rfl) allNil ?_
  have hr := of_some hr
  subst hr
  exact HT.ret ⟨[.agg [iC a0.1, iC a0.2.1, .all 3, .all 4, .all 5]], [3, 4, 5], [], by kernel_rfl, by kernel_rfl, rfl, by kernel_rfl, by kernel_rfl, trivial⟩

noncomputable def laws_toInt64S_B1 (a0 : List Int) (s2 : Int × List Int) : Option ((Int × List Int) ⊕ (List Int)) :=
  bif (decide (s2.1 < (lenI a0))) then
    guardP ((0 : Int) ≤ s2.1 ∧ s2.1 < lenI a0) (
      guardP ((0 : Int) ≤ s2.1 ∧ s2.1 < lenI s2.2) (
        some (.inl ((wadd .i64 s2.1 (1 : Int)), (List.set s2.2 (Int.toNat s2.1) (List.getD a0 (Int.toNat s2.1) (0 : Int)))))))
  else
    some (.inr s2.2)

noncomputable def laws_toInt64S (a0 : List Int) : Option (List Int) :=
  guardP ((0 : Int) ≤ (lenI a0) ∧ (lenI a0) ≤ 4294967296) (
    (rounds (laws_toInt64S_B1 a0) ((0 : Int), (List.replicate (Int.toNat (lenI a0)) (0 : Int)))).bind fun r4 =>
    some r4)

theorem f13_ok {a0 : List Int} {r : List Int} (hr : laws_toInt64S a0 = some r) : CallOK Try.prog 13 [.imm tLI a0] [⟨true, tLI, r⟩] [] := by
  unfold laws_toInt64S at hr
  refine CallOK.of_body (ts := [(true, tLI)]) Try.func13 rfl (by kernel_rfl) (Nat.le_of_ble_eq_true (by kernel_rfl)) fun cx hP hN hO hF => ?_
  have hO : cx.own.map Prod.fst = [] := hO
  have hX := CxIs.mk hP hN hO
  have hF := hF rfl
  show HT cx ⟨[(0, nV a0)], [], 0⟩ _ _
  refine HT.rg2 [oH] ⟨[(0, nV a0)], [], 0⟩ hX (by kernel_rfl) allNil ?_
  obtain ⟨hg1, hr⟩ := of_guard hr
  refine HT.rg2 [oH, oH, ⟨none, .ty tI⟩, oH] ⟨[(0, nV a0), (3, aV 0)], [(0, .seq tI (List.replicate (Int.toNat (lenI a0)) (0 : Int)))], 1⟩ hX (by kernel_rfl) (allCons (show (0 : Int) ≤ (lenI a0) ∧ (lenI a0) ≤ (lenI a0) ∧ (lenI a0) ≤ 4294967296 from ⟨hg1.1, Int.le_refl _, hg1.2⟩) allNil) ?_
  refine HT.seq ?_
  refine HT.rg2 [oH] ⟨[(0, nV a0), (3, aV 0), (4, iV (0 : Int))], [(0, .seq tI (List.replicate (Int.toNat (lenI a0)) (0 : Int)))], 1⟩ hX (by kernel_rfl) allNil ?_
  refine HT.block ?_
  obtain ⟨r3, hL11, hr⟩ := of_bind hr
  refine (Le.cv (s := ⟨[(0, 0)], [], [], false⟩) (own := []) (ps := [a0 = a0, (0 : Int) = (0 : Int), (List.replicate (Int.toNat (lenI a0)) (0 : Int)) = (List.replicate (Int.toNat (lenI a0)) (0 : Int))]) (st' := ⟨[(0, nV a0), (3, aV 0), (4, iV (0 : Int))], [(0, .seq tI (List.replicate (Int.toNat (lenI a0)) (0 : Int)))], 1⟩) hO (fun h => by cases h) (by kernel_rfl) ⟨rfl, rfl, rfl, trivial⟩).ht ?_
  refine HT.loopE (s := ((0 : Int), (List.replicate (Int.toNat (lenI a0)) (0 : Int)))) (fun (s2 : Int × List Int) => ⟨[(0, nV a0), (3, aV 0), (4, iV s2.1)], [(0, .seq tI s2.2)], 1⟩) (fun (r4 : List Int) => (.exit 0, ⟨[(3, aV 0)], [(0, .seq tI r4)], 1⟩)) hL11 ?_ (fun s2 x5 hx6 hk7 => ?_)
  · refine (qBlockX (qThen ?_))
    refine HT.rg2 (oHs 2) ⟨[(2, aV 0)], [(0, .seq tI r3)], 1⟩ hX (by kernel_rfl) allNil ?_
    have hr := of_some hr
    subst hr
    exact HT.ret ⟨[aV 0], [0], [], by kernel_rfl, by kernel_rfl, rfl, by kernel_rfl, by kernel_rfl, trivial⟩
  · refine HT.seq ?_
    refine HT.rg2 (oHs 4) ⟨[(0, nV a0), (3, aV 0), (4, iV s2.1), (11, bV (decide (s2.1 < (lenI a0))))], [(0, .seq tI s2.2)], 1⟩ hX (by kernel_rfl) allNil ?_
    rcases of_bif hx6 with ⟨hb8, hx6⟩ | ⟨hb8, hx6⟩
    · refine HT.cond1 rfl hb8 ?_
      refine HT.skip (qThen ?_)
      refine HT.seq ?_
      refine HT.block ?_
      obtain ⟨hg9, hx6⟩ := of_guard hx6
      obtain ⟨hg10, hx6⟩ := of_guard hx6
      refine HT.rgL (oHs 8) ⟨[(0, nV a0), (3, aV 0), (4, iV s2.1)], [(0, .seq tI (List.set s2.2 (Int.toNat s2.1) (List.getD a0 (Int.toNat s2.1) (0 : Int))))], 1⟩ hX (by kernel_rfl) (allCons hg9 (allCons hg10 (allCons (natLt hg10) allNil))) (qBlock (qThen ?_))
      have hx6 := of_some hx6
      subst hx6
      refine HT.rgL (oHs 3) ⟨[(0, nV a0), (3, aV 0), (4, iV (wadd .i64 s2.1 (1 : Int)))], [(0, .seq tI (List.set s2.2 (Int.toNat s2.1) (List.getD a0 (Int.toNat s2.1) (0 : Int))))], 1⟩ hX (by kernel_rfl) allNil (qLoopN ⟨((wadd .i64 s2.1 (1 : Int)), (List.set s2.2 (Int.toNat s2.1) (List.getD a0 (Int.toNat s2.1) (0 : Int)))), rfl, Le.cv (s := ⟨[(0, 0)], [], [], false⟩) (own := []) (ps := [a0 = a0, (wadd .i64 s2.1 (1 : Int)) = (wadd .i64 s2.1 (1 : Int)), (List.set s2.2 (Int.toNat s2.1) (List.getD a0 (Int.toNat s2.1) (0 : Int))) = (List.set s2.2 (Int.toNat s2.1) (List.getD a0 (Int.toNat s2.1) (0 : Int)))]) (st' := ⟨[(0, nV a0), (3, aV 0), (4, iV (wadd .i64 s2.1 (1 : Int)))], [(0, .seq tI (List.set s2.2 (Int.toNat s2.1) (List.getD a0 (Int.toNat s2.1) (0 : Int))))], 1⟩) hO (fun h => by cases h) (by kernel_rfl) ⟨rfl, rfl, rfl, trivial⟩⟩)
    · refine HT.cond0 rfl hb8 ?_
      have hx6 := of_some hx6
      subst hx6
      refine (Le.cv (s := ⟨[(0, 0)], [], [], false⟩) (own := []) (ps := [s2.2 = s2.2]) (st' := ⟨[(3, aV 0)], [(0, .seq tI s2.2)], 1⟩) hO (fun h => by cases h) (by kernel_rfl) ⟨rfl, trivial⟩).ht ?_
      exact HT.exit (qThenE (qLoopE (hk7 s2.2 rfl)))

noncomputable def laws_toInt64SS_B1 (a0 : List (List Int)) (s2 : Int × List (List Int)) : Option ((Int × List (List Int)) ⊕ (List (List Int))) :=
  bif (decide (s2.1 < (lenI a0))) then
    guardP ((0 : Int) ≤ s2.1 ∧ s2.1 < lenI a0) (
      (laws_toInt64S (List.getD a0 (Int.toNat s2.1) ([] : List Int))).bind fun y10 =>
      guardP ((0 : Int) ≤ s2.1 ∧ s2.1 < lenI s2.2) (
        some (.inl ((wadd .i64 s2.1 (1 : Int)), (List.set s2.2 (Int.toNat s2.1) y10)))))
  else
    some (.inr s2.2)

noncomputable def laws_toInt64SS (a0 : List (List Int)) : Option (List (List Int)) :=
  guardP ((0 : Int) ≤ (lenI a0) ∧ (lenI a0) ≤ 4294967296) (
    (rounds (laws_toInt64SS_B1 a0) ((0 : Int), (List.replicate (Int.toNat (lenI a0)) ([] : List Int)))).bind fun r4 =>
    some r4)

theorem f28_ok {a0 : List (List Int)} {r : List (List Int)} (hr : laws_toInt64SS a0 = some r) : CallOK Try.prog 28 [.imm (.sl tLI) a0] [⟨true, (.sl (.own tI)), r⟩] [] := by
  unfold laws_toInt64SS at hr
  refine CallOK.of_body (ts := [(true, (.sl (.own tI)))]) Try.func28 rfl (by kernel_rfl) (Nat.le_of_ble_eq_true (by kernel_rfl)) fun cx hP hN hO hF => ?_
  have hO : cx.own.map Prod.fst = [] := hO
  have hX := CxIs.mk hP hN hO
  have hF := hF rfl
  show HT cx ⟨[(0, .one (.dat (.sl tLI) a0))], [], 0⟩ _ _
  refine HT.rg2 [oH] ⟨[(0, .one (.dat (.sl tLI) a0))], [], 0⟩ hX (by kernel_rfl) allNil ?_
  obtain ⟨hg1, hr⟩ := of_guard hr
  refine HT.rg2 [oH, oH, ⟨none, .ty (.own tI)⟩, oH] ⟨[(0, .one (.dat (.sl tLI) a0)), (3, aV 0)], [(0, .seq (.own tI) (List.replicate (Int.toNat (lenI a0)) ([] : List Int)))], 1⟩ hX (by kernel_rfl) (allCons (show (0 : Int) ≤ (lenI a0) ∧ (lenI a0) ≤ (lenI a0) ∧ (lenI a0) ≤ 4294967296 from ⟨hg1.1, Int.le_refl _, hg1.2⟩) allNil) ?_
  refine HT.seq ?_
  refine HT.rg2 [oH] ⟨[(0, .one (.dat (.sl tLI) a0)), (3, aV 0), (4, iV (0 : Int))], [(0, .seq (.own tI) (List.replicate (Int.toNat (lenI a0)) ([] : List Int)))], 1⟩ hX (by kernel_rfl) allNil ?_
  refine HT.block ?_
  obtain ⟨r3, hL13, hr⟩ := of_bind hr
  refine (Le.cv (s := ⟨[(0, 0)], [], [], false⟩) (own := []) (ps := [a0 = a0, (0 : Int) = (0 : Int), (List.replicate (Int.toNat (lenI a0)) ([] : List Int)) = (List.replicate (Int.toNat (lenI a0)) ([] : List Int))]) (st' := ⟨[(0, .one (.dat (.sl tLI) a0)), (3, aV 0), (4, iV (0 : Int))], [(0, .seq (.own tI) (List.replicate (Int.toNat (lenI a0)) ([] : List Int)))], 1⟩) hO (fun h => by cases h) (by kernel_rfl) ⟨rfl, rfl, rfl, trivial⟩).ht ?_
  refine HT.loopE (s := ((0 : Int), (List.replicate (Int.toNat (lenI a0)) ([] : List Int)))) (fun (s2 : Int × List (List Int)) => ⟨[(0, .one (.dat (.sl tLI) a0)), (3, aV 0), (4, iV s2.1)], [(0, .seq (.own tI) s2.2)], 1⟩) (fun (r4 : List (List Int)) => (.exit 0, ⟨[(3, aV 0)], [(0, .seq (.own tI) r4)], 1⟩)) hL13 ?_ (fun s2 x5 hx6 hk7 => ?_)
  · refine (qBlockX (qThen ?_))
    refine HT.rg2 (oHs 2) ⟨[(2, aV 0)], [(0, .seq (.own tI) r3)], 1⟩ hX (by kernel_rfl) allNil ?_
    have hr := of_some hr
    subst hr
    exact HT.ret ⟨[aV 0], [0], [], by kernel_rfl, by kernel_rfl, rfl, by kernel_rfl, by kernel_rfl, trivial⟩
  · refine HT.seq ?_
    refine HT.rg2 (oHs 4) ⟨[(0, .one (.dat (.sl tLI) a0)), (3, aV 0), (4, iV s2.1), (11, bV (decide (s2.1 < (lenI a0))))], [(0, .seq (.own tI) s2.2)], 1⟩ hX (by kernel_rfl) allNil ?_
    rcases of_bif hx6 with ⟨hb8, hx6⟩ | ⟨hb8, hx6⟩
    · refine HT.cond1 rfl hb8 ?_
      refine HT.skip (qThen ?_)
      refine HT.seq ?_
      refine HT.block ?_
      obtain ⟨hg9, hx6⟩ := of_guard hx6
      obtain ⟨y10, hc11, hx6⟩ := of_bind hx6
      obtain ⟨hg12, hx6⟩ := of_guard hx6
      refine HT.regC (rs := [oH, oH, oH, oH, oH, oH, ⟨none, .call [.imm tLI] [⟨true, tLI, y10⟩] []⟩, oH, ⟨none, .opn⟩]) ⟨[(21, .one (.elp 0 (Int.toNat s2.1) 1 0)), (20, aV 1), (19, nV (List.getD a0 (Int.toNat s2.1) ([] : List Int))), (18, .one (.ip tLI (List.getD a0 (Int.toNat s2.1) ([] : List Int)) 0)), (17, iV s2.1), (16, .one (.dat (.sl tLI) a0)), (15, iV s2.1), (14, aV 0), (0, .one (.dat (.sl tLI) a0)), (3, aV 0), (4, iV s2.1), (11, bV (decide (s2.1 < (lenI a0))))], [(0, .opn (.own tI) s2.2 (Int.toNat s2.1) [.all 1] [2]), (0, .opn (.own tI) s2.2 (Int.toNat s2.1) [.all 2] [2]), (2, .seq tI (List.getD s2.2 (Int.toNat s2.1) ([] : List Int))), (1, .seq tI y10), (0, .seq (.own tI) s2.2)], 3⟩ hP hN (by kernel_rfl) (allCons hg9 (allCons (f13_ok hc11) (allCons hg12 (allCons (natLt hg12) allNil)))) (Le.close (own := []) 0 (st' := ⟨[(21, .one (.elp 0 (Int.toNat s2.1) 1 0)), (20, aV 1), (19, nV (List.getD a0 (Int.toNat s2.1) ([] : List Int))), (18, .one (.ip tLI (List.getD a0 (Int.toNat s2.1) ([] : List Int)) 0)), (17, iV s2.1), (16, .one (.dat (.sl tLI) a0)), (15, iV s2.1), (14, aV 0), (0, .one (.dat (.sl tLI) a0)), (3, aV 0), (4, iV s2.1), (11, bV (decide (s2.1 < (lenI a0))))], [(0, .seq (.own tI) (List.set s2.2 (Int.toNat s2.1) y10)), (1, .gone), (2, .seq tI (List.getD s2.2 (Int.toNat s2.1) ([] : List Int)))], 3⟩) hO (by kernel_rfl)) (qBlock (qThen ?_))
      have hx6 := of_some hx6
      subst hx6
      refine HT.rgL (oHs 3) ⟨[(0, .one (.dat (.sl tLI) a0)), (3, aV 0), (4, iV (wadd .i64 s2.1 (1 : Int)))], [(0, .seq (.own tI) (List.set s2.2 (Int.toNat s2.1) y10))], 3⟩ hX (by kernel_rfl) allNil (qLoopN ⟨((wadd .i64 s2.1 (1 : Int)), (List.set s2.2 (Int.toNat s2.1) y10)), rfl, Le.cv (s := ⟨[(0, 0)], [], [], false⟩) (own := []) (ps := [a0 = a0, (wadd .i64 s2.1 (1 : Int)) = (wadd .i64 s2.1 (1 : Int)), (List.set s2.2 (Int.toNat s2.1) y10) = (List.set s2.2 (Int.toNat s2.1) y10)]) (st' := ⟨[(0, .one (.dat (.sl tLI) a0)), (3, aV 0), (4, iV (wadd .i64 s2.1 (1 : Int)))], [(0, .seq (.own tI) (List.set s2.2 (Int.toNat s2.1) y10))], 1⟩) hO (fun h => by cases h) (by kernel_rfl) ⟨rfl, rfl, rfl, trivial⟩⟩)
    · refine HT.cond0 rfl hb8 ?_
      have hx6 := of_some hx6
      subst hx6
      refine (Le.cv (s := ⟨[(0, 0)], [], [], false⟩) (own := []) (ps := [s2.2 = s2.2]) (st' := ⟨[(3, aV 0)], [(0, .seq (.own tI) s2.2)], 1⟩) hO (fun h => by cases h) (by kernel_rfl) ⟨rfl, trivial⟩).ht ?_
      exact HT.exit (qThenE (qLoopE (hk7 s2.2 rfl)))

noncomputable def spec_l02Share (a0 : Nat) : Option (Bool) :=
  (show Option (Bool) from
    bif (fge .f32 a0 (0 : Nat)) then
      some (fle .f32 a0 (1065353216 : Nat))
    else
      some false).bind fun v1 =>
  some v1

theorem f126_ok {a0 : Nat} {r : Bool} (hr : spec_l02Share a0 = some r) : CallOK Try.prog 126 [.imm tF a0] [⟨false, .bool, r⟩] [] := by
  unfold spec_l02Share at hr
  refine CallOK.of_body (ts := [(false, .bool)]) Try.func126 rfl (by kernel_rfl) (Nat.le_of_ble_eq_true (by kernel_rfl)) fun cx hP hN hO hF => ?_
  have hO : cx.own.map Prod.fst = [] := hO
  have hX := CxIs.mk hP hN hO
  have hF := hF rfl
  show HT cx ⟨[(0, fV a0)], [], 0⟩ _ _
  refine HT.rg2 [oH] ⟨[(0, fV a0)], [], 0⟩ hX (by kernel_rfl) allNil ?_
  obtain ⟨v1', hT3, hr⟩ := of_bind hr
  refine HT.join (fun (v1 : Bool) => ⟨[(2, bV v1)], [], 0⟩) (fun v => v = v1') (fun v1 hv2 => ?_) (fun cont => ?_)
  · subst hv2
    have hr := of_some hr
    subst hr
    exact HT.ret ⟨[bV v1], [], [], by kernel_rfl, by kernel_rfl, rfl, by kernel_rfl, by kernel_rfl, trivial⟩
  · rcases of_bif hT3 with ⟨hb4, hT3⟩ | ⟨hb4, hT3⟩
    · refine HT.rgL [oH, oH, oH, ⟨some true, .no⟩, ⟨some true, .no⟩, ⟨none, .tv true⟩, oH] ⟨[(2, bV (fle .f32 a0 (1065353216 : Nat)))], [], 0⟩ hX (by kernel_rfl) (allCons hb4 (allCons hb4 (allCons hb4 allNil))) (qThen ?_)
      exact (Le.cv (s := ⟨[], [], [], false⟩) (own := []) (ps := [(fle .f32 a0 (1065353216 : Nat)) = (fle .f32 a0 (1065353216 : Nat))]) (st' := ⟨[(2, bV (fle .f32 a0 (1065353216 : Nat)))], [], 0⟩) hO (fun h => by cases h) (by kernel_rfl) ⟨rfl, trivial⟩).ht (cont (fle .f32 a0 (1065353216 : Nat)) (of_some hT3))
    · refine HT.rgL [oH, oH, oH, ⟨some false, .no⟩, ⟨some false, .no⟩, ⟨none, .tv false⟩, oH] ⟨[(2, bV false)], [], 0⟩ hX (by kernel_rfl) (allCons hb4 (allCons hb4 (allCons hb4 allNil))) (qThen ?_)
      exact (Le.cv (s := ⟨[], [], [], false⟩) (own := []) (ps := [false = false]) (st' := ⟨[(2, bV false)], [], 0⟩) hO (fun h => by cases h) (by kernel_rfl) ⟨rfl, trivial⟩).ht (cont false (of_some hT3))

noncomputable def spec_l03Row_B1 (a0 : List Nat) (s1 : Nat × Int) : Option ((Nat × Int) ⊕ (Nat ⊕ Unit)) :=
  bif (decide (s1.2 < (lenI a0))) then
    guardP ((0 : Int) ≤ s1.2 ∧ s1.2 < lenI a0) (
      (spec_l02Share (List.getD a0 (Int.toNat s1.2) (0 : Nat))).bind fun y14 =>
      bif (!y14) then
        some (.inr (.inr ()))
      else
        some (.inl ((fop .add .f32 s1.1 (List.getD a0 (Int.toNat s1.2) (0 : Nat))), (wadd .i64 s1.2 (1 : Int)))))
  else
    some (.inr (.inl s1.1))

noncomputable def spec_l03Row (a0 : List Nat) : Option (Bool) :=
  (rounds (spec_l03Row_B1 a0) ((0 : Nat), (0 : Int))).bind fun r2 => match r2 with
    | .inl r3 =>
      (show Option (Bool) from
        bif (fle .f32 (fop .sub .f32 r3 (1065353216 : Nat)) (981668463 : Nat)) then
          some (fge .f32 (fop .sub .f32 r3 (1065353216 : Nat)) (3129152111 : Nat))
        else
          some false).bind fun v4 =>
      some v4
    | .inr r8 =>
      some false

theorem f101_ok {a0 : List Nat} {r : Bool} (hr : spec_l03Row a0 = some r) : CallOK Try.prog 101 [.imm tLF a0] [⟨false, .bool, r⟩] [] := by
  unfold spec_l03Row at hr
  refine CallOK.of_body (ts := [(false, .bool)]) Try.func101 rfl (by kernel_rfl) (Nat.le_of_ble_eq_true (by kernel_rfl)) fun cx hP hN hO hF => ?_
  have hO : cx.own.map Prod.fst = [] := hO
  have hX := CxIs.mk hP hN hO
  have hF := hF rfl
  show HT cx ⟨[(0, lV a0)], [], 0⟩ _ _
  refine HT.rg2 [oH] ⟨[(0, lV a0)], [], 0⟩ hX (by kernel_rfl) allNil ?_
  refine HT.rg2 [oH] ⟨[(0, lV a0), (3, fV (0 : Nat))], [], 0⟩ hX (by kernel_rfl) allNil ?_
  refine HT.seq ?_
  refine HT.rg2 (oHs 3) ⟨[(0, lV a0), (3, fV (0 : Nat)), (6, iV (lenI a0)), (7, iV (0 : Int))], [], 0⟩ hX (by kernel_rfl) allNil ?_
  refine HT.block ?_
  obtain ⟨r2, hL17, hr⟩ := of_bind hr
  refine (Le.cv (s := ⟨[], [], [], false⟩) (own := []) (ps := [a0 = a0, (0 : Nat) = (0 : Nat), (lenI a0) = (lenI a0), (0 : Int) = (0 : Int)]) (st' := ⟨[(0, lV a0), (3, fV (0 : Nat)), (6, iV (lenI a0)), (7, iV (0 : Int))], [], 0⟩) hO (fun h => by cases h) (by kernel_rfl) ⟨rfl, rfl, rfl, rfl, trivial⟩).ht ?_
  refine HT.loopE (s := ((0 : Nat), (0 : Int))) (fun (s1 : Nat × Int) => ⟨[(0, lV a0), (3, fV s1.1), (6, iV (lenI a0)), (7, iV s1.2)], [], 0⟩) (fun (r2 : Nat ⊕ Unit) => match r2 with | .inl r3 => (.exit 0, ⟨[(3, fV r3)], [], 0⟩) | .inr r8 => (.ret, ⟨[(2, bV false)], [], 0⟩)) hL17 ?_ (fun s1 x9 hx10 hk11 => ?_)
  · rcases r2 with r3 | r8
    · refine (qBlockX (qThen ?_))
      obtain ⟨v4', hT6, hr⟩ := of_bind hr
      refine HT.join (fun (v4 : Bool) => ⟨[(2, bV v4)], [], 0⟩) (fun v => v = v4') (fun v4 hv5 => ?_) (fun cont => ?_)
      · subst hv5
        have hr := of_some hr
        subst hr
        exact HT.ret ⟨[bV v4], [], [], by kernel_rfl, by kernel_rfl, rfl, by kernel_rfl, by kernel_rfl, trivial⟩
      · rcases of_bif hT6 with ⟨hb7, hT6⟩ | ⟨hb7, hT6⟩
        · refine HT.rgL [oH, oH, oH, oH, ⟨some true, .no⟩, ⟨some true, .no⟩, ⟨some true, .no⟩, ⟨none, .tv true⟩, oH] ⟨[(2, bV (fge .f32 (fop .sub .f32 r3 (1065353216 : Nat)) (3129152111 : Nat)))], [], 0⟩ hX (by kernel_rfl) (allCons hb7 (allCons hb7 (allCons hb7 (allCons hb7 allNil)))) (qThen ?_)
          exact (Le.cv (s := ⟨[], [], [], false⟩) (own := []) (ps := [(fge .f32 (fop .sub .f32 r3 (1065353216 : Nat)) (3129152111 : Nat)) = (fge .f32 (fop .sub .f32 r3 (1065353216 : Nat)) (3129152111 : Nat))]) (st' := ⟨[(2, bV (fge .f32 (fop .sub .f32 r3 (1065353216 : Nat)) (3129152111 : Nat)))], [], 0⟩) hO (fun h => by cases h) (by kernel_rfl) ⟨rfl, trivial⟩).ht (cont (fge .f32 (fop .sub .f32 r3 (1065353216 : Nat)) (3129152111 : Nat)) (of_some hT6))
        · refine HT.rgL [oH, oH, oH, oH, ⟨some false, .no⟩, ⟨some false, .no⟩, ⟨some false, .no⟩, ⟨none, .tv false⟩, oH] ⟨[(2, bV false)], [], 0⟩ hX (by kernel_rfl) (allCons hb7 (allCons hb7 (allCons hb7 (allCons hb7 allNil)))) (qThen ?_)
          exact (Le.cv (s := ⟨[], [], [], false⟩) (own := []) (ps := [false = false]) (st' := ⟨[(2, bV false)], [], 0⟩) hO (fun h => by cases h) (by kernel_rfl) ⟨rfl, trivial⟩).ht (cont false (of_some hT6))
    · have hr := of_some hr
      subst hr
      exact (qBlockR (qThenR ⟨[bV false], [], [], by kernel_rfl, by kernel_rfl, rfl, by kernel_rfl, by kernel_rfl, trivial⟩))
  · refine HT.rg2 [oH] ⟨[(0, lV a0), (3, fV s1.1), (6, iV (lenI a0)), (7, iV s1.2), (8, bV (decide (s1.2 < (lenI a0))))], [], 0⟩ hX (by kernel_rfl) allNil ?_
    refine HT.seq ?_
    rcases of_bif hx10 with ⟨hb12, hx10⟩ | ⟨hb12, hx10⟩
    · refine HT.cond1 rfl hb12 ?_
      refine HT.skip (qThen ?_)
      refine HT.seq ?_
      refine HT.block ?_
      refine HT.rg2 (oHs 2) ⟨[(0, lV a0), (3, fV s1.1), (4, iV s1.2), (6, iV (lenI a0)), (7, iV s1.2)], [], 0⟩ hX (by kernel_rfl) allNil ?_
      refine HT.seq ?_
      obtain ⟨hg13, hx10⟩ := of_guard hx10
      obtain ⟨y14, hc15, hx10⟩ := of_bind hx10
      refine HT.rg2 [oH, oH, oH, oH, ⟨none, .call [.imm tF] [⟨false, .bool, y14⟩] []⟩, oH] ⟨[(0, lV a0), (3, fV s1.1), (4, iV s1.2), (6, iV (lenI a0)), (7, iV s1.2), (15, bV (!y14))], [], 0⟩ hX (by kernel_rfl) (allCons hg13 (allCons (f126_ok hc15) allNil)) ?_
      rcases of_bif hx10 with ⟨hb16, hx10⟩ | ⟨hb16, hx10⟩
      · refine HT.cond1 rfl hb16 ?_
        refine HT.rg2 [oH] ⟨[(2, bV false)], [], 0⟩ hX (by kernel_rfl) allNil ?_
        have hx10 := of_some hx10
        subst hx10
        refine (Le.cv (s := ⟨[], [], [], false⟩) (own := []) (ps := [false = false]) (st' := ⟨[(2, bV false)], [], 0⟩) hO (fun h => by cases h) (by kernel_rfl) ⟨rfl, trivial⟩).ht ?_
        exact HT.ret (qThenR (qBlockR (qThenR (qLoopR (hk11 (.inr ()) rfl)))))
      · refine HT.cond0 rfl hb16 ?_
        refine HT.skip (qThen ?_)
        refine HT.rgL (oHs 7) ⟨[(0, lV a0), (3, fV (fop .add .f32 s1.1 (List.getD a0 (Int.toNat s1.2) (0 : Nat)))), (6, iV (lenI a0)), (7, iV s1.2)], [], 0⟩ hX (by kernel_rfl) (allCons hg13 allNil) (qBlock (qThen ?_))
        have hx10 := of_some hx10
        subst hx10
        refine HT.rgL (oHs 2) ⟨[(0, lV a0), (3, fV (fop .add .f32 s1.1 (List.getD a0 (Int.toNat s1.2) (0 : Nat)))), (6, iV (lenI a0)), (7, iV (wadd .i64 s1.2 (1 : Int)))], [], 0⟩ hX (by kernel_rfl) allNil (qLoopN ⟨((fop .add .f32 s1.1 (List.getD a0 (Int.toNat s1.2) (0 : Nat))), (wadd .i64 s1.2 (1 : Int))), rfl, Le.cv (s := ⟨[], [], [], false⟩) (own := []) (ps := [a0 = a0, (fop .add .f32 s1.1 (List.getD a0 (Int.toNat s1.2) (0 : Nat))) = (fop .add .f32 s1.1 (List.getD a0 (Int.toNat s1.2) (0 : Nat))), (lenI a0) = (lenI a0), (wadd .i64 s1.2 (1 : Int)) = (wadd .i64 s1.2 (1 : Int))]) (st' := ⟨[(0, lV a0), (3, fV (fop .add .f32 s1.1 (List.getD a0 (Int.toNat s1.2) (0 : Nat)))), (6, iV (lenI a0)), (7, iV (wadd .i64 s1.2 (1 : Int)))], [], 0⟩) hO (fun h => by cases h) (by kernel_rfl) ⟨rfl, rfl, rfl, rfl, trivial⟩⟩)
    · refine HT.cond0 rfl hb12 ?_
      have hx10 := of_some hx10
      subst hx10
      refine (Le.cv (s := ⟨[], [], [], false⟩) (own := []) (ps := [s1.1 = s1.1]) (st' := ⟨[(3, fV s1.1)], [], 0⟩) hO (fun h => by cases h) (by kernel_rfl) ⟨rfl, trivial⟩).ht ?_
      exact HT.exit (qThenE (qLoopE (hk11 (.inl s1.1) rfl)))

noncomputable def spec_l00In (a0 : Int) (a1 : Int) (a2 : Int) : Option (Bool) :=
  (show Option (Bool) from
    bif (decide (a0 ≥ a1)) then
      some (decide (a0 ≤ a2))
    else
      some false).bind fun v1 =>
  some v1

theorem f52_ok {a0 : Int} {a1 : Int} {a2 : Int} {r : Bool} (hr : spec_l00In a0 a1 a2 = some r) : CallOK Try.prog 52 [.imm tI a0, .imm tI a1, .imm tI a2] [⟨false, .bool, r⟩] [] := by
  unfold spec_l00In at hr
  refine CallOK.of_body (ts := [(false, .bool)]) Try.func52 rfl (by kernel_rfl) (Nat.le_of_ble_eq_true (by kernel_rfl)) fun cx hP hN hO hF => ?_
  have hO : cx.own.map Prod.fst = [] := hO
  have hX := CxIs.mk hP hN hO
  have hF := hF rfl
  show HT cx ⟨[(0, iV a0), (1, iV a1), (2, iV a2)], [], 0⟩ _ _
  refine HT.rg2 [oH] ⟨[(0, iV a0), (1, iV a1), (2, iV a2)], [], 0⟩ hX (by kernel_rfl) allNil ?_
  obtain ⟨v1', hT3, hr⟩ := of_bind hr
  refine HT.join (fun (v1 : Bool) => ⟨[(6, bV v1)], [], 0⟩) (fun v => v = v1') (fun v1 hv2 => ?_) (fun cont => ?_)
  · subst hv2
    have hr := of_some hr
    subst hr
    exact HT.ret ⟨[bV v1], [], [], by kernel_rfl, by kernel_rfl, rfl, by kernel_rfl, by kernel_rfl, trivial⟩
  · rcases of_bif hT3 with ⟨hb4, hT3⟩ | ⟨hb4, hT3⟩
    · refine HT.rgL [oH, oH, oH, oH, ⟨some true, .no⟩, ⟨some true, .no⟩, ⟨some true, .no⟩, ⟨none, .tv true⟩, oH] ⟨[(6, bV (decide (a0 ≤ a2)))], [], 0⟩ hX (by kernel_rfl) (allCons hb4 (allCons hb4 (allCons hb4 (allCons hb4 allNil)))) (qThen ?_)
      exact (Le.cv (s := ⟨[], [], [], false⟩) (own := []) (ps := [(decide (a0 ≤ a2)) = (decide (a0 ≤ a2))]) (st' := ⟨[(6, bV (decide (a0 ≤ a2)))], [], 0⟩) hO (fun h => by cases h) (by kernel_rfl) ⟨rfl, trivial⟩).ht (cont (decide (a0 ≤ a2)) (of_some hT3))
    · refine HT.rgL [oH, oH, oH, oH, ⟨some false, .no⟩, ⟨some false, .no⟩, ⟨some false, .no⟩, ⟨none, .tv false⟩, oH] ⟨[(6, bV false)], [], 0⟩ hX (by kernel_rfl) (allCons hb4 (allCons hb4 (allCons hb4 (allCons hb4 allNil)))) (qThen ?_)
      exact (Le.cv (s := ⟨[], [], [], false⟩) (own := []) (ps := [false = false]) (st' := ⟨[(6, bV false)], [], 0⟩) hO (fun h => by cases h) (by kernel_rfl) ⟨rfl, trivial⟩).ht (cont false (of_some hT3))

noncomputable def spec_l03Is_B1 (a0 : Int × Int × List Nat × List Nat × List Nat) (s5 : Int) : Option ((Int) ⊕ (Unit ⊕ Unit)) :=
  bif (decide (s5 < a0.1)) then
    (show Option (Bool) from
      guardP ((0 : Int) ≤ (wmul .i64 s5 a0.1) ∧ (wmul .i64 s5 a0.1) ≤ (wadd .i64 (wmul .i64 s5 a0.1) a0.1) ∧ (wadd .i64 (wmul .i64 s5 a0.1) a0.1) ≤ lenI a0.2.2.2.1) (
        (spec_l03Row (cut a0.2.2.2.1 (wmul .i64 s5 a0.1) (wadd .i64 (wmul .i64 s5 a0.1) a0.1))).bind fun y18 =>
        bif (!y18) then
          some true
        else
          guardP ((0 : Int) ≤ (wmul .i64 s5 a0.2.1) ∧ (wmul .i64 s5 a0.2.1) ≤ (wadd .i64 (wmul .i64 s5 a0.2.1) a0.2.1) ∧ (wadd .i64 (wmul .i64 s5 a0.2.1) a0.2.1) ≤ lenI a0.2.2.2.2) (
            (spec_l03Row (cut a0.2.2.2.2 (wmul .i64 s5 a0.2.1) (wadd .i64 (wmul .i64 s5 a0.2.1) a0.2.1))).bind fun y22 =>
            some (!y22)))).bind fun v13 =>
    bif v13 then
      some (.inr (.inr ()))
    else
      some (.inl (wadd .i64 s5 (1 : Int)))
  else
    some (.inr (.inl ()))

noncomputable def spec_l03Is (a0 : Int × Int × List Nat × List Nat × List Nat) : Option (Bool) :=
  (show Option (Bool) from
    (spec_l00In a0.1 (1 : Int) (5 : Int)).bind fun y25 =>
    bif (!y25) then
      some true
    else
      (spec_l00In a0.2.1 (1 : Int) (4 : Int)).bind fun y28 =>
      bif (!y28) then
        some true
      else
        bif ((lenI a0.2.2.1) != a0.1) then
          some true
        else
          bif ((lenI a0.2.2.2.1) != (wmul .i64 a0.1 a0.1)) then
            some true
          else
            bif ((lenI a0.2.2.2.2) != (wmul .i64 a0.1 a0.2.1)) then
              some true
            else
              (spec_l03Row a0.2.2.1).bind fun y34 =>
              some (!y34)).bind fun v1 =>
  bif v1 then
    some false
  else
    (rounds (spec_l03Is_B1 a0) (0 : Int)).bind fun r6 => match r6 with
      | .inl r7 =>
        some true
      | .inr r8 =>
        some false

theorem f76_ok {a0 : Int × Int × List Nat × List Nat × List Nat} {r : Bool} (hr : spec_l03Is a0 = some r) : CallOK Try.prog 76 [.pimm (.st (.pair tI (.pair tI (.pair tLF (.pair tLF tLF))))) a0] [⟨false, .bool, r⟩] [] := by
  unfold spec_l03Is at hr
  refine CallOK.of_body (ts := [(false, .bool)]) Try.func76 rfl (by kernel_rfl) (Nat.le_of_ble_eq_true (by kernel_rfl)) fun cx hP hN hO hF => ?_
  have hO : cx.own.map Prod.fst = [] := hO
  have hX := CxIs.mk hP hN hO
  have hF := hF rfl
  show HT cx ⟨[(0, .one (.ip (.st (.pair tI (.pair tI (.pair tLF (.pair tLF tLF))))) a0 0))], [], 0⟩ _ _
  refine HT.rg2 [oH] ⟨[(0, .one (.ip (.st (.pair tI (.pair tI (.pair tLF (.pair tLF tLF))))) a0 0))], [], 0⟩ hX (by kernel_rfl) allNil ?_
  refine HT.rg2 (oHs 5) ⟨[(0, .one (.ip (.st (.pair tI (.pair tI (.pair tLF (.pair tLF tLF))))) a0 0)), (3, iV a0.1)], [], 0⟩ hX (by kernel_rfl) allNil ?_
  refine HT.rg2 (oHs 5) ⟨[(0, .one (.ip (.st (.pair tI (.pair tI (.pair tLF (.pair tLF tLF))))) a0 0)), (3, iV a0.1), (4, iV a0.2.1)], [], 0⟩ hX (by kernel_rfl) allNil ?_
  refine HT.seq ?_
  obtain ⟨v1', hT3, hr⟩ := of_bind hr
  refine HT.join (fun (v1 : Bool) => ⟨[(0, .one (.ip (.st (.pair tI (.pair tI (.pair tLF (.pair tLF tLF))))) a0 0)), (3, iV a0.1), (4, iV a0.2.1), (60, bV v1)], [], 0⟩) (fun v => v = v1') (fun v1 hv2 => ?_) (fun cont => ?_)
  · subst hv2
    rcases of_bif hr with ⟨hb4, hr⟩ | ⟨hb4, hr⟩
    · refine HT.cond1 rfl hb4 ?_
      refine HT.rg2 [oH] ⟨[(2, bV false)], [], 0⟩ hX (by kernel_rfl) allNil ?_
      have hr := of_some hr
      subst hr
      exact HT.ret (qThenR ⟨[bV false], [], [], by kernel_rfl, by kernel_rfl, rfl, by kernel_rfl, by kernel_rfl, trivial⟩)
    · refine HT.cond0 rfl hb4 ?_
      refine HT.skip (qThen ?_)
      refine HT.seq ?_
      refine HT.rg2 [oH] ⟨[(0, .one (.ip (.st (.pair tI (.pair tI (.pair tLF (.pair tLF tLF))))) a0 0)), (3, iV a0.1), (4, iV a0.2.1), (5, iV (0 : Int))], [], 0⟩ hX (by kernel_rfl) allNil ?_
      refine HT.block ?_
      obtain ⟨r6, hL24, hr⟩ := of_bind hr
      refine (Le.cv (s := ⟨[], [], [], false⟩) (own := []) (ps := [a0 = a0, a0.1 = a0.1, a0.2.1 = a0.2.1, (0 : Int) = (0 : Int)]) (st' := ⟨[(0, .one (.ip (.st (.pair tI (.pair tI (.pair tLF (.pair tLF tLF))))) a0 0)), (3, iV a0.1), (4, iV a0.2.1), (5, iV (0 : Int))], [], 0⟩) hO (fun h => by cases h) (by kernel_rfl) ⟨rfl, rfl, rfl, rfl, trivial⟩).ht ?_
      refine HT.loopE (s := (0 : Int)) (fun (s5 : Int) => ⟨[(0, .one (.ip (.st (.pair tI (.pair tI (.pair tLF (.pair tLF tLF))))) a0 0)), (3, iV a0.1), (4, iV a0.2.1), (5, iV s5)], [], 0⟩) (fun (r6 : Unit ⊕ Unit) => match r6 with | .inl r7 => (.exit 0, ⟨[], [], 0⟩) | .inr r8 => (.ret, ⟨[(2, bV false)], [], 0⟩)) hL24 ?_ (fun s5 x9 hx10 hk11 => ?_)
      · rcases r6 with r7 | r8
        · refine (qBlockX (qThen ?_))
          refine HT.rg2 [oH] ⟨[(2, bV true)], [], 0⟩ hX (by kernel_rfl) allNil ?_
          have hr := of_some hr
          subst hr
          exact HT.ret ⟨[bV true], [], [], by kernel_rfl, by kernel_rfl, rfl, by kernel_rfl, by kernel_rfl, trivial⟩
        · have hr := of_some hr
          subst hr
          exact (qBlockR (qThenR ⟨[bV false], [], [], by kernel_rfl, by kernel_rfl, rfl, by kernel_rfl, by kernel_rfl, trivial⟩))
      · refine HT.seq ?_
        refine HT.rg2 (oHs 3) ⟨[(0, .one (.ip (.st (.pair tI (.pair tI (.pair tLF (.pair tLF tLF))))) a0 0)), (3, iV a0.1), (4, iV a0.2.1), (5, iV s5), (63, bV (decide (s5 < a0.1)))], [], 0⟩ hX (by kernel_rfl) allNil ?_
        rcases of_bif hx10 with ⟨hb12, hx10⟩ | ⟨hb12, hx10⟩
        · refine HT.cond1 rfl hb12 ?_
          refine HT.skip (qThen ?_)
          refine HT.seq ?_
          refine HT.block ?_
          obtain ⟨v13', hT15, hx10⟩ := of_bind hx10
          refine HT.join (fun (v13 : Bool) => ⟨[(0, .one (.ip (.st (.pair tI (.pair tI (.pair tLF (.pair tLF tLF))))) a0 0)), (3, iV a0.1), (4, iV a0.2.1), (5, iV s5), (97, bV v13)], [], 0⟩) (fun v => v = v13') (fun v13 hv14 => ?_) (fun cont => ?_)
          · subst hv14
            rcases of_bif hx10 with ⟨hb16, hx10⟩ | ⟨hb16, hx10⟩
            · refine HT.cond1 rfl hb16 ?_
              refine HT.rg2 [oH] ⟨[(2, bV false)], [], 0⟩ hX (by kernel_rfl) allNil ?_
              have hx10 := of_some hx10
              subst hx10
              refine (Le.cv (s := ⟨[], [], [], false⟩) (own := []) (ps := [false = false]) (st' := ⟨[(2, bV false)], [], 0⟩) hO (fun h => by cases h) (by kernel_rfl) ⟨rfl, trivial⟩).ht ?_
              exact HT.ret (qBlockR (qThenR (qLoopR (hk11 (.inr ()) rfl))))
            · refine HT.cond0 rfl hb16 ?_
              refine HT.skip (qBlock (qThen ?_))
              have hx10 := of_some hx10
              subst hx10
              refine HT.rgL (oHs 3) ⟨[(0, .one (.ip (.st (.pair tI (.pair tI (.pair tLF (.pair tLF tLF))))) a0 0)), (3, iV a0.1), (4, iV a0.2.1), (5, iV (wadd .i64 s5 (1 : Int)))], [], 0⟩ hX (by kernel_rfl) allNil (qLoopN ⟨(wadd .i64 s5 (1 : Int)), rfl, Le.cv (s := ⟨[], [], [], false⟩) (own := []) (ps := [a0 = a0, a0.1 = a0.1, a0.2.1 = a0.2.1, (wadd .i64 s5 (1 : Int)) = (wadd .i64 s5 (1 : Int))]) (st' := ⟨[(0, .one (.ip (.st (.pair tI (.pair tI (.pair tLF (.pair tLF tLF))))) a0 0)), (3, iV a0.1), (4, iV a0.2.1), (5, iV (wadd .i64 s5 (1 : Int)))], [], 0⟩) hO (fun h => by cases h) (by kernel_rfl) ⟨rfl, rfl, rfl, rfl, trivial⟩⟩)
          · obtain ⟨hg17, hT15⟩ := of_guard hT15
            obtain ⟨y18, hc19, hT15⟩ := of_bind hT15
            rcases of_bif hT15 with ⟨hb20, hT15⟩ | ⟨hb20, hT15⟩
            · refine HT.rgL [oH, oH, oH, oH, oH, oH, oH, oH, oH, oH, oH, oH, oH, ⟨none, .call [.imm tLF] [⟨false, .bool, y18⟩] []⟩, oH, oH, ⟨some true, .no⟩, ⟨some true, .no⟩, ⟨some true, .no⟩, ⟨some true, .no⟩, ⟨some true, .no⟩, ⟨some true, .no⟩, ⟨some true, .no⟩, ⟨some true, .no⟩, ⟨some true, .no⟩, ⟨some true, .no⟩, ⟨some true, .no⟩, ⟨some true, .no⟩, ⟨some true, .no⟩, ⟨some true, .no⟩, ⟨some true, .no⟩, ⟨none, .tv true⟩] ⟨[(0, .one (.ip (.st (.pair tI (.pair tI (.pair tLF (.pair tLF tLF))))) a0 0)), (3, iV a0.1), (4, iV a0.2.1), (5, iV s5), (97, bV true)], [], 0⟩ hX (by kernel_rfl) (allCons hg17 (allCons (f101_ok hc19) (allCons hb20 (allCons hb20 (allCons hb20 (allCons hb20 (allCons hb20 (allCons hb20 (allCons hb20 (allCons hb20 (allCons hb20 (allCons hb20 (allCons hb20 (allCons hb20 (allCons hb20 (allCons hb20 (allCons hb20 (allCons hb20 allNil)))))))))))))))))) (qThen ?_)
              exact (Le.cv (s := ⟨[], [], [], false⟩) (own := []) (ps := [a0 = a0, a0.1 = a0.1, a0.2.1 = a0.2.1, s5 = s5, true = true]) (st' := ⟨[(0, .one (.ip (.st (.pair tI (.pair tI (.pair tLF (.pair tLF tLF))))) a0 0)), (3, iV a0.1), (4, iV a0.2.1), (5, iV s5), (97, bV true)], [], 0⟩) hO (fun h => by cases h) (by kernel_rfl) ⟨rfl, rfl, rfl, rfl, rfl, trivial⟩).ht (cont true (of_some hT15))
            · obtain ⟨hg21, hT15⟩ := of_guard hT15
              obtain ⟨y22, hc23, hT15⟩ := of_bind hT15
              refine HT.rgL [oH, oH, oH, oH, oH, oH, oH, oH, oH, oH, oH, oH, oH, ⟨none, .call [.imm tLF] [⟨false, .bool, y18⟩] []⟩, oH, oH, ⟨some false, .no⟩, ⟨some false, .no⟩, ⟨some false, .no⟩, ⟨some false, .no⟩, ⟨some false, .no⟩, ⟨some false, .no⟩, ⟨some false, .no⟩, ⟨some false, .no⟩, ⟨some false, .no⟩, ⟨some false, .no⟩, ⟨some false, .no⟩, ⟨some false, .no⟩, ⟨some false, .no⟩, ⟨some false, .call [.imm tLF] [⟨false, .bool, y22⟩] []⟩, ⟨some false, .no⟩, ⟨none, .tv false⟩] ⟨[(0, .one (.ip (.st (.pair tI (.pair tI (.pair tLF (.pair tLF tLF))))) a0 0)), (3, iV a0.1), (4, iV a0.2.1), (5, iV s5), (97, bV (!y22))], [], 0⟩ hX (by kernel_rfl) (allCons hg17 (allCons (f101_ok hc19) (allCons hb20 (allCons hb20 (allCons hb20 (allCons hb20 (allCons hb20 (allCons hb20 (allCons hb20 (allCons hb20 (allCons hb20 (allCons hb20 (allCons hb20 (allCons hb20 (allCons hb20 (allCons hg21 (allCons hb20 (allCons (f101_ok hc23) (allCons hb20 (allCons hb20 allNil)))))))))))))))))))) (qThen ?_)
              exact (Le.cv (s := ⟨[], [], [], false⟩) (own := []) (ps := [a0 = a0, a0.1 = a0.1, a0.2.1 = a0.2.1, s5 = s5, (!y22) = (!y22)]) (st' := ⟨[(0, .one (.ip (.st (.pair tI (.pair tI (.pair tLF (.pair tLF tLF))))) a0 0)), (3, iV a0.1), (4, iV a0.2.1), (5, iV s5), (97, bV (!y22))], [], 0⟩) hO (fun h => by cases h) (by kernel_rfl) ⟨rfl, rfl, rfl, rfl, rfl, trivial⟩).ht (cont (!y22) (of_some hT15))
        · refine HT.cond0 rfl hb12 ?_
          have hx10 := of_some hx10
          subst hx10
          refine (Le.cv (s := ⟨[], [], [], false⟩) (own := []) (ps := []) (st' := ⟨[], [], 0⟩) hO (fun h => by cases h) (by kernel_rfl) trivial).ht ?_
          exact HT.exit (qThenE (qLoopE (hk11 (.inl ()) rfl)))
  · obtain ⟨y25, hc26, hT3⟩ := of_bind hT3
    rcases of_bif hT3 with ⟨hb27, hT3⟩ | ⟨hb27, hT3⟩
    · refine HT.rgL [oH, ⟨none, .call [.imm tI, .imm tI, .imm tI] [⟨false, .bool, y25⟩] []⟩, oH, oH, ⟨some true, .no⟩, ⟨some true, .no⟩, ⟨some true, .no⟩, ⟨none, .tv true⟩, oH, ⟨some true, .no⟩, ⟨some true, .no⟩, ⟨some true, .no⟩, ⟨some true, .no⟩, ⟨some true, .no⟩, ⟨some true, .no⟩, ⟨some true, .no⟩, ⟨none, .tv true⟩, oH, ⟨some true, .no⟩, ⟨some true, .no⟩, ⟨some true, .no⟩, ⟨some true, .no⟩, ⟨some true, .no⟩, ⟨some true, .no⟩, ⟨some true, .no⟩, ⟨some true, .no⟩, ⟨some true, .no⟩, ⟨none, .tv true⟩, oH, ⟨some true, .no⟩, ⟨some true, .no⟩, ⟨some true, .no⟩, ⟨some true, .no⟩, ⟨some true, .no⟩, ⟨some true, .no⟩, ⟨some true, .no⟩, ⟨some true, .no⟩, ⟨some true, .no⟩, ⟨none, .tv true⟩, oH, ⟨some true, .no⟩, ⟨some true, .no⟩, ⟨some true, .no⟩, ⟨some true, .no⟩, ⟨some true, .no⟩, ⟨some true, .no⟩, ⟨none, .tv true⟩] ⟨[(0, .one (.ip (.st (.pair tI (.pair tI (.pair tLF (.pair tLF tLF))))) a0 0)), (3, iV a0.1), (4, iV a0.2.1), (60, bV true)], [], 0⟩ hX (by kernel_rfl) (allCons (f52_ok hc26) (allCons hb27 (allCons hb27 (allCons hb27 (allCons hb27 (allCons (rfl : true = true) (allCons (rfl : true = true) (allCons (rfl : true = true) (allCons (rfl : true = true) (allCons (rfl : true = true) (allCons (rfl : true = true) (allCons (rfl : true = true) (allCons (rfl : true = true) (allCons (rfl : true = true) (allCons (rfl : true = true) (allCons (rfl : true = true) (allCons (rfl : true = true) (allCons (rfl : true = true) (allCons (rfl : true = true) (allCons (rfl : true = true) (allCons (rfl : true = true) (allCons (rfl : true = true) (allCons (rfl : true = true) (allCons (rfl : true = true) (allCons (rfl : true = true) (allCons (rfl : true = true) (allCons (rfl : true = true) (allCons (rfl : true = true) (allCons (rfl : true = true) (allCons (rfl : true = true) (allCons (rfl : true = true) (allCons (rfl : true = true) (allCons (rfl : true = true) (allCons (rfl : true = true) (allCons (rfl : true = true) (allCons (rfl : true = true) (allCons (rfl : true = true) (allCons (rfl : true = true) (allCons (rfl : true = true) (allCons (rfl : true = true) allNil)))))))))))))))))))))))))))))))))))))))) (qThen ?_)
      exact (Le.cv (s := ⟨[], [], [], false⟩) (own := []) (ps := [a0 = a0, a0.1 = a0.1, a0.2.1 = a0.2.1, true = true]) (st' := ⟨[(0, .one (.ip (.st (.pair tI (.pair tI (.pair tLF (.pair tLF tLF))))) a0 0)), (3, iV a0.1), (4, iV a0.2.1), (60, bV true)], [], 0⟩) hO (fun h => by cases h) (by kernel_rfl) ⟨rfl, rfl, rfl, rfl, trivial⟩).ht (cont true (of_some hT3))
    · obtain ⟨y28, hc29, hT3⟩ := of_bind hT3
      rcases of_bif hT3 with ⟨hb30, hT3⟩ | ⟨hb30, hT3⟩
      · refine HT.rgL [oH, ⟨none, .call [.imm tI, .imm tI, .imm tI] [⟨false, .bool, y25⟩] []⟩, oH, oH, ⟨some false, .no⟩, ⟨some false, .call [.imm tI, .imm tI, .imm tI] [⟨false, .bool, y28⟩] []⟩, ⟨some false, .no⟩, ⟨none, .tv false⟩, oH, ⟨some true, .no⟩, ⟨some true, .no⟩, ⟨some true, .no⟩, ⟨some true, .no⟩, ⟨some true, .no⟩, ⟨some true, .no⟩, ⟨some true, .no⟩, ⟨none, .tv true⟩, oH, ⟨some true, .no⟩, ⟨some true, .no⟩, ⟨some true, .no⟩, ⟨some true, .no⟩, ⟨some true, .no⟩, ⟨some true, .no⟩, ⟨some true, .no⟩, ⟨some true, .no⟩, ⟨some true, .no⟩, ⟨none, .tv true⟩, oH, ⟨some true, .no⟩, ⟨some true, .no⟩, ⟨some true, .no⟩, ⟨some true, .no⟩, ⟨some true, .no⟩, ⟨some true, .no⟩, ⟨some true, .no⟩, ⟨some true, .no⟩, ⟨some true, .no⟩, ⟨none, .tv true⟩, oH, ⟨some true, .no⟩, ⟨some true, .no⟩, ⟨some true, .no⟩, ⟨some true, .no⟩, ⟨some true, .no⟩, ⟨some true, .no⟩, ⟨none, .tv true⟩] ⟨[(0, .one (.ip (.st (.pair tI (.pair tI (.pair tLF (.pair tLF tLF))))) a0 0)), (3, iV a0.1), (4, iV a0.2.1), (60, bV true)], [], 0⟩ hX (by kernel_rfl) (allCons (f52_ok hc26) (allCons hb27 (allCons hb27 (allCons (f52_ok hc29) (allCons hb27 (allCons hb27 (allCons hb30 (allCons hb30 (allCons hb30 (allCons hb30 (allCons hb30 (allCons hb30 (allCons hb30 (allCons hb30 (allCons (rfl : true = true) (allCons (rfl : true = true) (allCons (rfl : true = true) (allCons (rfl : true = true) (allCons (rfl : true = true) (allCons (rfl : true = true) (allCons (rfl : true = true) (allCons (rfl : true = true) (allCons (rfl : true = true) (allCons (rfl : true = true) (allCons (rfl : true = true) (allCons (rfl : true = true) (allCons (rfl : true = true) (allCons (rfl : true = true) (allCons (rfl : true = true) (allCons (rfl : true = true) (allCons (rfl : true = true) (allCons (rfl : true = true) (allCons (rfl : true = true) (allCons (rfl : true = true) (allCons (rfl : true = true) (allCons (rfl : true = true) (allCons (rfl : true = true) (allCons (rfl : true = true) (allCons (rfl : true = true) (allCons (rfl : true = true) (allCons (rfl : true = true) allNil))))))))))))))))))))))))))))))))))))))))) (qThen ?_)
        exact (Le.cv (s := ⟨[], [], [], false⟩) (own := []) (ps := [a0 = a0, a0.1 = a0.1, a0.2.1 = a0.2.1, true = true]) (st' := ⟨[(0, .one (.ip (.st (.pair tI (.pair tI (.pair tLF (.pair tLF tLF))))) a0 0)), (3, iV a0.1), (4, iV a0.2.1), (60, bV true)], [], 0⟩) hO (fun h => by cases h) (by kernel_rfl) ⟨rfl, rfl, rfl, rfl, trivial⟩).ht (cont true (of_some hT3))
      · rcases of_bif hT3 with ⟨hb31, hT3⟩ | ⟨hb31, hT3⟩
        · refine HT.rgL [oH, ⟨none, .call [.imm tI, .imm tI, .imm tI] [⟨false, .bool, y25⟩] []⟩, oH, oH, ⟨some false, .no⟩, ⟨some false, .call [.imm tI, .imm tI, .imm tI] [⟨false, .bool, y28⟩] []⟩, ⟨some false, .no⟩, ⟨none, .tv false⟩, oH, ⟨some false, .no⟩, ⟨some false, .no⟩, ⟨some false, .no⟩, ⟨some false, .no⟩, ⟨some false, .no⟩, ⟨some false, .no⟩, ⟨some false, .no⟩, ⟨none, .tv false⟩, oH, ⟨some true, .no⟩, ⟨some true, .no⟩, ⟨some true, .no⟩, ⟨some true, .no⟩, ⟨some true, .no⟩, ⟨some true, .no⟩, ⟨some true, .no⟩, ⟨some true, .no⟩, ⟨some true, .no⟩, ⟨none, .tv true⟩, oH, ⟨some true, .no⟩, ⟨some true, .no⟩, ⟨some true, .no⟩, ⟨some true, .no⟩, ⟨some true, .no⟩, ⟨some true, .no⟩, ⟨some true, .no⟩, ⟨some true, .no⟩, ⟨some true, .no⟩, ⟨none, .tv true⟩, oH, ⟨some true, .no⟩, ⟨some true, .no⟩, ⟨some true, .no⟩, ⟨some true, .no⟩, ⟨some true, .no⟩, ⟨some true, .no⟩, ⟨none, .tv true⟩] ⟨[(0, .one (.ip (.st (.pair tI (.pair tI (.pair tLF (.pair tLF tLF))))) a0 0)), (3, iV a0.1), (4, iV a0.2.1), (60, bV true)], [], 0⟩ hX (by kernel_rfl) (allCons (f52_ok hc26) (allCons hb27 (allCons hb27 (allCons (f52_ok hc29) (allCons hb27 (allCons hb27 (allCons hb30 (allCons hb30 (allCons hb30 (allCons hb30 (allCons hb30 (allCons hb30 (allCons hb30 (allCons hb30 (allCons hb31 (allCons hb31 (allCons hb31 (allCons hb31 (allCons hb31 (allCons hb31 (allCons hb31 (allCons hb31 (allCons hb31 (allCons hb31 (allCons (rfl : true = true) (allCons (rfl : true = true) (allCons (rfl : true = true) (allCons (rfl : true = true) (allCons (rfl : true = true) (allCons (rfl : true = true) (allCons (rfl : true = true) (allCons (rfl : true = true) (allCons (rfl : true = true) (allCons (rfl : true = true) (allCons (rfl : true = true) (allCons (rfl : true = true) (allCons (rfl : true = true) (allCons (rfl : true = true) (allCons (rfl : true = true) (allCons (rfl : true = true) (allCons (rfl : true = true) allNil))))))))))))))))))))))))))))))))))))))))) (qThen ?_)
          exact (Le.cv (s := ⟨[], [], [], false⟩) (own := []) (ps := [a0 = a0, a0.1 = a0.1, a0.2.1 = a0.2.1, true = true]) (st' := ⟨[(0, .one (.ip (.st (.pair tI (.pair tI (.pair tLF (.pair tLF tLF))))) a0 0)), (3, iV a0.1), (4, iV a0.2.1), (60, bV true)], [], 0⟩) hO (fun h => by cases h) (by kernel_rfl) ⟨rfl, rfl, rfl, rfl, trivial⟩).ht (cont true (of_some hT3))
        · rcases of_bif hT3 with ⟨hb32, hT3⟩ | ⟨hb32, hT3⟩
          · refine HT.rgL [oH, ⟨none, .call [.imm tI, .imm tI, .imm tI] [⟨false, .bool, y25⟩] []⟩, oH, oH, ⟨some false, .no⟩, ⟨some false, .call [.imm tI, .imm tI, .imm tI] [⟨false, .bool, y28⟩] []⟩, ⟨some false, .no⟩, ⟨none, .tv false⟩, oH, ⟨some false, .no⟩, ⟨some false, .no⟩, ⟨some false, .no⟩, ⟨some false, .no⟩, ⟨some false, .no⟩, ⟨some false, .no⟩, ⟨some false, .no⟩, ⟨none, .tv false⟩, oH, ⟨some false, .no⟩, ⟨some false, .no⟩, ⟨some false, .no⟩, ⟨some false, .no⟩, ⟨some false, .no⟩, ⟨some false, .no⟩, ⟨some false, .no⟩, ⟨some false, .no⟩, ⟨some false, .no⟩, ⟨none, .tv false⟩, oH, ⟨some true, .no⟩, ⟨some true, .no⟩, ⟨some true, .no⟩, ⟨some true, .no⟩, ⟨some true, .no⟩, ⟨some true, .no⟩, ⟨some true, .no⟩, ⟨some true, .no⟩, ⟨some true, .no⟩, ⟨none, .tv true⟩, oH, ⟨some true, .no⟩, ⟨some true, .no⟩, ⟨some true, .no⟩, ⟨some true, .no⟩, ⟨some true, .no⟩, ⟨some true, .no⟩, ⟨none, .tv true⟩] ⟨[(0, .one (.ip (.st (.pair tI (.pair tI (.pair tLF (.pair tLF tLF))))) a0 0)), (3, iV a0.1), (4, iV a0.2.1), (60, bV true)], [], 0⟩ hX (by kernel_rfl) (allCons (f52_ok hc26) (allCons hb27 (allCons hb27 (allCons (f52_ok hc29) (allCons hb27 (allCons hb27 (allCons hb30 (allCons hb30 (allCons hb30 (allCons hb30 (allCons hb30 (allCons hb30 (allCons hb30 (allCons hb30 (allCons hb31 (allCons hb31 (allCons hb31 (allCons hb31 (allCons hb31 (allCons hb31 (allCons hb31 (allCons hb31 (allCons hb31 (allCons hb31 (allCons hb32 (allCons hb32 (allCons hb32 (allCons hb32 (allCons hb32 (allCons hb32 (allCons hb32 (allCons hb32 (allCons hb32 (allCons hb32 (allCons (rfl : true = true) (allCons (rfl : true = true) (allCons (rfl : true = true) (allCons (rfl : true = true) (allCons (rfl : true = true) (allCons (rfl : true = true) (allCons (rfl : true = true) allNil))))))))))))))))))))))))))))))))))))))))) (qThen ?_)
            exact (Le.cv (s := ⟨[], [], [], false⟩) (own := []) (ps := [a0 = a0, a0.1 = a0.1, a0.2.1 = a0.2.1, true = true]) (st' := ⟨[(0, .one (.ip (.st (.pair tI (.pair tI (.pair tLF (.pair tLF tLF))))) a0 0)), (3, iV a0.1), (4, iV a0.2.1), (60, bV true)], [], 0⟩) hO (fun h => by cases h) (by kernel_rfl) ⟨rfl, rfl, rfl, rfl, trivial⟩).ht (cont true (of_some hT3))
          · rcases of_bif hT3 with ⟨hb33, hT3⟩ | ⟨hb33, hT3⟩
            · refine HT.rgL [oH, ⟨none, .call [.imm tI, .imm tI, .imm tI] [⟨false, .bool, y25⟩] []⟩, oH, oH, ⟨some false, .no⟩, ⟨some false, .call [.imm tI, .imm tI, .imm tI] [⟨false, .bool, y28⟩] []⟩, ⟨some false, .no⟩, ⟨none, .tv false⟩, oH, ⟨some false, .no⟩, ⟨some false, .no⟩, ⟨some false, .no⟩, ⟨some false, .no⟩, ⟨some false, .no⟩, ⟨some false, .no⟩, ⟨some false, .no⟩, ⟨none, .tv false⟩, oH, ⟨some false, .no⟩, ⟨some false, .no⟩, ⟨some false, .no⟩, ⟨some false, .no⟩, ⟨some false, .no⟩, ⟨some false, .no⟩, ⟨some false, .no⟩, ⟨some false, .no⟩, ⟨some false, .no⟩, ⟨none, .tv false⟩, oH, ⟨some false, .no⟩, ⟨some false, .no⟩, ⟨some false, .no⟩, ⟨some false, .no⟩, ⟨some false, .no⟩, ⟨some false, .no⟩, ⟨some false, .no⟩, ⟨some false, .no⟩, ⟨some false, .no⟩, ⟨none, .tv false⟩, oH, ⟨some true, .no⟩, ⟨some true, .no⟩, ⟨some true, .no⟩, ⟨some true, .no⟩, ⟨some true, .no⟩, ⟨some true, .no⟩, ⟨none, .tv true⟩] ⟨[(0, .one (.ip (.st (.pair tI (.pair tI (.pair tLF (.pair tLF tLF))))) a0 0)), (3, iV a0.1), (4, iV a0.2.1), (60, bV true)], [], 0⟩ hX (by kernel_rfl) (allCons (f52_ok hc26) (allCons hb27 (allCons hb27 (allCons (f52_ok hc29) (allCons hb27 (allCons hb27 (allCons hb30 (allCons hb30 (allCons hb30 (allCons hb30 (allCons hb30 (allCons hb30 (allCons hb30 (allCons hb30 (allCons hb31 (allCons hb31 (allCons hb31 (allCons hb31 (allCons hb31 (allCons hb31 (allCons hb31 (allCons hb31 (allCons hb31 (allCons hb31 (allCons hb32 (allCons hb32 (allCons hb32 (allCons hb32 (allCons hb32 (allCons hb32 (allCons hb32 (allCons hb32 (allCons hb32 (allCons hb32 (allCons hb33 (allCons hb33 (allCons hb33 (allCons hb33 (allCons hb33 (allCons hb33 (allCons hb33 allNil))))))))))))))))))))))))))))))))))))))))) (qThen ?_)
              exact (Le.cv (s := ⟨[], [], [], false⟩) (own := []) (ps := [a0 = a0, a0.1 = a0.1, a0.2.1 = a0.2.1, true = true]) (st' := ⟨[(0, .one (.ip (.st (.pair tI (.pair tI (.pair tLF (.pair tLF tLF))))) a0 0)), (3, iV a0.1), (4, iV a0.2.1), (60, bV true)], [], 0⟩) hO (fun h => by cases h) (by kernel_rfl) ⟨rfl, rfl, rfl, rfl, trivial⟩).ht (cont true (of_some hT3))
            · obtain ⟨y34, hc35, hT3⟩ := of_bind hT3
              refine HT.rgL [oH, ⟨none, .call [.imm tI, .imm tI, .imm tI] [⟨false, .bool, y25⟩] []⟩, oH, oH, ⟨some false, .no⟩, ⟨some false, .call [.imm tI, .imm tI, .imm tI] [⟨false, .bool, y28⟩] []⟩, ⟨some false, .no⟩, ⟨none, .tv false⟩, oH, ⟨some false, .no⟩, ⟨some false, .no⟩, ⟨some false, .no⟩, ⟨some false, .no⟩, ⟨some false, .no⟩, ⟨some false, .no⟩, ⟨some false, .no⟩, ⟨none, .tv false⟩, oH, ⟨some false, .no⟩, ⟨some false, .no⟩, ⟨some false, .no⟩, ⟨some false, .no⟩, ⟨some false, .no⟩, ⟨some false, .no⟩, ⟨some false, .no⟩, ⟨some false, .no⟩, ⟨some false, .no⟩, ⟨none, .tv false⟩, oH, ⟨some false, .no⟩, ⟨some false, .no⟩, ⟨some false, .no⟩, ⟨some false, .no⟩, ⟨some false, .no⟩, ⟨some false, .no⟩, ⟨some false, .no⟩, ⟨some false, .no⟩, ⟨some false, .no⟩, ⟨none, .tv false⟩, oH, ⟨some false, .no⟩, ⟨some false, .no⟩, ⟨some false, .no⟩, ⟨some false, .no⟩, ⟨some false, .call [.imm tLF] [⟨false, .bool, y34⟩] []⟩, ⟨some false, .no⟩, ⟨none, .tv false⟩] ⟨[(0, .one (.ip (.st (.pair tI (.pair tI (.pair tLF (.pair tLF tLF))))) a0 0)), (3, iV a0.1), (4, iV a0.2.1), (60, bV (!y34))], [], 0⟩ hX (by kernel_rfl) (allCons (f52_ok hc26) (allCons hb27 (allCons hb27 (allCons (f52_ok hc29) (allCons hb27 (allCons hb27 (allCons hb30 (allCons hb30 (allCons hb30 (allCons hb30 (allCons hb30 (allCons hb30 (allCons hb30 (allCons hb30 (allCons hb31 (allCons hb31 (allCons hb31 (allCons hb31 (allCons hb31 (allCons hb31 (allCons hb31 (allCons hb31 (allCons hb31 (allCons hb31 (allCons hb32 (allCons hb32 (allCons hb32 (allCons hb32 (allCons hb32 (allCons hb32 (allCons hb32 (allCons hb32 (allCons hb32 (allCons hb32 (allCons hb33 (allCons hb33 (allCons hb33 (allCons hb33 (allCons hb33 (allCons (f101_ok hc35) (allCons hb33 (allCons hb33 allNil)))))))))))))))))))))))))))))))))))))))))) (qThen ?_)
              exact (Le.cv (s := ⟨[], [], [], false⟩) (own := []) (ps := [a0 = a0, a0.1 = a0.1, a0.2.1 = a0.2.1, (!y34) = (!y34)]) (st' := ⟨[(0, .one (.ip (.st (.pair tI (.pair tI (.pair tLF (.pair tLF tLF))))) a0 0)), (3, iV a0.1), (4, iV a0.2.1), (60, bV (!y34))], [], 0⟩) hO (fun h => by cases h) (by kernel_rfl) ⟨rfl, rfl, rfl, rfl, trivial⟩).ht (cont (!y34) (of_some hT3))

noncomputable def spec_l02Word_B1 (a0 : List Int) (a1 : Int) (s1 : Int) : Option ((Int) ⊕ (Unit ⊕ Unit)) :=
  bif (decide (s1 < (lenI a0))) then
    guardP ((0 : Int) ≤ s1 ∧ s1 < lenI a0) (
      (spec_l00In (List.getD a0 (Int.toNat s1) (0 : Int)) (0 : Int) (wsub .i64 a1 (1 : Int))).bind fun y10 =>
      bif (!y10) then
        some (.inr (.inr ()))
      else
        some (.inl (wadd .i64 s1 (1 : Int))))
  else
    some (.inr (.inl ()))

noncomputable def spec_l02Word (a0 : List Int) (a1 : Int) : Option (Bool) :=
  (rounds (spec_l02Word_B1 a0 a1) (0 : Int)).bind fun r2 => match r2 with
    | .inl r3 =>
      some (decide ((lenI a0) ≤ (12 : Int)))
    | .inr r4 =>
      some false

theorem f77_ok {a0 : List Int} {a1 : Int} {r : Bool} (hr : spec_l02Word a0 a1 = some r) : CallOK Try.prog 77 [.imm tLI a0, .imm tI a1] [⟨false, .bool, r⟩] [] := by
  unfold spec_l02Word at hr
  refine CallOK.of_body (ts := [(false, .bool)]) Try.func77 rfl (by kernel_rfl) (Nat.le_of_ble_eq_true (by kernel_rfl)) fun cx hP hN hO hF => ?_
  have hO : cx.own.map Prod.fst = [] := hO
  have hX := CxIs.mk hP hN hO
  have hF := hF rfl
  show HT cx ⟨[(0, nV a0), (1, iV a1)], [], 0⟩ _ _
  refine HT.rg2 [oH] ⟨[(0, nV a0), (1, iV a1)], [], 0⟩ hX (by kernel_rfl) allNil ?_
  refine HT.seq ?_
  refine HT.rg2 [oH] ⟨[(0, nV a0), (1, iV a1), (5, iV (0 : Int))], [], 0⟩ hX (by kernel_rfl) allNil ?_
  refine HT.block ?_
  obtain ⟨r2, hL13, hr⟩ := of_bind hr
  refine (Le.cv (s := ⟨[], [], [], false⟩) (own := []) (ps := [a0 = a0, a1 = a1, (0 : Int) = (0 : Int)]) (st' := ⟨[(0, nV a0), (1, iV a1), (5, iV (0 : Int))], [], 0⟩) hO (fun h => by cases h) (by kernel_rfl) ⟨rfl, rfl, rfl, trivial⟩).ht ?_
  refine HT.loopE (s := (0 : Int)) (fun (s1 : Int) => ⟨[(0, nV a0), (1, iV a1), (5, iV s1)], [], 0⟩) (fun (r2 : Unit ⊕ Unit) => match r2 with | .inl r3 => (.exit 0, ⟨[(0, nV a0)], [], 0⟩) | .inr r4 => (.ret, ⟨[(4, bV false)], [], 0⟩)) hL13 ?_ (fun s1 x5 hx6 hk7 => ?_)
  · rcases r2 with r3 | r4
    · refine (qBlockX (qThen ?_))
      refine HT.rg2 (oHs 4) ⟨[(4, bV (decide ((lenI a0) ≤ (12 : Int))))], [], 0⟩ hX (by kernel_rfl) allNil ?_
      have hr := of_some hr
      subst hr
      exact HT.ret ⟨[bV (decide ((lenI a0) ≤ (12 : Int)))], [], [], by kernel_rfl, by kernel_rfl, rfl, by kernel_rfl, by kernel_rfl, trivial⟩
    · have hr := of_some hr
      subst hr
      exact (qBlockR (qThenR ⟨[bV false], [], [], by kernel_rfl, by kernel_rfl, rfl, by kernel_rfl, by kernel_rfl, trivial⟩))
  · refine HT.seq ?_
    refine HT.rg2 (oHs 4) ⟨[(0, nV a0), (1, iV a1), (5, iV s1), (9, bV (decide (s1 < (lenI a0))))], [], 0⟩ hX (by kernel_rfl) allNil ?_
    rcases of_bif hx6 with ⟨hb8, hx6⟩ | ⟨hb8, hx6⟩
    · refine HT.cond1 rfl hb8 ?_
      refine HT.skip (qThen ?_)
      refine HT.seq ?_
      refine HT.block ?_
      obtain ⟨hg9, hx6⟩ := of_guard hx6
      obtain ⟨y10, hc11, hx6⟩ := of_bind hx6
      refine HT.rg2 [oH, oH, oH, oH, oH, oH, ⟨none, .call [.imm tI, .imm tI, .imm tI] [⟨false, .bool, y10⟩] []⟩, oH] ⟨[(0, nV a0), (1, iV a1), (5, iV s1), (19, bV (!y10))], [], 0⟩ hX (by kernel_rfl) (allCons hg9 (allCons (f52_ok hc11) allNil)) ?_
      rcases of_bif hx6 with ⟨hb12, hx6⟩ | ⟨hb12, hx6⟩
      · refine HT.cond1 rfl hb12 ?_
        refine HT.rg2 [oH] ⟨[(4, bV false)], [], 0⟩ hX (by kernel_rfl) allNil ?_
        have hx6 := of_some hx6
        subst hx6
        refine (Le.cv (s := ⟨[], [], [], false⟩) (own := []) (ps := [false = false]) (st' := ⟨[(4, bV false)], [], 0⟩) hO (fun h => by cases h) (by kernel_rfl) ⟨rfl, trivial⟩).ht ?_
        exact HT.ret (qBlockR (qThenR (qLoopR (hk7 (.inr ()) rfl))))
      · refine HT.cond0 rfl hb12 ?_
        refine HT.skip (qBlock (qThen ?_))
        have hx6 := of_some hx6
        subst hx6
        refine HT.rgL (oHs 3) ⟨[(0, nV a0), (1, iV a1), (5, iV (wadd .i64 s1 (1 : Int)))], [], 0⟩ hX (by kernel_rfl) allNil (qLoopN ⟨(wadd .i64 s1 (1 : Int)), rfl, Le.cv (s := ⟨[], [], [], false⟩) (own := []) (ps := [a0 = a0, a1 = a1, (wadd .i64 s1 (1 : Int)) = (wadd .i64 s1 (1 : Int))]) (st' := ⟨[(0, nV a0), (1, iV a1), (5, iV (wadd .i64 s1 (1 : Int)))], [], 0⟩) hO (fun h => by cases h) (by kernel_rfl) ⟨rfl, rfl, rfl, trivial⟩⟩)
    · refine HT.cond0 rfl hb8 ?_
      have hx6 := of_some hx6
      subst hx6
      refine (Le.cv (s := ⟨[], [], [], false⟩) (own := []) (ps := [a0 = a0]) (st' := ⟨[(0, nV a0)], [], 0⟩) hO (fun h => by cases h) (by kernel_rfl) ⟨rfl, trivial⟩).ht ?_
      exact HT.exit (qThenE (qLoopE (hk7 (.inl ()) rfl)))

noncomputable def spec_l03Word (a0 : Int × Int × List Nat × List Nat × List Nat) (a1 : List Int) : Option (Bool) :=
  (show Option (Bool) from
    (spec_l03Is (a0.1, a0.2.1, a0.2.2.1, a0.2.2.2.1, a0.2.2.2.2)).bind fun y4 =>
    bif y4 then
      (spec_l02Word a1 a0.2.1).bind fun y7 =>
      some y7
    else
      some false).bind fun v1 =>
  some v1

theorem f43_ok {a0 : Int × Int × List Nat × List Nat × List Nat} {a1 : List Int} {r : Bool} (hr : spec_l03Word a0 a1 = some r) : CallOK Try.prog 43 [.pimm (.st (.pair tI (.pair tI (.pair tLF (.pair tLF tLF))))) a0, .imm tLI a1] [⟨false, .bool, r⟩] [] := by
  unfold spec_l03Word at hr
  refine CallOK.of_body (ts := [(false, .bool)]) Try.func43 rfl (by kernel_rfl) (Nat.le_of_ble_eq_true (by kernel_rfl)) fun cx hP hN hO hF => ?_
  have hO : cx.own.map Prod.fst = [] := hO
  have hX := CxIs.mk hP hN hO
  have hF := hF rfl
  show HT cx ⟨[(0, .one (.ip (.st (.pair tI (.pair tI (.pair tLF (.pair tLF tLF))))) a0 0)), (1, nV a1)], [], 0⟩ _ _
  refine HT.rg2 [oH] ⟨[(0, .one (.ip (.st (.pair tI (.pair tI (.pair tLF (.pair tLF tLF))))) a0 0)), (1, nV a1)], [], 0⟩ hX (by kernel_rfl) allNil ?_
  obtain ⟨v1', hT3, hr⟩ := of_bind hr
  refine HT.join (fun (v1 : Bool) => ⟨[(4, bV v1)], [], 0⟩) (fun v => v = v1') (fun v1 hv2 => ?_) (fun cont => ?_)
  · subst hv2
    have hr := of_some hr
    subst hr
    exact HT.ret ⟨[bV v1], [], [], by kernel_rfl, by kernel_rfl, rfl, by kernel_rfl, by kernel_rfl, trivial⟩
  · obtain ⟨y4, hc5, hT3⟩ := of_bind hT3
    rcases of_bif hT3 with ⟨hb6, hT3⟩ | ⟨hb6, hT3⟩
    · obtain ⟨y7, hc8, hT3⟩ := of_bind hT3
      refine HT.rgL [oH, ⟨none, .call [.pimm (.st (.pair tI (.pair tI (.pair tLF (.pair tLF tLF)))))] [⟨false, .bool, y4⟩] []⟩, oH, ⟨some true, .no⟩, ⟨some true, .no⟩, ⟨some true, .no⟩, ⟨some true, .no⟩, ⟨some true, .no⟩, ⟨some true, .call [.imm tLI, .imm tI] [⟨false, .bool, y7⟩] []⟩, ⟨none, .tv true⟩, oH] ⟨[(4, bV y7)], [], 0⟩ hX (by kernel_rfl) (allCons (f76_ok hc5) (allCons hb6 (allCons hb6 (allCons hb6 (allCons hb6 (allCons hb6 (allCons hb6 (allCons (f77_ok hc8) (allCons hb6 allNil))))))))) (qThen ?_)
      exact (Le.cv (s := ⟨[], [], [], false⟩) (own := []) (ps := [y7 = y7]) (st' := ⟨[(4, bV y7)], [], 0⟩) hO (fun h => by cases h) (by kernel_rfl) ⟨rfl, trivial⟩).ht (cont y7 (of_some hT3))
    · refine HT.rgL [oH, ⟨none, .call [.pimm (.st (.pair tI (.pair tI (.pair tLF (.pair tLF tLF)))))] [⟨false, .bool, y4⟩] []⟩, oH, ⟨some false, .no⟩, ⟨some false, .no⟩, ⟨some false, .no⟩, ⟨some false, .no⟩, ⟨some false, .no⟩, ⟨some false, .no⟩, ⟨none, .tv false⟩, oH] ⟨[(4, bV false)], [], 0⟩ hX (by kernel_rfl) (allCons (f76_ok hc5) (allCons hb6 (allCons hb6 (allCons hb6 (allCons hb6 (allCons hb6 (allCons hb6 (allCons hb6 allNil)))))))) (qThen ?_)
      exact (Le.cv (s := ⟨[], [], [], false⟩) (own := []) (ps := [false = false]) (st' := ⟨[(4, bV false)], [], 0⟩) hO (fun h => by cases h) (by kernel_rfl) ⟨rfl, trivial⟩).ht (cont false (of_some hT3))

noncomputable def spec_l01Finite (a0 : Nat) : Option (Bool) :=
  some (feq .f32 (fop .sub .f32 a0 a0) (0 : Nat))

theorem f131_ok {a0 : Nat} {r : Bool} (hr : spec_l01Finite a0 = some r) : CallOK Try.prog 131 [.imm tF a0] [⟨false, .bool, r⟩] [] := by
  unfold spec_l01Finite at hr
  refine CallOK.of_body (ts := [(false, .bool)]) Try.func131 rfl (by kernel_rfl) (Nat.le_of_ble_eq_true (by kernel_rfl)) fun cx hP hN hO hF => ?_
  have hO : cx.own.map Prod.fst = [] := hO
  have hX := CxIs.mk hP hN hO
  have hF := hF rfl
  show HT cx ⟨[(0, fV a0)], [], 0⟩ _ _
  refine HT.rg2 [oH] ⟨[(0, fV a0)], [], 0⟩ hX (by kernel_rfl) allNil ?_
  refine HT.rg2 (oHs 5) ⟨[(2, bV (feq .f32 (fop .sub .f32 a0 a0) (0 : Nat)))], [], 0⟩ hX (by kernel_rfl) allNil ?_
  have hr := of_some hr
  subst hr
  exact HT.ret ⟨[bV (feq .f32 (fop .sub .f32 a0 a0) (0 : Nat))], [], [], by kernel_rfl, by kernel_rfl, rfl, by kernel_rfl, by kernel_rfl, trivial⟩

noncomputable def spec_l02Number (a0 : Nat) : Option (Nat × Bool) :=
  (spec_l01Finite a0).bind fun y1 =>
  bif (!y1) then
    some ((0 : Nat), false)
  else
    some (a0, true)

theorem f116_ok {a0 : Nat} {r : Nat × Bool} (hr : spec_l02Number a0 = some r) : CallOK Try.prog 116 [.imm tF a0] [⟨false, tF, r.1⟩, ⟨false, .bool, r.2⟩] [] := by
  unfold spec_l02Number at hr
  refine CallOK.of_body (ts := [(false, tF), (false, .bool)]) Try.func116 rfl (by kernel_rfl) (Nat.le_of_ble_eq_true (by kernel_rfl)) fun cx hP hN hO hF => ?_
  have hO : cx.own.map Prod.fst = [] := hO
  have hX := CxIs.mk hP hN hO
  have hF := hF rfl
  show HT cx ⟨[(0, fV a0)], [], 0⟩ _ _
  refine HT.rg2 (oHs 2) ⟨[(0, fV a0)], [], 0⟩ hX (by kernel_rfl) allNil ?_
  refine HT.seq ?_
  obtain ⟨y1, hc2, hr⟩ := of_bind hr
  refine HT.rg2 [oH, ⟨none, .call [.imm tF] [⟨false, .bool, y1⟩] []⟩, oH] ⟨[(0, fV a0), (6, bV (!y1))], [], 0⟩ hX (by kernel_rfl) (allCons (f131_ok hc2) allNil) ?_
  rcases of_bif hr with ⟨hb3, hr⟩ | ⟨hb3, hr⟩
  · refine HT.cond1 rfl hb3 ?_
    refine HT.rg2 (oHs 2) ⟨[(2, fV (0 : Nat)), (3, bV false)], [], 0⟩ hX (by kernel_rfl) allNil ?_
    have hr := of_some hr
    subst hr
    exact HT.ret (qThenR ⟨[fV (0 : Nat), bV false], [], [], by kernel_rfl, by kernel_rfl, rfl, by kernel_rfl, by kernel_rfl, trivial⟩)
  · refine HT.cond0 rfl hb3 ?_
    refine HT.skip (qThen ?_)
    refine HT.rg2 (oHs 3) ⟨[(2, fV a0), (3, bV true)], [], 0⟩ hX (by kernel_rfl) allNil ?_
    have hr := of_some hr
    subst hr
    exact HT.ret ⟨[fV a0, bV true], [], [], by kernel_rfl, by kernel_rfl, rfl, by kernel_rfl, by kernel_rfl, trivial⟩

noncomputable def spec_l03Next_B1 (a0 : Int × Int × List Nat × List Nat × List Nat) (a1 : List Nat) (a2 : Int) (s1 : Int × List Nat) (s8 : Nat × Int) : Option ((Nat × Int) ⊕ (Nat)) :=
  bif (decide (s8.2 < a0.1)) then
    guardP ((0 : Int) ≤ s8.2 ∧ s8.2 < lenI a1) (
      guardP ((0 : Int) ≤ (wadd .i64 (wmul .i64 s8.2 a0.2.1) a2) ∧ (wadd .i64 (wmul .i64 s8.2 a0.2.1) a2) < lenI a0.2.2.2.2) (
        guardP ((0 : Int) ≤ (wadd .i64 (wmul .i64 s8.2 a0.1) s1.1) ∧ (wadd .i64 (wmul .i64 s8.2 a0.1) s1.1) < lenI a0.2.2.2.1) (
          some (.inl ((fop .add .f32 s8.1 (fop .mul .f32 (fop .mul .f32 (List.getD a1 (Int.toNat s8.2) (0 : Nat)) (List.getD a0.2.2.2.2 (Int.toNat (wadd .i64 (wmul .i64 s8.2 a0.2.1) a2)) (0 : Nat))) (List.getD a0.2.2.2.1 (Int.toNat (wadd .i64 (wmul .i64 s8.2 a0.1) s1.1)) (0 : Nat)))), (wadd .i64 s8.2 (1 : Int)))))))
  else
    some (.inr s8.1)

noncomputable def spec_l03Next_B2 (a0 : Int × Int × List Nat × List Nat × List Nat) (a1 : List Nat) (a2 : Int) (s1 : Int × List Nat) : Option ((Int × List Nat) ⊕ (List Nat)) :=
  bif (decide (s1.1 < a0.1)) then
    (rounds (spec_l03Next_B1 a0 a1 a2 s1) ((0 : Nat), (0 : Int))).bind fun r10 =>
    guardP (List.length s1.2 + List.length ([r10] : List Nat) ≤ appMax) (
      some (.inl ((wadd .i64 s1.1 (1 : Int)), (s1.2 ++ ([r10] : List Nat)))))
  else
    some (.inr s1.2)

noncomputable def spec_l03Next (a0 : Int × Int × List Nat × List Nat × List Nat) (a1 : List Nat) (a2 : Int) : Option (List Nat) :=
  (rounds (spec_l03Next_B2 a0 a1 a2) ((0 : Int), ([] : List Nat))).bind fun r3 =>
  some r3

theorem f108_ok {a0 : Int × Int × List Nat × List Nat × List Nat} {a1 : List Nat} {a2 : Int} {r : List Nat} (hr : spec_l03Next a0 a1 a2 = some r) : CallOK Try.prog 108 [.pimm (.st (.pair tI (.pair tI (.pair tLF (.pair tLF tLF))))) a0, .imm tLF a1, .imm tI a2] [⟨true, tLF, r⟩] [] := by
  unfold spec_l03Next at hr
  refine CallOK.of_body (ts := [(true, tLF)]) Try.func108 rfl (by kernel_rfl) (Nat.le_of_ble_eq_true (by kernel_rfl)) fun cx hP hN hO hF => ?_
  have hO : cx.own.map Prod.fst = [] := hO
  have hX := CxIs.mk hP hN hO
  have hF := hF rfl
  show HT cx ⟨[(0, .one (.ip (.st (.pair tI (.pair tI (.pair tLF (.pair tLF tLF))))) a0 0)), (1, lV a1), (2, iV a2)], [], 0⟩ _ _
  refine HT.rg2 [oH] ⟨[(0, .one (.ip (.st (.pair tI (.pair tI (.pair tLF (.pair tLF tLF))))) a0 0)), (1, lV a1), (2, iV a2)], [], 0⟩ hX (by kernel_rfl) allNil ?_
  refine HT.rg2 (oHs 2) ⟨[(0, .one (.ip (.st (.pair tI (.pair tI (.pair tLF (.pair tLF tLF))))) a0 0)), (1, lV a1), (2, iV a2), (7, .one (.nilS))], [], 0⟩ hX (by kernel_rfl) allNil ?_
  refine HT.seq ?_
  refine HT.rg2 [oH] ⟨[(0, .one (.ip (.st (.pair tI (.pair tI (.pair tLF (.pair tLF tLF))))) a0 0)), (1, lV a1), (2, iV a2), (7, .one (.nilS)), (8, iV (0 : Int))], [], 0⟩ hX (by kernel_rfl) allNil ?_
  refine HT.block ?_
  obtain ⟨r2, hL20, hr⟩ := of_bind hr
  refine (Le.cv (s := ⟨[], [0], [], false⟩) (own := []) (ps := [a0 = a0, a1 = a1, a2 = a2, (0 : Int) = (0 : Int), ([] : List Nat) = []]) (st' := ⟨[(0, .one (.ip (.st (.pair tI (.pair tI (.pair tLF (.pair tLF tLF))))) a0 0)), (1, lV a1), (2, iV a2), (7, aV 0), (8, iV (0 : Int))], [(0, .seq tF ([] : List Nat))], 1⟩) hO (fun h => by cases h) (by kernel_rfl) ⟨rfl, rfl, rfl, rfl, rfl, trivial⟩).ht ?_
  refine HT.loopE (s := ((0 : Int), ([] : List Nat))) (fun (s1 : Int × List Nat) => ⟨[(0, .one (.ip (.st (.pair tI (.pair tI (.pair tLF (.pair tLF tLF))))) a0 0)), (1, lV a1), (2, iV a2), (7, aV 0), (8, iV s1.1)], [(0, .seq tF s1.2)], 1⟩) (fun (r3 : List Nat) => (.exit 0, ⟨[(7, aV 0)], [(0, .seq tF r3)], 1⟩)) hL20 ?_ (fun s1 x4 hx5 hk6 => ?_)
  · refine (qBlockX (qThen ?_))
    refine HT.rg2 (oHs 2) ⟨[(6, aV 0)], [(0, .seq tF r2)], 1⟩ hX (by kernel_rfl) allNil ?_
    have hr := of_some hr
    subst hr
    exact HT.ret ⟨[aV 0], [0], [], by kernel_rfl, by kernel_rfl, rfl, by kernel_rfl, by kernel_rfl, trivial⟩
  · refine HT.seq ?_
    refine HT.rg2 (oHs 6) ⟨[(0, .one (.ip (.st (.pair tI (.pair tI (.pair tLF (.pair tLF tLF))))) a0 0)), (1, lV a1), (2, iV a2), (7, aV 0), (8, iV s1.1), (17, bV (decide (s1.1 < a0.1)))], [(0, .seq tF s1.2)], 1⟩ hX (by kernel_rfl) allNil ?_
    rcases of_bif hx5 with ⟨hb7, hx5⟩ | ⟨hb7, hx5⟩
    · refine HT.cond1 rfl hb7 ?_
      refine HT.skip (qThen ?_)
      refine HT.seq ?_
      refine HT.block ?_
      refine HT.rg2 [oH] ⟨[(0, .one (.ip (.st (.pair tI (.pair tI (.pair tLF (.pair tLF tLF))))) a0 0)), (1, lV a1), (2, iV a2), (7, aV 0), (8, iV s1.1), (9, fV (0 : Nat))], [(0, .seq tF s1.2)], 1⟩ hX (by kernel_rfl) allNil ?_
      refine HT.seq ?_
      refine HT.rg2 [oH] ⟨[(0, .one (.ip (.st (.pair tI (.pair tI (.pair tLF (.pair tLF tLF))))) a0 0)), (1, lV a1), (2, iV a2), (7, aV 0), (8, iV s1.1), (9, fV (0 : Nat)), (10, iV (0 : Int))], [(0, .seq tF s1.2)], 1⟩ hX (by kernel_rfl) allNil ?_
      refine HT.block ?_
      obtain ⟨r9, hL19, hx5⟩ := of_bind hx5
      refine (Le.cv (s := ⟨[(0, 0)], [], [], false⟩) (own := []) (ps := [a0 = a0, a1 = a1, a2 = a2, s1.1 = s1.1, (0 : Nat) = (0 : Nat), (0 : Int) = (0 : Int), s1.2 = s1.2]) (st' := ⟨[(0, .one (.ip (.st (.pair tI (.pair tI (.pair tLF (.pair tLF tLF))))) a0 0)), (1, lV a1), (2, iV a2), (7, aV 0), (8, iV s1.1), (9, fV (0 : Nat)), (10, iV (0 : Int))], [(0, .seq tF s1.2)], 1⟩) hO (fun h => by cases h) (by kernel_rfl) ⟨rfl, rfl, rfl, rfl, rfl, rfl, rfl, trivial⟩).ht ?_
      refine HT.loopE (s := ((0 : Nat), (0 : Int))) (fun (s8 : Nat × Int) => ⟨[(0, .one (.ip (.st (.pair tI (.pair tI (.pair tLF (.pair tLF tLF))))) a0 0)), (1, lV a1), (2, iV a2), (7, aV 0), (8, iV s1.1), (9, fV s8.1), (10, iV s8.2)], [(0, .seq tF s1.2)], 1⟩) (fun (r10 : Nat) => (.exit 2, ⟨[(0, .one (.ip (.st (.pair tI (.pair tI (.pair tLF (.pair tLF tLF))))) a0 0)), (1, lV a1), (2, iV a2), (7, aV 0), (8, iV s1.1), (9, fV r10)], [(0, .seq tF s1.2)], 1⟩)) hL19 ?_ (fun s8 x12 hx13 hk14 => ?_)
      · refine (qBlockX (qThen ?_))
        obtain ⟨hg11, hx5⟩ := of_guard hx5
        refine HT.rgL [oH, oH, ⟨none, .ty tF⟩, ⟨none, .ty tF⟩, oH] ⟨[(0, .one (.ip (.st (.pair tI (.pair tI (.pair tLF (.pair tLF tLF))))) a0 0)), (1, lV a1), (2, iV a2), (7, aV 2), (8, iV s1.1)], [(2, .seq tF (s1.2 ++ ([r9] : List Nat)))], 3⟩ hX (by kernel_rfl) (allCons hg11 allNil) (qBlock (qThen ?_))
        have hx5 := of_some hx5
        subst hx5
        refine HT.rgL (oHs 3) ⟨[(0, .one (.ip (.st (.pair tI (.pair tI (.pair tLF (.pair tLF tLF))))) a0 0)), (1, lV a1), (2, iV a2), (7, aV 2), (8, iV (wadd .i64 s1.1 (1 : Int)))], [(2, .seq tF (s1.2 ++ ([r9] : List Nat)))], 3⟩ hX (by kernel_rfl) allNil (qLoopN ⟨((wadd .i64 s1.1 (1 : Int)), (s1.2 ++ ([r9] : List Nat))), rfl, Le.cv (s := ⟨[(2, 0)], [], [], false⟩) (own := []) (ps := [a0 = a0, a1 = a1, a2 = a2, (wadd .i64 s1.1 (1 : Int)) = (wadd .i64 s1.1 (1 : Int)), (s1.2 ++ ([r9] : List Nat)) = (s1.2 ++ ([r9] : List Nat))]) (st' := ⟨[(0, .one (.ip (.st (.pair tI (.pair tI (.pair tLF (.pair tLF tLF))))) a0 0)), (1, lV a1), (2, iV a2), (7, aV 0), (8, iV (wadd .i64 s1.1 (1 : Int)))], [(0, .seq tF (s1.2 ++ ([r9] : List Nat)))], 1⟩) hO (fun h => by cases h) (by kernel_rfl) ⟨rfl, rfl, rfl, rfl, rfl, trivial⟩⟩)
      · refine HT.seq ?_
        refine HT.rg2 (oHs 6) ⟨[(0, .one (.ip (.st (.pair tI (.pair tI (.pair tLF (.pair tLF tLF))))) a0 0)), (1, lV a1), (2, iV a2), (7, aV 0), (8, iV s1.1), (9, fV s8.1), (10, iV s8.2), (25, bV (decide (s8.2 < a0.1)))], [(0, .seq tF s1.2)], 1⟩ hX (by kernel_rfl) allNil ?_
        rcases of_bif hx13 with ⟨hb15, hx13⟩ | ⟨hb15, hx13⟩
        · refine HT.cond1 rfl hb15 ?_
          refine HT.skip (qThen ?_)
          refine HT.seq ?_
          refine HT.block ?_
          obtain ⟨hg16, hx13⟩ := of_guard hx13
          obtain ⟨hg17, hx13⟩ := of_guard hx13
          obtain ⟨hg18, hx13⟩ := of_guard hx13
          refine HT.drL 35 [⟨oH, []⟩, ⟨oH, []⟩, ⟨oH, []⟩, ⟨oH, [1, 2]⟩, ⟨oH, [1, 2, 3]⟩, ⟨oH, []⟩, ⟨oH, [5]⟩, ⟨oH, [5, 6]⟩, ⟨oH, [5, 6, 7]⟩, ⟨oH, []⟩, ⟨oH, []⟩, ⟨oH, [10]⟩, ⟨oH, [10, 11]⟩, ⟨oH, [10, 11, 12]⟩, ⟨oH, [9, 10, 11, 12, 13]⟩, ⟨oH, []⟩, ⟨oH, [9, 10, 11, 12, 13, 14, 15]⟩, ⟨oH, [5, 6, 7, 8, 9, 10, 11, 12, 13, 14, 15, 16]⟩, ⟨oH, [5, 6, 7, 8, 9, 10, 11, 12, 13, 14, 15, 16, 17]⟩, ⟨oH, [1, 2, 3, 4, 5, 6, 7, 8, 9, 10, 11, 12, 13, 14, 15, 16, 17, 18]⟩, ⟨oH, []⟩, ⟨oH, [20]⟩, ⟨oH, [20, 21]⟩, ⟨oH, [20, 21, 22]⟩, ⟨oH, []⟩, ⟨oH, []⟩, ⟨oH, [25]⟩, ⟨oH, [25, 26]⟩, ⟨oH, [25, 26, 27]⟩, ⟨oH, [24, 25, 26, 27, 28]⟩, ⟨oH, []⟩, ⟨oH, [24, 25, 26, 27, 28, 29, 30]⟩, ⟨oH, [20, 21, 22, 23, 24, 25, 26, 27, 28, 29, 30, 31]⟩, ⟨oH, [20, 21, 22, 23, 24, 25, 26, 27, 28, 29, 30, 31, 32]⟩, ⟨oH, [1, 2, 3, 4, 5, 6, 7, 8, 9, 10, 11, 12, 13, 14, 15, 16, 17, 18, 19, 20, 21, 22, 23, 24, 25, 26, 27, 28, 29, 30, 31, 32, 33]⟩] [[0, 1, 2, 3, 4, 5, 6, 7, 8, 9, 10, 11, 12, 13, 14, 15, 16, 17, 18, 19, 20, 21, 22, 23, 24, 25, 26, 27, 28, 29, 30, 31, 32, 33, 34], [0, 1, 2, 3, 4, 5, 6, 7, 8, 9, 10, 11, 12, 13, 14, 15, 16, 17, 18, 19, 20, 21, 22, 23, 24, 25, 26, 27, 28, 29, 30, 31, 32, 33, 34, 35]] (oHs 2) ⟨[(0, .one (.ip (.st (.pair tI (.pair tI (.pair tLF (.pair tLF tLF))))) a0 0)), (1, lV a1), (2, iV a2), (7, aV 0), (8, iV s1.1), (9, fV (fop .add .f32 s8.1 (fop .mul .f32 (fop .mul .f32 (List.getD a1 (Int.toNat s8.2) (0 : Nat)) (List.getD a0.2.2.2.2 (Int.toNat (wadd .i64 (wmul .i64 s8.2 a0.2.1) a2)) (0 : Nat))) (List.getD a0.2.2.2.1 (Int.toNat (wadd .i64 (wmul .i64 s8.2 a0.1) s1.1)) (0 : Nat))))), (10, iV s8.2)], [(0, .seq tF s1.2)], 1⟩ hX (by kernel_rfl) (by kernel_rfl) (allCons hg16 (allCons hg17 (allCons hg18 allNil))) (qBlock (qThen ?_))
          have hx13 := of_some hx13
          subst hx13
          refine HT.rgL (oHs 3) ⟨[(0, .one (.ip (.st (.pair tI (.pair tI (.pair tLF (.pair tLF tLF))))) a0 0)), (1, lV a1), (2, iV a2), (7, aV 0), (8, iV s1.1), (9, fV (fop .add .f32 s8.1 (fop .mul .f32 (fop .mul .f32 (List.getD a1 (Int.toNat s8.2) (0 : Nat)) (List.getD a0.2.2.2.2 (Int.toNat (wadd .i64 (wmul .i64 s8.2 a0.2.1) a2)) (0 : Nat))) (List.getD a0.2.2.2.1 (Int.toNat (wadd .i64 (wmul .i64 s8.2 a0.1) s1.1)) (0 : Nat))))), (10, iV (wadd .i64 s8.2 (1 : Int)))], [(0, .seq tF s1.2)], 1⟩ hX (by kernel_rfl) allNil (qLoopN ⟨((fop .add .f32 s8.1 (fop .mul .f32 (fop .mul .f32 (List.getD a1 (Int.toNat s8.2) (0 : Nat)) (List.getD a0.2.2.2.2 (Int.toNat (wadd .i64 (wmul .i64 s8.2 a0.2.1) a2)) (0 : Nat))) (List.getD a0.2.2.2.1 (Int.toNat (wadd .i64 (wmul .i64 s8.2 a0.1) s1.1)) (0 : Nat)))), (wadd .i64 s8.2 (1 : Int))), rfl, Le.cv (s := ⟨[(0, 0)], [], [], false⟩) (own := []) (ps := [a0 = a0, a1 = a1, a2 = a2, s1.1 = s1.1, (fop .add .f32 s8.1 (fop .mul .f32 (fop .mul .f32 (List.getD a1 (Int.toNat s8.2) (0 : Nat)) (List.getD a0.2.2.2.2 (Int.toNat (wadd .i64 (wmul .i64 s8.2 a0.2.1) a2)) (0 : Nat))) (List.getD a0.2.2.2.1 (Int.toNat (wadd .i64 (wmul .i64 s8.2 a0.1) s1.1)) (0 : Nat)))) = (fop .add .f32 s8.1 (fop .mul .f32 (fop .mul .f32 (List.getD a1 (Int.toNat s8.2) (0 : Nat)) (List.getD a0.2.2.2.2 (Int.toNat (wadd .i64 (wmul .i64 s8.2 a0.2.1) a2)) (0 : Nat))) (List.getD a0.2.2.2.1 (Int.toNat (wadd .i64 (wmul .i64 s8.2 a0.1) s1.1)) (0 : Nat)))), (wadd .i64 s8.2 (1 : Int)) = (wadd .i64 s8.2 (1 : Int)), s1.2 = s1.2]) (st' := ⟨[(0, .one (.ip (.st (.pair tI (.pair tI (.pair tLF (.pair tLF tLF))))) a0 0)), (1, lV a1), (2, iV a2), (7, aV 0), (8, iV s1.1), (9, fV (fop .add .f32 s8.1 (fop .mul .f32 (fop .mul .f32 (List.getD a1 (Int.toNat s8.2) (0 : Nat)) (List.getD a0.2.2.2.2 (Int.toNat (wadd .i64 (wmul .i64 s8.2 a0.2.1) a2)) (0 : Nat))) (List.getD a0.2.2.2.1 (Int.toNat (wadd .i64 (wmul .i64 s8.2 a0.1) s1.1)) (0 : Nat))))), (10, iV (wadd .i64 s8.2 (1 : Int)))], [(0, .seq tF s1.2)], 1⟩) hO (fun h => by cases h) (by kernel_rfl) ⟨rfl, rfl, rfl, rfl, rfl, rfl, rfl, trivial⟩⟩)
        · refine HT.cond0 rfl hb15 ?_
          have hx13 := of_some hx13
          subst hx13
          refine (Le.cv (s := ⟨[(0, 0)], [], [], false⟩) (own := []) (ps := [a0 = a0, a1 = a1, a2 = a2, s1.1 = s1.1, s8.1 = s8.1, s1.2 = s1.2]) (st' := ⟨[(0, .one (.ip (.st (.pair tI (.pair tI (.pair tLF (.pair tLF tLF))))) a0 0)), (1, lV a1), (2, iV a2), (7, aV 0), (8, iV s1.1), (9, fV s8.1)], [(0, .seq tF s1.2)], 1⟩) hO (fun h => by cases h) (by kernel_rfl) ⟨rfl, rfl, rfl, rfl, rfl, rfl, trivial⟩).ht ?_
          exact HT.exit (qThenE (qLoopE (hk14 s8.1 rfl)))
    · refine HT.cond0 rfl hb7 ?_
      have hx5 := of_some hx5
      subst hx5
      refine (Le.cv (s := ⟨[(0, 0)], [], [], false⟩) (own := []) (ps := [s1.2 = s1.2]) (st' := ⟨[(7, aV 0)], [(0, .seq tF s1.2)], 1⟩) hO (fun h => by cases h) (by kernel_rfl) ⟨rfl, trivial⟩).ht ?_
      exact HT.exit (qThenE (qLoopE (hk6 s1.2 rfl)))

noncomputable def math_NaN  : Option (Nat) :=
  none

theorem f135_ok  {r : Nat} (hr : math_NaN = some r) : CallOK Try.prog 135 [] [⟨false, (.flt .f64), r⟩] [] := by
  unfold math_NaN at hr
  refine CallOK.of_body (ts := [(false, (.flt .f64))]) Try.func135 rfl (by kernel_rfl) (Nat.le_of_ble_eq_true (by kernel_rfl)) fun cx hP hN hO hF => ?_
  have hO : cx.own.map Prod.fst = [] := hO
  have hX := CxIs.mk hP hN hO
  have hF := hF rfl
  show HT cx ⟨[], [], 0⟩ _ _
  refine HT.rg2 [oH] ⟨[], [], 0⟩ hX (by kernel_rfl) allNil ?_
  cases hr

noncomputable def math_Inf (a0 : Int) : Option (Nat) :=
  (show Option (Int) from
    bif (decide (a0 ≥ (0 : Int))) then
      some (9218868437227405312 : Int)
    else
      some (18442240474082181120 : Int)).bind fun v1 =>
  none

theorem f134_ok {a0 : Int} {r : Nat} (hr : math_Inf a0 = some r) : CallOK Try.prog 134 [.imm tI a0] [⟨false, (.flt .f64), r⟩] [] := by
  unfold math_Inf at hr
  refine CallOK.of_body (ts := [(false, (.flt .f64))]) Try.func134 rfl (by kernel_rfl) (Nat.le_of_ble_eq_true (by kernel_rfl)) fun cx hP hN hO hF => ?_
  have hO : cx.own.map Prod.fst = [] := hO
  have hX := CxIs.mk hP hN hO
  have hF := hF rfl
  show HT cx ⟨[(0, iV a0)], [], 0⟩ _ _
  refine HT.rg2 [oH] ⟨[(0, iV a0)], [], 0⟩ hX (by kernel_rfl) allNil ?_
  refine HT.rg2 [oH] ⟨[(0, iV a0)], [], 0⟩ hX (by kernel_rfl) allNil ?_
  obtain ⟨v1', hT3, hr⟩ := of_bind hr
  refine HT.join (fun (v1 : Int) => ⟨[(3, .one (.dat (.int .u64) v1))], [], 0⟩) (fun v => v = v1') (fun v1 hv2 => ?_) (fun cont => ?_)
  · subst hv2
    cases hr
  · refine HT.rg2 (oHs 2) ⟨[(5, bV (decide (a0 ≥ (0 : Int))))], [], 0⟩ hX (by kernel_rfl) allNil ?_
    rcases of_bif hT3 with ⟨hb4, hT3⟩ | ⟨hb4, hT3⟩
    · refine HT.cond1 rfl hb4 ?_
      refine HT.rgL [oH] ⟨[(3, .one (.dat (.int .u64) (9218868437227405312 : Int)))], [], 0⟩ hX (by kernel_rfl) allNil (qThen ?_)
      exact (Le.cv (s := ⟨[], [], [], false⟩) (own := []) (ps := [(9218868437227405312 : Int) = (9218868437227405312 : Int)]) (st' := ⟨[(3, .one (.dat (.int .u64) (9218868437227405312 : Int)))], [], 0⟩) hO (fun h => by cases h) (by kernel_rfl) ⟨rfl, trivial⟩).ht (cont (9218868437227405312 : Int) (of_some hT3))
    · refine HT.cond0 rfl hb4 ?_
      refine HT.rgL [oH] ⟨[(3, .one (.dat (.int .u64) (18442240474082181120 : Int)))], [], 0⟩ hX (by kernel_rfl) allNil (qThen ?_)
      exact (Le.cv (s := ⟨[], [], [], false⟩) (own := []) (ps := [(18442240474082181120 : Int) = (18442240474082181120 : Int)]) (st' := ⟨[(3, .one (.dat (.int .u64) (18442240474082181120 : Int)))], [], 0⟩) hO (fun h => by cases h) (by kernel_rfl) ⟨rfl, trivial⟩).ht (cont (18442240474082181120 : Int) (of_some hT3))

noncomputable def math_Abs (a0 : Nat) : Option (Nat) :=
  none

theorem f142_ok {a0 : Nat} {r : Nat} (hr : math_Abs a0 = some r) : CallOK Try.prog 142 [.imm (.flt .f64) a0] [⟨false, (.flt .f64), r⟩] [] := by
  unfold math_Abs at hr
  refine CallOK.of_body (ts := [(false, (.flt .f64))]) Try.func142 rfl (by kernel_rfl) (Nat.le_of_ble_eq_true (by kernel_rfl)) fun cx hP hN hO hF => ?_
  have hO : cx.own.map Prod.fst = [] := hO
  have hX := CxIs.mk hP hN hO
  have hF := hF rfl
  show HT cx ⟨[(0, .one (.dat (.flt .f64) a0))], [], 0⟩ _ _
  refine HT.rg2 [oH] ⟨[(0, .one (.dat (.flt .f64) a0))], [], 0⟩ hX (by kernel_rfl) allNil ?_
  cases hr

noncomputable def math_IsInf (a0 : Nat) (a1 : Int) : Option (Bool) :=
  (show Option (Nat) from
    bif (a1 == (0 : Int)) then
      (math_Abs a0).bind fun y5 =>
      some y5
    else
      bif (decide (a1 < (0 : Int))) then
        some (fneg .f64 a0)
      else
        some a0).bind fun v1 =>
  some (fgt .f64 v1 (9218868437227405311 : Nat))

theorem f140_ok {a0 : Nat} {a1 : Int} {r : Bool} (hr : math_IsInf a0 a1 = some r) : CallOK Try.prog 140 [.imm (.flt .f64) a0, .imm tI a1] [⟨false, .bool, r⟩] [] := by
  unfold math_IsInf at hr
  refine CallOK.of_body (ts := [(false, .bool)]) Try.func140 rfl (by kernel_rfl) (Nat.le_of_ble_eq_true (by kernel_rfl)) fun cx hP hN hO hF => ?_
  have hO : cx.own.map Prod.fst = [] := hO
  have hX := CxIs.mk hP hN hO
  have hF := hF rfl
  show HT cx ⟨[(0, .one (.dat (.flt .f64) a0)), (1, iV a1)], [], 0⟩ _ _
  refine HT.rg2 [oH] ⟨[(0, .one (.dat (.flt .f64) a0)), (1, iV a1)], [], 0⟩ hX (by kernel_rfl) allNil ?_
  obtain ⟨v1', hT3, hr⟩ := of_bind hr
  refine HT.join (fun (v1 : Nat) => ⟨[(0, .one (.dat (.flt .f64) v1))], [], 0⟩) (fun v => v = v1') (fun v1 hv2 => ?_) (fun cont => ?_)
  · subst hv2
    refine HT.rg2 (oHs 3) ⟨[(4, bV (fgt .f64 v1 (9218868437227405311 : Nat)))], [], 0⟩ hX (by kernel_rfl) allNil ?_
    have hr := of_some hr
    subst hr
    exact HT.ret ⟨[bV (fgt .f64 v1 (9218868437227405311 : Nat))], [], [], by kernel_rfl, by kernel_rfl, rfl, by kernel_rfl, by kernel_rfl, trivial⟩
  · refine HT.rg2 (oHs 2) ⟨[(0, .one (.dat (.flt .f64) a0)), (1, iV a1), (6, bV (a1 == (0 : Int)))], [], 0⟩ hX (by kernel_rfl) allNil ?_
    rcases of_bif hT3 with ⟨hb4, hT3⟩ | ⟨hb4, hT3⟩
    · refine HT.cond1 rfl hb4 ?_
      obtain ⟨y5, hc6, hT3⟩ := of_bind hT3
      refine HT.rgL [oH, ⟨none, .call [.imm (.flt .f64)] [⟨false, (.flt .f64), y5⟩] []⟩, oH] ⟨[(0, .one (.dat (.flt .f64) y5))], [], 0⟩ hX (by kernel_rfl) (allCons (f142_ok hc6) allNil) (qThen ?_)
      exact (Le.cv (s := ⟨[], [], [], false⟩) (own := []) (ps := [y5 = y5]) (st' := ⟨[(0, .one (.dat (.flt .f64) y5))], [], 0⟩) hO (fun h => by cases h) (by kernel_rfl) ⟨rfl, trivial⟩).ht (cont y5 (of_some hT3))
    · refine HT.cond0 rfl hb4 ?_
      refine HT.rg2 (oHs 2) ⟨[(0, .one (.dat (.flt .f64) a0)), (10, bV (decide (a1 < (0 : Int))))], [], 0⟩ hX (by kernel_rfl) allNil ?_
      rcases of_bif hT3 with ⟨hb7, hT3⟩ | ⟨hb7, hT3⟩
      · refine HT.cond1 rfl hb7 ?_
        refine HT.rgL (oHs 3) ⟨[(0, .one (.dat (.flt .f64) (fneg .f64 a0)))], [], 0⟩ hX (by kernel_rfl) allNil (qThen ?_)
        exact (Le.cv (s := ⟨[], [], [], false⟩) (own := []) (ps := [(fneg .f64 a0) = (fneg .f64 a0)]) (st' := ⟨[(0, .one (.dat (.flt .f64) (fneg .f64 a0)))], [], 0⟩) hO (fun h => by cases h) (by kernel_rfl) ⟨rfl, trivial⟩).ht (cont (fneg .f64 a0) (of_some hT3))
      · refine HT.cond0 rfl hb7 ?_
        refine HT.skip (qThen ?_)
        exact (Le.cv (s := ⟨[], [], [], false⟩) (own := []) (ps := [a0 = a0]) (st' := ⟨[(0, .one (.dat (.flt .f64) a0))], [], 0⟩) hO (fun h => by cases h) (by kernel_rfl) ⟨rfl, trivial⟩).ht (cont a0 (of_some hT3))

noncomputable def spec_l01LogWide_B1 (q19 : Nat) (s21 : Nat × Int) : Option ((Nat × Int) ⊕ (Nat)) :=
  bif (decide (s21.2 ≥ (1 : Int))) then
    some (.inl ((fop .add .f64 (fop .quo .f64 (4607182418800017408 : Nat) (fofint .f64 s21.2)) (fop .mul .f64 (fop .mul .f64 q19 q19) s21.1)), (wsub .i64 s21.2 (2 : Int))))
  else
    some (.inr s21.1)

noncomputable def spec_l01LogWide_B2  (s16 : Nat × Int) : Option ((Nat × Int) ⊕ ((Nat × Int))) :=
  bif (flt .f64 s16.1 (4604930618986332160 : Nat)) then
    some (.inl ((fop .mul .f64 s16.1 (4611686018427387904 : Nat)), (wsub .i64 s16.2 (1 : Int))))
  else
    some (.inr (s16.1, s16.2))

noncomputable def spec_l01LogWide_B3  (s13 : Nat × Int) : Option ((Nat × Int) ⊕ ((Nat × Int))) :=
  bif (fge .f64 s13.1 (4609434218613702656 : Nat)) then
    some (.inl ((fop .quo .f64 s13.1 (4611686018427387904 : Nat)), (wadd .i64 s13.2 (1 : Int))))
  else
    some (.inr (s13.1, s13.2))

noncomputable def spec_l01LogWide (a0 : Nat) : Option (Nat) :=
  (show Option (Bool) from
    bif (!(feq .f64 a0 a0)) then
      some true
    else
      some (flt .f64 a0 (0 : Nat))).bind fun v1 =>
  bif v1 then
    (math_NaN).bind fun y5 =>
    some y5
  else
    bif (feq .f64 a0 (0 : Nat)) then
      (math_Inf (-1 : Int)).bind fun y8 =>
      some y8
    else
      (math_IsInf a0 (1 : Int)).bind fun y10 =>
      bif y10 then
        some a0
      else
        (rounds (spec_l01LogWide_B3) (a0, (0 : Int))).bind fun r15 =>
        (rounds (spec_l01LogWide_B2) (r15.1, r15.2)).bind fun r18 =>
        (some (fop .quo .f64 (fop .sub .f64 r18.1 (4607182418800017408 : Nat)) (fop .add .f64 r18.1 (4607182418800017408 : Nat)))).bind fun q19 =>
        (rounds (spec_l01LogWide_B1 q19) ((0 : Nat), (25 : Int))).bind fun r23 =>
        (some (fop .add .f64 (fop .mul .f64 (4611686018427387904 : Nat) (fop .mul .f64 q19 r23)) (fop .mul .f64 (fofint .f64 r18.2) (4604418534313441775 : Nat)))).bind fun q24 =>
        some q24

theorem f133_ok {a0 : Nat} {r : Nat} (hr : spec_l01LogWide a0 = some r) : CallOK Try.prog 133 [.imm (.flt .f64) a0] [⟨false, (.flt .f64), r⟩] [] := by
  unfold spec_l01LogWide at hr
  refine CallOK.of_body (ts := [(false, (.flt .f64))]) Try.func133 rfl (by kernel_rfl) (Nat.le_of_ble_eq_true (by kernel_rfl)) fun cx hP hN hO hF => ?_
  have hO : cx.own.map Prod.fst = [] := hO
  have hX := CxIs.mk hP hN hO
  have hF := hF rfl
  show HT cx ⟨[(0, .one (.dat (.flt .f64) a0))], [], 0⟩ _ _
  refine HT.rg2 [oH] ⟨[(0, .one (.dat (.flt .f64) a0))], [], 0⟩ hX (by kernel_rfl) allNil ?_
  refine HT.seq ?_
  refine HT.block ?_
  obtain ⟨v1', hT3, hr⟩ := of_bind hr
  refine HT.join (fun (v1 : Bool) => ⟨[(0, .one (.dat (.flt .f64) a0)), (8, bV v1)], [], 0⟩) (fun v => v = v1') (fun v1 hv2 => ?_) (fun cont => ?_)
  · subst hv2
    rcases of_bif hr with ⟨hb4, hr⟩ | ⟨hb4, hr⟩
    · refine HT.cond1 rfl hb4 ?_
      obtain ⟨y5, hc6, hr⟩ := of_bind hr
      refine HT.rg2 [⟨none, .call [] [⟨false, (.flt .f64), y5⟩] []⟩, oH] ⟨[(2, .one (.dat (.flt .f64) y5))], [], 0⟩ hX (by kernel_rfl) (allCons (f135_ok hc6) allNil) ?_
      have hr := of_some hr
      subst hr
      exact HT.ret (qBlockR (qThenR ⟨[.one (.dat (.flt .f64) y5)], [], [], by kernel_rfl, by kernel_rfl, rfl, by kernel_rfl, by kernel_rfl, trivial⟩))
    · refine HT.cond0 rfl hb4 ?_
      refine HT.rg2 (oHs 3) ⟨[(0, .one (.dat (.flt .f64) a0)), (17, bV (feq .f64 a0 (0 : Nat)))], [], 0⟩ hX (by kernel_rfl) allNil ?_
      rcases of_bif hr with ⟨hb7, hr⟩ | ⟨hb7, hr⟩
      · refine HT.cond1 rfl hb7 ?_
        obtain ⟨y8, hc9, hr⟩ := of_bind hr
        refine HT.rg2 [⟨none, .call [.imm tI] [⟨false, (.flt .f64), y8⟩] []⟩, oH] ⟨[(2, .one (.dat (.flt .f64) y8))], [], 0⟩ hX (by kernel_rfl) (allCons (f134_ok hc9) allNil) ?_
        have hr := of_some hr
        subst hr
        exact HT.ret (qBlockR (qThenR ⟨[.one (.dat (.flt .f64) y8)], [], [], by kernel_rfl, by kernel_rfl, rfl, by kernel_rfl, by kernel_rfl, trivial⟩))
      · refine HT.cond0 rfl hb7 ?_
        obtain ⟨y10, hc11, hr⟩ := of_bind hr
        refine HT.rg2 [oH, ⟨none, .call [.imm (.flt .f64), .imm tI] [⟨false, .bool, y10⟩] []⟩, oH] ⟨[(0, .one (.dat (.flt .f64) a0)), (21, bV y10)], [], 0⟩ hX (by kernel_rfl) (allCons (f140_ok hc11) allNil) ?_
        rcases of_bif hr with ⟨hb12, hr⟩ | ⟨hb12, hr⟩
        · refine HT.cond1 rfl hb12 ?_
          refine HT.rg2 (oHs 2) ⟨[(2, .one (.dat (.flt .f64) a0))], [], 0⟩ hX (by kernel_rfl) allNil ?_
          have hr := of_some hr
          subst hr
          exact HT.ret (qBlockR (qThenR ⟨[.one (.dat (.flt .f64) a0)], [], [], by kernel_rfl, by kernel_rfl, rfl, by kernel_rfl, by kernel_rfl, trivial⟩))
        · refine HT.cond0 rfl hb12 ?_
          refine HT.skip (qBlock (qThen ?_))
          refine HT.rg2 [oH] ⟨[(0, .one (.dat (.flt .f64) a0)), (3, iV (0 : Int))], [], 0⟩ hX (by kernel_rfl) allNil ?_
          refine HT.seq ?_
          refine HT.block ?_
          obtain ⟨r14, hL40, hr⟩ := of_bind hr
          refine (Le.cv (s := ⟨[], [], [], false⟩) (own := []) (ps := [a0 = a0, (0 : Int) = (0 : Int)]) (st' := ⟨[(0, .one (.dat (.flt .f64) a0)), (3, iV (0 : Int))], [], 0⟩) hO (fun h => by cases h) (by kernel_rfl) ⟨rfl, rfl, trivial⟩).ht ?_
          refine HT.loopE (s := (a0, (0 : Int))) (fun (s13 : Nat × Int) => ⟨[(0, .one (.dat (.flt .f64) s13.1)), (3, iV s13.2)], [], 0⟩) (fun (r15 : (Nat × Int)) => (.exit 1, ⟨[(0, .one (.dat (.flt .f64) r15.1)), (3, iV r15.2)], [], 0⟩)) hL40 ?_ (fun s13 x36 hx37 hk38 => ?_)
          · refine (qBlockX (qThen ?_))
            refine HT.seq ?_
            refine HT.block ?_
            obtain ⟨r17, hL35, hr⟩ := of_bind hr
            refine (Le.cv (s := ⟨[], [], [], false⟩) (own := []) (ps := [r14.1 = r14.1, r14.2 = r14.2]) (st' := ⟨[(0, .one (.dat (.flt .f64) r14.1)), (3, iV r14.2)], [], 0⟩) hO (fun h => by cases h) (by kernel_rfl) ⟨rfl, rfl, trivial⟩).ht ?_
            refine HT.loopE (s := (r14.1, r14.2)) (fun (s16 : Nat × Int) => ⟨[(0, .one (.dat (.flt .f64) s16.1)), (3, iV s16.2)], [], 0⟩) (fun (r18 : (Nat × Int)) => (.exit 3, ⟨[(0, .one (.dat (.flt .f64) r18.1)), (3, iV r18.2)], [], 0⟩)) hL35 ?_ (fun s16 x31 hx32 hk33 => ?_)
            · refine (qBlockX (qThen ?_))
              refine HT.rg2 (oHs 6) ⟨[(3, iV r17.2), (4, .one (.dat (.flt .f64) (fop .quo .f64 (fop .sub .f64 r17.1 (4607182418800017408 : Nat)) (fop .add .f64 r17.1 (4607182418800017408 : Nat)))))], [], 0⟩ hX (by kernel_rfl) allNil ?_
              obtain ⟨q19, hq20, hr⟩ := of_bind hr
              have hq20 := of_some2 hq20
              refine (Le.cv (s := ⟨[], [], [], false⟩) (own := []) (ps := [r17.2 = r17.2, q19 = (fop .quo .f64 (fop .sub .f64 r17.1 (4607182418800017408 : Nat)) (fop .add .f64 r17.1 (4607182418800017408 : Nat)))]) (st' := ⟨[(3, iV r17.2), (4, .one (.dat (.flt .f64) q19))], [], 0⟩) hO (fun h => by cases h) (by kernel_rfl) ⟨rfl, hq20, trivial⟩).ht ?_
              refine HT.rg2 (oHs 4) ⟨[(3, iV r17.2), (4, .one (.dat (.flt .f64) q19)), (5, .one (.dat (.flt .f64) (fop .mul .f64 q19 q19)))], [], 0⟩ hX (by kernel_rfl) allNil ?_
              refine HT.rg2 [oH] ⟨[(3, iV r17.2), (4, .one (.dat (.flt .f64) q19)), (5, .one (.dat (.flt .f64) (fop .mul .f64 q19 q19))), (6, .one (.dat (.flt .f64) (0 : Nat)))], [], 0⟩ hX (by kernel_rfl) allNil ?_
              refine HT.seq ?_
              refine HT.rg2 [oH] ⟨[(3, iV r17.2), (4, .one (.dat (.flt .f64) q19)), (5, .one (.dat (.flt .f64) (fop .mul .f64 q19 q19))), (6, .one (.dat (.flt .f64) (0 : Nat))), (7, iV (25 : Int))], [], 0⟩ hX (by kernel_rfl) allNil ?_
              refine HT.block ?_
              obtain ⟨r22, hL30, hr⟩ := of_bind hr
              refine (Le.cv (s := ⟨[], [], [], false⟩) (own := []) (ps := [r17.2 = r17.2, q19 = q19, (fop .mul .f64 q19 q19) = (fop .mul .f64 q19 q19), (0 : Nat) = (0 : Nat), (25 : Int) = (25 : Int)]) (st' := ⟨[(3, iV r17.2), (4, .one (.dat (.flt .f64) q19)), (5, .one (.dat (.flt .f64) (fop .mul .f64 q19 q19))), (6, .one (.dat (.flt .f64) (0 : Nat))), (7, iV (25 : Int))], [], 0⟩) hO (fun h => by cases h) (by kernel_rfl) ⟨rfl, rfl, rfl, rfl, rfl, trivial⟩).ht ?_
              refine HT.loopE (s := ((0 : Nat), (25 : Int))) (fun (s21 : Nat × Int) => ⟨[(3, iV r17.2), (4, .one (.dat (.flt .f64) q19)), (5, .one (.dat (.flt .f64) (fop .mul .f64 q19 q19))), (6, .one (.dat (.flt .f64) s21.1)), (7, iV s21.2)], [], 0⟩) (fun (r23 : Nat) => (.exit 5, ⟨[(3, iV r17.2), (4, .one (.dat (.flt .f64) q19)), (6, .one (.dat (.flt .f64) r23))], [], 0⟩)) hL30 ?_ (fun s21 x26 hx27 hk28 => ?_)
              · refine (qBlockX (qThen ?_))
                refine HT.rg2 (oHs 9) ⟨[(2, .one (.dat (.flt .f64) (fop .add .f64 (fop .mul .f64 (4611686018427387904 : Nat) (fop .mul .f64 q19 r22)) (fop .mul .f64 (fofint .f64 r17.2) (4604418534313441775 : Nat)))))], [], 0⟩ hX (by kernel_rfl) allNil ?_
                obtain ⟨q24, hq25, hr⟩ := of_bind hr
                have hq25 := of_some2 hq25
                refine (Le.cv (s := ⟨[], [], [], false⟩) (own := []) (ps := [q24 = (fop .add .f64 (fop .mul .f64 (4611686018427387904 : Nat) (fop .mul .f64 q19 r22)) (fop .mul .f64 (fofint .f64 r17.2) (4604418534313441775 : Nat)))]) (st' := ⟨[(2, .one (.dat (.flt .f64) q24))], [], 0⟩) hO (fun h => by cases h) (by kernel_rfl) ⟨hq25, trivial⟩).ht ?_
                have hr := of_some hr
                subst hr
                exact HT.ret ⟨[.one (.dat (.flt .f64) q24)], [], [], by kernel_rfl, by kernel_rfl, rfl, by kernel_rfl, by kernel_rfl, trivial⟩
              · refine HT.seq ?_
                refine HT.rg2 (oHs 2) ⟨[(3, iV r17.2), (4, .one (.dat (.flt .f64) q19)), (5, .one (.dat (.flt .f64) (fop .mul .f64 q19 q19))), (6, .one (.dat (.flt .f64) s21.1)), (7, iV s21.2), (46, bV (decide (s21.2 ≥ (1 : Int))))], [], 0⟩ hX (by kernel_rfl) allNil ?_
                rcases of_bif hx27 with ⟨hb29, hx27⟩ | ⟨hb29, hx27⟩
                · refine HT.cond1 rfl hb29 ?_
                  refine HT.skip (qThen ?_)
                  refine HT.seq ?_
                  refine HT.block ?_
                  refine HT.rgL (oHs 8) ⟨[(3, iV r17.2), (4, .one (.dat (.flt .f64) q19)), (5, .one (.dat (.flt .f64) (fop .mul .f64 q19 q19))), (6, .one (.dat (.flt .f64) (fop .add .f64 (fop .quo .f64 (4607182418800017408 : Nat) (fofint .f64 s21.2)) (fop .mul .f64 (fop .mul .f64 q19 q19) s21.1)))), (7, iV s21.2)], [], 0⟩ hX (by kernel_rfl) allNil (qBlock (qThen ?_))
                  have hx27 := of_some hx27
                  subst hx27
                  refine HT.rgL (oHs 3) ⟨[(3, iV r17.2), (4, .one (.dat (.flt .f64) q19)), (5, .one (.dat (.flt .f64) (fop .mul .f64 q19 q19))), (6, .one (.dat (.flt .f64) (fop .add .f64 (fop .quo .f64 (4607182418800017408 : Nat) (fofint .f64 s21.2)) (fop .mul .f64 (fop .mul .f64 q19 q19) s21.1)))), (7, iV (wsub .i64 s21.2 (2 : Int)))], [], 0⟩ hX (by kernel_rfl) allNil (qLoopN ⟨((fop .add .f64 (fop .quo .f64 (4607182418800017408 : Nat) (fofint .f64 s21.2)) (fop .mul .f64 (fop .mul .f64 q19 q19) s21.1)), (wsub .i64 s21.2 (2 : Int))), rfl, Le.cv (s := ⟨[], [], [], false⟩) (own := []) (ps := [r17.2 = r17.2, q19 = q19, (fop .mul .f64 q19 q19) = (fop .mul .f64 q19 q19), (fop .add .f64 (fop .quo .f64 (4607182418800017408 : Nat) (fofint .f64 s21.2)) (fop .mul .f64 (fop .mul .f64 q19 q19) s21.1)) = (fop .add .f64 (fop .quo .f64 (4607182418800017408 : Nat) (fofint .f64 s21.2)) (fop .mul .f64 (fop .mul .f64 q19 q19) s21.1)), (wsub .i64 s21.2 (2 : Int)) = (wsub .i64 s21.2 (2 : Int))]) (st' := ⟨[(3, iV r17.2), (4, .one (.dat (.flt .f64) q19)), (5, .one (.dat (.flt .f64) (fop .mul .f64 q19 q19))), (6, .one (.dat (.flt .f64) (fop .add .f64 (fop .quo .f64 (4607182418800017408 : Nat) (fofint .f64 s21.2)) (fop .mul .f64 (fop .mul .f64 q19 q19) s21.1)))), (7, iV (wsub .i64 s21.2 (2 : Int)))], [], 0⟩) hO (fun h => by cases h) (by kernel_rfl) ⟨rfl, rfl, rfl, rfl, rfl, trivial⟩⟩)
                · refine HT.cond0 rfl hb29 ?_
                  have hx27 := of_some hx27
                  subst hx27
                  refine (Le.cv (s := ⟨[], [], [], false⟩) (own := []) (ps := [r17.2 = r17.2, q19 = q19, s21.1 = s21.1]) (st' := ⟨[(3, iV r17.2), (4, .one (.dat (.flt .f64) q19)), (6, .one (.dat (.flt .f64) s21.1))], [], 0⟩) hO (fun h => by cases h) (by kernel_rfl) ⟨rfl, rfl, rfl, trivial⟩).ht ?_
                  exact HT.exit (qThenE (qLoopE (hk28 s21.1 rfl)))
            · refine HT.seq ?_
              refine HT.rg2 (oHs 2) ⟨[(0, .one (.dat (.flt .f64) s16.1)), (3, iV s16.2), (32, bV (flt .f64 s16.1 (4604930618986332160 : Nat)))], [], 0⟩ hX (by kernel_rfl) allNil ?_
              rcases of_bif hx32 with ⟨hb34, hx32⟩ | ⟨hb34, hx32⟩
              · refine HT.cond1 rfl hb34 ?_
                refine HT.skip (qThen ?_)
                refine HT.block ?_
                refine HT.rg2 (oHs 3) ⟨[(0, .one (.dat (.flt .f64) (fop .mul .f64 s16.1 (4611686018427387904 : Nat)))), (3, iV s16.2)], [], 0⟩ hX (by kernel_rfl) allNil ?_
                have hx32 := of_some hx32
                subst hx32
                refine HT.rgL (oHs 3) ⟨[(0, .one (.dat (.flt .f64) (fop .mul .f64 s16.1 (4611686018427387904 : Nat)))), (3, iV (wsub .i64 s16.2 (1 : Int)))], [], 0⟩ hX (by kernel_rfl) allNil (qBlock (qLoopN ⟨((fop .mul .f64 s16.1 (4611686018427387904 : Nat)), (wsub .i64 s16.2 (1 : Int))), rfl, Le.cv (s := ⟨[], [], [], false⟩) (own := []) (ps := [(fop .mul .f64 s16.1 (4611686018427387904 : Nat)) = (fop .mul .f64 s16.1 (4611686018427387904 : Nat)), (wsub .i64 s16.2 (1 : Int)) = (wsub .i64 s16.2 (1 : Int))]) (st' := ⟨[(0, .one (.dat (.flt .f64) (fop .mul .f64 s16.1 (4611686018427387904 : Nat)))), (3, iV (wsub .i64 s16.2 (1 : Int)))], [], 0⟩) hO (fun h => by cases h) (by kernel_rfl) ⟨rfl, rfl, trivial⟩⟩))
              · refine HT.cond0 rfl hb34 ?_
                have hx32 := of_some hx32
                subst hx32
                refine (Le.cv (s := ⟨[], [], [], false⟩) (own := []) (ps := [s16.1 = s16.1, s16.2 = s16.2]) (st' := ⟨[(0, .one (.dat (.flt .f64) s16.1)), (3, iV s16.2)], [], 0⟩) hO (fun h => by cases h) (by kernel_rfl) ⟨rfl, rfl, trivial⟩).ht ?_
                exact HT.exit (qThenE (qLoopE (hk33 (s16.1, s16.2) rfl)))
          · refine HT.seq ?_
            refine HT.rg2 (oHs 2) ⟨[(0, .one (.dat (.flt .f64) s13.1)), (3, iV s13.2), (26, bV (fge .f64 s13.1 (4609434218613702656 : Nat)))], [], 0⟩ hX (by kernel_rfl) allNil ?_
            rcases of_bif hx37 with ⟨hb39, hx37⟩ | ⟨hb39, hx37⟩
            · refine HT.cond1 rfl hb39 ?_
              refine HT.skip (qThen ?_)
              refine HT.block ?_
              refine HT.rg2 (oHs 3) ⟨[(0, .one (.dat (.flt .f64) (fop .quo .f64 s13.1 (4611686018427387904 : Nat)))), (3, iV s13.2)], [], 0⟩ hX (by kernel_rfl) allNil ?_
              have hx37 := of_some hx37
              subst hx37
              refine HT.rgL (oHs 3) ⟨[(0, .one (.dat (.flt .f64) (fop .quo .f64 s13.1 (4611686018427387904 : Nat)))), (3, iV (wadd .i64 s13.2 (1 : Int)))], [], 0⟩ hX (by kernel_rfl) allNil (qBlock (qLoopN ⟨((fop .quo .f64 s13.1 (4611686018427387904 : Nat)), (wadd .i64 s13.2 (1 : Int))), rfl, Le.cv (s := ⟨[], [], [], false⟩) (own := []) (ps := [(fop .quo .f64 s13.1 (4611686018427387904 : Nat)) = (fop .quo .f64 s13.1 (4611686018427387904 : Nat)), (wadd .i64 s13.2 (1 : Int)) = (wadd .i64 s13.2 (1 : Int))]) (st' := ⟨[(0, .one (.dat (.flt .f64) (fop .quo .f64 s13.1 (4611686018427387904 : Nat)))), (3, iV (wadd .i64 s13.2 (1 : Int)))], [], 0⟩) hO (fun h => by cases h) (by kernel_rfl) ⟨rfl, rfl, trivial⟩⟩))
            · refine HT.cond0 rfl hb39 ?_
              have hx37 := of_some hx37
              subst hx37
              refine (Le.cv (s := ⟨[], [], [], false⟩) (own := []) (ps := [s13.1 = s13.1, s13.2 = s13.2]) (st' := ⟨[(0, .one (.dat (.flt .f64) s13.1)), (3, iV s13.2)], [], 0⟩) hO (fun h => by cases h) (by kernel_rfl) ⟨rfl, rfl, trivial⟩).ht ?_
              exact HT.exit (qThenE (qLoopE (hk38 (s13.1, s13.2) rfl)))
  · rcases of_bif hT3 with ⟨hb41, hT3⟩ | ⟨hb41, hT3⟩
    · refine HT.rgL [oH, oH, oH, oH, ⟨some true, .no⟩, ⟨some true, .no⟩, ⟨none, .tv true⟩, oH] ⟨[(0, .one (.dat (.flt .f64) a0)), (8, bV true)], [], 0⟩ hX (by kernel_rfl) (allCons hb41 (allCons hb41 (allCons hb41 allNil))) (qThen ?_)
      exact (Le.cv (s := ⟨[], [], [], false⟩) (own := []) (ps := [a0 = a0, true = true]) (st' := ⟨[(0, .one (.dat (.flt .f64) a0)), (8, bV true)], [], 0⟩) hO (fun h => by cases h) (by kernel_rfl) ⟨rfl, rfl, trivial⟩).ht (cont true (of_some hT3))
    · refine HT.rgL [oH, oH, oH, oH, ⟨some false, .no⟩, ⟨some false, .no⟩, ⟨none, .tv false⟩, oH] ⟨[(0, .one (.dat (.flt .f64) a0)), (8, bV (flt .f64 a0 (0 : Nat)))], [], 0⟩ hX (by kernel_rfl) (allCons hb41 (allCons hb41 (allCons hb41 allNil))) (qThen ?_)
      exact (Le.cv (s := ⟨[], [], [], false⟩) (own := []) (ps := [a0 = a0, (flt .f64 a0 (0 : Nat)) = (flt .f64 a0 (0 : Nat))]) (st' := ⟨[(0, .one (.dat (.flt .f64) a0)), (8, bV (flt .f64 a0 (0 : Nat)))], [], 0⟩) hO (fun h => by cases h) (by kernel_rfl) ⟨rfl, rfl, trivial⟩).ht (cont (flt .f64 a0 (0 : Nat)) (of_some hT3))

noncomputable def spec_l01Narrow (a0 : Nat) : Option (Nat) :=
  guardP (fconvOK .f64 .f32 a0 = true) (
    some (fconv .f64 .f32 a0))

theorem f132_ok {a0 : Nat} {r : Nat} (hr : spec_l01Narrow a0 = some r) : CallOK Try.prog 132 [.imm (.flt .f64) a0] [⟨false, tF, r⟩] [] := by
  unfold spec_l01Narrow at hr
  refine CallOK.of_body (ts := [(false, tF)]) Try.func132 rfl (by kernel_rfl) (Nat.le_of_ble_eq_true (by kernel_rfl)) fun cx hP hN hO hF => ?_
  have hO : cx.own.map Prod.fst = [] := hO
  have hX := CxIs.mk hP hN hO
  have hF := hF rfl
  show HT cx ⟨[(0, .one (.dat (.flt .f64) a0))], [], 0⟩ _ _
  refine HT.rg2 [oH] ⟨[(0, .one (.dat (.flt .f64) a0))], [], 0⟩ hX (by kernel_rfl) allNil ?_
  obtain ⟨hg1, hr⟩ := of_guard hr
  refine HT.rg2 (oHs 3) ⟨[(2, fV (fconv .f64 .f32 a0))], [], 0⟩ hX (by kernel_rfl) (allCons hg1 allNil) ?_
  have hr := of_some hr
  subst hr
  exact HT.ret ⟨[fV (fconv .f64 .f32 a0)], [], [], by kernel_rfl, by kernel_rfl, rfl, by kernel_rfl, by kernel_rfl, trivial⟩

noncomputable def spec_l01Log (a0 : Nat) : Option (Nat) :=
  (spec_l01LogWide (fconv .f32 .f64 a0)).bind fun y1 =>
  (spec_l01Narrow y1).bind fun y3 =>
  some y3

theorem f115_ok {a0 : Nat} {r : Nat} (hr : spec_l01Log a0 = some r) : CallOK Try.prog 115 [.imm tF a0] [⟨false, tF, r⟩] [] := by
  unfold spec_l01Log at hr
  refine CallOK.of_body (ts := [(false, tF)]) Try.func115 rfl (by kernel_rfl) (Nat.le_of_ble_eq_true (by kernel_rfl)) fun cx hP hN hO hF => ?_
  have hO : cx.own.map Prod.fst = [] := hO
  have hX := CxIs.mk hP hN hO
  have hF := hF rfl
  show HT cx ⟨[(0, fV a0)], [], 0⟩ _ _
  refine HT.rg2 [oH] ⟨[(0, fV a0)], [], 0⟩ hX (by kernel_rfl) allNil ?_
  obtain ⟨y1, hc2, hr⟩ := of_bind hr
  obtain ⟨y3, hc4, hr⟩ := of_bind hr
  refine HT.rg2 [oH, oH, ⟨none, .call [.imm (.flt .f64)] [⟨false, (.flt .f64), y1⟩] []⟩, ⟨none, .call [.imm (.flt .f64)] [⟨false, tF, y3⟩] []⟩, oH] ⟨[(2, fV y3)], [], 0⟩ hX (by kernel_rfl) (allCons (show fconvOK .f32 .f64 a0 = true from (fconv_up _)) (allCons (f133_ok hc2) (allCons (f132_ok hc4) allNil))) ?_
  have hr := of_some hr
  subst hr
  exact HT.ret ⟨[fV y3], [], [], by kernel_rfl, by kernel_rfl, rfl, by kernel_rfl, by kernel_rfl, trivial⟩

noncomputable def spec_LogChanceOf_B1 (r16 : Nat) (y19 : List Nat) (s21 : Int × List Nat) : Option ((Int × List Nat) ⊕ (List Nat)) :=
  bif (decide (s21.1 < (lenI y19))) then
    guardP ((0 : Int) ≤ s21.1 ∧ s21.1 < lenI s21.2) (
      some (.inl ((wadd .i64 s21.1 (1 : Int)), (List.set s21.2 (Int.toNat s21.1) (fop .quo .f32 (List.getD s21.2 (Int.toNat s21.1) (0 : Nat)) r16)))))
  else
    some (.inr s21.2)

noncomputable def spec_LogChanceOf_B2 (a0 : Int × Int × List Nat × List Nat × List Nat) (a1 : List Int) (s4 : List Nat × Nat × Int) (s14 : Nat × Int) : Option ((Nat × Int) ⊕ (Nat)) :=
  bif (decide (s14.2 < a0.1)) then
    guardP ((0 : Int) ≤ s14.2 ∧ s14.2 < lenI s4.1) (
      guardP ((0 : Int) ≤ s4.2.2 ∧ s4.2.2 < lenI a1) (
        guardP ((0 : Int) ≤ (wadd .i64 (wmul .i64 s14.2 a0.2.1) (List.getD a1 (Int.toNat s4.2.2) (0 : Int))) ∧ (wadd .i64 (wmul .i64 s14.2 a0.2.1) (List.getD a1 (Int.toNat s4.2.2) (0 : Int))) < lenI a0.2.2.2.2) (
          some (.inl ((fop .add .f32 s14.1 (fop .mul .f32 (List.getD s4.1 (Int.toNat s14.2) (0 : Nat)) (List.getD a0.2.2.2.2 (Int.toNat (wadd .i64 (wmul .i64 s14.2 a0.2.1) (List.getD a1 (Int.toNat s4.2.2) (0 : Int)))) (0 : Nat)))), (wadd .i64 s14.2 (1 : Int)))))))
  else
    some (.inr s14.1)

noncomputable def spec_LogChanceOf_B3 (a0 : Int × Int × List Nat × List Nat × List Nat) (a1 : List Int) (s4 : List Nat × Nat × Int) : Option ((List Nat × Nat × Int) ⊕ (Nat ⊕ Unit)) :=
  bif (decide (s4.2.2 < (lenI a1))) then
    (rounds (spec_LogChanceOf_B2 a0 a1 s4) ((0 : Nat), (0 : Int))).bind fun r16 =>
    bif (!(fgt .f32 r16 (0 : Nat))) then
      some (.inr (.inr ()))
    else
      guardP ((0 : Int) ≤ s4.2.2 ∧ s4.2.2 < lenI a1) (
        (spec_l03Next (a0.1, a0.2.1, a0.2.2.1, a0.2.2.2.1, a0.2.2.2.2) s4.1 (List.getD a1 (Int.toNat s4.2.2) (0 : Int))).bind fun y19 =>
        (rounds (spec_LogChanceOf_B1 r16 y19) ((0 : Int), y19)).bind fun r23 =>
        (spec_l01Log r16).bind fun y24 =>
        some (.inl (r23, (fop .add .f32 s4.2.1 y24), (wadd .i64 s4.2.2 (1 : Int)))))
  else
    some (.inr (.inl s4.2.1))

noncomputable def spec_LogChanceOf (a0 : Int × Int × List Nat × List Nat × List Nat) (a1 : List Int) : Option (Nat × Bool) :=
  (spec_l03Word (a0.1, a0.2.1, a0.2.2.1, a0.2.2.2.1, a0.2.2.2.2) a1).bind fun y1 =>
  bif (!y1) then
    some ((0 : Nat), false)
  else
    (rounds (spec_LogChanceOf_B3 a0 a1) (a0.2.2.1, (0 : Nat), (0 : Int))).bind fun r5 => match r5 with
      | .inl r6 =>
        (spec_l02Number r6).bind fun y7 =>
        some (y7.1, y7.2)
      | .inr r9 =>
        some ((0 : Nat), false)

theorem f94_ok {a0 : Int × Int × List Nat × List Nat × List Nat} {a1 : List Int} {r : Nat × Bool} (hr : spec_LogChanceOf a0 a1 = some r) : CallOK Try.prog 94 [.imm (.st (.pair tI (.pair tI (.pair tLF (.pair tLF tLF))))) a0, .imm tLI a1] [⟨false, tF, r.1⟩, ⟨false, .bool, r.2⟩] [] := by
  unfold spec_LogChanceOf at hr
  refine CallOK.of_body (ts := [(false, tF), (false, .bool)]) Try.func94 rfl (by kernel_rfl) (Nat.le_of_ble_eq_true (by kernel_rfl)) fun cx hP hN hO hF => ?_
  have hO : cx.own.map Prod.fst = [] := hO
  have hX := CxIs.mk hP hN hO
  have hF := hF rfl
  show HT cx ⟨[(0, .agg [iC a0.1, iC a0.2.1, lC a0.2.2.1, lC a0.2.2.2.1, lC a0.2.2.2.2]), (1, nV a1)], [], 0⟩ _ _
  refine HT.rg2 (oHs 3) ⟨[(1, nV a1), (2, pV 0 0)], [(0, .box [iC a0.1, iC a0.2.1, lC a0.2.2.1, lC a0.2.2.2.1, lC a0.2.2.2.2])], 1⟩ hX (by kernel_rfl) allNil ?_
  refine HT.seq ?_
  obtain ⟨y1, hc2, hr⟩ := of_bind hr
  refine HT.rg2 [oH, ⟨none, .call [.pimm (.st (.pair tI (.pair tI (.pair tLF (.pair tLF tLF))))), .imm tLI] [⟨false, .bool, y1⟩] []⟩, oH] ⟨[(1, nV a1), (2, pV 0 0), (15, bV (!y1))], [(0, .box [iC a0.1, iC a0.2.1, lC a0.2.2.1, lC a0.2.2.2.1, lC a0.2.2.2.2])], 1⟩ hX (by kernel_rfl) (allCons (f43_ok hc2) allNil) ?_
  rcases of_bif hr with ⟨hb3, hr⟩ | ⟨hb3, hr⟩
  · refine HT.cond1 rfl hb3 ?_
    refine HT.rg2 (oHs 2) ⟨[(4, fV (0 : Nat)), (5, bV false)], [], 1⟩ hX (by kernel_rfl) allNil ?_
    have hr := of_some hr
    subst hr
    exact HT.ret (qThenR ⟨[fV (0 : Nat), bV false], [], [], by kernel_rfl, by kernel_rfl, rfl, by kernel_rfl, by kernel_rfl, trivial⟩)
  · refine HT.cond0 rfl hb3 ?_
    refine HT.skip (qThen ?_)
    refine HT.rg2 (oHs 3) ⟨[(1, nV a1), (2, pV 0 0), (6, lV a0.2.2.1)], [(0, .box [iC a0.1, iC a0.2.1, lC a0.2.2.1, lC a0.2.2.2.1, lC a0.2.2.2.2])], 1⟩ hX (by kernel_rfl) allNil ?_
    refine HT.rg2 [oH] ⟨[(1, nV a1), (2, pV 0 0), (6, lV a0.2.2.1), (7, fV (0 : Nat))], [(0, .box [iC a0.1, iC a0.2.1, lC a0.2.2.1, lC a0.2.2.2.1, lC a0.2.2.2.2])], 1⟩ hX (by kernel_rfl) allNil ?_
    refine HT.seq ?_
    refine HT.rg2 (oHs 3) ⟨[(1, nV a1), (2, pV 0 0), (6, lV a0.2.2.1), (7, fV (0 : Nat)), (19, iV (lenI a1)), (20, iV (0 : Int))], [(0, .box [iC a0.1, iC a0.2.1, lC a0.2.2.1, lC a0.2.2.2.1, lC a0.2.2.2.2])], 1⟩ hX (by kernel_rfl) allNil ?_
    refine HT.block ?_
    obtain ⟨r5, hL40, hr⟩ := of_bind hr
    refine (Le.cv (s := ⟨[(0, 0)], [], [], false⟩) (own := []) (ps := [a1 = a1, a0.2.2.1 = a0.2.2.1, (0 : Nat) = (0 : Nat), (lenI a1) = (lenI a1), (0 : Int) = (0 : Int), a0.1 = a0.1, a0.2.1 = a0.2.1, a0.2.2.1 = a0.2.2.1, a0.2.2.2.1 = a0.2.2.2.1, a0.2.2.2.2 = a0.2.2.2.2]) (st' := ⟨[(1, nV a1), (2, pV 0 0), (6, lV a0.2.2.1), (7, fV (0 : Nat)), (19, iV (lenI a1)), (20, iV (0 : Int))], [(0, .box [iC a0.1, iC a0.2.1, lC a0.2.2.1, lC a0.2.2.2.1, lC a0.2.2.2.2])], 1⟩) hO (fun h => by cases h) (by kernel_rfl) ⟨rfl, rfl, rfl, rfl, rfl, rfl, rfl, rfl, rfl, rfl, trivial⟩).ht ?_
    refine HT.loopE (s := (a0.2.2.1, (0 : Nat), (0 : Int))) (fun (s4 : List Nat × Nat × Int) => ⟨[(1, nV a1), (2, pV 0 0), (6, lV s4.1), (7, fV s4.2.1), (19, iV (lenI a1)), (20, iV s4.2.2)], [(0, .box [iC a0.1, iC a0.2.1, lC a0.2.2.1, lC a0.2.2.2.1, lC a0.2.2.2.2])], 1⟩) (fun (r5 : Nat ⊕ Unit) => match r5 with | .inl r6 => (.exit 0, ⟨[(7, fV r6)], [], 0⟩) | .inr r9 => (.ret, ⟨[(4, fV (0 : Nat)), (5, bV false)], [], 0⟩)) hL40 ?_ (fun s4 x10 hx11 hk12 => ?_)
    · rcases r5 with r6 | r9
      · refine (qBlockX (qThen ?_))
        obtain ⟨y7, hc8, hr⟩ := of_bind hr
        refine HT.rg2 [oH, ⟨none, .call [.imm tF] [⟨false, tF, y7.1⟩, ⟨false, .bool, y7.2⟩] []⟩, oH, oH, oH, oH] ⟨[(4, fV y7.1), (5, bV y7.2)], [], 0⟩ hX (by kernel_rfl) (allCons (f116_ok hc8) allNil) ?_
        have hr := of_some hr
        subst hr
        exact HT.ret ⟨[fV y7.1, bV y7.2], [], [], by kernel_rfl, by kernel_rfl, rfl, by kernel_rfl, by kernel_rfl, trivial⟩
      · have hr := of_some hr
        subst hr
        exact (qBlockR (qThenR ⟨[fV (0 : Nat), bV false], [], [], by kernel_rfl, by kernel_rfl, rfl, by kernel_rfl, by kernel_rfl, trivial⟩))
    · refine HT.rg2 [oH] ⟨[(1, nV a1), (2, pV 0 0), (6, lV s4.1), (7, fV s4.2.1), (19, iV (lenI a1)), (20, iV s4.2.2), (21, bV (decide (s4.2.2 < (lenI a1))))], [(0, .box [iC a0.1, iC a0.2.1, lC a0.2.2.1, lC a0.2.2.2.1, lC a0.2.2.2.2])], 1⟩ hX (by kernel_rfl) allNil ?_
      refine HT.seq ?_
      rcases of_bif hx11 with ⟨hb13, hx11⟩ | ⟨hb13, hx11⟩
      · refine HT.cond1 rfl hb13 ?_
        refine HT.skip (qThen ?_)
        refine HT.seq ?_
        refine HT.block ?_
        refine HT.rg2 (oHs 2) ⟨[(1, nV a1), (2, pV 0 0), (6, lV s4.1), (7, fV s4.2.1), (8, iV s4.2.2), (19, iV (lenI a1)), (20, iV s4.2.2)], [(0, .box [iC a0.1, iC a0.2.1, lC a0.2.2.1, lC a0.2.2.2.1, lC a0.2.2.2.2])], 1⟩ hX (by kernel_rfl) allNil ?_
        refine HT.rg2 [oH] ⟨[(1, nV a1), (2, pV 0 0), (6, lV s4.1), (7, fV s4.2.1), (8, iV s4.2.2), (9, fV (0 : Nat)), (19, iV (lenI a1)), (20, iV s4.2.2)], [(0, .box [iC a0.1, iC a0.2.1, lC a0.2.2.1, lC a0.2.2.2.1, lC a0.2.2.2.2])], 1⟩ hX (by kernel_rfl) allNil ?_
        refine HT.seq ?_
        refine HT.rg2 [oH] ⟨[(1, nV a1), (2, pV 0 0), (6, lV s4.1), (7, fV s4.2.1), (8, iV s4.2.2), (9, fV (0 : Nat)), (10, iV (0 : Int)), (19, iV (lenI a1)), (20, iV s4.2.2)], [(0, .box [iC a0.1, iC a0.2.1, lC a0.2.2.1, lC a0.2.2.2.1, lC a0.2.2.2.2])], 1⟩ hX (by kernel_rfl) allNil ?_
        refine HT.block ?_
        obtain ⟨r15, hL39, hx11⟩ := of_bind hx11
        refine (Le.cv (s := ⟨[(0, 0)], [], [], false⟩) (own := []) (ps := [a1 = a1, s4.1 = s4.1, s4.2.1 = s4.2.1, s4.2.2 = s4.2.2, (0 : Nat) = (0 : Nat), (0 : Int) = (0 : Int), (lenI a1) = (lenI a1), s4.2.2 = s4.2.2, a0.1 = a0.1, a0.2.1 = a0.2.1, a0.2.2.1 = a0.2.2.1, a0.2.2.2.1 = a0.2.2.2.1, a0.2.2.2.2 = a0.2.2.2.2]) (st' := ⟨[(1, nV a1), (2, pV 0 0), (6, lV s4.1), (7, fV s4.2.1), (8, iV s4.2.2), (9, fV (0 : Nat)), (10, iV (0 : Int)), (19, iV (lenI a1)), (20, iV s4.2.2)], [(0, .box [iC a0.1, iC a0.2.1, lC a0.2.2.1, lC a0.2.2.2.1, lC a0.2.2.2.2])], 1⟩) hO (fun h => by cases h) (by kernel_rfl) ⟨rfl, rfl, rfl, rfl, rfl, rfl, rfl, rfl, rfl, rfl, rfl, rfl, rfl, trivial⟩).ht ?_
        refine HT.loopE (s := ((0 : Nat), (0 : Int))) (fun (s14 : Nat × Int) => ⟨[(1, nV a1), (2, pV 0 0), (6, lV s4.1), (7, fV s4.2.1), (8, iV s4.2.2), (9, fV s14.1), (10, iV s14.2), (19, iV (lenI a1)), (20, iV s4.2.2)], [(0, .box [iC a0.1, iC a0.2.1, lC a0.2.2.1, lC a0.2.2.2.1, lC a0.2.2.2.2])], 1⟩) (fun (r16 : Nat) => (.exit 2, ⟨[(1, nV a1), (2, pV 0 0), (6, lV s4.1), (7, fV s4.2.1), (8, iV s4.2.2), (9, fV r16), (19, iV (lenI a1)), (20, iV s4.2.2)], [(0, .box [iC a0.1, iC a0.2.1, lC a0.2.2.1, lC a0.2.2.2.1, lC a0.2.2.2.2])], 1⟩)) hL39 ?_ (fun s14 x32 hx33 hk34 => ?_)
        · refine (qBlockX (qThen ?_))
          refine HT.seq ?_
          refine HT.rg2 (oHs 3) ⟨[(1, nV a1), (2, pV 0 0), (6, lV s4.1), (7, fV s4.2.1), (8, iV s4.2.2), (9, fV r15), (19, iV (lenI a1)), (20, iV s4.2.2), (51, bV (!(fgt .f32 r15 (0 : Nat))))], [(0, .box [iC a0.1, iC a0.2.1, lC a0.2.2.1, lC a0.2.2.2.1, lC a0.2.2.2.2])], 1⟩ hX (by kernel_rfl) allNil ?_
          rcases of_bif hx11 with ⟨hb17, hx11⟩ | ⟨hb17, hx11⟩
          · refine HT.cond1 rfl hb17 ?_
            refine HT.rg2 (oHs 2) ⟨[(4, fV (0 : Nat)), (5, bV false)], [], 1⟩ hX (by kernel_rfl) allNil ?_
            have hx11 := of_some hx11
            subst hx11
            refine (Le.cv (s := ⟨[], [], [], false⟩) (own := []) (ps := [(0 : Nat) = (0 : Nat), false = false]) (st' := ⟨[(4, fV (0 : Nat)), (5, bV false)], [], 0⟩) hO (fun h => by cases h) (by kernel_rfl) ⟨rfl, rfl, trivial⟩).ht ?_
            exact HT.ret (qThenR (qBlockR (qThenR (qLoopR (hk12 (.inr ()) rfl)))))
          · refine HT.cond0 rfl hb17 ?_
            refine HT.skip (qThen ?_)
            obtain ⟨hg18, hx11⟩ := of_guard hx11
            obtain ⟨y19, hc20, hx11⟩ := of_bind hx11
            refine HT.rg2 [oH, oH, oH, oH, oH, ⟨none, .call [.pimm (.st (.pair tI (.pair tI (.pair tLF (.pair tLF tLF))))), .imm tLF, .imm tI] [⟨true, tLF, y19⟩] []⟩, oH] ⟨[(1, nV a1), (2, pV 0 0), (7, fV s4.2.1), (9, fV r15), (11, aV 1), (19, iV (lenI a1)), (20, iV s4.2.2)], [(1, .seq tF y19), (0, .box [iC a0.1, iC a0.2.1, lC a0.2.2.1, lC a0.2.2.2.1, lC a0.2.2.2.2])], 2⟩ hX (by kernel_rfl) (allCons hg18 (allCons (f108_ok hc20) allNil)) ?_
            refine HT.seq ?_
            refine HT.rg2 (oHs 3) ⟨[(1, nV a1), (2, pV 0 0), (7, fV s4.2.1), (9, fV r15), (11, aV 1), (19, iV (lenI a1)), (20, iV s4.2.2), (59, iV (lenI y19)), (60, iV (0 : Int))], [(1, .seq tF y19), (0, .box [iC a0.1, iC a0.2.1, lC a0.2.2.1, lC a0.2.2.2.1, lC a0.2.2.2.2])], 2⟩ hX (by kernel_rfl) allNil ?_
            refine HT.block ?_
            obtain ⟨r22, hL31, hx11⟩ := of_bind hx11
            refine (Le.cv (s := ⟨[(0, 0), (1, 1)], [], [], false⟩) (own := []) (ps := [a1 = a1, s4.2.1 = s4.2.1, r15 = r15, (lenI a1) = (lenI a1), s4.2.2 = s4.2.2, (lenI y19) = (lenI y19), (0 : Int) = (0 : Int), a0.1 = a0.1, a0.2.1 = a0.2.1, a0.2.2.1 = a0.2.2.1, a0.2.2.2.1 = a0.2.2.2.1, a0.2.2.2.2 = a0.2.2.2.2, y19 = y19]) (st' := ⟨[(1, nV a1), (2, pV 0 0), (7, fV s4.2.1), (9, fV r15), (11, aV 1), (19, iV (lenI a1)), (20, iV s4.2.2), (59, iV (lenI y19)), (60, iV (0 : Int))], [(0, .box [iC a0.1, iC a0.2.1, lC a0.2.2.1, lC a0.2.2.2.1, lC a0.2.2.2.2]), (1, .seq tF y19)], 2⟩) hO (fun h => by cases h) (by kernel_rfl) ⟨rfl, rfl, rfl, rfl, rfl, rfl, rfl, rfl, rfl, rfl, rfl, rfl, rfl, trivial⟩).ht ?_
            refine HT.loopE (s := ((0 : Int), y19)) (fun (s21 : Int × List Nat) => ⟨[(1, nV a1), (2, pV 0 0), (7, fV s4.2.1), (9, fV r15), (11, aV 1), (19, iV (lenI a1)), (20, iV s4.2.2), (59, iV (lenI y19)), (60, iV s21.1)], [(0, .box [iC a0.1, iC a0.2.1, lC a0.2.2.1, lC a0.2.2.2.1, lC a0.2.2.2.2]), (1, .seq tF s21.2)], 2⟩) (fun (r23 : List Nat) => (.exit 4, ⟨[(1, nV a1), (2, pV 0 0), (7, fV s4.2.1), (9, fV r15), (11, aV 1), (19, iV (lenI a1)), (20, iV s4.2.2)], [(0, .box [iC a0.1, iC a0.2.1, lC a0.2.2.1, lC a0.2.2.2.1, lC a0.2.2.2.2]), (1, .seq tF r23)], 2⟩)) hL31 ?_ (fun s21 x26 hx27 hk28 => ?_)
            · refine (qBlockX (qThen ?_))
              refine HT.rg2 (oHs 2) ⟨[(1, nV a1), (2, pV 0 0), (6, aV 1), (7, fV s4.2.1), (9, fV r15), (19, iV (lenI a1)), (20, iV s4.2.2)], [(0, .box [iC a0.1, iC a0.2.1, lC a0.2.2.1, lC a0.2.2.2.1, lC a0.2.2.2.2]), (1, .seq tF r22)], 2⟩ hX (by kernel_rfl) allNil ?_
              obtain ⟨y24, hc25, hx11⟩ := of_bind hx11
              refine HT.rgL [oH, oH, ⟨none, .call [.imm tF] [⟨false, tF, y24⟩] []⟩, oH, oH] ⟨[(1, nV a1), (2, pV 0 0), (6, aV 1), (7, fV (fop .add .f32 s4.2.1 y24)), (19, iV (lenI a1)), (20, iV s4.2.2)], [(0, .box [iC a0.1, iC a0.2.1, lC a0.2.2.1, lC a0.2.2.2.1, lC a0.2.2.2.2]), (1, .seq tF r22)], 2⟩ hX (by kernel_rfl) (allCons (f115_ok hc25) allNil) (qBlock (qThen ?_))
              have hx11 := of_some hx11
              subst hx11
              refine HT.rgL (oHs 2) ⟨[(1, nV a1), (2, pV 0 0), (6, aV 1), (7, fV (fop .add .f32 s4.2.1 y24)), (19, iV (lenI a1)), (20, iV (wadd .i64 s4.2.2 (1 : Int)))], [(0, .box [iC a0.1, iC a0.2.1, lC a0.2.2.1, lC a0.2.2.2.1, lC a0.2.2.2.2]), (1, .seq tF r22)], 2⟩ hX (by kernel_rfl) allNil (qLoopN ⟨(r22, (fop .add .f32 s4.2.1 y24), (wadd .i64 s4.2.2 (1 : Int))), rfl, Le.cv (s := ⟨[(0, 0)], [], [], true⟩) (own := []) (ps := [a1 = a1, r22 = r22, (fop .add .f32 s4.2.1 y24) = (fop .add .f32 s4.2.1 y24), (lenI a1) = (lenI a1), (wadd .i64 s4.2.2 (1 : Int)) = (wadd .i64 s4.2.2 (1 : Int)), a0.1 = a0.1, a0.2.1 = a0.2.1, a0.2.2.1 = a0.2.2.1, a0.2.2.2.1 = a0.2.2.2.1, a0.2.2.2.2 = a0.2.2.2.2]) (st' := ⟨[(1, nV a1), (2, pV 0 0), (6, lV r22), (7, fV (fop .add .f32 s4.2.1 y24)), (19, iV (lenI a1)), (20, iV (wadd .i64 s4.2.2 (1 : Int)))], [(0, .box [iC a0.1, iC a0.2.1, lC a0.2.2.1, lC a0.2.2.2.1, lC a0.2.2.2.2])], 1⟩) hO (fun _ => hF) (by kernel_rfl) ⟨rfl, rfl, rfl, rfl, rfl, rfl, rfl, rfl, rfl, rfl, trivial⟩⟩)
            · refine HT.rg2 [oH] ⟨[(1, nV a1), (2, pV 0 0), (7, fV s4.2.1), (9, fV r15), (11, aV 1), (19, iV (lenI a1)), (20, iV s4.2.2), (59, iV (lenI y19)), (60, iV s21.1), (61, bV (decide (s21.1 < (lenI y19))))], [(0, .box [iC a0.1, iC a0.2.1, lC a0.2.2.1, lC a0.2.2.2.1, lC a0.2.2.2.2]), (1, .seq tF s21.2)], 2⟩ hX (by kernel_rfl) allNil ?_
              refine HT.seq ?_
              rcases of_bif hx27 with ⟨hb29, hx27⟩ | ⟨hb29, hx27⟩
              · refine HT.cond1 rfl hb29 ?_
                refine HT.skip (qThen ?_)
                refine HT.seq ?_
                refine HT.block ?_
                refine HT.rg2 (oHs 2) ⟨[(1, nV a1), (2, pV 0 0), (7, fV s4.2.1), (9, fV r15), (11, aV 1), (12, iV s21.1), (19, iV (lenI a1)), (20, iV s4.2.2), (59, iV (lenI y19)), (60, iV s21.1)], [(0, .box [iC a0.1, iC a0.2.1, lC a0.2.2.1, lC a0.2.2.2.1, lC a0.2.2.2.2]), (1, .seq tF s21.2)], 2⟩ hX (by kernel_rfl) allNil ?_
                obtain ⟨hg30, hx27⟩ := of_guard hx27
                refine HT.rgL (oHs 10) ⟨[(1, nV a1), (2, pV 0 0), (7, fV s4.2.1), (9, fV r15), (11, aV 1), (19, iV (lenI a1)), (20, iV s4.2.2), (59, iV (lenI y19)), (60, iV s21.1)], [(1, .seq tF (List.set s21.2 (Int.toNat s21.1) (fop .quo .f32 (List.getD s21.2 (Int.toNat s21.1) (0 : Nat)) r15))), (0, .box [iC a0.1, iC a0.2.1, lC a0.2.2.1, lC a0.2.2.2.1, lC a0.2.2.2.2])], 2⟩ hX (by kernel_rfl) (allCons hg30 (allCons (natLt hg30) (allCons hg30 (allCons (natLt hg30) allNil)))) (qBlock (qThen ?_))
                have hx27 := of_some hx27
                subst hx27
                refine HT.rgL (oHs 2) ⟨[(1, nV a1), (2, pV 0 0), (7, fV s4.2.1), (9, fV r15), (11, aV 1), (19, iV (lenI a1)), (20, iV s4.2.2), (59, iV (lenI y19)), (60, iV (wadd .i64 s21.1 (1 : Int)))], [(1, .seq tF (List.set s21.2 (Int.toNat s21.1) (fop .quo .f32 (List.getD s21.2 (Int.toNat s21.1) (0 : Nat)) r15))), (0, .box [iC a0.1, iC a0.2.1, lC a0.2.2.1, lC a0.2.2.2.1, lC a0.2.2.2.2])], 2⟩ hX (by kernel_rfl) allNil (qLoopN ⟨((wadd .i64 s21.1 (1 : Int)), (List.set s21.2 (Int.toNat s21.1) (fop .quo .f32 (List.getD s21.2 (Int.toNat s21.1) (0 : Nat)) r15))), rfl, Le.cv (s := ⟨[(0, 0), (1, 1)], [], [], false⟩) (own := []) (ps := [a1 = a1, s4.2.1 = s4.2.1, r15 = r15, (lenI a1) = (lenI a1), s4.2.2 = s4.2.2, (lenI y19) = (lenI y19), (wadd .i64 s21.1 (1 : Int)) = (wadd .i64 s21.1 (1 : Int)), a0.1 = a0.1, a0.2.1 = a0.2.1, a0.2.2.1 = a0.2.2.1, a0.2.2.2.1 = a0.2.2.2.1, a0.2.2.2.2 = a0.2.2.2.2, (List.set s21.2 (Int.toNat s21.1) (fop .quo .f32 (List.getD s21.2 (Int.toNat s21.1) (0 : Nat)) r15)) = (List.set s21.2 (Int.toNat s21.1) (fop .quo .f32 (List.getD s21.2 (Int.toNat s21.1) (0 : Nat)) r15))]) (st' := ⟨[(1, nV a1), (2, pV 0 0), (7, fV s4.2.1), (9, fV r15), (11, aV 1), (19, iV (lenI a1)), (20, iV s4.2.2), (59, iV (lenI y19)), (60, iV (wadd .i64 s21.1 (1 : Int)))], [(0, .box [iC a0.1, iC a0.2.1, lC a0.2.2.1, lC a0.2.2.2.1, lC a0.2.2.2.2]), (1, .seq tF (List.set s21.2 (Int.toNat s21.1) (fop .quo .f32 (List.getD s21.2 (Int.toNat s21.1) (0 : Nat)) r15)))], 2⟩) hO (fun h => by cases h) (by kernel_rfl) ⟨rfl, rfl, rfl, rfl, rfl, rfl, rfl, rfl, rfl, rfl, rfl, rfl, rfl, trivial⟩⟩)
              · refine HT.cond0 rfl hb29 ?_
                have hx27 := of_some hx27
                subst hx27
                refine (Le.cv (s := ⟨[(0, 0), (1, 1)], [], [], false⟩) (own := []) (ps := [a1 = a1, s4.2.1 = s4.2.1, r15 = r15, (lenI a1) = (lenI a1), s4.2.2 = s4.2.2, a0.1 = a0.1, a0.2.1 = a0.2.1, a0.2.2.1 = a0.2.2.1, a0.2.2.2.1 = a0.2.2.2.1, a0.2.2.2.2 = a0.2.2.2.2, s21.2 = s21.2]) (st' := ⟨[(1, nV a1), (2, pV 0 0), (7, fV s4.2.1), (9, fV r15), (11, aV 1), (19, iV (lenI a1)), (20, iV s4.2.2)], [(0, .box [iC a0.1, iC a0.2.1, lC a0.2.2.1, lC a0.2.2.2.1, lC a0.2.2.2.2]), (1, .seq tF s21.2)], 2⟩) hO (fun h => by cases h) (by kernel_rfl) ⟨rfl, rfl, rfl, rfl, rfl, rfl, rfl, rfl, rfl, rfl, rfl, trivial⟩).ht ?_
                exact HT.exit (qThenE (qLoopE (hk28 s21.2 rfl)))
        · refine HT.seq ?_
          refine HT.rg2 (oHs 4) ⟨[(1, nV a1), (2, pV 0 0), (6, lV s4.1), (7, fV s4.2.1), (8, iV s4.2.2), (9, fV s14.1), (10, iV s14.2), (19, iV (lenI a1)), (20, iV s4.2.2), (26, bV (decide (s14.2 < a0.1)))], [(0, .box [iC a0.1, iC a0.2.1, lC a0.2.2.1, lC a0.2.2.2.1, lC a0.2.2.2.2])], 1⟩ hX (by kernel_rfl) allNil ?_
          rcases of_bif hx33 with ⟨hb35, hx33⟩ | ⟨hb35, hx33⟩
          · refine HT.cond1 rfl hb35 ?_
            refine HT.skip (qThen ?_)
            refine HT.seq ?_
            refine HT.block ?_
            obtain ⟨hg36, hx33⟩ := of_guard hx33
            obtain ⟨hg37, hx33⟩ := of_guard hx33
            obtain ⟨hg38, hx33⟩ := of_guard hx33
            refine HT.drL 19 [⟨oH, []⟩, ⟨oH, []⟩, ⟨oH, []⟩, ⟨oH, [1, 2]⟩, ⟨oH, [1, 2, 3]⟩, ⟨oH, []⟩, ⟨oH, [5]⟩, ⟨oH, []⟩, ⟨oH, []⟩, ⟨oH, [8]⟩, ⟨oH, [7, 8, 9]⟩, ⟨oH, []⟩, ⟨oH, []⟩, ⟨oH, [11, 12]⟩, ⟨oH, [11, 12, 13]⟩, ⟨oH, [7, 8, 9, 10, 11, 12, 13, 14]⟩, ⟨oH, [5, 6, 7, 8, 9, 10, 11, 12, 13, 14, 15]⟩, ⟨oH, [5, 6, 7, 8, 9, 10, 11, 12, 13, 14, 15, 16]⟩, ⟨oH, [1, 2, 3, 4, 5, 6, 7, 8, 9, 10, 11, 12, 13, 14, 15, 16, 17]⟩] [[0, 1, 2, 3, 4, 5, 6, 7, 8, 9, 10, 11, 12, 13, 14, 15, 16, 17, 18], [0, 1, 2, 3, 4, 5, 6, 7, 8, 9, 10, 11, 12, 13, 14, 15, 16, 17, 18, 19]] (oHs 2) ⟨[(1, nV a1), (2, pV 0 0), (6, lV s4.1), (7, fV s4.2.1), (8, iV s4.2.2), (9, fV (fop .add .f32 s14.1 (fop .mul .f32 (List.getD s4.1 (Int.toNat s14.2) (0 : Nat)) (List.getD a0.2.2.2.2 (Int.toNat (wadd .i64 (wmul .i64 s14.2 a0.2.1) (List.getD a1 (Int.toNat s4.2.2) (0 : Int)))) (0 : Nat))))), (10, iV s14.2), (19, iV (lenI a1)), (20, iV s4.2.2)], [(0, .box [iC a0.1, iC a0.2.1, lC a0.2.2.1, lC a0.2.2.2.1, lC a0.2.2.2.2])], 1⟩ hX (by kernel_rfl) (by kernel_rfl) (allCons hg36 (allCons hg37 (allCons hg38 allNil))) (qBlock (qThen ?_))
            have hx33 := of_some hx33
            subst hx33
            refine HT.rgL (oHs 3) ⟨[(1, nV a1), (2, pV 0 0), (6, lV s4.1), (7, fV s4.2.1), (8, iV s4.2.2), (9, fV (fop .add .f32 s14.1 (fop .mul .f32 (List.getD s4.1 (Int.toNat s14.2) (0 : Nat)) (List.getD a0.2.2.2.2 (Int.toNat (wadd .i64 (wmul .i64 s14.2 a0.2.1) (List.getD a1 (Int.toNat s4.2.2) (0 : Int)))) (0 : Nat))))), (10, iV (wadd .i64 s14.2 (1 : Int))), (19, iV (lenI a1)), (20, iV s4.2.2)], [(0, .box [iC a0.1, iC a0.2.1, lC a0.2.2.1, lC a0.2.2.2.1, lC a0.2.2.2.2])], 1⟩ hX (by kernel_rfl) allNil (qLoopN ⟨((fop .add .f32 s14.1 (fop .mul .f32 (List.getD s4.1 (Int.toNat s14.2) (0 : Nat)) (List.getD a0.2.2.2.2 (Int.toNat (wadd .i64 (wmul .i64 s14.2 a0.2.1) (List.getD a1 (Int.toNat s4.2.2) (0 : Int)))) (0 : Nat)))), (wadd .i64 s14.2 (1 : Int))), rfl, Le.cv (s := ⟨[(0, 0)], [], [], false⟩) (own := []) (ps := [a1 = a1, s4.1 = s4.1, s4.2.1 = s4.2.1, s4.2.2 = s4.2.2, (fop .add .f32 s14.1 (fop .mul .f32 (List.getD s4.1 (Int.toNat s14.2) (0 : Nat)) (List.getD a0.2.2.2.2 (Int.toNat (wadd .i64 (wmul .i64 s14.2 a0.2.1) (List.getD a1 (Int.toNat s4.2.2) (0 : Int)))) (0 : Nat)))) = (fop .add .f32 s14.1 (fop .mul .f32 (List.getD s4.1 (Int.toNat s14.2) (0 : Nat)) (List.getD a0.2.2.2.2 (Int.toNat (wadd .i64 (wmul .i64 s14.2 a0.2.1) (List.getD a1 (Int.toNat s4.2.2) (0 : Int)))) (0 : Nat)))), (wadd .i64 s14.2 (1 : Int)) = (wadd .i64 s14.2 (1 : Int)), (lenI a1) = (lenI a1), s4.2.2 = s4.2.2, a0.1 = a0.1, a0.2.1 = a0.2.1, a0.2.2.1 = a0.2.2.1, a0.2.2.2.1 = a0.2.2.2.1, a0.2.2.2.2 = a0.2.2.2.2]) (st' := ⟨[(1, nV a1), (2, pV 0 0), (6, lV s4.1), (7, fV s4.2.1), (8, iV s4.2.2), (9, fV (fop .add .f32 s14.1 (fop .mul .f32 (List.getD s4.1 (Int.toNat s14.2) (0 : Nat)) (List.getD a0.2.2.2.2 (Int.toNat (wadd .i64 (wmul .i64 s14.2 a0.2.1) (List.getD a1 (Int.toNat s4.2.2) (0 : Int)))) (0 : Nat))))), (10, iV (wadd .i64 s14.2 (1 : Int))), (19, iV (lenI a1)), (20, iV s4.2.2)], [(0, .box [iC a0.1, iC a0.2.1, lC a0.2.2.1, lC a0.2.2.2.1, lC a0.2.2.2.2])], 1⟩) hO (fun h => by cases h) (by kernel_rfl) ⟨rfl, rfl, rfl, rfl, rfl, rfl, rfl, rfl, rfl, rfl, rfl, rfl, rfl, trivial⟩⟩)
          · refine HT.cond0 rfl hb35 ?_
            have hx33 := of_some hx33
            subst hx33
            refine (Le.cv (s := ⟨[(0, 0)], [], [], false⟩) (own := []) (ps := [a1 = a1, s4.1 = s4.1, s4.2.1 = s4.2.1, s4.2.2 = s4.2.2, s14.1 = s14.1, (lenI a1) = (lenI a1), s4.2.2 = s4.2.2, a0.1 = a0.1, a0.2.1 = a0.2.1, a0.2.2.1 = a0.2.2.1, a0.2.2.2.1 = a0.2.2.2.1, a0.2.2.2.2 = a0.2.2.2.2]) (st' := ⟨[(1, nV a1), (2, pV 0 0), (6, lV s4.1), (7, fV s4.2.1), (8, iV s4.2.2), (9, fV s14.1), (19, iV (lenI a1)), (20, iV s4.2.2)], [(0, .box [iC a0.1, iC a0.2.1, lC a0.2.2.1, lC a0.2.2.2.1, lC a0.2.2.2.2])], 1⟩) hO (fun h => by cases h) (by kernel_rfl) ⟨rfl, rfl, rfl, rfl, rfl, rfl, rfl, rfl, rfl, rfl, rfl, rfl, trivial⟩).ht ?_
            exact HT.exit (qThenE (qLoopE (hk34 s14.1 rfl)))
      · refine HT.cond0 rfl hb13 ?_
        have hx11 := of_some hx11
        subst hx11
        refine (Le.cv (s := ⟨[], [], [], false⟩) (own := []) (ps := [s4.2.1 = s4.2.1]) (st' := ⟨[(7, fV s4.2.1)], [], 0⟩) hO (fun h => by cases h) (by kernel_rfl) ⟨rfl, trivial⟩).ht ?_
        exact HT.exit (qThenE (qLoopE (hk12 (.inl s4.2.1) rfl)))

noncomputable def spec_l03Likes_B1 (a0 : Int × Int × List Nat × List Nat × List Nat) (a1 : List (List Int)) (s1 : Int × List Nat) : Option ((Int × List Nat) ⊕ (List Nat ⊕ Unit)) :=
  bif (decide (s1.1 < (lenI a1))) then
    guardP ((0 : Int) ≤ s1.1 ∧ s1.1 < lenI a1) (
      (spec_LogChanceOf (a0.1, a0.2.1, a0.2.2.1, a0.2.2.2.1, a0.2.2.2.2) (List.getD a1 (Int.toNat s1.1) ([] : List Int))).bind fun y10 =>
      bif (!y10.2) then
        some (.inr (.inr ()))
      else
        guardP (List.length s1.2 + List.length ([y10.1] : List Nat) ≤ appMax) (
          some (.inl ((wadd .i64 s1.1 (1 : Int)), (s1.2 ++ ([y10.1] : List Nat))))))
  else
    some (.inr (.inl s1.2))

noncomputable def spec_l03Likes (a0 : Int × Int × List Nat × List Nat × List Nat) (a1 : List (List Int)) : Option (List Nat × Bool) :=
  (rounds (spec_l03Likes_B1 a0 a1) ((0 : Int), ([] : List Nat))).bind fun r2 => match r2 with
    | .inl r3 =>
      some (r3, true)
    | .inr r4 =>
      some (([] : List Nat), false)

theorem f67_ok {a0 : Int × Int × List Nat × List Nat × List Nat} {a1 : List (List Int)} {r : List Nat × Bool} (hr : spec_l03Likes a0 a1 = some r) : CallOK Try.prog 67 [.pimm (.st (.pair tI (.pair tI (.pair tLF (.pair tLF tLF))))) a0, .imm (.sl tLI) a1] [⟨true, tLF, r.1⟩, ⟨false, .bool, r.2⟩] [] := by
  unfold spec_l03Likes at hr
  refine CallOK.of_body (ts := [(true, tLF), (false, .bool)]) Try.func67 rfl (by kernel_rfl) (Nat.le_of_ble_eq_true (by kernel_rfl)) fun cx hP hN hO hF => ?_
  have hO : cx.own.map Prod.fst = [] := hO
  have hX := CxIs.mk hP hN hO
  have hF := hF rfl
  show HT cx ⟨[(0, .one (.ip (.st (.pair tI (.pair tI (.pair tLF (.pair tLF tLF))))) a0 0)), (1, .one (.dat (.sl tLI) a1))], [], 0⟩ _ _
  refine HT.rg2 (oHs 2) ⟨[(0, .one (.ip (.st (.pair tI (.pair tI (.pair tLF (.pair tLF tLF))))) a0 0)), (1, .one (.dat (.sl tLI) a1))], [], 0⟩ hX (by kernel_rfl) allNil ?_
  refine HT.rg2 (oHs 2) ⟨[(0, .one (.ip (.st (.pair tI (.pair tI (.pair tLF (.pair tLF tLF))))) a0 0)), (1, .one (.dat (.sl tLI) a1)), (6, .one (.nilS))], [], 0⟩ hX (by kernel_rfl) allNil ?_
  refine HT.seq ?_
  refine HT.rg2 (oHs 3) ⟨[(0, .one (.ip (.st (.pair tI (.pair tI (.pair tLF (.pair tLF tLF))))) a0 0)), (1, .one (.dat (.sl tLI) a1)), (6, .one (.nilS)), (12, iV (lenI a1)), (13, iV (0 : Int))], [], 0⟩ hX (by kernel_rfl) allNil ?_
  refine HT.block ?_
  obtain ⟨r2, hL14, hr⟩ := of_bind hr
  refine (Le.cv (s := ⟨[], [0], [], false⟩) (own := []) (ps := [a0 = a0, a1 = a1, (lenI a1) = (lenI a1), (0 : Int) = (0 : Int), ([] : List Nat) = []]) (st' := ⟨[(0, .one (.ip (.st (.pair tI (.pair tI (.pair tLF (.pair tLF tLF))))) a0 0)), (1, .one (.dat (.sl tLI) a1)), (6, aV 0), (12, iV (lenI a1)), (13, iV (0 : Int))], [(0, .seq tF ([] : List Nat))], 1⟩) hO (fun h => by cases h) (by kernel_rfl) ⟨rfl, rfl, rfl, rfl, rfl, trivial⟩).ht ?_
  refine HT.loopE (s := ((0 : Int), ([] : List Nat))) (fun (s1 : Int × List Nat) => ⟨[(0, .one (.ip (.st (.pair tI (.pair tI (.pair tLF (.pair tLF tLF))))) a0 0)), (1, .one (.dat (.sl tLI) a1)), (6, aV 0), (12, iV (lenI a1)), (13, iV s1.1)], [(0, .seq tF s1.2)], 1⟩) (fun (r2 : List Nat ⊕ Unit) => match r2 with | .inl r3 => (.exit 0, ⟨[(6, aV 0)], [(0, .seq tF r3)], 1⟩) | .inr r4 => (.ret, ⟨[(4, .one (.nilS)), (5, bV false)], [], 0⟩)) hL14 ?_ (fun s1 x5 hx6 hk7 => ?_)
  · rcases r2 with r3 | r4
    · refine (qBlockX (qThen ?_))
      refine HT.rg2 (oHs 3) ⟨[(4, aV 0), (5, bV true)], [(0, .seq tF r3)], 1⟩ hX (by kernel_rfl) allNil ?_
      have hr := of_some hr
      subst hr
      exact HT.ret ⟨[aV 0, bV true], [0], [], by kernel_rfl, by kernel_rfl, rfl, by kernel_rfl, by kernel_rfl, trivial⟩
    · have hr := of_some hr
      subst hr
      exact (qBlockR (qThenR ⟨[.one (.nilS), bV false], [], [], by kernel_rfl, by kernel_rfl, rfl, by kernel_rfl, by kernel_rfl, trivial⟩))
  · refine HT.rg2 [oH] ⟨[(0, .one (.ip (.st (.pair tI (.pair tI (.pair tLF (.pair tLF tLF))))) a0 0)), (1, .one (.dat (.sl tLI) a1)), (6, aV 0), (12, iV (lenI a1)), (13, iV s1.1), (14, bV (decide (s1.1 < (lenI a1))))], [(0, .seq tF s1.2)], 1⟩ hX (by kernel_rfl) allNil ?_
    refine HT.seq ?_
    rcases of_bif hx6 with ⟨hb8, hx6⟩ | ⟨hb8, hx6⟩
    · refine HT.cond1 rfl hb8 ?_
      refine HT.skip (qThen ?_)
      refine HT.seq ?_
      refine HT.block ?_
      refine HT.rg2 (oHs 2) ⟨[(0, .one (.ip (.st (.pair tI (.pair tI (.pair tLF (.pair tLF tLF))))) a0 0)), (1, .one (.dat (.sl tLI) a1)), (6, aV 0), (7, iV s1.1), (12, iV (lenI a1)), (13, iV s1.1)], [(0, .seq tF s1.2)], 1⟩ hX (by kernel_rfl) allNil ?_
      obtain ⟨hg9, hx6⟩ := of_guard hx6
      obtain ⟨y10, hc11, hx6⟩ := of_bind hx6
      refine HT.dr2 12 [⟨oH, []⟩, ⟨oH, [0]⟩, ⟨oH, [0, 1]⟩, ⟨oH, []⟩, ⟨oH, []⟩, ⟨oH, [3, 4]⟩, ⟨oH, [3, 4, 5]⟩, ⟨⟨none, .call [.imm (.st (.pair tI (.pair tI (.pair tLF (.pair tLF tLF))))), .imm tLI] [⟨false, tF, y10.1⟩, ⟨false, .bool, y10.2⟩] []⟩, [0, 1, 2, 3, 4, 5, 6]⟩, ⟨oH, [0, 1, 2, 3, 4, 5, 6, 7]⟩, ⟨oH, [0, 1, 2, 3, 4, 5, 6, 7, 8]⟩, ⟨oH, [0, 1, 2, 3, 4, 5, 6, 7, 8]⟩, ⟨oH, [0, 1, 2, 3, 4, 5, 6, 7, 8, 9]⟩] [[0, 1, 2, 3, 4, 5, 6, 7, 8, 9, 10, 11]] [oH] ⟨[(0, .one (.ip (.st (.pair tI (.pair tI (.pair tLF (.pair tLF tLF))))) a0 0)), (1, .one (.dat (.sl tLI) a1)), (6, aV 0), (8, fV y10.1), (9, bV y10.2), (12, iV (lenI a1)), (13, iV s1.1)], [(0, .seq tF s1.2)], 1⟩ hX (by kernel_rfl) (by kernel_rfl) (allCons hg9 (allCons (f94_ok hc11) allNil)) ?_
      refine HT.seq ?_
      refine HT.rg2 (oHs 2) ⟨[(0, .one (.ip (.st (.pair tI (.pair tI (.pair tLF (.pair tLF tLF))))) a0 0)), (1, .one (.dat (.sl tLI) a1)), (6, aV 0), (8, fV y10.1), (12, iV (lenI a1)), (13, iV s1.1), (28, bV (!y10.2))], [(0, .seq tF s1.2)], 1⟩ hX (by kernel_rfl) allNil ?_
      rcases of_bif hx6 with ⟨hb12, hx6⟩ | ⟨hb12, hx6⟩
      · refine HT.cond1 rfl hb12 ?_
        refine HT.rg2 (oHs 2) ⟨[(4, .one (.nilS)), (5, bV false)], [], 1⟩ hX (by kernel_rfl) allNil ?_
        have hx6 := of_some hx6
        subst hx6
        refine (Le.cv (s := ⟨[], [], [], false⟩) (own := []) (ps := [false = false]) (st' := ⟨[(4, .one (.nilS)), (5, bV false)], [], 0⟩) hO (fun h => by cases h) (by kernel_rfl) ⟨rfl, trivial⟩).ht ?_
        exact HT.ret (qThenR (qBlockR (qThenR (qLoopR (hk7 (.inr ()) rfl)))))
      · refine HT.cond0 rfl hb12 ?_
        refine HT.skip (qThen ?_)
        obtain ⟨hg13, hx6⟩ := of_guard hx6
        refine HT.rgL [oH, oH, ⟨none, .ty tF⟩, ⟨none, .ty tF⟩, oH] ⟨[(0, .one (.ip (.st (.pair tI (.pair tI (.pair tLF (.pair tLF tLF))))) a0 0)), (1, .one (.dat (.sl tLI) a1)), (6, aV 2), (12, iV (lenI a1)), (13, iV s1.1)], [(2, .seq tF (s1.2 ++ ([y10.1] : List Nat)))], 3⟩ hX (by kernel_rfl) (allCons hg13 allNil) (qBlock (qThen ?_))
        have hx6 := of_some hx6
        subst hx6
        refine HT.rgL (oHs 2) ⟨[(0, .one (.ip (.st (.pair tI (.pair tI (.pair tLF (.pair tLF tLF))))) a0 0)), (1, .one (.dat (.sl tLI) a1)), (6, aV 2), (12, iV (lenI a1)), (13, iV (wadd .i64 s1.1 (1 : Int)))], [(2, .seq tF (s1.2 ++ ([y10.1] : List Nat)))], 3⟩ hX (by kernel_rfl) allNil (qLoopN ⟨((wadd .i64 s1.1 (1 : Int)), (s1.2 ++ ([y10.1] : List Nat))), rfl, Le.cv (s := ⟨[(2, 0)], [], [], false⟩) (own := []) (ps := [a0 = a0, a1 = a1, (lenI a1) = (lenI a1), (wadd .i64 s1.1 (1 : Int)) = (wadd .i64 s1.1 (1 : Int)), (s1.2 ++ ([y10.1] : List Nat)) = (s1.2 ++ ([y10.1] : List Nat))]) (st' := ⟨[(0, .one (.ip (.st (.pair tI (.pair tI (.pair tLF (.pair tLF tLF))))) a0 0)), (1, .one (.dat (.sl tLI) a1)), (6, aV 0), (12, iV (lenI a1)), (13, iV (wadd .i64 s1.1 (1 : Int)))], [(0, .seq tF (s1.2 ++ ([y10.1] : List Nat)))], 1⟩) hO (fun h => by cases h) (by kernel_rfl) ⟨rfl, rfl, rfl, rfl, rfl, trivial⟩⟩)
    · refine HT.cond0 rfl hb8 ?_
      have hx6 := of_some hx6
      subst hx6
      refine (Le.cv (s := ⟨[(0, 0)], [], [], false⟩) (own := []) (ps := [s1.2 = s1.2]) (st' := ⟨[(6, aV 0)], [(0, .seq tF s1.2)], 1⟩) hO (fun h => by cases h) (by kernel_rfl) ⟨rfl, trivial⟩).ht ?_
      exact HT.exit (qThenE (qLoopE (hk7 (.inl s1.2) rfl)))

noncomputable def spec_l03Words_B1 (a0 : Int × Int × List Nat × List Nat × List Nat) (a1 : List (List Int)) (s5 : Int) : Option ((Int) ⊕ (Unit ⊕ Unit)) :=
  bif (decide (s5 < (lenI a1))) then
    guardP ((0 : Int) ≤ s5 ∧ s5 < lenI a1) (
      (spec_l02Word (List.getD a1 (Int.toNat s5) ([] : List Int)) a0.2.1).bind fun y14 =>
      bif (!y14) then
        some (.inr (.inr ()))
      else
        some (.inl (wadd .i64 s5 (1 : Int))))
  else
    some (.inr (.inl ()))

noncomputable def spec_l03Words (a0 : Int × Int × List Nat × List Nat × List Nat) (a1 : List (List Int)) : Option (Bool) :=
  (show Option (Bool) from
    (spec_l03Is (a0.1, a0.2.1, a0.2.2.1, a0.2.2.2.1, a0.2.2.2.2)).bind fun y18 =>
    bif (!y18) then
      some true
    else
      bif (decide ((lenI a1) < (1 : Int))) then
        some true
      else
        some (decide ((lenI a1) > (16 : Int)))).bind fun v1 =>
  bif v1 then
    some false
  else
    (rounds (spec_l03Words_B1 a0 a1) (0 : Int)).bind fun r6 => match r6 with
      | .inl r7 =>
        some true
      | .inr r8 =>
        some false

theorem f60_ok {a0 : Int × Int × List Nat × List Nat × List Nat} {a1 : List (List Int)} {r : Bool} (hr : spec_l03Words a0 a1 = some r) : CallOK Try.prog 60 [.pimm (.st (.pair tI (.pair tI (.pair tLF (.pair tLF tLF))))) a0, .imm (.sl tLI) a1] [⟨false, .bool, r⟩] [] := by
  unfold spec_l03Words at hr
  refine CallOK.of_body (ts := [(false, .bool)]) Try.func60 rfl (by kernel_rfl) (Nat.le_of_ble_eq_true (by kernel_rfl)) fun cx hP hN hO hF => ?_
  have hO : cx.own.map Prod.fst = [] := hO
  have hX := CxIs.mk hP hN hO
  have hF := hF rfl
  show HT cx ⟨[(0, .one (.ip (.st (.pair tI (.pair tI (.pair tLF (.pair tLF tLF))))) a0 0)), (1, .one (.dat (.sl tLI) a1))], [], 0⟩ _ _
  refine HT.rg2 [oH] ⟨[(0, .one (.ip (.st (.pair tI (.pair tI (.pair tLF (.pair tLF tLF))))) a0 0)), (1, .one (.dat (.sl tLI) a1))], [], 0⟩ hX (by kernel_rfl) allNil ?_
  refine HT.seq ?_
  obtain ⟨v1', hT3, hr⟩ := of_bind hr
  refine HT.join (fun (v1 : Bool) => ⟨[(0, .one (.ip (.st (.pair tI (.pair tI (.pair tLF (.pair tLF tLF))))) a0 0)), (1, .one (.dat (.sl tLI) a1)), (18, bV v1)], [], 0⟩) (fun v => v = v1') (fun v1 hv2 => ?_) (fun cont => ?_)
  · subst hv2
    rcases of_bif hr with ⟨hb4, hr⟩ | ⟨hb4, hr⟩
    · refine HT.cond1 rfl hb4 ?_
      refine HT.rg2 [oH] ⟨[(4, bV false)], [], 0⟩ hX (by kernel_rfl) allNil ?_
      have hr := of_some hr
      subst hr
      exact HT.ret (qThenR ⟨[bV false], [], [], by kernel_rfl, by kernel_rfl, rfl, by kernel_rfl, by kernel_rfl, trivial⟩)
    · refine HT.cond0 rfl hb4 ?_
      refine HT.skip (qThen ?_)
      refine HT.seq ?_
      refine HT.rg2 (oHs 3) ⟨[(0, .one (.ip (.st (.pair tI (.pair tI (.pair tLF (.pair tLF tLF))))) a0 0)), (1, .one (.dat (.sl tLI) a1)), (20, iV (lenI a1)), (21, iV (0 : Int))], [], 0⟩ hX (by kernel_rfl) allNil ?_
      refine HT.block ?_
      obtain ⟨r6, hL17, hr⟩ := of_bind hr
      refine (Le.cv (s := ⟨[], [], [], false⟩) (own := []) (ps := [a0 = a0, a1 = a1, (lenI a1) = (lenI a1), (0 : Int) = (0 : Int)]) (st' := ⟨[(0, .one (.ip (.st (.pair tI (.pair tI (.pair tLF (.pair tLF tLF))))) a0 0)), (1, .one (.dat (.sl tLI) a1)), (20, iV (lenI a1)), (21, iV (0 : Int))], [], 0⟩) hO (fun h => by cases h) (by kernel_rfl) ⟨rfl, rfl, rfl, rfl, trivial⟩).ht ?_
      refine HT.loopE (s := (0 : Int)) (fun (s5 : Int) => ⟨[(0, .one (.ip (.st (.pair tI (.pair tI (.pair tLF (.pair tLF tLF))))) a0 0)), (1, .one (.dat (.sl tLI) a1)), (20, iV (lenI a1)), (21, iV s5)], [], 0⟩) (fun (r6 : Unit ⊕ Unit) => match r6 with | .inl r7 => (.exit 0, ⟨[], [], 0⟩) | .inr r8 => (.ret, ⟨[(4, bV false)], [], 0⟩)) hL17 ?_ (fun s5 x9 hx10 hk11 => ?_)
      · rcases r6 with r7 | r8
        · refine (qBlockX (qThen ?_))
          refine HT.rg2 [oH] ⟨[(4, bV true)], [], 0⟩ hX (by kernel_rfl) allNil ?_
          have hr := of_some hr
          subst hr
          exact HT.ret ⟨[bV true], [], [], by kernel_rfl, by kernel_rfl, rfl, by kernel_rfl, by kernel_rfl, trivial⟩
        · have hr := of_some hr
          subst hr
          exact (qBlockR (qThenR ⟨[bV false], [], [], by kernel_rfl, by kernel_rfl, rfl, by kernel_rfl, by kernel_rfl, trivial⟩))
      · refine HT.rg2 [oH] ⟨[(0, .one (.ip (.st (.pair tI (.pair tI (.pair tLF (.pair tLF tLF))))) a0 0)), (1, .one (.dat (.sl tLI) a1)), (20, iV (lenI a1)), (21, iV s5), (22, bV (decide (s5 < (lenI a1))))], [], 0⟩ hX (by kernel_rfl) allNil ?_
        refine HT.seq ?_
        rcases of_bif hx10 with ⟨hb12, hx10⟩ | ⟨hb12, hx10⟩
        · refine HT.cond1 rfl hb12 ?_
          refine HT.skip (qThen ?_)
          refine HT.seq ?_
          refine HT.block ?_
          refine HT.rg2 (oHs 2) ⟨[(0, .one (.ip (.st (.pair tI (.pair tI (.pair tLF (.pair tLF tLF))))) a0 0)), (1, .one (.dat (.sl tLI) a1)), (5, iV s5), (20, iV (lenI a1)), (21, iV s5)], [], 0⟩ hX (by kernel_rfl) allNil ?_
          obtain ⟨hg13, hx10⟩ := of_guard hx10
          obtain ⟨y14, hc15, hx10⟩ := of_bind hx10
          refine HT.dr2 8 [⟨oH, []⟩, ⟨oH, []⟩, ⟨oH, [0, 1]⟩, ⟨oH, [0, 1, 2]⟩, ⟨oH, []⟩, ⟨oH, [4]⟩, ⟨oH, [4, 5]⟩, ⟨oH, [4, 5, 6]⟩] [[0, 1, 2, 3, 4, 5, 6, 7], [0, 1, 2, 3, 4, 5, 6, 7, 8]] [⟨none, .call [.imm tLI, .imm tI] [⟨false, .bool, y14⟩] []⟩, oH] ⟨[(0, .one (.ip (.st (.pair tI (.pair tI (.pair tLF (.pair tLF tLF))))) a0 0)), (1, .one (.dat (.sl tLI) a1)), (20, iV (lenI a1)), (21, iV s5), (33, bV (!y14))], [], 0⟩ hX (by kernel_rfl) (by kernel_rfl) (allCons hg13 (allCons (f77_ok hc15) allNil)) ?_
          rcases of_bif hx10 with ⟨hb16, hx10⟩ | ⟨hb16, hx10⟩
          · refine HT.cond1 rfl hb16 ?_
            refine HT.rg2 [oH] ⟨[(4, bV false)], [], 0⟩ hX (by kernel_rfl) allNil ?_
            have hx10 := of_some hx10
            subst hx10
            refine (Le.cv (s := ⟨[], [], [], false⟩) (own := []) (ps := [false = false]) (st' := ⟨[(4, bV false)], [], 0⟩) hO (fun h => by cases h) (by kernel_rfl) ⟨rfl, trivial⟩).ht ?_
            exact HT.ret (qBlockR (qThenR (qLoopR (hk11 (.inr ()) rfl))))
          · refine HT.cond0 rfl hb16 ?_
            refine HT.skip (qBlock (qThen ?_))
            have hx10 := of_some hx10
            subst hx10
            refine HT.rgL (oHs 2) ⟨[(0, .one (.ip (.st (.pair tI (.pair tI (.pair tLF (.pair tLF tLF))))) a0 0)), (1, .one (.dat (.sl tLI) a1)), (20, iV (lenI a1)), (21, iV (wadd .i64 s5 (1 : Int)))], [], 0⟩ hX (by kernel_rfl) allNil (qLoopN ⟨(wadd .i64 s5 (1 : Int)), rfl, Le.cv (s := ⟨[], [], [], false⟩) (own := []) (ps := [a0 = a0, a1 = a1, (lenI a1) = (lenI a1), (wadd .i64 s5 (1 : Int)) = (wadd .i64 s5 (1 : Int))]) (st' := ⟨[(0, .one (.ip (.st (.pair tI (.pair tI (.pair tLF (.pair tLF tLF))))) a0 0)), (1, .one (.dat (.sl tLI) a1)), (20, iV (lenI a1)), (21, iV (wadd .i64 s5 (1 : Int)))], [], 0⟩) hO (fun h => by cases h) (by kernel_rfl) ⟨rfl, rfl, rfl, rfl, trivial⟩⟩)
        · refine HT.cond0 rfl hb12 ?_
          have hx10 := of_some hx10
          subst hx10
          refine (Le.cv (s := ⟨[], [], [], false⟩) (own := []) (ps := []) (st' := ⟨[], [], 0⟩) hO (fun h => by cases h) (by kernel_rfl) trivial).ht ?_
          exact HT.exit (qThenE (qLoopE (hk11 (.inl ()) rfl)))
  · obtain ⟨y18, hc19, hT3⟩ := of_bind hT3
    rcases of_bif hT3 with ⟨hb20, hT3⟩ | ⟨hb20, hT3⟩
    · refine HT.rgL [oH, ⟨none, .call [.pimm (.st (.pair tI (.pair tI (.pair tLF (.pair tLF tLF)))))] [⟨false, .bool, y18⟩] []⟩, oH, oH, ⟨some true, .no⟩, ⟨some true, .no⟩, ⟨some true, .no⟩, ⟨none, .tv true⟩, oH, ⟨some true, .no⟩, ⟨some true, .no⟩, ⟨some true, .no⟩, ⟨none, .tv true⟩] ⟨[(0, .one (.ip (.st (.pair tI (.pair tI (.pair tLF (.pair tLF tLF))))) a0 0)), (1, .one (.dat (.sl tLI) a1)), (18, bV true)], [], 0⟩ hX (by kernel_rfl) (allCons (f76_ok hc19) (allCons hb20 (allCons hb20 (allCons hb20 (allCons hb20 (allCons (rfl : true = true) (allCons (rfl : true = true) (allCons (rfl : true = true) (allCons (rfl : true = true) allNil))))))))) (qThen ?_)
      exact (Le.cv (s := ⟨[], [], [], false⟩) (own := []) (ps := [a0 = a0, a1 = a1, true = true]) (st' := ⟨[(0, .one (.ip (.st (.pair tI (.pair tI (.pair tLF (.pair tLF tLF))))) a0 0)), (1, .one (.dat (.sl tLI) a1)), (18, bV true)], [], 0⟩) hO (fun h => by cases h) (by kernel_rfl) ⟨rfl, rfl, rfl, trivial⟩).ht (cont true (of_some hT3))
    · rcases of_bif hT3 with ⟨hb21, hT3⟩ | ⟨hb21, hT3⟩
      · refine HT.rgL [oH, ⟨none, .call [.pimm (.st (.pair tI (.pair tI (.pair tLF (.pair tLF tLF)))))] [⟨false, .bool, y18⟩] []⟩, oH, oH, ⟨some false, .no⟩, ⟨some false, .no⟩, ⟨some false, .no⟩, ⟨none, .tv false⟩, oH, ⟨some true, .no⟩, ⟨some true, .no⟩, ⟨some true, .no⟩, ⟨none, .tv true⟩] ⟨[(0, .one (.ip (.st (.pair tI (.pair tI (.pair tLF (.pair tLF tLF))))) a0 0)), (1, .one (.dat (.sl tLI) a1)), (18, bV true)], [], 0⟩ hX (by kernel_rfl) (allCons (f76_ok hc19) (allCons hb20 (allCons hb20 (allCons hb20 (allCons hb20 (allCons hb21 (allCons hb21 (allCons hb21 (allCons hb21 allNil))))))))) (qThen ?_)
        exact (Le.cv (s := ⟨[], [], [], false⟩) (own := []) (ps := [a0 = a0, a1 = a1, true = true]) (st' := ⟨[(0, .one (.ip (.st (.pair tI (.pair tI (.pair tLF (.pair tLF tLF))))) a0 0)), (1, .one (.dat (.sl tLI) a1)), (18, bV true)], [], 0⟩) hO (fun h => by cases h) (by kernel_rfl) ⟨rfl, rfl, rfl, trivial⟩).ht (cont true (of_some hT3))
      · refine HT.rgL [oH, ⟨none, .call [.pimm (.st (.pair tI (.pair tI (.pair tLF (.pair tLF tLF)))))] [⟨false, .bool, y18⟩] []⟩, oH, oH, ⟨some false, .no⟩, ⟨some false, .no⟩, ⟨some false, .no⟩, ⟨none, .tv false⟩, oH, ⟨some false, .no⟩, ⟨some false, .no⟩, ⟨some false, .no⟩, ⟨none, .tv false⟩] ⟨[(0, .one (.ip (.st (.pair tI (.pair tI (.pair tLF (.pair tLF tLF))))) a0 0)), (1, .one (.dat (.sl tLI) a1)), (18, bV (decide ((lenI a1) > (16 : Int))))], [], 0⟩ hX (by kernel_rfl) (allCons (f76_ok hc19) (allCons hb20 (allCons hb20 (allCons hb20 (allCons hb20 (allCons hb21 (allCons hb21 (allCons hb21 (allCons hb21 allNil))))))))) (qThen ?_)
        exact (Le.cv (s := ⟨[], [], [], false⟩) (own := []) (ps := [a0 = a0, a1 = a1, (decide ((lenI a1) > (16 : Int))) = (decide ((lenI a1) > (16 : Int)))]) (st' := ⟨[(0, .one (.ip (.st (.pair tI (.pair tI (.pair tLF (.pair tLF tLF))))) a0 0)), (1, .one (.dat (.sl tLI) a1)), (18, bV (decide ((lenI a1) > (16 : Int))))], [], 0⟩) hO (fun h => by cases h) (by kernel_rfl) ⟨rfl, rfl, rfl, trivial⟩).ht (cont (decide ((lenI a1) > (16 : Int))) (of_some hT3))

noncomputable def spec_LikesShared (a0 : Int × Int × List Nat × List Nat × List Nat) (a1 : List (List Int)) (a2 : Int) : Option (List Nat × Bool) :=
  (show Option (Bool) from
    (spec_l03Words (a0.1, a0.2.1, a0.2.2.1, a0.2.2.2.1, a0.2.2.2.2) a1).bind fun y7 =>
    bif (!y7) then
      some true
    else
      (spec_l00In a2 (1 : Int) (8 : Int)).bind fun y10 =>
      some (!y10)).bind fun v1 =>
  bif v1 then
    some (([] : List Nat), false)
  else
    (spec_l03Likes (a0.1, a0.2.1, a0.2.2.1, a0.2.2.2.1, a0.2.2.2.2) a1).bind fun y5 =>
    some (y5.1, y5.2)

theorem f35_ok {a0 : Int × Int × List Nat × List Nat × List Nat} {a1 : List (List Int)} {a2 : Int} {r : List Nat × Bool} (hr : spec_LikesShared a0 a1 a2 = some r) : CallOK Try.prog 35 [.imm (.st (.pair tI (.pair tI (.pair tLF (.pair tLF tLF))))) a0, .imm (.sl tLI) a1, .imm tI a2] [⟨true, tLF, r.1⟩, ⟨false, .bool, r.2⟩] [] := by
  unfold spec_LikesShared at hr
  refine CallOK.of_body (ts := [(true, tLF), (false, .bool)]) Try.func35 rfl (by kernel_rfl) (Nat.le_of_ble_eq_true (by kernel_rfl)) fun cx hP hN hO hF => ?_
  have hO : cx.own.map Prod.fst = [] := hO
  have hX := CxIs.mk hP hN hO
  have hF := hF rfl
  show HT cx ⟨[(0, .agg [iC a0.1, iC a0.2.1, lC a0.2.2.1, lC a0.2.2.2.1, lC a0.2.2.2.2]), (1, .one (.dat (.sl tLI) a1)), (2, iV a2)], [], 0⟩ _ _
  refine HT.rg2 (oHs 3) ⟨[(1, .one (.dat (.sl tLI) a1)), (2, iV a2), (3, pV 0 0)], [(0, .box [iC a0.1, iC a0.2.1, lC a0.2.2.1, lC a0.2.2.2.1, lC a0.2.2.2.2])], 1⟩ hX (by kernel_rfl) allNil ?_
  refine HT.seq ?_
  obtain ⟨v1', hT3, hr⟩ := of_bind hr
  refine HT.join (fun (v1 : Bool) => ⟨[(1, .one (.dat (.sl tLI) a1)), (3, pV 0 0), (15, bV v1)], [(0, .box [iC a0.1, iC a0.2.1, lC a0.2.2.1, lC a0.2.2.2.1, lC a0.2.2.2.2])], 1⟩) (fun v => v = v1') (fun v1 hv2 => ?_) (fun cont => ?_)
  · subst hv2
    rcases of_bif hr with ⟨hb4, hr⟩ | ⟨hb4, hr⟩
    · refine HT.cond1 rfl hb4 ?_
      refine HT.rg2 (oHs 2) ⟨[(6, .one (.nilS)), (7, bV false)], [], 1⟩ hX (by kernel_rfl) allNil ?_
      have hr := of_some hr
      subst hr
      exact HT.ret (qThenR ⟨[.one (.nilS), bV false], [], [], by kernel_rfl, by kernel_rfl, rfl, by kernel_rfl, by kernel_rfl, trivial⟩)
    · refine HT.cond0 rfl hb4 ?_
      refine HT.skip (qThen ?_)
      obtain ⟨y5, hc6, hr⟩ := of_bind hr
      refine HT.rg2 [oH, ⟨none, .call [.pimm (.st (.pair tI (.pair tI (.pair tLF (.pair tLF tLF))))), .imm (.sl tLI)] [⟨true, tLF, y5.1⟩, ⟨false, .bool, y5.2⟩] []⟩, oH, oH, oH, oH] ⟨[(6, aV 1), (7, bV y5.2)], [(1, .seq tF y5.1)], 2⟩ hX (by kernel_rfl) (allCons (f67_ok hc6) allNil) ?_
      have hr := of_some hr
      subst hr
      exact HT.ret ⟨[aV 1, bV y5.2], [1], [], by kernel_rfl, by kernel_rfl, rfl, by kernel_rfl, by kernel_rfl, trivial⟩
  · obtain ⟨y7, hc8, hT3⟩ := of_bind hT3
    rcases of_bif hT3 with ⟨hb9, hT3⟩ | ⟨hb9, hT3⟩
    · refine HT.rgL [oH, ⟨none, .call [.pimm (.st (.pair tI (.pair tI (.pair tLF (.pair tLF tLF))))), .imm (.sl tLI)] [⟨false, .bool, y7⟩] []⟩, oH, oH, ⟨some true, .no⟩, ⟨some true, .no⟩, ⟨some true, .no⟩, ⟨none, .tv true⟩] ⟨[(1, .one (.dat (.sl tLI) a1)), (3, pV 0 0), (15, bV true)], [(0, .box [iC a0.1, iC a0.2.1, lC a0.2.2.1, lC a0.2.2.2.1, lC a0.2.2.2.2])], 1⟩ hX (by kernel_rfl) (allCons (f60_ok hc8) (allCons hb9 (allCons hb9 (allCons hb9 (allCons hb9 allNil))))) (qThen ?_)
      exact (Le.cv (s := ⟨[(0, 0)], [], [], false⟩) (own := []) (ps := [a1 = a1, true = true, a0.1 = a0.1, a0.2.1 = a0.2.1, a0.2.2.1 = a0.2.2.1, a0.2.2.2.1 = a0.2.2.2.1, a0.2.2.2.2 = a0.2.2.2.2]) (st' := ⟨[(1, .one (.dat (.sl tLI) a1)), (3, pV 0 0), (15, bV true)], [(0, .box [iC a0.1, iC a0.2.1, lC a0.2.2.1, lC a0.2.2.2.1, lC a0.2.2.2.2])], 1⟩) hO (fun h => by cases h) (by kernel_rfl) ⟨rfl, rfl, rfl, rfl, rfl, rfl, rfl, trivial⟩).ht (cont true (of_some hT3))
    · obtain ⟨y10, hc11, hT3⟩ := of_bind hT3
      refine HT.rgL [oH, ⟨none, .call [.pimm (.st (.pair tI (.pair tI (.pair tLF (.pair tLF tLF))))), .imm (.sl tLI)] [⟨false, .bool, y7⟩] []⟩, oH, oH, ⟨some false, .no⟩, ⟨some false, .call [.imm tI, .imm tI, .imm tI] [⟨false, .bool, y10⟩] []⟩, ⟨some false, .no⟩, ⟨none, .tv false⟩] ⟨[(1, .one (.dat (.sl tLI) a1)), (3, pV 0 0), (15, bV (!y10))], [(0, .box [iC a0.1, iC a0.2.1, lC a0.2.2.1, lC a0.2.2.2.1, lC a0.2.2.2.2])], 1⟩ hX (by kernel_rfl) (allCons (f60_ok hc8) (allCons hb9 (allCons hb9 (allCons (f52_ok hc11) (allCons hb9 (allCons hb9 allNil)))))) (qThen ?_)
      exact (Le.cv (s := ⟨[(0, 0)], [], [], false⟩) (own := []) (ps := [a1 = a1, (!y10) = (!y10), a0.1 = a0.1, a0.2.1 = a0.2.1, a0.2.2.1 = a0.2.2.1, a0.2.2.2.1 = a0.2.2.2.1, a0.2.2.2.2 = a0.2.2.2.2]) (st' := ⟨[(1, .one (.dat (.sl tLI) a1)), (3, pV 0 0), (15, bV (!y10))], [(0, .box [iC a0.1, iC a0.2.1, lC a0.2.2.1, lC a0.2.2.2.1, lC a0.2.2.2.2])], 1⟩) hO (fun h => by cases h) (by kernel_rfl) ⟨rfl, rfl, rfl, rfl, rfl, rfl, rfl, trivial⟩).ht (cont (!y10) (of_some hT3))

noncomputable def impl_within (a0 : Int) (a1 : Int) (a2 : Int) : Option (Bool) :=
  (show Option (Bool) from
    bif (decide (a0 ≥ a1)) then
      some (decide (a0 ≤ a2))
    else
      some false).bind fun v1 =>
  some v1

theorem f54_ok {a0 : Int} {a1 : Int} {a2 : Int} {r : Bool} (hr : impl_within a0 a1 a2 = some r) : CallOK Try.prog 54 [.imm tI a0, .imm tI a1, .imm tI a2] [⟨false, .bool, r⟩] [] := by
  unfold impl_within at hr
  refine CallOK.of_body (ts := [(false, .bool)]) Try.func54 rfl (by kernel_rfl) (Nat.le_of_ble_eq_true (by kernel_rfl)) fun cx hP hN hO hF => ?_
  have hO : cx.own.map Prod.fst = [] := hO
  have hX := CxIs.mk hP hN hO
  have hF := hF rfl
  show HT cx ⟨[(0, iV a0), (1, iV a1), (2, iV a2)], [], 0⟩ _ _
  refine HT.rg2 [oH] ⟨[(0, iV a0), (1, iV a1), (2, iV a2)], [], 0⟩ hX (by kernel_rfl) allNil ?_
  obtain ⟨v1', hT3, hr⟩ := of_bind hr
  refine HT.join (fun (v1 : Bool) => ⟨[(6, bV v1)], [], 0⟩) (fun v => v = v1') (fun v1 hv2 => ?_) (fun cont => ?_)
  · subst hv2
    have hr := of_some hr
    subst hr
    exact HT.ret ⟨[bV v1], [], [], by kernel_rfl, by kernel_rfl, rfl, by kernel_rfl, by kernel_rfl, trivial⟩
  · rcases of_bif hT3 with ⟨hb4, hT3⟩ | ⟨hb4, hT3⟩
    · refine HT.rgL [oH, oH, oH, oH, ⟨some true, .no⟩, ⟨some true, .no⟩, ⟨some true, .no⟩, ⟨none, .tv true⟩, oH] ⟨[(6, bV (decide (a0 ≤ a2)))], [], 0⟩ hX (by kernel_rfl) (allCons hb4 (allCons hb4 (allCons hb4 (allCons hb4 allNil)))) (qThen ?_)
      exact (Le.cv (s := ⟨[], [], [], false⟩) (own := []) (ps := [(decide (a0 ≤ a2)) = (decide (a0 ≤ a2))]) (st' := ⟨[(6, bV (decide (a0 ≤ a2)))], [], 0⟩) hO (fun h => by cases h) (by kernel_rfl) ⟨rfl, trivial⟩).ht (cont (decide (a0 ≤ a2)) (of_some hT3))
    · refine HT.rgL [oH, oH, oH, oH, ⟨some false, .no⟩, ⟨some false, .no⟩, ⟨some false, .no⟩, ⟨none, .tv false⟩, oH] ⟨[(6, bV false)], [], 0⟩ hX (by kernel_rfl) (allCons hb4 (allCons hb4 (allCons hb4 (allCons hb4 allNil)))) (qThen ?_)
      exact (Le.cv (s := ⟨[], [], [], false⟩) (own := []) (ps := [false = false]) (st' := ⟨[(6, bV false)], [], 0⟩) hO (fun h => by cases h) (by kernel_rfl) ⟨rfl, trivial⟩).ht (cont false (of_some hT3))

noncomputable def impl_rowOf_float32 (a0 : List Nat) (a1 : Int) (a2 : Int) : Option (List Nat) :=
  guardP ((0 : Int) ≤ (wmul .i64 a2 a1) ∧ (wmul .i64 a2 a1) ≤ (wmul .i64 (wadd .i64 a2 (1 : Int)) a1) ∧ (wmul .i64 (wadd .i64 a2 (1 : Int)) a1) ≤ (wmul .i64 (wadd .i64 a2 (1 : Int)) a1) ∧ (wmul .i64 (wadd .i64 a2 (1 : Int)) a1) ≤ lenI a0) (
    some (cut a0 (wmul .i64 a2 a1) (wmul .i64 (wadd .i64 a2 (1 : Int)) a1)))

theorem f114_ok {a0 : List Nat} {a1 : Int} {a2 : Int} {r : List Nat} (hr : impl_rowOf_float32 a0 a1 a2 = some r) : CallOK Try.prog 114 [.imm tLF a0, .imm tI a1, .imm tI a2] [⟨false, tLF, r⟩] [] := by
  unfold impl_rowOf_float32 at hr
  refine CallOK.of_body (ts := [(false, tLF)]) Try.func114 rfl (by kernel_rfl) (Nat.le_of_ble_eq_true (by kernel_rfl)) fun cx hP hN hO hF => ?_
  have hO : cx.own.map Prod.fst = [] := hO
  have hX := CxIs.mk hP hN hO
  have hF := hF rfl
  show HT cx ⟨[(0, lV a0), (1, iV a1), (2, iV a2)], [], 0⟩ _ _
  refine HT.rg2 [oH] ⟨[(0, lV a0), (1, iV a1), (2, iV a2)], [], 0⟩ hX (by kernel_rfl) allNil ?_
  obtain ⟨hg1, hr⟩ := of_guard hr
  refine HT.rg2 (oHs 14) ⟨[(6, lV (cut a0 (wmul .i64 a2 a1) (wmul .i64 (wadd .i64 a2 (1 : Int)) a1)))], [], 0⟩ hX (by kernel_rfl) (allCons hg1 allNil) ?_
  have hr := of_some hr
  subst hr
  exact HT.ret ⟨[lV (cut a0 (wmul .i64 a2 a1) (wmul .i64 (wadd .i64 a2 (1 : Int)) a1))], [], [], by kernel_rfl, by kernel_rfl, rfl, by kernel_rfl, by kernel_rfl, trivial⟩

noncomputable def impl_addUp_B1 (a0 : List Nat) (s1 : Nat × Int) : Option ((Nat × Int) ⊕ (Nat)) :=
  bif (decide (s1.2 < (lenI a0))) then
    guardP ((0 : Int) ≤ s1.2 ∧ s1.2 < lenI a0) (
      some (.inl ((fop .add .f32 s1.1 (List.getD a0 (Int.toNat s1.2) (0 : Nat))), (wadd .i64 s1.2 (1 : Int)))))
  else
    some (.inr s1.1)

noncomputable def impl_addUp (a0 : List Nat) : Option (Nat) :=
  (rounds (impl_addUp_B1 a0) ((0 : Nat), (0 : Int))).bind fun r3 =>
  some r3

theorem f111_ok {a0 : List Nat} {r : Nat} (hr : impl_addUp a0 = some r) : CallOK Try.prog 111 [.imm tLF a0] [⟨false, tF, r⟩] [] := by
  unfold impl_addUp at hr
  refine CallOK.of_body (ts := [(false, tF)]) Try.func111 rfl (by kernel_rfl) (Nat.le_of_ble_eq_true (by kernel_rfl)) fun cx hP hN hO hF => ?_
  have hO : cx.own.map Prod.fst = [] := hO
  have hX := CxIs.mk hP hN hO
  have hF := hF rfl
  show HT cx ⟨[(0, lV a0)], [], 0⟩ _ _
  refine HT.rg2 [oH] ⟨[(0, lV a0)], [], 0⟩ hX (by kernel_rfl) allNil ?_
  refine HT.rg2 [oH] ⟨[(0, lV a0), (3, fV (0 : Nat))], [], 0⟩ hX (by kernel_rfl) allNil ?_
  refine HT.seq ?_
  refine HT.rg2 (oHs 3) ⟨[(3, fV (0 : Nat)), (6, lV a0), (7, iV (lenI a0)), (8, iV (0 : Int))], [], 0⟩ hX (by kernel_rfl) allNil ?_
  refine HT.block ?_
  obtain ⟨r2, hL9, hr⟩ := of_bind hr
  refine (Le.cv (s := ⟨[], [], [], false⟩) (own := []) (ps := [(0 : Nat) = (0 : Nat), a0 = a0, (lenI a0) = (lenI a0), (0 : Int) = (0 : Int)]) (st' := ⟨[(3, fV (0 : Nat)), (6, lV a0), (7, iV (lenI a0)), (8, iV (0 : Int))], [], 0⟩) hO (fun h => by cases h) (by kernel_rfl) ⟨rfl, rfl, rfl, rfl, trivial⟩).ht ?_
  refine HT.loopE (s := ((0 : Nat), (0 : Int))) (fun (s1 : Nat × Int) => ⟨[(3, fV s1.1), (6, lV a0), (7, iV (lenI a0)), (8, iV s1.2)], [], 0⟩) (fun (r3 : Nat) => (.exit 0, ⟨[(3, fV r3)], [], 0⟩)) hL9 ?_ (fun s1 x4 hx5 hk6 => ?_)
  · refine (qBlockX (qThen ?_))
    refine HT.rg2 (oHs 2) ⟨[(2, fV r2)], [], 0⟩ hX (by kernel_rfl) allNil ?_
    have hr := of_some hr
    subst hr
    exact HT.ret ⟨[fV r2], [], [], by kernel_rfl, by kernel_rfl, rfl, by kernel_rfl, by kernel_rfl, trivial⟩
  · refine HT.rg2 [oH] ⟨[(3, fV s1.1), (6, lV a0), (7, iV (lenI a0)), (8, iV s1.2), (9, bV (decide (s1.2 < (lenI a0))))], [], 0⟩ hX (by kernel_rfl) allNil ?_
    refine HT.seq ?_
    rcases of_bif hx5 with ⟨hb7, hx5⟩ | ⟨hb7, hx5⟩
    · refine HT.cond1 rfl hb7 ?_
      refine HT.skip (qThen ?_)
      refine HT.seq ?_
      refine HT.block ?_
      obtain ⟨hg8, hx5⟩ := of_guard hx5
      refine HT.rg2 (oHs 3) ⟨[(3, fV s1.1), (5, fV (List.getD a0 (Int.toNat s1.2) (0 : Nat))), (6, lV a0), (7, iV (lenI a0)), (8, iV s1.2)], [], 0⟩ hX (by kernel_rfl) (allCons hg8 allNil) ?_
      refine HT.rgL (oHs 4) ⟨[(3, fV (fop .add .f32 s1.1 (List.getD a0 (Int.toNat s1.2) (0 : Nat)))), (6, lV a0), (7, iV (lenI a0)), (8, iV s1.2)], [], 0⟩ hX (by kernel_rfl) allNil (qBlock (qThen ?_))
      have hx5 := of_some hx5
      subst hx5
      refine HT.rgL (oHs 2) ⟨[(3, fV (fop .add .f32 s1.1 (List.getD a0 (Int.toNat s1.2) (0 : Nat)))), (6, lV a0), (7, iV (lenI a0)), (8, iV (wadd .i64 s1.2 (1 : Int)))], [], 0⟩ hX (by kernel_rfl) allNil (qLoopN ⟨((fop .add .f32 s1.1 (List.getD a0 (Int.toNat s1.2) (0 : Nat))), (wadd .i64 s1.2 (1 : Int))), rfl, Le.cv (s := ⟨[], [], [], false⟩) (own := []) (ps := [(fop .add .f32 s1.1 (List.getD a0 (Int.toNat s1.2) (0 : Nat))) = (fop .add .f32 s1.1 (List.getD a0 (Int.toNat s1.2) (0 : Nat))), a0 = a0, (lenI a0) = (lenI a0), (wadd .i64 s1.2 (1 : Int)) = (wadd .i64 s1.2 (1 : Int))]) (st' := ⟨[(3, fV (fop .add .f32 s1.1 (List.getD a0 (Int.toNat s1.2) (0 : Nat)))), (6, lV a0), (7, iV (lenI a0)), (8, iV (wadd .i64 s1.2 (1 : Int)))], [], 0⟩) hO (fun h => by cases h) (by kernel_rfl) ⟨rfl, rfl, rfl, rfl, trivial⟩⟩)
    · refine HT.cond0 rfl hb7 ?_
      have hx5 := of_some hx5
      subst hx5
      refine (Le.cv (s := ⟨[], [], [], false⟩) (own := []) (ps := [s1.1 = s1.1]) (st' := ⟨[(3, fV s1.1)], [], 0⟩) hO (fun h => by cases h) (by kernel_rfl) ⟨rfl, trivial⟩).ht ?_
      exact HT.exit (qThenE (qLoopE (hk6 s1.1 rfl)))

noncomputable def impl_absolute (a0 : Nat) : Option (Nat) :=
  bif (flt .f32 a0 (0 : Nat)) then
    some (fneg .f32 a0)
  else
    some a0

theorem f139_ok {a0 : Nat} {r : Nat} (hr : impl_absolute a0 = some r) : CallOK Try.prog 139 [.imm tF a0] [⟨false, tF, r⟩] [] := by
  unfold impl_absolute at hr
  refine CallOK.of_body (ts := [(false, tF)]) Try.func139 rfl (by kernel_rfl) (Nat.le_of_ble_eq_true (by kernel_rfl)) fun cx hP hN hO hF => ?_
  have hO : cx.own.map Prod.fst = [] := hO
  have hX := CxIs.mk hP hN hO
  have hF := hF rfl
  show HT cx ⟨[(0, fV a0)], [], 0⟩ _ _
  refine HT.rg2 [oH] ⟨[(0, fV a0)], [], 0⟩ hX (by kernel_rfl) allNil ?_
  refine HT.seq ?_
  refine HT.rg2 (oHs 2) ⟨[(0, fV a0), (4, bV (flt .f32 a0 (0 : Nat)))], [], 0⟩ hX (by kernel_rfl) allNil ?_
  rcases of_bif hr with ⟨hb1, hr⟩ | ⟨hb1, hr⟩
  · refine HT.cond1 rfl hb1 ?_
    refine HT.rg2 (oHs 3) ⟨[(2, fV (fneg .f32 a0))], [], 0⟩ hX (by kernel_rfl) allNil ?_
    have hr := of_some hr
    subst hr
    exact HT.ret (qThenR ⟨[fV (fneg .f32 a0)], [], [], by kernel_rfl, by kernel_rfl, rfl, by kernel_rfl, by kernel_rfl, trivial⟩)
  · refine HT.cond0 rfl hb1 ?_
    refine HT.skip (qThen ?_)
    refine HT.rg2 (oHs 2) ⟨[(2, fV a0)], [], 0⟩ hX (by kernel_rfl) allNil ?_
    have hr := of_some hr
    subst hr
    exact HT.ret ⟨[fV a0], [], [], by kernel_rfl, by kernel_rfl, rfl, by kernel_rfl, by kernel_rfl, trivial⟩

noncomputable def impl_areChances_B1 (a0 : List Nat) (s1 : Int) : Option ((Int) ⊕ (Unit ⊕ Unit)) :=
  bif (decide (s1 < (lenI a0))) then
    guardP ((0 : Int) ≤ s1 ∧ s1 < lenI a0) (
      (show Option (Bool) from
        bif (fge .f32 (List.getD a0 (Int.toNat s1) (0 : Nat)) (0 : Nat)) then
          some (!(fle .f32 (List.getD a0 (Int.toNat s1) (0 : Nat)) (1065353216 : Nat)))
        else
          some true).bind fun v14 =>
      bif v14 then
        some (.inr (.inr ()))
      else
        some (.inl (wadd .i64 s1 (1 : Int))))
  else
    some (.inr (.inl ()))

noncomputable def impl_areChances (a0 : List Nat) : Option (Bool) :=
  (rounds (impl_areChances_B1 a0) (0 : Int)).bind fun r2 => match r2 with
    | .inl r3 =>
      (impl_addUp a0).bind fun y4 =>
      (impl_absolute (fop .sub .f32 y4 (1065353216 : Nat))).bind fun y6 =>
      some (fle .f32 y6 (981668463 : Nat))
    | .inr r8 =>
      some false

theorem f127_ok {a0 : List Nat} {r : Bool} (hr : impl_areChances a0 = some r) : CallOK Try.prog 127 [.imm tLF a0] [⟨false, .bool, r⟩] [] := by
  unfold impl_areChances at hr
  refine CallOK.of_body (ts := [(false, .bool)]) Try.func127 rfl (by kernel_rfl) (Nat.le_of_ble_eq_true (by kernel_rfl)) fun cx hP hN hO hF => ?_
  have hO : cx.own.map Prod.fst = [] := hO
  have hX := CxIs.mk hP hN hO
  have hF := hF rfl
  show HT cx ⟨[(0, lV a0)], [], 0⟩ _ _
  refine HT.rg2 [oH] ⟨[(0, lV a0)], [], 0⟩ hX (by kernel_rfl) allNil ?_
  refine HT.seq ?_
  refine HT.rg2 (oHs 3) ⟨[(0, lV a0), (5, lV a0), (6, iV (lenI a0)), (7, iV (0 : Int))], [], 0⟩ hX (by kernel_rfl) allNil ?_
  refine HT.block ?_
  obtain ⟨r2, hL19, hr⟩ := of_bind hr
  refine (Le.cv (s := ⟨[], [], [], false⟩) (own := []) (ps := [a0 = a0, a0 = a0, (lenI a0) = (lenI a0), (0 : Int) = (0 : Int)]) (st' := ⟨[(0, lV a0), (5, lV a0), (6, iV (lenI a0)), (7, iV (0 : Int))], [], 0⟩) hO (fun h => by cases h) (by kernel_rfl) ⟨rfl, rfl, rfl, rfl, trivial⟩).ht ?_
  refine HT.loopE (s := (0 : Int)) (fun (s1 : Int) => ⟨[(0, lV a0), (5, lV a0), (6, iV (lenI a0)), (7, iV s1)], [], 0⟩) (fun (r2 : Unit ⊕ Unit) => match r2 with | .inl r3 => (.exit 0, ⟨[(0, lV a0)], [], 0⟩) | .inr r8 => (.ret, ⟨[(2, bV false)], [], 0⟩)) hL19 ?_ (fun s1 x9 hx10 hk11 => ?_)
  · rcases r2 with r3 | r8
    · refine (qBlockX (qThen ?_))
      obtain ⟨y4, hc5, hr⟩ := of_bind hr
      obtain ⟨y6, hc7, hr⟩ := of_bind hr
      refine HT.rg2 [oH, ⟨none, .call [.imm tLF] [⟨false, tF, y4⟩] []⟩, oH, ⟨none, .call [.imm tF] [⟨false, tF, y6⟩] []⟩, oH, oH] ⟨[(2, bV (fle .f32 y6 (981668463 : Nat)))], [], 0⟩ hX (by kernel_rfl) (allCons (f111_ok hc5) (allCons (f139_ok hc7) allNil)) ?_
      have hr := of_some hr
      subst hr
      exact HT.ret ⟨[bV (fle .f32 y6 (981668463 : Nat))], [], [], by kernel_rfl, by kernel_rfl, rfl, by kernel_rfl, by kernel_rfl, trivial⟩
    · have hr := of_some hr
      subst hr
      exact (qBlockR (qThenR ⟨[bV false], [], [], by kernel_rfl, by kernel_rfl, rfl, by kernel_rfl, by kernel_rfl, trivial⟩))
  · refine HT.rg2 [oH] ⟨[(0, lV a0), (5, lV a0), (6, iV (lenI a0)), (7, iV s1), (8, bV (decide (s1 < (lenI a0))))], [], 0⟩ hX (by kernel_rfl) allNil ?_
    refine HT.seq ?_
    rcases of_bif hx10 with ⟨hb12, hx10⟩ | ⟨hb12, hx10⟩
    · refine HT.cond1 rfl hb12 ?_
      refine HT.skip (qThen ?_)
      refine HT.seq ?_
      refine HT.block ?_
      obtain ⟨hg13, hx10⟩ := of_guard hx10
      refine HT.rg2 (oHs 3) ⟨[(0, lV a0), (4, fV (List.getD a0 (Int.toNat s1) (0 : Nat))), (5, lV a0), (6, iV (lenI a0)), (7, iV s1)], [], 0⟩ hX (by kernel_rfl) (allCons hg13 allNil) ?_
      obtain ⟨v14', hT16, hx10⟩ := of_bind hx10
      refine HT.join (fun (v14 : Bool) => ⟨[(0, lV a0), (5, lV a0), (6, iV (lenI a0)), (7, iV s1), (17, bV v14)], [], 0⟩) (fun v => v = v14') (fun v14 hv15 => ?_) (fun cont => ?_)
      · subst hv15
        rcases of_bif hx10 with ⟨hb17, hx10⟩ | ⟨hb17, hx10⟩
        · refine HT.cond1 rfl hb17 ?_
          refine HT.rg2 [oH] ⟨[(2, bV false)], [], 0⟩ hX (by kernel_rfl) allNil ?_
          have hx10 := of_some hx10
          subst hx10
          refine (Le.cv (s := ⟨[], [], [], false⟩) (own := []) (ps := [false = false]) (st' := ⟨[(2, bV false)], [], 0⟩) hO (fun h => by cases h) (by kernel_rfl) ⟨rfl, trivial⟩).ht ?_
          exact HT.ret (qBlockR (qThenR (qLoopR (hk11 (.inr ()) rfl))))
        · refine HT.cond0 rfl hb17 ?_
          refine HT.skip (qBlock (qThen ?_))
          have hx10 := of_some hx10
          subst hx10
          refine HT.rgL (oHs 2) ⟨[(0, lV a0), (5, lV a0), (6, iV (lenI a0)), (7, iV (wadd .i64 s1 (1 : Int)))], [], 0⟩ hX (by kernel_rfl) allNil (qLoopN ⟨(wadd .i64 s1 (1 : Int)), rfl, Le.cv (s := ⟨[], [], [], false⟩) (own := []) (ps := [a0 = a0, a0 = a0, (lenI a0) = (lenI a0), (wadd .i64 s1 (1 : Int)) = (wadd .i64 s1 (1 : Int))]) (st' := ⟨[(0, lV a0), (5, lV a0), (6, iV (lenI a0)), (7, iV (wadd .i64 s1 (1 : Int)))], [], 0⟩) hO (fun h => by cases h) (by kernel_rfl) ⟨rfl, rfl, rfl, rfl, trivial⟩⟩)
      · rcases of_bif hT16 with ⟨hb18, hT16⟩ | ⟨hb18, hT16⟩
        · refine HT.rgL [oH, oH, oH, ⟨some true, .no⟩, ⟨some true, .no⟩, ⟨none, .tv true⟩, oH] ⟨[(0, lV a0), (5, lV a0), (6, iV (lenI a0)), (7, iV s1), (17, bV (!(fle .f32 (List.getD a0 (Int.toNat s1) (0 : Nat)) (1065353216 : Nat))))], [], 0⟩ hX (by kernel_rfl) (allCons hb18 (allCons hb18 (allCons hb18 allNil))) (qThen ?_)
          exact (Le.cv (s := ⟨[], [], [], false⟩) (own := []) (ps := [a0 = a0, a0 = a0, (lenI a0) = (lenI a0), s1 = s1, (!(fle .f32 (List.getD a0 (Int.toNat s1) (0 : Nat)) (1065353216 : Nat))) = (!(fle .f32 (List.getD a0 (Int.toNat s1) (0 : Nat)) (1065353216 : Nat)))]) (st' := ⟨[(0, lV a0), (5, lV a0), (6, iV (lenI a0)), (7, iV s1), (17, bV (!(fle .f32 (List.getD a0 (Int.toNat s1) (0 : Nat)) (1065353216 : Nat))))], [], 0⟩) hO (fun h => by cases h) (by kernel_rfl) ⟨rfl, rfl, rfl, rfl, rfl, trivial⟩).ht (cont (!(fle .f32 (List.getD a0 (Int.toNat s1) (0 : Nat)) (1065353216 : Nat))) (of_some hT16))
        · refine HT.rgL [oH, oH, oH, ⟨some false, .no⟩, ⟨some false, .no⟩, ⟨none, .tv false⟩, oH] ⟨[(0, lV a0), (5, lV a0), (6, iV (lenI a0)), (7, iV s1), (17, bV true)], [], 0⟩ hX (by kernel_rfl) (allCons hb18 (allCons hb18 (allCons hb18 allNil))) (qThen ?_)
          exact (Le.cv (s := ⟨[], [], [], false⟩) (own := []) (ps := [a0 = a0, a0 = a0, (lenI a0) = (lenI a0), s1 = s1, true = true]) (st' := ⟨[(0, lV a0), (5, lV a0), (6, iV (lenI a0)), (7, iV s1), (17, bV true)], [], 0⟩) hO (fun h => by cases h) (by kernel_rfl) ⟨rfl, rfl, rfl, rfl, rfl, trivial⟩).ht (cont true (of_some hT16))
    · refine HT.cond0 rfl hb12 ?_
      have hx10 := of_some hx10
      subst hx10
      refine (Le.cv (s := ⟨[], [], [], false⟩) (own := []) (ps := [a0 = a0]) (st' := ⟨[(0, lV a0)], [], 0⟩) hO (fun h => by cases h) (by kernel_rfl) ⟨rfl, trivial⟩).ht ?_
      exact HT.exit (qThenE (qLoopE (hk11 (.inl ()) rfl)))

noncomputable def impl_areRows_B1 (a0 : List Nat) (a1 : Int) (a2 : Int) (s2 : Int) : Option ((Int) ⊕ (Unit ⊕ Unit)) :=
  bif (decide (s2 < a1)) then
    (impl_rowOf_float32 a0 a2 s2).bind fun y10 =>
    (impl_areChances y10).bind fun y12 =>
    bif (!y12) then
      some (.inr (.inr ()))
    else
      some (.inl (wadd .i64 s2 (1 : Int)))
  else
    some (.inr (.inl ()))

noncomputable def impl_areRows (a0 : List Nat) (a1 : Int) (a2 : Int) : Option (Bool) :=
  bif ((lenI a0) != (wmul .i64 a1 a2)) then
    some false
  else
    (rounds (impl_areRows_B1 a0 a1 a2) (0 : Int)).bind fun r3 => match r3 with
      | .inl r4 =>
        some true
      | .inr r5 =>
        some false

theorem f102_ok {a0 : List Nat} {a1 : Int} {a2 : Int} {r : Bool} (hr : impl_areRows a0 a1 a2 = some r) : CallOK Try.prog 102 [.imm tLF a0, .imm tI a1, .imm tI a2] [⟨false, .bool, r⟩] [] := by
  unfold impl_areRows at hr
  refine CallOK.of_body (ts := [(false, .bool)]) Try.func102 rfl (by kernel_rfl) (Nat.le_of_ble_eq_true (by kernel_rfl)) fun cx hP hN hO hF => ?_
  have hO : cx.own.map Prod.fst = [] := hO
  have hX := CxIs.mk hP hN hO
  have hF := hF rfl
  show HT cx ⟨[(0, lV a0), (1, iV a1), (2, iV a2)], [], 0⟩ _ _
  refine HT.rg2 [oH] ⟨[(0, lV a0), (1, iV a1), (2, iV a2)], [], 0⟩ hX (by kernel_rfl) allNil ?_
  refine HT.seq ?_
  refine HT.rg2 (oHs 6) ⟨[(0, lV a0), (1, iV a1), (2, iV a2), (13, bV ((lenI a0) != (wmul .i64 a1 a2)))], [], 0⟩ hX (by kernel_rfl) allNil ?_
  rcases of_bif hr with ⟨hb1, hr⟩ | ⟨hb1, hr⟩
  · refine HT.cond1 rfl hb1 ?_
    refine HT.rg2 [oH] ⟨[(6, bV false)], [], 0⟩ hX (by kernel_rfl) allNil ?_
    have hr := of_some hr
    subst hr
    exact HT.ret (qThenR ⟨[bV false], [], [], by kernel_rfl, by kernel_rfl, rfl, by kernel_rfl, by kernel_rfl, trivial⟩)
  · refine HT.cond0 rfl hb1 ?_
    refine HT.skip (qThen ?_)
    refine HT.seq ?_
    refine HT.rg2 (oHs 2) ⟨[(0, lV a0), (2, iV a2), (14, iV a1), (15, iV (0 : Int))], [], 0⟩ hX (by kernel_rfl) allNil ?_
    refine HT.block ?_
    obtain ⟨r3, hL15, hr⟩ := of_bind hr
    refine (Le.cv (s := ⟨[], [], [], false⟩) (own := []) (ps := [a0 = a0, a2 = a2, a1 = a1, (0 : Int) = (0 : Int)]) (st' := ⟨[(0, lV a0), (2, iV a2), (14, iV a1), (15, iV (0 : Int))], [], 0⟩) hO (fun h => by cases h) (by kernel_rfl) ⟨rfl, rfl, rfl, rfl, trivial⟩).ht ?_
    refine HT.loopE (s := (0 : Int)) (fun (s2 : Int) => ⟨[(0, lV a0), (2, iV a2), (14, iV a1), (15, iV s2)], [], 0⟩) (fun (r3 : Unit ⊕ Unit) => match r3 with | .inl r4 => (.exit 0, ⟨[], [], 0⟩) | .inr r5 => (.ret, ⟨[(6, bV false)], [], 0⟩)) hL15 ?_ (fun s2 x6 hx7 hk8 => ?_)
    · rcases r3 with r4 | r5
      · refine (qBlockX (qThen ?_))
        refine HT.rg2 [oH] ⟨[(6, bV true)], [], 0⟩ hX (by kernel_rfl) allNil ?_
        have hr := of_some hr
        subst hr
        exact HT.ret ⟨[bV true], [], [], by kernel_rfl, by kernel_rfl, rfl, by kernel_rfl, by kernel_rfl, trivial⟩
      · have hr := of_some hr
        subst hr
        exact (qBlockR (qThenR ⟨[bV false], [], [], by kernel_rfl, by kernel_rfl, rfl, by kernel_rfl, by kernel_rfl, trivial⟩))
    · refine HT.rg2 [oH] ⟨[(0, lV a0), (2, iV a2), (14, iV a1), (15, iV s2), (16, bV (decide (s2 < a1)))], [], 0⟩ hX (by kernel_rfl) allNil ?_
      refine HT.seq ?_
      rcases of_bif hx7 with ⟨hb9, hx7⟩ | ⟨hb9, hx7⟩
      · refine HT.cond1 rfl hb9 ?_
        refine HT.skip (qThen ?_)
        refine HT.seq ?_
        refine HT.block ?_
        refine HT.rg2 (oHs 2) ⟨[(0, lV a0), (2, iV a2), (7, iV s2), (14, iV a1), (15, iV s2)], [], 0⟩ hX (by kernel_rfl) allNil ?_
        obtain ⟨y10, hc11, hx7⟩ := of_bind hx7
        obtain ⟨y12, hc13, hx7⟩ := of_bind hx7
        refine HT.rg2 [oH, oH, oH, ⟨none, .call [.imm tLF, .imm tI, .imm tI] [⟨false, tLF, y10⟩] []⟩, ⟨none, .call [.imm tLF] [⟨false, .bool, y12⟩] []⟩, oH] ⟨[(0, lV a0), (2, iV a2), (14, iV a1), (15, iV s2), (23, bV (!y12))], [], 0⟩ hX (by kernel_rfl) (allCons (f114_ok hc11) (allCons (f127_ok hc13) allNil)) ?_
        rcases of_bif hx7 with ⟨hb14, hx7⟩ | ⟨hb14, hx7⟩
        · refine HT.cond1 rfl hb14 ?_
          refine HT.rg2 [oH] ⟨[(6, bV false)], [], 0⟩ hX (by kernel_rfl) allNil ?_
          have hx7 := of_some hx7
          subst hx7
          refine (Le.cv (s := ⟨[], [], [], false⟩) (own := []) (ps := [false = false]) (st' := ⟨[(6, bV false)], [], 0⟩) hO (fun h => by cases h) (by kernel_rfl) ⟨rfl, trivial⟩).ht ?_
          exact HT.ret (qBlockR (qThenR (qLoopR (hk8 (.inr ()) rfl))))
        · refine HT.cond0 rfl hb14 ?_
          refine HT.skip (qBlock (qThen ?_))
          have hx7 := of_some hx7
          subst hx7
          refine HT.rgL (oHs 2) ⟨[(0, lV a0), (2, iV a2), (14, iV a1), (15, iV (wadd .i64 s2 (1 : Int)))], [], 0⟩ hX (by kernel_rfl) allNil (qLoopN ⟨(wadd .i64 s2 (1 : Int)), rfl, Le.cv (s := ⟨[], [], [], false⟩) (own := []) (ps := [a0 = a0, a2 = a2, a1 = a1, (wadd .i64 s2 (1 : Int)) = (wadd .i64 s2 (1 : Int))]) (st' := ⟨[(0, lV a0), (2, iV a2), (14, iV a1), (15, iV (wadd .i64 s2 (1 : Int)))], [], 0⟩) hO (fun h => by cases h) (by kernel_rfl) ⟨rfl, rfl, rfl, rfl, trivial⟩⟩)
      · refine HT.cond0 rfl hb9 ?_
        have hx7 := of_some hx7
        subst hx7
        refine (Le.cv (s := ⟨[], [], [], false⟩) (own := []) (ps := []) (st' := ⟨[], [], 0⟩) hO (fun h => by cases h) (by kernel_rfl) trivial).ht ?_
        exact HT.exit (qThenE (qLoopE (hk8 (.inl ()) rfl)))

noncomputable def impl_ValidModel (a0 : Int × Int × List Nat × List Nat × List Nat) : Option (Bool) :=
  (show Option (Bool) from
    (impl_within a0.1 (1 : Int) (5 : Int)).bind fun y4 =>
    bif y4 then
      (impl_within a0.2.1 (1 : Int) (4 : Int)).bind fun y7 =>
      bif y7 then
        (impl_areRows a0.2.2.1 (1 : Int) a0.1).bind fun y10 =>
        bif y10 then
          (impl_areRows a0.2.2.2.1 a0.1 a0.1).bind fun y13 =>
          bif y13 then
            (impl_areRows a0.2.2.2.2 a0.1 a0.2.1).bind fun y16 =>
            some y16
          else
            some false
        else
          some false
      else
        some false
    else
      some false).bind fun v1 =>
  some v1

theorem f78_ok {a0 : Int × Int × List Nat × List Nat × List Nat} {r : Bool} (hr : impl_ValidModel a0 = some r) : CallOK Try.prog 78 [.imm (.st (.pair tI (.pair tI (.pair tLF (.pair tLF tLF))))) a0] [⟨false, .bool, r⟩] [] := by
  unfold impl_ValidModel at hr
  refine CallOK.of_body (ts := [(false, .bool)]) Try.func78 rfl (by kernel_rfl) (Nat.le_of_ble_eq_true (by kernel_rfl)) fun cx hP hN hO hF => ?_
  have hO : cx.own.map Prod.fst = [] := hO
  have hX := CxIs.mk hP hN hO
  have hF := hF rfl
  show HT cx ⟨[(0, .agg [iC a0.1, iC a0.2.1, lC a0.2.2.1, lC a0.2.2.2.1, lC a0.2.2.2.2])], [], 0⟩ _ _
  refine HT.rg2 (oHs 2) ⟨[(1, pV 0 0)], [(0, .box [iC a0.1, iC a0.2.1, lC a0.2.2.1, lC a0.2.2.2.1, lC a0.2.2.2.2])], 1⟩ hX (by kernel_rfl) allNil ?_
  obtain ⟨v1', hT3, hr⟩ := of_bind hr
  refine HT.join (fun (v1 : Bool) => ⟨[(2, bV v1)], [], 0⟩) (fun v => v = v1') (fun v1 hv2 => ?_) (fun cont => ?_)
  · subst hv2
    have hr := of_some hr
    subst hr
    exact HT.ret ⟨[bV v1], [], [], by kernel_rfl, by kernel_rfl, rfl, by kernel_rfl, by kernel_rfl, trivial⟩
  · obtain ⟨y4, hc5, hT3⟩ := of_bind hT3
    rcases of_bif hT3 with ⟨hb6, hT3⟩ | ⟨hb6, hT3⟩
    · obtain ⟨y7, hc8, hT3⟩ := of_bind hT3
      rcases of_bif hT3 with ⟨hb9, hT3⟩ | ⟨hb9, hT3⟩
      · obtain ⟨y10, hc11, hT3⟩ := of_bind hT3
        rcases of_bif hT3 with ⟨hb12, hT3⟩ | ⟨hb12, hT3⟩
        · obtain ⟨y13, hc14, hT3⟩ := of_bind hT3
          rcases of_bif hT3 with ⟨hb15, hT3⟩ | ⟨hb15, hT3⟩
          · obtain ⟨y16, hc17, hT3⟩ := of_bind hT3
            refine HT.rgL [oH, oH, ⟨none, .call [.imm tI, .imm tI, .imm tI] [⟨false, .bool, y4⟩] []⟩, oH, ⟨some true, .no⟩, ⟨some true, .no⟩, ⟨some true, .call [.imm tI, .imm tI, .imm tI] [⟨false, .bool, y7⟩] []⟩, ⟨none, .tv true⟩, oH, ⟨some true, .no⟩, ⟨some true, .no⟩, ⟨some true, .no⟩, ⟨some true, .no⟩, ⟨some true, .call [.imm tLF, .imm tI, .imm tI] [⟨false, .bool, y10⟩] []⟩, ⟨none, .tv true⟩, oH, ⟨some true, .no⟩, ⟨some true, .no⟩, ⟨some true, .no⟩, ⟨some true, .no⟩, ⟨some true, .no⟩, ⟨some true, .no⟩, ⟨some true, .call [.imm tLF, .imm tI, .imm tI] [⟨false, .bool, y13⟩] []⟩, ⟨none, .tv true⟩, oH, ⟨some true, .no⟩, ⟨some true, .no⟩, ⟨some true, .no⟩, ⟨some true, .no⟩, ⟨some true, .no⟩, ⟨some true, .no⟩, ⟨some true, .call [.imm tLF, .imm tI, .imm tI] [⟨false, .bool, y16⟩] []⟩, ⟨none, .tv true⟩, oH] ⟨[(2, bV y16)], [], 1⟩ hX (by kernel_rfl) (allCons (f54_ok hc5) (allCons hb6 (allCons hb6 (allCons hb6 (allCons (f54_ok hc8) (allCons hb6 (allCons hb9 (allCons hb9 (allCons hb9 (allCons hb9 (allCons hb9 (allCons (f102_ok hc11) (allCons hb9 (allCons hb12 (allCons hb12 (allCons hb12 (allCons hb12 (allCons hb12 (allCons hb12 (allCons hb12 (allCons (f102_ok hc14) (allCons hb12 (allCons hb15 (allCons hb15 (allCons hb15 (allCons hb15 (allCons hb15 (allCons hb15 (allCons hb15 (allCons (f102_ok hc17) (allCons hb15 allNil))))))))))))))))))))))))))))))) (qThen ?_)
            exact (Le.cv (s := ⟨[], [], [], false⟩) (own := []) (ps := [y16 = y16]) (st' := ⟨[(2, bV y16)], [], 0⟩) hO (fun h => by cases h) (by kernel_rfl) ⟨rfl, trivial⟩).ht (cont y16 (of_some hT3))
          · refine HT.rgL [oH, oH, ⟨none, .call [.imm tI, .imm tI, .imm tI] [⟨false, .bool, y4⟩] []⟩, oH, ⟨some true, .no⟩, ⟨some true, .no⟩, ⟨some true, .call [.imm tI, .imm tI, .imm tI] [⟨false, .bool, y7⟩] []⟩, ⟨none, .tv true⟩, oH, ⟨some true, .no⟩, ⟨some true, .no⟩, ⟨some true, .no⟩, ⟨some true, .no⟩, ⟨some true, .call [.imm tLF, .imm tI, .imm tI] [⟨false, .bool, y10⟩] []⟩, ⟨none, .tv true⟩, oH, ⟨some true, .no⟩, ⟨some true, .no⟩, ⟨some true, .no⟩, ⟨some true, .no⟩, ⟨some true, .no⟩, ⟨some true, .no⟩, ⟨some true, .call [.imm tLF, .imm tI, .imm tI] [⟨false, .bool, y13⟩] []⟩, ⟨none, .tv true⟩, oH, ⟨some false, .no⟩, ⟨some false, .no⟩, ⟨some false, .no⟩, ⟨some false, .no⟩, ⟨some false, .no⟩, ⟨some false, .no⟩, ⟨some false, .no⟩, ⟨none, .tv false⟩, oH] ⟨[(2, bV false)], [], 1⟩ hX (by kernel_rfl) (allCons (f54_ok hc5) (allCons hb6 (allCons hb6 (allCons hb6 (allCons (f54_ok hc8) (allCons hb6 (allCons hb9 (allCons hb9 (allCons hb9 (allCons hb9 (allCons hb9 (allCons (f102_ok hc11) (allCons hb9 (allCons hb12 (allCons hb12 (allCons hb12 (allCons hb12 (allCons hb12 (allCons hb12 (allCons hb12 (allCons (f102_ok hc14) (allCons hb12 (allCons hb15 (allCons hb15 (allCons hb15 (allCons hb15 (allCons hb15 (allCons hb15 (allCons hb15 (allCons hb15 allNil)))))))))))))))))))))))))))))) (qThen ?_)
            exact (Le.cv (s := ⟨[], [], [], false⟩) (own := []) (ps := [false = false]) (st' := ⟨[(2, bV false)], [], 0⟩) hO (fun h => by cases h) (by kernel_rfl) ⟨rfl, trivial⟩).ht (cont false (of_some hT3))
        · refine HT.rgL [oH, oH, ⟨none, .call [.imm tI, .imm tI, .imm tI] [⟨false, .bool, y4⟩] []⟩, oH, ⟨some true, .no⟩, ⟨some true, .no⟩, ⟨some true, .call [.imm tI, .imm tI, .imm tI] [⟨false, .bool, y7⟩] []⟩, ⟨none, .tv true⟩, oH, ⟨some true, .no⟩, ⟨some true, .no⟩, ⟨some true, .no⟩, ⟨some true, .no⟩, ⟨some true, .call [.imm tLF, .imm tI, .imm tI] [⟨false, .bool, y10⟩] []⟩, ⟨none, .tv true⟩, oH, ⟨some false, .no⟩, ⟨some false, .no⟩, ⟨some false, .no⟩, ⟨some false, .no⟩, ⟨some false, .no⟩, ⟨some false, .no⟩, ⟨some false, .no⟩, ⟨none, .tv false⟩, oH, ⟨some false, .no⟩, ⟨some false, .no⟩, ⟨some false, .no⟩, ⟨some false, .no⟩, ⟨some false, .no⟩, ⟨some false, .no⟩, ⟨some false, .no⟩, ⟨none, .tv false⟩, oH] ⟨[(2, bV false)], [], 1⟩ hX (by kernel_rfl) (allCons (f54_ok hc5) (allCons hb6 (allCons hb6 (allCons hb6 (allCons (f54_ok hc8) (allCons hb6 (allCons hb9 (allCons hb9 (allCons hb9 (allCons hb9 (allCons hb9 (allCons (f102_ok hc11) (allCons hb9 (allCons hb12 (allCons hb12 (allCons hb12 (allCons hb12 (allCons hb12 (allCons hb12 (allCons hb12 (allCons hb12 (allCons (rfl : false = false) (allCons (rfl : false = false) (allCons (rfl : false = false) (allCons (rfl : false = false) (allCons (rfl : false = false) (allCons (rfl : false = false) (allCons (rfl : false = false) (allCons (rfl : false = false) allNil))))))))))))))))))))))))))))) (qThen ?_)
          exact (Le.cv (s := ⟨[], [], [], false⟩) (own := []) (ps := [false = false]) (st' := ⟨[(2, bV false)], [], 0⟩) hO (fun h => by cases h) (by kernel_rfl) ⟨rfl, trivial⟩).ht (cont false (of_some hT3))
      · refine HT.rgL [oH, oH, ⟨none, .call [.imm tI, .imm tI, .imm tI] [⟨false, .bool, y4⟩] []⟩, oH, ⟨some true, .no⟩, ⟨some true, .no⟩, ⟨some true, .call [.imm tI, .imm tI, .imm tI] [⟨false, .bool, y7⟩] []⟩, ⟨none, .tv true⟩, oH, ⟨some false, .no⟩, ⟨some false, .no⟩, ⟨some false, .no⟩, ⟨some false, .no⟩, ⟨some false, .no⟩, ⟨none, .tv false⟩, oH, ⟨some false, .no⟩, ⟨some false, .no⟩, ⟨some false, .no⟩, ⟨some false, .no⟩, ⟨some false, .no⟩, ⟨some false, .no⟩, ⟨some false, .no⟩, ⟨none, .tv false⟩, oH, ⟨some false, .no⟩, ⟨some false, .no⟩, ⟨some false, .no⟩, ⟨some false, .no⟩, ⟨some false, .no⟩, ⟨some false, .no⟩, ⟨some false, .no⟩, ⟨none, .tv false⟩, oH] ⟨[(2, bV false)], [], 1⟩ hX (by kernel_rfl) (allCons (f54_ok hc5) (allCons hb6 (allCons hb6 (allCons hb6 (allCons (f54_ok hc8) (allCons hb6 (allCons hb9 (allCons hb9 (allCons hb9 (allCons hb9 (allCons hb9 (allCons hb9 (allCons (rfl : false = false) (allCons (rfl : false = false) (allCons (rfl : false = false) (allCons (rfl : false = false) (allCons (rfl : false = false) (allCons (rfl : false = false) (allCons (rfl : false = false) (allCons (rfl : false = false) (allCons (rfl : false = false) (allCons (rfl : false = false) (allCons (rfl : false = false) (allCons (rfl : false = false) (allCons (rfl : false = false) (allCons (rfl : false = false) (allCons (rfl : false = false) (allCons (rfl : false = false) allNil)))))))))))))))))))))))))))) (qThen ?_)
        exact (Le.cv (s := ⟨[], [], [], false⟩) (own := []) (ps := [false = false]) (st' := ⟨[(2, bV false)], [], 0⟩) hO (fun h => by cases h) (by kernel_rfl) ⟨rfl, trivial⟩).ht (cont false (of_some hT3))
    · refine HT.rgL [oH, oH, ⟨none, .call [.imm tI, .imm tI, .imm tI] [⟨false, .bool, y4⟩] []⟩, oH, ⟨some false, .no⟩, ⟨some false, .no⟩, ⟨some false, .no⟩, ⟨none, .tv false⟩, oH, ⟨some false, .no⟩, ⟨some false, .no⟩, ⟨some false, .no⟩, ⟨some false, .no⟩, ⟨some false, .no⟩, ⟨none, .tv false⟩, oH, ⟨some false, .no⟩, ⟨some false, .no⟩, ⟨some false, .no⟩, ⟨some false, .no⟩, ⟨some false, .no⟩, ⟨some false, .no⟩, ⟨some false, .no⟩, ⟨none, .tv false⟩, oH, ⟨some false, .no⟩, ⟨some false, .no⟩, ⟨some false, .no⟩, ⟨some false, .no⟩, ⟨some false, .no⟩, ⟨some false, .no⟩, ⟨some false, .no⟩, ⟨none, .tv false⟩, oH] ⟨[(2, bV false)], [], 1⟩ hX (by kernel_rfl) (allCons (f54_ok hc5) (allCons hb6 (allCons hb6 (allCons hb6 (allCons hb6 (allCons (rfl : false = false) (allCons (rfl : false = false) (allCons (rfl : false = false) (allCons (rfl : false = false) (allCons (rfl : false = false) (allCons (rfl : false = false) (allCons (rfl : false = false) (allCons (rfl : false = false) (allCons (rfl : false = false) (allCons (rfl : false = false) (allCons (rfl : false = false) (allCons (rfl : false = false) (allCons (rfl : false = false) (allCons (rfl : false = false) (allCons (rfl : false = false) (allCons (rfl : false = false) (allCons (rfl : false = false) (allCons (rfl : false = false) (allCons (rfl : false = false) (allCons (rfl : false = false) (allCons (rfl : false = false) (allCons (rfl : false = false) allNil))))))))))))))))))))))))))) (qThen ?_)
      exact (Le.cv (s := ⟨[], [], [], false⟩) (own := []) (ps := [false = false]) (st' := ⟨[(2, bV false)], [], 0⟩) hO (fun h => by cases h) (by kernel_rfl) ⟨rfl, trivial⟩).ht (cont false (of_some hT3))

noncomputable def impl_areWithin_B1 (a0 : List Int) (a1 : Int) (a2 : Int) (s1 : Int) : Option ((Int) ⊕ (Unit ⊕ Unit)) :=
  bif (decide (s1 < (lenI a0))) then
    guardP ((0 : Int) ≤ s1 ∧ s1 < lenI a0) (
      (impl_within (List.getD a0 (Int.toNat s1) (0 : Int)) a1 a2).bind fun y10 =>
      bif (!y10) then
        some (.inr (.inr ()))
      else
        some (.inl (wadd .i64 s1 (1 : Int))))
  else
    some (.inr (.inl ()))

noncomputable def impl_areWithin (a0 : List Int) (a1 : Int) (a2 : Int) : Option (Bool) :=
  (rounds (impl_areWithin_B1 a0 a1 a2) (0 : Int)).bind fun r2 => match r2 with
    | .inl r3 =>
      some true
    | .inr r4 =>
      some false

theorem f103_ok {a0 : List Int} {a1 : Int} {a2 : Int} {r : Bool} (hr : impl_areWithin a0 a1 a2 = some r) : CallOK Try.prog 103 [.imm tLI a0, .imm tI a1, .imm tI a2] [⟨false, .bool, r⟩] [] := by
  unfold impl_areWithin at hr
  refine CallOK.of_body (ts := [(false, .bool)]) Try.func103 rfl (by kernel_rfl) (Nat.le_of_ble_eq_true (by kernel_rfl)) fun cx hP hN hO hF => ?_
  have hO : cx.own.map Prod.fst = [] := hO
  have hX := CxIs.mk hP hN hO
  have hF := hF rfl
  show HT cx ⟨[(0, nV a0), (1, iV a1), (2, iV a2)], [], 0⟩ _ _
  refine HT.rg2 [oH] ⟨[(0, nV a0), (1, iV a1), (2, iV a2)], [], 0⟩ hX (by kernel_rfl) allNil ?_
  refine HT.seq ?_
  refine HT.rg2 (oHs 3) ⟨[(1, iV a1), (2, iV a2), (9, nV a0), (10, iV (lenI a0)), (11, iV (0 : Int))], [], 0⟩ hX (by kernel_rfl) allNil ?_
  refine HT.block ?_
  obtain ⟨r2, hL13, hr⟩ := of_bind hr
  refine (Le.cv (s := ⟨[], [], [], false⟩) (own := []) (ps := [a1 = a1, a2 = a2, a0 = a0, (lenI a0) = (lenI a0), (0 : Int) = (0 : Int)]) (st' := ⟨[(1, iV a1), (2, iV a2), (9, nV a0), (10, iV (lenI a0)), (11, iV (0 : Int))], [], 0⟩) hO (fun h => by cases h) (by kernel_rfl) ⟨rfl, rfl, rfl, rfl, rfl, trivial⟩).ht ?_
  refine HT.loopE (s := (0 : Int)) (fun (s1 : Int) => ⟨[(1, iV a1), (2, iV a2), (9, nV a0), (10, iV (lenI a0)), (11, iV s1)], [], 0⟩) (fun (r2 : Unit ⊕ Unit) => match r2 with | .inl r3 => (.exit 0, ⟨[], [], 0⟩) | .inr r4 => (.ret, ⟨[(6, bV false)], [], 0⟩)) hL13 ?_ (fun s1 x5 hx6 hk7 => ?_)
  · rcases r2 with r3 | r4
    · refine (qBlockX (qThen ?_))
      refine HT.rg2 [oH] ⟨[(6, bV true)], [], 0⟩ hX (by kernel_rfl) allNil ?_
      have hr := of_some hr
      subst hr
      exact HT.ret ⟨[bV true], [], [], by kernel_rfl, by kernel_rfl, rfl, by kernel_rfl, by kernel_rfl, trivial⟩
    · have hr := of_some hr
      subst hr
      exact (qBlockR (qThenR ⟨[bV false], [], [], by kernel_rfl, by kernel_rfl, rfl, by kernel_rfl, by kernel_rfl, trivial⟩))
  · refine HT.rg2 [oH] ⟨[(1, iV a1), (2, iV a2), (9, nV a0), (10, iV (lenI a0)), (11, iV s1), (12, bV (decide (s1 < (lenI a0))))], [], 0⟩ hX (by kernel_rfl) allNil ?_
    refine HT.seq ?_
    rcases of_bif hx6 with ⟨hb8, hx6⟩ | ⟨hb8, hx6⟩
    · refine HT.cond1 rfl hb8 ?_
      refine HT.skip (qThen ?_)
      refine HT.seq ?_
      refine HT.block ?_
      obtain ⟨hg9, hx6⟩ := of_guard hx6
      refine HT.rg2 (oHs 3) ⟨[(1, iV a1), (2, iV a2), (8, iV (List.getD a0 (Int.toNat s1) (0 : Int))), (9, nV a0), (10, iV (lenI a0)), (11, iV s1)], [], 0⟩ hX (by kernel_rfl) (allCons hg9 allNil) ?_
      obtain ⟨y10, hc11, hx6⟩ := of_bind hx6
      refine HT.rg2 [oH, oH, oH, ⟨none, .call [.imm tI, .imm tI, .imm tI] [⟨false, .bool, y10⟩] []⟩, oH] ⟨[(1, iV a1), (2, iV a2), (9, nV a0), (10, iV (lenI a0)), (11, iV s1), (19, bV (!y10))], [], 0⟩ hX (by kernel_rfl) (allCons (f54_ok hc11) allNil) ?_
      rcases of_bif hx6 with ⟨hb12, hx6⟩ | ⟨hb12, hx6⟩
      · refine HT.cond1 rfl hb12 ?_
        refine HT.rg2 [oH] ⟨[(6, bV false)], [], 0⟩ hX (by kernel_rfl) allNil ?_
        have hx6 := of_some hx6
        subst hx6
        refine (Le.cv (s := ⟨[], [], [], false⟩) (own := []) (ps := [false = false]) (st' := ⟨[(6, bV false)], [], 0⟩) hO (fun h => by cases h) (by kernel_rfl) ⟨rfl, trivial⟩).ht ?_
        exact HT.ret (qBlockR (qThenR (qLoopR (hk7 (.inr ()) rfl))))
      · refine HT.cond0 rfl hb12 ?_
        refine HT.skip (qBlock (qThen ?_))
        have hx6 := of_some hx6
        subst hx6
        refine HT.rgL (oHs 2) ⟨[(1, iV a1), (2, iV a2), (9, nV a0), (10, iV (lenI a0)), (11, iV (wadd .i64 s1 (1 : Int)))], [], 0⟩ hX (by kernel_rfl) allNil (qLoopN ⟨(wadd .i64 s1 (1 : Int)), rfl, Le.cv (s := ⟨[], [], [], false⟩) (own := []) (ps := [a1 = a1, a2 = a2, a0 = a0, (lenI a0) = (lenI a0), (wadd .i64 s1 (1 : Int)) = (wadd .i64 s1 (1 : Int))]) (st' := ⟨[(1, iV a1), (2, iV a2), (9, nV a0), (10, iV (lenI a0)), (11, iV (wadd .i64 s1 (1 : Int)))], [], 0⟩) hO (fun h => by cases h) (by kernel_rfl) ⟨rfl, rfl, rfl, rfl, rfl, trivial⟩⟩)
    · refine HT.cond0 rfl hb8 ?_
      have hx6 := of_some hx6
      subst hx6
      refine (Le.cv (s := ⟨[], [], [], false⟩) (own := []) (ps := []) (st' := ⟨[], [], 0⟩) hO (fun h => by cases h) (by kernel_rfl) trivial).ht ?_
      exact HT.exit (qThenE (qLoopE (hk7 (.inl ()) rfl)))

noncomputable def impl_IsWord (a0 : List Int) (a1 : Int) : Option (Bool) :=
  (show Option (Bool) from
    (impl_within a1 (1 : Int) (4 : Int)).bind fun y4 =>
    bif y4 then
      bif (decide ((lenI a0) ≤ (12 : Int))) then
        (impl_areWithin a0 (0 : Int) (wsub .i64 a1 (1 : Int))).bind fun y8 =>
        some y8
      else
        some false
    else
      some false).bind fun v1 =>
  some v1

theorem f79_ok {a0 : List Int} {a1 : Int} {r : Bool} (hr : impl_IsWord a0 a1 = some r) : CallOK Try.prog 79 [.imm tLI a0, .imm tI a1] [⟨false, .bool, r⟩] [] := by
  unfold impl_IsWord at hr
  refine CallOK.of_body (ts := [(false, .bool)]) Try.func79 rfl (by kernel_rfl) (Nat.le_of_ble_eq_true (by kernel_rfl)) fun cx hP hN hO hF => ?_
  have hO : cx.own.map Prod.fst = [] := hO
  have hX := CxIs.mk hP hN hO
  have hF := hF rfl
  show HT cx ⟨[(0, nV a0), (1, iV a1)], [], 0⟩ _ _
  refine HT.rg2 [oH] ⟨[(0, nV a0), (1, iV a1)], [], 0⟩ hX (by kernel_rfl) allNil ?_
  obtain ⟨v1', hT3, hr⟩ := of_bind hr
  refine HT.join (fun (v1 : Bool) => ⟨[(4, bV v1)], [], 0⟩) (fun v => v = v1') (fun v1 hv2 => ?_) (fun cont => ?_)
  · subst hv2
    have hr := of_some hr
    subst hr
    exact HT.ret ⟨[bV v1], [], [], by kernel_rfl, by kernel_rfl, rfl, by kernel_rfl, by kernel_rfl, trivial⟩
  · obtain ⟨y4, hc5, hT3⟩ := of_bind hT3
    rcases of_bif hT3 with ⟨hb6, hT3⟩ | ⟨hb6, hT3⟩
    · rcases of_bif hT3 with ⟨hb7, hT3⟩ | ⟨hb7, hT3⟩
      · obtain ⟨y8, hc9, hT3⟩ := of_bind hT3
        refine HT.rgL [oH, ⟨none, .call [.imm tI, .imm tI, .imm tI] [⟨false, .bool, y4⟩] []⟩, oH, ⟨some true, .no⟩, ⟨some true, .no⟩, ⟨some true, .no⟩, ⟨none, .tv true⟩, oH, ⟨some true, .no⟩, ⟨some true, .no⟩, ⟨some true, .no⟩, ⟨some true, .call [.imm tLI, .imm tI, .imm tI] [⟨false, .bool, y8⟩] []⟩, ⟨none, .tv true⟩, oH] ⟨[(4, bV y8)], [], 0⟩ hX (by kernel_rfl) (allCons (f54_ok hc5) (allCons hb6 (allCons hb6 (allCons hb6 (allCons hb6 (allCons hb7 (allCons hb7 (allCons hb7 (allCons hb7 (allCons (f103_ok hc9) (allCons hb7 allNil))))))))))) (qThen ?_)
        exact (Le.cv (s := ⟨[], [], [], false⟩) (own := []) (ps := [y8 = y8]) (st' := ⟨[(4, bV y8)], [], 0⟩) hO (fun h => by cases h) (by kernel_rfl) ⟨rfl, trivial⟩).ht (cont y8 (of_some hT3))
      · refine HT.rgL [oH, ⟨none, .call [.imm tI, .imm tI, .imm tI] [⟨false, .bool, y4⟩] []⟩, oH, ⟨some true, .no⟩, ⟨some true, .no⟩, ⟨some true, .no⟩, ⟨none, .tv true⟩, oH, ⟨some false, .no⟩, ⟨some false, .no⟩, ⟨some false, .no⟩, ⟨some false, .no⟩, ⟨none, .tv false⟩, oH] ⟨[(4, bV false)], [], 0⟩ hX (by kernel_rfl) (allCons (f54_ok hc5) (allCons hb6 (allCons hb6 (allCons hb6 (allCons hb6 (allCons hb7 (allCons hb7 (allCons hb7 (allCons hb7 (allCons hb7 allNil)))))))))) (qThen ?_)
        exact (Le.cv (s := ⟨[], [], [], false⟩) (own := []) (ps := [false = false]) (st' := ⟨[(4, bV false)], [], 0⟩) hO (fun h => by cases h) (by kernel_rfl) ⟨rfl, trivial⟩).ht (cont false (of_some hT3))
    · refine HT.rgL [oH, ⟨none, .call [.imm tI, .imm tI, .imm tI] [⟨false, .bool, y4⟩] []⟩, oH, ⟨some false, .no⟩, ⟨some false, .no⟩, ⟨some false, .no⟩, ⟨none, .tv false⟩, oH, ⟨some false, .no⟩, ⟨some false, .no⟩, ⟨some false, .no⟩, ⟨some false, .no⟩, ⟨none, .tv false⟩, oH] ⟨[(4, bV false)], [], 0⟩ hX (by kernel_rfl) (allCons (f54_ok hc5) (allCons hb6 (allCons hb6 (allCons hb6 (allCons hb6 (allCons (rfl : false = false) (allCons (rfl : false = false) (allCons (rfl : false = false) (allCons (rfl : false = false) (allCons (rfl : false = false) allNil)))))))))) (qThen ?_)
      exact (Le.cv (s := ⟨[], [], [], false⟩) (own := []) (ps := [false = false]) (st' := ⟨[(4, bV false)], [], 0⟩) hO (fun h => by cases h) (by kernel_rfl) ⟨rfl, trivial⟩).ht (cont false (of_some hT3))

noncomputable def impl_areWords_B1 (a0 : List (List Int)) (a1 : Int) (s1 : Int) : Option ((Int) ⊕ (Unit ⊕ Unit)) :=
  bif (decide (s1 < (lenI a0))) then
    guardP ((0 : Int) ≤ s1 ∧ s1 < lenI a0) (
      (impl_IsWord (List.getD a0 (Int.toNat s1) ([] : List Int)) a1).bind fun y10 =>
      bif (!y10) then
        some (.inr (.inr ()))
      else
        some (.inl (wadd .i64 s1 (1 : Int))))
  else
    some (.inr (.inl ()))

noncomputable def impl_areWords (a0 : List (List Int)) (a1 : Int) : Option (Bool) :=
  (rounds (impl_areWords_B1 a0 a1) (0 : Int)).bind fun r2 => match r2 with
    | .inl r3 =>
      some true
    | .inr r4 =>
      some false

theorem f90_ok {a0 : List (List Int)} {a1 : Int} {r : Bool} (hr : impl_areWords a0 a1 = some r) : CallOK Try.prog 90 [.imm (.sl tLI) a0, .imm tI a1] [⟨false, .bool, r⟩] [] := by
  unfold impl_areWords at hr
  refine CallOK.of_body (ts := [(false, .bool)]) Try.func90 rfl (by kernel_rfl) (Nat.le_of_ble_eq_true (by kernel_rfl)) fun cx hP hN hO hF => ?_
  have hO : cx.own.map Prod.fst = [] := hO
  have hX := CxIs.mk hP hN hO
  have hF := hF rfl
  show HT cx ⟨[(0, .one (.dat (.sl tLI) a0)), (1, iV a1)], [], 0⟩ _ _
  refine HT.rg2 [oH] ⟨[(0, .one (.dat (.sl tLI) a0)), (1, iV a1)], [], 0⟩ hX (by kernel_rfl) allNil ?_
  refine HT.seq ?_
  refine HT.rg2 (oHs 3) ⟨[(1, iV a1), (7, .one (.dat (.sl tLI) a0)), (8, iV (lenI a0)), (9, iV (0 : Int))], [], 0⟩ hX (by kernel_rfl) allNil ?_
  refine HT.block ?_
  obtain ⟨r2, hL13, hr⟩ := of_bind hr
  refine (Le.cv (s := ⟨[], [], [], false⟩) (own := []) (ps := [a1 = a1, a0 = a0, (lenI a0) = (lenI a0), (0 : Int) = (0 : Int)]) (st' := ⟨[(1, iV a1), (7, .one (.dat (.sl tLI) a0)), (8, iV (lenI a0)), (9, iV (0 : Int))], [], 0⟩) hO (fun h => by cases h) (by kernel_rfl) ⟨rfl, rfl, rfl, rfl, trivial⟩).ht ?_
  refine HT.loopE (s := (0 : Int)) (fun (s1 : Int) => ⟨[(1, iV a1), (7, .one (.dat (.sl tLI) a0)), (8, iV (lenI a0)), (9, iV s1)], [], 0⟩) (fun (r2 : Unit ⊕ Unit) => match r2 with | .inl r3 => (.exit 0, ⟨[], [], 0⟩) | .inr r4 => (.ret, ⟨[(4, bV false)], [], 0⟩)) hL13 ?_ (fun s1 x5 hx6 hk7 => ?_)
  · rcases r2 with r3 | r4
    · refine (qBlockX (qThen ?_))
      refine HT.rg2 [oH] ⟨[(4, bV true)], [], 0⟩ hX (by kernel_rfl) allNil ?_
      have hr := of_some hr
      subst hr
      exact HT.ret ⟨[bV true], [], [], by kernel_rfl, by kernel_rfl, rfl, by kernel_rfl, by kernel_rfl, trivial⟩
    · have hr := of_some hr
      subst hr
      exact (qBlockR (qThenR ⟨[bV false], [], [], by kernel_rfl, by kernel_rfl, rfl, by kernel_rfl, by kernel_rfl, trivial⟩))
  · refine HT.rg2 [oH] ⟨[(1, iV a1), (7, .one (.dat (.sl tLI) a0)), (8, iV (lenI a0)), (9, iV s1), (10, bV (decide (s1 < (lenI a0))))], [], 0⟩ hX (by kernel_rfl) allNil ?_
    refine HT.seq ?_
    rcases of_bif hx6 with ⟨hb8, hx6⟩ | ⟨hb8, hx6⟩
    · refine HT.cond1 rfl hb8 ?_
      refine HT.skip (qThen ?_)
      refine HT.seq ?_
      refine HT.block ?_
      obtain ⟨hg9, hx6⟩ := of_guard hx6
      refine HT.rg2 (oHs 3) ⟨[(1, iV a1), (6, nV (List.getD a0 (Int.toNat s1) ([] : List Int))), (7, .one (.dat (.sl tLI) a0)), (8, iV (lenI a0)), (9, iV s1)], [], 0⟩ hX (by kernel_rfl) (allCons hg9 allNil) ?_
      obtain ⟨y10, hc11, hx6⟩ := of_bind hx6
      refine HT.rg2 [oH, oH, ⟨none, .call [.imm tLI, .imm tI] [⟨false, .bool, y10⟩] []⟩, oH] ⟨[(1, iV a1), (7, .one (.dat (.sl tLI) a0)), (8, iV (lenI a0)), (9, iV s1), (16, bV (!y10))], [], 0⟩ hX (by kernel_rfl) (allCons (f79_ok hc11) allNil) ?_
      rcases of_bif hx6 with ⟨hb12, hx6⟩ | ⟨hb12, hx6⟩
      · refine HT.cond1 rfl hb12 ?_
        refine HT.rg2 [oH] ⟨[(4, bV false)], [], 0⟩ hX (by kernel_rfl) allNil ?_
        have hx6 := of_some hx6
        subst hx6
        refine (Le.cv (s := ⟨[], [], [], false⟩) (own := []) (ps := [false = false]) (st' := ⟨[(4, bV false)], [], 0⟩) hO (fun h => by cases h) (by kernel_rfl) ⟨rfl, trivial⟩).ht ?_
        exact HT.ret (qBlockR (qThenR (qLoopR (hk7 (.inr ()) rfl))))
      · refine HT.cond0 rfl hb12 ?_
        refine HT.skip (qBlock (qThen ?_))
        have hx6 := of_some hx6
        subst hx6
        refine HT.rgL (oHs 2) ⟨[(1, iV a1), (7, .one (.dat (.sl tLI) a0)), (8, iV (lenI a0)), (9, iV (wadd .i64 s1 (1 : Int)))], [], 0⟩ hX (by kernel_rfl) allNil (qLoopN ⟨(wadd .i64 s1 (1 : Int)), rfl, Le.cv (s := ⟨[], [], [], false⟩) (own := []) (ps := [a1 = a1, a0 = a0, (lenI a0) = (lenI a0), (wadd .i64 s1 (1 : Int)) = (wadd .i64 s1 (1 : Int))]) (st' := ⟨[(1, iV a1), (7, .one (.dat (.sl tLI) a0)), (8, iV (lenI a0)), (9, iV (wadd .i64 s1 (1 : Int)))], [], 0⟩) hO (fun h => by cases h) (by kernel_rfl) ⟨rfl, rfl, rfl, rfl, trivial⟩⟩)
    · refine HT.cond0 rfl hb8 ?_
      have hx6 := of_some hx6
      subst hx6
      refine (Le.cv (s := ⟨[], [], [], false⟩) (own := []) (ps := []) (st' := ⟨[], [], 0⟩) hO (fun h => by cases h) (by kernel_rfl) trivial).ht ?_
      exact HT.exit (qThenE (qLoopE (hk7 (.inl ()) rfl)))

noncomputable def impl_Model_haveWords (a0 : Int × Int × List Nat × List Nat × List Nat) (a1 : List (List Int)) : Option (Bool) :=
  (show Option (Bool) from
    (impl_ValidModel (a0.1, a0.2.1, a0.2.2.1, a0.2.2.2.1, a0.2.2.2.2)).bind fun y4 =>
    bif y4 then
      bif (decide ((lenI a1) ≥ (1 : Int))) then
        bif (decide ((lenI a1) ≤ (16 : Int))) then
          (impl_areWords a1 a0.2.1).bind fun y9 =>
          some y9
        else
          some false
      else
        some false
    else
      some false).bind fun v1 =>
  some v1

theorem f62_ok {a0 : Int × Int × List Nat × List Nat × List Nat} {a1 : List (List Int)} {r : Bool} (hr : impl_Model_haveWords a0 a1 = some r) : CallOK Try.prog 62 [.imm (.st (.pair tI (.pair tI (.pair tLF (.pair tLF tLF))))) a0, .imm (.sl tLI) a1] [⟨false, .bool, r⟩] [] := by
  unfold impl_Model_haveWords at hr
  refine CallOK.of_body (ts := [(false, .bool)]) Try.func62 rfl (by kernel_rfl) (Nat.le_of_ble_eq_true (by kernel_rfl)) fun cx hP hN hO hF => ?_
  have hO : cx.own.map Prod.fst = [] := hO
  have hX := CxIs.mk hP hN hO
  have hF := hF rfl
  show HT cx ⟨[(0, .agg [iC a0.1, iC a0.2.1, lC a0.2.2.1, lC a0.2.2.2.1, lC a0.2.2.2.2]), (1, .one (.dat (.sl tLI) a1))], [], 0⟩ _ _
  refine HT.rg2 (oHs 2) ⟨[(1, .one (.dat (.sl tLI) a1)), (2, pV 0 0)], [(0, .box [iC a0.1, iC a0.2.1, lC a0.2.2.1, lC a0.2.2.2.1, lC a0.2.2.2.2])], 1⟩ hX (by kernel_rfl) allNil ?_
  obtain ⟨v1', hT3, hr⟩ := of_bind hr
  refine HT.join (fun (v1 : Bool) => ⟨[(4, bV v1)], [], 0⟩) (fun v => v = v1') (fun v1 hv2 => ?_) (fun cont => ?_)
  · subst hv2
    have hr := of_some hr
    subst hr
    exact HT.ret ⟨[bV v1], [], [], by kernel_rfl, by kernel_rfl, rfl, by kernel_rfl, by kernel_rfl, trivial⟩
  · obtain ⟨y4, hc5, hT3⟩ := of_bind hT3
    rcases of_bif hT3 with ⟨hb6, hT3⟩ | ⟨hb6, hT3⟩
    · rcases of_bif hT3 with ⟨hb7, hT3⟩ | ⟨hb7, hT3⟩
      · rcases of_bif hT3 with ⟨hb8, hT3⟩ | ⟨hb8, hT3⟩
        · obtain ⟨y9, hc10, hT3⟩ := of_bind hT3
          refine HT.rgL [oH, ⟨none, .call [.imm (.st (.pair tI (.pair tI (.pair tLF (.pair tLF tLF)))))] [⟨false, .bool, y4⟩] []⟩, oH, ⟨some true, .no⟩, ⟨some true, .no⟩, ⟨some true, .no⟩, ⟨none, .tv true⟩, oH, ⟨some true, .no⟩, ⟨some true, .no⟩, ⟨some true, .no⟩, ⟨none, .tv true⟩, oH, ⟨some true, .no⟩, ⟨some true, .no⟩, ⟨some true, .no⟩, ⟨some true, .call [.imm (.sl tLI), .imm tI] [⟨false, .bool, y9⟩] []⟩, ⟨none, .tv true⟩, oH] ⟨[(4, bV y9)], [], 1⟩ hX (by kernel_rfl) (allCons (f78_ok hc5) (allCons hb6 (allCons hb6 (allCons hb6 (allCons hb6 (allCons hb7 (allCons hb7 (allCons hb7 (allCons hb7 (allCons hb8 (allCons hb8 (allCons hb8 (allCons hb8 (allCons (f90_ok hc10) (allCons hb8 allNil))))))))))))))) (qThen ?_)
          exact (Le.cv (s := ⟨[], [], [], false⟩) (own := []) (ps := [y9 = y9]) (st' := ⟨[(4, bV y9)], [], 0⟩) hO (fun h => by cases h) (by kernel_rfl) ⟨rfl, trivial⟩).ht (cont y9 (of_some hT3))
        · refine HT.rgL [oH, ⟨none, .call [.imm (.st (.pair tI (.pair tI (.pair tLF (.pair tLF tLF)))))] [⟨false, .bool, y4⟩] []⟩, oH, ⟨some true, .no⟩, ⟨some true, .no⟩, ⟨some true, .no⟩, ⟨none, .tv true⟩, oH, ⟨some true, .no⟩, ⟨some true, .no⟩, ⟨some true, .no⟩, ⟨none, .tv true⟩, oH, ⟨some false, .no⟩, ⟨some false, .no⟩, ⟨some false, .no⟩, ⟨some false, .no⟩, ⟨none, .tv false⟩, oH] ⟨[(4, bV false)], [], 1⟩ hX (by kernel_rfl) (allCons (f78_ok hc5) (allCons hb6 (allCons hb6 (allCons hb6 (allCons hb6 (allCons hb7 (allCons hb7 (allCons hb7 (allCons hb7 (allCons hb8 (allCons hb8 (allCons hb8 (allCons hb8 (allCons hb8 allNil)))))))))))))) (qThen ?_)
          exact (Le.cv (s := ⟨[], [], [], false⟩) (own := []) (ps := [false = false]) (st' := ⟨[(4, bV false)], [], 0⟩) hO (fun h => by cases h) (by kernel_rfl) ⟨rfl, trivial⟩).ht (cont false (of_some hT3))
      · refine HT.rgL [oH, ⟨none, .call [.imm (.st (.pair tI (.pair tI (.pair tLF (.pair tLF tLF)))))] [⟨false, .bool, y4⟩] []⟩, oH, ⟨some true, .no⟩, ⟨some true, .no⟩, ⟨some true, .no⟩, ⟨none, .tv true⟩, oH, ⟨some false, .no⟩, ⟨some false, .no⟩, ⟨some false, .no⟩, ⟨none, .tv false⟩, oH, ⟨some false, .no⟩, ⟨some false, .no⟩, ⟨some false, .no⟩, ⟨some false, .no⟩, ⟨none, .tv false⟩, oH] ⟨[(4, bV false)], [], 1⟩ hX (by kernel_rfl) (allCons (f78_ok hc5) (allCons hb6 (allCons hb6 (allCons hb6 (allCons hb6 (allCons hb7 (allCons hb7 (allCons hb7 (allCons hb7 (allCons (rfl : false = false) (allCons (rfl : false = false) (allCons (rfl : false = false) (allCons (rfl : false = false) (allCons (rfl : false = false) allNil)))))))))))))) (qThen ?_)
        exact (Le.cv (s := ⟨[], [], [], false⟩) (own := []) (ps := [false = false]) (st' := ⟨[(4, bV false)], [], 0⟩) hO (fun h => by cases h) (by kernel_rfl) ⟨rfl, trivial⟩).ht (cont false (of_some hT3))
    · refine HT.rgL [oH, ⟨none, .call [.imm (.st (.pair tI (.pair tI (.pair tLF (.pair tLF tLF)))))] [⟨false, .bool, y4⟩] []⟩, oH, ⟨some false, .no⟩, ⟨some false, .no⟩, ⟨some false, .no⟩, ⟨none, .tv false⟩, oH, ⟨some false, .no⟩, ⟨some false, .no⟩, ⟨some false, .no⟩, ⟨none, .tv false⟩, oH, ⟨some false, .no⟩, ⟨some false, .no⟩, ⟨some false, .no⟩, ⟨some false, .no⟩, ⟨none, .tv false⟩, oH] ⟨[(4, bV false)], [], 1⟩ hX (by kernel_rfl) (allCons (f78_ok hc5) (allCons hb6 (allCons hb6 (allCons hb6 (allCons hb6 (allCons (rfl : false = false) (allCons (rfl : false = false) (allCons (rfl : false = false) (allCons (rfl : false = false) (allCons (rfl : false = false) (allCons (rfl : false = false) (allCons (rfl : false = false) (allCons (rfl : false = false) (allCons (rfl : false = false) allNil)))))))))))))) (qThen ?_)
      exact (Le.cv (s := ⟨[], [], [], false⟩) (own := []) (ps := [false = false]) (st' := ⟨[(4, bV false)], [], 0⟩) hO (fun h => by cases h) (by kernel_rfl) ⟨rfl, trivial⟩).ht (cont false (of_some hT3))

noncomputable def impl_Model_has (a0 : Int × Int × List Nat × List Nat × List Nat) (a1 : List Int) : Option (Bool) :=
  (show Option (Bool) from
    (impl_ValidModel (a0.1, a0.2.1, a0.2.2.1, a0.2.2.2.1, a0.2.2.2.2)).bind fun y4 =>
    bif y4 then
      (impl_IsWord a1 a0.2.1).bind fun y7 =>
      some y7
    else
      some false).bind fun v1 =>
  some v1

theorem f47_ok {a0 : Int × Int × List Nat × List Nat × List Nat} {a1 : List Int} {r : Bool} (hr : impl_Model_has a0 a1 = some r) : CallOK Try.prog 47 [.imm (.st (.pair tI (.pair tI (.pair tLF (.pair tLF tLF))))) a0, .imm tLI a1] [⟨false, .bool, r⟩] [] := by
  unfold impl_Model_has at hr
  refine CallOK.of_body (ts := [(false, .bool)]) Try.func47 rfl (by kernel_rfl) (Nat.le_of_ble_eq_true (by kernel_rfl)) fun cx hP hN hO hF => ?_
  have hO : cx.own.map Prod.fst = [] := hO
  have hX := CxIs.mk hP hN hO
  have hF := hF rfl
  show HT cx ⟨[(0, .agg [iC a0.1, iC a0.2.1, lC a0.2.2.1, lC a0.2.2.2.1, lC a0.2.2.2.2]), (1, nV a1)], [], 0⟩ _ _
  refine HT.rg2 (oHs 2) ⟨[(1, nV a1), (2, pV 0 0)], [(0, .box [iC a0.1, iC a0.2.1, lC a0.2.2.1, lC a0.2.2.2.1, lC a0.2.2.2.2])], 1⟩ hX (by kernel_rfl) allNil ?_
  obtain ⟨v1', hT3, hr⟩ := of_bind hr
  refine HT.join (fun (v1 : Bool) => ⟨[(4, bV v1)], [], 0⟩) (fun v => v = v1') (fun v1 hv2 => ?_) (fun cont => ?_)
  · subst hv2
    have hr := of_some hr
    subst hr
    exact HT.ret ⟨[bV v1], [], [], by kernel_rfl, by kernel_rfl, rfl, by kernel_rfl, by kernel_rfl, trivial⟩
  · obtain ⟨y4, hc5, hT3⟩ := of_bind hT3
    rcases of_bif hT3 with ⟨hb6, hT3⟩ | ⟨hb6, hT3⟩
    · obtain ⟨y7, hc8, hT3⟩ := of_bind hT3
      refine HT.rgL [oH, ⟨none, .call [.imm (.st (.pair tI (.pair tI (.pair tLF (.pair tLF tLF)))))] [⟨false, .bool, y4⟩] []⟩, oH, ⟨some true, .no⟩, ⟨some true, .no⟩, ⟨some true, .no⟩, ⟨some true, .call [.imm tLI, .imm tI] [⟨false, .bool, y7⟩] []⟩, ⟨none, .tv true⟩, oH] ⟨[(4, bV y7)], [], 1⟩ hX (by kernel_rfl) (allCons (f78_ok hc5) (allCons hb6 (allCons hb6 (allCons hb6 (allCons hb6 (allCons (f79_ok hc8) (allCons hb6 allNil))))))) (qThen ?_)
      exact (Le.cv (s := ⟨[], [], [], false⟩) (own := []) (ps := [y7 = y7]) (st' := ⟨[(4, bV y7)], [], 0⟩) hO (fun h => by cases h) (by kernel_rfl) ⟨rfl, trivial⟩).ht (cont y7 (of_some hT3))
    · refine HT.rgL [oH, ⟨none, .call [.imm (.st (.pair tI (.pair tI (.pair tLF (.pair tLF tLF)))))] [⟨false, .bool, y4⟩] []⟩, oH, ⟨some false, .no⟩, ⟨some false, .no⟩, ⟨some false, .no⟩, ⟨some false, .no⟩, ⟨none, .tv false⟩, oH] ⟨[(4, bV false)], [], 1⟩ hX (by kernel_rfl) (allCons (f78_ok hc5) (allCons hb6 (allCons hb6 (allCons hb6 (allCons hb6 (allCons hb6 allNil)))))) (qThen ?_)
      exact (Le.cv (s := ⟨[], [], [], false⟩) (own := []) (ps := [false = false]) (st' := ⟨[(4, bV false)], [], 0⟩) hO (fun h => by cases h) (by kernel_rfl) ⟨rfl, trivial⟩).ht (cont false (of_some hT3))

theorem f66_ok {xs y : List Nat} (h : slices_Clone xs = some y) : CallOK Try.prog 66 [.imm tLF xs] [⟨true, tLF, y⟩] [] := by
  obtain ⟨hg, h⟩ := of_guard h
  have h := of_some h
  subst h
  refine CallOK.of_body (ts := [(true, tLF)]) Try.func66 rfl (by kernel_rfl) (Nat.le_of_ble_eq_true (by kernel_rfl)) fun cx hP hN hO hF => ?_
  show HT cx ⟨[(0, .one (.dat tLF xs))], [], 0⟩ _ _
  refine HT.reg1 [0] [⟨none, .no⟩] ⟨[(0, .one (.dat tLF xs))], [], 0⟩ hP hN (by kernel_rfl) allNil ?_
  refine HT.seq ?_
  refine HT.isNil (t3 := 3) (t4 := 4) (v := .one (.dat tLF xs)) (t := tF) (xs := xs) (st1 := ⟨[(3, .one (.dat tLF xs)), (0, .one (.dat tLF xs))], [], 0⟩) hP hN (by kernel_rfl) rfl rfl rfl rfl (e := 66) (by kernel_rfl) rfl rfl (fun b hb => ?_)
  show HT cx ⟨[(4, .one (.dat .bool b)), (3, .one (.dat tLF xs)), (0, .one (.dat tLF xs))], [], 0⟩ _ _
  cases b with
  | true =>
    have e := hb rfl
    subst e
    refine HT.cond1 rfl rfl ?_
    refine HT.reg1 [2] [⟨none, .no⟩] ⟨[(2, .one .nilS)], [], 0⟩ hP hN (by kernel_rfl) allNil ?_
    exact HT.ret (qThenR ⟨[.one .nilS], [], [], by kernel_rfl, by kernel_rfl, rfl, by kernel_rfl, by kernel_rfl, trivial⟩)
  | false =>
    refine HT.cond0 rfl rfl ?_
    refine HT.skip (qThen ?_)
    refine HT.reg1 [2] [⟨none, .no⟩, ⟨none, .no⟩, ⟨none, .ty tF⟩, ⟨none, .no⟩] ⟨[(2, .one (.all 0))], [(0, .seq tF xs)], 1⟩ hP hN (by kernel_rfl) (allCons hg allNil) ?_
    exact HT.ret ⟨[.one (.all 0)], [0], [], by kernel_rfl, by kernel_rfl, rfl, by kernel_rfl, by kernel_rfl, trivial⟩

noncomputable def impl_IsFinite (a0 : Nat) : Option (Bool) :=
  some (feq .f32 (fop .sub .f32 a0 a0) (0 : Nat))

theorem f106_ok {a0 : Nat} {r : Bool} (hr : impl_IsFinite a0 = some r) : CallOK Try.prog 106 [.imm tF a0] [⟨false, .bool, r⟩] [] := by
  unfold impl_IsFinite at hr
  refine CallOK.of_body (ts := [(false, .bool)]) Try.func106 rfl (by kernel_rfl) (Nat.le_of_ble_eq_true (by kernel_rfl)) fun cx hP hN hO hF => ?_
  have hO : cx.own.map Prod.fst = [] := hO
  have hX := CxIs.mk hP hN hO
  have hF := hF rfl
  show HT cx ⟨[(0, fV a0)], [], 0⟩ _ _
  refine HT.rg2 [oH] ⟨[(0, fV a0)], [], 0⟩ hX (by kernel_rfl) allNil ?_
  refine HT.rg2 (oHs 5) ⟨[(2, bV (feq .f32 (fop .sub .f32 a0 a0) (0 : Nat)))], [], 0⟩ hX (by kernel_rfl) allNil ?_
  have hr := of_some hr
  subst hr
  exact HT.ret ⟨[bV (feq .f32 (fop .sub .f32 a0 a0) (0 : Nat))], [], [], by kernel_rfl, by kernel_rfl, rfl, by kernel_rfl, by kernel_rfl, trivial⟩

noncomputable def impl_finite (a0 : Nat) : Option (Nat × Bool) :=
  (impl_IsFinite a0).bind fun y1 =>
  bif (!y1) then
    some ((0 : Nat), false)
  else
    some (a0, true)

theorem f118_ok {a0 : Nat} {r : Nat × Bool} (hr : impl_finite a0 = some r) : CallOK Try.prog 118 [.imm tF a0] [⟨false, tF, r.1⟩, ⟨false, .bool, r.2⟩] [] := by
  unfold impl_finite at hr
  refine CallOK.of_body (ts := [(false, tF), (false, .bool)]) Try.func118 rfl (by kernel_rfl) (Nat.le_of_ble_eq_true (by kernel_rfl)) fun cx hP hN hO hF => ?_
  have hO : cx.own.map Prod.fst = [] := hO
  have hX := CxIs.mk hP hN hO
  have hF := hF rfl
  show HT cx ⟨[(0, fV a0)], [], 0⟩ _ _
  refine HT.rg2 (oHs 2) ⟨[(0, fV a0)], [], 0⟩ hX (by kernel_rfl) allNil ?_
  refine HT.seq ?_
  obtain ⟨y1, hc2, hr⟩ := of_bind hr
  refine HT.rg2 [oH, ⟨none, .call [.imm tF] [⟨false, .bool, y1⟩] []⟩, oH] ⟨[(0, fV a0), (6, bV (!y1))], [], 0⟩ hX (by kernel_rfl) (allCons (f106_ok hc2) allNil) ?_
  rcases of_bif hr with ⟨hb3, hr⟩ | ⟨hb3, hr⟩
  · refine HT.cond1 rfl hb3 ?_
    refine HT.rg2 (oHs 2) ⟨[(2, fV (0 : Nat)), (3, bV false)], [], 0⟩ hX (by kernel_rfl) allNil ?_
    have hr := of_some hr
    subst hr
    exact HT.ret (qThenR ⟨[fV (0 : Nat), bV false], [], [], by kernel_rfl, by kernel_rfl, rfl, by kernel_rfl, by kernel_rfl, trivial⟩)
  · refine HT.cond0 rfl hb3 ?_
    refine HT.skip (qThen ?_)
    refine HT.rg2 (oHs 3) ⟨[(2, fV a0), (3, bV true)], [], 0⟩ hX (by kernel_rfl) allNil ?_
    have hr := of_some hr
    subst hr
    exact HT.ret ⟨[fV a0, bV true], [], [], by kernel_rfl, by kernel_rfl, rfl, by kernel_rfl, by kernel_rfl, trivial⟩

noncomputable def impl_Model_show (a0 : Int × Int × List Nat × List Nat × List Nat) (a1 : Int) (a2 : Int) : Option (Nat) :=
  guardP ((0 : Int) ≤ (wadd .i64 (wmul .i64 a1 a0.2.1) a2) ∧ (wadd .i64 (wmul .i64 a1 a0.2.1) a2) < lenI a0.2.2.2.2) (
    some (List.getD a0.2.2.2.2 (Int.toNat (wadd .i64 (wmul .i64 a1 a0.2.1) a2)) (0 : Nat)))

theorem f83_ok {a0 : Int × Int × List Nat × List Nat × List Nat} {a1 : Int} {a2 : Int} {r : Nat} (hr : impl_Model_show a0 a1 a2 = some r) : CallOK Try.prog 83 [.imm (.st (.pair tI (.pair tI (.pair tLF (.pair tLF tLF))))) a0, .imm tI a1, .imm tI a2] [⟨false, tF, r⟩] [] := by
  unfold impl_Model_show at hr
  refine CallOK.of_body (ts := [(false, tF)]) Try.func83 rfl (by kernel_rfl) (Nat.le_of_ble_eq_true (by kernel_rfl)) fun cx hP hN hO hF => ?_
  have hO : cx.own.map Prod.fst = [] := hO
  have hX := CxIs.mk hP hN hO
  have hF := hF rfl
  show HT cx ⟨[(0, .agg [iC a0.1, iC a0.2.1, lC a0.2.2.1, lC a0.2.2.2.1, lC a0.2.2.2.2]), (1, iV a1), (2, iV a2)], [], 0⟩ _ _
  refine HT.rg2 (oHs 2) ⟨[(1, iV a1), (2, iV a2), (3, pV 0 0)], [(0, .box [iC a0.1, iC a0.2.1, lC a0.2.2.1, lC a0.2.2.2.1, lC a0.2.2.2.2])], 1⟩ hX (by kernel_rfl) allNil ?_
  obtain ⟨hg1, hr⟩ := of_guard hr
  refine HT.rg2 (oHs 11) ⟨[(6, fV (List.getD a0.2.2.2.2 (Int.toNat (wadd .i64 (wmul .i64 a1 a0.2.1) a2)) (0 : Nat)))], [], 1⟩ hX (by kernel_rfl) (allCons hg1 allNil) ?_
  have hr := of_some hr
  subst hr
  exact HT.ret ⟨[fV (List.getD a0.2.2.2.2 (Int.toNat (wadd .i64 (wmul .i64 a1 a0.2.1) a2)) (0 : Nat))], [], [], by kernel_rfl, by kernel_rfl, rfl, by kernel_rfl, by kernel_rfl, trivial⟩

noncomputable def impl_Model_step (a0 : Int × Int × List Nat × List Nat × List Nat) (a1 : Int) (a2 : Int) : Option (Nat) :=
  guardP ((0 : Int) ≤ (wadd .i64 (wmul .i64 a1 a0.1) a2) ∧ (wadd .i64 (wmul .i64 a1 a0.1) a2) < lenI a0.2.2.2.1) (
    some (List.getD a0.2.2.2.1 (Int.toNat (wadd .i64 (wmul .i64 a1 a0.1) a2)) (0 : Nat)))

theorem f84_ok {a0 : Int × Int × List Nat × List Nat × List Nat} {a1 : Int} {a2 : Int} {r : Nat} (hr : impl_Model_step a0 a1 a2 = some r) : CallOK Try.prog 84 [.imm (.st (.pair tI (.pair tI (.pair tLF (.pair tLF tLF))))) a0, .imm tI a1, .imm tI a2] [⟨false, tF, r⟩] [] := by
  unfold impl_Model_step at hr
  refine CallOK.of_body (ts := [(false, tF)]) Try.func84 rfl (by kernel_rfl) (Nat.le_of_ble_eq_true (by kernel_rfl)) fun cx hP hN hO hF => ?_
  have hO : cx.own.map Prod.fst = [] := hO
  have hX := CxIs.mk hP hN hO
  have hF := hF rfl
  show HT cx ⟨[(0, .agg [iC a0.1, iC a0.2.1, lC a0.2.2.1, lC a0.2.2.2.1, lC a0.2.2.2.2]), (1, iV a1), (2, iV a2)], [], 0⟩ _ _
  refine HT.rg2 (oHs 2) ⟨[(1, iV a1), (2, iV a2), (3, pV 0 0)], [(0, .box [iC a0.1, iC a0.2.1, lC a0.2.2.1, lC a0.2.2.2.1, lC a0.2.2.2.2])], 1⟩ hX (by kernel_rfl) allNil ?_
  obtain ⟨hg1, hr⟩ := of_guard hr
  refine HT.rg2 (oHs 11) ⟨[(6, fV (List.getD a0.2.2.2.1 (Int.toNat (wadd .i64 (wmul .i64 a1 a0.1) a2)) (0 : Nat)))], [], 1⟩ hX (by kernel_rfl) (allCons hg1 allNil) ?_
  have hr := of_some hr
  subst hr
  exact HT.ret ⟨[fV (List.getD a0.2.2.2.1 (Int.toNat (wadd .i64 (wmul .i64 a1 a0.1) a2)) (0 : Nat))], [], [], by kernel_rfl, by kernel_rfl, rfl, by kernel_rfl, by kernel_rfl, trivial⟩

noncomputable def impl_Model_nextRow_B1 (a0 : Int × Int × List Nat × List Nat × List Nat) (a1 : List Nat) (a2 : Int) (s2 : Int × List Nat) (s9 : Int × List Nat) : Option ((Int × List Nat) ⊕ (List Nat)) :=
  bif (decide (s9.1 < a0.1)) then
    guardP ((0 : Int) ≤ s2.1 ∧ s2.1 < lenI s9.2) (
      guardP ((0 : Int) ≤ s9.1 ∧ s9.1 < lenI a1) (
        (impl_Model_show (a0.1, a0.2.1, a0.2.2.1, a0.2.2.2.1, a0.2.2.2.2) s9.1 a2).bind fun y18 =>
        (impl_Model_step (a0.1, a0.2.1, a0.2.2.1, a0.2.2.2.1, a0.2.2.2.2) s9.1 s2.1).bind fun y20 =>
        some (.inl ((wadd .i64 s9.1 (1 : Int)), (List.set s9.2 (Int.toNat s2.1) (fop .add .f32 (List.getD s9.2 (Int.toNat s2.1) (0 : Nat)) (fop .mul .f32 (fop .mul .f32 (List.getD a1 (Int.toNat s9.1) (0 : Nat)) y18) y20)))))))
  else
    some (.inr s9.2)

noncomputable def impl_Model_nextRow_B2 (a0 : Int × Int × List Nat × List Nat × List Nat) (a1 : List Nat) (a2 : Int) (s2 : Int × List Nat) : Option ((Int × List Nat) ⊕ (List Nat)) :=
  bif (decide (s2.1 < a0.1)) then
    (rounds (impl_Model_nextRow_B1 a0 a1 a2 s2) ((0 : Int), s2.2)).bind fun r11 =>
    some (.inl ((wadd .i64 s2.1 (1 : Int)), r11))
  else
    some (.inr s2.2)

noncomputable def impl_Model_nextRow (a0 : Int × Int × List Nat × List Nat × List Nat) (a1 : List Nat) (a2 : Int) : Option (List Nat) :=
  guardP ((0 : Int) ≤ a0.1 ∧ a0.1 ≤ 4294967296) (
    (rounds (impl_Model_nextRow_B2 a0 a1 a2) ((0 : Int), (List.replicate (Int.toNat a0.1) (0 : Nat)))).bind fun r4 =>
    some r4)

theorem f88_ok {a0 : Int × Int × List Nat × List Nat × List Nat} {a1 : List Nat} {a2 : Int} {r : List Nat} (hr : impl_Model_nextRow a0 a1 a2 = some r) : CallOK Try.prog 88 [.imm (.st (.pair tI (.pair tI (.pair tLF (.pair tLF tLF))))) a0, .imm tLF a1, .imm tI a2] [⟨true, tLF, r⟩] [] := by
  unfold impl_Model_nextRow at hr
  refine CallOK.of_body (ts := [(true, tLF)]) Try.func88 rfl (by kernel_rfl) (Nat.le_of_ble_eq_true (by kernel_rfl)) fun cx hP hN hO hF => ?_
  have hO : cx.own.map Prod.fst = [] := hO
  have hX := CxIs.mk hP hN hO
  have hF := hF rfl
  show HT cx ⟨[(0, .agg [iC a0.1, iC a0.2.1, lC a0.2.2.1, lC a0.2.2.2.1, lC a0.2.2.2.2]), (1, lV a1), (2, iV a2)], [], 0⟩ _ _
  refine HT.rg2 (oHs 2) ⟨[(1, lV a1), (2, iV a2), (3, pV 0 0)], [(0, .box [iC a0.1, iC a0.2.1, lC a0.2.2.1, lC a0.2.2.2.1, lC a0.2.2.2.2])], 1⟩ hX (by kernel_rfl) allNil ?_
  obtain ⟨hg1, hr⟩ := of_guard hr
  refine HT.rg2 [oH, oH, ⟨none, .ty tF⟩, oH] ⟨[(1, lV a1), (2, iV a2), (3, pV 0 0), (7, aV 1)], [(1, .seq tF (List.replicate (Int.toNat a0.1) (0 : Nat))), (0, .box [iC a0.1, iC a0.2.1, lC a0.2.2.1, lC a0.2.2.2.1, lC a0.2.2.2.2])], 2⟩ hX (by kernel_rfl) (allCons (show (0 : Int) ≤ a0.1 ∧ a0.1 ≤ a0.1 ∧ a0.1 ≤ 4294967296 from ⟨hg1.1, Int.le_refl _, hg1.2⟩) allNil) ?_
  refine HT.seq ?_
  refine HT.rg2 (oHs 3) ⟨[(1, lV a1), (2, iV a2), (3, pV 0 0), (7, aV 1), (14, iV a0.1), (15, iV (0 : Int))], [(1, .seq tF (List.replicate (Int.toNat a0.1) (0 : Nat))), (0, .box [iC a0.1, iC a0.2.1, lC a0.2.2.1, lC a0.2.2.2.1, lC a0.2.2.2.2])], 2⟩ hX (by kernel_rfl) allNil ?_
  refine HT.block ?_
  obtain ⟨r3, hL23, hr⟩ := of_bind hr
  refine (Le.cv (s := ⟨[(0, 0), (1, 1)], [], [], false⟩) (own := []) (ps := [a1 = a1, a2 = a2, a0.1 = a0.1, (0 : Int) = (0 : Int), a0.1 = a0.1, a0.2.1 = a0.2.1, a0.2.2.1 = a0.2.2.1, a0.2.2.2.1 = a0.2.2.2.1, a0.2.2.2.2 = a0.2.2.2.2, (List.replicate (Int.toNat a0.1) (0 : Nat)) = (List.replicate (Int.toNat a0.1) (0 : Nat))]) (st' := ⟨[(1, lV a1), (2, iV a2), (3, pV 0 0), (7, aV 1), (14, iV a0.1), (15, iV (0 : Int))], [(0, .box [iC a0.1, iC a0.2.1, lC a0.2.2.1, lC a0.2.2.2.1, lC a0.2.2.2.2]), (1, .seq tF (List.replicate (Int.toNat a0.1) (0 : Nat)))], 2⟩) hO (fun h => by cases h) (by kernel_rfl) ⟨rfl, rfl, rfl, rfl, rfl, rfl, rfl, rfl, rfl, rfl, trivial⟩).ht ?_
  refine HT.loopE (s := ((0 : Int), (List.replicate (Int.toNat a0.1) (0 : Nat)))) (fun (s2 : Int × List Nat) => ⟨[(1, lV a1), (2, iV a2), (3, pV 0 0), (7, aV 1), (14, iV a0.1), (15, iV s2.1)], [(0, .box [iC a0.1, iC a0.2.1, lC a0.2.2.1, lC a0.2.2.2.1, lC a0.2.2.2.2]), (1, .seq tF s2.2)], 2⟩) (fun (r4 : List Nat) => (.exit 0, ⟨[(7, aV 0)], [(0, .seq tF r4)], 1⟩)) hL23 ?_ (fun s2 x5 hx6 hk7 => ?_)
  · refine (qBlockX (qThen ?_))
    refine HT.rg2 (oHs 2) ⟨[(6, aV 0)], [(0, .seq tF r3)], 1⟩ hX (by kernel_rfl) allNil ?_
    have hr := of_some hr
    subst hr
    exact HT.ret ⟨[aV 0], [0], [], by kernel_rfl, by kernel_rfl, rfl, by kernel_rfl, by kernel_rfl, trivial⟩
  · refine HT.rg2 [oH] ⟨[(1, lV a1), (2, iV a2), (3, pV 0 0), (7, aV 1), (14, iV a0.1), (15, iV s2.1), (16, bV (decide (s2.1 < a0.1)))], [(0, .box [iC a0.1, iC a0.2.1, lC a0.2.2.1, lC a0.2.2.2.1, lC a0.2.2.2.2]), (1, .seq tF s2.2)], 2⟩ hX (by kernel_rfl) allNil ?_
    refine HT.seq ?_
    rcases of_bif hx6 with ⟨hb8, hx6⟩ | ⟨hb8, hx6⟩
    · refine HT.cond1 rfl hb8 ?_
      refine HT.skip (qThen ?_)
      refine HT.seq ?_
      refine HT.block ?_
      refine HT.rg2 (oHs 2) ⟨[(1, lV a1), (2, iV a2), (3, pV 0 0), (7, aV 1), (8, iV s2.1), (14, iV a0.1), (15, iV s2.1)], [(0, .box [iC a0.1, iC a0.2.1, lC a0.2.2.1, lC a0.2.2.2.1, lC a0.2.2.2.2]), (1, .seq tF s2.2)], 2⟩ hX (by kernel_rfl) allNil ?_
      refine HT.rg2 (oHs 3) ⟨[(1, lV a1), (2, iV a2), (3, pV 0 0), (7, aV 1), (8, iV s2.1), (14, iV a0.1), (15, iV s2.1), (19, iV a0.1), (20, iV (0 : Int))], [(0, .box [iC a0.1, iC a0.2.1, lC a0.2.2.1, lC a0.2.2.2.1, lC a0.2.2.2.2]), (1, .seq tF s2.2)], 2⟩ hX (by kernel_rfl) allNil ?_
      refine HT.block ?_
      obtain ⟨r10, hL22, hx6⟩ := of_bind hx6
      refine (Le.cv (s := ⟨[(0, 0), (1, 1)], [], [], false⟩) (own := []) (ps := [a1 = a1, a2 = a2, s2.1 = s2.1, a0.1 = a0.1, s2.1 = s2.1, a0.1 = a0.1, (0 : Int) = (0 : Int), a0.1 = a0.1, a0.2.1 = a0.2.1, a0.2.2.1 = a0.2.2.1, a0.2.2.2.1 = a0.2.2.2.1, a0.2.2.2.2 = a0.2.2.2.2, s2.2 = s2.2]) (st' := ⟨[(1, lV a1), (2, iV a2), (3, pV 0 0), (7, aV 1), (8, iV s2.1), (14, iV a0.1), (15, iV s2.1), (19, iV a0.1), (20, iV (0 : Int))], [(0, .box [iC a0.1, iC a0.2.1, lC a0.2.2.1, lC a0.2.2.2.1, lC a0.2.2.2.2]), (1, .seq tF s2.2)], 2⟩) hO (fun h => by cases h) (by kernel_rfl) ⟨rfl, rfl, rfl, rfl, rfl, rfl, rfl, rfl, rfl, rfl, rfl, rfl, rfl, trivial⟩).ht ?_
      refine HT.loopE (s := ((0 : Int), s2.2)) (fun (s9 : Int × List Nat) => ⟨[(1, lV a1), (2, iV a2), (3, pV 0 0), (7, aV 1), (8, iV s2.1), (14, iV a0.1), (15, iV s2.1), (19, iV a0.1), (20, iV s9.1)], [(0, .box [iC a0.1, iC a0.2.1, lC a0.2.2.1, lC a0.2.2.2.1, lC a0.2.2.2.2]), (1, .seq tF s9.2)], 2⟩) (fun (r11 : List Nat) => (.exit 2, ⟨[(1, lV a1), (2, iV a2), (3, pV 0 0), (7, aV 1), (14, iV a0.1), (15, iV s2.1)], [(0, .box [iC a0.1, iC a0.2.1, lC a0.2.2.1, lC a0.2.2.2.1, lC a0.2.2.2.2]), (1, .seq tF r11)], 2⟩)) hL22 ?_ (fun s9 x12 hx13 hk14 => ?_)
      · refine (qBlockX (qBlock (qThen ?_)))
        have hx6 := of_some hx6
        subst hx6
        refine HT.rgL (oHs 2) ⟨[(1, lV a1), (2, iV a2), (3, pV 0 0), (7, aV 1), (14, iV a0.1), (15, iV (wadd .i64 s2.1 (1 : Int)))], [(0, .box [iC a0.1, iC a0.2.1, lC a0.2.2.1, lC a0.2.2.2.1, lC a0.2.2.2.2]), (1, .seq tF r10)], 2⟩ hX (by kernel_rfl) allNil (qLoopN ⟨((wadd .i64 s2.1 (1 : Int)), r10), rfl, Le.cv (s := ⟨[(0, 0), (1, 1)], [], [], false⟩) (own := []) (ps := [a1 = a1, a2 = a2, a0.1 = a0.1, (wadd .i64 s2.1 (1 : Int)) = (wadd .i64 s2.1 (1 : Int)), a0.1 = a0.1, a0.2.1 = a0.2.1, a0.2.2.1 = a0.2.2.1, a0.2.2.2.1 = a0.2.2.2.1, a0.2.2.2.2 = a0.2.2.2.2, r10 = r10]) (st' := ⟨[(1, lV a1), (2, iV a2), (3, pV 0 0), (7, aV 1), (14, iV a0.1), (15, iV (wadd .i64 s2.1 (1 : Int)))], [(0, .box [iC a0.1, iC a0.2.1, lC a0.2.2.1, lC a0.2.2.2.1, lC a0.2.2.2.2]), (1, .seq tF r10)], 2⟩) hO (fun h => by cases h) (by kernel_rfl) ⟨rfl, rfl, rfl, rfl, rfl, rfl, rfl, rfl, rfl, rfl, trivial⟩⟩)
      · refine HT.rg2 [oH] ⟨[(1, lV a1), (2, iV a2), (3, pV 0 0), (7, aV 1), (8, iV s2.1), (14, iV a0.1), (15, iV s2.1), (19, iV a0.1), (20, iV s9.1), (21, bV (decide (s9.1 < a0.1)))], [(0, .box [iC a0.1, iC a0.2.1, lC a0.2.2.1, lC a0.2.2.2.1, lC a0.2.2.2.2]), (1, .seq tF s9.2)], 2⟩ hX (by kernel_rfl) allNil ?_
        refine HT.seq ?_
        rcases of_bif hx13 with ⟨hb15, hx13⟩ | ⟨hb15, hx13⟩
        · refine HT.cond1 rfl hb15 ?_
          refine HT.skip (qThen ?_)
          refine HT.seq ?_
          refine HT.block ?_
          refine HT.rg2 (oHs 2) ⟨[(1, lV a1), (2, iV a2), (3, pV 0 0), (7, aV 1), (8, iV s2.1), (9, iV s9.1), (14, iV a0.1), (15, iV s2.1), (19, iV a0.1), (20, iV s9.1)], [(0, .box [iC a0.1, iC a0.2.1, lC a0.2.2.1, lC a0.2.2.2.1, lC a0.2.2.2.2]), (1, .seq tF s9.2)], 2⟩ hX (by kernel_rfl) allNil ?_
          obtain ⟨hg16, hx13⟩ := of_guard hx13
          obtain ⟨hg17, hx13⟩ := of_guard hx13
          obtain ⟨y18, hc19, hx13⟩ := of_bind hx13
          obtain ⟨y20, hc21, hx13⟩ := of_bind hx13
          refine HT.drL 21 [⟨oH, []⟩, ⟨oH, []⟩, ⟨oH, []⟩, ⟨oH, []⟩, ⟨oH, [2, 3]⟩, ⟨oH, [2, 3, 4]⟩, ⟨oH, []⟩, ⟨oH, []⟩, ⟨oH, [6, 7]⟩, ⟨oH, [6, 7, 8]⟩, ⟨oH, []⟩, ⟨oH, []⟩, ⟨oH, []⟩, ⟨⟨none, .call [.imm (.st (.pair tI (.pair tI (.pair tLF (.pair tLF tLF))))), .imm tI, .imm tI] [⟨false, tF, y18⟩] []⟩, [10, 11, 12]⟩, ⟨oH, [6, 7, 8, 9, 10, 11, 12, 13]⟩, ⟨oH, []⟩, ⟨oH, []⟩, ⟨oH, []⟩, ⟨⟨none, .call [.imm (.st (.pair tI (.pair tI (.pair tLF (.pair tLF tLF))))), .imm tI, .imm tI] [⟨false, tF, y20⟩] []⟩, [10, 11, 12, 13, 15, 16, 17]⟩, ⟨oH, [6, 7, 8, 9, 10, 11, 12, 13, 14, 15, 16, 17, 18]⟩, ⟨oH, [2, 3, 4, 5, 6, 7, 8, 9, 10, 11, 12, 13, 14, 15, 16, 17, 18, 19]⟩] [[0, 1, 2, 3, 4, 5, 6, 7, 8, 9, 10, 11, 12, 13, 14, 15, 16, 17, 18, 19, 20], [0, 1, 2, 3, 4, 5, 6, 7, 8, 9, 10, 11, 12, 13, 14, 15, 16, 17, 18, 19, 20, 21]] (oHs 2) ⟨[(1, lV a1), (2, iV a2), (3, pV 0 0), (7, aV 1), (8, iV s2.1), (14, iV a0.1), (15, iV s2.1), (19, iV a0.1), (20, iV s9.1)], [(1, .seq tF (List.set s9.2 (Int.toNat s2.1) (fop .add .f32 (List.getD s9.2 (Int.toNat s2.1) (0 : Nat)) (fop .mul .f32 (fop .mul .f32 (List.getD a1 (Int.toNat s9.1) (0 : Nat)) y18) y20)))), (0, .box [iC a0.1, iC a0.2.1, lC a0.2.2.1, lC a0.2.2.2.1, lC a0.2.2.2.2])], 2⟩ hX (by kernel_rfl) (by kernel_rfl) (allCons hg16 (allCons (natLt hg16) (allCons hg17 (allCons (f83_ok hc19) (allCons (f84_ok hc21) (allCons hg16 (allCons (natLt hg16) allNil))))))) (qBlock (qThen ?_))
          have hx13 := of_some hx13
          subst hx13
          refine HT.rgL (oHs 2) ⟨[(1, lV a1), (2, iV a2), (3, pV 0 0), (7, aV 1), (8, iV s2.1), (14, iV a0.1), (15, iV s2.1), (19, iV a0.1), (20, iV (wadd .i64 s9.1 (1 : Int)))], [(1, .seq tF (List.set s9.2 (Int.toNat s2.1) (fop .add .f32 (List.getD s9.2 (Int.toNat s2.1) (0 : Nat)) (fop .mul .f32 (fop .mul .f32 (List.getD a1 (Int.toNat s9.1) (0 : Nat)) y18) y20)))), (0, .box [iC a0.1, iC a0.2.1, lC a0.2.2.1, lC a0.2.2.2.1, lC a0.2.2.2.2])], 2⟩ hX (by kernel_rfl) allNil (qLoopN ⟨((wadd .i64 s9.1 (1 : Int)), (List.set s9.2 (Int.toNat s2.1) (fop .add .f32 (List.getD s9.2 (Int.toNat s2.1) (0 : Nat)) (fop .mul .f32 (fop .mul .f32 (List.getD a1 (Int.toNat s9.1) (0 : Nat)) y18) y20)))), rfl, Le.cv (s := ⟨[(0, 0), (1, 1)], [], [], false⟩) (own := []) (ps := [a1 = a1, a2 = a2, s2.1 = s2.1, a0.1 = a0.1, s2.1 = s2.1, a0.1 = a0.1, (wadd .i64 s9.1 (1 : Int)) = (wadd .i64 s9.1 (1 : Int)), a0.1 = a0.1, a0.2.1 = a0.2.1, a0.2.2.1 = a0.2.2.1, a0.2.2.2.1 = a0.2.2.2.1, a0.2.2.2.2 = a0.2.2.2.2, (List.set s9.2 (Int.toNat s2.1) (fop .add .f32 (List.getD s9.2 (Int.toNat s2.1) (0 : Nat)) (fop .mul .f32 (fop .mul .f32 (List.getD a1 (Int.toNat s9.1) (0 : Nat)) y18) y20))) = (List.set s9.2 (Int.toNat s2.1) (fop .add .f32 (List.getD s9.2 (Int.toNat s2.1) (0 : Nat)) (fop .mul .f32 (fop .mul .f32 (List.getD a1 (Int.toNat s9.1) (0 : Nat)) y18) y20)))]) (st' := ⟨[(1, lV a1), (2, iV a2), (3, pV 0 0), (7, aV 1), (8, iV s2.1), (14, iV a0.1), (15, iV s2.1), (19, iV a0.1), (20, iV (wadd .i64 s9.1 (1 : Int)))], [(0, .box [iC a0.1, iC a0.2.1, lC a0.2.2.1, lC a0.2.2.2.1, lC a0.2.2.2.2]), (1, .seq tF (List.set s9.2 (Int.toNat s2.1) (fop .add .f32 (List.getD s9.2 (Int.toNat s2.1) (0 : Nat)) (fop .mul .f32 (fop .mul .f32 (List.getD a1 (Int.toNat s9.1) (0 : Nat)) y18) y20))))], 2⟩) hO (fun h => by cases h) (by kernel_rfl) ⟨rfl, rfl, rfl, rfl, rfl, rfl, rfl, rfl, rfl, rfl, rfl, rfl, rfl, trivial⟩⟩)
        · refine HT.cond0 rfl hb15 ?_
          have hx13 := of_some hx13
          subst hx13
          refine (Le.cv (s := ⟨[(0, 0), (1, 1)], [], [], false⟩) (own := []) (ps := [a1 = a1, a2 = a2, a0.1 = a0.1, s2.1 = s2.1, a0.1 = a0.1, a0.2.1 = a0.2.1, a0.2.2.1 = a0.2.2.1, a0.2.2.2.1 = a0.2.2.2.1, a0.2.2.2.2 = a0.2.2.2.2, s9.2 = s9.2]) (st' := ⟨[(1, lV a1), (2, iV a2), (3, pV 0 0), (7, aV 1), (14, iV a0.1), (15, iV s2.1)], [(0, .box [iC a0.1, iC a0.2.1, lC a0.2.2.1, lC a0.2.2.2.1, lC a0.2.2.2.2]), (1, .seq tF s9.2)], 2⟩) hO (fun h => by cases h) (by kernel_rfl) ⟨rfl, rfl, rfl, rfl, rfl, rfl, rfl, rfl, rfl, rfl, trivial⟩).ht ?_
          exact HT.exit (qThenE (qLoopE (hk14 s9.2 rfl)))
    · refine HT.cond0 rfl hb8 ?_
      have hx6 := of_some hx6
      subst hx6
      refine (Le.cv (s := ⟨[(1, 0)], [], [], false⟩) (own := []) (ps := [s2.2 = s2.2]) (st' := ⟨[(7, aV 0)], [(0, .seq tF s2.2)], 1⟩) hO (fun h => by cases h) (by kernel_rfl) ⟨rfl, trivial⟩).ht ?_
      exact HT.exit (qThenE (qLoopE (hk7 s2.2 rfl)))

end Go.Proofs
