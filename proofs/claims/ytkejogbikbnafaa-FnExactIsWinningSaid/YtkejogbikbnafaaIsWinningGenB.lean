import Derived.Test.YtkejogbikbnafaaIsWinningGenA
import Derived.Test.YtkejogbikbnafaaProg
set_option linter.unusedVariables false
set_option linter.unusedSimpArgs false
set_option linter.unusedSectionVars false
/-
  Functions as plain functions, and their contracts. Printed by a program.
-/
namespace Go.Proofs
open Go.Ide

noncomputable def impl_isSet_B1 (a0 : List Int) (a1 : Int) (s1 : Int) : Option ((Int) ⊕ (Unit ⊕ Unit)) :=
  bif (decide (s1 < (lenI a0))) then
    guardP ((0 : Int) ≤ s1 ∧ s1 < lenI a0) (
      (show Option (Bool) from
        (impl_within (List.getD a0 (Int.toNat s1) (0 : Int)) (0 : Int) (wsub .i64 a1 (1 : Int))).bind fun y14 =>
        bif (!y14) then
          some true
        else
          bif (decide (s1 > (0 : Int))) then
            guardP ((0 : Int) ≤ (wsub .i64 s1 (1 : Int)) ∧ (wsub .i64 s1 (1 : Int)) < lenI a0) (
              some (decide ((List.getD a0 (Int.toNat s1) (0 : Int)) ≤ (List.getD a0 (Int.toNat (wsub .i64 s1 (1 : Int))) (0 : Int)))))
          else
            some false).bind fun v10 =>
      bif v10 then
        some (.inr (.inr ()))
      else
        some (.inl (wadd .i64 s1 (1 : Int))))
  else
    some (.inr (.inl ()))

noncomputable def impl_isSet (a0 : List Int) (a1 : Int) : Option (Bool) :=
  (rounds (impl_isSet_B1 a0 a1) (0 : Int)).bind fun r2 => match r2 with
    | .inl r3 =>
      some true
    | .inr r4 =>
      some false

theorem f53_ok {a0 : List Int} {a1 : Int} {r : Bool} (hr : impl_isSet a0 a1 = some r) : CallOK Try.prog 53 [.imm tLI a0, .imm tI a1] [⟨false, .bool, r⟩] [] := by
  unfold impl_isSet at hr
  refine CallOK.of_body (ts := [(false, .bool)]) Try.func53 rfl (by kernel_rfl) (Nat.le_of_ble_eq_true (by kernel_rfl)) fun cx hP hN hO hF => ?_
  have hO : cx.own.map Prod.fst = [] := hO
  have hX := CxIs.mk hP hN hO
  have hF := hF rfl
  show HT cx ⟨[(0, nV a0), (1, iV a1)], [], 0⟩ _ _
  refine HT.rg2 [oH] ⟨[(0, nV a0), (1, iV a1)], [], 0⟩ hX (by kernel_rfl) allNil ?_
  refine HT.seq ?_
  refine HT.rg2 (oHs 3) ⟨[(0, nV a0), (1, iV a1), (7, nV a0), (8, iV (lenI a0)), (9, iV (0 : Int))], [], 0⟩ hX (by kernel_rfl) allNil ?_
  refine HT.block ?_
  obtain ⟨r2, hL19, hr⟩ := of_bind hr
  refine HT.loopL (fun (s1 : Int) => ⟨[(0, nV a0), (1, iV a1), (7, nV a0), (8, iV (lenI a0)), (9, iV s1)], [], 0⟩) (fun (r2 : Unit ⊕ Unit) => match r2 with | .inl r3 => (.exit 0, ⟨[], [], 0⟩) | .inr r4 => (.ret, ⟨[(4, bV false)], [], 0⟩)) (Le.re [] [] hX (by kernel_rfl)) hL19 ?_ (fun s1 x5 hx6 hk7 => ?_)
  · rcases r2 with r3 | r4
    · refine (qBlockX (qThen ?_))
      refine HT.rg2 [oH] ⟨[(4, bV true)], [], 0⟩ hX (by kernel_rfl) allNil ?_
      have hr := of_some hr
      subst hr
      exact HT.ret ⟨[bV true], [], [], by kernel_rfl, by kernel_rfl, rfl, by kernel_rfl, by kernel_rfl, trivial⟩
    · have hr := of_some hr
      subst hr
      exact (qBlockR (qThenR ⟨[bV false], [], [], by kernel_rfl, by kernel_rfl, rfl, by kernel_rfl, by kernel_rfl, trivial⟩))
  · refine HT.rg2 [oH] ⟨[(0, nV a0), (1, iV a1), (7, nV a0), (8, iV (lenI a0)), (9, iV s1), (10, bV (decide (s1 < (lenI a0))))], [], 0⟩ hX (by kernel_rfl) allNil ?_
    refine HT.seq ?_
    rcases of_bif hx6 with ⟨hb8, hx6⟩ | ⟨hb8, hx6⟩
    · refine HT.cond1 rfl hb8 ?_
      refine HT.skip (qThen ?_)
      refine HT.seq ?_
      refine HT.block ?_
      obtain ⟨hg9, hx6⟩ := of_guard hx6
      refine HT.rg2 (oHs 5) ⟨[(0, nV a0), (1, iV a1), (5, iV s1), (6, iV (List.getD a0 (Int.toNat s1) (0 : Int))), (7, nV a0), (8, iV (lenI a0)), (9, iV s1)], [], 0⟩ hX (by kernel_rfl) (allCons hg9 allNil) ?_
      obtain ⟨v10', hT12, hx6⟩ := of_bind hx6
      refine HT.join (fun (v10 : Bool) => ⟨[(0, nV a0), (1, iV a1), (7, nV a0), (8, iV (lenI a0)), (9, iV s1), (31, bV v10)], [], 0⟩) (fun v => v = v10') (fun v10 hv11 => ?_) (fun cont => ?_)
      · subst hv11
        rcases of_bif hx6 with ⟨hb13, hx6⟩ | ⟨hb13, hx6⟩
        · refine HT.cond1 rfl hb13 ?_
          refine HT.rg2 [oH] ⟨[(4, bV false)], [], 0⟩ hX (by kernel_rfl) allNil ?_
          have hx6 := of_some hx6
          subst hx6
          exact HT.retL (Le.re [] [] hX (by kernel_rfl)) (qBlockR (qThenR (qLoopR (hk7 (.inr ()) rfl))))
        · refine HT.cond0 rfl hb13 ?_
          refine HT.skip (qBlock (qThen ?_))
          have hx6 := of_some hx6
          subst hx6
          exact HT.rgK (oHs 2) [] [] hX (by kernel_rfl) allNil (fun _ h => (qLoopN ⟨(wadd .i64 s1 (1 : Int)), rfl, h⟩))
      · obtain ⟨y14, hc15, hT12⟩ := of_bind hT12
        rcases of_bif hT12 with ⟨hb16, hT12⟩ | ⟨hb16, hT12⟩
        · exact HT.rgK [oH, oH, oH, ⟨none, .call [.imm tI, .imm tI, .imm tI] [⟨false, .bool, y14⟩] []⟩, oH, oH, ⟨some true, .no⟩, ⟨some true, .no⟩, ⟨some true, .no⟩, oH, oH, oH, oH, oH, oH, oH, ⟨some true, .no⟩, ⟨none, .tv true⟩] [] [] hX (by kernel_rfl) (allCons (f54_ok hc15) (allCons hb16 (allCons hb16 (allCons hb16 (allCons hb16 (allCons hb16 allNil)))))) (fun _ h => (qThen (h.ht (cont true (of_some hT12)))))
        · rcases of_bif hT12 with ⟨hb17, hT12⟩ | ⟨hb17, hT12⟩
          · obtain ⟨hg18, hT12⟩ := of_guard hT12
            exact HT.rgK [oH, oH, oH, ⟨none, .call [.imm tI, .imm tI, .imm tI] [⟨false, .bool, y14⟩] []⟩, oH, oH, ⟨some false, .no⟩, ⟨some false, .no⟩, ⟨some false, .no⟩, ⟨some true, .no⟩, ⟨some true, .no⟩, ⟨some true, .no⟩, ⟨some true, .no⟩, ⟨some true, .no⟩, ⟨some true, .no⟩, ⟨some true, .no⟩, ⟨some false, .tv true⟩, ⟨none, .tv false⟩] [] [] hX (by kernel_rfl) (allCons (f54_ok hc15) (allCons hb16 (allCons hb16 (allCons hb16 (allCons hb17 (allCons hb17 (allCons hb17 (allCons hb17 (allCons hb17 (allCons hg18 (allCons hb17 (allCons hb17 (allCons hb16 (allCons hb17 (allCons hb16 allNil))))))))))))))) (fun _ h => (qThen (h.ht (cont (decide ((List.getD a0 (Int.toNat s1) (0 : Int)) ≤ (List.getD a0 (Int.toNat (wsub .i64 s1 (1 : Int))) (0 : Int)))) (of_some hT12)))))
          · exact HT.rgK [oH, oH, oH, ⟨none, .call [.imm tI, .imm tI, .imm tI] [⟨false, .bool, y14⟩] []⟩, oH, oH, ⟨some false, .no⟩, ⟨some false, .no⟩, ⟨some false, .no⟩, ⟨some false, .no⟩, ⟨some false, .no⟩, ⟨some false, .no⟩, ⟨some false, .no⟩, ⟨some false, .no⟩, ⟨some false, .no⟩, ⟨some false, .no⟩, ⟨some false, .tv false⟩, ⟨none, .tv false⟩] [] [] hX (by kernel_rfl) (allCons (f54_ok hc15) (allCons hb16 (allCons hb16 (allCons hb16 (allCons hb17 (allCons hb17 (allCons hb17 (allCons hb17 (allCons hb17 (allCons hb17 (allCons hb17 (allCons hb16 (allCons hb17 (allCons hb16 allNil)))))))))))))) (fun _ h => (qThen (h.ht (cont false (of_some hT12)))))
    · refine HT.cond0 rfl hb8 ?_
      have hx6 := of_some hx6
      subst hx6
      exact HT.exitL (Le.re [] [] hX (by kernel_rfl)) (qThenE (qLoopE (hk7 (.inl ()) rfl)))

noncomputable def impl_ValidGame_1 (a0 : List Int) (a1 : Int) : Option (Bool) :=
  (show Option (Bool) from
    bif ((lenI a0) == (0 : Int)) then
      some true
    else
      (impl_isSet a0 a1).bind fun y5 =>
      some (!y5)).bind fun v1 =>
  some v1

theorem f75_ok {a0 : List Int} {a1 : Int} {r : Bool} (hr : impl_ValidGame_1 a0 a1 = some r) : CallOK Try.prog 75 [.imm tLI a0, .pimm tI a1] [⟨false, .bool, r⟩] [] := by
  unfold impl_ValidGame_1 at hr
  refine CallOK.of_body (ts := [(false, .bool)]) Try.func75 rfl (by kernel_rfl) (Nat.le_of_ble_eq_true (by kernel_rfl)) fun cx hP hN hO hF => ?_
  have hO : cx.own.map Prod.fst = [] := hO
  have hX := CxIs.mk hP hN hO
  have hF := hF rfl
  show HT cx ⟨[(0, nV a0), (1, .one (.ip tI a1 0))], [], 0⟩ _ _
  refine HT.rg2 [oH] ⟨[(0, nV a0), (1, .one (.ip tI a1 0))], [], 0⟩ hX (by kernel_rfl) allNil ?_
  obtain ⟨v1', hT3, hr⟩ := of_bind hr
  refine HT.join (fun (v1 : Bool) => ⟨[(3, bV v1)], [], 0⟩) (fun v => v = v1') (fun v1 hv2 => ?_) (fun cont => ?_)
  · subst hv2
    have hr := of_some hr
    subst hr
    exact HT.ret ⟨[bV v1], [], [], by kernel_rfl, by kernel_rfl, rfl, by kernel_rfl, by kernel_rfl, trivial⟩
  · rcases of_bif hT3 with ⟨hb4, hT3⟩ | ⟨hb4, hT3⟩
    · exact HT.rgK [oH, oH, oH, oH, ⟨some true, .no⟩, ⟨some true, .no⟩, ⟨some true, .no⟩, ⟨some true, .no⟩, ⟨none, .tv true⟩, oH] [] [] hX (by kernel_rfl) (allCons hb4 (allCons hb4 (allCons hb4 (allCons hb4 (allCons hb4 allNil))))) (fun _ h => (qThen (h.ht (cont true (of_some hT3)))))
    · obtain ⟨y5, hc6, hT3⟩ := of_bind hT3
      exact HT.rgK [oH, oH, oH, oH, ⟨some false, .no⟩, ⟨some false, .no⟩, ⟨some false, .call [.imm tLI, .imm tI] [⟨false, .bool, y5⟩] []⟩, ⟨some false, .no⟩, ⟨none, .tv false⟩, oH] [] [] hX (by kernel_rfl) (allCons hb4 (allCons hb4 (allCons hb4 (allCons (f53_ok hc6) (allCons hb4 (allCons hb4 allNil)))))) (fun _ h => (qThen (h.ht (cont (!y5) (of_some hT3)))))

noncomputable def slices_IndexFunc_____int64___int64_clo1_impl_ValidGame_1_B1 (a0 : List (List Int)) (a1 : Int) (s1 : Int) : Option ((Int) ⊕ (Unit ⊕ Int)) :=
  bif (decide (s1 < (lenI a0))) then
    guardP ((0 : Int) ≤ s1 ∧ s1 < lenI a0) (
      (impl_ValidGame_1 (List.getD a0 (Int.toNat s1) ([] : List Int)) a1).bind fun y10 =>
      bif y10 then
        some (.inr (.inr s1))
      else
        some (.inl (wadd .i64 s1 (1 : Int))))
  else
    some (.inr (.inl ()))

noncomputable def slices_IndexFunc_____int64___int64_clo1_impl_ValidGame_1 (a0 : List (List Int)) (a1 : Int) : Option (Int) :=
  (rounds (slices_IndexFunc_____int64___int64_clo1_impl_ValidGame_1_B1 a0 a1) (0 : Int)).bind fun r2 => match r2 with
    | .inl r3 =>
      some (-1 : Int)
    | .inr r4 =>
      some r4

theorem f86_clo1_impl_ValidGame_1_ok {a0 : List (List Int)} {a1 : Int} {r : Int} (hr : slices_IndexFunc_____int64___int64_clo1_impl_ValidGame_1 a0 a1 = some r) : CallOK Try.prog 86 [.imm (.sl tLI) a0, .clo 75 tI a1] [⟨false, tI, r⟩] [] := by
  unfold slices_IndexFunc_____int64___int64_clo1_impl_ValidGame_1 at hr
  refine CallOK.of_body (ts := [(false, tI)]) Try.func86 rfl (by kernel_rfl) (Nat.le_of_ble_eq_true (by kernel_rfl)) fun cx hP hN hO hF => ?_
  have hO : cx.own.map Prod.fst = [] := hO
  have hX := CxIs.mk hP hN hO
  have hF := hF rfl
  show HT cx ⟨[(0, .one (.dat (.sl tLI) a0)), (1, .one (.clo 75 tI a1))], [], 0⟩ _ _
  refine HT.rg2 [oH] ⟨[(0, .one (.dat (.sl tLI) a0)), (1, .one (.clo 75 tI a1))], [], 0⟩ hX (by kernel_rfl) allNil ?_
  refine HT.seq ?_
  refine HT.rg2 (oHs 3) ⟨[(0, .one (.dat (.sl tLI) a0)), (1, .one (.clo 75 tI a1)), (7, iV (lenI a0)), (8, iV (0 : Int))], [], 0⟩ hX (by kernel_rfl) allNil ?_
  refine HT.block ?_
  obtain ⟨r2, hL13, hr⟩ := of_bind hr
  refine HT.loopL (fun (s1 : Int) => ⟨[(0, .one (.dat (.sl tLI) a0)), (1, .one (.clo 75 tI a1)), (7, iV (lenI a0)), (8, iV s1)], [], 0⟩) (fun (r2 : Unit ⊕ Int) => match r2 with | .inl r3 => (.exit 0, ⟨[], [], 0⟩) | .inr r4 => (.ret, ⟨[(4, iV r4)], [], 0⟩)) (Le.re [] [] hX (by kernel_rfl)) hL13 ?_ (fun s1 x5 hx6 hk7 => ?_)
  · rcases r2 with r3 | r4
    · refine (qBlockX (qThen ?_))
      refine HT.rg2 [oH] ⟨[(4, iV (-1 : Int))], [], 0⟩ hX (by kernel_rfl) allNil ?_
      have hr := of_some hr
      subst hr
      exact HT.ret ⟨[iV (-1 : Int)], [], [], by kernel_rfl, by kernel_rfl, rfl, by kernel_rfl, by kernel_rfl, trivial⟩
    · have hr := of_some hr
      subst hr
      exact (qBlockR (qThenR ⟨[iV r4], [], [], by kernel_rfl, by kernel_rfl, rfl, by kernel_rfl, by kernel_rfl, trivial⟩))
  · refine HT.rg2 [oH] ⟨[(0, .one (.dat (.sl tLI) a0)), (1, .one (.clo 75 tI a1)), (7, iV (lenI a0)), (8, iV s1), (9, bV (decide (s1 < (lenI a0))))], [], 0⟩ hX (by kernel_rfl) allNil ?_
    refine HT.seq ?_
    rcases of_bif hx6 with ⟨hb8, hx6⟩ | ⟨hb8, hx6⟩
    · refine HT.cond1 rfl hb8 ?_
      refine HT.skip (qThen ?_)
      refine HT.seq ?_
      refine HT.block ?_
      refine HT.rg2 (oHs 2) ⟨[(0, .one (.dat (.sl tLI) a0)), (1, .one (.clo 75 tI a1)), (5, iV s1), (7, iV (lenI a0)), (8, iV s1)], [], 0⟩ hX (by kernel_rfl) allNil ?_
      obtain ⟨hg9, hx6⟩ := of_guard hx6
      obtain ⟨y10, hc11, hx6⟩ := of_bind hx6
      refine HT.rg2 [oH, oH, oH, oH, oH, ⟨none, .call [.imm tLI, .pimm tI] [⟨false, .bool, y10⟩] []⟩] ⟨[(0, .one (.dat (.sl tLI) a0)), (1, .one (.clo 75 tI a1)), (5, iV s1), (7, iV (lenI a0)), (8, iV s1), (16, bV y10)], [], 0⟩ hX (by kernel_rfl) (allCons hg9 (allCons (f75_ok hc11) allNil)) ?_
      rcases of_bif hx6 with ⟨hb12, hx6⟩ | ⟨hb12, hx6⟩
      · refine HT.cond1 rfl hb12 ?_
        refine HT.rg2 (oHs 2) ⟨[(4, iV s1)], [], 0⟩ hX (by kernel_rfl) allNil ?_
        have hx6 := of_some hx6
        subst hx6
        exact HT.retL (Le.re [] [] hX (by kernel_rfl)) (qBlockR (qThenR (qLoopR (hk7 (.inr s1) rfl))))
      · refine HT.cond0 rfl hb12 ?_
        refine HT.skip (qBlock (qThen ?_))
        have hx6 := of_some hx6
        subst hx6
        exact HT.rgK (oHs 2) [] [] hX (by kernel_rfl) allNil (fun _ h => (qLoopN ⟨(wadd .i64 s1 (1 : Int)), rfl, h⟩))
    · refine HT.cond0 rfl hb8 ?_
      have hx6 := of_some hx6
      subst hx6
      exact HT.exitL (Le.re [] [] hX (by kernel_rfl)) (qThenE (qLoopE (hk7 (.inl ()) rfl)))

noncomputable def slices_ContainsFunc_____int64___int64_clo1_impl_ValidGame_1 (a0 : List (List Int)) (a1 : Int) : Option (Bool) :=
  (slices_IndexFunc_____int64___int64_clo1_impl_ValidGame_1 a0 a1).bind fun y1 =>
  some (decide (y1 ≥ (0 : Int)))

theorem f74_clo1_impl_ValidGame_1_ok {a0 : List (List Int)} {a1 : Int} {r : Bool} (hr : slices_ContainsFunc_____int64___int64_clo1_impl_ValidGame_1 a0 a1 = some r) : CallOK Try.prog 74 [.imm (.sl tLI) a0, .clo 75 tI a1] [⟨false, .bool, r⟩] [] := by
  unfold slices_ContainsFunc_____int64___int64_clo1_impl_ValidGame_1 at hr
  refine CallOK.of_body (ts := [(false, .bool)]) Try.func74 rfl (by kernel_rfl) (Nat.le_of_ble_eq_true (by kernel_rfl)) fun cx hP hN hO hF => ?_
  have hO : cx.own.map Prod.fst = [] := hO
  have hX := CxIs.mk hP hN hO
  have hF := hF rfl
  show HT cx ⟨[(0, .one (.dat (.sl tLI) a0)), (1, .one (.clo 75 tI a1))], [], 0⟩ _ _
  refine HT.rg2 [oH] ⟨[(0, .one (.dat (.sl tLI) a0)), (1, .one (.clo 75 tI a1))], [], 0⟩ hX (by kernel_rfl) allNil ?_
  obtain ⟨y1, hc2, hr⟩ := of_bind hr
  refine HT.rg2 [oH, oH, ⟨none, .call [.imm (.sl tLI), .clo tI] [⟨false, tI, y1⟩] []⟩, oH, oH] ⟨[(4, bV (decide (y1 ≥ (0 : Int))))], [], 0⟩ hX (by kernel_rfl) (allCons (f86_clo1_impl_ValidGame_1_ok hc2) allNil) ?_
  have hr := of_some hr
  subst hr
  exact HT.ret ⟨[bV (decide (y1 ≥ (0 : Int)))], [], [], by kernel_rfl, by kernel_rfl, rfl, by kernel_rfl, by kernel_rfl, trivial⟩

noncomputable def impl_areWithin_B1 (a0 : List Int) (a1 : Int) (a2 : Int) (s1 : Int) : Option ((Int) ⊕ (Unit ⊕ Unit)) :=
  bif (decide (s1 < (lenI a0))) then
    guardP ((0 : Int) ≤ s1 ∧ s1 < lenI a0) (
      (impl_within (List.getD a0 (Int.toNat s1) (0 : Int)) a1 a2).bind fun y10 =>
      bif (!y10) then
        some (.inr (.inr ()))
      else
        some (.inl (wadd .i64 s1 (1 : Int))))
  else
    some (.inr (.inl ()))

noncomputable def impl_areWithin (a0 : List Int) (a1 : Int) (a2 : Int) : Option (Bool) :=
  (rounds (impl_areWithin_B1 a0 a1 a2) (0 : Int)).bind fun r2 => match r2 with
    | .inl r3 =>
      some true
    | .inr r4 =>
      some false

theorem f63_ok {a0 : List Int} {a1 : Int} {a2 : Int} {r : Bool} (hr : impl_areWithin a0 a1 a2 = some r) : CallOK Try.prog 63 [.imm tLI a0, .imm tI a1, .imm tI a2] [⟨false, .bool, r⟩] [] := by
  unfold impl_areWithin at hr
  refine CallOK.of_body (ts := [(false, .bool)]) Try.func63 rfl (by kernel_rfl) (Nat.le_of_ble_eq_true (by kernel_rfl)) fun cx hP hN hO hF => ?_
  have hO : cx.own.map Prod.fst = [] := hO
  have hX := CxIs.mk hP hN hO
  have hF := hF rfl
  show HT cx ⟨[(0, nV a0), (1, iV a1), (2, iV a2)], [], 0⟩ _ _
  refine HT.rg2 [oH] ⟨[(0, nV a0), (1, iV a1), (2, iV a2)], [], 0⟩ hX (by kernel_rfl) allNil ?_
  refine HT.seq ?_
  refine HT.rg2 (oHs 3) ⟨[(1, iV a1), (2, iV a2), (9, nV a0), (10, iV (lenI a0)), (11, iV (0 : Int))], [], 0⟩ hX (by kernel_rfl) allNil ?_
  refine HT.block ?_
  obtain ⟨r2, hL13, hr⟩ := of_bind hr
  refine HT.loopL (fun (s1 : Int) => ⟨[(1, iV a1), (2, iV a2), (9, nV a0), (10, iV (lenI a0)), (11, iV s1)], [], 0⟩) (fun (r2 : Unit ⊕ Unit) => match r2 with | .inl r3 => (.exit 0, ⟨[], [], 0⟩) | .inr r4 => (.ret, ⟨[(6, bV false)], [], 0⟩)) (Le.re [] [] hX (by kernel_rfl)) hL13 ?_ (fun s1 x5 hx6 hk7 => ?_)
  · rcases r2 with r3 | r4
    · refine (qBlockX (qThen ?_))
      refine HT.rg2 [oH] ⟨[(6, bV true)], [], 0⟩ hX (by kernel_rfl) allNil ?_
      have hr := of_some hr
      subst hr
      exact HT.ret ⟨[bV true], [], [], by kernel_rfl, by kernel_rfl, rfl, by kernel_rfl, by kernel_rfl, trivial⟩
    · have hr := of_some hr
      subst hr
      exact (qBlockR (qThenR ⟨[bV false], [], [], by kernel_rfl, by kernel_rfl, rfl, by kernel_rfl, by kernel_rfl, trivial⟩))
  · refine HT.rg2 [oH] ⟨[(1, iV a1), (2, iV a2), (9, nV a0), (10, iV (lenI a0)), (11, iV s1), (12, bV (decide (s1 < (lenI a0))))], [], 0⟩ hX (by kernel_rfl) allNil ?_
    refine HT.seq ?_
    rcases of_bif hx6 with ⟨hb8, hx6⟩ | ⟨hb8, hx6⟩
    · refine HT.cond1 rfl hb8 ?_
      refine HT.skip (qThen ?_)
      refine HT.seq ?_
      refine HT.block ?_
      obtain ⟨hg9, hx6⟩ := of_guard hx6
      refine HT.rg2 (oHs 3) ⟨[(1, iV a1), (2, iV a2), (8, iV (List.getD a0 (Int.toNat s1) (0 : Int))), (9, nV a0), (10, iV (lenI a0)), (11, iV s1)], [], 0⟩ hX (by kernel_rfl) (allCons hg9 allNil) ?_
      obtain ⟨y10, hc11, hx6⟩ := of_bind hx6
      refine HT.rg2 [oH, oH, oH, ⟨none, .call [.imm tI, .imm tI, .imm tI] [⟨false, .bool, y10⟩] []⟩, oH] ⟨[(1, iV a1), (2, iV a2), (9, nV a0), (10, iV (lenI a0)), (11, iV s1), (19, bV (!y10))], [], 0⟩ hX (by kernel_rfl) (allCons (f54_ok hc11) allNil) ?_
      rcases of_bif hx6 with ⟨hb12, hx6⟩ | ⟨hb12, hx6⟩
      · refine HT.cond1 rfl hb12 ?_
        refine HT.rg2 [oH] ⟨[(6, bV false)], [], 0⟩ hX (by kernel_rfl) allNil ?_
        have hx6 := of_some hx6
        subst hx6
        exact HT.retL (Le.re [] [] hX (by kernel_rfl)) (qBlockR (qThenR (qLoopR (hk7 (.inr ()) rfl))))
      · refine HT.cond0 rfl hb12 ?_
        refine HT.skip (qBlock (qThen ?_))
        have hx6 := of_some hx6
        subst hx6
        exact HT.rgK (oHs 2) [] [] hX (by kernel_rfl) allNil (fun _ h => (qLoopN ⟨(wadd .i64 s1 (1 : Int)), rfl, h⟩))
    · refine HT.cond0 rfl hb8 ?_
      have hx6 := of_some hx6
      subst hx6
      exact HT.exitL (Le.re [] [] hX (by kernel_rfl)) (qThenE (qLoopE (hk7 (.inl ()) rfl)))

noncomputable def impl_ValidGame (a0 : List Int × List Int × List (List Int)) : Option (Bool) :=
  (show Option (Bool) from
    (impl_within (lenI a0.1) (1 : Int) (16 : Int)).bind fun y7 =>
    bif (!y7) then
      some true
    else
      bif ((lenI a0.2.1) != (lenI a0.1)) then
        some true
      else
        bif ((lenI a0.2.2) != (lenI a0.1)) then
          some true
        else
          (impl_areWithin a0.1 (0 : Int) (1 : Int)).bind fun y12 =>
          bif (!y12) then
            some true
          else
            (impl_areWithin a0.2.1 (0 : Int) (8 : Int)).bind fun y15 =>
            some (!y15)).bind fun v1 =>
  bif v1 then
    some false
  else
    (slices_ContainsFunc_____int64___int64_clo1_impl_ValidGame_1 a0.2.2 (lenI a0.1)).bind fun y5 =>
    some (!y5)

theorem f48_ok {a0 : List Int × List Int × List (List Int)} {r : Bool} (hr : impl_ValidGame a0 = some r) : CallOK Try.prog 48 [.imm (.st (.pair tLI (.pair tLI (.sl tLI)))) a0] [⟨false, .bool, r⟩] [] := by
  unfold impl_ValidGame at hr
  refine CallOK.of_body (ts := [(false, .bool)]) Try.func48 rfl (by kernel_rfl) (Nat.le_of_ble_eq_true (by kernel_rfl)) fun cx hP hN hO hF => ?_
  have hO : cx.own.map Prod.fst = [] := hO
  have hX := CxIs.mk hP hN hO
  have hF := hF rfl
  show HT cx ⟨[(0, .agg [nC a0.1, nC a0.2.1, .dat (.sl tLI) a0.2.2])], [], 0⟩ _ _
  refine HT.rg2 (oHs 2) ⟨[(1, pV 0 0)], [(0, .box [nC a0.1, nC a0.2.1, .dat (.sl tLI) a0.2.2])], 1⟩ hX (by kernel_rfl) allNil ?_
  refine HT.rg2 (oHs 5) ⟨[(1, pV 0 0), (3, pV 1 0)], [(1, .box [iC (lenI a0.1)]), (0, .box [nC a0.1, nC a0.2.1, .dat (.sl tLI) a0.2.2])], 2⟩ hX (by kernel_rfl) allNil ?_
  refine HT.seq ?_
  obtain ⟨v1', hT3, hr⟩ := of_bind hr
  refine HT.join (fun (v1 : Bool) => ⟨[(1, pV 0 0), (3, pV 1 0), (35, bV v1)], [(0, .box [nC a0.1, nC a0.2.1, .dat (.sl tLI) a0.2.2]), (1, .box [iC (lenI a0.1)])], 2⟩) (fun v => v = v1') (fun v1 hv2 => ?_) (fun cont => ?_)
  · subst hv2
    rcases of_bif hr with ⟨hb4, hr⟩ | ⟨hb4, hr⟩
    · refine HT.cond1 rfl hb4 ?_
      refine HT.rg2 [oH] ⟨[(2, bV false)], [], 2⟩ hX (by kernel_rfl) allNil ?_
      have hr := of_some hr
      subst hr
      exact HT.ret (qThenR ⟨[bV false], [], [], by kernel_rfl, by kernel_rfl, rfl, by kernel_rfl, by kernel_rfl, trivial⟩)
    · refine HT.cond0 rfl hb4 ?_
      refine HT.skip (qThen ?_)
      refine (Le.rz [(0, 0)] [] (st' := ⟨[(1, pV 0 0), (3, .one (.ip tI (lenI a0.1) 0)), (35, bV v1)], [(0, .box [nC a0.1, nC a0.2.1, .dat (.sl tLI) a0.2.2])], 2⟩) hX hF (by kernel_rfl)).ht ?_
      obtain ⟨y5, hc6, hr⟩ := of_bind hr
      refine HT.rg2 [oH, oH, oH, ⟨none, .call [.imm (.sl tLI), .clo tI] [⟨false, .bool, y5⟩] []⟩, oH, oH] ⟨[(2, bV (!y5))], [], 2⟩ hX (by kernel_rfl) (allCons (f74_clo1_impl_ValidGame_1_ok hc6) allNil) ?_
      have hr := of_some hr
      subst hr
      exact HT.ret ⟨[bV (!y5)], [], [], by kernel_rfl, by kernel_rfl, rfl, by kernel_rfl, by kernel_rfl, trivial⟩
  · obtain ⟨y7, hc8, hT3⟩ := of_bind hT3
    rcases of_bif hT3 with ⟨hb9, hT3⟩ | ⟨hb9, hT3⟩
    · exact HT.rgK [oH, ⟨none, .call [.imm tI, .imm tI, .imm tI] [⟨false, .bool, y7⟩] []⟩, oH, oH, ⟨some true, .no⟩, ⟨some true, .no⟩, ⟨some true, .no⟩, ⟨some true, .no⟩, ⟨some true, .no⟩, ⟨none, .tv true⟩, oH, ⟨some true, .no⟩, ⟨some true, .no⟩, ⟨some true, .no⟩, ⟨some true, .no⟩, ⟨some true, .no⟩, ⟨none, .tv true⟩, oH, ⟨some true, .no⟩, ⟨some true, .no⟩, ⟨some true, .no⟩, ⟨some true, .no⟩, ⟨none, .tv true⟩, oH, ⟨some true, .no⟩, ⟨some true, .no⟩, ⟨some true, .no⟩, ⟨some true, .no⟩, ⟨none, .tv true⟩] [(0, 0), (1, 1)] [] hX (by kernel_rfl) (allCons (f54_ok hc8) (allCons hb9 (allCons hb9 (allCons hb9 (allCons hb9 (allCons hb9 (allCons hb9 (allCons (rfl : true = true) (allCons (rfl : true = true) (allCons (rfl : true = true) (allCons (rfl : true = true) (allCons (rfl : true = true) (allCons (rfl : true = true) (allCons (rfl : true = true) (allCons (rfl : true = true) (allCons (rfl : true = true) (allCons (rfl : true = true) (allCons (rfl : true = true) (allCons (rfl : true = true) (allCons (rfl : true = true) (allCons (rfl : true = true) (allCons (rfl : true = true) (allCons (rfl : true = true) allNil))))))))))))))))))))))) (fun _ h => (qThen (h.ht (cont true (of_some hT3)))))
    · rcases of_bif hT3 with ⟨hb10, hT3⟩ | ⟨hb10, hT3⟩
      · exact HT.rgK [oH, ⟨none, .call [.imm tI, .imm tI, .imm tI] [⟨false, .bool, y7⟩] []⟩, oH, oH, ⟨some false, .no⟩, ⟨some false, .no⟩, ⟨some false, .no⟩, ⟨some false, .no⟩, ⟨some false, .no⟩, ⟨none, .tv false⟩, oH, ⟨some true, .no⟩, ⟨some true, .no⟩, ⟨some true, .no⟩, ⟨some true, .no⟩, ⟨some true, .no⟩, ⟨none, .tv true⟩, oH, ⟨some true, .no⟩, ⟨some true, .no⟩, ⟨some true, .no⟩, ⟨some true, .no⟩, ⟨none, .tv true⟩, oH, ⟨some true, .no⟩, ⟨some true, .no⟩, ⟨some true, .no⟩, ⟨some true, .no⟩, ⟨none, .tv true⟩] [(0, 0), (1, 1)] [] hX (by kernel_rfl) (allCons (f54_ok hc8) (allCons hb9 (allCons hb9 (allCons hb9 (allCons hb9 (allCons hb9 (allCons hb9 (allCons hb10 (allCons hb10 (allCons hb10 (allCons hb10 (allCons hb10 (allCons hb10 (allCons (rfl : true = true) (allCons (rfl : true = true) (allCons (rfl : true = true) (allCons (rfl : true = true) (allCons (rfl : true = true) (allCons (rfl : true = true) (allCons (rfl : true = true) (allCons (rfl : true = true) (allCons (rfl : true = true) (allCons (rfl : true = true) allNil))))))))))))))))))))))) (fun _ h => (qThen (h.ht (cont true (of_some hT3)))))
      · rcases of_bif hT3 with ⟨hb11, hT3⟩ | ⟨hb11, hT3⟩
        · exact HT.rgK [oH, ⟨none, .call [.imm tI, .imm tI, .imm tI] [⟨false, .bool, y7⟩] []⟩, oH, oH, ⟨some false, .no⟩, ⟨some false, .no⟩, ⟨some false, .no⟩, ⟨some false, .no⟩, ⟨some false, .no⟩, ⟨none, .tv false⟩, oH, ⟨some false, .no⟩, ⟨some false, .no⟩, ⟨some false, .no⟩, ⟨some false, .no⟩, ⟨some false, .no⟩, ⟨none, .tv false⟩, oH, ⟨some true, .no⟩, ⟨some true, .no⟩, ⟨some true, .no⟩, ⟨some true, .no⟩, ⟨none, .tv true⟩, oH, ⟨some true, .no⟩, ⟨some true, .no⟩, ⟨some true, .no⟩, ⟨some true, .no⟩, ⟨none, .tv true⟩] [(0, 0), (1, 1)] [] hX (by kernel_rfl) (allCons (f54_ok hc8) (allCons hb9 (allCons hb9 (allCons hb9 (allCons hb9 (allCons hb9 (allCons hb9 (allCons hb10 (allCons hb10 (allCons hb10 (allCons hb10 (allCons hb10 (allCons hb10 (allCons hb11 (allCons hb11 (allCons hb11 (allCons hb11 (allCons hb11 (allCons (rfl : true = true) (allCons (rfl : true = true) (allCons (rfl : true = true) (allCons (rfl : true = true) (allCons (rfl : true = true) allNil))))))))))))))))))))))) (fun _ h => (qThen (h.ht (cont true (of_some hT3)))))
        · obtain ⟨y12, hc13, hT3⟩ := of_bind hT3
          rcases of_bif hT3 with ⟨hb14, hT3⟩ | ⟨hb14, hT3⟩
          · exact HT.rgK [oH, ⟨none, .call [.imm tI, .imm tI, .imm tI] [⟨false, .bool, y7⟩] []⟩, oH, oH, ⟨some false, .no⟩, ⟨some false, .no⟩, ⟨some false, .no⟩, ⟨some false, .no⟩, ⟨some false, .no⟩, ⟨none, .tv false⟩, oH, ⟨some false, .no⟩, ⟨some false, .no⟩, ⟨some false, .no⟩, ⟨some false, .no⟩, ⟨some false, .no⟩, ⟨none, .tv false⟩, oH, ⟨some false, .no⟩, ⟨some false, .no⟩, ⟨some false, .call [.imm tLI, .imm tI, .imm tI] [⟨false, .bool, y12⟩] []⟩, ⟨some false, .no⟩, ⟨none, .tv false⟩, oH, ⟨some true, .no⟩, ⟨some true, .no⟩, ⟨some true, .no⟩, ⟨some true, .no⟩, ⟨none, .tv true⟩] [(0, 0), (1, 1)] [] hX (by kernel_rfl) (allCons (f54_ok hc8) (allCons hb9 (allCons hb9 (allCons hb9 (allCons hb9 (allCons hb9 (allCons hb9 (allCons hb10 (allCons hb10 (allCons hb10 (allCons hb10 (allCons hb10 (allCons hb10 (allCons hb11 (allCons hb11 (allCons hb11 (allCons (f63_ok hc13) (allCons hb11 (allCons hb11 (allCons hb14 (allCons hb14 (allCons hb14 (allCons hb14 (allCons hb14 allNil)))))))))))))))))))))))) (fun _ h => (qThen (h.ht (cont true (of_some hT3)))))
          · obtain ⟨y15, hc16, hT3⟩ := of_bind hT3
            exact HT.rgK [oH, ⟨none, .call [.imm tI, .imm tI, .imm tI] [⟨false, .bool, y7⟩] []⟩, oH, oH, ⟨some false, .no⟩, ⟨some false, .no⟩, ⟨some false, .no⟩, ⟨some false, .no⟩, ⟨some false, .no⟩, ⟨none, .tv false⟩, oH, ⟨some false, .no⟩, ⟨some false, .no⟩, ⟨some false, .no⟩, ⟨some false, .no⟩, ⟨some false, .no⟩, ⟨none, .tv false⟩, oH, ⟨some false, .no⟩, ⟨some false, .no⟩, ⟨some false, .call [.imm tLI, .imm tI, .imm tI] [⟨false, .bool, y12⟩] []⟩, ⟨some false, .no⟩, ⟨none, .tv false⟩, oH, ⟨some false, .no⟩, ⟨some false, .no⟩, ⟨some false, .call [.imm tLI, .imm tI, .imm tI] [⟨false, .bool, y15⟩] []⟩, ⟨some false, .no⟩, ⟨none, .tv false⟩] [(0, 0), (1, 1)] [] hX (by kernel_rfl) (allCons (f54_ok hc8) (allCons hb9 (allCons hb9 (allCons hb9 (allCons hb9 (allCons hb9 (allCons hb9 (allCons hb10 (allCons hb10 (allCons hb10 (allCons hb10 (allCons hb10 (allCons hb10 (allCons hb11 (allCons hb11 (allCons hb11 (allCons (f63_ok hc13) (allCons hb11 (allCons hb11 (allCons hb14 (allCons hb14 (allCons hb14 (allCons (f63_ok hc16) (allCons hb14 (allCons hb14 allNil))))))))))))))))))))))))) (fun _ h => (qThen (h.ht (cont (!y15) (of_some hT3)))))

noncomputable def impl_IsWinning_B1 (a1 : List Int) (s7 : Int × List (List Int)) (v20 : List (List Int)) (s25 : Int) : Option ((Int) ⊕ (Unit ⊕ Unit)) :=
  bif (decide (s25 < (lenI (List.getD v20 (Int.toNat s7.1) ([] : List Int))))) then
    guardP ((0 : Int) ≤ s25 ∧ s25 < lenI (List.getD v20 (Int.toNat s7.1) ([] : List Int))) (
      guardP ((0 : Int) ≤ (List.getD (List.getD v20 (Int.toNat s7.1) ([] : List Int)) (Int.toNat s25) (0 : Int)) ∧ (List.getD (List.getD v20 (Int.toNat s7.1) ([] : List Int)) (Int.toNat s25) (0 : Int)) < lenI a1) (
        guardP ((0 : Int) ≤ s7.1 ∧ s7.1 < lenI a1) (
          bif ((List.getD a1 (Int.toNat (List.getD (List.getD v20 (Int.toNat s7.1) ([] : List Int)) (Int.toNat s25) (0 : Int))) (0 : Int)) != (List.getD a1 (Int.toNat s7.1) (0 : Int))) then
            some (.inr (.inr ()))
          else
            some (.inl (wadd .i64 s25 (1 : Int))))))
  else
    some (.inr (.inl ()))

noncomputable def impl_IsWinning_B2 (a0 : List Int × List Int × List (List Int)) (a1 : List Int) (a2 : List Int) (s7 : Int × List (List Int)) : Option ((Int × List (List Int)) ⊕ (List (List Int) ⊕ Unit)) :=
  bif (decide (s7.1 < (lenI a0.1))) then
    guardP ((0 : Int) ≤ s7.1 ∧ s7.1 < lenI a0.1) (
      (show Option (List (List Int) ⊕ ((Int × List (List Int)) ⊕ (List (List Int) ⊕ Unit))) from
        guardP ((0 : Int) ≤ s7.1 ∧ s7.1 < lenI a1) (
          bif ((List.getD a0.1 (Int.toNat s7.1) (0 : Int)) == (List.getD a1 (Int.toNat s7.1) (0 : Int))) then
            guardP ((0 : Int) ≤ s7.1 ∧ s7.1 < lenI a0.2.2) (
              guardP ((0 : Int) ≤ s7.1 ∧ s7.1 < lenI a2) (
                (slices_Contains___int64_int64 (List.getD a0.2.2 (Int.toNat s7.1) ([] : List Int)) (List.getD a2 (Int.toNat s7.1) (0 : Int))).bind fun y42 =>
                bif (!y42) then
                  inrO (some (.inr (.inr ())))
                else
                  guardP ((0 : Int) ≤ s7.1 ∧ s7.1 < lenI s7.2) (
                    some (.inl (List.set s7.2 (Int.toNat s7.1) ([(List.getD a2 (Int.toNat s7.1) (0 : Int))] : List Int))))))
          else
            guardP ((0 : Int) ≤ s7.1 ∧ s7.1 < lenI a2) (
              bif ((List.getD a2 (Int.toNat s7.1) (0 : Int)) != (-1 : Int)) then
                inrO (some (.inr (.inr ())))
              else
                some (.inl s7.2)))).bind fun w23 => match w23 with
        | .inl v20 =>
          guardP ((0 : Int) ≤ s7.1 ∧ s7.1 < lenI v20) (
            (rounds (impl_IsWinning_B1 a1 s7 v20) (0 : Int)).bind fun r26 => match r26 with
              | .inl r27 =>
                some (.inl ((wadd .i64 s7.1 (1 : Int)), v20))
              | .inr r28 =>
                some (.inr (.inr ())))
        | .inr z => some z)
  else
    some (.inr (.inl s7.2))

noncomputable def impl_IsWinning (a0 : List Int × List Int × List (List Int)) (a1 : List Int) (a2 : List Int) : Option (Bool) :=
  (show Option (Bool) from
    (impl_ValidGame (a0.1, a0.2.1, a0.2.2)).bind fun y55 =>
    bif (!y55) then
      some true
    else
      bif ((lenI a1) != (lenI a0.1)) then
        some true
      else
        bif ((lenI a2) != (lenI a0.1)) then
          some true
        else
          (impl_areWithin a1 (0 : Int) (1 : Int)).bind fun y60 =>
          some (!y60)).bind fun v1 =>
  bif v1 then
    some false
  else
    (slices_Clone a0.2.2).bind fun y5 =>
    (rounds (impl_IsWinning_B2 a0 a1 a2) ((0 : Int), y5)).bind fun r8 => match r8 with
      | .inl r9 =>
        (impl_Game_winners (a0.1, a0.2.1, r9)).bind fun y10 =>
        (slices_Equal___int64_int64 y10 a1).bind fun y12 =>
        some y12
      | .inr r14 =>
        some false

theorem f35_ok {a0 : List Int × List Int × List (List Int)} {a1 : List Int} {a2 : List Int} {r : Bool} (hr : impl_IsWinning a0 a1 a2 = some r) : CallOK Try.prog 35 [.imm (.st (.pair tLI (.pair tLI (.sl tLI)))) a0, .imm tLI a1, .imm tLI a2] [⟨false, .bool, r⟩] [] := by
  unfold impl_IsWinning at hr
  refine CallOK.of_body (ts := [(false, .bool)]) Try.func35 rfl (by kernel_rfl) (Nat.le_of_ble_eq_true (by kernel_rfl)) fun cx hP hN hO hF => ?_
  have hO : cx.own.map Prod.fst = [] := hO
  have hX := CxIs.mk hP hN hO
  have hF := hF rfl
  show HT cx ⟨[(0, .agg [nC a0.1, nC a0.2.1, .dat (.sl tLI) a0.2.2]), (1, nV a1), (2, nV a2)], [], 0⟩ _ _
  refine HT.rg2 (oHs 2) ⟨[(1, nV a1), (2, nV a2), (3, pV 0 0)], [(0, .box [nC a0.1, nC a0.2.1, .dat (.sl tLI) a0.2.2])], 1⟩ hX (by kernel_rfl) allNil ?_
  refine HT.rg2 (oHs 4) ⟨[(1, nV a1), (2, nV a2), (3, pV 0 0), (7, iV (lenI a0.1))], [(0, .box [nC a0.1, nC a0.2.1, .dat (.sl tLI) a0.2.2])], 1⟩ hX (by kernel_rfl) allNil ?_
  refine HT.seq ?_
  obtain ⟨v1', hT3, hr⟩ := of_bind hr
  refine HT.join (fun (v1 : Bool) => ⟨[(1, nV a1), (2, nV a2), (3, pV 0 0), (35, bV v1)], [(0, .box [nC a0.1, nC a0.2.1, .dat (.sl tLI) a0.2.2])], 1⟩) (fun v => v = v1') (fun v1 hv2 => ?_) (fun cont => ?_)
  · subst hv2
    rcases of_bif hr with ⟨hb4, hr⟩ | ⟨hb4, hr⟩
    · refine HT.cond1 rfl hb4 ?_
      refine HT.rg2 [oH] ⟨[(6, bV false)], [], 1⟩ hX (by kernel_rfl) allNil ?_
      have hr := of_some hr
      subst hr
      exact HT.ret (qThenR ⟨[bV false], [], [], by kernel_rfl, by kernel_rfl, rfl, by kernel_rfl, by kernel_rfl, trivial⟩)
    · refine HT.cond0 rfl hb4 ?_
      refine HT.skip (qThen ?_)
      obtain ⟨y5, hc6, hr⟩ := of_bind hr
      refine HT.dr2 9 [⟨oH, []⟩, ⟨oH, [0]⟩, ⟨oH, []⟩, ⟨oH, [2]⟩, ⟨oH, []⟩, ⟨oH, [4]⟩, ⟨⟨none, .call [.imm (.sl tLI)] [⟨true, (.sl tLI), y5⟩] []⟩, [4, 5]⟩, ⟨oH, [0, 1, 2, 3, 4, 5, 6]⟩, ⟨oH, []⟩] [[0, 1, 2, 3, 4, 5, 6, 7, 8]] [oH] ⟨[(1, nV a1), (2, nV a2), (3, pV 0 0), (8, pV 2 0)], [(2, .box [nC a0.1, nC a0.2.1, .all 1]), (1, .seq tLI y5), (0, .box [nC a0.1, nC a0.2.1, .dat (.sl tLI) a0.2.2])], 3⟩ hX (by kernel_rfl) (by kernel_rfl) (allCons (f64_ok hc6) allNil) ?_
      refine HT.seq ?_
      refine HT.rg2 (oHs 4) ⟨[(1, nV a1), (2, nV a2), (3, pV 0 0), (8, pV 2 0), (45, nV a0.1), (46, iV (lenI a0.1)), (47, iV (0 : Int))], [(2, .box [nC a0.1, nC a0.2.1, .all 1]), (1, .seq tLI y5), (0, .box [nC a0.1, nC a0.2.1, .dat (.sl tLI) a0.2.2])], 3⟩ hX (by kernel_rfl) allNil ?_
      refine HT.block ?_
      obtain ⟨r8, hL54, hr⟩ := of_bind hr
      refine HT.loopL (fun (s7 : Int × List (List Int)) => ⟨[(1, nV a1), (2, nV a2), (3, pV 0 0), (8, pV 1 0), (45, nV a0.1), (46, iV (lenI a0.1)), (47, iV s7.1)], [(0, .box [nC a0.1, nC a0.2.1, .dat (.sl tLI) a0.2.2]), (1, .box [nC a0.1, nC a0.2.1, .all 2]), (2, .seq tLI s7.2)], 3⟩) (fun (r8 : List (List Int) ⊕ Unit) => match r8 with | .inl r9 => (.exit 0, ⟨[(1, nV a1), (8, pV 0 0)], [(0, .box [nC a0.1, nC a0.2.1, .all 1]), (1, .seq tLI r9)], 2⟩) | .inr r14 => (.ret, ⟨[(6, bV false)], [], 0⟩)) (Le.re [(0, 0), (2, 1), (1, 2)] [] hX (by kernel_rfl)) hL54 ?_ (fun s7 x15 hx16 hk17 => ?_)
      · rcases r8 with r9 | r14
        · refine (qBlockX (qThen ?_))
          obtain ⟨y10, hc11, hr⟩ := of_bind hr
          obtain ⟨y12, hc13, hr⟩ := of_bind hr
          refine HT.rg2 [oH, ⟨none, .call [.imm (.st (.pair tLI (.pair tLI (.sl tLI))))] [⟨true, tLI, y10⟩] []⟩, oH, ⟨none, .call [.imm tLI, .imm tLI] [⟨false, .bool, y12⟩] []⟩, oH] ⟨[(6, bV y12)], [], 3⟩ hX (by kernel_rfl) (allCons (f60_ok hc11) (allCons (f65_ok hc13) allNil)) ?_
          have hr := of_some hr
          subst hr
          exact HT.ret ⟨[bV y12], [], [], by kernel_rfl, by kernel_rfl, rfl, by kernel_rfl, by kernel_rfl, trivial⟩
        · have hr := of_some hr
          subst hr
          exact (qBlockR (qThenR ⟨[bV false], [], [], by kernel_rfl, by kernel_rfl, rfl, by kernel_rfl, by kernel_rfl, trivial⟩))
      · refine HT.rg2 [oH] ⟨[(1, nV a1), (2, nV a2), (3, pV 0 0), (8, pV 1 0), (45, nV a0.1), (46, iV (lenI a0.1)), (47, iV s7.1), (48, bV (decide (s7.1 < (lenI a0.1))))], [(0, .box [nC a0.1, nC a0.2.1, .dat (.sl tLI) a0.2.2]), (1, .box [nC a0.1, nC a0.2.1, .all 2]), (2, .seq tLI s7.2)], 3⟩ hX (by kernel_rfl) allNil ?_
        refine HT.seq ?_
        rcases of_bif hx16 with ⟨hb18, hx16⟩ | ⟨hb18, hx16⟩
        · refine HT.cond1 rfl hb18 ?_
          refine HT.skip (qThen ?_)
          refine HT.seq ?_
          refine HT.block ?_
          obtain ⟨hg19, hx16⟩ := of_guard hx16
          refine HT.rg2 (oHs 5) ⟨[(1, nV a1), (2, nV a2), (3, pV 0 0), (8, pV 1 0), (9, iV s7.1), (10, iV (List.getD a0.1 (Int.toNat s7.1) (0 : Int))), (45, nV a0.1), (46, iV (lenI a0.1)), (47, iV s7.1)], [(0, .box [nC a0.1, nC a0.2.1, .dat (.sl tLI) a0.2.2]), (1, .box [nC a0.1, nC a0.2.1, .all 2]), (2, .seq tLI s7.2)], 3⟩ hX (by kernel_rfl) (allCons hg19 allNil) ?_
          obtain ⟨w23, hT22, hx16⟩ := of_bind hx16
          refine HT.join (fun (v20 : List (List Int)) => ⟨[(1, nV a1), (2, nV a2), (3, pV 0 0), (8, pV 1 0), (9, iV s7.1), (45, nV a0.1), (46, iV (lenI a0.1)), (47, iV s7.1)], [(0, .box [nC a0.1, nC a0.2.1, .dat (.sl tLI) a0.2.2]), (1, .box [nC a0.1, nC a0.2.1, .all 2]), (2, .seq tLI v20)], 3⟩) (fun v => w23 = Sum.inl v) (fun v20 hv21 => ?_) (fun cont => ?_)
          · subst hv21
            obtain ⟨hg24, hx16⟩ := of_guard hx16
            refine HT.rg2 (oHs 7) ⟨[(1, nV a1), (2, nV a2), (3, pV 0 0), (8, pV 1 0), (9, iV s7.1), (45, nV a0.1), (46, iV (lenI a0.1)), (47, iV s7.1), (87, nV (List.getD v20 (Int.toNat s7.1) ([] : List Int))), (88, iV (lenI (List.getD v20 (Int.toNat s7.1) ([] : List Int)))), (89, iV (0 : Int))], [(0, .box [nC a0.1, nC a0.2.1, .dat (.sl tLI) a0.2.2]), (1, .box [nC a0.1, nC a0.2.1, .all 2]), (2, .seq tLI v20)], 3⟩ hX (by kernel_rfl) (allCons hg24 (allCons (natLt hg24) allNil)) ?_
            refine HT.block ?_
            obtain ⟨r26, hL37, hx16⟩ := of_bind hx16
            refine HT.loopL (fun (s25 : Int) => ⟨[(1, nV a1), (2, nV a2), (3, pV 0 0), (8, pV 1 0), (9, iV s7.1), (45, nV a0.1), (46, iV (lenI a0.1)), (47, iV s7.1), (87, nV (List.getD v20 (Int.toNat s7.1) ([] : List Int))), (88, iV (lenI (List.getD v20 (Int.toNat s7.1) ([] : List Int)))), (89, iV s25)], [(0, .box [nC a0.1, nC a0.2.1, .dat (.sl tLI) a0.2.2]), (1, .box [nC a0.1, nC a0.2.1, .all 2]), (2, .seq tLI v20)], 3⟩) (fun (r26 : Unit ⊕ Unit) => match r26 with | .inl r27 => (.exit 2, ⟨[(1, nV a1), (2, nV a2), (3, pV 0 0), (8, pV 1 0), (45, nV a0.1), (46, iV (lenI a0.1)), (47, iV s7.1)], [(0, .box [nC a0.1, nC a0.2.1, .dat (.sl tLI) a0.2.2]), (1, .box [nC a0.1, nC a0.2.1, .all 2]), (2, .seq tLI v20)], 3⟩) | .inr r28 => (.ret, ⟨[(6, bV false)], [], 0⟩)) (Le.re [(0, 0), (1, 1), (2, 2)] [] hX (by kernel_rfl)) hL37 ?_ (fun s25 x29 hx30 hk31 => ?_)
            · rcases r26 with r27 | r28
              · refine (qBlockX (qBlock (qThen ?_)))
                have hx16 := of_some hx16
                subst hx16
                exact HT.rgK (oHs 2) [(0, 0), (1, 1), (2, 2)] [] hX (by kernel_rfl) allNil (fun _ h => (qLoopN ⟨((wadd .i64 s7.1 (1 : Int)), v20), rfl, h⟩))
              · have hx16 := of_some hx16
                subst hx16
                exact (qBlockR (qBlockR (qThenR (qLoopR (hk17 (.inr ()) rfl)))))
            · refine HT.rg2 [oH] ⟨[(1, nV a1), (2, nV a2), (3, pV 0 0), (8, pV 1 0), (9, iV s7.1), (45, nV a0.1), (46, iV (lenI a0.1)), (47, iV s7.1), (87, nV (List.getD v20 (Int.toNat s7.1) ([] : List Int))), (88, iV (lenI (List.getD v20 (Int.toNat s7.1) ([] : List Int)))), (89, iV s25), (90, bV (decide (s25 < (lenI (List.getD v20 (Int.toNat s7.1) ([] : List Int))))))], [(0, .box [nC a0.1, nC a0.2.1, .dat (.sl tLI) a0.2.2]), (1, .box [nC a0.1, nC a0.2.1, .all 2]), (2, .seq tLI v20)], 3⟩ hX (by kernel_rfl) allNil ?_
              refine HT.seq ?_
              rcases of_bif hx30 with ⟨hb32, hx30⟩ | ⟨hb32, hx30⟩
              · refine HT.cond1 rfl hb32 ?_
                refine HT.skip (qThen ?_)
                refine HT.seq ?_
                refine HT.block ?_
                obtain ⟨hg33, hx30⟩ := of_guard hx30
                refine HT.rg2 (oHs 3) ⟨[(1, nV a1), (2, nV a2), (3, pV 0 0), (8, pV 1 0), (9, iV s7.1), (12, iV (List.getD (List.getD v20 (Int.toNat s7.1) ([] : List Int)) (Int.toNat s25) (0 : Int))), (45, nV a0.1), (46, iV (lenI a0.1)), (47, iV s7.1), (87, nV (List.getD v20 (Int.toNat s7.1) ([] : List Int))), (88, iV (lenI (List.getD v20 (Int.toNat s7.1) ([] : List Int)))), (89, iV s25)], [(0, .box [nC a0.1, nC a0.2.1, .dat (.sl tLI) a0.2.2]), (1, .box [nC a0.1, nC a0.2.1, .all 2]), (2, .seq tLI v20)], 3⟩ hX (by kernel_rfl) (allCons hg33 allNil) ?_
                obtain ⟨hg34, hx30⟩ := of_guard hx30
                obtain ⟨hg35, hx30⟩ := of_guard hx30
                refine HT.dr2 8 [⟨oH, []⟩, ⟨oH, []⟩, ⟨oH, [0, 1]⟩, ⟨oH, [0, 1, 2]⟩, ⟨oH, []⟩, ⟨oH, []⟩, ⟨oH, [4, 5]⟩, ⟨oH, [4, 5, 6]⟩] [[0, 1, 2, 3, 4, 5, 6, 7]] [oH] ⟨[(1, nV a1), (2, nV a2), (3, pV 0 0), (8, pV 1 0), (9, iV s7.1), (45, nV a0.1), (46, iV (lenI a0.1)), (47, iV s7.1), (87, nV (List.getD v20 (Int.toNat s7.1) ([] : List Int))), (88, iV (lenI (List.getD v20 (Int.toNat s7.1) ([] : List Int)))), (89, iV s25), (101, bV ((List.getD a1 (Int.toNat (List.getD (List.getD v20 (Int.toNat s7.1) ([] : List Int)) (Int.toNat s25) (0 : Int))) (0 : Int)) != (List.getD a1 (Int.toNat s7.1) (0 : Int))))], [(0, .box [nC a0.1, nC a0.2.1, .dat (.sl tLI) a0.2.2]), (1, .box [nC a0.1, nC a0.2.1, .all 2]), (2, .seq tLI v20)], 3⟩ hX (by kernel_rfl) (by kernel_rfl) (allCons hg34 (allCons hg35 allNil)) ?_
                rcases of_bif hx30 with ⟨hb36, hx30⟩ | ⟨hb36, hx30⟩
                · refine HT.cond1 rfl hb36 ?_
                  refine HT.rg2 [oH] ⟨[(6, bV false)], [], 3⟩ hX (by kernel_rfl) allNil ?_
                  have hx30 := of_some hx30
                  subst hx30
                  exact HT.retL (Le.re [] [] hX (by kernel_rfl)) (qBlockR (qThenR (qLoopR (hk31 (.inr ()) rfl))))
                · refine HT.cond0 rfl hb36 ?_
                  refine HT.skip (qBlock (qThen ?_))
                  have hx30 := of_some hx30
                  subst hx30
                  exact HT.rgK (oHs 2) [(0, 0), (1, 1), (2, 2)] [] hX (by kernel_rfl) allNil (fun _ h => (qLoopN ⟨(wadd .i64 s25 (1 : Int)), rfl, h⟩))
              · refine HT.cond0 rfl hb32 ?_
                have hx30 := of_some hx30
                subst hx30
                exact HT.exitL (Le.re [(0, 0), (1, 1), (2, 2)] [] hX (by kernel_rfl)) (qThenE (qLoopE (hk31 (.inl ()) rfl)))
          · obtain ⟨hg38, hT22⟩ := of_guard hT22
            refine HT.rg2 (oHs 6) ⟨[(1, nV a1), (2, nV a2), (3, pV 0 0), (8, pV 1 0), (9, iV s7.1), (45, nV a0.1), (46, iV (lenI a0.1)), (47, iV s7.1), (57, bV ((List.getD a0.1 (Int.toNat s7.1) (0 : Int)) == (List.getD a1 (Int.toNat s7.1) (0 : Int))))], [(0, .box [nC a0.1, nC a0.2.1, .dat (.sl tLI) a0.2.2]), (1, .box [nC a0.1, nC a0.2.1, .all 2]), (2, .seq tLI s7.2)], 3⟩ hX (by kernel_rfl) (allCons hg38 allNil) ?_
            rcases of_bif hT22 with ⟨hb39, hT22⟩ | ⟨hb39, hT22⟩
            · refine HT.cond1 rfl hb39 ?_
              refine HT.seq ?_
              obtain ⟨hg40, hT22⟩ := of_guard hT22
              obtain ⟨hg41, hT22⟩ := of_guard hT22
              obtain ⟨y42, hc43, hT22⟩ := of_bind hT22
              refine HT.dr2 9 [⟨oH, []⟩, ⟨oH, [0]⟩, ⟨oH, []⟩, ⟨oH, [0, 1, 2]⟩, ⟨oH, [0, 1, 2, 3]⟩, ⟨oH, []⟩, ⟨oH, []⟩, ⟨oH, [5, 6]⟩, ⟨oH, [5, 6, 7]⟩] [[0, 1, 2, 3, 4, 5, 6, 7, 8], [0, 1, 2, 3, 4, 5, 6, 7, 8, 9]] [⟨none, .call [.imm tLI, .imm tI] [⟨false, .bool, y42⟩] []⟩, oH] ⟨[(1, nV a1), (2, nV a2), (3, pV 0 0), (8, pV 1 0), (9, iV s7.1), (45, nV a0.1), (46, iV (lenI a0.1)), (47, iV s7.1), (68, bV (!y42))], [(0, .box [nC a0.1, nC a0.2.1, .dat (.sl tLI) a0.2.2]), (1, .box [nC a0.1, nC a0.2.1, .all 2]), (2, .seq tLI s7.2)], 3⟩ hX (by kernel_rfl) (by kernel_rfl) (allCons hg40 (allCons hg41 (allCons (f49_ok hc43) allNil))) ?_
              rcases of_bif hT22 with ⟨hb44, hT22⟩ | ⟨hb44, hT22⟩
              · refine HT.cond1 rfl hb44 ?_
                refine HT.rg2 [oH] ⟨[(6, bV false)], [], 3⟩ hX (by kernel_rfl) allNil ?_
                obtain ⟨z45, hT47, hz46⟩ := of_inr hT22
                subst hz46
                have hx16 := hT47.trans hx16
                have hx16 := of_some hx16
                subst hx16
                exact HT.retL (Le.re [] [] hX (by kernel_rfl)) (qThenR (qThenR (qBlockR (qThenR (qLoopR (hk17 (.inr ()) rfl))))))
              · refine HT.cond0 rfl hb44 ?_
                refine HT.skip (qThen ?_)
                obtain ⟨hg48, hT22⟩ := of_guard hT22
                exact HT.drK 8 [⟨oH, []⟩, ⟨oH, [0]⟩, ⟨oH, []⟩, ⟨oH, []⟩, ⟨oH, []⟩, ⟨oH, [3, 4]⟩, ⟨oH, [3, 4, 5]⟩, ⟨⟨none, .tyD tI⟩, [3, 4, 5, 6]⟩] [[0, 1, 2, 3, 4, 5, 6, 7], [0, 1, 2, 3, 4, 5, 6, 7, 8]] (oHs 2) [(0, 0), (1, 1), (2, 2)] [] hX (by kernel_rfl) (by kernel_rfl) (allCons hg41 (allCons hg48 (allCons (natLt hg48) allNil))) (fun _ h => (qThen (h.ht (cont (List.set s7.2 (Int.toNat s7.1) ([(List.getD a2 (Int.toNat s7.1) (0 : Int))] : List Int)) (of_some2 hT22)))))
            · refine HT.cond0 rfl hb39 ?_
              obtain ⟨hg49, hT22⟩ := of_guard hT22
              refine HT.rg2 (oHs 5) ⟨[(1, nV a1), (2, nV a2), (3, pV 0 0), (8, pV 1 0), (9, iV s7.1), (45, nV a0.1), (46, iV (lenI a0.1)), (47, iV s7.1), (82, bV ((List.getD a2 (Int.toNat s7.1) (0 : Int)) != (-1 : Int)))], [(0, .box [nC a0.1, nC a0.2.1, .dat (.sl tLI) a0.2.2]), (1, .box [nC a0.1, nC a0.2.1, .all 2]), (2, .seq tLI s7.2)], 3⟩ hX (by kernel_rfl) (allCons hg49 allNil) ?_
              rcases of_bif hT22 with ⟨hb50, hT22⟩ | ⟨hb50, hT22⟩
              · refine HT.cond1 rfl hb50 ?_
                refine HT.rg2 [oH] ⟨[(6, bV false)], [], 3⟩ hX (by kernel_rfl) allNil ?_
                obtain ⟨z51, hT53, hz52⟩ := of_inr hT22
                subst hz52
                have hx16 := hT53.trans hx16
                have hx16 := of_some hx16
                subst hx16
                exact HT.retL (Le.re [] [] hX (by kernel_rfl)) (qThenR (qBlockR (qThenR (qLoopR (hk17 (.inr ()) rfl)))))
              · refine HT.cond0 rfl hb50 ?_
                refine HT.skip (qThen ?_)
                exact (Le.re [(0, 0), (1, 1), (2, 2)] [] hX (by kernel_rfl)).ht (cont s7.2 (of_some2 hT22))
        · refine HT.cond0 rfl hb18 ?_
          have hx16 := of_some hx16
          subst hx16
          exact HT.exitL (Le.re [(1, 0), (2, 1)] [] hX (by kernel_rfl)) (qThenE (qLoopE (hk17 (.inl s7.2) rfl)))
  · obtain ⟨y55, hc56, hT3⟩ := of_bind hT3
    rcases of_bif hT3 with ⟨hb57, hT3⟩ | ⟨hb57, hT3⟩
    · exact HT.rgK [oH, ⟨none, .call [.imm (.st (.pair tLI (.pair tLI (.sl tLI))))] [⟨false, .bool, y55⟩] []⟩, oH, oH, ⟨some true, .no⟩, ⟨some true, .no⟩, ⟨some true, .no⟩, ⟨some true, .no⟩, ⟨none, .tv true⟩, oH, ⟨some true, .no⟩, ⟨some true, .no⟩, ⟨some true, .no⟩, ⟨some true, .no⟩, ⟨none, .tv true⟩, oH, ⟨some true, .no⟩, ⟨some true, .no⟩, ⟨some true, .no⟩, ⟨none, .tv true⟩] [(0, 0)] [] hX (by kernel_rfl) (allCons (f48_ok hc56) (allCons hb57 (allCons hb57 (allCons hb57 (allCons hb57 (allCons hb57 (allCons (rfl : true = true) (allCons (rfl : true = true) (allCons (rfl : true = true) (allCons (rfl : true = true) (allCons (rfl : true = true) (allCons (rfl : true = true) (allCons (rfl : true = true) (allCons (rfl : true = true) (allCons (rfl : true = true) allNil))))))))))))))) (fun _ h => (qThen (h.ht (cont true (of_some hT3)))))
    · rcases of_bif hT3 with ⟨hb58, hT3⟩ | ⟨hb58, hT3⟩
      · exact HT.rgK [oH, ⟨none, .call [.imm (.st (.pair tLI (.pair tLI (.sl tLI))))] [⟨false, .bool, y55⟩] []⟩, oH, oH, ⟨some false, .no⟩, ⟨some false, .no⟩, ⟨some false, .no⟩, ⟨some false, .no⟩, ⟨none, .tv false⟩, oH, ⟨some true, .no⟩, ⟨some true, .no⟩, ⟨some true, .no⟩, ⟨some true, .no⟩, ⟨none, .tv true⟩, oH, ⟨some true, .no⟩, ⟨some true, .no⟩, ⟨some true, .no⟩, ⟨none, .tv true⟩] [(0, 0)] [] hX (by kernel_rfl) (allCons (f48_ok hc56) (allCons hb57 (allCons hb57 (allCons hb57 (allCons hb57 (allCons hb57 (allCons hb58 (allCons hb58 (allCons hb58 (allCons hb58 (allCons hb58 (allCons (rfl : true = true) (allCons (rfl : true = true) (allCons (rfl : true = true) (allCons (rfl : true = true) allNil))))))))))))))) (fun _ h => (qThen (h.ht (cont true (of_some hT3)))))
      · rcases of_bif hT3 with ⟨hb59, hT3⟩ | ⟨hb59, hT3⟩
        · exact HT.rgK [oH, ⟨none, .call [.imm (.st (.pair tLI (.pair tLI (.sl tLI))))] [⟨false, .bool, y55⟩] []⟩, oH, oH, ⟨some false, .no⟩, ⟨some false, .no⟩, ⟨some false, .no⟩, ⟨some false, .no⟩, ⟨none, .tv false⟩, oH, ⟨some false, .no⟩, ⟨some false, .no⟩, ⟨some false, .no⟩, ⟨some false, .no⟩, ⟨none, .tv false⟩, oH, ⟨some true, .no⟩, ⟨some true, .no⟩, ⟨some true, .no⟩, ⟨none, .tv true⟩] [(0, 0)] [] hX (by kernel_rfl) (allCons (f48_ok hc56) (allCons hb57 (allCons hb57 (allCons hb57 (allCons hb57 (allCons hb57 (allCons hb58 (allCons hb58 (allCons hb58 (allCons hb58 (allCons hb58 (allCons hb59 (allCons hb59 (allCons hb59 (allCons hb59 allNil))))))))))))))) (fun _ h => (qThen (h.ht (cont true (of_some hT3)))))
        · obtain ⟨y60, hc61, hT3⟩ := of_bind hT3
          exact HT.rgK [oH, ⟨none, .call [.imm (.st (.pair tLI (.pair tLI (.sl tLI))))] [⟨false, .bool, y55⟩] []⟩, oH, oH, ⟨some false, .no⟩, ⟨some false, .no⟩, ⟨some false, .no⟩, ⟨some false, .no⟩, ⟨none, .tv false⟩, oH, ⟨some false, .no⟩, ⟨some false, .no⟩, ⟨some false, .no⟩, ⟨some false, .no⟩, ⟨none, .tv false⟩, oH, ⟨some false, .no⟩, ⟨some false, .call [.imm tLI, .imm tI, .imm tI] [⟨false, .bool, y60⟩] []⟩, ⟨some false, .no⟩, ⟨none, .tv false⟩] [(0, 0)] [] hX (by kernel_rfl) (allCons (f48_ok hc56) (allCons hb57 (allCons hb57 (allCons hb57 (allCons hb57 (allCons hb57 (allCons hb58 (allCons hb58 (allCons hb58 (allCons hb58 (allCons hb58 (allCons hb59 (allCons hb59 (allCons (f63_ok hc61) (allCons hb59 (allCons hb59 allNil)))))))))))))))) (fun _ h => (qThen (h.ht (cont (!y60) (of_some hT3)))))

noncomputable def laws_eqInt64S_B1 (a0 : List Int) (a1 : List Int) (s2 : Int) : Option ((Int) ⊕ (Unit ⊕ Unit)) :=
  bif (decide (s2 < (lenI a0))) then
    guardP ((0 : Int) ≤ s2 ∧ s2 < lenI a0) (
      guardP ((0 : Int) ≤ s2 ∧ s2 < lenI a1) (
        bif ((List.getD a0 (Int.toNat s2) (0 : Int)) != (List.getD a1 (Int.toNat s2) (0 : Int))) then
          some (.inr (.inr ()))
        else
          some (.inl (wadd .i64 s2 (1 : Int)))))
  else
    some (.inr (.inl ()))

noncomputable def laws_eqInt64S (a0 : List Int) (a1 : List Int) : Option (Bool) :=
  bif ((lenI a0) != (lenI a1)) then
    some false
  else
    (rounds (laws_eqInt64S_B1 a0 a1) (0 : Int)).bind fun r3 => match r3 with
      | .inl r4 =>
        some true
      | .inr r5 =>
        some false

theorem f20_ok {a0 : List Int} {a1 : List Int} {r : Bool} (hr : laws_eqInt64S a0 a1 = some r) : CallOK Try.prog 20 [.imm tLI a0, .imm tLI a1] [⟨false, .bool, r⟩] [] := by
  unfold laws_eqInt64S at hr
  refine CallOK.of_body (ts := [(false, .bool)]) Try.func20 rfl (by kernel_rfl) (Nat.le_of_ble_eq_true (by kernel_rfl)) fun cx hP hN hO hF => ?_
  have hO : cx.own.map Prod.fst = [] := hO
  have hX := CxIs.mk hP hN hO
  have hF := hF rfl
  show HT cx ⟨[(0, nV a0), (1, nV a1)], [], 0⟩ _ _
  refine HT.rg2 [oH] ⟨[(0, nV a0), (1, nV a1)], [], 0⟩ hX (by kernel_rfl) allNil ?_
  refine HT.seq ?_
  refine HT.rg2 (oHs 5) ⟨[(0, nV a0), (1, nV a1), (10, bV ((lenI a0) != (lenI a1)))], [], 0⟩ hX (by kernel_rfl) allNil ?_
  rcases of_bif hr with ⟨hb1, hr⟩ | ⟨hb1, hr⟩
  · refine HT.cond1 rfl hb1 ?_
    refine HT.rg2 [oH] ⟨[(4, bV false)], [], 0⟩ hX (by kernel_rfl) allNil ?_
    have hr := of_some hr
    subst hr
    exact HT.ret (qThenR ⟨[bV false], [], [], by kernel_rfl, by kernel_rfl, rfl, by kernel_rfl, by kernel_rfl, trivial⟩)
  · refine HT.cond0 rfl hb1 ?_
    refine HT.skip (qThen ?_)
    refine HT.seq ?_
    refine HT.rg2 [oH] ⟨[(0, nV a0), (1, nV a1), (5, iV (0 : Int))], [], 0⟩ hX (by kernel_rfl) allNil ?_
    refine HT.block ?_
    obtain ⟨r3, hL13, hr⟩ := of_bind hr
    refine HT.loopL (fun (s2 : Int) => ⟨[(0, nV a0), (1, nV a1), (5, iV s2)], [], 0⟩) (fun (r3 : Unit ⊕ Unit) => match r3 with | .inl r4 => (.exit 0, ⟨[], [], 0⟩) | .inr r5 => (.ret, ⟨[(4, bV false)], [], 0⟩)) (Le.re [] [] hX (by kernel_rfl)) hL13 ?_ (fun s2 x6 hx7 hk8 => ?_)
    · rcases r3 with r4 | r5
      · refine (qBlockX (qThen ?_))
        refine HT.rg2 [oH] ⟨[(4, bV true)], [], 0⟩ hX (by kernel_rfl) allNil ?_
        have hr := of_some hr
        subst hr
        exact HT.ret ⟨[bV true], [], [], by kernel_rfl, by kernel_rfl, rfl, by kernel_rfl, by kernel_rfl, trivial⟩
      · have hr := of_some hr
        subst hr
        exact (qBlockR (qThenR ⟨[bV false], [], [], by kernel_rfl, by kernel_rfl, rfl, by kernel_rfl, by kernel_rfl, trivial⟩))
    · refine HT.seq ?_
      refine HT.rg2 (oHs 4) ⟨[(0, nV a0), (1, nV a1), (5, iV s2), (14, bV (decide (s2 < (lenI a0))))], [], 0⟩ hX (by kernel_rfl) allNil ?_
      rcases of_bif hx7 with ⟨hb9, hx7⟩ | ⟨hb9, hx7⟩
      · refine HT.cond1 rfl hb9 ?_
        refine HT.skip (qThen ?_)
        refine HT.seq ?_
        refine HT.block ?_
        obtain ⟨hg10, hx7⟩ := of_guard hx7
        obtain ⟨hg11, hx7⟩ := of_guard hx7
        refine HT.dr2 8 [⟨oH, []⟩, ⟨oH, []⟩, ⟨oH, [0, 1]⟩, ⟨oH, [0, 1, 2]⟩, ⟨oH, []⟩, ⟨oH, []⟩, ⟨oH, [4, 5]⟩, ⟨oH, [4, 5, 6]⟩] [[0, 1, 2, 3, 4, 5, 6, 7]] [oH] ⟨[(0, nV a0), (1, nV a1), (5, iV s2), (25, bV ((List.getD a0 (Int.toNat s2) (0 : Int)) != (List.getD a1 (Int.toNat s2) (0 : Int))))], [], 0⟩ hX (by kernel_rfl) (by kernel_rfl) (allCons hg10 (allCons hg11 allNil)) ?_
        rcases of_bif hx7 with ⟨hb12, hx7⟩ | ⟨hb12, hx7⟩
        · refine HT.cond1 rfl hb12 ?_
          refine HT.rg2 [oH] ⟨[(4, bV false)], [], 0⟩ hX (by kernel_rfl) allNil ?_
          have hx7 := of_some hx7
          subst hx7
          exact HT.retL (Le.re [] [] hX (by kernel_rfl)) (qBlockR (qThenR (qLoopR (hk8 (.inr ()) rfl))))
        · refine HT.cond0 rfl hb12 ?_
          refine HT.skip (qBlock (qThen ?_))
          have hx7 := of_some hx7
          subst hx7
          exact HT.rgK (oHs 3) [] [] hX (by kernel_rfl) allNil (fun _ h => (qLoopN ⟨(wadd .i64 s2 (1 : Int)), rfl, h⟩))
      · refine HT.cond0 rfl hb9 ?_
        have hx7 := of_some hx7
        subst hx7
        exact HT.exitL (Le.re [] [] hX (by kernel_rfl)) (qThenE (qLoopE (hk8 (.inl ()) rfl)))

noncomputable def laws_eqInt64SS_B1 (a0 : List (List Int)) (a1 : List (List Int)) (s2 : Int) : Option ((Int) ⊕ (Unit ⊕ Unit)) :=
  bif (decide (s2 < (lenI a0))) then
    guardP ((0 : Int) ≤ s2 ∧ s2 < lenI a0) (
      guardP ((0 : Int) ≤ s2 ∧ s2 < lenI a1) (
        (laws_eqInt64S (List.getD a0 (Int.toNat s2) ([] : List Int)) (List.getD a1 (Int.toNat s2) ([] : List Int))).bind fun y12 =>
        bif (!y12) then
          some (.inr (.inr ()))
        else
          some (.inl (wadd .i64 s2 (1 : Int)))))
  else
    some (.inr (.inl ()))

noncomputable def laws_eqInt64SS (a0 : List (List Int)) (a1 : List (List Int)) : Option (Bool) :=
  bif ((lenI a0) != (lenI a1)) then
    some false
  else
    (rounds (laws_eqInt64SS_B1 a0 a1) (0 : Int)).bind fun r3 => match r3 with
      | .inl r4 =>
        some true
      | .inr r5 =>
        some false

theorem f29_ok {a0 : List (List Int)} {a1 : List (List Int)} {r : Bool} (hr : laws_eqInt64SS a0 a1 = some r) : CallOK Try.prog 29 [.imm (.sl tLI) a0, .imm (.sl tLI) a1] [⟨false, .bool, r⟩] [] := by
  unfold laws_eqInt64SS at hr
  refine CallOK.of_body (ts := [(false, .bool)]) Try.func29 rfl (by kernel_rfl) (Nat.le_of_ble_eq_true (by kernel_rfl)) fun cx hP hN hO hF => ?_
  have hO : cx.own.map Prod.fst = [] := hO
  have hX := CxIs.mk hP hN hO
  have hF := hF rfl
  show HT cx ⟨[(0, .one (.dat (.sl tLI) a0)), (1, .one (.dat (.sl tLI) a1))], [], 0⟩ _ _
  refine HT.rg2 [oH] ⟨[(0, .one (.dat (.sl tLI) a0)), (1, .one (.dat (.sl tLI) a1))], [], 0⟩ hX (by kernel_rfl) allNil ?_
  refine HT.seq ?_
  refine HT.rg2 (oHs 5) ⟨[(0, .one (.dat (.sl tLI) a0)), (1, .one (.dat (.sl tLI) a1)), (10, bV ((lenI a0) != (lenI a1)))], [], 0⟩ hX (by kernel_rfl) allNil ?_
  rcases of_bif hr with ⟨hb1, hr⟩ | ⟨hb1, hr⟩
  · refine HT.cond1 rfl hb1 ?_
    refine HT.rg2 [oH] ⟨[(4, bV false)], [], 0⟩ hX (by kernel_rfl) allNil ?_
    have hr := of_some hr
    subst hr
    exact HT.ret (qThenR ⟨[bV false], [], [], by kernel_rfl, by kernel_rfl, rfl, by kernel_rfl, by kernel_rfl, trivial⟩)
  · refine HT.cond0 rfl hb1 ?_
    refine HT.skip (qThen ?_)
    refine HT.seq ?_
    refine HT.rg2 [oH] ⟨[(0, .one (.dat (.sl tLI) a0)), (1, .one (.dat (.sl tLI) a1)), (5, iV (0 : Int))], [], 0⟩ hX (by kernel_rfl) allNil ?_
    refine HT.block ?_
    obtain ⟨r3, hL15, hr⟩ := of_bind hr
    refine HT.loopL (fun (s2 : Int) => ⟨[(0, .one (.dat (.sl tLI) a0)), (1, .one (.dat (.sl tLI) a1)), (5, iV s2)], [], 0⟩) (fun (r3 : Unit ⊕ Unit) => match r3 with | .inl r4 => (.exit 0, ⟨[], [], 0⟩) | .inr r5 => (.ret, ⟨[(4, bV false)], [], 0⟩)) (Le.re [] [] hX (by kernel_rfl)) hL15 ?_ (fun s2 x6 hx7 hk8 => ?_)
    · rcases r3 with r4 | r5
      · refine (qBlockX (qThen ?_))
        refine HT.rg2 [oH] ⟨[(4, bV true)], [], 0⟩ hX (by kernel_rfl) allNil ?_
        have hr := of_some hr
        subst hr
        exact HT.ret ⟨[bV true], [], [], by kernel_rfl, by kernel_rfl, rfl, by kernel_rfl, by kernel_rfl, trivial⟩
      · have hr := of_some hr
        subst hr
        exact (qBlockR (qThenR ⟨[bV false], [], [], by kernel_rfl, by kernel_rfl, rfl, by kernel_rfl, by kernel_rfl, trivial⟩))
    · refine HT.seq ?_
      refine HT.rg2 (oHs 4) ⟨[(0, .one (.dat (.sl tLI) a0)), (1, .one (.dat (.sl tLI) a1)), (5, iV s2), (14, bV (decide (s2 < (lenI a0))))], [], 0⟩ hX (by kernel_rfl) allNil ?_
      rcases of_bif hx7 with ⟨hb9, hx7⟩ | ⟨hb9, hx7⟩
      · refine HT.cond1 rfl hb9 ?_
        refine HT.skip (qThen ?_)
        refine HT.seq ?_
        refine HT.block ?_
        obtain ⟨hg10, hx7⟩ := of_guard hx7
        obtain ⟨hg11, hx7⟩ := of_guard hx7
        obtain ⟨y12, hc13, hx7⟩ := of_bind hx7
        refine HT.dr2 8 [⟨oH, []⟩, ⟨oH, []⟩, ⟨oH, [0, 1]⟩, ⟨oH, [0, 1, 2]⟩, ⟨oH, []⟩, ⟨oH, []⟩, ⟨oH, [4, 5]⟩, ⟨oH, [4, 5, 6]⟩] [[0, 1, 2, 3, 4, 5, 6, 7], [0, 1, 2, 3, 4, 5, 6, 7, 8]] [⟨none, .call [.imm tLI, .imm tLI] [⟨false, .bool, y12⟩] []⟩, oH] ⟨[(0, .one (.dat (.sl tLI) a0)), (1, .one (.dat (.sl tLI) a1)), (5, iV s2), (26, bV (!y12))], [], 0⟩ hX (by kernel_rfl) (by kernel_rfl) (allCons hg10 (allCons hg11 (allCons (f20_ok hc13) allNil))) ?_
        rcases of_bif hx7 with ⟨hb14, hx7⟩ | ⟨hb14, hx7⟩
        · refine HT.cond1 rfl hb14 ?_
          refine HT.rg2 [oH] ⟨[(4, bV false)], [], 0⟩ hX (by kernel_rfl) allNil ?_
          have hx7 := of_some hx7
          subst hx7
          exact HT.retL (Le.re [] [] hX (by kernel_rfl)) (qBlockR (qThenR (qLoopR (hk8 (.inr ()) rfl))))
        · refine HT.cond0 rfl hb14 ?_
          refine HT.skip (qBlock (qThen ?_))
          have hx7 := of_some hx7
          subst hx7
          exact HT.rgK (oHs 3) [] [] hX (by kernel_rfl) allNil (fun _ h => (qLoopN ⟨(wadd .i64 s2 (1 : Int)), rfl, h⟩))
      · refine HT.cond0 rfl hb9 ?_
        have hx7 := of_some hx7
        subst hx7
        exact HT.exitL (Le.re [] [] hX (by kernel_rfl)) (qThenE (qLoopE (hk8 (.inl ()) rfl)))

noncomputable def laws_eqGame (a0 : List Int × List Int × List (List Int)) (a1 : List Int × List Int × List (List Int)) : Option (Bool) :=
  (laws_eqInt64S a0.1 a1.1).bind fun y1 =>
  bif (!y1) then
    some false
  else
    (laws_eqInt64S a0.2.1 a1.2.1).bind fun y4 =>
    bif (!y4) then
      some false
    else
      (laws_eqInt64SS a0.2.2 a1.2.2).bind fun y7 =>
      bif (!y7) then
        some false
      else
        some true

theorem f14_ok {a0 : List Int × List Int × List (List Int)} {a1 : List Int × List Int × List (List Int)} {r : Bool} (hr : laws_eqGame a0 a1 = some r) : CallOK Try.prog 14 [.imm (.st (.pair tLI (.pair tLI (.sl tLI)))) a0, .imm (.st (.pair tLI (.pair tLI (.sl tLI)))) a1] [⟨false, .bool, r⟩] [] := by
  unfold laws_eqGame at hr
  refine CallOK.of_body (ts := [(false, .bool)]) Try.func14 rfl (by kernel_rfl) (Nat.le_of_ble_eq_true (by kernel_rfl)) fun cx hP hN hO hF => ?_
  have hO : cx.own.map Prod.fst = [] := hO
  have hX := CxIs.mk hP hN hO
  have hF := hF rfl
  show HT cx ⟨[(0, .agg [nC a0.1, nC a0.2.1, .dat (.sl tLI) a0.2.2]), (1, .agg [nC a1.1, nC a1.2.1, .dat (.sl tLI) a1.2.2])], [], 0⟩ _ _
  refine HT.rg2 (oHs 3) ⟨[(2, pV 0 0), (3, pV 1 0)], [(1, .box [nC a1.1, nC a1.2.1, .dat (.sl tLI) a1.2.2]), (0, .box [nC a0.1, nC a0.2.1, .dat (.sl tLI) a0.2.2])], 2⟩ hX (by kernel_rfl) allNil ?_
  refine HT.seq ?_
  obtain ⟨y1, hc2, hr⟩ := of_bind hr
  refine HT.rg2 [oH, oH, oH, oH, ⟨none, .call [.imm tLI, .imm tLI] [⟨false, .bool, y1⟩] []⟩, oH] ⟨[(2, pV 0 0), (3, pV 1 0), (10, bV (!y1))], [(1, .box [nC a1.1, nC a1.2.1, .dat (.sl tLI) a1.2.2]), (0, .box [nC a0.1, nC a0.2.1, .dat (.sl tLI) a0.2.2])], 2⟩ hX (by kernel_rfl) (allCons (f20_ok hc2) allNil) ?_
  rcases of_bif hr with ⟨hb3, hr⟩ | ⟨hb3, hr⟩
  · refine HT.cond1 rfl hb3 ?_
    refine HT.rg2 [oH] ⟨[(4, bV false)], [], 2⟩ hX (by kernel_rfl) allNil ?_
    have hr := of_some hr
    subst hr
    exact HT.ret (qThenR ⟨[bV false], [], [], by kernel_rfl, by kernel_rfl, rfl, by kernel_rfl, by kernel_rfl, trivial⟩)
  · refine HT.cond0 rfl hb3 ?_
    refine HT.skip (qThen ?_)
    refine HT.seq ?_
    obtain ⟨y4, hc5, hr⟩ := of_bind hr
    refine HT.rg2 [oH, oH, oH, oH, ⟨none, .call [.imm tLI, .imm tLI] [⟨false, .bool, y4⟩] []⟩, oH] ⟨[(2, pV 0 0), (3, pV 1 0), (16, bV (!y4))], [(1, .box [nC a1.1, nC a1.2.1, .dat (.sl tLI) a1.2.2]), (0, .box [nC a0.1, nC a0.2.1, .dat (.sl tLI) a0.2.2])], 2⟩ hX (by kernel_rfl) (allCons (f20_ok hc5) allNil) ?_
    rcases of_bif hr with ⟨hb6, hr⟩ | ⟨hb6, hr⟩
    · refine HT.cond1 rfl hb6 ?_
      refine HT.rg2 [oH] ⟨[(4, bV false)], [], 2⟩ hX (by kernel_rfl) allNil ?_
      have hr := of_some hr
      subst hr
      exact HT.ret (qThenR ⟨[bV false], [], [], by kernel_rfl, by kernel_rfl, rfl, by kernel_rfl, by kernel_rfl, trivial⟩)
    · refine HT.cond0 rfl hb6 ?_
      refine HT.skip (qThen ?_)
      refine HT.seq ?_
      obtain ⟨y7, hc8, hr⟩ := of_bind hr
      refine HT.rg2 [oH, oH, oH, oH, ⟨none, .call [.imm (.sl tLI), .imm (.sl tLI)] [⟨false, .bool, y7⟩] []⟩, oH] ⟨[(22, bV (!y7))], [], 2⟩ hX (by kernel_rfl) (allCons (f29_ok hc8) allNil) ?_
      rcases of_bif hr with ⟨hb9, hr⟩ | ⟨hb9, hr⟩
      · refine HT.cond1 rfl hb9 ?_
        refine HT.rg2 [oH] ⟨[(4, bV false)], [], 2⟩ hX (by kernel_rfl) allNil ?_
        have hr := of_some hr
        subst hr
        exact HT.ret (qThenR ⟨[bV false], [], [], by kernel_rfl, by kernel_rfl, rfl, by kernel_rfl, by kernel_rfl, trivial⟩)
      · refine HT.cond0 rfl hb9 ?_
        refine HT.skip (qThen ?_)
        refine HT.rg2 [oH] ⟨[(4, bV true)], [], 2⟩ hX (by kernel_rfl) allNil ?_
        have hr := of_some hr
        subst hr
        exact HT.ret ⟨[bV true], [], [], by kernel_rfl, by kernel_rfl, rfl, by kernel_rfl, by kernel_rfl, trivial⟩

noncomputable def laws_FnExactIsWinning (a0 : List Int × List Int × List (List Int)) (a1 : List Int) (a2 : List Int) : Option (Bool) :=
  bif (decide ((lenI a1) > (1048576 : Int))) then
    some true
  else
    bif (decide ((lenI a2) > (1048576 : Int))) then
      some true
    else
      (laws_szGame (a0.1, a0.2.1, a0.2.2) (1048576 : Int)).bind fun y3 =>
      bif (decide (y3 < (0 : Int))) then
        some true
      else
        (laws_toGame (a0.1, a0.2.1, a0.2.2)).bind fun y6 =>
        (laws_toInt64S a1).bind fun y8 =>
        (laws_toInt64S a2).bind fun y10 =>
        (spec_IsWinning (y6.1, y6.2.1, y6.2.2) y8 y10).bind fun y12 =>
        (laws_toGame (a0.1, a0.2.1, a0.2.2)).bind fun y14 =>
        (laws_toInt64S a1).bind fun y16 =>
        (laws_toInt64S a2).bind fun y18 =>
        (impl_IsWinning (y14.1, y14.2.1, y14.2.2) y16 y18).bind fun y20 =>
        bif (y20 != y12) then
          some false
        else
          (laws_toGame (a0.1, a0.2.1, a0.2.2)).bind fun y23 =>
          (laws_eqGame (y14.1, y14.2.1, y14.2.2) (y23.1, y23.2.1, y23.2.2)).bind fun y25 =>
          bif (!y25) then
            some false
          else
            (laws_toInt64S a1).bind fun y28 =>
            (laws_eqInt64S y16 y28).bind fun y30 =>
            bif (!y30) then
              some false
            else
              (laws_toInt64S a2).bind fun y33 =>
              (laws_eqInt64S y18 y33).bind fun y35 =>
              bif (!y35) then
                some false
              else
                some true

theorem f7_ok {a0 : List Int × List Int × List (List Int)} {a1 : List Int} {a2 : List Int} {r : Bool} (hr : laws_FnExactIsWinning a0 a1 a2 = some r) : CallOK Try.prog 7 [.imm (.st (.pair tLI (.pair tLI (.sl tLI)))) a0, .imm tLI a1, .imm tLI a2] [⟨false, .bool, r⟩] [] := by
  unfold laws_FnExactIsWinning at hr
  refine CallOK.of_body (ts := [(false, .bool)]) Try.func7 rfl (by kernel_rfl) (Nat.le_of_ble_eq_true (by kernel_rfl)) fun cx hP hN hO hF => ?_
  have hO : cx.own.map Prod.fst = [] := hO
  have hX := CxIs.mk hP hN hO
  have hF := hF rfl
  show HT cx ⟨[(0, .agg [nC a0.1, nC a0.2.1, .dat (.sl tLI) a0.2.2]), (1, nV a1), (2, nV a2)], [], 0⟩ _ _
  refine HT.rg2 (oHs 2) ⟨[(1, nV a1), (2, nV a2), (3, pV 0 0)], [(0, .box [nC a0.1, nC a0.2.1, .dat (.sl tLI) a0.2.2])], 1⟩ hX (by kernel_rfl) allNil ?_
  refine HT.seq ?_
  refine HT.rg2 (oHs 3) ⟨[(1, nV a1), (2, nV a2), (3, pV 0 0), (15, bV (decide ((lenI a1) > (1048576 : Int))))], [(0, .box [nC a0.1, nC a0.2.1, .dat (.sl tLI) a0.2.2])], 1⟩ hX (by kernel_rfl) allNil ?_
  rcases of_bif hr with ⟨hb1, hr⟩ | ⟨hb1, hr⟩
  · refine HT.cond1 rfl hb1 ?_
    refine HT.rg2 [oH] ⟨[(6, bV true)], [], 1⟩ hX (by kernel_rfl) allNil ?_
    have hr := of_some hr
    subst hr
    exact HT.ret (qThenR ⟨[bV true], [], [], by kernel_rfl, by kernel_rfl, rfl, by kernel_rfl, by kernel_rfl, trivial⟩)
  · refine HT.cond0 rfl hb1 ?_
    refine HT.skip (qThen ?_)
    refine HT.seq ?_
    refine HT.rg2 (oHs 3) ⟨[(1, nV a1), (2, nV a2), (3, pV 0 0), (18, bV (decide ((lenI a2) > (1048576 : Int))))], [(0, .box [nC a0.1, nC a0.2.1, .dat (.sl tLI) a0.2.2])], 1⟩ hX (by kernel_rfl) allNil ?_
    rcases of_bif hr with ⟨hb2, hr⟩ | ⟨hb2, hr⟩
    · refine HT.cond1 rfl hb2 ?_
      refine HT.rg2 [oH] ⟨[(6, bV true)], [], 1⟩ hX (by kernel_rfl) allNil ?_
      have hr := of_some hr
      subst hr
      exact HT.ret (qThenR ⟨[bV true], [], [], by kernel_rfl, by kernel_rfl, rfl, by kernel_rfl, by kernel_rfl, trivial⟩)
    · refine HT.cond0 rfl hb2 ?_
      refine HT.skip (qThen ?_)
      refine HT.rg2 [oH] ⟨[(1, nV a1), (2, nV a2), (3, pV 0 0), (7, iV (1048576 : Int))], [(0, .box [nC a0.1, nC a0.2.1, .dat (.sl tLI) a0.2.2])], 1⟩ hX (by kernel_rfl) allNil ?_
      obtain ⟨y3, hc4, hr⟩ := of_bind hr
      refine HT.rg2 [oH, oH, ⟨none, .call [.imm (.st (.pair tLI (.pair tLI (.sl tLI)))), .imm tI] [⟨false, tI, y3⟩] []⟩, oH] ⟨[(1, nV a1), (2, nV a2), (3, pV 0 0), (7, iV y3)], [(0, .box [nC a0.1, nC a0.2.1, .dat (.sl tLI) a0.2.2])], 1⟩ hX (by kernel_rfl) (allCons (f10_ok hc4) allNil) ?_
      refine HT.seq ?_
      refine HT.rg2 (oHs 2) ⟨[(1, nV a1), (2, nV a2), (3, pV 0 0), (23, bV (decide (y3 < (0 : Int))))], [(0, .box [nC a0.1, nC a0.2.1, .dat (.sl tLI) a0.2.2])], 1⟩ hX (by kernel_rfl) allNil ?_
      rcases of_bif hr with ⟨hb5, hr⟩ | ⟨hb5, hr⟩
      · refine HT.cond1 rfl hb5 ?_
        refine HT.rg2 [oH] ⟨[(6, bV true)], [], 1⟩ hX (by kernel_rfl) allNil ?_
        have hr := of_some hr
        subst hr
        exact HT.ret (qThenR ⟨[bV true], [], [], by kernel_rfl, by kernel_rfl, rfl, by kernel_rfl, by kernel_rfl, trivial⟩)
      · refine HT.cond0 rfl hb5 ?_
        refine HT.skip (qThen ?_)
        obtain ⟨y6, hc7, hr⟩ := of_bind hr
        obtain ⟨y8, hc9, hr⟩ := of_bind hr
        obtain ⟨y10, hc11, hr⟩ := of_bind hr
        obtain ⟨y12, hc13, hr⟩ := of_bind hr
        refine HT.rg2 [oH, ⟨none, .call [.imm (.st (.pair tLI (.pair tLI (.sl tLI))))] [⟨true, (.st (.pair tLI (.pair tLI (.sl (.own tI))))), y6⟩] []⟩, oH, ⟨none, .call [.imm tLI] [⟨true, tLI, y8⟩] []⟩, oH, ⟨none, .call [.imm tLI] [⟨true, tLI, y10⟩] []⟩, ⟨none, .call [.imm (.st (.pair tLI (.pair tLI (.sl tLI)))), .imm tLI, .imm tLI] [⟨false, .bool, y12⟩] []⟩, oH] ⟨[(1, nV a1), (2, nV a2), (3, pV 0 0), (8, bV y12)], [(0, .box [nC a0.1, nC a0.2.1, .dat (.sl tLI) a0.2.2])], 6⟩ hX (by kernel_rfl) (allCons (f12_ok hc7) (allCons (f18_ok hc9) (allCons (f18_ok hc11) (allCons (f34_ok hc13) allNil)))) ?_
        obtain ⟨y14, hc15, hr⟩ := of_bind hr
        refine HT.rg2 [oH, ⟨none, .call [.imm (.st (.pair tLI (.pair tLI (.sl tLI))))] [⟨true, (.st (.pair tLI (.pair tLI (.sl (.own tI))))), y14⟩] []⟩, oH, oH] ⟨[(1, nV a1), (2, nV a2), (3, pV 0 0), (8, bV y12), (9, pV 9 0)], [(9, .box [.all 6, .all 7, .all 8]), (6, .seq tI y14.1), (7, .seq tI y14.2.1), (8, .seq (.own tI) y14.2.2), (0, .box [nC a0.1, nC a0.2.1, .dat (.sl tLI) a0.2.2])], 10⟩ hX (by kernel_rfl) (allCons (f12_ok hc15) allNil) ?_
        obtain ⟨y16, hc17, hr⟩ := of_bind hr
        refine HT.rg2 [oH, ⟨none, .call [.imm tLI] [⟨true, tLI, y16⟩] []⟩, oH] ⟨[(1, nV a1), (2, nV a2), (3, pV 0 0), (8, bV y12), (9, pV 9 0), (10, aV 10)], [(10, .seq tI y16), (9, .box [.all 6, .all 7, .all 8]), (6, .seq tI y14.1), (7, .seq tI y14.2.1), (8, .seq (.own tI) y14.2.2), (0, .box [nC a0.1, nC a0.2.1, .dat (.sl tLI) a0.2.2])], 11⟩ hX (by kernel_rfl) (allCons (f18_ok hc17) allNil) ?_
        obtain ⟨y18, hc19, hr⟩ := of_bind hr
        refine HT.rg2 [oH, ⟨none, .call [.imm tLI] [⟨true, tLI, y18⟩] []⟩, oH] ⟨[(1, nV a1), (2, nV a2), (3, pV 0 0), (8, bV y12), (9, pV 9 0), (10, aV 10), (11, aV 11)], [(11, .seq tI y18), (10, .seq tI y16), (9, .box [.all 6, .all 7, .all 8]), (6, .seq tI y14.1), (7, .seq tI y14.2.1), (8, .seq (.own tI) y14.2.2), (0, .box [nC a0.1, nC a0.2.1, .dat (.sl tLI) a0.2.2])], 12⟩ hX (by kernel_rfl) (allCons (f18_ok hc19) allNil) ?_
        obtain ⟨y20, hc21, hr⟩ := of_bind hr
        refine HT.rg2 [oH, oH, oH, ⟨none, .call [.imm (.st (.pair tLI (.pair tLI (.sl tLI)))), .imm tLI, .imm tLI] [⟨false, .bool, y20⟩] []⟩, oH] ⟨[(1, nV a1), (2, nV a2), (3, pV 0 0), (8, bV y12), (9, pV 9 0), (10, aV 10), (11, aV 11), (12, bV y20)], [(11, .seq tI y18), (10, .seq tI y16), (9, .box [.all 6, .all 7, .all 8]), (6, .seq tI y14.1), (7, .seq tI y14.2.1), (8, .seq (.own tI) y14.2.2), (0, .box [nC a0.1, nC a0.2.1, .dat (.sl tLI) a0.2.2])], 12⟩ hX (by kernel_rfl) (allCons (f35_ok hc21) allNil) ?_
        refine HT.seq ?_
        refine HT.rg2 (oHs 3) ⟨[(1, nV a1), (2, nV a2), (3, pV 0 0), (9, pV 9 0), (10, aV 10), (11, aV 11), (43, bV (y20 != y12))], [(11, .seq tI y18), (10, .seq tI y16), (9, .box [.all 6, .all 7, .all 8]), (6, .seq tI y14.1), (7, .seq tI y14.2.1), (8, .seq (.own tI) y14.2.2), (0, .box [nC a0.1, nC a0.2.1, .dat (.sl tLI) a0.2.2])], 12⟩ hX (by kernel_rfl) allNil ?_
        rcases of_bif hr with ⟨hb22, hr⟩ | ⟨hb22, hr⟩
        · refine HT.cond1 rfl hb22 ?_
          refine HT.rg2 [oH] ⟨[(6, bV false)], [], 12⟩ hX (by kernel_rfl) allNil ?_
          have hr := of_some hr
          subst hr
          exact HT.ret (qThenR ⟨[bV false], [], [], by kernel_rfl, by kernel_rfl, rfl, by kernel_rfl, by kernel_rfl, trivial⟩)
        · refine HT.cond0 rfl hb22 ?_
          refine HT.skip (qThen ?_)
          refine HT.seq ?_
          obtain ⟨y23, hc24, hr⟩ := of_bind hr
          obtain ⟨y25, hc26, hr⟩ := of_bind hr
          refine HT.dr2 3 [⟨oH, []⟩, ⟨oH, []⟩, ⟨⟨none, .call [.imm (.st (.pair tLI (.pair tLI (.sl tLI))))] [⟨true, (.st (.pair tLI (.pair tLI (.sl (.own tI))))), y23⟩] []⟩, [1]⟩] [[0, 1, 2], [0, 1, 2, 3]] [⟨none, .call [.imm (.st (.pair tLI (.pair tLI (.sl tLI)))), .imm (.st (.pair tLI (.pair tLI (.sl tLI))))] [⟨false, .bool, y25⟩] []⟩, oH] ⟨[(1, nV a1), (2, nV a2), (10, aV 10), (11, aV 11), (48, bV (!y25))], [(11, .seq tI y18), (10, .seq tI y16)], 15⟩ hX (by kernel_rfl) (by kernel_rfl) (allCons (f12_ok hc24) (allCons (f14_ok hc26) allNil)) ?_
          rcases of_bif hr with ⟨hb27, hr⟩ | ⟨hb27, hr⟩
          · refine HT.cond1 rfl hb27 ?_
            refine HT.rg2 [oH] ⟨[(6, bV false)], [], 15⟩ hX (by kernel_rfl) allNil ?_
            have hr := of_some hr
            subst hr
            exact HT.ret (qThenR ⟨[bV false], [], [], by kernel_rfl, by kernel_rfl, rfl, by kernel_rfl, by kernel_rfl, trivial⟩)
          · refine HT.cond0 rfl hb27 ?_
            refine HT.skip (qThen ?_)
            refine HT.seq ?_
            obtain ⟨y28, hc29, hr⟩ := of_bind hr
            obtain ⟨y30, hc31, hr⟩ := of_bind hr
            refine HT.rg2 [oH, oH, ⟨none, .call [.imm tLI] [⟨true, tLI, y28⟩] []⟩, ⟨none, .call [.imm tLI, .imm tLI] [⟨false, .bool, y30⟩] []⟩, oH] ⟨[(2, nV a2), (11, aV 11), (53, bV (!y30))], [(11, .seq tI y18)], 16⟩ hX (by kernel_rfl) (allCons (f18_ok hc29) (allCons (f20_ok hc31) allNil)) ?_
            rcases of_bif hr with ⟨hb32, hr⟩ | ⟨hb32, hr⟩
            · refine HT.cond1 rfl hb32 ?_
              refine HT.rg2 [oH] ⟨[(6, bV false)], [], 16⟩ hX (by kernel_rfl) allNil ?_
              have hr := of_some hr
              subst hr
              exact HT.ret (qThenR ⟨[bV false], [], [], by kernel_rfl, by kernel_rfl, rfl, by kernel_rfl, by kernel_rfl, trivial⟩)
            · refine HT.cond0 rfl hb32 ?_
              refine HT.skip (qThen ?_)
              refine HT.seq ?_
              obtain ⟨y33, hc34, hr⟩ := of_bind hr
              obtain ⟨y35, hc36, hr⟩ := of_bind hr
              refine HT.rg2 [oH, oH, ⟨none, .call [.imm tLI] [⟨true, tLI, y33⟩] []⟩, ⟨none, .call [.imm tLI, .imm tLI] [⟨false, .bool, y35⟩] []⟩, oH] ⟨[(58, bV (!y35))], [], 17⟩ hX (by kernel_rfl) (allCons (f18_ok hc34) (allCons (f20_ok hc36) allNil)) ?_
              rcases of_bif hr with ⟨hb37, hr⟩ | ⟨hb37, hr⟩
              · refine HT.cond1 rfl hb37 ?_
                refine HT.rg2 [oH] ⟨[(6, bV false)], [], 17⟩ hX (by kernel_rfl) allNil ?_
                have hr := of_some hr
                subst hr
                exact HT.ret (qThenR ⟨[bV false], [], [], by kernel_rfl, by kernel_rfl, rfl, by kernel_rfl, by kernel_rfl, trivial⟩)
              · refine HT.cond0 rfl hb37 ?_
                refine HT.skip (qThen ?_)
                refine HT.rg2 [oH] ⟨[(6, bV true)], [], 17⟩ hX (by kernel_rfl) allNil ?_
                have hr := of_some hr
                subst hr
                exact HT.ret ⟨[bV true], [], [], by kernel_rfl, by kernel_rfl, rfl, by kernel_rfl, by kernel_rfl, trivial⟩

end Go.Proofs
