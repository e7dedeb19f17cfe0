import Derived.Test.YthilbincoogfkaaLibC
import Derived.Test.YthilbincoogfkaaProg
set_option linter.unusedVariables false
set_option linter.unusedSimpArgs false
set_option linter.unusedSectionVars false
/-
  Functions as plain functions, and their contracts. Printed by a program.
-/
namespace Go.Proofs
open Go.Ide

noncomputable def spec_l07Name_B1 (a0 : List UInt8) (s1 : Int) : Option ((Int) ⊕ (Unit ⊕ Unit)) :=
  bif (decide (s1 < (lenI a0))) then
    (show Option (Bool) from
      guardP ((0 : Int) ≤ s1 ∧ s1 < lenI a0) (
        bif (decide (((((List.getD a0 (Int.toNat s1) 0 : UInt8).toNat : Nat)) : Int) < (97 : Int))) then
          some true
        else
          some (decide (((((List.getD a0 (Int.toNat s1) 0 : UInt8).toNat : Nat)) : Int) > (122 : Int))))).bind fun v13 =>
    bif v13 then
      some (.inr (.inr ()))
    else
      some (.inl (wadd .i64 s1 (1 : Int)))
  else
    some (.inr (.inl ()))

noncomputable def spec_l07Name (a0 : List UInt8) : Option (Bool) :=
  (rounds (spec_l07Name_B1 a0) (0 : Int)).bind fun r2 => match r2 with
    | .inl r3 =>
      (show Option (Bool) from
        bif (decide ((lenI a0) ≥ (1 : Int))) then
          some (decide ((lenI a0) ≤ (8 : Int)))
        else
          some false).bind fun v4 =>
      some v4
    | .inr r8 =>
      some false

theorem f119_ok {a0 : List UInt8} {r : Bool} (hr : spec_l07Name a0 = some r) : CallOK Try.prog 119 [.imm .str a0] [⟨false, .bool, r⟩] [] := by
  unfold spec_l07Name at hr
  refine CallOK.of_body (ts := [(false, .bool)]) Try.func119 rfl (by kernel_rfl) (Nat.le_of_ble_eq_true (by kernel_rfl)) fun cx hP hN hO hF => ?_
  have hO : cx.own.map Prod.fst = [] := hO
  have hX := CxIs.mk hP hN hO
  have hF := hF rfl
  show HT cx ⟨[(0, .one (.dat .str a0))], [], 0⟩ _ _
  refine HT.rg2 [oH] ⟨[(0, .one (.dat .str a0))], [], 0⟩ hX (by kernel_rfl) allNil ?_
  refine HT.seq ?_
  refine HT.rg2 [oH] ⟨[(0, .one (.dat .str a0)), (3, iV (0 : Int))], [], 0⟩ hX (by kernel_rfl) allNil ?_
  refine HT.block ?_
  obtain ⟨r2, hL19, hr⟩ := of_bind hr
  refine HT.loopL (fun (s1 : Int) => ⟨[(0, .one (.dat .str a0)), (3, iV s1)], [], 0⟩) (fun (r2 : Unit ⊕ Unit) => match r2 with | .inl r3 => (.exit 0, ⟨[(0, .one (.dat .str a0))], [], 0⟩) | .inr r8 => (.ret, ⟨[(2, bV false)], [], 0⟩)) (Le.re [] [] hX (by kernel_rfl)) hL19 ?_ (fun s1 x9 hx10 hk11 => ?_)
  · rcases r2 with r3 | r8
    · refine (qBlockX (qThen ?_))
      obtain ⟨v4', hT6, hr⟩ := of_bind hr
      refine HT.join (fun (v4 : Bool) => ⟨[(2, bV v4)], [], 0⟩) (fun v => v = v4') (fun v4 hv5 => ?_) (fun cont => ?_)
      · subst hv5
        have hr := of_some hr
        subst hr
        exact HT.ret ⟨[bV v4], [], [], by kernel_rfl, by kernel_rfl, rfl, by kernel_rfl, by kernel_rfl, trivial⟩
      · rcases of_bif hT6 with ⟨hb7, hT6⟩ | ⟨hb7, hT6⟩
        · exact HT.rgK [oH, oH, oH, oH, ⟨some true, .no⟩, ⟨some true, .no⟩, ⟨some true, .no⟩, ⟨none, .tv true⟩, oH] [] [] hX (by kernel_rfl) (allCons hb7 (allCons hb7 (allCons hb7 (allCons hb7 allNil)))) (fun _ h => (qThen (h.ht (cont (decide ((lenI a0) ≤ (8 : Int))) (of_some hT6)))))
        · exact HT.rgK [oH, oH, oH, oH, ⟨some false, .no⟩, ⟨some false, .no⟩, ⟨some false, .no⟩, ⟨none, .tv false⟩, oH] [] [] hX (by kernel_rfl) (allCons hb7 (allCons hb7 (allCons hb7 (allCons hb7 allNil)))) (fun _ h => (qThen (h.ht (cont false (of_some hT6)))))
    · have hr := of_some hr
      subst hr
      exact (qBlockR (qThenR ⟨[bV false], [], [], by kernel_rfl, by kernel_rfl, rfl, by kernel_rfl, by kernel_rfl, trivial⟩))
  · refine HT.seq ?_
    refine HT.rg2 (oHs 4) ⟨[(0, .one (.dat .str a0)), (3, iV s1), (7, bV (decide (s1 < (lenI a0))))], [], 0⟩ hX (by kernel_rfl) allNil ?_
    rcases of_bif hx10 with ⟨hb12, hx10⟩ | ⟨hb12, hx10⟩
    · refine HT.cond1 rfl hb12 ?_
      refine HT.skip (qThen ?_)
      refine HT.seq ?_
      refine HT.block ?_
      obtain ⟨v13', hT15, hx10⟩ := of_bind hx10
      refine HT.join (fun (v13 : Bool) => ⟨[(0, .one (.dat .str a0)), (3, iV s1), (19, bV v13)], [], 0⟩) (fun v => v = v13') (fun v13 hv14 => ?_) (fun cont => ?_)
      · subst hv14
        rcases of_bif hx10 with ⟨hb16, hx10⟩ | ⟨hb16, hx10⟩
        · refine HT.cond1 rfl hb16 ?_
          refine HT.rg2 [oH] ⟨[(2, bV false)], [], 0⟩ hX (by kernel_rfl) allNil ?_
          have hx10 := of_some hx10
          subst hx10
          exact HT.retL (Le.re [] [] hX (by kernel_rfl)) (qBlockR (qThenR (qLoopR (hk11 (.inr ()) rfl))))
        · refine HT.cond0 rfl hb16 ?_
          refine HT.skip (qBlock (qThen ?_))
          have hx10 := of_some hx10
          subst hx10
          exact HT.rgK (oHs 3) [] [] hX (by kernel_rfl) allNil (fun _ h => (qLoopN ⟨(wadd .i64 s1 (1 : Int)), rfl, h⟩))
      · obtain ⟨hg17, hT15⟩ := of_guard hT15
        rcases of_bif hT15 with ⟨hb18, hT15⟩ | ⟨hb18, hT15⟩
        · exact HT.rgK [oH, oH, oH, oH, oH, ⟨some true, .no⟩, ⟨some true, .no⟩, ⟨some true, .no⟩, ⟨some true, .no⟩, ⟨none, .tv true⟩] [] [] hX (by kernel_rfl) (allCons hg17 (allCons hb18 (allCons hb18 (allCons hb18 (allCons hb18 (allCons hb18 allNil)))))) (fun _ h => (qThen (h.ht (cont true (of_some hT15)))))
        · exact HT.rgK [oH, oH, oH, oH, oH, ⟨some false, .no⟩, ⟨some false, .no⟩, ⟨some false, .no⟩, ⟨some false, .no⟩, ⟨none, .tv false⟩] [] [] hX (by kernel_rfl) (allCons hg17 (allCons hb18 (allCons hb18 (allCons hb18 (allCons hg17 (allCons hb18 (allCons hb18 allNil))))))) (fun _ h => (qThen (h.ht (cont (decide (((((List.getD a0 (Int.toNat s1) 0 : UInt8).toNat : Nat)) : Int) > (122 : Int))) (of_some hT15)))))
    · refine HT.cond0 rfl hb12 ?_
      have hx10 := of_some hx10
      subst hx10
      exact HT.exitL (Le.re [] [] hX (by kernel_rfl)) (qThenE (qLoopE (hk11 (.inl ()) rfl)))

noncomputable def spec_l00In (a0 : Int) (a1 : Int) (a2 : Int) : Option (Bool) :=
  (show Option (Bool) from
    bif (decide (a0 ≥ a1)) then
      some (decide (a0 ≤ a2))
    else
      some false).bind fun v1 =>
  some v1

theorem f52_ok {a0 : Int} {a1 : Int} {a2 : Int} {r : Bool} (hr : spec_l00In a0 a1 a2 = some r) : CallOK Try.prog 52 [.imm tI a0, .imm tI a1, .imm tI a2] [⟨false, .bool, r⟩] [] := by
  unfold spec_l00In at hr
  refine CallOK.of_body (ts := [(false, .bool)]) Try.func52 rfl (by kernel_rfl) (Nat.le_of_ble_eq_true (by kernel_rfl)) fun cx hP hN hO hF => ?_
  have hO : cx.own.map Prod.fst = [] := hO
  have hX := CxIs.mk hP hN hO
  have hF := hF rfl
  show HT cx ⟨[(0, iV a0), (1, iV a1), (2, iV a2)], [], 0⟩ _ _
  refine HT.rg2 [oH] ⟨[(0, iV a0), (1, iV a1), (2, iV a2)], [], 0⟩ hX (by kernel_rfl) allNil ?_
  obtain ⟨v1', hT3, hr⟩ := of_bind hr
  refine HT.join (fun (v1 : Bool) => ⟨[(6, bV v1)], [], 0⟩) (fun v => v = v1') (fun v1 hv2 => ?_) (fun cont => ?_)
  · subst hv2
    have hr := of_some hr
    subst hr
    exact HT.ret ⟨[bV v1], [], [], by kernel_rfl, by kernel_rfl, rfl, by kernel_rfl, by kernel_rfl, trivial⟩
  · rcases of_bif hT3 with ⟨hb4, hT3⟩ | ⟨hb4, hT3⟩
    · exact HT.rgK [oH, oH, oH, oH, ⟨some true, .no⟩, ⟨some true, .no⟩, ⟨some true, .no⟩, ⟨none, .tv true⟩, oH] [] [] hX (by kernel_rfl) (allCons hb4 (allCons hb4 (allCons hb4 (allCons hb4 allNil)))) (fun _ h => (qThen (h.ht (cont (decide (a0 ≤ a2)) (of_some hT3)))))
    · exact HT.rgK [oH, oH, oH, oH, ⟨some false, .no⟩, ⟨some false, .no⟩, ⟨some false, .no⟩, ⟨none, .tv false⟩, oH] [] [] hX (by kernel_rfl) (allCons hb4 (allCons hb4 (allCons hb4 (allCons hb4 allNil)))) (fun _ h => (qThen (h.ht (cont false (of_some hT3)))))

noncomputable def spec_l02Plain_B1 (a0 : Int × Int × List Int × List Bool) (s5 : Int) : Option ((Int) ⊕ (Unit ⊕ Unit)) :=
  bif (decide (s5 < (lenI a0.2.2.1))) then
    guardP ((0 : Int) ≤ s5 ∧ s5 < lenI a0.2.2.1) (
      (spec_l00In (List.getD a0.2.2.1 (Int.toNat s5) (0 : Int)) (0 : Int) (wsub .i64 a0.1 (1 : Int))).bind fun y14 =>
      bif (!y14) then
        some (.inr (.inr ()))
      else
        some (.inl (wadd .i64 s5 (1 : Int))))
  else
    some (.inr (.inl ()))

noncomputable def spec_l02Plain (a0 : Int × Int × List Int × List Bool) : Option (Bool) :=
  (show Option (Bool) from
    (spec_l00In a0.1 (1 : Int) (64 : Int)).bind fun y18 =>
    bif (!y18) then
      some true
    else
      (spec_l00In a0.2.1 (1 : Int) (4 : Int)).bind fun y21 =>
      bif (!y21) then
        some true
      else
        bif ((lenI a0.2.2.1) != (wmul .i64 a0.1 a0.2.1)) then
          some true
        else
          some ((lenI a0.2.2.2) != a0.1)).bind fun v1 =>
  bif v1 then
    some false
  else
    (rounds (spec_l02Plain_B1 a0) (0 : Int)).bind fun r6 => match r6 with
      | .inl r7 =>
        some true
      | .inr r8 =>
        some false

theorem f120_ok {a0 : Int × Int × List Int × List Bool} {r : Bool} (hr : spec_l02Plain a0 = some r) : CallOK Try.prog 120 [.pimm (.st (.pair tI (.pair tI (.pair tLI (.sl .bool))))) a0] [⟨false, .bool, r⟩] [] := by
  unfold spec_l02Plain at hr
  refine CallOK.of_body (ts := [(false, .bool)]) Try.func120 rfl (by kernel_rfl) (Nat.le_of_ble_eq_true (by kernel_rfl)) fun cx hP hN hO hF => ?_
  have hO : cx.own.map Prod.fst = [] := hO
  have hX := CxIs.mk hP hN hO
  have hF := hF rfl
  show HT cx ⟨[(0, .one (.ip (.st (.pair tI (.pair tI (.pair tLI (.sl .bool))))) a0 0))], [], 0⟩ _ _
  refine HT.rg2 [oH] ⟨[(0, .one (.ip (.st (.pair tI (.pair tI (.pair tLI (.sl .bool))))) a0 0))], [], 0⟩ hX (by kernel_rfl) allNil ?_
  refine HT.seq ?_
  obtain ⟨v1', hT3, hr⟩ := of_bind hr
  refine HT.join (fun (v1 : Bool) => ⟨[(0, .one (.ip (.st (.pair tI (.pair tI (.pair tLI (.sl .bool))))) a0 0)), (46, bV v1)], [], 0⟩) (fun v => v = v1') (fun v1 hv2 => ?_) (fun cont => ?_)
  · subst hv2
    rcases of_bif hr with ⟨hb4, hr⟩ | ⟨hb4, hr⟩
    · refine HT.cond1 rfl hb4 ?_
      refine HT.rg2 [oH] ⟨[(2, bV false)], [], 0⟩ hX (by kernel_rfl) allNil ?_
      have hr := of_some hr
      subst hr
      exact HT.ret (qThenR ⟨[bV false], [], [], by kernel_rfl, by kernel_rfl, rfl, by kernel_rfl, by kernel_rfl, trivial⟩)
    · refine HT.cond0 rfl hb4 ?_
      refine HT.skip (qThen ?_)
      refine HT.seq ?_
      refine HT.rg2 [oH] ⟨[(0, .one (.ip (.st (.pair tI (.pair tI (.pair tLI (.sl .bool))))) a0 0)), (3, iV (0 : Int))], [], 0⟩ hX (by kernel_rfl) allNil ?_
      refine HT.block ?_
      obtain ⟨r6, hL17, hr⟩ := of_bind hr
      refine HT.loopL (fun (s5 : Int) => ⟨[(0, .one (.ip (.st (.pair tI (.pair tI (.pair tLI (.sl .bool))))) a0 0)), (3, iV s5)], [], 0⟩) (fun (r6 : Unit ⊕ Unit) => match r6 with | .inl r7 => (.exit 0, ⟨[], [], 0⟩) | .inr r8 => (.ret, ⟨[(2, bV false)], [], 0⟩)) (Le.re [] [] hX (by kernel_rfl)) hL17 ?_ (fun s5 x9 hx10 hk11 => ?_)
      · rcases r6 with r7 | r8
        · refine (qBlockX (qThen ?_))
          refine HT.rg2 [oH] ⟨[(2, bV true)], [], 0⟩ hX (by kernel_rfl) allNil ?_
          have hr := of_some hr
          subst hr
          exact HT.ret ⟨[bV true], [], [], by kernel_rfl, by kernel_rfl, rfl, by kernel_rfl, by kernel_rfl, trivial⟩
        · have hr := of_some hr
          subst hr
          exact (qBlockR (qThenR ⟨[bV false], [], [], by kernel_rfl, by kernel_rfl, rfl, by kernel_rfl, by kernel_rfl, trivial⟩))
      · refine HT.seq ?_
        refine HT.rg2 (oHs 7) ⟨[(0, .one (.ip (.st (.pair tI (.pair tI (.pair tLI (.sl .bool))))) a0 0)), (3, iV s5), (53, bV (decide (s5 < (lenI a0.2.2.1))))], [], 0⟩ hX (by kernel_rfl) allNil ?_
        rcases of_bif hx10 with ⟨hb12, hx10⟩ | ⟨hb12, hx10⟩
        · refine HT.cond1 rfl hb12 ?_
          refine HT.skip (qThen ?_)
          refine HT.seq ?_
          refine HT.block ?_
          obtain ⟨hg13, hx10⟩ := of_guard hx10
          obtain ⟨y14, hc15, hx10⟩ := of_bind hx10
          refine HT.dr2 12 [⟨oH, []⟩, ⟨oH, [0]⟩, ⟨oH, [0, 1]⟩, ⟨oH, [0, 1, 2]⟩, ⟨oH, []⟩, ⟨oH, [0, 1, 2, 3, 4]⟩, ⟨oH, [0, 1, 2, 3, 4, 5]⟩, ⟨oH, []⟩, ⟨oH, [7]⟩, ⟨oH, [7, 8]⟩, ⟨oH, [7, 8, 9]⟩, ⟨oH, [7, 8, 9, 10]⟩] [[0, 1, 2, 3, 4, 5, 6, 7, 8, 9, 10, 11], [0, 1, 2, 3, 4, 5, 6, 7, 8, 9, 10, 11, 12]] [⟨none, .call [.imm tI, .imm tI, .imm tI] [⟨false, .bool, y14⟩] []⟩, oH] ⟨[(0, .one (.ip (.st (.pair tI (.pair tI (.pair tLI (.sl .bool))))) a0 0)), (3, iV s5), (69, bV (!y14))], [], 0⟩ hX (by kernel_rfl) (by kernel_rfl) (allCons hg13 (allCons (f52_ok hc15) allNil)) ?_
          rcases of_bif hx10 with ⟨hb16, hx10⟩ | ⟨hb16, hx10⟩
          · refine HT.cond1 rfl hb16 ?_
            refine HT.rg2 [oH] ⟨[(2, bV false)], [], 0⟩ hX (by kernel_rfl) allNil ?_
            have hx10 := of_some hx10
            subst hx10
            exact HT.retL (Le.re [] [] hX (by kernel_rfl)) (qBlockR (qThenR (qLoopR (hk11 (.inr ()) rfl))))
          · refine HT.cond0 rfl hb16 ?_
            refine HT.skip (qBlock (qThen ?_))
            have hx10 := of_some hx10
            subst hx10
            exact HT.rgK (oHs 3) [] [] hX (by kernel_rfl) allNil (fun _ h => (qLoopN ⟨(wadd .i64 s5 (1 : Int)), rfl, h⟩))
        · refine HT.cond0 rfl hb12 ?_
          have hx10 := of_some hx10
          subst hx10
          exact HT.exitL (Le.re [] [] hX (by kernel_rfl)) (qThenE (qLoopE (hk11 (.inl ()) rfl)))
  · obtain ⟨y18, hc19, hT3⟩ := of_bind hT3
    rcases of_bif hT3 with ⟨hb20, hT3⟩ | ⟨hb20, hT3⟩
    · exact HT.drK 41 [⟨oH, []⟩, ⟨oH, [0]⟩, ⟨oH, [0, 1]⟩, ⟨oH, [0, 1, 2]⟩, ⟨⟨none, .call [.imm tI, .imm tI, .imm tI] [⟨false, .bool, y18⟩] []⟩, [0, 1, 2, 3]⟩, ⟨oH, [0, 1, 2, 3, 4]⟩, ⟨oH, [0, 1, 2, 3, 4, 5]⟩, ⟨⟨some true, .no⟩, [0, 1, 2, 3, 4, 5, 6]⟩, ⟨⟨some true, .no⟩, [0, 1, 2, 3, 4, 5, 6, 7]⟩, ⟨⟨some true, .no⟩, [0, 1, 2, 3, 4, 5, 6, 7, 8]⟩, ⟨⟨some true, .no⟩, [0, 1, 2, 3, 4, 5, 6, 7, 8, 9]⟩, ⟨⟨some true, .no⟩, [0, 1, 2, 3, 4, 5, 6, 7, 8, 9, 10]⟩, ⟨⟨some true, .no⟩, [0, 1, 2, 3, 4, 5, 6, 7, 8, 9, 10, 11]⟩, ⟨⟨none, .tv true⟩, [0, 1, 2, 3, 4, 5, 6, 7, 8, 9, 10, 11, 12]⟩, ⟨oH, [0, 1, 2, 3, 4, 5, 6, 7, 8, 9, 10, 11, 12, 13]⟩, ⟨⟨some true, .no⟩, [0, 1, 2, 3, 4, 5, 6, 7, 8, 9, 10, 11, 12, 13, 14]⟩, ⟨⟨some true, .no⟩, [0, 1, 2, 3, 4, 5, 6, 7, 8, 9, 10, 11, 12, 13, 14, 15]⟩, ⟨⟨some true, .no⟩, [0, 1, 2, 3, 4, 5, 6, 7, 8, 9, 10, 11, 12, 13, 14, 15, 16]⟩, ⟨⟨some true, .no⟩, [0, 1, 2, 3, 4, 5, 6, 7, 8, 9, 10, 11, 12, 13, 14, 15, 16, 17]⟩, ⟨⟨some true, .no⟩, [0, 1, 2, 3, 4, 5, 6, 7, 8, 9, 10, 11, 12, 13, 14, 15, 16, 17, 18]⟩, ⟨⟨some true, .no⟩, [0, 1, 2, 3, 4, 5, 6, 7, 8, 9, 10, 11, 12, 13, 14]⟩, ⟨⟨some true, .no⟩, [0, 1, 2, 3, 4, 5, 6, 7, 8, 9, 10, 11, 12, 13, 14, 20]⟩, ⟨⟨some true, .no⟩, [0, 1, 2, 3, 4, 5, 6, 7, 8, 9, 10, 11, 12, 13, 14, 20, 21]⟩, ⟨⟨some true, .no⟩, [0, 1, 2, 3, 4, 5, 6, 7, 8, 9, 10, 11, 12, 13, 14, 20, 21, 22]⟩, ⟨⟨some true, .no⟩, [0, 1, 2, 3, 4, 5, 6, 7, 8, 9, 10, 11, 12, 13, 14]⟩, ⟨⟨some true, .no⟩, [0, 1, 2, 3, 4, 5, 6, 7, 8, 9, 10, 11, 12, 13, 14, 24]⟩, ⟨⟨some true, .no⟩, [0, 1, 2, 3, 4, 5, 6, 7, 8, 9, 10, 11, 12, 13, 14, 24, 25]⟩, ⟨⟨some true, .no⟩, [0, 1, 2, 3, 4, 5, 6, 7, 8, 9, 10, 11, 12, 13, 14, 24, 25, 26]⟩, ⟨⟨some true, .no⟩, [0, 1, 2, 3, 4, 5, 6, 7, 8, 9, 10, 11, 12, 13, 14, 20, 21, 22, 23, 24, 25, 26, 27]⟩, ⟨⟨some true, .no⟩, [0, 1, 2, 3, 4, 5, 6, 7, 8, 9, 10, 11, 12, 13, 14, 15, 16, 17, 18, 19, 20, 21, 22, 23, 24, 25, 26, 27, 28]⟩, ⟨⟨none, .tv true⟩, [0, 1, 2, 3, 4, 5, 6, 7, 8, 9, 10, 11, 12, 13, 14, 15, 16, 17, 18, 19, 20, 21, 22, 23, 24, 25, 26, 27, 28, 29]⟩, ⟨oH, [0, 1, 2, 3, 4, 5, 6, 7, 8, 9, 10, 11, 12, 13, 14, 15, 16, 17, 18, 19, 20, 21, 22, 23, 24, 25, 26, 27, 28, 29, 30]⟩, ⟨⟨some true, .no⟩, [0, 1, 2, 3, 4, 5, 6, 7, 8, 9, 10, 11, 12, 13, 14, 15, 16, 17, 18, 19, 20, 21, 22, 23, 24, 25, 26, 27, 28, 29, 30, 31]⟩, ⟨⟨some true, .no⟩, [0, 1, 2, 3, 4, 5, 6, 7, 8, 9, 10, 11, 12, 13, 14, 15, 16, 17, 18, 19, 20, 21, 22, 23, 24, 25, 26, 27, 28, 29, 30, 31, 32]⟩, ⟨⟨some true, .no⟩, [0, 1, 2, 3, 4, 5, 6, 7, 8, 9, 10, 11, 12, 13, 14, 15, 16, 17, 18, 19, 20, 21, 22, 23, 24, 25, 26, 27, 28, 29, 30, 31, 32, 33]⟩, ⟨⟨some true, .no⟩, [0, 1, 2, 3, 4, 5, 6, 7, 8, 9, 10, 11, 12, 13, 14, 15, 16, 17, 18, 19, 20, 21, 22, 23, 24, 25, 26, 27, 28, 29, 30, 31, 32, 33, 34]⟩, ⟨⟨some true, .no⟩, [0, 1, 2, 3, 4, 5, 6, 7, 8, 9, 10, 11, 12, 13, 14, 15, 16, 17, 18, 19, 20, 21, 22, 23, 24, 25, 26, 27, 28, 29, 30, 31, 32, 33, 34, 35]⟩, ⟨⟨some true, .no⟩, [0, 1, 2, 3, 4, 5, 6, 7, 8, 9, 10, 11, 12, 13, 14, 15, 16, 17, 18, 19, 20, 21, 22, 23, 24, 25, 26, 27, 28, 29, 30, 31]⟩, ⟨⟨some true, .no⟩, [0, 1, 2, 3, 4, 5, 6, 7, 8, 9, 10, 11, 12, 13, 14, 15, 16, 17, 18, 19, 20, 21, 22, 23, 24, 25, 26, 27, 28, 29, 30, 31, 37]⟩, ⟨⟨some true, .no⟩, [0, 1, 2, 3, 4, 5, 6, 7, 8, 9, 10, 11, 12, 13, 14, 15, 16, 17, 18, 19, 20, 21, 22, 23, 24, 25, 26, 27, 28, 29, 30, 31, 37, 38]⟩, ⟨⟨some true, .no⟩, [0, 1, 2, 3, 4, 5, 6, 7, 8, 9, 10, 11, 12, 13, 14, 15, 16, 17, 18, 19, 20, 21, 22, 23, 24, 25, 26, 27, 28, 29, 30, 31, 37, 38, 39]⟩] [[0, 1, 2, 3, 4, 5, 6, 7, 8, 9, 10, 11, 12, 13, 14, 15, 16, 17, 18, 19, 20, 21, 22, 23, 24, 25, 26, 27, 28, 29, 30, 31, 32, 33, 34, 35, 36, 37, 38, 39, 40], [0, 1, 2, 3, 4, 5, 6, 7, 8, 9, 10, 11, 12, 13, 14, 15, 16, 17, 18, 19, 20, 21, 22, 23, 24, 25, 26, 27, 28, 29, 30, 31, 32, 33, 34, 35, 36, 37, 38, 39, 40, 41]] [⟨some true, .no⟩, ⟨none, .tv true⟩] [] [] hX (by kernel_rfl) (by kernel_rfl) (allCons (f52_ok hc19) (allCons hb20 (allCons hb20 (allCons hb20 (allCons hb20 (allCons hb20 (allCons hb20 (allCons hb20 (allCons (rfl : true = true) (allCons (rfl : true = true) (allCons (rfl : true = true) (allCons (rfl : true = true) (allCons (rfl : true = true) (allCons (rfl : true = true) (allCons (rfl : true = true) (allCons (rfl : true = true) (allCons (rfl : true = true) (allCons (rfl : true = true) (allCons (rfl : true = true) (allCons (rfl : true = true) (allCons (rfl : true = true) (allCons (rfl : true = true) (allCons (rfl : true = true) (allCons (rfl : true = true) (allCons (rfl : true = true) (allCons (rfl : true = true) (allCons (rfl : true = true) (allCons (rfl : true = true) (allCons (rfl : true = true) (allCons (rfl : true = true) (allCons (rfl : true = true) (allCons (rfl : true = true) (allCons (rfl : true = true) (allCons (rfl : true = true) (allCons (rfl : true = true) allNil))))))))))))))))))))))))))))))))))) (fun _ h => (qThen (h.ht (cont true (of_some hT3)))))
    · obtain ⟨y21, hc22, hT3⟩ := of_bind hT3
      rcases of_bif hT3 with ⟨hb23, hT3⟩ | ⟨hb23, hT3⟩
      · exact HT.drK 41 [⟨oH, []⟩, ⟨oH, [0]⟩, ⟨oH, [0, 1]⟩, ⟨oH, [0, 1, 2]⟩, ⟨⟨none, .call [.imm tI, .imm tI, .imm tI] [⟨false, .bool, y18⟩] []⟩, [0, 1, 2, 3]⟩, ⟨oH, [0, 1, 2, 3, 4]⟩, ⟨oH, [0, 1, 2, 3, 4, 5]⟩, ⟨⟨some false, .no⟩, [0, 1, 2, 3, 4, 5, 6]⟩, ⟨⟨some false, .no⟩, [0, 1, 2, 3, 4, 5, 6, 7]⟩, ⟨⟨some false, .no⟩, [0, 1, 2, 3, 4, 5, 6, 7, 8]⟩, ⟨⟨some false, .no⟩, [0, 1, 2, 3, 4, 5, 6, 7, 8, 9]⟩, ⟨⟨some false, .call [.imm tI, .imm tI, .imm tI] [⟨false, .bool, y21⟩] []⟩, [0, 1, 2, 3, 4, 5, 6, 7, 8, 9, 10]⟩, ⟨⟨some false, .no⟩, [0, 1, 2, 3, 4, 5, 6, 7, 8, 9, 10, 11]⟩, ⟨⟨none, .tv false⟩, [0, 1, 2, 3, 4, 5, 6, 7, 8, 9, 10, 11, 12]⟩, ⟨oH, [0, 1, 2, 3, 4, 5, 6, 7, 8, 9, 10, 11, 12, 13]⟩, ⟨⟨some true, .no⟩, [0, 1, 2, 3, 4, 5, 6, 7, 8, 9, 10, 11, 12, 13, 14]⟩, ⟨⟨some true, .no⟩, [0, 1, 2, 3, 4, 5, 6, 7, 8, 9, 10, 11, 12, 13, 14, 15]⟩, ⟨⟨some true, .no⟩, [0, 1, 2, 3, 4, 5, 6, 7, 8, 9, 10, 11, 12, 13, 14, 15, 16]⟩, ⟨⟨some true, .no⟩, [0, 1, 2, 3, 4, 5, 6, 7, 8, 9, 10, 11, 12, 13, 14, 15, 16, 17]⟩, ⟨⟨some true, .no⟩, [0, 1, 2, 3, 4, 5, 6, 7, 8, 9, 10, 11, 12, 13, 14, 15, 16, 17, 18]⟩, ⟨⟨some true, .no⟩, [0, 1, 2, 3, 4, 5, 6, 7, 8, 9, 10, 11, 12, 13, 14]⟩, ⟨⟨some true, .no⟩, [0, 1, 2, 3, 4, 5, 6, 7, 8, 9, 10, 11, 12, 13, 14, 20]⟩, ⟨⟨some true, .no⟩, [0, 1, 2, 3, 4, 5, 6, 7, 8, 9, 10, 11, 12, 13, 14, 20, 21]⟩, ⟨⟨some true, .no⟩, [0, 1, 2, 3, 4, 5, 6, 7, 8, 9, 10, 11, 12, 13, 14, 20, 21, 22]⟩, ⟨⟨some true, .no⟩, [0, 1, 2, 3, 4, 5, 6, 7, 8, 9, 10, 11, 12, 13, 14]⟩, ⟨⟨some true, .no⟩, [0, 1, 2, 3, 4, 5, 6, 7, 8, 9, 10, 11, 12, 13, 14, 24]⟩, ⟨⟨some true, .no⟩, [0, 1, 2, 3, 4, 5, 6, 7, 8, 9, 10, 11, 12, 13, 14, 24, 25]⟩, ⟨⟨some true, .no⟩, [0, 1, 2, 3, 4, 5, 6, 7, 8, 9, 10, 11, 12, 13, 14, 24, 25, 26]⟩, ⟨⟨some true, .no⟩, [0, 1, 2, 3, 4, 5, 6, 7, 8, 9, 10, 11, 12, 13, 14, 20, 21, 22, 23, 24, 25, 26, 27]⟩, ⟨⟨some true, .no⟩, [0, 1, 2, 3, 4, 5, 6, 7, 8, 9, 10, 11, 12, 13, 14, 15, 16, 17, 18, 19, 20, 21, 22, 23, 24, 25, 26, 27, 28]⟩, ⟨⟨none, .tv true⟩, [0, 1, 2, 3, 4, 5, 6, 7, 8, 9, 10, 11, 12, 13, 14, 15, 16, 17, 18, 19, 20, 21, 22, 23, 24, 25, 26, 27, 28, 29]⟩, ⟨oH, [0, 1, 2, 3, 4, 5, 6, 7, 8, 9, 10, 11, 12, 13, 14, 15, 16, 17, 18, 19, 20, 21, 22, 23, 24, 25, 26, 27, 28, 29, 30]⟩, ⟨⟨some true, .no⟩, [0, 1, 2, 3, 4, 5, 6, 7, 8, 9, 10, 11, 12, 13, 14, 15, 16, 17, 18, 19, 20, 21, 22, 23, 24, 25, 26, 27, 28, 29, 30, 31]⟩, ⟨⟨some true, .no⟩, [0, 1, 2, 3, 4, 5, 6, 7, 8, 9, 10, 11, 12, 13, 14, 15, 16, 17, 18, 19, 20, 21, 22, 23, 24, 25, 26, 27, 28, 29, 30, 31, 32]⟩, ⟨⟨some true, .no⟩, [0, 1, 2, 3, 4, 5, 6, 7, 8, 9, 10, 11, 12, 13, 14, 15, 16, 17, 18, 19, 20, 21, 22, 23, 24, 25, 26, 27, 28, 29, 30, 31, 32, 33]⟩, ⟨⟨some true, .no⟩, [0, 1, 2, 3, 4, 5, 6, 7, 8, 9, 10, 11, 12, 13, 14, 15, 16, 17, 18, 19, 20, 21, 22, 23, 24, 25, 26, 27, 28, 29, 30, 31, 32, 33, 34]⟩, ⟨⟨some true, .no⟩, [0, 1, 2, 3, 4, 5, 6, 7, 8, 9, 10, 11, 12, 13, 14, 15, 16, 17, 18, 19, 20, 21, 22, 23, 24, 25, 26, 27, 28, 29, 30, 31, 32, 33, 34, 35]⟩, ⟨⟨some true, .no⟩, [0, 1, 2, 3, 4, 5, 6, 7, 8, 9, 10, 11, 12, 13, 14, 15, 16, 17, 18, 19, 20, 21, 22, 23, 24, 25, 26, 27, 28, 29, 30, 31]⟩, ⟨⟨some true, .no⟩, [0, 1, 2, 3, 4, 5, 6, 7, 8, 9, 10, 11, 12, 13, 14, 15, 16, 17, 18, 19, 20, 21, 22, 23, 24, 25, 26, 27, 28, 29, 30, 31, 37]⟩, ⟨⟨some true, .no⟩, [0, 1, 2, 3, 4, 5, 6, 7, 8, 9, 10, 11, 12, 13, 14, 15, 16, 17, 18, 19, 20, 21, 22, 23, 24, 25, 26, 27, 28, 29, 30, 31, 37, 38]⟩, ⟨⟨some true, .no⟩, [0, 1, 2, 3, 4, 5, 6, 7, 8, 9, 10, 11, 12, 13, 14, 15, 16, 17, 18, 19, 20, 21, 22, 23, 24, 25, 26, 27, 28, 29, 30, 31, 37, 38, 39]⟩] [[0, 1, 2, 3, 4, 5, 6, 7, 8, 9, 10, 11, 12, 13, 14, 15, 16, 17, 18, 19, 20, 21, 22, 23, 24, 25, 26, 27, 28, 29, 30, 31, 32, 33, 34, 35, 36, 37, 38, 39, 40], [0, 1, 2, 3, 4, 5, 6, 7, 8, 9, 10, 11, 12, 13, 14, 15, 16, 17, 18, 19, 20, 21, 22, 23, 24, 25, 26, 27, 28, 29, 30, 31, 32, 33, 34, 35, 36, 37, 38, 39, 40, 41]] [⟨some true, .no⟩, ⟨none, .tv true⟩] [] [] hX (by kernel_rfl) (by kernel_rfl) (allCons (f52_ok hc19) (allCons hb20 (allCons hb20 (allCons hb20 (allCons hb20 (allCons hb20 (allCons (f52_ok hc22) (allCons hb20 (allCons hb20 (allCons hb23 (allCons hb23 (allCons hb23 (allCons hb23 (allCons hb23 (allCons hb23 (allCons hb23 (allCons hb23 (allCons hb23 (allCons hb23 (allCons hb23 (allCons hb23 (allCons hb23 (allCons hb23 (allCons hb23 (allCons hb23 (allCons (rfl : true = true) (allCons (rfl : true = true) (allCons (rfl : true = true) (allCons (rfl : true = true) (allCons (rfl : true = true) (allCons (rfl : true = true) (allCons (rfl : true = true) (allCons (rfl : true = true) (allCons (rfl : true = true) (allCons (rfl : true = true) (allCons (rfl : true = true) allNil)))))))))))))))))))))))))))))))))))) (fun _ h => (qThen (h.ht (cont true (of_some hT3)))))
      · rcases of_bif hT3 with ⟨hb24, hT3⟩ | ⟨hb24, hT3⟩
        · exact HT.drK 41 [⟨oH, []⟩, ⟨oH, [0]⟩, ⟨oH, [0, 1]⟩, ⟨oH, [0, 1, 2]⟩, ⟨⟨none, .call [.imm tI, .imm tI, .imm tI] [⟨false, .bool, y18⟩] []⟩, [0, 1, 2, 3]⟩, ⟨oH, [0, 1, 2, 3, 4]⟩, ⟨oH, [0, 1, 2, 3, 4, 5]⟩, ⟨⟨some false, .no⟩, [0, 1, 2, 3, 4, 5, 6]⟩, ⟨⟨some false, .no⟩, [0, 1, 2, 3, 4, 5, 6, 7]⟩, ⟨⟨some false, .no⟩, [0, 1, 2, 3, 4, 5, 6, 7, 8]⟩, ⟨⟨some false, .no⟩, [0, 1, 2, 3, 4, 5, 6, 7, 8, 9]⟩, ⟨⟨some false, .call [.imm tI, .imm tI, .imm tI] [⟨false, .bool, y21⟩] []⟩, [0, 1, 2, 3, 4, 5, 6, 7, 8, 9, 10]⟩, ⟨⟨some false, .no⟩, [0, 1, 2, 3, 4, 5, 6, 7, 8, 9, 10, 11]⟩, ⟨⟨none, .tv false⟩, [0, 1, 2, 3, 4, 5, 6, 7, 8, 9, 10, 11, 12]⟩, ⟨oH, [0, 1, 2, 3, 4, 5, 6, 7, 8, 9, 10, 11, 12, 13]⟩, ⟨⟨some false, .no⟩, [0, 1, 2, 3, 4, 5, 6, 7, 8, 9, 10, 11, 12, 13, 14]⟩, ⟨⟨some false, .no⟩, [0, 1, 2, 3, 4, 5, 6, 7, 8, 9, 10, 11, 12, 13, 14, 15]⟩, ⟨⟨some false, .no⟩, [0, 1, 2, 3, 4, 5, 6, 7, 8, 9, 10, 11, 12, 13, 14, 15, 16]⟩, ⟨⟨some false, .no⟩, [0, 1, 2, 3, 4, 5, 6, 7, 8, 9, 10, 11, 12, 13, 14, 15, 16, 17]⟩, ⟨⟨some false, .no⟩, [0, 1, 2, 3, 4, 5, 6, 7, 8, 9, 10, 11, 12, 13, 14, 15, 16, 17, 18]⟩, ⟨⟨some false, .no⟩, [0, 1, 2, 3, 4, 5, 6, 7, 8, 9, 10, 11, 12, 13, 14]⟩, ⟨⟨some false, .no⟩, [0, 1, 2, 3, 4, 5, 6, 7, 8, 9, 10, 11, 12, 13, 14, 20]⟩, ⟨⟨some false, .no⟩, [0, 1, 2, 3, 4, 5, 6, 7, 8, 9, 10, 11, 12, 13, 14, 20, 21]⟩, ⟨⟨some false, .no⟩, [0, 1, 2, 3, 4, 5, 6, 7, 8, 9, 10, 11, 12, 13, 14, 20, 21, 22]⟩, ⟨⟨some false, .no⟩, [0, 1, 2, 3, 4, 5, 6, 7, 8, 9, 10, 11, 12, 13, 14]⟩, ⟨⟨some false, .no⟩, [0, 1, 2, 3, 4, 5, 6, 7, 8, 9, 10, 11, 12, 13, 14, 24]⟩, ⟨⟨some false, .no⟩, [0, 1, 2, 3, 4, 5, 6, 7, 8, 9, 10, 11, 12, 13, 14, 24, 25]⟩, ⟨⟨some false, .no⟩, [0, 1, 2, 3, 4, 5, 6, 7, 8, 9, 10, 11, 12, 13, 14, 24, 25, 26]⟩, ⟨⟨some false, .no⟩, [0, 1, 2, 3, 4, 5, 6, 7, 8, 9, 10, 11, 12, 13, 14, 20, 21, 22, 23, 24, 25, 26, 27]⟩, ⟨⟨some false, .no⟩, [0, 1, 2, 3, 4, 5, 6, 7, 8, 9, 10, 11, 12, 13, 14, 15, 16, 17, 18, 19, 20, 21, 22, 23, 24, 25, 26, 27, 28]⟩, ⟨⟨none, .tv false⟩, [0, 1, 2, 3, 4, 5, 6, 7, 8, 9, 10, 11, 12, 13, 14, 15, 16, 17, 18, 19, 20, 21, 22, 23, 24, 25, 26, 27, 28, 29]⟩, ⟨oH, [0, 1, 2, 3, 4, 5, 6, 7, 8, 9, 10, 11, 12, 13, 14, 15, 16, 17, 18, 19, 20, 21, 22, 23, 24, 25, 26, 27, 28, 29, 30]⟩, ⟨⟨some true, .no⟩, [0, 1, 2, 3, 4, 5, 6, 7, 8, 9, 10, 11, 12, 13, 14, 15, 16, 17, 18, 19, 20, 21, 22, 23, 24, 25, 26, 27, 28, 29, 30, 31]⟩, ⟨⟨some true, .no⟩, [0, 1, 2, 3, 4, 5, 6, 7, 8, 9, 10, 11, 12, 13, 14, 15, 16, 17, 18, 19, 20, 21, 22, 23, 24, 25, 26, 27, 28, 29, 30, 31, 32]⟩, ⟨⟨some true, .no⟩, [0, 1, 2, 3, 4, 5, 6, 7, 8, 9, 10, 11, 12, 13, 14, 15, 16, 17, 18, 19, 20, 21, 22, 23, 24, 25, 26, 27, 28, 29, 30, 31, 32, 33]⟩, ⟨⟨some true, .no⟩, [0, 1, 2, 3, 4, 5, 6, 7, 8, 9, 10, 11, 12, 13, 14, 15, 16, 17, 18, 19, 20, 21, 22, 23, 24, 25, 26, 27, 28, 29, 30, 31, 32, 33, 34]⟩, ⟨⟨some true, .no⟩, [0, 1, 2, 3, 4, 5, 6, 7, 8, 9, 10, 11, 12, 13, 14, 15, 16, 17, 18, 19, 20, 21, 22, 23, 24, 25, 26, 27, 28, 29, 30, 31, 32, 33, 34, 35]⟩, ⟨⟨some true, .no⟩, [0, 1, 2, 3, 4, 5, 6, 7, 8, 9, 10, 11, 12, 13, 14, 15, 16, 17, 18, 19, 20, 21, 22, 23, 24, 25, 26, 27, 28, 29, 30, 31]⟩, ⟨⟨some true, .no⟩, [0, 1, 2, 3, 4, 5, 6, 7, 8, 9, 10, 11, 12, 13, 14, 15, 16, 17, 18, 19, 20, 21, 22, 23, 24, 25, 26, 27, 28, 29, 30, 31, 37]⟩, ⟨⟨some true, .no⟩, [0, 1, 2, 3, 4, 5, 6, 7, 8, 9, 10, 11, 12, 13, 14, 15, 16, 17, 18, 19, 20, 21, 22, 23, 24, 25, 26, 27, 28, 29, 30, 31, 37, 38]⟩, ⟨⟨some true, .no⟩, [0, 1, 2, 3, 4, 5, 6, 7, 8, 9, 10, 11, 12, 13, 14, 15, 16, 17, 18, 19, 20, 21, 22, 23, 24, 25, 26, 27, 28, 29, 30, 31, 37, 38, 39]⟩] [[0, 1, 2, 3, 4, 5, 6, 7, 8, 9, 10, 11, 12, 13, 14, 15, 16, 17, 18, 19, 20, 21, 22, 23, 24, 25, 26, 27, 28, 29, 30, 31, 32, 33, 34, 35, 36, 37, 38, 39, 40], [0, 1, 2, 3, 4, 5, 6, 7, 8, 9, 10, 11, 12, 13, 14, 15, 16, 17, 18, 19, 20, 21, 22, 23, 24, 25, 26, 27, 28, 29, 30, 31, 32, 33, 34, 35, 36, 37, 38, 39, 40, 41]] [⟨some true, .no⟩, ⟨none, .tv true⟩] [] [] hX (by kernel_rfl) (by kernel_rfl) (allCons (f52_ok hc19) (allCons hb20 (allCons hb20 (allCons hb20 (allCons hb20 (allCons hb20 (allCons (f52_ok hc22) (allCons hb20 (allCons hb20 (allCons hb23 (allCons hb23 (allCons hb23 (allCons hb23 (allCons hb23 (allCons hb23 (allCons hb23 (allCons hb23 (allCons hb23 (allCons hb23 (allCons hb23 (allCons hb23 (allCons hb23 (allCons hb23 (allCons hb23 (allCons hb23 (allCons hb24 (allCons hb24 (allCons hb24 (allCons hb24 (allCons hb24 (allCons hb24 (allCons hb24 (allCons hb24 (allCons hb24 (allCons hb24 (allCons hb24 allNil)))))))))))))))))))))))))))))))))))) (fun _ h => (qThen (h.ht (cont true (of_some hT3)))))
        · exact HT.drK 41 [⟨oH, []⟩, ⟨oH, [0]⟩, ⟨oH, [0, 1]⟩, ⟨oH, [0, 1, 2]⟩, ⟨⟨none, .call [.imm tI, .imm tI, .imm tI] [⟨false, .bool, y18⟩] []⟩, [0, 1, 2, 3]⟩, ⟨oH, [0, 1, 2, 3, 4]⟩, ⟨oH, [0, 1, 2, 3, 4, 5]⟩, ⟨⟨some false, .no⟩, [0, 1, 2, 3, 4, 5, 6]⟩, ⟨⟨some false, .no⟩, [0, 1, 2, 3, 4, 5, 6, 7]⟩, ⟨⟨some false, .no⟩, [0, 1, 2, 3, 4, 5, 6, 7, 8]⟩, ⟨⟨some false, .no⟩, [0, 1, 2, 3, 4, 5, 6, 7, 8, 9]⟩, ⟨⟨some false, .call [.imm tI, .imm tI, .imm tI] [⟨false, .bool, y21⟩] []⟩, [0, 1, 2, 3, 4, 5, 6, 7, 8, 9, 10]⟩, ⟨⟨some false, .no⟩, [0, 1, 2, 3, 4, 5, 6, 7, 8, 9, 10, 11]⟩, ⟨⟨none, .tv false⟩, [0, 1, 2, 3, 4, 5, 6, 7, 8, 9, 10, 11, 12]⟩, ⟨oH, [0, 1, 2, 3, 4, 5, 6, 7, 8, 9, 10, 11, 12, 13]⟩, ⟨⟨some false, .no⟩, [0, 1, 2, 3, 4, 5, 6, 7, 8, 9, 10, 11, 12, 13, 14]⟩, ⟨⟨some false, .no⟩, [0, 1, 2, 3, 4, 5, 6, 7, 8, 9, 10, 11, 12, 13, 14, 15]⟩, ⟨⟨some false, .no⟩, [0, 1, 2, 3, 4, 5, 6, 7, 8, 9, 10, 11, 12, 13, 14, 15, 16]⟩, ⟨⟨some false, .no⟩, [0, 1, 2, 3, 4, 5, 6, 7, 8, 9, 10, 11, 12, 13, 14, 15, 16, 17]⟩, ⟨⟨some false, .no⟩, [0, 1, 2, 3, 4, 5, 6, 7, 8, 9, 10, 11, 12, 13, 14, 15, 16, 17, 18]⟩, ⟨⟨some false, .no⟩, [0, 1, 2, 3, 4, 5, 6, 7, 8, 9, 10, 11, 12, 13, 14]⟩, ⟨⟨some false, .no⟩, [0, 1, 2, 3, 4, 5, 6, 7, 8, 9, 10, 11, 12, 13, 14, 20]⟩, ⟨⟨some false, .no⟩, [0, 1, 2, 3, 4, 5, 6, 7, 8, 9, 10, 11, 12, 13, 14, 20, 21]⟩, ⟨⟨some false, .no⟩, [0, 1, 2, 3, 4, 5, 6, 7, 8, 9, 10, 11, 12, 13, 14, 20, 21, 22]⟩, ⟨⟨some false, .no⟩, [0, 1, 2, 3, 4, 5, 6, 7, 8, 9, 10, 11, 12, 13, 14]⟩, ⟨⟨some false, .no⟩, [0, 1, 2, 3, 4, 5, 6, 7, 8, 9, 10, 11, 12, 13, 14, 24]⟩, ⟨⟨some false, .no⟩, [0, 1, 2, 3, 4, 5, 6, 7, 8, 9, 10, 11, 12, 13, 14, 24, 25]⟩, ⟨⟨some false, .no⟩, [0, 1, 2, 3, 4, 5, 6, 7, 8, 9, 10, 11, 12, 13, 14, 24, 25, 26]⟩, ⟨⟨some false, .no⟩, [0, 1, 2, 3, 4, 5, 6, 7, 8, 9, 10, 11, 12, 13, 14, 20, 21, 22, 23, 24, 25, 26, 27]⟩, ⟨⟨some false, .no⟩, [0, 1, 2, 3, 4, 5, 6, 7, 8, 9, 10, 11, 12, 13, 14, 15, 16, 17, 18, 19, 20, 21, 22, 23, 24, 25, 26, 27, 28]⟩, ⟨⟨none, .tv false⟩, [0, 1, 2, 3, 4, 5, 6, 7, 8, 9, 10, 11, 12, 13, 14, 15, 16, 17, 18, 19, 20, 21, 22, 23, 24, 25, 26, 27, 28, 29]⟩, ⟨oH, [0, 1, 2, 3, 4, 5, 6, 7, 8, 9, 10, 11, 12, 13, 14, 15, 16, 17, 18, 19, 20, 21, 22, 23, 24, 25, 26, 27, 28, 29, 30]⟩, ⟨⟨some false, .no⟩, [0, 1, 2, 3, 4, 5, 6, 7, 8, 9, 10, 11, 12, 13, 14, 15, 16, 17, 18, 19, 20, 21, 22, 23, 24, 25, 26, 27, 28, 29, 30, 31]⟩, ⟨⟨some false, .no⟩, [0, 1, 2, 3, 4, 5, 6, 7, 8, 9, 10, 11, 12, 13, 14, 15, 16, 17, 18, 19, 20, 21, 22, 23, 24, 25, 26, 27, 28, 29, 30, 31, 32]⟩, ⟨⟨some false, .no⟩, [0, 1, 2, 3, 4, 5, 6, 7, 8, 9, 10, 11, 12, 13, 14, 15, 16, 17, 18, 19, 20, 21, 22, 23, 24, 25, 26, 27, 28, 29, 30, 31, 32, 33]⟩, ⟨⟨some false, .no⟩, [0, 1, 2, 3, 4, 5, 6, 7, 8, 9, 10, 11, 12, 13, 14, 15, 16, 17, 18, 19, 20, 21, 22, 23, 24, 25, 26, 27, 28, 29, 30, 31, 32, 33, 34]⟩, ⟨⟨some false, .no⟩, [0, 1, 2, 3, 4, 5, 6, 7, 8, 9, 10, 11, 12, 13, 14, 15, 16, 17, 18, 19, 20, 21, 22, 23, 24, 25, 26, 27, 28, 29, 30, 31, 32, 33, 34, 35]⟩, ⟨⟨some false, .no⟩, [0, 1, 2, 3, 4, 5, 6, 7, 8, 9, 10, 11, 12, 13, 14, 15, 16, 17, 18, 19, 20, 21, 22, 23, 24, 25, 26, 27, 28, 29, 30, 31]⟩, ⟨⟨some false, .no⟩, [0, 1, 2, 3, 4, 5, 6, 7, 8, 9, 10, 11, 12, 13, 14, 15, 16, 17, 18, 19, 20, 21, 22, 23, 24, 25, 26, 27, 28, 29, 30, 31, 37]⟩, ⟨⟨some false, .no⟩, [0, 1, 2, 3, 4, 5, 6, 7, 8, 9, 10, 11, 12, 13, 14, 15, 16, 17, 18, 19, 20, 21, 22, 23, 24, 25, 26, 27, 28, 29, 30, 31, 37, 38]⟩, ⟨⟨some false, .no⟩, [0, 1, 2, 3, 4, 5, 6, 7, 8, 9, 10, 11, 12, 13, 14, 15, 16, 17, 18, 19, 20, 21, 22, 23, 24, 25, 26, 27, 28, 29, 30, 31, 37, 38, 39]⟩] [[0, 1, 2, 3, 4, 5, 6, 7, 8, 9, 10, 11, 12, 13, 14, 15, 16, 17, 18, 19, 20, 21, 22, 23, 24, 25, 26, 27, 28, 29, 30, 31, 32, 33, 34, 35, 36, 37, 38, 39, 40], [0, 1, 2, 3, 4, 5, 6, 7, 8, 9, 10, 11, 12, 13, 14, 15, 16, 17, 18, 19, 20, 21, 22, 23, 24, 25, 26, 27, 28, 29, 30, 31, 32, 33, 34, 35, 36, 37, 38, 39, 40, 41]] [⟨some false, .no⟩, ⟨none, .tv false⟩] [] [] hX (by kernel_rfl) (by kernel_rfl) (allCons (f52_ok hc19) (allCons hb20 (allCons hb20 (allCons hb20 (allCons hb20 (allCons hb20 (allCons (f52_ok hc22) (allCons hb20 (allCons hb20 (allCons hb23 (allCons hb23 (allCons hb23 (allCons hb23 (allCons hb23 (allCons hb23 (allCons hb23 (allCons hb23 (allCons hb23 (allCons hb23 (allCons hb23 (allCons hb23 (allCons hb23 (allCons hb23 (allCons hb23 (allCons hb23 (allCons hb24 (allCons hb24 (allCons hb24 (allCons hb24 (allCons hb24 (allCons hb24 (allCons hb24 (allCons hb24 (allCons hb24 (allCons hb24 (allCons hb24 allNil)))))))))))))))))))))))))))))))))))) (fun _ h => (qThen (h.ht (cont ((lenI a0.2.2.2) != a0.1) (of_some hT3)))))

noncomputable def spec_l07Kept (a0 : List UInt8 × Int × Int × List Int × List Bool) : Option (Bool) :=
  (show Option (Bool) from
    (spec_l07Name a0.1).bind fun y4 =>
    bif y4 then
      (spec_l02Plain (a0.2.1, a0.2.2.1, a0.2.2.2.1, a0.2.2.2.2)).bind fun y7 =>
      some y7
    else
      some false).bind fun v1 =>
  some v1

theorem f96_ok {a0 : List UInt8 × Int × Int × List Int × List Bool} {r : Bool} (hr : spec_l07Kept a0 = some r) : CallOK Try.prog 96 [.pimm (.st (.pair .str (.st (.pair tI (.pair tI (.pair tLI (.sl .bool))))))) a0] [⟨false, .bool, r⟩] [] := by
  unfold spec_l07Kept at hr
  refine CallOK.of_body (ts := [(false, .bool)]) Try.func96 rfl (by kernel_rfl) (Nat.le_of_ble_eq_true (by kernel_rfl)) fun cx hP hN hO hF => ?_
  have hO : cx.own.map Prod.fst = [] := hO
  have hX := CxIs.mk hP hN hO
  have hF := hF rfl
  show HT cx ⟨[(0, .one (.ip (.st (.pair .str (.st (.pair tI (.pair tI (.pair tLI (.sl .bool))))))) a0 0))], [], 0⟩ _ _
  refine HT.rg2 [oH] ⟨[(0, .one (.ip (.st (.pair .str (.st (.pair tI (.pair tI (.pair tLI (.sl .bool))))))) a0 0))], [], 0⟩ hX (by kernel_rfl) allNil ?_
  obtain ⟨v1', hT3, hr⟩ := of_bind hr
  refine HT.join (fun (v1 : Bool) => ⟨[(2, bV v1)], [], 0⟩) (fun v => v = v1') (fun v1 hv2 => ?_) (fun cont => ?_)
  · subst hv2
    have hr := of_some hr
    subst hr
    exact HT.ret ⟨[bV v1], [], [], by kernel_rfl, by kernel_rfl, rfl, by kernel_rfl, by kernel_rfl, trivial⟩
  · obtain ⟨y4, hc5, hT3⟩ := of_bind hT3
    rcases of_bif hT3 with ⟨hb6, hT3⟩ | ⟨hb6, hT3⟩
    · obtain ⟨y7, hc8, hT3⟩ := of_bind hT3
      exact HT.rgK [oH, oH, oH, oH, ⟨none, .call [.imm .str] [⟨false, .bool, y4⟩] []⟩, oH, ⟨some true, .no⟩, ⟨some true, .no⟩, ⟨some true, .no⟩, ⟨some true, .call [.pimm (.st (.pair tI (.pair tI (.pair tLI (.sl .bool)))))] [⟨false, .bool, y7⟩] []⟩, ⟨none, .tv true⟩, oH] [] [] hX (by kernel_rfl) (allCons (f119_ok hc5) (allCons hb6 (allCons hb6 (allCons hb6 (allCons hb6 (allCons (f120_ok hc8) (allCons hb6 allNil))))))) (fun _ h => (qThen (h.ht (cont y7 (of_some hT3)))))
    · exact HT.rgK [oH, oH, oH, oH, ⟨none, .call [.imm .str] [⟨false, .bool, y4⟩] []⟩, oH, ⟨some false, .no⟩, ⟨some false, .no⟩, ⟨some false, .no⟩, ⟨some false, .no⟩, ⟨none, .tv false⟩, oH] [] [] hX (by kernel_rfl) (allCons (f119_ok hc5) (allCons hb6 (allCons hb6 (allCons hb6 (allCons hb6 (allCons hb6 allNil)))))) (fun _ h => (qThen (h.ht (cont false (of_some hT3)))))

noncomputable def spec_l01Check_B1 (a1 : List UInt8) (s1 : Int × Int) : Option ((Int × Int) ⊕ (Int)) :=
  bif (decide (s1.2 < (lenI a1))) then
    guardP ((0 : Int) ≤ s1.2 ∧ s1.2 < lenI a1) (
      some (.inl ((Int.tmod (wadd .i64 (wadd .i64 (wmul .i64 (919 : Int) s1.1) (IntKind.wrap .i64 ((((List.getD a1 (Int.toNat s1.2) 0 : UInt8).toNat : Nat)) : Int))) (191 : Int)) (65003 : Int)), (wadd .i64 s1.2 (1 : Int)))))
  else
    some (.inr s1.1)

noncomputable def spec_l01Check (a0 : Int) (a1 : List UInt8) : Option (Int) :=
  (rounds (spec_l01Check_B1 a1) (a0, (0 : Int))).bind fun r3 =>
  some r3

theorem f121_ok {a0 : Int} {a1 : List UInt8} {r : Int} (hr : spec_l01Check a0 a1 = some r) : CallOK Try.prog 121 [.imm tI a0, .imm .str a1] [⟨false, tI, r⟩] [] := by
  unfold spec_l01Check at hr
  refine CallOK.of_body (ts := [(false, tI)]) Try.func121 rfl (by kernel_rfl) (Nat.le_of_ble_eq_true (by kernel_rfl)) fun cx hP hN hO hF => ?_
  have hO : cx.own.map Prod.fst = [] := hO
  have hX := CxIs.mk hP hN hO
  have hF := hF rfl
  show HT cx ⟨[(0, iV a0), (1, .one (.dat .str a1))], [], 0⟩ _ _
  refine HT.rg2 [oH] ⟨[(0, iV a0), (1, .one (.dat .str a1))], [], 0⟩ hX (by kernel_rfl) allNil ?_
  refine HT.seq ?_
  refine HT.rg2 [oH] ⟨[(0, iV a0), (1, .one (.dat .str a1)), (5, iV (0 : Int))], [], 0⟩ hX (by kernel_rfl) allNil ?_
  refine HT.block ?_
  obtain ⟨r2, hL9, hr⟩ := of_bind hr
  refine HT.loopL (fun (s1 : Int × Int) => ⟨[(0, iV s1.1), (1, .one (.dat .str a1)), (5, iV s1.2)], [], 0⟩) (fun (r3 : Int) => (.exit 0, ⟨[(0, iV r3)], [], 0⟩)) (Le.re [] [] hX (by kernel_rfl)) hL9 ?_ (fun s1 x4 hx5 hk6 => ?_)
  · refine (qBlockX (qThen ?_))
    refine HT.rg2 (oHs 2) ⟨[(4, iV r2)], [], 0⟩ hX (by kernel_rfl) allNil ?_
    have hr := of_some hr
    subst hr
    exact HT.ret ⟨[iV r2], [], [], by kernel_rfl, by kernel_rfl, rfl, by kernel_rfl, by kernel_rfl, trivial⟩
  · refine HT.seq ?_
    refine HT.rg2 (oHs 4) ⟨[(0, iV s1.1), (1, .one (.dat .str a1)), (5, iV s1.2), (9, bV (decide (s1.2 < (lenI a1))))], [], 0⟩ hX (by kernel_rfl) allNil ?_
    rcases of_bif hx5 with ⟨hb7, hx5⟩ | ⟨hb7, hx5⟩
    · refine HT.cond1 rfl hb7 ?_
      refine HT.skip (qThen ?_)
      refine HT.seq ?_
      refine HT.block ?_
      obtain ⟨hg8, hx5⟩ := of_guard hx5
      refine HT.rgL (oHs 10) ⟨[(0, iV (Int.tmod (wadd .i64 (wadd .i64 (wmul .i64 (919 : Int) s1.1) (IntKind.wrap .i64 ((((List.getD a1 (Int.toNat s1.2) 0 : UInt8).toNat : Nat)) : Int))) (191 : Int)) (65003 : Int))), (1, .one (.dat .str a1)), (5, iV s1.2)], [], 0⟩ hX (by kernel_rfl) (allCons hg8 (allCons (show (65003 : Int) ≠ 0 from by decide) allNil)) (qBlock (qThen ?_))
      have hx5 := of_some hx5
      subst hx5
      exact HT.rgK (oHs 3) [] [] hX (by kernel_rfl) allNil (fun _ h => (qLoopN ⟨((Int.tmod (wadd .i64 (wadd .i64 (wmul .i64 (919 : Int) s1.1) (IntKind.wrap .i64 ((((List.getD a1 (Int.toNat s1.2) 0 : UInt8).toNat : Nat)) : Int))) (191 : Int)) (65003 : Int)), (wadd .i64 s1.2 (1 : Int))), rfl, h⟩))
    · refine HT.cond0 rfl hb7 ?_
      have hx5 := of_some hx5
      subst hx5
      exact HT.exitL (Le.re [] [] hX (by kernel_rfl)) (qThenE (qLoopE (hk6 s1.1 rfl)))

noncomputable def spec_l07Store_B1 (a0 : List UInt8 × Int × Int × List Int × List Bool) (s12 : Int × List Int) : Option ((Int × List Int) ⊕ (List Int)) :=
  bif (decide (s12.1 < (lenI a0.2.2.2.2))) then
    (show Option (Int) from
      guardP ((0 : Int) ≤ s12.1 ∧ s12.1 < lenI a0.2.2.2.2) (
        bif (List.getD a0.2.2.2.2 (Int.toNat s12.1) false) then
          some (1 : Int)
        else
          some (0 : Int))).bind fun v24 =>
    guardP (List.length s12.2 + List.length ([v24] : List Int) ≤ appMax) (
      some (.inl ((wadd .i64 s12.1 (1 : Int)), (s12.2 ++ ([v24] : List Int)))))
  else
    some (.inr s12.2)

noncomputable def spec_l07Store_B2 (a0 : List UInt8 × Int × Int × List Int × List Bool) (s9 : Int × List Int) : Option ((Int × List Int) ⊕ (List Int)) :=
  bif (decide (s9.1 < (lenI a0.2.2.2.1))) then
    guardP ((0 : Int) ≤ s9.1 ∧ s9.1 < lenI a0.2.2.2.1) (
      guardP (List.length s9.2 + List.length ([(IntKind.wrap .u8 (List.getD a0.2.2.2.1 (Int.toNat s9.1) (0 : Int)))] : List Int) ≤ appMax) (
        some (.inl ((wadd .i64 s9.1 (1 : Int)), (s9.2 ++ ([(IntKind.wrap .u8 (List.getD a0.2.2.2.1 (Int.toNat s9.1) (0 : Int)))] : List Int))))))
  else
    some (.inr s9.2)

noncomputable def spec_l07Store (a0 : List UInt8 × Int × Int × List Int × List Bool) : Option (List UInt8) :=
  guardP (List.length ([(65 : Int), (85 : Int), (84 : Int), (49 : Int)] : List Int) + List.length ([(IntKind.wrap .u8 (lenI a0.1))] : List Int) ≤ appMax) (
    (some (([(65 : Int), (85 : Int), (84 : Int), (49 : Int)] : List Int) ++ ([(IntKind.wrap .u8 (lenI a0.1))] : List Int))).bind fun q2 =>
    guardP (List.length a0.1 ≤ appMax) (
      guardP (List.length q2 + List.length (bytesI a0.1) ≤ appMax) (
        guardP (List.length (q2 ++ (bytesI a0.1)) + List.length ([(IntKind.wrap .u8 a0.2.1), (IntKind.wrap .u8 a0.2.2.1)] : List Int) ≤ appMax) (
          (some ((q2 ++ (bytesI a0.1)) ++ ([(IntKind.wrap .u8 a0.2.1), (IntKind.wrap .u8 a0.2.2.1)] : List Int))).bind fun q7 =>
          (rounds (spec_l07Store_B2 a0) ((0 : Int), q7)).bind fun r11 =>
          (rounds (spec_l07Store_B1 a0) ((0 : Int), r11)).bind fun r14 =>
          (spec_l01Check (0 : Int) (bytesO r14)).bind fun y15 =>
          guardP (List.length r14 + List.length ([(IntKind.wrap .u8 (Int.tmod y15 (256 : Int))), (IntKind.wrap .u8 (IntKind.wrap .i64 (Int.tdiv y15 (256 : Int))))] : List Int) ≤ appMax) (
            (some (bytesO (r14 ++ ([(IntKind.wrap .u8 (Int.tmod y15 (256 : Int))), (IntKind.wrap .u8 (IntKind.wrap .i64 (Int.tdiv y15 (256 : Int))))] : List Int)))).bind fun q18 =>
            some q18)))))

theorem f97_ok {a0 : List UInt8 × Int × Int × List Int × List Bool} {r : List UInt8} (hr : spec_l07Store a0 = some r) : CallOK Try.prog 97 [.pimm (.st (.pair .str (.st (.pair tI (.pair tI (.pair tLI (.sl .bool))))))) a0] [⟨false, .str, r⟩] [] := by
  unfold spec_l07Store at hr
  refine CallOK.of_body (ts := [(false, .str)]) Try.func97 rfl (by kernel_rfl) (Nat.le_of_ble_eq_true (by kernel_rfl)) fun cx hP hN hO hF => ?_
  have hO : cx.own.map Prod.fst = [] := hO
  have hX := CxIs.mk hP hN hO
  have hF := hF rfl
  show HT cx ⟨[(0, .one (.ip (.st (.pair .str (.st (.pair tI (.pair tI (.pair tLI (.sl .bool))))))) a0 0))], [], 0⟩ _ _
  refine HT.rg2 [oH] ⟨[(0, .one (.ip (.st (.pair .str (.st (.pair tI (.pair tI (.pair tLI (.sl .bool))))))) a0 0))], [], 0⟩ hX (by kernel_rfl) allNil ?_
  obtain ⟨hg1, hr⟩ := of_guard hr
  refine HT.rg2 [⟨none, .ty (.int .u8)⟩, oH, oH, oH, oH, oH, oH, oH, ⟨none, .ty (.int .u8)⟩, ⟨none, .ty (.int .u8)⟩, oH] ⟨[(0, .one (.ip (.st (.pair .str (.st (.pair tI (.pair tI (.pair tLI (.sl .bool))))))) a0 0)), (3, aV 2)], [(2, .seq (.int .u8) (([(65 : Int), (85 : Int), (84 : Int), (49 : Int)] : List Int) ++ ([(IntKind.wrap .u8 (lenI a0.1))] : List Int)))], 3⟩ hX (by kernel_rfl) (allCons (show 0 < List.length ([(65 : Int), (85 : Int), (84 : Int), (49 : Int)] : List Int) from by decide) (allCons hg1 allNil)) ?_
  obtain ⟨q2, hq3, hr⟩ := of_bind hr
  have hq3 := of_some2 hq3
  refine (Le.cv (s := ⟨[(2, 2)], [], [], false⟩) (own := []) (ps := [a0 = a0, q2 = (([(65 : Int), (85 : Int), (84 : Int), (49 : Int)] : List Int) ++ ([(IntKind.wrap .u8 (lenI a0.1))] : List Int))]) (st' := ⟨[(0, .one (.ip (.st (.pair .str (.st (.pair tI (.pair tI (.pair tLI (.sl .bool))))))) a0 0)), (3, aV 2)], [(2, .seq (.int .u8) q2)], 3⟩) hO (fun h => by cases h) (by kernel_rfl) ⟨rfl, hq3, trivial⟩).ht ?_
  obtain ⟨hg4, hr⟩ := of_guard hr
  obtain ⟨hg5, hr⟩ := of_guard hr
  refine HT.rg2 [oH, oH, oH, oH, oH, oH, ⟨none, .ty (.int .u8)⟩, oH] ⟨[(0, .one (.ip (.st (.pair .str (.st (.pair tI (.pair tI (.pair tLI (.sl .bool))))))) a0 0)), (3, aV 4)], [(4, .seq (.int .u8) (q2 ++ (bytesI a0.1)))], 5⟩ hX (by kernel_rfl) (allCons hg4 (allCons hg5 allNil)) ?_
  obtain ⟨hg6, hr⟩ := of_guard hr
  refine HT.dr2 14 [⟨oH, []⟩, ⟨oH, []⟩, ⟨oH, [1]⟩, ⟨oH, [1, 2]⟩, ⟨oH, [1, 2, 3]⟩, ⟨oH, [1, 2, 3, 4]⟩, ⟨oH, [1, 2, 3, 4, 5]⟩, ⟨oH, []⟩, ⟨oH, [7]⟩, ⟨oH, [7, 8]⟩, ⟨oH, [7, 8, 9]⟩, ⟨oH, [7, 8, 9, 10]⟩, ⟨oH, [7, 8, 9, 10, 11]⟩, ⟨⟨none, .ty (.int .u8)⟩, [1, 2, 3, 4, 5, 6, 7, 8, 9, 10, 11, 12]⟩] [[0, 1, 2, 3, 4, 5, 6, 7, 8, 9, 10, 11, 12, 13], [0, 1, 2, 3, 4, 5, 6, 7, 8, 9, 10, 11, 12, 13, 14]] [⟨none, .ty (.int .u8)⟩, oH] ⟨[(0, .one (.ip (.st (.pair .str (.st (.pair tI (.pair tI (.pair tLI (.sl .bool))))))) a0 0)), (3, aV 6)], [(6, .seq (.int .u8) ((q2 ++ (bytesI a0.1)) ++ ([(IntKind.wrap .u8 a0.2.1), (IntKind.wrap .u8 a0.2.2.1)] : List Int)))], 7⟩ hX (by kernel_rfl) (by kernel_rfl) (allCons hg6 allNil) ?_
  obtain ⟨q7, hq8, hr⟩ := of_bind hr
  have hq8 := of_some2 hq8
  refine (Le.cv (s := ⟨[(6, 6)], [], [], false⟩) (own := []) (ps := [a0 = a0, q7 = ((q2 ++ (bytesI a0.1)) ++ ([(IntKind.wrap .u8 a0.2.1), (IntKind.wrap .u8 a0.2.2.1)] : List Int))]) (st' := ⟨[(0, .one (.ip (.st (.pair .str (.st (.pair tI (.pair tI (.pair tLI (.sl .bool))))))) a0 0)), (3, aV 6)], [(6, .seq (.int .u8) q7)], 7⟩) hO (fun h => by cases h) (by kernel_rfl) ⟨rfl, hq8, trivial⟩).ht ?_
  refine HT.seq ?_
  refine HT.rg2 (oHs 7) ⟨[(0, .one (.ip (.st (.pair .str (.st (.pair tI (.pair tI (.pair tLI (.sl .bool))))))) a0 0)), (3, aV 6), (45, iV (lenI a0.2.2.2.1)), (46, iV (0 : Int))], [(6, .seq (.int .u8) q7)], 7⟩ hX (by kernel_rfl) allNil ?_
  refine HT.block ?_
  obtain ⟨r10, hL37, hr⟩ := of_bind hr
  refine HT.loopL (fun (s9 : Int × List Int) => ⟨[(0, .one (.ip (.st (.pair .str (.st (.pair tI (.pair tI (.pair tLI (.sl .bool))))))) a0 0)), (3, aV 0), (45, iV (lenI a0.2.2.2.1)), (46, iV s9.1)], [(0, .seq (.int .u8) s9.2)], 1⟩) (fun (r11 : List Int) => (.exit 0, ⟨[(0, .one (.ip (.st (.pair .str (.st (.pair tI (.pair tI (.pair tLI (.sl .bool))))))) a0 0)), (3, aV 0)], [(0, .seq (.int .u8) r11)], 1⟩)) (Le.re [(6, 0)] [] hX (by kernel_rfl)) hL37 ?_ (fun s9 x31 hx32 hk33 => ?_)
  · refine (qBlockX (qThen ?_))
    refine HT.seq ?_
    refine HT.rg2 (oHs 7) ⟨[(0, .one (.ip (.st (.pair .str (.st (.pair tI (.pair tI (.pair tLI (.sl .bool))))))) a0 0)), (3, aV 0), (67, iV (lenI a0.2.2.2.2)), (68, iV (0 : Int))], [(0, .seq (.int .u8) r10)], 1⟩ hX (by kernel_rfl) allNil ?_
    refine HT.block ?_
    obtain ⟨r13, hL30, hr⟩ := of_bind hr
    refine HT.loopL (fun (s12 : Int × List Int) => ⟨[(0, .one (.ip (.st (.pair .str (.st (.pair tI (.pair tI (.pair tLI (.sl .bool))))))) a0 0)), (3, aV 0), (67, iV (lenI a0.2.2.2.2)), (68, iV s12.1)], [(0, .seq (.int .u8) s12.2)], 1⟩) (fun (r14 : List Int) => (.exit 2, ⟨[(3, aV 0)], [(0, .seq (.int .u8) r14)], 1⟩)) (Le.re [(0, 0)] [] hX (by kernel_rfl)) hL30 ?_ (fun s12 x20 hx21 hk22 => ?_)
    · refine (qBlockX (qThen ?_))
      obtain ⟨y15, hc16, hr⟩ := of_bind hr
      refine HT.rg2 [oH, oH, ⟨none, .call [.imm tI, .imm .str] [⟨false, tI, y15⟩] []⟩, oH] ⟨[(3, aV 0), (7, iV y15)], [(0, .seq (.int .u8) r13)], 1⟩ hX (by kernel_rfl) (allCons (f121_ok hc16) allNil) ?_
      obtain ⟨hg17, hr⟩ := of_guard hr
      refine HT.rg2 [oH, oH, oH, oH, oH, oH, oH, ⟨none, .ty (.int .u8)⟩, ⟨none, .ty (.int .u8)⟩, oH, oH] ⟨[(2, .one (.dat .str (bytesO (r13 ++ ([(IntKind.wrap .u8 (Int.tmod y15 (256 : Int))), (IntKind.wrap .u8 (IntKind.wrap .i64 (Int.tdiv y15 (256 : Int))))] : List Int)))))], [], 3⟩ hX (by kernel_rfl) (allCons (show (256 : Int) ≠ 0 from by decide) (allCons (show (256 : Int) ≠ 0 from by decide) (allCons hg17 allNil))) ?_
      obtain ⟨q18, hq19, hr⟩ := of_bind hr
      have hq19 := of_some2 hq19
      refine (Le.cv (s := ⟨[], [], [], false⟩) (own := []) (ps := [q18 = (bytesO (r13 ++ ([(IntKind.wrap .u8 (Int.tmod y15 (256 : Int))), (IntKind.wrap .u8 (IntKind.wrap .i64 (Int.tdiv y15 (256 : Int))))] : List Int)))]) (st' := ⟨[(2, .one (.dat .str q18))], [], 3⟩) hO (fun h => by cases h) (by kernel_rfl) ⟨hq19, trivial⟩).ht ?_
      have hr := of_some hr
      subst hr
      exact HT.ret ⟨[.one (.dat .str q18)], [], [], by kernel_rfl, by kernel_rfl, rfl, by kernel_rfl, by kernel_rfl, trivial⟩
    · refine HT.rg2 [oH] ⟨[(0, .one (.ip (.st (.pair .str (.st (.pair tI (.pair tI (.pair tLI (.sl .bool))))))) a0 0)), (3, aV 0), (67, iV (lenI a0.2.2.2.2)), (68, iV s12.1), (69, bV (decide (s12.1 < (lenI a0.2.2.2.2))))], [(0, .seq (.int .u8) s12.2)], 1⟩ hX (by kernel_rfl) allNil ?_
      refine HT.seq ?_
      rcases of_bif hx21 with ⟨hb23, hx21⟩ | ⟨hb23, hx21⟩
      · refine HT.cond1 rfl hb23 ?_
        refine HT.skip (qThen ?_)
        refine HT.seq ?_
        refine HT.block ?_
        refine HT.rg2 (oHs 2) ⟨[(0, .one (.ip (.st (.pair .str (.st (.pair tI (.pair tI (.pair tLI (.sl .bool))))))) a0 0)), (3, aV 0), (5, iV s12.1), (67, iV (lenI a0.2.2.2.2)), (68, iV s12.1)], [(0, .seq (.int .u8) s12.2)], 1⟩ hX (by kernel_rfl) allNil ?_
        refine HT.rg2 [oH] ⟨[(0, .one (.ip (.st (.pair .str (.st (.pair tI (.pair tI (.pair tLI (.sl .bool))))))) a0 0)), (3, aV 0), (5, iV s12.1), (6, .one (.dat (.int .u8) (0 : Int))), (67, iV (lenI a0.2.2.2.2)), (68, iV s12.1)], [(0, .seq (.int .u8) s12.2)], 1⟩ hX (by kernel_rfl) allNil ?_
        obtain ⟨v24', hT26, hx21⟩ := of_bind hx21
        refine HT.join (fun (v24 : Int) => ⟨[(0, .one (.ip (.st (.pair .str (.st (.pair tI (.pair tI (.pair tLI (.sl .bool))))))) a0 0)), (3, aV 0), (6, .one (.dat (.int .u8) v24)), (67, iV (lenI a0.2.2.2.2)), (68, iV s12.1)], [(0, .seq (.int .u8) s12.2)], 1⟩) (fun v => v = v24') (fun v24 hv25 => ?_) (fun cont => ?_)
        · subst hv25
          obtain ⟨hg27, hx21⟩ := of_guard hx21
          refine HT.rgL [oH, oH, ⟨none, .ty (.int .u8)⟩, ⟨none, .ty (.int .u8)⟩, oH] ⟨[(0, .one (.ip (.st (.pair .str (.st (.pair tI (.pair tI (.pair tLI (.sl .bool))))))) a0 0)), (3, aV 2), (67, iV (lenI a0.2.2.2.2)), (68, iV s12.1)], [(2, .seq (.int .u8) (s12.2 ++ ([v24] : List Int)))], 3⟩ hX (by kernel_rfl) (allCons hg27 allNil) (qBlock (qThen ?_))
          have hx21 := of_some hx21
          subst hx21
          exact HT.rgK (oHs 2) [(2, 0)] [] hX (by kernel_rfl) allNil (fun _ h => (qLoopN ⟨((wadd .i64 s12.1 (1 : Int)), (s12.2 ++ ([v24] : List Int))), rfl, h⟩))
        · obtain ⟨hg28, hT26⟩ := of_guard hT26
          refine HT.rg2 (oHs 8) ⟨[(0, .one (.ip (.st (.pair .str (.st (.pair tI (.pair tI (.pair tLI (.sl .bool))))))) a0 0)), (3, aV 0), (6, .one (.dat (.int .u8) (0 : Int))), (67, iV (lenI a0.2.2.2.2)), (68, iV s12.1), (78, bV (List.getD a0.2.2.2.2 (Int.toNat s12.1) false))], [(0, .seq (.int .u8) s12.2)], 1⟩ hX (by kernel_rfl) (allCons hg28 allNil) ?_
          rcases of_bif hT26 with ⟨hb29, hT26⟩ | ⟨hb29, hT26⟩
          · refine HT.cond1 rfl hb29 ?_
            exact HT.rgK [oH] [(0, 0)] [] hX (by kernel_rfl) allNil (fun _ h => (qThen (h.ht (cont (1 : Int) (of_some hT26)))))
          · refine HT.cond0 rfl hb29 ?_
            refine HT.skip (qThen ?_)
            exact (Le.re [(0, 0)] [] hX (by kernel_rfl)).ht (cont (0 : Int) (of_some hT26))
      · refine HT.cond0 rfl hb23 ?_
        have hx21 := of_some hx21
        subst hx21
        exact HT.exitL (Le.re [(0, 0)] [] hX (by kernel_rfl)) (qThenE (qLoopE (hk22 s12.2 rfl)))
  · refine HT.rg2 [oH] ⟨[(0, .one (.ip (.st (.pair .str (.st (.pair tI (.pair tI (.pair tLI (.sl .bool))))))) a0 0)), (3, aV 0), (45, iV (lenI a0.2.2.2.1)), (46, iV s9.1), (47, bV (decide (s9.1 < (lenI a0.2.2.2.1))))], [(0, .seq (.int .u8) s9.2)], 1⟩ hX (by kernel_rfl) allNil ?_
    refine HT.seq ?_
    rcases of_bif hx32 with ⟨hb34, hx32⟩ | ⟨hb34, hx32⟩
    · refine HT.cond1 rfl hb34 ?_
      refine HT.skip (qThen ?_)
      refine HT.seq ?_
      refine HT.block ?_
      refine HT.rg2 (oHs 2) ⟨[(0, .one (.ip (.st (.pair .str (.st (.pair tI (.pair tI (.pair tLI (.sl .bool))))))) a0 0)), (3, aV 0), (4, iV s9.1), (45, iV (lenI a0.2.2.2.1)), (46, iV s9.1)], [(0, .seq (.int .u8) s9.2)], 1⟩ hX (by kernel_rfl) allNil ?_
      obtain ⟨hg35, hx32⟩ := of_guard hx32
      obtain ⟨hg36, hx32⟩ := of_guard hx32
      refine HT.rgL [oH, oH, oH, oH, oH, oH, oH, oH, oH, oH, ⟨none, .ty (.int .u8)⟩, ⟨none, .ty (.int .u8)⟩, oH] ⟨[(0, .one (.ip (.st (.pair .str (.st (.pair tI (.pair tI (.pair tLI (.sl .bool))))))) a0 0)), (3, aV 2), (45, iV (lenI a0.2.2.2.1)), (46, iV s9.1)], [(2, .seq (.int .u8) (s9.2 ++ ([(IntKind.wrap .u8 (List.getD a0.2.2.2.1 (Int.toNat s9.1) (0 : Int)))] : List Int)))], 3⟩ hX (by kernel_rfl) (allCons hg35 (allCons hg36 allNil)) (qBlock (qThen ?_))
      have hx32 := of_some hx32
      subst hx32
      exact HT.rgK (oHs 2) [(2, 0)] [] hX (by kernel_rfl) allNil (fun _ h => (qLoopN ⟨((wadd .i64 s9.1 (1 : Int)), (s9.2 ++ ([(IntKind.wrap .u8 (List.getD a0.2.2.2.1 (Int.toNat s9.1) (0 : Int)))] : List Int))), rfl, h⟩))
    · refine HT.cond0 rfl hb34 ?_
      have hx32 := of_some hx32
      subst hx32
      exact HT.exitL (Le.re [(0, 0)] [] hX (by kernel_rfl)) (qThenE (qLoopE (hk33 s9.2 rfl)))

noncomputable def spec_l07Begin_B1 (a0 : List UInt8) (q3 : Int) (q11 : Int) (s17 : Int × List Bool) : Option ((Int × List Bool) ⊕ (List Bool)) :=
  bif (decide (s17.1 < (IntKind.wrap .i64 ((((List.getD a0 (Int.toNat q3) 0 : UInt8).toNat : Nat)) : Int)))) then
    guardP ((0 : Int) ≤ (wadd .i64 (wadd .i64 (wadd .i64 q3 (2 : Int)) q11) s17.1) ∧ (wadd .i64 (wadd .i64 (wadd .i64 q3 (2 : Int)) q11) s17.1) < lenI a0) (
      guardP (List.length s17.2 + List.length ([(((((List.getD a0 (Int.toNat (wadd .i64 (wadd .i64 (wadd .i64 q3 (2 : Int)) q11) s17.1)) 0 : UInt8).toNat : Nat)) : Int) == (1 : Int))] : List Bool) ≤ appMax) (
        some (.inl ((wadd .i64 s17.1 (1 : Int)), (s17.2 ++ ([(((((List.getD a0 (Int.toNat (wadd .i64 (wadd .i64 (wadd .i64 q3 (2 : Int)) q11) s17.1)) 0 : UInt8).toNat : Nat)) : Int) == (1 : Int))] : List Bool))))))
  else
    some (.inr s17.2)

noncomputable def spec_l07Begin_B2 (a0 : List UInt8) (q3 : Int) (q11 : Int) (s14 : Int × List Int) : Option ((Int × List Int) ⊕ (List Int)) :=
  bif (decide (s14.1 < q11)) then
    guardP ((0 : Int) ≤ (wadd .i64 (wadd .i64 q3 (2 : Int)) s14.1) ∧ (wadd .i64 (wadd .i64 q3 (2 : Int)) s14.1) < lenI a0) (
      guardP (List.length s14.2 + List.length ([(IntKind.wrap .i64 ((((List.getD a0 (Int.toNat (wadd .i64 (wadd .i64 q3 (2 : Int)) s14.1)) 0 : UInt8).toNat : Nat)) : Int))] : List Int) ≤ appMax) (
        some (.inl ((wadd .i64 s14.1 (1 : Int)), (s14.2 ++ ([(IntKind.wrap .i64 ((((List.getD a0 (Int.toNat (wadd .i64 (wadd .i64 q3 (2 : Int)) s14.1)) 0 : UInt8).toNat : Nat)) : Int))] : List Int))))))
  else
    some (.inr s14.2)

noncomputable def spec_l07Begin (a0 : List UInt8) : Option ((List UInt8 × Int × Int × List Int × List Bool) × Int) :=
  bif (decide ((lenI a0) < (5 : Int))) then
    some ((([] : List UInt8), (0 : Int), (0 : Int), ([] : List Int), ([] : List Bool)), (0 : Int))
  else
    guardP ((0 : Int) ≤ (4 : Int) ∧ (4 : Int) < lenI a0) (
      (some (wadd .i64 (5 : Int) (IntKind.wrap .i64 ((((List.getD a0 (Int.toNat (4 : Int)) 0 : UInt8).toNat : Nat)) : Int)))).bind fun q3 =>
      bif (decide ((wadd .i64 q3 (2 : Int)) > (lenI a0))) then
        some ((([] : List UInt8), (0 : Int), (0 : Int), ([] : List Int), ([] : List Bool)), (0 : Int))
      else
        guardP ((0 : Int) ≤ (5 : Int) ∧ (5 : Int) ≤ q3 ∧ q3 ≤ lenI a0) (
          guardP ((0 : Int) ≤ q3 ∧ q3 < lenI a0) (
            guardP ((0 : Int) ≤ (wadd .i64 q3 (1 : Int)) ∧ (wadd .i64 q3 (1 : Int)) < lenI a0) (
              (some (IntKind.wrap .i64 ((((List.getD a0 (Int.toNat (wadd .i64 q3 (1 : Int))) 0 : UInt8).toNat : Nat)) : Int))).bind fun q9 =>
              (some (wmul .i64 (IntKind.wrap .i64 ((((List.getD a0 (Int.toNat q3) 0 : UInt8).toNat : Nat)) : Int)) (IntKind.wrap .i64 ((((List.getD a0 (Int.toNat (wadd .i64 q3 (1 : Int))) 0 : UInt8).toNat : Nat)) : Int)))).bind fun q11 =>
              bif (decide ((wadd .i64 (wadd .i64 (wadd .i64 (wadd .i64 q3 (2 : Int)) q11) (IntKind.wrap .i64 ((((List.getD a0 (Int.toNat q3) 0 : UInt8).toNat : Nat)) : Int))) (2 : Int)) > (lenI a0))) then
                some ((([] : List UInt8), (0 : Int), (0 : Int), ([] : List Int), ([] : List Bool)), (0 : Int))
              else
                (rounds (spec_l07Begin_B2 a0 q3 q11) ((0 : Int), ([] : List Int))).bind fun r16 =>
                (rounds (spec_l07Begin_B1 a0 q3 q11) ((0 : Int), ([] : List Bool))).bind fun r19 =>
                (some (wadd .i64 (wadd .i64 (wadd .i64 q3 (2 : Int)) q11) (IntKind.wrap .i64 ((((List.getD a0 (Int.toNat q3) 0 : UInt8).toNat : Nat)) : Int)))).bind fun q20 =>
                (show Option (Bool) from
                  (spec_l07Kept ((cut a0 (5 : Int) q3), (IntKind.wrap .i64 ((((List.getD a0 (Int.toNat q3) 0 : UInt8).toNat : Nat)) : Int)), q9, r16, r19)).bind fun y26 =>
                  bif (!y26) then
                    some true
                  else
                    (spec_l07Store ((cut a0 (5 : Int) q3), (IntKind.wrap .i64 ((((List.getD a0 (Int.toNat q3) 0 : UInt8).toNat : Nat)) : Int)), q9, r16, r19)).bind fun y29 =>
                    guardP ((0 : Int) ≤ (wadd .i64 q20 (2 : Int)) ∧ (wadd .i64 q20 (2 : Int)) ≤ lenI a0) (
                      some (y29 != (cut a0 (0 : Int) (wadd .i64 q20 (2 : Int)))))).bind fun v22 =>
                bif v22 then
                  some ((([] : List UInt8), (0 : Int), (0 : Int), ([] : List Int), ([] : List Bool)), (0 : Int))
                else
                  some (((cut a0 (5 : Int) q3), (IntKind.wrap .i64 ((((List.getD a0 (Int.toNat q3) 0 : UInt8).toNat : Nat)) : Int)), q9, r16, r19), (wadd .i64 q20 (2 : Int)))))))

theorem f69_ok {a0 : List UInt8} {r : (List UInt8 × Int × Int × List Int × List Bool) × Int} (hr : spec_l07Begin a0 = some r) : CallOK Try.prog 69 [.imm .str a0] [⟨true, (.st (.pair .str (.st (.pair tI (.pair tI (.pair tLI (.sl .bool))))))), r.1⟩, ⟨false, tI, r.2⟩] [] := by
  unfold spec_l07Begin at hr
  refine CallOK.of_body (ts := [(true, (.st (.pair .str (.st (.pair tI (.pair tI (.pair tLI (.sl .bool)))))))), (false, tI)]) Try.func69 rfl (by kernel_rfl) (Nat.le_of_ble_eq_true (by kernel_rfl)) fun cx hP hN hO hF => ?_
  have hO : cx.own.map Prod.fst = [] := hO
  have hX := CxIs.mk hP hN hO
  have hF := hF rfl
  show HT cx ⟨[(0, .one (.dat .str a0))], [], 0⟩ _ _
  refine HT.rg2 (oHs 2) ⟨[(0, .one (.dat .str a0)), (2, pV 0 0)], [(0, .box [.dat .str ([] : List UInt8), iC (0 : Int), iC (0 : Int), .nilS, .nilS])], 1⟩ hX (by kernel_rfl) allNil ?_
  refine HT.seq ?_
  refine HT.rg2 (oHs 3) ⟨[(0, .one (.dat .str a0)), (2, pV 0 0), (12, bV (decide ((lenI a0) < (5 : Int))))], [(0, .box [.dat .str ([] : List UInt8), iC (0 : Int), iC (0 : Int), .nilS, .nilS])], 1⟩ hX (by kernel_rfl) allNil ?_
  rcases of_bif hr with ⟨hb1, hr⟩ | ⟨hb1, hr⟩
  · refine HT.cond1 rfl hb1 ?_
    refine HT.rg2 (oHs 3) ⟨[(2, pV 0 0), (3, iV (0 : Int))], [(0, .box [.dat .str ([] : List UInt8), iC (0 : Int), iC (0 : Int), .nilS, .nilS])], 1⟩ hX (by kernel_rfl) allNil ?_
    have hr := of_some hr
    subst hr
    exact HT.ret (qThenR ⟨[.agg [.dat .str ([] : List UInt8), iC (0 : Int), iC (0 : Int), .nilS, .nilS], iV (0 : Int)], [], [], by kernel_rfl, by kernel_rfl, rfl, by kernel_rfl, by kernel_rfl, trivial⟩)
  · refine HT.cond0 rfl hb1 ?_
    refine HT.skip (qThen ?_)
    obtain ⟨hg2, hr⟩ := of_guard hr
    refine HT.rg2 (oHs 5) ⟨[(0, .one (.dat .str a0)), (2, pV 0 0), (4, iV (wadd .i64 (5 : Int) (IntKind.wrap .i64 ((((List.getD a0 (Int.toNat (4 : Int)) 0 : UInt8).toNat : Nat)) : Int))))], [(0, .box [.dat .str ([] : List UInt8), iC (0 : Int), iC (0 : Int), .nilS, .nilS])], 1⟩ hX (by kernel_rfl) (allCons hg2 allNil) ?_
    obtain ⟨q3, hq4, hr⟩ := of_bind hr
    have hq4 := of_some2 hq4
    refine (Le.cv (s := ⟨[(0, 0)], [], [], false⟩) (own := []) (ps := [a0 = a0, q3 = (wadd .i64 (5 : Int) (IntKind.wrap .i64 ((((List.getD a0 (Int.toNat (4 : Int)) 0 : UInt8).toNat : Nat)) : Int))), ([] : List UInt8) = ([] : List UInt8), (0 : Int) = (0 : Int), (0 : Int) = (0 : Int)]) (st' := ⟨[(0, .one (.dat .str a0)), (2, pV 0 0), (4, iV q3)], [(0, .box [.dat .str ([] : List UInt8), iC (0 : Int), iC (0 : Int), .nilS, .nilS])], 1⟩) hO (fun h => by cases h) (by kernel_rfl) ⟨rfl, hq4, rfl, rfl, rfl, trivial⟩).ht ?_
    refine HT.seq ?_
    refine HT.rg2 (oHs 5) ⟨[(0, .one (.dat .str a0)), (2, pV 0 0), (4, iV q3), (22, bV (decide ((wadd .i64 q3 (2 : Int)) > (lenI a0))))], [(0, .box [.dat .str ([] : List UInt8), iC (0 : Int), iC (0 : Int), .nilS, .nilS])], 1⟩ hX (by kernel_rfl) allNil ?_
    rcases of_bif hr with ⟨hb5, hr⟩ | ⟨hb5, hr⟩
    · refine HT.cond1 rfl hb5 ?_
      refine HT.rg2 (oHs 3) ⟨[(2, pV 0 0), (3, iV (0 : Int))], [(0, .box [.dat .str ([] : List UInt8), iC (0 : Int), iC (0 : Int), .nilS, .nilS])], 1⟩ hX (by kernel_rfl) allNil ?_
      have hr := of_some hr
      subst hr
      exact HT.ret (qThenR ⟨[.agg [.dat .str ([] : List UInt8), iC (0 : Int), iC (0 : Int), .nilS, .nilS], iV (0 : Int)], [], [], by kernel_rfl, by kernel_rfl, rfl, by kernel_rfl, by kernel_rfl, trivial⟩)
    · refine HT.cond0 rfl hb5 ?_
      refine HT.skip (qThen ?_)
      obtain ⟨hg6, hr⟩ := of_guard hr
      obtain ⟨hg7, hr⟩ := of_guard hr
      obtain ⟨hg8, hr⟩ := of_guard hr
      refine HT.dr2 15 [⟨oH, []⟩, ⟨oH, []⟩, ⟨oH, [0, 1]⟩, ⟨oH, []⟩, ⟨oH, []⟩, ⟨oH, [3, 4]⟩, ⟨oH, [3, 4, 5]⟩, ⟨oH, []⟩, ⟨oH, []⟩, ⟨oH, [8]⟩, ⟨oH, [7, 8, 9]⟩, ⟨oH, [7, 8, 9, 10]⟩, ⟨oH, [3, 4, 5, 6, 7, 8, 9, 10, 11]⟩, ⟨oH, [0, 1, 2, 3, 4, 5, 6, 7, 8, 9, 10, 11, 12]⟩, ⟨oH, []⟩] [[0, 1, 2, 3, 4, 5, 6, 7, 8, 9, 10, 11, 12, 13, 14]] [oH] ⟨[(0, .one (.dat .str a0)), (2, pV 0 0), (4, iV q3), (5, pV 1 0)], [(1, .box [.dat .str (cut a0 (5 : Int) q3), iC (IntKind.wrap .i64 ((((List.getD a0 (Int.toNat q3) 0 : UInt8).toNat : Nat)) : Int)), iC (IntKind.wrap .i64 ((((List.getD a0 (Int.toNat (wadd .i64 q3 (1 : Int))) 0 : UInt8).toNat : Nat)) : Int)), .nilS, .nilS]), (0, .box [.dat .str ([] : List UInt8), iC (0 : Int), iC (0 : Int), .nilS, .nilS])], 2⟩ hX (by kernel_rfl) (by kernel_rfl) (allCons hg6 (allCons hg7 (allCons hg8 allNil))) ?_
      obtain ⟨q9, hq10, hr⟩ := of_bind hr
      have hq10 := of_some2 hq10
      refine (Le.cv (s := ⟨[(1, 1), (0, 0)], [], [], false⟩) (own := []) (ps := [a0 = a0, q3 = q3, (cut a0 (5 : Int) q3) = (cut a0 (5 : Int) q3), (IntKind.wrap .i64 ((((List.getD a0 (Int.toNat q3) 0 : UInt8).toNat : Nat)) : Int)) = (IntKind.wrap .i64 ((((List.getD a0 (Int.toNat q3) 0 : UInt8).toNat : Nat)) : Int)), q9 = (IntKind.wrap .i64 ((((List.getD a0 (Int.toNat (wadd .i64 q3 (1 : Int))) 0 : UInt8).toNat : Nat)) : Int)), ([] : List UInt8) = ([] : List UInt8), (0 : Int) = (0 : Int), (0 : Int) = (0 : Int)]) (st' := ⟨[(0, .one (.dat .str a0)), (2, pV 0 0), (4, iV q3), (5, pV 1 0)], [(1, .box [.dat .str (cut a0 (5 : Int) q3), iC (IntKind.wrap .i64 ((((List.getD a0 (Int.toNat q3) 0 : UInt8).toNat : Nat)) : Int)), iC q9, .nilS, .nilS]), (0, .box [.dat .str ([] : List UInt8), iC (0 : Int), iC (0 : Int), .nilS, .nilS])], 2⟩) hO (fun h => by cases h) (by kernel_rfl) ⟨rfl, rfl, rfl, rfl, hq10, rfl, rfl, rfl, trivial⟩).ht ?_
      refine HT.rg2 (oHs 5) ⟨[(0, .one (.dat .str a0)), (2, pV 0 0), (4, iV q3), (5, pV 1 0), (6, iV (IntKind.wrap .i64 ((((List.getD a0 (Int.toNat q3) 0 : UInt8).toNat : Nat)) : Int)))], [(1, .box [.dat .str (cut a0 (5 : Int) q3), iC (IntKind.wrap .i64 ((((List.getD a0 (Int.toNat q3) 0 : UInt8).toNat : Nat)) : Int)), iC q9, .nilS, .nilS]), (0, .box [.dat .str ([] : List UInt8), iC (0 : Int), iC (0 : Int), .nilS, .nilS])], 2⟩ hX (by kernel_rfl) (allCons hg7 allNil) ?_
      refine HT.rg2 (oHs 8) ⟨[(0, .one (.dat .str a0)), (2, pV 0 0), (4, iV q3), (5, pV 1 0), (6, iV (IntKind.wrap .i64 ((((List.getD a0 (Int.toNat q3) 0 : UInt8).toNat : Nat)) : Int))), (7, iV (wmul .i64 (IntKind.wrap .i64 ((((List.getD a0 (Int.toNat q3) 0 : UInt8).toNat : Nat)) : Int)) (IntKind.wrap .i64 ((((List.getD a0 (Int.toNat (wadd .i64 q3 (1 : Int))) 0 : UInt8).toNat : Nat)) : Int))))], [(1, .box [.dat .str (cut a0 (5 : Int) q3), iC (IntKind.wrap .i64 ((((List.getD a0 (Int.toNat q3) 0 : UInt8).toNat : Nat)) : Int)), iC q9, .nilS, .nilS]), (0, .box [.dat .str ([] : List UInt8), iC (0 : Int), iC (0 : Int), .nilS, .nilS])], 2⟩ hX (by kernel_rfl) (allCons hg8 allNil) ?_
      obtain ⟨q11, hq12, hr⟩ := of_bind hr
      have hq12 := of_some2 hq12
      refine (Le.cv (s := ⟨[(1, 1), (0, 0)], [], [], false⟩) (own := []) (ps := [a0 = a0, q3 = q3, (IntKind.wrap .i64 ((((List.getD a0 (Int.toNat q3) 0 : UInt8).toNat : Nat)) : Int)) = (IntKind.wrap .i64 ((((List.getD a0 (Int.toNat q3) 0 : UInt8).toNat : Nat)) : Int)), q11 = (wmul .i64 (IntKind.wrap .i64 ((((List.getD a0 (Int.toNat q3) 0 : UInt8).toNat : Nat)) : Int)) (IntKind.wrap .i64 ((((List.getD a0 (Int.toNat (wadd .i64 q3 (1 : Int))) 0 : UInt8).toNat : Nat)) : Int))), (cut a0 (5 : Int) q3) = (cut a0 (5 : Int) q3), (IntKind.wrap .i64 ((((List.getD a0 (Int.toNat q3) 0 : UInt8).toNat : Nat)) : Int)) = (IntKind.wrap .i64 ((((List.getD a0 (Int.toNat q3) 0 : UInt8).toNat : Nat)) : Int)), q9 = q9, ([] : List UInt8) = ([] : List UInt8), (0 : Int) = (0 : Int), (0 : Int) = (0 : Int)]) (st' := ⟨[(0, .one (.dat .str a0)), (2, pV 0 0), (4, iV q3), (5, pV 1 0), (6, iV (IntKind.wrap .i64 ((((List.getD a0 (Int.toNat q3) 0 : UInt8).toNat : Nat)) : Int))), (7, iV q11)], [(1, .box [.dat .str (cut a0 (5 : Int) q3), iC (IntKind.wrap .i64 ((((List.getD a0 (Int.toNat q3) 0 : UInt8).toNat : Nat)) : Int)), iC q9, .nilS, .nilS]), (0, .box [.dat .str ([] : List UInt8), iC (0 : Int), iC (0 : Int), .nilS, .nilS])], 2⟩) hO (fun h => by cases h) (by kernel_rfl) ⟨rfl, rfl, rfl, hq12, rfl, rfl, rfl, rfl, rfl, rfl, trivial⟩).ht ?_
      refine HT.rg2 (oHs 3) ⟨[(0, .one (.dat .str a0)), (2, pV 0 0), (4, iV (wadd .i64 q3 (2 : Int))), (5, pV 1 0), (6, iV (IntKind.wrap .i64 ((((List.getD a0 (Int.toNat q3) 0 : UInt8).toNat : Nat)) : Int))), (7, iV q11)], [(1, .box [.dat .str (cut a0 (5 : Int) q3), iC (IntKind.wrap .i64 ((((List.getD a0 (Int.toNat q3) 0 : UInt8).toNat : Nat)) : Int)), iC q9, .nilS, .nilS]), (0, .box [.dat .str ([] : List UInt8), iC (0 : Int), iC (0 : Int), .nilS, .nilS])], 2⟩ hX (by kernel_rfl) allNil ?_
      refine HT.seq ?_
      refine HT.rg2 (oHs 9) ⟨[(0, .one (.dat .str a0)), (2, pV 0 0), (4, iV (wadd .i64 q3 (2 : Int))), (5, pV 1 0), (6, iV (IntKind.wrap .i64 ((((List.getD a0 (Int.toNat q3) 0 : UInt8).toNat : Nat)) : Int))), (7, iV q11), (59, bV (decide ((wadd .i64 (wadd .i64 (wadd .i64 (wadd .i64 q3 (2 : Int)) q11) (IntKind.wrap .i64 ((((List.getD a0 (Int.toNat q3) 0 : UInt8).toNat : Nat)) : Int))) (2 : Int)) > (lenI a0))))], [(1, .box [.dat .str (cut a0 (5 : Int) q3), iC (IntKind.wrap .i64 ((((List.getD a0 (Int.toNat q3) 0 : UInt8).toNat : Nat)) : Int)), iC q9, .nilS, .nilS]), (0, .box [.dat .str ([] : List UInt8), iC (0 : Int), iC (0 : Int), .nilS, .nilS])], 2⟩ hX (by kernel_rfl) allNil ?_
      rcases of_bif hr with ⟨hb13, hr⟩ | ⟨hb13, hr⟩
      · refine HT.cond1 rfl hb13 ?_
        refine HT.rg2 (oHs 3) ⟨[(2, pV 0 0), (3, iV (0 : Int))], [(0, .box [.dat .str ([] : List UInt8), iC (0 : Int), iC (0 : Int), .nilS, .nilS])], 2⟩ hX (by kernel_rfl) allNil ?_
        have hr := of_some hr
        subst hr
        exact HT.ret (qThenR ⟨[.agg [.dat .str ([] : List UInt8), iC (0 : Int), iC (0 : Int), .nilS, .nilS], iV (0 : Int)], [], [], by kernel_rfl, by kernel_rfl, rfl, by kernel_rfl, by kernel_rfl, trivial⟩)
      · refine HT.cond0 rfl hb13 ?_
        refine HT.skip (qThen ?_)
        refine HT.seq ?_
        refine HT.rg2 [oH] ⟨[(0, .one (.dat .str a0)), (2, pV 0 0), (4, iV (wadd .i64 q3 (2 : Int))), (5, pV 1 0), (6, iV (IntKind.wrap .i64 ((((List.getD a0 (Int.toNat q3) 0 : UInt8).toNat : Nat)) : Int))), (7, iV q11), (8, iV (0 : Int))], [(1, .box [.dat .str (cut a0 (5 : Int) q3), iC (IntKind.wrap .i64 ((((List.getD a0 (Int.toNat q3) 0 : UInt8).toNat : Nat)) : Int)), iC q9, .nilS, .nilS]), (0, .box [.dat .str ([] : List UInt8), iC (0 : Int), iC (0 : Int), .nilS, .nilS])], 2⟩ hX (by kernel_rfl) allNil ?_
        refine HT.block ?_
        obtain ⟨r15, hL45, hr⟩ := of_bind hr
        refine HT.loopL (fun (s14 : Int × List Int) => ⟨[(0, .one (.dat .str a0)), (2, pV 0 0), (4, iV (wadd .i64 q3 (2 : Int))), (5, pV 1 0), (6, iV (IntKind.wrap .i64 ((((List.getD a0 (Int.toNat q3) 0 : UInt8).toNat : Nat)) : Int))), (7, iV q11), (8, iV s14.1)], [(0, .box [.dat .str ([] : List UInt8), iC (0 : Int), iC (0 : Int), .nilS, .nilS]), (1, .box [.dat .str (cut a0 (5 : Int) q3), iC (IntKind.wrap .i64 ((((List.getD a0 (Int.toNat q3) 0 : UInt8).toNat : Nat)) : Int)), iC q9, .all 2, .nilS]), (2, .seq tI s14.2)], 3⟩) (fun (r16 : List Int) => (.exit 0, ⟨[(0, .one (.dat .str a0)), (2, pV 0 0), (4, iV (wadd .i64 q3 (2 : Int))), (5, pV 1 0), (6, iV (IntKind.wrap .i64 ((((List.getD a0 (Int.toNat q3) 0 : UInt8).toNat : Nat)) : Int))), (7, iV q11)], [(0, .box [.dat .str ([] : List UInt8), iC (0 : Int), iC (0 : Int), .nilS, .nilS]), (1, .box [.dat .str (cut a0 (5 : Int) q3), iC (IntKind.wrap .i64 ((((List.getD a0 (Int.toNat q3) 0 : UInt8).toNat : Nat)) : Int)), iC q9, .all 2, .nilS]), (2, .seq tI r16)], 3⟩)) (Le.re [(0, 0), (1, 1)] [2] hX (by kernel_rfl)) hL45 ?_ (fun s14 x39 hx40 hk41 => ?_)
        · refine (qBlockX (qThen ?_))
          refine HT.rg2 (oHs 4) ⟨[(0, .one (.dat .str a0)), (2, pV 0 0), (4, iV (wadd .i64 (wadd .i64 q3 (2 : Int)) q11)), (5, pV 1 0), (6, iV (IntKind.wrap .i64 ((((List.getD a0 (Int.toNat q3) 0 : UInt8).toNat : Nat)) : Int)))], [(0, .box [.dat .str ([] : List UInt8), iC (0 : Int), iC (0 : Int), .nilS, .nilS]), (1, .box [.dat .str (cut a0 (5 : Int) q3), iC (IntKind.wrap .i64 ((((List.getD a0 (Int.toNat q3) 0 : UInt8).toNat : Nat)) : Int)), iC q9, .all 2, .nilS]), (2, .seq tI r15)], 3⟩ hX (by kernel_rfl) allNil ?_
          refine HT.seq ?_
          refine HT.rg2 [oH] ⟨[(0, .one (.dat .str a0)), (2, pV 0 0), (4, iV (wadd .i64 (wadd .i64 q3 (2 : Int)) q11)), (5, pV 1 0), (6, iV (IntKind.wrap .i64 ((((List.getD a0 (Int.toNat q3) 0 : UInt8).toNat : Nat)) : Int))), (9, iV (0 : Int))], [(0, .box [.dat .str ([] : List UInt8), iC (0 : Int), iC (0 : Int), .nilS, .nilS]), (1, .box [.dat .str (cut a0 (5 : Int) q3), iC (IntKind.wrap .i64 ((((List.getD a0 (Int.toNat q3) 0 : UInt8).toNat : Nat)) : Int)), iC q9, .all 2, .nilS]), (2, .seq tI r15)], 3⟩ hX (by kernel_rfl) allNil ?_
          refine HT.block ?_
          obtain ⟨r18, hL38, hr⟩ := of_bind hr
          refine HT.loopL (fun (s17 : Int × List Bool) => ⟨[(0, .one (.dat .str a0)), (2, pV 0 0), (4, iV (wadd .i64 (wadd .i64 q3 (2 : Int)) q11)), (5, pV 1 0), (6, iV (IntKind.wrap .i64 ((((List.getD a0 (Int.toNat q3) 0 : UInt8).toNat : Nat)) : Int))), (9, iV s17.1)], [(0, .box [.dat .str ([] : List UInt8), iC (0 : Int), iC (0 : Int), .nilS, .nilS]), (1, .box [.dat .str (cut a0 (5 : Int) q3), iC (IntKind.wrap .i64 ((((List.getD a0 (Int.toNat q3) 0 : UInt8).toNat : Nat)) : Int)), iC q9, .all 2, .all 3]), (2, .seq tI r15), (3, .seq .bool s17.2)], 4⟩) (fun (r19 : List Bool) => (.exit 2, ⟨[(0, .one (.dat .str a0)), (2, pV 0 0), (4, iV (wadd .i64 (wadd .i64 q3 (2 : Int)) q11)), (5, pV 1 0), (6, iV (IntKind.wrap .i64 ((((List.getD a0 (Int.toNat q3) 0 : UInt8).toNat : Nat)) : Int)))], [(0, .box [.dat .str ([] : List UInt8), iC (0 : Int), iC (0 : Int), .nilS, .nilS]), (1, .box [.dat .str (cut a0 (5 : Int) q3), iC (IntKind.wrap .i64 ((((List.getD a0 (Int.toNat q3) 0 : UInt8).toNat : Nat)) : Int)), iC q9, .all 2, .all 3]), (2, .seq tI r15), (3, .seq .bool r19)], 4⟩)) (Le.re [(0, 0), (1, 1), (2, 2)] [3] hX (by kernel_rfl)) hL38 ?_ (fun s17 x32 hx33 hk34 => ?_)
          · refine (qBlockX (qThen ?_))
            refine HT.rg2 (oHs 4) ⟨[(0, .one (.dat .str a0)), (2, pV 0 0), (4, iV (wadd .i64 (wadd .i64 (wadd .i64 q3 (2 : Int)) q11) (IntKind.wrap .i64 ((((List.getD a0 (Int.toNat q3) 0 : UInt8).toNat : Nat)) : Int)))), (5, pV 1 0)], [(0, .box [.dat .str ([] : List UInt8), iC (0 : Int), iC (0 : Int), .nilS, .nilS]), (1, .box [.dat .str (cut a0 (5 : Int) q3), iC (IntKind.wrap .i64 ((((List.getD a0 (Int.toNat q3) 0 : UInt8).toNat : Nat)) : Int)), iC q9, .all 2, .all 3]), (2, .seq tI r15), (3, .seq .bool r18)], 4⟩ hX (by kernel_rfl) allNil ?_
            obtain ⟨q20, hq21, hr⟩ := of_bind hr
            have hq21 := of_some2 hq21
            refine (Le.cv (s := ⟨[(0, 0), (1, 1), (2, 2), (3, 3)], [], [], false⟩) (own := []) (ps := [a0 = a0, q20 = (wadd .i64 (wadd .i64 (wadd .i64 q3 (2 : Int)) q11) (IntKind.wrap .i64 ((((List.getD a0 (Int.toNat q3) 0 : UInt8).toNat : Nat)) : Int))), ([] : List UInt8) = ([] : List UInt8), (0 : Int) = (0 : Int), (0 : Int) = (0 : Int), (cut a0 (5 : Int) q3) = (cut a0 (5 : Int) q3), (IntKind.wrap .i64 ((((List.getD a0 (Int.toNat q3) 0 : UInt8).toNat : Nat)) : Int)) = (IntKind.wrap .i64 ((((List.getD a0 (Int.toNat q3) 0 : UInt8).toNat : Nat)) : Int)), q9 = q9, r15 = r15, r18 = r18]) (st' := ⟨[(0, .one (.dat .str a0)), (2, pV 0 0), (4, iV q20), (5, pV 1 0)], [(0, .box [.dat .str ([] : List UInt8), iC (0 : Int), iC (0 : Int), .nilS, .nilS]), (1, .box [.dat .str (cut a0 (5 : Int) q3), iC (IntKind.wrap .i64 ((((List.getD a0 (Int.toNat q3) 0 : UInt8).toNat : Nat)) : Int)), iC q9, .all 2, .all 3]), (2, .seq tI r15), (3, .seq .bool r18)], 4⟩) hO (fun h => by cases h) (by kernel_rfl) ⟨rfl, hq21, rfl, rfl, rfl, rfl, rfl, rfl, rfl, rfl, trivial⟩).ht ?_
            refine HT.seq ?_
            obtain ⟨v22', hT24, hr⟩ := of_bind hr
            refine HT.join (fun (v22 : Bool) => ⟨[(2, pV 0 0), (4, iV q20), (5, pV 1 0), (112, bV v22)], [(0, .box [.dat .str ([] : List UInt8), iC (0 : Int), iC (0 : Int), .nilS, .nilS]), (1, .box [.dat .str (cut a0 (5 : Int) q3), iC (IntKind.wrap .i64 ((((List.getD a0 (Int.toNat q3) 0 : UInt8).toNat : Nat)) : Int)), iC q9, .all 2, .all 3]), (2, .seq tI r15), (3, .seq .bool r18)], 4⟩) (fun v => v = v22') (fun v22 hv23 => ?_) (fun cont => ?_)
            · subst hv23
              rcases of_bif hr with ⟨hb25, hr⟩ | ⟨hb25, hr⟩
              · refine HT.cond1 rfl hb25 ?_
                refine HT.rg2 (oHs 3) ⟨[(2, pV 0 0), (3, iV (0 : Int))], [(0, .box [.dat .str ([] : List UInt8), iC (0 : Int), iC (0 : Int), .nilS, .nilS])], 4⟩ hX (by kernel_rfl) allNil ?_
                have hr := of_some hr
                subst hr
                exact HT.ret (qThenR ⟨[.agg [.dat .str ([] : List UInt8), iC (0 : Int), iC (0 : Int), .nilS, .nilS], iV (0 : Int)], [], [], by kernel_rfl, by kernel_rfl, rfl, by kernel_rfl, by kernel_rfl, trivial⟩)
              · refine HT.cond0 rfl hb25 ?_
                refine HT.skip (qThen ?_)
                refine HT.rg2 (oHs 5) ⟨[(2, pV 0 0), (3, iV (wadd .i64 q20 (2 : Int)))], [(0, .box [.dat .str (cut a0 (5 : Int) q3), iC (IntKind.wrap .i64 ((((List.getD a0 (Int.toNat q3) 0 : UInt8).toNat : Nat)) : Int)), iC q9, .all 2, .all 3]), (2, .seq tI r15), (3, .seq .bool r18)], 4⟩ hX (by kernel_rfl) allNil ?_
                have hr := of_some hr
                subst hr
                exact HT.ret ⟨[.agg [.dat .str (cut a0 (5 : Int) q3), iC (IntKind.wrap .i64 ((((List.getD a0 (Int.toNat q3) 0 : UInt8).toNat : Nat)) : Int)), iC q9, .all 2, .all 3], iV (wadd .i64 q20 (2 : Int))], [2, 3], [], by kernel_rfl, by kernel_rfl, rfl, by kernel_rfl, by kernel_rfl, trivial⟩
            · obtain ⟨y26, hc27, hT24⟩ := of_bind hT24
              rcases of_bif hT24 with ⟨hb28, hT24⟩ | ⟨hb28, hT24⟩
              · exact HT.drK 8 [⟨⟨none, .call [.pimm (.st (.pair .str (.st (.pair tI (.pair tI (.pair tLI (.sl .bool)))))))] [⟨false, .bool, y26⟩] []⟩, []⟩, ⟨oH, [0]⟩, ⟨oH, [0, 1]⟩, ⟨⟨some true, .no⟩, [0, 1, 2]⟩, ⟨⟨some true, .no⟩, [0, 1, 2]⟩, ⟨⟨some true, .no⟩, [0, 1, 2]⟩, ⟨⟨some true, .no⟩, [0, 1, 2, 5]⟩, ⟨⟨some true, .no⟩, [0, 1, 2, 4, 5, 6]⟩] [[0, 1, 2, 3, 4, 5, 6, 7], [0, 1, 2, 3, 4, 5, 6, 7, 8]] [⟨some true, .no⟩, ⟨none, .tv true⟩] [(0, 0), (1, 1), (2, 2), (3, 3)] [] hX (by kernel_rfl) (by kernel_rfl) (allCons (f96_ok hc27) (allCons hb28 (allCons hb28 (allCons hb28 (allCons hb28 (allCons hb28 (allCons hb28 (allCons hb28 allNil)))))))) (fun _ h => (qThen (h.ht (cont true (of_some hT24)))))
              · obtain ⟨y29, hc30, hT24⟩ := of_bind hT24
                obtain ⟨hg31, hT24⟩ := of_guard hT24
                exact HT.drK 8 [⟨⟨none, .call [.pimm (.st (.pair .str (.st (.pair tI (.pair tI (.pair tLI (.sl .bool)))))))] [⟨false, .bool, y26⟩] []⟩, []⟩, ⟨oH, [0]⟩, ⟨oH, [0, 1]⟩, ⟨⟨some false, .call [.pimm (.st (.pair .str (.st (.pair tI (.pair tI (.pair tLI (.sl .bool)))))))] [⟨false, .str, y29⟩] []⟩, [0, 1, 2]⟩, ⟨⟨some false, .no⟩, [0, 1, 2]⟩, ⟨⟨some false, .no⟩, [0, 1, 2]⟩, ⟨⟨some false, .no⟩, [0, 1, 2, 5]⟩, ⟨⟨some false, .no⟩, [0, 1, 2, 4, 5, 6]⟩] [[0, 1, 2, 3, 4, 5, 6, 7], [0, 1, 2, 3, 4, 5, 6, 7, 8]] [⟨some false, .no⟩, ⟨none, .tv false⟩] [(0, 0), (1, 1), (2, 2), (3, 3)] [] hX (by kernel_rfl) (by kernel_rfl) (allCons (f96_ok hc27) (allCons hb28 (allCons (f97_ok hc30) (allCons hb28 (allCons hb28 (allCons hb28 (allCons hb28 (allCons (show (0 : Int) ≤ 0 ∧ (0 : Int) ≤ (wadd .i64 q20 (2 : Int)) ∧ (wadd .i64 q20 (2 : Int)) ≤ lenI a0 from ⟨Int.le_refl _, hg31.1, hg31.2⟩) (allCons hb28 (allCons hb28 allNil)))))))))) (fun _ h => (qThen (h.ht (cont (y29 != (cut a0 (0 : Int) (wadd .i64 q20 (2 : Int)))) (of_some hT24)))))
          · refine HT.seq ?_
            refine HT.rg2 (oHs 3) ⟨[(0, .one (.dat .str a0)), (2, pV 0 0), (4, iV (wadd .i64 (wadd .i64 q3 (2 : Int)) q11)), (5, pV 1 0), (6, iV (IntKind.wrap .i64 ((((List.getD a0 (Int.toNat q3) 0 : UInt8).toNat : Nat)) : Int))), (9, iV s17.1), (84, bV (decide (s17.1 < (IntKind.wrap .i64 ((((List.getD a0 (Int.toNat q3) 0 : UInt8).toNat : Nat)) : Int)))))], [(0, .box [.dat .str ([] : List UInt8), iC (0 : Int), iC (0 : Int), .nilS, .nilS]), (1, .box [.dat .str (cut a0 (5 : Int) q3), iC (IntKind.wrap .i64 ((((List.getD a0 (Int.toNat q3) 0 : UInt8).toNat : Nat)) : Int)), iC q9, .all 2, .all 3]), (2, .seq tI r15), (3, .seq .bool s17.2)], 4⟩ hX (by kernel_rfl) allNil ?_
            rcases of_bif hx33 with ⟨hb35, hx33⟩ | ⟨hb35, hx33⟩
            · refine HT.cond1 rfl hb35 ?_
              refine HT.skip (qThen ?_)
              refine HT.seq ?_
              refine HT.block ?_
              obtain ⟨hg36, hx33⟩ := of_guard hx33
              obtain ⟨hg37, hx33⟩ := of_guard hx33
              refine HT.drL 10 [⟨oH, []⟩, ⟨oH, [0]⟩, ⟨oH, [0, 1]⟩, ⟨oH, []⟩, ⟨oH, []⟩, ⟨oH, []⟩, ⟨oH, [4, 5]⟩, ⟨oH, [3, 4, 5, 6]⟩, ⟨oH, [3, 4, 5, 6, 7]⟩, ⟨⟨none, .ty .bool⟩, [3, 4, 5, 6, 7, 8]⟩] [[0, 1, 2, 3, 4, 5, 6, 7, 8, 9], [0, 1, 2, 3, 4, 5, 6, 7, 8, 9, 10], [0, 1, 2, 3, 4, 5, 6, 7, 8, 9, 10, 11], [0, 1, 2, 3, 4, 5, 6, 7, 8, 9, 10, 11, 12]] [⟨none, .ty .bool⟩, oH, oH, oH] ⟨[(0, .one (.dat .str a0)), (2, pV 0 0), (4, iV (wadd .i64 (wadd .i64 q3 (2 : Int)) q11)), (5, pV 1 0), (6, iV (IntKind.wrap .i64 ((((List.getD a0 (Int.toNat q3) 0 : UInt8).toNat : Nat)) : Int))), (9, iV s17.1)], [(1, .box [.dat .str (cut a0 (5 : Int) q3), iC (IntKind.wrap .i64 ((((List.getD a0 (Int.toNat q3) 0 : UInt8).toNat : Nat)) : Int)), iC q9, .all 2, .all 5]), (5, .seq .bool (s17.2 ++ ([(((((List.getD a0 (Int.toNat (wadd .i64 (wadd .i64 (wadd .i64 q3 (2 : Int)) q11) s17.1)) 0 : UInt8).toNat : Nat)) : Int) == (1 : Int))] : List Bool))), (0, .box [.dat .str ([] : List UInt8), iC (0 : Int), iC (0 : Int), .nilS, .nilS]), (2, .seq tI r15)], 6⟩ hX (by kernel_rfl) (by kernel_rfl) (allCons hg36 (allCons hg37 allNil)) (qBlock (qThen ?_))
              have hx33 := of_some hx33
              subst hx33
              exact HT.rgK (oHs 3) [(0, 0), (1, 1), (2, 2), (5, 3)] [] hX (by kernel_rfl) allNil (fun _ h => (qLoopN ⟨((wadd .i64 s17.1 (1 : Int)), (s17.2 ++ ([(((((List.getD a0 (Int.toNat (wadd .i64 (wadd .i64 (wadd .i64 q3 (2 : Int)) q11) s17.1)) 0 : UInt8).toNat : Nat)) : Int) == (1 : Int))] : List Bool))), rfl, h⟩))
            · refine HT.cond0 rfl hb35 ?_
              have hx33 := of_some hx33
              subst hx33
              exact HT.exitL (Le.re [(0, 0), (1, 1), (2, 2), (3, 3)] [] hX (by kernel_rfl)) (qThenE (qLoopE (hk34 s17.2 rfl)))
        · refine HT.seq ?_
          refine HT.rg2 (oHs 3) ⟨[(0, .one (.dat .str a0)), (2, pV 0 0), (4, iV (wadd .i64 q3 (2 : Int))), (5, pV 1 0), (6, iV (IntKind.wrap .i64 ((((List.getD a0 (Int.toNat q3) 0 : UInt8).toNat : Nat)) : Int))), (7, iV q11), (8, iV s14.1), (63, bV (decide (s14.1 < q11)))], [(0, .box [.dat .str ([] : List UInt8), iC (0 : Int), iC (0 : Int), .nilS, .nilS]), (1, .box [.dat .str (cut a0 (5 : Int) q3), iC (IntKind.wrap .i64 ((((List.getD a0 (Int.toNat q3) 0 : UInt8).toNat : Nat)) : Int)), iC q9, .all 2, .nilS]), (2, .seq tI s14.2)], 3⟩ hX (by kernel_rfl) allNil ?_
          rcases of_bif hx40 with ⟨hb42, hx40⟩ | ⟨hb42, hx40⟩
          · refine HT.cond1 rfl hb42 ?_
            refine HT.skip (qThen ?_)
            refine HT.seq ?_
            refine HT.block ?_
            obtain ⟨hg43, hx40⟩ := of_guard hx40
            obtain ⟨hg44, hx40⟩ := of_guard hx40
            refine HT.drL 10 [⟨oH, []⟩, ⟨oH, [0]⟩, ⟨oH, [0, 1]⟩, ⟨oH, []⟩, ⟨oH, []⟩, ⟨oH, []⟩, ⟨oH, [4, 5]⟩, ⟨oH, [3, 4, 5, 6]⟩, ⟨oH, [3, 4, 5, 6, 7]⟩, ⟨⟨none, .ty tI⟩, [3, 4, 5, 6, 7, 8]⟩] [[0, 1, 2, 3, 4, 5, 6, 7, 8, 9], [0, 1, 2, 3, 4, 5, 6, 7, 8, 9, 10], [0, 1, 2, 3, 4, 5, 6, 7, 8, 9, 10, 11], [0, 1, 2, 3, 4, 5, 6, 7, 8, 9, 10, 11, 12]] [⟨none, .ty tI⟩, oH, oH, oH] ⟨[(0, .one (.dat .str a0)), (2, pV 0 0), (4, iV (wadd .i64 q3 (2 : Int))), (5, pV 1 0), (6, iV (IntKind.wrap .i64 ((((List.getD a0 (Int.toNat q3) 0 : UInt8).toNat : Nat)) : Int))), (7, iV q11), (8, iV s14.1)], [(1, .box [.dat .str (cut a0 (5 : Int) q3), iC (IntKind.wrap .i64 ((((List.getD a0 (Int.toNat q3) 0 : UInt8).toNat : Nat)) : Int)), iC q9, .all 4, .nilS]), (4, .seq tI (s14.2 ++ ([(IntKind.wrap .i64 ((((List.getD a0 (Int.toNat (wadd .i64 (wadd .i64 q3 (2 : Int)) s14.1)) 0 : UInt8).toNat : Nat)) : Int))] : List Int))), (0, .box [.dat .str ([] : List UInt8), iC (0 : Int), iC (0 : Int), .nilS, .nilS])], 5⟩ hX (by kernel_rfl) (by kernel_rfl) (allCons hg43 (allCons hg44 allNil)) (qBlock (qThen ?_))
            have hx40 := of_some hx40
            subst hx40
            exact HT.rgK (oHs 3) [(0, 0), (1, 1), (4, 2)] [] hX (by kernel_rfl) allNil (fun _ h => (qLoopN ⟨((wadd .i64 s14.1 (1 : Int)), (s14.2 ++ ([(IntKind.wrap .i64 ((((List.getD a0 (Int.toNat (wadd .i64 (wadd .i64 q3 (2 : Int)) s14.1)) 0 : UInt8).toNat : Nat)) : Int))] : List Int))), rfl, h⟩))
          · refine HT.cond0 rfl hb42 ?_
            have hx40 := of_some hx40
            subst hx40
            exact HT.exitL (Le.re [(0, 0), (1, 1), (2, 2)] [] hX (by kernel_rfl)) (qThenE (qLoopE (hk41 s14.2 rfl)))

noncomputable def spec_RecoverKepts_B1 (a0 : List UInt8) (s1 : Int × (List (List UInt8 × Int × Int × List Int × List Bool))) : Option ((Int × (List (List UInt8 × Int × Int × List Int × List Bool))) ⊕ ((Int × (List (List UInt8 × Int × Int × List Int × List Bool))))) :=
  bif (decide ((lenI s1.2) < (8 : Int))) then
    guardP ((0 : Int) ≤ s1.1 ∧ s1.1 ≤ lenI a0) (
      (spec_l07Begin (cut a0 s1.1 (lenI a0))).bind fun y9 =>
      bif (y9.2 == (0 : Int)) then
        some (.inr (s1.1, s1.2))
      else
        guardP (List.length s1.2 + List.length ([(y9.1.1, y9.1.2.1, y9.1.2.2.1, y9.1.2.2.2.1, y9.1.2.2.2.2)] : List (List UInt8 × Int × Int × List Int × List Bool)) ≤ appMax) (
          (some (s1.2 ++ ([(y9.1.1, y9.1.2.1, y9.1.2.2.1, y9.1.2.2.2.1, y9.1.2.2.2.2)] : List (List UInt8 × Int × Int × List Int × List Bool)))).bind fun q13 =>
          some (.inl ((wadd .i64 s1.1 y9.2), q13))))
  else
    some (.inr (s1.1, s1.2))

noncomputable def spec_RecoverKepts (a0 : List UInt8) : Option ((List (List UInt8 × Int × Int × List Int × List Bool)) × Int × Bool) :=
  (rounds (spec_RecoverKepts_B1 a0) ((0 : Int), ([] : List (List UInt8 × Int × Int × List Int × List Bool)))).bind fun r3 =>
  some (r3.2, r3.1, true)

theorem f37_ok {a0 : List UInt8} {r : (List (List UInt8 × Int × Int × List Int × List Bool)) × Int × Bool} (hr : spec_RecoverKepts a0 = some r) : CallOK Try.prog 37 [.imm .str a0] [⟨true, (.sl (.st (.pair .str (.st (.pair tI (.pair tI (.pair (.own tI) (.own .bool)))))))), r.1⟩, ⟨false, tI, r.2.1⟩, ⟨false, .bool, r.2.2⟩] [] := by
  unfold spec_RecoverKepts at hr
  refine CallOK.of_body (ts := [(true, (.sl (.st (.pair .str (.st (.pair tI (.pair tI (.pair (.own tI) (.own .bool))))))))), (false, tI), (false, .bool)]) Try.func37 rfl (by kernel_rfl) (Nat.le_of_ble_eq_true (by kernel_rfl)) fun cx hP hN hO hF => ?_
  have hO : cx.own.map Prod.fst = [] := hO
  have hX := CxIs.mk hP hN hO
  have hF := hF rfl
  show HT cx ⟨[(0, .one (.dat .str a0))], [], 0⟩ _ _
  refine HT.rg2 (oHs 3) ⟨[(0, .one (.dat .str a0))], [], 0⟩ hX (by kernel_rfl) allNil ?_
  refine HT.rg2 (oHs 2) ⟨[(0, .one (.dat .str a0)), (5, .one (.nilS))], [], 0⟩ hX (by kernel_rfl) allNil ?_
  refine HT.rg2 [oH] ⟨[(0, .one (.dat .str a0)), (5, .one (.nilS)), (6, iV (0 : Int))], [], 0⟩ hX (by kernel_rfl) allNil ?_
  refine HT.seq ?_
  refine HT.block ?_
  obtain ⟨r2, hL15, hr⟩ := of_bind hr
  refine HT.loopL (fun (s1 : Int × (List (List UInt8 × Int × Int × List Int × List Bool))) => ⟨[(0, .one (.dat .str a0)), (5, aV 0), (6, iV s1.1)], [(0, .seq (.st (.pair .str (.st (.pair tI (.pair tI (.pair (.own tI) (.own .bool))))))) s1.2)], 1⟩) (fun (r3 : (Int × (List (List UInt8 × Int × Int × List Int × List Bool)))) => (.exit 0, ⟨[(5, aV 0), (6, iV r3.1)], [(0, .seq (.st (.pair .str (.st (.pair tI (.pair tI (.pair (.own tI) (.own .bool))))))) r3.2)], 1⟩)) (Le.re [] [0] hX (by kernel_rfl)) hL15 ?_ (fun s1 x4 hx5 hk6 => ?_)
  · refine (qBlockX (qThen ?_))
    refine HT.rg2 (oHs 5) ⟨[(2, aV 0), (3, iV r2.1), (4, bV true)], [(0, .seq (.st (.pair .str (.st (.pair tI (.pair tI (.pair (.own tI) (.own .bool))))))) r2.2)], 1⟩ hX (by kernel_rfl) allNil ?_
    have hr := of_some hr
    subst hr
    exact HT.ret ⟨[aV 0, iV r2.1, bV true], [0], [], by kernel_rfl, by kernel_rfl, rfl, by kernel_rfl, by kernel_rfl, trivial⟩
  · refine HT.seq ?_
    refine HT.rg2 (oHs 3) ⟨[(0, .one (.dat .str a0)), (5, aV 0), (6, iV s1.1), (12, bV (decide ((lenI s1.2) < (8 : Int))))], [(0, .seq (.st (.pair .str (.st (.pair tI (.pair tI (.pair (.own tI) (.own .bool))))))) s1.2)], 1⟩ hX (by kernel_rfl) allNil ?_
    rcases of_bif hx5 with ⟨hb7, hx5⟩ | ⟨hb7, hx5⟩
    · refine HT.cond1 rfl hb7 ?_
      refine HT.skip (qThen ?_)
      refine HT.block ?_
      obtain ⟨hg8, hx5⟩ := of_guard hx5
      obtain ⟨y9, hc10, hx5⟩ := of_bind hx5
      refine HT.rg2 [oH, oH, oH, ⟨none, .call [.imm .str] [⟨true, (.st (.pair .str (.st (.pair tI (.pair tI (.pair tLI (.sl .bool))))))), y9.1⟩, ⟨false, tI, y9.2⟩] []⟩, oH, oH, oH, oH, oH, oH] ⟨[(0, .one (.dat .str a0)), (5, aV 0), (6, iV s1.1), (7, pV 3 0), (8, iV y9.2)], [(3, .box [.dat .str y9.1.1, iC y9.1.2.1, iC y9.1.2.2.1, .all 1, .all 2]), (1, .seq tI y9.1.2.2.2.1), (2, .seq .bool y9.1.2.2.2.2), (0, .seq (.st (.pair .str (.st (.pair tI (.pair tI (.pair (.own tI) (.own .bool))))))) s1.2)], 4⟩ hX (by kernel_rfl) (allCons (show (0 : Int) ≤ s1.1 ∧ s1.1 ≤ lenI a0 ∧ lenI a0 ≤ lenI a0 from ⟨hg8.1, hg8.2, Int.le_refl _⟩) (allCons (f69_ok hc10) allNil)) ?_
      refine HT.seq ?_
      refine HT.rg2 (oHs 2) ⟨[(0, .one (.dat .str a0)), (5, aV 0), (6, iV s1.1), (7, pV 3 0), (8, iV y9.2), (21, bV (y9.2 == (0 : Int)))], [(3, .box [.dat .str y9.1.1, iC y9.1.2.1, iC y9.1.2.2.1, .all 1, .all 2]), (1, .seq tI y9.1.2.2.2.1), (2, .seq .bool y9.1.2.2.2.2), (0, .seq (.st (.pair .str (.st (.pair tI (.pair tI (.pair (.own tI) (.own .bool))))))) s1.2)], 4⟩ hX (by kernel_rfl) allNil ?_
      rcases of_bif hx5 with ⟨hb11, hx5⟩ | ⟨hb11, hx5⟩
      · refine HT.cond1 rfl hb11 ?_
        have hx5 := of_some hx5
        subst hx5
        exact HT.exitL (Le.re [(0, 0)] [] hX (by kernel_rfl)) (qThenE (qBlockE rfl (qLoopE (hk6 (s1.1, s1.2) rfl))))
      · refine HT.cond0 rfl hb11 ?_
        refine HT.skip (qThen ?_)
        obtain ⟨hg12, hx5⟩ := of_guard hx5
        refine HT.rg2 [oH, oH, ⟨none, .ty (.st (.pair .str (.st (.pair tI (.pair tI (.pair (.own tI) (.own .bool)))))))⟩, ⟨none, .ty (.st (.pair .str (.st (.pair tI (.pair tI (.pair (.own tI) (.own .bool)))))))⟩, oH] ⟨[(0, .one (.dat .str a0)), (5, aV 5), (6, iV s1.1), (8, iV y9.2)], [(5, .seq (.st (.pair .str (.st (.pair tI (.pair tI (.pair (.own tI) (.own .bool))))))) (s1.2 ++ ([(y9.1.1, y9.1.2.1, y9.1.2.2.1, y9.1.2.2.2.1, y9.1.2.2.2.2)] : List (List UInt8 × Int × Int × List Int × List Bool))))], 6⟩ hX (by kernel_rfl) (allCons hg12 allNil) ?_
        obtain ⟨q13, hq14, hx5⟩ := of_bind hx5
        have hq14 := of_some2 hq14
        refine (Le.cv (s := ⟨[(5, 5)], [], [], false⟩) (own := []) (ps := [a0 = a0, s1.1 = s1.1, y9.2 = y9.2, q13 = (s1.2 ++ ([(y9.1.1, y9.1.2.1, y9.1.2.2.1, y9.1.2.2.2.1, y9.1.2.2.2.2)] : List (List UInt8 × Int × Int × List Int × List Bool)))]) (st' := ⟨[(0, .one (.dat .str a0)), (5, aV 5), (6, iV s1.1), (8, iV y9.2)], [(5, .seq (.st (.pair .str (.st (.pair tI (.pair tI (.pair (.own tI) (.own .bool))))))) q13)], 6⟩) hO (fun h => by cases h) (by kernel_rfl) ⟨rfl, rfl, rfl, hq14, trivial⟩).ht ?_
        have hx5 := of_some hx5
        subst hx5
        exact HT.rgK (oHs 4) [(5, 0)] [] hX (by kernel_rfl) allNil (fun _ h => (qBlock (qLoopN ⟨((wadd .i64 s1.1 y9.2), q13), rfl, h⟩)))
    · refine HT.cond0 rfl hb7 ?_
      have hx5 := of_some hx5
      subst hx5
      exact HT.exitL (Le.re [(0, 0)] [] hX (by kernel_rfl)) (qThenE (qLoopE (hk6 (s1.1, s1.2) rfl)))

noncomputable def impl_IsName_B1 (a0 : List UInt8) (s1 : Int) : Option ((Int) ⊕ (Unit ⊕ Unit)) :=
  bif (decide (s1 < (lenI a0))) then
    (show Option (Bool) from
      guardP ((0 : Int) ≤ s1 ∧ s1 < lenI a0) (
        bif (decide (((((List.getD a0 (Int.toNat s1) 0 : UInt8).toNat : Nat)) : Int) < (97 : Int))) then
          some true
        else
          some (decide (((((List.getD a0 (Int.toNat s1) 0 : UInt8).toNat : Nat)) : Int) > (122 : Int))))).bind fun v13 =>
    bif v13 then
      some (.inr (.inr ()))
    else
      some (.inl (wadd .i64 s1 (1 : Int)))
  else
    some (.inr (.inl ()))

noncomputable def impl_IsName (a0 : List UInt8) : Option (Bool) :=
  (rounds (impl_IsName_B1 a0) (0 : Int)).bind fun r2 => match r2 with
    | .inl r3 =>
      (show Option (Bool) from
        bif (decide ((lenI a0) ≥ (1 : Int))) then
          some (decide ((lenI a0) ≤ (8 : Int)))
        else
          some false).bind fun v4 =>
      some v4
    | .inr r8 =>
      some false

theorem f137_ok {a0 : List UInt8} {r : Bool} (hr : impl_IsName a0 = some r) : CallOK Try.prog 137 [.imm .str a0] [⟨false, .bool, r⟩] [] := by
  unfold impl_IsName at hr
  refine CallOK.of_body (ts := [(false, .bool)]) Try.func137 rfl (by kernel_rfl) (Nat.le_of_ble_eq_true (by kernel_rfl)) fun cx hP hN hO hF => ?_
  have hO : cx.own.map Prod.fst = [] := hO
  have hX := CxIs.mk hP hN hO
  have hF := hF rfl
  show HT cx ⟨[(0, .one (.dat .str a0))], [], 0⟩ _ _
  refine HT.rg2 [oH] ⟨[(0, .one (.dat .str a0))], [], 0⟩ hX (by kernel_rfl) allNil ?_
  refine HT.seq ?_
  refine HT.rg2 (oHs 3) ⟨[(0, .one (.dat .str a0)), (5, iV (lenI a0)), (6, iV (0 : Int))], [], 0⟩ hX (by kernel_rfl) allNil ?_
  refine HT.block ?_
  obtain ⟨r2, hL19, hr⟩ := of_bind hr
  refine HT.loopL (fun (s1 : Int) => ⟨[(0, .one (.dat .str a0)), (5, iV (lenI a0)), (6, iV s1)], [], 0⟩) (fun (r2 : Unit ⊕ Unit) => match r2 with | .inl r3 => (.exit 0, ⟨[(0, .one (.dat .str a0))], [], 0⟩) | .inr r8 => (.ret, ⟨[(2, bV false)], [], 0⟩)) (Le.re [] [] hX (by kernel_rfl)) hL19 ?_ (fun s1 x9 hx10 hk11 => ?_)
  · rcases r2 with r3 | r8
    · refine (qBlockX (qThen ?_))
      obtain ⟨v4', hT6, hr⟩ := of_bind hr
      refine HT.join (fun (v4 : Bool) => ⟨[(2, bV v4)], [], 0⟩) (fun v => v = v4') (fun v4 hv5 => ?_) (fun cont => ?_)
      · subst hv5
        have hr := of_some hr
        subst hr
        exact HT.ret ⟨[bV v4], [], [], by kernel_rfl, by kernel_rfl, rfl, by kernel_rfl, by kernel_rfl, trivial⟩
      · rcases of_bif hT6 with ⟨hb7, hT6⟩ | ⟨hb7, hT6⟩
        · exact HT.rgK [oH, oH, oH, oH, ⟨some true, .no⟩, ⟨some true, .no⟩, ⟨some true, .no⟩, ⟨none, .tv true⟩, oH] [] [] hX (by kernel_rfl) (allCons hb7 (allCons hb7 (allCons hb7 (allCons hb7 allNil)))) (fun _ h => (qThen (h.ht (cont (decide ((lenI a0) ≤ (8 : Int))) (of_some hT6)))))
        · exact HT.rgK [oH, oH, oH, oH, ⟨some false, .no⟩, ⟨some false, .no⟩, ⟨some false, .no⟩, ⟨none, .tv false⟩, oH] [] [] hX (by kernel_rfl) (allCons hb7 (allCons hb7 (allCons hb7 (allCons hb7 allNil)))) (fun _ h => (qThen (h.ht (cont false (of_some hT6)))))
    · have hr := of_some hr
      subst hr
      exact (qBlockR (qThenR ⟨[bV false], [], [], by kernel_rfl, by kernel_rfl, rfl, by kernel_rfl, by kernel_rfl, trivial⟩))
  · refine HT.rg2 [oH] ⟨[(0, .one (.dat .str a0)), (5, iV (lenI a0)), (6, iV s1), (7, bV (decide (s1 < (lenI a0))))], [], 0⟩ hX (by kernel_rfl) allNil ?_
    refine HT.seq ?_
    rcases of_bif hx10 with ⟨hb12, hx10⟩ | ⟨hb12, hx10⟩
    · refine HT.cond1 rfl hb12 ?_
      refine HT.skip (qThen ?_)
      refine HT.seq ?_
      refine HT.block ?_
      refine HT.rg2 (oHs 2) ⟨[(0, .one (.dat .str a0)), (3, iV s1), (5, iV (lenI a0)), (6, iV s1)], [], 0⟩ hX (by kernel_rfl) allNil ?_
      obtain ⟨v13', hT15, hx10⟩ := of_bind hx10
      refine HT.join (fun (v13 : Bool) => ⟨[(0, .one (.dat .str a0)), (5, iV (lenI a0)), (6, iV s1), (18, bV v13)], [], 0⟩) (fun v => v = v13') (fun v13 hv14 => ?_) (fun cont => ?_)
      · subst hv14
        rcases of_bif hx10 with ⟨hb16, hx10⟩ | ⟨hb16, hx10⟩
        · refine HT.cond1 rfl hb16 ?_
          refine HT.rg2 [oH] ⟨[(2, bV false)], [], 0⟩ hX (by kernel_rfl) allNil ?_
          have hx10 := of_some hx10
          subst hx10
          exact HT.retL (Le.re [] [] hX (by kernel_rfl)) (qBlockR (qThenR (qLoopR (hk11 (.inr ()) rfl))))
        · refine HT.cond0 rfl hb16 ?_
          refine HT.skip (qBlock (qThen ?_))
          have hx10 := of_some hx10
          subst hx10
          exact HT.rgK (oHs 2) [] [] hX (by kernel_rfl) allNil (fun _ h => (qLoopN ⟨(wadd .i64 s1 (1 : Int)), rfl, h⟩))
      · obtain ⟨hg17, hT15⟩ := of_guard hT15
        rcases of_bif hT15 with ⟨hb18, hT15⟩ | ⟨hb18, hT15⟩
        · exact HT.rgK [oH, oH, oH, oH, oH, ⟨some true, .no⟩, ⟨some true, .no⟩, ⟨some true, .no⟩, ⟨some true, .no⟩, ⟨none, .tv true⟩] [] [] hX (by kernel_rfl) (allCons hg17 (allCons hb18 (allCons hb18 (allCons hb18 (allCons hb18 (allCons hb18 allNil)))))) (fun _ h => (qThen (h.ht (cont true (of_some hT15)))))
        · exact HT.rgK [oH, oH, oH, oH, oH, ⟨some false, .no⟩, ⟨some false, .no⟩, ⟨some false, .no⟩, ⟨some false, .no⟩, ⟨none, .tv false⟩] [] [] hX (by kernel_rfl) (allCons hg17 (allCons hb18 (allCons hb18 (allCons hb18 (allCons hg17 (allCons hb18 (allCons hb18 allNil))))))) (fun _ h => (qThen (h.ht (cont (decide (((((List.getD a0 (Int.toNat s1) 0 : UInt8).toNat : Nat)) : Int) > (122 : Int))) (of_some hT15)))))
    · refine HT.cond0 rfl hb12 ?_
      have hx10 := of_some hx10
      subst hx10
      exact HT.exitL (Le.re [] [] hX (by kernel_rfl)) (qThenE (qLoopE (hk11 (.inl ()) rfl)))

noncomputable def impl_within (a0 : Int) (a1 : Int) (a2 : Int) : Option (Bool) :=
  (show Option (Bool) from
    bif (decide (a0 ≥ a1)) then
      some (decide (a0 ≤ a2))
    else
      some false).bind fun v1 =>
  some v1

theorem f54_ok {a0 : Int} {a1 : Int} {a2 : Int} {r : Bool} (hr : impl_within a0 a1 a2 = some r) : CallOK Try.prog 54 [.imm tI a0, .imm tI a1, .imm tI a2] [⟨false, .bool, r⟩] [] := by
  unfold impl_within at hr
  refine CallOK.of_body (ts := [(false, .bool)]) Try.func54 rfl (by kernel_rfl) (Nat.le_of_ble_eq_true (by kernel_rfl)) fun cx hP hN hO hF => ?_
  have hO : cx.own.map Prod.fst = [] := hO
  have hX := CxIs.mk hP hN hO
  have hF := hF rfl
  show HT cx ⟨[(0, iV a0), (1, iV a1), (2, iV a2)], [], 0⟩ _ _
  refine HT.rg2 [oH] ⟨[(0, iV a0), (1, iV a1), (2, iV a2)], [], 0⟩ hX (by kernel_rfl) allNil ?_
  obtain ⟨v1', hT3, hr⟩ := of_bind hr
  refine HT.join (fun (v1 : Bool) => ⟨[(6, bV v1)], [], 0⟩) (fun v => v = v1') (fun v1 hv2 => ?_) (fun cont => ?_)
  · subst hv2
    have hr := of_some hr
    subst hr
    exact HT.ret ⟨[bV v1], [], [], by kernel_rfl, by kernel_rfl, rfl, by kernel_rfl, by kernel_rfl, trivial⟩
  · rcases of_bif hT3 with ⟨hb4, hT3⟩ | ⟨hb4, hT3⟩
    · exact HT.rgK [oH, oH, oH, oH, ⟨some true, .no⟩, ⟨some true, .no⟩, ⟨some true, .no⟩, ⟨none, .tv true⟩, oH] [] [] hX (by kernel_rfl) (allCons hb4 (allCons hb4 (allCons hb4 (allCons hb4 allNil)))) (fun _ h => (qThen (h.ht (cont (decide (a0 ≤ a2)) (of_some hT3)))))
    · exact HT.rgK [oH, oH, oH, oH, ⟨some false, .no⟩, ⟨some false, .no⟩, ⟨some false, .no⟩, ⟨none, .tv false⟩, oH] [] [] hX (by kernel_rfl) (allCons hb4 (allCons hb4 (allCons hb4 (allCons hb4 allNil)))) (fun _ h => (qThen (h.ht (cont false (of_some hT3)))))

noncomputable def impl_areWithin_B1 (a0 : List Int) (a1 : Int) (a2 : Int) (s1 : Int) : Option ((Int) ⊕ (Unit ⊕ Unit)) :=
  bif (decide (s1 < (lenI a0))) then
    guardP ((0 : Int) ≤ s1 ∧ s1 < lenI a0) (
      (impl_within (List.getD a0 (Int.toNat s1) (0 : Int)) a1 a2).bind fun y10 =>
      bif (!y10) then
        some (.inr (.inr ()))
      else
        some (.inl (wadd .i64 s1 (1 : Int))))
  else
    some (.inr (.inl ()))

noncomputable def impl_areWithin (a0 : List Int) (a1 : Int) (a2 : Int) : Option (Bool) :=
  (rounds (impl_areWithin_B1 a0 a1 a2) (0 : Int)).bind fun r2 => match r2 with
    | .inl r3 =>
      some true
    | .inr r4 =>
      some false

theorem f103_ok {a0 : List Int} {a1 : Int} {a2 : Int} {r : Bool} (hr : impl_areWithin a0 a1 a2 = some r) : CallOK Try.prog 103 [.imm tLI a0, .imm tI a1, .imm tI a2] [⟨false, .bool, r⟩] [] := by
  unfold impl_areWithin at hr
  refine CallOK.of_body (ts := [(false, .bool)]) Try.func103 rfl (by kernel_rfl) (Nat.le_of_ble_eq_true (by kernel_rfl)) fun cx hP hN hO hF => ?_
  have hO : cx.own.map Prod.fst = [] := hO
  have hX := CxIs.mk hP hN hO
  have hF := hF rfl
  show HT cx ⟨[(0, nV a0), (1, iV a1), (2, iV a2)], [], 0⟩ _ _
  refine HT.rg2 [oH] ⟨[(0, nV a0), (1, iV a1), (2, iV a2)], [], 0⟩ hX (by kernel_rfl) allNil ?_
  refine HT.seq ?_
  refine HT.rg2 (oHs 3) ⟨[(1, iV a1), (2, iV a2), (9, nV a0), (10, iV (lenI a0)), (11, iV (0 : Int))], [], 0⟩ hX (by kernel_rfl) allNil ?_
  refine HT.block ?_
  obtain ⟨r2, hL13, hr⟩ := of_bind hr
  refine HT.loopL (fun (s1 : Int) => ⟨[(1, iV a1), (2, iV a2), (9, nV a0), (10, iV (lenI a0)), (11, iV s1)], [], 0⟩) (fun (r2 : Unit ⊕ Unit) => match r2 with | .inl r3 => (.exit 0, ⟨[], [], 0⟩) | .inr r4 => (.ret, ⟨[(6, bV false)], [], 0⟩)) (Le.re [] [] hX (by kernel_rfl)) hL13 ?_ (fun s1 x5 hx6 hk7 => ?_)
  · rcases r2 with r3 | r4
    · refine (qBlockX (qThen ?_))
      refine HT.rg2 [oH] ⟨[(6, bV true)], [], 0⟩ hX (by kernel_rfl) allNil ?_
      have hr := of_some hr
      subst hr
      exact HT.ret ⟨[bV true], [], [], by kernel_rfl, by kernel_rfl, rfl, by kernel_rfl, by kernel_rfl, trivial⟩
    · have hr := of_some hr
      subst hr
      exact (qBlockR (qThenR ⟨[bV false], [], [], by kernel_rfl, by kernel_rfl, rfl, by kernel_rfl, by kernel_rfl, trivial⟩))
  · refine HT.rg2 [oH] ⟨[(1, iV a1), (2, iV a2), (9, nV a0), (10, iV (lenI a0)), (11, iV s1), (12, bV (decide (s1 < (lenI a0))))], [], 0⟩ hX (by kernel_rfl) allNil ?_
    refine HT.seq ?_
    rcases of_bif hx6 with ⟨hb8, hx6⟩ | ⟨hb8, hx6⟩
    · refine HT.cond1 rfl hb8 ?_
      refine HT.skip (qThen ?_)
      refine HT.seq ?_
      refine HT.block ?_
      obtain ⟨hg9, hx6⟩ := of_guard hx6
      refine HT.rg2 (oHs 3) ⟨[(1, iV a1), (2, iV a2), (8, iV (List.getD a0 (Int.toNat s1) (0 : Int))), (9, nV a0), (10, iV (lenI a0)), (11, iV s1)], [], 0⟩ hX (by kernel_rfl) (allCons hg9 allNil) ?_
      obtain ⟨y10, hc11, hx6⟩ := of_bind hx6
      refine HT.rg2 [oH, oH, oH, ⟨none, .call [.imm tI, .imm tI, .imm tI] [⟨false, .bool, y10⟩] []⟩, oH] ⟨[(1, iV a1), (2, iV a2), (9, nV a0), (10, iV (lenI a0)), (11, iV s1), (19, bV (!y10))], [], 0⟩ hX (by kernel_rfl) (allCons (f54_ok hc11) allNil) ?_
      rcases of_bif hx6 with ⟨hb12, hx6⟩ | ⟨hb12, hx6⟩
      · refine HT.cond1 rfl hb12 ?_
        refine HT.rg2 [oH] ⟨[(6, bV false)], [], 0⟩ hX (by kernel_rfl) allNil ?_
        have hx6 := of_some hx6
        subst hx6
        exact HT.retL (Le.re [] [] hX (by kernel_rfl)) (qBlockR (qThenR (qLoopR (hk7 (.inr ()) rfl))))
      · refine HT.cond0 rfl hb12 ?_
        refine HT.skip (qBlock (qThen ?_))
        have hx6 := of_some hx6
        subst hx6
        exact HT.rgK (oHs 2) [] [] hX (by kernel_rfl) allNil (fun _ h => (qLoopN ⟨(wadd .i64 s1 (1 : Int)), rfl, h⟩))
    · refine HT.cond0 rfl hb8 ?_
      have hx6 := of_some hx6
      subst hx6
      exact HT.exitL (Le.re [] [] hX (by kernel_rfl)) (qThenE (qLoopE (hk7 (.inl ()) rfl)))

noncomputable def impl_ValidPlain (a0 : Int × Int × List Int × List Bool) : Option (Bool) :=
  (show Option (Bool) from
    (impl_within a0.1 (1 : Int) (64 : Int)).bind fun y4 =>
    bif y4 then
      (impl_within a0.2.1 (1 : Int) (4 : Int)).bind fun y7 =>
      bif y7 then
        bif ((lenI a0.2.2.1) == (wmul .i64 a0.1 a0.2.1)) then
          (impl_areWithin a0.2.2.1 (0 : Int) (wsub .i64 a0.1 (1 : Int))).bind fun y11 =>
          bif y11 then
            some ((lenI a0.2.2.2) == a0.1)
          else
            some false
        else
          some false
      else
        some false
    else
      some false).bind fun v1 =>
  some v1

theorem f138_ok {a0 : Int × Int × List Int × List Bool} {r : Bool} (hr : impl_ValidPlain a0 = some r) : CallOK Try.prog 138 [.imm (.st (.pair tI (.pair tI (.pair tLI (.sl .bool))))) a0] [⟨false, .bool, r⟩] [] := by
  unfold impl_ValidPlain at hr
  refine CallOK.of_body (ts := [(false, .bool)]) Try.func138 rfl (by kernel_rfl) (Nat.le_of_ble_eq_true (by kernel_rfl)) fun cx hP hN hO hF => ?_
  have hO : cx.own.map Prod.fst = [] := hO
  have hX := CxIs.mk hP hN hO
  have hF := hF rfl
  show HT cx ⟨[(0, .agg [iC a0.1, iC a0.2.1, nC a0.2.2.1, .dat (.sl .bool) a0.2.2.2])], [], 0⟩ _ _
  refine HT.rg2 (oHs 2) ⟨[(1, pV 0 0)], [(0, .box [iC a0.1, iC a0.2.1, nC a0.2.2.1, .dat (.sl .bool) a0.2.2.2])], 1⟩ hX (by kernel_rfl) allNil ?_
  obtain ⟨v1', hT3, hr⟩ := of_bind hr
  refine HT.join (fun (v1 : Bool) => ⟨[(2, bV v1)], [], 0⟩) (fun v => v = v1') (fun v1 hv2 => ?_) (fun cont => ?_)
  · subst hv2
    have hr := of_some hr
    subst hr
    exact HT.ret ⟨[bV v1], [], [], by kernel_rfl, by kernel_rfl, rfl, by kernel_rfl, by kernel_rfl, trivial⟩
  · obtain ⟨y4, hc5, hT3⟩ := of_bind hT3
    rcases of_bif hT3 with ⟨hb6, hT3⟩ | ⟨hb6, hT3⟩
    · obtain ⟨y7, hc8, hT3⟩ := of_bind hT3
      rcases of_bif hT3 with ⟨hb9, hT3⟩ | ⟨hb9, hT3⟩
      · rcases of_bif hT3 with ⟨hb10, hT3⟩ | ⟨hb10, hT3⟩
        · obtain ⟨y11, hc12, hT3⟩ := of_bind hT3
          rcases of_bif hT3 with ⟨hb13, hT3⟩ | ⟨hb13, hT3⟩
          · exact HT.rgK [oH, oH, ⟨none, .call [.imm tI, .imm tI, .imm tI] [⟨false, .bool, y4⟩] []⟩, oH, ⟨some true, .no⟩, ⟨some true, .no⟩, ⟨some true, .call [.imm tI, .imm tI, .imm tI] [⟨false, .bool, y7⟩] []⟩, ⟨none, .tv true⟩, oH, ⟨some true, .no⟩, ⟨some true, .no⟩, ⟨some true, .no⟩, ⟨some true, .no⟩, ⟨some true, .no⟩, ⟨some true, .no⟩, ⟨some true, .no⟩, ⟨some true, .no⟩, ⟨some true, .no⟩, ⟨none, .tv true⟩, oH, ⟨some true, .no⟩, ⟨some true, .no⟩, ⟨some true, .no⟩, ⟨some true, .no⟩, ⟨some true, .no⟩, ⟨some true, .call [.imm tLI, .imm tI, .imm tI] [⟨false, .bool, y11⟩] []⟩, ⟨none, .tv true⟩, oH, ⟨some true, .no⟩, ⟨some true, .no⟩, ⟨some true, .no⟩, ⟨some true, .no⟩, ⟨some true, .no⟩, ⟨some true, .no⟩, ⟨none, .tv true⟩, oH] [] [] hX (by kernel_rfl) (allCons (f54_ok hc5) (allCons hb6 (allCons hb6 (allCons hb6 (allCons (f54_ok hc8) (allCons hb6 (allCons hb9 (allCons hb9 (allCons hb9 (allCons hb9 (allCons hb9 (allCons hb9 (allCons hb9 (allCons hb9 (allCons hb9 (allCons hb9 (allCons hb10 (allCons hb10 (allCons hb10 (allCons hb10 (allCons hb10 (allCons hb10 (allCons (f103_ok hc12) (allCons hb10 (allCons hb13 (allCons hb13 (allCons hb13 (allCons hb13 (allCons hb13 (allCons hb13 (allCons hb13 allNil))))))))))))))))))))))))))))))) (fun _ h => (qThen (h.ht (cont ((lenI a0.2.2.2) == a0.1) (of_some hT3)))))
          · exact HT.rgK [oH, oH, ⟨none, .call [.imm tI, .imm tI, .imm tI] [⟨false, .bool, y4⟩] []⟩, oH, ⟨some true, .no⟩, ⟨some true, .no⟩, ⟨some true, .call [.imm tI, .imm tI, .imm tI] [⟨false, .bool, y7⟩] []⟩, ⟨none, .tv true⟩, oH, ⟨some true, .no⟩, ⟨some true, .no⟩, ⟨some true, .no⟩, ⟨some true, .no⟩, ⟨some true, .no⟩, ⟨some true, .no⟩, ⟨some true, .no⟩, ⟨some true, .no⟩, ⟨some true, .no⟩, ⟨none, .tv true⟩, oH, ⟨some true, .no⟩, ⟨some true, .no⟩, ⟨some true, .no⟩, ⟨some true, .no⟩, ⟨some true, .no⟩, ⟨some true, .call [.imm tLI, .imm tI, .imm tI] [⟨false, .bool, y11⟩] []⟩, ⟨none, .tv true⟩, oH, ⟨some false, .no⟩, ⟨some false, .no⟩, ⟨some false, .no⟩, ⟨some false, .no⟩, ⟨some false, .no⟩, ⟨some false, .no⟩, ⟨none, .tv false⟩, oH] [] [] hX (by kernel_rfl) (allCons (f54_ok hc5) (allCons hb6 (allCons hb6 (allCons hb6 (allCons (f54_ok hc8) (allCons hb6 (allCons hb9 (allCons hb9 (allCons hb9 (allCons hb9 (allCons hb9 (allCons hb9 (allCons hb9 (allCons hb9 (allCons hb9 (allCons hb9 (allCons hb10 (allCons hb10 (allCons hb10 (allCons hb10 (allCons hb10 (allCons hb10 (allCons (f103_ok hc12) (allCons hb10 (allCons hb13 (allCons hb13 (allCons hb13 (allCons hb13 (allCons hb13 (allCons hb13 (allCons hb13 allNil))))))))))))))))))))))))))))))) (fun _ h => (qThen (h.ht (cont false (of_some hT3)))))
        · exact HT.rgK [oH, oH, ⟨none, .call [.imm tI, .imm tI, .imm tI] [⟨false, .bool, y4⟩] []⟩, oH, ⟨some true, .no⟩, ⟨some true, .no⟩, ⟨some true, .call [.imm tI, .imm tI, .imm tI] [⟨false, .bool, y7⟩] []⟩, ⟨none, .tv true⟩, oH, ⟨some true, .no⟩, ⟨some true, .no⟩, ⟨some true, .no⟩, ⟨some true, .no⟩, ⟨some true, .no⟩, ⟨some true, .no⟩, ⟨some true, .no⟩, ⟨some true, .no⟩, ⟨some true, .no⟩, ⟨none, .tv true⟩, oH, ⟨some false, .no⟩, ⟨some false, .no⟩, ⟨some false, .no⟩, ⟨some false, .no⟩, ⟨some false, .no⟩, ⟨some false, .no⟩, ⟨none, .tv false⟩, oH, ⟨some false, .no⟩, ⟨some false, .no⟩, ⟨some false, .no⟩, ⟨some false, .no⟩, ⟨some false, .no⟩, ⟨some false, .no⟩, ⟨none, .tv false⟩, oH] [] [] hX (by kernel_rfl) (allCons (f54_ok hc5) (allCons hb6 (allCons hb6 (allCons hb6 (allCons (f54_ok hc8) (allCons hb6 (allCons hb9 (allCons hb9 (allCons hb9 (allCons hb9 (allCons hb9 (allCons hb9 (allCons hb9 (allCons hb9 (allCons hb9 (allCons hb9 (allCons hb10 (allCons hb10 (allCons hb10 (allCons hb10 (allCons hb10 (allCons hb10 (allCons hb10 (allCons (rfl : false = false) (allCons (rfl : false = false) (allCons (rfl : false = false) (allCons (rfl : false = false) (allCons (rfl : false = false) (allCons (rfl : false = false) (allCons (rfl : false = false) allNil)))))))))))))))))))))))))))))) (fun _ h => (qThen (h.ht (cont false (of_some hT3)))))
      · exact HT.rgK [oH, oH, ⟨none, .call [.imm tI, .imm tI, .imm tI] [⟨false, .bool, y4⟩] []⟩, oH, ⟨some true, .no⟩, ⟨some true, .no⟩, ⟨some true, .call [.imm tI, .imm tI, .imm tI] [⟨false, .bool, y7⟩] []⟩, ⟨none, .tv true⟩, oH, ⟨some false, .no⟩, ⟨some false, .no⟩, ⟨some false, .no⟩, ⟨some false, .no⟩, ⟨some false, .no⟩, ⟨some false, .no⟩, ⟨some false, .no⟩, ⟨some false, .no⟩, ⟨some false, .no⟩, ⟨none, .tv false⟩, oH, ⟨some false, .no⟩, ⟨some false, .no⟩, ⟨some false, .no⟩, ⟨some false, .no⟩, ⟨some false, .no⟩, ⟨some false, .no⟩, ⟨none, .tv false⟩, oH, ⟨some false, .no⟩, ⟨some false, .no⟩, ⟨some false, .no⟩, ⟨some false, .no⟩, ⟨some false, .no⟩, ⟨some false, .no⟩, ⟨none, .tv false⟩, oH] [] [] hX (by kernel_rfl) (allCons (f54_ok hc5) (allCons hb6 (allCons hb6 (allCons hb6 (allCons (f54_ok hc8) (allCons hb6 (allCons hb9 (allCons hb9 (allCons hb9 (allCons hb9 (allCons hb9 (allCons hb9 (allCons hb9 (allCons hb9 (allCons hb9 (allCons hb9 (allCons (rfl : false = false) (allCons (rfl : false = false) (allCons (rfl : false = false) (allCons (rfl : false = false) (allCons (rfl : false = false) (allCons (rfl : false = false) (allCons (rfl : false = false) (allCons (rfl : false = false) (allCons (rfl : false = false) (allCons (rfl : false = false) (allCons (rfl : false = false) (allCons (rfl : false = false) (allCons (rfl : false = false) (allCons (rfl : false = false) allNil)))))))))))))))))))))))))))))) (fun _ h => (qThen (h.ht (cont false (of_some hT3)))))
    · exact HT.rgK [oH, oH, ⟨none, .call [.imm tI, .imm tI, .imm tI] [⟨false, .bool, y4⟩] []⟩, oH, ⟨some false, .no⟩, ⟨some false, .no⟩, ⟨some false, .no⟩, ⟨none, .tv false⟩, oH, ⟨some false, .no⟩, ⟨some false, .no⟩, ⟨some false, .no⟩, ⟨some false, .no⟩, ⟨some false, .no⟩, ⟨some false, .no⟩, ⟨some false, .no⟩, ⟨some false, .no⟩, ⟨some false, .no⟩, ⟨none, .tv false⟩, oH, ⟨some false, .no⟩, ⟨some false, .no⟩, ⟨some false, .no⟩, ⟨some false, .no⟩, ⟨some false, .no⟩, ⟨some false, .no⟩, ⟨none, .tv false⟩, oH, ⟨some false, .no⟩, ⟨some false, .no⟩, ⟨some false, .no⟩, ⟨some false, .no⟩, ⟨some false, .no⟩, ⟨some false, .no⟩, ⟨none, .tv false⟩, oH] [] [] hX (by kernel_rfl) (allCons (f54_ok hc5) (allCons hb6 (allCons hb6 (allCons hb6 (allCons hb6 (allCons (rfl : false = false) (allCons (rfl : false = false) (allCons (rfl : false = false) (allCons (rfl : false = false) (allCons (rfl : false = false) (allCons (rfl : false = false) (allCons (rfl : false = false) (allCons (rfl : false = false) (allCons (rfl : false = false) (allCons (rfl : false = false) (allCons (rfl : false = false) (allCons (rfl : false = false) (allCons (rfl : false = false) (allCons (rfl : false = false) (allCons (rfl : false = false) (allCons (rfl : false = false) (allCons (rfl : false = false) (allCons (rfl : false = false) (allCons (rfl : false = false) (allCons (rfl : false = false) (allCons (rfl : false = false) (allCons (rfl : false = false) (allCons (rfl : false = false) (allCons (rfl : false = false) allNil))))))))))))))))))))))))))))) (fun _ h => (qThen (h.ht (cont false (of_some hT3)))))

noncomputable def impl_ValidKept (a0 : List UInt8 × Int × Int × List Int × List Bool) : Option (Bool) :=
  (show Option (Bool) from
    (impl_IsName a0.1).bind fun y4 =>
    bif y4 then
      (impl_ValidPlain (a0.2.1, a0.2.2.1, a0.2.2.2.1, a0.2.2.2.2)).bind fun y7 =>
      some y7
    else
      some false).bind fun v1 =>
  some v1

theorem f122_ok {a0 : List UInt8 × Int × Int × List Int × List Bool} {r : Bool} (hr : impl_ValidKept a0 = some r) : CallOK Try.prog 122 [.imm (.st (.pair .str (.st (.pair tI (.pair tI (.pair tLI (.sl .bool))))))) a0] [⟨false, .bool, r⟩] [] := by
  unfold impl_ValidKept at hr
  refine CallOK.of_body (ts := [(false, .bool)]) Try.func122 rfl (by kernel_rfl) (Nat.le_of_ble_eq_true (by kernel_rfl)) fun cx hP hN hO hF => ?_
  have hO : cx.own.map Prod.fst = [] := hO
  have hX := CxIs.mk hP hN hO
  have hF := hF rfl
  show HT cx ⟨[(0, .agg [.dat .str a0.1, iC a0.2.1, iC a0.2.2.1, nC a0.2.2.2.1, .dat (.sl .bool) a0.2.2.2.2])], [], 0⟩ _ _
  refine HT.rg2 (oHs 2) ⟨[(1, pV 0 0)], [(0, .box [.dat .str a0.1, iC a0.2.1, iC a0.2.2.1, nC a0.2.2.2.1, .dat (.sl .bool) a0.2.2.2.2])], 1⟩ hX (by kernel_rfl) allNil ?_
  obtain ⟨v1', hT3, hr⟩ := of_bind hr
  refine HT.join (fun (v1 : Bool) => ⟨[(2, bV v1)], [], 0⟩) (fun v => v = v1') (fun v1 hv2 => ?_) (fun cont => ?_)
  · subst hv2
    have hr := of_some hr
    subst hr
    exact HT.ret ⟨[bV v1], [], [], by kernel_rfl, by kernel_rfl, rfl, by kernel_rfl, by kernel_rfl, trivial⟩
  · obtain ⟨y4, hc5, hT3⟩ := of_bind hT3
    rcases of_bif hT3 with ⟨hb6, hT3⟩ | ⟨hb6, hT3⟩
    · obtain ⟨y7, hc8, hT3⟩ := of_bind hT3
      exact HT.rgK [oH, oH, ⟨none, .call [.imm .str] [⟨false, .bool, y4⟩] []⟩, oH, ⟨some true, .no⟩, ⟨some true, .no⟩, ⟨some true, .call [.imm (.st (.pair tI (.pair tI (.pair tLI (.sl .bool)))))] [⟨false, .bool, y7⟩] []⟩, ⟨none, .tv true⟩, oH] [] [] hX (by kernel_rfl) (allCons (f137_ok hc5) (allCons hb6 (allCons hb6 (allCons hb6 (allCons (f138_ok hc8) (allCons hb6 allNil)))))) (fun _ h => (qThen (h.ht (cont y7 (of_some hT3)))))
    · exact HT.rgK [oH, oH, ⟨none, .call [.imm .str] [⟨false, .bool, y4⟩] []⟩, oH, ⟨some false, .no⟩, ⟨some false, .no⟩, ⟨some false, .no⟩, ⟨none, .tv false⟩, oH] [] [] hX (by kernel_rfl) (allCons (f137_ok hc5) (allCons hb6 (allCons hb6 (allCons hb6 (allCons hb6 allNil))))) (fun _ h => (qThen (h.ht (cont false (of_some hT3)))))

noncomputable def impl_CheckOf_B1 (a1 : List UInt8) (s4 : Int × Int) : Option ((Int × Int) ⊕ (Int)) :=
  bif (decide (s4.2 < (lenI a1))) then
    guardP ((0 : Int) ≤ s4.2 ∧ s4.2 < lenI a1) (
      some (.inl ((Int.tmod (wadd .i64 (wadd .i64 (wmul .i64 (919 : Int) s4.1) (IntKind.wrap .i64 ((((List.getD a1 (Int.toNat s4.2) 0 : UInt8).toNat : Nat)) : Int))) (191 : Int)) (65003 : Int)), (wadd .i64 s4.2 (1 : Int)))))
  else
    some (.inr s4.1)

noncomputable def impl_CheckOf (a0 : Int) (a1 : List UInt8) : Option (Int × Bool) :=
  (impl_within a0 (0 : Int) (65002 : Int)).bind fun y1 =>
  bif (!y1) then
    some ((0 : Int), false)
  else
    (rounds (impl_CheckOf_B1 a1) (a0, (0 : Int))).bind fun r6 =>
    some (r6, true)

theorem f123_ok {a0 : Int} {a1 : List UInt8} {r : Int × Bool} (hr : impl_CheckOf a0 a1 = some r) : CallOK Try.prog 123 [.imm tI a0, .imm .str a1] [⟨false, tI, r.1⟩, ⟨false, .bool, r.2⟩] [] := by
  unfold impl_CheckOf at hr
  refine CallOK.of_body (ts := [(false, tI), (false, .bool)]) Try.func123 rfl (by kernel_rfl) (Nat.le_of_ble_eq_true (by kernel_rfl)) fun cx hP hN hO hF => ?_
  have hO : cx.own.map Prod.fst = [] := hO
  have hX := CxIs.mk hP hN hO
  have hF := hF rfl
  show HT cx ⟨[(0, iV a0), (1, .one (.dat .str a1))], [], 0⟩ _ _
  refine HT.rg2 (oHs 2) ⟨[(0, iV a0), (1, .one (.dat .str a1))], [], 0⟩ hX (by kernel_rfl) allNil ?_
  refine HT.seq ?_
  obtain ⟨y1, hc2, hr⟩ := of_bind hr
  refine HT.rg2 [oH, ⟨none, .call [.imm tI, .imm tI, .imm tI] [⟨false, .bool, y1⟩] []⟩, oH] ⟨[(0, iV a0), (1, .one (.dat .str a1)), (9, bV (!y1))], [], 0⟩ hX (by kernel_rfl) (allCons (f54_ok hc2) allNil) ?_
  rcases of_bif hr with ⟨hb3, hr⟩ | ⟨hb3, hr⟩
  · refine HT.cond1 rfl hb3 ?_
    refine HT.rg2 (oHs 2) ⟨[(4, iV (0 : Int)), (5, bV false)], [], 0⟩ hX (by kernel_rfl) allNil ?_
    have hr := of_some hr
    subst hr
    exact HT.ret (qThenR ⟨[iV (0 : Int), bV false], [], [], by kernel_rfl, by kernel_rfl, rfl, by kernel_rfl, by kernel_rfl, trivial⟩)
  · refine HT.cond0 rfl hb3 ?_
    refine HT.skip (qThen ?_)
    refine HT.seq ?_
    refine HT.rg2 (oHs 3) ⟨[(0, iV a0), (1, .one (.dat .str a1)), (11, iV (lenI a1)), (12, iV (0 : Int))], [], 0⟩ hX (by kernel_rfl) allNil ?_
    refine HT.block ?_
    obtain ⟨r5, hL12, hr⟩ := of_bind hr
    refine HT.loopL (fun (s4 : Int × Int) => ⟨[(0, iV s4.1), (1, .one (.dat .str a1)), (11, iV (lenI a1)), (12, iV s4.2)], [], 0⟩) (fun (r6 : Int) => (.exit 0, ⟨[(0, iV r6)], [], 0⟩)) (Le.re [] [] hX (by kernel_rfl)) hL12 ?_ (fun s4 x7 hx8 hk9 => ?_)
    · refine (qBlockX (qThen ?_))
      refine HT.rg2 (oHs 3) ⟨[(4, iV r5), (5, bV true)], [], 0⟩ hX (by kernel_rfl) allNil ?_
      have hr := of_some hr
      subst hr
      exact HT.ret ⟨[iV r5, bV true], [], [], by kernel_rfl, by kernel_rfl, rfl, by kernel_rfl, by kernel_rfl, trivial⟩
    · refine HT.rg2 [oH] ⟨[(0, iV s4.1), (1, .one (.dat .str a1)), (11, iV (lenI a1)), (12, iV s4.2), (13, bV (decide (s4.2 < (lenI a1))))], [], 0⟩ hX (by kernel_rfl) allNil ?_
      refine HT.seq ?_
      rcases of_bif hx8 with ⟨hb10, hx8⟩ | ⟨hb10, hx8⟩
      · refine HT.cond1 rfl hb10 ?_
        refine HT.skip (qThen ?_)
        refine HT.seq ?_
        refine HT.block ?_
        refine HT.rg2 (oHs 2) ⟨[(0, iV s4.1), (1, .one (.dat .str a1)), (6, iV s4.2), (11, iV (lenI a1)), (12, iV s4.2)], [], 0⟩ hX (by kernel_rfl) allNil ?_
        obtain ⟨hg11, hx8⟩ := of_guard hx8
        refine HT.rgL (oHs 10) ⟨[(0, iV (Int.tmod (wadd .i64 (wadd .i64 (wmul .i64 (919 : Int) s4.1) (IntKind.wrap .i64 ((((List.getD a1 (Int.toNat s4.2) 0 : UInt8).toNat : Nat)) : Int))) (191 : Int)) (65003 : Int))), (1, .one (.dat .str a1)), (11, iV (lenI a1)), (12, iV s4.2)], [], 0⟩ hX (by kernel_rfl) (allCons hg11 (allCons (show (65003 : Int) ≠ 0 from by decide) allNil)) (qBlock (qThen ?_))
        have hx8 := of_some hx8
        subst hx8
        exact HT.rgK (oHs 2) [] [] hX (by kernel_rfl) allNil (fun _ h => (qLoopN ⟨((Int.tmod (wadd .i64 (wadd .i64 (wmul .i64 (919 : Int) s4.1) (IntKind.wrap .i64 ((((List.getD a1 (Int.toNat s4.2) 0 : UInt8).toNat : Nat)) : Int))) (191 : Int)) (65003 : Int)), (wadd .i64 s4.2 (1 : Int))), rfl, h⟩))
      · refine HT.cond0 rfl hb10 ?_
        have hx8 := of_some hx8
        subst hx8
        exact HT.exitL (Le.re [] [] hX (by kernel_rfl)) (qThenE (qLoopE (hk9 s4.1 rfl)))

noncomputable def impl_StoreKept_B1 (a0 : List UInt8 × Int × Int × List Int × List Bool) (s14 : Int × List Int) : Option ((Int × List Int) ⊕ (List Int)) :=
  bif (decide (s14.1 < (lenI a0.2.2.2.2))) then
    (show Option (List Int) from
      guardP ((0 : Int) ≤ s14.1 ∧ s14.1 < lenI a0.2.2.2.2) (
        bif (List.getD a0.2.2.2.2 (Int.toNat s14.1) false) then
          guardP (List.length s14.2 + List.length ([(1 : Int)] : List Int) ≤ appMax) (
            some (s14.2 ++ ([(1 : Int)] : List Int)))
        else
          guardP (List.length s14.2 + List.length ([(0 : Int)] : List Int) ≤ appMax) (
            some (s14.2 ++ ([(0 : Int)] : List Int))))).bind fun v26 =>
    some (.inl ((wadd .i64 s14.1 (1 : Int)), v26))
  else
    some (.inr s14.2)

noncomputable def impl_StoreKept_B2 (a0 : List UInt8 × Int × Int × List Int × List Bool) (s11 : Int × List Int) : Option ((Int × List Int) ⊕ (List Int)) :=
  bif (decide (s11.1 < (lenI a0.2.2.2.1))) then
    guardP ((0 : Int) ≤ s11.1 ∧ s11.1 < lenI a0.2.2.2.1) (
      guardP (List.length s11.2 + List.length ([(IntKind.wrap .u8 (List.getD a0.2.2.2.1 (Int.toNat s11.1) (0 : Int)))] : List Int) ≤ appMax) (
        some (.inl ((wadd .i64 s11.1 (1 : Int)), (s11.2 ++ ([(IntKind.wrap .u8 (List.getD a0.2.2.2.1 (Int.toNat s11.1) (0 : Int)))] : List Int))))))
  else
    some (.inr s11.2)

noncomputable def impl_StoreKept (a0 : List UInt8 × Int × Int × List Int × List Bool) : Option (List UInt8 × Bool) :=
  (impl_ValidKept (a0.1, a0.2.1, a0.2.2.1, a0.2.2.2.1, a0.2.2.2.2)).bind fun y1 =>
  bif (!y1) then
    some (([] : List UInt8), false)
  else
    guardP (List.length ([(65 : Int), (85 : Int), (84 : Int), (49 : Int)] : List Int) + List.length ([(IntKind.wrap .u8 (lenI a0.1))] : List Int) ≤ appMax) (
      (some (([(65 : Int), (85 : Int), (84 : Int), (49 : Int)] : List Int) ++ ([(IntKind.wrap .u8 (lenI a0.1))] : List Int))).bind fun q5 =>
      guardP (List.length q5 + List.length a0.1 ≤ appMax) (
        guardP (List.length (q5 ++ bytesI a0.1) + List.length ([(IntKind.wrap .u8 a0.2.1), (IntKind.wrap .u8 a0.2.2.1)] : List Int) ≤ appMax) (
          (some ((q5 ++ bytesI a0.1) ++ ([(IntKind.wrap .u8 a0.2.1), (IntKind.wrap .u8 a0.2.2.1)] : List Int))).bind fun q9 =>
          (rounds (impl_StoreKept_B2 a0) ((0 : Int), q9)).bind fun r13 =>
          (rounds (impl_StoreKept_B1 a0) ((0 : Int), r13)).bind fun r16 =>
          (impl_CheckOf (0 : Int) (bytesO r16)).bind fun y17 =>
          guardP (List.length r16 + List.length ([(IntKind.wrap .u8 y17.1), (IntKind.wrap .u8 (Int.fdiv y17.1 (2 ^ (min (Int.toNat (8 : Int)) (IntKind.bits .i64)))))] : List Int) ≤ appMax) (
            (some (bytesO (r16 ++ ([(IntKind.wrap .u8 y17.1), (IntKind.wrap .u8 (Int.fdiv y17.1 (2 ^ (min (Int.toNat (8 : Int)) (IntKind.bits .i64)))))] : List Int)))).bind fun q20 =>
            some (q20, true)))))

theorem f98_ok {a0 : List UInt8 × Int × Int × List Int × List Bool} {r : List UInt8 × Bool} (hr : impl_StoreKept a0 = some r) : CallOK Try.prog 98 [.imm (.st (.pair .str (.st (.pair tI (.pair tI (.pair tLI (.sl .bool))))))) a0] [⟨false, .str, r.1⟩, ⟨false, .bool, r.2⟩] [] := by
  unfold impl_StoreKept at hr
  refine CallOK.of_body (ts := [(false, .str), (false, .bool)]) Try.func98 rfl (by kernel_rfl) (Nat.le_of_ble_eq_true (by kernel_rfl)) fun cx hP hN hO hF => ?_
  have hO : cx.own.map Prod.fst = [] := hO
  have hX := CxIs.mk hP hN hO
  have hF := hF rfl
  show HT cx ⟨[(0, .agg [.dat .str a0.1, iC a0.2.1, iC a0.2.2.1, nC a0.2.2.2.1, .dat (.sl .bool) a0.2.2.2.2])], [], 0⟩ _ _
  refine HT.rg2 (oHs 3) ⟨[(1, pV 0 0)], [(0, .box [.dat .str a0.1, iC a0.2.1, iC a0.2.2.1, nC a0.2.2.2.1, .dat (.sl .bool) a0.2.2.2.2])], 1⟩ hX (by kernel_rfl) allNil ?_
  refine HT.seq ?_
  obtain ⟨y1, hc2, hr⟩ := of_bind hr
  refine HT.rg2 [oH, ⟨none, .call [.imm (.st (.pair .str (.st (.pair tI (.pair tI (.pair tLI (.sl .bool)))))))] [⟨false, .bool, y1⟩] []⟩, oH] ⟨[(1, pV 0 0), (13, bV (!y1))], [(0, .box [.dat .str a0.1, iC a0.2.1, iC a0.2.2.1, nC a0.2.2.2.1, .dat (.sl .bool) a0.2.2.2.2])], 1⟩ hX (by kernel_rfl) (allCons (f122_ok hc2) allNil) ?_
  rcases of_bif hr with ⟨hb3, hr⟩ | ⟨hb3, hr⟩
  · refine HT.cond1 rfl hb3 ?_
    refine HT.rg2 (oHs 2) ⟨[(2, .one (.dat .str ([] : List UInt8))), (3, bV false)], [], 1⟩ hX (by kernel_rfl) allNil ?_
    have hr := of_some hr
    subst hr
    exact HT.ret (qThenR ⟨[.one (.dat .str ([] : List UInt8)), bV false], [], [], by kernel_rfl, by kernel_rfl, rfl, by kernel_rfl, by kernel_rfl, trivial⟩)
  · refine HT.cond0 rfl hb3 ?_
    refine HT.skip (qThen ?_)
    obtain ⟨hg4, hr⟩ := of_guard hr
    refine HT.rg2 [⟨none, .ty (.int .u8)⟩, oH, oH, oH, oH, oH, ⟨none, .ty (.int .u8)⟩, ⟨none, .ty (.int .u8)⟩, oH] ⟨[(1, pV 0 0), (4, aV 3)], [(3, .seq (.int .u8) (([(65 : Int), (85 : Int), (84 : Int), (49 : Int)] : List Int) ++ ([(IntKind.wrap .u8 (lenI a0.1))] : List Int))), (0, .box [.dat .str a0.1, iC a0.2.1, iC a0.2.2.1, nC a0.2.2.2.1, .dat (.sl .bool) a0.2.2.2.2])], 4⟩ hX (by kernel_rfl) (allCons (show 0 < List.length ([(65 : Int), (85 : Int), (84 : Int), (49 : Int)] : List Int) from by decide) (allCons hg4 allNil)) ?_
    obtain ⟨q5, hq6, hr⟩ := of_bind hr
    have hq6 := of_some2 hq6
    refine (Le.cv (s := ⟨[(3, 3), (0, 0)], [], [], false⟩) (own := []) (ps := [q5 = (([(65 : Int), (85 : Int), (84 : Int), (49 : Int)] : List Int) ++ ([(IntKind.wrap .u8 (lenI a0.1))] : List Int)), a0.1 = a0.1, a0.2.1 = a0.2.1, a0.2.2.1 = a0.2.2.1, a0.2.2.2.1 = a0.2.2.2.1, a0.2.2.2.2 = a0.2.2.2.2]) (st' := ⟨[(1, pV 0 0), (4, aV 3)], [(3, .seq (.int .u8) q5), (0, .box [.dat .str a0.1, iC a0.2.1, iC a0.2.2.1, nC a0.2.2.2.1, .dat (.sl .bool) a0.2.2.2.2])], 4⟩) hO (fun h => by cases h) (by kernel_rfl) ⟨hq6, rfl, rfl, rfl, rfl, rfl, trivial⟩).ht ?_
    obtain ⟨hg7, hr⟩ := of_guard hr
    refine HT.rg2 (oHs 5) ⟨[(1, pV 0 0), (4, aV 4)], [(4, .seq (.int .u8) (q5 ++ bytesI a0.1)), (0, .box [.dat .str a0.1, iC a0.2.1, iC a0.2.2.1, nC a0.2.2.2.1, .dat (.sl .bool) a0.2.2.2.2])], 5⟩ hX (by kernel_rfl) (allCons hg7 allNil) ?_
    obtain ⟨hg8, hr⟩ := of_guard hr
    refine HT.rg2 [oH, oH, oH, oH, oH, oH, oH, oH, oH, ⟨none, .ty (.int .u8)⟩, ⟨none, .ty (.int .u8)⟩, oH] ⟨[(1, pV 0 0), (4, aV 6)], [(6, .seq (.int .u8) ((q5 ++ bytesI a0.1) ++ ([(IntKind.wrap .u8 a0.2.1), (IntKind.wrap .u8 a0.2.2.1)] : List Int))), (0, .box [.dat .str a0.1, iC a0.2.1, iC a0.2.2.1, nC a0.2.2.2.1, .dat (.sl .bool) a0.2.2.2.2])], 7⟩ hX (by kernel_rfl) (allCons hg8 allNil) ?_
    obtain ⟨q9, hq10, hr⟩ := of_bind hr
    have hq10 := of_some2 hq10
    refine (Le.cv (s := ⟨[(6, 6), (0, 0)], [], [], false⟩) (own := []) (ps := [q9 = ((q5 ++ bytesI a0.1) ++ ([(IntKind.wrap .u8 a0.2.1), (IntKind.wrap .u8 a0.2.2.1)] : List Int)), a0.1 = a0.1, a0.2.1 = a0.2.1, a0.2.2.1 = a0.2.2.1, a0.2.2.2.1 = a0.2.2.2.1, a0.2.2.2.2 = a0.2.2.2.2]) (st' := ⟨[(1, pV 0 0), (4, aV 6)], [(6, .seq (.int .u8) q9), (0, .box [.dat .str a0.1, iC a0.2.1, iC a0.2.2.1, nC a0.2.2.2.1, .dat (.sl .bool) a0.2.2.2.2])], 7⟩) hO (fun h => by cases h) (by kernel_rfl) ⟨hq10, rfl, rfl, rfl, rfl, rfl, trivial⟩).ht ?_
    refine HT.seq ?_
    refine HT.rg2 (oHs 5) ⟨[(1, pV 0 0), (4, aV 6), (39, nV a0.2.2.2.1), (40, iV (lenI a0.2.2.2.1)), (41, iV (0 : Int))], [(6, .seq (.int .u8) q9), (0, .box [.dat .str a0.1, iC a0.2.1, iC a0.2.2.1, nC a0.2.2.2.1, .dat (.sl .bool) a0.2.2.2.2])], 7⟩ hX (by kernel_rfl) allNil ?_
    refine HT.block ?_
    obtain ⟨r12, hL40, hr⟩ := of_bind hr
    refine HT.loopL (fun (s11 : Int × List Int) => ⟨[(1, pV 0 0), (4, aV 1), (39, nV a0.2.2.2.1), (40, iV (lenI a0.2.2.2.1)), (41, iV s11.1)], [(0, .box [.dat .str a0.1, iC a0.2.1, iC a0.2.2.1, nC a0.2.2.2.1, .dat (.sl .bool) a0.2.2.2.2]), (1, .seq (.int .u8) s11.2)], 2⟩) (fun (r13 : List Int) => (.exit 0, ⟨[(1, pV 0 0), (4, aV 1)], [(0, .box [.dat .str a0.1, iC a0.2.1, iC a0.2.2.1, nC a0.2.2.2.1, .dat (.sl .bool) a0.2.2.2.2]), (1, .seq (.int .u8) r13)], 2⟩)) (Le.re [(0, 0), (6, 1)] [] hX (by kernel_rfl)) hL40 ?_ (fun s11 x34 hx35 hk36 => ?_)
    · refine (qBlockX (qThen ?_))
      refine HT.seq ?_
      refine HT.rg2 (oHs 5) ⟨[(4, aV 1), (53, .one (.dat (.sl .bool) a0.2.2.2.2)), (54, iV (lenI a0.2.2.2.2)), (55, iV (0 : Int))], [(1, .seq (.int .u8) r12)], 2⟩ hX (by kernel_rfl) allNil ?_
      refine HT.block ?_
      obtain ⟨r15, hL33, hr⟩ := of_bind hr
      refine HT.loopL (fun (s14 : Int × List Int) => ⟨[(4, aV 0), (53, .one (.dat (.sl .bool) a0.2.2.2.2)), (54, iV (lenI a0.2.2.2.2)), (55, iV s14.1)], [(0, .seq (.int .u8) s14.2)], 1⟩) (fun (r16 : List Int) => (.exit 2, ⟨[(4, aV 0)], [(0, .seq (.int .u8) r16)], 1⟩)) (Le.re [(1, 0)] [] hX (by kernel_rfl)) hL33 ?_ (fun s14 x22 hx23 hk24 => ?_)
      · refine (qBlockX (qThen ?_))
        obtain ⟨y17, hc18, hr⟩ := of_bind hr
        refine HT.rg2 [oH, oH, ⟨none, .call [.imm tI, .imm .str] [⟨false, tI, y17.1⟩, ⟨false, .bool, y17.2⟩] []⟩, oH, oH, oH, oH, oH] ⟨[(4, aV 0), (9, iV y17.1)], [(0, .seq (.int .u8) r15)], 1⟩ hX (by kernel_rfl) (allCons (f123_ok hc18) allNil) ?_
        obtain ⟨hg19, hr⟩ := of_guard hr
        refine HT.rg2 [oH, oH, oH, oH, oH, oH, ⟨none, .ty (.int .u8)⟩, ⟨none, .ty (.int .u8)⟩, oH, oH, oH] ⟨[(2, .one (.dat .str (bytesO (r15 ++ ([(IntKind.wrap .u8 y17.1), (IntKind.wrap .u8 (Int.fdiv y17.1 (2 ^ (min (Int.toNat (8 : Int)) (IntKind.bits .i64)))))] : List Int))))), (3, bV true)], [], 3⟩ hX (by kernel_rfl) (allCons (show (0 : Int) ≤ (8 : Int) from by decide) (allCons hg19 allNil)) ?_
        obtain ⟨q20, hq21, hr⟩ := of_bind hr
        have hq21 := of_some2 hq21
        refine (Le.cv (s := ⟨[], [], [], false⟩) (own := []) (ps := [q20 = (bytesO (r15 ++ ([(IntKind.wrap .u8 y17.1), (IntKind.wrap .u8 (Int.fdiv y17.1 (2 ^ (min (Int.toNat (8 : Int)) (IntKind.bits .i64)))))] : List Int))), true = true]) (st' := ⟨[(2, .one (.dat .str q20)), (3, bV true)], [], 3⟩) hO (fun h => by cases h) (by kernel_rfl) ⟨hq21, rfl, trivial⟩).ht ?_
        have hr := of_some hr
        subst hr
        exact HT.ret ⟨[.one (.dat .str q20), bV true], [], [], by kernel_rfl, by kernel_rfl, rfl, by kernel_rfl, by kernel_rfl, trivial⟩
      · refine HT.rg2 [oH] ⟨[(4, aV 0), (53, .one (.dat (.sl .bool) a0.2.2.2.2)), (54, iV (lenI a0.2.2.2.2)), (55, iV s14.1), (56, bV (decide (s14.1 < (lenI a0.2.2.2.2))))], [(0, .seq (.int .u8) s14.2)], 1⟩ hX (by kernel_rfl) allNil ?_
        refine HT.seq ?_
        rcases of_bif hx23 with ⟨hb25, hx23⟩ | ⟨hb25, hx23⟩
        · refine HT.cond1 rfl hb25 ?_
          refine HT.skip (qThen ?_)
          obtain ⟨v26', hT28, hx23⟩ := of_bind hx23
          refine HT.join (fun (v26 : List Int) => ⟨[(4, aV 0), (53, .one (.dat (.sl .bool) a0.2.2.2.2)), (54, iV (lenI a0.2.2.2.2)), (55, iV s14.1)], [(0, .seq (.int .u8) v26)], 1⟩) (fun v => v = v26') (fun v26 hv27 => ?_) (fun cont => ?_)
          · subst hv27
            have hx23 := of_some hx23
            subst hx23
            exact HT.rgK (oHs 2) [(0, 0)] [] hX (by kernel_rfl) allNil (fun _ h => (qLoopN ⟨((wadd .i64 s14.1 (1 : Int)), v26), rfl, h⟩))
          · refine HT.block ?_
            obtain ⟨hg29, hT28⟩ := of_guard hT28
            refine HT.rg2 (oHs 3) ⟨[(4, aV 0), (8, bV (List.getD a0.2.2.2.2 (Int.toNat s14.1) false)), (53, .one (.dat (.sl .bool) a0.2.2.2.2)), (54, iV (lenI a0.2.2.2.2)), (55, iV s14.1)], [(0, .seq (.int .u8) s14.2)], 1⟩ hX (by kernel_rfl) (allCons hg29 allNil) ?_
            refine HT.rg2 [oH] ⟨[(4, aV 0), (53, .one (.dat (.sl .bool) a0.2.2.2.2)), (54, iV (lenI a0.2.2.2.2)), (55, iV s14.1), (59, bV (List.getD a0.2.2.2.2 (Int.toNat s14.1) false))], [(0, .seq (.int .u8) s14.2)], 1⟩ hX (by kernel_rfl) allNil ?_
            rcases of_bif hT28 with ⟨hb30, hT28⟩ | ⟨hb30, hT28⟩
            · refine HT.cond1 rfl hb30 ?_
              obtain ⟨hg31, hT28⟩ := of_guard hT28
              exact HT.rgK [oH, ⟨none, .ty (.int .u8)⟩, ⟨none, .ty (.int .u8)⟩, oH] [(2, 0)] [] hX (by kernel_rfl) (allCons hg31 allNil) (fun _ h => (qBlock (qThen (h.ht (cont (s14.2 ++ ([(1 : Int)] : List Int)) (of_some hT28))))))
            · refine HT.cond0 rfl hb30 ?_
              obtain ⟨hg32, hT28⟩ := of_guard hT28
              exact HT.rgK [oH, ⟨none, .ty (.int .u8)⟩, ⟨none, .ty (.int .u8)⟩, oH] [(2, 0)] [] hX (by kernel_rfl) (allCons hg32 allNil) (fun _ h => (qBlock (qThen (h.ht (cont (s14.2 ++ ([(0 : Int)] : List Int)) (of_some hT28))))))
        · refine HT.cond0 rfl hb25 ?_
          have hx23 := of_some hx23
          subst hx23
          exact HT.exitL (Le.re [(0, 0)] [] hX (by kernel_rfl)) (qThenE (qLoopE (hk24 s14.2 rfl)))
    · refine HT.rg2 [oH] ⟨[(1, pV 0 0), (4, aV 1), (39, nV a0.2.2.2.1), (40, iV (lenI a0.2.2.2.1)), (41, iV s11.1), (42, bV (decide (s11.1 < (lenI a0.2.2.2.1))))], [(0, .box [.dat .str a0.1, iC a0.2.1, iC a0.2.2.1, nC a0.2.2.2.1, .dat (.sl .bool) a0.2.2.2.2]), (1, .seq (.int .u8) s11.2)], 2⟩ hX (by kernel_rfl) allNil ?_
      refine HT.seq ?_
      rcases of_bif hx35 with ⟨hb37, hx35⟩ | ⟨hb37, hx35⟩
      · refine HT.cond1 rfl hb37 ?_
        refine HT.skip (qThen ?_)
        refine HT.seq ?_
        refine HT.block ?_
        obtain ⟨hg38, hx35⟩ := of_guard hx35
        refine HT.rg2 (oHs 3) ⟨[(1, pV 0 0), (4, aV 1), (6, iV (List.getD a0.2.2.2.1 (Int.toNat s11.1) (0 : Int))), (39, nV a0.2.2.2.1), (40, iV (lenI a0.2.2.2.1)), (41, iV s11.1)], [(0, .box [.dat .str a0.1, iC a0.2.1, iC a0.2.2.1, nC a0.2.2.2.1, .dat (.sl .bool) a0.2.2.2.2]), (1, .seq (.int .u8) s11.2)], 2⟩ hX (by kernel_rfl) (allCons hg38 allNil) ?_
        obtain ⟨hg39, hx35⟩ := of_guard hx35
        refine HT.rgL [oH, oH, oH, ⟨none, .ty (.int .u8)⟩, ⟨none, .ty (.int .u8)⟩, oH] ⟨[(1, pV 0 0), (4, aV 3), (39, nV a0.2.2.2.1), (40, iV (lenI a0.2.2.2.1)), (41, iV s11.1)], [(3, .seq (.int .u8) (s11.2 ++ ([(IntKind.wrap .u8 (List.getD a0.2.2.2.1 (Int.toNat s11.1) (0 : Int)))] : List Int))), (0, .box [.dat .str a0.1, iC a0.2.1, iC a0.2.2.1, nC a0.2.2.2.1, .dat (.sl .bool) a0.2.2.2.2])], 4⟩ hX (by kernel_rfl) (allCons hg39 allNil) (qBlock (qThen ?_))
        have hx35 := of_some hx35
        subst hx35
        exact HT.rgK (oHs 2) [(0, 0), (3, 1)] [] hX (by kernel_rfl) allNil (fun _ h => (qLoopN ⟨((wadd .i64 s11.1 (1 : Int)), (s11.2 ++ ([(IntKind.wrap .u8 (List.getD a0.2.2.2.1 (Int.toNat s11.1) (0 : Int)))] : List Int))), rfl, h⟩))
      · refine HT.cond0 rfl hb37 ?_
        have hx35 := of_some hx35
        subst hx35
        exact HT.exitL (Le.re [(0, 0), (1, 1)] [] hX (by kernel_rfl)) (qThenE (qLoopE (hk36 s11.2 rfl)))

noncomputable def internal_stringslite_HasPrefix (a0 : List UInt8) (a1 : List UInt8) : Option (Bool) :=
  (show Option (Bool) from
    bif (decide ((lenI a0) ≥ (lenI a1))) then
      guardP ((0 : Int) ≤ (lenI a1) ∧ (lenI a1) ≤ lenI a0) (
        some ((cut a0 (0 : Int) (lenI a1)) == a1))
    else
      some false).bind fun v1 =>
  some v1

theorem f124_ok {a0 : List UInt8} {a1 : List UInt8} {r : Bool} (hr : internal_stringslite_HasPrefix a0 a1 = some r) : CallOK Try.prog 124 [.imm .str a0, .imm .str a1] [⟨false, .bool, r⟩] [] := by
  unfold internal_stringslite_HasPrefix at hr
  refine CallOK.of_body (ts := [(false, .bool)]) Try.func124 rfl (by kernel_rfl) (Nat.le_of_ble_eq_true (by kernel_rfl)) fun cx hP hN hO hF => ?_
  have hO : cx.own.map Prod.fst = [] := hO
  have hX := CxIs.mk hP hN hO
  have hF := hF rfl
  show HT cx ⟨[(0, .one (.dat .str a0)), (1, .one (.dat .str a1))], [], 0⟩ _ _
  refine HT.rg2 [oH] ⟨[(0, .one (.dat .str a0)), (1, .one (.dat .str a1))], [], 0⟩ hX (by kernel_rfl) allNil ?_
  obtain ⟨v1', hT3, hr⟩ := of_bind hr
  refine HT.join (fun (v1 : Bool) => ⟨[(4, bV v1)], [], 0⟩) (fun v => v = v1') (fun v1 hv2 => ?_) (fun cont => ?_)
  · subst hv2
    have hr := of_some hr
    subst hr
    exact HT.ret ⟨[bV v1], [], [], by kernel_rfl, by kernel_rfl, rfl, by kernel_rfl, by kernel_rfl, trivial⟩
  · rcases of_bif hT3 with ⟨hb4, hT3⟩ | ⟨hb4, hT3⟩
    · obtain ⟨hg5, hT3⟩ := of_guard hT3
      exact HT.rgK [oH, oH, oH, oH, oH, oH, ⟨some true, .no⟩, ⟨some true, .no⟩, ⟨some true, .no⟩, ⟨some true, .no⟩, ⟨some true, .no⟩, ⟨some true, .no⟩, ⟨none, .tv true⟩, oH] [] [] hX (by kernel_rfl) (allCons hb4 (allCons hb4 (allCons hb4 (allCons hb4 (allCons (show (0 : Int) ≤ 0 ∧ (0 : Int) ≤ (lenI a1) ∧ (lenI a1) ≤ lenI a0 from ⟨Int.le_refl _, hg5.1, hg5.2⟩) (allCons hb4 (allCons hb4 (allCons hb4 allNil)))))))) (fun _ h => (qThen (h.ht (cont ((cut a0 (0 : Int) (lenI a1)) == a1) (of_some hT3)))))
    · exact HT.rgK [oH, oH, oH, oH, oH, oH, ⟨some false, .no⟩, ⟨some false, .no⟩, ⟨some false, .no⟩, ⟨some false, .no⟩, ⟨some false, .no⟩, ⟨some false, .no⟩, ⟨none, .tv false⟩, oH] [] [] hX (by kernel_rfl) (allCons hb4 (allCons hb4 (allCons hb4 (allCons hb4 (allCons hb4 (allCons hb4 (allCons hb4 allNil))))))) (fun _ h => (qThen (h.ht (cont false (of_some hT3)))))

noncomputable def strings_HasPrefix (a0 : List UInt8) (a1 : List UInt8) : Option (Bool) :=
  (internal_stringslite_HasPrefix a0 a1).bind fun y1 =>
  some y1

theorem f99_ok {a0 : List UInt8} {a1 : List UInt8} {r : Bool} (hr : strings_HasPrefix a0 a1 = some r) : CallOK Try.prog 99 [.imm .str a0, .imm .str a1] [⟨false, .bool, r⟩] [] := by
  unfold strings_HasPrefix at hr
  refine CallOK.of_body (ts := [(false, .bool)]) Try.func99 rfl (by kernel_rfl) (Nat.le_of_ble_eq_true (by kernel_rfl)) fun cx hP hN hO hF => ?_
  have hO : cx.own.map Prod.fst = [] := hO
  have hX := CxIs.mk hP hN hO
  have hF := hF rfl
  show HT cx ⟨[(0, .one (.dat .str a0)), (1, .one (.dat .str a1))], [], 0⟩ _ _
  refine HT.rg2 [oH] ⟨[(0, .one (.dat .str a0)), (1, .one (.dat .str a1))], [], 0⟩ hX (by kernel_rfl) allNil ?_
  obtain ⟨y1, hc2, hr⟩ := of_bind hr
  refine HT.rg2 [oH, oH, ⟨none, .call [.imm .str, .imm .str] [⟨false, .bool, y1⟩] []⟩, oH] ⟨[(4, bV y1)], [], 0⟩ hX (by kernel_rfl) (allCons (f124_ok hc2) allNil) ?_
  have hr := of_some hr
  subst hr
  exact HT.ret ⟨[bV y1], [], [], by kernel_rfl, by kernel_rfl, rfl, by kernel_rfl, by kernel_rfl, trivial⟩

noncomputable def impl_readKept_B1 (a0 : List UInt8) (q6 : Int) (q13 : Int) (s21 : Int × List Bool) : Option ((Int × List Bool) ⊕ (List Bool)) :=
  bif (decide (s21.1 < (IntKind.wrap .i64 ((((List.getD a0 (Int.toNat q6) 0 : UInt8).toNat : Nat)) : Int)))) then
    guardP ((0 : Int) ≤ (wadd .i64 (wadd .i64 (wadd .i64 q6 (2 : Int)) q13) s21.1) ∧ (wadd .i64 (wadd .i64 (wadd .i64 q6 (2 : Int)) q13) s21.1) < lenI a0) (
      guardP (List.length s21.2 + List.length ([(((((List.getD a0 (Int.toNat (wadd .i64 (wadd .i64 (wadd .i64 q6 (2 : Int)) q13) s21.1)) 0 : UInt8).toNat : Nat)) : Int) == (1 : Int))] : List Bool) ≤ appMax) (
        some (.inl ((wadd .i64 s21.1 (1 : Int)), (s21.2 ++ ([(((((List.getD a0 (Int.toNat (wadd .i64 (wadd .i64 (wadd .i64 q6 (2 : Int)) q13) s21.1)) 0 : UInt8).toNat : Nat)) : Int) == (1 : Int))] : List Bool))))))
  else
    some (.inr s21.2)

noncomputable def impl_readKept_B2 (a0 : List UInt8) (q6 : Int) (q13 : Int) (s18 : Int × List Int) : Option ((Int × List Int) ⊕ (List Int)) :=
  bif (decide (s18.1 < q13)) then
    guardP ((0 : Int) ≤ (wadd .i64 (wadd .i64 q6 (2 : Int)) s18.1) ∧ (wadd .i64 (wadd .i64 q6 (2 : Int)) s18.1) < lenI a0) (
      guardP (List.length s18.2 + List.length ([(IntKind.wrap .i64 ((((List.getD a0 (Int.toNat (wadd .i64 (wadd .i64 q6 (2 : Int)) s18.1)) 0 : UInt8).toNat : Nat)) : Int))] : List Int) ≤ appMax) (
        some (.inl ((wadd .i64 s18.1 (1 : Int)), (s18.2 ++ ([(IntKind.wrap .i64 ((((List.getD a0 (Int.toNat (wadd .i64 (wadd .i64 q6 (2 : Int)) s18.1)) 0 : UInt8).toNat : Nat)) : Int))] : List Int))))))
  else
    some (.inr s18.2)

noncomputable def impl_readKept (a0 : List UInt8) : Option ((List UInt8 × Int × Int × List Int × List Bool) × Int × Bool) :=
  (show Option (Bool) from
    bif (decide ((lenI a0) < (5 : Int))) then
      some true
    else
      guardP ((0 : Int) ≤ (4 : Int) ∧ (4 : Int) < lenI a0) (
        some (decide ((lenI a0) < (wadd .i64 (7 : Int) (IntKind.wrap .i64 ((((List.getD a0 (Int.toNat (4 : Int)) 0 : UInt8).toNat : Nat)) : Int))))))).bind fun v1 =>
  bif v1 then
    some ((([] : List UInt8), (0 : Int), (0 : Int), ([] : List Int), ([] : List Bool)), (0 : Int), false)
  else
    guardP ((0 : Int) ≤ (4 : Int) ∧ (4 : Int) < lenI a0) (
      (some (wadd .i64 (5 : Int) (IntKind.wrap .i64 ((((List.getD a0 (Int.toNat (4 : Int)) 0 : UInt8).toNat : Nat)) : Int)))).bind fun q6 =>
      guardP ((0 : Int) ≤ (5 : Int) ∧ (5 : Int) ≤ q6 ∧ q6 ≤ lenI a0) (
        guardP ((0 : Int) ≤ q6 ∧ q6 < lenI a0) (
          guardP ((0 : Int) ≤ (wadd .i64 q6 (1 : Int)) ∧ (wadd .i64 q6 (1 : Int)) < lenI a0) (
            (some (IntKind.wrap .i64 ((((List.getD a0 (Int.toNat (wadd .i64 q6 (1 : Int))) 0 : UInt8).toNat : Nat)) : Int))).bind fun q11 =>
            (some (wmul .i64 (IntKind.wrap .i64 ((((List.getD a0 (Int.toNat q6) 0 : UInt8).toNat : Nat)) : Int)) q11)).bind fun q13 =>
            (some (wadd .i64 (wadd .i64 (wadd .i64 (wadd .i64 q6 (2 : Int)) q13) (IntKind.wrap .i64 ((((List.getD a0 (Int.toNat q6) 0 : UInt8).toNat : Nat)) : Int))) (2 : Int))).bind fun q15 =>
            bif (decide ((lenI a0) < q15)) then
              some ((([] : List UInt8), (0 : Int), (0 : Int), ([] : List Int), ([] : List Bool)), (0 : Int), false)
            else
              (rounds (impl_readKept_B2 a0 q6 q13) ((0 : Int), ([] : List Int))).bind fun r20 =>
              (rounds (impl_readKept_B1 a0 q6 q13) ((0 : Int), ([] : List Bool))).bind fun r23 =>
              (impl_StoreKept ((cut a0 (5 : Int) q6), (IntKind.wrap .i64 ((((List.getD a0 (Int.toNat q6) 0 : UInt8).toNat : Nat)) : Int)), q11, r20, r23)).bind fun y24 =>
              (show Option (Bool) from
                bif (!y24.2) then
                  some true
                else
                  (strings_HasPrefix a0 y24.1).bind fun y31 =>
                  some (!y31)).bind fun v26 =>
              bif v26 then
                some ((([] : List UInt8), (0 : Int), (0 : Int), ([] : List Int), ([] : List Bool)), (0 : Int), false)
              else
                some (((cut a0 (5 : Int) q6), (IntKind.wrap .i64 ((((List.getD a0 (Int.toNat q6) 0 : UInt8).toNat : Nat)) : Int)), q11, r20, r23), q15, true)))))

theorem f70_ok {a0 : List UInt8} {r : (List UInt8 × Int × Int × List Int × List Bool) × Int × Bool} (hr : impl_readKept a0 = some r) : CallOK Try.prog 70 [.imm .str a0] [⟨true, (.st (.pair .str (.st (.pair tI (.pair tI (.pair tLI (.sl .bool))))))), r.1⟩, ⟨false, tI, r.2.1⟩, ⟨false, .bool, r.2.2⟩] [] := by
  unfold impl_readKept at hr
  refine CallOK.of_body (ts := [(true, (.st (.pair .str (.st (.pair tI (.pair tI (.pair tLI (.sl .bool)))))))), (false, tI), (false, .bool)]) Try.func70 rfl (by kernel_rfl) (Nat.le_of_ble_eq_true (by kernel_rfl)) fun cx hP hN hO hF => ?_
  have hO : cx.own.map Prod.fst = [] := hO
  have hX := CxIs.mk hP hN hO
  have hF := hF rfl
  show HT cx ⟨[(0, .one (.dat .str a0))], [], 0⟩ _ _
  refine HT.rg2 (oHs 3) ⟨[(0, .one (.dat .str a0)), (2, pV 0 0)], [(0, .box [.dat .str ([] : List UInt8), iC (0 : Int), iC (0 : Int), .nilS, .nilS])], 1⟩ hX (by kernel_rfl) allNil ?_
  refine HT.seq ?_
  obtain ⟨v1', hT3, hr⟩ := of_bind hr
  refine HT.join (fun (v1 : Bool) => ⟨[(0, .one (.dat .str a0)), (2, pV 0 0), (24, bV v1)], [(0, .box [.dat .str ([] : List UInt8), iC (0 : Int), iC (0 : Int), .nilS, .nilS])], 1⟩) (fun v => v = v1') (fun v1 hv2 => ?_) (fun cont => ?_)
  · subst hv2
    rcases of_bif hr with ⟨hb4, hr⟩ | ⟨hb4, hr⟩
    · refine HT.cond1 rfl hb4 ?_
      refine HT.rg2 (oHs 4) ⟨[(2, pV 0 0), (3, iV (0 : Int)), (4, bV false)], [(0, .box [.dat .str ([] : List UInt8), iC (0 : Int), iC (0 : Int), .nilS, .nilS])], 1⟩ hX (by kernel_rfl) allNil ?_
      have hr := of_some hr
      subst hr
      exact HT.ret (qThenR ⟨[.agg [.dat .str ([] : List UInt8), iC (0 : Int), iC (0 : Int), .nilS, .nilS], iV (0 : Int), bV false], [], [], by kernel_rfl, by kernel_rfl, rfl, by kernel_rfl, by kernel_rfl, trivial⟩)
    · refine HT.cond0 rfl hb4 ?_
      refine HT.skip (qThen ?_)
      obtain ⟨hg5, hr⟩ := of_guard hr
      refine HT.rg2 (oHs 5) ⟨[(0, .one (.dat .str a0)), (2, pV 0 0), (5, iV (wadd .i64 (5 : Int) (IntKind.wrap .i64 ((((List.getD a0 (Int.toNat (4 : Int)) 0 : UInt8).toNat : Nat)) : Int))))], [(0, .box [.dat .str ([] : List UInt8), iC (0 : Int), iC (0 : Int), .nilS, .nilS])], 1⟩ hX (by kernel_rfl) (allCons hg5 allNil) ?_
      obtain ⟨q6, hq7, hr⟩ := of_bind hr
      have hq7 := of_some2 hq7
      refine (Le.cv (s := ⟨[(0, 0)], [], [], false⟩) (own := []) (ps := [a0 = a0, q6 = (wadd .i64 (5 : Int) (IntKind.wrap .i64 ((((List.getD a0 (Int.toNat (4 : Int)) 0 : UInt8).toNat : Nat)) : Int))), ([] : List UInt8) = ([] : List UInt8), (0 : Int) = (0 : Int), (0 : Int) = (0 : Int)]) (st' := ⟨[(0, .one (.dat .str a0)), (2, pV 0 0), (5, iV q6)], [(0, .box [.dat .str ([] : List UInt8), iC (0 : Int), iC (0 : Int), .nilS, .nilS])], 1⟩) hO (fun h => by cases h) (by kernel_rfl) ⟨rfl, hq7, rfl, rfl, rfl, trivial⟩).ht ?_
      obtain ⟨hg8, hr⟩ := of_guard hr
      obtain ⟨hg9, hr⟩ := of_guard hr
      obtain ⟨hg10, hr⟩ := of_guard hr
      refine HT.dr2 15 [⟨oH, []⟩, ⟨oH, []⟩, ⟨oH, [0, 1]⟩, ⟨oH, []⟩, ⟨oH, []⟩, ⟨oH, [3, 4]⟩, ⟨oH, [3, 4, 5]⟩, ⟨oH, []⟩, ⟨oH, []⟩, ⟨oH, [8]⟩, ⟨oH, [7, 8, 9]⟩, ⟨oH, [7, 8, 9, 10]⟩, ⟨oH, [3, 4, 5, 6, 7, 8, 9, 10, 11]⟩, ⟨oH, [0, 1, 2, 3, 4, 5, 6, 7, 8, 9, 10, 11, 12]⟩, ⟨oH, []⟩] [[0, 1, 2, 3, 4, 5, 6, 7, 8, 9, 10, 11, 12, 13, 14]] [oH] ⟨[(0, .one (.dat .str a0)), (2, pV 0 0), (5, iV q6), (6, pV 1 0)], [(1, .box [.dat .str (cut a0 (5 : Int) q6), iC (IntKind.wrap .i64 ((((List.getD a0 (Int.toNat q6) 0 : UInt8).toNat : Nat)) : Int)), iC (IntKind.wrap .i64 ((((List.getD a0 (Int.toNat (wadd .i64 q6 (1 : Int))) 0 : UInt8).toNat : Nat)) : Int)), .nilS, .nilS]), (0, .box [.dat .str ([] : List UInt8), iC (0 : Int), iC (0 : Int), .nilS, .nilS])], 2⟩ hX (by kernel_rfl) (by kernel_rfl) (allCons hg8 (allCons hg9 (allCons hg10 allNil))) ?_
      obtain ⟨q11, hq12, hr⟩ := of_bind hr
      have hq12 := of_some2 hq12
      refine (Le.cv (s := ⟨[(1, 1), (0, 0)], [], [], false⟩) (own := []) (ps := [a0 = a0, q6 = q6, (cut a0 (5 : Int) q6) = (cut a0 (5 : Int) q6), (IntKind.wrap .i64 ((((List.getD a0 (Int.toNat q6) 0 : UInt8).toNat : Nat)) : Int)) = (IntKind.wrap .i64 ((((List.getD a0 (Int.toNat q6) 0 : UInt8).toNat : Nat)) : Int)), q11 = (IntKind.wrap .i64 ((((List.getD a0 (Int.toNat (wadd .i64 q6 (1 : Int))) 0 : UInt8).toNat : Nat)) : Int)), ([] : List UInt8) = ([] : List UInt8), (0 : Int) = (0 : Int), (0 : Int) = (0 : Int)]) (st' := ⟨[(0, .one (.dat .str a0)), (2, pV 0 0), (5, iV q6), (6, pV 1 0)], [(1, .box [.dat .str (cut a0 (5 : Int) q6), iC (IntKind.wrap .i64 ((((List.getD a0 (Int.toNat q6) 0 : UInt8).toNat : Nat)) : Int)), iC q11, .nilS, .nilS]), (0, .box [.dat .str ([] : List UInt8), iC (0 : Int), iC (0 : Int), .nilS, .nilS])], 2⟩) hO (fun h => by cases h) (by kernel_rfl) ⟨rfl, rfl, rfl, rfl, hq12, rfl, rfl, rfl, trivial⟩).ht ?_
      refine HT.rg2 (oHs 3) ⟨[(0, .one (.dat .str a0)), (2, pV 0 0), (5, iV (wadd .i64 q6 (2 : Int))), (6, pV 1 0)], [(1, .box [.dat .str (cut a0 (5 : Int) q6), iC (IntKind.wrap .i64 ((((List.getD a0 (Int.toNat q6) 0 : UInt8).toNat : Nat)) : Int)), iC q11, .nilS, .nilS]), (0, .box [.dat .str ([] : List UInt8), iC (0 : Int), iC (0 : Int), .nilS, .nilS])], 2⟩ hX (by kernel_rfl) allNil ?_
      refine HT.rg2 (oHs 8) ⟨[(0, .one (.dat .str a0)), (2, pV 0 0), (5, iV (wadd .i64 q6 (2 : Int))), (6, pV 1 0), (7, iV (wmul .i64 (IntKind.wrap .i64 ((((List.getD a0 (Int.toNat q6) 0 : UInt8).toNat : Nat)) : Int)) q11))], [(1, .box [.dat .str (cut a0 (5 : Int) q6), iC (IntKind.wrap .i64 ((((List.getD a0 (Int.toNat q6) 0 : UInt8).toNat : Nat)) : Int)), iC q11, .nilS, .nilS]), (0, .box [.dat .str ([] : List UInt8), iC (0 : Int), iC (0 : Int), .nilS, .nilS])], 2⟩ hX (by kernel_rfl) allNil ?_
      obtain ⟨q13, hq14, hr⟩ := of_bind hr
      have hq14 := of_some2 hq14
      refine (Le.cv (s := ⟨[(1, 1), (0, 0)], [], [], false⟩) (own := []) (ps := [a0 = a0, (wadd .i64 q6 (2 : Int)) = (wadd .i64 q6 (2 : Int)), q13 = (wmul .i64 (IntKind.wrap .i64 ((((List.getD a0 (Int.toNat q6) 0 : UInt8).toNat : Nat)) : Int)) q11), (cut a0 (5 : Int) q6) = (cut a0 (5 : Int) q6), (IntKind.wrap .i64 ((((List.getD a0 (Int.toNat q6) 0 : UInt8).toNat : Nat)) : Int)) = (IntKind.wrap .i64 ((((List.getD a0 (Int.toNat q6) 0 : UInt8).toNat : Nat)) : Int)), q11 = q11, ([] : List UInt8) = ([] : List UInt8), (0 : Int) = (0 : Int), (0 : Int) = (0 : Int)]) (st' := ⟨[(0, .one (.dat .str a0)), (2, pV 0 0), (5, iV (wadd .i64 q6 (2 : Int))), (6, pV 1 0), (7, iV q13)], [(1, .box [.dat .str (cut a0 (5 : Int) q6), iC (IntKind.wrap .i64 ((((List.getD a0 (Int.toNat q6) 0 : UInt8).toNat : Nat)) : Int)), iC q11, .nilS, .nilS]), (0, .box [.dat .str ([] : List UInt8), iC (0 : Int), iC (0 : Int), .nilS, .nilS])], 2⟩) hO (fun h => by cases h) (by kernel_rfl) ⟨rfl, rfl, hq14, rfl, rfl, rfl, rfl, rfl, rfl, trivial⟩).ht ?_
      refine HT.rg2 (oHs 9) ⟨[(0, .one (.dat .str a0)), (2, pV 0 0), (5, iV (wadd .i64 q6 (2 : Int))), (6, pV 1 0), (7, iV q13), (8, iV (wadd .i64 (wadd .i64 (wadd .i64 (wadd .i64 q6 (2 : Int)) q13) (IntKind.wrap .i64 ((((List.getD a0 (Int.toNat q6) 0 : UInt8).toNat : Nat)) : Int))) (2 : Int)))], [(1, .box [.dat .str (cut a0 (5 : Int) q6), iC (IntKind.wrap .i64 ((((List.getD a0 (Int.toNat q6) 0 : UInt8).toNat : Nat)) : Int)), iC q11, .nilS, .nilS]), (0, .box [.dat .str ([] : List UInt8), iC (0 : Int), iC (0 : Int), .nilS, .nilS])], 2⟩ hX (by kernel_rfl) allNil ?_
      obtain ⟨q15, hq16, hr⟩ := of_bind hr
      have hq16 := of_some2 hq16
      refine (Le.cv (s := ⟨[(1, 1), (0, 0)], [], [], false⟩) (own := []) (ps := [a0 = a0, (wadd .i64 q6 (2 : Int)) = (wadd .i64 q6 (2 : Int)), q13 = q13, q15 = (wadd .i64 (wadd .i64 (wadd .i64 (wadd .i64 q6 (2 : Int)) q13) (IntKind.wrap .i64 ((((List.getD a0 (Int.toNat q6) 0 : UInt8).toNat : Nat)) : Int))) (2 : Int)), (cut a0 (5 : Int) q6) = (cut a0 (5 : Int) q6), (IntKind.wrap .i64 ((((List.getD a0 (Int.toNat q6) 0 : UInt8).toNat : Nat)) : Int)) = (IntKind.wrap .i64 ((((List.getD a0 (Int.toNat q6) 0 : UInt8).toNat : Nat)) : Int)), q11 = q11, ([] : List UInt8) = ([] : List UInt8), (0 : Int) = (0 : Int), (0 : Int) = (0 : Int)]) (st' := ⟨[(0, .one (.dat .str a0)), (2, pV 0 0), (5, iV (wadd .i64 q6 (2 : Int))), (6, pV 1 0), (7, iV q13), (8, iV q15)], [(1, .box [.dat .str (cut a0 (5 : Int) q6), iC (IntKind.wrap .i64 ((((List.getD a0 (Int.toNat q6) 0 : UInt8).toNat : Nat)) : Int)), iC q11, .nilS, .nilS]), (0, .box [.dat .str ([] : List UInt8), iC (0 : Int), iC (0 : Int), .nilS, .nilS])], 2⟩) hO (fun h => by cases h) (by kernel_rfl) ⟨rfl, rfl, rfl, hq16, rfl, rfl, rfl, rfl, rfl, rfl, trivial⟩).ht ?_
      refine HT.seq ?_
      refine HT.rg2 (oHs 4) ⟨[(0, .one (.dat .str a0)), (2, pV 0 0), (5, iV (wadd .i64 q6 (2 : Int))), (6, pV 1 0), (7, iV q13), (8, iV q15), (64, bV (decide ((lenI a0) < q15)))], [(1, .box [.dat .str (cut a0 (5 : Int) q6), iC (IntKind.wrap .i64 ((((List.getD a0 (Int.toNat q6) 0 : UInt8).toNat : Nat)) : Int)), iC q11, .nilS, .nilS]), (0, .box [.dat .str ([] : List UInt8), iC (0 : Int), iC (0 : Int), .nilS, .nilS])], 2⟩ hX (by kernel_rfl) allNil ?_
      rcases of_bif hr with ⟨hb17, hr⟩ | ⟨hb17, hr⟩
      · refine HT.cond1 rfl hb17 ?_
        refine HT.rg2 (oHs 4) ⟨[(2, pV 0 0), (3, iV (0 : Int)), (4, bV false)], [(0, .box [.dat .str ([] : List UInt8), iC (0 : Int), iC (0 : Int), .nilS, .nilS])], 2⟩ hX (by kernel_rfl) allNil ?_
        have hr := of_some hr
        subst hr
        exact HT.ret (qThenR ⟨[.agg [.dat .str ([] : List UInt8), iC (0 : Int), iC (0 : Int), .nilS, .nilS], iV (0 : Int), bV false], [], [], by kernel_rfl, by kernel_rfl, rfl, by kernel_rfl, by kernel_rfl, trivial⟩)
      · refine HT.cond0 rfl hb17 ?_
        refine HT.skip (qThen ?_)
        refine HT.seq ?_
        refine HT.rg2 (oHs 2) ⟨[(0, .one (.dat .str a0)), (2, pV 0 0), (5, iV (wadd .i64 q6 (2 : Int))), (6, pV 1 0), (7, iV q13), (8, iV q15), (66, iV q13), (67, iV (0 : Int))], [(1, .box [.dat .str (cut a0 (5 : Int) q6), iC (IntKind.wrap .i64 ((((List.getD a0 (Int.toNat q6) 0 : UInt8).toNat : Nat)) : Int)), iC q11, .nilS, .nilS]), (0, .box [.dat .str ([] : List UInt8), iC (0 : Int), iC (0 : Int), .nilS, .nilS])], 2⟩ hX (by kernel_rfl) allNil ?_
        refine HT.block ?_
        obtain ⟨r19, hL46, hr⟩ := of_bind hr
        refine HT.loopL (fun (s18 : Int × List Int) => ⟨[(0, .one (.dat .str a0)), (2, pV 0 0), (5, iV (wadd .i64 q6 (2 : Int))), (6, pV 1 0), (7, iV q13), (8, iV q15), (66, iV q13), (67, iV s18.1)], [(0, .box [.dat .str ([] : List UInt8), iC (0 : Int), iC (0 : Int), .nilS, .nilS]), (1, .box [.dat .str (cut a0 (5 : Int) q6), iC (IntKind.wrap .i64 ((((List.getD a0 (Int.toNat q6) 0 : UInt8).toNat : Nat)) : Int)), iC q11, .all 2, .nilS]), (2, .seq tI s18.2)], 3⟩) (fun (r20 : List Int) => (.exit 0, ⟨[(0, .one (.dat .str a0)), (2, pV 0 0), (5, iV (wadd .i64 q6 (2 : Int))), (6, pV 1 0), (7, iV q13), (8, iV q15)], [(0, .box [.dat .str ([] : List UInt8), iC (0 : Int), iC (0 : Int), .nilS, .nilS]), (1, .box [.dat .str (cut a0 (5 : Int) q6), iC (IntKind.wrap .i64 ((((List.getD a0 (Int.toNat q6) 0 : UInt8).toNat : Nat)) : Int)), iC q11, .all 2, .nilS]), (2, .seq tI r20)], 3⟩)) (Le.re [(0, 0), (1, 1)] [2] hX (by kernel_rfl)) hL46 ?_ (fun s18 x40 hx41 hk42 => ?_)
        · refine (qBlockX (qThen ?_))
          refine HT.seq ?_
          refine HT.rg2 (oHs 4) ⟨[(0, .one (.dat .str a0)), (2, pV 0 0), (5, iV (wadd .i64 q6 (2 : Int))), (6, pV 1 0), (7, iV q13), (8, iV q15), (86, iV (IntKind.wrap .i64 ((((List.getD a0 (Int.toNat q6) 0 : UInt8).toNat : Nat)) : Int))), (87, iV (0 : Int))], [(0, .box [.dat .str ([] : List UInt8), iC (0 : Int), iC (0 : Int), .nilS, .nilS]), (1, .box [.dat .str (cut a0 (5 : Int) q6), iC (IntKind.wrap .i64 ((((List.getD a0 (Int.toNat q6) 0 : UInt8).toNat : Nat)) : Int)), iC q11, .all 2, .nilS]), (2, .seq tI r19)], 3⟩ hX (by kernel_rfl) allNil ?_
          refine HT.block ?_
          obtain ⟨r22, hL39, hr⟩ := of_bind hr
          refine HT.loopL (fun (s21 : Int × List Bool) => ⟨[(0, .one (.dat .str a0)), (2, pV 0 0), (5, iV (wadd .i64 q6 (2 : Int))), (6, pV 1 0), (7, iV q13), (8, iV q15), (86, iV (IntKind.wrap .i64 ((((List.getD a0 (Int.toNat q6) 0 : UInt8).toNat : Nat)) : Int))), (87, iV s21.1)], [(0, .box [.dat .str ([] : List UInt8), iC (0 : Int), iC (0 : Int), .nilS, .nilS]), (1, .box [.dat .str (cut a0 (5 : Int) q6), iC (IntKind.wrap .i64 ((((List.getD a0 (Int.toNat q6) 0 : UInt8).toNat : Nat)) : Int)), iC q11, .all 2, .all 3]), (2, .seq tI r19), (3, .seq .bool s21.2)], 4⟩) (fun (r23 : List Bool) => (.exit 2, ⟨[(0, .one (.dat .str a0)), (2, pV 0 0), (6, pV 1 0), (8, iV q15)], [(0, .box [.dat .str ([] : List UInt8), iC (0 : Int), iC (0 : Int), .nilS, .nilS]), (1, .box [.dat .str (cut a0 (5 : Int) q6), iC (IntKind.wrap .i64 ((((List.getD a0 (Int.toNat q6) 0 : UInt8).toNat : Nat)) : Int)), iC q11, .all 2, .all 3]), (2, .seq tI r19), (3, .seq .bool r23)], 4⟩)) (Le.re [(0, 0), (1, 1), (2, 2)] [3] hX (by kernel_rfl)) hL39 ?_ (fun s21 x33 hx34 hk35 => ?_)
          · refine (qBlockX (qThen ?_))
            obtain ⟨y24, hc25, hr⟩ := of_bind hr
            refine HT.rg2 [oH, ⟨none, .call [.imm (.st (.pair .str (.st (.pair tI (.pair tI (.pair tLI (.sl .bool)))))))] [⟨false, .str, y24.1⟩, ⟨false, .bool, y24.2⟩] []⟩, oH, oH, oH, oH, oH] ⟨[(0, .one (.dat .str a0)), (2, pV 0 0), (6, pV 1 0), (8, iV q15), (11, .one (.dat .str y24.1)), (12, bV y24.2)], [(0, .box [.dat .str ([] : List UInt8), iC (0 : Int), iC (0 : Int), .nilS, .nilS]), (1, .box [.dat .str (cut a0 (5 : Int) q6), iC (IntKind.wrap .i64 ((((List.getD a0 (Int.toNat q6) 0 : UInt8).toNat : Nat)) : Int)), iC q11, .all 2, .all 3]), (2, .seq tI r19), (3, .seq .bool r22)], 4⟩ hX (by kernel_rfl) (allCons (f98_ok hc25) allNil) ?_
            refine HT.seq ?_
            obtain ⟨v26', hT28, hr⟩ := of_bind hr
            refine HT.join (fun (v26 : Bool) => ⟨[(2, pV 0 0), (6, pV 1 0), (8, iV q15), (118, bV v26)], [(0, .box [.dat .str ([] : List UInt8), iC (0 : Int), iC (0 : Int), .nilS, .nilS]), (1, .box [.dat .str (cut a0 (5 : Int) q6), iC (IntKind.wrap .i64 ((((List.getD a0 (Int.toNat q6) 0 : UInt8).toNat : Nat)) : Int)), iC q11, .all 2, .all 3]), (2, .seq tI r19), (3, .seq .bool r22)], 4⟩) (fun v => v = v26') (fun v26 hv27 => ?_) (fun cont => ?_)
            · subst hv27
              rcases of_bif hr with ⟨hb29, hr⟩ | ⟨hb29, hr⟩
              · refine HT.cond1 rfl hb29 ?_
                refine HT.rg2 (oHs 4) ⟨[(2, pV 0 0), (3, iV (0 : Int)), (4, bV false)], [(0, .box [.dat .str ([] : List UInt8), iC (0 : Int), iC (0 : Int), .nilS, .nilS])], 4⟩ hX (by kernel_rfl) allNil ?_
                have hr := of_some hr
                subst hr
                exact HT.ret (qThenR ⟨[.agg [.dat .str ([] : List UInt8), iC (0 : Int), iC (0 : Int), .nilS, .nilS], iV (0 : Int), bV false], [], [], by kernel_rfl, by kernel_rfl, rfl, by kernel_rfl, by kernel_rfl, trivial⟩)
              · refine HT.cond0 rfl hb29 ?_
                refine HT.skip (qThen ?_)
                refine HT.rg2 (oHs 5) ⟨[(2, pV 0 0), (3, iV q15), (4, bV true)], [(0, .box [.dat .str (cut a0 (5 : Int) q6), iC (IntKind.wrap .i64 ((((List.getD a0 (Int.toNat q6) 0 : UInt8).toNat : Nat)) : Int)), iC q11, .all 2, .all 3]), (2, .seq tI r19), (3, .seq .bool r22)], 4⟩ hX (by kernel_rfl) allNil ?_
                have hr := of_some hr
                subst hr
                exact HT.ret ⟨[.agg [.dat .str (cut a0 (5 : Int) q6), iC (IntKind.wrap .i64 ((((List.getD a0 (Int.toNat q6) 0 : UInt8).toNat : Nat)) : Int)), iC q11, .all 2, .all 3], iV q15, bV true], [2, 3], [], by kernel_rfl, by kernel_rfl, rfl, by kernel_rfl, by kernel_rfl, trivial⟩
            · rcases of_bif hT28 with ⟨hb30, hT28⟩ | ⟨hb30, hT28⟩
              · exact HT.rgK [oH, oH, oH, ⟨some true, .no⟩, ⟨some true, .no⟩, ⟨some true, .no⟩, ⟨some true, .no⟩, ⟨none, .tv true⟩] [(0, 0), (1, 1), (2, 2), (3, 3)] [] hX (by kernel_rfl) (allCons hb30 (allCons hb30 (allCons hb30 (allCons hb30 (allCons hb30 allNil))))) (fun _ h => (qThen (h.ht (cont true (of_some hT28)))))
              · obtain ⟨y31, hc32, hT28⟩ := of_bind hT28
                exact HT.rgK [oH, oH, oH, ⟨some false, .no⟩, ⟨some false, .no⟩, ⟨some false, .call [.imm .str, .imm .str] [⟨false, .bool, y31⟩] []⟩, ⟨some false, .no⟩, ⟨none, .tv false⟩] [(0, 0), (1, 1), (2, 2), (3, 3)] [] hX (by kernel_rfl) (allCons hb30 (allCons hb30 (allCons hb30 (allCons (f99_ok hc32) (allCons hb30 (allCons hb30 allNil)))))) (fun _ h => (qThen (h.ht (cont (!y31) (of_some hT28)))))
          · refine HT.rg2 [oH] ⟨[(0, .one (.dat .str a0)), (2, pV 0 0), (5, iV (wadd .i64 q6 (2 : Int))), (6, pV 1 0), (7, iV q13), (8, iV q15), (86, iV (IntKind.wrap .i64 ((((List.getD a0 (Int.toNat q6) 0 : UInt8).toNat : Nat)) : Int))), (87, iV s21.1), (88, bV (decide (s21.1 < (IntKind.wrap .i64 ((((List.getD a0 (Int.toNat q6) 0 : UInt8).toNat : Nat)) : Int)))))], [(0, .box [.dat .str ([] : List UInt8), iC (0 : Int), iC (0 : Int), .nilS, .nilS]), (1, .box [.dat .str (cut a0 (5 : Int) q6), iC (IntKind.wrap .i64 ((((List.getD a0 (Int.toNat q6) 0 : UInt8).toNat : Nat)) : Int)), iC q11, .all 2, .all 3]), (2, .seq tI r19), (3, .seq .bool s21.2)], 4⟩ hX (by kernel_rfl) allNil ?_
            refine HT.seq ?_
            rcases of_bif hx34 with ⟨hb36, hx34⟩ | ⟨hb36, hx34⟩
            · refine HT.cond1 rfl hb36 ?_
              refine HT.skip (qThen ?_)
              refine HT.seq ?_
              refine HT.block ?_
              refine HT.rg2 (oHs 2) ⟨[(0, .one (.dat .str a0)), (2, pV 0 0), (5, iV (wadd .i64 q6 (2 : Int))), (6, pV 1 0), (7, iV q13), (8, iV q15), (10, iV s21.1), (86, iV (IntKind.wrap .i64 ((((List.getD a0 (Int.toNat q6) 0 : UInt8).toNat : Nat)) : Int))), (87, iV s21.1)], [(0, .box [.dat .str ([] : List UInt8), iC (0 : Int), iC (0 : Int), .nilS, .nilS]), (1, .box [.dat .str (cut a0 (5 : Int) q6), iC (IntKind.wrap .i64 ((((List.getD a0 (Int.toNat q6) 0 : UInt8).toNat : Nat)) : Int)), iC q11, .all 2, .all 3]), (2, .seq tI r19), (3, .seq .bool s21.2)], 4⟩ hX (by kernel_rfl) allNil ?_
              obtain ⟨hg37, hx34⟩ := of_guard hx34
              obtain ⟨hg38, hx34⟩ := of_guard hx34
              refine HT.drL 12 [⟨oH, []⟩, ⟨oH, [0]⟩, ⟨oH, [0, 1]⟩, ⟨oH, []⟩, ⟨oH, []⟩, ⟨oH, []⟩, ⟨oH, [4, 5]⟩, ⟨oH, []⟩, ⟨oH, [4, 5, 6, 7]⟩, ⟨oH, [3, 4, 5, 6, 7, 8]⟩, ⟨oH, [3, 4, 5, 6, 7, 8, 9]⟩, ⟨⟨none, .ty .bool⟩, [3, 4, 5, 6, 7, 8, 9, 10]⟩] [[0, 1, 2, 3, 4, 5, 6, 7, 8, 9, 10, 11], [0, 1, 2, 3, 4, 5, 6, 7, 8, 9, 10, 11, 12], [0, 1, 2, 3, 4, 5, 6, 7, 8, 9, 10, 11, 12, 13], [0, 1, 2, 3, 4, 5, 6, 7, 8, 9, 10, 11, 12, 13, 14]] [⟨none, .ty .bool⟩, oH, oH, oH] ⟨[(0, .one (.dat .str a0)), (2, pV 0 0), (5, iV (wadd .i64 q6 (2 : Int))), (6, pV 1 0), (7, iV q13), (8, iV q15), (86, iV (IntKind.wrap .i64 ((((List.getD a0 (Int.toNat q6) 0 : UInt8).toNat : Nat)) : Int))), (87, iV s21.1)], [(1, .box [.dat .str (cut a0 (5 : Int) q6), iC (IntKind.wrap .i64 ((((List.getD a0 (Int.toNat q6) 0 : UInt8).toNat : Nat)) : Int)), iC q11, .all 2, .all 5]), (5, .seq .bool (s21.2 ++ ([(((((List.getD a0 (Int.toNat (wadd .i64 (wadd .i64 (wadd .i64 q6 (2 : Int)) q13) s21.1)) 0 : UInt8).toNat : Nat)) : Int) == (1 : Int))] : List Bool))), (0, .box [.dat .str ([] : List UInt8), iC (0 : Int), iC (0 : Int), .nilS, .nilS]), (2, .seq tI r19)], 6⟩ hX (by kernel_rfl) (by kernel_rfl) (allCons hg37 (allCons hg38 allNil)) (qBlock (qThen ?_))
              have hx34 := of_some hx34
              subst hx34
              exact HT.rgK (oHs 2) [(0, 0), (1, 1), (2, 2), (5, 3)] [] hX (by kernel_rfl) allNil (fun _ h => (qLoopN ⟨((wadd .i64 s21.1 (1 : Int)), (s21.2 ++ ([(((((List.getD a0 (Int.toNat (wadd .i64 (wadd .i64 (wadd .i64 q6 (2 : Int)) q13) s21.1)) 0 : UInt8).toNat : Nat)) : Int) == (1 : Int))] : List Bool))), rfl, h⟩))
            · refine HT.cond0 rfl hb36 ?_
              have hx34 := of_some hx34
              subst hx34
              exact HT.exitL (Le.re [(0, 0), (1, 1), (2, 2), (3, 3)] [] hX (by kernel_rfl)) (qThenE (qLoopE (hk35 s21.2 rfl)))
        · refine HT.rg2 [oH] ⟨[(0, .one (.dat .str a0)), (2, pV 0 0), (5, iV (wadd .i64 q6 (2 : Int))), (6, pV 1 0), (7, iV q13), (8, iV q15), (66, iV q13), (67, iV s18.1), (68, bV (decide (s18.1 < q13)))], [(0, .box [.dat .str ([] : List UInt8), iC (0 : Int), iC (0 : Int), .nilS, .nilS]), (1, .box [.dat .str (cut a0 (5 : Int) q6), iC (IntKind.wrap .i64 ((((List.getD a0 (Int.toNat q6) 0 : UInt8).toNat : Nat)) : Int)), iC q11, .all 2, .nilS]), (2, .seq tI s18.2)], 3⟩ hX (by kernel_rfl) allNil ?_
          refine HT.seq ?_
          rcases of_bif hx41 with ⟨hb43, hx41⟩ | ⟨hb43, hx41⟩
          · refine HT.cond1 rfl hb43 ?_
            refine HT.skip (qThen ?_)
            refine HT.seq ?_
            refine HT.block ?_
            refine HT.rg2 (oHs 2) ⟨[(0, .one (.dat .str a0)), (2, pV 0 0), (5, iV (wadd .i64 q6 (2 : Int))), (6, pV 1 0), (7, iV q13), (8, iV q15), (9, iV s18.1), (66, iV q13), (67, iV s18.1)], [(0, .box [.dat .str ([] : List UInt8), iC (0 : Int), iC (0 : Int), .nilS, .nilS]), (1, .box [.dat .str (cut a0 (5 : Int) q6), iC (IntKind.wrap .i64 ((((List.getD a0 (Int.toNat q6) 0 : UInt8).toNat : Nat)) : Int)), iC q11, .all 2, .nilS]), (2, .seq tI s18.2)], 3⟩ hX (by kernel_rfl) allNil ?_
            obtain ⟨hg44, hx41⟩ := of_guard hx41
            obtain ⟨hg45, hx41⟩ := of_guard hx41
            refine HT.drL 10 [⟨oH, []⟩, ⟨oH, [0]⟩, ⟨oH, [0, 1]⟩, ⟨oH, []⟩, ⟨oH, []⟩, ⟨oH, []⟩, ⟨oH, [4, 5]⟩, ⟨oH, [3, 4, 5, 6]⟩, ⟨oH, [3, 4, 5, 6, 7]⟩, ⟨⟨none, .ty tI⟩, [3, 4, 5, 6, 7, 8]⟩] [[0, 1, 2, 3, 4, 5, 6, 7, 8, 9], [0, 1, 2, 3, 4, 5, 6, 7, 8, 9, 10], [0, 1, 2, 3, 4, 5, 6, 7, 8, 9, 10, 11], [0, 1, 2, 3, 4, 5, 6, 7, 8, 9, 10, 11, 12]] [⟨none, .ty tI⟩, oH, oH, oH] ⟨[(0, .one (.dat .str a0)), (2, pV 0 0), (5, iV (wadd .i64 q6 (2 : Int))), (6, pV 1 0), (7, iV q13), (8, iV q15), (66, iV q13), (67, iV s18.1)], [(1, .box [.dat .str (cut a0 (5 : Int) q6), iC (IntKind.wrap .i64 ((((List.getD a0 (Int.toNat q6) 0 : UInt8).toNat : Nat)) : Int)), iC q11, .all 4, .nilS]), (4, .seq tI (s18.2 ++ ([(IntKind.wrap .i64 ((((List.getD a0 (Int.toNat (wadd .i64 (wadd .i64 q6 (2 : Int)) s18.1)) 0 : UInt8).toNat : Nat)) : Int))] : List Int))), (0, .box [.dat .str ([] : List UInt8), iC (0 : Int), iC (0 : Int), .nilS, .nilS])], 5⟩ hX (by kernel_rfl) (by kernel_rfl) (allCons hg44 (allCons hg45 allNil)) (qBlock (qThen ?_))
            have hx41 := of_some hx41
            subst hx41
            exact HT.rgK (oHs 2) [(0, 0), (1, 1), (4, 2)] [] hX (by kernel_rfl) allNil (fun _ h => (qLoopN ⟨((wadd .i64 s18.1 (1 : Int)), (s18.2 ++ ([(IntKind.wrap .i64 ((((List.getD a0 (Int.toNat (wadd .i64 (wadd .i64 q6 (2 : Int)) s18.1)) 0 : UInt8).toNat : Nat)) : Int))] : List Int))), rfl, h⟩))
          · refine HT.cond0 rfl hb43 ?_
            have hx41 := of_some hx41
            subst hx41
            exact HT.exitL (Le.re [(0, 0), (1, 1), (2, 2)] [] hX (by kernel_rfl)) (qThenE (qLoopE (hk42 s18.2 rfl)))
  · rcases of_bif hT3 with ⟨hb47, hT3⟩ | ⟨hb47, hT3⟩
    · exact HT.rgK [oH, oH, oH, oH, ⟨some true, .no⟩, ⟨some true, .no⟩, ⟨some true, .no⟩, ⟨some true, .no⟩, ⟨some true, .no⟩, ⟨some true, .no⟩, ⟨some true, .no⟩, ⟨none, .tv true⟩] [(0, 0)] [] hX (by kernel_rfl) (allCons hb47 (allCons hb47 (allCons hb47 (allCons hb47 (allCons hb47 (allCons hb47 (allCons hb47 (allCons hb47 allNil)))))))) (fun _ h => (qThen (h.ht (cont true (of_some hT3)))))
    · obtain ⟨hg48, hT3⟩ := of_guard hT3
      exact HT.rgK [oH, oH, oH, oH, ⟨some false, .no⟩, ⟨some false, .no⟩, ⟨some false, .no⟩, ⟨some false, .no⟩, ⟨some false, .no⟩, ⟨some false, .no⟩, ⟨some false, .no⟩, ⟨none, .tv false⟩] [(0, 0)] [] hX (by kernel_rfl) (allCons hb47 (allCons hb47 (allCons hb47 (allCons hb47 (allCons hg48 (allCons hb47 (allCons hb47 (allCons hb47 (allCons hb47 allNil))))))))) (fun _ h => (qThen (h.ht (cont (decide ((lenI a0) < (wadd .i64 (7 : Int) (IntKind.wrap .i64 ((((List.getD a0 (Int.toNat (4 : Int)) 0 : UInt8).toNat : Nat)) : Int))))) (of_some hT3)))))

noncomputable def impl_RecoverKepts_B1 (a0 : List UInt8) (s1 : Int × (List (List UInt8 × Int × Int × List Int × List Bool))) : Option ((Int × (List (List UInt8 × Int × Int × List Int × List Bool))) ⊕ ((Int × (List (List UInt8 × Int × Int × List Int × List Bool))))) :=
  bif (decide ((lenI s1.2) < (8 : Int))) then
    guardP ((0 : Int) ≤ s1.1 ∧ s1.1 ≤ lenI a0) (
      (impl_readKept (cut a0 s1.1 (lenI a0))).bind fun y9 =>
      bif (!y9.2.2) then
        some (.inr (s1.1, s1.2))
      else
        guardP (List.length s1.2 + List.length ([(y9.1.1, y9.1.2.1, y9.1.2.2.1, y9.1.2.2.2.1, y9.1.2.2.2.2)] : List (List UInt8 × Int × Int × List Int × List Bool)) ≤ appMax) (
          (some (s1.2 ++ ([(y9.1.1, y9.1.2.1, y9.1.2.2.1, y9.1.2.2.2.1, y9.1.2.2.2.2)] : List (List UInt8 × Int × Int × List Int × List Bool)))).bind fun q13 =>
          some (.inl ((wadd .i64 s1.1 y9.2.1), q13))))
  else
    some (.inr (s1.1, s1.2))

noncomputable def impl_RecoverKepts (a0 : List UInt8) : Option ((List (List UInt8 × Int × Int × List Int × List Bool)) × Int × Bool) :=
  (rounds (impl_RecoverKepts_B1 a0) ((0 : Int), ([] : List (List UInt8 × Int × Int × List Int × List Bool)))).bind fun r3 =>
  some (r3.2, r3.1, true)

theorem f38_ok {a0 : List UInt8} {r : (List (List UInt8 × Int × Int × List Int × List Bool)) × Int × Bool} (hr : impl_RecoverKepts a0 = some r) : CallOK Try.prog 38 [.imm .str a0] [⟨true, (.sl (.st (.pair .str (.st (.pair tI (.pair tI (.pair (.own tI) (.own .bool)))))))), r.1⟩, ⟨false, tI, r.2.1⟩, ⟨false, .bool, r.2.2⟩] [] := by
  unfold impl_RecoverKepts at hr
  refine CallOK.of_body (ts := [(true, (.sl (.st (.pair .str (.st (.pair tI (.pair tI (.pair (.own tI) (.own .bool))))))))), (false, tI), (false, .bool)]) Try.func38 rfl (by kernel_rfl) (Nat.le_of_ble_eq_true (by kernel_rfl)) fun cx hP hN hO hF => ?_
  have hO : cx.own.map Prod.fst = [] := hO
  have hX := CxIs.mk hP hN hO
  have hF := hF rfl
  show HT cx ⟨[(0, .one (.dat .str a0))], [], 0⟩ _ _
  refine HT.rg2 (oHs 3) ⟨[(0, .one (.dat .str a0))], [], 0⟩ hX (by kernel_rfl) allNil ?_
  refine HT.rg2 (oHs 2) ⟨[(0, .one (.dat .str a0)), (5, .one (.nilS))], [], 0⟩ hX (by kernel_rfl) allNil ?_
  refine HT.rg2 [oH] ⟨[(0, .one (.dat .str a0)), (5, .one (.nilS)), (6, iV (0 : Int))], [], 0⟩ hX (by kernel_rfl) allNil ?_
  refine HT.seq ?_
  refine HT.block ?_
  obtain ⟨r2, hL15, hr⟩ := of_bind hr
  refine HT.loopL (fun (s1 : Int × (List (List UInt8 × Int × Int × List Int × List Bool))) => ⟨[(0, .one (.dat .str a0)), (5, aV 0), (6, iV s1.1)], [(0, .seq (.st (.pair .str (.st (.pair tI (.pair tI (.pair (.own tI) (.own .bool))))))) s1.2)], 1⟩) (fun (r3 : (Int × (List (List UInt8 × Int × Int × List Int × List Bool)))) => (.exit 0, ⟨[(5, aV 0), (6, iV r3.1)], [(0, .seq (.st (.pair .str (.st (.pair tI (.pair tI (.pair (.own tI) (.own .bool))))))) r3.2)], 1⟩)) (Le.re [] [0] hX (by kernel_rfl)) hL15 ?_ (fun s1 x4 hx5 hk6 => ?_)
  · refine (qBlockX (qThen ?_))
    refine HT.rg2 (oHs 5) ⟨[(2, aV 0), (3, iV r2.1), (4, bV true)], [(0, .seq (.st (.pair .str (.st (.pair tI (.pair tI (.pair (.own tI) (.own .bool))))))) r2.2)], 1⟩ hX (by kernel_rfl) allNil ?_
    have hr := of_some hr
    subst hr
    exact HT.ret ⟨[aV 0, iV r2.1, bV true], [0], [], by kernel_rfl, by kernel_rfl, rfl, by kernel_rfl, by kernel_rfl, trivial⟩
  · refine HT.seq ?_
    refine HT.rg2 (oHs 3) ⟨[(0, .one (.dat .str a0)), (5, aV 0), (6, iV s1.1), (13, bV (decide ((lenI s1.2) < (8 : Int))))], [(0, .seq (.st (.pair .str (.st (.pair tI (.pair tI (.pair (.own tI) (.own .bool))))))) s1.2)], 1⟩ hX (by kernel_rfl) allNil ?_
    rcases of_bif hx5 with ⟨hb7, hx5⟩ | ⟨hb7, hx5⟩
    · refine HT.cond1 rfl hb7 ?_
      refine HT.skip (qThen ?_)
      refine HT.block ?_
      obtain ⟨hg8, hx5⟩ := of_guard hx5
      obtain ⟨y9, hc10, hx5⟩ := of_bind hx5
      refine HT.rg2 [oH, oH, oH, ⟨none, .call [.imm .str] [⟨true, (.st (.pair .str (.st (.pair tI (.pair tI (.pair tLI (.sl .bool))))))), y9.1⟩, ⟨false, tI, y9.2.1⟩, ⟨false, .bool, y9.2.2⟩] []⟩, oH, oH, oH, oH, oH, oH, oH, oH] ⟨[(0, .one (.dat .str a0)), (5, aV 0), (6, iV s1.1), (7, pV 3 0), (8, iV y9.2.1), (9, bV y9.2.2)], [(3, .box [.dat .str y9.1.1, iC y9.1.2.1, iC y9.1.2.2.1, .all 1, .all 2]), (1, .seq tI y9.1.2.2.2.1), (2, .seq .bool y9.1.2.2.2.2), (0, .seq (.st (.pair .str (.st (.pair tI (.pair tI (.pair (.own tI) (.own .bool))))))) s1.2)], 4⟩ hX (by kernel_rfl) (allCons (show (0 : Int) ≤ s1.1 ∧ s1.1 ≤ lenI a0 ∧ lenI a0 ≤ lenI a0 from ⟨hg8.1, hg8.2, Int.le_refl _⟩) (allCons (f70_ok hc10) allNil)) ?_
      refine HT.seq ?_
      refine HT.rg2 (oHs 2) ⟨[(0, .one (.dat .str a0)), (5, aV 0), (6, iV s1.1), (7, pV 3 0), (8, iV y9.2.1), (23, bV (!y9.2.2))], [(3, .box [.dat .str y9.1.1, iC y9.1.2.1, iC y9.1.2.2.1, .all 1, .all 2]), (1, .seq tI y9.1.2.2.2.1), (2, .seq .bool y9.1.2.2.2.2), (0, .seq (.st (.pair .str (.st (.pair tI (.pair tI (.pair (.own tI) (.own .bool))))))) s1.2)], 4⟩ hX (by kernel_rfl) allNil ?_
      rcases of_bif hx5 with ⟨hb11, hx5⟩ | ⟨hb11, hx5⟩
      · refine HT.cond1 rfl hb11 ?_
        have hx5 := of_some hx5
        subst hx5
        exact HT.exitL (Le.re [(0, 0)] [] hX (by kernel_rfl)) (qThenE (qBlockE rfl (qLoopE (hk6 (s1.1, s1.2) rfl))))
      · refine HT.cond0 rfl hb11 ?_
        refine HT.skip (qThen ?_)
        obtain ⟨hg12, hx5⟩ := of_guard hx5
        refine HT.rg2 [oH, oH, ⟨none, .ty (.st (.pair .str (.st (.pair tI (.pair tI (.pair (.own tI) (.own .bool)))))))⟩, ⟨none, .ty (.st (.pair .str (.st (.pair tI (.pair tI (.pair (.own tI) (.own .bool)))))))⟩, oH] ⟨[(0, .one (.dat .str a0)), (5, aV 5), (6, iV s1.1), (8, iV y9.2.1)], [(5, .seq (.st (.pair .str (.st (.pair tI (.pair tI (.pair (.own tI) (.own .bool))))))) (s1.2 ++ ([(y9.1.1, y9.1.2.1, y9.1.2.2.1, y9.1.2.2.2.1, y9.1.2.2.2.2)] : List (List UInt8 × Int × Int × List Int × List Bool))))], 6⟩ hX (by kernel_rfl) (allCons hg12 allNil) ?_
        obtain ⟨q13, hq14, hx5⟩ := of_bind hx5
        have hq14 := of_some2 hq14
        refine (Le.cv (s := ⟨[(5, 5)], [], [], false⟩) (own := []) (ps := [a0 = a0, s1.1 = s1.1, y9.2.1 = y9.2.1, q13 = (s1.2 ++ ([(y9.1.1, y9.1.2.1, y9.1.2.2.1, y9.1.2.2.2.1, y9.1.2.2.2.2)] : List (List UInt8 × Int × Int × List Int × List Bool)))]) (st' := ⟨[(0, .one (.dat .str a0)), (5, aV 5), (6, iV s1.1), (8, iV y9.2.1)], [(5, .seq (.st (.pair .str (.st (.pair tI (.pair tI (.pair (.own tI) (.own .bool))))))) q13)], 6⟩) hO (fun h => by cases h) (by kernel_rfl) ⟨rfl, rfl, rfl, hq14, trivial⟩).ht ?_
        have hx5 := of_some hx5
        subst hx5
        exact HT.rgK (oHs 4) [(5, 0)] [] hX (by kernel_rfl) allNil (fun _ h => (qBlock (qLoopN ⟨((wadd .i64 s1.1 y9.2.1), q13), rfl, h⟩)))
    · refine HT.cond0 rfl hb7 ?_
      have hx5 := of_some hx5
      subst hx5
      exact HT.exitL (Le.re [(0, 0)] [] hX (by kernel_rfl)) (qThenE (qLoopE (hk6 (s1.1, s1.2) rfl)))

noncomputable def laws_markText_B1  (s2 : Int × List UInt8) : Option ((Int × List UInt8) ⊕ (List UInt8)) :=
  bif (decide (s2.1 > (0 : Int))) then
    guardP (List.length (bytesO ([(IntKind.wrap .u8 (wadd .i64 (48 : Int) (Int.tmod s2.1 (10 : Int))))] : List Int)) + List.length s2.2 ≤ appMax) (
      (some ((bytesO ([(IntKind.wrap .u8 (wadd .i64 (48 : Int) (Int.tmod s2.1 (10 : Int))))] : List Int)) ++ s2.2)).bind fun q11 =>
      some (.inl ((IntKind.wrap .i64 (Int.tdiv s2.1 (10 : Int))), q11)))
  else
    some (.inr s2.2)

noncomputable def laws_markText (a0 : Int) : Option (List UInt8) :=
  bif (decide (a0 ≤ (0 : Int))) then
    some ([109, 48] : List UInt8)
  else
    (rounds (laws_markText_B1) (a0, ([] : List UInt8))).bind fun r4 =>
    guardP (List.length ([109] : List UInt8) + List.length r4 ≤ appMax) (
      some (([109] : List UInt8) ++ r4))

theorem f72_ok {a0 : Int} {r : List UInt8} (hr : laws_markText a0 = some r) : CallOK Try.prog 72 [.imm tI a0] [⟨false, .str, r⟩] [] := by
  unfold laws_markText at hr
  refine CallOK.of_body (ts := [(false, .str)]) Try.func72 rfl (by kernel_rfl) (Nat.le_of_ble_eq_true (by kernel_rfl)) fun cx hP hN hO hF => ?_
  have hO : cx.own.map Prod.fst = [] := hO
  have hX := CxIs.mk hP hN hO
  have hF := hF rfl
  show HT cx ⟨[(0, iV a0)], [], 0⟩ _ _
  refine HT.rg2 [oH] ⟨[(0, iV a0)], [], 0⟩ hX (by kernel_rfl) allNil ?_
  refine HT.seq ?_
  refine HT.rg2 (oHs 2) ⟨[(0, iV a0), (5, bV (decide (a0 ≤ (0 : Int))))], [], 0⟩ hX (by kernel_rfl) allNil ?_
  rcases of_bif hr with ⟨hb1, hr⟩ | ⟨hb1, hr⟩
  · refine HT.cond1 rfl hb1 ?_
    refine HT.rg2 [oH] ⟨[(2, .one (.dat .str ([109, 48] : List UInt8)))], [], 0⟩ hX (by kernel_rfl) allNil ?_
    have hr := of_some hr
    subst hr
    exact HT.ret (qThenR ⟨[.one (.dat .str ([109, 48] : List UInt8))], [], [], by kernel_rfl, by kernel_rfl, rfl, by kernel_rfl, by kernel_rfl, trivial⟩)
  · refine HT.cond0 rfl hb1 ?_
    refine HT.skip (qThen ?_)
    refine HT.rg2 [oH] ⟨[(0, iV a0), (3, .one (.dat .str ([] : List UInt8)))], [], 0⟩ hX (by kernel_rfl) allNil ?_
    refine HT.seq ?_
    refine HT.block ?_
    obtain ⟨r3, hL13, hr⟩ := of_bind hr
    refine HT.loopL (fun (s2 : Int × List UInt8) => ⟨[(0, iV s2.1), (3, .one (.dat .str s2.2))], [], 0⟩) (fun (r4 : List UInt8) => (.exit 0, ⟨[(3, .one (.dat .str r4))], [], 0⟩)) (Le.re [] [] hX (by kernel_rfl)) hL13 ?_ (fun s2 x6 hx7 hk8 => ?_)
    · refine (qBlockX (qThen ?_))
      obtain ⟨hg5, hr⟩ := of_guard hr
      refine HT.rg2 (oHs 3) ⟨[(2, .one (.dat .str (([109] : List UInt8) ++ r3)))], [], 0⟩ hX (by kernel_rfl) (allCons hg5 allNil) ?_
      have hr := of_some hr
      subst hr
      exact HT.ret ⟨[.one (.dat .str (([109] : List UInt8) ++ r3))], [], [], by kernel_rfl, by kernel_rfl, rfl, by kernel_rfl, by kernel_rfl, trivial⟩
    · refine HT.seq ?_
      refine HT.rg2 (oHs 2) ⟨[(0, iV s2.1), (3, .one (.dat .str s2.2)), (7, bV (decide (s2.1 > (0 : Int))))], [], 0⟩ hX (by kernel_rfl) allNil ?_
      rcases of_bif hx7 with ⟨hb9, hx7⟩ | ⟨hb9, hx7⟩
      · refine HT.cond1 rfl hb9 ?_
        refine HT.skip (qThen ?_)
        refine HT.block ?_
        obtain ⟨hg10, hx7⟩ := of_guard hx7
        refine HT.rg2 [oH, oH, oH, oH, ⟨none, .ty (.int .u8)⟩, oH, oH, oH, oH] ⟨[(0, iV s2.1), (3, .one (.dat .str ((bytesO ([(IntKind.wrap .u8 (wadd .i64 (48 : Int) (Int.tmod s2.1 (10 : Int))))] : List Int)) ++ s2.2)))], [], 1⟩ hX (by kernel_rfl) (allCons (show (10 : Int) ≠ 0 from by decide) (allCons hg10 allNil)) ?_
        obtain ⟨q11, hq12, hx7⟩ := of_bind hx7
        have hq12 := of_some2 hq12
        refine (Le.cv (s := ⟨[], [], [], false⟩) (own := []) (ps := [s2.1 = s2.1, q11 = ((bytesO ([(IntKind.wrap .u8 (wadd .i64 (48 : Int) (Int.tmod s2.1 (10 : Int))))] : List Int)) ++ s2.2)]) (st' := ⟨[(0, iV s2.1), (3, .one (.dat .str q11))], [], 1⟩) hO (fun h => by cases h) (by kernel_rfl) ⟨rfl, hq12, trivial⟩).ht ?_
        have hx7 := of_some hx7
        subst hx7
        exact HT.rgK (oHs 3) [] [] hX (by kernel_rfl) (allCons (show (10 : Int) ≠ 0 from by decide) allNil) (fun _ h => (qBlock (qLoopN ⟨((IntKind.wrap .i64 (Int.tdiv s2.1 (10 : Int))), q11), rfl, h⟩)))
      · refine HT.cond0 rfl hb9 ?_
        have hx7 := of_some hx7
        subst hx7
        exact HT.exitL (Le.re [] [] hX (by kernel_rfl)) (qThenE (qLoopE (hk8 s2.2 rfl)))

noncomputable def laws_markInt64S_B1  (s1 : Int × Int × List Int) : Option ((Int × Int × List Int) ⊕ ((Int × List Int))) :=
  bif (decide (s1.2.1 < (lenI s1.2.2))) then
    guardP ((0 : Int) ≤ s1.2.1 ∧ s1.2.1 < lenI s1.2.2) (
      some (.inl ((wadd .i64 s1.1 (1 : Int)), (wadd .i64 s1.2.1 (1 : Int)), (List.set s1.2.2 (Int.toNat s1.2.1) s1.1))))
  else
    some (.inr (s1.1, s1.2.2))

noncomputable def laws_markInt64S (a0 : List Int) (a1 : Int) : Option (Int × List Int) :=
  (rounds (laws_markInt64S_B1) (a1, (0 : Int), a0)).bind fun r3 =>
  guardP (List.length r3.2 = List.length a0) (
    some (r3.1, r3.2))

theorem f19_ok {a0 : List Int} {a1 : Int} {r : Int × List Int} (hr : laws_markInt64S a0 a1 = some r) : CallOK Try.prog 19 [.own tLI a0, .imm tI a1] [⟨false, tI, r.1⟩] [⟨tLI, r.2⟩] := by
  unfold laws_markInt64S at hr
  refine CallOK.of_body (ts := [(false, tI)]) Try.func19 rfl (by kernel_rfl) (Nat.le_of_ble_eq_true (by kernel_rfl)) fun cx hP hN hO hF => ?_
  have hO : cx.own.map Prod.fst = [0] := hO
  have hX := CxIs.mk hP hN hO
  have hF := hF rfl
  show HT cx ⟨[(0, aV 0), (1, iV a1)], [(0, .seq tI a0)], 1⟩ _ _
  refine HT.rg2 [oH] ⟨[(0, aV 0), (1, iV a1)], [(0, .seq tI a0)], 1⟩ hX (by kernel_rfl) allNil ?_
  refine HT.seq ?_
  refine HT.rg2 [oH] ⟨[(0, aV 0), (1, iV a1), (5, iV (0 : Int))], [(0, .seq tI a0)], 1⟩ hX (by kernel_rfl) allNil ?_
  refine HT.block ?_
  obtain ⟨r2, hL10, hr⟩ := of_bind hr
  refine HT.loopL (fun (s1 : Int × Int × List Int) => ⟨[(0, aV 0), (1, iV s1.1), (5, iV s1.2.1)], [(0, .seq tI s1.2.2)], 1⟩) (fun (r3 : (Int × List Int)) => (.exit 0, ⟨[(1, iV r3.1)], [(0, .seq tI r3.2)], 1⟩)) (Le.re [(0, 0)] [] hX (by kernel_rfl)) hL10 ?_ (fun s1 x5 hx6 hk7 => ?_)
  · refine (qBlockX (qThen ?_))
    refine HT.rg2 (oHs 2) ⟨[(4, iV r2.1)], [(0, .seq tI r2.2)], 1⟩ hX (by kernel_rfl) allNil ?_
    obtain ⟨hg4, hr⟩ := of_guard hr
    have hr := of_some hr
    subst hr
    exact HT.ret ⟨[iV r2.1], [], [List.length r2.2 = List.length a0], by kernel_rfl, by kernel_rfl, rfl, by kernel_rfl, by kernel_rfl, ⟨hg4, trivial⟩⟩
  · refine HT.seq ?_
    refine HT.rg2 (oHs 4) ⟨[(0, aV 0), (1, iV s1.1), (5, iV s1.2.1), (9, bV (decide (s1.2.1 < (lenI s1.2.2))))], [(0, .seq tI s1.2.2)], 1⟩ hX (by kernel_rfl) allNil ?_
    rcases of_bif hx6 with ⟨hb8, hx6⟩ | ⟨hb8, hx6⟩
    · refine HT.cond1 rfl hb8 ?_
      refine HT.skip (qThen ?_)
      refine HT.seq ?_
      refine HT.block ?_
      obtain ⟨hg9, hx6⟩ := of_guard hx6
      refine HT.rg2 (oHs 5) ⟨[(0, aV 0), (1, iV s1.1), (5, iV s1.2.1)], [(0, .seq tI (List.set s1.2.2 (Int.toNat s1.2.1) s1.1))], 1⟩ hX (by kernel_rfl) (allCons hg9 (allCons (natLt hg9) allNil)) ?_
      refine HT.rgL (oHs 3) ⟨[(0, aV 0), (1, iV (wadd .i64 s1.1 (1 : Int))), (5, iV s1.2.1)], [(0, .seq tI (List.set s1.2.2 (Int.toNat s1.2.1) s1.1))], 1⟩ hX (by kernel_rfl) allNil (qBlock (qThen ?_))
      have hx6 := of_some hx6
      subst hx6
      exact HT.rgK (oHs 3) [(0, 0)] [] hX (by kernel_rfl) allNil (fun _ h => (qLoopN ⟨((wadd .i64 s1.1 (1 : Int)), (wadd .i64 s1.2.1 (1 : Int)), (List.set s1.2.2 (Int.toNat s1.2.1) s1.1)), rfl, h⟩))
    · refine HT.cond0 rfl hb8 ?_
      have hx6 := of_some hx6
      subst hx6
      exact HT.exitL (Le.re [(0, 0)] [] hX (by kernel_rfl)) (qThenE (qLoopE (hk7 (s1.1, s1.2.2) rfl)))

noncomputable def laws_markBoolS_B1  (s1 : Int × Int × List Bool) : Option ((Int × Int × List Bool) ⊕ ((Int × List Bool))) :=
  bif (decide (s1.2.1 < (lenI s1.2.2))) then
    guardP ((0 : Int) ≤ s1.2.1 ∧ s1.2.1 < lenI s1.2.2) (
      some (.inl ((wadd .i64 s1.1 (1 : Int)), (wadd .i64 s1.2.1 (1 : Int)), (List.set s1.2.2 (Int.toNat s1.2.1) ((Int.tmod s1.1 (3 : Int)) == (0 : Int))))))
  else
    some (.inr (s1.1, s1.2.2))

noncomputable def laws_markBoolS (a0 : List Bool) (a1 : Int) : Option (Int × List Bool) :=
  (rounds (laws_markBoolS_B1) (a1, (0 : Int), a0)).bind fun r3 =>
  guardP (List.length r3.2 = List.length a0) (
    some (r3.1, r3.2))

theorem f73_ok {a0 : List Bool} {a1 : Int} {r : Int × List Bool} (hr : laws_markBoolS a0 a1 = some r) : CallOK Try.prog 73 [.own (.sl .bool) a0, .imm tI a1] [⟨false, tI, r.1⟩] [⟨(.sl .bool), r.2⟩] := by
  unfold laws_markBoolS at hr
  refine CallOK.of_body (ts := [(false, tI)]) Try.func73 rfl (by kernel_rfl) (Nat.le_of_ble_eq_true (by kernel_rfl)) fun cx hP hN hO hF => ?_
  have hO : cx.own.map Prod.fst = [0] := hO
  have hX := CxIs.mk hP hN hO
  have hF := hF rfl
  show HT cx ⟨[(0, aV 0), (1, iV a1)], [(0, .seq .bool a0)], 1⟩ _ _
  refine HT.rg2 [oH] ⟨[(0, aV 0), (1, iV a1)], [(0, .seq .bool a0)], 1⟩ hX (by kernel_rfl) allNil ?_
  refine HT.seq ?_
  refine HT.rg2 [oH] ⟨[(0, aV 0), (1, iV a1), (5, iV (0 : Int))], [(0, .seq .bool a0)], 1⟩ hX (by kernel_rfl) allNil ?_
  refine HT.block ?_
  obtain ⟨r2, hL10, hr⟩ := of_bind hr
  refine HT.loopL (fun (s1 : Int × Int × List Bool) => ⟨[(0, aV 0), (1, iV s1.1), (5, iV s1.2.1)], [(0, .seq .bool s1.2.2)], 1⟩) (fun (r3 : (Int × List Bool)) => (.exit 0, ⟨[(1, iV r3.1)], [(0, .seq .bool r3.2)], 1⟩)) (Le.re [(0, 0)] [] hX (by kernel_rfl)) hL10 ?_ (fun s1 x5 hx6 hk7 => ?_)
  · refine (qBlockX (qThen ?_))
    refine HT.rg2 (oHs 2) ⟨[(4, iV r2.1)], [(0, .seq .bool r2.2)], 1⟩ hX (by kernel_rfl) allNil ?_
    obtain ⟨hg4, hr⟩ := of_guard hr
    have hr := of_some hr
    subst hr
    exact HT.ret ⟨[iV r2.1], [], [List.length r2.2 = List.length a0], by kernel_rfl, by kernel_rfl, rfl, by kernel_rfl, by kernel_rfl, ⟨hg4, trivial⟩⟩
  · refine HT.seq ?_
    refine HT.rg2 (oHs 4) ⟨[(0, aV 0), (1, iV s1.1), (5, iV s1.2.1), (9, bV (decide (s1.2.1 < (lenI s1.2.2))))], [(0, .seq .bool s1.2.2)], 1⟩ hX (by kernel_rfl) allNil ?_
    rcases of_bif hx6 with ⟨hb8, hx6⟩ | ⟨hb8, hx6⟩
    · refine HT.cond1 rfl hb8 ?_
      refine HT.skip (qThen ?_)
      refine HT.seq ?_
      refine HT.block ?_
      obtain ⟨hg9, hx6⟩ := of_guard hx6
      refine HT.rg2 (oHs 7) ⟨[(0, aV 0), (1, iV s1.1), (5, iV s1.2.1)], [(0, .seq .bool (List.set s1.2.2 (Int.toNat s1.2.1) ((Int.tmod s1.1 (3 : Int)) == (0 : Int))))], 1⟩ hX (by kernel_rfl) (allCons (show (3 : Int) ≠ 0 from by decide) (allCons hg9 (allCons (natLt hg9) allNil))) ?_
      refine HT.rgL (oHs 3) ⟨[(0, aV 0), (1, iV (wadd .i64 s1.1 (1 : Int))), (5, iV s1.2.1)], [(0, .seq .bool (List.set s1.2.2 (Int.toNat s1.2.1) ((Int.tmod s1.1 (3 : Int)) == (0 : Int))))], 1⟩ hX (by kernel_rfl) allNil (qBlock (qThen ?_))
      have hx6 := of_some hx6
      subst hx6
      exact HT.rgK (oHs 3) [(0, 0)] [] hX (by kernel_rfl) allNil (fun _ h => (qLoopN ⟨((wadd .i64 s1.1 (1 : Int)), (wadd .i64 s1.2.1 (1 : Int)), (List.set s1.2.2 (Int.toNat s1.2.1) ((Int.tmod s1.1 (3 : Int)) == (0 : Int)))), rfl, h⟩))
    · refine HT.cond0 rfl hb8 ?_
      have hx6 := of_some hx6
      subst hx6
      exact HT.exitL (Le.re [(0, 0)] [] hX (by kernel_rfl)) (qThenE (qLoopE (hk7 (s1.1, s1.2.2) rfl)))

noncomputable def laws_markKeptS_B1  (s1 : Int × Int × (List (List UInt8 × Int × Int × List Int × List Bool))) : Option ((Int × Int × (List (List UInt8 × Int × Int × List Int × List Bool))) ⊕ ((Int × (List (List UInt8 × Int × Int × List Int × List Bool))))) :=
  bif (decide (s1.2.1 < (lenI s1.2.2))) then
    (laws_markText s1.1).bind fun y9 =>
    guardP ((0 : Int) ≤ s1.2.1 ∧ s1.2.1 < lenI s1.2.2) (
      (some (List.set s1.2.2 (Int.toNat s1.2.1) (y9, ((List.getD s1.2.2 (Int.toNat s1.2.1) (([] : List UInt8), (0 : Int), (0 : Int), ([] : List Int), ([] : List Bool))).2).1, (((List.getD s1.2.2 (Int.toNat s1.2.1) (([] : List UInt8), (0 : Int), (0 : Int), ([] : List Int), ([] : List Bool))).2).2).1, ((((List.getD s1.2.2 (Int.toNat s1.2.1) (([] : List UInt8), (0 : Int), (0 : Int), ([] : List Int), ([] : List Bool))).2).2).2).1, ((((List.getD s1.2.2 (Int.toNat s1.2.1) (([] : List UInt8), (0 : Int), (0 : Int), ([] : List Int), ([] : List Bool))).2).2).2).2))).bind fun q12 =>
      guardP ((0 : Int) ≤ s1.2.1 ∧ s1.2.1 < lenI q12) (
        (some (List.set q12 (Int.toNat s1.2.1) ((List.getD q12 (Int.toNat s1.2.1) (([] : List UInt8), (0 : Int), (0 : Int), ([] : List Int), ([] : List Bool))).1, (wadd .i64 s1.1 (1 : Int)), (((List.getD q12 (Int.toNat s1.2.1) (([] : List UInt8), (0 : Int), (0 : Int), ([] : List Int), ([] : List Bool))).2).2).1, ((((List.getD q12 (Int.toNat s1.2.1) (([] : List UInt8), (0 : Int), (0 : Int), ([] : List Int), ([] : List Bool))).2).2).2).1, ((((List.getD q12 (Int.toNat s1.2.1) (([] : List UInt8), (0 : Int), (0 : Int), ([] : List Int), ([] : List Bool))).2).2).2).2))).bind fun q15 =>
        guardP ((0 : Int) ≤ s1.2.1 ∧ s1.2.1 < lenI q15) (
          (some (List.set q15 (Int.toNat s1.2.1) ((List.getD q15 (Int.toNat s1.2.1) (([] : List UInt8), (0 : Int), (0 : Int), ([] : List Int), ([] : List Bool))).1, ((List.getD q15 (Int.toNat s1.2.1) (([] : List UInt8), (0 : Int), (0 : Int), ([] : List Int), ([] : List Bool))).2).1, (wadd .i64 (wadd .i64 s1.1 (1 : Int)) (1 : Int)), ((((List.getD q15 (Int.toNat s1.2.1) (([] : List UInt8), (0 : Int), (0 : Int), ([] : List Int), ([] : List Bool))).2).2).2).1, ((((List.getD q15 (Int.toNat s1.2.1) (([] : List UInt8), (0 : Int), (0 : Int), ([] : List Int), ([] : List Bool))).2).2).2).2))).bind fun q18 =>
          guardP ((0 : Int) ≤ s1.2.1 ∧ s1.2.1 < lenI q18) (
            (laws_markInt64S (((((List.getD q18 (Int.toNat s1.2.1) (([] : List UInt8), (0 : Int), (0 : Int), ([] : List Int), ([] : List Bool))).2).2).2).1) (wadd .i64 (wadd .i64 (wadd .i64 s1.1 (1 : Int)) (1 : Int)) (1 : Int))).bind fun y21 =>
            (some (List.set q18 (Int.toNat s1.2.1) ((List.getD q18 (Int.toNat s1.2.1) (([] : List UInt8), (0 : Int), (0 : Int), ([] : List Int), ([] : List Bool))).1, ((List.getD q18 (Int.toNat s1.2.1) (([] : List UInt8), (0 : Int), (0 : Int), ([] : List Int), ([] : List Bool))).2).1, (((List.getD q18 (Int.toNat s1.2.1) (([] : List UInt8), (0 : Int), (0 : Int), ([] : List Int), ([] : List Bool))).2).2).1, y21.2, ((((List.getD q18 (Int.toNat s1.2.1) (([] : List UInt8), (0 : Int), (0 : Int), ([] : List Int), ([] : List Bool))).2).2).2).2))).bind fun q23 =>
            guardP ((0 : Int) ≤ s1.2.1 ∧ s1.2.1 < lenI q23) (
              (laws_markBoolS (((((List.getD q23 (Int.toNat s1.2.1) (([] : List UInt8), (0 : Int), (0 : Int), ([] : List Int), ([] : List Bool))).2).2).2).2) y21.1).bind fun y26 =>
              some (.inl (y26.1, (wadd .i64 s1.2.1 (1 : Int)), (List.set q23 (Int.toNat s1.2.1) ((List.getD q23 (Int.toNat s1.2.1) (([] : List UInt8), (0 : Int), (0 : Int), ([] : List Int), ([] : List Bool))).1, ((List.getD q23 (Int.toNat s1.2.1) (([] : List UInt8), (0 : Int), (0 : Int), ([] : List Int), ([] : List Bool))).2).1, (((List.getD q23 (Int.toNat s1.2.1) (([] : List UInt8), (0 : Int), (0 : Int), ([] : List Int), ([] : List Bool))).2).2).1, ((((List.getD q23 (Int.toNat s1.2.1) (([] : List UInt8), (0 : Int), (0 : Int), ([] : List Int), ([] : List Bool))).2).2).2).1, y26.2)))))))))
  else
    some (.inr (s1.1, s1.2.2))

noncomputable def laws_markKeptS (a0 : List (List UInt8 × Int × Int × List Int × List Bool)) (a1 : Int) : Option (Int × (List (List UInt8 × Int × Int × List Int × List Bool))) :=
  (rounds (laws_markKeptS_B1) (a1, (0 : Int), a0)).bind fun r3 =>
  guardP (ShapeEq (.st (.pair .str (.st (.pair tI (.pair tI (.pair (.own tI) (.own .bool))))))) a0 r3.2) (
    some (r3.1, r3.2))

theorem f40_ok {a0 : List (List UInt8 × Int × Int × List Int × List Bool)} {a1 : Int} {r : Int × (List (List UInt8 × Int × Int × List Int × List Bool))} (hr : laws_markKeptS a0 a1 = some r) : CallOK Try.prog 40 [.own (.sl (.st (.pair .str (.st (.pair tI (.pair tI (.pair (.own tI) (.own .bool)))))))) a0, .imm tI a1] [⟨false, tI, r.1⟩] [⟨(.sl (.st (.pair .str (.st (.pair tI (.pair tI (.pair (.own tI) (.own .bool)))))))), r.2⟩] := by
  unfold laws_markKeptS at hr
  refine CallOK.of_body (ts := [(false, tI)]) Try.func40 rfl (by kernel_rfl) (Nat.le_of_ble_eq_true (by kernel_rfl)) fun cx hP hN hO hF => ?_
  have hO : cx.own.map Prod.fst = [0] := hO
  have hX := CxIs.mk hP hN hO
  have hF := hF rfl
  show HT cx ⟨[(0, aV 0), (1, iV a1)], [(0, .seq (.st (.pair .str (.st (.pair tI (.pair tI (.pair (.own tI) (.own .bool))))))) a0)], 1⟩ _ _
  refine HT.rg2 [oH] ⟨[(0, aV 0), (1, iV a1)], [(0, .seq (.st (.pair .str (.st (.pair tI (.pair tI (.pair (.own tI) (.own .bool))))))) a0)], 1⟩ hX (by kernel_rfl) allNil ?_
  refine HT.seq ?_
  refine HT.rg2 [oH] ⟨[(0, aV 0), (1, iV a1), (5, iV (0 : Int))], [(0, .seq (.st (.pair .str (.st (.pair tI (.pair tI (.pair (.own tI) (.own .bool))))))) a0)], 1⟩ hX (by kernel_rfl) allNil ?_
  refine HT.block ?_
  obtain ⟨r2, hL28, hr⟩ := of_bind hr
  refine HT.loopL (fun (s1 : Int × Int × (List (List UInt8 × Int × Int × List Int × List Bool))) => ⟨[(0, aV 0), (1, iV s1.1), (5, iV s1.2.1)], [(0, .seq (.st (.pair .str (.st (.pair tI (.pair tI (.pair (.own tI) (.own .bool))))))) s1.2.2)], 1⟩) (fun (r3 : (Int × (List (List UInt8 × Int × Int × List Int × List Bool)))) => (.exit 0, ⟨[(1, iV r3.1)], [(0, .seq (.st (.pair .str (.st (.pair tI (.pair tI (.pair (.own tI) (.own .bool))))))) r3.2)], 1⟩)) (Le.re [(0, 0)] [] hX (by kernel_rfl)) hL28 ?_ (fun s1 x5 hx6 hk7 => ?_)
  · refine (qBlockX (qThen ?_))
    refine HT.rg2 (oHs 2) ⟨[(4, iV r2.1)], [(0, .seq (.st (.pair .str (.st (.pair tI (.pair tI (.pair (.own tI) (.own .bool))))))) r2.2)], 1⟩ hX (by kernel_rfl) allNil ?_
    obtain ⟨hg4, hr⟩ := of_guard hr
    have hr := of_some hr
    subst hr
    exact HT.ret ⟨[iV r2.1], [], [ShapeEq (.st (.pair .str (.st (.pair tI (.pair tI (.pair (.own tI) (.own .bool))))))) a0 r2.2], by kernel_rfl, by kernel_rfl, rfl, by kernel_rfl, by kernel_rfl, ⟨hg4, trivial⟩⟩
  · refine HT.seq ?_
    refine HT.rg2 (oHs 4) ⟨[(0, aV 0), (1, iV s1.1), (5, iV s1.2.1), (9, bV (decide (s1.2.1 < (lenI s1.2.2))))], [(0, .seq (.st (.pair .str (.st (.pair tI (.pair tI (.pair (.own tI) (.own .bool))))))) s1.2.2)], 1⟩ hX (by kernel_rfl) allNil ?_
    rcases of_bif hx6 with ⟨hb8, hx6⟩ | ⟨hb8, hx6⟩
    · refine HT.cond1 rfl hb8 ?_
      refine HT.skip (qThen ?_)
      refine HT.seq ?_
      refine HT.block ?_
      obtain ⟨y9, hc10, hx6⟩ := of_bind hx6
      obtain ⟨hg11, hx6⟩ := of_guard hx6
      refine HT.rg2 [oH, oH, oH, ⟨none, .call [.imm tI] [⟨false, .str, y9⟩] []⟩, oH, oH, oH] ⟨[(0, aV 0), (1, iV s1.1), (5, iV s1.2.1)], [(0, .seq (.st (.pair .str (.st (.pair tI (.pair tI (.pair (.own tI) (.own .bool))))))) (List.set s1.2.2 (Int.toNat s1.2.1) (y9, ((List.getD s1.2.2 (Int.toNat s1.2.1) (([] : List UInt8), (0 : Int), (0 : Int), ([] : List Int), ([] : List Bool))).2).1, (((List.getD s1.2.2 (Int.toNat s1.2.1) (([] : List UInt8), (0 : Int), (0 : Int), ([] : List Int), ([] : List Bool))).2).2).1, ((((List.getD s1.2.2 (Int.toNat s1.2.1) (([] : List UInt8), (0 : Int), (0 : Int), ([] : List Int), ([] : List Bool))).2).2).2).1, ((((List.getD s1.2.2 (Int.toNat s1.2.1) (([] : List UInt8), (0 : Int), (0 : Int), ([] : List Int), ([] : List Bool))).2).2).2).2)))], 1⟩ hX (by kernel_rfl) (allCons (f72_ok hc10) (allCons hg11 (allCons (natLt hg11) allNil))) ?_
      obtain ⟨q12, hq13, hx6⟩ := of_bind hx6
      have hq13 := of_some2 hq13
      refine (Le.cv (s := ⟨[(0, 0)], [], [], false⟩) (own := [0]) (ps := [s1.1 = s1.1, s1.2.1 = s1.2.1, q12 = (List.set s1.2.2 (Int.toNat s1.2.1) (y9, ((List.getD s1.2.2 (Int.toNat s1.2.1) (([] : List UInt8), (0 : Int), (0 : Int), ([] : List Int), ([] : List Bool))).2).1, (((List.getD s1.2.2 (Int.toNat s1.2.1) (([] : List UInt8), (0 : Int), (0 : Int), ([] : List Int), ([] : List Bool))).2).2).1, ((((List.getD s1.2.2 (Int.toNat s1.2.1) (([] : List UInt8), (0 : Int), (0 : Int), ([] : List Int), ([] : List Bool))).2).2).2).1, ((((List.getD s1.2.2 (Int.toNat s1.2.1) (([] : List UInt8), (0 : Int), (0 : Int), ([] : List Int), ([] : List Bool))).2).2).2).2))]) (st' := ⟨[(0, aV 0), (1, iV s1.1), (5, iV s1.2.1)], [(0, .seq (.st (.pair .str (.st (.pair tI (.pair tI (.pair (.own tI) (.own .bool))))))) q12)], 1⟩) hO (fun h => by cases h) (by kernel_rfl) ⟨rfl, rfl, hq13, trivial⟩).ht ?_
      refine HT.rg2 (oHs 3) ⟨[(0, aV 0), (1, iV (wadd .i64 s1.1 (1 : Int))), (5, iV s1.2.1)], [(0, .seq (.st (.pair .str (.st (.pair tI (.pair tI (.pair (.own tI) (.own .bool))))))) q12)], 1⟩ hX (by kernel_rfl) allNil ?_
      obtain ⟨hg14, hx6⟩ := of_guard hx6
      refine HT.rg2 (oHs 7) ⟨[(0, aV 0), (1, iV (wadd .i64 s1.1 (1 : Int))), (5, iV s1.2.1)], [(0, .seq (.st (.pair .str (.st (.pair tI (.pair tI (.pair (.own tI) (.own .bool))))))) (List.set q12 (Int.toNat s1.2.1) ((List.getD q12 (Int.toNat s1.2.1) (([] : List UInt8), (0 : Int), (0 : Int), ([] : List Int), ([] : List Bool))).1, (wadd .i64 s1.1 (1 : Int)), (((List.getD q12 (Int.toNat s1.2.1) (([] : List UInt8), (0 : Int), (0 : Int), ([] : List Int), ([] : List Bool))).2).2).1, ((((List.getD q12 (Int.toNat s1.2.1) (([] : List UInt8), (0 : Int), (0 : Int), ([] : List Int), ([] : List Bool))).2).2).2).1, ((((List.getD q12 (Int.toNat s1.2.1) (([] : List UInt8), (0 : Int), (0 : Int), ([] : List Int), ([] : List Bool))).2).2).2).2)))], 1⟩ hX (by kernel_rfl) (allCons hg14 (allCons (natLt hg14) allNil)) ?_
      obtain ⟨q15, hq16, hx6⟩ := of_bind hx6
      have hq16 := of_some2 hq16
      refine (Le.cv (s := ⟨[(0, 0)], [], [], false⟩) (own := [0]) (ps := [(wadd .i64 s1.1 (1 : Int)) = (wadd .i64 s1.1 (1 : Int)), s1.2.1 = s1.2.1, q15 = (List.set q12 (Int.toNat s1.2.1) ((List.getD q12 (Int.toNat s1.2.1) (([] : List UInt8), (0 : Int), (0 : Int), ([] : List Int), ([] : List Bool))).1, (wadd .i64 s1.1 (1 : Int)), (((List.getD q12 (Int.toNat s1.2.1) (([] : List UInt8), (0 : Int), (0 : Int), ([] : List Int), ([] : List Bool))).2).2).1, ((((List.getD q12 (Int.toNat s1.2.1) (([] : List UInt8), (0 : Int), (0 : Int), ([] : List Int), ([] : List Bool))).2).2).2).1, ((((List.getD q12 (Int.toNat s1.2.1) (([] : List UInt8), (0 : Int), (0 : Int), ([] : List Int), ([] : List Bool))).2).2).2).2))]) (st' := ⟨[(0, aV 0), (1, iV (wadd .i64 s1.1 (1 : Int))), (5, iV s1.2.1)], [(0, .seq (.st (.pair .str (.st (.pair tI (.pair tI (.pair (.own tI) (.own .bool))))))) q15)], 1⟩) hO (fun h => by cases h) (by kernel_rfl) ⟨rfl, rfl, hq16, trivial⟩).ht ?_
      refine HT.rg2 (oHs 3) ⟨[(0, aV 0), (1, iV (wadd .i64 (wadd .i64 s1.1 (1 : Int)) (1 : Int))), (5, iV s1.2.1)], [(0, .seq (.st (.pair .str (.st (.pair tI (.pair tI (.pair (.own tI) (.own .bool))))))) q15)], 1⟩ hX (by kernel_rfl) allNil ?_
      obtain ⟨hg17, hx6⟩ := of_guard hx6
      refine HT.rg2 (oHs 7) ⟨[(0, aV 0), (1, iV (wadd .i64 (wadd .i64 s1.1 (1 : Int)) (1 : Int))), (5, iV s1.2.1)], [(0, .seq (.st (.pair .str (.st (.pair tI (.pair tI (.pair (.own tI) (.own .bool))))))) (List.set q15 (Int.toNat s1.2.1) ((List.getD q15 (Int.toNat s1.2.1) (([] : List UInt8), (0 : Int), (0 : Int), ([] : List Int), ([] : List Bool))).1, ((List.getD q15 (Int.toNat s1.2.1) (([] : List UInt8), (0 : Int), (0 : Int), ([] : List Int), ([] : List Bool))).2).1, (wadd .i64 (wadd .i64 s1.1 (1 : Int)) (1 : Int)), ((((List.getD q15 (Int.toNat s1.2.1) (([] : List UInt8), (0 : Int), (0 : Int), ([] : List Int), ([] : List Bool))).2).2).2).1, ((((List.getD q15 (Int.toNat s1.2.1) (([] : List UInt8), (0 : Int), (0 : Int), ([] : List Int), ([] : List Bool))).2).2).2).2)))], 1⟩ hX (by kernel_rfl) (allCons hg17 (allCons (natLt hg17) allNil)) ?_
      obtain ⟨q18, hq19, hx6⟩ := of_bind hx6
      have hq19 := of_some2 hq19
      refine (Le.cv (s := ⟨[(0, 0)], [], [], false⟩) (own := [0]) (ps := [(wadd .i64 (wadd .i64 s1.1 (1 : Int)) (1 : Int)) = (wadd .i64 (wadd .i64 s1.1 (1 : Int)) (1 : Int)), s1.2.1 = s1.2.1, q18 = (List.set q15 (Int.toNat s1.2.1) ((List.getD q15 (Int.toNat s1.2.1) (([] : List UInt8), (0 : Int), (0 : Int), ([] : List Int), ([] : List Bool))).1, ((List.getD q15 (Int.toNat s1.2.1) (([] : List UInt8), (0 : Int), (0 : Int), ([] : List Int), ([] : List Bool))).2).1, (wadd .i64 (wadd .i64 s1.1 (1 : Int)) (1 : Int)), ((((List.getD q15 (Int.toNat s1.2.1) (([] : List UInt8), (0 : Int), (0 : Int), ([] : List Int), ([] : List Bool))).2).2).2).1, ((((List.getD q15 (Int.toNat s1.2.1) (([] : List UInt8), (0 : Int), (0 : Int), ([] : List Int), ([] : List Bool))).2).2).2).2))]) (st' := ⟨[(0, aV 0), (1, iV (wadd .i64 (wadd .i64 s1.1 (1 : Int)) (1 : Int))), (5, iV s1.2.1)], [(0, .seq (.st (.pair .str (.st (.pair tI (.pair tI (.pair (.own tI) (.own .bool))))))) q18)], 1⟩) hO (fun h => by cases h) (by kernel_rfl) ⟨rfl, rfl, hq19, trivial⟩).ht ?_
      refine HT.rg2 (oHs 3) ⟨[(0, aV 0), (1, iV (wadd .i64 (wadd .i64 (wadd .i64 s1.1 (1 : Int)) (1 : Int)) (1 : Int))), (5, iV s1.2.1)], [(0, .seq (.st (.pair .str (.st (.pair tI (.pair tI (.pair (.own tI) (.own .bool))))))) q18)], 1⟩ hX (by kernel_rfl) allNil ?_
      obtain ⟨hg20, hx6⟩ := of_guard hx6
      obtain ⟨y21, hc22, hx6⟩ := of_bind hx6
      refine HT.rg2 [oH, oH, oH, oH, oH, ⟨none, .opn⟩, oH, ⟨none, .call [.own tLI, .imm tI] [⟨false, tI, y21.1⟩] [⟨tLI, y21.2⟩]⟩, oH] ⟨[(0, aV 0), (1, iV y21.1), (5, iV s1.2.1)], [(1, .seq tI y21.2), (0, .opn (.st (.pair .str (.st (.pair tI (.pair tI (.pair (.own tI) (.own .bool))))))) q18 (Int.toNat s1.2.1) [.dat .str ((List.getD q18 (Int.toNat s1.2.1) (([] : List UInt8), (0 : Int), (0 : Int), ([] : List Int), ([] : List Bool))).1), iC (((List.getD q18 (Int.toNat s1.2.1) (([] : List UInt8), (0 : Int), (0 : Int), ([] : List Int), ([] : List Bool))).2).1), iC ((((List.getD q18 (Int.toNat s1.2.1) (([] : List UInt8), (0 : Int), (0 : Int), ([] : List Int), ([] : List Bool))).2).2).1), .all 1, .all 2] [1, 2]), (2, .seq .bool (((((List.getD q18 (Int.toNat s1.2.1) (([] : List UInt8), (0 : Int), (0 : Int), ([] : List Int), ([] : List Bool))).2).2).2).2))], 3⟩ hX (by kernel_rfl) (allCons hg20 (allCons (natLt hg20) (allCons (f19_ok hc22) allNil))) ?_
      refine (Le.close (own := [0]) 0 (st' := ⟨[(0, aV 0), (1, iV y21.1), (5, iV s1.2.1)], [(0, .seq (.st (.pair .str (.st (.pair tI (.pair tI (.pair (.own tI) (.own .bool))))))) (List.set q18 (Int.toNat s1.2.1) ((List.getD q18 (Int.toNat s1.2.1) (([] : List UInt8), (0 : Int), (0 : Int), ([] : List Int), ([] : List Bool))).1, ((List.getD q18 (Int.toNat s1.2.1) (([] : List UInt8), (0 : Int), (0 : Int), ([] : List Int), ([] : List Bool))).2).1, (((List.getD q18 (Int.toNat s1.2.1) (([] : List UInt8), (0 : Int), (0 : Int), ([] : List Int), ([] : List Bool))).2).2).1, y21.2, ((((List.getD q18 (Int.toNat s1.2.1) (([] : List UInt8), (0 : Int), (0 : Int), ([] : List Int), ([] : List Bool))).2).2).2).2))), (1, .gone), (2, .gone)], 3⟩) hO (by kernel_rfl)).ht ?_
      obtain ⟨q23, hq24, hx6⟩ := of_bind hx6
      have hq24 := of_some2 hq24
      refine (Le.cv (s := ⟨[(0, 0)], [], [], false⟩) (own := [0]) (ps := [y21.1 = y21.1, s1.2.1 = s1.2.1, q23 = (List.set q18 (Int.toNat s1.2.1) ((List.getD q18 (Int.toNat s1.2.1) (([] : List UInt8), (0 : Int), (0 : Int), ([] : List Int), ([] : List Bool))).1, ((List.getD q18 (Int.toNat s1.2.1) (([] : List UInt8), (0 : Int), (0 : Int), ([] : List Int), ([] : List Bool))).2).1, (((List.getD q18 (Int.toNat s1.2.1) (([] : List UInt8), (0 : Int), (0 : Int), ([] : List Int), ([] : List Bool))).2).2).1, y21.2, ((((List.getD q18 (Int.toNat s1.2.1) (([] : List UInt8), (0 : Int), (0 : Int), ([] : List Int), ([] : List Bool))).2).2).2).2))]) (st' := ⟨[(0, aV 0), (1, iV y21.1), (5, iV s1.2.1)], [(0, .seq (.st (.pair .str (.st (.pair tI (.pair tI (.pair (.own tI) (.own .bool))))))) q23)], 3⟩) hO (fun h => by cases h) (by kernel_rfl) ⟨rfl, rfl, hq24, trivial⟩).ht ?_
      obtain ⟨hg25, hx6⟩ := of_guard hx6
      obtain ⟨y26, hc27, hx6⟩ := of_bind hx6
      refine HT.regC (rs := [oH, oH, oH, oH, oH, ⟨none, .opn⟩, oH, ⟨none, .call [.own (.sl .bool), .imm tI] [⟨false, tI, y26.1⟩] [⟨(.sl .bool), y26.2⟩]⟩, oH]) ⟨[(1, iV y26.1), (51, iV y26.1), (50, iV y21.1), (49, aV 4), (48, .one (.elp 0 (Int.toNat s1.2.1) 5 4)), (47, .one (.elp 0 (Int.toNat s1.2.1) 5 1)), (46, .one (.elp 0 (Int.toNat s1.2.1) 5 0)), (45, iV s1.2.1), (44, aV 0), (0, aV 0), (1, iV y21.1), (5, iV s1.2.1)], [(4, .seq .bool y26.2), (0, .opn (.st (.pair .str (.st (.pair tI (.pair tI (.pair (.own tI) (.own .bool))))))) q23 (Int.toNat s1.2.1) [.dat .str ((List.getD q23 (Int.toNat s1.2.1) (([] : List UInt8), (0 : Int), (0 : Int), ([] : List Int), ([] : List Bool))).1), iC (((List.getD q23 (Int.toNat s1.2.1) (([] : List UInt8), (0 : Int), (0 : Int), ([] : List Int), ([] : List Bool))).2).1), iC ((((List.getD q23 (Int.toNat s1.2.1) (([] : List UInt8), (0 : Int), (0 : Int), ([] : List Int), ([] : List Bool))).2).2).1), .all 3, .all 4] [3, 4]), (3, .seq tI (((((List.getD q23 (Int.toNat s1.2.1) (([] : List UInt8), (0 : Int), (0 : Int), ([] : List Int), ([] : List Bool))).2).2).2).1)), (4, .seq .bool (((((List.getD q23 (Int.toNat s1.2.1) (([] : List UInt8), (0 : Int), (0 : Int), ([] : List Int), ([] : List Bool))).2).2).2).2)), (0, .seq (.st (.pair .str (.st (.pair tI (.pair tI (.pair (.own tI) (.own .bool))))))) q23)], 5⟩ hP hN (by kernel_rfl) (allCons hg25 (allCons (natLt hg25) (allCons (f73_ok hc27) allNil))) (Le.close (own := [0]) 0 (st' := ⟨[(1, iV y26.1), (51, iV y26.1), (50, iV y21.1), (49, aV 4), (48, .one (.elp 0 (Int.toNat s1.2.1) 5 4)), (47, .one (.elp 0 (Int.toNat s1.2.1) 5 1)), (46, .one (.elp 0 (Int.toNat s1.2.1) 5 0)), (45, iV s1.2.1), (44, aV 0), (0, aV 0), (1, iV y21.1), (5, iV s1.2.1)], [(0, .seq (.st (.pair .str (.st (.pair tI (.pair tI (.pair (.own tI) (.own .bool))))))) (List.set q23 (Int.toNat s1.2.1) ((List.getD q23 (Int.toNat s1.2.1) (([] : List UInt8), (0 : Int), (0 : Int), ([] : List Int), ([] : List Bool))).1, ((List.getD q23 (Int.toNat s1.2.1) (([] : List UInt8), (0 : Int), (0 : Int), ([] : List Int), ([] : List Bool))).2).1, (((List.getD q23 (Int.toNat s1.2.1) (([] : List UInt8), (0 : Int), (0 : Int), ([] : List Int), ([] : List Bool))).2).2).1, ((((List.getD q23 (Int.toNat s1.2.1) (([] : List UInt8), (0 : Int), (0 : Int), ([] : List Int), ([] : List Bool))).2).2).2).1, y26.2))), (3, .gone), (4, .gone)], 5⟩) hO (by kernel_rfl)) (qBlock (qThen ?_))
      have hx6 := of_some hx6
      subst hx6
      exact HT.rgK (oHs 3) [(0, 0)] [] hX (by kernel_rfl) allNil (fun _ h => (qLoopN ⟨(y26.1, (wadd .i64 s1.2.1 (1 : Int)), (List.set q23 (Int.toNat s1.2.1) ((List.getD q23 (Int.toNat s1.2.1) (([] : List UInt8), (0 : Int), (0 : Int), ([] : List Int), ([] : List Bool))).1, ((List.getD q23 (Int.toNat s1.2.1) (([] : List UInt8), (0 : Int), (0 : Int), ([] : List Int), ([] : List Bool))).2).1, (((List.getD q23 (Int.toNat s1.2.1) (([] : List UInt8), (0 : Int), (0 : Int), ([] : List Int), ([] : List Bool))).2).2).1, ((((List.getD q23 (Int.toNat s1.2.1) (([] : List UInt8), (0 : Int), (0 : Int), ([] : List Int), ([] : List Bool))).2).2).2).1, y26.2))), rfl, h⟩))
    · refine HT.cond0 rfl hb8 ?_
      have hx6 := of_some hx6
      subst hx6
      exact HT.exitL (Le.re [(0, 0)] [] hX (by kernel_rfl)) (qThenE (qLoopE (hk7 (s1.1, s1.2.2) rfl)))

noncomputable def laws_heldInt64S_B1 (a0 : List Int) (s1 : Int × Int) : Option ((Int × Int) ⊕ (Int ⊕ Unit)) :=
  bif (decide (s1.2 < (lenI a0))) then
    guardP ((0 : Int) ≤ s1.2 ∧ s1.2 < lenI a0) (
      bif ((List.getD a0 (Int.toNat s1.2) (0 : Int)) != s1.1) then
        some (.inr (.inr ()))
      else
        some (.inl ((wadd .i64 s1.1 (1 : Int)), (wadd .i64 s1.2 (1 : Int)))))
  else
    some (.inr (.inl s1.1))

noncomputable def laws_heldInt64S (a0 : List Int) (a1 : Int) : Option (Int) :=
  (rounds (laws_heldInt64S_B1 a0) (a1, (0 : Int))).bind fun r2 => match r2 with
    | .inl r3 =>
      some r3
    | .inr r4 =>
      some (-1 : Int)

theorem f74_ok {a0 : List Int} {a1 : Int} {r : Int} (hr : laws_heldInt64S a0 a1 = some r) : CallOK Try.prog 74 [.imm tLI a0, .imm tI a1] [⟨false, tI, r⟩] [] := by
  unfold laws_heldInt64S at hr
  refine CallOK.of_body (ts := [(false, tI)]) Try.func74 rfl (by kernel_rfl) (Nat.le_of_ble_eq_true (by kernel_rfl)) fun cx hP hN hO hF => ?_
  have hO : cx.own.map Prod.fst = [] := hO
  have hX := CxIs.mk hP hN hO
  have hF := hF rfl
  show HT cx ⟨[(0, nV a0), (1, iV a1)], [], 0⟩ _ _
  refine HT.rg2 [oH] ⟨[(0, nV a0), (1, iV a1)], [], 0⟩ hX (by kernel_rfl) allNil ?_
  refine HT.seq ?_
  refine HT.rg2 [oH] ⟨[(0, nV a0), (1, iV a1), (5, iV (0 : Int))], [], 0⟩ hX (by kernel_rfl) allNil ?_
  refine HT.block ?_
  obtain ⟨r2, hL11, hr⟩ := of_bind hr
  refine HT.loopL (fun (s1 : Int × Int) => ⟨[(0, nV a0), (1, iV s1.1), (5, iV s1.2)], [], 0⟩) (fun (r2 : Int ⊕ Unit) => match r2 with | .inl r3 => (.exit 0, ⟨[(1, iV r3)], [], 0⟩) | .inr r4 => (.ret, ⟨[(4, iV (-1 : Int))], [], 0⟩)) (Le.re [] [] hX (by kernel_rfl)) hL11 ?_ (fun s1 x5 hx6 hk7 => ?_)
  · rcases r2 with r3 | r4
    · refine (qBlockX (qThen ?_))
      refine HT.rg2 (oHs 2) ⟨[(4, iV r3)], [], 0⟩ hX (by kernel_rfl) allNil ?_
      have hr := of_some hr
      subst hr
      exact HT.ret ⟨[iV r3], [], [], by kernel_rfl, by kernel_rfl, rfl, by kernel_rfl, by kernel_rfl, trivial⟩
    · have hr := of_some hr
      subst hr
      exact (qBlockR (qThenR ⟨[iV (-1 : Int)], [], [], by kernel_rfl, by kernel_rfl, rfl, by kernel_rfl, by kernel_rfl, trivial⟩))
  · refine HT.seq ?_
    refine HT.rg2 (oHs 4) ⟨[(0, nV a0), (1, iV s1.1), (5, iV s1.2), (9, bV (decide (s1.2 < (lenI a0))))], [], 0⟩ hX (by kernel_rfl) allNil ?_
    rcases of_bif hx6 with ⟨hb8, hx6⟩ | ⟨hb8, hx6⟩
    · refine HT.cond1 rfl hb8 ?_
      refine HT.skip (qThen ?_)
      refine HT.seq ?_
      refine HT.block ?_
      refine HT.seq ?_
      obtain ⟨hg9, hx6⟩ := of_guard hx6
      refine HT.rg2 (oHs 6) ⟨[(0, nV a0), (1, iV s1.1), (5, iV s1.2), (17, bV ((List.getD a0 (Int.toNat s1.2) (0 : Int)) != s1.1))], [], 0⟩ hX (by kernel_rfl) (allCons hg9 allNil) ?_
      rcases of_bif hx6 with ⟨hb10, hx6⟩ | ⟨hb10, hx6⟩
      · refine HT.cond1 rfl hb10 ?_
        refine HT.rg2 [oH] ⟨[(4, iV (-1 : Int))], [], 0⟩ hX (by kernel_rfl) allNil ?_
        have hx6 := of_some hx6
        subst hx6
        exact HT.retL (Le.re [] [] hX (by kernel_rfl)) (qThenR (qBlockR (qThenR (qLoopR (hk7 (.inr ()) rfl)))))
      · refine HT.cond0 rfl hb10 ?_
        refine HT.skip (qThen ?_)
        refine HT.rgL (oHs 3) ⟨[(0, nV a0), (1, iV (wadd .i64 s1.1 (1 : Int))), (5, iV s1.2)], [], 0⟩ hX (by kernel_rfl) allNil (qBlock (qThen ?_))
        have hx6 := of_some hx6
        subst hx6
        exact HT.rgK (oHs 3) [] [] hX (by kernel_rfl) allNil (fun _ h => (qLoopN ⟨((wadd .i64 s1.1 (1 : Int)), (wadd .i64 s1.2 (1 : Int))), rfl, h⟩))
    · refine HT.cond0 rfl hb8 ?_
      have hx6 := of_some hx6
      subst hx6
      exact HT.exitL (Le.re [] [] hX (by kernel_rfl)) (qThenE (qLoopE (hk7 (.inl s1.1) rfl)))

noncomputable def laws_heldBoolS_B1 (a0 : List Bool) (s1 : Int × Int) : Option ((Int × Int) ⊕ (Int ⊕ Unit)) :=
  bif (decide (s1.2 < (lenI a0))) then
    guardP ((0 : Int) ≤ s1.2 ∧ s1.2 < lenI a0) (
      bif ((List.getD a0 (Int.toNat s1.2) false) != ((Int.tmod s1.1 (3 : Int)) == (0 : Int))) then
        some (.inr (.inr ()))
      else
        some (.inl ((wadd .i64 s1.1 (1 : Int)), (wadd .i64 s1.2 (1 : Int)))))
  else
    some (.inr (.inl s1.1))

noncomputable def laws_heldBoolS (a0 : List Bool) (a1 : Int) : Option (Int) :=
  (rounds (laws_heldBoolS_B1 a0) (a1, (0 : Int))).bind fun r2 => match r2 with
    | .inl r3 =>
      some r3
    | .inr r4 =>
      some (-1 : Int)

theorem f75_ok {a0 : List Bool} {a1 : Int} {r : Int} (hr : laws_heldBoolS a0 a1 = some r) : CallOK Try.prog 75 [.imm (.sl .bool) a0, .imm tI a1] [⟨false, tI, r⟩] [] := by
  unfold laws_heldBoolS at hr
  refine CallOK.of_body (ts := [(false, tI)]) Try.func75 rfl (by kernel_rfl) (Nat.le_of_ble_eq_true (by kernel_rfl)) fun cx hP hN hO hF => ?_
  have hO : cx.own.map Prod.fst = [] := hO
  have hX := CxIs.mk hP hN hO
  have hF := hF rfl
  show HT cx ⟨[(0, .one (.dat (.sl .bool) a0)), (1, iV a1)], [], 0⟩ _ _
  refine HT.rg2 [oH] ⟨[(0, .one (.dat (.sl .bool) a0)), (1, iV a1)], [], 0⟩ hX (by kernel_rfl) allNil ?_
  refine HT.seq ?_
  refine HT.rg2 [oH] ⟨[(0, .one (.dat (.sl .bool) a0)), (1, iV a1), (5, iV (0 : Int))], [], 0⟩ hX (by kernel_rfl) allNil ?_
  refine HT.block ?_
  obtain ⟨r2, hL11, hr⟩ := of_bind hr
  refine HT.loopL (fun (s1 : Int × Int) => ⟨[(0, .one (.dat (.sl .bool) a0)), (1, iV s1.1), (5, iV s1.2)], [], 0⟩) (fun (r2 : Int ⊕ Unit) => match r2 with | .inl r3 => (.exit 0, ⟨[(1, iV r3)], [], 0⟩) | .inr r4 => (.ret, ⟨[(4, iV (-1 : Int))], [], 0⟩)) (Le.re [] [] hX (by kernel_rfl)) hL11 ?_ (fun s1 x5 hx6 hk7 => ?_)
  · rcases r2 with r3 | r4
    · refine (qBlockX (qThen ?_))
      refine HT.rg2 (oHs 2) ⟨[(4, iV r3)], [], 0⟩ hX (by kernel_rfl) allNil ?_
      have hr := of_some hr
      subst hr
      exact HT.ret ⟨[iV r3], [], [], by kernel_rfl, by kernel_rfl, rfl, by kernel_rfl, by kernel_rfl, trivial⟩
    · have hr := of_some hr
      subst hr
      exact (qBlockR (qThenR ⟨[iV (-1 : Int)], [], [], by kernel_rfl, by kernel_rfl, rfl, by kernel_rfl, by kernel_rfl, trivial⟩))
  · refine HT.seq ?_
    refine HT.rg2 (oHs 4) ⟨[(0, .one (.dat (.sl .bool) a0)), (1, iV s1.1), (5, iV s1.2), (9, bV (decide (s1.2 < (lenI a0))))], [], 0⟩ hX (by kernel_rfl) allNil ?_
    rcases of_bif hx6 with ⟨hb8, hx6⟩ | ⟨hb8, hx6⟩
    · refine HT.cond1 rfl hb8 ?_
      refine HT.skip (qThen ?_)
      refine HT.seq ?_
      refine HT.block ?_
      refine HT.seq ?_
      obtain ⟨hg9, hx6⟩ := of_guard hx6
      refine HT.rg2 (oHs 8) ⟨[(0, .one (.dat (.sl .bool) a0)), (1, iV s1.1), (5, iV s1.2), (19, bV ((List.getD a0 (Int.toNat s1.2) false) != ((Int.tmod s1.1 (3 : Int)) == (0 : Int))))], [], 0⟩ hX (by kernel_rfl) (allCons hg9 (allCons (show (3 : Int) ≠ 0 from by decide) allNil)) ?_
      rcases of_bif hx6 with ⟨hb10, hx6⟩ | ⟨hb10, hx6⟩
      · refine HT.cond1 rfl hb10 ?_
        refine HT.rg2 [oH] ⟨[(4, iV (-1 : Int))], [], 0⟩ hX (by kernel_rfl) allNil ?_
        have hx6 := of_some hx6
        subst hx6
        exact HT.retL (Le.re [] [] hX (by kernel_rfl)) (qThenR (qBlockR (qThenR (qLoopR (hk7 (.inr ()) rfl)))))
      · refine HT.cond0 rfl hb10 ?_
        refine HT.skip (qThen ?_)
        refine HT.rgL (oHs 3) ⟨[(0, .one (.dat (.sl .bool) a0)), (1, iV (wadd .i64 s1.1 (1 : Int))), (5, iV s1.2)], [], 0⟩ hX (by kernel_rfl) allNil (qBlock (qThen ?_))
        have hx6 := of_some hx6
        subst hx6
        exact HT.rgK (oHs 3) [] [] hX (by kernel_rfl) allNil (fun _ h => (qLoopN ⟨((wadd .i64 s1.1 (1 : Int)), (wadd .i64 s1.2 (1 : Int))), rfl, h⟩))
    · refine HT.cond0 rfl hb8 ?_
      have hx6 := of_some hx6
      subst hx6
      exact HT.exitL (Le.re [] [] hX (by kernel_rfl)) (qThenE (qLoopE (hk7 (.inl s1.1) rfl)))

noncomputable def laws_heldKeptS_B1 (a0 : List (List UInt8 × Int × Int × List Int × List Bool)) (s1 : Int × Int) : Option ((Int × Int) ⊕ (Int ⊕ Unit)) :=
  bif (decide (s1.2 < (lenI a0))) then
    guardP ((0 : Int) ≤ s1.2 ∧ s1.2 < lenI a0) (
      (laws_markText s1.1).bind fun y10 =>
      bif ((List.getD a0 (Int.toNat s1.2) (([] : List UInt8), (0 : Int), (0 : Int), ([] : List Int), ([] : List Bool))).1 != y10) then
        some (.inr (.inr ()))
      else
        bif (((List.getD a0 (Int.toNat s1.2) (([] : List UInt8), (0 : Int), (0 : Int), ([] : List Int), ([] : List Bool))).2).1 != (wadd .i64 s1.1 (1 : Int))) then
          some (.inr (.inr ()))
        else
          bif ((((List.getD a0 (Int.toNat s1.2) (([] : List UInt8), (0 : Int), (0 : Int), ([] : List Int), ([] : List Bool))).2).2).1 != (wadd .i64 (wadd .i64 s1.1 (1 : Int)) (1 : Int))) then
            some (.inr (.inr ()))
          else
            (laws_heldInt64S (((((List.getD a0 (Int.toNat s1.2) (([] : List UInt8), (0 : Int), (0 : Int), ([] : List Int), ([] : List Bool))).2).2).2).1) (wadd .i64 (wadd .i64 (wadd .i64 s1.1 (1 : Int)) (1 : Int)) (1 : Int))).bind fun y15 =>
            bif (decide (y15 < (0 : Int))) then
              some (.inr (.inr ()))
            else
              (laws_heldBoolS (((((List.getD a0 (Int.toNat s1.2) (([] : List UInt8), (0 : Int), (0 : Int), ([] : List Int), ([] : List Bool))).2).2).2).2) y15).bind fun y18 =>
              bif (decide (y18 < (0 : Int))) then
                some (.inr (.inr ()))
              else
                some (.inl (y18, (wadd .i64 s1.2 (1 : Int)))))
  else
    some (.inr (.inl s1.1))

noncomputable def laws_heldKeptS (a0 : List (List UInt8 × Int × Int × List Int × List Bool)) (a1 : Int) : Option (Int) :=
  (rounds (laws_heldKeptS_B1 a0) (a1, (0 : Int))).bind fun r2 => match r2 with
    | .inl r3 =>
      some r3
    | .inr r4 =>
      some (-1 : Int)

theorem f41_ok {a0 : List (List UInt8 × Int × Int × List Int × List Bool)} {a1 : Int} {r : Int} (hr : laws_heldKeptS a0 a1 = some r) : CallOK Try.prog 41 [.imm (.sl (.st (.pair .str (.st (.pair tI (.pair tI (.pair tLI (.sl .bool)))))))) a0, .imm tI a1] [⟨false, tI, r⟩] [] := by
  unfold laws_heldKeptS at hr
  refine CallOK.of_body (ts := [(false, tI)]) Try.func41 rfl (by kernel_rfl) (Nat.le_of_ble_eq_true (by kernel_rfl)) fun cx hP hN hO hF => ?_
  have hO : cx.own.map Prod.fst = [] := hO
  have hX := CxIs.mk hP hN hO
  have hF := hF rfl
  show HT cx ⟨[(0, .one (.dat (.sl (.st (.pair .str (.st (.pair tI (.pair tI (.pair tLI (.sl .bool)))))))) a0)), (1, iV a1)], [], 0⟩ _ _
  refine HT.rg2 [oH] ⟨[(0, .one (.dat (.sl (.st (.pair .str (.st (.pair tI (.pair tI (.pair tLI (.sl .bool)))))))) a0)), (1, iV a1)], [], 0⟩ hX (by kernel_rfl) allNil ?_
  refine HT.seq ?_
  refine HT.rg2 [oH] ⟨[(0, .one (.dat (.sl (.st (.pair .str (.st (.pair tI (.pair tI (.pair tLI (.sl .bool)))))))) a0)), (1, iV a1), (5, iV (0 : Int))], [], 0⟩ hX (by kernel_rfl) allNil ?_
  refine HT.block ?_
  obtain ⟨r2, hL21, hr⟩ := of_bind hr
  refine HT.loopL (fun (s1 : Int × Int) => ⟨[(0, .one (.dat (.sl (.st (.pair .str (.st (.pair tI (.pair tI (.pair tLI (.sl .bool)))))))) a0)), (1, iV s1.1), (5, iV s1.2)], [], 0⟩) (fun (r2 : Int ⊕ Unit) => match r2 with | .inl r3 => (.exit 0, ⟨[(1, iV r3)], [], 0⟩) | .inr r4 => (.ret, ⟨[(4, iV (-1 : Int))], [], 0⟩)) (Le.re [] [] hX (by kernel_rfl)) hL21 ?_ (fun s1 x5 hx6 hk7 => ?_)
  · rcases r2 with r3 | r4
    · refine (qBlockX (qThen ?_))
      refine HT.rg2 (oHs 2) ⟨[(4, iV r3)], [], 0⟩ hX (by kernel_rfl) allNil ?_
      have hr := of_some hr
      subst hr
      exact HT.ret ⟨[iV r3], [], [], by kernel_rfl, by kernel_rfl, rfl, by kernel_rfl, by kernel_rfl, trivial⟩
    · have hr := of_some hr
      subst hr
      exact (qBlockR (qThenR ⟨[iV (-1 : Int)], [], [], by kernel_rfl, by kernel_rfl, rfl, by kernel_rfl, by kernel_rfl, trivial⟩))
  · refine HT.seq ?_
    refine HT.rg2 (oHs 4) ⟨[(0, .one (.dat (.sl (.st (.pair .str (.st (.pair tI (.pair tI (.pair tLI (.sl .bool)))))))) a0)), (1, iV s1.1), (5, iV s1.2), (9, bV (decide (s1.2 < (lenI a0))))], [], 0⟩ hX (by kernel_rfl) allNil ?_
    rcases of_bif hx6 with ⟨hb8, hx6⟩ | ⟨hb8, hx6⟩
    · refine HT.cond1 rfl hb8 ?_
      refine HT.skip (qThen ?_)
      refine HT.seq ?_
      refine HT.block ?_
      refine HT.seq ?_
      obtain ⟨hg9, hx6⟩ := of_guard hx6
      obtain ⟨y10, hc11, hx6⟩ := of_bind hx6
      refine HT.dr2 7 [⟨oH, []⟩, ⟨oH, []⟩, ⟨oH, [0, 1]⟩, ⟨oH, [0, 1, 2]⟩, ⟨oH, [0, 1, 2, 3]⟩, ⟨oH, []⟩, ⟨⟨none, .call [.imm tI] [⟨false, .str, y10⟩] []⟩, [5]⟩] [[0, 1, 2, 3, 4, 5, 6]] [oH] ⟨[(0, .one (.dat (.sl (.st (.pair .str (.st (.pair tI (.pair tI (.pair tLI (.sl .bool)))))))) a0)), (1, iV s1.1), (5, iV s1.2), (19, bV ((List.getD a0 (Int.toNat s1.2) (([] : List UInt8), (0 : Int), (0 : Int), ([] : List Int), ([] : List Bool))).1 != y10))], [], 0⟩ hX (by kernel_rfl) (by kernel_rfl) (allCons hg9 (allCons (f72_ok hc11) allNil)) ?_
      rcases of_bif hx6 with ⟨hb12, hx6⟩ | ⟨hb12, hx6⟩
      · refine HT.cond1 rfl hb12 ?_
        refine HT.rg2 [oH] ⟨[(4, iV (-1 : Int))], [], 0⟩ hX (by kernel_rfl) allNil ?_
        have hx6 := of_some hx6
        subst hx6
        exact HT.retL (Le.re [] [] hX (by kernel_rfl)) (qThenR (qBlockR (qThenR (qLoopR (hk7 (.inr ()) rfl)))))
      · refine HT.cond0 rfl hb12 ?_
        refine HT.skip (qThen ?_)
        refine HT.rg2 (oHs 3) ⟨[(0, .one (.dat (.sl (.st (.pair .str (.st (.pair tI (.pair tI (.pair tLI (.sl .bool)))))))) a0)), (1, iV (wadd .i64 s1.1 (1 : Int))), (5, iV s1.2)], [], 0⟩ hX (by kernel_rfl) allNil ?_
        refine HT.seq ?_
        refine HT.rg2 (oHs 8) ⟨[(0, .one (.dat (.sl (.st (.pair .str (.st (.pair tI (.pair tI (.pair tLI (.sl .bool)))))))) a0)), (1, iV (wadd .i64 s1.1 (1 : Int))), (5, iV s1.2), (29, bV (((List.getD a0 (Int.toNat s1.2) (([] : List UInt8), (0 : Int), (0 : Int), ([] : List Int), ([] : List Bool))).2).1 != (wadd .i64 s1.1 (1 : Int))))], [], 0⟩ hX (by kernel_rfl) (allCons hg9 allNil) ?_
        rcases of_bif hx6 with ⟨hb13, hx6⟩ | ⟨hb13, hx6⟩
        · refine HT.cond1 rfl hb13 ?_
          refine HT.rg2 [oH] ⟨[(4, iV (-1 : Int))], [], 0⟩ hX (by kernel_rfl) allNil ?_
          have hx6 := of_some hx6
          subst hx6
          exact HT.retL (Le.re [] [] hX (by kernel_rfl)) (qThenR (qBlockR (qThenR (qLoopR (hk7 (.inr ()) rfl)))))
        · refine HT.cond0 rfl hb13 ?_
          refine HT.skip (qThen ?_)
          refine HT.rg2 (oHs 3) ⟨[(0, .one (.dat (.sl (.st (.pair .str (.st (.pair tI (.pair tI (.pair tLI (.sl .bool)))))))) a0)), (1, iV (wadd .i64 (wadd .i64 s1.1 (1 : Int)) (1 : Int))), (5, iV s1.2)], [], 0⟩ hX (by kernel_rfl) allNil ?_
          refine HT.seq ?_
          refine HT.rg2 (oHs 8) ⟨[(0, .one (.dat (.sl (.st (.pair .str (.st (.pair tI (.pair tI (.pair tLI (.sl .bool)))))))) a0)), (1, iV (wadd .i64 (wadd .i64 s1.1 (1 : Int)) (1 : Int))), (5, iV s1.2), (39, bV ((((List.getD a0 (Int.toNat s1.2) (([] : List UInt8), (0 : Int), (0 : Int), ([] : List Int), ([] : List Bool))).2).2).1 != (wadd .i64 (wadd .i64 s1.1 (1 : Int)) (1 : Int))))], [], 0⟩ hX (by kernel_rfl) (allCons hg9 allNil) ?_
          rcases of_bif hx6 with ⟨hb14, hx6⟩ | ⟨hb14, hx6⟩
          · refine HT.cond1 rfl hb14 ?_
            refine HT.rg2 [oH] ⟨[(4, iV (-1 : Int))], [], 0⟩ hX (by kernel_rfl) allNil ?_
            have hx6 := of_some hx6
            subst hx6
            exact HT.retL (Le.re [] [] hX (by kernel_rfl)) (qThenR (qBlockR (qThenR (qLoopR (hk7 (.inr ()) rfl)))))
          · refine HT.cond0 rfl hb14 ?_
            refine HT.skip (qThen ?_)
            refine HT.rg2 (oHs 3) ⟨[(0, .one (.dat (.sl (.st (.pair .str (.st (.pair tI (.pair tI (.pair tLI (.sl .bool)))))))) a0)), (1, iV (wadd .i64 (wadd .i64 (wadd .i64 s1.1 (1 : Int)) (1 : Int)) (1 : Int))), (5, iV s1.2)], [], 0⟩ hX (by kernel_rfl) allNil ?_
            obtain ⟨y15, hc16, hx6⟩ := of_bind hx6
            refine HT.rg2 [oH, oH, oH, oH, oH, oH, oH, ⟨none, .call [.imm tLI, .imm tI] [⟨false, tI, y15⟩] []⟩, oH] ⟨[(0, .one (.dat (.sl (.st (.pair .str (.st (.pair tI (.pair tI (.pair tLI (.sl .bool)))))))) a0)), (1, iV y15), (5, iV s1.2)], [], 0⟩ hX (by kernel_rfl) (allCons hg9 (allCons (f74_ok hc16) allNil)) ?_
            refine HT.seq ?_
            refine HT.rg2 (oHs 2) ⟨[(0, .one (.dat (.sl (.st (.pair .str (.st (.pair tI (.pair tI (.pair tLI (.sl .bool)))))))) a0)), (1, iV y15), (5, iV s1.2), (51, bV (decide (y15 < (0 : Int))))], [], 0⟩ hX (by kernel_rfl) allNil ?_
            rcases of_bif hx6 with ⟨hb17, hx6⟩ | ⟨hb17, hx6⟩
            · refine HT.cond1 rfl hb17 ?_
              refine HT.rg2 [oH] ⟨[(4, iV (-1 : Int))], [], 0⟩ hX (by kernel_rfl) allNil ?_
              have hx6 := of_some hx6
              subst hx6
              exact HT.retL (Le.re [] [] hX (by kernel_rfl)) (qThenR (qBlockR (qThenR (qLoopR (hk7 (.inr ()) rfl)))))
            · refine HT.cond0 rfl hb17 ?_
              refine HT.skip (qThen ?_)
              obtain ⟨y18, hc19, hx6⟩ := of_bind hx6
              refine HT.rg2 [oH, oH, oH, oH, oH, oH, oH, ⟨none, .call [.imm (.sl .bool), .imm tI] [⟨false, tI, y18⟩] []⟩, oH] ⟨[(0, .one (.dat (.sl (.st (.pair .str (.st (.pair tI (.pair tI (.pair tLI (.sl .bool)))))))) a0)), (1, iV y18), (5, iV s1.2)], [], 0⟩ hX (by kernel_rfl) (allCons hg9 (allCons (f75_ok hc19) allNil)) ?_
              refine HT.rg2 (oHs 2) ⟨[(0, .one (.dat (.sl (.st (.pair .str (.st (.pair tI (.pair tI (.pair tLI (.sl .bool)))))))) a0)), (1, iV y18), (5, iV s1.2), (61, bV (decide (y18 < (0 : Int))))], [], 0⟩ hX (by kernel_rfl) allNil ?_
              rcases of_bif hx6 with ⟨hb20, hx6⟩ | ⟨hb20, hx6⟩
              · refine HT.cond1 rfl hb20 ?_
                refine HT.rg2 [oH] ⟨[(4, iV (-1 : Int))], [], 0⟩ hX (by kernel_rfl) allNil ?_
                have hx6 := of_some hx6
                subst hx6
                exact HT.retL (Le.re [] [] hX (by kernel_rfl)) (qBlockR (qThenR (qLoopR (hk7 (.inr ()) rfl))))
              · refine HT.cond0 rfl hb20 ?_
                refine HT.skip (qBlock (qThen ?_))
                have hx6 := of_some hx6
                subst hx6
                exact HT.rgK (oHs 3) [] [] hX (by kernel_rfl) allNil (fun _ h => (qLoopN ⟨(y18, (wadd .i64 s1.2 (1 : Int))), rfl, h⟩))
    · refine HT.cond0 rfl hb8 ?_
      have hx6 := of_some hx6
      subst hx6
      exact HT.exitL (Le.re [] [] hX (by kernel_rfl)) (qThenE (qLoopE (hk7 (.inl s1.1) rfl)))

noncomputable def laws_eqInt64S_B1 (a0 : List Int) (a1 : List Int) (s2 : Int) : Option ((Int) ⊕ (Unit ⊕ Unit)) :=
  bif (decide (s2 < (lenI a0))) then
    guardP ((0 : Int) ≤ s2 ∧ s2 < lenI a0) (
      guardP ((0 : Int) ≤ s2 ∧ s2 < lenI a1) (
        bif ((List.getD a0 (Int.toNat s2) (0 : Int)) != (List.getD a1 (Int.toNat s2) (0 : Int))) then
          some (.inr (.inr ()))
        else
          some (.inl (wadd .i64 s2 (1 : Int)))))
  else
    some (.inr (.inl ()))

noncomputable def laws_eqInt64S (a0 : List Int) (a1 : List Int) : Option (Bool) :=
  bif ((lenI a0) != (lenI a1)) then
    some false
  else
    (rounds (laws_eqInt64S_B1 a0 a1) (0 : Int)).bind fun r3 => match r3 with
      | .inl r4 =>
        some true
      | .inr r5 =>
        some false

theorem f17_ok {a0 : List Int} {a1 : List Int} {r : Bool} (hr : laws_eqInt64S a0 a1 = some r) : CallOK Try.prog 17 [.imm tLI a0, .imm tLI a1] [⟨false, .bool, r⟩] [] := by
  unfold laws_eqInt64S at hr
  refine CallOK.of_body (ts := [(false, .bool)]) Try.func17 rfl (by kernel_rfl) (Nat.le_of_ble_eq_true (by kernel_rfl)) fun cx hP hN hO hF => ?_
  have hO : cx.own.map Prod.fst = [] := hO
  have hX := CxIs.mk hP hN hO
  have hF := hF rfl
  show HT cx ⟨[(0, nV a0), (1, nV a1)], [], 0⟩ _ _
  refine HT.rg2 [oH] ⟨[(0, nV a0), (1, nV a1)], [], 0⟩ hX (by kernel_rfl) allNil ?_
  refine HT.seq ?_
  refine HT.rg2 (oHs 5) ⟨[(0, nV a0), (1, nV a1), (10, bV ((lenI a0) != (lenI a1)))], [], 0⟩ hX (by kernel_rfl) allNil ?_
  rcases of_bif hr with ⟨hb1, hr⟩ | ⟨hb1, hr⟩
  · refine HT.cond1 rfl hb1 ?_
    refine HT.rg2 [oH] ⟨[(4, bV false)], [], 0⟩ hX (by kernel_rfl) allNil ?_
    have hr := of_some hr
    subst hr
    exact HT.ret (qThenR ⟨[bV false], [], [], by kernel_rfl, by kernel_rfl, rfl, by kernel_rfl, by kernel_rfl, trivial⟩)
  · refine HT.cond0 rfl hb1 ?_
    refine HT.skip (qThen ?_)
    refine HT.seq ?_
    refine HT.rg2 [oH] ⟨[(0, nV a0), (1, nV a1), (5, iV (0 : Int))], [], 0⟩ hX (by kernel_rfl) allNil ?_
    refine HT.block ?_
    obtain ⟨r3, hL13, hr⟩ := of_bind hr
    refine HT.loopL (fun (s2 : Int) => ⟨[(0, nV a0), (1, nV a1), (5, iV s2)], [], 0⟩) (fun (r3 : Unit ⊕ Unit) => match r3 with | .inl r4 => (.exit 0, ⟨[], [], 0⟩) | .inr r5 => (.ret, ⟨[(4, bV false)], [], 0⟩)) (Le.re [] [] hX (by kernel_rfl)) hL13 ?_ (fun s2 x6 hx7 hk8 => ?_)
    · rcases r3 with r4 | r5
      · refine (qBlockX (qThen ?_))
        refine HT.rg2 [oH] ⟨[(4, bV true)], [], 0⟩ hX (by kernel_rfl) allNil ?_
        have hr := of_some hr
        subst hr
        exact HT.ret ⟨[bV true], [], [], by kernel_rfl, by kernel_rfl, rfl, by kernel_rfl, by kernel_rfl, trivial⟩
      · have hr := of_some hr
        subst hr
        exact (qBlockR (qThenR ⟨[bV false], [], [], by kernel_rfl, by kernel_rfl, rfl, by kernel_rfl, by kernel_rfl, trivial⟩))
    · refine HT.seq ?_
      refine HT.rg2 (oHs 4) ⟨[(0, nV a0), (1, nV a1), (5, iV s2), (14, bV (decide (s2 < (lenI a0))))], [], 0⟩ hX (by kernel_rfl) allNil ?_
      rcases of_bif hx7 with ⟨hb9, hx7⟩ | ⟨hb9, hx7⟩
      · refine HT.cond1 rfl hb9 ?_
        refine HT.skip (qThen ?_)
        refine HT.seq ?_
        refine HT.block ?_
        obtain ⟨hg10, hx7⟩ := of_guard hx7
        obtain ⟨hg11, hx7⟩ := of_guard hx7
        refine HT.dr2 8 [⟨oH, []⟩, ⟨oH, []⟩, ⟨oH, [0, 1]⟩, ⟨oH, [0, 1, 2]⟩, ⟨oH, []⟩, ⟨oH, []⟩, ⟨oH, [4, 5]⟩, ⟨oH, [4, 5, 6]⟩] [[0, 1, 2, 3, 4, 5, 6, 7]] [oH] ⟨[(0, nV a0), (1, nV a1), (5, iV s2), (25, bV ((List.getD a0 (Int.toNat s2) (0 : Int)) != (List.getD a1 (Int.toNat s2) (0 : Int))))], [], 0⟩ hX (by kernel_rfl) (by kernel_rfl) (allCons hg10 (allCons hg11 allNil)) ?_
        rcases of_bif hx7 with ⟨hb12, hx7⟩ | ⟨hb12, hx7⟩
        · refine HT.cond1 rfl hb12 ?_
          refine HT.rg2 [oH] ⟨[(4, bV false)], [], 0⟩ hX (by kernel_rfl) allNil ?_
          have hx7 := of_some hx7
          subst hx7
          exact HT.retL (Le.re [] [] hX (by kernel_rfl)) (qBlockR (qThenR (qLoopR (hk8 (.inr ()) rfl))))
        · refine HT.cond0 rfl hb12 ?_
          refine HT.skip (qBlock (qThen ?_))
          have hx7 := of_some hx7
          subst hx7
          exact HT.rgK (oHs 3) [] [] hX (by kernel_rfl) allNil (fun _ h => (qLoopN ⟨(wadd .i64 s2 (1 : Int)), rfl, h⟩))
      · refine HT.cond0 rfl hb9 ?_
        have hx7 := of_some hx7
        subst hx7
        exact HT.exitL (Le.re [] [] hX (by kernel_rfl)) (qThenE (qLoopE (hk8 (.inl ()) rfl)))

noncomputable def laws_eqBoolS_B1 (a0 : List Bool) (a1 : List Bool) (s2 : Int) : Option ((Int) ⊕ (Unit ⊕ Unit)) :=
  bif (decide (s2 < (lenI a0))) then
    guardP ((0 : Int) ≤ s2 ∧ s2 < lenI a0) (
      guardP ((0 : Int) ≤ s2 ∧ s2 < lenI a1) (
        bif ((List.getD a0 (Int.toNat s2) false) != (List.getD a1 (Int.toNat s2) false)) then
          some (.inr (.inr ()))
        else
          some (.inl (wadd .i64 s2 (1 : Int)))))
  else
    some (.inr (.inl ()))

noncomputable def laws_eqBoolS (a0 : List Bool) (a1 : List Bool) : Option (Bool) :=
  bif ((lenI a0) != (lenI a1)) then
    some false
  else
    (rounds (laws_eqBoolS_B1 a0 a1) (0 : Int)).bind fun r3 => match r3 with
      | .inl r4 =>
        some true
      | .inr r5 =>
        some false

theorem f125_ok {a0 : List Bool} {a1 : List Bool} {r : Bool} (hr : laws_eqBoolS a0 a1 = some r) : CallOK Try.prog 125 [.imm (.sl .bool) a0, .imm (.sl .bool) a1] [⟨false, .bool, r⟩] [] := by
  unfold laws_eqBoolS at hr
  refine CallOK.of_body (ts := [(false, .bool)]) Try.func125 rfl (by kernel_rfl) (Nat.le_of_ble_eq_true (by kernel_rfl)) fun cx hP hN hO hF => ?_
  have hO : cx.own.map Prod.fst = [] := hO
  have hX := CxIs.mk hP hN hO
  have hF := hF rfl
  show HT cx ⟨[(0, .one (.dat (.sl .bool) a0)), (1, .one (.dat (.sl .bool) a1))], [], 0⟩ _ _
  refine HT.rg2 [oH] ⟨[(0, .one (.dat (.sl .bool) a0)), (1, .one (.dat (.sl .bool) a1))], [], 0⟩ hX (by kernel_rfl) allNil ?_
  refine HT.seq ?_
  refine HT.rg2 (oHs 5) ⟨[(0, .one (.dat (.sl .bool) a0)), (1, .one (.dat (.sl .bool) a1)), (10, bV ((lenI a0) != (lenI a1)))], [], 0⟩ hX (by kernel_rfl) allNil ?_
  rcases of_bif hr with ⟨hb1, hr⟩ | ⟨hb1, hr⟩
  · refine HT.cond1 rfl hb1 ?_
    refine HT.rg2 [oH] ⟨[(4, bV false)], [], 0⟩ hX (by kernel_rfl) allNil ?_
    have hr := of_some hr
    subst hr
    exact HT.ret (qThenR ⟨[bV false], [], [], by kernel_rfl, by kernel_rfl, rfl, by kernel_rfl, by kernel_rfl, trivial⟩)
  · refine HT.cond0 rfl hb1 ?_
    refine HT.skip (qThen ?_)
    refine HT.seq ?_
    refine HT.rg2 [oH] ⟨[(0, .one (.dat (.sl .bool) a0)), (1, .one (.dat (.sl .bool) a1)), (5, iV (0 : Int))], [], 0⟩ hX (by kernel_rfl) allNil ?_
    refine HT.block ?_
    obtain ⟨r3, hL13, hr⟩ := of_bind hr
    refine HT.loopL (fun (s2 : Int) => ⟨[(0, .one (.dat (.sl .bool) a0)), (1, .one (.dat (.sl .bool) a1)), (5, iV s2)], [], 0⟩) (fun (r3 : Unit ⊕ Unit) => match r3 with | .inl r4 => (.exit 0, ⟨[], [], 0⟩) | .inr r5 => (.ret, ⟨[(4, bV false)], [], 0⟩)) (Le.re [] [] hX (by kernel_rfl)) hL13 ?_ (fun s2 x6 hx7 hk8 => ?_)
    · rcases r3 with r4 | r5
      · refine (qBlockX (qThen ?_))
        refine HT.rg2 [oH] ⟨[(4, bV true)], [], 0⟩ hX (by kernel_rfl) allNil ?_
        have hr := of_some hr
        subst hr
        exact HT.ret ⟨[bV true], [], [], by kernel_rfl, by kernel_rfl, rfl, by kernel_rfl, by kernel_rfl, trivial⟩
      · have hr := of_some hr
        subst hr
        exact (qBlockR (qThenR ⟨[bV false], [], [], by kernel_rfl, by kernel_rfl, rfl, by kernel_rfl, by kernel_rfl, trivial⟩))
    · refine HT.seq ?_
      refine HT.rg2 (oHs 4) ⟨[(0, .one (.dat (.sl .bool) a0)), (1, .one (.dat (.sl .bool) a1)), (5, iV s2), (14, bV (decide (s2 < (lenI a0))))], [], 0⟩ hX (by kernel_rfl) allNil ?_
      rcases of_bif hx7 with ⟨hb9, hx7⟩ | ⟨hb9, hx7⟩
      · refine HT.cond1 rfl hb9 ?_
        refine HT.skip (qThen ?_)
        refine HT.seq ?_
        refine HT.block ?_
        obtain ⟨hg10, hx7⟩ := of_guard hx7
        obtain ⟨hg11, hx7⟩ := of_guard hx7
        refine HT.dr2 8 [⟨oH, []⟩, ⟨oH, []⟩, ⟨oH, [0, 1]⟩, ⟨oH, [0, 1, 2]⟩, ⟨oH, []⟩, ⟨oH, []⟩, ⟨oH, [4, 5]⟩, ⟨oH, [4, 5, 6]⟩] [[0, 1, 2, 3, 4, 5, 6, 7]] [oH] ⟨[(0, .one (.dat (.sl .bool) a0)), (1, .one (.dat (.sl .bool) a1)), (5, iV s2), (25, bV ((List.getD a0 (Int.toNat s2) false) != (List.getD a1 (Int.toNat s2) false)))], [], 0⟩ hX (by kernel_rfl) (by kernel_rfl) (allCons hg10 (allCons hg11 allNil)) ?_
        rcases of_bif hx7 with ⟨hb12, hx7⟩ | ⟨hb12, hx7⟩
        · refine HT.cond1 rfl hb12 ?_
          refine HT.rg2 [oH] ⟨[(4, bV false)], [], 0⟩ hX (by kernel_rfl) allNil ?_
          have hx7 := of_some hx7
          subst hx7
          exact HT.retL (Le.re [] [] hX (by kernel_rfl)) (qBlockR (qThenR (qLoopR (hk8 (.inr ()) rfl))))
        · refine HT.cond0 rfl hb12 ?_
          refine HT.skip (qBlock (qThen ?_))
          have hx7 := of_some hx7
          subst hx7
          exact HT.rgK (oHs 3) [] [] hX (by kernel_rfl) allNil (fun _ h => (qLoopN ⟨(wadd .i64 s2 (1 : Int)), rfl, h⟩))
      · refine HT.cond0 rfl hb9 ?_
        have hx7 := of_some hx7
        subst hx7
        exact HT.exitL (Le.re [] [] hX (by kernel_rfl)) (qThenE (qLoopE (hk8 (.inl ()) rfl)))

noncomputable def laws_eqPlain (a0 : Int × Int × List Int × List Bool) (a1 : Int × Int × List Int × List Bool) : Option (Bool) :=
  bif (a0.1 != a1.1) then
    some false
  else
    bif (a0.2.1 != a1.2.1) then
      some false
    else
      (laws_eqInt64S a0.2.2.1 a1.2.2.1).bind fun y3 =>
      bif (!y3) then
        some false
      else
        (laws_eqBoolS a0.2.2.2 a1.2.2.2).bind fun y6 =>
        bif (!y6) then
          some false
        else
          some true

theorem f100_ok {a0 : Int × Int × List Int × List Bool} {a1 : Int × Int × List Int × List Bool} {r : Bool} (hr : laws_eqPlain a0 a1 = some r) : CallOK Try.prog 100 [.imm (.st (.pair tI (.pair tI (.pair tLI (.sl .bool))))) a0, .imm (.st (.pair tI (.pair tI (.pair tLI (.sl .bool))))) a1] [⟨false, .bool, r⟩] [] := by
  unfold laws_eqPlain at hr
  refine CallOK.of_body (ts := [(false, .bool)]) Try.func100 rfl (by kernel_rfl) (Nat.le_of_ble_eq_true (by kernel_rfl)) fun cx hP hN hO hF => ?_
  have hO : cx.own.map Prod.fst = [] := hO
  have hX := CxIs.mk hP hN hO
  have hF := hF rfl
  show HT cx ⟨[(0, .agg [iC a0.1, iC a0.2.1, nC a0.2.2.1, .dat (.sl .bool) a0.2.2.2]), (1, .agg [iC a1.1, iC a1.2.1, nC a1.2.2.1, .dat (.sl .bool) a1.2.2.2])], [], 0⟩ _ _
  refine HT.rg2 (oHs 3) ⟨[(2, pV 0 0), (3, pV 1 0)], [(1, .box [iC a1.1, iC a1.2.1, nC a1.2.2.1, .dat (.sl .bool) a1.2.2.2]), (0, .box [iC a0.1, iC a0.2.1, nC a0.2.2.1, .dat (.sl .bool) a0.2.2.2])], 2⟩ hX (by kernel_rfl) allNil ?_
  refine HT.seq ?_
  refine HT.rg2 (oHs 5) ⟨[(2, pV 0 0), (3, pV 1 0), (9, bV (a0.1 != a1.1))], [(1, .box [iC a1.1, iC a1.2.1, nC a1.2.2.1, .dat (.sl .bool) a1.2.2.2]), (0, .box [iC a0.1, iC a0.2.1, nC a0.2.2.1, .dat (.sl .bool) a0.2.2.2])], 2⟩ hX (by kernel_rfl) allNil ?_
  rcases of_bif hr with ⟨hb1, hr⟩ | ⟨hb1, hr⟩
  · refine HT.cond1 rfl hb1 ?_
    refine HT.rg2 [oH] ⟨[(4, bV false)], [], 2⟩ hX (by kernel_rfl) allNil ?_
    have hr := of_some hr
    subst hr
    exact HT.ret (qThenR ⟨[bV false], [], [], by kernel_rfl, by kernel_rfl, rfl, by kernel_rfl, by kernel_rfl, trivial⟩)
  · refine HT.cond0 rfl hb1 ?_
    refine HT.skip (qThen ?_)
    refine HT.seq ?_
    refine HT.rg2 (oHs 5) ⟨[(2, pV 0 0), (3, pV 1 0), (14, bV (a0.2.1 != a1.2.1))], [(1, .box [iC a1.1, iC a1.2.1, nC a1.2.2.1, .dat (.sl .bool) a1.2.2.2]), (0, .box [iC a0.1, iC a0.2.1, nC a0.2.2.1, .dat (.sl .bool) a0.2.2.2])], 2⟩ hX (by kernel_rfl) allNil ?_
    rcases of_bif hr with ⟨hb2, hr⟩ | ⟨hb2, hr⟩
    · refine HT.cond1 rfl hb2 ?_
      refine HT.rg2 [oH] ⟨[(4, bV false)], [], 2⟩ hX (by kernel_rfl) allNil ?_
      have hr := of_some hr
      subst hr
      exact HT.ret (qThenR ⟨[bV false], [], [], by kernel_rfl, by kernel_rfl, rfl, by kernel_rfl, by kernel_rfl, trivial⟩)
    · refine HT.cond0 rfl hb2 ?_
      refine HT.skip (qThen ?_)
      refine HT.seq ?_
      obtain ⟨y3, hc4, hr⟩ := of_bind hr
      refine HT.rg2 [oH, oH, oH, oH, ⟨none, .call [.imm tLI, .imm tLI] [⟨false, .bool, y3⟩] []⟩, oH] ⟨[(2, pV 0 0), (3, pV 1 0), (20, bV (!y3))], [(1, .box [iC a1.1, iC a1.2.1, nC a1.2.2.1, .dat (.sl .bool) a1.2.2.2]), (0, .box [iC a0.1, iC a0.2.1, nC a0.2.2.1, .dat (.sl .bool) a0.2.2.2])], 2⟩ hX (by kernel_rfl) (allCons (f17_ok hc4) allNil) ?_
      rcases of_bif hr with ⟨hb5, hr⟩ | ⟨hb5, hr⟩
      · refine HT.cond1 rfl hb5 ?_
        refine HT.rg2 [oH] ⟨[(4, bV false)], [], 2⟩ hX (by kernel_rfl) allNil ?_
        have hr := of_some hr
        subst hr
        exact HT.ret (qThenR ⟨[bV false], [], [], by kernel_rfl, by kernel_rfl, rfl, by kernel_rfl, by kernel_rfl, trivial⟩)
      · refine HT.cond0 rfl hb5 ?_
        refine HT.skip (qThen ?_)
        refine HT.seq ?_
        obtain ⟨y6, hc7, hr⟩ := of_bind hr
        refine HT.rg2 [oH, oH, oH, oH, ⟨none, .call [.imm (.sl .bool), .imm (.sl .bool)] [⟨false, .bool, y6⟩] []⟩, oH] ⟨[(26, bV (!y6))], [], 2⟩ hX (by kernel_rfl) (allCons (f125_ok hc7) allNil) ?_
        rcases of_bif hr with ⟨hb8, hr⟩ | ⟨hb8, hr⟩
        · refine HT.cond1 rfl hb8 ?_
          refine HT.rg2 [oH] ⟨[(4, bV false)], [], 2⟩ hX (by kernel_rfl) allNil ?_
          have hr := of_some hr
          subst hr
          exact HT.ret (qThenR ⟨[bV false], [], [], by kernel_rfl, by kernel_rfl, rfl, by kernel_rfl, by kernel_rfl, trivial⟩)
        · refine HT.cond0 rfl hb8 ?_
          refine HT.skip (qThen ?_)
          refine HT.rg2 [oH] ⟨[(4, bV true)], [], 2⟩ hX (by kernel_rfl) allNil ?_
          have hr := of_some hr
          subst hr
          exact HT.ret ⟨[bV true], [], [], by kernel_rfl, by kernel_rfl, rfl, by kernel_rfl, by kernel_rfl, trivial⟩

noncomputable def laws_eqKept (a0 : List UInt8 × Int × Int × List Int × List Bool) (a1 : List UInt8 × Int × Int × List Int × List Bool) : Option (Bool) :=
  bif (a0.1 != a1.1) then
    some false
  else
    (laws_eqPlain (a0.2.1, a0.2.2.1, a0.2.2.2.1, a0.2.2.2.2) (a1.2.1, a1.2.2.1, a1.2.2.2.1, a1.2.2.2.2)).bind fun y2 =>
    bif (!y2) then
      some false
    else
      some true

theorem f71_ok {a0 : List UInt8 × Int × Int × List Int × List Bool} {a1 : List UInt8 × Int × Int × List Int × List Bool} {r : Bool} (hr : laws_eqKept a0 a1 = some r) : CallOK Try.prog 71 [.imm (.st (.pair .str (.st (.pair tI (.pair tI (.pair tLI (.sl .bool))))))) a0, .imm (.st (.pair .str (.st (.pair tI (.pair tI (.pair tLI (.sl .bool))))))) a1] [⟨false, .bool, r⟩] [] := by
  unfold laws_eqKept at hr
  refine CallOK.of_body (ts := [(false, .bool)]) Try.func71 rfl (by kernel_rfl) (Nat.le_of_ble_eq_true (by kernel_rfl)) fun cx hP hN hO hF => ?_
  have hO : cx.own.map Prod.fst = [] := hO
  have hX := CxIs.mk hP hN hO
  have hF := hF rfl
  show HT cx ⟨[(0, .agg [.dat .str a0.1, iC a0.2.1, iC a0.2.2.1, nC a0.2.2.2.1, .dat (.sl .bool) a0.2.2.2.2]), (1, .agg [.dat .str a1.1, iC a1.2.1, iC a1.2.2.1, nC a1.2.2.2.1, .dat (.sl .bool) a1.2.2.2.2])], [], 0⟩ _ _
  refine HT.rg2 (oHs 3) ⟨[(2, pV 0 0), (3, pV 1 0)], [(1, .box [.dat .str a1.1, iC a1.2.1, iC a1.2.2.1, nC a1.2.2.2.1, .dat (.sl .bool) a1.2.2.2.2]), (0, .box [.dat .str a0.1, iC a0.2.1, iC a0.2.2.1, nC a0.2.2.2.1, .dat (.sl .bool) a0.2.2.2.2])], 2⟩ hX (by kernel_rfl) allNil ?_
  refine HT.seq ?_
  refine HT.rg2 (oHs 5) ⟨[(2, pV 0 0), (3, pV 1 0), (9, bV (a0.1 != a1.1))], [(1, .box [.dat .str a1.1, iC a1.2.1, iC a1.2.2.1, nC a1.2.2.2.1, .dat (.sl .bool) a1.2.2.2.2]), (0, .box [.dat .str a0.1, iC a0.2.1, iC a0.2.2.1, nC a0.2.2.2.1, .dat (.sl .bool) a0.2.2.2.2])], 2⟩ hX (by kernel_rfl) allNil ?_
  rcases of_bif hr with ⟨hb1, hr⟩ | ⟨hb1, hr⟩
  · refine HT.cond1 rfl hb1 ?_
    refine HT.rg2 [oH] ⟨[(4, bV false)], [], 2⟩ hX (by kernel_rfl) allNil ?_
    have hr := of_some hr
    subst hr
    exact HT.ret (qThenR ⟨[bV false], [], [], by kernel_rfl, by kernel_rfl, rfl, by kernel_rfl, by kernel_rfl, trivial⟩)
  · refine HT.cond0 rfl hb1 ?_
    refine HT.skip (qThen ?_)
    refine HT.seq ?_
    obtain ⟨y2, hc3, hr⟩ := of_bind hr
    refine HT.rg2 [oH, oH, oH, oH, ⟨none, .call [.imm (.st (.pair tI (.pair tI (.pair tLI (.sl .bool))))), .imm (.st (.pair tI (.pair tI (.pair tLI (.sl .bool)))))] [⟨false, .bool, y2⟩] []⟩, oH] ⟨[(15, bV (!y2))], [], 2⟩ hX (by kernel_rfl) (allCons (f100_ok hc3) allNil) ?_
    rcases of_bif hr with ⟨hb4, hr⟩ | ⟨hb4, hr⟩
    · refine HT.cond1 rfl hb4 ?_
      refine HT.rg2 [oH] ⟨[(4, bV false)], [], 2⟩ hX (by kernel_rfl) allNil ?_
      have hr := of_some hr
      subst hr
      exact HT.ret (qThenR ⟨[bV false], [], [], by kernel_rfl, by kernel_rfl, rfl, by kernel_rfl, by kernel_rfl, trivial⟩)
    · refine HT.cond0 rfl hb4 ?_
      refine HT.skip (qThen ?_)
      refine HT.rg2 [oH] ⟨[(4, bV true)], [], 2⟩ hX (by kernel_rfl) allNil ?_
      have hr := of_some hr
      subst hr
      exact HT.ret ⟨[bV true], [], [], by kernel_rfl, by kernel_rfl, rfl, by kernel_rfl, by kernel_rfl, trivial⟩

noncomputable def laws_eqKeptS_B1 (a0 : List (List UInt8 × Int × Int × List Int × List Bool)) (a1 : List (List UInt8 × Int × Int × List Int × List Bool)) (s2 : Int) : Option ((Int) ⊕ (Unit ⊕ Unit)) :=
  bif (decide (s2 < (lenI a0))) then
    guardP ((0 : Int) ≤ s2 ∧ s2 < lenI a0) (
      guardP ((0 : Int) ≤ s2 ∧ s2 < lenI a1) (
        (laws_eqKept ((List.getD a0 (Int.toNat s2) (([] : List UInt8), (0 : Int), (0 : Int), ([] : List Int), ([] : List Bool))).1, ((List.getD a0 (Int.toNat s2) (([] : List UInt8), (0 : Int), (0 : Int), ([] : List Int), ([] : List Bool))).2).1, (((List.getD a0 (Int.toNat s2) (([] : List UInt8), (0 : Int), (0 : Int), ([] : List Int), ([] : List Bool))).2).2).1, ((((List.getD a0 (Int.toNat s2) (([] : List UInt8), (0 : Int), (0 : Int), ([] : List Int), ([] : List Bool))).2).2).2).1, ((((List.getD a0 (Int.toNat s2) (([] : List UInt8), (0 : Int), (0 : Int), ([] : List Int), ([] : List Bool))).2).2).2).2) ((List.getD a1 (Int.toNat s2) (([] : List UInt8), (0 : Int), (0 : Int), ([] : List Int), ([] : List Bool))).1, ((List.getD a1 (Int.toNat s2) (([] : List UInt8), (0 : Int), (0 : Int), ([] : List Int), ([] : List Bool))).2).1, (((List.getD a1 (Int.toNat s2) (([] : List UInt8), (0 : Int), (0 : Int), ([] : List Int), ([] : List Bool))).2).2).1, ((((List.getD a1 (Int.toNat s2) (([] : List UInt8), (0 : Int), (0 : Int), ([] : List Int), ([] : List Bool))).2).2).2).1, ((((List.getD a1 (Int.toNat s2) (([] : List UInt8), (0 : Int), (0 : Int), ([] : List Int), ([] : List Bool))).2).2).2).2)).bind fun y12 =>
        bif (!y12) then
          some (.inr (.inr ()))
        else
          some (.inl (wadd .i64 s2 (1 : Int)))))
  else
    some (.inr (.inl ()))

noncomputable def laws_eqKeptS (a0 : List (List UInt8 × Int × Int × List Int × List Bool)) (a1 : List (List UInt8 × Int × Int × List Int × List Bool)) : Option (Bool) :=
  bif ((lenI a0) != (lenI a1)) then
    some false
  else
    (rounds (laws_eqKeptS_B1 a0 a1) (0 : Int)).bind fun r3 => match r3 with
      | .inl r4 =>
        some true
      | .inr r5 =>
        some false

theorem f39_ok {a0 : List (List UInt8 × Int × Int × List Int × List Bool)} {a1 : List (List UInt8 × Int × Int × List Int × List Bool)} {r : Bool} (hr : laws_eqKeptS a0 a1 = some r) : CallOK Try.prog 39 [.imm (.sl (.st (.pair .str (.st (.pair tI (.pair tI (.pair tLI (.sl .bool)))))))) a0, .imm (.sl (.st (.pair .str (.st (.pair tI (.pair tI (.pair tLI (.sl .bool)))))))) a1] [⟨false, .bool, r⟩] [] := by
  unfold laws_eqKeptS at hr
  refine CallOK.of_body (ts := [(false, .bool)]) Try.func39 rfl (by kernel_rfl) (Nat.le_of_ble_eq_true (by kernel_rfl)) fun cx hP hN hO hF => ?_
  have hO : cx.own.map Prod.fst = [] := hO
  have hX := CxIs.mk hP hN hO
  have hF := hF rfl
  show HT cx ⟨[(0, .one (.dat (.sl (.st (.pair .str (.st (.pair tI (.pair tI (.pair tLI (.sl .bool)))))))) a0)), (1, .one (.dat (.sl (.st (.pair .str (.st (.pair tI (.pair tI (.pair tLI (.sl .bool)))))))) a1))], [], 0⟩ _ _
  refine HT.rg2 [oH] ⟨[(0, .one (.dat (.sl (.st (.pair .str (.st (.pair tI (.pair tI (.pair tLI (.sl .bool)))))))) a0)), (1, .one (.dat (.sl (.st (.pair .str (.st (.pair tI (.pair tI (.pair tLI (.sl .bool)))))))) a1))], [], 0⟩ hX (by kernel_rfl) allNil ?_
  refine HT.seq ?_
  refine HT.rg2 (oHs 5) ⟨[(0, .one (.dat (.sl (.st (.pair .str (.st (.pair tI (.pair tI (.pair tLI (.sl .bool)))))))) a0)), (1, .one (.dat (.sl (.st (.pair .str (.st (.pair tI (.pair tI (.pair tLI (.sl .bool)))))))) a1)), (10, bV ((lenI a0) != (lenI a1)))], [], 0⟩ hX (by kernel_rfl) allNil ?_
  rcases of_bif hr with ⟨hb1, hr⟩ | ⟨hb1, hr⟩
  · refine HT.cond1 rfl hb1 ?_
    refine HT.rg2 [oH] ⟨[(4, bV false)], [], 0⟩ hX (by kernel_rfl) allNil ?_
    have hr := of_some hr
    subst hr
    exact HT.ret (qThenR ⟨[bV false], [], [], by kernel_rfl, by kernel_rfl, rfl, by kernel_rfl, by kernel_rfl, trivial⟩)
  · refine HT.cond0 rfl hb1 ?_
    refine HT.skip (qThen ?_)
    refine HT.seq ?_
    refine HT.rg2 [oH] ⟨[(0, .one (.dat (.sl (.st (.pair .str (.st (.pair tI (.pair tI (.pair tLI (.sl .bool)))))))) a0)), (1, .one (.dat (.sl (.st (.pair .str (.st (.pair tI (.pair tI (.pair tLI (.sl .bool)))))))) a1)), (5, iV (0 : Int))], [], 0⟩ hX (by kernel_rfl) allNil ?_
    refine HT.block ?_
    obtain ⟨r3, hL15, hr⟩ := of_bind hr
    refine HT.loopL (fun (s2 : Int) => ⟨[(0, .one (.dat (.sl (.st (.pair .str (.st (.pair tI (.pair tI (.pair tLI (.sl .bool)))))))) a0)), (1, .one (.dat (.sl (.st (.pair .str (.st (.pair tI (.pair tI (.pair tLI (.sl .bool)))))))) a1)), (5, iV s2)], [], 0⟩) (fun (r3 : Unit ⊕ Unit) => match r3 with | .inl r4 => (.exit 0, ⟨[], [], 0⟩) | .inr r5 => (.ret, ⟨[(4, bV false)], [], 0⟩)) (Le.re [] [] hX (by kernel_rfl)) hL15 ?_ (fun s2 x6 hx7 hk8 => ?_)
    · rcases r3 with r4 | r5
      · refine (qBlockX (qThen ?_))
        refine HT.rg2 [oH] ⟨[(4, bV true)], [], 0⟩ hX (by kernel_rfl) allNil ?_
        have hr := of_some hr
        subst hr
        exact HT.ret ⟨[bV true], [], [], by kernel_rfl, by kernel_rfl, rfl, by kernel_rfl, by kernel_rfl, trivial⟩
      · have hr := of_some hr
        subst hr
        exact (qBlockR (qThenR ⟨[bV false], [], [], by kernel_rfl, by kernel_rfl, rfl, by kernel_rfl, by kernel_rfl, trivial⟩))
    · refine HT.seq ?_
      refine HT.rg2 (oHs 4) ⟨[(0, .one (.dat (.sl (.st (.pair .str (.st (.pair tI (.pair tI (.pair tLI (.sl .bool)))))))) a0)), (1, .one (.dat (.sl (.st (.pair .str (.st (.pair tI (.pair tI (.pair tLI (.sl .bool)))))))) a1)), (5, iV s2), (14, bV (decide (s2 < (lenI a0))))], [], 0⟩ hX (by kernel_rfl) allNil ?_
      rcases of_bif hx7 with ⟨hb9, hx7⟩ | ⟨hb9, hx7⟩
      · refine HT.cond1 rfl hb9 ?_
        refine HT.skip (qThen ?_)
        refine HT.seq ?_
        refine HT.block ?_
        obtain ⟨hg10, hx7⟩ := of_guard hx7
        obtain ⟨hg11, hx7⟩ := of_guard hx7
        obtain ⟨y12, hc13, hx7⟩ := of_bind hx7
        refine HT.dr2 8 [⟨oH, []⟩, ⟨oH, []⟩, ⟨oH, [0, 1]⟩, ⟨oH, [0, 1, 2]⟩, ⟨oH, []⟩, ⟨oH, []⟩, ⟨oH, [4, 5]⟩, ⟨oH, [4, 5, 6]⟩] [[0, 1, 2, 3, 4, 5, 6, 7], [0, 1, 2, 3, 4, 5, 6, 7, 8]] [⟨none, .call [.imm (.st (.pair .str (.st (.pair tI (.pair tI (.pair tLI (.sl .bool))))))), .imm (.st (.pair .str (.st (.pair tI (.pair tI (.pair tLI (.sl .bool)))))))] [⟨false, .bool, y12⟩] []⟩, oH] ⟨[(0, .one (.dat (.sl (.st (.pair .str (.st (.pair tI (.pair tI (.pair tLI (.sl .bool)))))))) a0)), (1, .one (.dat (.sl (.st (.pair .str (.st (.pair tI (.pair tI (.pair tLI (.sl .bool)))))))) a1)), (5, iV s2), (26, bV (!y12))], [], 0⟩ hX (by kernel_rfl) (by kernel_rfl) (allCons hg10 (allCons hg11 (allCons (f71_ok hc13) allNil))) ?_
        rcases of_bif hx7 with ⟨hb14, hx7⟩ | ⟨hb14, hx7⟩
        · refine HT.cond1 rfl hb14 ?_
          refine HT.rg2 [oH] ⟨[(4, bV false)], [], 0⟩ hX (by kernel_rfl) allNil ?_
          have hx7 := of_some hx7
          subst hx7
          exact HT.retL (Le.re [] [] hX (by kernel_rfl)) (qBlockR (qThenR (qLoopR (hk8 (.inr ()) rfl))))
        · refine HT.cond0 rfl hb14 ?_
          refine HT.skip (qBlock (qThen ?_))
          have hx7 := of_some hx7
          subst hx7
          exact HT.rgK (oHs 3) [] [] hX (by kernel_rfl) allNil (fun _ h => (qLoopN ⟨(wadd .i64 s2 (1 : Int)), rfl, h⟩))
      · refine HT.cond0 rfl hb9 ?_
        have hx7 := of_some hx7
        subst hx7
        exact HT.exitL (Le.re [] [] hX (by kernel_rfl)) (qThenE (qLoopE (hk8 (.inl ()) rfl)))

end Go.Proofs
