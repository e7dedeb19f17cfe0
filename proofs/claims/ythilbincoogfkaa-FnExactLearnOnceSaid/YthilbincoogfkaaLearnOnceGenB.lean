import Derived.Test.YthilbincoogfkaaLearnOnceGenA
import Derived.Test.YthilbincoogfkaaProg
set_option linter.unusedVariables false
set_option linter.unusedSimpArgs false
set_option linter.unusedSectionVars false
/-
  Functions as plain functions, and their contracts. Printed by a program.
-/
namespace Go.Proofs
open Go.Ide

noncomputable def impl_divided_B1 (a2 : Int) (s4 : Int × List Nat) (y14 : List Nat) (y16 : Nat) (s19 : Int × List Nat) : Option ((Int × List Nat) ⊕ (List Nat)) :=
  bif (decide (s19.1 < (lenI y14))) then
    guardP ((0 : Int) ≤ s19.1 ∧ s19.1 < lenI y14) (
      guardP ((0 : Int) ≤ (wadd .i64 (wmul .i64 s4.1 a2) s19.1) ∧ (wadd .i64 (wmul .i64 s4.1 a2) s19.1) < lenI s19.2) (
        some (.inl ((wadd .i64 s19.1 (1 : Int)), (List.set s19.2 (Int.toNat (wadd .i64 (wmul .i64 s4.1 a2) s19.1)) (fop .quo .f32 (List.getD y14 (Int.toNat s19.1) (0 : Nat)) y16))))))
  else
    some (.inr s19.2)

noncomputable def impl_divided_B2 (a0 : List Nat) (a2 : Int) (s4 : Int × List Nat) : Option ((Int × List Nat) ⊕ (List Nat)) :=
  bif (decide (s4.1 < (IntKind.wrap .i64 (Int.tdiv (lenI a0) a2)))) then
    (show Option (List Nat) from
      (impl_rowOf_float32 a0 a2 s4.1).bind fun y14 =>
      (impl_addUp y14).bind fun y16 =>
      bif (!(fgt .f32 y16 (0 : Nat))) then
        some s4.2
      else
        (rounds (impl_divided_B1 a2 s4 y14 y16) ((0 : Int), s4.2)).bind fun r21 =>
        some r21).bind fun v11 =>
    some (.inl ((wadd .i64 s4.1 (1 : Int)), v11))
  else
    some (.inr s4.2)

noncomputable def impl_divided (a0 : List Nat) (a1 : List Nat) (a2 : Int) : Option (List Nat) :=
  (slices_Clone a1).bind fun y1 =>
  guardP (a2 ≠ 0) (
    (rounds (impl_divided_B2 a0 a2) ((0 : Int), y1)).bind fun r6 =>
    some r6)

theorem f93_ok {a0 : List Nat} {a1 : List Nat} {a2 : Int} {r : List Nat} (hr : impl_divided a0 a1 a2 = some r) : CallOK Try.prog 93 [.imm tLF a0, .imm tLF a1, .imm tI a2] [⟨true, tLF, r⟩] [] := by
  unfold impl_divided at hr
  refine CallOK.of_body (ts := [(true, tLF)]) Try.func93 rfl (by kernel_rfl) (Nat.le_of_ble_eq_true (by kernel_rfl)) fun cx hP hN hO hF => ?_
  have hO : cx.own.map Prod.fst = [] := hO
  have hX := CxIs.mk hP hN hO
  have hF := hF rfl
  show HT cx ⟨[(0, lV a0), (1, lV a1), (2, iV a2)], [], 0⟩ _ _
  refine HT.rg2 [oH] ⟨[(0, lV a0), (1, lV a1), (2, iV a2)], [], 0⟩ hX (by kernel_rfl) allNil ?_
  obtain ⟨y1, hc2, hr⟩ := of_bind hr
  refine HT.rg2 [oH, ⟨none, .call [.imm tLF] [⟨true, tLF, y1⟩] []⟩, oH] ⟨[(0, lV a0), (2, iV a2), (7, aV 0)], [(0, .seq tF y1)], 1⟩ hX (by kernel_rfl) (allCons (f66_ok hc2) allNil) ?_
  refine HT.seq ?_
  obtain ⟨hg3, hr⟩ := of_guard hr
  refine HT.rg2 (oHs 5) ⟨[(0, lV a0), (2, iV a2), (7, aV 0), (18, iV (IntKind.wrap .i64 (Int.tdiv (lenI a0) a2))), (19, iV (0 : Int))], [(0, .seq tF y1)], 1⟩ hX (by kernel_rfl) (allCons hg3 allNil) ?_
  refine HT.block ?_
  obtain ⟨r5, hL29, hr⟩ := of_bind hr
  refine HT.loopL (fun (s4 : Int × List Nat) => ⟨[(0, lV a0), (2, iV a2), (7, aV 0), (18, iV (IntKind.wrap .i64 (Int.tdiv (lenI a0) a2))), (19, iV s4.1)], [(0, .seq tF s4.2)], 1⟩) (fun (r6 : List Nat) => (.exit 0, ⟨[(7, aV 0)], [(0, .seq tF r6)], 1⟩)) (Le.re [(0, 0)] [] hX (by kernel_rfl)) hL29 ?_ (fun s4 x7 hx8 hk9 => ?_)
  · refine (qBlockX (qThen ?_))
    refine HT.rg2 (oHs 2) ⟨[(6, aV 0)], [(0, .seq tF r5)], 1⟩ hX (by kernel_rfl) allNil ?_
    have hr := of_some hr
    subst hr
    exact HT.ret ⟨[aV 0], [0], [], by kernel_rfl, by kernel_rfl, rfl, by kernel_rfl, by kernel_rfl, trivial⟩
  · refine HT.rg2 [oH] ⟨[(0, lV a0), (2, iV a2), (7, aV 0), (18, iV (IntKind.wrap .i64 (Int.tdiv (lenI a0) a2))), (19, iV s4.1), (20, bV (decide (s4.1 < (IntKind.wrap .i64 (Int.tdiv (lenI a0) a2)))))], [(0, .seq tF s4.2)], 1⟩ hX (by kernel_rfl) allNil ?_
    refine HT.seq ?_
    rcases of_bif hx8 with ⟨hb10, hx8⟩ | ⟨hb10, hx8⟩
    · refine HT.cond1 rfl hb10 ?_
      refine HT.skip (qThen ?_)
      obtain ⟨v11', hT13, hx8⟩ := of_bind hx8
      refine HT.join (fun (v11 : List Nat) => ⟨[(0, lV a0), (2, iV a2), (7, aV 0), (18, iV (IntKind.wrap .i64 (Int.tdiv (lenI a0) a2))), (19, iV s4.1)], [(0, .seq tF v11)], 1⟩) (fun v => v = v11') (fun v11 hv12 => ?_) (fun cont => ?_)
      · subst hv12
        have hx8 := of_some hx8
        subst hx8
        exact HT.rgK (oHs 2) [(0, 0)] [] hX (by kernel_rfl) allNil (fun _ h => (qLoopN ⟨((wadd .i64 s4.1 (1 : Int)), v11), rfl, h⟩))
      · refine HT.block ?_
        refine HT.rg2 (oHs 2) ⟨[(0, lV a0), (2, iV a2), (7, aV 0), (8, iV s4.1), (18, iV (IntKind.wrap .i64 (Int.tdiv (lenI a0) a2))), (19, iV s4.1)], [(0, .seq tF s4.2)], 1⟩ hX (by kernel_rfl) allNil ?_
        obtain ⟨y14, hc15, hT13⟩ := of_bind hT13
        refine HT.rg2 [oH, oH, oH, ⟨none, .call [.imm tLF, .imm tI, .imm tI] [⟨false, tLF, y14⟩] []⟩, oH] ⟨[(0, lV a0), (2, iV a2), (7, aV 0), (8, iV s4.1), (9, lV y14), (18, iV (IntKind.wrap .i64 (Int.tdiv (lenI a0) a2))), (19, iV s4.1)], [(0, .seq tF s4.2)], 1⟩ hX (by kernel_rfl) (allCons (f114_ok hc15) allNil) ?_
        obtain ⟨y16, hc17, hT13⟩ := of_bind hT13
        refine HT.rg2 [oH, ⟨none, .call [.imm tLF] [⟨false, tF, y16⟩] []⟩, oH] ⟨[(0, lV a0), (2, iV a2), (7, aV 0), (8, iV s4.1), (9, lV y14), (10, fV y16), (18, iV (IntKind.wrap .i64 (Int.tdiv (lenI a0) a2))), (19, iV s4.1)], [(0, .seq tF s4.2)], 1⟩ hX (by kernel_rfl) (allCons (f111_ok hc17) allNil) ?_
        refine HT.seq ?_
        refine HT.rg2 (oHs 3) ⟨[(0, lV a0), (2, iV a2), (7, aV 0), (8, iV s4.1), (9, lV y14), (10, fV y16), (18, iV (IntKind.wrap .i64 (Int.tdiv (lenI a0) a2))), (19, iV s4.1), (30, bV (!(fgt .f32 y16 (0 : Nat))))], [(0, .seq tF s4.2)], 1⟩ hX (by kernel_rfl) allNil ?_
        rcases of_bif hT13 with ⟨hb18, hT13⟩ | ⟨hb18, hT13⟩
        · refine HT.cond1 rfl hb18 ?_
          refine HT.exit (qThenE (qBlockX (qThen ?_)))
          exact (Le.re [(0, 0)] [] hX (by kernel_rfl)).ht (cont s4.2 (of_some hT13))
        · refine HT.cond0 rfl hb18 ?_
          refine HT.skip (qThen ?_)
          refine HT.rg2 (oHs 3) ⟨[(0, lV a0), (2, iV a2), (7, aV 0), (8, iV s4.1), (10, fV y16), (18, iV (IntKind.wrap .i64 (Int.tdiv (lenI a0) a2))), (19, iV s4.1), (31, lV y14), (32, iV (lenI y14)), (33, iV (0 : Int))], [(0, .seq tF s4.2)], 1⟩ hX (by kernel_rfl) allNil ?_
          refine HT.block ?_
          obtain ⟨r20, hL28, hT13⟩ := of_bind hT13
          refine HT.loopL (fun (s19 : Int × List Nat) => ⟨[(0, lV a0), (2, iV a2), (7, aV 0), (8, iV s4.1), (10, fV y16), (18, iV (IntKind.wrap .i64 (Int.tdiv (lenI a0) a2))), (19, iV s4.1), (31, lV y14), (32, iV (lenI y14)), (33, iV s19.1)], [(0, .seq tF s19.2)], 1⟩) (fun (r21 : List Nat) => (.exit 2, ⟨[(0, lV a0), (2, iV a2), (7, aV 0), (18, iV (IntKind.wrap .i64 (Int.tdiv (lenI a0) a2))), (19, iV s4.1)], [(0, .seq tF r21)], 1⟩)) (Le.re [(0, 0)] [] hX (by kernel_rfl)) hL28 ?_ (fun s19 x22 hx23 hk24 => ?_)
          · refine (qBlockX (qBlock (qThen ?_)))
            exact (Le.re [(0, 0)] [] hX (by kernel_rfl)).ht (cont r20 (of_some hT13))
          · refine HT.rg2 [oH] ⟨[(0, lV a0), (2, iV a2), (7, aV 0), (8, iV s4.1), (10, fV y16), (18, iV (IntKind.wrap .i64 (Int.tdiv (lenI a0) a2))), (19, iV s4.1), (31, lV y14), (32, iV (lenI y14)), (33, iV s19.1), (34, bV (decide (s19.1 < (lenI y14))))], [(0, .seq tF s19.2)], 1⟩ hX (by kernel_rfl) allNil ?_
            refine HT.seq ?_
            rcases of_bif hx23 with ⟨hb25, hx23⟩ | ⟨hb25, hx23⟩
            · refine HT.cond1 rfl hb25 ?_
              refine HT.skip (qThen ?_)
              refine HT.seq ?_
              refine HT.block ?_
              obtain ⟨hg26, hx23⟩ := of_guard hx23
              refine HT.rg2 (oHs 5) ⟨[(0, lV a0), (2, iV a2), (7, aV 0), (8, iV s4.1), (10, fV y16), (11, iV s19.1), (12, fV (List.getD y14 (Int.toNat s19.1) (0 : Nat))), (18, iV (IntKind.wrap .i64 (Int.tdiv (lenI a0) a2))), (19, iV s4.1), (31, lV y14), (32, iV (lenI y14)), (33, iV s19.1)], [(0, .seq tF s19.2)], 1⟩ hX (by kernel_rfl) (allCons hg26 allNil) ?_
              obtain ⟨hg27, hx23⟩ := of_guard hx23
              refine HT.rgL (oHs 11) ⟨[(0, lV a0), (2, iV a2), (7, aV 0), (8, iV s4.1), (10, fV y16), (18, iV (IntKind.wrap .i64 (Int.tdiv (lenI a0) a2))), (19, iV s4.1), (31, lV y14), (32, iV (lenI y14)), (33, iV s19.1)], [(0, .seq tF (List.set s19.2 (Int.toNat (wadd .i64 (wmul .i64 s4.1 a2) s19.1)) (fop .quo .f32 (List.getD y14 (Int.toNat s19.1) (0 : Nat)) y16)))], 1⟩ hX (by kernel_rfl) (allCons hg27 (allCons (natLt hg27) allNil)) (qBlock (qThen ?_))
              have hx23 := of_some hx23
              subst hx23
              exact HT.rgK (oHs 2) [(0, 0)] [] hX (by kernel_rfl) allNil (fun _ h => (qLoopN ⟨((wadd .i64 s19.1 (1 : Int)), (List.set s19.2 (Int.toNat (wadd .i64 (wmul .i64 s4.1 a2) s19.1)) (fop .quo .f32 (List.getD y14 (Int.toNat s19.1) (0 : Nat)) y16))), rfl, h⟩))
            · refine HT.cond0 rfl hb25 ?_
              have hx23 := of_some hx23
              subst hx23
              exact HT.exitL (Le.re [(0, 0)] [] hX (by kernel_rfl)) (qThenE (qLoopE (hk24 s19.2 rfl)))
    · refine HT.cond0 rfl hb10 ?_
      have hx8 := of_some hx8
      subst hx8
      exact HT.exitL (Le.re [(0, 0)] [] hX (by kernel_rfl)) (qThenE (qLoopE (hk9 s4.2 rfl)))

noncomputable def impl_validModel_mv0 (a0 : Int × Int × List Nat × List Nat × List Nat) : Option ((Int × Int × List Nat × List Nat × List Nat) × Bool) :=
  (impl_ValidModel (a0.1, a0.2.1, a0.2.2.1, a0.2.2.2.1, a0.2.2.2.2)).bind fun y1 =>
  bif (!y1) then
    some (((0 : Int), (0 : Int), ([] : List Nat), ([] : List Nat), ([] : List Nat)), false)
  else
    some ((a0.1, a0.2.1, a0.2.2.1, a0.2.2.2.1, a0.2.2.2.2), true)

theorem f92_mv0_ok {a0 : Int × Int × List Nat × List Nat × List Nat} {r : (Int × Int × List Nat × List Nat × List Nat) × Bool} (hr : impl_validModel_mv0 a0 = some r) : CallOK Try.prog 92 [.mv (.st (.pair tI (.pair tI (.pair tLF (.pair tLF tLF))))) a0] [⟨true, (.st (.pair tI (.pair tI (.pair tLF (.pair tLF tLF))))), r.1⟩, ⟨false, .bool, r.2⟩] [] := by
  unfold impl_validModel_mv0 at hr
  refine CallOK.of_body (ts := [(true, (.st (.pair tI (.pair tI (.pair tLF (.pair tLF tLF)))))), (false, .bool)]) Try.func92 rfl (by kernel_rfl) (Nat.le_of_ble_eq_true (by kernel_rfl)) fun cx hP hN hO hF => ?_
  have hO : cx.own.map Prod.fst = [] := hO
  have hX := CxIs.mk hP hN hO
  show HT cx ⟨[(0, .agg [iC a0.1, iC a0.2.1, .all 0, .all 1, .all 2])], [(0, .seq tF a0.2.2.1), (1, .seq tF a0.2.2.2.1), (2, .seq tF a0.2.2.2.2)], 3⟩ _ _
  refine HT.rg2 (oHs 3) ⟨[(1, pV 3 0), (2, pV 4 0)], [(4, .box [iC (0 : Int), iC (0 : Int), .nilS, .nilS, .nilS]), (3, .box [iC a0.1, iC a0.2.1, .all 0, .all 1, .all 2]), (0, .seq tF a0.2.2.1), (1, .seq tF a0.2.2.2.1), (2, .seq tF a0.2.2.2.2)], 5⟩ hX (by kernel_rfl) allNil ?_
  refine HT.seq ?_
  obtain ⟨y1, hc2, hr⟩ := of_bind hr
  refine HT.rg2 [oH, ⟨none, .call [.imm (.st (.pair tI (.pair tI (.pair tLF (.pair tLF tLF)))))] [⟨false, .bool, y1⟩] []⟩, oH] ⟨[(1, pV 3 0), (2, pV 4 0), (6, bV (!y1))], [(4, .box [iC (0 : Int), iC (0 : Int), .nilS, .nilS, .nilS]), (3, .box [iC a0.1, iC a0.2.1, .all 0, .all 1, .all 2]), (0, .seq tF a0.2.2.1), (1, .seq tF a0.2.2.2.1), (2, .seq tF a0.2.2.2.2)], 5⟩ hX (by kernel_rfl) (allCons (f78_ok hc2) allNil) ?_
  rcases of_bif hr with ⟨hb3, hr⟩ | ⟨hb3, hr⟩
  · refine HT.cond1 rfl hb3 ?_
    refine HT.rg2 (oHs 3) ⟨[(2, pV 4 0), (3, bV false)], [(4, .box [iC (0 : Int), iC (0 : Int), .nilS, .nilS, .nilS])], 5⟩ hX (by kernel_rfl) allNil ?_
    have hr := of_some hr
    subst hr
    exact HT.ret (qThenR ⟨[.agg [iC (0 : Int), iC (0 : Int), .nilS, .nilS, .nilS], bV false], [], [], by kernel_rfl, by kernel_rfl, rfl, by kernel_rfl, by kernel_rfl, trivial⟩)
  · refine HT.cond0 rfl hb3 ?_
    refine HT.skip (qThen ?_)
    refine HT.rg2 (oHs 3) ⟨[(2, pV 4 0), (3, bV true)], [(4, .box [iC a0.1, iC a0.2.1, .all 0, .all 1, .all 2]), (0, .seq tF a0.2.2.1), (1, .seq tF a0.2.2.2.1), (2, .seq tF a0.2.2.2.2)], 5⟩ hX (by kernel_rfl) allNil ?_
    have hr := of_some hr
    subst hr
    exact HT.ret ⟨[.agg [iC a0.1, iC a0.2.1, .all 0, .all 1, .all 2], bV true], [0, 1, 2], [], by kernel_rfl, by kernel_rfl, rfl, by kernel_rfl, by kernel_rfl, trivial⟩

noncomputable def impl_Model_told (a0 : Int × Int × List Nat × List Nat × List Nat) (a1 : List Nat × List Nat × List Nat) : Option ((Int × Int × List Nat × List Nat × List Nat) × Bool) :=
  (impl_divided a1.1 a0.2.2.1 a0.1).bind fun y1 =>
  (impl_divided a1.2.1 a0.2.2.2.1 a0.1).bind fun y3 =>
  (impl_divided a1.2.2 a0.2.2.2.2 a0.2.1).bind fun y5 =>
  (impl_validModel_mv0 (a0.1, a0.2.1, y1, y3, y5)).bind fun y7 =>
  some ((y7.1.1, y7.1.2.1, y7.1.2.2.1, y7.1.2.2.2.1, y7.1.2.2.2.2), y7.2)

theorem f65_ok {a0 : Int × Int × List Nat × List Nat × List Nat} {a1 : List Nat × List Nat × List Nat} {r : (Int × Int × List Nat × List Nat × List Nat) × Bool} (hr : impl_Model_told a0 a1 = some r) : CallOK Try.prog 65 [.imm (.st (.pair tI (.pair tI (.pair tLF (.pair tLF tLF))))) a0, .imm (.st (.pair tLF (.pair tLF tLF))) a1] [⟨true, (.st (.pair tI (.pair tI (.pair tLF (.pair tLF tLF))))), r.1⟩, ⟨false, .bool, r.2⟩] [] := by
  unfold impl_Model_told at hr
  refine CallOK.of_body (ts := [(true, (.st (.pair tI (.pair tI (.pair tLF (.pair tLF tLF)))))), (false, .bool)]) Try.func65 rfl (by kernel_rfl) (Nat.le_of_ble_eq_true (by kernel_rfl)) fun cx hP hN hO hF => ?_
  have hO : cx.own.map Prod.fst = [] := hO
  have hX := CxIs.mk hP hN hO
  have hF := hF rfl
  show HT cx ⟨[(0, .agg [iC a0.1, iC a0.2.1, lC a0.2.2.1, lC a0.2.2.2.1, lC a0.2.2.2.2]), (1, .agg [lC a1.1, lC a1.2.1, lC a1.2.2])], [], 0⟩ _ _
  refine HT.rg2 (oHs 4) ⟨[(2, pV 0 0), (3, pV 1 0), (4, pV 2 0)], [(2, .box [iC (0 : Int), iC (0 : Int), .nilS, .nilS, .nilS]), (1, .box [lC a1.1, lC a1.2.1, lC a1.2.2]), (0, .box [iC a0.1, iC a0.2.1, lC a0.2.2.1, lC a0.2.2.2.1, lC a0.2.2.2.2])], 3⟩ hX (by kernel_rfl) allNil ?_
  obtain ⟨y1, hc2, hr⟩ := of_bind hr
  obtain ⟨y3, hc4, hr⟩ := of_bind hr
  obtain ⟨y5, hc6, hr⟩ := of_bind hr
  obtain ⟨y7, hc8, hr⟩ := of_bind hr
  refine HT.dr2 29 [⟨oH, []⟩, ⟨oH, [0]⟩, ⟨oH, []⟩, ⟨oH, [2]⟩, ⟨oH, []⟩, ⟨oH, [4]⟩, ⟨oH, []⟩, ⟨oH, [6]⟩, ⟨oH, []⟩, ⟨oH, [8]⟩, ⟨⟨none, .call [.imm tLF, .imm tLF, .imm tI] [⟨true, tLF, y1⟩] []⟩, [4, 5, 6, 7, 8, 9]⟩, ⟨oH, []⟩, ⟨oH, [11]⟩, ⟨oH, []⟩, ⟨oH, [13]⟩, ⟨oH, []⟩, ⟨oH, [15]⟩, ⟨⟨none, .call [.imm tLF, .imm tLF, .imm tI] [⟨true, tLF, y3⟩] []⟩, [4, 5, 6, 7, 8, 9, 10, 11, 12, 13, 14, 15, 16]⟩, ⟨oH, []⟩, ⟨oH, [18]⟩, ⟨oH, []⟩, ⟨oH, [20]⟩, ⟨oH, []⟩, ⟨oH, [22]⟩, ⟨⟨none, .call [.imm tLF, .imm tLF, .imm tI] [⟨true, tLF, y5⟩] []⟩, [4, 5, 6, 7, 8, 9, 10, 11, 12, 13, 14, 15, 16, 17, 18, 19, 20, 21, 22, 23]⟩, ⟨oH, [0, 1, 2, 3, 4, 5, 6, 7, 8, 9, 10, 11, 12, 13, 14, 15, 16, 17, 18, 19, 20, 21, 22, 23, 24]⟩, ⟨⟨none, .call [.mv (.st (.pair tI (.pair tI (.pair tLF (.pair tLF tLF)))))] [⟨true, (.st (.pair tI (.pair tI (.pair tLF (.pair tLF tLF))))), y7.1⟩, ⟨false, .bool, y7.2⟩] []⟩, [0, 1, 2, 3, 4, 5, 6, 7, 8, 9, 10, 11, 12, 13, 14, 15, 16, 17, 18, 19, 20, 21, 22, 23, 24, 25]⟩, ⟨oH, [0, 1, 2, 3, 4, 5, 6, 7, 8, 9, 10, 11, 12, 13, 14, 15, 16, 17, 18, 19, 20, 21, 22, 23, 24, 25, 26]⟩, ⟨oH, [0, 1, 2, 3, 4, 5, 6, 7, 8, 9, 10, 11, 12, 13, 14, 15, 16, 17, 18, 19, 20, 21, 22, 23, 24, 25, 26]⟩] [[0, 1, 2, 3, 4, 5, 6, 7, 8, 9, 10, 11, 12, 13, 14, 15, 16, 17, 18, 19, 20, 21, 22, 23, 24, 25, 26, 27, 28], [0, 1, 2, 3, 4, 5, 6, 7, 8, 9, 10, 11, 12, 13, 14, 15, 16, 17, 18, 19, 20, 21, 22, 23, 24, 25, 26, 27, 28, 29]] (oHs 2) ⟨[(4, pV 2 0), (5, bV y7.2)], [(2, .box [iC y7.1.1, iC y7.1.2.1, .all 6, .all 7, .all 8]), (6, .seq tF y7.1.2.2.1), (7, .seq tF y7.1.2.2.2.1), (8, .seq tF y7.1.2.2.2.2)], 9⟩ hX (by kernel_rfl) (by kernel_rfl) (allCons (f93_ok hc2) (allCons (f93_ok hc4) (allCons (f93_ok hc6) (allCons (f92_mv0_ok hc8) allNil)))) ?_
  have hr := of_some hr
  subst hr
  exact HT.ret ⟨[.agg [iC y7.1.1, iC y7.1.2.1, .all 6, .all 7, .all 8], bV y7.2], [6, 7, 8], [], by kernel_rfl, by kernel_rfl, rfl, by kernel_rfl, by kernel_rfl, trivial⟩

noncomputable def impl_Model_show (a0 : Int × Int × List Nat × List Nat × List Nat) (a1 : Int) (a2 : Int) : Option (Nat) :=
  guardP ((0 : Int) ≤ (wadd .i64 (wmul .i64 a1 a0.2.1) a2) ∧ (wadd .i64 (wmul .i64 a1 a0.2.1) a2) < lenI a0.2.2.2.2) (
    some (List.getD a0.2.2.2.2 (Int.toNat (wadd .i64 (wmul .i64 a1 a0.2.1) a2)) (0 : Nat)))

theorem f83_ok {a0 : Int × Int × List Nat × List Nat × List Nat} {a1 : Int} {a2 : Int} {r : Nat} (hr : impl_Model_show a0 a1 a2 = some r) : CallOK Try.prog 83 [.imm (.st (.pair tI (.pair tI (.pair tLF (.pair tLF tLF))))) a0, .imm tI a1, .imm tI a2] [⟨false, tF, r⟩] [] := by
  unfold impl_Model_show at hr
  refine CallOK.of_body (ts := [(false, tF)]) Try.func83 rfl (by kernel_rfl) (Nat.le_of_ble_eq_true (by kernel_rfl)) fun cx hP hN hO hF => ?_
  have hO : cx.own.map Prod.fst = [] := hO
  have hX := CxIs.mk hP hN hO
  have hF := hF rfl
  show HT cx ⟨[(0, .agg [iC a0.1, iC a0.2.1, lC a0.2.2.1, lC a0.2.2.2.1, lC a0.2.2.2.2]), (1, iV a1), (2, iV a2)], [], 0⟩ _ _
  refine HT.rg2 (oHs 2) ⟨[(1, iV a1), (2, iV a2), (3, pV 0 0)], [(0, .box [iC a0.1, iC a0.2.1, lC a0.2.2.1, lC a0.2.2.2.1, lC a0.2.2.2.2])], 1⟩ hX (by kernel_rfl) allNil ?_
  obtain ⟨hg1, hr⟩ := of_guard hr
  refine HT.rg2 (oHs 11) ⟨[(6, fV (List.getD a0.2.2.2.2 (Int.toNat (wadd .i64 (wmul .i64 a1 a0.2.1) a2)) (0 : Nat)))], [], 1⟩ hX (by kernel_rfl) (allCons hg1 allNil) ?_
  have hr := of_some hr
  subst hr
  exact HT.ret ⟨[fV (List.getD a0.2.2.2.2 (Int.toNat (wadd .i64 (wmul .i64 a1 a0.2.1) a2)) (0 : Nat))], [], [], by kernel_rfl, by kernel_rfl, rfl, by kernel_rfl, by kernel_rfl, trivial⟩

noncomputable def impl_Model_step (a0 : Int × Int × List Nat × List Nat × List Nat) (a1 : Int) (a2 : Int) : Option (Nat) :=
  guardP ((0 : Int) ≤ (wadd .i64 (wmul .i64 a1 a0.1) a2) ∧ (wadd .i64 (wmul .i64 a1 a0.1) a2) < lenI a0.2.2.2.1) (
    some (List.getD a0.2.2.2.1 (Int.toNat (wadd .i64 (wmul .i64 a1 a0.1) a2)) (0 : Nat)))

theorem f84_ok {a0 : Int × Int × List Nat × List Nat × List Nat} {a1 : Int} {a2 : Int} {r : Nat} (hr : impl_Model_step a0 a1 a2 = some r) : CallOK Try.prog 84 [.imm (.st (.pair tI (.pair tI (.pair tLF (.pair tLF tLF))))) a0, .imm tI a1, .imm tI a2] [⟨false, tF, r⟩] [] := by
  unfold impl_Model_step at hr
  refine CallOK.of_body (ts := [(false, tF)]) Try.func84 rfl (by kernel_rfl) (Nat.le_of_ble_eq_true (by kernel_rfl)) fun cx hP hN hO hF => ?_
  have hO : cx.own.map Prod.fst = [] := hO
  have hX := CxIs.mk hP hN hO
  have hF := hF rfl
  show HT cx ⟨[(0, .agg [iC a0.1, iC a0.2.1, lC a0.2.2.1, lC a0.2.2.2.1, lC a0.2.2.2.2]), (1, iV a1), (2, iV a2)], [], 0⟩ _ _
  refine HT.rg2 (oHs 2) ⟨[(1, iV a1), (2, iV a2), (3, pV 0 0)], [(0, .box [iC a0.1, iC a0.2.1, lC a0.2.2.1, lC a0.2.2.2.1, lC a0.2.2.2.2])], 1⟩ hX (by kernel_rfl) allNil ?_
  obtain ⟨hg1, hr⟩ := of_guard hr
  refine HT.rg2 (oHs 11) ⟨[(6, fV (List.getD a0.2.2.2.1 (Int.toNat (wadd .i64 (wmul .i64 a1 a0.1) a2)) (0 : Nat)))], [], 1⟩ hX (by kernel_rfl) (allCons hg1 allNil) ?_
  have hr := of_some hr
  subst hr
  exact HT.ret ⟨[fV (List.getD a0.2.2.2.1 (Int.toNat (wadd .i64 (wmul .i64 a1 a0.1) a2)) (0 : Nat))], [], [], by kernel_rfl, by kernel_rfl, rfl, by kernel_rfl, by kernel_rfl, trivial⟩

noncomputable def impl_Model_nextRow_B1 (a0 : Int × Int × List Nat × List Nat × List Nat) (a1 : List Nat) (a2 : Int) (s2 : Int × List Nat) (s9 : Int × List Nat) : Option ((Int × List Nat) ⊕ (List Nat)) :=
  bif (decide (s9.1 < a0.1)) then
    guardP ((0 : Int) ≤ s2.1 ∧ s2.1 < lenI s9.2) (
      guardP ((0 : Int) ≤ s9.1 ∧ s9.1 < lenI a1) (
        (impl_Model_show (a0.1, a0.2.1, a0.2.2.1, a0.2.2.2.1, a0.2.2.2.2) s9.1 a2).bind fun y18 =>
        (impl_Model_step (a0.1, a0.2.1, a0.2.2.1, a0.2.2.2.1, a0.2.2.2.2) s9.1 s2.1).bind fun y20 =>
        some (.inl ((wadd .i64 s9.1 (1 : Int)), (List.set s9.2 (Int.toNat s2.1) (fop .add .f32 (List.getD s9.2 (Int.toNat s2.1) (0 : Nat)) (fop .mul .f32 (fop .mul .f32 (List.getD a1 (Int.toNat s9.1) (0 : Nat)) y18) y20)))))))
  else
    some (.inr s9.2)

noncomputable def impl_Model_nextRow_B2 (a0 : Int × Int × List Nat × List Nat × List Nat) (a1 : List Nat) (a2 : Int) (s2 : Int × List Nat) : Option ((Int × List Nat) ⊕ (List Nat)) :=
  bif (decide (s2.1 < a0.1)) then
    (rounds (impl_Model_nextRow_B1 a0 a1 a2 s2) ((0 : Int), s2.2)).bind fun r11 =>
    some (.inl ((wadd .i64 s2.1 (1 : Int)), r11))
  else
    some (.inr s2.2)

noncomputable def impl_Model_nextRow (a0 : Int × Int × List Nat × List Nat × List Nat) (a1 : List Nat) (a2 : Int) : Option (List Nat) :=
  guardP ((0 : Int) ≤ a0.1 ∧ a0.1 ≤ 4294967296) (
    (rounds (impl_Model_nextRow_B2 a0 a1 a2) ((0 : Int), (List.replicate (Int.toNat a0.1) (0 : Nat)))).bind fun r4 =>
    some r4)

theorem f88_ok {a0 : Int × Int × List Nat × List Nat × List Nat} {a1 : List Nat} {a2 : Int} {r : List Nat} (hr : impl_Model_nextRow a0 a1 a2 = some r) : CallOK Try.prog 88 [.imm (.st (.pair tI (.pair tI (.pair tLF (.pair tLF tLF))))) a0, .imm tLF a1, .imm tI a2] [⟨true, tLF, r⟩] [] := by
  unfold impl_Model_nextRow at hr
  refine CallOK.of_body (ts := [(true, tLF)]) Try.func88 rfl (by kernel_rfl) (Nat.le_of_ble_eq_true (by kernel_rfl)) fun cx hP hN hO hF => ?_
  have hO : cx.own.map Prod.fst = [] := hO
  have hX := CxIs.mk hP hN hO
  have hF := hF rfl
  show HT cx ⟨[(0, .agg [iC a0.1, iC a0.2.1, lC a0.2.2.1, lC a0.2.2.2.1, lC a0.2.2.2.2]), (1, lV a1), (2, iV a2)], [], 0⟩ _ _
  refine HT.rg2 (oHs 2) ⟨[(1, lV a1), (2, iV a2), (3, pV 0 0)], [(0, .box [iC a0.1, iC a0.2.1, lC a0.2.2.1, lC a0.2.2.2.1, lC a0.2.2.2.2])], 1⟩ hX (by kernel_rfl) allNil ?_
  obtain ⟨hg1, hr⟩ := of_guard hr
  refine HT.rg2 [oH, oH, ⟨none, .ty tF⟩, oH] ⟨[(1, lV a1), (2, iV a2), (3, pV 0 0), (7, aV 1)], [(1, .seq tF (List.replicate (Int.toNat a0.1) (0 : Nat))), (0, .box [iC a0.1, iC a0.2.1, lC a0.2.2.1, lC a0.2.2.2.1, lC a0.2.2.2.2])], 2⟩ hX (by kernel_rfl) (allCons (show (0 : Int) ≤ a0.1 ∧ a0.1 ≤ a0.1 ∧ a0.1 ≤ 4294967296 from ⟨hg1.1, Int.le_refl _, hg1.2⟩) allNil) ?_
  refine HT.seq ?_
  refine HT.rg2 (oHs 3) ⟨[(1, lV a1), (2, iV a2), (3, pV 0 0), (7, aV 1), (14, iV a0.1), (15, iV (0 : Int))], [(1, .seq tF (List.replicate (Int.toNat a0.1) (0 : Nat))), (0, .box [iC a0.1, iC a0.2.1, lC a0.2.2.1, lC a0.2.2.2.1, lC a0.2.2.2.2])], 2⟩ hX (by kernel_rfl) allNil ?_
  refine HT.block ?_
  obtain ⟨r3, hL23, hr⟩ := of_bind hr
  refine HT.loopL (fun (s2 : Int × List Nat) => ⟨[(1, lV a1), (2, iV a2), (3, pV 0 0), (7, aV 1), (14, iV a0.1), (15, iV s2.1)], [(0, .box [iC a0.1, iC a0.2.1, lC a0.2.2.1, lC a0.2.2.2.1, lC a0.2.2.2.2]), (1, .seq tF s2.2)], 2⟩) (fun (r4 : List Nat) => (.exit 0, ⟨[(7, aV 0)], [(0, .seq tF r4)], 1⟩)) (Le.re [(0, 0), (1, 1)] [] hX (by kernel_rfl)) hL23 ?_ (fun s2 x5 hx6 hk7 => ?_)
  · refine (qBlockX (qThen ?_))
    refine HT.rg2 (oHs 2) ⟨[(6, aV 0)], [(0, .seq tF r3)], 1⟩ hX (by kernel_rfl) allNil ?_
    have hr := of_some hr
    subst hr
    exact HT.ret ⟨[aV 0], [0], [], by kernel_rfl, by kernel_rfl, rfl, by kernel_rfl, by kernel_rfl, trivial⟩
  · refine HT.rg2 [oH] ⟨[(1, lV a1), (2, iV a2), (3, pV 0 0), (7, aV 1), (14, iV a0.1), (15, iV s2.1), (16, bV (decide (s2.1 < a0.1)))], [(0, .box [iC a0.1, iC a0.2.1, lC a0.2.2.1, lC a0.2.2.2.1, lC a0.2.2.2.2]), (1, .seq tF s2.2)], 2⟩ hX (by kernel_rfl) allNil ?_
    refine HT.seq ?_
    rcases of_bif hx6 with ⟨hb8, hx6⟩ | ⟨hb8, hx6⟩
    · refine HT.cond1 rfl hb8 ?_
      refine HT.skip (qThen ?_)
      refine HT.seq ?_
      refine HT.block ?_
      refine HT.rg2 (oHs 2) ⟨[(1, lV a1), (2, iV a2), (3, pV 0 0), (7, aV 1), (8, iV s2.1), (14, iV a0.1), (15, iV s2.1)], [(0, .box [iC a0.1, iC a0.2.1, lC a0.2.2.1, lC a0.2.2.2.1, lC a0.2.2.2.2]), (1, .seq tF s2.2)], 2⟩ hX (by kernel_rfl) allNil ?_
      refine HT.rg2 (oHs 3) ⟨[(1, lV a1), (2, iV a2), (3, pV 0 0), (7, aV 1), (8, iV s2.1), (14, iV a0.1), (15, iV s2.1), (19, iV a0.1), (20, iV (0 : Int))], [(0, .box [iC a0.1, iC a0.2.1, lC a0.2.2.1, lC a0.2.2.2.1, lC a0.2.2.2.2]), (1, .seq tF s2.2)], 2⟩ hX (by kernel_rfl) allNil ?_
      refine HT.block ?_
      obtain ⟨r10, hL22, hx6⟩ := of_bind hx6
      refine HT.loopL (fun (s9 : Int × List Nat) => ⟨[(1, lV a1), (2, iV a2), (3, pV 0 0), (7, aV 1), (8, iV s2.1), (14, iV a0.1), (15, iV s2.1), (19, iV a0.1), (20, iV s9.1)], [(0, .box [iC a0.1, iC a0.2.1, lC a0.2.2.1, lC a0.2.2.2.1, lC a0.2.2.2.2]), (1, .seq tF s9.2)], 2⟩) (fun (r11 : List Nat) => (.exit 2, ⟨[(1, lV a1), (2, iV a2), (3, pV 0 0), (7, aV 1), (14, iV a0.1), (15, iV s2.1)], [(0, .box [iC a0.1, iC a0.2.1, lC a0.2.2.1, lC a0.2.2.2.1, lC a0.2.2.2.2]), (1, .seq tF r11)], 2⟩)) (Le.re [(0, 0), (1, 1)] [] hX (by kernel_rfl)) hL22 ?_ (fun s9 x12 hx13 hk14 => ?_)
      · refine (qBlockX (qBlock (qThen ?_)))
        have hx6 := of_some hx6
        subst hx6
        exact HT.rgK (oHs 2) [(0, 0), (1, 1)] [] hX (by kernel_rfl) allNil (fun _ h => (qLoopN ⟨((wadd .i64 s2.1 (1 : Int)), r10), rfl, h⟩))
      · refine HT.rg2 [oH] ⟨[(1, lV a1), (2, iV a2), (3, pV 0 0), (7, aV 1), (8, iV s2.1), (14, iV a0.1), (15, iV s2.1), (19, iV a0.1), (20, iV s9.1), (21, bV (decide (s9.1 < a0.1)))], [(0, .box [iC a0.1, iC a0.2.1, lC a0.2.2.1, lC a0.2.2.2.1, lC a0.2.2.2.2]), (1, .seq tF s9.2)], 2⟩ hX (by kernel_rfl) allNil ?_
        refine HT.seq ?_
        rcases of_bif hx13 with ⟨hb15, hx13⟩ | ⟨hb15, hx13⟩
        · refine HT.cond1 rfl hb15 ?_
          refine HT.skip (qThen ?_)
          refine HT.seq ?_
          refine HT.block ?_
          refine HT.rg2 (oHs 2) ⟨[(1, lV a1), (2, iV a2), (3, pV 0 0), (7, aV 1), (8, iV s2.1), (9, iV s9.1), (14, iV a0.1), (15, iV s2.1), (19, iV a0.1), (20, iV s9.1)], [(0, .box [iC a0.1, iC a0.2.1, lC a0.2.2.1, lC a0.2.2.2.1, lC a0.2.2.2.2]), (1, .seq tF s9.2)], 2⟩ hX (by kernel_rfl) allNil ?_
          obtain ⟨hg16, hx13⟩ := of_guard hx13
          obtain ⟨hg17, hx13⟩ := of_guard hx13
          obtain ⟨y18, hc19, hx13⟩ := of_bind hx13
          obtain ⟨y20, hc21, hx13⟩ := of_bind hx13
          refine HT.drL 21 [⟨oH, []⟩, ⟨oH, []⟩, ⟨oH, []⟩, ⟨oH, []⟩, ⟨oH, [2, 3]⟩, ⟨oH, [2, 3, 4]⟩, ⟨oH, []⟩, ⟨oH, []⟩, ⟨oH, [6, 7]⟩, ⟨oH, [6, 7, 8]⟩, ⟨oH, []⟩, ⟨oH, []⟩, ⟨oH, []⟩, ⟨⟨none, .call [.imm (.st (.pair tI (.pair tI (.pair tLF (.pair tLF tLF))))), .imm tI, .imm tI] [⟨false, tF, y18⟩] []⟩, [10, 11, 12]⟩, ⟨oH, [6, 7, 8, 9, 10, 11, 12, 13]⟩, ⟨oH, []⟩, ⟨oH, []⟩, ⟨oH, []⟩, ⟨⟨none, .call [.imm (.st (.pair tI (.pair tI (.pair tLF (.pair tLF tLF))))), .imm tI, .imm tI] [⟨false, tF, y20⟩] []⟩, [10, 11, 12, 13, 15, 16, 17]⟩, ⟨oH, [6, 7, 8, 9, 10, 11, 12, 13, 14, 15, 16, 17, 18]⟩, ⟨oH, [2, 3, 4, 5, 6, 7, 8, 9, 10, 11, 12, 13, 14, 15, 16, 17, 18, 19]⟩] [[0, 1, 2, 3, 4, 5, 6, 7, 8, 9, 10, 11, 12, 13, 14, 15, 16, 17, 18, 19, 20], [0, 1, 2, 3, 4, 5, 6, 7, 8, 9, 10, 11, 12, 13, 14, 15, 16, 17, 18, 19, 20, 21]] (oHs 2) ⟨[(1, lV a1), (2, iV a2), (3, pV 0 0), (7, aV 1), (8, iV s2.1), (14, iV a0.1), (15, iV s2.1), (19, iV a0.1), (20, iV s9.1)], [(1, .seq tF (List.set s9.2 (Int.toNat s2.1) (fop .add .f32 (List.getD s9.2 (Int.toNat s2.1) (0 : Nat)) (fop .mul .f32 (fop .mul .f32 (List.getD a1 (Int.toNat s9.1) (0 : Nat)) y18) y20)))), (0, .box [iC a0.1, iC a0.2.1, lC a0.2.2.1, lC a0.2.2.2.1, lC a0.2.2.2.2])], 2⟩ hX (by kernel_rfl) (by kernel_rfl) (allCons hg16 (allCons (natLt hg16) (allCons hg17 (allCons (f83_ok hc19) (allCons (f84_ok hc21) (allCons hg16 (allCons (natLt hg16) allNil))))))) (qBlock (qThen ?_))
          have hx13 := of_some hx13
          subst hx13
          exact HT.rgK (oHs 2) [(0, 0), (1, 1)] [] hX (by kernel_rfl) allNil (fun _ h => (qLoopN ⟨((wadd .i64 s9.1 (1 : Int)), (List.set s9.2 (Int.toNat s2.1) (fop .add .f32 (List.getD s9.2 (Int.toNat s2.1) (0 : Nat)) (fop .mul .f32 (fop .mul .f32 (List.getD a1 (Int.toNat s9.1) (0 : Nat)) y18) y20)))), rfl, h⟩))
        · refine HT.cond0 rfl hb15 ?_
          have hx13 := of_some hx13
          subst hx13
          exact HT.exitL (Le.re [(0, 0), (1, 1)] [] hX (by kernel_rfl)) (qThenE (qLoopE (hk14 s9.2 rfl)))
    · refine HT.cond0 rfl hb8 ?_
      have hx6 := of_some hx6
      subst hx6
      exact HT.exitL (Le.re [(1, 0)] [] hX (by kernel_rfl)) (qThenE (qLoopE (hk7 s2.2 rfl)))

noncomputable def impl_Model_forward_B1 (a0 : Int × Int × List Nat × List Nat × List Nat) (a1 : List Int) (s3 : Int × List (List Nat)) : Option ((Int × List (List Nat)) ⊕ (List (List Nat))) :=
  bif (decide (s3.1 < (lenI a1))) then
    guardP ((0 : Int) ≤ s3.1 ∧ s3.1 < lenI a1) (
      guardP ((0 : Int) ≤ s3.1 ∧ s3.1 < lenI s3.2) (
        (impl_Model_nextRow (a0.1, a0.2.1, a0.2.2.1, a0.2.2.2.1, a0.2.2.2.2) (List.getD s3.2 (Int.toNat s3.1) ([] : List Nat)) (List.getD a1 (Int.toNat s3.1) (0 : Int))).bind fun y12 =>
        guardP (List.length s3.2 + List.length ([y12] : List (List Nat)) ≤ appMax) (
          some (.inl ((wadd .i64 s3.1 (1 : Int)), (s3.2 ++ ([y12] : List (List Nat))))))))
  else
    some (.inr s3.2)

noncomputable def impl_Model_forward (a0 : Int × Int × List Nat × List Nat × List Nat) (a1 : List Int) : Option (List (List Nat)) :=
  (slices_Clone a0.2.2.1).bind fun y1 =>
  (rounds (impl_Model_forward_B1 a0 a1) ((0 : Int), ([y1] : List (List Nat)))).bind fun r5 =>
  some r5

theorem f56_ok {a0 : Int × Int × List Nat × List Nat × List Nat} {a1 : List Int} {r : List (List Nat)} (hr : impl_Model_forward a0 a1 = some r) : CallOK Try.prog 56 [.imm (.st (.pair tI (.pair tI (.pair tLF (.pair tLF tLF))))) a0, .imm tLI a1] [⟨false, (.sl tLF), r⟩] [] := by
  unfold impl_Model_forward at hr
  refine CallOK.of_body (ts := [(false, (.sl tLF))]) Try.func56 rfl (by kernel_rfl) (Nat.le_of_ble_eq_true (by kernel_rfl)) fun cx hP hN hO hF => ?_
  have hO : cx.own.map Prod.fst = [] := hO
  have hX := CxIs.mk hP hN hO
  have hF := hF rfl
  show HT cx ⟨[(0, .agg [iC a0.1, iC a0.2.1, lC a0.2.2.1, lC a0.2.2.2.1, lC a0.2.2.2.2]), (1, nV a1)], [], 0⟩ _ _
  refine HT.rg2 (oHs 2) ⟨[(1, nV a1), (2, pV 0 0)], [(0, .box [iC a0.1, iC a0.2.1, lC a0.2.2.1, lC a0.2.2.2.1, lC a0.2.2.2.2])], 1⟩ hX (by kernel_rfl) allNil ?_
  obtain ⟨y1, hc2, hr⟩ := of_bind hr
  refine HT.rg2 [oH, oH, ⟨none, .call [.imm tLF] [⟨false, tLF, y1⟩] []⟩, ⟨none, .ty tLF⟩, oH] ⟨[(1, nV a1), (2, pV 0 0), (5, aV 1)], [(1, .seq tLF ([y1] : List (List Nat))), (0, .box [iC a0.1, iC a0.2.1, lC a0.2.2.1, lC a0.2.2.2.1, lC a0.2.2.2.2])], 2⟩ hX (by kernel_rfl) (allCons (CallOK.frz [true] rfl (f66_ok hc2)) allNil) ?_
  refine HT.seq ?_
  refine HT.rg2 (oHs 3) ⟨[(2, pV 0 0), (5, aV 1), (12, nV a1), (13, iV (lenI a1)), (14, iV (0 : Int))], [(1, .seq tLF ([y1] : List (List Nat))), (0, .box [iC a0.1, iC a0.2.1, lC a0.2.2.1, lC a0.2.2.2.1, lC a0.2.2.2.2])], 2⟩ hX (by kernel_rfl) allNil ?_
  refine HT.block ?_
  obtain ⟨r4, hL15, hr⟩ := of_bind hr
  refine HT.loopL (fun (s3 : Int × List (List Nat)) => ⟨[(2, pV 0 0), (5, aV 1), (12, nV a1), (13, iV (lenI a1)), (14, iV s3.1)], [(0, .box [iC a0.1, iC a0.2.1, lC a0.2.2.1, lC a0.2.2.2.1, lC a0.2.2.2.2]), (1, .seq tLF s3.2)], 2⟩) (fun (r5 : List (List Nat)) => (.exit 0, ⟨[(5, aV 0)], [(0, .seq tLF r5)], 1⟩)) (Le.re [(0, 0), (1, 1)] [] hX (by kernel_rfl)) hL15 ?_ (fun s3 x6 hx7 hk8 => ?_)
  · refine (qBlockX (qThen ?_))
    refine HT.rg2 (oHs 2) ⟨[(4, aV 0)], [(0, .seq tLF r4)], 1⟩ hX (by kernel_rfl) allNil ?_
    have hr := of_some hr
    subst hr
    refine (Le.rz [] [] (st' := ⟨[(4, .one (.dat (.sl tLF) r4))], [], 1⟩) hX hF (by kernel_rfl)).ht ?_
    exact HT.ret ⟨[.one (.dat (.sl tLF) r4)], [], [], by kernel_rfl, by kernel_rfl, rfl, by kernel_rfl, by kernel_rfl, trivial⟩
  · refine HT.rg2 [oH] ⟨[(2, pV 0 0), (5, aV 1), (12, nV a1), (13, iV (lenI a1)), (14, iV s3.1), (15, bV (decide (s3.1 < (lenI a1))))], [(0, .box [iC a0.1, iC a0.2.1, lC a0.2.2.1, lC a0.2.2.2.1, lC a0.2.2.2.2]), (1, .seq tLF s3.2)], 2⟩ hX (by kernel_rfl) allNil ?_
    refine HT.seq ?_
    rcases of_bif hx7 with ⟨hb9, hx7⟩ | ⟨hb9, hx7⟩
    · refine HT.cond1 rfl hb9 ?_
      refine HT.skip (qThen ?_)
      refine HT.seq ?_
      refine HT.block ?_
      obtain ⟨hg10, hx7⟩ := of_guard hx7
      refine HT.rg2 (oHs 5) ⟨[(2, pV 0 0), (5, aV 1), (6, iV s3.1), (7, iV (List.getD a1 (Int.toNat s3.1) (0 : Int))), (12, nV a1), (13, iV (lenI a1)), (14, iV s3.1)], [(0, .box [iC a0.1, iC a0.2.1, lC a0.2.2.1, lC a0.2.2.2.1, lC a0.2.2.2.2]), (1, .seq tLF s3.2)], 2⟩ hX (by kernel_rfl) (allCons hg10 allNil) ?_
      obtain ⟨hg11, hx7⟩ := of_guard hx7
      obtain ⟨y12, hc13, hx7⟩ := of_bind hx7
      obtain ⟨hg14, hx7⟩ := of_guard hx7
      refine HT.drL 9 [⟨oH, []⟩, ⟨oH, []⟩, ⟨oH, []⟩, ⟨oH, []⟩, ⟨oH, [2, 3]⟩, ⟨oH, [2, 3, 4]⟩, ⟨oH, []⟩, ⟨⟨none, .call [.imm (.st (.pair tI (.pair tI (.pair tLF (.pair tLF tLF))))), .imm tLF, .imm tI] [⟨false, tLF, y12⟩] []⟩, [1, 2, 3, 4, 5, 6]⟩, ⟨⟨none, .ty tLF⟩, [1, 2, 3, 4, 5, 6, 7]⟩] [[0, 1, 2, 3, 4, 5, 6, 7, 8], [0, 1, 2, 3, 4, 5, 6, 7, 8, 9]] [⟨none, .ty tLF⟩, oH] ⟨[(2, pV 0 0), (5, aV 3), (12, nV a1), (13, iV (lenI a1)), (14, iV s3.1)], [(3, .seq tLF (s3.2 ++ ([y12] : List (List Nat)))), (0, .box [iC a0.1, iC a0.2.1, lC a0.2.2.1, lC a0.2.2.2.1, lC a0.2.2.2.2])], 4⟩ hX (by kernel_rfl) (by kernel_rfl) (allCons hg11 (allCons (natLt hg11) (allCons (CallOK.frz [true] rfl (f88_ok hc13)) (allCons hg14 allNil)))) (qBlock (qThen ?_))
      have hx7 := of_some hx7
      subst hx7
      exact HT.rgK (oHs 2) [(0, 0), (3, 1)] [] hX (by kernel_rfl) allNil (fun _ h => (qLoopN ⟨((wadd .i64 s3.1 (1 : Int)), (s3.2 ++ ([y12] : List (List Nat)))), rfl, h⟩))
    · refine HT.cond0 rfl hb9 ?_
      have hx7 := of_some hx7
      subst hx7
      exact HT.exitL (Le.re [(1, 0)] [] hX (by kernel_rfl)) (qThenE (qLoopE (hk8 s3.2 rfl)))

noncomputable def math_bits_Mul64 (a0 : Int) (a1 : Int) : Option (Int × Int) :=
  (some (IntKind.wrap .u64 (BitVec.ofInt (IntKind.bits .u64) a0 &&& BitVec.ofInt (IntKind.bits .u64) (4294967295 : Int)).toNat)).bind fun q1 =>
  (some (IntKind.wrap .u64 (BitVec.ofInt (IntKind.bits .u64) a1 &&& BitVec.ofInt (IntKind.bits .u64) (4294967295 : Int)).toNat)).bind fun q3 =>
  (some (wadd .u64 (wmul .u64 (Int.fdiv a0 (2 ^ (min (Int.toNat (32 : Int)) (IntKind.bits .u64)))) q3) (Int.fdiv (wmul .u64 q1 q3) (2 ^ (min (Int.toNat (32 : Int)) (IntKind.bits .u64)))))).bind fun q5 =>
  (some (IntKind.wrap .u64 (BitVec.ofInt (IntKind.bits .u64) q5 &&& BitVec.ofInt (IntKind.bits .u64) (4294967295 : Int)).toNat)).bind fun q7 =>
  (some (wadd .u64 q7 (wmul .u64 q1 (Int.fdiv a1 (2 ^ (min (Int.toNat (32 : Int)) (IntKind.bits .u64))))))).bind fun q9 =>
  (some (wadd .u64 (wadd .u64 (wmul .u64 (Int.fdiv a0 (2 ^ (min (Int.toNat (32 : Int)) (IntKind.bits .u64)))) (Int.fdiv a1 (2 ^ (min (Int.toNat (32 : Int)) (IntKind.bits .u64))))) (Int.fdiv q5 (2 ^ (min (Int.toNat (32 : Int)) (IntKind.bits .u64))))) (Int.fdiv q9 (2 ^ (min (Int.toNat (32 : Int)) (IntKind.bits .u64)))))).bind fun q11 =>
  some (q11, (wmul .u64 a0 a1))

theorem f130_ok {a0 : Int} {a1 : Int} {r : Int × Int} (hr : math_bits_Mul64 a0 a1 = some r) : CallOK Try.prog 130 [.imm (.int .u64) a0, .imm (.int .u64) a1] [⟨false, (.int .u64), r.1⟩, ⟨false, (.int .u64), r.2⟩] [] := by
  unfold math_bits_Mul64 at hr
  refine CallOK.of_body (ts := [(false, (.int .u64)), (false, (.int .u64))]) Try.func130 rfl (by kernel_rfl) (Nat.le_of_ble_eq_true (by kernel_rfl)) fun cx hP hN hO hF => ?_
  have hO : cx.own.map Prod.fst = [] := hO
  have hX := CxIs.mk hP hN hO
  have hF := hF rfl
  show HT cx ⟨[(0, .one (.dat (.int .u64) a0)), (1, .one (.dat (.int .u64) a1))], [], 0⟩ _ _
  refine HT.rg2 (oHs 2) ⟨[(0, .one (.dat (.int .u64) a0)), (1, .one (.dat (.int .u64) a1))], [], 0⟩ hX (by kernel_rfl) allNil ?_
  refine HT.rg2 (oHs 3) ⟨[(0, .one (.dat (.int .u64) a0)), (1, .one (.dat (.int .u64) a1)), (6, .one (.dat (.int .u64) (IntKind.wrap .u64 (BitVec.ofInt (IntKind.bits .u64) a0 &&& BitVec.ofInt (IntKind.bits .u64) (4294967295 : Int)).toNat)))], [], 0⟩ hX (by kernel_rfl) allNil ?_
  obtain ⟨q1, hq2, hr⟩ := of_bind hr
  have hq2 := of_some2 hq2
  refine (Le.cv (s := ⟨[], [], [], false⟩) (own := []) (ps := [a0 = a0, a1 = a1, q1 = (IntKind.wrap .u64 (BitVec.ofInt (IntKind.bits .u64) a0 &&& BitVec.ofInt (IntKind.bits .u64) (4294967295 : Int)).toNat)]) (st' := ⟨[(0, .one (.dat (.int .u64) a0)), (1, .one (.dat (.int .u64) a1)), (6, .one (.dat (.int .u64) q1))], [], 0⟩) hO (fun h => by cases h) (by kernel_rfl) ⟨rfl, rfl, hq2, trivial⟩).ht ?_
  refine HT.rg2 (oHs 3) ⟨[(0, .one (.dat (.int .u64) a0)), (1, .one (.dat (.int .u64) a1)), (6, .one (.dat (.int .u64) q1)), (7, .one (.dat (.int .u64) (Int.fdiv a0 (2 ^ (min (Int.toNat (32 : Int)) (IntKind.bits .u64))))))], [], 0⟩ hX (by kernel_rfl) (allCons (show (0 : Int) ≤ (32 : Int) from by decide) allNil) ?_
  refine HT.rg2 (oHs 3) ⟨[(0, .one (.dat (.int .u64) a0)), (1, .one (.dat (.int .u64) a1)), (6, .one (.dat (.int .u64) q1)), (7, .one (.dat (.int .u64) (Int.fdiv a0 (2 ^ (min (Int.toNat (32 : Int)) (IntKind.bits .u64)))))), (8, .one (.dat (.int .u64) (IntKind.wrap .u64 (BitVec.ofInt (IntKind.bits .u64) a1 &&& BitVec.ofInt (IntKind.bits .u64) (4294967295 : Int)).toNat)))], [], 0⟩ hX (by kernel_rfl) allNil ?_
  obtain ⟨q3, hq4, hr⟩ := of_bind hr
  have hq4 := of_some2 hq4
  refine (Le.cv (s := ⟨[], [], [], false⟩) (own := []) (ps := [a0 = a0, a1 = a1, q1 = q1, (Int.fdiv a0 (2 ^ (min (Int.toNat (32 : Int)) (IntKind.bits .u64)))) = (Int.fdiv a0 (2 ^ (min (Int.toNat (32 : Int)) (IntKind.bits .u64)))), q3 = (IntKind.wrap .u64 (BitVec.ofInt (IntKind.bits .u64) a1 &&& BitVec.ofInt (IntKind.bits .u64) (4294967295 : Int)).toNat)]) (st' := ⟨[(0, .one (.dat (.int .u64) a0)), (1, .one (.dat (.int .u64) a1)), (6, .one (.dat (.int .u64) q1)), (7, .one (.dat (.int .u64) (Int.fdiv a0 (2 ^ (min (Int.toNat (32 : Int)) (IntKind.bits .u64)))))), (8, .one (.dat (.int .u64) q3))], [], 0⟩) hO (fun h => by cases h) (by kernel_rfl) ⟨rfl, rfl, rfl, rfl, hq4, trivial⟩).ht ?_
  refine HT.rg2 (oHs 3) ⟨[(0, .one (.dat (.int .u64) a0)), (1, .one (.dat (.int .u64) a1)), (6, .one (.dat (.int .u64) q1)), (7, .one (.dat (.int .u64) (Int.fdiv a0 (2 ^ (min (Int.toNat (32 : Int)) (IntKind.bits .u64)))))), (8, .one (.dat (.int .u64) q3)), (9, .one (.dat (.int .u64) (Int.fdiv a1 (2 ^ (min (Int.toNat (32 : Int)) (IntKind.bits .u64))))))], [], 0⟩ hX (by kernel_rfl) (allCons (show (0 : Int) ≤ (32 : Int) from by decide) allNil) ?_
  refine HT.rg2 (oHs 4) ⟨[(0, .one (.dat (.int .u64) a0)), (1, .one (.dat (.int .u64) a1)), (6, .one (.dat (.int .u64) q1)), (7, .one (.dat (.int .u64) (Int.fdiv a0 (2 ^ (min (Int.toNat (32 : Int)) (IntKind.bits .u64)))))), (8, .one (.dat (.int .u64) q3)), (9, .one (.dat (.int .u64) (Int.fdiv a1 (2 ^ (min (Int.toNat (32 : Int)) (IntKind.bits .u64)))))), (10, .one (.dat (.int .u64) (wmul .u64 q1 q3)))], [], 0⟩ hX (by kernel_rfl) allNil ?_
  refine HT.rg2 (oHs 7) ⟨[(0, .one (.dat (.int .u64) a0)), (1, .one (.dat (.int .u64) a1)), (6, .one (.dat (.int .u64) q1)), (7, .one (.dat (.int .u64) (Int.fdiv a0 (2 ^ (min (Int.toNat (32 : Int)) (IntKind.bits .u64)))))), (9, .one (.dat (.int .u64) (Int.fdiv a1 (2 ^ (min (Int.toNat (32 : Int)) (IntKind.bits .u64)))))), (11, .one (.dat (.int .u64) (wadd .u64 (wmul .u64 (Int.fdiv a0 (2 ^ (min (Int.toNat (32 : Int)) (IntKind.bits .u64)))) q3) (Int.fdiv (wmul .u64 q1 q3) (2 ^ (min (Int.toNat (32 : Int)) (IntKind.bits .u64)))))))], [], 0⟩ hX (by kernel_rfl) (allCons (show (0 : Int) ≤ (32 : Int) from by decide) allNil) ?_
  obtain ⟨q5, hq6, hr⟩ := of_bind hr
  have hq6 := of_some2 hq6
  refine (Le.cv (s := ⟨[], [], [], false⟩) (own := []) (ps := [a0 = a0, a1 = a1, q1 = q1, (Int.fdiv a0 (2 ^ (min (Int.toNat (32 : Int)) (IntKind.bits .u64)))) = (Int.fdiv a0 (2 ^ (min (Int.toNat (32 : Int)) (IntKind.bits .u64)))), (Int.fdiv a1 (2 ^ (min (Int.toNat (32 : Int)) (IntKind.bits .u64)))) = (Int.fdiv a1 (2 ^ (min (Int.toNat (32 : Int)) (IntKind.bits .u64)))), q5 = (wadd .u64 (wmul .u64 (Int.fdiv a0 (2 ^ (min (Int.toNat (32 : Int)) (IntKind.bits .u64)))) q3) (Int.fdiv (wmul .u64 q1 q3) (2 ^ (min (Int.toNat (32 : Int)) (IntKind.bits .u64)))))]) (st' := ⟨[(0, .one (.dat (.int .u64) a0)), (1, .one (.dat (.int .u64) a1)), (6, .one (.dat (.int .u64) q1)), (7, .one (.dat (.int .u64) (Int.fdiv a0 (2 ^ (min (Int.toNat (32 : Int)) (IntKind.bits .u64)))))), (9, .one (.dat (.int .u64) (Int.fdiv a1 (2 ^ (min (Int.toNat (32 : Int)) (IntKind.bits .u64)))))), (11, .one (.dat (.int .u64) q5))], [], 0⟩) hO (fun h => by cases h) (by kernel_rfl) ⟨rfl, rfl, rfl, rfl, rfl, hq6, trivial⟩).ht ?_
  refine HT.rg2 (oHs 3) ⟨[(0, .one (.dat (.int .u64) a0)), (1, .one (.dat (.int .u64) a1)), (6, .one (.dat (.int .u64) q1)), (7, .one (.dat (.int .u64) (Int.fdiv a0 (2 ^ (min (Int.toNat (32 : Int)) (IntKind.bits .u64)))))), (9, .one (.dat (.int .u64) (Int.fdiv a1 (2 ^ (min (Int.toNat (32 : Int)) (IntKind.bits .u64)))))), (11, .one (.dat (.int .u64) q5)), (12, .one (.dat (.int .u64) (IntKind.wrap .u64 (BitVec.ofInt (IntKind.bits .u64) q5 &&& BitVec.ofInt (IntKind.bits .u64) (4294967295 : Int)).toNat)))], [], 0⟩ hX (by kernel_rfl) allNil ?_
  obtain ⟨q7, hq8, hr⟩ := of_bind hr
  have hq8 := of_some2 hq8
  refine (Le.cv (s := ⟨[], [], [], false⟩) (own := []) (ps := [a0 = a0, a1 = a1, q1 = q1, (Int.fdiv a0 (2 ^ (min (Int.toNat (32 : Int)) (IntKind.bits .u64)))) = (Int.fdiv a0 (2 ^ (min (Int.toNat (32 : Int)) (IntKind.bits .u64)))), (Int.fdiv a1 (2 ^ (min (Int.toNat (32 : Int)) (IntKind.bits .u64)))) = (Int.fdiv a1 (2 ^ (min (Int.toNat (32 : Int)) (IntKind.bits .u64)))), q5 = q5, q7 = (IntKind.wrap .u64 (BitVec.ofInt (IntKind.bits .u64) q5 &&& BitVec.ofInt (IntKind.bits .u64) (4294967295 : Int)).toNat)]) (st' := ⟨[(0, .one (.dat (.int .u64) a0)), (1, .one (.dat (.int .u64) a1)), (6, .one (.dat (.int .u64) q1)), (7, .one (.dat (.int .u64) (Int.fdiv a0 (2 ^ (min (Int.toNat (32 : Int)) (IntKind.bits .u64)))))), (9, .one (.dat (.int .u64) (Int.fdiv a1 (2 ^ (min (Int.toNat (32 : Int)) (IntKind.bits .u64)))))), (11, .one (.dat (.int .u64) q5)), (12, .one (.dat (.int .u64) q7))], [], 0⟩) hO (fun h => by cases h) (by kernel_rfl) ⟨rfl, rfl, rfl, rfl, rfl, rfl, hq8, trivial⟩).ht ?_
  refine HT.rg2 (oHs 3) ⟨[(0, .one (.dat (.int .u64) a0)), (1, .one (.dat (.int .u64) a1)), (6, .one (.dat (.int .u64) q1)), (7, .one (.dat (.int .u64) (Int.fdiv a0 (2 ^ (min (Int.toNat (32 : Int)) (IntKind.bits .u64)))))), (9, .one (.dat (.int .u64) (Int.fdiv a1 (2 ^ (min (Int.toNat (32 : Int)) (IntKind.bits .u64)))))), (12, .one (.dat (.int .u64) q7)), (13, .one (.dat (.int .u64) (Int.fdiv q5 (2 ^ (min (Int.toNat (32 : Int)) (IntKind.bits .u64))))))], [], 0⟩ hX (by kernel_rfl) (allCons (show (0 : Int) ≤ (32 : Int) from by decide) allNil) ?_
  refine HT.rg2 (oHs 6) ⟨[(0, .one (.dat (.int .u64) a0)), (1, .one (.dat (.int .u64) a1)), (7, .one (.dat (.int .u64) (Int.fdiv a0 (2 ^ (min (Int.toNat (32 : Int)) (IntKind.bits .u64)))))), (9, .one (.dat (.int .u64) (Int.fdiv a1 (2 ^ (min (Int.toNat (32 : Int)) (IntKind.bits .u64)))))), (12, .one (.dat (.int .u64) (wadd .u64 q7 (wmul .u64 q1 (Int.fdiv a1 (2 ^ (min (Int.toNat (32 : Int)) (IntKind.bits .u64)))))))), (13, .one (.dat (.int .u64) (Int.fdiv q5 (2 ^ (min (Int.toNat (32 : Int)) (IntKind.bits .u64))))))], [], 0⟩ hX (by kernel_rfl) allNil ?_
  obtain ⟨q9, hq10, hr⟩ := of_bind hr
  have hq10 := of_some2 hq10
  refine (Le.cv (s := ⟨[], [], [], false⟩) (own := []) (ps := [a0 = a0, a1 = a1, (Int.fdiv a0 (2 ^ (min (Int.toNat (32 : Int)) (IntKind.bits .u64)))) = (Int.fdiv a0 (2 ^ (min (Int.toNat (32 : Int)) (IntKind.bits .u64)))), (Int.fdiv a1 (2 ^ (min (Int.toNat (32 : Int)) (IntKind.bits .u64)))) = (Int.fdiv a1 (2 ^ (min (Int.toNat (32 : Int)) (IntKind.bits .u64)))), q9 = (wadd .u64 q7 (wmul .u64 q1 (Int.fdiv a1 (2 ^ (min (Int.toNat (32 : Int)) (IntKind.bits .u64)))))), (Int.fdiv q5 (2 ^ (min (Int.toNat (32 : Int)) (IntKind.bits .u64)))) = (Int.fdiv q5 (2 ^ (min (Int.toNat (32 : Int)) (IntKind.bits .u64))))]) (st' := ⟨[(0, .one (.dat (.int .u64) a0)), (1, .one (.dat (.int .u64) a1)), (7, .one (.dat (.int .u64) (Int.fdiv a0 (2 ^ (min (Int.toNat (32 : Int)) (IntKind.bits .u64)))))), (9, .one (.dat (.int .u64) (Int.fdiv a1 (2 ^ (min (Int.toNat (32 : Int)) (IntKind.bits .u64)))))), (12, .one (.dat (.int .u64) q9)), (13, .one (.dat (.int .u64) (Int.fdiv q5 (2 ^ (min (Int.toNat (32 : Int)) (IntKind.bits .u64))))))], [], 0⟩) hO (fun h => by cases h) (by kernel_rfl) ⟨rfl, rfl, rfl, rfl, hq10, rfl, trivial⟩).ht ?_
  refine HT.rg2 (oHs 9) ⟨[(0, .one (.dat (.int .u64) a0)), (1, .one (.dat (.int .u64) a1)), (4, .one (.dat (.int .u64) (wadd .u64 (wadd .u64 (wmul .u64 (Int.fdiv a0 (2 ^ (min (Int.toNat (32 : Int)) (IntKind.bits .u64)))) (Int.fdiv a1 (2 ^ (min (Int.toNat (32 : Int)) (IntKind.bits .u64))))) (Int.fdiv q5 (2 ^ (min (Int.toNat (32 : Int)) (IntKind.bits .u64))))) (Int.fdiv q9 (2 ^ (min (Int.toNat (32 : Int)) (IntKind.bits .u64)))))))], [], 0⟩ hX (by kernel_rfl) (allCons (show (0 : Int) ≤ (32 : Int) from by decide) allNil) ?_
  obtain ⟨q11, hq12, hr⟩ := of_bind hr
  have hq12 := of_some2 hq12
  refine (Le.cv (s := ⟨[], [], [], false⟩) (own := []) (ps := [a0 = a0, a1 = a1, q11 = (wadd .u64 (wadd .u64 (wmul .u64 (Int.fdiv a0 (2 ^ (min (Int.toNat (32 : Int)) (IntKind.bits .u64)))) (Int.fdiv a1 (2 ^ (min (Int.toNat (32 : Int)) (IntKind.bits .u64))))) (Int.fdiv q5 (2 ^ (min (Int.toNat (32 : Int)) (IntKind.bits .u64))))) (Int.fdiv q9 (2 ^ (min (Int.toNat (32 : Int)) (IntKind.bits .u64)))))]) (st' := ⟨[(0, .one (.dat (.int .u64) a0)), (1, .one (.dat (.int .u64) a1)), (4, .one (.dat (.int .u64) q11))], [], 0⟩) hO (fun h => by cases h) (by kernel_rfl) ⟨rfl, rfl, hq12, trivial⟩).ht ?_
  refine HT.rg2 (oHs 4) ⟨[(4, .one (.dat (.int .u64) q11)), (5, .one (.dat (.int .u64) (wmul .u64 a0 a1)))], [], 0⟩ hX (by kernel_rfl) allNil ?_
  have hr := of_some hr
  subst hr
  exact HT.ret ⟨[.one (.dat (.int .u64) q11), .one (.dat (.int .u64) (wmul .u64 a0 a1))], [], [], by kernel_rfl, by kernel_rfl, rfl, by kernel_rfl, by kernel_rfl, trivial⟩

noncomputable def math_bits_Mul (a0 : Int) (a1 : Int) : Option (Int × Int) :=
  (math_bits_Mul64 a0 a1).bind fun y1 =>
  some (y1.1, y1.2)

theorem f107_ok {a0 : Int} {a1 : Int} {r : Int × Int} (hr : math_bits_Mul a0 a1 = some r) : CallOK Try.prog 107 [.imm (.int .u64) a0, .imm (.int .u64) a1] [⟨false, (.int .u64), r.1⟩, ⟨false, (.int .u64), r.2⟩] [] := by
  unfold math_bits_Mul at hr
  refine CallOK.of_body (ts := [(false, (.int .u64)), (false, (.int .u64))]) Try.func107 rfl (by kernel_rfl) (Nat.le_of_ble_eq_true (by kernel_rfl)) fun cx hP hN hO hF => ?_
  have hO : cx.own.map Prod.fst = [] := hO
  have hX := CxIs.mk hP hN hO
  have hF := hF rfl
  show HT cx ⟨[(0, .one (.dat (.int .u64) a0)), (1, .one (.dat (.int .u64) a1))], [], 0⟩ _ _
  refine HT.rg2 (oHs 2) ⟨[(0, .one (.dat (.int .u64) a0)), (1, .one (.dat (.int .u64) a1))], [], 0⟩ hX (by kernel_rfl) allNil ?_
  refine HT.seq ?_
  refine HT.cond0 rfl (rfl : false = false) ?_
  refine HT.skip (qThen ?_)
  obtain ⟨y1, hc2, hr⟩ := of_bind hr
  refine HT.rg2 [oH, oH, ⟨none, .call [.imm (.int .u64), .imm (.int .u64)] [⟨false, (.int .u64), y1.1⟩, ⟨false, (.int .u64), y1.2⟩] []⟩, oH, oH, oH, oH, oH] ⟨[(8, .one (.dat (.int .u64) y1.1)), (9, .one (.dat (.int .u64) y1.2))], [], 0⟩ hX (by kernel_rfl) (allCons (f130_ok hc2) allNil) ?_
  refine HT.rg2 (oHs 4) ⟨[(4, .one (.dat (.int .u64) y1.1)), (5, .one (.dat (.int .u64) y1.2))], [], 0⟩ hX (by kernel_rfl) allNil ?_
  have hr := of_some hr
  subst hr
  exact HT.ret ⟨[.one (.dat (.int .u64) y1.1), .one (.dat (.int .u64) y1.2)], [], [], by kernel_rfl, by kernel_rfl, rfl, by kernel_rfl, by kernel_rfl, trivial⟩

noncomputable def slices_Repeat___float32_float32_B1  (s13 : Int × List Nat) : Option ((Int × List Nat) ⊕ (List Nat)) :=
  bif (decide (s13.1 < (lenI s13.2))) then
    guardP ((0 : Int) ≤ s13.1 ∧ s13.1 ≤ lenI s13.2) (
      some (.inl ((wadd .i64 s13.1 ((Nat.min (List.length (List.take (Int.toNat s13.1) (List.drop 0 s13.2))) (Int.toNat (lenI s13.2) - Int.toNat s13.1) : Nat) : Int)), (List.take (Int.toNat s13.1) s13.2 ++ List.take (Nat.min (List.length (List.take (Int.toNat s13.1) (List.drop 0 s13.2))) (Int.toNat (lenI s13.2) - Int.toNat s13.1)) (List.take (Int.toNat s13.1) (List.drop 0 s13.2)) ++ List.drop ((Int.toNat s13.1) + Nat.min (List.length (List.take (Int.toNat s13.1) (List.drop 0 s13.2))) (Int.toNat (lenI s13.2) - Int.toNat s13.1)) s13.2))))
  else
    some (.inr s13.2)

noncomputable def slices_Repeat___float32_float32 (a0 : List Nat) (a1 : Int) : Option (List Nat) :=
  bif (decide (a1 < (0 : Int))) then
    none
  else
    (math_bits_Mul (IntKind.wrap .u64 (lenI a0)) (IntKind.wrap .u64 a1)).bind fun y2 =>
    (show Option (Bool) from
      bif (decide (y2.1 > (0 : Int))) then
        some true
      else
        some (decide (y2.2 > (9223372036854775807 : Int)))).bind fun v4 =>
    bif v4 then
      none
    else
      guardP ((0 : Int) ≤ (IntKind.wrap .i64 y2.2) ∧ (IntKind.wrap .i64 y2.2) ≤ 4294967296) (
        (some ((Nat.min (List.length a0) (List.length (List.replicate (Int.toNat (IntKind.wrap .i64 y2.2)) (0 : Nat))) : Nat) : Int)).bind fun q9 =>
        (some (List.take 0 (List.replicate (Int.toNat (IntKind.wrap .i64 y2.2)) (0 : Nat)) ++ List.take (Nat.min (List.length a0) (List.length (List.replicate (Int.toNat (IntKind.wrap .i64 y2.2)) (0 : Nat)))) a0 ++ List.drop (0 + Nat.min (List.length a0) (List.length (List.replicate (Int.toNat (IntKind.wrap .i64 y2.2)) (0 : Nat)))) (List.replicate (Int.toNat (IntKind.wrap .i64 y2.2)) (0 : Nat)))).bind fun q11 =>
        (rounds (slices_Repeat___float32_float32_B1) (q9, q11)).bind fun r15 =>
        some r15)

theorem f82_ok {a0 : List Nat} {a1 : Int} {r : List Nat} (hr : slices_Repeat___float32_float32 a0 a1 = some r) : CallOK Try.prog 82 [.imm tLF a0, .imm tI a1] [⟨true, tLF, r⟩] [] := by
  unfold slices_Repeat___float32_float32 at hr
  refine CallOK.of_body (ts := [(true, tLF)]) Try.func82 rfl (by kernel_rfl) (Nat.le_of_ble_eq_true (by kernel_rfl)) fun cx hP hN hO hF => ?_
  have hO : cx.own.map Prod.fst = [] := hO
  have hX := CxIs.mk hP hN hO
  have hF := hF rfl
  show HT cx ⟨[(0, lV a0), (1, iV a1)], [], 0⟩ _ _
  refine HT.rg2 [oH] ⟨[(0, lV a0), (1, iV a1)], [], 0⟩ hX (by kernel_rfl) allNil ?_
  refine HT.seq ?_
  refine HT.rg2 (oHs 2) ⟨[(0, lV a0), (1, iV a1), (10, bV (decide (a1 < (0 : Int))))], [], 0⟩ hX (by kernel_rfl) allNil ?_
  rcases of_bif hr with ⟨hb1, hr⟩ | ⟨hb1, hr⟩
  · refine HT.cond1 rfl hb1 ?_
    cases hr
  · refine HT.cond0 rfl hb1 ?_
    refine HT.skip (qThen ?_)
    obtain ⟨y2, hc3, hr⟩ := of_bind hr
    refine HT.rg2 [oH, oH, oH, oH, oH, ⟨none, .call [.imm (.int .u64), .imm (.int .u64)] [⟨false, (.int .u64), y2.1⟩, ⟨false, (.int .u64), y2.2⟩] []⟩, oH, oH, oH, oH, oH] ⟨[(0, lV a0), (5, .one (.dat (.int .u64) y2.1)), (6, .one (.dat (.int .u64) y2.2))], [], 0⟩ hX (by kernel_rfl) (allCons (f107_ok hc3) allNil) ?_
    refine HT.seq ?_
    obtain ⟨v4', hT6, hr⟩ := of_bind hr
    refine HT.join (fun (v4 : Bool) => ⟨[(0, lV a0), (6, .one (.dat (.int .u64) y2.2)), (26, bV v4)], [], 0⟩) (fun v => v = v4') (fun v4 hv5 => ?_) (fun cont => ?_)
    · subst hv5
      rcases of_bif hr with ⟨hb7, hr⟩ | ⟨hb7, hr⟩
      · refine HT.cond1 rfl hb7 ?_
        cases hr
      · refine HT.cond0 rfl hb7 ?_
        refine HT.skip (qThen ?_)
        obtain ⟨hg8, hr⟩ := of_guard hr
        refine HT.rg2 [oH, oH, ⟨none, .ty tF⟩, oH] ⟨[(0, lV a0), (7, aV 0)], [(0, .seq tF (List.replicate (Int.toNat (IntKind.wrap .i64 y2.2)) (0 : Nat)))], 1⟩ hX (by kernel_rfl) (allCons (show (0 : Int) ≤ (IntKind.wrap .i64 y2.2) ∧ (IntKind.wrap .i64 y2.2) ≤ (IntKind.wrap .i64 y2.2) ∧ (IntKind.wrap .i64 y2.2) ≤ 4294967296 from ⟨hg8.1, Int.le_refl _, hg8.2⟩) allNil) ?_
        refine HT.rg2 (oHs 4) ⟨[(7, aV 0), (8, iV ((Nat.min (List.length a0) (List.length (List.replicate (Int.toNat (IntKind.wrap .i64 y2.2)) (0 : Nat))) : Nat) : Int))], [(0, .seq tF (List.take 0 (List.replicate (Int.toNat (IntKind.wrap .i64 y2.2)) (0 : Nat)) ++ List.take (Nat.min (List.length a0) (List.length (List.replicate (Int.toNat (IntKind.wrap .i64 y2.2)) (0 : Nat)))) a0 ++ List.drop (0 + Nat.min (List.length a0) (List.length (List.replicate (Int.toNat (IntKind.wrap .i64 y2.2)) (0 : Nat)))) (List.replicate (Int.toNat (IntKind.wrap .i64 y2.2)) (0 : Nat))))], 1⟩ hX (by kernel_rfl) allNil ?_
        obtain ⟨q9, hq10, hr⟩ := of_bind hr
        have hq10 := of_some2 hq10
        obtain ⟨q11, hq12, hr⟩ := of_bind hr
        have hq12 := of_some2 hq12
        refine (Le.cv (s := ⟨[(0, 0)], [], [], false⟩) (own := []) (ps := [q9 = ((Nat.min (List.length a0) (List.length (List.replicate (Int.toNat (IntKind.wrap .i64 y2.2)) (0 : Nat))) : Nat) : Int), q11 = (List.take 0 (List.replicate (Int.toNat (IntKind.wrap .i64 y2.2)) (0 : Nat)) ++ List.take (Nat.min (List.length a0) (List.length (List.replicate (Int.toNat (IntKind.wrap .i64 y2.2)) (0 : Nat)))) a0 ++ List.drop (0 + Nat.min (List.length a0) (List.length (List.replicate (Int.toNat (IntKind.wrap .i64 y2.2)) (0 : Nat)))) (List.replicate (Int.toNat (IntKind.wrap .i64 y2.2)) (0 : Nat)))]) (st' := ⟨[(7, aV 0), (8, iV q9)], [(0, .seq tF q11)], 1⟩) hO (fun h => by cases h) (by kernel_rfl) ⟨hq10, hq12, trivial⟩).ht ?_
        refine HT.seq ?_
        refine HT.block ?_
        obtain ⟨r14, hL21, hr⟩ := of_bind hr
        refine HT.loopL (fun (s13 : Int × List Nat) => ⟨[(7, aV 0), (8, iV s13.1)], [(0, .seq tF s13.2)], 1⟩) (fun (r15 : List Nat) => (.exit 0, ⟨[(7, aV 0)], [(0, .seq tF r15)], 1⟩)) (Le.re [(0, 0)] [] hX (by kernel_rfl)) hL21 ?_ (fun s13 x16 hx17 hk18 => ?_)
        · refine (qBlockX (qThen ?_))
          refine HT.rg2 (oHs 2) ⟨[(4, aV 0)], [(0, .seq tF r14)], 1⟩ hX (by kernel_rfl) allNil ?_
          have hr := of_some hr
          subst hr
          exact HT.ret ⟨[aV 0], [0], [], by kernel_rfl, by kernel_rfl, rfl, by kernel_rfl, by kernel_rfl, trivial⟩
        · refine HT.seq ?_
          refine HT.rg2 (oHs 4) ⟨[(7, aV 0), (8, iV s13.1), (37, bV (decide (s13.1 < (lenI s13.2))))], [(0, .seq tF s13.2)], 1⟩ hX (by kernel_rfl) allNil ?_
          rcases of_bif hx17 with ⟨hb19, hx17⟩ | ⟨hb19, hx17⟩
          · refine HT.cond1 rfl hb19 ?_
            refine HT.skip (qThen ?_)
            refine HT.block ?_
            obtain ⟨hg20, hx17⟩ := of_guard hx17
            have hx17 := of_some hx17
            subst hx17
            exact HT.drK 8 [⟨oH, []⟩, ⟨oH, []⟩, ⟨oH, []⟩, ⟨oH, [1, 2]⟩, ⟨oH, []⟩, ⟨oH, []⟩, ⟨oH, [4, 5]⟩, ⟨oH, [1, 2, 3, 4, 5, 6]⟩] [[0, 1, 2, 3, 4, 5, 6, 7], [0, 1, 2, 3, 4, 5, 6, 7, 8]] (oHs 2) [(0, 0)] [] hX (by kernel_rfl) (by kernel_rfl) (allCons (show (0 : Int) ≤ s13.1 ∧ s13.1 ≤ lenI s13.2 ∧ lenI s13.2 ≤ lenI s13.2 from ⟨hg20.1, hg20.2, Int.le_refl _⟩) (allCons (show (0 : Int) ≤ 0 ∧ (0 : Int) ≤ s13.1 ∧ s13.1 ≤ lenI s13.2 from ⟨Int.le_refl _, hg20.1, hg20.2⟩) allNil)) (fun _ h => (qBlock (qLoopN ⟨((wadd .i64 s13.1 ((Nat.min (List.length (List.take (Int.toNat s13.1) (List.drop 0 s13.2))) (Int.toNat (lenI s13.2) - Int.toNat s13.1) : Nat) : Int)), (List.take (Int.toNat s13.1) s13.2 ++ List.take (Nat.min (List.length (List.take (Int.toNat s13.1) (List.drop 0 s13.2))) (Int.toNat (lenI s13.2) - Int.toNat s13.1)) (List.take (Int.toNat s13.1) (List.drop 0 s13.2)) ++ List.drop ((Int.toNat s13.1) + Nat.min (List.length (List.take (Int.toNat s13.1) (List.drop 0 s13.2))) (Int.toNat (lenI s13.2) - Int.toNat s13.1)) s13.2)), rfl, h⟩)))
          · refine HT.cond0 rfl hb19 ?_
            have hx17 := of_some hx17
            subst hx17
            exact HT.exitL (Le.re [(0, 0)] [] hX (by kernel_rfl)) (qThenE (qLoopE (hk18 s13.2 rfl)))
    · rcases of_bif hT6 with ⟨hb22, hT6⟩ | ⟨hb22, hT6⟩
      · exact HT.rgK [oH, oH, oH, ⟨some true, .no⟩, ⟨some true, .no⟩, ⟨none, .tv true⟩] [] [] hX (by kernel_rfl) (allCons hb22 (allCons hb22 (allCons hb22 allNil))) (fun _ h => (qThen (h.ht (cont true (of_some hT6)))))
      · exact HT.rgK [oH, oH, oH, ⟨some false, .no⟩, ⟨some false, .no⟩, ⟨none, .tv false⟩] [] [] hX (by kernel_rfl) (allCons hb22 (allCons hb22 (allCons hb22 allNil))) (fun _ h => (qThen (h.ht (cont (decide (y2.2 > (9223372036854775807 : Int))) (of_some hT6)))))

noncomputable def impl_Model_backward_B1 (a0 : Int × Int × List Nat × List Nat × List Nat) (a1 : List Int) (s7 : Int × List (List Nat)) (s15 : Int × List Nat) (s23 : Int × List Nat) : Option ((Int × List Nat) ⊕ (List Nat)) :=
  bif (decide (s23.1 < a0.1)) then
    guardP ((0 : Int) ≤ s15.1 ∧ s15.1 < lenI s23.2) (
      guardP ((0 : Int) ≤ s7.1 ∧ s7.1 < lenI a1) (
        (impl_Model_show (a0.1, a0.2.1, a0.2.2.1, a0.2.2.2.1, a0.2.2.2.2) s15.1 (List.getD a1 (Int.toNat s7.1) (0 : Int))).bind fun y32 =>
        (impl_Model_step (a0.1, a0.2.1, a0.2.2.1, a0.2.2.2.1, a0.2.2.2.2) s15.1 s23.1).bind fun y34 =>
        guardP ((0 : Int) ≤ (wadd .i64 s7.1 (1 : Int)) ∧ (wadd .i64 s7.1 (1 : Int)) < lenI s7.2) (
          guardP ((0 : Int) ≤ s23.1 ∧ s23.1 < lenI (List.getD s7.2 (Int.toNat (wadd .i64 s7.1 (1 : Int))) ([] : List Nat))) (
            some (.inl ((wadd .i64 s23.1 (1 : Int)), (List.set s23.2 (Int.toNat s15.1) (fop .add .f32 (List.getD s23.2 (Int.toNat s15.1) (0 : Nat)) (fop .mul .f32 (fop .mul .f32 y32 y34) (List.getD (List.getD s7.2 (Int.toNat (wadd .i64 s7.1 (1 : Int))) ([] : List Nat)) (Int.toNat s23.1) (0 : Nat)))))))))))
  else
    some (.inr s23.2)

noncomputable def impl_Model_backward_B2 (a0 : Int × Int × List Nat × List Nat × List Nat) (a1 : List Int) (s7 : Int × List (List Nat)) (s15 : Int × List Nat) : Option ((Int × List Nat) ⊕ (List Nat)) :=
  bif (decide (s15.1 < a0.1)) then
    (rounds (impl_Model_backward_B1 a0 a1 s7 s15) ((0 : Int), s15.2)).bind fun r25 =>
    some (.inl ((wadd .i64 s15.1 (1 : Int)), r25))
  else
    some (.inr s15.2)

noncomputable def impl_Model_backward_B3 (a0 : Int × Int × List Nat × List Nat × List Nat) (a1 : List Int) (s7 : Int × List (List Nat)) : Option ((Int × List (List Nat)) ⊕ (List (List Nat))) :=
  bif (decide (s7.1 ≥ (0 : Int))) then
    guardP ((0 : Int) ≤ a0.1 ∧ a0.1 ≤ 4294967296) (
      (rounds (impl_Model_backward_B2 a0 a1 s7) ((0 : Int), (List.replicate (Int.toNat a0.1) (0 : Nat)))).bind fun r17 =>
      guardP ((0 : Int) ≤ s7.1 ∧ s7.1 < lenI s7.2) (
        some (.inl ((wsub .i64 s7.1 (1 : Int)), (List.set s7.2 (Int.toNat s7.1) r17)))))
  else
    some (.inr s7.2)

noncomputable def impl_Model_backward (a0 : Int × Int × List Nat × List Nat × List Nat) (a1 : List Int) : Option (List (List Nat)) :=
  guardP ((0 : Int) ≤ (wadd .i64 (lenI a1) (1 : Int)) ∧ (wadd .i64 (lenI a1) (1 : Int)) ≤ 4294967296) (
    (slices_Repeat___float32_float32 ([(1065353216 : Nat)] : List Nat) a0.1).bind fun y2 =>
    guardP ((0 : Int) ≤ (lenI a1) ∧ (lenI a1) < lenI (List.replicate (Int.toNat (wadd .i64 (lenI a1) (1 : Int))) ([] : List Nat))) (
      (some (List.set (List.replicate (Int.toNat (wadd .i64 (lenI a1) (1 : Int))) ([] : List Nat)) (Int.toNat (lenI a1)) y2)).bind fun q5 =>
      (rounds (impl_Model_backward_B3 a0 a1) ((wsub .i64 (lenI a1) (1 : Int)), q5)).bind fun r9 =>
      some r9))

theorem f50_ok {a0 : Int × Int × List Nat × List Nat × List Nat} {a1 : List Int} {r : List (List Nat)} (hr : impl_Model_backward a0 a1 = some r) : CallOK Try.prog 50 [.imm (.st (.pair tI (.pair tI (.pair tLF (.pair tLF tLF))))) a0, .imm tLI a1] [⟨false, (.sl tLF), r⟩] [] := by
  unfold impl_Model_backward at hr
  refine CallOK.of_body (ts := [(false, (.sl tLF))]) Try.func50 rfl (by kernel_rfl) (Nat.le_of_ble_eq_true (by kernel_rfl)) fun cx hP hN hO hF => ?_
  have hO : cx.own.map Prod.fst = [] := hO
  have hX := CxIs.mk hP hN hO
  have hF := hF rfl
  show HT cx ⟨[(0, .agg [iC a0.1, iC a0.2.1, lC a0.2.2.1, lC a0.2.2.2.1, lC a0.2.2.2.2]), (1, nV a1)], [], 0⟩ _ _
  refine HT.rg2 (oHs 2) ⟨[(1, nV a1), (2, pV 0 0)], [(0, .box [iC a0.1, iC a0.2.1, lC a0.2.2.1, lC a0.2.2.2.1, lC a0.2.2.2.2])], 1⟩ hX (by kernel_rfl) allNil ?_
  refine HT.rg2 (oHs 3) ⟨[(1, nV a1), (2, pV 0 0), (5, iV (lenI a1))], [(0, .box [iC a0.1, iC a0.2.1, lC a0.2.2.1, lC a0.2.2.2.1, lC a0.2.2.2.2])], 1⟩ hX (by kernel_rfl) allNil ?_
  obtain ⟨hg1, hr⟩ := of_guard hr
  refine HT.rg2 [oH, oH, ⟨none, .ty tLF⟩, oH] ⟨[(1, nV a1), (2, pV 0 0), (5, iV (lenI a1)), (6, aV 1)], [(1, .seq tLF (List.replicate (Int.toNat (wadd .i64 (lenI a1) (1 : Int))) ([] : List Nat))), (0, .box [iC a0.1, iC a0.2.1, lC a0.2.2.1, lC a0.2.2.2.1, lC a0.2.2.2.2])], 2⟩ hX (by kernel_rfl) (allCons (show (0 : Int) ≤ (wadd .i64 (lenI a1) (1 : Int)) ∧ (wadd .i64 (lenI a1) (1 : Int)) ≤ (wadd .i64 (lenI a1) (1 : Int)) ∧ (wadd .i64 (lenI a1) (1 : Int)) ≤ 4294967296 from ⟨hg1.1, Int.le_refl _, hg1.2⟩) allNil) ?_
  obtain ⟨y2, hc3, hr⟩ := of_bind hr
  obtain ⟨hg4, hr⟩ := of_guard hr
  refine HT.rg2 [oH, oH, ⟨none, .tyD tF⟩, oH, oH, ⟨none, .call [.imm tLF, .imm tI] [⟨false, tLF, y2⟩] []⟩, oH, oH] ⟨[(1, nV a1), (2, pV 0 0), (5, iV (lenI a1)), (6, aV 1)], [(1, .seq tLF (List.set (List.replicate (Int.toNat (wadd .i64 (lenI a1) (1 : Int))) ([] : List Nat)) (Int.toNat (lenI a1)) y2)), (0, .box [iC a0.1, iC a0.2.1, lC a0.2.2.1, lC a0.2.2.2.1, lC a0.2.2.2.2])], 2⟩ hX (by kernel_rfl) (allCons (CallOK.frz [true] rfl (f82_ok hc3)) (allCons hg4 (allCons (natLt hg4) allNil))) ?_
  obtain ⟨q5, hq6, hr⟩ := of_bind hr
  have hq6 := of_some2 hq6
  refine (Le.cv (s := ⟨[(1, 1), (0, 0)], [], [], false⟩) (own := []) (ps := [a1 = a1, (lenI a1) = (lenI a1), q5 = (List.set (List.replicate (Int.toNat (wadd .i64 (lenI a1) (1 : Int))) ([] : List Nat)) (Int.toNat (lenI a1)) y2), a0.1 = a0.1, a0.2.1 = a0.2.1, a0.2.2.1 = a0.2.2.1, a0.2.2.2.1 = a0.2.2.2.1, a0.2.2.2.2 = a0.2.2.2.2]) (st' := ⟨[(1, nV a1), (2, pV 0 0), (5, iV (lenI a1)), (6, aV 1)], [(1, .seq tLF q5), (0, .box [iC a0.1, iC a0.2.1, lC a0.2.2.1, lC a0.2.2.2.1, lC a0.2.2.2.2])], 2⟩) hO (fun h => by cases h) (by kernel_rfl) ⟨rfl, rfl, hq6, rfl, rfl, rfl, rfl, rfl, trivial⟩).ht ?_
  refine HT.seq ?_
  refine HT.rg2 (oHs 3) ⟨[(1, nV a1), (2, pV 0 0), (6, aV 1), (7, iV (wsub .i64 (lenI a1) (1 : Int)))], [(1, .seq tLF q5), (0, .box [iC a0.1, iC a0.2.1, lC a0.2.2.1, lC a0.2.2.2.1, lC a0.2.2.2.2])], 2⟩ hX (by kernel_rfl) allNil ?_
  refine HT.block ?_
  obtain ⟨r8, hL40, hr⟩ := of_bind hr
  refine HT.loopL (fun (s7 : Int × List (List Nat)) => ⟨[(1, nV a1), (2, pV 0 0), (6, aV 1), (7, iV s7.1)], [(0, .box [iC a0.1, iC a0.2.1, lC a0.2.2.1, lC a0.2.2.2.1, lC a0.2.2.2.2]), (1, .seq tLF s7.2)], 2⟩) (fun (r9 : List (List Nat)) => (.exit 0, ⟨[(6, aV 0)], [(0, .seq tLF r9)], 1⟩)) (Le.re [(0, 0), (1, 1)] [] hX (by kernel_rfl)) hL40 ?_ (fun s7 x10 hx11 hk12 => ?_)
  · refine (qBlockX (qThen ?_))
    refine HT.rg2 (oHs 2) ⟨[(4, aV 0)], [(0, .seq tLF r8)], 1⟩ hX (by kernel_rfl) allNil ?_
    have hr := of_some hr
    subst hr
    refine (Le.rz [] [] (st' := ⟨[(4, .one (.dat (.sl tLF) r8))], [], 1⟩) hX hF (by kernel_rfl)).ht ?_
    exact HT.ret ⟨[.one (.dat (.sl tLF) r8)], [], [], by kernel_rfl, by kernel_rfl, rfl, by kernel_rfl, by kernel_rfl, trivial⟩
  · refine HT.seq ?_
    refine HT.rg2 (oHs 2) ⟨[(1, nV a1), (2, pV 0 0), (6, aV 1), (7, iV s7.1), (26, bV (decide (s7.1 ≥ (0 : Int))))], [(0, .box [iC a0.1, iC a0.2.1, lC a0.2.2.1, lC a0.2.2.2.1, lC a0.2.2.2.2]), (1, .seq tLF s7.2)], 2⟩ hX (by kernel_rfl) allNil ?_
    rcases of_bif hx11 with ⟨hb13, hx11⟩ | ⟨hb13, hx11⟩
    · refine HT.cond1 rfl hb13 ?_
      refine HT.skip (qThen ?_)
      refine HT.seq ?_
      refine HT.block ?_
      obtain ⟨hg14, hx11⟩ := of_guard hx11
      refine HT.rg2 [oH, oH, ⟨none, .ty tF⟩, oH] ⟨[(1, nV a1), (2, pV 0 0), (6, aV 1), (7, iV s7.1), (8, aV 2)], [(2, .seq tF (List.replicate (Int.toNat a0.1) (0 : Nat))), (0, .box [iC a0.1, iC a0.2.1, lC a0.2.2.1, lC a0.2.2.2.1, lC a0.2.2.2.2]), (1, .seq tLF s7.2)], 3⟩ hX (by kernel_rfl) (allCons (show (0 : Int) ≤ a0.1 ∧ a0.1 ≤ a0.1 ∧ a0.1 ≤ 4294967296 from ⟨hg14.1, Int.le_refl _, hg14.2⟩) allNil) ?_
      refine HT.seq ?_
      refine HT.rg2 (oHs 3) ⟨[(1, nV a1), (2, pV 0 0), (6, aV 1), (7, iV s7.1), (8, aV 2), (33, iV a0.1), (34, iV (0 : Int))], [(2, .seq tF (List.replicate (Int.toNat a0.1) (0 : Nat))), (0, .box [iC a0.1, iC a0.2.1, lC a0.2.2.1, lC a0.2.2.2.1, lC a0.2.2.2.2]), (1, .seq tLF s7.2)], 3⟩ hX (by kernel_rfl) allNil ?_
      refine HT.block ?_
      obtain ⟨r16, hL39, hx11⟩ := of_bind hx11
      refine HT.loopL (fun (s15 : Int × List Nat) => ⟨[(1, nV a1), (2, pV 0 0), (6, aV 1), (7, iV s7.1), (8, aV 2), (33, iV a0.1), (34, iV s15.1)], [(0, .box [iC a0.1, iC a0.2.1, lC a0.2.2.1, lC a0.2.2.2.1, lC a0.2.2.2.2]), (1, .seq tLF s7.2), (2, .seq tF s15.2)], 3⟩) (fun (r17 : List Nat) => (.exit 2, ⟨[(1, nV a1), (2, pV 0 0), (6, aV 1), (7, iV s7.1), (8, aV 2)], [(0, .box [iC a0.1, iC a0.2.1, lC a0.2.2.1, lC a0.2.2.2.1, lC a0.2.2.2.2]), (1, .seq tLF s7.2), (2, .seq tF r17)], 3⟩)) (Le.re [(0, 0), (1, 1), (2, 2)] [] hX (by kernel_rfl)) hL39 ?_ (fun s15 x19 hx20 hk21 => ?_)
      · refine (qBlockX (qThen ?_))
        refine (Le.rz [(0, 0), (1, 1)] [] (st' := ⟨[(1, nV a1), (2, pV 0 0), (6, aV 1), (7, iV s7.1), (8, lV r16)], [(0, .box [iC a0.1, iC a0.2.1, lC a0.2.2.1, lC a0.2.2.2.1, lC a0.2.2.2.2]), (1, .seq tLF s7.2)], 3⟩) hX hF (by kernel_rfl)).ht ?_
        obtain ⟨hg18, hx11⟩ := of_guard hx11
        refine HT.rgL (oHs 5) ⟨[(1, nV a1), (2, pV 0 0), (6, aV 1), (7, iV s7.1)], [(1, .seq tLF (List.set s7.2 (Int.toNat s7.1) r16)), (0, .box [iC a0.1, iC a0.2.1, lC a0.2.2.1, lC a0.2.2.2.1, lC a0.2.2.2.2])], 3⟩ hX (by kernel_rfl) (allCons hg18 (allCons (natLt hg18) allNil)) (qBlock (qThen ?_))
        have hx11 := of_some hx11
        subst hx11
        exact HT.rgK (oHs 3) [(0, 0), (1, 1)] [] hX (by kernel_rfl) allNil (fun _ h => (qLoopN ⟨((wsub .i64 s7.1 (1 : Int)), (List.set s7.2 (Int.toNat s7.1) r16)), rfl, h⟩))
      · refine HT.rg2 [oH] ⟨[(1, nV a1), (2, pV 0 0), (6, aV 1), (7, iV s7.1), (8, aV 2), (33, iV a0.1), (34, iV s15.1), (35, bV (decide (s15.1 < a0.1)))], [(0, .box [iC a0.1, iC a0.2.1, lC a0.2.2.1, lC a0.2.2.2.1, lC a0.2.2.2.2]), (1, .seq tLF s7.2), (2, .seq tF s15.2)], 3⟩ hX (by kernel_rfl) allNil ?_
        refine HT.seq ?_
        rcases of_bif hx20 with ⟨hb22, hx20⟩ | ⟨hb22, hx20⟩
        · refine HT.cond1 rfl hb22 ?_
          refine HT.skip (qThen ?_)
          refine HT.seq ?_
          refine HT.block ?_
          refine HT.rg2 (oHs 2) ⟨[(1, nV a1), (2, pV 0 0), (6, aV 1), (7, iV s7.1), (8, aV 2), (9, iV s15.1), (33, iV a0.1), (34, iV s15.1)], [(0, .box [iC a0.1, iC a0.2.1, lC a0.2.2.1, lC a0.2.2.2.1, lC a0.2.2.2.2]), (1, .seq tLF s7.2), (2, .seq tF s15.2)], 3⟩ hX (by kernel_rfl) allNil ?_
          refine HT.rg2 (oHs 3) ⟨[(1, nV a1), (2, pV 0 0), (6, aV 1), (7, iV s7.1), (8, aV 2), (9, iV s15.1), (33, iV a0.1), (34, iV s15.1), (38, iV a0.1), (39, iV (0 : Int))], [(0, .box [iC a0.1, iC a0.2.1, lC a0.2.2.1, lC a0.2.2.2.1, lC a0.2.2.2.2]), (1, .seq tLF s7.2), (2, .seq tF s15.2)], 3⟩ hX (by kernel_rfl) allNil ?_
          refine HT.block ?_
          obtain ⟨r24, hL38, hx20⟩ := of_bind hx20
          refine HT.loopL (fun (s23 : Int × List Nat) => ⟨[(1, nV a1), (2, pV 0 0), (6, aV 1), (7, iV s7.1), (8, aV 2), (9, iV s15.1), (33, iV a0.1), (34, iV s15.1), (38, iV a0.1), (39, iV s23.1)], [(0, .box [iC a0.1, iC a0.2.1, lC a0.2.2.1, lC a0.2.2.2.1, lC a0.2.2.2.2]), (1, .seq tLF s7.2), (2, .seq tF s23.2)], 3⟩) (fun (r25 : List Nat) => (.exit 4, ⟨[(1, nV a1), (2, pV 0 0), (6, aV 1), (7, iV s7.1), (8, aV 2), (33, iV a0.1), (34, iV s15.1)], [(0, .box [iC a0.1, iC a0.2.1, lC a0.2.2.1, lC a0.2.2.2.1, lC a0.2.2.2.2]), (1, .seq tLF s7.2), (2, .seq tF r25)], 3⟩)) (Le.re [(0, 0), (1, 1), (2, 2)] [] hX (by kernel_rfl)) hL38 ?_ (fun s23 x26 hx27 hk28 => ?_)
          · refine (qBlockX (qBlock (qThen ?_)))
            have hx20 := of_some hx20
            subst hx20
            exact HT.rgK (oHs 2) [(0, 0), (1, 1), (2, 2)] [] hX (by kernel_rfl) allNil (fun _ h => (qLoopN ⟨((wadd .i64 s15.1 (1 : Int)), r24), rfl, h⟩))
          · refine HT.rg2 [oH] ⟨[(1, nV a1), (2, pV 0 0), (6, aV 1), (7, iV s7.1), (8, aV 2), (9, iV s15.1), (33, iV a0.1), (34, iV s15.1), (38, iV a0.1), (39, iV s23.1), (40, bV (decide (s23.1 < a0.1)))], [(0, .box [iC a0.1, iC a0.2.1, lC a0.2.2.1, lC a0.2.2.2.1, lC a0.2.2.2.2]), (1, .seq tLF s7.2), (2, .seq tF s23.2)], 3⟩ hX (by kernel_rfl) allNil ?_
            refine HT.seq ?_
            rcases of_bif hx27 with ⟨hb29, hx27⟩ | ⟨hb29, hx27⟩
            · refine HT.cond1 rfl hb29 ?_
              refine HT.skip (qThen ?_)
              refine HT.seq ?_
              refine HT.block ?_
              refine HT.rg2 (oHs 2) ⟨[(1, nV a1), (2, pV 0 0), (6, aV 1), (7, iV s7.1), (8, aV 2), (9, iV s15.1), (10, iV s23.1), (33, iV a0.1), (34, iV s15.1), (38, iV a0.1), (39, iV s23.1)], [(0, .box [iC a0.1, iC a0.2.1, lC a0.2.2.1, lC a0.2.2.2.1, lC a0.2.2.2.2]), (1, .seq tLF s7.2), (2, .seq tF s23.2)], 3⟩ hX (by kernel_rfl) allNil ?_
              obtain ⟨hg30, hx27⟩ := of_guard hx27
              obtain ⟨hg31, hx27⟩ := of_guard hx27
              obtain ⟨y32, hc33, hx27⟩ := of_bind hx27
              obtain ⟨y34, hc35, hx27⟩ := of_bind hx27
              obtain ⟨hg36, hx27⟩ := of_guard hx27
              obtain ⟨hg37, hx27⟩ := of_guard hx27
              refine HT.drL 28 [⟨oH, []⟩, ⟨oH, []⟩, ⟨oH, []⟩, ⟨oH, []⟩, ⟨oH, [2, 3]⟩, ⟨oH, [2, 3, 4]⟩, ⟨oH, []⟩, ⟨oH, []⟩, ⟨oH, []⟩, ⟨oH, []⟩, ⟨oH, [8, 9]⟩, ⟨oH, [8, 9, 10]⟩, ⟨⟨none, .call [.imm (.st (.pair tI (.pair tI (.pair tLF (.pair tLF tLF))))), .imm tI, .imm tI] [⟨false, tF, y32⟩] []⟩, [6, 7, 8, 9, 10, 11]⟩, ⟨oH, []⟩, ⟨oH, []⟩, ⟨oH, []⟩, ⟨⟨none, .call [.imm (.st (.pair tI (.pair tI (.pair tLF (.pair tLF tLF))))), .imm tI, .imm tI] [⟨false, tF, y34⟩] []⟩, [6, 7, 8, 9, 10, 11, 12, 13, 14, 15]⟩, ⟨oH, [6, 7, 8, 9, 10, 11, 12, 13, 14, 15, 16]⟩, ⟨oH, []⟩, ⟨oH, []⟩, ⟨oH, [19]⟩, ⟨oH, [18, 19, 20]⟩, ⟨oH, [18, 19, 20, 21]⟩, ⟨oH, []⟩, ⟨oH, [18, 19, 20, 21, 22, 23]⟩, ⟨oH, [18, 19, 20, 21, 22, 23, 24]⟩, ⟨oH, [6, 7, 8, 9, 10, 11, 12, 13, 14, 15, 16, 17, 18, 19, 20, 21, 22, 23, 24, 25]⟩, ⟨oH, [2, 3, 4, 5, 6, 7, 8, 9, 10, 11, 12, 13, 14, 15, 16, 17, 18, 19, 20, 21, 22, 23, 24, 25, 26]⟩] [[0, 1, 2, 3, 4, 5, 6, 7, 8, 9, 10, 11, 12, 13, 14, 15, 16, 17, 18, 19, 20, 21, 22, 23, 24, 25, 26, 27], [0, 1, 2, 3, 4, 5, 6, 7, 8, 9, 10, 11, 12, 13, 14, 15, 16, 17, 18, 19, 20, 21, 22, 23, 24, 25, 26, 27, 28]] (oHs 2) ⟨[(1, nV a1), (2, pV 0 0), (6, aV 1), (7, iV s7.1), (8, aV 2), (9, iV s15.1), (33, iV a0.1), (34, iV s15.1), (38, iV a0.1), (39, iV s23.1)], [(2, .seq tF (List.set s23.2 (Int.toNat s15.1) (fop .add .f32 (List.getD s23.2 (Int.toNat s15.1) (0 : Nat)) (fop .mul .f32 (fop .mul .f32 y32 y34) (List.getD (List.getD s7.2 (Int.toNat (wadd .i64 s7.1 (1 : Int))) ([] : List Nat)) (Int.toNat s23.1) (0 : Nat)))))), (0, .box [iC a0.1, iC a0.2.1, lC a0.2.2.1, lC a0.2.2.2.1, lC a0.2.2.2.2]), (1, .seq tLF s7.2)], 3⟩ hX (by kernel_rfl) (by kernel_rfl) (allCons hg30 (allCons (natLt hg30) (allCons hg31 (allCons (f83_ok hc33) (allCons (f84_ok hc35) (allCons hg36 (allCons (natLt hg36) (allCons hg37 (allCons hg30 (allCons (natLt hg30) allNil)))))))))) (qBlock (qThen ?_))
              have hx27 := of_some hx27
              subst hx27
              exact HT.rgK (oHs 2) [(0, 0), (1, 1), (2, 2)] [] hX (by kernel_rfl) allNil (fun _ h => (qLoopN ⟨((wadd .i64 s23.1 (1 : Int)), (List.set s23.2 (Int.toNat s15.1) (fop .add .f32 (List.getD s23.2 (Int.toNat s15.1) (0 : Nat)) (fop .mul .f32 (fop .mul .f32 y32 y34) (List.getD (List.getD s7.2 (Int.toNat (wadd .i64 s7.1 (1 : Int))) ([] : List Nat)) (Int.toNat s23.1) (0 : Nat)))))), rfl, h⟩))
            · refine HT.cond0 rfl hb29 ?_
              have hx27 := of_some hx27
              subst hx27
              exact HT.exitL (Le.re [(0, 0), (1, 1), (2, 2)] [] hX (by kernel_rfl)) (qThenE (qLoopE (hk28 s23.2 rfl)))
        · refine HT.cond0 rfl hb22 ?_
          have hx20 := of_some hx20
          subst hx20
          exact HT.exitL (Le.re [(0, 0), (1, 1), (2, 2)] [] hX (by kernel_rfl)) (qThenE (qLoopE (hk21 s15.2 rfl)))
    · refine HT.cond0 rfl hb13 ?_
      have hx11 := of_some hx11
      subst hx11
      exact HT.exitL (Le.re [(1, 0)] [] hX (by kernel_rfl)) (qThenE (qLoopE (hk12 s7.2 rfl)))

noncomputable def impl_IsFinite (a0 : Nat) : Option (Bool) :=
  some (feq .f32 (fop .sub .f32 a0 a0) (0 : Nat))

theorem f106_ok {a0 : Nat} {r : Bool} (hr : impl_IsFinite a0 = some r) : CallOK Try.prog 106 [.imm tF a0] [⟨false, .bool, r⟩] [] := by
  unfold impl_IsFinite at hr
  refine CallOK.of_body (ts := [(false, .bool)]) Try.func106 rfl (by kernel_rfl) (Nat.le_of_ble_eq_true (by kernel_rfl)) fun cx hP hN hO hF => ?_
  have hO : cx.own.map Prod.fst = [] := hO
  have hX := CxIs.mk hP hN hO
  have hF := hF rfl
  show HT cx ⟨[(0, fV a0)], [], 0⟩ _ _
  refine HT.rg2 [oH] ⟨[(0, fV a0)], [], 0⟩ hX (by kernel_rfl) allNil ?_
  refine HT.rg2 (oHs 5) ⟨[(2, bV (feq .f32 (fop .sub .f32 a0 a0) (0 : Nat)))], [], 0⟩ hX (by kernel_rfl) allNil ?_
  have hr := of_some hr
  subst hr
  exact HT.ret ⟨[bV (feq .f32 (fop .sub .f32 a0 a0) (0 : Nat))], [], [], by kernel_rfl, by kernel_rfl, rfl, by kernel_rfl, by kernel_rfl, trivial⟩

noncomputable def impl_areFinite_1 (a0 : Nat) : Option (Bool) :=
  (impl_IsFinite a0).bind fun y1 =>
  some (!y1)

theorem f105_ok {a0 : Nat} {r : Bool} (hr : impl_areFinite_1 a0 = some r) : CallOK Try.prog 105 [.imm tF a0] [⟨false, .bool, r⟩] [] := by
  unfold impl_areFinite_1 at hr
  refine CallOK.of_body (ts := [(false, .bool)]) Try.func105 rfl (by kernel_rfl) (Nat.le_of_ble_eq_true (by kernel_rfl)) fun cx hP hN hO hF => ?_
  have hO : cx.own.map Prod.fst = [] := hO
  have hX := CxIs.mk hP hN hO
  have hF := hF rfl
  show HT cx ⟨[(0, fV a0)], [], 0⟩ _ _
  refine HT.rg2 [oH] ⟨[(0, fV a0)], [], 0⟩ hX (by kernel_rfl) allNil ?_
  obtain ⟨y1, hc2, hr⟩ := of_bind hr
  refine HT.rg2 [oH, ⟨none, .call [.imm tF] [⟨false, .bool, y1⟩] []⟩, oH, oH] ⟨[(2, bV (!y1))], [], 0⟩ hX (by kernel_rfl) (allCons (f106_ok hc2) allNil) ?_
  have hr := of_some hr
  subst hr
  exact HT.ret ⟨[bV (!y1)], [], [], by kernel_rfl, by kernel_rfl, rfl, by kernel_rfl, by kernel_rfl, trivial⟩

noncomputable def slices_IndexFunc___float32_float32_fn1_impl_areFinite_1_B1 (a0 : List Nat) (s1 : Int) : Option ((Int) ⊕ (Unit ⊕ Int)) :=
  bif (decide (s1 < (lenI a0))) then
    guardP ((0 : Int) ≤ s1 ∧ s1 < lenI a0) (
      (impl_areFinite_1 (List.getD a0 (Int.toNat s1) (0 : Nat))).bind fun y10 =>
      bif y10 then
        some (.inr (.inr s1))
      else
        some (.inl (wadd .i64 s1 (1 : Int))))
  else
    some (.inr (.inl ()))

noncomputable def slices_IndexFunc___float32_float32_fn1_impl_areFinite_1 (a0 : List Nat) : Option (Int) :=
  (rounds (slices_IndexFunc___float32_float32_fn1_impl_areFinite_1_B1 a0) (0 : Int)).bind fun r2 => match r2 with
    | .inl r3 =>
      some (-1 : Int)
    | .inr r4 =>
      some r4

theorem f128_fn1_impl_areFinite_1_ok {a0 : List Nat} {r : Int} (hr : slices_IndexFunc___float32_float32_fn1_impl_areFinite_1 a0 = some r) : CallOK Try.prog 128 [.imm tLF a0, .fn 105] [⟨false, tI, r⟩] [] := by
  unfold slices_IndexFunc___float32_float32_fn1_impl_areFinite_1 at hr
  refine CallOK.of_body (ts := [(false, tI)]) Try.func128 rfl (by kernel_rfl) (Nat.le_of_ble_eq_true (by kernel_rfl)) fun cx hP hN hO hF => ?_
  have hO : cx.own.map Prod.fst = [] := hO
  have hX := CxIs.mk hP hN hO
  have hF := hF rfl
  show HT cx ⟨[(0, lV a0), (1, .one (.fn 105))], [], 0⟩ _ _
  refine HT.rg2 [oH] ⟨[(0, lV a0), (1, .one (.fn 105))], [], 0⟩ hX (by kernel_rfl) allNil ?_
  refine HT.seq ?_
  refine HT.rg2 (oHs 3) ⟨[(0, lV a0), (1, .one (.fn 105)), (7, iV (lenI a0)), (8, iV (0 : Int))], [], 0⟩ hX (by kernel_rfl) allNil ?_
  refine HT.block ?_
  obtain ⟨r2, hL13, hr⟩ := of_bind hr
  refine HT.loopL (fun (s1 : Int) => ⟨[(0, lV a0), (1, .one (.fn 105)), (7, iV (lenI a0)), (8, iV s1)], [], 0⟩) (fun (r2 : Unit ⊕ Int) => match r2 with | .inl r3 => (.exit 0, ⟨[], [], 0⟩) | .inr r4 => (.ret, ⟨[(4, iV r4)], [], 0⟩)) (Le.re [] [] hX (by kernel_rfl)) hL13 ?_ (fun s1 x5 hx6 hk7 => ?_)
  · rcases r2 with r3 | r4
    · refine (qBlockX (qThen ?_))
      refine HT.rg2 [oH] ⟨[(4, iV (-1 : Int))], [], 0⟩ hX (by kernel_rfl) allNil ?_
      have hr := of_some hr
      subst hr
      exact HT.ret ⟨[iV (-1 : Int)], [], [], by kernel_rfl, by kernel_rfl, rfl, by kernel_rfl, by kernel_rfl, trivial⟩
    · have hr := of_some hr
      subst hr
      exact (qBlockR (qThenR ⟨[iV r4], [], [], by kernel_rfl, by kernel_rfl, rfl, by kernel_rfl, by kernel_rfl, trivial⟩))
  · refine HT.rg2 [oH] ⟨[(0, lV a0), (1, .one (.fn 105)), (7, iV (lenI a0)), (8, iV s1), (9, bV (decide (s1 < (lenI a0))))], [], 0⟩ hX (by kernel_rfl) allNil ?_
    refine HT.seq ?_
    rcases of_bif hx6 with ⟨hb8, hx6⟩ | ⟨hb8, hx6⟩
    · refine HT.cond1 rfl hb8 ?_
      refine HT.skip (qThen ?_)
      refine HT.seq ?_
      refine HT.block ?_
      refine HT.rg2 (oHs 2) ⟨[(0, lV a0), (1, .one (.fn 105)), (5, iV s1), (7, iV (lenI a0)), (8, iV s1)], [], 0⟩ hX (by kernel_rfl) allNil ?_
      obtain ⟨hg9, hx6⟩ := of_guard hx6
      obtain ⟨y10, hc11, hx6⟩ := of_bind hx6
      refine HT.rg2 [oH, oH, oH, oH, oH, ⟨none, .call [.imm tF] [⟨false, .bool, y10⟩] []⟩] ⟨[(0, lV a0), (1, .one (.fn 105)), (5, iV s1), (7, iV (lenI a0)), (8, iV s1), (16, bV y10)], [], 0⟩ hX (by kernel_rfl) (allCons hg9 (allCons (f105_ok hc11) allNil)) ?_
      rcases of_bif hx6 with ⟨hb12, hx6⟩ | ⟨hb12, hx6⟩
      · refine HT.cond1 rfl hb12 ?_
        refine HT.rg2 (oHs 2) ⟨[(4, iV s1)], [], 0⟩ hX (by kernel_rfl) allNil ?_
        have hx6 := of_some hx6
        subst hx6
        exact HT.retL (Le.re [] [] hX (by kernel_rfl)) (qBlockR (qThenR (qLoopR (hk7 (.inr s1) rfl))))
      · refine HT.cond0 rfl hb12 ?_
        refine HT.skip (qBlock (qThen ?_))
        have hx6 := of_some hx6
        subst hx6
        exact HT.rgK (oHs 2) [] [] hX (by kernel_rfl) allNil (fun _ h => (qLoopN ⟨(wadd .i64 s1 (1 : Int)), rfl, h⟩))
    · refine HT.cond0 rfl hb8 ?_
      have hx6 := of_some hx6
      subst hx6
      exact HT.exitL (Le.re [] [] hX (by kernel_rfl)) (qThenE (qLoopE (hk7 (.inl ()) rfl)))

noncomputable def slices_ContainsFunc___float32_float32_fn1_impl_areFinite_1 (a0 : List Nat) : Option (Bool) :=
  (slices_IndexFunc___float32_float32_fn1_impl_areFinite_1 a0).bind fun y1 =>
  some (decide (y1 ≥ (0 : Int)))

theorem f104_fn1_impl_areFinite_1_ok {a0 : List Nat} {r : Bool} (hr : slices_ContainsFunc___float32_float32_fn1_impl_areFinite_1 a0 = some r) : CallOK Try.prog 104 [.imm tLF a0, .fn 105] [⟨false, .bool, r⟩] [] := by
  unfold slices_ContainsFunc___float32_float32_fn1_impl_areFinite_1 at hr
  refine CallOK.of_body (ts := [(false, .bool)]) Try.func104 rfl (by kernel_rfl) (Nat.le_of_ble_eq_true (by kernel_rfl)) fun cx hP hN hO hF => ?_
  have hO : cx.own.map Prod.fst = [] := hO
  have hX := CxIs.mk hP hN hO
  have hF := hF rfl
  show HT cx ⟨[(0, lV a0), (1, .one (.fn 105))], [], 0⟩ _ _
  refine HT.rg2 [oH] ⟨[(0, lV a0), (1, .one (.fn 105))], [], 0⟩ hX (by kernel_rfl) allNil ?_
  obtain ⟨y1, hc2, hr⟩ := of_bind hr
  refine HT.rg2 [oH, oH, ⟨none, .call [.imm tLF, .fn] [⟨false, tI, y1⟩] []⟩, oH, oH] ⟨[(4, bV (decide (y1 ≥ (0 : Int))))], [], 0⟩ hX (by kernel_rfl) (allCons (f128_fn1_impl_areFinite_1_ok hc2) allNil) ?_
  have hr := of_some hr
  subst hr
  exact HT.ret ⟨[bV (decide (y1 ≥ (0 : Int)))], [], [], by kernel_rfl, by kernel_rfl, rfl, by kernel_rfl, by kernel_rfl, trivial⟩

noncomputable def impl_areFinite (a0 : List Nat) : Option (Bool) :=
  (slices_ContainsFunc___float32_float32_fn1_impl_areFinite_1 a0).bind fun y1 =>
  some (!y1)

theorem f80_ok {a0 : List Nat} {r : Bool} (hr : impl_areFinite a0 = some r) : CallOK Try.prog 80 [.imm tLF a0] [⟨false, .bool, r⟩] [] := by
  unfold impl_areFinite at hr
  refine CallOK.of_body (ts := [(false, .bool)]) Try.func80 rfl (by kernel_rfl) (Nat.le_of_ble_eq_true (by kernel_rfl)) fun cx hP hN hO hF => ?_
  have hO : cx.own.map Prod.fst = [] := hO
  have hX := CxIs.mk hP hN hO
  have hF := hF rfl
  show HT cx ⟨[(0, lV a0)], [], 0⟩ _ _
  refine HT.rg2 [oH] ⟨[(0, lV a0)], [], 0⟩ hX (by kernel_rfl) allNil ?_
  obtain ⟨y1, hc2, hr⟩ := of_bind hr
  refine HT.rg2 [oH, ⟨none, .call [.imm tLF, .fn] [⟨false, .bool, y1⟩] []⟩, oH, oH] ⟨[(2, bV (!y1))], [], 0⟩ hX (by kernel_rfl) (allCons (f104_fn1_impl_areFinite_1_ok hc2) allNil) ?_
  have hr := of_some hr
  subst hr
  exact HT.ret ⟨[bV (!y1)], [], [], by kernel_rfl, by kernel_rfl, rfl, by kernel_rfl, by kernel_rfl, trivial⟩

noncomputable def impl_finiteList_mv0 (a0 : List Nat) : Option (List Nat × Bool) :=
  (impl_areFinite a0).bind fun y1 =>
  bif (!y1) then
    some (([] : List Nat), false)
  else
    some (a0, true)

theorem f48_mv0_ok {a0 : List Nat} {r : List Nat × Bool} (hr : impl_finiteList_mv0 a0 = some r) : CallOK Try.prog 48 [.mv tLF a0] [⟨true, tLF, r.1⟩, ⟨false, .bool, r.2⟩] [] := by
  unfold impl_finiteList_mv0 at hr
  refine CallOK.of_body (ts := [(true, tLF), (false, .bool)]) Try.func48 rfl (by kernel_rfl) (Nat.le_of_ble_eq_true (by kernel_rfl)) fun cx hP hN hO hF => ?_
  have hO : cx.own.map Prod.fst = [] := hO
  have hX := CxIs.mk hP hN hO
  show HT cx ⟨[(0, aV 0)], [(0, .seq tF a0)], 1⟩ _ _
  refine HT.rg2 (oHs 2) ⟨[(0, aV 0)], [(0, .seq tF a0)], 1⟩ hX (by kernel_rfl) allNil ?_
  refine HT.seq ?_
  obtain ⟨y1, hc2, hr⟩ := of_bind hr
  refine HT.rg2 [oH, ⟨none, .call [.imm tLF] [⟨false, .bool, y1⟩] []⟩, oH] ⟨[(0, aV 0), (6, bV (!y1))], [(0, .seq tF a0)], 1⟩ hX (by kernel_rfl) (allCons (f80_ok hc2) allNil) ?_
  rcases of_bif hr with ⟨hb3, hr⟩ | ⟨hb3, hr⟩
  · refine HT.cond1 rfl hb3 ?_
    refine HT.rg2 (oHs 2) ⟨[(2, .one (.nilS)), (3, bV false)], [], 1⟩ hX (by kernel_rfl) allNil ?_
    have hr := of_some hr
    subst hr
    exact HT.ret (qThenR ⟨[.one (.nilS), bV false], [], [], by kernel_rfl, by kernel_rfl, rfl, by kernel_rfl, by kernel_rfl, trivial⟩)
  · refine HT.cond0 rfl hb3 ?_
    refine HT.skip (qThen ?_)
    refine HT.rg2 (oHs 3) ⟨[(2, aV 0), (3, bV true)], [(0, .seq tF a0)], 1⟩ hX (by kernel_rfl) allNil ?_
    have hr := of_some hr
    subst hr
    exact HT.ret ⟨[aV 0, bV true], [0], [], by kernel_rfl, by kernel_rfl, rfl, by kernel_rfl, by kernel_rfl, trivial⟩

noncomputable def impl_shares_mv0_B1 (a0 : List Nat) (y1 : Nat) (s4 : Int × List Nat) : Option ((Int × List Nat) ⊕ (List Nat)) :=
  bif (decide (s4.1 < (lenI a0))) then
    guardP ((0 : Int) ≤ s4.1 ∧ s4.1 < lenI s4.2) (
      some (.inl ((wadd .i64 s4.1 (1 : Int)), (List.set s4.2 (Int.toNat s4.1) (fop .quo .f32 (List.getD s4.2 (Int.toNat s4.1) (0 : Nat)) y1)))))
  else
    some (.inr s4.2)

noncomputable def impl_shares_mv0 (a0 : List Nat) : Option (List Nat × Bool) :=
  (impl_addUp a0).bind fun y1 =>
  bif (!(fgt .f32 y1 (0 : Nat))) then
    some (([] : List Nat), false)
  else
    (rounds (impl_shares_mv0_B1 a0 y1) ((0 : Int), a0)).bind fun r6 =>
    (impl_finiteList_mv0 r6).bind fun y7 =>
    some (y7.1, y7.2)

theorem f87_mv0_ok {a0 : List Nat} {r : List Nat × Bool} (hr : impl_shares_mv0 a0 = some r) : CallOK Try.prog 87 [.mv tLF a0] [⟨true, tLF, r.1⟩, ⟨false, .bool, r.2⟩] [] := by
  unfold impl_shares_mv0 at hr
  refine CallOK.of_body (ts := [(true, tLF), (false, .bool)]) Try.func87 rfl (by kernel_rfl) (Nat.le_of_ble_eq_true (by kernel_rfl)) fun cx hP hN hO hF => ?_
  have hO : cx.own.map Prod.fst = [] := hO
  have hX := CxIs.mk hP hN hO
  show HT cx ⟨[(0, aV 0)], [(0, .seq tF a0)], 1⟩ _ _
  refine HT.rg2 (oHs 2) ⟨[(0, aV 0)], [(0, .seq tF a0)], 1⟩ hX (by kernel_rfl) allNil ?_
  obtain ⟨y1, hc2, hr⟩ := of_bind hr
  refine HT.rg2 [oH, ⟨none, .call [.imm tLF] [⟨false, tF, y1⟩] []⟩, oH] ⟨[(0, aV 0), (4, fV y1)], [(0, .seq tF a0)], 1⟩ hX (by kernel_rfl) (allCons (f111_ok hc2) allNil) ?_
  refine HT.seq ?_
  refine HT.rg2 (oHs 3) ⟨[(0, aV 0), (4, fV y1), (10, bV (!(fgt .f32 y1 (0 : Nat))))], [(0, .seq tF a0)], 1⟩ hX (by kernel_rfl) allNil ?_
  rcases of_bif hr with ⟨hb3, hr⟩ | ⟨hb3, hr⟩
  · refine HT.cond1 rfl hb3 ?_
    refine HT.rg2 (oHs 2) ⟨[(2, .one (.nilS)), (3, bV false)], [], 1⟩ hX (by kernel_rfl) allNil ?_
    have hr := of_some hr
    subst hr
    exact HT.ret (qThenR ⟨[.one (.nilS), bV false], [], [], by kernel_rfl, by kernel_rfl, rfl, by kernel_rfl, by kernel_rfl, trivial⟩)
  · refine HT.cond0 rfl hb3 ?_
    refine HT.skip (qThen ?_)
    refine HT.seq ?_
    refine HT.rg2 (oHs 3) ⟨[(0, aV 0), (4, fV y1), (12, iV (lenI a0)), (13, iV (0 : Int))], [(0, .seq tF a0)], 1⟩ hX (by kernel_rfl) allNil ?_
    refine HT.block ?_
    obtain ⟨r5, hL14, hr⟩ := of_bind hr
    refine HT.loopL (fun (s4 : Int × List Nat) => ⟨[(0, aV 0), (4, fV y1), (12, iV (lenI a0)), (13, iV s4.1)], [(0, .seq tF s4.2)], 1⟩) (fun (r6 : List Nat) => (.exit 0, ⟨[(0, aV 0)], [(0, .seq tF r6)], 1⟩)) (Le.re [(0, 0)] [] hX (by kernel_rfl)) hL14 ?_ (fun s4 x9 hx10 hk11 => ?_)
    · refine (qBlockX (qThen ?_))
      obtain ⟨y7, hc8, hr⟩ := of_bind hr
      refine HT.rg2 [oH, ⟨none, .call [.mv tLF] [⟨true, tLF, y7.1⟩, ⟨false, .bool, y7.2⟩] []⟩, oH, oH, oH, oH] ⟨[(2, aV 1), (3, bV y7.2)], [(1, .seq tF y7.1)], 2⟩ hX (by kernel_rfl) (allCons (f48_mv0_ok hc8) allNil) ?_
      have hr := of_some hr
      subst hr
      exact HT.ret ⟨[aV 1, bV y7.2], [1], [], by kernel_rfl, by kernel_rfl, rfl, by kernel_rfl, by kernel_rfl, trivial⟩
    · refine HT.rg2 [oH] ⟨[(0, aV 0), (4, fV y1), (12, iV (lenI a0)), (13, iV s4.1), (14, bV (decide (s4.1 < (lenI a0))))], [(0, .seq tF s4.2)], 1⟩ hX (by kernel_rfl) allNil ?_
      refine HT.seq ?_
      rcases of_bif hx10 with ⟨hb12, hx10⟩ | ⟨hb12, hx10⟩
      · refine HT.cond1 rfl hb12 ?_
        refine HT.skip (qThen ?_)
        refine HT.seq ?_
        refine HT.block ?_
        refine HT.rg2 (oHs 2) ⟨[(0, aV 0), (4, fV y1), (5, iV s4.1), (12, iV (lenI a0)), (13, iV s4.1)], [(0, .seq tF s4.2)], 1⟩ hX (by kernel_rfl) allNil ?_
        obtain ⟨hg13, hx10⟩ := of_guard hx10
        refine HT.rgL (oHs 10) ⟨[(0, aV 0), (4, fV y1), (12, iV (lenI a0)), (13, iV s4.1)], [(0, .seq tF (List.set s4.2 (Int.toNat s4.1) (fop .quo .f32 (List.getD s4.2 (Int.toNat s4.1) (0 : Nat)) y1)))], 1⟩ hX (by kernel_rfl) (allCons hg13 (allCons (natLt hg13) (allCons hg13 (allCons (natLt hg13) allNil)))) (qBlock (qThen ?_))
        have hx10 := of_some hx10
        subst hx10
        exact HT.rgK (oHs 2) [(0, 0)] [] hX (by kernel_rfl) allNil (fun _ h => (qLoopN ⟨((wadd .i64 s4.1 (1 : Int)), (List.set s4.2 (Int.toNat s4.1) (fop .quo .f32 (List.getD s4.2 (Int.toNat s4.1) (0 : Nat)) y1))), rfl, h⟩))
      · refine HT.cond0 rfl hb12 ?_
        have hx10 := of_some hx10
        subst hx10
        exact HT.exitL (Le.re [(0, 0)] [] hX (by kernel_rfl)) (qThenE (qLoopE (hk11 s4.2 rfl)))

noncomputable def impl_Model_hiddenAt_B1 (a1 : List Nat) (a2 : List Nat) (s1 : Int × List Nat) : Option ((Int × List Nat) ⊕ (List Nat)) :=
  bif (decide (s1.1 < (lenI a1))) then
    guardP ((0 : Int) ≤ s1.1 ∧ s1.1 < lenI a1) (
      guardP ((0 : Int) ≤ s1.1 ∧ s1.1 < lenI a2) (
        guardP (List.length s1.2 + List.length ([(fop .mul .f32 (List.getD a1 (Int.toNat s1.1) (0 : Nat)) (List.getD a2 (Int.toNat s1.1) (0 : Nat)))] : List Nat) ≤ appMax) (
          some (.inl ((wadd .i64 s1.1 (1 : Int)), (s1.2 ++ ([(fop .mul .f32 (List.getD a1 (Int.toNat s1.1) (0 : Nat)) (List.getD a2 (Int.toNat s1.1) (0 : Nat)))] : List Nat)))))))
  else
    some (.inr s1.2)

noncomputable def impl_Model_hiddenAt (a0 : Int × Int × List Nat × List Nat × List Nat) (a1 : List Nat) (a2 : List Nat) : Option (List Nat × Bool) :=
  (rounds (impl_Model_hiddenAt_B1 a1 a2) ((0 : Int), ([] : List Nat))).bind fun r3 =>
  (impl_shares_mv0 r3).bind fun y4 =>
  some (y4.1, y4.2)

theorem f55_ok {a0 : Int × Int × List Nat × List Nat × List Nat} {a1 : List Nat} {a2 : List Nat} {r : List Nat × Bool} (hr : impl_Model_hiddenAt a0 a1 a2 = some r) : CallOK Try.prog 55 [.imm (.st (.pair tI (.pair tI (.pair tLF (.pair tLF tLF))))) a0, .imm tLF a1, .imm tLF a2] [⟨true, tLF, r.1⟩, ⟨false, .bool, r.2⟩] [] := by
  unfold impl_Model_hiddenAt at hr
  refine CallOK.of_body (ts := [(true, tLF), (false, .bool)]) Try.func55 rfl (by kernel_rfl) (Nat.le_of_ble_eq_true (by kernel_rfl)) fun cx hP hN hO hF => ?_
  have hO : cx.own.map Prod.fst = [] := hO
  have hX := CxIs.mk hP hN hO
  have hF := hF rfl
  show HT cx ⟨[(0, .agg [iC a0.1, iC a0.2.1, lC a0.2.2.1, lC a0.2.2.2.1, lC a0.2.2.2.2]), (1, lV a1), (2, lV a2)], [], 0⟩ _ _
  refine HT.rg2 (oHs 3) ⟨[(1, lV a1), (2, lV a2)], [], 1⟩ hX (by kernel_rfl) allNil ?_
  refine HT.rg2 (oHs 2) ⟨[(1, lV a1), (2, lV a2), (8, .one (.nilS))], [], 1⟩ hX (by kernel_rfl) allNil ?_
  refine HT.seq ?_
  refine HT.rg2 (oHs 3) ⟨[(2, lV a2), (8, .one (.nilS)), (12, lV a1), (13, iV (lenI a1)), (14, iV (0 : Int))], [], 1⟩ hX (by kernel_rfl) allNil ?_
  refine HT.block ?_
  obtain ⟨r2, hL13, hr⟩ := of_bind hr
  refine HT.loopL (fun (s1 : Int × List Nat) => ⟨[(2, lV a2), (8, aV 0), (12, lV a1), (13, iV (lenI a1)), (14, iV s1.1)], [(0, .seq tF s1.2)], 1⟩) (fun (r3 : List Nat) => (.exit 0, ⟨[(8, aV 0)], [(0, .seq tF r3)], 1⟩)) (Le.re [] [0] hX (by kernel_rfl)) hL13 ?_ (fun s1 x6 hx7 hk8 => ?_)
  · refine (qBlockX (qThen ?_))
    obtain ⟨y4, hc5, hr⟩ := of_bind hr
    refine HT.rg2 [oH, ⟨none, .call [.mv tLF] [⟨true, tLF, y4.1⟩, ⟨false, .bool, y4.2⟩] []⟩, oH, oH, oH, oH] ⟨[(6, aV 1), (7, bV y4.2)], [(1, .seq tF y4.1)], 2⟩ hX (by kernel_rfl) (allCons (f87_mv0_ok hc5) allNil) ?_
    have hr := of_some hr
    subst hr
    exact HT.ret ⟨[aV 1, bV y4.2], [1], [], by kernel_rfl, by kernel_rfl, rfl, by kernel_rfl, by kernel_rfl, trivial⟩
  · refine HT.rg2 [oH] ⟨[(2, lV a2), (8, aV 0), (12, lV a1), (13, iV (lenI a1)), (14, iV s1.1), (15, bV (decide (s1.1 < (lenI a1))))], [(0, .seq tF s1.2)], 1⟩ hX (by kernel_rfl) allNil ?_
    refine HT.seq ?_
    rcases of_bif hx7 with ⟨hb9, hx7⟩ | ⟨hb9, hx7⟩
    · refine HT.cond1 rfl hb9 ?_
      refine HT.skip (qThen ?_)
      refine HT.seq ?_
      refine HT.block ?_
      obtain ⟨hg10, hx7⟩ := of_guard hx7
      refine HT.rg2 (oHs 5) ⟨[(2, lV a2), (8, aV 0), (9, iV s1.1), (10, fV (List.getD a1 (Int.toNat s1.1) (0 : Nat))), (12, lV a1), (13, iV (lenI a1)), (14, iV s1.1)], [(0, .seq tF s1.2)], 1⟩ hX (by kernel_rfl) (allCons hg10 allNil) ?_
      obtain ⟨hg11, hx7⟩ := of_guard hx7
      obtain ⟨hg12, hx7⟩ := of_guard hx7
      refine HT.rgL [oH, oH, oH, oH, oH, oH, oH, ⟨none, .ty tF⟩, ⟨none, .ty tF⟩, oH] ⟨[(2, lV a2), (8, aV 2), (12, lV a1), (13, iV (lenI a1)), (14, iV s1.1)], [(2, .seq tF (s1.2 ++ ([(fop .mul .f32 (List.getD a1 (Int.toNat s1.1) (0 : Nat)) (List.getD a2 (Int.toNat s1.1) (0 : Nat)))] : List Nat)))], 3⟩ hX (by kernel_rfl) (allCons hg11 (allCons hg12 allNil)) (qBlock (qThen ?_))
      have hx7 := of_some hx7
      subst hx7
      exact HT.rgK (oHs 2) [(2, 0)] [] hX (by kernel_rfl) allNil (fun _ h => (qLoopN ⟨((wadd .i64 s1.1 (1 : Int)), (s1.2 ++ ([(fop .mul .f32 (List.getD a1 (Int.toNat s1.1) (0 : Nat)) (List.getD a2 (Int.toNat s1.1) (0 : Nat)))] : List Nat))), rfl, h⟩))
    · refine HT.cond0 rfl hb9 ?_
      have hx7 := of_some hx7
      subst hx7
      exact HT.exitL (Le.re [(0, 0)] [] hX (by kernel_rfl)) (qThenE (qLoopE (hk8 s1.2 rfl)))

noncomputable def impl_addTo_B1 (a1 : List Nat) (s1 : Int × List Nat) : Option ((Int × List Nat) ⊕ (List Nat)) :=
  bif (decide (s1.1 < (lenI a1))) then
    guardP ((0 : Int) ≤ s1.1 ∧ s1.1 < lenI a1) (
      guardP ((0 : Int) ≤ s1.1 ∧ s1.1 < lenI s1.2) (
        some (.inl ((wadd .i64 s1.1 (1 : Int)), (List.set s1.2 (Int.toNat s1.1) (fop .add .f32 (List.getD s1.2 (Int.toNat s1.1) (0 : Nat)) (List.getD a1 (Int.toNat s1.1) (0 : Nat))))))))
  else
    some (.inr s1.2)

noncomputable def impl_addTo (a0 : List Nat) (a1 : List Nat) : Option (List Nat) :=
  (rounds (impl_addTo_B1 a1) ((0 : Int), a0)).bind fun r3 =>
  guardP (List.length r3 = List.length a0) (
    some r3)

theorem f91_ok {a0 : List Nat} {a1 : List Nat} {r : List Nat} (hr : impl_addTo a0 a1 = some r) : CallOK Try.prog 91 [.own tLF a0, .imm tLF a1] [] [⟨tLF, r⟩] := by
  unfold impl_addTo at hr
  refine CallOK.of_body (ts := []) Try.func91 rfl (by kernel_rfl) (Nat.le_of_ble_eq_true (by kernel_rfl)) fun cx hP hN hO hF => ?_
  have hO : cx.own.map Prod.fst = [0] := hO
  have hX := CxIs.mk hP hN hO
  have hF := hF rfl
  show HT cx ⟨[(0, aV 0), (1, lV a1)], [(0, .seq tF a0)], 1⟩ _ _
  refine HT.rg2 (oHs 3) ⟨[(0, aV 0), (6, lV a1), (7, iV (lenI a1)), (8, iV (0 : Int))], [(0, .seq tF a0)], 1⟩ hX (by kernel_rfl) allNil ?_
  refine HT.block ?_
  obtain ⟨r2, hL11, hr⟩ := of_bind hr
  refine HT.loopL (fun (s1 : Int × List Nat) => ⟨[(0, aV 0), (6, lV a1), (7, iV (lenI a1)), (8, iV s1.1)], [(0, .seq tF s1.2)], 1⟩) (fun (r3 : List Nat) => (.exit 0, ⟨[], [(0, .seq tF r3)], 1⟩)) (Le.re [(0, 0)] [] hX (by kernel_rfl)) hL11 ?_ (fun s1 x5 hx6 hk7 => ?_)
  · obtain ⟨hg4, hr⟩ := of_guard hr
    have hr := of_some hr
    subst hr
    exact (qBlockX ⟨[], [], [List.length r2 = List.length a0], by kernel_rfl, by kernel_rfl, rfl, by kernel_rfl, by kernel_rfl, ⟨hg4, trivial⟩⟩)
  · refine HT.rg2 [oH] ⟨[(0, aV 0), (6, lV a1), (7, iV (lenI a1)), (8, iV s1.1), (9, bV (decide (s1.1 < (lenI a1))))], [(0, .seq tF s1.2)], 1⟩ hX (by kernel_rfl) allNil ?_
    refine HT.seq ?_
    rcases of_bif hx6 with ⟨hb8, hx6⟩ | ⟨hb8, hx6⟩
    · refine HT.cond1 rfl hb8 ?_
      refine HT.skip (qThen ?_)
      refine HT.seq ?_
      refine HT.block ?_
      obtain ⟨hg9, hx6⟩ := of_guard hx6
      refine HT.rg2 (oHs 5) ⟨[(0, aV 0), (4, iV s1.1), (5, fV (List.getD a1 (Int.toNat s1.1) (0 : Nat))), (6, lV a1), (7, iV (lenI a1)), (8, iV s1.1)], [(0, .seq tF s1.2)], 1⟩ hX (by kernel_rfl) (allCons hg9 allNil) ?_
      obtain ⟨hg10, hx6⟩ := of_guard hx6
      refine HT.rgL (oHs 10) ⟨[(0, aV 0), (6, lV a1), (7, iV (lenI a1)), (8, iV s1.1)], [(0, .seq tF (List.set s1.2 (Int.toNat s1.1) (fop .add .f32 (List.getD s1.2 (Int.toNat s1.1) (0 : Nat)) (List.getD a1 (Int.toNat s1.1) (0 : Nat)))))], 1⟩ hX (by kernel_rfl) (allCons hg10 (allCons (natLt hg10) (allCons hg10 (allCons (natLt hg10) allNil)))) (qBlock (qThen ?_))
      have hx6 := of_some hx6
      subst hx6
      exact HT.rgK (oHs 2) [(0, 0)] [] hX (by kernel_rfl) allNil (fun _ h => (qLoopN ⟨((wadd .i64 s1.1 (1 : Int)), (List.set s1.2 (Int.toNat s1.1) (fop .add .f32 (List.getD s1.2 (Int.toNat s1.1) (0 : Nat)) (List.getD a1 (Int.toNat s1.1) (0 : Nat))))), rfl, h⟩))
    · refine HT.cond0 rfl hb8 ?_
      have hx6 := of_some hx6
      subst hx6
      exact HT.exitL (Le.re [(0, 0)] [] hX (by kernel_rfl)) (qThenE (qLoopE (hk7 s1.2 rfl)))

noncomputable def impl_Model_pairAt_B1 (a0 : Int × Int × List Nat × List Nat × List Nat) (a1 : List Nat) (a2 : List Nat) (a3 : Int) (s1 : Int × List Nat) (s10 : Int × List Nat) : Option ((Int × List Nat) ⊕ (List Nat)) :=
  bif (decide (s10.1 < a0.1)) then
    guardP ((0 : Int) ≤ s1.1 ∧ s1.1 < lenI a1) (
      (impl_Model_show (a0.1, a0.2.1, a0.2.2.1, a0.2.2.2.1, a0.2.2.2.2) s1.1 a3).bind fun y18 =>
      (impl_Model_step (a0.1, a0.2.1, a0.2.2.1, a0.2.2.2.1, a0.2.2.2.2) s1.1 s10.1).bind fun y20 =>
      guardP ((0 : Int) ≤ s10.1 ∧ s10.1 < lenI a2) (
        guardP (List.length s10.2 + List.length ([(fop .mul .f32 (fop .mul .f32 (fop .mul .f32 (List.getD a1 (Int.toNat s1.1) (0 : Nat)) y18) y20) (List.getD a2 (Int.toNat s10.1) (0 : Nat)))] : List Nat) ≤ appMax) (
          some (.inl ((wadd .i64 s10.1 (1 : Int)), (s10.2 ++ ([(fop .mul .f32 (fop .mul .f32 (fop .mul .f32 (List.getD a1 (Int.toNat s1.1) (0 : Nat)) y18) y20) (List.getD a2 (Int.toNat s10.1) (0 : Nat)))] : List Nat)))))))
  else
    some (.inr s10.2)

noncomputable def impl_Model_pairAt_B2 (a0 : Int × Int × List Nat × List Nat × List Nat) (a1 : List Nat) (a2 : List Nat) (a3 : Int) (s1 : Int × List Nat) : Option ((Int × List Nat) ⊕ (List Nat)) :=
  bif (decide (s1.1 < a0.1)) then
    (rounds (impl_Model_pairAt_B1 a0 a1 a2 a3 s1) ((0 : Int), s1.2)).bind fun r12 =>
    some (.inl ((wadd .i64 s1.1 (1 : Int)), r12))
  else
    some (.inr s1.2)

noncomputable def impl_Model_pairAt (a0 : Int × Int × List Nat × List Nat × List Nat) (a1 : List Nat) (a2 : List Nat) (a3 : Int) : Option (List Nat × Bool) :=
  (rounds (impl_Model_pairAt_B2 a0 a1 a2 a3) ((0 : Int), ([] : List Nat))).bind fun r3 =>
  (impl_shares_mv0 r3).bind fun y4 =>
  some (y4.1, y4.2)

theorem f58_ok {a0 : Int × Int × List Nat × List Nat × List Nat} {a1 : List Nat} {a2 : List Nat} {a3 : Int} {r : List Nat × Bool} (hr : impl_Model_pairAt a0 a1 a2 a3 = some r) : CallOK Try.prog 58 [.imm (.st (.pair tI (.pair tI (.pair tLF (.pair tLF tLF))))) a0, .imm tLF a1, .imm tLF a2, .imm tI a3] [⟨true, tLF, r.1⟩, ⟨false, .bool, r.2⟩] [] := by
  unfold impl_Model_pairAt at hr
  refine CallOK.of_body (ts := [(true, tLF), (false, .bool)]) Try.func58 rfl (by kernel_rfl) (Nat.le_of_ble_eq_true (by kernel_rfl)) fun cx hP hN hO hF => ?_
  have hO : cx.own.map Prod.fst = [] := hO
  have hX := CxIs.mk hP hN hO
  have hF := hF rfl
  show HT cx ⟨[(0, .agg [iC a0.1, iC a0.2.1, lC a0.2.2.1, lC a0.2.2.2.1, lC a0.2.2.2.2]), (1, lV a1), (2, lV a2), (3, iV a3)], [], 0⟩ _ _
  refine HT.rg2 (oHs 3) ⟨[(1, lV a1), (2, lV a2), (3, iV a3), (4, pV 0 0)], [(0, .box [iC a0.1, iC a0.2.1, lC a0.2.2.1, lC a0.2.2.2.1, lC a0.2.2.2.2])], 1⟩ hX (by kernel_rfl) allNil ?_
  refine HT.rg2 (oHs 2) ⟨[(1, lV a1), (2, lV a2), (3, iV a3), (4, pV 0 0), (10, .one (.nilS))], [(0, .box [iC a0.1, iC a0.2.1, lC a0.2.2.1, lC a0.2.2.2.1, lC a0.2.2.2.2])], 1⟩ hX (by kernel_rfl) allNil ?_
  refine HT.seq ?_
  refine HT.rg2 (oHs 3) ⟨[(1, lV a1), (2, lV a2), (3, iV a3), (4, pV 0 0), (10, .one (.nilS)), (16, iV a0.1), (17, iV (0 : Int))], [(0, .box [iC a0.1, iC a0.2.1, lC a0.2.2.1, lC a0.2.2.2.1, lC a0.2.2.2.2])], 1⟩ hX (by kernel_rfl) allNil ?_
  refine HT.block ?_
  obtain ⟨r2, hL25, hr⟩ := of_bind hr
  refine HT.loopL (fun (s1 : Int × List Nat) => ⟨[(1, lV a1), (2, lV a2), (3, iV a3), (4, pV 0 0), (10, aV 1), (16, iV a0.1), (17, iV s1.1)], [(0, .box [iC a0.1, iC a0.2.1, lC a0.2.2.1, lC a0.2.2.2.1, lC a0.2.2.2.2]), (1, .seq tF s1.2)], 2⟩) (fun (r3 : List Nat) => (.exit 0, ⟨[(10, aV 0)], [(0, .seq tF r3)], 1⟩)) (Le.re [(0, 0)] [1] hX (by kernel_rfl)) hL25 ?_ (fun s1 x6 hx7 hk8 => ?_)
  · refine (qBlockX (qThen ?_))
    obtain ⟨y4, hc5, hr⟩ := of_bind hr
    refine HT.rg2 [oH, ⟨none, .call [.mv tLF] [⟨true, tLF, y4.1⟩, ⟨false, .bool, y4.2⟩] []⟩, oH, oH, oH, oH] ⟨[(8, aV 1), (9, bV y4.2)], [(1, .seq tF y4.1)], 2⟩ hX (by kernel_rfl) (allCons (f87_mv0_ok hc5) allNil) ?_
    have hr := of_some hr
    subst hr
    exact HT.ret ⟨[aV 1, bV y4.2], [1], [], by kernel_rfl, by kernel_rfl, rfl, by kernel_rfl, by kernel_rfl, trivial⟩
  · refine HT.rg2 [oH] ⟨[(1, lV a1), (2, lV a2), (3, iV a3), (4, pV 0 0), (10, aV 1), (16, iV a0.1), (17, iV s1.1), (18, bV (decide (s1.1 < a0.1)))], [(0, .box [iC a0.1, iC a0.2.1, lC a0.2.2.1, lC a0.2.2.2.1, lC a0.2.2.2.2]), (1, .seq tF s1.2)], 2⟩ hX (by kernel_rfl) allNil ?_
    refine HT.seq ?_
    rcases of_bif hx7 with ⟨hb9, hx7⟩ | ⟨hb9, hx7⟩
    · refine HT.cond1 rfl hb9 ?_
      refine HT.skip (qThen ?_)
      refine HT.seq ?_
      refine HT.block ?_
      refine HT.rg2 (oHs 2) ⟨[(1, lV a1), (2, lV a2), (3, iV a3), (4, pV 0 0), (10, aV 1), (11, iV s1.1), (16, iV a0.1), (17, iV s1.1)], [(0, .box [iC a0.1, iC a0.2.1, lC a0.2.2.1, lC a0.2.2.2.1, lC a0.2.2.2.2]), (1, .seq tF s1.2)], 2⟩ hX (by kernel_rfl) allNil ?_
      refine HT.rg2 (oHs 3) ⟨[(1, lV a1), (2, lV a2), (3, iV a3), (4, pV 0 0), (10, aV 1), (11, iV s1.1), (16, iV a0.1), (17, iV s1.1), (21, iV a0.1), (22, iV (0 : Int))], [(0, .box [iC a0.1, iC a0.2.1, lC a0.2.2.1, lC a0.2.2.2.1, lC a0.2.2.2.2]), (1, .seq tF s1.2)], 2⟩ hX (by kernel_rfl) allNil ?_
      refine HT.block ?_
      obtain ⟨r11, hL24, hx7⟩ := of_bind hx7
      refine HT.loopL (fun (s10 : Int × List Nat) => ⟨[(1, lV a1), (2, lV a2), (3, iV a3), (4, pV 0 0), (10, aV 1), (11, iV s1.1), (16, iV a0.1), (17, iV s1.1), (21, iV a0.1), (22, iV s10.1)], [(0, .box [iC a0.1, iC a0.2.1, lC a0.2.2.1, lC a0.2.2.2.1, lC a0.2.2.2.2]), (1, .seq tF s10.2)], 2⟩) (fun (r12 : List Nat) => (.exit 2, ⟨[(1, lV a1), (2, lV a2), (3, iV a3), (4, pV 0 0), (10, aV 1), (16, iV a0.1), (17, iV s1.1)], [(0, .box [iC a0.1, iC a0.2.1, lC a0.2.2.1, lC a0.2.2.2.1, lC a0.2.2.2.2]), (1, .seq tF r12)], 2⟩)) (Le.re [(0, 0), (1, 1)] [] hX (by kernel_rfl)) hL24 ?_ (fun s10 x13 hx14 hk15 => ?_)
      · refine (qBlockX (qBlock (qThen ?_)))
        have hx7 := of_some hx7
        subst hx7
        exact HT.rgK (oHs 2) [(0, 0), (1, 1)] [] hX (by kernel_rfl) allNil (fun _ h => (qLoopN ⟨((wadd .i64 s1.1 (1 : Int)), r11), rfl, h⟩))
      · refine HT.rg2 [oH] ⟨[(1, lV a1), (2, lV a2), (3, iV a3), (4, pV 0 0), (10, aV 1), (11, iV s1.1), (16, iV a0.1), (17, iV s1.1), (21, iV a0.1), (22, iV s10.1), (23, bV (decide (s10.1 < a0.1)))], [(0, .box [iC a0.1, iC a0.2.1, lC a0.2.2.1, lC a0.2.2.2.1, lC a0.2.2.2.2]), (1, .seq tF s10.2)], 2⟩ hX (by kernel_rfl) allNil ?_
        refine HT.seq ?_
        rcases of_bif hx14 with ⟨hb16, hx14⟩ | ⟨hb16, hx14⟩
        · refine HT.cond1 rfl hb16 ?_
          refine HT.skip (qThen ?_)
          refine HT.seq ?_
          refine HT.block ?_
          refine HT.rg2 (oHs 2) ⟨[(1, lV a1), (2, lV a2), (3, iV a3), (4, pV 0 0), (10, aV 1), (11, iV s1.1), (12, iV s10.1), (16, iV a0.1), (17, iV s1.1), (21, iV a0.1), (22, iV s10.1)], [(0, .box [iC a0.1, iC a0.2.1, lC a0.2.2.1, lC a0.2.2.2.1, lC a0.2.2.2.2]), (1, .seq tF s10.2)], 2⟩ hX (by kernel_rfl) allNil ?_
          obtain ⟨hg17, hx14⟩ := of_guard hx14
          obtain ⟨y18, hc19, hx14⟩ := of_bind hx14
          obtain ⟨y20, hc21, hx14⟩ := of_bind hx14
          refine HT.dr2 13 [⟨oH, []⟩, ⟨oH, []⟩, ⟨oH, [0, 1]⟩, ⟨oH, [0, 1, 2]⟩, ⟨oH, []⟩, ⟨oH, []⟩, ⟨oH, []⟩, ⟨⟨none, .call [.imm (.st (.pair tI (.pair tI (.pair tLF (.pair tLF tLF))))), .imm tI, .imm tI] [⟨false, tF, y18⟩] []⟩, [4, 5, 6]⟩, ⟨oH, [0, 1, 2, 3, 4, 5, 6, 7]⟩, ⟨oH, []⟩, ⟨oH, []⟩, ⟨oH, []⟩, ⟨⟨none, .call [.imm (.st (.pair tI (.pair tI (.pair tLF (.pair tLF tLF))))), .imm tI, .imm tI] [⟨false, tF, y20⟩] []⟩, [4, 5, 6, 7, 9, 10, 11]⟩] [[0, 1, 2, 3, 4, 5, 6, 7, 8, 9, 10, 11, 12], [0, 1, 2, 3, 4, 5, 6, 7, 8, 9, 10, 11, 12, 13]] (oHs 2) ⟨[(1, lV a1), (2, lV a2), (3, iV a3), (4, pV 0 0), (10, aV 1), (11, iV s1.1), (12, iV s10.1), (13, fV (fop .mul .f32 (fop .mul .f32 (List.getD a1 (Int.toNat s1.1) (0 : Nat)) y18) y20)), (16, iV a0.1), (17, iV s1.1), (21, iV a0.1), (22, iV s10.1)], [(0, .box [iC a0.1, iC a0.2.1, lC a0.2.2.1, lC a0.2.2.2.1, lC a0.2.2.2.2]), (1, .seq tF s10.2)], 2⟩ hX (by kernel_rfl) (by kernel_rfl) (allCons hg17 (allCons (f83_ok hc19) (allCons (f84_ok hc21) allNil))) ?_
          obtain ⟨hg22, hx14⟩ := of_guard hx14
          obtain ⟨hg23, hx14⟩ := of_guard hx14
          refine HT.rgL [oH, oH, oH, oH, oH, oH, oH, ⟨none, .ty tF⟩, ⟨none, .ty tF⟩, oH] ⟨[(1, lV a1), (2, lV a2), (3, iV a3), (4, pV 0 0), (10, aV 3), (11, iV s1.1), (16, iV a0.1), (17, iV s1.1), (21, iV a0.1), (22, iV s10.1)], [(3, .seq tF (s10.2 ++ ([(fop .mul .f32 (fop .mul .f32 (fop .mul .f32 (List.getD a1 (Int.toNat s1.1) (0 : Nat)) y18) y20) (List.getD a2 (Int.toNat s10.1) (0 : Nat)))] : List Nat))), (0, .box [iC a0.1, iC a0.2.1, lC a0.2.2.1, lC a0.2.2.2.1, lC a0.2.2.2.2])], 4⟩ hX (by kernel_rfl) (allCons hg22 (allCons hg23 allNil)) (qBlock (qThen ?_))
          have hx14 := of_some hx14
          subst hx14
          exact HT.rgK (oHs 2) [(0, 0), (3, 1)] [] hX (by kernel_rfl) allNil (fun _ h => (qLoopN ⟨((wadd .i64 s10.1 (1 : Int)), (s10.2 ++ ([(fop .mul .f32 (fop .mul .f32 (fop .mul .f32 (List.getD a1 (Int.toNat s1.1) (0 : Nat)) y18) y20) (List.getD a2 (Int.toNat s10.1) (0 : Nat)))] : List Nat))), rfl, h⟩))
        · refine HT.cond0 rfl hb16 ?_
          have hx14 := of_some hx14
          subst hx14
          exact HT.exitL (Le.re [(0, 0), (1, 1)] [] hX (by kernel_rfl)) (qThenE (qLoopE (hk15 s10.2 rfl)))
    · refine HT.cond0 rfl hb9 ?_
      have hx7 := of_some hx7
      subst hx7
      exact HT.exitL (Le.re [(1, 0)] [] hX (by kernel_rfl)) (qThenE (qLoopE (hk8 s1.2 rfl)))

noncomputable def impl_Model_learnWord_B1 (a0 : Int × Int × List Nat × List Nat × List Nat) (a2 : List Int) (s12 : Int × List Nat × List Nat) (y29 : List Nat × Bool) (s38 : Int × List Nat) : Option ((Int × List Nat) ⊕ (List Nat)) :=
  bif (decide (s38.1 < (lenI y29.1))) then
    guardP ((0 : Int) ≤ s38.1 ∧ s38.1 < lenI y29.1) (
      guardP ((0 : Int) ≤ (wadd .i64 (wmul .i64 s38.1 a0.2.1) (List.getD a2 (Int.toNat s12.1) (0 : Int))) ∧ (wadd .i64 (wmul .i64 s38.1 a0.2.1) (List.getD a2 (Int.toNat s12.1) (0 : Int))) < lenI s38.2) (
        some (.inl ((wadd .i64 s38.1 (1 : Int)), (List.set s38.2 (Int.toNat (wadd .i64 (wmul .i64 s38.1 a0.2.1) (List.getD a2 (Int.toNat s12.1) (0 : Int)))) (fop .add .f32 (List.getD s38.2 (Int.toNat (wadd .i64 (wmul .i64 s38.1 a0.2.1) (List.getD a2 (Int.toNat s12.1) (0 : Int)))) (0 : Nat)) (List.getD y29.1 (Int.toNat s38.1) (0 : Nat))))))))
  else
    some (.inr s38.2)

noncomputable def impl_Model_learnWord_B2 (a0 : Int × Int × List Nat × List Nat × List Nat) (a2 : List Int) (y1 : List (List Nat)) (y3 : List (List Nat)) (s12 : Int × List Nat × List Nat) : Option ((Int × List Nat × List Nat) ⊕ ((List Nat × List Nat) ⊕ (List Nat × List Nat))) :=
  bif (decide (s12.1 < (lenI a2))) then
    guardP ((0 : Int) ≤ s12.1 ∧ s12.1 < lenI a2) (
      guardP ((0 : Int) ≤ s12.1 ∧ s12.1 < lenI y1) (
        guardP ((0 : Int) ≤ s12.1 ∧ s12.1 < lenI y3) (
          (impl_Model_hiddenAt (a0.1, a0.2.1, a0.2.2.1, a0.2.2.2.1, a0.2.2.2.2) (List.getD y1 (Int.toNat s12.1) ([] : List Nat)) (List.getD y3 (Int.toNat s12.1) ([] : List Nat))).bind fun y29 =>
          guardP ((0 : Int) ≤ (wadd .i64 s12.1 (1 : Int)) ∧ (wadd .i64 s12.1 (1 : Int)) < lenI y3) (
            (impl_Model_pairAt (a0.1, a0.2.1, a0.2.2.1, a0.2.2.2.1, a0.2.2.2.2) (List.getD y1 (Int.toNat s12.1) ([] : List Nat)) (List.getD y3 (Int.toNat (wadd .i64 s12.1 (1 : Int))) ([] : List Nat)) (List.getD a2 (Int.toNat s12.1) (0 : Int))).bind fun y32 =>
            (show Option (Bool) from
              bif (!y29.2) then
                some true
              else
                some (!y32.2)).bind fun v34 =>
            bif v34 then
              some (.inr (.inr (s12.2.1, s12.2.2)))
            else
              (rounds (impl_Model_learnWord_B1 a0 a2 s12 y29) ((0 : Int), s12.2.2)).bind fun r40 =>
              (impl_addTo s12.2.1 y32.1).bind fun y41 =>
              some (.inl ((wadd .i64 s12.1 (1 : Int)), y41, r40))))))
  else
    some (.inr (.inl (s12.2.1, s12.2.2)))

noncomputable def impl_Model_learnWord (a0 : Int × Int × List Nat × List Nat × List Nat) (a1 : List Nat × List Nat × List Nat) (a2 : List Int) : Option (Bool × (List Nat × List Nat × List Nat)) :=
  (impl_Model_forward (a0.1, a0.2.1, a0.2.2.1, a0.2.2.2.1, a0.2.2.2.2) a2).bind fun y1 =>
  (impl_Model_backward (a0.1, a0.2.1, a0.2.2.1, a0.2.2.2.1, a0.2.2.2.2) a2).bind fun y3 =>
  guardP ((0 : Int) ≤ (0 : Int) ∧ (0 : Int) < lenI y1) (
    guardP ((0 : Int) ≤ (0 : Int) ∧ (0 : Int) < lenI y3) (
      (impl_Model_hiddenAt (a0.1, a0.2.1, a0.2.2.1, a0.2.2.2.1, a0.2.2.2.2) (List.getD y1 (Int.toNat (0 : Int)) ([] : List Nat)) (List.getD y3 (Int.toNat (0 : Int)) ([] : List Nat))).bind fun y7 =>
      bif (!y7.2) then
        some (false, a1.1, a1.2.1, a1.2.2)
      else
        (impl_addTo a1.1 y7.1).bind fun y10 =>
        (rounds (impl_Model_learnWord_B2 a0 a2 y1 y3) ((0 : Int), a1.2.1, a1.2.2)).bind fun r13 => match r13 with
          | .inl r14 =>
            guardP (List.length y10 = List.length a1.1) (
              guardP (List.length r14.1 = List.length a1.2.1) (
                guardP (List.length r14.2 = List.length a1.2.2) (
                  some (true, y10, r14.1, r14.2))))
          | .inr r18 =>
            guardP (List.length y10 = List.length a1.1) (
              guardP (List.length r18.1 = List.length a1.2.1) (
                guardP (List.length r18.2 = List.length a1.2.2) (
                  some (false, y10, r18.1, r18.2))))))

theorem f64_ok {a0 : Int × Int × List Nat × List Nat × List Nat} {a1 : List Nat × List Nat × List Nat} {a2 : List Int} {r : Bool × (List Nat × List Nat × List Nat)} (hr : impl_Model_learnWord a0 a1 a2 = some r) : CallOK Try.prog 64 [.imm (.st (.pair tI (.pair tI (.pair tLF (.pair tLF tLF))))) a0, .own (.st (.pair tLF (.pair tLF tLF))) a1, .imm tLI a2] [⟨false, .bool, r.1⟩] [⟨(.st (.pair tLF (.pair tLF tLF))), r.2⟩] := by
  unfold impl_Model_learnWord at hr
  refine CallOK.of_body (ts := [(false, .bool)]) Try.func64 rfl (by kernel_rfl) (Nat.le_of_ble_eq_true (by kernel_rfl)) fun cx hP hN hO hF => ?_
  have hO : cx.own.map Prod.fst = [0, 1, 2] := hO
  have hX := CxIs.mk hP hN hO
  have hF := hF rfl
  show HT cx ⟨[(0, .agg [iC a0.1, iC a0.2.1, lC a0.2.2.1, lC a0.2.2.2.1, lC a0.2.2.2.2]), (1, .agg [.all 0, .all 1, .all 2]), (2, nV a2)], [(0, .seq tF a1.1), (1, .seq tF a1.2.1), (2, .seq tF a1.2.2)], 3⟩ _ _
  refine HT.rg2 (oHs 3) ⟨[(2, nV a2), (3, pV 3 0), (4, pV 4 0)], [(4, .box [.all 0, .all 1, .all 2]), (3, .box [iC a0.1, iC a0.2.1, lC a0.2.2.1, lC a0.2.2.2.1, lC a0.2.2.2.2]), (0, .seq tF a1.1), (1, .seq tF a1.2.1), (2, .seq tF a1.2.2)], 5⟩ hX (by kernel_rfl) allNil ?_
  obtain ⟨y1, hc2, hr⟩ := of_bind hr
  obtain ⟨y3, hc4, hr⟩ := of_bind hr
  refine HT.dr2 5 [⟨oH, []⟩, ⟨oH, []⟩, ⟨⟨none, .call [.imm (.st (.pair tI (.pair tI (.pair tLF (.pair tLF tLF))))), .imm tLI] [⟨false, (.sl tLF), y1⟩] []⟩, [0, 1]⟩, ⟨oH, []⟩, ⟨oH, []⟩] [[0, 1, 2, 3, 4], [0, 1, 2, 3, 4, 5], [0, 1, 2, 3, 4, 5, 6]] [⟨none, .call [.imm (.st (.pair tI (.pair tI (.pair tLF (.pair tLF tLF))))), .imm tLI] [⟨false, (.sl tLF), y3⟩] []⟩, oH, oH] ⟨[(2, nV a2), (3, pV 3 0), (4, pV 4 0), (7, .one (.dat (.sl tLF) y1)), (8, .one (.dat (.sl tLF) y3))], [(4, .box [.all 0, .all 1, .all 2]), (3, .box [iC a0.1, iC a0.2.1, lC a0.2.2.1, lC a0.2.2.2.1, lC a0.2.2.2.2]), (0, .seq tF a1.1), (1, .seq tF a1.2.1), (2, .seq tF a1.2.2)], 5⟩ hX (by kernel_rfl) (by kernel_rfl) (allCons (f56_ok hc2) (allCons (f50_ok hc4) allNil)) ?_
  obtain ⟨hg5, hr⟩ := of_guard hr
  obtain ⟨hg6, hr⟩ := of_guard hr
  obtain ⟨y7, hc8, hr⟩ := of_bind hr
  refine HT.dr2 12 [⟨oH, []⟩, ⟨oH, []⟩, ⟨oH, [1]⟩, ⟨oH, [1, 2]⟩, ⟨oH, []⟩, ⟨oH, [4]⟩, ⟨oH, [4, 5]⟩, ⟨⟨none, .call [.imm (.st (.pair tI (.pair tI (.pair tLF (.pair tLF tLF))))), .imm tLF, .imm tLF] [⟨true, tLF, y7.1⟩, ⟨false, .bool, y7.2⟩] []⟩, [0, 1, 2, 3, 4, 5, 6]⟩, ⟨oH, [0, 1, 2, 3, 4, 5, 6, 7]⟩, ⟨oH, [0, 1, 2, 3, 4, 5, 6, 7, 8]⟩, ⟨oH, [0, 1, 2, 3, 4, 5, 6, 7, 8]⟩, ⟨oH, [0, 1, 2, 3, 4, 5, 6, 7, 8, 9]⟩] [[0, 1, 2, 3, 4, 5, 6, 7, 8, 9, 10, 11]] [oH] ⟨[(2, nV a2), (3, pV 3 0), (4, pV 4 0), (7, .one (.dat (.sl tLF) y1)), (8, .one (.dat (.sl tLF) y3)), (9, aV 5), (10, bV y7.2)], [(5, .seq tF y7.1), (4, .box [.all 0, .all 1, .all 2]), (3, .box [iC a0.1, iC a0.2.1, lC a0.2.2.1, lC a0.2.2.2.1, lC a0.2.2.2.2]), (0, .seq tF a1.1), (1, .seq tF a1.2.1), (2, .seq tF a1.2.2)], 6⟩ hX (by kernel_rfl) (by kernel_rfl) (allCons hg5 (allCons hg6 (allCons (f55_ok hc8) allNil))) ?_
  refine HT.seq ?_
  refine HT.rg2 (oHs 2) ⟨[(2, nV a2), (3, pV 3 0), (4, pV 4 0), (7, .one (.dat (.sl tLF) y1)), (8, .one (.dat (.sl tLF) y3)), (9, aV 5), (38, bV (!y7.2))], [(5, .seq tF y7.1), (4, .box [.all 0, .all 1, .all 2]), (3, .box [iC a0.1, iC a0.2.1, lC a0.2.2.1, lC a0.2.2.2.1, lC a0.2.2.2.2]), (0, .seq tF a1.1), (1, .seq tF a1.2.1), (2, .seq tF a1.2.2)], 6⟩ hX (by kernel_rfl) allNil ?_
  rcases of_bif hr with ⟨hb9, hr⟩ | ⟨hb9, hr⟩
  · refine HT.cond1 rfl hb9 ?_
    refine HT.rg2 [oH] ⟨[(6, bV false)], [(0, .seq tF a1.1), (1, .seq tF a1.2.1), (2, .seq tF a1.2.2)], 6⟩ hX (by kernel_rfl) allNil ?_
    have hr := of_some hr
    subst hr
    exact HT.ret (qThenR ⟨[bV false], [], [List.length a1.1 = List.length a1.1, List.length a1.2.1 = List.length a1.2.1, List.length a1.2.2 = List.length a1.2.2], by kernel_rfl, by kernel_rfl, rfl, by kernel_rfl, by kernel_rfl, ⟨(show List.length a1.1 = List.length a1.1 from rfl), (show List.length a1.2.1 = List.length a1.2.1 from rfl), (show List.length a1.2.2 = List.length a1.2.2 from rfl), trivial⟩⟩)
  · refine HT.cond0 rfl hb9 ?_
    refine HT.skip (qThen ?_)
    obtain ⟨y10, hc11, hr⟩ := of_bind hr
    refine HT.rg2 [oH, oH, oH, ⟨none, .call [.own tLF, .imm tLF] [] [⟨tLF, y10⟩]⟩] ⟨[(2, nV a2), (3, pV 3 0), (4, pV 4 0), (7, .one (.dat (.sl tLF) y1)), (8, .one (.dat (.sl tLF) y3))], [(0, .seq tF y10), (4, .box [.all 0, .all 1, .all 2]), (3, .box [iC a0.1, iC a0.2.1, lC a0.2.2.1, lC a0.2.2.2.1, lC a0.2.2.2.2]), (1, .seq tF a1.2.1), (2, .seq tF a1.2.2)], 6⟩ hX (by kernel_rfl) (allCons (f91_ok hc11) allNil) ?_
    refine HT.seq ?_
    refine HT.rg2 (oHs 3) ⟨[(3, pV 3 0), (4, pV 4 0), (7, .one (.dat (.sl tLF) y1)), (8, .one (.dat (.sl tLF) y3)), (43, nV a2), (44, iV (lenI a2)), (45, iV (0 : Int))], [(0, .seq tF y10), (4, .box [.all 0, .all 1, .all 2]), (3, .box [iC a0.1, iC a0.2.1, lC a0.2.2.1, lC a0.2.2.2.1, lC a0.2.2.2.2]), (1, .seq tF a1.2.1), (2, .seq tF a1.2.2)], 6⟩ hX (by kernel_rfl) allNil ?_
    refine HT.block ?_
    obtain ⟨r13, hL51, hr⟩ := of_bind hr
    refine HT.loopL (fun (s12 : Int × List Nat × List Nat) => ⟨[(3, pV 3 0), (4, pV 4 0), (7, .one (.dat (.sl tLF) y1)), (8, .one (.dat (.sl tLF) y3)), (43, nV a2), (44, iV (lenI a2)), (45, iV s12.1)], [(0, .seq tF y10), (1, .seq tF s12.2.1), (2, .seq tF s12.2.2), (3, .box [iC a0.1, iC a0.2.1, lC a0.2.2.1, lC a0.2.2.2.1, lC a0.2.2.2.2]), (4, .box [.all 0, .all 1, .all 2])], 5⟩) (fun (r13 : (List Nat × List Nat) ⊕ (List Nat × List Nat)) => match r13 with | .inl r14 => (.exit 0, ⟨[], [(0, .seq tF y10), (1, .seq tF r14.1), (2, .seq tF r14.2)], 3⟩) | .inr r18 => (.ret, ⟨[(6, bV false)], [(0, .seq tF y10), (1, .seq tF r18.1), (2, .seq tF r18.2)], 3⟩)) (Le.re [(0, 0), (1, 1), (2, 2), (3, 3), (4, 4)] [] hX (by kernel_rfl)) hL51 ?_ (fun s12 x22 hx23 hk24 => ?_)
    · rcases r13 with r14 | r18
      · refine (qBlockX (qThen ?_))
        refine HT.rg2 [oH] ⟨[(6, bV true)], [(0, .seq tF y10), (1, .seq tF r14.1), (2, .seq tF r14.2)], 3⟩ hX (by kernel_rfl) allNil ?_
        obtain ⟨hg15, hr⟩ := of_guard hr
        obtain ⟨hg16, hr⟩ := of_guard hr
        obtain ⟨hg17, hr⟩ := of_guard hr
        have hr := of_some hr
        subst hr
        exact HT.ret ⟨[bV true], [], [List.length y10 = List.length a1.1, List.length r14.1 = List.length a1.2.1, List.length r14.2 = List.length a1.2.2], by kernel_rfl, by kernel_rfl, rfl, by kernel_rfl, by kernel_rfl, ⟨hg15, hg16, hg17, trivial⟩⟩
      · obtain ⟨hg19, hr⟩ := of_guard hr
        obtain ⟨hg20, hr⟩ := of_guard hr
        obtain ⟨hg21, hr⟩ := of_guard hr
        have hr := of_some hr
        subst hr
        exact (qBlockR (qThenR ⟨[bV false], [], [List.length y10 = List.length a1.1, List.length r18.1 = List.length a1.2.1, List.length r18.2 = List.length a1.2.2], by kernel_rfl, by kernel_rfl, rfl, by kernel_rfl, by kernel_rfl, ⟨hg19, hg20, hg21, trivial⟩⟩))
    · refine HT.rg2 [oH] ⟨[(3, pV 3 0), (4, pV 4 0), (7, .one (.dat (.sl tLF) y1)), (8, .one (.dat (.sl tLF) y3)), (43, nV a2), (44, iV (lenI a2)), (45, iV s12.1), (46, bV (decide (s12.1 < (lenI a2))))], [(0, .seq tF y10), (1, .seq tF s12.2.1), (2, .seq tF s12.2.2), (3, .box [iC a0.1, iC a0.2.1, lC a0.2.2.1, lC a0.2.2.2.1, lC a0.2.2.2.2]), (4, .box [.all 0, .all 1, .all 2])], 5⟩ hX (by kernel_rfl) allNil ?_
      refine HT.seq ?_
      rcases of_bif hx23 with ⟨hb25, hx23⟩ | ⟨hb25, hx23⟩
      · refine HT.cond1 rfl hb25 ?_
        refine HT.skip (qThen ?_)
        refine HT.seq ?_
        refine HT.block ?_
        obtain ⟨hg26, hx23⟩ := of_guard hx23
        refine HT.rg2 (oHs 5) ⟨[(3, pV 3 0), (4, pV 4 0), (7, .one (.dat (.sl tLF) y1)), (8, .one (.dat (.sl tLF) y3)), (11, iV s12.1), (12, iV (List.getD a2 (Int.toNat s12.1) (0 : Int))), (43, nV a2), (44, iV (lenI a2)), (45, iV s12.1)], [(0, .seq tF y10), (1, .seq tF s12.2.1), (2, .seq tF s12.2.2), (3, .box [iC a0.1, iC a0.2.1, lC a0.2.2.1, lC a0.2.2.2.1, lC a0.2.2.2.2]), (4, .box [.all 0, .all 1, .all 2])], 5⟩ hX (by kernel_rfl) (allCons hg26 allNil) ?_
        obtain ⟨hg27, hx23⟩ := of_guard hx23
        obtain ⟨hg28, hx23⟩ := of_guard hx23
        obtain ⟨y29, hc30, hx23⟩ := of_bind hx23
        refine HT.dr2 14 [⟨oH, []⟩, ⟨oH, []⟩, ⟨oH, []⟩, ⟨oH, [1, 2]⟩, ⟨oH, [1, 2, 3]⟩, ⟨oH, []⟩, ⟨oH, []⟩, ⟨oH, [5, 6]⟩, ⟨oH, [5, 6, 7]⟩, ⟨⟨none, .call [.imm (.st (.pair tI (.pair tI (.pair tLF (.pair tLF tLF))))), .imm tLF, .imm tLF] [⟨true, tLF, y29.1⟩, ⟨false, .bool, y29.2⟩] []⟩, [0, 1, 2, 3, 4, 5, 6, 7, 8]⟩, ⟨oH, [0, 1, 2, 3, 4, 5, 6, 7, 8, 9]⟩, ⟨oH, [0, 1, 2, 3, 4, 5, 6, 7, 8, 9, 10]⟩, ⟨oH, [0, 1, 2, 3, 4, 5, 6, 7, 8, 9, 10]⟩, ⟨oH, [0, 1, 2, 3, 4, 5, 6, 7, 8, 9, 10, 11]⟩] [[0, 1, 2, 3, 4, 5, 6, 7, 8, 9, 10, 11, 12, 13]] [oH] ⟨[(3, pV 3 0), (4, pV 4 0), (7, .one (.dat (.sl tLF) y1)), (8, .one (.dat (.sl tLF) y3)), (11, iV s12.1), (12, iV (List.getD a2 (Int.toNat s12.1) (0 : Int))), (13, aV 5), (14, bV y29.2), (43, nV a2), (44, iV (lenI a2)), (45, iV s12.1)], [(5, .seq tF y29.1), (0, .seq tF y10), (1, .seq tF s12.2.1), (2, .seq tF s12.2.2), (3, .box [iC a0.1, iC a0.2.1, lC a0.2.2.1, lC a0.2.2.2.1, lC a0.2.2.2.2]), (4, .box [.all 0, .all 1, .all 2])], 6⟩ hX (by kernel_rfl) (by kernel_rfl) (allCons hg27 (allCons hg28 (allCons (f55_ok hc30) allNil))) ?_
        obtain ⟨hg31, hx23⟩ := of_guard hx23
        obtain ⟨y32, hc33, hx23⟩ := of_bind hx23
        refine HT.dr2 16 [⟨oH, []⟩, ⟨oH, []⟩, ⟨oH, []⟩, ⟨oH, [1, 2]⟩, ⟨oH, [1, 2, 3]⟩, ⟨oH, []⟩, ⟨oH, []⟩, ⟨oH, [6]⟩, ⟨oH, [5, 6, 7]⟩, ⟨oH, [5, 6, 7, 8]⟩, ⟨oH, []⟩, ⟨⟨none, .call [.imm (.st (.pair tI (.pair tI (.pair tLF (.pair tLF tLF))))), .imm tLF, .imm tLF, .imm tI] [⟨true, tLF, y32.1⟩, ⟨false, .bool, y32.2⟩] []⟩, [0, 1, 2, 3, 4, 5, 6, 7, 8, 9, 10]⟩, ⟨oH, [0, 1, 2, 3, 4, 5, 6, 7, 8, 9, 10, 11]⟩, ⟨oH, [0, 1, 2, 3, 4, 5, 6, 7, 8, 9, 10, 11, 12]⟩, ⟨oH, [0, 1, 2, 3, 4, 5, 6, 7, 8, 9, 10, 11, 12]⟩, ⟨oH, [0, 1, 2, 3, 4, 5, 6, 7, 8, 9, 10, 11, 12, 13]⟩] [[0, 1, 2, 3, 4, 5, 6, 7, 8, 9, 10, 11, 12, 13, 14, 15]] [oH] ⟨[(3, pV 3 0), (4, pV 4 0), (7, .one (.dat (.sl tLF) y1)), (8, .one (.dat (.sl tLF) y3)), (12, iV (List.getD a2 (Int.toNat s12.1) (0 : Int))), (13, aV 5), (14, bV y29.2), (15, aV 6), (16, bV y32.2), (43, nV a2), (44, iV (lenI a2)), (45, iV s12.1)], [(6, .seq tF y32.1), (5, .seq tF y29.1), (0, .seq tF y10), (1, .seq tF s12.2.1), (2, .seq tF s12.2.2), (3, .box [iC a0.1, iC a0.2.1, lC a0.2.2.1, lC a0.2.2.2.1, lC a0.2.2.2.2]), (4, .box [.all 0, .all 1, .all 2])], 7⟩ hX (by kernel_rfl) (by kernel_rfl) (allCons hg27 (allCons hg31 (allCons (f58_ok hc33) allNil))) ?_
        refine HT.seq ?_
        obtain ⟨v34', hT36, hx23⟩ := of_bind hx23
        refine HT.join (fun (v34 : Bool) => ⟨[(3, pV 3 0), (4, pV 4 0), (7, .one (.dat (.sl tLF) y1)), (8, .one (.dat (.sl tLF) y3)), (12, iV (List.getD a2 (Int.toNat s12.1) (0 : Int))), (13, aV 5), (15, aV 6), (43, nV a2), (44, iV (lenI a2)), (45, iV s12.1), (83, bV v34)], [(0, .seq tF y10), (1, .seq tF s12.2.1), (2, .seq tF s12.2.2), (3, .box [iC a0.1, iC a0.2.1, lC a0.2.2.1, lC a0.2.2.2.1, lC a0.2.2.2.2]), (4, .box [.all 0, .all 1, .all 2]), (5, .seq tF y29.1), (6, .seq tF y32.1)], 7⟩) (fun v => v = v34') (fun v34 hv35 => ?_) (fun cont => ?_)
        · subst hv35
          rcases of_bif hx23 with ⟨hb37, hx23⟩ | ⟨hb37, hx23⟩
          · refine HT.cond1 rfl hb37 ?_
            refine HT.rg2 [oH] ⟨[(6, bV false)], [(0, .seq tF y10), (1, .seq tF s12.2.1), (2, .seq tF s12.2.2)], 7⟩ hX (by kernel_rfl) allNil ?_
            have hx23 := of_some hx23
            subst hx23
            exact HT.retL (Le.re [(0, 0), (1, 1), (2, 2)] [] hX (by kernel_rfl)) (qThenR (qBlockR (qThenR (qLoopR (hk24 (.inr (s12.2.1, s12.2.2)) rfl)))))
          · refine HT.cond0 rfl hb37 ?_
            refine HT.skip (qThen ?_)
            refine HT.seq ?_
            refine HT.rg2 (oHs 3) ⟨[(3, pV 3 0), (4, pV 4 0), (7, .one (.dat (.sl tLF) y1)), (8, .one (.dat (.sl tLF) y3)), (12, iV (List.getD a2 (Int.toNat s12.1) (0 : Int))), (15, aV 6), (43, nV a2), (44, iV (lenI a2)), (45, iV s12.1), (84, aV 5), (85, iV (lenI y29.1)), (86, iV (0 : Int))], [(0, .seq tF y10), (1, .seq tF s12.2.1), (2, .seq tF s12.2.2), (3, .box [iC a0.1, iC a0.2.1, lC a0.2.2.1, lC a0.2.2.2.1, lC a0.2.2.2.2]), (4, .box [.all 0, .all 1, .all 2]), (5, .seq tF y29.1), (6, .seq tF y32.1)], 7⟩ hX (by kernel_rfl) allNil ?_
            refine HT.block ?_
            obtain ⟨r39, hL49, hx23⟩ := of_bind hx23
            refine HT.loopL (fun (s38 : Int × List Nat) => ⟨[(3, pV 3 0), (4, pV 4 0), (7, .one (.dat (.sl tLF) y1)), (8, .one (.dat (.sl tLF) y3)), (12, iV (List.getD a2 (Int.toNat s12.1) (0 : Int))), (15, aV 5), (43, nV a2), (44, iV (lenI a2)), (45, iV s12.1), (84, aV 6), (85, iV (lenI y29.1)), (86, iV s38.1)], [(0, .seq tF y10), (1, .seq tF s12.2.1), (2, .seq tF s38.2), (3, .box [iC a0.1, iC a0.2.1, lC a0.2.2.1, lC a0.2.2.2.1, lC a0.2.2.2.2]), (4, .box [.all 0, .all 1, .all 2]), (5, .seq tF y32.1), (6, .seq tF y29.1)], 7⟩) (fun (r40 : List Nat) => (.exit 2, ⟨[(3, pV 3 0), (4, pV 4 0), (7, .one (.dat (.sl tLF) y1)), (8, .one (.dat (.sl tLF) y3)), (15, aV 5), (43, nV a2), (44, iV (lenI a2)), (45, iV s12.1)], [(0, .seq tF y10), (1, .seq tF s12.2.1), (2, .seq tF r40), (3, .box [iC a0.1, iC a0.2.1, lC a0.2.2.1, lC a0.2.2.2.1, lC a0.2.2.2.2]), (4, .box [.all 0, .all 1, .all 2]), (5, .seq tF y32.1)], 6⟩)) (Le.re [(0, 0), (1, 1), (2, 2), (3, 3), (4, 4), (6, 5), (5, 6)] [] hX (by kernel_rfl)) hL49 ?_ (fun s38 x43 hx44 hk45 => ?_)
            · refine (qBlockX (qThen ?_))
              obtain ⟨y41, hc42, hx23⟩ := of_bind hx23
              refine HT.rgL [oH, oH, oH, ⟨none, .call [.own tLF, .imm tLF] [] [⟨tLF, y41⟩]⟩] ⟨[(3, pV 3 0), (4, pV 4 0), (7, .one (.dat (.sl tLF) y1)), (8, .one (.dat (.sl tLF) y3)), (43, nV a2), (44, iV (lenI a2)), (45, iV s12.1)], [(1, .seq tF y41), (0, .seq tF y10), (2, .seq tF r39), (3, .box [iC a0.1, iC a0.2.1, lC a0.2.2.1, lC a0.2.2.2.1, lC a0.2.2.2.2]), (4, .box [.all 0, .all 1, .all 2])], 6⟩ hX (by kernel_rfl) (allCons (f91_ok hc42) allNil) (qBlock (qThen ?_))
              have hx23 := of_some hx23
              subst hx23
              exact HT.rgK (oHs 2) [(0, 0), (1, 1), (2, 2), (3, 3), (4, 4)] [] hX (by kernel_rfl) allNil (fun _ h => (qLoopN ⟨((wadd .i64 s12.1 (1 : Int)), y41, r39), rfl, h⟩))
            · refine HT.rg2 [oH] ⟨[(3, pV 3 0), (4, pV 4 0), (7, .one (.dat (.sl tLF) y1)), (8, .one (.dat (.sl tLF) y3)), (12, iV (List.getD a2 (Int.toNat s12.1) (0 : Int))), (15, aV 5), (43, nV a2), (44, iV (lenI a2)), (45, iV s12.1), (84, aV 6), (85, iV (lenI y29.1)), (86, iV s38.1), (87, bV (decide (s38.1 < (lenI y29.1))))], [(0, .seq tF y10), (1, .seq tF s12.2.1), (2, .seq tF s38.2), (3, .box [iC a0.1, iC a0.2.1, lC a0.2.2.1, lC a0.2.2.2.1, lC a0.2.2.2.2]), (4, .box [.all 0, .all 1, .all 2]), (5, .seq tF y32.1), (6, .seq tF y29.1)], 7⟩ hX (by kernel_rfl) allNil ?_
              refine HT.seq ?_
              rcases of_bif hx44 with ⟨hb46, hx44⟩ | ⟨hb46, hx44⟩
              · refine HT.cond1 rfl hb46 ?_
                refine HT.skip (qThen ?_)
                refine HT.seq ?_
                refine HT.block ?_
                obtain ⟨hg47, hx44⟩ := of_guard hx44
                refine HT.rg2 (oHs 5) ⟨[(3, pV 3 0), (4, pV 4 0), (7, .one (.dat (.sl tLF) y1)), (8, .one (.dat (.sl tLF) y3)), (12, iV (List.getD a2 (Int.toNat s12.1) (0 : Int))), (15, aV 5), (17, iV s38.1), (18, fV (List.getD y29.1 (Int.toNat s38.1) (0 : Nat))), (43, nV a2), (44, iV (lenI a2)), (45, iV s12.1), (84, aV 6), (85, iV (lenI y29.1)), (86, iV s38.1)], [(0, .seq tF y10), (1, .seq tF s12.2.1), (2, .seq tF s38.2), (3, .box [iC a0.1, iC a0.2.1, lC a0.2.2.1, lC a0.2.2.2.1, lC a0.2.2.2.2]), (4, .box [.all 0, .all 1, .all 2]), (5, .seq tF y32.1), (6, .seq tF y29.1)], 7⟩ hX (by kernel_rfl) (allCons hg47 (allCons (natLt hg47) allNil)) ?_
                refine HT.rg2 (oHs 7) ⟨[(3, pV 3 0), (4, pV 4 0), (7, .one (.dat (.sl tLF) y1)), (8, .one (.dat (.sl tLF) y3)), (12, iV (List.getD a2 (Int.toNat s12.1) (0 : Int))), (15, aV 5), (18, fV (List.getD y29.1 (Int.toNat s38.1) (0 : Nat))), (19, iV (wadd .i64 (wmul .i64 s38.1 a0.2.1) (List.getD a2 (Int.toNat s12.1) (0 : Int)))), (43, nV a2), (44, iV (lenI a2)), (45, iV s12.1), (84, aV 6), (85, iV (lenI y29.1)), (86, iV s38.1)], [(0, .seq tF y10), (1, .seq tF s12.2.1), (2, .seq tF s38.2), (3, .box [iC a0.1, iC a0.2.1, lC a0.2.2.1, lC a0.2.2.2.1, lC a0.2.2.2.2]), (4, .box [.all 0, .all 1, .all 2]), (5, .seq tF y32.1), (6, .seq tF y29.1)], 7⟩ hX (by kernel_rfl) allNil ?_
                obtain ⟨hg48, hx44⟩ := of_guard hx44
                refine HT.drL 10 [⟨oH, []⟩, ⟨oH, [0]⟩, ⟨oH, []⟩, ⟨oH, []⟩, ⟨oH, [3]⟩, ⟨oH, []⟩, ⟨oH, [3, 4, 5]⟩, ⟨oH, [3, 4, 5, 6]⟩, ⟨oH, []⟩, ⟨oH, [3, 4, 5, 6, 7, 8]⟩] [[0, 1, 2, 3, 4, 5, 6, 7, 8, 9], [0, 1, 2, 3, 4, 5, 6, 7, 8, 9, 10]] (oHs 2) ⟨[(3, pV 3 0), (4, pV 4 0), (7, .one (.dat (.sl tLF) y1)), (8, .one (.dat (.sl tLF) y3)), (12, iV (List.getD a2 (Int.toNat s12.1) (0 : Int))), (15, aV 5), (43, nV a2), (44, iV (lenI a2)), (45, iV s12.1), (84, aV 6), (85, iV (lenI y29.1)), (86, iV s38.1)], [(2, .seq tF (List.set s38.2 (Int.toNat (wadd .i64 (wmul .i64 s38.1 a0.2.1) (List.getD a2 (Int.toNat s12.1) (0 : Int)))) (fop .add .f32 (List.getD s38.2 (Int.toNat (wadd .i64 (wmul .i64 s38.1 a0.2.1) (List.getD a2 (Int.toNat s12.1) (0 : Int)))) (0 : Nat)) (List.getD y29.1 (Int.toNat s38.1) (0 : Nat))))), (0, .seq tF y10), (1, .seq tF s12.2.1), (3, .box [iC a0.1, iC a0.2.1, lC a0.2.2.1, lC a0.2.2.2.1, lC a0.2.2.2.2]), (4, .box [.all 0, .all 1, .all 2]), (5, .seq tF y32.1), (6, .seq tF y29.1)], 7⟩ hX (by kernel_rfl) (by kernel_rfl) (allCons hg48 (allCons (natLt hg48) (allCons hg48 (allCons (natLt hg48) allNil)))) (qBlock (qThen ?_))
                have hx44 := of_some hx44
                subst hx44
                exact HT.rgK (oHs 2) [(0, 0), (1, 1), (2, 2), (3, 3), (4, 4), (5, 5), (6, 6)] [] hX (by kernel_rfl) allNil (fun _ h => (qLoopN ⟨((wadd .i64 s38.1 (1 : Int)), (List.set s38.2 (Int.toNat (wadd .i64 (wmul .i64 s38.1 a0.2.1) (List.getD a2 (Int.toNat s12.1) (0 : Int)))) (fop .add .f32 (List.getD s38.2 (Int.toNat (wadd .i64 (wmul .i64 s38.1 a0.2.1) (List.getD a2 (Int.toNat s12.1) (0 : Int)))) (0 : Nat)) (List.getD y29.1 (Int.toNat s38.1) (0 : Nat))))), rfl, h⟩))
              · refine HT.cond0 rfl hb46 ?_
                have hx44 := of_some hx44
                subst hx44
                exact HT.exitL (Le.re [(0, 0), (1, 1), (2, 2), (3, 3), (4, 4), (5, 5)] [] hX (by kernel_rfl)) (qThenE (qLoopE (hk45 s38.2 rfl)))
        · rcases of_bif hT36 with ⟨hb50, hT36⟩ | ⟨hb50, hT36⟩
          · exact HT.rgK [oH, oH, oH, ⟨some true, .no⟩, ⟨some true, .no⟩, ⟨none, .tv true⟩] [(0, 0), (1, 1), (2, 2), (3, 3), (4, 4), (5, 5), (6, 6)] [] hX (by kernel_rfl) (allCons hb50 (allCons hb50 (allCons hb50 allNil))) (fun _ h => (qThen (h.ht (cont true (of_some hT36)))))
          · exact HT.rgK [oH, oH, oH, ⟨some false, .no⟩, ⟨some false, .no⟩, ⟨none, .tv false⟩] [(0, 0), (1, 1), (2, 2), (3, 3), (4, 4), (5, 5), (6, 6)] [] hX (by kernel_rfl) (allCons hb50 (allCons hb50 (allCons hb50 allNil))) (fun _ h => (qThen (h.ht (cont (!y32.2) (of_some hT36)))))
      · refine HT.cond0 rfl hb25 ?_
        have hx23 := of_some hx23
        subst hx23
        exact HT.exitL (Le.re [(0, 0), (1, 1), (2, 2)] [] hX (by kernel_rfl)) (qThenE (qLoopE (hk24 (.inl (s12.2.1, s12.2.2)) rfl)))

noncomputable def impl_LearnOnce_B1 (a0 : Int × Int × List Nat × List Nat × List Nat) (a1 : List (List Int)) (s6 : Int × List Nat × List Nat × List Nat) : Option ((Int × List Nat × List Nat × List Nat) ⊕ ((List Nat × List Nat × List Nat) ⊕ Unit)) :=
  bif (decide (s6.1 < (lenI a1))) then
    guardP ((0 : Int) ≤ s6.1 ∧ s6.1 < lenI a1) (
      (impl_Model_learnWord (a0.1, a0.2.1, a0.2.2.1, a0.2.2.2.1, a0.2.2.2.2) (s6.2.1, s6.2.2.1, s6.2.2.2) (List.getD a1 (Int.toNat s6.1) ([] : List Int))).bind fun y17 =>
      bif (!y17.1) then
        some (.inr (.inr ()))
      else
        some (.inl ((wadd .i64 s6.1 (1 : Int)), y17.2.1, y17.2.2.1, y17.2.2.2)))
  else
    some (.inr (.inl (s6.2.1, s6.2.2.1, s6.2.2.2)))

noncomputable def impl_LearnOnce (a0 : Int × Int × List Nat × List Nat × List Nat) (a1 : List (List Int)) : Option ((Int × Int × List Nat × List Nat × List Nat) × Bool) :=
  (impl_Model_haveWords (a0.1, a0.2.1, a0.2.2.1, a0.2.2.2.1, a0.2.2.2.2) a1).bind fun y1 =>
  bif (!y1) then
    some (((0 : Int), (0 : Int), ([] : List Nat), ([] : List Nat), ([] : List Nat)), false)
  else
    (impl_Model_noCounts (a0.1, a0.2.1, a0.2.2.1, a0.2.2.2.1, a0.2.2.2.2)).bind fun y4 =>
    (rounds (impl_LearnOnce_B1 a0 a1) ((0 : Int), y4.1, y4.2.1, y4.2.2)).bind fun r7 => match r7 with
      | .inl r8 =>
        (impl_Model_told (a0.1, a0.2.1, a0.2.2.1, a0.2.2.2.1, a0.2.2.2.2) (r8.1, r8.2.1, r8.2.2)).bind fun y9 =>
        some ((y9.1.1, y9.1.2.1, y9.1.2.2.1, y9.1.2.2.2.1, y9.1.2.2.2.2), y9.2)
      | .inr r11 =>
        some (((0 : Int), (0 : Int), ([] : List Nat), ([] : List Nat), ([] : List Nat)), false)

theorem f29_ok {a0 : Int × Int × List Nat × List Nat × List Nat} {a1 : List (List Int)} {r : (Int × Int × List Nat × List Nat × List Nat) × Bool} (hr : impl_LearnOnce a0 a1 = some r) : CallOK Try.prog 29 [.imm (.st (.pair tI (.pair tI (.pair tLF (.pair tLF tLF))))) a0, .imm (.sl tLI) a1] [⟨true, (.st (.pair tI (.pair tI (.pair tLF (.pair tLF tLF))))), r.1⟩, ⟨false, .bool, r.2⟩] [] := by
  unfold impl_LearnOnce at hr
  refine CallOK.of_body (ts := [(true, (.st (.pair tI (.pair tI (.pair tLF (.pair tLF tLF)))))), (false, .bool)]) Try.func29 rfl (by kernel_rfl) (Nat.le_of_ble_eq_true (by kernel_rfl)) fun cx hP hN hO hF => ?_
  have hO : cx.own.map Prod.fst = [] := hO
  have hX := CxIs.mk hP hN hO
  have hF := hF rfl
  show HT cx ⟨[(0, .agg [iC a0.1, iC a0.2.1, lC a0.2.2.1, lC a0.2.2.2.1, lC a0.2.2.2.2]), (1, .one (.dat (.sl tLI) a1))], [], 0⟩ _ _
  refine HT.rg2 (oHs 3) ⟨[(1, .one (.dat (.sl tLI) a1)), (2, pV 0 0), (4, pV 1 0)], [(1, .box [iC (0 : Int), iC (0 : Int), .nilS, .nilS, .nilS]), (0, .box [iC a0.1, iC a0.2.1, lC a0.2.2.1, lC a0.2.2.2.1, lC a0.2.2.2.2])], 2⟩ hX (by kernel_rfl) allNil ?_
  refine HT.seq ?_
  obtain ⟨y1, hc2, hr⟩ := of_bind hr
  refine HT.rg2 [oH, oH, ⟨none, .call [.imm (.st (.pair tI (.pair tI (.pair tLF (.pair tLF tLF))))), .imm (.sl tLI)] [⟨false, .bool, y1⟩] []⟩, oH] ⟨[(1, .one (.dat (.sl tLI) a1)), (2, pV 0 0), (4, pV 1 0), (12, bV (!y1))], [(1, .box [iC (0 : Int), iC (0 : Int), .nilS, .nilS, .nilS]), (0, .box [iC a0.1, iC a0.2.1, lC a0.2.2.1, lC a0.2.2.2.1, lC a0.2.2.2.2])], 2⟩ hX (by kernel_rfl) (allCons (f62_ok hc2) allNil) ?_
  rcases of_bif hr with ⟨hb3, hr⟩ | ⟨hb3, hr⟩
  · refine HT.cond1 rfl hb3 ?_
    refine HT.rg2 (oHs 3) ⟨[(4, pV 1 0), (5, bV false)], [(1, .box [iC (0 : Int), iC (0 : Int), .nilS, .nilS, .nilS])], 2⟩ hX (by kernel_rfl) allNil ?_
    have hr := of_some hr
    subst hr
    exact HT.ret (qThenR ⟨[.agg [iC (0 : Int), iC (0 : Int), .nilS, .nilS, .nilS], bV false], [], [], by kernel_rfl, by kernel_rfl, rfl, by kernel_rfl, by kernel_rfl, trivial⟩)
  · refine HT.cond0 rfl hb3 ?_
    refine HT.skip (qThen ?_)
    obtain ⟨y4, hc5, hr⟩ := of_bind hr
    refine HT.rg2 [oH, ⟨none, .call [.imm (.st (.pair tI (.pair tI (.pair tLF (.pair tLF tLF)))))] [⟨true, (.st (.pair tLF (.pair tLF tLF))), y4⟩] []⟩, oH, oH] ⟨[(1, .one (.dat (.sl tLI) a1)), (2, pV 0 0), (4, pV 1 0), (6, pV 5 0)], [(5, .box [.all 2, .all 3, .all 4]), (2, .seq tF y4.1), (3, .seq tF y4.2.1), (4, .seq tF y4.2.2), (1, .box [iC (0 : Int), iC (0 : Int), .nilS, .nilS, .nilS]), (0, .box [iC a0.1, iC a0.2.1, lC a0.2.2.1, lC a0.2.2.2.1, lC a0.2.2.2.2])], 6⟩ hX (by kernel_rfl) (allCons (f63_ok hc5) allNil) ?_
    refine HT.seq ?_
    refine HT.rg2 (oHs 3) ⟨[(2, pV 0 0), (4, pV 1 0), (6, pV 5 0), (16, .one (.dat (.sl tLI) a1)), (17, iV (lenI a1)), (18, iV (0 : Int))], [(5, .box [.all 2, .all 3, .all 4]), (2, .seq tF y4.1), (3, .seq tF y4.2.1), (4, .seq tF y4.2.2), (1, .box [iC (0 : Int), iC (0 : Int), .nilS, .nilS, .nilS]), (0, .box [iC a0.1, iC a0.2.1, lC a0.2.2.1, lC a0.2.2.2.1, lC a0.2.2.2.2])], 6⟩ hX (by kernel_rfl) allNil ?_
    refine HT.block ?_
    obtain ⟨r7, hL20, hr⟩ := of_bind hr
    refine HT.loopL (fun (s6 : Int × List Nat × List Nat × List Nat) => ⟨[(2, pV 0 0), (4, pV 1 0), (6, pV 2 0), (16, .one (.dat (.sl tLI) a1)), (17, iV (lenI a1)), (18, iV s6.1)], [(0, .box [iC a0.1, iC a0.2.1, lC a0.2.2.1, lC a0.2.2.2.1, lC a0.2.2.2.2]), (1, .box [iC (0 : Int), iC (0 : Int), .nilS, .nilS, .nilS]), (2, .box [.all 3, .all 4, .all 5]), (3, .seq tF s6.2.1), (4, .seq tF s6.2.2.1), (5, .seq tF s6.2.2.2)], 6⟩) (fun (r7 : (List Nat × List Nat × List Nat) ⊕ Unit) => match r7 with | .inl r8 => (.exit 0, ⟨[(2, pV 0 0), (4, pV 1 0), (6, pV 2 0)], [(0, .box [iC a0.1, iC a0.2.1, lC a0.2.2.1, lC a0.2.2.2.1, lC a0.2.2.2.2]), (1, .box [iC (0 : Int), iC (0 : Int), .nilS, .nilS, .nilS]), (2, .box [.all 3, .all 4, .all 5]), (3, .seq tF r8.1), (4, .seq tF r8.2.1), (5, .seq tF r8.2.2)], 6⟩) | .inr r11 => (.ret, ⟨[(4, pV 0 0), (5, bV false)], [(0, .box [iC (0 : Int), iC (0 : Int), .nilS, .nilS, .nilS])], 1⟩)) (Le.re [(0, 0), (1, 1), (5, 2), (2, 3), (3, 4), (4, 5)] [] hX (by kernel_rfl)) hL20 ?_ (fun s6 x12 hx13 hk14 => ?_)
    · rcases r7 with r8 | r11
      · refine (qBlockX (qThen ?_))
        obtain ⟨y9, hc10, hr⟩ := of_bind hr
        refine HT.rg2 [oH, oH, ⟨none, .call [.imm (.st (.pair tI (.pair tI (.pair tLF (.pair tLF tLF))))), .imm (.st (.pair tLF (.pair tLF tLF)))] [⟨true, (.st (.pair tI (.pair tI (.pair tLF (.pair tLF tLF))))), y9.1⟩, ⟨false, .bool, y9.2⟩] []⟩, oH, oH, oH, oH] ⟨[(4, pV 1 0), (5, bV y9.2)], [(1, .box [iC y9.1.1, iC y9.1.2.1, .all 6, .all 7, .all 8]), (6, .seq tF y9.1.2.2.1), (7, .seq tF y9.1.2.2.2.1), (8, .seq tF y9.1.2.2.2.2)], 9⟩ hX (by kernel_rfl) (allCons (f65_ok hc10) allNil) ?_
        have hr := of_some hr
        subst hr
        exact HT.ret ⟨[.agg [iC y9.1.1, iC y9.1.2.1, .all 6, .all 7, .all 8], bV y9.2], [6, 7, 8], [], by kernel_rfl, by kernel_rfl, rfl, by kernel_rfl, by kernel_rfl, trivial⟩
      · have hr := of_some hr
        subst hr
        exact (qBlockR (qThenR ⟨[.agg [iC (0 : Int), iC (0 : Int), .nilS, .nilS, .nilS], bV false], [], [], by kernel_rfl, by kernel_rfl, rfl, by kernel_rfl, by kernel_rfl, trivial⟩))
    · refine HT.rg2 [oH] ⟨[(2, pV 0 0), (4, pV 1 0), (6, pV 2 0), (16, .one (.dat (.sl tLI) a1)), (17, iV (lenI a1)), (18, iV s6.1), (19, bV (decide (s6.1 < (lenI a1))))], [(0, .box [iC a0.1, iC a0.2.1, lC a0.2.2.1, lC a0.2.2.2.1, lC a0.2.2.2.2]), (1, .box [iC (0 : Int), iC (0 : Int), .nilS, .nilS, .nilS]), (2, .box [.all 3, .all 4, .all 5]), (3, .seq tF s6.2.1), (4, .seq tF s6.2.2.1), (5, .seq tF s6.2.2.2)], 6⟩ hX (by kernel_rfl) allNil ?_
      refine HT.seq ?_
      rcases of_bif hx13 with ⟨hb15, hx13⟩ | ⟨hb15, hx13⟩
      · refine HT.cond1 rfl hb15 ?_
        refine HT.skip (qThen ?_)
        refine HT.seq ?_
        refine HT.block ?_
        obtain ⟨hg16, hx13⟩ := of_guard hx13
        refine HT.rg2 (oHs 3) ⟨[(2, pV 0 0), (4, pV 1 0), (6, pV 2 0), (8, nV (List.getD a1 (Int.toNat s6.1) ([] : List Int))), (16, .one (.dat (.sl tLI) a1)), (17, iV (lenI a1)), (18, iV s6.1)], [(0, .box [iC a0.1, iC a0.2.1, lC a0.2.2.1, lC a0.2.2.2.1, lC a0.2.2.2.2]), (1, .box [iC (0 : Int), iC (0 : Int), .nilS, .nilS, .nilS]), (2, .box [.all 3, .all 4, .all 5]), (3, .seq tF s6.2.1), (4, .seq tF s6.2.2.1), (5, .seq tF s6.2.2.2)], 6⟩ hX (by kernel_rfl) (allCons hg16 allNil) ?_
        obtain ⟨y17, hc18, hx13⟩ := of_bind hx13
        refine HT.rg2 [oH, oH, oH, ⟨none, .call [.imm (.st (.pair tI (.pair tI (.pair tLF (.pair tLF tLF))))), .own (.st (.pair tLF (.pair tLF tLF))), .imm tLI] [⟨false, .bool, y17.1⟩] [⟨(.st (.pair tLF (.pair tLF tLF))), y17.2⟩]⟩, oH] ⟨[(2, pV 0 0), (4, pV 1 0), (6, pV 2 0), (16, .one (.dat (.sl tLI) a1)), (17, iV (lenI a1)), (18, iV s6.1), (26, bV (!y17.1))], [(3, .seq tF y17.2.1), (4, .seq tF y17.2.2.1), (5, .seq tF y17.2.2.2), (0, .box [iC a0.1, iC a0.2.1, lC a0.2.2.1, lC a0.2.2.2.1, lC a0.2.2.2.2]), (1, .box [iC (0 : Int), iC (0 : Int), .nilS, .nilS, .nilS]), (2, .box [.all 3, .all 4, .all 5])], 6⟩ hX (by kernel_rfl) (allCons (f64_ok hc18) allNil) ?_
        rcases of_bif hx13 with ⟨hb19, hx13⟩ | ⟨hb19, hx13⟩
        · refine HT.cond1 rfl hb19 ?_
          refine HT.rg2 (oHs 3) ⟨[(4, pV 1 0), (5, bV false)], [(1, .box [iC (0 : Int), iC (0 : Int), .nilS, .nilS, .nilS])], 6⟩ hX (by kernel_rfl) allNil ?_
          have hx13 := of_some hx13
          subst hx13
          exact HT.retL (Le.re [(1, 0)] [] hX (by kernel_rfl)) (qBlockR (qThenR (qLoopR (hk14 (.inr ()) rfl))))
        · refine HT.cond0 rfl hb19 ?_
          refine HT.skip (qBlock (qThen ?_))
          have hx13 := of_some hx13
          subst hx13
          exact HT.rgK (oHs 2) [(0, 0), (1, 1), (2, 2), (3, 3), (4, 4), (5, 5)] [] hX (by kernel_rfl) allNil (fun _ h => (qLoopN ⟨((wadd .i64 s6.1 (1 : Int)), y17.2.1, y17.2.2.1, y17.2.2.2), rfl, h⟩))
      · refine HT.cond0 rfl hb15 ?_
        have hx13 := of_some hx13
        subst hx13
        exact HT.exitL (Le.re [(0, 0), (1, 1), (2, 2), (3, 3), (4, 4), (5, 5)] [] hX (by kernel_rfl)) (qThenE (qLoopE (hk14 (.inl (s6.2.1, s6.2.2.1, s6.2.2.2)) rfl)))

noncomputable def laws_sameFloat (a0 : Nat) (a1 : Nat) : Option (Bool) :=
  (show Option (Bool) from
    bif (!(feq .f64 a0 a0)) then
      some true
    else
      some (!(feq .f64 a1 a1))).bind fun v1 =>
  bif v1 then
    (show Option (Bool) from
      bif (!(feq .f64 a0 a0)) then
        some (!(feq .f64 a1 a1))
      else
        some false).bind fun v5 =>
    some v5
  else
    (show Option (Bool) from
      bif (feq .f64 a0 (0 : Nat)) then
        some (feq .f64 a1 (0 : Nat))
      else
        some false).bind fun v9 =>
    bif v9 then
      some ((fgt .f64 (fop .quo .f64 (4607182418800017408 : Nat) a0) (0 : Nat)) == (fgt .f64 (fop .quo .f64 (4607182418800017408 : Nat) a1) (0 : Nat)))
    else
      some (feq .f64 a0 a1)

theorem f51_ok {a0 : Nat} {a1 : Nat} {r : Bool} (hr : laws_sameFloat a0 a1 = some r) : CallOK Try.prog 51 [.imm (.flt .f64) a0, .imm (.flt .f64) a1] [⟨false, .bool, r⟩] [] := by
  unfold laws_sameFloat at hr
  refine CallOK.of_body (ts := [(false, .bool)]) Try.func51 rfl (by kernel_rfl) (Nat.le_of_ble_eq_true (by kernel_rfl)) fun cx hP hN hO hF => ?_
  have hO : cx.own.map Prod.fst = [] := hO
  have hX := CxIs.mk hP hN hO
  have hF := hF rfl
  show HT cx ⟨[(0, .one (.dat (.flt .f64) a0)), (1, .one (.dat (.flt .f64) a1))], [], 0⟩ _ _
  refine HT.rg2 [oH] ⟨[(0, .one (.dat (.flt .f64) a0)), (1, .one (.dat (.flt .f64) a1))], [], 0⟩ hX (by kernel_rfl) allNil ?_
  refine HT.seq ?_
  obtain ⟨v1', hT3, hr⟩ := of_bind hr
  refine HT.join (fun (v1 : Bool) => ⟨[(0, .one (.dat (.flt .f64) a0)), (1, .one (.dat (.flt .f64) a1)), (12, bV v1)], [], 0⟩) (fun v => v = v1') (fun v1 hv2 => ?_) (fun cont => ?_)
  · subst hv2
    rcases of_bif hr with ⟨hb4, hr⟩ | ⟨hb4, hr⟩
    · refine HT.cond1 rfl hb4 ?_
      obtain ⟨v5', hT7, hr⟩ := of_bind hr
      refine HT.join (fun (v5 : Bool) => ⟨[(4, bV v5)], [], 0⟩) (fun v => v = v5') (fun v5 hv6 => ?_) (fun cont => ?_)
      · subst hv6
        have hr := of_some hr
        subst hr
        exact HT.ret (qThenR ⟨[bV v5], [], [], by kernel_rfl, by kernel_rfl, rfl, by kernel_rfl, by kernel_rfl, trivial⟩)
      · rcases of_bif hT7 with ⟨hb8, hT7⟩ | ⟨hb8, hT7⟩
        · exact HT.rgK [oH, oH, oH, oH, ⟨some true, .no⟩, ⟨some true, .no⟩, ⟨some true, .no⟩, ⟨none, .tv true⟩, oH] [] [] hX (by kernel_rfl) (allCons hb8 (allCons hb8 (allCons hb8 (allCons hb8 allNil)))) (fun _ h => (qThen (h.ht (cont (!(feq .f64 a1 a1)) (of_some hT7)))))
        · exact HT.rgK [oH, oH, oH, oH, ⟨some false, .no⟩, ⟨some false, .no⟩, ⟨some false, .no⟩, ⟨none, .tv false⟩, oH] [] [] hX (by kernel_rfl) (allCons hb8 (allCons hb8 (allCons hb8 (allCons hb8 allNil)))) (fun _ h => (qThen (h.ht (cont false (of_some hT7)))))
    · refine HT.cond0 rfl hb4 ?_
      refine HT.skip (qThen ?_)
      refine HT.seq ?_
      obtain ⟨v9', hT11, hr⟩ := of_bind hr
      refine HT.join (fun (v9 : Bool) => ⟨[(0, .one (.dat (.flt .f64) a0)), (1, .one (.dat (.flt .f64) a1)), (26, bV v9)], [], 0⟩) (fun v => v = v9') (fun v9 hv10 => ?_) (fun cont => ?_)
      · subst hv10
        rcases of_bif hr with ⟨hb12, hr⟩ | ⟨hb12, hr⟩
        · refine HT.cond1 rfl hb12 ?_
          refine HT.rg2 (oHs 8) ⟨[(4, bV ((fgt .f64 (fop .quo .f64 (4607182418800017408 : Nat) a0) (0 : Nat)) == (fgt .f64 (fop .quo .f64 (4607182418800017408 : Nat) a1) (0 : Nat))))], [], 0⟩ hX (by kernel_rfl) allNil ?_
          have hr := of_some hr
          subst hr
          exact HT.ret (qThenR ⟨[bV ((fgt .f64 (fop .quo .f64 (4607182418800017408 : Nat) a0) (0 : Nat)) == (fgt .f64 (fop .quo .f64 (4607182418800017408 : Nat) a1) (0 : Nat)))], [], [], by kernel_rfl, by kernel_rfl, rfl, by kernel_rfl, by kernel_rfl, trivial⟩)
        · refine HT.cond0 rfl hb12 ?_
          refine HT.skip (qThen ?_)
          refine HT.rg2 (oHs 4) ⟨[(4, bV (feq .f64 a0 a1))], [], 0⟩ hX (by kernel_rfl) allNil ?_
          have hr := of_some hr
          subst hr
          exact HT.ret ⟨[bV (feq .f64 a0 a1)], [], [], by kernel_rfl, by kernel_rfl, rfl, by kernel_rfl, by kernel_rfl, trivial⟩
      · rcases of_bif hT11 with ⟨hb13, hT11⟩ | ⟨hb13, hT11⟩
        · exact HT.rgK [oH, oH, oH, ⟨some true, .no⟩, ⟨some true, .no⟩, ⟨none, .tv true⟩] [] [] hX (by kernel_rfl) (allCons hb13 (allCons hb13 (allCons hb13 allNil))) (fun _ h => (qThen (h.ht (cont (feq .f64 a1 (0 : Nat)) (of_some hT11)))))
        · exact HT.rgK [oH, oH, oH, ⟨some false, .no⟩, ⟨some false, .no⟩, ⟨none, .tv false⟩] [] [] hX (by kernel_rfl) (allCons hb13 (allCons hb13 (allCons hb13 allNil))) (fun _ h => (qThen (h.ht (cont false (of_some hT11)))))
  · rcases of_bif hT3 with ⟨hb14, hT3⟩ | ⟨hb14, hT3⟩
    · exact HT.rgK [oH, oH, oH, oH, ⟨some true, .no⟩, ⟨some true, .no⟩, ⟨some true, .no⟩, ⟨none, .tv true⟩] [] [] hX (by kernel_rfl) (allCons hb14 (allCons hb14 (allCons hb14 (allCons hb14 allNil)))) (fun _ h => (qThen (h.ht (cont true (of_some hT3)))))
    · exact HT.rgK [oH, oH, oH, oH, ⟨some false, .no⟩, ⟨some false, .no⟩, ⟨some false, .no⟩, ⟨none, .tv false⟩] [] [] hX (by kernel_rfl) (allCons hb14 (allCons hb14 (allCons hb14 (allCons hb14 allNil)))) (fun _ h => (qThen (h.ht (cont (!(feq .f64 a1 a1)) (of_some hT3)))))

noncomputable def laws_eqFloat32S_B1 (a0 : List Nat) (a1 : List Nat) (s2 : Int) : Option ((Int) ⊕ (Unit ⊕ Unit)) :=
  bif (decide (s2 < (lenI a0))) then
    guardP ((0 : Int) ≤ s2 ∧ s2 < lenI a0) (
      guardP ((0 : Int) ≤ s2 ∧ s2 < lenI a1) (
        (laws_sameFloat (fconv .f32 .f64 (List.getD a0 (Int.toNat s2) (0 : Nat))) (fconv .f32 .f64 (List.getD a1 (Int.toNat s2) (0 : Nat)))).bind fun y12 =>
        bif (!y12) then
          some (.inr (.inr ()))
        else
          some (.inl (wadd .i64 s2 (1 : Int)))))
  else
    some (.inr (.inl ()))

noncomputable def laws_eqFloat32S (a0 : List Nat) (a1 : List Nat) : Option (Bool) :=
  bif ((lenI a0) != (lenI a1)) then
    some false
  else
    (rounds (laws_eqFloat32S_B1 a0 a1) (0 : Int)).bind fun r3 => match r3 with
      | .inl r4 =>
        some true
      | .inr r5 =>
        some false

theorem f15_ok {a0 : List Nat} {a1 : List Nat} {r : Bool} (hr : laws_eqFloat32S a0 a1 = some r) : CallOK Try.prog 15 [.imm tLF a0, .imm tLF a1] [⟨false, .bool, r⟩] [] := by
  unfold laws_eqFloat32S at hr
  refine CallOK.of_body (ts := [(false, .bool)]) Try.func15 rfl (by kernel_rfl) (Nat.le_of_ble_eq_true (by kernel_rfl)) fun cx hP hN hO hF => ?_
  have hO : cx.own.map Prod.fst = [] := hO
  have hX := CxIs.mk hP hN hO
  have hF := hF rfl
  show HT cx ⟨[(0, lV a0), (1, lV a1)], [], 0⟩ _ _
  refine HT.rg2 [oH] ⟨[(0, lV a0), (1, lV a1)], [], 0⟩ hX (by kernel_rfl) allNil ?_
  refine HT.seq ?_
  refine HT.rg2 (oHs 5) ⟨[(0, lV a0), (1, lV a1), (10, bV ((lenI a0) != (lenI a1)))], [], 0⟩ hX (by kernel_rfl) allNil ?_
  rcases of_bif hr with ⟨hb1, hr⟩ | ⟨hb1, hr⟩
  · refine HT.cond1 rfl hb1 ?_
    refine HT.rg2 [oH] ⟨[(4, bV false)], [], 0⟩ hX (by kernel_rfl) allNil ?_
    have hr := of_some hr
    subst hr
    exact HT.ret (qThenR ⟨[bV false], [], [], by kernel_rfl, by kernel_rfl, rfl, by kernel_rfl, by kernel_rfl, trivial⟩)
  · refine HT.cond0 rfl hb1 ?_
    refine HT.skip (qThen ?_)
    refine HT.seq ?_
    refine HT.rg2 [oH] ⟨[(0, lV a0), (1, lV a1), (5, iV (0 : Int))], [], 0⟩ hX (by kernel_rfl) allNil ?_
    refine HT.block ?_
    obtain ⟨r3, hL15, hr⟩ := of_bind hr
    refine HT.loopL (fun (s2 : Int) => ⟨[(0, lV a0), (1, lV a1), (5, iV s2)], [], 0⟩) (fun (r3 : Unit ⊕ Unit) => match r3 with | .inl r4 => (.exit 0, ⟨[], [], 0⟩) | .inr r5 => (.ret, ⟨[(4, bV false)], [], 0⟩)) (Le.re [] [] hX (by kernel_rfl)) hL15 ?_ (fun s2 x6 hx7 hk8 => ?_)
    · rcases r3 with r4 | r5
      · refine (qBlockX (qThen ?_))
        refine HT.rg2 [oH] ⟨[(4, bV true)], [], 0⟩ hX (by kernel_rfl) allNil ?_
        have hr := of_some hr
        subst hr
        exact HT.ret ⟨[bV true], [], [], by kernel_rfl, by kernel_rfl, rfl, by kernel_rfl, by kernel_rfl, trivial⟩
      · have hr := of_some hr
        subst hr
        exact (qBlockR (qThenR ⟨[bV false], [], [], by kernel_rfl, by kernel_rfl, rfl, by kernel_rfl, by kernel_rfl, trivial⟩))
    · refine HT.seq ?_
      refine HT.rg2 (oHs 4) ⟨[(0, lV a0), (1, lV a1), (5, iV s2), (14, bV (decide (s2 < (lenI a0))))], [], 0⟩ hX (by kernel_rfl) allNil ?_
      rcases of_bif hx7 with ⟨hb9, hx7⟩ | ⟨hb9, hx7⟩
      · refine HT.cond1 rfl hb9 ?_
        refine HT.skip (qThen ?_)
        refine HT.seq ?_
        refine HT.block ?_
        obtain ⟨hg10, hx7⟩ := of_guard hx7
        obtain ⟨hg11, hx7⟩ := of_guard hx7
        obtain ⟨y12, hc13, hx7⟩ := of_bind hx7
        refine HT.dr2 10 [⟨oH, []⟩, ⟨oH, []⟩, ⟨oH, [0, 1]⟩, ⟨oH, [0, 1, 2]⟩, ⟨oH, [0, 1, 2, 3]⟩, ⟨oH, []⟩, ⟨oH, []⟩, ⟨oH, [5, 6]⟩, ⟨oH, [5, 6, 7]⟩, ⟨oH, [5, 6, 7, 8]⟩] [[0, 1, 2, 3, 4, 5, 6, 7, 8, 9], [0, 1, 2, 3, 4, 5, 6, 7, 8, 9, 10]] [⟨none, .call [.imm (.flt .f64), .imm (.flt .f64)] [⟨false, .bool, y12⟩] []⟩, oH] ⟨[(0, lV a0), (1, lV a1), (5, iV s2), (28, bV (!y12))], [], 0⟩ hX (by kernel_rfl) (by kernel_rfl) (allCons hg10 (allCons (show fconvOK .f32 .f64 (List.getD a0 (Int.toNat s2) (0 : Nat)) = true from (fconv_up _)) (allCons hg11 (allCons (show fconvOK .f32 .f64 (List.getD a1 (Int.toNat s2) (0 : Nat)) = true from (fconv_up _)) (allCons (f51_ok hc13) allNil))))) ?_
        rcases of_bif hx7 with ⟨hb14, hx7⟩ | ⟨hb14, hx7⟩
        · refine HT.cond1 rfl hb14 ?_
          refine HT.rg2 [oH] ⟨[(4, bV false)], [], 0⟩ hX (by kernel_rfl) allNil ?_
          have hx7 := of_some hx7
          subst hx7
          exact HT.retL (Le.re [] [] hX (by kernel_rfl)) (qBlockR (qThenR (qLoopR (hk8 (.inr ()) rfl))))
        · refine HT.cond0 rfl hb14 ?_
          refine HT.skip (qBlock (qThen ?_))
          have hx7 := of_some hx7
          subst hx7
          exact HT.rgK (oHs 3) [] [] hX (by kernel_rfl) allNil (fun _ h => (qLoopN ⟨(wadd .i64 s2 (1 : Int)), rfl, h⟩))
      · refine HT.cond0 rfl hb9 ?_
        have hx7 := of_some hx7
        subst hx7
        exact HT.exitL (Le.re [] [] hX (by kernel_rfl)) (qThenE (qLoopE (hk8 (.inl ()) rfl)))

noncomputable def laws_eqModel (a0 : Int × Int × List Nat × List Nat × List Nat) (a1 : Int × Int × List Nat × List Nat × List Nat) : Option (Bool) :=
  bif (a0.1 != a1.1) then
    some false
  else
    bif (a0.2.1 != a1.2.1) then
      some false
    else
      (laws_eqFloat32S a0.2.2.1 a1.2.2.1).bind fun y3 =>
      bif (!y3) then
        some false
      else
        (laws_eqFloat32S a0.2.2.2.1 a1.2.2.2.1).bind fun y6 =>
        bif (!y6) then
          some false
        else
          (laws_eqFloat32S a0.2.2.2.2 a1.2.2.2.2).bind fun y9 =>
          bif (!y9) then
            some false
          else
            some true

theorem f16_ok {a0 : Int × Int × List Nat × List Nat × List Nat} {a1 : Int × Int × List Nat × List Nat × List Nat} {r : Bool} (hr : laws_eqModel a0 a1 = some r) : CallOK Try.prog 16 [.imm (.st (.pair tI (.pair tI (.pair tLF (.pair tLF tLF))))) a0, .imm (.st (.pair tI (.pair tI (.pair tLF (.pair tLF tLF))))) a1] [⟨false, .bool, r⟩] [] := by
  unfold laws_eqModel at hr
  refine CallOK.of_body (ts := [(false, .bool)]) Try.func16 rfl (by kernel_rfl) (Nat.le_of_ble_eq_true (by kernel_rfl)) fun cx hP hN hO hF => ?_
  have hO : cx.own.map Prod.fst = [] := hO
  have hX := CxIs.mk hP hN hO
  have hF := hF rfl
  show HT cx ⟨[(0, .agg [iC a0.1, iC a0.2.1, lC a0.2.2.1, lC a0.2.2.2.1, lC a0.2.2.2.2]), (1, .agg [iC a1.1, iC a1.2.1, lC a1.2.2.1, lC a1.2.2.2.1, lC a1.2.2.2.2])], [], 0⟩ _ _
  refine HT.rg2 (oHs 3) ⟨[(2, pV 0 0), (3, pV 1 0)], [(1, .box [iC a1.1, iC a1.2.1, lC a1.2.2.1, lC a1.2.2.2.1, lC a1.2.2.2.2]), (0, .box [iC a0.1, iC a0.2.1, lC a0.2.2.1, lC a0.2.2.2.1, lC a0.2.2.2.2])], 2⟩ hX (by kernel_rfl) allNil ?_
  refine HT.seq ?_
  refine HT.rg2 (oHs 5) ⟨[(2, pV 0 0), (3, pV 1 0), (9, bV (a0.1 != a1.1))], [(1, .box [iC a1.1, iC a1.2.1, lC a1.2.2.1, lC a1.2.2.2.1, lC a1.2.2.2.2]), (0, .box [iC a0.1, iC a0.2.1, lC a0.2.2.1, lC a0.2.2.2.1, lC a0.2.2.2.2])], 2⟩ hX (by kernel_rfl) allNil ?_
  rcases of_bif hr with ⟨hb1, hr⟩ | ⟨hb1, hr⟩
  · refine HT.cond1 rfl hb1 ?_
    refine HT.rg2 [oH] ⟨[(4, bV false)], [], 2⟩ hX (by kernel_rfl) allNil ?_
    have hr := of_some hr
    subst hr
    exact HT.ret (qThenR ⟨[bV false], [], [], by kernel_rfl, by kernel_rfl, rfl, by kernel_rfl, by kernel_rfl, trivial⟩)
  · refine HT.cond0 rfl hb1 ?_
    refine HT.skip (qThen ?_)
    refine HT.seq ?_
    refine HT.rg2 (oHs 5) ⟨[(2, pV 0 0), (3, pV 1 0), (14, bV (a0.2.1 != a1.2.1))], [(1, .box [iC a1.1, iC a1.2.1, lC a1.2.2.1, lC a1.2.2.2.1, lC a1.2.2.2.2]), (0, .box [iC a0.1, iC a0.2.1, lC a0.2.2.1, lC a0.2.2.2.1, lC a0.2.2.2.2])], 2⟩ hX (by kernel_rfl) allNil ?_
    rcases of_bif hr with ⟨hb2, hr⟩ | ⟨hb2, hr⟩
    · refine HT.cond1 rfl hb2 ?_
      refine HT.rg2 [oH] ⟨[(4, bV false)], [], 2⟩ hX (by kernel_rfl) allNil ?_
      have hr := of_some hr
      subst hr
      exact HT.ret (qThenR ⟨[bV false], [], [], by kernel_rfl, by kernel_rfl, rfl, by kernel_rfl, by kernel_rfl, trivial⟩)
    · refine HT.cond0 rfl hb2 ?_
      refine HT.skip (qThen ?_)
      refine HT.seq ?_
      obtain ⟨y3, hc4, hr⟩ := of_bind hr
      refine HT.rg2 [oH, oH, oH, oH, ⟨none, .call [.imm tLF, .imm tLF] [⟨false, .bool, y3⟩] []⟩, oH] ⟨[(2, pV 0 0), (3, pV 1 0), (20, bV (!y3))], [(1, .box [iC a1.1, iC a1.2.1, lC a1.2.2.1, lC a1.2.2.2.1, lC a1.2.2.2.2]), (0, .box [iC a0.1, iC a0.2.1, lC a0.2.2.1, lC a0.2.2.2.1, lC a0.2.2.2.2])], 2⟩ hX (by kernel_rfl) (allCons (f15_ok hc4) allNil) ?_
      rcases of_bif hr with ⟨hb5, hr⟩ | ⟨hb5, hr⟩
      · refine HT.cond1 rfl hb5 ?_
        refine HT.rg2 [oH] ⟨[(4, bV false)], [], 2⟩ hX (by kernel_rfl) allNil ?_
        have hr := of_some hr
        subst hr
        exact HT.ret (qThenR ⟨[bV false], [], [], by kernel_rfl, by kernel_rfl, rfl, by kernel_rfl, by kernel_rfl, trivial⟩)
      · refine HT.cond0 rfl hb5 ?_
        refine HT.skip (qThen ?_)
        refine HT.seq ?_
        obtain ⟨y6, hc7, hr⟩ := of_bind hr
        refine HT.rg2 [oH, oH, oH, oH, ⟨none, .call [.imm tLF, .imm tLF] [⟨false, .bool, y6⟩] []⟩, oH] ⟨[(2, pV 0 0), (3, pV 1 0), (26, bV (!y6))], [(1, .box [iC a1.1, iC a1.2.1, lC a1.2.2.1, lC a1.2.2.2.1, lC a1.2.2.2.2]), (0, .box [iC a0.1, iC a0.2.1, lC a0.2.2.1, lC a0.2.2.2.1, lC a0.2.2.2.2])], 2⟩ hX (by kernel_rfl) (allCons (f15_ok hc7) allNil) ?_
        rcases of_bif hr with ⟨hb8, hr⟩ | ⟨hb8, hr⟩
        · refine HT.cond1 rfl hb8 ?_
          refine HT.rg2 [oH] ⟨[(4, bV false)], [], 2⟩ hX (by kernel_rfl) allNil ?_
          have hr := of_some hr
          subst hr
          exact HT.ret (qThenR ⟨[bV false], [], [], by kernel_rfl, by kernel_rfl, rfl, by kernel_rfl, by kernel_rfl, trivial⟩)
        · refine HT.cond0 rfl hb8 ?_
          refine HT.skip (qThen ?_)
          refine HT.seq ?_
          obtain ⟨y9, hc10, hr⟩ := of_bind hr
          refine HT.rg2 [oH, oH, oH, oH, ⟨none, .call [.imm tLF, .imm tLF] [⟨false, .bool, y9⟩] []⟩, oH] ⟨[(32, bV (!y9))], [], 2⟩ hX (by kernel_rfl) (allCons (f15_ok hc10) allNil) ?_
          rcases of_bif hr with ⟨hb11, hr⟩ | ⟨hb11, hr⟩
          · refine HT.cond1 rfl hb11 ?_
            refine HT.rg2 [oH] ⟨[(4, bV false)], [], 2⟩ hX (by kernel_rfl) allNil ?_
            have hr := of_some hr
            subst hr
            exact HT.ret (qThenR ⟨[bV false], [], [], by kernel_rfl, by kernel_rfl, rfl, by kernel_rfl, by kernel_rfl, trivial⟩)
          · refine HT.cond0 rfl hb11 ?_
            refine HT.skip (qThen ?_)
            refine HT.rg2 [oH] ⟨[(4, bV true)], [], 2⟩ hX (by kernel_rfl) allNil ?_
            have hr := of_some hr
            subst hr
            exact HT.ret ⟨[bV true], [], [], by kernel_rfl, by kernel_rfl, rfl, by kernel_rfl, by kernel_rfl, trivial⟩

noncomputable def laws_eqInt64S_B1 (a0 : List Int) (a1 : List Int) (s2 : Int) : Option ((Int) ⊕ (Unit ⊕ Unit)) :=
  bif (decide (s2 < (lenI a0))) then
    guardP ((0 : Int) ≤ s2 ∧ s2 < lenI a0) (
      guardP ((0 : Int) ≤ s2 ∧ s2 < lenI a1) (
        bif ((List.getD a0 (Int.toNat s2) (0 : Int)) != (List.getD a1 (Int.toNat s2) (0 : Int))) then
          some (.inr (.inr ()))
        else
          some (.inl (wadd .i64 s2 (1 : Int)))))
  else
    some (.inr (.inl ()))

noncomputable def laws_eqInt64S (a0 : List Int) (a1 : List Int) : Option (Bool) :=
  bif ((lenI a0) != (lenI a1)) then
    some false
  else
    (rounds (laws_eqInt64S_B1 a0 a1) (0 : Int)).bind fun r3 => match r3 with
      | .inl r4 =>
        some true
      | .inr r5 =>
        some false

theorem f17_ok {a0 : List Int} {a1 : List Int} {r : Bool} (hr : laws_eqInt64S a0 a1 = some r) : CallOK Try.prog 17 [.imm tLI a0, .imm tLI a1] [⟨false, .bool, r⟩] [] := by
  unfold laws_eqInt64S at hr
  refine CallOK.of_body (ts := [(false, .bool)]) Try.func17 rfl (by kernel_rfl) (Nat.le_of_ble_eq_true (by kernel_rfl)) fun cx hP hN hO hF => ?_
  have hO : cx.own.map Prod.fst = [] := hO
  have hX := CxIs.mk hP hN hO
  have hF := hF rfl
  show HT cx ⟨[(0, nV a0), (1, nV a1)], [], 0⟩ _ _
  refine HT.rg2 [oH] ⟨[(0, nV a0), (1, nV a1)], [], 0⟩ hX (by kernel_rfl) allNil ?_
  refine HT.seq ?_
  refine HT.rg2 (oHs 5) ⟨[(0, nV a0), (1, nV a1), (10, bV ((lenI a0) != (lenI a1)))], [], 0⟩ hX (by kernel_rfl) allNil ?_
  rcases of_bif hr with ⟨hb1, hr⟩ | ⟨hb1, hr⟩
  · refine HT.cond1 rfl hb1 ?_
    refine HT.rg2 [oH] ⟨[(4, bV false)], [], 0⟩ hX (by kernel_rfl) allNil ?_
    have hr := of_some hr
    subst hr
    exact HT.ret (qThenR ⟨[bV false], [], [], by kernel_rfl, by kernel_rfl, rfl, by kernel_rfl, by kernel_rfl, trivial⟩)
  · refine HT.cond0 rfl hb1 ?_
    refine HT.skip (qThen ?_)
    refine HT.seq ?_
    refine HT.rg2 [oH] ⟨[(0, nV a0), (1, nV a1), (5, iV (0 : Int))], [], 0⟩ hX (by kernel_rfl) allNil ?_
    refine HT.block ?_
    obtain ⟨r3, hL13, hr⟩ := of_bind hr
    refine HT.loopL (fun (s2 : Int) => ⟨[(0, nV a0), (1, nV a1), (5, iV s2)], [], 0⟩) (fun (r3 : Unit ⊕ Unit) => match r3 with | .inl r4 => (.exit 0, ⟨[], [], 0⟩) | .inr r5 => (.ret, ⟨[(4, bV false)], [], 0⟩)) (Le.re [] [] hX (by kernel_rfl)) hL13 ?_ (fun s2 x6 hx7 hk8 => ?_)
    · rcases r3 with r4 | r5
      · refine (qBlockX (qThen ?_))
        refine HT.rg2 [oH] ⟨[(4, bV true)], [], 0⟩ hX (by kernel_rfl) allNil ?_
        have hr := of_some hr
        subst hr
        exact HT.ret ⟨[bV true], [], [], by kernel_rfl, by kernel_rfl, rfl, by kernel_rfl, by kernel_rfl, trivial⟩
      · have hr := of_some hr
        subst hr
        exact (qBlockR (qThenR ⟨[bV false], [], [], by kernel_rfl, by kernel_rfl, rfl, by kernel_rfl, by kernel_rfl, trivial⟩))
    · refine HT.seq ?_
      refine HT.rg2 (oHs 4) ⟨[(0, nV a0), (1, nV a1), (5, iV s2), (14, bV (decide (s2 < (lenI a0))))], [], 0⟩ hX (by kernel_rfl) allNil ?_
      rcases of_bif hx7 with ⟨hb9, hx7⟩ | ⟨hb9, hx7⟩
      · refine HT.cond1 rfl hb9 ?_
        refine HT.skip (qThen ?_)
        refine HT.seq ?_
        refine HT.block ?_
        obtain ⟨hg10, hx7⟩ := of_guard hx7
        obtain ⟨hg11, hx7⟩ := of_guard hx7
        refine HT.dr2 8 [⟨oH, []⟩, ⟨oH, []⟩, ⟨oH, [0, 1]⟩, ⟨oH, [0, 1, 2]⟩, ⟨oH, []⟩, ⟨oH, []⟩, ⟨oH, [4, 5]⟩, ⟨oH, [4, 5, 6]⟩] [[0, 1, 2, 3, 4, 5, 6, 7]] [oH] ⟨[(0, nV a0), (1, nV a1), (5, iV s2), (25, bV ((List.getD a0 (Int.toNat s2) (0 : Int)) != (List.getD a1 (Int.toNat s2) (0 : Int))))], [], 0⟩ hX (by kernel_rfl) (by kernel_rfl) (allCons hg10 (allCons hg11 allNil)) ?_
        rcases of_bif hx7 with ⟨hb12, hx7⟩ | ⟨hb12, hx7⟩
        · refine HT.cond1 rfl hb12 ?_
          refine HT.rg2 [oH] ⟨[(4, bV false)], [], 0⟩ hX (by kernel_rfl) allNil ?_
          have hx7 := of_some hx7
          subst hx7
          exact HT.retL (Le.re [] [] hX (by kernel_rfl)) (qBlockR (qThenR (qLoopR (hk8 (.inr ()) rfl))))
        · refine HT.cond0 rfl hb12 ?_
          refine HT.skip (qBlock (qThen ?_))
          have hx7 := of_some hx7
          subst hx7
          exact HT.rgK (oHs 3) [] [] hX (by kernel_rfl) allNil (fun _ h => (qLoopN ⟨(wadd .i64 s2 (1 : Int)), rfl, h⟩))
      · refine HT.cond0 rfl hb9 ?_
        have hx7 := of_some hx7
        subst hx7
        exact HT.exitL (Le.re [] [] hX (by kernel_rfl)) (qThenE (qLoopE (hk8 (.inl ()) rfl)))

noncomputable def laws_eqInt64SS_B1 (a0 : List (List Int)) (a1 : List (List Int)) (s2 : Int) : Option ((Int) ⊕ (Unit ⊕ Unit)) :=
  bif (decide (s2 < (lenI a0))) then
    guardP ((0 : Int) ≤ s2 ∧ s2 < lenI a0) (
      guardP ((0 : Int) ≤ s2 ∧ s2 < lenI a1) (
        (laws_eqInt64S (List.getD a0 (Int.toNat s2) ([] : List Int)) (List.getD a1 (Int.toNat s2) ([] : List Int))).bind fun y12 =>
        bif (!y12) then
          some (.inr (.inr ()))
        else
          some (.inl (wadd .i64 s2 (1 : Int)))))
  else
    some (.inr (.inl ()))

noncomputable def laws_eqInt64SS (a0 : List (List Int)) (a1 : List (List Int)) : Option (Bool) :=
  bif ((lenI a0) != (lenI a1)) then
    some false
  else
    (rounds (laws_eqInt64SS_B1 a0 a1) (0 : Int)).bind fun r3 => match r3 with
      | .inl r4 =>
        some true
      | .inr r5 =>
        some false

theorem f30_ok {a0 : List (List Int)} {a1 : List (List Int)} {r : Bool} (hr : laws_eqInt64SS a0 a1 = some r) : CallOK Try.prog 30 [.imm (.sl tLI) a0, .imm (.sl tLI) a1] [⟨false, .bool, r⟩] [] := by
  unfold laws_eqInt64SS at hr
  refine CallOK.of_body (ts := [(false, .bool)]) Try.func30 rfl (by kernel_rfl) (Nat.le_of_ble_eq_true (by kernel_rfl)) fun cx hP hN hO hF => ?_
  have hO : cx.own.map Prod.fst = [] := hO
  have hX := CxIs.mk hP hN hO
  have hF := hF rfl
  show HT cx ⟨[(0, .one (.dat (.sl tLI) a0)), (1, .one (.dat (.sl tLI) a1))], [], 0⟩ _ _
  refine HT.rg2 [oH] ⟨[(0, .one (.dat (.sl tLI) a0)), (1, .one (.dat (.sl tLI) a1))], [], 0⟩ hX (by kernel_rfl) allNil ?_
  refine HT.seq ?_
  refine HT.rg2 (oHs 5) ⟨[(0, .one (.dat (.sl tLI) a0)), (1, .one (.dat (.sl tLI) a1)), (10, bV ((lenI a0) != (lenI a1)))], [], 0⟩ hX (by kernel_rfl) allNil ?_
  rcases of_bif hr with ⟨hb1, hr⟩ | ⟨hb1, hr⟩
  · refine HT.cond1 rfl hb1 ?_
    refine HT.rg2 [oH] ⟨[(4, bV false)], [], 0⟩ hX (by kernel_rfl) allNil ?_
    have hr := of_some hr
    subst hr
    exact HT.ret (qThenR ⟨[bV false], [], [], by kernel_rfl, by kernel_rfl, rfl, by kernel_rfl, by kernel_rfl, trivial⟩)
  · refine HT.cond0 rfl hb1 ?_
    refine HT.skip (qThen ?_)
    refine HT.seq ?_
    refine HT.rg2 [oH] ⟨[(0, .one (.dat (.sl tLI) a0)), (1, .one (.dat (.sl tLI) a1)), (5, iV (0 : Int))], [], 0⟩ hX (by kernel_rfl) allNil ?_
    refine HT.block ?_
    obtain ⟨r3, hL15, hr⟩ := of_bind hr
    refine HT.loopL (fun (s2 : Int) => ⟨[(0, .one (.dat (.sl tLI) a0)), (1, .one (.dat (.sl tLI) a1)), (5, iV s2)], [], 0⟩) (fun (r3 : Unit ⊕ Unit) => match r3 with | .inl r4 => (.exit 0, ⟨[], [], 0⟩) | .inr r5 => (.ret, ⟨[(4, bV false)], [], 0⟩)) (Le.re [] [] hX (by kernel_rfl)) hL15 ?_ (fun s2 x6 hx7 hk8 => ?_)
    · rcases r3 with r4 | r5
      · refine (qBlockX (qThen ?_))
        refine HT.rg2 [oH] ⟨[(4, bV true)], [], 0⟩ hX (by kernel_rfl) allNil ?_
        have hr := of_some hr
        subst hr
        exact HT.ret ⟨[bV true], [], [], by kernel_rfl, by kernel_rfl, rfl, by kernel_rfl, by kernel_rfl, trivial⟩
      · have hr := of_some hr
        subst hr
        exact (qBlockR (qThenR ⟨[bV false], [], [], by kernel_rfl, by kernel_rfl, rfl, by kernel_rfl, by kernel_rfl, trivial⟩))
    · refine HT.seq ?_
      refine HT.rg2 (oHs 4) ⟨[(0, .one (.dat (.sl tLI) a0)), (1, .one (.dat (.sl tLI) a1)), (5, iV s2), (14, bV (decide (s2 < (lenI a0))))], [], 0⟩ hX (by kernel_rfl) allNil ?_
      rcases of_bif hx7 with ⟨hb9, hx7⟩ | ⟨hb9, hx7⟩
      · refine HT.cond1 rfl hb9 ?_
        refine HT.skip (qThen ?_)
        refine HT.seq ?_
        refine HT.block ?_
        obtain ⟨hg10, hx7⟩ := of_guard hx7
        obtain ⟨hg11, hx7⟩ := of_guard hx7
        obtain ⟨y12, hc13, hx7⟩ := of_bind hx7
        refine HT.dr2 8 [⟨oH, []⟩, ⟨oH, []⟩, ⟨oH, [0, 1]⟩, ⟨oH, [0, 1, 2]⟩, ⟨oH, []⟩, ⟨oH, []⟩, ⟨oH, [4, 5]⟩, ⟨oH, [4, 5, 6]⟩] [[0, 1, 2, 3, 4, 5, 6, 7], [0, 1, 2, 3, 4, 5, 6, 7, 8]] [⟨none, .call [.imm tLI, .imm tLI] [⟨false, .bool, y12⟩] []⟩, oH] ⟨[(0, .one (.dat (.sl tLI) a0)), (1, .one (.dat (.sl tLI) a1)), (5, iV s2), (26, bV (!y12))], [], 0⟩ hX (by kernel_rfl) (by kernel_rfl) (allCons hg10 (allCons hg11 (allCons (f17_ok hc13) allNil))) ?_
        rcases of_bif hx7 with ⟨hb14, hx7⟩ | ⟨hb14, hx7⟩
        · refine HT.cond1 rfl hb14 ?_
          refine HT.rg2 [oH] ⟨[(4, bV false)], [], 0⟩ hX (by kernel_rfl) allNil ?_
          have hx7 := of_some hx7
          subst hx7
          exact HT.retL (Le.re [] [] hX (by kernel_rfl)) (qBlockR (qThenR (qLoopR (hk8 (.inr ()) rfl))))
        · refine HT.cond0 rfl hb14 ?_
          refine HT.skip (qBlock (qThen ?_))
          have hx7 := of_some hx7
          subst hx7
          exact HT.rgK (oHs 3) [] [] hX (by kernel_rfl) allNil (fun _ h => (qLoopN ⟨(wadd .i64 s2 (1 : Int)), rfl, h⟩))
      · refine HT.cond0 rfl hb9 ?_
        have hx7 := of_some hx7
        subst hx7
        exact HT.exitL (Le.re [] [] hX (by kernel_rfl)) (qThenE (qLoopE (hk8 (.inl ()) rfl)))

noncomputable def laws_markFloat32S_B1  (s1 : Int × Int × List Nat) : Option ((Int × Int × List Nat) ⊕ ((Int × List Nat))) :=
  bif (decide (s1.2.1 < (lenI s1.2.2))) then
    guardP ((0 : Int) ≤ s1.2.1 ∧ s1.2.1 < lenI s1.2.2) (
      some (.inl ((wadd .i64 s1.1 (1 : Int)), (wadd .i64 s1.2.1 (1 : Int)), (List.set s1.2.2 (Int.toNat s1.2.1) (fofint .f32 s1.1)))))
  else
    some (.inr (s1.1, s1.2.2))

noncomputable def laws_markFloat32S (a0 : List Nat) (a1 : Int) : Option (Int × List Nat) :=
  (rounds (laws_markFloat32S_B1) (a1, (0 : Int), a0)).bind fun r3 =>
  guardP (List.length r3.2 = List.length a0) (
    some (r3.1, r3.2))

theorem f20_ok {a0 : List Nat} {a1 : Int} {r : Int × List Nat} (hr : laws_markFloat32S a0 a1 = some r) : CallOK Try.prog 20 [.own tLF a0, .imm tI a1] [⟨false, tI, r.1⟩] [⟨tLF, r.2⟩] := by
  unfold laws_markFloat32S at hr
  refine CallOK.of_body (ts := [(false, tI)]) Try.func20 rfl (by kernel_rfl) (Nat.le_of_ble_eq_true (by kernel_rfl)) fun cx hP hN hO hF => ?_
  have hO : cx.own.map Prod.fst = [0] := hO
  have hX := CxIs.mk hP hN hO
  have hF := hF rfl
  show HT cx ⟨[(0, aV 0), (1, iV a1)], [(0, .seq tF a0)], 1⟩ _ _
  refine HT.rg2 [oH] ⟨[(0, aV 0), (1, iV a1)], [(0, .seq tF a0)], 1⟩ hX (by kernel_rfl) allNil ?_
  refine HT.seq ?_
  refine HT.rg2 [oH] ⟨[(0, aV 0), (1, iV a1), (5, iV (0 : Int))], [(0, .seq tF a0)], 1⟩ hX (by kernel_rfl) allNil ?_
  refine HT.block ?_
  obtain ⟨r2, hL10, hr⟩ := of_bind hr
  refine HT.loopL (fun (s1 : Int × Int × List Nat) => ⟨[(0, aV 0), (1, iV s1.1), (5, iV s1.2.1)], [(0, .seq tF s1.2.2)], 1⟩) (fun (r3 : (Int × List Nat)) => (.exit 0, ⟨[(1, iV r3.1)], [(0, .seq tF r3.2)], 1⟩)) (Le.re [(0, 0)] [] hX (by kernel_rfl)) hL10 ?_ (fun s1 x5 hx6 hk7 => ?_)
  · refine (qBlockX (qThen ?_))
    refine HT.rg2 (oHs 2) ⟨[(4, iV r2.1)], [(0, .seq tF r2.2)], 1⟩ hX (by kernel_rfl) allNil ?_
    obtain ⟨hg4, hr⟩ := of_guard hr
    have hr := of_some hr
    subst hr
    exact HT.ret ⟨[iV r2.1], [], [List.length r2.2 = List.length a0], by kernel_rfl, by kernel_rfl, rfl, by kernel_rfl, by kernel_rfl, ⟨hg4, trivial⟩⟩
  · refine HT.seq ?_
    refine HT.rg2 (oHs 4) ⟨[(0, aV 0), (1, iV s1.1), (5, iV s1.2.1), (9, bV (decide (s1.2.1 < (lenI s1.2.2))))], [(0, .seq tF s1.2.2)], 1⟩ hX (by kernel_rfl) allNil ?_
    rcases of_bif hx6 with ⟨hb8, hx6⟩ | ⟨hb8, hx6⟩
    · refine HT.cond1 rfl hb8 ?_
      refine HT.skip (qThen ?_)
      refine HT.seq ?_
      refine HT.block ?_
      obtain ⟨hg9, hx6⟩ := of_guard hx6
      refine HT.rg2 (oHs 6) ⟨[(0, aV 0), (1, iV s1.1), (5, iV s1.2.1)], [(0, .seq tF (List.set s1.2.2 (Int.toNat s1.2.1) (fofint .f32 s1.1)))], 1⟩ hX (by kernel_rfl) (allCons hg9 (allCons (natLt hg9) allNil)) ?_
      refine HT.rgL (oHs 3) ⟨[(0, aV 0), (1, iV (wadd .i64 s1.1 (1 : Int))), (5, iV s1.2.1)], [(0, .seq tF (List.set s1.2.2 (Int.toNat s1.2.1) (fofint .f32 s1.1)))], 1⟩ hX (by kernel_rfl) allNil (qBlock (qThen ?_))
      have hx6 := of_some hx6
      subst hx6
      exact HT.rgK (oHs 3) [(0, 0)] [] hX (by kernel_rfl) allNil (fun _ h => (qLoopN ⟨((wadd .i64 s1.1 (1 : Int)), (wadd .i64 s1.2.1 (1 : Int)), (List.set s1.2.2 (Int.toNat s1.2.1) (fofint .f32 s1.1))), rfl, h⟩))
    · refine HT.cond0 rfl hb8 ?_
      have hx6 := of_some hx6
      subst hx6
      exact HT.exitL (Le.re [(0, 0)] [] hX (by kernel_rfl)) (qThenE (qLoopE (hk7 (s1.1, s1.2.2) rfl)))

noncomputable def laws_markModel (a0 : Int × Int × List Nat × List Nat × List Nat) (a1 : Int) : Option (Int × (Int × Int × List Nat × List Nat × List Nat)) :=
  (laws_markFloat32S a0.2.2.1 a1).bind fun y1 =>
  (laws_markFloat32S a0.2.2.2.1 y1.1).bind fun y3 =>
  (laws_markFloat32S a0.2.2.2.2 y3.1).bind fun y5 =>
  guardP (List.length y1.2 = List.length a0.2.2.1) (
    guardP (List.length y3.2 = List.length a0.2.2.2.1) (
      guardP (List.length y5.2 = List.length a0.2.2.2.2) (
        some (y5.1, a0.1, a0.2.1, y1.2, y3.2, y5.2))))

theorem f18_ok {a0 : Int × Int × List Nat × List Nat × List Nat} {a1 : Int} {r : Int × (Int × Int × List Nat × List Nat × List Nat)} (hr : laws_markModel a0 a1 = some r) : CallOK Try.prog 18 [.own (.st (.pair tI (.pair tI (.pair tLF (.pair tLF tLF))))) a0, .imm tI a1] [⟨false, tI, r.1⟩] [⟨(.st (.pair tI (.pair tI (.pair tLF (.pair tLF tLF))))), r.2⟩] := by
  unfold laws_markModel at hr
  refine CallOK.of_body (ts := [(false, tI)]) Try.func18 rfl (by kernel_rfl) (Nat.le_of_ble_eq_true (by kernel_rfl)) fun cx hP hN hO hF => ?_
  have hO : cx.own.map Prod.fst = [0, 1, 2] := hO
  have hX := CxIs.mk hP hN hO
  have hF := hF rfl
  show HT cx ⟨[(0, .agg [iC a0.1, iC a0.2.1, .all 0, .all 1, .all 2]), (1, iV a1)], [(0, .seq tF a0.2.2.1), (1, .seq tF a0.2.2.2.1), (2, .seq tF a0.2.2.2.2)], 3⟩ _ _
  refine HT.rg2 (oHs 2) ⟨[(1, iV a1), (2, pV 3 0)], [(3, .box [iC a0.1, iC a0.2.1, .all 0, .all 1, .all 2]), (0, .seq tF a0.2.2.1), (1, .seq tF a0.2.2.2.1), (2, .seq tF a0.2.2.2.2)], 4⟩ hX (by kernel_rfl) allNil ?_
  obtain ⟨y1, hc2, hr⟩ := of_bind hr
  refine HT.rg2 [oH, oH, oH, ⟨none, .call [.own tLF, .imm tI] [⟨false, tI, y1.1⟩] [⟨tLF, y1.2⟩]⟩, oH] ⟨[(1, iV y1.1), (2, pV 3 0)], [(0, .seq tF y1.2), (3, .box [iC a0.1, iC a0.2.1, .all 0, .all 1, .all 2]), (1, .seq tF a0.2.2.2.1), (2, .seq tF a0.2.2.2.2)], 4⟩ hX (by kernel_rfl) (allCons (f20_ok hc2) allNil) ?_
  obtain ⟨y3, hc4, hr⟩ := of_bind hr
  refine HT.rg2 [oH, oH, oH, ⟨none, .call [.own tLF, .imm tI] [⟨false, tI, y3.1⟩] [⟨tLF, y3.2⟩]⟩, oH] ⟨[(1, iV y3.1), (2, pV 3 0)], [(1, .seq tF y3.2), (0, .seq tF y1.2), (3, .box [iC a0.1, iC a0.2.1, .all 0, .all 1, .all 2]), (2, .seq tF a0.2.2.2.2)], 4⟩ hX (by kernel_rfl) (allCons (f20_ok hc4) allNil) ?_
  obtain ⟨y5, hc6, hr⟩ := of_bind hr
  refine HT.rg2 [oH, oH, oH, ⟨none, .call [.own tLF, .imm tI] [⟨false, tI, y5.1⟩] [⟨tLF, y5.2⟩]⟩, oH] ⟨[(1, iV y5.1)], [(2, .seq tF y5.2), (1, .seq tF y3.2), (0, .seq tF y1.2)], 4⟩ hX (by kernel_rfl) (allCons (f20_ok hc6) allNil) ?_
  refine HT.rg2 (oHs 2) ⟨[(4, iV y5.1)], [(2, .seq tF y5.2), (1, .seq tF y3.2), (0, .seq tF y1.2)], 4⟩ hX (by kernel_rfl) allNil ?_
  obtain ⟨hg7, hr⟩ := of_guard hr
  obtain ⟨hg8, hr⟩ := of_guard hr
  obtain ⟨hg9, hr⟩ := of_guard hr
  have hr := of_some hr
  subst hr
  exact HT.ret ⟨[iV y5.1], [], [List.length y1.2 = List.length a0.2.2.1, List.length y3.2 = List.length a0.2.2.2.1, List.length y5.2 = List.length a0.2.2.2.2], by kernel_rfl, by kernel_rfl, rfl, by kernel_rfl, by kernel_rfl, ⟨hg7, hg8, hg9, trivial⟩⟩

noncomputable def laws_markInt64S_B1  (s1 : Int × Int × List Int) : Option ((Int × Int × List Int) ⊕ ((Int × List Int))) :=
  bif (decide (s1.2.1 < (lenI s1.2.2))) then
    guardP ((0 : Int) ≤ s1.2.1 ∧ s1.2.1 < lenI s1.2.2) (
      some (.inl ((wadd .i64 s1.1 (1 : Int)), (wadd .i64 s1.2.1 (1 : Int)), (List.set s1.2.2 (Int.toNat s1.2.1) s1.1))))
  else
    some (.inr (s1.1, s1.2.2))

noncomputable def laws_markInt64S (a0 : List Int) (a1 : Int) : Option (Int × List Int) :=
  (rounds (laws_markInt64S_B1) (a1, (0 : Int), a0)).bind fun r3 =>
  guardP (List.length r3.2 = List.length a0) (
    some (r3.1, r3.2))

theorem f19_ok {a0 : List Int} {a1 : Int} {r : Int × List Int} (hr : laws_markInt64S a0 a1 = some r) : CallOK Try.prog 19 [.own tLI a0, .imm tI a1] [⟨false, tI, r.1⟩] [⟨tLI, r.2⟩] := by
  unfold laws_markInt64S at hr
  refine CallOK.of_body (ts := [(false, tI)]) Try.func19 rfl (by kernel_rfl) (Nat.le_of_ble_eq_true (by kernel_rfl)) fun cx hP hN hO hF => ?_
  have hO : cx.own.map Prod.fst = [0] := hO
  have hX := CxIs.mk hP hN hO
  have hF := hF rfl
  show HT cx ⟨[(0, aV 0), (1, iV a1)], [(0, .seq tI a0)], 1⟩ _ _
  refine HT.rg2 [oH] ⟨[(0, aV 0), (1, iV a1)], [(0, .seq tI a0)], 1⟩ hX (by kernel_rfl) allNil ?_
  refine HT.seq ?_
  refine HT.rg2 [oH] ⟨[(0, aV 0), (1, iV a1), (5, iV (0 : Int))], [(0, .seq tI a0)], 1⟩ hX (by kernel_rfl) allNil ?_
  refine HT.block ?_
  obtain ⟨r2, hL10, hr⟩ := of_bind hr
  refine HT.loopL (fun (s1 : Int × Int × List Int) => ⟨[(0, aV 0), (1, iV s1.1), (5, iV s1.2.1)], [(0, .seq tI s1.2.2)], 1⟩) (fun (r3 : (Int × List Int)) => (.exit 0, ⟨[(1, iV r3.1)], [(0, .seq tI r3.2)], 1⟩)) (Le.re [(0, 0)] [] hX (by kernel_rfl)) hL10 ?_ (fun s1 x5 hx6 hk7 => ?_)
  · refine (qBlockX (qThen ?_))
    refine HT.rg2 (oHs 2) ⟨[(4, iV r2.1)], [(0, .seq tI r2.2)], 1⟩ hX (by kernel_rfl) allNil ?_
    obtain ⟨hg4, hr⟩ := of_guard hr
    have hr := of_some hr
    subst hr
    exact HT.ret ⟨[iV r2.1], [], [List.length r2.2 = List.length a0], by kernel_rfl, by kernel_rfl, rfl, by kernel_rfl, by kernel_rfl, ⟨hg4, trivial⟩⟩
  · refine HT.seq ?_
    refine HT.rg2 (oHs 4) ⟨[(0, aV 0), (1, iV s1.1), (5, iV s1.2.1), (9, bV (decide (s1.2.1 < (lenI s1.2.2))))], [(0, .seq tI s1.2.2)], 1⟩ hX (by kernel_rfl) allNil ?_
    rcases of_bif hx6 with ⟨hb8, hx6⟩ | ⟨hb8, hx6⟩
    · refine HT.cond1 rfl hb8 ?_
      refine HT.skip (qThen ?_)
      refine HT.seq ?_
      refine HT.block ?_
      obtain ⟨hg9, hx6⟩ := of_guard hx6
      refine HT.rg2 (oHs 5) ⟨[(0, aV 0), (1, iV s1.1), (5, iV s1.2.1)], [(0, .seq tI (List.set s1.2.2 (Int.toNat s1.2.1) s1.1))], 1⟩ hX (by kernel_rfl) (allCons hg9 (allCons (natLt hg9) allNil)) ?_
      refine HT.rgL (oHs 3) ⟨[(0, aV 0), (1, iV (wadd .i64 s1.1 (1 : Int))), (5, iV s1.2.1)], [(0, .seq tI (List.set s1.2.2 (Int.toNat s1.2.1) s1.1))], 1⟩ hX (by kernel_rfl) allNil (qBlock (qThen ?_))
      have hx6 := of_some hx6
      subst hx6
      exact HT.rgK (oHs 3) [(0, 0)] [] hX (by kernel_rfl) allNil (fun _ h => (qLoopN ⟨((wadd .i64 s1.1 (1 : Int)), (wadd .i64 s1.2.1 (1 : Int)), (List.set s1.2.2 (Int.toNat s1.2.1) s1.1)), rfl, h⟩))
    · refine HT.cond0 rfl hb8 ?_
      have hx6 := of_some hx6
      subst hx6
      exact HT.exitL (Le.re [(0, 0)] [] hX (by kernel_rfl)) (qThenE (qLoopE (hk7 (s1.1, s1.2.2) rfl)))

noncomputable def laws_markInt64SS_B1  (s1 : Int × Int × List (List Int)) : Option ((Int × Int × List (List Int)) ⊕ ((Int × List (List Int)))) :=
  bif (decide (s1.2.1 < (lenI s1.2.2))) then
    guardP ((0 : Int) ≤ s1.2.1 ∧ s1.2.1 < lenI s1.2.2) (
      (laws_markInt64S (List.getD s1.2.2 (Int.toNat s1.2.1) ([] : List Int)) s1.1).bind fun y10 =>
      some (.inl (y10.1, (wadd .i64 s1.2.1 (1 : Int)), (List.set s1.2.2 (Int.toNat s1.2.1) y10.2))))
  else
    some (.inr (s1.1, s1.2.2))

noncomputable def laws_markInt64SS (a0 : List (List Int)) (a1 : Int) : Option (Int × List (List Int)) :=
  (rounds (laws_markInt64SS_B1) (a1, (0 : Int), a0)).bind fun r3 =>
  guardP (ShapeEq (.own tI) a0 r3.2) (
    some (r3.1, r3.2))

theorem f31_ok {a0 : List (List Int)} {a1 : Int} {r : Int × List (List Int)} (hr : laws_markInt64SS a0 a1 = some r) : CallOK Try.prog 31 [.own (.sl (.own tI)) a0, .imm tI a1] [⟨false, tI, r.1⟩] [⟨(.sl (.own tI)), r.2⟩] := by
  unfold laws_markInt64SS at hr
  refine CallOK.of_body (ts := [(false, tI)]) Try.func31 rfl (by kernel_rfl) (Nat.le_of_ble_eq_true (by kernel_rfl)) fun cx hP hN hO hF => ?_
  have hO : cx.own.map Prod.fst = [0] := hO
  have hX := CxIs.mk hP hN hO
  have hF := hF rfl
  show HT cx ⟨[(0, aV 0), (1, iV a1)], [(0, .seq (.own tI) a0)], 1⟩ _ _
  refine HT.rg2 [oH] ⟨[(0, aV 0), (1, iV a1)], [(0, .seq (.own tI) a0)], 1⟩ hX (by kernel_rfl) allNil ?_
  refine HT.seq ?_
  refine HT.rg2 [oH] ⟨[(0, aV 0), (1, iV a1), (5, iV (0 : Int))], [(0, .seq (.own tI) a0)], 1⟩ hX (by kernel_rfl) allNil ?_
  refine HT.block ?_
  obtain ⟨r2, hL12, hr⟩ := of_bind hr
  refine HT.loopL (fun (s1 : Int × Int × List (List Int)) => ⟨[(0, aV 0), (1, iV s1.1), (5, iV s1.2.1)], [(0, .seq (.own tI) s1.2.2)], 1⟩) (fun (r3 : (Int × List (List Int))) => (.exit 0, ⟨[(1, iV r3.1)], [(0, .seq (.own tI) r3.2)], 1⟩)) (Le.re [(0, 0)] [] hX (by kernel_rfl)) hL12 ?_ (fun s1 x5 hx6 hk7 => ?_)
  · refine (qBlockX (qThen ?_))
    refine HT.rg2 (oHs 2) ⟨[(4, iV r2.1)], [(0, .seq (.own tI) r2.2)], 1⟩ hX (by kernel_rfl) allNil ?_
    obtain ⟨hg4, hr⟩ := of_guard hr
    have hr := of_some hr
    subst hr
    exact HT.ret ⟨[iV r2.1], [], [ShapeEq (.own tI) a0 r2.2], by kernel_rfl, by kernel_rfl, rfl, by kernel_rfl, by kernel_rfl, ⟨hg4, trivial⟩⟩
  · refine HT.seq ?_
    refine HT.rg2 (oHs 4) ⟨[(0, aV 0), (1, iV s1.1), (5, iV s1.2.1), (9, bV (decide (s1.2.1 < (lenI s1.2.2))))], [(0, .seq (.own tI) s1.2.2)], 1⟩ hX (by kernel_rfl) allNil ?_
    rcases of_bif hx6 with ⟨hb8, hx6⟩ | ⟨hb8, hx6⟩
    · refine HT.cond1 rfl hb8 ?_
      refine HT.skip (qThen ?_)
      refine HT.seq ?_
      refine HT.block ?_
      obtain ⟨hg9, hx6⟩ := of_guard hx6
      obtain ⟨y10, hc11, hx6⟩ := of_bind hx6
      refine HT.regC (rs := [oH, oH, oH, ⟨none, .opn⟩, oH, ⟨none, .call [.own tLI, .imm tI] [⟨false, tI, y10.1⟩] [⟨tLI, y10.2⟩]⟩, oH]) ⟨[(1, iV y10.1), (17, iV y10.1), (16, iV s1.1), (15, aV 1), (14, .one (.elp 0 (Int.toNat s1.2.1) 1 0)), (13, iV s1.2.1), (12, aV 0), (0, aV 0), (1, iV s1.1), (5, iV s1.2.1), (9, bV (decide (s1.2.1 < (lenI s1.2.2))))], [(1, .seq tI y10.2), (0, .opn (.own tI) s1.2.2 (Int.toNat s1.2.1) [.all 1] [1]), (1, .seq tI (List.getD s1.2.2 (Int.toNat s1.2.1) ([] : List Int))), (0, .seq (.own tI) s1.2.2)], 2⟩ hP hN (by kernel_rfl) (allCons hg9 (allCons (natLt hg9) (allCons (f19_ok hc11) allNil))) (Le.close (own := [0]) 0 (st' := ⟨[(1, iV y10.1), (17, iV y10.1), (16, iV s1.1), (15, aV 1), (14, .one (.elp 0 (Int.toNat s1.2.1) 1 0)), (13, iV s1.2.1), (12, aV 0), (0, aV 0), (1, iV s1.1), (5, iV s1.2.1), (9, bV (decide (s1.2.1 < (lenI s1.2.2))))], [(0, .seq (.own tI) (List.set s1.2.2 (Int.toNat s1.2.1) y10.2)), (1, .gone)], 2⟩) hO (by kernel_rfl)) (qBlock (qThen ?_))
      have hx6 := of_some hx6
      subst hx6
      exact HT.rgK (oHs 3) [(0, 0)] [] hX (by kernel_rfl) allNil (fun _ h => (qLoopN ⟨(y10.1, (wadd .i64 s1.2.1 (1 : Int)), (List.set s1.2.2 (Int.toNat s1.2.1) y10.2)), rfl, h⟩))
    · refine HT.cond0 rfl hb8 ?_
      have hx6 := of_some hx6
      subst hx6
      exact HT.exitL (Le.re [(0, 0)] [] hX (by kernel_rfl)) (qThenE (qLoopE (hk7 (s1.1, s1.2.2) rfl)))

noncomputable def laws_heldFloat32S_B1 (a0 : List Nat) (s1 : Int × Int) : Option ((Int × Int) ⊕ (Int ⊕ Unit)) :=
  bif (decide (s1.2 < (lenI a0))) then
    guardP ((0 : Int) ≤ s1.2 ∧ s1.2 < lenI a0) (
      bif (!(feq .f32 (List.getD a0 (Int.toNat s1.2) (0 : Nat)) (fofint .f32 s1.1))) then
        some (.inr (.inr ()))
      else
        some (.inl ((wadd .i64 s1.1 (1 : Int)), (wadd .i64 s1.2 (1 : Int)))))
  else
    some (.inr (.inl s1.1))

noncomputable def laws_heldFloat32S (a0 : List Nat) (a1 : Int) : Option (Int) :=
  (rounds (laws_heldFloat32S_B1 a0) (a1, (0 : Int))).bind fun r2 => match r2 with
    | .inl r3 =>
      some r3
    | .inr r4 =>
      some (-1 : Int)

theorem f21_ok {a0 : List Nat} {a1 : Int} {r : Int} (hr : laws_heldFloat32S a0 a1 = some r) : CallOK Try.prog 21 [.imm tLF a0, .imm tI a1] [⟨false, tI, r⟩] [] := by
  unfold laws_heldFloat32S at hr
  refine CallOK.of_body (ts := [(false, tI)]) Try.func21 rfl (by kernel_rfl) (Nat.le_of_ble_eq_true (by kernel_rfl)) fun cx hP hN hO hF => ?_
  have hO : cx.own.map Prod.fst = [] := hO
  have hX := CxIs.mk hP hN hO
  have hF := hF rfl
  show HT cx ⟨[(0, lV a0), (1, iV a1)], [], 0⟩ _ _
  refine HT.rg2 [oH] ⟨[(0, lV a0), (1, iV a1)], [], 0⟩ hX (by kernel_rfl) allNil ?_
  refine HT.seq ?_
  refine HT.rg2 [oH] ⟨[(0, lV a0), (1, iV a1), (5, iV (0 : Int))], [], 0⟩ hX (by kernel_rfl) allNil ?_
  refine HT.block ?_
  obtain ⟨r2, hL11, hr⟩ := of_bind hr
  refine HT.loopL (fun (s1 : Int × Int) => ⟨[(0, lV a0), (1, iV s1.1), (5, iV s1.2)], [], 0⟩) (fun (r2 : Int ⊕ Unit) => match r2 with | .inl r3 => (.exit 0, ⟨[(1, iV r3)], [], 0⟩) | .inr r4 => (.ret, ⟨[(4, iV (-1 : Int))], [], 0⟩)) (Le.re [] [] hX (by kernel_rfl)) hL11 ?_ (fun s1 x5 hx6 hk7 => ?_)
  · rcases r2 with r3 | r4
    · refine (qBlockX (qThen ?_))
      refine HT.rg2 (oHs 2) ⟨[(4, iV r3)], [], 0⟩ hX (by kernel_rfl) allNil ?_
      have hr := of_some hr
      subst hr
      exact HT.ret ⟨[iV r3], [], [], by kernel_rfl, by kernel_rfl, rfl, by kernel_rfl, by kernel_rfl, trivial⟩
    · have hr := of_some hr
      subst hr
      exact (qBlockR (qThenR ⟨[iV (-1 : Int)], [], [], by kernel_rfl, by kernel_rfl, rfl, by kernel_rfl, by kernel_rfl, trivial⟩))
  · refine HT.seq ?_
    refine HT.rg2 (oHs 4) ⟨[(0, lV a0), (1, iV s1.1), (5, iV s1.2), (9, bV (decide (s1.2 < (lenI a0))))], [], 0⟩ hX (by kernel_rfl) allNil ?_
    rcases of_bif hx6 with ⟨hb8, hx6⟩ | ⟨hb8, hx6⟩
    · refine HT.cond1 rfl hb8 ?_
      refine HT.skip (qThen ?_)
      refine HT.seq ?_
      refine HT.block ?_
      refine HT.seq ?_
      obtain ⟨hg9, hx6⟩ := of_guard hx6
      refine HT.rg2 (oHs 7) ⟨[(0, lV a0), (1, iV s1.1), (5, iV s1.2), (18, bV (!(feq .f32 (List.getD a0 (Int.toNat s1.2) (0 : Nat)) (fofint .f32 s1.1))))], [], 0⟩ hX (by kernel_rfl) (allCons hg9 allNil) ?_
      rcases of_bif hx6 with ⟨hb10, hx6⟩ | ⟨hb10, hx6⟩
      · refine HT.cond1 rfl hb10 ?_
        refine HT.rg2 [oH] ⟨[(4, iV (-1 : Int))], [], 0⟩ hX (by kernel_rfl) allNil ?_
        have hx6 := of_some hx6
        subst hx6
        exact HT.retL (Le.re [] [] hX (by kernel_rfl)) (qThenR (qBlockR (qThenR (qLoopR (hk7 (.inr ()) rfl)))))
      · refine HT.cond0 rfl hb10 ?_
        refine HT.skip (qThen ?_)
        refine HT.rgL (oHs 3) ⟨[(0, lV a0), (1, iV (wadd .i64 s1.1 (1 : Int))), (5, iV s1.2)], [], 0⟩ hX (by kernel_rfl) allNil (qBlock (qThen ?_))
        have hx6 := of_some hx6
        subst hx6
        exact HT.rgK (oHs 3) [] [] hX (by kernel_rfl) allNil (fun _ h => (qLoopN ⟨((wadd .i64 s1.1 (1 : Int)), (wadd .i64 s1.2 (1 : Int))), rfl, h⟩))
    · refine HT.cond0 rfl hb8 ?_
      have hx6 := of_some hx6
      subst hx6
      exact HT.exitL (Le.re [] [] hX (by kernel_rfl)) (qThenE (qLoopE (hk7 (.inl s1.1) rfl)))

noncomputable def laws_heldModel (a0 : Int × Int × List Nat × List Nat × List Nat) (a1 : Int) : Option (Int) :=
  (laws_heldFloat32S a0.2.2.1 a1).bind fun y1 =>
  bif (decide (y1 < (0 : Int))) then
    some (-1 : Int)
  else
    (laws_heldFloat32S a0.2.2.2.1 y1).bind fun y4 =>
    bif (decide (y4 < (0 : Int))) then
      some (-1 : Int)
    else
      (laws_heldFloat32S a0.2.2.2.2 y4).bind fun y7 =>
      bif (decide (y7 < (0 : Int))) then
        some (-1 : Int)
      else
        some y7

theorem f32_ok {a0 : Int × Int × List Nat × List Nat × List Nat} {a1 : Int} {r : Int} (hr : laws_heldModel a0 a1 = some r) : CallOK Try.prog 32 [.imm (.st (.pair tI (.pair tI (.pair tLF (.pair tLF tLF))))) a0, .imm tI a1] [⟨false, tI, r⟩] [] := by
  unfold laws_heldModel at hr
  refine CallOK.of_body (ts := [(false, tI)]) Try.func32 rfl (by kernel_rfl) (Nat.le_of_ble_eq_true (by kernel_rfl)) fun cx hP hN hO hF => ?_
  have hO : cx.own.map Prod.fst = [] := hO
  have hX := CxIs.mk hP hN hO
  have hF := hF rfl
  show HT cx ⟨[(0, .agg [iC a0.1, iC a0.2.1, lC a0.2.2.1, lC a0.2.2.2.1, lC a0.2.2.2.2]), (1, iV a1)], [], 0⟩ _ _
  refine HT.rg2 (oHs 2) ⟨[(1, iV a1), (2, pV 0 0)], [(0, .box [iC a0.1, iC a0.2.1, lC a0.2.2.1, lC a0.2.2.2.1, lC a0.2.2.2.2])], 1⟩ hX (by kernel_rfl) allNil ?_
  obtain ⟨y1, hc2, hr⟩ := of_bind hr
  refine HT.rg2 [oH, oH, oH, ⟨none, .call [.imm tLF, .imm tI] [⟨false, tI, y1⟩] []⟩, oH] ⟨[(1, iV y1), (2, pV 0 0)], [(0, .box [iC a0.1, iC a0.2.1, lC a0.2.2.1, lC a0.2.2.2.1, lC a0.2.2.2.2])], 1⟩ hX (by kernel_rfl) (allCons (f21_ok hc2) allNil) ?_
  refine HT.seq ?_
  refine HT.rg2 (oHs 2) ⟨[(1, iV y1), (2, pV 0 0), (10, bV (decide (y1 < (0 : Int))))], [(0, .box [iC a0.1, iC a0.2.1, lC a0.2.2.1, lC a0.2.2.2.1, lC a0.2.2.2.2])], 1⟩ hX (by kernel_rfl) allNil ?_
  rcases of_bif hr with ⟨hb3, hr⟩ | ⟨hb3, hr⟩
  · refine HT.cond1 rfl hb3 ?_
    refine HT.rg2 [oH] ⟨[(4, iV (-1 : Int))], [], 1⟩ hX (by kernel_rfl) allNil ?_
    have hr := of_some hr
    subst hr
    exact HT.ret (qThenR ⟨[iV (-1 : Int)], [], [], by kernel_rfl, by kernel_rfl, rfl, by kernel_rfl, by kernel_rfl, trivial⟩)
  · refine HT.cond0 rfl hb3 ?_
    refine HT.skip (qThen ?_)
    obtain ⟨y4, hc5, hr⟩ := of_bind hr
    refine HT.rg2 [oH, oH, oH, ⟨none, .call [.imm tLF, .imm tI] [⟨false, tI, y4⟩] []⟩, oH] ⟨[(1, iV y4), (2, pV 0 0)], [(0, .box [iC a0.1, iC a0.2.1, lC a0.2.2.1, lC a0.2.2.2.1, lC a0.2.2.2.2])], 1⟩ hX (by kernel_rfl) (allCons (f21_ok hc5) allNil) ?_
    refine HT.seq ?_
    refine HT.rg2 (oHs 2) ⟨[(1, iV y4), (2, pV 0 0), (16, bV (decide (y4 < (0 : Int))))], [(0, .box [iC a0.1, iC a0.2.1, lC a0.2.2.1, lC a0.2.2.2.1, lC a0.2.2.2.2])], 1⟩ hX (by kernel_rfl) allNil ?_
    rcases of_bif hr with ⟨hb6, hr⟩ | ⟨hb6, hr⟩
    · refine HT.cond1 rfl hb6 ?_
      refine HT.rg2 [oH] ⟨[(4, iV (-1 : Int))], [], 1⟩ hX (by kernel_rfl) allNil ?_
      have hr := of_some hr
      subst hr
      exact HT.ret (qThenR ⟨[iV (-1 : Int)], [], [], by kernel_rfl, by kernel_rfl, rfl, by kernel_rfl, by kernel_rfl, trivial⟩)
    · refine HT.cond0 rfl hb6 ?_
      refine HT.skip (qThen ?_)
      obtain ⟨y7, hc8, hr⟩ := of_bind hr
      refine HT.rg2 [oH, oH, oH, ⟨none, .call [.imm tLF, .imm tI] [⟨false, tI, y7⟩] []⟩, oH] ⟨[(1, iV y7)], [], 1⟩ hX (by kernel_rfl) (allCons (f21_ok hc8) allNil) ?_
      refine HT.seq ?_
      refine HT.rg2 (oHs 2) ⟨[(1, iV y7), (22, bV (decide (y7 < (0 : Int))))], [], 1⟩ hX (by kernel_rfl) allNil ?_
      rcases of_bif hr with ⟨hb9, hr⟩ | ⟨hb9, hr⟩
      · refine HT.cond1 rfl hb9 ?_
        refine HT.rg2 [oH] ⟨[(4, iV (-1 : Int))], [], 1⟩ hX (by kernel_rfl) allNil ?_
        have hr := of_some hr
        subst hr
        exact HT.ret (qThenR ⟨[iV (-1 : Int)], [], [], by kernel_rfl, by kernel_rfl, rfl, by kernel_rfl, by kernel_rfl, trivial⟩)
      · refine HT.cond0 rfl hb9 ?_
        refine HT.skip (qThen ?_)
        refine HT.rg2 (oHs 2) ⟨[(4, iV y7)], [], 1⟩ hX (by kernel_rfl) allNil ?_
        have hr := of_some hr
        subst hr
        exact HT.ret ⟨[iV y7], [], [], by kernel_rfl, by kernel_rfl, rfl, by kernel_rfl, by kernel_rfl, trivial⟩

noncomputable def laws_FnExactLearnOnce (a0 : Int × Int × List Nat × List Nat × List Nat) (a1 : List (List Int)) : Option (Bool) :=
  (laws_szModel (a0.1, a0.2.1, a0.2.2.1, a0.2.2.2.1, a0.2.2.2.2) (1048576 : Int)).bind fun y1 =>
  bif (decide (y1 < (0 : Int))) then
    some true
  else
    (laws_szInt64SS a1 y1).bind fun y4 =>
    bif (decide (y4 < (0 : Int))) then
      some true
    else
      (laws_toModel (a0.1, a0.2.1, a0.2.2.1, a0.2.2.2.1, a0.2.2.2.2)).bind fun y7 =>
      (laws_toInt64SS a1).bind fun y9 =>
      (spec_LearnOnce (y7.1, y7.2.1, y7.2.2.1, y7.2.2.2.1, y7.2.2.2.2) y9).bind fun y11 =>
      (laws_toModel (a0.1, a0.2.1, a0.2.2.1, a0.2.2.2.1, a0.2.2.2.2)).bind fun y13 =>
      (laws_toInt64SS a1).bind fun y15 =>
      (impl_LearnOnce (y13.1, y13.2.1, y13.2.2.1, y13.2.2.2.1, y13.2.2.2.2) y15).bind fun y17 =>
      (show Option (Bool) from
        (laws_eqModel (y17.1.1, y17.1.2.1, y17.1.2.2.1, y17.1.2.2.2.1, y17.1.2.2.2.2) (y11.1.1, y11.1.2.1, y11.1.2.2.1, y11.1.2.2.2.1, y11.1.2.2.2.2)).bind fun y68 =>
        bif (!y68) then
          some true
        else
          some (y17.2 != y11.2)).bind fun v19 =>
      bif v19 then
        some false
      else
        (laws_toModel (a0.1, a0.2.1, a0.2.2.1, a0.2.2.2.1, a0.2.2.2.2)).bind fun y23 =>
        (laws_eqModel (y13.1, y13.2.1, y13.2.2.1, y13.2.2.2.1, y13.2.2.2.2) (y23.1, y23.2.1, y23.2.2.1, y23.2.2.2.1, y23.2.2.2.2)).bind fun y25 =>
        bif (!y25) then
          some false
        else
          (laws_toInt64SS a1).bind fun y28 =>
          (laws_eqInt64SS y15 y28).bind fun y30 =>
          bif (!y30) then
            some false
          else
            (laws_markModel (y13.1, y13.2.1, y13.2.2.1, y13.2.2.2.1, y13.2.2.2.2) (1 : Int)).bind fun y33 =>
            (laws_markInt64SS y15 y33.1).bind fun y35 =>
            (show Option (Bool) from
              bif (decide (y35.1 < (0 : Int))) then
                some true
              else
                (laws_eqModel (y17.1.1, y17.1.2.1, y17.1.2.2.1, y17.1.2.2.2.1, y17.1.2.2.2.2) (y11.1.1, y11.1.2.1, y11.1.2.2.1, y11.1.2.2.2.1, y11.1.2.2.2.2)).bind fun y65 =>
                bif (!y65) then
                  some true
                else
                  some (y17.2 != y11.2)).bind fun v37 =>
            bif v37 then
              some false
            else
              (laws_markModel (y17.1.1, y17.1.2.1, y17.1.2.2.1, y17.1.2.2.2.1, y17.1.2.2.2.2) (1 : Int)).bind fun y41 =>
              (laws_heldModel (y17.1.1, y17.1.2.1, y41.2.2.2.1, y41.2.2.2.2.1, y41.2.2.2.2.2) (1 : Int)).bind fun y43 =>
              bif (decide (y43 < (0 : Int))) then
                some false
              else
                bif (y43 != y41.1) then
                  some false
                else
                  (laws_toModel (a0.1, a0.2.1, a0.2.2.1, a0.2.2.2.1, a0.2.2.2.2)).bind fun y47 =>
                  (laws_toInt64SS a1).bind fun y49 =>
                  (impl_LearnOnce (y47.1, y47.2.1, y47.2.2.1, y47.2.2.2.1, y47.2.2.2.2) y49).bind fun y51 =>
                  (show Option (Bool) from
                    (laws_eqModel (y51.1.1, y51.1.2.1, y51.1.2.2.1, y51.1.2.2.2.1, y51.1.2.2.2.2) (y11.1.1, y11.1.2.1, y11.1.2.2.1, y11.1.2.2.2.1, y11.1.2.2.2.2)).bind fun y61 =>
                    bif (!y61) then
                      some true
                    else
                      some (y51.2 != y11.2)).bind fun v53 =>
                  bif v53 then
                    some false
                  else
                    (laws_heldModel (y17.1.1, y17.1.2.1, y41.2.2.2.1, y41.2.2.2.2.1, y41.2.2.2.2.2) (1 : Int)).bind fun y57 =>
                    bif (decide (y57 < (0 : Int))) then
                      some false
                    else
                      bif (y57 != y41.1) then
                        some false
                      else
                        some true

theorem f6_ok {a0 : Int × Int × List Nat × List Nat × List Nat} {a1 : List (List Int)} {r : Bool} (hr : laws_FnExactLearnOnce a0 a1 = some r) : CallOK Try.prog 6 [.imm (.st (.pair tI (.pair tI (.pair tLF (.pair tLF tLF))))) a0, .imm (.sl tLI) a1] [⟨false, .bool, r⟩] [] := by
  unfold laws_FnExactLearnOnce at hr
  refine CallOK.of_body (ts := [(false, .bool)]) Try.func6 rfl (by kernel_rfl) (Nat.le_of_ble_eq_true (by kernel_rfl)) fun cx hP hN hO hF => ?_
  have hO : cx.own.map Prod.fst = [] := hO
  have hX := CxIs.mk hP hN hO
  have hF := hF rfl
  show HT cx ⟨[(0, .agg [iC a0.1, iC a0.2.1, lC a0.2.2.1, lC a0.2.2.2.1, lC a0.2.2.2.2]), (1, .one (.dat (.sl tLI) a1))], [], 0⟩ _ _
  refine HT.rg2 (oHs 2) ⟨[(1, .one (.dat (.sl tLI) a1)), (2, pV 0 0)], [(0, .box [iC a0.1, iC a0.2.1, lC a0.2.2.1, lC a0.2.2.2.1, lC a0.2.2.2.2])], 1⟩ hX (by kernel_rfl) allNil ?_
  refine HT.rg2 [oH] ⟨[(1, .one (.dat (.sl tLI) a1)), (2, pV 0 0), (5, iV (1048576 : Int))], [(0, .box [iC a0.1, iC a0.2.1, lC a0.2.2.1, lC a0.2.2.2.1, lC a0.2.2.2.2])], 1⟩ hX (by kernel_rfl) allNil ?_
  obtain ⟨y1, hc2, hr⟩ := of_bind hr
  refine HT.rg2 [oH, oH, ⟨none, .call [.imm (.st (.pair tI (.pair tI (.pair tLF (.pair tLF tLF))))), .imm tI] [⟨false, tI, y1⟩] []⟩, oH] ⟨[(1, .one (.dat (.sl tLI) a1)), (2, pV 0 0), (5, iV y1)], [(0, .box [iC a0.1, iC a0.2.1, lC a0.2.2.1, lC a0.2.2.2.1, lC a0.2.2.2.2])], 1⟩ hX (by kernel_rfl) (allCons (f10_ok hc2) allNil) ?_
  refine HT.seq ?_
  refine HT.rg2 (oHs 2) ⟨[(1, .one (.dat (.sl tLI) a1)), (2, pV 0 0), (5, iV y1), (21, bV (decide (y1 < (0 : Int))))], [(0, .box [iC a0.1, iC a0.2.1, lC a0.2.2.1, lC a0.2.2.2.1, lC a0.2.2.2.2])], 1⟩ hX (by kernel_rfl) allNil ?_
  rcases of_bif hr with ⟨hb3, hr⟩ | ⟨hb3, hr⟩
  · refine HT.cond1 rfl hb3 ?_
    refine HT.rg2 [oH] ⟨[(4, bV true)], [], 1⟩ hX (by kernel_rfl) allNil ?_
    have hr := of_some hr
    subst hr
    exact HT.ret (qThenR ⟨[bV true], [], [], by kernel_rfl, by kernel_rfl, rfl, by kernel_rfl, by kernel_rfl, trivial⟩)
  · refine HT.cond0 rfl hb3 ?_
    refine HT.skip (qThen ?_)
    obtain ⟨y4, hc5, hr⟩ := of_bind hr
    refine HT.rg2 [oH, oH, ⟨none, .call [.imm (.sl tLI), .imm tI] [⟨false, tI, y4⟩] []⟩, oH] ⟨[(1, .one (.dat (.sl tLI) a1)), (2, pV 0 0), (5, iV y4)], [(0, .box [iC a0.1, iC a0.2.1, lC a0.2.2.1, lC a0.2.2.2.1, lC a0.2.2.2.2])], 1⟩ hX (by kernel_rfl) (allCons (f26_ok hc5) allNil) ?_
    refine HT.seq ?_
    refine HT.rg2 (oHs 2) ⟨[(1, .one (.dat (.sl tLI) a1)), (2, pV 0 0), (26, bV (decide (y4 < (0 : Int))))], [(0, .box [iC a0.1, iC a0.2.1, lC a0.2.2.1, lC a0.2.2.2.1, lC a0.2.2.2.2])], 1⟩ hX (by kernel_rfl) allNil ?_
    rcases of_bif hr with ⟨hb6, hr⟩ | ⟨hb6, hr⟩
    · refine HT.cond1 rfl hb6 ?_
      refine HT.rg2 [oH] ⟨[(4, bV true)], [], 1⟩ hX (by kernel_rfl) allNil ?_
      have hr := of_some hr
      subst hr
      exact HT.ret (qThenR ⟨[bV true], [], [], by kernel_rfl, by kernel_rfl, rfl, by kernel_rfl, by kernel_rfl, trivial⟩)
    · refine HT.cond0 rfl hb6 ?_
      refine HT.skip (qThen ?_)
      obtain ⟨y7, hc8, hr⟩ := of_bind hr
      obtain ⟨y9, hc10, hr⟩ := of_bind hr
      obtain ⟨y11, hc12, hr⟩ := of_bind hr
      refine HT.rg2 [oH, ⟨none, .call [.imm (.st (.pair tI (.pair tI (.pair tLF (.pair tLF tLF)))))] [⟨true, (.st (.pair tI (.pair tI (.pair tLF (.pair tLF tLF))))), y7⟩] []⟩, oH, ⟨none, .call [.imm (.sl tLI)] [⟨true, (.sl (.own tI)), y9⟩] []⟩, ⟨none, .call [.imm (.st (.pair tI (.pair tI (.pair tLF (.pair tLF tLF))))), .imm (.sl tLI)] [⟨true, (.st (.pair tI (.pair tI (.pair tLF (.pair tLF tLF))))), y11.1⟩, ⟨false, .bool, y11.2⟩] []⟩, oH, oH, oH, oH, oH, oH] ⟨[(1, .one (.dat (.sl tLI) a1)), (2, pV 0 0), (6, pV 8 0), (7, bV y11.2)], [(8, .box [iC y11.1.1, iC y11.1.2.1, .all 5, .all 6, .all 7]), (5, .seq tF y11.1.2.2.1), (6, .seq tF y11.1.2.2.2.1), (7, .seq tF y11.1.2.2.2.2), (0, .box [iC a0.1, iC a0.2.1, lC a0.2.2.1, lC a0.2.2.2.1, lC a0.2.2.2.2])], 9⟩ hX (by kernel_rfl) (allCons (f12_ok hc8) (allCons (f28_ok hc10) (allCons (f27_ok hc12) allNil))) ?_
      obtain ⟨y13, hc14, hr⟩ := of_bind hr
      refine HT.rg2 [oH, ⟨none, .call [.imm (.st (.pair tI (.pair tI (.pair tLF (.pair tLF tLF)))))] [⟨true, (.st (.pair tI (.pair tI (.pair tLF (.pair tLF tLF))))), y13⟩] []⟩, oH, oH] ⟨[(1, .one (.dat (.sl tLI) a1)), (2, pV 0 0), (6, pV 8 0), (7, bV y11.2), (8, pV 12 0)], [(12, .box [iC y13.1, iC y13.2.1, .all 9, .all 10, .all 11]), (9, .seq tF y13.2.2.1), (10, .seq tF y13.2.2.2.1), (11, .seq tF y13.2.2.2.2), (8, .box [iC y11.1.1, iC y11.1.2.1, .all 5, .all 6, .all 7]), (5, .seq tF y11.1.2.2.1), (6, .seq tF y11.1.2.2.2.1), (7, .seq tF y11.1.2.2.2.2), (0, .box [iC a0.1, iC a0.2.1, lC a0.2.2.1, lC a0.2.2.2.1, lC a0.2.2.2.2])], 13⟩ hX (by kernel_rfl) (allCons (f12_ok hc14) allNil) ?_
      obtain ⟨y15, hc16, hr⟩ := of_bind hr
      refine HT.rg2 [oH, ⟨none, .call [.imm (.sl tLI)] [⟨true, (.sl (.own tI)), y15⟩] []⟩, oH] ⟨[(1, .one (.dat (.sl tLI) a1)), (2, pV 0 0), (6, pV 8 0), (7, bV y11.2), (8, pV 12 0), (9, aV 13)], [(13, .seq (.own tI) y15), (12, .box [iC y13.1, iC y13.2.1, .all 9, .all 10, .all 11]), (9, .seq tF y13.2.2.1), (10, .seq tF y13.2.2.2.1), (11, .seq tF y13.2.2.2.2), (8, .box [iC y11.1.1, iC y11.1.2.1, .all 5, .all 6, .all 7]), (5, .seq tF y11.1.2.2.1), (6, .seq tF y11.1.2.2.2.1), (7, .seq tF y11.1.2.2.2.2), (0, .box [iC a0.1, iC a0.2.1, lC a0.2.2.1, lC a0.2.2.2.1, lC a0.2.2.2.2])], 14⟩ hX (by kernel_rfl) (allCons (f28_ok hc16) allNil) ?_
      obtain ⟨y17, hc18, hr⟩ := of_bind hr
      refine HT.rg2 [oH, oH, ⟨none, .call [.imm (.st (.pair tI (.pair tI (.pair tLF (.pair tLF tLF))))), .imm (.sl tLI)] [⟨true, (.st (.pair tI (.pair tI (.pair tLF (.pair tLF tLF))))), y17.1⟩, ⟨false, .bool, y17.2⟩] []⟩, oH, oH, oH, oH, oH, oH] ⟨[(1, .one (.dat (.sl tLI) a1)), (2, pV 0 0), (6, pV 8 0), (7, bV y11.2), (8, pV 12 0), (9, aV 13), (10, pV 17 0), (11, bV y17.2)], [(17, .box [iC y17.1.1, iC y17.1.2.1, .all 14, .all 15, .all 16]), (14, .seq tF y17.1.2.2.1), (15, .seq tF y17.1.2.2.2.1), (16, .seq tF y17.1.2.2.2.2), (13, .seq (.own tI) y15), (12, .box [iC y13.1, iC y13.2.1, .all 9, .all 10, .all 11]), (9, .seq tF y13.2.2.1), (10, .seq tF y13.2.2.2.1), (11, .seq tF y13.2.2.2.2), (8, .box [iC y11.1.1, iC y11.1.2.1, .all 5, .all 6, .all 7]), (5, .seq tF y11.1.2.2.1), (6, .seq tF y11.1.2.2.2.1), (7, .seq tF y11.1.2.2.2.2), (0, .box [iC a0.1, iC a0.2.1, lC a0.2.2.1, lC a0.2.2.2.1, lC a0.2.2.2.2])], 18⟩ hX (by kernel_rfl) (allCons (f29_ok hc18) allNil) ?_
      refine HT.seq ?_
      obtain ⟨v19', hT21, hr⟩ := of_bind hr
      refine HT.join (fun (v19 : Bool) => ⟨[(1, .one (.dat (.sl tLI) a1)), (2, pV 0 0), (6, pV 1 0), (7, bV y11.2), (8, pV 2 0), (9, aV 3), (10, pV 4 0), (11, bV y17.2), (53, bV v19)], [(0, .box [iC a0.1, iC a0.2.1, lC a0.2.2.1, lC a0.2.2.2.1, lC a0.2.2.2.2]), (1, .box [iC y11.1.1, iC y11.1.2.1, .all 5, .all 6, .all 7]), (2, .box [iC y13.1, iC y13.2.1, .all 8, .all 9, .all 10]), (3, .seq (.own tI) y15), (4, .box [iC y17.1.1, iC y17.1.2.1, .all 11, .all 12, .all 13]), (5, .seq tF y11.1.2.2.1), (6, .seq tF y11.1.2.2.2.1), (7, .seq tF y11.1.2.2.2.2), (8, .seq tF y13.2.2.1), (9, .seq tF y13.2.2.2.1), (10, .seq tF y13.2.2.2.2), (11, .seq tF y17.1.2.2.1), (12, .seq tF y17.1.2.2.2.1), (13, .seq tF y17.1.2.2.2.2)], 14⟩) (fun v => v = v19') (fun v19 hv20 => ?_) (fun cont => ?_)
      · subst hv20
        rcases of_bif hr with ⟨hb22, hr⟩ | ⟨hb22, hr⟩
        · refine HT.cond1 rfl hb22 ?_
          refine HT.rg2 [oH] ⟨[(4, bV false)], [], 14⟩ hX (by kernel_rfl) allNil ?_
          have hr := of_some hr
          subst hr
          exact HT.ret (qThenR ⟨[bV false], [], [], by kernel_rfl, by kernel_rfl, rfl, by kernel_rfl, by kernel_rfl, trivial⟩)
        · refine HT.cond0 rfl hb22 ?_
          refine HT.skip (qThen ?_)
          refine HT.seq ?_
          obtain ⟨y23, hc24, hr⟩ := of_bind hr
          obtain ⟨y25, hc26, hr⟩ := of_bind hr
          refine HT.dr2 3 [⟨oH, []⟩, ⟨oH, []⟩, ⟨⟨none, .call [.imm (.st (.pair tI (.pair tI (.pair tLF (.pair tLF tLF)))))] [⟨true, (.st (.pair tI (.pair tI (.pair tLF (.pair tLF tLF))))), y23⟩] []⟩, [1]⟩] [[0, 1, 2], [0, 1, 2, 3]] [⟨none, .call [.imm (.st (.pair tI (.pair tI (.pair tLF (.pair tLF tLF))))), .imm (.st (.pair tI (.pair tI (.pair tLF (.pair tLF tLF)))))] [⟨false, .bool, y25⟩] []⟩, oH] ⟨[(1, .one (.dat (.sl tLI) a1)), (2, pV 0 0), (6, pV 1 0), (7, bV y11.2), (8, pV 2 0), (9, aV 3), (10, pV 4 0), (11, bV y17.2), (58, bV (!y25))], [(0, .box [iC a0.1, iC a0.2.1, lC a0.2.2.1, lC a0.2.2.2.1, lC a0.2.2.2.2]), (1, .box [iC y11.1.1, iC y11.1.2.1, .all 5, .all 6, .all 7]), (2, .box [iC y13.1, iC y13.2.1, .all 8, .all 9, .all 10]), (3, .seq (.own tI) y15), (4, .box [iC y17.1.1, iC y17.1.2.1, .all 11, .all 12, .all 13]), (5, .seq tF y11.1.2.2.1), (6, .seq tF y11.1.2.2.2.1), (7, .seq tF y11.1.2.2.2.2), (8, .seq tF y13.2.2.1), (9, .seq tF y13.2.2.2.1), (10, .seq tF y13.2.2.2.2), (11, .seq tF y17.1.2.2.1), (12, .seq tF y17.1.2.2.2.1), (13, .seq tF y17.1.2.2.2.2)], 17⟩ hX (by kernel_rfl) (by kernel_rfl) (allCons (f12_ok hc24) (allCons (f16_ok hc26) allNil)) ?_
          rcases of_bif hr with ⟨hb27, hr⟩ | ⟨hb27, hr⟩
          · refine HT.cond1 rfl hb27 ?_
            refine HT.rg2 [oH] ⟨[(4, bV false)], [], 17⟩ hX (by kernel_rfl) allNil ?_
            have hr := of_some hr
            subst hr
            exact HT.ret (qThenR ⟨[bV false], [], [], by kernel_rfl, by kernel_rfl, rfl, by kernel_rfl, by kernel_rfl, trivial⟩)
          · refine HT.cond0 rfl hb27 ?_
            refine HT.skip (qThen ?_)
            refine HT.seq ?_
            obtain ⟨y28, hc29, hr⟩ := of_bind hr
            obtain ⟨y30, hc31, hr⟩ := of_bind hr
            refine HT.rg2 [oH, oH, ⟨none, .call [.imm (.sl tLI)] [⟨true, (.sl (.own tI)), y28⟩] []⟩, ⟨none, .call [.imm (.sl tLI), .imm (.sl tLI)] [⟨false, .bool, y30⟩] []⟩, oH] ⟨[(1, .one (.dat (.sl tLI) a1)), (2, pV 0 0), (6, pV 1 0), (7, bV y11.2), (8, pV 2 0), (9, aV 3), (10, pV 4 0), (11, bV y17.2), (63, bV (!y30))], [(0, .box [iC a0.1, iC a0.2.1, lC a0.2.2.1, lC a0.2.2.2.1, lC a0.2.2.2.2]), (1, .box [iC y11.1.1, iC y11.1.2.1, .all 5, .all 6, .all 7]), (2, .box [iC y13.1, iC y13.2.1, .all 8, .all 9, .all 10]), (3, .seq (.own tI) y15), (4, .box [iC y17.1.1, iC y17.1.2.1, .all 11, .all 12, .all 13]), (5, .seq tF y11.1.2.2.1), (6, .seq tF y11.1.2.2.2.1), (7, .seq tF y11.1.2.2.2.2), (8, .seq tF y13.2.2.1), (9, .seq tF y13.2.2.2.1), (10, .seq tF y13.2.2.2.2), (11, .seq tF y17.1.2.2.1), (12, .seq tF y17.1.2.2.2.1), (13, .seq tF y17.1.2.2.2.2)], 18⟩ hX (by kernel_rfl) (allCons (f28_ok hc29) (allCons (f30_ok hc31) allNil)) ?_
            rcases of_bif hr with ⟨hb32, hr⟩ | ⟨hb32, hr⟩
            · refine HT.cond1 rfl hb32 ?_
              refine HT.rg2 [oH] ⟨[(4, bV false)], [], 18⟩ hX (by kernel_rfl) allNil ?_
              have hr := of_some hr
              subst hr
              exact HT.ret (qThenR ⟨[bV false], [], [], by kernel_rfl, by kernel_rfl, rfl, by kernel_rfl, by kernel_rfl, trivial⟩)
            · refine HT.cond0 rfl hb32 ?_
              refine HT.skip (qThen ?_)
              refine HT.rg2 [oH] ⟨[(1, .one (.dat (.sl tLI) a1)), (2, pV 0 0), (6, pV 1 0), (7, bV y11.2), (8, pV 2 0), (9, aV 3), (10, pV 4 0), (11, bV y17.2), (12, iV (1 : Int))], [(0, .box [iC a0.1, iC a0.2.1, lC a0.2.2.1, lC a0.2.2.2.1, lC a0.2.2.2.2]), (1, .box [iC y11.1.1, iC y11.1.2.1, .all 5, .all 6, .all 7]), (2, .box [iC y13.1, iC y13.2.1, .all 8, .all 9, .all 10]), (3, .seq (.own tI) y15), (4, .box [iC y17.1.1, iC y17.1.2.1, .all 11, .all 12, .all 13]), (5, .seq tF y11.1.2.2.1), (6, .seq tF y11.1.2.2.2.1), (7, .seq tF y11.1.2.2.2.2), (8, .seq tF y13.2.2.1), (9, .seq tF y13.2.2.2.1), (10, .seq tF y13.2.2.2.2), (11, .seq tF y17.1.2.2.1), (12, .seq tF y17.1.2.2.2.1), (13, .seq tF y17.1.2.2.2.2)], 18⟩ hX (by kernel_rfl) allNil ?_
              obtain ⟨y33, hc34, hr⟩ := of_bind hr
              refine HT.rg2 [oH, oH, ⟨none, .call [.own (.st (.pair tI (.pair tI (.pair tLF (.pair tLF tLF))))), .imm tI] [⟨false, tI, y33.1⟩] [⟨(.st (.pair tI (.pair tI (.pair tLF (.pair tLF tLF))))), y33.2⟩]⟩, oH] ⟨[(1, .one (.dat (.sl tLI) a1)), (2, pV 0 0), (6, pV 1 0), (7, bV y11.2), (9, aV 3), (10, pV 4 0), (11, bV y17.2), (12, iV y33.1)], [(0, .box [iC a0.1, iC a0.2.1, lC a0.2.2.1, lC a0.2.2.2.1, lC a0.2.2.2.2]), (1, .box [iC y11.1.1, iC y11.1.2.1, .all 5, .all 6, .all 7]), (3, .seq (.own tI) y15), (4, .box [iC y17.1.1, iC y17.1.2.1, .all 11, .all 12, .all 13]), (5, .seq tF y11.1.2.2.1), (6, .seq tF y11.1.2.2.2.1), (7, .seq tF y11.1.2.2.2.2), (11, .seq tF y17.1.2.2.1), (12, .seq tF y17.1.2.2.2.1), (13, .seq tF y17.1.2.2.2.2)], 18⟩ hX (by kernel_rfl) (allCons (f18_ok hc34) allNil) ?_
              obtain ⟨y35, hc36, hr⟩ := of_bind hr
              refine HT.rg2 [oH, oH, ⟨none, .call [.own (.sl (.own tI)), .imm tI] [⟨false, tI, y35.1⟩] [⟨(.sl (.own tI)), y35.2⟩]⟩, oH] ⟨[(1, .one (.dat (.sl tLI) a1)), (2, pV 0 0), (6, pV 1 0), (7, bV y11.2), (10, pV 4 0), (11, bV y17.2), (12, iV y35.1)], [(0, .box [iC a0.1, iC a0.2.1, lC a0.2.2.1, lC a0.2.2.2.1, lC a0.2.2.2.2]), (1, .box [iC y11.1.1, iC y11.1.2.1, .all 5, .all 6, .all 7]), (4, .box [iC y17.1.1, iC y17.1.2.1, .all 11, .all 12, .all 13]), (5, .seq tF y11.1.2.2.1), (6, .seq tF y11.1.2.2.2.1), (7, .seq tF y11.1.2.2.2.2), (11, .seq tF y17.1.2.2.1), (12, .seq tF y17.1.2.2.2.1), (13, .seq tF y17.1.2.2.2.2)], 18⟩ hX (by kernel_rfl) (allCons (f31_ok hc36) allNil) ?_
              refine HT.seq ?_
              obtain ⟨v37', hT39, hr⟩ := of_bind hr
              refine HT.join (fun (v37 : Bool) => ⟨[(1, .one (.dat (.sl tLI) a1)), (2, pV 0 0), (6, pV 1 0), (7, bV y11.2), (10, pV 2 0), (82, bV v37)], [(0, .box [iC a0.1, iC a0.2.1, lC a0.2.2.1, lC a0.2.2.2.1, lC a0.2.2.2.2]), (1, .box [iC y11.1.1, iC y11.1.2.1, .all 3, .all 4, .all 5]), (2, .box [iC y17.1.1, iC y17.1.2.1, .all 6, .all 7, .all 8]), (3, .seq tF y11.1.2.2.1), (4, .seq tF y11.1.2.2.2.1), (5, .seq tF y11.1.2.2.2.2), (6, .seq tF y17.1.2.2.1), (7, .seq tF y17.1.2.2.2.1), (8, .seq tF y17.1.2.2.2.2)], 9⟩) (fun v => v = v37') (fun v37 hv38 => ?_) (fun cont => ?_)
              · subst hv38
                rcases of_bif hr with ⟨hb40, hr⟩ | ⟨hb40, hr⟩
                · refine HT.cond1 rfl hb40 ?_
                  refine HT.rg2 [oH] ⟨[(4, bV false)], [], 9⟩ hX (by kernel_rfl) allNil ?_
                  have hr := of_some hr
                  subst hr
                  exact HT.ret (qThenR ⟨[bV false], [], [], by kernel_rfl, by kernel_rfl, rfl, by kernel_rfl, by kernel_rfl, trivial⟩)
                · refine HT.cond0 rfl hb40 ?_
                  refine HT.skip (qThen ?_)
                  refine HT.rg2 [oH] ⟨[(1, .one (.dat (.sl tLI) a1)), (2, pV 0 0), (6, pV 1 0), (7, bV y11.2), (10, pV 2 0), (13, iV (1 : Int))], [(0, .box [iC a0.1, iC a0.2.1, lC a0.2.2.1, lC a0.2.2.2.1, lC a0.2.2.2.2]), (1, .box [iC y11.1.1, iC y11.1.2.1, .all 3, .all 4, .all 5]), (2, .box [iC y17.1.1, iC y17.1.2.1, .all 6, .all 7, .all 8]), (3, .seq tF y11.1.2.2.1), (4, .seq tF y11.1.2.2.2.1), (5, .seq tF y11.1.2.2.2.2), (6, .seq tF y17.1.2.2.1), (7, .seq tF y17.1.2.2.2.1), (8, .seq tF y17.1.2.2.2.2)], 9⟩ hX (by kernel_rfl) allNil ?_
                  obtain ⟨y41, hc42, hr⟩ := of_bind hr
                  refine HT.rg2 [oH, oH, ⟨none, .call [.own (.st (.pair tI (.pair tI (.pair tLF (.pair tLF tLF))))), .imm tI] [⟨false, tI, y41.1⟩] [⟨(.st (.pair tI (.pair tI (.pair tLF (.pair tLF tLF))))), y41.2⟩]⟩, oH] ⟨[(1, .one (.dat (.sl tLI) a1)), (2, pV 0 0), (6, pV 1 0), (7, bV y11.2), (10, pV 2 0), (13, iV y41.1)], [(6, .seq tF y41.2.2.2.1), (7, .seq tF y41.2.2.2.2.1), (8, .seq tF y41.2.2.2.2.2), (0, .box [iC a0.1, iC a0.2.1, lC a0.2.2.1, lC a0.2.2.2.1, lC a0.2.2.2.2]), (1, .box [iC y11.1.1, iC y11.1.2.1, .all 3, .all 4, .all 5]), (2, .box [iC y17.1.1, iC y17.1.2.1, .all 6, .all 7, .all 8]), (3, .seq tF y11.1.2.2.1), (4, .seq tF y11.1.2.2.2.1), (5, .seq tF y11.1.2.2.2.2)], 9⟩ hX (by kernel_rfl) (allCons (f18_ok hc42) allNil) ?_
                  refine HT.rg2 [oH] ⟨[(1, .one (.dat (.sl tLI) a1)), (2, pV 0 0), (6, pV 1 0), (7, bV y11.2), (10, pV 2 0), (13, iV y41.1), (14, iV (1 : Int))], [(6, .seq tF y41.2.2.2.1), (7, .seq tF y41.2.2.2.2.1), (8, .seq tF y41.2.2.2.2.2), (0, .box [iC a0.1, iC a0.2.1, lC a0.2.2.1, lC a0.2.2.2.1, lC a0.2.2.2.2]), (1, .box [iC y11.1.1, iC y11.1.2.1, .all 3, .all 4, .all 5]), (2, .box [iC y17.1.1, iC y17.1.2.1, .all 6, .all 7, .all 8]), (3, .seq tF y11.1.2.2.1), (4, .seq tF y11.1.2.2.2.1), (5, .seq tF y11.1.2.2.2.2)], 9⟩ hX (by kernel_rfl) allNil ?_
                  obtain ⟨y43, hc44, hr⟩ := of_bind hr
                  refine HT.rg2 [oH, oH, ⟨none, .call [.imm (.st (.pair tI (.pair tI (.pair tLF (.pair tLF tLF))))), .imm tI] [⟨false, tI, y43⟩] []⟩, oH] ⟨[(1, .one (.dat (.sl tLI) a1)), (2, pV 0 0), (6, pV 1 0), (7, bV y11.2), (10, pV 2 0), (13, iV y41.1), (14, iV y43)], [(6, .seq tF y41.2.2.2.1), (7, .seq tF y41.2.2.2.2.1), (8, .seq tF y41.2.2.2.2.2), (0, .box [iC a0.1, iC a0.2.1, lC a0.2.2.1, lC a0.2.2.2.1, lC a0.2.2.2.2]), (1, .box [iC y11.1.1, iC y11.1.2.1, .all 3, .all 4, .all 5]), (2, .box [iC y17.1.1, iC y17.1.2.1, .all 6, .all 7, .all 8]), (3, .seq tF y11.1.2.2.1), (4, .seq tF y11.1.2.2.2.1), (5, .seq tF y11.1.2.2.2.2)], 9⟩ hX (by kernel_rfl) (allCons (f32_ok hc44) allNil) ?_
                  refine HT.seq ?_
                  refine HT.rg2 (oHs 2) ⟨[(1, .one (.dat (.sl tLI) a1)), (2, pV 0 0), (6, pV 1 0), (7, bV y11.2), (10, pV 2 0), (13, iV y41.1), (14, iV y43), (90, bV (decide (y43 < (0 : Int))))], [(6, .seq tF y41.2.2.2.1), (7, .seq tF y41.2.2.2.2.1), (8, .seq tF y41.2.2.2.2.2), (0, .box [iC a0.1, iC a0.2.1, lC a0.2.2.1, lC a0.2.2.2.1, lC a0.2.2.2.2]), (1, .box [iC y11.1.1, iC y11.1.2.1, .all 3, .all 4, .all 5]), (2, .box [iC y17.1.1, iC y17.1.2.1, .all 6, .all 7, .all 8]), (3, .seq tF y11.1.2.2.1), (4, .seq tF y11.1.2.2.2.1), (5, .seq tF y11.1.2.2.2.2)], 9⟩ hX (by kernel_rfl) allNil ?_
                  rcases of_bif hr with ⟨hb45, hr⟩ | ⟨hb45, hr⟩
                  · refine HT.cond1 rfl hb45 ?_
                    refine HT.rg2 [oH] ⟨[(4, bV false)], [], 9⟩ hX (by kernel_rfl) allNil ?_
                    have hr := of_some hr
                    subst hr
                    exact HT.ret (qThenR ⟨[bV false], [], [], by kernel_rfl, by kernel_rfl, rfl, by kernel_rfl, by kernel_rfl, trivial⟩)
                  · refine HT.cond0 rfl hb45 ?_
                    refine HT.skip (qThen ?_)
                    refine HT.seq ?_
                    refine HT.rg2 (oHs 3) ⟨[(1, .one (.dat (.sl tLI) a1)), (2, pV 0 0), (6, pV 1 0), (7, bV y11.2), (10, pV 2 0), (13, iV y41.1), (93, bV (y43 != y41.1))], [(6, .seq tF y41.2.2.2.1), (7, .seq tF y41.2.2.2.2.1), (8, .seq tF y41.2.2.2.2.2), (0, .box [iC a0.1, iC a0.2.1, lC a0.2.2.1, lC a0.2.2.2.1, lC a0.2.2.2.2]), (1, .box [iC y11.1.1, iC y11.1.2.1, .all 3, .all 4, .all 5]), (2, .box [iC y17.1.1, iC y17.1.2.1, .all 6, .all 7, .all 8]), (3, .seq tF y11.1.2.2.1), (4, .seq tF y11.1.2.2.2.1), (5, .seq tF y11.1.2.2.2.2)], 9⟩ hX (by kernel_rfl) allNil ?_
                    rcases of_bif hr with ⟨hb46, hr⟩ | ⟨hb46, hr⟩
                    · refine HT.cond1 rfl hb46 ?_
                      refine HT.rg2 [oH] ⟨[(4, bV false)], [], 9⟩ hX (by kernel_rfl) allNil ?_
                      have hr := of_some hr
                      subst hr
                      exact HT.ret (qThenR ⟨[bV false], [], [], by kernel_rfl, by kernel_rfl, rfl, by kernel_rfl, by kernel_rfl, trivial⟩)
                    · refine HT.cond0 rfl hb46 ?_
                      refine HT.skip (qThen ?_)
                      obtain ⟨y47, hc48, hr⟩ := of_bind hr
                      obtain ⟨y49, hc50, hr⟩ := of_bind hr
                      obtain ⟨y51, hc52, hr⟩ := of_bind hr
                      refine HT.rg2 [oH, ⟨none, .call [.imm (.st (.pair tI (.pair tI (.pair tLF (.pair tLF tLF)))))] [⟨true, (.st (.pair tI (.pair tI (.pair tLF (.pair tLF tLF))))), y47⟩] []⟩, oH, ⟨none, .call [.imm (.sl tLI)] [⟨true, (.sl (.own tI)), y49⟩] []⟩, ⟨none, .call [.imm (.st (.pair tI (.pair tI (.pair tLF (.pair tLF tLF))))), .imm (.sl tLI)] [⟨true, (.st (.pair tI (.pair tI (.pair tLF (.pair tLF tLF))))), y51.1⟩, ⟨false, .bool, y51.2⟩] []⟩, oH, oH, oH, oH, oH, oH] ⟨[(6, pV 1 0), (7, bV y11.2), (10, pV 2 0), (13, iV y41.1), (15, pV 16 0), (16, bV y51.2)], [(16, .box [iC y51.1.1, iC y51.1.2.1, .all 13, .all 14, .all 15]), (13, .seq tF y51.1.2.2.1), (14, .seq tF y51.1.2.2.2.1), (15, .seq tF y51.1.2.2.2.2), (6, .seq tF y41.2.2.2.1), (7, .seq tF y41.2.2.2.2.1), (8, .seq tF y41.2.2.2.2.2), (1, .box [iC y11.1.1, iC y11.1.2.1, .all 3, .all 4, .all 5]), (2, .box [iC y17.1.1, iC y17.1.2.1, .all 6, .all 7, .all 8]), (3, .seq tF y11.1.2.2.1), (4, .seq tF y11.1.2.2.2.1), (5, .seq tF y11.1.2.2.2.2)], 17⟩ hX (by kernel_rfl) (allCons (f12_ok hc48) (allCons (f28_ok hc50) (allCons (f29_ok hc52) allNil))) ?_
                      refine HT.seq ?_
                      obtain ⟨v53', hT55, hr⟩ := of_bind hr
                      refine HT.join (fun (v53 : Bool) => ⟨[(10, pV 0 0), (13, iV y41.1), (110, bV v53)], [(0, .box [iC y17.1.1, iC y17.1.2.1, .all 1, .all 2, .all 3]), (1, .seq tF y41.2.2.2.1), (2, .seq tF y41.2.2.2.2.1), (3, .seq tF y41.2.2.2.2.2)], 4⟩) (fun v => v = v53') (fun v53 hv54 => ?_) (fun cont => ?_)
                      · subst hv54
                        rcases of_bif hr with ⟨hb56, hr⟩ | ⟨hb56, hr⟩
                        · refine HT.cond1 rfl hb56 ?_
                          refine HT.rg2 [oH] ⟨[(4, bV false)], [], 4⟩ hX (by kernel_rfl) allNil ?_
                          have hr := of_some hr
                          subst hr
                          exact HT.ret (qThenR ⟨[bV false], [], [], by kernel_rfl, by kernel_rfl, rfl, by kernel_rfl, by kernel_rfl, trivial⟩)
                        · refine HT.cond0 rfl hb56 ?_
                          refine HT.skip (qThen ?_)
                          refine HT.rg2 [oH] ⟨[(10, pV 0 0), (13, iV y41.1), (14, iV (1 : Int))], [(0, .box [iC y17.1.1, iC y17.1.2.1, .all 1, .all 2, .all 3]), (1, .seq tF y41.2.2.2.1), (2, .seq tF y41.2.2.2.2.1), (3, .seq tF y41.2.2.2.2.2)], 4⟩ hX (by kernel_rfl) allNil ?_
                          obtain ⟨y57, hc58, hr⟩ := of_bind hr
                          refine HT.rg2 [oH, oH, ⟨none, .call [.imm (.st (.pair tI (.pair tI (.pair tLF (.pair tLF tLF))))), .imm tI] [⟨false, tI, y57⟩] []⟩, oH] ⟨[(13, iV y41.1), (14, iV y57)], [], 4⟩ hX (by kernel_rfl) (allCons (f32_ok hc58) allNil) ?_
                          refine HT.seq ?_
                          refine HT.rg2 (oHs 2) ⟨[(13, iV y41.1), (14, iV y57), (115, bV (decide (y57 < (0 : Int))))], [], 4⟩ hX (by kernel_rfl) allNil ?_
                          rcases of_bif hr with ⟨hb59, hr⟩ | ⟨hb59, hr⟩
                          · refine HT.cond1 rfl hb59 ?_
                            refine HT.rg2 [oH] ⟨[(4, bV false)], [], 4⟩ hX (by kernel_rfl) allNil ?_
                            have hr := of_some hr
                            subst hr
                            exact HT.ret (qThenR ⟨[bV false], [], [], by kernel_rfl, by kernel_rfl, rfl, by kernel_rfl, by kernel_rfl, trivial⟩)
                          · refine HT.cond0 rfl hb59 ?_
                            refine HT.skip (qThen ?_)
                            refine HT.seq ?_
                            refine HT.rg2 (oHs 3) ⟨[(118, bV (y57 != y41.1))], [], 4⟩ hX (by kernel_rfl) allNil ?_
                            rcases of_bif hr with ⟨hb60, hr⟩ | ⟨hb60, hr⟩
                            · refine HT.cond1 rfl hb60 ?_
                              refine HT.rg2 [oH] ⟨[(4, bV false)], [], 4⟩ hX (by kernel_rfl) allNil ?_
                              have hr := of_some hr
                              subst hr
                              exact HT.ret (qThenR ⟨[bV false], [], [], by kernel_rfl, by kernel_rfl, rfl, by kernel_rfl, by kernel_rfl, trivial⟩)
                            · refine HT.cond0 rfl hb60 ?_
                              refine HT.skip (qThen ?_)
                              refine HT.rg2 [oH] ⟨[(4, bV true)], [], 4⟩ hX (by kernel_rfl) allNil ?_
                              have hr := of_some hr
                              subst hr
                              exact HT.ret ⟨[bV true], [], [], by kernel_rfl, by kernel_rfl, rfl, by kernel_rfl, by kernel_rfl, trivial⟩
                      · obtain ⟨y61, hc62, hT55⟩ := of_bind hT55
                        rcases of_bif hT55 with ⟨hb63, hT55⟩ | ⟨hb63, hT55⟩
                        · exact HT.rgK [oH, oH, ⟨none, .call [.imm (.st (.pair tI (.pair tI (.pair tLF (.pair tLF tLF))))), .imm (.st (.pair tI (.pair tI (.pair tLF (.pair tLF tLF)))))] [⟨false, .bool, y61⟩] []⟩, oH, oH, ⟨some true, .no⟩, ⟨some true, .no⟩, ⟨some true, .no⟩, ⟨none, .tv true⟩] [(2, 0), (6, 1), (7, 2), (8, 3)] [] hX (by kernel_rfl) (allCons (f16_ok hc62) (allCons hb63 (allCons hb63 (allCons hb63 (allCons hb63 allNil))))) (fun _ h => (qThen (h.ht (cont true (of_some hT55)))))
                        · exact HT.rgK [oH, oH, ⟨none, .call [.imm (.st (.pair tI (.pair tI (.pair tLF (.pair tLF tLF))))), .imm (.st (.pair tI (.pair tI (.pair tLF (.pair tLF tLF)))))] [⟨false, .bool, y61⟩] []⟩, oH, oH, ⟨some false, .no⟩, ⟨some false, .no⟩, ⟨some false, .no⟩, ⟨none, .tv false⟩] [(2, 0), (6, 1), (7, 2), (8, 3)] [] hX (by kernel_rfl) (allCons (f16_ok hc62) (allCons hb63 (allCons hb63 (allCons hb63 (allCons hb63 allNil))))) (fun _ h => (qThen (h.ht (cont (y51.2 != y11.2) (of_some hT55)))))
              · rcases of_bif hT39 with ⟨hb64, hT39⟩ | ⟨hb64, hT39⟩
                · exact HT.rgK [oH, oH, oH, ⟨some true, .no⟩, ⟨some true, .no⟩, ⟨some true, .no⟩, ⟨some true, .no⟩, ⟨none, .tv true⟩, oH, ⟨some true, .no⟩, ⟨some true, .no⟩, ⟨some true, .no⟩, ⟨none, .tv true⟩] [(0, 0), (1, 1), (4, 2), (5, 3), (6, 4), (7, 5), (11, 6), (12, 7), (13, 8)] [] hX (by kernel_rfl) (allCons hb64 (allCons hb64 (allCons hb64 (allCons hb64 (allCons hb64 (allCons (rfl : true = true) (allCons (rfl : true = true) (allCons (rfl : true = true) (allCons (rfl : true = true) allNil))))))))) (fun _ h => (qThen (h.ht (cont true (of_some hT39)))))
                · obtain ⟨y65, hc66, hT39⟩ := of_bind hT39
                  rcases of_bif hT39 with ⟨hb67, hT39⟩ | ⟨hb67, hT39⟩
                  · exact HT.rgK [oH, oH, oH, ⟨some false, .no⟩, ⟨some false, .no⟩, ⟨some false, .call [.imm (.st (.pair tI (.pair tI (.pair tLF (.pair tLF tLF))))), .imm (.st (.pair tI (.pair tI (.pair tLF (.pair tLF tLF)))))] [⟨false, .bool, y65⟩] []⟩, ⟨some false, .no⟩, ⟨none, .tv false⟩, oH, ⟨some true, .no⟩, ⟨some true, .no⟩, ⟨some true, .no⟩, ⟨none, .tv true⟩] [(0, 0), (1, 1), (4, 2), (5, 3), (6, 4), (7, 5), (11, 6), (12, 7), (13, 8)] [] hX (by kernel_rfl) (allCons hb64 (allCons hb64 (allCons hb64 (allCons (f16_ok hc66) (allCons hb64 (allCons hb64 (allCons hb67 (allCons hb67 (allCons hb67 (allCons hb67 allNil)))))))))) (fun _ h => (qThen (h.ht (cont true (of_some hT39)))))
                  · exact HT.rgK [oH, oH, oH, ⟨some false, .no⟩, ⟨some false, .no⟩, ⟨some false, .call [.imm (.st (.pair tI (.pair tI (.pair tLF (.pair tLF tLF))))), .imm (.st (.pair tI (.pair tI (.pair tLF (.pair tLF tLF)))))] [⟨false, .bool, y65⟩] []⟩, ⟨some false, .no⟩, ⟨none, .tv false⟩, oH, ⟨some false, .no⟩, ⟨some false, .no⟩, ⟨some false, .no⟩, ⟨none, .tv false⟩] [(0, 0), (1, 1), (4, 2), (5, 3), (6, 4), (7, 5), (11, 6), (12, 7), (13, 8)] [] hX (by kernel_rfl) (allCons hb64 (allCons hb64 (allCons hb64 (allCons (f16_ok hc66) (allCons hb64 (allCons hb64 (allCons hb67 (allCons hb67 (allCons hb67 (allCons hb67 allNil)))))))))) (fun _ h => (qThen (h.ht (cont (y17.2 != y11.2) (of_some hT39)))))
      · obtain ⟨y68, hc69, hT21⟩ := of_bind hT21
        rcases of_bif hT21 with ⟨hb70, hT21⟩ | ⟨hb70, hT21⟩
        · exact HT.rgK [oH, oH, ⟨none, .call [.imm (.st (.pair tI (.pair tI (.pair tLF (.pair tLF tLF))))), .imm (.st (.pair tI (.pair tI (.pair tLF (.pair tLF tLF)))))] [⟨false, .bool, y68⟩] []⟩, oH, oH, ⟨some true, .no⟩, ⟨some true, .no⟩, ⟨some true, .no⟩, ⟨none, .tv true⟩] [(0, 0), (8, 1), (12, 2), (13, 3), (17, 4), (5, 5), (6, 6), (7, 7), (9, 8), (10, 9), (11, 10), (14, 11), (15, 12), (16, 13)] [] hX (by kernel_rfl) (allCons (f16_ok hc69) (allCons hb70 (allCons hb70 (allCons hb70 (allCons hb70 allNil))))) (fun _ h => (qThen (h.ht (cont true (of_some hT21)))))
        · exact HT.rgK [oH, oH, ⟨none, .call [.imm (.st (.pair tI (.pair tI (.pair tLF (.pair tLF tLF))))), .imm (.st (.pair tI (.pair tI (.pair tLF (.pair tLF tLF)))))] [⟨false, .bool, y68⟩] []⟩, oH, oH, ⟨some false, .no⟩, ⟨some false, .no⟩, ⟨some false, .no⟩, ⟨none, .tv false⟩] [(0, 0), (8, 1), (12, 2), (13, 3), (17, 4), (5, 5), (6, 6), (7, 7), (9, 8), (10, 9), (11, 10), (14, 11), (15, 12), (16, 13)] [] hX (by kernel_rfl) (allCons (f16_ok hc69) (allCons hb70 (allCons hb70 (allCons hb70 (allCons hb70 allNil))))) (fun _ h => (qThen (h.ht (cont (y17.2 != y11.2) (of_some hT21)))))

end Go.Proofs
