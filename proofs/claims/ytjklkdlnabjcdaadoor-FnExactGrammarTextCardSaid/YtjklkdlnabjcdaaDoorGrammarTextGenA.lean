import Derived.Test.YtjklkdlnabjcdaaDoorGrammarTextShelf
import Derived.Test.YtjklkdlnabjcdaaDoorProg
set_option linter.unusedVariables false
set_option linter.unusedSimpArgs false
set_option linter.unusedSectionVars false
/-
  Functions as plain functions, and their contracts. Printed by a program.
-/
namespace Go.Proofs
open Go.Ide

noncomputable def laws_szRuleS (a0 : List (Int × Int × Int × Int)) (a1 : Int) : Option (Int) :=
  bif (decide ((wsub .i64 a1 (lenI a0)) < (0 : Int))) then
    some (-1 : Int)
  else
    some (wsub .i64 a1 (lenI a0))

theorem f60_ok {a0 : List (Int × Int × Int × Int)} {a1 : Int} {r : Int} (hr : laws_szRuleS a0 a1 = some r) : CallOK Tryd.prog 60 [.imm (.sl (.st (.pair tI (.pair tI (.pair tI tI))))) a0, .imm tI a1] [⟨false, tI, r⟩] [] := by
  unfold laws_szRuleS at hr
  refine CallOK.of_body (ts := [(false, tI)]) Tryd.func60 rfl (by kernel_rfl) (Nat.le_of_ble_eq_true (by kernel_rfl)) fun cx hP hN hO hF => ?_
  have hO : cx.own.map Prod.fst = [] := hO
  have hX := CxIs.mk hP hN hO
  have hF := hF rfl
  show HT cx ⟨[(0, .one (.dat (.sl (.st (.pair tI (.pair tI (.pair tI tI))))) a0)), (1, iV a1)], [], 0⟩ _ _
  refine HT.rg2 [oH] ⟨[(0, .one (.dat (.sl (.st (.pair tI (.pair tI (.pair tI tI))))) a0)), (1, iV a1)], [], 0⟩ hX (by kernel_rfl) allNil ?_
  refine HT.rg2 (oHs 5) ⟨[(1, iV (wsub .i64 a1 (lenI a0)))], [], 0⟩ hX (by kernel_rfl) allNil ?_
  refine HT.seq ?_
  refine HT.rg2 (oHs 2) ⟨[(1, iV (wsub .i64 a1 (lenI a0))), (10, bV (decide ((wsub .i64 a1 (lenI a0)) < (0 : Int))))], [], 0⟩ hX (by kernel_rfl) allNil ?_
  rcases of_bif hr with ⟨hb1, hr⟩ | ⟨hb1, hr⟩
  · refine HT.cond1 rfl hb1 ?_
    refine HT.rg2 [oH] ⟨[(4, iV (-1 : Int))], [], 0⟩ hX (by kernel_rfl) allNil ?_
    have hr := of_some hr
    subst hr
    exact HT.ret (qThenR ⟨[iV (-1 : Int)], [], [], by kernel_rfl, by kernel_rfl, rfl, by kernel_rfl, by kernel_rfl, trivial⟩)
  · refine HT.cond0 rfl hb1 ?_
    refine HT.skip (qThen ?_)
    refine HT.rg2 (oHs 2) ⟨[(4, iV (wsub .i64 a1 (lenI a0)))], [], 0⟩ hX (by kernel_rfl) allNil ?_
    have hr := of_some hr
    subst hr
    exact HT.ret ⟨[iV (wsub .i64 a1 (lenI a0))], [], [], by kernel_rfl, by kernel_rfl, rfl, by kernel_rfl, by kernel_rfl, trivial⟩

noncomputable def laws_szGrammar (a0 : Int × Int × List (Int × Int × Int × Int)) (a1 : Int) : Option (Int) :=
  (laws_szRuleS a0.2.2 a1).bind fun y1 =>
  bif (decide (y1 < (0 : Int))) then
    some (-1 : Int)
  else
    some y1

theorem f21_ok {a0 : Int × Int × List (Int × Int × Int × Int)} {a1 : Int} {r : Int} (hr : laws_szGrammar a0 a1 = some r) : CallOK Tryd.prog 21 [.imm (.st (.pair tI (.pair tI (.sl (.st (.pair tI (.pair tI (.pair tI tI)))))))) a0, .imm tI a1] [⟨false, tI, r⟩] [] := by
  unfold laws_szGrammar at hr
  refine CallOK.of_body (ts := [(false, tI)]) Tryd.func21 rfl (by kernel_rfl) (Nat.le_of_ble_eq_true (by kernel_rfl)) fun cx hP hN hO hF => ?_
  have hO : cx.own.map Prod.fst = [] := hO
  have hX := CxIs.mk hP hN hO
  have hF := hF rfl
  show HT cx ⟨[(0, .agg [iC a0.1, iC a0.2.1, .dat (.sl (.st (.pair tI (.pair tI (.pair tI tI))))) a0.2.2]), (1, iV a1)], [], 0⟩ _ _
  refine HT.rg2 (oHs 2) ⟨[(1, iV a1), (2, pV 0 0)], [(0, .box [iC a0.1, iC a0.2.1, .dat (.sl (.st (.pair tI (.pair tI (.pair tI tI))))) a0.2.2])], 1⟩ hX (by kernel_rfl) allNil ?_
  obtain ⟨y1, hc2, hr⟩ := of_bind hr
  refine HT.rg2 [oH, oH, oH, ⟨none, .call [.imm (.sl (.st (.pair tI (.pair tI (.pair tI tI))))), .imm tI] [⟨false, tI, y1⟩] []⟩, oH] ⟨[(1, iV y1)], [], 1⟩ hX (by kernel_rfl) (allCons (f60_ok hc2) allNil) ?_
  refine HT.seq ?_
  refine HT.rg2 (oHs 2) ⟨[(1, iV y1), (10, bV (decide (y1 < (0 : Int))))], [], 1⟩ hX (by kernel_rfl) allNil ?_
  rcases of_bif hr with ⟨hb3, hr⟩ | ⟨hb3, hr⟩
  · refine HT.cond1 rfl hb3 ?_
    refine HT.rg2 [oH] ⟨[(4, iV (-1 : Int))], [], 1⟩ hX (by kernel_rfl) allNil ?_
    have hr := of_some hr
    subst hr
    exact HT.ret (qThenR ⟨[iV (-1 : Int)], [], [], by kernel_rfl, by kernel_rfl, rfl, by kernel_rfl, by kernel_rfl, trivial⟩)
  · refine HT.cond0 rfl hb3 ?_
    refine HT.skip (qThen ?_)
    refine HT.rg2 (oHs 2) ⟨[(4, iV y1)], [], 1⟩ hX (by kernel_rfl) allNil ?_
    have hr := of_some hr
    subst hr
    exact HT.ret ⟨[iV y1], [], [], by kernel_rfl, by kernel_rfl, rfl, by kernel_rfl, by kernel_rfl, trivial⟩

noncomputable def laws_toRule (a0 : Int × Int × Int × Int) : Option ((Int × Int × Int × Int)) :=
  some (a0.1, a0.2.1, a0.2.2.1, a0.2.2.2)

theorem f113_ok {a0 : Int × Int × Int × Int} {r : (Int × Int × Int × Int)} (hr : laws_toRule a0 = some r) : CallOK Tryd.prog 113 [.imm (.st (.pair tI (.pair tI (.pair tI tI)))) a0] [⟨false, (.st (.pair tI (.pair tI (.pair tI tI)))), r⟩] [] := by
  unfold laws_toRule at hr
  refine CallOK.of_body (ts := [(false, (.st (.pair tI (.pair tI (.pair tI tI)))))]) Tryd.func113 rfl (by kernel_rfl) (Nat.le_of_ble_eq_true (by kernel_rfl)) fun cx hP hN hO hF => ?_
  have hO : cx.own.map Prod.fst = [] := hO
  have hX := CxIs.mk hP hN hO
  have hF := hF rfl
  show HT cx ⟨[(0, .agg [iC a0.1, iC a0.2.1, iC a0.2.2.1, iC a0.2.2.2])], [], 0⟩ _ _
  refine HT.rg2 (oHs 2) ⟨[(1, pV 0 0), (2, pV 1 0)], [(1, .box [iC (0 : Int), iC (0 : Int), iC (0 : Int), iC (0 : Int)]), (0, .box [iC a0.1, iC a0.2.1, iC a0.2.2.1, iC a0.2.2.2])], 2⟩ hX (by kernel_rfl) allNil ?_
  refine HT.rg2 [oH] ⟨[(1, pV 0 0), (2, pV 1 0), (3, pV 2 0)], [(2, .box [iC (0 : Int), iC (0 : Int), iC (0 : Int), iC (0 : Int)]), (1, .box [iC (0 : Int), iC (0 : Int), iC (0 : Int), iC (0 : Int)]), (0, .box [iC a0.1, iC a0.2.1, iC a0.2.2.1, iC a0.2.2.2])], 3⟩ hX (by kernel_rfl) allNil ?_
  refine HT.rg2 (oHs 4) ⟨[(1, pV 0 0), (2, pV 1 0), (3, pV 2 0)], [(2, .box [iC a0.1, iC (0 : Int), iC (0 : Int), iC (0 : Int)]), (1, .box [iC (0 : Int), iC (0 : Int), iC (0 : Int), iC (0 : Int)]), (0, .box [iC a0.1, iC a0.2.1, iC a0.2.2.1, iC a0.2.2.2])], 3⟩ hX (by kernel_rfl) allNil ?_
  refine HT.rg2 (oHs 4) ⟨[(1, pV 0 0), (2, pV 1 0), (3, pV 2 0)], [(2, .box [iC a0.1, iC a0.2.1, iC (0 : Int), iC (0 : Int)]), (1, .box [iC (0 : Int), iC (0 : Int), iC (0 : Int), iC (0 : Int)]), (0, .box [iC a0.1, iC a0.2.1, iC a0.2.2.1, iC a0.2.2.2])], 3⟩ hX (by kernel_rfl) allNil ?_
  refine HT.rg2 (oHs 4) ⟨[(1, pV 0 0), (2, pV 1 0), (3, pV 2 0)], [(2, .box [iC a0.1, iC a0.2.1, iC a0.2.2.1, iC (0 : Int)]), (1, .box [iC (0 : Int), iC (0 : Int), iC (0 : Int), iC (0 : Int)]), (0, .box [iC a0.1, iC a0.2.1, iC a0.2.2.1, iC a0.2.2.2])], 3⟩ hX (by kernel_rfl) allNil ?_
  refine HT.rg2 (oHs 4) ⟨[(2, pV 1 0), (3, pV 2 0)], [(2, .box [iC a0.1, iC a0.2.1, iC a0.2.2.1, iC a0.2.2.2]), (1, .box [iC (0 : Int), iC (0 : Int), iC (0 : Int), iC (0 : Int)])], 3⟩ hX (by kernel_rfl) allNil ?_
  refine HT.rg2 (oHs 2) ⟨[(2, pV 1 0)], [(1, .box [iC a0.1, iC a0.2.1, iC a0.2.2.1, iC a0.2.2.2])], 3⟩ hX (by kernel_rfl) allNil ?_
  have hr := of_some hr
  subst hr
  exact HT.ret ⟨[.agg [iC a0.1, iC a0.2.1, iC a0.2.2.1, iC a0.2.2.2]], [], [], by kernel_rfl, by kernel_rfl, rfl, by kernel_rfl, by kernel_rfl, trivial⟩

noncomputable def laws_toRuleS_B1 (a0 : List (Int × Int × Int × Int)) (s2 : Int × (List (Int × Int × Int × Int))) : Option ((Int × (List (Int × Int × Int × Int))) ⊕ ((List (Int × Int × Int × Int)))) :=
  bif (decide (s2.1 < (lenI a0))) then
    guardP ((0 : Int) ≤ s2.1 ∧ s2.1 < lenI a0) (
      (laws_toRule ((List.getD a0 (Int.toNat s2.1) ((0 : Int), (0 : Int), (0 : Int), (0 : Int))).1, ((List.getD a0 (Int.toNat s2.1) ((0 : Int), (0 : Int), (0 : Int), (0 : Int))).2).1, (((List.getD a0 (Int.toNat s2.1) ((0 : Int), (0 : Int), (0 : Int), (0 : Int))).2).2).1, (((List.getD a0 (Int.toNat s2.1) ((0 : Int), (0 : Int), (0 : Int), (0 : Int))).2).2).2)).bind fun y10 =>
      guardP ((0 : Int) ≤ s2.1 ∧ s2.1 < lenI s2.2) (
        some (.inl ((wadd .i64 s2.1 (1 : Int)), (List.set s2.2 (Int.toNat s2.1) (y10.1, y10.2.1, y10.2.2.1, y10.2.2.2))))))
  else
    some (.inr s2.2)

noncomputable def laws_toRuleS (a0 : List (Int × Int × Int × Int)) : Option ((List (Int × Int × Int × Int))) :=
  guardP ((0 : Int) ≤ (lenI a0) ∧ (lenI a0) ≤ 4294967296) (
    (rounds (laws_toRuleS_B1 a0) ((0 : Int), (List.replicate (Int.toNat (lenI a0)) ((0 : Int), (0 : Int), (0 : Int), (0 : Int))))).bind fun r4 =>
    some r4)

theorem f65_ok {a0 : List (Int × Int × Int × Int)} {r : (List (Int × Int × Int × Int))} (hr : laws_toRuleS a0 = some r) : CallOK Tryd.prog 65 [.imm (.sl (.st (.pair tI (.pair tI (.pair tI tI))))) a0] [⟨true, (.sl (.st (.pair tI (.pair tI (.pair tI tI))))), r⟩] [] := by
  unfold laws_toRuleS at hr
  refine CallOK.of_body (ts := [(true, (.sl (.st (.pair tI (.pair tI (.pair tI tI))))))]) Tryd.func65 rfl (by kernel_rfl) (Nat.le_of_ble_eq_true (by kernel_rfl)) fun cx hP hN hO hF => ?_
  have hO : cx.own.map Prod.fst = [] := hO
  have hX := CxIs.mk hP hN hO
  have hF := hF rfl
  show HT cx ⟨[(0, .one (.dat (.sl (.st (.pair tI (.pair tI (.pair tI tI))))) a0))], [], 0⟩ _ _
  refine HT.rg2 [oH] ⟨[(0, .one (.dat (.sl (.st (.pair tI (.pair tI (.pair tI tI))))) a0))], [], 0⟩ hX (by kernel_rfl) allNil ?_
  obtain ⟨hg1, hr⟩ := of_guard hr
  refine HT.rg2 [oH, oH, ⟨none, .ty (.st (.pair tI (.pair tI (.pair tI tI))))⟩, oH] ⟨[(0, .one (.dat (.sl (.st (.pair tI (.pair tI (.pair tI tI))))) a0)), (3, aV 0)], [(0, .seq (.st (.pair tI (.pair tI (.pair tI tI)))) (List.replicate (Int.toNat (lenI a0)) ((0 : Int), (0 : Int), (0 : Int), (0 : Int))))], 1⟩ hX (by kernel_rfl) (allCons (show (0 : Int) ≤ (lenI a0) ∧ (lenI a0) ≤ (lenI a0) ∧ (lenI a0) ≤ 4294967296 from ⟨hg1.1, Int.le_refl _, hg1.2⟩) allNil) ?_
  refine HT.seq ?_
  refine HT.rg2 [oH] ⟨[(0, .one (.dat (.sl (.st (.pair tI (.pair tI (.pair tI tI))))) a0)), (3, aV 0), (4, iV (0 : Int))], [(0, .seq (.st (.pair tI (.pair tI (.pair tI tI)))) (List.replicate (Int.toNat (lenI a0)) ((0 : Int), (0 : Int), (0 : Int), (0 : Int))))], 1⟩ hX (by kernel_rfl) allNil ?_
  refine HT.block ?_
  obtain ⟨r3, hL13, hr⟩ := of_bind hr
  refine HT.loopL (fun (s2 : Int × (List (Int × Int × Int × Int))) => ⟨[(0, .one (.dat (.sl (.st (.pair tI (.pair tI (.pair tI tI))))) a0)), (3, aV 0), (4, iV s2.1)], [(0, .seq (.st (.pair tI (.pair tI (.pair tI tI)))) s2.2)], 1⟩) (fun (r4 : (List (Int × Int × Int × Int))) => (.exit 0, ⟨[(3, aV 0)], [(0, .seq (.st (.pair tI (.pair tI (.pair tI tI)))) r4)], 1⟩)) (Le.re [(0, 0)] [] hX (by kernel_rfl)) hL13 ?_ (fun s2 x5 hx6 hk7 => ?_)
  · refine (qBlockX (qThen ?_))
    refine HT.rg2 (oHs 2) ⟨[(2, aV 0)], [(0, .seq (.st (.pair tI (.pair tI (.pair tI tI)))) r3)], 1⟩ hX (by kernel_rfl) allNil ?_
    have hr := of_some hr
    subst hr
    exact HT.ret ⟨[aV 0], [0], [], by kernel_rfl, by kernel_rfl, rfl, by kernel_rfl, by kernel_rfl, trivial⟩
  · refine HT.seq ?_
    refine HT.rg2 (oHs 4) ⟨[(0, .one (.dat (.sl (.st (.pair tI (.pair tI (.pair tI tI))))) a0)), (3, aV 0), (4, iV s2.1), (11, bV (decide (s2.1 < (lenI a0))))], [(0, .seq (.st (.pair tI (.pair tI (.pair tI tI)))) s2.2)], 1⟩ hX (by kernel_rfl) allNil ?_
    rcases of_bif hx6 with ⟨hb8, hx6⟩ | ⟨hb8, hx6⟩
    · refine HT.cond1 rfl hb8 ?_
      refine HT.skip (qThen ?_)
      refine HT.seq ?_
      refine HT.block ?_
      obtain ⟨hg9, hx6⟩ := of_guard hx6
      obtain ⟨y10, hc11, hx6⟩ := of_bind hx6
      obtain ⟨hg12, hx6⟩ := of_guard hx6
      refine HT.rgL [oH, oH, oH, oH, oH, oH, ⟨none, .call [.imm (.st (.pair tI (.pair tI (.pair tI tI))))] [⟨false, (.st (.pair tI (.pair tI (.pair tI tI)))), y10⟩] []⟩, oH, oH] ⟨[(0, .one (.dat (.sl (.st (.pair tI (.pair tI (.pair tI tI))))) a0)), (3, aV 0), (4, iV s2.1)], [(0, .seq (.st (.pair tI (.pair tI (.pair tI tI)))) (List.set s2.2 (Int.toNat s2.1) (y10.1, y10.2.1, y10.2.2.1, y10.2.2.2)))], 1⟩ hX (by kernel_rfl) (allCons hg9 (allCons (f113_ok hc11) (allCons hg12 (allCons (natLt hg12) allNil)))) (qBlock (qThen ?_))
      have hx6 := of_some hx6
      subst hx6
      exact HT.rgK (oHs 3) [(0, 0)] [] hX (by kernel_rfl) allNil (fun _ h => (qLoopN ⟨((wadd .i64 s2.1 (1 : Int)), (List.set s2.2 (Int.toNat s2.1) (y10.1, y10.2.1, y10.2.2.1, y10.2.2.2))), rfl, h⟩))
    · refine HT.cond0 rfl hb8 ?_
      have hx6 := of_some hx6
      subst hx6
      exact HT.exitL (Le.re [(0, 0)] [] hX (by kernel_rfl)) (qThenE (qLoopE (hk7 s2.2 rfl)))

noncomputable def laws_toGrammar (a0 : Int × Int × List (Int × Int × Int × Int)) : Option ((Int × Int × List (Int × Int × Int × Int))) :=
  (laws_toRuleS a0.2.2).bind fun y1 =>
  some (a0.1, a0.2.1, y1)

theorem f23_ok {a0 : Int × Int × List (Int × Int × Int × Int)} {r : (Int × Int × List (Int × Int × Int × Int))} (hr : laws_toGrammar a0 = some r) : CallOK Tryd.prog 23 [.imm (.st (.pair tI (.pair tI (.sl (.st (.pair tI (.pair tI (.pair tI tI)))))))) a0] [⟨true, (.st (.pair tI (.pair tI (.sl (.st (.pair tI (.pair tI (.pair tI tI)))))))), r⟩] [] := by
  unfold laws_toGrammar at hr
  refine CallOK.of_body (ts := [(true, (.st (.pair tI (.pair tI (.sl (.st (.pair tI (.pair tI (.pair tI tI)))))))))]) Tryd.func23 rfl (by kernel_rfl) (Nat.le_of_ble_eq_true (by kernel_rfl)) fun cx hP hN hO hF => ?_
  have hO : cx.own.map Prod.fst = [] := hO
  have hX := CxIs.mk hP hN hO
  have hF := hF rfl
  show HT cx ⟨[(0, .agg [iC a0.1, iC a0.2.1, .dat (.sl (.st (.pair tI (.pair tI (.pair tI tI))))) a0.2.2])], [], 0⟩ _ _
  refine HT.rg2 (oHs 2) ⟨[(1, pV 0 0), (2, pV 1 0)], [(1, .box [iC (0 : Int), iC (0 : Int), .nilS]), (0, .box [iC a0.1, iC a0.2.1, .dat (.sl (.st (.pair tI (.pair tI (.pair tI tI))))) a0.2.2])], 2⟩ hX (by kernel_rfl) allNil ?_
  refine HT.rg2 [oH] ⟨[(1, pV 0 0), (2, pV 1 0), (3, pV 2 0)], [(2, .box [iC (0 : Int), iC (0 : Int), .nilS]), (1, .box [iC (0 : Int), iC (0 : Int), .nilS]), (0, .box [iC a0.1, iC a0.2.1, .dat (.sl (.st (.pair tI (.pair tI (.pair tI tI))))) a0.2.2])], 3⟩ hX (by kernel_rfl) allNil ?_
  refine HT.rg2 (oHs 4) ⟨[(1, pV 0 0), (2, pV 1 0), (3, pV 2 0)], [(2, .box [iC a0.1, iC (0 : Int), .nilS]), (1, .box [iC (0 : Int), iC (0 : Int), .nilS]), (0, .box [iC a0.1, iC a0.2.1, .dat (.sl (.st (.pair tI (.pair tI (.pair tI tI))))) a0.2.2])], 3⟩ hX (by kernel_rfl) allNil ?_
  refine HT.rg2 (oHs 4) ⟨[(1, pV 0 0), (2, pV 1 0), (3, pV 2 0)], [(2, .box [iC a0.1, iC a0.2.1, .nilS]), (1, .box [iC (0 : Int), iC (0 : Int), .nilS]), (0, .box [iC a0.1, iC a0.2.1, .dat (.sl (.st (.pair tI (.pair tI (.pair tI tI))))) a0.2.2])], 3⟩ hX (by kernel_rfl) allNil ?_
  obtain ⟨y1, hc2, hr⟩ := of_bind hr
  refine HT.rg2 [oH, oH, ⟨none, .call [.imm (.sl (.st (.pair tI (.pair tI (.pair tI tI)))))] [⟨true, (.sl (.st (.pair tI (.pair tI (.pair tI tI))))), y1⟩] []⟩, oH, oH] ⟨[(2, pV 1 0), (3, pV 2 0)], [(2, .box [iC a0.1, iC a0.2.1, .all 3]), (3, .seq (.st (.pair tI (.pair tI (.pair tI tI)))) y1), (1, .box [iC (0 : Int), iC (0 : Int), .nilS])], 4⟩ hX (by kernel_rfl) (allCons (f65_ok hc2) allNil) ?_
  refine HT.rg2 (oHs 2) ⟨[(2, pV 1 0)], [(1, .box [iC a0.1, iC a0.2.1, .all 3]), (3, .seq (.st (.pair tI (.pair tI (.pair tI tI)))) y1)], 4⟩ hX (by kernel_rfl) allNil ?_
  have hr := of_some hr
  subst hr
  exact HT.ret ⟨[.agg [iC a0.1, iC a0.2.1, .all 3]], [3], [], by kernel_rfl, by kernel_rfl, rfl, by kernel_rfl, by kernel_rfl, trivial⟩

noncomputable def spec_l01Dec_B1  (s1 : Int × List Int) : Option ((Int × List Int) ⊕ (List Int)) :=
  (show Option (Bool) from
    bif ((lenI s1.2) == (0 : Int)) then
      some true
    else
      some (s1.1 != (0 : Int))).bind fun v12 =>
  bif v12 then
    (show Option (Int) from
      bif (decide ((Int.tmod s1.1 (10 : Int)) < (0 : Int))) then
        some (IntKind.wrap .i64 (0 - (Int.tmod s1.1 (10 : Int))))
      else
        some (Int.tmod s1.1 (10 : Int))).bind fun v16 =>
    guardP (List.length ([(IntKind.wrap .u8 (wadd .i64 (48 : Int) v16))] : List Int) + List.length s1.2 ≤ appMax) (
      some (.inl ((IntKind.wrap .i64 (Int.tdiv s1.1 (10 : Int))), (([(IntKind.wrap .u8 (wadd .i64 (48 : Int) v16))] : List Int) ++ s1.2))))
  else
    some (.inr s1.2)

noncomputable def spec_l01Dec (a0 : Int) : Option (List UInt8) :=
  (rounds (spec_l01Dec_B1) (a0, ([] : List Int))).bind fun r3 =>
  (show Option (List Int) from
    bif (decide (a0 < (0 : Int))) then
      guardP (List.length ([(45 : Int)] : List Int) + List.length r3 ≤ appMax) (
        some (([(45 : Int)] : List Int) ++ r3))
    else
      some r3).bind fun v4 =>
  some (bytesO v4)

theorem f104_ok {a0 : Int} {r : List UInt8} (hr : spec_l01Dec a0 = some r) : CallOK Tryd.prog 104 [.imm tI a0] [⟨false, .str, r⟩] [] := by
  unfold spec_l01Dec at hr
  refine CallOK.of_body (ts := [(false, .str)]) Tryd.func104 rfl (by kernel_rfl) (Nat.le_of_ble_eq_true (by kernel_rfl)) fun cx hP hN hO hF => ?_
  have hO : cx.own.map Prod.fst = [] := hO
  have hX := CxIs.mk hP hN hO
  have hF := hF rfl
  show HT cx ⟨[(0, iV a0)], [], 0⟩ _ _
  refine HT.rg2 [oH] ⟨[(0, iV a0)], [], 0⟩ hX (by kernel_rfl) allNil ?_
  refine HT.rg2 (oHs 2) ⟨[(0, iV a0), (3, .one (.nilS))], [], 0⟩ hX (by kernel_rfl) allNil ?_
  refine HT.rg2 (oHs 2) ⟨[(0, iV a0), (3, .one (.nilS)), (4, iV a0)], [], 0⟩ hX (by kernel_rfl) allNil ?_
  refine HT.seq ?_
  refine HT.block ?_
  obtain ⟨r2, hL22, hr⟩ := of_bind hr
  refine HT.loopL (fun (s1 : Int × List Int) => ⟨[(0, iV a0), (3, aV 0), (4, iV s1.1)], [(0, .seq (.int .u8) s1.2)], 1⟩) (fun (r3 : List Int) => (.exit 0, ⟨[(0, iV a0), (3, aV 0)], [(0, .seq (.int .u8) r3)], 1⟩)) (Le.re [] [0] hX (by kernel_rfl)) hL22 ?_ (fun s1 x9 hx10 hk11 => ?_)
  · refine (qBlockX (qThen ?_))
    obtain ⟨v4', hT6, hr⟩ := of_bind hr
    refine HT.join (fun (v4 : List Int) => ⟨[(3, aV 0)], [(0, .seq (.int .u8) v4)], 1⟩) (fun v => v = v4') (fun v4 hv5 => ?_) (fun cont => ?_)
    · subst hv5
      refine HT.rg2 (oHs 3) ⟨[(2, .one (.dat .str (bytesO v4)))], [], 1⟩ hX (by kernel_rfl) allNil ?_
      have hr := of_some hr
      subst hr
      exact HT.ret ⟨[.one (.dat .str (bytesO v4))], [], [], by kernel_rfl, by kernel_rfl, rfl, by kernel_rfl, by kernel_rfl, trivial⟩
    · refine HT.rg2 (oHs 2) ⟨[(3, aV 0), (30, bV (decide (a0 < (0 : Int))))], [(0, .seq (.int .u8) r2)], 1⟩ hX (by kernel_rfl) allNil ?_
      rcases of_bif hT6 with ⟨hb7, hT6⟩ | ⟨hb7, hT6⟩
      · refine HT.cond1 rfl hb7 ?_
        obtain ⟨hg8, hT6⟩ := of_guard hT6
        exact HT.rgK [⟨none, .ty (.int .u8)⟩, oH, ⟨none, .ty (.int .u8)⟩, oH] [(2, 0)] [] hX (by kernel_rfl) (allCons hg8 allNil) (fun _ h => (qThen (h.ht (cont (([(45 : Int)] : List Int) ++ r2) (of_some hT6)))))
      · refine HT.cond0 rfl hb7 ?_
        refine HT.skip (qThen ?_)
        exact (Le.re [(0, 0)] [] hX (by kernel_rfl)).ht (cont r2 (of_some hT6))
  · refine HT.seq ?_
    obtain ⟨v12', hT14, hx10⟩ := of_bind hx10
    refine HT.join (fun (v12 : Bool) => ⟨[(0, iV a0), (3, aV 0), (4, iV s1.1), (14, bV v12)], [(0, .seq (.int .u8) s1.2)], 1⟩) (fun v => v = v12') (fun v12 hv13 => ?_) (fun cont => ?_)
    · subst hv13
      rcases of_bif hx10 with ⟨hb15, hx10⟩ | ⟨hb15, hx10⟩
      · refine HT.cond1 rfl hb15 ?_
        refine HT.skip (qThen ?_)
        refine HT.block ?_
        refine HT.rg2 (oHs 3) ⟨[(0, iV a0), (3, aV 0), (4, iV s1.1), (5, iV (Int.tmod s1.1 (10 : Int)))], [(0, .seq (.int .u8) s1.2)], 1⟩ hX (by kernel_rfl) (allCons (show (10 : Int) ≠ 0 from by decide) allNil) ?_
        obtain ⟨v16', hT18, hx10⟩ := of_bind hx10
        refine HT.join (fun (v16 : Int) => ⟨[(0, iV a0), (3, aV 0), (4, iV s1.1), (5, iV v16)], [(0, .seq (.int .u8) s1.2)], 1⟩) (fun v => v = v16') (fun v16 hv17 => ?_) (fun cont => ?_)
        · subst hv17
          obtain ⟨hg19, hx10⟩ := of_guard hx10
          refine HT.rg2 [oH, oH, oH, ⟨none, .ty (.int .u8)⟩, oH, ⟨none, .ty (.int .u8)⟩, oH] ⟨[(0, iV a0), (3, aV 2), (4, iV s1.1)], [(2, .seq (.int .u8) (([(IntKind.wrap .u8 (wadd .i64 (48 : Int) v16))] : List Int) ++ s1.2))], 3⟩ hX (by kernel_rfl) (allCons hg19 allNil) ?_
          have hx10 := of_some hx10
          subst hx10
          exact HT.rgK (oHs 3) [(2, 0)] [] hX (by kernel_rfl) (allCons (show (10 : Int) ≠ 0 from by decide) allNil) (fun _ h => (qBlock (qLoopN ⟨((IntKind.wrap .i64 (Int.tdiv s1.1 (10 : Int))), (([(IntKind.wrap .u8 (wadd .i64 (48 : Int) v16))] : List Int) ++ s1.2)), rfl, h⟩)))
        · refine HT.rg2 (oHs 2) ⟨[(0, iV a0), (3, aV 0), (4, iV s1.1), (5, iV (Int.tmod s1.1 (10 : Int))), (18, bV (decide ((Int.tmod s1.1 (10 : Int)) < (0 : Int))))], [(0, .seq (.int .u8) s1.2)], 1⟩ hX (by kernel_rfl) allNil ?_
          rcases of_bif hT18 with ⟨hb20, hT18⟩ | ⟨hb20, hT18⟩
          · refine HT.cond1 rfl hb20 ?_
            exact HT.rgK (oHs 3) [(0, 0)] [] hX (by kernel_rfl) allNil (fun _ h => (qThen (h.ht (cont (IntKind.wrap .i64 (0 - (Int.tmod s1.1 (10 : Int)))) (of_some hT18)))))
          · refine HT.cond0 rfl hb20 ?_
            refine HT.skip (qThen ?_)
            exact (Le.re [(0, 0)] [] hX (by kernel_rfl)).ht (cont (Int.tmod s1.1 (10 : Int)) (of_some hT18))
      · refine HT.cond0 rfl hb15 ?_
        have hx10 := of_some hx10
        subst hx10
        exact HT.exitL (Le.re [(0, 0)] [] hX (by kernel_rfl)) (qThenE (qLoopE (hk11 s1.2 rfl)))
    · rcases of_bif hT14 with ⟨hb21, hT14⟩ | ⟨hb21, hT14⟩
      · exact HT.rgK [oH, oH, oH, oH, ⟨some true, .no⟩, ⟨some true, .no⟩, ⟨none, .tv true⟩] [(0, 0)] [] hX (by kernel_rfl) (allCons hb21 (allCons hb21 (allCons hb21 allNil))) (fun _ h => (qThen (h.ht (cont true (of_some hT14)))))
      · exact HT.rgK [oH, oH, oH, oH, ⟨some false, .no⟩, ⟨some false, .no⟩, ⟨none, .tv false⟩] [(0, 0)] [] hX (by kernel_rfl) (allCons hb21 (allCons hb21 (allCons hb21 allNil))) (fun _ h => (qThen (h.ht (cont (s1.1 != (0 : Int)) (of_some hT14)))))

noncomputable def spec_l01Text_B1 (a0 : List Int) (s5 : List UInt8 × Int) : Option ((List UInt8 × Int) ⊕ (List UInt8)) :=
  bif (decide (s5.2 < (lenI a0))) then
    guardP ((0 : Int) ≤ s5.2 ∧ s5.2 < lenI a0) (
      (spec_l01Dec (List.getD a0 (Int.toNat s5.2) (0 : Int))).bind fun y13 =>
      guardP (List.length ([44] : List UInt8) + List.length y13 ≤ appMax) (
        guardP (List.length s5.1 + List.length (([44] : List UInt8) ++ y13) ≤ appMax) (
          some (.inl ((s5.1 ++ (([44] : List UInt8) ++ y13)), (wadd .i64 s5.2 (1 : Int)))))))
  else
    some (.inr s5.1)

noncomputable def spec_l01Text (a0 : List Int) : Option (List UInt8) :=
  bif ((lenI a0) == (0 : Int)) then
    some ([110, 111, 110, 101] : List UInt8)
  else
    guardP ((0 : Int) ≤ (0 : Int) ∧ (0 : Int) < lenI a0) (
      (spec_l01Dec (List.getD a0 (Int.toNat (0 : Int)) (0 : Int))).bind fun y3 =>
      (rounds (spec_l01Text_B1 a0) (y3, (1 : Int))).bind fun r7 =>
      some r7)

theorem f112_ok {a0 : List Int} {r : List UInt8} (hr : spec_l01Text a0 = some r) : CallOK Tryd.prog 112 [.imm tLI a0] [⟨false, .str, r⟩] [] := by
  unfold spec_l01Text at hr
  refine CallOK.of_body (ts := [(false, .str)]) Tryd.func112 rfl (by kernel_rfl) (Nat.le_of_ble_eq_true (by kernel_rfl)) fun cx hP hN hO hF => ?_
  have hO : cx.own.map Prod.fst = [] := hO
  have hX := CxIs.mk hP hN hO
  have hF := hF rfl
  show HT cx ⟨[(0, nV a0)], [], 0⟩ _ _
  refine HT.rg2 [oH] ⟨[(0, nV a0)], [], 0⟩ hX (by kernel_rfl) allNil ?_
  refine HT.seq ?_
  refine HT.rg2 (oHs 3) ⟨[(0, nV a0), (7, bV ((lenI a0) == (0 : Int)))], [], 0⟩ hX (by kernel_rfl) allNil ?_
  rcases of_bif hr with ⟨hb1, hr⟩ | ⟨hb1, hr⟩
  · refine HT.cond1 rfl hb1 ?_
    refine HT.rg2 [oH] ⟨[(2, .one (.dat .str ([110, 111, 110, 101] : List UInt8)))], [], 0⟩ hX (by kernel_rfl) allNil ?_
    have hr := of_some hr
    subst hr
    exact HT.ret (qThenR ⟨[.one (.dat .str ([110, 111, 110, 101] : List UInt8))], [], [], by kernel_rfl, by kernel_rfl, rfl, by kernel_rfl, by kernel_rfl, trivial⟩)
  · refine HT.cond0 rfl hb1 ?_
    refine HT.skip (qThen ?_)
    obtain ⟨hg2, hr⟩ := of_guard hr
    obtain ⟨y3, hc4, hr⟩ := of_bind hr
    refine HT.rg2 [oH, oH, oH, ⟨none, .call [.imm tI] [⟨false, .str, y3⟩] []⟩, oH] ⟨[(0, nV a0), (3, .one (.dat .str y3))], [], 0⟩ hX (by kernel_rfl) (allCons hg2 (allCons (f104_ok hc4) allNil)) ?_
    refine HT.seq ?_
    refine HT.rg2 [oH] ⟨[(0, nV a0), (3, .one (.dat .str y3)), (4, iV (1 : Int))], [], 0⟩ hX (by kernel_rfl) allNil ?_
    refine HT.block ?_
    obtain ⟨r6, hL17, hr⟩ := of_bind hr
    refine HT.loopL (fun (s5 : List UInt8 × Int) => ⟨[(0, nV a0), (3, .one (.dat .str s5.1)), (4, iV s5.2)], [], 0⟩) (fun (r7 : List UInt8) => (.exit 0, ⟨[(3, .one (.dat .str r7))], [], 0⟩)) (Le.re [] [] hX (by kernel_rfl)) hL17 ?_ (fun s5 x8 hx9 hk10 => ?_)
    · refine (qBlockX (qThen ?_))
      refine HT.rg2 (oHs 2) ⟨[(2, .one (.dat .str r6))], [], 0⟩ hX (by kernel_rfl) allNil ?_
      have hr := of_some hr
      subst hr
      exact HT.ret ⟨[.one (.dat .str r6)], [], [], by kernel_rfl, by kernel_rfl, rfl, by kernel_rfl, by kernel_rfl, trivial⟩
    · refine HT.seq ?_
      refine HT.rg2 (oHs 4) ⟨[(0, nV a0), (3, .one (.dat .str s5.1)), (4, iV s5.2), (15, bV (decide (s5.2 < (lenI a0))))], [], 0⟩ hX (by kernel_rfl) allNil ?_
      rcases of_bif hx9 with ⟨hb11, hx9⟩ | ⟨hb11, hx9⟩
      · refine HT.cond1 rfl hb11 ?_
        refine HT.skip (qThen ?_)
        refine HT.seq ?_
        refine HT.block ?_
        obtain ⟨hg12, hx9⟩ := of_guard hx9
        obtain ⟨y13, hc14, hx9⟩ := of_bind hx9
        obtain ⟨hg15, hx9⟩ := of_guard hx9
        obtain ⟨hg16, hx9⟩ := of_guard hx9
        refine HT.rgL [oH, oH, oH, oH, oH, ⟨none, .call [.imm tI] [⟨false, .str, y13⟩] []⟩, oH, oH, oH] ⟨[(0, nV a0), (3, .one (.dat .str (s5.1 ++ (([44] : List UInt8) ++ y13)))), (4, iV s5.2)], [], 0⟩ hX (by kernel_rfl) (allCons hg12 (allCons (f104_ok hc14) (allCons hg15 (allCons hg16 allNil)))) (qBlock (qThen ?_))
        have hx9 := of_some hx9
        subst hx9
        exact HT.rgK (oHs 3) [] [] hX (by kernel_rfl) allNil (fun _ h => (qLoopN ⟨((s5.1 ++ (([44] : List UInt8) ++ y13)), (wadd .i64 s5.2 (1 : Int))), rfl, h⟩))
      · refine HT.cond0 rfl hb11 ?_
        have hx9 := of_some hx9
        subst hx9
        exact HT.exitL (Le.re [] [] hX (by kernel_rfl)) (qThenE (qLoopE (hk10 s5.1 rfl)))

noncomputable def spec_l08Rules_B1 (a0 : List (Int × Int × Int × Int)) (s1 : Int × List Int) : Option ((Int × List Int) ⊕ (List Int)) :=
  bif (decide (s1.1 < (lenI a0))) then
    guardP ((0 : Int) ≤ s1.1 ∧ s1.1 < lenI a0) (
      guardP (List.length s1.2 + List.length ([(List.getD a0 (Int.toNat s1.1) ((0 : Int), (0 : Int), (0 : Int), (0 : Int))).1, ((List.getD a0 (Int.toNat s1.1) ((0 : Int), (0 : Int), (0 : Int), (0 : Int))).2).1, (((List.getD a0 (Int.toNat s1.1) ((0 : Int), (0 : Int), (0 : Int), (0 : Int))).2).2).1, (((List.getD a0 (Int.toNat s1.1) ((0 : Int), (0 : Int), (0 : Int), (0 : Int))).2).2).2] : List Int) ≤ appMax) (
        some (.inl ((wadd .i64 s1.1 (1 : Int)), (s1.2 ++ ([(List.getD a0 (Int.toNat s1.1) ((0 : Int), (0 : Int), (0 : Int), (0 : Int))).1, ((List.getD a0 (Int.toNat s1.1) ((0 : Int), (0 : Int), (0 : Int), (0 : Int))).2).1, (((List.getD a0 (Int.toNat s1.1) ((0 : Int), (0 : Int), (0 : Int), (0 : Int))).2).2).1, (((List.getD a0 (Int.toNat s1.1) ((0 : Int), (0 : Int), (0 : Int), (0 : Int))).2).2).2] : List Int))))))
  else
    some (.inr s1.2)

noncomputable def spec_l08Rules (a0 : List (Int × Int × Int × Int)) : Option (List Int) :=
  (rounds (spec_l08Rules_B1 a0) ((0 : Int), ([] : List Int))).bind fun r3 =>
  some r3

theorem f63_ok {a0 : List (Int × Int × Int × Int)} {r : List Int} (hr : spec_l08Rules a0 = some r) : CallOK Tryd.prog 63 [.imm (.sl (.st (.pair tI (.pair tI (.pair tI tI))))) a0] [⟨true, tLI, r⟩] [] := by
  unfold spec_l08Rules at hr
  refine CallOK.of_body (ts := [(true, tLI)]) Tryd.func63 rfl (by kernel_rfl) (Nat.le_of_ble_eq_true (by kernel_rfl)) fun cx hP hN hO hF => ?_
  have hO : cx.own.map Prod.fst = [] := hO
  have hX := CxIs.mk hP hN hO
  have hF := hF rfl
  show HT cx ⟨[(0, .one (.dat (.sl (.st (.pair tI (.pair tI (.pair tI tI))))) a0))], [], 0⟩ _ _
  refine HT.rg2 [oH] ⟨[(0, .one (.dat (.sl (.st (.pair tI (.pair tI (.pair tI tI))))) a0))], [], 0⟩ hX (by kernel_rfl) allNil ?_
  refine HT.rg2 (oHs 2) ⟨[(0, .one (.dat (.sl (.st (.pair tI (.pair tI (.pair tI tI))))) a0)), (3, .one (.nilS))], [], 0⟩ hX (by kernel_rfl) allNil ?_
  refine HT.seq ?_
  refine HT.rg2 [oH] ⟨[(0, .one (.dat (.sl (.st (.pair tI (.pair tI (.pair tI tI))))) a0)), (3, .one (.nilS)), (4, iV (0 : Int))], [], 0⟩ hX (by kernel_rfl) allNil ?_
  refine HT.block ?_
  obtain ⟨r2, hL10, hr⟩ := of_bind hr
  refine HT.loopL (fun (s1 : Int × List Int) => ⟨[(0, .one (.dat (.sl (.st (.pair tI (.pair tI (.pair tI tI))))) a0)), (3, aV 0), (4, iV s1.1)], [(0, .seq tI s1.2)], 1⟩) (fun (r3 : List Int) => (.exit 0, ⟨[(3, aV 0)], [(0, .seq tI r3)], 1⟩)) (Le.re [] [0] hX (by kernel_rfl)) hL10 ?_ (fun s1 x4 hx5 hk6 => ?_)
  · refine (qBlockX (qThen ?_))
    refine HT.rg2 (oHs 2) ⟨[(2, aV 0)], [(0, .seq tI r2)], 1⟩ hX (by kernel_rfl) allNil ?_
    have hr := of_some hr
    subst hr
    exact HT.ret ⟨[aV 0], [0], [], by kernel_rfl, by kernel_rfl, rfl, by kernel_rfl, by kernel_rfl, trivial⟩
  · refine HT.seq ?_
    refine HT.rg2 (oHs 4) ⟨[(0, .one (.dat (.sl (.st (.pair tI (.pair tI (.pair tI tI))))) a0)), (3, aV 0), (4, iV s1.1), (9, bV (decide (s1.1 < (lenI a0))))], [(0, .seq tI s1.2)], 1⟩ hX (by kernel_rfl) allNil ?_
    rcases of_bif hx5 with ⟨hb7, hx5⟩ | ⟨hb7, hx5⟩
    · refine HT.cond1 rfl hb7 ?_
      refine HT.skip (qThen ?_)
      refine HT.seq ?_
      refine HT.block ?_
      obtain ⟨hg8, hx5⟩ := of_guard hx5
      obtain ⟨hg9, hx5⟩ := of_guard hx5
      refine HT.drL 22 [⟨oH, []⟩, ⟨oH, []⟩, ⟨oH, []⟩, ⟨oH, [1, 2]⟩, ⟨oH, [1, 2, 3]⟩, ⟨oH, [1, 2, 3, 4]⟩, ⟨oH, []⟩, ⟨oH, []⟩, ⟨oH, [6, 7]⟩, ⟨oH, [6, 7, 8]⟩, ⟨oH, [6, 7, 8, 9]⟩, ⟨oH, []⟩, ⟨oH, []⟩, ⟨oH, [11, 12]⟩, ⟨oH, [11, 12, 13]⟩, ⟨oH, [11, 12, 13, 14]⟩, ⟨oH, []⟩, ⟨oH, []⟩, ⟨oH, [16, 17]⟩, ⟨oH, [16, 17, 18]⟩, ⟨oH, [16, 17, 18, 19]⟩, ⟨⟨none, .ty tI⟩, [1, 2, 3, 4, 5, 6, 7, 8, 9, 10, 11, 12, 13, 14, 15, 16, 17, 18, 19, 20]⟩] [[0, 1, 2, 3, 4, 5, 6, 7, 8, 9, 10, 11, 12, 13, 14, 15, 16, 17, 18, 19, 20, 21], [0, 1, 2, 3, 4, 5, 6, 7, 8, 9, 10, 11, 12, 13, 14, 15, 16, 17, 18, 19, 20, 21, 22]] [⟨none, .ty tI⟩, oH] ⟨[(0, .one (.dat (.sl (.st (.pair tI (.pair tI (.pair tI tI))))) a0)), (3, aV 2), (4, iV s1.1)], [(2, .seq tI (s1.2 ++ ([(List.getD a0 (Int.toNat s1.1) ((0 : Int), (0 : Int), (0 : Int), (0 : Int))).1, ((List.getD a0 (Int.toNat s1.1) ((0 : Int), (0 : Int), (0 : Int), (0 : Int))).2).1, (((List.getD a0 (Int.toNat s1.1) ((0 : Int), (0 : Int), (0 : Int), (0 : Int))).2).2).1, (((List.getD a0 (Int.toNat s1.1) ((0 : Int), (0 : Int), (0 : Int), (0 : Int))).2).2).2] : List Int)))], 3⟩ hX (by kernel_rfl) (by kernel_rfl) (allCons hg8 (allCons hg8 (allCons hg8 (allCons hg8 (allCons hg9 allNil))))) (qBlock (qThen ?_))
      have hx5 := of_some hx5
      subst hx5
      exact HT.rgK (oHs 3) [(2, 0)] [] hX (by kernel_rfl) allNil (fun _ h => (qLoopN ⟨((wadd .i64 s1.1 (1 : Int)), (s1.2 ++ ([(List.getD a0 (Int.toNat s1.1) ((0 : Int), (0 : Int), (0 : Int), (0 : Int))).1, ((List.getD a0 (Int.toNat s1.1) ((0 : Int), (0 : Int), (0 : Int), (0 : Int))).2).1, (((List.getD a0 (Int.toNat s1.1) ((0 : Int), (0 : Int), (0 : Int), (0 : Int))).2).2).1, (((List.getD a0 (Int.toNat s1.1) ((0 : Int), (0 : Int), (0 : Int), (0 : Int))).2).2).2] : List Int))), rfl, h⟩))
    · refine HT.cond0 rfl hb7 ?_
      have hx5 := of_some hx5
      subst hx5
      exact HT.exitL (Le.re [(0, 0)] [] hX (by kernel_rfl)) (qThenE (qLoopE (hk6 s1.2 rfl)))

noncomputable def spec_l08Grammar (a0 : Int × Int × List (Int × Int × Int × Int)) : Option (List UInt8) :=
  (spec_l01Text ([a0.1, a0.2.1] : List Int)).bind fun y1 =>
  guardP (List.length y1 + List.length ([59] : List UInt8) ≤ appMax) (
    (spec_l08Rules a0.2.2).bind fun y4 =>
    (spec_l01Text y4).bind fun y6 =>
    guardP (List.length (y1 ++ ([59] : List UInt8)) + List.length y6 ≤ appMax) (
      some ((y1 ++ ([59] : List UInt8)) ++ y6)))

theorem f64_ok {a0 : Int × Int × List (Int × Int × Int × Int)} {r : List UInt8} (hr : spec_l08Grammar a0 = some r) : CallOK Tryd.prog 64 [.pimm (.st (.pair tI (.pair tI (.sl (.st (.pair tI (.pair tI (.pair tI tI)))))))) a0] [⟨false, .str, r⟩] [] := by
  unfold spec_l08Grammar at hr
  refine CallOK.of_body (ts := [(false, .str)]) Tryd.func64 rfl (by kernel_rfl) (Nat.le_of_ble_eq_true (by kernel_rfl)) fun cx hP hN hO hF => ?_
  have hO : cx.own.map Prod.fst = [] := hO
  have hX := CxIs.mk hP hN hO
  have hF := hF rfl
  show HT cx ⟨[(0, .one (.ip (.st (.pair tI (.pair tI (.sl (.st (.pair tI (.pair tI (.pair tI tI)))))))) a0 0))], [], 0⟩ _ _
  refine HT.rg2 [oH] ⟨[(0, .one (.ip (.st (.pair tI (.pair tI (.sl (.st (.pair tI (.pair tI (.pair tI tI)))))))) a0 0))], [], 0⟩ hX (by kernel_rfl) allNil ?_
  obtain ⟨y1, hc2, hr⟩ := of_bind hr
  obtain ⟨hg3, hr⟩ := of_guard hr
  obtain ⟨y4, hc5, hr⟩ := of_bind hr
  obtain ⟨y6, hc7, hr⟩ := of_bind hr
  obtain ⟨hg8, hr⟩ := of_guard hr
  refine HT.dr2 17 [⟨oH, []⟩, ⟨oH, [0]⟩, ⟨oH, [0, 1]⟩, ⟨oH, [0, 1, 2]⟩, ⟨oH, []⟩, ⟨oH, [4]⟩, ⟨oH, [4, 5]⟩, ⟨oH, [4, 5, 6]⟩, ⟨⟨none, .ty tI⟩, [0, 1, 2, 3, 4, 5, 6, 7]⟩, ⟨⟨none, .call [.imm tLI] [⟨false, .str, y1⟩] []⟩, [0, 1, 2, 3, 4, 5, 6, 7, 8]⟩, ⟨oH, [0, 1, 2, 3, 4, 5, 6, 7, 8, 9]⟩, ⟨oH, []⟩, ⟨oH, [11]⟩, ⟨oH, [11, 12]⟩, ⟨oH, [11, 12, 13]⟩, ⟨⟨none, .call [.imm (.sl (.st (.pair tI (.pair tI (.pair tI tI)))))] [⟨true, tLI, y4⟩] []⟩, [0, 1, 2, 3, 4, 5, 6, 7, 8, 9, 11, 12, 13, 14]⟩, ⟨⟨none, .call [.imm tLI] [⟨false, .str, y6⟩] []⟩, [0, 1, 2, 3, 4, 5, 6, 7, 8, 9, 11, 12, 13, 14, 15]⟩] [[0, 1, 2, 3, 4, 5, 6, 7, 8, 9, 10, 11, 12, 13, 14, 15, 16], [0, 1, 2, 3, 4, 5, 6, 7, 8, 9, 10, 11, 12, 13, 14, 15, 16, 17]] (oHs 2) ⟨[(2, .one (.dat .str ((y1 ++ ([59] : List UInt8)) ++ y6)))], [], 2⟩ hX (by kernel_rfl) (by kernel_rfl) (allCons (f112_ok hc2) (allCons hg3 (allCons (f63_ok hc5) (allCons (f112_ok hc7) (allCons hg8 allNil))))) ?_
  have hr := of_some hr
  subst hr
  exact HT.ret ⟨[.one (.dat .str ((y1 ++ ([59] : List UInt8)) ++ y6))], [], [], by kernel_rfl, by kernel_rfl, rfl, by kernel_rfl, by kernel_rfl, trivial⟩

noncomputable def spec_l00In (a0 : Int) (a1 : Int) (a2 : Int) : Option (Bool) :=
  (show Option (Bool) from
    bif (decide (a0 ≥ a1)) then
      some (decide (a0 ≤ a2))
    else
      some false).bind fun v1 =>
  some v1

theorem f111_ok {a0 : Int} {a1 : Int} {a2 : Int} {r : Bool} (hr : spec_l00In a0 a1 a2 = some r) : CallOK Tryd.prog 111 [.imm tI a0, .imm tI a1, .imm tI a2] [⟨false, .bool, r⟩] [] := by
  unfold spec_l00In at hr
  refine CallOK.of_body (ts := [(false, .bool)]) Tryd.func111 rfl (by kernel_rfl) (Nat.le_of_ble_eq_true (by kernel_rfl)) fun cx hP hN hO hF => ?_
  have hO : cx.own.map Prod.fst = [] := hO
  have hX := CxIs.mk hP hN hO
  have hF := hF rfl
  show HT cx ⟨[(0, iV a0), (1, iV a1), (2, iV a2)], [], 0⟩ _ _
  refine HT.rg2 [oH] ⟨[(0, iV a0), (1, iV a1), (2, iV a2)], [], 0⟩ hX (by kernel_rfl) allNil ?_
  obtain ⟨v1', hT3, hr⟩ := of_bind hr
  refine HT.join (fun (v1 : Bool) => ⟨[(6, bV v1)], [], 0⟩) (fun v => v = v1') (fun v1 hv2 => ?_) (fun cont => ?_)
  · subst hv2
    have hr := of_some hr
    subst hr
    exact HT.ret ⟨[bV v1], [], [], by kernel_rfl, by kernel_rfl, rfl, by kernel_rfl, by kernel_rfl, trivial⟩
  · rcases of_bif hT3 with ⟨hb4, hT3⟩ | ⟨hb4, hT3⟩
    · exact HT.rgK [oH, oH, oH, oH, ⟨some true, .no⟩, ⟨some true, .no⟩, ⟨some true, .no⟩, ⟨none, .tv true⟩, oH] [] [] hX (by kernel_rfl) (allCons hb4 (allCons hb4 (allCons hb4 (allCons hb4 allNil)))) (fun _ h => (qThen (h.ht (cont (decide (a0 ≤ a2)) (of_some hT3)))))
    · exact HT.rgK [oH, oH, oH, oH, ⟨some false, .no⟩, ⟨some false, .no⟩, ⟨some false, .no⟩, ⟨none, .tv false⟩, oH] [] [] hX (by kernel_rfl) (allCons hb4 (allCons hb4 (allCons hb4 (allCons hb4 allNil)))) (fun _ h => (qThen (h.ht (cont false (of_some hT3)))))

noncomputable def spec_l06Is_B1 (a0 : Int × Int × List (Int × Int × Int × Int)) (s5 : Int) : Option ((Int) ⊕ (Unit ⊕ Unit)) :=
  bif (decide (s5 < (lenI a0.2.2))) then
    guardP ((0 : Int) ≤ s5 ∧ s5 < lenI a0.2.2) (
      (show Option (Bool) from
        (spec_l00In ((List.getD a0.2.2 (Int.toNat s5) ((0 : Int), (0 : Int), (0 : Int), (0 : Int))).1) (0 : Int) (wsub .i64 a0.1 (1 : Int))).bind fun y32 =>
        bif (!y32) then
          some true
        else
          (spec_l00In ((((List.getD a0.2.2 (Int.toNat s5) ((0 : Int), (0 : Int), (0 : Int), (0 : Int))).2).2).1) (-1 : Int) (wsub .i64 a0.1 (1 : Int))).bind fun y35 =>
          bif (!y35) then
            some true
          else
            (spec_l00In ((((List.getD a0.2.2 (Int.toNat s5) ((0 : Int), (0 : Int), (0 : Int), (0 : Int))).2).2).2) (0 : Int) (1000 : Int)).bind fun y38 =>
            some (!y38)).bind fun v14 =>
      bif v14 then
        some (.inr (.inr ()))
      else
        (show Option (Bool) from
          bif (decide ((((List.getD a0.2.2 (Int.toNat s5) ((0 : Int), (0 : Int), (0 : Int), (0 : Int))).2).2).1 < (0 : Int))) then
            (spec_l00In (((List.getD a0.2.2 (Int.toNat s5) ((0 : Int), (0 : Int), (0 : Int), (0 : Int))).2).1) (0 : Int) (wsub .i64 a0.2.1 (1 : Int))).bind fun y23 =>
            bif (!y23) then
              some true
            else
              bif (decide ((((List.getD a0.2.2 (Int.toNat s5) ((0 : Int), (0 : Int), (0 : Int), (0 : Int))).2).2).1 ≥ (0 : Int))) then
                (spec_l00In (((List.getD a0.2.2 (Int.toNat s5) ((0 : Int), (0 : Int), (0 : Int), (0 : Int))).2).1) (0 : Int) (wsub .i64 a0.1 (1 : Int))).bind fun y27 =>
                some (!y27)
              else
                some false
          else
            bif (decide ((((List.getD a0.2.2 (Int.toNat s5) ((0 : Int), (0 : Int), (0 : Int), (0 : Int))).2).2).1 ≥ (0 : Int))) then
              (spec_l00In (((List.getD a0.2.2 (Int.toNat s5) ((0 : Int), (0 : Int), (0 : Int), (0 : Int))).2).1) (0 : Int) (wsub .i64 a0.1 (1 : Int))).bind fun y30 =>
              some (!y30)
            else
              some false).bind fun v18 =>
        bif v18 then
          some (.inr (.inr ()))
        else
          some (.inl (wadd .i64 s5 (1 : Int))))
  else
    some (.inr (.inl ()))

noncomputable def spec_l06Is (a0 : Int × Int × List (Int × Int × Int × Int)) : Option (Bool) :=
  (show Option (Bool) from
    (spec_l00In a0.1 (1 : Int) (8 : Int)).bind fun y41 =>
    bif (!y41) then
      some true
    else
      (spec_l00In a0.2.1 (1 : Int) (4 : Int)).bind fun y44 =>
      bif (!y44) then
        some true
      else
        some (decide ((lenI a0.2.2) > (32 : Int)))).bind fun v1 =>
  bif v1 then
    some false
  else
    (rounds (spec_l06Is_B1 a0) (0 : Int)).bind fun r6 => match r6 with
      | .inl r7 =>
        some true
      | .inr r8 =>
        some false

theorem f61_ok {a0 : Int × Int × List (Int × Int × Int × Int)} {r : Bool} (hr : spec_l06Is a0 = some r) : CallOK Tryd.prog 61 [.pimm (.st (.pair tI (.pair tI (.sl (.st (.pair tI (.pair tI (.pair tI tI)))))))) a0] [⟨false, .bool, r⟩] [] := by
  unfold spec_l06Is at hr
  refine CallOK.of_body (ts := [(false, .bool)]) Tryd.func61 rfl (by kernel_rfl) (Nat.le_of_ble_eq_true (by kernel_rfl)) fun cx hP hN hO hF => ?_
  have hO : cx.own.map Prod.fst = [] := hO
  have hX := CxIs.mk hP hN hO
  have hF := hF rfl
  show HT cx ⟨[(0, .one (.ip (.st (.pair tI (.pair tI (.sl (.st (.pair tI (.pair tI (.pair tI tI)))))))) a0 0))], [], 0⟩ _ _
  refine HT.rg2 [oH] ⟨[(0, .one (.ip (.st (.pair tI (.pair tI (.sl (.st (.pair tI (.pair tI (.pair tI tI)))))))) a0 0))], [], 0⟩ hX (by kernel_rfl) allNil ?_
  refine HT.seq ?_
  obtain ⟨v1', hT3, hr⟩ := of_bind hr
  refine HT.join (fun (v1 : Bool) => ⟨[(0, .one (.ip (.st (.pair tI (.pair tI (.sl (.st (.pair tI (.pair tI (.pair tI tI)))))))) a0 0)), (26, bV v1)], [], 0⟩) (fun v => v = v1') (fun v1 hv2 => ?_) (fun cont => ?_)
  · subst hv2
    rcases of_bif hr with ⟨hb4, hr⟩ | ⟨hb4, hr⟩
    · refine HT.cond1 rfl hb4 ?_
      refine HT.rg2 [oH] ⟨[(2, bV false)], [], 0⟩ hX (by kernel_rfl) allNil ?_
      have hr := of_some hr
      subst hr
      exact HT.ret (qThenR ⟨[bV false], [], [], by kernel_rfl, by kernel_rfl, rfl, by kernel_rfl, by kernel_rfl, trivial⟩)
    · refine HT.cond0 rfl hb4 ?_
      refine HT.skip (qThen ?_)
      refine HT.seq ?_
      refine HT.rg2 [oH] ⟨[(0, .one (.ip (.st (.pair tI (.pair tI (.sl (.st (.pair tI (.pair tI (.pair tI tI)))))))) a0 0)), (3, iV (0 : Int))], [], 0⟩ hX (by kernel_rfl) allNil ?_
      refine HT.block ?_
      obtain ⟨r6, hL40, hr⟩ := of_bind hr
      refine HT.loopL (fun (s5 : Int) => ⟨[(0, .one (.ip (.st (.pair tI (.pair tI (.sl (.st (.pair tI (.pair tI (.pair tI tI)))))))) a0 0)), (3, iV s5)], [], 0⟩) (fun (r6 : Unit ⊕ Unit) => match r6 with | .inl r7 => (.exit 0, ⟨[], [], 0⟩) | .inr r8 => (.ret, ⟨[(2, bV false)], [], 0⟩)) (Le.re [] [] hX (by kernel_rfl)) hL40 ?_ (fun s5 x9 hx10 hk11 => ?_)
      · rcases r6 with r7 | r8
        · refine (qBlockX (qThen ?_))
          refine HT.rg2 [oH] ⟨[(2, bV true)], [], 0⟩ hX (by kernel_rfl) allNil ?_
          have hr := of_some hr
          subst hr
          exact HT.ret ⟨[bV true], [], [], by kernel_rfl, by kernel_rfl, rfl, by kernel_rfl, by kernel_rfl, trivial⟩
        · have hr := of_some hr
          subst hr
          exact (qBlockR (qThenR ⟨[bV false], [], [], by kernel_rfl, by kernel_rfl, rfl, by kernel_rfl, by kernel_rfl, trivial⟩))
      · refine HT.seq ?_
        refine HT.rg2 (oHs 7) ⟨[(0, .one (.ip (.st (.pair tI (.pair tI (.sl (.st (.pair tI (.pair tI (.pair tI tI)))))))) a0 0)), (3, iV s5), (33, bV (decide (s5 < (lenI a0.2.2))))], [], 0⟩ hX (by kernel_rfl) allNil ?_
        rcases of_bif hx10 with ⟨hb12, hx10⟩ | ⟨hb12, hx10⟩
        · refine HT.cond1 rfl hb12 ?_
          refine HT.skip (qThen ?_)
          refine HT.seq ?_
          refine HT.block ?_
          obtain ⟨hg13, hx10⟩ := of_guard hx10
          refine HT.rg2 (oHs 9) ⟨[(0, .one (.ip (.st (.pair tI (.pair tI (.sl (.st (.pair tI (.pair tI (.pair tI tI)))))))) a0 0)), (3, iV s5), (4, pV 0 0)], [(0, .box [iC ((List.getD a0.2.2 (Int.toNat s5) ((0 : Int), (0 : Int), (0 : Int), (0 : Int))).1), iC (((List.getD a0.2.2 (Int.toNat s5) ((0 : Int), (0 : Int), (0 : Int), (0 : Int))).2).1), iC ((((List.getD a0.2.2 (Int.toNat s5) ((0 : Int), (0 : Int), (0 : Int), (0 : Int))).2).2).1), iC ((((List.getD a0.2.2 (Int.toNat s5) ((0 : Int), (0 : Int), (0 : Int), (0 : Int))).2).2).2)])], 1⟩ hX (by kernel_rfl) (allCons hg13 allNil) ?_
          refine HT.seq ?_
          obtain ⟨v14', hT16, hx10⟩ := of_bind hx10
          refine HT.join (fun (v14 : Bool) => ⟨[(0, .one (.ip (.st (.pair tI (.pair tI (.sl (.st (.pair tI (.pair tI (.pair tI tI)))))))) a0 0)), (3, iV s5), (4, pV 0 0), (68, bV v14)], [(0, .box [iC ((List.getD a0.2.2 (Int.toNat s5) ((0 : Int), (0 : Int), (0 : Int), (0 : Int))).1), iC (((List.getD a0.2.2 (Int.toNat s5) ((0 : Int), (0 : Int), (0 : Int), (0 : Int))).2).1), iC ((((List.getD a0.2.2 (Int.toNat s5) ((0 : Int), (0 : Int), (0 : Int), (0 : Int))).2).2).1), iC ((((List.getD a0.2.2 (Int.toNat s5) ((0 : Int), (0 : Int), (0 : Int), (0 : Int))).2).2).2)])], 1⟩) (fun v => v = v14') (fun v14 hv15 => ?_) (fun cont => ?_)
          · subst hv15
            rcases of_bif hx10 with ⟨hb17, hx10⟩ | ⟨hb17, hx10⟩
            · refine HT.cond1 rfl hb17 ?_
              refine HT.rg2 [oH] ⟨[(2, bV false)], [], 1⟩ hX (by kernel_rfl) allNil ?_
              have hx10 := of_some hx10
              subst hx10
              exact HT.retL (Le.re [] [] hX (by kernel_rfl)) (qThenR (qBlockR (qThenR (qLoopR (hk11 (.inr ()) rfl)))))
            · refine HT.cond0 rfl hb17 ?_
              refine HT.skip (qThen ?_)
              obtain ⟨v18', hT20, hx10⟩ := of_bind hx10
              refine HT.join (fun (v18 : Bool) => ⟨[(0, .one (.ip (.st (.pair tI (.pair tI (.sl (.st (.pair tI (.pair tI (.pair tI tI)))))))) a0 0)), (3, iV s5), (98, bV v18)], [], 0⟩) (fun v => v = v18') (fun v18 hv19 => ?_) (fun cont => ?_)
              · subst hv19
                rcases of_bif hx10 with ⟨hb21, hx10⟩ | ⟨hb21, hx10⟩
                · refine HT.cond1 rfl hb21 ?_
                  refine HT.rg2 [oH] ⟨[(2, bV false)], [], 0⟩ hX (by kernel_rfl) allNil ?_
                  have hx10 := of_some hx10
                  subst hx10
                  exact HT.retL (Le.re [] [] hX (by kernel_rfl)) (qBlockR (qThenR (qLoopR (hk11 (.inr ()) rfl))))
                · refine HT.cond0 rfl hb21 ?_
                  refine HT.skip (qBlock (qThen ?_))
                  have hx10 := of_some hx10
                  subst hx10
                  exact HT.rgK (oHs 3) [] [] hX (by kernel_rfl) allNil (fun _ h => (qLoopN ⟨(wadd .i64 s5 (1 : Int)), rfl, h⟩))
              · rcases of_bif hT20 with ⟨hb22, hT20⟩ | ⟨hb22, hT20⟩
                · obtain ⟨y23, hc24, hT20⟩ := of_bind hT20
                  rcases of_bif hT20 with ⟨hb25, hT20⟩ | ⟨hb25, hT20⟩
                  · exact HT.drK 26 [⟨oH, []⟩, ⟨oH, [0]⟩, ⟨oH, [0, 1]⟩, ⟨oH, [0, 1, 2]⟩, ⟨⟨some true, .no⟩, [0, 1, 2, 3]⟩, ⟨⟨some true, .no⟩, [0, 1, 2, 3, 4]⟩, ⟨⟨some true, .no⟩, [0, 1, 2, 3]⟩, ⟨⟨some true, .no⟩, [0, 1, 2, 3, 6]⟩, ⟨⟨some true, .no⟩, [0, 1, 2, 3, 6, 7]⟩, ⟨⟨some true, .no⟩, [0, 1, 2, 3, 6, 7, 8]⟩, ⟨⟨some true, .no⟩, [0, 1, 2, 3, 6, 7, 8, 9]⟩, ⟨⟨some true, .call [.imm tI, .imm tI, .imm tI] [⟨false, .bool, y23⟩] []⟩, [0, 1, 2, 3, 4, 5, 6, 7, 8, 9, 10]⟩, ⟨⟨some true, .no⟩, [0, 1, 2, 3, 4, 5, 6, 7, 8, 9, 10, 11]⟩, ⟨⟨none, .tv true⟩, [0, 1, 2, 3, 4, 5, 6, 7, 8, 9, 10, 11, 12]⟩, ⟨oH, [0, 1, 2, 3, 4, 5, 6, 7, 8, 9, 10, 11, 12, 13]⟩, ⟨⟨some true, .no⟩, [0, 1, 2, 3, 4, 5, 6, 7, 8, 9, 10, 11, 12, 13, 14]⟩, ⟨⟨some true, .no⟩, [0, 1, 2, 3, 4, 5, 6, 7, 8, 9, 10, 11, 12, 13, 14, 15]⟩, ⟨⟨some true, .no⟩, [0, 1, 2, 3, 4, 5, 6, 7, 8, 9, 10, 11, 12, 13, 14, 15, 16]⟩, ⟨⟨some true, .no⟩, [0, 1, 2, 3, 4, 5, 6, 7, 8, 9, 10, 11, 12, 13, 14, 15, 16, 17]⟩, ⟨oH, [0, 1, 2, 3, 4, 5, 6, 7, 8, 9, 10, 11, 12, 13, 14, 15, 16, 17, 18]⟩, ⟨oH, [0, 1, 2, 3, 4, 5, 6, 7, 8, 9, 10, 11, 12, 13, 14, 15, 16, 17, 18, 19]⟩, ⟨oH, [0, 1, 2, 3, 4, 5, 6, 7, 8, 9, 10, 11, 12, 13, 14, 15, 16, 17, 18]⟩, ⟨oH, [0, 1, 2, 3, 4, 5, 6, 7, 8, 9, 10, 11, 12, 13, 14, 15, 16, 17, 18, 21]⟩, ⟨oH, [0, 1, 2, 3, 4, 5, 6, 7, 8, 9, 10, 11, 12, 13, 14, 15, 16, 17, 18, 21, 22]⟩, ⟨oH, [0, 1, 2, 3, 4, 5, 6, 7, 8, 9, 10, 11, 12, 13, 14, 15, 16, 17, 18, 21, 22, 23]⟩, ⟨oH, [0, 1, 2, 3, 4, 5, 6, 7, 8, 9, 10, 11, 12, 13, 14, 15, 16, 17, 18, 21, 22, 23, 24]⟩] [[0, 1, 2, 3, 4, 5, 6, 7, 8, 9, 10, 11, 12, 13, 14, 15, 16, 17, 18, 19, 20, 21, 22, 23, 24, 25], [0, 1, 2, 3, 4, 5, 6, 7, 8, 9, 10, 11, 12, 13, 14, 15, 16, 17, 18, 19, 20, 21, 22, 23, 24, 25, 26], [0, 1, 2, 3, 4, 5, 6, 7, 8, 9, 10, 11, 12, 13, 14, 15, 16, 17, 18, 19, 20, 21, 22, 23, 24, 25, 26, 27], [0, 1, 2, 3, 4, 5, 6, 7, 8, 9, 10, 11, 12, 13, 14, 15, 16, 17, 18, 19, 20, 21, 22, 23, 24, 25, 26, 27, 28]] [oH, oH, ⟨some true, .no⟩, ⟨none, .tv true⟩] [] [] hX (by kernel_rfl) (by kernel_rfl) (allCons hb22 (allCons hb22 (allCons hb22 (allCons hb22 (allCons hb22 (allCons hb22 (allCons hb22 (allCons hb22 (allCons (f111_ok hc24) (allCons hb22 (allCons hb22 (allCons hb25 (allCons hb25 (allCons hb25 (allCons hb25 (allCons hb25 (allCons hb25 allNil))))))))))))))))) (fun _ h => (qThen (h.ht (cont true (of_some hT20)))))
                  · rcases of_bif hT20 with ⟨hb26, hT20⟩ | ⟨hb26, hT20⟩
                    · obtain ⟨y27, hc28, hT20⟩ := of_bind hT20
                      exact HT.drK 26 [⟨oH, []⟩, ⟨oH, [0]⟩, ⟨oH, [0, 1]⟩, ⟨oH, [0, 1, 2]⟩, ⟨⟨some true, .no⟩, [0, 1, 2, 3]⟩, ⟨⟨some true, .no⟩, [0, 1, 2, 3, 4]⟩, ⟨⟨some true, .no⟩, [0, 1, 2, 3]⟩, ⟨⟨some true, .no⟩, [0, 1, 2, 3, 6]⟩, ⟨⟨some true, .no⟩, [0, 1, 2, 3, 6, 7]⟩, ⟨⟨some true, .no⟩, [0, 1, 2, 3, 6, 7, 8]⟩, ⟨⟨some true, .no⟩, [0, 1, 2, 3, 6, 7, 8, 9]⟩, ⟨⟨some true, .call [.imm tI, .imm tI, .imm tI] [⟨false, .bool, y23⟩] []⟩, [0, 1, 2, 3, 4, 5, 6, 7, 8, 9, 10]⟩, ⟨⟨some true, .no⟩, [0, 1, 2, 3, 4, 5, 6, 7, 8, 9, 10, 11]⟩, ⟨⟨none, .tv true⟩, [0, 1, 2, 3, 4, 5, 6, 7, 8, 9, 10, 11, 12]⟩, ⟨oH, [0, 1, 2, 3, 4, 5, 6, 7, 8, 9, 10, 11, 12, 13]⟩, ⟨⟨some false, .no⟩, [0, 1, 2, 3, 4, 5, 6, 7, 8, 9, 10, 11, 12, 13, 14]⟩, ⟨⟨some false, .no⟩, [0, 1, 2, 3, 4, 5, 6, 7, 8, 9, 10, 11, 12, 13, 14, 15]⟩, ⟨⟨some false, .no⟩, [0, 1, 2, 3, 4, 5, 6, 7, 8, 9, 10, 11, 12, 13, 14, 15, 16]⟩, ⟨⟨some false, .no⟩, [0, 1, 2, 3, 4, 5, 6, 7, 8, 9, 10, 11, 12, 13, 14, 15, 16, 17]⟩, ⟨⟨some true, .no⟩, [0, 1, 2, 3, 4, 5, 6, 7, 8, 9, 10, 11, 12, 13, 14, 15, 16, 17, 18]⟩, ⟨⟨some true, .no⟩, [0, 1, 2, 3, 4, 5, 6, 7, 8, 9, 10, 11, 12, 13, 14, 15, 16, 17, 18, 19]⟩, ⟨⟨some true, .no⟩, [0, 1, 2, 3, 4, 5, 6, 7, 8, 9, 10, 11, 12, 13, 14, 15, 16, 17, 18]⟩, ⟨⟨some true, .no⟩, [0, 1, 2, 3, 4, 5, 6, 7, 8, 9, 10, 11, 12, 13, 14, 15, 16, 17, 18, 21]⟩, ⟨⟨some true, .no⟩, [0, 1, 2, 3, 4, 5, 6, 7, 8, 9, 10, 11, 12, 13, 14, 15, 16, 17, 18, 21, 22]⟩, ⟨⟨some true, .no⟩, [0, 1, 2, 3, 4, 5, 6, 7, 8, 9, 10, 11, 12, 13, 14, 15, 16, 17, 18, 21, 22, 23]⟩, ⟨⟨some true, .no⟩, [0, 1, 2, 3, 4, 5, 6, 7, 8, 9, 10, 11, 12, 13, 14, 15, 16, 17, 18, 21, 22, 23, 24]⟩] [[0, 1, 2, 3, 4, 5, 6, 7, 8, 9, 10, 11, 12, 13, 14, 15, 16, 17, 18, 19, 20, 21, 22, 23, 24, 25], [0, 1, 2, 3, 4, 5, 6, 7, 8, 9, 10, 11, 12, 13, 14, 15, 16, 17, 18, 19, 20, 21, 22, 23, 24, 25, 26], [0, 1, 2, 3, 4, 5, 6, 7, 8, 9, 10, 11, 12, 13, 14, 15, 16, 17, 18, 19, 20, 21, 22, 23, 24, 25, 26, 27], [0, 1, 2, 3, 4, 5, 6, 7, 8, 9, 10, 11, 12, 13, 14, 15, 16, 17, 18, 19, 20, 21, 22, 23, 24, 25, 26, 27, 28]] [⟨some true, .call [.imm tI, .imm tI, .imm tI] [⟨false, .bool, y27⟩] []⟩, ⟨some true, .no⟩, ⟨some false, .tv true⟩, ⟨none, .tv false⟩] [] [] hX (by kernel_rfl) (by kernel_rfl) (allCons hb22 (allCons hb22 (allCons hb22 (allCons hb22 (allCons hb22 (allCons hb22 (allCons hb22 (allCons hb22 (allCons (f111_ok hc24) (allCons hb22 (allCons hb22 (allCons hb25 (allCons hb25 (allCons hb25 (allCons hb25 (allCons hb26 (allCons hb26 (allCons hb26 (allCons hb26 (allCons hb26 (allCons hb26 (allCons hb26 (allCons hb26 (allCons (f111_ok hc28) (allCons hb26 (allCons hb25 (allCons hb26 (allCons hb25 allNil)))))))))))))))))))))))))))) (fun _ h => (qThen (h.ht (cont (!y27) (of_some hT20)))))
                    · exact HT.drK 26 [⟨oH, []⟩, ⟨oH, [0]⟩, ⟨oH, [0, 1]⟩, ⟨oH, [0, 1, 2]⟩, ⟨⟨some true, .no⟩, [0, 1, 2, 3]⟩, ⟨⟨some true, .no⟩, [0, 1, 2, 3, 4]⟩, ⟨⟨some true, .no⟩, [0, 1, 2, 3]⟩, ⟨⟨some true, .no⟩, [0, 1, 2, 3, 6]⟩, ⟨⟨some true, .no⟩, [0, 1, 2, 3, 6, 7]⟩, ⟨⟨some true, .no⟩, [0, 1, 2, 3, 6, 7, 8]⟩, ⟨⟨some true, .no⟩, [0, 1, 2, 3, 6, 7, 8, 9]⟩, ⟨⟨some true, .call [.imm tI, .imm tI, .imm tI] [⟨false, .bool, y23⟩] []⟩, [0, 1, 2, 3, 4, 5, 6, 7, 8, 9, 10]⟩, ⟨⟨some true, .no⟩, [0, 1, 2, 3, 4, 5, 6, 7, 8, 9, 10, 11]⟩, ⟨⟨none, .tv true⟩, [0, 1, 2, 3, 4, 5, 6, 7, 8, 9, 10, 11, 12]⟩, ⟨oH, [0, 1, 2, 3, 4, 5, 6, 7, 8, 9, 10, 11, 12, 13]⟩, ⟨⟨some false, .no⟩, [0, 1, 2, 3, 4, 5, 6, 7, 8, 9, 10, 11, 12, 13, 14]⟩, ⟨⟨some false, .no⟩, [0, 1, 2, 3, 4, 5, 6, 7, 8, 9, 10, 11, 12, 13, 14, 15]⟩, ⟨⟨some false, .no⟩, [0, 1, 2, 3, 4, 5, 6, 7, 8, 9, 10, 11, 12, 13, 14, 15, 16]⟩, ⟨⟨some false, .no⟩, [0, 1, 2, 3, 4, 5, 6, 7, 8, 9, 10, 11, 12, 13, 14, 15, 16, 17]⟩, ⟨⟨some false, .no⟩, [0, 1, 2, 3, 4, 5, 6, 7, 8, 9, 10, 11, 12, 13, 14, 15, 16, 17, 18]⟩, ⟨⟨some false, .no⟩, [0, 1, 2, 3, 4, 5, 6, 7, 8, 9, 10, 11, 12, 13, 14, 15, 16, 17, 18, 19]⟩, ⟨⟨some false, .no⟩, [0, 1, 2, 3, 4, 5, 6, 7, 8, 9, 10, 11, 12, 13, 14, 15, 16, 17, 18]⟩, ⟨⟨some false, .no⟩, [0, 1, 2, 3, 4, 5, 6, 7, 8, 9, 10, 11, 12, 13, 14, 15, 16, 17, 18, 21]⟩, ⟨⟨some false, .no⟩, [0, 1, 2, 3, 4, 5, 6, 7, 8, 9, 10, 11, 12, 13, 14, 15, 16, 17, 18, 21, 22]⟩, ⟨⟨some false, .no⟩, [0, 1, 2, 3, 4, 5, 6, 7, 8, 9, 10, 11, 12, 13, 14, 15, 16, 17, 18, 21, 22, 23]⟩, ⟨⟨some false, .no⟩, [0, 1, 2, 3, 4, 5, 6, 7, 8, 9, 10, 11, 12, 13, 14, 15, 16, 17, 18, 21, 22, 23, 24]⟩] [[0, 1, 2, 3, 4, 5, 6, 7, 8, 9, 10, 11, 12, 13, 14, 15, 16, 17, 18, 19, 20, 21, 22, 23, 24, 25], [0, 1, 2, 3, 4, 5, 6, 7, 8, 9, 10, 11, 12, 13, 14, 15, 16, 17, 18, 19, 20, 21, 22, 23, 24, 25, 26], [0, 1, 2, 3, 4, 5, 6, 7, 8, 9, 10, 11, 12, 13, 14, 15, 16, 17, 18, 19, 20, 21, 22, 23, 24, 25, 26, 27], [0, 1, 2, 3, 4, 5, 6, 7, 8, 9, 10, 11, 12, 13, 14, 15, 16, 17, 18, 19, 20, 21, 22, 23, 24, 25, 26, 27, 28]] [⟨some false, .no⟩, ⟨some false, .no⟩, ⟨some false, .tv false⟩, ⟨none, .tv false⟩] [] [] hX (by kernel_rfl) (by kernel_rfl) (allCons hb22 (allCons hb22 (allCons hb22 (allCons hb22 (allCons hb22 (allCons hb22 (allCons hb22 (allCons hb22 (allCons (f111_ok hc24) (allCons hb22 (allCons hb22 (allCons hb25 (allCons hb25 (allCons hb25 (allCons hb25 (allCons hb26 (allCons hb26 (allCons hb26 (allCons hb26 (allCons hb26 (allCons hb26 (allCons hb26 (allCons hb26 (allCons hb26 (allCons hb25 (allCons hb26 (allCons hb25 allNil))))))))))))))))))))))))))) (fun _ h => (qThen (h.ht (cont false (of_some hT20)))))
                · rcases of_bif hT20 with ⟨hb29, hT20⟩ | ⟨hb29, hT20⟩
                  · obtain ⟨y30, hc31, hT20⟩ := of_bind hT20
                    exact HT.drK 26 [⟨oH, []⟩, ⟨oH, [0]⟩, ⟨oH, [0, 1]⟩, ⟨oH, [0, 1, 2]⟩, ⟨⟨some false, .no⟩, [0, 1, 2, 3]⟩, ⟨⟨some false, .no⟩, [0, 1, 2, 3, 4]⟩, ⟨⟨some false, .no⟩, [0, 1, 2, 3]⟩, ⟨⟨some false, .no⟩, [0, 1, 2, 3, 6]⟩, ⟨⟨some false, .no⟩, [0, 1, 2, 3, 6, 7]⟩, ⟨⟨some false, .no⟩, [0, 1, 2, 3, 6, 7, 8]⟩, ⟨⟨some false, .no⟩, [0, 1, 2, 3, 6, 7, 8, 9]⟩, ⟨⟨some false, .no⟩, [0, 1, 2, 3, 4, 5, 6, 7, 8, 9, 10]⟩, ⟨⟨some false, .no⟩, [0, 1, 2, 3, 4, 5, 6, 7, 8, 9, 10, 11]⟩, ⟨⟨none, .tv false⟩, [0, 1, 2, 3, 4, 5, 6, 7, 8, 9, 10, 11, 12]⟩, ⟨oH, [0, 1, 2, 3, 4, 5, 6, 7, 8, 9, 10, 11, 12, 13]⟩, ⟨⟨some false, .no⟩, [0, 1, 2, 3, 4, 5, 6, 7, 8, 9, 10, 11, 12, 13, 14]⟩, ⟨⟨some false, .no⟩, [0, 1, 2, 3, 4, 5, 6, 7, 8, 9, 10, 11, 12, 13, 14, 15]⟩, ⟨⟨some false, .no⟩, [0, 1, 2, 3, 4, 5, 6, 7, 8, 9, 10, 11, 12, 13, 14, 15, 16]⟩, ⟨⟨some false, .no⟩, [0, 1, 2, 3, 4, 5, 6, 7, 8, 9, 10, 11, 12, 13, 14, 15, 16, 17]⟩, ⟨⟨some true, .no⟩, [0, 1, 2, 3, 4, 5, 6, 7, 8, 9, 10, 11, 12, 13, 14, 15, 16, 17, 18]⟩, ⟨⟨some true, .no⟩, [0, 1, 2, 3, 4, 5, 6, 7, 8, 9, 10, 11, 12, 13, 14, 15, 16, 17, 18, 19]⟩, ⟨⟨some true, .no⟩, [0, 1, 2, 3, 4, 5, 6, 7, 8, 9, 10, 11, 12, 13, 14, 15, 16, 17, 18]⟩, ⟨⟨some true, .no⟩, [0, 1, 2, 3, 4, 5, 6, 7, 8, 9, 10, 11, 12, 13, 14, 15, 16, 17, 18, 21]⟩, ⟨⟨some true, .no⟩, [0, 1, 2, 3, 4, 5, 6, 7, 8, 9, 10, 11, 12, 13, 14, 15, 16, 17, 18, 21, 22]⟩, ⟨⟨some true, .no⟩, [0, 1, 2, 3, 4, 5, 6, 7, 8, 9, 10, 11, 12, 13, 14, 15, 16, 17, 18, 21, 22, 23]⟩, ⟨⟨some true, .no⟩, [0, 1, 2, 3, 4, 5, 6, 7, 8, 9, 10, 11, 12, 13, 14, 15, 16, 17, 18, 21, 22, 23, 24]⟩] [[0, 1, 2, 3, 4, 5, 6, 7, 8, 9, 10, 11, 12, 13, 14, 15, 16, 17, 18, 19, 20, 21, 22, 23, 24, 25], [0, 1, 2, 3, 4, 5, 6, 7, 8, 9, 10, 11, 12, 13, 14, 15, 16, 17, 18, 19, 20, 21, 22, 23, 24, 25, 26], [0, 1, 2, 3, 4, 5, 6, 7, 8, 9, 10, 11, 12, 13, 14, 15, 16, 17, 18, 19, 20, 21, 22, 23, 24, 25, 26, 27], [0, 1, 2, 3, 4, 5, 6, 7, 8, 9, 10, 11, 12, 13, 14, 15, 16, 17, 18, 19, 20, 21, 22, 23, 24, 25, 26, 27, 28]] [⟨some true, .call [.imm tI, .imm tI, .imm tI] [⟨false, .bool, y30⟩] []⟩, ⟨some true, .no⟩, ⟨some false, .tv true⟩, ⟨none, .tv false⟩] [] [] hX (by kernel_rfl) (by kernel_rfl) (allCons hb22 (allCons hb22 (allCons hb22 (allCons hb22 (allCons hb22 (allCons hb22 (allCons hb22 (allCons hb22 (allCons hb22 (allCons hb22 (allCons (rfl : false = false) (allCons (rfl : false = false) (allCons (rfl : false = false) (allCons (rfl : false = false) (allCons hb29 (allCons hb29 (allCons hb29 (allCons hb29 (allCons hb29 (allCons hb29 (allCons hb29 (allCons hb29 (allCons (f111_ok hc31) (allCons hb29 (allCons (rfl : false = false) (allCons hb29 (allCons (rfl : false = false) allNil))))))))))))))))))))))))))) (fun _ h => (qThen (h.ht (cont (!y30) (of_some hT20)))))
                  · exact HT.drK 26 [⟨oH, []⟩, ⟨oH, [0]⟩, ⟨oH, [0, 1]⟩, ⟨oH, [0, 1, 2]⟩, ⟨⟨some false, .no⟩, [0, 1, 2, 3]⟩, ⟨⟨some false, .no⟩, [0, 1, 2, 3, 4]⟩, ⟨⟨some false, .no⟩, [0, 1, 2, 3]⟩, ⟨⟨some false, .no⟩, [0, 1, 2, 3, 6]⟩, ⟨⟨some false, .no⟩, [0, 1, 2, 3, 6, 7]⟩, ⟨⟨some false, .no⟩, [0, 1, 2, 3, 6, 7, 8]⟩, ⟨⟨some false, .no⟩, [0, 1, 2, 3, 6, 7, 8, 9]⟩, ⟨⟨some false, .no⟩, [0, 1, 2, 3, 4, 5, 6, 7, 8, 9, 10]⟩, ⟨⟨some false, .no⟩, [0, 1, 2, 3, 4, 5, 6, 7, 8, 9, 10, 11]⟩, ⟨⟨none, .tv false⟩, [0, 1, 2, 3, 4, 5, 6, 7, 8, 9, 10, 11, 12]⟩, ⟨oH, [0, 1, 2, 3, 4, 5, 6, 7, 8, 9, 10, 11, 12, 13]⟩, ⟨⟨some false, .no⟩, [0, 1, 2, 3, 4, 5, 6, 7, 8, 9, 10, 11, 12, 13, 14]⟩, ⟨⟨some false, .no⟩, [0, 1, 2, 3, 4, 5, 6, 7, 8, 9, 10, 11, 12, 13, 14, 15]⟩, ⟨⟨some false, .no⟩, [0, 1, 2, 3, 4, 5, 6, 7, 8, 9, 10, 11, 12, 13, 14, 15, 16]⟩, ⟨⟨some false, .no⟩, [0, 1, 2, 3, 4, 5, 6, 7, 8, 9, 10, 11, 12, 13, 14, 15, 16, 17]⟩, ⟨⟨some false, .no⟩, [0, 1, 2, 3, 4, 5, 6, 7, 8, 9, 10, 11, 12, 13, 14, 15, 16, 17, 18]⟩, ⟨⟨some false, .no⟩, [0, 1, 2, 3, 4, 5, 6, 7, 8, 9, 10, 11, 12, 13, 14, 15, 16, 17, 18, 19]⟩, ⟨⟨some false, .no⟩, [0, 1, 2, 3, 4, 5, 6, 7, 8, 9, 10, 11, 12, 13, 14, 15, 16, 17, 18]⟩, ⟨⟨some false, .no⟩, [0, 1, 2, 3, 4, 5, 6, 7, 8, 9, 10, 11, 12, 13, 14, 15, 16, 17, 18, 21]⟩, ⟨⟨some false, .no⟩, [0, 1, 2, 3, 4, 5, 6, 7, 8, 9, 10, 11, 12, 13, 14, 15, 16, 17, 18, 21, 22]⟩, ⟨⟨some false, .no⟩, [0, 1, 2, 3, 4, 5, 6, 7, 8, 9, 10, 11, 12, 13, 14, 15, 16, 17, 18, 21, 22, 23]⟩, ⟨⟨some false, .no⟩, [0, 1, 2, 3, 4, 5, 6, 7, 8, 9, 10, 11, 12, 13, 14, 15, 16, 17, 18, 21, 22, 23, 24]⟩] [[0, 1, 2, 3, 4, 5, 6, 7, 8, 9, 10, 11, 12, 13, 14, 15, 16, 17, 18, 19, 20, 21, 22, 23, 24, 25], [0, 1, 2, 3, 4, 5, 6, 7, 8, 9, 10, 11, 12, 13, 14, 15, 16, 17, 18, 19, 20, 21, 22, 23, 24, 25, 26], [0, 1, 2, 3, 4, 5, 6, 7, 8, 9, 10, 11, 12, 13, 14, 15, 16, 17, 18, 19, 20, 21, 22, 23, 24, 25, 26, 27], [0, 1, 2, 3, 4, 5, 6, 7, 8, 9, 10, 11, 12, 13, 14, 15, 16, 17, 18, 19, 20, 21, 22, 23, 24, 25, 26, 27, 28]] [⟨some false, .no⟩, ⟨some false, .no⟩, ⟨some false, .tv false⟩, ⟨none, .tv false⟩] [] [] hX (by kernel_rfl) (by kernel_rfl) (allCons hb22 (allCons hb22 (allCons hb22 (allCons hb22 (allCons hb22 (allCons hb22 (allCons hb22 (allCons hb22 (allCons hb22 (allCons hb22 (allCons (rfl : false = false) (allCons (rfl : false = false) (allCons (rfl : false = false) (allCons (rfl : false = false) (allCons hb29 (allCons hb29 (allCons hb29 (allCons hb29 (allCons hb29 (allCons hb29 (allCons hb29 (allCons hb29 (allCons hb29 (allCons (rfl : false = false) (allCons hb29 (allCons (rfl : false = false) allNil)))))))))))))))))))))))))) (fun _ h => (qThen (h.ht (cont false (of_some hT20)))))
          · obtain ⟨y32, hc33, hT16⟩ := of_bind hT16
            rcases of_bif hT16 with ⟨hb34, hT16⟩ | ⟨hb34, hT16⟩
            · exact HT.drK 17 [⟨oH, []⟩, ⟨oH, [0]⟩, ⟨oH, []⟩, ⟨oH, [2]⟩, ⟨oH, [2, 3]⟩, ⟨oH, [2, 3, 4]⟩, ⟨oH, [2, 3, 4, 5]⟩, ⟨⟨none, .call [.imm tI, .imm tI, .imm tI] [⟨false, .bool, y32⟩] []⟩, [0, 1, 2, 3, 4, 5, 6]⟩, ⟨oH, [0, 1, 2, 3, 4, 5, 6, 7]⟩, ⟨oH, [0, 1, 2, 3, 4, 5, 6, 7, 8]⟩, ⟨⟨some true, .no⟩, [0, 1, 2, 3, 4, 5, 6, 7, 8, 9]⟩, ⟨⟨some true, .no⟩, [0, 1, 2, 3, 4, 5, 6, 7, 8, 9, 10]⟩, ⟨⟨some true, .no⟩, [0, 1, 2, 3, 4, 5, 6, 7, 8, 9]⟩, ⟨⟨some true, .no⟩, [0, 1, 2, 3, 4, 5, 6, 7, 8, 9, 12]⟩, ⟨⟨some true, .no⟩, [0, 1, 2, 3, 4, 5, 6, 7, 8, 9, 12, 13]⟩, ⟨⟨some true, .no⟩, [0, 1, 2, 3, 4, 5, 6, 7, 8, 9, 12, 13, 14]⟩, ⟨⟨some true, .no⟩, [0, 1, 2, 3, 4, 5, 6, 7, 8, 9, 12, 13, 14, 15]⟩] [[0, 1, 2, 3, 4, 5, 6, 7, 8, 9, 10, 11, 12, 13, 14, 15, 16], [0, 1, 2, 3, 4, 5, 6, 7, 8, 9, 10, 11, 12, 13, 14, 15, 16, 17], [0, 1, 2, 3, 4, 5, 6, 7, 8, 9, 10, 11, 12, 13, 14, 15, 16, 17, 18], [0, 1, 2, 3, 4, 5, 6, 7, 8, 9, 10, 11, 12, 13, 14, 15, 16, 17, 18, 19], [0, 1, 2, 3, 4, 5, 6, 7, 8, 9, 10, 11, 12, 13, 14, 15, 16, 17, 18, 19, 20], [0, 1, 2, 3, 4, 5, 6, 7, 8, 9, 10, 11, 12, 13, 14, 15, 16, 17, 18, 19, 20, 21], [0, 1, 2, 3, 4, 5, 6, 7, 8, 9, 10, 11, 12, 13, 14, 15, 16, 17, 18, 19, 20, 21, 22], [0, 1, 2, 3, 4, 5, 6, 7, 8, 9, 10, 11, 12, 13, 14, 15, 16, 17, 18, 19, 20, 21, 22, 23], [0, 1, 2, 3, 4, 5, 6, 7, 8, 9, 10, 11, 12, 13, 14, 15, 16, 17, 18, 19, 20, 21, 22, 23, 24]] [⟨some true, .no⟩, ⟨some true, .no⟩, ⟨none, .tv true⟩, oH, ⟨some true, .no⟩, ⟨some true, .no⟩, ⟨some true, .no⟩, ⟨some true, .no⟩, ⟨none, .tv true⟩] [(0, 0)] [] hX (by kernel_rfl) (by kernel_rfl) (allCons (f111_ok hc33) (allCons hb34 (allCons hb34 (allCons hb34 (allCons hb34 (allCons hb34 (allCons hb34 (allCons hb34 (allCons hb34 (allCons hb34 (allCons hb34 (allCons (rfl : true = true) (allCons (rfl : true = true) (allCons (rfl : true = true) (allCons (rfl : true = true) (allCons (rfl : true = true) allNil)))))))))))))))) (fun _ h => (qThen (h.ht (cont true (of_some hT16)))))
            · obtain ⟨y35, hc36, hT16⟩ := of_bind hT16
              rcases of_bif hT16 with ⟨hb37, hT16⟩ | ⟨hb37, hT16⟩
              · exact HT.drK 17 [⟨oH, []⟩, ⟨oH, [0]⟩, ⟨oH, []⟩, ⟨oH, [2]⟩, ⟨oH, [2, 3]⟩, ⟨oH, [2, 3, 4]⟩, ⟨oH, [2, 3, 4, 5]⟩, ⟨⟨none, .call [.imm tI, .imm tI, .imm tI] [⟨false, .bool, y32⟩] []⟩, [0, 1, 2, 3, 4, 5, 6]⟩, ⟨oH, [0, 1, 2, 3, 4, 5, 6, 7]⟩, ⟨oH, [0, 1, 2, 3, 4, 5, 6, 7, 8]⟩, ⟨⟨some false, .no⟩, [0, 1, 2, 3, 4, 5, 6, 7, 8, 9]⟩, ⟨⟨some false, .no⟩, [0, 1, 2, 3, 4, 5, 6, 7, 8, 9, 10]⟩, ⟨⟨some false, .no⟩, [0, 1, 2, 3, 4, 5, 6, 7, 8, 9]⟩, ⟨⟨some false, .no⟩, [0, 1, 2, 3, 4, 5, 6, 7, 8, 9, 12]⟩, ⟨⟨some false, .no⟩, [0, 1, 2, 3, 4, 5, 6, 7, 8, 9, 12, 13]⟩, ⟨⟨some false, .no⟩, [0, 1, 2, 3, 4, 5, 6, 7, 8, 9, 12, 13, 14]⟩, ⟨⟨some false, .no⟩, [0, 1, 2, 3, 4, 5, 6, 7, 8, 9, 12, 13, 14, 15]⟩] [[0, 1, 2, 3, 4, 5, 6, 7, 8, 9, 10, 11, 12, 13, 14, 15, 16], [0, 1, 2, 3, 4, 5, 6, 7, 8, 9, 10, 11, 12, 13, 14, 15, 16, 17], [0, 1, 2, 3, 4, 5, 6, 7, 8, 9, 10, 11, 12, 13, 14, 15, 16, 17, 18], [0, 1, 2, 3, 4, 5, 6, 7, 8, 9, 10, 11, 12, 13, 14, 15, 16, 17, 18, 19], [0, 1, 2, 3, 4, 5, 6, 7, 8, 9, 10, 11, 12, 13, 14, 15, 16, 17, 18, 19, 20], [0, 1, 2, 3, 4, 5, 6, 7, 8, 9, 10, 11, 12, 13, 14, 15, 16, 17, 18, 19, 20, 21], [0, 1, 2, 3, 4, 5, 6, 7, 8, 9, 10, 11, 12, 13, 14, 15, 16, 17, 18, 19, 20, 21, 22], [0, 1, 2, 3, 4, 5, 6, 7, 8, 9, 10, 11, 12, 13, 14, 15, 16, 17, 18, 19, 20, 21, 22, 23], [0, 1, 2, 3, 4, 5, 6, 7, 8, 9, 10, 11, 12, 13, 14, 15, 16, 17, 18, 19, 20, 21, 22, 23, 24]] [⟨some false, .call [.imm tI, .imm tI, .imm tI] [⟨false, .bool, y35⟩] []⟩, ⟨some false, .no⟩, ⟨none, .tv false⟩, oH, ⟨some true, .no⟩, ⟨some true, .no⟩, ⟨some true, .no⟩, ⟨some true, .no⟩, ⟨none, .tv true⟩] [(0, 0)] [] hX (by kernel_rfl) (by kernel_rfl) (allCons (f111_ok hc33) (allCons hb34 (allCons hb34 (allCons hb34 (allCons hb34 (allCons hb34 (allCons hb34 (allCons hb34 (allCons hb34 (allCons (f111_ok hc36) (allCons hb34 (allCons hb34 (allCons hb37 (allCons hb37 (allCons hb37 (allCons hb37 (allCons hb37 allNil))))))))))))))))) (fun _ h => (qThen (h.ht (cont true (of_some hT16)))))
              · obtain ⟨y38, hc39, hT16⟩ := of_bind hT16
                exact HT.drK 17 [⟨oH, []⟩, ⟨oH, [0]⟩, ⟨oH, []⟩, ⟨oH, [2]⟩, ⟨oH, [2, 3]⟩, ⟨oH, [2, 3, 4]⟩, ⟨oH, [2, 3, 4, 5]⟩, ⟨⟨none, .call [.imm tI, .imm tI, .imm tI] [⟨false, .bool, y32⟩] []⟩, [0, 1, 2, 3, 4, 5, 6]⟩, ⟨oH, [0, 1, 2, 3, 4, 5, 6, 7]⟩, ⟨oH, [0, 1, 2, 3, 4, 5, 6, 7, 8]⟩, ⟨⟨some false, .no⟩, [0, 1, 2, 3, 4, 5, 6, 7, 8, 9]⟩, ⟨⟨some false, .no⟩, [0, 1, 2, 3, 4, 5, 6, 7, 8, 9, 10]⟩, ⟨⟨some false, .no⟩, [0, 1, 2, 3, 4, 5, 6, 7, 8, 9]⟩, ⟨⟨some false, .no⟩, [0, 1, 2, 3, 4, 5, 6, 7, 8, 9, 12]⟩, ⟨⟨some false, .no⟩, [0, 1, 2, 3, 4, 5, 6, 7, 8, 9, 12, 13]⟩, ⟨⟨some false, .no⟩, [0, 1, 2, 3, 4, 5, 6, 7, 8, 9, 12, 13, 14]⟩, ⟨⟨some false, .no⟩, [0, 1, 2, 3, 4, 5, 6, 7, 8, 9, 12, 13, 14, 15]⟩] [[0, 1, 2, 3, 4, 5, 6, 7, 8, 9, 10, 11, 12, 13, 14, 15, 16], [0, 1, 2, 3, 4, 5, 6, 7, 8, 9, 10, 11, 12, 13, 14, 15, 16, 17], [0, 1, 2, 3, 4, 5, 6, 7, 8, 9, 10, 11, 12, 13, 14, 15, 16, 17, 18], [0, 1, 2, 3, 4, 5, 6, 7, 8, 9, 10, 11, 12, 13, 14, 15, 16, 17, 18, 19], [0, 1, 2, 3, 4, 5, 6, 7, 8, 9, 10, 11, 12, 13, 14, 15, 16, 17, 18, 19, 20], [0, 1, 2, 3, 4, 5, 6, 7, 8, 9, 10, 11, 12, 13, 14, 15, 16, 17, 18, 19, 20, 21], [0, 1, 2, 3, 4, 5, 6, 7, 8, 9, 10, 11, 12, 13, 14, 15, 16, 17, 18, 19, 20, 21, 22], [0, 1, 2, 3, 4, 5, 6, 7, 8, 9, 10, 11, 12, 13, 14, 15, 16, 17, 18, 19, 20, 21, 22, 23], [0, 1, 2, 3, 4, 5, 6, 7, 8, 9, 10, 11, 12, 13, 14, 15, 16, 17, 18, 19, 20, 21, 22, 23, 24]] [⟨some false, .call [.imm tI, .imm tI, .imm tI] [⟨false, .bool, y35⟩] []⟩, ⟨some false, .no⟩, ⟨none, .tv false⟩, oH, ⟨some false, .no⟩, ⟨some false, .no⟩, ⟨some false, .call [.imm tI, .imm tI, .imm tI] [⟨false, .bool, y38⟩] []⟩, ⟨some false, .no⟩, ⟨none, .tv false⟩] [(0, 0)] [] hX (by kernel_rfl) (by kernel_rfl) (allCons (f111_ok hc33) (allCons hb34 (allCons hb34 (allCons hb34 (allCons hb34 (allCons hb34 (allCons hb34 (allCons hb34 (allCons hb34 (allCons (f111_ok hc36) (allCons hb34 (allCons hb34 (allCons hb37 (allCons hb37 (allCons hb37 (allCons (f111_ok hc39) (allCons hb37 (allCons hb37 allNil)))))))))))))))))) (fun _ h => (qThen (h.ht (cont (!y38) (of_some hT16)))))
        · refine HT.cond0 rfl hb12 ?_
          have hx10 := of_some hx10
          subst hx10
          exact HT.exitL (Le.re [] [] hX (by kernel_rfl)) (qThenE (qLoopE (hk11 (.inl ()) rfl)))
  · obtain ⟨y41, hc42, hT3⟩ := of_bind hT3
    rcases of_bif hT3 with ⟨hb43, hT3⟩ | ⟨hb43, hT3⟩
    · exact HT.rgK [oH, oH, oH, oH, ⟨none, .call [.imm tI, .imm tI, .imm tI] [⟨false, .bool, y41⟩] []⟩, oH, oH, ⟨some true, .no⟩, ⟨some true, .no⟩, ⟨some true, .no⟩, ⟨some true, .no⟩, ⟨some true, .no⟩, ⟨some true, .no⟩, ⟨none, .tv true⟩, oH, ⟨some true, .no⟩, ⟨some true, .no⟩, ⟨some true, .no⟩, ⟨some true, .no⟩, ⟨some true, .no⟩, ⟨some true, .no⟩, ⟨none, .tv true⟩] [] [] hX (by kernel_rfl) (allCons (f111_ok hc42) (allCons hb43 (allCons hb43 (allCons hb43 (allCons hb43 (allCons hb43 (allCons hb43 (allCons hb43 (allCons (rfl : true = true) (allCons (rfl : true = true) (allCons (rfl : true = true) (allCons (rfl : true = true) (allCons (rfl : true = true) (allCons (rfl : true = true) (allCons (rfl : true = true) allNil))))))))))))))) (fun _ h => (qThen (h.ht (cont true (of_some hT3)))))
    · obtain ⟨y44, hc45, hT3⟩ := of_bind hT3
      rcases of_bif hT3 with ⟨hb46, hT3⟩ | ⟨hb46, hT3⟩
      · exact HT.rgK [oH, oH, oH, oH, ⟨none, .call [.imm tI, .imm tI, .imm tI] [⟨false, .bool, y41⟩] []⟩, oH, oH, ⟨some false, .no⟩, ⟨some false, .no⟩, ⟨some false, .no⟩, ⟨some false, .no⟩, ⟨some false, .call [.imm tI, .imm tI, .imm tI] [⟨false, .bool, y44⟩] []⟩, ⟨some false, .no⟩, ⟨none, .tv false⟩, oH, ⟨some true, .no⟩, ⟨some true, .no⟩, ⟨some true, .no⟩, ⟨some true, .no⟩, ⟨some true, .no⟩, ⟨some true, .no⟩, ⟨none, .tv true⟩] [] [] hX (by kernel_rfl) (allCons (f111_ok hc42) (allCons hb43 (allCons hb43 (allCons hb43 (allCons hb43 (allCons hb43 (allCons (f111_ok hc45) (allCons hb43 (allCons hb43 (allCons hb46 (allCons hb46 (allCons hb46 (allCons hb46 (allCons hb46 (allCons hb46 (allCons hb46 allNil)))))))))))))))) (fun _ h => (qThen (h.ht (cont true (of_some hT3)))))
      · exact HT.rgK [oH, oH, oH, oH, ⟨none, .call [.imm tI, .imm tI, .imm tI] [⟨false, .bool, y41⟩] []⟩, oH, oH, ⟨some false, .no⟩, ⟨some false, .no⟩, ⟨some false, .no⟩, ⟨some false, .no⟩, ⟨some false, .call [.imm tI, .imm tI, .imm tI] [⟨false, .bool, y44⟩] []⟩, ⟨some false, .no⟩, ⟨none, .tv false⟩, oH, ⟨some false, .no⟩, ⟨some false, .no⟩, ⟨some false, .no⟩, ⟨some false, .no⟩, ⟨some false, .no⟩, ⟨some false, .no⟩, ⟨none, .tv false⟩] [] [] hX (by kernel_rfl) (allCons (f111_ok hc42) (allCons hb43 (allCons hb43 (allCons hb43 (allCons hb43 (allCons hb43 (allCons (f111_ok hc45) (allCons hb43 (allCons hb43 (allCons hb46 (allCons hb46 (allCons hb46 (allCons hb46 (allCons hb46 (allCons hb46 (allCons hb46 allNil)))))))))))))))) (fun _ h => (qThen (h.ht (cont (decide ((lenI a0.2.2) > (32 : Int))) (of_some hT3)))))

noncomputable def spec_l01List_B1 (a0 : List Int) (s1 : Int) : Option ((Int) ⊕ (Unit ⊕ Unit)) :=
  bif (decide (s1 < (lenI a0))) then
    guardP ((0 : Int) ≤ s1 ∧ s1 < lenI a0) (
      (spec_l00In (List.getD a0 (Int.toNat s1) (0 : Int)) (-1000000000000000 : Int) (1000000000000000 : Int)).bind fun y10 =>
      bif (!y10) then
        some (.inr (.inr ()))
      else
        some (.inl (wadd .i64 s1 (1 : Int))))
  else
    some (.inr (.inl ()))

noncomputable def spec_l01List (a0 : List Int) : Option (Bool) :=
  (rounds (spec_l01List_B1 a0) (0 : Int)).bind fun r2 => match r2 with
    | .inl r3 =>
      some (decide ((lenI a0) ≤ (64 : Int)))
    | .inr r4 =>
      some false

theorem f62_ok {a0 : List Int} {r : Bool} (hr : spec_l01List a0 = some r) : CallOK Tryd.prog 62 [.imm tLI a0] [⟨false, .bool, r⟩] [] := by
  unfold spec_l01List at hr
  refine CallOK.of_body (ts := [(false, .bool)]) Tryd.func62 rfl (by kernel_rfl) (Nat.le_of_ble_eq_true (by kernel_rfl)) fun cx hP hN hO hF => ?_
  have hO : cx.own.map Prod.fst = [] := hO
  have hX := CxIs.mk hP hN hO
  have hF := hF rfl
  show HT cx ⟨[(0, nV a0)], [], 0⟩ _ _
  refine HT.rg2 [oH] ⟨[(0, nV a0)], [], 0⟩ hX (by kernel_rfl) allNil ?_
  refine HT.seq ?_
  refine HT.rg2 [oH] ⟨[(0, nV a0), (3, iV (0 : Int))], [], 0⟩ hX (by kernel_rfl) allNil ?_
  refine HT.block ?_
  obtain ⟨r2, hL13, hr⟩ := of_bind hr
  refine HT.loopL (fun (s1 : Int) => ⟨[(0, nV a0), (3, iV s1)], [], 0⟩) (fun (r2 : Unit ⊕ Unit) => match r2 with | .inl r3 => (.exit 0, ⟨[(0, nV a0)], [], 0⟩) | .inr r4 => (.ret, ⟨[(2, bV false)], [], 0⟩)) (Le.re [] [] hX (by kernel_rfl)) hL13 ?_ (fun s1 x5 hx6 hk7 => ?_)
  · rcases r2 with r3 | r4
    · refine (qBlockX (qThen ?_))
      refine HT.rg2 (oHs 4) ⟨[(2, bV (decide ((lenI a0) ≤ (64 : Int))))], [], 0⟩ hX (by kernel_rfl) allNil ?_
      have hr := of_some hr
      subst hr
      exact HT.ret ⟨[bV (decide ((lenI a0) ≤ (64 : Int)))], [], [], by kernel_rfl, by kernel_rfl, rfl, by kernel_rfl, by kernel_rfl, trivial⟩
    · have hr := of_some hr
      subst hr
      exact (qBlockR (qThenR ⟨[bV false], [], [], by kernel_rfl, by kernel_rfl, rfl, by kernel_rfl, by kernel_rfl, trivial⟩))
  · refine HT.seq ?_
    refine HT.rg2 (oHs 4) ⟨[(0, nV a0), (3, iV s1), (7, bV (decide (s1 < (lenI a0))))], [], 0⟩ hX (by kernel_rfl) allNil ?_
    rcases of_bif hx6 with ⟨hb8, hx6⟩ | ⟨hb8, hx6⟩
    · refine HT.cond1 rfl hb8 ?_
      refine HT.skip (qThen ?_)
      refine HT.seq ?_
      refine HT.block ?_
      obtain ⟨hg9, hx6⟩ := of_guard hx6
      obtain ⟨y10, hc11, hx6⟩ := of_bind hx6
      refine HT.rg2 [oH, oH, oH, oH, ⟨none, .call [.imm tI, .imm tI, .imm tI] [⟨false, .bool, y10⟩] []⟩, oH] ⟨[(0, nV a0), (3, iV s1), (15, bV (!y10))], [], 0⟩ hX (by kernel_rfl) (allCons hg9 (allCons (f111_ok hc11) allNil)) ?_
      rcases of_bif hx6 with ⟨hb12, hx6⟩ | ⟨hb12, hx6⟩
      · refine HT.cond1 rfl hb12 ?_
        refine HT.rg2 [oH] ⟨[(2, bV false)], [], 0⟩ hX (by kernel_rfl) allNil ?_
        have hx6 := of_some hx6
        subst hx6
        exact HT.retL (Le.re [] [] hX (by kernel_rfl)) (qBlockR (qThenR (qLoopR (hk7 (.inr ()) rfl))))
      · refine HT.cond0 rfl hb12 ?_
        refine HT.skip (qBlock (qThen ?_))
        have hx6 := of_some hx6
        subst hx6
        exact HT.rgK (oHs 3) [] [] hX (by kernel_rfl) allNil (fun _ h => (qLoopN ⟨(wadd .i64 s1 (1 : Int)), rfl, h⟩))
    · refine HT.cond0 rfl hb8 ?_
      have hx6 := of_some hx6
      subst hx6
      exact HT.exitL (Le.re [] [] hX (by kernel_rfl)) (qThenE (qLoopE (hk7 (.inl ()) rfl)))

noncomputable def spec_GrammarText (a0 : Int × Int × List (Int × Int × Int × Int)) : Option (List UInt8 × Bool) :=
  (show Option (Bool) from
    (spec_l06Is (a0.1, a0.2.1, a0.2.2)).bind fun y7 =>
    bif (!y7) then
      some true
    else
      (spec_l08Rules a0.2.2).bind fun y10 =>
      (spec_l01List y10).bind fun y12 =>
      some (!y12)).bind fun v1 =>
  bif v1 then
    some (([] : List UInt8), false)
  else
    (spec_l08Grammar (a0.1, a0.2.1, a0.2.2)).bind fun y5 =>
    some (y5, true)

theorem f22_ok {a0 : Int × Int × List (Int × Int × Int × Int)} {r : List UInt8 × Bool} (hr : spec_GrammarText a0 = some r) : CallOK Tryd.prog 22 [.imm (.st (.pair tI (.pair tI (.sl (.st (.pair tI (.pair tI (.pair tI tI)))))))) a0] [⟨false, .str, r.1⟩, ⟨false, .bool, r.2⟩] [] := by
  unfold spec_GrammarText at hr
  refine CallOK.of_body (ts := [(false, .str), (false, .bool)]) Tryd.func22 rfl (by kernel_rfl) (Nat.le_of_ble_eq_true (by kernel_rfl)) fun cx hP hN hO hF => ?_
  have hO : cx.own.map Prod.fst = [] := hO
  have hX := CxIs.mk hP hN hO
  have hF := hF rfl
  show HT cx ⟨[(0, .agg [iC a0.1, iC a0.2.1, .dat (.sl (.st (.pair tI (.pair tI (.pair tI tI))))) a0.2.2])], [], 0⟩ _ _
  refine HT.rg2 (oHs 3) ⟨[(1, pV 0 0)], [(0, .box [iC a0.1, iC a0.2.1, .dat (.sl (.st (.pair tI (.pair tI (.pair tI tI))))) a0.2.2])], 1⟩ hX (by kernel_rfl) allNil ?_
  refine HT.seq ?_
  obtain ⟨v1', hT3, hr⟩ := of_bind hr
  refine HT.join (fun (v1 : Bool) => ⟨[(1, pV 0 0), (12, bV v1)], [(0, .box [iC a0.1, iC a0.2.1, .dat (.sl (.st (.pair tI (.pair tI (.pair tI tI))))) a0.2.2])], 1⟩) (fun v => v = v1') (fun v1 hv2 => ?_) (fun cont => ?_)
  · subst hv2
    rcases of_bif hr with ⟨hb4, hr⟩ | ⟨hb4, hr⟩
    · refine HT.cond1 rfl hb4 ?_
      refine HT.rg2 (oHs 2) ⟨[(2, .one (.dat .str ([] : List UInt8))), (3, bV false)], [], 1⟩ hX (by kernel_rfl) allNil ?_
      have hr := of_some hr
      subst hr
      exact HT.ret (qThenR ⟨[.one (.dat .str ([] : List UInt8)), bV false], [], [], by kernel_rfl, by kernel_rfl, rfl, by kernel_rfl, by kernel_rfl, trivial⟩)
    · refine HT.cond0 rfl hb4 ?_
      refine HT.skip (qThen ?_)
      obtain ⟨y5, hc6, hr⟩ := of_bind hr
      refine HT.rg2 [⟨none, .call [.pimm (.st (.pair tI (.pair tI (.sl (.st (.pair tI (.pair tI (.pair tI tI))))))))] [⟨false, .str, y5⟩] []⟩, oH, oH] ⟨[(2, .one (.dat .str y5)), (3, bV true)], [], 1⟩ hX (by kernel_rfl) (allCons (f64_ok hc6) allNil) ?_
      have hr := of_some hr
      subst hr
      exact HT.ret ⟨[.one (.dat .str y5), bV true], [], [], by kernel_rfl, by kernel_rfl, rfl, by kernel_rfl, by kernel_rfl, trivial⟩
  · obtain ⟨y7, hc8, hT3⟩ := of_bind hT3
    rcases of_bif hT3 with ⟨hb9, hT3⟩ | ⟨hb9, hT3⟩
    · exact HT.rgK [⟨none, .call [.pimm (.st (.pair tI (.pair tI (.sl (.st (.pair tI (.pair tI (.pair tI tI))))))))] [⟨false, .bool, y7⟩] []⟩, oH, oH, ⟨some true, .no⟩, ⟨some true, .no⟩, ⟨some true, .no⟩, ⟨some true, .no⟩, ⟨some true, .no⟩, ⟨none, .tv true⟩] [(0, 0)] [] hX (by kernel_rfl) (allCons (f61_ok hc8) (allCons hb9 (allCons hb9 (allCons hb9 (allCons hb9 (allCons hb9 (allCons hb9 allNil))))))) (fun _ h => (qThen (h.ht (cont true (of_some hT3)))))
    · obtain ⟨y10, hc11, hT3⟩ := of_bind hT3
      obtain ⟨y12, hc13, hT3⟩ := of_bind hT3
      exact HT.rgK [⟨none, .call [.pimm (.st (.pair tI (.pair tI (.sl (.st (.pair tI (.pair tI (.pair tI tI))))))))] [⟨false, .bool, y7⟩] []⟩, oH, oH, ⟨some false, .no⟩, ⟨some false, .no⟩, ⟨some false, .call [.imm (.sl (.st (.pair tI (.pair tI (.pair tI tI)))))] [⟨true, tLI, y10⟩] []⟩, ⟨some false, .call [.imm tLI] [⟨false, .bool, y12⟩] []⟩, ⟨some false, .no⟩, ⟨none, .tv false⟩] [(0, 0)] [] hX (by kernel_rfl) (allCons (f61_ok hc8) (allCons hb9 (allCons hb9 (allCons hb9 (allCons (f63_ok hc11) (allCons hb9 (allCons (f62_ok hc13) (allCons hb9 (allCons hb9 allNil))))))))) (fun _ h => (qThen (h.ht (cont (!y12) (of_some hT3)))))

noncomputable def impl_within (a0 : Int) (a1 : Int) (a2 : Int) : Option (Bool) :=
  (show Option (Bool) from
    bif (decide (a0 ≥ a1)) then
      some (decide (a0 ≤ a2))
    else
      some false).bind fun v1 =>
  some v1

theorem f106_ok {a0 : Int} {a1 : Int} {a2 : Int} {r : Bool} (hr : impl_within a0 a1 a2 = some r) : CallOK Tryd.prog 106 [.imm tI a0, .imm tI a1, .imm tI a2] [⟨false, .bool, r⟩] [] := by
  unfold impl_within at hr
  refine CallOK.of_body (ts := [(false, .bool)]) Tryd.func106 rfl (by kernel_rfl) (Nat.le_of_ble_eq_true (by kernel_rfl)) fun cx hP hN hO hF => ?_
  have hO : cx.own.map Prod.fst = [] := hO
  have hX := CxIs.mk hP hN hO
  have hF := hF rfl
  show HT cx ⟨[(0, iV a0), (1, iV a1), (2, iV a2)], [], 0⟩ _ _
  refine HT.rg2 [oH] ⟨[(0, iV a0), (1, iV a1), (2, iV a2)], [], 0⟩ hX (by kernel_rfl) allNil ?_
  obtain ⟨v1', hT3, hr⟩ := of_bind hr
  refine HT.join (fun (v1 : Bool) => ⟨[(6, bV v1)], [], 0⟩) (fun v => v = v1') (fun v1 hv2 => ?_) (fun cont => ?_)
  · subst hv2
    have hr := of_some hr
    subst hr
    exact HT.ret ⟨[bV v1], [], [], by kernel_rfl, by kernel_rfl, rfl, by kernel_rfl, by kernel_rfl, trivial⟩
  · rcases of_bif hT3 with ⟨hb4, hT3⟩ | ⟨hb4, hT3⟩
    · exact HT.rgK [oH, oH, oH, oH, ⟨some true, .no⟩, ⟨some true, .no⟩, ⟨some true, .no⟩, ⟨none, .tv true⟩, oH] [] [] hX (by kernel_rfl) (allCons hb4 (allCons hb4 (allCons hb4 (allCons hb4 allNil)))) (fun _ h => (qThen (h.ht (cont (decide (a0 ≤ a2)) (of_some hT3)))))
    · exact HT.rgK [oH, oH, oH, oH, ⟨some false, .no⟩, ⟨some false, .no⟩, ⟨some false, .no⟩, ⟨none, .tv false⟩, oH] [] [] hX (by kernel_rfl) (allCons hb4 (allCons hb4 (allCons hb4 (allCons hb4 allNil)))) (fun _ h => (qThen (h.ht (cont false (of_some hT3)))))

noncomputable def impl_ValidGrammar_B1 (a0 : Int × Int × List (Int × Int × Int × Int)) (s5 : Int) : Option ((Int) ⊕ (Unit ⊕ Unit)) :=
  bif (decide (s5 < (lenI a0.2.2))) then
    guardP ((0 : Int) ≤ s5 ∧ s5 < lenI a0.2.2) (
      (show Option (Int) from
        bif ((((List.getD a0.2.2 (Int.toNat s5) ((0 : Int), (0 : Int), (0 : Int), (0 : Int))).2).2).1 == (-1 : Int)) then
          some (wsub .i64 a0.2.1 (1 : Int))
        else
          some (wsub .i64 a0.1 (1 : Int))).bind fun v14 =>
      (show Option (Bool) from
        (impl_within ((List.getD a0.2.2 (Int.toNat s5) ((0 : Int), (0 : Int), (0 : Int), (0 : Int))).1) (0 : Int) (wsub .i64 a0.1 (1 : Int))).bind fun y21 =>
        bif (!y21) then
          some true
        else
          (impl_within (((List.getD a0.2.2 (Int.toNat s5) ((0 : Int), (0 : Int), (0 : Int), (0 : Int))).2).1) (0 : Int) v14).bind fun y24 =>
          bif (!y24) then
            some true
          else
            (impl_within ((((List.getD a0.2.2 (Int.toNat s5) ((0 : Int), (0 : Int), (0 : Int), (0 : Int))).2).2).1) (-1 : Int) (wsub .i64 a0.1 (1 : Int))).bind fun y27 =>
            bif (!y27) then
              some true
            else
              (impl_within ((((List.getD a0.2.2 (Int.toNat s5) ((0 : Int), (0 : Int), (0 : Int), (0 : Int))).2).2).2) (0 : Int) (1000 : Int)).bind fun y30 =>
              some (!y30)).bind fun v17 =>
      bif v17 then
        some (.inr (.inr ()))
      else
        some (.inl (wadd .i64 s5 (1 : Int))))
  else
    some (.inr (.inl ()))

noncomputable def impl_ValidGrammar (a0 : Int × Int × List (Int × Int × Int × Int)) : Option (Bool) :=
  (show Option (Bool) from
    (impl_within a0.1 (1 : Int) (8 : Int)).bind fun y34 =>
    bif (!y34) then
      some true
    else
      (impl_within a0.2.1 (1 : Int) (4 : Int)).bind fun y37 =>
      bif (!y37) then
        some true
      else
        some (decide ((lenI a0.2.2) > (32 : Int)))).bind fun v1 =>
  bif v1 then
    some false
  else
    (rounds (impl_ValidGrammar_B1 a0) (0 : Int)).bind fun r6 => match r6 with
      | .inl r7 =>
        some true
      | .inr r8 =>
        some false

theorem f66_ok {a0 : Int × Int × List (Int × Int × Int × Int)} {r : Bool} (hr : impl_ValidGrammar a0 = some r) : CallOK Tryd.prog 66 [.imm (.st (.pair tI (.pair tI (.sl (.st (.pair tI (.pair tI (.pair tI tI)))))))) a0] [⟨false, .bool, r⟩] [] := by
  unfold impl_ValidGrammar at hr
  refine CallOK.of_body (ts := [(false, .bool)]) Tryd.func66 rfl (by kernel_rfl) (Nat.le_of_ble_eq_true (by kernel_rfl)) fun cx hP hN hO hF => ?_
  have hO : cx.own.map Prod.fst = [] := hO
  have hX := CxIs.mk hP hN hO
  have hF := hF rfl
  show HT cx ⟨[(0, .agg [iC a0.1, iC a0.2.1, .dat (.sl (.st (.pair tI (.pair tI (.pair tI tI))))) a0.2.2])], [], 0⟩ _ _
  refine HT.rg2 (oHs 2) ⟨[(1, pV 0 0)], [(0, .box [iC a0.1, iC a0.2.1, .dat (.sl (.st (.pair tI (.pair tI (.pair tI tI))))) a0.2.2])], 1⟩ hX (by kernel_rfl) allNil ?_
  refine HT.seq ?_
  obtain ⟨v1', hT3, hr⟩ := of_bind hr
  refine HT.join (fun (v1 : Bool) => ⟨[(1, pV 0 0), (21, bV v1)], [(0, .box [iC a0.1, iC a0.2.1, .dat (.sl (.st (.pair tI (.pair tI (.pair tI tI))))) a0.2.2])], 1⟩) (fun v => v = v1') (fun v1 hv2 => ?_) (fun cont => ?_)
  · subst hv2
    rcases of_bif hr with ⟨hb4, hr⟩ | ⟨hb4, hr⟩
    · refine HT.cond1 rfl hb4 ?_
      refine HT.rg2 [oH] ⟨[(2, bV false)], [], 1⟩ hX (by kernel_rfl) allNil ?_
      have hr := of_some hr
      subst hr
      exact HT.ret (qThenR ⟨[bV false], [], [], by kernel_rfl, by kernel_rfl, rfl, by kernel_rfl, by kernel_rfl, trivial⟩)
    · refine HT.cond0 rfl hb4 ?_
      refine HT.skip (qThen ?_)
      refine HT.seq ?_
      refine HT.rg2 (oHs 4) ⟨[(1, pV 0 0), (23, .one (.dat (.sl (.st (.pair tI (.pair tI (.pair tI tI))))) a0.2.2)), (24, iV (lenI a0.2.2)), (25, iV (0 : Int))], [(0, .box [iC a0.1, iC a0.2.1, .dat (.sl (.st (.pair tI (.pair tI (.pair tI tI))))) a0.2.2])], 1⟩ hX (by kernel_rfl) allNil ?_
      refine HT.block ?_
      obtain ⟨r6, hL33, hr⟩ := of_bind hr
      refine HT.loopL (fun (s5 : Int) => ⟨[(1, pV 0 0), (23, .one (.dat (.sl (.st (.pair tI (.pair tI (.pair tI tI))))) a0.2.2)), (24, iV (lenI a0.2.2)), (25, iV s5)], [(0, .box [iC a0.1, iC a0.2.1, .dat (.sl (.st (.pair tI (.pair tI (.pair tI tI))))) a0.2.2])], 1⟩) (fun (r6 : Unit ⊕ Unit) => match r6 with | .inl r7 => (.exit 0, ⟨[], [], 0⟩) | .inr r8 => (.ret, ⟨[(2, bV false)], [], 0⟩)) (Le.re [(0, 0)] [] hX (by kernel_rfl)) hL33 ?_ (fun s5 x9 hx10 hk11 => ?_)
      · rcases r6 with r7 | r8
        · refine (qBlockX (qThen ?_))
          refine HT.rg2 [oH] ⟨[(2, bV true)], [], 0⟩ hX (by kernel_rfl) allNil ?_
          have hr := of_some hr
          subst hr
          exact HT.ret ⟨[bV true], [], [], by kernel_rfl, by kernel_rfl, rfl, by kernel_rfl, by kernel_rfl, trivial⟩
        · have hr := of_some hr
          subst hr
          exact (qBlockR (qThenR ⟨[bV false], [], [], by kernel_rfl, by kernel_rfl, rfl, by kernel_rfl, by kernel_rfl, trivial⟩))
      · refine HT.rg2 [oH] ⟨[(1, pV 0 0), (23, .one (.dat (.sl (.st (.pair tI (.pair tI (.pair tI tI))))) a0.2.2)), (24, iV (lenI a0.2.2)), (25, iV s5), (26, bV (decide (s5 < (lenI a0.2.2))))], [(0, .box [iC a0.1, iC a0.2.1, .dat (.sl (.st (.pair tI (.pair tI (.pair tI tI))))) a0.2.2])], 1⟩ hX (by kernel_rfl) allNil ?_
        refine HT.seq ?_
        rcases of_bif hx10 with ⟨hb12, hx10⟩ | ⟨hb12, hx10⟩
        · refine HT.cond1 rfl hb12 ?_
          refine HT.skip (qThen ?_)
          refine HT.seq ?_
          refine HT.block ?_
          obtain ⟨hg13, hx10⟩ := of_guard hx10
          refine HT.rg2 (oHs 4) ⟨[(1, pV 0 0), (4, pV 1 0), (23, .one (.dat (.sl (.st (.pair tI (.pair tI (.pair tI tI))))) a0.2.2)), (24, iV (lenI a0.2.2)), (25, iV s5)], [(1, .box [iC ((List.getD a0.2.2 (Int.toNat s5) ((0 : Int), (0 : Int), (0 : Int), (0 : Int))).1), iC (((List.getD a0.2.2 (Int.toNat s5) ((0 : Int), (0 : Int), (0 : Int), (0 : Int))).2).1), iC ((((List.getD a0.2.2 (Int.toNat s5) ((0 : Int), (0 : Int), (0 : Int), (0 : Int))).2).2).1), iC ((((List.getD a0.2.2 (Int.toNat s5) ((0 : Int), (0 : Int), (0 : Int), (0 : Int))).2).2).2)]), (0, .box [iC a0.1, iC a0.2.1, .dat (.sl (.st (.pair tI (.pair tI (.pair tI tI))))) a0.2.2])], 2⟩ hX (by kernel_rfl) (allCons hg13 allNil) ?_
          refine HT.rg2 (oHs 4) ⟨[(1, pV 0 0), (4, pV 1 0), (5, iV (wsub .i64 a0.1 (1 : Int))), (23, .one (.dat (.sl (.st (.pair tI (.pair tI (.pair tI tI))))) a0.2.2)), (24, iV (lenI a0.2.2)), (25, iV s5)], [(1, .box [iC ((List.getD a0.2.2 (Int.toNat s5) ((0 : Int), (0 : Int), (0 : Int), (0 : Int))).1), iC (((List.getD a0.2.2 (Int.toNat s5) ((0 : Int), (0 : Int), (0 : Int), (0 : Int))).2).1), iC ((((List.getD a0.2.2 (Int.toNat s5) ((0 : Int), (0 : Int), (0 : Int), (0 : Int))).2).2).1), iC ((((List.getD a0.2.2 (Int.toNat s5) ((0 : Int), (0 : Int), (0 : Int), (0 : Int))).2).2).2)]), (0, .box [iC a0.1, iC a0.2.1, .dat (.sl (.st (.pair tI (.pair tI (.pair tI tI))))) a0.2.2])], 2⟩ hX (by kernel_rfl) allNil ?_
          obtain ⟨v14', hT16, hx10⟩ := of_bind hx10
          refine HT.join (fun (v14 : Int) => ⟨[(1, pV 0 0), (4, pV 1 0), (5, iV v14), (23, .one (.dat (.sl (.st (.pair tI (.pair tI (.pair tI tI))))) a0.2.2)), (24, iV (lenI a0.2.2)), (25, iV s5)], [(0, .box [iC a0.1, iC a0.2.1, .dat (.sl (.st (.pair tI (.pair tI (.pair tI tI))))) a0.2.2]), (1, .box [iC ((List.getD a0.2.2 (Int.toNat s5) ((0 : Int), (0 : Int), (0 : Int), (0 : Int))).1), iC (((List.getD a0.2.2 (Int.toNat s5) ((0 : Int), (0 : Int), (0 : Int), (0 : Int))).2).1), iC ((((List.getD a0.2.2 (Int.toNat s5) ((0 : Int), (0 : Int), (0 : Int), (0 : Int))).2).2).1), iC ((((List.getD a0.2.2 (Int.toNat s5) ((0 : Int), (0 : Int), (0 : Int), (0 : Int))).2).2).2)])], 2⟩) (fun v => v = v14') (fun v14 hv15 => ?_) (fun cont => ?_)
          · subst hv15
            obtain ⟨v17', hT19, hx10⟩ := of_bind hx10
            refine HT.join (fun (v17 : Bool) => ⟨[(1, pV 0 0), (23, .one (.dat (.sl (.st (.pair tI (.pair tI (.pair tI tI))))) a0.2.2)), (24, iV (lenI a0.2.2)), (25, iV s5), (66, bV v17)], [(0, .box [iC a0.1, iC a0.2.1, .dat (.sl (.st (.pair tI (.pair tI (.pair tI tI))))) a0.2.2])], 1⟩) (fun v => v = v17') (fun v17 hv18 => ?_) (fun cont => ?_)
            · subst hv18
              rcases of_bif hx10 with ⟨hb20, hx10⟩ | ⟨hb20, hx10⟩
              · refine HT.cond1 rfl hb20 ?_
                refine HT.rg2 [oH] ⟨[(2, bV false)], [], 1⟩ hX (by kernel_rfl) allNil ?_
                have hx10 := of_some hx10
                subst hx10
                exact HT.retL (Le.re [] [] hX (by kernel_rfl)) (qBlockR (qThenR (qLoopR (hk11 (.inr ()) rfl))))
              · refine HT.cond0 rfl hb20 ?_
                refine HT.skip (qBlock (qThen ?_))
                have hx10 := of_some hx10
                subst hx10
                exact HT.rgK (oHs 2) [(0, 0)] [] hX (by kernel_rfl) allNil (fun _ h => (qLoopN ⟨(wadd .i64 s5 (1 : Int)), rfl, h⟩))
            · obtain ⟨y21, hc22, hT19⟩ := of_bind hT19
              rcases of_bif hT19 with ⟨hb23, hT19⟩ | ⟨hb23, hT19⟩
              · exact HT.rgK [oH, oH, oH, oH, oH, ⟨none, .call [.imm tI, .imm tI, .imm tI] [⟨false, .bool, y21⟩] []⟩, oH, oH, ⟨some true, .no⟩, ⟨some true, .no⟩, ⟨some true, .no⟩, ⟨some true, .no⟩, ⟨some true, .no⟩, ⟨none, .tv true⟩, oH, ⟨some true, .no⟩, ⟨some true, .no⟩, ⟨some true, .no⟩, ⟨some true, .no⟩, ⟨some true, .no⟩, ⟨some true, .no⟩, ⟨some true, .no⟩, ⟨none, .tv true⟩, oH, ⟨some true, .no⟩, ⟨some true, .no⟩, ⟨some true, .no⟩, ⟨some true, .no⟩, ⟨none, .tv true⟩] [(0, 0)] [] hX (by kernel_rfl) (allCons (f106_ok hc22) (allCons hb23 (allCons hb23 (allCons hb23 (allCons hb23 (allCons hb23 (allCons hb23 (allCons (rfl : true = true) (allCons (rfl : true = true) (allCons (rfl : true = true) (allCons (rfl : true = true) (allCons (rfl : true = true) (allCons (rfl : true = true) (allCons (rfl : true = true) (allCons (rfl : true = true) (allCons (rfl : true = true) (allCons (rfl : true = true) (allCons (rfl : true = true) (allCons (rfl : true = true) (allCons (rfl : true = true) allNil)))))))))))))))))))) (fun _ h => (qThen (h.ht (cont true (of_some hT19)))))
              · obtain ⟨y24, hc25, hT19⟩ := of_bind hT19
                rcases of_bif hT19 with ⟨hb26, hT19⟩ | ⟨hb26, hT19⟩
                · exact HT.rgK [oH, oH, oH, oH, oH, ⟨none, .call [.imm tI, .imm tI, .imm tI] [⟨false, .bool, y21⟩] []⟩, oH, oH, ⟨some false, .no⟩, ⟨some false, .no⟩, ⟨some false, .no⟩, ⟨some false, .call [.imm tI, .imm tI, .imm tI] [⟨false, .bool, y24⟩] []⟩, ⟨some false, .no⟩, ⟨none, .tv false⟩, oH, ⟨some true, .no⟩, ⟨some true, .no⟩, ⟨some true, .no⟩, ⟨some true, .no⟩, ⟨some true, .no⟩, ⟨some true, .no⟩, ⟨some true, .no⟩, ⟨none, .tv true⟩, oH, ⟨some true, .no⟩, ⟨some true, .no⟩, ⟨some true, .no⟩, ⟨some true, .no⟩, ⟨none, .tv true⟩] [(0, 0)] [] hX (by kernel_rfl) (allCons (f106_ok hc22) (allCons hb23 (allCons hb23 (allCons hb23 (allCons hb23 (allCons (f106_ok hc25) (allCons hb23 (allCons hb23 (allCons hb26 (allCons hb26 (allCons hb26 (allCons hb26 (allCons hb26 (allCons hb26 (allCons hb26 (allCons hb26 (allCons (rfl : true = true) (allCons (rfl : true = true) (allCons (rfl : true = true) (allCons (rfl : true = true) (allCons (rfl : true = true) allNil))))))))))))))))))))) (fun _ h => (qThen (h.ht (cont true (of_some hT19)))))
                · obtain ⟨y27, hc28, hT19⟩ := of_bind hT19
                  rcases of_bif hT19 with ⟨hb29, hT19⟩ | ⟨hb29, hT19⟩
                  · exact HT.rgK [oH, oH, oH, oH, oH, ⟨none, .call [.imm tI, .imm tI, .imm tI] [⟨false, .bool, y21⟩] []⟩, oH, oH, ⟨some false, .no⟩, ⟨some false, .no⟩, ⟨some false, .no⟩, ⟨some false, .call [.imm tI, .imm tI, .imm tI] [⟨false, .bool, y24⟩] []⟩, ⟨some false, .no⟩, ⟨none, .tv false⟩, oH, ⟨some false, .no⟩, ⟨some false, .no⟩, ⟨some false, .no⟩, ⟨some false, .no⟩, ⟨some false, .no⟩, ⟨some false, .call [.imm tI, .imm tI, .imm tI] [⟨false, .bool, y27⟩] []⟩, ⟨some false, .no⟩, ⟨none, .tv false⟩, oH, ⟨some true, .no⟩, ⟨some true, .no⟩, ⟨some true, .no⟩, ⟨some true, .no⟩, ⟨none, .tv true⟩] [(0, 0)] [] hX (by kernel_rfl) (allCons (f106_ok hc22) (allCons hb23 (allCons hb23 (allCons hb23 (allCons hb23 (allCons (f106_ok hc25) (allCons hb23 (allCons hb23 (allCons hb26 (allCons hb26 (allCons hb26 (allCons hb26 (allCons hb26 (allCons hb26 (allCons (f106_ok hc28) (allCons hb26 (allCons hb26 (allCons hb29 (allCons hb29 (allCons hb29 (allCons hb29 (allCons hb29 allNil)))))))))))))))))))))) (fun _ h => (qThen (h.ht (cont true (of_some hT19)))))
                  · obtain ⟨y30, hc31, hT19⟩ := of_bind hT19
                    exact HT.rgK [oH, oH, oH, oH, oH, ⟨none, .call [.imm tI, .imm tI, .imm tI] [⟨false, .bool, y21⟩] []⟩, oH, oH, ⟨some false, .no⟩, ⟨some false, .no⟩, ⟨some false, .no⟩, ⟨some false, .call [.imm tI, .imm tI, .imm tI] [⟨false, .bool, y24⟩] []⟩, ⟨some false, .no⟩, ⟨none, .tv false⟩, oH, ⟨some false, .no⟩, ⟨some false, .no⟩, ⟨some false, .no⟩, ⟨some false, .no⟩, ⟨some false, .no⟩, ⟨some false, .call [.imm tI, .imm tI, .imm tI] [⟨false, .bool, y27⟩] []⟩, ⟨some false, .no⟩, ⟨none, .tv false⟩, oH, ⟨some false, .no⟩, ⟨some false, .no⟩, ⟨some false, .call [.imm tI, .imm tI, .imm tI] [⟨false, .bool, y30⟩] []⟩, ⟨some false, .no⟩, ⟨none, .tv false⟩] [(0, 0)] [] hX (by kernel_rfl) (allCons (f106_ok hc22) (allCons hb23 (allCons hb23 (allCons hb23 (allCons hb23 (allCons (f106_ok hc25) (allCons hb23 (allCons hb23 (allCons hb26 (allCons hb26 (allCons hb26 (allCons hb26 (allCons hb26 (allCons hb26 (allCons (f106_ok hc28) (allCons hb26 (allCons hb26 (allCons hb29 (allCons hb29 (allCons hb29 (allCons (f106_ok hc31) (allCons hb29 (allCons hb29 allNil))))))))))))))))))))))) (fun _ h => (qThen (h.ht (cont (!y30) (of_some hT19)))))
          · refine HT.rg2 (oHs 3) ⟨[(1, pV 0 0), (4, pV 1 0), (5, iV (wsub .i64 a0.1 (1 : Int))), (23, .one (.dat (.sl (.st (.pair tI (.pair tI (.pair tI tI))))) a0.2.2)), (24, iV (lenI a0.2.2)), (25, iV s5), (34, bV ((((List.getD a0.2.2 (Int.toNat s5) ((0 : Int), (0 : Int), (0 : Int), (0 : Int))).2).2).1 == (-1 : Int)))], [(1, .box [iC ((List.getD a0.2.2 (Int.toNat s5) ((0 : Int), (0 : Int), (0 : Int), (0 : Int))).1), iC (((List.getD a0.2.2 (Int.toNat s5) ((0 : Int), (0 : Int), (0 : Int), (0 : Int))).2).1), iC ((((List.getD a0.2.2 (Int.toNat s5) ((0 : Int), (0 : Int), (0 : Int), (0 : Int))).2).2).1), iC ((((List.getD a0.2.2 (Int.toNat s5) ((0 : Int), (0 : Int), (0 : Int), (0 : Int))).2).2).2)]), (0, .box [iC a0.1, iC a0.2.1, .dat (.sl (.st (.pair tI (.pair tI (.pair tI tI))))) a0.2.2])], 2⟩ hX (by kernel_rfl) allNil ?_
            rcases of_bif hT16 with ⟨hb32, hT16⟩ | ⟨hb32, hT16⟩
            · refine HT.cond1 rfl hb32 ?_
              exact HT.rgK (oHs 4) [(0, 0), (1, 1)] [] hX (by kernel_rfl) allNil (fun _ h => (qThen (h.ht (cont (wsub .i64 a0.2.1 (1 : Int)) (of_some hT16)))))
            · refine HT.cond0 rfl hb32 ?_
              refine HT.skip (qThen ?_)
              exact (Le.re [(0, 0), (1, 1)] [] hX (by kernel_rfl)).ht (cont (wsub .i64 a0.1 (1 : Int)) (of_some hT16))
        · refine HT.cond0 rfl hb12 ?_
          have hx10 := of_some hx10
          subst hx10
          exact HT.exitL (Le.re [] [] hX (by kernel_rfl)) (qThenE (qLoopE (hk11 (.inl ()) rfl)))
  · obtain ⟨y34, hc35, hT3⟩ := of_bind hT3
    rcases of_bif hT3 with ⟨hb36, hT3⟩ | ⟨hb36, hT3⟩
    · exact HT.rgK [oH, oH, ⟨none, .call [.imm tI, .imm tI, .imm tI] [⟨false, .bool, y34⟩] []⟩, oH, oH, ⟨some true, .no⟩, ⟨some true, .no⟩, ⟨some true, .no⟩, ⟨some true, .no⟩, ⟨none, .tv true⟩, oH, ⟨some true, .no⟩, ⟨some true, .no⟩, ⟨some true, .no⟩, ⟨some true, .no⟩, ⟨none, .tv true⟩] [(0, 0)] [] hX (by kernel_rfl) (allCons (f106_ok hc35) (allCons hb36 (allCons hb36 (allCons hb36 (allCons hb36 (allCons hb36 (allCons (rfl : true = true) (allCons (rfl : true = true) (allCons (rfl : true = true) (allCons (rfl : true = true) (allCons (rfl : true = true) allNil))))))))))) (fun _ h => (qThen (h.ht (cont true (of_some hT3)))))
    · obtain ⟨y37, hc38, hT3⟩ := of_bind hT3
      rcases of_bif hT3 with ⟨hb39, hT3⟩ | ⟨hb39, hT3⟩
      · exact HT.rgK [oH, oH, ⟨none, .call [.imm tI, .imm tI, .imm tI] [⟨false, .bool, y34⟩] []⟩, oH, oH, ⟨some false, .no⟩, ⟨some false, .no⟩, ⟨some false, .call [.imm tI, .imm tI, .imm tI] [⟨false, .bool, y37⟩] []⟩, ⟨some false, .no⟩, ⟨none, .tv false⟩, oH, ⟨some true, .no⟩, ⟨some true, .no⟩, ⟨some true, .no⟩, ⟨some true, .no⟩, ⟨none, .tv true⟩] [(0, 0)] [] hX (by kernel_rfl) (allCons (f106_ok hc35) (allCons hb36 (allCons hb36 (allCons hb36 (allCons (f106_ok hc38) (allCons hb36 (allCons hb36 (allCons hb39 (allCons hb39 (allCons hb39 (allCons hb39 (allCons hb39 allNil)))))))))))) (fun _ h => (qThen (h.ht (cont true (of_some hT3)))))
      · exact HT.rgK [oH, oH, ⟨none, .call [.imm tI, .imm tI, .imm tI] [⟨false, .bool, y34⟩] []⟩, oH, oH, ⟨some false, .no⟩, ⟨some false, .no⟩, ⟨some false, .call [.imm tI, .imm tI, .imm tI] [⟨false, .bool, y37⟩] []⟩, ⟨some false, .no⟩, ⟨none, .tv false⟩, oH, ⟨some false, .no⟩, ⟨some false, .no⟩, ⟨some false, .no⟩, ⟨some false, .no⟩, ⟨none, .tv false⟩] [(0, 0)] [] hX (by kernel_rfl) (allCons (f106_ok hc35) (allCons hb36 (allCons hb36 (allCons hb36 (allCons (f106_ok hc38) (allCons hb36 (allCons hb36 (allCons hb39 (allCons hb39 (allCons hb39 (allCons hb39 (allCons hb39 allNil)))))))))))) (fun _ h => (qThen (h.ht (cont (decide ((lenI a0.2.2) > (32 : Int))) (of_some hT3)))))

noncomputable def strings_Join (a0 : List (List UInt8)) (a1 : List UInt8) : Option (List UInt8) :=
  guardP (a0.length ≤ 140737488355328 ∧ (Lib.join a0 a1).length ≤ 140737488355328) <| some (Lib.join a0 a1)

theorem f115_ok {a0 : List (List UInt8)} {a1 : List UInt8} {r : List UInt8} (h : strings_Join a0 a1 = some r) : CallOK Tryd.prog 115 [.imm (.sl .str) a0, .imm .str a1] [⟨false, .str, r⟩] [] := by
  obtain ⟨hg, h⟩ := of_guard h
  have h := of_some h
  subst h
  have e : (a0.map fun x => ByteArray.mk x.toArray).map (·.data.toList) = a0 := by
    rw [List.map_map]
    conv => rhs; rw [← List.map_id a0]
    rfl
  refine join_ok ⟨_, Tryd.func115, by kernel_rfl, by kernel_rfl⟩ (fun e a c w => by subst e; exact Tryd.strings_Join_none a c _ w) (fun bk o c w hcells hbk hcap => ?_)
  have := Tryd.strings_Join bk o c (a0.map fun x => ByteArray.mk x.toArray) ⟨a1.toArray⟩ w hcells hbk (by rw [List.length_map]; exact hg.1) (by rw [List.length_map]; exact hcap) (by rw [e]; exact hg.2)
  rw [List.length_map, e] at this
  exact this

noncomputable def impl_isValue (a0 : Int) : Option (Bool) :=
  (impl_within a0 (-1000000000000000 : Int) (1000000000000000 : Int)).bind fun y1 =>
  some y1

theorem f147_ok {a0 : Int} {r : Bool} (hr : impl_isValue a0 = some r) : CallOK Tryd.prog 147 [.imm tI a0] [⟨false, .bool, r⟩] [] := by
  unfold impl_isValue at hr
  refine CallOK.of_body (ts := [(false, .bool)]) Tryd.func147 rfl (by kernel_rfl) (Nat.le_of_ble_eq_true (by kernel_rfl)) fun cx hP hN hO hF => ?_
  have hO : cx.own.map Prod.fst = [] := hO
  have hX := CxIs.mk hP hN hO
  have hF := hF rfl
  show HT cx ⟨[(0, iV a0)], [], 0⟩ _ _
  refine HT.rg2 [oH] ⟨[(0, iV a0)], [], 0⟩ hX (by kernel_rfl) allNil ?_
  obtain ⟨y1, hc2, hr⟩ := of_bind hr
  refine HT.rg2 [oH, ⟨none, .call [.imm tI, .imm tI, .imm tI] [⟨false, .bool, y1⟩] []⟩, oH] ⟨[(2, bV y1)], [], 0⟩ hX (by kernel_rfl) (allCons (f106_ok hc2) allNil) ?_
  have hr := of_some hr
  subst hr
  exact HT.ret ⟨[bV y1], [], [], by kernel_rfl, by kernel_rfl, rfl, by kernel_rfl, by kernel_rfl, trivial⟩

noncomputable def impl_areValues_B1 (a0 : List Int) (s1 : Int) : Option ((Int) ⊕ (Unit ⊕ Unit)) :=
  bif (decide (s1 < (lenI a0))) then
    guardP ((0 : Int) ≤ s1 ∧ s1 < lenI a0) (
      (impl_isValue (List.getD a0 (Int.toNat s1) (0 : Int))).bind fun y10 =>
      bif (!y10) then
        some (.inr (.inr ()))
      else
        some (.inl (wadd .i64 s1 (1 : Int))))
  else
    some (.inr (.inl ()))

noncomputable def impl_areValues (a0 : List Int) : Option (Bool) :=
  (rounds (impl_areValues_B1 a0) (0 : Int)).bind fun r2 => match r2 with
    | .inl r3 =>
      some (decide ((lenI a0) ≤ (64 : Int)))
    | .inr r4 =>
      some false

theorem f133_ok {a0 : List Int} {r : Bool} (hr : impl_areValues a0 = some r) : CallOK Tryd.prog 133 [.imm tLI a0] [⟨false, .bool, r⟩] [] := by
  unfold impl_areValues at hr
  refine CallOK.of_body (ts := [(false, .bool)]) Tryd.func133 rfl (by kernel_rfl) (Nat.le_of_ble_eq_true (by kernel_rfl)) fun cx hP hN hO hF => ?_
  have hO : cx.own.map Prod.fst = [] := hO
  have hX := CxIs.mk hP hN hO
  have hF := hF rfl
  show HT cx ⟨[(0, nV a0)], [], 0⟩ _ _
  refine HT.rg2 [oH] ⟨[(0, nV a0)], [], 0⟩ hX (by kernel_rfl) allNil ?_
  refine HT.seq ?_
  refine HT.rg2 (oHs 3) ⟨[(0, nV a0), (5, nV a0), (6, iV (lenI a0)), (7, iV (0 : Int))], [], 0⟩ hX (by kernel_rfl) allNil ?_
  refine HT.block ?_
  obtain ⟨r2, hL13, hr⟩ := of_bind hr
  refine HT.loopL (fun (s1 : Int) => ⟨[(0, nV a0), (5, nV a0), (6, iV (lenI a0)), (7, iV s1)], [], 0⟩) (fun (r2 : Unit ⊕ Unit) => match r2 with | .inl r3 => (.exit 0, ⟨[(0, nV a0)], [], 0⟩) | .inr r4 => (.ret, ⟨[(2, bV false)], [], 0⟩)) (Le.re [] [] hX (by kernel_rfl)) hL13 ?_ (fun s1 x5 hx6 hk7 => ?_)
  · rcases r2 with r3 | r4
    · refine (qBlockX (qThen ?_))
      refine HT.rg2 (oHs 4) ⟨[(2, bV (decide ((lenI a0) ≤ (64 : Int))))], [], 0⟩ hX (by kernel_rfl) allNil ?_
      have hr := of_some hr
      subst hr
      exact HT.ret ⟨[bV (decide ((lenI a0) ≤ (64 : Int)))], [], [], by kernel_rfl, by kernel_rfl, rfl, by kernel_rfl, by kernel_rfl, trivial⟩
    · have hr := of_some hr
      subst hr
      exact (qBlockR (qThenR ⟨[bV false], [], [], by kernel_rfl, by kernel_rfl, rfl, by kernel_rfl, by kernel_rfl, trivial⟩))
  · refine HT.rg2 [oH] ⟨[(0, nV a0), (5, nV a0), (6, iV (lenI a0)), (7, iV s1), (8, bV (decide (s1 < (lenI a0))))], [], 0⟩ hX (by kernel_rfl) allNil ?_
    refine HT.seq ?_
    rcases of_bif hx6 with ⟨hb8, hx6⟩ | ⟨hb8, hx6⟩
    · refine HT.cond1 rfl hb8 ?_
      refine HT.skip (qThen ?_)
      refine HT.seq ?_
      refine HT.block ?_
      obtain ⟨hg9, hx6⟩ := of_guard hx6
      refine HT.rg2 (oHs 3) ⟨[(0, nV a0), (4, iV (List.getD a0 (Int.toNat s1) (0 : Int))), (5, nV a0), (6, iV (lenI a0)), (7, iV s1)], [], 0⟩ hX (by kernel_rfl) (allCons hg9 allNil) ?_
      obtain ⟨y10, hc11, hx6⟩ := of_bind hx6
      refine HT.rg2 [oH, ⟨none, .call [.imm tI] [⟨false, .bool, y10⟩] []⟩, oH] ⟨[(0, nV a0), (5, nV a0), (6, iV (lenI a0)), (7, iV s1), (13, bV (!y10))], [], 0⟩ hX (by kernel_rfl) (allCons (f147_ok hc11) allNil) ?_
      rcases of_bif hx6 with ⟨hb12, hx6⟩ | ⟨hb12, hx6⟩
      · refine HT.cond1 rfl hb12 ?_
        refine HT.rg2 [oH] ⟨[(2, bV false)], [], 0⟩ hX (by kernel_rfl) allNil ?_
        have hx6 := of_some hx6
        subst hx6
        exact HT.retL (Le.re [] [] hX (by kernel_rfl)) (qBlockR (qThenR (qLoopR (hk7 (.inr ()) rfl))))
      · refine HT.cond0 rfl hb12 ?_
        refine HT.skip (qBlock (qThen ?_))
        have hx6 := of_some hx6
        subst hx6
        exact HT.rgK (oHs 2) [] [] hX (by kernel_rfl) allNil (fun _ h => (qLoopN ⟨(wadd .i64 s1 (1 : Int)), rfl, h⟩))
    · refine HT.cond0 rfl hb8 ?_
      have hx6 := of_some hx6
      subst hx6
      exact HT.exitL (Le.re [] [] hX (by kernel_rfl)) (qThenE (qLoopE (hk7 (.inl ()) rfl)))

noncomputable def impl_joined (a0 : List (List UInt8)) : Option (List UInt8) :=
  bif ((lenI a0) == (0 : Int)) then
    some ([110, 111, 110, 101] : List UInt8)
  else
    (strings_Join a0 ([44] : List UInt8)).bind fun y2 =>
    some y2

theorem f148_ok {a0 : List (List UInt8)} {r : List UInt8} (hr : impl_joined a0 = some r) : CallOK Tryd.prog 148 [.imm (.sl .str) a0] [⟨false, .str, r⟩] [] := by
  unfold impl_joined at hr
  refine CallOK.of_body (ts := [(false, .str)]) Tryd.func148 rfl (by kernel_rfl) (Nat.le_of_ble_eq_true (by kernel_rfl)) fun cx hP hN hO hF => ?_
  have hO : cx.own.map Prod.fst = [] := hO
  have hX := CxIs.mk hP hN hO
  have hF := hF rfl
  show HT cx ⟨[(0, .one (.dat (.sl .str) a0))], [], 0⟩ _ _
  refine HT.rg2 [oH] ⟨[(0, .one (.dat (.sl .str) a0))], [], 0⟩ hX (by kernel_rfl) allNil ?_
  refine HT.seq ?_
  refine HT.rg2 (oHs 3) ⟨[(0, .one (.dat (.sl .str) a0)), (5, bV ((lenI a0) == (0 : Int)))], [], 0⟩ hX (by kernel_rfl) allNil ?_
  rcases of_bif hr with ⟨hb1, hr⟩ | ⟨hb1, hr⟩
  · refine HT.cond1 rfl hb1 ?_
    refine HT.rg2 [oH] ⟨[(2, .one (.dat .str ([110, 111, 110, 101] : List UInt8)))], [], 0⟩ hX (by kernel_rfl) allNil ?_
    have hr := of_some hr
    subst hr
    exact HT.ret (qThenR ⟨[.one (.dat .str ([110, 111, 110, 101] : List UInt8))], [], [], by kernel_rfl, by kernel_rfl, rfl, by kernel_rfl, by kernel_rfl, trivial⟩)
  · refine HT.cond0 rfl hb1 ?_
    refine HT.skip (qThen ?_)
    obtain ⟨y2, hc3, hr⟩ := of_bind hr
    refine HT.rg2 [oH, ⟨none, .call [.imm (.sl .str), .imm .str] [⟨false, .str, y2⟩] []⟩, oH] ⟨[(2, .one (.dat .str y2))], [], 0⟩ hX (by kernel_rfl) (allCons (f115_ok hc3) allNil) ?_
    have hr := of_some hr
    subst hr
    exact HT.ret ⟨[.one (.dat .str y2)], [], [], by kernel_rfl, by kernel_rfl, rfl, by kernel_rfl, by kernel_rfl, trivial⟩

theorem tabPow {w : World} {t : TypeId} {fr : Nat × Nat} (h : w.heap[1]? = some (.cells pow10Cells t fr)) : Lib.TabIs Tryd.prog w "internal/strconv.uint64pow10" .u64 Lib.pow10Tab := by
  unfold Lib.TabIs World.var?
  rw [show Tryd.prog.globalNamed "internal/strconv.uint64pow10" = some 1 by kernel_rfl, Option.bind_some, h]
  unfold pow10Cells Lib.pow10Tab
  rw [List.map_map]
  rfl

noncomputable def strconv_FormatInt (a0 : Int) (a1 : Int) : Option (List UInt8) :=
  guardP (a1 = 10 ∧ -9223372036854775808 ≤ a0 ∧ a0 ≤ 9223372036854775807) <| some (Lib.itoa a0)

theorem f108_ok {a0 : Int} {a1 : Int} {r : List UInt8} (h : strconv_FormatInt a0 a1 = some r) : CallOK Tryd.prog 108 [.imm tI a0, .imm tI a1] [⟨false, .str, r⟩] [] := by
  obtain ⟨hg, h⟩ := of_guard h
  have h := of_some h
  subst h
  obtain ⟨rfl, hg⟩ := hg
  have hg : True ∧ _ := ⟨trivial, hg⟩
  exact simple_ok (ps := [⟨tI, a0⟩, ⟨tI, 10⟩]) (rs := [⟨.str, Lib.itoa a0⟩]) ⟨_, Tryd.func108, by kernel_rfl, by kernel_rfl⟩ (by simp [Ty.simple]) (by simp [Ty.simple]) fun w S hgl => by
    have hm : ∃ m, w.cell? ⟨0, 0, none⟩ = some (.int .i64 m) := hgl.1.2
    obtain ⟨m, hm⟩ := hm
    obtain ⟨_, t, fr, ht⟩ := hgl.2
    exact (Tryd.strconv_FormatInt_10 _ hg.2.1 hg.2.2 w (tabPow ht)).mono fun e w' ⟨he, k, os, hw⟩ => ⟨⟨_, he, rfl⟩, hw ▸ Lib.below_grow _ _ (Nat.le_refl _) k os⟩

noncomputable def impl_Decimal (a0 : Int) : Option (List UInt8) :=
  (strconv_FormatInt a0 (10 : Int)).bind fun y1 =>
  some y1

theorem f54_ok {a0 : Int} {r : List UInt8} (hr : impl_Decimal a0 = some r) : CallOK Tryd.prog 54 [.imm tI a0] [⟨false, .str, r⟩] [] := by
  unfold impl_Decimal at hr
  refine CallOK.of_body (ts := [(false, .str)]) Tryd.func54 rfl (by kernel_rfl) (Nat.le_of_ble_eq_true (by kernel_rfl)) fun cx hP hN hO hF => ?_
  have hO : cx.own.map Prod.fst = [] := hO
  have hX := CxIs.mk hP hN hO
  have hF := hF rfl
  show HT cx ⟨[(0, iV a0)], [], 0⟩ _ _
  refine HT.rg2 [oH] ⟨[(0, iV a0)], [], 0⟩ hX (by kernel_rfl) allNil ?_
  obtain ⟨y1, hc2, hr⟩ := of_bind hr
  refine HT.rg2 [oH, ⟨none, .call [.imm tI, .imm tI] [⟨false, .str, y1⟩] []⟩, oH] ⟨[(2, .one (.dat .str y1))], [], 0⟩ hX (by kernel_rfl) (allCons (f108_ok hc2) allNil) ?_
  have hr := of_some hr
  subst hr
  exact HT.ret ⟨[.one (.dat .str y1)], [], [], by kernel_rfl, by kernel_rfl, rfl, by kernel_rfl, by kernel_rfl, trivial⟩

noncomputable def impl_listText_B1 (a0 : List Int) (s1 : Int × List (List UInt8)) : Option ((Int × List (List UInt8)) ⊕ (List (List UInt8))) :=
  bif (decide (s1.1 < (lenI a0))) then
    guardP ((0 : Int) ≤ s1.1 ∧ s1.1 < lenI a0) (
      (impl_Decimal (List.getD a0 (Int.toNat s1.1) (0 : Int))).bind fun y11 =>
      guardP (List.length s1.2 + List.length ([y11] : List (List UInt8)) ≤ appMax) (
        some (.inl ((wadd .i64 s1.1 (1 : Int)), (s1.2 ++ ([y11] : List (List UInt8)))))))
  else
    some (.inr s1.2)

noncomputable def impl_listText (a0 : List Int) : Option (List UInt8) :=
  (rounds (impl_listText_B1 a0) ((0 : Int), ([] : List (List UInt8)))).bind fun r3 =>
  (impl_joined r3).bind fun y4 =>
  some y4

theorem f134_ok {a0 : List Int} {r : List UInt8} (hr : impl_listText a0 = some r) : CallOK Tryd.prog 134 [.imm tLI a0] [⟨false, .str, r⟩] [] := by
  unfold impl_listText at hr
  refine CallOK.of_body (ts := [(false, .str)]) Tryd.func134 rfl (by kernel_rfl) (Nat.le_of_ble_eq_true (by kernel_rfl)) fun cx hP hN hO hF => ?_
  have hO : cx.own.map Prod.fst = [] := hO
  have hX := CxIs.mk hP hN hO
  have hF := hF rfl
  show HT cx ⟨[(0, nV a0)], [], 0⟩ _ _
  refine HT.rg2 [oH] ⟨[(0, nV a0)], [], 0⟩ hX (by kernel_rfl) allNil ?_
  refine HT.rg2 (oHs 2) ⟨[(0, nV a0), (3, .one (.nilS))], [], 0⟩ hX (by kernel_rfl) allNil ?_
  refine HT.seq ?_
  refine HT.rg2 (oHs 3) ⟨[(3, .one (.nilS)), (7, nV a0), (8, iV (lenI a0)), (9, iV (0 : Int))], [], 0⟩ hX (by kernel_rfl) allNil ?_
  refine HT.block ?_
  obtain ⟨r2, hL14, hr⟩ := of_bind hr
  refine HT.loopL (fun (s1 : Int × List (List UInt8)) => ⟨[(3, aV 0), (7, nV a0), (8, iV (lenI a0)), (9, iV s1.1)], [(0, .seq .str s1.2)], 1⟩) (fun (r3 : List (List UInt8)) => (.exit 0, ⟨[(3, aV 0)], [(0, .seq .str r3)], 1⟩)) (Le.re [] [0] hX (by kernel_rfl)) hL14 ?_ (fun s1 x6 hx7 hk8 => ?_)
  · refine (qBlockX (qThen ?_))
    obtain ⟨y4, hc5, hr⟩ := of_bind hr
    refine HT.rg2 [oH, ⟨none, .call [.imm (.sl .str)] [⟨false, .str, y4⟩] []⟩, oH] ⟨[(2, .one (.dat .str y4))], [], 1⟩ hX (by kernel_rfl) (allCons (f148_ok hc5) allNil) ?_
    have hr := of_some hr
    subst hr
    exact HT.ret ⟨[.one (.dat .str y4)], [], [], by kernel_rfl, by kernel_rfl, rfl, by kernel_rfl, by kernel_rfl, trivial⟩
  · refine HT.rg2 [oH] ⟨[(3, aV 0), (7, nV a0), (8, iV (lenI a0)), (9, iV s1.1), (10, bV (decide (s1.1 < (lenI a0))))], [(0, .seq .str s1.2)], 1⟩ hX (by kernel_rfl) allNil ?_
    refine HT.seq ?_
    rcases of_bif hx7 with ⟨hb9, hx7⟩ | ⟨hb9, hx7⟩
    · refine HT.cond1 rfl hb9 ?_
      refine HT.skip (qThen ?_)
      refine HT.seq ?_
      refine HT.block ?_
      obtain ⟨hg10, hx7⟩ := of_guard hx7
      refine HT.rg2 (oHs 3) ⟨[(3, aV 0), (5, iV (List.getD a0 (Int.toNat s1.1) (0 : Int))), (7, nV a0), (8, iV (lenI a0)), (9, iV s1.1)], [(0, .seq .str s1.2)], 1⟩ hX (by kernel_rfl) (allCons hg10 allNil) ?_
      obtain ⟨y11, hc12, hx7⟩ := of_bind hx7
      obtain ⟨hg13, hx7⟩ := of_guard hx7
      refine HT.rgL [oH, oH, ⟨none, .call [.imm tI] [⟨false, .str, y11⟩] []⟩, ⟨none, .ty .str⟩, ⟨none, .ty .str⟩, oH] ⟨[(3, aV 2), (7, nV a0), (8, iV (lenI a0)), (9, iV s1.1)], [(2, .seq .str (s1.2 ++ ([y11] : List (List UInt8))))], 3⟩ hX (by kernel_rfl) (allCons (f54_ok hc12) (allCons hg13 allNil)) (qBlock (qThen ?_))
      have hx7 := of_some hx7
      subst hx7
      exact HT.rgK (oHs 2) [(2, 0)] [] hX (by kernel_rfl) allNil (fun _ h => (qLoopN ⟨((wadd .i64 s1.1 (1 : Int)), (s1.2 ++ ([y11] : List (List UInt8)))), rfl, h⟩))
    · refine HT.cond0 rfl hb9 ?_
      have hx7 := of_some hx7
      subst hx7
      exact HT.exitL (Le.re [(0, 0)] [] hX (by kernel_rfl)) (qThenE (qLoopE (hk8 s1.2 rfl)))

noncomputable def impl_ListText (a0 : List Int) : Option (List UInt8 × Bool) :=
  (impl_areValues a0).bind fun y1 =>
  bif (!y1) then
    some (([] : List UInt8), false)
  else
    (impl_listText a0).bind fun y4 =>
    some (y4, true)

theorem f114_ok {a0 : List Int} {r : List UInt8 × Bool} (hr : impl_ListText a0 = some r) : CallOK Tryd.prog 114 [.imm tLI a0] [⟨false, .str, r.1⟩, ⟨false, .bool, r.2⟩] [] := by
  unfold impl_ListText at hr
  refine CallOK.of_body (ts := [(false, .str), (false, .bool)]) Tryd.func114 rfl (by kernel_rfl) (Nat.le_of_ble_eq_true (by kernel_rfl)) fun cx hP hN hO hF => ?_
  have hO : cx.own.map Prod.fst = [] := hO
  have hX := CxIs.mk hP hN hO
  have hF := hF rfl
  show HT cx ⟨[(0, nV a0)], [], 0⟩ _ _
  refine HT.rg2 (oHs 2) ⟨[(0, nV a0)], [], 0⟩ hX (by kernel_rfl) allNil ?_
  refine HT.seq ?_
  obtain ⟨y1, hc2, hr⟩ := of_bind hr
  refine HT.rg2 [oH, ⟨none, .call [.imm tLI] [⟨false, .bool, y1⟩] []⟩, oH] ⟨[(0, nV a0), (6, bV (!y1))], [], 0⟩ hX (by kernel_rfl) (allCons (f133_ok hc2) allNil) ?_
  rcases of_bif hr with ⟨hb3, hr⟩ | ⟨hb3, hr⟩
  · refine HT.cond1 rfl hb3 ?_
    refine HT.rg2 (oHs 2) ⟨[(2, .one (.dat .str ([] : List UInt8))), (3, bV false)], [], 0⟩ hX (by kernel_rfl) allNil ?_
    have hr := of_some hr
    subst hr
    exact HT.ret (qThenR ⟨[.one (.dat .str ([] : List UInt8)), bV false], [], [], by kernel_rfl, by kernel_rfl, rfl, by kernel_rfl, by kernel_rfl, trivial⟩)
  · refine HT.cond0 rfl hb3 ?_
    refine HT.skip (qThen ?_)
    obtain ⟨y4, hc5, hr⟩ := of_bind hr
    refine HT.rg2 [oH, ⟨none, .call [.imm tLI] [⟨false, .str, y4⟩] []⟩, oH, oH] ⟨[(2, .one (.dat .str y4)), (3, bV true)], [], 0⟩ hX (by kernel_rfl) (allCons (f134_ok hc5) allNil) ?_
    have hr := of_some hr
    subst hr
    exact HT.ret ⟨[.one (.dat .str y4), bV true], [], [], by kernel_rfl, by kernel_rfl, rfl, by kernel_rfl, by kernel_rfl, trivial⟩

noncomputable def impl_listTexts_B1 (a0 : List (List Int)) (s1 : Int × List (List UInt8)) : Option ((Int × List (List UInt8)) ⊕ (List (List UInt8) ⊕ Unit)) :=
  bif (decide (s1.1 < (lenI a0))) then
    guardP ((0 : Int) ≤ s1.1 ∧ s1.1 < lenI a0) (
      (impl_ListText (List.getD a0 (Int.toNat s1.1) ([] : List Int))).bind fun y12 =>
      bif (!y12.2) then
        some (.inr (.inr ()))
      else
        guardP (List.length s1.2 + List.length ([y12.1] : List (List UInt8)) ≤ appMax) (
          some (.inl ((wadd .i64 s1.1 (1 : Int)), (s1.2 ++ ([y12.1] : List (List UInt8)))))))
  else
    some (.inr (.inl s1.2))

noncomputable def impl_listTexts (a0 : List (List Int)) : Option (List UInt8 × Bool) :=
  (rounds (impl_listTexts_B1 a0) ((0 : Int), ([] : List (List UInt8)))).bind fun r2 => match r2 with
    | .inl r3 =>
      (strings_Join r3 ([59] : List UInt8)).bind fun y4 =>
      some (y4, true)
    | .inr r6 =>
      some (([] : List UInt8), false)

theorem f67_ok {a0 : List (List Int)} {r : List UInt8 × Bool} (hr : impl_listTexts a0 = some r) : CallOK Tryd.prog 67 [.imm (.sl tLI) a0] [⟨false, .str, r.1⟩, ⟨false, .bool, r.2⟩] [] := by
  unfold impl_listTexts at hr
  refine CallOK.of_body (ts := [(false, .str), (false, .bool)]) Tryd.func67 rfl (by kernel_rfl) (Nat.le_of_ble_eq_true (by kernel_rfl)) fun cx hP hN hO hF => ?_
  have hO : cx.own.map Prod.fst = [] := hO
  have hX := CxIs.mk hP hN hO
  have hF := hF rfl
  show HT cx ⟨[(0, .one (.dat (.sl tLI) a0))], [], 0⟩ _ _
  refine HT.rg2 (oHs 2) ⟨[(0, .one (.dat (.sl tLI) a0))], [], 0⟩ hX (by kernel_rfl) allNil ?_
  refine HT.rg2 (oHs 2) ⟨[(0, .one (.dat (.sl tLI) a0)), (4, .one (.nilS))], [], 0⟩ hX (by kernel_rfl) allNil ?_
  refine HT.seq ?_
  refine HT.rg2 (oHs 3) ⟨[(4, .one (.nilS)), (10, .one (.dat (.sl tLI) a0)), (11, iV (lenI a0)), (12, iV (0 : Int))], [], 0⟩ hX (by kernel_rfl) allNil ?_
  refine HT.block ?_
  obtain ⟨r2, hL16, hr⟩ := of_bind hr
  refine HT.loopL (fun (s1 : Int × List (List UInt8)) => ⟨[(4, aV 0), (10, .one (.dat (.sl tLI) a0)), (11, iV (lenI a0)), (12, iV s1.1)], [(0, .seq .str s1.2)], 1⟩) (fun (r2 : List (List UInt8) ⊕ Unit) => match r2 with | .inl r3 => (.exit 0, ⟨[(4, aV 0)], [(0, .seq .str r3)], 1⟩) | .inr r6 => (.ret, ⟨[(2, .one (.dat .str ([] : List UInt8))), (3, bV false)], [], 0⟩)) (Le.re [] [0] hX (by kernel_rfl)) hL16 ?_ (fun s1 x7 hx8 hk9 => ?_)
  · rcases r2 with r3 | r6
    · refine (qBlockX (qThen ?_))
      obtain ⟨y4, hc5, hr⟩ := of_bind hr
      refine HT.rg2 [oH, ⟨none, .call [.imm (.sl .str), .imm .str] [⟨false, .str, y4⟩] []⟩, oH, oH] ⟨[(2, .one (.dat .str y4)), (3, bV true)], [], 1⟩ hX (by kernel_rfl) (allCons (f115_ok hc5) allNil) ?_
      have hr := of_some hr
      subst hr
      exact HT.ret ⟨[.one (.dat .str y4), bV true], [], [], by kernel_rfl, by kernel_rfl, rfl, by kernel_rfl, by kernel_rfl, trivial⟩
    · have hr := of_some hr
      subst hr
      exact (qBlockR (qThenR ⟨[.one (.dat .str ([] : List UInt8)), bV false], [], [], by kernel_rfl, by kernel_rfl, rfl, by kernel_rfl, by kernel_rfl, trivial⟩))
  · refine HT.rg2 [oH] ⟨[(4, aV 0), (10, .one (.dat (.sl tLI) a0)), (11, iV (lenI a0)), (12, iV s1.1), (13, bV (decide (s1.1 < (lenI a0))))], [(0, .seq .str s1.2)], 1⟩ hX (by kernel_rfl) allNil ?_
    refine HT.seq ?_
    rcases of_bif hx8 with ⟨hb10, hx8⟩ | ⟨hb10, hx8⟩
    · refine HT.cond1 rfl hb10 ?_
      refine HT.skip (qThen ?_)
      refine HT.seq ?_
      refine HT.block ?_
      obtain ⟨hg11, hx8⟩ := of_guard hx8
      refine HT.rg2 (oHs 3) ⟨[(4, aV 0), (6, nV (List.getD a0 (Int.toNat s1.1) ([] : List Int))), (10, .one (.dat (.sl tLI) a0)), (11, iV (lenI a0)), (12, iV s1.1)], [(0, .seq .str s1.2)], 1⟩ hX (by kernel_rfl) (allCons hg11 allNil) ?_
      obtain ⟨y12, hc13, hx8⟩ := of_bind hx8
      refine HT.rg2 [oH, ⟨none, .call [.imm tLI] [⟨false, .str, y12.1⟩, ⟨false, .bool, y12.2⟩] []⟩, oH, oH, oH, oH, oH] ⟨[(4, aV 0), (7, .one (.dat .str y12.1)), (8, bV y12.2), (10, .one (.dat (.sl tLI) a0)), (11, iV (lenI a0)), (12, iV s1.1)], [(0, .seq .str s1.2)], 1⟩ hX (by kernel_rfl) (allCons (f114_ok hc13) allNil) ?_
      refine HT.seq ?_
      refine HT.rg2 (oHs 2) ⟨[(4, aV 0), (7, .one (.dat .str y12.1)), (10, .one (.dat (.sl tLI) a0)), (11, iV (lenI a0)), (12, iV s1.1), (22, bV (!y12.2))], [(0, .seq .str s1.2)], 1⟩ hX (by kernel_rfl) allNil ?_
      rcases of_bif hx8 with ⟨hb14, hx8⟩ | ⟨hb14, hx8⟩
      · refine HT.cond1 rfl hb14 ?_
        refine HT.rg2 (oHs 2) ⟨[(2, .one (.dat .str ([] : List UInt8))), (3, bV false)], [], 1⟩ hX (by kernel_rfl) allNil ?_
        have hx8 := of_some hx8
        subst hx8
        exact HT.retL (Le.re [] [] hX (by kernel_rfl)) (qThenR (qBlockR (qThenR (qLoopR (hk9 (.inr ()) rfl)))))
      · refine HT.cond0 rfl hb14 ?_
        refine HT.skip (qThen ?_)
        obtain ⟨hg15, hx8⟩ := of_guard hx8
        refine HT.rgL [oH, oH, ⟨none, .ty .str⟩, ⟨none, .ty .str⟩, oH] ⟨[(4, aV 2), (10, .one (.dat (.sl tLI) a0)), (11, iV (lenI a0)), (12, iV s1.1)], [(2, .seq .str (s1.2 ++ ([y12.1] : List (List UInt8))))], 3⟩ hX (by kernel_rfl) (allCons hg15 allNil) (qBlock (qThen ?_))
        have hx8 := of_some hx8
        subst hx8
        exact HT.rgK (oHs 2) [(2, 0)] [] hX (by kernel_rfl) allNil (fun _ h => (qLoopN ⟨((wadd .i64 s1.1 (1 : Int)), (s1.2 ++ ([y12.1] : List (List UInt8)))), rfl, h⟩))
    · refine HT.cond0 rfl hb10 ?_
      have hx8 := of_some hx8
      subst hx8
      exact HT.exitL (Le.re [(0, 0)] [] hX (by kernel_rfl)) (qThenE (qLoopE (hk9 (.inl s1.2) rfl)))

noncomputable def impl_GrammarText_B1 (a0 : Int × Int × List (Int × Int × Int × Int)) (s4 : Int × List Int) : Option ((Int × List Int) ⊕ (List Int)) :=
  bif (decide (s4.1 < (lenI a0.2.2))) then
    guardP ((0 : Int) ≤ s4.1 ∧ s4.1 < lenI a0.2.2) (
      guardP (List.length s4.2 + List.length ([(List.getD a0.2.2 (Int.toNat s4.1) ((0 : Int), (0 : Int), (0 : Int), (0 : Int))).1, ((List.getD a0.2.2 (Int.toNat s4.1) ((0 : Int), (0 : Int), (0 : Int), (0 : Int))).2).1, (((List.getD a0.2.2 (Int.toNat s4.1) ((0 : Int), (0 : Int), (0 : Int), (0 : Int))).2).2).1, (((List.getD a0.2.2 (Int.toNat s4.1) ((0 : Int), (0 : Int), (0 : Int), (0 : Int))).2).2).2] : List Int) ≤ appMax) (
        some (.inl ((wadd .i64 s4.1 (1 : Int)), (s4.2 ++ ([(List.getD a0.2.2 (Int.toNat s4.1) ((0 : Int), (0 : Int), (0 : Int), (0 : Int))).1, ((List.getD a0.2.2 (Int.toNat s4.1) ((0 : Int), (0 : Int), (0 : Int), (0 : Int))).2).1, (((List.getD a0.2.2 (Int.toNat s4.1) ((0 : Int), (0 : Int), (0 : Int), (0 : Int))).2).2).1, (((List.getD a0.2.2 (Int.toNat s4.1) ((0 : Int), (0 : Int), (0 : Int), (0 : Int))).2).2).2] : List Int))))))
  else
    some (.inr s4.2)

noncomputable def impl_GrammarText (a0 : Int × Int × List (Int × Int × Int × Int)) : Option (List UInt8 × Bool) :=
  (impl_ValidGrammar (a0.1, a0.2.1, a0.2.2)).bind fun y1 =>
  bif (!y1) then
    some (([] : List UInt8), false)
  else
    (rounds (impl_GrammarText_B1 a0) ((0 : Int), ([] : List Int))).bind fun r6 =>
    (impl_listTexts ([([a0.1, a0.2.1] : List Int), r6] : List (List Int))).bind fun y7 =>
    some (y7.1, y7.2)

theorem f24_ok {a0 : Int × Int × List (Int × Int × Int × Int)} {r : List UInt8 × Bool} (hr : impl_GrammarText a0 = some r) : CallOK Tryd.prog 24 [.imm (.st (.pair tI (.pair tI (.sl (.st (.pair tI (.pair tI (.pair tI tI)))))))) a0] [⟨false, .str, r.1⟩, ⟨false, .bool, r.2⟩] [] := by
  unfold impl_GrammarText at hr
  refine CallOK.of_body (ts := [(false, .str), (false, .bool)]) Tryd.func24 rfl (by kernel_rfl) (Nat.le_of_ble_eq_true (by kernel_rfl)) fun cx hP hN hO hF => ?_
  have hO : cx.own.map Prod.fst = [] := hO
  have hX := CxIs.mk hP hN hO
  have hF := hF rfl
  show HT cx ⟨[(0, .agg [iC a0.1, iC a0.2.1, .dat (.sl (.st (.pair tI (.pair tI (.pair tI tI))))) a0.2.2])], [], 0⟩ _ _
  refine HT.rg2 (oHs 3) ⟨[(1, pV 0 0)], [(0, .box [iC a0.1, iC a0.2.1, .dat (.sl (.st (.pair tI (.pair tI (.pair tI tI))))) a0.2.2])], 1⟩ hX (by kernel_rfl) allNil ?_
  refine HT.seq ?_
  obtain ⟨y1, hc2, hr⟩ := of_bind hr
  refine HT.rg2 [oH, ⟨none, .call [.imm (.st (.pair tI (.pair tI (.sl (.st (.pair tI (.pair tI (.pair tI tI))))))))] [⟨false, .bool, y1⟩] []⟩, oH] ⟨[(1, pV 0 0), (9, bV (!y1))], [(0, .box [iC a0.1, iC a0.2.1, .dat (.sl (.st (.pair tI (.pair tI (.pair tI tI))))) a0.2.2])], 1⟩ hX (by kernel_rfl) (allCons (f66_ok hc2) allNil) ?_
  rcases of_bif hr with ⟨hb3, hr⟩ | ⟨hb3, hr⟩
  · refine HT.cond1 rfl hb3 ?_
    refine HT.rg2 (oHs 2) ⟨[(2, .one (.dat .str ([] : List UInt8))), (3, bV false)], [], 1⟩ hX (by kernel_rfl) allNil ?_
    have hr := of_some hr
    subst hr
    exact HT.ret (qThenR ⟨[.one (.dat .str ([] : List UInt8)), bV false], [], [], by kernel_rfl, by kernel_rfl, rfl, by kernel_rfl, by kernel_rfl, trivial⟩)
  · refine HT.cond0 rfl hb3 ?_
    refine HT.skip (qThen ?_)
    refine HT.rg2 (oHs 2) ⟨[(1, pV 0 0), (4, .one (.nilS))], [(0, .box [iC a0.1, iC a0.2.1, .dat (.sl (.st (.pair tI (.pair tI (.pair tI tI))))) a0.2.2])], 1⟩ hX (by kernel_rfl) allNil ?_
    refine HT.seq ?_
    refine HT.rg2 (oHs 4) ⟨[(1, pV 0 0), (4, .one (.nilS)), (12, .one (.dat (.sl (.st (.pair tI (.pair tI (.pair tI tI))))) a0.2.2)), (13, iV (lenI a0.2.2)), (14, iV (0 : Int))], [(0, .box [iC a0.1, iC a0.2.1, .dat (.sl (.st (.pair tI (.pair tI (.pair tI tI))))) a0.2.2])], 1⟩ hX (by kernel_rfl) allNil ?_
    refine HT.block ?_
    obtain ⟨r5, hL15, hr⟩ := of_bind hr
    refine HT.loopL (fun (s4 : Int × List Int) => ⟨[(1, pV 0 0), (4, aV 1), (12, .one (.dat (.sl (.st (.pair tI (.pair tI (.pair tI tI))))) a0.2.2)), (13, iV (lenI a0.2.2)), (14, iV s4.1)], [(0, .box [iC a0.1, iC a0.2.1, .dat (.sl (.st (.pair tI (.pair tI (.pair tI tI))))) a0.2.2]), (1, .seq tI s4.2)], 2⟩) (fun (r6 : List Int) => (.exit 0, ⟨[(1, pV 0 0), (4, aV 1)], [(0, .box [iC a0.1, iC a0.2.1, .dat (.sl (.st (.pair tI (.pair tI (.pair tI tI))))) a0.2.2]), (1, .seq tI r6)], 2⟩)) (Le.re [(0, 0)] [1] hX (by kernel_rfl)) hL15 ?_ (fun s4 x9 hx10 hk11 => ?_)
    · refine (qBlockX (qThen ?_))
      refine (Le.rz [(0, 0)] [] (st' := ⟨[(1, pV 0 0), (4, nV r5)], [(0, .box [iC a0.1, iC a0.2.1, .dat (.sl (.st (.pair tI (.pair tI (.pair tI tI))))) a0.2.2])], 2⟩) hX hF (by kernel_rfl)).ht ?_
      obtain ⟨y7, hc8, hr⟩ := of_bind hr
      refine HT.rg2 [oH, oH, oH, oH, ⟨none, .tyD tI⟩, oH, ⟨none, .ty tLI⟩, ⟨none, .call [.imm (.sl tLI)] [⟨false, .str, y7.1⟩, ⟨false, .bool, y7.2⟩] []⟩, oH, oH, oH, oH] ⟨[(2, .one (.dat .str y7.1)), (3, bV y7.2)], [], 3⟩ hX (by kernel_rfl) (allCons (f67_ok hc8) allNil) ?_
      have hr := of_some hr
      subst hr
      exact HT.ret ⟨[.one (.dat .str y7.1), bV y7.2], [], [], by kernel_rfl, by kernel_rfl, rfl, by kernel_rfl, by kernel_rfl, trivial⟩
    · refine HT.rg2 [oH] ⟨[(1, pV 0 0), (4, aV 1), (12, .one (.dat (.sl (.st (.pair tI (.pair tI (.pair tI tI))))) a0.2.2)), (13, iV (lenI a0.2.2)), (14, iV s4.1), (15, bV (decide (s4.1 < (lenI a0.2.2))))], [(0, .box [iC a0.1, iC a0.2.1, .dat (.sl (.st (.pair tI (.pair tI (.pair tI tI))))) a0.2.2]), (1, .seq tI s4.2)], 2⟩ hX (by kernel_rfl) allNil ?_
      refine HT.seq ?_
      rcases of_bif hx10 with ⟨hb12, hx10⟩ | ⟨hb12, hx10⟩
      · refine HT.cond1 rfl hb12 ?_
        refine HT.skip (qThen ?_)
        refine HT.seq ?_
        refine HT.block ?_
        obtain ⟨hg13, hx10⟩ := of_guard hx10
        refine HT.rg2 (oHs 4) ⟨[(1, pV 0 0), (4, aV 1), (6, pV 2 0), (12, .one (.dat (.sl (.st (.pair tI (.pair tI (.pair tI tI))))) a0.2.2)), (13, iV (lenI a0.2.2)), (14, iV s4.1)], [(2, .box [iC ((List.getD a0.2.2 (Int.toNat s4.1) ((0 : Int), (0 : Int), (0 : Int), (0 : Int))).1), iC (((List.getD a0.2.2 (Int.toNat s4.1) ((0 : Int), (0 : Int), (0 : Int), (0 : Int))).2).1), iC ((((List.getD a0.2.2 (Int.toNat s4.1) ((0 : Int), (0 : Int), (0 : Int), (0 : Int))).2).2).1), iC ((((List.getD a0.2.2 (Int.toNat s4.1) ((0 : Int), (0 : Int), (0 : Int), (0 : Int))).2).2).2)]), (0, .box [iC a0.1, iC a0.2.1, .dat (.sl (.st (.pair tI (.pair tI (.pair tI tI))))) a0.2.2]), (1, .seq tI s4.2)], 3⟩ hX (by kernel_rfl) (allCons hg13 allNil) ?_
        obtain ⟨hg14, hx10⟩ := of_guard hx10
        refine HT.rgL [oH, oH, oH, oH, oH, oH, oH, oH, oH, ⟨none, .ty tI⟩, ⟨none, .ty tI⟩, oH] ⟨[(1, pV 0 0), (4, aV 4), (12, .one (.dat (.sl (.st (.pair tI (.pair tI (.pair tI tI))))) a0.2.2)), (13, iV (lenI a0.2.2)), (14, iV s4.1)], [(4, .seq tI (s4.2 ++ ([(List.getD a0.2.2 (Int.toNat s4.1) ((0 : Int), (0 : Int), (0 : Int), (0 : Int))).1, ((List.getD a0.2.2 (Int.toNat s4.1) ((0 : Int), (0 : Int), (0 : Int), (0 : Int))).2).1, (((List.getD a0.2.2 (Int.toNat s4.1) ((0 : Int), (0 : Int), (0 : Int), (0 : Int))).2).2).1, (((List.getD a0.2.2 (Int.toNat s4.1) ((0 : Int), (0 : Int), (0 : Int), (0 : Int))).2).2).2] : List Int))), (0, .box [iC a0.1, iC a0.2.1, .dat (.sl (.st (.pair tI (.pair tI (.pair tI tI))))) a0.2.2])], 5⟩ hX (by kernel_rfl) (allCons hg14 allNil) (qBlock (qThen ?_))
        have hx10 := of_some hx10
        subst hx10
        exact HT.rgK (oHs 2) [(0, 0), (4, 1)] [] hX (by kernel_rfl) allNil (fun _ h => (qLoopN ⟨((wadd .i64 s4.1 (1 : Int)), (s4.2 ++ ([(List.getD a0.2.2 (Int.toNat s4.1) ((0 : Int), (0 : Int), (0 : Int), (0 : Int))).1, ((List.getD a0.2.2 (Int.toNat s4.1) ((0 : Int), (0 : Int), (0 : Int), (0 : Int))).2).1, (((List.getD a0.2.2 (Int.toNat s4.1) ((0 : Int), (0 : Int), (0 : Int), (0 : Int))).2).2).1, (((List.getD a0.2.2 (Int.toNat s4.1) ((0 : Int), (0 : Int), (0 : Int), (0 : Int))).2).2).2] : List Int))), rfl, h⟩))
      · refine HT.cond0 rfl hb12 ?_
        have hx10 := of_some hx10
        subst hx10
        exact HT.exitL (Le.re [(0, 0), (1, 1)] [] hX (by kernel_rfl)) (qThenE (qLoopE (hk11 s4.2 rfl)))

noncomputable def laws_eqRule (a0 : Int × Int × Int × Int) (a1 : Int × Int × Int × Int) : Option (Bool) :=
  bif (a0.1 != a1.1) then
    some false
  else
    bif (a0.2.1 != a1.2.1) then
      some false
    else
      bif (a0.2.2.1 != a1.2.2.1) then
        some false
      else
        bif (a0.2.2.2 != a1.2.2.2) then
          some false
        else
          some true

theorem f116_ok {a0 : Int × Int × Int × Int} {a1 : Int × Int × Int × Int} {r : Bool} (hr : laws_eqRule a0 a1 = some r) : CallOK Tryd.prog 116 [.imm (.st (.pair tI (.pair tI (.pair tI tI)))) a0, .imm (.st (.pair tI (.pair tI (.pair tI tI)))) a1] [⟨false, .bool, r⟩] [] := by
  unfold laws_eqRule at hr
  refine CallOK.of_body (ts := [(false, .bool)]) Tryd.func116 rfl (by kernel_rfl) (Nat.le_of_ble_eq_true (by kernel_rfl)) fun cx hP hN hO hF => ?_
  have hO : cx.own.map Prod.fst = [] := hO
  have hX := CxIs.mk hP hN hO
  have hF := hF rfl
  show HT cx ⟨[(0, .agg [iC a0.1, iC a0.2.1, iC a0.2.2.1, iC a0.2.2.2]), (1, .agg [iC a1.1, iC a1.2.1, iC a1.2.2.1, iC a1.2.2.2])], [], 0⟩ _ _
  refine HT.rg2 (oHs 3) ⟨[(2, pV 0 0), (3, pV 1 0)], [(1, .box [iC a1.1, iC a1.2.1, iC a1.2.2.1, iC a1.2.2.2]), (0, .box [iC a0.1, iC a0.2.1, iC a0.2.2.1, iC a0.2.2.2])], 2⟩ hX (by kernel_rfl) allNil ?_
  refine HT.seq ?_
  refine HT.rg2 (oHs 5) ⟨[(2, pV 0 0), (3, pV 1 0), (9, bV (a0.1 != a1.1))], [(1, .box [iC a1.1, iC a1.2.1, iC a1.2.2.1, iC a1.2.2.2]), (0, .box [iC a0.1, iC a0.2.1, iC a0.2.2.1, iC a0.2.2.2])], 2⟩ hX (by kernel_rfl) allNil ?_
  rcases of_bif hr with ⟨hb1, hr⟩ | ⟨hb1, hr⟩
  · refine HT.cond1 rfl hb1 ?_
    refine HT.rg2 [oH] ⟨[(4, bV false)], [], 2⟩ hX (by kernel_rfl) allNil ?_
    have hr := of_some hr
    subst hr
    exact HT.ret (qThenR ⟨[bV false], [], [], by kernel_rfl, by kernel_rfl, rfl, by kernel_rfl, by kernel_rfl, trivial⟩)
  · refine HT.cond0 rfl hb1 ?_
    refine HT.skip (qThen ?_)
    refine HT.seq ?_
    refine HT.rg2 (oHs 5) ⟨[(2, pV 0 0), (3, pV 1 0), (14, bV (a0.2.1 != a1.2.1))], [(1, .box [iC a1.1, iC a1.2.1, iC a1.2.2.1, iC a1.2.2.2]), (0, .box [iC a0.1, iC a0.2.1, iC a0.2.2.1, iC a0.2.2.2])], 2⟩ hX (by kernel_rfl) allNil ?_
    rcases of_bif hr with ⟨hb2, hr⟩ | ⟨hb2, hr⟩
    · refine HT.cond1 rfl hb2 ?_
      refine HT.rg2 [oH] ⟨[(4, bV false)], [], 2⟩ hX (by kernel_rfl) allNil ?_
      have hr := of_some hr
      subst hr
      exact HT.ret (qThenR ⟨[bV false], [], [], by kernel_rfl, by kernel_rfl, rfl, by kernel_rfl, by kernel_rfl, trivial⟩)
    · refine HT.cond0 rfl hb2 ?_
      refine HT.skip (qThen ?_)
      refine HT.seq ?_
      refine HT.rg2 (oHs 5) ⟨[(2, pV 0 0), (3, pV 1 0), (19, bV (a0.2.2.1 != a1.2.2.1))], [(1, .box [iC a1.1, iC a1.2.1, iC a1.2.2.1, iC a1.2.2.2]), (0, .box [iC a0.1, iC a0.2.1, iC a0.2.2.1, iC a0.2.2.2])], 2⟩ hX (by kernel_rfl) allNil ?_
      rcases of_bif hr with ⟨hb3, hr⟩ | ⟨hb3, hr⟩
      · refine HT.cond1 rfl hb3 ?_
        refine HT.rg2 [oH] ⟨[(4, bV false)], [], 2⟩ hX (by kernel_rfl) allNil ?_
        have hr := of_some hr
        subst hr
        exact HT.ret (qThenR ⟨[bV false], [], [], by kernel_rfl, by kernel_rfl, rfl, by kernel_rfl, by kernel_rfl, trivial⟩)
      · refine HT.cond0 rfl hb3 ?_
        refine HT.skip (qThen ?_)
        refine HT.seq ?_
        refine HT.rg2 (oHs 5) ⟨[(24, bV (a0.2.2.2 != a1.2.2.2))], [], 2⟩ hX (by kernel_rfl) allNil ?_
        rcases of_bif hr with ⟨hb4, hr⟩ | ⟨hb4, hr⟩
        · refine HT.cond1 rfl hb4 ?_
          refine HT.rg2 [oH] ⟨[(4, bV false)], [], 2⟩ hX (by kernel_rfl) allNil ?_
          have hr := of_some hr
          subst hr
          exact HT.ret (qThenR ⟨[bV false], [], [], by kernel_rfl, by kernel_rfl, rfl, by kernel_rfl, by kernel_rfl, trivial⟩)
        · refine HT.cond0 rfl hb4 ?_
          refine HT.skip (qThen ?_)
          refine HT.rg2 [oH] ⟨[(4, bV true)], [], 2⟩ hX (by kernel_rfl) allNil ?_
          have hr := of_some hr
          subst hr
          exact HT.ret ⟨[bV true], [], [], by kernel_rfl, by kernel_rfl, rfl, by kernel_rfl, by kernel_rfl, trivial⟩

noncomputable def laws_eqRuleS_B1 (a0 : List (Int × Int × Int × Int)) (a1 : List (Int × Int × Int × Int)) (s2 : Int) : Option ((Int) ⊕ (Unit ⊕ Unit)) :=
  bif (decide (s2 < (lenI a0))) then
    guardP ((0 : Int) ≤ s2 ∧ s2 < lenI a0) (
      guardP ((0 : Int) ≤ s2 ∧ s2 < lenI a1) (
        (laws_eqRule ((List.getD a0 (Int.toNat s2) ((0 : Int), (0 : Int), (0 : Int), (0 : Int))).1, ((List.getD a0 (Int.toNat s2) ((0 : Int), (0 : Int), (0 : Int), (0 : Int))).2).1, (((List.getD a0 (Int.toNat s2) ((0 : Int), (0 : Int), (0 : Int), (0 : Int))).2).2).1, (((List.getD a0 (Int.toNat s2) ((0 : Int), (0 : Int), (0 : Int), (0 : Int))).2).2).2) ((List.getD a1 (Int.toNat s2) ((0 : Int), (0 : Int), (0 : Int), (0 : Int))).1, ((List.getD a1 (Int.toNat s2) ((0 : Int), (0 : Int), (0 : Int), (0 : Int))).2).1, (((List.getD a1 (Int.toNat s2) ((0 : Int), (0 : Int), (0 : Int), (0 : Int))).2).2).1, (((List.getD a1 (Int.toNat s2) ((0 : Int), (0 : Int), (0 : Int), (0 : Int))).2).2).2)).bind fun y12 =>
        bif (!y12) then
          some (.inr (.inr ()))
        else
          some (.inl (wadd .i64 s2 (1 : Int)))))
  else
    some (.inr (.inl ()))

noncomputable def laws_eqRuleS (a0 : List (Int × Int × Int × Int)) (a1 : List (Int × Int × Int × Int)) : Option (Bool) :=
  bif ((lenI a0) != (lenI a1)) then
    some false
  else
    (rounds (laws_eqRuleS_B1 a0 a1) (0 : Int)).bind fun r3 => match r3 with
      | .inl r4 =>
        some true
      | .inr r5 =>
        some false

theorem f68_ok {a0 : List (Int × Int × Int × Int)} {a1 : List (Int × Int × Int × Int)} {r : Bool} (hr : laws_eqRuleS a0 a1 = some r) : CallOK Tryd.prog 68 [.imm (.sl (.st (.pair tI (.pair tI (.pair tI tI))))) a0, .imm (.sl (.st (.pair tI (.pair tI (.pair tI tI))))) a1] [⟨false, .bool, r⟩] [] := by
  unfold laws_eqRuleS at hr
  refine CallOK.of_body (ts := [(false, .bool)]) Tryd.func68 rfl (by kernel_rfl) (Nat.le_of_ble_eq_true (by kernel_rfl)) fun cx hP hN hO hF => ?_
  have hO : cx.own.map Prod.fst = [] := hO
  have hX := CxIs.mk hP hN hO
  have hF := hF rfl
  show HT cx ⟨[(0, .one (.dat (.sl (.st (.pair tI (.pair tI (.pair tI tI))))) a0)), (1, .one (.dat (.sl (.st (.pair tI (.pair tI (.pair tI tI))))) a1))], [], 0⟩ _ _
  refine HT.rg2 [oH] ⟨[(0, .one (.dat (.sl (.st (.pair tI (.pair tI (.pair tI tI))))) a0)), (1, .one (.dat (.sl (.st (.pair tI (.pair tI (.pair tI tI))))) a1))], [], 0⟩ hX (by kernel_rfl) allNil ?_
  refine HT.seq ?_
  refine HT.rg2 (oHs 5) ⟨[(0, .one (.dat (.sl (.st (.pair tI (.pair tI (.pair tI tI))))) a0)), (1, .one (.dat (.sl (.st (.pair tI (.pair tI (.pair tI tI))))) a1)), (10, bV ((lenI a0) != (lenI a1)))], [], 0⟩ hX (by kernel_rfl) allNil ?_
  rcases of_bif hr with ⟨hb1, hr⟩ | ⟨hb1, hr⟩
  · refine HT.cond1 rfl hb1 ?_
    refine HT.rg2 [oH] ⟨[(4, bV false)], [], 0⟩ hX (by kernel_rfl) allNil ?_
    have hr := of_some hr
    subst hr
    exact HT.ret (qThenR ⟨[bV false], [], [], by kernel_rfl, by kernel_rfl, rfl, by kernel_rfl, by kernel_rfl, trivial⟩)
  · refine HT.cond0 rfl hb1 ?_
    refine HT.skip (qThen ?_)
    refine HT.seq ?_
    refine HT.rg2 [oH] ⟨[(0, .one (.dat (.sl (.st (.pair tI (.pair tI (.pair tI tI))))) a0)), (1, .one (.dat (.sl (.st (.pair tI (.pair tI (.pair tI tI))))) a1)), (5, iV (0 : Int))], [], 0⟩ hX (by kernel_rfl) allNil ?_
    refine HT.block ?_
    obtain ⟨r3, hL15, hr⟩ := of_bind hr
    refine HT.loopL (fun (s2 : Int) => ⟨[(0, .one (.dat (.sl (.st (.pair tI (.pair tI (.pair tI tI))))) a0)), (1, .one (.dat (.sl (.st (.pair tI (.pair tI (.pair tI tI))))) a1)), (5, iV s2)], [], 0⟩) (fun (r3 : Unit ⊕ Unit) => match r3 with | .inl r4 => (.exit 0, ⟨[], [], 0⟩) | .inr r5 => (.ret, ⟨[(4, bV false)], [], 0⟩)) (Le.re [] [] hX (by kernel_rfl)) hL15 ?_ (fun s2 x6 hx7 hk8 => ?_)
    · rcases r3 with r4 | r5
      · refine (qBlockX (qThen ?_))
        refine HT.rg2 [oH] ⟨[(4, bV true)], [], 0⟩ hX (by kernel_rfl) allNil ?_
        have hr := of_some hr
        subst hr
        exact HT.ret ⟨[bV true], [], [], by kernel_rfl, by kernel_rfl, rfl, by kernel_rfl, by kernel_rfl, trivial⟩
      · have hr := of_some hr
        subst hr
        exact (qBlockR (qThenR ⟨[bV false], [], [], by kernel_rfl, by kernel_rfl, rfl, by kernel_rfl, by kernel_rfl, trivial⟩))
    · refine HT.seq ?_
      refine HT.rg2 (oHs 4) ⟨[(0, .one (.dat (.sl (.st (.pair tI (.pair tI (.pair tI tI))))) a0)), (1, .one (.dat (.sl (.st (.pair tI (.pair tI (.pair tI tI))))) a1)), (5, iV s2), (14, bV (decide (s2 < (lenI a0))))], [], 0⟩ hX (by kernel_rfl) allNil ?_
      rcases of_bif hx7 with ⟨hb9, hx7⟩ | ⟨hb9, hx7⟩
      · refine HT.cond1 rfl hb9 ?_
        refine HT.skip (qThen ?_)
        refine HT.seq ?_
        refine HT.block ?_
        obtain ⟨hg10, hx7⟩ := of_guard hx7
        obtain ⟨hg11, hx7⟩ := of_guard hx7
        obtain ⟨y12, hc13, hx7⟩ := of_bind hx7
        refine HT.dr2 8 [⟨oH, []⟩, ⟨oH, []⟩, ⟨oH, [0, 1]⟩, ⟨oH, [0, 1, 2]⟩, ⟨oH, []⟩, ⟨oH, []⟩, ⟨oH, [4, 5]⟩, ⟨oH, [4, 5, 6]⟩] [[0, 1, 2, 3, 4, 5, 6, 7], [0, 1, 2, 3, 4, 5, 6, 7, 8]] [⟨none, .call [.imm (.st (.pair tI (.pair tI (.pair tI tI)))), .imm (.st (.pair tI (.pair tI (.pair tI tI))))] [⟨false, .bool, y12⟩] []⟩, oH] ⟨[(0, .one (.dat (.sl (.st (.pair tI (.pair tI (.pair tI tI))))) a0)), (1, .one (.dat (.sl (.st (.pair tI (.pair tI (.pair tI tI))))) a1)), (5, iV s2), (26, bV (!y12))], [], 0⟩ hX (by kernel_rfl) (by kernel_rfl) (allCons hg10 (allCons hg11 (allCons (f116_ok hc13) allNil))) ?_
        rcases of_bif hx7 with ⟨hb14, hx7⟩ | ⟨hb14, hx7⟩
        · refine HT.cond1 rfl hb14 ?_
          refine HT.rg2 [oH] ⟨[(4, bV false)], [], 0⟩ hX (by kernel_rfl) allNil ?_
          have hx7 := of_some hx7
          subst hx7
          exact HT.retL (Le.re [] [] hX (by kernel_rfl)) (qBlockR (qThenR (qLoopR (hk8 (.inr ()) rfl))))
        · refine HT.cond0 rfl hb14 ?_
          refine HT.skip (qBlock (qThen ?_))
          have hx7 := of_some hx7
          subst hx7
          exact HT.rgK (oHs 3) [] [] hX (by kernel_rfl) allNil (fun _ h => (qLoopN ⟨(wadd .i64 s2 (1 : Int)), rfl, h⟩))
      · refine HT.cond0 rfl hb9 ?_
        have hx7 := of_some hx7
        subst hx7
        exact HT.exitL (Le.re [] [] hX (by kernel_rfl)) (qThenE (qLoopE (hk8 (.inl ()) rfl)))

noncomputable def laws_eqGrammar (a0 : Int × Int × List (Int × Int × Int × Int)) (a1 : Int × Int × List (Int × Int × Int × Int)) : Option (Bool) :=
  bif (a0.1 != a1.1) then
    some false
  else
    bif (a0.2.1 != a1.2.1) then
      some false
    else
      (laws_eqRuleS a0.2.2 a1.2.2).bind fun y3 =>
      bif (!y3) then
        some false
      else
        some true

theorem f25_ok {a0 : Int × Int × List (Int × Int × Int × Int)} {a1 : Int × Int × List (Int × Int × Int × Int)} {r : Bool} (hr : laws_eqGrammar a0 a1 = some r) : CallOK Tryd.prog 25 [.imm (.st (.pair tI (.pair tI (.sl (.st (.pair tI (.pair tI (.pair tI tI)))))))) a0, .imm (.st (.pair tI (.pair tI (.sl (.st (.pair tI (.pair tI (.pair tI tI)))))))) a1] [⟨false, .bool, r⟩] [] := by
  unfold laws_eqGrammar at hr
  refine CallOK.of_body (ts := [(false, .bool)]) Tryd.func25 rfl (by kernel_rfl) (Nat.le_of_ble_eq_true (by kernel_rfl)) fun cx hP hN hO hF => ?_
  have hO : cx.own.map Prod.fst = [] := hO
  have hX := CxIs.mk hP hN hO
  have hF := hF rfl
  show HT cx ⟨[(0, .agg [iC a0.1, iC a0.2.1, .dat (.sl (.st (.pair tI (.pair tI (.pair tI tI))))) a0.2.2]), (1, .agg [iC a1.1, iC a1.2.1, .dat (.sl (.st (.pair tI (.pair tI (.pair tI tI))))) a1.2.2])], [], 0⟩ _ _
  refine HT.rg2 (oHs 3) ⟨[(2, pV 0 0), (3, pV 1 0)], [(1, .box [iC a1.1, iC a1.2.1, .dat (.sl (.st (.pair tI (.pair tI (.pair tI tI))))) a1.2.2]), (0, .box [iC a0.1, iC a0.2.1, .dat (.sl (.st (.pair tI (.pair tI (.pair tI tI))))) a0.2.2])], 2⟩ hX (by kernel_rfl) allNil ?_
  refine HT.seq ?_
  refine HT.rg2 (oHs 5) ⟨[(2, pV 0 0), (3, pV 1 0), (9, bV (a0.1 != a1.1))], [(1, .box [iC a1.1, iC a1.2.1, .dat (.sl (.st (.pair tI (.pair tI (.pair tI tI))))) a1.2.2]), (0, .box [iC a0.1, iC a0.2.1, .dat (.sl (.st (.pair tI (.pair tI (.pair tI tI))))) a0.2.2])], 2⟩ hX (by kernel_rfl) allNil ?_
  rcases of_bif hr with ⟨hb1, hr⟩ | ⟨hb1, hr⟩
  · refine HT.cond1 rfl hb1 ?_
    refine HT.rg2 [oH] ⟨[(4, bV false)], [], 2⟩ hX (by kernel_rfl) allNil ?_
    have hr := of_some hr
    subst hr
    exact HT.ret (qThenR ⟨[bV false], [], [], by kernel_rfl, by kernel_rfl, rfl, by kernel_rfl, by kernel_rfl, trivial⟩)
  · refine HT.cond0 rfl hb1 ?_
    refine HT.skip (qThen ?_)
    refine HT.seq ?_
    refine HT.rg2 (oHs 5) ⟨[(2, pV 0 0), (3, pV 1 0), (14, bV (a0.2.1 != a1.2.1))], [(1, .box [iC a1.1, iC a1.2.1, .dat (.sl (.st (.pair tI (.pair tI (.pair tI tI))))) a1.2.2]), (0, .box [iC a0.1, iC a0.2.1, .dat (.sl (.st (.pair tI (.pair tI (.pair tI tI))))) a0.2.2])], 2⟩ hX (by kernel_rfl) allNil ?_
    rcases of_bif hr with ⟨hb2, hr⟩ | ⟨hb2, hr⟩
    · refine HT.cond1 rfl hb2 ?_
      refine HT.rg2 [oH] ⟨[(4, bV false)], [], 2⟩ hX (by kernel_rfl) allNil ?_
      have hr := of_some hr
      subst hr
      exact HT.ret (qThenR ⟨[bV false], [], [], by kernel_rfl, by kernel_rfl, rfl, by kernel_rfl, by kernel_rfl, trivial⟩)
    · refine HT.cond0 rfl hb2 ?_
      refine HT.skip (qThen ?_)
      refine HT.seq ?_
      obtain ⟨y3, hc4, hr⟩ := of_bind hr
      refine HT.rg2 [oH, oH, oH, oH, ⟨none, .call [.imm (.sl (.st (.pair tI (.pair tI (.pair tI tI))))), .imm (.sl (.st (.pair tI (.pair tI (.pair tI tI)))))] [⟨false, .bool, y3⟩] []⟩, oH] ⟨[(20, bV (!y3))], [], 2⟩ hX (by kernel_rfl) (allCons (f68_ok hc4) allNil) ?_
      rcases of_bif hr with ⟨hb5, hr⟩ | ⟨hb5, hr⟩
      · refine HT.cond1 rfl hb5 ?_
        refine HT.rg2 [oH] ⟨[(4, bV false)], [], 2⟩ hX (by kernel_rfl) allNil ?_
        have hr := of_some hr
        subst hr
        exact HT.ret (qThenR ⟨[bV false], [], [], by kernel_rfl, by kernel_rfl, rfl, by kernel_rfl, by kernel_rfl, trivial⟩)
      · refine HT.cond0 rfl hb5 ?_
        refine HT.skip (qThen ?_)
        refine HT.rg2 [oH] ⟨[(4, bV true)], [], 2⟩ hX (by kernel_rfl) allNil ?_
        have hr := of_some hr
        subst hr
        exact HT.ret ⟨[bV true], [], [], by kernel_rfl, by kernel_rfl, rfl, by kernel_rfl, by kernel_rfl, trivial⟩

noncomputable def laws_FnExactGrammarText (a0 : Int × Int × List (Int × Int × Int × Int)) : Option (Bool) :=
  (laws_szGrammar (a0.1, a0.2.1, a0.2.2) (1048576 : Int)).bind fun y1 =>
  bif (decide (y1 < (0 : Int))) then
    some true
  else
    (laws_toGrammar (a0.1, a0.2.1, a0.2.2)).bind fun y4 =>
    (spec_GrammarText (y4.1, y4.2.1, y4.2.2)).bind fun y6 =>
    (laws_toGrammar (a0.1, a0.2.1, a0.2.2)).bind fun y8 =>
    (impl_GrammarText (y8.1, y8.2.1, y8.2.2)).bind fun y10 =>
    (show Option (Bool) from
      bif (y10.1 != y6.1) then
        some true
      else
        some (y10.2 != y6.2)).bind fun v12 =>
    bif v12 then
      some false
    else
      (laws_toGrammar (a0.1, a0.2.1, a0.2.2)).bind fun y16 =>
      (laws_eqGrammar (y8.1, y8.2.1, y8.2.2) (y16.1, y16.2.1, y16.2.2)).bind fun y18 =>
      bif (!y18) then
        some false
      else
        some true

theorem f5_ok {a0 : Int × Int × List (Int × Int × Int × Int)} {r : Bool} (hr : laws_FnExactGrammarText a0 = some r) : CallOK Tryd.prog 5 [.imm (.st (.pair tI (.pair tI (.sl (.st (.pair tI (.pair tI (.pair tI tI)))))))) a0] [⟨false, .bool, r⟩] [] := by
  unfold laws_FnExactGrammarText at hr
  refine CallOK.of_body (ts := [(false, .bool)]) Tryd.func5 rfl (by kernel_rfl) (Nat.le_of_ble_eq_true (by kernel_rfl)) fun cx hP hN hO hF => ?_
  have hO : cx.own.map Prod.fst = [] := hO
  have hX := CxIs.mk hP hN hO
  have hF := hF rfl
  show HT cx ⟨[(0, .agg [iC a0.1, iC a0.2.1, .dat (.sl (.st (.pair tI (.pair tI (.pair tI tI))))) a0.2.2])], [], 0⟩ _ _
  refine HT.rg2 (oHs 2) ⟨[(1, pV 0 0)], [(0, .box [iC a0.1, iC a0.2.1, .dat (.sl (.st (.pair tI (.pair tI (.pair tI tI))))) a0.2.2])], 1⟩ hX (by kernel_rfl) allNil ?_
  refine HT.rg2 [oH] ⟨[(1, pV 0 0), (3, iV (1048576 : Int))], [(0, .box [iC a0.1, iC a0.2.1, .dat (.sl (.st (.pair tI (.pair tI (.pair tI tI))))) a0.2.2])], 1⟩ hX (by kernel_rfl) allNil ?_
  obtain ⟨y1, hc2, hr⟩ := of_bind hr
  refine HT.rg2 [oH, oH, ⟨none, .call [.imm (.st (.pair tI (.pair tI (.sl (.st (.pair tI (.pair tI (.pair tI tI)))))))), .imm tI] [⟨false, tI, y1⟩] []⟩, oH] ⟨[(1, pV 0 0), (3, iV y1)], [(0, .box [iC a0.1, iC a0.2.1, .dat (.sl (.st (.pair tI (.pair tI (.pair tI tI))))) a0.2.2])], 1⟩ hX (by kernel_rfl) (allCons (f21_ok hc2) allNil) ?_
  refine HT.seq ?_
  refine HT.rg2 (oHs 2) ⟨[(1, pV 0 0), (13, bV (decide (y1 < (0 : Int))))], [(0, .box [iC a0.1, iC a0.2.1, .dat (.sl (.st (.pair tI (.pair tI (.pair tI tI))))) a0.2.2])], 1⟩ hX (by kernel_rfl) allNil ?_
  rcases of_bif hr with ⟨hb3, hr⟩ | ⟨hb3, hr⟩
  · refine HT.cond1 rfl hb3 ?_
    refine HT.rg2 [oH] ⟨[(2, bV true)], [], 1⟩ hX (by kernel_rfl) allNil ?_
    have hr := of_some hr
    subst hr
    exact HT.ret (qThenR ⟨[bV true], [], [], by kernel_rfl, by kernel_rfl, rfl, by kernel_rfl, by kernel_rfl, trivial⟩)
  · refine HT.cond0 rfl hb3 ?_
    refine HT.skip (qThen ?_)
    obtain ⟨y4, hc5, hr⟩ := of_bind hr
    obtain ⟨y6, hc7, hr⟩ := of_bind hr
    refine HT.rg2 [oH, ⟨none, .call [.imm (.st (.pair tI (.pair tI (.sl (.st (.pair tI (.pair tI (.pair tI tI))))))))] [⟨true, (.st (.pair tI (.pair tI (.sl (.st (.pair tI (.pair tI (.pair tI tI)))))))), y4⟩] []⟩, ⟨none, .call [.imm (.st (.pair tI (.pair tI (.sl (.st (.pair tI (.pair tI (.pair tI tI))))))))] [⟨false, .str, y6.1⟩, ⟨false, .bool, y6.2⟩] []⟩, oH, oH, oH, oH, oH] ⟨[(1, pV 0 0), (4, .one (.dat .str y6.1)), (5, bV y6.2)], [(0, .box [iC a0.1, iC a0.2.1, .dat (.sl (.st (.pair tI (.pair tI (.pair tI tI))))) a0.2.2])], 2⟩ hX (by kernel_rfl) (allCons (f23_ok hc5) (allCons (f22_ok hc7) allNil)) ?_
    obtain ⟨y8, hc9, hr⟩ := of_bind hr
    refine HT.rg2 [oH, ⟨none, .call [.imm (.st (.pair tI (.pair tI (.sl (.st (.pair tI (.pair tI (.pair tI tI))))))))] [⟨true, (.st (.pair tI (.pair tI (.sl (.st (.pair tI (.pair tI (.pair tI tI)))))))), y8⟩] []⟩, oH, oH] ⟨[(1, pV 0 0), (4, .one (.dat .str y6.1)), (5, bV y6.2), (6, pV 3 0)], [(3, .box [iC y8.1, iC y8.2.1, .all 2]), (2, .seq (.st (.pair tI (.pair tI (.pair tI tI)))) y8.2.2), (0, .box [iC a0.1, iC a0.2.1, .dat (.sl (.st (.pair tI (.pair tI (.pair tI tI))))) a0.2.2])], 4⟩ hX (by kernel_rfl) (allCons (f23_ok hc9) allNil) ?_
    obtain ⟨y10, hc11, hr⟩ := of_bind hr
    refine HT.rg2 [oH, ⟨none, .call [.imm (.st (.pair tI (.pair tI (.sl (.st (.pair tI (.pair tI (.pair tI tI))))))))] [⟨false, .str, y10.1⟩, ⟨false, .bool, y10.2⟩] []⟩, oH, oH, oH, oH, oH] ⟨[(1, pV 0 0), (4, .one (.dat .str y6.1)), (5, bV y6.2), (6, pV 3 0), (7, .one (.dat .str y10.1)), (8, bV y10.2)], [(3, .box [iC y8.1, iC y8.2.1, .all 2]), (2, .seq (.st (.pair tI (.pair tI (.pair tI tI)))) y8.2.2), (0, .box [iC a0.1, iC a0.2.1, .dat (.sl (.st (.pair tI (.pair tI (.pair tI tI))))) a0.2.2])], 4⟩ hX (by kernel_rfl) (allCons (f24_ok hc11) allNil) ?_
    refine HT.seq ?_
    obtain ⟨v12', hT14, hr⟩ := of_bind hr
    refine HT.join (fun (v12 : Bool) => ⟨[(1, pV 0 0), (6, pV 1 0), (34, bV v12)], [(0, .box [iC a0.1, iC a0.2.1, .dat (.sl (.st (.pair tI (.pair tI (.pair tI tI))))) a0.2.2]), (1, .box [iC y8.1, iC y8.2.1, .all 2]), (2, .seq (.st (.pair tI (.pair tI (.pair tI tI)))) y8.2.2)], 3⟩) (fun v => v = v12') (fun v12 hv13 => ?_) (fun cont => ?_)
    · subst hv13
      rcases of_bif hr with ⟨hb15, hr⟩ | ⟨hb15, hr⟩
      · refine HT.cond1 rfl hb15 ?_
        refine HT.rg2 [oH] ⟨[(2, bV false)], [], 3⟩ hX (by kernel_rfl) allNil ?_
        have hr := of_some hr
        subst hr
        exact HT.ret (qThenR ⟨[bV false], [], [], by kernel_rfl, by kernel_rfl, rfl, by kernel_rfl, by kernel_rfl, trivial⟩)
      · refine HT.cond0 rfl hb15 ?_
        refine HT.skip (qThen ?_)
        refine HT.seq ?_
        obtain ⟨y16, hc17, hr⟩ := of_bind hr
        obtain ⟨y18, hc19, hr⟩ := of_bind hr
        refine HT.dr2 3 [⟨oH, []⟩, ⟨oH, []⟩, ⟨⟨none, .call [.imm (.st (.pair tI (.pair tI (.sl (.st (.pair tI (.pair tI (.pair tI tI))))))))] [⟨true, (.st (.pair tI (.pair tI (.sl (.st (.pair tI (.pair tI (.pair tI tI)))))))), y16⟩] []⟩, [1]⟩] [[0, 1, 2], [0, 1, 2, 3]] [⟨none, .call [.imm (.st (.pair tI (.pair tI (.sl (.st (.pair tI (.pair tI (.pair tI tI)))))))), .imm (.st (.pair tI (.pair tI (.sl (.st (.pair tI (.pair tI (.pair tI tI))))))))] [⟨false, .bool, y18⟩] []⟩, oH] ⟨[(39, bV (!y18))], [], 4⟩ hX (by kernel_rfl) (by kernel_rfl) (allCons (f23_ok hc17) (allCons (f25_ok hc19) allNil)) ?_
        rcases of_bif hr with ⟨hb20, hr⟩ | ⟨hb20, hr⟩
        · refine HT.cond1 rfl hb20 ?_
          refine HT.rg2 [oH] ⟨[(2, bV false)], [], 4⟩ hX (by kernel_rfl) allNil ?_
          have hr := of_some hr
          subst hr
          exact HT.ret (qThenR ⟨[bV false], [], [], by kernel_rfl, by kernel_rfl, rfl, by kernel_rfl, by kernel_rfl, trivial⟩)
        · refine HT.cond0 rfl hb20 ?_
          refine HT.skip (qThen ?_)
          refine HT.rg2 [oH] ⟨[(2, bV true)], [], 4⟩ hX (by kernel_rfl) allNil ?_
          have hr := of_some hr
          subst hr
          exact HT.ret ⟨[bV true], [], [], by kernel_rfl, by kernel_rfl, rfl, by kernel_rfl, by kernel_rfl, trivial⟩
    · rcases of_bif hT14 with ⟨hb21, hT14⟩ | ⟨hb21, hT14⟩
      · exact HT.rgK [oH, oH, oH, oH, ⟨some true, .no⟩, ⟨some true, .no⟩, ⟨some true, .no⟩, ⟨none, .tv true⟩] [(0, 0), (3, 1), (2, 2)] [] hX (by kernel_rfl) (allCons hb21 (allCons hb21 (allCons hb21 (allCons hb21 allNil)))) (fun _ h => (qThen (h.ht (cont true (of_some hT14)))))
      · exact HT.rgK [oH, oH, oH, oH, ⟨some false, .no⟩, ⟨some false, .no⟩, ⟨some false, .no⟩, ⟨none, .tv false⟩] [(0, 0), (3, 1), (2, 2)] [] hX (by kernel_rfl) (allCons hb21 (allCons hb21 (allCons hb21 (allCons hb21 allNil)))) (fun _ h => (qThen (h.ht (cont (y10.2 != y6.2) (of_some hT14)))))

end Go.Proofs
