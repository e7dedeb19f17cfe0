import Derived.Test.YtjklkdlnabjcdaaDoorPlainTextShelf
import Derived.Test.YtjklkdlnabjcdaaDoorProg
set_option linter.unusedVariables false
set_option linter.unusedSimpArgs false
set_option linter.unusedSectionVars false
/-
  Functions as plain functions, and their contracts. Printed by a program.
-/
namespace Go.Proofs
open Go.Ide

noncomputable def laws_szInt64S (a0 : List Int) (a1 : Int) : Option (Int) :=
  bif (decide ((wsub .i64 a1 (lenI a0)) < (0 : Int))) then
    some (-1 : Int)
  else
    some (wsub .i64 a1 (lenI a0))

theorem f69_ok {a0 : List Int} {a1 : Int} {r : Int} (hr : laws_szInt64S a0 a1 = some r) : CallOK Tryd.prog 69 [.imm tLI a0, .imm tI a1] [⟨false, tI, r⟩] [] := by
  unfold laws_szInt64S at hr
  refine CallOK.of_body (ts := [(false, tI)]) Tryd.func69 rfl (by kernel_rfl) (Nat.le_of_ble_eq_true (by kernel_rfl)) fun cx hP hN hO hF => ?_
  have hO : cx.own.map Prod.fst = [] := hO
  have hX := CxIs.mk hP hN hO
  have hF := hF rfl
  show HT cx ⟨[(0, nV a0), (1, iV a1)], [], 0⟩ _ _
  refine HT.rg2 [oH] ⟨[(0, nV a0), (1, iV a1)], [], 0⟩ hX (by kernel_rfl) allNil ?_
  refine HT.rg2 (oHs 5) ⟨[(1, iV (wsub .i64 a1 (lenI a0)))], [], 0⟩ hX (by kernel_rfl) allNil ?_
  refine HT.seq ?_
  refine HT.rg2 (oHs 2) ⟨[(1, iV (wsub .i64 a1 (lenI a0))), (10, bV (decide ((wsub .i64 a1 (lenI a0)) < (0 : Int))))], [], 0⟩ hX (by kernel_rfl) allNil ?_
  rcases of_bif hr with ⟨hb1, hr⟩ | ⟨hb1, hr⟩
  · refine HT.cond1 rfl hb1 ?_
    refine HT.rg2 [oH] ⟨[(4, iV (-1 : Int))], [], 0⟩ hX (by kernel_rfl) allNil ?_
    have hr := of_some hr
    subst hr
    exact HT.ret (qThenR ⟨[iV (-1 : Int)], [], [], by kernel_rfl, by kernel_rfl, rfl, by kernel_rfl, by kernel_rfl, trivial⟩)
  · refine HT.cond0 rfl hb1 ?_
    refine HT.skip (qThen ?_)
    refine HT.rg2 (oHs 2) ⟨[(4, iV (wsub .i64 a1 (lenI a0)))], [], 0⟩ hX (by kernel_rfl) allNil ?_
    have hr := of_some hr
    subst hr
    exact HT.ret ⟨[iV (wsub .i64 a1 (lenI a0))], [], [], by kernel_rfl, by kernel_rfl, rfl, by kernel_rfl, by kernel_rfl, trivial⟩

noncomputable def laws_szBoolS (a0 : List Bool) (a1 : Int) : Option (Int) :=
  bif (decide ((wsub .i64 a1 (lenI a0)) < (0 : Int))) then
    some (-1 : Int)
  else
    some (wsub .i64 a1 (lenI a0))

theorem f70_ok {a0 : List Bool} {a1 : Int} {r : Int} (hr : laws_szBoolS a0 a1 = some r) : CallOK Tryd.prog 70 [.imm (.sl .bool) a0, .imm tI a1] [⟨false, tI, r⟩] [] := by
  unfold laws_szBoolS at hr
  refine CallOK.of_body (ts := [(false, tI)]) Tryd.func70 rfl (by kernel_rfl) (Nat.le_of_ble_eq_true (by kernel_rfl)) fun cx hP hN hO hF => ?_
  have hO : cx.own.map Prod.fst = [] := hO
  have hX := CxIs.mk hP hN hO
  have hF := hF rfl
  show HT cx ⟨[(0, .one (.dat (.sl .bool) a0)), (1, iV a1)], [], 0⟩ _ _
  refine HT.rg2 [oH] ⟨[(0, .one (.dat (.sl .bool) a0)), (1, iV a1)], [], 0⟩ hX (by kernel_rfl) allNil ?_
  refine HT.rg2 (oHs 5) ⟨[(1, iV (wsub .i64 a1 (lenI a0)))], [], 0⟩ hX (by kernel_rfl) allNil ?_
  refine HT.seq ?_
  refine HT.rg2 (oHs 2) ⟨[(1, iV (wsub .i64 a1 (lenI a0))), (10, bV (decide ((wsub .i64 a1 (lenI a0)) < (0 : Int))))], [], 0⟩ hX (by kernel_rfl) allNil ?_
  rcases of_bif hr with ⟨hb1, hr⟩ | ⟨hb1, hr⟩
  · refine HT.cond1 rfl hb1 ?_
    refine HT.rg2 [oH] ⟨[(4, iV (-1 : Int))], [], 0⟩ hX (by kernel_rfl) allNil ?_
    have hr := of_some hr
    subst hr
    exact HT.ret (qThenR ⟨[iV (-1 : Int)], [], [], by kernel_rfl, by kernel_rfl, rfl, by kernel_rfl, by kernel_rfl, trivial⟩)
  · refine HT.cond0 rfl hb1 ?_
    refine HT.skip (qThen ?_)
    refine HT.rg2 (oHs 2) ⟨[(4, iV (wsub .i64 a1 (lenI a0)))], [], 0⟩ hX (by kernel_rfl) allNil ?_
    have hr := of_some hr
    subst hr
    exact HT.ret ⟨[iV (wsub .i64 a1 (lenI a0))], [], [], by kernel_rfl, by kernel_rfl, rfl, by kernel_rfl, by kernel_rfl, trivial⟩

noncomputable def laws_szPlain (a0 : Int × Int × List Int × List Bool) (a1 : Int) : Option (Int) :=
  (laws_szInt64S a0.2.2.1 a1).bind fun y1 =>
  bif (decide (y1 < (0 : Int))) then
    some (-1 : Int)
  else
    (laws_szBoolS a0.2.2.2 y1).bind fun y4 =>
    bif (decide (y4 < (0 : Int))) then
      some (-1 : Int)
    else
      some y4

theorem f26_ok {a0 : Int × Int × List Int × List Bool} {a1 : Int} {r : Int} (hr : laws_szPlain a0 a1 = some r) : CallOK Tryd.prog 26 [.imm (.st (.pair tI (.pair tI (.pair tLI (.sl .bool))))) a0, .imm tI a1] [⟨false, tI, r⟩] [] := by
  unfold laws_szPlain at hr
  refine CallOK.of_body (ts := [(false, tI)]) Tryd.func26 rfl (by kernel_rfl) (Nat.le_of_ble_eq_true (by kernel_rfl)) fun cx hP hN hO hF => ?_
  have hO : cx.own.map Prod.fst = [] := hO
  have hX := CxIs.mk hP hN hO
  have hF := hF rfl
  show HT cx ⟨[(0, .agg [iC a0.1, iC a0.2.1, nC a0.2.2.1, .dat (.sl .bool) a0.2.2.2]), (1, iV a1)], [], 0⟩ _ _
  refine HT.rg2 (oHs 2) ⟨[(1, iV a1), (2, pV 0 0)], [(0, .box [iC a0.1, iC a0.2.1, nC a0.2.2.1, .dat (.sl .bool) a0.2.2.2])], 1⟩ hX (by kernel_rfl) allNil ?_
  obtain ⟨y1, hc2, hr⟩ := of_bind hr
  refine HT.rg2 [oH, oH, oH, ⟨none, .call [.imm tLI, .imm tI] [⟨false, tI, y1⟩] []⟩, oH] ⟨[(1, iV y1), (2, pV 0 0)], [(0, .box [iC a0.1, iC a0.2.1, nC a0.2.2.1, .dat (.sl .bool) a0.2.2.2])], 1⟩ hX (by kernel_rfl) (allCons (f69_ok hc2) allNil) ?_
  refine HT.seq ?_
  refine HT.rg2 (oHs 2) ⟨[(1, iV y1), (2, pV 0 0), (10, bV (decide (y1 < (0 : Int))))], [(0, .box [iC a0.1, iC a0.2.1, nC a0.2.2.1, .dat (.sl .bool) a0.2.2.2])], 1⟩ hX (by kernel_rfl) allNil ?_
  rcases of_bif hr with ⟨hb3, hr⟩ | ⟨hb3, hr⟩
  · refine HT.cond1 rfl hb3 ?_
    refine HT.rg2 [oH] ⟨[(4, iV (-1 : Int))], [], 1⟩ hX (by kernel_rfl) allNil ?_
    have hr := of_some hr
    subst hr
    exact HT.ret (qThenR ⟨[iV (-1 : Int)], [], [], by kernel_rfl, by kernel_rfl, rfl, by kernel_rfl, by kernel_rfl, trivial⟩)
  · refine HT.cond0 rfl hb3 ?_
    refine HT.skip (qThen ?_)
    obtain ⟨y4, hc5, hr⟩ := of_bind hr
    refine HT.rg2 [oH, oH, oH, ⟨none, .call [.imm (.sl .bool), .imm tI] [⟨false, tI, y4⟩] []⟩, oH] ⟨[(1, iV y4)], [], 1⟩ hX (by kernel_rfl) (allCons (f70_ok hc5) allNil) ?_
    refine HT.seq ?_
    refine HT.rg2 (oHs 2) ⟨[(1, iV y4), (16, bV (decide (y4 < (0 : Int))))], [], 1⟩ hX (by kernel_rfl) allNil ?_
    rcases of_bif hr with ⟨hb6, hr⟩ | ⟨hb6, hr⟩
    · refine HT.cond1 rfl hb6 ?_
      refine HT.rg2 [oH] ⟨[(4, iV (-1 : Int))], [], 1⟩ hX (by kernel_rfl) allNil ?_
      have hr := of_some hr
      subst hr
      exact HT.ret (qThenR ⟨[iV (-1 : Int)], [], [], by kernel_rfl, by kernel_rfl, rfl, by kernel_rfl, by kernel_rfl, trivial⟩)
    · refine HT.cond0 rfl hb6 ?_
      refine HT.skip (qThen ?_)
      refine HT.rg2 (oHs 2) ⟨[(4, iV y4)], [], 1⟩ hX (by kernel_rfl) allNil ?_
      have hr := of_some hr
      subst hr
      exact HT.ret ⟨[iV y4], [], [], by kernel_rfl, by kernel_rfl, rfl, by kernel_rfl, by kernel_rfl, trivial⟩

noncomputable def laws_toInt64S_B1 (a0 : List Int) (s2 : Int × List Int) : Option ((Int × List Int) ⊕ (List Int)) :=
  bif (decide (s2.1 < (lenI a0))) then
    guardP ((0 : Int) ≤ s2.1 ∧ s2.1 < lenI a0) (
      guardP ((0 : Int) ≤ s2.1 ∧ s2.1 < lenI s2.2) (
        some (.inl ((wadd .i64 s2.1 (1 : Int)), (List.set s2.2 (Int.toNat s2.1) (List.getD a0 (Int.toNat s2.1) (0 : Int)))))))
  else
    some (.inr s2.2)

noncomputable def laws_toInt64S (a0 : List Int) : Option (List Int) :=
  guardP ((0 : Int) ≤ (lenI a0) ∧ (lenI a0) ≤ 4294967296) (
    (rounds (laws_toInt64S_B1 a0) ((0 : Int), (List.replicate (Int.toNat (lenI a0)) (0 : Int)))).bind fun r4 =>
    some r4)

theorem f73_ok {a0 : List Int} {r : List Int} (hr : laws_toInt64S a0 = some r) : CallOK Tryd.prog 73 [.imm tLI a0] [⟨true, tLI, r⟩] [] := by
  unfold laws_toInt64S at hr
  refine CallOK.of_body (ts := [(true, tLI)]) Tryd.func73 rfl (by kernel_rfl) (Nat.le_of_ble_eq_true (by kernel_rfl)) fun cx hP hN hO hF => ?_
  have hO : cx.own.map Prod.fst = [] := hO
  have hX := CxIs.mk hP hN hO
  have hF := hF rfl
  show HT cx ⟨[(0, nV a0)], [], 0⟩ _ _
  refine HT.rg2 [oH] ⟨[(0, nV a0)], [], 0⟩ hX (by kernel_rfl) allNil ?_
  obtain ⟨hg1, hr⟩ := of_guard hr
  refine HT.rg2 [oH, oH, ⟨none, .ty tI⟩, oH] ⟨[(0, nV a0), (3, aV 0)], [(0, .seq tI (List.replicate (Int.toNat (lenI a0)) (0 : Int)))], 1⟩ hX (by kernel_rfl) (allCons (show (0 : Int) ≤ (lenI a0) ∧ (lenI a0) ≤ (lenI a0) ∧ (lenI a0) ≤ 4294967296 from ⟨hg1.1, Int.le_refl _, hg1.2⟩) allNil) ?_
  refine HT.seq ?_
  refine HT.rg2 [oH] ⟨[(0, nV a0), (3, aV 0), (4, iV (0 : Int))], [(0, .seq tI (List.replicate (Int.toNat (lenI a0)) (0 : Int)))], 1⟩ hX (by kernel_rfl) allNil ?_
  refine HT.block ?_
  obtain ⟨r3, hL11, hr⟩ := of_bind hr
  refine HT.loopL (fun (s2 : Int × List Int) => ⟨[(0, nV a0), (3, aV 0), (4, iV s2.1)], [(0, .seq tI s2.2)], 1⟩) (fun (r4 : List Int) => (.exit 0, ⟨[(3, aV 0)], [(0, .seq tI r4)], 1⟩)) (Le.re [(0, 0)] [] hX (by kernel_rfl)) hL11 ?_ (fun s2 x5 hx6 hk7 => ?_)
  · refine (qBlockX (qThen ?_))
    refine HT.rg2 (oHs 2) ⟨[(2, aV 0)], [(0, .seq tI r3)], 1⟩ hX (by kernel_rfl) allNil ?_
    have hr := of_some hr
    subst hr
    exact HT.ret ⟨[aV 0], [0], [], by kernel_rfl, by kernel_rfl, rfl, by kernel_rfl, by kernel_rfl, trivial⟩
  · refine HT.seq ?_
    refine HT.rg2 (oHs 4) ⟨[(0, nV a0), (3, aV 0), (4, iV s2.1), (11, bV (decide (s2.1 < (lenI a0))))], [(0, .seq tI s2.2)], 1⟩ hX (by kernel_rfl) allNil ?_
    rcases of_bif hx6 with ⟨hb8, hx6⟩ | ⟨hb8, hx6⟩
    · refine HT.cond1 rfl hb8 ?_
      refine HT.skip (qThen ?_)
      refine HT.seq ?_
      refine HT.block ?_
      obtain ⟨hg9, hx6⟩ := of_guard hx6
      obtain ⟨hg10, hx6⟩ := of_guard hx6
      refine HT.rgL (oHs 8) ⟨[(0, nV a0), (3, aV 0), (4, iV s2.1)], [(0, .seq tI (List.set s2.2 (Int.toNat s2.1) (List.getD a0 (Int.toNat s2.1) (0 : Int))))], 1⟩ hX (by kernel_rfl) (allCons hg9 (allCons hg10 (allCons (natLt hg10) allNil))) (qBlock (qThen ?_))
      have hx6 := of_some hx6
      subst hx6
      exact HT.rgK (oHs 3) [(0, 0)] [] hX (by kernel_rfl) allNil (fun _ h => (qLoopN ⟨((wadd .i64 s2.1 (1 : Int)), (List.set s2.2 (Int.toNat s2.1) (List.getD a0 (Int.toNat s2.1) (0 : Int)))), rfl, h⟩))
    · refine HT.cond0 rfl hb8 ?_
      have hx6 := of_some hx6
      subst hx6
      exact HT.exitL (Le.re [(0, 0)] [] hX (by kernel_rfl)) (qThenE (qLoopE (hk7 s2.2 rfl)))

noncomputable def laws_toBoolS_B1 (a0 : List Bool) (s2 : Int × List Bool) : Option ((Int × List Bool) ⊕ (List Bool)) :=
  bif (decide (s2.1 < (lenI a0))) then
    guardP ((0 : Int) ≤ s2.1 ∧ s2.1 < lenI a0) (
      guardP ((0 : Int) ≤ s2.1 ∧ s2.1 < lenI s2.2) (
        some (.inl ((wadd .i64 s2.1 (1 : Int)), (List.set s2.2 (Int.toNat s2.1) (List.getD a0 (Int.toNat s2.1) false))))))
  else
    some (.inr s2.2)

noncomputable def laws_toBoolS (a0 : List Bool) : Option (List Bool) :=
  guardP ((0 : Int) ≤ (lenI a0) ∧ (lenI a0) ≤ 4294967296) (
    (rounds (laws_toBoolS_B1 a0) ((0 : Int), (List.replicate (Int.toNat (lenI a0)) false))).bind fun r4 =>
    some r4)

theorem f74_ok {a0 : List Bool} {r : List Bool} (hr : laws_toBoolS a0 = some r) : CallOK Tryd.prog 74 [.imm (.sl .bool) a0] [⟨true, (.sl .bool), r⟩] [] := by
  unfold laws_toBoolS at hr
  refine CallOK.of_body (ts := [(true, (.sl .bool))]) Tryd.func74 rfl (by kernel_rfl) (Nat.le_of_ble_eq_true (by kernel_rfl)) fun cx hP hN hO hF => ?_
  have hO : cx.own.map Prod.fst = [] := hO
  have hX := CxIs.mk hP hN hO
  have hF := hF rfl
  show HT cx ⟨[(0, .one (.dat (.sl .bool) a0))], [], 0⟩ _ _
  refine HT.rg2 [oH] ⟨[(0, .one (.dat (.sl .bool) a0))], [], 0⟩ hX (by kernel_rfl) allNil ?_
  obtain ⟨hg1, hr⟩ := of_guard hr
  refine HT.rg2 [oH, oH, ⟨none, .ty .bool⟩, oH] ⟨[(0, .one (.dat (.sl .bool) a0)), (3, aV 0)], [(0, .seq .bool (List.replicate (Int.toNat (lenI a0)) false))], 1⟩ hX (by kernel_rfl) (allCons (show (0 : Int) ≤ (lenI a0) ∧ (lenI a0) ≤ (lenI a0) ∧ (lenI a0) ≤ 4294967296 from ⟨hg1.1, Int.le_refl _, hg1.2⟩) allNil) ?_
  refine HT.seq ?_
  refine HT.rg2 [oH] ⟨[(0, .one (.dat (.sl .bool) a0)), (3, aV 0), (4, iV (0 : Int))], [(0, .seq .bool (List.replicate (Int.toNat (lenI a0)) false))], 1⟩ hX (by kernel_rfl) allNil ?_
  refine HT.block ?_
  obtain ⟨r3, hL11, hr⟩ := of_bind hr
  refine HT.loopL (fun (s2 : Int × List Bool) => ⟨[(0, .one (.dat (.sl .bool) a0)), (3, aV 0), (4, iV s2.1)], [(0, .seq .bool s2.2)], 1⟩) (fun (r4 : List Bool) => (.exit 0, ⟨[(3, aV 0)], [(0, .seq .bool r4)], 1⟩)) (Le.re [(0, 0)] [] hX (by kernel_rfl)) hL11 ?_ (fun s2 x5 hx6 hk7 => ?_)
  · refine (qBlockX (qThen ?_))
    refine HT.rg2 (oHs 2) ⟨[(2, aV 0)], [(0, .seq .bool r3)], 1⟩ hX (by kernel_rfl) allNil ?_
    have hr := of_some hr
    subst hr
    exact HT.ret ⟨[aV 0], [0], [], by kernel_rfl, by kernel_rfl, rfl, by kernel_rfl, by kernel_rfl, trivial⟩
  · refine HT.seq ?_
    refine HT.rg2 (oHs 4) ⟨[(0, .one (.dat (.sl .bool) a0)), (3, aV 0), (4, iV s2.1), (11, bV (decide (s2.1 < (lenI a0))))], [(0, .seq .bool s2.2)], 1⟩ hX (by kernel_rfl) allNil ?_
    rcases of_bif hx6 with ⟨hb8, hx6⟩ | ⟨hb8, hx6⟩
    · refine HT.cond1 rfl hb8 ?_
      refine HT.skip (qThen ?_)
      refine HT.seq ?_
      refine HT.block ?_
      obtain ⟨hg9, hx6⟩ := of_guard hx6
      obtain ⟨hg10, hx6⟩ := of_guard hx6
      refine HT.rgL (oHs 8) ⟨[(0, .one (.dat (.sl .bool) a0)), (3, aV 0), (4, iV s2.1)], [(0, .seq .bool (List.set s2.2 (Int.toNat s2.1) (List.getD a0 (Int.toNat s2.1) false)))], 1⟩ hX (by kernel_rfl) (allCons hg9 (allCons hg10 (allCons (natLt hg10) allNil))) (qBlock (qThen ?_))
      have hx6 := of_some hx6
      subst hx6
      exact HT.rgK (oHs 3) [(0, 0)] [] hX (by kernel_rfl) allNil (fun _ h => (qLoopN ⟨((wadd .i64 s2.1 (1 : Int)), (List.set s2.2 (Int.toNat s2.1) (List.getD a0 (Int.toNat s2.1) false))), rfl, h⟩))
    · refine HT.cond0 rfl hb8 ?_
      have hx6 := of_some hx6
      subst hx6
      exact HT.exitL (Le.re [(0, 0)] [] hX (by kernel_rfl)) (qThenE (qLoopE (hk7 s2.2 rfl)))

noncomputable def laws_toPlain (a0 : Int × Int × List Int × List Bool) : Option ((Int × Int × List Int × List Bool)) :=
  (laws_toInt64S a0.2.2.1).bind fun y1 =>
  (laws_toBoolS a0.2.2.2).bind fun y3 =>
  some (a0.1, a0.2.1, y1, y3)

theorem f28_ok {a0 : Int × Int × List Int × List Bool} {r : (Int × Int × List Int × List Bool)} (hr : laws_toPlain a0 = some r) : CallOK Tryd.prog 28 [.imm (.st (.pair tI (.pair tI (.pair tLI (.sl .bool))))) a0] [⟨true, (.st (.pair tI (.pair tI (.pair tLI (.sl .bool))))), r⟩] [] := by
  unfold laws_toPlain at hr
  refine CallOK.of_body (ts := [(true, (.st (.pair tI (.pair tI (.pair tLI (.sl .bool))))))]) Tryd.func28 rfl (by kernel_rfl) (Nat.le_of_ble_eq_true (by kernel_rfl)) fun cx hP hN hO hF => ?_
  have hO : cx.own.map Prod.fst = [] := hO
  have hX := CxIs.mk hP hN hO
  have hF := hF rfl
  show HT cx ⟨[(0, .agg [iC a0.1, iC a0.2.1, nC a0.2.2.1, .dat (.sl .bool) a0.2.2.2])], [], 0⟩ _ _
  refine HT.rg2 (oHs 2) ⟨[(1, pV 0 0), (2, pV 1 0)], [(1, .box [iC (0 : Int), iC (0 : Int), .nilS, .nilS]), (0, .box [iC a0.1, iC a0.2.1, nC a0.2.2.1, .dat (.sl .bool) a0.2.2.2])], 2⟩ hX (by kernel_rfl) allNil ?_
  refine HT.rg2 [oH] ⟨[(1, pV 0 0), (2, pV 1 0), (3, pV 2 0)], [(2, .box [iC (0 : Int), iC (0 : Int), .nilS, .nilS]), (1, .box [iC (0 : Int), iC (0 : Int), .nilS, .nilS]), (0, .box [iC a0.1, iC a0.2.1, nC a0.2.2.1, .dat (.sl .bool) a0.2.2.2])], 3⟩ hX (by kernel_rfl) allNil ?_
  refine HT.rg2 (oHs 4) ⟨[(1, pV 0 0), (2, pV 1 0), (3, pV 2 0)], [(2, .box [iC a0.1, iC (0 : Int), .nilS, .nilS]), (1, .box [iC (0 : Int), iC (0 : Int), .nilS, .nilS]), (0, .box [iC a0.1, iC a0.2.1, nC a0.2.2.1, .dat (.sl .bool) a0.2.2.2])], 3⟩ hX (by kernel_rfl) allNil ?_
  refine HT.rg2 (oHs 4) ⟨[(1, pV 0 0), (2, pV 1 0), (3, pV 2 0)], [(2, .box [iC a0.1, iC a0.2.1, .nilS, .nilS]), (1, .box [iC (0 : Int), iC (0 : Int), .nilS, .nilS]), (0, .box [iC a0.1, iC a0.2.1, nC a0.2.2.1, .dat (.sl .bool) a0.2.2.2])], 3⟩ hX (by kernel_rfl) allNil ?_
  obtain ⟨y1, hc2, hr⟩ := of_bind hr
  refine HT.rg2 [oH, oH, ⟨none, .call [.imm tLI] [⟨true, tLI, y1⟩] []⟩, oH, oH] ⟨[(1, pV 0 0), (2, pV 1 0), (3, pV 2 0)], [(2, .box [iC a0.1, iC a0.2.1, .all 3, .nilS]), (3, .seq tI y1), (1, .box [iC (0 : Int), iC (0 : Int), .nilS, .nilS]), (0, .box [iC a0.1, iC a0.2.1, nC a0.2.2.1, .dat (.sl .bool) a0.2.2.2])], 4⟩ hX (by kernel_rfl) (allCons (f73_ok hc2) allNil) ?_
  obtain ⟨y3, hc4, hr⟩ := of_bind hr
  refine HT.rg2 [oH, oH, ⟨none, .call [.imm (.sl .bool)] [⟨true, (.sl .bool), y3⟩] []⟩, oH, oH] ⟨[(2, pV 1 0), (3, pV 2 0)], [(2, .box [iC a0.1, iC a0.2.1, .all 3, .all 4]), (4, .seq .bool y3), (3, .seq tI y1), (1, .box [iC (0 : Int), iC (0 : Int), .nilS, .nilS])], 5⟩ hX (by kernel_rfl) (allCons (f74_ok hc4) allNil) ?_
  refine HT.rg2 (oHs 2) ⟨[(2, pV 1 0)], [(1, .box [iC a0.1, iC a0.2.1, .all 3, .all 4]), (4, .seq .bool y3), (3, .seq tI y1)], 5⟩ hX (by kernel_rfl) allNil ?_
  have hr := of_some hr
  subst hr
  exact HT.ret ⟨[.agg [iC a0.1, iC a0.2.1, .all 3, .all 4]], [3, 4], [], by kernel_rfl, by kernel_rfl, rfl, by kernel_rfl, by kernel_rfl, trivial⟩

noncomputable def spec_l01Dec_B1  (s1 : Int × List Int) : Option ((Int × List Int) ⊕ (List Int)) :=
  (show Option (Bool) from
    bif ((lenI s1.2) == (0 : Int)) then
      some true
    else
      some (s1.1 != (0 : Int))).bind fun v12 =>
  bif v12 then
    (show Option (Int) from
      bif (decide ((Int.tmod s1.1 (10 : Int)) < (0 : Int))) then
        some (IntKind.wrap .i64 (0 - (Int.tmod s1.1 (10 : Int))))
      else
        some (Int.tmod s1.1 (10 : Int))).bind fun v16 =>
    guardP (List.length ([(IntKind.wrap .u8 (wadd .i64 (48 : Int) v16))] : List Int) + List.length s1.2 ≤ appMax) (
      some (.inl ((IntKind.wrap .i64 (Int.tdiv s1.1 (10 : Int))), (([(IntKind.wrap .u8 (wadd .i64 (48 : Int) v16))] : List Int) ++ s1.2))))
  else
    some (.inr s1.2)

noncomputable def spec_l01Dec (a0 : Int) : Option (List UInt8) :=
  (rounds (spec_l01Dec_B1) (a0, ([] : List Int))).bind fun r3 =>
  (show Option (List Int) from
    bif (decide (a0 < (0 : Int))) then
      guardP (List.length ([(45 : Int)] : List Int) + List.length r3 ≤ appMax) (
        some (([(45 : Int)] : List Int) ++ r3))
    else
      some r3).bind fun v4 =>
  some (bytesO v4)

theorem f104_ok {a0 : Int} {r : List UInt8} (hr : spec_l01Dec a0 = some r) : CallOK Tryd.prog 104 [.imm tI a0] [⟨false, .str, r⟩] [] := by
  unfold spec_l01Dec at hr
  refine CallOK.of_body (ts := [(false, .str)]) Tryd.func104 rfl (by kernel_rfl) (Nat.le_of_ble_eq_true (by kernel_rfl)) fun cx hP hN hO hF => ?_
  have hO : cx.own.map Prod.fst = [] := hO
  have hX := CxIs.mk hP hN hO
  have hF := hF rfl
  show HT cx ⟨[(0, iV a0)], [], 0⟩ _ _
  refine HT.rg2 [oH] ⟨[(0, iV a0)], [], 0⟩ hX (by kernel_rfl) allNil ?_
  refine HT.rg2 (oHs 2) ⟨[(0, iV a0), (3, .one (.nilS))], [], 0⟩ hX (by kernel_rfl) allNil ?_
  refine HT.rg2 (oHs 2) ⟨[(0, iV a0), (3, .one (.nilS)), (4, iV a0)], [], 0⟩ hX (by kernel_rfl) allNil ?_
  refine HT.seq ?_
  refine HT.block ?_
  obtain ⟨r2, hL22, hr⟩ := of_bind hr
  refine HT.loopL (fun (s1 : Int × List Int) => ⟨[(0, iV a0), (3, aV 0), (4, iV s1.1)], [(0, .seq (.int .u8) s1.2)], 1⟩) (fun (r3 : List Int) => (.exit 0, ⟨[(0, iV a0), (3, aV 0)], [(0, .seq (.int .u8) r3)], 1⟩)) (Le.re [] [0] hX (by kernel_rfl)) hL22 ?_ (fun s1 x9 hx10 hk11 => ?_)
  · refine (qBlockX (qThen ?_))
    obtain ⟨v4', hT6, hr⟩ := of_bind hr
    refine HT.join (fun (v4 : List Int) => ⟨[(3, aV 0)], [(0, .seq (.int .u8) v4)], 1⟩) (fun v => v = v4') (fun v4 hv5 => ?_) (fun cont => ?_)
    · subst hv5
      refine HT.rg2 (oHs 3) ⟨[(2, .one (.dat .str (bytesO v4)))], [], 1⟩ hX (by kernel_rfl) allNil ?_
      have hr := of_some hr
      subst hr
      exact HT.ret ⟨[.one (.dat .str (bytesO v4))], [], [], by kernel_rfl, by kernel_rfl, rfl, by kernel_rfl, by kernel_rfl, trivial⟩
    · refine HT.rg2 (oHs 2) ⟨[(3, aV 0), (30, bV (decide (a0 < (0 : Int))))], [(0, .seq (.int .u8) r2)], 1⟩ hX (by kernel_rfl) allNil ?_
      rcases of_bif hT6 with ⟨hb7, hT6⟩ | ⟨hb7, hT6⟩
      · refine HT.cond1 rfl hb7 ?_
        obtain ⟨hg8, hT6⟩ := of_guard hT6
        exact HT.rgK [⟨none, .ty (.int .u8)⟩, oH, ⟨none, .ty (.int .u8)⟩, oH] [(2, 0)] [] hX (by kernel_rfl) (allCons hg8 allNil) (fun _ h => (qThen (h.ht (cont (([(45 : Int)] : List Int) ++ r2) (of_some hT6)))))
      · refine HT.cond0 rfl hb7 ?_
        refine HT.skip (qThen ?_)
        exact (Le.re [(0, 0)] [] hX (by kernel_rfl)).ht (cont r2 (of_some hT6))
  · refine HT.seq ?_
    obtain ⟨v12', hT14, hx10⟩ := of_bind hx10
    refine HT.join (fun (v12 : Bool) => ⟨[(0, iV a0), (3, aV 0), (4, iV s1.1), (14, bV v12)], [(0, .seq (.int .u8) s1.2)], 1⟩) (fun v => v = v12') (fun v12 hv13 => ?_) (fun cont => ?_)
    · subst hv13
      rcases of_bif hx10 with ⟨hb15, hx10⟩ | ⟨hb15, hx10⟩
      · refine HT.cond1 rfl hb15 ?_
        refine HT.skip (qThen ?_)
        refine HT.block ?_
        refine HT.rg2 (oHs 3) ⟨[(0, iV a0), (3, aV 0), (4, iV s1.1), (5, iV (Int.tmod s1.1 (10 : Int)))], [(0, .seq (.int .u8) s1.2)], 1⟩ hX (by kernel_rfl) (allCons (show (10 : Int) ≠ 0 from by decide) allNil) ?_
        obtain ⟨v16', hT18, hx10⟩ := of_bind hx10
        refine HT.join (fun (v16 : Int) => ⟨[(0, iV a0), (3, aV 0), (4, iV s1.1), (5, iV v16)], [(0, .seq (.int .u8) s1.2)], 1⟩) (fun v => v = v16') (fun v16 hv17 => ?_) (fun cont => ?_)
        · subst hv17
          obtain ⟨hg19, hx10⟩ := of_guard hx10
          refine HT.rg2 [oH, oH, oH, ⟨none, .ty (.int .u8)⟩, oH, ⟨none, .ty (.int .u8)⟩, oH] ⟨[(0, iV a0), (3, aV 2), (4, iV s1.1)], [(2, .seq (.int .u8) (([(IntKind.wrap .u8 (wadd .i64 (48 : Int) v16))] : List Int) ++ s1.2))], 3⟩ hX (by kernel_rfl) (allCons hg19 allNil) ?_
          have hx10 := of_some hx10
          subst hx10
          exact HT.rgK (oHs 3) [(2, 0)] [] hX (by kernel_rfl) (allCons (show (10 : Int) ≠ 0 from by decide) allNil) (fun _ h => (qBlock (qLoopN ⟨((IntKind.wrap .i64 (Int.tdiv s1.1 (10 : Int))), (([(IntKind.wrap .u8 (wadd .i64 (48 : Int) v16))] : List Int) ++ s1.2)), rfl, h⟩)))
        · refine HT.rg2 (oHs 2) ⟨[(0, iV a0), (3, aV 0), (4, iV s1.1), (5, iV (Int.tmod s1.1 (10 : Int))), (18, bV (decide ((Int.tmod s1.1 (10 : Int)) < (0 : Int))))], [(0, .seq (.int .u8) s1.2)], 1⟩ hX (by kernel_rfl) allNil ?_
          rcases of_bif hT18 with ⟨hb20, hT18⟩ | ⟨hb20, hT18⟩
          · refine HT.cond1 rfl hb20 ?_
            exact HT.rgK (oHs 3) [(0, 0)] [] hX (by kernel_rfl) allNil (fun _ h => (qThen (h.ht (cont (IntKind.wrap .i64 (0 - (Int.tmod s1.1 (10 : Int)))) (of_some hT18)))))
          · refine HT.cond0 rfl hb20 ?_
            refine HT.skip (qThen ?_)
            exact (Le.re [(0, 0)] [] hX (by kernel_rfl)).ht (cont (Int.tmod s1.1 (10 : Int)) (of_some hT18))
      · refine HT.cond0 rfl hb15 ?_
        have hx10 := of_some hx10
        subst hx10
        exact HT.exitL (Le.re [(0, 0)] [] hX (by kernel_rfl)) (qThenE (qLoopE (hk11 s1.2 rfl)))
    · rcases of_bif hT14 with ⟨hb21, hT14⟩ | ⟨hb21, hT14⟩
      · exact HT.rgK [oH, oH, oH, oH, ⟨some true, .no⟩, ⟨some true, .no⟩, ⟨none, .tv true⟩] [(0, 0)] [] hX (by kernel_rfl) (allCons hb21 (allCons hb21 (allCons hb21 allNil))) (fun _ h => (qThen (h.ht (cont true (of_some hT14)))))
      · exact HT.rgK [oH, oH, oH, oH, ⟨some false, .no⟩, ⟨some false, .no⟩, ⟨none, .tv false⟩] [(0, 0)] [] hX (by kernel_rfl) (allCons hb21 (allCons hb21 (allCons hb21 allNil))) (fun _ h => (qThen (h.ht (cont (s1.1 != (0 : Int)) (of_some hT14)))))

noncomputable def spec_l01Text_B1 (a0 : List Int) (s5 : List UInt8 × Int) : Option ((List UInt8 × Int) ⊕ (List UInt8)) :=
  bif (decide (s5.2 < (lenI a0))) then
    guardP ((0 : Int) ≤ s5.2 ∧ s5.2 < lenI a0) (
      (spec_l01Dec (List.getD a0 (Int.toNat s5.2) (0 : Int))).bind fun y13 =>
      guardP (List.length ([44] : List UInt8) + List.length y13 ≤ appMax) (
        guardP (List.length s5.1 + List.length (([44] : List UInt8) ++ y13) ≤ appMax) (
          some (.inl ((s5.1 ++ (([44] : List UInt8) ++ y13)), (wadd .i64 s5.2 (1 : Int)))))))
  else
    some (.inr s5.1)

noncomputable def spec_l01Text (a0 : List Int) : Option (List UInt8) :=
  bif ((lenI a0) == (0 : Int)) then
    some ([110, 111, 110, 101] : List UInt8)
  else
    guardP ((0 : Int) ≤ (0 : Int) ∧ (0 : Int) < lenI a0) (
      (spec_l01Dec (List.getD a0 (Int.toNat (0 : Int)) (0 : Int))).bind fun y3 =>
      (rounds (spec_l01Text_B1 a0) (y3, (1 : Int))).bind fun r7 =>
      some r7)

theorem f112_ok {a0 : List Int} {r : List UInt8} (hr : spec_l01Text a0 = some r) : CallOK Tryd.prog 112 [.imm tLI a0] [⟨false, .str, r⟩] [] := by
  unfold spec_l01Text at hr
  refine CallOK.of_body (ts := [(false, .str)]) Tryd.func112 rfl (by kernel_rfl) (Nat.le_of_ble_eq_true (by kernel_rfl)) fun cx hP hN hO hF => ?_
  have hO : cx.own.map Prod.fst = [] := hO
  have hX := CxIs.mk hP hN hO
  have hF := hF rfl
  show HT cx ⟨[(0, nV a0)], [], 0⟩ _ _
  refine HT.rg2 [oH] ⟨[(0, nV a0)], [], 0⟩ hX (by kernel_rfl) allNil ?_
  refine HT.seq ?_
  refine HT.rg2 (oHs 3) ⟨[(0, nV a0), (7, bV ((lenI a0) == (0 : Int)))], [], 0⟩ hX (by kernel_rfl) allNil ?_
  rcases of_bif hr with ⟨hb1, hr⟩ | ⟨hb1, hr⟩
  · refine HT.cond1 rfl hb1 ?_
    refine HT.rg2 [oH] ⟨[(2, .one (.dat .str ([110, 111, 110, 101] : List UInt8)))], [], 0⟩ hX (by kernel_rfl) allNil ?_
    have hr := of_some hr
    subst hr
    exact HT.ret (qThenR ⟨[.one (.dat .str ([110, 111, 110, 101] : List UInt8))], [], [], by kernel_rfl, by kernel_rfl, rfl, by kernel_rfl, by kernel_rfl, trivial⟩)
  · refine HT.cond0 rfl hb1 ?_
    refine HT.skip (qThen ?_)
    obtain ⟨hg2, hr⟩ := of_guard hr
    obtain ⟨y3, hc4, hr⟩ := of_bind hr
    refine HT.rg2 [oH, oH, oH, ⟨none, .call [.imm tI] [⟨false, .str, y3⟩] []⟩, oH] ⟨[(0, nV a0), (3, .one (.dat .str y3))], [], 0⟩ hX (by kernel_rfl) (allCons hg2 (allCons (f104_ok hc4) allNil)) ?_
    refine HT.seq ?_
    refine HT.rg2 [oH] ⟨[(0, nV a0), (3, .one (.dat .str y3)), (4, iV (1 : Int))], [], 0⟩ hX (by kernel_rfl) allNil ?_
    refine HT.block ?_
    obtain ⟨r6, hL17, hr⟩ := of_bind hr
    refine HT.loopL (fun (s5 : List UInt8 × Int) => ⟨[(0, nV a0), (3, .one (.dat .str s5.1)), (4, iV s5.2)], [], 0⟩) (fun (r7 : List UInt8) => (.exit 0, ⟨[(3, .one (.dat .str r7))], [], 0⟩)) (Le.re [] [] hX (by kernel_rfl)) hL17 ?_ (fun s5 x8 hx9 hk10 => ?_)
    · refine (qBlockX (qThen ?_))
      refine HT.rg2 (oHs 2) ⟨[(2, .one (.dat .str r6))], [], 0⟩ hX (by kernel_rfl) allNil ?_
      have hr := of_some hr
      subst hr
      exact HT.ret ⟨[.one (.dat .str r6)], [], [], by kernel_rfl, by kernel_rfl, rfl, by kernel_rfl, by kernel_rfl, trivial⟩
    · refine HT.seq ?_
      refine HT.rg2 (oHs 4) ⟨[(0, nV a0), (3, .one (.dat .str s5.1)), (4, iV s5.2), (15, bV (decide (s5.2 < (lenI a0))))], [], 0⟩ hX (by kernel_rfl) allNil ?_
      rcases of_bif hx9 with ⟨hb11, hx9⟩ | ⟨hb11, hx9⟩
      · refine HT.cond1 rfl hb11 ?_
        refine HT.skip (qThen ?_)
        refine HT.seq ?_
        refine HT.block ?_
        obtain ⟨hg12, hx9⟩ := of_guard hx9
        obtain ⟨y13, hc14, hx9⟩ := of_bind hx9
        obtain ⟨hg15, hx9⟩ := of_guard hx9
        obtain ⟨hg16, hx9⟩ := of_guard hx9
        refine HT.rgL [oH, oH, oH, oH, oH, ⟨none, .call [.imm tI] [⟨false, .str, y13⟩] []⟩, oH, oH, oH] ⟨[(0, nV a0), (3, .one (.dat .str (s5.1 ++ (([44] : List UInt8) ++ y13)))), (4, iV s5.2)], [], 0⟩ hX (by kernel_rfl) (allCons hg12 (allCons (f104_ok hc14) (allCons hg15 (allCons hg16 allNil)))) (qBlock (qThen ?_))
        have hx9 := of_some hx9
        subst hx9
        exact HT.rgK (oHs 3) [] [] hX (by kernel_rfl) allNil (fun _ h => (qLoopN ⟨((s5.1 ++ (([44] : List UInt8) ++ y13)), (wadd .i64 s5.2 (1 : Int))), rfl, h⟩))
      · refine HT.cond0 rfl hb11 ?_
        have hx9 := of_some hx9
        subst hx9
        exact HT.exitL (Le.re [] [] hX (by kernel_rfl)) (qThenE (qLoopE (hk10 s5.1 rfl)))

noncomputable def spec_l08Plain_B1 (a0 : Int × Int × List Int × List Bool) (s8 : List UInt8 × Int) : Option ((List UInt8 × Int) ⊕ (List UInt8)) :=
  bif (decide (s8.2 < (lenI a0.2.2.2))) then
    (show Option (List UInt8) from
      guardP ((0 : Int) ≤ s8.2 ∧ s8.2 < lenI a0.2.2.2) (
        bif (List.getD a0.2.2.2 (Int.toNat s8.2) false) then
          guardP (List.length s8.1 + List.length ([49] : List UInt8) ≤ appMax) (
            some (s8.1 ++ ([49] : List UInt8)))
        else
          guardP (List.length s8.1 + List.length ([48] : List UInt8) ≤ appMax) (
            some (s8.1 ++ ([48] : List UInt8))))).bind fun v15 =>
    some (.inl (v15, (wadd .i64 s8.2 (1 : Int))))
  else
    some (.inr s8.1)

noncomputable def spec_l08Plain (a0 : Int × Int × List Int × List Bool) : Option (List UInt8) :=
  (spec_l01Text ([a0.1, a0.2.1] : List Int)).bind fun y1 =>
  guardP (List.length y1 + List.length ([59] : List UInt8) ≤ appMax) (
    (spec_l01Text a0.2.2.1).bind fun y4 =>
    guardP (List.length (y1 ++ ([59] : List UInt8)) + List.length y4 ≤ appMax) (
      guardP (List.length ((y1 ++ ([59] : List UInt8)) ++ y4) + List.length ([59] : List UInt8) ≤ appMax) (
        (rounds (spec_l08Plain_B1 a0) ((((y1 ++ ([59] : List UInt8)) ++ y4) ++ ([59] : List UInt8)), (0 : Int))).bind fun r10 =>
        some r10)))

theorem f72_ok {a0 : Int × Int × List Int × List Bool} {r : List UInt8} (hr : spec_l08Plain a0 = some r) : CallOK Tryd.prog 72 [.pimm (.st (.pair tI (.pair tI (.pair tLI (.sl .bool))))) a0] [⟨false, .str, r⟩] [] := by
  unfold spec_l08Plain at hr
  refine CallOK.of_body (ts := [(false, .str)]) Tryd.func72 rfl (by kernel_rfl) (Nat.le_of_ble_eq_true (by kernel_rfl)) fun cx hP hN hO hF => ?_
  have hO : cx.own.map Prod.fst = [] := hO
  have hX := CxIs.mk hP hN hO
  have hF := hF rfl
  show HT cx ⟨[(0, .one (.ip (.st (.pair tI (.pair tI (.pair tLI (.sl .bool))))) a0 0))], [], 0⟩ _ _
  refine HT.rg2 [oH] ⟨[(0, .one (.ip (.st (.pair tI (.pair tI (.pair tLI (.sl .bool))))) a0 0))], [], 0⟩ hX (by kernel_rfl) allNil ?_
  obtain ⟨y1, hc2, hr⟩ := of_bind hr
  obtain ⟨hg3, hr⟩ := of_guard hr
  obtain ⟨y4, hc5, hr⟩ := of_bind hr
  obtain ⟨hg6, hr⟩ := of_guard hr
  obtain ⟨hg7, hr⟩ := of_guard hr
  refine HT.dr2 16 [⟨oH, []⟩, ⟨oH, [0]⟩, ⟨oH, [0, 1]⟩, ⟨oH, [0, 1, 2]⟩, ⟨oH, []⟩, ⟨oH, [4]⟩, ⟨oH, [4, 5]⟩, ⟨oH, [4, 5, 6]⟩, ⟨⟨none, .ty tI⟩, [0, 1, 2, 3, 4, 5, 6, 7]⟩, ⟨⟨none, .call [.imm tLI] [⟨false, .str, y1⟩] []⟩, [0, 1, 2, 3, 4, 5, 6, 7, 8]⟩, ⟨oH, [0, 1, 2, 3, 4, 5, 6, 7, 8, 9]⟩, ⟨oH, []⟩, ⟨oH, [11]⟩, ⟨oH, [11, 12]⟩, ⟨oH, [11, 12, 13]⟩, ⟨⟨none, .call [.imm tLI] [⟨false, .str, y4⟩] []⟩, [0, 1, 2, 3, 4, 5, 6, 7, 8, 9, 11, 12, 13, 14]⟩] [[0, 1, 2, 3, 4, 5, 6, 7, 8, 9, 10, 11, 12, 13, 14, 15], [0, 1, 2, 3, 4, 5, 6, 7, 8, 9, 10, 11, 12, 13, 14, 15, 16], [0, 1, 2, 3, 4, 5, 6, 7, 8, 9, 10, 11, 12, 13, 14, 15, 16, 17]] (oHs 3) ⟨[(0, .one (.ip (.st (.pair tI (.pair tI (.pair tLI (.sl .bool))))) a0 0)), (3, .one (.dat .str (((y1 ++ ([59] : List UInt8)) ++ y4) ++ ([59] : List UInt8))))], [], 1⟩ hX (by kernel_rfl) (by kernel_rfl) (allCons (f112_ok hc2) (allCons hg3 (allCons (f112_ok hc5) (allCons hg6 (allCons hg7 allNil))))) ?_
  refine HT.seq ?_
  refine HT.rg2 [oH] ⟨[(0, .one (.ip (.st (.pair tI (.pair tI (.pair tLI (.sl .bool))))) a0 0)), (3, .one (.dat .str (((y1 ++ ([59] : List UInt8)) ++ y4) ++ ([59] : List UInt8)))), (4, iV (0 : Int))], [], 1⟩ hX (by kernel_rfl) allNil ?_
  refine HT.block ?_
  obtain ⟨r9, hL22, hr⟩ := of_bind hr
  refine HT.loopL (fun (s8 : List UInt8 × Int) => ⟨[(0, .one (.ip (.st (.pair tI (.pair tI (.pair tLI (.sl .bool))))) a0 0)), (3, .one (.dat .str s8.1)), (4, iV s8.2)], [], 0⟩) (fun (r10 : List UInt8) => (.exit 0, ⟨[(3, .one (.dat .str r10))], [], 0⟩)) (Le.re [] [] hX (by kernel_rfl)) hL22 ?_ (fun s8 x11 hx12 hk13 => ?_)
  · refine (qBlockX (qThen ?_))
    refine HT.rg2 (oHs 2) ⟨[(2, .one (.dat .str r9))], [], 0⟩ hX (by kernel_rfl) allNil ?_
    have hr := of_some hr
    subst hr
    exact HT.ret ⟨[.one (.dat .str r9)], [], [], by kernel_rfl, by kernel_rfl, rfl, by kernel_rfl, by kernel_rfl, trivial⟩
  · refine HT.seq ?_
    refine HT.rg2 (oHs 7) ⟨[(0, .one (.ip (.st (.pair tI (.pair tI (.pair tLI (.sl .bool))))) a0 0)), (3, .one (.dat .str s8.1)), (4, iV s8.2), (29, bV (decide (s8.2 < (lenI a0.2.2.2))))], [], 0⟩ hX (by kernel_rfl) allNil ?_
    rcases of_bif hx12 with ⟨hb14, hx12⟩ | ⟨hb14, hx12⟩
    · refine HT.cond1 rfl hb14 ?_
      refine HT.skip (qThen ?_)
      obtain ⟨v15', hT17, hx12⟩ := of_bind hx12
      refine HT.join (fun (v15 : List UInt8) => ⟨[(0, .one (.ip (.st (.pair tI (.pair tI (.pair tLI (.sl .bool))))) a0 0)), (3, .one (.dat .str v15)), (4, iV s8.2)], [], 0⟩) (fun v => v = v15') (fun v15 hv16 => ?_) (fun cont => ?_)
      · subst hv16
        have hx12 := of_some hx12
        subst hx12
        exact HT.rgK (oHs 3) [] [] hX (by kernel_rfl) allNil (fun _ h => (qLoopN ⟨(v15, (wadd .i64 s8.2 (1 : Int))), rfl, h⟩))
      · refine HT.block ?_
        obtain ⟨hg18, hT17⟩ := of_guard hT17
        refine HT.rg2 (oHs 7) ⟨[(0, .one (.ip (.st (.pair tI (.pair tI (.pair tLI (.sl .bool))))) a0 0)), (3, .one (.dat .str s8.1)), (4, iV s8.2), (38, bV (List.getD a0.2.2.2 (Int.toNat s8.2) false))], [], 0⟩ hX (by kernel_rfl) (allCons hg18 allNil) ?_
        rcases of_bif hT17 with ⟨hb19, hT17⟩ | ⟨hb19, hT17⟩
        · refine HT.cond1 rfl hb19 ?_
          obtain ⟨hg20, hT17⟩ := of_guard hT17
          exact HT.rgK (oHs 3) [] [] hX (by kernel_rfl) (allCons hg20 allNil) (fun _ h => (qBlock (qThen (h.ht (cont (s8.1 ++ ([49] : List UInt8)) (of_some hT17))))))
        · refine HT.cond0 rfl hb19 ?_
          obtain ⟨hg21, hT17⟩ := of_guard hT17
          exact HT.rgK (oHs 3) [] [] hX (by kernel_rfl) (allCons hg21 allNil) (fun _ h => (qBlock (qThen (h.ht (cont (s8.1 ++ ([48] : List UInt8)) (of_some hT17))))))
    · refine HT.cond0 rfl hb14 ?_
      have hx12 := of_some hx12
      subst hx12
      exact HT.exitL (Le.re [] [] hX (by kernel_rfl)) (qThenE (qLoopE (hk13 s8.1 rfl)))

noncomputable def spec_l00In (a0 : Int) (a1 : Int) (a2 : Int) : Option (Bool) :=
  (show Option (Bool) from
    bif (decide (a0 ≥ a1)) then
      some (decide (a0 ≤ a2))
    else
      some false).bind fun v1 =>
  some v1

theorem f111_ok {a0 : Int} {a1 : Int} {a2 : Int} {r : Bool} (hr : spec_l00In a0 a1 a2 = some r) : CallOK Tryd.prog 111 [.imm tI a0, .imm tI a1, .imm tI a2] [⟨false, .bool, r⟩] [] := by
  unfold spec_l00In at hr
  refine CallOK.of_body (ts := [(false, .bool)]) Tryd.func111 rfl (by kernel_rfl) (Nat.le_of_ble_eq_true (by kernel_rfl)) fun cx hP hN hO hF => ?_
  have hO : cx.own.map Prod.fst = [] := hO
  have hX := CxIs.mk hP hN hO
  have hF := hF rfl
  show HT cx ⟨[(0, iV a0), (1, iV a1), (2, iV a2)], [], 0⟩ _ _
  refine HT.rg2 [oH] ⟨[(0, iV a0), (1, iV a1), (2, iV a2)], [], 0⟩ hX (by kernel_rfl) allNil ?_
  obtain ⟨v1', hT3, hr⟩ := of_bind hr
  refine HT.join (fun (v1 : Bool) => ⟨[(6, bV v1)], [], 0⟩) (fun v => v = v1') (fun v1 hv2 => ?_) (fun cont => ?_)
  · subst hv2
    have hr := of_some hr
    subst hr
    exact HT.ret ⟨[bV v1], [], [], by kernel_rfl, by kernel_rfl, rfl, by kernel_rfl, by kernel_rfl, trivial⟩
  · rcases of_bif hT3 with ⟨hb4, hT3⟩ | ⟨hb4, hT3⟩
    · exact HT.rgK [oH, oH, oH, oH, ⟨some true, .no⟩, ⟨some true, .no⟩, ⟨some true, .no⟩, ⟨none, .tv true⟩, oH] [] [] hX (by kernel_rfl) (allCons hb4 (allCons hb4 (allCons hb4 (allCons hb4 allNil)))) (fun _ h => (qThen (h.ht (cont (decide (a0 ≤ a2)) (of_some hT3)))))
    · exact HT.rgK [oH, oH, oH, oH, ⟨some false, .no⟩, ⟨some false, .no⟩, ⟨some false, .no⟩, ⟨none, .tv false⟩, oH] [] [] hX (by kernel_rfl) (allCons hb4 (allCons hb4 (allCons hb4 (allCons hb4 allNil)))) (fun _ h => (qThen (h.ht (cont false (of_some hT3)))))

noncomputable def spec_l02Plain_B1 (a0 : Int × Int × List Int × List Bool) (s5 : Int) : Option ((Int) ⊕ (Unit ⊕ Unit)) :=
  bif (decide (s5 < (lenI a0.2.2.1))) then
    guardP ((0 : Int) ≤ s5 ∧ s5 < lenI a0.2.2.1) (
      (spec_l00In (List.getD a0.2.2.1 (Int.toNat s5) (0 : Int)) (0 : Int) (wsub .i64 a0.1 (1 : Int))).bind fun y14 =>
      bif (!y14) then
        some (.inr (.inr ()))
      else
        some (.inl (wadd .i64 s5 (1 : Int))))
  else
    some (.inr (.inl ()))

noncomputable def spec_l02Plain (a0 : Int × Int × List Int × List Bool) : Option (Bool) :=
  (show Option (Bool) from
    (spec_l00In a0.1 (1 : Int) (64 : Int)).bind fun y18 =>
    bif (!y18) then
      some true
    else
      (spec_l00In a0.2.1 (1 : Int) (4 : Int)).bind fun y21 =>
      bif (!y21) then
        some true
      else
        bif ((lenI a0.2.2.1) != (wmul .i64 a0.1 a0.2.1)) then
          some true
        else
          some ((lenI a0.2.2.2) != a0.1)).bind fun v1 =>
  bif v1 then
    some false
  else
    (rounds (spec_l02Plain_B1 a0) (0 : Int)).bind fun r6 => match r6 with
      | .inl r7 =>
        some true
      | .inr r8 =>
        some false

theorem f71_ok {a0 : Int × Int × List Int × List Bool} {r : Bool} (hr : spec_l02Plain a0 = some r) : CallOK Tryd.prog 71 [.pimm (.st (.pair tI (.pair tI (.pair tLI (.sl .bool))))) a0] [⟨false, .bool, r⟩] [] := by
  unfold spec_l02Plain at hr
  refine CallOK.of_body (ts := [(false, .bool)]) Tryd.func71 rfl (by kernel_rfl) (Nat.le_of_ble_eq_true (by kernel_rfl)) fun cx hP hN hO hF => ?_
  have hO : cx.own.map Prod.fst = [] := hO
  have hX := CxIs.mk hP hN hO
  have hF := hF rfl
  show HT cx ⟨[(0, .one (.ip (.st (.pair tI (.pair tI (.pair tLI (.sl .bool))))) a0 0))], [], 0⟩ _ _
  refine HT.rg2 [oH] ⟨[(0, .one (.ip (.st (.pair tI (.pair tI (.pair tLI (.sl .bool))))) a0 0))], [], 0⟩ hX (by kernel_rfl) allNil ?_
  refine HT.seq ?_
  obtain ⟨v1', hT3, hr⟩ := of_bind hr
  refine HT.join (fun (v1 : Bool) => ⟨[(0, .one (.ip (.st (.pair tI (.pair tI (.pair tLI (.sl .bool))))) a0 0)), (46, bV v1)], [], 0⟩) (fun v => v = v1') (fun v1 hv2 => ?_) (fun cont => ?_)
  · subst hv2
    rcases of_bif hr with ⟨hb4, hr⟩ | ⟨hb4, hr⟩
    · refine HT.cond1 rfl hb4 ?_
      refine HT.rg2 [oH] ⟨[(2, bV false)], [], 0⟩ hX (by kernel_rfl) allNil ?_
      have hr := of_some hr
      subst hr
      exact HT.ret (qThenR ⟨[bV false], [], [], by kernel_rfl, by kernel_rfl, rfl, by kernel_rfl, by kernel_rfl, trivial⟩)
    · refine HT.cond0 rfl hb4 ?_
      refine HT.skip (qThen ?_)
      refine HT.seq ?_
      refine HT.rg2 [oH] ⟨[(0, .one (.ip (.st (.pair tI (.pair tI (.pair tLI (.sl .bool))))) a0 0)), (3, iV (0 : Int))], [], 0⟩ hX (by kernel_rfl) allNil ?_
      refine HT.block ?_
      obtain ⟨r6, hL17, hr⟩ := of_bind hr
      refine HT.loopL (fun (s5 : Int) => ⟨[(0, .one (.ip (.st (.pair tI (.pair tI (.pair tLI (.sl .bool))))) a0 0)), (3, iV s5)], [], 0⟩) (fun (r6 : Unit ⊕ Unit) => match r6 with | .inl r7 => (.exit 0, ⟨[], [], 0⟩) | .inr r8 => (.ret, ⟨[(2, bV false)], [], 0⟩)) (Le.re [] [] hX (by kernel_rfl)) hL17 ?_ (fun s5 x9 hx10 hk11 => ?_)
      · rcases r6 with r7 | r8
        · refine (qBlockX (qThen ?_))
          refine HT.rg2 [oH] ⟨[(2, bV true)], [], 0⟩ hX (by kernel_rfl) allNil ?_
          have hr := of_some hr
          subst hr
          exact HT.ret ⟨[bV true], [], [], by kernel_rfl, by kernel_rfl, rfl, by kernel_rfl, by kernel_rfl, trivial⟩
        · have hr := of_some hr
          subst hr
          exact (qBlockR (qThenR ⟨[bV false], [], [], by kernel_rfl, by kernel_rfl, rfl, by kernel_rfl, by kernel_rfl, trivial⟩))
      · refine HT.seq ?_
        refine HT.rg2 (oHs 7) ⟨[(0, .one (.ip (.st (.pair tI (.pair tI (.pair tLI (.sl .bool))))) a0 0)), (3, iV s5), (53, bV (decide (s5 < (lenI a0.2.2.1))))], [], 0⟩ hX (by kernel_rfl) allNil ?_
        rcases of_bif hx10 with ⟨hb12, hx10⟩ | ⟨hb12, hx10⟩
        · refine HT.cond1 rfl hb12 ?_
          refine HT.skip (qThen ?_)
          refine HT.seq ?_
          refine HT.block ?_
          obtain ⟨hg13, hx10⟩ := of_guard hx10
          obtain ⟨y14, hc15, hx10⟩ := of_bind hx10
          refine HT.dr2 12 [⟨oH, []⟩, ⟨oH, [0]⟩, ⟨oH, [0, 1]⟩, ⟨oH, [0, 1, 2]⟩, ⟨oH, []⟩, ⟨oH, [0, 1, 2, 3, 4]⟩, ⟨oH, [0, 1, 2, 3, 4, 5]⟩, ⟨oH, []⟩, ⟨oH, [7]⟩, ⟨oH, [7, 8]⟩, ⟨oH, [7, 8, 9]⟩, ⟨oH, [7, 8, 9, 10]⟩] [[0, 1, 2, 3, 4, 5, 6, 7, 8, 9, 10, 11], [0, 1, 2, 3, 4, 5, 6, 7, 8, 9, 10, 11, 12]] [⟨none, .call [.imm tI, .imm tI, .imm tI] [⟨false, .bool, y14⟩] []⟩, oH] ⟨[(0, .one (.ip (.st (.pair tI (.pair tI (.pair tLI (.sl .bool))))) a0 0)), (3, iV s5), (69, bV (!y14))], [], 0⟩ hX (by kernel_rfl) (by kernel_rfl) (allCons hg13 (allCons (f111_ok hc15) allNil)) ?_
          rcases of_bif hx10 with ⟨hb16, hx10⟩ | ⟨hb16, hx10⟩
          · refine HT.cond1 rfl hb16 ?_
            refine HT.rg2 [oH] ⟨[(2, bV false)], [], 0⟩ hX (by kernel_rfl) allNil ?_
            have hx10 := of_some hx10
            subst hx10
            exact HT.retL (Le.re [] [] hX (by kernel_rfl)) (qBlockR (qThenR (qLoopR (hk11 (.inr ()) rfl))))
          · refine HT.cond0 rfl hb16 ?_
            refine HT.skip (qBlock (qThen ?_))
            have hx10 := of_some hx10
            subst hx10
            exact HT.rgK (oHs 3) [] [] hX (by kernel_rfl) allNil (fun _ h => (qLoopN ⟨(wadd .i64 s5 (1 : Int)), rfl, h⟩))
        · refine HT.cond0 rfl hb12 ?_
          have hx10 := of_some hx10
          subst hx10
          exact HT.exitL (Le.re [] [] hX (by kernel_rfl)) (qThenE (qLoopE (hk11 (.inl ()) rfl)))
  · obtain ⟨y18, hc19, hT3⟩ := of_bind hT3
    rcases of_bif hT3 with ⟨hb20, hT3⟩ | ⟨hb20, hT3⟩
    · exact HT.drK 41 [⟨oH, []⟩, ⟨oH, [0]⟩, ⟨oH, [0, 1]⟩, ⟨oH, [0, 1, 2]⟩, ⟨⟨none, .call [.imm tI, .imm tI, .imm tI] [⟨false, .bool, y18⟩] []⟩, [0, 1, 2, 3]⟩, ⟨oH, [0, 1, 2, 3, 4]⟩, ⟨oH, [0, 1, 2, 3, 4, 5]⟩, ⟨⟨some true, .no⟩, [0, 1, 2, 3, 4, 5, 6]⟩, ⟨⟨some true, .no⟩, [0, 1, 2, 3, 4, 5, 6, 7]⟩, ⟨⟨some true, .no⟩, [0, 1, 2, 3, 4, 5, 6, 7, 8]⟩, ⟨⟨some true, .no⟩, [0, 1, 2, 3, 4, 5, 6, 7, 8, 9]⟩, ⟨⟨some true, .no⟩, [0, 1, 2, 3, 4, 5, 6, 7, 8, 9, 10]⟩, ⟨⟨some true, .no⟩, [0, 1, 2, 3, 4, 5, 6, 7, 8, 9, 10, 11]⟩, ⟨⟨none, .tv true⟩, [0, 1, 2, 3, 4, 5, 6, 7, 8, 9, 10, 11, 12]⟩, ⟨oH, [0, 1, 2, 3, 4, 5, 6, 7, 8, 9, 10, 11, 12, 13]⟩, ⟨⟨some true, .no⟩, [0, 1, 2, 3, 4, 5, 6, 7, 8, 9, 10, 11, 12, 13, 14]⟩, ⟨⟨some true, .no⟩, [0, 1, 2, 3, 4, 5, 6, 7, 8, 9, 10, 11, 12, 13, 14, 15]⟩, ⟨⟨some true, .no⟩, [0, 1, 2, 3, 4, 5, 6, 7, 8, 9, 10, 11, 12, 13, 14, 15, 16]⟩, ⟨⟨some true, .no⟩, [0, 1, 2, 3, 4, 5, 6, 7, 8, 9, 10, 11, 12, 13, 14, 15, 16, 17]⟩, ⟨⟨some true, .no⟩, [0, 1, 2, 3, 4, 5, 6, 7, 8, 9, 10, 11, 12, 13, 14, 15, 16, 17, 18]⟩, ⟨⟨some true, .no⟩, [0, 1, 2, 3, 4, 5, 6, 7, 8, 9, 10, 11, 12, 13, 14]⟩, ⟨⟨some true, .no⟩, [0, 1, 2, 3, 4, 5, 6, 7, 8, 9, 10, 11, 12, 13, 14, 20]⟩, ⟨⟨some true, .no⟩, [0, 1, 2, 3, 4, 5, 6, 7, 8, 9, 10, 11, 12, 13, 14, 20, 21]⟩, ⟨⟨some true, .no⟩, [0, 1, 2, 3, 4, 5, 6, 7, 8, 9, 10, 11, 12, 13, 14, 20, 21, 22]⟩, ⟨⟨some true, .no⟩, [0, 1, 2, 3, 4, 5, 6, 7, 8, 9, 10, 11, 12, 13, 14]⟩, ⟨⟨some true, .no⟩, [0, 1, 2, 3, 4, 5, 6, 7, 8, 9, 10, 11, 12, 13, 14, 24]⟩, ⟨⟨some true, .no⟩, [0, 1, 2, 3, 4, 5, 6, 7, 8, 9, 10, 11, 12, 13, 14, 24, 25]⟩, ⟨⟨some true, .no⟩, [0, 1, 2, 3, 4, 5, 6, 7, 8, 9, 10, 11, 12, 13, 14, 24, 25, 26]⟩, ⟨⟨some true, .no⟩, [0, 1, 2, 3, 4, 5, 6, 7, 8, 9, 10, 11, 12, 13, 14, 20, 21, 22, 23, 24, 25, 26, 27]⟩, ⟨⟨some true, .no⟩, [0, 1, 2, 3, 4, 5, 6, 7, 8, 9, 10, 11, 12, 13, 14, 15, 16, 17, 18, 19, 20, 21, 22, 23, 24, 25, 26, 27, 28]⟩, ⟨⟨none, .tv true⟩, [0, 1, 2, 3, 4, 5, 6, 7, 8, 9, 10, 11, 12, 13, 14, 15, 16, 17, 18, 19, 20, 21, 22, 23, 24, 25, 26, 27, 28, 29]⟩, ⟨oH, [0, 1, 2, 3, 4, 5, 6, 7, 8, 9, 10, 11, 12, 13, 14, 15, 16, 17, 18, 19, 20, 21, 22, 23, 24, 25, 26, 27, 28, 29, 30]⟩, ⟨⟨some true, .no⟩, [0, 1, 2, 3, 4, 5, 6, 7, 8, 9, 10, 11, 12, 13, 14, 15, 16, 17, 18, 19, 20, 21, 22, 23, 24, 25, 26, 27, 28, 29, 30, 31]⟩, ⟨⟨some true, .no⟩, [0, 1, 2, 3, 4, 5, 6, 7, 8, 9, 10, 11, 12, 13, 14, 15, 16, 17, 18, 19, 20, 21, 22, 23, 24, 25, 26, 27, 28, 29, 30, 31, 32]⟩, ⟨⟨some true, .no⟩, [0, 1, 2, 3, 4, 5, 6, 7, 8, 9, 10, 11, 12, 13, 14, 15, 16, 17, 18, 19, 20, 21, 22, 23, 24, 25, 26, 27, 28, 29, 30, 31, 32, 33]⟩, ⟨⟨some true, .no⟩, [0, 1, 2, 3, 4, 5, 6, 7, 8, 9, 10, 11, 12, 13, 14, 15, 16, 17, 18, 19, 20, 21, 22, 23, 24, 25, 26, 27, 28, 29, 30, 31, 32, 33, 34]⟩, ⟨⟨some true, .no⟩, [0, 1, 2, 3, 4, 5, 6, 7, 8, 9, 10, 11, 12, 13, 14, 15, 16, 17, 18, 19, 20, 21, 22, 23, 24, 25, 26, 27, 28, 29, 30, 31, 32, 33, 34, 35]⟩, ⟨⟨some true, .no⟩, [0, 1, 2, 3, 4, 5, 6, 7, 8, 9, 10, 11, 12, 13, 14, 15, 16, 17, 18, 19, 20, 21, 22, 23, 24, 25, 26, 27, 28, 29, 30, 31]⟩, ⟨⟨some true, .no⟩, [0, 1, 2, 3, 4, 5, 6, 7, 8, 9, 10, 11, 12, 13, 14, 15, 16, 17, 18, 19, 20, 21, 22, 23, 24, 25, 26, 27, 28, 29, 30, 31, 37]⟩, ⟨⟨some true, .no⟩, [0, 1, 2, 3, 4, 5, 6, 7, 8, 9, 10, 11, 12, 13, 14, 15, 16, 17, 18, 19, 20, 21, 22, 23, 24, 25, 26, 27, 28, 29, 30, 31, 37, 38]⟩, ⟨⟨some true, .no⟩, [0, 1, 2, 3, 4, 5, 6, 7, 8, 9, 10, 11, 12, 13, 14, 15, 16, 17, 18, 19, 20, 21, 22, 23, 24, 25, 26, 27, 28, 29, 30, 31, 37, 38, 39]⟩] [[0, 1, 2, 3, 4, 5, 6, 7, 8, 9, 10, 11, 12, 13, 14, 15, 16, 17, 18, 19, 20, 21, 22, 23, 24, 25, 26, 27, 28, 29, 30, 31, 32, 33, 34, 35, 36, 37, 38, 39, 40], [0, 1, 2, 3, 4, 5, 6, 7, 8, 9, 10, 11, 12, 13, 14, 15, 16, 17, 18, 19, 20, 21, 22, 23, 24, 25, 26, 27, 28, 29, 30, 31, 32, 33, 34, 35, 36, 37, 38, 39, 40, 41]] [⟨some true, .no⟩, ⟨none, .tv true⟩] [] [] hX (by kernel_rfl) (by kernel_rfl) (allCons (f111_ok hc19) (allCons hb20 (allCons hb20 (allCons hb20 (allCons hb20 (allCons hb20 (allCons hb20 (allCons hb20 (allCons (rfl : true = true) (allCons (rfl : true = true) (allCons (rfl : true = true) (allCons (rfl : true = true) (allCons (rfl : true = true) (allCons (rfl : true = true) (allCons (rfl : true = true) (allCons (rfl : true = true) (allCons (rfl : true = true) (allCons (rfl : true = true) (allCons (rfl : true = true) (allCons (rfl : true = true) (allCons (rfl : true = true) (allCons (rfl : true = true) (allCons (rfl : true = true) (allCons (rfl : true = true) (allCons (rfl : true = true) (allCons (rfl : true = true) (allCons (rfl : true = true) (allCons (rfl : true = true) (allCons (rfl : true = true) (allCons (rfl : true = true) (allCons (rfl : true = true) (allCons (rfl : true = true) (allCons (rfl : true = true) (allCons (rfl : true = true) (allCons (rfl : true = true) allNil))))))))))))))))))))))))))))))))))) (fun _ h => (qThen (h.ht (cont true (of_some hT3)))))
    · obtain ⟨y21, hc22, hT3⟩ := of_bind hT3
      rcases of_bif hT3 with ⟨hb23, hT3⟩ | ⟨hb23, hT3⟩
      · exact HT.drK 41 [⟨oH, []⟩, ⟨oH, [0]⟩, ⟨oH, [0, 1]⟩, ⟨oH, [0, 1, 2]⟩, ⟨⟨none, .call [.imm tI, .imm tI, .imm tI] [⟨false, .bool, y18⟩] []⟩, [0, 1, 2, 3]⟩, ⟨oH, [0, 1, 2, 3, 4]⟩, ⟨oH, [0, 1, 2, 3, 4, 5]⟩, ⟨⟨some false, .no⟩, [0, 1, 2, 3, 4, 5, 6]⟩, ⟨⟨some false, .no⟩, [0, 1, 2, 3, 4, 5, 6, 7]⟩, ⟨⟨some false, .no⟩, [0, 1, 2, 3, 4, 5, 6, 7, 8]⟩, ⟨⟨some false, .no⟩, [0, 1, 2, 3, 4, 5, 6, 7, 8, 9]⟩, ⟨⟨some false, .call [.imm tI, .imm tI, .imm tI] [⟨false, .bool, y21⟩] []⟩, [0, 1, 2, 3, 4, 5, 6, 7, 8, 9, 10]⟩, ⟨⟨some false, .no⟩, [0, 1, 2, 3, 4, 5, 6, 7, 8, 9, 10, 11]⟩, ⟨⟨none, .tv false⟩, [0, 1, 2, 3, 4, 5, 6, 7, 8, 9, 10, 11, 12]⟩, ⟨oH, [0, 1, 2, 3, 4, 5, 6, 7, 8, 9, 10, 11, 12, 13]⟩, ⟨⟨some true, .no⟩, [0, 1, 2, 3, 4, 5, 6, 7, 8, 9, 10, 11, 12, 13, 14]⟩, ⟨⟨some true, .no⟩, [0, 1, 2, 3, 4, 5, 6, 7, 8, 9, 10, 11, 12, 13, 14, 15]⟩, ⟨⟨some true, .no⟩, [0, 1, 2, 3, 4, 5, 6, 7, 8, 9, 10, 11, 12, 13, 14, 15, 16]⟩, ⟨⟨some true, .no⟩, [0, 1, 2, 3, 4, 5, 6, 7, 8, 9, 10, 11, 12, 13, 14, 15, 16, 17]⟩, ⟨⟨some true, .no⟩, [0, 1, 2, 3, 4, 5, 6, 7, 8, 9, 10, 11, 12, 13, 14, 15, 16, 17, 18]⟩, ⟨⟨some true, .no⟩, [0, 1, 2, 3, 4, 5, 6, 7, 8, 9, 10, 11, 12, 13, 14]⟩, ⟨⟨some true, .no⟩, [0, 1, 2, 3, 4, 5, 6, 7, 8, 9, 10, 11, 12, 13, 14, 20]⟩, ⟨⟨some true, .no⟩, [0, 1, 2, 3, 4, 5, 6, 7, 8, 9, 10, 11, 12, 13, 14, 20, 21]⟩, ⟨⟨some true, .no⟩, [0, 1, 2, 3, 4, 5, 6, 7, 8, 9, 10, 11, 12, 13, 14, 20, 21, 22]⟩, ⟨⟨some true, .no⟩, [0, 1, 2, 3, 4, 5, 6, 7, 8, 9, 10, 11, 12, 13, 14]⟩, ⟨⟨some true, .no⟩, [0, 1, 2, 3, 4, 5, 6, 7, 8, 9, 10, 11, 12, 13, 14, 24]⟩, ⟨⟨some true, .no⟩, [0, 1, 2, 3, 4, 5, 6, 7, 8, 9, 10, 11, 12, 13, 14, 24, 25]⟩, ⟨⟨some true, .no⟩, [0, 1, 2, 3, 4, 5, 6, 7, 8, 9, 10, 11, 12, 13, 14, 24, 25, 26]⟩, ⟨⟨some true, .no⟩, [0, 1, 2, 3, 4, 5, 6, 7, 8, 9, 10, 11, 12, 13, 14, 20, 21, 22, 23, 24, 25, 26, 27]⟩, ⟨⟨some true, .no⟩, [0, 1, 2, 3, 4, 5, 6, 7, 8, 9, 10, 11, 12, 13, 14, 15, 16, 17, 18, 19, 20, 21, 22, 23, 24, 25, 26, 27, 28]⟩, ⟨⟨none, .tv true⟩, [0, 1, 2, 3, 4, 5, 6, 7, 8, 9, 10, 11, 12, 13, 14, 15, 16, 17, 18, 19, 20, 21, 22, 23, 24, 25, 26, 27, 28, 29]⟩, ⟨oH, [0, 1, 2, 3, 4, 5, 6, 7, 8, 9, 10, 11, 12, 13, 14, 15, 16, 17, 18, 19, 20, 21, 22, 23, 24, 25, 26, 27, 28, 29, 30]⟩, ⟨⟨some true, .no⟩, [0, 1, 2, 3, 4, 5, 6, 7, 8, 9, 10, 11, 12, 13, 14, 15, 16, 17, 18, 19, 20, 21, 22, 23, 24, 25, 26, 27, 28, 29, 30, 31]⟩, ⟨⟨some true, .no⟩, [0, 1, 2, 3, 4, 5, 6, 7, 8, 9, 10, 11, 12, 13, 14, 15, 16, 17, 18, 19, 20, 21, 22, 23, 24, 25, 26, 27, 28, 29, 30, 31, 32]⟩, ⟨⟨some true, .no⟩, [0, 1, 2, 3, 4, 5, 6, 7, 8, 9, 10, 11, 12, 13, 14, 15, 16, 17, 18, 19, 20, 21, 22, 23, 24, 25, 26, 27, 28, 29, 30, 31, 32, 33]⟩, ⟨⟨some true, .no⟩, [0, 1, 2, 3, 4, 5, 6, 7, 8, 9, 10, 11, 12, 13, 14, 15, 16, 17, 18, 19, 20, 21, 22, 23, 24, 25, 26, 27, 28, 29, 30, 31, 32, 33, 34]⟩, ⟨⟨some true, .no⟩, [0, 1, 2, 3, 4, 5, 6, 7, 8, 9, 10, 11, 12, 13, 14, 15, 16, 17, 18, 19, 20, 21, 22, 23, 24, 25, 26, 27, 28, 29, 30, 31, 32, 33, 34, 35]⟩, ⟨⟨some true, .no⟩, [0, 1, 2, 3, 4, 5, 6, 7, 8, 9, 10, 11, 12, 13, 14, 15, 16, 17, 18, 19, 20, 21, 22, 23, 24, 25, 26, 27, 28, 29, 30, 31]⟩, ⟨⟨some true, .no⟩, [0, 1, 2, 3, 4, 5, 6, 7, 8, 9, 10, 11, 12, 13, 14, 15, 16, 17, 18, 19, 20, 21, 22, 23, 24, 25, 26, 27, 28, 29, 30, 31, 37]⟩, ⟨⟨some true, .no⟩, [0, 1, 2, 3, 4, 5, 6, 7, 8, 9, 10, 11, 12, 13, 14, 15, 16, 17, 18, 19, 20, 21, 22, 23, 24, 25, 26, 27, 28, 29, 30, 31, 37, 38]⟩, ⟨⟨some true, .no⟩, [0, 1, 2, 3, 4, 5, 6, 7, 8, 9, 10, 11, 12, 13, 14, 15, 16, 17, 18, 19, 20, 21, 22, 23, 24, 25, 26, 27, 28, 29, 30, 31, 37, 38, 39]⟩] [[0, 1, 2, 3, 4, 5, 6, 7, 8, 9, 10, 11, 12, 13, 14, 15, 16, 17, 18, 19, 20, 21, 22, 23, 24, 25, 26, 27, 28, 29, 30, 31, 32, 33, 34, 35, 36, 37, 38, 39, 40], [0, 1, 2, 3, 4, 5, 6, 7, 8, 9, 10, 11, 12, 13, 14, 15, 16, 17, 18, 19, 20, 21, 22, 23, 24, 25, 26, 27, 28, 29, 30, 31, 32, 33, 34, 35, 36, 37, 38, 39, 40, 41]] [⟨some true, .no⟩, ⟨none, .tv true⟩] [] [] hX (by kernel_rfl) (by kernel_rfl) (allCons (f111_ok hc19) (allCons hb20 (allCons hb20 (allCons hb20 (allCons hb20 (allCons hb20 (allCons (f111_ok hc22) (allCons hb20 (allCons hb20 (allCons hb23 (allCons hb23 (allCons hb23 (allCons hb23 (allCons hb23 (allCons hb23 (allCons hb23 (allCons hb23 (allCons hb23 (allCons hb23 (allCons hb23 (allCons hb23 (allCons hb23 (allCons hb23 (allCons hb23 (allCons hb23 (allCons (rfl : true = true) (allCons (rfl : true = true) (allCons (rfl : true = true) (allCons (rfl : true = true) (allCons (rfl : true = true) (allCons (rfl : true = true) (allCons (rfl : true = true) (allCons (rfl : true = true) (allCons (rfl : true = true) (allCons (rfl : true = true) (allCons (rfl : true = true) allNil)))))))))))))))))))))))))))))))))))) (fun _ h => (qThen (h.ht (cont true (of_some hT3)))))
      · rcases of_bif hT3 with ⟨hb24, hT3⟩ | ⟨hb24, hT3⟩
        · exact HT.drK 41 [⟨oH, []⟩, ⟨oH, [0]⟩, ⟨oH, [0, 1]⟩, ⟨oH, [0, 1, 2]⟩, ⟨⟨none, .call [.imm tI, .imm tI, .imm tI] [⟨false, .bool, y18⟩] []⟩, [0, 1, 2, 3]⟩, ⟨oH, [0, 1, 2, 3, 4]⟩, ⟨oH, [0, 1, 2, 3, 4, 5]⟩, ⟨⟨some false, .no⟩, [0, 1, 2, 3, 4, 5, 6]⟩, ⟨⟨some false, .no⟩, [0, 1, 2, 3, 4, 5, 6, 7]⟩, ⟨⟨some false, .no⟩, [0, 1, 2, 3, 4, 5, 6, 7, 8]⟩, ⟨⟨some false, .no⟩, [0, 1, 2, 3, 4, 5, 6, 7, 8, 9]⟩, ⟨⟨some false, .call [.imm tI, .imm tI, .imm tI] [⟨false, .bool, y21⟩] []⟩, [0, 1, 2, 3, 4, 5, 6, 7, 8, 9, 10]⟩, ⟨⟨some false, .no⟩, [0, 1, 2, 3, 4, 5, 6, 7, 8, 9, 10, 11]⟩, ⟨⟨none, .tv false⟩, [0, 1, 2, 3, 4, 5, 6, 7, 8, 9, 10, 11, 12]⟩, ⟨oH, [0, 1, 2, 3, 4, 5, 6, 7, 8, 9, 10, 11, 12, 13]⟩, ⟨⟨some false, .no⟩, [0, 1, 2, 3, 4, 5, 6, 7, 8, 9, 10, 11, 12, 13, 14]⟩, ⟨⟨some false, .no⟩, [0, 1, 2, 3, 4, 5, 6, 7, 8, 9, 10, 11, 12, 13, 14, 15]⟩, ⟨⟨some false, .no⟩, [0, 1, 2, 3, 4, 5, 6, 7, 8, 9, 10, 11, 12, 13, 14, 15, 16]⟩, ⟨⟨some false, .no⟩, [0, 1, 2, 3, 4, 5, 6, 7, 8, 9, 10, 11, 12, 13, 14, 15, 16, 17]⟩, ⟨⟨some false, .no⟩, [0, 1, 2, 3, 4, 5, 6, 7, 8, 9, 10, 11, 12, 13, 14, 15, 16, 17, 18]⟩, ⟨⟨some false, .no⟩, [0, 1, 2, 3, 4, 5, 6, 7, 8, 9, 10, 11, 12, 13, 14]⟩, ⟨⟨some false, .no⟩, [0, 1, 2, 3, 4, 5, 6, 7, 8, 9, 10, 11, 12, 13, 14, 20]⟩, ⟨⟨some false, .no⟩, [0, 1, 2, 3, 4, 5, 6, 7, 8, 9, 10, 11, 12, 13, 14, 20, 21]⟩, ⟨⟨some false, .no⟩, [0, 1, 2, 3, 4, 5, 6, 7, 8, 9, 10, 11, 12, 13, 14, 20, 21, 22]⟩, ⟨⟨some false, .no⟩, [0, 1, 2, 3, 4, 5, 6, 7, 8, 9, 10, 11, 12, 13, 14]⟩, ⟨⟨some false, .no⟩, [0, 1, 2, 3, 4, 5, 6, 7, 8, 9, 10, 11, 12, 13, 14, 24]⟩, ⟨⟨some false, .no⟩, [0, 1, 2, 3, 4, 5, 6, 7, 8, 9, 10, 11, 12, 13, 14, 24, 25]⟩, ⟨⟨some false, .no⟩, [0, 1, 2, 3, 4, 5, 6, 7, 8, 9, 10, 11, 12, 13, 14, 24, 25, 26]⟩, ⟨⟨some false, .no⟩, [0, 1, 2, 3, 4, 5, 6, 7, 8, 9, 10, 11, 12, 13, 14, 20, 21, 22, 23, 24, 25, 26, 27]⟩, ⟨⟨some false, .no⟩, [0, 1, 2, 3, 4, 5, 6, 7, 8, 9, 10, 11, 12, 13, 14, 15, 16, 17, 18, 19, 20, 21, 22, 23, 24, 25, 26, 27, 28]⟩, ⟨⟨none, .tv false⟩, [0, 1, 2, 3, 4, 5, 6, 7, 8, 9, 10, 11, 12, 13, 14, 15, 16, 17, 18, 19, 20, 21, 22, 23, 24, 25, 26, 27, 28, 29]⟩, ⟨oH, [0, 1, 2, 3, 4, 5, 6, 7, 8, 9, 10, 11, 12, 13, 14, 15, 16, 17, 18, 19, 20, 21, 22, 23, 24, 25, 26, 27, 28, 29, 30]⟩, ⟨⟨some true, .no⟩, [0, 1, 2, 3, 4, 5, 6, 7, 8, 9, 10, 11, 12, 13, 14, 15, 16, 17, 18, 19, 20, 21, 22, 23, 24, 25, 26, 27, 28, 29, 30, 31]⟩, ⟨⟨some true, .no⟩, [0, 1, 2, 3, 4, 5, 6, 7, 8, 9, 10, 11, 12, 13, 14, 15, 16, 17, 18, 19, 20, 21, 22, 23, 24, 25, 26, 27, 28, 29, 30, 31, 32]⟩, ⟨⟨some true, .no⟩, [0, 1, 2, 3, 4, 5, 6, 7, 8, 9, 10, 11, 12, 13, 14, 15, 16, 17, 18, 19, 20, 21, 22, 23, 24, 25, 26, 27, 28, 29, 30, 31, 32, 33]⟩, ⟨⟨some true, .no⟩, [0, 1, 2, 3, 4, 5, 6, 7, 8, 9, 10, 11, 12, 13, 14, 15, 16, 17, 18, 19, 20, 21, 22, 23, 24, 25, 26, 27, 28, 29, 30, 31, 32, 33, 34]⟩, ⟨⟨some true, .no⟩, [0, 1, 2, 3, 4, 5, 6, 7, 8, 9, 10, 11, 12, 13, 14, 15, 16, 17, 18, 19, 20, 21, 22, 23, 24, 25, 26, 27, 28, 29, 30, 31, 32, 33, 34, 35]⟩, ⟨⟨some true, .no⟩, [0, 1, 2, 3, 4, 5, 6, 7, 8, 9, 10, 11, 12, 13, 14, 15, 16, 17, 18, 19, 20, 21, 22, 23, 24, 25, 26, 27, 28, 29, 30, 31]⟩, ⟨⟨some true, .no⟩, [0, 1, 2, 3, 4, 5, 6, 7, 8, 9, 10, 11, 12, 13, 14, 15, 16, 17, 18, 19, 20, 21, 22, 23, 24, 25, 26, 27, 28, 29, 30, 31, 37]⟩, ⟨⟨some true, .no⟩, [0, 1, 2, 3, 4, 5, 6, 7, 8, 9, 10, 11, 12, 13, 14, 15, 16, 17, 18, 19, 20, 21, 22, 23, 24, 25, 26, 27, 28, 29, 30, 31, 37, 38]⟩, ⟨⟨some true, .no⟩, [0, 1, 2, 3, 4, 5, 6, 7, 8, 9, 10, 11, 12, 13, 14, 15, 16, 17, 18, 19, 20, 21, 22, 23, 24, 25, 26, 27, 28, 29, 30, 31, 37, 38, 39]⟩] [[0, 1, 2, 3, 4, 5, 6, 7, 8, 9, 10, 11, 12, 13, 14, 15, 16, 17, 18, 19, 20, 21, 22, 23, 24, 25, 26, 27, 28, 29, 30, 31, 32, 33, 34, 35, 36, 37, 38, 39, 40], [0, 1, 2, 3, 4, 5, 6, 7, 8, 9, 10, 11, 12, 13, 14, 15, 16, 17, 18, 19, 20, 21, 22, 23, 24, 25, 26, 27, 28, 29, 30, 31, 32, 33, 34, 35, 36, 37, 38, 39, 40, 41]] [⟨some true, .no⟩, ⟨none, .tv true⟩] [] [] hX (by kernel_rfl) (by kernel_rfl) (allCons (f111_ok hc19) (allCons hb20 (allCons hb20 (allCons hb20 (allCons hb20 (allCons hb20 (allCons (f111_ok hc22) (allCons hb20 (allCons hb20 (allCons hb23 (allCons hb23 (allCons hb23 (allCons hb23 (allCons hb23 (allCons hb23 (allCons hb23 (allCons hb23 (allCons hb23 (allCons hb23 (allCons hb23 (allCons hb23 (allCons hb23 (allCons hb23 (allCons hb23 (allCons hb23 (allCons hb24 (allCons hb24 (allCons hb24 (allCons hb24 (allCons hb24 (allCons hb24 (allCons hb24 (allCons hb24 (allCons hb24 (allCons hb24 (allCons hb24 allNil)))))))))))))))))))))))))))))))))))) (fun _ h => (qThen (h.ht (cont true (of_some hT3)))))
        · exact HT.drK 41 [⟨oH, []⟩, ⟨oH, [0]⟩, ⟨oH, [0, 1]⟩, ⟨oH, [0, 1, 2]⟩, ⟨⟨none, .call [.imm tI, .imm tI, .imm tI] [⟨false, .bool, y18⟩] []⟩, [0, 1, 2, 3]⟩, ⟨oH, [0, 1, 2, 3, 4]⟩, ⟨oH, [0, 1, 2, 3, 4, 5]⟩, ⟨⟨some false, .no⟩, [0, 1, 2, 3, 4, 5, 6]⟩, ⟨⟨some false, .no⟩, [0, 1, 2, 3, 4, 5, 6, 7]⟩, ⟨⟨some false, .no⟩, [0, 1, 2, 3, 4, 5, 6, 7, 8]⟩, ⟨⟨some false, .no⟩, [0, 1, 2, 3, 4, 5, 6, 7, 8, 9]⟩, ⟨⟨some false, .call [.imm tI, .imm tI, .imm tI] [⟨false, .bool, y21⟩] []⟩, [0, 1, 2, 3, 4, 5, 6, 7, 8, 9, 10]⟩, ⟨⟨some false, .no⟩, [0, 1, 2, 3, 4, 5, 6, 7, 8, 9, 10, 11]⟩, ⟨⟨none, .tv false⟩, [0, 1, 2, 3, 4, 5, 6, 7, 8, 9, 10, 11, 12]⟩, ⟨oH, [0, 1, 2, 3, 4, 5, 6, 7, 8, 9, 10, 11, 12, 13]⟩, ⟨⟨some false, .no⟩, [0, 1, 2, 3, 4, 5, 6, 7, 8, 9, 10, 11, 12, 13, 14]⟩, ⟨⟨some false, .no⟩, [0, 1, 2, 3, 4, 5, 6, 7, 8, 9, 10, 11, 12, 13, 14, 15]⟩, ⟨⟨some false, .no⟩, [0, 1, 2, 3, 4, 5, 6, 7, 8, 9, 10, 11, 12, 13, 14, 15, 16]⟩, ⟨⟨some false, .no⟩, [0, 1, 2, 3, 4, 5, 6, 7, 8, 9, 10, 11, 12, 13, 14, 15, 16, 17]⟩, ⟨⟨some false, .no⟩, [0, 1, 2, 3, 4, 5, 6, 7, 8, 9, 10, 11, 12, 13, 14, 15, 16, 17, 18]⟩, ⟨⟨some false, .no⟩, [0, 1, 2, 3, 4, 5, 6, 7, 8, 9, 10, 11, 12, 13, 14]⟩, ⟨⟨some false, .no⟩, [0, 1, 2, 3, 4, 5, 6, 7, 8, 9, 10, 11, 12, 13, 14, 20]⟩, ⟨⟨some false, .no⟩, [0, 1, 2, 3, 4, 5, 6, 7, 8, 9, 10, 11, 12, 13, 14, 20, 21]⟩, ⟨⟨some false, .no⟩, [0, 1, 2, 3, 4, 5, 6, 7, 8, 9, 10, 11, 12, 13, 14, 20, 21, 22]⟩, ⟨⟨some false, .no⟩, [0, 1, 2, 3, 4, 5, 6, 7, 8, 9, 10, 11, 12, 13, 14]⟩, ⟨⟨some false, .no⟩, [0, 1, 2, 3, 4, 5, 6, 7, 8, 9, 10, 11, 12, 13, 14, 24]⟩, ⟨⟨some false, .no⟩, [0, 1, 2, 3, 4, 5, 6, 7, 8, 9, 10, 11, 12, 13, 14, 24, 25]⟩, ⟨⟨some false, .no⟩, [0, 1, 2, 3, 4, 5, 6, 7, 8, 9, 10, 11, 12, 13, 14, 24, 25, 26]⟩, ⟨⟨some false, .no⟩, [0, 1, 2, 3, 4, 5, 6, 7, 8, 9, 10, 11, 12, 13, 14, 20, 21, 22, 23, 24, 25, 26, 27]⟩, ⟨⟨some false, .no⟩, [0, 1, 2, 3, 4, 5, 6, 7, 8, 9, 10, 11, 12, 13, 14, 15, 16, 17, 18, 19, 20, 21, 22, 23, 24, 25, 26, 27, 28]⟩, ⟨⟨none, .tv false⟩, [0, 1, 2, 3, 4, 5, 6, 7, 8, 9, 10, 11, 12, 13, 14, 15, 16, 17, 18, 19, 20, 21, 22, 23, 24, 25, 26, 27, 28, 29]⟩, ⟨oH, [0, 1, 2, 3, 4, 5, 6, 7, 8, 9, 10, 11, 12, 13, 14, 15, 16, 17, 18, 19, 20, 21, 22, 23, 24, 25, 26, 27, 28, 29, 30]⟩, ⟨⟨some false, .no⟩, [0, 1, 2, 3, 4, 5, 6, 7, 8, 9, 10, 11, 12, 13, 14, 15, 16, 17, 18, 19, 20, 21, 22, 23, 24, 25, 26, 27, 28, 29, 30, 31]⟩, ⟨⟨some false, .no⟩, [0, 1, 2, 3, 4, 5, 6, 7, 8, 9, 10, 11, 12, 13, 14, 15, 16, 17, 18, 19, 20, 21, 22, 23, 24, 25, 26, 27, 28, 29, 30, 31, 32]⟩, ⟨⟨some false, .no⟩, [0, 1, 2, 3, 4, 5, 6, 7, 8, 9, 10, 11, 12, 13, 14, 15, 16, 17, 18, 19, 20, 21, 22, 23, 24, 25, 26, 27, 28, 29, 30, 31, 32, 33]⟩, ⟨⟨some false, .no⟩, [0, 1, 2, 3, 4, 5, 6, 7, 8, 9, 10, 11, 12, 13, 14, 15, 16, 17, 18, 19, 20, 21, 22, 23, 24, 25, 26, 27, 28, 29, 30, 31, 32, 33, 34]⟩, ⟨⟨some false, .no⟩, [0, 1, 2, 3, 4, 5, 6, 7, 8, 9, 10, 11, 12, 13, 14, 15, 16, 17, 18, 19, 20, 21, 22, 23, 24, 25, 26, 27, 28, 29, 30, 31, 32, 33, 34, 35]⟩, ⟨⟨some false, .no⟩, [0, 1, 2, 3, 4, 5, 6, 7, 8, 9, 10, 11, 12, 13, 14, 15, 16, 17, 18, 19, 20, 21, 22, 23, 24, 25, 26, 27, 28, 29, 30, 31]⟩, ⟨⟨some false, .no⟩, [0, 1, 2, 3, 4, 5, 6, 7, 8, 9, 10, 11, 12, 13, 14, 15, 16, 17, 18, 19, 20, 21, 22, 23, 24, 25, 26, 27, 28, 29, 30, 31, 37]⟩, ⟨⟨some false, .no⟩, [0, 1, 2, 3, 4, 5, 6, 7, 8, 9, 10, 11, 12, 13, 14, 15, 16, 17, 18, 19, 20, 21, 22, 23, 24, 25, 26, 27, 28, 29, 30, 31, 37, 38]⟩, ⟨⟨some false, .no⟩, [0, 1, 2, 3, 4, 5, 6, 7, 8, 9, 10, 11, 12, 13, 14, 15, 16, 17, 18, 19, 20, 21, 22, 23, 24, 25, 26, 27, 28, 29, 30, 31, 37, 38, 39]⟩] [[0, 1, 2, 3, 4, 5, 6, 7, 8, 9, 10, 11, 12, 13, 14, 15, 16, 17, 18, 19, 20, 21, 22, 23, 24, 25, 26, 27, 28, 29, 30, 31, 32, 33, 34, 35, 36, 37, 38, 39, 40], [0, 1, 2, 3, 4, 5, 6, 7, 8, 9, 10, 11, 12, 13, 14, 15, 16, 17, 18, 19, 20, 21, 22, 23, 24, 25, 26, 27, 28, 29, 30, 31, 32, 33, 34, 35, 36, 37, 38, 39, 40, 41]] [⟨some false, .no⟩, ⟨none, .tv false⟩] [] [] hX (by kernel_rfl) (by kernel_rfl) (allCons (f111_ok hc19) (allCons hb20 (allCons hb20 (allCons hb20 (allCons hb20 (allCons hb20 (allCons (f111_ok hc22) (allCons hb20 (allCons hb20 (allCons hb23 (allCons hb23 (allCons hb23 (allCons hb23 (allCons hb23 (allCons hb23 (allCons hb23 (allCons hb23 (allCons hb23 (allCons hb23 (allCons hb23 (allCons hb23 (allCons hb23 (allCons hb23 (allCons hb23 (allCons hb23 (allCons hb24 (allCons hb24 (allCons hb24 (allCons hb24 (allCons hb24 (allCons hb24 (allCons hb24 (allCons hb24 (allCons hb24 (allCons hb24 (allCons hb24 allNil)))))))))))))))))))))))))))))))))))) (fun _ h => (qThen (h.ht (cont ((lenI a0.2.2.2) != a0.1) (of_some hT3)))))

noncomputable def spec_l01List_B1 (a0 : List Int) (s1 : Int) : Option ((Int) ⊕ (Unit ⊕ Unit)) :=
  bif (decide (s1 < (lenI a0))) then
    guardP ((0 : Int) ≤ s1 ∧ s1 < lenI a0) (
      (spec_l00In (List.getD a0 (Int.toNat s1) (0 : Int)) (-1000000000000000 : Int) (1000000000000000 : Int)).bind fun y10 =>
      bif (!y10) then
        some (.inr (.inr ()))
      else
        some (.inl (wadd .i64 s1 (1 : Int))))
  else
    some (.inr (.inl ()))

noncomputable def spec_l01List (a0 : List Int) : Option (Bool) :=
  (rounds (spec_l01List_B1 a0) (0 : Int)).bind fun r2 => match r2 with
    | .inl r3 =>
      some (decide ((lenI a0) ≤ (64 : Int)))
    | .inr r4 =>
      some false

theorem f62_ok {a0 : List Int} {r : Bool} (hr : spec_l01List a0 = some r) : CallOK Tryd.prog 62 [.imm tLI a0] [⟨false, .bool, r⟩] [] := by
  unfold spec_l01List at hr
  refine CallOK.of_body (ts := [(false, .bool)]) Tryd.func62 rfl (by kernel_rfl) (Nat.le_of_ble_eq_true (by kernel_rfl)) fun cx hP hN hO hF => ?_
  have hO : cx.own.map Prod.fst = [] := hO
  have hX := CxIs.mk hP hN hO
  have hF := hF rfl
  show HT cx ⟨[(0, nV a0)], [], 0⟩ _ _
  refine HT.rg2 [oH] ⟨[(0, nV a0)], [], 0⟩ hX (by kernel_rfl) allNil ?_
  refine HT.seq ?_
  refine HT.rg2 [oH] ⟨[(0, nV a0), (3, iV (0 : Int))], [], 0⟩ hX (by kernel_rfl) allNil ?_
  refine HT.block ?_
  obtain ⟨r2, hL13, hr⟩ := of_bind hr
  refine HT.loopL (fun (s1 : Int) => ⟨[(0, nV a0), (3, iV s1)], [], 0⟩) (fun (r2 : Unit ⊕ Unit) => match r2 with | .inl r3 => (.exit 0, ⟨[(0, nV a0)], [], 0⟩) | .inr r4 => (.ret, ⟨[(2, bV false)], [], 0⟩)) (Le.re [] [] hX (by kernel_rfl)) hL13 ?_ (fun s1 x5 hx6 hk7 => ?_)
  · rcases r2 with r3 | r4
    · refine (qBlockX (qThen ?_))
      refine HT.rg2 (oHs 4) ⟨[(2, bV (decide ((lenI a0) ≤ (64 : Int))))], [], 0⟩ hX (by kernel_rfl) allNil ?_
      have hr := of_some hr
      subst hr
      exact HT.ret ⟨[bV (decide ((lenI a0) ≤ (64 : Int)))], [], [], by kernel_rfl, by kernel_rfl, rfl, by kernel_rfl, by kernel_rfl, trivial⟩
    · have hr := of_some hr
      subst hr
      exact (qBlockR (qThenR ⟨[bV false], [], [], by kernel_rfl, by kernel_rfl, rfl, by kernel_rfl, by kernel_rfl, trivial⟩))
  · refine HT.seq ?_
    refine HT.rg2 (oHs 4) ⟨[(0, nV a0), (3, iV s1), (7, bV (decide (s1 < (lenI a0))))], [], 0⟩ hX (by kernel_rfl) allNil ?_
    rcases of_bif hx6 with ⟨hb8, hx6⟩ | ⟨hb8, hx6⟩
    · refine HT.cond1 rfl hb8 ?_
      refine HT.skip (qThen ?_)
      refine HT.seq ?_
      refine HT.block ?_
      obtain ⟨hg9, hx6⟩ := of_guard hx6
      obtain ⟨y10, hc11, hx6⟩ := of_bind hx6
      refine HT.rg2 [oH, oH, oH, oH, ⟨none, .call [.imm tI, .imm tI, .imm tI] [⟨false, .bool, y10⟩] []⟩, oH] ⟨[(0, nV a0), (3, iV s1), (15, bV (!y10))], [], 0⟩ hX (by kernel_rfl) (allCons hg9 (allCons (f111_ok hc11) allNil)) ?_
      rcases of_bif hx6 with ⟨hb12, hx6⟩ | ⟨hb12, hx6⟩
      · refine HT.cond1 rfl hb12 ?_
        refine HT.rg2 [oH] ⟨[(2, bV false)], [], 0⟩ hX (by kernel_rfl) allNil ?_
        have hx6 := of_some hx6
        subst hx6
        exact HT.retL (Le.re [] [] hX (by kernel_rfl)) (qBlockR (qThenR (qLoopR (hk7 (.inr ()) rfl))))
      · refine HT.cond0 rfl hb12 ?_
        refine HT.skip (qBlock (qThen ?_))
        have hx6 := of_some hx6
        subst hx6
        exact HT.rgK (oHs 3) [] [] hX (by kernel_rfl) allNil (fun _ h => (qLoopN ⟨(wadd .i64 s1 (1 : Int)), rfl, h⟩))
    · refine HT.cond0 rfl hb8 ?_
      have hx6 := of_some hx6
      subst hx6
      exact HT.exitL (Le.re [] [] hX (by kernel_rfl)) (qThenE (qLoopE (hk7 (.inl ()) rfl)))

noncomputable def spec_PlainText (a0 : Int × Int × List Int × List Bool) : Option (List UInt8 × Bool) :=
  (show Option (Bool) from
    (spec_l02Plain (a0.1, a0.2.1, a0.2.2.1, a0.2.2.2)).bind fun y7 =>
    bif (!y7) then
      some true
    else
      (spec_l01List a0.2.2.1).bind fun y10 =>
      some (!y10)).bind fun v1 =>
  bif v1 then
    some (([] : List UInt8), false)
  else
    (spec_l08Plain (a0.1, a0.2.1, a0.2.2.1, a0.2.2.2)).bind fun y5 =>
    some (y5, true)

theorem f27_ok {a0 : Int × Int × List Int × List Bool} {r : List UInt8 × Bool} (hr : spec_PlainText a0 = some r) : CallOK Tryd.prog 27 [.imm (.st (.pair tI (.pair tI (.pair tLI (.sl .bool))))) a0] [⟨false, .str, r.1⟩, ⟨false, .bool, r.2⟩] [] := by
  unfold spec_PlainText at hr
  refine CallOK.of_body (ts := [(false, .str), (false, .bool)]) Tryd.func27 rfl (by kernel_rfl) (Nat.le_of_ble_eq_true (by kernel_rfl)) fun cx hP hN hO hF => ?_
  have hO : cx.own.map Prod.fst = [] := hO
  have hX := CxIs.mk hP hN hO
  have hF := hF rfl
  show HT cx ⟨[(0, .agg [iC a0.1, iC a0.2.1, nC a0.2.2.1, .dat (.sl .bool) a0.2.2.2])], [], 0⟩ _ _
  refine HT.rg2 (oHs 3) ⟨[(1, pV 0 0)], [(0, .box [iC a0.1, iC a0.2.1, nC a0.2.2.1, .dat (.sl .bool) a0.2.2.2])], 1⟩ hX (by kernel_rfl) allNil ?_
  refine HT.seq ?_
  obtain ⟨v1', hT3, hr⟩ := of_bind hr
  refine HT.join (fun (v1 : Bool) => ⟨[(1, pV 0 0), (11, bV v1)], [(0, .box [iC a0.1, iC a0.2.1, nC a0.2.2.1, .dat (.sl .bool) a0.2.2.2])], 1⟩) (fun v => v = v1') (fun v1 hv2 => ?_) (fun cont => ?_)
  · subst hv2
    rcases of_bif hr with ⟨hb4, hr⟩ | ⟨hb4, hr⟩
    · refine HT.cond1 rfl hb4 ?_
      refine HT.rg2 (oHs 2) ⟨[(2, .one (.dat .str ([] : List UInt8))), (3, bV false)], [], 1⟩ hX (by kernel_rfl) allNil ?_
      have hr := of_some hr
      subst hr
      exact HT.ret (qThenR ⟨[.one (.dat .str ([] : List UInt8)), bV false], [], [], by kernel_rfl, by kernel_rfl, rfl, by kernel_rfl, by kernel_rfl, trivial⟩)
    · refine HT.cond0 rfl hb4 ?_
      refine HT.skip (qThen ?_)
      obtain ⟨y5, hc6, hr⟩ := of_bind hr
      refine HT.rg2 [⟨none, .call [.pimm (.st (.pair tI (.pair tI (.pair tLI (.sl .bool)))))] [⟨false, .str, y5⟩] []⟩, oH, oH] ⟨[(2, .one (.dat .str y5)), (3, bV true)], [], 1⟩ hX (by kernel_rfl) (allCons (f72_ok hc6) allNil) ?_
      have hr := of_some hr
      subst hr
      exact HT.ret ⟨[.one (.dat .str y5), bV true], [], [], by kernel_rfl, by kernel_rfl, rfl, by kernel_rfl, by kernel_rfl, trivial⟩
  · obtain ⟨y7, hc8, hT3⟩ := of_bind hT3
    rcases of_bif hT3 with ⟨hb9, hT3⟩ | ⟨hb9, hT3⟩
    · exact HT.rgK [⟨none, .call [.pimm (.st (.pair tI (.pair tI (.pair tLI (.sl .bool)))))] [⟨false, .bool, y7⟩] []⟩, oH, oH, ⟨some true, .no⟩, ⟨some true, .no⟩, ⟨some true, .no⟩, ⟨some true, .no⟩, ⟨none, .tv true⟩] [(0, 0)] [] hX (by kernel_rfl) (allCons (f71_ok hc8) (allCons hb9 (allCons hb9 (allCons hb9 (allCons hb9 (allCons hb9 allNil)))))) (fun _ h => (qThen (h.ht (cont true (of_some hT3)))))
    · obtain ⟨y10, hc11, hT3⟩ := of_bind hT3
      exact HT.rgK [⟨none, .call [.pimm (.st (.pair tI (.pair tI (.pair tLI (.sl .bool)))))] [⟨false, .bool, y7⟩] []⟩, oH, oH, ⟨some false, .no⟩, ⟨some false, .no⟩, ⟨some false, .call [.imm tLI] [⟨false, .bool, y10⟩] []⟩, ⟨some false, .no⟩, ⟨none, .tv false⟩] [(0, 0)] [] hX (by kernel_rfl) (allCons (f71_ok hc8) (allCons hb9 (allCons hb9 (allCons hb9 (allCons (f62_ok hc11) (allCons hb9 (allCons hb9 allNil))))))) (fun _ h => (qThen (h.ht (cont (!y10) (of_some hT3)))))

noncomputable def impl_within (a0 : Int) (a1 : Int) (a2 : Int) : Option (Bool) :=
  (show Option (Bool) from
    bif (decide (a0 ≥ a1)) then
      some (decide (a0 ≤ a2))
    else
      some false).bind fun v1 =>
  some v1

theorem f106_ok {a0 : Int} {a1 : Int} {a2 : Int} {r : Bool} (hr : impl_within a0 a1 a2 = some r) : CallOK Tryd.prog 106 [.imm tI a0, .imm tI a1, .imm tI a2] [⟨false, .bool, r⟩] [] := by
  unfold impl_within at hr
  refine CallOK.of_body (ts := [(false, .bool)]) Tryd.func106 rfl (by kernel_rfl) (Nat.le_of_ble_eq_true (by kernel_rfl)) fun cx hP hN hO hF => ?_
  have hO : cx.own.map Prod.fst = [] := hO
  have hX := CxIs.mk hP hN hO
  have hF := hF rfl
  show HT cx ⟨[(0, iV a0), (1, iV a1), (2, iV a2)], [], 0⟩ _ _
  refine HT.rg2 [oH] ⟨[(0, iV a0), (1, iV a1), (2, iV a2)], [], 0⟩ hX (by kernel_rfl) allNil ?_
  obtain ⟨v1', hT3, hr⟩ := of_bind hr
  refine HT.join (fun (v1 : Bool) => ⟨[(6, bV v1)], [], 0⟩) (fun v => v = v1') (fun v1 hv2 => ?_) (fun cont => ?_)
  · subst hv2
    have hr := of_some hr
    subst hr
    exact HT.ret ⟨[bV v1], [], [], by kernel_rfl, by kernel_rfl, rfl, by kernel_rfl, by kernel_rfl, trivial⟩
  · rcases of_bif hT3 with ⟨hb4, hT3⟩ | ⟨hb4, hT3⟩
    · exact HT.rgK [oH, oH, oH, oH, ⟨some true, .no⟩, ⟨some true, .no⟩, ⟨some true, .no⟩, ⟨none, .tv true⟩, oH] [] [] hX (by kernel_rfl) (allCons hb4 (allCons hb4 (allCons hb4 (allCons hb4 allNil)))) (fun _ h => (qThen (h.ht (cont (decide (a0 ≤ a2)) (of_some hT3)))))
    · exact HT.rgK [oH, oH, oH, oH, ⟨some false, .no⟩, ⟨some false, .no⟩, ⟨some false, .no⟩, ⟨none, .tv false⟩, oH] [] [] hX (by kernel_rfl) (allCons hb4 (allCons hb4 (allCons hb4 (allCons hb4 allNil)))) (fun _ h => (qThen (h.ht (cont false (of_some hT3)))))

noncomputable def impl_areWithin_B1 (a0 : List Int) (a1 : Int) (a2 : Int) (s1 : Int) : Option ((Int) ⊕ (Unit ⊕ Unit)) :=
  bif (decide (s1 < (lenI a0))) then
    guardP ((0 : Int) ≤ s1 ∧ s1 < lenI a0) (
      (impl_within (List.getD a0 (Int.toNat s1) (0 : Int)) a1 a2).bind fun y10 =>
      bif (!y10) then
        some (.inr (.inr ()))
      else
        some (.inl (wadd .i64 s1 (1 : Int))))
  else
    some (.inr (.inl ()))

noncomputable def impl_areWithin (a0 : List Int) (a1 : Int) (a2 : Int) : Option (Bool) :=
  (rounds (impl_areWithin_B1 a0 a1 a2) (0 : Int)).bind fun r2 => match r2 with
    | .inl r3 =>
      some true
    | .inr r4 =>
      some false

theorem f117_ok {a0 : List Int} {a1 : Int} {a2 : Int} {r : Bool} (hr : impl_areWithin a0 a1 a2 = some r) : CallOK Tryd.prog 117 [.imm tLI a0, .imm tI a1, .imm tI a2] [⟨false, .bool, r⟩] [] := by
  unfold impl_areWithin at hr
  refine CallOK.of_body (ts := [(false, .bool)]) Tryd.func117 rfl (by kernel_rfl) (Nat.le_of_ble_eq_true (by kernel_rfl)) fun cx hP hN hO hF => ?_
  have hO : cx.own.map Prod.fst = [] := hO
  have hX := CxIs.mk hP hN hO
  have hF := hF rfl
  show HT cx ⟨[(0, nV a0), (1, iV a1), (2, iV a2)], [], 0⟩ _ _
  refine HT.rg2 [oH] ⟨[(0, nV a0), (1, iV a1), (2, iV a2)], [], 0⟩ hX (by kernel_rfl) allNil ?_
  refine HT.seq ?_
  refine HT.rg2 (oHs 3) ⟨[(1, iV a1), (2, iV a2), (9, nV a0), (10, iV (lenI a0)), (11, iV (0 : Int))], [], 0⟩ hX (by kernel_rfl) allNil ?_
  refine HT.block ?_
  obtain ⟨r2, hL13, hr⟩ := of_bind hr
  refine HT.loopL (fun (s1 : Int) => ⟨[(1, iV a1), (2, iV a2), (9, nV a0), (10, iV (lenI a0)), (11, iV s1)], [], 0⟩) (fun (r2 : Unit ⊕ Unit) => match r2 with | .inl r3 => (.exit 0, ⟨[], [], 0⟩) | .inr r4 => (.ret, ⟨[(6, bV false)], [], 0⟩)) (Le.re [] [] hX (by kernel_rfl)) hL13 ?_ (fun s1 x5 hx6 hk7 => ?_)
  · rcases r2 with r3 | r4
    · refine (qBlockX (qThen ?_))
      refine HT.rg2 [oH] ⟨[(6, bV true)], [], 0⟩ hX (by kernel_rfl) allNil ?_
      have hr := of_some hr
      subst hr
      exact HT.ret ⟨[bV true], [], [], by kernel_rfl, by kernel_rfl, rfl, by kernel_rfl, by kernel_rfl, trivial⟩
    · have hr := of_some hr
      subst hr
      exact (qBlockR (qThenR ⟨[bV false], [], [], by kernel_rfl, by kernel_rfl, rfl, by kernel_rfl, by kernel_rfl, trivial⟩))
  · refine HT.rg2 [oH] ⟨[(1, iV a1), (2, iV a2), (9, nV a0), (10, iV (lenI a0)), (11, iV s1), (12, bV (decide (s1 < (lenI a0))))], [], 0⟩ hX (by kernel_rfl) allNil ?_
    refine HT.seq ?_
    rcases of_bif hx6 with ⟨hb8, hx6⟩ | ⟨hb8, hx6⟩
    · refine HT.cond1 rfl hb8 ?_
      refine HT.skip (qThen ?_)
      refine HT.seq ?_
      refine HT.block ?_
      obtain ⟨hg9, hx6⟩ := of_guard hx6
      refine HT.rg2 (oHs 3) ⟨[(1, iV a1), (2, iV a2), (8, iV (List.getD a0 (Int.toNat s1) (0 : Int))), (9, nV a0), (10, iV (lenI a0)), (11, iV s1)], [], 0⟩ hX (by kernel_rfl) (allCons hg9 allNil) ?_
      obtain ⟨y10, hc11, hx6⟩ := of_bind hx6
      refine HT.rg2 [oH, oH, oH, ⟨none, .call [.imm tI, .imm tI, .imm tI] [⟨false, .bool, y10⟩] []⟩, oH] ⟨[(1, iV a1), (2, iV a2), (9, nV a0), (10, iV (lenI a0)), (11, iV s1), (19, bV (!y10))], [], 0⟩ hX (by kernel_rfl) (allCons (f106_ok hc11) allNil) ?_
      rcases of_bif hx6 with ⟨hb12, hx6⟩ | ⟨hb12, hx6⟩
      · refine HT.cond1 rfl hb12 ?_
        refine HT.rg2 [oH] ⟨[(6, bV false)], [], 0⟩ hX (by kernel_rfl) allNil ?_
        have hx6 := of_some hx6
        subst hx6
        exact HT.retL (Le.re [] [] hX (by kernel_rfl)) (qBlockR (qThenR (qLoopR (hk7 (.inr ()) rfl))))
      · refine HT.cond0 rfl hb12 ?_
        refine HT.skip (qBlock (qThen ?_))
        have hx6 := of_some hx6
        subst hx6
        exact HT.rgK (oHs 2) [] [] hX (by kernel_rfl) allNil (fun _ h => (qLoopN ⟨(wadd .i64 s1 (1 : Int)), rfl, h⟩))
    · refine HT.cond0 rfl hb8 ?_
      have hx6 := of_some hx6
      subst hx6
      exact HT.exitL (Le.re [] [] hX (by kernel_rfl)) (qThenE (qLoopE (hk7 (.inl ()) rfl)))

noncomputable def impl_ValidPlain (a0 : Int × Int × List Int × List Bool) : Option (Bool) :=
  (show Option (Bool) from
    (impl_within a0.1 (1 : Int) (64 : Int)).bind fun y4 =>
    bif y4 then
      (impl_within a0.2.1 (1 : Int) (4 : Int)).bind fun y7 =>
      bif y7 then
        bif ((lenI a0.2.2.1) == (wmul .i64 a0.1 a0.2.1)) then
          (impl_areWithin a0.2.2.1 (0 : Int) (wsub .i64 a0.1 (1 : Int))).bind fun y11 =>
          bif y11 then
            some ((lenI a0.2.2.2) == a0.1)
          else
            some false
        else
          some false
      else
        some false
    else
      some false).bind fun v1 =>
  some v1

theorem f75_ok {a0 : Int × Int × List Int × List Bool} {r : Bool} (hr : impl_ValidPlain a0 = some r) : CallOK Tryd.prog 75 [.imm (.st (.pair tI (.pair tI (.pair tLI (.sl .bool))))) a0] [⟨false, .bool, r⟩] [] := by
  unfold impl_ValidPlain at hr
  refine CallOK.of_body (ts := [(false, .bool)]) Tryd.func75 rfl (by kernel_rfl) (Nat.le_of_ble_eq_true (by kernel_rfl)) fun cx hP hN hO hF => ?_
  have hO : cx.own.map Prod.fst = [] := hO
  have hX := CxIs.mk hP hN hO
  have hF := hF rfl
  show HT cx ⟨[(0, .agg [iC a0.1, iC a0.2.1, nC a0.2.2.1, .dat (.sl .bool) a0.2.2.2])], [], 0⟩ _ _
  refine HT.rg2 (oHs 2) ⟨[(1, pV 0 0)], [(0, .box [iC a0.1, iC a0.2.1, nC a0.2.2.1, .dat (.sl .bool) a0.2.2.2])], 1⟩ hX (by kernel_rfl) allNil ?_
  obtain ⟨v1', hT3, hr⟩ := of_bind hr
  refine HT.join (fun (v1 : Bool) => ⟨[(2, bV v1)], [], 0⟩) (fun v => v = v1') (fun v1 hv2 => ?_) (fun cont => ?_)
  · subst hv2
    have hr := of_some hr
    subst hr
    exact HT.ret ⟨[bV v1], [], [], by kernel_rfl, by kernel_rfl, rfl, by kernel_rfl, by kernel_rfl, trivial⟩
  · obtain ⟨y4, hc5, hT3⟩ := of_bind hT3
    rcases of_bif hT3 with ⟨hb6, hT3⟩ | ⟨hb6, hT3⟩
    · obtain ⟨y7, hc8, hT3⟩ := of_bind hT3
      rcases of_bif hT3 with ⟨hb9, hT3⟩ | ⟨hb9, hT3⟩
      · rcases of_bif hT3 with ⟨hb10, hT3⟩ | ⟨hb10, hT3⟩
        · obtain ⟨y11, hc12, hT3⟩ := of_bind hT3
          rcases of_bif hT3 with ⟨hb13, hT3⟩ | ⟨hb13, hT3⟩
          · exact HT.rgK [oH, oH, ⟨none, .call [.imm tI, .imm tI, .imm tI] [⟨false, .bool, y4⟩] []⟩, oH, ⟨some true, .no⟩, ⟨some true, .no⟩, ⟨some true, .call [.imm tI, .imm tI, .imm tI] [⟨false, .bool, y7⟩] []⟩, ⟨none, .tv true⟩, oH, ⟨some true, .no⟩, ⟨some true, .no⟩, ⟨some true, .no⟩, ⟨some true, .no⟩, ⟨some true, .no⟩, ⟨some true, .no⟩, ⟨some true, .no⟩, ⟨some true, .no⟩, ⟨some true, .no⟩, ⟨none, .tv true⟩, oH, ⟨some true, .no⟩, ⟨some true, .no⟩, ⟨some true, .no⟩, ⟨some true, .no⟩, ⟨some true, .no⟩, ⟨some true, .call [.imm tLI, .imm tI, .imm tI] [⟨false, .bool, y11⟩] []⟩, ⟨none, .tv true⟩, oH, ⟨some true, .no⟩, ⟨some true, .no⟩, ⟨some true, .no⟩, ⟨some true, .no⟩, ⟨some true, .no⟩, ⟨some true, .no⟩, ⟨none, .tv true⟩, oH] [] [] hX (by kernel_rfl) (allCons (f106_ok hc5) (allCons hb6 (allCons hb6 (allCons hb6 (allCons (f106_ok hc8) (allCons hb6 (allCons hb9 (allCons hb9 (allCons hb9 (allCons hb9 (allCons hb9 (allCons hb9 (allCons hb9 (allCons hb9 (allCons hb9 (allCons hb9 (allCons hb10 (allCons hb10 (allCons hb10 (allCons hb10 (allCons hb10 (allCons hb10 (allCons (f117_ok hc12) (allCons hb10 (allCons hb13 (allCons hb13 (allCons hb13 (allCons hb13 (allCons hb13 (allCons hb13 (allCons hb13 allNil))))))))))))))))))))))))))))))) (fun _ h => (qThen (h.ht (cont ((lenI a0.2.2.2) == a0.1) (of_some hT3)))))
          · exact HT.rgK [oH, oH, ⟨none, .call [.imm tI, .imm tI, .imm tI] [⟨false, .bool, y4⟩] []⟩, oH, ⟨some true, .no⟩, ⟨some true, .no⟩, ⟨some true, .call [.imm tI, .imm tI, .imm tI] [⟨false, .bool, y7⟩] []⟩, ⟨none, .tv true⟩, oH, ⟨some true, .no⟩, ⟨some true, .no⟩, ⟨some true, .no⟩, ⟨some true, .no⟩, ⟨some true, .no⟩, ⟨some true, .no⟩, ⟨some true, .no⟩, ⟨some true, .no⟩, ⟨some true, .no⟩, ⟨none, .tv true⟩, oH, ⟨some true, .no⟩, ⟨some true, .no⟩, ⟨some true, .no⟩, ⟨some true, .no⟩, ⟨some true, .no⟩, ⟨some true, .call [.imm tLI, .imm tI, .imm tI] [⟨false, .bool, y11⟩] []⟩, ⟨none, .tv true⟩, oH, ⟨some false, .no⟩, ⟨some false, .no⟩, ⟨some false, .no⟩, ⟨some false, .no⟩, ⟨some false, .no⟩, ⟨some false, .no⟩, ⟨none, .tv false⟩, oH] [] [] hX (by kernel_rfl) (allCons (f106_ok hc5) (allCons hb6 (allCons hb6 (allCons hb6 (allCons (f106_ok hc8) (allCons hb6 (allCons hb9 (allCons hb9 (allCons hb9 (allCons hb9 (allCons hb9 (allCons hb9 (allCons hb9 (allCons hb9 (allCons hb9 (allCons hb9 (allCons hb10 (allCons hb10 (allCons hb10 (allCons hb10 (allCons hb10 (allCons hb10 (allCons (f117_ok hc12) (allCons hb10 (allCons hb13 (allCons hb13 (allCons hb13 (allCons hb13 (allCons hb13 (allCons hb13 (allCons hb13 allNil))))))))))))))))))))))))))))))) (fun _ h => (qThen (h.ht (cont false (of_some hT3)))))
        · exact HT.rgK [oH, oH, ⟨none, .call [.imm tI, .imm tI, .imm tI] [⟨false, .bool, y4⟩] []⟩, oH, ⟨some true, .no⟩, ⟨some true, .no⟩, ⟨some true, .call [.imm tI, .imm tI, .imm tI] [⟨false, .bool, y7⟩] []⟩, ⟨none, .tv true⟩, oH, ⟨some true, .no⟩, ⟨some true, .no⟩, ⟨some true, .no⟩, ⟨some true, .no⟩, ⟨some true, .no⟩, ⟨some true, .no⟩, ⟨some true, .no⟩, ⟨some true, .no⟩, ⟨some true, .no⟩, ⟨none, .tv true⟩, oH, ⟨some false, .no⟩, ⟨some false, .no⟩, ⟨some false, .no⟩, ⟨some false, .no⟩, ⟨some false, .no⟩, ⟨some false, .no⟩, ⟨none, .tv false⟩, oH, ⟨some false, .no⟩, ⟨some false, .no⟩, ⟨some false, .no⟩, ⟨some false, .no⟩, ⟨some false, .no⟩, ⟨some false, .no⟩, ⟨none, .tv false⟩, oH] [] [] hX (by kernel_rfl) (allCons (f106_ok hc5) (allCons hb6 (allCons hb6 (allCons hb6 (allCons (f106_ok hc8) (allCons hb6 (allCons hb9 (allCons hb9 (allCons hb9 (allCons hb9 (allCons hb9 (allCons hb9 (allCons hb9 (allCons hb9 (allCons hb9 (allCons hb9 (allCons hb10 (allCons hb10 (allCons hb10 (allCons hb10 (allCons hb10 (allCons hb10 (allCons hb10 (allCons (rfl : false = false) (allCons (rfl : false = false) (allCons (rfl : false = false) (allCons (rfl : false = false) (allCons (rfl : false = false) (allCons (rfl : false = false) (allCons (rfl : false = false) allNil)))))))))))))))))))))))))))))) (fun _ h => (qThen (h.ht (cont false (of_some hT3)))))
      · exact HT.rgK [oH, oH, ⟨none, .call [.imm tI, .imm tI, .imm tI] [⟨false, .bool, y4⟩] []⟩, oH, ⟨some true, .no⟩, ⟨some true, .no⟩, ⟨some true, .call [.imm tI, .imm tI, .imm tI] [⟨false, .bool, y7⟩] []⟩, ⟨none, .tv true⟩, oH, ⟨some false, .no⟩, ⟨some false, .no⟩, ⟨some false, .no⟩, ⟨some false, .no⟩, ⟨some false, .no⟩, ⟨some false, .no⟩, ⟨some false, .no⟩, ⟨some false, .no⟩, ⟨some false, .no⟩, ⟨none, .tv false⟩, oH, ⟨some false, .no⟩, ⟨some false, .no⟩, ⟨some false, .no⟩, ⟨some false, .no⟩, ⟨some false, .no⟩, ⟨some false, .no⟩, ⟨none, .tv false⟩, oH, ⟨some false, .no⟩, ⟨some false, .no⟩, ⟨some false, .no⟩, ⟨some false, .no⟩, ⟨some false, .no⟩, ⟨some false, .no⟩, ⟨none, .tv false⟩, oH] [] [] hX (by kernel_rfl) (allCons (f106_ok hc5) (allCons hb6 (allCons hb6 (allCons hb6 (allCons (f106_ok hc8) (allCons hb6 (allCons hb9 (allCons hb9 (allCons hb9 (allCons hb9 (allCons hb9 (allCons hb9 (allCons hb9 (allCons hb9 (allCons hb9 (allCons hb9 (allCons (rfl : false = false) (allCons (rfl : false = false) (allCons (rfl : false = false) (allCons (rfl : false = false) (allCons (rfl : false = false) (allCons (rfl : false = false) (allCons (rfl : false = false) (allCons (rfl : false = false) (allCons (rfl : false = false) (allCons (rfl : false = false) (allCons (rfl : false = false) (allCons (rfl : false = false) (allCons (rfl : false = false) (allCons (rfl : false = false) allNil)))))))))))))))))))))))))))))) (fun _ h => (qThen (h.ht (cont false (of_some hT3)))))
    · exact HT.rgK [oH, oH, ⟨none, .call [.imm tI, .imm tI, .imm tI] [⟨false, .bool, y4⟩] []⟩, oH, ⟨some false, .no⟩, ⟨some false, .no⟩, ⟨some false, .no⟩, ⟨none, .tv false⟩, oH, ⟨some false, .no⟩, ⟨some false, .no⟩, ⟨some false, .no⟩, ⟨some false, .no⟩, ⟨some false, .no⟩, ⟨some false, .no⟩, ⟨some false, .no⟩, ⟨some false, .no⟩, ⟨some false, .no⟩, ⟨none, .tv false⟩, oH, ⟨some false, .no⟩, ⟨some false, .no⟩, ⟨some false, .no⟩, ⟨some false, .no⟩, ⟨some false, .no⟩, ⟨some false, .no⟩, ⟨none, .tv false⟩, oH, ⟨some false, .no⟩, ⟨some false, .no⟩, ⟨some false, .no⟩, ⟨some false, .no⟩, ⟨some false, .no⟩, ⟨some false, .no⟩, ⟨none, .tv false⟩, oH] [] [] hX (by kernel_rfl) (allCons (f106_ok hc5) (allCons hb6 (allCons hb6 (allCons hb6 (allCons hb6 (allCons (rfl : false = false) (allCons (rfl : false = false) (allCons (rfl : false = false) (allCons (rfl : false = false) (allCons (rfl : false = false) (allCons (rfl : false = false) (allCons (rfl : false = false) (allCons (rfl : false = false) (allCons (rfl : false = false) (allCons (rfl : false = false) (allCons (rfl : false = false) (allCons (rfl : false = false) (allCons (rfl : false = false) (allCons (rfl : false = false) (allCons (rfl : false = false) (allCons (rfl : false = false) (allCons (rfl : false = false) (allCons (rfl : false = false) (allCons (rfl : false = false) (allCons (rfl : false = false) (allCons (rfl : false = false) (allCons (rfl : false = false) (allCons (rfl : false = false) (allCons (rfl : false = false) allNil))))))))))))))))))))))))))))) (fun _ h => (qThen (h.ht (cont false (of_some hT3)))))

noncomputable def strings_Join (a0 : List (List UInt8)) (a1 : List UInt8) : Option (List UInt8) :=
  guardP (a0.length ≤ 140737488355328 ∧ (Lib.join a0 a1).length ≤ 140737488355328) <| some (Lib.join a0 a1)

theorem f115_ok {a0 : List (List UInt8)} {a1 : List UInt8} {r : List UInt8} (h : strings_Join a0 a1 = some r) : CallOK Tryd.prog 115 [.imm (.sl .str) a0, .imm .str a1] [⟨false, .str, r⟩] [] := by
  obtain ⟨hg, h⟩ := of_guard h
  have h := of_some h
  subst h
  have e : (a0.map fun x => ByteArray.mk x.toArray).map (·.data.toList) = a0 := by
    rw [List.map_map]
    conv => rhs; rw [← List.map_id a0]
    rfl
  refine join_ok ⟨_, Tryd.func115, by kernel_rfl, by kernel_rfl⟩ (fun e a c w => by subst e; exact Tryd.strings_Join_none a c _ w) (fun bk o c w hcells hbk hcap => ?_)
  have := Tryd.strings_Join bk o c (a0.map fun x => ByteArray.mk x.toArray) ⟨a1.toArray⟩ w hcells hbk (by rw [List.length_map]; exact hg.1) (by rw [List.length_map]; exact hcap) (by rw [e]; exact hg.2)
  rw [List.length_map, e] at this
  exact this

noncomputable def impl_isValue (a0 : Int) : Option (Bool) :=
  (impl_within a0 (-1000000000000000 : Int) (1000000000000000 : Int)).bind fun y1 =>
  some y1

theorem f147_ok {a0 : Int} {r : Bool} (hr : impl_isValue a0 = some r) : CallOK Tryd.prog 147 [.imm tI a0] [⟨false, .bool, r⟩] [] := by
  unfold impl_isValue at hr
  refine CallOK.of_body (ts := [(false, .bool)]) Tryd.func147 rfl (by kernel_rfl) (Nat.le_of_ble_eq_true (by kernel_rfl)) fun cx hP hN hO hF => ?_
  have hO : cx.own.map Prod.fst = [] := hO
  have hX := CxIs.mk hP hN hO
  have hF := hF rfl
  show HT cx ⟨[(0, iV a0)], [], 0⟩ _ _
  refine HT.rg2 [oH] ⟨[(0, iV a0)], [], 0⟩ hX (by kernel_rfl) allNil ?_
  obtain ⟨y1, hc2, hr⟩ := of_bind hr
  refine HT.rg2 [oH, ⟨none, .call [.imm tI, .imm tI, .imm tI] [⟨false, .bool, y1⟩] []⟩, oH] ⟨[(2, bV y1)], [], 0⟩ hX (by kernel_rfl) (allCons (f106_ok hc2) allNil) ?_
  have hr := of_some hr
  subst hr
  exact HT.ret ⟨[bV y1], [], [], by kernel_rfl, by kernel_rfl, rfl, by kernel_rfl, by kernel_rfl, trivial⟩

noncomputable def impl_areValues_B1 (a0 : List Int) (s1 : Int) : Option ((Int) ⊕ (Unit ⊕ Unit)) :=
  bif (decide (s1 < (lenI a0))) then
    guardP ((0 : Int) ≤ s1 ∧ s1 < lenI a0) (
      (impl_isValue (List.getD a0 (Int.toNat s1) (0 : Int))).bind fun y10 =>
      bif (!y10) then
        some (.inr (.inr ()))
      else
        some (.inl (wadd .i64 s1 (1 : Int))))
  else
    some (.inr (.inl ()))

noncomputable def impl_areValues (a0 : List Int) : Option (Bool) :=
  (rounds (impl_areValues_B1 a0) (0 : Int)).bind fun r2 => match r2 with
    | .inl r3 =>
      some (decide ((lenI a0) ≤ (64 : Int)))
    | .inr r4 =>
      some false

theorem f133_ok {a0 : List Int} {r : Bool} (hr : impl_areValues a0 = some r) : CallOK Tryd.prog 133 [.imm tLI a0] [⟨false, .bool, r⟩] [] := by
  unfold impl_areValues at hr
  refine CallOK.of_body (ts := [(false, .bool)]) Tryd.func133 rfl (by kernel_rfl) (Nat.le_of_ble_eq_true (by kernel_rfl)) fun cx hP hN hO hF => ?_
  have hO : cx.own.map Prod.fst = [] := hO
  have hX := CxIs.mk hP hN hO
  have hF := hF rfl
  show HT cx ⟨[(0, nV a0)], [], 0⟩ _ _
  refine HT.rg2 [oH] ⟨[(0, nV a0)], [], 0⟩ hX (by kernel_rfl) allNil ?_
  refine HT.seq ?_
  refine HT.rg2 (oHs 3) ⟨[(0, nV a0), (5, nV a0), (6, iV (lenI a0)), (7, iV (0 : Int))], [], 0⟩ hX (by kernel_rfl) allNil ?_
  refine HT.block ?_
  obtain ⟨r2, hL13, hr⟩ := of_bind hr
  refine HT.loopL (fun (s1 : Int) => ⟨[(0, nV a0), (5, nV a0), (6, iV (lenI a0)), (7, iV s1)], [], 0⟩) (fun (r2 : Unit ⊕ Unit) => match r2 with | .inl r3 => (.exit 0, ⟨[(0, nV a0)], [], 0⟩) | .inr r4 => (.ret, ⟨[(2, bV false)], [], 0⟩)) (Le.re [] [] hX (by kernel_rfl)) hL13 ?_ (fun s1 x5 hx6 hk7 => ?_)
  · rcases r2 with r3 | r4
    · refine (qBlockX (qThen ?_))
      refine HT.rg2 (oHs 4) ⟨[(2, bV (decide ((lenI a0) ≤ (64 : Int))))], [], 0⟩ hX (by kernel_rfl) allNil ?_
      have hr := of_some hr
      subst hr
      exact HT.ret ⟨[bV (decide ((lenI a0) ≤ (64 : Int)))], [], [], by kernel_rfl, by kernel_rfl, rfl, by kernel_rfl, by kernel_rfl, trivial⟩
    · have hr := of_some hr
      subst hr
      exact (qBlockR (qThenR ⟨[bV false], [], [], by kernel_rfl, by kernel_rfl, rfl, by kernel_rfl, by kernel_rfl, trivial⟩))
  · refine HT.rg2 [oH] ⟨[(0, nV a0), (5, nV a0), (6, iV (lenI a0)), (7, iV s1), (8, bV (decide (s1 < (lenI a0))))], [], 0⟩ hX (by kernel_rfl) allNil ?_
    refine HT.seq ?_
    rcases of_bif hx6 with ⟨hb8, hx6⟩ | ⟨hb8, hx6⟩
    · refine HT.cond1 rfl hb8 ?_
      refine HT.skip (qThen ?_)
      refine HT.seq ?_
      refine HT.block ?_
      obtain ⟨hg9, hx6⟩ := of_guard hx6
      refine HT.rg2 (oHs 3) ⟨[(0, nV a0), (4, iV (List.getD a0 (Int.toNat s1) (0 : Int))), (5, nV a0), (6, iV (lenI a0)), (7, iV s1)], [], 0⟩ hX (by kernel_rfl) (allCons hg9 allNil) ?_
      obtain ⟨y10, hc11, hx6⟩ := of_bind hx6
      refine HT.rg2 [oH, ⟨none, .call [.imm tI] [⟨false, .bool, y10⟩] []⟩, oH] ⟨[(0, nV a0), (5, nV a0), (6, iV (lenI a0)), (7, iV s1), (13, bV (!y10))], [], 0⟩ hX (by kernel_rfl) (allCons (f147_ok hc11) allNil) ?_
      rcases of_bif hx6 with ⟨hb12, hx6⟩ | ⟨hb12, hx6⟩
      · refine HT.cond1 rfl hb12 ?_
        refine HT.rg2 [oH] ⟨[(2, bV false)], [], 0⟩ hX (by kernel_rfl) allNil ?_
        have hx6 := of_some hx6
        subst hx6
        exact HT.retL (Le.re [] [] hX (by kernel_rfl)) (qBlockR (qThenR (qLoopR (hk7 (.inr ()) rfl))))
      · refine HT.cond0 rfl hb12 ?_
        refine HT.skip (qBlock (qThen ?_))
        have hx6 := of_some hx6
        subst hx6
        exact HT.rgK (oHs 2) [] [] hX (by kernel_rfl) allNil (fun _ h => (qLoopN ⟨(wadd .i64 s1 (1 : Int)), rfl, h⟩))
    · refine HT.cond0 rfl hb8 ?_
      have hx6 := of_some hx6
      subst hx6
      exact HT.exitL (Le.re [] [] hX (by kernel_rfl)) (qThenE (qLoopE (hk7 (.inl ()) rfl)))

noncomputable def impl_joined (a0 : List (List UInt8)) : Option (List UInt8) :=
  bif ((lenI a0) == (0 : Int)) then
    some ([110, 111, 110, 101] : List UInt8)
  else
    (strings_Join a0 ([44] : List UInt8)).bind fun y2 =>
    some y2

theorem f148_ok {a0 : List (List UInt8)} {r : List UInt8} (hr : impl_joined a0 = some r) : CallOK Tryd.prog 148 [.imm (.sl .str) a0] [⟨false, .str, r⟩] [] := by
  unfold impl_joined at hr
  refine CallOK.of_body (ts := [(false, .str)]) Tryd.func148 rfl (by kernel_rfl) (Nat.le_of_ble_eq_true (by kernel_rfl)) fun cx hP hN hO hF => ?_
  have hO : cx.own.map Prod.fst = [] := hO
  have hX := CxIs.mk hP hN hO
  have hF := hF rfl
  show HT cx ⟨[(0, .one (.dat (.sl .str) a0))], [], 0⟩ _ _
  refine HT.rg2 [oH] ⟨[(0, .one (.dat (.sl .str) a0))], [], 0⟩ hX (by kernel_rfl) allNil ?_
  refine HT.seq ?_
  refine HT.rg2 (oHs 3) ⟨[(0, .one (.dat (.sl .str) a0)), (5, bV ((lenI a0) == (0 : Int)))], [], 0⟩ hX (by kernel_rfl) allNil ?_
  rcases of_bif hr with ⟨hb1, hr⟩ | ⟨hb1, hr⟩
  · refine HT.cond1 rfl hb1 ?_
    refine HT.rg2 [oH] ⟨[(2, .one (.dat .str ([110, 111, 110, 101] : List UInt8)))], [], 0⟩ hX (by kernel_rfl) allNil ?_
    have hr := of_some hr
    subst hr
    exact HT.ret (qThenR ⟨[.one (.dat .str ([110, 111, 110, 101] : List UInt8))], [], [], by kernel_rfl, by kernel_rfl, rfl, by kernel_rfl, by kernel_rfl, trivial⟩)
  · refine HT.cond0 rfl hb1 ?_
    refine HT.skip (qThen ?_)
    obtain ⟨y2, hc3, hr⟩ := of_bind hr
    refine HT.rg2 [oH, ⟨none, .call [.imm (.sl .str), .imm .str] [⟨false, .str, y2⟩] []⟩, oH] ⟨[(2, .one (.dat .str y2))], [], 0⟩ hX (by kernel_rfl) (allCons (f115_ok hc3) allNil) ?_
    have hr := of_some hr
    subst hr
    exact HT.ret ⟨[.one (.dat .str y2)], [], [], by kernel_rfl, by kernel_rfl, rfl, by kernel_rfl, by kernel_rfl, trivial⟩

theorem tabPow {w : World} {t : TypeId} {fr : Nat × Nat} (h : w.heap[1]? = some (.cells pow10Cells t fr)) : Lib.TabIs Tryd.prog w "internal/strconv.uint64pow10" .u64 Lib.pow10Tab := by
  unfold Lib.TabIs World.var?
  rw [show Tryd.prog.globalNamed "internal/strconv.uint64pow10" = some 1 by kernel_rfl, Option.bind_some, h]
  unfold pow10Cells Lib.pow10Tab
  rw [List.map_map]
  rfl

noncomputable def strconv_FormatInt (a0 : Int) (a1 : Int) : Option (List UInt8) :=
  guardP (a1 = 10 ∧ -9223372036854775808 ≤ a0 ∧ a0 ≤ 9223372036854775807) <| some (Lib.itoa a0)

theorem f108_ok {a0 : Int} {a1 : Int} {r : List UInt8} (h : strconv_FormatInt a0 a1 = some r) : CallOK Tryd.prog 108 [.imm tI a0, .imm tI a1] [⟨false, .str, r⟩] [] := by
  obtain ⟨hg, h⟩ := of_guard h
  have h := of_some h
  subst h
  obtain ⟨rfl, hg⟩ := hg
  have hg : True ∧ _ := ⟨trivial, hg⟩
  exact simple_ok (ps := [⟨tI, a0⟩, ⟨tI, 10⟩]) (rs := [⟨.str, Lib.itoa a0⟩]) ⟨_, Tryd.func108, by kernel_rfl, by kernel_rfl⟩ (by simp [Ty.simple]) (by simp [Ty.simple]) fun w S hgl => by
    have hm : ∃ m, w.cell? ⟨0, 0, none⟩ = some (.int .i64 m) := hgl.1.2
    obtain ⟨m, hm⟩ := hm
    obtain ⟨_, t, fr, ht⟩ := hgl.2
    exact (Tryd.strconv_FormatInt_10 _ hg.2.1 hg.2.2 w (tabPow ht)).mono fun e w' ⟨he, k, os, hw⟩ => ⟨⟨_, he, rfl⟩, hw ▸ Lib.below_grow _ _ (Nat.le_refl _) k os⟩

noncomputable def impl_Decimal (a0 : Int) : Option (List UInt8) :=
  (strconv_FormatInt a0 (10 : Int)).bind fun y1 =>
  some y1

theorem f54_ok {a0 : Int} {r : List UInt8} (hr : impl_Decimal a0 = some r) : CallOK Tryd.prog 54 [.imm tI a0] [⟨false, .str, r⟩] [] := by
  unfold impl_Decimal at hr
  refine CallOK.of_body (ts := [(false, .str)]) Tryd.func54 rfl (by kernel_rfl) (Nat.le_of_ble_eq_true (by kernel_rfl)) fun cx hP hN hO hF => ?_
  have hO : cx.own.map Prod.fst = [] := hO
  have hX := CxIs.mk hP hN hO
  have hF := hF rfl
  show HT cx ⟨[(0, iV a0)], [], 0⟩ _ _
  refine HT.rg2 [oH] ⟨[(0, iV a0)], [], 0⟩ hX (by kernel_rfl) allNil ?_
  obtain ⟨y1, hc2, hr⟩ := of_bind hr
  refine HT.rg2 [oH, ⟨none, .call [.imm tI, .imm tI] [⟨false, .str, y1⟩] []⟩, oH] ⟨[(2, .one (.dat .str y1))], [], 0⟩ hX (by kernel_rfl) (allCons (f108_ok hc2) allNil) ?_
  have hr := of_some hr
  subst hr
  exact HT.ret ⟨[.one (.dat .str y1)], [], [], by kernel_rfl, by kernel_rfl, rfl, by kernel_rfl, by kernel_rfl, trivial⟩

noncomputable def impl_listText_B1 (a0 : List Int) (s1 : Int × List (List UInt8)) : Option ((Int × List (List UInt8)) ⊕ (List (List UInt8))) :=
  bif (decide (s1.1 < (lenI a0))) then
    guardP ((0 : Int) ≤ s1.1 ∧ s1.1 < lenI a0) (
      (impl_Decimal (List.getD a0 (Int.toNat s1.1) (0 : Int))).bind fun y11 =>
      guardP (List.length s1.2 + List.length ([y11] : List (List UInt8)) ≤ appMax) (
        some (.inl ((wadd .i64 s1.1 (1 : Int)), (s1.2 ++ ([y11] : List (List UInt8)))))))
  else
    some (.inr s1.2)

noncomputable def impl_listText (a0 : List Int) : Option (List UInt8) :=
  (rounds (impl_listText_B1 a0) ((0 : Int), ([] : List (List UInt8)))).bind fun r3 =>
  (impl_joined r3).bind fun y4 =>
  some y4

theorem f134_ok {a0 : List Int} {r : List UInt8} (hr : impl_listText a0 = some r) : CallOK Tryd.prog 134 [.imm tLI a0] [⟨false, .str, r⟩] [] := by
  unfold impl_listText at hr
  refine CallOK.of_body (ts := [(false, .str)]) Tryd.func134 rfl (by kernel_rfl) (Nat.le_of_ble_eq_true (by kernel_rfl)) fun cx hP hN hO hF => ?_
  have hO : cx.own.map Prod.fst = [] := hO
  have hX := CxIs.mk hP hN hO
  have hF := hF rfl
  show HT cx ⟨[(0, nV a0)], [], 0⟩ _ _
  refine HT.rg2 [oH] ⟨[(0, nV a0)], [], 0⟩ hX (by kernel_rfl) allNil ?_
  refine HT.rg2 (oHs 2) ⟨[(0, nV a0), (3, .one (.nilS))], [], 0⟩ hX (by kernel_rfl) allNil ?_
  refine HT.seq ?_
  refine HT.rg2 (oHs 3) ⟨[(3, .one (.nilS)), (7, nV a0), (8, iV (lenI a0)), (9, iV (0 : Int))], [], 0⟩ hX (by kernel_rfl) allNil ?_
  refine HT.block ?_
  obtain ⟨r2, hL14, hr⟩ := of_bind hr
  refine HT.loopL (fun (s1 : Int × List (List UInt8)) => ⟨[(3, aV 0), (7, nV a0), (8, iV (lenI a0)), (9, iV s1.1)], [(0, .seq .str s1.2)], 1⟩) (fun (r3 : List (List UInt8)) => (.exit 0, ⟨[(3, aV 0)], [(0, .seq .str r3)], 1⟩)) (Le.re [] [0] hX (by kernel_rfl)) hL14 ?_ (fun s1 x6 hx7 hk8 => ?_)
  · refine (qBlockX (qThen ?_))
    obtain ⟨y4, hc5, hr⟩ := of_bind hr
    refine HT.rg2 [oH, ⟨none, .call [.imm (.sl .str)] [⟨false, .str, y4⟩] []⟩, oH] ⟨[(2, .one (.dat .str y4))], [], 1⟩ hX (by kernel_rfl) (allCons (f148_ok hc5) allNil) ?_
    have hr := of_some hr
    subst hr
    exact HT.ret ⟨[.one (.dat .str y4)], [], [], by kernel_rfl, by kernel_rfl, rfl, by kernel_rfl, by kernel_rfl, trivial⟩
  · refine HT.rg2 [oH] ⟨[(3, aV 0), (7, nV a0), (8, iV (lenI a0)), (9, iV s1.1), (10, bV (decide (s1.1 < (lenI a0))))], [(0, .seq .str s1.2)], 1⟩ hX (by kernel_rfl) allNil ?_
    refine HT.seq ?_
    rcases of_bif hx7 with ⟨hb9, hx7⟩ | ⟨hb9, hx7⟩
    · refine HT.cond1 rfl hb9 ?_
      refine HT.skip (qThen ?_)
      refine HT.seq ?_
      refine HT.block ?_
      obtain ⟨hg10, hx7⟩ := of_guard hx7
      refine HT.rg2 (oHs 3) ⟨[(3, aV 0), (5, iV (List.getD a0 (Int.toNat s1.1) (0 : Int))), (7, nV a0), (8, iV (lenI a0)), (9, iV s1.1)], [(0, .seq .str s1.2)], 1⟩ hX (by kernel_rfl) (allCons hg10 allNil) ?_
      obtain ⟨y11, hc12, hx7⟩ := of_bind hx7
      obtain ⟨hg13, hx7⟩ := of_guard hx7
      refine HT.rgL [oH, oH, ⟨none, .call [.imm tI] [⟨false, .str, y11⟩] []⟩, ⟨none, .ty .str⟩, ⟨none, .ty .str⟩, oH] ⟨[(3, aV 2), (7, nV a0), (8, iV (lenI a0)), (9, iV s1.1)], [(2, .seq .str (s1.2 ++ ([y11] : List (List UInt8))))], 3⟩ hX (by kernel_rfl) (allCons (f54_ok hc12) (allCons hg13 allNil)) (qBlock (qThen ?_))
      have hx7 := of_some hx7
      subst hx7
      exact HT.rgK (oHs 2) [(2, 0)] [] hX (by kernel_rfl) allNil (fun _ h => (qLoopN ⟨((wadd .i64 s1.1 (1 : Int)), (s1.2 ++ ([y11] : List (List UInt8)))), rfl, h⟩))
    · refine HT.cond0 rfl hb9 ?_
      have hx7 := of_some hx7
      subst hx7
      exact HT.exitL (Le.re [(0, 0)] [] hX (by kernel_rfl)) (qThenE (qLoopE (hk8 s1.2 rfl)))

noncomputable def impl_ListText (a0 : List Int) : Option (List UInt8 × Bool) :=
  (impl_areValues a0).bind fun y1 =>
  bif (!y1) then
    some (([] : List UInt8), false)
  else
    (impl_listText a0).bind fun y4 =>
    some (y4, true)

theorem f114_ok {a0 : List Int} {r : List UInt8 × Bool} (hr : impl_ListText a0 = some r) : CallOK Tryd.prog 114 [.imm tLI a0] [⟨false, .str, r.1⟩, ⟨false, .bool, r.2⟩] [] := by
  unfold impl_ListText at hr
  refine CallOK.of_body (ts := [(false, .str), (false, .bool)]) Tryd.func114 rfl (by kernel_rfl) (Nat.le_of_ble_eq_true (by kernel_rfl)) fun cx hP hN hO hF => ?_
  have hO : cx.own.map Prod.fst = [] := hO
  have hX := CxIs.mk hP hN hO
  have hF := hF rfl
  show HT cx ⟨[(0, nV a0)], [], 0⟩ _ _
  refine HT.rg2 (oHs 2) ⟨[(0, nV a0)], [], 0⟩ hX (by kernel_rfl) allNil ?_
  refine HT.seq ?_
  obtain ⟨y1, hc2, hr⟩ := of_bind hr
  refine HT.rg2 [oH, ⟨none, .call [.imm tLI] [⟨false, .bool, y1⟩] []⟩, oH] ⟨[(0, nV a0), (6, bV (!y1))], [], 0⟩ hX (by kernel_rfl) (allCons (f133_ok hc2) allNil) ?_
  rcases of_bif hr with ⟨hb3, hr⟩ | ⟨hb3, hr⟩
  · refine HT.cond1 rfl hb3 ?_
    refine HT.rg2 (oHs 2) ⟨[(2, .one (.dat .str ([] : List UInt8))), (3, bV false)], [], 0⟩ hX (by kernel_rfl) allNil ?_
    have hr := of_some hr
    subst hr
    exact HT.ret (qThenR ⟨[.one (.dat .str ([] : List UInt8)), bV false], [], [], by kernel_rfl, by kernel_rfl, rfl, by kernel_rfl, by kernel_rfl, trivial⟩)
  · refine HT.cond0 rfl hb3 ?_
    refine HT.skip (qThen ?_)
    obtain ⟨y4, hc5, hr⟩ := of_bind hr
    refine HT.rg2 [oH, ⟨none, .call [.imm tLI] [⟨false, .str, y4⟩] []⟩, oH, oH] ⟨[(2, .one (.dat .str y4)), (3, bV true)], [], 0⟩ hX (by kernel_rfl) (allCons (f134_ok hc5) allNil) ?_
    have hr := of_some hr
    subst hr
    exact HT.ret ⟨[.one (.dat .str y4), bV true], [], [], by kernel_rfl, by kernel_rfl, rfl, by kernel_rfl, by kernel_rfl, trivial⟩

noncomputable def impl_listTexts_B1 (a0 : List (List Int)) (s1 : Int × List (List UInt8)) : Option ((Int × List (List UInt8)) ⊕ (List (List UInt8) ⊕ Unit)) :=
  bif (decide (s1.1 < (lenI a0))) then
    guardP ((0 : Int) ≤ s1.1 ∧ s1.1 < lenI a0) (
      (impl_ListText (List.getD a0 (Int.toNat s1.1) ([] : List Int))).bind fun y12 =>
      bif (!y12.2) then
        some (.inr (.inr ()))
      else
        guardP (List.length s1.2 + List.length ([y12.1] : List (List UInt8)) ≤ appMax) (
          some (.inl ((wadd .i64 s1.1 (1 : Int)), (s1.2 ++ ([y12.1] : List (List UInt8)))))))
  else
    some (.inr (.inl s1.2))

noncomputable def impl_listTexts (a0 : List (List Int)) : Option (List UInt8 × Bool) :=
  (rounds (impl_listTexts_B1 a0) ((0 : Int), ([] : List (List UInt8)))).bind fun r2 => match r2 with
    | .inl r3 =>
      (strings_Join r3 ([59] : List UInt8)).bind fun y4 =>
      some (y4, true)
    | .inr r6 =>
      some (([] : List UInt8), false)

theorem f67_ok {a0 : List (List Int)} {r : List UInt8 × Bool} (hr : impl_listTexts a0 = some r) : CallOK Tryd.prog 67 [.imm (.sl tLI) a0] [⟨false, .str, r.1⟩, ⟨false, .bool, r.2⟩] [] := by
  unfold impl_listTexts at hr
  refine CallOK.of_body (ts := [(false, .str), (false, .bool)]) Tryd.func67 rfl (by kernel_rfl) (Nat.le_of_ble_eq_true (by kernel_rfl)) fun cx hP hN hO hF => ?_
  have hO : cx.own.map Prod.fst = [] := hO
  have hX := CxIs.mk hP hN hO
  have hF := hF rfl
  show HT cx ⟨[(0, .one (.dat (.sl tLI) a0))], [], 0⟩ _ _
  refine HT.rg2 (oHs 2) ⟨[(0, .one (.dat (.sl tLI) a0))], [], 0⟩ hX (by kernel_rfl) allNil ?_
  refine HT.rg2 (oHs 2) ⟨[(0, .one (.dat (.sl tLI) a0)), (4, .one (.nilS))], [], 0⟩ hX (by kernel_rfl) allNil ?_
  refine HT.seq ?_
  refine HT.rg2 (oHs 3) ⟨[(4, .one (.nilS)), (10, .one (.dat (.sl tLI) a0)), (11, iV (lenI a0)), (12, iV (0 : Int))], [], 0⟩ hX (by kernel_rfl) allNil ?_
  refine HT.block ?_
  obtain ⟨r2, hL16, hr⟩ := of_bind hr
  refine HT.loopL (fun (s1 : Int × List (List UInt8)) => ⟨[(4, aV 0), (10, .one (.dat (.sl tLI) a0)), (11, iV (lenI a0)), (12, iV s1.1)], [(0, .seq .str s1.2)], 1⟩) (fun (r2 : List (List UInt8) ⊕ Unit) => match r2 with | .inl r3 => (.exit 0, ⟨[(4, aV 0)], [(0, .seq .str r3)], 1⟩) | .inr r6 => (.ret, ⟨[(2, .one (.dat .str ([] : List UInt8))), (3, bV false)], [], 0⟩)) (Le.re [] [0] hX (by kernel_rfl)) hL16 ?_ (fun s1 x7 hx8 hk9 => ?_)
  · rcases r2 with r3 | r6
    · refine (qBlockX (qThen ?_))
      obtain ⟨y4, hc5, hr⟩ := of_bind hr
      refine HT.rg2 [oH, ⟨none, .call [.imm (.sl .str), .imm .str] [⟨false, .str, y4⟩] []⟩, oH, oH] ⟨[(2, .one (.dat .str y4)), (3, bV true)], [], 1⟩ hX (by kernel_rfl) (allCons (f115_ok hc5) allNil) ?_
      have hr := of_some hr
      subst hr
      exact HT.ret ⟨[.one (.dat .str y4), bV true], [], [], by kernel_rfl, by kernel_rfl, rfl, by kernel_rfl, by kernel_rfl, trivial⟩
    · have hr := of_some hr
      subst hr
      exact (qBlockR (qThenR ⟨[.one (.dat .str ([] : List UInt8)), bV false], [], [], by kernel_rfl, by kernel_rfl, rfl, by kernel_rfl, by kernel_rfl, trivial⟩))
  · refine HT.rg2 [oH] ⟨[(4, aV 0), (10, .one (.dat (.sl tLI) a0)), (11, iV (lenI a0)), (12, iV s1.1), (13, bV (decide (s1.1 < (lenI a0))))], [(0, .seq .str s1.2)], 1⟩ hX (by kernel_rfl) allNil ?_
    refine HT.seq ?_
    rcases of_bif hx8 with ⟨hb10, hx8⟩ | ⟨hb10, hx8⟩
    · refine HT.cond1 rfl hb10 ?_
      refine HT.skip (qThen ?_)
      refine HT.seq ?_
      refine HT.block ?_
      obtain ⟨hg11, hx8⟩ := of_guard hx8
      refine HT.rg2 (oHs 3) ⟨[(4, aV 0), (6, nV (List.getD a0 (Int.toNat s1.1) ([] : List Int))), (10, .one (.dat (.sl tLI) a0)), (11, iV (lenI a0)), (12, iV s1.1)], [(0, .seq .str s1.2)], 1⟩ hX (by kernel_rfl) (allCons hg11 allNil) ?_
      obtain ⟨y12, hc13, hx8⟩ := of_bind hx8
      refine HT.rg2 [oH, ⟨none, .call [.imm tLI] [⟨false, .str, y12.1⟩, ⟨false, .bool, y12.2⟩] []⟩, oH, oH, oH, oH, oH] ⟨[(4, aV 0), (7, .one (.dat .str y12.1)), (8, bV y12.2), (10, .one (.dat (.sl tLI) a0)), (11, iV (lenI a0)), (12, iV s1.1)], [(0, .seq .str s1.2)], 1⟩ hX (by kernel_rfl) (allCons (f114_ok hc13) allNil) ?_
      refine HT.seq ?_
      refine HT.rg2 (oHs 2) ⟨[(4, aV 0), (7, .one (.dat .str y12.1)), (10, .one (.dat (.sl tLI) a0)), (11, iV (lenI a0)), (12, iV s1.1), (22, bV (!y12.2))], [(0, .seq .str s1.2)], 1⟩ hX (by kernel_rfl) allNil ?_
      rcases of_bif hx8 with ⟨hb14, hx8⟩ | ⟨hb14, hx8⟩
      · refine HT.cond1 rfl hb14 ?_
        refine HT.rg2 (oHs 2) ⟨[(2, .one (.dat .str ([] : List UInt8))), (3, bV false)], [], 1⟩ hX (by kernel_rfl) allNil ?_
        have hx8 := of_some hx8
        subst hx8
        exact HT.retL (Le.re [] [] hX (by kernel_rfl)) (qThenR (qBlockR (qThenR (qLoopR (hk9 (.inr ()) rfl)))))
      · refine HT.cond0 rfl hb14 ?_
        refine HT.skip (qThen ?_)
        obtain ⟨hg15, hx8⟩ := of_guard hx8
        refine HT.rgL [oH, oH, ⟨none, .ty .str⟩, ⟨none, .ty .str⟩, oH] ⟨[(4, aV 2), (10, .one (.dat (.sl tLI) a0)), (11, iV (lenI a0)), (12, iV s1.1)], [(2, .seq .str (s1.2 ++ ([y12.1] : List (List UInt8))))], 3⟩ hX (by kernel_rfl) (allCons hg15 allNil) (qBlock (qThen ?_))
        have hx8 := of_some hx8
        subst hx8
        exact HT.rgK (oHs 2) [(2, 0)] [] hX (by kernel_rfl) allNil (fun _ h => (qLoopN ⟨((wadd .i64 s1.1 (1 : Int)), (s1.2 ++ ([y12.1] : List (List UInt8)))), rfl, h⟩))
    · refine HT.cond0 rfl hb10 ?_
      have hx8 := of_some hx8
      subst hx8
      exact HT.exitL (Le.re [(0, 0)] [] hX (by kernel_rfl)) (qThenE (qLoopE (hk9 (.inl s1.2) rfl)))

noncomputable def impl_PlainText_B1 (a0 : Int × Int × List Int × List Bool) (s8 : List UInt8 × Int) : Option ((List UInt8 × Int) ⊕ (List UInt8)) :=
  bif (decide (s8.2 < (lenI a0.2.2.2))) then
    (show Option (List UInt8) from
      guardP ((0 : Int) ≤ s8.2 ∧ s8.2 < lenI a0.2.2.2) (
        bif (List.getD a0.2.2.2 (Int.toNat s8.2) false) then
          guardP (List.length s8.1 + List.length ([49] : List UInt8) ≤ appMax) (
            some (s8.1 ++ ([49] : List UInt8)))
        else
          guardP (List.length s8.1 + List.length ([48] : List UInt8) ≤ appMax) (
            some (s8.1 ++ ([48] : List UInt8))))).bind fun v15 =>
    some (.inl (v15, (wadd .i64 s8.2 (1 : Int))))
  else
    some (.inr s8.1)

noncomputable def impl_PlainText (a0 : Int × Int × List Int × List Bool) : Option (List UInt8 × Bool) :=
  (impl_ValidPlain (a0.1, a0.2.1, a0.2.2.1, a0.2.2.2)).bind fun y1 =>
  bif (!y1) then
    some (([] : List UInt8), false)
  else
    (impl_listTexts ([([a0.1, a0.2.1] : List Int), a0.2.2.1] : List (List Int))).bind fun y4 =>
    bif (!y4.2) then
      some (([] : List UInt8), false)
    else
      guardP (List.length y4.1 + List.length ([59] : List UInt8) ≤ appMax) (
        (rounds (impl_PlainText_B1 a0) ((y4.1 ++ ([59] : List UInt8)), (0 : Int))).bind fun r10 =>
        some (r10, true))

theorem f29_ok {a0 : Int × Int × List Int × List Bool} {r : List UInt8 × Bool} (hr : impl_PlainText a0 = some r) : CallOK Tryd.prog 29 [.imm (.st (.pair tI (.pair tI (.pair tLI (.sl .bool))))) a0] [⟨false, .str, r.1⟩, ⟨false, .bool, r.2⟩] [] := by
  unfold impl_PlainText at hr
  refine CallOK.of_body (ts := [(false, .str), (false, .bool)]) Tryd.func29 rfl (by kernel_rfl) (Nat.le_of_ble_eq_true (by kernel_rfl)) fun cx hP hN hO hF => ?_
  have hO : cx.own.map Prod.fst = [] := hO
  have hX := CxIs.mk hP hN hO
  have hF := hF rfl
  show HT cx ⟨[(0, .agg [iC a0.1, iC a0.2.1, nC a0.2.2.1, .dat (.sl .bool) a0.2.2.2])], [], 0⟩ _ _
  refine HT.rg2 (oHs 3) ⟨[(1, pV 0 0)], [(0, .box [iC a0.1, iC a0.2.1, nC a0.2.2.1, .dat (.sl .bool) a0.2.2.2])], 1⟩ hX (by kernel_rfl) allNil ?_
  refine HT.seq ?_
  obtain ⟨y1, hc2, hr⟩ := of_bind hr
  refine HT.rg2 [oH, ⟨none, .call [.imm (.st (.pair tI (.pair tI (.pair tLI (.sl .bool)))))] [⟨false, .bool, y1⟩] []⟩, oH] ⟨[(1, pV 0 0), (10, bV (!y1))], [(0, .box [iC a0.1, iC a0.2.1, nC a0.2.2.1, .dat (.sl .bool) a0.2.2.2])], 1⟩ hX (by kernel_rfl) (allCons (f75_ok hc2) allNil) ?_
  rcases of_bif hr with ⟨hb3, hr⟩ | ⟨hb3, hr⟩
  · refine HT.cond1 rfl hb3 ?_
    refine HT.rg2 (oHs 2) ⟨[(2, .one (.dat .str ([] : List UInt8))), (3, bV false)], [], 1⟩ hX (by kernel_rfl) allNil ?_
    have hr := of_some hr
    subst hr
    exact HT.ret (qThenR ⟨[.one (.dat .str ([] : List UInt8)), bV false], [], [], by kernel_rfl, by kernel_rfl, rfl, by kernel_rfl, by kernel_rfl, trivial⟩)
  · refine HT.cond0 rfl hb3 ?_
    refine HT.skip (qThen ?_)
    obtain ⟨y4, hc5, hr⟩ := of_bind hr
    refine HT.rg2 [oH, oH, oH, oH, ⟨none, .tyD tI⟩, oH, oH, ⟨none, .ty tLI⟩, ⟨none, .call [.imm (.sl tLI)] [⟨false, .str, y4.1⟩, ⟨false, .bool, y4.2⟩] []⟩, oH, oH, oH, oH, oH] ⟨[(1, pV 0 0), (4, .one (.dat .str y4.1)), (5, bV y4.2)], [(0, .box [iC a0.1, iC a0.2.1, nC a0.2.2.1, .dat (.sl .bool) a0.2.2.2])], 2⟩ hX (by kernel_rfl) (allCons (f67_ok hc5) allNil) ?_
    refine HT.seq ?_
    refine HT.rg2 (oHs 2) ⟨[(1, pV 0 0), (4, .one (.dat .str y4.1)), (24, bV (!y4.2))], [(0, .box [iC a0.1, iC a0.2.1, nC a0.2.2.1, .dat (.sl .bool) a0.2.2.2])], 2⟩ hX (by kernel_rfl) allNil ?_
    rcases of_bif hr with ⟨hb6, hr⟩ | ⟨hb6, hr⟩
    · refine HT.cond1 rfl hb6 ?_
      refine HT.rg2 (oHs 2) ⟨[(2, .one (.dat .str ([] : List UInt8))), (3, bV false)], [], 2⟩ hX (by kernel_rfl) allNil ?_
      have hr := of_some hr
      subst hr
      exact HT.ret (qThenR ⟨[.one (.dat .str ([] : List UInt8)), bV false], [], [], by kernel_rfl, by kernel_rfl, rfl, by kernel_rfl, by kernel_rfl, trivial⟩)
    · refine HT.cond0 rfl hb6 ?_
      refine HT.skip (qThen ?_)
      obtain ⟨hg7, hr⟩ := of_guard hr
      refine HT.rg2 (oHs 3) ⟨[(1, pV 0 0), (4, .one (.dat .str (y4.1 ++ ([59] : List UInt8))))], [(0, .box [iC a0.1, iC a0.2.1, nC a0.2.2.1, .dat (.sl .bool) a0.2.2.2])], 2⟩ hX (by kernel_rfl) (allCons hg7 allNil) ?_
      refine HT.seq ?_
      refine HT.rg2 (oHs 4) ⟨[(4, .one (.dat .str (y4.1 ++ ([59] : List UInt8)))), (28, .one (.dat (.sl .bool) a0.2.2.2)), (29, iV (lenI a0.2.2.2)), (30, iV (0 : Int))], [], 2⟩ hX (by kernel_rfl) allNil ?_
      refine HT.block ?_
      obtain ⟨r9, hL22, hr⟩ := of_bind hr
      refine HT.loopL (fun (s8 : List UInt8 × Int) => ⟨[(4, .one (.dat .str s8.1)), (28, .one (.dat (.sl .bool) a0.2.2.2)), (29, iV (lenI a0.2.2.2)), (30, iV s8.2)], [], 0⟩) (fun (r10 : List UInt8) => (.exit 0, ⟨[(4, .one (.dat .str r10))], [], 0⟩)) (Le.re [] [] hX (by kernel_rfl)) hL22 ?_ (fun s8 x11 hx12 hk13 => ?_)
      · refine (qBlockX (qThen ?_))
        refine HT.rg2 (oHs 3) ⟨[(2, .one (.dat .str r9)), (3, bV true)], [], 0⟩ hX (by kernel_rfl) allNil ?_
        have hr := of_some hr
        subst hr
        exact HT.ret ⟨[.one (.dat .str r9), bV true], [], [], by kernel_rfl, by kernel_rfl, rfl, by kernel_rfl, by kernel_rfl, trivial⟩
      · refine HT.rg2 [oH] ⟨[(4, .one (.dat .str s8.1)), (28, .one (.dat (.sl .bool) a0.2.2.2)), (29, iV (lenI a0.2.2.2)), (30, iV s8.2), (31, bV (decide (s8.2 < (lenI a0.2.2.2))))], [], 0⟩ hX (by kernel_rfl) allNil ?_
        refine HT.seq ?_
        rcases of_bif hx12 with ⟨hb14, hx12⟩ | ⟨hb14, hx12⟩
        · refine HT.cond1 rfl hb14 ?_
          refine HT.skip (qThen ?_)
          obtain ⟨v15', hT17, hx12⟩ := of_bind hx12
          refine HT.join (fun (v15 : List UInt8) => ⟨[(4, .one (.dat .str v15)), (28, .one (.dat (.sl .bool) a0.2.2.2)), (29, iV (lenI a0.2.2.2)), (30, iV s8.2)], [], 0⟩) (fun v => v = v15') (fun v15 hv16 => ?_) (fun cont => ?_)
          · subst hv16
            have hx12 := of_some hx12
            subst hx12
            exact HT.rgK (oHs 2) [] [] hX (by kernel_rfl) allNil (fun _ h => (qLoopN ⟨(v15, (wadd .i64 s8.2 (1 : Int))), rfl, h⟩))
          · refine HT.block ?_
            obtain ⟨hg18, hT17⟩ := of_guard hT17
            refine HT.rg2 (oHs 3) ⟨[(4, .one (.dat .str s8.1)), (7, bV (List.getD a0.2.2.2 (Int.toNat s8.2) false)), (28, .one (.dat (.sl .bool) a0.2.2.2)), (29, iV (lenI a0.2.2.2)), (30, iV s8.2)], [], 0⟩ hX (by kernel_rfl) (allCons hg18 allNil) ?_
            refine HT.rg2 [oH] ⟨[(4, .one (.dat .str s8.1)), (28, .one (.dat (.sl .bool) a0.2.2.2)), (29, iV (lenI a0.2.2.2)), (30, iV s8.2), (34, bV (List.getD a0.2.2.2 (Int.toNat s8.2) false))], [], 0⟩ hX (by kernel_rfl) allNil ?_
            rcases of_bif hT17 with ⟨hb19, hT17⟩ | ⟨hb19, hT17⟩
            · refine HT.cond1 rfl hb19 ?_
              obtain ⟨hg20, hT17⟩ := of_guard hT17
              exact HT.rgK (oHs 3) [] [] hX (by kernel_rfl) (allCons hg20 allNil) (fun _ h => (qBlock (qThen (h.ht (cont (s8.1 ++ ([49] : List UInt8)) (of_some hT17))))))
            · refine HT.cond0 rfl hb19 ?_
              obtain ⟨hg21, hT17⟩ := of_guard hT17
              exact HT.rgK (oHs 3) [] [] hX (by kernel_rfl) (allCons hg21 allNil) (fun _ h => (qBlock (qThen (h.ht (cont (s8.1 ++ ([48] : List UInt8)) (of_some hT17))))))
        · refine HT.cond0 rfl hb14 ?_
          have hx12 := of_some hx12
          subst hx12
          exact HT.exitL (Le.re [] [] hX (by kernel_rfl)) (qThenE (qLoopE (hk13 s8.1 rfl)))

noncomputable def laws_eqInt64S_B1 (a0 : List Int) (a1 : List Int) (s2 : Int) : Option ((Int) ⊕ (Unit ⊕ Unit)) :=
  bif (decide (s2 < (lenI a0))) then
    guardP ((0 : Int) ≤ s2 ∧ s2 < lenI a0) (
      guardP ((0 : Int) ≤ s2 ∧ s2 < lenI a1) (
        bif ((List.getD a0 (Int.toNat s2) (0 : Int)) != (List.getD a1 (Int.toNat s2) (0 : Int))) then
          some (.inr (.inr ()))
        else
          some (.inl (wadd .i64 s2 (1 : Int)))))
  else
    some (.inr (.inl ()))

noncomputable def laws_eqInt64S (a0 : List Int) (a1 : List Int) : Option (Bool) :=
  bif ((lenI a0) != (lenI a1)) then
    some false
  else
    (rounds (laws_eqInt64S_B1 a0 a1) (0 : Int)).bind fun r3 => match r3 with
      | .inl r4 =>
        some true
      | .inr r5 =>
        some false

theorem f76_ok {a0 : List Int} {a1 : List Int} {r : Bool} (hr : laws_eqInt64S a0 a1 = some r) : CallOK Tryd.prog 76 [.imm tLI a0, .imm tLI a1] [⟨false, .bool, r⟩] [] := by
  unfold laws_eqInt64S at hr
  refine CallOK.of_body (ts := [(false, .bool)]) Tryd.func76 rfl (by kernel_rfl) (Nat.le_of_ble_eq_true (by kernel_rfl)) fun cx hP hN hO hF => ?_
  have hO : cx.own.map Prod.fst = [] := hO
  have hX := CxIs.mk hP hN hO
  have hF := hF rfl
  show HT cx ⟨[(0, nV a0), (1, nV a1)], [], 0⟩ _ _
  refine HT.rg2 [oH] ⟨[(0, nV a0), (1, nV a1)], [], 0⟩ hX (by kernel_rfl) allNil ?_
  refine HT.seq ?_
  refine HT.rg2 (oHs 5) ⟨[(0, nV a0), (1, nV a1), (10, bV ((lenI a0) != (lenI a1)))], [], 0⟩ hX (by kernel_rfl) allNil ?_
  rcases of_bif hr with ⟨hb1, hr⟩ | ⟨hb1, hr⟩
  · refine HT.cond1 rfl hb1 ?_
    refine HT.rg2 [oH] ⟨[(4, bV false)], [], 0⟩ hX (by kernel_rfl) allNil ?_
    have hr := of_some hr
    subst hr
    exact HT.ret (qThenR ⟨[bV false], [], [], by kernel_rfl, by kernel_rfl, rfl, by kernel_rfl, by kernel_rfl, trivial⟩)
  · refine HT.cond0 rfl hb1 ?_
    refine HT.skip (qThen ?_)
    refine HT.seq ?_
    refine HT.rg2 [oH] ⟨[(0, nV a0), (1, nV a1), (5, iV (0 : Int))], [], 0⟩ hX (by kernel_rfl) allNil ?_
    refine HT.block ?_
    obtain ⟨r3, hL13, hr⟩ := of_bind hr
    refine HT.loopL (fun (s2 : Int) => ⟨[(0, nV a0), (1, nV a1), (5, iV s2)], [], 0⟩) (fun (r3 : Unit ⊕ Unit) => match r3 with | .inl r4 => (.exit 0, ⟨[], [], 0⟩) | .inr r5 => (.ret, ⟨[(4, bV false)], [], 0⟩)) (Le.re [] [] hX (by kernel_rfl)) hL13 ?_ (fun s2 x6 hx7 hk8 => ?_)
    · rcases r3 with r4 | r5
      · refine (qBlockX (qThen ?_))
        refine HT.rg2 [oH] ⟨[(4, bV true)], [], 0⟩ hX (by kernel_rfl) allNil ?_
        have hr := of_some hr
        subst hr
        exact HT.ret ⟨[bV true], [], [], by kernel_rfl, by kernel_rfl, rfl, by kernel_rfl, by kernel_rfl, trivial⟩
      · have hr := of_some hr
        subst hr
        exact (qBlockR (qThenR ⟨[bV false], [], [], by kernel_rfl, by kernel_rfl, rfl, by kernel_rfl, by kernel_rfl, trivial⟩))
    · refine HT.seq ?_
      refine HT.rg2 (oHs 4) ⟨[(0, nV a0), (1, nV a1), (5, iV s2), (14, bV (decide (s2 < (lenI a0))))], [], 0⟩ hX (by kernel_rfl) allNil ?_
      rcases of_bif hx7 with ⟨hb9, hx7⟩ | ⟨hb9, hx7⟩
      · refine HT.cond1 rfl hb9 ?_
        refine HT.skip (qThen ?_)
        refine HT.seq ?_
        refine HT.block ?_
        obtain ⟨hg10, hx7⟩ := of_guard hx7
        obtain ⟨hg11, hx7⟩ := of_guard hx7
        refine HT.dr2 8 [⟨oH, []⟩, ⟨oH, []⟩, ⟨oH, [0, 1]⟩, ⟨oH, [0, 1, 2]⟩, ⟨oH, []⟩, ⟨oH, []⟩, ⟨oH, [4, 5]⟩, ⟨oH, [4, 5, 6]⟩] [[0, 1, 2, 3, 4, 5, 6, 7]] [oH] ⟨[(0, nV a0), (1, nV a1), (5, iV s2), (25, bV ((List.getD a0 (Int.toNat s2) (0 : Int)) != (List.getD a1 (Int.toNat s2) (0 : Int))))], [], 0⟩ hX (by kernel_rfl) (by kernel_rfl) (allCons hg10 (allCons hg11 allNil)) ?_
        rcases of_bif hx7 with ⟨hb12, hx7⟩ | ⟨hb12, hx7⟩
        · refine HT.cond1 rfl hb12 ?_
          refine HT.rg2 [oH] ⟨[(4, bV false)], [], 0⟩ hX (by kernel_rfl) allNil ?_
          have hx7 := of_some hx7
          subst hx7
          exact HT.retL (Le.re [] [] hX (by kernel_rfl)) (qBlockR (qThenR (qLoopR (hk8 (.inr ()) rfl))))
        · refine HT.cond0 rfl hb12 ?_
          refine HT.skip (qBlock (qThen ?_))
          have hx7 := of_some hx7
          subst hx7
          exact HT.rgK (oHs 3) [] [] hX (by kernel_rfl) allNil (fun _ h => (qLoopN ⟨(wadd .i64 s2 (1 : Int)), rfl, h⟩))
      · refine HT.cond0 rfl hb9 ?_
        have hx7 := of_some hx7
        subst hx7
        exact HT.exitL (Le.re [] [] hX (by kernel_rfl)) (qThenE (qLoopE (hk8 (.inl ()) rfl)))

noncomputable def laws_eqBoolS_B1 (a0 : List Bool) (a1 : List Bool) (s2 : Int) : Option ((Int) ⊕ (Unit ⊕ Unit)) :=
  bif (decide (s2 < (lenI a0))) then
    guardP ((0 : Int) ≤ s2 ∧ s2 < lenI a0) (
      guardP ((0 : Int) ≤ s2 ∧ s2 < lenI a1) (
        bif ((List.getD a0 (Int.toNat s2) false) != (List.getD a1 (Int.toNat s2) false)) then
          some (.inr (.inr ()))
        else
          some (.inl (wadd .i64 s2 (1 : Int)))))
  else
    some (.inr (.inl ()))

noncomputable def laws_eqBoolS (a0 : List Bool) (a1 : List Bool) : Option (Bool) :=
  bif ((lenI a0) != (lenI a1)) then
    some false
  else
    (rounds (laws_eqBoolS_B1 a0 a1) (0 : Int)).bind fun r3 => match r3 with
      | .inl r4 =>
        some true
      | .inr r5 =>
        some false

theorem f77_ok {a0 : List Bool} {a1 : List Bool} {r : Bool} (hr : laws_eqBoolS a0 a1 = some r) : CallOK Tryd.prog 77 [.imm (.sl .bool) a0, .imm (.sl .bool) a1] [⟨false, .bool, r⟩] [] := by
  unfold laws_eqBoolS at hr
  refine CallOK.of_body (ts := [(false, .bool)]) Tryd.func77 rfl (by kernel_rfl) (Nat.le_of_ble_eq_true (by kernel_rfl)) fun cx hP hN hO hF => ?_
  have hO : cx.own.map Prod.fst = [] := hO
  have hX := CxIs.mk hP hN hO
  have hF := hF rfl
  show HT cx ⟨[(0, .one (.dat (.sl .bool) a0)), (1, .one (.dat (.sl .bool) a1))], [], 0⟩ _ _
  refine HT.rg2 [oH] ⟨[(0, .one (.dat (.sl .bool) a0)), (1, .one (.dat (.sl .bool) a1))], [], 0⟩ hX (by kernel_rfl) allNil ?_
  refine HT.seq ?_
  refine HT.rg2 (oHs 5) ⟨[(0, .one (.dat (.sl .bool) a0)), (1, .one (.dat (.sl .bool) a1)), (10, bV ((lenI a0) != (lenI a1)))], [], 0⟩ hX (by kernel_rfl) allNil ?_
  rcases of_bif hr with ⟨hb1, hr⟩ | ⟨hb1, hr⟩
  · refine HT.cond1 rfl hb1 ?_
    refine HT.rg2 [oH] ⟨[(4, bV false)], [], 0⟩ hX (by kernel_rfl) allNil ?_
    have hr := of_some hr
    subst hr
    exact HT.ret (qThenR ⟨[bV false], [], [], by kernel_rfl, by kernel_rfl, rfl, by kernel_rfl, by kernel_rfl, trivial⟩)
  · refine HT.cond0 rfl hb1 ?_
    refine HT.skip (qThen ?_)
    refine HT.seq ?_
    refine HT.rg2 [oH] ⟨[(0, .one (.dat (.sl .bool) a0)), (1, .one (.dat (.sl .bool) a1)), (5, iV (0 : Int))], [], 0⟩ hX (by kernel_rfl) allNil ?_
    refine HT.block ?_
    obtain ⟨r3, hL13, hr⟩ := of_bind hr
    refine HT.loopL (fun (s2 : Int) => ⟨[(0, .one (.dat (.sl .bool) a0)), (1, .one (.dat (.sl .bool) a1)), (5, iV s2)], [], 0⟩) (fun (r3 : Unit ⊕ Unit) => match r3 with | .inl r4 => (.exit 0, ⟨[], [], 0⟩) | .inr r5 => (.ret, ⟨[(4, bV false)], [], 0⟩)) (Le.re [] [] hX (by kernel_rfl)) hL13 ?_ (fun s2 x6 hx7 hk8 => ?_)
    · rcases r3 with r4 | r5
      · refine (qBlockX (qThen ?_))
        refine HT.rg2 [oH] ⟨[(4, bV true)], [], 0⟩ hX (by kernel_rfl) allNil ?_
        have hr := of_some hr
        subst hr
        exact HT.ret ⟨[bV true], [], [], by kernel_rfl, by kernel_rfl, rfl, by kernel_rfl, by kernel_rfl, trivial⟩
      · have hr := of_some hr
        subst hr
        exact (qBlockR (qThenR ⟨[bV false], [], [], by kernel_rfl, by kernel_rfl, rfl, by kernel_rfl, by kernel_rfl, trivial⟩))
    · refine HT.seq ?_
      refine HT.rg2 (oHs 4) ⟨[(0, .one (.dat (.sl .bool) a0)), (1, .one (.dat (.sl .bool) a1)), (5, iV s2), (14, bV (decide (s2 < (lenI a0))))], [], 0⟩ hX (by kernel_rfl) allNil ?_
      rcases of_bif hx7 with ⟨hb9, hx7⟩ | ⟨hb9, hx7⟩
      · refine HT.cond1 rfl hb9 ?_
        refine HT.skip (qThen ?_)
        refine HT.seq ?_
        refine HT.block ?_
        obtain ⟨hg10, hx7⟩ := of_guard hx7
        obtain ⟨hg11, hx7⟩ := of_guard hx7
        refine HT.dr2 8 [⟨oH, []⟩, ⟨oH, []⟩, ⟨oH, [0, 1]⟩, ⟨oH, [0, 1, 2]⟩, ⟨oH, []⟩, ⟨oH, []⟩, ⟨oH, [4, 5]⟩, ⟨oH, [4, 5, 6]⟩] [[0, 1, 2, 3, 4, 5, 6, 7]] [oH] ⟨[(0, .one (.dat (.sl .bool) a0)), (1, .one (.dat (.sl .bool) a1)), (5, iV s2), (25, bV ((List.getD a0 (Int.toNat s2) false) != (List.getD a1 (Int.toNat s2) false)))], [], 0⟩ hX (by kernel_rfl) (by kernel_rfl) (allCons hg10 (allCons hg11 allNil)) ?_
        rcases of_bif hx7 with ⟨hb12, hx7⟩ | ⟨hb12, hx7⟩
        · refine HT.cond1 rfl hb12 ?_
          refine HT.rg2 [oH] ⟨[(4, bV false)], [], 0⟩ hX (by kernel_rfl) allNil ?_
          have hx7 := of_some hx7
          subst hx7
          exact HT.retL (Le.re [] [] hX (by kernel_rfl)) (qBlockR (qThenR (qLoopR (hk8 (.inr ()) rfl))))
        · refine HT.cond0 rfl hb12 ?_
          refine HT.skip (qBlock (qThen ?_))
          have hx7 := of_some hx7
          subst hx7
          exact HT.rgK (oHs 3) [] [] hX (by kernel_rfl) allNil (fun _ h => (qLoopN ⟨(wadd .i64 s2 (1 : Int)), rfl, h⟩))
      · refine HT.cond0 rfl hb9 ?_
        have hx7 := of_some hx7
        subst hx7
        exact HT.exitL (Le.re [] [] hX (by kernel_rfl)) (qThenE (qLoopE (hk8 (.inl ()) rfl)))

noncomputable def laws_eqPlain (a0 : Int × Int × List Int × List Bool) (a1 : Int × Int × List Int × List Bool) : Option (Bool) :=
  bif (a0.1 != a1.1) then
    some false
  else
    bif (a0.2.1 != a1.2.1) then
      some false
    else
      (laws_eqInt64S a0.2.2.1 a1.2.2.1).bind fun y3 =>
      bif (!y3) then
        some false
      else
        (laws_eqBoolS a0.2.2.2 a1.2.2.2).bind fun y6 =>
        bif (!y6) then
          some false
        else
          some true

theorem f30_ok {a0 : Int × Int × List Int × List Bool} {a1 : Int × Int × List Int × List Bool} {r : Bool} (hr : laws_eqPlain a0 a1 = some r) : CallOK Tryd.prog 30 [.imm (.st (.pair tI (.pair tI (.pair tLI (.sl .bool))))) a0, .imm (.st (.pair tI (.pair tI (.pair tLI (.sl .bool))))) a1] [⟨false, .bool, r⟩] [] := by
  unfold laws_eqPlain at hr
  refine CallOK.of_body (ts := [(false, .bool)]) Tryd.func30 rfl (by kernel_rfl) (Nat.le_of_ble_eq_true (by kernel_rfl)) fun cx hP hN hO hF => ?_
  have hO : cx.own.map Prod.fst = [] := hO
  have hX := CxIs.mk hP hN hO
  have hF := hF rfl
  show HT cx ⟨[(0, .agg [iC a0.1, iC a0.2.1, nC a0.2.2.1, .dat (.sl .bool) a0.2.2.2]), (1, .agg [iC a1.1, iC a1.2.1, nC a1.2.2.1, .dat (.sl .bool) a1.2.2.2])], [], 0⟩ _ _
  refine HT.rg2 (oHs 3) ⟨[(2, pV 0 0), (3, pV 1 0)], [(1, .box [iC a1.1, iC a1.2.1, nC a1.2.2.1, .dat (.sl .bool) a1.2.2.2]), (0, .box [iC a0.1, iC a0.2.1, nC a0.2.2.1, .dat (.sl .bool) a0.2.2.2])], 2⟩ hX (by kernel_rfl) allNil ?_
  refine HT.seq ?_
  refine HT.rg2 (oHs 5) ⟨[(2, pV 0 0), (3, pV 1 0), (9, bV (a0.1 != a1.1))], [(1, .box [iC a1.1, iC a1.2.1, nC a1.2.2.1, .dat (.sl .bool) a1.2.2.2]), (0, .box [iC a0.1, iC a0.2.1, nC a0.2.2.1, .dat (.sl .bool) a0.2.2.2])], 2⟩ hX (by kernel_rfl) allNil ?_
  rcases of_bif hr with ⟨hb1, hr⟩ | ⟨hb1, hr⟩
  · refine HT.cond1 rfl hb1 ?_
    refine HT.rg2 [oH] ⟨[(4, bV false)], [], 2⟩ hX (by kernel_rfl) allNil ?_
    have hr := of_some hr
    subst hr
    exact HT.ret (qThenR ⟨[bV false], [], [], by kernel_rfl, by kernel_rfl, rfl, by kernel_rfl, by kernel_rfl, trivial⟩)
  · refine HT.cond0 rfl hb1 ?_
    refine HT.skip (qThen ?_)
    refine HT.seq ?_
    refine HT.rg2 (oHs 5) ⟨[(2, pV 0 0), (3, pV 1 0), (14, bV (a0.2.1 != a1.2.1))], [(1, .box [iC a1.1, iC a1.2.1, nC a1.2.2.1, .dat (.sl .bool) a1.2.2.2]), (0, .box [iC a0.1, iC a0.2.1, nC a0.2.2.1, .dat (.sl .bool) a0.2.2.2])], 2⟩ hX (by kernel_rfl) allNil ?_
    rcases of_bif hr with ⟨hb2, hr⟩ | ⟨hb2, hr⟩
    · refine HT.cond1 rfl hb2 ?_
      refine HT.rg2 [oH] ⟨[(4, bV false)], [], 2⟩ hX (by kernel_rfl) allNil ?_
      have hr := of_some hr
      subst hr
      exact HT.ret (qThenR ⟨[bV false], [], [], by kernel_rfl, by kernel_rfl, rfl, by kernel_rfl, by kernel_rfl, trivial⟩)
    · refine HT.cond0 rfl hb2 ?_
      refine HT.skip (qThen ?_)
      refine HT.seq ?_
      obtain ⟨y3, hc4, hr⟩ := of_bind hr
      refine HT.rg2 [oH, oH, oH, oH, ⟨none, .call [.imm tLI, .imm tLI] [⟨false, .bool, y3⟩] []⟩, oH] ⟨[(2, pV 0 0), (3, pV 1 0), (20, bV (!y3))], [(1, .box [iC a1.1, iC a1.2.1, nC a1.2.2.1, .dat (.sl .bool) a1.2.2.2]), (0, .box [iC a0.1, iC a0.2.1, nC a0.2.2.1, .dat (.sl .bool) a0.2.2.2])], 2⟩ hX (by kernel_rfl) (allCons (f76_ok hc4) allNil) ?_
      rcases of_bif hr with ⟨hb5, hr⟩ | ⟨hb5, hr⟩
      · refine HT.cond1 rfl hb5 ?_
        refine HT.rg2 [oH] ⟨[(4, bV false)], [], 2⟩ hX (by kernel_rfl) allNil ?_
        have hr := of_some hr
        subst hr
        exact HT.ret (qThenR ⟨[bV false], [], [], by kernel_rfl, by kernel_rfl, rfl, by kernel_rfl, by kernel_rfl, trivial⟩)
      · refine HT.cond0 rfl hb5 ?_
        refine HT.skip (qThen ?_)
        refine HT.seq ?_
        obtain ⟨y6, hc7, hr⟩ := of_bind hr
        refine HT.rg2 [oH, oH, oH, oH, ⟨none, .call [.imm (.sl .bool), .imm (.sl .bool)] [⟨false, .bool, y6⟩] []⟩, oH] ⟨[(26, bV (!y6))], [], 2⟩ hX (by kernel_rfl) (allCons (f77_ok hc7) allNil) ?_
        rcases of_bif hr with ⟨hb8, hr⟩ | ⟨hb8, hr⟩
        · refine HT.cond1 rfl hb8 ?_
          refine HT.rg2 [oH] ⟨[(4, bV false)], [], 2⟩ hX (by kernel_rfl) allNil ?_
          have hr := of_some hr
          subst hr
          exact HT.ret (qThenR ⟨[bV false], [], [], by kernel_rfl, by kernel_rfl, rfl, by kernel_rfl, by kernel_rfl, trivial⟩)
        · refine HT.cond0 rfl hb8 ?_
          refine HT.skip (qThen ?_)
          refine HT.rg2 [oH] ⟨[(4, bV true)], [], 2⟩ hX (by kernel_rfl) allNil ?_
          have hr := of_some hr
          subst hr
          exact HT.ret ⟨[bV true], [], [], by kernel_rfl, by kernel_rfl, rfl, by kernel_rfl, by kernel_rfl, trivial⟩

noncomputable def laws_FnExactPlainText (a0 : Int × Int × List Int × List Bool) : Option (Bool) :=
  (laws_szPlain (a0.1, a0.2.1, a0.2.2.1, a0.2.2.2) (1048576 : Int)).bind fun y1 =>
  bif (decide (y1 < (0 : Int))) then
    some true
  else
    (laws_toPlain (a0.1, a0.2.1, a0.2.2.1, a0.2.2.2)).bind fun y4 =>
    (spec_PlainText (y4.1, y4.2.1, y4.2.2.1, y4.2.2.2)).bind fun y6 =>
    (laws_toPlain (a0.1, a0.2.1, a0.2.2.1, a0.2.2.2)).bind fun y8 =>
    (impl_PlainText (y8.1, y8.2.1, y8.2.2.1, y8.2.2.2)).bind fun y10 =>
    (show Option (Bool) from
      bif (y10.1 != y6.1) then
        some true
      else
        some (y10.2 != y6.2)).bind fun v12 =>
    bif v12 then
      some false
    else
      (laws_toPlain (a0.1, a0.2.1, a0.2.2.1, a0.2.2.2)).bind fun y16 =>
      (laws_eqPlain (y8.1, y8.2.1, y8.2.2.1, y8.2.2.2) (y16.1, y16.2.1, y16.2.2.1, y16.2.2.2)).bind fun y18 =>
      bif (!y18) then
        some false
      else
        some true

theorem f6_ok {a0 : Int × Int × List Int × List Bool} {r : Bool} (hr : laws_FnExactPlainText a0 = some r) : CallOK Tryd.prog 6 [.imm (.st (.pair tI (.pair tI (.pair tLI (.sl .bool))))) a0] [⟨false, .bool, r⟩] [] := by
  unfold laws_FnExactPlainText at hr
  refine CallOK.of_body (ts := [(false, .bool)]) Tryd.func6 rfl (by kernel_rfl) (Nat.le_of_ble_eq_true (by kernel_rfl)) fun cx hP hN hO hF => ?_
  have hO : cx.own.map Prod.fst = [] := hO
  have hX := CxIs.mk hP hN hO
  have hF := hF rfl
  show HT cx ⟨[(0, .agg [iC a0.1, iC a0.2.1, nC a0.2.2.1, .dat (.sl .bool) a0.2.2.2])], [], 0⟩ _ _
  refine HT.rg2 (oHs 2) ⟨[(1, pV 0 0)], [(0, .box [iC a0.1, iC a0.2.1, nC a0.2.2.1, .dat (.sl .bool) a0.2.2.2])], 1⟩ hX (by kernel_rfl) allNil ?_
  refine HT.rg2 [oH] ⟨[(1, pV 0 0), (3, iV (1048576 : Int))], [(0, .box [iC a0.1, iC a0.2.1, nC a0.2.2.1, .dat (.sl .bool) a0.2.2.2])], 1⟩ hX (by kernel_rfl) allNil ?_
  obtain ⟨y1, hc2, hr⟩ := of_bind hr
  refine HT.rg2 [oH, oH, ⟨none, .call [.imm (.st (.pair tI (.pair tI (.pair tLI (.sl .bool))))), .imm tI] [⟨false, tI, y1⟩] []⟩, oH] ⟨[(1, pV 0 0), (3, iV y1)], [(0, .box [iC a0.1, iC a0.2.1, nC a0.2.2.1, .dat (.sl .bool) a0.2.2.2])], 1⟩ hX (by kernel_rfl) (allCons (f26_ok hc2) allNil) ?_
  refine HT.seq ?_
  refine HT.rg2 (oHs 2) ⟨[(1, pV 0 0), (13, bV (decide (y1 < (0 : Int))))], [(0, .box [iC a0.1, iC a0.2.1, nC a0.2.2.1, .dat (.sl .bool) a0.2.2.2])], 1⟩ hX (by kernel_rfl) allNil ?_
  rcases of_bif hr with ⟨hb3, hr⟩ | ⟨hb3, hr⟩
  · refine HT.cond1 rfl hb3 ?_
    refine HT.rg2 [oH] ⟨[(2, bV true)], [], 1⟩ hX (by kernel_rfl) allNil ?_
    have hr := of_some hr
    subst hr
    exact HT.ret (qThenR ⟨[bV true], [], [], by kernel_rfl, by kernel_rfl, rfl, by kernel_rfl, by kernel_rfl, trivial⟩)
  · refine HT.cond0 rfl hb3 ?_
    refine HT.skip (qThen ?_)
    obtain ⟨y4, hc5, hr⟩ := of_bind hr
    obtain ⟨y6, hc7, hr⟩ := of_bind hr
    refine HT.rg2 [oH, ⟨none, .call [.imm (.st (.pair tI (.pair tI (.pair tLI (.sl .bool)))))] [⟨true, (.st (.pair tI (.pair tI (.pair tLI (.sl .bool))))), y4⟩] []⟩, ⟨none, .call [.imm (.st (.pair tI (.pair tI (.pair tLI (.sl .bool)))))] [⟨false, .str, y6.1⟩, ⟨false, .bool, y6.2⟩] []⟩, oH, oH, oH, oH, oH] ⟨[(1, pV 0 0), (4, .one (.dat .str y6.1)), (5, bV y6.2)], [(0, .box [iC a0.1, iC a0.2.1, nC a0.2.2.1, .dat (.sl .bool) a0.2.2.2])], 3⟩ hX (by kernel_rfl) (allCons (f28_ok hc5) (allCons (f27_ok hc7) allNil)) ?_
    obtain ⟨y8, hc9, hr⟩ := of_bind hr
    refine HT.rg2 [oH, ⟨none, .call [.imm (.st (.pair tI (.pair tI (.pair tLI (.sl .bool)))))] [⟨true, (.st (.pair tI (.pair tI (.pair tLI (.sl .bool))))), y8⟩] []⟩, oH, oH] ⟨[(1, pV 0 0), (4, .one (.dat .str y6.1)), (5, bV y6.2), (6, pV 5 0)], [(5, .box [iC y8.1, iC y8.2.1, .all 3, .all 4]), (3, .seq tI y8.2.2.1), (4, .seq .bool y8.2.2.2), (0, .box [iC a0.1, iC a0.2.1, nC a0.2.2.1, .dat (.sl .bool) a0.2.2.2])], 6⟩ hX (by kernel_rfl) (allCons (f28_ok hc9) allNil) ?_
    obtain ⟨y10, hc11, hr⟩ := of_bind hr
    refine HT.rg2 [oH, ⟨none, .call [.imm (.st (.pair tI (.pair tI (.pair tLI (.sl .bool)))))] [⟨false, .str, y10.1⟩, ⟨false, .bool, y10.2⟩] []⟩, oH, oH, oH, oH, oH] ⟨[(1, pV 0 0), (4, .one (.dat .str y6.1)), (5, bV y6.2), (6, pV 5 0), (7, .one (.dat .str y10.1)), (8, bV y10.2)], [(5, .box [iC y8.1, iC y8.2.1, .all 3, .all 4]), (3, .seq tI y8.2.2.1), (4, .seq .bool y8.2.2.2), (0, .box [iC a0.1, iC a0.2.1, nC a0.2.2.1, .dat (.sl .bool) a0.2.2.2])], 6⟩ hX (by kernel_rfl) (allCons (f29_ok hc11) allNil) ?_
    refine HT.seq ?_
    obtain ⟨v12', hT14, hr⟩ := of_bind hr
    refine HT.join (fun (v12 : Bool) => ⟨[(1, pV 0 0), (6, pV 1 0), (34, bV v12)], [(0, .box [iC a0.1, iC a0.2.1, nC a0.2.2.1, .dat (.sl .bool) a0.2.2.2]), (1, .box [iC y8.1, iC y8.2.1, .all 2, .all 3]), (2, .seq tI y8.2.2.1), (3, .seq .bool y8.2.2.2)], 4⟩) (fun v => v = v12') (fun v12 hv13 => ?_) (fun cont => ?_)
    · subst hv13
      rcases of_bif hr with ⟨hb15, hr⟩ | ⟨hb15, hr⟩
      · refine HT.cond1 rfl hb15 ?_
        refine HT.rg2 [oH] ⟨[(2, bV false)], [], 4⟩ hX (by kernel_rfl) allNil ?_
        have hr := of_some hr
        subst hr
        exact HT.ret (qThenR ⟨[bV false], [], [], by kernel_rfl, by kernel_rfl, rfl, by kernel_rfl, by kernel_rfl, trivial⟩)
      · refine HT.cond0 rfl hb15 ?_
        refine HT.skip (qThen ?_)
        refine HT.seq ?_
        obtain ⟨y16, hc17, hr⟩ := of_bind hr
        obtain ⟨y18, hc19, hr⟩ := of_bind hr
        refine HT.dr2 3 [⟨oH, []⟩, ⟨oH, []⟩, ⟨⟨none, .call [.imm (.st (.pair tI (.pair tI (.pair tLI (.sl .bool)))))] [⟨true, (.st (.pair tI (.pair tI (.pair tLI (.sl .bool))))), y16⟩] []⟩, [1]⟩] [[0, 1, 2], [0, 1, 2, 3]] [⟨none, .call [.imm (.st (.pair tI (.pair tI (.pair tLI (.sl .bool))))), .imm (.st (.pair tI (.pair tI (.pair tLI (.sl .bool)))))] [⟨false, .bool, y18⟩] []⟩, oH] ⟨[(39, bV (!y18))], [], 6⟩ hX (by kernel_rfl) (by kernel_rfl) (allCons (f28_ok hc17) (allCons (f30_ok hc19) allNil)) ?_
        rcases of_bif hr with ⟨hb20, hr⟩ | ⟨hb20, hr⟩
        · refine HT.cond1 rfl hb20 ?_
          refine HT.rg2 [oH] ⟨[(2, bV false)], [], 6⟩ hX (by kernel_rfl) allNil ?_
          have hr := of_some hr
          subst hr
          exact HT.ret (qThenR ⟨[bV false], [], [], by kernel_rfl, by kernel_rfl, rfl, by kernel_rfl, by kernel_rfl, trivial⟩)
        · refine HT.cond0 rfl hb20 ?_
          refine HT.skip (qThen ?_)
          refine HT.rg2 [oH] ⟨[(2, bV true)], [], 6⟩ hX (by kernel_rfl) allNil ?_
          have hr := of_some hr
          subst hr
          exact HT.ret ⟨[bV true], [], [], by kernel_rfl, by kernel_rfl, rfl, by kernel_rfl, by kernel_rfl, trivial⟩
    · rcases of_bif hT14 with ⟨hb21, hT14⟩ | ⟨hb21, hT14⟩
      · exact HT.rgK [oH, oH, oH, oH, ⟨some true, .no⟩, ⟨some true, .no⟩, ⟨some true, .no⟩, ⟨none, .tv true⟩] [(0, 0), (5, 1), (3, 2), (4, 3)] [] hX (by kernel_rfl) (allCons hb21 (allCons hb21 (allCons hb21 (allCons hb21 allNil)))) (fun _ h => (qThen (h.ht (cont true (of_some hT14)))))
      · exact HT.rgK [oH, oH, oH, oH, ⟨some false, .no⟩, ⟨some false, .no⟩, ⟨some false, .no⟩, ⟨none, .tv false⟩] [(0, 0), (5, 1), (3, 2), (4, 3)] [] hX (by kernel_rfl) (allCons hb21 (allCons hb21 (allCons hb21 (allCons hb21 allNil)))) (fun _ h => (qThen (h.ht (cont (y10.2 != y6.2) (of_some hT14)))))

end Go.Proofs
