import Derived.Test.YtjklkdlnabjcdaaDoorCountOutputsShelf
import Derived.Test.YtjklkdlnabjcdaaDoorProg
set_option linter.unusedVariables false
set_option linter.unusedSimpArgs false
set_option linter.unusedSectionVars false
/-
  Functions as plain functions, and their contracts. Printed by a program.
-/
namespace Go.Proofs
open Go.Ide

noncomputable def spec_l01Cut_B1 (a0 : List UInt8) (a1 : Int) (s1 : Int × Int × List (List UInt8)) : Option ((Int × Int × List (List UInt8)) ⊕ (List (List UInt8))) :=
  bif (decide (s1.2.1 ≤ (lenI a0))) then
    (show Option (Int × List (List UInt8)) from
      (show Option (Bool) from
        bif (s1.2.1 == (lenI a0)) then
          some true
        else
          guardP ((0 : Int) ≤ s1.2.1 ∧ s1.2.1 < lenI a0) (
            some (((((List.getD a0 (Int.toNat s1.2.1) 0 : UInt8).toNat : Nat)) : Int) == a1))).bind fun v11 =>
      bif v11 then
        guardP ((0 : Int) ≤ s1.1 ∧ s1.1 ≤ s1.2.1 ∧ s1.2.1 ≤ lenI a0) (
          guardP (List.length s1.2.2 + List.length ([(cut a0 s1.1 s1.2.1)] : List (List UInt8)) ≤ appMax) (
            some ((wadd .i64 s1.2.1 (1 : Int)), (s1.2.2 ++ ([(cut a0 s1.1 s1.2.1)] : List (List UInt8))))))
      else
        some (s1.1, s1.2.2)).bind fun v8 =>
    some (.inl (v8.1, (wadd .i64 s1.2.1 (1 : Int)), v8.2))
  else
    some (.inr s1.2.2)

noncomputable def spec_l01Cut (a0 : List UInt8) (a1 : Int) : Option (List (List UInt8)) :=
  (rounds (spec_l01Cut_B1 a0 a1) ((0 : Int), (0 : Int), ([] : List (List UInt8)))).bind fun r3 =>
  some r3

theorem f121_ok {a0 : List UInt8} {a1 : Int} {r : List (List UInt8)} (hr : spec_l01Cut a0 a1 = some r) : CallOK Tryd.prog 121 [.imm .str a0, .imm (.int .u8) a1] [⟨true, (.sl .str), r⟩] [] := by
  unfold spec_l01Cut at hr
  refine CallOK.of_body (ts := [(true, (.sl .str))]) Tryd.func121 rfl (by kernel_rfl) (Nat.le_of_ble_eq_true (by kernel_rfl)) fun cx hP hN hO hF => ?_
  have hO : cx.own.map Prod.fst = [] := hO
  have hX := CxIs.mk hP hN hO
  have hF := hF rfl
  show HT cx ⟨[(0, .one (.dat .str a0)), (1, .one (.dat (.int .u8) a1))], [], 0⟩ _ _
  refine HT.rg2 [oH] ⟨[(0, .one (.dat .str a0)), (1, .one (.dat (.int .u8) a1))], [], 0⟩ hX (by kernel_rfl) allNil ?_
  refine HT.rg2 (oHs 2) ⟨[(0, .one (.dat .str a0)), (1, .one (.dat (.int .u8) a1)), (5, .one (.nilS))], [], 0⟩ hX (by kernel_rfl) allNil ?_
  refine HT.rg2 [oH] ⟨[(0, .one (.dat .str a0)), (1, .one (.dat (.int .u8) a1)), (5, .one (.nilS)), (6, iV (0 : Int))], [], 0⟩ hX (by kernel_rfl) allNil ?_
  refine HT.seq ?_
  refine HT.rg2 [oH] ⟨[(0, .one (.dat .str a0)), (1, .one (.dat (.int .u8) a1)), (5, .one (.nilS)), (6, iV (0 : Int)), (7, iV (0 : Int))], [], 0⟩ hX (by kernel_rfl) allNil ?_
  refine HT.block ?_
  obtain ⟨r2, hL19, hr⟩ := of_bind hr
  refine HT.loopL (fun (s1 : Int × Int × List (List UInt8)) => ⟨[(0, .one (.dat .str a0)), (1, .one (.dat (.int .u8) a1)), (5, aV 0), (6, iV s1.1), (7, iV s1.2.1)], [(0, .seq .str s1.2.2)], 1⟩) (fun (r3 : List (List UInt8)) => (.exit 0, ⟨[(5, aV 0)], [(0, .seq .str r3)], 1⟩)) (Le.re [] [0] hX (by kernel_rfl)) hL19 ?_ (fun s1 x4 hx5 hk6 => ?_)
  · refine (qBlockX (qThen ?_))
    refine HT.rg2 (oHs 2) ⟨[(4, aV 0)], [(0, .seq .str r2)], 1⟩ hX (by kernel_rfl) allNil ?_
    have hr := of_some hr
    subst hr
    exact HT.ret ⟨[aV 0], [0], [], by kernel_rfl, by kernel_rfl, rfl, by kernel_rfl, by kernel_rfl, trivial⟩
  · refine HT.seq ?_
    refine HT.rg2 (oHs 4) ⟨[(0, .one (.dat .str a0)), (1, .one (.dat (.int .u8) a1)), (5, aV 0), (6, iV s1.1), (7, iV s1.2.1), (12, bV (decide (s1.2.1 ≤ (lenI a0))))], [(0, .seq .str s1.2.2)], 1⟩ hX (by kernel_rfl) allNil ?_
    rcases of_bif hx5 with ⟨hb7, hx5⟩ | ⟨hb7, hx5⟩
    · refine HT.cond1 rfl hb7 ?_
      refine HT.skip (qThen ?_)
      obtain ⟨v8', hT10, hx5⟩ := of_bind hx5
      refine HT.join (fun (v8 : Int × List (List UInt8)) => ⟨[(0, .one (.dat .str a0)), (1, .one (.dat (.int .u8) a1)), (5, aV 0), (6, iV v8.1), (7, iV s1.2.1)], [(0, .seq .str v8.2)], 1⟩) (fun v => v = v8') (fun v8 hv9 => ?_) (fun cont => ?_)
      · subst hv9
        have hx5 := of_some hx5
        subst hx5
        exact HT.rgK (oHs 3) [(0, 0)] [] hX (by kernel_rfl) allNil (fun _ h => (qLoopN ⟨(v8.1, (wadd .i64 s1.2.1 (1 : Int)), v8.2), rfl, h⟩))
      · refine HT.block ?_
        obtain ⟨v11', hT13, hT10⟩ := of_bind hT10
        refine HT.join (fun (v11 : Bool) => ⟨[(0, .one (.dat .str a0)), (1, .one (.dat (.int .u8) a1)), (5, aV 0), (6, iV s1.1), (7, iV s1.2.1), (25, bV v11)], [(0, .seq .str s1.2.2)], 1⟩) (fun v => v = v11') (fun v11 hv12 => ?_) (fun cont => ?_)
        · subst hv12
          rcases of_bif hT10 with ⟨hb14, hT10⟩ | ⟨hb14, hT10⟩
          · refine HT.cond1 rfl hb14 ?_
            obtain ⟨hg15, hT10⟩ := of_guard hT10
            obtain ⟨hg16, hT10⟩ := of_guard hT10
            refine HT.rg2 [oH, oH, oH, oH, oH, ⟨none, .ty .str⟩, ⟨none, .ty .str⟩, oH] ⟨[(0, .one (.dat .str a0)), (1, .one (.dat (.int .u8) a1)), (5, aV 2), (7, iV s1.2.1)], [(2, .seq .str (s1.2.2 ++ ([(cut a0 s1.1 s1.2.1)] : List (List UInt8))))], 3⟩ hX (by kernel_rfl) (allCons hg15 (allCons hg16 allNil)) ?_
            exact HT.rgK (oHs 3) [(2, 0)] [] hX (by kernel_rfl) allNil (fun _ h => (qBlock (qThen (h.ht (cont ((wadd .i64 s1.2.1 (1 : Int)), (s1.2.2 ++ ([(cut a0 s1.1 s1.2.1)] : List (List UInt8)))) (of_some hT10))))))
          · refine HT.cond0 rfl hb14 ?_
            refine HT.skip (qBlock (qThen ?_))
            exact (Le.re [(0, 0)] [] hX (by kernel_rfl)).ht (cont (s1.1, s1.2.2) (of_some hT10))
        · rcases of_bif hT13 with ⟨hb17, hT13⟩ | ⟨hb17, hT13⟩
          · exact HT.rgK [oH, oH, oH, oH, oH, ⟨some true, .no⟩, ⟨some true, .no⟩, ⟨some true, .no⟩, ⟨some true, .no⟩, ⟨some true, .no⟩, ⟨none, .tv true⟩] [(0, 0)] [] hX (by kernel_rfl) (allCons hb17 (allCons hb17 (allCons hb17 (allCons hb17 (allCons hb17 (allCons hb17 allNil)))))) (fun _ h => (qThen (h.ht (cont true (of_some hT13)))))
          · obtain ⟨hg18, hT13⟩ := of_guard hT13
            exact HT.rgK [oH, oH, oH, oH, oH, ⟨some false, .no⟩, ⟨some false, .no⟩, ⟨some false, .no⟩, ⟨some false, .no⟩, ⟨some false, .no⟩, ⟨none, .tv false⟩] [(0, 0)] [] hX (by kernel_rfl) (allCons hb17 (allCons hb17 (allCons hb17 (allCons hg18 (allCons hb17 (allCons hb17 (allCons hb17 allNil))))))) (fun _ h => (qThen (h.ht (cont (((((List.getD a0 (Int.toNat s1.2.1) 0 : UInt8).toNat : Nat)) : Int) == a1) (of_some hT13)))))
    · refine HT.cond0 rfl hb7 ?_
      have hx5 := of_some hx5
      subst hx5
      exact HT.exitL (Le.re [(0, 0)] [] hX (by kernel_rfl)) (qThenE (qLoopE (hk6 s1.2.2 rfl)))

noncomputable def spec_l08Lines (a0 : List UInt8) : Option (List (List UInt8) × List UInt8) :=
  (spec_l01Cut a0 (10 : Int)).bind fun y1 =>
  guardP ((0 : Int) ≤ (wsub .i64 (lenI y1) (1 : Int)) ∧ (wsub .i64 (lenI y1) (1 : Int)) ≤ lenI y1) (
    guardP ((0 : Int) ≤ (wsub .i64 (lenI y1) (1 : Int)) ∧ (wsub .i64 (lenI y1) (1 : Int)) < lenI y1) (
      some ((List.take (Int.toNat (wsub .i64 (lenI y1) (1 : Int))) (List.drop 0 y1)), (List.getD y1 (Int.toNat (wsub .i64 (lenI y1) (1 : Int))) ([] : List UInt8)))))

theorem f101_ok {a0 : List UInt8} {r : List (List UInt8) × List UInt8} (hr : spec_l08Lines a0 = some r) : CallOK Tryd.prog 101 [.imm .str a0] [⟨false, (.sl .str), r.1⟩, ⟨false, .str, r.2⟩] [] := by
  unfold spec_l08Lines at hr
  refine CallOK.of_body (ts := [(false, (.sl .str)), (false, .str)]) Tryd.func101 rfl (by kernel_rfl) (Nat.le_of_ble_eq_true (by kernel_rfl)) fun cx hP hN hO hF => ?_
  have hO : cx.own.map Prod.fst = [] := hO
  have hX := CxIs.mk hP hN hO
  have hF := hF rfl
  show HT cx ⟨[(0, .one (.dat .str a0))], [], 0⟩ _ _
  refine HT.rg2 (oHs 2) ⟨[(0, .one (.dat .str a0))], [], 0⟩ hX (by kernel_rfl) allNil ?_
  obtain ⟨y1, hc2, hr⟩ := of_bind hr
  refine HT.rg2 [oH, ⟨none, .call [.imm .str, .imm (.int .u8)] [⟨true, (.sl .str), y1⟩] []⟩, oH] ⟨[(4, aV 0)], [(0, .seq .str y1)], 1⟩ hX (by kernel_rfl) (allCons (f121_ok hc2) allNil) ?_
  obtain ⟨hg3, hr⟩ := of_guard hr
  obtain ⟨hg4, hr⟩ := of_guard hr
  refine HT.dr2 12 [⟨oH, []⟩, ⟨oH, []⟩, ⟨oH, [1]⟩, ⟨oH, [1, 2]⟩, ⟨oH, [0, 1, 2, 3]⟩, ⟨oH, []⟩, ⟨oH, []⟩, ⟨oH, [6]⟩, ⟨oH, [6, 7]⟩, ⟨oH, [5, 6, 7, 8]⟩, ⟨oH, [5, 6, 7, 8, 9]⟩, ⟨oH, [0, 1, 2, 3, 4]⟩] [[0, 1, 2, 3, 4, 5, 6, 7, 8, 9, 10, 11]] [oH] ⟨[(2, .one (.ref 0 0 (Int.toNat (wsub .i64 (lenI y1) (1 : Int))))), (3, .one (.dat .str (List.getD y1 (Int.toNat (wsub .i64 (lenI y1) (1 : Int))) ([] : List UInt8))))], [(0, .seq .str y1)], 1⟩ hX (by kernel_rfl) (by kernel_rfl) (allCons (show (0 : Int) ≤ 0 ∧ (0 : Int) ≤ (wsub .i64 (lenI y1) (1 : Int)) ∧ (wsub .i64 (lenI y1) (1 : Int)) ≤ lenI y1 from ⟨Int.le_refl _, hg3.1, hg3.2⟩) (allCons hg4 (allCons (natLt hg4) allNil))) ?_
  have hr := of_some hr
  subst hr
  refine (Le.rz [] [] (st' := ⟨[(2, .one (.dat (.sl .str) (List.take (Int.toNat (wsub .i64 (lenI y1) (1 : Int))) (List.drop 0 y1)))), (3, .one (.dat .str (List.getD y1 (Int.toNat (wsub .i64 (lenI y1) (1 : Int))) ([] : List UInt8))))], [], 1⟩) hX hF (by kernel_rfl)).ht ?_
  exact HT.ret ⟨[.one (.dat (.sl .str) (List.take (Int.toNat (wsub .i64 (lenI y1) (1 : Int))) (List.drop 0 y1))), .one (.dat .str (List.getD y1 (Int.toNat (wsub .i64 (lenI y1) (1 : Int))) ([] : List UInt8)))], [], [], by kernel_rfl, by kernel_rfl, rfl, by kernel_rfl, by kernel_rfl, trivial⟩

noncomputable def spec_CountOutputs_B1 (y2 : List (List UInt8) × List UInt8) (s5 : Int × Int) : Option ((Int × Int) ⊕ (Int)) :=
  bif (decide (s5.2 < (lenI y2.1))) then
    (show Option (Int) from
      (show Option (Bool) from
        guardP ((0 : Int) ≤ s5.2 ∧ s5.2 < lenI y2.1) (
          bif ((List.getD y2.1 (Int.toNat s5.2) ([] : List UInt8)) == ([110, 111] : List UInt8)) then
            some true
          else
            some ((List.getD y2.1 (Int.toNat s5.2) ([] : List UInt8)) == ([119, 104, 97, 116] : List UInt8)))).bind fun v15 =>
      bif v15 then
        some (wadd .i64 s5.1 (1 : Int))
      else
        some s5.1).bind fun v12 =>
    some (.inl (v12, (wadd .i64 s5.2 (1 : Int))))
  else
    some (.inr s5.1)

noncomputable def spec_CountOutputs (a0 : List UInt8) : Option (Int × Int × Bool) :=
  bif (decide ((lenI a0) > (16000 : Int))) then
    some ((0 : Int), (0 : Int), false)
  else
    (spec_l08Lines a0).bind fun y2 =>
    bif (y2.2 != ([] : List UInt8)) then
      some ((0 : Int), (0 : Int), false)
    else
      (rounds (spec_CountOutputs_B1 y2) ((0 : Int), (0 : Int))).bind fun r7 =>
      some (r7, (wsub .i64 (lenI y2.1) r7), true)

theorem f48_ok {a0 : List UInt8} {r : Int × Int × Bool} (hr : spec_CountOutputs a0 = some r) : CallOK Tryd.prog 48 [.imm .str a0] [⟨false, tI, r.1⟩, ⟨false, tI, r.2.1⟩, ⟨false, .bool, r.2.2⟩] [] := by
  unfold spec_CountOutputs at hr
  refine CallOK.of_body (ts := [(false, tI), (false, tI), (false, .bool)]) Tryd.func48 rfl (by kernel_rfl) (Nat.le_of_ble_eq_true (by kernel_rfl)) fun cx hP hN hO hF => ?_
  have hO : cx.own.map Prod.fst = [] := hO
  have hX := CxIs.mk hP hN hO
  have hF := hF rfl
  show HT cx ⟨[(0, .one (.dat .str a0))], [], 0⟩ _ _
  refine HT.rg2 (oHs 3) ⟨[(0, .one (.dat .str a0))], [], 0⟩ hX (by kernel_rfl) allNil ?_
  refine HT.seq ?_
  refine HT.rg2 (oHs 3) ⟨[(0, .one (.dat .str a0)), (11, bV (decide ((lenI a0) > (16000 : Int))))], [], 0⟩ hX (by kernel_rfl) allNil ?_
  rcases of_bif hr with ⟨hb1, hr⟩ | ⟨hb1, hr⟩
  · refine HT.cond1 rfl hb1 ?_
    refine HT.rg2 (oHs 3) ⟨[(2, iV (0 : Int)), (3, iV (0 : Int)), (4, bV false)], [], 0⟩ hX (by kernel_rfl) allNil ?_
    have hr := of_some hr
    subst hr
    exact HT.ret (qThenR ⟨[iV (0 : Int), iV (0 : Int), bV false], [], [], by kernel_rfl, by kernel_rfl, rfl, by kernel_rfl, by kernel_rfl, trivial⟩)
  · refine HT.cond0 rfl hb1 ?_
    refine HT.skip (qThen ?_)
    obtain ⟨y2, hc3, hr⟩ := of_bind hr
    refine HT.rg2 [oH, ⟨none, .call [.imm .str] [⟨false, (.sl .str), y2.1⟩, ⟨false, .str, y2.2⟩] []⟩, oH, oH, oH, oH, oH] ⟨[(5, .one (.dat (.sl .str) y2.1)), (6, .one (.dat .str y2.2))], [], 0⟩ hX (by kernel_rfl) (allCons (f101_ok hc3) allNil) ?_
    refine HT.seq ?_
    refine HT.rg2 (oHs 2) ⟨[(5, .one (.dat (.sl .str) y2.1)), (18, bV (y2.2 != ([] : List UInt8)))], [], 0⟩ hX (by kernel_rfl) allNil ?_
    rcases of_bif hr with ⟨hb4, hr⟩ | ⟨hb4, hr⟩
    · refine HT.cond1 rfl hb4 ?_
      refine HT.rg2 (oHs 3) ⟨[(2, iV (0 : Int)), (3, iV (0 : Int)), (4, bV false)], [], 0⟩ hX (by kernel_rfl) allNil ?_
      have hr := of_some hr
      subst hr
      exact HT.ret (qThenR ⟨[iV (0 : Int), iV (0 : Int), bV false], [], [], by kernel_rfl, by kernel_rfl, rfl, by kernel_rfl, by kernel_rfl, trivial⟩)
    · refine HT.cond0 rfl hb4 ?_
      refine HT.skip (qThen ?_)
      refine HT.rg2 [oH] ⟨[(5, .one (.dat (.sl .str) y2.1)), (7, iV (0 : Int))], [], 0⟩ hX (by kernel_rfl) allNil ?_
      refine HT.seq ?_
      refine HT.rg2 [oH] ⟨[(5, .one (.dat (.sl .str) y2.1)), (7, iV (0 : Int)), (8, iV (0 : Int))], [], 0⟩ hX (by kernel_rfl) allNil ?_
      refine HT.block ?_
      obtain ⟨r6, hL21, hr⟩ := of_bind hr
      refine HT.loopL (fun (s5 : Int × Int) => ⟨[(5, .one (.dat (.sl .str) y2.1)), (7, iV s5.1), (8, iV s5.2)], [], 0⟩) (fun (r7 : Int) => (.exit 0, ⟨[(5, .one (.dat (.sl .str) y2.1)), (7, iV r7)], [], 0⟩)) (Le.re [] [] hX (by kernel_rfl)) hL21 ?_ (fun s5 x8 hx9 hk10 => ?_)
      · refine (qBlockX (qThen ?_))
        refine HT.rg2 (oHs 8) ⟨[(2, iV r6), (3, iV (wsub .i64 (lenI y2.1) r6)), (4, bV true)], [], 0⟩ hX (by kernel_rfl) allNil ?_
        have hr := of_some hr
        subst hr
        exact HT.ret ⟨[iV r6, iV (wsub .i64 (lenI y2.1) r6), bV true], [], [], by kernel_rfl, by kernel_rfl, rfl, by kernel_rfl, by kernel_rfl, trivial⟩
      · refine HT.seq ?_
        refine HT.rg2 (oHs 4) ⟨[(5, .one (.dat (.sl .str) y2.1)), (7, iV s5.1), (8, iV s5.2), (22, bV (decide (s5.2 < (lenI y2.1))))], [], 0⟩ hX (by kernel_rfl) allNil ?_
        rcases of_bif hx9 with ⟨hb11, hx9⟩ | ⟨hb11, hx9⟩
        · refine HT.cond1 rfl hb11 ?_
          refine HT.skip (qThen ?_)
          obtain ⟨v12', hT14, hx9⟩ := of_bind hx9
          refine HT.join (fun (v12 : Int) => ⟨[(5, .one (.dat (.sl .str) y2.1)), (7, iV v12), (8, iV s5.2)], [], 0⟩) (fun v => v = v12') (fun v12 hv13 => ?_) (fun cont => ?_)
          · subst hv13
            have hx9 := of_some hx9
            subst hx9
            exact HT.rgK (oHs 3) [] [] hX (by kernel_rfl) allNil (fun _ h => (qLoopN ⟨(v12, (wadd .i64 s5.2 (1 : Int))), rfl, h⟩))
          · refine HT.block ?_
            obtain ⟨v15', hT17, hT14⟩ := of_bind hT14
            refine HT.join (fun (v15 : Bool) => ⟨[(5, .one (.dat (.sl .str) y2.1)), (7, iV s5.1), (8, iV s5.2), (36, bV v15)], [], 0⟩) (fun v => v = v15') (fun v15 hv16 => ?_) (fun cont => ?_)
            · subst hv16
              rcases of_bif hT14 with ⟨hb18, hT14⟩ | ⟨hb18, hT14⟩
              · refine HT.cond1 rfl hb18 ?_
                exact HT.rgK (oHs 3) [] [] hX (by kernel_rfl) allNil (fun _ h => (qBlock (qThen (h.ht (cont (wadd .i64 s5.1 (1 : Int)) (of_some hT14))))))
              · refine HT.cond0 rfl hb18 ?_
                refine HT.skip (qBlock (qThen ?_))
                exact (Le.re [] [] hX (by kernel_rfl)).ht (cont s5.1 (of_some hT14))
            · obtain ⟨hg19, hT17⟩ := of_guard hT17
              rcases of_bif hT17 with ⟨hb20, hT17⟩ | ⟨hb20, hT17⟩
              · exact HT.rgK [oH, oH, oH, oH, oH, oH, ⟨some true, .no⟩, ⟨some true, .no⟩, ⟨some true, .no⟩, ⟨some true, .no⟩, ⟨some true, .no⟩, ⟨none, .tv true⟩] [] [] hX (by kernel_rfl) (allCons hg19 (allCons hb20 (allCons hb20 (allCons hb20 (allCons hb20 (allCons hb20 (allCons hb20 allNil))))))) (fun _ h => (qThen (h.ht (cont true (of_some hT17)))))
              · exact HT.rgK [oH, oH, oH, oH, oH, oH, ⟨some false, .no⟩, ⟨some false, .no⟩, ⟨some false, .no⟩, ⟨some false, .no⟩, ⟨some false, .no⟩, ⟨none, .tv false⟩] [] [] hX (by kernel_rfl) (allCons hg19 (allCons hb20 (allCons hb20 (allCons hb20 (allCons hg19 (allCons hb20 (allCons hb20 (allCons hb20 allNil)))))))) (fun _ h => (qThen (h.ht (cont ((List.getD y2.1 (Int.toNat s5.2) ([] : List UInt8)) == ([119, 104, 97, 116] : List UInt8)) (of_some hT17)))))
        · refine HT.cond0 rfl hb11 ?_
          have hx9 := of_some hx9
          subst hx9
          exact HT.exitL (Le.re [] [] hX (by kernel_rfl)) (qThenE (qLoopE (hk10 s5.1 rfl)))

noncomputable def strings_Split (a0 a1 : List UInt8) : Option (List (List UInt8)) :=
  guardP (a0.length < 4294967281 ∧ 1 ≤ a1.length) <| some (Lib.split a0 a1)

theorem f124_ok {a0 a1 : List UInt8} {r : List (List UInt8)} (h : strings_Split a0 a1 = some r) : CallOK Tryd.prog 124 [.imm .str a0, .imm .str a1] [⟨true, .sl .str, r⟩] [] := by
  obtain ⟨hg, h⟩ := of_guard h
  have h := of_some h
  subst h
  exact split_ok ⟨_, Tryd.func124, by kernel_rfl, by kernel_rfl⟩ hg.1 hg.2 fun w S hgl => by
    obtain ⟨_, m, hm⟩ := hgl
    exact Tryd.strings_Split _ _ m w hg.1 hm hg.2

noncomputable def impl_linesOf (a0 : List UInt8) : Option (List (List UInt8) × Bool) :=
  (strings_Split a0 ([10] : List UInt8)).bind fun y1 =>
  (show Option (Bool) from
    guardP ((0 : Int) ≤ (wsub .i64 (lenI y1) (1 : Int)) ∧ (wsub .i64 (lenI y1) (1 : Int)) ≤ lenI y1) (
      bif (decide ((lenI a0) ≤ (16000 : Int))) then
        guardP ((0 : Int) ≤ (wsub .i64 (lenI y1) (1 : Int)) ∧ (wsub .i64 (lenI y1) (1 : Int)) < lenI y1) (
          some ((List.getD y1 (Int.toNat (wsub .i64 (lenI y1) (1 : Int))) ([] : List UInt8)) == ([] : List UInt8)))
      else
        some false)).bind fun v3 =>
  some ((List.take (Int.toNat (wsub .i64 (lenI y1) (1 : Int))) y1), v3)

theorem f102_ok {a0 : List UInt8} {r : List (List UInt8) × Bool} (hr : impl_linesOf a0 = some r) : CallOK Tryd.prog 102 [.imm .str a0] [⟨true, (.sl .str), r.1⟩, ⟨false, .bool, r.2⟩] [] := by
  unfold impl_linesOf at hr
  refine CallOK.of_body (ts := [(true, (.sl .str)), (false, .bool)]) Tryd.func102 rfl (by kernel_rfl) (Nat.le_of_ble_eq_true (by kernel_rfl)) fun cx hP hN hO hF => ?_
  have hO : cx.own.map Prod.fst = [] := hO
  have hX := CxIs.mk hP hN hO
  have hF := hF rfl
  show HT cx ⟨[(0, .one (.dat .str a0))], [], 0⟩ _ _
  refine HT.rg2 (oHs 2) ⟨[(0, .one (.dat .str a0))], [], 0⟩ hX (by kernel_rfl) allNil ?_
  obtain ⟨y1, hc2, hr⟩ := of_bind hr
  refine HT.rg2 [oH, ⟨none, .call [.imm .str, .imm .str] [⟨true, (.sl .str), y1⟩] []⟩, oH] ⟨[(0, .one (.dat .str a0)), (4, aV 0)], [(0, .seq .str y1)], 1⟩ hX (by kernel_rfl) (allCons (f124_ok hc2) allNil) ?_
  refine HT.rg2 (oHs 4) ⟨[(0, .one (.dat .str a0)), (4, aV 0), (5, iV (wsub .i64 (lenI y1) (1 : Int)))], [(0, .seq .str y1)], 1⟩ hX (by kernel_rfl) allNil ?_
  obtain ⟨v3', hT5, hr⟩ := of_bind hr
  refine HT.join (fun (v3 : Bool) => ⟨[(2, aV 0), (3, bV v3)], [(0, .seq .str (List.take (Int.toNat (wsub .i64 (lenI y1) (1 : Int))) y1))], 1⟩) (fun v => v = v3') (fun v3 hv4 => ?_) (fun cont => ?_)
  · subst hv4
    have hr := of_some hr
    subst hr
    exact HT.ret ⟨[aV 0, bV v3], [0], [], by kernel_rfl, by kernel_rfl, rfl, by kernel_rfl, by kernel_rfl, trivial⟩
  · obtain ⟨hg6, hT5⟩ := of_guard hT5
    rcases of_bif hT5 with ⟨hb7, hT5⟩ | ⟨hb7, hT5⟩
    · obtain ⟨hg8, hT5⟩ := of_guard hT5
      refine HT.drL 14 [⟨oH, []⟩, ⟨oH, []⟩, ⟨oH, [0, 1]⟩, ⟨oH, []⟩, ⟨oH, [3]⟩, ⟨oH, [3, 4]⟩, ⟨oH, [3, 4, 5]⟩, ⟨⟨some true, .no⟩, [3, 4, 5, 6]⟩, ⟨⟨some true, .no⟩, [3, 4, 5, 6]⟩, ⟨⟨some true, .no⟩, [3, 4, 5, 6, 7, 8]⟩, ⟨⟨some true, .no⟩, [3, 4, 5, 6, 7, 8, 9]⟩, ⟨⟨some true, .no⟩, [3, 4, 5, 6, 7, 8, 9, 10]⟩, ⟨⟨none, .tv true⟩, [3, 4, 5, 6, 7, 8, 9, 10, 11]⟩, ⟨oH, [0, 1, 2, 3, 4, 5, 6]⟩] [[0, 1, 2, 3, 4, 5, 6, 7, 8, 9, 10, 11, 12, 13]] [oH] ⟨[(2, .one (.ref 0 0 (Int.toNat (wsub .i64 (lenI y1) (1 : Int))))), (3, bV ((List.getD y1 (Int.toNat (wsub .i64 (lenI y1) (1 : Int))) ([] : List UInt8)) == ([] : List UInt8)))], [(0, .seq .str y1)], 1⟩ hX (by kernel_rfl) (by kernel_rfl) (allCons (show (0 : Int) ≤ 0 ∧ (0 : Int) ≤ (wsub .i64 (lenI y1) (1 : Int)) ∧ (wsub .i64 (lenI y1) (1 : Int)) ≤ lenI y1 from ⟨Int.le_refl _, hg6.1, hg6.2⟩) (allCons hb7 (allCons hb7 (allCons hb7 (allCons hg8 (allCons hb7 (allCons (natLt hg8) (allCons hb7 (allCons hb7 allNil))))))))) (qThen ?_)
      exact (Le.cv (s := ⟨[(0, 0)], [], [0], false⟩) (own := []) (ps := [0 = 0, List.length (List.take (Int.toNat (wsub .i64 (lenI y1) (1 : Int))) y1) = Int.toNat (wsub .i64 (lenI y1) (1 : Int)), ((List.getD y1 (Int.toNat (wsub .i64 (lenI y1) (1 : Int))) ([] : List UInt8)) == ([] : List UInt8)) = ((List.getD y1 (Int.toNat (wsub .i64 (lenI y1) (1 : Int))) ([] : List UInt8)) == ([] : List UInt8)), (List.take (Int.toNat (wsub .i64 (lenI y1) (1 : Int))) y1) = List.take (List.length (List.take (Int.toNat (wsub .i64 (lenI y1) (1 : Int))) y1)) y1]) (st' := ⟨[(2, aV 0), (3, bV ((List.getD y1 (Int.toNat (wsub .i64 (lenI y1) (1 : Int))) ([] : List UInt8)) == ([] : List UInt8)))], [(0, .seq .str (List.take (Int.toNat (wsub .i64 (lenI y1) (1 : Int))) y1))], 1⟩) hO (fun h => by cases h) (by kernel_rfl) ⟨rfl, (trunc1 hg6), rfl, (trunc2 _ _), trivial⟩).ht (cont ((List.getD y1 (Int.toNat (wsub .i64 (lenI y1) (1 : Int))) ([] : List UInt8)) == ([] : List UInt8)) (of_some hT5))
    · refine HT.drL 14 [⟨oH, []⟩, ⟨oH, []⟩, ⟨oH, [0, 1]⟩, ⟨oH, []⟩, ⟨oH, [3]⟩, ⟨oH, [3, 4]⟩, ⟨oH, [3, 4, 5]⟩, ⟨⟨some false, .no⟩, [3, 4, 5, 6]⟩, ⟨⟨some false, .no⟩, [3, 4, 5, 6]⟩, ⟨⟨some false, .no⟩, [3, 4, 5, 6, 7, 8]⟩, ⟨⟨some false, .no⟩, [3, 4, 5, 6, 7, 8, 9]⟩, ⟨⟨some false, .no⟩, [3, 4, 5, 6, 7, 8, 9, 10]⟩, ⟨⟨none, .tv false⟩, [3, 4, 5, 6, 7, 8, 9, 10, 11]⟩, ⟨oH, [0, 1, 2, 3, 4, 5, 6]⟩] [[0, 1, 2, 3, 4, 5, 6, 7, 8, 9, 10, 11, 12, 13]] [oH] ⟨[(2, .one (.ref 0 0 (Int.toNat (wsub .i64 (lenI y1) (1 : Int))))), (3, bV false)], [(0, .seq .str y1)], 1⟩ hX (by kernel_rfl) (by kernel_rfl) (allCons (show (0 : Int) ≤ 0 ∧ (0 : Int) ≤ (wsub .i64 (lenI y1) (1 : Int)) ∧ (wsub .i64 (lenI y1) (1 : Int)) ≤ lenI y1 from ⟨Int.le_refl _, hg6.1, hg6.2⟩) (allCons hb7 (allCons hb7 (allCons hb7 (allCons hb7 (allCons hb7 (allCons hb7 allNil))))))) (qThen ?_)
      exact (Le.cv (s := ⟨[(0, 0)], [], [0], false⟩) (own := []) (ps := [0 = 0, List.length (List.take (Int.toNat (wsub .i64 (lenI y1) (1 : Int))) y1) = Int.toNat (wsub .i64 (lenI y1) (1 : Int)), false = false, (List.take (Int.toNat (wsub .i64 (lenI y1) (1 : Int))) y1) = List.take (List.length (List.take (Int.toNat (wsub .i64 (lenI y1) (1 : Int))) y1)) y1]) (st' := ⟨[(2, aV 0), (3, bV false)], [(0, .seq .str (List.take (Int.toNat (wsub .i64 (lenI y1) (1 : Int))) y1))], 1⟩) hO (fun h => by cases h) (by kernel_rfl) ⟨rfl, (trunc1 hg6), rfl, (trunc2 _ _), trivial⟩).ht (cont false (of_some hT5))

noncomputable def impl_CountOutputs_B1 (y1 : List (List UInt8) × Bool) (s4 : Int × Int) : Option ((Int × Int) ⊕ (Int)) :=
  bif (decide (s4.2 < (lenI y1.1))) then
    (show Option (Int) from
      guardP ((0 : Int) ≤ s4.2 ∧ s4.2 < lenI y1.1) (
        (show Option (Bool) from
          bif ((List.getD y1.1 (Int.toNat s4.2) ([] : List UInt8)) == ([110, 111] : List UInt8)) then
            some true
          else
            some ((List.getD y1.1 (Int.toNat s4.2) ([] : List UInt8)) == ([119, 104, 97, 116] : List UInt8))).bind fun v15 =>
        bif v15 then
          some (wadd .i64 s4.1 (1 : Int))
        else
          some s4.1)).bind fun v11 =>
    some (.inl (v11, (wadd .i64 s4.2 (1 : Int))))
  else
    some (.inr s4.1)

noncomputable def impl_CountOutputs (a0 : List UInt8) : Option (Int × Int × Bool) :=
  (impl_linesOf a0).bind fun y1 =>
  bif (!y1.2) then
    some ((0 : Int), (0 : Int), false)
  else
    (rounds (impl_CountOutputs_B1 y1) ((0 : Int), (0 : Int))).bind fun r6 =>
    some (r6, (wsub .i64 (lenI y1.1) r6), true)

theorem f49_ok {a0 : List UInt8} {r : Int × Int × Bool} (hr : impl_CountOutputs a0 = some r) : CallOK Tryd.prog 49 [.imm .str a0] [⟨false, tI, r.1⟩, ⟨false, tI, r.2.1⟩, ⟨false, .bool, r.2.2⟩] [] := by
  unfold impl_CountOutputs at hr
  refine CallOK.of_body (ts := [(false, tI), (false, tI), (false, .bool)]) Tryd.func49 rfl (by kernel_rfl) (Nat.le_of_ble_eq_true (by kernel_rfl)) fun cx hP hN hO hF => ?_
  have hO : cx.own.map Prod.fst = [] := hO
  have hX := CxIs.mk hP hN hO
  have hF := hF rfl
  show HT cx ⟨[(0, .one (.dat .str a0))], [], 0⟩ _ _
  refine HT.rg2 (oHs 3) ⟨[(0, .one (.dat .str a0))], [], 0⟩ hX (by kernel_rfl) allNil ?_
  obtain ⟨y1, hc2, hr⟩ := of_bind hr
  refine HT.rg2 [oH, ⟨none, .call [.imm .str] [⟨true, (.sl .str), y1.1⟩, ⟨false, .bool, y1.2⟩] []⟩, oH, oH, oH, oH, oH] ⟨[(5, aV 0), (6, bV y1.2)], [(0, .seq .str y1.1)], 1⟩ hX (by kernel_rfl) (allCons (f102_ok hc2) allNil) ?_
  refine HT.seq ?_
  refine HT.rg2 (oHs 2) ⟨[(5, aV 0), (16, bV (!y1.2))], [(0, .seq .str y1.1)], 1⟩ hX (by kernel_rfl) allNil ?_
  rcases of_bif hr with ⟨hb3, hr⟩ | ⟨hb3, hr⟩
  · refine HT.cond1 rfl hb3 ?_
    refine HT.rg2 (oHs 3) ⟨[(2, iV (0 : Int)), (3, iV (0 : Int)), (4, bV false)], [], 1⟩ hX (by kernel_rfl) allNil ?_
    have hr := of_some hr
    subst hr
    exact HT.ret (qThenR ⟨[iV (0 : Int), iV (0 : Int), bV false], [], [], by kernel_rfl, by kernel_rfl, rfl, by kernel_rfl, by kernel_rfl, trivial⟩)
  · refine HT.cond0 rfl hb3 ?_
    refine HT.skip (qThen ?_)
    refine HT.rg2 [oH] ⟨[(5, aV 0), (7, iV (0 : Int))], [(0, .seq .str y1.1)], 1⟩ hX (by kernel_rfl) allNil ?_
    refine HT.seq ?_
    refine HT.rg2 (oHs 3) ⟨[(5, aV 0), (7, iV (0 : Int)), (17, aV 0), (18, iV (lenI y1.1)), (19, iV (0 : Int))], [(0, .seq .str y1.1)], 1⟩ hX (by kernel_rfl) allNil ?_
    refine HT.block ?_
    obtain ⟨r5, hL20, hr⟩ := of_bind hr
    refine HT.loopL (fun (s4 : Int × Int) => ⟨[(5, aV 0), (7, iV s4.1), (17, aV 0), (18, iV (lenI y1.1)), (19, iV s4.2)], [(0, .seq .str y1.1)], 1⟩) (fun (r6 : Int) => (.exit 0, ⟨[(5, aV 0), (7, iV r6)], [(0, .seq .str y1.1)], 1⟩)) (Le.re [(0, 0)] [] hX (by kernel_rfl)) hL20 ?_ (fun s4 x7 hx8 hk9 => ?_)
    · refine (qBlockX (qThen ?_))
      refine HT.rg2 (oHs 8) ⟨[(2, iV r5), (3, iV (wsub .i64 (lenI y1.1) r5)), (4, bV true)], [], 1⟩ hX (by kernel_rfl) allNil ?_
      have hr := of_some hr
      subst hr
      exact HT.ret ⟨[iV r5, iV (wsub .i64 (lenI y1.1) r5), bV true], [], [], by kernel_rfl, by kernel_rfl, rfl, by kernel_rfl, by kernel_rfl, trivial⟩
    · refine HT.rg2 [oH] ⟨[(5, aV 0), (7, iV s4.1), (17, aV 0), (18, iV (lenI y1.1)), (19, iV s4.2), (20, bV (decide (s4.2 < (lenI y1.1))))], [(0, .seq .str y1.1)], 1⟩ hX (by kernel_rfl) allNil ?_
      refine HT.seq ?_
      rcases of_bif hx8 with ⟨hb10, hx8⟩ | ⟨hb10, hx8⟩
      · refine HT.cond1 rfl hb10 ?_
        refine HT.skip (qThen ?_)
        obtain ⟨v11', hT13, hx8⟩ := of_bind hx8
        refine HT.join (fun (v11 : Int) => ⟨[(5, aV 0), (7, iV v11), (17, aV 0), (18, iV (lenI y1.1)), (19, iV s4.2)], [(0, .seq .str y1.1)], 1⟩) (fun v => v = v11') (fun v11 hv12 => ?_) (fun cont => ?_)
        · subst hv12
          have hx8 := of_some hx8
          subst hx8
          exact HT.rgK (oHs 2) [(0, 0)] [] hX (by kernel_rfl) allNil (fun _ h => (qLoopN ⟨(v11, (wadd .i64 s4.2 (1 : Int))), rfl, h⟩))
        · refine HT.block ?_
          obtain ⟨hg14, hT13⟩ := of_guard hT13
          refine HT.rg2 (oHs 3) ⟨[(5, aV 0), (7, iV s4.1), (9, .one (.dat .str (List.getD y1.1 (Int.toNat s4.2) ([] : List UInt8)))), (17, aV 0), (18, iV (lenI y1.1)), (19, iV s4.2)], [(0, .seq .str y1.1)], 1⟩ hX (by kernel_rfl) (allCons hg14 (allCons (natLt hg14) allNil)) ?_
          obtain ⟨v15', hT17, hT13⟩ := of_bind hT13
          refine HT.join (fun (v15 : Bool) => ⟨[(5, aV 0), (7, iV s4.1), (17, aV 0), (18, iV (lenI y1.1)), (19, iV s4.2), (28, bV v15)], [(0, .seq .str y1.1)], 1⟩) (fun v => v = v15') (fun v15 hv16 => ?_) (fun cont => ?_)
          · subst hv16
            rcases of_bif hT13 with ⟨hb18, hT13⟩ | ⟨hb18, hT13⟩
            · refine HT.cond1 rfl hb18 ?_
              exact HT.rgK (oHs 3) [(0, 0)] [] hX (by kernel_rfl) allNil (fun _ h => (qBlock (qThen (h.ht (cont (wadd .i64 s4.1 (1 : Int)) (of_some hT13))))))
            · refine HT.cond0 rfl hb18 ?_
              refine HT.skip (qBlock (qThen ?_))
              exact (Le.re [(0, 0)] [] hX (by kernel_rfl)).ht (cont s4.1 (of_some hT13))
          · rcases of_bif hT17 with ⟨hb19, hT17⟩ | ⟨hb19, hT17⟩
            · exact HT.rgK [oH, oH, oH, ⟨some true, .no⟩, ⟨some true, .no⟩, ⟨none, .tv true⟩] [(0, 0)] [] hX (by kernel_rfl) (allCons hb19 (allCons hb19 (allCons hb19 allNil))) (fun _ h => (qThen (h.ht (cont true (of_some hT17)))))
            · exact HT.rgK [oH, oH, oH, ⟨some false, .no⟩, ⟨some false, .no⟩, ⟨none, .tv false⟩] [(0, 0)] [] hX (by kernel_rfl) (allCons hb19 (allCons hb19 (allCons hb19 allNil))) (fun _ h => (qThen (h.ht (cont ((List.getD y1.1 (Int.toNat s4.2) ([] : List UInt8)) == ([119, 104, 97, 116] : List UInt8)) (of_some hT17)))))
      · refine HT.cond0 rfl hb10 ?_
        have hx8 := of_some hx8
        subst hx8
        exact HT.exitL (Le.re [(0, 0)] [] hX (by kernel_rfl)) (qThenE (qLoopE (hk9 s4.1 rfl)))

noncomputable def laws_FnExactCountOutputs (a0 : List UInt8) : Option (Bool) :=
  bif (decide ((lenI a0) > (1048576 : Int))) then
    some true
  else
    (spec_CountOutputs a0).bind fun y2 =>
    (impl_CountOutputs a0).bind fun y4 =>
    (show Option (Bool) from
      bif (y4.1 != y2.1) then
        some true
      else
        bif (y4.2.1 != y2.2.1) then
          some true
        else
          some (y4.2.2 != y2.2.2)).bind fun v6 =>
    bif v6 then
      some false
    else
      some true

theorem f11_ok {a0 : List UInt8} {r : Bool} (hr : laws_FnExactCountOutputs a0 = some r) : CallOK Tryd.prog 11 [.imm .str a0] [⟨false, .bool, r⟩] [] := by
  unfold laws_FnExactCountOutputs at hr
  refine CallOK.of_body (ts := [(false, .bool)]) Tryd.func11 rfl (by kernel_rfl) (Nat.le_of_ble_eq_true (by kernel_rfl)) fun cx hP hN hO hF => ?_
  have hO : cx.own.map Prod.fst = [] := hO
  have hX := CxIs.mk hP hN hO
  have hF := hF rfl
  show HT cx ⟨[(0, .one (.dat .str a0))], [], 0⟩ _ _
  refine HT.rg2 [oH] ⟨[(0, .one (.dat .str a0))], [], 0⟩ hX (by kernel_rfl) allNil ?_
  refine HT.seq ?_
  refine HT.rg2 (oHs 3) ⟨[(0, .one (.dat .str a0)), (11, bV (decide ((lenI a0) > (1048576 : Int))))], [], 0⟩ hX (by kernel_rfl) allNil ?_
  rcases of_bif hr with ⟨hb1, hr⟩ | ⟨hb1, hr⟩
  · refine HT.cond1 rfl hb1 ?_
    refine HT.rg2 [oH] ⟨[(2, bV true)], [], 0⟩ hX (by kernel_rfl) allNil ?_
    have hr := of_some hr
    subst hr
    exact HT.ret (qThenR ⟨[bV true], [], [], by kernel_rfl, by kernel_rfl, rfl, by kernel_rfl, by kernel_rfl, trivial⟩)
  · refine HT.cond0 rfl hb1 ?_
    refine HT.skip (qThen ?_)
    obtain ⟨y2, hc3, hr⟩ := of_bind hr
    refine HT.rg2 [oH, ⟨none, .call [.imm .str] [⟨false, tI, y2.1⟩, ⟨false, tI, y2.2.1⟩, ⟨false, .bool, y2.2.2⟩] []⟩, oH, oH, oH, oH, oH, oH, oH] ⟨[(0, .one (.dat .str a0)), (3, iV y2.1), (4, iV y2.2.1), (5, bV y2.2.2)], [], 0⟩ hX (by kernel_rfl) (allCons (f48_ok hc3) allNil) ?_
    obtain ⟨y4, hc5, hr⟩ := of_bind hr
    refine HT.rg2 [oH, ⟨none, .call [.imm .str] [⟨false, tI, y4.1⟩, ⟨false, tI, y4.2.1⟩, ⟨false, .bool, y4.2.2⟩] []⟩, oH, oH, oH, oH, oH, oH, oH] ⟨[(3, iV y2.1), (4, iV y2.2.1), (5, bV y2.2.2), (6, iV y4.1), (7, iV y4.2.1), (8, bV y4.2.2)], [], 0⟩ hX (by kernel_rfl) (allCons (f49_ok hc5) allNil) ?_
    refine HT.seq ?_
    obtain ⟨v6', hT8, hr⟩ := of_bind hr
    refine HT.join (fun (v6 : Bool) => ⟨[(36, bV v6)], [], 0⟩) (fun v => v = v6') (fun v6 hv7 => ?_) (fun cont => ?_)
    · subst hv7
      rcases of_bif hr with ⟨hb9, hr⟩ | ⟨hb9, hr⟩
      · refine HT.cond1 rfl hb9 ?_
        refine HT.rg2 [oH] ⟨[(2, bV false)], [], 0⟩ hX (by kernel_rfl) allNil ?_
        have hr := of_some hr
        subst hr
        exact HT.ret (qThenR ⟨[bV false], [], [], by kernel_rfl, by kernel_rfl, rfl, by kernel_rfl, by kernel_rfl, trivial⟩)
      · refine HT.cond0 rfl hb9 ?_
        refine HT.skip (qThen ?_)
        refine HT.rg2 [oH] ⟨[(2, bV true)], [], 0⟩ hX (by kernel_rfl) allNil ?_
        have hr := of_some hr
        subst hr
        exact HT.ret ⟨[bV true], [], [], by kernel_rfl, by kernel_rfl, rfl, by kernel_rfl, by kernel_rfl, trivial⟩
    · rcases of_bif hT8 with ⟨hb10, hT8⟩ | ⟨hb10, hT8⟩
      · exact HT.rgK [oH, oH, oH, oH, ⟨some true, .no⟩, ⟨some true, .no⟩, ⟨some true, .no⟩, ⟨none, .tv true⟩, oH, ⟨some true, .no⟩, ⟨some true, .no⟩, ⟨some true, .no⟩, ⟨none, .tv true⟩] [] [] hX (by kernel_rfl) (allCons hb10 (allCons hb10 (allCons hb10 (allCons hb10 (allCons (rfl : true = true) (allCons (rfl : true = true) (allCons (rfl : true = true) (allCons (rfl : true = true) allNil)))))))) (fun _ h => (qThen (h.ht (cont true (of_some hT8)))))
      · rcases of_bif hT8 with ⟨hb11, hT8⟩ | ⟨hb11, hT8⟩
        · exact HT.rgK [oH, oH, oH, oH, ⟨some false, .no⟩, ⟨some false, .no⟩, ⟨some false, .no⟩, ⟨none, .tv false⟩, oH, ⟨some true, .no⟩, ⟨some true, .no⟩, ⟨some true, .no⟩, ⟨none, .tv true⟩] [] [] hX (by kernel_rfl) (allCons hb10 (allCons hb10 (allCons hb10 (allCons hb10 (allCons hb11 (allCons hb11 (allCons hb11 (allCons hb11 allNil)))))))) (fun _ h => (qThen (h.ht (cont true (of_some hT8)))))
        · exact HT.rgK [oH, oH, oH, oH, ⟨some false, .no⟩, ⟨some false, .no⟩, ⟨some false, .no⟩, ⟨none, .tv false⟩, oH, ⟨some false, .no⟩, ⟨some false, .no⟩, ⟨some false, .no⟩, ⟨none, .tv false⟩] [] [] hX (by kernel_rfl) (allCons hb10 (allCons hb10 (allCons hb10 (allCons hb10 (allCons hb11 (allCons hb11 (allCons hb11 (allCons hb11 allNil)))))))) (fun _ h => (qThen (h.ht (cont (y4.2.2 != y2.2.2) (of_some hT8)))))

end Go.Proofs
