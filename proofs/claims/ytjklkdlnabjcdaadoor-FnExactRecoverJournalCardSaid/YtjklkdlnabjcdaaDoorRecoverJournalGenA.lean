import Derived.Test.YtjklkdlnabjcdaaDoorRecoverJournalShelf
import Derived.Test.YtjklkdlnabjcdaaDoorProg
set_option linter.unusedVariables false
set_option linter.unusedSimpArgs false
set_option linter.unusedSectionVars false
/-
  Functions as plain functions, and their contracts. Printed by a program.
-/
namespace Go.Proofs
open Go.Ide

noncomputable def spec_l01Cut_B1 (a0 : List UInt8) (a1 : Int) (s1 : Int × Int × List (List UInt8)) : Option ((Int × Int × List (List UInt8)) ⊕ (List (List UInt8))) :=
  bif (decide (s1.2.1 ≤ (lenI a0))) then
    (show Option (Int × List (List UInt8)) from
      (show Option (Bool) from
        bif (s1.2.1 == (lenI a0)) then
          some true
        else
          guardP ((0 : Int) ≤ s1.2.1 ∧ s1.2.1 < lenI a0) (
            some (((((List.getD a0 (Int.toNat s1.2.1) 0 : UInt8).toNat : Nat)) : Int) == a1))).bind fun v11 =>
      bif v11 then
        guardP ((0 : Int) ≤ s1.1 ∧ s1.1 ≤ s1.2.1 ∧ s1.2.1 ≤ lenI a0) (
          guardP (List.length s1.2.2 + List.length ([(cut a0 s1.1 s1.2.1)] : List (List UInt8)) ≤ appMax) (
            some ((wadd .i64 s1.2.1 (1 : Int)), (s1.2.2 ++ ([(cut a0 s1.1 s1.2.1)] : List (List UInt8))))))
      else
        some (s1.1, s1.2.2)).bind fun v8 =>
    some (.inl (v8.1, (wadd .i64 s1.2.1 (1 : Int)), v8.2))
  else
    some (.inr s1.2.2)

noncomputable def spec_l01Cut (a0 : List UInt8) (a1 : Int) : Option (List (List UInt8)) :=
  (rounds (spec_l01Cut_B1 a0 a1) ((0 : Int), (0 : Int), ([] : List (List UInt8)))).bind fun r3 =>
  some r3

theorem f121_ok {a0 : List UInt8} {a1 : Int} {r : List (List UInt8)} (hr : spec_l01Cut a0 a1 = some r) : CallOK Tryd.prog 121 [.imm .str a0, .imm (.int .u8) a1] [⟨true, (.sl .str), r⟩] [] := by
  unfold spec_l01Cut at hr
  refine CallOK.of_body (ts := [(true, (.sl .str))]) Tryd.func121 rfl (by kernel_rfl) (Nat.le_of_ble_eq_true (by kernel_rfl)) fun cx hP hN hO hF => ?_
  have hO : cx.own.map Prod.fst = [] := hO
  have hX := CxIs.mk hP hN hO
  have hF := hF rfl
  show HT cx ⟨[(0, .one (.dat .str a0)), (1, .one (.dat (.int .u8) a1))], [], 0⟩ _ _
  refine HT.rg2 [oH] ⟨[(0, .one (.dat .str a0)), (1, .one (.dat (.int .u8) a1))], [], 0⟩ hX (by kernel_rfl) allNil ?_
  refine HT.rg2 (oHs 2) ⟨[(0, .one (.dat .str a0)), (1, .one (.dat (.int .u8) a1)), (5, .one (.nilS))], [], 0⟩ hX (by kernel_rfl) allNil ?_
  refine HT.rg2 [oH] ⟨[(0, .one (.dat .str a0)), (1, .one (.dat (.int .u8) a1)), (5, .one (.nilS)), (6, iV (0 : Int))], [], 0⟩ hX (by kernel_rfl) allNil ?_
  refine HT.seq ?_
  refine HT.rg2 [oH] ⟨[(0, .one (.dat .str a0)), (1, .one (.dat (.int .u8) a1)), (5, .one (.nilS)), (6, iV (0 : Int)), (7, iV (0 : Int))], [], 0⟩ hX (by kernel_rfl) allNil ?_
  refine HT.block ?_
  obtain ⟨r2, hL19, hr⟩ := of_bind hr
  refine HT.loopL (fun (s1 : Int × Int × List (List UInt8)) => ⟨[(0, .one (.dat .str a0)), (1, .one (.dat (.int .u8) a1)), (5, aV 0), (6, iV s1.1), (7, iV s1.2.1)], [(0, .seq .str s1.2.2)], 1⟩) (fun (r3 : List (List UInt8)) => (.exit 0, ⟨[(5, aV 0)], [(0, .seq .str r3)], 1⟩)) (Le.re [] [0] hX (by kernel_rfl)) hL19 ?_ (fun s1 x4 hx5 hk6 => ?_)
  · refine (qBlockX (qThen ?_))
    refine HT.rg2 (oHs 2) ⟨[(4, aV 0)], [(0, .seq .str r2)], 1⟩ hX (by kernel_rfl) allNil ?_
    have hr := of_some hr
    subst hr
    exact HT.ret ⟨[aV 0], [0], [], by kernel_rfl, by kernel_rfl, rfl, by kernel_rfl, by kernel_rfl, trivial⟩
  · refine HT.seq ?_
    refine HT.rg2 (oHs 4) ⟨[(0, .one (.dat .str a0)), (1, .one (.dat (.int .u8) a1)), (5, aV 0), (6, iV s1.1), (7, iV s1.2.1), (12, bV (decide (s1.2.1 ≤ (lenI a0))))], [(0, .seq .str s1.2.2)], 1⟩ hX (by kernel_rfl) allNil ?_
    rcases of_bif hx5 with ⟨hb7, hx5⟩ | ⟨hb7, hx5⟩
    · refine HT.cond1 rfl hb7 ?_
      refine HT.skip (qThen ?_)
      obtain ⟨v8', hT10, hx5⟩ := of_bind hx5
      refine HT.join (fun (v8 : Int × List (List UInt8)) => ⟨[(0, .one (.dat .str a0)), (1, .one (.dat (.int .u8) a1)), (5, aV 0), (6, iV v8.1), (7, iV s1.2.1)], [(0, .seq .str v8.2)], 1⟩) (fun v => v = v8') (fun v8 hv9 => ?_) (fun cont => ?_)
      · subst hv9
        have hx5 := of_some hx5
        subst hx5
        exact HT.rgK (oHs 3) [(0, 0)] [] hX (by kernel_rfl) allNil (fun _ h => (qLoopN ⟨(v8.1, (wadd .i64 s1.2.1 (1 : Int)), v8.2), rfl, h⟩))
      · refine HT.block ?_
        obtain ⟨v11', hT13, hT10⟩ := of_bind hT10
        refine HT.join (fun (v11 : Bool) => ⟨[(0, .one (.dat .str a0)), (1, .one (.dat (.int .u8) a1)), (5, aV 0), (6, iV s1.1), (7, iV s1.2.1), (25, bV v11)], [(0, .seq .str s1.2.2)], 1⟩) (fun v => v = v11') (fun v11 hv12 => ?_) (fun cont => ?_)
        · subst hv12
          rcases of_bif hT10 with ⟨hb14, hT10⟩ | ⟨hb14, hT10⟩
          · refine HT.cond1 rfl hb14 ?_
            obtain ⟨hg15, hT10⟩ := of_guard hT10
            obtain ⟨hg16, hT10⟩ := of_guard hT10
            refine HT.rg2 [oH, oH, oH, oH, oH, ⟨none, .ty .str⟩, ⟨none, .ty .str⟩, oH] ⟨[(0, .one (.dat .str a0)), (1, .one (.dat (.int .u8) a1)), (5, aV 2), (7, iV s1.2.1)], [(2, .seq .str (s1.2.2 ++ ([(cut a0 s1.1 s1.2.1)] : List (List UInt8))))], 3⟩ hX (by kernel_rfl) (allCons hg15 (allCons hg16 allNil)) ?_
            exact HT.rgK (oHs 3) [(2, 0)] [] hX (by kernel_rfl) allNil (fun _ h => (qBlock (qThen (h.ht (cont ((wadd .i64 s1.2.1 (1 : Int)), (s1.2.2 ++ ([(cut a0 s1.1 s1.2.1)] : List (List UInt8)))) (of_some hT10))))))
          · refine HT.cond0 rfl hb14 ?_
            refine HT.skip (qBlock (qThen ?_))
            exact (Le.re [(0, 0)] [] hX (by kernel_rfl)).ht (cont (s1.1, s1.2.2) (of_some hT10))
        · rcases of_bif hT13 with ⟨hb17, hT13⟩ | ⟨hb17, hT13⟩
          · exact HT.rgK [oH, oH, oH, oH, oH, ⟨some true, .no⟩, ⟨some true, .no⟩, ⟨some true, .no⟩, ⟨some true, .no⟩, ⟨some true, .no⟩, ⟨none, .tv true⟩] [(0, 0)] [] hX (by kernel_rfl) (allCons hb17 (allCons hb17 (allCons hb17 (allCons hb17 (allCons hb17 (allCons hb17 allNil)))))) (fun _ h => (qThen (h.ht (cont true (of_some hT13)))))
          · obtain ⟨hg18, hT13⟩ := of_guard hT13
            exact HT.rgK [oH, oH, oH, oH, oH, ⟨some false, .no⟩, ⟨some false, .no⟩, ⟨some false, .no⟩, ⟨some false, .no⟩, ⟨some false, .no⟩, ⟨none, .tv false⟩] [(0, 0)] [] hX (by kernel_rfl) (allCons hb17 (allCons hb17 (allCons hb17 (allCons hg18 (allCons hb17 (allCons hb17 (allCons hb17 allNil))))))) (fun _ h => (qThen (h.ht (cont (((((List.getD a0 (Int.toNat s1.2.1) 0 : UInt8).toNat : Nat)) : Int) == a1) (of_some hT13)))))
    · refine HT.cond0 rfl hb7 ?_
      have hx5 := of_some hx5
      subst hx5
      exact HT.exitL (Le.re [(0, 0)] [] hX (by kernel_rfl)) (qThenE (qLoopE (hk6 s1.2.2 rfl)))

noncomputable def spec_l08Lines (a0 : List UInt8) : Option (List (List UInt8) × List UInt8) :=
  (spec_l01Cut a0 (10 : Int)).bind fun y1 =>
  guardP ((0 : Int) ≤ (wsub .i64 (lenI y1) (1 : Int)) ∧ (wsub .i64 (lenI y1) (1 : Int)) ≤ lenI y1) (
    guardP ((0 : Int) ≤ (wsub .i64 (lenI y1) (1 : Int)) ∧ (wsub .i64 (lenI y1) (1 : Int)) < lenI y1) (
      some ((List.take (Int.toNat (wsub .i64 (lenI y1) (1 : Int))) (List.drop 0 y1)), (List.getD y1 (Int.toNat (wsub .i64 (lenI y1) (1 : Int))) ([] : List UInt8)))))

theorem f101_ok {a0 : List UInt8} {r : List (List UInt8) × List UInt8} (hr : spec_l08Lines a0 = some r) : CallOK Tryd.prog 101 [.imm .str a0] [⟨false, (.sl .str), r.1⟩, ⟨false, .str, r.2⟩] [] := by
  unfold spec_l08Lines at hr
  refine CallOK.of_body (ts := [(false, (.sl .str)), (false, .str)]) Tryd.func101 rfl (by kernel_rfl) (Nat.le_of_ble_eq_true (by kernel_rfl)) fun cx hP hN hO hF => ?_
  have hO : cx.own.map Prod.fst = [] := hO
  have hX := CxIs.mk hP hN hO
  have hF := hF rfl
  show HT cx ⟨[(0, .one (.dat .str a0))], [], 0⟩ _ _
  refine HT.rg2 (oHs 2) ⟨[(0, .one (.dat .str a0))], [], 0⟩ hX (by kernel_rfl) allNil ?_
  obtain ⟨y1, hc2, hr⟩ := of_bind hr
  refine HT.rg2 [oH, ⟨none, .call [.imm .str, .imm (.int .u8)] [⟨true, (.sl .str), y1⟩] []⟩, oH] ⟨[(4, aV 0)], [(0, .seq .str y1)], 1⟩ hX (by kernel_rfl) (allCons (f121_ok hc2) allNil) ?_
  obtain ⟨hg3, hr⟩ := of_guard hr
  obtain ⟨hg4, hr⟩ := of_guard hr
  refine HT.dr2 12 [⟨oH, []⟩, ⟨oH, []⟩, ⟨oH, [1]⟩, ⟨oH, [1, 2]⟩, ⟨oH, [0, 1, 2, 3]⟩, ⟨oH, []⟩, ⟨oH, []⟩, ⟨oH, [6]⟩, ⟨oH, [6, 7]⟩, ⟨oH, [5, 6, 7, 8]⟩, ⟨oH, [5, 6, 7, 8, 9]⟩, ⟨oH, [0, 1, 2, 3, 4]⟩] [[0, 1, 2, 3, 4, 5, 6, 7, 8, 9, 10, 11]] [oH] ⟨[(2, .one (.ref 0 0 (Int.toNat (wsub .i64 (lenI y1) (1 : Int))))), (3, .one (.dat .str (List.getD y1 (Int.toNat (wsub .i64 (lenI y1) (1 : Int))) ([] : List UInt8))))], [(0, .seq .str y1)], 1⟩ hX (by kernel_rfl) (by kernel_rfl) (allCons (show (0 : Int) ≤ 0 ∧ (0 : Int) ≤ (wsub .i64 (lenI y1) (1 : Int)) ∧ (wsub .i64 (lenI y1) (1 : Int)) ≤ lenI y1 from ⟨Int.le_refl _, hg3.1, hg3.2⟩) (allCons hg4 (allCons (natLt hg4) allNil))) ?_
  have hr := of_some hr
  subst hr
  refine (Le.rz [] [] (st' := ⟨[(2, .one (.dat (.sl .str) (List.take (Int.toNat (wsub .i64 (lenI y1) (1 : Int))) (List.drop 0 y1)))), (3, .one (.dat .str (List.getD y1 (Int.toNat (wsub .i64 (lenI y1) (1 : Int))) ([] : List UInt8))))], [], 1⟩) hX hF (by kernel_rfl)).ht ?_
  exact HT.ret ⟨[.one (.dat (.sl .str) (List.take (Int.toNat (wsub .i64 (lenI y1) (1 : Int))) (List.drop 0 y1))), .one (.dat .str (List.getD y1 (Int.toNat (wsub .i64 (lenI y1) (1 : Int))) ([] : List UInt8)))], [], [], by kernel_rfl, by kernel_rfl, rfl, by kernel_rfl, by kernel_rfl, trivial⟩

noncomputable def spec_l01Check_B1 (a1 : List UInt8) (s1 : Int × Int) : Option ((Int × Int) ⊕ (Int)) :=
  bif (decide (s1.2 < (lenI a1))) then
    guardP ((0 : Int) ≤ s1.2 ∧ s1.2 < lenI a1) (
      some (.inl ((Int.tmod (wadd .i64 (wadd .i64 (wmul .i64 (919 : Int) s1.1) (IntKind.wrap .i64 ((((List.getD a1 (Int.toNat s1.2) 0 : UInt8).toNat : Nat)) : Int))) (191 : Int)) (65003 : Int)), (wadd .i64 s1.2 (1 : Int)))))
  else
    some (.inr s1.1)

noncomputable def spec_l01Check (a0 : Int) (a1 : List UInt8) : Option (Int) :=
  (rounds (spec_l01Check_B1 a1) (a0, (0 : Int))).bind fun r3 =>
  some r3

theorem f103_ok {a0 : Int} {a1 : List UInt8} {r : Int} (hr : spec_l01Check a0 a1 = some r) : CallOK Tryd.prog 103 [.imm tI a0, .imm .str a1] [⟨false, tI, r⟩] [] := by
  unfold spec_l01Check at hr
  refine CallOK.of_body (ts := [(false, tI)]) Tryd.func103 rfl (by kernel_rfl) (Nat.le_of_ble_eq_true (by kernel_rfl)) fun cx hP hN hO hF => ?_
  have hO : cx.own.map Prod.fst = [] := hO
  have hX := CxIs.mk hP hN hO
  have hF := hF rfl
  show HT cx ⟨[(0, iV a0), (1, .one (.dat .str a1))], [], 0⟩ _ _
  refine HT.rg2 [oH] ⟨[(0, iV a0), (1, .one (.dat .str a1))], [], 0⟩ hX (by kernel_rfl) allNil ?_
  refine HT.seq ?_
  refine HT.rg2 [oH] ⟨[(0, iV a0), (1, .one (.dat .str a1)), (5, iV (0 : Int))], [], 0⟩ hX (by kernel_rfl) allNil ?_
  refine HT.block ?_
  obtain ⟨r2, hL9, hr⟩ := of_bind hr
  refine HT.loopL (fun (s1 : Int × Int) => ⟨[(0, iV s1.1), (1, .one (.dat .str a1)), (5, iV s1.2)], [], 0⟩) (fun (r3 : Int) => (.exit 0, ⟨[(0, iV r3)], [], 0⟩)) (Le.re [] [] hX (by kernel_rfl)) hL9 ?_ (fun s1 x4 hx5 hk6 => ?_)
  · refine (qBlockX (qThen ?_))
    refine HT.rg2 (oHs 2) ⟨[(4, iV r2)], [], 0⟩ hX (by kernel_rfl) allNil ?_
    have hr := of_some hr
    subst hr
    exact HT.ret ⟨[iV r2], [], [], by kernel_rfl, by kernel_rfl, rfl, by kernel_rfl, by kernel_rfl, trivial⟩
  · refine HT.seq ?_
    refine HT.rg2 (oHs 4) ⟨[(0, iV s1.1), (1, .one (.dat .str a1)), (5, iV s1.2), (9, bV (decide (s1.2 < (lenI a1))))], [], 0⟩ hX (by kernel_rfl) allNil ?_
    rcases of_bif hx5 with ⟨hb7, hx5⟩ | ⟨hb7, hx5⟩
    · refine HT.cond1 rfl hb7 ?_
      refine HT.skip (qThen ?_)
      refine HT.seq ?_
      refine HT.block ?_
      obtain ⟨hg8, hx5⟩ := of_guard hx5
      refine HT.rgL (oHs 10) ⟨[(0, iV (Int.tmod (wadd .i64 (wadd .i64 (wmul .i64 (919 : Int) s1.1) (IntKind.wrap .i64 ((((List.getD a1 (Int.toNat s1.2) 0 : UInt8).toNat : Nat)) : Int))) (191 : Int)) (65003 : Int))), (1, .one (.dat .str a1)), (5, iV s1.2)], [], 0⟩ hX (by kernel_rfl) (allCons hg8 (allCons (show (65003 : Int) ≠ 0 from by decide) allNil)) (qBlock (qThen ?_))
      have hx5 := of_some hx5
      subst hx5
      exact HT.rgK (oHs 3) [] [] hX (by kernel_rfl) allNil (fun _ h => (qLoopN ⟨((Int.tmod (wadd .i64 (wadd .i64 (wmul .i64 (919 : Int) s1.1) (IntKind.wrap .i64 ((((List.getD a1 (Int.toNat s1.2) 0 : UInt8).toNat : Nat)) : Int))) (191 : Int)) (65003 : Int)), (wadd .i64 s1.2 (1 : Int))), rfl, h⟩))
    · refine HT.cond0 rfl hb7 ?_
      have hx5 := of_some hx5
      subst hx5
      exact HT.exitL (Le.re [] [] hX (by kernel_rfl)) (qThenE (qLoopE (hk6 s1.1 rfl)))

noncomputable def spec_l01Dec_B1  (s1 : Int × List Int) : Option ((Int × List Int) ⊕ (List Int)) :=
  (show Option (Bool) from
    bif ((lenI s1.2) == (0 : Int)) then
      some true
    else
      some (s1.1 != (0 : Int))).bind fun v12 =>
  bif v12 then
    (show Option (Int) from
      bif (decide ((Int.tmod s1.1 (10 : Int)) < (0 : Int))) then
        some (IntKind.wrap .i64 (0 - (Int.tmod s1.1 (10 : Int))))
      else
        some (Int.tmod s1.1 (10 : Int))).bind fun v16 =>
    guardP (List.length ([(IntKind.wrap .u8 (wadd .i64 (48 : Int) v16))] : List Int) + List.length s1.2 ≤ appMax) (
      some (.inl ((IntKind.wrap .i64 (Int.tdiv s1.1 (10 : Int))), (([(IntKind.wrap .u8 (wadd .i64 (48 : Int) v16))] : List Int) ++ s1.2))))
  else
    some (.inr s1.2)

noncomputable def spec_l01Dec (a0 : Int) : Option (List UInt8) :=
  (rounds (spec_l01Dec_B1) (a0, ([] : List Int))).bind fun r3 =>
  (show Option (List Int) from
    bif (decide (a0 < (0 : Int))) then
      guardP (List.length ([(45 : Int)] : List Int) + List.length r3 ≤ appMax) (
        some (([(45 : Int)] : List Int) ++ r3))
    else
      some r3).bind fun v4 =>
  some (bytesO v4)

theorem f104_ok {a0 : Int} {r : List UInt8} (hr : spec_l01Dec a0 = some r) : CallOK Tryd.prog 104 [.imm tI a0] [⟨false, .str, r⟩] [] := by
  unfold spec_l01Dec at hr
  refine CallOK.of_body (ts := [(false, .str)]) Tryd.func104 rfl (by kernel_rfl) (Nat.le_of_ble_eq_true (by kernel_rfl)) fun cx hP hN hO hF => ?_
  have hO : cx.own.map Prod.fst = [] := hO
  have hX := CxIs.mk hP hN hO
  have hF := hF rfl
  show HT cx ⟨[(0, iV a0)], [], 0⟩ _ _
  refine HT.rg2 [oH] ⟨[(0, iV a0)], [], 0⟩ hX (by kernel_rfl) allNil ?_
  refine HT.rg2 (oHs 2) ⟨[(0, iV a0), (3, .one (.nilS))], [], 0⟩ hX (by kernel_rfl) allNil ?_
  refine HT.rg2 (oHs 2) ⟨[(0, iV a0), (3, .one (.nilS)), (4, iV a0)], [], 0⟩ hX (by kernel_rfl) allNil ?_
  refine HT.seq ?_
  refine HT.block ?_
  obtain ⟨r2, hL22, hr⟩ := of_bind hr
  refine HT.loopL (fun (s1 : Int × List Int) => ⟨[(0, iV a0), (3, aV 0), (4, iV s1.1)], [(0, .seq (.int .u8) s1.2)], 1⟩) (fun (r3 : List Int) => (.exit 0, ⟨[(0, iV a0), (3, aV 0)], [(0, .seq (.int .u8) r3)], 1⟩)) (Le.re [] [0] hX (by kernel_rfl)) hL22 ?_ (fun s1 x9 hx10 hk11 => ?_)
  · refine (qBlockX (qThen ?_))
    obtain ⟨v4', hT6, hr⟩ := of_bind hr
    refine HT.join (fun (v4 : List Int) => ⟨[(3, aV 0)], [(0, .seq (.int .u8) v4)], 1⟩) (fun v => v = v4') (fun v4 hv5 => ?_) (fun cont => ?_)
    · subst hv5
      refine HT.rg2 (oHs 3) ⟨[(2, .one (.dat .str (bytesO v4)))], [], 1⟩ hX (by kernel_rfl) allNil ?_
      have hr := of_some hr
      subst hr
      exact HT.ret ⟨[.one (.dat .str (bytesO v4))], [], [], by kernel_rfl, by kernel_rfl, rfl, by kernel_rfl, by kernel_rfl, trivial⟩
    · refine HT.rg2 (oHs 2) ⟨[(3, aV 0), (30, bV (decide (a0 < (0 : Int))))], [(0, .seq (.int .u8) r2)], 1⟩ hX (by kernel_rfl) allNil ?_
      rcases of_bif hT6 with ⟨hb7, hT6⟩ | ⟨hb7, hT6⟩
      · refine HT.cond1 rfl hb7 ?_
        obtain ⟨hg8, hT6⟩ := of_guard hT6
        exact HT.rgK [⟨none, .ty (.int .u8)⟩, oH, ⟨none, .ty (.int .u8)⟩, oH] [(2, 0)] [] hX (by kernel_rfl) (allCons hg8 allNil) (fun _ h => (qThen (h.ht (cont (([(45 : Int)] : List Int) ++ r2) (of_some hT6)))))
      · refine HT.cond0 rfl hb7 ?_
        refine HT.skip (qThen ?_)
        exact (Le.re [(0, 0)] [] hX (by kernel_rfl)).ht (cont r2 (of_some hT6))
  · refine HT.seq ?_
    obtain ⟨v12', hT14, hx10⟩ := of_bind hx10
    refine HT.join (fun (v12 : Bool) => ⟨[(0, iV a0), (3, aV 0), (4, iV s1.1), (14, bV v12)], [(0, .seq (.int .u8) s1.2)], 1⟩) (fun v => v = v12') (fun v12 hv13 => ?_) (fun cont => ?_)
    · subst hv13
      rcases of_bif hx10 with ⟨hb15, hx10⟩ | ⟨hb15, hx10⟩
      · refine HT.cond1 rfl hb15 ?_
        refine HT.skip (qThen ?_)
        refine HT.block ?_
        refine HT.rg2 (oHs 3) ⟨[(0, iV a0), (3, aV 0), (4, iV s1.1), (5, iV (Int.tmod s1.1 (10 : Int)))], [(0, .seq (.int .u8) s1.2)], 1⟩ hX (by kernel_rfl) (allCons (show (10 : Int) ≠ 0 from by decide) allNil) ?_
        obtain ⟨v16', hT18, hx10⟩ := of_bind hx10
        refine HT.join (fun (v16 : Int) => ⟨[(0, iV a0), (3, aV 0), (4, iV s1.1), (5, iV v16)], [(0, .seq (.int .u8) s1.2)], 1⟩) (fun v => v = v16') (fun v16 hv17 => ?_) (fun cont => ?_)
        · subst hv17
          obtain ⟨hg19, hx10⟩ := of_guard hx10
          refine HT.rg2 [oH, oH, oH, ⟨none, .ty (.int .u8)⟩, oH, ⟨none, .ty (.int .u8)⟩, oH] ⟨[(0, iV a0), (3, aV 2), (4, iV s1.1)], [(2, .seq (.int .u8) (([(IntKind.wrap .u8 (wadd .i64 (48 : Int) v16))] : List Int) ++ s1.2))], 3⟩ hX (by kernel_rfl) (allCons hg19 allNil) ?_
          have hx10 := of_some hx10
          subst hx10
          exact HT.rgK (oHs 3) [(2, 0)] [] hX (by kernel_rfl) (allCons (show (10 : Int) ≠ 0 from by decide) allNil) (fun _ h => (qBlock (qLoopN ⟨((IntKind.wrap .i64 (Int.tdiv s1.1 (10 : Int))), (([(IntKind.wrap .u8 (wadd .i64 (48 : Int) v16))] : List Int) ++ s1.2)), rfl, h⟩)))
        · refine HT.rg2 (oHs 2) ⟨[(0, iV a0), (3, aV 0), (4, iV s1.1), (5, iV (Int.tmod s1.1 (10 : Int))), (18, bV (decide ((Int.tmod s1.1 (10 : Int)) < (0 : Int))))], [(0, .seq (.int .u8) s1.2)], 1⟩ hX (by kernel_rfl) allNil ?_
          rcases of_bif hT18 with ⟨hb20, hT18⟩ | ⟨hb20, hT18⟩
          · refine HT.cond1 rfl hb20 ?_
            exact HT.rgK (oHs 3) [(0, 0)] [] hX (by kernel_rfl) allNil (fun _ h => (qThen (h.ht (cont (IntKind.wrap .i64 (0 - (Int.tmod s1.1 (10 : Int)))) (of_some hT18)))))
          · refine HT.cond0 rfl hb20 ?_
            refine HT.skip (qThen ?_)
            exact (Le.re [(0, 0)] [] hX (by kernel_rfl)).ht (cont (Int.tmod s1.1 (10 : Int)) (of_some hT18))
      · refine HT.cond0 rfl hb15 ?_
        have hx10 := of_some hx10
        subst hx10
        exact HT.exitL (Le.re [(0, 0)] [] hX (by kernel_rfl)) (qThenE (qLoopE (hk11 s1.2 rfl)))
    · rcases of_bif hT14 with ⟨hb21, hT14⟩ | ⟨hb21, hT14⟩
      · exact HT.rgK [oH, oH, oH, oH, ⟨some true, .no⟩, ⟨some true, .no⟩, ⟨none, .tv true⟩] [(0, 0)] [] hX (by kernel_rfl) (allCons hb21 (allCons hb21 (allCons hb21 allNil))) (fun _ h => (qThen (h.ht (cont true (of_some hT14)))))
      · exact HT.rgK [oH, oH, oH, oH, ⟨some false, .no⟩, ⟨some false, .no⟩, ⟨none, .tv false⟩] [(0, 0)] [] hX (by kernel_rfl) (allCons hb21 (allCons hb21 (allCons hb21 allNil))) (fun _ h => (qThen (h.ht (cont (s1.1 != (0 : Int)) (of_some hT14)))))

noncomputable def spec_l08Recover_B1 (y1 : List (List UInt8) × List UInt8) (s3 : Int × Int × Int × List (List UInt8)) (s10 : Int) : Option ((Int) ⊕ (Int)) :=
  (show Option (Bool) from
    guardP ((0 : Int) ≤ s3.2.2.1 ∧ s3.2.2.1 < lenI y1.1) (
      bif (decide (s10 < (lenI (List.getD y1.1 (Int.toNat s3.2.2.1) ([] : List UInt8))))) then
        guardP ((0 : Int) ≤ s10 ∧ s10 < lenI (List.getD y1.1 (Int.toNat s3.2.2.1) ([] : List UInt8))) (
          some (((((List.getD (List.getD y1.1 (Int.toNat s3.2.2.1) ([] : List UInt8)) (Int.toNat s10) 0 : UInt8).toNat : Nat)) : Int) != (32 : Int)))
      else
        some false)).bind fun v28 =>
  bif v28 then
    some (.inl (wadd .i64 s10 (1 : Int)))
  else
    some (.inr s10)

noncomputable def spec_l08Recover_B2 (y1 : List (List UInt8) × List UInt8) (s3 : Int × Int × Int × List (List UInt8)) : Option ((Int × Int × Int × List (List UInt8)) ⊕ ((Int × List (List UInt8)))) :=
  bif (decide (s3.2.2.1 < (lenI y1.1))) then
    (rounds (spec_l08Recover_B1 y1 s3) (0 : Int)).bind fun r12 =>
    guardP ((0 : Int) ≤ s3.2.2.1 ∧ s3.2.2.1 < lenI y1.1) (
      bif (r12 == (lenI (List.getD y1.1 (Int.toNat s3.2.2.1) ([] : List UInt8)))) then
        some (.inr (s3.2.1, s3.2.2.2))
      else
        guardP ((0 : Int) ≤ (wadd .i64 r12 (1 : Int)) ∧ (wadd .i64 r12 (1 : Int)) ≤ lenI (List.getD y1.1 (Int.toNat s3.2.2.1) ([] : List UInt8))) (
          (some (cut (List.getD y1.1 (Int.toNat s3.2.2.1) ([] : List UInt8)) (wadd .i64 r12 (1 : Int)) (lenI (List.getD y1.1 (Int.toNat s3.2.2.1) ([] : List UInt8))))).bind fun q16 =>
          (spec_l01Check s3.1 q16).bind fun y18 =>
          guardP ((0 : Int) ≤ r12 ∧ r12 ≤ lenI (List.getD y1.1 (Int.toNat s3.2.2.1) ([] : List UInt8))) (
            (spec_l01Dec y18).bind fun y21 =>
            bif ((cut (List.getD y1.1 (Int.toNat s3.2.2.1) ([] : List UInt8)) (0 : Int) r12) != y21) then
              some (.inr (s3.2.1, s3.2.2.2))
            else
              guardP (List.length s3.2.2.2 + List.length ([q16] : List (List UInt8)) ≤ appMax) (
                some (.inl (y18, (wadd .i64 s3.2.1 (wadd .i64 (lenI (List.getD y1.1 (Int.toNat s3.2.2.1) ([] : List UInt8))) (1 : Int))), (wadd .i64 s3.2.2.1 (1 : Int)), (s3.2.2.2 ++ ([q16] : List (List UInt8)))))))))
  else
    some (.inr (s3.2.1, s3.2.2.2))

noncomputable def spec_l08Recover (a0 : List UInt8) : Option (List (List UInt8) × Int) :=
  (spec_l08Lines a0).bind fun y1 =>
  (rounds (spec_l08Recover_B2 y1) ((0 : Int), (0 : Int), (0 : Int), ([] : List (List UInt8)))).bind fun r5 =>
  some (r5.2, r5.1)

theorem f57_ok {a0 : List UInt8} {r : List (List UInt8) × Int} (hr : spec_l08Recover a0 = some r) : CallOK Tryd.prog 57 [.imm .str a0] [⟨true, (.sl .str), r.1⟩, ⟨false, tI, r.2⟩] [] := by
  unfold spec_l08Recover at hr
  refine CallOK.of_body (ts := [(true, (.sl .str)), (false, tI)]) Tryd.func57 rfl (by kernel_rfl) (Nat.le_of_ble_eq_true (by kernel_rfl)) fun cx hP hN hO hF => ?_
  have hO : cx.own.map Prod.fst = [] := hO
  have hX := CxIs.mk hP hN hO
  have hF := hF rfl
  show HT cx ⟨[(0, .one (.dat .str a0))], [], 0⟩ _ _
  refine HT.rg2 (oHs 2) ⟨[(0, .one (.dat .str a0))], [], 0⟩ hX (by kernel_rfl) allNil ?_
  obtain ⟨y1, hc2, hr⟩ := of_bind hr
  refine HT.rg2 [oH, ⟨none, .call [.imm .str] [⟨false, (.sl .str), y1.1⟩, ⟨false, .str, y1.2⟩] []⟩, oH, oH, oH, oH, oH] ⟨[(4, .one (.dat (.sl .str) y1.1))], [], 0⟩ hX (by kernel_rfl) (allCons (f101_ok hc2) allNil) ?_
  refine HT.rg2 (oHs 2) ⟨[(4, .one (.dat (.sl .str) y1.1)), (6, .one (.nilS))], [], 0⟩ hX (by kernel_rfl) allNil ?_
  refine HT.rg2 [oH] ⟨[(4, .one (.dat (.sl .str) y1.1)), (6, .one (.nilS)), (7, iV (0 : Int))], [], 0⟩ hX (by kernel_rfl) allNil ?_
  refine HT.rg2 [oH] ⟨[(4, .one (.dat (.sl .str) y1.1)), (6, .one (.nilS)), (7, iV (0 : Int)), (8, iV (0 : Int))], [], 0⟩ hX (by kernel_rfl) allNil ?_
  refine HT.seq ?_
  refine HT.rg2 [oH] ⟨[(4, .one (.dat (.sl .str) y1.1)), (6, .one (.nilS)), (7, iV (0 : Int)), (8, iV (0 : Int)), (9, iV (0 : Int))], [], 0⟩ hX (by kernel_rfl) allNil ?_
  refine HT.block ?_
  obtain ⟨r4, hL36, hr⟩ := of_bind hr
  refine HT.loopL (fun (s3 : Int × Int × Int × List (List UInt8)) => ⟨[(4, .one (.dat (.sl .str) y1.1)), (6, aV 0), (7, iV s3.1), (8, iV s3.2.1), (9, iV s3.2.2.1)], [(0, .seq .str s3.2.2.2)], 1⟩) (fun (r5 : (Int × List (List UInt8))) => (.exit 0, ⟨[(6, aV 0), (8, iV r5.1)], [(0, .seq .str r5.2)], 1⟩)) (Le.re [] [0] hX (by kernel_rfl)) hL36 ?_ (fun s3 x6 hx7 hk8 => ?_)
  · refine (qBlockX (qThen ?_))
    refine HT.rg2 (oHs 4) ⟨[(2, aV 0), (3, iV r4.1)], [(0, .seq .str r4.2)], 1⟩ hX (by kernel_rfl) allNil ?_
    have hr := of_some hr
    subst hr
    exact HT.ret ⟨[aV 0, iV r4.1], [0], [], by kernel_rfl, by kernel_rfl, rfl, by kernel_rfl, by kernel_rfl, trivial⟩
  · refine HT.seq ?_
    refine HT.rg2 (oHs 4) ⟨[(4, .one (.dat (.sl .str) y1.1)), (6, aV 0), (7, iV s3.1), (8, iV s3.2.1), (9, iV s3.2.2.1), (21, bV (decide (s3.2.2.1 < (lenI y1.1))))], [(0, .seq .str s3.2.2.2)], 1⟩ hX (by kernel_rfl) allNil ?_
    rcases of_bif hx7 with ⟨hb9, hx7⟩ | ⟨hb9, hx7⟩
    · refine HT.cond1 rfl hb9 ?_
      refine HT.skip (qThen ?_)
      refine HT.seq ?_
      refine HT.block ?_
      refine HT.rg2 [oH] ⟨[(4, .one (.dat (.sl .str) y1.1)), (6, aV 0), (7, iV s3.1), (8, iV s3.2.1), (9, iV s3.2.2.1), (10, iV (0 : Int))], [(0, .seq .str s3.2.2.2)], 1⟩ hX (by kernel_rfl) allNil ?_
      refine HT.seq ?_
      refine HT.block ?_
      obtain ⟨r11, hL35, hx7⟩ := of_bind hx7
      refine HT.loopL (fun (s10 : Int) => ⟨[(4, .one (.dat (.sl .str) y1.1)), (6, aV 0), (7, iV s3.1), (8, iV s3.2.1), (9, iV s3.2.2.1), (10, iV s10)], [(0, .seq .str s3.2.2.2)], 1⟩) (fun (r12 : Int) => (.exit 2, ⟨[(4, .one (.dat (.sl .str) y1.1)), (6, aV 0), (7, iV s3.1), (8, iV s3.2.1), (9, iV s3.2.2.1), (10, iV r12)], [(0, .seq .str s3.2.2.2)], 1⟩)) (Le.re [(0, 0)] [] hX (by kernel_rfl)) hL35 ?_ (fun s10 x25 hx26 hk27 => ?_)
      · refine (qBlockX (qThen ?_))
        refine HT.seq ?_
        obtain ⟨hg13, hx7⟩ := of_guard hx7
        refine HT.rg2 (oHs 7) ⟨[(4, .one (.dat (.sl .str) y1.1)), (6, aV 0), (7, iV s3.1), (8, iV s3.2.1), (9, iV s3.2.2.1), (10, iV r11), (48, bV (r11 == (lenI (List.getD y1.1 (Int.toNat s3.2.2.1) ([] : List UInt8)))))], [(0, .seq .str s3.2.2.2)], 1⟩ hX (by kernel_rfl) (allCons hg13 allNil) ?_
        rcases of_bif hx7 with ⟨hb14, hx7⟩ | ⟨hb14, hx7⟩
        · refine HT.cond1 rfl hb14 ?_
          have hx7 := of_some hx7
          subst hx7
          exact HT.exitL (Le.re [(0, 0)] [] hX (by kernel_rfl)) (qThenE (qBlockE rfl (qThenE (qLoopE (hk8 (s3.2.1, s3.2.2.2) rfl)))))
        · refine HT.cond0 rfl hb14 ?_
          refine HT.skip (qThen ?_)
          obtain ⟨hg15, hx7⟩ := of_guard hx7
          refine HT.rg2 (oHs 8) ⟨[(4, .one (.dat (.sl .str) y1.1)), (6, aV 0), (7, iV s3.1), (8, iV s3.2.1), (9, iV s3.2.2.1), (10, iV r11), (11, .one (.dat .str (cut (List.getD y1.1 (Int.toNat s3.2.2.1) ([] : List UInt8)) (wadd .i64 r11 (1 : Int)) (lenI (List.getD y1.1 (Int.toNat s3.2.2.1) ([] : List UInt8))))))], [(0, .seq .str s3.2.2.2)], 1⟩ hX (by kernel_rfl) (allCons hg13 (allCons (show (0 : Int) ≤ (wadd .i64 r11 (1 : Int)) ∧ (wadd .i64 r11 (1 : Int)) ≤ lenI (List.getD y1.1 (Int.toNat s3.2.2.1) ([] : List UInt8)) ∧ lenI (List.getD y1.1 (Int.toNat s3.2.2.1) ([] : List UInt8)) ≤ lenI (List.getD y1.1 (Int.toNat s3.2.2.1) ([] : List UInt8)) from ⟨hg15.1, hg15.2, Int.le_refl _⟩) allNil)) ?_
          obtain ⟨q16, hq17, hx7⟩ := of_bind hx7
          have hq17 := of_some2 hq17
          refine (Le.cv (s := ⟨[(0, 0)], [], [], false⟩) (own := []) (ps := [y1.1 = y1.1, s3.1 = s3.1, s3.2.1 = s3.2.1, s3.2.2.1 = s3.2.2.1, r11 = r11, q16 = (cut (List.getD y1.1 (Int.toNat s3.2.2.1) ([] : List UInt8)) (wadd .i64 r11 (1 : Int)) (lenI (List.getD y1.1 (Int.toNat s3.2.2.1) ([] : List UInt8)))), s3.2.2.2 = s3.2.2.2]) (st' := ⟨[(4, .one (.dat (.sl .str) y1.1)), (6, aV 0), (7, iV s3.1), (8, iV s3.2.1), (9, iV s3.2.2.1), (10, iV r11), (11, .one (.dat .str q16))], [(0, .seq .str s3.2.2.2)], 1⟩) hO (fun h => by cases h) (by kernel_rfl) ⟨rfl, rfl, rfl, rfl, rfl, hq17, rfl, trivial⟩).ht ?_
          obtain ⟨y18, hc19, hx7⟩ := of_bind hx7
          refine HT.rg2 [oH, oH, ⟨none, .call [.imm tI, .imm .str] [⟨false, tI, y18⟩] []⟩, oH] ⟨[(4, .one (.dat (.sl .str) y1.1)), (6, aV 0), (7, iV y18), (8, iV s3.2.1), (9, iV s3.2.2.1), (10, iV r11), (11, .one (.dat .str q16))], [(0, .seq .str s3.2.2.2)], 1⟩ hX (by kernel_rfl) (allCons (f103_ok hc19) allNil) ?_
          refine HT.seq ?_
          obtain ⟨hg20, hx7⟩ := of_guard hx7
          obtain ⟨y21, hc22, hx7⟩ := of_bind hx7
          refine HT.dr2 8 [⟨oH, []⟩, ⟨oH, []⟩, ⟨oH, [0, 1]⟩, ⟨oH, [0, 1, 2]⟩, ⟨oH, []⟩, ⟨oH, [0, 1, 2, 3, 4]⟩, ⟨oH, []⟩, ⟨⟨none, .call [.imm tI] [⟨false, .str, y21⟩] []⟩, [6]⟩] [[0, 1, 2, 3, 4, 5, 6, 7]] [oH] ⟨[(4, .one (.dat (.sl .str) y1.1)), (6, aV 0), (7, iV y18), (8, iV s3.2.1), (9, iV s3.2.2.1), (11, .one (.dat .str q16)), (67, bV ((cut (List.getD y1.1 (Int.toNat s3.2.2.1) ([] : List UInt8)) (0 : Int) r11) != y21))], [(0, .seq .str s3.2.2.2)], 1⟩ hX (by kernel_rfl) (by kernel_rfl) (allCons hg13 (allCons (show (0 : Int) ≤ 0 ∧ (0 : Int) ≤ r11 ∧ r11 ≤ lenI (List.getD y1.1 (Int.toNat s3.2.2.1) ([] : List UInt8)) from ⟨Int.le_refl _, hg20.1, hg20.2⟩) (allCons (f104_ok hc22) allNil))) ?_
          rcases of_bif hx7 with ⟨hb23, hx7⟩ | ⟨hb23, hx7⟩
          · refine HT.cond1 rfl hb23 ?_
            have hx7 := of_some hx7
            subst hx7
            exact HT.exitL (Le.re [(0, 0)] [] hX (by kernel_rfl)) (qThenE (qBlockE rfl (qThenE (qLoopE (hk8 (s3.2.1, s3.2.2.2) rfl)))))
          · refine HT.cond0 rfl hb23 ?_
            refine HT.skip (qThen ?_)
            obtain ⟨hg24, hx7⟩ := of_guard hx7
            refine HT.rg2 [oH, oH, ⟨none, .ty .str⟩, ⟨none, .ty .str⟩, oH] ⟨[(4, .one (.dat (.sl .str) y1.1)), (6, aV 2), (7, iV y18), (8, iV s3.2.1), (9, iV s3.2.2.1)], [(2, .seq .str (s3.2.2.2 ++ ([q16] : List (List UInt8))))], 3⟩ hX (by kernel_rfl) (allCons hg24 allNil) ?_
            refine HT.rgL (oHs 9) ⟨[(4, .one (.dat (.sl .str) y1.1)), (6, aV 2), (7, iV y18), (8, iV (wadd .i64 s3.2.1 (wadd .i64 (lenI (List.getD y1.1 (Int.toNat s3.2.2.1) ([] : List UInt8))) (1 : Int)))), (9, iV s3.2.2.1)], [(2, .seq .str (s3.2.2.2 ++ ([q16] : List (List UInt8))))], 3⟩ hX (by kernel_rfl) (allCons hg13 allNil) (qBlock (qThen ?_))
            have hx7 := of_some hx7
            subst hx7
            exact HT.rgK (oHs 3) [(2, 0)] [] hX (by kernel_rfl) allNil (fun _ h => (qLoopN ⟨(y18, (wadd .i64 s3.2.1 (wadd .i64 (lenI (List.getD y1.1 (Int.toNat s3.2.2.1) ([] : List UInt8))) (1 : Int))), (wadd .i64 s3.2.2.1 (1 : Int)), (s3.2.2.2 ++ ([q16] : List (List UInt8)))), rfl, h⟩))
      · refine HT.seq ?_
        obtain ⟨v28', hT30, hx26⟩ := of_bind hx26
        refine HT.join (fun (v28 : Bool) => ⟨[(4, .one (.dat (.sl .str) y1.1)), (6, aV 0), (7, iV s3.1), (8, iV s3.2.1), (9, iV s3.2.2.1), (10, iV s10), (39, bV v28)], [(0, .seq .str s3.2.2.2)], 1⟩) (fun v => v = v28') (fun v28 hv29 => ?_) (fun cont => ?_)
        · subst hv29
          rcases of_bif hx26 with ⟨hb31, hx26⟩ | ⟨hb31, hx26⟩
          · refine HT.cond1 rfl hb31 ?_
            refine HT.skip (qThen ?_)
            refine HT.block ?_
            have hx26 := of_some hx26
            subst hx26
            exact HT.rgK (oHs 3) [(0, 0)] [] hX (by kernel_rfl) allNil (fun _ h => (qBlock (qLoopN ⟨(wadd .i64 s10 (1 : Int)), rfl, h⟩)))
          · refine HT.cond0 rfl hb31 ?_
            have hx26 := of_some hx26
            subst hx26
            exact HT.exitL (Le.re [(0, 0)] [] hX (by kernel_rfl)) (qThenE (qLoopE (hk27 s10 rfl)))
        · obtain ⟨hg32, hT30⟩ := of_guard hT30
          rcases of_bif hT30 with ⟨hb33, hT30⟩ | ⟨hb33, hT30⟩
          · obtain ⟨hg34, hT30⟩ := of_guard hT30
            exact HT.rgK [oH, oH, oH, oH, oH, oH, oH, oH, ⟨some true, .no⟩, ⟨some true, .no⟩, ⟨some true, .no⟩, ⟨some true, .no⟩, ⟨some true, .no⟩, ⟨some true, .no⟩, ⟨some true, .no⟩, ⟨none, .tv true⟩] [(0, 0)] [] hX (by kernel_rfl) (allCons hg32 (allCons hb33 (allCons hb33 (allCons hb33 (allCons hg32 (allCons hb33 (allCons hb33 (allCons hb33 (allCons hg34 (allCons hb33 (allCons hb33 allNil))))))))))) (fun _ h => (qThen (h.ht (cont (((((List.getD (List.getD y1.1 (Int.toNat s3.2.2.1) ([] : List UInt8)) (Int.toNat s10) 0 : UInt8).toNat : Nat)) : Int) != (32 : Int)) (of_some hT30)))))
          · exact HT.rgK [oH, oH, oH, oH, oH, oH, oH, oH, ⟨some false, .no⟩, ⟨some false, .no⟩, ⟨some false, .no⟩, ⟨some false, .no⟩, ⟨some false, .no⟩, ⟨some false, .no⟩, ⟨some false, .no⟩, ⟨none, .tv false⟩] [(0, 0)] [] hX (by kernel_rfl) (allCons hg32 (allCons hb33 (allCons hb33 (allCons hb33 (allCons hb33 (allCons hb33 (allCons hb33 (allCons hb33 (allCons hb33 allNil))))))))) (fun _ h => (qThen (h.ht (cont false (of_some hT30)))))
    · refine HT.cond0 rfl hb9 ?_
      have hx7 := of_some hx7
      subst hx7
      exact HT.exitL (Le.re [(0, 0)] [] hX (by kernel_rfl)) (qThenE (qLoopE (hk8 (s3.2.1, s3.2.2.2) rfl)))

noncomputable def spec_RecoverJournal (a0 : List UInt8) : Option (List (List UInt8) × Int × Bool) :=
  bif (decide ((lenI a0) > (16000 : Int))) then
    some (([] : List (List UInt8)), (0 : Int), false)
  else
    (spec_l08Recover a0).bind fun y2 =>
    some (y2.1, y2.2, true)

theorem f17_ok {a0 : List UInt8} {r : List (List UInt8) × Int × Bool} (hr : spec_RecoverJournal a0 = some r) : CallOK Tryd.prog 17 [.imm .str a0] [⟨true, (.sl .str), r.1⟩, ⟨false, tI, r.2.1⟩, ⟨false, .bool, r.2.2⟩] [] := by
  unfold spec_RecoverJournal at hr
  refine CallOK.of_body (ts := [(true, (.sl .str)), (false, tI), (false, .bool)]) Tryd.func17 rfl (by kernel_rfl) (Nat.le_of_ble_eq_true (by kernel_rfl)) fun cx hP hN hO hF => ?_
  have hO : cx.own.map Prod.fst = [] := hO
  have hX := CxIs.mk hP hN hO
  have hF := hF rfl
  show HT cx ⟨[(0, .one (.dat .str a0))], [], 0⟩ _ _
  refine HT.rg2 (oHs 3) ⟨[(0, .one (.dat .str a0))], [], 0⟩ hX (by kernel_rfl) allNil ?_
  refine HT.seq ?_
  refine HT.rg2 (oHs 3) ⟨[(0, .one (.dat .str a0)), (9, bV (decide ((lenI a0) > (16000 : Int))))], [], 0⟩ hX (by kernel_rfl) allNil ?_
  rcases of_bif hr with ⟨hb1, hr⟩ | ⟨hb1, hr⟩
  · refine HT.cond1 rfl hb1 ?_
    refine HT.rg2 (oHs 3) ⟨[(2, .one (.nilS)), (3, iV (0 : Int)), (4, bV false)], [], 0⟩ hX (by kernel_rfl) allNil ?_
    have hr := of_some hr
    subst hr
    exact HT.ret (qThenR ⟨[.one (.nilS), iV (0 : Int), bV false], [], [], by kernel_rfl, by kernel_rfl, rfl, by kernel_rfl, by kernel_rfl, trivial⟩)
  · refine HT.cond0 rfl hb1 ?_
    refine HT.skip (qThen ?_)
    obtain ⟨y2, hc3, hr⟩ := of_bind hr
    refine HT.rg2 [oH, ⟨none, .call [.imm .str] [⟨true, (.sl .str), y2.1⟩, ⟨false, tI, y2.2⟩] []⟩, oH, oH, oH, oH, oH] ⟨[(5, aV 0), (6, iV y2.2)], [(0, .seq .str y2.1)], 1⟩ hX (by kernel_rfl) (allCons (f57_ok hc3) allNil) ?_
    refine HT.rg2 (oHs 5) ⟨[(2, aV 0), (3, iV y2.2), (4, bV true)], [(0, .seq .str y2.1)], 1⟩ hX (by kernel_rfl) allNil ?_
    have hr := of_some hr
    subst hr
    exact HT.ret ⟨[aV 0, iV y2.2, bV true], [0], [], by kernel_rfl, by kernel_rfl, rfl, by kernel_rfl, by kernel_rfl, trivial⟩

noncomputable def strings_IndexByte (a0 : List UInt8) (a1 : Int) : Option (Int) :=
  some (Lib.indexByte a0 (Int.toNat a1).toUInt8)

theorem f109_ok {a0 : List UInt8} {a1 : Int} {r : Int} (h : strings_IndexByte a0 a1 = some r) : CallOK Tryd.prog 109 [.imm .str a0, .imm (.int .u8) a1] [⟨false, tI, r⟩] [] := by
  have h := of_some h
  subst h
  exact simple_ok (ps := [⟨.str, a0⟩, ⟨(.int .u8), a1⟩]) (rs := [⟨tI, Lib.indexByte a0 (Int.toNat a1).toUInt8⟩]) ⟨_, Tryd.func109, by kernel_rfl, by kernel_rfl⟩ (by simp [Ty.simple]) (by simp [Ty.simple]) fun w S hgl => by
    have hm : ∃ m, w.cell? ⟨0, 0, none⟩ = some (.int .i64 m) := hgl.1.2
    obtain ⟨m, hm⟩ := hm
    obtain ⟨_, t, fr, ht⟩ := hgl.2
    exact (Tryd.strings_IndexByte ⟨a0.toArray⟩ _ w).mono fun e w' ⟨he, hw⟩ => ⟨⟨_, he, rfl⟩, hw ▸ RowKit.Below.refl _ _⟩

noncomputable def strings_Cut (a0 : List UInt8) (a1 : List UInt8) : Option (List UInt8 × List UInt8 × Bool) :=
  guardP (a0.length < 4294967281) <| some ((Lib.cut a0 a1).1, (Lib.cut a0 a1).2.1, (Lib.cut a0 a1).2.2)

theorem f110_ok {a0 : List UInt8} {a1 : List UInt8} {r : List UInt8 × List UInt8 × Bool} (h : strings_Cut a0 a1 = some r) : CallOK Tryd.prog 110 [.imm .str a0, .imm .str a1] [⟨false, .str, r.1⟩, ⟨false, .str, r.2.1⟩, ⟨false, .bool, r.2.2⟩] [] := by
  obtain ⟨hg, h⟩ := of_guard h
  have h := of_some h
  subst h
  exact simple_ok (ps := [⟨.str, a0⟩, ⟨.str, a1⟩]) (rs := [⟨.str, (Lib.cut a0 a1).1⟩, ⟨.str, (Lib.cut a0 a1).2.1⟩, ⟨.bool, (Lib.cut a0 a1).2.2⟩]) ⟨_, Tryd.func110, by kernel_rfl, by kernel_rfl⟩ (by simp [Ty.simple]) (by simp [Ty.simple]) fun w S hgl => by
    have hm : ∃ m, w.cell? ⟨0, 0, none⟩ = some (.int .i64 m) := hgl.1.2
    obtain ⟨m, hm⟩ := hm
    obtain ⟨_, t, fr, ht⟩ := hgl.2
    exact (Tryd.strings_Cut ⟨a0.toArray⟩ ⟨a1.toArray⟩ m w hg hm).mono fun e w' ⟨he, k, hw⟩ => ⟨⟨_, he, rfl⟩, hw ▸ ⟨rfl, rfl, rfl, Nat.le_refl _, fun _ _ => rfl⟩⟩

noncomputable def impl_within (a0 : Int) (a1 : Int) (a2 : Int) : Option (Bool) :=
  (show Option (Bool) from
    bif (decide (a0 ≥ a1)) then
      some (decide (a0 ≤ a2))
    else
      some false).bind fun v1 =>
  some v1

theorem f106_ok {a0 : Int} {a1 : Int} {a2 : Int} {r : Bool} (hr : impl_within a0 a1 a2 = some r) : CallOK Tryd.prog 106 [.imm tI a0, .imm tI a1, .imm tI a2] [⟨false, .bool, r⟩] [] := by
  unfold impl_within at hr
  refine CallOK.of_body (ts := [(false, .bool)]) Tryd.func106 rfl (by kernel_rfl) (Nat.le_of_ble_eq_true (by kernel_rfl)) fun cx hP hN hO hF => ?_
  have hO : cx.own.map Prod.fst = [] := hO
  have hX := CxIs.mk hP hN hO
  have hF := hF rfl
  show HT cx ⟨[(0, iV a0), (1, iV a1), (2, iV a2)], [], 0⟩ _ _
  refine HT.rg2 [oH] ⟨[(0, iV a0), (1, iV a1), (2, iV a2)], [], 0⟩ hX (by kernel_rfl) allNil ?_
  obtain ⟨v1', hT3, hr⟩ := of_bind hr
  refine HT.join (fun (v1 : Bool) => ⟨[(6, bV v1)], [], 0⟩) (fun v => v = v1') (fun v1 hv2 => ?_) (fun cont => ?_)
  · subst hv2
    have hr := of_some hr
    subst hr
    exact HT.ret ⟨[bV v1], [], [], by kernel_rfl, by kernel_rfl, rfl, by kernel_rfl, by kernel_rfl, trivial⟩
  · rcases of_bif hT3 with ⟨hb4, hT3⟩ | ⟨hb4, hT3⟩
    · exact HT.rgK [oH, oH, oH, oH, ⟨some true, .no⟩, ⟨some true, .no⟩, ⟨some true, .no⟩, ⟨none, .tv true⟩, oH] [] [] hX (by kernel_rfl) (allCons hb4 (allCons hb4 (allCons hb4 (allCons hb4 allNil)))) (fun _ h => (qThen (h.ht (cont (decide (a0 ≤ a2)) (of_some hT3)))))
    · exact HT.rgK [oH, oH, oH, oH, ⟨some false, .no⟩, ⟨some false, .no⟩, ⟨some false, .no⟩, ⟨none, .tv false⟩, oH] [] [] hX (by kernel_rfl) (allCons hb4 (allCons hb4 (allCons hb4 (allCons hb4 allNil)))) (fun _ h => (qThen (h.ht (cont false (of_some hT3)))))

noncomputable def impl_CheckOf_B1 (a1 : List UInt8) (s4 : Int × Int) : Option ((Int × Int) ⊕ (Int)) :=
  bif (decide (s4.2 < (lenI a1))) then
    guardP ((0 : Int) ≤ s4.2 ∧ s4.2 < lenI a1) (
      some (.inl ((Int.tmod (wadd .i64 (wadd .i64 (wmul .i64 (919 : Int) s4.1) (IntKind.wrap .i64 ((((List.getD a1 (Int.toNat s4.2) 0 : UInt8).toNat : Nat)) : Int))) (191 : Int)) (65003 : Int)), (wadd .i64 s4.2 (1 : Int)))))
  else
    some (.inr s4.1)

noncomputable def impl_CheckOf (a0 : Int) (a1 : List UInt8) : Option (Int × Bool) :=
  (impl_within a0 (0 : Int) (65002 : Int)).bind fun y1 =>
  bif (!y1) then
    some ((0 : Int), false)
  else
    (rounds (impl_CheckOf_B1 a1) (a0, (0 : Int))).bind fun r6 =>
    some (r6, true)

theorem f52_ok {a0 : Int} {a1 : List UInt8} {r : Int × Bool} (hr : impl_CheckOf a0 a1 = some r) : CallOK Tryd.prog 52 [.imm tI a0, .imm .str a1] [⟨false, tI, r.1⟩, ⟨false, .bool, r.2⟩] [] := by
  unfold impl_CheckOf at hr
  refine CallOK.of_body (ts := [(false, tI), (false, .bool)]) Tryd.func52 rfl (by kernel_rfl) (Nat.le_of_ble_eq_true (by kernel_rfl)) fun cx hP hN hO hF => ?_
  have hO : cx.own.map Prod.fst = [] := hO
  have hX := CxIs.mk hP hN hO
  have hF := hF rfl
  show HT cx ⟨[(0, iV a0), (1, .one (.dat .str a1))], [], 0⟩ _ _
  refine HT.rg2 (oHs 2) ⟨[(0, iV a0), (1, .one (.dat .str a1))], [], 0⟩ hX (by kernel_rfl) allNil ?_
  refine HT.seq ?_
  obtain ⟨y1, hc2, hr⟩ := of_bind hr
  refine HT.rg2 [oH, ⟨none, .call [.imm tI, .imm tI, .imm tI] [⟨false, .bool, y1⟩] []⟩, oH] ⟨[(0, iV a0), (1, .one (.dat .str a1)), (9, bV (!y1))], [], 0⟩ hX (by kernel_rfl) (allCons (f106_ok hc2) allNil) ?_
  rcases of_bif hr with ⟨hb3, hr⟩ | ⟨hb3, hr⟩
  · refine HT.cond1 rfl hb3 ?_
    refine HT.rg2 (oHs 2) ⟨[(4, iV (0 : Int)), (5, bV false)], [], 0⟩ hX (by kernel_rfl) allNil ?_
    have hr := of_some hr
    subst hr
    exact HT.ret (qThenR ⟨[iV (0 : Int), bV false], [], [], by kernel_rfl, by kernel_rfl, rfl, by kernel_rfl, by kernel_rfl, trivial⟩)
  · refine HT.cond0 rfl hb3 ?_
    refine HT.skip (qThen ?_)
    refine HT.seq ?_
    refine HT.rg2 (oHs 3) ⟨[(0, iV a0), (1, .one (.dat .str a1)), (11, iV (lenI a1)), (12, iV (0 : Int))], [], 0⟩ hX (by kernel_rfl) allNil ?_
    refine HT.block ?_
    obtain ⟨r5, hL12, hr⟩ := of_bind hr
    refine HT.loopL (fun (s4 : Int × Int) => ⟨[(0, iV s4.1), (1, .one (.dat .str a1)), (11, iV (lenI a1)), (12, iV s4.2)], [], 0⟩) (fun (r6 : Int) => (.exit 0, ⟨[(0, iV r6)], [], 0⟩)) (Le.re [] [] hX (by kernel_rfl)) hL12 ?_ (fun s4 x7 hx8 hk9 => ?_)
    · refine (qBlockX (qThen ?_))
      refine HT.rg2 (oHs 3) ⟨[(4, iV r5), (5, bV true)], [], 0⟩ hX (by kernel_rfl) allNil ?_
      have hr := of_some hr
      subst hr
      exact HT.ret ⟨[iV r5, bV true], [], [], by kernel_rfl, by kernel_rfl, rfl, by kernel_rfl, by kernel_rfl, trivial⟩
    · refine HT.rg2 [oH] ⟨[(0, iV s4.1), (1, .one (.dat .str a1)), (11, iV (lenI a1)), (12, iV s4.2), (13, bV (decide (s4.2 < (lenI a1))))], [], 0⟩ hX (by kernel_rfl) allNil ?_
      refine HT.seq ?_
      rcases of_bif hx8 with ⟨hb10, hx8⟩ | ⟨hb10, hx8⟩
      · refine HT.cond1 rfl hb10 ?_
        refine HT.skip (qThen ?_)
        refine HT.seq ?_
        refine HT.block ?_
        refine HT.rg2 (oHs 2) ⟨[(0, iV s4.1), (1, .one (.dat .str a1)), (6, iV s4.2), (11, iV (lenI a1)), (12, iV s4.2)], [], 0⟩ hX (by kernel_rfl) allNil ?_
        obtain ⟨hg11, hx8⟩ := of_guard hx8
        refine HT.rgL (oHs 10) ⟨[(0, iV (Int.tmod (wadd .i64 (wadd .i64 (wmul .i64 (919 : Int) s4.1) (IntKind.wrap .i64 ((((List.getD a1 (Int.toNat s4.2) 0 : UInt8).toNat : Nat)) : Int))) (191 : Int)) (65003 : Int))), (1, .one (.dat .str a1)), (11, iV (lenI a1)), (12, iV s4.2)], [], 0⟩ hX (by kernel_rfl) (allCons hg11 (allCons (show (65003 : Int) ≠ 0 from by decide) allNil)) (qBlock (qThen ?_))
        have hx8 := of_some hx8
        subst hx8
        exact HT.rgK (oHs 2) [] [] hX (by kernel_rfl) allNil (fun _ h => (qLoopN ⟨((Int.tmod (wadd .i64 (wadd .i64 (wmul .i64 (919 : Int) s4.1) (IntKind.wrap .i64 ((((List.getD a1 (Int.toNat s4.2) 0 : UInt8).toNat : Nat)) : Int))) (191 : Int)) (65003 : Int)), (wadd .i64 s4.2 (1 : Int))), rfl, h⟩))
      · refine HT.cond0 rfl hb10 ?_
        have hx8 := of_some hx8
        subst hx8
        exact HT.exitL (Le.re [] [] hX (by kernel_rfl)) (qThenE (qLoopE (hk9 s4.1 rfl)))

theorem tabPow {w : World} {t : TypeId} {fr : Nat × Nat} (h : w.heap[1]? = some (.cells pow10Cells t fr)) : Lib.TabIs Tryd.prog w "internal/strconv.uint64pow10" .u64 Lib.pow10Tab := by
  unfold Lib.TabIs World.var?
  rw [show Tryd.prog.globalNamed "internal/strconv.uint64pow10" = some 1 by kernel_rfl, Option.bind_some, h]
  unfold pow10Cells Lib.pow10Tab
  rw [List.map_map]
  rfl

noncomputable def strconv_FormatInt (a0 : Int) (a1 : Int) : Option (List UInt8) :=
  guardP (a1 = 10 ∧ -9223372036854775808 ≤ a0 ∧ a0 ≤ 9223372036854775807) <| some (Lib.itoa a0)

theorem f108_ok {a0 : Int} {a1 : Int} {r : List UInt8} (h : strconv_FormatInt a0 a1 = some r) : CallOK Tryd.prog 108 [.imm tI a0, .imm tI a1] [⟨false, .str, r⟩] [] := by
  obtain ⟨hg, h⟩ := of_guard h
  have h := of_some h
  subst h
  obtain ⟨rfl, hg⟩ := hg
  have hg : True ∧ _ := ⟨trivial, hg⟩
  exact simple_ok (ps := [⟨tI, a0⟩, ⟨tI, 10⟩]) (rs := [⟨.str, Lib.itoa a0⟩]) ⟨_, Tryd.func108, by kernel_rfl, by kernel_rfl⟩ (by simp [Ty.simple]) (by simp [Ty.simple]) fun w S hgl => by
    have hm : ∃ m, w.cell? ⟨0, 0, none⟩ = some (.int .i64 m) := hgl.1.2
    obtain ⟨m, hm⟩ := hm
    obtain ⟨_, t, fr, ht⟩ := hgl.2
    exact (Tryd.strconv_FormatInt_10 _ hg.2.1 hg.2.2 w (tabPow ht)).mono fun e w' ⟨he, k, os, hw⟩ => ⟨⟨_, he, rfl⟩, hw ▸ Lib.below_grow _ _ (Nat.le_refl _) k os⟩

noncomputable def impl_Decimal (a0 : Int) : Option (List UInt8) :=
  (strconv_FormatInt a0 (10 : Int)).bind fun y1 =>
  some y1

theorem f54_ok {a0 : Int} {r : List UInt8} (hr : impl_Decimal a0 = some r) : CallOK Tryd.prog 54 [.imm tI a0] [⟨false, .str, r⟩] [] := by
  unfold impl_Decimal at hr
  refine CallOK.of_body (ts := [(false, .str)]) Tryd.func54 rfl (by kernel_rfl) (Nat.le_of_ble_eq_true (by kernel_rfl)) fun cx hP hN hO hF => ?_
  have hO : cx.own.map Prod.fst = [] := hO
  have hX := CxIs.mk hP hN hO
  have hF := hF rfl
  show HT cx ⟨[(0, iV a0)], [], 0⟩ _ _
  refine HT.rg2 [oH] ⟨[(0, iV a0)], [], 0⟩ hX (by kernel_rfl) allNil ?_
  obtain ⟨y1, hc2, hr⟩ := of_bind hr
  refine HT.rg2 [oH, ⟨none, .call [.imm tI, .imm tI] [⟨false, .str, y1⟩] []⟩, oH] ⟨[(2, .one (.dat .str y1))], [], 0⟩ hX (by kernel_rfl) (allCons (f108_ok hc2) allNil) ?_
  have hr := of_some hr
  subst hr
  exact HT.ret ⟨[.one (.dat .str y1)], [], [], by kernel_rfl, by kernel_rfl, rfl, by kernel_rfl, by kernel_rfl, trivial⟩

noncomputable def impl_recovered_B1 (a0 : List UInt8) (s1 : Int × Int × List (List UInt8)) : Option ((Int × Int × List (List UInt8)) ⊕ ((Int × List (List UInt8)))) :=
  guardP ((0 : Int) ≤ s1.2.1 ∧ s1.2.1 ≤ lenI a0) (
    (strings_IndexByte (cut a0 s1.2.1 (lenI a0)) (10 : Int)).bind fun y8 =>
    bif (decide (y8 < (0 : Int))) then
      some (.inr (s1.2.1, s1.2.2))
    else
      guardP ((0 : Int) ≤ s1.2.1 ∧ s1.2.1 ≤ (wadd .i64 s1.2.1 y8) ∧ (wadd .i64 s1.2.1 y8) ≤ lenI a0) (
        (strings_Cut (cut a0 s1.2.1 (wadd .i64 s1.2.1 y8)) ([32] : List UInt8)).bind fun y12 =>
        (impl_CheckOf s1.1 y12.2.1).bind fun y14 =>
        (show Option (Bool) from
          bif (!y12.2.2) then
            some true
          else
            (impl_Decimal y14.1).bind fun y22 =>
            some (y12.1 != y22)).bind fun v16 =>
        bif v16 then
          some (.inr (s1.2.1, s1.2.2))
        else
          guardP (List.length s1.2.2 + List.length ([y12.2.1] : List (List UInt8)) ≤ appMax) (
            some (.inl (y14.1, (wadd .i64 s1.2.1 (wadd .i64 y8 (1 : Int))), (s1.2.2 ++ ([y12.2.1] : List (List UInt8))))))))

noncomputable def impl_recovered (a0 : List UInt8) : Option (List (List UInt8) × Int) :=
  (rounds (impl_recovered_B1 a0) ((0 : Int), (0 : Int), ([] : List (List UInt8)))).bind fun r3 =>
  some (r3.2, r3.1)

theorem f58_ok {a0 : List UInt8} {r : List (List UInt8) × Int} (hr : impl_recovered a0 = some r) : CallOK Tryd.prog 58 [.imm .str a0] [⟨true, (.sl .str), r.1⟩, ⟨false, tI, r.2⟩] [] := by
  unfold impl_recovered at hr
  refine CallOK.of_body (ts := [(true, (.sl .str)), (false, tI)]) Tryd.func58 rfl (by kernel_rfl) (Nat.le_of_ble_eq_true (by kernel_rfl)) fun cx hP hN hO hF => ?_
  have hO : cx.own.map Prod.fst = [] := hO
  have hX := CxIs.mk hP hN hO
  have hF := hF rfl
  show HT cx ⟨[(0, .one (.dat .str a0))], [], 0⟩ _ _
  refine HT.rg2 (oHs 2) ⟨[(0, .one (.dat .str a0))], [], 0⟩ hX (by kernel_rfl) allNil ?_
  refine HT.rg2 (oHs 2) ⟨[(0, .one (.dat .str a0)), (4, .one (.nilS))], [], 0⟩ hX (by kernel_rfl) allNil ?_
  refine HT.rg2 [oH] ⟨[(0, .one (.dat .str a0)), (4, .one (.nilS)), (5, iV (0 : Int))], [], 0⟩ hX (by kernel_rfl) allNil ?_
  refine HT.rg2 [oH] ⟨[(0, .one (.dat .str a0)), (4, .one (.nilS)), (5, iV (0 : Int)), (6, iV (0 : Int))], [], 0⟩ hX (by kernel_rfl) allNil ?_
  refine HT.block ?_
  obtain ⟨r2, hL24, hr⟩ := of_bind hr
  refine HT.loopL (fun (s1 : Int × Int × List (List UInt8)) => ⟨[(0, .one (.dat .str a0)), (4, aV 0), (5, iV s1.1), (6, iV s1.2.1)], [(0, .seq .str s1.2.2)], 1⟩) (fun (r3 : (Int × List (List UInt8))) => (.ret, ⟨[(2, aV 0), (3, iV r3.1)], [(0, .seq .str r3.2)], 1⟩)) (Le.re [] [0] hX (by kernel_rfl)) hL24 ?_ (fun s1 x4 hx5 hk6 => ?_)
  · have hr := of_some hr
    subst hr
    exact (qBlockR ⟨[aV 0, iV r2.1], [0], [], by kernel_rfl, by kernel_rfl, rfl, by kernel_rfl, by kernel_rfl, trivial⟩)
  · refine HT.block ?_
    obtain ⟨hg7, hx5⟩ := of_guard hx5
    obtain ⟨y8, hc9, hx5⟩ := of_bind hx5
    refine HT.rg2 [oH, oH, oH, ⟨none, .call [.imm .str, .imm (.int .u8)] [⟨false, tI, y8⟩] []⟩, oH] ⟨[(0, .one (.dat .str a0)), (4, aV 0), (5, iV s1.1), (6, iV s1.2.1), (7, iV y8)], [(0, .seq .str s1.2.2)], 1⟩ hX (by kernel_rfl) (allCons (show (0 : Int) ≤ s1.2.1 ∧ s1.2.1 ≤ lenI a0 ∧ lenI a0 ≤ lenI a0 from ⟨hg7.1, hg7.2, Int.le_refl _⟩) (allCons (f109_ok hc9) allNil)) ?_
    refine HT.seq ?_
    refine HT.rg2 (oHs 2) ⟨[(0, .one (.dat .str a0)), (4, aV 0), (5, iV s1.1), (6, iV s1.2.1), (7, iV y8), (19, bV (decide (y8 < (0 : Int))))], [(0, .seq .str s1.2.2)], 1⟩ hX (by kernel_rfl) allNil ?_
    rcases of_bif hx5 with ⟨hb10, hx5⟩ | ⟨hb10, hx5⟩
    · refine HT.cond1 rfl hb10 ?_
      refine HT.rg2 (oHs 4) ⟨[(2, aV 0), (3, iV s1.2.1)], [(0, .seq .str s1.2.2)], 1⟩ hX (by kernel_rfl) allNil ?_
      have hx5 := of_some hx5
      subst hx5
      exact HT.retL (Le.re [(0, 0)] [] hX (by kernel_rfl)) (qThenR (qBlockR (qLoopR (hk6 (s1.2.1, s1.2.2) rfl))))
    · refine HT.cond0 rfl hb10 ?_
      refine HT.skip (qThen ?_)
      obtain ⟨hg11, hx5⟩ := of_guard hx5
      obtain ⟨y12, hc13, hx5⟩ := of_bind hx5
      refine HT.rg2 [oH, oH, oH, oH, oH, oH, ⟨none, .call [.imm .str, .imm .str] [⟨false, .str, y12.1⟩, ⟨false, .str, y12.2.1⟩, ⟨false, .bool, y12.2.2⟩] []⟩, oH, oH, oH, oH, oH, oH, oH] ⟨[(0, .one (.dat .str a0)), (4, aV 0), (5, iV s1.1), (6, iV s1.2.1), (7, iV y8), (8, .one (.dat .str y12.1)), (9, .one (.dat .str y12.2.1)), (10, bV y12.2.2)], [(0, .seq .str s1.2.2)], 1⟩ hX (by kernel_rfl) (allCons hg11 (allCons (f110_ok hc13) allNil)) ?_
      obtain ⟨y14, hc15, hx5⟩ := of_bind hx5
      refine HT.rg2 [oH, oH, ⟨none, .call [.imm tI, .imm .str] [⟨false, tI, y14.1⟩, ⟨false, .bool, y14.2⟩] []⟩, oH, oH, oH, oH, oH] ⟨[(0, .one (.dat .str a0)), (4, aV 0), (6, iV s1.2.1), (7, iV y8), (8, .one (.dat .str y12.1)), (9, .one (.dat .str y12.2.1)), (10, bV y12.2.2), (11, iV y14.1)], [(0, .seq .str s1.2.2)], 1⟩ hX (by kernel_rfl) (allCons (f52_ok hc15) allNil) ?_
      refine HT.seq ?_
      obtain ⟨v16', hT18, hx5⟩ := of_bind hx5
      refine HT.join (fun (v16 : Bool) => ⟨[(0, .one (.dat .str a0)), (4, aV 0), (6, iV s1.2.1), (7, iV y8), (9, .one (.dat .str y12.2.1)), (11, iV y14.1), (46, bV v16)], [(0, .seq .str s1.2.2)], 1⟩) (fun v => v = v16') (fun v16 hv17 => ?_) (fun cont => ?_)
      · subst hv17
        rcases of_bif hx5 with ⟨hb19, hx5⟩ | ⟨hb19, hx5⟩
        · refine HT.cond1 rfl hb19 ?_
          refine HT.rg2 (oHs 4) ⟨[(2, aV 0), (3, iV s1.2.1)], [(0, .seq .str s1.2.2)], 1⟩ hX (by kernel_rfl) allNil ?_
          have hx5 := of_some hx5
          subst hx5
          exact HT.retL (Le.re [(0, 0)] [] hX (by kernel_rfl)) (qThenR (qBlockR (qLoopR (hk6 (s1.2.1, s1.2.2) rfl))))
        · refine HT.cond0 rfl hb19 ?_
          refine HT.skip (qThen ?_)
          obtain ⟨hg20, hx5⟩ := of_guard hx5
          refine HT.rg2 [oH, oH, ⟨none, .ty .str⟩, ⟨none, .ty .str⟩, oH] ⟨[(0, .one (.dat .str a0)), (4, aV 2), (6, iV s1.2.1), (7, iV y8), (11, iV y14.1)], [(2, .seq .str (s1.2.2 ++ ([y12.2.1] : List (List UInt8))))], 3⟩ hX (by kernel_rfl) (allCons hg20 allNil) ?_
          refine HT.rg2 (oHs 2) ⟨[(0, .one (.dat .str a0)), (4, aV 2), (5, iV y14.1), (6, iV s1.2.1), (7, iV y8)], [(2, .seq .str (s1.2.2 ++ ([y12.2.1] : List (List UInt8))))], 3⟩ hX (by kernel_rfl) allNil ?_
          have hx5 := of_some hx5
          subst hx5
          exact HT.rgK (oHs 5) [(2, 0)] [] hX (by kernel_rfl) allNil (fun _ h => (qBlock (qLoopN ⟨(y14.1, (wadd .i64 s1.2.1 (wadd .i64 y8 (1 : Int))), (s1.2.2 ++ ([y12.2.1] : List (List UInt8)))), rfl, h⟩)))
      · rcases of_bif hT18 with ⟨hb21, hT18⟩ | ⟨hb21, hT18⟩
        · exact HT.rgK [oH, oH, oH, ⟨some true, .no⟩, ⟨some true, .no⟩, ⟨some true, .no⟩, ⟨some true, .no⟩, ⟨none, .tv true⟩] [(0, 0)] [] hX (by kernel_rfl) (allCons hb21 (allCons hb21 (allCons hb21 (allCons hb21 (allCons hb21 allNil))))) (fun _ h => (qThen (h.ht (cont true (of_some hT18)))))
        · obtain ⟨y22, hc23, hT18⟩ := of_bind hT18
          exact HT.rgK [oH, oH, oH, ⟨some false, .no⟩, ⟨some false, .no⟩, ⟨some false, .call [.imm tI] [⟨false, .str, y22⟩] []⟩, ⟨some false, .no⟩, ⟨none, .tv false⟩] [(0, 0)] [] hX (by kernel_rfl) (allCons hb21 (allCons hb21 (allCons hb21 (allCons (f54_ok hc23) (allCons hb21 (allCons hb21 allNil)))))) (fun _ h => (qThen (h.ht (cont (y12.1 != y22) (of_some hT18)))))

noncomputable def impl_RecoverJournal (a0 : List UInt8) : Option (List (List UInt8) × Int × Bool) :=
  bif (decide ((lenI a0) > (16000 : Int))) then
    some (([] : List (List UInt8)), (0 : Int), false)
  else
    (impl_recovered a0).bind fun y2 =>
    some (y2.1, y2.2, true)

theorem f18_ok {a0 : List UInt8} {r : List (List UInt8) × Int × Bool} (hr : impl_RecoverJournal a0 = some r) : CallOK Tryd.prog 18 [.imm .str a0] [⟨true, (.sl .str), r.1⟩, ⟨false, tI, r.2.1⟩, ⟨false, .bool, r.2.2⟩] [] := by
  unfold impl_RecoverJournal at hr
  refine CallOK.of_body (ts := [(true, (.sl .str)), (false, tI), (false, .bool)]) Tryd.func18 rfl (by kernel_rfl) (Nat.le_of_ble_eq_true (by kernel_rfl)) fun cx hP hN hO hF => ?_
  have hO : cx.own.map Prod.fst = [] := hO
  have hX := CxIs.mk hP hN hO
  have hF := hF rfl
  show HT cx ⟨[(0, .one (.dat .str a0))], [], 0⟩ _ _
  refine HT.rg2 (oHs 3) ⟨[(0, .one (.dat .str a0))], [], 0⟩ hX (by kernel_rfl) allNil ?_
  refine HT.seq ?_
  refine HT.rg2 (oHs 3) ⟨[(0, .one (.dat .str a0)), (9, bV (decide ((lenI a0) > (16000 : Int))))], [], 0⟩ hX (by kernel_rfl) allNil ?_
  rcases of_bif hr with ⟨hb1, hr⟩ | ⟨hb1, hr⟩
  · refine HT.cond1 rfl hb1 ?_
    refine HT.rg2 (oHs 3) ⟨[(2, .one (.nilS)), (3, iV (0 : Int)), (4, bV false)], [], 0⟩ hX (by kernel_rfl) allNil ?_
    have hr := of_some hr
    subst hr
    exact HT.ret (qThenR ⟨[.one (.nilS), iV (0 : Int), bV false], [], [], by kernel_rfl, by kernel_rfl, rfl, by kernel_rfl, by kernel_rfl, trivial⟩)
  · refine HT.cond0 rfl hb1 ?_
    refine HT.skip (qThen ?_)
    obtain ⟨y2, hc3, hr⟩ := of_bind hr
    refine HT.rg2 [oH, ⟨none, .call [.imm .str] [⟨true, (.sl .str), y2.1⟩, ⟨false, tI, y2.2⟩] []⟩, oH, oH, oH, oH, oH] ⟨[(5, aV 0), (6, iV y2.2)], [(0, .seq .str y2.1)], 1⟩ hX (by kernel_rfl) (allCons (f58_ok hc3) allNil) ?_
    refine HT.rg2 (oHs 5) ⟨[(2, aV 0), (3, iV y2.2), (4, bV true)], [(0, .seq .str y2.1)], 1⟩ hX (by kernel_rfl) allNil ?_
    have hr := of_some hr
    subst hr
    exact HT.ret ⟨[aV 0, iV y2.2, bV true], [0], [], by kernel_rfl, by kernel_rfl, rfl, by kernel_rfl, by kernel_rfl, trivial⟩

noncomputable def laws_markText_B1  (s2 : Int × List UInt8) : Option ((Int × List UInt8) ⊕ (List UInt8)) :=
  bif (decide (s2.1 > (0 : Int))) then
    guardP (List.length (bytesO ([(IntKind.wrap .u8 (wadd .i64 (48 : Int) (Int.tmod s2.1 (10 : Int))))] : List Int)) + List.length s2.2 ≤ appMax) (
      (some ((bytesO ([(IntKind.wrap .u8 (wadd .i64 (48 : Int) (Int.tmod s2.1 (10 : Int))))] : List Int)) ++ s2.2)).bind fun q11 =>
      some (.inl ((IntKind.wrap .i64 (Int.tdiv s2.1 (10 : Int))), q11)))
  else
    some (.inr s2.2)

noncomputable def laws_markText (a0 : Int) : Option (List UInt8) :=
  bif (decide (a0 ≤ (0 : Int))) then
    some ([109, 48] : List UInt8)
  else
    (rounds (laws_markText_B1) (a0, ([] : List UInt8))).bind fun r4 =>
    guardP (List.length ([109] : List UInt8) + List.length r4 ≤ appMax) (
      some (([109] : List UInt8) ++ r4))

theorem f59_ok {a0 : Int} {r : List UInt8} (hr : laws_markText a0 = some r) : CallOK Tryd.prog 59 [.imm tI a0] [⟨false, .str, r⟩] [] := by
  unfold laws_markText at hr
  refine CallOK.of_body (ts := [(false, .str)]) Tryd.func59 rfl (by kernel_rfl) (Nat.le_of_ble_eq_true (by kernel_rfl)) fun cx hP hN hO hF => ?_
  have hO : cx.own.map Prod.fst = [] := hO
  have hX := CxIs.mk hP hN hO
  have hF := hF rfl
  show HT cx ⟨[(0, iV a0)], [], 0⟩ _ _
  refine HT.rg2 [oH] ⟨[(0, iV a0)], [], 0⟩ hX (by kernel_rfl) allNil ?_
  refine HT.seq ?_
  refine HT.rg2 (oHs 2) ⟨[(0, iV a0), (5, bV (decide (a0 ≤ (0 : Int))))], [], 0⟩ hX (by kernel_rfl) allNil ?_
  rcases of_bif hr with ⟨hb1, hr⟩ | ⟨hb1, hr⟩
  · refine HT.cond1 rfl hb1 ?_
    refine HT.rg2 [oH] ⟨[(2, .one (.dat .str ([109, 48] : List UInt8)))], [], 0⟩ hX (by kernel_rfl) allNil ?_
    have hr := of_some hr
    subst hr
    exact HT.ret (qThenR ⟨[.one (.dat .str ([109, 48] : List UInt8))], [], [], by kernel_rfl, by kernel_rfl, rfl, by kernel_rfl, by kernel_rfl, trivial⟩)
  · refine HT.cond0 rfl hb1 ?_
    refine HT.skip (qThen ?_)
    refine HT.rg2 [oH] ⟨[(0, iV a0), (3, .one (.dat .str ([] : List UInt8)))], [], 0⟩ hX (by kernel_rfl) allNil ?_
    refine HT.seq ?_
    refine HT.block ?_
    obtain ⟨r3, hL13, hr⟩ := of_bind hr
    refine HT.loopL (fun (s2 : Int × List UInt8) => ⟨[(0, iV s2.1), (3, .one (.dat .str s2.2))], [], 0⟩) (fun (r4 : List UInt8) => (.exit 0, ⟨[(3, .one (.dat .str r4))], [], 0⟩)) (Le.re [] [] hX (by kernel_rfl)) hL13 ?_ (fun s2 x6 hx7 hk8 => ?_)
    · refine (qBlockX (qThen ?_))
      obtain ⟨hg5, hr⟩ := of_guard hr
      refine HT.rg2 (oHs 3) ⟨[(2, .one (.dat .str (([109] : List UInt8) ++ r3)))], [], 0⟩ hX (by kernel_rfl) (allCons hg5 allNil) ?_
      have hr := of_some hr
      subst hr
      exact HT.ret ⟨[.one (.dat .str (([109] : List UInt8) ++ r3))], [], [], by kernel_rfl, by kernel_rfl, rfl, by kernel_rfl, by kernel_rfl, trivial⟩
    · refine HT.seq ?_
      refine HT.rg2 (oHs 2) ⟨[(0, iV s2.1), (3, .one (.dat .str s2.2)), (7, bV (decide (s2.1 > (0 : Int))))], [], 0⟩ hX (by kernel_rfl) allNil ?_
      rcases of_bif hx7 with ⟨hb9, hx7⟩ | ⟨hb9, hx7⟩
      · refine HT.cond1 rfl hb9 ?_
        refine HT.skip (qThen ?_)
        refine HT.block ?_
        obtain ⟨hg10, hx7⟩ := of_guard hx7
        refine HT.rg2 [oH, oH, oH, oH, ⟨none, .ty (.int .u8)⟩, oH, oH, oH, oH] ⟨[(0, iV s2.1), (3, .one (.dat .str ((bytesO ([(IntKind.wrap .u8 (wadd .i64 (48 : Int) (Int.tmod s2.1 (10 : Int))))] : List Int)) ++ s2.2)))], [], 1⟩ hX (by kernel_rfl) (allCons (show (10 : Int) ≠ 0 from by decide) (allCons hg10 allNil)) ?_
        obtain ⟨q11, hq12, hx7⟩ := of_bind hx7
        have hq12 := of_some2 hq12
        refine (Le.cv (s := ⟨[], [], [], false⟩) (own := []) (ps := [s2.1 = s2.1, q11 = ((bytesO ([(IntKind.wrap .u8 (wadd .i64 (48 : Int) (Int.tmod s2.1 (10 : Int))))] : List Int)) ++ s2.2)]) (st' := ⟨[(0, iV s2.1), (3, .one (.dat .str q11))], [], 1⟩) hO (fun h => by cases h) (by kernel_rfl) ⟨rfl, hq12, trivial⟩).ht ?_
        have hx7 := of_some hx7
        subst hx7
        exact HT.rgK (oHs 3) [] [] hX (by kernel_rfl) (allCons (show (10 : Int) ≠ 0 from by decide) allNil) (fun _ h => (qBlock (qLoopN ⟨((IntKind.wrap .i64 (Int.tdiv s2.1 (10 : Int))), q11), rfl, h⟩)))
      · refine HT.cond0 rfl hb9 ?_
        have hx7 := of_some hx7
        subst hx7
        exact HT.exitL (Le.re [] [] hX (by kernel_rfl)) (qThenE (qLoopE (hk8 s2.2 rfl)))

noncomputable def laws_markStringS_B1  (s1 : Int × Int × List (List UInt8)) : Option ((Int × Int × List (List UInt8)) ⊕ ((Int × List (List UInt8)))) :=
  bif (decide (s1.2.1 < (lenI s1.2.2))) then
    (laws_markText s1.1).bind fun y9 =>
    guardP ((0 : Int) ≤ s1.2.1 ∧ s1.2.1 < lenI s1.2.2) (
      some (.inl ((wadd .i64 s1.1 (1 : Int)), (wadd .i64 s1.2.1 (1 : Int)), (List.set s1.2.2 (Int.toNat s1.2.1) y9))))
  else
    some (.inr (s1.1, s1.2.2))

noncomputable def laws_markStringS (a0 : List (List UInt8)) (a1 : Int) : Option (Int × List (List UInt8)) :=
  (rounds (laws_markStringS_B1) (a1, (0 : Int), a0)).bind fun r3 =>
  guardP (List.length r3.2 = List.length a0) (
    some (r3.1, r3.2))

theorem f19_ok {a0 : List (List UInt8)} {a1 : Int} {r : Int × List (List UInt8)} (hr : laws_markStringS a0 a1 = some r) : CallOK Tryd.prog 19 [.own (.sl .str) a0, .imm tI a1] [⟨false, tI, r.1⟩] [⟨(.sl .str), r.2⟩] := by
  unfold laws_markStringS at hr
  refine CallOK.of_body (ts := [(false, tI)]) Tryd.func19 rfl (by kernel_rfl) (Nat.le_of_ble_eq_true (by kernel_rfl)) fun cx hP hN hO hF => ?_
  have hO : cx.own.map Prod.fst = [0] := hO
  have hX := CxIs.mk hP hN hO
  have hF := hF rfl
  show HT cx ⟨[(0, aV 0), (1, iV a1)], [(0, .seq .str a0)], 1⟩ _ _
  refine HT.rg2 [oH] ⟨[(0, aV 0), (1, iV a1)], [(0, .seq .str a0)], 1⟩ hX (by kernel_rfl) allNil ?_
  refine HT.seq ?_
  refine HT.rg2 [oH] ⟨[(0, aV 0), (1, iV a1), (5, iV (0 : Int))], [(0, .seq .str a0)], 1⟩ hX (by kernel_rfl) allNil ?_
  refine HT.block ?_
  obtain ⟨r2, hL12, hr⟩ := of_bind hr
  refine HT.loopL (fun (s1 : Int × Int × List (List UInt8)) => ⟨[(0, aV 0), (1, iV s1.1), (5, iV s1.2.1)], [(0, .seq .str s1.2.2)], 1⟩) (fun (r3 : (Int × List (List UInt8))) => (.exit 0, ⟨[(1, iV r3.1)], [(0, .seq .str r3.2)], 1⟩)) (Le.re [(0, 0)] [] hX (by kernel_rfl)) hL12 ?_ (fun s1 x5 hx6 hk7 => ?_)
  · refine (qBlockX (qThen ?_))
    refine HT.rg2 (oHs 2) ⟨[(4, iV r2.1)], [(0, .seq .str r2.2)], 1⟩ hX (by kernel_rfl) allNil ?_
    obtain ⟨hg4, hr⟩ := of_guard hr
    have hr := of_some hr
    subst hr
    exact HT.ret ⟨[iV r2.1], [], [List.length r2.2 = List.length a0], by kernel_rfl, by kernel_rfl, rfl, by kernel_rfl, by kernel_rfl, ⟨hg4, trivial⟩⟩
  · refine HT.seq ?_
    refine HT.rg2 (oHs 4) ⟨[(0, aV 0), (1, iV s1.1), (5, iV s1.2.1), (9, bV (decide (s1.2.1 < (lenI s1.2.2))))], [(0, .seq .str s1.2.2)], 1⟩ hX (by kernel_rfl) allNil ?_
    rcases of_bif hx6 with ⟨hb8, hx6⟩ | ⟨hb8, hx6⟩
    · refine HT.cond1 rfl hb8 ?_
      refine HT.skip (qThen ?_)
      refine HT.seq ?_
      refine HT.block ?_
      obtain ⟨y9, hc10, hx6⟩ := of_bind hx6
      obtain ⟨hg11, hx6⟩ := of_guard hx6
      refine HT.rg2 [oH, oH, oH, ⟨none, .call [.imm tI] [⟨false, .str, y9⟩] []⟩, oH, oH] ⟨[(0, aV 0), (1, iV s1.1), (5, iV s1.2.1)], [(0, .seq .str (List.set s1.2.2 (Int.toNat s1.2.1) y9))], 1⟩ hX (by kernel_rfl) (allCons (f59_ok hc10) (allCons hg11 (allCons (natLt hg11) allNil))) ?_
      refine HT.rgL (oHs 3) ⟨[(0, aV 0), (1, iV (wadd .i64 s1.1 (1 : Int))), (5, iV s1.2.1)], [(0, .seq .str (List.set s1.2.2 (Int.toNat s1.2.1) y9))], 1⟩ hX (by kernel_rfl) allNil (qBlock (qThen ?_))
      have hx6 := of_some hx6
      subst hx6
      exact HT.rgK (oHs 3) [(0, 0)] [] hX (by kernel_rfl) allNil (fun _ h => (qLoopN ⟨((wadd .i64 s1.1 (1 : Int)), (wadd .i64 s1.2.1 (1 : Int)), (List.set s1.2.2 (Int.toNat s1.2.1) y9)), rfl, h⟩))
    · refine HT.cond0 rfl hb8 ?_
      have hx6 := of_some hx6
      subst hx6
      exact HT.exitL (Le.re [(0, 0)] [] hX (by kernel_rfl)) (qThenE (qLoopE (hk7 (s1.1, s1.2.2) rfl)))

noncomputable def laws_heldStringS_B1 (a0 : List (List UInt8)) (s1 : Int × Int) : Option ((Int × Int) ⊕ (Int ⊕ Unit)) :=
  bif (decide (s1.2 < (lenI a0))) then
    guardP ((0 : Int) ≤ s1.2 ∧ s1.2 < lenI a0) (
      (laws_markText s1.1).bind fun y10 =>
      bif ((List.getD a0 (Int.toNat s1.2) ([] : List UInt8)) != y10) then
        some (.inr (.inr ()))
      else
        some (.inl ((wadd .i64 s1.1 (1 : Int)), (wadd .i64 s1.2 (1 : Int)))))
  else
    some (.inr (.inl s1.1))

noncomputable def laws_heldStringS (a0 : List (List UInt8)) (a1 : Int) : Option (Int) :=
  (rounds (laws_heldStringS_B1 a0) (a1, (0 : Int))).bind fun r2 => match r2 with
    | .inl r3 =>
      some r3
    | .inr r4 =>
      some (-1 : Int)

theorem f20_ok {a0 : List (List UInt8)} {a1 : Int} {r : Int} (hr : laws_heldStringS a0 a1 = some r) : CallOK Tryd.prog 20 [.imm (.sl .str) a0, .imm tI a1] [⟨false, tI, r⟩] [] := by
  unfold laws_heldStringS at hr
  refine CallOK.of_body (ts := [(false, tI)]) Tryd.func20 rfl (by kernel_rfl) (Nat.le_of_ble_eq_true (by kernel_rfl)) fun cx hP hN hO hF => ?_
  have hO : cx.own.map Prod.fst = [] := hO
  have hX := CxIs.mk hP hN hO
  have hF := hF rfl
  show HT cx ⟨[(0, .one (.dat (.sl .str) a0)), (1, iV a1)], [], 0⟩ _ _
  refine HT.rg2 [oH] ⟨[(0, .one (.dat (.sl .str) a0)), (1, iV a1)], [], 0⟩ hX (by kernel_rfl) allNil ?_
  refine HT.seq ?_
  refine HT.rg2 [oH] ⟨[(0, .one (.dat (.sl .str) a0)), (1, iV a1), (5, iV (0 : Int))], [], 0⟩ hX (by kernel_rfl) allNil ?_
  refine HT.block ?_
  obtain ⟨r2, hL13, hr⟩ := of_bind hr
  refine HT.loopL (fun (s1 : Int × Int) => ⟨[(0, .one (.dat (.sl .str) a0)), (1, iV s1.1), (5, iV s1.2)], [], 0⟩) (fun (r2 : Int ⊕ Unit) => match r2 with | .inl r3 => (.exit 0, ⟨[(1, iV r3)], [], 0⟩) | .inr r4 => (.ret, ⟨[(4, iV (-1 : Int))], [], 0⟩)) (Le.re [] [] hX (by kernel_rfl)) hL13 ?_ (fun s1 x5 hx6 hk7 => ?_)
  · rcases r2 with r3 | r4
    · refine (qBlockX (qThen ?_))
      refine HT.rg2 (oHs 2) ⟨[(4, iV r3)], [], 0⟩ hX (by kernel_rfl) allNil ?_
      have hr := of_some hr
      subst hr
      exact HT.ret ⟨[iV r3], [], [], by kernel_rfl, by kernel_rfl, rfl, by kernel_rfl, by kernel_rfl, trivial⟩
    · have hr := of_some hr
      subst hr
      exact (qBlockR (qThenR ⟨[iV (-1 : Int)], [], [], by kernel_rfl, by kernel_rfl, rfl, by kernel_rfl, by kernel_rfl, trivial⟩))
  · refine HT.seq ?_
    refine HT.rg2 (oHs 4) ⟨[(0, .one (.dat (.sl .str) a0)), (1, iV s1.1), (5, iV s1.2), (9, bV (decide (s1.2 < (lenI a0))))], [], 0⟩ hX (by kernel_rfl) allNil ?_
    rcases of_bif hx6 with ⟨hb8, hx6⟩ | ⟨hb8, hx6⟩
    · refine HT.cond1 rfl hb8 ?_
      refine HT.skip (qThen ?_)
      refine HT.seq ?_
      refine HT.block ?_
      refine HT.seq ?_
      obtain ⟨hg9, hx6⟩ := of_guard hx6
      obtain ⟨y10, hc11, hx6⟩ := of_bind hx6
      refine HT.dr2 6 [⟨oH, []⟩, ⟨oH, []⟩, ⟨oH, [0, 1]⟩, ⟨oH, [0, 1, 2]⟩, ⟨oH, []⟩, ⟨⟨none, .call [.imm tI] [⟨false, .str, y10⟩] []⟩, [4]⟩] [[0, 1, 2, 3, 4, 5]] [oH] ⟨[(0, .one (.dat (.sl .str) a0)), (1, iV s1.1), (5, iV s1.2), (18, bV ((List.getD a0 (Int.toNat s1.2) ([] : List UInt8)) != y10))], [], 0⟩ hX (by kernel_rfl) (by kernel_rfl) (allCons hg9 (allCons (f59_ok hc11) allNil)) ?_
      rcases of_bif hx6 with ⟨hb12, hx6⟩ | ⟨hb12, hx6⟩
      · refine HT.cond1 rfl hb12 ?_
        refine HT.rg2 [oH] ⟨[(4, iV (-1 : Int))], [], 0⟩ hX (by kernel_rfl) allNil ?_
        have hx6 := of_some hx6
        subst hx6
        exact HT.retL (Le.re [] [] hX (by kernel_rfl)) (qThenR (qBlockR (qThenR (qLoopR (hk7 (.inr ()) rfl)))))
      · refine HT.cond0 rfl hb12 ?_
        refine HT.skip (qThen ?_)
        refine HT.rgL (oHs 3) ⟨[(0, .one (.dat (.sl .str) a0)), (1, iV (wadd .i64 s1.1 (1 : Int))), (5, iV s1.2)], [], 0⟩ hX (by kernel_rfl) allNil (qBlock (qThen ?_))
        have hx6 := of_some hx6
        subst hx6
        exact HT.rgK (oHs 3) [] [] hX (by kernel_rfl) allNil (fun _ h => (qLoopN ⟨((wadd .i64 s1.1 (1 : Int)), (wadd .i64 s1.2 (1 : Int))), rfl, h⟩))
    · refine HT.cond0 rfl hb8 ?_
      have hx6 := of_some hx6
      subst hx6
      exact HT.exitL (Le.re [] [] hX (by kernel_rfl)) (qThenE (qLoopE (hk7 (.inl s1.1) rfl)))

noncomputable def laws_eqStringS_B1 (a0 : List (List UInt8)) (a1 : List (List UInt8)) (s2 : Int) : Option ((Int) ⊕ (Unit ⊕ Unit)) :=
  bif (decide (s2 < (lenI a0))) then
    guardP ((0 : Int) ≤ s2 ∧ s2 < lenI a0) (
      guardP ((0 : Int) ≤ s2 ∧ s2 < lenI a1) (
        bif ((List.getD a0 (Int.toNat s2) ([] : List UInt8)) != (List.getD a1 (Int.toNat s2) ([] : List UInt8))) then
          some (.inr (.inr ()))
        else
          some (.inl (wadd .i64 s2 (1 : Int)))))
  else
    some (.inr (.inl ()))

noncomputable def laws_eqStringS (a0 : List (List UInt8)) (a1 : List (List UInt8)) : Option (Bool) :=
  bif ((lenI a0) != (lenI a1)) then
    some false
  else
    (rounds (laws_eqStringS_B1 a0 a1) (0 : Int)).bind fun r3 => match r3 with
      | .inl r4 =>
        some true
      | .inr r5 =>
        some false

theorem f16_ok {a0 : List (List UInt8)} {a1 : List (List UInt8)} {r : Bool} (hr : laws_eqStringS a0 a1 = some r) : CallOK Tryd.prog 16 [.imm (.sl .str) a0, .imm (.sl .str) a1] [⟨false, .bool, r⟩] [] := by
  unfold laws_eqStringS at hr
  refine CallOK.of_body (ts := [(false, .bool)]) Tryd.func16 rfl (by kernel_rfl) (Nat.le_of_ble_eq_true (by kernel_rfl)) fun cx hP hN hO hF => ?_
  have hO : cx.own.map Prod.fst = [] := hO
  have hX := CxIs.mk hP hN hO
  have hF := hF rfl
  show HT cx ⟨[(0, .one (.dat (.sl .str) a0)), (1, .one (.dat (.sl .str) a1))], [], 0⟩ _ _
  refine HT.rg2 [oH] ⟨[(0, .one (.dat (.sl .str) a0)), (1, .one (.dat (.sl .str) a1))], [], 0⟩ hX (by kernel_rfl) allNil ?_
  refine HT.seq ?_
  refine HT.rg2 (oHs 5) ⟨[(0, .one (.dat (.sl .str) a0)), (1, .one (.dat (.sl .str) a1)), (10, bV ((lenI a0) != (lenI a1)))], [], 0⟩ hX (by kernel_rfl) allNil ?_
  rcases of_bif hr with ⟨hb1, hr⟩ | ⟨hb1, hr⟩
  · refine HT.cond1 rfl hb1 ?_
    refine HT.rg2 [oH] ⟨[(4, bV false)], [], 0⟩ hX (by kernel_rfl) allNil ?_
    have hr := of_some hr
    subst hr
    exact HT.ret (qThenR ⟨[bV false], [], [], by kernel_rfl, by kernel_rfl, rfl, by kernel_rfl, by kernel_rfl, trivial⟩)
  · refine HT.cond0 rfl hb1 ?_
    refine HT.skip (qThen ?_)
    refine HT.seq ?_
    refine HT.rg2 [oH] ⟨[(0, .one (.dat (.sl .str) a0)), (1, .one (.dat (.sl .str) a1)), (5, iV (0 : Int))], [], 0⟩ hX (by kernel_rfl) allNil ?_
    refine HT.block ?_
    obtain ⟨r3, hL13, hr⟩ := of_bind hr
    refine HT.loopL (fun (s2 : Int) => ⟨[(0, .one (.dat (.sl .str) a0)), (1, .one (.dat (.sl .str) a1)), (5, iV s2)], [], 0⟩) (fun (r3 : Unit ⊕ Unit) => match r3 with | .inl r4 => (.exit 0, ⟨[], [], 0⟩) | .inr r5 => (.ret, ⟨[(4, bV false)], [], 0⟩)) (Le.re [] [] hX (by kernel_rfl)) hL13 ?_ (fun s2 x6 hx7 hk8 => ?_)
    · rcases r3 with r4 | r5
      · refine (qBlockX (qThen ?_))
        refine HT.rg2 [oH] ⟨[(4, bV true)], [], 0⟩ hX (by kernel_rfl) allNil ?_
        have hr := of_some hr
        subst hr
        exact HT.ret ⟨[bV true], [], [], by kernel_rfl, by kernel_rfl, rfl, by kernel_rfl, by kernel_rfl, trivial⟩
      · have hr := of_some hr
        subst hr
        exact (qBlockR (qThenR ⟨[bV false], [], [], by kernel_rfl, by kernel_rfl, rfl, by kernel_rfl, by kernel_rfl, trivial⟩))
    · refine HT.seq ?_
      refine HT.rg2 (oHs 4) ⟨[(0, .one (.dat (.sl .str) a0)), (1, .one (.dat (.sl .str) a1)), (5, iV s2), (14, bV (decide (s2 < (lenI a0))))], [], 0⟩ hX (by kernel_rfl) allNil ?_
      rcases of_bif hx7 with ⟨hb9, hx7⟩ | ⟨hb9, hx7⟩
      · refine HT.cond1 rfl hb9 ?_
        refine HT.skip (qThen ?_)
        refine HT.seq ?_
        refine HT.block ?_
        obtain ⟨hg10, hx7⟩ := of_guard hx7
        obtain ⟨hg11, hx7⟩ := of_guard hx7
        refine HT.dr2 8 [⟨oH, []⟩, ⟨oH, []⟩, ⟨oH, [0, 1]⟩, ⟨oH, [0, 1, 2]⟩, ⟨oH, []⟩, ⟨oH, []⟩, ⟨oH, [4, 5]⟩, ⟨oH, [4, 5, 6]⟩] [[0, 1, 2, 3, 4, 5, 6, 7]] [oH] ⟨[(0, .one (.dat (.sl .str) a0)), (1, .one (.dat (.sl .str) a1)), (5, iV s2), (25, bV ((List.getD a0 (Int.toNat s2) ([] : List UInt8)) != (List.getD a1 (Int.toNat s2) ([] : List UInt8))))], [], 0⟩ hX (by kernel_rfl) (by kernel_rfl) (allCons hg10 (allCons hg11 allNil)) ?_
        rcases of_bif hx7 with ⟨hb12, hx7⟩ | ⟨hb12, hx7⟩
        · refine HT.cond1 rfl hb12 ?_
          refine HT.rg2 [oH] ⟨[(4, bV false)], [], 0⟩ hX (by kernel_rfl) allNil ?_
          have hx7 := of_some hx7
          subst hx7
          exact HT.retL (Le.re [] [] hX (by kernel_rfl)) (qBlockR (qThenR (qLoopR (hk8 (.inr ()) rfl))))
        · refine HT.cond0 rfl hb12 ?_
          refine HT.skip (qBlock (qThen ?_))
          have hx7 := of_some hx7
          subst hx7
          exact HT.rgK (oHs 3) [] [] hX (by kernel_rfl) allNil (fun _ h => (qLoopN ⟨(wadd .i64 s2 (1 : Int)), rfl, h⟩))
      · refine HT.cond0 rfl hb9 ?_
        have hx7 := of_some hx7
        subst hx7
        exact HT.exitL (Le.re [] [] hX (by kernel_rfl)) (qThenE (qLoopE (hk8 (.inl ()) rfl)))

noncomputable def laws_FnExactRecoverJournal (a0 : List UInt8) : Option (Bool) :=
  bif (decide ((lenI a0) > (1048576 : Int))) then
    some true
  else
    (spec_RecoverJournal a0).bind fun y2 =>
    (impl_RecoverJournal a0).bind fun y4 =>
    (show Option (Bool) from
      (laws_eqStringS y4.1 y2.1).bind fun y30 =>
      bif (!y30) then
        some true
      else
        bif (y4.2.1 != y2.2.1) then
          some true
        else
          some (y4.2.2 != y2.2.2)).bind fun v6 =>
    bif v6 then
      some false
    else
      (laws_markStringS y4.1 (1 : Int)).bind fun y10 =>
      (laws_heldStringS y10.2 (1 : Int)).bind fun y12 =>
      bif (decide (y12 < (0 : Int))) then
        some false
      else
        bif (y12 != y10.1) then
          some false
        else
          (impl_RecoverJournal a0).bind fun y16 =>
          (show Option (Bool) from
            (laws_eqStringS y16.1 y2.1).bind fun y26 =>
            bif (!y26) then
              some true
            else
              bif (y16.2.1 != y2.2.1) then
                some true
              else
                some (y16.2.2 != y2.2.2)).bind fun v18 =>
          bif v18 then
            some false
          else
            (laws_heldStringS y10.2 (1 : Int)).bind fun y22 =>
            bif (decide (y22 < (0 : Int))) then
              some false
            else
              bif (y22 != y10.1) then
                some false
              else
                some true

theorem f4_ok {a0 : List UInt8} {r : Bool} (hr : laws_FnExactRecoverJournal a0 = some r) : CallOK Tryd.prog 4 [.imm .str a0] [⟨false, .bool, r⟩] [] := by
  unfold laws_FnExactRecoverJournal at hr
  refine CallOK.of_body (ts := [(false, .bool)]) Tryd.func4 rfl (by kernel_rfl) (Nat.le_of_ble_eq_true (by kernel_rfl)) fun cx hP hN hO hF => ?_
  have hO : cx.own.map Prod.fst = [] := hO
  have hX := CxIs.mk hP hN hO
  have hF := hF rfl
  show HT cx ⟨[(0, .one (.dat .str a0))], [], 0⟩ _ _
  refine HT.rg2 [oH] ⟨[(0, .one (.dat .str a0))], [], 0⟩ hX (by kernel_rfl) allNil ?_
  refine HT.seq ?_
  refine HT.rg2 (oHs 3) ⟨[(0, .one (.dat .str a0)), (16, bV (decide ((lenI a0) > (1048576 : Int))))], [], 0⟩ hX (by kernel_rfl) allNil ?_
  rcases of_bif hr with ⟨hb1, hr⟩ | ⟨hb1, hr⟩
  · refine HT.cond1 rfl hb1 ?_
    refine HT.rg2 [oH] ⟨[(2, bV true)], [], 0⟩ hX (by kernel_rfl) allNil ?_
    have hr := of_some hr
    subst hr
    exact HT.ret (qThenR ⟨[bV true], [], [], by kernel_rfl, by kernel_rfl, rfl, by kernel_rfl, by kernel_rfl, trivial⟩)
  · refine HT.cond0 rfl hb1 ?_
    refine HT.skip (qThen ?_)
    obtain ⟨y2, hc3, hr⟩ := of_bind hr
    refine HT.rg2 [oH, ⟨none, .call [.imm .str] [⟨true, (.sl .str), y2.1⟩, ⟨false, tI, y2.2.1⟩, ⟨false, .bool, y2.2.2⟩] []⟩, oH, oH, oH, oH, oH, oH, oH] ⟨[(0, .one (.dat .str a0)), (3, aV 0), (4, iV y2.2.1), (5, bV y2.2.2)], [(0, .seq .str y2.1)], 1⟩ hX (by kernel_rfl) (allCons (f17_ok hc3) allNil) ?_
    obtain ⟨y4, hc5, hr⟩ := of_bind hr
    refine HT.rg2 [oH, ⟨none, .call [.imm .str] [⟨true, (.sl .str), y4.1⟩, ⟨false, tI, y4.2.1⟩, ⟨false, .bool, y4.2.2⟩] []⟩, oH, oH, oH, oH, oH, oH, oH] ⟨[(0, .one (.dat .str a0)), (3, aV 0), (4, iV y2.2.1), (5, bV y2.2.2), (6, aV 1), (7, iV y4.2.1), (8, bV y4.2.2)], [(1, .seq .str y4.1), (0, .seq .str y2.1)], 2⟩ hX (by kernel_rfl) (allCons (f18_ok hc5) allNil) ?_
    refine HT.seq ?_
    obtain ⟨v6', hT8, hr⟩ := of_bind hr
    refine HT.join (fun (v6 : Bool) => ⟨[(0, .one (.dat .str a0)), (3, aV 0), (4, iV y2.2.1), (5, bV y2.2.2), (6, aV 1), (42, bV v6)], [(0, .seq .str y2.1), (1, .seq .str y4.1)], 2⟩) (fun v => v = v6') (fun v6 hv7 => ?_) (fun cont => ?_)
    · subst hv7
      rcases of_bif hr with ⟨hb9, hr⟩ | ⟨hb9, hr⟩
      · refine HT.cond1 rfl hb9 ?_
        refine HT.rg2 [oH] ⟨[(2, bV false)], [], 2⟩ hX (by kernel_rfl) allNil ?_
        have hr := of_some hr
        subst hr
        exact HT.ret (qThenR ⟨[bV false], [], [], by kernel_rfl, by kernel_rfl, rfl, by kernel_rfl, by kernel_rfl, trivial⟩)
      · refine HT.cond0 rfl hb9 ?_
        refine HT.skip (qThen ?_)
        refine HT.rg2 [oH] ⟨[(0, .one (.dat .str a0)), (3, aV 0), (4, iV y2.2.1), (5, bV y2.2.2), (6, aV 1), (9, iV (1 : Int))], [(0, .seq .str y2.1), (1, .seq .str y4.1)], 2⟩ hX (by kernel_rfl) allNil ?_
        obtain ⟨y10, hc11, hr⟩ := of_bind hr
        refine HT.rg2 [oH, oH, ⟨none, .call [.own (.sl .str), .imm tI] [⟨false, tI, y10.1⟩] [⟨(.sl .str), y10.2⟩]⟩, oH] ⟨[(0, .one (.dat .str a0)), (3, aV 0), (4, iV y2.2.1), (5, bV y2.2.2), (6, aV 1), (9, iV y10.1)], [(1, .seq .str y10.2), (0, .seq .str y2.1)], 2⟩ hX (by kernel_rfl) (allCons (f19_ok hc11) allNil) ?_
        refine HT.rg2 [oH] ⟨[(0, .one (.dat .str a0)), (3, aV 0), (4, iV y2.2.1), (5, bV y2.2.2), (6, aV 1), (9, iV y10.1), (10, iV (1 : Int))], [(1, .seq .str y10.2), (0, .seq .str y2.1)], 2⟩ hX (by kernel_rfl) allNil ?_
        obtain ⟨y12, hc13, hr⟩ := of_bind hr
        refine HT.rg2 [oH, oH, ⟨none, .call [.imm (.sl .str), .imm tI] [⟨false, tI, y12⟩] []⟩, oH] ⟨[(0, .one (.dat .str a0)), (3, aV 0), (4, iV y2.2.1), (5, bV y2.2.2), (6, aV 1), (9, iV y10.1), (10, iV y12)], [(1, .seq .str y10.2), (0, .seq .str y2.1)], 2⟩ hX (by kernel_rfl) (allCons (f20_ok hc13) allNil) ?_
        refine HT.seq ?_
        refine HT.rg2 (oHs 2) ⟨[(0, .one (.dat .str a0)), (3, aV 0), (4, iV y2.2.1), (5, bV y2.2.2), (6, aV 1), (9, iV y10.1), (10, iV y12), (50, bV (decide (y12 < (0 : Int))))], [(1, .seq .str y10.2), (0, .seq .str y2.1)], 2⟩ hX (by kernel_rfl) allNil ?_
        rcases of_bif hr with ⟨hb14, hr⟩ | ⟨hb14, hr⟩
        · refine HT.cond1 rfl hb14 ?_
          refine HT.rg2 [oH] ⟨[(2, bV false)], [], 2⟩ hX (by kernel_rfl) allNil ?_
          have hr := of_some hr
          subst hr
          exact HT.ret (qThenR ⟨[bV false], [], [], by kernel_rfl, by kernel_rfl, rfl, by kernel_rfl, by kernel_rfl, trivial⟩)
        · refine HT.cond0 rfl hb14 ?_
          refine HT.skip (qThen ?_)
          refine HT.seq ?_
          refine HT.rg2 (oHs 3) ⟨[(0, .one (.dat .str a0)), (3, aV 0), (4, iV y2.2.1), (5, bV y2.2.2), (6, aV 1), (9, iV y10.1), (53, bV (y12 != y10.1))], [(1, .seq .str y10.2), (0, .seq .str y2.1)], 2⟩ hX (by kernel_rfl) allNil ?_
          rcases of_bif hr with ⟨hb15, hr⟩ | ⟨hb15, hr⟩
          · refine HT.cond1 rfl hb15 ?_
            refine HT.rg2 [oH] ⟨[(2, bV false)], [], 2⟩ hX (by kernel_rfl) allNil ?_
            have hr := of_some hr
            subst hr
            exact HT.ret (qThenR ⟨[bV false], [], [], by kernel_rfl, by kernel_rfl, rfl, by kernel_rfl, by kernel_rfl, trivial⟩)
          · refine HT.cond0 rfl hb15 ?_
            refine HT.skip (qThen ?_)
            obtain ⟨y16, hc17, hr⟩ := of_bind hr
            refine HT.rg2 [oH, ⟨none, .call [.imm .str] [⟨true, (.sl .str), y16.1⟩, ⟨false, tI, y16.2.1⟩, ⟨false, .bool, y16.2.2⟩] []⟩, oH, oH, oH, oH, oH, oH, oH] ⟨[(3, aV 0), (4, iV y2.2.1), (5, bV y2.2.2), (6, aV 1), (9, iV y10.1), (11, aV 2), (12, iV y16.2.1), (13, bV y16.2.2)], [(2, .seq .str y16.1), (1, .seq .str y10.2), (0, .seq .str y2.1)], 3⟩ hX (by kernel_rfl) (allCons (f18_ok hc17) allNil) ?_
            refine HT.seq ?_
            obtain ⟨v18', hT20, hr⟩ := of_bind hr
            refine HT.join (fun (v18 : Bool) => ⟨[(6, aV 0), (9, iV y10.1), (73, bV v18)], [(0, .seq .str y10.2)], 1⟩) (fun v => v = v18') (fun v18 hv19 => ?_) (fun cont => ?_)
            · subst hv19
              rcases of_bif hr with ⟨hb21, hr⟩ | ⟨hb21, hr⟩
              · refine HT.cond1 rfl hb21 ?_
                refine HT.rg2 [oH] ⟨[(2, bV false)], [], 1⟩ hX (by kernel_rfl) allNil ?_
                have hr := of_some hr
                subst hr
                exact HT.ret (qThenR ⟨[bV false], [], [], by kernel_rfl, by kernel_rfl, rfl, by kernel_rfl, by kernel_rfl, trivial⟩)
              · refine HT.cond0 rfl hb21 ?_
                refine HT.skip (qThen ?_)
                refine HT.rg2 [oH] ⟨[(6, aV 0), (9, iV y10.1), (10, iV (1 : Int))], [(0, .seq .str y10.2)], 1⟩ hX (by kernel_rfl) allNil ?_
                obtain ⟨y22, hc23, hr⟩ := of_bind hr
                refine HT.rg2 [oH, oH, ⟨none, .call [.imm (.sl .str), .imm tI] [⟨false, tI, y22⟩] []⟩, oH] ⟨[(9, iV y10.1), (10, iV y22)], [], 1⟩ hX (by kernel_rfl) (allCons (f20_ok hc23) allNil) ?_
                refine HT.seq ?_
                refine HT.rg2 (oHs 2) ⟨[(9, iV y10.1), (10, iV y22), (78, bV (decide (y22 < (0 : Int))))], [], 1⟩ hX (by kernel_rfl) allNil ?_
                rcases of_bif hr with ⟨hb24, hr⟩ | ⟨hb24, hr⟩
                · refine HT.cond1 rfl hb24 ?_
                  refine HT.rg2 [oH] ⟨[(2, bV false)], [], 1⟩ hX (by kernel_rfl) allNil ?_
                  have hr := of_some hr
                  subst hr
                  exact HT.ret (qThenR ⟨[bV false], [], [], by kernel_rfl, by kernel_rfl, rfl, by kernel_rfl, by kernel_rfl, trivial⟩)
                · refine HT.cond0 rfl hb24 ?_
                  refine HT.skip (qThen ?_)
                  refine HT.seq ?_
                  refine HT.rg2 (oHs 3) ⟨[(81, bV (y22 != y10.1))], [], 1⟩ hX (by kernel_rfl) allNil ?_
                  rcases of_bif hr with ⟨hb25, hr⟩ | ⟨hb25, hr⟩
                  · refine HT.cond1 rfl hb25 ?_
                    refine HT.rg2 [oH] ⟨[(2, bV false)], [], 1⟩ hX (by kernel_rfl) allNil ?_
                    have hr := of_some hr
                    subst hr
                    exact HT.ret (qThenR ⟨[bV false], [], [], by kernel_rfl, by kernel_rfl, rfl, by kernel_rfl, by kernel_rfl, trivial⟩)
                  · refine HT.cond0 rfl hb25 ?_
                    refine HT.skip (qThen ?_)
                    refine HT.rg2 [oH] ⟨[(2, bV true)], [], 1⟩ hX (by kernel_rfl) allNil ?_
                    have hr := of_some hr
                    subst hr
                    exact HT.ret ⟨[bV true], [], [], by kernel_rfl, by kernel_rfl, rfl, by kernel_rfl, by kernel_rfl, trivial⟩
            · obtain ⟨y26, hc27, hT20⟩ := of_bind hT20
              rcases of_bif hT20 with ⟨hb28, hT20⟩ | ⟨hb28, hT20⟩
              · exact HT.rgK [oH, oH, ⟨none, .call [.imm (.sl .str), .imm (.sl .str)] [⟨false, .bool, y26⟩] []⟩, oH, oH, ⟨some true, .no⟩, ⟨some true, .no⟩, ⟨some true, .no⟩, ⟨none, .tv true⟩, oH, ⟨some true, .no⟩, ⟨some true, .no⟩, ⟨some true, .no⟩, ⟨none, .tv true⟩] [(1, 0)] [] hX (by kernel_rfl) (allCons (f16_ok hc27) (allCons hb28 (allCons hb28 (allCons hb28 (allCons hb28 (allCons (rfl : true = true) (allCons (rfl : true = true) (allCons (rfl : true = true) (allCons (rfl : true = true) allNil))))))))) (fun _ h => (qThen (h.ht (cont true (of_some hT20)))))
              · rcases of_bif hT20 with ⟨hb29, hT20⟩ | ⟨hb29, hT20⟩
                · exact HT.rgK [oH, oH, ⟨none, .call [.imm (.sl .str), .imm (.sl .str)] [⟨false, .bool, y26⟩] []⟩, oH, oH, ⟨some false, .no⟩, ⟨some false, .no⟩, ⟨some false, .no⟩, ⟨none, .tv false⟩, oH, ⟨some true, .no⟩, ⟨some true, .no⟩, ⟨some true, .no⟩, ⟨none, .tv true⟩] [(1, 0)] [] hX (by kernel_rfl) (allCons (f16_ok hc27) (allCons hb28 (allCons hb28 (allCons hb28 (allCons hb28 (allCons hb29 (allCons hb29 (allCons hb29 (allCons hb29 allNil))))))))) (fun _ h => (qThen (h.ht (cont true (of_some hT20)))))
                · exact HT.rgK [oH, oH, ⟨none, .call [.imm (.sl .str), .imm (.sl .str)] [⟨false, .bool, y26⟩] []⟩, oH, oH, ⟨some false, .no⟩, ⟨some false, .no⟩, ⟨some false, .no⟩, ⟨none, .tv false⟩, oH, ⟨some false, .no⟩, ⟨some false, .no⟩, ⟨some false, .no⟩, ⟨none, .tv false⟩] [(1, 0)] [] hX (by kernel_rfl) (allCons (f16_ok hc27) (allCons hb28 (allCons hb28 (allCons hb28 (allCons hb28 (allCons hb29 (allCons hb29 (allCons hb29 (allCons hb29 allNil))))))))) (fun _ h => (qThen (h.ht (cont (y16.2.2 != y2.2.2) (of_some hT20)))))
    · obtain ⟨y30, hc31, hT8⟩ := of_bind hT8
      rcases of_bif hT8 with ⟨hb32, hT8⟩ | ⟨hb32, hT8⟩
      · exact HT.rgK [oH, oH, ⟨none, .call [.imm (.sl .str), .imm (.sl .str)] [⟨false, .bool, y30⟩] []⟩, oH, oH, ⟨some true, .no⟩, ⟨some true, .no⟩, ⟨some true, .no⟩, ⟨none, .tv true⟩, oH, ⟨some true, .no⟩, ⟨some true, .no⟩, ⟨some true, .no⟩, ⟨none, .tv true⟩] [(0, 0), (1, 1)] [] hX (by kernel_rfl) (allCons (f16_ok hc31) (allCons hb32 (allCons hb32 (allCons hb32 (allCons hb32 (allCons (rfl : true = true) (allCons (rfl : true = true) (allCons (rfl : true = true) (allCons (rfl : true = true) allNil))))))))) (fun _ h => (qThen (h.ht (cont true (of_some hT8)))))
      · rcases of_bif hT8 with ⟨hb33, hT8⟩ | ⟨hb33, hT8⟩
        · exact HT.rgK [oH, oH, ⟨none, .call [.imm (.sl .str), .imm (.sl .str)] [⟨false, .bool, y30⟩] []⟩, oH, oH, ⟨some false, .no⟩, ⟨some false, .no⟩, ⟨some false, .no⟩, ⟨none, .tv false⟩, oH, ⟨some true, .no⟩, ⟨some true, .no⟩, ⟨some true, .no⟩, ⟨none, .tv true⟩] [(0, 0), (1, 1)] [] hX (by kernel_rfl) (allCons (f16_ok hc31) (allCons hb32 (allCons hb32 (allCons hb32 (allCons hb32 (allCons hb33 (allCons hb33 (allCons hb33 (allCons hb33 allNil))))))))) (fun _ h => (qThen (h.ht (cont true (of_some hT8)))))
        · exact HT.rgK [oH, oH, ⟨none, .call [.imm (.sl .str), .imm (.sl .str)] [⟨false, .bool, y30⟩] []⟩, oH, oH, ⟨some false, .no⟩, ⟨some false, .no⟩, ⟨some false, .no⟩, ⟨none, .tv false⟩, oH, ⟨some false, .no⟩, ⟨some false, .no⟩, ⟨some false, .no⟩, ⟨none, .tv false⟩] [(0, 0), (1, 1)] [] hX (by kernel_rfl) (allCons (f16_ok hc31) (allCons hb32 (allCons hb32 (allCons hb32 (allCons hb32 (allCons hb33 (allCons hb33 (allCons hb33 (allCons hb33 allNil))))))))) (fun _ h => (qThen (h.ht (cont (y4.2.2 != y2.2.2) (of_some hT8)))))

end Go.Proofs
