import Derived.Test.YtjklkdlnabjcdaaDoorReadGrammarShelf
import Derived.Test.YtjklkdlnabjcdaaDoorProg
set_option linter.unusedVariables false
set_option linter.unusedSimpArgs false
set_option linter.unusedSectionVars false
/-
  Functions as plain functions, and their contracts. Printed by a program.
-/
namespace Go.Proofs
open Go.Ide

noncomputable def spec_l01Cut_B1 (a0 : List UInt8) (a1 : Int) (s1 : Int × Int × List (List UInt8)) : Option ((Int × Int × List (List UInt8)) ⊕ (List (List UInt8))) :=
  bif (decide (s1.2.1 ≤ (lenI a0))) then
    (show Option (Int × List (List UInt8)) from
      (show Option (Bool) from
        bif (s1.2.1 == (lenI a0)) then
          some true
        else
          guardP ((0 : Int) ≤ s1.2.1 ∧ s1.2.1 < lenI a0) (
            some (((((List.getD a0 (Int.toNat s1.2.1) 0 : UInt8).toNat : Nat)) : Int) == a1))).bind fun v11 =>
      bif v11 then
        guardP ((0 : Int) ≤ s1.1 ∧ s1.1 ≤ s1.2.1 ∧ s1.2.1 ≤ lenI a0) (
          guardP (List.length s1.2.2 + List.length ([(cut a0 s1.1 s1.2.1)] : List (List UInt8)) ≤ appMax) (
            some ((wadd .i64 s1.2.1 (1 : Int)), (s1.2.2 ++ ([(cut a0 s1.1 s1.2.1)] : List (List UInt8))))))
      else
        some (s1.1, s1.2.2)).bind fun v8 =>
    some (.inl (v8.1, (wadd .i64 s1.2.1 (1 : Int)), v8.2))
  else
    some (.inr s1.2.2)

noncomputable def spec_l01Cut (a0 : List UInt8) (a1 : Int) : Option (List (List UInt8)) :=
  (rounds (spec_l01Cut_B1 a0 a1) ((0 : Int), (0 : Int), ([] : List (List UInt8)))).bind fun r3 =>
  some r3

theorem f121_ok {a0 : List UInt8} {a1 : Int} {r : List (List UInt8)} (hr : spec_l01Cut a0 a1 = some r) : CallOK Tryd.prog 121 [.imm .str a0, .imm (.int .u8) a1] [⟨true, (.sl .str), r⟩] [] := by
  unfold spec_l01Cut at hr
  refine CallOK.of_body (ts := [(true, (.sl .str))]) Tryd.func121 rfl (by kernel_rfl) (Nat.le_of_ble_eq_true (by kernel_rfl)) fun cx hP hN hO hF => ?_
  have hO : cx.own.map Prod.fst = [] := hO
  have hX := CxIs.mk hP hN hO
  have hF := hF rfl
  show HT cx ⟨[(0, .one (.dat .str a0)), (1, .one (.dat (.int .u8) a1))], [], 0⟩ _ _
  refine HT.rg2 [oH] ⟨[(0, .one (.dat .str a0)), (1, .one (.dat (.int .u8) a1))], [], 0⟩ hX (by kernel_rfl) allNil ?_
  refine HT.rg2 (oHs 2) ⟨[(0, .one (.dat .str a0)), (1, .one (.dat (.int .u8) a1)), (5, .one (.nilS))], [], 0⟩ hX (by kernel_rfl) allNil ?_
  refine HT.rg2 [oH] ⟨[(0, .one (.dat .str a0)), (1, .one (.dat (.int .u8) a1)), (5, .one (.nilS)), (6, iV (0 : Int))], [], 0⟩ hX (by kernel_rfl) allNil ?_
  refine HT.seq ?_
  refine HT.rg2 [oH] ⟨[(0, .one (.dat .str a0)), (1, .one (.dat (.int .u8) a1)), (5, .one (.nilS)), (6, iV (0 : Int)), (7, iV (0 : Int))], [], 0⟩ hX (by kernel_rfl) allNil ?_
  refine HT.block ?_
  obtain ⟨r2, hL19, hr⟩ := of_bind hr
  refine HT.loopL (fun (s1 : Int × Int × List (List UInt8)) => ⟨[(0, .one (.dat .str a0)), (1, .one (.dat (.int .u8) a1)), (5, aV 0), (6, iV s1.1), (7, iV s1.2.1)], [(0, .seq .str s1.2.2)], 1⟩) (fun (r3 : List (List UInt8)) => (.exit 0, ⟨[(5, aV 0)], [(0, .seq .str r3)], 1⟩)) (Le.re [] [0] hX (by kernel_rfl)) hL19 ?_ (fun s1 x4 hx5 hk6 => ?_)
  · refine (qBlockX (qThen ?_))
    refine HT.rg2 (oHs 2) ⟨[(4, aV 0)], [(0, .seq .str r2)], 1⟩ hX (by kernel_rfl) allNil ?_
    have hr := of_some hr
    subst hr
    exact HT.ret ⟨[aV 0], [0], [], by kernel_rfl, by kernel_rfl, rfl, by kernel_rfl, by kernel_rfl, trivial⟩
  · refine HT.seq ?_
    refine HT.rg2 (oHs 4) ⟨[(0, .one (.dat .str a0)), (1, .one (.dat (.int .u8) a1)), (5, aV 0), (6, iV s1.1), (7, iV s1.2.1), (12, bV (decide (s1.2.1 ≤ (lenI a0))))], [(0, .seq .str s1.2.2)], 1⟩ hX (by kernel_rfl) allNil ?_
    rcases of_bif hx5 with ⟨hb7, hx5⟩ | ⟨hb7, hx5⟩
    · refine HT.cond1 rfl hb7 ?_
      refine HT.skip (qThen ?_)
      obtain ⟨v8', hT10, hx5⟩ := of_bind hx5
      refine HT.join (fun (v8 : Int × List (List UInt8)) => ⟨[(0, .one (.dat .str a0)), (1, .one (.dat (.int .u8) a1)), (5, aV 0), (6, iV v8.1), (7, iV s1.2.1)], [(0, .seq .str v8.2)], 1⟩) (fun v => v = v8') (fun v8 hv9 => ?_) (fun cont => ?_)
      · subst hv9
        have hx5 := of_some hx5
        subst hx5
        exact HT.rgK (oHs 3) [(0, 0)] [] hX (by kernel_rfl) allNil (fun _ h => (qLoopN ⟨(v8.1, (wadd .i64 s1.2.1 (1 : Int)), v8.2), rfl, h⟩))
      · refine HT.block ?_
        obtain ⟨v11', hT13, hT10⟩ := of_bind hT10
        refine HT.join (fun (v11 : Bool) => ⟨[(0, .one (.dat .str a0)), (1, .one (.dat (.int .u8) a1)), (5, aV 0), (6, iV s1.1), (7, iV s1.2.1), (25, bV v11)], [(0, .seq .str s1.2.2)], 1⟩) (fun v => v = v11') (fun v11 hv12 => ?_) (fun cont => ?_)
        · subst hv12
          rcases of_bif hT10 with ⟨hb14, hT10⟩ | ⟨hb14, hT10⟩
          · refine HT.cond1 rfl hb14 ?_
            obtain ⟨hg15, hT10⟩ := of_guard hT10
            obtain ⟨hg16, hT10⟩ := of_guard hT10
            refine HT.rg2 [oH, oH, oH, oH, oH, ⟨none, .ty .str⟩, ⟨none, .ty .str⟩, oH] ⟨[(0, .one (.dat .str a0)), (1, .one (.dat (.int .u8) a1)), (5, aV 2), (7, iV s1.2.1)], [(2, .seq .str (s1.2.2 ++ ([(cut a0 s1.1 s1.2.1)] : List (List UInt8))))], 3⟩ hX (by kernel_rfl) (allCons hg15 (allCons hg16 allNil)) ?_
            exact HT.rgK (oHs 3) [(2, 0)] [] hX (by kernel_rfl) allNil (fun _ h => (qBlock (qThen (h.ht (cont ((wadd .i64 s1.2.1 (1 : Int)), (s1.2.2 ++ ([(cut a0 s1.1 s1.2.1)] : List (List UInt8)))) (of_some hT10))))))
          · refine HT.cond0 rfl hb14 ?_
            refine HT.skip (qBlock (qThen ?_))
            exact (Le.re [(0, 0)] [] hX (by kernel_rfl)).ht (cont (s1.1, s1.2.2) (of_some hT10))
        · rcases of_bif hT13 with ⟨hb17, hT13⟩ | ⟨hb17, hT13⟩
          · exact HT.rgK [oH, oH, oH, oH, oH, ⟨some true, .no⟩, ⟨some true, .no⟩, ⟨some true, .no⟩, ⟨some true, .no⟩, ⟨some true, .no⟩, ⟨none, .tv true⟩] [(0, 0)] [] hX (by kernel_rfl) (allCons hb17 (allCons hb17 (allCons hb17 (allCons hb17 (allCons hb17 (allCons hb17 allNil)))))) (fun _ h => (qThen (h.ht (cont true (of_some hT13)))))
          · obtain ⟨hg18, hT13⟩ := of_guard hT13
            exact HT.rgK [oH, oH, oH, oH, oH, ⟨some false, .no⟩, ⟨some false, .no⟩, ⟨some false, .no⟩, ⟨some false, .no⟩, ⟨some false, .no⟩, ⟨none, .tv false⟩] [(0, 0)] [] hX (by kernel_rfl) (allCons hb17 (allCons hb17 (allCons hb17 (allCons hg18 (allCons hb17 (allCons hb17 (allCons hb17 allNil))))))) (fun _ h => (qThen (h.ht (cont (((((List.getD a0 (Int.toNat s1.2.1) 0 : UInt8).toNat : Nat)) : Int) == a1) (of_some hT13)))))
    · refine HT.cond0 rfl hb7 ?_
      have hx5 := of_some hx5
      subst hx5
      exact HT.exitL (Le.re [(0, 0)] [] hX (by kernel_rfl)) (qThenE (qLoopE (hk6 s1.2.2 rfl)))

noncomputable def spec_l00In (a0 : Int) (a1 : Int) (a2 : Int) : Option (Bool) :=
  (show Option (Bool) from
    bif (decide (a0 ≥ a1)) then
      some (decide (a0 ≤ a2))
    else
      some false).bind fun v1 =>
  some v1

theorem f111_ok {a0 : Int} {a1 : Int} {a2 : Int} {r : Bool} (hr : spec_l00In a0 a1 a2 = some r) : CallOK Tryd.prog 111 [.imm tI a0, .imm tI a1, .imm tI a2] [⟨false, .bool, r⟩] [] := by
  unfold spec_l00In at hr
  refine CallOK.of_body (ts := [(false, .bool)]) Tryd.func111 rfl (by kernel_rfl) (Nat.le_of_ble_eq_true (by kernel_rfl)) fun cx hP hN hO hF => ?_
  have hO : cx.own.map Prod.fst = [] := hO
  have hX := CxIs.mk hP hN hO
  have hF := hF rfl
  show HT cx ⟨[(0, iV a0), (1, iV a1), (2, iV a2)], [], 0⟩ _ _
  refine HT.rg2 [oH] ⟨[(0, iV a0), (1, iV a1), (2, iV a2)], [], 0⟩ hX (by kernel_rfl) allNil ?_
  obtain ⟨v1', hT3, hr⟩ := of_bind hr
  refine HT.join (fun (v1 : Bool) => ⟨[(6, bV v1)], [], 0⟩) (fun v => v = v1') (fun v1 hv2 => ?_) (fun cont => ?_)
  · subst hv2
    have hr := of_some hr
    subst hr
    exact HT.ret ⟨[bV v1], [], [], by kernel_rfl, by kernel_rfl, rfl, by kernel_rfl, by kernel_rfl, trivial⟩
  · rcases of_bif hT3 with ⟨hb4, hT3⟩ | ⟨hb4, hT3⟩
    · exact HT.rgK [oH, oH, oH, oH, ⟨some true, .no⟩, ⟨some true, .no⟩, ⟨some true, .no⟩, ⟨none, .tv true⟩, oH] [] [] hX (by kernel_rfl) (allCons hb4 (allCons hb4 (allCons hb4 (allCons hb4 allNil)))) (fun _ h => (qThen (h.ht (cont (decide (a0 ≤ a2)) (of_some hT3)))))
    · exact HT.rgK [oH, oH, oH, oH, ⟨some false, .no⟩, ⟨some false, .no⟩, ⟨some false, .no⟩, ⟨none, .tv false⟩, oH] [] [] hX (by kernel_rfl) (allCons hb4 (allCons hb4 (allCons hb4 (allCons hb4 allNil)))) (fun _ h => (qThen (h.ht (cont false (of_some hT3)))))

noncomputable def spec_l01Dec_B1  (s1 : Int × List Int) : Option ((Int × List Int) ⊕ (List Int)) :=
  (show Option (Bool) from
    bif ((lenI s1.2) == (0 : Int)) then
      some true
    else
      some (s1.1 != (0 : Int))).bind fun v12 =>
  bif v12 then
    (show Option (Int) from
      bif (decide ((Int.tmod s1.1 (10 : Int)) < (0 : Int))) then
        some (IntKind.wrap .i64 (0 - (Int.tmod s1.1 (10 : Int))))
      else
        some (Int.tmod s1.1 (10 : Int))).bind fun v16 =>
    guardP (List.length ([(IntKind.wrap .u8 (wadd .i64 (48 : Int) v16))] : List Int) + List.length s1.2 ≤ appMax) (
      some (.inl ((IntKind.wrap .i64 (Int.tdiv s1.1 (10 : Int))), (([(IntKind.wrap .u8 (wadd .i64 (48 : Int) v16))] : List Int) ++ s1.2))))
  else
    some (.inr s1.2)

noncomputable def spec_l01Dec (a0 : Int) : Option (List UInt8) :=
  (rounds (spec_l01Dec_B1) (a0, ([] : List Int))).bind fun r3 =>
  (show Option (List Int) from
    bif (decide (a0 < (0 : Int))) then
      guardP (List.length ([(45 : Int)] : List Int) + List.length r3 ≤ appMax) (
        some (([(45 : Int)] : List Int) ++ r3))
    else
      some r3).bind fun v4 =>
  some (bytesO v4)

theorem f104_ok {a0 : Int} {r : List UInt8} (hr : spec_l01Dec a0 = some r) : CallOK Tryd.prog 104 [.imm tI a0] [⟨false, .str, r⟩] [] := by
  unfold spec_l01Dec at hr
  refine CallOK.of_body (ts := [(false, .str)]) Tryd.func104 rfl (by kernel_rfl) (Nat.le_of_ble_eq_true (by kernel_rfl)) fun cx hP hN hO hF => ?_
  have hO : cx.own.map Prod.fst = [] := hO
  have hX := CxIs.mk hP hN hO
  have hF := hF rfl
  show HT cx ⟨[(0, iV a0)], [], 0⟩ _ _
  refine HT.rg2 [oH] ⟨[(0, iV a0)], [], 0⟩ hX (by kernel_rfl) allNil ?_
  refine HT.rg2 (oHs 2) ⟨[(0, iV a0), (3, .one (.nilS))], [], 0⟩ hX (by kernel_rfl) allNil ?_
  refine HT.rg2 (oHs 2) ⟨[(0, iV a0), (3, .one (.nilS)), (4, iV a0)], [], 0⟩ hX (by kernel_rfl) allNil ?_
  refine HT.seq ?_
  refine HT.block ?_
  obtain ⟨r2, hL22, hr⟩ := of_bind hr
  refine HT.loopL (fun (s1 : Int × List Int) => ⟨[(0, iV a0), (3, aV 0), (4, iV s1.1)], [(0, .seq (.int .u8) s1.2)], 1⟩) (fun (r3 : List Int) => (.exit 0, ⟨[(0, iV a0), (3, aV 0)], [(0, .seq (.int .u8) r3)], 1⟩)) (Le.re [] [0] hX (by kernel_rfl)) hL22 ?_ (fun s1 x9 hx10 hk11 => ?_)
  · refine (qBlockX (qThen ?_))
    obtain ⟨v4', hT6, hr⟩ := of_bind hr
    refine HT.join (fun (v4 : List Int) => ⟨[(3, aV 0)], [(0, .seq (.int .u8) v4)], 1⟩) (fun v => v = v4') (fun v4 hv5 => ?_) (fun cont => ?_)
    · subst hv5
      refine HT.rg2 (oHs 3) ⟨[(2, .one (.dat .str (bytesO v4)))], [], 1⟩ hX (by kernel_rfl) allNil ?_
      have hr := of_some hr
      subst hr
      exact HT.ret ⟨[.one (.dat .str (bytesO v4))], [], [], by kernel_rfl, by kernel_rfl, rfl, by kernel_rfl, by kernel_rfl, trivial⟩
    · refine HT.rg2 (oHs 2) ⟨[(3, aV 0), (30, bV (decide (a0 < (0 : Int))))], [(0, .seq (.int .u8) r2)], 1⟩ hX (by kernel_rfl) allNil ?_
      rcases of_bif hT6 with ⟨hb7, hT6⟩ | ⟨hb7, hT6⟩
      · refine HT.cond1 rfl hb7 ?_
        obtain ⟨hg8, hT6⟩ := of_guard hT6
        exact HT.rgK [⟨none, .ty (.int .u8)⟩, oH, ⟨none, .ty (.int .u8)⟩, oH] [(2, 0)] [] hX (by kernel_rfl) (allCons hg8 allNil) (fun _ h => (qThen (h.ht (cont (([(45 : Int)] : List Int) ++ r2) (of_some hT6)))))
      · refine HT.cond0 rfl hb7 ?_
        refine HT.skip (qThen ?_)
        exact (Le.re [(0, 0)] [] hX (by kernel_rfl)).ht (cont r2 (of_some hT6))
  · refine HT.seq ?_
    obtain ⟨v12', hT14, hx10⟩ := of_bind hx10
    refine HT.join (fun (v12 : Bool) => ⟨[(0, iV a0), (3, aV 0), (4, iV s1.1), (14, bV v12)], [(0, .seq (.int .u8) s1.2)], 1⟩) (fun v => v = v12') (fun v12 hv13 => ?_) (fun cont => ?_)
    · subst hv13
      rcases of_bif hx10 with ⟨hb15, hx10⟩ | ⟨hb15, hx10⟩
      · refine HT.cond1 rfl hb15 ?_
        refine HT.skip (qThen ?_)
        refine HT.block ?_
        refine HT.rg2 (oHs 3) ⟨[(0, iV a0), (3, aV 0), (4, iV s1.1), (5, iV (Int.tmod s1.1 (10 : Int)))], [(0, .seq (.int .u8) s1.2)], 1⟩ hX (by kernel_rfl) (allCons (show (10 : Int) ≠ 0 from by decide) allNil) ?_
        obtain ⟨v16', hT18, hx10⟩ := of_bind hx10
        refine HT.join (fun (v16 : Int) => ⟨[(0, iV a0), (3, aV 0), (4, iV s1.1), (5, iV v16)], [(0, .seq (.int .u8) s1.2)], 1⟩) (fun v => v = v16') (fun v16 hv17 => ?_) (fun cont => ?_)
        · subst hv17
          obtain ⟨hg19, hx10⟩ := of_guard hx10
          refine HT.rg2 [oH, oH, oH, ⟨none, .ty (.int .u8)⟩, oH, ⟨none, .ty (.int .u8)⟩, oH] ⟨[(0, iV a0), (3, aV 2), (4, iV s1.1)], [(2, .seq (.int .u8) (([(IntKind.wrap .u8 (wadd .i64 (48 : Int) v16))] : List Int) ++ s1.2))], 3⟩ hX (by kernel_rfl) (allCons hg19 allNil) ?_
          have hx10 := of_some hx10
          subst hx10
          exact HT.rgK (oHs 3) [(2, 0)] [] hX (by kernel_rfl) (allCons (show (10 : Int) ≠ 0 from by decide) allNil) (fun _ h => (qBlock (qLoopN ⟨((IntKind.wrap .i64 (Int.tdiv s1.1 (10 : Int))), (([(IntKind.wrap .u8 (wadd .i64 (48 : Int) v16))] : List Int) ++ s1.2)), rfl, h⟩)))
        · refine HT.rg2 (oHs 2) ⟨[(0, iV a0), (3, aV 0), (4, iV s1.1), (5, iV (Int.tmod s1.1 (10 : Int))), (18, bV (decide ((Int.tmod s1.1 (10 : Int)) < (0 : Int))))], [(0, .seq (.int .u8) s1.2)], 1⟩ hX (by kernel_rfl) allNil ?_
          rcases of_bif hT18 with ⟨hb20, hT18⟩ | ⟨hb20, hT18⟩
          · refine HT.cond1 rfl hb20 ?_
            exact HT.rgK (oHs 3) [(0, 0)] [] hX (by kernel_rfl) allNil (fun _ h => (qThen (h.ht (cont (IntKind.wrap .i64 (0 - (Int.tmod s1.1 (10 : Int)))) (of_some hT18)))))
          · refine HT.cond0 rfl hb20 ?_
            refine HT.skip (qThen ?_)
            exact (Le.re [(0, 0)] [] hX (by kernel_rfl)).ht (cont (Int.tmod s1.1 (10 : Int)) (of_some hT18))
      · refine HT.cond0 rfl hb15 ?_
        have hx10 := of_some hx10
        subst hx10
        exact HT.exitL (Le.re [(0, 0)] [] hX (by kernel_rfl)) (qThenE (qLoopE (hk11 s1.2 rfl)))
    · rcases of_bif hT14 with ⟨hb21, hT14⟩ | ⟨hb21, hT14⟩
      · exact HT.rgK [oH, oH, oH, oH, ⟨some true, .no⟩, ⟨some true, .no⟩, ⟨none, .tv true⟩] [(0, 0)] [] hX (by kernel_rfl) (allCons hb21 (allCons hb21 (allCons hb21 allNil))) (fun _ h => (qThen (h.ht (cont true (of_some hT14)))))
      · exact HT.rgK [oH, oH, oH, oH, ⟨some false, .no⟩, ⟨some false, .no⟩, ⟨none, .tv false⟩] [(0, 0)] [] hX (by kernel_rfl) (allCons hb21 (allCons hb21 (allCons hb21 allNil))) (fun _ h => (qThen (h.ht (cont (s1.1 != (0 : Int)) (of_some hT14)))))

noncomputable def spec_l01Value_B1 (a0 : List UInt8) (s5 : Int × Int) : Option ((Int × Int) ⊕ (Int)) :=
  bif (decide (s5.2 < (lenI a0))) then
    (show Option (Int) from
      (show Option (Bool) from
        guardP ((0 : Int) ≤ s5.2 ∧ s5.2 < lenI a0) (
          bif (decide (((((List.getD a0 (Int.toNat s5.2) 0 : UInt8).toNat : Nat)) : Int) ≥ (48 : Int))) then
            some (decide (((((List.getD a0 (Int.toNat s5.2) 0 : UInt8).toNat : Nat)) : Int) ≤ (57 : Int)))
          else
            some false)).bind fun v29 =>
      bif v29 then
        guardP ((0 : Int) ≤ s5.2 ∧ s5.2 < lenI a0) (
          some (wadd .i64 (wmul .i64 (10 : Int) s5.1) (IntKind.wrap .i64 (wsub .u8 ((((List.getD a0 (Int.toNat s5.2) 0 : UInt8).toNat : Nat)) : Int) (48 : Int)))))
      else
        some s5.1).bind fun v26 =>
    some (.inl (v26, (wadd .i64 s5.2 (1 : Int))))
  else
    some (.inr s5.1)

noncomputable def spec_l01Value (a0 : List UInt8) : Option (Int × Bool) :=
  (show Option (Bool) from
    bif (decide ((lenI a0) < (1 : Int))) then
      some true
    else
      some (decide ((lenI a0) > (17 : Int)))).bind fun v1 =>
  bif v1 then
    some ((0 : Int), false)
  else
    (rounds (spec_l01Value_B1 a0) ((0 : Int), (0 : Int))).bind fun r7 =>
    (show Option (Int) from
      guardP ((0 : Int) ≤ (0 : Int) ∧ (0 : Int) < lenI a0) (
        bif (((((List.getD a0 (Int.toNat (0 : Int)) 0 : UInt8).toNat : Nat)) : Int) == (45 : Int)) then
          some (IntKind.wrap .i64 (0 - r7))
        else
          some r7)).bind fun v8 =>
    (show Option (Bool) from
      (spec_l00In v8 (-1000000000000000 : Int) (1000000000000000 : Int)).bind fun y15 =>
      bif (!y15) then
        some true
      else
        (spec_l01Dec v8).bind fun y18 =>
        some (y18 != a0)).bind fun v11 =>
    bif v11 then
      some ((0 : Int), false)
    else
      some (v8, true)

theorem f136_ok {a0 : List UInt8} {r : Int × Bool} (hr : spec_l01Value a0 = some r) : CallOK Tryd.prog 136 [.imm .str a0] [⟨false, tI, r.1⟩, ⟨false, .bool, r.2⟩] [] := by
  unfold spec_l01Value at hr
  refine CallOK.of_body (ts := [(false, tI), (false, .bool)]) Tryd.func136 rfl (by kernel_rfl) (Nat.le_of_ble_eq_true (by kernel_rfl)) fun cx hP hN hO hF => ?_
  have hO : cx.own.map Prod.fst = [] := hO
  have hX := CxIs.mk hP hN hO
  have hF := hF rfl
  show HT cx ⟨[(0, .one (.dat .str a0))], [], 0⟩ _ _
  refine HT.rg2 (oHs 2) ⟨[(0, .one (.dat .str a0))], [], 0⟩ hX (by kernel_rfl) allNil ?_
  refine HT.seq ?_
  obtain ⟨v1', hT3, hr⟩ := of_bind hr
  refine HT.join (fun (v1 : Bool) => ⟨[(0, .one (.dat .str a0)), (13, bV v1)], [], 0⟩) (fun v => v = v1') (fun v1 hv2 => ?_) (fun cont => ?_)
  · subst hv2
    rcases of_bif hr with ⟨hb4, hr⟩ | ⟨hb4, hr⟩
    · refine HT.cond1 rfl hb4 ?_
      refine HT.rg2 (oHs 2) ⟨[(2, iV (0 : Int)), (3, bV false)], [], 0⟩ hX (by kernel_rfl) allNil ?_
      have hr := of_some hr
      subst hr
      exact HT.ret (qThenR ⟨[iV (0 : Int), bV false], [], [], by kernel_rfl, by kernel_rfl, rfl, by kernel_rfl, by kernel_rfl, trivial⟩)
    · refine HT.cond0 rfl hb4 ?_
      refine HT.skip (qThen ?_)
      refine HT.rg2 [oH] ⟨[(0, .one (.dat .str a0)), (4, iV (0 : Int))], [], 0⟩ hX (by kernel_rfl) allNil ?_
      refine HT.seq ?_
      refine HT.rg2 [oH] ⟨[(0, .one (.dat .str a0)), (4, iV (0 : Int)), (5, iV (0 : Int))], [], 0⟩ hX (by kernel_rfl) allNil ?_
      refine HT.block ?_
      obtain ⟨r6, hL36, hr⟩ := of_bind hr
      refine HT.loopL (fun (s5 : Int × Int) => ⟨[(0, .one (.dat .str a0)), (4, iV s5.1), (5, iV s5.2)], [], 0⟩) (fun (r7 : Int) => (.exit 0, ⟨[(0, .one (.dat .str a0)), (4, iV r7)], [], 0⟩)) (Le.re [] [] hX (by kernel_rfl)) hL36 ?_ (fun s5 x22 hx23 hk24 => ?_)
      · refine (qBlockX (qThen ?_))
        obtain ⟨v8', hT10, hr⟩ := of_bind hr
        refine HT.join (fun (v8 : Int) => ⟨[(0, .one (.dat .str a0)), (4, iV v8)], [], 0⟩) (fun v => v = v8') (fun v8 hv9 => ?_) (fun cont => ?_)
        · subst hv9
          refine HT.seq ?_
          obtain ⟨v11', hT13, hr⟩ := of_bind hr
          refine HT.join (fun (v11 : Bool) => ⟨[(4, iV v8), (51, bV v11)], [], 0⟩) (fun v => v = v11') (fun v11 hv12 => ?_) (fun cont => ?_)
          · subst hv12
            rcases of_bif hr with ⟨hb14, hr⟩ | ⟨hb14, hr⟩
            · refine HT.cond1 rfl hb14 ?_
              refine HT.rg2 (oHs 2) ⟨[(2, iV (0 : Int)), (3, bV false)], [], 0⟩ hX (by kernel_rfl) allNil ?_
              have hr := of_some hr
              subst hr
              exact HT.ret (qThenR ⟨[iV (0 : Int), bV false], [], [], by kernel_rfl, by kernel_rfl, rfl, by kernel_rfl, by kernel_rfl, trivial⟩)
            · refine HT.cond0 rfl hb14 ?_
              refine HT.skip (qThen ?_)
              refine HT.rg2 (oHs 3) ⟨[(2, iV v8), (3, bV true)], [], 0⟩ hX (by kernel_rfl) allNil ?_
              have hr := of_some hr
              subst hr
              exact HT.ret ⟨[iV v8, bV true], [], [], by kernel_rfl, by kernel_rfl, rfl, by kernel_rfl, by kernel_rfl, trivial⟩
          · obtain ⟨y15, hc16, hT13⟩ := of_bind hT13
            rcases of_bif hT13 with ⟨hb17, hT13⟩ | ⟨hb17, hT13⟩
            · exact HT.rgK [oH, ⟨none, .call [.imm tI, .imm tI, .imm tI] [⟨false, .bool, y15⟩] []⟩, oH, oH, ⟨some true, .no⟩, ⟨some true, .no⟩, ⟨some true, .no⟩, ⟨some true, .no⟩, ⟨none, .tv true⟩] [] [] hX (by kernel_rfl) (allCons (f111_ok hc16) (allCons hb17 (allCons hb17 (allCons hb17 (allCons hb17 (allCons hb17 allNil)))))) (fun _ h => (qThen (h.ht (cont true (of_some hT13)))))
            · obtain ⟨y18, hc19, hT13⟩ := of_bind hT13
              exact HT.rgK [oH, ⟨none, .call [.imm tI, .imm tI, .imm tI] [⟨false, .bool, y15⟩] []⟩, oH, oH, ⟨some false, .no⟩, ⟨some false, .call [.imm tI] [⟨false, .str, y18⟩] []⟩, ⟨some false, .no⟩, ⟨some false, .no⟩, ⟨none, .tv false⟩] [] [] hX (by kernel_rfl) (allCons (f111_ok hc16) (allCons hb17 (allCons hb17 (allCons (f104_ok hc19) (allCons hb17 (allCons hb17 (allCons hb17 allNil))))))) (fun _ h => (qThen (h.ht (cont (y18 != a0) (of_some hT13)))))
        · obtain ⟨hg20, hT10⟩ := of_guard hT10
          refine HT.rg2 (oHs 3) ⟨[(0, .one (.dat .str a0)), (4, iV r6), (40, bV (((((List.getD a0 (Int.toNat (0 : Int)) 0 : UInt8).toNat : Nat)) : Int) == (45 : Int)))], [], 0⟩ hX (by kernel_rfl) (allCons hg20 allNil) ?_
          rcases of_bif hT10 with ⟨hb21, hT10⟩ | ⟨hb21, hT10⟩
          · refine HT.cond1 rfl hb21 ?_
            exact HT.rgK (oHs 3) [] [] hX (by kernel_rfl) allNil (fun _ h => (qThen (h.ht (cont (IntKind.wrap .i64 (0 - r6)) (of_some hT10)))))
          · refine HT.cond0 rfl hb21 ?_
            refine HT.skip (qThen ?_)
            exact (Le.re [] [] hX (by kernel_rfl)).ht (cont r6 (of_some hT10))
      · refine HT.seq ?_
        refine HT.rg2 (oHs 4) ⟨[(0, .one (.dat .str a0)), (4, iV s5.1), (5, iV s5.2), (17, bV (decide (s5.2 < (lenI a0))))], [], 0⟩ hX (by kernel_rfl) allNil ?_
        rcases of_bif hx23 with ⟨hb25, hx23⟩ | ⟨hb25, hx23⟩
        · refine HT.cond1 rfl hb25 ?_
          refine HT.skip (qThen ?_)
          obtain ⟨v26', hT28, hx23⟩ := of_bind hx23
          refine HT.join (fun (v26 : Int) => ⟨[(0, .one (.dat .str a0)), (4, iV v26), (5, iV s5.2)], [], 0⟩) (fun v => v = v26') (fun v26 hv27 => ?_) (fun cont => ?_)
          · subst hv27
            have hx23 := of_some hx23
            subst hx23
            exact HT.rgK (oHs 3) [] [] hX (by kernel_rfl) allNil (fun _ h => (qLoopN ⟨(v26, (wadd .i64 s5.2 (1 : Int))), rfl, h⟩))
          · refine HT.block ?_
            obtain ⟨v29', hT31, hT28⟩ := of_bind hT28
            refine HT.join (fun (v29 : Bool) => ⟨[(0, .one (.dat .str a0)), (4, iV s5.1), (5, iV s5.2), (29, bV v29)], [], 0⟩) (fun v => v = v29') (fun v29 hv30 => ?_) (fun cont => ?_)
            · subst hv30
              rcases of_bif hT28 with ⟨hb32, hT28⟩ | ⟨hb32, hT28⟩
              · refine HT.cond1 rfl hb32 ?_
                obtain ⟨hg33, hT28⟩ := of_guard hT28
                exact HT.rgK (oHs 9) [] [] hX (by kernel_rfl) (allCons hg33 allNil) (fun _ h => (qBlock (qThen (h.ht (cont (wadd .i64 (wmul .i64 (10 : Int) s5.1) (IntKind.wrap .i64 (wsub .u8 ((((List.getD a0 (Int.toNat s5.2) 0 : UInt8).toNat : Nat)) : Int) (48 : Int)))) (of_some hT28))))))
              · refine HT.cond0 rfl hb32 ?_
                refine HT.skip (qBlock (qThen ?_))
                exact (Le.re [] [] hX (by kernel_rfl)).ht (cont s5.1 (of_some hT28))
            · obtain ⟨hg34, hT31⟩ := of_guard hT31
              rcases of_bif hT31 with ⟨hb35, hT31⟩ | ⟨hb35, hT31⟩
              · exact HT.rgK [oH, oH, oH, oH, oH, ⟨some true, .no⟩, ⟨some true, .no⟩, ⟨some true, .no⟩, ⟨some true, .no⟩, ⟨none, .tv true⟩] [] [] hX (by kernel_rfl) (allCons hg34 (allCons hb35 (allCons hb35 (allCons hb35 (allCons hg34 (allCons hb35 (allCons hb35 allNil))))))) (fun _ h => (qThen (h.ht (cont (decide (((((List.getD a0 (Int.toNat s5.2) 0 : UInt8).toNat : Nat)) : Int) ≤ (57 : Int))) (of_some hT31)))))
              · exact HT.rgK [oH, oH, oH, oH, oH, ⟨some false, .no⟩, ⟨some false, .no⟩, ⟨some false, .no⟩, ⟨some false, .no⟩, ⟨none, .tv false⟩] [] [] hX (by kernel_rfl) (allCons hg34 (allCons hb35 (allCons hb35 (allCons hb35 (allCons hb35 (allCons hb35 allNil)))))) (fun _ h => (qThen (h.ht (cont false (of_some hT31)))))
        · refine HT.cond0 rfl hb25 ?_
          have hx23 := of_some hx23
          subst hx23
          exact HT.exitL (Le.re [] [] hX (by kernel_rfl)) (qThenE (qLoopE (hk24 s5.1 rfl)))
  · rcases of_bif hT3 with ⟨hb37, hT3⟩ | ⟨hb37, hT3⟩
    · exact HT.rgK [oH, oH, oH, oH, ⟨some true, .no⟩, ⟨some true, .no⟩, ⟨some true, .no⟩, ⟨none, .tv true⟩] [] [] hX (by kernel_rfl) (allCons hb37 (allCons hb37 (allCons hb37 (allCons hb37 allNil)))) (fun _ h => (qThen (h.ht (cont true (of_some hT3)))))
    · exact HT.rgK [oH, oH, oH, oH, ⟨some false, .no⟩, ⟨some false, .no⟩, ⟨some false, .no⟩, ⟨none, .tv false⟩] [] [] hX (by kernel_rfl) (allCons hb37 (allCons hb37 (allCons hb37 (allCons hb37 allNil)))) (fun _ h => (qThen (h.ht (cont (decide ((lenI a0) > (17 : Int))) (of_some hT3)))))

noncomputable def spec_l01Numbers_B1 (y2 : List (List UInt8)) (s5 : Int × List Int) : Option ((Int × List Int) ⊕ (List Int ⊕ Unit)) :=
  bif (decide (s5.1 < (lenI y2))) then
    guardP ((0 : Int) ≤ s5.1 ∧ s5.1 < lenI y2) (
      (spec_l01Value (List.getD y2 (Int.toNat s5.1) ([] : List UInt8))).bind fun y14 =>
      bif (!y14.2) then
        some (.inr (.inr ()))
      else
        guardP (List.length s5.2 + List.length ([y14.1] : List Int) ≤ appMax) (
          some (.inl ((wadd .i64 s5.1 (1 : Int)), (s5.2 ++ ([y14.1] : List Int))))))
  else
    some (.inr (.inl s5.2))

noncomputable def spec_l01Numbers (a0 : List UInt8) : Option (List Int × Bool) :=
  bif (a0 == ([110, 111, 110, 101] : List UInt8)) then
    some (([] : List Int), true)
  else
    (spec_l01Cut a0 (44 : Int)).bind fun y2 =>
    bif (decide ((lenI y2) > (64 : Int))) then
      some (([] : List Int), false)
    else
      (rounds (spec_l01Numbers_B1 y2) ((0 : Int), ([] : List Int))).bind fun r6 => match r6 with
        | .inl r7 =>
          some (r7, true)
        | .inr r8 =>
          some (([] : List Int), false)

theorem f122_ok {a0 : List UInt8} {r : List Int × Bool} (hr : spec_l01Numbers a0 = some r) : CallOK Tryd.prog 122 [.imm .str a0] [⟨true, tLI, r.1⟩, ⟨false, .bool, r.2⟩] [] := by
  unfold spec_l01Numbers at hr
  refine CallOK.of_body (ts := [(true, tLI), (false, .bool)]) Tryd.func122 rfl (by kernel_rfl) (Nat.le_of_ble_eq_true (by kernel_rfl)) fun cx hP hN hO hF => ?_
  have hO : cx.own.map Prod.fst = [] := hO
  have hX := CxIs.mk hP hN hO
  have hF := hF rfl
  show HT cx ⟨[(0, .one (.dat .str a0))], [], 0⟩ _ _
  refine HT.rg2 (oHs 2) ⟨[(0, .one (.dat .str a0))], [], 0⟩ hX (by kernel_rfl) allNil ?_
  refine HT.rg2 (oHs 2) ⟨[(0, .one (.dat .str a0)), (4, .one (.nilS))], [], 0⟩ hX (by kernel_rfl) allNil ?_
  refine HT.seq ?_
  refine HT.rg2 (oHs 2) ⟨[(0, .one (.dat .str a0)), (4, .one (.nilS)), (11, bV (a0 == ([110, 111, 110, 101] : List UInt8)))], [], 0⟩ hX (by kernel_rfl) allNil ?_
  rcases of_bif hr with ⟨hb1, hr⟩ | ⟨hb1, hr⟩
  · refine HT.cond1 rfl hb1 ?_
    refine HT.rg2 (oHs 3) ⟨[(2, .one (.nilS)), (3, bV true)], [], 0⟩ hX (by kernel_rfl) allNil ?_
    have hr := of_some hr
    subst hr
    exact HT.ret (qThenR ⟨[.one (.nilS), bV true], [], [], by kernel_rfl, by kernel_rfl, rfl, by kernel_rfl, by kernel_rfl, trivial⟩)
  · refine HT.cond0 rfl hb1 ?_
    refine HT.skip (qThen ?_)
    obtain ⟨y2, hc3, hr⟩ := of_bind hr
    refine HT.rg2 [oH, ⟨none, .call [.imm .str, .imm (.int .u8)] [⟨true, (.sl .str), y2⟩] []⟩, oH] ⟨[(4, .one (.nilS)), (5, aV 0)], [(0, .seq .str y2)], 1⟩ hX (by kernel_rfl) (allCons (f121_ok hc3) allNil) ?_
    refine HT.seq ?_
    refine HT.rg2 (oHs 3) ⟨[(4, .one (.nilS)), (5, aV 0), (17, bV (decide ((lenI y2) > (64 : Int))))], [(0, .seq .str y2)], 1⟩ hX (by kernel_rfl) allNil ?_
    rcases of_bif hr with ⟨hb4, hr⟩ | ⟨hb4, hr⟩
    · refine HT.cond1 rfl hb4 ?_
      refine HT.rg2 (oHs 2) ⟨[(2, .one (.nilS)), (3, bV false)], [], 1⟩ hX (by kernel_rfl) allNil ?_
      have hr := of_some hr
      subst hr
      exact HT.ret (qThenR ⟨[.one (.nilS), bV false], [], [], by kernel_rfl, by kernel_rfl, rfl, by kernel_rfl, by kernel_rfl, trivial⟩)
    · refine HT.cond0 rfl hb4 ?_
      refine HT.skip (qThen ?_)
      refine HT.seq ?_
      refine HT.rg2 [oH] ⟨[(4, .one (.nilS)), (5, aV 0), (6, iV (0 : Int))], [(0, .seq .str y2)], 1⟩ hX (by kernel_rfl) allNil ?_
      refine HT.block ?_
      obtain ⟨r6, hL18, hr⟩ := of_bind hr
      refine HT.loopL (fun (s5 : Int × List Int) => ⟨[(4, aV 0), (5, aV 1), (6, iV s5.1)], [(0, .seq tI s5.2), (1, .seq .str y2)], 2⟩) (fun (r6 : List Int ⊕ Unit) => match r6 with | .inl r7 => (.exit 0, ⟨[(4, aV 0)], [(0, .seq tI r7)], 1⟩) | .inr r8 => (.ret, ⟨[(2, .one (.nilS)), (3, bV false)], [], 0⟩)) (Le.re [(0, 1)] [0] hX (by kernel_rfl)) hL18 ?_ (fun s5 x9 hx10 hk11 => ?_)
      · rcases r6 with r7 | r8
        · refine (qBlockX (qThen ?_))
          refine HT.rg2 (oHs 3) ⟨[(2, aV 0), (3, bV true)], [(0, .seq tI r7)], 1⟩ hX (by kernel_rfl) allNil ?_
          have hr := of_some hr
          subst hr
          exact HT.ret ⟨[aV 0, bV true], [0], [], by kernel_rfl, by kernel_rfl, rfl, by kernel_rfl, by kernel_rfl, trivial⟩
        · have hr := of_some hr
          subst hr
          exact (qBlockR (qThenR ⟨[.one (.nilS), bV false], [], [], by kernel_rfl, by kernel_rfl, rfl, by kernel_rfl, by kernel_rfl, trivial⟩))
      · refine HT.seq ?_
        refine HT.rg2 (oHs 4) ⟨[(4, aV 0), (5, aV 1), (6, iV s5.1), (21, bV (decide (s5.1 < (lenI y2))))], [(0, .seq tI s5.2), (1, .seq .str y2)], 2⟩ hX (by kernel_rfl) allNil ?_
        rcases of_bif hx10 with ⟨hb12, hx10⟩ | ⟨hb12, hx10⟩
        · refine HT.cond1 rfl hb12 ?_
          refine HT.skip (qThen ?_)
          refine HT.seq ?_
          refine HT.block ?_
          obtain ⟨hg13, hx10⟩ := of_guard hx10
          obtain ⟨y14, hc15, hx10⟩ := of_bind hx10
          refine HT.rg2 [oH, oH, oH, oH, ⟨none, .call [.imm .str] [⟨false, tI, y14.1⟩, ⟨false, .bool, y14.2⟩] []⟩, oH, oH, oH, oH, oH] ⟨[(4, aV 0), (5, aV 1), (6, iV s5.1), (7, iV y14.1), (8, bV y14.2)], [(0, .seq tI s5.2), (1, .seq .str y2)], 2⟩ hX (by kernel_rfl) (allCons hg13 (allCons (natLt hg13) (allCons (f136_ok hc15) allNil))) ?_
          refine HT.seq ?_
          refine HT.rg2 (oHs 2) ⟨[(4, aV 0), (5, aV 1), (6, iV s5.1), (7, iV y14.1), (33, bV (!y14.2))], [(0, .seq tI s5.2), (1, .seq .str y2)], 2⟩ hX (by kernel_rfl) allNil ?_
          rcases of_bif hx10 with ⟨hb16, hx10⟩ | ⟨hb16, hx10⟩
          · refine HT.cond1 rfl hb16 ?_
            refine HT.rg2 (oHs 2) ⟨[(2, .one (.nilS)), (3, bV false)], [], 2⟩ hX (by kernel_rfl) allNil ?_
            have hx10 := of_some hx10
            subst hx10
            exact HT.retL (Le.re [] [] hX (by kernel_rfl)) (qThenR (qBlockR (qThenR (qLoopR (hk11 (.inr ()) rfl)))))
          · refine HT.cond0 rfl hb16 ?_
            refine HT.skip (qThen ?_)
            obtain ⟨hg17, hx10⟩ := of_guard hx10
            refine HT.rgL [oH, oH, ⟨none, .ty tI⟩, ⟨none, .ty tI⟩, oH] ⟨[(4, aV 3), (5, aV 1), (6, iV s5.1)], [(3, .seq tI (s5.2 ++ ([y14.1] : List Int))), (1, .seq .str y2)], 4⟩ hX (by kernel_rfl) (allCons hg17 allNil) (qBlock (qThen ?_))
            have hx10 := of_some hx10
            subst hx10
            exact HT.rgK (oHs 3) [(3, 0), (1, 1)] [] hX (by kernel_rfl) allNil (fun _ h => (qLoopN ⟨((wadd .i64 s5.1 (1 : Int)), (s5.2 ++ ([y14.1] : List Int))), rfl, h⟩))
        · refine HT.cond0 rfl hb12 ?_
          have hx10 := of_some hx10
          subst hx10
          exact HT.exitL (Le.re [(0, 0)] [] hX (by kernel_rfl)) (qThenE (qLoopE (hk11 (.inl s5.2) rfl)))

noncomputable def spec_l06Is_B1 (a0 : Int × Int × List (Int × Int × Int × Int)) (s5 : Int) : Option ((Int) ⊕ (Unit ⊕ Unit)) :=
  bif (decide (s5 < (lenI a0.2.2))) then
    guardP ((0 : Int) ≤ s5 ∧ s5 < lenI a0.2.2) (
      (show Option (Bool) from
        (spec_l00In ((List.getD a0.2.2 (Int.toNat s5) ((0 : Int), (0 : Int), (0 : Int), (0 : Int))).1) (0 : Int) (wsub .i64 a0.1 (1 : Int))).bind fun y32 =>
        bif (!y32) then
          some true
        else
          (spec_l00In ((((List.getD a0.2.2 (Int.toNat s5) ((0 : Int), (0 : Int), (0 : Int), (0 : Int))).2).2).1) (-1 : Int) (wsub .i64 a0.1 (1 : Int))).bind fun y35 =>
          bif (!y35) then
            some true
          else
            (spec_l00In ((((List.getD a0.2.2 (Int.toNat s5) ((0 : Int), (0 : Int), (0 : Int), (0 : Int))).2).2).2) (0 : Int) (1000 : Int)).bind fun y38 =>
            some (!y38)).bind fun v14 =>
      bif v14 then
        some (.inr (.inr ()))
      else
        (show Option (Bool) from
          bif (decide ((((List.getD a0.2.2 (Int.toNat s5) ((0 : Int), (0 : Int), (0 : Int), (0 : Int))).2).2).1 < (0 : Int))) then
            (spec_l00In (((List.getD a0.2.2 (Int.toNat s5) ((0 : Int), (0 : Int), (0 : Int), (0 : Int))).2).1) (0 : Int) (wsub .i64 a0.2.1 (1 : Int))).bind fun y23 =>
            bif (!y23) then
              some true
            else
              bif (decide ((((List.getD a0.2.2 (Int.toNat s5) ((0 : Int), (0 : Int), (0 : Int), (0 : Int))).2).2).1 ≥ (0 : Int))) then
                (spec_l00In (((List.getD a0.2.2 (Int.toNat s5) ((0 : Int), (0 : Int), (0 : Int), (0 : Int))).2).1) (0 : Int) (wsub .i64 a0.1 (1 : Int))).bind fun y27 =>
                some (!y27)
              else
                some false
          else
            bif (decide ((((List.getD a0.2.2 (Int.toNat s5) ((0 : Int), (0 : Int), (0 : Int), (0 : Int))).2).2).1 ≥ (0 : Int))) then
              (spec_l00In (((List.getD a0.2.2 (Int.toNat s5) ((0 : Int), (0 : Int), (0 : Int), (0 : Int))).2).1) (0 : Int) (wsub .i64 a0.1 (1 : Int))).bind fun y30 =>
              some (!y30)
            else
              some false).bind fun v18 =>
        bif v18 then
          some (.inr (.inr ()))
        else
          some (.inl (wadd .i64 s5 (1 : Int))))
  else
    some (.inr (.inl ()))

noncomputable def spec_l06Is (a0 : Int × Int × List (Int × Int × Int × Int)) : Option (Bool) :=
  (show Option (Bool) from
    (spec_l00In a0.1 (1 : Int) (8 : Int)).bind fun y41 =>
    bif (!y41) then
      some true
    else
      (spec_l00In a0.2.1 (1 : Int) (4 : Int)).bind fun y44 =>
      bif (!y44) then
        some true
      else
        some (decide ((lenI a0.2.2) > (32 : Int)))).bind fun v1 =>
  bif v1 then
    some false
  else
    (rounds (spec_l06Is_B1 a0) (0 : Int)).bind fun r6 => match r6 with
      | .inl r7 =>
        some true
      | .inr r8 =>
        some false

theorem f61_ok {a0 : Int × Int × List (Int × Int × Int × Int)} {r : Bool} (hr : spec_l06Is a0 = some r) : CallOK Tryd.prog 61 [.pimm (.st (.pair tI (.pair tI (.sl (.st (.pair tI (.pair tI (.pair tI tI)))))))) a0] [⟨false, .bool, r⟩] [] := by
  unfold spec_l06Is at hr
  refine CallOK.of_body (ts := [(false, .bool)]) Tryd.func61 rfl (by kernel_rfl) (Nat.le_of_ble_eq_true (by kernel_rfl)) fun cx hP hN hO hF => ?_
  have hO : cx.own.map Prod.fst = [] := hO
  have hX := CxIs.mk hP hN hO
  have hF := hF rfl
  show HT cx ⟨[(0, .one (.ip (.st (.pair tI (.pair tI (.sl (.st (.pair tI (.pair tI (.pair tI tI)))))))) a0 0))], [], 0⟩ _ _
  refine HT.rg2 [oH] ⟨[(0, .one (.ip (.st (.pair tI (.pair tI (.sl (.st (.pair tI (.pair tI (.pair tI tI)))))))) a0 0))], [], 0⟩ hX (by kernel_rfl) allNil ?_
  refine HT.seq ?_
  obtain ⟨v1', hT3, hr⟩ := of_bind hr
  refine HT.join (fun (v1 : Bool) => ⟨[(0, .one (.ip (.st (.pair tI (.pair tI (.sl (.st (.pair tI (.pair tI (.pair tI tI)))))))) a0 0)), (26, bV v1)], [], 0⟩) (fun v => v = v1') (fun v1 hv2 => ?_) (fun cont => ?_)
  · subst hv2
    rcases of_bif hr with ⟨hb4, hr⟩ | ⟨hb4, hr⟩
    · refine HT.cond1 rfl hb4 ?_
      refine HT.rg2 [oH] ⟨[(2, bV false)], [], 0⟩ hX (by kernel_rfl) allNil ?_
      have hr := of_some hr
      subst hr
      exact HT.ret (qThenR ⟨[bV false], [], [], by kernel_rfl, by kernel_rfl, rfl, by kernel_rfl, by kernel_rfl, trivial⟩)
    · refine HT.cond0 rfl hb4 ?_
      refine HT.skip (qThen ?_)
      refine HT.seq ?_
      refine HT.rg2 [oH] ⟨[(0, .one (.ip (.st (.pair tI (.pair tI (.sl (.st (.pair tI (.pair tI (.pair tI tI)))))))) a0 0)), (3, iV (0 : Int))], [], 0⟩ hX (by kernel_rfl) allNil ?_
      refine HT.block ?_
      obtain ⟨r6, hL40, hr⟩ := of_bind hr
      refine HT.loopL (fun (s5 : Int) => ⟨[(0, .one (.ip (.st (.pair tI (.pair tI (.sl (.st (.pair tI (.pair tI (.pair tI tI)))))))) a0 0)), (3, iV s5)], [], 0⟩) (fun (r6 : Unit ⊕ Unit) => match r6 with | .inl r7 => (.exit 0, ⟨[], [], 0⟩) | .inr r8 => (.ret, ⟨[(2, bV false)], [], 0⟩)) (Le.re [] [] hX (by kernel_rfl)) hL40 ?_ (fun s5 x9 hx10 hk11 => ?_)
      · rcases r6 with r7 | r8
        · refine (qBlockX (qThen ?_))
          refine HT.rg2 [oH] ⟨[(2, bV true)], [], 0⟩ hX (by kernel_rfl) allNil ?_
          have hr := of_some hr
          subst hr
          exact HT.ret ⟨[bV true], [], [], by kernel_rfl, by kernel_rfl, rfl, by kernel_rfl, by kernel_rfl, trivial⟩
        · have hr := of_some hr
          subst hr
          exact (qBlockR (qThenR ⟨[bV false], [], [], by kernel_rfl, by kernel_rfl, rfl, by kernel_rfl, by kernel_rfl, trivial⟩))
      · refine HT.seq ?_
        refine HT.rg2 (oHs 7) ⟨[(0, .one (.ip (.st (.pair tI (.pair tI (.sl (.st (.pair tI (.pair tI (.pair tI tI)))))))) a0 0)), (3, iV s5), (33, bV (decide (s5 < (lenI a0.2.2))))], [], 0⟩ hX (by kernel_rfl) allNil ?_
        rcases of_bif hx10 with ⟨hb12, hx10⟩ | ⟨hb12, hx10⟩
        · refine HT.cond1 rfl hb12 ?_
          refine HT.skip (qThen ?_)
          refine HT.seq ?_
          refine HT.block ?_
          obtain ⟨hg13, hx10⟩ := of_guard hx10
          refine HT.rg2 (oHs 9) ⟨[(0, .one (.ip (.st (.pair tI (.pair tI (.sl (.st (.pair tI (.pair tI (.pair tI tI)))))))) a0 0)), (3, iV s5), (4, pV 0 0)], [(0, .box [iC ((List.getD a0.2.2 (Int.toNat s5) ((0 : Int), (0 : Int), (0 : Int), (0 : Int))).1), iC (((List.getD a0.2.2 (Int.toNat s5) ((0 : Int), (0 : Int), (0 : Int), (0 : Int))).2).1), iC ((((List.getD a0.2.2 (Int.toNat s5) ((0 : Int), (0 : Int), (0 : Int), (0 : Int))).2).2).1), iC ((((List.getD a0.2.2 (Int.toNat s5) ((0 : Int), (0 : Int), (0 : Int), (0 : Int))).2).2).2)])], 1⟩ hX (by kernel_rfl) (allCons hg13 allNil) ?_
          refine HT.seq ?_
          obtain ⟨v14', hT16, hx10⟩ := of_bind hx10
          refine HT.join (fun (v14 : Bool) => ⟨[(0, .one (.ip (.st (.pair tI (.pair tI (.sl (.st (.pair tI (.pair tI (.pair tI tI)))))))) a0 0)), (3, iV s5), (4, pV 0 0), (68, bV v14)], [(0, .box [iC ((List.getD a0.2.2 (Int.toNat s5) ((0 : Int), (0 : Int), (0 : Int), (0 : Int))).1), iC (((List.getD a0.2.2 (Int.toNat s5) ((0 : Int), (0 : Int), (0 : Int), (0 : Int))).2).1), iC ((((List.getD a0.2.2 (Int.toNat s5) ((0 : Int), (0 : Int), (0 : Int), (0 : Int))).2).2).1), iC ((((List.getD a0.2.2 (Int.toNat s5) ((0 : Int), (0 : Int), (0 : Int), (0 : Int))).2).2).2)])], 1⟩) (fun v => v = v14') (fun v14 hv15 => ?_) (fun cont => ?_)
          · subst hv15
            rcases of_bif hx10 with ⟨hb17, hx10⟩ | ⟨hb17, hx10⟩
            · refine HT.cond1 rfl hb17 ?_
              refine HT.rg2 [oH] ⟨[(2, bV false)], [], 1⟩ hX (by kernel_rfl) allNil ?_
              have hx10 := of_some hx10
              subst hx10
              exact HT.retL (Le.re [] [] hX (by kernel_rfl)) (qThenR (qBlockR (qThenR (qLoopR (hk11 (.inr ()) rfl)))))
            · refine HT.cond0 rfl hb17 ?_
              refine HT.skip (qThen ?_)
              obtain ⟨v18', hT20, hx10⟩ := of_bind hx10
              refine HT.join (fun (v18 : Bool) => ⟨[(0, .one (.ip (.st (.pair tI (.pair tI (.sl (.st (.pair tI (.pair tI (.pair tI tI)))))))) a0 0)), (3, iV s5), (98, bV v18)], [], 0⟩) (fun v => v = v18') (fun v18 hv19 => ?_) (fun cont => ?_)
              · subst hv19
                rcases of_bif hx10 with ⟨hb21, hx10⟩ | ⟨hb21, hx10⟩
                · refine HT.cond1 rfl hb21 ?_
                  refine HT.rg2 [oH] ⟨[(2, bV false)], [], 0⟩ hX (by kernel_rfl) allNil ?_
                  have hx10 := of_some hx10
                  subst hx10
                  exact HT.retL (Le.re [] [] hX (by kernel_rfl)) (qBlockR (qThenR (qLoopR (hk11 (.inr ()) rfl))))
                · refine HT.cond0 rfl hb21 ?_
                  refine HT.skip (qBlock (qThen ?_))
                  have hx10 := of_some hx10
                  subst hx10
                  exact HT.rgK (oHs 3) [] [] hX (by kernel_rfl) allNil (fun _ h => (qLoopN ⟨(wadd .i64 s5 (1 : Int)), rfl, h⟩))
              · rcases of_bif hT20 with ⟨hb22, hT20⟩ | ⟨hb22, hT20⟩
                · obtain ⟨y23, hc24, hT20⟩ := of_bind hT20
                  rcases of_bif hT20 with ⟨hb25, hT20⟩ | ⟨hb25, hT20⟩
                  · exact HT.drK 26 [⟨oH, []⟩, ⟨oH, [0]⟩, ⟨oH, [0, 1]⟩, ⟨oH, [0, 1, 2]⟩, ⟨⟨some true, .no⟩, [0, 1, 2, 3]⟩, ⟨⟨some true, .no⟩, [0, 1, 2, 3, 4]⟩, ⟨⟨some true, .no⟩, [0, 1, 2, 3]⟩, ⟨⟨some true, .no⟩, [0, 1, 2, 3, 6]⟩, ⟨⟨some true, .no⟩, [0, 1, 2, 3, 6, 7]⟩, ⟨⟨some true, .no⟩, [0, 1, 2, 3, 6, 7, 8]⟩, ⟨⟨some true, .no⟩, [0, 1, 2, 3, 6, 7, 8, 9]⟩, ⟨⟨some true, .call [.imm tI, .imm tI, .imm tI] [⟨false, .bool, y23⟩] []⟩, [0, 1, 2, 3, 4, 5, 6, 7, 8, 9, 10]⟩, ⟨⟨some true, .no⟩, [0, 1, 2, 3, 4, 5, 6, 7, 8, 9, 10, 11]⟩, ⟨⟨none, .tv true⟩, [0, 1, 2, 3, 4, 5, 6, 7, 8, 9, 10, 11, 12]⟩, ⟨oH, [0, 1, 2, 3, 4, 5, 6, 7, 8, 9, 10, 11, 12, 13]⟩, ⟨⟨some true, .no⟩, [0, 1, 2, 3, 4, 5, 6, 7, 8, 9, 10, 11, 12, 13, 14]⟩, ⟨⟨some true, .no⟩, [0, 1, 2, 3, 4, 5, 6, 7, 8, 9, 10, 11, 12, 13, 14, 15]⟩, ⟨⟨some true, .no⟩, [0, 1, 2, 3, 4, 5, 6, 7, 8, 9, 10, 11, 12, 13, 14, 15, 16]⟩, ⟨⟨some true, .no⟩, [0, 1, 2, 3, 4, 5, 6, 7, 8, 9, 10, 11, 12, 13, 14, 15, 16, 17]⟩, ⟨oH, [0, 1, 2, 3, 4, 5, 6, 7, 8, 9, 10, 11, 12, 13, 14, 15, 16, 17, 18]⟩, ⟨oH, [0, 1, 2, 3, 4, 5, 6, 7, 8, 9, 10, 11, 12, 13, 14, 15, 16, 17, 18, 19]⟩, ⟨oH, [0, 1, 2, 3, 4, 5, 6, 7, 8, 9, 10, 11, 12, 13, 14, 15, 16, 17, 18]⟩, ⟨oH, [0, 1, 2, 3, 4, 5, 6, 7, 8, 9, 10, 11, 12, 13, 14, 15, 16, 17, 18, 21]⟩, ⟨oH, [0, 1, 2, 3, 4, 5, 6, 7, 8, 9, 10, 11, 12, 13, 14, 15, 16, 17, 18, 21, 22]⟩, ⟨oH, [0, 1, 2, 3, 4, 5, 6, 7, 8, 9, 10, 11, 12, 13, 14, 15, 16, 17, 18, 21, 22, 23]⟩, ⟨oH, [0, 1, 2, 3, 4, 5, 6, 7, 8, 9, 10, 11, 12, 13, 14, 15, 16, 17, 18, 21, 22, 23, 24]⟩] [[0, 1, 2, 3, 4, 5, 6, 7, 8, 9, 10, 11, 12, 13, 14, 15, 16, 17, 18, 19, 20, 21, 22, 23, 24, 25], [0, 1, 2, 3, 4, 5, 6, 7, 8, 9, 10, 11, 12, 13, 14, 15, 16, 17, 18, 19, 20, 21, 22, 23, 24, 25, 26], [0, 1, 2, 3, 4, 5, 6, 7, 8, 9, 10, 11, 12, 13, 14, 15, 16, 17, 18, 19, 20, 21, 22, 23, 24, 25, 26, 27], [0, 1, 2, 3, 4, 5, 6, 7, 8, 9, 10, 11, 12, 13, 14, 15, 16, 17, 18, 19, 20, 21, 22, 23, 24, 25, 26, 27, 28]] [oH, oH, ⟨some true, .no⟩, ⟨none, .tv true⟩] [] [] hX (by kernel_rfl) (by kernel_rfl) (allCons hb22 (allCons hb22 (allCons hb22 (allCons hb22 (allCons hb22 (allCons hb22 (allCons hb22 (allCons hb22 (allCons (f111_ok hc24) (allCons hb22 (allCons hb22 (allCons hb25 (allCons hb25 (allCons hb25 (allCons hb25 (allCons hb25 (allCons hb25 allNil))))))))))))))))) (fun _ h => (qThen (h.ht (cont true (of_some hT20)))))
                  · rcases of_bif hT20 with ⟨hb26, hT20⟩ | ⟨hb26, hT20⟩
                    · obtain ⟨y27, hc28, hT20⟩ := of_bind hT20
                      exact HT.drK 26 [⟨oH, []⟩, ⟨oH, [0]⟩, ⟨oH, [0, 1]⟩, ⟨oH, [0, 1, 2]⟩, ⟨⟨some true, .no⟩, [0, 1, 2, 3]⟩, ⟨⟨some true, .no⟩, [0, 1, 2, 3, 4]⟩, ⟨⟨some true, .no⟩, [0, 1, 2, 3]⟩, ⟨⟨some true, .no⟩, [0, 1, 2, 3, 6]⟩, ⟨⟨some true, .no⟩, [0, 1, 2, 3, 6, 7]⟩, ⟨⟨some true, .no⟩, [0, 1, 2, 3, 6, 7, 8]⟩, ⟨⟨some true, .no⟩, [0, 1, 2, 3, 6, 7, 8, 9]⟩, ⟨⟨some true, .call [.imm tI, .imm tI, .imm tI] [⟨false, .bool, y23⟩] []⟩, [0, 1, 2, 3, 4, 5, 6, 7, 8, 9, 10]⟩, ⟨⟨some true, .no⟩, [0, 1, 2, 3, 4, 5, 6, 7, 8, 9, 10, 11]⟩, ⟨⟨none, .tv true⟩, [0, 1, 2, 3, 4, 5, 6, 7, 8, 9, 10, 11, 12]⟩, ⟨oH, [0, 1, 2, 3, 4, 5, 6, 7, 8, 9, 10, 11, 12, 13]⟩, ⟨⟨some false, .no⟩, [0, 1, 2, 3, 4, 5, 6, 7, 8, 9, 10, 11, 12, 13, 14]⟩, ⟨⟨some false, .no⟩, [0, 1, 2, 3, 4, 5, 6, 7, 8, 9, 10, 11, 12, 13, 14, 15]⟩, ⟨⟨some false, .no⟩, [0, 1, 2, 3, 4, 5, 6, 7, 8, 9, 10, 11, 12, 13, 14, 15, 16]⟩, ⟨⟨some false, .no⟩, [0, 1, 2, 3, 4, 5, 6, 7, 8, 9, 10, 11, 12, 13, 14, 15, 16, 17]⟩, ⟨⟨some true, .no⟩, [0, 1, 2, 3, 4, 5, 6, 7, 8, 9, 10, 11, 12, 13, 14, 15, 16, 17, 18]⟩, ⟨⟨some true, .no⟩, [0, 1, 2, 3, 4, 5, 6, 7, 8, 9, 10, 11, 12, 13, 14, 15, 16, 17, 18, 19]⟩, ⟨⟨some true, .no⟩, [0, 1, 2, 3, 4, 5, 6, 7, 8, 9, 10, 11, 12, 13, 14, 15, 16, 17, 18]⟩, ⟨⟨some true, .no⟩, [0, 1, 2, 3, 4, 5, 6, 7, 8, 9, 10, 11, 12, 13, 14, 15, 16, 17, 18, 21]⟩, ⟨⟨some true, .no⟩, [0, 1, 2, 3, 4, 5, 6, 7, 8, 9, 10, 11, 12, 13, 14, 15, 16, 17, 18, 21, 22]⟩, ⟨⟨some true, .no⟩, [0, 1, 2, 3, 4, 5, 6, 7, 8, 9, 10, 11, 12, 13, 14, 15, 16, 17, 18, 21, 22, 23]⟩, ⟨⟨some true, .no⟩, [0, 1, 2, 3, 4, 5, 6, 7, 8, 9, 10, 11, 12, 13, 14, 15, 16, 17, 18, 21, 22, 23, 24]⟩] [[0, 1, 2, 3, 4, 5, 6, 7, 8, 9, 10, 11, 12, 13, 14, 15, 16, 17, 18, 19, 20, 21, 22, 23, 24, 25], [0, 1, 2, 3, 4, 5, 6, 7, 8, 9, 10, 11, 12, 13, 14, 15, 16, 17, 18, 19, 20, 21, 22, 23, 24, 25, 26], [0, 1, 2, 3, 4, 5, 6, 7, 8, 9, 10, 11, 12, 13, 14, 15, 16, 17, 18, 19, 20, 21, 22, 23, 24, 25, 26, 27], [0, 1, 2, 3, 4, 5, 6, 7, 8, 9, 10, 11, 12, 13, 14, 15, 16, 17, 18, 19, 20, 21, 22, 23, 24, 25, 26, 27, 28]] [⟨some true, .call [.imm tI, .imm tI, .imm tI] [⟨false, .bool, y27⟩] []⟩, ⟨some true, .no⟩, ⟨some false, .tv true⟩, ⟨none, .tv false⟩] [] [] hX (by kernel_rfl) (by kernel_rfl) (allCons hb22 (allCons hb22 (allCons hb22 (allCons hb22 (allCons hb22 (allCons hb22 (allCons hb22 (allCons hb22 (allCons (f111_ok hc24) (allCons hb22 (allCons hb22 (allCons hb25 (allCons hb25 (allCons hb25 (allCons hb25 (allCons hb26 (allCons hb26 (allCons hb26 (allCons hb26 (allCons hb26 (allCons hb26 (allCons hb26 (allCons hb26 (allCons (f111_ok hc28) (allCons hb26 (allCons hb25 (allCons hb26 (allCons hb25 allNil)))))))))))))))))))))))))))) (fun _ h => (qThen (h.ht (cont (!y27) (of_some hT20)))))
                    · exact HT.drK 26 [⟨oH, []⟩, ⟨oH, [0]⟩, ⟨oH, [0, 1]⟩, ⟨oH, [0, 1, 2]⟩, ⟨⟨some true, .no⟩, [0, 1, 2, 3]⟩, ⟨⟨some true, .no⟩, [0, 1, 2, 3, 4]⟩, ⟨⟨some true, .no⟩, [0, 1, 2, 3]⟩, ⟨⟨some true, .no⟩, [0, 1, 2, 3, 6]⟩, ⟨⟨some true, .no⟩, [0, 1, 2, 3, 6, 7]⟩, ⟨⟨some true, .no⟩, [0, 1, 2, 3, 6, 7, 8]⟩, ⟨⟨some true, .no⟩, [0, 1, 2, 3, 6, 7, 8, 9]⟩, ⟨⟨some true, .call [.imm tI, .imm tI, .imm tI] [⟨false, .bool, y23⟩] []⟩, [0, 1, 2, 3, 4, 5, 6, 7, 8, 9, 10]⟩, ⟨⟨some true, .no⟩, [0, 1, 2, 3, 4, 5, 6, 7, 8, 9, 10, 11]⟩, ⟨⟨none, .tv true⟩, [0, 1, 2, 3, 4, 5, 6, 7, 8, 9, 10, 11, 12]⟩, ⟨oH, [0, 1, 2, 3, 4, 5, 6, 7, 8, 9, 10, 11, 12, 13]⟩, ⟨⟨some false, .no⟩, [0, 1, 2, 3, 4, 5, 6, 7, 8, 9, 10, 11, 12, 13, 14]⟩, ⟨⟨some false, .no⟩, [0, 1, 2, 3, 4, 5, 6, 7, 8, 9, 10, 11, 12, 13, 14, 15]⟩, ⟨⟨some false, .no⟩, [0, 1, 2, 3, 4, 5, 6, 7, 8, 9, 10, 11, 12, 13, 14, 15, 16]⟩, ⟨⟨some false, .no⟩, [0, 1, 2, 3, 4, 5, 6, 7, 8, 9, 10, 11, 12, 13, 14, 15, 16, 17]⟩, ⟨⟨some false, .no⟩, [0, 1, 2, 3, 4, 5, 6, 7, 8, 9, 10, 11, 12, 13, 14, 15, 16, 17, 18]⟩, ⟨⟨some false, .no⟩, [0, 1, 2, 3, 4, 5, 6, 7, 8, 9, 10, 11, 12, 13, 14, 15, 16, 17, 18, 19]⟩, ⟨⟨some false, .no⟩, [0, 1, 2, 3, 4, 5, 6, 7, 8, 9, 10, 11, 12, 13, 14, 15, 16, 17, 18]⟩, ⟨⟨some false, .no⟩, [0, 1, 2, 3, 4, 5, 6, 7, 8, 9, 10, 11, 12, 13, 14, 15, 16, 17, 18, 21]⟩, ⟨⟨some false, .no⟩, [0, 1, 2, 3, 4, 5, 6, 7, 8, 9, 10, 11, 12, 13, 14, 15, 16, 17, 18, 21, 22]⟩, ⟨⟨some false, .no⟩, [0, 1, 2, 3, 4, 5, 6, 7, 8, 9, 10, 11, 12, 13, 14, 15, 16, 17, 18, 21, 22, 23]⟩, ⟨⟨some false, .no⟩, [0, 1, 2, 3, 4, 5, 6, 7, 8, 9, 10, 11, 12, 13, 14, 15, 16, 17, 18, 21, 22, 23, 24]⟩] [[0, 1, 2, 3, 4, 5, 6, 7, 8, 9, 10, 11, 12, 13, 14, 15, 16, 17, 18, 19, 20, 21, 22, 23, 24, 25], [0, 1, 2, 3, 4, 5, 6, 7, 8, 9, 10, 11, 12, 13, 14, 15, 16, 17, 18, 19, 20, 21, 22, 23, 24, 25, 26], [0, 1, 2, 3, 4, 5, 6, 7, 8, 9, 10, 11, 12, 13, 14, 15, 16, 17, 18, 19, 20, 21, 22, 23, 24, 25, 26, 27], [0, 1, 2, 3, 4, 5, 6, 7, 8, 9, 10, 11, 12, 13, 14, 15, 16, 17, 18, 19, 20, 21, 22, 23, 24, 25, 26, 27, 28]] [⟨some false, .no⟩, ⟨some false, .no⟩, ⟨some false, .tv false⟩, ⟨none, .tv false⟩] [] [] hX (by kernel_rfl) (by kernel_rfl) (allCons hb22 (allCons hb22 (allCons hb22 (allCons hb22 (allCons hb22 (allCons hb22 (allCons hb22 (allCons hb22 (allCons (f111_ok hc24) (allCons hb22 (allCons hb22 (allCons hb25 (allCons hb25 (allCons hb25 (allCons hb25 (allCons hb26 (allCons hb26 (allCons hb26 (allCons hb26 (allCons hb26 (allCons hb26 (allCons hb26 (allCons hb26 (allCons hb26 (allCons hb25 (allCons hb26 (allCons hb25 allNil))))))))))))))))))))))))))) (fun _ h => (qThen (h.ht (cont false (of_some hT20)))))
                · rcases of_bif hT20 with ⟨hb29, hT20⟩ | ⟨hb29, hT20⟩
                  · obtain ⟨y30, hc31, hT20⟩ := of_bind hT20
                    exact HT.drK 26 [⟨oH, []⟩, ⟨oH, [0]⟩, ⟨oH, [0, 1]⟩, ⟨oH, [0, 1, 2]⟩, ⟨⟨some false, .no⟩, [0, 1, 2, 3]⟩, ⟨⟨some false, .no⟩, [0, 1, 2, 3, 4]⟩, ⟨⟨some false, .no⟩, [0, 1, 2, 3]⟩, ⟨⟨some false, .no⟩, [0, 1, 2, 3, 6]⟩, ⟨⟨some false, .no⟩, [0, 1, 2, 3, 6, 7]⟩, ⟨⟨some false, .no⟩, [0, 1, 2, 3, 6, 7, 8]⟩, ⟨⟨some false, .no⟩, [0, 1, 2, 3, 6, 7, 8, 9]⟩, ⟨⟨some false, .no⟩, [0, 1, 2, 3, 4, 5, 6, 7, 8, 9, 10]⟩, ⟨⟨some false, .no⟩, [0, 1, 2, 3, 4, 5, 6, 7, 8, 9, 10, 11]⟩, ⟨⟨none, .tv false⟩, [0, 1, 2, 3, 4, 5, 6, 7, 8, 9, 10, 11, 12]⟩, ⟨oH, [0, 1, 2, 3, 4, 5, 6, 7, 8, 9, 10, 11, 12, 13]⟩, ⟨⟨some false, .no⟩, [0, 1, 2, 3, 4, 5, 6, 7, 8, 9, 10, 11, 12, 13, 14]⟩, ⟨⟨some false, .no⟩, [0, 1, 2, 3, 4, 5, 6, 7, 8, 9, 10, 11, 12, 13, 14, 15]⟩, ⟨⟨some false, .no⟩, [0, 1, 2, 3, 4, 5, 6, 7, 8, 9, 10, 11, 12, 13, 14, 15, 16]⟩, ⟨⟨some false, .no⟩, [0, 1, 2, 3, 4, 5, 6, 7, 8, 9, 10, 11, 12, 13, 14, 15, 16, 17]⟩, ⟨⟨some true, .no⟩, [0, 1, 2, 3, 4, 5, 6, 7, 8, 9, 10, 11, 12, 13, 14, 15, 16, 17, 18]⟩, ⟨⟨some true, .no⟩, [0, 1, 2, 3, 4, 5, 6, 7, 8, 9, 10, 11, 12, 13, 14, 15, 16, 17, 18, 19]⟩, ⟨⟨some true, .no⟩, [0, 1, 2, 3, 4, 5, 6, 7, 8, 9, 10, 11, 12, 13, 14, 15, 16, 17, 18]⟩, ⟨⟨some true, .no⟩, [0, 1, 2, 3, 4, 5, 6, 7, 8, 9, 10, 11, 12, 13, 14, 15, 16, 17, 18, 21]⟩, ⟨⟨some true, .no⟩, [0, 1, 2, 3, 4, 5, 6, 7, 8, 9, 10, 11, 12, 13, 14, 15, 16, 17, 18, 21, 22]⟩, ⟨⟨some true, .no⟩, [0, 1, 2, 3, 4, 5, 6, 7, 8, 9, 10, 11, 12, 13, 14, 15, 16, 17, 18, 21, 22, 23]⟩, ⟨⟨some true, .no⟩, [0, 1, 2, 3, 4, 5, 6, 7, 8, 9, 10, 11, 12, 13, 14, 15, 16, 17, 18, 21, 22, 23, 24]⟩] [[0, 1, 2, 3, 4, 5, 6, 7, 8, 9, 10, 11, 12, 13, 14, 15, 16, 17, 18, 19, 20, 21, 22, 23, 24, 25], [0, 1, 2, 3, 4, 5, 6, 7, 8, 9, 10, 11, 12, 13, 14, 15, 16, 17, 18, 19, 20, 21, 22, 23, 24, 25, 26], [0, 1, 2, 3, 4, 5, 6, 7, 8, 9, 10, 11, 12, 13, 14, 15, 16, 17, 18, 19, 20, 21, 22, 23, 24, 25, 26, 27], [0, 1, 2, 3, 4, 5, 6, 7, 8, 9, 10, 11, 12, 13, 14, 15, 16, 17, 18, 19, 20, 21, 22, 23, 24, 25, 26, 27, 28]] [⟨some true, .call [.imm tI, .imm tI, .imm tI] [⟨false, .bool, y30⟩] []⟩, ⟨some true, .no⟩, ⟨some false, .tv true⟩, ⟨none, .tv false⟩] [] [] hX (by kernel_rfl) (by kernel_rfl) (allCons hb22 (allCons hb22 (allCons hb22 (allCons hb22 (allCons hb22 (allCons hb22 (allCons hb22 (allCons hb22 (allCons hb22 (allCons hb22 (allCons (rfl : false = false) (allCons (rfl : false = false) (allCons (rfl : false = false) (allCons (rfl : false = false) (allCons hb29 (allCons hb29 (allCons hb29 (allCons hb29 (allCons hb29 (allCons hb29 (allCons hb29 (allCons hb29 (allCons (f111_ok hc31) (allCons hb29 (allCons (rfl : false = false) (allCons hb29 (allCons (rfl : false = false) allNil))))))))))))))))))))))))))) (fun _ h => (qThen (h.ht (cont (!y30) (of_some hT20)))))
                  · exact HT.drK 26 [⟨oH, []⟩, ⟨oH, [0]⟩, ⟨oH, [0, 1]⟩, ⟨oH, [0, 1, 2]⟩, ⟨⟨some false, .no⟩, [0, 1, 2, 3]⟩, ⟨⟨some false, .no⟩, [0, 1, 2, 3, 4]⟩, ⟨⟨some false, .no⟩, [0, 1, 2, 3]⟩, ⟨⟨some false, .no⟩, [0, 1, 2, 3, 6]⟩, ⟨⟨some false, .no⟩, [0, 1, 2, 3, 6, 7]⟩, ⟨⟨some false, .no⟩, [0, 1, 2, 3, 6, 7, 8]⟩, ⟨⟨some false, .no⟩, [0, 1, 2, 3, 6, 7, 8, 9]⟩, ⟨⟨some false, .no⟩, [0, 1, 2, 3, 4, 5, 6, 7, 8, 9, 10]⟩, ⟨⟨some false, .no⟩, [0, 1, 2, 3, 4, 5, 6, 7, 8, 9, 10, 11]⟩, ⟨⟨none, .tv false⟩, [0, 1, 2, 3, 4, 5, 6, 7, 8, 9, 10, 11, 12]⟩, ⟨oH, [0, 1, 2, 3, 4, 5, 6, 7, 8, 9, 10, 11, 12, 13]⟩, ⟨⟨some false, .no⟩, [0, 1, 2, 3, 4, 5, 6, 7, 8, 9, 10, 11, 12, 13, 14]⟩, ⟨⟨some false, .no⟩, [0, 1, 2, 3, 4, 5, 6, 7, 8, 9, 10, 11, 12, 13, 14, 15]⟩, ⟨⟨some false, .no⟩, [0, 1, 2, 3, 4, 5, 6, 7, 8, 9, 10, 11, 12, 13, 14, 15, 16]⟩, ⟨⟨some false, .no⟩, [0, 1, 2, 3, 4, 5, 6, 7, 8, 9, 10, 11, 12, 13, 14, 15, 16, 17]⟩, ⟨⟨some false, .no⟩, [0, 1, 2, 3, 4, 5, 6, 7, 8, 9, 10, 11, 12, 13, 14, 15, 16, 17, 18]⟩, ⟨⟨some false, .no⟩, [0, 1, 2, 3, 4, 5, 6, 7, 8, 9, 10, 11, 12, 13, 14, 15, 16, 17, 18, 19]⟩, ⟨⟨some false, .no⟩, [0, 1, 2, 3, 4, 5, 6, 7, 8, 9, 10, 11, 12, 13, 14, 15, 16, 17, 18]⟩, ⟨⟨some false, .no⟩, [0, 1, 2, 3, 4, 5, 6, 7, 8, 9, 10, 11, 12, 13, 14, 15, 16, 17, 18, 21]⟩, ⟨⟨some false, .no⟩, [0, 1, 2, 3, 4, 5, 6, 7, 8, 9, 10, 11, 12, 13, 14, 15, 16, 17, 18, 21, 22]⟩, ⟨⟨some false, .no⟩, [0, 1, 2, 3, 4, 5, 6, 7, 8, 9, 10, 11, 12, 13, 14, 15, 16, 17, 18, 21, 22, 23]⟩, ⟨⟨some false, .no⟩, [0, 1, 2, 3, 4, 5, 6, 7, 8, 9, 10, 11, 12, 13, 14, 15, 16, 17, 18, 21, 22, 23, 24]⟩] [[0, 1, 2, 3, 4, 5, 6, 7, 8, 9, 10, 11, 12, 13, 14, 15, 16, 17, 18, 19, 20, 21, 22, 23, 24, 25], [0, 1, 2, 3, 4, 5, 6, 7, 8, 9, 10, 11, 12, 13, 14, 15, 16, 17, 18, 19, 20, 21, 22, 23, 24, 25, 26], [0, 1, 2, 3, 4, 5, 6, 7, 8, 9, 10, 11, 12, 13, 14, 15, 16, 17, 18, 19, 20, 21, 22, 23, 24, 25, 26, 27], [0, 1, 2, 3, 4, 5, 6, 7, 8, 9, 10, 11, 12, 13, 14, 15, 16, 17, 18, 19, 20, 21, 22, 23, 24, 25, 26, 27, 28]] [⟨some false, .no⟩, ⟨some false, .no⟩, ⟨some false, .tv false⟩, ⟨none, .tv false⟩] [] [] hX (by kernel_rfl) (by kernel_rfl) (allCons hb22 (allCons hb22 (allCons hb22 (allCons hb22 (allCons hb22 (allCons hb22 (allCons hb22 (allCons hb22 (allCons hb22 (allCons hb22 (allCons (rfl : false = false) (allCons (rfl : false = false) (allCons (rfl : false = false) (allCons (rfl : false = false) (allCons hb29 (allCons hb29 (allCons hb29 (allCons hb29 (allCons hb29 (allCons hb29 (allCons hb29 (allCons hb29 (allCons hb29 (allCons (rfl : false = false) (allCons hb29 (allCons (rfl : false = false) allNil)))))))))))))))))))))))))) (fun _ h => (qThen (h.ht (cont false (of_some hT20)))))
          · obtain ⟨y32, hc33, hT16⟩ := of_bind hT16
            rcases of_bif hT16 with ⟨hb34, hT16⟩ | ⟨hb34, hT16⟩
            · exact HT.drK 17 [⟨oH, []⟩, ⟨oH, [0]⟩, ⟨oH, []⟩, ⟨oH, [2]⟩, ⟨oH, [2, 3]⟩, ⟨oH, [2, 3, 4]⟩, ⟨oH, [2, 3, 4, 5]⟩, ⟨⟨none, .call [.imm tI, .imm tI, .imm tI] [⟨false, .bool, y32⟩] []⟩, [0, 1, 2, 3, 4, 5, 6]⟩, ⟨oH, [0, 1, 2, 3, 4, 5, 6, 7]⟩, ⟨oH, [0, 1, 2, 3, 4, 5, 6, 7, 8]⟩, ⟨⟨some true, .no⟩, [0, 1, 2, 3, 4, 5, 6, 7, 8, 9]⟩, ⟨⟨some true, .no⟩, [0, 1, 2, 3, 4, 5, 6, 7, 8, 9, 10]⟩, ⟨⟨some true, .no⟩, [0, 1, 2, 3, 4, 5, 6, 7, 8, 9]⟩, ⟨⟨some true, .no⟩, [0, 1, 2, 3, 4, 5, 6, 7, 8, 9, 12]⟩, ⟨⟨some true, .no⟩, [0, 1, 2, 3, 4, 5, 6, 7, 8, 9, 12, 13]⟩, ⟨⟨some true, .no⟩, [0, 1, 2, 3, 4, 5, 6, 7, 8, 9, 12, 13, 14]⟩, ⟨⟨some true, .no⟩, [0, 1, 2, 3, 4, 5, 6, 7, 8, 9, 12, 13, 14, 15]⟩] [[0, 1, 2, 3, 4, 5, 6, 7, 8, 9, 10, 11, 12, 13, 14, 15, 16], [0, 1, 2, 3, 4, 5, 6, 7, 8, 9, 10, 11, 12, 13, 14, 15, 16, 17], [0, 1, 2, 3, 4, 5, 6, 7, 8, 9, 10, 11, 12, 13, 14, 15, 16, 17, 18], [0, 1, 2, 3, 4, 5, 6, 7, 8, 9, 10, 11, 12, 13, 14, 15, 16, 17, 18, 19], [0, 1, 2, 3, 4, 5, 6, 7, 8, 9, 10, 11, 12, 13, 14, 15, 16, 17, 18, 19, 20], [0, 1, 2, 3, 4, 5, 6, 7, 8, 9, 10, 11, 12, 13, 14, 15, 16, 17, 18, 19, 20, 21], [0, 1, 2, 3, 4, 5, 6, 7, 8, 9, 10, 11, 12, 13, 14, 15, 16, 17, 18, 19, 20, 21, 22], [0, 1, 2, 3, 4, 5, 6, 7, 8, 9, 10, 11, 12, 13, 14, 15, 16, 17, 18, 19, 20, 21, 22, 23], [0, 1, 2, 3, 4, 5, 6, 7, 8, 9, 10, 11, 12, 13, 14, 15, 16, 17, 18, 19, 20, 21, 22, 23, 24]] [⟨some true, .no⟩, ⟨some true, .no⟩, ⟨none, .tv true⟩, oH, ⟨some true, .no⟩, ⟨some true, .no⟩, ⟨some true, .no⟩, ⟨some true, .no⟩, ⟨none, .tv true⟩] [(0, 0)] [] hX (by kernel_rfl) (by kernel_rfl) (allCons (f111_ok hc33) (allCons hb34 (allCons hb34 (allCons hb34 (allCons hb34 (allCons hb34 (allCons hb34 (allCons hb34 (allCons hb34 (allCons hb34 (allCons hb34 (allCons (rfl : true = true) (allCons (rfl : true = true) (allCons (rfl : true = true) (allCons (rfl : true = true) (allCons (rfl : true = true) allNil)))))))))))))))) (fun _ h => (qThen (h.ht (cont true (of_some hT16)))))
            · obtain ⟨y35, hc36, hT16⟩ := of_bind hT16
              rcases of_bif hT16 with ⟨hb37, hT16⟩ | ⟨hb37, hT16⟩
              · exact HT.drK 17 [⟨oH, []⟩, ⟨oH, [0]⟩, ⟨oH, []⟩, ⟨oH, [2]⟩, ⟨oH, [2, 3]⟩, ⟨oH, [2, 3, 4]⟩, ⟨oH, [2, 3, 4, 5]⟩, ⟨⟨none, .call [.imm tI, .imm tI, .imm tI] [⟨false, .bool, y32⟩] []⟩, [0, 1, 2, 3, 4, 5, 6]⟩, ⟨oH, [0, 1, 2, 3, 4, 5, 6, 7]⟩, ⟨oH, [0, 1, 2, 3, 4, 5, 6, 7, 8]⟩, ⟨⟨some false, .no⟩, [0, 1, 2, 3, 4, 5, 6, 7, 8, 9]⟩, ⟨⟨some false, .no⟩, [0, 1, 2, 3, 4, 5, 6, 7, 8, 9, 10]⟩, ⟨⟨some false, .no⟩, [0, 1, 2, 3, 4, 5, 6, 7, 8, 9]⟩, ⟨⟨some false, .no⟩, [0, 1, 2, 3, 4, 5, 6, 7, 8, 9, 12]⟩, ⟨⟨some false, .no⟩, [0, 1, 2, 3, 4, 5, 6, 7, 8, 9, 12, 13]⟩, ⟨⟨some false, .no⟩, [0, 1, 2, 3, 4, 5, 6, 7, 8, 9, 12, 13, 14]⟩, ⟨⟨some false, .no⟩, [0, 1, 2, 3, 4, 5, 6, 7, 8, 9, 12, 13, 14, 15]⟩] [[0, 1, 2, 3, 4, 5, 6, 7, 8, 9, 10, 11, 12, 13, 14, 15, 16], [0, 1, 2, 3, 4, 5, 6, 7, 8, 9, 10, 11, 12, 13, 14, 15, 16, 17], [0, 1, 2, 3, 4, 5, 6, 7, 8, 9, 10, 11, 12, 13, 14, 15, 16, 17, 18], [0, 1, 2, 3, 4, 5, 6, 7, 8, 9, 10, 11, 12, 13, 14, 15, 16, 17, 18, 19], [0, 1, 2, 3, 4, 5, 6, 7, 8, 9, 10, 11, 12, 13, 14, 15, 16, 17, 18, 19, 20], [0, 1, 2, 3, 4, 5, 6, 7, 8, 9, 10, 11, 12, 13, 14, 15, 16, 17, 18, 19, 20, 21], [0, 1, 2, 3, 4, 5, 6, 7, 8, 9, 10, 11, 12, 13, 14, 15, 16, 17, 18, 19, 20, 21, 22], [0, 1, 2, 3, 4, 5, 6, 7, 8, 9, 10, 11, 12, 13, 14, 15, 16, 17, 18, 19, 20, 21, 22, 23], [0, 1, 2, 3, 4, 5, 6, 7, 8, 9, 10, 11, 12, 13, 14, 15, 16, 17, 18, 19, 20, 21, 22, 23, 24]] [⟨some false, .call [.imm tI, .imm tI, .imm tI] [⟨false, .bool, y35⟩] []⟩, ⟨some false, .no⟩, ⟨none, .tv false⟩, oH, ⟨some true, .no⟩, ⟨some true, .no⟩, ⟨some true, .no⟩, ⟨some true, .no⟩, ⟨none, .tv true⟩] [(0, 0)] [] hX (by kernel_rfl) (by kernel_rfl) (allCons (f111_ok hc33) (allCons hb34 (allCons hb34 (allCons hb34 (allCons hb34 (allCons hb34 (allCons hb34 (allCons hb34 (allCons hb34 (allCons (f111_ok hc36) (allCons hb34 (allCons hb34 (allCons hb37 (allCons hb37 (allCons hb37 (allCons hb37 (allCons hb37 allNil))))))))))))))))) (fun _ h => (qThen (h.ht (cont true (of_some hT16)))))
              · obtain ⟨y38, hc39, hT16⟩ := of_bind hT16
                exact HT.drK 17 [⟨oH, []⟩, ⟨oH, [0]⟩, ⟨oH, []⟩, ⟨oH, [2]⟩, ⟨oH, [2, 3]⟩, ⟨oH, [2, 3, 4]⟩, ⟨oH, [2, 3, 4, 5]⟩, ⟨⟨none, .call [.imm tI, .imm tI, .imm tI] [⟨false, .bool, y32⟩] []⟩, [0, 1, 2, 3, 4, 5, 6]⟩, ⟨oH, [0, 1, 2, 3, 4, 5, 6, 7]⟩, ⟨oH, [0, 1, 2, 3, 4, 5, 6, 7, 8]⟩, ⟨⟨some false, .no⟩, [0, 1, 2, 3, 4, 5, 6, 7, 8, 9]⟩, ⟨⟨some false, .no⟩, [0, 1, 2, 3, 4, 5, 6, 7, 8, 9, 10]⟩, ⟨⟨some false, .no⟩, [0, 1, 2, 3, 4, 5, 6, 7, 8, 9]⟩, ⟨⟨some false, .no⟩, [0, 1, 2, 3, 4, 5, 6, 7, 8, 9, 12]⟩, ⟨⟨some false, .no⟩, [0, 1, 2, 3, 4, 5, 6, 7, 8, 9, 12, 13]⟩, ⟨⟨some false, .no⟩, [0, 1, 2, 3, 4, 5, 6, 7, 8, 9, 12, 13, 14]⟩, ⟨⟨some false, .no⟩, [0, 1, 2, 3, 4, 5, 6, 7, 8, 9, 12, 13, 14, 15]⟩] [[0, 1, 2, 3, 4, 5, 6, 7, 8, 9, 10, 11, 12, 13, 14, 15, 16], [0, 1, 2, 3, 4, 5, 6, 7, 8, 9, 10, 11, 12, 13, 14, 15, 16, 17], [0, 1, 2, 3, 4, 5, 6, 7, 8, 9, 10, 11, 12, 13, 14, 15, 16, 17, 18], [0, 1, 2, 3, 4, 5, 6, 7, 8, 9, 10, 11, 12, 13, 14, 15, 16, 17, 18, 19], [0, 1, 2, 3, 4, 5, 6, 7, 8, 9, 10, 11, 12, 13, 14, 15, 16, 17, 18, 19, 20], [0, 1, 2, 3, 4, 5, 6, 7, 8, 9, 10, 11, 12, 13, 14, 15, 16, 17, 18, 19, 20, 21], [0, 1, 2, 3, 4, 5, 6, 7, 8, 9, 10, 11, 12, 13, 14, 15, 16, 17, 18, 19, 20, 21, 22], [0, 1, 2, 3, 4, 5, 6, 7, 8, 9, 10, 11, 12, 13, 14, 15, 16, 17, 18, 19, 20, 21, 22, 23], [0, 1, 2, 3, 4, 5, 6, 7, 8, 9, 10, 11, 12, 13, 14, 15, 16, 17, 18, 19, 20, 21, 22, 23, 24]] [⟨some false, .call [.imm tI, .imm tI, .imm tI] [⟨false, .bool, y35⟩] []⟩, ⟨some false, .no⟩, ⟨none, .tv false⟩, oH, ⟨some false, .no⟩, ⟨some false, .no⟩, ⟨some false, .call [.imm tI, .imm tI, .imm tI] [⟨false, .bool, y38⟩] []⟩, ⟨some false, .no⟩, ⟨none, .tv false⟩] [(0, 0)] [] hX (by kernel_rfl) (by kernel_rfl) (allCons (f111_ok hc33) (allCons hb34 (allCons hb34 (allCons hb34 (allCons hb34 (allCons hb34 (allCons hb34 (allCons hb34 (allCons hb34 (allCons (f111_ok hc36) (allCons hb34 (allCons hb34 (allCons hb37 (allCons hb37 (allCons hb37 (allCons (f111_ok hc39) (allCons hb37 (allCons hb37 allNil)))))))))))))))))) (fun _ h => (qThen (h.ht (cont (!y38) (of_some hT16)))))
        · refine HT.cond0 rfl hb12 ?_
          have hx10 := of_some hx10
          subst hx10
          exact HT.exitL (Le.re [] [] hX (by kernel_rfl)) (qThenE (qLoopE (hk11 (.inl ()) rfl)))
  · obtain ⟨y41, hc42, hT3⟩ := of_bind hT3
    rcases of_bif hT3 with ⟨hb43, hT3⟩ | ⟨hb43, hT3⟩
    · exact HT.rgK [oH, oH, oH, oH, ⟨none, .call [.imm tI, .imm tI, .imm tI] [⟨false, .bool, y41⟩] []⟩, oH, oH, ⟨some true, .no⟩, ⟨some true, .no⟩, ⟨some true, .no⟩, ⟨some true, .no⟩, ⟨some true, .no⟩, ⟨some true, .no⟩, ⟨none, .tv true⟩, oH, ⟨some true, .no⟩, ⟨some true, .no⟩, ⟨some true, .no⟩, ⟨some true, .no⟩, ⟨some true, .no⟩, ⟨some true, .no⟩, ⟨none, .tv true⟩] [] [] hX (by kernel_rfl) (allCons (f111_ok hc42) (allCons hb43 (allCons hb43 (allCons hb43 (allCons hb43 (allCons hb43 (allCons hb43 (allCons hb43 (allCons (rfl : true = true) (allCons (rfl : true = true) (allCons (rfl : true = true) (allCons (rfl : true = true) (allCons (rfl : true = true) (allCons (rfl : true = true) (allCons (rfl : true = true) allNil))))))))))))))) (fun _ h => (qThen (h.ht (cont true (of_some hT3)))))
    · obtain ⟨y44, hc45, hT3⟩ := of_bind hT3
      rcases of_bif hT3 with ⟨hb46, hT3⟩ | ⟨hb46, hT3⟩
      · exact HT.rgK [oH, oH, oH, oH, ⟨none, .call [.imm tI, .imm tI, .imm tI] [⟨false, .bool, y41⟩] []⟩, oH, oH, ⟨some false, .no⟩, ⟨some false, .no⟩, ⟨some false, .no⟩, ⟨some false, .no⟩, ⟨some false, .call [.imm tI, .imm tI, .imm tI] [⟨false, .bool, y44⟩] []⟩, ⟨some false, .no⟩, ⟨none, .tv false⟩, oH, ⟨some true, .no⟩, ⟨some true, .no⟩, ⟨some true, .no⟩, ⟨some true, .no⟩, ⟨some true, .no⟩, ⟨some true, .no⟩, ⟨none, .tv true⟩] [] [] hX (by kernel_rfl) (allCons (f111_ok hc42) (allCons hb43 (allCons hb43 (allCons hb43 (allCons hb43 (allCons hb43 (allCons (f111_ok hc45) (allCons hb43 (allCons hb43 (allCons hb46 (allCons hb46 (allCons hb46 (allCons hb46 (allCons hb46 (allCons hb46 (allCons hb46 allNil)))))))))))))))) (fun _ h => (qThen (h.ht (cont true (of_some hT3)))))
      · exact HT.rgK [oH, oH, oH, oH, ⟨none, .call [.imm tI, .imm tI, .imm tI] [⟨false, .bool, y41⟩] []⟩, oH, oH, ⟨some false, .no⟩, ⟨some false, .no⟩, ⟨some false, .no⟩, ⟨some false, .no⟩, ⟨some false, .call [.imm tI, .imm tI, .imm tI] [⟨false, .bool, y44⟩] []⟩, ⟨some false, .no⟩, ⟨none, .tv false⟩, oH, ⟨some false, .no⟩, ⟨some false, .no⟩, ⟨some false, .no⟩, ⟨some false, .no⟩, ⟨some false, .no⟩, ⟨some false, .no⟩, ⟨none, .tv false⟩] [] [] hX (by kernel_rfl) (allCons (f111_ok hc42) (allCons hb43 (allCons hb43 (allCons hb43 (allCons hb43 (allCons hb43 (allCons (f111_ok hc45) (allCons hb43 (allCons hb43 (allCons hb46 (allCons hb46 (allCons hb46 (allCons hb46 (allCons hb46 (allCons hb46 (allCons hb46 allNil)))))))))))))))) (fun _ h => (qThen (h.ht (cont (decide ((lenI a0.2.2) > (32 : Int))) (of_some hT3)))))

noncomputable def spec_l08ReadGrammar_B1 (y8 : List Int × Bool) (s16 : Int × (List (Int × Int × Int × Int))) : Option ((Int × (List (Int × Int × Int × Int))) ⊕ ((List (Int × Int × Int × Int)))) :=
  bif (decide (s16.1 < (lenI y8.1))) then
    guardP ((0 : Int) ≤ s16.1 ∧ s16.1 < lenI y8.1) (
      guardP ((0 : Int) ≤ (wadd .i64 s16.1 (1 : Int)) ∧ (wadd .i64 s16.1 (1 : Int)) < lenI y8.1) (
        guardP ((0 : Int) ≤ (wadd .i64 s16.1 (2 : Int)) ∧ (wadd .i64 s16.1 (2 : Int)) < lenI y8.1) (
          guardP ((0 : Int) ≤ (wadd .i64 s16.1 (3 : Int)) ∧ (wadd .i64 s16.1 (3 : Int)) < lenI y8.1) (
            guardP (List.length s16.2 + List.length ([((List.getD y8.1 (Int.toNat s16.1) (0 : Int)), (List.getD y8.1 (Int.toNat (wadd .i64 s16.1 (1 : Int))) (0 : Int)), (List.getD y8.1 (Int.toNat (wadd .i64 s16.1 (2 : Int))) (0 : Int)), (List.getD y8.1 (Int.toNat (wadd .i64 s16.1 (3 : Int))) (0 : Int)))] : List (Int × Int × Int × Int)) ≤ appMax) (
              some (.inl ((wadd .i64 s16.1 (4 : Int)), (s16.2 ++ ([((List.getD y8.1 (Int.toNat s16.1) (0 : Int)), (List.getD y8.1 (Int.toNat (wadd .i64 s16.1 (1 : Int))) (0 : Int)), (List.getD y8.1 (Int.toNat (wadd .i64 s16.1 (2 : Int))) (0 : Int)), (List.getD y8.1 (Int.toNat (wadd .i64 s16.1 (3 : Int))) (0 : Int)))] : List (Int × Int × Int × Int))))))))))
  else
    some (.inr s16.2)

noncomputable def spec_l08ReadGrammar (a0 : List UInt8) : Option ((Int × Int × List (Int × Int × Int × Int)) × Bool) :=
  (spec_l01Cut a0 (59 : Int)).bind fun y1 =>
  bif ((lenI y1) != (2 : Int)) then
    some (((0 : Int), (0 : Int), ([] : List (Int × Int × Int × Int))), false)
  else
    guardP ((0 : Int) ≤ (0 : Int) ∧ (0 : Int) < lenI y1) (
      (spec_l01Numbers (List.getD y1 (Int.toNat (0 : Int)) ([] : List UInt8))).bind fun y5 =>
      guardP ((0 : Int) ≤ (1 : Int) ∧ (1 : Int) < lenI y1) (
        (spec_l01Numbers (List.getD y1 (Int.toNat (1 : Int)) ([] : List UInt8))).bind fun y8 =>
        (show Option (Bool) from
          bif (!y5.2) then
            some true
          else
            bif (!y8.2) then
              some true
            else
              bif ((lenI y5.1) != (2 : Int)) then
                some true
              else
                some ((Int.tmod (lenI y8.1) (4 : Int)) != (0 : Int))).bind fun v10 =>
        bif v10 then
          some (((0 : Int), (0 : Int), ([] : List (Int × Int × Int × Int))), false)
        else
          guardP ((0 : Int) ≤ (0 : Int) ∧ (0 : Int) < lenI y5.1) (
            guardP ((0 : Int) ≤ (1 : Int) ∧ (1 : Int) < lenI y5.1) (
              (rounds (spec_l08ReadGrammar_B1 y8) ((0 : Int), ([] : List (Int × Int × Int × Int)))).bind fun r18 =>
              (spec_l06Is ((List.getD y5.1 (Int.toNat (0 : Int)) (0 : Int)), (List.getD y5.1 (Int.toNat (1 : Int)) (0 : Int)), r18)).bind fun y19 =>
              bif (!y19) then
                some (((0 : Int), (0 : Int), ([] : List (Int × Int × Int × Int))), false)
              else
                some (((List.getD y5.1 (Int.toNat (0 : Int)) (0 : Int)), (List.getD y5.1 (Int.toNat (1 : Int)) (0 : Int)), r18), true)))))

theorem f92_ok {a0 : List UInt8} {r : (Int × Int × List (Int × Int × Int × Int)) × Bool} (hr : spec_l08ReadGrammar a0 = some r) : CallOK Tryd.prog 92 [.imm .str a0] [⟨true, (.st (.pair tI (.pair tI (.sl (.st (.pair tI (.pair tI (.pair tI tI)))))))), r.1⟩, ⟨false, .bool, r.2⟩] [] := by
  unfold spec_l08ReadGrammar at hr
  refine CallOK.of_body (ts := [(true, (.st (.pair tI (.pair tI (.sl (.st (.pair tI (.pair tI (.pair tI tI))))))))), (false, .bool)]) Tryd.func92 rfl (by kernel_rfl) (Nat.le_of_ble_eq_true (by kernel_rfl)) fun cx hP hN hO hF => ?_
  have hO : cx.own.map Prod.fst = [] := hO
  have hX := CxIs.mk hP hN hO
  have hF := hF rfl
  show HT cx ⟨[(0, .one (.dat .str a0))], [], 0⟩ _ _
  refine HT.rg2 (oHs 2) ⟨[(0, .one (.dat .str a0)), (2, pV 0 0)], [(0, .box [iC (0 : Int), iC (0 : Int), .nilS])], 1⟩ hX (by kernel_rfl) allNil ?_
  obtain ⟨y1, hc2, hr⟩ := of_bind hr
  refine HT.rg2 [oH, ⟨none, .call [.imm .str, .imm (.int .u8)] [⟨true, (.sl .str), y1⟩] []⟩, oH] ⟨[(2, pV 0 0), (4, aV 1)], [(1, .seq .str y1), (0, .box [iC (0 : Int), iC (0 : Int), .nilS])], 2⟩ hX (by kernel_rfl) (allCons (f121_ok hc2) allNil) ?_
  refine HT.seq ?_
  refine HT.rg2 (oHs 3) ⟨[(2, pV 0 0), (4, aV 1), (15, bV ((lenI y1) != (2 : Int)))], [(1, .seq .str y1), (0, .box [iC (0 : Int), iC (0 : Int), .nilS])], 2⟩ hX (by kernel_rfl) allNil ?_
  rcases of_bif hr with ⟨hb3, hr⟩ | ⟨hb3, hr⟩
  · refine HT.cond1 rfl hb3 ?_
    refine HT.rg2 (oHs 3) ⟨[(2, pV 0 0), (3, bV false)], [(0, .box [iC (0 : Int), iC (0 : Int), .nilS])], 2⟩ hX (by kernel_rfl) allNil ?_
    have hr := of_some hr
    subst hr
    exact HT.ret (qThenR ⟨[.agg [iC (0 : Int), iC (0 : Int), .nilS], bV false], [], [], by kernel_rfl, by kernel_rfl, rfl, by kernel_rfl, by kernel_rfl, trivial⟩)
  · refine HT.cond0 rfl hb3 ?_
    refine HT.skip (qThen ?_)
    obtain ⟨hg4, hr⟩ := of_guard hr
    obtain ⟨y5, hc6, hr⟩ := of_bind hr
    refine HT.rg2 [oH, oH, oH, ⟨none, .call [.imm .str] [⟨true, tLI, y5.1⟩, ⟨false, .bool, y5.2⟩] []⟩, oH, oH, oH, oH, oH] ⟨[(2, pV 0 0), (4, aV 1), (5, aV 2), (6, bV y5.2)], [(2, .seq tI y5.1), (1, .seq .str y1), (0, .box [iC (0 : Int), iC (0 : Int), .nilS])], 3⟩ hX (by kernel_rfl) (allCons hg4 (allCons (natLt hg4) (allCons (f122_ok hc6) allNil))) ?_
    obtain ⟨hg7, hr⟩ := of_guard hr
    obtain ⟨y8, hc9, hr⟩ := of_bind hr
    refine HT.rg2 [oH, oH, oH, ⟨none, .call [.imm .str] [⟨true, tLI, y8.1⟩, ⟨false, .bool, y8.2⟩] []⟩, oH, oH, oH, oH, oH] ⟨[(2, pV 0 0), (5, aV 2), (6, bV y5.2), (7, aV 3), (8, bV y8.2)], [(3, .seq tI y8.1), (2, .seq tI y5.1), (0, .box [iC (0 : Int), iC (0 : Int), .nilS])], 4⟩ hX (by kernel_rfl) (allCons hg7 (allCons (natLt hg7) (allCons (f122_ok hc9) allNil))) ?_
    refine HT.seq ?_
    obtain ⟨v10', hT12, hr⟩ := of_bind hr
    refine HT.join (fun (v10 : Bool) => ⟨[(2, pV 0 0), (5, aV 1), (7, aV 2), (47, bV v10)], [(0, .box [iC (0 : Int), iC (0 : Int), .nilS]), (1, .seq tI y5.1), (2, .seq tI y8.1)], 3⟩) (fun v => v = v10') (fun v10 hv11 => ?_) (fun cont => ?_)
    · subst hv11
      rcases of_bif hr with ⟨hb13, hr⟩ | ⟨hb13, hr⟩
      · refine HT.cond1 rfl hb13 ?_
        refine HT.rg2 (oHs 3) ⟨[(2, pV 0 0), (3, bV false)], [(0, .box [iC (0 : Int), iC (0 : Int), .nilS])], 3⟩ hX (by kernel_rfl) allNil ?_
        have hr := of_some hr
        subst hr
        exact HT.ret (qThenR ⟨[.agg [iC (0 : Int), iC (0 : Int), .nilS], bV false], [], [], by kernel_rfl, by kernel_rfl, rfl, by kernel_rfl, by kernel_rfl, trivial⟩)
      · refine HT.cond0 rfl hb13 ?_
        refine HT.skip (qThen ?_)
        obtain ⟨hg14, hr⟩ := of_guard hr
        obtain ⟨hg15, hr⟩ := of_guard hr
        refine HT.dr2 9 [⟨oH, []⟩, ⟨oH, [0]⟩, ⟨oH, [0, 1]⟩, ⟨oH, []⟩, ⟨oH, [3]⟩, ⟨oH, [3, 4]⟩, ⟨oH, []⟩, ⟨oH, [0, 1, 2, 3, 4, 5, 6]⟩, ⟨oH, []⟩] [[0, 1, 2, 3, 4, 5, 6, 7, 8]] [oH] ⟨[(2, pV 0 0), (7, aV 2), (9, pV 3 0)], [(3, .box [iC (List.getD y5.1 (Int.toNat (0 : Int)) (0 : Int)), iC (List.getD y5.1 (Int.toNat (1 : Int)) (0 : Int)), .nilS]), (0, .box [iC (0 : Int), iC (0 : Int), .nilS]), (2, .seq tI y8.1)], 4⟩ hX (by kernel_rfl) (by kernel_rfl) (allCons hg14 (allCons (natLt hg14) (allCons hg15 (allCons (natLt hg15) allNil)))) ?_
        refine HT.seq ?_
        refine HT.rg2 [oH] ⟨[(2, pV 0 0), (7, aV 2), (9, pV 3 0), (10, iV (0 : Int))], [(3, .box [iC (List.getD y5.1 (Int.toNat (0 : Int)) (0 : Int)), iC (List.getD y5.1 (Int.toNat (1 : Int)) (0 : Int)), .nilS]), (0, .box [iC (0 : Int), iC (0 : Int), .nilS]), (2, .seq tI y8.1)], 4⟩ hX (by kernel_rfl) allNil ?_
        refine HT.block ?_
        obtain ⟨r17, hL31, hr⟩ := of_bind hr
        refine HT.loopL (fun (s16 : Int × (List (Int × Int × Int × Int))) => ⟨[(2, pV 0 0), (7, aV 1), (9, pV 2 0), (10, iV s16.1)], [(0, .box [iC (0 : Int), iC (0 : Int), .nilS]), (1, .seq tI y8.1), (2, .box [iC (List.getD y5.1 (Int.toNat (0 : Int)) (0 : Int)), iC (List.getD y5.1 (Int.toNat (1 : Int)) (0 : Int)), .all 3]), (3, .seq (.st (.pair tI (.pair tI (.pair tI tI)))) s16.2)], 4⟩) (fun (r18 : (List (Int × Int × Int × Int))) => (.exit 0, ⟨[(2, pV 0 0), (9, pV 1 0)], [(0, .box [iC (0 : Int), iC (0 : Int), .nilS]), (1, .box [iC (List.getD y5.1 (Int.toNat (0 : Int)) (0 : Int)), iC (List.getD y5.1 (Int.toNat (1 : Int)) (0 : Int)), .all 2]), (2, .seq (.st (.pair tI (.pair tI (.pair tI tI)))) r18)], 3⟩)) (Le.re [(0, 0), (2, 1), (3, 2)] [3] hX (by kernel_rfl)) hL31 ?_ (fun s16 x22 hx23 hk24 => ?_)
        · refine (qBlockX (qThen ?_))
          refine HT.seq ?_
          obtain ⟨y19, hc20, hr⟩ := of_bind hr
          refine HT.rg2 [⟨none, .call [.pimm (.st (.pair tI (.pair tI (.sl (.st (.pair tI (.pair tI (.pair tI tI))))))))] [⟨false, .bool, y19⟩] []⟩, oH] ⟨[(2, pV 0 0), (9, pV 1 0), (89, bV (!y19))], [(0, .box [iC (0 : Int), iC (0 : Int), .nilS]), (1, .box [iC (List.getD y5.1 (Int.toNat (0 : Int)) (0 : Int)), iC (List.getD y5.1 (Int.toNat (1 : Int)) (0 : Int)), .all 2]), (2, .seq (.st (.pair tI (.pair tI (.pair tI tI)))) r17)], 3⟩ hX (by kernel_rfl) (allCons (f61_ok hc20) allNil) ?_
          rcases of_bif hr with ⟨hb21, hr⟩ | ⟨hb21, hr⟩
          · refine HT.cond1 rfl hb21 ?_
            refine HT.rg2 (oHs 3) ⟨[(2, pV 0 0), (3, bV false)], [(0, .box [iC (0 : Int), iC (0 : Int), .nilS])], 3⟩ hX (by kernel_rfl) allNil ?_
            have hr := of_some hr
            subst hr
            exact HT.ret (qThenR ⟨[.agg [iC (0 : Int), iC (0 : Int), .nilS], bV false], [], [], by kernel_rfl, by kernel_rfl, rfl, by kernel_rfl, by kernel_rfl, trivial⟩)
          · refine HT.cond0 rfl hb21 ?_
            refine HT.skip (qThen ?_)
            refine HT.rg2 (oHs 3) ⟨[(2, pV 0 0), (3, bV true)], [(0, .box [iC (List.getD y5.1 (Int.toNat (0 : Int)) (0 : Int)), iC (List.getD y5.1 (Int.toNat (1 : Int)) (0 : Int)), .all 2]), (2, .seq (.st (.pair tI (.pair tI (.pair tI tI)))) r17)], 3⟩ hX (by kernel_rfl) allNil ?_
            have hr := of_some hr
            subst hr
            exact HT.ret ⟨[.agg [iC (List.getD y5.1 (Int.toNat (0 : Int)) (0 : Int)), iC (List.getD y5.1 (Int.toNat (1 : Int)) (0 : Int)), .all 2], bV true], [2], [], by kernel_rfl, by kernel_rfl, rfl, by kernel_rfl, by kernel_rfl, trivial⟩
        · refine HT.seq ?_
          refine HT.rg2 (oHs 4) ⟨[(2, pV 0 0), (7, aV 1), (9, pV 2 0), (10, iV s16.1), (60, bV (decide (s16.1 < (lenI y8.1))))], [(0, .box [iC (0 : Int), iC (0 : Int), .nilS]), (1, .seq tI y8.1), (2, .box [iC (List.getD y5.1 (Int.toNat (0 : Int)) (0 : Int)), iC (List.getD y5.1 (Int.toNat (1 : Int)) (0 : Int)), .all 3]), (3, .seq (.st (.pair tI (.pair tI (.pair tI tI)))) s16.2)], 4⟩ hX (by kernel_rfl) allNil ?_
          rcases of_bif hx23 with ⟨hb25, hx23⟩ | ⟨hb25, hx23⟩
          · refine HT.cond1 rfl hb25 ?_
            refine HT.skip (qThen ?_)
            refine HT.seq ?_
            refine HT.block ?_
            obtain ⟨hg26, hx23⟩ := of_guard hx23
            obtain ⟨hg27, hx23⟩ := of_guard hx23
            obtain ⟨hg28, hx23⟩ := of_guard hx23
            obtain ⟨hg29, hx23⟩ := of_guard hx23
            obtain ⟨hg30, hx23⟩ := of_guard hx23
            refine HT.drL 23 [⟨oH, []⟩, ⟨oH, [0]⟩, ⟨oH, []⟩, ⟨oH, []⟩, ⟨oH, [2, 3]⟩, ⟨oH, [2, 3, 4]⟩, ⟨oH, []⟩, ⟨oH, []⟩, ⟨oH, [7]⟩, ⟨oH, [6, 7, 8]⟩, ⟨oH, [6, 7, 8, 9]⟩, ⟨oH, []⟩, ⟨oH, []⟩, ⟨oH, [12]⟩, ⟨oH, [11, 12, 13]⟩, ⟨oH, [11, 12, 13, 14]⟩, ⟨oH, []⟩, ⟨oH, []⟩, ⟨oH, [17]⟩, ⟨oH, [16, 17, 18]⟩, ⟨oH, [16, 17, 18, 19]⟩, ⟨oH, [2, 3, 4, 5, 6, 7, 8, 9, 10, 11, 12, 13, 14, 15, 16, 17, 18, 19, 20]⟩, ⟨⟨none, .ty (.st (.pair tI (.pair tI (.pair tI tI))))⟩, [2, 3, 4, 5, 6, 7, 8, 9, 10, 11, 12, 13, 14, 15, 16, 17, 18, 19, 20, 21]⟩] [[0, 1, 2, 3, 4, 5, 6, 7, 8, 9, 10, 11, 12, 13, 14, 15, 16, 17, 18, 19, 20, 21, 22], [0, 1, 2, 3, 4, 5, 6, 7, 8, 9, 10, 11, 12, 13, 14, 15, 16, 17, 18, 19, 20, 21, 22, 23], [0, 1, 2, 3, 4, 5, 6, 7, 8, 9, 10, 11, 12, 13, 14, 15, 16, 17, 18, 19, 20, 21, 22, 23, 24]] [⟨none, .ty (.st (.pair tI (.pair tI (.pair tI tI))))⟩, oH, oH] ⟨[(2, pV 0 0), (7, aV 1), (9, pV 2 0), (10, iV s16.1)], [(2, .box [iC (List.getD y5.1 (Int.toNat (0 : Int)) (0 : Int)), iC (List.getD y5.1 (Int.toNat (1 : Int)) (0 : Int)), .all 5]), (5, .seq (.st (.pair tI (.pair tI (.pair tI tI)))) (s16.2 ++ ([((List.getD y8.1 (Int.toNat s16.1) (0 : Int)), (List.getD y8.1 (Int.toNat (wadd .i64 s16.1 (1 : Int))) (0 : Int)), (List.getD y8.1 (Int.toNat (wadd .i64 s16.1 (2 : Int))) (0 : Int)), (List.getD y8.1 (Int.toNat (wadd .i64 s16.1 (3 : Int))) (0 : Int)))] : List (Int × Int × Int × Int)))), (0, .box [iC (0 : Int), iC (0 : Int), .nilS]), (1, .seq tI y8.1)], 6⟩ hX (by kernel_rfl) (by kernel_rfl) (allCons hg26 (allCons (natLt hg26) (allCons hg27 (allCons (natLt hg27) (allCons hg28 (allCons (natLt hg28) (allCons hg29 (allCons (natLt hg29) (allCons hg30 allNil))))))))) (qBlock (qThen ?_))
            have hx23 := of_some hx23
            subst hx23
            exact HT.rgK (oHs 3) [(0, 0), (1, 1), (2, 2), (5, 3)] [] hX (by kernel_rfl) allNil (fun _ h => (qLoopN ⟨((wadd .i64 s16.1 (4 : Int)), (s16.2 ++ ([((List.getD y8.1 (Int.toNat s16.1) (0 : Int)), (List.getD y8.1 (Int.toNat (wadd .i64 s16.1 (1 : Int))) (0 : Int)), (List.getD y8.1 (Int.toNat (wadd .i64 s16.1 (2 : Int))) (0 : Int)), (List.getD y8.1 (Int.toNat (wadd .i64 s16.1 (3 : Int))) (0 : Int)))] : List (Int × Int × Int × Int)))), rfl, h⟩))
          · refine HT.cond0 rfl hb25 ?_
            have hx23 := of_some hx23
            subst hx23
            exact HT.exitL (Le.re [(0, 0), (2, 1), (3, 2)] [] hX (by kernel_rfl)) (qThenE (qLoopE (hk24 s16.2 rfl)))
    · rcases of_bif hT12 with ⟨hb32, hT12⟩ | ⟨hb32, hT12⟩
      · exact HT.rgK [oH, oH, oH, ⟨some true, .no⟩, ⟨some true, .no⟩, ⟨none, .tv true⟩, oH, ⟨some true, .no⟩, ⟨some true, .no⟩, ⟨some true, .no⟩, ⟨none, .tv true⟩, oH, ⟨some true, .no⟩, ⟨some true, .no⟩, ⟨some true, .no⟩, ⟨some true, .no⟩, ⟨none, .tv true⟩] [(0, 0), (2, 1), (3, 2)] [] hX (by kernel_rfl) (allCons hb32 (allCons hb32 (allCons hb32 (allCons (rfl : true = true) (allCons (rfl : true = true) (allCons (rfl : true = true) (allCons (rfl : true = true) (allCons (rfl : true = true) (allCons (rfl : true = true) (allCons (rfl : true = true) (allCons (rfl : true = true) (allCons (rfl : true = true) allNil)))))))))))) (fun _ h => (qThen (h.ht (cont true (of_some hT12)))))
      · rcases of_bif hT12 with ⟨hb33, hT12⟩ | ⟨hb33, hT12⟩
        · exact HT.rgK [oH, oH, oH, ⟨some false, .no⟩, ⟨some false, .no⟩, ⟨none, .tv false⟩, oH, ⟨some true, .no⟩, ⟨some true, .no⟩, ⟨some true, .no⟩, ⟨none, .tv true⟩, oH, ⟨some true, .no⟩, ⟨some true, .no⟩, ⟨some true, .no⟩, ⟨some true, .no⟩, ⟨none, .tv true⟩] [(0, 0), (2, 1), (3, 2)] [] hX (by kernel_rfl) (allCons hb32 (allCons hb32 (allCons hb32 (allCons hb33 (allCons hb33 (allCons hb33 (allCons hb33 (allCons (rfl : true = true) (allCons (rfl : true = true) (allCons (rfl : true = true) (allCons (rfl : true = true) (allCons (rfl : true = true) allNil)))))))))))) (fun _ h => (qThen (h.ht (cont true (of_some hT12)))))
        · rcases of_bif hT12 with ⟨hb34, hT12⟩ | ⟨hb34, hT12⟩
          · exact HT.rgK [oH, oH, oH, ⟨some false, .no⟩, ⟨some false, .no⟩, ⟨none, .tv false⟩, oH, ⟨some false, .no⟩, ⟨some false, .no⟩, ⟨some false, .no⟩, ⟨none, .tv false⟩, oH, ⟨some true, .no⟩, ⟨some true, .no⟩, ⟨some true, .no⟩, ⟨some true, .no⟩, ⟨none, .tv true⟩] [(0, 0), (2, 1), (3, 2)] [] hX (by kernel_rfl) (allCons hb32 (allCons hb32 (allCons hb32 (allCons hb33 (allCons hb33 (allCons hb33 (allCons hb33 (allCons hb34 (allCons hb34 (allCons hb34 (allCons hb34 (allCons hb34 allNil)))))))))))) (fun _ h => (qThen (h.ht (cont true (of_some hT12)))))
          · exact HT.rgK [oH, oH, oH, ⟨some false, .no⟩, ⟨some false, .no⟩, ⟨none, .tv false⟩, oH, ⟨some false, .no⟩, ⟨some false, .no⟩, ⟨some false, .no⟩, ⟨none, .tv false⟩, oH, ⟨some false, .no⟩, ⟨some false, .no⟩, ⟨some false, .no⟩, ⟨some false, .no⟩, ⟨none, .tv false⟩] [(0, 0), (2, 1), (3, 2)] [] hX (by kernel_rfl) (allCons hb32 (allCons hb32 (allCons hb32 (allCons hb33 (allCons hb33 (allCons hb33 (allCons hb33 (allCons hb34 (allCons hb34 (allCons hb34 (allCons (show (4 : Int) ≠ 0 from by decide) (allCons hb34 (allCons hb34 allNil))))))))))))) (fun _ h => (qThen (h.ht (cont ((Int.tmod (lenI y8.1) (4 : Int)) != (0 : Int)) (of_some hT12)))))

noncomputable def spec_ReadGrammar (a0 : List UInt8) : Option ((Int × Int × List (Int × Int × Int × Int)) × Bool) :=
  (spec_l08ReadGrammar a0).bind fun y1 =>
  some ((y1.1.1, y1.1.2.1, y1.1.2.2), y1.2)

theorem f40_ok {a0 : List UInt8} {r : (Int × Int × List (Int × Int × Int × Int)) × Bool} (hr : spec_ReadGrammar a0 = some r) : CallOK Tryd.prog 40 [.imm .str a0] [⟨true, (.st (.pair tI (.pair tI (.sl (.st (.pair tI (.pair tI (.pair tI tI)))))))), r.1⟩, ⟨false, .bool, r.2⟩] [] := by
  unfold spec_ReadGrammar at hr
  refine CallOK.of_body (ts := [(true, (.st (.pair tI (.pair tI (.sl (.st (.pair tI (.pair tI (.pair tI tI))))))))), (false, .bool)]) Tryd.func40 rfl (by kernel_rfl) (Nat.le_of_ble_eq_true (by kernel_rfl)) fun cx hP hN hO hF => ?_
  have hO : cx.own.map Prod.fst = [] := hO
  have hX := CxIs.mk hP hN hO
  have hF := hF rfl
  show HT cx ⟨[(0, .one (.dat .str a0))], [], 0⟩ _ _
  refine HT.rg2 (oHs 2) ⟨[(0, .one (.dat .str a0)), (2, pV 0 0)], [(0, .box [iC (0 : Int), iC (0 : Int), .nilS])], 1⟩ hX (by kernel_rfl) allNil ?_
  obtain ⟨y1, hc2, hr⟩ := of_bind hr
  refine HT.rg2 [oH, ⟨none, .call [.imm .str] [⟨true, (.st (.pair tI (.pair tI (.sl (.st (.pair tI (.pair tI (.pair tI tI)))))))), y1.1⟩, ⟨false, .bool, y1.2⟩] []⟩, oH, oH, oH, oH] ⟨[(2, pV 0 0), (3, bV y1.2)], [(0, .box [iC y1.1.1, iC y1.1.2.1, .all 1]), (1, .seq (.st (.pair tI (.pair tI (.pair tI tI)))) y1.1.2.2)], 2⟩ hX (by kernel_rfl) (allCons (f92_ok hc2) allNil) ?_
  have hr := of_some hr
  subst hr
  exact HT.ret ⟨[.agg [iC y1.1.1, iC y1.1.2.1, .all 1], bV y1.2], [1], [], by kernel_rfl, by kernel_rfl, rfl, by kernel_rfl, by kernel_rfl, trivial⟩

noncomputable def strings_Split (a0 a1 : List UInt8) : Option (List (List UInt8)) :=
  guardP (a0.length < 4294967281 ∧ 1 ≤ a1.length) <| some (Lib.split a0 a1)

theorem f124_ok {a0 a1 : List UInt8} {r : List (List UInt8)} (h : strings_Split a0 a1 = some r) : CallOK Tryd.prog 124 [.imm .str a0, .imm .str a1] [⟨true, .sl .str, r⟩] [] := by
  obtain ⟨hg, h⟩ := of_guard h
  have h := of_some h
  subst h
  exact split_ok ⟨_, Tryd.func124, by kernel_rfl, by kernel_rfl⟩ hg.1 hg.2 fun w S hgl => by
    obtain ⟨m, hm⟩ := Glob.maxlen hgl
    exact Tryd.strings_Split _ _ m w hg.1 hm hg.2

noncomputable def impl_pieces (a0 : List UInt8) : Option (List (List UInt8)) :=
  bif (a0 == ([110, 111, 110, 101] : List UInt8)) then
    some ([] : List (List UInt8))
  else
    (strings_Split a0 ([44] : List UInt8)).bind fun y2 =>
    some y2

theorem f152_ok {a0 : List UInt8} {r : List (List UInt8)} (hr : impl_pieces a0 = some r) : CallOK Tryd.prog 152 [.imm .str a0] [⟨true, (.sl .str), r⟩] [] := by
  unfold impl_pieces at hr
  refine CallOK.of_body (ts := [(true, (.sl .str))]) Tryd.func152 rfl (by kernel_rfl) (Nat.le_of_ble_eq_true (by kernel_rfl)) fun cx hP hN hO hF => ?_
  have hO : cx.own.map Prod.fst = [] := hO
  have hX := CxIs.mk hP hN hO
  have hF := hF rfl
  show HT cx ⟨[(0, .one (.dat .str a0))], [], 0⟩ _ _
  refine HT.rg2 [oH] ⟨[(0, .one (.dat .str a0))], [], 0⟩ hX (by kernel_rfl) allNil ?_
  refine HT.seq ?_
  refine HT.rg2 (oHs 2) ⟨[(0, .one (.dat .str a0)), (4, bV (a0 == ([110, 111, 110, 101] : List UInt8)))], [], 0⟩ hX (by kernel_rfl) allNil ?_
  rcases of_bif hr with ⟨hb1, hr⟩ | ⟨hb1, hr⟩
  · refine HT.cond1 rfl hb1 ?_
    refine HT.rg2 [oH] ⟨[(2, .one (.nilS))], [], 0⟩ hX (by kernel_rfl) allNil ?_
    have hr := of_some hr
    subst hr
    exact HT.ret (qThenR ⟨[.one (.nilS)], [], [], by kernel_rfl, by kernel_rfl, rfl, by kernel_rfl, by kernel_rfl, trivial⟩)
  · refine HT.cond0 rfl hb1 ?_
    refine HT.skip (qThen ?_)
    obtain ⟨y2, hc3, hr⟩ := of_bind hr
    refine HT.rg2 [oH, ⟨none, .call [.imm .str, .imm .str] [⟨true, (.sl .str), y2⟩] []⟩, oH] ⟨[(2, aV 0)], [(0, .seq .str y2)], 1⟩ hX (by kernel_rfl) (allCons (f124_ok hc3) allNil) ?_
    have hr := of_some hr
    subst hr
    exact HT.ret ⟨[aV 0], [0], [], by kernel_rfl, by kernel_rfl, rfl, by kernel_rfl, by kernel_rfl, trivial⟩

theorem tabPow {w : World} {t : TypeId} {fr : Nat × Nat} (h : w.heap[1]? = some (.cells pow10Cells t fr)) : Lib.TabIs Tryd.prog w "internal/strconv.uint64pow10" .u64 Lib.pow10Tab := by
  unfold Lib.TabIs World.var?
  rw [show Tryd.prog.globalNamed "internal/strconv.uint64pow10" = some 1 by kernel_rfl, Option.bind_some, h]
  unfold pow10Cells Lib.pow10Tab
  rw [List.map_map]
  rfl

noncomputable def strconv_FormatInt (a0 : Int) (a1 : Int) : Option (List UInt8) :=
  guardP (a1 = 10 ∧ -9223372036854775808 ≤ a0 ∧ a0 ≤ 9223372036854775807) <| some (Lib.itoa a0)

theorem f108_ok {a0 : Int} {a1 : Int} {r : List UInt8} (h : strconv_FormatInt a0 a1 = some r) : CallOK Tryd.prog 108 [.imm tI a0, .imm tI a1] [⟨false, .str, r⟩] [] := by
  obtain ⟨hg, h⟩ := of_guard h
  have h := of_some h
  subst h
  obtain ⟨rfl, hg⟩ := hg
  have hg : True ∧ _ := ⟨trivial, hg⟩
  exact simple_ok (ps := [⟨tI, a0⟩, ⟨tI, 10⟩]) (rs := [⟨.str, Lib.itoa a0⟩]) ⟨_, Tryd.func108, by kernel_rfl, by kernel_rfl⟩ (by simp [Ty.simple]) (by simp [Ty.simple]) fun w S hgl => by
    obtain ⟨_, t, fr, ht⟩ := Glob.pow hgl
    exact (Tryd.strconv_FormatInt_10 _ hg.2.1 hg.2.2 w (tabPow ht)).mono fun e w' ⟨he, k, os, hw⟩ => ⟨⟨_, he, rfl⟩, hw ▸ Lib.below_grow _ _ (Nat.le_refl _) k os⟩

section
open Go.RowKit

theorem below_parse {w w' : World} (h : w' = w ∨ ∃ t, w' = Lib.bytesWorld w 5 t) : Below w.heap.size w w' := by
  rcases h with rfl | ⟨t, rfl⟩
  · exact Below.refl _ _
  · unfold Lib.bytesWorld
    exact Lib.below_freeze ((Below.drew (Below.refl _ w)).alloc (Nat.le_refl _) _) (p := ⟨w.heap.size, _, none⟩) (Nat.le_refl _) _

theorem below_then {a b c : World} (h : Below a.heap.size a b) (k : Below b.heap.size b c) : Below a.heap.size a c :=
  h.trans ⟨k.os, k.tape, k.output, k.size, fun i hi => k.block i (Nat.lt_of_lt_of_le hi h.size)⟩

theorem isValue_any (v : Int) (w : World) : Calls Tryd.prog 147 #[.int .i64 v] w fun e w' => e = .returned (.bool (decide (-1000000000000000 ≤ v) && decide (v ≤ 1000000000000000))) ∧ w' = w := by
  by_cases h0 : -1000000000000000 ≤ v
  · by_cases h1 : v ≤ 1000000000000000
    · go_enter Tryd.func147, Tryd.ntmps147
      go_wp2
      go_ret
      exact ⟨by simp [h0, h1], rfl⟩
    · go_enter Tryd.func147, Tryd.ntmps147
      go_wp2
      go_ret
      exact ⟨by simp [h0, h1], rfl⟩
  · go_enter Tryd.func147, Tryd.ntmps147
    go_wp2
    go_ret
    exact ⟨by rw [show decide (-1000000000000000 ≤ v) = false by simp only [decide_eq_false_iff_not]; omega]; rfl, rfl⟩

theorem dec_any (v : Int) (h0 : -9223372036854775808 ≤ v) (h1 : v ≤ 9223372036854775807) (w : World) (t : TypeId) (fr : Nat × Nat) (ht : w.heap[1]? = some (.cells pow10Cells t fr)) :
    Calls Tryd.prog 54 #[.int .i64 v] w fun e w' => e = .returned (.string ⟨(Lib.itoa v).toArray⟩) ∧ Below w.heap.size w w' := by
  go_enter Tryd.func54, Tryd.ntmps54
  go_wp2_with (go_at_call 108; refine (Tryd.strconv_FormatInt_10 v h0 h1 w (tabPow ht)).mono ?_)
  rintro e w2 ⟨rfl, k, os, rfl⟩
  have hb := Lib.below_grow w.heap.size w (Nat.le_refl _) k os
  generalize Go.Sort.grow (w.drewN k) os = w2 at hb ⊢
  go_wp2
  go_ret
  exact ⟨rfl, hb⟩

set_option maxRecDepth 100000 in
theorem rd_ok (s : ByteArray) (v : Int) (h : Lib.parseIntB 64 s.data.toList = .ok v) (hs : s.size ≤ 281474976710656) (w : World) (t : TypeId) (fr : Nat × Nat) (ht : w.heap[1]? = some (.cells pow10Cells t fr)) (h1 : 1 < w.heap.size)
    (hv0 : -1000000000000000 ≤ v) (hv1 : v ≤ 1000000000000000) (he : ByteArray.mk (Lib.itoa v).toArray = s) :
    Calls Tryd.prog 153 #[.string s] w fun e w' => e = .returned (.tuple #[.int .i64 v, .bool true]) ∧ Below w.heap.size w w' := by
  have hiv : (decide (-1000000000000000 ≤ v) && decide (v ≤ 1000000000000000)) = true := by simp [hv0, hv1]
  go_enter Tryd.func153, Tryd.ntmps153
  go_wp2_with (go_at_call 164; refine (Tryd.strconv_ParseInt_10_at64_ok _ (by omega) v h w).mono ?_)
  rintro e w1 ⟨rfl, hw1⟩
  have hb := below_parse hw1
  have ht1 : w1.heap[1]? = some (.cells pow10Cells t fr) := (hb.block 1 h1).trans ht
  clear hw1 h
  go_wp2_with (go_at_call 147; refine (isValue_any v w1).mono ?_)
  rintro e w2 ⟨rfl, rfl⟩
  rw [hiv]
  go_wp2_with (go_at_call 54; refine (dec_any v (by omega) (by omega) w2 t fr ht1).mono ?_)
  rintro e w3 ⟨rfl, hb3⟩
  rw [he]
  go_wp2
  go_ret2
  exact ⟨rfl, below_then hb hb3⟩

set_option maxRecDepth 100000 in
theorem rd_other (s : ByteArray) (v : Int) (h : Lib.parseIntB 64 s.data.toList = .ok v) (hs : s.size ≤ 281474976710656) (w : World) (t : TypeId) (fr : Nat × Nat) (ht : w.heap[1]? = some (.cells pow10Cells t fr)) (h1 : 1 < w.heap.size)
    (hv0 : -1000000000000000 ≤ v) (hv1 : v ≤ 1000000000000000) (he : ByteArray.mk (Lib.itoa v).toArray ≠ s) :
    Calls Tryd.prog 153 #[.string s] w fun e w' => e = .returned (.tuple #[.int .i64 0, .bool false]) ∧ Below w.heap.size w w' := by
  have hiv : (decide (-1000000000000000 ≤ v) && decide (v ≤ 1000000000000000)) = true := by simp [hv0, hv1]
  go_enter Tryd.func153, Tryd.ntmps153
  go_wp2_with (go_at_call 164; refine (Tryd.strconv_ParseInt_10_at64_ok _ (by omega) v h w).mono ?_)
  rintro e w1 ⟨rfl, hw1⟩
  have hb := below_parse hw1
  have ht1 : w1.heap[1]? = some (.cells pow10Cells t fr) := (hb.block 1 h1).trans ht
  clear hw1 h
  go_wp2_with (go_at_call 147; refine (isValue_any v w1).mono ?_)
  rintro e w2 ⟨rfl, rfl⟩
  rw [hiv]
  go_wp2_with (go_at_call 54; refine (dec_any v (by omega) (by omega) w2 t fr ht1).mono ?_)
  rintro e w3 ⟨rfl, hb3⟩
  have he2 : ((ByteArray.mk (Lib.itoa v).toArray).toList == s.toList) = false := by
    rw [beq_eq_false_iff_ne]
    intro q
    rw [ByteArray.toList_eq, ByteArray.toList_eq] at q
    exact he (WideShapes.bytes_inj q)
  generalize ByteArray.mk (Lib.itoa v).toArray = q at he he2 ⊢
  clear he
  go_wp2
  go_ret2
  exact ⟨rfl, below_then hb hb3⟩

set_option maxRecDepth 100000 in
theorem rd_out (s : ByteArray) (v : Int) (h : Lib.parseIntB 64 s.data.toList = .ok v) (hs : s.size ≤ 281474976710656) (w : World) (hiv : (decide (-1000000000000000 ≤ v) && decide (v ≤ 1000000000000000)) = false) :
    Calls Tryd.prog 153 #[.string s] w fun e w' => e = .returned (.tuple #[.int .i64 0, .bool false]) ∧ Below w.heap.size w w' := by
  go_enter Tryd.func153, Tryd.ntmps153
  go_wp2_with (go_at_call 164; refine (Tryd.strconv_ParseInt_10_at64_ok _ (by omega) v h w).mono ?_)
  rintro e w1 ⟨rfl, hw1⟩
  have hb := below_parse hw1
  clear hw1 h
  go_wp2_with (go_at_call 147; refine (isValue_any v w1).mono ?_)
  rintro e w2 ⟨rfl, rfl⟩
  rw [hiv]
  go_wp2
  go_ret2
  exact ⟨rfl, hb⟩

set_option maxRecDepth 100000 in
theorem rd_syntax (s : ByteArray) (h : Lib.parseIntB 64 s.data.toList = Lib.parseIntB 64 []) (hs : s.size ≤ 281474976710656) (w : World) (ev : Value) (hv : w.cell? ⟨6, 0, none⟩ = some ev) (hev : ev = .nilIface ∨ ∃ te pe, ev = .iface te pe) :
    Calls Tryd.prog 153 #[.string s] w fun e w' => e = .returned (.tuple #[.int .i64 0, .bool false]) ∧ Below w.heap.size w w' := by
  go_enter Tryd.func153, Tryd.ntmps153
  go_wp2_with (go_at_call 164; refine (Tryd.strconv_ParseInt_10_at64_syntax _ (by omega) h ev w hv hev).mono ?_)
  rintro e w1 ⟨N, rfl, _, _, hb⟩
  clear h hv hev
  go_wp2
  go_ret2
  exact ⟨rfl, hb⟩

set_option maxRecDepth 100000 in
theorem rd_range (s : ByteArray) (h : Lib.parseIntB 64 s.data.toList = .range) (hs : s.size ≤ 281474976710656) (w : World) (ev : Value) (hv : w.cell? ⟨7, 0, none⟩ = some ev) (hev : ev = .nilIface ∨ ∃ te pe, ev = .iface te pe) :
    Calls Tryd.prog 153 #[.string s] w fun e w' => e = .returned (.tuple #[.int .i64 0, .bool false]) ∧ Below w.heap.size w w' := by
  go_enter Tryd.func153, Tryd.ntmps153
  go_wp2_with (go_at_call 164; refine (Tryd.strconv_ParseInt_10_at64_range _ (by omega) h ev w hv hev).mono ?_)
  rintro e w1 ⟨N, rfl, _, _, hb⟩
  clear h hv hev
  go_wp2
  go_ret2
  exact ⟨rfl, hb⟩

end

/-- The number with this decimal text. -/
noncomputable def rdDec (s : List UInt8) : Int × Bool :=
  match Lib.parseIntB 64 s with
  | .ok v => if (-1000000000000000 ≤ v ∧ v ≤ 1000000000000000) ∧ Lib.itoa v = s then (v, true) else (0, false)
  | _ => (0, false)

noncomputable def impl_ReadDecimal (a0 : List UInt8) : Option (Int × Bool) :=
  guardP (a0.length ≤ 281474976710656) <| some (rdDec a0)

theorem f153_ok {a0 : List UInt8} {r : Int × Bool} (h : impl_ReadDecimal a0 = some r) : CallOK Tryd.prog 153 [.imm .str a0] [⟨false, (.int .i64), r.1⟩, ⟨false, .bool, r.2⟩] [] := by
  obtain ⟨hg, h⟩ := of_guard h
  have h := of_some h
  subst h
  exact simple_ok (ps := [⟨.str, a0⟩]) (rs := [⟨.int .i64, (rdDec a0).1⟩, ⟨.bool, (rdDec a0).2⟩]) ⟨_, Tryd.func153, by kernel_rfl, by kernel_rfl⟩ (by simp [Ty.simple]) (by simp [Ty.simple]) fun w S hgl => by
    obtain ⟨_, t, fr, ht⟩ := Glob.pow hgl
    obtain ⟨_, ⟨h6, e6, c6, v6⟩, h7, e7, c7, v7⟩ := hgl
    have h1 : 1 < w.heap.size := (Array.getElem?_eq_some_iff.1 ht).1
    have key : Calls Tryd.prog 153 #[.string ⟨a0.toArray⟩] w fun e w' => e = .returned (.tuple #[.int .i64 (rdDec a0).1, .bool (rdDec a0).2]) ∧ RowKit.Below w.heap.size w w' := by
      unfold rdDec
      cases hp : Lib.parseIntB 64 a0 with
      | ok v =>
        simp only
        by_cases hi : -1000000000000000 ≤ v ∧ v ≤ 1000000000000000
        · by_cases he : Lib.itoa v = a0
          · rw [if_pos ⟨hi, he⟩]
            exact rd_ok ⟨a0.toArray⟩ v hp hg w t fr ht h1 hi.1 hi.2 (by rw [he])
          · rw [if_neg fun q => he q.2]
            exact rd_other ⟨a0.toArray⟩ v hp hg w t fr ht h1 hi.1 hi.2 (fun q => he (by injection q with q; exact List.toArray_inj q))
        · rw [if_neg fun q => hi q.1]
          exact rd_out ⟨a0.toArray⟩ v hp hg w (by
            rw [Bool.eq_false_iff]
            intro q
            simp only [Bool.and_eq_true, decide_eq_true_eq] at q
            exact hi q)
      | range => exact rd_range ⟨a0.toArray⟩ hp hg w e7 c7 v7
      | _ => exact rd_syntax ⟨a0.toArray⟩ hp hg w e6 c6 v6
    exact key.mono fun e w' ⟨he, hw⟩ => ⟨⟨_, he, rfl⟩, hw⟩

noncomputable def impl_readList_B1 (y1 : List (List UInt8)) (s3 : Int × List Int) : Option ((Int × List Int) ⊕ (List Int ⊕ Unit)) :=
  bif (decide (s3.1 < (lenI y1))) then
    guardP ((0 : Int) ≤ s3.1 ∧ s3.1 < lenI y1) (
      (impl_ReadDecimal (List.getD y1 (Int.toNat s3.1) ([] : List UInt8))).bind fun y12 =>
      bif (!y12.2) then
        some (.inr (.inr ()))
      else
        guardP (List.length s3.2 + List.length ([y12.1] : List Int) ≤ appMax) (
          some (.inl ((wadd .i64 s3.1 (1 : Int)), (s3.2 ++ ([y12.1] : List Int))))))
  else
    some (.inr (.inl s3.2))

noncomputable def impl_readList (a0 : List UInt8) : Option (List Int × Bool) :=
  (impl_pieces a0).bind fun y1 =>
  (rounds (impl_readList_B1 y1) ((0 : Int), ([] : List Int))).bind fun r4 => match r4 with
    | .inl r5 =>
      some (r5, true)
    | .inr r6 =>
      some (([] : List Int), false)

theorem f138_ok {a0 : List UInt8} {r : List Int × Bool} (hr : impl_readList a0 = some r) : CallOK Tryd.prog 138 [.imm .str a0] [⟨true, tLI, r.1⟩, ⟨false, .bool, r.2⟩] [] := by
  unfold impl_readList at hr
  refine CallOK.of_body (ts := [(true, tLI), (false, .bool)]) Tryd.func138 rfl (by kernel_rfl) (Nat.le_of_ble_eq_true (by kernel_rfl)) fun cx hP hN hO hF => ?_
  have hO : cx.own.map Prod.fst = [] := hO
  have hX := CxIs.mk hP hN hO
  have hF := hF rfl
  show HT cx ⟨[(0, .one (.dat .str a0))], [], 0⟩ _ _
  refine HT.rg2 (oHs 2) ⟨[(0, .one (.dat .str a0))], [], 0⟩ hX (by kernel_rfl) allNil ?_
  refine HT.rg2 (oHs 2) ⟨[(0, .one (.dat .str a0)), (4, .one (.nilS))], [], 0⟩ hX (by kernel_rfl) allNil ?_
  refine HT.seq ?_
  obtain ⟨y1, hc2, hr⟩ := of_bind hr
  refine HT.rg2 [oH, ⟨none, .call [.imm .str] [⟨true, (.sl .str), y1⟩] []⟩, oH, oH] ⟨[(4, .one (.nilS)), (11, aV 0), (12, iV (lenI y1)), (13, iV (0 : Int))], [(0, .seq .str y1)], 1⟩ hX (by kernel_rfl) (allCons (f152_ok hc2) allNil) ?_
  refine HT.block ?_
  obtain ⟨r4, hL16, hr⟩ := of_bind hr
  refine HT.loopL (fun (s3 : Int × List Int) => ⟨[(4, aV 0), (11, aV 1), (12, iV (lenI y1)), (13, iV s3.1)], [(0, .seq tI s3.2), (1, .seq .str y1)], 2⟩) (fun (r4 : List Int ⊕ Unit) => match r4 with | .inl r5 => (.exit 0, ⟨[(4, aV 0)], [(0, .seq tI r5)], 1⟩) | .inr r6 => (.ret, ⟨[(2, .one (.nilS)), (3, bV false)], [], 0⟩)) (Le.re [(0, 1)] [0] hX (by kernel_rfl)) hL16 ?_ (fun s3 x7 hx8 hk9 => ?_)
  · rcases r4 with r5 | r6
    · refine (qBlockX (qThen ?_))
      refine HT.rg2 (oHs 3) ⟨[(2, aV 0), (3, bV true)], [(0, .seq tI r5)], 1⟩ hX (by kernel_rfl) allNil ?_
      have hr := of_some hr
      subst hr
      exact HT.ret ⟨[aV 0, bV true], [0], [], by kernel_rfl, by kernel_rfl, rfl, by kernel_rfl, by kernel_rfl, trivial⟩
    · have hr := of_some hr
      subst hr
      exact (qBlockR (qThenR ⟨[.one (.nilS), bV false], [], [], by kernel_rfl, by kernel_rfl, rfl, by kernel_rfl, by kernel_rfl, trivial⟩))
  · refine HT.rg2 [oH] ⟨[(4, aV 0), (11, aV 1), (12, iV (lenI y1)), (13, iV s3.1), (14, bV (decide (s3.1 < (lenI y1))))], [(0, .seq tI s3.2), (1, .seq .str y1)], 2⟩ hX (by kernel_rfl) allNil ?_
    refine HT.seq ?_
    rcases of_bif hx8 with ⟨hb10, hx8⟩ | ⟨hb10, hx8⟩
    · refine HT.cond1 rfl hb10 ?_
      refine HT.skip (qThen ?_)
      refine HT.seq ?_
      refine HT.block ?_
      obtain ⟨hg11, hx8⟩ := of_guard hx8
      refine HT.rg2 (oHs 3) ⟨[(4, aV 0), (6, .one (.dat .str (List.getD y1 (Int.toNat s3.1) ([] : List UInt8)))), (11, aV 1), (12, iV (lenI y1)), (13, iV s3.1)], [(0, .seq tI s3.2), (1, .seq .str y1)], 2⟩ hX (by kernel_rfl) (allCons hg11 (allCons (natLt hg11) allNil)) ?_
      obtain ⟨y12, hc13, hx8⟩ := of_bind hx8
      refine HT.rg2 [oH, ⟨none, .call [.imm .str] [⟨false, tI, y12.1⟩, ⟨false, .bool, y12.2⟩] []⟩, oH, oH, oH, oH, oH] ⟨[(4, aV 0), (7, iV y12.1), (8, bV y12.2), (11, aV 1), (12, iV (lenI y1)), (13, iV s3.1)], [(0, .seq tI s3.2), (1, .seq .str y1)], 2⟩ hX (by kernel_rfl) (allCons (f153_ok hc13) allNil) ?_
      refine HT.seq ?_
      refine HT.rg2 (oHs 2) ⟨[(4, aV 0), (7, iV y12.1), (11, aV 1), (12, iV (lenI y1)), (13, iV s3.1), (23, bV (!y12.2))], [(0, .seq tI s3.2), (1, .seq .str y1)], 2⟩ hX (by kernel_rfl) allNil ?_
      rcases of_bif hx8 with ⟨hb14, hx8⟩ | ⟨hb14, hx8⟩
      · refine HT.cond1 rfl hb14 ?_
        refine HT.rg2 (oHs 2) ⟨[(2, .one (.nilS)), (3, bV false)], [], 2⟩ hX (by kernel_rfl) allNil ?_
        have hx8 := of_some hx8
        subst hx8
        exact HT.retL (Le.re [] [] hX (by kernel_rfl)) (qThenR (qBlockR (qThenR (qLoopR (hk9 (.inr ()) rfl)))))
      · refine HT.cond0 rfl hb14 ?_
        refine HT.skip (qThen ?_)
        obtain ⟨hg15, hx8⟩ := of_guard hx8
        refine HT.rgL [oH, oH, ⟨none, .ty tI⟩, ⟨none, .ty tI⟩, oH] ⟨[(4, aV 3), (11, aV 1), (12, iV (lenI y1)), (13, iV s3.1)], [(3, .seq tI (s3.2 ++ ([y12.1] : List Int))), (1, .seq .str y1)], 4⟩ hX (by kernel_rfl) (allCons hg15 allNil) (qBlock (qThen ?_))
        have hx8 := of_some hx8
        subst hx8
        exact HT.rgK (oHs 2) [(3, 0), (1, 1)] [] hX (by kernel_rfl) allNil (fun _ h => (qLoopN ⟨((wadd .i64 s3.1 (1 : Int)), (s3.2 ++ ([y12.1] : List Int))), rfl, h⟩))
    · refine HT.cond0 rfl hb10 ?_
      have hx8 := of_some hx8
      subst hx8
      exact HT.exitL (Le.re [(0, 0)] [] hX (by kernel_rfl)) (qThenE (qLoopE (hk9 (.inl s3.2) rfl)))

noncomputable def impl_ReadList (a0 : List UInt8) : Option (List Int × Bool) :=
  (impl_readList a0).bind fun y1 =>
  (show Option (Bool) from
    bif (!y1.2) then
      some true
    else
      some (decide ((lenI y1.1) > (64 : Int)))).bind fun v3 =>
  bif v3 then
    some (([] : List Int), false)
  else
    some (y1.1, true)

theorem f125_ok {a0 : List UInt8} {r : List Int × Bool} (hr : impl_ReadList a0 = some r) : CallOK Tryd.prog 125 [.imm .str a0] [⟨true, tLI, r.1⟩, ⟨false, .bool, r.2⟩] [] := by
  unfold impl_ReadList at hr
  refine CallOK.of_body (ts := [(true, tLI), (false, .bool)]) Tryd.func125 rfl (by kernel_rfl) (Nat.le_of_ble_eq_true (by kernel_rfl)) fun cx hP hN hO hF => ?_
  have hO : cx.own.map Prod.fst = [] := hO
  have hX := CxIs.mk hP hN hO
  have hF := hF rfl
  show HT cx ⟨[(0, .one (.dat .str a0))], [], 0⟩ _ _
  refine HT.rg2 (oHs 2) ⟨[(0, .one (.dat .str a0))], [], 0⟩ hX (by kernel_rfl) allNil ?_
  obtain ⟨y1, hc2, hr⟩ := of_bind hr
  refine HT.rg2 [oH, ⟨none, .call [.imm .str] [⟨true, tLI, y1.1⟩, ⟨false, .bool, y1.2⟩] []⟩, oH, oH, oH, oH, oH] ⟨[(4, aV 0), (5, bV y1.2)], [(0, .seq tI y1.1)], 1⟩ hX (by kernel_rfl) (allCons (f138_ok hc2) allNil) ?_
  refine HT.seq ?_
  obtain ⟨v3', hT5, hr⟩ := of_bind hr
  refine HT.join (fun (v3 : Bool) => ⟨[(4, aV 0), (17, bV v3)], [(0, .seq tI y1.1)], 1⟩) (fun v => v = v3') (fun v3 hv4 => ?_) (fun cont => ?_)
  · subst hv4
    rcases of_bif hr with ⟨hb6, hr⟩ | ⟨hb6, hr⟩
    · refine HT.cond1 rfl hb6 ?_
      refine HT.rg2 (oHs 2) ⟨[(2, .one (.nilS)), (3, bV false)], [], 1⟩ hX (by kernel_rfl) allNil ?_
      have hr := of_some hr
      subst hr
      exact HT.ret (qThenR ⟨[.one (.nilS), bV false], [], [], by kernel_rfl, by kernel_rfl, rfl, by kernel_rfl, by kernel_rfl, trivial⟩)
    · refine HT.cond0 rfl hb6 ?_
      refine HT.skip (qThen ?_)
      refine HT.rg2 (oHs 3) ⟨[(2, aV 0), (3, bV true)], [(0, .seq tI y1.1)], 1⟩ hX (by kernel_rfl) allNil ?_
      have hr := of_some hr
      subst hr
      exact HT.ret ⟨[aV 0, bV true], [0], [], by kernel_rfl, by kernel_rfl, rfl, by kernel_rfl, by kernel_rfl, trivial⟩
  · rcases of_bif hT5 with ⟨hb7, hT5⟩ | ⟨hb7, hT5⟩
    · exact HT.rgK [oH, oH, oH, ⟨some true, .no⟩, ⟨some true, .no⟩, ⟨some true, .no⟩, ⟨none, .tv true⟩] [(0, 0)] [] hX (by kernel_rfl) (allCons hb7 (allCons hb7 (allCons hb7 (allCons hb7 allNil)))) (fun _ h => (qThen (h.ht (cont true (of_some hT5)))))
    · exact HT.rgK [oH, oH, oH, ⟨some false, .no⟩, ⟨some false, .no⟩, ⟨some false, .no⟩, ⟨none, .tv false⟩] [(0, 0)] [] hX (by kernel_rfl) (allCons hb7 (allCons hb7 (allCons hb7 (allCons hb7 allNil)))) (fun _ h => (qThen (h.ht (cont (decide ((lenI y1.1) > (64 : Int))) (of_some hT5)))))

noncomputable def impl_readLists_B1 (y1 : List (List UInt8)) (s3 : Int × List (List Int)) : Option ((Int × List (List Int)) ⊕ (List (List Int) ⊕ Unit)) :=
  bif (decide (s3.1 < (lenI y1))) then
    guardP ((0 : Int) ≤ s3.1 ∧ s3.1 < lenI y1) (
      (impl_ReadList (List.getD y1 (Int.toNat s3.1) ([] : List UInt8))).bind fun y12 =>
      bif (!y12.2) then
        some (.inr (.inr ()))
      else
        guardP (List.length s3.2 + List.length ([y12.1] : List (List Int)) ≤ appMax) (
          some (.inl ((wadd .i64 s3.1 (1 : Int)), (s3.2 ++ ([y12.1] : List (List Int)))))))
  else
    some (.inr (.inl s3.2))

noncomputable def impl_readLists (a0 : List UInt8) (a1 : Int) : Option (List (List Int) × Bool) :=
  (strings_Split a0 ([59] : List UInt8)).bind fun y1 =>
  (rounds (impl_readLists_B1 y1) ((0 : Int), ([] : List (List Int)))).bind fun r4 => match r4 with
    | .inl r5 =>
      some (r5, ((lenI r5) == a1))
    | .inr r6 =>
      some (([] : List (List Int)), false)

theorem f87_ok {a0 : List UInt8} {a1 : Int} {r : List (List Int) × Bool} (hr : impl_readLists a0 a1 = some r) : CallOK Tryd.prog 87 [.imm .str a0, .imm tI a1] [⟨true, (.sl (.own tI)), r.1⟩, ⟨false, .bool, r.2⟩] [] := by
  unfold impl_readLists at hr
  refine CallOK.of_body (ts := [(true, (.sl (.own tI))), (false, .bool)]) Tryd.func87 rfl (by kernel_rfl) (Nat.le_of_ble_eq_true (by kernel_rfl)) fun cx hP hN hO hF => ?_
  have hO : cx.own.map Prod.fst = [] := hO
  have hX := CxIs.mk hP hN hO
  have hF := hF rfl
  show HT cx ⟨[(0, .one (.dat .str a0)), (1, iV a1)], [], 0⟩ _ _
  refine HT.rg2 (oHs 2) ⟨[(0, .one (.dat .str a0)), (1, iV a1)], [], 0⟩ hX (by kernel_rfl) allNil ?_
  refine HT.rg2 (oHs 2) ⟨[(0, .one (.dat .str a0)), (1, iV a1), (6, .one (.nilS))], [], 0⟩ hX (by kernel_rfl) allNil ?_
  refine HT.seq ?_
  obtain ⟨y1, hc2, hr⟩ := of_bind hr
  refine HT.rg2 [oH, ⟨none, .call [.imm .str, .imm .str] [⟨true, (.sl .str), y1⟩] []⟩, oH, oH] ⟨[(1, iV a1), (6, .one (.nilS)), (13, aV 0), (14, iV (lenI y1)), (15, iV (0 : Int))], [(0, .seq .str y1)], 1⟩ hX (by kernel_rfl) (allCons (f124_ok hc2) allNil) ?_
  refine HT.block ?_
  obtain ⟨r4, hL16, hr⟩ := of_bind hr
  refine HT.loopL (fun (s3 : Int × List (List Int)) => ⟨[(1, iV a1), (6, aV 0), (13, aV 1), (14, iV (lenI y1)), (15, iV s3.1)], [(0, .seq (.own tI) s3.2), (1, .seq .str y1)], 2⟩) (fun (r4 : List (List Int) ⊕ Unit) => match r4 with | .inl r5 => (.exit 0, ⟨[(1, iV a1), (6, aV 0)], [(0, .seq (.own tI) r5)], 1⟩) | .inr r6 => (.ret, ⟨[(4, .one (.nilS)), (5, bV false)], [], 0⟩)) (Le.re [(0, 1)] [0] hX (by kernel_rfl)) hL16 ?_ (fun s3 x7 hx8 hk9 => ?_)
  · rcases r4 with r5 | r6
    · refine (qBlockX (qThen ?_))
      refine HT.rg2 (oHs 7) ⟨[(4, aV 0), (5, bV ((lenI r5) == a1))], [(0, .seq (.own tI) r5)], 1⟩ hX (by kernel_rfl) allNil ?_
      have hr := of_some hr
      subst hr
      exact HT.ret ⟨[aV 0, bV ((lenI r5) == a1)], [0], [], by kernel_rfl, by kernel_rfl, rfl, by kernel_rfl, by kernel_rfl, trivial⟩
    · have hr := of_some hr
      subst hr
      exact (qBlockR (qThenR ⟨[.one (.nilS), bV false], [], [], by kernel_rfl, by kernel_rfl, rfl, by kernel_rfl, by kernel_rfl, trivial⟩))
  · refine HT.rg2 [oH] ⟨[(1, iV a1), (6, aV 0), (13, aV 1), (14, iV (lenI y1)), (15, iV s3.1), (16, bV (decide (s3.1 < (lenI y1))))], [(0, .seq (.own tI) s3.2), (1, .seq .str y1)], 2⟩ hX (by kernel_rfl) allNil ?_
    refine HT.seq ?_
    rcases of_bif hx8 with ⟨hb10, hx8⟩ | ⟨hb10, hx8⟩
    · refine HT.cond1 rfl hb10 ?_
      refine HT.skip (qThen ?_)
      refine HT.seq ?_
      refine HT.block ?_
      obtain ⟨hg11, hx8⟩ := of_guard hx8
      refine HT.rg2 (oHs 3) ⟨[(1, iV a1), (6, aV 0), (8, .one (.dat .str (List.getD y1 (Int.toNat s3.1) ([] : List UInt8)))), (13, aV 1), (14, iV (lenI y1)), (15, iV s3.1)], [(0, .seq (.own tI) s3.2), (1, .seq .str y1)], 2⟩ hX (by kernel_rfl) (allCons hg11 (allCons (natLt hg11) allNil)) ?_
      obtain ⟨y12, hc13, hx8⟩ := of_bind hx8
      refine HT.rg2 [oH, ⟨none, .call [.imm .str] [⟨true, tLI, y12.1⟩, ⟨false, .bool, y12.2⟩] []⟩, oH, oH, oH, oH, oH] ⟨[(1, iV a1), (6, aV 0), (9, aV 2), (10, bV y12.2), (13, aV 1), (14, iV (lenI y1)), (15, iV s3.1)], [(2, .seq tI y12.1), (0, .seq (.own tI) s3.2), (1, .seq .str y1)], 3⟩ hX (by kernel_rfl) (allCons (f125_ok hc13) allNil) ?_
      refine HT.seq ?_
      refine HT.rg2 (oHs 2) ⟨[(1, iV a1), (6, aV 0), (9, aV 2), (13, aV 1), (14, iV (lenI y1)), (15, iV s3.1), (25, bV (!y12.2))], [(2, .seq tI y12.1), (0, .seq (.own tI) s3.2), (1, .seq .str y1)], 3⟩ hX (by kernel_rfl) allNil ?_
      rcases of_bif hx8 with ⟨hb14, hx8⟩ | ⟨hb14, hx8⟩
      · refine HT.cond1 rfl hb14 ?_
        refine HT.rg2 (oHs 2) ⟨[(4, .one (.nilS)), (5, bV false)], [], 3⟩ hX (by kernel_rfl) allNil ?_
        have hx8 := of_some hx8
        subst hx8
        exact HT.retL (Le.re [] [] hX (by kernel_rfl)) (qThenR (qBlockR (qThenR (qLoopR (hk9 (.inr ()) rfl)))))
      · refine HT.cond0 rfl hb14 ?_
        refine HT.skip (qThen ?_)
        obtain ⟨hg15, hx8⟩ := of_guard hx8
        refine HT.rgL [oH, oH, ⟨none, .ty (.own tI)⟩, ⟨none, .ty (.own tI)⟩, oH] ⟨[(1, iV a1), (6, aV 4), (13, aV 1), (14, iV (lenI y1)), (15, iV s3.1)], [(4, .seq (.own tI) (s3.2 ++ ([y12.1] : List (List Int)))), (1, .seq .str y1)], 5⟩ hX (by kernel_rfl) (allCons hg15 allNil) (qBlock (qThen ?_))
        have hx8 := of_some hx8
        subst hx8
        exact HT.rgK (oHs 2) [(4, 0), (1, 1)] [] hX (by kernel_rfl) allNil (fun _ h => (qLoopN ⟨((wadd .i64 s3.1 (1 : Int)), (s3.2 ++ ([y12.1] : List (List Int)))), rfl, h⟩))
    · refine HT.cond0 rfl hb10 ?_
      have hx8 := of_some hx8
      subst hx8
      exact HT.exitL (Le.re [(0, 0)] [] hX (by kernel_rfl)) (qThenE (qLoopE (hk9 (.inl s3.2) rfl)))

noncomputable def impl_within (a0 : Int) (a1 : Int) (a2 : Int) : Option (Bool) :=
  (show Option (Bool) from
    bif (decide (a0 ≥ a1)) then
      some (decide (a0 ≤ a2))
    else
      some false).bind fun v1 =>
  some v1

theorem f106_ok {a0 : Int} {a1 : Int} {a2 : Int} {r : Bool} (hr : impl_within a0 a1 a2 = some r) : CallOK Tryd.prog 106 [.imm tI a0, .imm tI a1, .imm tI a2] [⟨false, .bool, r⟩] [] := by
  unfold impl_within at hr
  refine CallOK.of_body (ts := [(false, .bool)]) Tryd.func106 rfl (by kernel_rfl) (Nat.le_of_ble_eq_true (by kernel_rfl)) fun cx hP hN hO hF => ?_
  have hO : cx.own.map Prod.fst = [] := hO
  have hX := CxIs.mk hP hN hO
  have hF := hF rfl
  show HT cx ⟨[(0, iV a0), (1, iV a1), (2, iV a2)], [], 0⟩ _ _
  refine HT.rg2 [oH] ⟨[(0, iV a0), (1, iV a1), (2, iV a2)], [], 0⟩ hX (by kernel_rfl) allNil ?_
  obtain ⟨v1', hT3, hr⟩ := of_bind hr
  refine HT.join (fun (v1 : Bool) => ⟨[(6, bV v1)], [], 0⟩) (fun v => v = v1') (fun v1 hv2 => ?_) (fun cont => ?_)
  · subst hv2
    have hr := of_some hr
    subst hr
    exact HT.ret ⟨[bV v1], [], [], by kernel_rfl, by kernel_rfl, rfl, by kernel_rfl, by kernel_rfl, trivial⟩
  · rcases of_bif hT3 with ⟨hb4, hT3⟩ | ⟨hb4, hT3⟩
    · exact HT.rgK [oH, oH, oH, oH, ⟨some true, .no⟩, ⟨some true, .no⟩, ⟨some true, .no⟩, ⟨none, .tv true⟩, oH] [] [] hX (by kernel_rfl) (allCons hb4 (allCons hb4 (allCons hb4 (allCons hb4 allNil)))) (fun _ h => (qThen (h.ht (cont (decide (a0 ≤ a2)) (of_some hT3)))))
    · exact HT.rgK [oH, oH, oH, oH, ⟨some false, .no⟩, ⟨some false, .no⟩, ⟨some false, .no⟩, ⟨none, .tv false⟩, oH] [] [] hX (by kernel_rfl) (allCons hb4 (allCons hb4 (allCons hb4 (allCons hb4 allNil)))) (fun _ h => (qThen (h.ht (cont false (of_some hT3)))))

noncomputable def impl_ValidGrammar_B1 (a0 : Int × Int × List (Int × Int × Int × Int)) (s5 : Int) : Option ((Int) ⊕ (Unit ⊕ Unit)) :=
  bif (decide (s5 < (lenI a0.2.2))) then
    guardP ((0 : Int) ≤ s5 ∧ s5 < lenI a0.2.2) (
      (show Option (Int) from
        bif ((((List.getD a0.2.2 (Int.toNat s5) ((0 : Int), (0 : Int), (0 : Int), (0 : Int))).2).2).1 == (-1 : Int)) then
          some (wsub .i64 a0.2.1 (1 : Int))
        else
          some (wsub .i64 a0.1 (1 : Int))).bind fun v14 =>
      (show Option (Bool) from
        (impl_within ((List.getD a0.2.2 (Int.toNat s5) ((0 : Int), (0 : Int), (0 : Int), (0 : Int))).1) (0 : Int) (wsub .i64 a0.1 (1 : Int))).bind fun y21 =>
        bif (!y21) then
          some true
        else
          (impl_within (((List.getD a0.2.2 (Int.toNat s5) ((0 : Int), (0 : Int), (0 : Int), (0 : Int))).2).1) (0 : Int) v14).bind fun y24 =>
          bif (!y24) then
            some true
          else
            (impl_within ((((List.getD a0.2.2 (Int.toNat s5) ((0 : Int), (0 : Int), (0 : Int), (0 : Int))).2).2).1) (-1 : Int) (wsub .i64 a0.1 (1 : Int))).bind fun y27 =>
            bif (!y27) then
              some true
            else
              (impl_within ((((List.getD a0.2.2 (Int.toNat s5) ((0 : Int), (0 : Int), (0 : Int), (0 : Int))).2).2).2) (0 : Int) (1000 : Int)).bind fun y30 =>
              some (!y30)).bind fun v17 =>
      bif v17 then
        some (.inr (.inr ()))
      else
        some (.inl (wadd .i64 s5 (1 : Int))))
  else
    some (.inr (.inl ()))

noncomputable def impl_ValidGrammar (a0 : Int × Int × List (Int × Int × Int × Int)) : Option (Bool) :=
  (show Option (Bool) from
    (impl_within a0.1 (1 : Int) (8 : Int)).bind fun y34 =>
    bif (!y34) then
      some true
    else
      (impl_within a0.2.1 (1 : Int) (4 : Int)).bind fun y37 =>
      bif (!y37) then
        some true
      else
        some (decide ((lenI a0.2.2) > (32 : Int)))).bind fun v1 =>
  bif v1 then
    some false
  else
    (rounds (impl_ValidGrammar_B1 a0) (0 : Int)).bind fun r6 => match r6 with
      | .inl r7 =>
        some true
      | .inr r8 =>
        some false

theorem f66_ok {a0 : Int × Int × List (Int × Int × Int × Int)} {r : Bool} (hr : impl_ValidGrammar a0 = some r) : CallOK Tryd.prog 66 [.imm (.st (.pair tI (.pair tI (.sl (.st (.pair tI (.pair tI (.pair tI tI)))))))) a0] [⟨false, .bool, r⟩] [] := by
  unfold impl_ValidGrammar at hr
  refine CallOK.of_body (ts := [(false, .bool)]) Tryd.func66 rfl (by kernel_rfl) (Nat.le_of_ble_eq_true (by kernel_rfl)) fun cx hP hN hO hF => ?_
  have hO : cx.own.map Prod.fst = [] := hO
  have hX := CxIs.mk hP hN hO
  have hF := hF rfl
  show HT cx ⟨[(0, .agg [iC a0.1, iC a0.2.1, .dat (.sl (.st (.pair tI (.pair tI (.pair tI tI))))) a0.2.2])], [], 0⟩ _ _
  refine HT.rg2 (oHs 2) ⟨[(1, pV 0 0)], [(0, .box [iC a0.1, iC a0.2.1, .dat (.sl (.st (.pair tI (.pair tI (.pair tI tI))))) a0.2.2])], 1⟩ hX (by kernel_rfl) allNil ?_
  refine HT.seq ?_
  obtain ⟨v1', hT3, hr⟩ := of_bind hr
  refine HT.join (fun (v1 : Bool) => ⟨[(1, pV 0 0), (21, bV v1)], [(0, .box [iC a0.1, iC a0.2.1, .dat (.sl (.st (.pair tI (.pair tI (.pair tI tI))))) a0.2.2])], 1⟩) (fun v => v = v1') (fun v1 hv2 => ?_) (fun cont => ?_)
  · subst hv2
    rcases of_bif hr with ⟨hb4, hr⟩ | ⟨hb4, hr⟩
    · refine HT.cond1 rfl hb4 ?_
      refine HT.rg2 [oH] ⟨[(2, bV false)], [], 1⟩ hX (by kernel_rfl) allNil ?_
      have hr := of_some hr
      subst hr
      exact HT.ret (qThenR ⟨[bV false], [], [], by kernel_rfl, by kernel_rfl, rfl, by kernel_rfl, by kernel_rfl, trivial⟩)
    · refine HT.cond0 rfl hb4 ?_
      refine HT.skip (qThen ?_)
      refine HT.seq ?_
      refine HT.rg2 (oHs 4) ⟨[(1, pV 0 0), (23, .one (.dat (.sl (.st (.pair tI (.pair tI (.pair tI tI))))) a0.2.2)), (24, iV (lenI a0.2.2)), (25, iV (0 : Int))], [(0, .box [iC a0.1, iC a0.2.1, .dat (.sl (.st (.pair tI (.pair tI (.pair tI tI))))) a0.2.2])], 1⟩ hX (by kernel_rfl) allNil ?_
      refine HT.block ?_
      obtain ⟨r6, hL33, hr⟩ := of_bind hr
      refine HT.loopL (fun (s5 : Int) => ⟨[(1, pV 0 0), (23, .one (.dat (.sl (.st (.pair tI (.pair tI (.pair tI tI))))) a0.2.2)), (24, iV (lenI a0.2.2)), (25, iV s5)], [(0, .box [iC a0.1, iC a0.2.1, .dat (.sl (.st (.pair tI (.pair tI (.pair tI tI))))) a0.2.2])], 1⟩) (fun (r6 : Unit ⊕ Unit) => match r6 with | .inl r7 => (.exit 0, ⟨[], [], 0⟩) | .inr r8 => (.ret, ⟨[(2, bV false)], [], 0⟩)) (Le.re [(0, 0)] [] hX (by kernel_rfl)) hL33 ?_ (fun s5 x9 hx10 hk11 => ?_)
      · rcases r6 with r7 | r8
        · refine (qBlockX (qThen ?_))
          refine HT.rg2 [oH] ⟨[(2, bV true)], [], 0⟩ hX (by kernel_rfl) allNil ?_
          have hr := of_some hr
          subst hr
          exact HT.ret ⟨[bV true], [], [], by kernel_rfl, by kernel_rfl, rfl, by kernel_rfl, by kernel_rfl, trivial⟩
        · have hr := of_some hr
          subst hr
          exact (qBlockR (qThenR ⟨[bV false], [], [], by kernel_rfl, by kernel_rfl, rfl, by kernel_rfl, by kernel_rfl, trivial⟩))
      · refine HT.rg2 [oH] ⟨[(1, pV 0 0), (23, .one (.dat (.sl (.st (.pair tI (.pair tI (.pair tI tI))))) a0.2.2)), (24, iV (lenI a0.2.2)), (25, iV s5), (26, bV (decide (s5 < (lenI a0.2.2))))], [(0, .box [iC a0.1, iC a0.2.1, .dat (.sl (.st (.pair tI (.pair tI (.pair tI tI))))) a0.2.2])], 1⟩ hX (by kernel_rfl) allNil ?_
        refine HT.seq ?_
        rcases of_bif hx10 with ⟨hb12, hx10⟩ | ⟨hb12, hx10⟩
        · refine HT.cond1 rfl hb12 ?_
          refine HT.skip (qThen ?_)
          refine HT.seq ?_
          refine HT.block ?_
          obtain ⟨hg13, hx10⟩ := of_guard hx10
          refine HT.rg2 (oHs 4) ⟨[(1, pV 0 0), (4, pV 1 0), (23, .one (.dat (.sl (.st (.pair tI (.pair tI (.pair tI tI))))) a0.2.2)), (24, iV (lenI a0.2.2)), (25, iV s5)], [(1, .box [iC ((List.getD a0.2.2 (Int.toNat s5) ((0 : Int), (0 : Int), (0 : Int), (0 : Int))).1), iC (((List.getD a0.2.2 (Int.toNat s5) ((0 : Int), (0 : Int), (0 : Int), (0 : Int))).2).1), iC ((((List.getD a0.2.2 (Int.toNat s5) ((0 : Int), (0 : Int), (0 : Int), (0 : Int))).2).2).1), iC ((((List.getD a0.2.2 (Int.toNat s5) ((0 : Int), (0 : Int), (0 : Int), (0 : Int))).2).2).2)]), (0, .box [iC a0.1, iC a0.2.1, .dat (.sl (.st (.pair tI (.pair tI (.pair tI tI))))) a0.2.2])], 2⟩ hX (by kernel_rfl) (allCons hg13 allNil) ?_
          refine HT.rg2 (oHs 4) ⟨[(1, pV 0 0), (4, pV 1 0), (5, iV (wsub .i64 a0.1 (1 : Int))), (23, .one (.dat (.sl (.st (.pair tI (.pair tI (.pair tI tI))))) a0.2.2)), (24, iV (lenI a0.2.2)), (25, iV s5)], [(1, .box [iC ((List.getD a0.2.2 (Int.toNat s5) ((0 : Int), (0 : Int), (0 : Int), (0 : Int))).1), iC (((List.getD a0.2.2 (Int.toNat s5) ((0 : Int), (0 : Int), (0 : Int), (0 : Int))).2).1), iC ((((List.getD a0.2.2 (Int.toNat s5) ((0 : Int), (0 : Int), (0 : Int), (0 : Int))).2).2).1), iC ((((List.getD a0.2.2 (Int.toNat s5) ((0 : Int), (0 : Int), (0 : Int), (0 : Int))).2).2).2)]), (0, .box [iC a0.1, iC a0.2.1, .dat (.sl (.st (.pair tI (.pair tI (.pair tI tI))))) a0.2.2])], 2⟩ hX (by kernel_rfl) allNil ?_
          obtain ⟨v14', hT16, hx10⟩ := of_bind hx10
          refine HT.join (fun (v14 : Int) => ⟨[(1, pV 0 0), (4, pV 1 0), (5, iV v14), (23, .one (.dat (.sl (.st (.pair tI (.pair tI (.pair tI tI))))) a0.2.2)), (24, iV (lenI a0.2.2)), (25, iV s5)], [(0, .box [iC a0.1, iC a0.2.1, .dat (.sl (.st (.pair tI (.pair tI (.pair tI tI))))) a0.2.2]), (1, .box [iC ((List.getD a0.2.2 (Int.toNat s5) ((0 : Int), (0 : Int), (0 : Int), (0 : Int))).1), iC (((List.getD a0.2.2 (Int.toNat s5) ((0 : Int), (0 : Int), (0 : Int), (0 : Int))).2).1), iC ((((List.getD a0.2.2 (Int.toNat s5) ((0 : Int), (0 : Int), (0 : Int), (0 : Int))).2).2).1), iC ((((List.getD a0.2.2 (Int.toNat s5) ((0 : Int), (0 : Int), (0 : Int), (0 : Int))).2).2).2)])], 2⟩) (fun v => v = v14') (fun v14 hv15 => ?_) (fun cont => ?_)
          · subst hv15
            obtain ⟨v17', hT19, hx10⟩ := of_bind hx10
            refine HT.join (fun (v17 : Bool) => ⟨[(1, pV 0 0), (23, .one (.dat (.sl (.st (.pair tI (.pair tI (.pair tI tI))))) a0.2.2)), (24, iV (lenI a0.2.2)), (25, iV s5), (66, bV v17)], [(0, .box [iC a0.1, iC a0.2.1, .dat (.sl (.st (.pair tI (.pair tI (.pair tI tI))))) a0.2.2])], 1⟩) (fun v => v = v17') (fun v17 hv18 => ?_) (fun cont => ?_)
            · subst hv18
              rcases of_bif hx10 with ⟨hb20, hx10⟩ | ⟨hb20, hx10⟩
              · refine HT.cond1 rfl hb20 ?_
                refine HT.rg2 [oH] ⟨[(2, bV false)], [], 1⟩ hX (by kernel_rfl) allNil ?_
                have hx10 := of_some hx10
                subst hx10
                exact HT.retL (Le.re [] [] hX (by kernel_rfl)) (qBlockR (qThenR (qLoopR (hk11 (.inr ()) rfl))))
              · refine HT.cond0 rfl hb20 ?_
                refine HT.skip (qBlock (qThen ?_))
                have hx10 := of_some hx10
                subst hx10
                exact HT.rgK (oHs 2) [(0, 0)] [] hX (by kernel_rfl) allNil (fun _ h => (qLoopN ⟨(wadd .i64 s5 (1 : Int)), rfl, h⟩))
            · obtain ⟨y21, hc22, hT19⟩ := of_bind hT19
              rcases of_bif hT19 with ⟨hb23, hT19⟩ | ⟨hb23, hT19⟩
              · exact HT.rgK [oH, oH, oH, oH, oH, ⟨none, .call [.imm tI, .imm tI, .imm tI] [⟨false, .bool, y21⟩] []⟩, oH, oH, ⟨some true, .no⟩, ⟨some true, .no⟩, ⟨some true, .no⟩, ⟨some true, .no⟩, ⟨some true, .no⟩, ⟨none, .tv true⟩, oH, ⟨some true, .no⟩, ⟨some true, .no⟩, ⟨some true, .no⟩, ⟨some true, .no⟩, ⟨some true, .no⟩, ⟨some true, .no⟩, ⟨some true, .no⟩, ⟨none, .tv true⟩, oH, ⟨some true, .no⟩, ⟨some true, .no⟩, ⟨some true, .no⟩, ⟨some true, .no⟩, ⟨none, .tv true⟩] [(0, 0)] [] hX (by kernel_rfl) (allCons (f106_ok hc22) (allCons hb23 (allCons hb23 (allCons hb23 (allCons hb23 (allCons hb23 (allCons hb23 (allCons (rfl : true = true) (allCons (rfl : true = true) (allCons (rfl : true = true) (allCons (rfl : true = true) (allCons (rfl : true = true) (allCons (rfl : true = true) (allCons (rfl : true = true) (allCons (rfl : true = true) (allCons (rfl : true = true) (allCons (rfl : true = true) (allCons (rfl : true = true) (allCons (rfl : true = true) (allCons (rfl : true = true) allNil)))))))))))))))))))) (fun _ h => (qThen (h.ht (cont true (of_some hT19)))))
              · obtain ⟨y24, hc25, hT19⟩ := of_bind hT19
                rcases of_bif hT19 with ⟨hb26, hT19⟩ | ⟨hb26, hT19⟩
                · exact HT.rgK [oH, oH, oH, oH, oH, ⟨none, .call [.imm tI, .imm tI, .imm tI] [⟨false, .bool, y21⟩] []⟩, oH, oH, ⟨some false, .no⟩, ⟨some false, .no⟩, ⟨some false, .no⟩, ⟨some false, .call [.imm tI, .imm tI, .imm tI] [⟨false, .bool, y24⟩] []⟩, ⟨some false, .no⟩, ⟨none, .tv false⟩, oH, ⟨some true, .no⟩, ⟨some true, .no⟩, ⟨some true, .no⟩, ⟨some true, .no⟩, ⟨some true, .no⟩, ⟨some true, .no⟩, ⟨some true, .no⟩, ⟨none, .tv true⟩, oH, ⟨some true, .no⟩, ⟨some true, .no⟩, ⟨some true, .no⟩, ⟨some true, .no⟩, ⟨none, .tv true⟩] [(0, 0)] [] hX (by kernel_rfl) (allCons (f106_ok hc22) (allCons hb23 (allCons hb23 (allCons hb23 (allCons hb23 (allCons (f106_ok hc25) (allCons hb23 (allCons hb23 (allCons hb26 (allCons hb26 (allCons hb26 (allCons hb26 (allCons hb26 (allCons hb26 (allCons hb26 (allCons hb26 (allCons (rfl : true = true) (allCons (rfl : true = true) (allCons (rfl : true = true) (allCons (rfl : true = true) (allCons (rfl : true = true) allNil))))))))))))))))))))) (fun _ h => (qThen (h.ht (cont true (of_some hT19)))))
                · obtain ⟨y27, hc28, hT19⟩ := of_bind hT19
                  rcases of_bif hT19 with ⟨hb29, hT19⟩ | ⟨hb29, hT19⟩
                  · exact HT.rgK [oH, oH, oH, oH, oH, ⟨none, .call [.imm tI, .imm tI, .imm tI] [⟨false, .bool, y21⟩] []⟩, oH, oH, ⟨some false, .no⟩, ⟨some false, .no⟩, ⟨some false, .no⟩, ⟨some false, .call [.imm tI, .imm tI, .imm tI] [⟨false, .bool, y24⟩] []⟩, ⟨some false, .no⟩, ⟨none, .tv false⟩, oH, ⟨some false, .no⟩, ⟨some false, .no⟩, ⟨some false, .no⟩, ⟨some false, .no⟩, ⟨some false, .no⟩, ⟨some false, .call [.imm tI, .imm tI, .imm tI] [⟨false, .bool, y27⟩] []⟩, ⟨some false, .no⟩, ⟨none, .tv false⟩, oH, ⟨some true, .no⟩, ⟨some true, .no⟩, ⟨some true, .no⟩, ⟨some true, .no⟩, ⟨none, .tv true⟩] [(0, 0)] [] hX (by kernel_rfl) (allCons (f106_ok hc22) (allCons hb23 (allCons hb23 (allCons hb23 (allCons hb23 (allCons (f106_ok hc25) (allCons hb23 (allCons hb23 (allCons hb26 (allCons hb26 (allCons hb26 (allCons hb26 (allCons hb26 (allCons hb26 (allCons (f106_ok hc28) (allCons hb26 (allCons hb26 (allCons hb29 (allCons hb29 (allCons hb29 (allCons hb29 (allCons hb29 allNil)))))))))))))))))))))) (fun _ h => (qThen (h.ht (cont true (of_some hT19)))))
                  · obtain ⟨y30, hc31, hT19⟩ := of_bind hT19
                    exact HT.rgK [oH, oH, oH, oH, oH, ⟨none, .call [.imm tI, .imm tI, .imm tI] [⟨false, .bool, y21⟩] []⟩, oH, oH, ⟨some false, .no⟩, ⟨some false, .no⟩, ⟨some false, .no⟩, ⟨some false, .call [.imm tI, .imm tI, .imm tI] [⟨false, .bool, y24⟩] []⟩, ⟨some false, .no⟩, ⟨none, .tv false⟩, oH, ⟨some false, .no⟩, ⟨some false, .no⟩, ⟨some false, .no⟩, ⟨some false, .no⟩, ⟨some false, .no⟩, ⟨some false, .call [.imm tI, .imm tI, .imm tI] [⟨false, .bool, y27⟩] []⟩, ⟨some false, .no⟩, ⟨none, .tv false⟩, oH, ⟨some false, .no⟩, ⟨some false, .no⟩, ⟨some false, .call [.imm tI, .imm tI, .imm tI] [⟨false, .bool, y30⟩] []⟩, ⟨some false, .no⟩, ⟨none, .tv false⟩] [(0, 0)] [] hX (by kernel_rfl) (allCons (f106_ok hc22) (allCons hb23 (allCons hb23 (allCons hb23 (allCons hb23 (allCons (f106_ok hc25) (allCons hb23 (allCons hb23 (allCons hb26 (allCons hb26 (allCons hb26 (allCons hb26 (allCons hb26 (allCons hb26 (allCons (f106_ok hc28) (allCons hb26 (allCons hb26 (allCons hb29 (allCons hb29 (allCons hb29 (allCons (f106_ok hc31) (allCons hb29 (allCons hb29 allNil))))))))))))))))))))))) (fun _ h => (qThen (h.ht (cont (!y30) (of_some hT19)))))
          · refine HT.rg2 (oHs 3) ⟨[(1, pV 0 0), (4, pV 1 0), (5, iV (wsub .i64 a0.1 (1 : Int))), (23, .one (.dat (.sl (.st (.pair tI (.pair tI (.pair tI tI))))) a0.2.2)), (24, iV (lenI a0.2.2)), (25, iV s5), (34, bV ((((List.getD a0.2.2 (Int.toNat s5) ((0 : Int), (0 : Int), (0 : Int), (0 : Int))).2).2).1 == (-1 : Int)))], [(1, .box [iC ((List.getD a0.2.2 (Int.toNat s5) ((0 : Int), (0 : Int), (0 : Int), (0 : Int))).1), iC (((List.getD a0.2.2 (Int.toNat s5) ((0 : Int), (0 : Int), (0 : Int), (0 : Int))).2).1), iC ((((List.getD a0.2.2 (Int.toNat s5) ((0 : Int), (0 : Int), (0 : Int), (0 : Int))).2).2).1), iC ((((List.getD a0.2.2 (Int.toNat s5) ((0 : Int), (0 : Int), (0 : Int), (0 : Int))).2).2).2)]), (0, .box [iC a0.1, iC a0.2.1, .dat (.sl (.st (.pair tI (.pair tI (.pair tI tI))))) a0.2.2])], 2⟩ hX (by kernel_rfl) allNil ?_
            rcases of_bif hT16 with ⟨hb32, hT16⟩ | ⟨hb32, hT16⟩
            · refine HT.cond1 rfl hb32 ?_
              exact HT.rgK (oHs 4) [(0, 0), (1, 1)] [] hX (by kernel_rfl) allNil (fun _ h => (qThen (h.ht (cont (wsub .i64 a0.2.1 (1 : Int)) (of_some hT16)))))
            · refine HT.cond0 rfl hb32 ?_
              refine HT.skip (qThen ?_)
              exact (Le.re [(0, 0), (1, 1)] [] hX (by kernel_rfl)).ht (cont (wsub .i64 a0.1 (1 : Int)) (of_some hT16))
        · refine HT.cond0 rfl hb12 ?_
          have hx10 := of_some hx10
          subst hx10
          exact HT.exitL (Le.re [] [] hX (by kernel_rfl)) (qThenE (qLoopE (hk11 (.inl ()) rfl)))
  · obtain ⟨y34, hc35, hT3⟩ := of_bind hT3
    rcases of_bif hT3 with ⟨hb36, hT3⟩ | ⟨hb36, hT3⟩
    · exact HT.rgK [oH, oH, ⟨none, .call [.imm tI, .imm tI, .imm tI] [⟨false, .bool, y34⟩] []⟩, oH, oH, ⟨some true, .no⟩, ⟨some true, .no⟩, ⟨some true, .no⟩, ⟨some true, .no⟩, ⟨none, .tv true⟩, oH, ⟨some true, .no⟩, ⟨some true, .no⟩, ⟨some true, .no⟩, ⟨some true, .no⟩, ⟨none, .tv true⟩] [(0, 0)] [] hX (by kernel_rfl) (allCons (f106_ok hc35) (allCons hb36 (allCons hb36 (allCons hb36 (allCons hb36 (allCons hb36 (allCons (rfl : true = true) (allCons (rfl : true = true) (allCons (rfl : true = true) (allCons (rfl : true = true) (allCons (rfl : true = true) allNil))))))))))) (fun _ h => (qThen (h.ht (cont true (of_some hT3)))))
    · obtain ⟨y37, hc38, hT3⟩ := of_bind hT3
      rcases of_bif hT3 with ⟨hb39, hT3⟩ | ⟨hb39, hT3⟩
      · exact HT.rgK [oH, oH, ⟨none, .call [.imm tI, .imm tI, .imm tI] [⟨false, .bool, y34⟩] []⟩, oH, oH, ⟨some false, .no⟩, ⟨some false, .no⟩, ⟨some false, .call [.imm tI, .imm tI, .imm tI] [⟨false, .bool, y37⟩] []⟩, ⟨some false, .no⟩, ⟨none, .tv false⟩, oH, ⟨some true, .no⟩, ⟨some true, .no⟩, ⟨some true, .no⟩, ⟨some true, .no⟩, ⟨none, .tv true⟩] [(0, 0)] [] hX (by kernel_rfl) (allCons (f106_ok hc35) (allCons hb36 (allCons hb36 (allCons hb36 (allCons (f106_ok hc38) (allCons hb36 (allCons hb36 (allCons hb39 (allCons hb39 (allCons hb39 (allCons hb39 (allCons hb39 allNil)))))))))))) (fun _ h => (qThen (h.ht (cont true (of_some hT3)))))
      · exact HT.rgK [oH, oH, ⟨none, .call [.imm tI, .imm tI, .imm tI] [⟨false, .bool, y34⟩] []⟩, oH, oH, ⟨some false, .no⟩, ⟨some false, .no⟩, ⟨some false, .call [.imm tI, .imm tI, .imm tI] [⟨false, .bool, y37⟩] []⟩, ⟨some false, .no⟩, ⟨none, .tv false⟩, oH, ⟨some false, .no⟩, ⟨some false, .no⟩, ⟨some false, .no⟩, ⟨some false, .no⟩, ⟨none, .tv false⟩] [(0, 0)] [] hX (by kernel_rfl) (allCons (f106_ok hc35) (allCons hb36 (allCons hb36 (allCons hb36 (allCons (f106_ok hc38) (allCons hb36 (allCons hb36 (allCons hb39 (allCons hb39 (allCons hb39 (allCons hb39 (allCons hb39 allNil)))))))))))) (fun _ h => (qThen (h.ht (cont (decide ((lenI a0.2.2) > (32 : Int))) (of_some hT3)))))

noncomputable def impl_validGrammar_mv0 (a0 : Int × Int × List (Int × Int × Int × Int)) : Option ((Int × Int × List (Int × Int × Int × Int)) × Bool) :=
  (impl_ValidGrammar (a0.1, a0.2.1, a0.2.2)).bind fun y1 =>
  bif (!y1) then
    some (((0 : Int), (0 : Int), ([] : List (Int × Int × Int × Int))), false)
  else
    some ((a0.1, a0.2.1, a0.2.2), true)

theorem f94_mv0_ok {a0 : Int × Int × List (Int × Int × Int × Int)} {r : (Int × Int × List (Int × Int × Int × Int)) × Bool} (hr : impl_validGrammar_mv0 a0 = some r) : CallOK Tryd.prog 94 [.mv (.st (.pair tI (.pair tI (.sl (.st (.pair tI (.pair tI (.pair tI tI)))))))) a0] [⟨true, (.st (.pair tI (.pair tI (.sl (.st (.pair tI (.pair tI (.pair tI tI)))))))), r.1⟩, ⟨false, .bool, r.2⟩] [] := by
  unfold impl_validGrammar_mv0 at hr
  refine CallOK.of_body (ts := [(true, (.st (.pair tI (.pair tI (.sl (.st (.pair tI (.pair tI (.pair tI tI))))))))), (false, .bool)]) Tryd.func94 rfl (by kernel_rfl) (Nat.le_of_ble_eq_true (by kernel_rfl)) fun cx hP hN hO hF => ?_
  have hO : cx.own.map Prod.fst = [] := hO
  have hX := CxIs.mk hP hN hO
  show HT cx ⟨[(0, .agg [iC a0.1, iC a0.2.1, .all 0])], [(0, .seq (.st (.pair tI (.pair tI (.pair tI tI)))) a0.2.2)], 1⟩ _ _
  refine HT.rg2 (oHs 3) ⟨[(1, pV 1 0), (2, pV 2 0)], [(2, .box [iC (0 : Int), iC (0 : Int), .nilS]), (1, .box [iC a0.1, iC a0.2.1, .all 0]), (0, .seq (.st (.pair tI (.pair tI (.pair tI tI)))) a0.2.2)], 3⟩ hX (by kernel_rfl) allNil ?_
  refine HT.seq ?_
  obtain ⟨y1, hc2, hr⟩ := of_bind hr
  refine HT.rg2 [oH, ⟨none, .call [.imm (.st (.pair tI (.pair tI (.sl (.st (.pair tI (.pair tI (.pair tI tI))))))))] [⟨false, .bool, y1⟩] []⟩, oH] ⟨[(1, pV 1 0), (2, pV 2 0), (6, bV (!y1))], [(2, .box [iC (0 : Int), iC (0 : Int), .nilS]), (1, .box [iC a0.1, iC a0.2.1, .all 0]), (0, .seq (.st (.pair tI (.pair tI (.pair tI tI)))) a0.2.2)], 3⟩ hX (by kernel_rfl) (allCons (f66_ok hc2) allNil) ?_
  rcases of_bif hr with ⟨hb3, hr⟩ | ⟨hb3, hr⟩
  · refine HT.cond1 rfl hb3 ?_
    refine HT.rg2 (oHs 3) ⟨[(2, pV 2 0), (3, bV false)], [(2, .box [iC (0 : Int), iC (0 : Int), .nilS])], 3⟩ hX (by kernel_rfl) allNil ?_
    have hr := of_some hr
    subst hr
    exact HT.ret (qThenR ⟨[.agg [iC (0 : Int), iC (0 : Int), .nilS], bV false], [], [], by kernel_rfl, by kernel_rfl, rfl, by kernel_rfl, by kernel_rfl, trivial⟩)
  · refine HT.cond0 rfl hb3 ?_
    refine HT.skip (qThen ?_)
    refine HT.rg2 (oHs 3) ⟨[(2, pV 2 0), (3, bV true)], [(2, .box [iC a0.1, iC a0.2.1, .all 0]), (0, .seq (.st (.pair tI (.pair tI (.pair tI tI)))) a0.2.2)], 3⟩ hX (by kernel_rfl) allNil ?_
    have hr := of_some hr
    subst hr
    exact HT.ret ⟨[.agg [iC a0.1, iC a0.2.1, .all 0], bV true], [0], [], by kernel_rfl, by kernel_rfl, rfl, by kernel_rfl, by kernel_rfl, trivial⟩


noncomputable def impl_ReadGrammar_B1  (y20 : List Int) (s16 : (List (Int × Int × Int × Int))) : Option ((List (Int × Int × Int × Int))) :=
  guardP ((0 : Int) ≤ (0 : Int) ∧ (0 : Int) < lenI y20) (
    guardP ((0 : Int) ≤ (1 : Int) ∧ (1 : Int) < lenI y20) (
      guardP ((0 : Int) ≤ (2 : Int) ∧ (2 : Int) < lenI y20) (
        guardP ((0 : Int) ≤ (3 : Int) ∧ (3 : Int) < lenI y20) (
          guardP (List.length s16 + List.length ([((List.getD y20 (Int.toNat (0 : Int)) (0 : Int)), (List.getD y20 (Int.toNat (1 : Int)) (0 : Int)), (List.getD y20 (Int.toNat (2 : Int)) (0 : Int)), (List.getD y20 (Int.toNat (3 : Int)) (0 : Int)))] : List (Int × Int × Int × Int)) ≤ appMax) (
            some (s16 ++ ([((List.getD y20 (Int.toNat (0 : Int)) (0 : Int)), (List.getD y20 (Int.toNat (1 : Int)) (0 : Int)), (List.getD y20 (Int.toNat (2 : Int)) (0 : Int)), (List.getD y20 (Int.toNat (3 : Int)) (0 : Int)))] : List (Int × Int × Int × Int))))))))

noncomputable def impl_ReadGrammar (a0 : List UInt8) : Option ((Int × Int × List (Int × Int × Int × Int)) × Bool) :=
  (impl_readLists a0 (2 : Int)).bind fun y1 =>
  (show Option (Bool) from
    bif (!y1.2) then
      some true
    else
      guardP ((0 : Int) ≤ (0 : Int) ∧ (0 : Int) < lenI y1.1) (
        bif ((lenI (List.getD y1.1 (Int.toNat (0 : Int)) ([] : List Int))) != (2 : Int)) then
          some true
        else
          guardP ((0 : Int) ≤ (1 : Int) ∧ (1 : Int) < lenI y1.1) (
            some ((Int.tmod (lenI (List.getD y1.1 (Int.toNat (1 : Int)) ([] : List Int))) (4 : Int)) != (0 : Int))))).bind fun v3 =>
  bif v3 then
    some (((0 : Int), (0 : Int), ([] : List (Int × Int × Int × Int))), false)
  else
    guardP ((0 : Int) ≤ (0 : Int) ∧ (0 : Int) < lenI y1.1) (
      guardP ((0 : Int) ≤ (0 : Int) ∧ (0 : Int) < lenI (List.getD y1.1 (Int.toNat (0 : Int)) ([] : List Int))) (
        guardP ((0 : Int) ≤ (1 : Int) ∧ (1 : Int) < lenI (List.getD y1.1 (Int.toNat (0 : Int)) ([] : List Int))) (
          (some (List.getD (List.getD y1.1 (Int.toNat (0 : Int)) ([] : List Int)) (Int.toNat (0 : Int)) (0 : Int))).bind fun q10 =>
          (some (List.getD (List.getD y1.1 (Int.toNat (0 : Int)) ([] : List Int)) (Int.toNat (1 : Int)) (0 : Int))).bind fun q12 =>
          guardP ((0 : Int) ≤ (1 : Int) ∧ (1 : Int) < lenI y1.1) (
            guardP (Int.toNat (1 : Int) < List.length y1.1) (
              (chunks4 (impl_ReadGrammar_B1) (List.getD y1.1 (Int.toNat (1 : Int)) ([] : List Int)) ([] : List (Int × Int × Int × Int))).bind fun r17 =>
              (impl_validGrammar_mv0 (q10, q12, r17)).bind fun y18 =>
              some ((y18.1.1, y18.1.2.1, y18.1.2.2), y18.2))))))

theorem f41_ok {a0 : List UInt8} {r : (Int × Int × List (Int × Int × Int × Int)) × Bool} (hr : impl_ReadGrammar a0 = some r) : CallOK Tryd.prog 41 [.imm .str a0] [⟨true, (.st (.pair tI (.pair tI (.sl (.st (.pair tI (.pair tI (.pair tI tI)))))))), r.1⟩, ⟨false, .bool, r.2⟩] [] := by
  unfold impl_ReadGrammar at hr
  refine CallOK.of_body (ts := [(true, (.st (.pair tI (.pair tI (.sl (.st (.pair tI (.pair tI (.pair tI tI))))))))), (false, .bool)]) Tryd.func41 rfl (by kernel_rfl) (Nat.le_of_ble_eq_true (by kernel_rfl)) fun cx hP hN hO hF => ?_
  have hO : cx.own.map Prod.fst = [] := hO
  have hX := CxIs.mk hP hN hO
  have hF := hF rfl
  show HT cx ⟨[(0, .one (.dat .str a0))], [], 0⟩ _ _
  refine HT.rg2 (oHs 2) ⟨[(0, .one (.dat .str a0)), (2, pV 0 0)], [(0, .box [iC (0 : Int), iC (0 : Int), .nilS])], 1⟩ hX (by kernel_rfl) allNil ?_
  obtain ⟨y1, hc2, hr⟩ := of_bind hr
  refine HT.rg2 [oH, ⟨none, .call [.imm .str, .imm tI] [⟨true, (.sl (.own tI)), y1.1⟩, ⟨false, .bool, y1.2⟩] []⟩, oH, oH, oH, oH, oH] ⟨[(2, pV 0 0), (4, aV 1), (5, bV y1.2)], [(1, .seq (.own tI) y1.1), (0, .box [iC (0 : Int), iC (0 : Int), .nilS])], 2⟩ hX (by kernel_rfl) (allCons (f87_ok hc2) allNil) ?_
  refine HT.seq ?_
  obtain ⟨v3', hT5, hr⟩ := of_bind hr
  refine HT.join (fun (v3 : Bool) => ⟨[(2, pV 0 0), (4, aV 1), (29, bV v3)], [(0, .box [iC (0 : Int), iC (0 : Int), .nilS]), (1, .seq (.own tI) y1.1)], 2⟩) (fun v => v = v3') (fun v3 hv4 => ?_) (fun cont => ?_)
  · subst hv4
    rcases of_bif hr with ⟨hb6, hr⟩ | ⟨hb6, hr⟩
    · refine HT.cond1 rfl hb6 ?_
      refine HT.rg2 (oHs 3) ⟨[(2, pV 0 0), (3, bV false)], [(0, .box [iC (0 : Int), iC (0 : Int), .nilS])], 2⟩ hX (by kernel_rfl) allNil ?_
      have hr := of_some hr
      subst hr
      exact HT.ret (qThenR ⟨[.agg [iC (0 : Int), iC (0 : Int), .nilS], bV false], [], [], by kernel_rfl, by kernel_rfl, rfl, by kernel_rfl, by kernel_rfl, trivial⟩)
    · refine HT.cond0 rfl hb6 ?_
      refine HT.skip (qThen ?_)
      obtain ⟨hg7, hr⟩ := of_guard hr
      obtain ⟨hg8, hr⟩ := of_guard hr
      obtain ⟨hg9, hr⟩ := of_guard hr
      refine HT.dr2 12 [⟨oH, []⟩, ⟨oH, [0]⟩, ⟨oH, [0, 1]⟩, ⟨oH, [0, 1, 2]⟩, ⟨oH, [0, 1, 2, 3]⟩, ⟨oH, []⟩, ⟨oH, [5]⟩, ⟨oH, [5, 6]⟩, ⟨oH, [5, 6, 7]⟩, ⟨oH, [5, 6, 7, 8]⟩, ⟨oH, [0, 1, 2, 3, 4, 5, 6, 7, 8, 9]⟩, ⟨oH, []⟩] [[0, 1, 2, 3, 4, 5, 6, 7, 8, 9, 10, 11]] [oH] ⟨[(2, pV 0 0), (4, aV 1), (6, pV 2 0)], [(2, .box [iC (List.getD (List.getD y1.1 (Int.toNat (0 : Int)) ([] : List Int)) (Int.toNat (0 : Int)) (0 : Int)), iC (List.getD (List.getD y1.1 (Int.toNat (0 : Int)) ([] : List Int)) (Int.toNat (1 : Int)) (0 : Int)), .nilS]), (0, .box [iC (0 : Int), iC (0 : Int), .nilS]), (1, .seq (.own tI) y1.1)], 3⟩ hX (by kernel_rfl) (by kernel_rfl) (allCons hg7 (allCons (natLt hg7) (allCons hg8 (allCons (natLt hg8) (allCons hg7 (allCons (natLt hg7) (allCons hg9 (allCons (natLt hg9) allNil)))))))) ?_
      obtain ⟨q10, hq11, hr⟩ := of_bind hr
      have hq11 := of_some2 hq11
      obtain ⟨q12, hq13, hr⟩ := of_bind hr
      have hq13 := of_some2 hq13
      refine (Le.cv (s := ⟨[(2, 2), (0, 0), (1, 1)], [], [], false⟩) (own := []) (ps := [q10 = (List.getD (List.getD y1.1 (Int.toNat (0 : Int)) ([] : List Int)) (Int.toNat (0 : Int)) (0 : Int)), q12 = (List.getD (List.getD y1.1 (Int.toNat (0 : Int)) ([] : List Int)) (Int.toNat (1 : Int)) (0 : Int)), (0 : Int) = (0 : Int), (0 : Int) = (0 : Int), y1.1 = y1.1]) (st' := ⟨[(2, pV 0 0), (4, aV 1), (6, pV 2 0)], [(2, .box [iC q10, iC q12, .nilS]), (0, .box [iC (0 : Int), iC (0 : Int), .nilS]), (1, .seq (.own tI) y1.1)], 3⟩) hO (fun h => by cases h) (by kernel_rfl) ⟨hq11, hq13, rfl, rfl, rfl, trivial⟩).ht ?_
      refine HT.seq ?_
      obtain ⟨hg14, hr⟩ := of_guard hr
      obtain ⟨hg15, hr⟩ := of_guard hr
      obtain ⟨r17, hL28, hr⟩ := of_bind hr
      refine HT.chunk (fun (s16 : (List (Int × Int × Int × Int))) => ⟨[(2, pV 0 0), (6, pV 1 0), (44, nV (List.getD y1.1 (Int.toNat (1 : Int)) ([] : List Int)))], [(0, .box [iC (0 : Int), iC (0 : Int), .nilS]), (1, .box [iC q10, iC q12, .all 2]), (2, .seq (.st (.pair tI (.pair tI (.pair tI tI)))) s16)], 3⟩) (n := 3) (rs := (oHs 3)) (st1 := ⟨[(44, .one (.row 1 (Int.toNat (1 : Int)) 0)), (43, .one (.elp 1 (Int.toNat (1 : Int)) 1 0)), (42, aV 1), (2, pV 0 0), (4, aV 1), (6, pV 2 0)], [(2, .box [iC q10, iC q12, .nilS]), (0, .box [iC (0 : Int), iC (0 : Int), .nilS]), (1, .seq (.own tI) y1.1)], 3⟩) (ks := [2, 6, 44]) (ts := 44) (ta := 7) hX chunkFn rfl rfl rfl rfl rfl rfl rfl (by kernel_rfl) (allCons hg14 (allCons (natLt hg14) allNil)) (((((Le.gc (ks := [2, 6, 44]) (ms := [2, 0, 1]) (st' := ⟨[(2, pV 0 0), (6, pV 2 0), (44, .one (.row 1 (Int.toNat (1 : Int)) 0))], [(2, .box [iC q10, iC q12, .nilS]), (0, .box [iC (0 : Int), iC (0 : Int), .nilS]), (1, .seq (.own tI) y1.1)], 3⟩) (cs := []) hX (rfl : some (⟨[(44, .one (.row 1 (Int.toNat (1 : Int)) 0)), (43, .one (.elp 1 (Int.toNat (1 : Int)) 1 0)), (42, aV 1), (2, pV 0 0), (4, aV 1), (6, pV 2 0)], [(2, .box [iC q10, iC q12, .nilS]), (0, .box [iC (0 : Int), iC (0 : Int), .nilS]), (1, .seq (.own tI) y1.1)], 3⟩, ([] : List Prop)) = _) (by kernel_rfl)).2).trans (Le.take (own := []) (st' := ⟨[(2, pV 0 0), (6, pV 2 0), (44, aV 3)], [(1, .gone), (3, .seq tI (List.getD y1.1 (Int.toNat (1 : Int)) ([] : List Int))), (2, .box [iC q10, iC q12, .nilS]), (0, .box [iC (0 : Int), iC (0 : Int), .nilS]), (1, .seq (.own tI) y1.1)], 4⟩) 1 [(Int.toNat (1 : Int), 0, 3)] hO (by kernel_rfl) (allCons hg15 allNil))).trans (Le.rz [(2, 2), (0, 0)] [] (st' := ⟨[(2, pV 0 0), (6, pV 2 0), (44, nV (List.getD y1.1 (Int.toNat (1 : Int)) ([] : List Int)))], [(2, .box [iC q10, iC q12, .nilS]), (0, .box [iC (0 : Int), iC (0 : Int), .nilS])], 4⟩) hX hF (by kernel_rfl))).trans (Le.re [(0, 0), (2, 1)] [2] (st' := ⟨[(2, pV 0 0), (6, pV 1 0), (44, nV (List.getD y1.1 (Int.toNat (1 : Int)) ([] : List Int)))], [(0, .box [iC (0 : Int), iC (0 : Int), .nilS]), (1, .box [iC q10, iC q12, .all 2]), (2, .seq (.st (.pair tI (.pair tI (.pair tI tI)))) ([] : List (Int × Int × Int × Int)))], 3⟩) hX (by kernel_rfl))) (fun _ => rfl) (fun _ => rfl) (by kernel_rfl) (by kernel_rfl) (by kernel_rfl) hL28 (fun y20 s16 s21 hx22 cx hX => ?_) ?_
      · obtain ⟨hg23, hx22⟩ := of_guard hx22
        obtain ⟨hg24, hx22⟩ := of_guard hx22
        obtain ⟨hg25, hx22⟩ := of_guard hx22
        obtain ⟨hg26, hx22⟩ := of_guard hx22
        obtain ⟨hg27, hx22⟩ := of_guard hx22
        have hx22 := of_some hx22
        subst hx22
        exact ⟨⟨[(64, pV 1 2), (63, aV 4), (62, aV 3), (61, .agg [iC (List.getD y20 (Int.toNat (0 : Int)) (0 : Int)), iC (List.getD y20 (Int.toNat (1 : Int)) (0 : Int)), iC (List.getD y20 (Int.toNat (2 : Int)) (0 : Int)), iC (List.getD y20 (Int.toNat (3 : Int)) (0 : Int))]), (60, iV (List.getD y20 (Int.toNat (3 : Int)) (0 : Int))), (59, .one (.ip tI (List.getD y20 (Int.toNat (3 : Int)) (0 : Int)) 0)), (58, nV y20), (57, iV (List.getD y20 (Int.toNat (2 : Int)) (0 : Int))), (56, .one (.ip tI (List.getD y20 (Int.toNat (2 : Int)) (0 : Int)) 0)), (55, nV y20), (54, iV (List.getD y20 (Int.toNat (1 : Int)) (0 : Int))), (53, .one (.ip tI (List.getD y20 (Int.toNat (1 : Int)) (0 : Int)) 0)), (52, nV y20), (51, iV (List.getD y20 (Int.toNat (0 : Int)) (0 : Int))), (50, .one (.ip tI (List.getD y20 (Int.toNat (0 : Int)) (0 : Int)) 0)), (49, nV y20), (48, aV 2), (47, pV 1 2), (7, nV y20), (2, pV 0 0), (6, pV 1 0), (44, nV (List.getD y1.1 (Int.toNat (1 : Int)) ([] : List Int)))], [(1, .box [iC q10, iC q12, .all 4]), (2, .gone), (4, .seq (.st (.pair tI (.pair tI (.pair tI tI)))) (s16 ++ ([((List.getD y20 (Int.toNat (0 : Int)) (0 : Int)), (List.getD y20 (Int.toNat (1 : Int)) (0 : Int)), (List.getD y20 (Int.toNat (2 : Int)) (0 : Int)), (List.getD y20 (Int.toNat (3 : Int)) (0 : Int)))] : List (Int × Int × Int × Int)))), (3, .seq (.st (.pair tI (.pair tI (.pair tI tI)))) ([((List.getD y20 (Int.toNat (0 : Int)) (0 : Int)), (List.getD y20 (Int.toNat (1 : Int)) (0 : Int)), (List.getD y20 (Int.toNat (2 : Int)) (0 : Int)), (List.getD y20 (Int.toNat (3 : Int)) (0 : Int)))] : List (Int × Int × Int × Int))), (0, .box [iC (0 : Int), iC (0 : Int), .nilS]), (1, .box [iC q10, iC q12, .all 2]), (2, .seq (.st (.pair tI (.pair tI (.pair tI tI)))) s16)], 5⟩, RunsAll.draw 16 (hrs := [⟨oH, []⟩, ⟨oH, [0]⟩, ⟨oH, []⟩, ⟨oH, [2]⟩, ⟨oH, [2, 3]⟩, ⟨oH, []⟩, ⟨oH, [5]⟩, ⟨oH, [5, 6]⟩, ⟨oH, []⟩, ⟨oH, [8]⟩, ⟨oH, [8, 9]⟩, ⟨oH, []⟩, ⟨oH, [11]⟩, ⟨oH, [11, 12]⟩, ⟨oH, [2, 3, 4, 5, 6, 7, 8, 9, 10, 11, 12, 13]⟩, ⟨⟨none, .ty (.st (.pair tI (.pair tI (.pair tI tI))))⟩, [2, 3, 4, 5, 6, 7, 8, 9, 10, 11, 12, 13, 14]⟩]) (tds := [[0, 1, 2, 3, 4, 5, 6, 7, 8, 9, 10, 11, 12, 13, 14, 15], [0, 1, 2, 3, 4, 5, 6, 7, 8, 9, 10, 11, 12, 13, 14, 15, 16], [0, 1, 2, 3, 4, 5, 6, 7, 8, 9, 10, 11, 12, 13, 14, 15, 16, 17]]) (rs := [⟨none, .ty (.st (.pair tI (.pair tI (.pair tI tI))))⟩, oH, oH]) hX (by kernel_rfl) (by kernel_rfl) (allCons hg23 (allCons hg24 (allCons hg25 (allCons hg26 (allCons hg27 allNil))))), Le.re [(0, 0), (1, 1), (4, 2)] [] (st' := ⟨[(2, pV 0 0), (6, pV 1 0), (44, nV (List.getD y1.1 (Int.toNat (1 : Int)) ([] : List Int)))], [(0, .box [iC (0 : Int), iC (0 : Int), .nilS]), (1, .box [iC q10, iC q12, .all 2]), (2, .seq (.st (.pair tI (.pair tI (.pair tI tI)))) (s16 ++ ([((List.getD y20 (Int.toNat (0 : Int)) (0 : Int)), (List.getD y20 (Int.toNat (1 : Int)) (0 : Int)), (List.getD y20 (Int.toNat (2 : Int)) (0 : Int)), (List.getD y20 (Int.toNat (3 : Int)) (0 : Int)))] : List (Int × Int × Int × Int))))], 3⟩) hX (by kernel_rfl)⟩
      · refine (qThen ?_)
        obtain ⟨y18, hc19, hr⟩ := of_bind hr
        refine HT.rg2 [oH, ⟨none, .call [.mv (.st (.pair tI (.pair tI (.sl (.st (.pair tI (.pair tI (.pair tI tI))))))))] [⟨true, (.st (.pair tI (.pair tI (.sl (.st (.pair tI (.pair tI (.pair tI tI)))))))), y18.1⟩, ⟨false, .bool, y18.2⟩] []⟩, oH, oH, oH, oH] ⟨[(2, pV 0 0), (3, bV y18.2)], [(0, .box [iC y18.1.1, iC y18.1.2.1, .all 3]), (3, .seq (.st (.pair tI (.pair tI (.pair tI tI)))) y18.1.2.2)], 4⟩ hX (by kernel_rfl) (allCons (f94_mv0_ok hc19) allNil) ?_
        have hr := of_some hr
        subst hr
        exact HT.ret ⟨[.agg [iC y18.1.1, iC y18.1.2.1, .all 3], bV y18.2], [3], [], by kernel_rfl, by kernel_rfl, rfl, by kernel_rfl, by kernel_rfl, trivial⟩
  · rcases of_bif hT5 with ⟨hb29, hT5⟩ | ⟨hb29, hT5⟩
    · exact HT.rgK [oH, oH, oH, ⟨some true, .no⟩, ⟨some true, .no⟩, ⟨some true, .no⟩, ⟨some true, .no⟩, ⟨some true, .no⟩, ⟨none, .tv true⟩, oH, ⟨some true, .no⟩, ⟨some true, .no⟩, ⟨some true, .no⟩, ⟨some true, .no⟩, ⟨some true, .no⟩, ⟨some true, .no⟩, ⟨none, .tv true⟩] [(0, 0), (1, 1)] [] hX (by kernel_rfl) (allCons hb29 (allCons hb29 (allCons hb29 (allCons hb29 (allCons hb29 (allCons hb29 (allCons (rfl : true = true) (allCons (rfl : true = true) (allCons (rfl : true = true) (allCons (rfl : true = true) (allCons (rfl : true = true) (allCons (rfl : true = true) (allCons (rfl : true = true) allNil))))))))))))) (fun _ h => (qThen (h.ht (cont true (of_some hT5)))))
    · obtain ⟨hg30, hT5⟩ := of_guard hT5
      rcases of_bif hT5 with ⟨hb31, hT5⟩ | ⟨hb31, hT5⟩
      · exact HT.rgK [oH, oH, oH, ⟨some false, .no⟩, ⟨some false, .no⟩, ⟨some false, .no⟩, ⟨some false, .no⟩, ⟨some false, .no⟩, ⟨none, .tv false⟩, oH, ⟨some true, .no⟩, ⟨some true, .no⟩, ⟨some true, .no⟩, ⟨some true, .no⟩, ⟨some true, .no⟩, ⟨some true, .no⟩, ⟨none, .tv true⟩] [(0, 0), (1, 1)] [] hX (by kernel_rfl) (allCons hb29 (allCons hb29 (allCons hg30 (allCons hb29 (allCons (natLt hg30) (allCons hb29 (allCons hb29 (allCons hb29 (allCons hb31 (allCons hb31 (allCons hb31 (allCons hb31 (allCons hb31 (allCons hb31 (allCons hb31 allNil))))))))))))))) (fun _ h => (qThen (h.ht (cont true (of_some hT5)))))
      · obtain ⟨hg32, hT5⟩ := of_guard hT5
        exact HT.rgK [oH, oH, oH, ⟨some false, .no⟩, ⟨some false, .no⟩, ⟨some false, .no⟩, ⟨some false, .no⟩, ⟨some false, .no⟩, ⟨none, .tv false⟩, oH, ⟨some false, .no⟩, ⟨some false, .no⟩, ⟨some false, .no⟩, ⟨some false, .no⟩, ⟨some false, .no⟩, ⟨some false, .no⟩, ⟨none, .tv false⟩] [(0, 0), (1, 1)] [] hX (by kernel_rfl) (allCons hb29 (allCons hb29 (allCons hg30 (allCons hb29 (allCons (natLt hg30) (allCons hb29 (allCons hb29 (allCons hb29 (allCons hb31 (allCons hb31 (allCons hg32 (allCons hb31 (allCons (natLt hg32) (allCons hb31 (allCons hb31 (allCons (show (4 : Int) ≠ 0 from by decide) (allCons hb31 (allCons hb31 allNil)))))))))))))))))) (fun _ h => (qThen (h.ht (cont ((Int.tmod (lenI (List.getD y1.1 (Int.toNat (1 : Int)) ([] : List Int))) (4 : Int)) != (0 : Int)) (of_some hT5)))))

noncomputable def laws_markRuleS_B1  (s1 : Int × Int × (List (Int × Int × Int × Int))) : Option ((Int × Int × (List (Int × Int × Int × Int))) ⊕ ((Int × (List (Int × Int × Int × Int))))) :=
  bif (decide (s1.2.1 < (lenI s1.2.2))) then
    guardP ((0 : Int) ≤ s1.2.1 ∧ s1.2.1 < lenI s1.2.2) (
      (some (List.set s1.2.2 (Int.toNat s1.2.1) (s1.1, ((List.getD s1.2.2 (Int.toNat s1.2.1) ((0 : Int), (0 : Int), (0 : Int), (0 : Int))).2).1, (((List.getD s1.2.2 (Int.toNat s1.2.1) ((0 : Int), (0 : Int), (0 : Int), (0 : Int))).2).2).1, (((List.getD s1.2.2 (Int.toNat s1.2.1) ((0 : Int), (0 : Int), (0 : Int), (0 : Int))).2).2).2))).bind fun q10 =>
      guardP ((0 : Int) ≤ s1.2.1 ∧ s1.2.1 < lenI q10) (
        (some (List.set q10 (Int.toNat s1.2.1) ((List.getD q10 (Int.toNat s1.2.1) ((0 : Int), (0 : Int), (0 : Int), (0 : Int))).1, (wadd .i64 s1.1 (1 : Int)), (((List.getD q10 (Int.toNat s1.2.1) ((0 : Int), (0 : Int), (0 : Int), (0 : Int))).2).2).1, (((List.getD q10 (Int.toNat s1.2.1) ((0 : Int), (0 : Int), (0 : Int), (0 : Int))).2).2).2))).bind fun q13 =>
        guardP ((0 : Int) ≤ s1.2.1 ∧ s1.2.1 < lenI q13) (
          (some (List.set q13 (Int.toNat s1.2.1) ((List.getD q13 (Int.toNat s1.2.1) ((0 : Int), (0 : Int), (0 : Int), (0 : Int))).1, ((List.getD q13 (Int.toNat s1.2.1) ((0 : Int), (0 : Int), (0 : Int), (0 : Int))).2).1, (wadd .i64 (wadd .i64 s1.1 (1 : Int)) (1 : Int)), (((List.getD q13 (Int.toNat s1.2.1) ((0 : Int), (0 : Int), (0 : Int), (0 : Int))).2).2).2))).bind fun q16 =>
          guardP ((0 : Int) ≤ s1.2.1 ∧ s1.2.1 < lenI q16) (
            (some (List.set q16 (Int.toNat s1.2.1) ((List.getD q16 (Int.toNat s1.2.1) ((0 : Int), (0 : Int), (0 : Int), (0 : Int))).1, ((List.getD q16 (Int.toNat s1.2.1) ((0 : Int), (0 : Int), (0 : Int), (0 : Int))).2).1, (((List.getD q16 (Int.toNat s1.2.1) ((0 : Int), (0 : Int), (0 : Int), (0 : Int))).2).2).1, (wadd .i64 (wadd .i64 (wadd .i64 s1.1 (1 : Int)) (1 : Int)) (1 : Int))))).bind fun q19 =>
            some (.inl ((wadd .i64 (wadd .i64 (wadd .i64 (wadd .i64 s1.1 (1 : Int)) (1 : Int)) (1 : Int)) (1 : Int)), (wadd .i64 s1.2.1 (1 : Int)), q19))))))
  else
    some (.inr (s1.1, s1.2.2))

noncomputable def laws_markRuleS (a0 : List (Int × Int × Int × Int)) (a1 : Int) : Option (Int × (List (Int × Int × Int × Int))) :=
  (rounds (laws_markRuleS_B1) (a1, (0 : Int), a0)).bind fun r3 =>
  guardP (List.length r3.2 = List.length a0) (
    some (r3.1, r3.2))

theorem f95_ok {a0 : List (Int × Int × Int × Int)} {a1 : Int} {r : Int × (List (Int × Int × Int × Int))} (hr : laws_markRuleS a0 a1 = some r) : CallOK Tryd.prog 95 [.own (.sl (.st (.pair tI (.pair tI (.pair tI tI))))) a0, .imm tI a1] [⟨false, tI, r.1⟩] [⟨(.sl (.st (.pair tI (.pair tI (.pair tI tI))))), r.2⟩] := by
  unfold laws_markRuleS at hr
  refine CallOK.of_body (ts := [(false, tI)]) Tryd.func95 rfl (by kernel_rfl) (Nat.le_of_ble_eq_true (by kernel_rfl)) fun cx hP hN hO hF => ?_
  have hO : cx.own.map Prod.fst = [0] := hO
  have hX := CxIs.mk hP hN hO
  have hF := hF rfl
  show HT cx ⟨[(0, aV 0), (1, iV a1)], [(0, .seq (.st (.pair tI (.pair tI (.pair tI tI)))) a0)], 1⟩ _ _
  refine HT.rg2 [oH] ⟨[(0, aV 0), (1, iV a1)], [(0, .seq (.st (.pair tI (.pair tI (.pair tI tI)))) a0)], 1⟩ hX (by kernel_rfl) allNil ?_
  refine HT.seq ?_
  refine HT.rg2 [oH] ⟨[(0, aV 0), (1, iV a1), (5, iV (0 : Int))], [(0, .seq (.st (.pair tI (.pair tI (.pair tI tI)))) a0)], 1⟩ hX (by kernel_rfl) allNil ?_
  refine HT.block ?_
  obtain ⟨r2, hL21, hr⟩ := of_bind hr
  refine HT.loopL (fun (s1 : Int × Int × (List (Int × Int × Int × Int))) => ⟨[(0, aV 0), (1, iV s1.1), (5, iV s1.2.1)], [(0, .seq (.st (.pair tI (.pair tI (.pair tI tI)))) s1.2.2)], 1⟩) (fun (r3 : (Int × (List (Int × Int × Int × Int)))) => (.exit 0, ⟨[(1, iV r3.1)], [(0, .seq (.st (.pair tI (.pair tI (.pair tI tI)))) r3.2)], 1⟩)) (Le.re [(0, 0)] [] hX (by kernel_rfl)) hL21 ?_ (fun s1 x5 hx6 hk7 => ?_)
  · refine (qBlockX (qThen ?_))
    refine HT.rg2 (oHs 2) ⟨[(4, iV r2.1)], [(0, .seq (.st (.pair tI (.pair tI (.pair tI tI)))) r2.2)], 1⟩ hX (by kernel_rfl) allNil ?_
    obtain ⟨hg4, hr⟩ := of_guard hr
    have hr := of_some hr
    subst hr
    exact HT.ret ⟨[iV r2.1], [], [List.length r2.2 = List.length a0], by kernel_rfl, by kernel_rfl, rfl, by kernel_rfl, by kernel_rfl, ⟨hg4, trivial⟩⟩
  · refine HT.seq ?_
    refine HT.rg2 (oHs 4) ⟨[(0, aV 0), (1, iV s1.1), (5, iV s1.2.1), (9, bV (decide (s1.2.1 < (lenI s1.2.2))))], [(0, .seq (.st (.pair tI (.pair tI (.pair tI tI)))) s1.2.2)], 1⟩ hX (by kernel_rfl) allNil ?_
    rcases of_bif hx6 with ⟨hb8, hx6⟩ | ⟨hb8, hx6⟩
    · refine HT.cond1 rfl hb8 ?_
      refine HT.skip (qThen ?_)
      refine HT.seq ?_
      refine HT.block ?_
      obtain ⟨hg9, hx6⟩ := of_guard hx6
      refine HT.rg2 (oHs 6) ⟨[(0, aV 0), (1, iV s1.1), (5, iV s1.2.1)], [(0, .seq (.st (.pair tI (.pair tI (.pair tI tI)))) (List.set s1.2.2 (Int.toNat s1.2.1) (s1.1, ((List.getD s1.2.2 (Int.toNat s1.2.1) ((0 : Int), (0 : Int), (0 : Int), (0 : Int))).2).1, (((List.getD s1.2.2 (Int.toNat s1.2.1) ((0 : Int), (0 : Int), (0 : Int), (0 : Int))).2).2).1, (((List.getD s1.2.2 (Int.toNat s1.2.1) ((0 : Int), (0 : Int), (0 : Int), (0 : Int))).2).2).2)))], 1⟩ hX (by kernel_rfl) (allCons hg9 (allCons (natLt hg9) allNil)) ?_
      obtain ⟨q10, hq11, hx6⟩ := of_bind hx6
      have hq11 := of_some2 hq11
      refine (Le.cv (s := ⟨[(0, 0)], [], [], false⟩) (own := [0]) (ps := [s1.1 = s1.1, s1.2.1 = s1.2.1, q10 = (List.set s1.2.2 (Int.toNat s1.2.1) (s1.1, ((List.getD s1.2.2 (Int.toNat s1.2.1) ((0 : Int), (0 : Int), (0 : Int), (0 : Int))).2).1, (((List.getD s1.2.2 (Int.toNat s1.2.1) ((0 : Int), (0 : Int), (0 : Int), (0 : Int))).2).2).1, (((List.getD s1.2.2 (Int.toNat s1.2.1) ((0 : Int), (0 : Int), (0 : Int), (0 : Int))).2).2).2))]) (st' := ⟨[(0, aV 0), (1, iV s1.1), (5, iV s1.2.1)], [(0, .seq (.st (.pair tI (.pair tI (.pair tI tI)))) q10)], 1⟩) hO (fun h => by cases h) (by kernel_rfl) ⟨rfl, rfl, hq11, trivial⟩).ht ?_
      refine HT.rg2 (oHs 3) ⟨[(0, aV 0), (1, iV (wadd .i64 s1.1 (1 : Int))), (5, iV s1.2.1)], [(0, .seq (.st (.pair tI (.pair tI (.pair tI tI)))) q10)], 1⟩ hX (by kernel_rfl) allNil ?_
      obtain ⟨hg12, hx6⟩ := of_guard hx6
      refine HT.rg2 (oHs 6) ⟨[(0, aV 0), (1, iV (wadd .i64 s1.1 (1 : Int))), (5, iV s1.2.1)], [(0, .seq (.st (.pair tI (.pair tI (.pair tI tI)))) (List.set q10 (Int.toNat s1.2.1) ((List.getD q10 (Int.toNat s1.2.1) ((0 : Int), (0 : Int), (0 : Int), (0 : Int))).1, (wadd .i64 s1.1 (1 : Int)), (((List.getD q10 (Int.toNat s1.2.1) ((0 : Int), (0 : Int), (0 : Int), (0 : Int))).2).2).1, (((List.getD q10 (Int.toNat s1.2.1) ((0 : Int), (0 : Int), (0 : Int), (0 : Int))).2).2).2)))], 1⟩ hX (by kernel_rfl) (allCons hg12 (allCons (natLt hg12) allNil)) ?_
      obtain ⟨q13, hq14, hx6⟩ := of_bind hx6
      have hq14 := of_some2 hq14
      refine (Le.cv (s := ⟨[(0, 0)], [], [], false⟩) (own := [0]) (ps := [(wadd .i64 s1.1 (1 : Int)) = (wadd .i64 s1.1 (1 : Int)), s1.2.1 = s1.2.1, q13 = (List.set q10 (Int.toNat s1.2.1) ((List.getD q10 (Int.toNat s1.2.1) ((0 : Int), (0 : Int), (0 : Int), (0 : Int))).1, (wadd .i64 s1.1 (1 : Int)), (((List.getD q10 (Int.toNat s1.2.1) ((0 : Int), (0 : Int), (0 : Int), (0 : Int))).2).2).1, (((List.getD q10 (Int.toNat s1.2.1) ((0 : Int), (0 : Int), (0 : Int), (0 : Int))).2).2).2))]) (st' := ⟨[(0, aV 0), (1, iV (wadd .i64 s1.1 (1 : Int))), (5, iV s1.2.1)], [(0, .seq (.st (.pair tI (.pair tI (.pair tI tI)))) q13)], 1⟩) hO (fun h => by cases h) (by kernel_rfl) ⟨rfl, rfl, hq14, trivial⟩).ht ?_
      refine HT.rg2 (oHs 3) ⟨[(0, aV 0), (1, iV (wadd .i64 (wadd .i64 s1.1 (1 : Int)) (1 : Int))), (5, iV s1.2.1)], [(0, .seq (.st (.pair tI (.pair tI (.pair tI tI)))) q13)], 1⟩ hX (by kernel_rfl) allNil ?_
      obtain ⟨hg15, hx6⟩ := of_guard hx6
      refine HT.rg2 (oHs 6) ⟨[(0, aV 0), (1, iV (wadd .i64 (wadd .i64 s1.1 (1 : Int)) (1 : Int))), (5, iV s1.2.1)], [(0, .seq (.st (.pair tI (.pair tI (.pair tI tI)))) (List.set q13 (Int.toNat s1.2.1) ((List.getD q13 (Int.toNat s1.2.1) ((0 : Int), (0 : Int), (0 : Int), (0 : Int))).1, ((List.getD q13 (Int.toNat s1.2.1) ((0 : Int), (0 : Int), (0 : Int), (0 : Int))).2).1, (wadd .i64 (wadd .i64 s1.1 (1 : Int)) (1 : Int)), (((List.getD q13 (Int.toNat s1.2.1) ((0 : Int), (0 : Int), (0 : Int), (0 : Int))).2).2).2)))], 1⟩ hX (by kernel_rfl) (allCons hg15 (allCons (natLt hg15) allNil)) ?_
      obtain ⟨q16, hq17, hx6⟩ := of_bind hx6
      have hq17 := of_some2 hq17
      refine (Le.cv (s := ⟨[(0, 0)], [], [], false⟩) (own := [0]) (ps := [(wadd .i64 (wadd .i64 s1.1 (1 : Int)) (1 : Int)) = (wadd .i64 (wadd .i64 s1.1 (1 : Int)) (1 : Int)), s1.2.1 = s1.2.1, q16 = (List.set q13 (Int.toNat s1.2.1) ((List.getD q13 (Int.toNat s1.2.1) ((0 : Int), (0 : Int), (0 : Int), (0 : Int))).1, ((List.getD q13 (Int.toNat s1.2.1) ((0 : Int), (0 : Int), (0 : Int), (0 : Int))).2).1, (wadd .i64 (wadd .i64 s1.1 (1 : Int)) (1 : Int)), (((List.getD q13 (Int.toNat s1.2.1) ((0 : Int), (0 : Int), (0 : Int), (0 : Int))).2).2).2))]) (st' := ⟨[(0, aV 0), (1, iV (wadd .i64 (wadd .i64 s1.1 (1 : Int)) (1 : Int))), (5, iV s1.2.1)], [(0, .seq (.st (.pair tI (.pair tI (.pair tI tI)))) q16)], 1⟩) hO (fun h => by cases h) (by kernel_rfl) ⟨rfl, rfl, hq17, trivial⟩).ht ?_
      refine HT.rg2 (oHs 3) ⟨[(0, aV 0), (1, iV (wadd .i64 (wadd .i64 (wadd .i64 s1.1 (1 : Int)) (1 : Int)) (1 : Int))), (5, iV s1.2.1)], [(0, .seq (.st (.pair tI (.pair tI (.pair tI tI)))) q16)], 1⟩ hX (by kernel_rfl) allNil ?_
      obtain ⟨hg18, hx6⟩ := of_guard hx6
      refine HT.rg2 (oHs 6) ⟨[(0, aV 0), (1, iV (wadd .i64 (wadd .i64 (wadd .i64 s1.1 (1 : Int)) (1 : Int)) (1 : Int))), (5, iV s1.2.1)], [(0, .seq (.st (.pair tI (.pair tI (.pair tI tI)))) (List.set q16 (Int.toNat s1.2.1) ((List.getD q16 (Int.toNat s1.2.1) ((0 : Int), (0 : Int), (0 : Int), (0 : Int))).1, ((List.getD q16 (Int.toNat s1.2.1) ((0 : Int), (0 : Int), (0 : Int), (0 : Int))).2).1, (((List.getD q16 (Int.toNat s1.2.1) ((0 : Int), (0 : Int), (0 : Int), (0 : Int))).2).2).1, (wadd .i64 (wadd .i64 (wadd .i64 s1.1 (1 : Int)) (1 : Int)) (1 : Int)))))], 1⟩ hX (by kernel_rfl) (allCons hg18 (allCons (natLt hg18) allNil)) ?_
      obtain ⟨q19, hq20, hx6⟩ := of_bind hx6
      have hq20 := of_some2 hq20
      refine (Le.cv (s := ⟨[(0, 0)], [], [], false⟩) (own := [0]) (ps := [(wadd .i64 (wadd .i64 (wadd .i64 s1.1 (1 : Int)) (1 : Int)) (1 : Int)) = (wadd .i64 (wadd .i64 (wadd .i64 s1.1 (1 : Int)) (1 : Int)) (1 : Int)), s1.2.1 = s1.2.1, q19 = (List.set q16 (Int.toNat s1.2.1) ((List.getD q16 (Int.toNat s1.2.1) ((0 : Int), (0 : Int), (0 : Int), (0 : Int))).1, ((List.getD q16 (Int.toNat s1.2.1) ((0 : Int), (0 : Int), (0 : Int), (0 : Int))).2).1, (((List.getD q16 (Int.toNat s1.2.1) ((0 : Int), (0 : Int), (0 : Int), (0 : Int))).2).2).1, (wadd .i64 (wadd .i64 (wadd .i64 s1.1 (1 : Int)) (1 : Int)) (1 : Int))))]) (st' := ⟨[(0, aV 0), (1, iV (wadd .i64 (wadd .i64 (wadd .i64 s1.1 (1 : Int)) (1 : Int)) (1 : Int))), (5, iV s1.2.1)], [(0, .seq (.st (.pair tI (.pair tI (.pair tI tI)))) q19)], 1⟩) hO (fun h => by cases h) (by kernel_rfl) ⟨rfl, rfl, hq20, trivial⟩).ht ?_
      refine HT.rgL (oHs 3) ⟨[(0, aV 0), (1, iV (wadd .i64 (wadd .i64 (wadd .i64 (wadd .i64 s1.1 (1 : Int)) (1 : Int)) (1 : Int)) (1 : Int))), (5, iV s1.2.1)], [(0, .seq (.st (.pair tI (.pair tI (.pair tI tI)))) q19)], 1⟩ hX (by kernel_rfl) allNil (qBlock (qThen ?_))
      have hx6 := of_some hx6
      subst hx6
      exact HT.rgK (oHs 3) [(0, 0)] [] hX (by kernel_rfl) allNil (fun _ h => (qLoopN ⟨((wadd .i64 (wadd .i64 (wadd .i64 (wadd .i64 s1.1 (1 : Int)) (1 : Int)) (1 : Int)) (1 : Int)), (wadd .i64 s1.2.1 (1 : Int)), q19), rfl, h⟩))
    · refine HT.cond0 rfl hb8 ?_
      have hx6 := of_some hx6
      subst hx6
      exact HT.exitL (Le.re [(0, 0)] [] hX (by kernel_rfl)) (qThenE (qLoopE (hk7 (s1.1, s1.2.2) rfl)))

noncomputable def laws_markGrammar (a0 : Int × Int × List (Int × Int × Int × Int)) (a1 : Int) : Option (Int × (Int × Int × List (Int × Int × Int × Int))) :=
  (laws_markRuleS a0.2.2 a1).bind fun y1 =>
  guardP (List.length y1.2 = List.length a0.2.2) (
    some (y1.1, a0.1, a0.2.1, y1.2))

theorem f42_ok {a0 : Int × Int × List (Int × Int × Int × Int)} {a1 : Int} {r : Int × (Int × Int × List (Int × Int × Int × Int))} (hr : laws_markGrammar a0 a1 = some r) : CallOK Tryd.prog 42 [.own (.st (.pair tI (.pair tI (.sl (.st (.pair tI (.pair tI (.pair tI tI)))))))) a0, .imm tI a1] [⟨false, tI, r.1⟩] [⟨(.st (.pair tI (.pair tI (.sl (.st (.pair tI (.pair tI (.pair tI tI)))))))), r.2⟩] := by
  unfold laws_markGrammar at hr
  refine CallOK.of_body (ts := [(false, tI)]) Tryd.func42 rfl (by kernel_rfl) (Nat.le_of_ble_eq_true (by kernel_rfl)) fun cx hP hN hO hF => ?_
  have hO : cx.own.map Prod.fst = [0] := hO
  have hX := CxIs.mk hP hN hO
  have hF := hF rfl
  show HT cx ⟨[(0, .agg [iC a0.1, iC a0.2.1, .all 0]), (1, iV a1)], [(0, .seq (.st (.pair tI (.pair tI (.pair tI tI)))) a0.2.2)], 1⟩ _ _
  refine HT.rg2 (oHs 2) ⟨[(1, iV a1), (2, pV 1 0)], [(1, .box [iC a0.1, iC a0.2.1, .all 0]), (0, .seq (.st (.pair tI (.pair tI (.pair tI tI)))) a0.2.2)], 2⟩ hX (by kernel_rfl) allNil ?_
  obtain ⟨y1, hc2, hr⟩ := of_bind hr
  refine HT.rg2 [oH, oH, oH, ⟨none, .call [.own (.sl (.st (.pair tI (.pair tI (.pair tI tI))))), .imm tI] [⟨false, tI, y1.1⟩] [⟨(.sl (.st (.pair tI (.pair tI (.pair tI tI))))), y1.2⟩]⟩, oH] ⟨[(1, iV y1.1)], [(0, .seq (.st (.pair tI (.pair tI (.pair tI tI)))) y1.2)], 2⟩ hX (by kernel_rfl) (allCons (f95_ok hc2) allNil) ?_
  refine HT.rg2 (oHs 2) ⟨[(4, iV y1.1)], [(0, .seq (.st (.pair tI (.pair tI (.pair tI tI)))) y1.2)], 2⟩ hX (by kernel_rfl) allNil ?_
  obtain ⟨hg3, hr⟩ := of_guard hr
  have hr := of_some hr
  subst hr
  exact HT.ret ⟨[iV y1.1], [], [List.length y1.2 = List.length a0.2.2], by kernel_rfl, by kernel_rfl, rfl, by kernel_rfl, by kernel_rfl, ⟨hg3, trivial⟩⟩

noncomputable def laws_heldRuleS_B1 (a0 : List (Int × Int × Int × Int)) (s1 : Int × Int) : Option ((Int × Int) ⊕ (Int ⊕ Unit)) :=
  bif (decide (s1.2 < (lenI a0))) then
    guardP ((0 : Int) ≤ s1.2 ∧ s1.2 < lenI a0) (
      bif ((List.getD a0 (Int.toNat s1.2) ((0 : Int), (0 : Int), (0 : Int), (0 : Int))).1 != s1.1) then
        some (.inr (.inr ()))
      else
        bif (((List.getD a0 (Int.toNat s1.2) ((0 : Int), (0 : Int), (0 : Int), (0 : Int))).2).1 != (wadd .i64 s1.1 (1 : Int))) then
          some (.inr (.inr ()))
        else
          bif ((((List.getD a0 (Int.toNat s1.2) ((0 : Int), (0 : Int), (0 : Int), (0 : Int))).2).2).1 != (wadd .i64 (wadd .i64 s1.1 (1 : Int)) (1 : Int))) then
            some (.inr (.inr ()))
          else
            bif ((((List.getD a0 (Int.toNat s1.2) ((0 : Int), (0 : Int), (0 : Int), (0 : Int))).2).2).2 != (wadd .i64 (wadd .i64 (wadd .i64 s1.1 (1 : Int)) (1 : Int)) (1 : Int))) then
              some (.inr (.inr ()))
            else
              some (.inl ((wadd .i64 (wadd .i64 (wadd .i64 (wadd .i64 s1.1 (1 : Int)) (1 : Int)) (1 : Int)) (1 : Int)), (wadd .i64 s1.2 (1 : Int)))))
  else
    some (.inr (.inl s1.1))

noncomputable def laws_heldRuleS (a0 : List (Int × Int × Int × Int)) (a1 : Int) : Option (Int) :=
  (rounds (laws_heldRuleS_B1 a0) (a1, (0 : Int))).bind fun r2 => match r2 with
    | .inl r3 =>
      some r3
    | .inr r4 =>
      some (-1 : Int)

theorem f96_ok {a0 : List (Int × Int × Int × Int)} {a1 : Int} {r : Int} (hr : laws_heldRuleS a0 a1 = some r) : CallOK Tryd.prog 96 [.imm (.sl (.st (.pair tI (.pair tI (.pair tI tI))))) a0, .imm tI a1] [⟨false, tI, r⟩] [] := by
  unfold laws_heldRuleS at hr
  refine CallOK.of_body (ts := [(false, tI)]) Tryd.func96 rfl (by kernel_rfl) (Nat.le_of_ble_eq_true (by kernel_rfl)) fun cx hP hN hO hF => ?_
  have hO : cx.own.map Prod.fst = [] := hO
  have hX := CxIs.mk hP hN hO
  have hF := hF rfl
  show HT cx ⟨[(0, .one (.dat (.sl (.st (.pair tI (.pair tI (.pair tI tI))))) a0)), (1, iV a1)], [], 0⟩ _ _
  refine HT.rg2 [oH] ⟨[(0, .one (.dat (.sl (.st (.pair tI (.pair tI (.pair tI tI))))) a0)), (1, iV a1)], [], 0⟩ hX (by kernel_rfl) allNil ?_
  refine HT.seq ?_
  refine HT.rg2 [oH] ⟨[(0, .one (.dat (.sl (.st (.pair tI (.pair tI (.pair tI tI))))) a0)), (1, iV a1), (5, iV (0 : Int))], [], 0⟩ hX (by kernel_rfl) allNil ?_
  refine HT.block ?_
  obtain ⟨r2, hL14, hr⟩ := of_bind hr
  refine HT.loopL (fun (s1 : Int × Int) => ⟨[(0, .one (.dat (.sl (.st (.pair tI (.pair tI (.pair tI tI))))) a0)), (1, iV s1.1), (5, iV s1.2)], [], 0⟩) (fun (r2 : Int ⊕ Unit) => match r2 with | .inl r3 => (.exit 0, ⟨[(1, iV r3)], [], 0⟩) | .inr r4 => (.ret, ⟨[(4, iV (-1 : Int))], [], 0⟩)) (Le.re [] [] hX (by kernel_rfl)) hL14 ?_ (fun s1 x5 hx6 hk7 => ?_)
  · rcases r2 with r3 | r4
    · refine (qBlockX (qThen ?_))
      refine HT.rg2 (oHs 2) ⟨[(4, iV r3)], [], 0⟩ hX (by kernel_rfl) allNil ?_
      have hr := of_some hr
      subst hr
      exact HT.ret ⟨[iV r3], [], [], by kernel_rfl, by kernel_rfl, rfl, by kernel_rfl, by kernel_rfl, trivial⟩
    · have hr := of_some hr
      subst hr
      exact (qBlockR (qThenR ⟨[iV (-1 : Int)], [], [], by kernel_rfl, by kernel_rfl, rfl, by kernel_rfl, by kernel_rfl, trivial⟩))
  · refine HT.seq ?_
    refine HT.rg2 (oHs 4) ⟨[(0, .one (.dat (.sl (.st (.pair tI (.pair tI (.pair tI tI))))) a0)), (1, iV s1.1), (5, iV s1.2), (9, bV (decide (s1.2 < (lenI a0))))], [], 0⟩ hX (by kernel_rfl) allNil ?_
    rcases of_bif hx6 with ⟨hb8, hx6⟩ | ⟨hb8, hx6⟩
    · refine HT.cond1 rfl hb8 ?_
      refine HT.skip (qThen ?_)
      refine HT.seq ?_
      refine HT.block ?_
      refine HT.seq ?_
      obtain ⟨hg9, hx6⟩ := of_guard hx6
      refine HT.rg2 (oHs 7) ⟨[(0, .one (.dat (.sl (.st (.pair tI (.pair tI (.pair tI tI))))) a0)), (1, iV s1.1), (5, iV s1.2), (18, bV ((List.getD a0 (Int.toNat s1.2) ((0 : Int), (0 : Int), (0 : Int), (0 : Int))).1 != s1.1))], [], 0⟩ hX (by kernel_rfl) (allCons hg9 allNil) ?_
      rcases of_bif hx6 with ⟨hb10, hx6⟩ | ⟨hb10, hx6⟩
      · refine HT.cond1 rfl hb10 ?_
        refine HT.rg2 [oH] ⟨[(4, iV (-1 : Int))], [], 0⟩ hX (by kernel_rfl) allNil ?_
        have hx6 := of_some hx6
        subst hx6
        exact HT.retL (Le.re [] [] hX (by kernel_rfl)) (qThenR (qBlockR (qThenR (qLoopR (hk7 (.inr ()) rfl)))))
      · refine HT.cond0 rfl hb10 ?_
        refine HT.skip (qThen ?_)
        refine HT.rg2 (oHs 3) ⟨[(0, .one (.dat (.sl (.st (.pair tI (.pair tI (.pair tI tI))))) a0)), (1, iV (wadd .i64 s1.1 (1 : Int))), (5, iV s1.2)], [], 0⟩ hX (by kernel_rfl) allNil ?_
        refine HT.seq ?_
        refine HT.rg2 (oHs 7) ⟨[(0, .one (.dat (.sl (.st (.pair tI (.pair tI (.pair tI tI))))) a0)), (1, iV (wadd .i64 s1.1 (1 : Int))), (5, iV s1.2), (27, bV (((List.getD a0 (Int.toNat s1.2) ((0 : Int), (0 : Int), (0 : Int), (0 : Int))).2).1 != (wadd .i64 s1.1 (1 : Int))))], [], 0⟩ hX (by kernel_rfl) (allCons hg9 allNil) ?_
        rcases of_bif hx6 with ⟨hb11, hx6⟩ | ⟨hb11, hx6⟩
        · refine HT.cond1 rfl hb11 ?_
          refine HT.rg2 [oH] ⟨[(4, iV (-1 : Int))], [], 0⟩ hX (by kernel_rfl) allNil ?_
          have hx6 := of_some hx6
          subst hx6
          exact HT.retL (Le.re [] [] hX (by kernel_rfl)) (qThenR (qBlockR (qThenR (qLoopR (hk7 (.inr ()) rfl)))))
        · refine HT.cond0 rfl hb11 ?_
          refine HT.skip (qThen ?_)
          refine HT.rg2 (oHs 3) ⟨[(0, .one (.dat (.sl (.st (.pair tI (.pair tI (.pair tI tI))))) a0)), (1, iV (wadd .i64 (wadd .i64 s1.1 (1 : Int)) (1 : Int))), (5, iV s1.2)], [], 0⟩ hX (by kernel_rfl) allNil ?_
          refine HT.seq ?_
          refine HT.rg2 (oHs 7) ⟨[(0, .one (.dat (.sl (.st (.pair tI (.pair tI (.pair tI tI))))) a0)), (1, iV (wadd .i64 (wadd .i64 s1.1 (1 : Int)) (1 : Int))), (5, iV s1.2), (36, bV ((((List.getD a0 (Int.toNat s1.2) ((0 : Int), (0 : Int), (0 : Int), (0 : Int))).2).2).1 != (wadd .i64 (wadd .i64 s1.1 (1 : Int)) (1 : Int))))], [], 0⟩ hX (by kernel_rfl) (allCons hg9 allNil) ?_
          rcases of_bif hx6 with ⟨hb12, hx6⟩ | ⟨hb12, hx6⟩
          · refine HT.cond1 rfl hb12 ?_
            refine HT.rg2 [oH] ⟨[(4, iV (-1 : Int))], [], 0⟩ hX (by kernel_rfl) allNil ?_
            have hx6 := of_some hx6
            subst hx6
            exact HT.retL (Le.re [] [] hX (by kernel_rfl)) (qThenR (qBlockR (qThenR (qLoopR (hk7 (.inr ()) rfl)))))
          · refine HT.cond0 rfl hb12 ?_
            refine HT.skip (qThen ?_)
            refine HT.rg2 (oHs 3) ⟨[(0, .one (.dat (.sl (.st (.pair tI (.pair tI (.pair tI tI))))) a0)), (1, iV (wadd .i64 (wadd .i64 (wadd .i64 s1.1 (1 : Int)) (1 : Int)) (1 : Int))), (5, iV s1.2)], [], 0⟩ hX (by kernel_rfl) allNil ?_
            refine HT.seq ?_
            refine HT.rg2 (oHs 7) ⟨[(0, .one (.dat (.sl (.st (.pair tI (.pair tI (.pair tI tI))))) a0)), (1, iV (wadd .i64 (wadd .i64 (wadd .i64 s1.1 (1 : Int)) (1 : Int)) (1 : Int))), (5, iV s1.2), (45, bV ((((List.getD a0 (Int.toNat s1.2) ((0 : Int), (0 : Int), (0 : Int), (0 : Int))).2).2).2 != (wadd .i64 (wadd .i64 (wadd .i64 s1.1 (1 : Int)) (1 : Int)) (1 : Int))))], [], 0⟩ hX (by kernel_rfl) (allCons hg9 allNil) ?_
            rcases of_bif hx6 with ⟨hb13, hx6⟩ | ⟨hb13, hx6⟩
            · refine HT.cond1 rfl hb13 ?_
              refine HT.rg2 [oH] ⟨[(4, iV (-1 : Int))], [], 0⟩ hX (by kernel_rfl) allNil ?_
              have hx6 := of_some hx6
              subst hx6
              exact HT.retL (Le.re [] [] hX (by kernel_rfl)) (qThenR (qBlockR (qThenR (qLoopR (hk7 (.inr ()) rfl)))))
            · refine HT.cond0 rfl hb13 ?_
              refine HT.skip (qThen ?_)
              refine HT.rgL (oHs 3) ⟨[(0, .one (.dat (.sl (.st (.pair tI (.pair tI (.pair tI tI))))) a0)), (1, iV (wadd .i64 (wadd .i64 (wadd .i64 (wadd .i64 s1.1 (1 : Int)) (1 : Int)) (1 : Int)) (1 : Int))), (5, iV s1.2)], [], 0⟩ hX (by kernel_rfl) allNil (qBlock (qThen ?_))
              have hx6 := of_some hx6
              subst hx6
              exact HT.rgK (oHs 3) [] [] hX (by kernel_rfl) allNil (fun _ h => (qLoopN ⟨((wadd .i64 (wadd .i64 (wadd .i64 (wadd .i64 s1.1 (1 : Int)) (1 : Int)) (1 : Int)) (1 : Int)), (wadd .i64 s1.2 (1 : Int))), rfl, h⟩))
    · refine HT.cond0 rfl hb8 ?_
      have hx6 := of_some hx6
      subst hx6
      exact HT.exitL (Le.re [] [] hX (by kernel_rfl)) (qThenE (qLoopE (hk7 (.inl s1.1) rfl)))

noncomputable def laws_heldGrammar (a0 : Int × Int × List (Int × Int × Int × Int)) (a1 : Int) : Option (Int) :=
  (laws_heldRuleS a0.2.2 a1).bind fun y1 =>
  bif (decide (y1 < (0 : Int))) then
    some (-1 : Int)
  else
    some y1

theorem f43_ok {a0 : Int × Int × List (Int × Int × Int × Int)} {a1 : Int} {r : Int} (hr : laws_heldGrammar a0 a1 = some r) : CallOK Tryd.prog 43 [.imm (.st (.pair tI (.pair tI (.sl (.st (.pair tI (.pair tI (.pair tI tI)))))))) a0, .imm tI a1] [⟨false, tI, r⟩] [] := by
  unfold laws_heldGrammar at hr
  refine CallOK.of_body (ts := [(false, tI)]) Tryd.func43 rfl (by kernel_rfl) (Nat.le_of_ble_eq_true (by kernel_rfl)) fun cx hP hN hO hF => ?_
  have hO : cx.own.map Prod.fst = [] := hO
  have hX := CxIs.mk hP hN hO
  have hF := hF rfl
  show HT cx ⟨[(0, .agg [iC a0.1, iC a0.2.1, .dat (.sl (.st (.pair tI (.pair tI (.pair tI tI))))) a0.2.2]), (1, iV a1)], [], 0⟩ _ _
  refine HT.rg2 (oHs 2) ⟨[(1, iV a1), (2, pV 0 0)], [(0, .box [iC a0.1, iC a0.2.1, .dat (.sl (.st (.pair tI (.pair tI (.pair tI tI))))) a0.2.2])], 1⟩ hX (by kernel_rfl) allNil ?_
  obtain ⟨y1, hc2, hr⟩ := of_bind hr
  refine HT.rg2 [oH, oH, oH, ⟨none, .call [.imm (.sl (.st (.pair tI (.pair tI (.pair tI tI))))), .imm tI] [⟨false, tI, y1⟩] []⟩, oH] ⟨[(1, iV y1)], [], 1⟩ hX (by kernel_rfl) (allCons (f96_ok hc2) allNil) ?_
  refine HT.seq ?_
  refine HT.rg2 (oHs 2) ⟨[(1, iV y1), (10, bV (decide (y1 < (0 : Int))))], [], 1⟩ hX (by kernel_rfl) allNil ?_
  rcases of_bif hr with ⟨hb3, hr⟩ | ⟨hb3, hr⟩
  · refine HT.cond1 rfl hb3 ?_
    refine HT.rg2 [oH] ⟨[(4, iV (-1 : Int))], [], 1⟩ hX (by kernel_rfl) allNil ?_
    have hr := of_some hr
    subst hr
    exact HT.ret (qThenR ⟨[iV (-1 : Int)], [], [], by kernel_rfl, by kernel_rfl, rfl, by kernel_rfl, by kernel_rfl, trivial⟩)
  · refine HT.cond0 rfl hb3 ?_
    refine HT.skip (qThen ?_)
    refine HT.rg2 (oHs 2) ⟨[(4, iV y1)], [], 1⟩ hX (by kernel_rfl) allNil ?_
    have hr := of_some hr
    subst hr
    exact HT.ret ⟨[iV y1], [], [], by kernel_rfl, by kernel_rfl, rfl, by kernel_rfl, by kernel_rfl, trivial⟩

noncomputable def laws_eqRule (a0 : Int × Int × Int × Int) (a1 : Int × Int × Int × Int) : Option (Bool) :=
  bif (a0.1 != a1.1) then
    some false
  else
    bif (a0.2.1 != a1.2.1) then
      some false
    else
      bif (a0.2.2.1 != a1.2.2.1) then
        some false
      else
        bif (a0.2.2.2 != a1.2.2.2) then
          some false
        else
          some true

theorem f116_ok {a0 : Int × Int × Int × Int} {a1 : Int × Int × Int × Int} {r : Bool} (hr : laws_eqRule a0 a1 = some r) : CallOK Tryd.prog 116 [.imm (.st (.pair tI (.pair tI (.pair tI tI)))) a0, .imm (.st (.pair tI (.pair tI (.pair tI tI)))) a1] [⟨false, .bool, r⟩] [] := by
  unfold laws_eqRule at hr
  refine CallOK.of_body (ts := [(false, .bool)]) Tryd.func116 rfl (by kernel_rfl) (Nat.le_of_ble_eq_true (by kernel_rfl)) fun cx hP hN hO hF => ?_
  have hO : cx.own.map Prod.fst = [] := hO
  have hX := CxIs.mk hP hN hO
  have hF := hF rfl
  show HT cx ⟨[(0, .agg [iC a0.1, iC a0.2.1, iC a0.2.2.1, iC a0.2.2.2]), (1, .agg [iC a1.1, iC a1.2.1, iC a1.2.2.1, iC a1.2.2.2])], [], 0⟩ _ _
  refine HT.rg2 (oHs 3) ⟨[(2, pV 0 0), (3, pV 1 0)], [(1, .box [iC a1.1, iC a1.2.1, iC a1.2.2.1, iC a1.2.2.2]), (0, .box [iC a0.1, iC a0.2.1, iC a0.2.2.1, iC a0.2.2.2])], 2⟩ hX (by kernel_rfl) allNil ?_
  refine HT.seq ?_
  refine HT.rg2 (oHs 5) ⟨[(2, pV 0 0), (3, pV 1 0), (9, bV (a0.1 != a1.1))], [(1, .box [iC a1.1, iC a1.2.1, iC a1.2.2.1, iC a1.2.2.2]), (0, .box [iC a0.1, iC a0.2.1, iC a0.2.2.1, iC a0.2.2.2])], 2⟩ hX (by kernel_rfl) allNil ?_
  rcases of_bif hr with ⟨hb1, hr⟩ | ⟨hb1, hr⟩
  · refine HT.cond1 rfl hb1 ?_
    refine HT.rg2 [oH] ⟨[(4, bV false)], [], 2⟩ hX (by kernel_rfl) allNil ?_
    have hr := of_some hr
    subst hr
    exact HT.ret (qThenR ⟨[bV false], [], [], by kernel_rfl, by kernel_rfl, rfl, by kernel_rfl, by kernel_rfl, trivial⟩)
  · refine HT.cond0 rfl hb1 ?_
    refine HT.skip (qThen ?_)
    refine HT.seq ?_
    refine HT.rg2 (oHs 5) ⟨[(2, pV 0 0), (3, pV 1 0), (14, bV (a0.2.1 != a1.2.1))], [(1, .box [iC a1.1, iC a1.2.1, iC a1.2.2.1, iC a1.2.2.2]), (0, .box [iC a0.1, iC a0.2.1, iC a0.2.2.1, iC a0.2.2.2])], 2⟩ hX (by kernel_rfl) allNil ?_
    rcases of_bif hr with ⟨hb2, hr⟩ | ⟨hb2, hr⟩
    · refine HT.cond1 rfl hb2 ?_
      refine HT.rg2 [oH] ⟨[(4, bV false)], [], 2⟩ hX (by kernel_rfl) allNil ?_
      have hr := of_some hr
      subst hr
      exact HT.ret (qThenR ⟨[bV false], [], [], by kernel_rfl, by kernel_rfl, rfl, by kernel_rfl, by kernel_rfl, trivial⟩)
    · refine HT.cond0 rfl hb2 ?_
      refine HT.skip (qThen ?_)
      refine HT.seq ?_
      refine HT.rg2 (oHs 5) ⟨[(2, pV 0 0), (3, pV 1 0), (19, bV (a0.2.2.1 != a1.2.2.1))], [(1, .box [iC a1.1, iC a1.2.1, iC a1.2.2.1, iC a1.2.2.2]), (0, .box [iC a0.1, iC a0.2.1, iC a0.2.2.1, iC a0.2.2.2])], 2⟩ hX (by kernel_rfl) allNil ?_
      rcases of_bif hr with ⟨hb3, hr⟩ | ⟨hb3, hr⟩
      · refine HT.cond1 rfl hb3 ?_
        refine HT.rg2 [oH] ⟨[(4, bV false)], [], 2⟩ hX (by kernel_rfl) allNil ?_
        have hr := of_some hr
        subst hr
        exact HT.ret (qThenR ⟨[bV false], [], [], by kernel_rfl, by kernel_rfl, rfl, by kernel_rfl, by kernel_rfl, trivial⟩)
      · refine HT.cond0 rfl hb3 ?_
        refine HT.skip (qThen ?_)
        refine HT.seq ?_
        refine HT.rg2 (oHs 5) ⟨[(24, bV (a0.2.2.2 != a1.2.2.2))], [], 2⟩ hX (by kernel_rfl) allNil ?_
        rcases of_bif hr with ⟨hb4, hr⟩ | ⟨hb4, hr⟩
        · refine HT.cond1 rfl hb4 ?_
          refine HT.rg2 [oH] ⟨[(4, bV false)], [], 2⟩ hX (by kernel_rfl) allNil ?_
          have hr := of_some hr
          subst hr
          exact HT.ret (qThenR ⟨[bV false], [], [], by kernel_rfl, by kernel_rfl, rfl, by kernel_rfl, by kernel_rfl, trivial⟩)
        · refine HT.cond0 rfl hb4 ?_
          refine HT.skip (qThen ?_)
          refine HT.rg2 [oH] ⟨[(4, bV true)], [], 2⟩ hX (by kernel_rfl) allNil ?_
          have hr := of_some hr
          subst hr
          exact HT.ret ⟨[bV true], [], [], by kernel_rfl, by kernel_rfl, rfl, by kernel_rfl, by kernel_rfl, trivial⟩

noncomputable def laws_eqRuleS_B1 (a0 : List (Int × Int × Int × Int)) (a1 : List (Int × Int × Int × Int)) (s2 : Int) : Option ((Int) ⊕ (Unit ⊕ Unit)) :=
  bif (decide (s2 < (lenI a0))) then
    guardP ((0 : Int) ≤ s2 ∧ s2 < lenI a0) (
      guardP ((0 : Int) ≤ s2 ∧ s2 < lenI a1) (
        (laws_eqRule ((List.getD a0 (Int.toNat s2) ((0 : Int), (0 : Int), (0 : Int), (0 : Int))).1, ((List.getD a0 (Int.toNat s2) ((0 : Int), (0 : Int), (0 : Int), (0 : Int))).2).1, (((List.getD a0 (Int.toNat s2) ((0 : Int), (0 : Int), (0 : Int), (0 : Int))).2).2).1, (((List.getD a0 (Int.toNat s2) ((0 : Int), (0 : Int), (0 : Int), (0 : Int))).2).2).2) ((List.getD a1 (Int.toNat s2) ((0 : Int), (0 : Int), (0 : Int), (0 : Int))).1, ((List.getD a1 (Int.toNat s2) ((0 : Int), (0 : Int), (0 : Int), (0 : Int))).2).1, (((List.getD a1 (Int.toNat s2) ((0 : Int), (0 : Int), (0 : Int), (0 : Int))).2).2).1, (((List.getD a1 (Int.toNat s2) ((0 : Int), (0 : Int), (0 : Int), (0 : Int))).2).2).2)).bind fun y12 =>
        bif (!y12) then
          some (.inr (.inr ()))
        else
          some (.inl (wadd .i64 s2 (1 : Int)))))
  else
    some (.inr (.inl ()))

noncomputable def laws_eqRuleS (a0 : List (Int × Int × Int × Int)) (a1 : List (Int × Int × Int × Int)) : Option (Bool) :=
  bif ((lenI a0) != (lenI a1)) then
    some false
  else
    (rounds (laws_eqRuleS_B1 a0 a1) (0 : Int)).bind fun r3 => match r3 with
      | .inl r4 =>
        some true
      | .inr r5 =>
        some false

theorem f68_ok {a0 : List (Int × Int × Int × Int)} {a1 : List (Int × Int × Int × Int)} {r : Bool} (hr : laws_eqRuleS a0 a1 = some r) : CallOK Tryd.prog 68 [.imm (.sl (.st (.pair tI (.pair tI (.pair tI tI))))) a0, .imm (.sl (.st (.pair tI (.pair tI (.pair tI tI))))) a1] [⟨false, .bool, r⟩] [] := by
  unfold laws_eqRuleS at hr
  refine CallOK.of_body (ts := [(false, .bool)]) Tryd.func68 rfl (by kernel_rfl) (Nat.le_of_ble_eq_true (by kernel_rfl)) fun cx hP hN hO hF => ?_
  have hO : cx.own.map Prod.fst = [] := hO
  have hX := CxIs.mk hP hN hO
  have hF := hF rfl
  show HT cx ⟨[(0, .one (.dat (.sl (.st (.pair tI (.pair tI (.pair tI tI))))) a0)), (1, .one (.dat (.sl (.st (.pair tI (.pair tI (.pair tI tI))))) a1))], [], 0⟩ _ _
  refine HT.rg2 [oH] ⟨[(0, .one (.dat (.sl (.st (.pair tI (.pair tI (.pair tI tI))))) a0)), (1, .one (.dat (.sl (.st (.pair tI (.pair tI (.pair tI tI))))) a1))], [], 0⟩ hX (by kernel_rfl) allNil ?_
  refine HT.seq ?_
  refine HT.rg2 (oHs 5) ⟨[(0, .one (.dat (.sl (.st (.pair tI (.pair tI (.pair tI tI))))) a0)), (1, .one (.dat (.sl (.st (.pair tI (.pair tI (.pair tI tI))))) a1)), (10, bV ((lenI a0) != (lenI a1)))], [], 0⟩ hX (by kernel_rfl) allNil ?_
  rcases of_bif hr with ⟨hb1, hr⟩ | ⟨hb1, hr⟩
  · refine HT.cond1 rfl hb1 ?_
    refine HT.rg2 [oH] ⟨[(4, bV false)], [], 0⟩ hX (by kernel_rfl) allNil ?_
    have hr := of_some hr
    subst hr
    exact HT.ret (qThenR ⟨[bV false], [], [], by kernel_rfl, by kernel_rfl, rfl, by kernel_rfl, by kernel_rfl, trivial⟩)
  · refine HT.cond0 rfl hb1 ?_
    refine HT.skip (qThen ?_)
    refine HT.seq ?_
    refine HT.rg2 [oH] ⟨[(0, .one (.dat (.sl (.st (.pair tI (.pair tI (.pair tI tI))))) a0)), (1, .one (.dat (.sl (.st (.pair tI (.pair tI (.pair tI tI))))) a1)), (5, iV (0 : Int))], [], 0⟩ hX (by kernel_rfl) allNil ?_
    refine HT.block ?_
    obtain ⟨r3, hL15, hr⟩ := of_bind hr
    refine HT.loopL (fun (s2 : Int) => ⟨[(0, .one (.dat (.sl (.st (.pair tI (.pair tI (.pair tI tI))))) a0)), (1, .one (.dat (.sl (.st (.pair tI (.pair tI (.pair tI tI))))) a1)), (5, iV s2)], [], 0⟩) (fun (r3 : Unit ⊕ Unit) => match r3 with | .inl r4 => (.exit 0, ⟨[], [], 0⟩) | .inr r5 => (.ret, ⟨[(4, bV false)], [], 0⟩)) (Le.re [] [] hX (by kernel_rfl)) hL15 ?_ (fun s2 x6 hx7 hk8 => ?_)
    · rcases r3 with r4 | r5
      · refine (qBlockX (qThen ?_))
        refine HT.rg2 [oH] ⟨[(4, bV true)], [], 0⟩ hX (by kernel_rfl) allNil ?_
        have hr := of_some hr
        subst hr
        exact HT.ret ⟨[bV true], [], [], by kernel_rfl, by kernel_rfl, rfl, by kernel_rfl, by kernel_rfl, trivial⟩
      · have hr := of_some hr
        subst hr
        exact (qBlockR (qThenR ⟨[bV false], [], [], by kernel_rfl, by kernel_rfl, rfl, by kernel_rfl, by kernel_rfl, trivial⟩))
    · refine HT.seq ?_
      refine HT.rg2 (oHs 4) ⟨[(0, .one (.dat (.sl (.st (.pair tI (.pair tI (.pair tI tI))))) a0)), (1, .one (.dat (.sl (.st (.pair tI (.pair tI (.pair tI tI))))) a1)), (5, iV s2), (14, bV (decide (s2 < (lenI a0))))], [], 0⟩ hX (by kernel_rfl) allNil ?_
      rcases of_bif hx7 with ⟨hb9, hx7⟩ | ⟨hb9, hx7⟩
      · refine HT.cond1 rfl hb9 ?_
        refine HT.skip (qThen ?_)
        refine HT.seq ?_
        refine HT.block ?_
        obtain ⟨hg10, hx7⟩ := of_guard hx7
        obtain ⟨hg11, hx7⟩ := of_guard hx7
        obtain ⟨y12, hc13, hx7⟩ := of_bind hx7
        refine HT.dr2 8 [⟨oH, []⟩, ⟨oH, []⟩, ⟨oH, [0, 1]⟩, ⟨oH, [0, 1, 2]⟩, ⟨oH, []⟩, ⟨oH, []⟩, ⟨oH, [4, 5]⟩, ⟨oH, [4, 5, 6]⟩] [[0, 1, 2, 3, 4, 5, 6, 7], [0, 1, 2, 3, 4, 5, 6, 7, 8]] [⟨none, .call [.imm (.st (.pair tI (.pair tI (.pair tI tI)))), .imm (.st (.pair tI (.pair tI (.pair tI tI))))] [⟨false, .bool, y12⟩] []⟩, oH] ⟨[(0, .one (.dat (.sl (.st (.pair tI (.pair tI (.pair tI tI))))) a0)), (1, .one (.dat (.sl (.st (.pair tI (.pair tI (.pair tI tI))))) a1)), (5, iV s2), (26, bV (!y12))], [], 0⟩ hX (by kernel_rfl) (by kernel_rfl) (allCons hg10 (allCons hg11 (allCons (f116_ok hc13) allNil))) ?_
        rcases of_bif hx7 with ⟨hb14, hx7⟩ | ⟨hb14, hx7⟩
        · refine HT.cond1 rfl hb14 ?_
          refine HT.rg2 [oH] ⟨[(4, bV false)], [], 0⟩ hX (by kernel_rfl) allNil ?_
          have hx7 := of_some hx7
          subst hx7
          exact HT.retL (Le.re [] [] hX (by kernel_rfl)) (qBlockR (qThenR (qLoopR (hk8 (.inr ()) rfl))))
        · refine HT.cond0 rfl hb14 ?_
          refine HT.skip (qBlock (qThen ?_))
          have hx7 := of_some hx7
          subst hx7
          exact HT.rgK (oHs 3) [] [] hX (by kernel_rfl) allNil (fun _ h => (qLoopN ⟨(wadd .i64 s2 (1 : Int)), rfl, h⟩))
      · refine HT.cond0 rfl hb9 ?_
        have hx7 := of_some hx7
        subst hx7
        exact HT.exitL (Le.re [] [] hX (by kernel_rfl)) (qThenE (qLoopE (hk8 (.inl ()) rfl)))

noncomputable def laws_eqGrammar (a0 : Int × Int × List (Int × Int × Int × Int)) (a1 : Int × Int × List (Int × Int × Int × Int)) : Option (Bool) :=
  bif (a0.1 != a1.1) then
    some false
  else
    bif (a0.2.1 != a1.2.1) then
      some false
    else
      (laws_eqRuleS a0.2.2 a1.2.2).bind fun y3 =>
      bif (!y3) then
        some false
      else
        some true

theorem f25_ok {a0 : Int × Int × List (Int × Int × Int × Int)} {a1 : Int × Int × List (Int × Int × Int × Int)} {r : Bool} (hr : laws_eqGrammar a0 a1 = some r) : CallOK Tryd.prog 25 [.imm (.st (.pair tI (.pair tI (.sl (.st (.pair tI (.pair tI (.pair tI tI)))))))) a0, .imm (.st (.pair tI (.pair tI (.sl (.st (.pair tI (.pair tI (.pair tI tI)))))))) a1] [⟨false, .bool, r⟩] [] := by
  unfold laws_eqGrammar at hr
  refine CallOK.of_body (ts := [(false, .bool)]) Tryd.func25 rfl (by kernel_rfl) (Nat.le_of_ble_eq_true (by kernel_rfl)) fun cx hP hN hO hF => ?_
  have hO : cx.own.map Prod.fst = [] := hO
  have hX := CxIs.mk hP hN hO
  have hF := hF rfl
  show HT cx ⟨[(0, .agg [iC a0.1, iC a0.2.1, .dat (.sl (.st (.pair tI (.pair tI (.pair tI tI))))) a0.2.2]), (1, .agg [iC a1.1, iC a1.2.1, .dat (.sl (.st (.pair tI (.pair tI (.pair tI tI))))) a1.2.2])], [], 0⟩ _ _
  refine HT.rg2 (oHs 3) ⟨[(2, pV 0 0), (3, pV 1 0)], [(1, .box [iC a1.1, iC a1.2.1, .dat (.sl (.st (.pair tI (.pair tI (.pair tI tI))))) a1.2.2]), (0, .box [iC a0.1, iC a0.2.1, .dat (.sl (.st (.pair tI (.pair tI (.pair tI tI))))) a0.2.2])], 2⟩ hX (by kernel_rfl) allNil ?_
  refine HT.seq ?_
  refine HT.rg2 (oHs 5) ⟨[(2, pV 0 0), (3, pV 1 0), (9, bV (a0.1 != a1.1))], [(1, .box [iC a1.1, iC a1.2.1, .dat (.sl (.st (.pair tI (.pair tI (.pair tI tI))))) a1.2.2]), (0, .box [iC a0.1, iC a0.2.1, .dat (.sl (.st (.pair tI (.pair tI (.pair tI tI))))) a0.2.2])], 2⟩ hX (by kernel_rfl) allNil ?_
  rcases of_bif hr with ⟨hb1, hr⟩ | ⟨hb1, hr⟩
  · refine HT.cond1 rfl hb1 ?_
    refine HT.rg2 [oH] ⟨[(4, bV false)], [], 2⟩ hX (by kernel_rfl) allNil ?_
    have hr := of_some hr
    subst hr
    exact HT.ret (qThenR ⟨[bV false], [], [], by kernel_rfl, by kernel_rfl, rfl, by kernel_rfl, by kernel_rfl, trivial⟩)
  · refine HT.cond0 rfl hb1 ?_
    refine HT.skip (qThen ?_)
    refine HT.seq ?_
    refine HT.rg2 (oHs 5) ⟨[(2, pV 0 0), (3, pV 1 0), (14, bV (a0.2.1 != a1.2.1))], [(1, .box [iC a1.1, iC a1.2.1, .dat (.sl (.st (.pair tI (.pair tI (.pair tI tI))))) a1.2.2]), (0, .box [iC a0.1, iC a0.2.1, .dat (.sl (.st (.pair tI (.pair tI (.pair tI tI))))) a0.2.2])], 2⟩ hX (by kernel_rfl) allNil ?_
    rcases of_bif hr with ⟨hb2, hr⟩ | ⟨hb2, hr⟩
    · refine HT.cond1 rfl hb2 ?_
      refine HT.rg2 [oH] ⟨[(4, bV false)], [], 2⟩ hX (by kernel_rfl) allNil ?_
      have hr := of_some hr
      subst hr
      exact HT.ret (qThenR ⟨[bV false], [], [], by kernel_rfl, by kernel_rfl, rfl, by kernel_rfl, by kernel_rfl, trivial⟩)
    · refine HT.cond0 rfl hb2 ?_
      refine HT.skip (qThen ?_)
      refine HT.seq ?_
      obtain ⟨y3, hc4, hr⟩ := of_bind hr
      refine HT.rg2 [oH, oH, oH, oH, ⟨none, .call [.imm (.sl (.st (.pair tI (.pair tI (.pair tI tI))))), .imm (.sl (.st (.pair tI (.pair tI (.pair tI tI)))))] [⟨false, .bool, y3⟩] []⟩, oH] ⟨[(20, bV (!y3))], [], 2⟩ hX (by kernel_rfl) (allCons (f68_ok hc4) allNil) ?_
      rcases of_bif hr with ⟨hb5, hr⟩ | ⟨hb5, hr⟩
      · refine HT.cond1 rfl hb5 ?_
        refine HT.rg2 [oH] ⟨[(4, bV false)], [], 2⟩ hX (by kernel_rfl) allNil ?_
        have hr := of_some hr
        subst hr
        exact HT.ret (qThenR ⟨[bV false], [], [], by kernel_rfl, by kernel_rfl, rfl, by kernel_rfl, by kernel_rfl, trivial⟩)
      · refine HT.cond0 rfl hb5 ?_
        refine HT.skip (qThen ?_)
        refine HT.rg2 [oH] ⟨[(4, bV true)], [], 2⟩ hX (by kernel_rfl) allNil ?_
        have hr := of_some hr
        subst hr
        exact HT.ret ⟨[bV true], [], [], by kernel_rfl, by kernel_rfl, rfl, by kernel_rfl, by kernel_rfl, trivial⟩

noncomputable def laws_FnExactReadGrammar (a0 : List UInt8) : Option (Bool) :=
  bif (decide ((lenI a0) > (1048576 : Int))) then
    some true
  else
    (spec_ReadGrammar a0).bind fun y2 =>
    (impl_ReadGrammar a0).bind fun y4 =>
    (show Option (Bool) from
      (laws_eqGrammar (y4.1.1, y4.1.2.1, y4.1.2.2) (y2.1.1, y2.1.2.1, y2.1.2.2)).bind fun y29 =>
      bif (!y29) then
        some true
      else
        some (y4.2 != y2.2)).bind fun v6 =>
    bif v6 then
      some false
    else
      (laws_markGrammar (y4.1.1, y4.1.2.1, y4.1.2.2) (1 : Int)).bind fun y10 =>
      (laws_heldGrammar (y4.1.1, y4.1.2.1, y10.2.2.2) (1 : Int)).bind fun y12 =>
      bif (decide (y12 < (0 : Int))) then
        some false
      else
        bif (y12 != y10.1) then
          some false
        else
          (impl_ReadGrammar a0).bind fun y16 =>
          (show Option (Bool) from
            (laws_eqGrammar (y16.1.1, y16.1.2.1, y16.1.2.2) (y2.1.1, y2.1.2.1, y2.1.2.2)).bind fun y26 =>
            bif (!y26) then
              some true
            else
              some (y16.2 != y2.2)).bind fun v18 =>
          bif v18 then
            some false
          else
            (laws_heldGrammar (y4.1.1, y4.1.2.1, y10.2.2.2) (1 : Int)).bind fun y22 =>
            bif (decide (y22 < (0 : Int))) then
              some false
            else
              bif (y22 != y10.1) then
                some false
              else
                some true

theorem f9_ok {a0 : List UInt8} {r : Bool} (hr : laws_FnExactReadGrammar a0 = some r) : CallOK Tryd.prog 9 [.imm .str a0] [⟨false, .bool, r⟩] [] := by
  unfold laws_FnExactReadGrammar at hr
  refine CallOK.of_body (ts := [(false, .bool)]) Tryd.func9 rfl (by kernel_rfl) (Nat.le_of_ble_eq_true (by kernel_rfl)) fun cx hP hN hO hF => ?_
  have hO : cx.own.map Prod.fst = [] := hO
  have hX := CxIs.mk hP hN hO
  have hF := hF rfl
  show HT cx ⟨[(0, .one (.dat .str a0))], [], 0⟩ _ _
  refine HT.rg2 [oH] ⟨[(0, .one (.dat .str a0))], [], 0⟩ hX (by kernel_rfl) allNil ?_
  refine HT.seq ?_
  refine HT.rg2 (oHs 3) ⟨[(0, .one (.dat .str a0)), (13, bV (decide ((lenI a0) > (1048576 : Int))))], [], 0⟩ hX (by kernel_rfl) allNil ?_
  rcases of_bif hr with ⟨hb1, hr⟩ | ⟨hb1, hr⟩
  · refine HT.cond1 rfl hb1 ?_
    refine HT.rg2 [oH] ⟨[(2, bV true)], [], 0⟩ hX (by kernel_rfl) allNil ?_
    have hr := of_some hr
    subst hr
    exact HT.ret (qThenR ⟨[bV true], [], [], by kernel_rfl, by kernel_rfl, rfl, by kernel_rfl, by kernel_rfl, trivial⟩)
  · refine HT.cond0 rfl hb1 ?_
    refine HT.skip (qThen ?_)
    obtain ⟨y2, hc3, hr⟩ := of_bind hr
    refine HT.rg2 [oH, ⟨none, .call [.imm .str] [⟨true, (.st (.pair tI (.pair tI (.sl (.st (.pair tI (.pair tI (.pair tI tI)))))))), y2.1⟩, ⟨false, .bool, y2.2⟩] []⟩, oH, oH, oH, oH, oH, oH] ⟨[(0, .one (.dat .str a0)), (3, pV 1 0), (4, bV y2.2)], [(1, .box [iC y2.1.1, iC y2.1.2.1, .all 0]), (0, .seq (.st (.pair tI (.pair tI (.pair tI tI)))) y2.1.2.2)], 2⟩ hX (by kernel_rfl) (allCons (f40_ok hc3) allNil) ?_
    obtain ⟨y4, hc5, hr⟩ := of_bind hr
    refine HT.rg2 [oH, ⟨none, .call [.imm .str] [⟨true, (.st (.pair tI (.pair tI (.sl (.st (.pair tI (.pair tI (.pair tI tI)))))))), y4.1⟩, ⟨false, .bool, y4.2⟩] []⟩, oH, oH, oH, oH, oH, oH] ⟨[(0, .one (.dat .str a0)), (3, pV 1 0), (4, bV y2.2), (5, pV 3 0), (6, bV y4.2)], [(3, .box [iC y4.1.1, iC y4.1.2.1, .all 2]), (2, .seq (.st (.pair tI (.pair tI (.pair tI tI)))) y4.1.2.2), (1, .box [iC y2.1.1, iC y2.1.2.1, .all 0]), (0, .seq (.st (.pair tI (.pair tI (.pair tI tI)))) y2.1.2.2)], 4⟩ hX (by kernel_rfl) (allCons (f41_ok hc5) allNil) ?_
    refine HT.seq ?_
    obtain ⟨v6', hT8, hr⟩ := of_bind hr
    refine HT.join (fun (v6 : Bool) => ⟨[(0, .one (.dat .str a0)), (3, pV 0 0), (4, bV y2.2), (5, pV 1 0), (32, bV v6)], [(0, .box [iC y2.1.1, iC y2.1.2.1, .all 2]), (1, .box [iC y4.1.1, iC y4.1.2.1, .all 3]), (2, .seq (.st (.pair tI (.pair tI (.pair tI tI)))) y2.1.2.2), (3, .seq (.st (.pair tI (.pair tI (.pair tI tI)))) y4.1.2.2)], 4⟩) (fun v => v = v6') (fun v6 hv7 => ?_) (fun cont => ?_)
    · subst hv7
      rcases of_bif hr with ⟨hb9, hr⟩ | ⟨hb9, hr⟩
      · refine HT.cond1 rfl hb9 ?_
        refine HT.rg2 [oH] ⟨[(2, bV false)], [], 4⟩ hX (by kernel_rfl) allNil ?_
        have hr := of_some hr
        subst hr
        exact HT.ret (qThenR ⟨[bV false], [], [], by kernel_rfl, by kernel_rfl, rfl, by kernel_rfl, by kernel_rfl, trivial⟩)
      · refine HT.cond0 rfl hb9 ?_
        refine HT.skip (qThen ?_)
        refine HT.rg2 [oH] ⟨[(0, .one (.dat .str a0)), (3, pV 0 0), (4, bV y2.2), (5, pV 1 0), (7, iV (1 : Int))], [(0, .box [iC y2.1.1, iC y2.1.2.1, .all 2]), (1, .box [iC y4.1.1, iC y4.1.2.1, .all 3]), (2, .seq (.st (.pair tI (.pair tI (.pair tI tI)))) y2.1.2.2), (3, .seq (.st (.pair tI (.pair tI (.pair tI tI)))) y4.1.2.2)], 4⟩ hX (by kernel_rfl) allNil ?_
        obtain ⟨y10, hc11, hr⟩ := of_bind hr
        refine HT.rg2 [oH, oH, ⟨none, .call [.own (.st (.pair tI (.pair tI (.sl (.st (.pair tI (.pair tI (.pair tI tI)))))))), .imm tI] [⟨false, tI, y10.1⟩] [⟨(.st (.pair tI (.pair tI (.sl (.st (.pair tI (.pair tI (.pair tI tI)))))))), y10.2⟩]⟩, oH] ⟨[(0, .one (.dat .str a0)), (3, pV 0 0), (4, bV y2.2), (5, pV 1 0), (7, iV y10.1)], [(3, .seq (.st (.pair tI (.pair tI (.pair tI tI)))) y10.2.2.2), (0, .box [iC y2.1.1, iC y2.1.2.1, .all 2]), (1, .box [iC y4.1.1, iC y4.1.2.1, .all 3]), (2, .seq (.st (.pair tI (.pair tI (.pair tI tI)))) y2.1.2.2)], 4⟩ hX (by kernel_rfl) (allCons (f42_ok hc11) allNil) ?_
        refine HT.rg2 [oH] ⟨[(0, .one (.dat .str a0)), (3, pV 0 0), (4, bV y2.2), (5, pV 1 0), (7, iV y10.1), (8, iV (1 : Int))], [(3, .seq (.st (.pair tI (.pair tI (.pair tI tI)))) y10.2.2.2), (0, .box [iC y2.1.1, iC y2.1.2.1, .all 2]), (1, .box [iC y4.1.1, iC y4.1.2.1, .all 3]), (2, .seq (.st (.pair tI (.pair tI (.pair tI tI)))) y2.1.2.2)], 4⟩ hX (by kernel_rfl) allNil ?_
        obtain ⟨y12, hc13, hr⟩ := of_bind hr
        refine HT.rg2 [oH, oH, ⟨none, .call [.imm (.st (.pair tI (.pair tI (.sl (.st (.pair tI (.pair tI (.pair tI tI)))))))), .imm tI] [⟨false, tI, y12⟩] []⟩, oH] ⟨[(0, .one (.dat .str a0)), (3, pV 0 0), (4, bV y2.2), (5, pV 1 0), (7, iV y10.1), (8, iV y12)], [(3, .seq (.st (.pair tI (.pair tI (.pair tI tI)))) y10.2.2.2), (0, .box [iC y2.1.1, iC y2.1.2.1, .all 2]), (1, .box [iC y4.1.1, iC y4.1.2.1, .all 3]), (2, .seq (.st (.pair tI (.pair tI (.pair tI tI)))) y2.1.2.2)], 4⟩ hX (by kernel_rfl) (allCons (f43_ok hc13) allNil) ?_
        refine HT.seq ?_
        refine HT.rg2 (oHs 2) ⟨[(0, .one (.dat .str a0)), (3, pV 0 0), (4, bV y2.2), (5, pV 1 0), (7, iV y10.1), (8, iV y12), (40, bV (decide (y12 < (0 : Int))))], [(3, .seq (.st (.pair tI (.pair tI (.pair tI tI)))) y10.2.2.2), (0, .box [iC y2.1.1, iC y2.1.2.1, .all 2]), (1, .box [iC y4.1.1, iC y4.1.2.1, .all 3]), (2, .seq (.st (.pair tI (.pair tI (.pair tI tI)))) y2.1.2.2)], 4⟩ hX (by kernel_rfl) allNil ?_
        rcases of_bif hr with ⟨hb14, hr⟩ | ⟨hb14, hr⟩
        · refine HT.cond1 rfl hb14 ?_
          refine HT.rg2 [oH] ⟨[(2, bV false)], [], 4⟩ hX (by kernel_rfl) allNil ?_
          have hr := of_some hr
          subst hr
          exact HT.ret (qThenR ⟨[bV false], [], [], by kernel_rfl, by kernel_rfl, rfl, by kernel_rfl, by kernel_rfl, trivial⟩)
        · refine HT.cond0 rfl hb14 ?_
          refine HT.skip (qThen ?_)
          refine HT.seq ?_
          refine HT.rg2 (oHs 3) ⟨[(0, .one (.dat .str a0)), (3, pV 0 0), (4, bV y2.2), (5, pV 1 0), (7, iV y10.1), (43, bV (y12 != y10.1))], [(3, .seq (.st (.pair tI (.pair tI (.pair tI tI)))) y10.2.2.2), (0, .box [iC y2.1.1, iC y2.1.2.1, .all 2]), (1, .box [iC y4.1.1, iC y4.1.2.1, .all 3]), (2, .seq (.st (.pair tI (.pair tI (.pair tI tI)))) y2.1.2.2)], 4⟩ hX (by kernel_rfl) allNil ?_
          rcases of_bif hr with ⟨hb15, hr⟩ | ⟨hb15, hr⟩
          · refine HT.cond1 rfl hb15 ?_
            refine HT.rg2 [oH] ⟨[(2, bV false)], [], 4⟩ hX (by kernel_rfl) allNil ?_
            have hr := of_some hr
            subst hr
            exact HT.ret (qThenR ⟨[bV false], [], [], by kernel_rfl, by kernel_rfl, rfl, by kernel_rfl, by kernel_rfl, trivial⟩)
          · refine HT.cond0 rfl hb15 ?_
            refine HT.skip (qThen ?_)
            obtain ⟨y16, hc17, hr⟩ := of_bind hr
            refine HT.rg2 [oH, ⟨none, .call [.imm .str] [⟨true, (.st (.pair tI (.pair tI (.sl (.st (.pair tI (.pair tI (.pair tI tI)))))))), y16.1⟩, ⟨false, .bool, y16.2⟩] []⟩, oH, oH, oH, oH, oH, oH] ⟨[(3, pV 0 0), (4, bV y2.2), (5, pV 1 0), (7, iV y10.1), (9, pV 5 0), (10, bV y16.2)], [(5, .box [iC y16.1.1, iC y16.1.2.1, .all 4]), (4, .seq (.st (.pair tI (.pair tI (.pair tI tI)))) y16.1.2.2), (3, .seq (.st (.pair tI (.pair tI (.pair tI tI)))) y10.2.2.2), (0, .box [iC y2.1.1, iC y2.1.2.1, .all 2]), (1, .box [iC y4.1.1, iC y4.1.2.1, .all 3]), (2, .seq (.st (.pair tI (.pair tI (.pair tI tI)))) y2.1.2.2)], 6⟩ hX (by kernel_rfl) (allCons (f41_ok hc17) allNil) ?_
            refine HT.seq ?_
            obtain ⟨v18', hT20, hr⟩ := of_bind hr
            refine HT.join (fun (v18 : Bool) => ⟨[(5, pV 0 0), (7, iV y10.1), (57, bV v18)], [(0, .box [iC y4.1.1, iC y4.1.2.1, .all 1]), (1, .seq (.st (.pair tI (.pair tI (.pair tI tI)))) y10.2.2.2)], 2⟩) (fun v => v = v18') (fun v18 hv19 => ?_) (fun cont => ?_)
            · subst hv19
              rcases of_bif hr with ⟨hb21, hr⟩ | ⟨hb21, hr⟩
              · refine HT.cond1 rfl hb21 ?_
                refine HT.rg2 [oH] ⟨[(2, bV false)], [], 2⟩ hX (by kernel_rfl) allNil ?_
                have hr := of_some hr
                subst hr
                exact HT.ret (qThenR ⟨[bV false], [], [], by kernel_rfl, by kernel_rfl, rfl, by kernel_rfl, by kernel_rfl, trivial⟩)
              · refine HT.cond0 rfl hb21 ?_
                refine HT.skip (qThen ?_)
                refine HT.rg2 [oH] ⟨[(5, pV 0 0), (7, iV y10.1), (8, iV (1 : Int))], [(0, .box [iC y4.1.1, iC y4.1.2.1, .all 1]), (1, .seq (.st (.pair tI (.pair tI (.pair tI tI)))) y10.2.2.2)], 2⟩ hX (by kernel_rfl) allNil ?_
                obtain ⟨y22, hc23, hr⟩ := of_bind hr
                refine HT.rg2 [oH, oH, ⟨none, .call [.imm (.st (.pair tI (.pair tI (.sl (.st (.pair tI (.pair tI (.pair tI tI)))))))), .imm tI] [⟨false, tI, y22⟩] []⟩, oH] ⟨[(7, iV y10.1), (8, iV y22)], [], 2⟩ hX (by kernel_rfl) (allCons (f43_ok hc23) allNil) ?_
                refine HT.seq ?_
                refine HT.rg2 (oHs 2) ⟨[(7, iV y10.1), (8, iV y22), (62, bV (decide (y22 < (0 : Int))))], [], 2⟩ hX (by kernel_rfl) allNil ?_
                rcases of_bif hr with ⟨hb24, hr⟩ | ⟨hb24, hr⟩
                · refine HT.cond1 rfl hb24 ?_
                  refine HT.rg2 [oH] ⟨[(2, bV false)], [], 2⟩ hX (by kernel_rfl) allNil ?_
                  have hr := of_some hr
                  subst hr
                  exact HT.ret (qThenR ⟨[bV false], [], [], by kernel_rfl, by kernel_rfl, rfl, by kernel_rfl, by kernel_rfl, trivial⟩)
                · refine HT.cond0 rfl hb24 ?_
                  refine HT.skip (qThen ?_)
                  refine HT.seq ?_
                  refine HT.rg2 (oHs 3) ⟨[(65, bV (y22 != y10.1))], [], 2⟩ hX (by kernel_rfl) allNil ?_
                  rcases of_bif hr with ⟨hb25, hr⟩ | ⟨hb25, hr⟩
                  · refine HT.cond1 rfl hb25 ?_
                    refine HT.rg2 [oH] ⟨[(2, bV false)], [], 2⟩ hX (by kernel_rfl) allNil ?_
                    have hr := of_some hr
                    subst hr
                    exact HT.ret (qThenR ⟨[bV false], [], [], by kernel_rfl, by kernel_rfl, rfl, by kernel_rfl, by kernel_rfl, trivial⟩)
                  · refine HT.cond0 rfl hb25 ?_
                    refine HT.skip (qThen ?_)
                    refine HT.rg2 [oH] ⟨[(2, bV true)], [], 2⟩ hX (by kernel_rfl) allNil ?_
                    have hr := of_some hr
                    subst hr
                    exact HT.ret ⟨[bV true], [], [], by kernel_rfl, by kernel_rfl, rfl, by kernel_rfl, by kernel_rfl, trivial⟩
            · obtain ⟨y26, hc27, hT20⟩ := of_bind hT20
              rcases of_bif hT20 with ⟨hb28, hT20⟩ | ⟨hb28, hT20⟩
              · exact HT.rgK [oH, oH, ⟨none, .call [.imm (.st (.pair tI (.pair tI (.sl (.st (.pair tI (.pair tI (.pair tI tI)))))))), .imm (.st (.pair tI (.pair tI (.sl (.st (.pair tI (.pair tI (.pair tI tI))))))))] [⟨false, .bool, y26⟩] []⟩, oH, oH, ⟨some true, .no⟩, ⟨some true, .no⟩, ⟨some true, .no⟩, ⟨none, .tv true⟩] [(1, 0), (3, 1)] [] hX (by kernel_rfl) (allCons (f25_ok hc27) (allCons hb28 (allCons hb28 (allCons hb28 (allCons hb28 allNil))))) (fun _ h => (qThen (h.ht (cont true (of_some hT20)))))
              · exact HT.rgK [oH, oH, ⟨none, .call [.imm (.st (.pair tI (.pair tI (.sl (.st (.pair tI (.pair tI (.pair tI tI)))))))), .imm (.st (.pair tI (.pair tI (.sl (.st (.pair tI (.pair tI (.pair tI tI))))))))] [⟨false, .bool, y26⟩] []⟩, oH, oH, ⟨some false, .no⟩, ⟨some false, .no⟩, ⟨some false, .no⟩, ⟨none, .tv false⟩] [(1, 0), (3, 1)] [] hX (by kernel_rfl) (allCons (f25_ok hc27) (allCons hb28 (allCons hb28 (allCons hb28 (allCons hb28 allNil))))) (fun _ h => (qThen (h.ht (cont (y16.2 != y2.2) (of_some hT20)))))
    · obtain ⟨y29, hc30, hT8⟩ := of_bind hT8
      rcases of_bif hT8 with ⟨hb31, hT8⟩ | ⟨hb31, hT8⟩
      · exact HT.rgK [oH, oH, ⟨none, .call [.imm (.st (.pair tI (.pair tI (.sl (.st (.pair tI (.pair tI (.pair tI tI)))))))), .imm (.st (.pair tI (.pair tI (.sl (.st (.pair tI (.pair tI (.pair tI tI))))))))] [⟨false, .bool, y29⟩] []⟩, oH, oH, ⟨some true, .no⟩, ⟨some true, .no⟩, ⟨some true, .no⟩, ⟨none, .tv true⟩] [(1, 0), (3, 1), (0, 2), (2, 3)] [] hX (by kernel_rfl) (allCons (f25_ok hc30) (allCons hb31 (allCons hb31 (allCons hb31 (allCons hb31 allNil))))) (fun _ h => (qThen (h.ht (cont true (of_some hT8)))))
      · exact HT.rgK [oH, oH, ⟨none, .call [.imm (.st (.pair tI (.pair tI (.sl (.st (.pair tI (.pair tI (.pair tI tI)))))))), .imm (.st (.pair tI (.pair tI (.sl (.st (.pair tI (.pair tI (.pair tI tI))))))))] [⟨false, .bool, y29⟩] []⟩, oH, oH, ⟨some false, .no⟩, ⟨some false, .no⟩, ⟨some false, .no⟩, ⟨none, .tv false⟩] [(1, 0), (3, 1), (0, 2), (2, 3)] [] hX (by kernel_rfl) (allCons (f25_ok hc30) (allCons hb31 (allCons hb31 (allCons hb31 (allCons hb31 allNil))))) (fun _ h => (qThen (h.ht (cont (y4.2 != y2.2) (of_some hT8)))))

end Go.Proofs
