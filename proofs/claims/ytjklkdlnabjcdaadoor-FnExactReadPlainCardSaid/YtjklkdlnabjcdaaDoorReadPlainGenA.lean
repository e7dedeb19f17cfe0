import Derived.Test.YtjklkdlnabjcdaaDoorReadPlainShelf
import Derived.Test.YtjklkdlnabjcdaaDoorProg
set_option linter.unusedVariables false
set_option linter.unusedSimpArgs false
set_option linter.unusedSectionVars false
/-
  Functions as plain functions, and their contracts. Printed by a program.
-/
namespace Go.Proofs
open Go.Ide

noncomputable def spec_l01Cut_B1 (a0 : List UInt8) (a1 : Int) (s1 : Int × Int × List (List UInt8)) : Option ((Int × Int × List (List UInt8)) ⊕ (List (List UInt8))) :=
  bif (decide (s1.2.1 ≤ (lenI a0))) then
    (show Option (Int × List (List UInt8)) from
      (show Option (Bool) from
        bif (s1.2.1 == (lenI a0)) then
          some true
        else
          guardP ((0 : Int) ≤ s1.2.1 ∧ s1.2.1 < lenI a0) (
            some (((((List.getD a0 (Int.toNat s1.2.1) 0 : UInt8).toNat : Nat)) : Int) == a1))).bind fun v11 =>
      bif v11 then
        guardP ((0 : Int) ≤ s1.1 ∧ s1.1 ≤ s1.2.1 ∧ s1.2.1 ≤ lenI a0) (
          guardP (List.length s1.2.2 + List.length ([(cut a0 s1.1 s1.2.1)] : List (List UInt8)) ≤ appMax) (
            some ((wadd .i64 s1.2.1 (1 : Int)), (s1.2.2 ++ ([(cut a0 s1.1 s1.2.1)] : List (List UInt8))))))
      else
        some (s1.1, s1.2.2)).bind fun v8 =>
    some (.inl (v8.1, (wadd .i64 s1.2.1 (1 : Int)), v8.2))
  else
    some (.inr s1.2.2)

noncomputable def spec_l01Cut (a0 : List UInt8) (a1 : Int) : Option (List (List UInt8)) :=
  (rounds (spec_l01Cut_B1 a0 a1) ((0 : Int), (0 : Int), ([] : List (List UInt8)))).bind fun r3 =>
  some r3

theorem f121_ok {a0 : List UInt8} {a1 : Int} {r : List (List UInt8)} (hr : spec_l01Cut a0 a1 = some r) : CallOK Tryd.prog 121 [.imm .str a0, .imm (.int .u8) a1] [⟨true, (.sl .str), r⟩] [] := by
  unfold spec_l01Cut at hr
  refine CallOK.of_body (ts := [(true, (.sl .str))]) Tryd.func121 rfl (by kernel_rfl) (Nat.le_of_ble_eq_true (by kernel_rfl)) fun cx hP hN hO hF => ?_
  have hO : cx.own.map Prod.fst = [] := hO
  have hX := CxIs.mk hP hN hO
  have hF := hF rfl
  show HT cx ⟨[(0, .one (.dat .str a0)), (1, .one (.dat (.int .u8) a1))], [], 0⟩ _ _
  refine HT.rg2 [oH] ⟨[(0, .one (.dat .str a0)), (1, .one (.dat (.int .u8) a1))], [], 0⟩ hX (by kernel_rfl) allNil ?_
  refine HT.rg2 (oHs 2) ⟨[(0, .one (.dat .str a0)), (1, .one (.dat (.int .u8) a1)), (5, .one (.nilS))], [], 0⟩ hX (by kernel_rfl) allNil ?_
  refine HT.rg2 [oH] ⟨[(0, .one (.dat .str a0)), (1, .one (.dat (.int .u8) a1)), (5, .one (.nilS)), (6, iV (0 : Int))], [], 0⟩ hX (by kernel_rfl) allNil ?_
  refine HT.seq ?_
  refine HT.rg2 [oH] ⟨[(0, .one (.dat .str a0)), (1, .one (.dat (.int .u8) a1)), (5, .one (.nilS)), (6, iV (0 : Int)), (7, iV (0 : Int))], [], 0⟩ hX (by kernel_rfl) allNil ?_
  refine HT.block ?_
  obtain ⟨r2, hL19, hr⟩ := of_bind hr
  refine HT.loopL (fun (s1 : Int × Int × List (List UInt8)) => ⟨[(0, .one (.dat .str a0)), (1, .one (.dat (.int .u8) a1)), (5, aV 0), (6, iV s1.1), (7, iV s1.2.1)], [(0, .seq .str s1.2.2)], 1⟩) (fun (r3 : List (List UInt8)) => (.exit 0, ⟨[(5, aV 0)], [(0, .seq .str r3)], 1⟩)) (Le.re [] [0] hX (by kernel_rfl)) hL19 ?_ (fun s1 x4 hx5 hk6 => ?_)
  · refine (qBlockX (qThen ?_))
    refine HT.rg2 (oHs 2) ⟨[(4, aV 0)], [(0, .seq .str r2)], 1⟩ hX (by kernel_rfl) allNil ?_
    have hr := of_some hr
    subst hr
    exact HT.ret ⟨[aV 0], [0], [], by kernel_rfl, by kernel_rfl, rfl, by kernel_rfl, by kernel_rfl, trivial⟩
  · refine HT.seq ?_
    refine HT.rg2 (oHs 4) ⟨[(0, .one (.dat .str a0)), (1, .one (.dat (.int .u8) a1)), (5, aV 0), (6, iV s1.1), (7, iV s1.2.1), (12, bV (decide (s1.2.1 ≤ (lenI a0))))], [(0, .seq .str s1.2.2)], 1⟩ hX (by kernel_rfl) allNil ?_
    rcases of_bif hx5 with ⟨hb7, hx5⟩ | ⟨hb7, hx5⟩
    · refine HT.cond1 rfl hb7 ?_
      refine HT.skip (qThen ?_)
      obtain ⟨v8', hT10, hx5⟩ := of_bind hx5
      refine HT.join (fun (v8 : Int × List (List UInt8)) => ⟨[(0, .one (.dat .str a0)), (1, .one (.dat (.int .u8) a1)), (5, aV 0), (6, iV v8.1), (7, iV s1.2.1)], [(0, .seq .str v8.2)], 1⟩) (fun v => v = v8') (fun v8 hv9 => ?_) (fun cont => ?_)
      · subst hv9
        have hx5 := of_some hx5
        subst hx5
        exact HT.rgK (oHs 3) [(0, 0)] [] hX (by kernel_rfl) allNil (fun _ h => (qLoopN ⟨(v8.1, (wadd .i64 s1.2.1 (1 : Int)), v8.2), rfl, h⟩))
      · refine HT.block ?_
        obtain ⟨v11', hT13, hT10⟩ := of_bind hT10
        refine HT.join (fun (v11 : Bool) => ⟨[(0, .one (.dat .str a0)), (1, .one (.dat (.int .u8) a1)), (5, aV 0), (6, iV s1.1), (7, iV s1.2.1), (25, bV v11)], [(0, .seq .str s1.2.2)], 1⟩) (fun v => v = v11') (fun v11 hv12 => ?_) (fun cont => ?_)
        · subst hv12
          rcases of_bif hT10 with ⟨hb14, hT10⟩ | ⟨hb14, hT10⟩
          · refine HT.cond1 rfl hb14 ?_
            obtain ⟨hg15, hT10⟩ := of_guard hT10
            obtain ⟨hg16, hT10⟩ := of_guard hT10
            refine HT.rg2 [oH, oH, oH, oH, oH, ⟨none, .ty .str⟩, ⟨none, .ty .str⟩, oH] ⟨[(0, .one (.dat .str a0)), (1, .one (.dat (.int .u8) a1)), (5, aV 2), (7, iV s1.2.1)], [(2, .seq .str (s1.2.2 ++ ([(cut a0 s1.1 s1.2.1)] : List (List UInt8))))], 3⟩ hX (by kernel_rfl) (allCons hg15 (allCons hg16 allNil)) ?_
            exact HT.rgK (oHs 3) [(2, 0)] [] hX (by kernel_rfl) allNil (fun _ h => (qBlock (qThen (h.ht (cont ((wadd .i64 s1.2.1 (1 : Int)), (s1.2.2 ++ ([(cut a0 s1.1 s1.2.1)] : List (List UInt8)))) (of_some hT10))))))
          · refine HT.cond0 rfl hb14 ?_
            refine HT.skip (qBlock (qThen ?_))
            exact (Le.re [(0, 0)] [] hX (by kernel_rfl)).ht (cont (s1.1, s1.2.2) (of_some hT10))
        · rcases of_bif hT13 with ⟨hb17, hT13⟩ | ⟨hb17, hT13⟩
          · exact HT.rgK [oH, oH, oH, oH, oH, ⟨some true, .no⟩, ⟨some true, .no⟩, ⟨some true, .no⟩, ⟨some true, .no⟩, ⟨some true, .no⟩, ⟨none, .tv true⟩] [(0, 0)] [] hX (by kernel_rfl) (allCons hb17 (allCons hb17 (allCons hb17 (allCons hb17 (allCons hb17 (allCons hb17 allNil)))))) (fun _ h => (qThen (h.ht (cont true (of_some hT13)))))
          · obtain ⟨hg18, hT13⟩ := of_guard hT13
            exact HT.rgK [oH, oH, oH, oH, oH, ⟨some false, .no⟩, ⟨some false, .no⟩, ⟨some false, .no⟩, ⟨some false, .no⟩, ⟨some false, .no⟩, ⟨none, .tv false⟩] [(0, 0)] [] hX (by kernel_rfl) (allCons hb17 (allCons hb17 (allCons hb17 (allCons hg18 (allCons hb17 (allCons hb17 (allCons hb17 allNil))))))) (fun _ h => (qThen (h.ht (cont (((((List.getD a0 (Int.toNat s1.2.1) 0 : UInt8).toNat : Nat)) : Int) == a1) (of_some hT13)))))
    · refine HT.cond0 rfl hb7 ?_
      have hx5 := of_some hx5
      subst hx5
      exact HT.exitL (Le.re [(0, 0)] [] hX (by kernel_rfl)) (qThenE (qLoopE (hk6 s1.2.2 rfl)))

noncomputable def spec_l00In (a0 : Int) (a1 : Int) (a2 : Int) : Option (Bool) :=
  (show Option (Bool) from
    bif (decide (a0 ≥ a1)) then
      some (decide (a0 ≤ a2))
    else
      some false).bind fun v1 =>
  some v1

theorem f111_ok {a0 : Int} {a1 : Int} {a2 : Int} {r : Bool} (hr : spec_l00In a0 a1 a2 = some r) : CallOK Tryd.prog 111 [.imm tI a0, .imm tI a1, .imm tI a2] [⟨false, .bool, r⟩] [] := by
  unfold spec_l00In at hr
  refine CallOK.of_body (ts := [(false, .bool)]) Tryd.func111 rfl (by kernel_rfl) (Nat.le_of_ble_eq_true (by kernel_rfl)) fun cx hP hN hO hF => ?_
  have hO : cx.own.map Prod.fst = [] := hO
  have hX := CxIs.mk hP hN hO
  have hF := hF rfl
  show HT cx ⟨[(0, iV a0), (1, iV a1), (2, iV a2)], [], 0⟩ _ _
  refine HT.rg2 [oH] ⟨[(0, iV a0), (1, iV a1), (2, iV a2)], [], 0⟩ hX (by kernel_rfl) allNil ?_
  obtain ⟨v1', hT3, hr⟩ := of_bind hr
  refine HT.join (fun (v1 : Bool) => ⟨[(6, bV v1)], [], 0⟩) (fun v => v = v1') (fun v1 hv2 => ?_) (fun cont => ?_)
  · subst hv2
    have hr := of_some hr
    subst hr
    exact HT.ret ⟨[bV v1], [], [], by kernel_rfl, by kernel_rfl, rfl, by kernel_rfl, by kernel_rfl, trivial⟩
  · rcases of_bif hT3 with ⟨hb4, hT3⟩ | ⟨hb4, hT3⟩
    · exact HT.rgK [oH, oH, oH, oH, ⟨some true, .no⟩, ⟨some true, .no⟩, ⟨some true, .no⟩, ⟨none, .tv true⟩, oH] [] [] hX (by kernel_rfl) (allCons hb4 (allCons hb4 (allCons hb4 (allCons hb4 allNil)))) (fun _ h => (qThen (h.ht (cont (decide (a0 ≤ a2)) (of_some hT3)))))
    · exact HT.rgK [oH, oH, oH, oH, ⟨some false, .no⟩, ⟨some false, .no⟩, ⟨some false, .no⟩, ⟨none, .tv false⟩, oH] [] [] hX (by kernel_rfl) (allCons hb4 (allCons hb4 (allCons hb4 (allCons hb4 allNil)))) (fun _ h => (qThen (h.ht (cont false (of_some hT3)))))

noncomputable def spec_l01Dec_B1  (s1 : Int × List Int) : Option ((Int × List Int) ⊕ (List Int)) :=
  (show Option (Bool) from
    bif ((lenI s1.2) == (0 : Int)) then
      some true
    else
      some (s1.1 != (0 : Int))).bind fun v12 =>
  bif v12 then
    (show Option (Int) from
      bif (decide ((Int.tmod s1.1 (10 : Int)) < (0 : Int))) then
        some (IntKind.wrap .i64 (0 - (Int.tmod s1.1 (10 : Int))))
      else
        some (Int.tmod s1.1 (10 : Int))).bind fun v16 =>
    guardP (List.length ([(IntKind.wrap .u8 (wadd .i64 (48 : Int) v16))] : List Int) + List.length s1.2 ≤ appMax) (
      some (.inl ((IntKind.wrap .i64 (Int.tdiv s1.1 (10 : Int))), (([(IntKind.wrap .u8 (wadd .i64 (48 : Int) v16))] : List Int) ++ s1.2))))
  else
    some (.inr s1.2)

noncomputable def spec_l01Dec (a0 : Int) : Option (List UInt8) :=
  (rounds (spec_l01Dec_B1) (a0, ([] : List Int))).bind fun r3 =>
  (show Option (List Int) from
    bif (decide (a0 < (0 : Int))) then
      guardP (List.length ([(45 : Int)] : List Int) + List.length r3 ≤ appMax) (
        some (([(45 : Int)] : List Int) ++ r3))
    else
      some r3).bind fun v4 =>
  some (bytesO v4)

theorem f104_ok {a0 : Int} {r : List UInt8} (hr : spec_l01Dec a0 = some r) : CallOK Tryd.prog 104 [.imm tI a0] [⟨false, .str, r⟩] [] := by
  unfold spec_l01Dec at hr
  refine CallOK.of_body (ts := [(false, .str)]) Tryd.func104 rfl (by kernel_rfl) (Nat.le_of_ble_eq_true (by kernel_rfl)) fun cx hP hN hO hF => ?_
  have hO : cx.own.map Prod.fst = [] := hO
  have hX := CxIs.mk hP hN hO
  have hF := hF rfl
  show HT cx ⟨[(0, iV a0)], [], 0⟩ _ _
  refine HT.rg2 [oH] ⟨[(0, iV a0)], [], 0⟩ hX (by kernel_rfl) allNil ?_
  refine HT.rg2 (oHs 2) ⟨[(0, iV a0), (3, .one (.nilS))], [], 0⟩ hX (by kernel_rfl) allNil ?_
  refine HT.rg2 (oHs 2) ⟨[(0, iV a0), (3, .one (.nilS)), (4, iV a0)], [], 0⟩ hX (by kernel_rfl) allNil ?_
  refine HT.seq ?_
  refine HT.block ?_
  obtain ⟨r2, hL22, hr⟩ := of_bind hr
  refine HT.loopL (fun (s1 : Int × List Int) => ⟨[(0, iV a0), (3, aV 0), (4, iV s1.1)], [(0, .seq (.int .u8) s1.2)], 1⟩) (fun (r3 : List Int) => (.exit 0, ⟨[(0, iV a0), (3, aV 0)], [(0, .seq (.int .u8) r3)], 1⟩)) (Le.re [] [0] hX (by kernel_rfl)) hL22 ?_ (fun s1 x9 hx10 hk11 => ?_)
  · refine (qBlockX (qThen ?_))
    obtain ⟨v4', hT6, hr⟩ := of_bind hr
    refine HT.join (fun (v4 : List Int) => ⟨[(3, aV 0)], [(0, .seq (.int .u8) v4)], 1⟩) (fun v => v = v4') (fun v4 hv5 => ?_) (fun cont => ?_)
    · subst hv5
      refine HT.rg2 (oHs 3) ⟨[(2, .one (.dat .str (bytesO v4)))], [], 1⟩ hX (by kernel_rfl) allNil ?_
      have hr := of_some hr
      subst hr
      exact HT.ret ⟨[.one (.dat .str (bytesO v4))], [], [], by kernel_rfl, by kernel_rfl, rfl, by kernel_rfl, by kernel_rfl, trivial⟩
    · refine HT.rg2 (oHs 2) ⟨[(3, aV 0), (30, bV (decide (a0 < (0 : Int))))], [(0, .seq (.int .u8) r2)], 1⟩ hX (by kernel_rfl) allNil ?_
      rcases of_bif hT6 with ⟨hb7, hT6⟩ | ⟨hb7, hT6⟩
      · refine HT.cond1 rfl hb7 ?_
        obtain ⟨hg8, hT6⟩ := of_guard hT6
        exact HT.rgK [⟨none, .ty (.int .u8)⟩, oH, ⟨none, .ty (.int .u8)⟩, oH] [(2, 0)] [] hX (by kernel_rfl) (allCons hg8 allNil) (fun _ h => (qThen (h.ht (cont (([(45 : Int)] : List Int) ++ r2) (of_some hT6)))))
      · refine HT.cond0 rfl hb7 ?_
        refine HT.skip (qThen ?_)
        exact (Le.re [(0, 0)] [] hX (by kernel_rfl)).ht (cont r2 (of_some hT6))
  · refine HT.seq ?_
    obtain ⟨v12', hT14, hx10⟩ := of_bind hx10
    refine HT.join (fun (v12 : Bool) => ⟨[(0, iV a0), (3, aV 0), (4, iV s1.1), (14, bV v12)], [(0, .seq (.int .u8) s1.2)], 1⟩) (fun v => v = v12') (fun v12 hv13 => ?_) (fun cont => ?_)
    · subst hv13
      rcases of_bif hx10 with ⟨hb15, hx10⟩ | ⟨hb15, hx10⟩
      · refine HT.cond1 rfl hb15 ?_
        refine HT.skip (qThen ?_)
        refine HT.block ?_
        refine HT.rg2 (oHs 3) ⟨[(0, iV a0), (3, aV 0), (4, iV s1.1), (5, iV (Int.tmod s1.1 (10 : Int)))], [(0, .seq (.int .u8) s1.2)], 1⟩ hX (by kernel_rfl) (allCons (show (10 : Int) ≠ 0 from by decide) allNil) ?_
        obtain ⟨v16', hT18, hx10⟩ := of_bind hx10
        refine HT.join (fun (v16 : Int) => ⟨[(0, iV a0), (3, aV 0), (4, iV s1.1), (5, iV v16)], [(0, .seq (.int .u8) s1.2)], 1⟩) (fun v => v = v16') (fun v16 hv17 => ?_) (fun cont => ?_)
        · subst hv17
          obtain ⟨hg19, hx10⟩ := of_guard hx10
          refine HT.rg2 [oH, oH, oH, ⟨none, .ty (.int .u8)⟩, oH, ⟨none, .ty (.int .u8)⟩, oH] ⟨[(0, iV a0), (3, aV 2), (4, iV s1.1)], [(2, .seq (.int .u8) (([(IntKind.wrap .u8 (wadd .i64 (48 : Int) v16))] : List Int) ++ s1.2))], 3⟩ hX (by kernel_rfl) (allCons hg19 allNil) ?_
          have hx10 := of_some hx10
          subst hx10
          exact HT.rgK (oHs 3) [(2, 0)] [] hX (by kernel_rfl) (allCons (show (10 : Int) ≠ 0 from by decide) allNil) (fun _ h => (qBlock (qLoopN ⟨((IntKind.wrap .i64 (Int.tdiv s1.1 (10 : Int))), (([(IntKind.wrap .u8 (wadd .i64 (48 : Int) v16))] : List Int) ++ s1.2)), rfl, h⟩)))
        · refine HT.rg2 (oHs 2) ⟨[(0, iV a0), (3, aV 0), (4, iV s1.1), (5, iV (Int.tmod s1.1 (10 : Int))), (18, bV (decide ((Int.tmod s1.1 (10 : Int)) < (0 : Int))))], [(0, .seq (.int .u8) s1.2)], 1⟩ hX (by kernel_rfl) allNil ?_
          rcases of_bif hT18 with ⟨hb20, hT18⟩ | ⟨hb20, hT18⟩
          · refine HT.cond1 rfl hb20 ?_
            exact HT.rgK (oHs 3) [(0, 0)] [] hX (by kernel_rfl) allNil (fun _ h => (qThen (h.ht (cont (IntKind.wrap .i64 (0 - (Int.tmod s1.1 (10 : Int)))) (of_some hT18)))))
          · refine HT.cond0 rfl hb20 ?_
            refine HT.skip (qThen ?_)
            exact (Le.re [(0, 0)] [] hX (by kernel_rfl)).ht (cont (Int.tmod s1.1 (10 : Int)) (of_some hT18))
      · refine HT.cond0 rfl hb15 ?_
        have hx10 := of_some hx10
        subst hx10
        exact HT.exitL (Le.re [(0, 0)] [] hX (by kernel_rfl)) (qThenE (qLoopE (hk11 s1.2 rfl)))
    · rcases of_bif hT14 with ⟨hb21, hT14⟩ | ⟨hb21, hT14⟩
      · exact HT.rgK [oH, oH, oH, oH, ⟨some true, .no⟩, ⟨some true, .no⟩, ⟨none, .tv true⟩] [(0, 0)] [] hX (by kernel_rfl) (allCons hb21 (allCons hb21 (allCons hb21 allNil))) (fun _ h => (qThen (h.ht (cont true (of_some hT14)))))
      · exact HT.rgK [oH, oH, oH, oH, ⟨some false, .no⟩, ⟨some false, .no⟩, ⟨none, .tv false⟩] [(0, 0)] [] hX (by kernel_rfl) (allCons hb21 (allCons hb21 (allCons hb21 allNil))) (fun _ h => (qThen (h.ht (cont (s1.1 != (0 : Int)) (of_some hT14)))))

noncomputable def spec_l01Value_B1 (a0 : List UInt8) (s5 : Int × Int) : Option ((Int × Int) ⊕ (Int)) :=
  bif (decide (s5.2 < (lenI a0))) then
    (show Option (Int) from
      (show Option (Bool) from
        guardP ((0 : Int) ≤ s5.2 ∧ s5.2 < lenI a0) (
          bif (decide (((((List.getD a0 (Int.toNat s5.2) 0 : UInt8).toNat : Nat)) : Int) ≥ (48 : Int))) then
            some (decide (((((List.getD a0 (Int.toNat s5.2) 0 : UInt8).toNat : Nat)) : Int) ≤ (57 : Int)))
          else
            some false)).bind fun v29 =>
      bif v29 then
        guardP ((0 : Int) ≤ s5.2 ∧ s5.2 < lenI a0) (
          some (wadd .i64 (wmul .i64 (10 : Int) s5.1) (IntKind.wrap .i64 (wsub .u8 ((((List.getD a0 (Int.toNat s5.2) 0 : UInt8).toNat : Nat)) : Int) (48 : Int)))))
      else
        some s5.1).bind fun v26 =>
    some (.inl (v26, (wadd .i64 s5.2 (1 : Int))))
  else
    some (.inr s5.1)

noncomputable def spec_l01Value (a0 : List UInt8) : Option (Int × Bool) :=
  (show Option (Bool) from
    bif (decide ((lenI a0) < (1 : Int))) then
      some true
    else
      some (decide ((lenI a0) > (17 : Int)))).bind fun v1 =>
  bif v1 then
    some ((0 : Int), false)
  else
    (rounds (spec_l01Value_B1 a0) ((0 : Int), (0 : Int))).bind fun r7 =>
    (show Option (Int) from
      guardP ((0 : Int) ≤ (0 : Int) ∧ (0 : Int) < lenI a0) (
        bif (((((List.getD a0 (Int.toNat (0 : Int)) 0 : UInt8).toNat : Nat)) : Int) == (45 : Int)) then
          some (IntKind.wrap .i64 (0 - r7))
        else
          some r7)).bind fun v8 =>
    (show Option (Bool) from
      (spec_l00In v8 (-1000000000000000 : Int) (1000000000000000 : Int)).bind fun y15 =>
      bif (!y15) then
        some true
      else
        (spec_l01Dec v8).bind fun y18 =>
        some (y18 != a0)).bind fun v11 =>
    bif v11 then
      some ((0 : Int), false)
    else
      some (v8, true)

theorem f136_ok {a0 : List UInt8} {r : Int × Bool} (hr : spec_l01Value a0 = some r) : CallOK Tryd.prog 136 [.imm .str a0] [⟨false, tI, r.1⟩, ⟨false, .bool, r.2⟩] [] := by
  unfold spec_l01Value at hr
  refine CallOK.of_body (ts := [(false, tI), (false, .bool)]) Tryd.func136 rfl (by kernel_rfl) (Nat.le_of_ble_eq_true (by kernel_rfl)) fun cx hP hN hO hF => ?_
  have hO : cx.own.map Prod.fst = [] := hO
  have hX := CxIs.mk hP hN hO
  have hF := hF rfl
  show HT cx ⟨[(0, .one (.dat .str a0))], [], 0⟩ _ _
  refine HT.rg2 (oHs 2) ⟨[(0, .one (.dat .str a0))], [], 0⟩ hX (by kernel_rfl) allNil ?_
  refine HT.seq ?_
  obtain ⟨v1', hT3, hr⟩ := of_bind hr
  refine HT.join (fun (v1 : Bool) => ⟨[(0, .one (.dat .str a0)), (13, bV v1)], [], 0⟩) (fun v => v = v1') (fun v1 hv2 => ?_) (fun cont => ?_)
  · subst hv2
    rcases of_bif hr with ⟨hb4, hr⟩ | ⟨hb4, hr⟩
    · refine HT.cond1 rfl hb4 ?_
      refine HT.rg2 (oHs 2) ⟨[(2, iV (0 : Int)), (3, bV false)], [], 0⟩ hX (by kernel_rfl) allNil ?_
      have hr := of_some hr
      subst hr
      exact HT.ret (qThenR ⟨[iV (0 : Int), bV false], [], [], by kernel_rfl, by kernel_rfl, rfl, by kernel_rfl, by kernel_rfl, trivial⟩)
    · refine HT.cond0 rfl hb4 ?_
      refine HT.skip (qThen ?_)
      refine HT.rg2 [oH] ⟨[(0, .one (.dat .str a0)), (4, iV (0 : Int))], [], 0⟩ hX (by kernel_rfl) allNil ?_
      refine HT.seq ?_
      refine HT.rg2 [oH] ⟨[(0, .one (.dat .str a0)), (4, iV (0 : Int)), (5, iV (0 : Int))], [], 0⟩ hX (by kernel_rfl) allNil ?_
      refine HT.block ?_
      obtain ⟨r6, hL36, hr⟩ := of_bind hr
      refine HT.loopL (fun (s5 : Int × Int) => ⟨[(0, .one (.dat .str a0)), (4, iV s5.1), (5, iV s5.2)], [], 0⟩) (fun (r7 : Int) => (.exit 0, ⟨[(0, .one (.dat .str a0)), (4, iV r7)], [], 0⟩)) (Le.re [] [] hX (by kernel_rfl)) hL36 ?_ (fun s5 x22 hx23 hk24 => ?_)
      · refine (qBlockX (qThen ?_))
        obtain ⟨v8', hT10, hr⟩ := of_bind hr
        refine HT.join (fun (v8 : Int) => ⟨[(0, .one (.dat .str a0)), (4, iV v8)], [], 0⟩) (fun v => v = v8') (fun v8 hv9 => ?_) (fun cont => ?_)
        · subst hv9
          refine HT.seq ?_
          obtain ⟨v11', hT13, hr⟩ := of_bind hr
          refine HT.join (fun (v11 : Bool) => ⟨[(4, iV v8), (51, bV v11)], [], 0⟩) (fun v => v = v11') (fun v11 hv12 => ?_) (fun cont => ?_)
          · subst hv12
            rcases of_bif hr with ⟨hb14, hr⟩ | ⟨hb14, hr⟩
            · refine HT.cond1 rfl hb14 ?_
              refine HT.rg2 (oHs 2) ⟨[(2, iV (0 : Int)), (3, bV false)], [], 0⟩ hX (by kernel_rfl) allNil ?_
              have hr := of_some hr
              subst hr
              exact HT.ret (qThenR ⟨[iV (0 : Int), bV false], [], [], by kernel_rfl, by kernel_rfl, rfl, by kernel_rfl, by kernel_rfl, trivial⟩)
            · refine HT.cond0 rfl hb14 ?_
              refine HT.skip (qThen ?_)
              refine HT.rg2 (oHs 3) ⟨[(2, iV v8), (3, bV true)], [], 0⟩ hX (by kernel_rfl) allNil ?_
              have hr := of_some hr
              subst hr
              exact HT.ret ⟨[iV v8, bV true], [], [], by kernel_rfl, by kernel_rfl, rfl, by kernel_rfl, by kernel_rfl, trivial⟩
          · obtain ⟨y15, hc16, hT13⟩ := of_bind hT13
            rcases of_bif hT13 with ⟨hb17, hT13⟩ | ⟨hb17, hT13⟩
            · exact HT.rgK [oH, ⟨none, .call [.imm tI, .imm tI, .imm tI] [⟨false, .bool, y15⟩] []⟩, oH, oH, ⟨some true, .no⟩, ⟨some true, .no⟩, ⟨some true, .no⟩, ⟨some true, .no⟩, ⟨none, .tv true⟩] [] [] hX (by kernel_rfl) (allCons (f111_ok hc16) (allCons hb17 (allCons hb17 (allCons hb17 (allCons hb17 (allCons hb17 allNil)))))) (fun _ h => (qThen (h.ht (cont true (of_some hT13)))))
            · obtain ⟨y18, hc19, hT13⟩ := of_bind hT13
              exact HT.rgK [oH, ⟨none, .call [.imm tI, .imm tI, .imm tI] [⟨false, .bool, y15⟩] []⟩, oH, oH, ⟨some false, .no⟩, ⟨some false, .call [.imm tI] [⟨false, .str, y18⟩] []⟩, ⟨some false, .no⟩, ⟨some false, .no⟩, ⟨none, .tv false⟩] [] [] hX (by kernel_rfl) (allCons (f111_ok hc16) (allCons hb17 (allCons hb17 (allCons (f104_ok hc19) (allCons hb17 (allCons hb17 (allCons hb17 allNil))))))) (fun _ h => (qThen (h.ht (cont (y18 != a0) (of_some hT13)))))
        · obtain ⟨hg20, hT10⟩ := of_guard hT10
          refine HT.rg2 (oHs 3) ⟨[(0, .one (.dat .str a0)), (4, iV r6), (40, bV (((((List.getD a0 (Int.toNat (0 : Int)) 0 : UInt8).toNat : Nat)) : Int) == (45 : Int)))], [], 0⟩ hX (by kernel_rfl) (allCons hg20 allNil) ?_
          rcases of_bif hT10 with ⟨hb21, hT10⟩ | ⟨hb21, hT10⟩
          · refine HT.cond1 rfl hb21 ?_
            exact HT.rgK (oHs 3) [] [] hX (by kernel_rfl) allNil (fun _ h => (qThen (h.ht (cont (IntKind.wrap .i64 (0 - r6)) (of_some hT10)))))
          · refine HT.cond0 rfl hb21 ?_
            refine HT.skip (qThen ?_)
            exact (Le.re [] [] hX (by kernel_rfl)).ht (cont r6 (of_some hT10))
      · refine HT.seq ?_
        refine HT.rg2 (oHs 4) ⟨[(0, .one (.dat .str a0)), (4, iV s5.1), (5, iV s5.2), (17, bV (decide (s5.2 < (lenI a0))))], [], 0⟩ hX (by kernel_rfl) allNil ?_
        rcases of_bif hx23 with ⟨hb25, hx23⟩ | ⟨hb25, hx23⟩
        · refine HT.cond1 rfl hb25 ?_
          refine HT.skip (qThen ?_)
          obtain ⟨v26', hT28, hx23⟩ := of_bind hx23
          refine HT.join (fun (v26 : Int) => ⟨[(0, .one (.dat .str a0)), (4, iV v26), (5, iV s5.2)], [], 0⟩) (fun v => v = v26') (fun v26 hv27 => ?_) (fun cont => ?_)
          · subst hv27
            have hx23 := of_some hx23
            subst hx23
            exact HT.rgK (oHs 3) [] [] hX (by kernel_rfl) allNil (fun _ h => (qLoopN ⟨(v26, (wadd .i64 s5.2 (1 : Int))), rfl, h⟩))
          · refine HT.block ?_
            obtain ⟨v29', hT31, hT28⟩ := of_bind hT28
            refine HT.join (fun (v29 : Bool) => ⟨[(0, .one (.dat .str a0)), (4, iV s5.1), (5, iV s5.2), (29, bV v29)], [], 0⟩) (fun v => v = v29') (fun v29 hv30 => ?_) (fun cont => ?_)
            · subst hv30
              rcases of_bif hT28 with ⟨hb32, hT28⟩ | ⟨hb32, hT28⟩
              · refine HT.cond1 rfl hb32 ?_
                obtain ⟨hg33, hT28⟩ := of_guard hT28
                exact HT.rgK (oHs 9) [] [] hX (by kernel_rfl) (allCons hg33 allNil) (fun _ h => (qBlock (qThen (h.ht (cont (wadd .i64 (wmul .i64 (10 : Int) s5.1) (IntKind.wrap .i64 (wsub .u8 ((((List.getD a0 (Int.toNat s5.2) 0 : UInt8).toNat : Nat)) : Int) (48 : Int)))) (of_some hT28))))))
              · refine HT.cond0 rfl hb32 ?_
                refine HT.skip (qBlock (qThen ?_))
                exact (Le.re [] [] hX (by kernel_rfl)).ht (cont s5.1 (of_some hT28))
            · obtain ⟨hg34, hT31⟩ := of_guard hT31
              rcases of_bif hT31 with ⟨hb35, hT31⟩ | ⟨hb35, hT31⟩
              · exact HT.rgK [oH, oH, oH, oH, oH, ⟨some true, .no⟩, ⟨some true, .no⟩, ⟨some true, .no⟩, ⟨some true, .no⟩, ⟨none, .tv true⟩] [] [] hX (by kernel_rfl) (allCons hg34 (allCons hb35 (allCons hb35 (allCons hb35 (allCons hg34 (allCons hb35 (allCons hb35 allNil))))))) (fun _ h => (qThen (h.ht (cont (decide (((((List.getD a0 (Int.toNat s5.2) 0 : UInt8).toNat : Nat)) : Int) ≤ (57 : Int))) (of_some hT31)))))
              · exact HT.rgK [oH, oH, oH, oH, oH, ⟨some false, .no⟩, ⟨some false, .no⟩, ⟨some false, .no⟩, ⟨some false, .no⟩, ⟨none, .tv false⟩] [] [] hX (by kernel_rfl) (allCons hg34 (allCons hb35 (allCons hb35 (allCons hb35 (allCons hb35 (allCons hb35 allNil)))))) (fun _ h => (qThen (h.ht (cont false (of_some hT31)))))
        · refine HT.cond0 rfl hb25 ?_
          have hx23 := of_some hx23
          subst hx23
          exact HT.exitL (Le.re [] [] hX (by kernel_rfl)) (qThenE (qLoopE (hk24 s5.1 rfl)))
  · rcases of_bif hT3 with ⟨hb37, hT3⟩ | ⟨hb37, hT3⟩
    · exact HT.rgK [oH, oH, oH, oH, ⟨some true, .no⟩, ⟨some true, .no⟩, ⟨some true, .no⟩, ⟨none, .tv true⟩] [] [] hX (by kernel_rfl) (allCons hb37 (allCons hb37 (allCons hb37 (allCons hb37 allNil)))) (fun _ h => (qThen (h.ht (cont true (of_some hT3)))))
    · exact HT.rgK [oH, oH, oH, oH, ⟨some false, .no⟩, ⟨some false, .no⟩, ⟨some false, .no⟩, ⟨none, .tv false⟩] [] [] hX (by kernel_rfl) (allCons hb37 (allCons hb37 (allCons hb37 (allCons hb37 allNil)))) (fun _ h => (qThen (h.ht (cont (decide ((lenI a0) > (17 : Int))) (of_some hT3)))))

noncomputable def spec_l01Numbers_B1 (y2 : List (List UInt8)) (s5 : Int × List Int) : Option ((Int × List Int) ⊕ (List Int ⊕ Unit)) :=
  bif (decide (s5.1 < (lenI y2))) then
    guardP ((0 : Int) ≤ s5.1 ∧ s5.1 < lenI y2) (
      (spec_l01Value (List.getD y2 (Int.toNat s5.1) ([] : List UInt8))).bind fun y14 =>
      bif (!y14.2) then
        some (.inr (.inr ()))
      else
        guardP (List.length s5.2 + List.length ([y14.1] : List Int) ≤ appMax) (
          some (.inl ((wadd .i64 s5.1 (1 : Int)), (s5.2 ++ ([y14.1] : List Int))))))
  else
    some (.inr (.inl s5.2))

noncomputable def spec_l01Numbers (a0 : List UInt8) : Option (List Int × Bool) :=
  bif (a0 == ([110, 111, 110, 101] : List UInt8)) then
    some (([] : List Int), true)
  else
    (spec_l01Cut a0 (44 : Int)).bind fun y2 =>
    bif (decide ((lenI y2) > (64 : Int))) then
      some (([] : List Int), false)
    else
      (rounds (spec_l01Numbers_B1 y2) ((0 : Int), ([] : List Int))).bind fun r6 => match r6 with
        | .inl r7 =>
          some (r7, true)
        | .inr r8 =>
          some (([] : List Int), false)

theorem f122_ok {a0 : List UInt8} {r : List Int × Bool} (hr : spec_l01Numbers a0 = some r) : CallOK Tryd.prog 122 [.imm .str a0] [⟨true, tLI, r.1⟩, ⟨false, .bool, r.2⟩] [] := by
  unfold spec_l01Numbers at hr
  refine CallOK.of_body (ts := [(true, tLI), (false, .bool)]) Tryd.func122 rfl (by kernel_rfl) (Nat.le_of_ble_eq_true (by kernel_rfl)) fun cx hP hN hO hF => ?_
  have hO : cx.own.map Prod.fst = [] := hO
  have hX := CxIs.mk hP hN hO
  have hF := hF rfl
  show HT cx ⟨[(0, .one (.dat .str a0))], [], 0⟩ _ _
  refine HT.rg2 (oHs 2) ⟨[(0, .one (.dat .str a0))], [], 0⟩ hX (by kernel_rfl) allNil ?_
  refine HT.rg2 (oHs 2) ⟨[(0, .one (.dat .str a0)), (4, .one (.nilS))], [], 0⟩ hX (by kernel_rfl) allNil ?_
  refine HT.seq ?_
  refine HT.rg2 (oHs 2) ⟨[(0, .one (.dat .str a0)), (4, .one (.nilS)), (11, bV (a0 == ([110, 111, 110, 101] : List UInt8)))], [], 0⟩ hX (by kernel_rfl) allNil ?_
  rcases of_bif hr with ⟨hb1, hr⟩ | ⟨hb1, hr⟩
  · refine HT.cond1 rfl hb1 ?_
    refine HT.rg2 (oHs 3) ⟨[(2, .one (.nilS)), (3, bV true)], [], 0⟩ hX (by kernel_rfl) allNil ?_
    have hr := of_some hr
    subst hr
    exact HT.ret (qThenR ⟨[.one (.nilS), bV true], [], [], by kernel_rfl, by kernel_rfl, rfl, by kernel_rfl, by kernel_rfl, trivial⟩)
  · refine HT.cond0 rfl hb1 ?_
    refine HT.skip (qThen ?_)
    obtain ⟨y2, hc3, hr⟩ := of_bind hr
    refine HT.rg2 [oH, ⟨none, .call [.imm .str, .imm (.int .u8)] [⟨true, (.sl .str), y2⟩] []⟩, oH] ⟨[(4, .one (.nilS)), (5, aV 0)], [(0, .seq .str y2)], 1⟩ hX (by kernel_rfl) (allCons (f121_ok hc3) allNil) ?_
    refine HT.seq ?_
    refine HT.rg2 (oHs 3) ⟨[(4, .one (.nilS)), (5, aV 0), (17, bV (decide ((lenI y2) > (64 : Int))))], [(0, .seq .str y2)], 1⟩ hX (by kernel_rfl) allNil ?_
    rcases of_bif hr with ⟨hb4, hr⟩ | ⟨hb4, hr⟩
    · refine HT.cond1 rfl hb4 ?_
      refine HT.rg2 (oHs 2) ⟨[(2, .one (.nilS)), (3, bV false)], [], 1⟩ hX (by kernel_rfl) allNil ?_
      have hr := of_some hr
      subst hr
      exact HT.ret (qThenR ⟨[.one (.nilS), bV false], [], [], by kernel_rfl, by kernel_rfl, rfl, by kernel_rfl, by kernel_rfl, trivial⟩)
    · refine HT.cond0 rfl hb4 ?_
      refine HT.skip (qThen ?_)
      refine HT.seq ?_
      refine HT.rg2 [oH] ⟨[(4, .one (.nilS)), (5, aV 0), (6, iV (0 : Int))], [(0, .seq .str y2)], 1⟩ hX (by kernel_rfl) allNil ?_
      refine HT.block ?_
      obtain ⟨r6, hL18, hr⟩ := of_bind hr
      refine HT.loopL (fun (s5 : Int × List Int) => ⟨[(4, aV 0), (5, aV 1), (6, iV s5.1)], [(0, .seq tI s5.2), (1, .seq .str y2)], 2⟩) (fun (r6 : List Int ⊕ Unit) => match r6 with | .inl r7 => (.exit 0, ⟨[(4, aV 0)], [(0, .seq tI r7)], 1⟩) | .inr r8 => (.ret, ⟨[(2, .one (.nilS)), (3, bV false)], [], 0⟩)) (Le.re [(0, 1)] [0] hX (by kernel_rfl)) hL18 ?_ (fun s5 x9 hx10 hk11 => ?_)
      · rcases r6 with r7 | r8
        · refine (qBlockX (qThen ?_))
          refine HT.rg2 (oHs 3) ⟨[(2, aV 0), (3, bV true)], [(0, .seq tI r7)], 1⟩ hX (by kernel_rfl) allNil ?_
          have hr := of_some hr
          subst hr
          exact HT.ret ⟨[aV 0, bV true], [0], [], by kernel_rfl, by kernel_rfl, rfl, by kernel_rfl, by kernel_rfl, trivial⟩
        · have hr := of_some hr
          subst hr
          exact (qBlockR (qThenR ⟨[.one (.nilS), bV false], [], [], by kernel_rfl, by kernel_rfl, rfl, by kernel_rfl, by kernel_rfl, trivial⟩))
      · refine HT.seq ?_
        refine HT.rg2 (oHs 4) ⟨[(4, aV 0), (5, aV 1), (6, iV s5.1), (21, bV (decide (s5.1 < (lenI y2))))], [(0, .seq tI s5.2), (1, .seq .str y2)], 2⟩ hX (by kernel_rfl) allNil ?_
        rcases of_bif hx10 with ⟨hb12, hx10⟩ | ⟨hb12, hx10⟩
        · refine HT.cond1 rfl hb12 ?_
          refine HT.skip (qThen ?_)
          refine HT.seq ?_
          refine HT.block ?_
          obtain ⟨hg13, hx10⟩ := of_guard hx10
          obtain ⟨y14, hc15, hx10⟩ := of_bind hx10
          refine HT.rg2 [oH, oH, oH, oH, ⟨none, .call [.imm .str] [⟨false, tI, y14.1⟩, ⟨false, .bool, y14.2⟩] []⟩, oH, oH, oH, oH, oH] ⟨[(4, aV 0), (5, aV 1), (6, iV s5.1), (7, iV y14.1), (8, bV y14.2)], [(0, .seq tI s5.2), (1, .seq .str y2)], 2⟩ hX (by kernel_rfl) (allCons hg13 (allCons (natLt hg13) (allCons (f136_ok hc15) allNil))) ?_
          refine HT.seq ?_
          refine HT.rg2 (oHs 2) ⟨[(4, aV 0), (5, aV 1), (6, iV s5.1), (7, iV y14.1), (33, bV (!y14.2))], [(0, .seq tI s5.2), (1, .seq .str y2)], 2⟩ hX (by kernel_rfl) allNil ?_
          rcases of_bif hx10 with ⟨hb16, hx10⟩ | ⟨hb16, hx10⟩
          · refine HT.cond1 rfl hb16 ?_
            refine HT.rg2 (oHs 2) ⟨[(2, .one (.nilS)), (3, bV false)], [], 2⟩ hX (by kernel_rfl) allNil ?_
            have hx10 := of_some hx10
            subst hx10
            exact HT.retL (Le.re [] [] hX (by kernel_rfl)) (qThenR (qBlockR (qThenR (qLoopR (hk11 (.inr ()) rfl)))))
          · refine HT.cond0 rfl hb16 ?_
            refine HT.skip (qThen ?_)
            obtain ⟨hg17, hx10⟩ := of_guard hx10
            refine HT.rgL [oH, oH, ⟨none, .ty tI⟩, ⟨none, .ty tI⟩, oH] ⟨[(4, aV 3), (5, aV 1), (6, iV s5.1)], [(3, .seq tI (s5.2 ++ ([y14.1] : List Int))), (1, .seq .str y2)], 4⟩ hX (by kernel_rfl) (allCons hg17 allNil) (qBlock (qThen ?_))
            have hx10 := of_some hx10
            subst hx10
            exact HT.rgK (oHs 3) [(3, 0), (1, 1)] [] hX (by kernel_rfl) allNil (fun _ h => (qLoopN ⟨((wadd .i64 s5.1 (1 : Int)), (s5.2 ++ ([y14.1] : List Int))), rfl, h⟩))
        · refine HT.cond0 rfl hb12 ?_
          have hx10 := of_some hx10
          subst hx10
          exact HT.exitL (Le.re [(0, 0)] [] hX (by kernel_rfl)) (qThenE (qLoopE (hk11 (.inl s5.2) rfl)))

noncomputable def spec_l02Plain_B1 (a0 : Int × Int × List Int × List Bool) (s5 : Int) : Option ((Int) ⊕ (Unit ⊕ Unit)) :=
  bif (decide (s5 < (lenI a0.2.2.1))) then
    guardP ((0 : Int) ≤ s5 ∧ s5 < lenI a0.2.2.1) (
      (spec_l00In (List.getD a0.2.2.1 (Int.toNat s5) (0 : Int)) (0 : Int) (wsub .i64 a0.1 (1 : Int))).bind fun y14 =>
      bif (!y14) then
        some (.inr (.inr ()))
      else
        some (.inl (wadd .i64 s5 (1 : Int))))
  else
    some (.inr (.inl ()))

noncomputable def spec_l02Plain (a0 : Int × Int × List Int × List Bool) : Option (Bool) :=
  (show Option (Bool) from
    (spec_l00In a0.1 (1 : Int) (64 : Int)).bind fun y18 =>
    bif (!y18) then
      some true
    else
      (spec_l00In a0.2.1 (1 : Int) (4 : Int)).bind fun y21 =>
      bif (!y21) then
        some true
      else
        bif ((lenI a0.2.2.1) != (wmul .i64 a0.1 a0.2.1)) then
          some true
        else
          some ((lenI a0.2.2.2) != a0.1)).bind fun v1 =>
  bif v1 then
    some false
  else
    (rounds (spec_l02Plain_B1 a0) (0 : Int)).bind fun r6 => match r6 with
      | .inl r7 =>
        some true
      | .inr r8 =>
        some false

theorem f71_ok {a0 : Int × Int × List Int × List Bool} {r : Bool} (hr : spec_l02Plain a0 = some r) : CallOK Tryd.prog 71 [.pimm (.st (.pair tI (.pair tI (.pair tLI (.sl .bool))))) a0] [⟨false, .bool, r⟩] [] := by
  unfold spec_l02Plain at hr
  refine CallOK.of_body (ts := [(false, .bool)]) Tryd.func71 rfl (by kernel_rfl) (Nat.le_of_ble_eq_true (by kernel_rfl)) fun cx hP hN hO hF => ?_
  have hO : cx.own.map Prod.fst = [] := hO
  have hX := CxIs.mk hP hN hO
  have hF := hF rfl
  show HT cx ⟨[(0, .one (.ip (.st (.pair tI (.pair tI (.pair tLI (.sl .bool))))) a0 0))], [], 0⟩ _ _
  refine HT.rg2 [oH] ⟨[(0, .one (.ip (.st (.pair tI (.pair tI (.pair tLI (.sl .bool))))) a0 0))], [], 0⟩ hX (by kernel_rfl) allNil ?_
  refine HT.seq ?_
  obtain ⟨v1', hT3, hr⟩ := of_bind hr
  refine HT.join (fun (v1 : Bool) => ⟨[(0, .one (.ip (.st (.pair tI (.pair tI (.pair tLI (.sl .bool))))) a0 0)), (46, bV v1)], [], 0⟩) (fun v => v = v1') (fun v1 hv2 => ?_) (fun cont => ?_)
  · subst hv2
    rcases of_bif hr with ⟨hb4, hr⟩ | ⟨hb4, hr⟩
    · refine HT.cond1 rfl hb4 ?_
      refine HT.rg2 [oH] ⟨[(2, bV false)], [], 0⟩ hX (by kernel_rfl) allNil ?_
      have hr := of_some hr
      subst hr
      exact HT.ret (qThenR ⟨[bV false], [], [], by kernel_rfl, by kernel_rfl, rfl, by kernel_rfl, by kernel_rfl, trivial⟩)
    · refine HT.cond0 rfl hb4 ?_
      refine HT.skip (qThen ?_)
      refine HT.seq ?_
      refine HT.rg2 [oH] ⟨[(0, .one (.ip (.st (.pair tI (.pair tI (.pair tLI (.sl .bool))))) a0 0)), (3, iV (0 : Int))], [], 0⟩ hX (by kernel_rfl) allNil ?_
      refine HT.block ?_
      obtain ⟨r6, hL17, hr⟩ := of_bind hr
      refine HT.loopL (fun (s5 : Int) => ⟨[(0, .one (.ip (.st (.pair tI (.pair tI (.pair tLI (.sl .bool))))) a0 0)), (3, iV s5)], [], 0⟩) (fun (r6 : Unit ⊕ Unit) => match r6 with | .inl r7 => (.exit 0, ⟨[], [], 0⟩) | .inr r8 => (.ret, ⟨[(2, bV false)], [], 0⟩)) (Le.re [] [] hX (by kernel_rfl)) hL17 ?_ (fun s5 x9 hx10 hk11 => ?_)
      · rcases r6 with r7 | r8
        · refine (qBlockX (qThen ?_))
          refine HT.rg2 [oH] ⟨[(2, bV true)], [], 0⟩ hX (by kernel_rfl) allNil ?_
          have hr := of_some hr
          subst hr
          exact HT.ret ⟨[bV true], [], [], by kernel_rfl, by kernel_rfl, rfl, by kernel_rfl, by kernel_rfl, trivial⟩
        · have hr := of_some hr
          subst hr
          exact (qBlockR (qThenR ⟨[bV false], [], [], by kernel_rfl, by kernel_rfl, rfl, by kernel_rfl, by kernel_rfl, trivial⟩))
      · refine HT.seq ?_
        refine HT.rg2 (oHs 7) ⟨[(0, .one (.ip (.st (.pair tI (.pair tI (.pair tLI (.sl .bool))))) a0 0)), (3, iV s5), (53, bV (decide (s5 < (lenI a0.2.2.1))))], [], 0⟩ hX (by kernel_rfl) allNil ?_
        rcases of_bif hx10 with ⟨hb12, hx10⟩ | ⟨hb12, hx10⟩
        · refine HT.cond1 rfl hb12 ?_
          refine HT.skip (qThen ?_)
          refine HT.seq ?_
          refine HT.block ?_
          obtain ⟨hg13, hx10⟩ := of_guard hx10
          obtain ⟨y14, hc15, hx10⟩ := of_bind hx10
          refine HT.dr2 12 [⟨oH, []⟩, ⟨oH, [0]⟩, ⟨oH, [0, 1]⟩, ⟨oH, [0, 1, 2]⟩, ⟨oH, []⟩, ⟨oH, [0, 1, 2, 3, 4]⟩, ⟨oH, [0, 1, 2, 3, 4, 5]⟩, ⟨oH, []⟩, ⟨oH, [7]⟩, ⟨oH, [7, 8]⟩, ⟨oH, [7, 8, 9]⟩, ⟨oH, [7, 8, 9, 10]⟩] [[0, 1, 2, 3, 4, 5, 6, 7, 8, 9, 10, 11], [0, 1, 2, 3, 4, 5, 6, 7, 8, 9, 10, 11, 12]] [⟨none, .call [.imm tI, .imm tI, .imm tI] [⟨false, .bool, y14⟩] []⟩, oH] ⟨[(0, .one (.ip (.st (.pair tI (.pair tI (.pair tLI (.sl .bool))))) a0 0)), (3, iV s5), (69, bV (!y14))], [], 0⟩ hX (by kernel_rfl) (by kernel_rfl) (allCons hg13 (allCons (f111_ok hc15) allNil)) ?_
          rcases of_bif hx10 with ⟨hb16, hx10⟩ | ⟨hb16, hx10⟩
          · refine HT.cond1 rfl hb16 ?_
            refine HT.rg2 [oH] ⟨[(2, bV false)], [], 0⟩ hX (by kernel_rfl) allNil ?_
            have hx10 := of_some hx10
            subst hx10
            exact HT.retL (Le.re [] [] hX (by kernel_rfl)) (qBlockR (qThenR (qLoopR (hk11 (.inr ()) rfl))))
          · refine HT.cond0 rfl hb16 ?_
            refine HT.skip (qBlock (qThen ?_))
            have hx10 := of_some hx10
            subst hx10
            exact HT.rgK (oHs 3) [] [] hX (by kernel_rfl) allNil (fun _ h => (qLoopN ⟨(wadd .i64 s5 (1 : Int)), rfl, h⟩))
        · refine HT.cond0 rfl hb12 ?_
          have hx10 := of_some hx10
          subst hx10
          exact HT.exitL (Le.re [] [] hX (by kernel_rfl)) (qThenE (qLoopE (hk11 (.inl ()) rfl)))
  · obtain ⟨y18, hc19, hT3⟩ := of_bind hT3
    rcases of_bif hT3 with ⟨hb20, hT3⟩ | ⟨hb20, hT3⟩
    · exact HT.drK 41 [⟨oH, []⟩, ⟨oH, [0]⟩, ⟨oH, [0, 1]⟩, ⟨oH, [0, 1, 2]⟩, ⟨⟨none, .call [.imm tI, .imm tI, .imm tI] [⟨false, .bool, y18⟩] []⟩, [0, 1, 2, 3]⟩, ⟨oH, [0, 1, 2, 3, 4]⟩, ⟨oH, [0, 1, 2, 3, 4, 5]⟩, ⟨⟨some true, .no⟩, [0, 1, 2, 3, 4, 5, 6]⟩, ⟨⟨some true, .no⟩, [0, 1, 2, 3, 4, 5, 6, 7]⟩, ⟨⟨some true, .no⟩, [0, 1, 2, 3, 4, 5, 6, 7, 8]⟩, ⟨⟨some true, .no⟩, [0, 1, 2, 3, 4, 5, 6, 7, 8, 9]⟩, ⟨⟨some true, .no⟩, [0, 1, 2, 3, 4, 5, 6, 7, 8, 9, 10]⟩, ⟨⟨some true, .no⟩, [0, 1, 2, 3, 4, 5, 6, 7, 8, 9, 10, 11]⟩, ⟨⟨none, .tv true⟩, [0, 1, 2, 3, 4, 5, 6, 7, 8, 9, 10, 11, 12]⟩, ⟨oH, [0, 1, 2, 3, 4, 5, 6, 7, 8, 9, 10, 11, 12, 13]⟩, ⟨⟨some true, .no⟩, [0, 1, 2, 3, 4, 5, 6, 7, 8, 9, 10, 11, 12, 13, 14]⟩, ⟨⟨some true, .no⟩, [0, 1, 2, 3, 4, 5, 6, 7, 8, 9, 10, 11, 12, 13, 14, 15]⟩, ⟨⟨some true, .no⟩, [0, 1, 2, 3, 4, 5, 6, 7, 8, 9, 10, 11, 12, 13, 14, 15, 16]⟩, ⟨⟨some true, .no⟩, [0, 1, 2, 3, 4, 5, 6, 7, 8, 9, 10, 11, 12, 13, 14, 15, 16, 17]⟩, ⟨⟨some true, .no⟩, [0, 1, 2, 3, 4, 5, 6, 7, 8, 9, 10, 11, 12, 13, 14, 15, 16, 17, 18]⟩, ⟨⟨some true, .no⟩, [0, 1, 2, 3, 4, 5, 6, 7, 8, 9, 10, 11, 12, 13, 14]⟩, ⟨⟨some true, .no⟩, [0, 1, 2, 3, 4, 5, 6, 7, 8, 9, 10, 11, 12, 13, 14, 20]⟩, ⟨⟨some true, .no⟩, [0, 1, 2, 3, 4, 5, 6, 7, 8, 9, 10, 11, 12, 13, 14, 20, 21]⟩, ⟨⟨some true, .no⟩, [0, 1, 2, 3, 4, 5, 6, 7, 8, 9, 10, 11, 12, 13, 14, 20, 21, 22]⟩, ⟨⟨some true, .no⟩, [0, 1, 2, 3, 4, 5, 6, 7, 8, 9, 10, 11, 12, 13, 14]⟩, ⟨⟨some true, .no⟩, [0, 1, 2, 3, 4, 5, 6, 7, 8, 9, 10, 11, 12, 13, 14, 24]⟩, ⟨⟨some true, .no⟩, [0, 1, 2, 3, 4, 5, 6, 7, 8, 9, 10, 11, 12, 13, 14, 24, 25]⟩, ⟨⟨some true, .no⟩, [0, 1, 2, 3, 4, 5, 6, 7, 8, 9, 10, 11, 12, 13, 14, 24, 25, 26]⟩, ⟨⟨some true, .no⟩, [0, 1, 2, 3, 4, 5, 6, 7, 8, 9, 10, 11, 12, 13, 14, 20, 21, 22, 23, 24, 25, 26, 27]⟩, ⟨⟨some true, .no⟩, [0, 1, 2, 3, 4, 5, 6, 7, 8, 9, 10, 11, 12, 13, 14, 15, 16, 17, 18, 19, 20, 21, 22, 23, 24, 25, 26, 27, 28]⟩, ⟨⟨none, .tv true⟩, [0, 1, 2, 3, 4, 5, 6, 7, 8, 9, 10, 11, 12, 13, 14, 15, 16, 17, 18, 19, 20, 21, 22, 23, 24, 25, 26, 27, 28, 29]⟩, ⟨oH, [0, 1, 2, 3, 4, 5, 6, 7, 8, 9, 10, 11, 12, 13, 14, 15, 16, 17, 18, 19, 20, 21, 22, 23, 24, 25, 26, 27, 28, 29, 30]⟩, ⟨⟨some true, .no⟩, [0, 1, 2, 3, 4, 5, 6, 7, 8, 9, 10, 11, 12, 13, 14, 15, 16, 17, 18, 19, 20, 21, 22, 23, 24, 25, 26, 27, 28, 29, 30, 31]⟩, ⟨⟨some true, .no⟩, [0, 1, 2, 3, 4, 5, 6, 7, 8, 9, 10, 11, 12, 13, 14, 15, 16, 17, 18, 19, 20, 21, 22, 23, 24, 25, 26, 27, 28, 29, 30, 31, 32]⟩, ⟨⟨some true, .no⟩, [0, 1, 2, 3, 4, 5, 6, 7, 8, 9, 10, 11, 12, 13, 14, 15, 16, 17, 18, 19, 20, 21, 22, 23, 24, 25, 26, 27, 28, 29, 30, 31, 32, 33]⟩, ⟨⟨some true, .no⟩, [0, 1, 2, 3, 4, 5, 6, 7, 8, 9, 10, 11, 12, 13, 14, 15, 16, 17, 18, 19, 20, 21, 22, 23, 24, 25, 26, 27, 28, 29, 30, 31, 32, 33, 34]⟩, ⟨⟨some true, .no⟩, [0, 1, 2, 3, 4, 5, 6, 7, 8, 9, 10, 11, 12, 13, 14, 15, 16, 17, 18, 19, 20, 21, 22, 23, 24, 25, 26, 27, 28, 29, 30, 31, 32, 33, 34, 35]⟩, ⟨⟨some true, .no⟩, [0, 1, 2, 3, 4, 5, 6, 7, 8, 9, 10, 11, 12, 13, 14, 15, 16, 17, 18, 19, 20, 21, 22, 23, 24, 25, 26, 27, 28, 29, 30, 31]⟩, ⟨⟨some true, .no⟩, [0, 1, 2, 3, 4, 5, 6, 7, 8, 9, 10, 11, 12, 13, 14, 15, 16, 17, 18, 19, 20, 21, 22, 23, 24, 25, 26, 27, 28, 29, 30, 31, 37]⟩, ⟨⟨some true, .no⟩, [0, 1, 2, 3, 4, 5, 6, 7, 8, 9, 10, 11, 12, 13, 14, 15, 16, 17, 18, 19, 20, 21, 22, 23, 24, 25, 26, 27, 28, 29, 30, 31, 37, 38]⟩, ⟨⟨some true, .no⟩, [0, 1, 2, 3, 4, 5, 6, 7, 8, 9, 10, 11, 12, 13, 14, 15, 16, 17, 18, 19, 20, 21, 22, 23, 24, 25, 26, 27, 28, 29, 30, 31, 37, 38, 39]⟩] [[0, 1, 2, 3, 4, 5, 6, 7, 8, 9, 10, 11, 12, 13, 14, 15, 16, 17, 18, 19, 20, 21, 22, 23, 24, 25, 26, 27, 28, 29, 30, 31, 32, 33, 34, 35, 36, 37, 38, 39, 40], [0, 1, 2, 3, 4, 5, 6, 7, 8, 9, 10, 11, 12, 13, 14, 15, 16, 17, 18, 19, 20, 21, 22, 23, 24, 25, 26, 27, 28, 29, 30, 31, 32, 33, 34, 35, 36, 37, 38, 39, 40, 41]] [⟨some true, .no⟩, ⟨none, .tv true⟩] [] [] hX (by kernel_rfl) (by kernel_rfl) (allCons (f111_ok hc19) (allCons hb20 (allCons hb20 (allCons hb20 (allCons hb20 (allCons hb20 (allCons hb20 (allCons hb20 (allCons (rfl : true = true) (allCons (rfl : true = true) (allCons (rfl : true = true) (allCons (rfl : true = true) (allCons (rfl : true = true) (allCons (rfl : true = true) (allCons (rfl : true = true) (allCons (rfl : true = true) (allCons (rfl : true = true) (allCons (rfl : true = true) (allCons (rfl : true = true) (allCons (rfl : true = true) (allCons (rfl : true = true) (allCons (rfl : true = true) (allCons (rfl : true = true) (allCons (rfl : true = true) (allCons (rfl : true = true) (allCons (rfl : true = true) (allCons (rfl : true = true) (allCons (rfl : true = true) (allCons (rfl : true = true) (allCons (rfl : true = true) (allCons (rfl : true = true) (allCons (rfl : true = true) (allCons (rfl : true = true) (allCons (rfl : true = true) (allCons (rfl : true = true) allNil))))))))))))))))))))))))))))))))))) (fun _ h => (qThen (h.ht (cont true (of_some hT3)))))
    · obtain ⟨y21, hc22, hT3⟩ := of_bind hT3
      rcases of_bif hT3 with ⟨hb23, hT3⟩ | ⟨hb23, hT3⟩
      · exact HT.drK 41 [⟨oH, []⟩, ⟨oH, [0]⟩, ⟨oH, [0, 1]⟩, ⟨oH, [0, 1, 2]⟩, ⟨⟨none, .call [.imm tI, .imm tI, .imm tI] [⟨false, .bool, y18⟩] []⟩, [0, 1, 2, 3]⟩, ⟨oH, [0, 1, 2, 3, 4]⟩, ⟨oH, [0, 1, 2, 3, 4, 5]⟩, ⟨⟨some false, .no⟩, [0, 1, 2, 3, 4, 5, 6]⟩, ⟨⟨some false, .no⟩, [0, 1, 2, 3, 4, 5, 6, 7]⟩, ⟨⟨some false, .no⟩, [0, 1, 2, 3, 4, 5, 6, 7, 8]⟩, ⟨⟨some false, .no⟩, [0, 1, 2, 3, 4, 5, 6, 7, 8, 9]⟩, ⟨⟨some false, .call [.imm tI, .imm tI, .imm tI] [⟨false, .bool, y21⟩] []⟩, [0, 1, 2, 3, 4, 5, 6, 7, 8, 9, 10]⟩, ⟨⟨some false, .no⟩, [0, 1, 2, 3, 4, 5, 6, 7, 8, 9, 10, 11]⟩, ⟨⟨none, .tv false⟩, [0, 1, 2, 3, 4, 5, 6, 7, 8, 9, 10, 11, 12]⟩, ⟨oH, [0, 1, 2, 3, 4, 5, 6, 7, 8, 9, 10, 11, 12, 13]⟩, ⟨⟨some true, .no⟩, [0, 1, 2, 3, 4, 5, 6, 7, 8, 9, 10, 11, 12, 13, 14]⟩, ⟨⟨some true, .no⟩, [0, 1, 2, 3, 4, 5, 6, 7, 8, 9, 10, 11, 12, 13, 14, 15]⟩, ⟨⟨some true, .no⟩, [0, 1, 2, 3, 4, 5, 6, 7, 8, 9, 10, 11, 12, 13, 14, 15, 16]⟩, ⟨⟨some true, .no⟩, [0, 1, 2, 3, 4, 5, 6, 7, 8, 9, 10, 11, 12, 13, 14, 15, 16, 17]⟩, ⟨⟨some true, .no⟩, [0, 1, 2, 3, 4, 5, 6, 7, 8, 9, 10, 11, 12, 13, 14, 15, 16, 17, 18]⟩, ⟨⟨some true, .no⟩, [0, 1, 2, 3, 4, 5, 6, 7, 8, 9, 10, 11, 12, 13, 14]⟩, ⟨⟨some true, .no⟩, [0, 1, 2, 3, 4, 5, 6, 7, 8, 9, 10, 11, 12, 13, 14, 20]⟩, ⟨⟨some true, .no⟩, [0, 1, 2, 3, 4, 5, 6, 7, 8, 9, 10, 11, 12, 13, 14, 20, 21]⟩, ⟨⟨some true, .no⟩, [0, 1, 2, 3, 4, 5, 6, 7, 8, 9, 10, 11, 12, 13, 14, 20, 21, 22]⟩, ⟨⟨some true, .no⟩, [0, 1, 2, 3, 4, 5, 6, 7, 8, 9, 10, 11, 12, 13, 14]⟩, ⟨⟨some true, .no⟩, [0, 1, 2, 3, 4, 5, 6, 7, 8, 9, 10, 11, 12, 13, 14, 24]⟩, ⟨⟨some true, .no⟩, [0, 1, 2, 3, 4, 5, 6, 7, 8, 9, 10, 11, 12, 13, 14, 24, 25]⟩, ⟨⟨some true, .no⟩, [0, 1, 2, 3, 4, 5, 6, 7, 8, 9, 10, 11, 12, 13, 14, 24, 25, 26]⟩, ⟨⟨some true, .no⟩, [0, 1, 2, 3, 4, 5, 6, 7, 8, 9, 10, 11, 12, 13, 14, 20, 21, 22, 23, 24, 25, 26, 27]⟩, ⟨⟨some true, .no⟩, [0, 1, 2, 3, 4, 5, 6, 7, 8, 9, 10, 11, 12, 13, 14, 15, 16, 17, 18, 19, 20, 21, 22, 23, 24, 25, 26, 27, 28]⟩, ⟨⟨none, .tv true⟩, [0, 1, 2, 3, 4, 5, 6, 7, 8, 9, 10, 11, 12, 13, 14, 15, 16, 17, 18, 19, 20, 21, 22, 23, 24, 25, 26, 27, 28, 29]⟩, ⟨oH, [0, 1, 2, 3, 4, 5, 6, 7, 8, 9, 10, 11, 12, 13, 14, 15, 16, 17, 18, 19, 20, 21, 22, 23, 24, 25, 26, 27, 28, 29, 30]⟩, ⟨⟨some true, .no⟩, [0, 1, 2, 3, 4, 5, 6, 7, 8, 9, 10, 11, 12, 13, 14, 15, 16, 17, 18, 19, 20, 21, 22, 23, 24, 25, 26, 27, 28, 29, 30, 31]⟩, ⟨⟨some true, .no⟩, [0, 1, 2, 3, 4, 5, 6, 7, 8, 9, 10, 11, 12, 13, 14, 15, 16, 17, 18, 19, 20, 21, 22, 23, 24, 25, 26, 27, 28, 29, 30, 31, 32]⟩, ⟨⟨some true, .no⟩, [0, 1, 2, 3, 4, 5, 6, 7, 8, 9, 10, 11, 12, 13, 14, 15, 16, 17, 18, 19, 20, 21, 22, 23, 24, 25, 26, 27, 28, 29, 30, 31, 32, 33]⟩, ⟨⟨some true, .no⟩, [0, 1, 2, 3, 4, 5, 6, 7, 8, 9, 10, 11, 12, 13, 14, 15, 16, 17, 18, 19, 20, 21, 22, 23, 24, 25, 26, 27, 28, 29, 30, 31, 32, 33, 34]⟩, ⟨⟨some true, .no⟩, [0, 1, 2, 3, 4, 5, 6, 7, 8, 9, 10, 11, 12, 13, 14, 15, 16, 17, 18, 19, 20, 21, 22, 23, 24, 25, 26, 27, 28, 29, 30, 31, 32, 33, 34, 35]⟩, ⟨⟨some true, .no⟩, [0, 1, 2, 3, 4, 5, 6, 7, 8, 9, 10, 11, 12, 13, 14, 15, 16, 17, 18, 19, 20, 21, 22, 23, 24, 25, 26, 27, 28, 29, 30, 31]⟩, ⟨⟨some true, .no⟩, [0, 1, 2, 3, 4, 5, 6, 7, 8, 9, 10, 11, 12, 13, 14, 15, 16, 17, 18, 19, 20, 21, 22, 23, 24, 25, 26, 27, 28, 29, 30, 31, 37]⟩, ⟨⟨some true, .no⟩, [0, 1, 2, 3, 4, 5, 6, 7, 8, 9, 10, 11, 12, 13, 14, 15, 16, 17, 18, 19, 20, 21, 22, 23, 24, 25, 26, 27, 28, 29, 30, 31, 37, 38]⟩, ⟨⟨some true, .no⟩, [0, 1, 2, 3, 4, 5, 6, 7, 8, 9, 10, 11, 12, 13, 14, 15, 16, 17, 18, 19, 20, 21, 22, 23, 24, 25, 26, 27, 28, 29, 30, 31, 37, 38, 39]⟩] [[0, 1, 2, 3, 4, 5, 6, 7, 8, 9, 10, 11, 12, 13, 14, 15, 16, 17, 18, 19, 20, 21, 22, 23, 24, 25, 26, 27, 28, 29, 30, 31, 32, 33, 34, 35, 36, 37, 38, 39, 40], [0, 1, 2, 3, 4, 5, 6, 7, 8, 9, 10, 11, 12, 13, 14, 15, 16, 17, 18, 19, 20, 21, 22, 23, 24, 25, 26, 27, 28, 29, 30, 31, 32, 33, 34, 35, 36, 37, 38, 39, 40, 41]] [⟨some true, .no⟩, ⟨none, .tv true⟩] [] [] hX (by kernel_rfl) (by kernel_rfl) (allCons (f111_ok hc19) (allCons hb20 (allCons hb20 (allCons hb20 (allCons hb20 (allCons hb20 (allCons (f111_ok hc22) (allCons hb20 (allCons hb20 (allCons hb23 (allCons hb23 (allCons hb23 (allCons hb23 (allCons hb23 (allCons hb23 (allCons hb23 (allCons hb23 (allCons hb23 (allCons hb23 (allCons hb23 (allCons hb23 (allCons hb23 (allCons hb23 (allCons hb23 (allCons hb23 (allCons (rfl : true = true) (allCons (rfl : true = true) (allCons (rfl : true = true) (allCons (rfl : true = true) (allCons (rfl : true = true) (allCons (rfl : true = true) (allCons (rfl : true = true) (allCons (rfl : true = true) (allCons (rfl : true = true) (allCons (rfl : true = true) (allCons (rfl : true = true) allNil)))))))))))))))))))))))))))))))))))) (fun _ h => (qThen (h.ht (cont true (of_some hT3)))))
      · rcases of_bif hT3 with ⟨hb24, hT3⟩ | ⟨hb24, hT3⟩
        · exact HT.drK 41 [⟨oH, []⟩, ⟨oH, [0]⟩, ⟨oH, [0, 1]⟩, ⟨oH, [0, 1, 2]⟩, ⟨⟨none, .call [.imm tI, .imm tI, .imm tI] [⟨false, .bool, y18⟩] []⟩, [0, 1, 2, 3]⟩, ⟨oH, [0, 1, 2, 3, 4]⟩, ⟨oH, [0, 1, 2, 3, 4, 5]⟩, ⟨⟨some false, .no⟩, [0, 1, 2, 3, 4, 5, 6]⟩, ⟨⟨some false, .no⟩, [0, 1, 2, 3, 4, 5, 6, 7]⟩, ⟨⟨some false, .no⟩, [0, 1, 2, 3, 4, 5, 6, 7, 8]⟩, ⟨⟨some false, .no⟩, [0, 1, 2, 3, 4, 5, 6, 7, 8, 9]⟩, ⟨⟨some false, .call [.imm tI, .imm tI, .imm tI] [⟨false, .bool, y21⟩] []⟩, [0, 1, 2, 3, 4, 5, 6, 7, 8, 9, 10]⟩, ⟨⟨some false, .no⟩, [0, 1, 2, 3, 4, 5, 6, 7, 8, 9, 10, 11]⟩, ⟨⟨none, .tv false⟩, [0, 1, 2, 3, 4, 5, 6, 7, 8, 9, 10, 11, 12]⟩, ⟨oH, [0, 1, 2, 3, 4, 5, 6, 7, 8, 9, 10, 11, 12, 13]⟩, ⟨⟨some false, .no⟩, [0, 1, 2, 3, 4, 5, 6, 7, 8, 9, 10, 11, 12, 13, 14]⟩, ⟨⟨some false, .no⟩, [0, 1, 2, 3, 4, 5, 6, 7, 8, 9, 10, 11, 12, 13, 14, 15]⟩, ⟨⟨some false, .no⟩, [0, 1, 2, 3, 4, 5, 6, 7, 8, 9, 10, 11, 12, 13, 14, 15, 16]⟩, ⟨⟨some false, .no⟩, [0, 1, 2, 3, 4, 5, 6, 7, 8, 9, 10, 11, 12, 13, 14, 15, 16, 17]⟩, ⟨⟨some false, .no⟩, [0, 1, 2, 3, 4, 5, 6, 7, 8, 9, 10, 11, 12, 13, 14, 15, 16, 17, 18]⟩, ⟨⟨some false, .no⟩, [0, 1, 2, 3, 4, 5, 6, 7, 8, 9, 10, 11, 12, 13, 14]⟩, ⟨⟨some false, .no⟩, [0, 1, 2, 3, 4, 5, 6, 7, 8, 9, 10, 11, 12, 13, 14, 20]⟩, ⟨⟨some false, .no⟩, [0, 1, 2, 3, 4, 5, 6, 7, 8, 9, 10, 11, 12, 13, 14, 20, 21]⟩, ⟨⟨some false, .no⟩, [0, 1, 2, 3, 4, 5, 6, 7, 8, 9, 10, 11, 12, 13, 14, 20, 21, 22]⟩, ⟨⟨some false, .no⟩, [0, 1, 2, 3, 4, 5, 6, 7, 8, 9, 10, 11, 12, 13, 14]⟩, ⟨⟨some false, .no⟩, [0, 1, 2, 3, 4, 5, 6, 7, 8, 9, 10, 11, 12, 13, 14, 24]⟩, ⟨⟨some false, .no⟩, [0, 1, 2, 3, 4, 5, 6, 7, 8, 9, 10, 11, 12, 13, 14, 24, 25]⟩, ⟨⟨some false, .no⟩, [0, 1, 2, 3, 4, 5, 6, 7, 8, 9, 10, 11, 12, 13, 14, 24, 25, 26]⟩, ⟨⟨some false, .no⟩, [0, 1, 2, 3, 4, 5, 6, 7, 8, 9, 10, 11, 12, 13, 14, 20, 21, 22, 23, 24, 25, 26, 27]⟩, ⟨⟨some false, .no⟩, [0, 1, 2, 3, 4, 5, 6, 7, 8, 9, 10, 11, 12, 13, 14, 15, 16, 17, 18, 19, 20, 21, 22, 23, 24, 25, 26, 27, 28]⟩, ⟨⟨none, .tv false⟩, [0, 1, 2, 3, 4, 5, 6, 7, 8, 9, 10, 11, 12, 13, 14, 15, 16, 17, 18, 19, 20, 21, 22, 23, 24, 25, 26, 27, 28, 29]⟩, ⟨oH, [0, 1, 2, 3, 4, 5, 6, 7, 8, 9, 10, 11, 12, 13, 14, 15, 16, 17, 18, 19, 20, 21, 22, 23, 24, 25, 26, 27, 28, 29, 30]⟩, ⟨⟨some true, .no⟩, [0, 1, 2, 3, 4, 5, 6, 7, 8, 9, 10, 11, 12, 13, 14, 15, 16, 17, 18, 19, 20, 21, 22, 23, 24, 25, 26, 27, 28, 29, 30, 31]⟩, ⟨⟨some true, .no⟩, [0, 1, 2, 3, 4, 5, 6, 7, 8, 9, 10, 11, 12, 13, 14, 15, 16, 17, 18, 19, 20, 21, 22, 23, 24, 25, 26, 27, 28, 29, 30, 31, 32]⟩, ⟨⟨some true, .no⟩, [0, 1, 2, 3, 4, 5, 6, 7, 8, 9, 10, 11, 12, 13, 14, 15, 16, 17, 18, 19, 20, 21, 22, 23, 24, 25, 26, 27, 28, 29, 30, 31, 32, 33]⟩, ⟨⟨some true, .no⟩, [0, 1, 2, 3, 4, 5, 6, 7, 8, 9, 10, 11, 12, 13, 14, 15, 16, 17, 18, 19, 20, 21, 22, 23, 24, 25, 26, 27, 28, 29, 30, 31, 32, 33, 34]⟩, ⟨⟨some true, .no⟩, [0, 1, 2, 3, 4, 5, 6, 7, 8, 9, 10, 11, 12, 13, 14, 15, 16, 17, 18, 19, 20, 21, 22, 23, 24, 25, 26, 27, 28, 29, 30, 31, 32, 33, 34, 35]⟩, ⟨⟨some true, .no⟩, [0, 1, 2, 3, 4, 5, 6, 7, 8, 9, 10, 11, 12, 13, 14, 15, 16, 17, 18, 19, 20, 21, 22, 23, 24, 25, 26, 27, 28, 29, 30, 31]⟩, ⟨⟨some true, .no⟩, [0, 1, 2, 3, 4, 5, 6, 7, 8, 9, 10, 11, 12, 13, 14, 15, 16, 17, 18, 19, 20, 21, 22, 23, 24, 25, 26, 27, 28, 29, 30, 31, 37]⟩, ⟨⟨some true, .no⟩, [0, 1, 2, 3, 4, 5, 6, 7, 8, 9, 10, 11, 12, 13, 14, 15, 16, 17, 18, 19, 20, 21, 22, 23, 24, 25, 26, 27, 28, 29, 30, 31, 37, 38]⟩, ⟨⟨some true, .no⟩, [0, 1, 2, 3, 4, 5, 6, 7, 8, 9, 10, 11, 12, 13, 14, 15, 16, 17, 18, 19, 20, 21, 22, 23, 24, 25, 26, 27, 28, 29, 30, 31, 37, 38, 39]⟩] [[0, 1, 2, 3, 4, 5, 6, 7, 8, 9, 10, 11, 12, 13, 14, 15, 16, 17, 18, 19, 20, 21, 22, 23, 24, 25, 26, 27, 28, 29, 30, 31, 32, 33, 34, 35, 36, 37, 38, 39, 40], [0, 1, 2, 3, 4, 5, 6, 7, 8, 9, 10, 11, 12, 13, 14, 15, 16, 17, 18, 19, 20, 21, 22, 23, 24, 25, 26, 27, 28, 29, 30, 31, 32, 33, 34, 35, 36, 37, 38, 39, 40, 41]] [⟨some true, .no⟩, ⟨none, .tv true⟩] [] [] hX (by kernel_rfl) (by kernel_rfl) (allCons (f111_ok hc19) (allCons hb20 (allCons hb20 (allCons hb20 (allCons hb20 (allCons hb20 (allCons (f111_ok hc22) (allCons hb20 (allCons hb20 (allCons hb23 (allCons hb23 (allCons hb23 (allCons hb23 (allCons hb23 (allCons hb23 (allCons hb23 (allCons hb23 (allCons hb23 (allCons hb23 (allCons hb23 (allCons hb23 (allCons hb23 (allCons hb23 (allCons hb23 (allCons hb23 (allCons hb24 (allCons hb24 (allCons hb24 (allCons hb24 (allCons hb24 (allCons hb24 (allCons hb24 (allCons hb24 (allCons hb24 (allCons hb24 (allCons hb24 allNil)))))))))))))))))))))))))))))))))))) (fun _ h => (qThen (h.ht (cont true (of_some hT3)))))
        · exact HT.drK 41 [⟨oH, []⟩, ⟨oH, [0]⟩, ⟨oH, [0, 1]⟩, ⟨oH, [0, 1, 2]⟩, ⟨⟨none, .call [.imm tI, .imm tI, .imm tI] [⟨false, .bool, y18⟩] []⟩, [0, 1, 2, 3]⟩, ⟨oH, [0, 1, 2, 3, 4]⟩, ⟨oH, [0, 1, 2, 3, 4, 5]⟩, ⟨⟨some false, .no⟩, [0, 1, 2, 3, 4, 5, 6]⟩, ⟨⟨some false, .no⟩, [0, 1, 2, 3, 4, 5, 6, 7]⟩, ⟨⟨some false, .no⟩, [0, 1, 2, 3, 4, 5, 6, 7, 8]⟩, ⟨⟨some false, .no⟩, [0, 1, 2, 3, 4, 5, 6, 7, 8, 9]⟩, ⟨⟨some false, .call [.imm tI, .imm tI, .imm tI] [⟨false, .bool, y21⟩] []⟩, [0, 1, 2, 3, 4, 5, 6, 7, 8, 9, 10]⟩, ⟨⟨some false, .no⟩, [0, 1, 2, 3, 4, 5, 6, 7, 8, 9, 10, 11]⟩, ⟨⟨none, .tv false⟩, [0, 1, 2, 3, 4, 5, 6, 7, 8, 9, 10, 11, 12]⟩, ⟨oH, [0, 1, 2, 3, 4, 5, 6, 7, 8, 9, 10, 11, 12, 13]⟩, ⟨⟨some false, .no⟩, [0, 1, 2, 3, 4, 5, 6, 7, 8, 9, 10, 11, 12, 13, 14]⟩, ⟨⟨some false, .no⟩, [0, 1, 2, 3, 4, 5, 6, 7, 8, 9, 10, 11, 12, 13, 14, 15]⟩, ⟨⟨some false, .no⟩, [0, 1, 2, 3, 4, 5, 6, 7, 8, 9, 10, 11, 12, 13, 14, 15, 16]⟩, ⟨⟨some false, .no⟩, [0, 1, 2, 3, 4, 5, 6, 7, 8, 9, 10, 11, 12, 13, 14, 15, 16, 17]⟩, ⟨⟨some false, .no⟩, [0, 1, 2, 3, 4, 5, 6, 7, 8, 9, 10, 11, 12, 13, 14, 15, 16, 17, 18]⟩, ⟨⟨some false, .no⟩, [0, 1, 2, 3, 4, 5, 6, 7, 8, 9, 10, 11, 12, 13, 14]⟩, ⟨⟨some false, .no⟩, [0, 1, 2, 3, 4, 5, 6, 7, 8, 9, 10, 11, 12, 13, 14, 20]⟩, ⟨⟨some false, .no⟩, [0, 1, 2, 3, 4, 5, 6, 7, 8, 9, 10, 11, 12, 13, 14, 20, 21]⟩, ⟨⟨some false, .no⟩, [0, 1, 2, 3, 4, 5, 6, 7, 8, 9, 10, 11, 12, 13, 14, 20, 21, 22]⟩, ⟨⟨some false, .no⟩, [0, 1, 2, 3, 4, 5, 6, 7, 8, 9, 10, 11, 12, 13, 14]⟩, ⟨⟨some false, .no⟩, [0, 1, 2, 3, 4, 5, 6, 7, 8, 9, 10, 11, 12, 13, 14, 24]⟩, ⟨⟨some false, .no⟩, [0, 1, 2, 3, 4, 5, 6, 7, 8, 9, 10, 11, 12, 13, 14, 24, 25]⟩, ⟨⟨some false, .no⟩, [0, 1, 2, 3, 4, 5, 6, 7, 8, 9, 10, 11, 12, 13, 14, 24, 25, 26]⟩, ⟨⟨some false, .no⟩, [0, 1, 2, 3, 4, 5, 6, 7, 8, 9, 10, 11, 12, 13, 14, 20, 21, 22, 23, 24, 25, 26, 27]⟩, ⟨⟨some false, .no⟩, [0, 1, 2, 3, 4, 5, 6, 7, 8, 9, 10, 11, 12, 13, 14, 15, 16, 17, 18, 19, 20, 21, 22, 23, 24, 25, 26, 27, 28]⟩, ⟨⟨none, .tv false⟩, [0, 1, 2, 3, 4, 5, 6, 7, 8, 9, 10, 11, 12, 13, 14, 15, 16, 17, 18, 19, 20, 21, 22, 23, 24, 25, 26, 27, 28, 29]⟩, ⟨oH, [0, 1, 2, 3, 4, 5, 6, 7, 8, 9, 10, 11, 12, 13, 14, 15, 16, 17, 18, 19, 20, 21, 22, 23, 24, 25, 26, 27, 28, 29, 30]⟩, ⟨⟨some false, .no⟩, [0, 1, 2, 3, 4, 5, 6, 7, 8, 9, 10, 11, 12, 13, 14, 15, 16, 17, 18, 19, 20, 21, 22, 23, 24, 25, 26, 27, 28, 29, 30, 31]⟩, ⟨⟨some false, .no⟩, [0, 1, 2, 3, 4, 5, 6, 7, 8, 9, 10, 11, 12, 13, 14, 15, 16, 17, 18, 19, 20, 21, 22, 23, 24, 25, 26, 27, 28, 29, 30, 31, 32]⟩, ⟨⟨some false, .no⟩, [0, 1, 2, 3, 4, 5, 6, 7, 8, 9, 10, 11, 12, 13, 14, 15, 16, 17, 18, 19, 20, 21, 22, 23, 24, 25, 26, 27, 28, 29, 30, 31, 32, 33]⟩, ⟨⟨some false, .no⟩, [0, 1, 2, 3, 4, 5, 6, 7, 8, 9, 10, 11, 12, 13, 14, 15, 16, 17, 18, 19, 20, 21, 22, 23, 24, 25, 26, 27, 28, 29, 30, 31, 32, 33, 34]⟩, ⟨⟨some false, .no⟩, [0, 1, 2, 3, 4, 5, 6, 7, 8, 9, 10, 11, 12, 13, 14, 15, 16, 17, 18, 19, 20, 21, 22, 23, 24, 25, 26, 27, 28, 29, 30, 31, 32, 33, 34, 35]⟩, ⟨⟨some false, .no⟩, [0, 1, 2, 3, 4, 5, 6, 7, 8, 9, 10, 11, 12, 13, 14, 15, 16, 17, 18, 19, 20, 21, 22, 23, 24, 25, 26, 27, 28, 29, 30, 31]⟩, ⟨⟨some false, .no⟩, [0, 1, 2, 3, 4, 5, 6, 7, 8, 9, 10, 11, 12, 13, 14, 15, 16, 17, 18, 19, 20, 21, 22, 23, 24, 25, 26, 27, 28, 29, 30, 31, 37]⟩, ⟨⟨some false, .no⟩, [0, 1, 2, 3, 4, 5, 6, 7, 8, 9, 10, 11, 12, 13, 14, 15, 16, 17, 18, 19, 20, 21, 22, 23, 24, 25, 26, 27, 28, 29, 30, 31, 37, 38]⟩, ⟨⟨some false, .no⟩, [0, 1, 2, 3, 4, 5, 6, 7, 8, 9, 10, 11, 12, 13, 14, 15, 16, 17, 18, 19, 20, 21, 22, 23, 24, 25, 26, 27, 28, 29, 30, 31, 37, 38, 39]⟩] [[0, 1, 2, 3, 4, 5, 6, 7, 8, 9, 10, 11, 12, 13, 14, 15, 16, 17, 18, 19, 20, 21, 22, 23, 24, 25, 26, 27, 28, 29, 30, 31, 32, 33, 34, 35, 36, 37, 38, 39, 40], [0, 1, 2, 3, 4, 5, 6, 7, 8, 9, 10, 11, 12, 13, 14, 15, 16, 17, 18, 19, 20, 21, 22, 23, 24, 25, 26, 27, 28, 29, 30, 31, 32, 33, 34, 35, 36, 37, 38, 39, 40, 41]] [⟨some false, .no⟩, ⟨none, .tv false⟩] [] [] hX (by kernel_rfl) (by kernel_rfl) (allCons (f111_ok hc19) (allCons hb20 (allCons hb20 (allCons hb20 (allCons hb20 (allCons hb20 (allCons (f111_ok hc22) (allCons hb20 (allCons hb20 (allCons hb23 (allCons hb23 (allCons hb23 (allCons hb23 (allCons hb23 (allCons hb23 (allCons hb23 (allCons hb23 (allCons hb23 (allCons hb23 (allCons hb23 (allCons hb23 (allCons hb23 (allCons hb23 (allCons hb23 (allCons hb23 (allCons hb24 (allCons hb24 (allCons hb24 (allCons hb24 (allCons hb24 (allCons hb24 (allCons hb24 (allCons hb24 (allCons hb24 (allCons hb24 (allCons hb24 allNil)))))))))))))))))))))))))))))))))))) (fun _ h => (qThen (h.ht (cont ((lenI a0.2.2.2) != a0.1) (of_some hT3)))))

noncomputable def spec_l08ReadPlain_B1 (y1 : List (List UInt8)) (s16 : Int × List Bool) : Option ((Int × List Bool) ⊕ (List Bool ⊕ Unit)) :=
  guardP ((0 : Int) ≤ (2 : Int) ∧ (2 : Int) < lenI y1) (
    bif (decide (s16.1 < (lenI (List.getD y1 (Int.toNat (2 : Int)) ([] : List UInt8))))) then
      guardP ((0 : Int) ≤ s16.1 ∧ s16.1 < lenI (List.getD y1 (Int.toNat (2 : Int)) ([] : List UInt8))) (
        (some ((((List.getD (List.getD y1 (Int.toNat (2 : Int)) ([] : List UInt8)) (Int.toNat s16.1) 0 : UInt8).toNat : Nat)) : Int)).bind fun q29 =>
        (show Option (Bool) from
          bif (q29 != (48 : Int)) then
            some (q29 != (49 : Int))
          else
            some false).bind fun v31 =>
        bif v31 then
          some (.inr (.inr ()))
        else
          guardP (List.length s16.2 + List.length ([(q29 == (49 : Int))] : List Bool) ≤ appMax) (
            some (.inl ((wadd .i64 s16.1 (1 : Int)), (s16.2 ++ ([(q29 == (49 : Int))] : List Bool))))))
    else
      some (.inr (.inl s16.2)))

noncomputable def spec_l08ReadPlain (a0 : List UInt8) : Option ((Int × Int × List Int × List Bool) × Bool) :=
  (spec_l01Cut a0 (59 : Int)).bind fun y1 =>
  bif ((lenI y1) != (3 : Int)) then
    some (((0 : Int), (0 : Int), ([] : List Int), ([] : List Bool)), false)
  else
    guardP ((0 : Int) ≤ (0 : Int) ∧ (0 : Int) < lenI y1) (
      (spec_l01Numbers (List.getD y1 (Int.toNat (0 : Int)) ([] : List UInt8))).bind fun y5 =>
      guardP ((0 : Int) ≤ (1 : Int) ∧ (1 : Int) < lenI y1) (
        (spec_l01Numbers (List.getD y1 (Int.toNat (1 : Int)) ([] : List UInt8))).bind fun y8 =>
        (show Option (Bool) from
          bif (!y5.2) then
            some true
          else
            bif (!y8.2) then
              some true
            else
              some ((lenI y5.1) != (2 : Int))).bind fun v10 =>
        bif v10 then
          some (((0 : Int), (0 : Int), ([] : List Int), ([] : List Bool)), false)
        else
          guardP ((0 : Int) ≤ (0 : Int) ∧ (0 : Int) < lenI y5.1) (
            guardP ((0 : Int) ≤ (1 : Int) ∧ (1 : Int) < lenI y5.1) (
              (rounds (spec_l08ReadPlain_B1 y1) ((0 : Int), ([] : List Bool))).bind fun r17 => match r17 with
                | .inl r18 =>
                  (spec_l02Plain ((List.getD y5.1 (Int.toNat (0 : Int)) (0 : Int)), (List.getD y5.1 (Int.toNat (1 : Int)) (0 : Int)), y8.1, r18)).bind fun y19 =>
                  bif (!y19) then
                    some (((0 : Int), (0 : Int), ([] : List Int), ([] : List Bool)), false)
                  else
                    some (((List.getD y5.1 (Int.toNat (0 : Int)) (0 : Int)), (List.getD y5.1 (Int.toNat (1 : Int)) (0 : Int)), y8.1, r18), true)
                | .inr r22 =>
                  some (((0 : Int), (0 : Int), ([] : List Int), ([] : List Bool)), false)))))

theorem f85_ok {a0 : List UInt8} {r : (Int × Int × List Int × List Bool) × Bool} (hr : spec_l08ReadPlain a0 = some r) : CallOK Tryd.prog 85 [.imm .str a0] [⟨true, (.st (.pair tI (.pair tI (.pair tLI (.sl .bool))))), r.1⟩, ⟨false, .bool, r.2⟩] [] := by
  unfold spec_l08ReadPlain at hr
  refine CallOK.of_body (ts := [(true, (.st (.pair tI (.pair tI (.pair tLI (.sl .bool)))))), (false, .bool)]) Tryd.func85 rfl (by kernel_rfl) (Nat.le_of_ble_eq_true (by kernel_rfl)) fun cx hP hN hO hF => ?_
  have hO : cx.own.map Prod.fst = [] := hO
  have hX := CxIs.mk hP hN hO
  have hF := hF rfl
  show HT cx ⟨[(0, .one (.dat .str a0))], [], 0⟩ _ _
  refine HT.rg2 (oHs 2) ⟨[(0, .one (.dat .str a0)), (2, pV 0 0)], [(0, .box [iC (0 : Int), iC (0 : Int), .nilS, .nilS])], 1⟩ hX (by kernel_rfl) allNil ?_
  obtain ⟨y1, hc2, hr⟩ := of_bind hr
  refine HT.rg2 [oH, ⟨none, .call [.imm .str, .imm (.int .u8)] [⟨true, (.sl .str), y1⟩] []⟩, oH] ⟨[(2, pV 0 0), (4, aV 1)], [(1, .seq .str y1), (0, .box [iC (0 : Int), iC (0 : Int), .nilS, .nilS])], 2⟩ hX (by kernel_rfl) (allCons (f121_ok hc2) allNil) ?_
  refine HT.seq ?_
  refine HT.rg2 (oHs 3) ⟨[(2, pV 0 0), (4, aV 1), (16, bV ((lenI y1) != (3 : Int)))], [(1, .seq .str y1), (0, .box [iC (0 : Int), iC (0 : Int), .nilS, .nilS])], 2⟩ hX (by kernel_rfl) allNil ?_
  rcases of_bif hr with ⟨hb3, hr⟩ | ⟨hb3, hr⟩
  · refine HT.cond1 rfl hb3 ?_
    refine HT.rg2 (oHs 3) ⟨[(2, pV 0 0), (3, bV false)], [(0, .box [iC (0 : Int), iC (0 : Int), .nilS, .nilS])], 2⟩ hX (by kernel_rfl) allNil ?_
    have hr := of_some hr
    subst hr
    exact HT.ret (qThenR ⟨[.agg [iC (0 : Int), iC (0 : Int), .nilS, .nilS], bV false], [], [], by kernel_rfl, by kernel_rfl, rfl, by kernel_rfl, by kernel_rfl, trivial⟩)
  · refine HT.cond0 rfl hb3 ?_
    refine HT.skip (qThen ?_)
    obtain ⟨hg4, hr⟩ := of_guard hr
    obtain ⟨y5, hc6, hr⟩ := of_bind hr
    refine HT.rg2 [oH, oH, oH, ⟨none, .call [.imm .str] [⟨true, tLI, y5.1⟩, ⟨false, .bool, y5.2⟩] []⟩, oH, oH, oH, oH, oH] ⟨[(2, pV 0 0), (4, aV 1), (5, aV 2), (6, bV y5.2)], [(2, .seq tI y5.1), (1, .seq .str y1), (0, .box [iC (0 : Int), iC (0 : Int), .nilS, .nilS])], 3⟩ hX (by kernel_rfl) (allCons hg4 (allCons (natLt hg4) (allCons (f122_ok hc6) allNil))) ?_
    obtain ⟨hg7, hr⟩ := of_guard hr
    obtain ⟨y8, hc9, hr⟩ := of_bind hr
    refine HT.rg2 [oH, oH, oH, ⟨none, .call [.imm .str] [⟨true, tLI, y8.1⟩, ⟨false, .bool, y8.2⟩] []⟩, oH, oH, oH, oH, oH] ⟨[(2, pV 0 0), (4, aV 1), (5, aV 2), (6, bV y5.2), (7, aV 3), (8, bV y8.2)], [(3, .seq tI y8.1), (2, .seq tI y5.1), (1, .seq .str y1), (0, .box [iC (0 : Int), iC (0 : Int), .nilS, .nilS])], 4⟩ hX (by kernel_rfl) (allCons hg7 (allCons (natLt hg7) (allCons (f122_ok hc9) allNil))) ?_
    refine HT.seq ?_
    obtain ⟨v10', hT12, hr⟩ := of_bind hr
    refine HT.join (fun (v10 : Bool) => ⟨[(2, pV 0 0), (4, aV 1), (5, aV 2), (7, aV 3), (42, bV v10)], [(0, .box [iC (0 : Int), iC (0 : Int), .nilS, .nilS]), (1, .seq .str y1), (2, .seq tI y5.1), (3, .seq tI y8.1)], 4⟩) (fun v => v = v10') (fun v10 hv11 => ?_) (fun cont => ?_)
    · subst hv11
      rcases of_bif hr with ⟨hb13, hr⟩ | ⟨hb13, hr⟩
      · refine HT.cond1 rfl hb13 ?_
        refine HT.rg2 (oHs 3) ⟨[(2, pV 0 0), (3, bV false)], [(0, .box [iC (0 : Int), iC (0 : Int), .nilS, .nilS])], 4⟩ hX (by kernel_rfl) allNil ?_
        have hr := of_some hr
        subst hr
        exact HT.ret (qThenR ⟨[.agg [iC (0 : Int), iC (0 : Int), .nilS, .nilS], bV false], [], [], by kernel_rfl, by kernel_rfl, rfl, by kernel_rfl, by kernel_rfl, trivial⟩)
      · refine HT.cond0 rfl hb13 ?_
        refine HT.skip (qThen ?_)
        obtain ⟨hg14, hr⟩ := of_guard hr
        obtain ⟨hg15, hr⟩ := of_guard hr
        refine HT.dr2 9 [⟨oH, []⟩, ⟨oH, [0]⟩, ⟨oH, [0, 1]⟩, ⟨oH, []⟩, ⟨oH, [3]⟩, ⟨oH, [3, 4]⟩, ⟨oH, []⟩, ⟨oH, [0, 1, 2, 3, 4, 5, 6]⟩, ⟨oH, []⟩] [[0, 1, 2, 3, 4, 5, 6, 7, 8]] [oH] ⟨[(2, pV 0 0), (4, aV 1), (9, pV 4 0)], [(4, .box [iC (List.getD y5.1 (Int.toNat (0 : Int)) (0 : Int)), iC (List.getD y5.1 (Int.toNat (1 : Int)) (0 : Int)), .all 3, .nilS]), (0, .box [iC (0 : Int), iC (0 : Int), .nilS, .nilS]), (1, .seq .str y1), (3, .seq tI y8.1)], 5⟩ hX (by kernel_rfl) (by kernel_rfl) (allCons hg14 (allCons (natLt hg14) (allCons hg15 (allCons (natLt hg15) allNil)))) ?_
        refine HT.seq ?_
        refine HT.rg2 [oH] ⟨[(2, pV 0 0), (4, aV 1), (9, pV 4 0), (10, iV (0 : Int))], [(4, .box [iC (List.getD y5.1 (Int.toNat (0 : Int)) (0 : Int)), iC (List.getD y5.1 (Int.toNat (1 : Int)) (0 : Int)), .all 3, .nilS]), (0, .box [iC (0 : Int), iC (0 : Int), .nilS, .nilS]), (1, .seq .str y1), (3, .seq tI y8.1)], 5⟩ hX (by kernel_rfl) allNil ?_
        refine HT.block ?_
        obtain ⟨r17, hL37, hr⟩ := of_bind hr
        refine HT.loopL (fun (s16 : Int × List Bool) => ⟨[(2, pV 0 0), (4, aV 1), (9, pV 2 0), (10, iV s16.1)], [(0, .box [iC (0 : Int), iC (0 : Int), .nilS, .nilS]), (1, .seq .str y1), (2, .box [iC (List.getD y5.1 (Int.toNat (0 : Int)) (0 : Int)), iC (List.getD y5.1 (Int.toNat (1 : Int)) (0 : Int)), .all 3, .all 4]), (3, .seq tI y8.1), (4, .seq .bool s16.2)], 5⟩) (fun (r17 : List Bool ⊕ Unit) => match r17 with | .inl r18 => (.exit 0, ⟨[(2, pV 0 0), (9, pV 1 0)], [(0, .box [iC (0 : Int), iC (0 : Int), .nilS, .nilS]), (1, .box [iC (List.getD y5.1 (Int.toNat (0 : Int)) (0 : Int)), iC (List.getD y5.1 (Int.toNat (1 : Int)) (0 : Int)), .all 2, .all 3]), (2, .seq tI y8.1), (3, .seq .bool r18)], 4⟩) | .inr r22 => (.ret, ⟨[(2, pV 0 0), (3, bV false)], [(0, .box [iC (0 : Int), iC (0 : Int), .nilS, .nilS])], 1⟩)) (Le.re [(0, 0), (1, 1), (4, 2), (3, 3)] [4] hX (by kernel_rfl)) hL37 ?_ (fun s16 x23 hx24 hk25 => ?_)
        · rcases r17 with r18 | r22
          · refine (qBlockX (qThen ?_))
            refine HT.seq ?_
            obtain ⟨y19, hc20, hr⟩ := of_bind hr
            refine HT.rg2 [⟨none, .call [.pimm (.st (.pair tI (.pair tI (.pair tLI (.sl .bool)))))] [⟨false, .bool, y19⟩] []⟩, oH] ⟨[(2, pV 0 0), (9, pV 1 0), (80, bV (!y19))], [(0, .box [iC (0 : Int), iC (0 : Int), .nilS, .nilS]), (1, .box [iC (List.getD y5.1 (Int.toNat (0 : Int)) (0 : Int)), iC (List.getD y5.1 (Int.toNat (1 : Int)) (0 : Int)), .all 2, .all 3]), (2, .seq tI y8.1), (3, .seq .bool r18)], 4⟩ hX (by kernel_rfl) (allCons (f71_ok hc20) allNil) ?_
            rcases of_bif hr with ⟨hb21, hr⟩ | ⟨hb21, hr⟩
            · refine HT.cond1 rfl hb21 ?_
              refine HT.rg2 (oHs 3) ⟨[(2, pV 0 0), (3, bV false)], [(0, .box [iC (0 : Int), iC (0 : Int), .nilS, .nilS])], 4⟩ hX (by kernel_rfl) allNil ?_
              have hr := of_some hr
              subst hr
              exact HT.ret (qThenR ⟨[.agg [iC (0 : Int), iC (0 : Int), .nilS, .nilS], bV false], [], [], by kernel_rfl, by kernel_rfl, rfl, by kernel_rfl, by kernel_rfl, trivial⟩)
            · refine HT.cond0 rfl hb21 ?_
              refine HT.skip (qThen ?_)
              refine HT.rg2 (oHs 3) ⟨[(2, pV 0 0), (3, bV true)], [(0, .box [iC (List.getD y5.1 (Int.toNat (0 : Int)) (0 : Int)), iC (List.getD y5.1 (Int.toNat (1 : Int)) (0 : Int)), .all 2, .all 3]), (2, .seq tI y8.1), (3, .seq .bool r18)], 4⟩ hX (by kernel_rfl) allNil ?_
              have hr := of_some hr
              subst hr
              exact HT.ret ⟨[.agg [iC (List.getD y5.1 (Int.toNat (0 : Int)) (0 : Int)), iC (List.getD y5.1 (Int.toNat (1 : Int)) (0 : Int)), .all 2, .all 3], bV true], [2, 3], [], by kernel_rfl, by kernel_rfl, rfl, by kernel_rfl, by kernel_rfl, trivial⟩
          · have hr := of_some hr
            subst hr
            exact (qBlockR (qThenR ⟨[.agg [iC (0 : Int), iC (0 : Int), .nilS, .nilS], bV false], [], [], by kernel_rfl, by kernel_rfl, rfl, by kernel_rfl, by kernel_rfl, trivial⟩))
        · refine HT.seq ?_
          obtain ⟨hg26, hx24⟩ := of_guard hx24
          refine HT.rg2 (oHs 6) ⟨[(2, pV 0 0), (4, aV 1), (9, pV 2 0), (10, iV s16.1), (57, bV (decide (s16.1 < (lenI (List.getD y1 (Int.toNat (2 : Int)) ([] : List UInt8))))))], [(0, .box [iC (0 : Int), iC (0 : Int), .nilS, .nilS]), (1, .seq .str y1), (2, .box [iC (List.getD y5.1 (Int.toNat (0 : Int)) (0 : Int)), iC (List.getD y5.1 (Int.toNat (1 : Int)) (0 : Int)), .all 3, .all 4]), (3, .seq tI y8.1), (4, .seq .bool s16.2)], 5⟩ hX (by kernel_rfl) (allCons hg26 (allCons (natLt hg26) allNil)) ?_
          rcases of_bif hx24 with ⟨hb27, hx24⟩ | ⟨hb27, hx24⟩
          · refine HT.cond1 rfl hb27 ?_
            refine HT.skip (qThen ?_)
            refine HT.seq ?_
            refine HT.block ?_
            obtain ⟨hg28, hx24⟩ := of_guard hx24
            refine HT.rg2 (oHs 6) ⟨[(2, pV 0 0), (4, aV 1), (9, pV 2 0), (10, iV s16.1), (11, .one (.dat (.int .u8) ((((List.getD (List.getD y1 (Int.toNat (2 : Int)) ([] : List UInt8)) (Int.toNat s16.1) 0 : UInt8).toNat : Nat)) : Int)))], [(0, .box [iC (0 : Int), iC (0 : Int), .nilS, .nilS]), (1, .seq .str y1), (2, .box [iC (List.getD y5.1 (Int.toNat (0 : Int)) (0 : Int)), iC (List.getD y5.1 (Int.toNat (1 : Int)) (0 : Int)), .all 3, .all 4]), (3, .seq tI y8.1), (4, .seq .bool s16.2)], 5⟩ hX (by kernel_rfl) (allCons hg26 (allCons (natLt hg26) (allCons hg28 allNil))) ?_
            obtain ⟨q29, hq30, hx24⟩ := of_bind hx24
            have hq30 := of_some2 hq30
            refine (Le.cv (s := ⟨[(0, 0), (1, 1), (2, 2), (3, 3), (4, 4)], [], [], false⟩) (own := []) (ps := [s16.1 = s16.1, q29 = ((((List.getD (List.getD y1 (Int.toNat (2 : Int)) ([] : List UInt8)) (Int.toNat s16.1) 0 : UInt8).toNat : Nat)) : Int), (0 : Int) = (0 : Int), (0 : Int) = (0 : Int), y1 = y1, (List.getD y5.1 (Int.toNat (0 : Int)) (0 : Int)) = (List.getD y5.1 (Int.toNat (0 : Int)) (0 : Int)), (List.getD y5.1 (Int.toNat (1 : Int)) (0 : Int)) = (List.getD y5.1 (Int.toNat (1 : Int)) (0 : Int)), y8.1 = y8.1, s16.2 = s16.2]) (st' := ⟨[(2, pV 0 0), (4, aV 1), (9, pV 2 0), (10, iV s16.1), (11, .one (.dat (.int .u8) q29))], [(0, .box [iC (0 : Int), iC (0 : Int), .nilS, .nilS]), (1, .seq .str y1), (2, .box [iC (List.getD y5.1 (Int.toNat (0 : Int)) (0 : Int)), iC (List.getD y5.1 (Int.toNat (1 : Int)) (0 : Int)), .all 3, .all 4]), (3, .seq tI y8.1), (4, .seq .bool s16.2)], 5⟩) hO (fun h => by cases h) (by kernel_rfl) ⟨rfl, hq30, rfl, rfl, rfl, rfl, rfl, rfl, rfl, trivial⟩).ht ?_
            refine HT.seq ?_
            obtain ⟨v31', hT33, hx24⟩ := of_bind hx24
            refine HT.join (fun (v31 : Bool) => ⟨[(2, pV 0 0), (4, aV 1), (9, pV 2 0), (10, iV s16.1), (11, .one (.dat (.int .u8) q29)), (70, bV v31)], [(0, .box [iC (0 : Int), iC (0 : Int), .nilS, .nilS]), (1, .seq .str y1), (2, .box [iC (List.getD y5.1 (Int.toNat (0 : Int)) (0 : Int)), iC (List.getD y5.1 (Int.toNat (1 : Int)) (0 : Int)), .all 3, .all 4]), (3, .seq tI y8.1), (4, .seq .bool s16.2)], 5⟩) (fun v => v = v31') (fun v31 hv32 => ?_) (fun cont => ?_)
            · subst hv32
              rcases of_bif hx24 with ⟨hb34, hx24⟩ | ⟨hb34, hx24⟩
              · refine HT.cond1 rfl hb34 ?_
                refine HT.rg2 (oHs 3) ⟨[(2, pV 0 0), (3, bV false)], [(0, .box [iC (0 : Int), iC (0 : Int), .nilS, .nilS])], 5⟩ hX (by kernel_rfl) allNil ?_
                have hx24 := of_some hx24
                subst hx24
                exact HT.retL (Le.re [(0, 0)] [] hX (by kernel_rfl)) (qThenR (qBlockR (qThenR (qLoopR (hk25 (.inr ()) rfl)))))
              · refine HT.cond0 rfl hb34 ?_
                refine HT.skip (qThen ?_)
                obtain ⟨hg35, hx24⟩ := of_guard hx24
                refine HT.rgL [oH, oH, oH, oH, ⟨none, .ty .bool⟩, ⟨none, .ty .bool⟩, oH, oH] ⟨[(2, pV 0 0), (4, aV 1), (9, pV 2 0), (10, iV s16.1)], [(2, .box [iC (List.getD y5.1 (Int.toNat (0 : Int)) (0 : Int)), iC (List.getD y5.1 (Int.toNat (1 : Int)) (0 : Int)), .all 3, .all 6]), (6, .seq .bool (s16.2 ++ ([(q29 == (49 : Int))] : List Bool))), (0, .box [iC (0 : Int), iC (0 : Int), .nilS, .nilS]), (1, .seq .str y1), (3, .seq tI y8.1)], 7⟩ hX (by kernel_rfl) (allCons hg35 allNil) (qBlock (qThen ?_))
                have hx24 := of_some hx24
                subst hx24
                exact HT.rgK (oHs 3) [(0, 0), (1, 1), (2, 2), (3, 3), (6, 4)] [] hX (by kernel_rfl) allNil (fun _ h => (qLoopN ⟨((wadd .i64 s16.1 (1 : Int)), (s16.2 ++ ([(q29 == (49 : Int))] : List Bool))), rfl, h⟩))
            · rcases of_bif hT33 with ⟨hb36, hT33⟩ | ⟨hb36, hT33⟩
              · exact HT.rgK [oH, oH, oH, ⟨some true, .no⟩, ⟨some true, .no⟩, ⟨none, .tv true⟩] [(0, 0), (1, 1), (2, 2), (3, 3), (4, 4)] [] hX (by kernel_rfl) (allCons hb36 (allCons hb36 (allCons hb36 allNil))) (fun _ h => (qThen (h.ht (cont (q29 != (49 : Int)) (of_some hT33)))))
              · exact HT.rgK [oH, oH, oH, ⟨some false, .no⟩, ⟨some false, .no⟩, ⟨none, .tv false⟩] [(0, 0), (1, 1), (2, 2), (3, 3), (4, 4)] [] hX (by kernel_rfl) (allCons hb36 (allCons hb36 (allCons hb36 allNil))) (fun _ h => (qThen (h.ht (cont false (of_some hT33)))))
          · refine HT.cond0 rfl hb27 ?_
            have hx24 := of_some hx24
            subst hx24
            exact HT.exitL (Le.re [(0, 0), (2, 1), (3, 2), (4, 3)] [] hX (by kernel_rfl)) (qThenE (qLoopE (hk25 (.inl s16.2) rfl)))
    · rcases of_bif hT12 with ⟨hb38, hT12⟩ | ⟨hb38, hT12⟩
      · exact HT.rgK [oH, oH, oH, ⟨some true, .no⟩, ⟨some true, .no⟩, ⟨none, .tv true⟩, oH, ⟨some true, .no⟩, ⟨some true, .no⟩, ⟨some true, .no⟩, ⟨none, .tv true⟩] [(0, 0), (1, 1), (2, 2), (3, 3)] [] hX (by kernel_rfl) (allCons hb38 (allCons hb38 (allCons hb38 (allCons (rfl : true = true) (allCons (rfl : true = true) (allCons (rfl : true = true) (allCons (rfl : true = true) allNil))))))) (fun _ h => (qThen (h.ht (cont true (of_some hT12)))))
      · rcases of_bif hT12 with ⟨hb39, hT12⟩ | ⟨hb39, hT12⟩
        · exact HT.rgK [oH, oH, oH, ⟨some false, .no⟩, ⟨some false, .no⟩, ⟨none, .tv false⟩, oH, ⟨some true, .no⟩, ⟨some true, .no⟩, ⟨some true, .no⟩, ⟨none, .tv true⟩] [(0, 0), (1, 1), (2, 2), (3, 3)] [] hX (by kernel_rfl) (allCons hb38 (allCons hb38 (allCons hb38 (allCons hb39 (allCons hb39 (allCons hb39 (allCons hb39 allNil))))))) (fun _ h => (qThen (h.ht (cont true (of_some hT12)))))
        · exact HT.rgK [oH, oH, oH, ⟨some false, .no⟩, ⟨some false, .no⟩, ⟨none, .tv false⟩, oH, ⟨some false, .no⟩, ⟨some false, .no⟩, ⟨some false, .no⟩, ⟨none, .tv false⟩] [(0, 0), (1, 1), (2, 2), (3, 3)] [] hX (by kernel_rfl) (allCons hb38 (allCons hb38 (allCons hb38 (allCons hb39 (allCons hb39 (allCons hb39 (allCons hb39 allNil))))))) (fun _ h => (qThen (h.ht (cont ((lenI y5.1) != (2 : Int)) (of_some hT12)))))

noncomputable def spec_ReadPlain (a0 : List UInt8) : Option ((Int × Int × List Int × List Bool) × Bool) :=
  (spec_l08ReadPlain a0).bind fun y1 =>
  some ((y1.1.1, y1.1.2.1, y1.1.2.2.1, y1.1.2.2.2), y1.2)

theorem f36_ok {a0 : List UInt8} {r : (Int × Int × List Int × List Bool) × Bool} (hr : spec_ReadPlain a0 = some r) : CallOK Tryd.prog 36 [.imm .str a0] [⟨true, (.st (.pair tI (.pair tI (.pair tLI (.sl .bool))))), r.1⟩, ⟨false, .bool, r.2⟩] [] := by
  unfold spec_ReadPlain at hr
  refine CallOK.of_body (ts := [(true, (.st (.pair tI (.pair tI (.pair tLI (.sl .bool)))))), (false, .bool)]) Tryd.func36 rfl (by kernel_rfl) (Nat.le_of_ble_eq_true (by kernel_rfl)) fun cx hP hN hO hF => ?_
  have hO : cx.own.map Prod.fst = [] := hO
  have hX := CxIs.mk hP hN hO
  have hF := hF rfl
  show HT cx ⟨[(0, .one (.dat .str a0))], [], 0⟩ _ _
  refine HT.rg2 (oHs 2) ⟨[(0, .one (.dat .str a0)), (2, pV 0 0)], [(0, .box [iC (0 : Int), iC (0 : Int), .nilS, .nilS])], 1⟩ hX (by kernel_rfl) allNil ?_
  obtain ⟨y1, hc2, hr⟩ := of_bind hr
  refine HT.rg2 [oH, ⟨none, .call [.imm .str] [⟨true, (.st (.pair tI (.pair tI (.pair tLI (.sl .bool))))), y1.1⟩, ⟨false, .bool, y1.2⟩] []⟩, oH, oH, oH, oH] ⟨[(2, pV 0 0), (3, bV y1.2)], [(0, .box [iC y1.1.1, iC y1.1.2.1, .all 1, .all 2]), (1, .seq tI y1.1.2.2.1), (2, .seq .bool y1.1.2.2.2)], 3⟩ hX (by kernel_rfl) (allCons (f85_ok hc2) allNil) ?_
  have hr := of_some hr
  subst hr
  exact HT.ret ⟨[.agg [iC y1.1.1, iC y1.1.2.1, .all 1, .all 2], bV y1.2], [1, 2], [], by kernel_rfl, by kernel_rfl, rfl, by kernel_rfl, by kernel_rfl, trivial⟩

noncomputable def strings_LastIndexByte (a0 : List UInt8) (a1 : Int) : Option (Int) :=
  guardP (a0.length < 4611686018427387904) <| some (Lib.lastIndexByte ⟨a0.toArray⟩ a1)

theorem f86_ok {a0 : List UInt8} {a1 : Int} {r : Int} (h : strings_LastIndexByte a0 a1 = some r) : CallOK Tryd.prog 86 [.imm .str a0, .imm (.int .u8) a1] [⟨false, tI, r⟩] [] := by
  obtain ⟨hg, h⟩ := of_guard h
  have h := of_some h
  subst h
  exact simple_ok (ps := [⟨.str, a0⟩, ⟨(.int .u8), a1⟩]) (rs := [⟨tI, Lib.lastIndexByte ⟨a0.toArray⟩ a1⟩]) ⟨_, Tryd.func86, by kernel_rfl, by kernel_rfl⟩ (by simp [Ty.simple]) (by simp [Ty.simple]) fun w S hgl => by
    obtain ⟨m, hm⟩ := Glob.maxlen hgl
    exact (Tryd.strings_LastIndexByte ⟨a0.toArray⟩ _ hg w).mono fun e w' ⟨he, hw⟩ => ⟨⟨_, he, rfl⟩, hw ▸ RowKit.Below.refl _ _⟩

noncomputable def strings_Split (a0 a1 : List UInt8) : Option (List (List UInt8)) :=
  guardP (a0.length < 4294967281 ∧ 1 ≤ a1.length) <| some (Lib.split a0 a1)

theorem f124_ok {a0 a1 : List UInt8} {r : List (List UInt8)} (h : strings_Split a0 a1 = some r) : CallOK Tryd.prog 124 [.imm .str a0, .imm .str a1] [⟨true, .sl .str, r⟩] [] := by
  obtain ⟨hg, h⟩ := of_guard h
  have h := of_some h
  subst h
  exact split_ok ⟨_, Tryd.func124, by kernel_rfl, by kernel_rfl⟩ hg.1 hg.2 fun w S hgl => by
    obtain ⟨m, hm⟩ := Glob.maxlen hgl
    exact Tryd.strings_Split _ _ m w hg.1 hm hg.2

noncomputable def impl_pieces (a0 : List UInt8) : Option (List (List UInt8)) :=
  bif (a0 == ([110, 111, 110, 101] : List UInt8)) then
    some ([] : List (List UInt8))
  else
    (strings_Split a0 ([44] : List UInt8)).bind fun y2 =>
    some y2

theorem f152_ok {a0 : List UInt8} {r : List (List UInt8)} (hr : impl_pieces a0 = some r) : CallOK Tryd.prog 152 [.imm .str a0] [⟨true, (.sl .str), r⟩] [] := by
  unfold impl_pieces at hr
  refine CallOK.of_body (ts := [(true, (.sl .str))]) Tryd.func152 rfl (by kernel_rfl) (Nat.le_of_ble_eq_true (by kernel_rfl)) fun cx hP hN hO hF => ?_
  have hO : cx.own.map Prod.fst = [] := hO
  have hX := CxIs.mk hP hN hO
  have hF := hF rfl
  show HT cx ⟨[(0, .one (.dat .str a0))], [], 0⟩ _ _
  refine HT.rg2 [oH] ⟨[(0, .one (.dat .str a0))], [], 0⟩ hX (by kernel_rfl) allNil ?_
  refine HT.seq ?_
  refine HT.rg2 (oHs 2) ⟨[(0, .one (.dat .str a0)), (4, bV (a0 == ([110, 111, 110, 101] : List UInt8)))], [], 0⟩ hX (by kernel_rfl) allNil ?_
  rcases of_bif hr with ⟨hb1, hr⟩ | ⟨hb1, hr⟩
  · refine HT.cond1 rfl hb1 ?_
    refine HT.rg2 [oH] ⟨[(2, .one (.nilS))], [], 0⟩ hX (by kernel_rfl) allNil ?_
    have hr := of_some hr
    subst hr
    exact HT.ret (qThenR ⟨[.one (.nilS)], [], [], by kernel_rfl, by kernel_rfl, rfl, by kernel_rfl, by kernel_rfl, trivial⟩)
  · refine HT.cond0 rfl hb1 ?_
    refine HT.skip (qThen ?_)
    obtain ⟨y2, hc3, hr⟩ := of_bind hr
    refine HT.rg2 [oH, ⟨none, .call [.imm .str, .imm .str] [⟨true, (.sl .str), y2⟩] []⟩, oH] ⟨[(2, aV 0)], [(0, .seq .str y2)], 1⟩ hX (by kernel_rfl) (allCons (f124_ok hc3) allNil) ?_
    have hr := of_some hr
    subst hr
    exact HT.ret ⟨[aV 0], [0], [], by kernel_rfl, by kernel_rfl, rfl, by kernel_rfl, by kernel_rfl, trivial⟩

theorem tabPow {w : World} {t : TypeId} {fr : Nat × Nat} (h : w.heap[1]? = some (.cells pow10Cells t fr)) : Lib.TabIs Tryd.prog w "internal/strconv.uint64pow10" .u64 Lib.pow10Tab := by
  unfold Lib.TabIs World.var?
  rw [show Tryd.prog.globalNamed "internal/strconv.uint64pow10" = some 1 by kernel_rfl, Option.bind_some, h]
  unfold pow10Cells Lib.pow10Tab
  rw [List.map_map]
  rfl

noncomputable def strconv_FormatInt (a0 : Int) (a1 : Int) : Option (List UInt8) :=
  guardP (a1 = 10 ∧ -9223372036854775808 ≤ a0 ∧ a0 ≤ 9223372036854775807) <| some (Lib.itoa a0)

theorem f108_ok {a0 : Int} {a1 : Int} {r : List UInt8} (h : strconv_FormatInt a0 a1 = some r) : CallOK Tryd.prog 108 [.imm tI a0, .imm tI a1] [⟨false, .str, r⟩] [] := by
  obtain ⟨hg, h⟩ := of_guard h
  have h := of_some h
  subst h
  obtain ⟨rfl, hg⟩ := hg
  have hg : True ∧ _ := ⟨trivial, hg⟩
  exact simple_ok (ps := [⟨tI, a0⟩, ⟨tI, 10⟩]) (rs := [⟨.str, Lib.itoa a0⟩]) ⟨_, Tryd.func108, by kernel_rfl, by kernel_rfl⟩ (by simp [Ty.simple]) (by simp [Ty.simple]) fun w S hgl => by
    obtain ⟨_, t, fr, ht⟩ := Glob.pow hgl
    exact (Tryd.strconv_FormatInt_10 _ hg.2.1 hg.2.2 w (tabPow ht)).mono fun e w' ⟨he, k, os, hw⟩ => ⟨⟨_, he, rfl⟩, hw ▸ Lib.below_grow _ _ (Nat.le_refl _) k os⟩

section
open Go.RowKit

theorem below_parse {w w' : World} (h : w' = w ∨ ∃ t, w' = Lib.bytesWorld w 5 t) : Below w.heap.size w w' := by
  rcases h with rfl | ⟨t, rfl⟩
  · exact Below.refl _ _
  · unfold Lib.bytesWorld
    exact Lib.below_freeze ((Below.drew (Below.refl _ w)).alloc (Nat.le_refl _) _) (p := ⟨w.heap.size, _, none⟩) (Nat.le_refl _) _

theorem below_then {a b c : World} (h : Below a.heap.size a b) (k : Below b.heap.size b c) : Below a.heap.size a c :=
  h.trans ⟨k.os, k.tape, k.output, k.size, fun i hi => k.block i (Nat.lt_of_lt_of_le hi h.size)⟩

theorem isValue_any (v : Int) (w : World) : Calls Tryd.prog 147 #[.int .i64 v] w fun e w' => e = .returned (.bool (decide (-1000000000000000 ≤ v) && decide (v ≤ 1000000000000000))) ∧ w' = w := by
  by_cases h0 : -1000000000000000 ≤ v
  · by_cases h1 : v ≤ 1000000000000000
    · go_enter Tryd.func147, Tryd.ntmps147
      go_wp2
      go_ret
      exact ⟨by simp [h0, h1], rfl⟩
    · go_enter Tryd.func147, Tryd.ntmps147
      go_wp2
      go_ret
      exact ⟨by simp [h0, h1], rfl⟩
  · go_enter Tryd.func147, Tryd.ntmps147
    go_wp2
    go_ret
    exact ⟨by rw [show decide (-1000000000000000 ≤ v) = false by simp only [decide_eq_false_iff_not]; omega]; rfl, rfl⟩

theorem dec_any (v : Int) (h0 : -9223372036854775808 ≤ v) (h1 : v ≤ 9223372036854775807) (w : World) (t : TypeId) (fr : Nat × Nat) (ht : w.heap[1]? = some (.cells pow10Cells t fr)) :
    Calls Tryd.prog 54 #[.int .i64 v] w fun e w' => e = .returned (.string ⟨(Lib.itoa v).toArray⟩) ∧ Below w.heap.size w w' := by
  go_enter Tryd.func54, Tryd.ntmps54
  go_wp2_with (go_at_call 108; refine (Tryd.strconv_FormatInt_10 v h0 h1 w (tabPow ht)).mono ?_)
  rintro e w2 ⟨rfl, k, os, rfl⟩
  have hb := Lib.below_grow w.heap.size w (Nat.le_refl _) k os
  generalize Go.Sort.grow (w.drewN k) os = w2 at hb ⊢
  go_wp2
  go_ret
  exact ⟨rfl, hb⟩

set_option maxRecDepth 100000 in
theorem rd_ok (s : ByteArray) (v : Int) (h : Lib.parseIntB 64 s.data.toList = .ok v) (hs : s.size ≤ 281474976710656) (w : World) (t : TypeId) (fr : Nat × Nat) (ht : w.heap[1]? = some (.cells pow10Cells t fr)) (h1 : 1 < w.heap.size)
    (hv0 : -1000000000000000 ≤ v) (hv1 : v ≤ 1000000000000000) (he : ByteArray.mk (Lib.itoa v).toArray = s) :
    Calls Tryd.prog 153 #[.string s] w fun e w' => e = .returned (.tuple #[.int .i64 v, .bool true]) ∧ Below w.heap.size w w' := by
  have hiv : (decide (-1000000000000000 ≤ v) && decide (v ≤ 1000000000000000)) = true := by simp [hv0, hv1]
  go_enter Tryd.func153, Tryd.ntmps153
  go_wp2_with (go_at_call 164; refine (Tryd.strconv_ParseInt_10_at64_ok _ (by omega) v h w).mono ?_)
  rintro e w1 ⟨rfl, hw1⟩
  have hb := below_parse hw1
  have ht1 : w1.heap[1]? = some (.cells pow10Cells t fr) := (hb.block 1 h1).trans ht
  clear hw1 h
  go_wp2_with (go_at_call 147; refine (isValue_any v w1).mono ?_)
  rintro e w2 ⟨rfl, rfl⟩
  rw [hiv]
  go_wp2_with (go_at_call 54; refine (dec_any v (by omega) (by omega) w2 t fr ht1).mono ?_)
  rintro e w3 ⟨rfl, hb3⟩
  rw [he]
  go_wp2
  go_ret2
  exact ⟨rfl, below_then hb hb3⟩

set_option maxRecDepth 100000 in
theorem rd_other (s : ByteArray) (v : Int) (h : Lib.parseIntB 64 s.data.toList = .ok v) (hs : s.size ≤ 281474976710656) (w : World) (t : TypeId) (fr : Nat × Nat) (ht : w.heap[1]? = some (.cells pow10Cells t fr)) (h1 : 1 < w.heap.size)
    (hv0 : -1000000000000000 ≤ v) (hv1 : v ≤ 1000000000000000) (he : ByteArray.mk (Lib.itoa v).toArray ≠ s) :
    Calls Tryd.prog 153 #[.string s] w fun e w' => e = .returned (.tuple #[.int .i64 0, .bool false]) ∧ Below w.heap.size w w' := by
  have hiv : (decide (-1000000000000000 ≤ v) && decide (v ≤ 1000000000000000)) = true := by simp [hv0, hv1]
  go_enter Tryd.func153, Tryd.ntmps153
  go_wp2_with (go_at_call 164; refine (Tryd.strconv_ParseInt_10_at64_ok _ (by omega) v h w).mono ?_)
  rintro e w1 ⟨rfl, hw1⟩
  have hb := below_parse hw1
  have ht1 : w1.heap[1]? = some (.cells pow10Cells t fr) := (hb.block 1 h1).trans ht
  clear hw1 h
  go_wp2_with (go_at_call 147; refine (isValue_any v w1).mono ?_)
  rintro e w2 ⟨rfl, rfl⟩
  rw [hiv]
  go_wp2_with (go_at_call 54; refine (dec_any v (by omega) (by omega) w2 t fr ht1).mono ?_)
  rintro e w3 ⟨rfl, hb3⟩
  have he2 : ((ByteArray.mk (Lib.itoa v).toArray).toList == s.toList) = false := by
    rw [beq_eq_false_iff_ne]
    intro q
    rw [ByteArray.toList_eq, ByteArray.toList_eq] at q
    exact he (WideShapes.bytes_inj q)
  generalize ByteArray.mk (Lib.itoa v).toArray = q at he he2 ⊢
  clear he
  go_wp2
  go_ret2
  exact ⟨rfl, below_then hb hb3⟩

set_option maxRecDepth 100000 in
theorem rd_out (s : ByteArray) (v : Int) (h : Lib.parseIntB 64 s.data.toList = .ok v) (hs : s.size ≤ 281474976710656) (w : World) (hiv : (decide (-1000000000000000 ≤ v) && decide (v ≤ 1000000000000000)) = false) :
    Calls Tryd.prog 153 #[.string s] w fun e w' => e = .returned (.tuple #[.int .i64 0, .bool false]) ∧ Below w.heap.size w w' := by
  go_enter Tryd.func153, Tryd.ntmps153
  go_wp2_with (go_at_call 164; refine (Tryd.strconv_ParseInt_10_at64_ok _ (by omega) v h w).mono ?_)
  rintro e w1 ⟨rfl, hw1⟩
  have hb := below_parse hw1
  clear hw1 h
  go_wp2_with (go_at_call 147; refine (isValue_any v w1).mono ?_)
  rintro e w2 ⟨rfl, rfl⟩
  rw [hiv]
  go_wp2
  go_ret2
  exact ⟨rfl, hb⟩

set_option maxRecDepth 100000 in
theorem rd_syntax (s : ByteArray) (h : Lib.parseIntB 64 s.data.toList = Lib.parseIntB 64 []) (hs : s.size ≤ 281474976710656) (w : World) (ev : Value) (hv : w.cell? ⟨6, 0, none⟩ = some ev) (hev : ev = .nilIface ∨ ∃ te pe, ev = .iface te pe) :
    Calls Tryd.prog 153 #[.string s] w fun e w' => e = .returned (.tuple #[.int .i64 0, .bool false]) ∧ Below w.heap.size w w' := by
  go_enter Tryd.func153, Tryd.ntmps153
  go_wp2_with (go_at_call 164; refine (Tryd.strconv_ParseInt_10_at64_syntax _ (by omega) h ev w hv hev).mono ?_)
  rintro e w1 ⟨N, rfl, _, _, hb⟩
  clear h hv hev
  go_wp2
  go_ret2
  exact ⟨rfl, hb⟩

set_option maxRecDepth 100000 in
theorem rd_range (s : ByteArray) (h : Lib.parseIntB 64 s.data.toList = .range) (hs : s.size ≤ 281474976710656) (w : World) (ev : Value) (hv : w.cell? ⟨7, 0, none⟩ = some ev) (hev : ev = .nilIface ∨ ∃ te pe, ev = .iface te pe) :
    Calls Tryd.prog 153 #[.string s] w fun e w' => e = .returned (.tuple #[.int .i64 0, .bool false]) ∧ Below w.heap.size w w' := by
  go_enter Tryd.func153, Tryd.ntmps153
  go_wp2_with (go_at_call 164; refine (Tryd.strconv_ParseInt_10_at64_range _ (by omega) h ev w hv hev).mono ?_)
  rintro e w1 ⟨N, rfl, _, _, hb⟩
  clear h hv hev
  go_wp2
  go_ret2
  exact ⟨rfl, hb⟩

end

/-- The number with this decimal text. -/
noncomputable def rdDec (s : List UInt8) : Int × Bool :=
  match Lib.parseIntB 64 s with
  | .ok v => if (-1000000000000000 ≤ v ∧ v ≤ 1000000000000000) ∧ Lib.itoa v = s then (v, true) else (0, false)
  | _ => (0, false)

noncomputable def impl_ReadDecimal (a0 : List UInt8) : Option (Int × Bool) :=
  guardP (a0.length ≤ 281474976710656) <| some (rdDec a0)

theorem f153_ok {a0 : List UInt8} {r : Int × Bool} (h : impl_ReadDecimal a0 = some r) : CallOK Tryd.prog 153 [.imm .str a0] [⟨false, (.int .i64), r.1⟩, ⟨false, .bool, r.2⟩] [] := by
  obtain ⟨hg, h⟩ := of_guard h
  have h := of_some h
  subst h
  exact simple_ok (ps := [⟨.str, a0⟩]) (rs := [⟨.int .i64, (rdDec a0).1⟩, ⟨.bool, (rdDec a0).2⟩]) ⟨_, Tryd.func153, by kernel_rfl, by kernel_rfl⟩ (by simp [Ty.simple]) (by simp [Ty.simple]) fun w S hgl => by
    obtain ⟨_, t, fr, ht⟩ := Glob.pow hgl
    obtain ⟨_, ⟨h6, e6, c6, v6⟩, h7, e7, c7, v7⟩ := hgl
    have h1 : 1 < w.heap.size := (Array.getElem?_eq_some_iff.1 ht).1
    have key : Calls Tryd.prog 153 #[.string ⟨a0.toArray⟩] w fun e w' => e = .returned (.tuple #[.int .i64 (rdDec a0).1, .bool (rdDec a0).2]) ∧ RowKit.Below w.heap.size w w' := by
      unfold rdDec
      cases hp : Lib.parseIntB 64 a0 with
      | ok v =>
        simp only
        by_cases hi : -1000000000000000 ≤ v ∧ v ≤ 1000000000000000
        · by_cases he : Lib.itoa v = a0
          · rw [if_pos ⟨hi, he⟩]
            exact rd_ok ⟨a0.toArray⟩ v hp hg w t fr ht h1 hi.1 hi.2 (by rw [he])
          · rw [if_neg fun q => he q.2]
            exact rd_other ⟨a0.toArray⟩ v hp hg w t fr ht h1 hi.1 hi.2 (fun q => he (by injection q with q; exact List.toArray_inj q))
        · rw [if_neg fun q => hi q.1]
          exact rd_out ⟨a0.toArray⟩ v hp hg w (by
            rw [Bool.eq_false_iff]
            intro q
            simp only [Bool.and_eq_true, decide_eq_true_eq] at q
            exact hi q)
      | range => exact rd_range ⟨a0.toArray⟩ hp hg w e7 c7 v7
      | _ => exact rd_syntax ⟨a0.toArray⟩ hp hg w e6 c6 v6
    exact key.mono fun e w' ⟨he, hw⟩ => ⟨⟨_, he, rfl⟩, hw⟩

noncomputable def impl_readList_B1 (y1 : List (List UInt8)) (s3 : Int × List Int) : Option ((Int × List Int) ⊕ (List Int ⊕ Unit)) :=
  bif (decide (s3.1 < (lenI y1))) then
    guardP ((0 : Int) ≤ s3.1 ∧ s3.1 < lenI y1) (
      (impl_ReadDecimal (List.getD y1 (Int.toNat s3.1) ([] : List UInt8))).bind fun y12 =>
      bif (!y12.2) then
        some (.inr (.inr ()))
      else
        guardP (List.length s3.2 + List.length ([y12.1] : List Int) ≤ appMax) (
          some (.inl ((wadd .i64 s3.1 (1 : Int)), (s3.2 ++ ([y12.1] : List Int))))))
  else
    some (.inr (.inl s3.2))

noncomputable def impl_readList (a0 : List UInt8) : Option (List Int × Bool) :=
  (impl_pieces a0).bind fun y1 =>
  (rounds (impl_readList_B1 y1) ((0 : Int), ([] : List Int))).bind fun r4 => match r4 with
    | .inl r5 =>
      some (r5, true)
    | .inr r6 =>
      some (([] : List Int), false)

theorem f138_ok {a0 : List UInt8} {r : List Int × Bool} (hr : impl_readList a0 = some r) : CallOK Tryd.prog 138 [.imm .str a0] [⟨true, tLI, r.1⟩, ⟨false, .bool, r.2⟩] [] := by
  unfold impl_readList at hr
  refine CallOK.of_body (ts := [(true, tLI), (false, .bool)]) Tryd.func138 rfl (by kernel_rfl) (Nat.le_of_ble_eq_true (by kernel_rfl)) fun cx hP hN hO hF => ?_
  have hO : cx.own.map Prod.fst = [] := hO
  have hX := CxIs.mk hP hN hO
  have hF := hF rfl
  show HT cx ⟨[(0, .one (.dat .str a0))], [], 0⟩ _ _
  refine HT.rg2 (oHs 2) ⟨[(0, .one (.dat .str a0))], [], 0⟩ hX (by kernel_rfl) allNil ?_
  refine HT.rg2 (oHs 2) ⟨[(0, .one (.dat .str a0)), (4, .one (.nilS))], [], 0⟩ hX (by kernel_rfl) allNil ?_
  refine HT.seq ?_
  obtain ⟨y1, hc2, hr⟩ := of_bind hr
  refine HT.rg2 [oH, ⟨none, .call [.imm .str] [⟨true, (.sl .str), y1⟩] []⟩, oH, oH] ⟨[(4, .one (.nilS)), (11, aV 0), (12, iV (lenI y1)), (13, iV (0 : Int))], [(0, .seq .str y1)], 1⟩ hX (by kernel_rfl) (allCons (f152_ok hc2) allNil) ?_
  refine HT.block ?_
  obtain ⟨r4, hL16, hr⟩ := of_bind hr
  refine HT.loopL (fun (s3 : Int × List Int) => ⟨[(4, aV 0), (11, aV 1), (12, iV (lenI y1)), (13, iV s3.1)], [(0, .seq tI s3.2), (1, .seq .str y1)], 2⟩) (fun (r4 : List Int ⊕ Unit) => match r4 with | .inl r5 => (.exit 0, ⟨[(4, aV 0)], [(0, .seq tI r5)], 1⟩) | .inr r6 => (.ret, ⟨[(2, .one (.nilS)), (3, bV false)], [], 0⟩)) (Le.re [(0, 1)] [0] hX (by kernel_rfl)) hL16 ?_ (fun s3 x7 hx8 hk9 => ?_)
  · rcases r4 with r5 | r6
    · refine (qBlockX (qThen ?_))
      refine HT.rg2 (oHs 3) ⟨[(2, aV 0), (3, bV true)], [(0, .seq tI r5)], 1⟩ hX (by kernel_rfl) allNil ?_
      have hr := of_some hr
      subst hr
      exact HT.ret ⟨[aV 0, bV true], [0], [], by kernel_rfl, by kernel_rfl, rfl, by kernel_rfl, by kernel_rfl, trivial⟩
    · have hr := of_some hr
      subst hr
      exact (qBlockR (qThenR ⟨[.one (.nilS), bV false], [], [], by kernel_rfl, by kernel_rfl, rfl, by kernel_rfl, by kernel_rfl, trivial⟩))
  · refine HT.rg2 [oH] ⟨[(4, aV 0), (11, aV 1), (12, iV (lenI y1)), (13, iV s3.1), (14, bV (decide (s3.1 < (lenI y1))))], [(0, .seq tI s3.2), (1, .seq .str y1)], 2⟩ hX (by kernel_rfl) allNil ?_
    refine HT.seq ?_
    rcases of_bif hx8 with ⟨hb10, hx8⟩ | ⟨hb10, hx8⟩
    · refine HT.cond1 rfl hb10 ?_
      refine HT.skip (qThen ?_)
      refine HT.seq ?_
      refine HT.block ?_
      obtain ⟨hg11, hx8⟩ := of_guard hx8
      refine HT.rg2 (oHs 3) ⟨[(4, aV 0), (6, .one (.dat .str (List.getD y1 (Int.toNat s3.1) ([] : List UInt8)))), (11, aV 1), (12, iV (lenI y1)), (13, iV s3.1)], [(0, .seq tI s3.2), (1, .seq .str y1)], 2⟩ hX (by kernel_rfl) (allCons hg11 (allCons (natLt hg11) allNil)) ?_
      obtain ⟨y12, hc13, hx8⟩ := of_bind hx8
      refine HT.rg2 [oH, ⟨none, .call [.imm .str] [⟨false, tI, y12.1⟩, ⟨false, .bool, y12.2⟩] []⟩, oH, oH, oH, oH, oH] ⟨[(4, aV 0), (7, iV y12.1), (8, bV y12.2), (11, aV 1), (12, iV (lenI y1)), (13, iV s3.1)], [(0, .seq tI s3.2), (1, .seq .str y1)], 2⟩ hX (by kernel_rfl) (allCons (f153_ok hc13) allNil) ?_
      refine HT.seq ?_
      refine HT.rg2 (oHs 2) ⟨[(4, aV 0), (7, iV y12.1), (11, aV 1), (12, iV (lenI y1)), (13, iV s3.1), (23, bV (!y12.2))], [(0, .seq tI s3.2), (1, .seq .str y1)], 2⟩ hX (by kernel_rfl) allNil ?_
      rcases of_bif hx8 with ⟨hb14, hx8⟩ | ⟨hb14, hx8⟩
      · refine HT.cond1 rfl hb14 ?_
        refine HT.rg2 (oHs 2) ⟨[(2, .one (.nilS)), (3, bV false)], [], 2⟩ hX (by kernel_rfl) allNil ?_
        have hx8 := of_some hx8
        subst hx8
        exact HT.retL (Le.re [] [] hX (by kernel_rfl)) (qThenR (qBlockR (qThenR (qLoopR (hk9 (.inr ()) rfl)))))
      · refine HT.cond0 rfl hb14 ?_
        refine HT.skip (qThen ?_)
        obtain ⟨hg15, hx8⟩ := of_guard hx8
        refine HT.rgL [oH, oH, ⟨none, .ty tI⟩, ⟨none, .ty tI⟩, oH] ⟨[(4, aV 3), (11, aV 1), (12, iV (lenI y1)), (13, iV s3.1)], [(3, .seq tI (s3.2 ++ ([y12.1] : List Int))), (1, .seq .str y1)], 4⟩ hX (by kernel_rfl) (allCons hg15 allNil) (qBlock (qThen ?_))
        have hx8 := of_some hx8
        subst hx8
        exact HT.rgK (oHs 2) [(3, 0), (1, 1)] [] hX (by kernel_rfl) allNil (fun _ h => (qLoopN ⟨((wadd .i64 s3.1 (1 : Int)), (s3.2 ++ ([y12.1] : List Int))), rfl, h⟩))
    · refine HT.cond0 rfl hb10 ?_
      have hx8 := of_some hx8
      subst hx8
      exact HT.exitL (Le.re [(0, 0)] [] hX (by kernel_rfl)) (qThenE (qLoopE (hk9 (.inl s3.2) rfl)))

noncomputable def impl_ReadList (a0 : List UInt8) : Option (List Int × Bool) :=
  (impl_readList a0).bind fun y1 =>
  (show Option (Bool) from
    bif (!y1.2) then
      some true
    else
      some (decide ((lenI y1.1) > (64 : Int)))).bind fun v3 =>
  bif v3 then
    some (([] : List Int), false)
  else
    some (y1.1, true)

theorem f125_ok {a0 : List UInt8} {r : List Int × Bool} (hr : impl_ReadList a0 = some r) : CallOK Tryd.prog 125 [.imm .str a0] [⟨true, tLI, r.1⟩, ⟨false, .bool, r.2⟩] [] := by
  unfold impl_ReadList at hr
  refine CallOK.of_body (ts := [(true, tLI), (false, .bool)]) Tryd.func125 rfl (by kernel_rfl) (Nat.le_of_ble_eq_true (by kernel_rfl)) fun cx hP hN hO hF => ?_
  have hO : cx.own.map Prod.fst = [] := hO
  have hX := CxIs.mk hP hN hO
  have hF := hF rfl
  show HT cx ⟨[(0, .one (.dat .str a0))], [], 0⟩ _ _
  refine HT.rg2 (oHs 2) ⟨[(0, .one (.dat .str a0))], [], 0⟩ hX (by kernel_rfl) allNil ?_
  obtain ⟨y1, hc2, hr⟩ := of_bind hr
  refine HT.rg2 [oH, ⟨none, .call [.imm .str] [⟨true, tLI, y1.1⟩, ⟨false, .bool, y1.2⟩] []⟩, oH, oH, oH, oH, oH] ⟨[(4, aV 0), (5, bV y1.2)], [(0, .seq tI y1.1)], 1⟩ hX (by kernel_rfl) (allCons (f138_ok hc2) allNil) ?_
  refine HT.seq ?_
  obtain ⟨v3', hT5, hr⟩ := of_bind hr
  refine HT.join (fun (v3 : Bool) => ⟨[(4, aV 0), (17, bV v3)], [(0, .seq tI y1.1)], 1⟩) (fun v => v = v3') (fun v3 hv4 => ?_) (fun cont => ?_)
  · subst hv4
    rcases of_bif hr with ⟨hb6, hr⟩ | ⟨hb6, hr⟩
    · refine HT.cond1 rfl hb6 ?_
      refine HT.rg2 (oHs 2) ⟨[(2, .one (.nilS)), (3, bV false)], [], 1⟩ hX (by kernel_rfl) allNil ?_
      have hr := of_some hr
      subst hr
      exact HT.ret (qThenR ⟨[.one (.nilS), bV false], [], [], by kernel_rfl, by kernel_rfl, rfl, by kernel_rfl, by kernel_rfl, trivial⟩)
    · refine HT.cond0 rfl hb6 ?_
      refine HT.skip (qThen ?_)
      refine HT.rg2 (oHs 3) ⟨[(2, aV 0), (3, bV true)], [(0, .seq tI y1.1)], 1⟩ hX (by kernel_rfl) allNil ?_
      have hr := of_some hr
      subst hr
      exact HT.ret ⟨[aV 0, bV true], [0], [], by kernel_rfl, by kernel_rfl, rfl, by kernel_rfl, by kernel_rfl, trivial⟩
  · rcases of_bif hT5 with ⟨hb7, hT5⟩ | ⟨hb7, hT5⟩
    · exact HT.rgK [oH, oH, oH, ⟨some true, .no⟩, ⟨some true, .no⟩, ⟨some true, .no⟩, ⟨none, .tv true⟩] [(0, 0)] [] hX (by kernel_rfl) (allCons hb7 (allCons hb7 (allCons hb7 (allCons hb7 allNil)))) (fun _ h => (qThen (h.ht (cont true (of_some hT5)))))
    · exact HT.rgK [oH, oH, oH, ⟨some false, .no⟩, ⟨some false, .no⟩, ⟨some false, .no⟩, ⟨none, .tv false⟩] [(0, 0)] [] hX (by kernel_rfl) (allCons hb7 (allCons hb7 (allCons hb7 (allCons hb7 allNil)))) (fun _ h => (qThen (h.ht (cont (decide ((lenI y1.1) > (64 : Int))) (of_some hT5)))))

noncomputable def impl_readLists_B1 (y1 : List (List UInt8)) (s3 : Int × List (List Int)) : Option ((Int × List (List Int)) ⊕ (List (List Int) ⊕ Unit)) :=
  bif (decide (s3.1 < (lenI y1))) then
    guardP ((0 : Int) ≤ s3.1 ∧ s3.1 < lenI y1) (
      (impl_ReadList (List.getD y1 (Int.toNat s3.1) ([] : List UInt8))).bind fun y12 =>
      bif (!y12.2) then
        some (.inr (.inr ()))
      else
        guardP (List.length s3.2 + List.length ([y12.1] : List (List Int)) ≤ appMax) (
          some (.inl ((wadd .i64 s3.1 (1 : Int)), (s3.2 ++ ([y12.1] : List (List Int)))))))
  else
    some (.inr (.inl s3.2))

noncomputable def impl_readLists (a0 : List UInt8) (a1 : Int) : Option (List (List Int) × Bool) :=
  (strings_Split a0 ([59] : List UInt8)).bind fun y1 =>
  (rounds (impl_readLists_B1 y1) ((0 : Int), ([] : List (List Int)))).bind fun r4 => match r4 with
    | .inl r5 =>
      some (r5, ((lenI r5) == a1))
    | .inr r6 =>
      some (([] : List (List Int)), false)

theorem f87_ok {a0 : List UInt8} {a1 : Int} {r : List (List Int) × Bool} (hr : impl_readLists a0 a1 = some r) : CallOK Tryd.prog 87 [.imm .str a0, .imm tI a1] [⟨true, (.sl (.own tI)), r.1⟩, ⟨false, .bool, r.2⟩] [] := by
  unfold impl_readLists at hr
  refine CallOK.of_body (ts := [(true, (.sl (.own tI))), (false, .bool)]) Tryd.func87 rfl (by kernel_rfl) (Nat.le_of_ble_eq_true (by kernel_rfl)) fun cx hP hN hO hF => ?_
  have hO : cx.own.map Prod.fst = [] := hO
  have hX := CxIs.mk hP hN hO
  have hF := hF rfl
  show HT cx ⟨[(0, .one (.dat .str a0)), (1, iV a1)], [], 0⟩ _ _
  refine HT.rg2 (oHs 2) ⟨[(0, .one (.dat .str a0)), (1, iV a1)], [], 0⟩ hX (by kernel_rfl) allNil ?_
  refine HT.rg2 (oHs 2) ⟨[(0, .one (.dat .str a0)), (1, iV a1), (6, .one (.nilS))], [], 0⟩ hX (by kernel_rfl) allNil ?_
  refine HT.seq ?_
  obtain ⟨y1, hc2, hr⟩ := of_bind hr
  refine HT.rg2 [oH, ⟨none, .call [.imm .str, .imm .str] [⟨true, (.sl .str), y1⟩] []⟩, oH, oH] ⟨[(1, iV a1), (6, .one (.nilS)), (13, aV 0), (14, iV (lenI y1)), (15, iV (0 : Int))], [(0, .seq .str y1)], 1⟩ hX (by kernel_rfl) (allCons (f124_ok hc2) allNil) ?_
  refine HT.block ?_
  obtain ⟨r4, hL16, hr⟩ := of_bind hr
  refine HT.loopL (fun (s3 : Int × List (List Int)) => ⟨[(1, iV a1), (6, aV 0), (13, aV 1), (14, iV (lenI y1)), (15, iV s3.1)], [(0, .seq (.own tI) s3.2), (1, .seq .str y1)], 2⟩) (fun (r4 : List (List Int) ⊕ Unit) => match r4 with | .inl r5 => (.exit 0, ⟨[(1, iV a1), (6, aV 0)], [(0, .seq (.own tI) r5)], 1⟩) | .inr r6 => (.ret, ⟨[(4, .one (.nilS)), (5, bV false)], [], 0⟩)) (Le.re [(0, 1)] [0] hX (by kernel_rfl)) hL16 ?_ (fun s3 x7 hx8 hk9 => ?_)
  · rcases r4 with r5 | r6
    · refine (qBlockX (qThen ?_))
      refine HT.rg2 (oHs 7) ⟨[(4, aV 0), (5, bV ((lenI r5) == a1))], [(0, .seq (.own tI) r5)], 1⟩ hX (by kernel_rfl) allNil ?_
      have hr := of_some hr
      subst hr
      exact HT.ret ⟨[aV 0, bV ((lenI r5) == a1)], [0], [], by kernel_rfl, by kernel_rfl, rfl, by kernel_rfl, by kernel_rfl, trivial⟩
    · have hr := of_some hr
      subst hr
      exact (qBlockR (qThenR ⟨[.one (.nilS), bV false], [], [], by kernel_rfl, by kernel_rfl, rfl, by kernel_rfl, by kernel_rfl, trivial⟩))
  · refine HT.rg2 [oH] ⟨[(1, iV a1), (6, aV 0), (13, aV 1), (14, iV (lenI y1)), (15, iV s3.1), (16, bV (decide (s3.1 < (lenI y1))))], [(0, .seq (.own tI) s3.2), (1, .seq .str y1)], 2⟩ hX (by kernel_rfl) allNil ?_
    refine HT.seq ?_
    rcases of_bif hx8 with ⟨hb10, hx8⟩ | ⟨hb10, hx8⟩
    · refine HT.cond1 rfl hb10 ?_
      refine HT.skip (qThen ?_)
      refine HT.seq ?_
      refine HT.block ?_
      obtain ⟨hg11, hx8⟩ := of_guard hx8
      refine HT.rg2 (oHs 3) ⟨[(1, iV a1), (6, aV 0), (8, .one (.dat .str (List.getD y1 (Int.toNat s3.1) ([] : List UInt8)))), (13, aV 1), (14, iV (lenI y1)), (15, iV s3.1)], [(0, .seq (.own tI) s3.2), (1, .seq .str y1)], 2⟩ hX (by kernel_rfl) (allCons hg11 (allCons (natLt hg11) allNil)) ?_
      obtain ⟨y12, hc13, hx8⟩ := of_bind hx8
      refine HT.rg2 [oH, ⟨none, .call [.imm .str] [⟨true, tLI, y12.1⟩, ⟨false, .bool, y12.2⟩] []⟩, oH, oH, oH, oH, oH] ⟨[(1, iV a1), (6, aV 0), (9, aV 2), (10, bV y12.2), (13, aV 1), (14, iV (lenI y1)), (15, iV s3.1)], [(2, .seq tI y12.1), (0, .seq (.own tI) s3.2), (1, .seq .str y1)], 3⟩ hX (by kernel_rfl) (allCons (f125_ok hc13) allNil) ?_
      refine HT.seq ?_
      refine HT.rg2 (oHs 2) ⟨[(1, iV a1), (6, aV 0), (9, aV 2), (13, aV 1), (14, iV (lenI y1)), (15, iV s3.1), (25, bV (!y12.2))], [(2, .seq tI y12.1), (0, .seq (.own tI) s3.2), (1, .seq .str y1)], 3⟩ hX (by kernel_rfl) allNil ?_
      rcases of_bif hx8 with ⟨hb14, hx8⟩ | ⟨hb14, hx8⟩
      · refine HT.cond1 rfl hb14 ?_
        refine HT.rg2 (oHs 2) ⟨[(4, .one (.nilS)), (5, bV false)], [], 3⟩ hX (by kernel_rfl) allNil ?_
        have hx8 := of_some hx8
        subst hx8
        exact HT.retL (Le.re [] [] hX (by kernel_rfl)) (qThenR (qBlockR (qThenR (qLoopR (hk9 (.inr ()) rfl)))))
      · refine HT.cond0 rfl hb14 ?_
        refine HT.skip (qThen ?_)
        obtain ⟨hg15, hx8⟩ := of_guard hx8
        refine HT.rgL [oH, oH, ⟨none, .ty (.own tI)⟩, ⟨none, .ty (.own tI)⟩, oH] ⟨[(1, iV a1), (6, aV 4), (13, aV 1), (14, iV (lenI y1)), (15, iV s3.1)], [(4, .seq (.own tI) (s3.2 ++ ([y12.1] : List (List Int)))), (1, .seq .str y1)], 5⟩ hX (by kernel_rfl) (allCons hg15 allNil) (qBlock (qThen ?_))
        have hx8 := of_some hx8
        subst hx8
        exact HT.rgK (oHs 2) [(4, 0), (1, 1)] [] hX (by kernel_rfl) allNil (fun _ h => (qLoopN ⟨((wadd .i64 s3.1 (1 : Int)), (s3.2 ++ ([y12.1] : List (List Int)))), rfl, h⟩))
    · refine HT.cond0 rfl hb10 ?_
      have hx8 := of_some hx8
      subst hx8
      exact HT.exitL (Le.re [(0, 0)] [] hX (by kernel_rfl)) (qThenE (qLoopE (hk9 (.inl s3.2) rfl)))

noncomputable def impl_within (a0 : Int) (a1 : Int) (a2 : Int) : Option (Bool) :=
  (show Option (Bool) from
    bif (decide (a0 ≥ a1)) then
      some (decide (a0 ≤ a2))
    else
      some false).bind fun v1 =>
  some v1

theorem f106_ok {a0 : Int} {a1 : Int} {a2 : Int} {r : Bool} (hr : impl_within a0 a1 a2 = some r) : CallOK Tryd.prog 106 [.imm tI a0, .imm tI a1, .imm tI a2] [⟨false, .bool, r⟩] [] := by
  unfold impl_within at hr
  refine CallOK.of_body (ts := [(false, .bool)]) Tryd.func106 rfl (by kernel_rfl) (Nat.le_of_ble_eq_true (by kernel_rfl)) fun cx hP hN hO hF => ?_
  have hO : cx.own.map Prod.fst = [] := hO
  have hX := CxIs.mk hP hN hO
  have hF := hF rfl
  show HT cx ⟨[(0, iV a0), (1, iV a1), (2, iV a2)], [], 0⟩ _ _
  refine HT.rg2 [oH] ⟨[(0, iV a0), (1, iV a1), (2, iV a2)], [], 0⟩ hX (by kernel_rfl) allNil ?_
  obtain ⟨v1', hT3, hr⟩ := of_bind hr
  refine HT.join (fun (v1 : Bool) => ⟨[(6, bV v1)], [], 0⟩) (fun v => v = v1') (fun v1 hv2 => ?_) (fun cont => ?_)
  · subst hv2
    have hr := of_some hr
    subst hr
    exact HT.ret ⟨[bV v1], [], [], by kernel_rfl, by kernel_rfl, rfl, by kernel_rfl, by kernel_rfl, trivial⟩
  · rcases of_bif hT3 with ⟨hb4, hT3⟩ | ⟨hb4, hT3⟩
    · exact HT.rgK [oH, oH, oH, oH, ⟨some true, .no⟩, ⟨some true, .no⟩, ⟨some true, .no⟩, ⟨none, .tv true⟩, oH] [] [] hX (by kernel_rfl) (allCons hb4 (allCons hb4 (allCons hb4 (allCons hb4 allNil)))) (fun _ h => (qThen (h.ht (cont (decide (a0 ≤ a2)) (of_some hT3)))))
    · exact HT.rgK [oH, oH, oH, oH, ⟨some false, .no⟩, ⟨some false, .no⟩, ⟨some false, .no⟩, ⟨none, .tv false⟩, oH] [] [] hX (by kernel_rfl) (allCons hb4 (allCons hb4 (allCons hb4 (allCons hb4 allNil)))) (fun _ h => (qThen (h.ht (cont false (of_some hT3)))))

noncomputable def impl_areWithin_B1 (a0 : List Int) (a1 : Int) (a2 : Int) (s1 : Int) : Option ((Int) ⊕ (Unit ⊕ Unit)) :=
  bif (decide (s1 < (lenI a0))) then
    guardP ((0 : Int) ≤ s1 ∧ s1 < lenI a0) (
      (impl_within (List.getD a0 (Int.toNat s1) (0 : Int)) a1 a2).bind fun y10 =>
      bif (!y10) then
        some (.inr (.inr ()))
      else
        some (.inl (wadd .i64 s1 (1 : Int))))
  else
    some (.inr (.inl ()))

noncomputable def impl_areWithin (a0 : List Int) (a1 : Int) (a2 : Int) : Option (Bool) :=
  (rounds (impl_areWithin_B1 a0 a1 a2) (0 : Int)).bind fun r2 => match r2 with
    | .inl r3 =>
      some true
    | .inr r4 =>
      some false

theorem f117_ok {a0 : List Int} {a1 : Int} {a2 : Int} {r : Bool} (hr : impl_areWithin a0 a1 a2 = some r) : CallOK Tryd.prog 117 [.imm tLI a0, .imm tI a1, .imm tI a2] [⟨false, .bool, r⟩] [] := by
  unfold impl_areWithin at hr
  refine CallOK.of_body (ts := [(false, .bool)]) Tryd.func117 rfl (by kernel_rfl) (Nat.le_of_ble_eq_true (by kernel_rfl)) fun cx hP hN hO hF => ?_
  have hO : cx.own.map Prod.fst = [] := hO
  have hX := CxIs.mk hP hN hO
  have hF := hF rfl
  show HT cx ⟨[(0, nV a0), (1, iV a1), (2, iV a2)], [], 0⟩ _ _
  refine HT.rg2 [oH] ⟨[(0, nV a0), (1, iV a1), (2, iV a2)], [], 0⟩ hX (by kernel_rfl) allNil ?_
  refine HT.seq ?_
  refine HT.rg2 (oHs 3) ⟨[(1, iV a1), (2, iV a2), (9, nV a0), (10, iV (lenI a0)), (11, iV (0 : Int))], [], 0⟩ hX (by kernel_rfl) allNil ?_
  refine HT.block ?_
  obtain ⟨r2, hL13, hr⟩ := of_bind hr
  refine HT.loopL (fun (s1 : Int) => ⟨[(1, iV a1), (2, iV a2), (9, nV a0), (10, iV (lenI a0)), (11, iV s1)], [], 0⟩) (fun (r2 : Unit ⊕ Unit) => match r2 with | .inl r3 => (.exit 0, ⟨[], [], 0⟩) | .inr r4 => (.ret, ⟨[(6, bV false)], [], 0⟩)) (Le.re [] [] hX (by kernel_rfl)) hL13 ?_ (fun s1 x5 hx6 hk7 => ?_)
  · rcases r2 with r3 | r4
    · refine (qBlockX (qThen ?_))
      refine HT.rg2 [oH] ⟨[(6, bV true)], [], 0⟩ hX (by kernel_rfl) allNil ?_
      have hr := of_some hr
      subst hr
      exact HT.ret ⟨[bV true], [], [], by kernel_rfl, by kernel_rfl, rfl, by kernel_rfl, by kernel_rfl, trivial⟩
    · have hr := of_some hr
      subst hr
      exact (qBlockR (qThenR ⟨[bV false], [], [], by kernel_rfl, by kernel_rfl, rfl, by kernel_rfl, by kernel_rfl, trivial⟩))
  · refine HT.rg2 [oH] ⟨[(1, iV a1), (2, iV a2), (9, nV a0), (10, iV (lenI a0)), (11, iV s1), (12, bV (decide (s1 < (lenI a0))))], [], 0⟩ hX (by kernel_rfl) allNil ?_
    refine HT.seq ?_
    rcases of_bif hx6 with ⟨hb8, hx6⟩ | ⟨hb8, hx6⟩
    · refine HT.cond1 rfl hb8 ?_
      refine HT.skip (qThen ?_)
      refine HT.seq ?_
      refine HT.block ?_
      obtain ⟨hg9, hx6⟩ := of_guard hx6
      refine HT.rg2 (oHs 3) ⟨[(1, iV a1), (2, iV a2), (8, iV (List.getD a0 (Int.toNat s1) (0 : Int))), (9, nV a0), (10, iV (lenI a0)), (11, iV s1)], [], 0⟩ hX (by kernel_rfl) (allCons hg9 allNil) ?_
      obtain ⟨y10, hc11, hx6⟩ := of_bind hx6
      refine HT.rg2 [oH, oH, oH, ⟨none, .call [.imm tI, .imm tI, .imm tI] [⟨false, .bool, y10⟩] []⟩, oH] ⟨[(1, iV a1), (2, iV a2), (9, nV a0), (10, iV (lenI a0)), (11, iV s1), (19, bV (!y10))], [], 0⟩ hX (by kernel_rfl) (allCons (f106_ok hc11) allNil) ?_
      rcases of_bif hx6 with ⟨hb12, hx6⟩ | ⟨hb12, hx6⟩
      · refine HT.cond1 rfl hb12 ?_
        refine HT.rg2 [oH] ⟨[(6, bV false)], [], 0⟩ hX (by kernel_rfl) allNil ?_
        have hx6 := of_some hx6
        subst hx6
        exact HT.retL (Le.re [] [] hX (by kernel_rfl)) (qBlockR (qThenR (qLoopR (hk7 (.inr ()) rfl))))
      · refine HT.cond0 rfl hb12 ?_
        refine HT.skip (qBlock (qThen ?_))
        have hx6 := of_some hx6
        subst hx6
        exact HT.rgK (oHs 2) [] [] hX (by kernel_rfl) allNil (fun _ h => (qLoopN ⟨(wadd .i64 s1 (1 : Int)), rfl, h⟩))
    · refine HT.cond0 rfl hb8 ?_
      have hx6 := of_some hx6
      subst hx6
      exact HT.exitL (Le.re [] [] hX (by kernel_rfl)) (qThenE (qLoopE (hk7 (.inl ()) rfl)))

noncomputable def impl_ValidPlain (a0 : Int × Int × List Int × List Bool) : Option (Bool) :=
  (show Option (Bool) from
    (impl_within a0.1 (1 : Int) (64 : Int)).bind fun y4 =>
    bif y4 then
      (impl_within a0.2.1 (1 : Int) (4 : Int)).bind fun y7 =>
      bif y7 then
        bif ((lenI a0.2.2.1) == (wmul .i64 a0.1 a0.2.1)) then
          (impl_areWithin a0.2.2.1 (0 : Int) (wsub .i64 a0.1 (1 : Int))).bind fun y11 =>
          bif y11 then
            some ((lenI a0.2.2.2) == a0.1)
          else
            some false
        else
          some false
      else
        some false
    else
      some false).bind fun v1 =>
  some v1

theorem f75_ok {a0 : Int × Int × List Int × List Bool} {r : Bool} (hr : impl_ValidPlain a0 = some r) : CallOK Tryd.prog 75 [.imm (.st (.pair tI (.pair tI (.pair tLI (.sl .bool))))) a0] [⟨false, .bool, r⟩] [] := by
  unfold impl_ValidPlain at hr
  refine CallOK.of_body (ts := [(false, .bool)]) Tryd.func75 rfl (by kernel_rfl) (Nat.le_of_ble_eq_true (by kernel_rfl)) fun cx hP hN hO hF => ?_
  have hO : cx.own.map Prod.fst = [] := hO
  have hX := CxIs.mk hP hN hO
  have hF := hF rfl
  show HT cx ⟨[(0, .agg [iC a0.1, iC a0.2.1, nC a0.2.2.1, .dat (.sl .bool) a0.2.2.2])], [], 0⟩ _ _
  refine HT.rg2 (oHs 2) ⟨[(1, pV 0 0)], [(0, .box [iC a0.1, iC a0.2.1, nC a0.2.2.1, .dat (.sl .bool) a0.2.2.2])], 1⟩ hX (by kernel_rfl) allNil ?_
  obtain ⟨v1', hT3, hr⟩ := of_bind hr
  refine HT.join (fun (v1 : Bool) => ⟨[(2, bV v1)], [], 0⟩) (fun v => v = v1') (fun v1 hv2 => ?_) (fun cont => ?_)
  · subst hv2
    have hr := of_some hr
    subst hr
    exact HT.ret ⟨[bV v1], [], [], by kernel_rfl, by kernel_rfl, rfl, by kernel_rfl, by kernel_rfl, trivial⟩
  · obtain ⟨y4, hc5, hT3⟩ := of_bind hT3
    rcases of_bif hT3 with ⟨hb6, hT3⟩ | ⟨hb6, hT3⟩
    · obtain ⟨y7, hc8, hT3⟩ := of_bind hT3
      rcases of_bif hT3 with ⟨hb9, hT3⟩ | ⟨hb9, hT3⟩
      · rcases of_bif hT3 with ⟨hb10, hT3⟩ | ⟨hb10, hT3⟩
        · obtain ⟨y11, hc12, hT3⟩ := of_bind hT3
          rcases of_bif hT3 with ⟨hb13, hT3⟩ | ⟨hb13, hT3⟩
          · exact HT.rgK [oH, oH, ⟨none, .call [.imm tI, .imm tI, .imm tI] [⟨false, .bool, y4⟩] []⟩, oH, ⟨some true, .no⟩, ⟨some true, .no⟩, ⟨some true, .call [.imm tI, .imm tI, .imm tI] [⟨false, .bool, y7⟩] []⟩, ⟨none, .tv true⟩, oH, ⟨some true, .no⟩, ⟨some true, .no⟩, ⟨some true, .no⟩, ⟨some true, .no⟩, ⟨some true, .no⟩, ⟨some true, .no⟩, ⟨some true, .no⟩, ⟨some true, .no⟩, ⟨some true, .no⟩, ⟨none, .tv true⟩, oH, ⟨some true, .no⟩, ⟨some true, .no⟩, ⟨some true, .no⟩, ⟨some true, .no⟩, ⟨some true, .no⟩, ⟨some true, .call [.imm tLI, .imm tI, .imm tI] [⟨false, .bool, y11⟩] []⟩, ⟨none, .tv true⟩, oH, ⟨some true, .no⟩, ⟨some true, .no⟩, ⟨some true, .no⟩, ⟨some true, .no⟩, ⟨some true, .no⟩, ⟨some true, .no⟩, ⟨none, .tv true⟩, oH] [] [] hX (by kernel_rfl) (allCons (f106_ok hc5) (allCons hb6 (allCons hb6 (allCons hb6 (allCons (f106_ok hc8) (allCons hb6 (allCons hb9 (allCons hb9 (allCons hb9 (allCons hb9 (allCons hb9 (allCons hb9 (allCons hb9 (allCons hb9 (allCons hb9 (allCons hb9 (allCons hb10 (allCons hb10 (allCons hb10 (allCons hb10 (allCons hb10 (allCons hb10 (allCons (f117_ok hc12) (allCons hb10 (allCons hb13 (allCons hb13 (allCons hb13 (allCons hb13 (allCons hb13 (allCons hb13 (allCons hb13 allNil))))))))))))))))))))))))))))))) (fun _ h => (qThen (h.ht (cont ((lenI a0.2.2.2) == a0.1) (of_some hT3)))))
          · exact HT.rgK [oH, oH, ⟨none, .call [.imm tI, .imm tI, .imm tI] [⟨false, .bool, y4⟩] []⟩, oH, ⟨some true, .no⟩, ⟨some true, .no⟩, ⟨some true, .call [.imm tI, .imm tI, .imm tI] [⟨false, .bool, y7⟩] []⟩, ⟨none, .tv true⟩, oH, ⟨some true, .no⟩, ⟨some true, .no⟩, ⟨some true, .no⟩, ⟨some true, .no⟩, ⟨some true, .no⟩, ⟨some true, .no⟩, ⟨some true, .no⟩, ⟨some true, .no⟩, ⟨some true, .no⟩, ⟨none, .tv true⟩, oH, ⟨some true, .no⟩, ⟨some true, .no⟩, ⟨some true, .no⟩, ⟨some true, .no⟩, ⟨some true, .no⟩, ⟨some true, .call [.imm tLI, .imm tI, .imm tI] [⟨false, .bool, y11⟩] []⟩, ⟨none, .tv true⟩, oH, ⟨some false, .no⟩, ⟨some false, .no⟩, ⟨some false, .no⟩, ⟨some false, .no⟩, ⟨some false, .no⟩, ⟨some false, .no⟩, ⟨none, .tv false⟩, oH] [] [] hX (by kernel_rfl) (allCons (f106_ok hc5) (allCons hb6 (allCons hb6 (allCons hb6 (allCons (f106_ok hc8) (allCons hb6 (allCons hb9 (allCons hb9 (allCons hb9 (allCons hb9 (allCons hb9 (allCons hb9 (allCons hb9 (allCons hb9 (allCons hb9 (allCons hb9 (allCons hb10 (allCons hb10 (allCons hb10 (allCons hb10 (allCons hb10 (allCons hb10 (allCons (f117_ok hc12) (allCons hb10 (allCons hb13 (allCons hb13 (allCons hb13 (allCons hb13 (allCons hb13 (allCons hb13 (allCons hb13 allNil))))))))))))))))))))))))))))))) (fun _ h => (qThen (h.ht (cont false (of_some hT3)))))
        · exact HT.rgK [oH, oH, ⟨none, .call [.imm tI, .imm tI, .imm tI] [⟨false, .bool, y4⟩] []⟩, oH, ⟨some true, .no⟩, ⟨some true, .no⟩, ⟨some true, .call [.imm tI, .imm tI, .imm tI] [⟨false, .bool, y7⟩] []⟩, ⟨none, .tv true⟩, oH, ⟨some true, .no⟩, ⟨some true, .no⟩, ⟨some true, .no⟩, ⟨some true, .no⟩, ⟨some true, .no⟩, ⟨some true, .no⟩, ⟨some true, .no⟩, ⟨some true, .no⟩, ⟨some true, .no⟩, ⟨none, .tv true⟩, oH, ⟨some false, .no⟩, ⟨some false, .no⟩, ⟨some false, .no⟩, ⟨some false, .no⟩, ⟨some false, .no⟩, ⟨some false, .no⟩, ⟨none, .tv false⟩, oH, ⟨some false, .no⟩, ⟨some false, .no⟩, ⟨some false, .no⟩, ⟨some false, .no⟩, ⟨some false, .no⟩, ⟨some false, .no⟩, ⟨none, .tv false⟩, oH] [] [] hX (by kernel_rfl) (allCons (f106_ok hc5) (allCons hb6 (allCons hb6 (allCons hb6 (allCons (f106_ok hc8) (allCons hb6 (allCons hb9 (allCons hb9 (allCons hb9 (allCons hb9 (allCons hb9 (allCons hb9 (allCons hb9 (allCons hb9 (allCons hb9 (allCons hb9 (allCons hb10 (allCons hb10 (allCons hb10 (allCons hb10 (allCons hb10 (allCons hb10 (allCons hb10 (allCons (rfl : false = false) (allCons (rfl : false = false) (allCons (rfl : false = false) (allCons (rfl : false = false) (allCons (rfl : false = false) (allCons (rfl : false = false) (allCons (rfl : false = false) allNil)))))))))))))))))))))))))))))) (fun _ h => (qThen (h.ht (cont false (of_some hT3)))))
      · exact HT.rgK [oH, oH, ⟨none, .call [.imm tI, .imm tI, .imm tI] [⟨false, .bool, y4⟩] []⟩, oH, ⟨some true, .no⟩, ⟨some true, .no⟩, ⟨some true, .call [.imm tI, .imm tI, .imm tI] [⟨false, .bool, y7⟩] []⟩, ⟨none, .tv true⟩, oH, ⟨some false, .no⟩, ⟨some false, .no⟩, ⟨some false, .no⟩, ⟨some false, .no⟩, ⟨some false, .no⟩, ⟨some false, .no⟩, ⟨some false, .no⟩, ⟨some false, .no⟩, ⟨some false, .no⟩, ⟨none, .tv false⟩, oH, ⟨some false, .no⟩, ⟨some false, .no⟩, ⟨some false, .no⟩, ⟨some false, .no⟩, ⟨some false, .no⟩, ⟨some false, .no⟩, ⟨none, .tv false⟩, oH, ⟨some false, .no⟩, ⟨some false, .no⟩, ⟨some false, .no⟩, ⟨some false, .no⟩, ⟨some false, .no⟩, ⟨some false, .no⟩, ⟨none, .tv false⟩, oH] [] [] hX (by kernel_rfl) (allCons (f106_ok hc5) (allCons hb6 (allCons hb6 (allCons hb6 (allCons (f106_ok hc8) (allCons hb6 (allCons hb9 (allCons hb9 (allCons hb9 (allCons hb9 (allCons hb9 (allCons hb9 (allCons hb9 (allCons hb9 (allCons hb9 (allCons hb9 (allCons (rfl : false = false) (allCons (rfl : false = false) (allCons (rfl : false = false) (allCons (rfl : false = false) (allCons (rfl : false = false) (allCons (rfl : false = false) (allCons (rfl : false = false) (allCons (rfl : false = false) (allCons (rfl : false = false) (allCons (rfl : false = false) (allCons (rfl : false = false) (allCons (rfl : false = false) (allCons (rfl : false = false) (allCons (rfl : false = false) allNil)))))))))))))))))))))))))))))) (fun _ h => (qThen (h.ht (cont false (of_some hT3)))))
    · exact HT.rgK [oH, oH, ⟨none, .call [.imm tI, .imm tI, .imm tI] [⟨false, .bool, y4⟩] []⟩, oH, ⟨some false, .no⟩, ⟨some false, .no⟩, ⟨some false, .no⟩, ⟨none, .tv false⟩, oH, ⟨some false, .no⟩, ⟨some false, .no⟩, ⟨some false, .no⟩, ⟨some false, .no⟩, ⟨some false, .no⟩, ⟨some false, .no⟩, ⟨some false, .no⟩, ⟨some false, .no⟩, ⟨some false, .no⟩, ⟨none, .tv false⟩, oH, ⟨some false, .no⟩, ⟨some false, .no⟩, ⟨some false, .no⟩, ⟨some false, .no⟩, ⟨some false, .no⟩, ⟨some false, .no⟩, ⟨none, .tv false⟩, oH, ⟨some false, .no⟩, ⟨some false, .no⟩, ⟨some false, .no⟩, ⟨some false, .no⟩, ⟨some false, .no⟩, ⟨some false, .no⟩, ⟨none, .tv false⟩, oH] [] [] hX (by kernel_rfl) (allCons (f106_ok hc5) (allCons hb6 (allCons hb6 (allCons hb6 (allCons hb6 (allCons (rfl : false = false) (allCons (rfl : false = false) (allCons (rfl : false = false) (allCons (rfl : false = false) (allCons (rfl : false = false) (allCons (rfl : false = false) (allCons (rfl : false = false) (allCons (rfl : false = false) (allCons (rfl : false = false) (allCons (rfl : false = false) (allCons (rfl : false = false) (allCons (rfl : false = false) (allCons (rfl : false = false) (allCons (rfl : false = false) (allCons (rfl : false = false) (allCons (rfl : false = false) (allCons (rfl : false = false) (allCons (rfl : false = false) (allCons (rfl : false = false) (allCons (rfl : false = false) (allCons (rfl : false = false) (allCons (rfl : false = false) (allCons (rfl : false = false) (allCons (rfl : false = false) allNil))))))))))))))))))))))))))))) (fun _ h => (qThen (h.ht (cont false (of_some hT3)))))

noncomputable def impl_ReadPlain_B1 (a0 : List UInt8) (y1 : Int) (s22 : Int × List Bool) : Option ((Int × List Bool) ⊕ (List Bool ⊕ Unit)) :=
  bif (decide (s22.1 < (lenI (bytesI (cut a0 (wadd .i64 y1 (1 : Int)) (lenI a0)))))) then
    guardP ((0 : Int) ≤ s22.1 ∧ s22.1 < lenI (bytesI (cut a0 (wadd .i64 y1 (1 : Int)) (lenI a0)))) (
      (show Option (Bool) from
        bif ((List.getD (bytesI (cut a0 (wadd .i64 y1 (1 : Int)) (lenI a0))) (Int.toNat s22.1) (0 : Int)) != (48 : Int)) then
          some ((List.getD (bytesI (cut a0 (wadd .i64 y1 (1 : Int)) (lenI a0))) (Int.toNat s22.1) (0 : Int)) != (49 : Int))
        else
          some false).bind fun v34 =>
      bif v34 then
        some (.inr (.inr ()))
      else
        guardP (List.length s22.2 + List.length ([((List.getD (bytesI (cut a0 (wadd .i64 y1 (1 : Int)) (lenI a0))) (Int.toNat s22.1) (0 : Int)) == (49 : Int))] : List Bool) ≤ appMax) (
          some (.inl ((wadd .i64 s22.1 (1 : Int)), (s22.2 ++ ([((List.getD (bytesI (cut a0 (wadd .i64 y1 (1 : Int)) (lenI a0))) (Int.toNat s22.1) (0 : Int)) == (49 : Int))] : List Bool))))))
  else
    some (.inr (.inl s22.2))

noncomputable def impl_ReadPlain (a0 : List UInt8) : Option ((Int × Int × List Int × List Bool) × Bool) :=
  (strings_LastIndexByte a0 (59 : Int)).bind fun y1 =>
  bif (decide (y1 < (0 : Int))) then
    some (((0 : Int), (0 : Int), ([] : List Int), ([] : List Bool)), false)
  else
    guardP ((0 : Int) ≤ y1 ∧ y1 ≤ lenI a0) (
      (impl_readLists (cut a0 (0 : Int) y1) (2 : Int)).bind fun y5 =>
      (show Option (Bool) from
        bif (!y5.2) then
          some true
        else
          guardP ((0 : Int) ≤ (0 : Int) ∧ (0 : Int) < lenI y5.1) (
            some ((lenI (List.getD y5.1 (Int.toNat (0 : Int)) ([] : List Int))) != (2 : Int)))).bind fun v7 =>
      bif v7 then
        some (((0 : Int), (0 : Int), ([] : List Int), ([] : List Bool)), false)
      else
        guardP ((0 : Int) ≤ (0 : Int) ∧ (0 : Int) < lenI y5.1) (
          guardP ((0 : Int) ≤ (0 : Int) ∧ (0 : Int) < lenI (List.getD y5.1 (Int.toNat (0 : Int)) ([] : List Int))) (
            guardP ((0 : Int) ≤ (1 : Int) ∧ (1 : Int) < lenI (List.getD y5.1 (Int.toNat (0 : Int)) ([] : List Int))) (
              guardP ((0 : Int) ≤ (1 : Int) ∧ (1 : Int) < lenI y5.1) (
                guardP (Int.toNat (1 : Int) < List.length y5.1) (
                  guardP ((0 : Int) ≤ (wadd .i64 y1 (1 : Int)) ∧ (wadd .i64 y1 (1 : Int)) ≤ lenI a0) (
                    guardP (List.length (cut a0 (wadd .i64 y1 (1 : Int)) (lenI a0)) ≤ appMax) (
                      (some (List.getD (List.getD y5.1 (Int.toNat (0 : Int)) ([] : List Int)) (Int.toNat (0 : Int)) (0 : Int))).bind fun q18 =>
                      (some (List.getD (List.getD y5.1 (Int.toNat (0 : Int)) ([] : List Int)) (Int.toNat (1 : Int)) (0 : Int))).bind fun q20 =>
                      (rounds (impl_ReadPlain_B1 a0 y1) ((0 : Int), ([] : List Bool))).bind fun r23 => match r23 with
                        | .inl r24 =>
                          (impl_ValidPlain (q18, q20, (List.getD y5.1 (Int.toNat (1 : Int)) ([] : List Int)), r24)).bind fun y25 =>
                          bif (!y25) then
                            some (((0 : Int), (0 : Int), ([] : List Int), ([] : List Bool)), false)
                          else
                            some ((q18, q20, (List.getD y5.1 (Int.toNat (1 : Int)) ([] : List Int)), r24), true)
                        | .inr r28 =>
                          some (((0 : Int), (0 : Int), ([] : List Int), ([] : List Bool)), false)))))))))

theorem f37_ok {a0 : List UInt8} {r : (Int × Int × List Int × List Bool) × Bool} (hr : impl_ReadPlain a0 = some r) : CallOK Tryd.prog 37 [.imm .str a0] [⟨true, (.st (.pair tI (.pair tI (.pair tLI (.sl .bool))))), r.1⟩, ⟨false, .bool, r.2⟩] [] := by
  unfold impl_ReadPlain at hr
  refine CallOK.of_body (ts := [(true, (.st (.pair tI (.pair tI (.pair tLI (.sl .bool)))))), (false, .bool)]) Tryd.func37 rfl (by kernel_rfl) (Nat.le_of_ble_eq_true (by kernel_rfl)) fun cx hP hN hO hF => ?_
  have hO : cx.own.map Prod.fst = [] := hO
  have hX := CxIs.mk hP hN hO
  have hF := hF rfl
  show HT cx ⟨[(0, .one (.dat .str a0))], [], 0⟩ _ _
  refine HT.rg2 (oHs 2) ⟨[(0, .one (.dat .str a0)), (2, pV 0 0)], [(0, .box [iC (0 : Int), iC (0 : Int), .nilS, .nilS])], 1⟩ hX (by kernel_rfl) allNil ?_
  obtain ⟨y1, hc2, hr⟩ := of_bind hr
  refine HT.rg2 [oH, ⟨none, .call [.imm .str, .imm (.int .u8)] [⟨false, tI, y1⟩] []⟩, oH] ⟨[(0, .one (.dat .str a0)), (2, pV 0 0), (4, iV y1)], [(0, .box [iC (0 : Int), iC (0 : Int), .nilS, .nilS])], 1⟩ hX (by kernel_rfl) (allCons (f86_ok hc2) allNil) ?_
  refine HT.seq ?_
  refine HT.rg2 (oHs 2) ⟨[(0, .one (.dat .str a0)), (2, pV 0 0), (4, iV y1), (13, bV (decide (y1 < (0 : Int))))], [(0, .box [iC (0 : Int), iC (0 : Int), .nilS, .nilS])], 1⟩ hX (by kernel_rfl) allNil ?_
  rcases of_bif hr with ⟨hb3, hr⟩ | ⟨hb3, hr⟩
  · refine HT.cond1 rfl hb3 ?_
    refine HT.rg2 (oHs 3) ⟨[(2, pV 0 0), (3, bV false)], [(0, .box [iC (0 : Int), iC (0 : Int), .nilS, .nilS])], 1⟩ hX (by kernel_rfl) allNil ?_
    have hr := of_some hr
    subst hr
    exact HT.ret (qThenR ⟨[.agg [iC (0 : Int), iC (0 : Int), .nilS, .nilS], bV false], [], [], by kernel_rfl, by kernel_rfl, rfl, by kernel_rfl, by kernel_rfl, trivial⟩)
  · refine HT.cond0 rfl hb3 ?_
    refine HT.skip (qThen ?_)
    obtain ⟨hg4, hr⟩ := of_guard hr
    obtain ⟨y5, hc6, hr⟩ := of_bind hr
    refine HT.rg2 [oH, oH, oH, ⟨none, .call [.imm .str, .imm tI] [⟨true, (.sl (.own tI)), y5.1⟩, ⟨false, .bool, y5.2⟩] []⟩, oH, oH, oH, oH, oH] ⟨[(0, .one (.dat .str a0)), (2, pV 0 0), (4, iV y1), (5, aV 1), (6, bV y5.2)], [(1, .seq (.own tI) y5.1), (0, .box [iC (0 : Int), iC (0 : Int), .nilS, .nilS])], 2⟩ hX (by kernel_rfl) (allCons (show (0 : Int) ≤ 0 ∧ (0 : Int) ≤ y1 ∧ y1 ≤ lenI a0 from ⟨Int.le_refl _, hg4.1, hg4.2⟩) (allCons (f87_ok hc6) allNil)) ?_
    refine HT.seq ?_
    obtain ⟨v7', hT9, hr⟩ := of_bind hr
    refine HT.join (fun (v7 : Bool) => ⟨[(0, .one (.dat .str a0)), (2, pV 0 0), (4, iV y1), (5, aV 1), (30, bV v7)], [(0, .box [iC (0 : Int), iC (0 : Int), .nilS, .nilS]), (1, .seq (.own tI) y5.1)], 2⟩) (fun v => v = v7') (fun v7 hv8 => ?_) (fun cont => ?_)
    · subst hv8
      rcases of_bif hr with ⟨hb10, hr⟩ | ⟨hb10, hr⟩
      · refine HT.cond1 rfl hb10 ?_
        refine HT.rg2 (oHs 3) ⟨[(2, pV 0 0), (3, bV false)], [(0, .box [iC (0 : Int), iC (0 : Int), .nilS, .nilS])], 2⟩ hX (by kernel_rfl) allNil ?_
        have hr := of_some hr
        subst hr
        exact HT.ret (qThenR ⟨[.agg [iC (0 : Int), iC (0 : Int), .nilS, .nilS], bV false], [], [], by kernel_rfl, by kernel_rfl, rfl, by kernel_rfl, by kernel_rfl, trivial⟩)
      · refine HT.cond0 rfl hb10 ?_
        refine HT.skip (qThen ?_)
        obtain ⟨hg11, hr⟩ := of_guard hr
        obtain ⟨hg12, hr⟩ := of_guard hr
        obtain ⟨hg13, hr⟩ := of_guard hr
        obtain ⟨hg14, hr⟩ := of_guard hr
        refine HT.dr2 15 [⟨oH, []⟩, ⟨oH, [0]⟩, ⟨oH, [0, 1]⟩, ⟨oH, [0, 1, 2]⟩, ⟨oH, [0, 1, 2, 3]⟩, ⟨oH, []⟩, ⟨oH, [5]⟩, ⟨oH, [5, 6]⟩, ⟨oH, [5, 6, 7]⟩, ⟨oH, [5, 6, 7, 8]⟩, ⟨oH, []⟩, ⟨oH, [10]⟩, ⟨oH, [10, 11]⟩, ⟨oH, [0, 1, 2, 3, 4, 5, 6, 7, 8, 9, 10, 11, 12]⟩, ⟨oH, []⟩] [[0, 1, 2, 3, 4, 5, 6, 7, 8, 9, 10, 11, 12, 13, 14]] [oH] ⟨[(0, .one (.dat .str a0)), (2, pV 0 0), (4, iV y1), (7, pV 2 0)], [(2, .box [iC (List.getD (List.getD y5.1 (Int.toNat (0 : Int)) ([] : List Int)) (Int.toNat (0 : Int)) (0 : Int)), iC (List.getD (List.getD y5.1 (Int.toNat (0 : Int)) ([] : List Int)) (Int.toNat (1 : Int)) (0 : Int)), .row 1 (Int.toNat (1 : Int)) 0, .nilS]), (0, .box [iC (0 : Int), iC (0 : Int), .nilS, .nilS]), (1, .seq (.own tI) y5.1)], 3⟩ hX (by kernel_rfl) (by kernel_rfl) (allCons hg11 (allCons (natLt hg11) (allCons hg12 (allCons (natLt hg12) (allCons hg11 (allCons (natLt hg11) (allCons hg13 (allCons (natLt hg13) (allCons hg14 (allCons (natLt hg14) allNil)))))))))) ?_
        obtain ⟨hg15, hr⟩ := of_guard hr
        refine (Le.take (own := []) (st' := ⟨[(0, .one (.dat .str a0)), (2, pV 0 0), (4, iV y1), (7, pV 2 0)], [(1, .gone), (3, .seq tI (List.getD y5.1 (Int.toNat (1 : Int)) ([] : List Int))), (2, .box [iC (List.getD (List.getD y5.1 (Int.toNat (0 : Int)) ([] : List Int)) (Int.toNat (0 : Int)) (0 : Int)), iC (List.getD (List.getD y5.1 (Int.toNat (0 : Int)) ([] : List Int)) (Int.toNat (1 : Int)) (0 : Int)), .all 3, .nilS]), (0, .box [iC (0 : Int), iC (0 : Int), .nilS, .nilS]), (1, .seq (.own tI) y5.1)], 4⟩) 1 [(Int.toNat (1 : Int), 0, 3)] hO (by kernel_rfl) (allCons hg15 allNil)).ht ?_
        refine HT.seq ?_
        obtain ⟨hg16, hr⟩ := of_guard hr
        obtain ⟨hg17, hr⟩ := of_guard hr
        refine HT.rg2 (oHs 7) ⟨[(2, pV 0 0), (7, pV 2 0), (50, aV 4), (51, iV (lenI (bytesI (cut a0 (wadd .i64 y1 (1 : Int)) (lenI a0))))), (52, iV (0 : Int))], [(4, .seq (.int .u8) (bytesI (cut a0 (wadd .i64 y1 (1 : Int)) (lenI a0)))), (3, .seq tI (List.getD y5.1 (Int.toNat (1 : Int)) ([] : List Int))), (2, .box [iC (List.getD (List.getD y5.1 (Int.toNat (0 : Int)) ([] : List Int)) (Int.toNat (0 : Int)) (0 : Int)), iC (List.getD (List.getD y5.1 (Int.toNat (0 : Int)) ([] : List Int)) (Int.toNat (1 : Int)) (0 : Int)), .all 3, .nilS]), (0, .box [iC (0 : Int), iC (0 : Int), .nilS, .nilS])], 5⟩ hX (by kernel_rfl) (allCons (show (0 : Int) ≤ (wadd .i64 y1 (1 : Int)) ∧ (wadd .i64 y1 (1 : Int)) ≤ lenI a0 ∧ lenI a0 ≤ lenI a0 from ⟨hg16.1, hg16.2, Int.le_refl _⟩) (allCons hg17 allNil)) ?_
        obtain ⟨q18, hq19, hr⟩ := of_bind hr
        have hq19 := of_some2 hq19
        obtain ⟨q20, hq21, hr⟩ := of_bind hr
        have hq21 := of_some2 hq21
        refine (Le.cv (s := ⟨[(4, 4), (3, 3), (2, 2), (0, 0)], [], [], false⟩) (own := []) (ps := [(lenI (bytesI (cut a0 (wadd .i64 y1 (1 : Int)) (lenI a0)))) = (lenI (bytesI (cut a0 (wadd .i64 y1 (1 : Int)) (lenI a0)))), (0 : Int) = (0 : Int), (bytesI (cut a0 (wadd .i64 y1 (1 : Int)) (lenI a0))) = (bytesI (cut a0 (wadd .i64 y1 (1 : Int)) (lenI a0))), (List.getD y5.1 (Int.toNat (1 : Int)) ([] : List Int)) = (List.getD y5.1 (Int.toNat (1 : Int)) ([] : List Int)), q18 = (List.getD (List.getD y5.1 (Int.toNat (0 : Int)) ([] : List Int)) (Int.toNat (0 : Int)) (0 : Int)), q20 = (List.getD (List.getD y5.1 (Int.toNat (0 : Int)) ([] : List Int)) (Int.toNat (1 : Int)) (0 : Int)), (0 : Int) = (0 : Int), (0 : Int) = (0 : Int)]) (st' := ⟨[(2, pV 0 0), (7, pV 2 0), (50, aV 4), (51, iV (lenI (bytesI (cut a0 (wadd .i64 y1 (1 : Int)) (lenI a0))))), (52, iV (0 : Int))], [(4, .seq (.int .u8) (bytesI (cut a0 (wadd .i64 y1 (1 : Int)) (lenI a0)))), (3, .seq tI (List.getD y5.1 (Int.toNat (1 : Int)) ([] : List Int))), (2, .box [iC q18, iC q20, .all 3, .nilS]), (0, .box [iC (0 : Int), iC (0 : Int), .nilS, .nilS])], 5⟩) hO (fun h => by cases h) (by kernel_rfl) ⟨rfl, rfl, rfl, rfl, hq19, hq21, rfl, rfl, trivial⟩).ht ?_
        refine HT.block ?_
        obtain ⟨r23, hL40, hr⟩ := of_bind hr
        refine HT.loopL (fun (s22 : Int × List Bool) => ⟨[(2, pV 0 0), (7, pV 1 0), (50, aV 2), (51, iV (lenI (bytesI (cut a0 (wadd .i64 y1 (1 : Int)) (lenI a0))))), (52, iV s22.1)], [(0, .box [iC (0 : Int), iC (0 : Int), .nilS, .nilS]), (1, .box [iC q18, iC q20, .all 3, .all 4]), (2, .seq (.int .u8) (bytesI (cut a0 (wadd .i64 y1 (1 : Int)) (lenI a0)))), (3, .seq tI (List.getD y5.1 (Int.toNat (1 : Int)) ([] : List Int))), (4, .seq .bool s22.2)], 5⟩) (fun (r23 : List Bool ⊕ Unit) => match r23 with | .inl r24 => (.exit 0, ⟨[(2, pV 0 0), (7, pV 1 0)], [(0, .box [iC (0 : Int), iC (0 : Int), .nilS, .nilS]), (1, .box [iC q18, iC q20, .all 2, .all 3]), (2, .seq tI (List.getD y5.1 (Int.toNat (1 : Int)) ([] : List Int))), (3, .seq .bool r24)], 4⟩) | .inr r28 => (.ret, ⟨[(2, pV 0 0), (3, bV false)], [(0, .box [iC (0 : Int), iC (0 : Int), .nilS, .nilS])], 1⟩)) (Le.re [(0, 0), (2, 1), (4, 2), (3, 3)] [4] hX (by kernel_rfl)) hL40 ?_ (fun s22 x29 hx30 hk31 => ?_)
        · rcases r23 with r24 | r28
          · refine (qBlockX (qThen ?_))
            refine HT.seq ?_
            obtain ⟨y25, hc26, hr⟩ := of_bind hr
            refine HT.rg2 [oH, ⟨none, .call [.imm (.st (.pair tI (.pair tI (.pair tLI (.sl .bool)))))] [⟨false, .bool, y25⟩] []⟩, oH] ⟨[(2, pV 0 0), (7, pV 1 0), (73, bV (!y25))], [(0, .box [iC (0 : Int), iC (0 : Int), .nilS, .nilS]), (1, .box [iC q18, iC q20, .all 2, .all 3]), (2, .seq tI (List.getD y5.1 (Int.toNat (1 : Int)) ([] : List Int))), (3, .seq .bool r24)], 4⟩ hX (by kernel_rfl) (allCons (f75_ok hc26) allNil) ?_
            rcases of_bif hr with ⟨hb27, hr⟩ | ⟨hb27, hr⟩
            · refine HT.cond1 rfl hb27 ?_
              refine HT.rg2 (oHs 3) ⟨[(2, pV 0 0), (3, bV false)], [(0, .box [iC (0 : Int), iC (0 : Int), .nilS, .nilS])], 4⟩ hX (by kernel_rfl) allNil ?_
              have hr := of_some hr
              subst hr
              exact HT.ret (qThenR ⟨[.agg [iC (0 : Int), iC (0 : Int), .nilS, .nilS], bV false], [], [], by kernel_rfl, by kernel_rfl, rfl, by kernel_rfl, by kernel_rfl, trivial⟩)
            · refine HT.cond0 rfl hb27 ?_
              refine HT.skip (qThen ?_)
              refine HT.rg2 (oHs 3) ⟨[(2, pV 0 0), (3, bV true)], [(0, .box [iC q18, iC q20, .all 2, .all 3]), (2, .seq tI (List.getD y5.1 (Int.toNat (1 : Int)) ([] : List Int))), (3, .seq .bool r24)], 4⟩ hX (by kernel_rfl) allNil ?_
              have hr := of_some hr
              subst hr
              exact HT.ret ⟨[.agg [iC q18, iC q20, .all 2, .all 3], bV true], [2, 3], [], by kernel_rfl, by kernel_rfl, rfl, by kernel_rfl, by kernel_rfl, trivial⟩
          · have hr := of_some hr
            subst hr
            exact (qBlockR (qThenR ⟨[.agg [iC (0 : Int), iC (0 : Int), .nilS, .nilS], bV false], [], [], by kernel_rfl, by kernel_rfl, rfl, by kernel_rfl, by kernel_rfl, trivial⟩))
        · refine HT.rg2 [oH] ⟨[(2, pV 0 0), (7, pV 1 0), (50, aV 2), (51, iV (lenI (bytesI (cut a0 (wadd .i64 y1 (1 : Int)) (lenI a0))))), (52, iV s22.1), (53, bV (decide (s22.1 < (lenI (bytesI (cut a0 (wadd .i64 y1 (1 : Int)) (lenI a0)))))))], [(0, .box [iC (0 : Int), iC (0 : Int), .nilS, .nilS]), (1, .box [iC q18, iC q20, .all 3, .all 4]), (2, .seq (.int .u8) (bytesI (cut a0 (wadd .i64 y1 (1 : Int)) (lenI a0)))), (3, .seq tI (List.getD y5.1 (Int.toNat (1 : Int)) ([] : List Int))), (4, .seq .bool s22.2)], 5⟩ hX (by kernel_rfl) allNil ?_
          refine HT.seq ?_
          rcases of_bif hx30 with ⟨hb32, hx30⟩ | ⟨hb32, hx30⟩
          · refine HT.cond1 rfl hb32 ?_
            refine HT.skip (qThen ?_)
            refine HT.seq ?_
            refine HT.block ?_
            obtain ⟨hg33, hx30⟩ := of_guard hx30
            refine HT.rg2 (oHs 3) ⟨[(2, pV 0 0), (7, pV 1 0), (9, .one (.dat (.int .u8) (List.getD (bytesI (cut a0 (wadd .i64 y1 (1 : Int)) (lenI a0))) (Int.toNat s22.1) (0 : Int)))), (50, aV 2), (51, iV (lenI (bytesI (cut a0 (wadd .i64 y1 (1 : Int)) (lenI a0))))), (52, iV s22.1)], [(0, .box [iC (0 : Int), iC (0 : Int), .nilS, .nilS]), (1, .box [iC q18, iC q20, .all 3, .all 4]), (2, .seq (.int .u8) (bytesI (cut a0 (wadd .i64 y1 (1 : Int)) (lenI a0)))), (3, .seq tI (List.getD y5.1 (Int.toNat (1 : Int)) ([] : List Int))), (4, .seq .bool s22.2)], 5⟩ hX (by kernel_rfl) (allCons hg33 (allCons (natLt hg33) allNil)) ?_
            refine HT.seq ?_
            obtain ⟨v34', hT36, hx30⟩ := of_bind hx30
            refine HT.join (fun (v34 : Bool) => ⟨[(2, pV 0 0), (7, pV 1 0), (9, .one (.dat (.int .u8) (List.getD (bytesI (cut a0 (wadd .i64 y1 (1 : Int)) (lenI a0))) (Int.toNat s22.1) (0 : Int)))), (50, aV 2), (51, iV (lenI (bytesI (cut a0 (wadd .i64 y1 (1 : Int)) (lenI a0))))), (52, iV s22.1), (61, bV v34)], [(0, .box [iC (0 : Int), iC (0 : Int), .nilS, .nilS]), (1, .box [iC q18, iC q20, .all 3, .all 4]), (2, .seq (.int .u8) (bytesI (cut a0 (wadd .i64 y1 (1 : Int)) (lenI a0)))), (3, .seq tI (List.getD y5.1 (Int.toNat (1 : Int)) ([] : List Int))), (4, .seq .bool s22.2)], 5⟩) (fun v => v = v34') (fun v34 hv35 => ?_) (fun cont => ?_)
            · subst hv35
              rcases of_bif hx30 with ⟨hb37, hx30⟩ | ⟨hb37, hx30⟩
              · refine HT.cond1 rfl hb37 ?_
                refine HT.rg2 (oHs 3) ⟨[(2, pV 0 0), (3, bV false)], [(0, .box [iC (0 : Int), iC (0 : Int), .nilS, .nilS])], 5⟩ hX (by kernel_rfl) allNil ?_
                have hx30 := of_some hx30
                subst hx30
                exact HT.retL (Le.re [(0, 0)] [] hX (by kernel_rfl)) (qThenR (qBlockR (qThenR (qLoopR (hk31 (.inr ()) rfl)))))
              · refine HT.cond0 rfl hb37 ?_
                refine HT.skip (qThen ?_)
                obtain ⟨hg38, hx30⟩ := of_guard hx30
                refine HT.rgL [oH, oH, oH, oH, ⟨none, .ty .bool⟩, ⟨none, .ty .bool⟩, oH, oH] ⟨[(2, pV 0 0), (7, pV 1 0), (50, aV 2), (51, iV (lenI (bytesI (cut a0 (wadd .i64 y1 (1 : Int)) (lenI a0))))), (52, iV s22.1)], [(1, .box [iC q18, iC q20, .all 3, .all 6]), (6, .seq .bool (s22.2 ++ ([((List.getD (bytesI (cut a0 (wadd .i64 y1 (1 : Int)) (lenI a0))) (Int.toNat s22.1) (0 : Int)) == (49 : Int))] : List Bool))), (0, .box [iC (0 : Int), iC (0 : Int), .nilS, .nilS]), (2, .seq (.int .u8) (bytesI (cut a0 (wadd .i64 y1 (1 : Int)) (lenI a0)))), (3, .seq tI (List.getD y5.1 (Int.toNat (1 : Int)) ([] : List Int)))], 7⟩ hX (by kernel_rfl) (allCons hg38 allNil) (qBlock (qThen ?_))
                have hx30 := of_some hx30
                subst hx30
                exact HT.rgK (oHs 2) [(0, 0), (1, 1), (2, 2), (3, 3), (6, 4)] [] hX (by kernel_rfl) allNil (fun _ h => (qLoopN ⟨((wadd .i64 s22.1 (1 : Int)), (s22.2 ++ ([((List.getD (bytesI (cut a0 (wadd .i64 y1 (1 : Int)) (lenI a0))) (Int.toNat s22.1) (0 : Int)) == (49 : Int))] : List Bool))), rfl, h⟩))
            · rcases of_bif hT36 with ⟨hb39, hT36⟩ | ⟨hb39, hT36⟩
              · exact HT.rgK [oH, oH, oH, ⟨some true, .no⟩, ⟨some true, .no⟩, ⟨none, .tv true⟩] [(0, 0), (1, 1), (2, 2), (3, 3), (4, 4)] [] hX (by kernel_rfl) (allCons hb39 (allCons hb39 (allCons hb39 allNil))) (fun _ h => (qThen (h.ht (cont ((List.getD (bytesI (cut a0 (wadd .i64 y1 (1 : Int)) (lenI a0))) (Int.toNat s22.1) (0 : Int)) != (49 : Int)) (of_some hT36)))))
              · exact HT.rgK [oH, oH, oH, ⟨some false, .no⟩, ⟨some false, .no⟩, ⟨none, .tv false⟩] [(0, 0), (1, 1), (2, 2), (3, 3), (4, 4)] [] hX (by kernel_rfl) (allCons hb39 (allCons hb39 (allCons hb39 allNil))) (fun _ h => (qThen (h.ht (cont false (of_some hT36)))))
          · refine HT.cond0 rfl hb32 ?_
            have hx30 := of_some hx30
            subst hx30
            exact HT.exitL (Le.re [(0, 0), (1, 1), (3, 2), (4, 3)] [] hX (by kernel_rfl)) (qThenE (qLoopE (hk31 (.inl s22.2) rfl)))
    · rcases of_bif hT9 with ⟨hb41, hT9⟩ | ⟨hb41, hT9⟩
      · exact HT.rgK [oH, oH, oH, ⟨some true, .no⟩, ⟨some true, .no⟩, ⟨some true, .no⟩, ⟨some true, .no⟩, ⟨some true, .no⟩, ⟨none, .tv true⟩] [(0, 0), (1, 1)] [] hX (by kernel_rfl) (allCons hb41 (allCons hb41 (allCons hb41 (allCons hb41 (allCons hb41 (allCons hb41 allNil)))))) (fun _ h => (qThen (h.ht (cont true (of_some hT9)))))
      · obtain ⟨hg42, hT9⟩ := of_guard hT9
        exact HT.rgK [oH, oH, oH, ⟨some false, .no⟩, ⟨some false, .no⟩, ⟨some false, .no⟩, ⟨some false, .no⟩, ⟨some false, .no⟩, ⟨none, .tv false⟩] [(0, 0), (1, 1)] [] hX (by kernel_rfl) (allCons hb41 (allCons hb41 (allCons hg42 (allCons hb41 (allCons (natLt hg42) (allCons hb41 (allCons hb41 (allCons hb41 allNil)))))))) (fun _ h => (qThen (h.ht (cont ((lenI (List.getD y5.1 (Int.toNat (0 : Int)) ([] : List Int))) != (2 : Int)) (of_some hT9)))))

noncomputable def laws_markInt64S_B1  (s1 : Int × Int × List Int) : Option ((Int × Int × List Int) ⊕ ((Int × List Int))) :=
  bif (decide (s1.2.1 < (lenI s1.2.2))) then
    guardP ((0 : Int) ≤ s1.2.1 ∧ s1.2.1 < lenI s1.2.2) (
      some (.inl ((wadd .i64 s1.1 (1 : Int)), (wadd .i64 s1.2.1 (1 : Int)), (List.set s1.2.2 (Int.toNat s1.2.1) s1.1))))
  else
    some (.inr (s1.1, s1.2.2))

noncomputable def laws_markInt64S (a0 : List Int) (a1 : Int) : Option (Int × List Int) :=
  (rounds (laws_markInt64S_B1) (a1, (0 : Int), a0)).bind fun r3 =>
  guardP (List.length r3.2 = List.length a0) (
    some (r3.1, r3.2))

theorem f88_ok {a0 : List Int} {a1 : Int} {r : Int × List Int} (hr : laws_markInt64S a0 a1 = some r) : CallOK Tryd.prog 88 [.own tLI a0, .imm tI a1] [⟨false, tI, r.1⟩] [⟨tLI, r.2⟩] := by
  unfold laws_markInt64S at hr
  refine CallOK.of_body (ts := [(false, tI)]) Tryd.func88 rfl (by kernel_rfl) (Nat.le_of_ble_eq_true (by kernel_rfl)) fun cx hP hN hO hF => ?_
  have hO : cx.own.map Prod.fst = [0] := hO
  have hX := CxIs.mk hP hN hO
  have hF := hF rfl
  show HT cx ⟨[(0, aV 0), (1, iV a1)], [(0, .seq tI a0)], 1⟩ _ _
  refine HT.rg2 [oH] ⟨[(0, aV 0), (1, iV a1)], [(0, .seq tI a0)], 1⟩ hX (by kernel_rfl) allNil ?_
  refine HT.seq ?_
  refine HT.rg2 [oH] ⟨[(0, aV 0), (1, iV a1), (5, iV (0 : Int))], [(0, .seq tI a0)], 1⟩ hX (by kernel_rfl) allNil ?_
  refine HT.block ?_
  obtain ⟨r2, hL10, hr⟩ := of_bind hr
  refine HT.loopL (fun (s1 : Int × Int × List Int) => ⟨[(0, aV 0), (1, iV s1.1), (5, iV s1.2.1)], [(0, .seq tI s1.2.2)], 1⟩) (fun (r3 : (Int × List Int)) => (.exit 0, ⟨[(1, iV r3.1)], [(0, .seq tI r3.2)], 1⟩)) (Le.re [(0, 0)] [] hX (by kernel_rfl)) hL10 ?_ (fun s1 x5 hx6 hk7 => ?_)
  · refine (qBlockX (qThen ?_))
    refine HT.rg2 (oHs 2) ⟨[(4, iV r2.1)], [(0, .seq tI r2.2)], 1⟩ hX (by kernel_rfl) allNil ?_
    obtain ⟨hg4, hr⟩ := of_guard hr
    have hr := of_some hr
    subst hr
    exact HT.ret ⟨[iV r2.1], [], [List.length r2.2 = List.length a0], by kernel_rfl, by kernel_rfl, rfl, by kernel_rfl, by kernel_rfl, ⟨hg4, trivial⟩⟩
  · refine HT.seq ?_
    refine HT.rg2 (oHs 4) ⟨[(0, aV 0), (1, iV s1.1), (5, iV s1.2.1), (9, bV (decide (s1.2.1 < (lenI s1.2.2))))], [(0, .seq tI s1.2.2)], 1⟩ hX (by kernel_rfl) allNil ?_
    rcases of_bif hx6 with ⟨hb8, hx6⟩ | ⟨hb8, hx6⟩
    · refine HT.cond1 rfl hb8 ?_
      refine HT.skip (qThen ?_)
      refine HT.seq ?_
      refine HT.block ?_
      obtain ⟨hg9, hx6⟩ := of_guard hx6
      refine HT.rg2 (oHs 5) ⟨[(0, aV 0), (1, iV s1.1), (5, iV s1.2.1)], [(0, .seq tI (List.set s1.2.2 (Int.toNat s1.2.1) s1.1))], 1⟩ hX (by kernel_rfl) (allCons hg9 (allCons (natLt hg9) allNil)) ?_
      refine HT.rgL (oHs 3) ⟨[(0, aV 0), (1, iV (wadd .i64 s1.1 (1 : Int))), (5, iV s1.2.1)], [(0, .seq tI (List.set s1.2.2 (Int.toNat s1.2.1) s1.1))], 1⟩ hX (by kernel_rfl) allNil (qBlock (qThen ?_))
      have hx6 := of_some hx6
      subst hx6
      exact HT.rgK (oHs 3) [(0, 0)] [] hX (by kernel_rfl) allNil (fun _ h => (qLoopN ⟨((wadd .i64 s1.1 (1 : Int)), (wadd .i64 s1.2.1 (1 : Int)), (List.set s1.2.2 (Int.toNat s1.2.1) s1.1)), rfl, h⟩))
    · refine HT.cond0 rfl hb8 ?_
      have hx6 := of_some hx6
      subst hx6
      exact HT.exitL (Le.re [(0, 0)] [] hX (by kernel_rfl)) (qThenE (qLoopE (hk7 (s1.1, s1.2.2) rfl)))

noncomputable def laws_markBoolS_B1  (s1 : Int × Int × List Bool) : Option ((Int × Int × List Bool) ⊕ ((Int × List Bool))) :=
  bif (decide (s1.2.1 < (lenI s1.2.2))) then
    guardP ((0 : Int) ≤ s1.2.1 ∧ s1.2.1 < lenI s1.2.2) (
      some (.inl ((wadd .i64 s1.1 (1 : Int)), (wadd .i64 s1.2.1 (1 : Int)), (List.set s1.2.2 (Int.toNat s1.2.1) ((Int.tmod s1.1 (3 : Int)) == (0 : Int))))))
  else
    some (.inr (s1.1, s1.2.2))

noncomputable def laws_markBoolS (a0 : List Bool) (a1 : Int) : Option (Int × List Bool) :=
  (rounds (laws_markBoolS_B1) (a1, (0 : Int), a0)).bind fun r3 =>
  guardP (List.length r3.2 = List.length a0) (
    some (r3.1, r3.2))

theorem f89_ok {a0 : List Bool} {a1 : Int} {r : Int × List Bool} (hr : laws_markBoolS a0 a1 = some r) : CallOK Tryd.prog 89 [.own (.sl .bool) a0, .imm tI a1] [⟨false, tI, r.1⟩] [⟨(.sl .bool), r.2⟩] := by
  unfold laws_markBoolS at hr
  refine CallOK.of_body (ts := [(false, tI)]) Tryd.func89 rfl (by kernel_rfl) (Nat.le_of_ble_eq_true (by kernel_rfl)) fun cx hP hN hO hF => ?_
  have hO : cx.own.map Prod.fst = [0] := hO
  have hX := CxIs.mk hP hN hO
  have hF := hF rfl
  show HT cx ⟨[(0, aV 0), (1, iV a1)], [(0, .seq .bool a0)], 1⟩ _ _
  refine HT.rg2 [oH] ⟨[(0, aV 0), (1, iV a1)], [(0, .seq .bool a0)], 1⟩ hX (by kernel_rfl) allNil ?_
  refine HT.seq ?_
  refine HT.rg2 [oH] ⟨[(0, aV 0), (1, iV a1), (5, iV (0 : Int))], [(0, .seq .bool a0)], 1⟩ hX (by kernel_rfl) allNil ?_
  refine HT.block ?_
  obtain ⟨r2, hL10, hr⟩ := of_bind hr
  refine HT.loopL (fun (s1 : Int × Int × List Bool) => ⟨[(0, aV 0), (1, iV s1.1), (5, iV s1.2.1)], [(0, .seq .bool s1.2.2)], 1⟩) (fun (r3 : (Int × List Bool)) => (.exit 0, ⟨[(1, iV r3.1)], [(0, .seq .bool r3.2)], 1⟩)) (Le.re [(0, 0)] [] hX (by kernel_rfl)) hL10 ?_ (fun s1 x5 hx6 hk7 => ?_)
  · refine (qBlockX (qThen ?_))
    refine HT.rg2 (oHs 2) ⟨[(4, iV r2.1)], [(0, .seq .bool r2.2)], 1⟩ hX (by kernel_rfl) allNil ?_
    obtain ⟨hg4, hr⟩ := of_guard hr
    have hr := of_some hr
    subst hr
    exact HT.ret ⟨[iV r2.1], [], [List.length r2.2 = List.length a0], by kernel_rfl, by kernel_rfl, rfl, by kernel_rfl, by kernel_rfl, ⟨hg4, trivial⟩⟩
  · refine HT.seq ?_
    refine HT.rg2 (oHs 4) ⟨[(0, aV 0), (1, iV s1.1), (5, iV s1.2.1), (9, bV (decide (s1.2.1 < (lenI s1.2.2))))], [(0, .seq .bool s1.2.2)], 1⟩ hX (by kernel_rfl) allNil ?_
    rcases of_bif hx6 with ⟨hb8, hx6⟩ | ⟨hb8, hx6⟩
    · refine HT.cond1 rfl hb8 ?_
      refine HT.skip (qThen ?_)
      refine HT.seq ?_
      refine HT.block ?_
      obtain ⟨hg9, hx6⟩ := of_guard hx6
      refine HT.rg2 (oHs 7) ⟨[(0, aV 0), (1, iV s1.1), (5, iV s1.2.1)], [(0, .seq .bool (List.set s1.2.2 (Int.toNat s1.2.1) ((Int.tmod s1.1 (3 : Int)) == (0 : Int))))], 1⟩ hX (by kernel_rfl) (allCons (show (3 : Int) ≠ 0 from by decide) (allCons hg9 (allCons (natLt hg9) allNil))) ?_
      refine HT.rgL (oHs 3) ⟨[(0, aV 0), (1, iV (wadd .i64 s1.1 (1 : Int))), (5, iV s1.2.1)], [(0, .seq .bool (List.set s1.2.2 (Int.toNat s1.2.1) ((Int.tmod s1.1 (3 : Int)) == (0 : Int))))], 1⟩ hX (by kernel_rfl) allNil (qBlock (qThen ?_))
      have hx6 := of_some hx6
      subst hx6
      exact HT.rgK (oHs 3) [(0, 0)] [] hX (by kernel_rfl) allNil (fun _ h => (qLoopN ⟨((wadd .i64 s1.1 (1 : Int)), (wadd .i64 s1.2.1 (1 : Int)), (List.set s1.2.2 (Int.toNat s1.2.1) ((Int.tmod s1.1 (3 : Int)) == (0 : Int)))), rfl, h⟩))
    · refine HT.cond0 rfl hb8 ?_
      have hx6 := of_some hx6
      subst hx6
      exact HT.exitL (Le.re [(0, 0)] [] hX (by kernel_rfl)) (qThenE (qLoopE (hk7 (s1.1, s1.2.2) rfl)))

noncomputable def laws_markPlain (a0 : Int × Int × List Int × List Bool) (a1 : Int) : Option (Int × (Int × Int × List Int × List Bool)) :=
  (laws_markInt64S a0.2.2.1 a1).bind fun y1 =>
  (laws_markBoolS a0.2.2.2 y1.1).bind fun y3 =>
  guardP (List.length y1.2 = List.length a0.2.2.1) (
    guardP (List.length y3.2 = List.length a0.2.2.2) (
      some (y3.1, a0.1, a0.2.1, y1.2, y3.2)))

theorem f38_ok {a0 : Int × Int × List Int × List Bool} {a1 : Int} {r : Int × (Int × Int × List Int × List Bool)} (hr : laws_markPlain a0 a1 = some r) : CallOK Tryd.prog 38 [.own (.st (.pair tI (.pair tI (.pair tLI (.sl .bool))))) a0, .imm tI a1] [⟨false, tI, r.1⟩] [⟨(.st (.pair tI (.pair tI (.pair tLI (.sl .bool))))), r.2⟩] := by
  unfold laws_markPlain at hr
  refine CallOK.of_body (ts := [(false, tI)]) Tryd.func38 rfl (by kernel_rfl) (Nat.le_of_ble_eq_true (by kernel_rfl)) fun cx hP hN hO hF => ?_
  have hO : cx.own.map Prod.fst = [0, 1] := hO
  have hX := CxIs.mk hP hN hO
  have hF := hF rfl
  show HT cx ⟨[(0, .agg [iC a0.1, iC a0.2.1, .all 0, .all 1]), (1, iV a1)], [(0, .seq tI a0.2.2.1), (1, .seq .bool a0.2.2.2)], 2⟩ _ _
  refine HT.rg2 (oHs 2) ⟨[(1, iV a1), (2, pV 2 0)], [(2, .box [iC a0.1, iC a0.2.1, .all 0, .all 1]), (0, .seq tI a0.2.2.1), (1, .seq .bool a0.2.2.2)], 3⟩ hX (by kernel_rfl) allNil ?_
  obtain ⟨y1, hc2, hr⟩ := of_bind hr
  refine HT.rg2 [oH, oH, oH, ⟨none, .call [.own tLI, .imm tI] [⟨false, tI, y1.1⟩] [⟨tLI, y1.2⟩]⟩, oH] ⟨[(1, iV y1.1), (2, pV 2 0)], [(0, .seq tI y1.2), (2, .box [iC a0.1, iC a0.2.1, .all 0, .all 1]), (1, .seq .bool a0.2.2.2)], 3⟩ hX (by kernel_rfl) (allCons (f88_ok hc2) allNil) ?_
  obtain ⟨y3, hc4, hr⟩ := of_bind hr
  refine HT.rg2 [oH, oH, oH, ⟨none, .call [.own (.sl .bool), .imm tI] [⟨false, tI, y3.1⟩] [⟨(.sl .bool), y3.2⟩]⟩, oH] ⟨[(1, iV y3.1)], [(1, .seq .bool y3.2), (0, .seq tI y1.2)], 3⟩ hX (by kernel_rfl) (allCons (f89_ok hc4) allNil) ?_
  refine HT.rg2 (oHs 2) ⟨[(4, iV y3.1)], [(1, .seq .bool y3.2), (0, .seq tI y1.2)], 3⟩ hX (by kernel_rfl) allNil ?_
  obtain ⟨hg5, hr⟩ := of_guard hr
  obtain ⟨hg6, hr⟩ := of_guard hr
  have hr := of_some hr
  subst hr
  exact HT.ret ⟨[iV y3.1], [], [List.length y1.2 = List.length a0.2.2.1, List.length y3.2 = List.length a0.2.2.2], by kernel_rfl, by kernel_rfl, rfl, by kernel_rfl, by kernel_rfl, ⟨hg5, hg6, trivial⟩⟩

noncomputable def laws_heldInt64S_B1 (a0 : List Int) (s1 : Int × Int) : Option ((Int × Int) ⊕ (Int ⊕ Unit)) :=
  bif (decide (s1.2 < (lenI a0))) then
    guardP ((0 : Int) ≤ s1.2 ∧ s1.2 < lenI a0) (
      bif ((List.getD a0 (Int.toNat s1.2) (0 : Int)) != s1.1) then
        some (.inr (.inr ()))
      else
        some (.inl ((wadd .i64 s1.1 (1 : Int)), (wadd .i64 s1.2 (1 : Int)))))
  else
    some (.inr (.inl s1.1))

noncomputable def laws_heldInt64S (a0 : List Int) (a1 : Int) : Option (Int) :=
  (rounds (laws_heldInt64S_B1 a0) (a1, (0 : Int))).bind fun r2 => match r2 with
    | .inl r3 =>
      some r3
    | .inr r4 =>
      some (-1 : Int)

theorem f90_ok {a0 : List Int} {a1 : Int} {r : Int} (hr : laws_heldInt64S a0 a1 = some r) : CallOK Tryd.prog 90 [.imm tLI a0, .imm tI a1] [⟨false, tI, r⟩] [] := by
  unfold laws_heldInt64S at hr
  refine CallOK.of_body (ts := [(false, tI)]) Tryd.func90 rfl (by kernel_rfl) (Nat.le_of_ble_eq_true (by kernel_rfl)) fun cx hP hN hO hF => ?_
  have hO : cx.own.map Prod.fst = [] := hO
  have hX := CxIs.mk hP hN hO
  have hF := hF rfl
  show HT cx ⟨[(0, nV a0), (1, iV a1)], [], 0⟩ _ _
  refine HT.rg2 [oH] ⟨[(0, nV a0), (1, iV a1)], [], 0⟩ hX (by kernel_rfl) allNil ?_
  refine HT.seq ?_
  refine HT.rg2 [oH] ⟨[(0, nV a0), (1, iV a1), (5, iV (0 : Int))], [], 0⟩ hX (by kernel_rfl) allNil ?_
  refine HT.block ?_
  obtain ⟨r2, hL11, hr⟩ := of_bind hr
  refine HT.loopL (fun (s1 : Int × Int) => ⟨[(0, nV a0), (1, iV s1.1), (5, iV s1.2)], [], 0⟩) (fun (r2 : Int ⊕ Unit) => match r2 with | .inl r3 => (.exit 0, ⟨[(1, iV r3)], [], 0⟩) | .inr r4 => (.ret, ⟨[(4, iV (-1 : Int))], [], 0⟩)) (Le.re [] [] hX (by kernel_rfl)) hL11 ?_ (fun s1 x5 hx6 hk7 => ?_)
  · rcases r2 with r3 | r4
    · refine (qBlockX (qThen ?_))
      refine HT.rg2 (oHs 2) ⟨[(4, iV r3)], [], 0⟩ hX (by kernel_rfl) allNil ?_
      have hr := of_some hr
      subst hr
      exact HT.ret ⟨[iV r3], [], [], by kernel_rfl, by kernel_rfl, rfl, by kernel_rfl, by kernel_rfl, trivial⟩
    · have hr := of_some hr
      subst hr
      exact (qBlockR (qThenR ⟨[iV (-1 : Int)], [], [], by kernel_rfl, by kernel_rfl, rfl, by kernel_rfl, by kernel_rfl, trivial⟩))
  · refine HT.seq ?_
    refine HT.rg2 (oHs 4) ⟨[(0, nV a0), (1, iV s1.1), (5, iV s1.2), (9, bV (decide (s1.2 < (lenI a0))))], [], 0⟩ hX (by kernel_rfl) allNil ?_
    rcases of_bif hx6 with ⟨hb8, hx6⟩ | ⟨hb8, hx6⟩
    · refine HT.cond1 rfl hb8 ?_
      refine HT.skip (qThen ?_)
      refine HT.seq ?_
      refine HT.block ?_
      refine HT.seq ?_
      obtain ⟨hg9, hx6⟩ := of_guard hx6
      refine HT.rg2 (oHs 6) ⟨[(0, nV a0), (1, iV s1.1), (5, iV s1.2), (17, bV ((List.getD a0 (Int.toNat s1.2) (0 : Int)) != s1.1))], [], 0⟩ hX (by kernel_rfl) (allCons hg9 allNil) ?_
      rcases of_bif hx6 with ⟨hb10, hx6⟩ | ⟨hb10, hx6⟩
      · refine HT.cond1 rfl hb10 ?_
        refine HT.rg2 [oH] ⟨[(4, iV (-1 : Int))], [], 0⟩ hX (by kernel_rfl) allNil ?_
        have hx6 := of_some hx6
        subst hx6
        exact HT.retL (Le.re [] [] hX (by kernel_rfl)) (qThenR (qBlockR (qThenR (qLoopR (hk7 (.inr ()) rfl)))))
      · refine HT.cond0 rfl hb10 ?_
        refine HT.skip (qThen ?_)
        refine HT.rgL (oHs 3) ⟨[(0, nV a0), (1, iV (wadd .i64 s1.1 (1 : Int))), (5, iV s1.2)], [], 0⟩ hX (by kernel_rfl) allNil (qBlock (qThen ?_))
        have hx6 := of_some hx6
        subst hx6
        exact HT.rgK (oHs 3) [] [] hX (by kernel_rfl) allNil (fun _ h => (qLoopN ⟨((wadd .i64 s1.1 (1 : Int)), (wadd .i64 s1.2 (1 : Int))), rfl, h⟩))
    · refine HT.cond0 rfl hb8 ?_
      have hx6 := of_some hx6
      subst hx6
      exact HT.exitL (Le.re [] [] hX (by kernel_rfl)) (qThenE (qLoopE (hk7 (.inl s1.1) rfl)))

noncomputable def laws_heldBoolS_B1 (a0 : List Bool) (s1 : Int × Int) : Option ((Int × Int) ⊕ (Int ⊕ Unit)) :=
  bif (decide (s1.2 < (lenI a0))) then
    guardP ((0 : Int) ≤ s1.2 ∧ s1.2 < lenI a0) (
      bif ((List.getD a0 (Int.toNat s1.2) false) != ((Int.tmod s1.1 (3 : Int)) == (0 : Int))) then
        some (.inr (.inr ()))
      else
        some (.inl ((wadd .i64 s1.1 (1 : Int)), (wadd .i64 s1.2 (1 : Int)))))
  else
    some (.inr (.inl s1.1))

noncomputable def laws_heldBoolS (a0 : List Bool) (a1 : Int) : Option (Int) :=
  (rounds (laws_heldBoolS_B1 a0) (a1, (0 : Int))).bind fun r2 => match r2 with
    | .inl r3 =>
      some r3
    | .inr r4 =>
      some (-1 : Int)

theorem f91_ok {a0 : List Bool} {a1 : Int} {r : Int} (hr : laws_heldBoolS a0 a1 = some r) : CallOK Tryd.prog 91 [.imm (.sl .bool) a0, .imm tI a1] [⟨false, tI, r⟩] [] := by
  unfold laws_heldBoolS at hr
  refine CallOK.of_body (ts := [(false, tI)]) Tryd.func91 rfl (by kernel_rfl) (Nat.le_of_ble_eq_true (by kernel_rfl)) fun cx hP hN hO hF => ?_
  have hO : cx.own.map Prod.fst = [] := hO
  have hX := CxIs.mk hP hN hO
  have hF := hF rfl
  show HT cx ⟨[(0, .one (.dat (.sl .bool) a0)), (1, iV a1)], [], 0⟩ _ _
  refine HT.rg2 [oH] ⟨[(0, .one (.dat (.sl .bool) a0)), (1, iV a1)], [], 0⟩ hX (by kernel_rfl) allNil ?_
  refine HT.seq ?_
  refine HT.rg2 [oH] ⟨[(0, .one (.dat (.sl .bool) a0)), (1, iV a1), (5, iV (0 : Int))], [], 0⟩ hX (by kernel_rfl) allNil ?_
  refine HT.block ?_
  obtain ⟨r2, hL11, hr⟩ := of_bind hr
  refine HT.loopL (fun (s1 : Int × Int) => ⟨[(0, .one (.dat (.sl .bool) a0)), (1, iV s1.1), (5, iV s1.2)], [], 0⟩) (fun (r2 : Int ⊕ Unit) => match r2 with | .inl r3 => (.exit 0, ⟨[(1, iV r3)], [], 0⟩) | .inr r4 => (.ret, ⟨[(4, iV (-1 : Int))], [], 0⟩)) (Le.re [] [] hX (by kernel_rfl)) hL11 ?_ (fun s1 x5 hx6 hk7 => ?_)
  · rcases r2 with r3 | r4
    · refine (qBlockX (qThen ?_))
      refine HT.rg2 (oHs 2) ⟨[(4, iV r3)], [], 0⟩ hX (by kernel_rfl) allNil ?_
      have hr := of_some hr
      subst hr
      exact HT.ret ⟨[iV r3], [], [], by kernel_rfl, by kernel_rfl, rfl, by kernel_rfl, by kernel_rfl, trivial⟩
    · have hr := of_some hr
      subst hr
      exact (qBlockR (qThenR ⟨[iV (-1 : Int)], [], [], by kernel_rfl, by kernel_rfl, rfl, by kernel_rfl, by kernel_rfl, trivial⟩))
  · refine HT.seq ?_
    refine HT.rg2 (oHs 4) ⟨[(0, .one (.dat (.sl .bool) a0)), (1, iV s1.1), (5, iV s1.2), (9, bV (decide (s1.2 < (lenI a0))))], [], 0⟩ hX (by kernel_rfl) allNil ?_
    rcases of_bif hx6 with ⟨hb8, hx6⟩ | ⟨hb8, hx6⟩
    · refine HT.cond1 rfl hb8 ?_
      refine HT.skip (qThen ?_)
      refine HT.seq ?_
      refine HT.block ?_
      refine HT.seq ?_
      obtain ⟨hg9, hx6⟩ := of_guard hx6
      refine HT.rg2 (oHs 8) ⟨[(0, .one (.dat (.sl .bool) a0)), (1, iV s1.1), (5, iV s1.2), (19, bV ((List.getD a0 (Int.toNat s1.2) false) != ((Int.tmod s1.1 (3 : Int)) == (0 : Int))))], [], 0⟩ hX (by kernel_rfl) (allCons hg9 (allCons (show (3 : Int) ≠ 0 from by decide) allNil)) ?_
      rcases of_bif hx6 with ⟨hb10, hx6⟩ | ⟨hb10, hx6⟩
      · refine HT.cond1 rfl hb10 ?_
        refine HT.rg2 [oH] ⟨[(4, iV (-1 : Int))], [], 0⟩ hX (by kernel_rfl) allNil ?_
        have hx6 := of_some hx6
        subst hx6
        exact HT.retL (Le.re [] [] hX (by kernel_rfl)) (qThenR (qBlockR (qThenR (qLoopR (hk7 (.inr ()) rfl)))))
      · refine HT.cond0 rfl hb10 ?_
        refine HT.skip (qThen ?_)
        refine HT.rgL (oHs 3) ⟨[(0, .one (.dat (.sl .bool) a0)), (1, iV (wadd .i64 s1.1 (1 : Int))), (5, iV s1.2)], [], 0⟩ hX (by kernel_rfl) allNil (qBlock (qThen ?_))
        have hx6 := of_some hx6
        subst hx6
        exact HT.rgK (oHs 3) [] [] hX (by kernel_rfl) allNil (fun _ h => (qLoopN ⟨((wadd .i64 s1.1 (1 : Int)), (wadd .i64 s1.2 (1 : Int))), rfl, h⟩))
    · refine HT.cond0 rfl hb8 ?_
      have hx6 := of_some hx6
      subst hx6
      exact HT.exitL (Le.re [] [] hX (by kernel_rfl)) (qThenE (qLoopE (hk7 (.inl s1.1) rfl)))

noncomputable def laws_heldPlain (a0 : Int × Int × List Int × List Bool) (a1 : Int) : Option (Int) :=
  (laws_heldInt64S a0.2.2.1 a1).bind fun y1 =>
  bif (decide (y1 < (0 : Int))) then
    some (-1 : Int)
  else
    (laws_heldBoolS a0.2.2.2 y1).bind fun y4 =>
    bif (decide (y4 < (0 : Int))) then
      some (-1 : Int)
    else
      some y4

theorem f39_ok {a0 : Int × Int × List Int × List Bool} {a1 : Int} {r : Int} (hr : laws_heldPlain a0 a1 = some r) : CallOK Tryd.prog 39 [.imm (.st (.pair tI (.pair tI (.pair tLI (.sl .bool))))) a0, .imm tI a1] [⟨false, tI, r⟩] [] := by
  unfold laws_heldPlain at hr
  refine CallOK.of_body (ts := [(false, tI)]) Tryd.func39 rfl (by kernel_rfl) (Nat.le_of_ble_eq_true (by kernel_rfl)) fun cx hP hN hO hF => ?_
  have hO : cx.own.map Prod.fst = [] := hO
  have hX := CxIs.mk hP hN hO
  have hF := hF rfl
  show HT cx ⟨[(0, .agg [iC a0.1, iC a0.2.1, nC a0.2.2.1, .dat (.sl .bool) a0.2.2.2]), (1, iV a1)], [], 0⟩ _ _
  refine HT.rg2 (oHs 2) ⟨[(1, iV a1), (2, pV 0 0)], [(0, .box [iC a0.1, iC a0.2.1, nC a0.2.2.1, .dat (.sl .bool) a0.2.2.2])], 1⟩ hX (by kernel_rfl) allNil ?_
  obtain ⟨y1, hc2, hr⟩ := of_bind hr
  refine HT.rg2 [oH, oH, oH, ⟨none, .call [.imm tLI, .imm tI] [⟨false, tI, y1⟩] []⟩, oH] ⟨[(1, iV y1), (2, pV 0 0)], [(0, .box [iC a0.1, iC a0.2.1, nC a0.2.2.1, .dat (.sl .bool) a0.2.2.2])], 1⟩ hX (by kernel_rfl) (allCons (f90_ok hc2) allNil) ?_
  refine HT.seq ?_
  refine HT.rg2 (oHs 2) ⟨[(1, iV y1), (2, pV 0 0), (10, bV (decide (y1 < (0 : Int))))], [(0, .box [iC a0.1, iC a0.2.1, nC a0.2.2.1, .dat (.sl .bool) a0.2.2.2])], 1⟩ hX (by kernel_rfl) allNil ?_
  rcases of_bif hr with ⟨hb3, hr⟩ | ⟨hb3, hr⟩
  · refine HT.cond1 rfl hb3 ?_
    refine HT.rg2 [oH] ⟨[(4, iV (-1 : Int))], [], 1⟩ hX (by kernel_rfl) allNil ?_
    have hr := of_some hr
    subst hr
    exact HT.ret (qThenR ⟨[iV (-1 : Int)], [], [], by kernel_rfl, by kernel_rfl, rfl, by kernel_rfl, by kernel_rfl, trivial⟩)
  · refine HT.cond0 rfl hb3 ?_
    refine HT.skip (qThen ?_)
    obtain ⟨y4, hc5, hr⟩ := of_bind hr
    refine HT.rg2 [oH, oH, oH, ⟨none, .call [.imm (.sl .bool), .imm tI] [⟨false, tI, y4⟩] []⟩, oH] ⟨[(1, iV y4)], [], 1⟩ hX (by kernel_rfl) (allCons (f91_ok hc5) allNil) ?_
    refine HT.seq ?_
    refine HT.rg2 (oHs 2) ⟨[(1, iV y4), (16, bV (decide (y4 < (0 : Int))))], [], 1⟩ hX (by kernel_rfl) allNil ?_
    rcases of_bif hr with ⟨hb6, hr⟩ | ⟨hb6, hr⟩
    · refine HT.cond1 rfl hb6 ?_
      refine HT.rg2 [oH] ⟨[(4, iV (-1 : Int))], [], 1⟩ hX (by kernel_rfl) allNil ?_
      have hr := of_some hr
      subst hr
      exact HT.ret (qThenR ⟨[iV (-1 : Int)], [], [], by kernel_rfl, by kernel_rfl, rfl, by kernel_rfl, by kernel_rfl, trivial⟩)
    · refine HT.cond0 rfl hb6 ?_
      refine HT.skip (qThen ?_)
      refine HT.rg2 (oHs 2) ⟨[(4, iV y4)], [], 1⟩ hX (by kernel_rfl) allNil ?_
      have hr := of_some hr
      subst hr
      exact HT.ret ⟨[iV y4], [], [], by kernel_rfl, by kernel_rfl, rfl, by kernel_rfl, by kernel_rfl, trivial⟩

noncomputable def laws_eqInt64S_B1 (a0 : List Int) (a1 : List Int) (s2 : Int) : Option ((Int) ⊕ (Unit ⊕ Unit)) :=
  bif (decide (s2 < (lenI a0))) then
    guardP ((0 : Int) ≤ s2 ∧ s2 < lenI a0) (
      guardP ((0 : Int) ≤ s2 ∧ s2 < lenI a1) (
        bif ((List.getD a0 (Int.toNat s2) (0 : Int)) != (List.getD a1 (Int.toNat s2) (0 : Int))) then
          some (.inr (.inr ()))
        else
          some (.inl (wadd .i64 s2 (1 : Int)))))
  else
    some (.inr (.inl ()))

noncomputable def laws_eqInt64S (a0 : List Int) (a1 : List Int) : Option (Bool) :=
  bif ((lenI a0) != (lenI a1)) then
    some false
  else
    (rounds (laws_eqInt64S_B1 a0 a1) (0 : Int)).bind fun r3 => match r3 with
      | .inl r4 =>
        some true
      | .inr r5 =>
        some false

theorem f76_ok {a0 : List Int} {a1 : List Int} {r : Bool} (hr : laws_eqInt64S a0 a1 = some r) : CallOK Tryd.prog 76 [.imm tLI a0, .imm tLI a1] [⟨false, .bool, r⟩] [] := by
  unfold laws_eqInt64S at hr
  refine CallOK.of_body (ts := [(false, .bool)]) Tryd.func76 rfl (by kernel_rfl) (Nat.le_of_ble_eq_true (by kernel_rfl)) fun cx hP hN hO hF => ?_
  have hO : cx.own.map Prod.fst = [] := hO
  have hX := CxIs.mk hP hN hO
  have hF := hF rfl
  show HT cx ⟨[(0, nV a0), (1, nV a1)], [], 0⟩ _ _
  refine HT.rg2 [oH] ⟨[(0, nV a0), (1, nV a1)], [], 0⟩ hX (by kernel_rfl) allNil ?_
  refine HT.seq ?_
  refine HT.rg2 (oHs 5) ⟨[(0, nV a0), (1, nV a1), (10, bV ((lenI a0) != (lenI a1)))], [], 0⟩ hX (by kernel_rfl) allNil ?_
  rcases of_bif hr with ⟨hb1, hr⟩ | ⟨hb1, hr⟩
  · refine HT.cond1 rfl hb1 ?_
    refine HT.rg2 [oH] ⟨[(4, bV false)], [], 0⟩ hX (by kernel_rfl) allNil ?_
    have hr := of_some hr
    subst hr
    exact HT.ret (qThenR ⟨[bV false], [], [], by kernel_rfl, by kernel_rfl, rfl, by kernel_rfl, by kernel_rfl, trivial⟩)
  · refine HT.cond0 rfl hb1 ?_
    refine HT.skip (qThen ?_)
    refine HT.seq ?_
    refine HT.rg2 [oH] ⟨[(0, nV a0), (1, nV a1), (5, iV (0 : Int))], [], 0⟩ hX (by kernel_rfl) allNil ?_
    refine HT.block ?_
    obtain ⟨r3, hL13, hr⟩ := of_bind hr
    refine HT.loopL (fun (s2 : Int) => ⟨[(0, nV a0), (1, nV a1), (5, iV s2)], [], 0⟩) (fun (r3 : Unit ⊕ Unit) => match r3 with | .inl r4 => (.exit 0, ⟨[], [], 0⟩) | .inr r5 => (.ret, ⟨[(4, bV false)], [], 0⟩)) (Le.re [] [] hX (by kernel_rfl)) hL13 ?_ (fun s2 x6 hx7 hk8 => ?_)
    · rcases r3 with r4 | r5
      · refine (qBlockX (qThen ?_))
        refine HT.rg2 [oH] ⟨[(4, bV true)], [], 0⟩ hX (by kernel_rfl) allNil ?_
        have hr := of_some hr
        subst hr
        exact HT.ret ⟨[bV true], [], [], by kernel_rfl, by kernel_rfl, rfl, by kernel_rfl, by kernel_rfl, trivial⟩
      · have hr := of_some hr
        subst hr
        exact (qBlockR (qThenR ⟨[bV false], [], [], by kernel_rfl, by kernel_rfl, rfl, by kernel_rfl, by kernel_rfl, trivial⟩))
    · refine HT.seq ?_
      refine HT.rg2 (oHs 4) ⟨[(0, nV a0), (1, nV a1), (5, iV s2), (14, bV (decide (s2 < (lenI a0))))], [], 0⟩ hX (by kernel_rfl) allNil ?_
      rcases of_bif hx7 with ⟨hb9, hx7⟩ | ⟨hb9, hx7⟩
      · refine HT.cond1 rfl hb9 ?_
        refine HT.skip (qThen ?_)
        refine HT.seq ?_
        refine HT.block ?_
        obtain ⟨hg10, hx7⟩ := of_guard hx7
        obtain ⟨hg11, hx7⟩ := of_guard hx7
        refine HT.dr2 8 [⟨oH, []⟩, ⟨oH, []⟩, ⟨oH, [0, 1]⟩, ⟨oH, [0, 1, 2]⟩, ⟨oH, []⟩, ⟨oH, []⟩, ⟨oH, [4, 5]⟩, ⟨oH, [4, 5, 6]⟩] [[0, 1, 2, 3, 4, 5, 6, 7]] [oH] ⟨[(0, nV a0), (1, nV a1), (5, iV s2), (25, bV ((List.getD a0 (Int.toNat s2) (0 : Int)) != (List.getD a1 (Int.toNat s2) (0 : Int))))], [], 0⟩ hX (by kernel_rfl) (by kernel_rfl) (allCons hg10 (allCons hg11 allNil)) ?_
        rcases of_bif hx7 with ⟨hb12, hx7⟩ | ⟨hb12, hx7⟩
        · refine HT.cond1 rfl hb12 ?_
          refine HT.rg2 [oH] ⟨[(4, bV false)], [], 0⟩ hX (by kernel_rfl) allNil ?_
          have hx7 := of_some hx7
          subst hx7
          exact HT.retL (Le.re [] [] hX (by kernel_rfl)) (qBlockR (qThenR (qLoopR (hk8 (.inr ()) rfl))))
        · refine HT.cond0 rfl hb12 ?_
          refine HT.skip (qBlock (qThen ?_))
          have hx7 := of_some hx7
          subst hx7
          exact HT.rgK (oHs 3) [] [] hX (by kernel_rfl) allNil (fun _ h => (qLoopN ⟨(wadd .i64 s2 (1 : Int)), rfl, h⟩))
      · refine HT.cond0 rfl hb9 ?_
        have hx7 := of_some hx7
        subst hx7
        exact HT.exitL (Le.re [] [] hX (by kernel_rfl)) (qThenE (qLoopE (hk8 (.inl ()) rfl)))

noncomputable def laws_eqBoolS_B1 (a0 : List Bool) (a1 : List Bool) (s2 : Int) : Option ((Int) ⊕ (Unit ⊕ Unit)) :=
  bif (decide (s2 < (lenI a0))) then
    guardP ((0 : Int) ≤ s2 ∧ s2 < lenI a0) (
      guardP ((0 : Int) ≤ s2 ∧ s2 < lenI a1) (
        bif ((List.getD a0 (Int.toNat s2) false) != (List.getD a1 (Int.toNat s2) false)) then
          some (.inr (.inr ()))
        else
          some (.inl (wadd .i64 s2 (1 : Int)))))
  else
    some (.inr (.inl ()))

noncomputable def laws_eqBoolS (a0 : List Bool) (a1 : List Bool) : Option (Bool) :=
  bif ((lenI a0) != (lenI a1)) then
    some false
  else
    (rounds (laws_eqBoolS_B1 a0 a1) (0 : Int)).bind fun r3 => match r3 with
      | .inl r4 =>
        some true
      | .inr r5 =>
        some false

theorem f77_ok {a0 : List Bool} {a1 : List Bool} {r : Bool} (hr : laws_eqBoolS a0 a1 = some r) : CallOK Tryd.prog 77 [.imm (.sl .bool) a0, .imm (.sl .bool) a1] [⟨false, .bool, r⟩] [] := by
  unfold laws_eqBoolS at hr
  refine CallOK.of_body (ts := [(false, .bool)]) Tryd.func77 rfl (by kernel_rfl) (Nat.le_of_ble_eq_true (by kernel_rfl)) fun cx hP hN hO hF => ?_
  have hO : cx.own.map Prod.fst = [] := hO
  have hX := CxIs.mk hP hN hO
  have hF := hF rfl
  show HT cx ⟨[(0, .one (.dat (.sl .bool) a0)), (1, .one (.dat (.sl .bool) a1))], [], 0⟩ _ _
  refine HT.rg2 [oH] ⟨[(0, .one (.dat (.sl .bool) a0)), (1, .one (.dat (.sl .bool) a1))], [], 0⟩ hX (by kernel_rfl) allNil ?_
  refine HT.seq ?_
  refine HT.rg2 (oHs 5) ⟨[(0, .one (.dat (.sl .bool) a0)), (1, .one (.dat (.sl .bool) a1)), (10, bV ((lenI a0) != (lenI a1)))], [], 0⟩ hX (by kernel_rfl) allNil ?_
  rcases of_bif hr with ⟨hb1, hr⟩ | ⟨hb1, hr⟩
  · refine HT.cond1 rfl hb1 ?_
    refine HT.rg2 [oH] ⟨[(4, bV false)], [], 0⟩ hX (by kernel_rfl) allNil ?_
    have hr := of_some hr
    subst hr
    exact HT.ret (qThenR ⟨[bV false], [], [], by kernel_rfl, by kernel_rfl, rfl, by kernel_rfl, by kernel_rfl, trivial⟩)
  · refine HT.cond0 rfl hb1 ?_
    refine HT.skip (qThen ?_)
    refine HT.seq ?_
    refine HT.rg2 [oH] ⟨[(0, .one (.dat (.sl .bool) a0)), (1, .one (.dat (.sl .bool) a1)), (5, iV (0 : Int))], [], 0⟩ hX (by kernel_rfl) allNil ?_
    refine HT.block ?_
    obtain ⟨r3, hL13, hr⟩ := of_bind hr
    refine HT.loopL (fun (s2 : Int) => ⟨[(0, .one (.dat (.sl .bool) a0)), (1, .one (.dat (.sl .bool) a1)), (5, iV s2)], [], 0⟩) (fun (r3 : Unit ⊕ Unit) => match r3 with | .inl r4 => (.exit 0, ⟨[], [], 0⟩) | .inr r5 => (.ret, ⟨[(4, bV false)], [], 0⟩)) (Le.re [] [] hX (by kernel_rfl)) hL13 ?_ (fun s2 x6 hx7 hk8 => ?_)
    · rcases r3 with r4 | r5
      · refine (qBlockX (qThen ?_))
        refine HT.rg2 [oH] ⟨[(4, bV true)], [], 0⟩ hX (by kernel_rfl) allNil ?_
        have hr := of_some hr
        subst hr
        exact HT.ret ⟨[bV true], [], [], by kernel_rfl, by kernel_rfl, rfl, by kernel_rfl, by kernel_rfl, trivial⟩
      · have hr := of_some hr
        subst hr
        exact (qBlockR (qThenR ⟨[bV false], [], [], by kernel_rfl, by kernel_rfl, rfl, by kernel_rfl, by kernel_rfl, trivial⟩))
    · refine HT.seq ?_
      refine HT.rg2 (oHs 4) ⟨[(0, .one (.dat (.sl .bool) a0)), (1, .one (.dat (.sl .bool) a1)), (5, iV s2), (14, bV (decide (s2 < (lenI a0))))], [], 0⟩ hX (by kernel_rfl) allNil ?_
      rcases of_bif hx7 with ⟨hb9, hx7⟩ | ⟨hb9, hx7⟩
      · refine HT.cond1 rfl hb9 ?_
        refine HT.skip (qThen ?_)
        refine HT.seq ?_
        refine HT.block ?_
        obtain ⟨hg10, hx7⟩ := of_guard hx7
        obtain ⟨hg11, hx7⟩ := of_guard hx7
        refine HT.dr2 8 [⟨oH, []⟩, ⟨oH, []⟩, ⟨oH, [0, 1]⟩, ⟨oH, [0, 1, 2]⟩, ⟨oH, []⟩, ⟨oH, []⟩, ⟨oH, [4, 5]⟩, ⟨oH, [4, 5, 6]⟩] [[0, 1, 2, 3, 4, 5, 6, 7]] [oH] ⟨[(0, .one (.dat (.sl .bool) a0)), (1, .one (.dat (.sl .bool) a1)), (5, iV s2), (25, bV ((List.getD a0 (Int.toNat s2) false) != (List.getD a1 (Int.toNat s2) false)))], [], 0⟩ hX (by kernel_rfl) (by kernel_rfl) (allCons hg10 (allCons hg11 allNil)) ?_
        rcases of_bif hx7 with ⟨hb12, hx7⟩ | ⟨hb12, hx7⟩
        · refine HT.cond1 rfl hb12 ?_
          refine HT.rg2 [oH] ⟨[(4, bV false)], [], 0⟩ hX (by kernel_rfl) allNil ?_
          have hx7 := of_some hx7
          subst hx7
          exact HT.retL (Le.re [] [] hX (by kernel_rfl)) (qBlockR (qThenR (qLoopR (hk8 (.inr ()) rfl))))
        · refine HT.cond0 rfl hb12 ?_
          refine HT.skip (qBlock (qThen ?_))
          have hx7 := of_some hx7
          subst hx7
          exact HT.rgK (oHs 3) [] [] hX (by kernel_rfl) allNil (fun _ h => (qLoopN ⟨(wadd .i64 s2 (1 : Int)), rfl, h⟩))
      · refine HT.cond0 rfl hb9 ?_
        have hx7 := of_some hx7
        subst hx7
        exact HT.exitL (Le.re [] [] hX (by kernel_rfl)) (qThenE (qLoopE (hk8 (.inl ()) rfl)))

noncomputable def laws_eqPlain (a0 : Int × Int × List Int × List Bool) (a1 : Int × Int × List Int × List Bool) : Option (Bool) :=
  bif (a0.1 != a1.1) then
    some false
  else
    bif (a0.2.1 != a1.2.1) then
      some false
    else
      (laws_eqInt64S a0.2.2.1 a1.2.2.1).bind fun y3 =>
      bif (!y3) then
        some false
      else
        (laws_eqBoolS a0.2.2.2 a1.2.2.2).bind fun y6 =>
        bif (!y6) then
          some false
        else
          some true

theorem f30_ok {a0 : Int × Int × List Int × List Bool} {a1 : Int × Int × List Int × List Bool} {r : Bool} (hr : laws_eqPlain a0 a1 = some r) : CallOK Tryd.prog 30 [.imm (.st (.pair tI (.pair tI (.pair tLI (.sl .bool))))) a0, .imm (.st (.pair tI (.pair tI (.pair tLI (.sl .bool))))) a1] [⟨false, .bool, r⟩] [] := by
  unfold laws_eqPlain at hr
  refine CallOK.of_body (ts := [(false, .bool)]) Tryd.func30 rfl (by kernel_rfl) (Nat.le_of_ble_eq_true (by kernel_rfl)) fun cx hP hN hO hF => ?_
  have hO : cx.own.map Prod.fst = [] := hO
  have hX := CxIs.mk hP hN hO
  have hF := hF rfl
  show HT cx ⟨[(0, .agg [iC a0.1, iC a0.2.1, nC a0.2.2.1, .dat (.sl .bool) a0.2.2.2]), (1, .agg [iC a1.1, iC a1.2.1, nC a1.2.2.1, .dat (.sl .bool) a1.2.2.2])], [], 0⟩ _ _
  refine HT.rg2 (oHs 3) ⟨[(2, pV 0 0), (3, pV 1 0)], [(1, .box [iC a1.1, iC a1.2.1, nC a1.2.2.1, .dat (.sl .bool) a1.2.2.2]), (0, .box [iC a0.1, iC a0.2.1, nC a0.2.2.1, .dat (.sl .bool) a0.2.2.2])], 2⟩ hX (by kernel_rfl) allNil ?_
  refine HT.seq ?_
  refine HT.rg2 (oHs 5) ⟨[(2, pV 0 0), (3, pV 1 0), (9, bV (a0.1 != a1.1))], [(1, .box [iC a1.1, iC a1.2.1, nC a1.2.2.1, .dat (.sl .bool) a1.2.2.2]), (0, .box [iC a0.1, iC a0.2.1, nC a0.2.2.1, .dat (.sl .bool) a0.2.2.2])], 2⟩ hX (by kernel_rfl) allNil ?_
  rcases of_bif hr with ⟨hb1, hr⟩ | ⟨hb1, hr⟩
  · refine HT.cond1 rfl hb1 ?_
    refine HT.rg2 [oH] ⟨[(4, bV false)], [], 2⟩ hX (by kernel_rfl) allNil ?_
    have hr := of_some hr
    subst hr
    exact HT.ret (qThenR ⟨[bV false], [], [], by kernel_rfl, by kernel_rfl, rfl, by kernel_rfl, by kernel_rfl, trivial⟩)
  · refine HT.cond0 rfl hb1 ?_
    refine HT.skip (qThen ?_)
    refine HT.seq ?_
    refine HT.rg2 (oHs 5) ⟨[(2, pV 0 0), (3, pV 1 0), (14, bV (a0.2.1 != a1.2.1))], [(1, .box [iC a1.1, iC a1.2.1, nC a1.2.2.1, .dat (.sl .bool) a1.2.2.2]), (0, .box [iC a0.1, iC a0.2.1, nC a0.2.2.1, .dat (.sl .bool) a0.2.2.2])], 2⟩ hX (by kernel_rfl) allNil ?_
    rcases of_bif hr with ⟨hb2, hr⟩ | ⟨hb2, hr⟩
    · refine HT.cond1 rfl hb2 ?_
      refine HT.rg2 [oH] ⟨[(4, bV false)], [], 2⟩ hX (by kernel_rfl) allNil ?_
      have hr := of_some hr
      subst hr
      exact HT.ret (qThenR ⟨[bV false], [], [], by kernel_rfl, by kernel_rfl, rfl, by kernel_rfl, by kernel_rfl, trivial⟩)
    · refine HT.cond0 rfl hb2 ?_
      refine HT.skip (qThen ?_)
      refine HT.seq ?_
      obtain ⟨y3, hc4, hr⟩ := of_bind hr
      refine HT.rg2 [oH, oH, oH, oH, ⟨none, .call [.imm tLI, .imm tLI] [⟨false, .bool, y3⟩] []⟩, oH] ⟨[(2, pV 0 0), (3, pV 1 0), (20, bV (!y3))], [(1, .box [iC a1.1, iC a1.2.1, nC a1.2.2.1, .dat (.sl .bool) a1.2.2.2]), (0, .box [iC a0.1, iC a0.2.1, nC a0.2.2.1, .dat (.sl .bool) a0.2.2.2])], 2⟩ hX (by kernel_rfl) (allCons (f76_ok hc4) allNil) ?_
      rcases of_bif hr with ⟨hb5, hr⟩ | ⟨hb5, hr⟩
      · refine HT.cond1 rfl hb5 ?_
        refine HT.rg2 [oH] ⟨[(4, bV false)], [], 2⟩ hX (by kernel_rfl) allNil ?_
        have hr := of_some hr
        subst hr
        exact HT.ret (qThenR ⟨[bV false], [], [], by kernel_rfl, by kernel_rfl, rfl, by kernel_rfl, by kernel_rfl, trivial⟩)
      · refine HT.cond0 rfl hb5 ?_
        refine HT.skip (qThen ?_)
        refine HT.seq ?_
        obtain ⟨y6, hc7, hr⟩ := of_bind hr
        refine HT.rg2 [oH, oH, oH, oH, ⟨none, .call [.imm (.sl .bool), .imm (.sl .bool)] [⟨false, .bool, y6⟩] []⟩, oH] ⟨[(26, bV (!y6))], [], 2⟩ hX (by kernel_rfl) (allCons (f77_ok hc7) allNil) ?_
        rcases of_bif hr with ⟨hb8, hr⟩ | ⟨hb8, hr⟩
        · refine HT.cond1 rfl hb8 ?_
          refine HT.rg2 [oH] ⟨[(4, bV false)], [], 2⟩ hX (by kernel_rfl) allNil ?_
          have hr := of_some hr
          subst hr
          exact HT.ret (qThenR ⟨[bV false], [], [], by kernel_rfl, by kernel_rfl, rfl, by kernel_rfl, by kernel_rfl, trivial⟩)
        · refine HT.cond0 rfl hb8 ?_
          refine HT.skip (qThen ?_)
          refine HT.rg2 [oH] ⟨[(4, bV true)], [], 2⟩ hX (by kernel_rfl) allNil ?_
          have hr := of_some hr
          subst hr
          exact HT.ret ⟨[bV true], [], [], by kernel_rfl, by kernel_rfl, rfl, by kernel_rfl, by kernel_rfl, trivial⟩

noncomputable def laws_FnExactReadPlain (a0 : List UInt8) : Option (Bool) :=
  bif (decide ((lenI a0) > (1048576 : Int))) then
    some true
  else
    (spec_ReadPlain a0).bind fun y2 =>
    (impl_ReadPlain a0).bind fun y4 =>
    (show Option (Bool) from
      (laws_eqPlain (y4.1.1, y4.1.2.1, y4.1.2.2.1, y4.1.2.2.2) (y2.1.1, y2.1.2.1, y2.1.2.2.1, y2.1.2.2.2)).bind fun y29 =>
      bif (!y29) then
        some true
      else
        some (y4.2 != y2.2)).bind fun v6 =>
    bif v6 then
      some false
    else
      (laws_markPlain (y4.1.1, y4.1.2.1, y4.1.2.2.1, y4.1.2.2.2) (1 : Int)).bind fun y10 =>
      (laws_heldPlain (y4.1.1, y4.1.2.1, y10.2.2.2.1, y10.2.2.2.2) (1 : Int)).bind fun y12 =>
      bif (decide (y12 < (0 : Int))) then
        some false
      else
        bif (y12 != y10.1) then
          some false
        else
          (impl_ReadPlain a0).bind fun y16 =>
          (show Option (Bool) from
            (laws_eqPlain (y16.1.1, y16.1.2.1, y16.1.2.2.1, y16.1.2.2.2) (y2.1.1, y2.1.2.1, y2.1.2.2.1, y2.1.2.2.2)).bind fun y26 =>
            bif (!y26) then
              some true
            else
              some (y16.2 != y2.2)).bind fun v18 =>
          bif v18 then
            some false
          else
            (laws_heldPlain (y4.1.1, y4.1.2.1, y10.2.2.2.1, y10.2.2.2.2) (1 : Int)).bind fun y22 =>
            bif (decide (y22 < (0 : Int))) then
              some false
            else
              bif (y22 != y10.1) then
                some false
              else
                some true

theorem f8_ok {a0 : List UInt8} {r : Bool} (hr : laws_FnExactReadPlain a0 = some r) : CallOK Tryd.prog 8 [.imm .str a0] [⟨false, .bool, r⟩] [] := by
  unfold laws_FnExactReadPlain at hr
  refine CallOK.of_body (ts := [(false, .bool)]) Tryd.func8 rfl (by kernel_rfl) (Nat.le_of_ble_eq_true (by kernel_rfl)) fun cx hP hN hO hF => ?_
  have hO : cx.own.map Prod.fst = [] := hO
  have hX := CxIs.mk hP hN hO
  have hF := hF rfl
  show HT cx ⟨[(0, .one (.dat .str a0))], [], 0⟩ _ _
  refine HT.rg2 [oH] ⟨[(0, .one (.dat .str a0))], [], 0⟩ hX (by kernel_rfl) allNil ?_
  refine HT.seq ?_
  refine HT.rg2 (oHs 3) ⟨[(0, .one (.dat .str a0)), (13, bV (decide ((lenI a0) > (1048576 : Int))))], [], 0⟩ hX (by kernel_rfl) allNil ?_
  rcases of_bif hr with ⟨hb1, hr⟩ | ⟨hb1, hr⟩
  · refine HT.cond1 rfl hb1 ?_
    refine HT.rg2 [oH] ⟨[(2, bV true)], [], 0⟩ hX (by kernel_rfl) allNil ?_
    have hr := of_some hr
    subst hr
    exact HT.ret (qThenR ⟨[bV true], [], [], by kernel_rfl, by kernel_rfl, rfl, by kernel_rfl, by kernel_rfl, trivial⟩)
  · refine HT.cond0 rfl hb1 ?_
    refine HT.skip (qThen ?_)
    obtain ⟨y2, hc3, hr⟩ := of_bind hr
    refine HT.rg2 [oH, ⟨none, .call [.imm .str] [⟨true, (.st (.pair tI (.pair tI (.pair tLI (.sl .bool))))), y2.1⟩, ⟨false, .bool, y2.2⟩] []⟩, oH, oH, oH, oH, oH, oH] ⟨[(0, .one (.dat .str a0)), (3, pV 2 0), (4, bV y2.2)], [(2, .box [iC y2.1.1, iC y2.1.2.1, .all 0, .all 1]), (0, .seq tI y2.1.2.2.1), (1, .seq .bool y2.1.2.2.2)], 3⟩ hX (by kernel_rfl) (allCons (f36_ok hc3) allNil) ?_
    obtain ⟨y4, hc5, hr⟩ := of_bind hr
    refine HT.rg2 [oH, ⟨none, .call [.imm .str] [⟨true, (.st (.pair tI (.pair tI (.pair tLI (.sl .bool))))), y4.1⟩, ⟨false, .bool, y4.2⟩] []⟩, oH, oH, oH, oH, oH, oH] ⟨[(0, .one (.dat .str a0)), (3, pV 2 0), (4, bV y2.2), (5, pV 5 0), (6, bV y4.2)], [(5, .box [iC y4.1.1, iC y4.1.2.1, .all 3, .all 4]), (3, .seq tI y4.1.2.2.1), (4, .seq .bool y4.1.2.2.2), (2, .box [iC y2.1.1, iC y2.1.2.1, .all 0, .all 1]), (0, .seq tI y2.1.2.2.1), (1, .seq .bool y2.1.2.2.2)], 6⟩ hX (by kernel_rfl) (allCons (f37_ok hc5) allNil) ?_
    refine HT.seq ?_
    obtain ⟨v6', hT8, hr⟩ := of_bind hr
    refine HT.join (fun (v6 : Bool) => ⟨[(0, .one (.dat .str a0)), (3, pV 0 0), (4, bV y2.2), (5, pV 1 0), (32, bV v6)], [(0, .box [iC y2.1.1, iC y2.1.2.1, .all 2, .all 3]), (1, .box [iC y4.1.1, iC y4.1.2.1, .all 4, .all 5]), (2, .seq tI y2.1.2.2.1), (3, .seq .bool y2.1.2.2.2), (4, .seq tI y4.1.2.2.1), (5, .seq .bool y4.1.2.2.2)], 6⟩) (fun v => v = v6') (fun v6 hv7 => ?_) (fun cont => ?_)
    · subst hv7
      rcases of_bif hr with ⟨hb9, hr⟩ | ⟨hb9, hr⟩
      · refine HT.cond1 rfl hb9 ?_
        refine HT.rg2 [oH] ⟨[(2, bV false)], [], 6⟩ hX (by kernel_rfl) allNil ?_
        have hr := of_some hr
        subst hr
        exact HT.ret (qThenR ⟨[bV false], [], [], by kernel_rfl, by kernel_rfl, rfl, by kernel_rfl, by kernel_rfl, trivial⟩)
      · refine HT.cond0 rfl hb9 ?_
        refine HT.skip (qThen ?_)
        refine HT.rg2 [oH] ⟨[(0, .one (.dat .str a0)), (3, pV 0 0), (4, bV y2.2), (5, pV 1 0), (7, iV (1 : Int))], [(0, .box [iC y2.1.1, iC y2.1.2.1, .all 2, .all 3]), (1, .box [iC y4.1.1, iC y4.1.2.1, .all 4, .all 5]), (2, .seq tI y2.1.2.2.1), (3, .seq .bool y2.1.2.2.2), (4, .seq tI y4.1.2.2.1), (5, .seq .bool y4.1.2.2.2)], 6⟩ hX (by kernel_rfl) allNil ?_
        obtain ⟨y10, hc11, hr⟩ := of_bind hr
        refine HT.rg2 [oH, oH, ⟨none, .call [.own (.st (.pair tI (.pair tI (.pair tLI (.sl .bool))))), .imm tI] [⟨false, tI, y10.1⟩] [⟨(.st (.pair tI (.pair tI (.pair tLI (.sl .bool))))), y10.2⟩]⟩, oH] ⟨[(0, .one (.dat .str a0)), (3, pV 0 0), (4, bV y2.2), (5, pV 1 0), (7, iV y10.1)], [(4, .seq tI y10.2.2.2.1), (5, .seq .bool y10.2.2.2.2), (0, .box [iC y2.1.1, iC y2.1.2.1, .all 2, .all 3]), (1, .box [iC y4.1.1, iC y4.1.2.1, .all 4, .all 5]), (2, .seq tI y2.1.2.2.1), (3, .seq .bool y2.1.2.2.2)], 6⟩ hX (by kernel_rfl) (allCons (f38_ok hc11) allNil) ?_
        refine HT.rg2 [oH] ⟨[(0, .one (.dat .str a0)), (3, pV 0 0), (4, bV y2.2), (5, pV 1 0), (7, iV y10.1), (8, iV (1 : Int))], [(4, .seq tI y10.2.2.2.1), (5, .seq .bool y10.2.2.2.2), (0, .box [iC y2.1.1, iC y2.1.2.1, .all 2, .all 3]), (1, .box [iC y4.1.1, iC y4.1.2.1, .all 4, .all 5]), (2, .seq tI y2.1.2.2.1), (3, .seq .bool y2.1.2.2.2)], 6⟩ hX (by kernel_rfl) allNil ?_
        obtain ⟨y12, hc13, hr⟩ := of_bind hr
        refine HT.rg2 [oH, oH, ⟨none, .call [.imm (.st (.pair tI (.pair tI (.pair tLI (.sl .bool))))), .imm tI] [⟨false, tI, y12⟩] []⟩, oH] ⟨[(0, .one (.dat .str a0)), (3, pV 0 0), (4, bV y2.2), (5, pV 1 0), (7, iV y10.1), (8, iV y12)], [(4, .seq tI y10.2.2.2.1), (5, .seq .bool y10.2.2.2.2), (0, .box [iC y2.1.1, iC y2.1.2.1, .all 2, .all 3]), (1, .box [iC y4.1.1, iC y4.1.2.1, .all 4, .all 5]), (2, .seq tI y2.1.2.2.1), (3, .seq .bool y2.1.2.2.2)], 6⟩ hX (by kernel_rfl) (allCons (f39_ok hc13) allNil) ?_
        refine HT.seq ?_
        refine HT.rg2 (oHs 2) ⟨[(0, .one (.dat .str a0)), (3, pV 0 0), (4, bV y2.2), (5, pV 1 0), (7, iV y10.1), (8, iV y12), (40, bV (decide (y12 < (0 : Int))))], [(4, .seq tI y10.2.2.2.1), (5, .seq .bool y10.2.2.2.2), (0, .box [iC y2.1.1, iC y2.1.2.1, .all 2, .all 3]), (1, .box [iC y4.1.1, iC y4.1.2.1, .all 4, .all 5]), (2, .seq tI y2.1.2.2.1), (3, .seq .bool y2.1.2.2.2)], 6⟩ hX (by kernel_rfl) allNil ?_
        rcases of_bif hr with ⟨hb14, hr⟩ | ⟨hb14, hr⟩
        · refine HT.cond1 rfl hb14 ?_
          refine HT.rg2 [oH] ⟨[(2, bV false)], [], 6⟩ hX (by kernel_rfl) allNil ?_
          have hr := of_some hr
          subst hr
          exact HT.ret (qThenR ⟨[bV false], [], [], by kernel_rfl, by kernel_rfl, rfl, by kernel_rfl, by kernel_rfl, trivial⟩)
        · refine HT.cond0 rfl hb14 ?_
          refine HT.skip (qThen ?_)
          refine HT.seq ?_
          refine HT.rg2 (oHs 3) ⟨[(0, .one (.dat .str a0)), (3, pV 0 0), (4, bV y2.2), (5, pV 1 0), (7, iV y10.1), (43, bV (y12 != y10.1))], [(4, .seq tI y10.2.2.2.1), (5, .seq .bool y10.2.2.2.2), (0, .box [iC y2.1.1, iC y2.1.2.1, .all 2, .all 3]), (1, .box [iC y4.1.1, iC y4.1.2.1, .all 4, .all 5]), (2, .seq tI y2.1.2.2.1), (3, .seq .bool y2.1.2.2.2)], 6⟩ hX (by kernel_rfl) allNil ?_
          rcases of_bif hr with ⟨hb15, hr⟩ | ⟨hb15, hr⟩
          · refine HT.cond1 rfl hb15 ?_
            refine HT.rg2 [oH] ⟨[(2, bV false)], [], 6⟩ hX (by kernel_rfl) allNil ?_
            have hr := of_some hr
            subst hr
            exact HT.ret (qThenR ⟨[bV false], [], [], by kernel_rfl, by kernel_rfl, rfl, by kernel_rfl, by kernel_rfl, trivial⟩)
          · refine HT.cond0 rfl hb15 ?_
            refine HT.skip (qThen ?_)
            obtain ⟨y16, hc17, hr⟩ := of_bind hr
            refine HT.rg2 [oH, ⟨none, .call [.imm .str] [⟨true, (.st (.pair tI (.pair tI (.pair tLI (.sl .bool))))), y16.1⟩, ⟨false, .bool, y16.2⟩] []⟩, oH, oH, oH, oH, oH, oH] ⟨[(3, pV 0 0), (4, bV y2.2), (5, pV 1 0), (7, iV y10.1), (9, pV 8 0), (10, bV y16.2)], [(8, .box [iC y16.1.1, iC y16.1.2.1, .all 6, .all 7]), (6, .seq tI y16.1.2.2.1), (7, .seq .bool y16.1.2.2.2), (4, .seq tI y10.2.2.2.1), (5, .seq .bool y10.2.2.2.2), (0, .box [iC y2.1.1, iC y2.1.2.1, .all 2, .all 3]), (1, .box [iC y4.1.1, iC y4.1.2.1, .all 4, .all 5]), (2, .seq tI y2.1.2.2.1), (3, .seq .bool y2.1.2.2.2)], 9⟩ hX (by kernel_rfl) (allCons (f37_ok hc17) allNil) ?_
            refine HT.seq ?_
            obtain ⟨v18', hT20, hr⟩ := of_bind hr
            refine HT.join (fun (v18 : Bool) => ⟨[(5, pV 0 0), (7, iV y10.1), (57, bV v18)], [(0, .box [iC y4.1.1, iC y4.1.2.1, .all 1, .all 2]), (1, .seq tI y10.2.2.2.1), (2, .seq .bool y10.2.2.2.2)], 3⟩) (fun v => v = v18') (fun v18 hv19 => ?_) (fun cont => ?_)
            · subst hv19
              rcases of_bif hr with ⟨hb21, hr⟩ | ⟨hb21, hr⟩
              · refine HT.cond1 rfl hb21 ?_
                refine HT.rg2 [oH] ⟨[(2, bV false)], [], 3⟩ hX (by kernel_rfl) allNil ?_
                have hr := of_some hr
                subst hr
                exact HT.ret (qThenR ⟨[bV false], [], [], by kernel_rfl, by kernel_rfl, rfl, by kernel_rfl, by kernel_rfl, trivial⟩)
              · refine HT.cond0 rfl hb21 ?_
                refine HT.skip (qThen ?_)
                refine HT.rg2 [oH] ⟨[(5, pV 0 0), (7, iV y10.1), (8, iV (1 : Int))], [(0, .box [iC y4.1.1, iC y4.1.2.1, .all 1, .all 2]), (1, .seq tI y10.2.2.2.1), (2, .seq .bool y10.2.2.2.2)], 3⟩ hX (by kernel_rfl) allNil ?_
                obtain ⟨y22, hc23, hr⟩ := of_bind hr
                refine HT.rg2 [oH, oH, ⟨none, .call [.imm (.st (.pair tI (.pair tI (.pair tLI (.sl .bool))))), .imm tI] [⟨false, tI, y22⟩] []⟩, oH] ⟨[(7, iV y10.1), (8, iV y22)], [], 3⟩ hX (by kernel_rfl) (allCons (f39_ok hc23) allNil) ?_
                refine HT.seq ?_
                refine HT.rg2 (oHs 2) ⟨[(7, iV y10.1), (8, iV y22), (62, bV (decide (y22 < (0 : Int))))], [], 3⟩ hX (by kernel_rfl) allNil ?_
                rcases of_bif hr with ⟨hb24, hr⟩ | ⟨hb24, hr⟩
                · refine HT.cond1 rfl hb24 ?_
                  refine HT.rg2 [oH] ⟨[(2, bV false)], [], 3⟩ hX (by kernel_rfl) allNil ?_
                  have hr := of_some hr
                  subst hr
                  exact HT.ret (qThenR ⟨[bV false], [], [], by kernel_rfl, by kernel_rfl, rfl, by kernel_rfl, by kernel_rfl, trivial⟩)
                · refine HT.cond0 rfl hb24 ?_
                  refine HT.skip (qThen ?_)
                  refine HT.seq ?_
                  refine HT.rg2 (oHs 3) ⟨[(65, bV (y22 != y10.1))], [], 3⟩ hX (by kernel_rfl) allNil ?_
                  rcases of_bif hr with ⟨hb25, hr⟩ | ⟨hb25, hr⟩
                  · refine HT.cond1 rfl hb25 ?_
                    refine HT.rg2 [oH] ⟨[(2, bV false)], [], 3⟩ hX (by kernel_rfl) allNil ?_
                    have hr := of_some hr
                    subst hr
                    exact HT.ret (qThenR ⟨[bV false], [], [], by kernel_rfl, by kernel_rfl, rfl, by kernel_rfl, by kernel_rfl, trivial⟩)
                  · refine HT.cond0 rfl hb25 ?_
                    refine HT.skip (qThen ?_)
                    refine HT.rg2 [oH] ⟨[(2, bV true)], [], 3⟩ hX (by kernel_rfl) allNil ?_
                    have hr := of_some hr
                    subst hr
                    exact HT.ret ⟨[bV true], [], [], by kernel_rfl, by kernel_rfl, rfl, by kernel_rfl, by kernel_rfl, trivial⟩
            · obtain ⟨y26, hc27, hT20⟩ := of_bind hT20
              rcases of_bif hT20 with ⟨hb28, hT20⟩ | ⟨hb28, hT20⟩
              · exact HT.rgK [oH, oH, ⟨none, .call [.imm (.st (.pair tI (.pair tI (.pair tLI (.sl .bool))))), .imm (.st (.pair tI (.pair tI (.pair tLI (.sl .bool)))))] [⟨false, .bool, y26⟩] []⟩, oH, oH, ⟨some true, .no⟩, ⟨some true, .no⟩, ⟨some true, .no⟩, ⟨none, .tv true⟩] [(1, 0), (4, 1), (5, 2)] [] hX (by kernel_rfl) (allCons (f30_ok hc27) (allCons hb28 (allCons hb28 (allCons hb28 (allCons hb28 allNil))))) (fun _ h => (qThen (h.ht (cont true (of_some hT20)))))
              · exact HT.rgK [oH, oH, ⟨none, .call [.imm (.st (.pair tI (.pair tI (.pair tLI (.sl .bool))))), .imm (.st (.pair tI (.pair tI (.pair tLI (.sl .bool)))))] [⟨false, .bool, y26⟩] []⟩, oH, oH, ⟨some false, .no⟩, ⟨some false, .no⟩, ⟨some false, .no⟩, ⟨none, .tv false⟩] [(1, 0), (4, 1), (5, 2)] [] hX (by kernel_rfl) (allCons (f30_ok hc27) (allCons hb28 (allCons hb28 (allCons hb28 (allCons hb28 allNil))))) (fun _ h => (qThen (h.ht (cont (y16.2 != y2.2) (of_some hT20)))))
    · obtain ⟨y29, hc30, hT8⟩ := of_bind hT8
      rcases of_bif hT8 with ⟨hb31, hT8⟩ | ⟨hb31, hT8⟩
      · exact HT.rgK [oH, oH, ⟨none, .call [.imm (.st (.pair tI (.pair tI (.pair tLI (.sl .bool))))), .imm (.st (.pair tI (.pair tI (.pair tLI (.sl .bool)))))] [⟨false, .bool, y29⟩] []⟩, oH, oH, ⟨some true, .no⟩, ⟨some true, .no⟩, ⟨some true, .no⟩, ⟨none, .tv true⟩] [(2, 0), (5, 1), (0, 2), (1, 3), (3, 4), (4, 5)] [] hX (by kernel_rfl) (allCons (f30_ok hc30) (allCons hb31 (allCons hb31 (allCons hb31 (allCons hb31 allNil))))) (fun _ h => (qThen (h.ht (cont true (of_some hT8)))))
      · exact HT.rgK [oH, oH, ⟨none, .call [.imm (.st (.pair tI (.pair tI (.pair tLI (.sl .bool))))), .imm (.st (.pair tI (.pair tI (.pair tLI (.sl .bool)))))] [⟨false, .bool, y29⟩] []⟩, oH, oH, ⟨some false, .no⟩, ⟨some false, .no⟩, ⟨some false, .no⟩, ⟨none, .tv false⟩] [(2, 0), (5, 1), (0, 2), (1, 3), (3, 4), (4, 5)] [] hX (by kernel_rfl) (allCons (f30_ok hc30) (allCons hb31 (allCons hb31 (allCons hb31 (allCons hb31 allNil))))) (fun _ h => (qThen (h.ht (cont (y4.2 != y2.2) (of_some hT8)))))

end Go.Proofs
