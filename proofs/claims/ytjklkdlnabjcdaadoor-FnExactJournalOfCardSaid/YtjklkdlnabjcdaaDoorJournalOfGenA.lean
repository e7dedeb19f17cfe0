import Derived.Test.YtjklkdlnabjcdaaDoorJournalOfShelf
import Derived.Test.YtjklkdlnabjcdaaDoorProg
set_option linter.unusedVariables false
set_option linter.unusedSimpArgs false
set_option linter.unusedSectionVars false
/-
  Functions as plain functions, and their contracts. Printed by a program.
-/
namespace Go.Proofs
open Go.Ide

noncomputable def laws_szStringS_B1 (a0 : List (List UInt8)) (s2 : Int × Int) : Option ((Int × Int) ⊕ (Int ⊕ Unit)) :=
  bif (decide (s2.2 < (lenI a0))) then
    guardP ((0 : Int) ≤ s2.2 ∧ s2.2 < lenI a0) (
      bif (decide ((wsub .i64 s2.1 (lenI (List.getD a0 (Int.toNat s2.2) ([] : List UInt8)))) < (0 : Int))) then
        some (.inr (.inr ()))
      else
        some (.inl ((wsub .i64 s2.1 (lenI (List.getD a0 (Int.toNat s2.2) ([] : List UInt8)))), (wadd .i64 s2.2 (1 : Int)))))
  else
    some (.inr (.inl s2.1))

noncomputable def laws_szStringS (a0 : List (List UInt8)) (a1 : Int) : Option (Int) :=
  bif (decide ((wsub .i64 a1 (lenI a0)) < (0 : Int))) then
    some (-1 : Int)
  else
    (rounds (laws_szStringS_B1 a0) ((wsub .i64 a1 (lenI a0)), (0 : Int))).bind fun r3 => match r3 with
      | .inl r4 =>
        some r4
      | .inr r5 =>
        some (-1 : Int)

theorem f12_ok {a0 : List (List UInt8)} {a1 : Int} {r : Int} (hr : laws_szStringS a0 a1 = some r) : CallOK Tryd.prog 12 [.imm (.sl .str) a0, .imm tI a1] [⟨false, tI, r⟩] [] := by
  unfold laws_szStringS at hr
  refine CallOK.of_body (ts := [(false, tI)]) Tryd.func12 rfl (by kernel_rfl) (Nat.le_of_ble_eq_true (by kernel_rfl)) fun cx hP hN hO hF => ?_
  have hO : cx.own.map Prod.fst = [] := hO
  have hX := CxIs.mk hP hN hO
  have hF := hF rfl
  show HT cx ⟨[(0, .one (.dat (.sl .str) a0)), (1, iV a1)], [], 0⟩ _ _
  refine HT.rg2 [oH] ⟨[(0, .one (.dat (.sl .str) a0)), (1, iV a1)], [], 0⟩ hX (by kernel_rfl) allNil ?_
  refine HT.rg2 (oHs 5) ⟨[(0, .one (.dat (.sl .str) a0)), (1, iV (wsub .i64 a1 (lenI a0)))], [], 0⟩ hX (by kernel_rfl) allNil ?_
  refine HT.seq ?_
  refine HT.rg2 (oHs 2) ⟨[(0, .one (.dat (.sl .str) a0)), (1, iV (wsub .i64 a1 (lenI a0))), (11, bV (decide ((wsub .i64 a1 (lenI a0)) < (0 : Int))))], [], 0⟩ hX (by kernel_rfl) allNil ?_
  rcases of_bif hr with ⟨hb1, hr⟩ | ⟨hb1, hr⟩
  · refine HT.cond1 rfl hb1 ?_
    refine HT.rg2 [oH] ⟨[(4, iV (-1 : Int))], [], 0⟩ hX (by kernel_rfl) allNil ?_
    have hr := of_some hr
    subst hr
    exact HT.ret (qThenR ⟨[iV (-1 : Int)], [], [], by kernel_rfl, by kernel_rfl, rfl, by kernel_rfl, by kernel_rfl, trivial⟩)
  · refine HT.cond0 rfl hb1 ?_
    refine HT.skip (qThen ?_)
    refine HT.seq ?_
    refine HT.rg2 [oH] ⟨[(0, .one (.dat (.sl .str) a0)), (1, iV (wsub .i64 a1 (lenI a0))), (5, iV (0 : Int))], [], 0⟩ hX (by kernel_rfl) allNil ?_
    refine HT.block ?_
    obtain ⟨r3, hL12, hr⟩ := of_bind hr
    refine HT.loopL (fun (s2 : Int × Int) => ⟨[(0, .one (.dat (.sl .str) a0)), (1, iV s2.1), (5, iV s2.2)], [], 0⟩) (fun (r3 : Int ⊕ Unit) => match r3 with | .inl r4 => (.exit 0, ⟨[(1, iV r4)], [], 0⟩) | .inr r5 => (.ret, ⟨[(4, iV (-1 : Int))], [], 0⟩)) (Le.re [] [] hX (by kernel_rfl)) hL12 ?_ (fun s2 x6 hx7 hk8 => ?_)
    · rcases r3 with r4 | r5
      · refine (qBlockX (qThen ?_))
        refine HT.rg2 (oHs 2) ⟨[(4, iV r4)], [], 0⟩ hX (by kernel_rfl) allNil ?_
        have hr := of_some hr
        subst hr
        exact HT.ret ⟨[iV r4], [], [], by kernel_rfl, by kernel_rfl, rfl, by kernel_rfl, by kernel_rfl, trivial⟩
      · have hr := of_some hr
        subst hr
        exact (qBlockR (qThenR ⟨[iV (-1 : Int)], [], [], by kernel_rfl, by kernel_rfl, rfl, by kernel_rfl, by kernel_rfl, trivial⟩))
    · refine HT.seq ?_
      refine HT.rg2 (oHs 4) ⟨[(0, .one (.dat (.sl .str) a0)), (1, iV s2.1), (5, iV s2.2), (15, bV (decide (s2.2 < (lenI a0))))], [], 0⟩ hX (by kernel_rfl) allNil ?_
      rcases of_bif hx7 with ⟨hb9, hx7⟩ | ⟨hb9, hx7⟩
      · refine HT.cond1 rfl hb9 ?_
        refine HT.skip (qThen ?_)
        refine HT.seq ?_
        refine HT.block ?_
        obtain ⟨hg10, hx7⟩ := of_guard hx7
        refine HT.rg2 (oHs 8) ⟨[(0, .one (.dat (.sl .str) a0)), (1, iV (wsub .i64 s2.1 (lenI (List.getD a0 (Int.toNat s2.2) ([] : List UInt8))))), (5, iV s2.2)], [], 0⟩ hX (by kernel_rfl) (allCons hg10 allNil) ?_
        refine HT.rg2 (oHs 2) ⟨[(0, .one (.dat (.sl .str) a0)), (1, iV (wsub .i64 s2.1 (lenI (List.getD a0 (Int.toNat s2.2) ([] : List UInt8))))), (5, iV s2.2), (26, bV (decide ((wsub .i64 s2.1 (lenI (List.getD a0 (Int.toNat s2.2) ([] : List UInt8)))) < (0 : Int))))], [], 0⟩ hX (by kernel_rfl) allNil ?_
        rcases of_bif hx7 with ⟨hb11, hx7⟩ | ⟨hb11, hx7⟩
        · refine HT.cond1 rfl hb11 ?_
          refine HT.rg2 [oH] ⟨[(4, iV (-1 : Int))], [], 0⟩ hX (by kernel_rfl) allNil ?_
          have hx7 := of_some hx7
          subst hx7
          exact HT.retL (Le.re [] [] hX (by kernel_rfl)) (qBlockR (qThenR (qLoopR (hk8 (.inr ()) rfl))))
        · refine HT.cond0 rfl hb11 ?_
          refine HT.skip (qBlock (qThen ?_))
          have hx7 := of_some hx7
          subst hx7
          exact HT.rgK (oHs 3) [] [] hX (by kernel_rfl) allNil (fun _ h => (qLoopN ⟨((wsub .i64 s2.1 (lenI (List.getD a0 (Int.toNat s2.2) ([] : List UInt8)))), (wadd .i64 s2.2 (1 : Int))), rfl, h⟩))
      · refine HT.cond0 rfl hb9 ?_
        have hx7 := of_some hx7
        subst hx7
        exact HT.exitL (Le.re [] [] hX (by kernel_rfl)) (qThenE (qLoopE (hk8 (.inl s2.1) rfl)))

noncomputable def laws_toStringS_B1 (a0 : List (List UInt8)) (s2 : Int × List (List UInt8)) : Option ((Int × List (List UInt8)) ⊕ (List (List UInt8))) :=
  bif (decide (s2.1 < (lenI a0))) then
    guardP ((0 : Int) ≤ s2.1 ∧ s2.1 < lenI a0) (
      guardP ((0 : Int) ≤ s2.1 ∧ s2.1 < lenI s2.2) (
        some (.inl ((wadd .i64 s2.1 (1 : Int)), (List.set s2.2 (Int.toNat s2.1) (List.getD a0 (Int.toNat s2.1) ([] : List UInt8)))))))
  else
    some (.inr s2.2)

noncomputable def laws_toStringS (a0 : List (List UInt8)) : Option (List (List UInt8)) :=
  guardP ((0 : Int) ≤ (lenI a0) ∧ (lenI a0) ≤ 4294967296) (
    (rounds (laws_toStringS_B1 a0) ((0 : Int), (List.replicate (Int.toNat (lenI a0)) ([] : List UInt8)))).bind fun r4 =>
    some r4)

theorem f14_ok {a0 : List (List UInt8)} {r : List (List UInt8)} (hr : laws_toStringS a0 = some r) : CallOK Tryd.prog 14 [.imm (.sl .str) a0] [⟨true, (.sl .str), r⟩] [] := by
  unfold laws_toStringS at hr
  refine CallOK.of_body (ts := [(true, (.sl .str))]) Tryd.func14 rfl (by kernel_rfl) (Nat.le_of_ble_eq_true (by kernel_rfl)) fun cx hP hN hO hF => ?_
  have hO : cx.own.map Prod.fst = [] := hO
  have hX := CxIs.mk hP hN hO
  have hF := hF rfl
  show HT cx ⟨[(0, .one (.dat (.sl .str) a0))], [], 0⟩ _ _
  refine HT.rg2 [oH] ⟨[(0, .one (.dat (.sl .str) a0))], [], 0⟩ hX (by kernel_rfl) allNil ?_
  obtain ⟨hg1, hr⟩ := of_guard hr
  refine HT.rg2 [oH, oH, ⟨none, .ty .str⟩, oH] ⟨[(0, .one (.dat (.sl .str) a0)), (3, aV 0)], [(0, .seq .str (List.replicate (Int.toNat (lenI a0)) ([] : List UInt8)))], 1⟩ hX (by kernel_rfl) (allCons (show (0 : Int) ≤ (lenI a0) ∧ (lenI a0) ≤ (lenI a0) ∧ (lenI a0) ≤ 4294967296 from ⟨hg1.1, Int.le_refl _, hg1.2⟩) allNil) ?_
  refine HT.seq ?_
  refine HT.rg2 [oH] ⟨[(0, .one (.dat (.sl .str) a0)), (3, aV 0), (4, iV (0 : Int))], [(0, .seq .str (List.replicate (Int.toNat (lenI a0)) ([] : List UInt8)))], 1⟩ hX (by kernel_rfl) allNil ?_
  refine HT.block ?_
  obtain ⟨r3, hL11, hr⟩ := of_bind hr
  refine HT.loopL (fun (s2 : Int × List (List UInt8)) => ⟨[(0, .one (.dat (.sl .str) a0)), (3, aV 0), (4, iV s2.1)], [(0, .seq .str s2.2)], 1⟩) (fun (r4 : List (List UInt8)) => (.exit 0, ⟨[(3, aV 0)], [(0, .seq .str r4)], 1⟩)) (Le.re [(0, 0)] [] hX (by kernel_rfl)) hL11 ?_ (fun s2 x5 hx6 hk7 => ?_)
  · refine (qBlockX (qThen ?_))
    refine HT.rg2 (oHs 2) ⟨[(2, aV 0)], [(0, .seq .str r3)], 1⟩ hX (by kernel_rfl) allNil ?_
    have hr := of_some hr
    subst hr
    exact HT.ret ⟨[aV 0], [0], [], by kernel_rfl, by kernel_rfl, rfl, by kernel_rfl, by kernel_rfl, trivial⟩
  · refine HT.seq ?_
    refine HT.rg2 (oHs 4) ⟨[(0, .one (.dat (.sl .str) a0)), (3, aV 0), (4, iV s2.1), (11, bV (decide (s2.1 < (lenI a0))))], [(0, .seq .str s2.2)], 1⟩ hX (by kernel_rfl) allNil ?_
    rcases of_bif hx6 with ⟨hb8, hx6⟩ | ⟨hb8, hx6⟩
    · refine HT.cond1 rfl hb8 ?_
      refine HT.skip (qThen ?_)
      refine HT.seq ?_
      refine HT.block ?_
      obtain ⟨hg9, hx6⟩ := of_guard hx6
      obtain ⟨hg10, hx6⟩ := of_guard hx6
      refine HT.rgL (oHs 8) ⟨[(0, .one (.dat (.sl .str) a0)), (3, aV 0), (4, iV s2.1)], [(0, .seq .str (List.set s2.2 (Int.toNat s2.1) (List.getD a0 (Int.toNat s2.1) ([] : List UInt8))))], 1⟩ hX (by kernel_rfl) (allCons hg9 (allCons hg10 (allCons (natLt hg10) allNil))) (qBlock (qThen ?_))
      have hx6 := of_some hx6
      subst hx6
      exact HT.rgK (oHs 3) [(0, 0)] [] hX (by kernel_rfl) allNil (fun _ h => (qLoopN ⟨((wadd .i64 s2.1 (1 : Int)), (List.set s2.2 (Int.toNat s2.1) (List.getD a0 (Int.toNat s2.1) ([] : List UInt8)))), rfl, h⟩))
    · refine HT.cond0 rfl hb8 ?_
      have hx6 := of_some hx6
      subst hx6
      exact HT.exitL (Le.re [(0, 0)] [] hX (by kernel_rfl)) (qThenE (qLoopE (hk7 s2.2 rfl)))

noncomputable def spec_l01Check_B1 (a1 : List UInt8) (s1 : Int × Int) : Option ((Int × Int) ⊕ (Int)) :=
  bif (decide (s1.2 < (lenI a1))) then
    guardP ((0 : Int) ≤ s1.2 ∧ s1.2 < lenI a1) (
      some (.inl ((Int.tmod (wadd .i64 (wadd .i64 (wmul .i64 (919 : Int) s1.1) (IntKind.wrap .i64 ((((List.getD a1 (Int.toNat s1.2) 0 : UInt8).toNat : Nat)) : Int))) (191 : Int)) (65003 : Int)), (wadd .i64 s1.2 (1 : Int)))))
  else
    some (.inr s1.1)

noncomputable def spec_l01Check (a0 : Int) (a1 : List UInt8) : Option (Int) :=
  (rounds (spec_l01Check_B1 a1) (a0, (0 : Int))).bind fun r3 =>
  some r3

theorem f103_ok {a0 : Int} {a1 : List UInt8} {r : Int} (hr : spec_l01Check a0 a1 = some r) : CallOK Tryd.prog 103 [.imm tI a0, .imm .str a1] [⟨false, tI, r⟩] [] := by
  unfold spec_l01Check at hr
  refine CallOK.of_body (ts := [(false, tI)]) Tryd.func103 rfl (by kernel_rfl) (Nat.le_of_ble_eq_true (by kernel_rfl)) fun cx hP hN hO hF => ?_
  have hO : cx.own.map Prod.fst = [] := hO
  have hX := CxIs.mk hP hN hO
  have hF := hF rfl
  show HT cx ⟨[(0, iV a0), (1, .one (.dat .str a1))], [], 0⟩ _ _
  refine HT.rg2 [oH] ⟨[(0, iV a0), (1, .one (.dat .str a1))], [], 0⟩ hX (by kernel_rfl) allNil ?_
  refine HT.seq ?_
  refine HT.rg2 [oH] ⟨[(0, iV a0), (1, .one (.dat .str a1)), (5, iV (0 : Int))], [], 0⟩ hX (by kernel_rfl) allNil ?_
  refine HT.block ?_
  obtain ⟨r2, hL9, hr⟩ := of_bind hr
  refine HT.loopL (fun (s1 : Int × Int) => ⟨[(0, iV s1.1), (1, .one (.dat .str a1)), (5, iV s1.2)], [], 0⟩) (fun (r3 : Int) => (.exit 0, ⟨[(0, iV r3)], [], 0⟩)) (Le.re [] [] hX (by kernel_rfl)) hL9 ?_ (fun s1 x4 hx5 hk6 => ?_)
  · refine (qBlockX (qThen ?_))
    refine HT.rg2 (oHs 2) ⟨[(4, iV r2)], [], 0⟩ hX (by kernel_rfl) allNil ?_
    have hr := of_some hr
    subst hr
    exact HT.ret ⟨[iV r2], [], [], by kernel_rfl, by kernel_rfl, rfl, by kernel_rfl, by kernel_rfl, trivial⟩
  · refine HT.seq ?_
    refine HT.rg2 (oHs 4) ⟨[(0, iV s1.1), (1, .one (.dat .str a1)), (5, iV s1.2), (9, bV (decide (s1.2 < (lenI a1))))], [], 0⟩ hX (by kernel_rfl) allNil ?_
    rcases of_bif hx5 with ⟨hb7, hx5⟩ | ⟨hb7, hx5⟩
    · refine HT.cond1 rfl hb7 ?_
      refine HT.skip (qThen ?_)
      refine HT.seq ?_
      refine HT.block ?_
      obtain ⟨hg8, hx5⟩ := of_guard hx5
      refine HT.rgL (oHs 10) ⟨[(0, iV (Int.tmod (wadd .i64 (wadd .i64 (wmul .i64 (919 : Int) s1.1) (IntKind.wrap .i64 ((((List.getD a1 (Int.toNat s1.2) 0 : UInt8).toNat : Nat)) : Int))) (191 : Int)) (65003 : Int))), (1, .one (.dat .str a1)), (5, iV s1.2)], [], 0⟩ hX (by kernel_rfl) (allCons hg8 (allCons (show (65003 : Int) ≠ 0 from by decide) allNil)) (qBlock (qThen ?_))
      have hx5 := of_some hx5
      subst hx5
      exact HT.rgK (oHs 3) [] [] hX (by kernel_rfl) allNil (fun _ h => (qLoopN ⟨((Int.tmod (wadd .i64 (wadd .i64 (wmul .i64 (919 : Int) s1.1) (IntKind.wrap .i64 ((((List.getD a1 (Int.toNat s1.2) 0 : UInt8).toNat : Nat)) : Int))) (191 : Int)) (65003 : Int)), (wadd .i64 s1.2 (1 : Int))), rfl, h⟩))
    · refine HT.cond0 rfl hb7 ?_
      have hx5 := of_some hx5
      subst hx5
      exact HT.exitL (Le.re [] [] hX (by kernel_rfl)) (qThenE (qLoopE (hk6 s1.1 rfl)))

noncomputable def spec_l01Dec_B1  (s1 : Int × List Int) : Option ((Int × List Int) ⊕ (List Int)) :=
  (show Option (Bool) from
    bif ((lenI s1.2) == (0 : Int)) then
      some true
    else
      some (s1.1 != (0 : Int))).bind fun v12 =>
  bif v12 then
    (show Option (Int) from
      bif (decide ((Int.tmod s1.1 (10 : Int)) < (0 : Int))) then
        some (IntKind.wrap .i64 (0 - (Int.tmod s1.1 (10 : Int))))
      else
        some (Int.tmod s1.1 (10 : Int))).bind fun v16 =>
    guardP (List.length ([(IntKind.wrap .u8 (wadd .i64 (48 : Int) v16))] : List Int) + List.length s1.2 ≤ appMax) (
      some (.inl ((IntKind.wrap .i64 (Int.tdiv s1.1 (10 : Int))), (([(IntKind.wrap .u8 (wadd .i64 (48 : Int) v16))] : List Int) ++ s1.2))))
  else
    some (.inr s1.2)

noncomputable def spec_l01Dec (a0 : Int) : Option (List UInt8) :=
  (rounds (spec_l01Dec_B1) (a0, ([] : List Int))).bind fun r3 =>
  (show Option (List Int) from
    bif (decide (a0 < (0 : Int))) then
      guardP (List.length ([(45 : Int)] : List Int) + List.length r3 ≤ appMax) (
        some (([(45 : Int)] : List Int) ++ r3))
    else
      some r3).bind fun v4 =>
  some (bytesO v4)

theorem f104_ok {a0 : Int} {r : List UInt8} (hr : spec_l01Dec a0 = some r) : CallOK Tryd.prog 104 [.imm tI a0] [⟨false, .str, r⟩] [] := by
  unfold spec_l01Dec at hr
  refine CallOK.of_body (ts := [(false, .str)]) Tryd.func104 rfl (by kernel_rfl) (Nat.le_of_ble_eq_true (by kernel_rfl)) fun cx hP hN hO hF => ?_
  have hO : cx.own.map Prod.fst = [] := hO
  have hX := CxIs.mk hP hN hO
  have hF := hF rfl
  show HT cx ⟨[(0, iV a0)], [], 0⟩ _ _
  refine HT.rg2 [oH] ⟨[(0, iV a0)], [], 0⟩ hX (by kernel_rfl) allNil ?_
  refine HT.rg2 (oHs 2) ⟨[(0, iV a0), (3, .one (.nilS))], [], 0⟩ hX (by kernel_rfl) allNil ?_
  refine HT.rg2 (oHs 2) ⟨[(0, iV a0), (3, .one (.nilS)), (4, iV a0)], [], 0⟩ hX (by kernel_rfl) allNil ?_
  refine HT.seq ?_
  refine HT.block ?_
  obtain ⟨r2, hL22, hr⟩ := of_bind hr
  refine HT.loopL (fun (s1 : Int × List Int) => ⟨[(0, iV a0), (3, aV 0), (4, iV s1.1)], [(0, .seq (.int .u8) s1.2)], 1⟩) (fun (r3 : List Int) => (.exit 0, ⟨[(0, iV a0), (3, aV 0)], [(0, .seq (.int .u8) r3)], 1⟩)) (Le.re [] [0] hX (by kernel_rfl)) hL22 ?_ (fun s1 x9 hx10 hk11 => ?_)
  · refine (qBlockX (qThen ?_))
    obtain ⟨v4', hT6, hr⟩ := of_bind hr
    refine HT.join (fun (v4 : List Int) => ⟨[(3, aV 0)], [(0, .seq (.int .u8) v4)], 1⟩) (fun v => v = v4') (fun v4 hv5 => ?_) (fun cont => ?_)
    · subst hv5
      refine HT.rg2 (oHs 3) ⟨[(2, .one (.dat .str (bytesO v4)))], [], 1⟩ hX (by kernel_rfl) allNil ?_
      have hr := of_some hr
      subst hr
      exact HT.ret ⟨[.one (.dat .str (bytesO v4))], [], [], by kernel_rfl, by kernel_rfl, rfl, by kernel_rfl, by kernel_rfl, trivial⟩
    · refine HT.rg2 (oHs 2) ⟨[(3, aV 0), (30, bV (decide (a0 < (0 : Int))))], [(0, .seq (.int .u8) r2)], 1⟩ hX (by kernel_rfl) allNil ?_
      rcases of_bif hT6 with ⟨hb7, hT6⟩ | ⟨hb7, hT6⟩
      · refine HT.cond1 rfl hb7 ?_
        obtain ⟨hg8, hT6⟩ := of_guard hT6
        exact HT.rgK [⟨none, .ty (.int .u8)⟩, oH, ⟨none, .ty (.int .u8)⟩, oH] [(2, 0)] [] hX (by kernel_rfl) (allCons hg8 allNil) (fun _ h => (qThen (h.ht (cont (([(45 : Int)] : List Int) ++ r2) (of_some hT6)))))
      · refine HT.cond0 rfl hb7 ?_
        refine HT.skip (qThen ?_)
        exact (Le.re [(0, 0)] [] hX (by kernel_rfl)).ht (cont r2 (of_some hT6))
  · refine HT.seq ?_
    obtain ⟨v12', hT14, hx10⟩ := of_bind hx10
    refine HT.join (fun (v12 : Bool) => ⟨[(0, iV a0), (3, aV 0), (4, iV s1.1), (14, bV v12)], [(0, .seq (.int .u8) s1.2)], 1⟩) (fun v => v = v12') (fun v12 hv13 => ?_) (fun cont => ?_)
    · subst hv13
      rcases of_bif hx10 with ⟨hb15, hx10⟩ | ⟨hb15, hx10⟩
      · refine HT.cond1 rfl hb15 ?_
        refine HT.skip (qThen ?_)
        refine HT.block ?_
        refine HT.rg2 (oHs 3) ⟨[(0, iV a0), (3, aV 0), (4, iV s1.1), (5, iV (Int.tmod s1.1 (10 : Int)))], [(0, .seq (.int .u8) s1.2)], 1⟩ hX (by kernel_rfl) (allCons (show (10 : Int) ≠ 0 from by decide) allNil) ?_
        obtain ⟨v16', hT18, hx10⟩ := of_bind hx10
        refine HT.join (fun (v16 : Int) => ⟨[(0, iV a0), (3, aV 0), (4, iV s1.1), (5, iV v16)], [(0, .seq (.int .u8) s1.2)], 1⟩) (fun v => v = v16') (fun v16 hv17 => ?_) (fun cont => ?_)
        · subst hv17
          obtain ⟨hg19, hx10⟩ := of_guard hx10
          refine HT.rg2 [oH, oH, oH, ⟨none, .ty (.int .u8)⟩, oH, ⟨none, .ty (.int .u8)⟩, oH] ⟨[(0, iV a0), (3, aV 2), (4, iV s1.1)], [(2, .seq (.int .u8) (([(IntKind.wrap .u8 (wadd .i64 (48 : Int) v16))] : List Int) ++ s1.2))], 3⟩ hX (by kernel_rfl) (allCons hg19 allNil) ?_
          have hx10 := of_some hx10
          subst hx10
          exact HT.rgK (oHs 3) [(2, 0)] [] hX (by kernel_rfl) (allCons (show (10 : Int) ≠ 0 from by decide) allNil) (fun _ h => (qBlock (qLoopN ⟨((IntKind.wrap .i64 (Int.tdiv s1.1 (10 : Int))), (([(IntKind.wrap .u8 (wadd .i64 (48 : Int) v16))] : List Int) ++ s1.2)), rfl, h⟩)))
        · refine HT.rg2 (oHs 2) ⟨[(0, iV a0), (3, aV 0), (4, iV s1.1), (5, iV (Int.tmod s1.1 (10 : Int))), (18, bV (decide ((Int.tmod s1.1 (10 : Int)) < (0 : Int))))], [(0, .seq (.int .u8) s1.2)], 1⟩ hX (by kernel_rfl) allNil ?_
          rcases of_bif hT18 with ⟨hb20, hT18⟩ | ⟨hb20, hT18⟩
          · refine HT.cond1 rfl hb20 ?_
            exact HT.rgK (oHs 3) [(0, 0)] [] hX (by kernel_rfl) allNil (fun _ h => (qThen (h.ht (cont (IntKind.wrap .i64 (0 - (Int.tmod s1.1 (10 : Int)))) (of_some hT18)))))
          · refine HT.cond0 rfl hb20 ?_
            refine HT.skip (qThen ?_)
            exact (Le.re [(0, 0)] [] hX (by kernel_rfl)).ht (cont (Int.tmod s1.1 (10 : Int)) (of_some hT18))
      · refine HT.cond0 rfl hb15 ?_
        have hx10 := of_some hx10
        subst hx10
        exact HT.exitL (Le.re [(0, 0)] [] hX (by kernel_rfl)) (qThenE (qLoopE (hk11 s1.2 rfl)))
    · rcases of_bif hT14 with ⟨hb21, hT14⟩ | ⟨hb21, hT14⟩
      · exact HT.rgK [oH, oH, oH, oH, ⟨some true, .no⟩, ⟨some true, .no⟩, ⟨none, .tv true⟩] [(0, 0)] [] hX (by kernel_rfl) (allCons hb21 (allCons hb21 (allCons hb21 allNil))) (fun _ h => (qThen (h.ht (cont true (of_some hT14)))))
      · exact HT.rgK [oH, oH, oH, oH, ⟨some false, .no⟩, ⟨some false, .no⟩, ⟨none, .tv false⟩] [(0, 0)] [] hX (by kernel_rfl) (allCons hb21 (allCons hb21 (allCons hb21 allNil))) (fun _ h => (qThen (h.ht (cont (s1.1 != (0 : Int)) (of_some hT14)))))

noncomputable def spec_l08Journal_B1 (a0 : List (List UInt8)) (s1 : List UInt8 × Int × Int) : Option ((List UInt8 × Int × Int) ⊕ (List UInt8)) :=
  bif (decide (s1.2.2 < (lenI a0))) then
    guardP ((0 : Int) ≤ s1.2.2 ∧ s1.2.2 < lenI a0) (
      (spec_l01Check s1.2.1 (List.getD a0 (Int.toNat s1.2.2) ([] : List UInt8))).bind fun y9 =>
      (spec_l01Dec y9).bind fun y11 =>
      guardP (List.length y11 + List.length ([32] : List UInt8) ≤ appMax) (
        guardP (List.length (y11 ++ ([32] : List UInt8)) + List.length (List.getD a0 (Int.toNat s1.2.2) ([] : List UInt8)) ≤ appMax) (
          guardP (List.length ((y11 ++ ([32] : List UInt8)) ++ (List.getD a0 (Int.toNat s1.2.2) ([] : List UInt8))) + List.length ([10] : List UInt8) ≤ appMax) (
            guardP (List.length s1.1 + List.length (((y11 ++ ([32] : List UInt8)) ++ (List.getD a0 (Int.toNat s1.2.2) ([] : List UInt8))) ++ ([10] : List UInt8)) ≤ appMax) (
              some (.inl ((s1.1 ++ (((y11 ++ ([32] : List UInt8)) ++ (List.getD a0 (Int.toNat s1.2.2) ([] : List UInt8))) ++ ([10] : List UInt8))), y9, (wadd .i64 s1.2.2 (1 : Int)))))))))
  else
    some (.inr s1.1)

noncomputable def spec_l08Journal (a0 : List (List UInt8)) : Option (List UInt8) :=
  (rounds (spec_l08Journal_B1 a0) (([] : List UInt8), (0 : Int), (0 : Int))).bind fun r3 =>
  some r3

theorem f50_ok {a0 : List (List UInt8)} {r : List UInt8} (hr : spec_l08Journal a0 = some r) : CallOK Tryd.prog 50 [.imm (.sl .str) a0] [⟨false, .str, r⟩] [] := by
  unfold spec_l08Journal at hr
  refine CallOK.of_body (ts := [(false, .str)]) Tryd.func50 rfl (by kernel_rfl) (Nat.le_of_ble_eq_true (by kernel_rfl)) fun cx hP hN hO hF => ?_
  have hO : cx.own.map Prod.fst = [] := hO
  have hX := CxIs.mk hP hN hO
  have hF := hF rfl
  show HT cx ⟨[(0, .one (.dat (.sl .str) a0))], [], 0⟩ _ _
  refine HT.rg2 [oH] ⟨[(0, .one (.dat (.sl .str) a0))], [], 0⟩ hX (by kernel_rfl) allNil ?_
  refine HT.rg2 [oH] ⟨[(0, .one (.dat (.sl .str) a0)), (3, .one (.dat .str ([] : List UInt8)))], [], 0⟩ hX (by kernel_rfl) allNil ?_
  refine HT.rg2 [oH] ⟨[(0, .one (.dat (.sl .str) a0)), (3, .one (.dat .str ([] : List UInt8))), (4, iV (0 : Int))], [], 0⟩ hX (by kernel_rfl) allNil ?_
  refine HT.seq ?_
  refine HT.rg2 [oH] ⟨[(0, .one (.dat (.sl .str) a0)), (3, .one (.dat .str ([] : List UInt8))), (4, iV (0 : Int)), (5, iV (0 : Int))], [], 0⟩ hX (by kernel_rfl) allNil ?_
  refine HT.block ?_
  obtain ⟨r2, hL17, hr⟩ := of_bind hr
  refine HT.loopL (fun (s1 : List UInt8 × Int × Int) => ⟨[(0, .one (.dat (.sl .str) a0)), (3, .one (.dat .str s1.1)), (4, iV s1.2.1), (5, iV s1.2.2)], [], 0⟩) (fun (r3 : List UInt8) => (.exit 0, ⟨[(3, .one (.dat .str r3))], [], 0⟩)) (Le.re [] [] hX (by kernel_rfl)) hL17 ?_ (fun s1 x4 hx5 hk6 => ?_)
  · refine (qBlockX (qThen ?_))
    refine HT.rg2 (oHs 2) ⟨[(2, .one (.dat .str r2))], [], 0⟩ hX (by kernel_rfl) allNil ?_
    have hr := of_some hr
    subst hr
    exact HT.ret ⟨[.one (.dat .str r2)], [], [], by kernel_rfl, by kernel_rfl, rfl, by kernel_rfl, by kernel_rfl, trivial⟩
  · refine HT.seq ?_
    refine HT.rg2 (oHs 4) ⟨[(0, .one (.dat (.sl .str) a0)), (3, .one (.dat .str s1.1)), (4, iV s1.2.1), (5, iV s1.2.2), (9, bV (decide (s1.2.2 < (lenI a0))))], [], 0⟩ hX (by kernel_rfl) allNil ?_
    rcases of_bif hx5 with ⟨hb7, hx5⟩ | ⟨hb7, hx5⟩
    · refine HT.cond1 rfl hb7 ?_
      refine HT.skip (qThen ?_)
      refine HT.seq ?_
      refine HT.block ?_
      obtain ⟨hg8, hx5⟩ := of_guard hx5
      obtain ⟨y9, hc10, hx5⟩ := of_bind hx5
      refine HT.rg2 [oH, oH, oH, oH, oH, ⟨none, .call [.imm tI, .imm .str] [⟨false, tI, y9⟩] []⟩, oH] ⟨[(0, .one (.dat (.sl .str) a0)), (3, .one (.dat .str s1.1)), (4, iV y9), (5, iV s1.2.2)], [], 0⟩ hX (by kernel_rfl) (allCons hg8 (allCons (f103_ok hc10) allNil)) ?_
      obtain ⟨y11, hc12, hx5⟩ := of_bind hx5
      obtain ⟨hg13, hx5⟩ := of_guard hx5
      obtain ⟨hg14, hx5⟩ := of_guard hx5
      obtain ⟨hg15, hx5⟩ := of_guard hx5
      obtain ⟨hg16, hx5⟩ := of_guard hx5
      refine HT.drL 10 [⟨oH, []⟩, ⟨oH, []⟩, ⟨⟨none, .call [.imm tI] [⟨false, .str, y11⟩] []⟩, [1]⟩, ⟨oH, [1, 2]⟩, ⟨oH, []⟩, ⟨oH, []⟩, ⟨oH, [4, 5]⟩, ⟨oH, [4, 5, 6]⟩, ⟨oH, [1, 2, 3, 4, 5, 6, 7]⟩, ⟨oH, [1, 2, 3, 4, 5, 6, 7, 8]⟩] [[0, 1, 2, 3, 4, 5, 6, 7, 8, 9], [0, 1, 2, 3, 4, 5, 6, 7, 8, 9, 10]] (oHs 2) ⟨[(0, .one (.dat (.sl .str) a0)), (3, .one (.dat .str (s1.1 ++ (((y11 ++ ([32] : List UInt8)) ++ (List.getD a0 (Int.toNat s1.2.2) ([] : List UInt8))) ++ ([10] : List UInt8))))), (4, iV y9), (5, iV s1.2.2)], [], 0⟩ hX (by kernel_rfl) (by kernel_rfl) (allCons (f104_ok hc12) (allCons hg13 (allCons hg8 (allCons hg14 (allCons hg15 (allCons hg16 allNil)))))) (qBlock (qThen ?_))
      have hx5 := of_some hx5
      subst hx5
      exact HT.rgK (oHs 3) [] [] hX (by kernel_rfl) allNil (fun _ h => (qLoopN ⟨((s1.1 ++ (((y11 ++ ([32] : List UInt8)) ++ (List.getD a0 (Int.toNat s1.2.2) ([] : List UInt8))) ++ ([10] : List UInt8))), y9, (wadd .i64 s1.2.2 (1 : Int))), rfl, h⟩))
    · refine HT.cond0 rfl hb7 ?_
      have hx5 := of_some hx5
      subst hx5
      exact HT.exitL (Le.re [] [] hX (by kernel_rfl)) (qThenE (qLoopE (hk6 s1.1 rfl)))

noncomputable def spec_JournalOf_B1 (a0 : List (List UInt8)) (s1 : Int × Int) (s16 : Int) : Option ((Int) ⊕ (Unit ⊕ Unit)) :=
  bif (decide (s16 < (lenI (List.getD a0 (Int.toNat s1.2) ([] : List UInt8))))) then
    guardP ((0 : Int) ≤ s16 ∧ s16 < lenI (List.getD a0 (Int.toNat s1.2) ([] : List UInt8))) (
      bif (((((List.getD (List.getD a0 (Int.toNat s1.2) ([] : List UInt8)) (Int.toNat s16) 0 : UInt8).toNat : Nat)) : Int) == (10 : Int)) then
        some (.inr (.inr ()))
      else
        some (.inl (wadd .i64 s16 (1 : Int))))
  else
    some (.inr (.inl ()))

noncomputable def spec_JournalOf_B2 (a0 : List (List UInt8)) (s1 : Int × Int) : Option ((Int × Int) ⊕ (Unit ⊕ Unit)) :=
  bif (decide (s1.2 < (lenI a0))) then
    guardP ((0 : Int) ≤ s1.2 ∧ s1.2 < lenI a0) (
      (some (wadd .i64 s1.1 (wadd .i64 (lenI (List.getD a0 (Int.toNat s1.2) ([] : List UInt8))) (3 : Int)))).bind fun q13 =>
      bif (decide (q13 > (16000 : Int))) then
        some (.inr (.inr ()))
      else
        (rounds (spec_JournalOf_B1 a0 s1) (0 : Int)).bind fun r17 => match r17 with
          | .inl r18 =>
            some (.inl (q13, (wadd .i64 s1.2 (1 : Int))))
          | .inr r19 =>
            some (.inr (.inr ())))
  else
    some (.inr (.inl ()))

noncomputable def spec_JournalOf (a0 : List (List UInt8)) : Option (List UInt8 × Bool) :=
  (rounds (spec_JournalOf_B2 a0) ((0 : Int), (0 : Int))).bind fun r2 => match r2 with
    | .inl r3 =>
      (spec_l08Journal a0).bind fun y4 =>
      bif (decide ((lenI y4) > (16000 : Int))) then
        some (([] : List UInt8), false)
      else
        some (y4, true)
    | .inr r7 =>
      some (([] : List UInt8), false)

theorem f13_ok {a0 : List (List UInt8)} {r : List UInt8 × Bool} (hr : spec_JournalOf a0 = some r) : CallOK Tryd.prog 13 [.imm (.sl .str) a0] [⟨false, .str, r.1⟩, ⟨false, .bool, r.2⟩] [] := by
  unfold spec_JournalOf at hr
  refine CallOK.of_body (ts := [(false, .str), (false, .bool)]) Tryd.func13 rfl (by kernel_rfl) (Nat.le_of_ble_eq_true (by kernel_rfl)) fun cx hP hN hO hF => ?_
  have hO : cx.own.map Prod.fst = [] := hO
  have hX := CxIs.mk hP hN hO
  have hF := hF rfl
  show HT cx ⟨[(0, .one (.dat (.sl .str) a0))], [], 0⟩ _ _
  refine HT.rg2 (oHs 2) ⟨[(0, .one (.dat (.sl .str) a0))], [], 0⟩ hX (by kernel_rfl) allNil ?_
  refine HT.rg2 [oH] ⟨[(0, .one (.dat (.sl .str) a0)), (4, iV (0 : Int))], [], 0⟩ hX (by kernel_rfl) allNil ?_
  refine HT.seq ?_
  refine HT.rg2 [oH] ⟨[(0, .one (.dat (.sl .str) a0)), (4, iV (0 : Int)), (5, iV (0 : Int))], [], 0⟩ hX (by kernel_rfl) allNil ?_
  refine HT.block ?_
  obtain ⟨r2, hL27, hr⟩ := of_bind hr
  refine HT.loopL (fun (s1 : Int × Int) => ⟨[(0, .one (.dat (.sl .str) a0)), (4, iV s1.1), (5, iV s1.2)], [], 0⟩) (fun (r2 : Unit ⊕ Unit) => match r2 with | .inl r3 => (.exit 0, ⟨[(0, .one (.dat (.sl .str) a0))], [], 0⟩) | .inr r7 => (.ret, ⟨[(2, .one (.dat .str ([] : List UInt8))), (3, bV false)], [], 0⟩)) (Le.re [] [] hX (by kernel_rfl)) hL27 ?_ (fun s1 x8 hx9 hk10 => ?_)
  · rcases r2 with r3 | r7
    · refine (qBlockX (qThen ?_))
      obtain ⟨y4, hc5, hr⟩ := of_bind hr
      refine HT.rg2 [oH, ⟨none, .call [.imm (.sl .str)] [⟨false, .str, y4⟩] []⟩, oH] ⟨[(7, .one (.dat .str y4))], [], 0⟩ hX (by kernel_rfl) (allCons (f50_ok hc5) allNil) ?_
      refine HT.seq ?_
      refine HT.rg2 (oHs 3) ⟨[(7, .one (.dat .str y4)), (44, bV (decide ((lenI y4) > (16000 : Int))))], [], 0⟩ hX (by kernel_rfl) allNil ?_
      rcases of_bif hr with ⟨hb6, hr⟩ | ⟨hb6, hr⟩
      · refine HT.cond1 rfl hb6 ?_
        refine HT.rg2 (oHs 2) ⟨[(2, .one (.dat .str ([] : List UInt8))), (3, bV false)], [], 0⟩ hX (by kernel_rfl) allNil ?_
        have hr := of_some hr
        subst hr
        exact HT.ret (qThenR ⟨[.one (.dat .str ([] : List UInt8)), bV false], [], [], by kernel_rfl, by kernel_rfl, rfl, by kernel_rfl, by kernel_rfl, trivial⟩)
      · refine HT.cond0 rfl hb6 ?_
        refine HT.skip (qThen ?_)
        refine HT.rg2 (oHs 3) ⟨[(2, .one (.dat .str y4)), (3, bV true)], [], 0⟩ hX (by kernel_rfl) allNil ?_
        have hr := of_some hr
        subst hr
        exact HT.ret ⟨[.one (.dat .str y4), bV true], [], [], by kernel_rfl, by kernel_rfl, rfl, by kernel_rfl, by kernel_rfl, trivial⟩
    · have hr := of_some hr
      subst hr
      exact (qBlockR (qThenR ⟨[.one (.dat .str ([] : List UInt8)), bV false], [], [], by kernel_rfl, by kernel_rfl, rfl, by kernel_rfl, by kernel_rfl, trivial⟩))
  · refine HT.seq ?_
    refine HT.rg2 (oHs 4) ⟨[(0, .one (.dat (.sl .str) a0)), (4, iV s1.1), (5, iV s1.2), (11, bV (decide (s1.2 < (lenI a0))))], [], 0⟩ hX (by kernel_rfl) allNil ?_
    rcases of_bif hx9 with ⟨hb11, hx9⟩ | ⟨hb11, hx9⟩
    · refine HT.cond1 rfl hb11 ?_
      refine HT.skip (qThen ?_)
      refine HT.seq ?_
      refine HT.block ?_
      obtain ⟨hg12, hx9⟩ := of_guard hx9
      refine HT.rg2 (oHs 9) ⟨[(0, .one (.dat (.sl .str) a0)), (4, iV (wadd .i64 s1.1 (wadd .i64 (lenI (List.getD a0 (Int.toNat s1.2) ([] : List UInt8))) (3 : Int)))), (5, iV s1.2)], [], 0⟩ hX (by kernel_rfl) (allCons hg12 allNil) ?_
      obtain ⟨q13, hq14, hx9⟩ := of_bind hx9
      have hq14 := of_some2 hq14
      refine (Le.cv (s := ⟨[], [], [], false⟩) (own := []) (ps := [a0 = a0, q13 = (wadd .i64 s1.1 (wadd .i64 (lenI (List.getD a0 (Int.toNat s1.2) ([] : List UInt8))) (3 : Int))), s1.2 = s1.2]) (st' := ⟨[(0, .one (.dat (.sl .str) a0)), (4, iV q13), (5, iV s1.2)], [], 0⟩) hO (fun h => by cases h) (by kernel_rfl) ⟨rfl, hq14, rfl, trivial⟩).ht ?_
      refine HT.seq ?_
      refine HT.rg2 (oHs 2) ⟨[(0, .one (.dat (.sl .str) a0)), (4, iV q13), (5, iV s1.2), (23, bV (decide (q13 > (16000 : Int))))], [], 0⟩ hX (by kernel_rfl) allNil ?_
      rcases of_bif hx9 with ⟨hb15, hx9⟩ | ⟨hb15, hx9⟩
      · refine HT.cond1 rfl hb15 ?_
        refine HT.rg2 (oHs 2) ⟨[(2, .one (.dat .str ([] : List UInt8))), (3, bV false)], [], 0⟩ hX (by kernel_rfl) allNil ?_
        have hx9 := of_some hx9
        subst hx9
        exact HT.retL (Le.re [] [] hX (by kernel_rfl)) (qThenR (qBlockR (qThenR (qLoopR (hk10 (.inr ()) rfl)))))
      · refine HT.cond0 rfl hb15 ?_
        refine HT.skip (qThen ?_)
        refine HT.rg2 [oH] ⟨[(0, .one (.dat (.sl .str) a0)), (4, iV q13), (5, iV s1.2), (6, iV (0 : Int))], [], 0⟩ hX (by kernel_rfl) allNil ?_
        refine HT.block ?_
        obtain ⟨r17, hL26, hx9⟩ := of_bind hx9
        refine HT.loopL (fun (s16 : Int) => ⟨[(0, .one (.dat (.sl .str) a0)), (4, iV q13), (5, iV s1.2), (6, iV s16)], [], 0⟩) (fun (r17 : Unit ⊕ Unit) => match r17 with | .inl r18 => (.exit 2, ⟨[(0, .one (.dat (.sl .str) a0)), (4, iV q13), (5, iV s1.2)], [], 0⟩) | .inr r19 => (.ret, ⟨[(2, .one (.dat .str ([] : List UInt8))), (3, bV false)], [], 0⟩)) (Le.re [] [] hX (by kernel_rfl)) hL26 ?_ (fun s16 x20 hx21 hk22 => ?_)
        · rcases r17 with r18 | r19
          · refine (qBlockX (qBlock (qThen ?_)))
            have hx9 := of_some hx9
            subst hx9
            exact HT.rgK (oHs 3) [] [] hX (by kernel_rfl) allNil (fun _ h => (qLoopN ⟨(q13, (wadd .i64 s1.2 (1 : Int))), rfl, h⟩))
          · have hx9 := of_some hx9
            subst hx9
            exact (qBlockR (qBlockR (qThenR (qLoopR (hk10 (.inr ()) rfl)))))
        · refine HT.seq ?_
          refine HT.rg2 (oHs 7) ⟨[(0, .one (.dat (.sl .str) a0)), (4, iV q13), (5, iV s1.2), (6, iV s16), (30, bV (decide (s16 < (lenI (List.getD a0 (Int.toNat s1.2) ([] : List UInt8))))))], [], 0⟩ hX (by kernel_rfl) (allCons hg12 allNil) ?_
          rcases of_bif hx21 with ⟨hb23, hx21⟩ | ⟨hb23, hx21⟩
          · refine HT.cond1 rfl hb23 ?_
            refine HT.skip (qThen ?_)
            refine HT.seq ?_
            refine HT.block ?_
            obtain ⟨hg24, hx21⟩ := of_guard hx21
            refine HT.rg2 (oHs 7) ⟨[(0, .one (.dat (.sl .str) a0)), (4, iV q13), (5, iV s1.2), (6, iV s16), (39, bV (((((List.getD (List.getD a0 (Int.toNat s1.2) ([] : List UInt8)) (Int.toNat s16) 0 : UInt8).toNat : Nat)) : Int) == (10 : Int)))], [], 0⟩ hX (by kernel_rfl) (allCons hg12 (allCons hg24 allNil)) ?_
            rcases of_bif hx21 with ⟨hb25, hx21⟩ | ⟨hb25, hx21⟩
            · refine HT.cond1 rfl hb25 ?_
              refine HT.rg2 (oHs 2) ⟨[(2, .one (.dat .str ([] : List UInt8))), (3, bV false)], [], 0⟩ hX (by kernel_rfl) allNil ?_
              have hx21 := of_some hx21
              subst hx21
              exact HT.retL (Le.re [] [] hX (by kernel_rfl)) (qBlockR (qThenR (qLoopR (hk22 (.inr ()) rfl))))
            · refine HT.cond0 rfl hb25 ?_
              refine HT.skip (qBlock (qThen ?_))
              have hx21 := of_some hx21
              subst hx21
              exact HT.rgK (oHs 3) [] [] hX (by kernel_rfl) allNil (fun _ h => (qLoopN ⟨(wadd .i64 s16 (1 : Int)), rfl, h⟩))
          · refine HT.cond0 rfl hb23 ?_
            have hx21 := of_some hx21
            subst hx21
            exact HT.exitL (Le.re [] [] hX (by kernel_rfl)) (qThenE (qLoopE (hk22 (.inl ()) rfl)))
    · refine HT.cond0 rfl hb11 ?_
      have hx9 := of_some hx9
      subst hx9
      exact HT.exitL (Le.re [] [] hX (by kernel_rfl)) (qThenE (qLoopE (hk10 (.inl ()) rfl)))

theorem tabPow {w : World} {t : TypeId} {fr : Nat × Nat} (h : w.heap[1]? = some (.cells pow10Cells t fr)) : Lib.TabIs Tryd.prog w "internal/strconv.uint64pow10" .u64 Lib.pow10Tab := by
  unfold Lib.TabIs World.var?
  rw [show Tryd.prog.globalNamed "internal/strconv.uint64pow10" = some 1 by kernel_rfl, Option.bind_some, h]
  unfold pow10Cells Lib.pow10Tab
  rw [List.map_map]
  rfl

noncomputable def strconv_FormatInt (a0 : Int) (a1 : Int) : Option (List UInt8) :=
  guardP (a1 = 10 ∧ -9223372036854775808 ≤ a0 ∧ a0 ≤ 9223372036854775807) <| some (Lib.itoa a0)

theorem f108_ok {a0 : Int} {a1 : Int} {r : List UInt8} (h : strconv_FormatInt a0 a1 = some r) : CallOK Tryd.prog 108 [.imm tI a0, .imm tI a1] [⟨false, .str, r⟩] [] := by
  obtain ⟨hg, h⟩ := of_guard h
  have h := of_some h
  subst h
  obtain ⟨rfl, hg⟩ := hg
  have hg : True ∧ _ := ⟨trivial, hg⟩
  exact simple_ok (ps := [⟨tI, a0⟩, ⟨tI, 10⟩]) (rs := [⟨.str, Lib.itoa a0⟩]) ⟨_, Tryd.func108, by kernel_rfl, by kernel_rfl⟩ (by simp [Ty.simple]) (by simp [Ty.simple]) fun w S hgl => by
    obtain ⟨_, t, fr, ht⟩ := Glob.pow hgl
    exact (Tryd.strconv_FormatInt_10 _ hg.2.1 hg.2.2 w (tabPow ht)).mono fun e w' ⟨he, k, os, hw⟩ => ⟨⟨_, he, rfl⟩, hw ▸ Lib.below_grow _ _ (Nat.le_refl _) k os⟩

noncomputable def impl_within (a0 : Int) (a1 : Int) (a2 : Int) : Option (Bool) :=
  (show Option (Bool) from
    bif (decide (a0 ≥ a1)) then
      some (decide (a0 ≤ a2))
    else
      some false).bind fun v1 =>
  some v1

theorem f106_ok {a0 : Int} {a1 : Int} {a2 : Int} {r : Bool} (hr : impl_within a0 a1 a2 = some r) : CallOK Tryd.prog 106 [.imm tI a0, .imm tI a1, .imm tI a2] [⟨false, .bool, r⟩] [] := by
  unfold impl_within at hr
  refine CallOK.of_body (ts := [(false, .bool)]) Tryd.func106 rfl (by kernel_rfl) (Nat.le_of_ble_eq_true (by kernel_rfl)) fun cx hP hN hO hF => ?_
  have hO : cx.own.map Prod.fst = [] := hO
  have hX := CxIs.mk hP hN hO
  have hF := hF rfl
  show HT cx ⟨[(0, iV a0), (1, iV a1), (2, iV a2)], [], 0⟩ _ _
  refine HT.rg2 [oH] ⟨[(0, iV a0), (1, iV a1), (2, iV a2)], [], 0⟩ hX (by kernel_rfl) allNil ?_
  obtain ⟨v1', hT3, hr⟩ := of_bind hr
  refine HT.join (fun (v1 : Bool) => ⟨[(6, bV v1)], [], 0⟩) (fun v => v = v1') (fun v1 hv2 => ?_) (fun cont => ?_)
  · subst hv2
    have hr := of_some hr
    subst hr
    exact HT.ret ⟨[bV v1], [], [], by kernel_rfl, by kernel_rfl, rfl, by kernel_rfl, by kernel_rfl, trivial⟩
  · rcases of_bif hT3 with ⟨hb4, hT3⟩ | ⟨hb4, hT3⟩
    · exact HT.rgK [oH, oH, oH, oH, ⟨some true, .no⟩, ⟨some true, .no⟩, ⟨some true, .no⟩, ⟨none, .tv true⟩, oH] [] [] hX (by kernel_rfl) (allCons hb4 (allCons hb4 (allCons hb4 (allCons hb4 allNil)))) (fun _ h => (qThen (h.ht (cont (decide (a0 ≤ a2)) (of_some hT3)))))
    · exact HT.rgK [oH, oH, oH, oH, ⟨some false, .no⟩, ⟨some false, .no⟩, ⟨some false, .no⟩, ⟨none, .tv false⟩, oH] [] [] hX (by kernel_rfl) (allCons hb4 (allCons hb4 (allCons hb4 (allCons hb4 allNil)))) (fun _ h => (qThen (h.ht (cont false (of_some hT3)))))

noncomputable def impl_CheckOf_B1 (a1 : List UInt8) (s4 : Int × Int) : Option ((Int × Int) ⊕ (Int)) :=
  bif (decide (s4.2 < (lenI a1))) then
    guardP ((0 : Int) ≤ s4.2 ∧ s4.2 < lenI a1) (
      some (.inl ((Int.tmod (wadd .i64 (wadd .i64 (wmul .i64 (919 : Int) s4.1) (IntKind.wrap .i64 ((((List.getD a1 (Int.toNat s4.2) 0 : UInt8).toNat : Nat)) : Int))) (191 : Int)) (65003 : Int)), (wadd .i64 s4.2 (1 : Int)))))
  else
    some (.inr s4.1)

noncomputable def impl_CheckOf (a0 : Int) (a1 : List UInt8) : Option (Int × Bool) :=
  (impl_within a0 (0 : Int) (65002 : Int)).bind fun y1 =>
  bif (!y1) then
    some ((0 : Int), false)
  else
    (rounds (impl_CheckOf_B1 a1) (a0, (0 : Int))).bind fun r6 =>
    some (r6, true)

theorem f52_ok {a0 : Int} {a1 : List UInt8} {r : Int × Bool} (hr : impl_CheckOf a0 a1 = some r) : CallOK Tryd.prog 52 [.imm tI a0, .imm .str a1] [⟨false, tI, r.1⟩, ⟨false, .bool, r.2⟩] [] := by
  unfold impl_CheckOf at hr
  refine CallOK.of_body (ts := [(false, tI), (false, .bool)]) Tryd.func52 rfl (by kernel_rfl) (Nat.le_of_ble_eq_true (by kernel_rfl)) fun cx hP hN hO hF => ?_
  have hO : cx.own.map Prod.fst = [] := hO
  have hX := CxIs.mk hP hN hO
  have hF := hF rfl
  show HT cx ⟨[(0, iV a0), (1, .one (.dat .str a1))], [], 0⟩ _ _
  refine HT.rg2 (oHs 2) ⟨[(0, iV a0), (1, .one (.dat .str a1))], [], 0⟩ hX (by kernel_rfl) allNil ?_
  refine HT.seq ?_
  obtain ⟨y1, hc2, hr⟩ := of_bind hr
  refine HT.rg2 [oH, ⟨none, .call [.imm tI, .imm tI, .imm tI] [⟨false, .bool, y1⟩] []⟩, oH] ⟨[(0, iV a0), (1, .one (.dat .str a1)), (9, bV (!y1))], [], 0⟩ hX (by kernel_rfl) (allCons (f106_ok hc2) allNil) ?_
  rcases of_bif hr with ⟨hb3, hr⟩ | ⟨hb3, hr⟩
  · refine HT.cond1 rfl hb3 ?_
    refine HT.rg2 (oHs 2) ⟨[(4, iV (0 : Int)), (5, bV false)], [], 0⟩ hX (by kernel_rfl) allNil ?_
    have hr := of_some hr
    subst hr
    exact HT.ret (qThenR ⟨[iV (0 : Int), bV false], [], [], by kernel_rfl, by kernel_rfl, rfl, by kernel_rfl, by kernel_rfl, trivial⟩)
  · refine HT.cond0 rfl hb3 ?_
    refine HT.skip (qThen ?_)
    refine HT.seq ?_
    refine HT.rg2 (oHs 3) ⟨[(0, iV a0), (1, .one (.dat .str a1)), (11, iV (lenI a1)), (12, iV (0 : Int))], [], 0⟩ hX (by kernel_rfl) allNil ?_
    refine HT.block ?_
    obtain ⟨r5, hL12, hr⟩ := of_bind hr
    refine HT.loopL (fun (s4 : Int × Int) => ⟨[(0, iV s4.1), (1, .one (.dat .str a1)), (11, iV (lenI a1)), (12, iV s4.2)], [], 0⟩) (fun (r6 : Int) => (.exit 0, ⟨[(0, iV r6)], [], 0⟩)) (Le.re [] [] hX (by kernel_rfl)) hL12 ?_ (fun s4 x7 hx8 hk9 => ?_)
    · refine (qBlockX (qThen ?_))
      refine HT.rg2 (oHs 3) ⟨[(4, iV r5), (5, bV true)], [], 0⟩ hX (by kernel_rfl) allNil ?_
      have hr := of_some hr
      subst hr
      exact HT.ret ⟨[iV r5, bV true], [], [], by kernel_rfl, by kernel_rfl, rfl, by kernel_rfl, by kernel_rfl, trivial⟩
    · refine HT.rg2 [oH] ⟨[(0, iV s4.1), (1, .one (.dat .str a1)), (11, iV (lenI a1)), (12, iV s4.2), (13, bV (decide (s4.2 < (lenI a1))))], [], 0⟩ hX (by kernel_rfl) allNil ?_
      refine HT.seq ?_
      rcases of_bif hx8 with ⟨hb10, hx8⟩ | ⟨hb10, hx8⟩
      · refine HT.cond1 rfl hb10 ?_
        refine HT.skip (qThen ?_)
        refine HT.seq ?_
        refine HT.block ?_
        refine HT.rg2 (oHs 2) ⟨[(0, iV s4.1), (1, .one (.dat .str a1)), (6, iV s4.2), (11, iV (lenI a1)), (12, iV s4.2)], [], 0⟩ hX (by kernel_rfl) allNil ?_
        obtain ⟨hg11, hx8⟩ := of_guard hx8
        refine HT.rgL (oHs 10) ⟨[(0, iV (Int.tmod (wadd .i64 (wadd .i64 (wmul .i64 (919 : Int) s4.1) (IntKind.wrap .i64 ((((List.getD a1 (Int.toNat s4.2) 0 : UInt8).toNat : Nat)) : Int))) (191 : Int)) (65003 : Int))), (1, .one (.dat .str a1)), (11, iV (lenI a1)), (12, iV s4.2)], [], 0⟩ hX (by kernel_rfl) (allCons hg11 (allCons (show (65003 : Int) ≠ 0 from by decide) allNil)) (qBlock (qThen ?_))
        have hx8 := of_some hx8
        subst hx8
        exact HT.rgK (oHs 2) [] [] hX (by kernel_rfl) allNil (fun _ h => (qLoopN ⟨((Int.tmod (wadd .i64 (wadd .i64 (wmul .i64 (919 : Int) s4.1) (IntKind.wrap .i64 ((((List.getD a1 (Int.toNat s4.2) 0 : UInt8).toNat : Nat)) : Int))) (191 : Int)) (65003 : Int)), (wadd .i64 s4.2 (1 : Int))), rfl, h⟩))
      · refine HT.cond0 rfl hb10 ?_
        have hx8 := of_some hx8
        subst hx8
        exact HT.exitL (Le.re [] [] hX (by kernel_rfl)) (qThenE (qLoopE (hk9 s4.1 rfl)))

section
open Go.RowKit

theorem below_then {a b c : World} (h : Below a.heap.size a b) (k : Below b.heap.size b c) : Below a.heap.size a c :=
  h.trans ⟨k.os, k.tape, k.output, k.size, fun i hi => k.block i (Nat.lt_of_lt_of_le hi h.size)⟩

theorem dec_any (v : Int) (h0 : -9223372036854775808 ≤ v) (h1 : v ≤ 9223372036854775807) (w : World) (t : TypeId) (fr : Nat × Nat) (ht : w.heap[1]? = some (.cells pow10Cells t fr)) :
    Calls Tryd.prog 54 #[.int .i64 v] w fun e w' => e = .returned (.string ⟨(Lib.itoa v).toArray⟩) ∧ Below w.heap.size w w' := by
  go_enter Tryd.func54, Tryd.ntmps54
  go_wp2_with (go_at_call 108; refine (Tryd.strconv_FormatInt_10 v h0 h1 w (tabPow ht)).mono ?_)
  rintro e w2 ⟨rfl, k, os, rfl⟩
  have hb := Lib.below_grow w.heap.size w (Nat.le_refl _) k os
  generalize Go.Sort.grow (w.drewN k) os = w2 at hb ⊢
  go_wp2
  go_ret
  exact ⟨rfl, hb⟩

theorem Tryd.X79 : (Tryd.prog.info? 79).map (·.size) = some 2 := by kernel_rfl
theorem Tryd.lies79 : liesAt Tryd.prog Tryd.prog.depth 79 (2 / Tryd.prog.cellsOf 79) 0 79 1 = true := by kernel_rfl
theorem Tryd.infoByte5 : (Tryd.prog.info? 5).map (fun i => (i.zero, i.size, i.bytes)) = some (some (.int .u8 0), 1, 1) := by kernel_rfl

set_option maxHeartbeats 1000000 in
set_option maxRecDepth 100000 in
theorem cc_fresh (b : Nat) (w : World) (h0 : w.cell? ⟨b, 0, none⟩ = some (.pointer none)) (hsh : w.shape? b = some (79, 2)) (hfz : w.frozen? ⟨b, 0, none⟩ = false) :
    Calls Tryd.prog 107 #[.pointer (some ⟨b, 0, none⟩)] w fun e w' => e = .returned (.tuple #[]) ∧ w' = w.setCell ⟨b, 0, none⟩ (.pointer (some ⟨b, 0, none⟩)) := by
  obtain ⟨j, hj, hjs⟩ := Option.map_eq_some_iff.1 Tryd.X79
  go_enter Tryd.func107, Tryd.ntmps107
  go_wp2
  rw [Lib.run_to_unsafe w ⟨b, 0, none⟩ Tryd.underlying76 Tryd.underlying164 hj (by rw [hjs]; decide) hsh (Nat.zero_lt_succ 1)]
  simp only [Result.andThen]
  rw [Oper.upon_value]
  go_wp2
  rw [run_callFunc_extern Tryd.func129 (by kernel_rfl) (by kernel_rfl) (by kernel_rfl) (e := Extern.AbiNoEscape.same) (by kernel_rfl)]
  rw [Lib.run_noEscape]
  simp only [Result.andThen]
  rw [Oper.upon_value]
  go_wp2
  rw [Lib.run_from_unsafe w ⟨b, 0, none⟩ Tryd.underlying164 Tryd.underlying76 hj hsh Tryd.lies79]
  simp only [Result.andThen]
  rw [Oper.upon_value]
  go_wp2
  go_end0
  exact ⟨rfl, rfl⟩

set_option maxHeartbeats 1000000 in
set_option maxRecDepth 100000 in
theorem cc_used (b : Nat) (w : World) (h0 : w.cell? ⟨b, 0, none⟩ = some (.pointer (some ⟨b, 0, none⟩))) :
    Calls Tryd.prog 107 #[.pointer (some ⟨b, 0, none⟩)] w fun e w' => e = .returned (.tuple #[]) ∧ w' = w := by
  obtain ⟨j, hj, _⟩ := Option.map_eq_some_iff.1 Tryd.X79
  go_enter Tryd.func107, Tryd.ntmps107
  go_wp2
  rw [Lib.run_neq_ptr_same w _ Tryd.underlying76 hj]
  go_wp2
  go_end0
  exact ⟨rfl, rfl⟩

theorem cc_k (B b : Nat) (bs : List Value) (w : World) (h : Lib.IsBuilderF 79 5 B b bs w) :
    Calls Tryd.prog 107 #[.pointer (some ⟨b, 0, none⟩)] w fun e w' => e = .returned (.tuple #[]) ∧ (Lib.BuilderAtF 79 5 B b (.pointer (some ⟨b, 0, none⟩)) bs w' ∧ Below B w w') := by
  rcases h with h | h
  · refine (cc_fresh b w h.cell0 h.shape h.frozen0).mono ?_
    rintro e w' ⟨rfl, rfl⟩
    exact ⟨rfl, h.used _, (Below.refl B w).setCell (p := ⟨b, 0, none⟩) h.1 _⟩
  · refine (cc_used b w h.cell0).mono ?_
    rintro e w' ⟨rfl, rfl⟩
    exact ⟨rfl, h, Below.refl B _⟩

set_option maxHeartbeats 2000000 in
set_option maxRecDepth 100000 in
theorem ws_k (B b : Nat) (bs : List Value) (s : ByteArray) (w : World) (h : Lib.IsBuilderF 79 5 B b bs w) (hlen : bs.length + s.size ≤ 140737488355328) (hBw : B ≤ w.heap.size) :
    Calls Tryd.prog 53 #[.pointer (some ⟨b, 0, none⟩), .string s] w fun e w' => e = .returned (.tuple #[.int .i64 s.size, .nilIface]) ∧ (Lib.BuilderAtF 79 5 B b (.pointer (some ⟨b, 0, none⟩)) (bs ++ Lib.strCells s) w' ∧ Below B w w') := by
  obtain ⟨i0, hi, hz0, hz1, hz2⟩ := info_parts Tryd.infoByte5
  go_enter Tryd.func53, Tryd.ntmps53
  go_wp2_with (go_at_call 107; refine (cc_k B b bs _ h).mono ?_)
  rintro e w1 ⟨rfl, h1, hb1⟩
  obtain ⟨hB, v, hbk, hown, hne⟩ := h1
  have c0 : w1.cell? ⟨b, 0, none⟩ = some (.pointer (some ⟨b, 0, none⟩)) := by rw [Lib.cell_of_heap hbk]; rfl
  have c1 : w1.cell? ⟨b, 1, none⟩ = some v := by rw [Lib.cell_of_heap hbk]; rfl
  go_wp2_with (at_builtin; refine Lib.wpList_append_own_stringF _ rfl _ _ 77 9 rfl B 5 i0 Tryd.underlying77 Tryd.underlying9 hi hz0 hz1 hz2 _ _ _ rfl hown s rfl ?c3 ?c4 ?c5 ?_)
  case c3 => unfold maxLen; omega
  case c4 => omega
  case c5 => have := hb1.size; omega
  intro v' w2 hown' hgrow _
  have hlt : b < w1.heap.size := by
    rcases Nat.lt_or_ge b w1.heap.size with h' | h'
    · exact h'
    · simp [Array.getElem?_eq_none h'] at hbk
  have hb2 : w2.heap[b]? = some (.cells #[.pointer (some ⟨b, 0, none⟩), v] 79 (0, 0)) := by
    rw [hgrow.block b hlt (fun e => hne e.symm)]
    exact hbk
  have d0 : w2.cell? ⟨b, 0, none⟩ = some (.pointer (some ⟨b, 0, none⟩)) := by rw [Lib.cell_of_heap hb2]; rfl
  have d1 : w2.cell? ⟨b, 1, none⟩ = some v := by rw [Lib.cell_of_heap hb2]; rfl
  have f1 : w2.frozen? ⟨b, 1, none⟩ = false := Lib.frozen_of_heap hb2 1
  obtain ⟨ao, n', cap, rfl⟩ : ∃ ao n' cap, v' = .slice ao n' cap := by
    rcases hown'.2 with ⟨hv, _⟩ | ⟨g, cap, cur, fz, hv, _⟩
    · exact ⟨_, _, _, hv⟩
    · exact ⟨_, _, _, hv⟩
  go_wp2
  go_ret2
  refine ⟨rfl, ?_, ?_⟩
  · exact Lib.BuilderAtF.put (T := 79) (e := 5) hB hb2 (bs' := bs ++ Lib.strCells s) (by simpa [Lib.strCells_length] using hown') (by decide)
  · exact (hb1.grown hgrow (by have := hb1.size; omega) (fun k hk => (hown.lt k hk).1)).setCell (p := ⟨b, 1, none⟩) hB _

theorem check_any {c : Int} {s : List UInt8} {r : Int × Bool} (h : impl_CheckOf c s = some r) (w : World) (hg : Glob.ok w (There w)) :
    Calls Tryd.prog 52 #[.int .i64 c, .string ⟨s.toArray⟩] w fun e w' => e = .returned (.tuple #[.int .i64 r.1, .bool r.2]) ∧ Below w.heap.size w w' := by
  refine ((CallOK.simple (ps := [⟨.int .i64, c⟩, ⟨.str, s⟩]) (rs := [⟨.int .i64, r.1⟩, ⟨.bool, r.2⟩]) (f52_ok h) (by simp [Ty.simple]) (by simp [Ty.simple]) w hg)).mono fun e w' ⟨⟨v, he, hv⟩, hb⟩ => ?_
  have hv : v = .tuple #[.int .i64 r.1, .bool r.2] := hv
  exact ⟨by rw [he, hv], hb⟩

/-- One line more. -/
def jadd (acc : List UInt8) (c : Int) (l : List UInt8) : List UInt8 := acc ++ (Lib.itoa c ++ [32] ++ l ++ [10])

/-- The journal, line by line. -/
noncomputable def jrn : List (List UInt8) → Int → List UInt8 → Option (List UInt8 × Bool)
  | [], _, acc => some (acc, true)
  | l :: r, c, acc => bif Lib.contains l [10] then some ([], false) else
    (impl_CheckOf c l).bind fun y =>
    guardP (-9223372036854775808 ≤ y.1 ∧ y.1 ≤ 9223372036854775807) (
      bif decide ((jadd acc y.1 l).length > 16000) then some ([], false) else jrn r y.1 (jadd acc y.1 l))

theorem jrn_step {l : List UInt8} {r : List (List UInt8)} {c : Int} {acc : List UInt8} {res : List UInt8 × Bool} (h : jrn (l :: r) c acc = some res) :
    (Lib.contains l [10] = true → res = ([], false)) ∧ (Lib.contains l [10] = false → ∃ y1 y2, impl_CheckOf c l = some (y1, y2) ∧ -9223372036854775808 ≤ y1 ∧ y1 ≤ 9223372036854775807 ∧
      ((jadd acc y1 l).length > 16000 → res = ([], false)) ∧ ((jadd acc y1 l).length ≤ 16000 → jrn r y1 (jadd acc y1 l) = some res)) := by
  unfold jrn at h
  constructor
  · intro hc
    rw [hc, cond_true] at h
    injection h with h
    exact h.symm
  · intro hc
    rw [hc, cond_false] at h
    obtain ⟨⟨y1, y2⟩, h1, h2⟩ := of_bind h
    obtain ⟨h3, h4⟩ := of_guard h2
    refine ⟨y1, y2, h1, h3.1, h3.2, fun hl => ?_, fun hl => ?_⟩
    · rw [show decide ((jadd acc y1 l).length > 16000) = true by simpa using hl, cond_true] at h4
      injection h4 with h4
      exact h4.symm
    · rw [show decide ((jadd acc y1 l).length > 16000) = false by simp only [decide_eq_false_iff_not]; omega, cond_false] at h4
      exact h4

theorem builder_below {B b : Nat} {bs : List Value} {w w' : World} (h : Lib.IsBuilderF 79 5 B b bs w) (hb : Below w.heap.size w w') : Lib.IsBuilderF 79 5 B b bs w' := by
  have key : ∀ p, Lib.BuilderAtF 79 5 B b p bs w → Lib.BuilderAtF 79 5 B b p bs w' := fun p ⟨hB, v, hbk, hown, hne⟩ => by
    have lt : ∀ {k : Nat} {o : Obj}, w.heap[k]? = some o → k < w.heap.size := fun h => (Array.getElem?_eq_some_iff.1 h).1
    refine ⟨hB, v, (hb.block b (lt hbk)).trans hbk, ⟨hown.1, ?_⟩, hne⟩
    rcases hown.2 with h | ⟨g, cap, cur, fz, hv, hbg, hg, hrest⟩
    · exact .inl h
    · exact .inr ⟨g, cap, cur, fz, hv, hbg, (hb.block g (lt hg)).trans hg, hrest⟩
  rcases h with h | h
  · exact .inl (key _ h)
  · exact .inr (key _ h)

theorem glob_below {w w' : World} (h : Below w.heap.size w w') (hg : Glob.ok w (There w)) : Glob.ok w' (There w') :=
  Glob.mono (fun b hb => ⟨Nat.lt_of_lt_of_le hb h.size, h.block b hb⟩) hg

set_option maxHeartbeats 4000000 in
set_option maxRecDepth 1000000 in
theorem jo_main (xs : List (List UInt8)) (r : List UInt8 × Bool) (a : Option Addr) (cap : Nat) (w : World) (hg : Glob.ok w (There w)) (hn : xs.length ≤ 1048576) (hl : ∀ l ∈ xs, l.length ≤ 1048576)
    (hc : ∀ i (h : i < xs.length), ∃ bk o, a = some ⟨bk, o, none⟩ ∧ bk < w.heap.size ∧ w.cell? ⟨bk, o + i, none⟩ = some (.string ⟨xs[i].toArray⟩)) (hcap : xs.length ≤ cap)
    (hr : jrn xs 0 [] = some r) :
    Calls Tryd.prog 15 #[.slice a xs.length cap] w fun e w' => e = .returned (.tuple #[.string ⟨r.1.toArray⟩, .bool r.2]) ∧ Below w.heap.size w w' := by
  go_enter Tryd.func15, Tryd.ntmps15
  go_wp2
  go_loopw [5, 11] (fun c i wr => ∃ (k : Nat) (ck : Int) (acc : List UInt8), k ≤ xs.length ∧ c = .int .i64 ck ∧ i = .int .i64 k ∧ jrn (xs.drop k) ck acc = some r ∧ Lib.IsBuilderF 79 5 w.heap.size w.heap.size (Lib.byteCells acc) wr ∧ Below w.heap.size w wr ∧ acc.length ≤ 16000) (fun _ i _ => xs.length - (intOf i).toNat)
  case atStart =>
    exact ⟨0, 0, [], Nat.zero_le _, rfl, rfl, hr, Lib.IsBuilderF.of (Lib.fresh_isBuilder 79 5 w), (Below.refl _ w).alloc (Nat.le_refl _) _, by simp⟩
  case round =>
    obtain ⟨k, ck, acc, hk, rfl, rfl, hj, hI, hbw, hal⟩ := hrel
    have hgr := glob_below hbw hg
    have hlen : xs.length ≤ 9223372036854775807 := by omega
    by_cases hlt : k < xs.length
    · obtain ⟨bk, o, rfl, hbk, hcell⟩ := hc k hlt
      have hcell : wr.cell? ⟨bk, o + k, none⟩ = some (.string ⟨xs[k].toArray⟩) := (World.cell?_of_block (hbw.block bk hbk)).trans hcell
      have hlk := hl _ (List.getElem_mem hlt)
      rw [List.drop_eq_getElem_cons hlt] at hj
      generalize xs[k] = l at hcell hlk hj
      obtain ⟨m, hm⟩ := Glob.maxlen hgr
      have hgB : Hid (Glob.ok wr (There wr)) := hgr
      have hjB : Hid (_ = some r) := hj
      have hm : Hid (∃ m, wr.cell? ⟨0, 0, none⟩ = some (.int .i64 m)) := Glob.maxlen hgr
      clear hc hr hl hg hgr hj
      go_wp2_with (go_at_call 51; obtain ⟨m, hm⟩ := hm; refine (Tryd.strings_Contains _ _ m wr (by show l.length < _; omega) hm).mono ?_)
      · have hct : Lib.contains l [10] = true := by assumption
        have hj := (jrn_step hjB).1 hct
        subst hj
        go_ret2
        exact ⟨rfl, hbw⟩
      · have hct : Lib.contains l [10] = false := by assumption
        obtain ⟨y1, y2, hy, hy0, hy1, hno, hyes⟩ := (jrn_step hjB).2 hct
        have hnoB : Hid ((jadd acc y1 l).length > 16000 → r = ([], false)) := hno
        have hyesB : Hid ((jadd acc y1 l).length ≤ 16000 → jrn (xs.drop (k + 1)) y1 (jadd acc y1 l) = some r) := hyes
        clear hct hm hjB hno hyes
        have hyB : Hid (impl_CheckOf ck l = some (y1, y2)) := hy
        clear hy
        refine (check_any hyB _ hgB).mono ?_
        rintro e w2 ⟨rfl, hb2⟩
        have hgB : Hid (Glob.ok w2 (There w2)) := glob_below hb2 hgB
        obtain ⟨_, t, fr, ht⟩ := Glob.pow hgB
        go_wp2_with (go_at_call 54; refine (dec_any y1 hy0 hy1 w2 t fr ht).mono ?_)
        rintro e w3 ⟨rfl, hb3⟩
        clear ht
        have hbw3 : Below w.heap.size w w3 := hbw.trans ((below_then hb2 hb3).mono hbw.size)
        have hI3 : Lib.IsBuilderF 79 5 w.heap.size w.heap.size (Lib.byteCells acc) w3 := builder_below hI (below_then hb2 hb3)
        have hil := Lib.itoa_length_le y1 hy0 hy1
        have hqs : (ByteArray.mk (Lib.itoa y1).toArray).size ≤ 21 := hil
        have hjl : (jadd acc y1 l).length ≤ 1100000 := by unfold jadd; simp only [List.length_append, List.length_cons, List.length_nil]; omega
        have hcat : Lib.byteCells acc ++ Lib.strCells (ByteArray.mk (Lib.itoa y1).toArray ++ { data := #[32] } ++ { data := l.toArray } ++ { data := #[10] }) = Lib.byteCells (jadd acc y1 l) := by
          rw [Lib.strCells_eq, ← Lib.byteCells_append]
          unfold jadd
          simp
        have hcs : (ByteArray.mk (Lib.itoa y1).toArray ++ { data := #[32] } ++ { data := l.toArray } ++ { data := #[10] }).size ≤ 1100000 := by
          simp only [ByteArray.size_append]
          have : (ByteArray.mk l.toArray).size = l.length := rfl
          have : (ByteArray.mk #[32]).size = 1 := rfl
          have : (ByteArray.mk #[10]).size = 1 := rfl
          omega
        clear hil
        generalize ByteArray.mk (Lib.itoa y1).toArray = q at hqs hcat hcs ⊢
        have hcat : Hid (_ = _) := hcat
        have hcs : Hid (_ ≤ 1100000) := hcs
        go_wp2_with (go_at_call 53; refine (ws_k _ _ _ _ w3 hI3 (by rw [Lib.byteCells_length]; have := hcs.out; omega) (by have := hbw3.size; omega)).mono ?_)
        rintro e w4 ⟨rfl, hI4, hb4⟩
        have hI4 : Lib.IsBuilderF 79 5 w.heap.size w.heap.size (Lib.byteCells (jadd acc y1 l)) w4 := by rw [← hcat.out]; exact .inr hI4
        have hbw4 := hbw3.trans hb4
        clear hcat hcs hI hI3
        go_wp2_with (go_at_call 55; refine (Tryd.Builder_Len_f _ _ _ w4 hI4).mono ?_)
        rintro e w5 ⟨rfl, rfl⟩
        rw [Lib.byteCells_length]
        have hgj : ∀ n, (jadd acc y1 l).length = n → Hid ((jadd acc y1 l).length = n) := fun n h => h
        generalize hln : (jadd acc y1 l).length = ln at hjl ⊢
        have hln := hgj ln hln
        clear hgj
        go_wp2
        · have hgt : 16000 < ln := by omega
          have hj := hnoB.out (by have := hln.out; omega)
          subst hj
          go_ret2
          exact ⟨rfl, hbw4⟩
        · have hle : ln ≤ 16000 := by omega
          have hj := hyesB.out (by have := hln.out; omega)
          go_roundw
          case rel =>
            exact ⟨k + 1, y1, jadd acc y1 l, by omega, rfl, by go_num, hj, hI4, hbw4, by have := hln.out; omega⟩
          case measure => simp [intOf]; omega
    · have hkx : k = xs.length := by omega
      subst hkx
      rw [List.drop_length] at hj
      have hj : some (acc, true) = some r := hj
      injection hj with hj
      subst hj
      clear hc hr hl hg hgr
      go_wp2_with (go_at_call 56; refine (Tryd.Builder_String_any_f _ _ acc wr hI hbw.size).mono ?_)
      rintro e w1 ⟨rfl, _, hb1⟩
      go_wp2
      go_ret2
      exact ⟨rfl, hbw.trans hb1⟩

end

noncomputable def impl_JournalOf (a0 : List (List UInt8)) : Option (List UInt8 × Bool) :=
  guardP (a0.length ≤ 1048576 ∧ (a0.all fun l => decide (l.length ≤ 1048576)) = true) (jrn a0 0 [])

theorem f15_ok {a0 : List (List UInt8)} {r : List UInt8 × Bool} (h : impl_JournalOf a0 = some r) : CallOK Tryd.prog 15 [.imm (.sl .str) a0] [⟨false, .str, r.1⟩, ⟨false, .bool, r.2⟩] [] := by
  obtain ⟨⟨hn, hl⟩, h⟩ := of_guard h
  have hl : ∀ l ∈ a0, l.length ≤ 1048576 := fun l hm => by simpa using List.all_eq_true.1 hl l hm
  refine ⟨⟨_, Tryd.func15, by kernel_rfl, by kernel_rfl⟩, fun w S vals As F hB hI hS hFl ha hgl => ?_⟩
  obtain ⟨v1, A1, rfl, rfl, ⟨e1, cs1, k1, r1⟩⟩ : ∃ v1 A1, vals = [v1] ∧ As = [A1] ∧ ArgR S w (.imm (.sl .str) a0) v1 A1 := by
    cases vals with
    | nil => exact ha.elim
    | cons v1 vals =>
      cases As with
      | nil => exact ha.elim
      | cons A1 As =>
        obtain ⟨h1, ha⟩ := ha
        cases vals with
        | cons v2 vals => exact ha.elim
        | nil =>
          cases As with
          | cons A2 As => exact ha.elim
          | nil => exact ⟨v1, A1, rfl, rfl, h1⟩
  obtain ⟨a, cap, hcs, hcap, hels⟩ := r1
  have q1 : v1 = .slice a a0.length cap := by
    have k1 : cs1 = [v1] := k1
    rw [k1] at hcs; injection hcs
  subst e1 q1
  have hF : ∀ b, b ∉ F := fun b hb => by
    obtain ⟨γ, hγ, _⟩ := (hB b).1 hb
    simp at hγ
  refine (jo_main a0 r a cap w (Glob.mono (fun b hb => ⟨(hS b hb).1, rfl⟩) hgl) hn hl (fun i hi => ?_) hcap h).mono fun e w' ⟨he, hw⟩ => ?_
  · obtain ⟨ad, es, ea, hs, hcell, hrep⟩ := hels i hi
    have hes : es = [.string ⟨a0[i].toArray⟩] := hrep
    have hc0 := hcell 0 (.string ⟨a0[i].toArray⟩) (by rw [hes]; rfl)
    have hsp : ad = ⟨ad.block, ad.off, none⟩ := by
      obtain ⟨ad0, es0, ea0, _, hcell0, hrep0⟩ := hels 0 (by omega)
      have : ad0 = ad := by rw [ea] at ea0; injection ea0 with ea0; exact ea0.symm
      subst this
      have hes0 : es0 = [.string ⟨a0[0].toArray⟩] := hrep0
      have hc := hcell0 0 (.string ⟨a0[0].toArray⟩) (by rw [hes0]; rfl)
      exact spot_none (show w.cell? ad0 = some _ by simpa [Addr.add, Ty.size] using hc)
    refine ⟨ad.block, ad.off, by rw [ea, ← hsp], (hS _ hs).1, ?_⟩
    rw [hsp, add_none] at hc0
    simpa [Ty.size] using hc0
  · exact ⟨_, [], [], he, fun b => by simp, ⟨List.Pairwise.nil, fun γ hγ => by simp at hγ⟩, ⟨_, rvs_simple (rs := [⟨.str, r.1⟩, ⟨.bool, r.2⟩]) (by simp [Ty.simple]), rfl⟩, fun b hb => by simp at hb, KeepF.below hw, trivial⟩

noncomputable def laws_eqStringS_B1 (a0 : List (List UInt8)) (a1 : List (List UInt8)) (s2 : Int) : Option ((Int) ⊕ (Unit ⊕ Unit)) :=
  bif (decide (s2 < (lenI a0))) then
    guardP ((0 : Int) ≤ s2 ∧ s2 < lenI a0) (
      guardP ((0 : Int) ≤ s2 ∧ s2 < lenI a1) (
        bif ((List.getD a0 (Int.toNat s2) ([] : List UInt8)) != (List.getD a1 (Int.toNat s2) ([] : List UInt8))) then
          some (.inr (.inr ()))
        else
          some (.inl (wadd .i64 s2 (1 : Int)))))
  else
    some (.inr (.inl ()))

noncomputable def laws_eqStringS (a0 : List (List UInt8)) (a1 : List (List UInt8)) : Option (Bool) :=
  bif ((lenI a0) != (lenI a1)) then
    some false
  else
    (rounds (laws_eqStringS_B1 a0 a1) (0 : Int)).bind fun r3 => match r3 with
      | .inl r4 =>
        some true
      | .inr r5 =>
        some false

theorem f16_ok {a0 : List (List UInt8)} {a1 : List (List UInt8)} {r : Bool} (hr : laws_eqStringS a0 a1 = some r) : CallOK Tryd.prog 16 [.imm (.sl .str) a0, .imm (.sl .str) a1] [⟨false, .bool, r⟩] [] := by
  unfold laws_eqStringS at hr
  refine CallOK.of_body (ts := [(false, .bool)]) Tryd.func16 rfl (by kernel_rfl) (Nat.le_of_ble_eq_true (by kernel_rfl)) fun cx hP hN hO hF => ?_
  have hO : cx.own.map Prod.fst = [] := hO
  have hX := CxIs.mk hP hN hO
  have hF := hF rfl
  show HT cx ⟨[(0, .one (.dat (.sl .str) a0)), (1, .one (.dat (.sl .str) a1))], [], 0⟩ _ _
  refine HT.rg2 [oH] ⟨[(0, .one (.dat (.sl .str) a0)), (1, .one (.dat (.sl .str) a1))], [], 0⟩ hX (by kernel_rfl) allNil ?_
  refine HT.seq ?_
  refine HT.rg2 (oHs 5) ⟨[(0, .one (.dat (.sl .str) a0)), (1, .one (.dat (.sl .str) a1)), (10, bV ((lenI a0) != (lenI a1)))], [], 0⟩ hX (by kernel_rfl) allNil ?_
  rcases of_bif hr with ⟨hb1, hr⟩ | ⟨hb1, hr⟩
  · refine HT.cond1 rfl hb1 ?_
    refine HT.rg2 [oH] ⟨[(4, bV false)], [], 0⟩ hX (by kernel_rfl) allNil ?_
    have hr := of_some hr
    subst hr
    exact HT.ret (qThenR ⟨[bV false], [], [], by kernel_rfl, by kernel_rfl, rfl, by kernel_rfl, by kernel_rfl, trivial⟩)
  · refine HT.cond0 rfl hb1 ?_
    refine HT.skip (qThen ?_)
    refine HT.seq ?_
    refine HT.rg2 [oH] ⟨[(0, .one (.dat (.sl .str) a0)), (1, .one (.dat (.sl .str) a1)), (5, iV (0 : Int))], [], 0⟩ hX (by kernel_rfl) allNil ?_
    refine HT.block ?_
    obtain ⟨r3, hL13, hr⟩ := of_bind hr
    refine HT.loopL (fun (s2 : Int) => ⟨[(0, .one (.dat (.sl .str) a0)), (1, .one (.dat (.sl .str) a1)), (5, iV s2)], [], 0⟩) (fun (r3 : Unit ⊕ Unit) => match r3 with | .inl r4 => (.exit 0, ⟨[], [], 0⟩) | .inr r5 => (.ret, ⟨[(4, bV false)], [], 0⟩)) (Le.re [] [] hX (by kernel_rfl)) hL13 ?_ (fun s2 x6 hx7 hk8 => ?_)
    · rcases r3 with r4 | r5
      · refine (qBlockX (qThen ?_))
        refine HT.rg2 [oH] ⟨[(4, bV true)], [], 0⟩ hX (by kernel_rfl) allNil ?_
        have hr := of_some hr
        subst hr
        exact HT.ret ⟨[bV true], [], [], by kernel_rfl, by kernel_rfl, rfl, by kernel_rfl, by kernel_rfl, trivial⟩
      · have hr := of_some hr
        subst hr
        exact (qBlockR (qThenR ⟨[bV false], [], [], by kernel_rfl, by kernel_rfl, rfl, by kernel_rfl, by kernel_rfl, trivial⟩))
    · refine HT.seq ?_
      refine HT.rg2 (oHs 4) ⟨[(0, .one (.dat (.sl .str) a0)), (1, .one (.dat (.sl .str) a1)), (5, iV s2), (14, bV (decide (s2 < (lenI a0))))], [], 0⟩ hX (by kernel_rfl) allNil ?_
      rcases of_bif hx7 with ⟨hb9, hx7⟩ | ⟨hb9, hx7⟩
      · refine HT.cond1 rfl hb9 ?_
        refine HT.skip (qThen ?_)
        refine HT.seq ?_
        refine HT.block ?_
        obtain ⟨hg10, hx7⟩ := of_guard hx7
        obtain ⟨hg11, hx7⟩ := of_guard hx7
        refine HT.dr2 8 [⟨oH, []⟩, ⟨oH, []⟩, ⟨oH, [0, 1]⟩, ⟨oH, [0, 1, 2]⟩, ⟨oH, []⟩, ⟨oH, []⟩, ⟨oH, [4, 5]⟩, ⟨oH, [4, 5, 6]⟩] [[0, 1, 2, 3, 4, 5, 6, 7]] [oH] ⟨[(0, .one (.dat (.sl .str) a0)), (1, .one (.dat (.sl .str) a1)), (5, iV s2), (25, bV ((List.getD a0 (Int.toNat s2) ([] : List UInt8)) != (List.getD a1 (Int.toNat s2) ([] : List UInt8))))], [], 0⟩ hX (by kernel_rfl) (by kernel_rfl) (allCons hg10 (allCons hg11 allNil)) ?_
        rcases of_bif hx7 with ⟨hb12, hx7⟩ | ⟨hb12, hx7⟩
        · refine HT.cond1 rfl hb12 ?_
          refine HT.rg2 [oH] ⟨[(4, bV false)], [], 0⟩ hX (by kernel_rfl) allNil ?_
          have hx7 := of_some hx7
          subst hx7
          exact HT.retL (Le.re [] [] hX (by kernel_rfl)) (qBlockR (qThenR (qLoopR (hk8 (.inr ()) rfl))))
        · refine HT.cond0 rfl hb12 ?_
          refine HT.skip (qBlock (qThen ?_))
          have hx7 := of_some hx7
          subst hx7
          exact HT.rgK (oHs 3) [] [] hX (by kernel_rfl) allNil (fun _ h => (qLoopN ⟨(wadd .i64 s2 (1 : Int)), rfl, h⟩))
      · refine HT.cond0 rfl hb9 ?_
        have hx7 := of_some hx7
        subst hx7
        exact HT.exitL (Le.re [] [] hX (by kernel_rfl)) (qThenE (qLoopE (hk8 (.inl ()) rfl)))

noncomputable def laws_FnExactJournalOf (a0 : List (List UInt8)) : Option (Bool) :=
  (laws_szStringS a0 (1048576 : Int)).bind fun y1 =>
  bif (decide (y1 < (0 : Int))) then
    some true
  else
    (laws_toStringS a0).bind fun y4 =>
    (spec_JournalOf y4).bind fun y6 =>
    (laws_toStringS a0).bind fun y8 =>
    (impl_JournalOf y8).bind fun y10 =>
    (show Option (Bool) from
      bif (y10.1 != y6.1) then
        some true
      else
        some (y10.2 != y6.2)).bind fun v12 =>
    bif v12 then
      some false
    else
      (laws_toStringS a0).bind fun y16 =>
      (laws_eqStringS y8 y16).bind fun y18 =>
      bif (!y18) then
        some false
      else
        some true

theorem f3_ok {a0 : List (List UInt8)} {r : Bool} (hr : laws_FnExactJournalOf a0 = some r) : CallOK Tryd.prog 3 [.imm (.sl .str) a0] [⟨false, .bool, r⟩] [] := by
  unfold laws_FnExactJournalOf at hr
  refine CallOK.of_body (ts := [(false, .bool)]) Tryd.func3 rfl (by kernel_rfl) (Nat.le_of_ble_eq_true (by kernel_rfl)) fun cx hP hN hO hF => ?_
  have hO : cx.own.map Prod.fst = [] := hO
  have hX := CxIs.mk hP hN hO
  have hF := hF rfl
  show HT cx ⟨[(0, .one (.dat (.sl .str) a0))], [], 0⟩ _ _
  refine HT.rg2 [oH] ⟨[(0, .one (.dat (.sl .str) a0))], [], 0⟩ hX (by kernel_rfl) allNil ?_
  refine HT.rg2 [oH] ⟨[(0, .one (.dat (.sl .str) a0)), (3, iV (1048576 : Int))], [], 0⟩ hX (by kernel_rfl) allNil ?_
  obtain ⟨y1, hc2, hr⟩ := of_bind hr
  refine HT.rg2 [oH, oH, ⟨none, .call [.imm (.sl .str), .imm tI] [⟨false, tI, y1⟩] []⟩, oH] ⟨[(0, .one (.dat (.sl .str) a0)), (3, iV y1)], [], 0⟩ hX (by kernel_rfl) (allCons (f12_ok hc2) allNil) ?_
  refine HT.seq ?_
  refine HT.rg2 (oHs 2) ⟨[(0, .one (.dat (.sl .str) a0)), (13, bV (decide (y1 < (0 : Int))))], [], 0⟩ hX (by kernel_rfl) allNil ?_
  rcases of_bif hr with ⟨hb3, hr⟩ | ⟨hb3, hr⟩
  · refine HT.cond1 rfl hb3 ?_
    refine HT.rg2 [oH] ⟨[(2, bV true)], [], 0⟩ hX (by kernel_rfl) allNil ?_
    have hr := of_some hr
    subst hr
    exact HT.ret (qThenR ⟨[bV true], [], [], by kernel_rfl, by kernel_rfl, rfl, by kernel_rfl, by kernel_rfl, trivial⟩)
  · refine HT.cond0 rfl hb3 ?_
    refine HT.skip (qThen ?_)
    obtain ⟨y4, hc5, hr⟩ := of_bind hr
    obtain ⟨y6, hc7, hr⟩ := of_bind hr
    refine HT.rg2 [oH, ⟨none, .call [.imm (.sl .str)] [⟨true, (.sl .str), y4⟩] []⟩, ⟨none, .call [.imm (.sl .str)] [⟨false, .str, y6.1⟩, ⟨false, .bool, y6.2⟩] []⟩, oH, oH, oH, oH, oH] ⟨[(0, .one (.dat (.sl .str) a0)), (4, .one (.dat .str y6.1)), (5, bV y6.2)], [], 1⟩ hX (by kernel_rfl) (allCons (f14_ok hc5) (allCons (f13_ok hc7) allNil)) ?_
    obtain ⟨y8, hc9, hr⟩ := of_bind hr
    refine HT.rg2 [oH, ⟨none, .call [.imm (.sl .str)] [⟨true, (.sl .str), y8⟩] []⟩, oH] ⟨[(0, .one (.dat (.sl .str) a0)), (4, .one (.dat .str y6.1)), (5, bV y6.2), (6, aV 1)], [(1, .seq .str y8)], 2⟩ hX (by kernel_rfl) (allCons (f14_ok hc9) allNil) ?_
    obtain ⟨y10, hc11, hr⟩ := of_bind hr
    refine HT.rg2 [oH, ⟨none, .call [.imm (.sl .str)] [⟨false, .str, y10.1⟩, ⟨false, .bool, y10.2⟩] []⟩, oH, oH, oH, oH, oH] ⟨[(0, .one (.dat (.sl .str) a0)), (4, .one (.dat .str y6.1)), (5, bV y6.2), (6, aV 1), (7, .one (.dat .str y10.1)), (8, bV y10.2)], [(1, .seq .str y8)], 2⟩ hX (by kernel_rfl) (allCons (f15_ok hc11) allNil) ?_
    refine HT.seq ?_
    obtain ⟨v12', hT14, hr⟩ := of_bind hr
    refine HT.join (fun (v12 : Bool) => ⟨[(0, .one (.dat (.sl .str) a0)), (6, aV 0), (34, bV v12)], [(0, .seq .str y8)], 1⟩) (fun v => v = v12') (fun v12 hv13 => ?_) (fun cont => ?_)
    · subst hv13
      rcases of_bif hr with ⟨hb15, hr⟩ | ⟨hb15, hr⟩
      · refine HT.cond1 rfl hb15 ?_
        refine HT.rg2 [oH] ⟨[(2, bV false)], [], 1⟩ hX (by kernel_rfl) allNil ?_
        have hr := of_some hr
        subst hr
        exact HT.ret (qThenR ⟨[bV false], [], [], by kernel_rfl, by kernel_rfl, rfl, by kernel_rfl, by kernel_rfl, trivial⟩)
      · refine HT.cond0 rfl hb15 ?_
        refine HT.skip (qThen ?_)
        refine HT.seq ?_
        obtain ⟨y16, hc17, hr⟩ := of_bind hr
        obtain ⟨y18, hc19, hr⟩ := of_bind hr
        refine HT.rg2 [oH, oH, ⟨none, .call [.imm (.sl .str)] [⟨true, (.sl .str), y16⟩] []⟩, ⟨none, .call [.imm (.sl .str), .imm (.sl .str)] [⟨false, .bool, y18⟩] []⟩, oH] ⟨[(39, bV (!y18))], [], 2⟩ hX (by kernel_rfl) (allCons (f14_ok hc17) (allCons (f16_ok hc19) allNil)) ?_
        rcases of_bif hr with ⟨hb20, hr⟩ | ⟨hb20, hr⟩
        · refine HT.cond1 rfl hb20 ?_
          refine HT.rg2 [oH] ⟨[(2, bV false)], [], 2⟩ hX (by kernel_rfl) allNil ?_
          have hr := of_some hr
          subst hr
          exact HT.ret (qThenR ⟨[bV false], [], [], by kernel_rfl, by kernel_rfl, rfl, by kernel_rfl, by kernel_rfl, trivial⟩)
        · refine HT.cond0 rfl hb20 ?_
          refine HT.skip (qThen ?_)
          refine HT.rg2 [oH] ⟨[(2, bV true)], [], 2⟩ hX (by kernel_rfl) allNil ?_
          have hr := of_some hr
          subst hr
          exact HT.ret ⟨[bV true], [], [], by kernel_rfl, by kernel_rfl, rfl, by kernel_rfl, by kernel_rfl, trivial⟩
    · rcases of_bif hT14 with ⟨hb21, hT14⟩ | ⟨hb21, hT14⟩
      · exact HT.rgK [oH, oH, oH, oH, ⟨some true, .no⟩, ⟨some true, .no⟩, ⟨some true, .no⟩, ⟨none, .tv true⟩] [(1, 0)] [] hX (by kernel_rfl) (allCons hb21 (allCons hb21 (allCons hb21 (allCons hb21 allNil)))) (fun _ h => (qThen (h.ht (cont true (of_some hT14)))))
      · exact HT.rgK [oH, oH, oH, oH, ⟨some false, .no⟩, ⟨some false, .no⟩, ⟨some false, .no⟩, ⟨none, .tv false⟩] [(1, 0)] [] hX (by kernel_rfl) (allCons hb21 (allCons hb21 (allCons hb21 (allCons hb21 allNil)))) (fun _ h => (qThen (h.ht (cont (y10.2 != y6.2) (of_some hT14)))))

end Go.Proofs
