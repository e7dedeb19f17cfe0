import Derived.Test.YtapgmbilojbacaaLibC
import Derived.Test.YtapgmbilojbacaaProg
set_option linter.unusedVariables false
set_option linter.unusedSimpArgs false
set_option linter.unusedSectionVars false
/-
  Functions as plain functions, and their contracts. Printed by a program.
-/
namespace Go.Proofs
open Go.Ide

noncomputable def laws_b10Long (a0 : List Int) (a1 : List Int) : Option (Bool) :=
  (show Option (Bool) from
    bif (decide ((lenI a0) > (1048576 : Int))) then
      some true
    else
      some (decide ((lenI a1) > (1048576 : Int)))).bind fun v1 =>
  some v1

theorem f11_ok {a0 : List Int} {a1 : List Int} {r : Bool} (hr : laws_b10Long a0 a1 = some r) : CallOK Try.prog 11 [.imm (.sl (.int .u8)) a0, .imm (.sl (.int .u8)) a1] [⟨false, .bool, r⟩] [] := by
  unfold laws_b10Long at hr
  refine CallOK.of_body (ts := [(false, .bool)]) Try.func11 rfl (by kernel_rfl) (Nat.le_of_ble_eq_true (by kernel_rfl)) fun cx hP hN hO hF => ?_
  have hO : cx.own.map Prod.fst = [] := hO
  have hX := CxIs.mk hP hN hO
  have hF := hF rfl
  show HT cx ⟨[(0, .one (.dat (.sl (.int .u8)) a0)), (1, .one (.dat (.sl (.int .u8)) a1))], [], 0⟩ _ _
  refine HT.rg2 [oH] ⟨[(0, .one (.dat (.sl (.int .u8)) a0)), (1, .one (.dat (.sl (.int .u8)) a1))], [], 0⟩ hX (by kernel_rfl) allNil ?_
  obtain ⟨v1', hT3, hr⟩ := of_bind hr
  refine HT.join (fun (v1 : Bool) => ⟨[(4, bV v1)], [], 0⟩) (fun v => v = v1') (fun v1 hv2 => ?_) (fun cont => ?_)
  · subst hv2
    have hr := of_some hr
    subst hr
    exact HT.ret ⟨[bV v1], [], [], by kernel_rfl, by kernel_rfl, rfl, by kernel_rfl, by kernel_rfl, trivial⟩
  · rcases of_bif hT3 with ⟨hb4, hT3⟩ | ⟨hb4, hT3⟩
    · exact HT.rgK [oH, oH, oH, oH, ⟨some true, .no⟩, ⟨some true, .no⟩, ⟨some true, .no⟩, ⟨none, .tv true⟩, oH] [] [] hX (by kernel_rfl) (allCons hb4 (allCons hb4 (allCons hb4 (allCons hb4 allNil)))) (fun _ h => (qThen (h.ht (cont true (of_some hT3)))))
    · exact HT.rgK [oH, oH, oH, oH, ⟨some false, .no⟩, ⟨some false, .no⟩, ⟨some false, .no⟩, ⟨none, .tv false⟩, oH] [] [] hX (by kernel_rfl) (allCons hb4 (allCons hb4 (allCons hb4 (allCons hb4 allNil)))) (fun _ h => (qThen (h.ht (cont (decide ((lenI a1) > (1048576 : Int))) (of_some hT3)))))

noncomputable def laws_b10At (a0 : List Int) (a1 : Int) (a2 : Int) : Option (Int) :=
  bif (decide (a2 ≤ (1 : Int))) then
    some (0 : Int)
  else
    bif (decide (a1 < (lenI a0))) then
      guardP ((0 : Int) ≤ a1 ∧ a1 < lenI a0) (
        guardP (a2 ≠ 0) (
          some (Int.tmod (IntKind.wrap .i64 (List.getD a0 (Int.toNat a1) (0 : Int))) a2)))
    else
      guardP (a2 ≠ 0) (
        some (Int.tmod (wadd .i64 (wmul .i64 a1 (37 : Int)) (11 : Int)) a2))

theorem f19_ok {a0 : List Int} {a1 : Int} {a2 : Int} {r : Int} (hr : laws_b10At a0 a1 a2 = some r) : CallOK Try.prog 19 [.imm (.sl (.int .u8)) a0, .imm tI a1, .imm tI a2] [⟨false, tI, r⟩] [] := by
  unfold laws_b10At at hr
  refine CallOK.of_body (ts := [(false, tI)]) Try.func19 rfl (by kernel_rfl) (Nat.le_of_ble_eq_true (by kernel_rfl)) fun cx hP hN hO hF => ?_
  have hO : cx.own.map Prod.fst = [] := hO
  have hX := CxIs.mk hP hN hO
  have hF := hF rfl
  show HT cx ⟨[(0, .one (.dat (.sl (.int .u8)) a0)), (1, iV a1), (2, iV a2)], [], 0⟩ _ _
  refine HT.rg2 [oH] ⟨[(0, .one (.dat (.sl (.int .u8)) a0)), (1, iV a1), (2, iV a2)], [], 0⟩ hX (by kernel_rfl) allNil ?_
  refine HT.seq ?_
  refine HT.rg2 (oHs 2) ⟨[(0, .one (.dat (.sl (.int .u8)) a0)), (1, iV a1), (2, iV a2), (8, bV (decide (a2 ≤ (1 : Int))))], [], 0⟩ hX (by kernel_rfl) allNil ?_
  rcases of_bif hr with ⟨hb1, hr⟩ | ⟨hb1, hr⟩
  · refine HT.cond1 rfl hb1 ?_
    refine HT.rg2 [oH] ⟨[(6, iV (0 : Int))], [], 0⟩ hX (by kernel_rfl) allNil ?_
    have hr := of_some hr
    subst hr
    exact HT.ret (qThenR ⟨[iV (0 : Int)], [], [], by kernel_rfl, by kernel_rfl, rfl, by kernel_rfl, by kernel_rfl, trivial⟩)
  · refine HT.cond0 rfl hb1 ?_
    refine HT.skip (qThen ?_)
    refine HT.seq ?_
    refine HT.rg2 (oHs 4) ⟨[(0, .one (.dat (.sl (.int .u8)) a0)), (1, iV a1), (2, iV a2), (12, bV (decide (a1 < (lenI a0))))], [], 0⟩ hX (by kernel_rfl) allNil ?_
    rcases of_bif hr with ⟨hb2, hr⟩ | ⟨hb2, hr⟩
    · refine HT.cond1 rfl hb2 ?_
      obtain ⟨hg3, hr⟩ := of_guard hr
      obtain ⟨hg4, hr⟩ := of_guard hr
      refine HT.rg2 (oHs 8) ⟨[(6, iV (Int.tmod (IntKind.wrap .i64 (List.getD a0 (Int.toNat a1) (0 : Int))) a2))], [], 0⟩ hX (by kernel_rfl) (allCons hg3 (allCons hg4 allNil)) ?_
      have hr := of_some hr
      subst hr
      exact HT.ret (qThenR ⟨[iV (Int.tmod (IntKind.wrap .i64 (List.getD a0 (Int.toNat a1) (0 : Int))) a2)], [], [], by kernel_rfl, by kernel_rfl, rfl, by kernel_rfl, by kernel_rfl, trivial⟩)
    · refine HT.cond0 rfl hb2 ?_
      refine HT.skip (qThen ?_)
      obtain ⟨hg5, hr⟩ := of_guard hr
      refine HT.rg2 (oHs 6) ⟨[(6, iV (Int.tmod (wadd .i64 (wmul .i64 a1 (37 : Int)) (11 : Int)) a2))], [], 0⟩ hX (by kernel_rfl) (allCons hg5 allNil) ?_
      have hr := of_some hr
      subst hr
      exact HT.ret ⟨[iV (Int.tmod (wadd .i64 (wmul .i64 a1 (37 : Int)) (11 : Int)) a2)], [], [], by kernel_rfl, by kernel_rfl, rfl, by kernel_rfl, by kernel_rfl, trivial⟩

noncomputable def spec_l00From (a0 : List Int) : Option ((List Int × Int × Int)) :=
  some (a0, (0 : Int), (0 : Int))

theorem f93_ok {a0 : List Int} {r : (List Int × Int × Int)} (hr : spec_l00From a0 = some r) : CallOK Try.prog 93 [.imm (.sl (.int .u8)) a0] [⟨true, (.bx (.st (.pair (.sl (.int .u8)) (.pair tI (.int .u64))))), [r]⟩] [] := by
  unfold spec_l00From at hr
  refine CallOK.of_body (ts := [(true, (.bx (.st (.pair (.sl (.int .u8)) (.pair tI (.int .u64))))))]) Try.func93 rfl (by kernel_rfl) (Nat.le_of_ble_eq_true (by kernel_rfl)) fun cx hP hN hO hF => ?_
  have hO : cx.own.map Prod.fst = [] := hO
  have hX := CxIs.mk hP hN hO
  have hF := hF rfl
  show HT cx ⟨[(0, .one (.dat (.sl (.int .u8)) a0))], [], 0⟩ _ _
  refine HT.rg2 [oH] ⟨[(0, .one (.dat (.sl (.int .u8)) a0))], [], 0⟩ hX (by kernel_rfl) allNil ?_
  refine HT.rg2 [oH, oH, ⟨none, .ty (.st (.pair (.sl (.int .u8)) (.pair tI (.int .u64))))⟩, oH] ⟨[(2, .one (.elp 0 0 3 0))], [(0, .seq (.st (.pair (.sl (.int .u8)) (.pair tI (.int .u64)))) ([(a0, (0 : Int), (0 : Int))]))], 1⟩ hX (by kernel_rfl) allNil ?_
  have hr := of_some hr
  subst hr
  exact HT.ret ⟨[.one (.elp 0 0 3 0)], [0], [], by kernel_rfl, by kernel_rfl, rfl, by kernel_rfl, by kernel_rfl, trivial⟩

noncomputable def spec_l00In (a0 : Int) (a1 : Int) (a2 : Int) : Option (Bool) :=
  (show Option (Bool) from
    bif (decide (a0 ≥ a1)) then
      some (decide (a0 ≤ a2))
    else
      some false).bind fun v1 =>
  some v1

theorem f114_ok {a0 : Int} {a1 : Int} {a2 : Int} {r : Bool} (hr : spec_l00In a0 a1 a2 = some r) : CallOK Try.prog 114 [.imm tI a0, .imm tI a1, .imm tI a2] [⟨false, .bool, r⟩] [] := by
  unfold spec_l00In at hr
  refine CallOK.of_body (ts := [(false, .bool)]) Try.func114 rfl (by kernel_rfl) (Nat.le_of_ble_eq_true (by kernel_rfl)) fun cx hP hN hO hF => ?_
  have hO : cx.own.map Prod.fst = [] := hO
  have hX := CxIs.mk hP hN hO
  have hF := hF rfl
  show HT cx ⟨[(0, iV a0), (1, iV a1), (2, iV a2)], [], 0⟩ _ _
  refine HT.rg2 [oH] ⟨[(0, iV a0), (1, iV a1), (2, iV a2)], [], 0⟩ hX (by kernel_rfl) allNil ?_
  obtain ⟨v1', hT3, hr⟩ := of_bind hr
  refine HT.join (fun (v1 : Bool) => ⟨[(6, bV v1)], [], 0⟩) (fun v => v = v1') (fun v1 hv2 => ?_) (fun cont => ?_)
  · subst hv2
    have hr := of_some hr
    subst hr
    exact HT.ret ⟨[bV v1], [], [], by kernel_rfl, by kernel_rfl, rfl, by kernel_rfl, by kernel_rfl, trivial⟩
  · rcases of_bif hT3 with ⟨hb4, hT3⟩ | ⟨hb4, hT3⟩
    · exact HT.rgK [oH, oH, oH, oH, ⟨some true, .no⟩, ⟨some true, .no⟩, ⟨some true, .no⟩, ⟨none, .tv true⟩, oH] [] [] hX (by kernel_rfl) (allCons hb4 (allCons hb4 (allCons hb4 (allCons hb4 allNil)))) (fun _ h => (qThen (h.ht (cont (decide (a0 ≤ a2)) (of_some hT3)))))
    · exact HT.rgK [oH, oH, oH, oH, ⟨some false, .no⟩, ⟨some false, .no⟩, ⟨some false, .no⟩, ⟨none, .tv false⟩, oH] [] [] hX (by kernel_rfl) (allCons hb4 (allCons hb4 (allCons hb4 (allCons hb4 allNil)))) (fun _ h => (qThen (h.ht (cont false (of_some hT3)))))

noncomputable def spec_WholeZone_B1 (a0 : Int) (s4 : Int × List Int) (s11 : Int × List Int) : Option ((Int × List Int) ⊕ (List Int)) :=
  bif (decide (s11.1 ≤ a0)) then
    (show Option (Int) from
      (show Option (Bool) from
        bif (s4.1 == (0 : Int)) then
          some true
        else
          some (s4.1 == s11.1)).bind fun v22 =>
      bif v22 then
        some (0 : Int)
      else
        some (1000000000 : Int)).bind fun v18 =>
    guardP (List.length s11.2 + List.length ([v18] : List Int) ≤ appMax) (
      some (.inl ((wadd .i64 s11.1 (1 : Int)), (s11.2 ++ ([v18] : List Int)))))
  else
    some (.inr s11.2)

noncomputable def spec_WholeZone_B2 (a0 : Int) (s4 : Int × List Int) : Option ((Int × List Int) ⊕ (List Int)) :=
  bif (decide (s4.1 ≤ a0)) then
    (rounds (spec_WholeZone_B1 a0 s4) ((0 : Int), s4.2)).bind fun r13 =>
    some (.inl ((wadd .i64 s4.1 (1 : Int)), r13))
  else
    some (.inr s4.2)

noncomputable def spec_WholeZone (a0 : Int) : Option ((Int × List Int) × Bool) :=
  (spec_l00In a0 (1 : Int) (4 : Int)).bind fun y1 =>
  bif (!y1) then
    some (((0 : Int), ([] : List Int)), false)
  else
    (rounds (spec_WholeZone_B2 a0) ((0 : Int), ([] : List Int))).bind fun r6 =>
    some ((a0, r6), true)

theorem f196_ok {a0 : Int} {r : (Int × List Int) × Bool} (hr : spec_WholeZone a0 = some r) : CallOK Try.prog 196 [.imm tI a0] [⟨true, (.st (.pair tI tLI)), r.1⟩, ⟨false, .bool, r.2⟩] [] := by
  unfold spec_WholeZone at hr
  refine CallOK.of_body (ts := [(true, (.st (.pair tI tLI))), (false, .bool)]) Try.func196 rfl (by kernel_rfl) (Nat.le_of_ble_eq_true (by kernel_rfl)) fun cx hP hN hO hF => ?_
  have hO : cx.own.map Prod.fst = [] := hO
  have hX := CxIs.mk hP hN hO
  have hF := hF rfl
  show HT cx ⟨[(0, iV a0)], [], 0⟩ _ _
  refine HT.rg2 (oHs 2) ⟨[(0, iV a0), (2, pV 0 0)], [(0, .box [iC (0 : Int), .nilS])], 1⟩ hX (by kernel_rfl) allNil ?_
  refine HT.seq ?_
  obtain ⟨y1, hc2, hr⟩ := of_bind hr
  refine HT.rg2 [oH, ⟨none, .call [.imm tI, .imm tI, .imm tI] [⟨false, .bool, y1⟩] []⟩, oH] ⟨[(0, iV a0), (2, pV 0 0), (10, bV (!y1))], [(0, .box [iC (0 : Int), .nilS])], 1⟩ hX (by kernel_rfl) (allCons (f114_ok hc2) allNil) ?_
  rcases of_bif hr with ⟨hb3, hr⟩ | ⟨hb3, hr⟩
  · refine HT.cond1 rfl hb3 ?_
    refine HT.rg2 (oHs 3) ⟨[(2, pV 0 0), (3, bV false)], [(0, .box [iC (0 : Int), .nilS])], 1⟩ hX (by kernel_rfl) allNil ?_
    have hr := of_some hr
    subst hr
    exact HT.ret (qThenR ⟨[.agg [iC (0 : Int), .nilS], bV false], [], [], by kernel_rfl, by kernel_rfl, rfl, by kernel_rfl, by kernel_rfl, trivial⟩)
  · refine HT.cond0 rfl hb3 ?_
    refine HT.skip (qThen ?_)
    refine HT.rg2 (oHs 4) ⟨[(0, iV a0), (2, pV 0 0), (4, pV 1 0)], [(1, .box [iC a0, .nilS]), (0, .box [iC (0 : Int), .nilS])], 2⟩ hX (by kernel_rfl) allNil ?_
    refine HT.seq ?_
    refine HT.rg2 [oH] ⟨[(0, iV a0), (2, pV 0 0), (4, pV 1 0), (5, iV (0 : Int))], [(1, .box [iC a0, .nilS]), (0, .box [iC (0 : Int), .nilS])], 2⟩ hX (by kernel_rfl) allNil ?_
    refine HT.block ?_
    obtain ⟨r5, hL28, hr⟩ := of_bind hr
    refine HT.loopL (fun (s4 : Int × List Int) => ⟨[(0, iV a0), (2, pV 0 0), (4, pV 1 0), (5, iV s4.1)], [(0, .box [iC (0 : Int), .nilS]), (1, .box [iC a0, .all 2]), (2, .seq tI s4.2)], 3⟩) (fun (r6 : List Int) => (.exit 0, ⟨[(2, pV 0 0), (4, pV 1 0)], [(0, .box [iC (0 : Int), .nilS]), (1, .box [iC a0, .all 2]), (2, .seq tI r6)], 3⟩)) (Le.re [(0, 0), (1, 1)] [2] hX (by kernel_rfl)) hL28 ?_ (fun s4 x7 hx8 hk9 => ?_)
    · refine (qBlockX (qThen ?_))
      refine HT.rg2 (oHs 3) ⟨[(2, pV 0 0), (3, bV true)], [(0, .box [iC a0, .all 2]), (2, .seq tI r5)], 3⟩ hX (by kernel_rfl) allNil ?_
      have hr := of_some hr
      subst hr
      exact HT.ret ⟨[.agg [iC a0, .all 2], bV true], [2], [], by kernel_rfl, by kernel_rfl, rfl, by kernel_rfl, by kernel_rfl, trivial⟩
    · refine HT.seq ?_
      refine HT.rg2 (oHs 3) ⟨[(0, iV a0), (2, pV 0 0), (4, pV 1 0), (5, iV s4.1), (16, bV (decide (s4.1 ≤ a0)))], [(0, .box [iC (0 : Int), .nilS]), (1, .box [iC a0, .all 2]), (2, .seq tI s4.2)], 3⟩ hX (by kernel_rfl) allNil ?_
      rcases of_bif hx8 with ⟨hb10, hx8⟩ | ⟨hb10, hx8⟩
      · refine HT.cond1 rfl hb10 ?_
        refine HT.skip (qThen ?_)
        refine HT.seq ?_
        refine HT.block ?_
        refine HT.rg2 [oH] ⟨[(0, iV a0), (2, pV 0 0), (4, pV 1 0), (5, iV s4.1), (6, iV (0 : Int))], [(0, .box [iC (0 : Int), .nilS]), (1, .box [iC a0, .all 2]), (2, .seq tI s4.2)], 3⟩ hX (by kernel_rfl) allNil ?_
        refine HT.block ?_
        obtain ⟨r12, hL27, hx8⟩ := of_bind hx8
        refine HT.loopL (fun (s11 : Int × List Int) => ⟨[(0, iV a0), (2, pV 0 0), (4, pV 1 0), (5, iV s4.1), (6, iV s11.1)], [(0, .box [iC (0 : Int), .nilS]), (1, .box [iC a0, .all 2]), (2, .seq tI s11.2)], 3⟩) (fun (r13 : List Int) => (.exit 2, ⟨[(0, iV a0), (2, pV 0 0), (4, pV 1 0), (5, iV s4.1)], [(0, .box [iC (0 : Int), .nilS]), (1, .box [iC a0, .all 2]), (2, .seq tI r13)], 3⟩)) (Le.re [(0, 0), (1, 1), (2, 2)] [] hX (by kernel_rfl)) hL27 ?_ (fun s11 x14 hx15 hk16 => ?_)
        · refine (qBlockX (qBlock (qThen ?_)))
          have hx8 := of_some hx8
          subst hx8
          exact HT.rgK (oHs 3) [(0, 0), (1, 1), (2, 2)] [] hX (by kernel_rfl) allNil (fun _ h => (qLoopN ⟨((wadd .i64 s4.1 (1 : Int)), r12), rfl, h⟩))
        · refine HT.seq ?_
          refine HT.rg2 (oHs 3) ⟨[(0, iV a0), (2, pV 0 0), (4, pV 1 0), (5, iV s4.1), (6, iV s11.1), (21, bV (decide (s11.1 ≤ a0)))], [(0, .box [iC (0 : Int), .nilS]), (1, .box [iC a0, .all 2]), (2, .seq tI s11.2)], 3⟩ hX (by kernel_rfl) allNil ?_
          rcases of_bif hx15 with ⟨hb17, hx15⟩ | ⟨hb17, hx15⟩
          · refine HT.cond1 rfl hb17 ?_
            refine HT.skip (qThen ?_)
            refine HT.seq ?_
            refine HT.block ?_
            refine HT.rg2 [oH] ⟨[(0, iV a0), (2, pV 0 0), (4, pV 1 0), (5, iV s4.1), (6, iV s11.1), (7, iV (1000000000 : Int))], [(0, .box [iC (0 : Int), .nilS]), (1, .box [iC a0, .all 2]), (2, .seq tI s11.2)], 3⟩ hX (by kernel_rfl) allNil ?_
            obtain ⟨v18', hT20, hx15⟩ := of_bind hx15
            refine HT.join (fun (v18 : Int) => ⟨[(0, iV a0), (2, pV 0 0), (4, pV 1 0), (5, iV s4.1), (6, iV s11.1), (7, iV v18)], [(0, .box [iC (0 : Int), .nilS]), (1, .box [iC a0, .all 2]), (2, .seq tI s11.2)], 3⟩) (fun v => v = v18') (fun v18 hv19 => ?_) (fun cont => ?_)
            · subst hv19
              obtain ⟨hg21, hx15⟩ := of_guard hx15
              refine HT.rgL [oH, oH, oH, ⟨none, .ty tI⟩, ⟨none, .ty tI⟩, oH, oH] ⟨[(0, iV a0), (2, pV 0 0), (4, pV 1 0), (5, iV s4.1), (6, iV s11.1)], [(1, .box [iC a0, .all 4]), (4, .seq tI (s11.2 ++ ([v18] : List Int))), (0, .box [iC (0 : Int), .nilS])], 5⟩ hX (by kernel_rfl) (allCons hg21 allNil) (qBlock (qThen ?_))
              have hx15 := of_some hx15
              subst hx15
              exact HT.rgK (oHs 3) [(0, 0), (1, 1), (4, 2)] [] hX (by kernel_rfl) allNil (fun _ h => (qLoopN ⟨((wadd .i64 s11.1 (1 : Int)), (s11.2 ++ ([v18] : List Int))), rfl, h⟩))
            · obtain ⟨v22', hT24, hT20⟩ := of_bind hT20
              refine HT.join (fun (v22 : Bool) => ⟨[(0, iV a0), (2, pV 0 0), (4, pV 1 0), (5, iV s4.1), (6, iV s11.1), (7, iV (1000000000 : Int)), (30, bV v22)], [(0, .box [iC (0 : Int), .nilS]), (1, .box [iC a0, .all 2]), (2, .seq tI s11.2)], 3⟩) (fun v => v = v22') (fun v22 hv23 => ?_) (fun cont => ?_)
              · subst hv23
                rcases of_bif hT20 with ⟨hb25, hT20⟩ | ⟨hb25, hT20⟩
                · refine HT.cond1 rfl hb25 ?_
                  exact HT.rgK [oH] [(0, 0), (1, 1), (2, 2)] [] hX (by kernel_rfl) allNil (fun _ h => (qThen (h.ht (cont (0 : Int) (of_some hT20)))))
                · refine HT.cond0 rfl hb25 ?_
                  refine HT.skip (qThen ?_)
                  exact (Le.re [(0, 0), (1, 1), (2, 2)] [] hX (by kernel_rfl)).ht (cont (1000000000 : Int) (of_some hT20))
              · rcases of_bif hT24 with ⟨hb26, hT24⟩ | ⟨hb26, hT24⟩
                · exact HT.rgK [oH, oH, oH, ⟨some true, .no⟩, ⟨some true, .no⟩, ⟨some true, .no⟩, ⟨none, .tv true⟩] [(0, 0), (1, 1), (2, 2)] [] hX (by kernel_rfl) (allCons hb26 (allCons hb26 (allCons hb26 (allCons hb26 allNil)))) (fun _ h => (qThen (h.ht (cont true (of_some hT24)))))
                · exact HT.rgK [oH, oH, oH, ⟨some false, .no⟩, ⟨some false, .no⟩, ⟨some false, .no⟩, ⟨none, .tv false⟩] [(0, 0), (1, 1), (2, 2)] [] hX (by kernel_rfl) (allCons hb26 (allCons hb26 (allCons hb26 (allCons hb26 allNil)))) (fun _ h => (qThen (h.ht (cont (s4.1 == s11.1) (of_some hT24)))))
          · refine HT.cond0 rfl hb17 ?_
            have hx15 := of_some hx15
            subst hx15
            exact HT.exitL (Le.re [(0, 0), (1, 1), (2, 2)] [] hX (by kernel_rfl)) (qThenE (qLoopE (hk16 s11.2 rfl)))
      · refine HT.cond0 rfl hb10 ?_
        have hx8 := of_some hx8
        subst hx8
        exact HT.exitL (Le.re [(0, 0), (1, 1), (2, 2)] [] hX (by kernel_rfl)) (qThenE (qLoopE (hk9 s4.2 rfl)))

noncomputable def spec_l00Src_next (a0 : List Int × Int × Int) : Option (Int × (List Int × Int × Int)) :=
  (show Option (Int) from
    bif (decide (a0.2.1 < (lenI a0.1))) then
      guardP ((0 : Int) ≤ a0.2.1 ∧ a0.2.1 < lenI a0.1) (
        some (IntKind.wrap .i64 (List.getD a0.1 (Int.toNat a0.2.1) (0 : Int))))
    else
      some (0 : Int)).bind fun v1 =>
  bif (decide ((wadd .i64 a0.2.1 (1 : Int)) ≤ (lenI a0.1))) then
    some (v1, a0.1, (wadd .i64 a0.2.1 (1 : Int)), (wadd .u64 (wadd .u64 (wmul .u64 a0.2.2 (6364136223846793005 : Int)) (IntKind.wrap .u64 v1)) (1442695040888963407 : Int)))
  else
    (some (IntKind.wrap .i64 (IntKind.wrap .u64 (BitVec.ofInt (IntKind.bits .u64) (Int.fdiv (wadd .u64 (wadd .u64 (wmul .u64 a0.2.2 (6364136223846793005 : Int)) (IntKind.wrap .u64 v1)) (1442695040888963407 : Int)) (2 ^ (min (Int.toNat (40 : Int)) (IntKind.bits .u64)))) &&& BitVec.ofInt (IntKind.bits .u64) (255 : Int)).toNat))).bind fun q5 =>
    some (q5, a0.1, (wadd .i64 a0.2.1 (1 : Int)), (wadd .u64 (wadd .u64 (wmul .u64 a0.2.2 (6364136223846793005 : Int)) (IntKind.wrap .u64 v1)) (1442695040888963407 : Int)))

theorem f192_ok {a0 : List Int × Int × Int} {r : Int × (List Int × Int × Int)} (hr : spec_l00Src_next a0 = some r) : CallOK Try.prog 192 [.own (.bx (.st (.pair (.sl (.int .u8)) (.pair tI (.int .u64))))) [a0]] [⟨false, tI, r.1⟩] [⟨(.bx (.st (.pair (.sl (.int .u8)) (.pair tI (.int .u64))))), [r.2]⟩] := by
  unfold spec_l00Src_next at hr
  refine CallOK.of_body (ts := [(false, tI)]) Try.func192 rfl (by kernel_rfl) (Nat.le_of_ble_eq_true (by kernel_rfl)) fun cx hP hN hO hF => ?_
  have hO : cx.own.map Prod.fst = [0] := hO
  have hX := CxIs.mk hP hN hO
  have hF := hF rfl
  show HT cx ⟨[(0, .one (.elp 0 0 3 0))], [(0, .seq (.st (.pair (.sl (.int .u8)) (.pair tI (.int .u64)))) ([a0]))], 1⟩ _ _
  refine HT.rg2 [oH] ⟨[(0, .one (.elp 0 0 3 0))], [(0, .seq (.st (.pair (.sl (.int .u8)) (.pair tI (.int .u64)))) ([a0]))], 1⟩ hX (by kernel_rfl) allNil ?_
  refine HT.rg2 [oH] ⟨[(0, .one (.elp 0 0 3 0)), (3, iV (0 : Int))], [(0, .seq (.st (.pair (.sl (.int .u8)) (.pair tI (.int .u64)))) ([a0]))], 1⟩ hX (by kernel_rfl) allNil ?_
  obtain ⟨v1', hT3, hr⟩ := of_bind hr
  refine HT.join (fun (v1 : Int) => ⟨[(0, .one (.elp 0 0 3 0)), (3, iV v1)], [(0, .seq (.st (.pair (.sl (.int .u8)) (.pair tI (.int .u64)))) ([a0]))], 1⟩) (fun v => v = v1') (fun v1 hv2 => ?_) (fun cont => ?_)
  · subst hv2
    refine HT.rg2 (oHs 8) ⟨[(0, .one (.elp 0 0 3 0)), (3, iV v1)], [(0, .seq (.st (.pair (.sl (.int .u8)) (.pair tI (.int .u64)))) ([(a0.1, (wadd .i64 a0.2.1 (1 : Int)), a0.2.2)]))], 1⟩ hX (by kernel_rfl) (allCons (show 0 < List.length [a0] from Nat.zero_lt_one) (allCons (show 0 < List.length [a0] from Nat.zero_lt_one) allNil)) ?_
    refine HT.rg2 (oHs 13) ⟨[(0, .one (.elp 0 0 3 0)), (3, iV v1)], [(0, .seq (.st (.pair (.sl (.int .u8)) (.pair tI (.int .u64)))) ([(a0.1, (wadd .i64 a0.2.1 (1 : Int)), (wadd .u64 (wadd .u64 (wmul .u64 a0.2.2 (6364136223846793005 : Int)) (IntKind.wrap .u64 v1)) (1442695040888963407 : Int)))]))], 1⟩ hX (by kernel_rfl) (allCons (show 0 < List.length [(a0.1, (wadd .i64 a0.2.1 (1 : Int)), a0.2.2)] from Nat.zero_lt_one) (allCons (show 0 < List.length [(a0.1, (wadd .i64 a0.2.1 (1 : Int)), a0.2.2)] from Nat.zero_lt_one) allNil)) ?_
    refine HT.seq ?_
    refine HT.dr2 9 [⟨oH, []⟩, ⟨oH, [0]⟩, ⟨oH, [0, 1]⟩, ⟨oH, [0, 1, 2]⟩, ⟨oH, []⟩, ⟨oH, [4]⟩, ⟨oH, [4, 5]⟩, ⟨oH, [4, 5, 6]⟩, ⟨oH, [4, 5, 6, 7]⟩] [[0, 1, 2, 3, 4, 5, 6, 7, 8]] [oH] ⟨[(0, .one (.elp 0 0 3 0)), (3, iV v1), (53, bV (decide ((wadd .i64 a0.2.1 (1 : Int)) ≤ (lenI a0.1))))], [(0, .seq (.st (.pair (.sl (.int .u8)) (.pair tI (.int .u64)))) ([(a0.1, (wadd .i64 a0.2.1 (1 : Int)), (wadd .u64 (wadd .u64 (wmul .u64 a0.2.2 (6364136223846793005 : Int)) (IntKind.wrap .u64 v1)) (1442695040888963407 : Int)))]))], 1⟩ hX (by kernel_rfl) (by kernel_rfl) (allCons (show 0 < List.length [(a0.1, (wadd .i64 a0.2.1 (1 : Int)), (wadd .u64 (wadd .u64 (wmul .u64 a0.2.2 (6364136223846793005 : Int)) (IntKind.wrap .u64 v1)) (1442695040888963407 : Int)))] from Nat.zero_lt_one) (allCons (show 0 < List.length [(a0.1, (wadd .i64 a0.2.1 (1 : Int)), (wadd .u64 (wadd .u64 (wmul .u64 a0.2.2 (6364136223846793005 : Int)) (IntKind.wrap .u64 v1)) (1442695040888963407 : Int)))] from Nat.zero_lt_one) allNil)) ?_
    rcases of_bif hr with ⟨hb4, hr⟩ | ⟨hb4, hr⟩
    · refine HT.cond1 rfl hb4 ?_
      refine HT.rg2 (oHs 2) ⟨[(2, iV v1)], [(0, .seq (.st (.pair (.sl (.int .u8)) (.pair tI (.int .u64)))) ([(a0.1, (wadd .i64 a0.2.1 (1 : Int)), (wadd .u64 (wadd .u64 (wmul .u64 a0.2.2 (6364136223846793005 : Int)) (IntKind.wrap .u64 v1)) (1442695040888963407 : Int)))]))], 1⟩ hX (by kernel_rfl) allNil ?_
      have hr := of_some hr
      subst hr
      exact HT.ret (qThenR ⟨[iV v1], [], [List.length ([(a0.1, (wadd .i64 a0.2.1 (1 : Int)), (wadd .u64 (wadd .u64 (wmul .u64 a0.2.2 (6364136223846793005 : Int)) (IntKind.wrap .u64 v1)) (1442695040888963407 : Int)))]) = List.length [a0]], by kernel_rfl, by kernel_rfl, rfl, by kernel_rfl, by kernel_rfl, ⟨(show List.length ([(a0.1, (wadd .i64 a0.2.1 (1 : Int)), (wadd .u64 (wadd .u64 (wmul .u64 a0.2.2 (6364136223846793005 : Int)) (IntKind.wrap .u64 v1)) (1442695040888963407 : Int)))]) = List.length [a0] from rfl), trivial⟩⟩)
    · refine HT.cond0 rfl hb4 ?_
      refine HT.skip (qThen ?_)
      refine HT.rg2 (oHs 8) ⟨[(2, iV (IntKind.wrap .i64 (IntKind.wrap .u64 (BitVec.ofInt (IntKind.bits .u64) (Int.fdiv (wadd .u64 (wadd .u64 (wmul .u64 a0.2.2 (6364136223846793005 : Int)) (IntKind.wrap .u64 v1)) (1442695040888963407 : Int)) (2 ^ (min (Int.toNat (40 : Int)) (IntKind.bits .u64)))) &&& BitVec.ofInt (IntKind.bits .u64) (255 : Int)).toNat)))], [(0, .seq (.st (.pair (.sl (.int .u8)) (.pair tI (.int .u64)))) ([(a0.1, (wadd .i64 a0.2.1 (1 : Int)), (wadd .u64 (wadd .u64 (wmul .u64 a0.2.2 (6364136223846793005 : Int)) (IntKind.wrap .u64 v1)) (1442695040888963407 : Int)))]))], 1⟩ hX (by kernel_rfl) (allCons (show 0 < List.length [(a0.1, (wadd .i64 a0.2.1 (1 : Int)), (wadd .u64 (wadd .u64 (wmul .u64 a0.2.2 (6364136223846793005 : Int)) (IntKind.wrap .u64 v1)) (1442695040888963407 : Int)))] from Nat.zero_lt_one) (allCons (show (0 : Int) ≤ (40 : Int) from by decide) allNil)) ?_
      obtain ⟨q5, hq6, hr⟩ := of_bind hr
      have hq6 := of_some2 hq6
      refine (Le.cv (s := ⟨[(0, 0)], [], [], false⟩) (own := [0]) (ps := [q5 = (IntKind.wrap .i64 (IntKind.wrap .u64 (BitVec.ofInt (IntKind.bits .u64) (Int.fdiv (wadd .u64 (wadd .u64 (wmul .u64 a0.2.2 (6364136223846793005 : Int)) (IntKind.wrap .u64 v1)) (1442695040888963407 : Int)) (2 ^ (min (Int.toNat (40 : Int)) (IntKind.bits .u64)))) &&& BitVec.ofInt (IntKind.bits .u64) (255 : Int)).toNat)), [(a0.1, (wadd .i64 a0.2.1 (1 : Int)), (wadd .u64 (wadd .u64 (wmul .u64 a0.2.2 (6364136223846793005 : Int)) (IntKind.wrap .u64 v1)) (1442695040888963407 : Int)))] = [(a0.1, (wadd .i64 a0.2.1 (1 : Int)), (wadd .u64 (wadd .u64 (wmul .u64 a0.2.2 (6364136223846793005 : Int)) (IntKind.wrap .u64 v1)) (1442695040888963407 : Int)))]]) (st' := ⟨[(2, iV q5)], [(0, .seq (.st (.pair (.sl (.int .u8)) (.pair tI (.int .u64)))) ([(a0.1, (wadd .i64 a0.2.1 (1 : Int)), (wadd .u64 (wadd .u64 (wmul .u64 a0.2.2 (6364136223846793005 : Int)) (IntKind.wrap .u64 v1)) (1442695040888963407 : Int)))]))], 1⟩) hO (fun h => by cases h) (by kernel_rfl) ⟨hq6, rfl, trivial⟩).ht ?_
      have hr := of_some hr
      subst hr
      exact HT.ret ⟨[iV q5], [], [List.length ([(a0.1, (wadd .i64 a0.2.1 (1 : Int)), (wadd .u64 (wadd .u64 (wmul .u64 a0.2.2 (6364136223846793005 : Int)) (IntKind.wrap .u64 v1)) (1442695040888963407 : Int)))]) = List.length [a0]], by kernel_rfl, by kernel_rfl, rfl, by kernel_rfl, by kernel_rfl, ⟨(show List.length ([(a0.1, (wadd .i64 a0.2.1 (1 : Int)), (wadd .u64 (wadd .u64 (wmul .u64 a0.2.2 (6364136223846793005 : Int)) (IntKind.wrap .u64 v1)) (1442695040888963407 : Int)))]) = List.length [a0] from rfl), trivial⟩⟩
  · refine HT.dr2 9 [⟨oH, []⟩, ⟨oH, [0]⟩, ⟨oH, [0, 1]⟩, ⟨oH, [0, 1, 2]⟩, ⟨oH, []⟩, ⟨oH, [4]⟩, ⟨oH, [4, 5]⟩, ⟨oH, [4, 5, 6]⟩, ⟨oH, [4, 5, 6, 7]⟩] [[0, 1, 2, 3, 4, 5, 6, 7, 8]] [oH] ⟨[(0, .one (.elp 0 0 3 0)), (3, iV (0 : Int)), (13, bV (decide (a0.2.1 < (lenI a0.1))))], [(0, .seq (.st (.pair (.sl (.int .u8)) (.pair tI (.int .u64)))) ([a0]))], 1⟩ hX (by kernel_rfl) (by kernel_rfl) (allCons (show 0 < List.length [a0] from Nat.zero_lt_one) (allCons (show 0 < List.length [a0] from Nat.zero_lt_one) allNil)) ?_
    rcases of_bif hT3 with ⟨hb7, hT3⟩ | ⟨hb7, hT3⟩
    · refine HT.cond1 rfl hb7 ?_
      obtain ⟨hg8, hT3⟩ := of_guard hT3
      exact HT.drK 8 [⟨oH, []⟩, ⟨oH, [0]⟩, ⟨oH, [0, 1]⟩, ⟨oH, [0, 1, 2]⟩, ⟨oH, []⟩, ⟨oH, [4]⟩, ⟨oH, [4, 5]⟩, ⟨oH, [4, 5, 6]⟩] [[0, 1, 2, 3, 4, 5, 6, 7], [0, 1, 2, 3, 4, 5, 6, 7, 8], [0, 1, 2, 3, 4, 5, 6, 7, 8, 9], [0, 1, 2, 3, 4, 5, 6, 7, 8, 9, 10]] (oHs 4) [(0, 0)] [] hX (by kernel_rfl) (by kernel_rfl) (allCons (show 0 < List.length [a0] from Nat.zero_lt_one) (allCons (show 0 < List.length [a0] from Nat.zero_lt_one) (allCons hg8 allNil))) (fun _ h => (qThen (h.ht (cont (IntKind.wrap .i64 (List.getD a0.1 (Int.toNat a0.2.1) (0 : Int))) (of_some hT3)))))
    · refine HT.cond0 rfl hb7 ?_
      refine HT.skip (qThen ?_)
      exact (Le.re [(0, 0)] [] hX (by kernel_rfl)).ht (cont (0 : Int) (of_some hT3))

noncomputable def spec_l00Src_pick (a0 : List Int × Int × Int) (a1 : Int) : Option (Int × (List Int × Int × Int)) :=
  bif (decide (a1 ≤ (1 : Int))) then
    some ((0 : Int), a0)
  else
    (spec_l00Src_next a0).bind fun y2 =>
    (show Option (Int × (List Int × Int × Int)) from
      bif (decide (a1 > (200 : Int))) then
        (spec_l00Src_next y2.2).bind fun y9 =>
        some ((wadd .i64 (wmul .i64 y2.1 (256 : Int)) y9.1), y9.2)
      else
        some (y2.1, y2.2)).bind fun v4 =>
    guardP (a1 ≠ 0) (
      some ((Int.tmod v4.1 a1), v4.2))

theorem f94_ok {a0 : List Int × Int × Int} {a1 : Int} {r : Int × (List Int × Int × Int)} (hr : spec_l00Src_pick a0 a1 = some r) : CallOK Try.prog 94 [.own (.bx (.st (.pair (.sl (.int .u8)) (.pair tI (.int .u64))))) [a0], .imm tI a1] [⟨false, tI, r.1⟩] [⟨(.bx (.st (.pair (.sl (.int .u8)) (.pair tI (.int .u64))))), [r.2]⟩] := by
  unfold spec_l00Src_pick at hr
  refine CallOK.of_body (ts := [(false, tI)]) Try.func94 rfl (by kernel_rfl) (Nat.le_of_ble_eq_true (by kernel_rfl)) fun cx hP hN hO hF => ?_
  have hO : cx.own.map Prod.fst = [0] := hO
  have hX := CxIs.mk hP hN hO
  have hF := hF rfl
  show HT cx ⟨[(0, .one (.elp 0 0 3 0)), (1, iV a1)], [(0, .seq (.st (.pair (.sl (.int .u8)) (.pair tI (.int .u64)))) ([a0]))], 1⟩ _ _
  refine HT.rg2 [oH] ⟨[(0, .one (.elp 0 0 3 0)), (1, iV a1)], [(0, .seq (.st (.pair (.sl (.int .u8)) (.pair tI (.int .u64)))) ([a0]))], 1⟩ hX (by kernel_rfl) allNil ?_
  refine HT.seq ?_
  refine HT.rg2 (oHs 2) ⟨[(0, .one (.elp 0 0 3 0)), (1, iV a1), (7, bV (decide (a1 ≤ (1 : Int))))], [(0, .seq (.st (.pair (.sl (.int .u8)) (.pair tI (.int .u64)))) ([a0]))], 1⟩ hX (by kernel_rfl) allNil ?_
  rcases of_bif hr with ⟨hb1, hr⟩ | ⟨hb1, hr⟩
  · refine HT.cond1 rfl hb1 ?_
    refine HT.rg2 [oH] ⟨[(4, iV (0 : Int))], [(0, .seq (.st (.pair (.sl (.int .u8)) (.pair tI (.int .u64)))) ([a0]))], 1⟩ hX (by kernel_rfl) allNil ?_
    have hr := of_some hr
    subst hr
    exact HT.ret (qThenR ⟨[iV (0 : Int)], [], [List.length ([a0]) = List.length [a0]], by kernel_rfl, by kernel_rfl, rfl, by kernel_rfl, by kernel_rfl, ⟨(show List.length ([a0]) = List.length [a0] from rfl), trivial⟩⟩)
  · refine HT.cond0 rfl hb1 ?_
    refine HT.skip (qThen ?_)
    obtain ⟨y2, hc3, hr⟩ := of_bind hr
    refine HT.rg2 [oH, ⟨none, .call [.own (.bx (.st (.pair (.sl (.int .u8)) (.pair tI (.int .u64)))))] [⟨false, tI, y2.1⟩] [⟨(.bx (.st (.pair (.sl (.int .u8)) (.pair tI (.int .u64))))), [y2.2]⟩]⟩, oH] ⟨[(0, .one (.elp 0 0 3 0)), (1, iV a1), (5, iV y2.1)], [(0, .seq (.st (.pair (.sl (.int .u8)) (.pair tI (.int .u64)))) ([y2.2]))], 1⟩ hX (by kernel_rfl) (allCons (f192_ok hc3) allNil) ?_
    obtain ⟨v4', hT6, hr⟩ := of_bind hr
    refine HT.join (fun (v4 : Int × (List Int × Int × Int)) => ⟨[(1, iV a1), (5, iV v4.1)], [(0, .seq (.st (.pair (.sl (.int .u8)) (.pair tI (.int .u64)))) ([v4.2]))], 1⟩) (fun v => v = v4') (fun v4 hv5 => ?_) (fun cont => ?_)
    · subst hv5
      obtain ⟨hg7, hr⟩ := of_guard hr
      refine HT.rg2 (oHs 4) ⟨[(4, iV (Int.tmod v4.1 a1))], [(0, .seq (.st (.pair (.sl (.int .u8)) (.pair tI (.int .u64)))) ([v4.2]))], 1⟩ hX (by kernel_rfl) (allCons hg7 allNil) ?_
      have hr := of_some hr
      subst hr
      exact HT.ret ⟨[iV (Int.tmod v4.1 a1)], [], [List.length ([v4.2]) = List.length [a0]], by kernel_rfl, by kernel_rfl, rfl, by kernel_rfl, by kernel_rfl, ⟨(show List.length ([v4.2]) = List.length [a0] from rfl), trivial⟩⟩
    · refine HT.rg2 (oHs 2) ⟨[(0, .one (.elp 0 0 3 0)), (1, iV a1), (5, iV y2.1), (11, bV (decide (a1 > (200 : Int))))], [(0, .seq (.st (.pair (.sl (.int .u8)) (.pair tI (.int .u64)))) ([y2.2]))], 1⟩ hX (by kernel_rfl) allNil ?_
      rcases of_bif hT6 with ⟨hb8, hT6⟩ | ⟨hb8, hT6⟩
      · refine HT.cond1 rfl hb8 ?_
        obtain ⟨y9, hc10, hT6⟩ := of_bind hT6
        exact HT.rgK [oH, oH, oH, ⟨none, .call [.own (.bx (.st (.pair (.sl (.int .u8)) (.pair tI (.int .u64)))))] [⟨false, tI, y9.1⟩] [⟨(.bx (.st (.pair (.sl (.int .u8)) (.pair tI (.int .u64))))), [y9.2]⟩]⟩, oH, oH] [(0, 0)] [] hX (by kernel_rfl) (allCons (f192_ok hc10) allNil) (fun _ h => (qThen (h.ht (cont ((wadd .i64 (wmul .i64 y2.1 (256 : Int)) y9.1), y9.2) (of_some hT6)))))
      · refine HT.cond0 rfl hb8 ?_
        refine HT.skip (qThen ?_)
        exact (Le.re [(0, 0)] [] hX (by kernel_rfl)).ht (cont (y2.1, y2.2) (of_some hT6))

noncomputable def spec_l00Src_one (a0 : List Int × Int × Int) (a1 : Int) : Option (Bool × (List Int × Int × Int)) :=
  (spec_l00Src_pick a0 a1).bind fun y1 =>
  some ((y1.1 == (0 : Int)), y1.2)

theorem f193_ok {a0 : List Int × Int × Int} {a1 : Int} {r : Bool × (List Int × Int × Int)} (hr : spec_l00Src_one a0 a1 = some r) : CallOK Try.prog 193 [.own (.bx (.st (.pair (.sl (.int .u8)) (.pair tI (.int .u64))))) [a0], .imm tI a1] [⟨false, .bool, r.1⟩] [⟨(.bx (.st (.pair (.sl (.int .u8)) (.pair tI (.int .u64))))), [r.2]⟩] := by
  unfold spec_l00Src_one at hr
  refine CallOK.of_body (ts := [(false, .bool)]) Try.func193 rfl (by kernel_rfl) (Nat.le_of_ble_eq_true (by kernel_rfl)) fun cx hP hN hO hF => ?_
  have hO : cx.own.map Prod.fst = [0] := hO
  have hX := CxIs.mk hP hN hO
  have hF := hF rfl
  show HT cx ⟨[(0, .one (.elp 0 0 3 0)), (1, iV a1)], [(0, .seq (.st (.pair (.sl (.int .u8)) (.pair tI (.int .u64)))) ([a0]))], 1⟩ _ _
  refine HT.rg2 [oH] ⟨[(0, .one (.elp 0 0 3 0)), (1, iV a1)], [(0, .seq (.st (.pair (.sl (.int .u8)) (.pair tI (.int .u64)))) ([a0]))], 1⟩ hX (by kernel_rfl) allNil ?_
  obtain ⟨y1, hc2, hr⟩ := of_bind hr
  refine HT.rg2 [oH, oH, ⟨none, .call [.own (.bx (.st (.pair (.sl (.int .u8)) (.pair tI (.int .u64))))), .imm tI] [⟨false, tI, y1.1⟩] [⟨(.bx (.st (.pair (.sl (.int .u8)) (.pair tI (.int .u64))))), [y1.2]⟩]⟩, oH, oH] ⟨[(4, bV (y1.1 == (0 : Int)))], [(0, .seq (.st (.pair (.sl (.int .u8)) (.pair tI (.int .u64)))) ([y1.2]))], 1⟩ hX (by kernel_rfl) (allCons (f94_ok hc2) allNil) ?_
  have hr := of_some hr
  subst hr
  exact HT.ret ⟨[bV (y1.1 == (0 : Int))], [], [List.length ([y1.2]) = List.length [a0]], by kernel_rfl, by kernel_rfl, rfl, by kernel_rfl, by kernel_rfl, ⟨(show List.length ([y1.2]) = List.length [a0] from rfl), trivial⟩⟩

noncomputable def spec_l07DrawZoneOk_B1 (a1 : Int) (s3 : Int × (List Int × Int × Int) × List Int) (s10 : Int × (List Int × Int × Int) × List Int) : Option ((Int × (List Int × Int × Int) × List Int) ⊕ (((List Int × Int × Int) × List Int))) :=
  bif (decide (s10.1 < (wadd .i64 a1 (1 : Int)))) then
    (show Option ((List Int × Int × Int) × List Int) from
      (show Option (Bool × (List Int × Int × Int)) from
        bif (s3.1 == s10.1) then
          some (true, s10.2.1)
        else
          (spec_l00Src_one s10.2.1 (3 : Int)).bind fun y39 =>
          some (y39.1, y39.2)).bind fun v20 =>
      bif v20.1 then
        some (v20.2, s10.2.2)
      else
        (spec_l00Src_pick v20.2 (9 : Int)).bind fun y24 =>
        (show Option (Int × (List Int × Int × Int)) from
          bif (s3.1 == (0 : Int)) then
            (spec_l00Src_pick y24.2 (4 : Int)).bind fun y31 =>
            some ((IntKind.wrap .i64 (0 - y31.1)), y31.2)
          else
            (spec_l00Src_one y24.2 (4 : Int)).bind fun y33 =>
            bif y33.1 then
              (spec_l00Src_pick y33.2 (5 : Int)).bind fun y36 =>
              some ((wsub .i64 y36.1 (2 : Int)), y36.2)
            else
              some (y24.1, y33.2)).bind fun v26 =>
        guardP ((0 : Int) ≤ (wadd .i64 (wmul .i64 s3.1 (wadd .i64 a1 (1 : Int))) s10.1) ∧ (wadd .i64 (wmul .i64 s3.1 (wadd .i64 a1 (1 : Int))) s10.1) < lenI s10.2.2) (
          some (v26.2, (List.set s10.2.2 (Int.toNat (wadd .i64 (wmul .i64 s3.1 (wadd .i64 a1 (1 : Int))) s10.1)) v26.1)))).bind fun v17 =>
    some (.inl ((wadd .i64 s10.1 (1 : Int)), v17.1, v17.2))
  else
    some (.inr (s10.2.1, s10.2.2))

noncomputable def spec_l07DrawZoneOk_B2 (a1 : Int) (s3 : Int × (List Int × Int × Int) × List Int) : Option ((Int × (List Int × Int × Int) × List Int) ⊕ (((List Int × Int × Int) × List Int))) :=
  bif (decide (s3.1 < (wadd .i64 a1 (1 : Int)))) then
    (rounds (spec_l07DrawZoneOk_B1 a1 s3) ((0 : Int), s3.2.1, s3.2.2)).bind fun r12 =>
    some (.inl ((wadd .i64 s3.1 (1 : Int)), r12.1, r12.2))
  else
    some (.inr (s3.2.1, s3.2.2))

noncomputable def spec_l07DrawZoneOk (a0 : List Int × Int × Int) (a1 : Int) : Option ((Int × List Int) × (List Int × Int × Int)) :=
  (spec_WholeZone a1).bind fun y1 =>
  (rounds (spec_l07DrawZoneOk_B2 a1) ((0 : Int), a0, y1.1.2)).bind fun r5 =>
  some ((y1.1.1, r5.2), r5.1)

theorem f104_ok {a0 : List Int × Int × Int} {a1 : Int} {r : (Int × List Int) × (List Int × Int × Int)} (hr : spec_l07DrawZoneOk a0 a1 = some r) : CallOK Try.prog 104 [.own (.bx (.st (.pair (.sl (.int .u8)) (.pair tI (.int .u64))))) [a0], .imm tI a1] [⟨true, (.st (.pair tI tLI)), r.1⟩] [⟨(.bx (.st (.pair (.sl (.int .u8)) (.pair tI (.int .u64))))), [r.2]⟩] := by
  unfold spec_l07DrawZoneOk at hr
  refine CallOK.of_body (ts := [(true, (.st (.pair tI tLI)))]) Try.func104 rfl (by kernel_rfl) (Nat.le_of_ble_eq_true (by kernel_rfl)) fun cx hP hN hO hF => ?_
  have hO : cx.own.map Prod.fst = [0] := hO
  have hX := CxIs.mk hP hN hO
  have hF := hF rfl
  show HT cx ⟨[(0, .one (.elp 0 0 3 0)), (1, iV a1)], [(0, .seq (.st (.pair (.sl (.int .u8)) (.pair tI (.int .u64)))) ([a0]))], 1⟩ _ _
  refine HT.rg2 [oH] ⟨[(0, .one (.elp 0 0 3 0)), (1, iV a1), (4, pV 1 0)], [(1, .box [iC (0 : Int), .nilS]), (0, .seq (.st (.pair (.sl (.int .u8)) (.pair tI (.int .u64)))) ([a0]))], 2⟩ hX (by kernel_rfl) allNil ?_
  obtain ⟨y1, hc2, hr⟩ := of_bind hr
  refine HT.rg2 [oH, ⟨none, .call [.imm tI] [⟨true, (.st (.pair tI tLI)), y1.1⟩, ⟨false, .bool, y1.2⟩] []⟩, oH, oH, oH, oH, oH, oH] ⟨[(0, .one (.elp 0 0 3 0)), (1, iV a1), (4, pV 1 0), (5, pV 3 0)], [(3, .box [iC y1.1.1, .all 2]), (2, .seq tI y1.1.2), (1, .box [iC (0 : Int), .nilS]), (0, .seq (.st (.pair (.sl (.int .u8)) (.pair tI (.int .u64)))) ([a0]))], 4⟩ hX (by kernel_rfl) (allCons (f196_ok hc2) allNil) ?_
  refine HT.rg2 (oHs 3) ⟨[(0, .one (.elp 0 0 3 0)), (4, pV 1 0), (5, pV 3 0), (7, iV (wadd .i64 a1 (1 : Int)))], [(3, .box [iC y1.1.1, .all 2]), (2, .seq tI y1.1.2), (1, .box [iC (0 : Int), .nilS]), (0, .seq (.st (.pair (.sl (.int .u8)) (.pair tI (.int .u64)))) ([a0]))], 4⟩ hX (by kernel_rfl) allNil ?_
  refine HT.seq ?_
  refine HT.rg2 [oH] ⟨[(0, .one (.elp 0 0 3 0)), (4, pV 1 0), (5, pV 3 0), (7, iV (wadd .i64 a1 (1 : Int))), (8, iV (0 : Int))], [(3, .box [iC y1.1.1, .all 2]), (2, .seq tI y1.1.2), (1, .box [iC (0 : Int), .nilS]), (0, .seq (.st (.pair (.sl (.int .u8)) (.pair tI (.int .u64)))) ([a0]))], 4⟩ hX (by kernel_rfl) allNil ?_
  refine HT.block ?_
  obtain ⟨r4, hL42, hr⟩ := of_bind hr
  refine HT.loopL (fun (s3 : Int × (List Int × Int × Int) × List Int) => ⟨[(0, .one (.elp 0 0 3 0)), (4, pV 1 0), (5, pV 2 0), (7, iV (wadd .i64 a1 (1 : Int))), (8, iV s3.1)], [(0, .seq (.st (.pair (.sl (.int .u8)) (.pair tI (.int .u64)))) ([s3.2.1])), (1, .box [iC (0 : Int), .nilS]), (2, .box [iC y1.1.1, .all 3]), (3, .seq tI s3.2.2)], 4⟩) (fun (r5 : ((List Int × Int × Int) × List Int)) => (.exit 0, ⟨[(4, pV 1 0), (5, pV 2 0)], [(0, .seq (.st (.pair (.sl (.int .u8)) (.pair tI (.int .u64)))) ([r5.1])), (1, .box [iC (0 : Int), .nilS]), (2, .box [iC y1.1.1, .all 3]), (3, .seq tI r5.2)], 4⟩)) (Le.re [(0, 0), (1, 1), (3, 2), (2, 3)] [] hX (by kernel_rfl)) hL42 ?_ (fun s3 x6 hx7 hk8 => ?_)
  · refine (qBlockX (qThen ?_))
    refine HT.rg2 (oHs 2) ⟨[(4, pV 1 0)], [(1, .box [iC y1.1.1, .all 3]), (0, .seq (.st (.pair (.sl (.int .u8)) (.pair tI (.int .u64)))) ([r4.1])), (3, .seq tI r4.2)], 4⟩ hX (by kernel_rfl) allNil ?_
    have hr := of_some hr
    subst hr
    exact HT.ret ⟨[.agg [iC y1.1.1, .all 3]], [3], [List.length ([r4.1]) = List.length [a0]], by kernel_rfl, by kernel_rfl, rfl, by kernel_rfl, by kernel_rfl, ⟨(show List.length ([r4.1]) = List.length [a0] from rfl), trivial⟩⟩
  · refine HT.seq ?_
    refine HT.rg2 (oHs 3) ⟨[(0, .one (.elp 0 0 3 0)), (4, pV 1 0), (5, pV 2 0), (7, iV (wadd .i64 a1 (1 : Int))), (8, iV s3.1), (20, bV (decide (s3.1 < (wadd .i64 a1 (1 : Int)))))], [(0, .seq (.st (.pair (.sl (.int .u8)) (.pair tI (.int .u64)))) ([s3.2.1])), (1, .box [iC (0 : Int), .nilS]), (2, .box [iC y1.1.1, .all 3]), (3, .seq tI s3.2.2)], 4⟩ hX (by kernel_rfl) allNil ?_
    rcases of_bif hx7 with ⟨hb9, hx7⟩ | ⟨hb9, hx7⟩
    · refine HT.cond1 rfl hb9 ?_
      refine HT.skip (qThen ?_)
      refine HT.seq ?_
      refine HT.block ?_
      refine HT.rg2 [oH] ⟨[(0, .one (.elp 0 0 3 0)), (4, pV 1 0), (5, pV 2 0), (7, iV (wadd .i64 a1 (1 : Int))), (8, iV s3.1), (9, iV (0 : Int))], [(0, .seq (.st (.pair (.sl (.int .u8)) (.pair tI (.int .u64)))) ([s3.2.1])), (1, .box [iC (0 : Int), .nilS]), (2, .box [iC y1.1.1, .all 3]), (3, .seq tI s3.2.2)], 4⟩ hX (by kernel_rfl) allNil ?_
      refine HT.block ?_
      obtain ⟨r11, hL41, hx7⟩ := of_bind hx7
      refine HT.loopL (fun (s10 : Int × (List Int × Int × Int) × List Int) => ⟨[(0, .one (.elp 0 0 3 0)), (4, pV 1 0), (5, pV 2 0), (7, iV (wadd .i64 a1 (1 : Int))), (8, iV s3.1), (9, iV s10.1)], [(0, .seq (.st (.pair (.sl (.int .u8)) (.pair tI (.int .u64)))) ([s10.2.1])), (1, .box [iC (0 : Int), .nilS]), (2, .box [iC y1.1.1, .all 3]), (3, .seq tI s10.2.2)], 4⟩) (fun (r12 : ((List Int × Int × Int) × List Int)) => (.exit 2, ⟨[(0, .one (.elp 0 0 3 0)), (4, pV 1 0), (5, pV 2 0), (7, iV (wadd .i64 a1 (1 : Int))), (8, iV s3.1)], [(0, .seq (.st (.pair (.sl (.int .u8)) (.pair tI (.int .u64)))) ([r12.1])), (1, .box [iC (0 : Int), .nilS]), (2, .box [iC y1.1.1, .all 3]), (3, .seq tI r12.2)], 4⟩)) (Le.re [(0, 0), (1, 1), (2, 2), (3, 3)] [] hX (by kernel_rfl)) hL41 ?_ (fun s10 x13 hx14 hk15 => ?_)
      · refine (qBlockX (qBlock (qThen ?_)))
        have hx7 := of_some hx7
        subst hx7
        exact HT.rgK (oHs 3) [(0, 0), (1, 1), (2, 2), (3, 3)] [] hX (by kernel_rfl) allNil (fun _ h => (qLoopN ⟨((wadd .i64 s3.1 (1 : Int)), r11.1, r11.2), rfl, h⟩))
      · refine HT.seq ?_
        refine HT.rg2 (oHs 3) ⟨[(0, .one (.elp 0 0 3 0)), (4, pV 1 0), (5, pV 2 0), (7, iV (wadd .i64 a1 (1 : Int))), (8, iV s3.1), (9, iV s10.1), (25, bV (decide (s10.1 < (wadd .i64 a1 (1 : Int)))))], [(0, .seq (.st (.pair (.sl (.int .u8)) (.pair tI (.int .u64)))) ([s10.2.1])), (1, .box [iC (0 : Int), .nilS]), (2, .box [iC y1.1.1, .all 3]), (3, .seq tI s10.2.2)], 4⟩ hX (by kernel_rfl) allNil ?_
        rcases of_bif hx14 with ⟨hb16, hx14⟩ | ⟨hb16, hx14⟩
        · refine HT.cond1 rfl hb16 ?_
          refine HT.skip (qThen ?_)
          obtain ⟨v17', hT19, hx14⟩ := of_bind hx14
          refine HT.join (fun (v17 : (List Int × Int × Int) × List Int) => ⟨[(0, .one (.elp 0 0 3 0)), (4, pV 1 0), (5, pV 2 0), (7, iV (wadd .i64 a1 (1 : Int))), (8, iV s3.1), (9, iV s10.1)], [(0, .seq (.st (.pair (.sl (.int .u8)) (.pair tI (.int .u64)))) ([v17.1])), (1, .box [iC (0 : Int), .nilS]), (2, .box [iC y1.1.1, .all 3]), (3, .seq tI v17.2)], 4⟩) (fun v => v = v17') (fun v17 hv18 => ?_) (fun cont => ?_)
          · subst hv18
            have hx14 := of_some hx14
            subst hx14
            exact HT.rgK (oHs 3) [(0, 0), (1, 1), (2, 2), (3, 3)] [] hX (by kernel_rfl) allNil (fun _ h => (qLoopN ⟨((wadd .i64 s10.1 (1 : Int)), v17.1, v17.2), rfl, h⟩))
          · refine HT.block ?_
            refine HT.seq ?_
            obtain ⟨v20', hT22, hT19⟩ := of_bind hT19
            refine HT.join (fun (v20 : Bool × (List Int × Int × Int)) => ⟨[(0, .one (.elp 0 0 3 0)), (4, pV 1 0), (5, pV 2 0), (7, iV (wadd .i64 a1 (1 : Int))), (8, iV s3.1), (9, iV s10.1), (34, bV v20.1)], [(0, .seq (.st (.pair (.sl (.int .u8)) (.pair tI (.int .u64)))) ([v20.2])), (1, .box [iC (0 : Int), .nilS]), (2, .box [iC y1.1.1, .all 3]), (3, .seq tI s10.2.2)], 4⟩) (fun v => v = v20') (fun v20 hv21 => ?_) (fun cont => ?_)
            · subst hv21
              rcases of_bif hT19 with ⟨hb23, hT19⟩ | ⟨hb23, hT19⟩
              · refine HT.cond1 rfl hb23 ?_
                refine HT.exit (qThenE (qBlockX (qThen ?_)))
                exact (Le.re [(0, 0), (1, 1), (2, 2), (3, 3)] [] hX (by kernel_rfl)).ht (cont (v20.2, s10.2.2) (of_some hT19))
              · refine HT.cond0 rfl hb23 ?_
                refine HT.skip (qThen ?_)
                obtain ⟨y24, hc25, hT19⟩ := of_bind hT19
                refine HT.rg2 [oH, ⟨none, .call [.own (.bx (.st (.pair (.sl (.int .u8)) (.pair tI (.int .u64))))), .imm tI] [⟨false, tI, y24.1⟩] [⟨(.bx (.st (.pair (.sl (.int .u8)) (.pair tI (.int .u64))))), [y24.2]⟩]⟩, oH] ⟨[(0, .one (.elp 0 0 3 0)), (4, pV 1 0), (5, pV 2 0), (7, iV (wadd .i64 a1 (1 : Int))), (8, iV s3.1), (9, iV s10.1), (10, iV y24.1)], [(0, .seq (.st (.pair (.sl (.int .u8)) (.pair tI (.int .u64)))) ([y24.2])), (1, .box [iC (0 : Int), .nilS]), (2, .box [iC y1.1.1, .all 3]), (3, .seq tI s10.2.2)], 4⟩ hX (by kernel_rfl) (allCons (f94_ok hc25) allNil) ?_
                obtain ⟨v26', hT28, hT19⟩ := of_bind hT19
                refine HT.join (fun (v26 : Int × (List Int × Int × Int)) => ⟨[(0, .one (.elp 0 0 3 0)), (4, pV 1 0), (5, pV 2 0), (7, iV (wadd .i64 a1 (1 : Int))), (8, iV s3.1), (9, iV s10.1), (10, iV v26.1)], [(0, .seq (.st (.pair (.sl (.int .u8)) (.pair tI (.int .u64)))) ([v26.2])), (1, .box [iC (0 : Int), .nilS]), (2, .box [iC y1.1.1, .all 3]), (3, .seq tI s10.2.2)], 4⟩) (fun v => v = v26') (fun v26 hv27 => ?_) (fun cont => ?_)
                · subst hv27
                  obtain ⟨hg29, hT19⟩ := of_guard hT19
                  exact HT.rgK (oHs 10) [(0, 0), (1, 1), (2, 2), (3, 3)] [] hX (by kernel_rfl) (allCons hg29 (allCons (natLt hg29) allNil)) (fun _ h => (qBlock (qThen (h.ht (cont (v26.2, (List.set s10.2.2 (Int.toNat (wadd .i64 (wmul .i64 s3.1 (wadd .i64 a1 (1 : Int))) s10.1)) v26.1)) (of_some hT19))))))
                · refine HT.rg2 (oHs 2) ⟨[(0, .one (.elp 0 0 3 0)), (4, pV 1 0), (5, pV 2 0), (7, iV (wadd .i64 a1 (1 : Int))), (8, iV s3.1), (9, iV s10.1), (10, iV y24.1), (38, bV (s3.1 == (0 : Int)))], [(0, .seq (.st (.pair (.sl (.int .u8)) (.pair tI (.int .u64)))) ([y24.2])), (1, .box [iC (0 : Int), .nilS]), (2, .box [iC y1.1.1, .all 3]), (3, .seq tI s10.2.2)], 4⟩ hX (by kernel_rfl) allNil ?_
                  rcases of_bif hT28 with ⟨hb30, hT28⟩ | ⟨hb30, hT28⟩
                  · refine HT.cond1 rfl hb30 ?_
                    obtain ⟨y31, hc32, hT28⟩ := of_bind hT28
                    exact HT.rgK [oH, ⟨none, .call [.own (.bx (.st (.pair (.sl (.int .u8)) (.pair tI (.int .u64))))), .imm tI] [⟨false, tI, y31.1⟩] [⟨(.bx (.st (.pair (.sl (.int .u8)) (.pair tI (.int .u64))))), [y31.2]⟩]⟩, oH, oH] [(0, 0), (1, 1), (2, 2), (3, 3)] [] hX (by kernel_rfl) (allCons (f94_ok hc32) allNil) (fun _ h => (qThen (h.ht (cont ((IntKind.wrap .i64 (0 - y31.1)), y31.2) (of_some hT28)))))
                  · refine HT.cond0 rfl hb30 ?_
                    obtain ⟨y33, hc34, hT28⟩ := of_bind hT28
                    refine HT.rg2 [oH, ⟨none, .call [.own (.bx (.st (.pair (.sl (.int .u8)) (.pair tI (.int .u64))))), .imm tI] [⟨false, .bool, y33.1⟩] [⟨(.bx (.st (.pair (.sl (.int .u8)) (.pair tI (.int .u64))))), [y33.2]⟩]⟩] ⟨[(0, .one (.elp 0 0 3 0)), (4, pV 1 0), (5, pV 2 0), (7, iV (wadd .i64 a1 (1 : Int))), (8, iV s3.1), (9, iV s10.1), (10, iV y24.1), (43, bV y33.1)], [(0, .seq (.st (.pair (.sl (.int .u8)) (.pair tI (.int .u64)))) ([y33.2])), (1, .box [iC (0 : Int), .nilS]), (2, .box [iC y1.1.1, .all 3]), (3, .seq tI s10.2.2)], 4⟩ hX (by kernel_rfl) (allCons (f193_ok hc34) allNil) ?_
                    rcases of_bif hT28 with ⟨hb35, hT28⟩ | ⟨hb35, hT28⟩
                    · refine HT.cond1 rfl hb35 ?_
                      obtain ⟨y36, hc37, hT28⟩ := of_bind hT28
                      exact HT.rgK [oH, ⟨none, .call [.own (.bx (.st (.pair (.sl (.int .u8)) (.pair tI (.int .u64))))), .imm tI] [⟨false, tI, y36.1⟩] [⟨(.bx (.st (.pair (.sl (.int .u8)) (.pair tI (.int .u64))))), [y36.2]⟩]⟩, oH, oH] [(0, 0), (1, 1), (2, 2), (3, 3)] [] hX (by kernel_rfl) (allCons (f94_ok hc37) allNil) (fun _ h => (qThen (h.ht (cont ((wsub .i64 y36.1 (2 : Int)), y36.2) (of_some hT28)))))
                    · refine HT.cond0 rfl hb35 ?_
                      refine HT.skip (qThen ?_)
                      exact (Le.re [(0, 0), (1, 1), (2, 2), (3, 3)] [] hX (by kernel_rfl)).ht (cont (y24.1, y33.2) (of_some hT28))
            · rcases of_bif hT22 with ⟨hb38, hT22⟩ | ⟨hb38, hT22⟩
              · exact HT.rgK [oH, oH, oH, oH, ⟨some true, .no⟩, ⟨some true, .no⟩, ⟨none, .tv true⟩] [(0, 0), (1, 1), (2, 2), (3, 3)] [] hX (by kernel_rfl) (allCons hb38 (allCons hb38 (allCons hb38 allNil))) (fun _ h => (qThen (h.ht (cont (true, s10.2.1) (of_some hT22)))))
              · obtain ⟨y39, hc40, hT22⟩ := of_bind hT22
                exact HT.rgK [oH, oH, oH, oH, ⟨some false, .no⟩, ⟨some false, .call [.own (.bx (.st (.pair (.sl (.int .u8)) (.pair tI (.int .u64))))), .imm tI] [⟨false, .bool, y39.1⟩] [⟨(.bx (.st (.pair (.sl (.int .u8)) (.pair tI (.int .u64))))), [y39.2]⟩]⟩, ⟨none, .tv false⟩] [(0, 0), (1, 1), (2, 2), (3, 3)] [] hX (by kernel_rfl) (allCons hb38 (allCons hb38 (allCons (f193_ok hc40) (allCons hb38 allNil)))) (fun _ h => (qThen (h.ht (cont (y39.1, y39.2) (of_some hT22)))))
        · refine HT.cond0 rfl hb16 ?_
          have hx14 := of_some hx14
          subst hx14
          exact HT.exitL (Le.re [(0, 0), (1, 1), (2, 2), (3, 3)] [] hX (by kernel_rfl)) (qThenE (qLoopE (hk15 (s10.2.1, s10.2.2) rfl)))
    · refine HT.cond0 rfl hb9 ?_
      have hx7 := of_some hx7
      subst hx7
      exact HT.exitL (Le.re [(0, 0), (1, 1), (2, 2), (3, 3)] [] hX (by kernel_rfl)) (qThenE (qLoopE (hk8 (s3.2.1, s3.2.2) rfl)))

noncomputable def spec_B10Zone (a0 : List Int) (a1 : Int) : Option ((Int × List Int)) :=
  (spec_l00From a0).bind fun y1 =>
  (spec_l07DrawZoneOk y1 a1).bind fun y3 =>
  some (y3.1.1, y3.1.2)

theorem f20_ok {a0 : List Int} {a1 : Int} {r : (Int × List Int)} (hr : spec_B10Zone a0 a1 = some r) : CallOK Try.prog 20 [.imm (.sl (.int .u8)) a0, .imm tI a1] [⟨true, (.st (.pair tI tLI)), r⟩] [] := by
  unfold spec_B10Zone at hr
  refine CallOK.of_body (ts := [(true, (.st (.pair tI tLI)))]) Try.func20 rfl (by kernel_rfl) (Nat.le_of_ble_eq_true (by kernel_rfl)) fun cx hP hN hO hF => ?_
  have hO : cx.own.map Prod.fst = [] := hO
  have hX := CxIs.mk hP hN hO
  have hF := hF rfl
  show HT cx ⟨[(0, .one (.dat (.sl (.int .u8)) a0)), (1, iV a1)], [], 0⟩ _ _
  refine HT.rg2 [oH] ⟨[(0, .one (.dat (.sl (.int .u8)) a0)), (1, iV a1), (4, pV 0 0)], [(0, .box [iC (0 : Int), .nilS])], 1⟩ hX (by kernel_rfl) allNil ?_
  obtain ⟨y1, hc2, hr⟩ := of_bind hr
  refine HT.rg2 [oH, ⟨none, .call [.imm (.sl (.int .u8))] [⟨true, (.bx (.st (.pair (.sl (.int .u8)) (.pair tI (.int .u64))))), [y1]⟩] []⟩, oH] ⟨[(1, iV a1), (4, pV 0 0), (5, .one (.elp 1 0 3 0))], [(1, .seq (.st (.pair (.sl (.int .u8)) (.pair tI (.int .u64)))) ([y1])), (0, .box [iC (0 : Int), .nilS])], 2⟩ hX (by kernel_rfl) (allCons (f93_ok hc2) allNil) ?_
  obtain ⟨y3, hc4, hr⟩ := of_bind hr
  refine HT.rg2 [oH, oH, ⟨none, .call [.own (.bx (.st (.pair (.sl (.int .u8)) (.pair tI (.int .u64))))), .imm tI] [⟨true, (.st (.pair tI tLI)), y3.1⟩] [⟨(.bx (.st (.pair (.sl (.int .u8)) (.pair tI (.int .u64))))), [y3.2]⟩]⟩, oH] ⟨[(4, pV 0 0)], [(0, .box [iC y3.1.1, .all 2]), (2, .seq tI y3.1.2)], 3⟩ hX (by kernel_rfl) (allCons (f104_ok hc4) allNil) ?_
  have hr := of_some hr
  subst hr
  exact HT.ret ⟨[.agg [iC y3.1.1, .all 2]], [2], [], by kernel_rfl, by kernel_rfl, rfl, by kernel_rfl, by kernel_rfl, trivial⟩

noncomputable def impl_Zone_wide (a0 : Int × List Int) : Option (Int) :=
  some (wadd .i64 a0.1 (1 : Int))

theorem f106_ok {a0 : Int × List Int} {r : Int} (hr : impl_Zone_wide a0 = some r) : CallOK Try.prog 106 [.imm (.st (.pair tI tLI)) a0] [⟨false, tI, r⟩] [] := by
  unfold impl_Zone_wide at hr
  refine CallOK.of_body (ts := [(false, tI)]) Try.func106 rfl (by kernel_rfl) (Nat.le_of_ble_eq_true (by kernel_rfl)) fun cx hP hN hO hF => ?_
  have hO : cx.own.map Prod.fst = [] := hO
  have hX := CxIs.mk hP hN hO
  have hF := hF rfl
  show HT cx ⟨[(0, .agg [iC a0.1, nC a0.2])], [], 0⟩ _ _
  refine HT.rg2 (oHs 2) ⟨[(1, pV 0 0)], [(0, .box [iC a0.1, nC a0.2])], 1⟩ hX (by kernel_rfl) allNil ?_
  refine HT.rg2 (oHs 4) ⟨[(2, iV (wadd .i64 a0.1 (1 : Int)))], [], 1⟩ hX (by kernel_rfl) allNil ?_
  have hr := of_some hr
  subst hr
  exact HT.ret ⟨[iV (wadd .i64 a0.1 (1 : Int))], [], [], by kernel_rfl, by kernel_rfl, rfl, by kernel_rfl, by kernel_rfl, trivial⟩

noncomputable def impl_Zone_at (a0 : Int × List Int) (a1 : Int) (a2 : Int) : Option (Int) :=
  (impl_Zone_wide (a0.1, a0.2)).bind fun y1 =>
  some (wadd .i64 (wmul .i64 a1 y1) a2)

theorem f107_ok {a0 : Int × List Int} {a1 : Int} {a2 : Int} {r : Int} (hr : impl_Zone_at a0 a1 a2 = some r) : CallOK Try.prog 107 [.imm (.st (.pair tI tLI)) a0, .imm tI a1, .imm tI a2] [⟨false, tI, r⟩] [] := by
  unfold impl_Zone_at at hr
  refine CallOK.of_body (ts := [(false, tI)]) Try.func107 rfl (by kernel_rfl) (Nat.le_of_ble_eq_true (by kernel_rfl)) fun cx hP hN hO hF => ?_
  have hO : cx.own.map Prod.fst = [] := hO
  have hX := CxIs.mk hP hN hO
  have hF := hF rfl
  show HT cx ⟨[(0, .agg [iC a0.1, nC a0.2]), (1, iV a1), (2, iV a2)], [], 0⟩ _ _
  refine HT.rg2 (oHs 2) ⟨[(1, iV a1), (2, iV a2), (3, pV 0 0)], [(0, .box [iC a0.1, nC a0.2])], 1⟩ hX (by kernel_rfl) allNil ?_
  obtain ⟨y1, hc2, hr⟩ := of_bind hr
  refine HT.rg2 [oH, oH, ⟨none, .call [.imm (.st (.pair tI tLI))] [⟨false, tI, y1⟩] []⟩, oH, oH, oH, oH] ⟨[(6, iV (wadd .i64 (wmul .i64 a1 y1) a2))], [], 1⟩ hX (by kernel_rfl) (allCons (f106_ok hc2) allNil) ?_
  have hr := of_some hr
  subst hr
  exact HT.ret ⟨[iV (wadd .i64 (wmul .i64 a1 y1) a2)], [], [], by kernel_rfl, by kernel_rfl, rfl, by kernel_rfl, by kernel_rfl, trivial⟩

noncomputable def impl_within (a0 : Int) (a1 : Int) (a2 : Int) : Option (Bool) :=
  (show Option (Bool) from
    bif (decide (a0 ≥ a1)) then
      some (decide (a0 ≤ a2))
    else
      some false).bind fun v1 =>
  some v1

theorem f111_ok {a0 : Int} {a1 : Int} {a2 : Int} {r : Bool} (hr : impl_within a0 a1 a2 = some r) : CallOK Try.prog 111 [.imm tI a0, .imm tI a1, .imm tI a2] [⟨false, .bool, r⟩] [] := by
  unfold impl_within at hr
  refine CallOK.of_body (ts := [(false, .bool)]) Try.func111 rfl (by kernel_rfl) (Nat.le_of_ble_eq_true (by kernel_rfl)) fun cx hP hN hO hF => ?_
  have hO : cx.own.map Prod.fst = [] := hO
  have hX := CxIs.mk hP hN hO
  have hF := hF rfl
  show HT cx ⟨[(0, iV a0), (1, iV a1), (2, iV a2)], [], 0⟩ _ _
  refine HT.rg2 [oH] ⟨[(0, iV a0), (1, iV a1), (2, iV a2)], [], 0⟩ hX (by kernel_rfl) allNil ?_
  obtain ⟨v1', hT3, hr⟩ := of_bind hr
  refine HT.join (fun (v1 : Bool) => ⟨[(6, bV v1)], [], 0⟩) (fun v => v = v1') (fun v1 hv2 => ?_) (fun cont => ?_)
  · subst hv2
    have hr := of_some hr
    subst hr
    exact HT.ret ⟨[bV v1], [], [], by kernel_rfl, by kernel_rfl, rfl, by kernel_rfl, by kernel_rfl, trivial⟩
  · rcases of_bif hT3 with ⟨hb4, hT3⟩ | ⟨hb4, hT3⟩
    · exact HT.rgK [oH, oH, oH, oH, ⟨some true, .no⟩, ⟨some true, .no⟩, ⟨some true, .no⟩, ⟨none, .tv true⟩, oH] [] [] hX (by kernel_rfl) (allCons hb4 (allCons hb4 (allCons hb4 (allCons hb4 allNil)))) (fun _ h => (qThen (h.ht (cont (decide (a0 ≤ a2)) (of_some hT3)))))
    · exact HT.rgK [oH, oH, oH, oH, ⟨some false, .no⟩, ⟨some false, .no⟩, ⟨some false, .no⟩, ⟨none, .tv false⟩, oH] [] [] hX (by kernel_rfl) (allCons hb4 (allCons hb4 (allCons hb4 (allCons hb4 allNil)))) (fun _ h => (qThen (h.ht (cont false (of_some hT3)))))

noncomputable def impl_ValidZone_B1 (a0 : Int × List Int) (s7 : Int) (y15 : Int) (s17 : Int) : Option ((Int) ⊕ (Unit ⊕ Unit)) :=
  bif (decide (s17 < y15)) then
    (impl_Zone_at (a0.1, a0.2) s7 s17).bind fun y25 =>
    guardP ((0 : Int) ≤ y25 ∧ y25 < lenI a0.2) (
      (show Option (Bool) from
        (impl_within (List.getD a0.2 (Int.toNat y25) (0 : Int)) (-1000000 : Int) (1000000 : Int)).bind fun y32 =>
        bif (!y32) then
          bif ((List.getD a0.2 (Int.toNat y25) (0 : Int)) != (1000000000 : Int)) then
            some true
          else
            bif (s7 == s17) then
              bif ((List.getD a0.2 (Int.toNat y25) (0 : Int)) != (0 : Int)) then
                some true
              else
                bif (s7 == (0 : Int)) then
                  some (decide ((List.getD a0.2 (Int.toNat y25) (0 : Int)) > (0 : Int)))
                else
                  some false
            else
              bif (s7 == (0 : Int)) then
                some (decide ((List.getD a0.2 (Int.toNat y25) (0 : Int)) > (0 : Int)))
              else
                some false
        else
          bif (s7 == s17) then
            bif ((List.getD a0.2 (Int.toNat y25) (0 : Int)) != (0 : Int)) then
              some true
            else
              bif (s7 == (0 : Int)) then
                some (decide ((List.getD a0.2 (Int.toNat y25) (0 : Int)) > (0 : Int)))
              else
                some false
          else
            bif (s7 == (0 : Int)) then
              some (decide ((List.getD a0.2 (Int.toNat y25) (0 : Int)) > (0 : Int)))
            else
              some false).bind fun v28 =>
      bif v28 then
        some (.inr (.inr ()))
      else
        some (.inl (wadd .i64 s17 (1 : Int))))
  else
    some (.inr (.inl ()))

noncomputable def impl_ValidZone_B2 (a0 : Int × List Int) (y5 : Int) (s7 : Int) : Option ((Int) ⊕ (Unit ⊕ Unit)) :=
  bif (decide (s7 < y5)) then
    (impl_Zone_wide (a0.1, a0.2)).bind fun y15 =>
    (rounds (impl_ValidZone_B1 a0 s7 y15) (0 : Int)).bind fun r18 => match r18 with
      | .inl r19 =>
        some (.inl (wadd .i64 s7 (1 : Int)))
      | .inr r20 =>
        some (.inr (.inr ()))
  else
    some (.inr (.inl ()))

noncomputable def impl_ValidZone (a0 : Int × List Int) : Option (Bool) :=
  (show Option (Bool) from
    (impl_within a0.1 (1 : Int) (4 : Int)).bind fun y46 =>
    bif (!y46) then
      some true
    else
      (impl_Zone_wide (a0.1, a0.2)).bind fun y49 =>
      (impl_Zone_wide (a0.1, a0.2)).bind fun y51 =>
      some ((lenI a0.2) != (wmul .i64 y49 y51))).bind fun v1 =>
  bif v1 then
    some false
  else
    (impl_Zone_wide (a0.1, a0.2)).bind fun y5 =>
    (rounds (impl_ValidZone_B2 a0 y5) (0 : Int)).bind fun r8 => match r8 with
      | .inl r9 =>
        some true
      | .inr r10 =>
        some false

theorem f29_ok {a0 : Int × List Int} {r : Bool} (hr : impl_ValidZone a0 = some r) : CallOK Try.prog 29 [.imm (.st (.pair tI tLI)) a0] [⟨false, .bool, r⟩] [] := by
  unfold impl_ValidZone at hr
  refine CallOK.of_body (ts := [(false, .bool)]) Try.func29 rfl (by kernel_rfl) (Nat.le_of_ble_eq_true (by kernel_rfl)) fun cx hP hN hO hF => ?_
  have hO : cx.own.map Prod.fst = [] := hO
  have hX := CxIs.mk hP hN hO
  have hF := hF rfl
  show HT cx ⟨[(0, .agg [iC a0.1, nC a0.2])], [], 0⟩ _ _
  refine HT.rg2 (oHs 2) ⟨[(1, pV 0 0)], [(0, .box [iC a0.1, nC a0.2])], 1⟩ hX (by kernel_rfl) allNil ?_
  refine HT.seq ?_
  obtain ⟨v1', hT3, hr⟩ := of_bind hr
  refine HT.join (fun (v1 : Bool) => ⟨[(1, pV 0 0), (20, bV v1)], [(0, .box [iC a0.1, nC a0.2])], 1⟩) (fun v => v = v1') (fun v1 hv2 => ?_) (fun cont => ?_)
  · subst hv2
    rcases of_bif hr with ⟨hb4, hr⟩ | ⟨hb4, hr⟩
    · refine HT.cond1 rfl hb4 ?_
      refine HT.rg2 [oH] ⟨[(2, bV false)], [], 1⟩ hX (by kernel_rfl) allNil ?_
      have hr := of_some hr
      subst hr
      exact HT.ret (qThenR ⟨[bV false], [], [], by kernel_rfl, by kernel_rfl, rfl, by kernel_rfl, by kernel_rfl, trivial⟩)
    · refine HT.cond0 rfl hb4 ?_
      refine HT.skip (qThen ?_)
      refine HT.seq ?_
      obtain ⟨y5, hc6, hr⟩ := of_bind hr
      refine HT.rg2 [oH, ⟨none, .call [.imm (.st (.pair tI tLI))] [⟨false, tI, y5⟩] []⟩, oH] ⟨[(1, pV 0 0), (22, iV y5), (23, iV (0 : Int))], [(0, .box [iC a0.1, nC a0.2])], 1⟩ hX (by kernel_rfl) (allCons (f106_ok hc6) allNil) ?_
      refine HT.block ?_
      obtain ⟨r8, hL45, hr⟩ := of_bind hr
      refine HT.loopL (fun (s7 : Int) => ⟨[(1, pV 0 0), (22, iV y5), (23, iV s7)], [(0, .box [iC a0.1, nC a0.2])], 1⟩) (fun (r8 : Unit ⊕ Unit) => match r8 with | .inl r9 => (.exit 0, ⟨[], [], 0⟩) | .inr r10 => (.ret, ⟨[(2, bV false)], [], 0⟩)) (Le.re [(0, 0)] [] hX (by kernel_rfl)) hL45 ?_ (fun s7 x11 hx12 hk13 => ?_)
      · rcases r8 with r9 | r10
        · refine (qBlockX (qThen ?_))
          refine HT.rg2 [oH] ⟨[(2, bV true)], [], 0⟩ hX (by kernel_rfl) allNil ?_
          have hr := of_some hr
          subst hr
          exact HT.ret ⟨[bV true], [], [], by kernel_rfl, by kernel_rfl, rfl, by kernel_rfl, by kernel_rfl, trivial⟩
        · have hr := of_some hr
          subst hr
          exact (qBlockR (qThenR ⟨[bV false], [], [], by kernel_rfl, by kernel_rfl, rfl, by kernel_rfl, by kernel_rfl, trivial⟩))
      · refine HT.rg2 [oH] ⟨[(1, pV 0 0), (22, iV y5), (23, iV s7), (24, bV (decide (s7 < y5)))], [(0, .box [iC a0.1, nC a0.2])], 1⟩ hX (by kernel_rfl) allNil ?_
        refine HT.seq ?_
        rcases of_bif hx12 with ⟨hb14, hx12⟩ | ⟨hb14, hx12⟩
        · refine HT.cond1 rfl hb14 ?_
          refine HT.skip (qThen ?_)
          refine HT.seq ?_
          refine HT.block ?_
          refine HT.rg2 (oHs 2) ⟨[(1, pV 0 0), (3, iV s7), (22, iV y5), (23, iV s7)], [(0, .box [iC a0.1, nC a0.2])], 1⟩ hX (by kernel_rfl) allNil ?_
          obtain ⟨y15, hc16, hx12⟩ := of_bind hx12
          refine HT.rg2 [oH, ⟨none, .call [.imm (.st (.pair tI tLI))] [⟨false, tI, y15⟩] []⟩, oH] ⟨[(1, pV 0 0), (3, iV s7), (22, iV y5), (23, iV s7), (27, iV y15), (28, iV (0 : Int))], [(0, .box [iC a0.1, nC a0.2])], 1⟩ hX (by kernel_rfl) (allCons (f106_ok hc16) allNil) ?_
          refine HT.block ?_
          obtain ⟨r18, hL44, hx12⟩ := of_bind hx12
          refine HT.loopL (fun (s17 : Int) => ⟨[(1, pV 0 0), (3, iV s7), (22, iV y5), (23, iV s7), (27, iV y15), (28, iV s17)], [(0, .box [iC a0.1, nC a0.2])], 1⟩) (fun (r18 : Unit ⊕ Unit) => match r18 with | .inl r19 => (.exit 2, ⟨[(1, pV 0 0), (22, iV y5), (23, iV s7)], [(0, .box [iC a0.1, nC a0.2])], 1⟩) | .inr r20 => (.ret, ⟨[(2, bV false)], [], 0⟩)) (Le.re [(0, 0)] [] hX (by kernel_rfl)) hL44 ?_ (fun s17 x21 hx22 hk23 => ?_)
          · rcases r18 with r19 | r20
            · refine (qBlockX (qBlock (qThen ?_)))
              have hx12 := of_some hx12
              subst hx12
              exact HT.rgK (oHs 2) [(0, 0)] [] hX (by kernel_rfl) allNil (fun _ h => (qLoopN ⟨(wadd .i64 s7 (1 : Int)), rfl, h⟩))
            · have hx12 := of_some hx12
              subst hx12
              exact (qBlockR (qBlockR (qThenR (qLoopR (hk13 (.inr ()) rfl)))))
          · refine HT.rg2 [oH] ⟨[(1, pV 0 0), (3, iV s7), (22, iV y5), (23, iV s7), (27, iV y15), (28, iV s17), (29, bV (decide (s17 < y15)))], [(0, .box [iC a0.1, nC a0.2])], 1⟩ hX (by kernel_rfl) allNil ?_
            refine HT.seq ?_
            rcases of_bif hx22 with ⟨hb24, hx22⟩ | ⟨hb24, hx22⟩
            · refine HT.cond1 rfl hb24 ?_
              refine HT.skip (qThen ?_)
              refine HT.seq ?_
              refine HT.block ?_
              refine HT.rg2 (oHs 2) ⟨[(1, pV 0 0), (3, iV s7), (4, iV s17), (22, iV y5), (23, iV s7), (27, iV y15), (28, iV s17)], [(0, .box [iC a0.1, nC a0.2])], 1⟩ hX (by kernel_rfl) allNil ?_
              obtain ⟨y25, hc26, hx22⟩ := of_bind hx22
              obtain ⟨hg27, hx22⟩ := of_guard hx22
              refine HT.dr2 6 [⟨oH, []⟩, ⟨oH, [0]⟩, ⟨oH, []⟩, ⟨oH, []⟩, ⟨oH, []⟩, ⟨⟨none, .call [.imm (.st (.pair tI tLI)), .imm tI, .imm tI] [⟨false, tI, y25⟩] []⟩, [2, 3, 4]⟩] [[0, 1, 2, 3, 4, 5], [0, 1, 2, 3, 4, 5, 6], [0, 1, 2, 3, 4, 5, 6, 7]] (oHs 3) ⟨[(1, pV 0 0), (3, iV s7), (4, iV s17), (5, iV (List.getD a0.2 (Int.toNat y25) (0 : Int))), (22, iV y5), (23, iV s7), (27, iV y15), (28, iV s17)], [(0, .box [iC a0.1, nC a0.2])], 1⟩ hX (by kernel_rfl) (by kernel_rfl) (allCons (f107_ok hc26) (allCons hg27 allNil)) ?_
              obtain ⟨v28', hT30, hx22⟩ := of_bind hx22
              refine HT.join (fun (v28 : Bool) => ⟨[(1, pV 0 0), (3, iV s7), (22, iV y5), (23, iV s7), (27, iV y15), (28, iV s17), (62, bV v28)], [(0, .box [iC a0.1, nC a0.2])], 1⟩) (fun v => v = v28') (fun v28 hv29 => ?_) (fun cont => ?_)
              · subst hv29
                rcases of_bif hx22 with ⟨hb31, hx22⟩ | ⟨hb31, hx22⟩
                · refine HT.cond1 rfl hb31 ?_
                  refine HT.rg2 [oH] ⟨[(2, bV false)], [], 1⟩ hX (by kernel_rfl) allNil ?_
                  have hx22 := of_some hx22
                  subst hx22
                  exact HT.retL (Le.re [] [] hX (by kernel_rfl)) (qBlockR (qThenR (qLoopR (hk23 (.inr ()) rfl))))
                · refine HT.cond0 rfl hb31 ?_
                  refine HT.skip (qBlock (qThen ?_))
                  have hx22 := of_some hx22
                  subst hx22
                  exact HT.rgK (oHs 2) [(0, 0)] [] hX (by kernel_rfl) allNil (fun _ h => (qLoopN ⟨(wadd .i64 s17 (1 : Int)), rfl, h⟩))
              · obtain ⟨y32, hc33, hT30⟩ := of_bind hT30
                rcases of_bif hT30 with ⟨hb34, hT30⟩ | ⟨hb34, hT30⟩
                · rcases of_bif hT30 with ⟨hb35, hT30⟩ | ⟨hb35, hT30⟩
                  · exact HT.rgK [oH, ⟨none, .call [.imm tI, .imm tI, .imm tI] [⟨false, .bool, y32⟩] []⟩, oH, oH, ⟨some true, .no⟩, ⟨some true, .no⟩, ⟨none, .tv true⟩, oH, ⟨some true, .no⟩, ⟨some true, .no⟩, ⟨some true, .no⟩, ⟨some true, .no⟩, oH, oH, ⟨some true, .no⟩, ⟨none, .tv true⟩, oH, ⟨some true, .no⟩, ⟨some true, .no⟩, ⟨some true, .no⟩, oH, oH, ⟨some true, .no⟩, ⟨none, .tv true⟩] [(0, 0)] [] hX (by kernel_rfl) (allCons (f111_ok hc33) (allCons hb34 (allCons hb34 (allCons hb34 (allCons hb35 (allCons hb35 (allCons hb35 (allCons hb35 (allCons hb35 (allCons hb35 (allCons (rfl : true = true) (allCons (rfl : true = true) (allCons (rfl : true = true) (allCons (rfl : true = true) (allCons (rfl : true = true) allNil))))))))))))))) (fun _ h => (qThen (h.ht (cont true (of_some hT30)))))
                  · rcases of_bif hT30 with ⟨hb36, hT30⟩ | ⟨hb36, hT30⟩
                    · rcases of_bif hT30 with ⟨hb37, hT30⟩ | ⟨hb37, hT30⟩
                      · exact HT.rgK [oH, ⟨none, .call [.imm tI, .imm tI, .imm tI] [⟨false, .bool, y32⟩] []⟩, oH, oH, ⟨some true, .no⟩, ⟨some true, .no⟩, ⟨none, .tv true⟩, oH, ⟨some false, .no⟩, ⟨some false, .no⟩, ⟨some false, .no⟩, ⟨some false, .no⟩, ⟨some true, .no⟩, ⟨some true, .no⟩, ⟨some false, .tv true⟩, ⟨none, .tv false⟩, oH, ⟨some true, .no⟩, ⟨some true, .no⟩, ⟨some true, .no⟩, oH, oH, ⟨some true, .no⟩, ⟨none, .tv true⟩] [(0, 0)] [] hX (by kernel_rfl) (allCons (f111_ok hc33) (allCons hb34 (allCons hb34 (allCons hb34 (allCons hb35 (allCons hb35 (allCons hb35 (allCons hb35 (allCons hb36 (allCons hb36 (allCons hb35 (allCons hb36 (allCons hb35 (allCons hb37 (allCons hb37 (allCons hb37 (allCons hb37 (allCons hb37 allNil)))))))))))))))))) (fun _ h => (qThen (h.ht (cont true (of_some hT30)))))
                      · rcases of_bif hT30 with ⟨hb38, hT30⟩ | ⟨hb38, hT30⟩
                        · exact HT.rgK [oH, ⟨none, .call [.imm tI, .imm tI, .imm tI] [⟨false, .bool, y32⟩] []⟩, oH, oH, ⟨some true, .no⟩, ⟨some true, .no⟩, ⟨none, .tv true⟩, oH, ⟨some false, .no⟩, ⟨some false, .no⟩, ⟨some false, .no⟩, ⟨some false, .no⟩, ⟨some true, .no⟩, ⟨some true, .no⟩, ⟨some false, .tv true⟩, ⟨none, .tv false⟩, oH, ⟨some false, .no⟩, ⟨some false, .no⟩, ⟨some false, .no⟩, ⟨some true, .no⟩, ⟨some true, .no⟩, ⟨some false, .tv true⟩, ⟨none, .tv false⟩] [(0, 0)] [] hX (by kernel_rfl) (allCons (f111_ok hc33) (allCons hb34 (allCons hb34 (allCons hb34 (allCons hb35 (allCons hb35 (allCons hb35 (allCons hb35 (allCons hb36 (allCons hb36 (allCons hb35 (allCons hb36 (allCons hb35 (allCons hb37 (allCons hb37 (allCons hb37 (allCons hb38 (allCons hb38 (allCons hb37 (allCons hb38 (allCons hb37 allNil))))))))))))))))))))) (fun _ h => (qThen (h.ht (cont (decide ((List.getD a0.2 (Int.toNat y25) (0 : Int)) > (0 : Int))) (of_some hT30)))))
                        · exact HT.rgK [oH, ⟨none, .call [.imm tI, .imm tI, .imm tI] [⟨false, .bool, y32⟩] []⟩, oH, oH, ⟨some true, .no⟩, ⟨some true, .no⟩, ⟨none, .tv true⟩, oH, ⟨some false, .no⟩, ⟨some false, .no⟩, ⟨some false, .no⟩, ⟨some false, .no⟩, ⟨some true, .no⟩, ⟨some true, .no⟩, ⟨some false, .tv true⟩, ⟨none, .tv false⟩, oH, ⟨some false, .no⟩, ⟨some false, .no⟩, ⟨some false, .no⟩, ⟨some false, .no⟩, ⟨some false, .no⟩, ⟨some false, .tv false⟩, ⟨none, .tv false⟩] [(0, 0)] [] hX (by kernel_rfl) (allCons (f111_ok hc33) (allCons hb34 (allCons hb34 (allCons hb34 (allCons hb35 (allCons hb35 (allCons hb35 (allCons hb35 (allCons hb36 (allCons hb36 (allCons hb35 (allCons hb36 (allCons hb35 (allCons hb37 (allCons hb37 (allCons hb37 (allCons hb38 (allCons hb38 (allCons hb37 (allCons hb38 (allCons hb37 allNil))))))))))))))))))))) (fun _ h => (qThen (h.ht (cont false (of_some hT30)))))
                    · rcases of_bif hT30 with ⟨hb39, hT30⟩ | ⟨hb39, hT30⟩
                      · exact HT.rgK [oH, ⟨none, .call [.imm tI, .imm tI, .imm tI] [⟨false, .bool, y32⟩] []⟩, oH, oH, ⟨some true, .no⟩, ⟨some true, .no⟩, ⟨none, .tv true⟩, oH, ⟨some false, .no⟩, ⟨some false, .no⟩, ⟨some false, .no⟩, ⟨some false, .no⟩, ⟨some false, .no⟩, ⟨some false, .no⟩, ⟨some false, .tv false⟩, ⟨none, .tv false⟩, oH, ⟨some false, .no⟩, ⟨some false, .no⟩, ⟨some false, .no⟩, ⟨some true, .no⟩, ⟨some true, .no⟩, ⟨some false, .tv true⟩, ⟨none, .tv false⟩] [(0, 0)] [] hX (by kernel_rfl) (allCons (f111_ok hc33) (allCons hb34 (allCons hb34 (allCons hb34 (allCons hb35 (allCons hb35 (allCons hb35 (allCons hb35 (allCons hb36 (allCons hb36 (allCons hb35 (allCons hb36 (allCons hb35 (allCons (rfl : false = false) (allCons (rfl : false = false) (allCons (rfl : false = false) (allCons hb39 (allCons hb39 (allCons (rfl : false = false) (allCons hb39 (allCons (rfl : false = false) allNil))))))))))))))))))))) (fun _ h => (qThen (h.ht (cont (decide ((List.getD a0.2 (Int.toNat y25) (0 : Int)) > (0 : Int))) (of_some hT30)))))
                      · exact HT.rgK [oH, ⟨none, .call [.imm tI, .imm tI, .imm tI] [⟨false, .bool, y32⟩] []⟩, oH, oH, ⟨some true, .no⟩, ⟨some true, .no⟩, ⟨none, .tv true⟩, oH, ⟨some false, .no⟩, ⟨some false, .no⟩, ⟨some false, .no⟩, ⟨some false, .no⟩, ⟨some false, .no⟩, ⟨some false, .no⟩, ⟨some false, .tv false⟩, ⟨none, .tv false⟩, oH, ⟨some false, .no⟩, ⟨some false, .no⟩, ⟨some false, .no⟩, ⟨some false, .no⟩, ⟨some false, .no⟩, ⟨some false, .tv false⟩, ⟨none, .tv false⟩] [(0, 0)] [] hX (by kernel_rfl) (allCons (f111_ok hc33) (allCons hb34 (allCons hb34 (allCons hb34 (allCons hb35 (allCons hb35 (allCons hb35 (allCons hb35 (allCons hb36 (allCons hb36 (allCons hb35 (allCons hb36 (allCons hb35 (allCons (rfl : false = false) (allCons (rfl : false = false) (allCons (rfl : false = false) (allCons hb39 (allCons hb39 (allCons (rfl : false = false) (allCons hb39 (allCons (rfl : false = false) allNil))))))))))))))))))))) (fun _ h => (qThen (h.ht (cont false (of_some hT30)))))
                · rcases of_bif hT30 with ⟨hb40, hT30⟩ | ⟨hb40, hT30⟩
                  · rcases of_bif hT30 with ⟨hb41, hT30⟩ | ⟨hb41, hT30⟩
                    · exact HT.rgK [oH, ⟨none, .call [.imm tI, .imm tI, .imm tI] [⟨false, .bool, y32⟩] []⟩, oH, oH, ⟨some false, .no⟩, ⟨some false, .no⟩, ⟨none, .tv false⟩, oH, ⟨some false, .no⟩, ⟨some false, .no⟩, ⟨some false, .no⟩, ⟨some false, .no⟩, ⟨some true, .no⟩, ⟨some true, .no⟩, ⟨some false, .tv true⟩, ⟨none, .tv false⟩, oH, ⟨some true, .no⟩, ⟨some true, .no⟩, ⟨some true, .no⟩, oH, oH, ⟨some true, .no⟩, ⟨none, .tv true⟩] [(0, 0)] [] hX (by kernel_rfl) (allCons (f111_ok hc33) (allCons hb34 (allCons hb34 (allCons hb34 (allCons (rfl : false = false) (allCons (rfl : false = false) (allCons (rfl : false = false) (allCons (rfl : false = false) (allCons hb40 (allCons hb40 (allCons (rfl : false = false) (allCons hb40 (allCons (rfl : false = false) (allCons hb41 (allCons hb41 (allCons hb41 (allCons hb41 (allCons hb41 allNil)))))))))))))))))) (fun _ h => (qThen (h.ht (cont true (of_some hT30)))))
                    · rcases of_bif hT30 with ⟨hb42, hT30⟩ | ⟨hb42, hT30⟩
                      · exact HT.rgK [oH, ⟨none, .call [.imm tI, .imm tI, .imm tI] [⟨false, .bool, y32⟩] []⟩, oH, oH, ⟨some false, .no⟩, ⟨some false, .no⟩, ⟨none, .tv false⟩, oH, ⟨some false, .no⟩, ⟨some false, .no⟩, ⟨some false, .no⟩, ⟨some false, .no⟩, ⟨some true, .no⟩, ⟨some true, .no⟩, ⟨some false, .tv true⟩, ⟨none, .tv false⟩, oH, ⟨some false, .no⟩, ⟨some false, .no⟩, ⟨some false, .no⟩, ⟨some true, .no⟩, ⟨some true, .no⟩, ⟨some false, .tv true⟩, ⟨none, .tv false⟩] [(0, 0)] [] hX (by kernel_rfl) (allCons (f111_ok hc33) (allCons hb34 (allCons hb34 (allCons hb34 (allCons (rfl : false = false) (allCons (rfl : false = false) (allCons (rfl : false = false) (allCons (rfl : false = false) (allCons hb40 (allCons hb40 (allCons (rfl : false = false) (allCons hb40 (allCons (rfl : false = false) (allCons hb41 (allCons hb41 (allCons hb41 (allCons hb42 (allCons hb42 (allCons hb41 (allCons hb42 (allCons hb41 allNil))))))))))))))))))))) (fun _ h => (qThen (h.ht (cont (decide ((List.getD a0.2 (Int.toNat y25) (0 : Int)) > (0 : Int))) (of_some hT30)))))
                      · exact HT.rgK [oH, ⟨none, .call [.imm tI, .imm tI, .imm tI] [⟨false, .bool, y32⟩] []⟩, oH, oH, ⟨some false, .no⟩, ⟨some false, .no⟩, ⟨none, .tv false⟩, oH, ⟨some false, .no⟩, ⟨some false, .no⟩, ⟨some false, .no⟩, ⟨some false, .no⟩, ⟨some true, .no⟩, ⟨some true, .no⟩, ⟨some false, .tv true⟩, ⟨none, .tv false⟩, oH, ⟨some false, .no⟩, ⟨some false, .no⟩, ⟨some false, .no⟩, ⟨some false, .no⟩, ⟨some false, .no⟩, ⟨some false, .tv false⟩, ⟨none, .tv false⟩] [(0, 0)] [] hX (by kernel_rfl) (allCons (f111_ok hc33) (allCons hb34 (allCons hb34 (allCons hb34 (allCons (rfl : false = false) (allCons (rfl : false = false) (allCons (rfl : false = false) (allCons (rfl : false = false) (allCons hb40 (allCons hb40 (allCons (rfl : false = false) (allCons hb40 (allCons (rfl : false = false) (allCons hb41 (allCons hb41 (allCons hb41 (allCons hb42 (allCons hb42 (allCons hb41 (allCons hb42 (allCons hb41 allNil))))))))))))))))))))) (fun _ h => (qThen (h.ht (cont false (of_some hT30)))))
                  · rcases of_bif hT30 with ⟨hb43, hT30⟩ | ⟨hb43, hT30⟩
                    · exact HT.rgK [oH, ⟨none, .call [.imm tI, .imm tI, .imm tI] [⟨false, .bool, y32⟩] []⟩, oH, oH, ⟨some false, .no⟩, ⟨some false, .no⟩, ⟨none, .tv false⟩, oH, ⟨some false, .no⟩, ⟨some false, .no⟩, ⟨some false, .no⟩, ⟨some false, .no⟩, ⟨some false, .no⟩, ⟨some false, .no⟩, ⟨some false, .tv false⟩, ⟨none, .tv false⟩, oH, ⟨some false, .no⟩, ⟨some false, .no⟩, ⟨some false, .no⟩, ⟨some true, .no⟩, ⟨some true, .no⟩, ⟨some false, .tv true⟩, ⟨none, .tv false⟩] [(0, 0)] [] hX (by kernel_rfl) (allCons (f111_ok hc33) (allCons hb34 (allCons hb34 (allCons hb34 (allCons (rfl : false = false) (allCons (rfl : false = false) (allCons (rfl : false = false) (allCons (rfl : false = false) (allCons hb40 (allCons hb40 (allCons (rfl : false = false) (allCons hb40 (allCons (rfl : false = false) (allCons (rfl : false = false) (allCons (rfl : false = false) (allCons (rfl : false = false) (allCons hb43 (allCons hb43 (allCons (rfl : false = false) (allCons hb43 (allCons (rfl : false = false) allNil))))))))))))))))))))) (fun _ h => (qThen (h.ht (cont (decide ((List.getD a0.2 (Int.toNat y25) (0 : Int)) > (0 : Int))) (of_some hT30)))))
                    · exact HT.rgK [oH, ⟨none, .call [.imm tI, .imm tI, .imm tI] [⟨false, .bool, y32⟩] []⟩, oH, oH, ⟨some false, .no⟩, ⟨some false, .no⟩, ⟨none, .tv false⟩, oH, ⟨some false, .no⟩, ⟨some false, .no⟩, ⟨some false, .no⟩, ⟨some false, .no⟩, ⟨some false, .no⟩, ⟨some false, .no⟩, ⟨some false, .tv false⟩, ⟨none, .tv false⟩, oH, ⟨some false, .no⟩, ⟨some false, .no⟩, ⟨some false, .no⟩, ⟨some false, .no⟩, ⟨some false, .no⟩, ⟨some false, .tv false⟩, ⟨none, .tv false⟩] [(0, 0)] [] hX (by kernel_rfl) (allCons (f111_ok hc33) (allCons hb34 (allCons hb34 (allCons hb34 (allCons (rfl : false = false) (allCons (rfl : false = false) (allCons (rfl : false = false) (allCons (rfl : false = false) (allCons hb40 (allCons hb40 (allCons (rfl : false = false) (allCons hb40 (allCons (rfl : false = false) (allCons (rfl : false = false) (allCons (rfl : false = false) (allCons (rfl : false = false) (allCons hb43 (allCons hb43 (allCons (rfl : false = false) (allCons hb43 (allCons (rfl : false = false) allNil))))))))))))))))))))) (fun _ h => (qThen (h.ht (cont false (of_some hT30)))))
            · refine HT.cond0 rfl hb24 ?_
              have hx22 := of_some hx22
              subst hx22
              exact HT.exitL (Le.re [(0, 0)] [] hX (by kernel_rfl)) (qThenE (qLoopE (hk23 (.inl ()) rfl)))
        · refine HT.cond0 rfl hb14 ?_
          have hx12 := of_some hx12
          subst hx12
          exact HT.exitL (Le.re [] [] hX (by kernel_rfl)) (qThenE (qLoopE (hk13 (.inl ()) rfl)))
  · obtain ⟨y46, hc47, hT3⟩ := of_bind hT3
    rcases of_bif hT3 with ⟨hb48, hT3⟩ | ⟨hb48, hT3⟩
    · exact HT.drK 13 [⟨oH, []⟩, ⟨oH, [0]⟩, ⟨⟨none, .call [.imm tI, .imm tI, .imm tI] [⟨false, .bool, y46⟩] []⟩, [0, 1]⟩, ⟨oH, [0, 1, 2]⟩, ⟨oH, [0, 1, 2, 3]⟩, ⟨⟨some true, .no⟩, [0, 1, 2, 3, 4]⟩, ⟨⟨some true, .no⟩, [0, 1, 2, 3, 4, 5]⟩, ⟨⟨some true, .no⟩, [0, 1, 2, 3, 4, 5, 6]⟩, ⟨⟨some true, .no⟩, [0, 1, 2, 3, 4]⟩, ⟨⟨some true, .no⟩, [0, 1, 2, 3, 4, 8]⟩, ⟨⟨some true, .no⟩, [0, 1, 2, 3, 4]⟩, ⟨⟨some true, .no⟩, [0, 1, 2, 3, 4, 8, 9, 10]⟩, ⟨⟨some true, .no⟩, [0, 1, 2, 3, 4, 8, 9, 10, 11]⟩] [[0, 1, 2, 3, 4, 5, 6, 7, 8, 9, 10, 11, 12], [0, 1, 2, 3, 4, 5, 6, 7, 8, 9, 10, 11, 12, 13]] [⟨some true, .no⟩, ⟨none, .tv true⟩] [(0, 0)] [] hX (by kernel_rfl) (by kernel_rfl) (allCons (f111_ok hc47) (allCons hb48 (allCons hb48 (allCons hb48 (allCons hb48 (allCons hb48 (allCons hb48 (allCons hb48 (allCons hb48 (allCons hb48 (allCons hb48 allNil))))))))))) (fun _ h => (qThen (h.ht (cont true (of_some hT3)))))
    · obtain ⟨y49, hc50, hT3⟩ := of_bind hT3
      obtain ⟨y51, hc52, hT3⟩ := of_bind hT3
      exact HT.drK 13 [⟨oH, []⟩, ⟨oH, [0]⟩, ⟨⟨none, .call [.imm tI, .imm tI, .imm tI] [⟨false, .bool, y46⟩] []⟩, [0, 1]⟩, ⟨oH, [0, 1, 2]⟩, ⟨oH, [0, 1, 2, 3]⟩, ⟨⟨some false, .no⟩, [0, 1, 2, 3, 4]⟩, ⟨⟨some false, .no⟩, [0, 1, 2, 3, 4, 5]⟩, ⟨⟨some false, .no⟩, [0, 1, 2, 3, 4, 5, 6]⟩, ⟨⟨some false, .no⟩, [0, 1, 2, 3, 4]⟩, ⟨⟨some false, .call [.imm (.st (.pair tI tLI))] [⟨false, tI, y49⟩] []⟩, [0, 1, 2, 3, 4, 8]⟩, ⟨⟨some false, .no⟩, [0, 1, 2, 3, 4]⟩, ⟨⟨some false, .call [.imm (.st (.pair tI tLI))] [⟨false, tI, y51⟩] []⟩, [0, 1, 2, 3, 4, 8, 9, 10]⟩, ⟨⟨some false, .no⟩, [0, 1, 2, 3, 4, 8, 9, 10, 11]⟩] [[0, 1, 2, 3, 4, 5, 6, 7, 8, 9, 10, 11, 12], [0, 1, 2, 3, 4, 5, 6, 7, 8, 9, 10, 11, 12, 13]] [⟨some false, .no⟩, ⟨none, .tv false⟩] [(0, 0)] [] hX (by kernel_rfl) (by kernel_rfl) (allCons (f111_ok hc47) (allCons hb48 (allCons hb48 (allCons hb48 (allCons hb48 (allCons hb48 (allCons (f106_ok hc50) (allCons hb48 (allCons hb48 (allCons (f106_ok hc52) (allCons hb48 (allCons hb48 (allCons hb48 allNil))))))))))))) (fun _ h => (qThen (h.ht (cont ((lenI a0.2) != (wmul .i64 y49 y51)) (of_some hT3)))))

theorem f105_ok {xs y : List Int} (h : slices_Clone xs = some y) : CallOK Try.prog 105 [.imm tLI xs] [⟨true, tLI, y⟩] [] := by
  obtain ⟨hg, h⟩ := of_guard h
  have h := of_some h
  subst h
  refine CallOK.of_body (ts := [(true, tLI)]) Try.func105 rfl (by kernel_rfl) (Nat.le_of_ble_eq_true (by kernel_rfl)) fun cx hP hN hO hF => ?_
  show HT cx ⟨[(0, .one (.dat tLI xs))], [], 0⟩ _ _
  refine HT.reg1 [0] [⟨none, .no⟩] ⟨[(0, .one (.dat tLI xs))], [], 0⟩ hP hN (by kernel_rfl) allNil ?_
  refine HT.seq ?_
  refine HT.isNil (t3 := 3) (t4 := 4) (v := .one (.dat tLI xs)) (t := tI) (xs := xs) (st1 := ⟨[(3, .one (.dat tLI xs)), (0, .one (.dat tLI xs))], [], 0⟩) hP hN (by kernel_rfl) rfl rfl rfl rfl (e := 2) (by kernel_rfl) rfl rfl (fun b hb => ?_)
  show HT cx ⟨[(4, .one (.dat .bool b)), (3, .one (.dat tLI xs)), (0, .one (.dat tLI xs))], [], 0⟩ _ _
  cases b with
  | true =>
    have e := hb rfl
    subst e
    refine HT.cond1 rfl rfl ?_
    refine HT.reg1 [2] [⟨none, .no⟩] ⟨[(2, .one .nilS)], [], 0⟩ hP hN (by kernel_rfl) allNil ?_
    exact HT.ret (qThenR ⟨[.one .nilS], [], [], by kernel_rfl, by kernel_rfl, rfl, by kernel_rfl, by kernel_rfl, trivial⟩)
  | false =>
    refine HT.cond0 rfl rfl ?_
    refine HT.skip (qThen ?_)
    refine HT.reg1 [2] [⟨none, .no⟩, ⟨none, .no⟩, ⟨none, .ty tI⟩, ⟨none, .no⟩] ⟨[(2, .one (.all 0))], [(0, .seq tI xs)], 1⟩ hP hN (by kernel_rfl) (allCons hg allNil) ?_
    exact HT.ret ⟨[.one (.all 0)], [0], [], by kernel_rfl, by kernel_rfl, rfl, by kernel_rfl, by kernel_rfl, trivial⟩

noncomputable def impl_TightZone_B1 (a0 : Int × List Int) (s8 : Int × List Int) (s20 : Int × List Int) (y27 : Int) (s29 : Int × List Int) : Option ((Int × List Int) ⊕ (List Int)) :=
  bif (decide (s29.1 < y27)) then
    (show Option (List Int) from
      (impl_Zone_at (a0.1, a0.2) s20.1 s8.1).bind fun y39 =>
      guardP ((0 : Int) ≤ y39 ∧ y39 < lenI s29.2) (
        (impl_Zone_at (a0.1, a0.2) s8.1 s29.1).bind fun y42 =>
        guardP ((0 : Int) ≤ y42 ∧ y42 < lenI s29.2) (
          (show Option (Bool) from
            bif ((List.getD s29.2 (Int.toNat y39) (0 : Int)) != (1000000000 : Int)) then
              some ((List.getD s29.2 (Int.toNat y42) (0 : Int)) != (1000000000 : Int))
            else
              some false).bind fun v45 =>
          bif v45 then
            (impl_Zone_at (a0.1, a0.2) s20.1 s29.1).bind fun y49 =>
            (impl_Zone_at (a0.1, a0.2) s20.1 s29.1).bind fun y51 =>
            guardP ((0 : Int) ≤ y51 ∧ y51 < lenI s29.2) (
              guardP ((0 : Int) ≤ y49 ∧ y49 < lenI s29.2) (
                some (List.set s29.2 (Int.toNat y49) (if (wadd .i64 (List.getD s29.2 (Int.toNat y39) (0 : Int)) (List.getD s29.2 (Int.toNat y42) (0 : Int))) < (List.getD s29.2 (Int.toNat y51) (0 : Int)) then (wadd .i64 (List.getD s29.2 (Int.toNat y39) (0 : Int)) (List.getD s29.2 (Int.toNat y42) (0 : Int))) else (List.getD s29.2 (Int.toNat y51) (0 : Int))))))
          else
            some s29.2))).bind fun v36 =>
    some (.inl ((wadd .i64 s29.1 (1 : Int)), v36))
  else
    some (.inr s29.2)

noncomputable def impl_TightZone_B2 (a0 : Int × List Int) (s8 : Int × List Int) (y18 : Int) (s20 : Int × List Int) : Option ((Int × List Int) ⊕ (List Int)) :=
  bif (decide (s20.1 < y18)) then
    (impl_Zone_wide (a0.1, a0.2)).bind fun y27 =>
    (rounds (impl_TightZone_B1 a0 s8 s20 y27) ((0 : Int), s20.2)).bind fun r31 =>
    some (.inl ((wadd .i64 s20.1 (1 : Int)), r31))
  else
    some (.inr s20.2)

noncomputable def impl_TightZone_B3 (a0 : Int × List Int) (y6 : Int) (s8 : Int × List Int) : Option ((Int × List Int) ⊕ (List Int)) :=
  bif (decide (s8.1 < y6)) then
    (impl_Zone_wide (a0.1, a0.2)).bind fun y18 =>
    (rounds (impl_TightZone_B2 a0 s8 y18) ((0 : Int), s8.2)).bind fun r22 =>
    some (.inl ((wadd .i64 s8.1 (1 : Int)), r22))
  else
    some (.inr s8.2)

noncomputable def impl_TightZone (a0 : Int × List Int) : Option ((Int × List Int) × Bool) :=
  (impl_ValidZone (a0.1, a0.2)).bind fun y1 =>
  bif (!y1) then
    some (((0 : Int), ([] : List Int)), false)
  else
    (slices_Clone a0.2).bind fun y4 =>
    (impl_Zone_wide (a0.1, a0.2)).bind fun y6 =>
    (rounds (impl_TightZone_B3 a0 y6) ((0 : Int), y4)).bind fun r10 =>
    (impl_ValidZone (a0.1, r10)).bind fun y11 =>
    bif (!y11) then
      some (((0 : Int), ([] : List Int)), false)
    else
      some ((a0.1, r10), true)

theorem f21_ok {a0 : Int × List Int} {r : (Int × List Int) × Bool} (hr : impl_TightZone a0 = some r) : CallOK Try.prog 21 [.imm (.st (.pair tI tLI)) a0] [⟨true, (.st (.pair tI tLI)), r.1⟩, ⟨false, .bool, r.2⟩] [] := by
  unfold impl_TightZone at hr
  refine CallOK.of_body (ts := [(true, (.st (.pair tI tLI))), (false, .bool)]) Try.func21 rfl (by kernel_rfl) (Nat.le_of_ble_eq_true (by kernel_rfl)) fun cx hP hN hO hF => ?_
  have hO : cx.own.map Prod.fst = [] := hO
  have hX := CxIs.mk hP hN hO
  have hF := hF rfl
  show HT cx ⟨[(0, .agg [iC a0.1, nC a0.2])], [], 0⟩ _ _
  refine HT.rg2 (oHs 3) ⟨[(1, pV 0 0), (2, pV 1 0)], [(1, .box [iC (0 : Int), .nilS]), (0, .box [iC a0.1, nC a0.2])], 2⟩ hX (by kernel_rfl) allNil ?_
  refine HT.seq ?_
  obtain ⟨y1, hc2, hr⟩ := of_bind hr
  refine HT.rg2 [oH, ⟨none, .call [.imm (.st (.pair tI tLI))] [⟨false, .bool, y1⟩] []⟩, oH] ⟨[(1, pV 0 0), (2, pV 1 0), (12, bV (!y1))], [(1, .box [iC (0 : Int), .nilS]), (0, .box [iC a0.1, nC a0.2])], 2⟩ hX (by kernel_rfl) (allCons (f29_ok hc2) allNil) ?_
  rcases of_bif hr with ⟨hb3, hr⟩ | ⟨hb3, hr⟩
  · refine HT.cond1 rfl hb3 ?_
    refine HT.rg2 (oHs 3) ⟨[(2, pV 1 0), (3, bV false)], [(1, .box [iC (0 : Int), .nilS])], 2⟩ hX (by kernel_rfl) allNil ?_
    have hr := of_some hr
    subst hr
    exact HT.ret (qThenR ⟨[.agg [iC (0 : Int), .nilS], bV false], [], [], by kernel_rfl, by kernel_rfl, rfl, by kernel_rfl, by kernel_rfl, trivial⟩)
  · refine HT.cond0 rfl hb3 ?_
    refine HT.skip (qThen ?_)
    obtain ⟨y4, hc5, hr⟩ := of_bind hr
    refine HT.dr2 7 [⟨oH, []⟩, ⟨oH, [0]⟩, ⟨oH, []⟩, ⟨oH, [2]⟩, ⟨⟨none, .call [.imm tLI] [⟨true, tLI, y4⟩] []⟩, [2, 3]⟩, ⟨oH, [0, 1, 2, 3, 4]⟩, ⟨oH, []⟩] [[0, 1, 2, 3, 4, 5, 6]] [oH] ⟨[(1, pV 0 0), (2, pV 1 0), (4, pV 3 0)], [(3, .box [iC a0.1, .all 2]), (2, .seq tI y4), (1, .box [iC (0 : Int), .nilS]), (0, .box [iC a0.1, nC a0.2])], 4⟩ hX (by kernel_rfl) (by kernel_rfl) (allCons (f105_ok hc5) allNil) ?_
    refine HT.seq ?_
    obtain ⟨y6, hc7, hr⟩ := of_bind hr
    refine HT.rg2 [oH, ⟨none, .call [.imm (.st (.pair tI tLI))] [⟨false, tI, y6⟩] []⟩, oH] ⟨[(1, pV 0 0), (2, pV 1 0), (4, pV 3 0), (21, iV y6), (22, iV (0 : Int))], [(3, .box [iC a0.1, .all 2]), (2, .seq tI y4), (1, .box [iC (0 : Int), .nilS]), (0, .box [iC a0.1, nC a0.2])], 4⟩ hX (by kernel_rfl) (allCons (f106_ok hc7) allNil) ?_
    refine HT.block ?_
    obtain ⟨r9, hL58, hr⟩ := of_bind hr
    refine HT.loopL (fun (s8 : Int × List Int) => ⟨[(1, pV 0 0), (2, pV 1 0), (4, pV 2 0), (21, iV y6), (22, iV s8.1)], [(0, .box [iC a0.1, nC a0.2]), (1, .box [iC (0 : Int), .nilS]), (2, .box [iC a0.1, .all 3]), (3, .seq tI s8.2)], 4⟩) (fun (r10 : List Int) => (.exit 0, ⟨[(2, pV 0 0), (4, pV 1 0)], [(0, .box [iC (0 : Int), .nilS]), (1, .box [iC a0.1, .all 2]), (2, .seq tI r10)], 3⟩)) (Le.re [(0, 0), (1, 1), (3, 2), (2, 3)] [] hX (by kernel_rfl)) hL58 ?_ (fun s8 x14 hx15 hk16 => ?_)
    · refine (qBlockX (qThen ?_))
      refine HT.seq ?_
      obtain ⟨y11, hc12, hr⟩ := of_bind hr
      refine HT.rg2 [oH, ⟨none, .call [.imm (.st (.pair tI tLI))] [⟨false, .bool, y11⟩] []⟩, oH] ⟨[(2, pV 0 0), (4, pV 1 0), (81, bV (!y11))], [(0, .box [iC (0 : Int), .nilS]), (1, .box [iC a0.1, .all 2]), (2, .seq tI r9)], 3⟩ hX (by kernel_rfl) (allCons (f29_ok hc12) allNil) ?_
      rcases of_bif hr with ⟨hb13, hr⟩ | ⟨hb13, hr⟩
      · refine HT.cond1 rfl hb13 ?_
        refine HT.rg2 (oHs 3) ⟨[(2, pV 0 0), (3, bV false)], [(0, .box [iC (0 : Int), .nilS])], 3⟩ hX (by kernel_rfl) allNil ?_
        have hr := of_some hr
        subst hr
        exact HT.ret (qThenR ⟨[.agg [iC (0 : Int), .nilS], bV false], [], [], by kernel_rfl, by kernel_rfl, rfl, by kernel_rfl, by kernel_rfl, trivial⟩)
      · refine HT.cond0 rfl hb13 ?_
        refine HT.skip (qThen ?_)
        refine HT.rg2 (oHs 3) ⟨[(2, pV 0 0), (3, bV true)], [(0, .box [iC a0.1, .all 2]), (2, .seq tI r9)], 3⟩ hX (by kernel_rfl) allNil ?_
        have hr := of_some hr
        subst hr
        exact HT.ret ⟨[.agg [iC a0.1, .all 2], bV true], [2], [], by kernel_rfl, by kernel_rfl, rfl, by kernel_rfl, by kernel_rfl, trivial⟩
    · refine HT.rg2 [oH] ⟨[(1, pV 0 0), (2, pV 1 0), (4, pV 2 0), (21, iV y6), (22, iV s8.1), (23, bV (decide (s8.1 < y6)))], [(0, .box [iC a0.1, nC a0.2]), (1, .box [iC (0 : Int), .nilS]), (2, .box [iC a0.1, .all 3]), (3, .seq tI s8.2)], 4⟩ hX (by kernel_rfl) allNil ?_
      refine HT.seq ?_
      rcases of_bif hx15 with ⟨hb17, hx15⟩ | ⟨hb17, hx15⟩
      · refine HT.cond1 rfl hb17 ?_
        refine HT.skip (qThen ?_)
        refine HT.seq ?_
        refine HT.block ?_
        refine HT.rg2 (oHs 2) ⟨[(1, pV 0 0), (2, pV 1 0), (4, pV 2 0), (5, iV s8.1), (21, iV y6), (22, iV s8.1)], [(0, .box [iC a0.1, nC a0.2]), (1, .box [iC (0 : Int), .nilS]), (2, .box [iC a0.1, .all 3]), (3, .seq tI s8.2)], 4⟩ hX (by kernel_rfl) allNil ?_
        obtain ⟨y18, hc19, hx15⟩ := of_bind hx15
        refine HT.rg2 [oH, ⟨none, .call [.imm (.st (.pair tI tLI))] [⟨false, tI, y18⟩] []⟩, oH] ⟨[(1, pV 0 0), (2, pV 1 0), (4, pV 2 0), (5, iV s8.1), (21, iV y6), (22, iV s8.1), (26, iV y18), (27, iV (0 : Int))], [(0, .box [iC a0.1, nC a0.2]), (1, .box [iC (0 : Int), .nilS]), (2, .box [iC a0.1, .all 3]), (3, .seq tI s8.2)], 4⟩ hX (by kernel_rfl) (allCons (f106_ok hc19) allNil) ?_
        refine HT.block ?_
        obtain ⟨r21, hL57, hx15⟩ := of_bind hx15
        refine HT.loopL (fun (s20 : Int × List Int) => ⟨[(1, pV 0 0), (2, pV 1 0), (4, pV 2 0), (5, iV s8.1), (21, iV y6), (22, iV s8.1), (26, iV y18), (27, iV s20.1)], [(0, .box [iC a0.1, nC a0.2]), (1, .box [iC (0 : Int), .nilS]), (2, .box [iC a0.1, .all 3]), (3, .seq tI s20.2)], 4⟩) (fun (r22 : List Int) => (.exit 2, ⟨[(1, pV 0 0), (2, pV 1 0), (4, pV 2 0), (21, iV y6), (22, iV s8.1)], [(0, .box [iC a0.1, nC a0.2]), (1, .box [iC (0 : Int), .nilS]), (2, .box [iC a0.1, .all 3]), (3, .seq tI r22)], 4⟩)) (Le.re [(0, 0), (1, 1), (2, 2), (3, 3)] [] hX (by kernel_rfl)) hL57 ?_ (fun s20 x23 hx24 hk25 => ?_)
        · refine (qBlockX (qBlock (qThen ?_)))
          have hx15 := of_some hx15
          subst hx15
          exact HT.rgK (oHs 2) [(0, 0), (1, 1), (2, 2), (3, 3)] [] hX (by kernel_rfl) allNil (fun _ h => (qLoopN ⟨((wadd .i64 s8.1 (1 : Int)), r21), rfl, h⟩))
        · refine HT.rg2 [oH] ⟨[(1, pV 0 0), (2, pV 1 0), (4, pV 2 0), (5, iV s8.1), (21, iV y6), (22, iV s8.1), (26, iV y18), (27, iV s20.1), (28, bV (decide (s20.1 < y18)))], [(0, .box [iC a0.1, nC a0.2]), (1, .box [iC (0 : Int), .nilS]), (2, .box [iC a0.1, .all 3]), (3, .seq tI s20.2)], 4⟩ hX (by kernel_rfl) allNil ?_
          refine HT.seq ?_
          rcases of_bif hx24 with ⟨hb26, hx24⟩ | ⟨hb26, hx24⟩
          · refine HT.cond1 rfl hb26 ?_
            refine HT.skip (qThen ?_)
            refine HT.seq ?_
            refine HT.block ?_
            refine HT.rg2 (oHs 2) ⟨[(1, pV 0 0), (2, pV 1 0), (4, pV 2 0), (5, iV s8.1), (6, iV s20.1), (21, iV y6), (22, iV s8.1), (26, iV y18), (27, iV s20.1)], [(0, .box [iC a0.1, nC a0.2]), (1, .box [iC (0 : Int), .nilS]), (2, .box [iC a0.1, .all 3]), (3, .seq tI s20.2)], 4⟩ hX (by kernel_rfl) allNil ?_
            obtain ⟨y27, hc28, hx24⟩ := of_bind hx24
            refine HT.rg2 [oH, ⟨none, .call [.imm (.st (.pair tI tLI))] [⟨false, tI, y27⟩] []⟩, oH] ⟨[(1, pV 0 0), (2, pV 1 0), (4, pV 2 0), (5, iV s8.1), (6, iV s20.1), (21, iV y6), (22, iV s8.1), (26, iV y18), (27, iV s20.1), (31, iV y27), (32, iV (0 : Int))], [(0, .box [iC a0.1, nC a0.2]), (1, .box [iC (0 : Int), .nilS]), (2, .box [iC a0.1, .all 3]), (3, .seq tI s20.2)], 4⟩ hX (by kernel_rfl) (allCons (f106_ok hc28) allNil) ?_
            refine HT.block ?_
            obtain ⟨r30, hL56, hx24⟩ := of_bind hx24
            refine HT.loopL (fun (s29 : Int × List Int) => ⟨[(1, pV 0 0), (2, pV 1 0), (4, pV 2 0), (5, iV s8.1), (6, iV s20.1), (21, iV y6), (22, iV s8.1), (26, iV y18), (27, iV s20.1), (31, iV y27), (32, iV s29.1)], [(0, .box [iC a0.1, nC a0.2]), (1, .box [iC (0 : Int), .nilS]), (2, .box [iC a0.1, .all 3]), (3, .seq tI s29.2)], 4⟩) (fun (r31 : List Int) => (.exit 4, ⟨[(1, pV 0 0), (2, pV 1 0), (4, pV 2 0), (5, iV s8.1), (21, iV y6), (22, iV s8.1), (26, iV y18), (27, iV s20.1)], [(0, .box [iC a0.1, nC a0.2]), (1, .box [iC (0 : Int), .nilS]), (2, .box [iC a0.1, .all 3]), (3, .seq tI r31)], 4⟩)) (Le.re [(0, 0), (1, 1), (2, 2), (3, 3)] [] hX (by kernel_rfl)) hL56 ?_ (fun s29 x32 hx33 hk34 => ?_)
            · refine (qBlockX (qBlock (qThen ?_)))
              have hx24 := of_some hx24
              subst hx24
              exact HT.rgK (oHs 2) [(0, 0), (1, 1), (2, 2), (3, 3)] [] hX (by kernel_rfl) allNil (fun _ h => (qLoopN ⟨((wadd .i64 s20.1 (1 : Int)), r30), rfl, h⟩))
            · refine HT.rg2 [oH] ⟨[(1, pV 0 0), (2, pV 1 0), (4, pV 2 0), (5, iV s8.1), (6, iV s20.1), (21, iV y6), (22, iV s8.1), (26, iV y18), (27, iV s20.1), (31, iV y27), (32, iV s29.1), (33, bV (decide (s29.1 < y27)))], [(0, .box [iC a0.1, nC a0.2]), (1, .box [iC (0 : Int), .nilS]), (2, .box [iC a0.1, .all 3]), (3, .seq tI s29.2)], 4⟩ hX (by kernel_rfl) allNil ?_
              refine HT.seq ?_
              rcases of_bif hx33 with ⟨hb35, hx33⟩ | ⟨hb35, hx33⟩
              · refine HT.cond1 rfl hb35 ?_
                refine HT.skip (qThen ?_)
                obtain ⟨v36', hT38, hx33⟩ := of_bind hx33
                refine HT.join (fun (v36 : List Int) => ⟨[(1, pV 0 0), (2, pV 1 0), (4, pV 2 0), (5, iV s8.1), (6, iV s20.1), (21, iV y6), (22, iV s8.1), (26, iV y18), (27, iV s20.1), (31, iV y27), (32, iV s29.1)], [(0, .box [iC a0.1, nC a0.2]), (1, .box [iC (0 : Int), .nilS]), (2, .box [iC a0.1, .all 3]), (3, .seq tI v36)], 4⟩) (fun v => v = v36') (fun v36 hv37 => ?_) (fun cont => ?_)
                · subst hv37
                  have hx33 := of_some hx33
                  subst hx33
                  exact HT.rgK (oHs 2) [(0, 0), (1, 1), (2, 2), (3, 3)] [] hX (by kernel_rfl) allNil (fun _ h => (qLoopN ⟨((wadd .i64 s29.1 (1 : Int)), v36), rfl, h⟩))
                · refine HT.block ?_
                  refine HT.rg2 (oHs 2) ⟨[(1, pV 0 0), (2, pV 1 0), (4, pV 2 0), (5, iV s8.1), (6, iV s20.1), (7, iV s29.1), (21, iV y6), (22, iV s8.1), (26, iV y18), (27, iV s20.1), (31, iV y27), (32, iV s29.1)], [(0, .box [iC a0.1, nC a0.2]), (1, .box [iC (0 : Int), .nilS]), (2, .box [iC a0.1, .all 3]), (3, .seq tI s29.2)], 4⟩ hX (by kernel_rfl) allNil ?_
                  obtain ⟨y39, hc40, hT38⟩ := of_bind hT38
                  obtain ⟨hg41, hT38⟩ := of_guard hT38
                  obtain ⟨y42, hc43, hT38⟩ := of_bind hT38
                  obtain ⟨hg44, hT38⟩ := of_guard hT38
                  refine HT.dr2 17 [⟨oH, []⟩, ⟨oH, [0]⟩, ⟨oH, []⟩, ⟨oH, []⟩, ⟨oH, []⟩, ⟨⟨none, .call [.imm (.st (.pair tI tLI)), .imm tI, .imm tI] [⟨false, tI, y39⟩] []⟩, [2, 3, 4]⟩, ⟨oH, [0, 1, 2, 3, 4, 5]⟩, ⟨oH, [0, 1, 2, 3, 4, 5, 6]⟩, ⟨oH, []⟩, ⟨oH, [8]⟩, ⟨oH, []⟩, ⟨oH, []⟩, ⟨oH, []⟩, ⟨⟨none, .call [.imm (.st (.pair tI tLI)), .imm tI, .imm tI] [⟨false, tI, y42⟩] []⟩, [2, 3, 4, 5, 10, 11, 12]⟩, ⟨oH, [2, 3, 4, 5, 8, 9, 10, 11, 12, 13]⟩, ⟨oH, [2, 3, 4, 5, 8, 9, 10, 11, 12, 13, 14]⟩, ⟨oH, [0, 1, 2, 3, 4, 5, 6, 7, 10, 11, 12, 13]⟩] [[0, 1, 2, 3, 4, 5, 6, 7, 8, 9, 10, 11, 12, 13, 14, 15, 16]] [oH] ⟨[(1, pV 0 0), (2, pV 1 0), (4, pV 2 0), (5, iV s8.1), (6, iV s20.1), (7, iV s29.1), (8, iV (List.getD s29.2 (Int.toNat y39) (0 : Int))), (9, iV (List.getD s29.2 (Int.toNat y42) (0 : Int))), (21, iV y6), (22, iV s8.1), (26, iV y18), (27, iV s20.1), (31, iV y27), (32, iV s29.1)], [(0, .box [iC a0.1, nC a0.2]), (1, .box [iC (0 : Int), .nilS]), (2, .box [iC a0.1, .all 3]), (3, .seq tI s29.2)], 4⟩ hX (by kernel_rfl) (by kernel_rfl) (allCons (f107_ok hc40) (allCons hg41 (allCons (natLt hg41) (allCons (f107_ok hc43) (allCons hg44 (allCons (natLt hg44) allNil)))))) ?_
                  obtain ⟨v45', hT47, hT38⟩ := of_bind hT38
                  refine HT.join (fun (v45 : Bool) => ⟨[(1, pV 0 0), (2, pV 1 0), (4, pV 2 0), (5, iV s8.1), (6, iV s20.1), (7, iV s29.1), (8, iV (List.getD s29.2 (Int.toNat y39) (0 : Int))), (9, iV (List.getD s29.2 (Int.toNat y42) (0 : Int))), (21, iV y6), (22, iV s8.1), (26, iV y18), (27, iV s20.1), (31, iV y27), (32, iV s29.1), (56, bV v45)], [(0, .box [iC a0.1, nC a0.2]), (1, .box [iC (0 : Int), .nilS]), (2, .box [iC a0.1, .all 3]), (3, .seq tI s29.2)], 4⟩) (fun v => v = v45') (fun v45 hv46 => ?_) (fun cont => ?_)
                  · subst hv46
                    rcases of_bif hT38 with ⟨hb48, hT38⟩ | ⟨hb48, hT38⟩
                    · refine HT.cond1 rfl hb48 ?_
                      obtain ⟨y49, hc50, hT38⟩ := of_bind hT38
                      obtain ⟨y51, hc52, hT38⟩ := of_bind hT38
                      obtain ⟨hg53, hT38⟩ := of_guard hT38
                      obtain ⟨hg54, hT38⟩ := of_guard hT38
                      exact HT.drK 18 [⟨oH, []⟩, ⟨oH, [0]⟩, ⟨oH, []⟩, ⟨oH, []⟩, ⟨oH, []⟩, ⟨⟨none, .call [.imm (.st (.pair tI tLI)), .imm tI, .imm tI] [⟨false, tI, y49⟩] []⟩, [2, 3, 4]⟩, ⟨oH, []⟩, ⟨oH, [6]⟩, ⟨oH, []⟩, ⟨oH, []⟩, ⟨oH, []⟩, ⟨⟨none, .call [.imm (.st (.pair tI tLI)), .imm tI, .imm tI] [⟨false, tI, y51⟩] []⟩, [2, 3, 4, 5, 8, 9, 10]⟩, ⟨oH, [2, 3, 4, 5, 6, 7, 8, 9, 10, 11]⟩, ⟨oH, [2, 3, 4, 5, 6, 7, 8, 9, 10, 11, 12]⟩, ⟨oH, []⟩, ⟨oH, []⟩, ⟨oH, [14, 15]⟩, ⟨oH, [2, 3, 4, 5, 6, 7, 8, 9, 10, 11, 12, 13, 14, 15, 16]⟩] [[0, 1, 2, 3, 4, 5, 6, 7, 8, 9, 10, 11, 12, 13, 14, 15, 16, 17], [0, 1, 2, 3, 4, 5, 6, 7, 8, 9, 10, 11, 12, 13, 14, 15, 16, 17, 18]] (oHs 2) [(0, 0), (1, 1), (2, 2), (3, 3)] [] hX (by kernel_rfl) (by kernel_rfl) (allCons (f107_ok hc50) (allCons (f107_ok hc52) (allCons hg53 (allCons (natLt hg53) (allCons hg54 (allCons (natLt hg54) allNil)))))) (fun _ h => (qBlock (qThen (h.ht (cont (List.set s29.2 (Int.toNat y49) (if (wadd .i64 (List.getD s29.2 (Int.toNat y39) (0 : Int)) (List.getD s29.2 (Int.toNat y42) (0 : Int))) < (List.getD s29.2 (Int.toNat y51) (0 : Int)) then (wadd .i64 (List.getD s29.2 (Int.toNat y39) (0 : Int)) (List.getD s29.2 (Int.toNat y42) (0 : Int))) else (List.getD s29.2 (Int.toNat y51) (0 : Int)))) (of_some hT38))))))
                    · refine HT.cond0 rfl hb48 ?_
                      refine HT.skip (qBlock (qThen ?_))
                      exact (Le.re [(0, 0), (1, 1), (2, 2), (3, 3)] [] hX (by kernel_rfl)).ht (cont s29.2 (of_some hT38))
                  · rcases of_bif hT47 with ⟨hb55, hT47⟩ | ⟨hb55, hT47⟩
                    · exact HT.rgK [oH, oH, oH, ⟨some true, .no⟩, ⟨some true, .no⟩, ⟨none, .tv true⟩] [(0, 0), (1, 1), (2, 2), (3, 3)] [] hX (by kernel_rfl) (allCons hb55 (allCons hb55 (allCons hb55 allNil))) (fun _ h => (qThen (h.ht (cont ((List.getD s29.2 (Int.toNat y42) (0 : Int)) != (1000000000 : Int)) (of_some hT47)))))
                    · exact HT.rgK [oH, oH, oH, ⟨some false, .no⟩, ⟨some false, .no⟩, ⟨none, .tv false⟩] [(0, 0), (1, 1), (2, 2), (3, 3)] [] hX (by kernel_rfl) (allCons hb55 (allCons hb55 (allCons hb55 allNil))) (fun _ h => (qThen (h.ht (cont false (of_some hT47)))))
              · refine HT.cond0 rfl hb35 ?_
                have hx33 := of_some hx33
                subst hx33
                exact HT.exitL (Le.re [(0, 0), (1, 1), (2, 2), (3, 3)] [] hX (by kernel_rfl)) (qThenE (qLoopE (hk34 s29.2 rfl)))
          · refine HT.cond0 rfl hb26 ?_
            have hx24 := of_some hx24
            subst hx24
            exact HT.exitL (Le.re [(0, 0), (1, 1), (2, 2), (3, 3)] [] hX (by kernel_rfl)) (qThenE (qLoopE (hk25 s20.2 rfl)))
      · refine HT.cond0 rfl hb17 ?_
        have hx15 := of_some hx15
        subst hx15
        exact HT.exitL (Le.re [(1, 0), (2, 1), (3, 2)] [] hX (by kernel_rfl)) (qThenE (qLoopE (hk16 s8.2 rfl)))

noncomputable def spec_l07Zone_B1 (a0 : Int × List Int) (s5 : Int) (s13 : Int) : Option ((Int) ⊕ (Unit ⊕ Unit)) :=
  bif (decide (s13 < (wadd .i64 a0.1 (1 : Int)))) then
    guardP ((0 : Int) ≤ (wadd .i64 (wmul .i64 s5 (wadd .i64 a0.1 (1 : Int))) s13) ∧ (wadd .i64 (wmul .i64 s5 (wadd .i64 a0.1 (1 : Int))) s13) < lenI a0.2) (
      (some (List.getD a0.2 (Int.toNat (wadd .i64 (wmul .i64 s5 (wadd .i64 a0.1 (1 : Int))) s13)) (0 : Int))).bind fun q22 =>
      (show Option (Bool) from
        (spec_l00In q22 (-1000000 : Int) (1000000 : Int)).bind fun y28 =>
        bif (!y28) then
          bif (q22 != (1000000000 : Int)) then
            some true
          else
            bif (s5 == s13) then
              bif (q22 != (0 : Int)) then
                some true
              else
                bif (s5 == (0 : Int)) then
                  some (decide (q22 > (0 : Int)))
                else
                  some false
            else
              bif (s5 == (0 : Int)) then
                some (decide (q22 > (0 : Int)))
              else
                some false
        else
          bif (s5 == s13) then
            bif (q22 != (0 : Int)) then
              some true
            else
              bif (s5 == (0 : Int)) then
                some (decide (q22 > (0 : Int)))
              else
                some false
          else
            bif (s5 == (0 : Int)) then
              some (decide (q22 > (0 : Int)))
            else
              some false).bind fun v24 =>
      bif v24 then
        some (.inr (.inr ()))
      else
        some (.inl (wadd .i64 s13 (1 : Int))))
  else
    some (.inr (.inl ()))

noncomputable def spec_l07Zone_B2 (a0 : Int × List Int) (s5 : Int) : Option ((Int) ⊕ (Unit ⊕ Unit)) :=
  bif (decide (s5 < (wadd .i64 a0.1 (1 : Int)))) then
    (rounds (spec_l07Zone_B1 a0 s5) (0 : Int)).bind fun r14 => match r14 with
      | .inl r15 =>
        some (.inl (wadd .i64 s5 (1 : Int)))
      | .inr r16 =>
        some (.inr (.inr ()))
  else
    some (.inr (.inl ()))

noncomputable def spec_l07Zone (a0 : Int × List Int) : Option (Bool) :=
  (spec_l00In a0.1 (1 : Int) (4 : Int)).bind fun y1 =>
  bif (!y1) then
    some false
  else
    bif ((lenI a0.2) != (wmul .i64 (wadd .i64 a0.1 (1 : Int)) (wadd .i64 a0.1 (1 : Int)))) then
      some false
    else
      (rounds (spec_l07Zone_B2 a0) (0 : Int)).bind fun r6 => match r6 with
        | .inl r7 =>
          some true
        | .inr r8 =>
          some false

theorem f108_ok {a0 : Int × List Int} {r : Bool} (hr : spec_l07Zone a0 = some r) : CallOK Try.prog 108 [.pimm (.st (.pair tI tLI)) a0] [⟨false, .bool, r⟩] [] := by
  unfold spec_l07Zone at hr
  refine CallOK.of_body (ts := [(false, .bool)]) Try.func108 rfl (by kernel_rfl) (Nat.le_of_ble_eq_true (by kernel_rfl)) fun cx hP hN hO hF => ?_
  have hO : cx.own.map Prod.fst = [] := hO
  have hX := CxIs.mk hP hN hO
  have hF := hF rfl
  show HT cx ⟨[(0, .one (.ip (.st (.pair tI tLI)) a0 0))], [], 0⟩ _ _
  refine HT.rg2 [oH] ⟨[(0, .one (.ip (.st (.pair tI tLI)) a0 0))], [], 0⟩ hX (by kernel_rfl) allNil ?_
  refine HT.seq ?_
  obtain ⟨y1, hc2, hr⟩ := of_bind hr
  refine HT.rg2 [oH, oH, oH, oH, ⟨none, .call [.imm tI, .imm tI, .imm tI] [⟨false, .bool, y1⟩] []⟩, oH] ⟨[(0, .one (.ip (.st (.pair tI tLI)) a0 0)), (12, bV (!y1))], [], 0⟩ hX (by kernel_rfl) (allCons (f114_ok hc2) allNil) ?_
  rcases of_bif hr with ⟨hb3, hr⟩ | ⟨hb3, hr⟩
  · refine HT.cond1 rfl hb3 ?_
    refine HT.rg2 [oH] ⟨[(2, bV false)], [], 0⟩ hX (by kernel_rfl) allNil ?_
    have hr := of_some hr
    subst hr
    exact HT.ret (qThenR ⟨[bV false], [], [], by kernel_rfl, by kernel_rfl, rfl, by kernel_rfl, by kernel_rfl, trivial⟩)
  · refine HT.cond0 rfl hb3 ?_
    refine HT.skip (qThen ?_)
    refine HT.rg2 (oHs 6) ⟨[(0, .one (.ip (.st (.pair tI tLI)) a0 0)), (3, iV (wadd .i64 a0.1 (1 : Int)))], [], 0⟩ hX (by kernel_rfl) allNil ?_
    refine HT.seq ?_
    refine HT.rg2 (oHs 9) ⟨[(0, .one (.ip (.st (.pair tI tLI)) a0 0)), (3, iV (wadd .i64 a0.1 (1 : Int))), (26, bV ((lenI a0.2) != (wmul .i64 (wadd .i64 a0.1 (1 : Int)) (wadd .i64 a0.1 (1 : Int)))))], [], 0⟩ hX (by kernel_rfl) allNil ?_
    rcases of_bif hr with ⟨hb4, hr⟩ | ⟨hb4, hr⟩
    · refine HT.cond1 rfl hb4 ?_
      refine HT.rg2 [oH] ⟨[(2, bV false)], [], 0⟩ hX (by kernel_rfl) allNil ?_
      have hr := of_some hr
      subst hr
      exact HT.ret (qThenR ⟨[bV false], [], [], by kernel_rfl, by kernel_rfl, rfl, by kernel_rfl, by kernel_rfl, trivial⟩)
    · refine HT.cond0 rfl hb4 ?_
      refine HT.skip (qThen ?_)
      refine HT.seq ?_
      refine HT.rg2 [oH] ⟨[(0, .one (.ip (.st (.pair tI tLI)) a0 0)), (3, iV (wadd .i64 a0.1 (1 : Int))), (4, iV (0 : Int))], [], 0⟩ hX (by kernel_rfl) allNil ?_
      refine HT.block ?_
      obtain ⟨r6, hL41, hr⟩ := of_bind hr
      refine HT.loopL (fun (s5 : Int) => ⟨[(0, .one (.ip (.st (.pair tI tLI)) a0 0)), (3, iV (wadd .i64 a0.1 (1 : Int))), (4, iV s5)], [], 0⟩) (fun (r6 : Unit ⊕ Unit) => match r6 with | .inl r7 => (.exit 0, ⟨[], [], 0⟩) | .inr r8 => (.ret, ⟨[(2, bV false)], [], 0⟩)) (Le.re [] [] hX (by kernel_rfl)) hL41 ?_ (fun s5 x9 hx10 hk11 => ?_)
      · rcases r6 with r7 | r8
        · refine (qBlockX (qThen ?_))
          refine HT.rg2 [oH] ⟨[(2, bV true)], [], 0⟩ hX (by kernel_rfl) allNil ?_
          have hr := of_some hr
          subst hr
          exact HT.ret ⟨[bV true], [], [], by kernel_rfl, by kernel_rfl, rfl, by kernel_rfl, by kernel_rfl, trivial⟩
        · have hr := of_some hr
          subst hr
          exact (qBlockR (qThenR ⟨[bV false], [], [], by kernel_rfl, by kernel_rfl, rfl, by kernel_rfl, by kernel_rfl, trivial⟩))
      · refine HT.seq ?_
        refine HT.rg2 (oHs 3) ⟨[(0, .one (.ip (.st (.pair tI tLI)) a0 0)), (3, iV (wadd .i64 a0.1 (1 : Int))), (4, iV s5), (29, bV (decide (s5 < (wadd .i64 a0.1 (1 : Int)))))], [], 0⟩ hX (by kernel_rfl) allNil ?_
        rcases of_bif hx10 with ⟨hb12, hx10⟩ | ⟨hb12, hx10⟩
        · refine HT.cond1 rfl hb12 ?_
          refine HT.skip (qThen ?_)
          refine HT.seq ?_
          refine HT.block ?_
          refine HT.rg2 [oH] ⟨[(0, .one (.ip (.st (.pair tI tLI)) a0 0)), (3, iV (wadd .i64 a0.1 (1 : Int))), (4, iV s5), (5, iV (0 : Int))], [], 0⟩ hX (by kernel_rfl) allNil ?_
          refine HT.block ?_
          obtain ⟨r14, hL40, hx10⟩ := of_bind hx10
          refine HT.loopL (fun (s13 : Int) => ⟨[(0, .one (.ip (.st (.pair tI tLI)) a0 0)), (3, iV (wadd .i64 a0.1 (1 : Int))), (4, iV s5), (5, iV s13)], [], 0⟩) (fun (r14 : Unit ⊕ Unit) => match r14 with | .inl r15 => (.exit 2, ⟨[(0, .one (.ip (.st (.pair tI tLI)) a0 0)), (3, iV (wadd .i64 a0.1 (1 : Int))), (4, iV s5)], [], 0⟩) | .inr r16 => (.ret, ⟨[(2, bV false)], [], 0⟩)) (Le.re [] [] hX (by kernel_rfl)) hL40 ?_ (fun s13 x17 hx18 hk19 => ?_)
          · rcases r14 with r15 | r16
            · refine (qBlockX (qBlock (qThen ?_)))
              have hx10 := of_some hx10
              subst hx10
              exact HT.rgK (oHs 3) [] [] hX (by kernel_rfl) allNil (fun _ h => (qLoopN ⟨(wadd .i64 s5 (1 : Int)), rfl, h⟩))
            · have hx10 := of_some hx10
              subst hx10
              exact (qBlockR (qBlockR (qThenR (qLoopR (hk11 (.inr ()) rfl)))))
          · refine HT.seq ?_
            refine HT.rg2 (oHs 3) ⟨[(0, .one (.ip (.st (.pair tI tLI)) a0 0)), (3, iV (wadd .i64 a0.1 (1 : Int))), (4, iV s5), (5, iV s13), (34, bV (decide (s13 < (wadd .i64 a0.1 (1 : Int)))))], [], 0⟩ hX (by kernel_rfl) allNil ?_
            rcases of_bif hx18 with ⟨hb20, hx18⟩ | ⟨hb20, hx18⟩
            · refine HT.cond1 rfl hb20 ?_
              refine HT.skip (qThen ?_)
              refine HT.seq ?_
              refine HT.block ?_
              obtain ⟨hg21, hx18⟩ := of_guard hx18
              refine HT.rg2 (oHs 12) ⟨[(0, .one (.ip (.st (.pair tI tLI)) a0 0)), (3, iV (wadd .i64 a0.1 (1 : Int))), (4, iV s5), (5, iV s13), (6, iV (List.getD a0.2 (Int.toNat (wadd .i64 (wmul .i64 s5 (wadd .i64 a0.1 (1 : Int))) s13)) (0 : Int)))], [], 0⟩ hX (by kernel_rfl) (allCons hg21 allNil) ?_
              obtain ⟨q22, hq23, hx18⟩ := of_bind hx18
              have hq23 := of_some2 hq23
              refine (Le.cv (s := ⟨[], [], [], false⟩) (own := []) (ps := [a0 = a0, (wadd .i64 a0.1 (1 : Int)) = (wadd .i64 a0.1 (1 : Int)), s5 = s5, s13 = s13, q22 = (List.getD a0.2 (Int.toNat (wadd .i64 (wmul .i64 s5 (wadd .i64 a0.1 (1 : Int))) s13)) (0 : Int))]) (st' := ⟨[(0, .one (.ip (.st (.pair tI tLI)) a0 0)), (3, iV (wadd .i64 a0.1 (1 : Int))), (4, iV s5), (5, iV s13), (6, iV q22)], [], 0⟩) hO (fun h => by cases h) (by kernel_rfl) ⟨rfl, rfl, rfl, rfl, hq23, trivial⟩).ht ?_
              obtain ⟨v24', hT26, hx18⟩ := of_bind hx18
              refine HT.join (fun (v24 : Bool) => ⟨[(0, .one (.ip (.st (.pair tI tLI)) a0 0)), (3, iV (wadd .i64 a0.1 (1 : Int))), (4, iV s5), (5, iV s13), (71, bV v24)], [], 0⟩) (fun v => v = v24') (fun v24 hv25 => ?_) (fun cont => ?_)
              · subst hv25
                rcases of_bif hx18 with ⟨hb27, hx18⟩ | ⟨hb27, hx18⟩
                · refine HT.cond1 rfl hb27 ?_
                  refine HT.rg2 [oH] ⟨[(2, bV false)], [], 0⟩ hX (by kernel_rfl) allNil ?_
                  have hx18 := of_some hx18
                  subst hx18
                  exact HT.retL (Le.re [] [] hX (by kernel_rfl)) (qBlockR (qThenR (qLoopR (hk19 (.inr ()) rfl))))
                · refine HT.cond0 rfl hb27 ?_
                  refine HT.skip (qBlock (qThen ?_))
                  have hx18 := of_some hx18
                  subst hx18
                  exact HT.rgK (oHs 3) [] [] hX (by kernel_rfl) allNil (fun _ h => (qLoopN ⟨(wadd .i64 s13 (1 : Int)), rfl, h⟩))
              · obtain ⟨y28, hc29, hT26⟩ := of_bind hT26
                rcases of_bif hT26 with ⟨hb30, hT26⟩ | ⟨hb30, hT26⟩
                · rcases of_bif hT26 with ⟨hb31, hT26⟩ | ⟨hb31, hT26⟩
                  · exact HT.rgK [oH, ⟨none, .call [.imm tI, .imm tI, .imm tI] [⟨false, .bool, y28⟩] []⟩, oH, oH, ⟨some true, .no⟩, ⟨some true, .no⟩, ⟨none, .tv true⟩, oH, ⟨some true, .no⟩, ⟨some true, .no⟩, ⟨some true, .no⟩, ⟨some true, .no⟩, oH, oH, ⟨some true, .no⟩, ⟨none, .tv true⟩, oH, ⟨some true, .no⟩, ⟨some true, .no⟩, ⟨some true, .no⟩, oH, oH, ⟨some true, .no⟩, ⟨none, .tv true⟩] [] [] hX (by kernel_rfl) (allCons (f114_ok hc29) (allCons hb30 (allCons hb30 (allCons hb30 (allCons hb31 (allCons hb31 (allCons hb31 (allCons hb31 (allCons hb31 (allCons hb31 (allCons (rfl : true = true) (allCons (rfl : true = true) (allCons (rfl : true = true) (allCons (rfl : true = true) (allCons (rfl : true = true) allNil))))))))))))))) (fun _ h => (qThen (h.ht (cont true (of_some hT26)))))
                  · rcases of_bif hT26 with ⟨hb32, hT26⟩ | ⟨hb32, hT26⟩
                    · rcases of_bif hT26 with ⟨hb33, hT26⟩ | ⟨hb33, hT26⟩
                      · exact HT.rgK [oH, ⟨none, .call [.imm tI, .imm tI, .imm tI] [⟨false, .bool, y28⟩] []⟩, oH, oH, ⟨some true, .no⟩, ⟨some true, .no⟩, ⟨none, .tv true⟩, oH, ⟨some false, .no⟩, ⟨some false, .no⟩, ⟨some false, .no⟩, ⟨some false, .no⟩, ⟨some true, .no⟩, ⟨some true, .no⟩, ⟨some false, .tv true⟩, ⟨none, .tv false⟩, oH, ⟨some true, .no⟩, ⟨some true, .no⟩, ⟨some true, .no⟩, oH, oH, ⟨some true, .no⟩, ⟨none, .tv true⟩] [] [] hX (by kernel_rfl) (allCons (f114_ok hc29) (allCons hb30 (allCons hb30 (allCons hb30 (allCons hb31 (allCons hb31 (allCons hb31 (allCons hb31 (allCons hb32 (allCons hb32 (allCons hb31 (allCons hb32 (allCons hb31 (allCons hb33 (allCons hb33 (allCons hb33 (allCons hb33 (allCons hb33 allNil)))))))))))))))))) (fun _ h => (qThen (h.ht (cont true (of_some hT26)))))
                      · rcases of_bif hT26 with ⟨hb34, hT26⟩ | ⟨hb34, hT26⟩
                        · exact HT.rgK [oH, ⟨none, .call [.imm tI, .imm tI, .imm tI] [⟨false, .bool, y28⟩] []⟩, oH, oH, ⟨some true, .no⟩, ⟨some true, .no⟩, ⟨none, .tv true⟩, oH, ⟨some false, .no⟩, ⟨some false, .no⟩, ⟨some false, .no⟩, ⟨some false, .no⟩, ⟨some true, .no⟩, ⟨some true, .no⟩, ⟨some false, .tv true⟩, ⟨none, .tv false⟩, oH, ⟨some false, .no⟩, ⟨some false, .no⟩, ⟨some false, .no⟩, ⟨some true, .no⟩, ⟨some true, .no⟩, ⟨some false, .tv true⟩, ⟨none, .tv false⟩] [] [] hX (by kernel_rfl) (allCons (f114_ok hc29) (allCons hb30 (allCons hb30 (allCons hb30 (allCons hb31 (allCons hb31 (allCons hb31 (allCons hb31 (allCons hb32 (allCons hb32 (allCons hb31 (allCons hb32 (allCons hb31 (allCons hb33 (allCons hb33 (allCons hb33 (allCons hb34 (allCons hb34 (allCons hb33 (allCons hb34 (allCons hb33 allNil))))))))))))))))))))) (fun _ h => (qThen (h.ht (cont (decide (q22 > (0 : Int))) (of_some hT26)))))
                        · exact HT.rgK [oH, ⟨none, .call [.imm tI, .imm tI, .imm tI] [⟨false, .bool, y28⟩] []⟩, oH, oH, ⟨some true, .no⟩, ⟨some true, .no⟩, ⟨none, .tv true⟩, oH, ⟨some false, .no⟩, ⟨some false, .no⟩, ⟨some false, .no⟩, ⟨some false, .no⟩, ⟨some true, .no⟩, ⟨some true, .no⟩, ⟨some false, .tv true⟩, ⟨none, .tv false⟩, oH, ⟨some false, .no⟩, ⟨some false, .no⟩, ⟨some false, .no⟩, ⟨some false, .no⟩, ⟨some false, .no⟩, ⟨some false, .tv false⟩, ⟨none, .tv false⟩] [] [] hX (by kernel_rfl) (allCons (f114_ok hc29) (allCons hb30 (allCons hb30 (allCons hb30 (allCons hb31 (allCons hb31 (allCons hb31 (allCons hb31 (allCons hb32 (allCons hb32 (allCons hb31 (allCons hb32 (allCons hb31 (allCons hb33 (allCons hb33 (allCons hb33 (allCons hb34 (allCons hb34 (allCons hb33 (allCons hb34 (allCons hb33 allNil))))))))))))))))))))) (fun _ h => (qThen (h.ht (cont false (of_some hT26)))))
                    · rcases of_bif hT26 with ⟨hb35, hT26⟩ | ⟨hb35, hT26⟩
                      · exact HT.rgK [oH, ⟨none, .call [.imm tI, .imm tI, .imm tI] [⟨false, .bool, y28⟩] []⟩, oH, oH, ⟨some true, .no⟩, ⟨some true, .no⟩, ⟨none, .tv true⟩, oH, ⟨some false, .no⟩, ⟨some false, .no⟩, ⟨some false, .no⟩, ⟨some false, .no⟩, ⟨some false, .no⟩, ⟨some false, .no⟩, ⟨some false, .tv false⟩, ⟨none, .tv false⟩, oH, ⟨some false, .no⟩, ⟨some false, .no⟩, ⟨some false, .no⟩, ⟨some true, .no⟩, ⟨some true, .no⟩, ⟨some false, .tv true⟩, ⟨none, .tv false⟩] [] [] hX (by kernel_rfl) (allCons (f114_ok hc29) (allCons hb30 (allCons hb30 (allCons hb30 (allCons hb31 (allCons hb31 (allCons hb31 (allCons hb31 (allCons hb32 (allCons hb32 (allCons hb31 (allCons hb32 (allCons hb31 (allCons (rfl : false = false) (allCons (rfl : false = false) (allCons (rfl : false = false) (allCons hb35 (allCons hb35 (allCons (rfl : false = false) (allCons hb35 (allCons (rfl : false = false) allNil))))))))))))))))))))) (fun _ h => (qThen (h.ht (cont (decide (q22 > (0 : Int))) (of_some hT26)))))
                      · exact HT.rgK [oH, ⟨none, .call [.imm tI, .imm tI, .imm tI] [⟨false, .bool, y28⟩] []⟩, oH, oH, ⟨some true, .no⟩, ⟨some true, .no⟩, ⟨none, .tv true⟩, oH, ⟨some false, .no⟩, ⟨some false, .no⟩, ⟨some false, .no⟩, ⟨some false, .no⟩, ⟨some false, .no⟩, ⟨some false, .no⟩, ⟨some false, .tv false⟩, ⟨none, .tv false⟩, oH, ⟨some false, .no⟩, ⟨some false, .no⟩, ⟨some false, .no⟩, ⟨some false, .no⟩, ⟨some false, .no⟩, ⟨some false, .tv false⟩, ⟨none, .tv false⟩] [] [] hX (by kernel_rfl) (allCons (f114_ok hc29) (allCons hb30 (allCons hb30 (allCons hb30 (allCons hb31 (allCons hb31 (allCons hb31 (allCons hb31 (allCons hb32 (allCons hb32 (allCons hb31 (allCons hb32 (allCons hb31 (allCons (rfl : false = false) (allCons (rfl : false = false) (allCons (rfl : false = false) (allCons hb35 (allCons hb35 (allCons (rfl : false = false) (allCons hb35 (allCons (rfl : false = false) allNil))))))))))))))))))))) (fun _ h => (qThen (h.ht (cont false (of_some hT26)))))
                · rcases of_bif hT26 with ⟨hb36, hT26⟩ | ⟨hb36, hT26⟩
                  · rcases of_bif hT26 with ⟨hb37, hT26⟩ | ⟨hb37, hT26⟩
                    · exact HT.rgK [oH, ⟨none, .call [.imm tI, .imm tI, .imm tI] [⟨false, .bool, y28⟩] []⟩, oH, oH, ⟨some false, .no⟩, ⟨some false, .no⟩, ⟨none, .tv false⟩, oH, ⟨some false, .no⟩, ⟨some false, .no⟩, ⟨some false, .no⟩, ⟨some false, .no⟩, ⟨some true, .no⟩, ⟨some true, .no⟩, ⟨some false, .tv true⟩, ⟨none, .tv false⟩, oH, ⟨some true, .no⟩, ⟨some true, .no⟩, ⟨some true, .no⟩, oH, oH, ⟨some true, .no⟩, ⟨none, .tv true⟩] [] [] hX (by kernel_rfl) (allCons (f114_ok hc29) (allCons hb30 (allCons hb30 (allCons hb30 (allCons (rfl : false = false) (allCons (rfl : false = false) (allCons (rfl : false = false) (allCons (rfl : false = false) (allCons hb36 (allCons hb36 (allCons (rfl : false = false) (allCons hb36 (allCons (rfl : false = false) (allCons hb37 (allCons hb37 (allCons hb37 (allCons hb37 (allCons hb37 allNil)))))))))))))))))) (fun _ h => (qThen (h.ht (cont true (of_some hT26)))))
                    · rcases of_bif hT26 with ⟨hb38, hT26⟩ | ⟨hb38, hT26⟩
                      · exact HT.rgK [oH, ⟨none, .call [.imm tI, .imm tI, .imm tI] [⟨false, .bool, y28⟩] []⟩, oH, oH, ⟨some false, .no⟩, ⟨some false, .no⟩, ⟨none, .tv false⟩, oH, ⟨some false, .no⟩, ⟨some false, .no⟩, ⟨some false, .no⟩, ⟨some false, .no⟩, ⟨some true, .no⟩, ⟨some true, .no⟩, ⟨some false, .tv true⟩, ⟨none, .tv false⟩, oH, ⟨some false, .no⟩, ⟨some false, .no⟩, ⟨some false, .no⟩, ⟨some true, .no⟩, ⟨some true, .no⟩, ⟨some false, .tv true⟩, ⟨none, .tv false⟩] [] [] hX (by kernel_rfl) (allCons (f114_ok hc29) (allCons hb30 (allCons hb30 (allCons hb30 (allCons (rfl : false = false) (allCons (rfl : false = false) (allCons (rfl : false = false) (allCons (rfl : false = false) (allCons hb36 (allCons hb36 (allCons (rfl : false = false) (allCons hb36 (allCons (rfl : false = false) (allCons hb37 (allCons hb37 (allCons hb37 (allCons hb38 (allCons hb38 (allCons hb37 (allCons hb38 (allCons hb37 allNil))))))))))))))))))))) (fun _ h => (qThen (h.ht (cont (decide (q22 > (0 : Int))) (of_some hT26)))))
                      · exact HT.rgK [oH, ⟨none, .call [.imm tI, .imm tI, .imm tI] [⟨false, .bool, y28⟩] []⟩, oH, oH, ⟨some false, .no⟩, ⟨some false, .no⟩, ⟨none, .tv false⟩, oH, ⟨some false, .no⟩, ⟨some false, .no⟩, ⟨some false, .no⟩, ⟨some false, .no⟩, ⟨some true, .no⟩, ⟨some true, .no⟩, ⟨some false, .tv true⟩, ⟨none, .tv false⟩, oH, ⟨some false, .no⟩, ⟨some false, .no⟩, ⟨some false, .no⟩, ⟨some false, .no⟩, ⟨some false, .no⟩, ⟨some false, .tv false⟩, ⟨none, .tv false⟩] [] [] hX (by kernel_rfl) (allCons (f114_ok hc29) (allCons hb30 (allCons hb30 (allCons hb30 (allCons (rfl : false = false) (allCons (rfl : false = false) (allCons (rfl : false = false) (allCons (rfl : false = false) (allCons hb36 (allCons hb36 (allCons (rfl : false = false) (allCons hb36 (allCons (rfl : false = false) (allCons hb37 (allCons hb37 (allCons hb37 (allCons hb38 (allCons hb38 (allCons hb37 (allCons hb38 (allCons hb37 allNil))))))))))))))))))))) (fun _ h => (qThen (h.ht (cont false (of_some hT26)))))
                  · rcases of_bif hT26 with ⟨hb39, hT26⟩ | ⟨hb39, hT26⟩
                    · exact HT.rgK [oH, ⟨none, .call [.imm tI, .imm tI, .imm tI] [⟨false, .bool, y28⟩] []⟩, oH, oH, ⟨some false, .no⟩, ⟨some false, .no⟩, ⟨none, .tv false⟩, oH, ⟨some false, .no⟩, ⟨some false, .no⟩, ⟨some false, .no⟩, ⟨some false, .no⟩, ⟨some false, .no⟩, ⟨some false, .no⟩, ⟨some false, .tv false⟩, ⟨none, .tv false⟩, oH, ⟨some false, .no⟩, ⟨some false, .no⟩, ⟨some false, .no⟩, ⟨some true, .no⟩, ⟨some true, .no⟩, ⟨some false, .tv true⟩, ⟨none, .tv false⟩] [] [] hX (by kernel_rfl) (allCons (f114_ok hc29) (allCons hb30 (allCons hb30 (allCons hb30 (allCons (rfl : false = false) (allCons (rfl : false = false) (allCons (rfl : false = false) (allCons (rfl : false = false) (allCons hb36 (allCons hb36 (allCons (rfl : false = false) (allCons hb36 (allCons (rfl : false = false) (allCons (rfl : false = false) (allCons (rfl : false = false) (allCons (rfl : false = false) (allCons hb39 (allCons hb39 (allCons (rfl : false = false) (allCons hb39 (allCons (rfl : false = false) allNil))))))))))))))))))))) (fun _ h => (qThen (h.ht (cont (decide (q22 > (0 : Int))) (of_some hT26)))))
                    · exact HT.rgK [oH, ⟨none, .call [.imm tI, .imm tI, .imm tI] [⟨false, .bool, y28⟩] []⟩, oH, oH, ⟨some false, .no⟩, ⟨some false, .no⟩, ⟨none, .tv false⟩, oH, ⟨some false, .no⟩, ⟨some false, .no⟩, ⟨some false, .no⟩, ⟨some false, .no⟩, ⟨some false, .no⟩, ⟨some false, .no⟩, ⟨some false, .tv false⟩, ⟨none, .tv false⟩, oH, ⟨some false, .no⟩, ⟨some false, .no⟩, ⟨some false, .no⟩, ⟨some false, .no⟩, ⟨some false, .no⟩, ⟨some false, .tv false⟩, ⟨none, .tv false⟩] [] [] hX (by kernel_rfl) (allCons (f114_ok hc29) (allCons hb30 (allCons hb30 (allCons hb30 (allCons (rfl : false = false) (allCons (rfl : false = false) (allCons (rfl : false = false) (allCons (rfl : false = false) (allCons hb36 (allCons hb36 (allCons (rfl : false = false) (allCons hb36 (allCons (rfl : false = false) (allCons (rfl : false = false) (allCons (rfl : false = false) (allCons (rfl : false = false) (allCons hb39 (allCons hb39 (allCons (rfl : false = false) (allCons hb39 (allCons (rfl : false = false) allNil))))))))))))))))))))) (fun _ h => (qThen (h.ht (cont false (of_some hT26)))))
            · refine HT.cond0 rfl hb20 ?_
              have hx18 := of_some hx18
              subst hx18
              exact HT.exitL (Le.re [] [] hX (by kernel_rfl)) (qThenE (qLoopE (hk19 (.inl ()) rfl)))
        · refine HT.cond0 rfl hb12 ?_
          have hx10 := of_some hx10
          subst hx10
          exact HT.exitL (Le.re [] [] hX (by kernel_rfl)) (qThenE (qLoopE (hk11 (.inl ()) rfl)))

noncomputable def spec_l07Tight_B1 (a0 : Int × List Int) (s2 : Int × List Int) (s12 : Int × List Int) (s19 : Int × List Int) : Option ((Int × List Int) ⊕ (List Int)) :=
  bif (decide (s19.1 < (wadd .i64 a0.1 (1 : Int)))) then
    (show Option (List Int) from
      guardP ((0 : Int) ≤ (wadd .i64 (wmul .i64 s12.1 (wadd .i64 a0.1 (1 : Int))) s2.1) ∧ (wadd .i64 (wmul .i64 s12.1 (wadd .i64 a0.1 (1 : Int))) s2.1) < lenI s19.2) (
        (some (List.getD s19.2 (Int.toNat (wadd .i64 (wmul .i64 s12.1 (wadd .i64 a0.1 (1 : Int))) s2.1)) (0 : Int))).bind fun q30 =>
        guardP ((0 : Int) ≤ (wadd .i64 (wmul .i64 s2.1 (wadd .i64 a0.1 (1 : Int))) s19.1) ∧ (wadd .i64 (wmul .i64 s2.1 (wadd .i64 a0.1 (1 : Int))) s19.1) < lenI s19.2) (
          (some (List.getD s19.2 (Int.toNat (wadd .i64 (wmul .i64 s2.1 (wadd .i64 a0.1 (1 : Int))) s19.1)) (0 : Int))).bind fun q33 =>
          (show Option (Bool) from
            bif (q30 != (1000000000 : Int)) then
              bif (q33 != (1000000000 : Int)) then
                guardP ((0 : Int) ≤ (wadd .i64 (wmul .i64 s12.1 (wadd .i64 a0.1 (1 : Int))) s19.1) ∧ (wadd .i64 (wmul .i64 s12.1 (wadd .i64 a0.1 (1 : Int))) s19.1) < lenI s19.2) (
                  some (decide ((wadd .i64 q30 q33) < (List.getD s19.2 (Int.toNat (wadd .i64 (wmul .i64 s12.1 (wadd .i64 a0.1 (1 : Int))) s19.1)) (0 : Int)))))
              else
                some false
            else
              some false).bind fun v35 =>
          bif v35 then
            guardP ((0 : Int) ≤ (wadd .i64 (wmul .i64 s12.1 (wadd .i64 a0.1 (1 : Int))) s19.1) ∧ (wadd .i64 (wmul .i64 s12.1 (wadd .i64 a0.1 (1 : Int))) s19.1) < lenI s19.2) (
              some (List.set s19.2 (Int.toNat (wadd .i64 (wmul .i64 s12.1 (wadd .i64 a0.1 (1 : Int))) s19.1)) (wadd .i64 q30 q33)))
          else
            some s19.2))).bind fun v26 =>
    some (.inl ((wadd .i64 s19.1 (1 : Int)), v26))
  else
    some (.inr s19.2)

noncomputable def spec_l07Tight_B2 (a0 : Int × List Int) (s2 : Int × List Int) (s12 : Int × List Int) : Option ((Int × List Int) ⊕ (List Int)) :=
  bif (decide (s12.1 < (wadd .i64 a0.1 (1 : Int)))) then
    (rounds (spec_l07Tight_B1 a0 s2 s12) ((0 : Int), s12.2)).bind fun r21 =>
    some (.inl ((wadd .i64 s12.1 (1 : Int)), r21))
  else
    some (.inr s12.2)

noncomputable def spec_l07Tight_B3 (a0 : Int × List Int) (s2 : Int × List Int) : Option ((Int × List Int) ⊕ (List Int)) :=
  bif (decide (s2.1 < (wadd .i64 a0.1 (1 : Int)))) then
    (rounds (spec_l07Tight_B2 a0 s2) ((0 : Int), s2.2)).bind fun r14 =>
    some (.inl ((wadd .i64 s2.1 (1 : Int)), r14))
  else
    some (.inr s2.2)

noncomputable def spec_l07Tight (a0 : Int × List Int) : Option ((Int × List Int) × Bool) :=
  guardP (0 + List.length a0.2 ≤ appMax) (
    (rounds (spec_l07Tight_B3 a0) ((0 : Int), a0.2)).bind fun r4 =>
    (spec_l07Zone (a0.1, r4)).bind fun y5 =>
    bif (!y5) then
      some (((0 : Int), ([] : List Int)), false)
    else
      some ((a0.1, r4), true))

theorem f109_ok {a0 : Int × List Int} {r : (Int × List Int) × Bool} (hr : spec_l07Tight a0 = some r) : CallOK Try.prog 109 [.pimm (.st (.pair tI tLI)) a0] [⟨true, (.st (.pair tI tLI)), r.1⟩, ⟨false, .bool, r.2⟩] [] := by
  unfold spec_l07Tight at hr
  refine CallOK.of_body (ts := [(true, (.st (.pair tI tLI))), (false, .bool)]) Try.func109 rfl (by kernel_rfl) (Nat.le_of_ble_eq_true (by kernel_rfl)) fun cx hP hN hO hF => ?_
  have hO : cx.own.map Prod.fst = [] := hO
  have hX := CxIs.mk hP hN hO
  have hF := hF rfl
  show HT cx ⟨[(0, .one (.ip (.st (.pair tI tLI)) a0 0))], [], 0⟩ _ _
  refine HT.rg2 (oHs 2) ⟨[(0, .one (.ip (.st (.pair tI tLI)) a0 0)), (2, pV 0 0)], [(0, .box [iC (0 : Int), .nilS])], 1⟩ hX (by kernel_rfl) allNil ?_
  refine HT.rg2 (oHs 6) ⟨[(0, .one (.ip (.st (.pair tI tLI)) a0 0)), (2, pV 0 0), (4, iV (wadd .i64 a0.1 (1 : Int)))], [(0, .box [iC (0 : Int), .nilS])], 1⟩ hX (by kernel_rfl) allNil ?_
  obtain ⟨hg1, hr⟩ := of_guard hr
  refine HT.dr2 12 [⟨oH, []⟩, ⟨oH, [0]⟩, ⟨oH, [0, 1]⟩, ⟨oH, [0, 1, 2]⟩, ⟨oH, []⟩, ⟨oH, []⟩, ⟨oH, [5]⟩, ⟨oH, [5, 6]⟩, ⟨oH, [5, 6, 7]⟩, ⟨⟨none, .ty tI⟩, [4, 5, 6, 7, 8]⟩, ⟨oH, [0, 1, 2, 3, 4, 5, 6, 7, 8, 9]⟩, ⟨oH, []⟩] [[0, 1, 2, 3, 4, 5, 6, 7, 8, 9, 10, 11]] [oH] ⟨[(2, pV 0 0), (4, iV (wadd .i64 a0.1 (1 : Int))), (5, pV 2 0)], [(2, .box [iC a0.1, .all 1]), (1, .seq tI a0.2), (0, .box [iC (0 : Int), .nilS])], 3⟩ hX (by kernel_rfl) (by kernel_rfl) (allCons hg1 allNil) ?_
  refine HT.seq ?_
  refine HT.rg2 [oH] ⟨[(2, pV 0 0), (4, iV (wadd .i64 a0.1 (1 : Int))), (5, pV 2 0), (6, iV (0 : Int))], [(2, .box [iC a0.1, .all 1]), (1, .seq tI a0.2), (0, .box [iC (0 : Int), .nilS])], 3⟩ hX (by kernel_rfl) allNil ?_
  refine HT.block ?_
  obtain ⟨r3, hL45, hr⟩ := of_bind hr
  refine HT.loopL (fun (s2 : Int × List Int) => ⟨[(2, pV 0 0), (4, iV (wadd .i64 a0.1 (1 : Int))), (5, pV 1 0), (6, iV s2.1)], [(0, .box [iC (0 : Int), .nilS]), (1, .box [iC a0.1, .all 2]), (2, .seq tI s2.2)], 3⟩) (fun (r4 : List Int) => (.exit 0, ⟨[(2, pV 0 0), (5, pV 1 0)], [(0, .box [iC (0 : Int), .nilS]), (1, .box [iC a0.1, .all 2]), (2, .seq tI r4)], 3⟩)) (Le.re [(0, 0), (2, 1), (1, 2)] [] hX (by kernel_rfl)) hL45 ?_ (fun s2 x8 hx9 hk10 => ?_)
  · refine (qBlockX (qThen ?_))
    refine HT.seq ?_
    obtain ⟨y5, hc6, hr⟩ := of_bind hr
    refine HT.rg2 [⟨none, .call [.pimm (.st (.pair tI tLI))] [⟨false, .bool, y5⟩] []⟩, oH] ⟨[(2, pV 0 0), (5, pV 1 0), (93, bV (!y5))], [(0, .box [iC (0 : Int), .nilS]), (1, .box [iC a0.1, .all 2]), (2, .seq tI r3)], 3⟩ hX (by kernel_rfl) (allCons (f108_ok hc6) allNil) ?_
    rcases of_bif hr with ⟨hb7, hr⟩ | ⟨hb7, hr⟩
    · refine HT.cond1 rfl hb7 ?_
      refine HT.rg2 (oHs 3) ⟨[(2, pV 0 0), (3, bV false)], [(0, .box [iC (0 : Int), .nilS])], 3⟩ hX (by kernel_rfl) allNil ?_
      have hr := of_some hr
      subst hr
      exact HT.ret (qThenR ⟨[.agg [iC (0 : Int), .nilS], bV false], [], [], by kernel_rfl, by kernel_rfl, rfl, by kernel_rfl, by kernel_rfl, trivial⟩)
    · refine HT.cond0 rfl hb7 ?_
      refine HT.skip (qThen ?_)
      refine HT.rg2 (oHs 3) ⟨[(2, pV 0 0), (3, bV true)], [(0, .box [iC a0.1, .all 2]), (2, .seq tI r3)], 3⟩ hX (by kernel_rfl) allNil ?_
      have hr := of_some hr
      subst hr
      exact HT.ret ⟨[.agg [iC a0.1, .all 2], bV true], [2], [], by kernel_rfl, by kernel_rfl, rfl, by kernel_rfl, by kernel_rfl, trivial⟩
  · refine HT.seq ?_
    refine HT.rg2 (oHs 3) ⟨[(2, pV 0 0), (4, iV (wadd .i64 a0.1 (1 : Int))), (5, pV 1 0), (6, iV s2.1), (29, bV (decide (s2.1 < (wadd .i64 a0.1 (1 : Int)))))], [(0, .box [iC (0 : Int), .nilS]), (1, .box [iC a0.1, .all 2]), (2, .seq tI s2.2)], 3⟩ hX (by kernel_rfl) allNil ?_
    rcases of_bif hx9 with ⟨hb11, hx9⟩ | ⟨hb11, hx9⟩
    · refine HT.cond1 rfl hb11 ?_
      refine HT.skip (qThen ?_)
      refine HT.seq ?_
      refine HT.block ?_
      refine HT.rg2 [oH] ⟨[(2, pV 0 0), (4, iV (wadd .i64 a0.1 (1 : Int))), (5, pV 1 0), (6, iV s2.1), (7, iV (0 : Int))], [(0, .box [iC (0 : Int), .nilS]), (1, .box [iC a0.1, .all 2]), (2, .seq tI s2.2)], 3⟩ hX (by kernel_rfl) allNil ?_
      refine HT.block ?_
      obtain ⟨r13, hL44, hx9⟩ := of_bind hx9
      refine HT.loopL (fun (s12 : Int × List Int) => ⟨[(2, pV 0 0), (4, iV (wadd .i64 a0.1 (1 : Int))), (5, pV 1 0), (6, iV s2.1), (7, iV s12.1)], [(0, .box [iC (0 : Int), .nilS]), (1, .box [iC a0.1, .all 2]), (2, .seq tI s12.2)], 3⟩) (fun (r14 : List Int) => (.exit 2, ⟨[(2, pV 0 0), (4, iV (wadd .i64 a0.1 (1 : Int))), (5, pV 1 0), (6, iV s2.1)], [(0, .box [iC (0 : Int), .nilS]), (1, .box [iC a0.1, .all 2]), (2, .seq tI r14)], 3⟩)) (Le.re [(0, 0), (1, 1), (2, 2)] [] hX (by kernel_rfl)) hL44 ?_ (fun s12 x15 hx16 hk17 => ?_)
      · refine (qBlockX (qBlock (qThen ?_)))
        have hx9 := of_some hx9
        subst hx9
        exact HT.rgK (oHs 3) [(0, 0), (1, 1), (2, 2)] [] hX (by kernel_rfl) allNil (fun _ h => (qLoopN ⟨((wadd .i64 s2.1 (1 : Int)), r13), rfl, h⟩))
      · refine HT.seq ?_
        refine HT.rg2 (oHs 3) ⟨[(2, pV 0 0), (4, iV (wadd .i64 a0.1 (1 : Int))), (5, pV 1 0), (6, iV s2.1), (7, iV s12.1), (34, bV (decide (s12.1 < (wadd .i64 a0.1 (1 : Int)))))], [(0, .box [iC (0 : Int), .nilS]), (1, .box [iC a0.1, .all 2]), (2, .seq tI s12.2)], 3⟩ hX (by kernel_rfl) allNil ?_
        rcases of_bif hx16 with ⟨hb18, hx16⟩ | ⟨hb18, hx16⟩
        · refine HT.cond1 rfl hb18 ?_
          refine HT.skip (qThen ?_)
          refine HT.seq ?_
          refine HT.block ?_
          refine HT.rg2 [oH] ⟨[(2, pV 0 0), (4, iV (wadd .i64 a0.1 (1 : Int))), (5, pV 1 0), (6, iV s2.1), (7, iV s12.1), (8, iV (0 : Int))], [(0, .box [iC (0 : Int), .nilS]), (1, .box [iC a0.1, .all 2]), (2, .seq tI s12.2)], 3⟩ hX (by kernel_rfl) allNil ?_
          refine HT.block ?_
          obtain ⟨r20, hL43, hx16⟩ := of_bind hx16
          refine HT.loopL (fun (s19 : Int × List Int) => ⟨[(2, pV 0 0), (4, iV (wadd .i64 a0.1 (1 : Int))), (5, pV 1 0), (6, iV s2.1), (7, iV s12.1), (8, iV s19.1)], [(0, .box [iC (0 : Int), .nilS]), (1, .box [iC a0.1, .all 2]), (2, .seq tI s19.2)], 3⟩) (fun (r21 : List Int) => (.exit 4, ⟨[(2, pV 0 0), (4, iV (wadd .i64 a0.1 (1 : Int))), (5, pV 1 0), (6, iV s2.1), (7, iV s12.1)], [(0, .box [iC (0 : Int), .nilS]), (1, .box [iC a0.1, .all 2]), (2, .seq tI r21)], 3⟩)) (Le.re [(0, 0), (1, 1), (2, 2)] [] hX (by kernel_rfl)) hL43 ?_ (fun s19 x22 hx23 hk24 => ?_)
          · refine (qBlockX (qBlock (qThen ?_)))
            have hx16 := of_some hx16
            subst hx16
            exact HT.rgK (oHs 3) [(0, 0), (1, 1), (2, 2)] [] hX (by kernel_rfl) allNil (fun _ h => (qLoopN ⟨((wadd .i64 s12.1 (1 : Int)), r20), rfl, h⟩))
          · refine HT.seq ?_
            refine HT.rg2 (oHs 3) ⟨[(2, pV 0 0), (4, iV (wadd .i64 a0.1 (1 : Int))), (5, pV 1 0), (6, iV s2.1), (7, iV s12.1), (8, iV s19.1), (39, bV (decide (s19.1 < (wadd .i64 a0.1 (1 : Int)))))], [(0, .box [iC (0 : Int), .nilS]), (1, .box [iC a0.1, .all 2]), (2, .seq tI s19.2)], 3⟩ hX (by kernel_rfl) allNil ?_
            rcases of_bif hx23 with ⟨hb25, hx23⟩ | ⟨hb25, hx23⟩
            · refine HT.cond1 rfl hb25 ?_
              refine HT.skip (qThen ?_)
              obtain ⟨v26', hT28, hx23⟩ := of_bind hx23
              refine HT.join (fun (v26 : List Int) => ⟨[(2, pV 0 0), (4, iV (wadd .i64 a0.1 (1 : Int))), (5, pV 1 0), (6, iV s2.1), (7, iV s12.1), (8, iV s19.1)], [(0, .box [iC (0 : Int), .nilS]), (1, .box [iC a0.1, .all 2]), (2, .seq tI v26)], 3⟩) (fun v => v = v26') (fun v26 hv27 => ?_) (fun cont => ?_)
              · subst hv27
                have hx23 := of_some hx23
                subst hx23
                exact HT.rgK (oHs 3) [(0, 0), (1, 1), (2, 2)] [] hX (by kernel_rfl) allNil (fun _ h => (qLoopN ⟨((wadd .i64 s19.1 (1 : Int)), v26), rfl, h⟩))
              · refine HT.block ?_
                obtain ⟨hg29, hT28⟩ := of_guard hT28
                refine HT.rg2 (oHs 10) ⟨[(2, pV 0 0), (4, iV (wadd .i64 a0.1 (1 : Int))), (5, pV 1 0), (6, iV s2.1), (7, iV s12.1), (8, iV s19.1), (9, iV (List.getD s19.2 (Int.toNat (wadd .i64 (wmul .i64 s12.1 (wadd .i64 a0.1 (1 : Int))) s2.1)) (0 : Int)))], [(0, .box [iC (0 : Int), .nilS]), (1, .box [iC a0.1, .all 2]), (2, .seq tI s19.2)], 3⟩ hX (by kernel_rfl) (allCons hg29 (allCons (natLt hg29) allNil)) ?_
                obtain ⟨q30, hq31, hT28⟩ := of_bind hT28
                have hq31 := of_some2 hq31
                refine (Le.cv (s := ⟨[(0, 0), (1, 1), (2, 2)], [], [], false⟩) (own := []) (ps := [(wadd .i64 a0.1 (1 : Int)) = (wadd .i64 a0.1 (1 : Int)), s2.1 = s2.1, s12.1 = s12.1, s19.1 = s19.1, q30 = (List.getD s19.2 (Int.toNat (wadd .i64 (wmul .i64 s12.1 (wadd .i64 a0.1 (1 : Int))) s2.1)) (0 : Int)), (0 : Int) = (0 : Int), a0.1 = a0.1, s19.2 = s19.2]) (st' := ⟨[(2, pV 0 0), (4, iV (wadd .i64 a0.1 (1 : Int))), (5, pV 1 0), (6, iV s2.1), (7, iV s12.1), (8, iV s19.1), (9, iV q30)], [(0, .box [iC (0 : Int), .nilS]), (1, .box [iC a0.1, .all 2]), (2, .seq tI s19.2)], 3⟩) hO (fun h => by cases h) (by kernel_rfl) ⟨rfl, rfl, rfl, rfl, hq31, rfl, rfl, rfl, trivial⟩).ht ?_
                obtain ⟨hg32, hT28⟩ := of_guard hT28
                refine HT.rg2 (oHs 10) ⟨[(2, pV 0 0), (4, iV (wadd .i64 a0.1 (1 : Int))), (5, pV 1 0), (6, iV s2.1), (7, iV s12.1), (8, iV s19.1), (9, iV q30), (10, iV (List.getD s19.2 (Int.toNat (wadd .i64 (wmul .i64 s2.1 (wadd .i64 a0.1 (1 : Int))) s19.1)) (0 : Int)))], [(0, .box [iC (0 : Int), .nilS]), (1, .box [iC a0.1, .all 2]), (2, .seq tI s19.2)], 3⟩ hX (by kernel_rfl) (allCons hg32 (allCons (natLt hg32) allNil)) ?_
                obtain ⟨q33, hq34, hT28⟩ := of_bind hT28
                have hq34 := of_some2 hq34
                refine (Le.cv (s := ⟨[(0, 0), (1, 1), (2, 2)], [], [], false⟩) (own := []) (ps := [(wadd .i64 a0.1 (1 : Int)) = (wadd .i64 a0.1 (1 : Int)), s2.1 = s2.1, s12.1 = s12.1, s19.1 = s19.1, q30 = q30, q33 = (List.getD s19.2 (Int.toNat (wadd .i64 (wmul .i64 s2.1 (wadd .i64 a0.1 (1 : Int))) s19.1)) (0 : Int)), (0 : Int) = (0 : Int), a0.1 = a0.1, s19.2 = s19.2]) (st' := ⟨[(2, pV 0 0), (4, iV (wadd .i64 a0.1 (1 : Int))), (5, pV 1 0), (6, iV s2.1), (7, iV s12.1), (8, iV s19.1), (9, iV q30), (10, iV q33)], [(0, .box [iC (0 : Int), .nilS]), (1, .box [iC a0.1, .all 2]), (2, .seq tI s19.2)], 3⟩) hO (fun h => by cases h) (by kernel_rfl) ⟨rfl, rfl, rfl, rfl, rfl, hq34, rfl, rfl, rfl, trivial⟩).ht ?_
                obtain ⟨v35', hT37, hT28⟩ := of_bind hT28
                refine HT.join (fun (v35 : Bool) => ⟨[(2, pV 0 0), (4, iV (wadd .i64 a0.1 (1 : Int))), (5, pV 1 0), (6, iV s2.1), (7, iV s12.1), (8, iV s19.1), (9, iV q30), (10, iV q33), (80, bV v35)], [(0, .box [iC (0 : Int), .nilS]), (1, .box [iC a0.1, .all 2]), (2, .seq tI s19.2)], 3⟩) (fun v => v = v35') (fun v35 hv36 => ?_) (fun cont => ?_)
                · subst hv36
                  rcases of_bif hT28 with ⟨hb38, hT28⟩ | ⟨hb38, hT28⟩
                  · refine HT.cond1 rfl hb38 ?_
                    obtain ⟨hg39, hT28⟩ := of_guard hT28
                    exact HT.rgK (oHs 12) [(0, 0), (1, 1), (2, 2)] [] hX (by kernel_rfl) (allCons hg39 (allCons (natLt hg39) allNil)) (fun _ h => (qBlock (qThen (h.ht (cont (List.set s19.2 (Int.toNat (wadd .i64 (wmul .i64 s12.1 (wadd .i64 a0.1 (1 : Int))) s19.1)) (wadd .i64 q30 q33)) (of_some hT28))))))
                  · refine HT.cond0 rfl hb38 ?_
                    refine HT.skip (qBlock (qThen ?_))
                    exact (Le.re [(0, 0), (1, 1), (2, 2)] [] hX (by kernel_rfl)).ht (cont s19.2 (of_some hT28))
                · rcases of_bif hT37 with ⟨hb40, hT37⟩ | ⟨hb40, hT37⟩
                  · rcases of_bif hT37 with ⟨hb41, hT37⟩ | ⟨hb41, hT37⟩
                    · obtain ⟨hg42, hT37⟩ := of_guard hT37
                      exact HT.rgK [oH, oH, oH, ⟨some true, .no⟩, ⟨some true, .no⟩, ⟨none, .tv true⟩, oH, ⟨some true, .no⟩, ⟨some true, .no⟩, ⟨some true, .no⟩, ⟨some true, .no⟩, ⟨some true, .no⟩, ⟨some true, .no⟩, ⟨some true, .no⟩, ⟨some true, .no⟩, ⟨some true, .no⟩, ⟨some true, .no⟩, ⟨some true, .no⟩, ⟨some true, .no⟩, ⟨some true, .no⟩, ⟨none, .tv true⟩] [(0, 0), (1, 1), (2, 2)] [] hX (by kernel_rfl) (allCons hb40 (allCons hb40 (allCons hb40 (allCons hb41 (allCons hb41 (allCons hb41 (allCons hb41 (allCons hb41 (allCons hb41 (allCons hb41 (allCons hb41 (allCons hb41 (allCons hb41 (allCons hb41 (allCons hg42 (allCons hb41 (allCons (natLt hg42) (allCons hb41 (allCons hb41 allNil))))))))))))))))))) (fun _ h => (qThen (h.ht (cont (decide ((wadd .i64 q30 q33) < (List.getD s19.2 (Int.toNat (wadd .i64 (wmul .i64 s12.1 (wadd .i64 a0.1 (1 : Int))) s19.1)) (0 : Int)))) (of_some hT37)))))
                    · exact HT.rgK [oH, oH, oH, ⟨some true, .no⟩, ⟨some true, .no⟩, ⟨none, .tv true⟩, oH, ⟨some false, .no⟩, ⟨some false, .no⟩, ⟨some false, .no⟩, ⟨some false, .no⟩, ⟨some false, .no⟩, ⟨some false, .no⟩, ⟨some false, .no⟩, ⟨some false, .no⟩, ⟨some false, .no⟩, ⟨some false, .no⟩, ⟨some false, .no⟩, ⟨some false, .no⟩, ⟨some false, .no⟩, ⟨none, .tv false⟩] [(0, 0), (1, 1), (2, 2)] [] hX (by kernel_rfl) (allCons hb40 (allCons hb40 (allCons hb40 (allCons hb41 (allCons hb41 (allCons hb41 (allCons hb41 (allCons hb41 (allCons hb41 (allCons hb41 (allCons hb41 (allCons hb41 (allCons hb41 (allCons hb41 (allCons hb41 (allCons hb41 (allCons hb41 allNil))))))))))))))))) (fun _ h => (qThen (h.ht (cont false (of_some hT37)))))
                  · exact HT.rgK [oH, oH, oH, ⟨some false, .no⟩, ⟨some false, .no⟩, ⟨none, .tv false⟩, oH, ⟨some false, .no⟩, ⟨some false, .no⟩, ⟨some false, .no⟩, ⟨some false, .no⟩, ⟨some false, .no⟩, ⟨some false, .no⟩, ⟨some false, .no⟩, ⟨some false, .no⟩, ⟨some false, .no⟩, ⟨some false, .no⟩, ⟨some false, .no⟩, ⟨some false, .no⟩, ⟨some false, .no⟩, ⟨none, .tv false⟩] [(0, 0), (1, 1), (2, 2)] [] hX (by kernel_rfl) (allCons hb40 (allCons hb40 (allCons hb40 (allCons (rfl : false = false) (allCons (rfl : false = false) (allCons (rfl : false = false) (allCons (rfl : false = false) (allCons (rfl : false = false) (allCons (rfl : false = false) (allCons (rfl : false = false) (allCons (rfl : false = false) (allCons (rfl : false = false) (allCons (rfl : false = false) (allCons (rfl : false = false) (allCons (rfl : false = false) (allCons (rfl : false = false) (allCons (rfl : false = false) allNil))))))))))))))))) (fun _ h => (qThen (h.ht (cont false (of_some hT37)))))
            · refine HT.cond0 rfl hb25 ?_
              have hx23 := of_some hx23
              subst hx23
              exact HT.exitL (Le.re [(0, 0), (1, 1), (2, 2)] [] hX (by kernel_rfl)) (qThenE (qLoopE (hk24 s19.2 rfl)))
        · refine HT.cond0 rfl hb18 ?_
          have hx16 := of_some hx16
          subst hx16
          exact HT.exitL (Le.re [(0, 0), (1, 1), (2, 2)] [] hX (by kernel_rfl)) (qThenE (qLoopE (hk17 s12.2 rfl)))
    · refine HT.cond0 rfl hb11 ?_
      have hx9 := of_some hx9
      subst hx9
      exact HT.exitL (Le.re [(0, 0), (1, 1), (2, 2)] [] hX (by kernel_rfl)) (qThenE (qLoopE (hk10 s2.2 rfl)))

noncomputable def spec_TightZone (a0 : Int × List Int) : Option ((Int × List Int) × Bool) :=
  (spec_l07Zone (a0.1, a0.2)).bind fun y1 =>
  bif (!y1) then
    some (((0 : Int), ([] : List Int)), false)
  else
    (spec_l07Tight (a0.1, a0.2)).bind fun y4 =>
    some ((y4.1.1, y4.1.2), y4.2)

theorem f22_ok {a0 : Int × List Int} {r : (Int × List Int) × Bool} (hr : spec_TightZone a0 = some r) : CallOK Try.prog 22 [.imm (.st (.pair tI tLI)) a0] [⟨true, (.st (.pair tI tLI)), r.1⟩, ⟨false, .bool, r.2⟩] [] := by
  unfold spec_TightZone at hr
  refine CallOK.of_body (ts := [(true, (.st (.pair tI tLI))), (false, .bool)]) Try.func22 rfl (by kernel_rfl) (Nat.le_of_ble_eq_true (by kernel_rfl)) fun cx hP hN hO hF => ?_
  have hO : cx.own.map Prod.fst = [] := hO
  have hX := CxIs.mk hP hN hO
  have hF := hF rfl
  show HT cx ⟨[(0, .agg [iC a0.1, nC a0.2])], [], 0⟩ _ _
  refine HT.rg2 (oHs 3) ⟨[(1, pV 0 0), (2, pV 1 0)], [(1, .box [iC (0 : Int), .nilS]), (0, .box [iC a0.1, nC a0.2])], 2⟩ hX (by kernel_rfl) allNil ?_
  refine HT.seq ?_
  obtain ⟨y1, hc2, hr⟩ := of_bind hr
  refine HT.rg2 [⟨none, .call [.pimm (.st (.pair tI tLI))] [⟨false, .bool, y1⟩] []⟩, oH] ⟨[(1, pV 0 0), (2, pV 1 0), (5, bV (!y1))], [(1, .box [iC (0 : Int), .nilS]), (0, .box [iC a0.1, nC a0.2])], 2⟩ hX (by kernel_rfl) (allCons (f108_ok hc2) allNil) ?_
  rcases of_bif hr with ⟨hb3, hr⟩ | ⟨hb3, hr⟩
  · refine HT.cond1 rfl hb3 ?_
    refine HT.rg2 (oHs 3) ⟨[(2, pV 1 0), (3, bV false)], [(1, .box [iC (0 : Int), .nilS])], 2⟩ hX (by kernel_rfl) allNil ?_
    have hr := of_some hr
    subst hr
    exact HT.ret (qThenR ⟨[.agg [iC (0 : Int), .nilS], bV false], [], [], by kernel_rfl, by kernel_rfl, rfl, by kernel_rfl, by kernel_rfl, trivial⟩)
  · refine HT.cond0 rfl hb3 ?_
    refine HT.skip (qThen ?_)
    obtain ⟨y4, hc5, hr⟩ := of_bind hr
    refine HT.rg2 [⟨none, .call [.pimm (.st (.pair tI tLI))] [⟨true, (.st (.pair tI tLI)), y4.1⟩, ⟨false, .bool, y4.2⟩] []⟩, oH, oH, oH, oH] ⟨[(2, pV 1 0), (3, bV y4.2)], [(1, .box [iC y4.1.1, .all 2]), (2, .seq tI y4.1.2)], 3⟩ hX (by kernel_rfl) (allCons (f109_ok hc5) allNil) ?_
    have hr := of_some hr
    subst hr
    exact HT.ret ⟨[.agg [iC y4.1.1, .all 2], bV y4.2], [2], [], by kernel_rfl, by kernel_rfl, rfl, by kernel_rfl, by kernel_rfl, trivial⟩

noncomputable def impl_MeetZone_B1 (a0 : Int × List Int) (a1 : Int × List Int) (s5 : Int × List Int) : Option ((Int × List Int) ⊕ (List Int)) :=
  bif (decide (s5.1 < (lenI a0.2))) then
    guardP ((0 : Int) ≤ s5.1 ∧ s5.1 < lenI a0.2) (
      guardP ((0 : Int) ≤ s5.1 ∧ s5.1 < lenI a1.2) (
        guardP (List.length s5.2 + List.length ([(if (List.getD a1.2 (Int.toNat s5.1) (0 : Int)) < (List.getD a0.2 (Int.toNat s5.1) (0 : Int)) then (List.getD a1.2 (Int.toNat s5.1) (0 : Int)) else (List.getD a0.2 (Int.toNat s5.1) (0 : Int)))] : List Int) ≤ appMax) (
          some (.inl ((wadd .i64 s5.1 (1 : Int)), (s5.2 ++ ([(if (List.getD a1.2 (Int.toNat s5.1) (0 : Int)) < (List.getD a0.2 (Int.toNat s5.1) (0 : Int)) then (List.getD a1.2 (Int.toNat s5.1) (0 : Int)) else (List.getD a0.2 (Int.toNat s5.1) (0 : Int)))] : List Int)))))))
  else
    some (.inr s5.2)

noncomputable def impl_MeetZone (a0 : Int × List Int) (a1 : Int × List Int) : Option ((Int × List Int) × Bool) :=
  (show Option (Bool) from
    (impl_ValidZone (a0.1, a0.2)).bind fun y18 =>
    bif (!y18) then
      some true
    else
      (impl_ValidZone (a1.1, a1.2)).bind fun y21 =>
      bif (!y21) then
        some true
      else
        some (a0.1 != a1.1)).bind fun v1 =>
  bif v1 then
    some (((0 : Int), ([] : List Int)), false)
  else
    (rounds (impl_MeetZone_B1 a0 a1) ((0 : Int), ([] : List Int))).bind fun r7 =>
    (impl_TightZone (a0.1, r7)).bind fun y8 =>
    some ((y8.1.1, y8.1.2), y8.2)

theorem f23_ok {a0 : Int × List Int} {a1 : Int × List Int} {r : (Int × List Int) × Bool} (hr : impl_MeetZone a0 a1 = some r) : CallOK Try.prog 23 [.imm (.st (.pair tI tLI)) a0, .imm (.st (.pair tI tLI)) a1] [⟨true, (.st (.pair tI tLI)), r.1⟩, ⟨false, .bool, r.2⟩] [] := by
  unfold impl_MeetZone at hr
  refine CallOK.of_body (ts := [(true, (.st (.pair tI tLI))), (false, .bool)]) Try.func23 rfl (by kernel_rfl) (Nat.le_of_ble_eq_true (by kernel_rfl)) fun cx hP hN hO hF => ?_
  have hO : cx.own.map Prod.fst = [] := hO
  have hX := CxIs.mk hP hN hO
  have hF := hF rfl
  show HT cx ⟨[(0, .agg [iC a0.1, nC a0.2]), (1, .agg [iC a1.1, nC a1.2])], [], 0⟩ _ _
  refine HT.rg2 (oHs 4) ⟨[(2, pV 0 0), (3, pV 1 0), (4, pV 2 0)], [(2, .box [iC (0 : Int), .nilS]), (1, .box [iC a1.1, nC a1.2]), (0, .box [iC a0.1, nC a0.2])], 3⟩ hX (by kernel_rfl) allNil ?_
  refine HT.seq ?_
  obtain ⟨v1', hT3, hr⟩ := of_bind hr
  refine HT.join (fun (v1 : Bool) => ⟨[(2, pV 0 0), (3, pV 1 0), (4, pV 2 0), (23, bV v1)], [(0, .box [iC a0.1, nC a0.2]), (1, .box [iC a1.1, nC a1.2]), (2, .box [iC (0 : Int), .nilS])], 3⟩) (fun v => v = v1') (fun v1 hv2 => ?_) (fun cont => ?_)
  · subst hv2
    rcases of_bif hr with ⟨hb4, hr⟩ | ⟨hb4, hr⟩
    · refine HT.cond1 rfl hb4 ?_
      refine HT.rg2 (oHs 3) ⟨[(4, pV 2 0), (5, bV false)], [(2, .box [iC (0 : Int), .nilS])], 3⟩ hX (by kernel_rfl) allNil ?_
      have hr := of_some hr
      subst hr
      exact HT.ret (qThenR ⟨[.agg [iC (0 : Int), .nilS], bV false], [], [], by kernel_rfl, by kernel_rfl, rfl, by kernel_rfl, by kernel_rfl, trivial⟩)
    · refine HT.cond0 rfl hb4 ?_
      refine HT.skip (qThen ?_)
      refine HT.rg2 (oHs 5) ⟨[(2, pV 0 0), (3, pV 1 0), (4, pV 2 0), (6, pV 3 0)], [(3, .box [iC a0.1, .nilS]), (0, .box [iC a0.1, nC a0.2]), (1, .box [iC a1.1, nC a1.2]), (2, .box [iC (0 : Int), .nilS])], 4⟩ hX (by kernel_rfl) allNil ?_
      refine HT.seq ?_
      refine HT.rg2 (oHs 4) ⟨[(3, pV 1 0), (4, pV 2 0), (6, pV 3 0), (29, nV a0.2), (30, iV (lenI a0.2)), (31, iV (0 : Int))], [(3, .box [iC a0.1, .nilS]), (1, .box [iC a1.1, nC a1.2]), (2, .box [iC (0 : Int), .nilS])], 4⟩ hX (by kernel_rfl) allNil ?_
      refine HT.block ?_
      obtain ⟨r6, hL17, hr⟩ := of_bind hr
      refine HT.loopL (fun (s5 : Int × List Int) => ⟨[(3, pV 0 0), (4, pV 1 0), (6, pV 2 0), (29, nV a0.2), (30, iV (lenI a0.2)), (31, iV s5.1)], [(0, .box [iC a1.1, nC a1.2]), (1, .box [iC (0 : Int), .nilS]), (2, .box [iC a0.1, .all 3]), (3, .seq tI s5.2)], 4⟩) (fun (r7 : List Int) => (.exit 0, ⟨[(4, pV 0 0), (6, pV 1 0)], [(0, .box [iC (0 : Int), .nilS]), (1, .box [iC a0.1, .all 2]), (2, .seq tI r7)], 3⟩)) (Le.re [(1, 0), (2, 1), (3, 2)] [3] hX (by kernel_rfl)) hL17 ?_ (fun s5 x10 hx11 hk12 => ?_)
      · refine (qBlockX (qThen ?_))
        obtain ⟨y8, hc9, hr⟩ := of_bind hr
        refine HT.rg2 [oH, ⟨none, .call [.imm (.st (.pair tI tLI))] [⟨true, (.st (.pair tI tLI)), y8.1⟩, ⟨false, .bool, y8.2⟩] []⟩, oH, oH, oH, oH] ⟨[(4, pV 0 0), (5, bV y8.2)], [(0, .box [iC y8.1.1, .all 3]), (3, .seq tI y8.1.2)], 4⟩ hX (by kernel_rfl) (allCons (f21_ok hc9) allNil) ?_
        have hr := of_some hr
        subst hr
        exact HT.ret ⟨[.agg [iC y8.1.1, .all 3], bV y8.2], [3], [], by kernel_rfl, by kernel_rfl, rfl, by kernel_rfl, by kernel_rfl, trivial⟩
      · refine HT.rg2 [oH] ⟨[(3, pV 0 0), (4, pV 1 0), (6, pV 2 0), (29, nV a0.2), (30, iV (lenI a0.2)), (31, iV s5.1), (32, bV (decide (s5.1 < (lenI a0.2))))], [(0, .box [iC a1.1, nC a1.2]), (1, .box [iC (0 : Int), .nilS]), (2, .box [iC a0.1, .all 3]), (3, .seq tI s5.2)], 4⟩ hX (by kernel_rfl) allNil ?_
        refine HT.seq ?_
        rcases of_bif hx11 with ⟨hb13, hx11⟩ | ⟨hb13, hx11⟩
        · refine HT.cond1 rfl hb13 ?_
          refine HT.skip (qThen ?_)
          refine HT.seq ?_
          refine HT.block ?_
          obtain ⟨hg14, hx11⟩ := of_guard hx11
          refine HT.rg2 (oHs 5) ⟨[(3, pV 0 0), (4, pV 1 0), (6, pV 2 0), (7, iV s5.1), (8, iV (List.getD a0.2 (Int.toNat s5.1) (0 : Int))), (29, nV a0.2), (30, iV (lenI a0.2)), (31, iV s5.1)], [(0, .box [iC a1.1, nC a1.2]), (1, .box [iC (0 : Int), .nilS]), (2, .box [iC a0.1, .all 3]), (3, .seq tI s5.2)], 4⟩ hX (by kernel_rfl) (allCons hg14 allNil) ?_
          obtain ⟨hg15, hx11⟩ := of_guard hx11
          obtain ⟨hg16, hx11⟩ := of_guard hx11
          refine HT.drL 10 [⟨oH, []⟩, ⟨oH, [0]⟩, ⟨oH, []⟩, ⟨oH, []⟩, ⟨oH, [3]⟩, ⟨oH, []⟩, ⟨oH, [3, 4, 5]⟩, ⟨oH, [3, 4, 5, 6]⟩, ⟨oH, [2, 3, 4, 5, 6, 7]⟩, ⟨⟨none, .ty tI⟩, [2, 3, 4, 5, 6, 7, 8]⟩] [[0, 1, 2, 3, 4, 5, 6, 7, 8, 9], [0, 1, 2, 3, 4, 5, 6, 7, 8, 9, 10], [0, 1, 2, 3, 4, 5, 6, 7, 8, 9, 10, 11]] [⟨none, .ty tI⟩, oH, oH] ⟨[(3, pV 0 0), (4, pV 1 0), (6, pV 2 0), (29, nV a0.2), (30, iV (lenI a0.2)), (31, iV s5.1)], [(2, .box [iC a0.1, .all 5]), (5, .seq tI (s5.2 ++ ([(if (List.getD a1.2 (Int.toNat s5.1) (0 : Int)) < (List.getD a0.2 (Int.toNat s5.1) (0 : Int)) then (List.getD a1.2 (Int.toNat s5.1) (0 : Int)) else (List.getD a0.2 (Int.toNat s5.1) (0 : Int)))] : List Int))), (0, .box [iC a1.1, nC a1.2]), (1, .box [iC (0 : Int), .nilS])], 6⟩ hX (by kernel_rfl) (by kernel_rfl) (allCons hg15 (allCons hg16 allNil)) (qBlock (qThen ?_))
          have hx11 := of_some hx11
          subst hx11
          exact HT.rgK (oHs 2) [(0, 0), (1, 1), (2, 2), (5, 3)] [] hX (by kernel_rfl) allNil (fun _ h => (qLoopN ⟨((wadd .i64 s5.1 (1 : Int)), (s5.2 ++ ([(if (List.getD a1.2 (Int.toNat s5.1) (0 : Int)) < (List.getD a0.2 (Int.toNat s5.1) (0 : Int)) then (List.getD a1.2 (Int.toNat s5.1) (0 : Int)) else (List.getD a0.2 (Int.toNat s5.1) (0 : Int)))] : List Int))), rfl, h⟩))
        · refine HT.cond0 rfl hb13 ?_
          have hx11 := of_some hx11
          subst hx11
          exact HT.exitL (Le.re [(1, 0), (2, 1), (3, 2)] [] hX (by kernel_rfl)) (qThenE (qLoopE (hk12 s5.2 rfl)))
  · obtain ⟨y18, hc19, hT3⟩ := of_bind hT3
    rcases of_bif hT3 with ⟨hb20, hT3⟩ | ⟨hb20, hT3⟩
    · exact HT.rgK [oH, ⟨none, .call [.imm (.st (.pair tI tLI))] [⟨false, .bool, y18⟩] []⟩, oH, oH, ⟨some true, .no⟩, ⟨some true, .no⟩, ⟨some true, .no⟩, ⟨none, .tv true⟩, oH, ⟨some true, .no⟩, ⟨some true, .no⟩, ⟨some true, .no⟩, ⟨some true, .no⟩, ⟨some true, .no⟩, ⟨none, .tv true⟩] [(0, 0), (1, 1), (2, 2)] [] hX (by kernel_rfl) (allCons (f29_ok hc19) (allCons hb20 (allCons hb20 (allCons hb20 (allCons hb20 (allCons (rfl : true = true) (allCons (rfl : true = true) (allCons (rfl : true = true) (allCons (rfl : true = true) (allCons (rfl : true = true) (allCons (rfl : true = true) allNil))))))))))) (fun _ h => (qThen (h.ht (cont true (of_some hT3)))))
    · obtain ⟨y21, hc22, hT3⟩ := of_bind hT3
      rcases of_bif hT3 with ⟨hb23, hT3⟩ | ⟨hb23, hT3⟩
      · exact HT.rgK [oH, ⟨none, .call [.imm (.st (.pair tI tLI))] [⟨false, .bool, y18⟩] []⟩, oH, oH, ⟨some false, .no⟩, ⟨some false, .call [.imm (.st (.pair tI tLI))] [⟨false, .bool, y21⟩] []⟩, ⟨some false, .no⟩, ⟨none, .tv false⟩, oH, ⟨some true, .no⟩, ⟨some true, .no⟩, ⟨some true, .no⟩, ⟨some true, .no⟩, ⟨some true, .no⟩, ⟨none, .tv true⟩] [(0, 0), (1, 1), (2, 2)] [] hX (by kernel_rfl) (allCons (f29_ok hc19) (allCons hb20 (allCons hb20 (allCons (f29_ok hc22) (allCons hb20 (allCons hb20 (allCons hb23 (allCons hb23 (allCons hb23 (allCons hb23 (allCons hb23 (allCons hb23 allNil)))))))))))) (fun _ h => (qThen (h.ht (cont true (of_some hT3)))))
      · exact HT.rgK [oH, ⟨none, .call [.imm (.st (.pair tI tLI))] [⟨false, .bool, y18⟩] []⟩, oH, oH, ⟨some false, .no⟩, ⟨some false, .call [.imm (.st (.pair tI tLI))] [⟨false, .bool, y21⟩] []⟩, ⟨some false, .no⟩, ⟨none, .tv false⟩, oH, ⟨some false, .no⟩, ⟨some false, .no⟩, ⟨some false, .no⟩, ⟨some false, .no⟩, ⟨some false, .no⟩, ⟨none, .tv false⟩] [(0, 0), (1, 1), (2, 2)] [] hX (by kernel_rfl) (allCons (f29_ok hc19) (allCons hb20 (allCons hb20 (allCons (f29_ok hc22) (allCons hb20 (allCons hb20 (allCons hb23 (allCons hb23 (allCons hb23 (allCons hb23 (allCons hb23 (allCons hb23 allNil)))))))))))) (fun _ h => (qThen (h.ht (cont (a0.1 != a1.1) (of_some hT3)))))

noncomputable def spec_l00Min (a0 : Int) (a1 : Int) : Option (Int) :=
  bif (decide (a0 < a1)) then
    some a0
  else
    some a1

theorem f110_ok {a0 : Int} {a1 : Int} {r : Int} (hr : spec_l00Min a0 a1 = some r) : CallOK Try.prog 110 [.imm tI a0, .imm tI a1] [⟨false, tI, r⟩] [] := by
  unfold spec_l00Min at hr
  refine CallOK.of_body (ts := [(false, tI)]) Try.func110 rfl (by kernel_rfl) (Nat.le_of_ble_eq_true (by kernel_rfl)) fun cx hP hN hO hF => ?_
  have hO : cx.own.map Prod.fst = [] := hO
  have hX := CxIs.mk hP hN hO
  have hF := hF rfl
  show HT cx ⟨[(0, iV a0), (1, iV a1)], [], 0⟩ _ _
  refine HT.rg2 [oH] ⟨[(0, iV a0), (1, iV a1)], [], 0⟩ hX (by kernel_rfl) allNil ?_
  refine HT.seq ?_
  refine HT.rg2 (oHs 3) ⟨[(0, iV a0), (1, iV a1), (7, bV (decide (a0 < a1)))], [], 0⟩ hX (by kernel_rfl) allNil ?_
  rcases of_bif hr with ⟨hb1, hr⟩ | ⟨hb1, hr⟩
  · refine HT.cond1 rfl hb1 ?_
    refine HT.rg2 (oHs 2) ⟨[(4, iV a0)], [], 0⟩ hX (by kernel_rfl) allNil ?_
    have hr := of_some hr
    subst hr
    exact HT.ret (qThenR ⟨[iV a0], [], [], by kernel_rfl, by kernel_rfl, rfl, by kernel_rfl, by kernel_rfl, trivial⟩)
  · refine HT.cond0 rfl hb1 ?_
    refine HT.skip (qThen ?_)
    refine HT.rg2 (oHs 2) ⟨[(4, iV a1)], [], 0⟩ hX (by kernel_rfl) allNil ?_
    have hr := of_some hr
    subst hr
    exact HT.ret ⟨[iV a1], [], [], by kernel_rfl, by kernel_rfl, rfl, by kernel_rfl, by kernel_rfl, trivial⟩

noncomputable def spec_MeetZone_B1 (a0 : Int × List Int) (a1 : Int × List Int) (s5 : Int × List Int) : Option ((Int × List Int) ⊕ (List Int)) :=
  bif (decide (s5.1 < (lenI a0.2))) then
    guardP ((0 : Int) ≤ s5.1 ∧ s5.1 < lenI a0.2) (
      guardP ((0 : Int) ≤ s5.1 ∧ s5.1 < lenI a1.2) (
        (spec_l00Min (List.getD a0.2 (Int.toNat s5.1) (0 : Int)) (List.getD a1.2 (Int.toNat s5.1) (0 : Int))).bind fun y16 =>
        guardP (List.length s5.2 + List.length ([y16] : List Int) ≤ appMax) (
          some (.inl ((wadd .i64 s5.1 (1 : Int)), (s5.2 ++ ([y16] : List Int)))))))
  else
    some (.inr s5.2)

noncomputable def spec_MeetZone (a0 : Int × List Int) (a1 : Int × List Int) : Option ((Int × List Int) × Bool) :=
  (show Option (Bool) from
    (spec_l07Zone (a0.1, a0.2)).bind fun y20 =>
    bif (!y20) then
      some true
    else
      (spec_l07Zone (a1.1, a1.2)).bind fun y23 =>
      bif (!y23) then
        some true
      else
        some (a0.1 != a1.1)).bind fun v1 =>
  bif v1 then
    some (((0 : Int), ([] : List Int)), false)
  else
    (rounds (spec_MeetZone_B1 a0 a1) ((0 : Int), ([] : List Int))).bind fun r7 =>
    (spec_l07Tight (a0.1, r7)).bind fun y8 =>
    some ((y8.1.1, y8.1.2), y8.2)

theorem f24_ok {a0 : Int × List Int} {a1 : Int × List Int} {r : (Int × List Int) × Bool} (hr : spec_MeetZone a0 a1 = some r) : CallOK Try.prog 24 [.imm (.st (.pair tI tLI)) a0, .imm (.st (.pair tI tLI)) a1] [⟨true, (.st (.pair tI tLI)), r.1⟩, ⟨false, .bool, r.2⟩] [] := by
  unfold spec_MeetZone at hr
  refine CallOK.of_body (ts := [(true, (.st (.pair tI tLI))), (false, .bool)]) Try.func24 rfl (by kernel_rfl) (Nat.le_of_ble_eq_true (by kernel_rfl)) fun cx hP hN hO hF => ?_
  have hO : cx.own.map Prod.fst = [] := hO
  have hX := CxIs.mk hP hN hO
  have hF := hF rfl
  show HT cx ⟨[(0, .agg [iC a0.1, nC a0.2]), (1, .agg [iC a1.1, nC a1.2])], [], 0⟩ _ _
  refine HT.rg2 (oHs 4) ⟨[(2, pV 0 0), (3, pV 1 0), (4, pV 2 0)], [(2, .box [iC (0 : Int), .nilS]), (1, .box [iC a1.1, nC a1.2]), (0, .box [iC a0.1, nC a0.2])], 3⟩ hX (by kernel_rfl) allNil ?_
  refine HT.seq ?_
  obtain ⟨v1', hT3, hr⟩ := of_bind hr
  refine HT.join (fun (v1 : Bool) => ⟨[(2, pV 0 0), (3, pV 1 0), (4, pV 2 0), (20, bV v1)], [(0, .box [iC a0.1, nC a0.2]), (1, .box [iC a1.1, nC a1.2]), (2, .box [iC (0 : Int), .nilS])], 3⟩) (fun v => v = v1') (fun v1 hv2 => ?_) (fun cont => ?_)
  · subst hv2
    rcases of_bif hr with ⟨hb4, hr⟩ | ⟨hb4, hr⟩
    · refine HT.cond1 rfl hb4 ?_
      refine HT.rg2 (oHs 3) ⟨[(4, pV 2 0), (5, bV false)], [(2, .box [iC (0 : Int), .nilS])], 3⟩ hX (by kernel_rfl) allNil ?_
      have hr := of_some hr
      subst hr
      exact HT.ret (qThenR ⟨[.agg [iC (0 : Int), .nilS], bV false], [], [], by kernel_rfl, by kernel_rfl, rfl, by kernel_rfl, by kernel_rfl, trivial⟩)
    · refine HT.cond0 rfl hb4 ?_
      refine HT.skip (qThen ?_)
      refine HT.rg2 (oHs 5) ⟨[(2, pV 0 0), (3, pV 1 0), (4, pV 2 0), (6, pV 3 0)], [(3, .box [iC a0.1, .nilS]), (0, .box [iC a0.1, nC a0.2]), (1, .box [iC a1.1, nC a1.2]), (2, .box [iC (0 : Int), .nilS])], 4⟩ hX (by kernel_rfl) allNil ?_
      refine HT.seq ?_
      refine HT.rg2 (oHs 4) ⟨[(2, pV 0 0), (3, pV 1 0), (4, pV 2 0), (6, pV 3 0), (27, iV (lenI a0.2)), (28, iV (0 : Int))], [(3, .box [iC a0.1, .nilS]), (0, .box [iC a0.1, nC a0.2]), (1, .box [iC a1.1, nC a1.2]), (2, .box [iC (0 : Int), .nilS])], 4⟩ hX (by kernel_rfl) allNil ?_
      refine HT.block ?_
      obtain ⟨r6, hL19, hr⟩ := of_bind hr
      refine HT.loopL (fun (s5 : Int × List Int) => ⟨[(2, pV 0 0), (3, pV 1 0), (4, pV 2 0), (6, pV 3 0), (27, iV (lenI a0.2)), (28, iV s5.1)], [(0, .box [iC a0.1, nC a0.2]), (1, .box [iC a1.1, nC a1.2]), (2, .box [iC (0 : Int), .nilS]), (3, .box [iC a0.1, .all 4]), (4, .seq tI s5.2)], 5⟩) (fun (r7 : List Int) => (.exit 0, ⟨[(4, pV 0 0), (6, pV 1 0)], [(0, .box [iC (0 : Int), .nilS]), (1, .box [iC a0.1, .all 2]), (2, .seq tI r7)], 3⟩)) (Le.re [(0, 0), (1, 1), (2, 2), (3, 3)] [4] hX (by kernel_rfl)) hL19 ?_ (fun s5 x10 hx11 hk12 => ?_)
      · refine (qBlockX (qThen ?_))
        obtain ⟨y8, hc9, hr⟩ := of_bind hr
        refine HT.rg2 [⟨none, .call [.pimm (.st (.pair tI tLI))] [⟨true, (.st (.pair tI tLI)), y8.1⟩, ⟨false, .bool, y8.2⟩] []⟩, oH, oH, oH, oH] ⟨[(4, pV 0 0), (5, bV y8.2)], [(0, .box [iC y8.1.1, .all 3]), (3, .seq tI y8.1.2)], 4⟩ hX (by kernel_rfl) (allCons (f109_ok hc9) allNil) ?_
        have hr := of_some hr
        subst hr
        exact HT.ret ⟨[.agg [iC y8.1.1, .all 3], bV y8.2], [3], [], by kernel_rfl, by kernel_rfl, rfl, by kernel_rfl, by kernel_rfl, trivial⟩
      · refine HT.rg2 [oH] ⟨[(2, pV 0 0), (3, pV 1 0), (4, pV 2 0), (6, pV 3 0), (27, iV (lenI a0.2)), (28, iV s5.1), (29, bV (decide (s5.1 < (lenI a0.2))))], [(0, .box [iC a0.1, nC a0.2]), (1, .box [iC a1.1, nC a1.2]), (2, .box [iC (0 : Int), .nilS]), (3, .box [iC a0.1, .all 4]), (4, .seq tI s5.2)], 5⟩ hX (by kernel_rfl) allNil ?_
        refine HT.seq ?_
        rcases of_bif hx11 with ⟨hb13, hx11⟩ | ⟨hb13, hx11⟩
        · refine HT.cond1 rfl hb13 ?_
          refine HT.skip (qThen ?_)
          refine HT.seq ?_
          refine HT.block ?_
          refine HT.rg2 (oHs 2) ⟨[(2, pV 0 0), (3, pV 1 0), (4, pV 2 0), (6, pV 3 0), (7, iV s5.1), (27, iV (lenI a0.2)), (28, iV s5.1)], [(0, .box [iC a0.1, nC a0.2]), (1, .box [iC a1.1, nC a1.2]), (2, .box [iC (0 : Int), .nilS]), (3, .box [iC a0.1, .all 4]), (4, .seq tI s5.2)], 5⟩ hX (by kernel_rfl) allNil ?_
          obtain ⟨hg14, hx11⟩ := of_guard hx11
          obtain ⟨hg15, hx11⟩ := of_guard hx11
          obtain ⟨y16, hc17, hx11⟩ := of_bind hx11
          obtain ⟨hg18, hx11⟩ := of_guard hx11
          refine HT.drL 14 [⟨oH, []⟩, ⟨oH, [0]⟩, ⟨oH, []⟩, ⟨oH, [2]⟩, ⟨oH, []⟩, ⟨oH, [2, 3, 4]⟩, ⟨oH, [2, 3, 4, 5]⟩, ⟨oH, []⟩, ⟨oH, [7]⟩, ⟨oH, []⟩, ⟨oH, [7, 8, 9]⟩, ⟨oH, [7, 8, 9, 10]⟩, ⟨⟨none, .call [.imm tI, .imm tI] [⟨false, tI, y16⟩] []⟩, [2, 3, 4, 5, 6, 7, 8, 9, 10, 11]⟩, ⟨⟨none, .ty tI⟩, [2, 3, 4, 5, 6, 7, 8, 9, 10, 11, 12]⟩] [[0, 1, 2, 3, 4, 5, 6, 7, 8, 9, 10, 11, 12, 13], [0, 1, 2, 3, 4, 5, 6, 7, 8, 9, 10, 11, 12, 13, 14], [0, 1, 2, 3, 4, 5, 6, 7, 8, 9, 10, 11, 12, 13, 14, 15]] [⟨none, .ty tI⟩, oH, oH] ⟨[(2, pV 0 0), (3, pV 1 0), (4, pV 2 0), (6, pV 3 0), (27, iV (lenI a0.2)), (28, iV s5.1)], [(3, .box [iC a0.1, .all 6]), (6, .seq tI (s5.2 ++ ([y16] : List Int))), (0, .box [iC a0.1, nC a0.2]), (1, .box [iC a1.1, nC a1.2]), (2, .box [iC (0 : Int), .nilS])], 7⟩ hX (by kernel_rfl) (by kernel_rfl) (allCons hg14 (allCons hg15 (allCons (f110_ok hc17) (allCons hg18 allNil)))) (qBlock (qThen ?_))
          have hx11 := of_some hx11
          subst hx11
          exact HT.rgK (oHs 2) [(0, 0), (1, 1), (2, 2), (3, 3), (6, 4)] [] hX (by kernel_rfl) allNil (fun _ h => (qLoopN ⟨((wadd .i64 s5.1 (1 : Int)), (s5.2 ++ ([y16] : List Int))), rfl, h⟩))
        · refine HT.cond0 rfl hb13 ?_
          have hx11 := of_some hx11
          subst hx11
          exact HT.exitL (Le.re [(2, 0), (3, 1), (4, 2)] [] hX (by kernel_rfl)) (qThenE (qLoopE (hk12 s5.2 rfl)))
  · obtain ⟨y20, hc21, hT3⟩ := of_bind hT3
    rcases of_bif hT3 with ⟨hb22, hT3⟩ | ⟨hb22, hT3⟩
    · exact HT.rgK [⟨none, .call [.pimm (.st (.pair tI tLI))] [⟨false, .bool, y20⟩] []⟩, oH, oH, ⟨some true, .no⟩, ⟨some true, .no⟩, ⟨none, .tv true⟩, oH, ⟨some true, .no⟩, ⟨some true, .no⟩, ⟨some true, .no⟩, ⟨some true, .no⟩, ⟨some true, .no⟩, ⟨none, .tv true⟩] [(0, 0), (1, 1), (2, 2)] [] hX (by kernel_rfl) (allCons (f108_ok hc21) (allCons hb22 (allCons hb22 (allCons hb22 (allCons (rfl : true = true) (allCons (rfl : true = true) (allCons (rfl : true = true) (allCons (rfl : true = true) (allCons (rfl : true = true) (allCons (rfl : true = true) allNil)))))))))) (fun _ h => (qThen (h.ht (cont true (of_some hT3)))))
    · obtain ⟨y23, hc24, hT3⟩ := of_bind hT3
      rcases of_bif hT3 with ⟨hb25, hT3⟩ | ⟨hb25, hT3⟩
      · exact HT.rgK [⟨none, .call [.pimm (.st (.pair tI tLI))] [⟨false, .bool, y20⟩] []⟩, oH, oH, ⟨some false, .call [.pimm (.st (.pair tI tLI))] [⟨false, .bool, y23⟩] []⟩, ⟨some false, .no⟩, ⟨none, .tv false⟩, oH, ⟨some true, .no⟩, ⟨some true, .no⟩, ⟨some true, .no⟩, ⟨some true, .no⟩, ⟨some true, .no⟩, ⟨none, .tv true⟩] [(0, 0), (1, 1), (2, 2)] [] hX (by kernel_rfl) (allCons (f108_ok hc21) (allCons hb22 (allCons (f108_ok hc24) (allCons hb22 (allCons hb22 (allCons hb25 (allCons hb25 (allCons hb25 (allCons hb25 (allCons hb25 (allCons hb25 allNil))))))))))) (fun _ h => (qThen (h.ht (cont true (of_some hT3)))))
      · exact HT.rgK [⟨none, .call [.pimm (.st (.pair tI tLI))] [⟨false, .bool, y20⟩] []⟩, oH, oH, ⟨some false, .call [.pimm (.st (.pair tI tLI))] [⟨false, .bool, y23⟩] []⟩, ⟨some false, .no⟩, ⟨none, .tv false⟩, oH, ⟨some false, .no⟩, ⟨some false, .no⟩, ⟨some false, .no⟩, ⟨some false, .no⟩, ⟨some false, .no⟩, ⟨none, .tv false⟩] [(0, 0), (1, 1), (2, 2)] [] hX (by kernel_rfl) (allCons (f108_ok hc21) (allCons hb22 (allCons (f108_ok hc24) (allCons hb22 (allCons hb22 (allCons hb25 (allCons hb25 (allCons hb25 (allCons hb25 (allCons hb25 (allCons hb25 allNil))))))))))) (fun _ h => (qThen (h.ht (cont (a0.1 != a1.1) (of_some hT3)))))

noncomputable def impl_LaterZone_B1 (y1 : (Int × List Int) × Bool) (s4 : Int × List Int) : Option ((Int × List Int) ⊕ (List Int)) :=
  bif (decide (s4.1 ≤ y1.1.1)) then
    (impl_Zone_at (y1.1.1, s4.2) s4.1 (0 : Int)).bind fun y11 =>
    guardP ((0 : Int) ≤ y11 ∧ y11 < lenI s4.2) (
      some (.inl ((wadd .i64 s4.1 (1 : Int)), (List.set s4.2 (Int.toNat y11) (1000000000 : Int)))))
  else
    some (.inr s4.2)

noncomputable def impl_LaterZone (a0 : Int × List Int) : Option ((Int × List Int) × Bool) :=
  (impl_TightZone (a0.1, a0.2)).bind fun y1 =>
  bif (!y1.2) then
    some (((0 : Int), ([] : List Int)), false)
  else
    (rounds (impl_LaterZone_B1 y1) ((1 : Int), y1.1.2)).bind fun r6 =>
    some ((y1.1.1, r6), true)

theorem f25_ok {a0 : Int × List Int} {r : (Int × List Int) × Bool} (hr : impl_LaterZone a0 = some r) : CallOK Try.prog 25 [.imm (.st (.pair tI tLI)) a0] [⟨true, (.st (.pair tI tLI)), r.1⟩, ⟨false, .bool, r.2⟩] [] := by
  unfold impl_LaterZone at hr
  refine CallOK.of_body (ts := [(true, (.st (.pair tI tLI))), (false, .bool)]) Try.func25 rfl (by kernel_rfl) (Nat.le_of_ble_eq_true (by kernel_rfl)) fun cx hP hN hO hF => ?_
  have hO : cx.own.map Prod.fst = [] := hO
  have hX := CxIs.mk hP hN hO
  have hF := hF rfl
  show HT cx ⟨[(0, .agg [iC a0.1, nC a0.2])], [], 0⟩ _ _
  refine HT.rg2 (oHs 3) ⟨[(1, pV 0 0), (2, pV 1 0)], [(1, .box [iC (0 : Int), .nilS]), (0, .box [iC a0.1, nC a0.2])], 2⟩ hX (by kernel_rfl) allNil ?_
  obtain ⟨y1, hc2, hr⟩ := of_bind hr
  refine HT.rg2 [oH, ⟨none, .call [.imm (.st (.pair tI tLI))] [⟨true, (.st (.pair tI tLI)), y1.1⟩, ⟨false, .bool, y1.2⟩] []⟩, oH, oH, oH, oH, oH, oH] ⟨[(2, pV 1 0), (4, pV 3 0), (5, bV y1.2)], [(3, .box [iC y1.1.1, .all 2]), (2, .seq tI y1.1.2), (1, .box [iC (0 : Int), .nilS])], 4⟩ hX (by kernel_rfl) (allCons (f21_ok hc2) allNil) ?_
  refine HT.seq ?_
  refine HT.rg2 (oHs 2) ⟨[(2, pV 1 0), (4, pV 3 0), (13, bV (!y1.2))], [(3, .box [iC y1.1.1, .all 2]), (2, .seq tI y1.1.2), (1, .box [iC (0 : Int), .nilS])], 4⟩ hX (by kernel_rfl) allNil ?_
  rcases of_bif hr with ⟨hb3, hr⟩ | ⟨hb3, hr⟩
  · refine HT.cond1 rfl hb3 ?_
    refine HT.rg2 (oHs 3) ⟨[(2, pV 1 0), (3, bV false)], [(1, .box [iC (0 : Int), .nilS])], 4⟩ hX (by kernel_rfl) allNil ?_
    have hr := of_some hr
    subst hr
    exact HT.ret (qThenR ⟨[.agg [iC (0 : Int), .nilS], bV false], [], [], by kernel_rfl, by kernel_rfl, rfl, by kernel_rfl, by kernel_rfl, trivial⟩)
  · refine HT.cond0 rfl hb3 ?_
    refine HT.skip (qThen ?_)
    refine HT.seq ?_
    refine HT.rg2 [oH] ⟨[(2, pV 1 0), (4, pV 3 0), (6, iV (1 : Int))], [(3, .box [iC y1.1.1, .all 2]), (2, .seq tI y1.1.2), (1, .box [iC (0 : Int), .nilS])], 4⟩ hX (by kernel_rfl) allNil ?_
    refine HT.block ?_
    obtain ⟨r5, hL14, hr⟩ := of_bind hr
    refine HT.loopL (fun (s4 : Int × List Int) => ⟨[(2, pV 0 0), (4, pV 1 0), (6, iV s4.1)], [(0, .box [iC (0 : Int), .nilS]), (1, .box [iC y1.1.1, .all 2]), (2, .seq tI s4.2)], 3⟩) (fun (r6 : List Int) => (.exit 0, ⟨[(2, pV 0 0), (4, pV 1 0)], [(0, .box [iC (0 : Int), .nilS]), (1, .box [iC y1.1.1, .all 2]), (2, .seq tI r6)], 3⟩)) (Le.re [(1, 0), (3, 1), (2, 2)] [] hX (by kernel_rfl)) hL14 ?_ (fun s4 x7 hx8 hk9 => ?_)
    · refine (qBlockX (qThen ?_))
      refine HT.rg2 (oHs 3) ⟨[(2, pV 0 0), (3, bV true)], [(0, .box [iC y1.1.1, .all 2]), (2, .seq tI r5)], 3⟩ hX (by kernel_rfl) allNil ?_
      have hr := of_some hr
      subst hr
      exact HT.ret ⟨[.agg [iC y1.1.1, .all 2], bV true], [2], [], by kernel_rfl, by kernel_rfl, rfl, by kernel_rfl, by kernel_rfl, trivial⟩
    · refine HT.seq ?_
      refine HT.rg2 (oHs 4) ⟨[(2, pV 0 0), (4, pV 1 0), (6, iV s4.1), (18, bV (decide (s4.1 ≤ y1.1.1)))], [(0, .box [iC (0 : Int), .nilS]), (1, .box [iC y1.1.1, .all 2]), (2, .seq tI s4.2)], 3⟩ hX (by kernel_rfl) allNil ?_
      rcases of_bif hx8 with ⟨hb10, hx8⟩ | ⟨hb10, hx8⟩
      · refine HT.cond1 rfl hb10 ?_
        refine HT.skip (qThen ?_)
        refine HT.seq ?_
        refine HT.block ?_
        obtain ⟨y11, hc12, hx8⟩ := of_bind hx8
        obtain ⟨hg13, hx8⟩ := of_guard hx8
        refine HT.drL 5 [⟨oH, []⟩, ⟨oH, [0]⟩, ⟨oH, []⟩, ⟨oH, []⟩, ⟨⟨none, .call [.imm (.st (.pair tI tLI)), .imm tI, .imm tI] [⟨false, tI, y11⟩] []⟩, [2, 3]⟩] [[0, 1, 2, 3, 4], [0, 1, 2, 3, 4, 5]] (oHs 2) ⟨[(2, pV 0 0), (4, pV 1 0), (6, iV s4.1)], [(2, .seq tI (List.set s4.2 (Int.toNat y11) (1000000000 : Int))), (0, .box [iC (0 : Int), .nilS]), (1, .box [iC y1.1.1, .all 2])], 3⟩ hX (by kernel_rfl) (by kernel_rfl) (allCons (f107_ok hc12) (allCons hg13 (allCons (natLt hg13) allNil))) (qBlock (qThen ?_))
        have hx8 := of_some hx8
        subst hx8
        exact HT.rgK (oHs 3) [(0, 0), (1, 1), (2, 2)] [] hX (by kernel_rfl) allNil (fun _ h => (qLoopN ⟨((wadd .i64 s4.1 (1 : Int)), (List.set s4.2 (Int.toNat y11) (1000000000 : Int))), rfl, h⟩))
      · refine HT.cond0 rfl hb10 ?_
        have hx8 := of_some hx8
        subst hx8
        exact HT.exitL (Le.re [(0, 0), (1, 1), (2, 2)] [] hX (by kernel_rfl)) (qThenE (qLoopE (hk9 s4.2 rfl)))

noncomputable def impl_ResetZone_B1 (a1 : Int) (y1 : (Int × List Int) × Bool) (y12 : Int) (s14 : Int × List Int) : Option ((Int × List Int) ⊕ (List Int)) :=
  bif (decide (s14.1 < y12)) then
    (impl_Zone_at (y1.1.1, s14.2) s14.1 a1).bind fun y24 =>
    (impl_Zone_at (y1.1.1, s14.2) s14.1 (0 : Int)).bind fun y26 =>
    guardP ((0 : Int) ≤ y26 ∧ y26 < lenI s14.2) (
      guardP ((0 : Int) ≤ y24 ∧ y24 < lenI s14.2) (
        some (.inl ((wadd .i64 s14.1 (1 : Int)), (List.set s14.2 (Int.toNat y24) (List.getD s14.2 (Int.toNat y26) (0 : Int)))))))
  else
    some (.inr s14.2)

noncomputable def impl_ResetZone_B2 (a1 : Int) (y1 : (Int × List Int) × Bool) (y7 : Int) (s9 : Int × List Int) : Option ((Int × List Int) ⊕ (List Int)) :=
  bif (decide (s9.1 < y7)) then
    (impl_Zone_at (y1.1.1, s9.2) a1 s9.1).bind fun y35 =>
    (impl_Zone_at (y1.1.1, s9.2) (0 : Int) s9.1).bind fun y37 =>
    guardP ((0 : Int) ≤ y37 ∧ y37 < lenI s9.2) (
      guardP ((0 : Int) ≤ y35 ∧ y35 < lenI s9.2) (
        some (.inl ((wadd .i64 s9.1 (1 : Int)), (List.set s9.2 (Int.toNat y35) (List.getD s9.2 (Int.toNat y37) (0 : Int)))))))
  else
    some (.inr s9.2)

noncomputable def impl_ResetZone (a0 : Int × List Int) (a1 : Int) : Option ((Int × List Int) × Bool) :=
  (impl_TightZone (a0.1, a0.2)).bind fun y1 =>
  (show Option (Bool) from
    bif (!y1.2) then
      some true
    else
      (impl_within a1 (1 : Int) a0.1).bind fun y43 =>
      some (!y43)).bind fun v3 =>
  bif v3 then
    some (((0 : Int), ([] : List Int)), false)
  else
    (impl_Zone_wide (y1.1.1, y1.1.2)).bind fun y7 =>
    (rounds (impl_ResetZone_B2 a1 y1 y7) ((0 : Int), y1.1.2)).bind fun r11 =>
    (impl_Zone_wide (y1.1.1, r11)).bind fun y12 =>
    (rounds (impl_ResetZone_B1 a1 y1 y12) ((0 : Int), r11)).bind fun r16 =>
    (impl_Zone_at (y1.1.1, r16) a1 a1).bind fun y17 =>
    guardP ((0 : Int) ≤ y17 ∧ y17 < lenI r16) (
      some ((y1.1.1, (List.set r16 (Int.toNat y17) (0 : Int))), true))

theorem f26_ok {a0 : Int × List Int} {a1 : Int} {r : (Int × List Int) × Bool} (hr : impl_ResetZone a0 a1 = some r) : CallOK Try.prog 26 [.imm (.st (.pair tI tLI)) a0, .imm tI a1] [⟨true, (.st (.pair tI tLI)), r.1⟩, ⟨false, .bool, r.2⟩] [] := by
  unfold impl_ResetZone at hr
  refine CallOK.of_body (ts := [(true, (.st (.pair tI tLI))), (false, .bool)]) Try.func26 rfl (by kernel_rfl) (Nat.le_of_ble_eq_true (by kernel_rfl)) fun cx hP hN hO hF => ?_
  have hO : cx.own.map Prod.fst = [] := hO
  have hX := CxIs.mk hP hN hO
  have hF := hF rfl
  show HT cx ⟨[(0, .agg [iC a0.1, nC a0.2]), (1, iV a1)], [], 0⟩ _ _
  refine HT.rg2 (oHs 3) ⟨[(1, iV a1), (2, pV 0 0), (4, pV 1 0)], [(1, .box [iC (0 : Int), .nilS]), (0, .box [iC a0.1, nC a0.2])], 2⟩ hX (by kernel_rfl) allNil ?_
  obtain ⟨y1, hc2, hr⟩ := of_bind hr
  refine HT.rg2 [oH, ⟨none, .call [.imm (.st (.pair tI tLI))] [⟨true, (.st (.pair tI tLI)), y1.1⟩, ⟨false, .bool, y1.2⟩] []⟩, oH, oH, oH, oH, oH, oH] ⟨[(1, iV a1), (2, pV 0 0), (4, pV 1 0), (6, pV 3 0), (7, bV y1.2)], [(3, .box [iC y1.1.1, .all 2]), (2, .seq tI y1.1.2), (1, .box [iC (0 : Int), .nilS]), (0, .box [iC a0.1, nC a0.2])], 4⟩ hX (by kernel_rfl) (allCons (f21_ok hc2) allNil) ?_
  refine HT.seq ?_
  obtain ⟨v3', hT5, hr⟩ := of_bind hr
  refine HT.join (fun (v3 : Bool) => ⟨[(1, iV a1), (4, pV 0 0), (6, pV 1 0), (23, bV v3)], [(0, .box [iC (0 : Int), .nilS]), (1, .box [iC y1.1.1, .all 2]), (2, .seq tI y1.1.2)], 3⟩) (fun v => v = v3') (fun v3 hv4 => ?_) (fun cont => ?_)
  · subst hv4
    rcases of_bif hr with ⟨hb6, hr⟩ | ⟨hb6, hr⟩
    · refine HT.cond1 rfl hb6 ?_
      refine HT.rg2 (oHs 3) ⟨[(4, pV 0 0), (5, bV false)], [(0, .box [iC (0 : Int), .nilS])], 3⟩ hX (by kernel_rfl) allNil ?_
      have hr := of_some hr
      subst hr
      exact HT.ret (qThenR ⟨[.agg [iC (0 : Int), .nilS], bV false], [], [], by kernel_rfl, by kernel_rfl, rfl, by kernel_rfl, by kernel_rfl, trivial⟩)
    · refine HT.cond0 rfl hb6 ?_
      refine HT.skip (qThen ?_)
      refine HT.seq ?_
      obtain ⟨y7, hc8, hr⟩ := of_bind hr
      refine HT.rg2 [oH, ⟨none, .call [.imm (.st (.pair tI tLI))] [⟨false, tI, y7⟩] []⟩, oH] ⟨[(1, iV a1), (4, pV 0 0), (6, pV 1 0), (26, iV y7), (27, iV (0 : Int))], [(0, .box [iC (0 : Int), .nilS]), (1, .box [iC y1.1.1, .all 2]), (2, .seq tI y1.1.2)], 3⟩ hX (by kernel_rfl) (allCons (f106_ok hc8) allNil) ?_
      refine HT.block ?_
      obtain ⟨r10, hL41, hr⟩ := of_bind hr
      refine HT.loopL (fun (s9 : Int × List Int) => ⟨[(1, iV a1), (4, pV 0 0), (6, pV 1 0), (26, iV y7), (27, iV s9.1)], [(0, .box [iC (0 : Int), .nilS]), (1, .box [iC y1.1.1, .all 2]), (2, .seq tI s9.2)], 3⟩) (fun (r11 : List Int) => (.exit 0, ⟨[(1, iV a1), (4, pV 0 0), (6, pV 1 0)], [(0, .box [iC (0 : Int), .nilS]), (1, .box [iC y1.1.1, .all 2]), (2, .seq tI r11)], 3⟩)) (Le.re [(0, 0), (1, 1), (2, 2)] [] hX (by kernel_rfl)) hL41 ?_ (fun s9 x31 hx32 hk33 => ?_)
      · refine (qBlockX (qThen ?_))
        refine HT.seq ?_
        obtain ⟨y12, hc13, hr⟩ := of_bind hr
        refine HT.rg2 [oH, ⟨none, .call [.imm (.st (.pair tI tLI))] [⟨false, tI, y12⟩] []⟩, oH] ⟨[(1, iV a1), (4, pV 0 0), (6, pV 1 0), (46, iV y12), (47, iV (0 : Int))], [(0, .box [iC (0 : Int), .nilS]), (1, .box [iC y1.1.1, .all 2]), (2, .seq tI r10)], 3⟩ hX (by kernel_rfl) (allCons (f106_ok hc13) allNil) ?_
        refine HT.block ?_
        obtain ⟨r15, hL30, hr⟩ := of_bind hr
        refine HT.loopL (fun (s14 : Int × List Int) => ⟨[(1, iV a1), (4, pV 0 0), (6, pV 1 0), (46, iV y12), (47, iV s14.1)], [(0, .box [iC (0 : Int), .nilS]), (1, .box [iC y1.1.1, .all 2]), (2, .seq tI s14.2)], 3⟩) (fun (r16 : List Int) => (.exit 2, ⟨[(1, iV a1), (4, pV 0 0), (6, pV 1 0)], [(0, .box [iC (0 : Int), .nilS]), (1, .box [iC y1.1.1, .all 2]), (2, .seq tI r16)], 3⟩)) (Le.re [(0, 0), (1, 1), (2, 2)] [] hX (by kernel_rfl)) hL30 ?_ (fun s14 x20 hx21 hk22 => ?_)
        · refine (qBlockX (qThen ?_))
          obtain ⟨y17, hc18, hr⟩ := of_bind hr
          obtain ⟨hg19, hr⟩ := of_guard hr
          refine HT.dr2 6 [⟨oH, []⟩, ⟨oH, [0]⟩, ⟨oH, []⟩, ⟨oH, []⟩, ⟨oH, []⟩, ⟨⟨none, .call [.imm (.st (.pair tI tLI)), .imm tI, .imm tI] [⟨false, tI, y17⟩] []⟩, [2, 3, 4]⟩] [[0, 1, 2, 3, 4, 5], [0, 1, 2, 3, 4, 5, 6]] (oHs 2) ⟨[(4, pV 0 0), (6, pV 1 0)], [(2, .seq tI (List.set r15 (Int.toNat y17) (0 : Int))), (0, .box [iC (0 : Int), .nilS]), (1, .box [iC y1.1.1, .all 2])], 3⟩ hX (by kernel_rfl) (by kernel_rfl) (allCons (f107_ok hc18) (allCons hg19 (allCons (natLt hg19) allNil))) ?_
          refine HT.rg2 (oHs 3) ⟨[(4, pV 0 0), (5, bV true)], [(0, .box [iC y1.1.1, .all 2]), (2, .seq tI (List.set r15 (Int.toNat y17) (0 : Int)))], 3⟩ hX (by kernel_rfl) allNil ?_
          have hr := of_some hr
          subst hr
          exact HT.ret ⟨[.agg [iC y1.1.1, .all 2], bV true], [2], [], by kernel_rfl, by kernel_rfl, rfl, by kernel_rfl, by kernel_rfl, trivial⟩
        · refine HT.rg2 [oH] ⟨[(1, iV a1), (4, pV 0 0), (6, pV 1 0), (46, iV y12), (47, iV s14.1), (48, bV (decide (s14.1 < y12)))], [(0, .box [iC (0 : Int), .nilS]), (1, .box [iC y1.1.1, .all 2]), (2, .seq tI s14.2)], 3⟩ hX (by kernel_rfl) allNil ?_
          refine HT.seq ?_
          rcases of_bif hx21 with ⟨hb23, hx21⟩ | ⟨hb23, hx21⟩
          · refine HT.cond1 rfl hb23 ?_
            refine HT.skip (qThen ?_)
            refine HT.seq ?_
            refine HT.block ?_
            refine HT.rg2 (oHs 2) ⟨[(1, iV a1), (4, pV 0 0), (6, pV 1 0), (9, iV s14.1), (46, iV y12), (47, iV s14.1)], [(0, .box [iC (0 : Int), .nilS]), (1, .box [iC y1.1.1, .all 2]), (2, .seq tI s14.2)], 3⟩ hX (by kernel_rfl) allNil ?_
            obtain ⟨y24, hc25, hx21⟩ := of_bind hx21
            obtain ⟨y26, hc27, hx21⟩ := of_bind hx21
            obtain ⟨hg28, hx21⟩ := of_guard hx21
            obtain ⟨hg29, hx21⟩ := of_guard hx21
            refine HT.drL 13 [⟨oH, []⟩, ⟨oH, [0]⟩, ⟨oH, []⟩, ⟨oH, []⟩, ⟨oH, []⟩, ⟨⟨none, .call [.imm (.st (.pair tI tLI)), .imm tI, .imm tI] [⟨false, tI, y24⟩] []⟩, [2, 3, 4]⟩, ⟨oH, []⟩, ⟨oH, [6]⟩, ⟨oH, []⟩, ⟨oH, []⟩, ⟨⟨none, .call [.imm (.st (.pair tI tLI)), .imm tI, .imm tI] [⟨false, tI, y26⟩] []⟩, [2, 3, 4, 5, 8, 9]⟩, ⟨oH, [2, 3, 4, 5, 6, 7, 8, 9, 10]⟩, ⟨oH, [2, 3, 4, 5, 6, 7, 8, 9, 10, 11]⟩] [[0, 1, 2, 3, 4, 5, 6, 7, 8, 9, 10, 11, 12], [0, 1, 2, 3, 4, 5, 6, 7, 8, 9, 10, 11, 12, 13]] (oHs 2) ⟨[(1, iV a1), (4, pV 0 0), (6, pV 1 0), (46, iV y12), (47, iV s14.1)], [(2, .seq tI (List.set s14.2 (Int.toNat y24) (List.getD s14.2 (Int.toNat y26) (0 : Int)))), (0, .box [iC (0 : Int), .nilS]), (1, .box [iC y1.1.1, .all 2])], 3⟩ hX (by kernel_rfl) (by kernel_rfl) (allCons (f107_ok hc25) (allCons (f107_ok hc27) (allCons hg28 (allCons (natLt hg28) (allCons hg29 (allCons (natLt hg29) allNil)))))) (qBlock (qThen ?_))
            have hx21 := of_some hx21
            subst hx21
            exact HT.rgK (oHs 2) [(0, 0), (1, 1), (2, 2)] [] hX (by kernel_rfl) allNil (fun _ h => (qLoopN ⟨((wadd .i64 s14.1 (1 : Int)), (List.set s14.2 (Int.toNat y24) (List.getD s14.2 (Int.toNat y26) (0 : Int)))), rfl, h⟩))
          · refine HT.cond0 rfl hb23 ?_
            have hx21 := of_some hx21
            subst hx21
            exact HT.exitL (Le.re [(0, 0), (1, 1), (2, 2)] [] hX (by kernel_rfl)) (qThenE (qLoopE (hk22 s14.2 rfl)))
      · refine HT.rg2 [oH] ⟨[(1, iV a1), (4, pV 0 0), (6, pV 1 0), (26, iV y7), (27, iV s9.1), (28, bV (decide (s9.1 < y7)))], [(0, .box [iC (0 : Int), .nilS]), (1, .box [iC y1.1.1, .all 2]), (2, .seq tI s9.2)], 3⟩ hX (by kernel_rfl) allNil ?_
        refine HT.seq ?_
        rcases of_bif hx32 with ⟨hb34, hx32⟩ | ⟨hb34, hx32⟩
        · refine HT.cond1 rfl hb34 ?_
          refine HT.skip (qThen ?_)
          refine HT.seq ?_
          refine HT.block ?_
          refine HT.rg2 (oHs 2) ⟨[(1, iV a1), (4, pV 0 0), (6, pV 1 0), (8, iV s9.1), (26, iV y7), (27, iV s9.1)], [(0, .box [iC (0 : Int), .nilS]), (1, .box [iC y1.1.1, .all 2]), (2, .seq tI s9.2)], 3⟩ hX (by kernel_rfl) allNil ?_
          obtain ⟨y35, hc36, hx32⟩ := of_bind hx32
          obtain ⟨y37, hc38, hx32⟩ := of_bind hx32
          obtain ⟨hg39, hx32⟩ := of_guard hx32
          obtain ⟨hg40, hx32⟩ := of_guard hx32
          refine HT.drL 13 [⟨oH, []⟩, ⟨oH, [0]⟩, ⟨oH, []⟩, ⟨oH, []⟩, ⟨oH, []⟩, ⟨⟨none, .call [.imm (.st (.pair tI tLI)), .imm tI, .imm tI] [⟨false, tI, y35⟩] []⟩, [2, 3, 4]⟩, ⟨oH, []⟩, ⟨oH, [6]⟩, ⟨oH, []⟩, ⟨oH, []⟩, ⟨⟨none, .call [.imm (.st (.pair tI tLI)), .imm tI, .imm tI] [⟨false, tI, y37⟩] []⟩, [2, 3, 4, 5, 8, 9]⟩, ⟨oH, [2, 3, 4, 5, 6, 7, 8, 9, 10]⟩, ⟨oH, [2, 3, 4, 5, 6, 7, 8, 9, 10, 11]⟩] [[0, 1, 2, 3, 4, 5, 6, 7, 8, 9, 10, 11, 12], [0, 1, 2, 3, 4, 5, 6, 7, 8, 9, 10, 11, 12, 13]] (oHs 2) ⟨[(1, iV a1), (4, pV 0 0), (6, pV 1 0), (26, iV y7), (27, iV s9.1)], [(2, .seq tI (List.set s9.2 (Int.toNat y35) (List.getD s9.2 (Int.toNat y37) (0 : Int)))), (0, .box [iC (0 : Int), .nilS]), (1, .box [iC y1.1.1, .all 2])], 3⟩ hX (by kernel_rfl) (by kernel_rfl) (allCons (f107_ok hc36) (allCons (f107_ok hc38) (allCons hg39 (allCons (natLt hg39) (allCons hg40 (allCons (natLt hg40) allNil)))))) (qBlock (qThen ?_))
          have hx32 := of_some hx32
          subst hx32
          exact HT.rgK (oHs 2) [(0, 0), (1, 1), (2, 2)] [] hX (by kernel_rfl) allNil (fun _ h => (qLoopN ⟨((wadd .i64 s9.1 (1 : Int)), (List.set s9.2 (Int.toNat y35) (List.getD s9.2 (Int.toNat y37) (0 : Int)))), rfl, h⟩))
        · refine HT.cond0 rfl hb34 ?_
          have hx32 := of_some hx32
          subst hx32
          exact HT.exitL (Le.re [(0, 0), (1, 1), (2, 2)] [] hX (by kernel_rfl)) (qThenE (qLoopE (hk33 s9.2 rfl)))
  · rcases of_bif hT5 with ⟨hb42, hT5⟩ | ⟨hb42, hT5⟩
    · exact HT.rgK [oH, oH, oH, ⟨some true, .no⟩, ⟨some true, .no⟩, ⟨some true, .no⟩, ⟨some true, .no⟩, ⟨some true, .no⟩, ⟨none, .tv true⟩] [(1, 0), (3, 1), (2, 2)] [] hX (by kernel_rfl) (allCons hb42 (allCons hb42 (allCons hb42 (allCons hb42 (allCons hb42 (allCons hb42 allNil)))))) (fun _ h => (qThen (h.ht (cont true (of_some hT5)))))
    · obtain ⟨y43, hc44, hT5⟩ := of_bind hT5
      exact HT.rgK [oH, oH, oH, ⟨some false, .no⟩, ⟨some false, .no⟩, ⟨some false, .no⟩, ⟨some false, .call [.imm tI, .imm tI, .imm tI] [⟨false, .bool, y43⟩] []⟩, ⟨some false, .no⟩, ⟨none, .tv false⟩] [(1, 0), (3, 1), (2, 2)] [] hX (by kernel_rfl) (allCons hb42 (allCons hb42 (allCons hb42 (allCons hb42 (allCons (f111_ok hc44) (allCons hb42 (allCons hb42 allNil))))))) (fun _ h => (qThen (h.ht (cont (!y43) (of_some hT5)))))

noncomputable def impl_WholeZone_B1 (s6 : Int × List Int) (y13 : Int) (s15 : Int × List Int) : Option ((Int × List Int) ⊕ (List Int)) :=
  bif (decide (s15.1 < y13)) then
    (show Option (List Int) from
      (show Option (Bool) from
        bif (s6.1 == (0 : Int)) then
          some true
        else
          some (s6.1 == s15.1)).bind fun v25 =>
      bif v25 then
        guardP (List.length s15.2 + List.length ([(0 : Int)] : List Int) ≤ appMax) (
          some (s15.2 ++ ([(0 : Int)] : List Int)))
      else
        guardP (List.length s15.2 + List.length ([(1000000000 : Int)] : List Int) ≤ appMax) (
          some (s15.2 ++ ([(1000000000 : Int)] : List Int)))).bind fun v22 =>
    some (.inl ((wadd .i64 s15.1 (1 : Int)), v22))
  else
    some (.inr s15.2)

noncomputable def impl_WholeZone_B2 (a0 : Int) (y4 : Int) (s6 : Int × List Int) : Option ((Int × List Int) ⊕ (List Int)) :=
  bif (decide (s6.1 < y4)) then
    (impl_Zone_wide (a0, s6.2)).bind fun y13 =>
    (rounds (impl_WholeZone_B1 s6 y13) ((0 : Int), s6.2)).bind fun r17 =>
    some (.inl ((wadd .i64 s6.1 (1 : Int)), r17))
  else
    some (.inr s6.2)

noncomputable def impl_WholeZone (a0 : Int) : Option ((Int × List Int) × Bool) :=
  (impl_within a0 (1 : Int) (4 : Int)).bind fun y1 =>
  bif (!y1) then
    some (((0 : Int), ([] : List Int)), false)
  else
    (impl_Zone_wide (a0, ([] : List Int))).bind fun y4 =>
    (rounds (impl_WholeZone_B2 a0 y4) ((0 : Int), ([] : List Int))).bind fun r8 =>
    some ((a0, r8), true)

theorem f27_ok {a0 : Int} {r : (Int × List Int) × Bool} (hr : impl_WholeZone a0 = some r) : CallOK Try.prog 27 [.imm tI a0] [⟨true, (.st (.pair tI tLI)), r.1⟩, ⟨false, .bool, r.2⟩] [] := by
  unfold impl_WholeZone at hr
  refine CallOK.of_body (ts := [(true, (.st (.pair tI tLI))), (false, .bool)]) Try.func27 rfl (by kernel_rfl) (Nat.le_of_ble_eq_true (by kernel_rfl)) fun cx hP hN hO hF => ?_
  have hO : cx.own.map Prod.fst = [] := hO
  have hX := CxIs.mk hP hN hO
  have hF := hF rfl
  show HT cx ⟨[(0, iV a0)], [], 0⟩ _ _
  refine HT.rg2 (oHs 2) ⟨[(0, iV a0), (2, pV 0 0)], [(0, .box [iC (0 : Int), .nilS])], 1⟩ hX (by kernel_rfl) allNil ?_
  refine HT.seq ?_
  obtain ⟨y1, hc2, hr⟩ := of_bind hr
  refine HT.rg2 [oH, ⟨none, .call [.imm tI, .imm tI, .imm tI] [⟨false, .bool, y1⟩] []⟩, oH] ⟨[(0, iV a0), (2, pV 0 0), (9, bV (!y1))], [(0, .box [iC (0 : Int), .nilS])], 1⟩ hX (by kernel_rfl) (allCons (f111_ok hc2) allNil) ?_
  rcases of_bif hr with ⟨hb3, hr⟩ | ⟨hb3, hr⟩
  · refine HT.cond1 rfl hb3 ?_
    refine HT.rg2 (oHs 3) ⟨[(2, pV 0 0), (3, bV false)], [(0, .box [iC (0 : Int), .nilS])], 1⟩ hX (by kernel_rfl) allNil ?_
    have hr := of_some hr
    subst hr
    exact HT.ret (qThenR ⟨[.agg [iC (0 : Int), .nilS], bV false], [], [], by kernel_rfl, by kernel_rfl, rfl, by kernel_rfl, by kernel_rfl, trivial⟩)
  · refine HT.cond0 rfl hb3 ?_
    refine HT.skip (qThen ?_)
    refine HT.rg2 (oHs 4) ⟨[(2, pV 0 0), (4, pV 1 0)], [(1, .box [iC a0, .nilS]), (0, .box [iC (0 : Int), .nilS])], 2⟩ hX (by kernel_rfl) allNil ?_
    refine HT.seq ?_
    obtain ⟨y4, hc5, hr⟩ := of_bind hr
    refine HT.rg2 [oH, ⟨none, .call [.imm (.st (.pair tI tLI))] [⟨false, tI, y4⟩] []⟩, oH] ⟨[(2, pV 0 0), (4, pV 1 0), (14, iV y4), (15, iV (0 : Int))], [(1, .box [iC a0, .nilS]), (0, .box [iC (0 : Int), .nilS])], 2⟩ hX (by kernel_rfl) (allCons (f106_ok hc5) allNil) ?_
    refine HT.block ?_
    obtain ⟨r7, hL33, hr⟩ := of_bind hr
    refine HT.loopL (fun (s6 : Int × List Int) => ⟨[(2, pV 0 0), (4, pV 1 0), (14, iV y4), (15, iV s6.1)], [(0, .box [iC (0 : Int), .nilS]), (1, .box [iC a0, .all 2]), (2, .seq tI s6.2)], 3⟩) (fun (r8 : List Int) => (.exit 0, ⟨[(2, pV 0 0), (4, pV 1 0)], [(0, .box [iC (0 : Int), .nilS]), (1, .box [iC a0, .all 2]), (2, .seq tI r8)], 3⟩)) (Le.re [(0, 0), (1, 1)] [2] hX (by kernel_rfl)) hL33 ?_ (fun s6 x9 hx10 hk11 => ?_)
    · refine (qBlockX (qThen ?_))
      refine HT.rg2 (oHs 3) ⟨[(2, pV 0 0), (3, bV true)], [(0, .box [iC a0, .all 2]), (2, .seq tI r7)], 3⟩ hX (by kernel_rfl) allNil ?_
      have hr := of_some hr
      subst hr
      exact HT.ret ⟨[.agg [iC a0, .all 2], bV true], [2], [], by kernel_rfl, by kernel_rfl, rfl, by kernel_rfl, by kernel_rfl, trivial⟩
    · refine HT.rg2 [oH] ⟨[(2, pV 0 0), (4, pV 1 0), (14, iV y4), (15, iV s6.1), (16, bV (decide (s6.1 < y4)))], [(0, .box [iC (0 : Int), .nilS]), (1, .box [iC a0, .all 2]), (2, .seq tI s6.2)], 3⟩ hX (by kernel_rfl) allNil ?_
      refine HT.seq ?_
      rcases of_bif hx10 with ⟨hb12, hx10⟩ | ⟨hb12, hx10⟩
      · refine HT.cond1 rfl hb12 ?_
        refine HT.skip (qThen ?_)
        refine HT.seq ?_
        refine HT.block ?_
        refine HT.rg2 (oHs 2) ⟨[(2, pV 0 0), (4, pV 1 0), (5, iV s6.1), (14, iV y4), (15, iV s6.1)], [(0, .box [iC (0 : Int), .nilS]), (1, .box [iC a0, .all 2]), (2, .seq tI s6.2)], 3⟩ hX (by kernel_rfl) allNil ?_
        obtain ⟨y13, hc14, hx10⟩ := of_bind hx10
        refine HT.rg2 [oH, ⟨none, .call [.imm (.st (.pair tI tLI))] [⟨false, tI, y13⟩] []⟩, oH] ⟨[(2, pV 0 0), (4, pV 1 0), (5, iV s6.1), (14, iV y4), (15, iV s6.1), (19, iV y13), (20, iV (0 : Int))], [(0, .box [iC (0 : Int), .nilS]), (1, .box [iC a0, .all 2]), (2, .seq tI s6.2)], 3⟩ hX (by kernel_rfl) (allCons (f106_ok hc14) allNil) ?_
        refine HT.block ?_
        obtain ⟨r16, hL32, hx10⟩ := of_bind hx10
        refine HT.loopL (fun (s15 : Int × List Int) => ⟨[(2, pV 0 0), (4, pV 1 0), (5, iV s6.1), (14, iV y4), (15, iV s6.1), (19, iV y13), (20, iV s15.1)], [(0, .box [iC (0 : Int), .nilS]), (1, .box [iC a0, .all 2]), (2, .seq tI s15.2)], 3⟩) (fun (r17 : List Int) => (.exit 2, ⟨[(2, pV 0 0), (4, pV 1 0), (14, iV y4), (15, iV s6.1)], [(0, .box [iC (0 : Int), .nilS]), (1, .box [iC a0, .all 2]), (2, .seq tI r17)], 3⟩)) (Le.re [(0, 0), (1, 1), (2, 2)] [] hX (by kernel_rfl)) hL32 ?_ (fun s15 x18 hx19 hk20 => ?_)
        · refine (qBlockX (qBlock (qThen ?_)))
          have hx10 := of_some hx10
          subst hx10
          exact HT.rgK (oHs 2) [(0, 0), (1, 1), (2, 2)] [] hX (by kernel_rfl) allNil (fun _ h => (qLoopN ⟨((wadd .i64 s6.1 (1 : Int)), r16), rfl, h⟩))
        · refine HT.rg2 [oH] ⟨[(2, pV 0 0), (4, pV 1 0), (5, iV s6.1), (14, iV y4), (15, iV s6.1), (19, iV y13), (20, iV s15.1), (21, bV (decide (s15.1 < y13)))], [(0, .box [iC (0 : Int), .nilS]), (1, .box [iC a0, .all 2]), (2, .seq tI s15.2)], 3⟩ hX (by kernel_rfl) allNil ?_
          refine HT.seq ?_
          rcases of_bif hx19 with ⟨hb21, hx19⟩ | ⟨hb21, hx19⟩
          · refine HT.cond1 rfl hb21 ?_
            refine HT.skip (qThen ?_)
            obtain ⟨v22', hT24, hx19⟩ := of_bind hx19
            refine HT.join (fun (v22 : List Int) => ⟨[(2, pV 0 0), (4, pV 1 0), (5, iV s6.1), (14, iV y4), (15, iV s6.1), (19, iV y13), (20, iV s15.1)], [(0, .box [iC (0 : Int), .nilS]), (1, .box [iC a0, .all 2]), (2, .seq tI v22)], 3⟩) (fun v => v = v22') (fun v22 hv23 => ?_) (fun cont => ?_)
            · subst hv23
              have hx19 := of_some hx19
              subst hx19
              exact HT.rgK (oHs 2) [(0, 0), (1, 1), (2, 2)] [] hX (by kernel_rfl) allNil (fun _ h => (qLoopN ⟨((wadd .i64 s15.1 (1 : Int)), v22), rfl, h⟩))
            · refine HT.block ?_
              refine HT.rg2 (oHs 2) ⟨[(2, pV 0 0), (4, pV 1 0), (5, iV s6.1), (6, iV s15.1), (14, iV y4), (15, iV s6.1), (19, iV y13), (20, iV s15.1)], [(0, .box [iC (0 : Int), .nilS]), (1, .box [iC a0, .all 2]), (2, .seq tI s15.2)], 3⟩ hX (by kernel_rfl) allNil ?_
              obtain ⟨v25', hT27, hT24⟩ := of_bind hT24
              refine HT.join (fun (v25 : Bool) => ⟨[(2, pV 0 0), (4, pV 1 0), (5, iV s6.1), (14, iV y4), (15, iV s6.1), (19, iV y13), (20, iV s15.1), (29, bV v25)], [(0, .box [iC (0 : Int), .nilS]), (1, .box [iC a0, .all 2]), (2, .seq tI s15.2)], 3⟩) (fun v => v = v25') (fun v25 hv26 => ?_) (fun cont => ?_)
              · subst hv26
                rcases of_bif hT24 with ⟨hb28, hT24⟩ | ⟨hb28, hT24⟩
                · refine HT.cond1 rfl hb28 ?_
                  obtain ⟨hg29, hT24⟩ := of_guard hT24
                  exact HT.rgK [oH, oH, ⟨none, .ty tI⟩, ⟨none, .ty tI⟩, oH, oH] [(0, 0), (1, 1), (4, 2)] [] hX (by kernel_rfl) (allCons hg29 allNil) (fun _ h => (qBlock (qThen (h.ht (cont (s15.2 ++ ([(0 : Int)] : List Int)) (of_some hT24))))))
                · refine HT.cond0 rfl hb28 ?_
                  obtain ⟨hg30, hT24⟩ := of_guard hT24
                  exact HT.rgK [oH, oH, ⟨none, .ty tI⟩, ⟨none, .ty tI⟩, oH, oH] [(0, 0), (1, 1), (4, 2)] [] hX (by kernel_rfl) (allCons hg30 allNil) (fun _ h => (qBlock (qThen (h.ht (cont (s15.2 ++ ([(1000000000 : Int)] : List Int)) (of_some hT24))))))
              · rcases of_bif hT27 with ⟨hb31, hT27⟩ | ⟨hb31, hT27⟩
                · exact HT.rgK [oH, oH, oH, ⟨some true, .no⟩, ⟨some true, .no⟩, ⟨some true, .no⟩, ⟨none, .tv true⟩] [(0, 0), (1, 1), (2, 2)] [] hX (by kernel_rfl) (allCons hb31 (allCons hb31 (allCons hb31 (allCons hb31 allNil)))) (fun _ h => (qThen (h.ht (cont true (of_some hT27)))))
                · exact HT.rgK [oH, oH, oH, ⟨some false, .no⟩, ⟨some false, .no⟩, ⟨some false, .no⟩, ⟨none, .tv false⟩] [(0, 0), (1, 1), (2, 2)] [] hX (by kernel_rfl) (allCons hb31 (allCons hb31 (allCons hb31 (allCons hb31 allNil)))) (fun _ h => (qThen (h.ht (cont (s6.1 == s15.1) (of_some hT27)))))
          · refine HT.cond0 rfl hb21 ?_
            have hx19 := of_some hx19
            subst hx19
            exact HT.exitL (Le.re [(0, 0), (1, 1), (2, 2)] [] hX (by kernel_rfl)) (qThenE (qLoopE (hk20 s15.2 rfl)))
      · refine HT.cond0 rfl hb12 ?_
        have hx10 := of_some hx10
        subst hx10
        exact HT.exitL (Le.re [(0, 0), (1, 1), (2, 2)] [] hX (by kernel_rfl)) (qThenE (qLoopE (hk11 s6.2 rfl)))

noncomputable def impl_IsPartZone_B1 (a1 : Int × List Int) (y1 : (Int × List Int) × Bool) (s7 : Int) : Option ((Int) ⊕ (Unit ⊕ Unit)) :=
  bif (decide (s7 < (lenI y1.1.2))) then
    guardP ((0 : Int) ≤ s7 ∧ s7 < lenI y1.1.2) (
      guardP ((0 : Int) ≤ s7 ∧ s7 < lenI a1.2) (
        bif (decide ((List.getD y1.1.2 (Int.toNat s7) (0 : Int)) > (List.getD a1.2 (Int.toNat s7) (0 : Int)))) then
          some (.inr (.inr ()))
        else
          some (.inl (wadd .i64 s7 (1 : Int)))))
  else
    some (.inr (.inl ()))

noncomputable def impl_IsPartZone (a0 : Int × List Int) (a1 : Int × List Int) : Option (Bool × Bool) :=
  (impl_TightZone (a0.1, a0.2)).bind fun y1 =>
  (show Option (Bool) from
    bif (!y1.2) then
      some true
    else
      (impl_ValidZone (a1.1, a1.2)).bind fun y20 =>
      bif (!y20) then
        some true
      else
        some (a0.1 != a1.1)).bind fun v3 =>
  bif v3 then
    some (false, false)
  else
    (rounds (impl_IsPartZone_B1 a1 y1) (0 : Int)).bind fun r8 => match r8 with
      | .inl r9 =>
        some (true, true)
      | .inr r10 =>
        some (false, true)

theorem f28_ok {a0 : Int × List Int} {a1 : Int × List Int} {r : Bool × Bool} (hr : impl_IsPartZone a0 a1 = some r) : CallOK Try.prog 28 [.imm (.st (.pair tI tLI)) a0, .imm (.st (.pair tI tLI)) a1] [⟨false, .bool, r.1⟩, ⟨false, .bool, r.2⟩] [] := by
  unfold impl_IsPartZone at hr
  refine CallOK.of_body (ts := [(false, .bool), (false, .bool)]) Try.func28 rfl (by kernel_rfl) (Nat.le_of_ble_eq_true (by kernel_rfl)) fun cx hP hN hO hF => ?_
  have hO : cx.own.map Prod.fst = [] := hO
  have hX := CxIs.mk hP hN hO
  have hF := hF rfl
  show HT cx ⟨[(0, .agg [iC a0.1, nC a0.2]), (1, .agg [iC a1.1, nC a1.2])], [], 0⟩ _ _
  refine HT.rg2 (oHs 4) ⟨[(2, pV 0 0), (3, pV 1 0)], [(1, .box [iC a1.1, nC a1.2]), (0, .box [iC a0.1, nC a0.2])], 2⟩ hX (by kernel_rfl) allNil ?_
  obtain ⟨y1, hc2, hr⟩ := of_bind hr
  refine HT.rg2 [oH, ⟨none, .call [.imm (.st (.pair tI tLI))] [⟨true, (.st (.pair tI tLI)), y1.1⟩, ⟨false, .bool, y1.2⟩] []⟩, oH, oH, oH, oH, oH, oH] ⟨[(2, pV 0 0), (3, pV 1 0), (6, pV 3 0), (7, bV y1.2)], [(3, .box [iC y1.1.1, .all 2]), (2, .seq tI y1.1.2), (1, .box [iC a1.1, nC a1.2]), (0, .box [iC a0.1, nC a0.2])], 4⟩ hX (by kernel_rfl) (allCons (f21_ok hc2) allNil) ?_
  refine HT.seq ?_
  obtain ⟨v3', hT5, hr⟩ := of_bind hr
  refine HT.join (fun (v3 : Bool) => ⟨[(3, pV 0 0), (6, pV 1 0), (28, bV v3)], [(0, .box [iC a1.1, nC a1.2]), (1, .box [iC y1.1.1, .all 2]), (2, .seq tI y1.1.2)], 3⟩) (fun v => v = v3') (fun v3 hv4 => ?_) (fun cont => ?_)
  · subst hv4
    rcases of_bif hr with ⟨hb6, hr⟩ | ⟨hb6, hr⟩
    · refine HT.cond1 rfl hb6 ?_
      refine HT.rg2 (oHs 2) ⟨[(4, bV false), (5, bV false)], [], 3⟩ hX (by kernel_rfl) allNil ?_
      have hr := of_some hr
      subst hr
      exact HT.ret (qThenR ⟨[bV false, bV false], [], [], by kernel_rfl, by kernel_rfl, rfl, by kernel_rfl, by kernel_rfl, trivial⟩)
    · refine HT.cond0 rfl hb6 ?_
      refine HT.skip (qThen ?_)
      refine HT.seq ?_
      refine HT.rg2 (oHs 4) ⟨[(3, pV 0 0), (30, aV 2), (31, iV (lenI y1.1.2)), (32, iV (0 : Int))], [(0, .box [iC a1.1, nC a1.2]), (2, .seq tI y1.1.2)], 3⟩ hX (by kernel_rfl) allNil ?_
      refine HT.block ?_
      obtain ⟨r8, hL18, hr⟩ := of_bind hr
      refine HT.loopL (fun (s7 : Int) => ⟨[(3, pV 0 0), (30, aV 1), (31, iV (lenI y1.1.2)), (32, iV s7)], [(0, .box [iC a1.1, nC a1.2]), (1, .seq tI y1.1.2)], 2⟩) (fun (r8 : Unit ⊕ Unit) => match r8 with | .inl r9 => (.exit 0, ⟨[], [], 0⟩) | .inr r10 => (.ret, ⟨[(4, bV false), (5, bV true)], [], 0⟩)) (Le.re [(0, 0), (2, 1)] [] hX (by kernel_rfl)) hL18 ?_ (fun s7 x11 hx12 hk13 => ?_)
      · rcases r8 with r9 | r10
        · refine (qBlockX (qThen ?_))
          refine HT.rg2 (oHs 2) ⟨[(4, bV true), (5, bV true)], [], 0⟩ hX (by kernel_rfl) allNil ?_
          have hr := of_some hr
          subst hr
          exact HT.ret ⟨[bV true, bV true], [], [], by kernel_rfl, by kernel_rfl, rfl, by kernel_rfl, by kernel_rfl, trivial⟩
        · have hr := of_some hr
          subst hr
          exact (qBlockR (qThenR ⟨[bV false, bV true], [], [], by kernel_rfl, by kernel_rfl, rfl, by kernel_rfl, by kernel_rfl, trivial⟩))
      · refine HT.rg2 [oH] ⟨[(3, pV 0 0), (30, aV 1), (31, iV (lenI y1.1.2)), (32, iV s7), (33, bV (decide (s7 < (lenI y1.1.2))))], [(0, .box [iC a1.1, nC a1.2]), (1, .seq tI y1.1.2)], 2⟩ hX (by kernel_rfl) allNil ?_
        refine HT.seq ?_
        rcases of_bif hx12 with ⟨hb14, hx12⟩ | ⟨hb14, hx12⟩
        · refine HT.cond1 rfl hb14 ?_
          refine HT.skip (qThen ?_)
          refine HT.seq ?_
          refine HT.block ?_
          obtain ⟨hg15, hx12⟩ := of_guard hx12
          refine HT.rg2 (oHs 5) ⟨[(3, pV 0 0), (8, iV s7), (9, iV (List.getD y1.1.2 (Int.toNat s7) (0 : Int))), (30, aV 1), (31, iV (lenI y1.1.2)), (32, iV s7)], [(0, .box [iC a1.1, nC a1.2]), (1, .seq tI y1.1.2)], 2⟩ hX (by kernel_rfl) (allCons hg15 (allCons (natLt hg15) allNil)) ?_
          obtain ⟨hg16, hx12⟩ := of_guard hx12
          refine HT.rg2 (oHs 7) ⟨[(3, pV 0 0), (30, aV 1), (31, iV (lenI y1.1.2)), (32, iV s7), (43, bV (decide ((List.getD y1.1.2 (Int.toNat s7) (0 : Int)) > (List.getD a1.2 (Int.toNat s7) (0 : Int)))))], [(0, .box [iC a1.1, nC a1.2]), (1, .seq tI y1.1.2)], 2⟩ hX (by kernel_rfl) (allCons hg16 allNil) ?_
          rcases of_bif hx12 with ⟨hb17, hx12⟩ | ⟨hb17, hx12⟩
          · refine HT.cond1 rfl hb17 ?_
            refine HT.rg2 (oHs 2) ⟨[(4, bV false), (5, bV true)], [], 2⟩ hX (by kernel_rfl) allNil ?_
            have hx12 := of_some hx12
            subst hx12
            exact HT.retL (Le.re [] [] hX (by kernel_rfl)) (qBlockR (qThenR (qLoopR (hk13 (.inr ()) rfl))))
          · refine HT.cond0 rfl hb17 ?_
            refine HT.skip (qBlock (qThen ?_))
            have hx12 := of_some hx12
            subst hx12
            exact HT.rgK (oHs 2) [(0, 0), (1, 1)] [] hX (by kernel_rfl) allNil (fun _ h => (qLoopN ⟨(wadd .i64 s7 (1 : Int)), rfl, h⟩))
        · refine HT.cond0 rfl hb14 ?_
          have hx12 := of_some hx12
          subst hx12
          exact HT.exitL (Le.re [] [] hX (by kernel_rfl)) (qThenE (qLoopE (hk13 (.inl ()) rfl)))
  · rcases of_bif hT5 with ⟨hb19, hT5⟩ | ⟨hb19, hT5⟩
    · exact HT.rgK [oH, oH, oH, ⟨some true, .no⟩, ⟨some true, .no⟩, ⟨some true, .no⟩, ⟨none, .tv true⟩, oH, ⟨some true, .no⟩, ⟨some true, .no⟩, ⟨some true, .no⟩, ⟨some true, .no⟩, ⟨some true, .no⟩, ⟨none, .tv true⟩] [(1, 0), (3, 1), (2, 2)] [] hX (by kernel_rfl) (allCons hb19 (allCons hb19 (allCons hb19 (allCons hb19 (allCons (rfl : true = true) (allCons (rfl : true = true) (allCons (rfl : true = true) (allCons (rfl : true = true) (allCons (rfl : true = true) (allCons (rfl : true = true) allNil)))))))))) (fun _ h => (qThen (h.ht (cont true (of_some hT5)))))
    · obtain ⟨y20, hc21, hT5⟩ := of_bind hT5
      rcases of_bif hT5 with ⟨hb22, hT5⟩ | ⟨hb22, hT5⟩
      · exact HT.rgK [oH, oH, oH, ⟨some false, .no⟩, ⟨some false, .call [.imm (.st (.pair tI tLI))] [⟨false, .bool, y20⟩] []⟩, ⟨some false, .no⟩, ⟨none, .tv false⟩, oH, ⟨some true, .no⟩, ⟨some true, .no⟩, ⟨some true, .no⟩, ⟨some true, .no⟩, ⟨some true, .no⟩, ⟨none, .tv true⟩] [(1, 0), (3, 1), (2, 2)] [] hX (by kernel_rfl) (allCons hb19 (allCons hb19 (allCons (f29_ok hc21) (allCons hb19 (allCons hb19 (allCons hb22 (allCons hb22 (allCons hb22 (allCons hb22 (allCons hb22 (allCons hb22 allNil))))))))))) (fun _ h => (qThen (h.ht (cont true (of_some hT5)))))
      · exact HT.rgK [oH, oH, oH, ⟨some false, .no⟩, ⟨some false, .call [.imm (.st (.pair tI tLI))] [⟨false, .bool, y20⟩] []⟩, ⟨some false, .no⟩, ⟨none, .tv false⟩, oH, ⟨some false, .no⟩, ⟨some false, .no⟩, ⟨some false, .no⟩, ⟨some false, .no⟩, ⟨some false, .no⟩, ⟨none, .tv false⟩] [(1, 0), (3, 1), (2, 2)] [] hX (by kernel_rfl) (allCons hb19 (allCons hb19 (allCons (f29_ok hc21) (allCons hb19 (allCons hb19 (allCons hb22 (allCons hb22 (allCons hb22 (allCons hb22 (allCons hb22 (allCons hb22 allNil))))))))))) (fun _ h => (qThen (h.ht (cont (a0.1 != a1.1) (of_some hT5)))))

noncomputable def impl_areWithin_B1 (a0 : List Int) (a1 : Int) (a2 : Int) (s1 : Int) : Option ((Int) ⊕ (Unit ⊕ Unit)) :=
  bif (decide (s1 < (lenI a0))) then
    guardP ((0 : Int) ≤ s1 ∧ s1 < lenI a0) (
      (impl_within (List.getD a0 (Int.toNat s1) (0 : Int)) a1 a2).bind fun y10 =>
      bif (!y10) then
        some (.inr (.inr ()))
      else
        some (.inl (wadd .i64 s1 (1 : Int))))
  else
    some (.inr (.inl ()))

noncomputable def impl_areWithin (a0 : List Int) (a1 : Int) (a2 : Int) : Option (Bool) :=
  (rounds (impl_areWithin_B1 a0 a1 a2) (0 : Int)).bind fun r2 => match r2 with
    | .inl r3 =>
      some true
    | .inr r4 =>
      some false

theorem f113_ok {a0 : List Int} {a1 : Int} {a2 : Int} {r : Bool} (hr : impl_areWithin a0 a1 a2 = some r) : CallOK Try.prog 113 [.imm tLI a0, .imm tI a1, .imm tI a2] [⟨false, .bool, r⟩] [] := by
  unfold impl_areWithin at hr
  refine CallOK.of_body (ts := [(false, .bool)]) Try.func113 rfl (by kernel_rfl) (Nat.le_of_ble_eq_true (by kernel_rfl)) fun cx hP hN hO hF => ?_
  have hO : cx.own.map Prod.fst = [] := hO
  have hX := CxIs.mk hP hN hO
  have hF := hF rfl
  show HT cx ⟨[(0, nV a0), (1, iV a1), (2, iV a2)], [], 0⟩ _ _
  refine HT.rg2 [oH] ⟨[(0, nV a0), (1, iV a1), (2, iV a2)], [], 0⟩ hX (by kernel_rfl) allNil ?_
  refine HT.seq ?_
  refine HT.rg2 (oHs 3) ⟨[(1, iV a1), (2, iV a2), (9, nV a0), (10, iV (lenI a0)), (11, iV (0 : Int))], [], 0⟩ hX (by kernel_rfl) allNil ?_
  refine HT.block ?_
  obtain ⟨r2, hL13, hr⟩ := of_bind hr
  refine HT.loopL (fun (s1 : Int) => ⟨[(1, iV a1), (2, iV a2), (9, nV a0), (10, iV (lenI a0)), (11, iV s1)], [], 0⟩) (fun (r2 : Unit ⊕ Unit) => match r2 with | .inl r3 => (.exit 0, ⟨[], [], 0⟩) | .inr r4 => (.ret, ⟨[(6, bV false)], [], 0⟩)) (Le.re [] [] hX (by kernel_rfl)) hL13 ?_ (fun s1 x5 hx6 hk7 => ?_)
  · rcases r2 with r3 | r4
    · refine (qBlockX (qThen ?_))
      refine HT.rg2 [oH] ⟨[(6, bV true)], [], 0⟩ hX (by kernel_rfl) allNil ?_
      have hr := of_some hr
      subst hr
      exact HT.ret ⟨[bV true], [], [], by kernel_rfl, by kernel_rfl, rfl, by kernel_rfl, by kernel_rfl, trivial⟩
    · have hr := of_some hr
      subst hr
      exact (qBlockR (qThenR ⟨[bV false], [], [], by kernel_rfl, by kernel_rfl, rfl, by kernel_rfl, by kernel_rfl, trivial⟩))
  · refine HT.rg2 [oH] ⟨[(1, iV a1), (2, iV a2), (9, nV a0), (10, iV (lenI a0)), (11, iV s1), (12, bV (decide (s1 < (lenI a0))))], [], 0⟩ hX (by kernel_rfl) allNil ?_
    refine HT.seq ?_
    rcases of_bif hx6 with ⟨hb8, hx6⟩ | ⟨hb8, hx6⟩
    · refine HT.cond1 rfl hb8 ?_
      refine HT.skip (qThen ?_)
      refine HT.seq ?_
      refine HT.block ?_
      obtain ⟨hg9, hx6⟩ := of_guard hx6
      refine HT.rg2 (oHs 3) ⟨[(1, iV a1), (2, iV a2), (8, iV (List.getD a0 (Int.toNat s1) (0 : Int))), (9, nV a0), (10, iV (lenI a0)), (11, iV s1)], [], 0⟩ hX (by kernel_rfl) (allCons hg9 allNil) ?_
      obtain ⟨y10, hc11, hx6⟩ := of_bind hx6
      refine HT.rg2 [oH, oH, oH, ⟨none, .call [.imm tI, .imm tI, .imm tI] [⟨false, .bool, y10⟩] []⟩, oH] ⟨[(1, iV a1), (2, iV a2), (9, nV a0), (10, iV (lenI a0)), (11, iV s1), (19, bV (!y10))], [], 0⟩ hX (by kernel_rfl) (allCons (f111_ok hc11) allNil) ?_
      rcases of_bif hx6 with ⟨hb12, hx6⟩ | ⟨hb12, hx6⟩
      · refine HT.cond1 rfl hb12 ?_
        refine HT.rg2 [oH] ⟨[(6, bV false)], [], 0⟩ hX (by kernel_rfl) allNil ?_
        have hx6 := of_some hx6
        subst hx6
        exact HT.retL (Le.re [] [] hX (by kernel_rfl)) (qBlockR (qThenR (qLoopR (hk7 (.inr ()) rfl))))
      · refine HT.cond0 rfl hb12 ?_
        refine HT.skip (qBlock (qThen ?_))
        have hx6 := of_some hx6
        subst hx6
        exact HT.rgK (oHs 2) [] [] hX (by kernel_rfl) allNil (fun _ h => (qLoopN ⟨(wadd .i64 s1 (1 : Int)), rfl, h⟩))
    · refine HT.cond0 rfl hb8 ?_
      have hx6 := of_some hx6
      subst hx6
      exact HT.exitL (Le.re [] [] hX (by kernel_rfl)) (qThenE (qLoopE (hk7 (.inl ()) rfl)))

noncomputable def impl_HoldsIn_B1 (a0 : Int × List Int) (a1 : List Int) (s6 : Int) (s15 : Int) : Option ((Int) ⊕ (Unit ⊕ Unit)) :=
  bif (decide (s15 < (lenI (([(0 : Int)] : List Int) ++ a1)))) then
    guardP ((0 : Int) ≤ s15 ∧ s15 < lenI (([(0 : Int)] : List Int) ++ a1)) (
      (impl_Zone_at (a0.1, a0.2) s6 s15).bind fun y24 =>
      guardP ((0 : Int) ≤ y24 ∧ y24 < lenI a0.2) (
        (show Option (Bool) from
          bif ((List.getD a0.2 (Int.toNat y24) (0 : Int)) != (1000000000 : Int)) then
            some (decide ((wsub .i64 (List.getD (([(0 : Int)] : List Int) ++ a1) (Int.toNat s6) (0 : Int)) (List.getD (([(0 : Int)] : List Int) ++ a1) (Int.toNat s15) (0 : Int))) > (List.getD a0.2 (Int.toNat y24) (0 : Int))))
          else
            some false).bind fun v27 =>
        bif v27 then
          some (.inr (.inr ()))
        else
          some (.inl (wadd .i64 s15 (1 : Int)))))
  else
    some (.inr (.inl ()))

noncomputable def impl_HoldsIn_B2 (a0 : Int × List Int) (a1 : List Int) (s6 : Int) : Option ((Int) ⊕ (Unit ⊕ Unit)) :=
  bif (decide (s6 < (lenI (([(0 : Int)] : List Int) ++ a1)))) then
    guardP ((0 : Int) ≤ s6 ∧ s6 < lenI (([(0 : Int)] : List Int) ++ a1)) (
      (rounds (impl_HoldsIn_B1 a0 a1 s6) (0 : Int)).bind fun r16 => match r16 with
        | .inl r17 =>
          some (.inl (wadd .i64 s6 (1 : Int)))
        | .inr r18 =>
          some (.inr (.inr ())))
  else
    some (.inr (.inl ()))

noncomputable def impl_HoldsIn (a0 : Int × List Int) (a1 : List Int) : Option (Bool × Bool) :=
  (show Option (Bool) from
    (impl_ValidZone (a0.1, a0.2)).bind fun y34 =>
    bif (!y34) then
      some true
    else
      bif ((lenI a1) != a0.1) then
        some true
      else
        (impl_areWithin a1 (0 : Int) (1000000 : Int)).bind fun y38 =>
        some (!y38)).bind fun v1 =>
  bif v1 then
    some (false, false)
  else
    guardP (List.length ([(0 : Int)] : List Int) + List.length a1 ≤ appMax) (
      (rounds (impl_HoldsIn_B2 a0 a1) (0 : Int)).bind fun r7 => match r7 with
        | .inl r8 =>
          some (true, true)
        | .inr r9 =>
          some (false, true))

theorem f32_ok {a0 : Int × List Int} {a1 : List Int} {r : Bool × Bool} (hr : impl_HoldsIn a0 a1 = some r) : CallOK Try.prog 32 [.imm (.st (.pair tI tLI)) a0, .imm tLI a1] [⟨false, .bool, r.1⟩, ⟨false, .bool, r.2⟩] [] := by
  unfold impl_HoldsIn at hr
  refine CallOK.of_body (ts := [(false, .bool), (false, .bool)]) Try.func32 rfl (by kernel_rfl) (Nat.le_of_ble_eq_true (by kernel_rfl)) fun cx hP hN hO hF => ?_
  have hO : cx.own.map Prod.fst = [] := hO
  have hX := CxIs.mk hP hN hO
  have hF := hF rfl
  show HT cx ⟨[(0, .agg [iC a0.1, nC a0.2]), (1, nV a1)], [], 0⟩ _ _
  refine HT.rg2 (oHs 3) ⟨[(1, nV a1), (2, pV 0 0)], [(0, .box [iC a0.1, nC a0.2])], 1⟩ hX (by kernel_rfl) allNil ?_
  refine HT.seq ?_
  obtain ⟨v1', hT3, hr⟩ := of_bind hr
  refine HT.join (fun (v1 : Bool) => ⟨[(1, nV a1), (2, pV 0 0), (26, bV v1)], [(0, .box [iC a0.1, nC a0.2])], 1⟩) (fun v => v = v1') (fun v1 hv2 => ?_) (fun cont => ?_)
  · subst hv2
    rcases of_bif hr with ⟨hb4, hr⟩ | ⟨hb4, hr⟩
    · refine HT.cond1 rfl hb4 ?_
      refine HT.rg2 (oHs 2) ⟨[(4, bV false), (5, bV false)], [], 1⟩ hX (by kernel_rfl) allNil ?_
      have hr := of_some hr
      subst hr
      exact HT.ret (qThenR ⟨[bV false, bV false], [], [], by kernel_rfl, by kernel_rfl, rfl, by kernel_rfl, by kernel_rfl, trivial⟩)
    · refine HT.cond0 rfl hb4 ?_
      refine HT.skip (qThen ?_)
      obtain ⟨hg5, hr⟩ := of_guard hr
      refine HT.rg2 [⟨none, .ty tI⟩, oH, ⟨none, .ty tI⟩, oH] ⟨[(2, pV 0 0), (6, aV 2)], [(2, .seq tI (([(0 : Int)] : List Int) ++ a1)), (0, .box [iC a0.1, nC a0.2])], 3⟩ hX (by kernel_rfl) (allCons hg5 allNil) ?_
      refine HT.seq ?_
      refine HT.rg2 (oHs 3) ⟨[(2, pV 0 0), (6, aV 2), (30, aV 2), (31, iV (lenI (([(0 : Int)] : List Int) ++ a1))), (32, iV (0 : Int))], [(2, .seq tI (([(0 : Int)] : List Int) ++ a1)), (0, .box [iC a0.1, nC a0.2])], 3⟩ hX (by kernel_rfl) allNil ?_
      refine HT.block ?_
      obtain ⟨r7, hL33, hr⟩ := of_bind hr
      refine HT.loopL (fun (s6 : Int) => ⟨[(2, pV 0 0), (6, aV 1), (30, aV 1), (31, iV (lenI (([(0 : Int)] : List Int) ++ a1))), (32, iV s6)], [(0, .box [iC a0.1, nC a0.2]), (1, .seq tI (([(0 : Int)] : List Int) ++ a1))], 2⟩) (fun (r7 : Unit ⊕ Unit) => match r7 with | .inl r8 => (.exit 0, ⟨[], [], 0⟩) | .inr r9 => (.ret, ⟨[(4, bV false), (5, bV true)], [], 0⟩)) (Le.re [(0, 0), (2, 1)] [] hX (by kernel_rfl)) hL33 ?_ (fun s6 x10 hx11 hk12 => ?_)
      · rcases r7 with r8 | r9
        · refine (qBlockX (qThen ?_))
          refine HT.rg2 (oHs 2) ⟨[(4, bV true), (5, bV true)], [], 0⟩ hX (by kernel_rfl) allNil ?_
          have hr := of_some hr
          subst hr
          exact HT.ret ⟨[bV true, bV true], [], [], by kernel_rfl, by kernel_rfl, rfl, by kernel_rfl, by kernel_rfl, trivial⟩
        · have hr := of_some hr
          subst hr
          exact (qBlockR (qThenR ⟨[bV false, bV true], [], [], by kernel_rfl, by kernel_rfl, rfl, by kernel_rfl, by kernel_rfl, trivial⟩))
      · refine HT.rg2 [oH] ⟨[(2, pV 0 0), (6, aV 1), (30, aV 1), (31, iV (lenI (([(0 : Int)] : List Int) ++ a1))), (32, iV s6), (33, bV (decide (s6 < (lenI (([(0 : Int)] : List Int) ++ a1)))))], [(0, .box [iC a0.1, nC a0.2]), (1, .seq tI (([(0 : Int)] : List Int) ++ a1))], 2⟩ hX (by kernel_rfl) allNil ?_
        refine HT.seq ?_
        rcases of_bif hx11 with ⟨hb13, hx11⟩ | ⟨hb13, hx11⟩
        · refine HT.cond1 rfl hb13 ?_
          refine HT.skip (qThen ?_)
          refine HT.seq ?_
          refine HT.block ?_
          obtain ⟨hg14, hx11⟩ := of_guard hx11
          refine HT.rg2 (oHs 5) ⟨[(2, pV 0 0), (6, aV 1), (7, iV s6), (8, iV (List.getD (([(0 : Int)] : List Int) ++ a1) (Int.toNat s6) (0 : Int))), (30, aV 1), (31, iV (lenI (([(0 : Int)] : List Int) ++ a1))), (32, iV s6)], [(0, .box [iC a0.1, nC a0.2]), (1, .seq tI (([(0 : Int)] : List Int) ++ a1))], 2⟩ hX (by kernel_rfl) (allCons hg14 (allCons (natLt hg14) allNil)) ?_
          refine HT.rg2 (oHs 3) ⟨[(2, pV 0 0), (6, aV 1), (7, iV s6), (8, iV (List.getD (([(0 : Int)] : List Int) ++ a1) (Int.toNat s6) (0 : Int))), (30, aV 1), (31, iV (lenI (([(0 : Int)] : List Int) ++ a1))), (32, iV s6), (37, aV 1), (38, iV (lenI (([(0 : Int)] : List Int) ++ a1))), (39, iV (0 : Int))], [(0, .box [iC a0.1, nC a0.2]), (1, .seq tI (([(0 : Int)] : List Int) ++ a1))], 2⟩ hX (by kernel_rfl) allNil ?_
          refine HT.block ?_
          obtain ⟨r16, hL32, hx11⟩ := of_bind hx11
          refine HT.loopL (fun (s15 : Int) => ⟨[(2, pV 0 0), (6, aV 1), (7, iV s6), (8, iV (List.getD (([(0 : Int)] : List Int) ++ a1) (Int.toNat s6) (0 : Int))), (30, aV 1), (31, iV (lenI (([(0 : Int)] : List Int) ++ a1))), (32, iV s6), (37, aV 1), (38, iV (lenI (([(0 : Int)] : List Int) ++ a1))), (39, iV s15)], [(0, .box [iC a0.1, nC a0.2]), (1, .seq tI (([(0 : Int)] : List Int) ++ a1))], 2⟩) (fun (r16 : Unit ⊕ Unit) => match r16 with | .inl r17 => (.exit 2, ⟨[(2, pV 0 0), (6, aV 1), (30, aV 1), (31, iV (lenI (([(0 : Int)] : List Int) ++ a1))), (32, iV s6)], [(0, .box [iC a0.1, nC a0.2]), (1, .seq tI (([(0 : Int)] : List Int) ++ a1))], 2⟩) | .inr r18 => (.ret, ⟨[(4, bV false), (5, bV true)], [], 0⟩)) (Le.re [(0, 0), (1, 1)] [] hX (by kernel_rfl)) hL32 ?_ (fun s15 x19 hx20 hk21 => ?_)
          · rcases r16 with r17 | r18
            · refine (qBlockX (qBlock (qThen ?_)))
              have hx11 := of_some hx11
              subst hx11
              exact HT.rgK (oHs 2) [(0, 0), (1, 1)] [] hX (by kernel_rfl) allNil (fun _ h => (qLoopN ⟨(wadd .i64 s6 (1 : Int)), rfl, h⟩))
            · have hx11 := of_some hx11
              subst hx11
              exact (qBlockR (qBlockR (qThenR (qLoopR (hk12 (.inr ()) rfl)))))
          · refine HT.rg2 [oH] ⟨[(2, pV 0 0), (6, aV 1), (7, iV s6), (8, iV (List.getD (([(0 : Int)] : List Int) ++ a1) (Int.toNat s6) (0 : Int))), (30, aV 1), (31, iV (lenI (([(0 : Int)] : List Int) ++ a1))), (32, iV s6), (37, aV 1), (38, iV (lenI (([(0 : Int)] : List Int) ++ a1))), (39, iV s15), (40, bV (decide (s15 < (lenI (([(0 : Int)] : List Int) ++ a1)))))], [(0, .box [iC a0.1, nC a0.2]), (1, .seq tI (([(0 : Int)] : List Int) ++ a1))], 2⟩ hX (by kernel_rfl) allNil ?_
            refine HT.seq ?_
            rcases of_bif hx20 with ⟨hb22, hx20⟩ | ⟨hb22, hx20⟩
            · refine HT.cond1 rfl hb22 ?_
              refine HT.skip (qThen ?_)
              refine HT.seq ?_
              refine HT.block ?_
              obtain ⟨hg23, hx20⟩ := of_guard hx20
              refine HT.rg2 (oHs 5) ⟨[(2, pV 0 0), (6, aV 1), (7, iV s6), (8, iV (List.getD (([(0 : Int)] : List Int) ++ a1) (Int.toNat s6) (0 : Int))), (9, iV s15), (10, iV (List.getD (([(0 : Int)] : List Int) ++ a1) (Int.toNat s15) (0 : Int))), (30, aV 1), (31, iV (lenI (([(0 : Int)] : List Int) ++ a1))), (32, iV s6), (37, aV 1), (38, iV (lenI (([(0 : Int)] : List Int) ++ a1))), (39, iV s15)], [(0, .box [iC a0.1, nC a0.2]), (1, .seq tI (([(0 : Int)] : List Int) ++ a1))], 2⟩ hX (by kernel_rfl) (allCons hg23 (allCons (natLt hg23) allNil)) ?_
              obtain ⟨y24, hc25, hx20⟩ := of_bind hx20
              obtain ⟨hg26, hx20⟩ := of_guard hx20
              refine HT.dr2 6 [⟨oH, []⟩, ⟨oH, [0]⟩, ⟨oH, []⟩, ⟨oH, []⟩, ⟨oH, []⟩, ⟨⟨none, .call [.imm (.st (.pair tI tLI)), .imm tI, .imm tI] [⟨false, tI, y24⟩] []⟩, [2, 3, 4]⟩] [[0, 1, 2, 3, 4, 5], [0, 1, 2, 3, 4, 5, 6], [0, 1, 2, 3, 4, 5, 6, 7]] (oHs 3) ⟨[(2, pV 0 0), (6, aV 1), (7, iV s6), (8, iV (List.getD (([(0 : Int)] : List Int) ++ a1) (Int.toNat s6) (0 : Int))), (10, iV (List.getD (([(0 : Int)] : List Int) ++ a1) (Int.toNat s15) (0 : Int))), (11, iV (List.getD a0.2 (Int.toNat y24) (0 : Int))), (30, aV 1), (31, iV (lenI (([(0 : Int)] : List Int) ++ a1))), (32, iV s6), (37, aV 1), (38, iV (lenI (([(0 : Int)] : List Int) ++ a1))), (39, iV s15)], [(0, .box [iC a0.1, nC a0.2]), (1, .seq tI (([(0 : Int)] : List Int) ++ a1))], 2⟩ hX (by kernel_rfl) (by kernel_rfl) (allCons (f107_ok hc25) (allCons hg26 allNil)) ?_
              obtain ⟨v27', hT29, hx20⟩ := of_bind hx20
              refine HT.join (fun (v27 : Bool) => ⟨[(2, pV 0 0), (6, aV 1), (7, iV s6), (8, iV (List.getD (([(0 : Int)] : List Int) ++ a1) (Int.toNat s6) (0 : Int))), (30, aV 1), (31, iV (lenI (([(0 : Int)] : List Int) ++ a1))), (32, iV s6), (37, aV 1), (38, iV (lenI (([(0 : Int)] : List Int) ++ a1))), (39, iV s15), (60, bV v27)], [(0, .box [iC a0.1, nC a0.2]), (1, .seq tI (([(0 : Int)] : List Int) ++ a1))], 2⟩) (fun v => v = v27') (fun v27 hv28 => ?_) (fun cont => ?_)
              · subst hv28
                rcases of_bif hx20 with ⟨hb30, hx20⟩ | ⟨hb30, hx20⟩
                · refine HT.cond1 rfl hb30 ?_
                  refine HT.rg2 (oHs 2) ⟨[(4, bV false), (5, bV true)], [], 2⟩ hX (by kernel_rfl) allNil ?_
                  have hx20 := of_some hx20
                  subst hx20
                  exact HT.retL (Le.re [] [] hX (by kernel_rfl)) (qBlockR (qThenR (qLoopR (hk21 (.inr ()) rfl))))
                · refine HT.cond0 rfl hb30 ?_
                  refine HT.skip (qBlock (qThen ?_))
                  have hx20 := of_some hx20
                  subst hx20
                  exact HT.rgK (oHs 2) [(0, 0), (1, 1)] [] hX (by kernel_rfl) allNil (fun _ h => (qLoopN ⟨(wadd .i64 s15 (1 : Int)), rfl, h⟩))
              · rcases of_bif hT29 with ⟨hb31, hT29⟩ | ⟨hb31, hT29⟩
                · exact HT.rgK [oH, oH, oH, ⟨some true, .no⟩, ⟨some true, .no⟩, ⟨some true, .no⟩, ⟨some true, .no⟩, ⟨some true, .no⟩, ⟨none, .tv true⟩] [(0, 0), (1, 1)] [] hX (by kernel_rfl) (allCons hb31 (allCons hb31 (allCons hb31 (allCons hb31 (allCons hb31 (allCons hb31 allNil)))))) (fun _ h => (qThen (h.ht (cont (decide ((wsub .i64 (List.getD (([(0 : Int)] : List Int) ++ a1) (Int.toNat s6) (0 : Int)) (List.getD (([(0 : Int)] : List Int) ++ a1) (Int.toNat s15) (0 : Int))) > (List.getD a0.2 (Int.toNat y24) (0 : Int)))) (of_some hT29)))))
                · exact HT.rgK [oH, oH, oH, ⟨some false, .no⟩, ⟨some false, .no⟩, ⟨some false, .no⟩, ⟨some false, .no⟩, ⟨some false, .no⟩, ⟨none, .tv false⟩] [(0, 0), (1, 1)] [] hX (by kernel_rfl) (allCons hb31 (allCons hb31 (allCons hb31 (allCons hb31 (allCons hb31 (allCons hb31 allNil)))))) (fun _ h => (qThen (h.ht (cont false (of_some hT29)))))
            · refine HT.cond0 rfl hb22 ?_
              have hx20 := of_some hx20
              subst hx20
              exact HT.exitL (Le.re [(0, 0), (1, 1)] [] hX (by kernel_rfl)) (qThenE (qLoopE (hk21 (.inl ()) rfl)))
        · refine HT.cond0 rfl hb13 ?_
          have hx11 := of_some hx11
          subst hx11
          exact HT.exitL (Le.re [] [] hX (by kernel_rfl)) (qThenE (qLoopE (hk12 (.inl ()) rfl)))
  · obtain ⟨y34, hc35, hT3⟩ := of_bind hT3
    rcases of_bif hT3 with ⟨hb36, hT3⟩ | ⟨hb36, hT3⟩
    · exact HT.rgK [oH, ⟨none, .call [.imm (.st (.pair tI tLI))] [⟨false, .bool, y34⟩] []⟩, oH, oH, ⟨some true, .no⟩, ⟨some true, .no⟩, ⟨some true, .no⟩, ⟨some true, .no⟩, ⟨some true, .no⟩, ⟨none, .tv true⟩, oH, ⟨some true, .no⟩, ⟨some true, .no⟩, ⟨some true, .no⟩, ⟨none, .tv true⟩] [(0, 0)] [] hX (by kernel_rfl) (allCons (f29_ok hc35) (allCons hb36 (allCons hb36 (allCons hb36 (allCons hb36 (allCons hb36 (allCons hb36 (allCons (rfl : true = true) (allCons (rfl : true = true) (allCons (rfl : true = true) (allCons (rfl : true = true) allNil))))))))))) (fun _ h => (qThen (h.ht (cont true (of_some hT3)))))
    · rcases of_bif hT3 with ⟨hb37, hT3⟩ | ⟨hb37, hT3⟩
      · exact HT.rgK [oH, ⟨none, .call [.imm (.st (.pair tI tLI))] [⟨false, .bool, y34⟩] []⟩, oH, oH, ⟨some false, .no⟩, ⟨some false, .no⟩, ⟨some false, .no⟩, ⟨some false, .no⟩, ⟨some false, .no⟩, ⟨none, .tv false⟩, oH, ⟨some true, .no⟩, ⟨some true, .no⟩, ⟨some true, .no⟩, ⟨none, .tv true⟩] [(0, 0)] [] hX (by kernel_rfl) (allCons (f29_ok hc35) (allCons hb36 (allCons hb36 (allCons hb36 (allCons hb36 (allCons hb36 (allCons hb36 (allCons hb37 (allCons hb37 (allCons hb37 (allCons hb37 allNil))))))))))) (fun _ h => (qThen (h.ht (cont true (of_some hT3)))))
      · obtain ⟨y38, hc39, hT3⟩ := of_bind hT3
        exact HT.rgK [oH, ⟨none, .call [.imm (.st (.pair tI tLI))] [⟨false, .bool, y34⟩] []⟩, oH, oH, ⟨some false, .no⟩, ⟨some false, .no⟩, ⟨some false, .no⟩, ⟨some false, .no⟩, ⟨some false, .no⟩, ⟨none, .tv false⟩, oH, ⟨some false, .no⟩, ⟨some false, .call [.imm tLI, .imm tI, .imm tI] [⟨false, .bool, y38⟩] []⟩, ⟨some false, .no⟩, ⟨none, .tv false⟩] [(0, 0)] [] hX (by kernel_rfl) (allCons (f29_ok hc35) (allCons hb36 (allCons hb36 (allCons hb36 (allCons hb36 (allCons hb36 (allCons hb36 (allCons hb37 (allCons hb37 (allCons (f113_ok hc39) (allCons hb37 (allCons hb37 allNil)))))))))))) (fun _ h => (qThen (h.ht (cont (!y38) (of_some hT3)))))

noncomputable def spec_HoldsIn_B1 (a0 : Int × List Int) (r7 : List Int) (s8 : Bool × Int) (s15 : Bool × Int) : Option ((Bool × Int) ⊕ (Bool)) :=
  bif (decide (s15.2 < (lenI r7))) then
    (show Option (Bool) from
      guardP ((0 : Int) ≤ (wadd .i64 (wmul .i64 s8.2 (lenI r7)) s15.2) ∧ (wadd .i64 (wmul .i64 s8.2 (lenI r7)) s15.2) < lenI a0.2) (
        (show Option (Bool) from
          bif ((List.getD a0.2 (Int.toNat (wadd .i64 (wmul .i64 s8.2 (lenI r7)) s15.2)) (0 : Int)) != (1000000000 : Int)) then
            guardP ((0 : Int) ≤ s8.2 ∧ s8.2 < lenI r7) (
              guardP ((0 : Int) ≤ s15.2 ∧ s15.2 < lenI r7) (
                some (decide ((wsub .i64 (List.getD r7 (Int.toNat s8.2) (0 : Int)) (List.getD r7 (Int.toNat s15.2) (0 : Int))) > (List.getD a0.2 (Int.toNat (wadd .i64 (wmul .i64 s8.2 (lenI r7)) s15.2)) (0 : Int))))))
          else
            some false).bind fun v26 =>
        bif v26 then
          some false
        else
          some s15.1)).bind fun v22 =>
    some (.inl (v22, (wadd .i64 s15.2 (1 : Int))))
  else
    some (.inr s15.1)

noncomputable def spec_HoldsIn_B2 (a0 : Int × List Int) (r7 : List Int) (s8 : Bool × Int) : Option ((Bool × Int) ⊕ (Bool)) :=
  bif (decide (s8.2 < (lenI r7))) then
    (rounds (spec_HoldsIn_B1 a0 r7 s8) (s8.1, (0 : Int))).bind fun r17 =>
    some (.inl (r17, (wadd .i64 s8.2 (1 : Int))))
  else
    some (.inr s8.1)

noncomputable def spec_HoldsIn_B3 (a1 : List Int) (s5 : Int × List Int) : Option ((Int × List Int) ⊕ (List Int ⊕ Unit)) :=
  bif (decide (s5.1 < (lenI a1))) then
    guardP ((0 : Int) ≤ s5.1 ∧ s5.1 < lenI a1) (
      (spec_l00In (List.getD a1 (Int.toNat s5.1) (0 : Int)) (0 : Int) (1000000 : Int)).bind fun y41 =>
      bif (!y41) then
        some (.inr (.inr ()))
      else
        guardP (List.length s5.2 + List.length ([(List.getD a1 (Int.toNat s5.1) (0 : Int))] : List Int) ≤ appMax) (
          some (.inl ((wadd .i64 s5.1 (1 : Int)), (s5.2 ++ ([(List.getD a1 (Int.toNat s5.1) (0 : Int))] : List Int))))))
  else
    some (.inr (.inl s5.2))

noncomputable def spec_HoldsIn (a0 : Int × List Int) (a1 : List Int) : Option (Bool × Bool) :=
  (show Option (Bool) from
    (spec_l07Zone (a0.1, a0.2)).bind fun y46 =>
    bif (!y46) then
      some true
    else
      some ((lenI a1) != a0.1)).bind fun v1 =>
  bif v1 then
    some (false, false)
  else
    (rounds (spec_HoldsIn_B3 a1) ((0 : Int), ([(0 : Int)] : List Int))).bind fun r6 => match r6 with
      | .inl r7 =>
        (rounds (spec_HoldsIn_B2 a0 r7) (true, (0 : Int))).bind fun r10 =>
        some (r10, true)
      | .inr r35 =>
        some (false, false)

theorem f33_ok {a0 : Int × List Int} {a1 : List Int} {r : Bool × Bool} (hr : spec_HoldsIn a0 a1 = some r) : CallOK Try.prog 33 [.imm (.st (.pair tI tLI)) a0, .imm tLI a1] [⟨false, .bool, r.1⟩, ⟨false, .bool, r.2⟩] [] := by
  unfold spec_HoldsIn at hr
  refine CallOK.of_body (ts := [(false, .bool), (false, .bool)]) Try.func33 rfl (by kernel_rfl) (Nat.le_of_ble_eq_true (by kernel_rfl)) fun cx hP hN hO hF => ?_
  have hO : cx.own.map Prod.fst = [] := hO
  have hX := CxIs.mk hP hN hO
  have hF := hF rfl
  show HT cx ⟨[(0, .agg [iC a0.1, nC a0.2]), (1, nV a1)], [], 0⟩ _ _
  refine HT.rg2 (oHs 3) ⟨[(1, nV a1), (2, pV 0 0)], [(0, .box [iC a0.1, nC a0.2])], 1⟩ hX (by kernel_rfl) allNil ?_
  refine HT.seq ?_
  obtain ⟨v1', hT3, hr⟩ := of_bind hr
  refine HT.join (fun (v1 : Bool) => ⟨[(1, nV a1), (2, pV 0 0), (20, bV v1)], [(0, .box [iC a0.1, nC a0.2])], 1⟩) (fun v => v = v1') (fun v1 hv2 => ?_) (fun cont => ?_)
  · subst hv2
    rcases of_bif hr with ⟨hb4, hr⟩ | ⟨hb4, hr⟩
    · refine HT.cond1 rfl hb4 ?_
      refine HT.rg2 (oHs 2) ⟨[(4, bV false), (5, bV false)], [], 1⟩ hX (by kernel_rfl) allNil ?_
      have hr := of_some hr
      subst hr
      exact HT.ret (qThenR ⟨[bV false, bV false], [], [], by kernel_rfl, by kernel_rfl, rfl, by kernel_rfl, by kernel_rfl, trivial⟩)
    · refine HT.cond0 rfl hb4 ?_
      refine HT.skip (qThen ?_)
      refine HT.rg2 [⟨none, .ty tI⟩, oH] ⟨[(1, nV a1), (2, pV 0 0), (6, aV 1)], [(1, .seq tI ([(0 : Int)] : List Int)), (0, .box [iC a0.1, nC a0.2])], 2⟩ hX (by kernel_rfl) allNil ?_
      refine HT.seq ?_
      refine HT.rg2 (oHs 3) ⟨[(1, nV a1), (2, pV 0 0), (6, aV 1), (23, iV (lenI a1)), (24, iV (0 : Int))], [(1, .seq tI ([(0 : Int)] : List Int)), (0, .box [iC a0.1, nC a0.2])], 2⟩ hX (by kernel_rfl) allNil ?_
      refine HT.block ?_
      obtain ⟨r6, hL45, hr⟩ := of_bind hr
      refine HT.loopL (fun (s5 : Int × List Int) => ⟨[(1, nV a1), (2, pV 0 0), (6, aV 1), (23, iV (lenI a1)), (24, iV s5.1)], [(0, .box [iC a0.1, nC a0.2]), (1, .seq tI s5.2)], 2⟩) (fun (r6 : List Int ⊕ Unit) => match r6 with | .inl r7 => (.exit 0, ⟨[(2, pV 0 0), (6, aV 1)], [(0, .box [iC a0.1, nC a0.2]), (1, .seq tI r7)], 2⟩) | .inr r35 => (.ret, ⟨[(4, bV false), (5, bV false)], [], 0⟩)) (Le.re [(0, 0), (1, 1)] [] hX (by kernel_rfl)) hL45 ?_ (fun s5 x36 hx37 hk38 => ?_)
      · rcases r6 with r7 | r35
        · refine (qBlockX (qThen ?_))
          refine HT.rg2 [oH] ⟨[(2, pV 0 0), (6, aV 1), (8, bV true)], [(0, .box [iC a0.1, nC a0.2]), (1, .seq tI r7)], 2⟩ hX (by kernel_rfl) allNil ?_
          refine HT.seq ?_
          refine HT.rg2 (oHs 3) ⟨[(2, pV 0 0), (6, aV 1), (8, bV true), (42, iV (lenI r7)), (43, iV (0 : Int))], [(0, .box [iC a0.1, nC a0.2]), (1, .seq tI r7)], 2⟩ hX (by kernel_rfl) allNil ?_
          refine HT.block ?_
          obtain ⟨r9, hL34, hr⟩ := of_bind hr
          refine HT.loopL (fun (s8 : Bool × Int) => ⟨[(2, pV 0 0), (6, aV 1), (8, bV s8.1), (42, iV (lenI r7)), (43, iV s8.2)], [(0, .box [iC a0.1, nC a0.2]), (1, .seq tI r7)], 2⟩) (fun (r10 : Bool) => (.exit 2, ⟨[(8, bV r10)], [], 0⟩)) (Le.re [(0, 0), (1, 1)] [] hX (by kernel_rfl)) hL34 ?_ (fun s8 x11 hx12 hk13 => ?_)
          · refine (qBlockX (qThen ?_))
            refine HT.rg2 (oHs 3) ⟨[(4, bV r9), (5, bV true)], [], 0⟩ hX (by kernel_rfl) allNil ?_
            have hr := of_some hr
            subst hr
            exact HT.ret ⟨[bV r9, bV true], [], [], by kernel_rfl, by kernel_rfl, rfl, by kernel_rfl, by kernel_rfl, trivial⟩
          · refine HT.rg2 [oH] ⟨[(2, pV 0 0), (6, aV 1), (8, bV s8.1), (42, iV (lenI r7)), (43, iV s8.2), (44, bV (decide (s8.2 < (lenI r7))))], [(0, .box [iC a0.1, nC a0.2]), (1, .seq tI r7)], 2⟩ hX (by kernel_rfl) allNil ?_
            refine HT.seq ?_
            rcases of_bif hx12 with ⟨hb14, hx12⟩ | ⟨hb14, hx12⟩
            · refine HT.cond1 rfl hb14 ?_
              refine HT.skip (qThen ?_)
              refine HT.seq ?_
              refine HT.block ?_
              refine HT.rg2 (oHs 2) ⟨[(2, pV 0 0), (6, aV 1), (8, bV s8.1), (9, iV s8.2), (42, iV (lenI r7)), (43, iV s8.2)], [(0, .box [iC a0.1, nC a0.2]), (1, .seq tI r7)], 2⟩ hX (by kernel_rfl) allNil ?_
              refine HT.rg2 (oHs 3) ⟨[(2, pV 0 0), (6, aV 1), (8, bV s8.1), (9, iV s8.2), (42, iV (lenI r7)), (43, iV s8.2), (47, iV (lenI r7)), (48, iV (0 : Int))], [(0, .box [iC a0.1, nC a0.2]), (1, .seq tI r7)], 2⟩ hX (by kernel_rfl) allNil ?_
              refine HT.block ?_
              obtain ⟨r16, hL33, hx12⟩ := of_bind hx12
              refine HT.loopL (fun (s15 : Bool × Int) => ⟨[(2, pV 0 0), (6, aV 1), (8, bV s15.1), (9, iV s8.2), (42, iV (lenI r7)), (43, iV s8.2), (47, iV (lenI r7)), (48, iV s15.2)], [(0, .box [iC a0.1, nC a0.2]), (1, .seq tI r7)], 2⟩) (fun (r17 : Bool) => (.exit 4, ⟨[(2, pV 0 0), (6, aV 1), (8, bV r17), (42, iV (lenI r7)), (43, iV s8.2)], [(0, .box [iC a0.1, nC a0.2]), (1, .seq tI r7)], 2⟩)) (Le.re [(0, 0), (1, 1)] [] hX (by kernel_rfl)) hL33 ?_ (fun s15 x18 hx19 hk20 => ?_)
              · refine (qBlockX (qBlock (qThen ?_)))
                have hx12 := of_some hx12
                subst hx12
                exact HT.rgK (oHs 2) [(0, 0), (1, 1)] [] hX (by kernel_rfl) allNil (fun _ h => (qLoopN ⟨(r16, (wadd .i64 s8.2 (1 : Int))), rfl, h⟩))
              · refine HT.rg2 [oH] ⟨[(2, pV 0 0), (6, aV 1), (8, bV s15.1), (9, iV s8.2), (42, iV (lenI r7)), (43, iV s8.2), (47, iV (lenI r7)), (48, iV s15.2), (49, bV (decide (s15.2 < (lenI r7))))], [(0, .box [iC a0.1, nC a0.2]), (1, .seq tI r7)], 2⟩ hX (by kernel_rfl) allNil ?_
                refine HT.seq ?_
                rcases of_bif hx19 with ⟨hb21, hx19⟩ | ⟨hb21, hx19⟩
                · refine HT.cond1 rfl hb21 ?_
                  refine HT.skip (qThen ?_)
                  obtain ⟨v22', hT24, hx19⟩ := of_bind hx19
                  refine HT.join (fun (v22 : Bool) => ⟨[(2, pV 0 0), (6, aV 1), (8, bV v22), (9, iV s8.2), (42, iV (lenI r7)), (43, iV s8.2), (47, iV (lenI r7)), (48, iV s15.2)], [(0, .box [iC a0.1, nC a0.2]), (1, .seq tI r7)], 2⟩) (fun v => v = v22') (fun v22 hv23 => ?_) (fun cont => ?_)
                  · subst hv23
                    have hx19 := of_some hx19
                    subst hx19
                    exact HT.rgK (oHs 2) [(0, 0), (1, 1)] [] hX (by kernel_rfl) allNil (fun _ h => (qLoopN ⟨(v22, (wadd .i64 s15.2 (1 : Int))), rfl, h⟩))
                  · refine HT.block ?_
                    refine HT.rg2 (oHs 2) ⟨[(2, pV 0 0), (6, aV 1), (8, bV s15.1), (9, iV s8.2), (10, iV s15.2), (42, iV (lenI r7)), (43, iV s8.2), (47, iV (lenI r7)), (48, iV s15.2)], [(0, .box [iC a0.1, nC a0.2]), (1, .seq tI r7)], 2⟩ hX (by kernel_rfl) allNil ?_
                    obtain ⟨hg25, hT24⟩ := of_guard hT24
                    refine HT.rg2 (oHs 11) ⟨[(2, pV 0 0), (6, aV 1), (8, bV s15.1), (9, iV s8.2), (10, iV s15.2), (11, iV (List.getD a0.2 (Int.toNat (wadd .i64 (wmul .i64 s8.2 (lenI r7)) s15.2)) (0 : Int))), (42, iV (lenI r7)), (43, iV s8.2), (47, iV (lenI r7)), (48, iV s15.2)], [(0, .box [iC a0.1, nC a0.2]), (1, .seq tI r7)], 2⟩ hX (by kernel_rfl) (allCons hg25 allNil) ?_
                    obtain ⟨v26', hT28, hT24⟩ := of_bind hT24
                    refine HT.join (fun (v26 : Bool) => ⟨[(2, pV 0 0), (6, aV 1), (8, bV s15.1), (9, iV s8.2), (42, iV (lenI r7)), (43, iV s8.2), (47, iV (lenI r7)), (48, iV s15.2), (75, bV v26)], [(0, .box [iC a0.1, nC a0.2]), (1, .seq tI r7)], 2⟩) (fun v => v = v26') (fun v26 hv27 => ?_) (fun cont => ?_)
                    · subst hv27
                      rcases of_bif hT24 with ⟨hb29, hT24⟩ | ⟨hb29, hT24⟩
                      · refine HT.cond1 rfl hb29 ?_
                        exact HT.rgK [oH] [(0, 0), (1, 1)] [] hX (by kernel_rfl) allNil (fun _ h => (qBlock (qThen (h.ht (cont false (of_some hT24))))))
                      · refine HT.cond0 rfl hb29 ?_
                        refine HT.skip (qBlock (qThen ?_))
                        exact (Le.re [(0, 0), (1, 1)] [] hX (by kernel_rfl)).ht (cont s15.1 (of_some hT24))
                    · rcases of_bif hT28 with ⟨hb30, hT28⟩ | ⟨hb30, hT28⟩
                      · obtain ⟨hg31, hT28⟩ := of_guard hT28
                        obtain ⟨hg32, hT28⟩ := of_guard hT28
                        exact HT.drK 13 [⟨oH, []⟩, ⟨oH, [0]⟩, ⟨oH, [0, 1]⟩, ⟨⟨some true, .no⟩, [0, 1, 2]⟩, ⟨⟨some true, .no⟩, [0, 1, 2]⟩, ⟨⟨some true, .no⟩, [0, 1, 2, 3, 4]⟩, ⟨⟨some true, .no⟩, [0, 1, 2, 3, 4, 5]⟩, ⟨⟨some true, .no⟩, [0, 1, 2]⟩, ⟨⟨some true, .no⟩, [0, 1, 2]⟩, ⟨⟨some true, .no⟩, [0, 1, 2, 7, 8]⟩, ⟨⟨some true, .no⟩, [0, 1, 2, 7, 8, 9]⟩, ⟨⟨some true, .no⟩, [0, 1, 2, 3, 4, 5, 6, 7, 8, 9, 10]⟩, ⟨⟨some true, .no⟩, [0, 1, 2]⟩] [[0, 1, 2, 3, 4, 5, 6, 7, 8, 9, 10, 11, 12], [0, 1, 2, 3, 4, 5, 6, 7, 8, 9, 10, 11, 12, 13]] [⟨some true, .no⟩, ⟨none, .tv true⟩] [(0, 0), (1, 1)] [] hX (by kernel_rfl) (by kernel_rfl) (allCons hb30 (allCons hb30 (allCons hb30 (allCons hg31 (allCons hb30 (allCons (natLt hg31) (allCons hb30 (allCons hb30 (allCons hb30 (allCons hg32 (allCons hb30 (allCons (natLt hg32) (allCons hb30 (allCons hb30 (allCons hb30 (allCons hb30 allNil)))))))))))))))) (fun _ h => (qThen (h.ht (cont (decide ((wsub .i64 (List.getD r7 (Int.toNat s8.2) (0 : Int)) (List.getD r7 (Int.toNat s15.2) (0 : Int))) > (List.getD a0.2 (Int.toNat (wadd .i64 (wmul .i64 s8.2 (lenI r7)) s15.2)) (0 : Int)))) (of_some hT28)))))
                      · exact HT.drK 13 [⟨oH, []⟩, ⟨oH, [0]⟩, ⟨oH, [0, 1]⟩, ⟨⟨some false, .no⟩, [0, 1, 2]⟩, ⟨⟨some false, .no⟩, [0, 1, 2]⟩, ⟨⟨some false, .no⟩, [0, 1, 2, 3, 4]⟩, ⟨⟨some false, .no⟩, [0, 1, 2, 3, 4, 5]⟩, ⟨⟨some false, .no⟩, [0, 1, 2]⟩, ⟨⟨some false, .no⟩, [0, 1, 2]⟩, ⟨⟨some false, .no⟩, [0, 1, 2, 7, 8]⟩, ⟨⟨some false, .no⟩, [0, 1, 2, 7, 8, 9]⟩, ⟨⟨some false, .no⟩, [0, 1, 2, 3, 4, 5, 6, 7, 8, 9, 10]⟩, ⟨⟨some false, .no⟩, [0, 1, 2]⟩] [[0, 1, 2, 3, 4, 5, 6, 7, 8, 9, 10, 11, 12], [0, 1, 2, 3, 4, 5, 6, 7, 8, 9, 10, 11, 12, 13]] [⟨some false, .no⟩, ⟨none, .tv false⟩] [(0, 0), (1, 1)] [] hX (by kernel_rfl) (by kernel_rfl) (allCons hb30 (allCons hb30 (allCons hb30 (allCons hb30 (allCons hb30 (allCons hb30 (allCons hb30 (allCons hb30 (allCons hb30 (allCons hb30 (allCons hb30 (allCons hb30 allNil)))))))))))) (fun _ h => (qThen (h.ht (cont false (of_some hT28)))))
                · refine HT.cond0 rfl hb21 ?_
                  have hx19 := of_some hx19
                  subst hx19
                  exact HT.exitL (Le.re [(0, 0), (1, 1)] [] hX (by kernel_rfl)) (qThenE (qLoopE (hk20 s15.1 rfl)))
            · refine HT.cond0 rfl hb14 ?_
              have hx12 := of_some hx12
              subst hx12
              exact HT.exitL (Le.re [] [] hX (by kernel_rfl)) (qThenE (qLoopE (hk13 s8.1 rfl)))
        · have hr := of_some hr
          subst hr
          exact (qBlockR (qThenR ⟨[bV false, bV false], [], [], by kernel_rfl, by kernel_rfl, rfl, by kernel_rfl, by kernel_rfl, trivial⟩))
      · refine HT.rg2 [oH] ⟨[(1, nV a1), (2, pV 0 0), (6, aV 1), (23, iV (lenI a1)), (24, iV s5.1), (25, bV (decide (s5.1 < (lenI a1))))], [(0, .box [iC a0.1, nC a0.2]), (1, .seq tI s5.2)], 2⟩ hX (by kernel_rfl) allNil ?_
        refine HT.seq ?_
        rcases of_bif hx37 with ⟨hb39, hx37⟩ | ⟨hb39, hx37⟩
        · refine HT.cond1 rfl hb39 ?_
          refine HT.skip (qThen ?_)
          refine HT.seq ?_
          refine HT.block ?_
          refine HT.rg2 (oHs 2) ⟨[(1, nV a1), (2, pV 0 0), (6, aV 1), (7, iV s5.1), (23, iV (lenI a1)), (24, iV s5.1)], [(0, .box [iC a0.1, nC a0.2]), (1, .seq tI s5.2)], 2⟩ hX (by kernel_rfl) allNil ?_
          refine HT.seq ?_
          obtain ⟨hg40, hx37⟩ := of_guard hx37
          obtain ⟨y41, hc42, hx37⟩ := of_bind hx37
          refine HT.rg2 [oH, oH, oH, oH, ⟨none, .call [.imm tI, .imm tI, .imm tI] [⟨false, .bool, y41⟩] []⟩, oH] ⟨[(1, nV a1), (2, pV 0 0), (6, aV 1), (7, iV s5.1), (23, iV (lenI a1)), (24, iV s5.1), (32, bV (!y41))], [(0, .box [iC a0.1, nC a0.2]), (1, .seq tI s5.2)], 2⟩ hX (by kernel_rfl) (allCons hg40 (allCons (f114_ok hc42) allNil)) ?_
          rcases of_bif hx37 with ⟨hb43, hx37⟩ | ⟨hb43, hx37⟩
          · refine HT.cond1 rfl hb43 ?_
            refine HT.rg2 (oHs 2) ⟨[(4, bV false), (5, bV false)], [], 2⟩ hX (by kernel_rfl) allNil ?_
            have hx37 := of_some hx37
            subst hx37
            exact HT.retL (Le.re [] [] hX (by kernel_rfl)) (qThenR (qBlockR (qThenR (qLoopR (hk38 (.inr ()) rfl)))))
          · refine HT.cond0 rfl hb43 ?_
            refine HT.skip (qThen ?_)
            obtain ⟨hg44, hx37⟩ := of_guard hx37
            refine HT.rgL [oH, oH, oH, oH, oH, ⟨none, .ty tI⟩, ⟨none, .ty tI⟩, oH] ⟨[(1, nV a1), (2, pV 0 0), (6, aV 3), (23, iV (lenI a1)), (24, iV s5.1)], [(3, .seq tI (s5.2 ++ ([(List.getD a1 (Int.toNat s5.1) (0 : Int))] : List Int))), (0, .box [iC a0.1, nC a0.2])], 4⟩ hX (by kernel_rfl) (allCons hg40 (allCons hg44 allNil)) (qBlock (qThen ?_))
            have hx37 := of_some hx37
            subst hx37
            exact HT.rgK (oHs 2) [(0, 0), (3, 1)] [] hX (by kernel_rfl) allNil (fun _ h => (qLoopN ⟨((wadd .i64 s5.1 (1 : Int)), (s5.2 ++ ([(List.getD a1 (Int.toNat s5.1) (0 : Int))] : List Int))), rfl, h⟩))
        · refine HT.cond0 rfl hb39 ?_
          have hx37 := of_some hx37
          subst hx37
          exact HT.exitL (Le.re [(0, 0), (1, 1)] [] hX (by kernel_rfl)) (qThenE (qLoopE (hk38 (.inl s5.2) rfl)))
  · obtain ⟨y46, hc47, hT3⟩ := of_bind hT3
    rcases of_bif hT3 with ⟨hb48, hT3⟩ | ⟨hb48, hT3⟩
    · exact HT.rgK [⟨none, .call [.pimm (.st (.pair tI tLI))] [⟨false, .bool, y46⟩] []⟩, oH, oH, ⟨some true, .no⟩, ⟨some true, .no⟩, ⟨some true, .no⟩, ⟨some true, .no⟩, ⟨some true, .no⟩, ⟨none, .tv true⟩] [(0, 0)] [] hX (by kernel_rfl) (allCons (f108_ok hc47) (allCons hb48 (allCons hb48 (allCons hb48 (allCons hb48 (allCons hb48 (allCons hb48 allNil))))))) (fun _ h => (qThen (h.ht (cont true (of_some hT3)))))
    · exact HT.rgK [⟨none, .call [.pimm (.st (.pair tI tLI))] [⟨false, .bool, y46⟩] []⟩, oH, oH, ⟨some false, .no⟩, ⟨some false, .no⟩, ⟨some false, .no⟩, ⟨some false, .no⟩, ⟨some false, .no⟩, ⟨none, .tv false⟩] [(0, 0)] [] hX (by kernel_rfl) (allCons (f108_ok hc47) (allCons hb48 (allCons hb48 (allCons hb48 (allCons hb48 (allCons hb48 (allCons hb48 allNil))))))) (fun _ h => (qThen (h.ht (cont ((lenI a1) != a0.1) (of_some hT3)))))

noncomputable def slices_Equal___int64_int64_B1 (a0 : List Int) (a1 : List Int) (s2 : Int) : Option ((Int) ⊕ (Unit ⊕ Unit)) :=
  bif (decide (s2 < (lenI a0))) then
    guardP ((0 : Int) ≤ s2 ∧ s2 < lenI a0) (
      guardP ((0 : Int) ≤ s2 ∧ s2 < lenI a1) (
        bif ((List.getD a0 (Int.toNat s2) (0 : Int)) != (List.getD a1 (Int.toNat s2) (0 : Int))) then
          some (.inr (.inr ()))
        else
          some (.inl (wadd .i64 s2 (1 : Int)))))
  else
    some (.inr (.inl ()))

noncomputable def slices_Equal___int64_int64 (a0 : List Int) (a1 : List Int) : Option (Bool) :=
  bif ((lenI a0) != (lenI a1)) then
    some false
  else
    (rounds (slices_Equal___int64_int64_B1 a0 a1) (0 : Int)).bind fun r3 => match r3 with
      | .inl r4 =>
        some true
      | .inr r5 =>
        some false

theorem f112_ok {a0 : List Int} {a1 : List Int} {r : Bool} (hr : slices_Equal___int64_int64 a0 a1 = some r) : CallOK Try.prog 112 [.imm tLI a0, .imm tLI a1] [⟨false, .bool, r⟩] [] := by
  unfold slices_Equal___int64_int64 at hr
  refine CallOK.of_body (ts := [(false, .bool)]) Try.func112 rfl (by kernel_rfl) (Nat.le_of_ble_eq_true (by kernel_rfl)) fun cx hP hN hO hF => ?_
  have hO : cx.own.map Prod.fst = [] := hO
  have hX := CxIs.mk hP hN hO
  have hF := hF rfl
  show HT cx ⟨[(0, nV a0), (1, nV a1)], [], 0⟩ _ _
  refine HT.rg2 [oH] ⟨[(0, nV a0), (1, nV a1)], [], 0⟩ hX (by kernel_rfl) allNil ?_
  refine HT.seq ?_
  refine HT.rg2 (oHs 5) ⟨[(0, nV a0), (1, nV a1), (10, bV ((lenI a0) != (lenI a1)))], [], 0⟩ hX (by kernel_rfl) allNil ?_
  rcases of_bif hr with ⟨hb1, hr⟩ | ⟨hb1, hr⟩
  · refine HT.cond1 rfl hb1 ?_
    refine HT.rg2 [oH] ⟨[(4, bV false)], [], 0⟩ hX (by kernel_rfl) allNil ?_
    have hr := of_some hr
    subst hr
    exact HT.ret (qThenR ⟨[bV false], [], [], by kernel_rfl, by kernel_rfl, rfl, by kernel_rfl, by kernel_rfl, trivial⟩)
  · refine HT.cond0 rfl hb1 ?_
    refine HT.skip (qThen ?_)
    refine HT.seq ?_
    refine HT.rg2 (oHs 3) ⟨[(0, nV a0), (1, nV a1), (12, iV (lenI a0)), (13, iV (0 : Int))], [], 0⟩ hX (by kernel_rfl) allNil ?_
    refine HT.block ?_
    obtain ⟨r3, hL13, hr⟩ := of_bind hr
    refine HT.loopL (fun (s2 : Int) => ⟨[(0, nV a0), (1, nV a1), (12, iV (lenI a0)), (13, iV s2)], [], 0⟩) (fun (r3 : Unit ⊕ Unit) => match r3 with | .inl r4 => (.exit 0, ⟨[], [], 0⟩) | .inr r5 => (.ret, ⟨[(4, bV false)], [], 0⟩)) (Le.re [] [] hX (by kernel_rfl)) hL13 ?_ (fun s2 x6 hx7 hk8 => ?_)
    · rcases r3 with r4 | r5
      · refine (qBlockX (qThen ?_))
        refine HT.rg2 [oH] ⟨[(4, bV true)], [], 0⟩ hX (by kernel_rfl) allNil ?_
        have hr := of_some hr
        subst hr
        exact HT.ret ⟨[bV true], [], [], by kernel_rfl, by kernel_rfl, rfl, by kernel_rfl, by kernel_rfl, trivial⟩
      · have hr := of_some hr
        subst hr
        exact (qBlockR (qThenR ⟨[bV false], [], [], by kernel_rfl, by kernel_rfl, rfl, by kernel_rfl, by kernel_rfl, trivial⟩))
    · refine HT.rg2 [oH] ⟨[(0, nV a0), (1, nV a1), (12, iV (lenI a0)), (13, iV s2), (14, bV (decide (s2 < (lenI a0))))], [], 0⟩ hX (by kernel_rfl) allNil ?_
      refine HT.seq ?_
      rcases of_bif hx7 with ⟨hb9, hx7⟩ | ⟨hb9, hx7⟩
      · refine HT.cond1 rfl hb9 ?_
        refine HT.skip (qThen ?_)
        refine HT.seq ?_
        refine HT.block ?_
        refine HT.rg2 (oHs 2) ⟨[(0, nV a0), (1, nV a1), (5, iV s2), (12, iV (lenI a0)), (13, iV s2)], [], 0⟩ hX (by kernel_rfl) allNil ?_
        obtain ⟨hg10, hx7⟩ := of_guard hx7
        obtain ⟨hg11, hx7⟩ := of_guard hx7
        refine HT.dr2 8 [⟨oH, []⟩, ⟨oH, []⟩, ⟨oH, [0, 1]⟩, ⟨oH, [0, 1, 2]⟩, ⟨oH, []⟩, ⟨oH, []⟩, ⟨oH, [4, 5]⟩, ⟨oH, [4, 5, 6]⟩] [[0, 1, 2, 3, 4, 5, 6, 7]] [oH] ⟨[(0, nV a0), (1, nV a1), (12, iV (lenI a0)), (13, iV s2), (24, bV ((List.getD a0 (Int.toNat s2) (0 : Int)) != (List.getD a1 (Int.toNat s2) (0 : Int))))], [], 0⟩ hX (by kernel_rfl) (by kernel_rfl) (allCons hg10 (allCons hg11 allNil)) ?_
        rcases of_bif hx7 with ⟨hb12, hx7⟩ | ⟨hb12, hx7⟩
        · refine HT.cond1 rfl hb12 ?_
          refine HT.rg2 [oH] ⟨[(4, bV false)], [], 0⟩ hX (by kernel_rfl) allNil ?_
          have hx7 := of_some hx7
          subst hx7
          exact HT.retL (Le.re [] [] hX (by kernel_rfl)) (qBlockR (qThenR (qLoopR (hk8 (.inr ()) rfl))))
        · refine HT.cond0 rfl hb12 ?_
          refine HT.skip (qBlock (qThen ?_))
          have hx7 := of_some hx7
          subst hx7
          exact HT.rgK (oHs 2) [] [] hX (by kernel_rfl) allNil (fun _ h => (qLoopN ⟨(wadd .i64 s2 (1 : Int)), rfl, h⟩))
      · refine HT.cond0 rfl hb9 ?_
        have hx7 := of_some hx7
        subst hx7
        exact HT.exitL (Le.re [] [] hX (by kernel_rfl)) (qThenE (qLoopE (hk8 (.inl ()) rfl)))

noncomputable def impl_SameZone (a0 : Int × List Int) (a1 : Int × List Int) : Option (Bool) :=
  (show Option (Bool) from
    bif (a0.1 == a1.1) then
      (slices_Equal___int64_int64 a0.2 a1.2).bind fun y5 =>
      some y5
    else
      some false).bind fun v1 =>
  some v1

theorem f30_ok {a0 : Int × List Int} {a1 : Int × List Int} {r : Bool} (hr : impl_SameZone a0 a1 = some r) : CallOK Try.prog 30 [.imm (.st (.pair tI tLI)) a0, .imm (.st (.pair tI tLI)) a1] [⟨false, .bool, r⟩] [] := by
  unfold impl_SameZone at hr
  refine CallOK.of_body (ts := [(false, .bool)]) Try.func30 rfl (by kernel_rfl) (Nat.le_of_ble_eq_true (by kernel_rfl)) fun cx hP hN hO hF => ?_
  have hO : cx.own.map Prod.fst = [] := hO
  have hX := CxIs.mk hP hN hO
  have hF := hF rfl
  show HT cx ⟨[(0, .agg [iC a0.1, nC a0.2]), (1, .agg [iC a1.1, nC a1.2])], [], 0⟩ _ _
  refine HT.rg2 (oHs 3) ⟨[(2, pV 0 0), (3, pV 1 0)], [(1, .box [iC a1.1, nC a1.2]), (0, .box [iC a0.1, nC a0.2])], 2⟩ hX (by kernel_rfl) allNil ?_
  obtain ⟨v1', hT3, hr⟩ := of_bind hr
  refine HT.join (fun (v1 : Bool) => ⟨[(4, bV v1)], [], 0⟩) (fun v => v = v1') (fun v1 hv2 => ?_) (fun cont => ?_)
  · subst hv2
    have hr := of_some hr
    subst hr
    exact HT.ret ⟨[bV v1], [], [], by kernel_rfl, by kernel_rfl, rfl, by kernel_rfl, by kernel_rfl, trivial⟩
  · rcases of_bif hT3 with ⟨hb4, hT3⟩ | ⟨hb4, hT3⟩
    · obtain ⟨y5, hc6, hT3⟩ := of_bind hT3
      exact HT.rgK [oH, oH, oH, oH, oH, oH, ⟨some true, .no⟩, ⟨some true, .no⟩, ⟨some true, .no⟩, ⟨some true, .no⟩, ⟨some true, .call [.imm tLI, .imm tLI] [⟨false, .bool, y5⟩] []⟩, ⟨none, .tv true⟩, oH] [] [] hX (by kernel_rfl) (allCons hb4 (allCons hb4 (allCons hb4 (allCons hb4 (allCons hb4 (allCons (f112_ok hc6) (allCons hb4 allNil))))))) (fun _ h => (qThen (h.ht (cont y5 (of_some hT3)))))
    · exact HT.rgK [oH, oH, oH, oH, oH, oH, ⟨some false, .no⟩, ⟨some false, .no⟩, ⟨some false, .no⟩, ⟨some false, .no⟩, ⟨some false, .no⟩, ⟨none, .tv false⟩, oH] [] [] hX (by kernel_rfl) (allCons hb4 (allCons hb4 (allCons hb4 (allCons hb4 (allCons hb4 (allCons hb4 allNil)))))) (fun _ h => (qThen (h.ht (cont false (of_some hT3)))))

noncomputable def spec_ValidZone (a0 : Int × List Int) : Option (Bool) :=
  (spec_l07Zone (a0.1, a0.2)).bind fun y1 =>
  some y1

theorem f31_ok {a0 : Int × List Int} {r : Bool} (hr : spec_ValidZone a0 = some r) : CallOK Try.prog 31 [.imm (.st (.pair tI tLI)) a0] [⟨false, .bool, r⟩] [] := by
  unfold spec_ValidZone at hr
  refine CallOK.of_body (ts := [(false, .bool)]) Try.func31 rfl (by kernel_rfl) (Nat.le_of_ble_eq_true (by kernel_rfl)) fun cx hP hN hO hF => ?_
  have hO : cx.own.map Prod.fst = [] := hO
  have hX := CxIs.mk hP hN hO
  have hF := hF rfl
  show HT cx ⟨[(0, .agg [iC a0.1, nC a0.2])], [], 0⟩ _ _
  refine HT.rg2 (oHs 2) ⟨[(1, pV 0 0)], [(0, .box [iC a0.1, nC a0.2])], 1⟩ hX (by kernel_rfl) allNil ?_
  obtain ⟨y1, hc2, hr⟩ := of_bind hr
  refine HT.rg2 [⟨none, .call [.pimm (.st (.pair tI tLI))] [⟨false, .bool, y1⟩] []⟩, oH] ⟨[(2, bV y1)], [], 1⟩ hX (by kernel_rfl) (allCons (f108_ok hc2) allNil) ?_
  have hr := of_some hr
  subst hr
  exact HT.ret ⟨[bV y1], [], [], by kernel_rfl, by kernel_rfl, rfl, by kernel_rfl, by kernel_rfl, trivial⟩

end Go.Proofs
