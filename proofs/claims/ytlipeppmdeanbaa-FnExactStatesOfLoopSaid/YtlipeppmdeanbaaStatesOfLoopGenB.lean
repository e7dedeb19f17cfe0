import Derived.Test.YtlipeppmdeanbaaStatesOfLoopGenA
import Derived.Test.YtlipeppmdeanbaaProg
set_option linter.unusedVariables false
set_option linter.unusedSimpArgs false
/-
  Functions as plain functions, and their contracts. Printed by a program.
-/
namespace Go.Proofs
open Go.Ide

noncomputable def impl_StatesOfLoop (a0 : Int × Int × List Int × List Bool) (a1 : List Int × List Int) : Option (List Int × Bool) :=
  (show Option (Bool) from
    (impl_ValidPlain (a0.1, a0.2.1, a0.2.2.1, a0.2.2.2)).bind fun y9 =>
    bif (!y9) then
      some true
    else
      (impl_ValidLoop (a1.1, a1.2) a0.2.1).bind fun y12 =>
      some (!y12)).bind fun v1 =>
  bif v1 then
    some (([] : List Int), false)
  else
    (impl_statesOfLoop (a0.1, a0.2.1, a0.2.2.1, a0.2.2.2) (a1.1, a1.2)).bind fun y5 =>
    (impl_indicesOf y5).bind fun y7 =>
    some (y7, true)

theorem f53_ok {a0 : Int × Int × List Int × List Bool} {a1 : List Int × List Int} {r : List Int × Bool} (hr : impl_StatesOfLoop a0 a1 = some r) : CallOK Try.prog 53 [.imm (.st (.pair (.int .i64) (.pair (.int .i64) (.pair (.sl (.int .i64)) (.sl .bool))))) a0, .imm (.st (.pair (.sl (.int .i64)) (.sl (.int .i64)))) a1] [⟨true, (.sl (.int .i64)), r.1⟩, ⟨false, .bool, r.2⟩] [] := by
  unfold impl_StatesOfLoop at hr
  refine CallOK.of_body (ts := [(true, (.sl (.int .i64))), (false, .bool)]) Try.func53 rfl (by kernel_rfl) (Nat.le_of_ble_eq_true (by kernel_rfl)) fun cx hP hN hO hF => ?_
  have hO : cx.own.map Prod.fst = [] := hO
  show HT cx ⟨[(0, .agg [.dat (.int .i64) a0.1, .dat (.int .i64) a0.2.1, .dat (.sl (.int .i64)) a0.2.2.1, .dat (.sl .bool) a0.2.2.2]), (1, .agg [.dat (.sl (.int .i64)) a1.1, .dat (.sl (.int .i64)) a1.2])], [], 0⟩ _ _
  refine HT.reg1 [2, 3] [⟨none, .no⟩, ⟨none, .no⟩, ⟨none, .no⟩, ⟨none, .no⟩] ⟨[(2, .one (.ptr 0 0)), (3, .one (.ptr 1 0))], [(1, .box [.dat (.sl (.int .i64)) a1.1, .dat (.sl (.int .i64)) a1.2]), (0, .box [.dat (.int .i64) a0.1, .dat (.int .i64) a0.2.1, .dat (.sl (.int .i64)) a0.2.2.1, .dat (.sl .bool) a0.2.2.2])], 2⟩ hP hN (by kernel_rfl) allNil ?_
  refine HT.seq ?_
  obtain ⟨v1', hT3, hr⟩ := of_bind hr
  refine HT.join (fun (v1 : Bool) => ⟨[(2, .one (.ptr 0 0)), (3, .one (.ptr 1 0)), (15, .one (.dat .bool v1))], [(0, .box [.dat (.int .i64) a0.1, .dat (.int .i64) a0.2.1, .dat (.sl (.int .i64)) a0.2.2.1, .dat (.sl .bool) a0.2.2.2]), (1, .box [.dat (.sl (.int .i64)) a1.1, .dat (.sl (.int .i64)) a1.2])], 2⟩) (fun v => v = v1') (fun v1 hv2 => ?_) (fun cont => ?_)
  · subst hv2
    rcases of_bif hr with ⟨hb4, hr⟩ | ⟨hb4, hr⟩
    · refine HT.cond1 rfl hb4 ?_
      refine HT.reg1 [4, 5] [⟨none, .no⟩, ⟨none, .no⟩] ⟨[(4, .one (.nilS)), (5, .one (.dat .bool false))], [(0, .box [.dat (.int .i64) a0.1, .dat (.int .i64) a0.2.1, .dat (.sl (.int .i64)) a0.2.2.1, .dat (.sl .bool) a0.2.2.2]), (1, .box [.dat (.sl (.int .i64)) a1.1, .dat (.sl (.int .i64)) a1.2])], 2⟩ hP hN (by kernel_rfl) allNil ?_
      have hr := of_some hr
      subst hr
      exact HT.ret (qThenR ⟨[.one (.nilS), .one (.dat .bool false)], [], [], by kernel_rfl, by kernel_rfl, rfl, (.inl rfl), by kernel_rfl, trivial⟩)
    · refine HT.cond0 rfl hb4 ?_
      refine HT.skip (qThen ?_)
      obtain ⟨y5, hc6, hr⟩ := of_bind hr
      obtain ⟨y7, hc8, hr⟩ := of_bind hr
      refine HT.reg1 [4, 5] [⟨none, .no⟩, ⟨none, .no⟩, ⟨none, .call [.imm (.st (.pair (.int .i64) (.pair (.int .i64) (.pair (.sl (.int .i64)) (.sl .bool))))), .imm (.st (.pair (.sl (.int .i64)) (.sl (.int .i64))))] [⟨true, (.sl .bool), y5⟩] []⟩, ⟨none, .call [.imm (.sl .bool)] [⟨true, (.sl (.int .i64)), y7⟩] []⟩, ⟨none, .no⟩, ⟨none, .no⟩] ⟨[(4, .one (.all 3)), (5, .one (.dat .bool true))], [(3, .seq (.int .i64) y7), (2, .seq .bool y5), (0, .box [.dat (.int .i64) a0.1, .dat (.int .i64) a0.2.1, .dat (.sl (.int .i64)) a0.2.2.1, .dat (.sl .bool) a0.2.2.2]), (1, .box [.dat (.sl (.int .i64)) a1.1, .dat (.sl (.int .i64)) a1.2])], 4⟩ hP hN (by kernel_rfl) (allCons (f118_ok hc6) (allCons (f117_ok hc8) allNil)) ?_
      have hr := of_some hr
      subst hr
      exact HT.ret ⟨[.one (.all 3), .one (.dat .bool true)], [3], [], by kernel_rfl, by kernel_rfl, rfl, (.inl rfl), by kernel_rfl, trivial⟩
  · obtain ⟨y9, hc10, hT3⟩ := of_bind hT3
    rcases of_bif hT3 with ⟨hb11, hT3⟩ | ⟨hb11, hT3⟩
    · refine HT.reg (rs := [⟨none, .no⟩, ⟨none, .call [.imm (.st (.pair (.int .i64) (.pair (.int .i64) (.pair (.sl (.int .i64)) (.sl .bool)))))] [⟨false, .bool, y9⟩] []⟩, ⟨none, .no⟩, ⟨none, .no⟩, ⟨some true, .no⟩, ⟨some true, .no⟩, ⟨some true, .no⟩, ⟨some true, .no⟩, ⟨some true, .no⟩, ⟨none, .tv true⟩]) (st' := ⟨[(15, .one (.dat .bool true)), (14, .und), (13, .und), (12, .und), (11, .und), (10, .und), (9, .one (.dat .bool (!y9))), (8, .one (.dat .bool (!y9))), (7, .one (.dat .bool y9)), (6, .agg [.dat (.int .i64) a0.1, .dat (.int .i64) a0.2.1, .dat (.sl (.int .i64)) a0.2.2.1, .dat (.sl .bool) a0.2.2.2]), (2, .one (.ptr 0 0)), (3, .one (.ptr 1 0))], [(1, .box [.dat (.sl (.int .i64)) a1.1, .dat (.sl (.int .i64)) a1.2]), (0, .box [.dat (.int .i64) a0.1, .dat (.int .i64) a0.2.1, .dat (.sl (.int .i64)) a0.2.2.1, .dat (.sl .bool) a0.2.2.2])], 2⟩) hP hN (by kernel_rfl) (allCons (f92_ok hc10) (allCons hb11 (allCons hb11 (allCons hb11 (allCons hb11 (allCons hb11 (allCons hb11 allNil))))))) (qThen ?_)
      exact (Le.cv (s := ⟨[(0, 0), (1, 1)], [], [], false⟩) (own := []) (ps := [true = true, a0.1 = a0.1, a0.2.1 = a0.2.1, a0.2.2.1 = a0.2.2.1, a0.2.2.2 = a0.2.2.2, a1.1 = a1.1, a1.2 = a1.2]) (st' := ⟨[(2, .one (.ptr 0 0)), (3, .one (.ptr 1 0)), (15, .one (.dat .bool true))], [(0, .box [.dat (.int .i64) a0.1, .dat (.int .i64) a0.2.1, .dat (.sl (.int .i64)) a0.2.2.1, .dat (.sl .bool) a0.2.2.2]), (1, .box [.dat (.sl (.int .i64)) a1.1, .dat (.sl (.int .i64)) a1.2])], 2⟩) hO (fun h => by cases h) (by kernel_rfl) ⟨rfl, rfl, rfl, rfl, rfl, rfl, rfl, trivial⟩).ht (cont true (of_some hT3))
    · obtain ⟨y12, hc13, hT3⟩ := of_bind hT3
      refine HT.reg (rs := [⟨none, .no⟩, ⟨none, .call [.imm (.st (.pair (.int .i64) (.pair (.int .i64) (.pair (.sl (.int .i64)) (.sl .bool)))))] [⟨false, .bool, y9⟩] []⟩, ⟨none, .no⟩, ⟨none, .no⟩, ⟨some false, .no⟩, ⟨some false, .no⟩, ⟨some false, .no⟩, ⟨some false, .call [.imm (.st (.pair (.sl (.int .i64)) (.sl (.int .i64)))), .imm (.int .i64)] [⟨false, .bool, y12⟩] []⟩, ⟨some false, .no⟩, ⟨none, .tv false⟩]) (st' := ⟨[(15, .one (.dat .bool (!y12))), (14, .one (.dat .bool (!y12))), (13, .one (.dat .bool y12)), (12, .one (.dat (.int .i64) a0.2.1)), (11, .one (.ptr 0 1)), (10, .agg [.dat (.sl (.int .i64)) a1.1, .dat (.sl (.int .i64)) a1.2]), (9, .one (.dat .bool (!y9))), (8, .one (.dat .bool (!y9))), (7, .one (.dat .bool y9)), (6, .agg [.dat (.int .i64) a0.1, .dat (.int .i64) a0.2.1, .dat (.sl (.int .i64)) a0.2.2.1, .dat (.sl .bool) a0.2.2.2]), (2, .one (.ptr 0 0)), (3, .one (.ptr 1 0))], [(1, .box [.dat (.sl (.int .i64)) a1.1, .dat (.sl (.int .i64)) a1.2]), (0, .box [.dat (.int .i64) a0.1, .dat (.int .i64) a0.2.1, .dat (.sl (.int .i64)) a0.2.2.1, .dat (.sl .bool) a0.2.2.2])], 2⟩) hP hN (by kernel_rfl) (allCons (f92_ok hc10) (allCons hb11 (allCons hb11 (allCons hb11 (allCons hb11 (allCons (f93_ok hc13) (allCons hb11 (allCons hb11 allNil)))))))) (qThen ?_)
      exact (Le.cv (s := ⟨[(0, 0), (1, 1)], [], [], false⟩) (own := []) (ps := [(!y12) = (!y12), a0.1 = a0.1, a0.2.1 = a0.2.1, a0.2.2.1 = a0.2.2.1, a0.2.2.2 = a0.2.2.2, a1.1 = a1.1, a1.2 = a1.2]) (st' := ⟨[(2, .one (.ptr 0 0)), (3, .one (.ptr 1 0)), (15, .one (.dat .bool (!y12)))], [(0, .box [.dat (.int .i64) a0.1, .dat (.int .i64) a0.2.1, .dat (.sl (.int .i64)) a0.2.2.1, .dat (.sl .bool) a0.2.2.2]), (1, .box [.dat (.sl (.int .i64)) a1.1, .dat (.sl (.int .i64)) a1.2])], 2⟩) hO (fun h => by cases h) (by kernel_rfl) ⟨rfl, rfl, rfl, rfl, rfl, rfl, rfl, trivial⟩).ht (cont (!y12) (of_some hT3))

noncomputable def laws_eqInt64S_B1 (a0 : List Int) (a1 : List Int) (s2 : Int) : Option ((Int) ⊕ (Unit ⊕ Unit)) :=
  bif (decide (s2 < (lenI a0))) then
    guardP ((0 : Int) ≤ s2 ∧ s2 < lenI a0) (
      guardP ((0 : Int) ≤ s2 ∧ s2 < lenI a1) (
        bif ((List.getD a0 (Int.toNat s2) (0 : Int)) != (List.getD a1 (Int.toNat s2) (0 : Int))) then
          some (.inr (.inr ()))
        else
          some (.inl (wadd .i64 s2 (1 : Int)))))
  else
    some (.inr (.inl ()))

noncomputable def laws_eqInt64S (a0 : List Int) (a1 : List Int) : Option (Bool) :=
  bif ((lenI a0) != (lenI a1)) then
    some false
  else
    (rounds (laws_eqInt64S_B1 a0 a1) (0 : Int)).bind fun r3 => match r3 with
      | .inl r4 =>
        some true
      | .inr r5 =>
        some false

theorem f25_ok {a0 : List Int} {a1 : List Int} {r : Bool} (hr : laws_eqInt64S a0 a1 = some r) : CallOK Try.prog 25 [.imm (.sl (.int .i64)) a0, .imm (.sl (.int .i64)) a1] [⟨false, .bool, r⟩] [] := by
  unfold laws_eqInt64S at hr
  refine CallOK.of_body (ts := [(false, .bool)]) Try.func25 rfl (by kernel_rfl) (Nat.le_of_ble_eq_true (by kernel_rfl)) fun cx hP hN hO hF => ?_
  have hO : cx.own.map Prod.fst = [] := hO
  show HT cx ⟨[(0, .one (.dat (.sl (.int .i64)) a0)), (1, .one (.dat (.sl (.int .i64)) a1))], [], 0⟩ _ _
  refine HT.reg1 [0, 1] [⟨none, .no⟩] ⟨[(0, .one (.dat (.sl (.int .i64)) a0)), (1, .one (.dat (.sl (.int .i64)) a1))], [], 0⟩ hP hN (by kernel_rfl) allNil ?_
  refine HT.seq ?_
  refine HT.reg1 [0, 1, 10] [⟨none, .no⟩, ⟨none, .no⟩, ⟨none, .no⟩, ⟨none, .no⟩, ⟨none, .no⟩] ⟨[(0, .one (.dat (.sl (.int .i64)) a0)), (1, .one (.dat (.sl (.int .i64)) a1)), (10, .one (.dat .bool ((lenI a0) != (lenI a1))))], [], 0⟩ hP hN (by kernel_rfl) allNil ?_
  rcases of_bif hr with ⟨hb1, hr⟩ | ⟨hb1, hr⟩
  · refine HT.cond1 rfl hb1 ?_
    refine HT.reg1 [4] [⟨none, .no⟩] ⟨[(4, .one (.dat .bool false))], [], 0⟩ hP hN (by kernel_rfl) allNil ?_
    have hr := of_some hr
    subst hr
    exact HT.ret (qThenR ⟨[.one (.dat .bool false)], [], [], by kernel_rfl, by kernel_rfl, rfl, (.inl rfl), by kernel_rfl, trivial⟩)
  · refine HT.cond0 rfl hb1 ?_
    refine HT.skip (qThen ?_)
    refine HT.seq ?_
    refine HT.reg1 [0, 1, 5] [⟨none, .no⟩] ⟨[(0, .one (.dat (.sl (.int .i64)) a0)), (1, .one (.dat (.sl (.int .i64)) a1)), (5, .one (.dat (.int .i64) (0 : Int)))], [], 0⟩ hP hN (by kernel_rfl) allNil ?_
    refine HT.block ?_
    obtain ⟨r3, hL13, hr⟩ := of_bind hr
    refine (Le.cv (s := ⟨[], [], [], false⟩) (own := []) (ps := [a0 = a0, a1 = a1, (0 : Int) = (0 : Int)]) (st' := ⟨[(0, .one (.dat (.sl (.int .i64)) a0)), (1, .one (.dat (.sl (.int .i64)) a1)), (5, .one (.dat (.int .i64) (0 : Int)))], [], 0⟩) hO (fun h => by cases h) (by kernel_rfl) ⟨rfl, rfl, rfl, trivial⟩).ht ?_
    refine HT.loopE (s := (0 : Int)) (fun (s2 : Int) => ⟨[(0, .one (.dat (.sl (.int .i64)) a0)), (1, .one (.dat (.sl (.int .i64)) a1)), (5, .one (.dat (.int .i64) s2))], [], 0⟩) (fun (r3 : Unit ⊕ Unit) => match r3 with | .inl r4 => (.exit 0, ⟨[], [], 0⟩) | .inr r5 => (.ret, ⟨[(4, .one (.dat .bool false))], [], 0⟩)) hL13 ?_ (fun s2 x6 hx7 hk8 => ?_)
    · rcases r3 with r4 | r5
      · refine (qBlockX (qThen ?_))
        refine HT.reg1 [4] [⟨none, .no⟩] ⟨[(4, .one (.dat .bool true))], [], 0⟩ hP hN (by kernel_rfl) allNil ?_
        have hr := of_some hr
        subst hr
        exact HT.ret ⟨[.one (.dat .bool true)], [], [], by kernel_rfl, by kernel_rfl, rfl, (.inl rfl), by kernel_rfl, trivial⟩
      · have hr := of_some hr
        subst hr
        exact (qBlockR (qThenR ⟨[.one (.dat .bool false)], [], [], by kernel_rfl, by kernel_rfl, rfl, (.inl rfl), by kernel_rfl, trivial⟩))
    · refine HT.seq ?_
      refine HT.reg1 [0, 1, 5, 14] [⟨none, .no⟩, ⟨none, .no⟩, ⟨none, .no⟩, ⟨none, .no⟩] ⟨[(0, .one (.dat (.sl (.int .i64)) a0)), (1, .one (.dat (.sl (.int .i64)) a1)), (5, .one (.dat (.int .i64) s2)), (14, .one (.dat .bool (decide (s2 < (lenI a0)))))], [], 0⟩ hP hN (by kernel_rfl) allNil ?_
      rcases of_bif hx7 with ⟨hb9, hx7⟩ | ⟨hb9, hx7⟩
      · refine HT.cond1 rfl hb9 ?_
        refine HT.skip (qThen ?_)
        refine HT.seq ?_
        refine HT.block ?_
        obtain ⟨hg10, hx7⟩ := of_guard hx7
        obtain ⟨hg11, hx7⟩ := of_guard hx7
        refine HT.drw1 [0, 1, 5, 25] 8 [⟨⟨none, .no⟩, []⟩, ⟨⟨none, .no⟩, []⟩, ⟨⟨none, .no⟩, [0, 1]⟩, ⟨⟨none, .no⟩, [0, 1, 2]⟩, ⟨⟨none, .no⟩, []⟩, ⟨⟨none, .no⟩, []⟩, ⟨⟨none, .no⟩, [4, 5]⟩, ⟨⟨none, .no⟩, [4, 5, 6]⟩] [[0, 1, 2, 3, 4, 5, 6, 7]] [⟨none, .no⟩] ⟨[(0, .one (.dat (.sl (.int .i64)) a0)), (1, .one (.dat (.sl (.int .i64)) a1)), (5, .one (.dat (.int .i64) s2)), (25, .one (.dat .bool ((List.getD a0 (Int.toNat s2) (0 : Int)) != (List.getD a1 (Int.toNat s2) (0 : Int)))))], [], 0⟩ hP hN (by kernel_rfl) (by kernel_rfl) (allCons hg10 (allCons hg11 allNil)) ?_
        rcases of_bif hx7 with ⟨hb12, hx7⟩ | ⟨hb12, hx7⟩
        · refine HT.cond1 rfl hb12 ?_
          refine HT.reg1 [4] [⟨none, .no⟩] ⟨[(4, .one (.dat .bool false))], [], 0⟩ hP hN (by kernel_rfl) allNil ?_
          have hx7 := of_some hx7
          subst hx7
          refine (Le.cv (s := ⟨[], [], [], false⟩) (own := []) (ps := [false = false]) (st' := ⟨[(4, .one (.dat .bool false))], [], 0⟩) hO (fun h => by cases h) (by kernel_rfl) ⟨rfl, trivial⟩).ht ?_
          exact HT.ret (qBlockR (qThenR (qLoopR (hk8 (.inr ()) rfl))))
        · refine HT.cond0 rfl hb12 ?_
          refine HT.skip (qBlock (qThen ?_))
          have hx7 := of_some hx7
          subst hx7
          refine HT.reg (rs := [⟨none, .no⟩, ⟨none, .no⟩, ⟨none, .no⟩]) (st' := ⟨[(5, .one (.dat (.int .i64) (wadd .i64 s2 (1 : Int)))), (16, .one (.dat (.int .i64) (wadd .i64 s2 (1 : Int)))), (15, .one (.dat (.int .i64) s2)), (0, .one (.dat (.sl (.int .i64)) a0)), (1, .one (.dat (.sl (.int .i64)) a1)), (5, .one (.dat (.int .i64) s2)), (25, .one (.dat .bool ((List.getD a0 (Int.toNat s2) (0 : Int)) != (List.getD a1 (Int.toNat s2) (0 : Int)))))], [], 0⟩) hP hN (by kernel_rfl) allNil (qLoopN ⟨(wadd .i64 s2 (1 : Int)), rfl, Le.cv (s := ⟨[], [], [], false⟩) (own := []) (ps := [a0 = a0, a1 = a1, (wadd .i64 s2 (1 : Int)) = (wadd .i64 s2 (1 : Int))]) (st' := ⟨[(0, .one (.dat (.sl (.int .i64)) a0)), (1, .one (.dat (.sl (.int .i64)) a1)), (5, .one (.dat (.int .i64) (wadd .i64 s2 (1 : Int))))], [], 0⟩) hO (fun h => by cases h) (by kernel_rfl) ⟨rfl, rfl, rfl, trivial⟩⟩)
      · refine HT.cond0 rfl hb9 ?_
        have hx7 := of_some hx7
        subst hx7
        refine (Le.cv (s := ⟨[], [], [], false⟩) (own := []) (ps := []) (st' := ⟨[], [], 0⟩) hO (fun h => by cases h) (by kernel_rfl) trivial).ht ?_
        exact HT.exit (qThenE (qLoopE (hk8 (.inl ()) rfl)))

noncomputable def laws_eqBoolS_B1 (a0 : List Bool) (a1 : List Bool) (s2 : Int) : Option ((Int) ⊕ (Unit ⊕ Unit)) :=
  bif (decide (s2 < (lenI a0))) then
    guardP ((0 : Int) ≤ s2 ∧ s2 < lenI a0) (
      guardP ((0 : Int) ≤ s2 ∧ s2 < lenI a1) (
        bif ((List.getD a0 (Int.toNat s2) false) != (List.getD a1 (Int.toNat s2) false)) then
          some (.inr (.inr ()))
        else
          some (.inl (wadd .i64 s2 (1 : Int)))))
  else
    some (.inr (.inl ()))

noncomputable def laws_eqBoolS (a0 : List Bool) (a1 : List Bool) : Option (Bool) :=
  bif ((lenI a0) != (lenI a1)) then
    some false
  else
    (rounds (laws_eqBoolS_B1 a0 a1) (0 : Int)).bind fun r3 => match r3 with
      | .inl r4 =>
        some true
      | .inr r5 =>
        some false

theorem f95_ok {a0 : List Bool} {a1 : List Bool} {r : Bool} (hr : laws_eqBoolS a0 a1 = some r) : CallOK Try.prog 95 [.imm (.sl .bool) a0, .imm (.sl .bool) a1] [⟨false, .bool, r⟩] [] := by
  unfold laws_eqBoolS at hr
  refine CallOK.of_body (ts := [(false, .bool)]) Try.func95 rfl (by kernel_rfl) (Nat.le_of_ble_eq_true (by kernel_rfl)) fun cx hP hN hO hF => ?_
  have hO : cx.own.map Prod.fst = [] := hO
  show HT cx ⟨[(0, .one (.dat (.sl .bool) a0)), (1, .one (.dat (.sl .bool) a1))], [], 0⟩ _ _
  refine HT.reg1 [0, 1] [⟨none, .no⟩] ⟨[(0, .one (.dat (.sl .bool) a0)), (1, .one (.dat (.sl .bool) a1))], [], 0⟩ hP hN (by kernel_rfl) allNil ?_
  refine HT.seq ?_
  refine HT.reg1 [0, 1, 10] [⟨none, .no⟩, ⟨none, .no⟩, ⟨none, .no⟩, ⟨none, .no⟩, ⟨none, .no⟩] ⟨[(0, .one (.dat (.sl .bool) a0)), (1, .one (.dat (.sl .bool) a1)), (10, .one (.dat .bool ((lenI a0) != (lenI a1))))], [], 0⟩ hP hN (by kernel_rfl) allNil ?_
  rcases of_bif hr with ⟨hb1, hr⟩ | ⟨hb1, hr⟩
  · refine HT.cond1 rfl hb1 ?_
    refine HT.reg1 [4] [⟨none, .no⟩] ⟨[(4, .one (.dat .bool false))], [], 0⟩ hP hN (by kernel_rfl) allNil ?_
    have hr := of_some hr
    subst hr
    exact HT.ret (qThenR ⟨[.one (.dat .bool false)], [], [], by kernel_rfl, by kernel_rfl, rfl, (.inl rfl), by kernel_rfl, trivial⟩)
  · refine HT.cond0 rfl hb1 ?_
    refine HT.skip (qThen ?_)
    refine HT.seq ?_
    refine HT.reg1 [0, 1, 5] [⟨none, .no⟩] ⟨[(0, .one (.dat (.sl .bool) a0)), (1, .one (.dat (.sl .bool) a1)), (5, .one (.dat (.int .i64) (0 : Int)))], [], 0⟩ hP hN (by kernel_rfl) allNil ?_
    refine HT.block ?_
    obtain ⟨r3, hL13, hr⟩ := of_bind hr
    refine (Le.cv (s := ⟨[], [], [], false⟩) (own := []) (ps := [a0 = a0, a1 = a1, (0 : Int) = (0 : Int)]) (st' := ⟨[(0, .one (.dat (.sl .bool) a0)), (1, .one (.dat (.sl .bool) a1)), (5, .one (.dat (.int .i64) (0 : Int)))], [], 0⟩) hO (fun h => by cases h) (by kernel_rfl) ⟨rfl, rfl, rfl, trivial⟩).ht ?_
    refine HT.loopE (s := (0 : Int)) (fun (s2 : Int) => ⟨[(0, .one (.dat (.sl .bool) a0)), (1, .one (.dat (.sl .bool) a1)), (5, .one (.dat (.int .i64) s2))], [], 0⟩) (fun (r3 : Unit ⊕ Unit) => match r3 with | .inl r4 => (.exit 0, ⟨[], [], 0⟩) | .inr r5 => (.ret, ⟨[(4, .one (.dat .bool false))], [], 0⟩)) hL13 ?_ (fun s2 x6 hx7 hk8 => ?_)
    · rcases r3 with r4 | r5
      · refine (qBlockX (qThen ?_))
        refine HT.reg1 [4] [⟨none, .no⟩] ⟨[(4, .one (.dat .bool true))], [], 0⟩ hP hN (by kernel_rfl) allNil ?_
        have hr := of_some hr
        subst hr
        exact HT.ret ⟨[.one (.dat .bool true)], [], [], by kernel_rfl, by kernel_rfl, rfl, (.inl rfl), by kernel_rfl, trivial⟩
      · have hr := of_some hr
        subst hr
        exact (qBlockR (qThenR ⟨[.one (.dat .bool false)], [], [], by kernel_rfl, by kernel_rfl, rfl, (.inl rfl), by kernel_rfl, trivial⟩))
    · refine HT.seq ?_
      refine HT.reg1 [0, 1, 5, 14] [⟨none, .no⟩, ⟨none, .no⟩, ⟨none, .no⟩, ⟨none, .no⟩] ⟨[(0, .one (.dat (.sl .bool) a0)), (1, .one (.dat (.sl .bool) a1)), (5, .one (.dat (.int .i64) s2)), (14, .one (.dat .bool (decide (s2 < (lenI a0)))))], [], 0⟩ hP hN (by kernel_rfl) allNil ?_
      rcases of_bif hx7 with ⟨hb9, hx7⟩ | ⟨hb9, hx7⟩
      · refine HT.cond1 rfl hb9 ?_
        refine HT.skip (qThen ?_)
        refine HT.seq ?_
        refine HT.block ?_
        obtain ⟨hg10, hx7⟩ := of_guard hx7
        obtain ⟨hg11, hx7⟩ := of_guard hx7
        refine HT.drw1 [0, 1, 5, 25] 8 [⟨⟨none, .no⟩, []⟩, ⟨⟨none, .no⟩, []⟩, ⟨⟨none, .no⟩, [0, 1]⟩, ⟨⟨none, .no⟩, [0, 1, 2]⟩, ⟨⟨none, .no⟩, []⟩, ⟨⟨none, .no⟩, []⟩, ⟨⟨none, .no⟩, [4, 5]⟩, ⟨⟨none, .no⟩, [4, 5, 6]⟩] [[0, 1, 2, 3, 4, 5, 6, 7]] [⟨none, .no⟩] ⟨[(0, .one (.dat (.sl .bool) a0)), (1, .one (.dat (.sl .bool) a1)), (5, .one (.dat (.int .i64) s2)), (25, .one (.dat .bool ((List.getD a0 (Int.toNat s2) false) != (List.getD a1 (Int.toNat s2) false))))], [], 0⟩ hP hN (by kernel_rfl) (by kernel_rfl) (allCons hg10 (allCons hg11 allNil)) ?_
        rcases of_bif hx7 with ⟨hb12, hx7⟩ | ⟨hb12, hx7⟩
        · refine HT.cond1 rfl hb12 ?_
          refine HT.reg1 [4] [⟨none, .no⟩] ⟨[(4, .one (.dat .bool false))], [], 0⟩ hP hN (by kernel_rfl) allNil ?_
          have hx7 := of_some hx7
          subst hx7
          refine (Le.cv (s := ⟨[], [], [], false⟩) (own := []) (ps := [false = false]) (st' := ⟨[(4, .one (.dat .bool false))], [], 0⟩) hO (fun h => by cases h) (by kernel_rfl) ⟨rfl, trivial⟩).ht ?_
          exact HT.ret (qBlockR (qThenR (qLoopR (hk8 (.inr ()) rfl))))
        · refine HT.cond0 rfl hb12 ?_
          refine HT.skip (qBlock (qThen ?_))
          have hx7 := of_some hx7
          subst hx7
          refine HT.reg (rs := [⟨none, .no⟩, ⟨none, .no⟩, ⟨none, .no⟩]) (st' := ⟨[(5, .one (.dat (.int .i64) (wadd .i64 s2 (1 : Int)))), (16, .one (.dat (.int .i64) (wadd .i64 s2 (1 : Int)))), (15, .one (.dat (.int .i64) s2)), (0, .one (.dat (.sl .bool) a0)), (1, .one (.dat (.sl .bool) a1)), (5, .one (.dat (.int .i64) s2)), (25, .one (.dat .bool ((List.getD a0 (Int.toNat s2) false) != (List.getD a1 (Int.toNat s2) false))))], [], 0⟩) hP hN (by kernel_rfl) allNil (qLoopN ⟨(wadd .i64 s2 (1 : Int)), rfl, Le.cv (s := ⟨[], [], [], false⟩) (own := []) (ps := [a0 = a0, a1 = a1, (wadd .i64 s2 (1 : Int)) = (wadd .i64 s2 (1 : Int))]) (st' := ⟨[(0, .one (.dat (.sl .bool) a0)), (1, .one (.dat (.sl .bool) a1)), (5, .one (.dat (.int .i64) (wadd .i64 s2 (1 : Int))))], [], 0⟩) hO (fun h => by cases h) (by kernel_rfl) ⟨rfl, rfl, rfl, trivial⟩⟩)
      · refine HT.cond0 rfl hb9 ?_
        have hx7 := of_some hx7
        subst hx7
        refine (Le.cv (s := ⟨[], [], [], false⟩) (own := []) (ps := []) (st' := ⟨[], [], 0⟩) hO (fun h => by cases h) (by kernel_rfl) trivial).ht ?_
        exact HT.exit (qThenE (qLoopE (hk8 (.inl ()) rfl)))

noncomputable def laws_eqPlain (a0 : Int × Int × List Int × List Bool) (a1 : Int × Int × List Int × List Bool) : Option (Bool) :=
  bif (a0.1 != a1.1) then
    some false
  else
    bif (a0.2.1 != a1.2.1) then
      some false
    else
      (laws_eqInt64S a0.2.2.1 a1.2.2.1).bind fun y3 =>
      bif (!y3) then
        some false
      else
        (laws_eqBoolS a0.2.2.2 a1.2.2.2).bind fun y6 =>
        bif (!y6) then
          some false
        else
          some true

theorem f34_ok {a0 : Int × Int × List Int × List Bool} {a1 : Int × Int × List Int × List Bool} {r : Bool} (hr : laws_eqPlain a0 a1 = some r) : CallOK Try.prog 34 [.imm (.st (.pair (.int .i64) (.pair (.int .i64) (.pair (.sl (.int .i64)) (.sl .bool))))) a0, .imm (.st (.pair (.int .i64) (.pair (.int .i64) (.pair (.sl (.int .i64)) (.sl .bool))))) a1] [⟨false, .bool, r⟩] [] := by
  unfold laws_eqPlain at hr
  refine CallOK.of_body (ts := [(false, .bool)]) Try.func34 rfl (by kernel_rfl) (Nat.le_of_ble_eq_true (by kernel_rfl)) fun cx hP hN hO hF => ?_
  have hO : cx.own.map Prod.fst = [] := hO
  show HT cx ⟨[(0, .agg [.dat (.int .i64) a0.1, .dat (.int .i64) a0.2.1, .dat (.sl (.int .i64)) a0.2.2.1, .dat (.sl .bool) a0.2.2.2]), (1, .agg [.dat (.int .i64) a1.1, .dat (.int .i64) a1.2.1, .dat (.sl (.int .i64)) a1.2.2.1, .dat (.sl .bool) a1.2.2.2])], [], 0⟩ _ _
  refine HT.reg1 [2, 3] [⟨none, .no⟩, ⟨none, .no⟩, ⟨none, .no⟩] ⟨[(2, .one (.ptr 0 0)), (3, .one (.ptr 1 0))], [(1, .box [.dat (.int .i64) a1.1, .dat (.int .i64) a1.2.1, .dat (.sl (.int .i64)) a1.2.2.1, .dat (.sl .bool) a1.2.2.2]), (0, .box [.dat (.int .i64) a0.1, .dat (.int .i64) a0.2.1, .dat (.sl (.int .i64)) a0.2.2.1, .dat (.sl .bool) a0.2.2.2])], 2⟩ hP hN (by kernel_rfl) allNil ?_
  refine HT.seq ?_
  refine HT.reg1 [2, 3, 9] [⟨none, .no⟩, ⟨none, .no⟩, ⟨none, .no⟩, ⟨none, .no⟩, ⟨none, .no⟩] ⟨[(2, .one (.ptr 0 0)), (3, .one (.ptr 1 0)), (9, .one (.dat .bool (a0.1 != a1.1)))], [(1, .box [.dat (.int .i64) a1.1, .dat (.int .i64) a1.2.1, .dat (.sl (.int .i64)) a1.2.2.1, .dat (.sl .bool) a1.2.2.2]), (0, .box [.dat (.int .i64) a0.1, .dat (.int .i64) a0.2.1, .dat (.sl (.int .i64)) a0.2.2.1, .dat (.sl .bool) a0.2.2.2])], 2⟩ hP hN (by kernel_rfl) allNil ?_
  rcases of_bif hr with ⟨hb1, hr⟩ | ⟨hb1, hr⟩
  · refine HT.cond1 rfl hb1 ?_
    refine HT.reg1 [4] [⟨none, .no⟩] ⟨[(4, .one (.dat .bool false))], [(1, .box [.dat (.int .i64) a1.1, .dat (.int .i64) a1.2.1, .dat (.sl (.int .i64)) a1.2.2.1, .dat (.sl .bool) a1.2.2.2]), (0, .box [.dat (.int .i64) a0.1, .dat (.int .i64) a0.2.1, .dat (.sl (.int .i64)) a0.2.2.1, .dat (.sl .bool) a0.2.2.2])], 2⟩ hP hN (by kernel_rfl) allNil ?_
    have hr := of_some hr
    subst hr
    exact HT.ret (qThenR ⟨[.one (.dat .bool false)], [], [], by kernel_rfl, by kernel_rfl, rfl, (.inl rfl), by kernel_rfl, trivial⟩)
  · refine HT.cond0 rfl hb1 ?_
    refine HT.skip (qThen ?_)
    refine HT.seq ?_
    refine HT.reg1 [2, 3, 14] [⟨none, .no⟩, ⟨none, .no⟩, ⟨none, .no⟩, ⟨none, .no⟩, ⟨none, .no⟩] ⟨[(2, .one (.ptr 0 0)), (3, .one (.ptr 1 0)), (14, .one (.dat .bool (a0.2.1 != a1.2.1)))], [(1, .box [.dat (.int .i64) a1.1, .dat (.int .i64) a1.2.1, .dat (.sl (.int .i64)) a1.2.2.1, .dat (.sl .bool) a1.2.2.2]), (0, .box [.dat (.int .i64) a0.1, .dat (.int .i64) a0.2.1, .dat (.sl (.int .i64)) a0.2.2.1, .dat (.sl .bool) a0.2.2.2])], 2⟩ hP hN (by kernel_rfl) allNil ?_
    rcases of_bif hr with ⟨hb2, hr⟩ | ⟨hb2, hr⟩
    · refine HT.cond1 rfl hb2 ?_
      refine HT.reg1 [4] [⟨none, .no⟩] ⟨[(4, .one (.dat .bool false))], [(1, .box [.dat (.int .i64) a1.1, .dat (.int .i64) a1.2.1, .dat (.sl (.int .i64)) a1.2.2.1, .dat (.sl .bool) a1.2.2.2]), (0, .box [.dat (.int .i64) a0.1, .dat (.int .i64) a0.2.1, .dat (.sl (.int .i64)) a0.2.2.1, .dat (.sl .bool) a0.2.2.2])], 2⟩ hP hN (by kernel_rfl) allNil ?_
      have hr := of_some hr
      subst hr
      exact HT.ret (qThenR ⟨[.one (.dat .bool false)], [], [], by kernel_rfl, by kernel_rfl, rfl, (.inl rfl), by kernel_rfl, trivial⟩)
    · refine HT.cond0 rfl hb2 ?_
      refine HT.skip (qThen ?_)
      refine HT.seq ?_
      obtain ⟨y3, hc4, hr⟩ := of_bind hr
      refine HT.reg1 [2, 3, 20] [⟨none, .no⟩, ⟨none, .no⟩, ⟨none, .no⟩, ⟨none, .no⟩, ⟨none, .call [.imm (.sl (.int .i64)), .imm (.sl (.int .i64))] [⟨false, .bool, y3⟩] []⟩, ⟨none, .no⟩] ⟨[(2, .one (.ptr 0 0)), (3, .one (.ptr 1 0)), (20, .one (.dat .bool (!y3)))], [(1, .box [.dat (.int .i64) a1.1, .dat (.int .i64) a1.2.1, .dat (.sl (.int .i64)) a1.2.2.1, .dat (.sl .bool) a1.2.2.2]), (0, .box [.dat (.int .i64) a0.1, .dat (.int .i64) a0.2.1, .dat (.sl (.int .i64)) a0.2.2.1, .dat (.sl .bool) a0.2.2.2])], 2⟩ hP hN (by kernel_rfl) (allCons (f25_ok hc4) allNil) ?_
      rcases of_bif hr with ⟨hb5, hr⟩ | ⟨hb5, hr⟩
      · refine HT.cond1 rfl hb5 ?_
        refine HT.reg1 [4] [⟨none, .no⟩] ⟨[(4, .one (.dat .bool false))], [(1, .box [.dat (.int .i64) a1.1, .dat (.int .i64) a1.2.1, .dat (.sl (.int .i64)) a1.2.2.1, .dat (.sl .bool) a1.2.2.2]), (0, .box [.dat (.int .i64) a0.1, .dat (.int .i64) a0.2.1, .dat (.sl (.int .i64)) a0.2.2.1, .dat (.sl .bool) a0.2.2.2])], 2⟩ hP hN (by kernel_rfl) allNil ?_
        have hr := of_some hr
        subst hr
        exact HT.ret (qThenR ⟨[.one (.dat .bool false)], [], [], by kernel_rfl, by kernel_rfl, rfl, (.inl rfl), by kernel_rfl, trivial⟩)
      · refine HT.cond0 rfl hb5 ?_
        refine HT.skip (qThen ?_)
        refine HT.seq ?_
        obtain ⟨y6, hc7, hr⟩ := of_bind hr
        refine HT.reg1 [26] [⟨none, .no⟩, ⟨none, .no⟩, ⟨none, .no⟩, ⟨none, .no⟩, ⟨none, .call [.imm (.sl .bool), .imm (.sl .bool)] [⟨false, .bool, y6⟩] []⟩, ⟨none, .no⟩] ⟨[(26, .one (.dat .bool (!y6)))], [(1, .box [.dat (.int .i64) a1.1, .dat (.int .i64) a1.2.1, .dat (.sl (.int .i64)) a1.2.2.1, .dat (.sl .bool) a1.2.2.2]), (0, .box [.dat (.int .i64) a0.1, .dat (.int .i64) a0.2.1, .dat (.sl (.int .i64)) a0.2.2.1, .dat (.sl .bool) a0.2.2.2])], 2⟩ hP hN (by kernel_rfl) (allCons (f95_ok hc7) allNil) ?_
        rcases of_bif hr with ⟨hb8, hr⟩ | ⟨hb8, hr⟩
        · refine HT.cond1 rfl hb8 ?_
          refine HT.reg1 [4] [⟨none, .no⟩] ⟨[(4, .one (.dat .bool false))], [(1, .box [.dat (.int .i64) a1.1, .dat (.int .i64) a1.2.1, .dat (.sl (.int .i64)) a1.2.2.1, .dat (.sl .bool) a1.2.2.2]), (0, .box [.dat (.int .i64) a0.1, .dat (.int .i64) a0.2.1, .dat (.sl (.int .i64)) a0.2.2.1, .dat (.sl .bool) a0.2.2.2])], 2⟩ hP hN (by kernel_rfl) allNil ?_
          have hr := of_some hr
          subst hr
          exact HT.ret (qThenR ⟨[.one (.dat .bool false)], [], [], by kernel_rfl, by kernel_rfl, rfl, (.inl rfl), by kernel_rfl, trivial⟩)
        · refine HT.cond0 rfl hb8 ?_
          refine HT.skip (qThen ?_)
          refine HT.reg1 [4] [⟨none, .no⟩] ⟨[(4, .one (.dat .bool true))], [(1, .box [.dat (.int .i64) a1.1, .dat (.int .i64) a1.2.1, .dat (.sl (.int .i64)) a1.2.2.1, .dat (.sl .bool) a1.2.2.2]), (0, .box [.dat (.int .i64) a0.1, .dat (.int .i64) a0.2.1, .dat (.sl (.int .i64)) a0.2.2.1, .dat (.sl .bool) a0.2.2.2])], 2⟩ hP hN (by kernel_rfl) allNil ?_
          have hr := of_some hr
          subst hr
          exact HT.ret ⟨[.one (.dat .bool true)], [], [], by kernel_rfl, by kernel_rfl, rfl, (.inl rfl), by kernel_rfl, trivial⟩

noncomputable def laws_eqLoop (a0 : List Int × List Int) (a1 : List Int × List Int) : Option (Bool) :=
  (laws_eqInt64S a0.1 a1.1).bind fun y1 =>
  bif (!y1) then
    some false
  else
    (laws_eqInt64S a0.2 a1.2).bind fun y4 =>
    bif (!y4) then
      some false
    else
      some true

theorem f35_ok {a0 : List Int × List Int} {a1 : List Int × List Int} {r : Bool} (hr : laws_eqLoop a0 a1 = some r) : CallOK Try.prog 35 [.imm (.st (.pair (.sl (.int .i64)) (.sl (.int .i64)))) a0, .imm (.st (.pair (.sl (.int .i64)) (.sl (.int .i64)))) a1] [⟨false, .bool, r⟩] [] := by
  unfold laws_eqLoop at hr
  refine CallOK.of_body (ts := [(false, .bool)]) Try.func35 rfl (by kernel_rfl) (Nat.le_of_ble_eq_true (by kernel_rfl)) fun cx hP hN hO hF => ?_
  have hO : cx.own.map Prod.fst = [] := hO
  show HT cx ⟨[(0, .agg [.dat (.sl (.int .i64)) a0.1, .dat (.sl (.int .i64)) a0.2]), (1, .agg [.dat (.sl (.int .i64)) a1.1, .dat (.sl (.int .i64)) a1.2])], [], 0⟩ _ _
  refine HT.reg1 [2, 3] [⟨none, .no⟩, ⟨none, .no⟩, ⟨none, .no⟩] ⟨[(2, .one (.ptr 0 0)), (3, .one (.ptr 1 0))], [(1, .box [.dat (.sl (.int .i64)) a1.1, .dat (.sl (.int .i64)) a1.2]), (0, .box [.dat (.sl (.int .i64)) a0.1, .dat (.sl (.int .i64)) a0.2])], 2⟩ hP hN (by kernel_rfl) allNil ?_
  refine HT.seq ?_
  obtain ⟨y1, hc2, hr⟩ := of_bind hr
  refine HT.reg1 [2, 3, 10] [⟨none, .no⟩, ⟨none, .no⟩, ⟨none, .no⟩, ⟨none, .no⟩, ⟨none, .call [.imm (.sl (.int .i64)), .imm (.sl (.int .i64))] [⟨false, .bool, y1⟩] []⟩, ⟨none, .no⟩] ⟨[(2, .one (.ptr 0 0)), (3, .one (.ptr 1 0)), (10, .one (.dat .bool (!y1)))], [(1, .box [.dat (.sl (.int .i64)) a1.1, .dat (.sl (.int .i64)) a1.2]), (0, .box [.dat (.sl (.int .i64)) a0.1, .dat (.sl (.int .i64)) a0.2])], 2⟩ hP hN (by kernel_rfl) (allCons (f25_ok hc2) allNil) ?_
  rcases of_bif hr with ⟨hb3, hr⟩ | ⟨hb3, hr⟩
  · refine HT.cond1 rfl hb3 ?_
    refine HT.reg1 [4] [⟨none, .no⟩] ⟨[(4, .one (.dat .bool false))], [(1, .box [.dat (.sl (.int .i64)) a1.1, .dat (.sl (.int .i64)) a1.2]), (0, .box [.dat (.sl (.int .i64)) a0.1, .dat (.sl (.int .i64)) a0.2])], 2⟩ hP hN (by kernel_rfl) allNil ?_
    have hr := of_some hr
    subst hr
    exact HT.ret (qThenR ⟨[.one (.dat .bool false)], [], [], by kernel_rfl, by kernel_rfl, rfl, (.inl rfl), by kernel_rfl, trivial⟩)
  · refine HT.cond0 rfl hb3 ?_
    refine HT.skip (qThen ?_)
    refine HT.seq ?_
    obtain ⟨y4, hc5, hr⟩ := of_bind hr
    refine HT.reg1 [16] [⟨none, .no⟩, ⟨none, .no⟩, ⟨none, .no⟩, ⟨none, .no⟩, ⟨none, .call [.imm (.sl (.int .i64)), .imm (.sl (.int .i64))] [⟨false, .bool, y4⟩] []⟩, ⟨none, .no⟩] ⟨[(16, .one (.dat .bool (!y4)))], [(1, .box [.dat (.sl (.int .i64)) a1.1, .dat (.sl (.int .i64)) a1.2]), (0, .box [.dat (.sl (.int .i64)) a0.1, .dat (.sl (.int .i64)) a0.2])], 2⟩ hP hN (by kernel_rfl) (allCons (f25_ok hc5) allNil) ?_
    rcases of_bif hr with ⟨hb6, hr⟩ | ⟨hb6, hr⟩
    · refine HT.cond1 rfl hb6 ?_
      refine HT.reg1 [4] [⟨none, .no⟩] ⟨[(4, .one (.dat .bool false))], [(1, .box [.dat (.sl (.int .i64)) a1.1, .dat (.sl (.int .i64)) a1.2]), (0, .box [.dat (.sl (.int .i64)) a0.1, .dat (.sl (.int .i64)) a0.2])], 2⟩ hP hN (by kernel_rfl) allNil ?_
      have hr := of_some hr
      subst hr
      exact HT.ret (qThenR ⟨[.one (.dat .bool false)], [], [], by kernel_rfl, by kernel_rfl, rfl, (.inl rfl), by kernel_rfl, trivial⟩)
    · refine HT.cond0 rfl hb6 ?_
      refine HT.skip (qThen ?_)
      refine HT.reg1 [4] [⟨none, .no⟩] ⟨[(4, .one (.dat .bool true))], [(1, .box [.dat (.sl (.int .i64)) a1.1, .dat (.sl (.int .i64)) a1.2]), (0, .box [.dat (.sl (.int .i64)) a0.1, .dat (.sl (.int .i64)) a0.2])], 2⟩ hP hN (by kernel_rfl) allNil ?_
      have hr := of_some hr
      subst hr
      exact HT.ret ⟨[.one (.dat .bool true)], [], [], by kernel_rfl, by kernel_rfl, rfl, (.inl rfl), by kernel_rfl, trivial⟩

noncomputable def laws_markInt64S_B1  (s1 : Int × Int × List Int) : Option ((Int × Int × List Int) ⊕ ((Int × List Int))) :=
  bif (decide (s1.2.1 < (lenI s1.2.2))) then
    guardP ((0 : Int) ≤ s1.2.1 ∧ s1.2.1 < lenI s1.2.2) (
      some (.inl ((wadd .i64 s1.1 (1 : Int)), (wadd .i64 s1.2.1 (1 : Int)), (List.set s1.2.2 (Int.toNat s1.2.1) s1.1))))
  else
    some (.inr (s1.1, s1.2.2))

noncomputable def laws_markInt64S (a0 : List Int) (a1 : Int) : Option (Int × List Int) :=
  (rounds (laws_markInt64S_B1) (a1, (0 : Int), a0)).bind fun r3 =>
  guardP (List.length r3.2 = List.length a0) (
    some (r3.1, r3.2))

theorem f56_ok {a0 : List Int} {a1 : Int} {r : Int × List Int} (hr : laws_markInt64S a0 a1 = some r) : CallOK Try.prog 56 [.own (.sl (.int .i64)) a0, .imm (.int .i64) a1] [⟨false, (.int .i64), r.1⟩] [⟨(.sl (.int .i64)), r.2⟩] := by
  unfold laws_markInt64S at hr
  refine CallOK.of_body (ts := [(false, (.int .i64))]) Try.func56 rfl (by kernel_rfl) (Nat.le_of_ble_eq_true (by kernel_rfl)) fun cx hP hN hO hF => ?_
  have hO : cx.own.map Prod.fst = [0] := hO
  show HT cx ⟨[(0, .one (.all 0)), (1, .one (.dat (.int .i64) a1))], [(0, .seq (.int .i64) a0)], 1⟩ _ _
  refine HT.reg1 [0, 1] [⟨none, .no⟩] ⟨[(0, .one (.all 0)), (1, .one (.dat (.int .i64) a1))], [(0, .seq (.int .i64) a0)], 1⟩ hP hN (by kernel_rfl) allNil ?_
  refine HT.seq ?_
  refine HT.reg1 [0, 1, 5] [⟨none, .no⟩] ⟨[(0, .one (.all 0)), (1, .one (.dat (.int .i64) a1)), (5, .one (.dat (.int .i64) (0 : Int)))], [(0, .seq (.int .i64) a0)], 1⟩ hP hN (by kernel_rfl) allNil ?_
  refine HT.block ?_
  obtain ⟨r2, hL10, hr⟩ := of_bind hr
  refine (Le.cv (s := ⟨[(0, 0)], [], [], false⟩) (own := [0]) (ps := [a1 = a1, (0 : Int) = (0 : Int), a0 = a0]) (st' := ⟨[(0, .one (.all 0)), (1, .one (.dat (.int .i64) a1)), (5, .one (.dat (.int .i64) (0 : Int)))], [(0, .seq (.int .i64) a0)], 1⟩) hO (fun h => by cases h) (by kernel_rfl) ⟨rfl, rfl, rfl, trivial⟩).ht ?_
  refine HT.loopE (s := (a1, (0 : Int), a0)) (fun (s1 : Int × Int × List Int) => ⟨[(0, .one (.all 0)), (1, .one (.dat (.int .i64) s1.1)), (5, .one (.dat (.int .i64) s1.2.1))], [(0, .seq (.int .i64) s1.2.2)], 1⟩) (fun (r3 : (Int × List Int)) => (.exit 0, ⟨[(1, .one (.dat (.int .i64) r3.1))], [(0, .seq (.int .i64) r3.2)], 1⟩)) hL10 ?_ (fun s1 x5 hx6 hk7 => ?_)
  · refine (qBlockX (qThen ?_))
    refine HT.reg1 [4] [⟨none, .no⟩, ⟨none, .no⟩] ⟨[(4, .one (.dat (.int .i64) r2.1))], [(0, .seq (.int .i64) r2.2)], 1⟩ hP hN (by kernel_rfl) allNil ?_
    obtain ⟨hg4, hr⟩ := of_guard hr
    have hr := of_some hr
    subst hr
    exact HT.ret ⟨[.one (.dat (.int .i64) r2.1)], [], [List.length r2.2 = List.length a0], by kernel_rfl, by kernel_rfl, rfl, (.inr rfl), by kernel_rfl, ⟨hg4, trivial⟩⟩
  · refine HT.seq ?_
    refine HT.reg1 [0, 1, 5, 9] [⟨none, .no⟩, ⟨none, .no⟩, ⟨none, .no⟩, ⟨none, .no⟩] ⟨[(0, .one (.all 0)), (1, .one (.dat (.int .i64) s1.1)), (5, .one (.dat (.int .i64) s1.2.1)), (9, .one (.dat .bool (decide (s1.2.1 < (lenI s1.2.2)))))], [(0, .seq (.int .i64) s1.2.2)], 1⟩ hP hN (by kernel_rfl) allNil ?_
    rcases of_bif hx6 with ⟨hb8, hx6⟩ | ⟨hb8, hx6⟩
    · refine HT.cond1 rfl hb8 ?_
      refine HT.skip (qThen ?_)
      refine HT.seq ?_
      refine HT.block ?_
      obtain ⟨hg9, hx6⟩ := of_guard hx6
      refine HT.reg1 [0, 1, 5] [⟨none, .no⟩, ⟨none, .no⟩, ⟨none, .no⟩, ⟨none, .no⟩, ⟨none, .no⟩] ⟨[(0, .one (.all 0)), (1, .one (.dat (.int .i64) s1.1)), (5, .one (.dat (.int .i64) s1.2.1))], [(0, .seq (.int .i64) (List.set s1.2.2 (Int.toNat s1.2.1) s1.1)), (0, .seq (.int .i64) s1.2.2)], 1⟩ hP hN (by kernel_rfl) (allCons hg9 (allCons (natLt hg9) allNil)) ?_
      refine HT.reg (rs := [⟨none, .no⟩, ⟨none, .no⟩, ⟨none, .no⟩]) (st' := ⟨[(1, .one (.dat (.int .i64) (wadd .i64 s1.1 (1 : Int)))), (17, .one (.dat (.int .i64) (wadd .i64 s1.1 (1 : Int)))), (16, .one (.dat (.int .i64) s1.1)), (0, .one (.all 0)), (1, .one (.dat (.int .i64) s1.1)), (5, .one (.dat (.int .i64) s1.2.1))], [(0, .seq (.int .i64) (List.set s1.2.2 (Int.toNat s1.2.1) s1.1)), (0, .seq (.int .i64) s1.2.2)], 1⟩) hP hN (by kernel_rfl) allNil (qBlock (qThen ?_))
      have hx6 := of_some hx6
      subst hx6
      refine HT.reg (rs := [⟨none, .no⟩, ⟨none, .no⟩, ⟨none, .no⟩]) (st' := ⟨[(5, .one (.dat (.int .i64) (wadd .i64 s1.2.1 (1 : Int)))), (11, .one (.dat (.int .i64) (wadd .i64 s1.2.1 (1 : Int)))), (10, .one (.dat (.int .i64) s1.2.1)), (1, .one (.dat (.int .i64) (wadd .i64 s1.1 (1 : Int)))), (17, .one (.dat (.int .i64) (wadd .i64 s1.1 (1 : Int)))), (16, .one (.dat (.int .i64) s1.1)), (0, .one (.all 0)), (1, .one (.dat (.int .i64) s1.1)), (5, .one (.dat (.int .i64) s1.2.1))], [(0, .seq (.int .i64) (List.set s1.2.2 (Int.toNat s1.2.1) s1.1)), (0, .seq (.int .i64) s1.2.2)], 1⟩) hP hN (by kernel_rfl) allNil (qLoopN ⟨((wadd .i64 s1.1 (1 : Int)), (wadd .i64 s1.2.1 (1 : Int)), (List.set s1.2.2 (Int.toNat s1.2.1) s1.1)), rfl, Le.cv (s := ⟨[(0, 0)], [], [], false⟩) (own := [0]) (ps := [(wadd .i64 s1.1 (1 : Int)) = (wadd .i64 s1.1 (1 : Int)), (wadd .i64 s1.2.1 (1 : Int)) = (wadd .i64 s1.2.1 (1 : Int)), (List.set s1.2.2 (Int.toNat s1.2.1) s1.1) = (List.set s1.2.2 (Int.toNat s1.2.1) s1.1)]) (st' := ⟨[(0, .one (.all 0)), (1, .one (.dat (.int .i64) (wadd .i64 s1.1 (1 : Int)))), (5, .one (.dat (.int .i64) (wadd .i64 s1.2.1 (1 : Int))))], [(0, .seq (.int .i64) (List.set s1.2.2 (Int.toNat s1.2.1) s1.1))], 1⟩) hO (fun h => by cases h) (by kernel_rfl) ⟨rfl, rfl, rfl, trivial⟩⟩)
    · refine HT.cond0 rfl hb8 ?_
      have hx6 := of_some hx6
      subst hx6
      refine (Le.cv (s := ⟨[(0, 0)], [], [], false⟩) (own := [0]) (ps := [s1.1 = s1.1, s1.2.2 = s1.2.2]) (st' := ⟨[(1, .one (.dat (.int .i64) s1.1))], [(0, .seq (.int .i64) s1.2.2)], 1⟩) hO (fun h => by cases h) (by kernel_rfl) ⟨rfl, rfl, trivial⟩).ht ?_
      exact HT.exit (qThenE (qLoopE (hk7 (s1.1, s1.2.2) rfl)))

noncomputable def laws_markBoolS_B1  (s1 : Int × Int × List Bool) : Option ((Int × Int × List Bool) ⊕ ((Int × List Bool))) :=
  bif (decide (s1.2.1 < (lenI s1.2.2))) then
    guardP ((0 : Int) ≤ s1.2.1 ∧ s1.2.1 < lenI s1.2.2) (
      some (.inl ((wadd .i64 s1.1 (1 : Int)), (wadd .i64 s1.2.1 (1 : Int)), (List.set s1.2.2 (Int.toNat s1.2.1) ((Int.tmod s1.1 (3 : Int)) == (0 : Int))))))
  else
    some (.inr (s1.1, s1.2.2))

noncomputable def laws_markBoolS (a0 : List Bool) (a1 : Int) : Option (Int × List Bool) :=
  (rounds (laws_markBoolS_B1) (a1, (0 : Int), a0)).bind fun r3 =>
  guardP (List.length r3.2 = List.length a0) (
    some (r3.1, r3.2))

theorem f119_ok {a0 : List Bool} {a1 : Int} {r : Int × List Bool} (hr : laws_markBoolS a0 a1 = some r) : CallOK Try.prog 119 [.own (.sl .bool) a0, .imm (.int .i64) a1] [⟨false, (.int .i64), r.1⟩] [⟨(.sl .bool), r.2⟩] := by
  unfold laws_markBoolS at hr
  refine CallOK.of_body (ts := [(false, (.int .i64))]) Try.func119 rfl (by kernel_rfl) (Nat.le_of_ble_eq_true (by kernel_rfl)) fun cx hP hN hO hF => ?_
  have hO : cx.own.map Prod.fst = [0] := hO
  show HT cx ⟨[(0, .one (.all 0)), (1, .one (.dat (.int .i64) a1))], [(0, .seq .bool a0)], 1⟩ _ _
  refine HT.reg1 [0, 1] [⟨none, .no⟩] ⟨[(0, .one (.all 0)), (1, .one (.dat (.int .i64) a1))], [(0, .seq .bool a0)], 1⟩ hP hN (by kernel_rfl) allNil ?_
  refine HT.seq ?_
  refine HT.reg1 [0, 1, 5] [⟨none, .no⟩] ⟨[(0, .one (.all 0)), (1, .one (.dat (.int .i64) a1)), (5, .one (.dat (.int .i64) (0 : Int)))], [(0, .seq .bool a0)], 1⟩ hP hN (by kernel_rfl) allNil ?_
  refine HT.block ?_
  obtain ⟨r2, hL10, hr⟩ := of_bind hr
  refine (Le.cv (s := ⟨[(0, 0)], [], [], false⟩) (own := [0]) (ps := [a1 = a1, (0 : Int) = (0 : Int), a0 = a0]) (st' := ⟨[(0, .one (.all 0)), (1, .one (.dat (.int .i64) a1)), (5, .one (.dat (.int .i64) (0 : Int)))], [(0, .seq .bool a0)], 1⟩) hO (fun h => by cases h) (by kernel_rfl) ⟨rfl, rfl, rfl, trivial⟩).ht ?_
  refine HT.loopE (s := (a1, (0 : Int), a0)) (fun (s1 : Int × Int × List Bool) => ⟨[(0, .one (.all 0)), (1, .one (.dat (.int .i64) s1.1)), (5, .one (.dat (.int .i64) s1.2.1))], [(0, .seq .bool s1.2.2)], 1⟩) (fun (r3 : (Int × List Bool)) => (.exit 0, ⟨[(1, .one (.dat (.int .i64) r3.1))], [(0, .seq .bool r3.2)], 1⟩)) hL10 ?_ (fun s1 x5 hx6 hk7 => ?_)
  · refine (qBlockX (qThen ?_))
    refine HT.reg1 [4] [⟨none, .no⟩, ⟨none, .no⟩] ⟨[(4, .one (.dat (.int .i64) r2.1))], [(0, .seq .bool r2.2)], 1⟩ hP hN (by kernel_rfl) allNil ?_
    obtain ⟨hg4, hr⟩ := of_guard hr
    have hr := of_some hr
    subst hr
    exact HT.ret ⟨[.one (.dat (.int .i64) r2.1)], [], [List.length r2.2 = List.length a0], by kernel_rfl, by kernel_rfl, rfl, (.inr rfl), by kernel_rfl, ⟨hg4, trivial⟩⟩
  · refine HT.seq ?_
    refine HT.reg1 [0, 1, 5, 9] [⟨none, .no⟩, ⟨none, .no⟩, ⟨none, .no⟩, ⟨none, .no⟩] ⟨[(0, .one (.all 0)), (1, .one (.dat (.int .i64) s1.1)), (5, .one (.dat (.int .i64) s1.2.1)), (9, .one (.dat .bool (decide (s1.2.1 < (lenI s1.2.2)))))], [(0, .seq .bool s1.2.2)], 1⟩ hP hN (by kernel_rfl) allNil ?_
    rcases of_bif hx6 with ⟨hb8, hx6⟩ | ⟨hb8, hx6⟩
    · refine HT.cond1 rfl hb8 ?_
      refine HT.skip (qThen ?_)
      refine HT.seq ?_
      refine HT.block ?_
      obtain ⟨hg9, hx6⟩ := of_guard hx6
      refine HT.reg1 [0, 1, 5] [⟨none, .no⟩, ⟨none, .no⟩, ⟨none, .no⟩, ⟨none, .no⟩, ⟨none, .no⟩, ⟨none, .no⟩, ⟨none, .no⟩] ⟨[(0, .one (.all 0)), (1, .one (.dat (.int .i64) s1.1)), (5, .one (.dat (.int .i64) s1.2.1))], [(0, .seq .bool (List.set s1.2.2 (Int.toNat s1.2.1) ((Int.tmod s1.1 (3 : Int)) == (0 : Int)))), (0, .seq .bool s1.2.2)], 1⟩ hP hN (by kernel_rfl) (allCons (show (3 : Int) ≠ 0 from by decide) (allCons hg9 (allCons (natLt hg9) allNil))) ?_
      refine HT.reg (rs := [⟨none, .no⟩, ⟨none, .no⟩, ⟨none, .no⟩]) (st' := ⟨[(1, .one (.dat (.int .i64) (wadd .i64 s1.1 (1 : Int)))), (19, .one (.dat (.int .i64) (wadd .i64 s1.1 (1 : Int)))), (18, .one (.dat (.int .i64) s1.1)), (0, .one (.all 0)), (1, .one (.dat (.int .i64) s1.1)), (5, .one (.dat (.int .i64) s1.2.1))], [(0, .seq .bool (List.set s1.2.2 (Int.toNat s1.2.1) ((Int.tmod s1.1 (3 : Int)) == (0 : Int)))), (0, .seq .bool s1.2.2)], 1⟩) hP hN (by kernel_rfl) allNil (qBlock (qThen ?_))
      have hx6 := of_some hx6
      subst hx6
      refine HT.reg (rs := [⟨none, .no⟩, ⟨none, .no⟩, ⟨none, .no⟩]) (st' := ⟨[(5, .one (.dat (.int .i64) (wadd .i64 s1.2.1 (1 : Int)))), (11, .one (.dat (.int .i64) (wadd .i64 s1.2.1 (1 : Int)))), (10, .one (.dat (.int .i64) s1.2.1)), (1, .one (.dat (.int .i64) (wadd .i64 s1.1 (1 : Int)))), (19, .one (.dat (.int .i64) (wadd .i64 s1.1 (1 : Int)))), (18, .one (.dat (.int .i64) s1.1)), (0, .one (.all 0)), (1, .one (.dat (.int .i64) s1.1)), (5, .one (.dat (.int .i64) s1.2.1))], [(0, .seq .bool (List.set s1.2.2 (Int.toNat s1.2.1) ((Int.tmod s1.1 (3 : Int)) == (0 : Int)))), (0, .seq .bool s1.2.2)], 1⟩) hP hN (by kernel_rfl) allNil (qLoopN ⟨((wadd .i64 s1.1 (1 : Int)), (wadd .i64 s1.2.1 (1 : Int)), (List.set s1.2.2 (Int.toNat s1.2.1) ((Int.tmod s1.1 (3 : Int)) == (0 : Int)))), rfl, Le.cv (s := ⟨[(0, 0)], [], [], false⟩) (own := [0]) (ps := [(wadd .i64 s1.1 (1 : Int)) = (wadd .i64 s1.1 (1 : Int)), (wadd .i64 s1.2.1 (1 : Int)) = (wadd .i64 s1.2.1 (1 : Int)), (List.set s1.2.2 (Int.toNat s1.2.1) ((Int.tmod s1.1 (3 : Int)) == (0 : Int))) = (List.set s1.2.2 (Int.toNat s1.2.1) ((Int.tmod s1.1 (3 : Int)) == (0 : Int)))]) (st' := ⟨[(0, .one (.all 0)), (1, .one (.dat (.int .i64) (wadd .i64 s1.1 (1 : Int)))), (5, .one (.dat (.int .i64) (wadd .i64 s1.2.1 (1 : Int))))], [(0, .seq .bool (List.set s1.2.2 (Int.toNat s1.2.1) ((Int.tmod s1.1 (3 : Int)) == (0 : Int))))], 1⟩) hO (fun h => by cases h) (by kernel_rfl) ⟨rfl, rfl, rfl, trivial⟩⟩)
    · refine HT.cond0 rfl hb8 ?_
      have hx6 := of_some hx6
      subst hx6
      refine (Le.cv (s := ⟨[(0, 0)], [], [], false⟩) (own := [0]) (ps := [s1.1 = s1.1, s1.2.2 = s1.2.2]) (st' := ⟨[(1, .one (.dat (.int .i64) s1.1))], [(0, .seq .bool s1.2.2)], 1⟩) hO (fun h => by cases h) (by kernel_rfl) ⟨rfl, rfl, trivial⟩).ht ?_
      exact HT.exit (qThenE (qLoopE (hk7 (s1.1, s1.2.2) rfl)))

noncomputable def laws_markPlain (a0 : Int × Int × List Int × List Bool) (a1 : Int) : Option (Int × (Int × Int × List Int × List Bool)) :=
  (laws_markInt64S a0.2.2.1 a1).bind fun y1 =>
  (laws_markBoolS a0.2.2.2 y1.1).bind fun y3 =>
  guardP (List.length y1.2 = List.length a0.2.2.1) (
    guardP (List.length y3.2 = List.length a0.2.2.2) (
      some (y3.1, a0.1, a0.2.1, y1.2, y3.2)))

theorem f54_ok {a0 : Int × Int × List Int × List Bool} {a1 : Int} {r : Int × (Int × Int × List Int × List Bool)} (hr : laws_markPlain a0 a1 = some r) : CallOK Try.prog 54 [.own (.st (.pair (.int .i64) (.pair (.int .i64) (.pair (.sl (.int .i64)) (.sl .bool))))) a0, .imm (.int .i64) a1] [⟨false, (.int .i64), r.1⟩] [⟨(.st (.pair (.int .i64) (.pair (.int .i64) (.pair (.sl (.int .i64)) (.sl .bool))))), r.2⟩] := by
  unfold laws_markPlain at hr
  refine CallOK.of_body (ts := [(false, (.int .i64))]) Try.func54 rfl (by kernel_rfl) (Nat.le_of_ble_eq_true (by kernel_rfl)) fun cx hP hN hO hF => ?_
  have hO : cx.own.map Prod.fst = [0, 1] := hO
  show HT cx ⟨[(0, .agg [.dat (.int .i64) a0.1, .dat (.int .i64) a0.2.1, .all 0, .all 1]), (1, .one (.dat (.int .i64) a1))], [(0, .seq (.int .i64) a0.2.2.1), (1, .seq .bool a0.2.2.2)], 2⟩ _ _
  refine HT.reg1 [1, 2] [⟨none, .no⟩, ⟨none, .no⟩] ⟨[(1, .one (.dat (.int .i64) a1)), (2, .one (.ptr 2 0))], [(2, .box [.dat (.int .i64) a0.1, .dat (.int .i64) a0.2.1, .all 0, .all 1]), (0, .seq (.int .i64) a0.2.2.1), (1, .seq .bool a0.2.2.2)], 3⟩ hP hN (by kernel_rfl) allNil ?_
  obtain ⟨y1, hc2, hr⟩ := of_bind hr
  refine HT.reg1 [1, 2] [⟨none, .no⟩, ⟨none, .no⟩, ⟨none, .no⟩, ⟨none, .call [.own (.sl (.int .i64)), .imm (.int .i64)] [⟨false, (.int .i64), y1.1⟩] [⟨(.sl (.int .i64)), y1.2⟩]⟩, ⟨none, .no⟩] ⟨[(1, .one (.dat (.int .i64) y1.1)), (2, .one (.ptr 2 0))], [(0, .seq (.int .i64) y1.2), (2, .box [.dat (.int .i64) a0.1, .dat (.int .i64) a0.2.1, .all 0, .all 1]), (0, .seq (.int .i64) a0.2.2.1), (1, .seq .bool a0.2.2.2)], 3⟩ hP hN (by kernel_rfl) (allCons (f56_ok hc2) allNil) ?_
  obtain ⟨y3, hc4, hr⟩ := of_bind hr
  refine HT.reg1 [1] [⟨none, .no⟩, ⟨none, .no⟩, ⟨none, .no⟩, ⟨none, .call [.own (.sl .bool), .imm (.int .i64)] [⟨false, (.int .i64), y3.1⟩] [⟨(.sl .bool), y3.2⟩]⟩, ⟨none, .no⟩] ⟨[(1, .one (.dat (.int .i64) y3.1))], [(1, .seq .bool y3.2), (0, .seq (.int .i64) y1.2), (2, .box [.dat (.int .i64) a0.1, .dat (.int .i64) a0.2.1, .all 0, .all 1]), (0, .seq (.int .i64) a0.2.2.1), (1, .seq .bool a0.2.2.2)], 3⟩ hP hN (by kernel_rfl) (allCons (f119_ok hc4) allNil) ?_
  refine HT.reg1 [4] [⟨none, .no⟩, ⟨none, .no⟩] ⟨[(4, .one (.dat (.int .i64) y3.1))], [(1, .seq .bool y3.2), (0, .seq (.int .i64) y1.2), (2, .box [.dat (.int .i64) a0.1, .dat (.int .i64) a0.2.1, .all 0, .all 1]), (0, .seq (.int .i64) a0.2.2.1), (1, .seq .bool a0.2.2.2)], 3⟩ hP hN (by kernel_rfl) allNil ?_
  obtain ⟨hg5, hr⟩ := of_guard hr
  obtain ⟨hg6, hr⟩ := of_guard hr
  have hr := of_some hr
  subst hr
  exact HT.ret ⟨[.one (.dat (.int .i64) y3.1)], [], [List.length y1.2 = List.length a0.2.2.1, List.length y3.2 = List.length a0.2.2.2], by kernel_rfl, by kernel_rfl, rfl, (.inr rfl), by kernel_rfl, ⟨hg5, hg6, trivial⟩⟩

noncomputable def laws_markLoop (a0 : List Int × List Int) (a1 : Int) : Option (Int × (List Int × List Int)) :=
  (laws_markInt64S a0.1 a1).bind fun y1 =>
  (laws_markInt64S a0.2 y1.1).bind fun y3 =>
  guardP (List.length y1.2 = List.length a0.1) (
    guardP (List.length y3.2 = List.length a0.2) (
      some (y3.1, y1.2, y3.2)))

theorem f55_ok {a0 : List Int × List Int} {a1 : Int} {r : Int × (List Int × List Int)} (hr : laws_markLoop a0 a1 = some r) : CallOK Try.prog 55 [.own (.st (.pair (.sl (.int .i64)) (.sl (.int .i64)))) a0, .imm (.int .i64) a1] [⟨false, (.int .i64), r.1⟩] [⟨(.st (.pair (.sl (.int .i64)) (.sl (.int .i64)))), r.2⟩] := by
  unfold laws_markLoop at hr
  refine CallOK.of_body (ts := [(false, (.int .i64))]) Try.func55 rfl (by kernel_rfl) (Nat.le_of_ble_eq_true (by kernel_rfl)) fun cx hP hN hO hF => ?_
  have hO : cx.own.map Prod.fst = [0, 1] := hO
  show HT cx ⟨[(0, .agg [.all 0, .all 1]), (1, .one (.dat (.int .i64) a1))], [(0, .seq (.int .i64) a0.1), (1, .seq (.int .i64) a0.2)], 2⟩ _ _
  refine HT.reg1 [1, 2] [⟨none, .no⟩, ⟨none, .no⟩] ⟨[(1, .one (.dat (.int .i64) a1)), (2, .one (.ptr 2 0))], [(2, .box [.all 0, .all 1]), (0, .seq (.int .i64) a0.1), (1, .seq (.int .i64) a0.2)], 3⟩ hP hN (by kernel_rfl) allNil ?_
  obtain ⟨y1, hc2, hr⟩ := of_bind hr
  refine HT.reg1 [1, 2] [⟨none, .no⟩, ⟨none, .no⟩, ⟨none, .no⟩, ⟨none, .call [.own (.sl (.int .i64)), .imm (.int .i64)] [⟨false, (.int .i64), y1.1⟩] [⟨(.sl (.int .i64)), y1.2⟩]⟩, ⟨none, .no⟩] ⟨[(1, .one (.dat (.int .i64) y1.1)), (2, .one (.ptr 2 0))], [(0, .seq (.int .i64) y1.2), (2, .box [.all 0, .all 1]), (0, .seq (.int .i64) a0.1), (1, .seq (.int .i64) a0.2)], 3⟩ hP hN (by kernel_rfl) (allCons (f56_ok hc2) allNil) ?_
  obtain ⟨y3, hc4, hr⟩ := of_bind hr
  refine HT.reg1 [1] [⟨none, .no⟩, ⟨none, .no⟩, ⟨none, .no⟩, ⟨none, .call [.own (.sl (.int .i64)), .imm (.int .i64)] [⟨false, (.int .i64), y3.1⟩] [⟨(.sl (.int .i64)), y3.2⟩]⟩, ⟨none, .no⟩] ⟨[(1, .one (.dat (.int .i64) y3.1))], [(1, .seq (.int .i64) y3.2), (0, .seq (.int .i64) y1.2), (2, .box [.all 0, .all 1]), (0, .seq (.int .i64) a0.1), (1, .seq (.int .i64) a0.2)], 3⟩ hP hN (by kernel_rfl) (allCons (f56_ok hc4) allNil) ?_
  refine HT.reg1 [4] [⟨none, .no⟩, ⟨none, .no⟩] ⟨[(4, .one (.dat (.int .i64) y3.1))], [(1, .seq (.int .i64) y3.2), (0, .seq (.int .i64) y1.2), (2, .box [.all 0, .all 1]), (0, .seq (.int .i64) a0.1), (1, .seq (.int .i64) a0.2)], 3⟩ hP hN (by kernel_rfl) allNil ?_
  obtain ⟨hg5, hr⟩ := of_guard hr
  obtain ⟨hg6, hr⟩ := of_guard hr
  have hr := of_some hr
  subst hr
  exact HT.ret ⟨[.one (.dat (.int .i64) y3.1)], [], [List.length y1.2 = List.length a0.1, List.length y3.2 = List.length a0.2], by kernel_rfl, by kernel_rfl, rfl, (.inr rfl), by kernel_rfl, ⟨hg5, hg6, trivial⟩⟩

noncomputable def laws_heldInt64S_B1 (a0 : List Int) (s1 : Int × Int) : Option ((Int × Int) ⊕ (Int ⊕ Unit)) :=
  bif (decide (s1.2 < (lenI a0))) then
    guardP ((0 : Int) ≤ s1.2 ∧ s1.2 < lenI a0) (
      bif ((List.getD a0 (Int.toNat s1.2) (0 : Int)) != s1.1) then
        some (.inr (.inr ()))
      else
        some (.inl ((wadd .i64 s1.1 (1 : Int)), (wadd .i64 s1.2 (1 : Int)))))
  else
    some (.inr (.inl s1.1))

noncomputable def laws_heldInt64S (a0 : List Int) (a1 : Int) : Option (Int) :=
  (rounds (laws_heldInt64S_B1 a0) (a1, (0 : Int))).bind fun r2 => match r2 with
    | .inl r3 =>
      some r3
    | .inr r4 =>
      some (-1 : Int)

theorem f57_ok {a0 : List Int} {a1 : Int} {r : Int} (hr : laws_heldInt64S a0 a1 = some r) : CallOK Try.prog 57 [.imm (.sl (.int .i64)) a0, .imm (.int .i64) a1] [⟨false, (.int .i64), r⟩] [] := by
  unfold laws_heldInt64S at hr
  refine CallOK.of_body (ts := [(false, (.int .i64))]) Try.func57 rfl (by kernel_rfl) (Nat.le_of_ble_eq_true (by kernel_rfl)) fun cx hP hN hO hF => ?_
  have hO : cx.own.map Prod.fst = [] := hO
  show HT cx ⟨[(0, .one (.dat (.sl (.int .i64)) a0)), (1, .one (.dat (.int .i64) a1))], [], 0⟩ _ _
  refine HT.reg1 [0, 1] [⟨none, .no⟩] ⟨[(0, .one (.dat (.sl (.int .i64)) a0)), (1, .one (.dat (.int .i64) a1))], [], 0⟩ hP hN (by kernel_rfl) allNil ?_
  refine HT.seq ?_
  refine HT.reg1 [0, 1, 5] [⟨none, .no⟩] ⟨[(0, .one (.dat (.sl (.int .i64)) a0)), (1, .one (.dat (.int .i64) a1)), (5, .one (.dat (.int .i64) (0 : Int)))], [], 0⟩ hP hN (by kernel_rfl) allNil ?_
  refine HT.block ?_
  obtain ⟨r2, hL11, hr⟩ := of_bind hr
  refine (Le.cv (s := ⟨[], [], [], false⟩) (own := []) (ps := [a0 = a0, a1 = a1, (0 : Int) = (0 : Int)]) (st' := ⟨[(0, .one (.dat (.sl (.int .i64)) a0)), (1, .one (.dat (.int .i64) a1)), (5, .one (.dat (.int .i64) (0 : Int)))], [], 0⟩) hO (fun h => by cases h) (by kernel_rfl) ⟨rfl, rfl, rfl, trivial⟩).ht ?_
  refine HT.loopE (s := (a1, (0 : Int))) (fun (s1 : Int × Int) => ⟨[(0, .one (.dat (.sl (.int .i64)) a0)), (1, .one (.dat (.int .i64) s1.1)), (5, .one (.dat (.int .i64) s1.2))], [], 0⟩) (fun (r2 : Int ⊕ Unit) => match r2 with | .inl r3 => (.exit 0, ⟨[(1, .one (.dat (.int .i64) r3))], [], 0⟩) | .inr r4 => (.ret, ⟨[(4, .one (.dat (.int .i64) (-1 : Int)))], [], 0⟩)) hL11 ?_ (fun s1 x5 hx6 hk7 => ?_)
  · rcases r2 with r3 | r4
    · refine (qBlockX (qThen ?_))
      refine HT.reg1 [4] [⟨none, .no⟩, ⟨none, .no⟩] ⟨[(4, .one (.dat (.int .i64) r3))], [], 0⟩ hP hN (by kernel_rfl) allNil ?_
      have hr := of_some hr
      subst hr
      exact HT.ret ⟨[.one (.dat (.int .i64) r3)], [], [], by kernel_rfl, by kernel_rfl, rfl, (.inl rfl), by kernel_rfl, trivial⟩
    · have hr := of_some hr
      subst hr
      exact (qBlockR (qThenR ⟨[.one (.dat (.int .i64) (-1 : Int))], [], [], by kernel_rfl, by kernel_rfl, rfl, (.inl rfl), by kernel_rfl, trivial⟩))
  · refine HT.seq ?_
    refine HT.reg1 [0, 1, 5, 9] [⟨none, .no⟩, ⟨none, .no⟩, ⟨none, .no⟩, ⟨none, .no⟩] ⟨[(0, .one (.dat (.sl (.int .i64)) a0)), (1, .one (.dat (.int .i64) s1.1)), (5, .one (.dat (.int .i64) s1.2)), (9, .one (.dat .bool (decide (s1.2 < (lenI a0)))))], [], 0⟩ hP hN (by kernel_rfl) allNil ?_
    rcases of_bif hx6 with ⟨hb8, hx6⟩ | ⟨hb8, hx6⟩
    · refine HT.cond1 rfl hb8 ?_
      refine HT.skip (qThen ?_)
      refine HT.seq ?_
      refine HT.block ?_
      refine HT.seq ?_
      obtain ⟨hg9, hx6⟩ := of_guard hx6
      refine HT.reg1 [0, 1, 5, 17] [⟨none, .no⟩, ⟨none, .no⟩, ⟨none, .no⟩, ⟨none, .no⟩, ⟨none, .no⟩, ⟨none, .no⟩] ⟨[(0, .one (.dat (.sl (.int .i64)) a0)), (1, .one (.dat (.int .i64) s1.1)), (5, .one (.dat (.int .i64) s1.2)), (17, .one (.dat .bool ((List.getD a0 (Int.toNat s1.2) (0 : Int)) != s1.1)))], [], 0⟩ hP hN (by kernel_rfl) (allCons hg9 allNil) ?_
      rcases of_bif hx6 with ⟨hb10, hx6⟩ | ⟨hb10, hx6⟩
      · refine HT.cond1 rfl hb10 ?_
        refine HT.reg1 [4] [⟨none, .no⟩] ⟨[(4, .one (.dat (.int .i64) (-1 : Int)))], [], 0⟩ hP hN (by kernel_rfl) allNil ?_
        have hx6 := of_some hx6
        subst hx6
        refine (Le.cv (s := ⟨[], [], [], false⟩) (own := []) (ps := [(-1 : Int) = (-1 : Int)]) (st' := ⟨[(4, .one (.dat (.int .i64) (-1 : Int)))], [], 0⟩) hO (fun h => by cases h) (by kernel_rfl) ⟨rfl, trivial⟩).ht ?_
        exact HT.ret (qThenR (qBlockR (qThenR (qLoopR (hk7 (.inr ()) rfl)))))
      · refine HT.cond0 rfl hb10 ?_
        refine HT.skip (qThen ?_)
        refine HT.reg (rs := [⟨none, .no⟩, ⟨none, .no⟩, ⟨none, .no⟩]) (st' := ⟨[(1, .one (.dat (.int .i64) (wadd .i64 s1.1 (1 : Int)))), (19, .one (.dat (.int .i64) (wadd .i64 s1.1 (1 : Int)))), (18, .one (.dat (.int .i64) s1.1)), (0, .one (.dat (.sl (.int .i64)) a0)), (1, .one (.dat (.int .i64) s1.1)), (5, .one (.dat (.int .i64) s1.2)), (17, .one (.dat .bool ((List.getD a0 (Int.toNat s1.2) (0 : Int)) != s1.1)))], [], 0⟩) hP hN (by kernel_rfl) allNil (qBlock (qThen ?_))
        have hx6 := of_some hx6
        subst hx6
        refine HT.reg (rs := [⟨none, .no⟩, ⟨none, .no⟩, ⟨none, .no⟩]) (st' := ⟨[(5, .one (.dat (.int .i64) (wadd .i64 s1.2 (1 : Int)))), (11, .one (.dat (.int .i64) (wadd .i64 s1.2 (1 : Int)))), (10, .one (.dat (.int .i64) s1.2)), (1, .one (.dat (.int .i64) (wadd .i64 s1.1 (1 : Int)))), (19, .one (.dat (.int .i64) (wadd .i64 s1.1 (1 : Int)))), (18, .one (.dat (.int .i64) s1.1)), (0, .one (.dat (.sl (.int .i64)) a0)), (1, .one (.dat (.int .i64) s1.1)), (5, .one (.dat (.int .i64) s1.2)), (17, .one (.dat .bool ((List.getD a0 (Int.toNat s1.2) (0 : Int)) != s1.1)))], [], 0⟩) hP hN (by kernel_rfl) allNil (qLoopN ⟨((wadd .i64 s1.1 (1 : Int)), (wadd .i64 s1.2 (1 : Int))), rfl, Le.cv (s := ⟨[], [], [], false⟩) (own := []) (ps := [a0 = a0, (wadd .i64 s1.1 (1 : Int)) = (wadd .i64 s1.1 (1 : Int)), (wadd .i64 s1.2 (1 : Int)) = (wadd .i64 s1.2 (1 : Int))]) (st' := ⟨[(0, .one (.dat (.sl (.int .i64)) a0)), (1, .one (.dat (.int .i64) (wadd .i64 s1.1 (1 : Int)))), (5, .one (.dat (.int .i64) (wadd .i64 s1.2 (1 : Int))))], [], 0⟩) hO (fun h => by cases h) (by kernel_rfl) ⟨rfl, rfl, rfl, trivial⟩⟩)
    · refine HT.cond0 rfl hb8 ?_
      have hx6 := of_some hx6
      subst hx6
      refine (Le.cv (s := ⟨[], [], [], false⟩) (own := []) (ps := [s1.1 = s1.1]) (st' := ⟨[(1, .one (.dat (.int .i64) s1.1))], [], 0⟩) hO (fun h => by cases h) (by kernel_rfl) ⟨rfl, trivial⟩).ht ?_
      exact HT.exit (qThenE (qLoopE (hk7 (.inl s1.1) rfl)))

noncomputable def laws_FnExactStatesOfLoop (a0 : Int × Int × List Int × List Bool) (a1 : List Int × List Int) : Option (Bool) :=
  (laws_szPlain (a0.1, a0.2.1, a0.2.2.1, a0.2.2.2) (1048576 : Int)).bind fun y1 =>
  bif (decide (y1 < (0 : Int))) then
    some true
  else
    (laws_szLoop (a1.1, a1.2) y1).bind fun y4 =>
    bif (decide (y4 < (0 : Int))) then
      some true
    else
      (laws_toPlain (a0.1, a0.2.1, a0.2.2.1, a0.2.2.2)).bind fun y7 =>
      (laws_toLoop (a1.1, a1.2)).bind fun y9 =>
      (spec_StatesOfLoop (y7.1, y7.2.1, y7.2.2.1, y7.2.2.2) (y9.1, y9.2)).bind fun y11 =>
      (laws_toPlain (a0.1, a0.2.1, a0.2.2.1, a0.2.2.2)).bind fun y13 =>
      (laws_toLoop (a1.1, a1.2)).bind fun y15 =>
      (impl_StatesOfLoop (y13.1, y13.2.1, y13.2.2.1, y13.2.2.2) (y15.1, y15.2)).bind fun y17 =>
      (show Option (Bool) from
        (laws_eqInt64S y17.1 y11.1).bind fun y68 =>
        bif (!y68) then
          some true
        else
          some (y17.2 != y11.2)).bind fun v19 =>
      bif v19 then
        some false
      else
        (laws_toPlain (a0.1, a0.2.1, a0.2.2.1, a0.2.2.2)).bind fun y23 =>
        (laws_eqPlain (y13.1, y13.2.1, y13.2.2.1, y13.2.2.2) (y23.1, y23.2.1, y23.2.2.1, y23.2.2.2)).bind fun y25 =>
        bif (!y25) then
          some false
        else
          (laws_toLoop (a1.1, a1.2)).bind fun y28 =>
          (laws_eqLoop (y15.1, y15.2) (y28.1, y28.2)).bind fun y30 =>
          bif (!y30) then
            some false
          else
            (laws_markPlain (y13.1, y13.2.1, y13.2.2.1, y13.2.2.2) (1 : Int)).bind fun y33 =>
            (laws_markLoop (y15.1, y15.2) y33.1).bind fun y35 =>
            (show Option (Bool) from
              bif (decide (y35.1 < (0 : Int))) then
                some true
              else
                (laws_eqInt64S y17.1 y11.1).bind fun y65 =>
                bif (!y65) then
                  some true
                else
                  some (y17.2 != y11.2)).bind fun v37 =>
            bif v37 then
              some false
            else
              (laws_markInt64S y17.1 (1 : Int)).bind fun y41 =>
              (laws_heldInt64S y41.2 (1 : Int)).bind fun y43 =>
              bif (decide (y43 < (0 : Int))) then
                some false
              else
                bif (y43 != y41.1) then
                  some false
                else
                  (laws_toPlain (a0.1, a0.2.1, a0.2.2.1, a0.2.2.2)).bind fun y47 =>
                  (laws_toLoop (a1.1, a1.2)).bind fun y49 =>
                  (impl_StatesOfLoop (y47.1, y47.2.1, y47.2.2.1, y47.2.2.2) (y49.1, y49.2)).bind fun y51 =>
                  (show Option (Bool) from
                    (laws_eqInt64S y51.1 y11.1).bind fun y61 =>
                    bif (!y61) then
                      some true
                    else
                      some (y51.2 != y11.2)).bind fun v53 =>
                  bif v53 then
                    some false
                  else
                    (laws_heldInt64S y41.2 (1 : Int)).bind fun y57 =>
                    bif (decide (y57 < (0 : Int))) then
                      some false
                    else
                      bif (y57 != y41.1) then
                        some false
                      else
                        some true

theorem f11_ok {a0 : Int × Int × List Int × List Bool} {a1 : List Int × List Int} {r : Bool} (hr : laws_FnExactStatesOfLoop a0 a1 = some r) : CallOK Try.prog 11 [.imm (.st (.pair (.int .i64) (.pair (.int .i64) (.pair (.sl (.int .i64)) (.sl .bool))))) a0, .imm (.st (.pair (.sl (.int .i64)) (.sl (.int .i64)))) a1] [⟨false, .bool, r⟩] [] := by
  unfold laws_FnExactStatesOfLoop at hr
  refine CallOK.of_body (ts := [(false, .bool)]) Try.func11 rfl (by kernel_rfl) (Nat.le_of_ble_eq_true (by kernel_rfl)) fun cx hP hN hO hF => ?_
  have hO : cx.own.map Prod.fst = [] := hO
  show HT cx ⟨[(0, .agg [.dat (.int .i64) a0.1, .dat (.int .i64) a0.2.1, .dat (.sl (.int .i64)) a0.2.2.1, .dat (.sl .bool) a0.2.2.2]), (1, .agg [.dat (.sl (.int .i64)) a1.1, .dat (.sl (.int .i64)) a1.2])], [], 0⟩ _ _
  refine HT.reg1 [2, 3] [⟨none, .no⟩, ⟨none, .no⟩, ⟨none, .no⟩] ⟨[(2, .one (.ptr 0 0)), (3, .one (.ptr 1 0))], [(1, .box [.dat (.sl (.int .i64)) a1.1, .dat (.sl (.int .i64)) a1.2]), (0, .box [.dat (.int .i64) a0.1, .dat (.int .i64) a0.2.1, .dat (.sl (.int .i64)) a0.2.2.1, .dat (.sl .bool) a0.2.2.2])], 2⟩ hP hN (by kernel_rfl) allNil ?_
  refine HT.reg1 [2, 3, 5] [⟨none, .no⟩] ⟨[(2, .one (.ptr 0 0)), (3, .one (.ptr 1 0)), (5, .one (.dat (.int .i64) (1048576 : Int)))], [(1, .box [.dat (.sl (.int .i64)) a1.1, .dat (.sl (.int .i64)) a1.2]), (0, .box [.dat (.int .i64) a0.1, .dat (.int .i64) a0.2.1, .dat (.sl (.int .i64)) a0.2.2.1, .dat (.sl .bool) a0.2.2.2])], 2⟩ hP hN (by kernel_rfl) allNil ?_
  obtain ⟨y1, hc2, hr⟩ := of_bind hr
  refine HT.reg1 [2, 3, 5] [⟨none, .no⟩, ⟨none, .no⟩, ⟨none, .call [.imm (.st (.pair (.int .i64) (.pair (.int .i64) (.pair (.sl (.int .i64)) (.sl .bool))))), .imm (.int .i64)] [⟨false, (.int .i64), y1⟩] []⟩, ⟨none, .no⟩] ⟨[(2, .one (.ptr 0 0)), (3, .one (.ptr 1 0)), (5, .one (.dat (.int .i64) y1))], [(1, .box [.dat (.sl (.int .i64)) a1.1, .dat (.sl (.int .i64)) a1.2]), (0, .box [.dat (.int .i64) a0.1, .dat (.int .i64) a0.2.1, .dat (.sl (.int .i64)) a0.2.2.1, .dat (.sl .bool) a0.2.2.2])], 2⟩ hP hN (by kernel_rfl) (allCons (f28_ok hc2) allNil) ?_
  refine HT.seq ?_
  refine HT.reg1 [2, 3, 5, 21] [⟨none, .no⟩, ⟨none, .no⟩] ⟨[(2, .one (.ptr 0 0)), (3, .one (.ptr 1 0)), (5, .one (.dat (.int .i64) y1)), (21, .one (.dat .bool (decide (y1 < (0 : Int)))))], [(1, .box [.dat (.sl (.int .i64)) a1.1, .dat (.sl (.int .i64)) a1.2]), (0, .box [.dat (.int .i64) a0.1, .dat (.int .i64) a0.2.1, .dat (.sl (.int .i64)) a0.2.2.1, .dat (.sl .bool) a0.2.2.2])], 2⟩ hP hN (by kernel_rfl) allNil ?_
  rcases of_bif hr with ⟨hb3, hr⟩ | ⟨hb3, hr⟩
  · refine HT.cond1 rfl hb3 ?_
    refine HT.reg1 [4] [⟨none, .no⟩] ⟨[(4, .one (.dat .bool true))], [(1, .box [.dat (.sl (.int .i64)) a1.1, .dat (.sl (.int .i64)) a1.2]), (0, .box [.dat (.int .i64) a0.1, .dat (.int .i64) a0.2.1, .dat (.sl (.int .i64)) a0.2.2.1, .dat (.sl .bool) a0.2.2.2])], 2⟩ hP hN (by kernel_rfl) allNil ?_
    have hr := of_some hr
    subst hr
    exact HT.ret (qThenR ⟨[.one (.dat .bool true)], [], [], by kernel_rfl, by kernel_rfl, rfl, (.inl rfl), by kernel_rfl, trivial⟩)
  · refine HT.cond0 rfl hb3 ?_
    refine HT.skip (qThen ?_)
    obtain ⟨y4, hc5, hr⟩ := of_bind hr
    refine HT.reg1 [2, 3, 5] [⟨none, .no⟩, ⟨none, .no⟩, ⟨none, .call [.imm (.st (.pair (.sl (.int .i64)) (.sl (.int .i64)))), .imm (.int .i64)] [⟨false, (.int .i64), y4⟩] []⟩, ⟨none, .no⟩] ⟨[(2, .one (.ptr 0 0)), (3, .one (.ptr 1 0)), (5, .one (.dat (.int .i64) y4))], [(1, .box [.dat (.sl (.int .i64)) a1.1, .dat (.sl (.int .i64)) a1.2]), (0, .box [.dat (.int .i64) a0.1, .dat (.int .i64) a0.2.1, .dat (.sl (.int .i64)) a0.2.2.1, .dat (.sl .bool) a0.2.2.2])], 2⟩ hP hN (by kernel_rfl) (allCons (f29_ok hc5) allNil) ?_
    refine HT.seq ?_
    refine HT.reg1 [2, 3, 26] [⟨none, .no⟩, ⟨none, .no⟩] ⟨[(2, .one (.ptr 0 0)), (3, .one (.ptr 1 0)), (26, .one (.dat .bool (decide (y4 < (0 : Int)))))], [(1, .box [.dat (.sl (.int .i64)) a1.1, .dat (.sl (.int .i64)) a1.2]), (0, .box [.dat (.int .i64) a0.1, .dat (.int .i64) a0.2.1, .dat (.sl (.int .i64)) a0.2.2.1, .dat (.sl .bool) a0.2.2.2])], 2⟩ hP hN (by kernel_rfl) allNil ?_
    rcases of_bif hr with ⟨hb6, hr⟩ | ⟨hb6, hr⟩
    · refine HT.cond1 rfl hb6 ?_
      refine HT.reg1 [4] [⟨none, .no⟩] ⟨[(4, .one (.dat .bool true))], [(1, .box [.dat (.sl (.int .i64)) a1.1, .dat (.sl (.int .i64)) a1.2]), (0, .box [.dat (.int .i64) a0.1, .dat (.int .i64) a0.2.1, .dat (.sl (.int .i64)) a0.2.2.1, .dat (.sl .bool) a0.2.2.2])], 2⟩ hP hN (by kernel_rfl) allNil ?_
      have hr := of_some hr
      subst hr
      exact HT.ret (qThenR ⟨[.one (.dat .bool true)], [], [], by kernel_rfl, by kernel_rfl, rfl, (.inl rfl), by kernel_rfl, trivial⟩)
    · refine HT.cond0 rfl hb6 ?_
      refine HT.skip (qThen ?_)
      obtain ⟨y7, hc8, hr⟩ := of_bind hr
      obtain ⟨y9, hc10, hr⟩ := of_bind hr
      obtain ⟨y11, hc12, hr⟩ := of_bind hr
      refine HT.drw1 [2, 3, 6, 7] 9 [⟨⟨none, .no⟩, []⟩, ⟨⟨none, .call [.imm (.st (.pair (.int .i64) (.pair (.int .i64) (.pair (.sl (.int .i64)) (.sl .bool)))))] [⟨true, (.st (.pair (.int .i64) (.pair (.int .i64) (.pair (.sl (.int .i64)) (.sl .bool))))), y7⟩] []⟩, [0]⟩, ⟨⟨none, .no⟩, []⟩, ⟨⟨none, .call [.imm (.st (.pair (.sl (.int .i64)) (.sl (.int .i64))))] [⟨true, (.st (.pair (.sl (.int .i64)) (.sl (.int .i64)))), y9⟩] []⟩, [0, 1, 2]⟩, ⟨⟨none, .call [.imm (.st (.pair (.int .i64) (.pair (.int .i64) (.pair (.sl (.int .i64)) (.sl .bool))))), .imm (.st (.pair (.sl (.int .i64)) (.sl (.int .i64))))] [⟨true, (.sl (.int .i64)), y11.1⟩, ⟨false, .bool, y11.2⟩] []⟩, [0, 1, 2, 3]⟩, ⟨⟨none, .no⟩, [0, 1, 2, 3, 4]⟩, ⟨⟨none, .no⟩, [0, 1, 2, 3, 4, 5]⟩, ⟨⟨none, .no⟩, [0, 1, 2, 3, 4, 5]⟩, ⟨⟨none, .no⟩, [0, 1, 2, 3, 4, 5, 6]⟩] [[0, 1, 2, 3, 4, 5, 6, 7, 8]] [⟨none, .no⟩] ⟨[(2, .one (.ptr 0 0)), (3, .one (.ptr 1 0)), (6, .one (.all 6)), (7, .one (.dat .bool y11.2))], [(6, .seq (.int .i64) y11.1), (4, .seq (.int .i64) y9.1), (5, .seq (.int .i64) y9.2), (2, .seq (.int .i64) y7.2.2.1), (3, .seq .bool y7.2.2.2), (1, .box [.dat (.sl (.int .i64)) a1.1, .dat (.sl (.int .i64)) a1.2]), (0, .box [.dat (.int .i64) a0.1, .dat (.int .i64) a0.2.1, .dat (.sl (.int .i64)) a0.2.2.1, .dat (.sl .bool) a0.2.2.2])], 7⟩ hP hN (by kernel_rfl) (by kernel_rfl) (allCons (f31_ok hc8) (allCons (f32_ok hc10) (allCons (f52_ok hc12) allNil))) ?_
      obtain ⟨y13, hc14, hr⟩ := of_bind hr
      refine HT.reg1 [2, 3, 6, 7, 8] [⟨none, .no⟩, ⟨none, .call [.imm (.st (.pair (.int .i64) (.pair (.int .i64) (.pair (.sl (.int .i64)) (.sl .bool)))))] [⟨true, (.st (.pair (.int .i64) (.pair (.int .i64) (.pair (.sl (.int .i64)) (.sl .bool))))), y13⟩] []⟩, ⟨none, .no⟩, ⟨none, .no⟩] ⟨[(2, .one (.ptr 0 0)), (3, .one (.ptr 1 0)), (6, .one (.all 6)), (7, .one (.dat .bool y11.2)), (8, .one (.ptr 9 0))], [(9, .box [.dat (.int .i64) y13.1, .dat (.int .i64) y13.2.1, .all 7, .all 8]), (9, .box [.dat (.int .i64) (0 : Int), .dat (.int .i64) (0 : Int), .nilS, .nilS]), (7, .seq (.int .i64) y13.2.2.1), (8, .seq .bool y13.2.2.2), (6, .seq (.int .i64) y11.1), (4, .seq (.int .i64) y9.1), (5, .seq (.int .i64) y9.2), (2, .seq (.int .i64) y7.2.2.1), (3, .seq .bool y7.2.2.2), (1, .box [.dat (.sl (.int .i64)) a1.1, .dat (.sl (.int .i64)) a1.2]), (0, .box [.dat (.int .i64) a0.1, .dat (.int .i64) a0.2.1, .dat (.sl (.int .i64)) a0.2.2.1, .dat (.sl .bool) a0.2.2.2])], 10⟩ hP hN (by kernel_rfl) (allCons (f31_ok hc14) allNil) ?_
      obtain ⟨y15, hc16, hr⟩ := of_bind hr
      refine HT.reg1 [2, 3, 6, 7, 8, 9] [⟨none, .no⟩, ⟨none, .call [.imm (.st (.pair (.sl (.int .i64)) (.sl (.int .i64))))] [⟨true, (.st (.pair (.sl (.int .i64)) (.sl (.int .i64)))), y15⟩] []⟩, ⟨none, .no⟩, ⟨none, .no⟩] ⟨[(2, .one (.ptr 0 0)), (3, .one (.ptr 1 0)), (6, .one (.all 6)), (7, .one (.dat .bool y11.2)), (8, .one (.ptr 9 0)), (9, .one (.ptr 12 0))], [(12, .box [.all 10, .all 11]), (12, .box [.nilS, .nilS]), (10, .seq (.int .i64) y15.1), (11, .seq (.int .i64) y15.2), (9, .box [.dat (.int .i64) y13.1, .dat (.int .i64) y13.2.1, .all 7, .all 8]), (9, .box [.dat (.int .i64) (0 : Int), .dat (.int .i64) (0 : Int), .nilS, .nilS]), (7, .seq (.int .i64) y13.2.2.1), (8, .seq .bool y13.2.2.2), (6, .seq (.int .i64) y11.1), (4, .seq (.int .i64) y9.1), (5, .seq (.int .i64) y9.2), (2, .seq (.int .i64) y7.2.2.1), (3, .seq .bool y7.2.2.2), (1, .box [.dat (.sl (.int .i64)) a1.1, .dat (.sl (.int .i64)) a1.2]), (0, .box [.dat (.int .i64) a0.1, .dat (.int .i64) a0.2.1, .dat (.sl (.int .i64)) a0.2.2.1, .dat (.sl .bool) a0.2.2.2])], 13⟩ hP hN (by kernel_rfl) (allCons (f32_ok hc16) allNil) ?_
      obtain ⟨y17, hc18, hr⟩ := of_bind hr
      refine HT.reg1 [2, 3, 6, 7, 8, 9, 10, 11] [⟨none, .no⟩, ⟨none, .no⟩, ⟨none, .call [.imm (.st (.pair (.int .i64) (.pair (.int .i64) (.pair (.sl (.int .i64)) (.sl .bool))))), .imm (.st (.pair (.sl (.int .i64)) (.sl (.int .i64))))] [⟨true, (.sl (.int .i64)), y17.1⟩, ⟨false, .bool, y17.2⟩] []⟩, ⟨none, .no⟩, ⟨none, .no⟩, ⟨none, .no⟩, ⟨none, .no⟩, ⟨none, .no⟩] ⟨[(2, .one (.ptr 0 0)), (3, .one (.ptr 1 0)), (6, .one (.all 6)), (7, .one (.dat .bool y11.2)), (8, .one (.ptr 9 0)), (9, .one (.ptr 12 0)), (10, .one (.all 13)), (11, .one (.dat .bool y17.2))], [(13, .seq (.int .i64) y17.1), (12, .box [.all 10, .all 11]), (12, .box [.nilS, .nilS]), (10, .seq (.int .i64) y15.1), (11, .seq (.int .i64) y15.2), (9, .box [.dat (.int .i64) y13.1, .dat (.int .i64) y13.2.1, .all 7, .all 8]), (9, .box [.dat (.int .i64) (0 : Int), .dat (.int .i64) (0 : Int), .nilS, .nilS]), (7, .seq (.int .i64) y13.2.2.1), (8, .seq .bool y13.2.2.2), (6, .seq (.int .i64) y11.1), (4, .seq (.int .i64) y9.1), (5, .seq (.int .i64) y9.2), (2, .seq (.int .i64) y7.2.2.1), (3, .seq .bool y7.2.2.2), (1, .box [.dat (.sl (.int .i64)) a1.1, .dat (.sl (.int .i64)) a1.2]), (0, .box [.dat (.int .i64) a0.1, .dat (.int .i64) a0.2.1, .dat (.sl (.int .i64)) a0.2.2.1, .dat (.sl .bool) a0.2.2.2])], 14⟩ hP hN (by kernel_rfl) (allCons (f53_ok hc18) allNil) ?_
      refine HT.seq ?_
      obtain ⟨v19', hT21, hr⟩ := of_bind hr
      refine HT.join (fun (v19 : Bool) => ⟨[(2, .one (.ptr 0 0)), (3, .one (.ptr 1 0)), (6, .one (.all 2)), (7, .one (.dat .bool y11.2)), (8, .one (.ptr 3 0)), (9, .one (.ptr 4 0)), (10, .one (.all 5)), (11, .one (.dat .bool y17.2)), (53, .one (.dat .bool v19))], [(0, .box [.dat (.int .i64) a0.1, .dat (.int .i64) a0.2.1, .dat (.sl (.int .i64)) a0.2.2.1, .dat (.sl .bool) a0.2.2.2]), (1, .box [.dat (.sl (.int .i64)) a1.1, .dat (.sl (.int .i64)) a1.2]), (2, .seq (.int .i64) y11.1), (3, .box [.dat (.int .i64) y13.1, .dat (.int .i64) y13.2.1, .all 6, .all 7]), (4, .box [.all 8, .all 9]), (5, .seq (.int .i64) y17.1), (6, .seq (.int .i64) y13.2.2.1), (7, .seq .bool y13.2.2.2), (8, .seq (.int .i64) y15.1), (9, .seq (.int .i64) y15.2)], 10⟩) (fun v => v = v19') (fun v19 hv20 => ?_) (fun cont => ?_)
      · subst hv20
        rcases of_bif hr with ⟨hb22, hr⟩ | ⟨hb22, hr⟩
        · refine HT.cond1 rfl hb22 ?_
          refine HT.reg1 [4] [⟨none, .no⟩] ⟨[(4, .one (.dat .bool false))], [(0, .box [.dat (.int .i64) a0.1, .dat (.int .i64) a0.2.1, .dat (.sl (.int .i64)) a0.2.2.1, .dat (.sl .bool) a0.2.2.2]), (1, .box [.dat (.sl (.int .i64)) a1.1, .dat (.sl (.int .i64)) a1.2]), (2, .seq (.int .i64) y11.1), (3, .box [.dat (.int .i64) y13.1, .dat (.int .i64) y13.2.1, .all 6, .all 7]), (4, .box [.all 8, .all 9]), (5, .seq (.int .i64) y17.1), (6, .seq (.int .i64) y13.2.2.1), (7, .seq .bool y13.2.2.2), (8, .seq (.int .i64) y15.1), (9, .seq (.int .i64) y15.2)], 10⟩ hP hN (by kernel_rfl) allNil ?_
          have hr := of_some hr
          subst hr
          exact HT.ret (qThenR ⟨[.one (.dat .bool false)], [], [], by kernel_rfl, by kernel_rfl, rfl, (.inl rfl), by kernel_rfl, trivial⟩)
        · refine HT.cond0 rfl hb22 ?_
          refine HT.skip (qThen ?_)
          refine HT.seq ?_
          obtain ⟨y23, hc24, hr⟩ := of_bind hr
          obtain ⟨y25, hc26, hr⟩ := of_bind hr
          refine HT.drw1 [2, 3, 6, 7, 8, 9, 10, 11, 58] 3 [⟨⟨none, .no⟩, []⟩, ⟨⟨none, .no⟩, []⟩, ⟨⟨none, .call [.imm (.st (.pair (.int .i64) (.pair (.int .i64) (.pair (.sl (.int .i64)) (.sl .bool)))))] [⟨true, (.st (.pair (.int .i64) (.pair (.int .i64) (.pair (.sl (.int .i64)) (.sl .bool))))), y23⟩] []⟩, [1]⟩] [[0, 1, 2], [0, 1, 2, 3]] [⟨none, .call [.imm (.st (.pair (.int .i64) (.pair (.int .i64) (.pair (.sl (.int .i64)) (.sl .bool))))), .imm (.st (.pair (.int .i64) (.pair (.int .i64) (.pair (.sl (.int .i64)) (.sl .bool)))))] [⟨false, .bool, y25⟩] []⟩, ⟨none, .no⟩] ⟨[(2, .one (.ptr 0 0)), (3, .one (.ptr 1 0)), (6, .one (.all 2)), (7, .one (.dat .bool y11.2)), (8, .one (.ptr 3 0)), (9, .one (.ptr 4 0)), (10, .one (.all 5)), (11, .one (.dat .bool y17.2)), (58, .one (.dat .bool (!y25)))], [(10, .seq (.int .i64) y23.2.2.1), (11, .seq .bool y23.2.2.2), (0, .box [.dat (.int .i64) a0.1, .dat (.int .i64) a0.2.1, .dat (.sl (.int .i64)) a0.2.2.1, .dat (.sl .bool) a0.2.2.2]), (1, .box [.dat (.sl (.int .i64)) a1.1, .dat (.sl (.int .i64)) a1.2]), (2, .seq (.int .i64) y11.1), (3, .box [.dat (.int .i64) y13.1, .dat (.int .i64) y13.2.1, .all 6, .all 7]), (4, .box [.all 8, .all 9]), (5, .seq (.int .i64) y17.1), (6, .seq (.int .i64) y13.2.2.1), (7, .seq .bool y13.2.2.2), (8, .seq (.int .i64) y15.1), (9, .seq (.int .i64) y15.2)], 12⟩ hP hN (by kernel_rfl) (by kernel_rfl) (allCons (f31_ok hc24) (allCons (f34_ok hc26) allNil)) ?_
          rcases of_bif hr with ⟨hb27, hr⟩ | ⟨hb27, hr⟩
          · refine HT.cond1 rfl hb27 ?_
            refine HT.reg1 [4] [⟨none, .no⟩] ⟨[(4, .one (.dat .bool false))], [(10, .seq (.int .i64) y23.2.2.1), (11, .seq .bool y23.2.2.2), (0, .box [.dat (.int .i64) a0.1, .dat (.int .i64) a0.2.1, .dat (.sl (.int .i64)) a0.2.2.1, .dat (.sl .bool) a0.2.2.2]), (1, .box [.dat (.sl (.int .i64)) a1.1, .dat (.sl (.int .i64)) a1.2]), (2, .seq (.int .i64) y11.1), (3, .box [.dat (.int .i64) y13.1, .dat (.int .i64) y13.2.1, .all 6, .all 7]), (4, .box [.all 8, .all 9]), (5, .seq (.int .i64) y17.1), (6, .seq (.int .i64) y13.2.2.1), (7, .seq .bool y13.2.2.2), (8, .seq (.int .i64) y15.1), (9, .seq (.int .i64) y15.2)], 12⟩ hP hN (by kernel_rfl) allNil ?_
            have hr := of_some hr
            subst hr
            exact HT.ret (qThenR ⟨[.one (.dat .bool false)], [], [], by kernel_rfl, by kernel_rfl, rfl, (.inl rfl), by kernel_rfl, trivial⟩)
          · refine HT.cond0 rfl hb27 ?_
            refine HT.skip (qThen ?_)
            refine HT.seq ?_
            obtain ⟨y28, hc29, hr⟩ := of_bind hr
            obtain ⟨y30, hc31, hr⟩ := of_bind hr
            refine HT.drw1 [2, 3, 6, 7, 8, 9, 10, 11, 63] 3 [⟨⟨none, .no⟩, []⟩, ⟨⟨none, .no⟩, []⟩, ⟨⟨none, .call [.imm (.st (.pair (.sl (.int .i64)) (.sl (.int .i64))))] [⟨true, (.st (.pair (.sl (.int .i64)) (.sl (.int .i64)))), y28⟩] []⟩, [1]⟩] [[0, 1, 2], [0, 1, 2, 3]] [⟨none, .call [.imm (.st (.pair (.sl (.int .i64)) (.sl (.int .i64)))), .imm (.st (.pair (.sl (.int .i64)) (.sl (.int .i64))))] [⟨false, .bool, y30⟩] []⟩, ⟨none, .no⟩] ⟨[(2, .one (.ptr 0 0)), (3, .one (.ptr 1 0)), (6, .one (.all 2)), (7, .one (.dat .bool y11.2)), (8, .one (.ptr 3 0)), (9, .one (.ptr 4 0)), (10, .one (.all 5)), (11, .one (.dat .bool y17.2)), (63, .one (.dat .bool (!y30)))], [(12, .seq (.int .i64) y28.1), (13, .seq (.int .i64) y28.2), (10, .seq (.int .i64) y23.2.2.1), (11, .seq .bool y23.2.2.2), (0, .box [.dat (.int .i64) a0.1, .dat (.int .i64) a0.2.1, .dat (.sl (.int .i64)) a0.2.2.1, .dat (.sl .bool) a0.2.2.2]), (1, .box [.dat (.sl (.int .i64)) a1.1, .dat (.sl (.int .i64)) a1.2]), (2, .seq (.int .i64) y11.1), (3, .box [.dat (.int .i64) y13.1, .dat (.int .i64) y13.2.1, .all 6, .all 7]), (4, .box [.all 8, .all 9]), (5, .seq (.int .i64) y17.1), (6, .seq (.int .i64) y13.2.2.1), (7, .seq .bool y13.2.2.2), (8, .seq (.int .i64) y15.1), (9, .seq (.int .i64) y15.2)], 14⟩ hP hN (by kernel_rfl) (by kernel_rfl) (allCons (f32_ok hc29) (allCons (f35_ok hc31) allNil)) ?_
            rcases of_bif hr with ⟨hb32, hr⟩ | ⟨hb32, hr⟩
            · refine HT.cond1 rfl hb32 ?_
              refine HT.reg1 [4] [⟨none, .no⟩] ⟨[(4, .one (.dat .bool false))], [(12, .seq (.int .i64) y28.1), (13, .seq (.int .i64) y28.2), (10, .seq (.int .i64) y23.2.2.1), (11, .seq .bool y23.2.2.2), (0, .box [.dat (.int .i64) a0.1, .dat (.int .i64) a0.2.1, .dat (.sl (.int .i64)) a0.2.2.1, .dat (.sl .bool) a0.2.2.2]), (1, .box [.dat (.sl (.int .i64)) a1.1, .dat (.sl (.int .i64)) a1.2]), (2, .seq (.int .i64) y11.1), (3, .box [.dat (.int .i64) y13.1, .dat (.int .i64) y13.2.1, .all 6, .all 7]), (4, .box [.all 8, .all 9]), (5, .seq (.int .i64) y17.1), (6, .seq (.int .i64) y13.2.2.1), (7, .seq .bool y13.2.2.2), (8, .seq (.int .i64) y15.1), (9, .seq (.int .i64) y15.2)], 14⟩ hP hN (by kernel_rfl) allNil ?_
              have hr := of_some hr
              subst hr
              exact HT.ret (qThenR ⟨[.one (.dat .bool false)], [], [], by kernel_rfl, by kernel_rfl, rfl, (.inl rfl), by kernel_rfl, trivial⟩)
            · refine HT.cond0 rfl hb32 ?_
              refine HT.skip (qThen ?_)
              refine HT.reg1 [2, 3, 6, 7, 8, 9, 10, 11, 12] [⟨none, .no⟩] ⟨[(2, .one (.ptr 0 0)), (3, .one (.ptr 1 0)), (6, .one (.all 2)), (7, .one (.dat .bool y11.2)), (8, .one (.ptr 3 0)), (9, .one (.ptr 4 0)), (10, .one (.all 5)), (11, .one (.dat .bool y17.2)), (12, .one (.dat (.int .i64) (1 : Int)))], [(12, .seq (.int .i64) y28.1), (13, .seq (.int .i64) y28.2), (10, .seq (.int .i64) y23.2.2.1), (11, .seq .bool y23.2.2.2), (0, .box [.dat (.int .i64) a0.1, .dat (.int .i64) a0.2.1, .dat (.sl (.int .i64)) a0.2.2.1, .dat (.sl .bool) a0.2.2.2]), (1, .box [.dat (.sl (.int .i64)) a1.1, .dat (.sl (.int .i64)) a1.2]), (2, .seq (.int .i64) y11.1), (3, .box [.dat (.int .i64) y13.1, .dat (.int .i64) y13.2.1, .all 6, .all 7]), (4, .box [.all 8, .all 9]), (5, .seq (.int .i64) y17.1), (6, .seq (.int .i64) y13.2.2.1), (7, .seq .bool y13.2.2.2), (8, .seq (.int .i64) y15.1), (9, .seq (.int .i64) y15.2)], 14⟩ hP hN (by kernel_rfl) allNil ?_
              obtain ⟨y33, hc34, hr⟩ := of_bind hr
              refine HT.reg1 [2, 3, 6, 7, 9, 10, 11, 12] [⟨none, .no⟩, ⟨none, .no⟩, ⟨none, .call [.own (.st (.pair (.int .i64) (.pair (.int .i64) (.pair (.sl (.int .i64)) (.sl .bool))))), .imm (.int .i64)] [⟨false, (.int .i64), y33.1⟩] [⟨(.st (.pair (.int .i64) (.pair (.int .i64) (.pair (.sl (.int .i64)) (.sl .bool))))), y33.2⟩]⟩, ⟨none, .no⟩] ⟨[(2, .one (.ptr 0 0)), (3, .one (.ptr 1 0)), (6, .one (.all 2)), (7, .one (.dat .bool y11.2)), (9, .one (.ptr 4 0)), (10, .one (.all 5)), (11, .one (.dat .bool y17.2)), (12, .one (.dat (.int .i64) y33.1))], [(6, .seq (.int .i64) y33.2.2.2.1), (7, .seq .bool y33.2.2.2.2), (12, .seq (.int .i64) y28.1), (13, .seq (.int .i64) y28.2), (10, .seq (.int .i64) y23.2.2.1), (11, .seq .bool y23.2.2.2), (0, .box [.dat (.int .i64) a0.1, .dat (.int .i64) a0.2.1, .dat (.sl (.int .i64)) a0.2.2.1, .dat (.sl .bool) a0.2.2.2]), (1, .box [.dat (.sl (.int .i64)) a1.1, .dat (.sl (.int .i64)) a1.2]), (2, .seq (.int .i64) y11.1), (3, .box [.dat (.int .i64) y13.1, .dat (.int .i64) y13.2.1, .all 6, .all 7]), (4, .box [.all 8, .all 9]), (5, .seq (.int .i64) y17.1), (6, .seq (.int .i64) y13.2.2.1), (7, .seq .bool y13.2.2.2), (8, .seq (.int .i64) y15.1), (9, .seq (.int .i64) y15.2)], 14⟩ hP hN (by kernel_rfl) (allCons (f54_ok hc34) allNil) ?_
              obtain ⟨y35, hc36, hr⟩ := of_bind hr
              refine HT.reg1 [2, 3, 6, 7, 10, 11, 12] [⟨none, .no⟩, ⟨none, .no⟩, ⟨none, .call [.own (.st (.pair (.sl (.int .i64)) (.sl (.int .i64)))), .imm (.int .i64)] [⟨false, (.int .i64), y35.1⟩] [⟨(.st (.pair (.sl (.int .i64)) (.sl (.int .i64)))), y35.2⟩]⟩, ⟨none, .no⟩] ⟨[(2, .one (.ptr 0 0)), (3, .one (.ptr 1 0)), (6, .one (.all 2)), (7, .one (.dat .bool y11.2)), (10, .one (.all 5)), (11, .one (.dat .bool y17.2)), (12, .one (.dat (.int .i64) y35.1))], [(8, .seq (.int .i64) y35.2.1), (9, .seq (.int .i64) y35.2.2), (6, .seq (.int .i64) y33.2.2.2.1), (7, .seq .bool y33.2.2.2.2), (12, .seq (.int .i64) y28.1), (13, .seq (.int .i64) y28.2), (10, .seq (.int .i64) y23.2.2.1), (11, .seq .bool y23.2.2.2), (0, .box [.dat (.int .i64) a0.1, .dat (.int .i64) a0.2.1, .dat (.sl (.int .i64)) a0.2.2.1, .dat (.sl .bool) a0.2.2.2]), (1, .box [.dat (.sl (.int .i64)) a1.1, .dat (.sl (.int .i64)) a1.2]), (2, .seq (.int .i64) y11.1), (3, .box [.dat (.int .i64) y13.1, .dat (.int .i64) y13.2.1, .all 6, .all 7]), (4, .box [.all 8, .all 9]), (5, .seq (.int .i64) y17.1), (6, .seq (.int .i64) y13.2.2.1), (7, .seq .bool y13.2.2.2), (8, .seq (.int .i64) y15.1), (9, .seq (.int .i64) y15.2)], 14⟩ hP hN (by kernel_rfl) (allCons (f55_ok hc36) allNil) ?_
              refine HT.seq ?_
              obtain ⟨v37', hT39, hr⟩ := of_bind hr
              refine HT.join (fun (v37 : Bool) => ⟨[(2, .one (.ptr 0 0)), (3, .one (.ptr 1 0)), (6, .one (.all 2)), (7, .one (.dat .bool y11.2)), (10, .one (.all 3)), (82, .one (.dat .bool v37))], [(0, .box [.dat (.int .i64) a0.1, .dat (.int .i64) a0.2.1, .dat (.sl (.int .i64)) a0.2.2.1, .dat (.sl .bool) a0.2.2.2]), (1, .box [.dat (.sl (.int .i64)) a1.1, .dat (.sl (.int .i64)) a1.2]), (2, .seq (.int .i64) y11.1), (3, .seq (.int .i64) y17.1)], 4⟩) (fun v => v = v37') (fun v37 hv38 => ?_) (fun cont => ?_)
              · subst hv38
                rcases of_bif hr with ⟨hb40, hr⟩ | ⟨hb40, hr⟩
                · refine HT.cond1 rfl hb40 ?_
                  refine HT.reg1 [4] [⟨none, .no⟩] ⟨[(4, .one (.dat .bool false))], [(0, .box [.dat (.int .i64) a0.1, .dat (.int .i64) a0.2.1, .dat (.sl (.int .i64)) a0.2.2.1, .dat (.sl .bool) a0.2.2.2]), (1, .box [.dat (.sl (.int .i64)) a1.1, .dat (.sl (.int .i64)) a1.2]), (2, .seq (.int .i64) y11.1), (3, .seq (.int .i64) y17.1)], 4⟩ hP hN (by kernel_rfl) allNil ?_
                  have hr := of_some hr
                  subst hr
                  exact HT.ret (qThenR ⟨[.one (.dat .bool false)], [], [], by kernel_rfl, by kernel_rfl, rfl, (.inl rfl), by kernel_rfl, trivial⟩)
                · refine HT.cond0 rfl hb40 ?_
                  refine HT.skip (qThen ?_)
                  refine HT.reg1 [2, 3, 6, 7, 10, 13] [⟨none, .no⟩] ⟨[(2, .one (.ptr 0 0)), (3, .one (.ptr 1 0)), (6, .one (.all 2)), (7, .one (.dat .bool y11.2)), (10, .one (.all 3)), (13, .one (.dat (.int .i64) (1 : Int)))], [(0, .box [.dat (.int .i64) a0.1, .dat (.int .i64) a0.2.1, .dat (.sl (.int .i64)) a0.2.2.1, .dat (.sl .bool) a0.2.2.2]), (1, .box [.dat (.sl (.int .i64)) a1.1, .dat (.sl (.int .i64)) a1.2]), (2, .seq (.int .i64) y11.1), (3, .seq (.int .i64) y17.1)], 4⟩ hP hN (by kernel_rfl) allNil ?_
                  obtain ⟨y41, hc42, hr⟩ := of_bind hr
                  refine HT.reg1 [2, 3, 6, 7, 10, 13] [⟨none, .no⟩, ⟨none, .no⟩, ⟨none, .call [.own (.sl (.int .i64)), .imm (.int .i64)] [⟨false, (.int .i64), y41.1⟩] [⟨(.sl (.int .i64)), y41.2⟩]⟩, ⟨none, .no⟩] ⟨[(2, .one (.ptr 0 0)), (3, .one (.ptr 1 0)), (6, .one (.all 2)), (7, .one (.dat .bool y11.2)), (10, .one (.all 3)), (13, .one (.dat (.int .i64) y41.1))], [(3, .seq (.int .i64) y41.2), (0, .box [.dat (.int .i64) a0.1, .dat (.int .i64) a0.2.1, .dat (.sl (.int .i64)) a0.2.2.1, .dat (.sl .bool) a0.2.2.2]), (1, .box [.dat (.sl (.int .i64)) a1.1, .dat (.sl (.int .i64)) a1.2]), (2, .seq (.int .i64) y11.1), (3, .seq (.int .i64) y17.1)], 4⟩ hP hN (by kernel_rfl) (allCons (f56_ok hc42) allNil) ?_
                  refine HT.reg1 [2, 3, 6, 7, 10, 13, 14] [⟨none, .no⟩] ⟨[(2, .one (.ptr 0 0)), (3, .one (.ptr 1 0)), (6, .one (.all 2)), (7, .one (.dat .bool y11.2)), (10, .one (.all 3)), (13, .one (.dat (.int .i64) y41.1)), (14, .one (.dat (.int .i64) (1 : Int)))], [(3, .seq (.int .i64) y41.2), (0, .box [.dat (.int .i64) a0.1, .dat (.int .i64) a0.2.1, .dat (.sl (.int .i64)) a0.2.2.1, .dat (.sl .bool) a0.2.2.2]), (1, .box [.dat (.sl (.int .i64)) a1.1, .dat (.sl (.int .i64)) a1.2]), (2, .seq (.int .i64) y11.1), (3, .seq (.int .i64) y17.1)], 4⟩ hP hN (by kernel_rfl) allNil ?_
                  obtain ⟨y43, hc44, hr⟩ := of_bind hr
                  refine HT.reg1 [2, 3, 6, 7, 10, 13, 14] [⟨none, .no⟩, ⟨none, .no⟩, ⟨none, .call [.imm (.sl (.int .i64)), .imm (.int .i64)] [⟨false, (.int .i64), y43⟩] []⟩, ⟨none, .no⟩] ⟨[(2, .one (.ptr 0 0)), (3, .one (.ptr 1 0)), (6, .one (.all 2)), (7, .one (.dat .bool y11.2)), (10, .one (.all 3)), (13, .one (.dat (.int .i64) y41.1)), (14, .one (.dat (.int .i64) y43))], [(3, .seq (.int .i64) y41.2), (0, .box [.dat (.int .i64) a0.1, .dat (.int .i64) a0.2.1, .dat (.sl (.int .i64)) a0.2.2.1, .dat (.sl .bool) a0.2.2.2]), (1, .box [.dat (.sl (.int .i64)) a1.1, .dat (.sl (.int .i64)) a1.2]), (2, .seq (.int .i64) y11.1), (3, .seq (.int .i64) y17.1)], 4⟩ hP hN (by kernel_rfl) (allCons (f57_ok hc44) allNil) ?_
                  refine HT.seq ?_
                  refine HT.reg1 [2, 3, 6, 7, 10, 13, 14, 90] [⟨none, .no⟩, ⟨none, .no⟩] ⟨[(2, .one (.ptr 0 0)), (3, .one (.ptr 1 0)), (6, .one (.all 2)), (7, .one (.dat .bool y11.2)), (10, .one (.all 3)), (13, .one (.dat (.int .i64) y41.1)), (14, .one (.dat (.int .i64) y43)), (90, .one (.dat .bool (decide (y43 < (0 : Int)))))], [(3, .seq (.int .i64) y41.2), (0, .box [.dat (.int .i64) a0.1, .dat (.int .i64) a0.2.1, .dat (.sl (.int .i64)) a0.2.2.1, .dat (.sl .bool) a0.2.2.2]), (1, .box [.dat (.sl (.int .i64)) a1.1, .dat (.sl (.int .i64)) a1.2]), (2, .seq (.int .i64) y11.1), (3, .seq (.int .i64) y17.1)], 4⟩ hP hN (by kernel_rfl) allNil ?_
                  rcases of_bif hr with ⟨hb45, hr⟩ | ⟨hb45, hr⟩
                  · refine HT.cond1 rfl hb45 ?_
                    refine HT.reg1 [4] [⟨none, .no⟩] ⟨[(4, .one (.dat .bool false))], [(3, .seq (.int .i64) y41.2), (0, .box [.dat (.int .i64) a0.1, .dat (.int .i64) a0.2.1, .dat (.sl (.int .i64)) a0.2.2.1, .dat (.sl .bool) a0.2.2.2]), (1, .box [.dat (.sl (.int .i64)) a1.1, .dat (.sl (.int .i64)) a1.2]), (2, .seq (.int .i64) y11.1), (3, .seq (.int .i64) y17.1)], 4⟩ hP hN (by kernel_rfl) allNil ?_
                    have hr := of_some hr
                    subst hr
                    exact HT.ret (qThenR ⟨[.one (.dat .bool false)], [], [], by kernel_rfl, by kernel_rfl, rfl, (.inl rfl), by kernel_rfl, trivial⟩)
                  · refine HT.cond0 rfl hb45 ?_
                    refine HT.skip (qThen ?_)
                    refine HT.seq ?_
                    refine HT.reg1 [2, 3, 6, 7, 10, 13, 93] [⟨none, .no⟩, ⟨none, .no⟩, ⟨none, .no⟩] ⟨[(2, .one (.ptr 0 0)), (3, .one (.ptr 1 0)), (6, .one (.all 2)), (7, .one (.dat .bool y11.2)), (10, .one (.all 3)), (13, .one (.dat (.int .i64) y41.1)), (93, .one (.dat .bool (y43 != y41.1)))], [(3, .seq (.int .i64) y41.2), (0, .box [.dat (.int .i64) a0.1, .dat (.int .i64) a0.2.1, .dat (.sl (.int .i64)) a0.2.2.1, .dat (.sl .bool) a0.2.2.2]), (1, .box [.dat (.sl (.int .i64)) a1.1, .dat (.sl (.int .i64)) a1.2]), (2, .seq (.int .i64) y11.1), (3, .seq (.int .i64) y17.1)], 4⟩ hP hN (by kernel_rfl) allNil ?_
                    rcases of_bif hr with ⟨hb46, hr⟩ | ⟨hb46, hr⟩
                    · refine HT.cond1 rfl hb46 ?_
                      refine HT.reg1 [4] [⟨none, .no⟩] ⟨[(4, .one (.dat .bool false))], [(3, .seq (.int .i64) y41.2), (0, .box [.dat (.int .i64) a0.1, .dat (.int .i64) a0.2.1, .dat (.sl (.int .i64)) a0.2.2.1, .dat (.sl .bool) a0.2.2.2]), (1, .box [.dat (.sl (.int .i64)) a1.1, .dat (.sl (.int .i64)) a1.2]), (2, .seq (.int .i64) y11.1), (3, .seq (.int .i64) y17.1)], 4⟩ hP hN (by kernel_rfl) allNil ?_
                      have hr := of_some hr
                      subst hr
                      exact HT.ret (qThenR ⟨[.one (.dat .bool false)], [], [], by kernel_rfl, by kernel_rfl, rfl, (.inl rfl), by kernel_rfl, trivial⟩)
                    · refine HT.cond0 rfl hb46 ?_
                      refine HT.skip (qThen ?_)
                      obtain ⟨y47, hc48, hr⟩ := of_bind hr
                      obtain ⟨y49, hc50, hr⟩ := of_bind hr
                      obtain ⟨y51, hc52, hr⟩ := of_bind hr
                      refine HT.drw1 [6, 7, 10, 13, 15, 16] 9 [⟨⟨none, .no⟩, []⟩, ⟨⟨none, .call [.imm (.st (.pair (.int .i64) (.pair (.int .i64) (.pair (.sl (.int .i64)) (.sl .bool)))))] [⟨true, (.st (.pair (.int .i64) (.pair (.int .i64) (.pair (.sl (.int .i64)) (.sl .bool))))), y47⟩] []⟩, [0]⟩, ⟨⟨none, .no⟩, []⟩, ⟨⟨none, .call [.imm (.st (.pair (.sl (.int .i64)) (.sl (.int .i64))))] [⟨true, (.st (.pair (.sl (.int .i64)) (.sl (.int .i64)))), y49⟩] []⟩, [0, 1, 2]⟩, ⟨⟨none, .call [.imm (.st (.pair (.int .i64) (.pair (.int .i64) (.pair (.sl (.int .i64)) (.sl .bool))))), .imm (.st (.pair (.sl (.int .i64)) (.sl (.int .i64))))] [⟨true, (.sl (.int .i64)), y51.1⟩, ⟨false, .bool, y51.2⟩] []⟩, [0, 1, 2, 3]⟩, ⟨⟨none, .no⟩, [0, 1, 2, 3, 4]⟩, ⟨⟨none, .no⟩, [0, 1, 2, 3, 4, 5]⟩, ⟨⟨none, .no⟩, [0, 1, 2, 3, 4, 5]⟩, ⟨⟨none, .no⟩, [0, 1, 2, 3, 4, 5, 6]⟩] [[0, 1, 2, 3, 4, 5, 6, 7, 8]] [⟨none, .no⟩] ⟨[(6, .one (.all 2)), (7, .one (.dat .bool y11.2)), (10, .one (.all 3)), (13, .one (.dat (.int .i64) y41.1)), (15, .one (.all 8)), (16, .one (.dat .bool y51.2))], [(8, .seq (.int .i64) y51.1), (6, .seq (.int .i64) y49.1), (7, .seq (.int .i64) y49.2), (4, .seq (.int .i64) y47.2.2.1), (5, .seq .bool y47.2.2.2), (3, .seq (.int .i64) y41.2), (0, .box [.dat (.int .i64) a0.1, .dat (.int .i64) a0.2.1, .dat (.sl (.int .i64)) a0.2.2.1, .dat (.sl .bool) a0.2.2.2]), (1, .box [.dat (.sl (.int .i64)) a1.1, .dat (.sl (.int .i64)) a1.2]), (2, .seq (.int .i64) y11.1), (3, .seq (.int .i64) y17.1)], 9⟩ hP hN (by kernel_rfl) (by kernel_rfl) (allCons (f31_ok hc48) (allCons (f32_ok hc50) (allCons (f53_ok hc52) allNil))) ?_
                      refine HT.seq ?_
                      obtain ⟨v53', hT55, hr⟩ := of_bind hr
                      refine HT.join (fun (v53 : Bool) => ⟨[(10, .one (.all 0)), (13, .one (.dat (.int .i64) y41.1)), (110, .one (.dat .bool v53))], [(0, .seq (.int .i64) y41.2)], 1⟩) (fun v => v = v53') (fun v53 hv54 => ?_) (fun cont => ?_)
                      · subst hv54
                        rcases of_bif hr with ⟨hb56, hr⟩ | ⟨hb56, hr⟩
                        · refine HT.cond1 rfl hb56 ?_
                          refine HT.reg1 [4] [⟨none, .no⟩] ⟨[(4, .one (.dat .bool false))], [(0, .seq (.int .i64) y41.2)], 1⟩ hP hN (by kernel_rfl) allNil ?_
                          have hr := of_some hr
                          subst hr
                          exact HT.ret (qThenR ⟨[.one (.dat .bool false)], [], [], by kernel_rfl, by kernel_rfl, rfl, (.inl rfl), by kernel_rfl, trivial⟩)
                        · refine HT.cond0 rfl hb56 ?_
                          refine HT.skip (qThen ?_)
                          refine HT.reg1 [10, 13, 14] [⟨none, .no⟩] ⟨[(10, .one (.all 0)), (13, .one (.dat (.int .i64) y41.1)), (14, .one (.dat (.int .i64) (1 : Int)))], [(0, .seq (.int .i64) y41.2)], 1⟩ hP hN (by kernel_rfl) allNil ?_
                          obtain ⟨y57, hc58, hr⟩ := of_bind hr
                          refine HT.reg1 [13, 14] [⟨none, .no⟩, ⟨none, .no⟩, ⟨none, .call [.imm (.sl (.int .i64)), .imm (.int .i64)] [⟨false, (.int .i64), y57⟩] []⟩, ⟨none, .no⟩] ⟨[(13, .one (.dat (.int .i64) y41.1)), (14, .one (.dat (.int .i64) y57))], [(0, .seq (.int .i64) y41.2)], 1⟩ hP hN (by kernel_rfl) (allCons (f57_ok hc58) allNil) ?_
                          refine HT.seq ?_
                          refine HT.reg1 [13, 14, 115] [⟨none, .no⟩, ⟨none, .no⟩] ⟨[(13, .one (.dat (.int .i64) y41.1)), (14, .one (.dat (.int .i64) y57)), (115, .one (.dat .bool (decide (y57 < (0 : Int)))))], [(0, .seq (.int .i64) y41.2)], 1⟩ hP hN (by kernel_rfl) allNil ?_
                          rcases of_bif hr with ⟨hb59, hr⟩ | ⟨hb59, hr⟩
                          · refine HT.cond1 rfl hb59 ?_
                            refine HT.reg1 [4] [⟨none, .no⟩] ⟨[(4, .one (.dat .bool false))], [(0, .seq (.int .i64) y41.2)], 1⟩ hP hN (by kernel_rfl) allNil ?_
                            have hr := of_some hr
                            subst hr
                            exact HT.ret (qThenR ⟨[.one (.dat .bool false)], [], [], by kernel_rfl, by kernel_rfl, rfl, (.inl rfl), by kernel_rfl, trivial⟩)
                          · refine HT.cond0 rfl hb59 ?_
                            refine HT.skip (qThen ?_)
                            refine HT.seq ?_
                            refine HT.reg1 [118] [⟨none, .no⟩, ⟨none, .no⟩, ⟨none, .no⟩] ⟨[(118, .one (.dat .bool (y57 != y41.1)))], [(0, .seq (.int .i64) y41.2)], 1⟩ hP hN (by kernel_rfl) allNil ?_
                            rcases of_bif hr with ⟨hb60, hr⟩ | ⟨hb60, hr⟩
                            · refine HT.cond1 rfl hb60 ?_
                              refine HT.reg1 [4] [⟨none, .no⟩] ⟨[(4, .one (.dat .bool false))], [(0, .seq (.int .i64) y41.2)], 1⟩ hP hN (by kernel_rfl) allNil ?_
                              have hr := of_some hr
                              subst hr
                              exact HT.ret (qThenR ⟨[.one (.dat .bool false)], [], [], by kernel_rfl, by kernel_rfl, rfl, (.inl rfl), by kernel_rfl, trivial⟩)
                            · refine HT.cond0 rfl hb60 ?_
                              refine HT.skip (qThen ?_)
                              refine HT.reg1 [4] [⟨none, .no⟩] ⟨[(4, .one (.dat .bool true))], [(0, .seq (.int .i64) y41.2)], 1⟩ hP hN (by kernel_rfl) allNil ?_
                              have hr := of_some hr
                              subst hr
                              exact HT.ret ⟨[.one (.dat .bool true)], [], [], by kernel_rfl, by kernel_rfl, rfl, (.inl rfl), by kernel_rfl, trivial⟩
                      · obtain ⟨y61, hc62, hT55⟩ := of_bind hT55
                        rcases of_bif hT55 with ⟨hb63, hT55⟩ | ⟨hb63, hT55⟩
                        · refine HT.reg (rs := [⟨none, .no⟩, ⟨none, .no⟩, ⟨none, .call [.imm (.sl (.int .i64)), .imm (.sl (.int .i64))] [⟨false, .bool, y61⟩] []⟩, ⟨none, .no⟩, ⟨none, .no⟩, ⟨some true, .no⟩, ⟨some true, .no⟩, ⟨some true, .no⟩, ⟨none, .tv true⟩]) (st' := ⟨[(110, .one (.dat .bool true)), (109, .und), (108, .und), (107, .und), (106, .one (.dat .bool (!y61))), (105, .one (.dat .bool (!y61))), (104, .one (.dat .bool y61)), (103, .one (.all 2)), (102, .one (.all 8)), (6, .one (.all 2)), (7, .one (.dat .bool y11.2)), (10, .one (.all 3)), (13, .one (.dat (.int .i64) y41.1)), (15, .one (.all 8)), (16, .one (.dat .bool y51.2))], [(8, .seq (.int .i64) y51.1), (6, .seq (.int .i64) y49.1), (7, .seq (.int .i64) y49.2), (4, .seq (.int .i64) y47.2.2.1), (5, .seq .bool y47.2.2.2), (3, .seq (.int .i64) y41.2), (0, .box [.dat (.int .i64) a0.1, .dat (.int .i64) a0.2.1, .dat (.sl (.int .i64)) a0.2.2.1, .dat (.sl .bool) a0.2.2.2]), (1, .box [.dat (.sl (.int .i64)) a1.1, .dat (.sl (.int .i64)) a1.2]), (2, .seq (.int .i64) y11.1), (3, .seq (.int .i64) y17.1)], 9⟩) hP hN (by kernel_rfl) (allCons (f25_ok hc62) (allCons hb63 (allCons hb63 (allCons hb63 (allCons hb63 allNil))))) (qThen ?_)
                          exact (Le.cv (s := ⟨[(3, 0)], [], [], false⟩) (own := []) (ps := [y41.1 = y41.1, true = true, y41.2 = y41.2]) (st' := ⟨[(10, .one (.all 0)), (13, .one (.dat (.int .i64) y41.1)), (110, .one (.dat .bool true))], [(0, .seq (.int .i64) y41.2)], 1⟩) hO (fun h => by cases h) (by kernel_rfl) ⟨rfl, rfl, rfl, trivial⟩).ht (cont true (of_some hT55))
                        · refine HT.reg (rs := [⟨none, .no⟩, ⟨none, .no⟩, ⟨none, .call [.imm (.sl (.int .i64)), .imm (.sl (.int .i64))] [⟨false, .bool, y61⟩] []⟩, ⟨none, .no⟩, ⟨none, .no⟩, ⟨some false, .no⟩, ⟨some false, .no⟩, ⟨some false, .no⟩, ⟨none, .tv false⟩]) (st' := ⟨[(110, .one (.dat .bool (y51.2 != y11.2))), (109, .one (.dat .bool (y51.2 != y11.2))), (108, .one (.dat .bool y11.2)), (107, .one (.dat .bool y51.2)), (106, .one (.dat .bool (!y61))), (105, .one (.dat .bool (!y61))), (104, .one (.dat .bool y61)), (103, .one (.all 2)), (102, .one (.all 8)), (6, .one (.all 2)), (7, .one (.dat .bool y11.2)), (10, .one (.all 3)), (13, .one (.dat (.int .i64) y41.1)), (15, .one (.all 8)), (16, .one (.dat .bool y51.2))], [(8, .seq (.int .i64) y51.1), (6, .seq (.int .i64) y49.1), (7, .seq (.int .i64) y49.2), (4, .seq (.int .i64) y47.2.2.1), (5, .seq .bool y47.2.2.2), (3, .seq (.int .i64) y41.2), (0, .box [.dat (.int .i64) a0.1, .dat (.int .i64) a0.2.1, .dat (.sl (.int .i64)) a0.2.2.1, .dat (.sl .bool) a0.2.2.2]), (1, .box [.dat (.sl (.int .i64)) a1.1, .dat (.sl (.int .i64)) a1.2]), (2, .seq (.int .i64) y11.1), (3, .seq (.int .i64) y17.1)], 9⟩) hP hN (by kernel_rfl) (allCons (f25_ok hc62) (allCons hb63 (allCons hb63 (allCons hb63 (allCons hb63 allNil))))) (qThen ?_)
                          exact (Le.cv (s := ⟨[(3, 0)], [], [], false⟩) (own := []) (ps := [y41.1 = y41.1, (y51.2 != y11.2) = (y51.2 != y11.2), y41.2 = y41.2]) (st' := ⟨[(10, .one (.all 0)), (13, .one (.dat (.int .i64) y41.1)), (110, .one (.dat .bool (y51.2 != y11.2)))], [(0, .seq (.int .i64) y41.2)], 1⟩) hO (fun h => by cases h) (by kernel_rfl) ⟨rfl, rfl, rfl, trivial⟩).ht (cont (y51.2 != y11.2) (of_some hT55))
              · rcases of_bif hT39 with ⟨hb64, hT39⟩ | ⟨hb64, hT39⟩
                · refine HT.reg (rs := [⟨none, .no⟩, ⟨none, .no⟩, ⟨none, .no⟩, ⟨some true, .no⟩, ⟨some true, .no⟩, ⟨some true, .no⟩, ⟨some true, .no⟩, ⟨none, .tv true⟩, ⟨none, .no⟩, ⟨some true, .no⟩, ⟨some true, .no⟩, ⟨some true, .no⟩, ⟨none, .tv true⟩]) (st' := ⟨[(82, .one (.dat .bool true)), (81, .und), (80, .und), (79, .und), (78, .one (.dat .bool true)), (77, .one (.dat .bool true)), (76, .und), (75, .und), (74, .und), (73, .und), (72, .one (.dat .bool (decide (y35.1 < (0 : Int))))), (71, .one (.dat .bool (decide (y35.1 < (0 : Int))))), (70, .one (.dat (.int .i64) y35.1)), (2, .one (.ptr 0 0)), (3, .one (.ptr 1 0)), (6, .one (.all 2)), (7, .one (.dat .bool y11.2)), (10, .one (.all 5)), (11, .one (.dat .bool y17.2)), (12, .one (.dat (.int .i64) y35.1))], [(8, .seq (.int .i64) y35.2.1), (9, .seq (.int .i64) y35.2.2), (6, .seq (.int .i64) y33.2.2.2.1), (7, .seq .bool y33.2.2.2.2), (12, .seq (.int .i64) y28.1), (13, .seq (.int .i64) y28.2), (10, .seq (.int .i64) y23.2.2.1), (11, .seq .bool y23.2.2.2), (0, .box [.dat (.int .i64) a0.1, .dat (.int .i64) a0.2.1, .dat (.sl (.int .i64)) a0.2.2.1, .dat (.sl .bool) a0.2.2.2]), (1, .box [.dat (.sl (.int .i64)) a1.1, .dat (.sl (.int .i64)) a1.2]), (2, .seq (.int .i64) y11.1), (3, .box [.dat (.int .i64) y13.1, .dat (.int .i64) y13.2.1, .all 6, .all 7]), (4, .box [.all 8, .all 9]), (5, .seq (.int .i64) y17.1), (6, .seq (.int .i64) y13.2.2.1), (7, .seq .bool y13.2.2.2), (8, .seq (.int .i64) y15.1), (9, .seq (.int .i64) y15.2)], 14⟩) hP hN (by kernel_rfl) (allCons hb64 (allCons hb64 (allCons hb64 (allCons hb64 (allCons hb64 (allCons (rfl : true = true) (allCons (rfl : true = true) (allCons (rfl : true = true) (allCons (rfl : true = true) allNil))))))))) (qThen ?_)
                  exact (Le.cv (s := ⟨[(0, 0), (1, 1), (2, 2), (5, 3)], [], [], false⟩) (own := []) (ps := [y11.2 = y11.2, true = true, a0.1 = a0.1, a0.2.1 = a0.2.1, a0.2.2.1 = a0.2.2.1, a0.2.2.2 = a0.2.2.2, a1.1 = a1.1, a1.2 = a1.2, y11.1 = y11.1, y17.1 = y17.1]) (st' := ⟨[(2, .one (.ptr 0 0)), (3, .one (.ptr 1 0)), (6, .one (.all 2)), (7, .one (.dat .bool y11.2)), (10, .one (.all 3)), (82, .one (.dat .bool true))], [(0, .box [.dat (.int .i64) a0.1, .dat (.int .i64) a0.2.1, .dat (.sl (.int .i64)) a0.2.2.1, .dat (.sl .bool) a0.2.2.2]), (1, .box [.dat (.sl (.int .i64)) a1.1, .dat (.sl (.int .i64)) a1.2]), (2, .seq (.int .i64) y11.1), (3, .seq (.int .i64) y17.1)], 4⟩) hO (fun h => by cases h) (by kernel_rfl) ⟨rfl, rfl, rfl, rfl, rfl, rfl, rfl, rfl, rfl, rfl, trivial⟩).ht (cont true (of_some hT39))
                · obtain ⟨y65, hc66, hT39⟩ := of_bind hT39
                  rcases of_bif hT39 with ⟨hb67, hT39⟩ | ⟨hb67, hT39⟩
                  · refine HT.reg (rs := [⟨none, .no⟩, ⟨none, .no⟩, ⟨none, .no⟩, ⟨some false, .no⟩, ⟨some false, .no⟩, ⟨some false, .call [.imm (.sl (.int .i64)), .imm (.sl (.int .i64))] [⟨false, .bool, y65⟩] []⟩, ⟨some false, .no⟩, ⟨none, .tv false⟩, ⟨none, .no⟩, ⟨some true, .no⟩, ⟨some true, .no⟩, ⟨some true, .no⟩, ⟨none, .tv true⟩]) (st' := ⟨[(82, .one (.dat .bool true)), (81, .und), (80, .und), (79, .und), (78, .one (.dat .bool (!y65))), (77, .one (.dat .bool (!y65))), (76, .one (.dat .bool (!y65))), (75, .one (.dat .bool y65)), (74, .one (.all 2)), (73, .one (.all 5)), (72, .one (.dat .bool (decide (y35.1 < (0 : Int))))), (71, .one (.dat .bool (decide (y35.1 < (0 : Int))))), (70, .one (.dat (.int .i64) y35.1)), (2, .one (.ptr 0 0)), (3, .one (.ptr 1 0)), (6, .one (.all 2)), (7, .one (.dat .bool y11.2)), (10, .one (.all 5)), (11, .one (.dat .bool y17.2)), (12, .one (.dat (.int .i64) y35.1))], [(8, .seq (.int .i64) y35.2.1), (9, .seq (.int .i64) y35.2.2), (6, .seq (.int .i64) y33.2.2.2.1), (7, .seq .bool y33.2.2.2.2), (12, .seq (.int .i64) y28.1), (13, .seq (.int .i64) y28.2), (10, .seq (.int .i64) y23.2.2.1), (11, .seq .bool y23.2.2.2), (0, .box [.dat (.int .i64) a0.1, .dat (.int .i64) a0.2.1, .dat (.sl (.int .i64)) a0.2.2.1, .dat (.sl .bool) a0.2.2.2]), (1, .box [.dat (.sl (.int .i64)) a1.1, .dat (.sl (.int .i64)) a1.2]), (2, .seq (.int .i64) y11.1), (3, .box [.dat (.int .i64) y13.1, .dat (.int .i64) y13.2.1, .all 6, .all 7]), (4, .box [.all 8, .all 9]), (5, .seq (.int .i64) y17.1), (6, .seq (.int .i64) y13.2.2.1), (7, .seq .bool y13.2.2.2), (8, .seq (.int .i64) y15.1), (9, .seq (.int .i64) y15.2)], 14⟩) hP hN (by kernel_rfl) (allCons hb64 (allCons hb64 (allCons hb64 (allCons (f25_ok hc66) (allCons hb64 (allCons hb64 (allCons hb67 (allCons hb67 (allCons hb67 (allCons hb67 allNil)))))))))) (qThen ?_)
                    exact (Le.cv (s := ⟨[(0, 0), (1, 1), (2, 2), (5, 3)], [], [], false⟩) (own := []) (ps := [y11.2 = y11.2, true = true, a0.1 = a0.1, a0.2.1 = a0.2.1, a0.2.2.1 = a0.2.2.1, a0.2.2.2 = a0.2.2.2, a1.1 = a1.1, a1.2 = a1.2, y11.1 = y11.1, y17.1 = y17.1]) (st' := ⟨[(2, .one (.ptr 0 0)), (3, .one (.ptr 1 0)), (6, .one (.all 2)), (7, .one (.dat .bool y11.2)), (10, .one (.all 3)), (82, .one (.dat .bool true))], [(0, .box [.dat (.int .i64) a0.1, .dat (.int .i64) a0.2.1, .dat (.sl (.int .i64)) a0.2.2.1, .dat (.sl .bool) a0.2.2.2]), (1, .box [.dat (.sl (.int .i64)) a1.1, .dat (.sl (.int .i64)) a1.2]), (2, .seq (.int .i64) y11.1), (3, .seq (.int .i64) y17.1)], 4⟩) hO (fun h => by cases h) (by kernel_rfl) ⟨rfl, rfl, rfl, rfl, rfl, rfl, rfl, rfl, rfl, rfl, trivial⟩).ht (cont true (of_some hT39))
                  · refine HT.reg (rs := [⟨none, .no⟩, ⟨none, .no⟩, ⟨none, .no⟩, ⟨some false, .no⟩, ⟨some false, .no⟩, ⟨some false, .call [.imm (.sl (.int .i64)), .imm (.sl (.int .i64))] [⟨false, .bool, y65⟩] []⟩, ⟨some false, .no⟩, ⟨none, .tv false⟩, ⟨none, .no⟩, ⟨some false, .no⟩, ⟨some false, .no⟩, ⟨some false, .no⟩, ⟨none, .tv false⟩]) (st' := ⟨[(82, .one (.dat .bool (y17.2 != y11.2))), (81, .one (.dat .bool (y17.2 != y11.2))), (80, .one (.dat .bool y11.2)), (79, .one (.dat .bool y17.2)), (78, .one (.dat .bool (!y65))), (77, .one (.dat .bool (!y65))), (76, .one (.dat .bool (!y65))), (75, .one (.dat .bool y65)), (74, .one (.all 2)), (73, .one (.all 5)), (72, .one (.dat .bool (decide (y35.1 < (0 : Int))))), (71, .one (.dat .bool (decide (y35.1 < (0 : Int))))), (70, .one (.dat (.int .i64) y35.1)), (2, .one (.ptr 0 0)), (3, .one (.ptr 1 0)), (6, .one (.all 2)), (7, .one (.dat .bool y11.2)), (10, .one (.all 5)), (11, .one (.dat .bool y17.2)), (12, .one (.dat (.int .i64) y35.1))], [(8, .seq (.int .i64) y35.2.1), (9, .seq (.int .i64) y35.2.2), (6, .seq (.int .i64) y33.2.2.2.1), (7, .seq .bool y33.2.2.2.2), (12, .seq (.int .i64) y28.1), (13, .seq (.int .i64) y28.2), (10, .seq (.int .i64) y23.2.2.1), (11, .seq .bool y23.2.2.2), (0, .box [.dat (.int .i64) a0.1, .dat (.int .i64) a0.2.1, .dat (.sl (.int .i64)) a0.2.2.1, .dat (.sl .bool) a0.2.2.2]), (1, .box [.dat (.sl (.int .i64)) a1.1, .dat (.sl (.int .i64)) a1.2]), (2, .seq (.int .i64) y11.1), (3, .box [.dat (.int .i64) y13.1, .dat (.int .i64) y13.2.1, .all 6, .all 7]), (4, .box [.all 8, .all 9]), (5, .seq (.int .i64) y17.1), (6, .seq (.int .i64) y13.2.2.1), (7, .seq .bool y13.2.2.2), (8, .seq (.int .i64) y15.1), (9, .seq (.int .i64) y15.2)], 14⟩) hP hN (by kernel_rfl) (allCons hb64 (allCons hb64 (allCons hb64 (allCons (f25_ok hc66) (allCons hb64 (allCons hb64 (allCons hb67 (allCons hb67 (allCons hb67 (allCons hb67 allNil)))))))))) (qThen ?_)
                    exact (Le.cv (s := ⟨[(0, 0), (1, 1), (2, 2), (5, 3)], [], [], false⟩) (own := []) (ps := [y11.2 = y11.2, (y17.2 != y11.2) = (y17.2 != y11.2), a0.1 = a0.1, a0.2.1 = a0.2.1, a0.2.2.1 = a0.2.2.1, a0.2.2.2 = a0.2.2.2, a1.1 = a1.1, a1.2 = a1.2, y11.1 = y11.1, y17.1 = y17.1]) (st' := ⟨[(2, .one (.ptr 0 0)), (3, .one (.ptr 1 0)), (6, .one (.all 2)), (7, .one (.dat .bool y11.2)), (10, .one (.all 3)), (82, .one (.dat .bool (y17.2 != y11.2)))], [(0, .box [.dat (.int .i64) a0.1, .dat (.int .i64) a0.2.1, .dat (.sl (.int .i64)) a0.2.2.1, .dat (.sl .bool) a0.2.2.2]), (1, .box [.dat (.sl (.int .i64)) a1.1, .dat (.sl (.int .i64)) a1.2]), (2, .seq (.int .i64) y11.1), (3, .seq (.int .i64) y17.1)], 4⟩) hO (fun h => by cases h) (by kernel_rfl) ⟨rfl, rfl, rfl, rfl, rfl, rfl, rfl, rfl, rfl, rfl, trivial⟩).ht (cont (y17.2 != y11.2) (of_some hT39))
      · obtain ⟨y68, hc69, hT21⟩ := of_bind hT21
        rcases of_bif hT21 with ⟨hb70, hT21⟩ | ⟨hb70, hT21⟩
        · refine HT.reg (rs := [⟨none, .no⟩, ⟨none, .no⟩, ⟨none, .call [.imm (.sl (.int .i64)), .imm (.sl (.int .i64))] [⟨false, .bool, y68⟩] []⟩, ⟨none, .no⟩, ⟨none, .no⟩, ⟨some true, .no⟩, ⟨some true, .no⟩, ⟨some true, .no⟩, ⟨none, .tv true⟩]) (st' := ⟨[(53, .one (.dat .bool true)), (52, .und), (51, .und), (50, .und), (49, .one (.dat .bool (!y68))), (48, .one (.dat .bool (!y68))), (47, .one (.dat .bool y68)), (46, .one (.all 6)), (45, .one (.all 13)), (2, .one (.ptr 0 0)), (3, .one (.ptr 1 0)), (6, .one (.all 6)), (7, .one (.dat .bool y11.2)), (8, .one (.ptr 9 0)), (9, .one (.ptr 12 0)), (10, .one (.all 13)), (11, .one (.dat .bool y17.2))], [(13, .seq (.int .i64) y17.1), (12, .box [.all 10, .all 11]), (12, .box [.nilS, .nilS]), (10, .seq (.int .i64) y15.1), (11, .seq (.int .i64) y15.2), (9, .box [.dat (.int .i64) y13.1, .dat (.int .i64) y13.2.1, .all 7, .all 8]), (9, .box [.dat (.int .i64) (0 : Int), .dat (.int .i64) (0 : Int), .nilS, .nilS]), (7, .seq (.int .i64) y13.2.2.1), (8, .seq .bool y13.2.2.2), (6, .seq (.int .i64) y11.1), (4, .seq (.int .i64) y9.1), (5, .seq (.int .i64) y9.2), (2, .seq (.int .i64) y7.2.2.1), (3, .seq .bool y7.2.2.2), (1, .box [.dat (.sl (.int .i64)) a1.1, .dat (.sl (.int .i64)) a1.2]), (0, .box [.dat (.int .i64) a0.1, .dat (.int .i64) a0.2.1, .dat (.sl (.int .i64)) a0.2.2.1, .dat (.sl .bool) a0.2.2.2])], 14⟩) hP hN (by kernel_rfl) (allCons (f25_ok hc69) (allCons hb70 (allCons hb70 (allCons hb70 (allCons hb70 allNil))))) (qThen ?_)
          exact (Le.cv (s := ⟨[(0, 0), (1, 1), (6, 2), (9, 3), (12, 4), (13, 5), (7, 6), (8, 7), (10, 8), (11, 9)], [], [], false⟩) (own := []) (ps := [y11.2 = y11.2, y17.2 = y17.2, true = true, a0.1 = a0.1, a0.2.1 = a0.2.1, a0.2.2.1 = a0.2.2.1, a0.2.2.2 = a0.2.2.2, a1.1 = a1.1, a1.2 = a1.2, y11.1 = y11.1, y13.1 = y13.1, y13.2.1 = y13.2.1, y17.1 = y17.1, y13.2.2.1 = y13.2.2.1, y13.2.2.2 = y13.2.2.2, y15.1 = y15.1, y15.2 = y15.2]) (st' := ⟨[(2, .one (.ptr 0 0)), (3, .one (.ptr 1 0)), (6, .one (.all 2)), (7, .one (.dat .bool y11.2)), (8, .one (.ptr 3 0)), (9, .one (.ptr 4 0)), (10, .one (.all 5)), (11, .one (.dat .bool y17.2)), (53, .one (.dat .bool true))], [(0, .box [.dat (.int .i64) a0.1, .dat (.int .i64) a0.2.1, .dat (.sl (.int .i64)) a0.2.2.1, .dat (.sl .bool) a0.2.2.2]), (1, .box [.dat (.sl (.int .i64)) a1.1, .dat (.sl (.int .i64)) a1.2]), (2, .seq (.int .i64) y11.1), (3, .box [.dat (.int .i64) y13.1, .dat (.int .i64) y13.2.1, .all 6, .all 7]), (4, .box [.all 8, .all 9]), (5, .seq (.int .i64) y17.1), (6, .seq (.int .i64) y13.2.2.1), (7, .seq .bool y13.2.2.2), (8, .seq (.int .i64) y15.1), (9, .seq (.int .i64) y15.2)], 10⟩) hO (fun h => by cases h) (by kernel_rfl) ⟨rfl, rfl, rfl, rfl, rfl, rfl, rfl, rfl, rfl, rfl, rfl, rfl, rfl, rfl, rfl, rfl, rfl, trivial⟩).ht (cont true (of_some hT21))
        · refine HT.reg (rs := [⟨none, .no⟩, ⟨none, .no⟩, ⟨none, .call [.imm (.sl (.int .i64)), .imm (.sl (.int .i64))] [⟨false, .bool, y68⟩] []⟩, ⟨none, .no⟩, ⟨none, .no⟩, ⟨some false, .no⟩, ⟨some false, .no⟩, ⟨some false, .no⟩, ⟨none, .tv false⟩]) (st' := ⟨[(53, .one (.dat .bool (y17.2 != y11.2))), (52, .one (.dat .bool (y17.2 != y11.2))), (51, .one (.dat .bool y11.2)), (50, .one (.dat .bool y17.2)), (49, .one (.dat .bool (!y68))), (48, .one (.dat .bool (!y68))), (47, .one (.dat .bool y68)), (46, .one (.all 6)), (45, .one (.all 13)), (2, .one (.ptr 0 0)), (3, .one (.ptr 1 0)), (6, .one (.all 6)), (7, .one (.dat .bool y11.2)), (8, .one (.ptr 9 0)), (9, .one (.ptr 12 0)), (10, .one (.all 13)), (11, .one (.dat .bool y17.2))], [(13, .seq (.int .i64) y17.1), (12, .box [.all 10, .all 11]), (12, .box [.nilS, .nilS]), (10, .seq (.int .i64) y15.1), (11, .seq (.int .i64) y15.2), (9, .box [.dat (.int .i64) y13.1, .dat (.int .i64) y13.2.1, .all 7, .all 8]), (9, .box [.dat (.int .i64) (0 : Int), .dat (.int .i64) (0 : Int), .nilS, .nilS]), (7, .seq (.int .i64) y13.2.2.1), (8, .seq .bool y13.2.2.2), (6, .seq (.int .i64) y11.1), (4, .seq (.int .i64) y9.1), (5, .seq (.int .i64) y9.2), (2, .seq (.int .i64) y7.2.2.1), (3, .seq .bool y7.2.2.2), (1, .box [.dat (.sl (.int .i64)) a1.1, .dat (.sl (.int .i64)) a1.2]), (0, .box [.dat (.int .i64) a0.1, .dat (.int .i64) a0.2.1, .dat (.sl (.int .i64)) a0.2.2.1, .dat (.sl .bool) a0.2.2.2])], 14⟩) hP hN (by kernel_rfl) (allCons (f25_ok hc69) (allCons hb70 (allCons hb70 (allCons hb70 (allCons hb70 allNil))))) (qThen ?_)
          exact (Le.cv (s := ⟨[(0, 0), (1, 1), (6, 2), (9, 3), (12, 4), (13, 5), (7, 6), (8, 7), (10, 8), (11, 9)], [], [], false⟩) (own := []) (ps := [y11.2 = y11.2, y17.2 = y17.2, (y17.2 != y11.2) = (y17.2 != y11.2), a0.1 = a0.1, a0.2.1 = a0.2.1, a0.2.2.1 = a0.2.2.1, a0.2.2.2 = a0.2.2.2, a1.1 = a1.1, a1.2 = a1.2, y11.1 = y11.1, y13.1 = y13.1, y13.2.1 = y13.2.1, y17.1 = y17.1, y13.2.2.1 = y13.2.2.1, y13.2.2.2 = y13.2.2.2, y15.1 = y15.1, y15.2 = y15.2]) (st' := ⟨[(2, .one (.ptr 0 0)), (3, .one (.ptr 1 0)), (6, .one (.all 2)), (7, .one (.dat .bool y11.2)), (8, .one (.ptr 3 0)), (9, .one (.ptr 4 0)), (10, .one (.all 5)), (11, .one (.dat .bool y17.2)), (53, .one (.dat .bool (y17.2 != y11.2)))], [(0, .box [.dat (.int .i64) a0.1, .dat (.int .i64) a0.2.1, .dat (.sl (.int .i64)) a0.2.2.1, .dat (.sl .bool) a0.2.2.2]), (1, .box [.dat (.sl (.int .i64)) a1.1, .dat (.sl (.int .i64)) a1.2]), (2, .seq (.int .i64) y11.1), (3, .box [.dat (.int .i64) y13.1, .dat (.int .i64) y13.2.1, .all 6, .all 7]), (4, .box [.all 8, .all 9]), (5, .seq (.int .i64) y17.1), (6, .seq (.int .i64) y13.2.2.1), (7, .seq .bool y13.2.2.2), (8, .seq (.int .i64) y15.1), (9, .seq (.int .i64) y15.2)], 10⟩) hO (fun h => by cases h) (by kernel_rfl) ⟨rfl, rfl, rfl, rfl, rfl, rfl, rfl, rfl, rfl, rfl, rfl, rfl, rfl, rfl, rfl, rfl, rfl, trivial⟩).ht (cont (y17.2 != y11.2) (of_some hT21))

end Go.Proofs
