import Derived.Test.YthilbincoogfkaaPairAtGenA
import Derived.Test.YthilbincoogfkaaProg
set_option linter.unusedVariables false
set_option linter.unusedSimpArgs false
set_option linter.unusedSectionVars false
/-
  Functions as plain functions, and their contracts. Printed by a program.
-/
namespace Go.Proofs
open Go.Ide

noncomputable def spec_PairAt (a0 : Int × Int × List Nat × List Nat × List Nat) (a1 : List Int) (a2 : Int) : Option (List Nat × Bool) :=
  (show Option (Bool) from
    (spec_l03Word (a0.1, a0.2.1, a0.2.2.1, a0.2.2.2.1, a0.2.2.2.2) a1).bind fun y8 =>
    bif (!y8) then
      some true
    else
      (spec_l00In a2 (0 : Int) (wsub .i64 (lenI a1) (1 : Int))).bind fun y11 =>
      some (!y11)).bind fun v1 =>
  bif v1 then
    some (([] : List Nat), false)
  else
    (spec_l03Pair (a0.1, a0.2.1, a0.2.2.1, a0.2.2.2.1, a0.2.2.2.2) a1 a2).bind fun y5 =>
    bif (!y5.2) then
      some (([] : List Nat), false)
    else
      some (y5.1, true)

theorem f24_ok {a0 : Int × Int × List Nat × List Nat × List Nat} {a1 : List Int} {a2 : Int} {r : List Nat × Bool} (hr : spec_PairAt a0 a1 a2 = some r) : CallOK Try.prog 24 [.imm (.st (.pair (.int .i64) (.pair (.int .i64) (.pair (.sl (.flt .f32)) (.pair (.sl (.flt .f32)) (.sl (.flt .f32))))))) a0, .imm (.sl (.int .i64)) a1, .imm (.int .i64) a2] [⟨true, (.sl (.flt .f32)), r.1⟩, ⟨false, .bool, r.2⟩] [] := by
  unfold spec_PairAt at hr
  refine CallOK.of_body (ts := [(true, (.sl (.flt .f32))), (false, .bool)]) Try.func24 rfl (by kernel_rfl) (Nat.le_of_ble_eq_true (by kernel_rfl)) fun cx hP hN hO hF => ?_
  have hO : cx.own.map Prod.fst = [] := hO
  have hF := hF rfl
  show HT cx ⟨[(0, .agg [.dat (.int .i64) a0.1, .dat (.int .i64) a0.2.1, .dat (.sl (.flt .f32)) a0.2.2.1, .dat (.sl (.flt .f32)) a0.2.2.2.1, .dat (.sl (.flt .f32)) a0.2.2.2.2]), (1, .one (.dat (.sl (.int .i64)) a1)), (2, .one (.dat (.int .i64) a2))], [], 0⟩ _ _
  refine HT.reg1 [1, 2, 3] [⟨none, .no⟩, ⟨none, .no⟩, ⟨none, .no⟩] ⟨[(1, .one (.dat (.sl (.int .i64)) a1)), (2, .one (.dat (.int .i64) a2)), (3, .one (.ptr 0 0))], [(0, .box [.dat (.int .i64) a0.1, .dat (.int .i64) a0.2.1, .dat (.sl (.flt .f32)) a0.2.2.1, .dat (.sl (.flt .f32)) a0.2.2.2.1, .dat (.sl (.flt .f32)) a0.2.2.2.2])], 1⟩ hP hN (by kernel_rfl) allNil ?_
  refine HT.seq ?_
  obtain ⟨v1', hT3, hr⟩ := of_bind hr
  refine HT.join (fun (v1 : Bool) => ⟨[(1, .one (.dat (.sl (.int .i64)) a1)), (2, .one (.dat (.int .i64) a2)), (3, .one (.ptr 0 0)), (20, .one (.dat .bool v1))], [(0, .box [.dat (.int .i64) a0.1, .dat (.int .i64) a0.2.1, .dat (.sl (.flt .f32)) a0.2.2.1, .dat (.sl (.flt .f32)) a0.2.2.2.1, .dat (.sl (.flt .f32)) a0.2.2.2.2])], 1⟩) (fun v => v = v1') (fun v1 hv2 => ?_) (fun cont => ?_)
  · subst hv2
    rcases of_bif hr with ⟨hb4, hr⟩ | ⟨hb4, hr⟩
    · refine HT.cond1 rfl hb4 ?_
      refine HT.reg1 [6, 7] [⟨none, .no⟩, ⟨none, .no⟩] ⟨[(6, .one (.nilS)), (7, .one (.dat .bool false))], [(0, .box [.dat (.int .i64) a0.1, .dat (.int .i64) a0.2.1, .dat (.sl (.flt .f32)) a0.2.2.1, .dat (.sl (.flt .f32)) a0.2.2.2.1, .dat (.sl (.flt .f32)) a0.2.2.2.2])], 1⟩ hP hN (by kernel_rfl) allNil ?_
      have hr := of_some hr
      subst hr
      exact HT.ret (qThenR ⟨[.one (.nilS), .one (.dat .bool false)], [], [], by kernel_rfl, by kernel_rfl, rfl, by kernel_rfl, by kernel_rfl, trivial⟩)
    · refine HT.cond0 rfl hb4 ?_
      refine HT.skip (qThen ?_)
      obtain ⟨y5, hc6, hr⟩ := of_bind hr
      refine HT.reg1 [8, 9] [⟨none, .no⟩, ⟨none, .no⟩, ⟨none, .call [.pimm (.st (.pair (.int .i64) (.pair (.int .i64) (.pair (.sl (.flt .f32)) (.pair (.sl (.flt .f32)) (.sl (.flt .f32))))))), .imm (.sl (.int .i64)), .imm (.int .i64)] [⟨true, (.sl (.flt .f32)), y5.1⟩, ⟨false, .bool, y5.2⟩] []⟩, ⟨none, .no⟩, ⟨none, .no⟩, ⟨none, .no⟩, ⟨none, .no⟩, ⟨none, .no⟩] ⟨[(8, .one (.all 1)), (9, .one (.dat .bool y5.2))], [(1, .seq (.flt .f32) y5.1), (0, .box [.dat (.int .i64) a0.1, .dat (.int .i64) a0.2.1, .dat (.sl (.flt .f32)) a0.2.2.1, .dat (.sl (.flt .f32)) a0.2.2.2.1, .dat (.sl (.flt .f32)) a0.2.2.2.2])], 2⟩ hP hN (by kernel_rfl) (allCons (f57_ok hc6) allNil) ?_
      refine HT.seq ?_
      refine HT.reg1 [8, 28] [⟨none, .no⟩, ⟨none, .no⟩] ⟨[(8, .one (.all 1)), (28, .one (.dat .bool (!y5.2)))], [(1, .seq (.flt .f32) y5.1), (0, .box [.dat (.int .i64) a0.1, .dat (.int .i64) a0.2.1, .dat (.sl (.flt .f32)) a0.2.2.1, .dat (.sl (.flt .f32)) a0.2.2.2.1, .dat (.sl (.flt .f32)) a0.2.2.2.2])], 2⟩ hP hN (by kernel_rfl) allNil ?_
      rcases of_bif hr with ⟨hb7, hr⟩ | ⟨hb7, hr⟩
      · refine HT.cond1 rfl hb7 ?_
        refine HT.reg1 [6, 7] [⟨none, .no⟩, ⟨none, .no⟩] ⟨[(6, .one (.nilS)), (7, .one (.dat .bool false))], [(1, .seq (.flt .f32) y5.1), (0, .box [.dat (.int .i64) a0.1, .dat (.int .i64) a0.2.1, .dat (.sl (.flt .f32)) a0.2.2.1, .dat (.sl (.flt .f32)) a0.2.2.2.1, .dat (.sl (.flt .f32)) a0.2.2.2.2])], 2⟩ hP hN (by kernel_rfl) allNil ?_
        have hr := of_some hr
        subst hr
        exact HT.ret (qThenR ⟨[.one (.nilS), .one (.dat .bool false)], [], [], by kernel_rfl, by kernel_rfl, rfl, by kernel_rfl, by kernel_rfl, trivial⟩)
      · refine HT.cond0 rfl hb7 ?_
        refine HT.skip (qThen ?_)
        refine HT.reg1 [6, 7] [⟨none, .no⟩, ⟨none, .no⟩, ⟨none, .no⟩] ⟨[(6, .one (.all 1)), (7, .one (.dat .bool true))], [(1, .seq (.flt .f32) y5.1), (0, .box [.dat (.int .i64) a0.1, .dat (.int .i64) a0.2.1, .dat (.sl (.flt .f32)) a0.2.2.1, .dat (.sl (.flt .f32)) a0.2.2.2.1, .dat (.sl (.flt .f32)) a0.2.2.2.2])], 2⟩ hP hN (by kernel_rfl) allNil ?_
        have hr := of_some hr
        subst hr
        exact HT.ret ⟨[.one (.all 1), .one (.dat .bool true)], [1], [], by kernel_rfl, by kernel_rfl, rfl, by kernel_rfl, by kernel_rfl, trivial⟩
  · obtain ⟨y8, hc9, hT3⟩ := of_bind hT3
    rcases of_bif hT3 with ⟨hb10, hT3⟩ | ⟨hb10, hT3⟩
    · refine HT.reg (rs := [⟨none, .no⟩, ⟨none, .call [.pimm (.st (.pair (.int .i64) (.pair (.int .i64) (.pair (.sl (.flt .f32)) (.pair (.sl (.flt .f32)) (.sl (.flt .f32))))))), .imm (.sl (.int .i64))] [⟨false, .bool, y8⟩] []⟩, ⟨none, .no⟩, ⟨none, .no⟩, ⟨some true, .no⟩, ⟨some true, .no⟩, ⟨some true, .no⟩, ⟨some true, .no⟩, ⟨some true, .no⟩, ⟨some true, .no⟩, ⟨none, .tv true⟩]) (st' := ⟨[(20, .one (.dat .bool true)), (19, .und), (18, .und), (17, .und), (16, .und), (15, .und), (14, .und), (13, .one (.dat .bool (!y8))), (12, .one (.dat .bool (!y8))), (11, .one (.dat .bool y8)), (10, .one (.dat (.sl (.int .i64)) a1)), (1, .one (.dat (.sl (.int .i64)) a1)), (2, .one (.dat (.int .i64) a2)), (3, .one (.ptr 0 0))], [(0, .box [.dat (.int .i64) a0.1, .dat (.int .i64) a0.2.1, .dat (.sl (.flt .f32)) a0.2.2.1, .dat (.sl (.flt .f32)) a0.2.2.2.1, .dat (.sl (.flt .f32)) a0.2.2.2.2])], 1⟩) hP hN (by kernel_rfl) (allCons (f43_ok hc9) (allCons hb10 (allCons hb10 (allCons hb10 (allCons hb10 (allCons hb10 (allCons hb10 (allCons hb10 allNil)))))))) (qThen ?_)
      exact (Le.cv (s := ⟨[(0, 0)], [], [], false⟩) (own := []) (ps := [a1 = a1, a2 = a2, true = true, a0.1 = a0.1, a0.2.1 = a0.2.1, a0.2.2.1 = a0.2.2.1, a0.2.2.2.1 = a0.2.2.2.1, a0.2.2.2.2 = a0.2.2.2.2]) (st' := ⟨[(1, .one (.dat (.sl (.int .i64)) a1)), (2, .one (.dat (.int .i64) a2)), (3, .one (.ptr 0 0)), (20, .one (.dat .bool true))], [(0, .box [.dat (.int .i64) a0.1, .dat (.int .i64) a0.2.1, .dat (.sl (.flt .f32)) a0.2.2.1, .dat (.sl (.flt .f32)) a0.2.2.2.1, .dat (.sl (.flt .f32)) a0.2.2.2.2])], 1⟩) hO (fun h => by cases h) (by kernel_rfl) ⟨rfl, rfl, rfl, rfl, rfl, rfl, rfl, rfl, trivial⟩).ht (cont true (of_some hT3))
    · obtain ⟨y11, hc12, hT3⟩ := of_bind hT3
      refine HT.reg (rs := [⟨none, .no⟩, ⟨none, .call [.pimm (.st (.pair (.int .i64) (.pair (.int .i64) (.pair (.sl (.flt .f32)) (.pair (.sl (.flt .f32)) (.sl (.flt .f32))))))), .imm (.sl (.int .i64))] [⟨false, .bool, y8⟩] []⟩, ⟨none, .no⟩, ⟨none, .no⟩, ⟨some false, .no⟩, ⟨some false, .no⟩, ⟨some false, .no⟩, ⟨some false, .no⟩, ⟨some false, .call [.imm (.int .i64), .imm (.int .i64), .imm (.int .i64)] [⟨false, .bool, y11⟩] []⟩, ⟨some false, .no⟩, ⟨none, .tv false⟩]) (st' := ⟨[(20, .one (.dat .bool (!y11))), (19, .one (.dat .bool (!y11))), (18, .one (.dat .bool y11)), (17, .one (.dat (.int .i64) (wsub .i64 (lenI a1) (1 : Int)))), (16, .one (.dat (.int .i64) (lenI a1))), (15, .one (.dat (.sl (.int .i64)) a1)), (14, .one (.dat (.int .i64) a2)), (13, .one (.dat .bool (!y8))), (12, .one (.dat .bool (!y8))), (11, .one (.dat .bool y8)), (10, .one (.dat (.sl (.int .i64)) a1)), (1, .one (.dat (.sl (.int .i64)) a1)), (2, .one (.dat (.int .i64) a2)), (3, .one (.ptr 0 0))], [(0, .box [.dat (.int .i64) a0.1, .dat (.int .i64) a0.2.1, .dat (.sl (.flt .f32)) a0.2.2.1, .dat (.sl (.flt .f32)) a0.2.2.2.1, .dat (.sl (.flt .f32)) a0.2.2.2.2])], 1⟩) hP hN (by kernel_rfl) (allCons (f43_ok hc9) (allCons hb10 (allCons hb10 (allCons hb10 (allCons hb10 (allCons hb10 (allCons (f52_ok hc12) (allCons hb10 (allCons hb10 allNil))))))))) (qThen ?_)
      exact (Le.cv (s := ⟨[(0, 0)], [], [], false⟩) (own := []) (ps := [a1 = a1, a2 = a2, (!y11) = (!y11), a0.1 = a0.1, a0.2.1 = a0.2.1, a0.2.2.1 = a0.2.2.1, a0.2.2.2.1 = a0.2.2.2.1, a0.2.2.2.2 = a0.2.2.2.2]) (st' := ⟨[(1, .one (.dat (.sl (.int .i64)) a1)), (2, .one (.dat (.int .i64) a2)), (3, .one (.ptr 0 0)), (20, .one (.dat .bool (!y11)))], [(0, .box [.dat (.int .i64) a0.1, .dat (.int .i64) a0.2.1, .dat (.sl (.flt .f32)) a0.2.2.1, .dat (.sl (.flt .f32)) a0.2.2.2.1, .dat (.sl (.flt .f32)) a0.2.2.2.2])], 1⟩) hO (fun h => by cases h) (by kernel_rfl) ⟨rfl, rfl, rfl, rfl, rfl, rfl, rfl, rfl, trivial⟩).ht (cont (!y11) (of_some hT3))

theorem f66_ok {xs y : List Nat} (h : slices_Clone xs = some y) : CallOK Try.prog 66 [.imm (.sl (.flt .f32)) xs] [⟨true, (.sl (.flt .f32)), y⟩] [] := by
  obtain ⟨hg, h⟩ := of_guard h
  have h := of_some h
  subst h
  refine CallOK.of_body (ts := [(true, (.sl (.flt .f32)))]) Try.func66 rfl (by kernel_rfl) (Nat.le_of_ble_eq_true (by kernel_rfl)) fun cx hP hN hO hF => ?_
  show HT cx ⟨[(0, .one (.dat (.sl (.flt .f32)) xs))], [], 0⟩ _ _
  refine HT.reg1 [0] [⟨none, .no⟩] ⟨[(0, .one (.dat (.sl (.flt .f32)) xs))], [], 0⟩ hP hN (by kernel_rfl) allNil ?_
  refine HT.seq ?_
  refine HT.isNil (t3 := 3) (t4 := 4) (v := .one (.dat (.sl (.flt .f32)) xs)) (t := (.flt .f32)) (xs := xs) (st1 := ⟨[(3, .one (.dat (.sl (.flt .f32)) xs)), (0, .one (.dat (.sl (.flt .f32)) xs))], [], 0⟩) hP hN (by kernel_rfl) rfl rfl rfl rfl (e := 66) (by kernel_rfl) rfl rfl (fun b hb => ?_)
  show HT cx ⟨[(4, .one (.dat .bool b)), (3, .one (.dat (.sl (.flt .f32)) xs)), (0, .one (.dat (.sl (.flt .f32)) xs))], [], 0⟩ _ _
  cases b with
  | true =>
    have e := hb rfl
    subst e
    refine HT.cond1 rfl rfl ?_
    refine HT.reg1 [2] [⟨none, .no⟩] ⟨[(2, .one .nilS)], [], 0⟩ hP hN (by kernel_rfl) allNil ?_
    exact HT.ret (qThenR ⟨[.one .nilS], [], [], by kernel_rfl, by kernel_rfl, rfl, by kernel_rfl, by kernel_rfl, trivial⟩)
  | false =>
    refine HT.cond0 rfl rfl ?_
    refine HT.skip (qThen ?_)
    refine HT.reg1 [2] [⟨none, .no⟩, ⟨none, .no⟩, ⟨none, .ty (.flt .f32)⟩, ⟨none, .no⟩] ⟨[(2, .one (.all 0))], [(0, .seq (.flt .f32) xs)], 1⟩ hP hN (by kernel_rfl) (allCons hg allNil) ?_
    exact HT.ret ⟨[.one (.all 0)], [0], [], by kernel_rfl, by kernel_rfl, rfl, by kernel_rfl, by kernel_rfl, trivial⟩

noncomputable def impl_Model_show (a0 : Int × Int × List Nat × List Nat × List Nat) (a1 : Int) (a2 : Int) : Option (Nat) :=
  guardP ((0 : Int) ≤ (wadd .i64 (wmul .i64 a1 a0.2.1) a2) ∧ (wadd .i64 (wmul .i64 a1 a0.2.1) a2) < lenI a0.2.2.2.2) (
    some (List.getD a0.2.2.2.2 (Int.toNat (wadd .i64 (wmul .i64 a1 a0.2.1) a2)) (0 : Nat)))

theorem f83_ok {a0 : Int × Int × List Nat × List Nat × List Nat} {a1 : Int} {a2 : Int} {r : Nat} (hr : impl_Model_show a0 a1 a2 = some r) : CallOK Try.prog 83 [.imm (.st (.pair (.int .i64) (.pair (.int .i64) (.pair (.sl (.flt .f32)) (.pair (.sl (.flt .f32)) (.sl (.flt .f32))))))) a0, .imm (.int .i64) a1, .imm (.int .i64) a2] [⟨false, (.flt .f32), r⟩] [] := by
  unfold impl_Model_show at hr
  refine CallOK.of_body (ts := [(false, (.flt .f32))]) Try.func83 rfl (by kernel_rfl) (Nat.le_of_ble_eq_true (by kernel_rfl)) fun cx hP hN hO hF => ?_
  have hO : cx.own.map Prod.fst = [] := hO
  have hF := hF rfl
  show HT cx ⟨[(0, .agg [.dat (.int .i64) a0.1, .dat (.int .i64) a0.2.1, .dat (.sl (.flt .f32)) a0.2.2.1, .dat (.sl (.flt .f32)) a0.2.2.2.1, .dat (.sl (.flt .f32)) a0.2.2.2.2]), (1, .one (.dat (.int .i64) a1)), (2, .one (.dat (.int .i64) a2))], [], 0⟩ _ _
  refine HT.reg1 [1, 2, 3] [⟨none, .no⟩, ⟨none, .no⟩] ⟨[(1, .one (.dat (.int .i64) a1)), (2, .one (.dat (.int .i64) a2)), (3, .one (.ptr 0 0))], [(0, .box [.dat (.int .i64) a0.1, .dat (.int .i64) a0.2.1, .dat (.sl (.flt .f32)) a0.2.2.1, .dat (.sl (.flt .f32)) a0.2.2.2.1, .dat (.sl (.flt .f32)) a0.2.2.2.2])], 1⟩ hP hN (by kernel_rfl) allNil ?_
  obtain ⟨hg1, hr⟩ := of_guard hr
  refine HT.reg1 [6] [⟨none, .no⟩, ⟨none, .no⟩, ⟨none, .no⟩, ⟨none, .no⟩, ⟨none, .no⟩, ⟨none, .no⟩, ⟨none, .no⟩, ⟨none, .no⟩, ⟨none, .no⟩, ⟨none, .no⟩, ⟨none, .no⟩] ⟨[(6, .one (.dat (.flt .f32) (List.getD a0.2.2.2.2 (Int.toNat (wadd .i64 (wmul .i64 a1 a0.2.1) a2)) (0 : Nat))))], [(0, .box [.dat (.int .i64) a0.1, .dat (.int .i64) a0.2.1, .dat (.sl (.flt .f32)) a0.2.2.1, .dat (.sl (.flt .f32)) a0.2.2.2.1, .dat (.sl (.flt .f32)) a0.2.2.2.2])], 1⟩ hP hN (by kernel_rfl) (allCons hg1 allNil) ?_
  have hr := of_some hr
  subst hr
  exact HT.ret ⟨[.one (.dat (.flt .f32) (List.getD a0.2.2.2.2 (Int.toNat (wadd .i64 (wmul .i64 a1 a0.2.1) a2)) (0 : Nat)))], [], [], by kernel_rfl, by kernel_rfl, rfl, by kernel_rfl, by kernel_rfl, trivial⟩

noncomputable def impl_Model_step (a0 : Int × Int × List Nat × List Nat × List Nat) (a1 : Int) (a2 : Int) : Option (Nat) :=
  guardP ((0 : Int) ≤ (wadd .i64 (wmul .i64 a1 a0.1) a2) ∧ (wadd .i64 (wmul .i64 a1 a0.1) a2) < lenI a0.2.2.2.1) (
    some (List.getD a0.2.2.2.1 (Int.toNat (wadd .i64 (wmul .i64 a1 a0.1) a2)) (0 : Nat)))

theorem f84_ok {a0 : Int × Int × List Nat × List Nat × List Nat} {a1 : Int} {a2 : Int} {r : Nat} (hr : impl_Model_step a0 a1 a2 = some r) : CallOK Try.prog 84 [.imm (.st (.pair (.int .i64) (.pair (.int .i64) (.pair (.sl (.flt .f32)) (.pair (.sl (.flt .f32)) (.sl (.flt .f32))))))) a0, .imm (.int .i64) a1, .imm (.int .i64) a2] [⟨false, (.flt .f32), r⟩] [] := by
  unfold impl_Model_step at hr
  refine CallOK.of_body (ts := [(false, (.flt .f32))]) Try.func84 rfl (by kernel_rfl) (Nat.le_of_ble_eq_true (by kernel_rfl)) fun cx hP hN hO hF => ?_
  have hO : cx.own.map Prod.fst = [] := hO
  have hF := hF rfl
  show HT cx ⟨[(0, .agg [.dat (.int .i64) a0.1, .dat (.int .i64) a0.2.1, .dat (.sl (.flt .f32)) a0.2.2.1, .dat (.sl (.flt .f32)) a0.2.2.2.1, .dat (.sl (.flt .f32)) a0.2.2.2.2]), (1, .one (.dat (.int .i64) a1)), (2, .one (.dat (.int .i64) a2))], [], 0⟩ _ _
  refine HT.reg1 [1, 2, 3] [⟨none, .no⟩, ⟨none, .no⟩] ⟨[(1, .one (.dat (.int .i64) a1)), (2, .one (.dat (.int .i64) a2)), (3, .one (.ptr 0 0))], [(0, .box [.dat (.int .i64) a0.1, .dat (.int .i64) a0.2.1, .dat (.sl (.flt .f32)) a0.2.2.1, .dat (.sl (.flt .f32)) a0.2.2.2.1, .dat (.sl (.flt .f32)) a0.2.2.2.2])], 1⟩ hP hN (by kernel_rfl) allNil ?_
  obtain ⟨hg1, hr⟩ := of_guard hr
  refine HT.reg1 [6] [⟨none, .no⟩, ⟨none, .no⟩, ⟨none, .no⟩, ⟨none, .no⟩, ⟨none, .no⟩, ⟨none, .no⟩, ⟨none, .no⟩, ⟨none, .no⟩, ⟨none, .no⟩, ⟨none, .no⟩, ⟨none, .no⟩] ⟨[(6, .one (.dat (.flt .f32) (List.getD a0.2.2.2.1 (Int.toNat (wadd .i64 (wmul .i64 a1 a0.1) a2)) (0 : Nat))))], [(0, .box [.dat (.int .i64) a0.1, .dat (.int .i64) a0.2.1, .dat (.sl (.flt .f32)) a0.2.2.1, .dat (.sl (.flt .f32)) a0.2.2.2.1, .dat (.sl (.flt .f32)) a0.2.2.2.2])], 1⟩ hP hN (by kernel_rfl) (allCons hg1 allNil) ?_
  have hr := of_some hr
  subst hr
  exact HT.ret ⟨[.one (.dat (.flt .f32) (List.getD a0.2.2.2.1 (Int.toNat (wadd .i64 (wmul .i64 a1 a0.1) a2)) (0 : Nat)))], [], [], by kernel_rfl, by kernel_rfl, rfl, by kernel_rfl, by kernel_rfl, trivial⟩

noncomputable def impl_Model_nextRow_B1 (a0 : Int × Int × List Nat × List Nat × List Nat) (a1 : List Nat) (a2 : Int) (s2 : Int × List Nat) (s9 : Int × List Nat) : Option ((Int × List Nat) ⊕ (List Nat)) :=
  bif (decide (s9.1 < a0.1)) then
    guardP ((0 : Int) ≤ s2.1 ∧ s2.1 < lenI s9.2) (
      guardP ((0 : Int) ≤ s9.1 ∧ s9.1 < lenI a1) (
        (impl_Model_show (a0.1, a0.2.1, a0.2.2.1, a0.2.2.2.1, a0.2.2.2.2) s9.1 a2).bind fun y18 =>
        (impl_Model_step (a0.1, a0.2.1, a0.2.2.1, a0.2.2.2.1, a0.2.2.2.2) s9.1 s2.1).bind fun y20 =>
        some (.inl ((wadd .i64 s9.1 (1 : Int)), (List.set s9.2 (Int.toNat s2.1) (fop .add .f32 (List.getD s9.2 (Int.toNat s2.1) (0 : Nat)) (fop .mul .f32 (fop .mul .f32 (List.getD a1 (Int.toNat s9.1) (0 : Nat)) y18) y20)))))))
  else
    some (.inr s9.2)

noncomputable def impl_Model_nextRow_B2 (a0 : Int × Int × List Nat × List Nat × List Nat) (a1 : List Nat) (a2 : Int) (s2 : Int × List Nat) : Option ((Int × List Nat) ⊕ (List Nat)) :=
  bif (decide (s2.1 < a0.1)) then
    (rounds (impl_Model_nextRow_B1 a0 a1 a2 s2) ((0 : Int), s2.2)).bind fun r11 =>
    some (.inl ((wadd .i64 s2.1 (1 : Int)), r11))
  else
    some (.inr s2.2)

noncomputable def impl_Model_nextRow (a0 : Int × Int × List Nat × List Nat × List Nat) (a1 : List Nat) (a2 : Int) : Option (List Nat) :=
  guardP ((0 : Int) ≤ a0.1 ∧ a0.1 ≤ 4294967296) (
    (rounds (impl_Model_nextRow_B2 a0 a1 a2) ((0 : Int), (List.replicate (Int.toNat a0.1) (0 : Nat)))).bind fun r4 =>
    some r4)

theorem f88_ok {a0 : Int × Int × List Nat × List Nat × List Nat} {a1 : List Nat} {a2 : Int} {r : List Nat} (hr : impl_Model_nextRow a0 a1 a2 = some r) : CallOK Try.prog 88 [.imm (.st (.pair (.int .i64) (.pair (.int .i64) (.pair (.sl (.flt .f32)) (.pair (.sl (.flt .f32)) (.sl (.flt .f32))))))) a0, .imm (.sl (.flt .f32)) a1, .imm (.int .i64) a2] [⟨true, (.sl (.flt .f32)), r⟩] [] := by
  unfold impl_Model_nextRow at hr
  refine CallOK.of_body (ts := [(true, (.sl (.flt .f32)))]) Try.func88 rfl (by kernel_rfl) (Nat.le_of_ble_eq_true (by kernel_rfl)) fun cx hP hN hO hF => ?_
  have hO : cx.own.map Prod.fst = [] := hO
  have hF := hF rfl
  show HT cx ⟨[(0, .agg [.dat (.int .i64) a0.1, .dat (.int .i64) a0.2.1, .dat (.sl (.flt .f32)) a0.2.2.1, .dat (.sl (.flt .f32)) a0.2.2.2.1, .dat (.sl (.flt .f32)) a0.2.2.2.2]), (1, .one (.dat (.sl (.flt .f32)) a1)), (2, .one (.dat (.int .i64) a2))], [], 0⟩ _ _
  refine HT.reg1 [1, 2, 3] [⟨none, .no⟩, ⟨none, .no⟩] ⟨[(1, .one (.dat (.sl (.flt .f32)) a1)), (2, .one (.dat (.int .i64) a2)), (3, .one (.ptr 0 0))], [(0, .box [.dat (.int .i64) a0.1, .dat (.int .i64) a0.2.1, .dat (.sl (.flt .f32)) a0.2.2.1, .dat (.sl (.flt .f32)) a0.2.2.2.1, .dat (.sl (.flt .f32)) a0.2.2.2.2])], 1⟩ hP hN (by kernel_rfl) allNil ?_
  obtain ⟨hg1, hr⟩ := of_guard hr
  refine HT.reg1 [1, 2, 3, 7] [⟨none, .no⟩, ⟨none, .no⟩, ⟨none, .ty (.flt .f32)⟩, ⟨none, .no⟩] ⟨[(1, .one (.dat (.sl (.flt .f32)) a1)), (2, .one (.dat (.int .i64) a2)), (3, .one (.ptr 0 0)), (7, .one (.all 1))], [(1, .seq (.flt .f32) (List.replicate (Int.toNat a0.1) (0 : Nat))), (0, .box [.dat (.int .i64) a0.1, .dat (.int .i64) a0.2.1, .dat (.sl (.flt .f32)) a0.2.2.1, .dat (.sl (.flt .f32)) a0.2.2.2.1, .dat (.sl (.flt .f32)) a0.2.2.2.2])], 2⟩ hP hN (by kernel_rfl) (allCons (show (0 : Int) ≤ a0.1 ∧ a0.1 ≤ a0.1 ∧ a0.1 ≤ 4294967296 from ⟨hg1.1, Int.le_refl _, hg1.2⟩) allNil) ?_
  refine HT.seq ?_
  refine HT.reg1 [1, 2, 3, 7, 14, 15] [⟨none, .no⟩, ⟨none, .no⟩, ⟨none, .no⟩] ⟨[(1, .one (.dat (.sl (.flt .f32)) a1)), (2, .one (.dat (.int .i64) a2)), (3, .one (.ptr 0 0)), (7, .one (.all 1)), (14, .one (.dat (.int .i64) a0.1)), (15, .one (.dat (.int .i64) (0 : Int)))], [(1, .seq (.flt .f32) (List.replicate (Int.toNat a0.1) (0 : Nat))), (0, .box [.dat (.int .i64) a0.1, .dat (.int .i64) a0.2.1, .dat (.sl (.flt .f32)) a0.2.2.1, .dat (.sl (.flt .f32)) a0.2.2.2.1, .dat (.sl (.flt .f32)) a0.2.2.2.2])], 2⟩ hP hN (by kernel_rfl) allNil ?_
  refine HT.block ?_
  obtain ⟨r3, hL23, hr⟩ := of_bind hr
  refine (Le.cv (s := ⟨[(0, 0), (1, 1)], [], [], false⟩) (own := []) (ps := [a1 = a1, a2 = a2, a0.1 = a0.1, (0 : Int) = (0 : Int), a0.1 = a0.1, a0.2.1 = a0.2.1, a0.2.2.1 = a0.2.2.1, a0.2.2.2.1 = a0.2.2.2.1, a0.2.2.2.2 = a0.2.2.2.2, (List.replicate (Int.toNat a0.1) (0 : Nat)) = (List.replicate (Int.toNat a0.1) (0 : Nat))]) (st' := ⟨[(1, .one (.dat (.sl (.flt .f32)) a1)), (2, .one (.dat (.int .i64) a2)), (3, .one (.ptr 0 0)), (7, .one (.all 1)), (14, .one (.dat (.int .i64) a0.1)), (15, .one (.dat (.int .i64) (0 : Int)))], [(0, .box [.dat (.int .i64) a0.1, .dat (.int .i64) a0.2.1, .dat (.sl (.flt .f32)) a0.2.2.1, .dat (.sl (.flt .f32)) a0.2.2.2.1, .dat (.sl (.flt .f32)) a0.2.2.2.2]), (1, .seq (.flt .f32) (List.replicate (Int.toNat a0.1) (0 : Nat)))], 2⟩) hO (fun h => by cases h) (by kernel_rfl) ⟨rfl, rfl, rfl, rfl, rfl, rfl, rfl, rfl, rfl, rfl, trivial⟩).ht ?_
  refine HT.loopE (s := ((0 : Int), (List.replicate (Int.toNat a0.1) (0 : Nat)))) (fun (s2 : Int × List Nat) => ⟨[(1, .one (.dat (.sl (.flt .f32)) a1)), (2, .one (.dat (.int .i64) a2)), (3, .one (.ptr 0 0)), (7, .one (.all 1)), (14, .one (.dat (.int .i64) a0.1)), (15, .one (.dat (.int .i64) s2.1))], [(0, .box [.dat (.int .i64) a0.1, .dat (.int .i64) a0.2.1, .dat (.sl (.flt .f32)) a0.2.2.1, .dat (.sl (.flt .f32)) a0.2.2.2.1, .dat (.sl (.flt .f32)) a0.2.2.2.2]), (1, .seq (.flt .f32) s2.2)], 2⟩) (fun (r4 : List Nat) => (.exit 0, ⟨[(7, .one (.all 0))], [(0, .seq (.flt .f32) r4)], 1⟩)) hL23 ?_ (fun s2 x5 hx6 hk7 => ?_)
  · refine (qBlockX (qThen ?_))
    refine HT.reg1 [6] [⟨none, .no⟩, ⟨none, .no⟩] ⟨[(6, .one (.all 0))], [(0, .seq (.flt .f32) r3)], 1⟩ hP hN (by kernel_rfl) allNil ?_
    have hr := of_some hr
    subst hr
    exact HT.ret ⟨[.one (.all 0)], [0], [], by kernel_rfl, by kernel_rfl, rfl, by kernel_rfl, by kernel_rfl, trivial⟩
  · refine HT.reg1 [1, 2, 3, 7, 14, 15, 16] [⟨none, .no⟩] ⟨[(1, .one (.dat (.sl (.flt .f32)) a1)), (2, .one (.dat (.int .i64) a2)), (3, .one (.ptr 0 0)), (7, .one (.all 1)), (14, .one (.dat (.int .i64) a0.1)), (15, .one (.dat (.int .i64) s2.1)), (16, .one (.dat .bool (decide (s2.1 < a0.1))))], [(0, .box [.dat (.int .i64) a0.1, .dat (.int .i64) a0.2.1, .dat (.sl (.flt .f32)) a0.2.2.1, .dat (.sl (.flt .f32)) a0.2.2.2.1, .dat (.sl (.flt .f32)) a0.2.2.2.2]), (1, .seq (.flt .f32) s2.2)], 2⟩ hP hN (by kernel_rfl) allNil ?_
    refine HT.seq ?_
    rcases of_bif hx6 with ⟨hb8, hx6⟩ | ⟨hb8, hx6⟩
    · refine HT.cond1 rfl hb8 ?_
      refine HT.skip (qThen ?_)
      refine HT.seq ?_
      refine HT.block ?_
      refine HT.reg1 [1, 2, 3, 7, 8, 14, 15] [⟨none, .no⟩, ⟨none, .no⟩] ⟨[(1, .one (.dat (.sl (.flt .f32)) a1)), (2, .one (.dat (.int .i64) a2)), (3, .one (.ptr 0 0)), (7, .one (.all 1)), (8, .one (.dat (.int .i64) s2.1)), (14, .one (.dat (.int .i64) a0.1)), (15, .one (.dat (.int .i64) s2.1))], [(0, .box [.dat (.int .i64) a0.1, .dat (.int .i64) a0.2.1, .dat (.sl (.flt .f32)) a0.2.2.1, .dat (.sl (.flt .f32)) a0.2.2.2.1, .dat (.sl (.flt .f32)) a0.2.2.2.2]), (1, .seq (.flt .f32) s2.2)], 2⟩ hP hN (by kernel_rfl) allNil ?_
      refine HT.reg1 [1, 2, 3, 7, 8, 14, 15, 19, 20] [⟨none, .no⟩, ⟨none, .no⟩, ⟨none, .no⟩] ⟨[(1, .one (.dat (.sl (.flt .f32)) a1)), (2, .one (.dat (.int .i64) a2)), (3, .one (.ptr 0 0)), (7, .one (.all 1)), (8, .one (.dat (.int .i64) s2.1)), (14, .one (.dat (.int .i64) a0.1)), (15, .one (.dat (.int .i64) s2.1)), (19, .one (.dat (.int .i64) a0.1)), (20, .one (.dat (.int .i64) (0 : Int)))], [(0, .box [.dat (.int .i64) a0.1, .dat (.int .i64) a0.2.1, .dat (.sl (.flt .f32)) a0.2.2.1, .dat (.sl (.flt .f32)) a0.2.2.2.1, .dat (.sl (.flt .f32)) a0.2.2.2.2]), (1, .seq (.flt .f32) s2.2)], 2⟩ hP hN (by kernel_rfl) allNil ?_
      refine HT.block ?_
      obtain ⟨r10, hL22, hx6⟩ := of_bind hx6
      refine (Le.cv (s := ⟨[(0, 0), (1, 1)], [], [], false⟩) (own := []) (ps := [a1 = a1, a2 = a2, s2.1 = s2.1, a0.1 = a0.1, s2.1 = s2.1, a0.1 = a0.1, (0 : Int) = (0 : Int), a0.1 = a0.1, a0.2.1 = a0.2.1, a0.2.2.1 = a0.2.2.1, a0.2.2.2.1 = a0.2.2.2.1, a0.2.2.2.2 = a0.2.2.2.2, s2.2 = s2.2]) (st' := ⟨[(1, .one (.dat (.sl (.flt .f32)) a1)), (2, .one (.dat (.int .i64) a2)), (3, .one (.ptr 0 0)), (7, .one (.all 1)), (8, .one (.dat (.int .i64) s2.1)), (14, .one (.dat (.int .i64) a0.1)), (15, .one (.dat (.int .i64) s2.1)), (19, .one (.dat (.int .i64) a0.1)), (20, .one (.dat (.int .i64) (0 : Int)))], [(0, .box [.dat (.int .i64) a0.1, .dat (.int .i64) a0.2.1, .dat (.sl (.flt .f32)) a0.2.2.1, .dat (.sl (.flt .f32)) a0.2.2.2.1, .dat (.sl (.flt .f32)) a0.2.2.2.2]), (1, .seq (.flt .f32) s2.2)], 2⟩) hO (fun h => by cases h) (by kernel_rfl) ⟨rfl, rfl, rfl, rfl, rfl, rfl, rfl, rfl, rfl, rfl, rfl, rfl, rfl, trivial⟩).ht ?_
      refine HT.loopE (s := ((0 : Int), s2.2)) (fun (s9 : Int × List Nat) => ⟨[(1, .one (.dat (.sl (.flt .f32)) a1)), (2, .one (.dat (.int .i64) a2)), (3, .one (.ptr 0 0)), (7, .one (.all 1)), (8, .one (.dat (.int .i64) s2.1)), (14, .one (.dat (.int .i64) a0.1)), (15, .one (.dat (.int .i64) s2.1)), (19, .one (.dat (.int .i64) a0.1)), (20, .one (.dat (.int .i64) s9.1))], [(0, .box [.dat (.int .i64) a0.1, .dat (.int .i64) a0.2.1, .dat (.sl (.flt .f32)) a0.2.2.1, .dat (.sl (.flt .f32)) a0.2.2.2.1, .dat (.sl (.flt .f32)) a0.2.2.2.2]), (1, .seq (.flt .f32) s9.2)], 2⟩) (fun (r11 : List Nat) => (.exit 2, ⟨[(1, .one (.dat (.sl (.flt .f32)) a1)), (2, .one (.dat (.int .i64) a2)), (3, .one (.ptr 0 0)), (7, .one (.all 1)), (14, .one (.dat (.int .i64) a0.1)), (15, .one (.dat (.int .i64) s2.1))], [(0, .box [.dat (.int .i64) a0.1, .dat (.int .i64) a0.2.1, .dat (.sl (.flt .f32)) a0.2.2.1, .dat (.sl (.flt .f32)) a0.2.2.2.1, .dat (.sl (.flt .f32)) a0.2.2.2.2]), (1, .seq (.flt .f32) r11)], 2⟩)) hL22 ?_ (fun s9 x12 hx13 hk14 => ?_)
      · refine (qBlockX (qBlock (qThen ?_)))
        have hx6 := of_some hx6
        subst hx6
        refine HT.reg (rs := [⟨none, .no⟩, ⟨none, .no⟩]) (st' := ⟨[(15, .one (.dat (.int .i64) (wadd .i64 s2.1 (1 : Int)))), (46, .one (.dat (.int .i64) (wadd .i64 s2.1 (1 : Int)))), (1, .one (.dat (.sl (.flt .f32)) a1)), (2, .one (.dat (.int .i64) a2)), (3, .one (.ptr 0 0)), (7, .one (.all 1)), (14, .one (.dat (.int .i64) a0.1)), (15, .one (.dat (.int .i64) s2.1))], [(0, .box [.dat (.int .i64) a0.1, .dat (.int .i64) a0.2.1, .dat (.sl (.flt .f32)) a0.2.2.1, .dat (.sl (.flt .f32)) a0.2.2.2.1, .dat (.sl (.flt .f32)) a0.2.2.2.2]), (1, .seq (.flt .f32) r10)], 2⟩) hP hN (by kernel_rfl) allNil (qLoopN ⟨((wadd .i64 s2.1 (1 : Int)), r10), rfl, Le.cv (s := ⟨[(0, 0), (1, 1)], [], [], false⟩) (own := []) (ps := [a1 = a1, a2 = a2, a0.1 = a0.1, (wadd .i64 s2.1 (1 : Int)) = (wadd .i64 s2.1 (1 : Int)), a0.1 = a0.1, a0.2.1 = a0.2.1, a0.2.2.1 = a0.2.2.1, a0.2.2.2.1 = a0.2.2.2.1, a0.2.2.2.2 = a0.2.2.2.2, r10 = r10]) (st' := ⟨[(1, .one (.dat (.sl (.flt .f32)) a1)), (2, .one (.dat (.int .i64) a2)), (3, .one (.ptr 0 0)), (7, .one (.all 1)), (14, .one (.dat (.int .i64) a0.1)), (15, .one (.dat (.int .i64) (wadd .i64 s2.1 (1 : Int))))], [(0, .box [.dat (.int .i64) a0.1, .dat (.int .i64) a0.2.1, .dat (.sl (.flt .f32)) a0.2.2.1, .dat (.sl (.flt .f32)) a0.2.2.2.1, .dat (.sl (.flt .f32)) a0.2.2.2.2]), (1, .seq (.flt .f32) r10)], 2⟩) hO (fun h => by cases h) (by kernel_rfl) ⟨rfl, rfl, rfl, rfl, rfl, rfl, rfl, rfl, rfl, rfl, trivial⟩⟩)
      · refine HT.reg1 [1, 2, 3, 7, 8, 14, 15, 19, 20, 21] [⟨none, .no⟩] ⟨[(1, .one (.dat (.sl (.flt .f32)) a1)), (2, .one (.dat (.int .i64) a2)), (3, .one (.ptr 0 0)), (7, .one (.all 1)), (8, .one (.dat (.int .i64) s2.1)), (14, .one (.dat (.int .i64) a0.1)), (15, .one (.dat (.int .i64) s2.1)), (19, .one (.dat (.int .i64) a0.1)), (20, .one (.dat (.int .i64) s9.1)), (21, .one (.dat .bool (decide (s9.1 < a0.1))))], [(0, .box [.dat (.int .i64) a0.1, .dat (.int .i64) a0.2.1, .dat (.sl (.flt .f32)) a0.2.2.1, .dat (.sl (.flt .f32)) a0.2.2.2.1, .dat (.sl (.flt .f32)) a0.2.2.2.2]), (1, .seq (.flt .f32) s9.2)], 2⟩ hP hN (by kernel_rfl) allNil ?_
        refine HT.seq ?_
        rcases of_bif hx13 with ⟨hb15, hx13⟩ | ⟨hb15, hx13⟩
        · refine HT.cond1 rfl hb15 ?_
          refine HT.skip (qThen ?_)
          refine HT.seq ?_
          refine HT.block ?_
          refine HT.reg1 [1, 2, 3, 7, 8, 9, 14, 15, 19, 20] [⟨none, .no⟩, ⟨none, .no⟩] ⟨[(1, .one (.dat (.sl (.flt .f32)) a1)), (2, .one (.dat (.int .i64) a2)), (3, .one (.ptr 0 0)), (7, .one (.all 1)), (8, .one (.dat (.int .i64) s2.1)), (9, .one (.dat (.int .i64) s9.1)), (14, .one (.dat (.int .i64) a0.1)), (15, .one (.dat (.int .i64) s2.1)), (19, .one (.dat (.int .i64) a0.1)), (20, .one (.dat (.int .i64) s9.1))], [(0, .box [.dat (.int .i64) a0.1, .dat (.int .i64) a0.2.1, .dat (.sl (.flt .f32)) a0.2.2.1, .dat (.sl (.flt .f32)) a0.2.2.2.1, .dat (.sl (.flt .f32)) a0.2.2.2.2]), (1, .seq (.flt .f32) s9.2)], 2⟩ hP hN (by kernel_rfl) allNil ?_
          obtain ⟨hg16, hx13⟩ := of_guard hx13
          obtain ⟨hg17, hx13⟩ := of_guard hx13
          obtain ⟨y18, hc19, hx13⟩ := of_bind hx13
          obtain ⟨y20, hc21, hx13⟩ := of_bind hx13
          refine drawS (h := 21) (hrs := [⟨⟨none, .no⟩, []⟩, ⟨⟨none, .no⟩, []⟩, ⟨⟨none, .no⟩, []⟩, ⟨⟨none, .no⟩, []⟩, ⟨⟨none, .no⟩, [2, 3]⟩, ⟨⟨none, .no⟩, [2, 3, 4]⟩, ⟨⟨none, .no⟩, []⟩, ⟨⟨none, .no⟩, []⟩, ⟨⟨none, .no⟩, [6, 7]⟩, ⟨⟨none, .no⟩, [6, 7, 8]⟩, ⟨⟨none, .no⟩, []⟩, ⟨⟨none, .no⟩, []⟩, ⟨⟨none, .no⟩, []⟩, ⟨⟨none, .call [.imm (.st (.pair (.int .i64) (.pair (.int .i64) (.pair (.sl (.flt .f32)) (.pair (.sl (.flt .f32)) (.sl (.flt .f32))))))), .imm (.int .i64), .imm (.int .i64)] [⟨false, (.flt .f32), y18⟩] []⟩, [10, 11, 12]⟩, ⟨⟨none, .no⟩, [6, 7, 8, 9, 10, 11, 12, 13]⟩, ⟨⟨none, .no⟩, []⟩, ⟨⟨none, .no⟩, []⟩, ⟨⟨none, .no⟩, []⟩, ⟨⟨none, .call [.imm (.st (.pair (.int .i64) (.pair (.int .i64) (.pair (.sl (.flt .f32)) (.pair (.sl (.flt .f32)) (.sl (.flt .f32))))))), .imm (.int .i64), .imm (.int .i64)] [⟨false, (.flt .f32), y20⟩] []⟩, [10, 11, 12, 13, 15, 16, 17]⟩, ⟨⟨none, .no⟩, [6, 7, 8, 9, 10, 11, 12, 13, 14, 15, 16, 17, 18]⟩, ⟨⟨none, .no⟩, [2, 3, 4, 5, 6, 7, 8, 9, 10, 11, 12, 13, 14, 15, 16, 17, 18, 19]⟩]) (tds := [[0, 1, 2, 3, 4, 5, 6, 7, 8, 9, 10, 11, 12, 13, 14, 15, 16, 17, 18, 19, 20], [0, 1, 2, 3, 4, 5, 6, 7, 8, 9, 10, 11, 12, 13, 14, 15, 16, 17, 18, 19, 20, 21]]) (rs := [⟨none, .no⟩, ⟨none, .no⟩]) (st' := ⟨[(44, .one (.elp 1 (Int.toNat s2.1) 1 0)), (43, .one (.dat (.flt .f32) (fop .add .f32 (List.getD s9.2 (Int.toNat s2.1) (0 : Nat)) (fop .mul .f32 (fop .mul .f32 (List.getD a1 (Int.toNat s9.1) (0 : Nat)) y18) y20)))), (42, .one (.dat (.flt .f32) (fop .mul .f32 (fop .mul .f32 (List.getD a1 (Int.toNat s9.1) (0 : Nat)) y18) y20))), (41, .one (.dat (.flt .f32) y20)), (40, .one (.dat (.int .i64) s2.1)), (39, .one (.dat (.int .i64) s9.1)), (38, .agg [.dat (.int .i64) a0.1, .dat (.int .i64) a0.2.1, .dat (.sl (.flt .f32)) a0.2.2.1, .dat (.sl (.flt .f32)) a0.2.2.2.1, .dat (.sl (.flt .f32)) a0.2.2.2.2]), (37, .one (.dat (.flt .f32) (fop .mul .f32 (List.getD a1 (Int.toNat s9.1) (0 : Nat)) y18))), (36, .one (.dat (.flt .f32) y18)), (35, .one (.dat (.int .i64) a2)), (34, .one (.dat (.int .i64) s9.1)), (33, .agg [.dat (.int .i64) a0.1, .dat (.int .i64) a0.2.1, .dat (.sl (.flt .f32)) a0.2.2.1, .dat (.sl (.flt .f32)) a0.2.2.2.1, .dat (.sl (.flt .f32)) a0.2.2.2.2]), (32, .one (.dat (.flt .f32) (List.getD a1 (Int.toNat s9.1) (0 : Nat)))), (31, .one (.ip (.flt .f32) (List.getD a1 (Int.toNat s9.1) (0 : Nat)) 0)), (30, .one (.dat (.int .i64) s9.1)), (29, .one (.dat (.sl (.flt .f32)) a1)), (28, .one (.dat (.flt .f32) (List.getD s9.2 (Int.toNat s2.1) (0 : Nat)))), (27, .one (.elp 1 (Int.toNat s2.1) 1 0)), (26, .one (.dat (.int .i64) s2.1)), (25, .one (.all 1)), (24, .one (.dat (.int .i64) s2.1)), (23, .one (.all 1)), (1, .one (.dat (.sl (.flt .f32)) a1)), (2, .one (.dat (.int .i64) a2)), (3, .one (.ptr 0 0)), (7, .one (.all 1)), (8, .one (.dat (.int .i64) s2.1)), (9, .one (.dat (.int .i64) s9.1)), (14, .one (.dat (.int .i64) a0.1)), (15, .one (.dat (.int .i64) s2.1)), (19, .one (.dat (.int .i64) a0.1)), (20, .one (.dat (.int .i64) s9.1))], [(1, .seq (.flt .f32) (List.set s9.2 (Int.toNat s2.1) (fop .add .f32 (List.getD s9.2 (Int.toNat s2.1) (0 : Nat)) (fop .mul .f32 (fop .mul .f32 (List.getD a1 (Int.toNat s9.1) (0 : Nat)) y18) y20)))), (0, .box [.dat (.int .i64) a0.1, .dat (.int .i64) a0.2.1, .dat (.sl (.flt .f32)) a0.2.2.1, .dat (.sl (.flt .f32)) a0.2.2.2.1, .dat (.sl (.flt .f32)) a0.2.2.2.2]), (1, .seq (.flt .f32) s9.2)], 2⟩) hP hN (by kernel_rfl) (by kernel_rfl) (allCons hg16 (allCons (natLt hg16) (allCons hg17 (allCons (f83_ok hc19) (allCons (f84_ok hc21) (allCons hg16 (allCons (natLt hg16) allNil))))))) (qBlock (qThen ?_))
          have hx13 := of_some hx13
          subst hx13
          refine HT.reg (rs := [⟨none, .no⟩, ⟨none, .no⟩]) (st' := ⟨[(20, .one (.dat (.int .i64) (wadd .i64 s9.1 (1 : Int)))), (45, .one (.dat (.int .i64) (wadd .i64 s9.1 (1 : Int)))), (44, .one (.elp 1 (Int.toNat s2.1) 1 0)), (43, .one (.dat (.flt .f32) (fop .add .f32 (List.getD s9.2 (Int.toNat s2.1) (0 : Nat)) (fop .mul .f32 (fop .mul .f32 (List.getD a1 (Int.toNat s9.1) (0 : Nat)) y18) y20)))), (42, .one (.dat (.flt .f32) (fop .mul .f32 (fop .mul .f32 (List.getD a1 (Int.toNat s9.1) (0 : Nat)) y18) y20))), (41, .one (.dat (.flt .f32) y20)), (40, .one (.dat (.int .i64) s2.1)), (39, .one (.dat (.int .i64) s9.1)), (38, .agg [.dat (.int .i64) a0.1, .dat (.int .i64) a0.2.1, .dat (.sl (.flt .f32)) a0.2.2.1, .dat (.sl (.flt .f32)) a0.2.2.2.1, .dat (.sl (.flt .f32)) a0.2.2.2.2]), (37, .one (.dat (.flt .f32) (fop .mul .f32 (List.getD a1 (Int.toNat s9.1) (0 : Nat)) y18))), (36, .one (.dat (.flt .f32) y18)), (35, .one (.dat (.int .i64) a2)), (34, .one (.dat (.int .i64) s9.1)), (33, .agg [.dat (.int .i64) a0.1, .dat (.int .i64) a0.2.1, .dat (.sl (.flt .f32)) a0.2.2.1, .dat (.sl (.flt .f32)) a0.2.2.2.1, .dat (.sl (.flt .f32)) a0.2.2.2.2]), (32, .one (.dat (.flt .f32) (List.getD a1 (Int.toNat s9.1) (0 : Nat)))), (31, .one (.ip (.flt .f32) (List.getD a1 (Int.toNat s9.1) (0 : Nat)) 0)), (30, .one (.dat (.int .i64) s9.1)), (29, .one (.dat (.sl (.flt .f32)) a1)), (28, .one (.dat (.flt .f32) (List.getD s9.2 (Int.toNat s2.1) (0 : Nat)))), (27, .one (.elp 1 (Int.toNat s2.1) 1 0)), (26, .one (.dat (.int .i64) s2.1)), (25, .one (.all 1)), (24, .one (.dat (.int .i64) s2.1)), (23, .one (.all 1)), (1, .one (.dat (.sl (.flt .f32)) a1)), (2, .one (.dat (.int .i64) a2)), (3, .one (.ptr 0 0)), (7, .one (.all 1)), (8, .one (.dat (.int .i64) s2.1)), (9, .one (.dat (.int .i64) s9.1)), (14, .one (.dat (.int .i64) a0.1)), (15, .one (.dat (.int .i64) s2.1)), (19, .one (.dat (.int .i64) a0.1)), (20, .one (.dat (.int .i64) s9.1))], [(1, .seq (.flt .f32) (List.set s9.2 (Int.toNat s2.1) (fop .add .f32 (List.getD s9.2 (Int.toNat s2.1) (0 : Nat)) (fop .mul .f32 (fop .mul .f32 (List.getD a1 (Int.toNat s9.1) (0 : Nat)) y18) y20)))), (0, .box [.dat (.int .i64) a0.1, .dat (.int .i64) a0.2.1, .dat (.sl (.flt .f32)) a0.2.2.1, .dat (.sl (.flt .f32)) a0.2.2.2.1, .dat (.sl (.flt .f32)) a0.2.2.2.2]), (1, .seq (.flt .f32) s9.2)], 2⟩) hP hN (by kernel_rfl) allNil (qLoopN ⟨((wadd .i64 s9.1 (1 : Int)), (List.set s9.2 (Int.toNat s2.1) (fop .add .f32 (List.getD s9.2 (Int.toNat s2.1) (0 : Nat)) (fop .mul .f32 (fop .mul .f32 (List.getD a1 (Int.toNat s9.1) (0 : Nat)) y18) y20)))), rfl, Le.cv (s := ⟨[(0, 0), (1, 1)], [], [], false⟩) (own := []) (ps := [a1 = a1, a2 = a2, s2.1 = s2.1, a0.1 = a0.1, s2.1 = s2.1, a0.1 = a0.1, (wadd .i64 s9.1 (1 : Int)) = (wadd .i64 s9.1 (1 : Int)), a0.1 = a0.1, a0.2.1 = a0.2.1, a0.2.2.1 = a0.2.2.1, a0.2.2.2.1 = a0.2.2.2.1, a0.2.2.2.2 = a0.2.2.2.2, (List.set s9.2 (Int.toNat s2.1) (fop .add .f32 (List.getD s9.2 (Int.toNat s2.1) (0 : Nat)) (fop .mul .f32 (fop .mul .f32 (List.getD a1 (Int.toNat s9.1) (0 : Nat)) y18) y20))) = (List.set s9.2 (Int.toNat s2.1) (fop .add .f32 (List.getD s9.2 (Int.toNat s2.1) (0 : Nat)) (fop .mul .f32 (fop .mul .f32 (List.getD a1 (Int.toNat s9.1) (0 : Nat)) y18) y20)))]) (st' := ⟨[(1, .one (.dat (.sl (.flt .f32)) a1)), (2, .one (.dat (.int .i64) a2)), (3, .one (.ptr 0 0)), (7, .one (.all 1)), (8, .one (.dat (.int .i64) s2.1)), (14, .one (.dat (.int .i64) a0.1)), (15, .one (.dat (.int .i64) s2.1)), (19, .one (.dat (.int .i64) a0.1)), (20, .one (.dat (.int .i64) (wadd .i64 s9.1 (1 : Int))))], [(0, .box [.dat (.int .i64) a0.1, .dat (.int .i64) a0.2.1, .dat (.sl (.flt .f32)) a0.2.2.1, .dat (.sl (.flt .f32)) a0.2.2.2.1, .dat (.sl (.flt .f32)) a0.2.2.2.2]), (1, .seq (.flt .f32) (List.set s9.2 (Int.toNat s2.1) (fop .add .f32 (List.getD s9.2 (Int.toNat s2.1) (0 : Nat)) (fop .mul .f32 (fop .mul .f32 (List.getD a1 (Int.toNat s9.1) (0 : Nat)) y18) y20))))], 2⟩) hO (fun h => by cases h) (by kernel_rfl) ⟨rfl, rfl, rfl, rfl, rfl, rfl, rfl, rfl, rfl, rfl, rfl, rfl, rfl, trivial⟩⟩)
        · refine HT.cond0 rfl hb15 ?_
          have hx13 := of_some hx13
          subst hx13
          refine (Le.cv (s := ⟨[(0, 0), (1, 1)], [], [], false⟩) (own := []) (ps := [a1 = a1, a2 = a2, a0.1 = a0.1, s2.1 = s2.1, a0.1 = a0.1, a0.2.1 = a0.2.1, a0.2.2.1 = a0.2.2.1, a0.2.2.2.1 = a0.2.2.2.1, a0.2.2.2.2 = a0.2.2.2.2, s9.2 = s9.2]) (st' := ⟨[(1, .one (.dat (.sl (.flt .f32)) a1)), (2, .one (.dat (.int .i64) a2)), (3, .one (.ptr 0 0)), (7, .one (.all 1)), (14, .one (.dat (.int .i64) a0.1)), (15, .one (.dat (.int .i64) s2.1))], [(0, .box [.dat (.int .i64) a0.1, .dat (.int .i64) a0.2.1, .dat (.sl (.flt .f32)) a0.2.2.1, .dat (.sl (.flt .f32)) a0.2.2.2.1, .dat (.sl (.flt .f32)) a0.2.2.2.2]), (1, .seq (.flt .f32) s9.2)], 2⟩) hO (fun h => by cases h) (by kernel_rfl) ⟨rfl, rfl, rfl, rfl, rfl, rfl, rfl, rfl, rfl, rfl, trivial⟩).ht ?_
          exact HT.exit (qThenE (qLoopE (hk14 s9.2 rfl)))
    · refine HT.cond0 rfl hb8 ?_
      have hx6 := of_some hx6
      subst hx6
      refine (Le.cv (s := ⟨[(1, 0)], [], [], false⟩) (own := []) (ps := [s2.2 = s2.2]) (st' := ⟨[(7, .one (.all 0))], [(0, .seq (.flt .f32) s2.2)], 1⟩) hO (fun h => by cases h) (by kernel_rfl) ⟨rfl, trivial⟩).ht ?_
      exact HT.exit (qThenE (qLoopE (hk7 s2.2 rfl)))

noncomputable def impl_Model_forward_B1 (a0 : Int × Int × List Nat × List Nat × List Nat) (a1 : List Int) (s3 : Int × List (List Nat)) : Option ((Int × List (List Nat)) ⊕ (List (List Nat))) :=
  bif (decide (s3.1 < (lenI a1))) then
    guardP ((0 : Int) ≤ s3.1 ∧ s3.1 < lenI a1) (
      guardP ((0 : Int) ≤ s3.1 ∧ s3.1 < lenI s3.2) (
        (impl_Model_nextRow (a0.1, a0.2.1, a0.2.2.1, a0.2.2.2.1, a0.2.2.2.2) (List.getD s3.2 (Int.toNat s3.1) ([] : List Nat)) (List.getD a1 (Int.toNat s3.1) (0 : Int))).bind fun y12 =>
        guardP (List.length s3.2 + List.length ([y12] : List (List Nat)) ≤ appMax) (
          some (.inl ((wadd .i64 s3.1 (1 : Int)), (s3.2 ++ ([y12] : List (List Nat))))))))
  else
    some (.inr s3.2)

noncomputable def impl_Model_forward (a0 : Int × Int × List Nat × List Nat × List Nat) (a1 : List Int) : Option (List (List Nat)) :=
  (slices_Clone a0.2.2.1).bind fun y1 =>
  (rounds (impl_Model_forward_B1 a0 a1) ((0 : Int), ([y1] : List (List Nat)))).bind fun r5 =>
  some r5

theorem f56_ok {a0 : Int × Int × List Nat × List Nat × List Nat} {a1 : List Int} {r : List (List Nat)} (hr : impl_Model_forward a0 a1 = some r) : CallOK Try.prog 56 [.imm (.st (.pair (.int .i64) (.pair (.int .i64) (.pair (.sl (.flt .f32)) (.pair (.sl (.flt .f32)) (.sl (.flt .f32))))))) a0, .imm (.sl (.int .i64)) a1] [⟨false, (.sl (.sl (.flt .f32))), r⟩] [] := by
  unfold impl_Model_forward at hr
  refine CallOK.of_body (ts := [(false, (.sl (.sl (.flt .f32))))]) Try.func56 rfl (by kernel_rfl) (Nat.le_of_ble_eq_true (by kernel_rfl)) fun cx hP hN hO hF => ?_
  have hO : cx.own.map Prod.fst = [] := hO
  have hF := hF rfl
  show HT cx ⟨[(0, .agg [.dat (.int .i64) a0.1, .dat (.int .i64) a0.2.1, .dat (.sl (.flt .f32)) a0.2.2.1, .dat (.sl (.flt .f32)) a0.2.2.2.1, .dat (.sl (.flt .f32)) a0.2.2.2.2]), (1, .one (.dat (.sl (.int .i64)) a1))], [], 0⟩ _ _
  refine HT.reg1 [1, 2] [⟨none, .no⟩, ⟨none, .no⟩] ⟨[(1, .one (.dat (.sl (.int .i64)) a1)), (2, .one (.ptr 0 0))], [(0, .box [.dat (.int .i64) a0.1, .dat (.int .i64) a0.2.1, .dat (.sl (.flt .f32)) a0.2.2.1, .dat (.sl (.flt .f32)) a0.2.2.2.1, .dat (.sl (.flt .f32)) a0.2.2.2.2])], 1⟩ hP hN (by kernel_rfl) allNil ?_
  obtain ⟨y1, hc2, hr⟩ := of_bind hr
  refine HT.reg1 [1, 2, 5] [⟨none, .no⟩, ⟨none, .no⟩, ⟨none, .call [.imm (.sl (.flt .f32))] [⟨false, (.sl (.flt .f32)), y1⟩] []⟩, ⟨none, .ty (.sl (.flt .f32))⟩, ⟨none, .no⟩] ⟨[(1, .one (.dat (.sl (.int .i64)) a1)), (2, .one (.ptr 0 0)), (5, .one (.all 1))], [(1, .seq (.sl (.flt .f32)) ([y1] : List (List Nat))), (0, .box [.dat (.int .i64) a0.1, .dat (.int .i64) a0.2.1, .dat (.sl (.flt .f32)) a0.2.2.1, .dat (.sl (.flt .f32)) a0.2.2.2.1, .dat (.sl (.flt .f32)) a0.2.2.2.2])], 2⟩ hP hN (by kernel_rfl) (allCons (CallOK.frz [true] rfl (f66_ok hc2)) allNil) ?_
  refine HT.seq ?_
  refine HT.reg1 [2, 5, 12, 13, 14] [⟨none, .no⟩, ⟨none, .no⟩, ⟨none, .no⟩] ⟨[(2, .one (.ptr 0 0)), (5, .one (.all 1)), (12, .one (.dat (.sl (.int .i64)) a1)), (13, .one (.dat (.int .i64) (lenI a1))), (14, .one (.dat (.int .i64) (0 : Int)))], [(1, .seq (.sl (.flt .f32)) ([y1] : List (List Nat))), (0, .box [.dat (.int .i64) a0.1, .dat (.int .i64) a0.2.1, .dat (.sl (.flt .f32)) a0.2.2.1, .dat (.sl (.flt .f32)) a0.2.2.2.1, .dat (.sl (.flt .f32)) a0.2.2.2.2])], 2⟩ hP hN (by kernel_rfl) allNil ?_
  refine HT.block ?_
  obtain ⟨r4, hL15, hr⟩ := of_bind hr
  refine (Le.cv (s := ⟨[(0, 0), (1, 1)], [], [], false⟩) (own := []) (ps := [a1 = a1, (lenI a1) = (lenI a1), (0 : Int) = (0 : Int), a0.1 = a0.1, a0.2.1 = a0.2.1, a0.2.2.1 = a0.2.2.1, a0.2.2.2.1 = a0.2.2.2.1, a0.2.2.2.2 = a0.2.2.2.2, ([y1] : List (List Nat)) = ([y1] : List (List Nat))]) (st' := ⟨[(2, .one (.ptr 0 0)), (5, .one (.all 1)), (12, .one (.dat (.sl (.int .i64)) a1)), (13, .one (.dat (.int .i64) (lenI a1))), (14, .one (.dat (.int .i64) (0 : Int)))], [(0, .box [.dat (.int .i64) a0.1, .dat (.int .i64) a0.2.1, .dat (.sl (.flt .f32)) a0.2.2.1, .dat (.sl (.flt .f32)) a0.2.2.2.1, .dat (.sl (.flt .f32)) a0.2.2.2.2]), (1, .seq (.sl (.flt .f32)) ([y1] : List (List Nat)))], 2⟩) hO (fun h => by cases h) (by kernel_rfl) ⟨rfl, rfl, rfl, rfl, rfl, rfl, rfl, rfl, rfl, trivial⟩).ht ?_
  refine HT.loopE (s := ((0 : Int), ([y1] : List (List Nat)))) (fun (s3 : Int × List (List Nat)) => ⟨[(2, .one (.ptr 0 0)), (5, .one (.all 1)), (12, .one (.dat (.sl (.int .i64)) a1)), (13, .one (.dat (.int .i64) (lenI a1))), (14, .one (.dat (.int .i64) s3.1))], [(0, .box [.dat (.int .i64) a0.1, .dat (.int .i64) a0.2.1, .dat (.sl (.flt .f32)) a0.2.2.1, .dat (.sl (.flt .f32)) a0.2.2.2.1, .dat (.sl (.flt .f32)) a0.2.2.2.2]), (1, .seq (.sl (.flt .f32)) s3.2)], 2⟩) (fun (r5 : List (List Nat)) => (.exit 0, ⟨[(5, .one (.all 0))], [(0, .seq (.sl (.flt .f32)) r5)], 1⟩)) hL15 ?_ (fun s3 x6 hx7 hk8 => ?_)
  · refine (qBlockX (qThen ?_))
    refine HT.reg1 [4] [⟨none, .no⟩, ⟨none, .no⟩] ⟨[(4, .one (.all 0))], [(0, .seq (.sl (.flt .f32)) r4)], 1⟩ hP hN (by kernel_rfl) allNil ?_
    have hr := of_some hr
    subst hr
    refine (Le.cv (s := ⟨[], [], [], true⟩) (own := []) (ps := [r4 = r4]) (st' := ⟨[(4, .one (.dat (.sl (.sl (.flt .f32))) r4))], [], 1⟩) hO (fun _ => hF) (by kernel_rfl) ⟨rfl, trivial⟩).ht ?_
    exact HT.ret ⟨[.one (.dat (.sl (.sl (.flt .f32))) r4)], [], [], by kernel_rfl, by kernel_rfl, rfl, by kernel_rfl, by kernel_rfl, trivial⟩
  · refine HT.reg1 [2, 5, 12, 13, 14, 15] [⟨none, .no⟩] ⟨[(2, .one (.ptr 0 0)), (5, .one (.all 1)), (12, .one (.dat (.sl (.int .i64)) a1)), (13, .one (.dat (.int .i64) (lenI a1))), (14, .one (.dat (.int .i64) s3.1)), (15, .one (.dat .bool (decide (s3.1 < (lenI a1)))))], [(0, .box [.dat (.int .i64) a0.1, .dat (.int .i64) a0.2.1, .dat (.sl (.flt .f32)) a0.2.2.1, .dat (.sl (.flt .f32)) a0.2.2.2.1, .dat (.sl (.flt .f32)) a0.2.2.2.2]), (1, .seq (.sl (.flt .f32)) s3.2)], 2⟩ hP hN (by kernel_rfl) allNil ?_
    refine HT.seq ?_
    rcases of_bif hx7 with ⟨hb9, hx7⟩ | ⟨hb9, hx7⟩
    · refine HT.cond1 rfl hb9 ?_
      refine HT.skip (qThen ?_)
      refine HT.seq ?_
      refine HT.block ?_
      obtain ⟨hg10, hx7⟩ := of_guard hx7
      refine HT.reg1 [2, 5, 6, 7, 12, 13, 14] [⟨none, .no⟩, ⟨none, .no⟩, ⟨none, .no⟩, ⟨none, .no⟩, ⟨none, .no⟩] ⟨[(2, .one (.ptr 0 0)), (5, .one (.all 1)), (6, .one (.dat (.int .i64) s3.1)), (7, .one (.dat (.int .i64) (List.getD a1 (Int.toNat s3.1) (0 : Int)))), (12, .one (.dat (.sl (.int .i64)) a1)), (13, .one (.dat (.int .i64) (lenI a1))), (14, .one (.dat (.int .i64) s3.1))], [(0, .box [.dat (.int .i64) a0.1, .dat (.int .i64) a0.2.1, .dat (.sl (.flt .f32)) a0.2.2.1, .dat (.sl (.flt .f32)) a0.2.2.2.1, .dat (.sl (.flt .f32)) a0.2.2.2.2]), (1, .seq (.sl (.flt .f32)) s3.2)], 2⟩ hP hN (by kernel_rfl) (allCons hg10 allNil) ?_
      obtain ⟨hg11, hx7⟩ := of_guard hx7
      obtain ⟨y12, hc13, hx7⟩ := of_bind hx7
      obtain ⟨hg14, hx7⟩ := of_guard hx7
      refine drawS (h := 9) (hrs := [⟨⟨none, .no⟩, []⟩, ⟨⟨none, .no⟩, []⟩, ⟨⟨none, .no⟩, []⟩, ⟨⟨none, .no⟩, []⟩, ⟨⟨none, .no⟩, [2, 3]⟩, ⟨⟨none, .no⟩, [2, 3, 4]⟩, ⟨⟨none, .no⟩, []⟩, ⟨⟨none, .call [.imm (.st (.pair (.int .i64) (.pair (.int .i64) (.pair (.sl (.flt .f32)) (.pair (.sl (.flt .f32)) (.sl (.flt .f32))))))), .imm (.sl (.flt .f32)), .imm (.int .i64)] [⟨false, (.sl (.flt .f32)), y12⟩] []⟩, [1, 2, 3, 4, 5, 6]⟩, ⟨⟨none, .ty (.sl (.flt .f32))⟩, [1, 2, 3, 4, 5, 6, 7]⟩]) (tds := [[0, 1, 2, 3, 4, 5, 6, 7, 8], [0, 1, 2, 3, 4, 5, 6, 7, 8, 9]]) (rs := [⟨none, .ty (.sl (.flt .f32))⟩, ⟨none, .no⟩]) (st' := ⟨[(5, .one (.all 3)), (28, .one (.all 3)), (27, .one (.all 2)), (26, .one (.dat (.sl (.flt .f32)) y12)), (25, .one (.dat (.int .i64) (List.getD a1 (Int.toNat s3.1) (0 : Int)))), (24, .one (.dat (.sl (.flt .f32)) (List.getD s3.2 (Int.toNat s3.1) ([] : List Nat)))), (23, .one (.elp 1 (Int.toNat s3.1) 1 0)), (22, .one (.dat (.int .i64) s3.1)), (21, .one (.all 1)), (20, .agg [.dat (.int .i64) a0.1, .dat (.int .i64) a0.2.1, .dat (.sl (.flt .f32)) a0.2.2.1, .dat (.sl (.flt .f32)) a0.2.2.2.1, .dat (.sl (.flt .f32)) a0.2.2.2.2]), (19, .one (.all 1)), (2, .one (.ptr 0 0)), (5, .one (.all 1)), (6, .one (.dat (.int .i64) s3.1)), (7, .one (.dat (.int .i64) (List.getD a1 (Int.toNat s3.1) (0 : Int)))), (12, .one (.dat (.sl (.int .i64)) a1)), (13, .one (.dat (.int .i64) (lenI a1))), (14, .one (.dat (.int .i64) s3.1))], [(1, .gone), (3, .seq (.sl (.flt .f32)) (s3.2 ++ ([y12] : List (List Nat)))), (2, .seq (.sl (.flt .f32)) ([y12] : List (List Nat))), (0, .box [.dat (.int .i64) a0.1, .dat (.int .i64) a0.2.1, .dat (.sl (.flt .f32)) a0.2.2.1, .dat (.sl (.flt .f32)) a0.2.2.2.1, .dat (.sl (.flt .f32)) a0.2.2.2.2]), (1, .seq (.sl (.flt .f32)) s3.2)], 4⟩) hP hN (by kernel_rfl) (by kernel_rfl) (allCons hg11 (allCons (natLt hg11) (allCons (CallOK.frz [true] rfl (f88_ok hc13)) (allCons hg14 allNil)))) (qBlock (qThen ?_))
      have hx7 := of_some hx7
      subst hx7
      refine HT.reg (rs := [⟨none, .no⟩, ⟨none, .no⟩]) (st' := ⟨[(14, .one (.dat (.int .i64) (wadd .i64 s3.1 (1 : Int)))), (29, .one (.dat (.int .i64) (wadd .i64 s3.1 (1 : Int)))), (5, .one (.all 3)), (28, .one (.all 3)), (27, .one (.all 2)), (26, .one (.dat (.sl (.flt .f32)) y12)), (25, .one (.dat (.int .i64) (List.getD a1 (Int.toNat s3.1) (0 : Int)))), (24, .one (.dat (.sl (.flt .f32)) (List.getD s3.2 (Int.toNat s3.1) ([] : List Nat)))), (23, .one (.elp 1 (Int.toNat s3.1) 1 0)), (22, .one (.dat (.int .i64) s3.1)), (21, .one (.all 1)), (20, .agg [.dat (.int .i64) a0.1, .dat (.int .i64) a0.2.1, .dat (.sl (.flt .f32)) a0.2.2.1, .dat (.sl (.flt .f32)) a0.2.2.2.1, .dat (.sl (.flt .f32)) a0.2.2.2.2]), (19, .one (.all 1)), (2, .one (.ptr 0 0)), (5, .one (.all 1)), (6, .one (.dat (.int .i64) s3.1)), (7, .one (.dat (.int .i64) (List.getD a1 (Int.toNat s3.1) (0 : Int)))), (12, .one (.dat (.sl (.int .i64)) a1)), (13, .one (.dat (.int .i64) (lenI a1))), (14, .one (.dat (.int .i64) s3.1))], [(1, .gone), (3, .seq (.sl (.flt .f32)) (s3.2 ++ ([y12] : List (List Nat)))), (2, .seq (.sl (.flt .f32)) ([y12] : List (List Nat))), (0, .box [.dat (.int .i64) a0.1, .dat (.int .i64) a0.2.1, .dat (.sl (.flt .f32)) a0.2.2.1, .dat (.sl (.flt .f32)) a0.2.2.2.1, .dat (.sl (.flt .f32)) a0.2.2.2.2]), (1, .seq (.sl (.flt .f32)) s3.2)], 4⟩) hP hN (by kernel_rfl) allNil (qLoopN ⟨((wadd .i64 s3.1 (1 : Int)), (s3.2 ++ ([y12] : List (List Nat)))), rfl, Le.cv (s := ⟨[(0, 0), (3, 1)], [], [], false⟩) (own := []) (ps := [a1 = a1, (lenI a1) = (lenI a1), (wadd .i64 s3.1 (1 : Int)) = (wadd .i64 s3.1 (1 : Int)), a0.1 = a0.1, a0.2.1 = a0.2.1, a0.2.2.1 = a0.2.2.1, a0.2.2.2.1 = a0.2.2.2.1, a0.2.2.2.2 = a0.2.2.2.2, (s3.2 ++ ([y12] : List (List Nat))) = (s3.2 ++ ([y12] : List (List Nat)))]) (st' := ⟨[(2, .one (.ptr 0 0)), (5, .one (.all 1)), (12, .one (.dat (.sl (.int .i64)) a1)), (13, .one (.dat (.int .i64) (lenI a1))), (14, .one (.dat (.int .i64) (wadd .i64 s3.1 (1 : Int))))], [(0, .box [.dat (.int .i64) a0.1, .dat (.int .i64) a0.2.1, .dat (.sl (.flt .f32)) a0.2.2.1, .dat (.sl (.flt .f32)) a0.2.2.2.1, .dat (.sl (.flt .f32)) a0.2.2.2.2]), (1, .seq (.sl (.flt .f32)) (s3.2 ++ ([y12] : List (List Nat))))], 2⟩) hO (fun h => by cases h) (by kernel_rfl) ⟨rfl, rfl, rfl, rfl, rfl, rfl, rfl, rfl, rfl, trivial⟩⟩)
    · refine HT.cond0 rfl hb9 ?_
      have hx7 := of_some hx7
      subst hx7
      refine (Le.cv (s := ⟨[(1, 0)], [], [], false⟩) (own := []) (ps := [s3.2 = s3.2]) (st' := ⟨[(5, .one (.all 0))], [(0, .seq (.sl (.flt .f32)) s3.2)], 1⟩) hO (fun h => by cases h) (by kernel_rfl) ⟨rfl, trivial⟩).ht ?_
      exact HT.exit (qThenE (qLoopE (hk8 s3.2 rfl)))

noncomputable def math_bits_Mul64 (a0 : Int) (a1 : Int) : Option (Int × Int) :=
  (some (IntKind.wrap .u64 (BitVec.ofInt (IntKind.bits .u64) a0 &&& BitVec.ofInt (IntKind.bits .u64) (4294967295 : Int)).toNat)).bind fun q1 =>
  (some (IntKind.wrap .u64 (BitVec.ofInt (IntKind.bits .u64) a1 &&& BitVec.ofInt (IntKind.bits .u64) (4294967295 : Int)).toNat)).bind fun q3 =>
  (some (wadd .u64 (wmul .u64 (Int.fdiv a0 (2 ^ (min (Int.toNat (32 : Int)) (IntKind.bits .u64)))) q3) (Int.fdiv (wmul .u64 q1 q3) (2 ^ (min (Int.toNat (32 : Int)) (IntKind.bits .u64)))))).bind fun q5 =>
  (some (IntKind.wrap .u64 (BitVec.ofInt (IntKind.bits .u64) q5 &&& BitVec.ofInt (IntKind.bits .u64) (4294967295 : Int)).toNat)).bind fun q7 =>
  (some (wadd .u64 q7 (wmul .u64 q1 (Int.fdiv a1 (2 ^ (min (Int.toNat (32 : Int)) (IntKind.bits .u64))))))).bind fun q9 =>
  (some (wadd .u64 (wadd .u64 (wmul .u64 (Int.fdiv a0 (2 ^ (min (Int.toNat (32 : Int)) (IntKind.bits .u64)))) (Int.fdiv a1 (2 ^ (min (Int.toNat (32 : Int)) (IntKind.bits .u64))))) (Int.fdiv q5 (2 ^ (min (Int.toNat (32 : Int)) (IntKind.bits .u64))))) (Int.fdiv q9 (2 ^ (min (Int.toNat (32 : Int)) (IntKind.bits .u64)))))).bind fun q11 =>
  some (q11, (wmul .u64 a0 a1))

theorem f130_ok {a0 : Int} {a1 : Int} {r : Int × Int} (hr : math_bits_Mul64 a0 a1 = some r) : CallOK Try.prog 130 [.imm (.int .u64) a0, .imm (.int .u64) a1] [⟨false, (.int .u64), r.1⟩, ⟨false, (.int .u64), r.2⟩] [] := by
  unfold math_bits_Mul64 at hr
  refine CallOK.of_body (ts := [(false, (.int .u64)), (false, (.int .u64))]) Try.func130 rfl (by kernel_rfl) (Nat.le_of_ble_eq_true (by kernel_rfl)) fun cx hP hN hO hF => ?_
  have hO : cx.own.map Prod.fst = [] := hO
  have hF := hF rfl
  show HT cx ⟨[(0, .one (.dat (.int .u64) a0)), (1, .one (.dat (.int .u64) a1))], [], 0⟩ _ _
  refine HT.reg1 [0, 1] [⟨none, .no⟩, ⟨none, .no⟩] ⟨[(0, .one (.dat (.int .u64) a0)), (1, .one (.dat (.int .u64) a1))], [], 0⟩ hP hN (by kernel_rfl) allNil ?_
  refine HT.reg1 [0, 1, 6] [⟨none, .no⟩, ⟨none, .no⟩, ⟨none, .no⟩] ⟨[(0, .one (.dat (.int .u64) a0)), (1, .one (.dat (.int .u64) a1)), (6, .one (.dat (.int .u64) (IntKind.wrap .u64 (BitVec.ofInt (IntKind.bits .u64) a0 &&& BitVec.ofInt (IntKind.bits .u64) (4294967295 : Int)).toNat)))], [], 0⟩ hP hN (by kernel_rfl) allNil ?_
  obtain ⟨q1, hq2, hr⟩ := of_bind hr
  have hq2 := of_some2 hq2
  refine (Le.cv (s := ⟨[], [], [], false⟩) (own := []) (ps := [a0 = a0, a1 = a1, q1 = (IntKind.wrap .u64 (BitVec.ofInt (IntKind.bits .u64) a0 &&& BitVec.ofInt (IntKind.bits .u64) (4294967295 : Int)).toNat)]) (st' := ⟨[(0, .one (.dat (.int .u64) a0)), (1, .one (.dat (.int .u64) a1)), (6, .one (.dat (.int .u64) q1))], [], 0⟩) hO (fun h => by cases h) (by kernel_rfl) ⟨rfl, rfl, hq2, trivial⟩).ht ?_
  refine HT.reg1 [0, 1, 6, 7] [⟨none, .no⟩, ⟨none, .no⟩, ⟨none, .no⟩] ⟨[(0, .one (.dat (.int .u64) a0)), (1, .one (.dat (.int .u64) a1)), (6, .one (.dat (.int .u64) q1)), (7, .one (.dat (.int .u64) (Int.fdiv a0 (2 ^ (min (Int.toNat (32 : Int)) (IntKind.bits .u64))))))], [], 0⟩ hP hN (by kernel_rfl) (allCons (show (0 : Int) ≤ (32 : Int) from by decide) allNil) ?_
  refine HT.reg1 [0, 1, 6, 7, 8] [⟨none, .no⟩, ⟨none, .no⟩, ⟨none, .no⟩] ⟨[(0, .one (.dat (.int .u64) a0)), (1, .one (.dat (.int .u64) a1)), (6, .one (.dat (.int .u64) q1)), (7, .one (.dat (.int .u64) (Int.fdiv a0 (2 ^ (min (Int.toNat (32 : Int)) (IntKind.bits .u64)))))), (8, .one (.dat (.int .u64) (IntKind.wrap .u64 (BitVec.ofInt (IntKind.bits .u64) a1 &&& BitVec.ofInt (IntKind.bits .u64) (4294967295 : Int)).toNat)))], [], 0⟩ hP hN (by kernel_rfl) allNil ?_
  obtain ⟨q3, hq4, hr⟩ := of_bind hr
  have hq4 := of_some2 hq4
  refine (Le.cv (s := ⟨[], [], [], false⟩) (own := []) (ps := [a0 = a0, a1 = a1, q1 = q1, (Int.fdiv a0 (2 ^ (min (Int.toNat (32 : Int)) (IntKind.bits .u64)))) = (Int.fdiv a0 (2 ^ (min (Int.toNat (32 : Int)) (IntKind.bits .u64)))), q3 = (IntKind.wrap .u64 (BitVec.ofInt (IntKind.bits .u64) a1 &&& BitVec.ofInt (IntKind.bits .u64) (4294967295 : Int)).toNat)]) (st' := ⟨[(0, .one (.dat (.int .u64) a0)), (1, .one (.dat (.int .u64) a1)), (6, .one (.dat (.int .u64) q1)), (7, .one (.dat (.int .u64) (Int.fdiv a0 (2 ^ (min (Int.toNat (32 : Int)) (IntKind.bits .u64)))))), (8, .one (.dat (.int .u64) q3))], [], 0⟩) hO (fun h => by cases h) (by kernel_rfl) ⟨rfl, rfl, rfl, rfl, hq4, trivial⟩).ht ?_
  refine HT.reg1 [0, 1, 6, 7, 8, 9] [⟨none, .no⟩, ⟨none, .no⟩, ⟨none, .no⟩] ⟨[(0, .one (.dat (.int .u64) a0)), (1, .one (.dat (.int .u64) a1)), (6, .one (.dat (.int .u64) q1)), (7, .one (.dat (.int .u64) (Int.fdiv a0 (2 ^ (min (Int.toNat (32 : Int)) (IntKind.bits .u64)))))), (8, .one (.dat (.int .u64) q3)), (9, .one (.dat (.int .u64) (Int.fdiv a1 (2 ^ (min (Int.toNat (32 : Int)) (IntKind.bits .u64))))))], [], 0⟩ hP hN (by kernel_rfl) (allCons (show (0 : Int) ≤ (32 : Int) from by decide) allNil) ?_
  refine HT.reg1 [0, 1, 6, 7, 8, 9, 10] [⟨none, .no⟩, ⟨none, .no⟩, ⟨none, .no⟩, ⟨none, .no⟩] ⟨[(0, .one (.dat (.int .u64) a0)), (1, .one (.dat (.int .u64) a1)), (6, .one (.dat (.int .u64) q1)), (7, .one (.dat (.int .u64) (Int.fdiv a0 (2 ^ (min (Int.toNat (32 : Int)) (IntKind.bits .u64)))))), (8, .one (.dat (.int .u64) q3)), (9, .one (.dat (.int .u64) (Int.fdiv a1 (2 ^ (min (Int.toNat (32 : Int)) (IntKind.bits .u64)))))), (10, .one (.dat (.int .u64) (wmul .u64 q1 q3)))], [], 0⟩ hP hN (by kernel_rfl) allNil ?_
  refine HT.reg1 [0, 1, 6, 7, 9, 11] [⟨none, .no⟩, ⟨none, .no⟩, ⟨none, .no⟩, ⟨none, .no⟩, ⟨none, .no⟩, ⟨none, .no⟩, ⟨none, .no⟩] ⟨[(0, .one (.dat (.int .u64) a0)), (1, .one (.dat (.int .u64) a1)), (6, .one (.dat (.int .u64) q1)), (7, .one (.dat (.int .u64) (Int.fdiv a0 (2 ^ (min (Int.toNat (32 : Int)) (IntKind.bits .u64)))))), (9, .one (.dat (.int .u64) (Int.fdiv a1 (2 ^ (min (Int.toNat (32 : Int)) (IntKind.bits .u64)))))), (11, .one (.dat (.int .u64) (wadd .u64 (wmul .u64 (Int.fdiv a0 (2 ^ (min (Int.toNat (32 : Int)) (IntKind.bits .u64)))) q3) (Int.fdiv (wmul .u64 q1 q3) (2 ^ (min (Int.toNat (32 : Int)) (IntKind.bits .u64)))))))], [], 0⟩ hP hN (by kernel_rfl) (allCons (show (0 : Int) ≤ (32 : Int) from by decide) allNil) ?_
  obtain ⟨q5, hq6, hr⟩ := of_bind hr
  have hq6 := of_some2 hq6
  refine (Le.cv (s := ⟨[], [], [], false⟩) (own := []) (ps := [a0 = a0, a1 = a1, q1 = q1, (Int.fdiv a0 (2 ^ (min (Int.toNat (32 : Int)) (IntKind.bits .u64)))) = (Int.fdiv a0 (2 ^ (min (Int.toNat (32 : Int)) (IntKind.bits .u64)))), (Int.fdiv a1 (2 ^ (min (Int.toNat (32 : Int)) (IntKind.bits .u64)))) = (Int.fdiv a1 (2 ^ (min (Int.toNat (32 : Int)) (IntKind.bits .u64)))), q5 = (wadd .u64 (wmul .u64 (Int.fdiv a0 (2 ^ (min (Int.toNat (32 : Int)) (IntKind.bits .u64)))) q3) (Int.fdiv (wmul .u64 q1 q3) (2 ^ (min (Int.toNat (32 : Int)) (IntKind.bits .u64)))))]) (st' := ⟨[(0, .one (.dat (.int .u64) a0)), (1, .one (.dat (.int .u64) a1)), (6, .one (.dat (.int .u64) q1)), (7, .one (.dat (.int .u64) (Int.fdiv a0 (2 ^ (min (Int.toNat (32 : Int)) (IntKind.bits .u64)))))), (9, .one (.dat (.int .u64) (Int.fdiv a1 (2 ^ (min (Int.toNat (32 : Int)) (IntKind.bits .u64)))))), (11, .one (.dat (.int .u64) q5))], [], 0⟩) hO (fun h => by cases h) (by kernel_rfl) ⟨rfl, rfl, rfl, rfl, rfl, hq6, trivial⟩).ht ?_
  refine HT.reg1 [0, 1, 6, 7, 9, 11, 12] [⟨none, .no⟩, ⟨none, .no⟩, ⟨none, .no⟩] ⟨[(0, .one (.dat (.int .u64) a0)), (1, .one (.dat (.int .u64) a1)), (6, .one (.dat (.int .u64) q1)), (7, .one (.dat (.int .u64) (Int.fdiv a0 (2 ^ (min (Int.toNat (32 : Int)) (IntKind.bits .u64)))))), (9, .one (.dat (.int .u64) (Int.fdiv a1 (2 ^ (min (Int.toNat (32 : Int)) (IntKind.bits .u64)))))), (11, .one (.dat (.int .u64) q5)), (12, .one (.dat (.int .u64) (IntKind.wrap .u64 (BitVec.ofInt (IntKind.bits .u64) q5 &&& BitVec.ofInt (IntKind.bits .u64) (4294967295 : Int)).toNat)))], [], 0⟩ hP hN (by kernel_rfl) allNil ?_
  obtain ⟨q7, hq8, hr⟩ := of_bind hr
  have hq8 := of_some2 hq8
  refine (Le.cv (s := ⟨[], [], [], false⟩) (own := []) (ps := [a0 = a0, a1 = a1, q1 = q1, (Int.fdiv a0 (2 ^ (min (Int.toNat (32 : Int)) (IntKind.bits .u64)))) = (Int.fdiv a0 (2 ^ (min (Int.toNat (32 : Int)) (IntKind.bits .u64)))), (Int.fdiv a1 (2 ^ (min (Int.toNat (32 : Int)) (IntKind.bits .u64)))) = (Int.fdiv a1 (2 ^ (min (Int.toNat (32 : Int)) (IntKind.bits .u64)))), q5 = q5, q7 = (IntKind.wrap .u64 (BitVec.ofInt (IntKind.bits .u64) q5 &&& BitVec.ofInt (IntKind.bits .u64) (4294967295 : Int)).toNat)]) (st' := ⟨[(0, .one (.dat (.int .u64) a0)), (1, .one (.dat (.int .u64) a1)), (6, .one (.dat (.int .u64) q1)), (7, .one (.dat (.int .u64) (Int.fdiv a0 (2 ^ (min (Int.toNat (32 : Int)) (IntKind.bits .u64)))))), (9, .one (.dat (.int .u64) (Int.fdiv a1 (2 ^ (min (Int.toNat (32 : Int)) (IntKind.bits .u64)))))), (11, .one (.dat (.int .u64) q5)), (12, .one (.dat (.int .u64) q7))], [], 0⟩) hO (fun h => by cases h) (by kernel_rfl) ⟨rfl, rfl, rfl, rfl, rfl, rfl, hq8, trivial⟩).ht ?_
  refine HT.reg1 [0, 1, 6, 7, 9, 12, 13] [⟨none, .no⟩, ⟨none, .no⟩, ⟨none, .no⟩] ⟨[(0, .one (.dat (.int .u64) a0)), (1, .one (.dat (.int .u64) a1)), (6, .one (.dat (.int .u64) q1)), (7, .one (.dat (.int .u64) (Int.fdiv a0 (2 ^ (min (Int.toNat (32 : Int)) (IntKind.bits .u64)))))), (9, .one (.dat (.int .u64) (Int.fdiv a1 (2 ^ (min (Int.toNat (32 : Int)) (IntKind.bits .u64)))))), (12, .one (.dat (.int .u64) q7)), (13, .one (.dat (.int .u64) (Int.fdiv q5 (2 ^ (min (Int.toNat (32 : Int)) (IntKind.bits .u64))))))], [], 0⟩ hP hN (by kernel_rfl) (allCons (show (0 : Int) ≤ (32 : Int) from by decide) allNil) ?_
  refine HT.reg1 [0, 1, 7, 9, 12, 13] [⟨none, .no⟩, ⟨none, .no⟩, ⟨none, .no⟩, ⟨none, .no⟩, ⟨none, .no⟩, ⟨none, .no⟩] ⟨[(0, .one (.dat (.int .u64) a0)), (1, .one (.dat (.int .u64) a1)), (7, .one (.dat (.int .u64) (Int.fdiv a0 (2 ^ (min (Int.toNat (32 : Int)) (IntKind.bits .u64)))))), (9, .one (.dat (.int .u64) (Int.fdiv a1 (2 ^ (min (Int.toNat (32 : Int)) (IntKind.bits .u64)))))), (12, .one (.dat (.int .u64) (wadd .u64 q7 (wmul .u64 q1 (Int.fdiv a1 (2 ^ (min (Int.toNat (32 : Int)) (IntKind.bits .u64)))))))), (13, .one (.dat (.int .u64) (Int.fdiv q5 (2 ^ (min (Int.toNat (32 : Int)) (IntKind.bits .u64))))))], [], 0⟩ hP hN (by kernel_rfl) allNil ?_
  obtain ⟨q9, hq10, hr⟩ := of_bind hr
  have hq10 := of_some2 hq10
  refine (Le.cv (s := ⟨[], [], [], false⟩) (own := []) (ps := [a0 = a0, a1 = a1, (Int.fdiv a0 (2 ^ (min (Int.toNat (32 : Int)) (IntKind.bits .u64)))) = (Int.fdiv a0 (2 ^ (min (Int.toNat (32 : Int)) (IntKind.bits .u64)))), (Int.fdiv a1 (2 ^ (min (Int.toNat (32 : Int)) (IntKind.bits .u64)))) = (Int.fdiv a1 (2 ^ (min (Int.toNat (32 : Int)) (IntKind.bits .u64)))), q9 = (wadd .u64 q7 (wmul .u64 q1 (Int.fdiv a1 (2 ^ (min (Int.toNat (32 : Int)) (IntKind.bits .u64)))))), (Int.fdiv q5 (2 ^ (min (Int.toNat (32 : Int)) (IntKind.bits .u64)))) = (Int.fdiv q5 (2 ^ (min (Int.toNat (32 : Int)) (IntKind.bits .u64))))]) (st' := ⟨[(0, .one (.dat (.int .u64) a0)), (1, .one (.dat (.int .u64) a1)), (7, .one (.dat (.int .u64) (Int.fdiv a0 (2 ^ (min (Int.toNat (32 : Int)) (IntKind.bits .u64)))))), (9, .one (.dat (.int .u64) (Int.fdiv a1 (2 ^ (min (Int.toNat (32 : Int)) (IntKind.bits .u64)))))), (12, .one (.dat (.int .u64) q9)), (13, .one (.dat (.int .u64) (Int.fdiv q5 (2 ^ (min (Int.toNat (32 : Int)) (IntKind.bits .u64))))))], [], 0⟩) hO (fun h => by cases h) (by kernel_rfl) ⟨rfl, rfl, rfl, rfl, hq10, rfl, trivial⟩).ht ?_
  refine HT.reg1 [0, 1, 4] [⟨none, .no⟩, ⟨none, .no⟩, ⟨none, .no⟩, ⟨none, .no⟩, ⟨none, .no⟩, ⟨none, .no⟩, ⟨none, .no⟩, ⟨none, .no⟩, ⟨none, .no⟩] ⟨[(0, .one (.dat (.int .u64) a0)), (1, .one (.dat (.int .u64) a1)), (4, .one (.dat (.int .u64) (wadd .u64 (wadd .u64 (wmul .u64 (Int.fdiv a0 (2 ^ (min (Int.toNat (32 : Int)) (IntKind.bits .u64)))) (Int.fdiv a1 (2 ^ (min (Int.toNat (32 : Int)) (IntKind.bits .u64))))) (Int.fdiv q5 (2 ^ (min (Int.toNat (32 : Int)) (IntKind.bits .u64))))) (Int.fdiv q9 (2 ^ (min (Int.toNat (32 : Int)) (IntKind.bits .u64)))))))], [], 0⟩ hP hN (by kernel_rfl) (allCons (show (0 : Int) ≤ (32 : Int) from by decide) allNil) ?_
  obtain ⟨q11, hq12, hr⟩ := of_bind hr
  have hq12 := of_some2 hq12
  refine (Le.cv (s := ⟨[], [], [], false⟩) (own := []) (ps := [a0 = a0, a1 = a1, q11 = (wadd .u64 (wadd .u64 (wmul .u64 (Int.fdiv a0 (2 ^ (min (Int.toNat (32 : Int)) (IntKind.bits .u64)))) (Int.fdiv a1 (2 ^ (min (Int.toNat (32 : Int)) (IntKind.bits .u64))))) (Int.fdiv q5 (2 ^ (min (Int.toNat (32 : Int)) (IntKind.bits .u64))))) (Int.fdiv q9 (2 ^ (min (Int.toNat (32 : Int)) (IntKind.bits .u64)))))]) (st' := ⟨[(0, .one (.dat (.int .u64) a0)), (1, .one (.dat (.int .u64) a1)), (4, .one (.dat (.int .u64) q11))], [], 0⟩) hO (fun h => by cases h) (by kernel_rfl) ⟨rfl, rfl, hq12, trivial⟩).ht ?_
  refine HT.reg1 [4, 5] [⟨none, .no⟩, ⟨none, .no⟩, ⟨none, .no⟩, ⟨none, .no⟩] ⟨[(4, .one (.dat (.int .u64) q11)), (5, .one (.dat (.int .u64) (wmul .u64 a0 a1)))], [], 0⟩ hP hN (by kernel_rfl) allNil ?_
  have hr := of_some hr
  subst hr
  exact HT.ret ⟨[.one (.dat (.int .u64) q11), .one (.dat (.int .u64) (wmul .u64 a0 a1))], [], [], by kernel_rfl, by kernel_rfl, rfl, by kernel_rfl, by kernel_rfl, trivial⟩

noncomputable def math_bits_Mul (a0 : Int) (a1 : Int) : Option (Int × Int) :=
  (math_bits_Mul64 a0 a1).bind fun y1 =>
  some (y1.1, y1.2)

theorem f107_ok {a0 : Int} {a1 : Int} {r : Int × Int} (hr : math_bits_Mul a0 a1 = some r) : CallOK Try.prog 107 [.imm (.int .u64) a0, .imm (.int .u64) a1] [⟨false, (.int .u64), r.1⟩, ⟨false, (.int .u64), r.2⟩] [] := by
  unfold math_bits_Mul at hr
  refine CallOK.of_body (ts := [(false, (.int .u64)), (false, (.int .u64))]) Try.func107 rfl (by kernel_rfl) (Nat.le_of_ble_eq_true (by kernel_rfl)) fun cx hP hN hO hF => ?_
  have hO : cx.own.map Prod.fst = [] := hO
  have hF := hF rfl
  show HT cx ⟨[(0, .one (.dat (.int .u64) a0)), (1, .one (.dat (.int .u64) a1))], [], 0⟩ _ _
  refine HT.reg1 [0, 1] [⟨none, .no⟩, ⟨none, .no⟩] ⟨[(0, .one (.dat (.int .u64) a0)), (1, .one (.dat (.int .u64) a1))], [], 0⟩ hP hN (by kernel_rfl) allNil ?_
  refine HT.seq ?_
  refine HT.cond0 rfl (rfl : false = false) ?_
  refine HT.skip (qThen ?_)
  obtain ⟨y1, hc2, hr⟩ := of_bind hr
  refine HT.reg1 [8, 9] [⟨none, .no⟩, ⟨none, .no⟩, ⟨none, .call [.imm (.int .u64), .imm (.int .u64)] [⟨false, (.int .u64), y1.1⟩, ⟨false, (.int .u64), y1.2⟩] []⟩, ⟨none, .no⟩, ⟨none, .no⟩, ⟨none, .no⟩, ⟨none, .no⟩, ⟨none, .no⟩] ⟨[(8, .one (.dat (.int .u64) y1.1)), (9, .one (.dat (.int .u64) y1.2))], [], 0⟩ hP hN (by kernel_rfl) (allCons (f130_ok hc2) allNil) ?_
  refine HT.reg1 [4, 5] [⟨none, .no⟩, ⟨none, .no⟩, ⟨none, .no⟩, ⟨none, .no⟩] ⟨[(4, .one (.dat (.int .u64) y1.1)), (5, .one (.dat (.int .u64) y1.2))], [], 0⟩ hP hN (by kernel_rfl) allNil ?_
  have hr := of_some hr
  subst hr
  exact HT.ret ⟨[.one (.dat (.int .u64) y1.1), .one (.dat (.int .u64) y1.2)], [], [], by kernel_rfl, by kernel_rfl, rfl, by kernel_rfl, by kernel_rfl, trivial⟩

noncomputable def slices_Repeat___float32_float32_B1  (s13 : Int × List Nat) : Option ((Int × List Nat) ⊕ (List Nat)) :=
  bif (decide (s13.1 < (lenI s13.2))) then
    guardP ((0 : Int) ≤ s13.1 ∧ s13.1 ≤ lenI s13.2) (
      some (.inl ((wadd .i64 s13.1 ((Nat.min (List.length (List.take (Int.toNat s13.1) (List.drop 0 s13.2))) (Int.toNat (lenI s13.2) - Int.toNat s13.1) : Nat) : Int)), (List.take (Int.toNat s13.1) s13.2 ++ List.take (Nat.min (List.length (List.take (Int.toNat s13.1) (List.drop 0 s13.2))) (Int.toNat (lenI s13.2) - Int.toNat s13.1)) (List.take (Int.toNat s13.1) (List.drop 0 s13.2)) ++ List.drop ((Int.toNat s13.1) + Nat.min (List.length (List.take (Int.toNat s13.1) (List.drop 0 s13.2))) (Int.toNat (lenI s13.2) - Int.toNat s13.1)) s13.2))))
  else
    some (.inr s13.2)

noncomputable def slices_Repeat___float32_float32 (a0 : List Nat) (a1 : Int) : Option (List Nat) :=
  bif (decide (a1 < (0 : Int))) then
    none
  else
    (math_bits_Mul (IntKind.wrap .u64 (lenI a0)) (IntKind.wrap .u64 a1)).bind fun y2 =>
    (show Option (Bool) from
      bif (decide (y2.1 > (0 : Int))) then
        some true
      else
        some (decide (y2.2 > (9223372036854775807 : Int)))).bind fun v4 =>
    bif v4 then
      none
    else
      guardP ((0 : Int) ≤ (IntKind.wrap .i64 y2.2) ∧ (IntKind.wrap .i64 y2.2) ≤ 4294967296) (
        (some ((Nat.min (List.length a0) (List.length (List.replicate (Int.toNat (IntKind.wrap .i64 y2.2)) (0 : Nat))) : Nat) : Int)).bind fun q9 =>
        (some (List.take 0 (List.replicate (Int.toNat (IntKind.wrap .i64 y2.2)) (0 : Nat)) ++ List.take (Nat.min (List.length a0) (List.length (List.replicate (Int.toNat (IntKind.wrap .i64 y2.2)) (0 : Nat)))) a0 ++ List.drop (0 + Nat.min (List.length a0) (List.length (List.replicate (Int.toNat (IntKind.wrap .i64 y2.2)) (0 : Nat)))) (List.replicate (Int.toNat (IntKind.wrap .i64 y2.2)) (0 : Nat)))).bind fun q11 =>
        (rounds (slices_Repeat___float32_float32_B1) (q9, q11)).bind fun r15 =>
        some r15)

theorem f82_ok {a0 : List Nat} {a1 : Int} {r : List Nat} (hr : slices_Repeat___float32_float32 a0 a1 = some r) : CallOK Try.prog 82 [.imm (.sl (.flt .f32)) a0, .imm (.int .i64) a1] [⟨true, (.sl (.flt .f32)), r⟩] [] := by
  unfold slices_Repeat___float32_float32 at hr
  refine CallOK.of_body (ts := [(true, (.sl (.flt .f32)))]) Try.func82 rfl (by kernel_rfl) (Nat.le_of_ble_eq_true (by kernel_rfl)) fun cx hP hN hO hF => ?_
  have hO : cx.own.map Prod.fst = [] := hO
  have hF := hF rfl
  show HT cx ⟨[(0, .one (.dat (.sl (.flt .f32)) a0)), (1, .one (.dat (.int .i64) a1))], [], 0⟩ _ _
  refine HT.reg1 [0, 1] [⟨none, .no⟩] ⟨[(0, .one (.dat (.sl (.flt .f32)) a0)), (1, .one (.dat (.int .i64) a1))], [], 0⟩ hP hN (by kernel_rfl) allNil ?_
  refine HT.seq ?_
  refine HT.reg1 [0, 1, 10] [⟨none, .no⟩, ⟨none, .no⟩] ⟨[(0, .one (.dat (.sl (.flt .f32)) a0)), (1, .one (.dat (.int .i64) a1)), (10, .one (.dat .bool (decide (a1 < (0 : Int)))))], [], 0⟩ hP hN (by kernel_rfl) allNil ?_
  rcases of_bif hr with ⟨hb1, hr⟩ | ⟨hb1, hr⟩
  · refine HT.cond1 rfl hb1 ?_
    cases hr
  · refine HT.cond0 rfl hb1 ?_
    refine HT.skip (qThen ?_)
    obtain ⟨y2, hc3, hr⟩ := of_bind hr
    refine HT.reg1 [0, 5, 6] [⟨none, .no⟩, ⟨none, .no⟩, ⟨none, .no⟩, ⟨none, .no⟩, ⟨none, .no⟩, ⟨none, .call [.imm (.int .u64), .imm (.int .u64)] [⟨false, (.int .u64), y2.1⟩, ⟨false, (.int .u64), y2.2⟩] []⟩, ⟨none, .no⟩, ⟨none, .no⟩, ⟨none, .no⟩, ⟨none, .no⟩, ⟨none, .no⟩] ⟨[(0, .one (.dat (.sl (.flt .f32)) a0)), (5, .one (.dat (.int .u64) y2.1)), (6, .one (.dat (.int .u64) y2.2))], [], 0⟩ hP hN (by kernel_rfl) (allCons (f107_ok hc3) allNil) ?_
    refine HT.seq ?_
    obtain ⟨v4', hT6, hr⟩ := of_bind hr
    refine HT.join (fun (v4 : Bool) => ⟨[(0, .one (.dat (.sl (.flt .f32)) a0)), (6, .one (.dat (.int .u64) y2.2)), (26, .one (.dat .bool v4))], [], 0⟩) (fun v => v = v4') (fun v4 hv5 => ?_) (fun cont => ?_)
    · subst hv5
      rcases of_bif hr with ⟨hb7, hr⟩ | ⟨hb7, hr⟩
      · refine HT.cond1 rfl hb7 ?_
        cases hr
      · refine HT.cond0 rfl hb7 ?_
        refine HT.skip (qThen ?_)
        obtain ⟨hg8, hr⟩ := of_guard hr
        refine HT.reg1 [0, 7] [⟨none, .no⟩, ⟨none, .no⟩, ⟨none, .ty (.flt .f32)⟩, ⟨none, .no⟩] ⟨[(0, .one (.dat (.sl (.flt .f32)) a0)), (7, .one (.all 0))], [(0, .seq (.flt .f32) (List.replicate (Int.toNat (IntKind.wrap .i64 y2.2)) (0 : Nat)))], 1⟩ hP hN (by kernel_rfl) (allCons (show (0 : Int) ≤ (IntKind.wrap .i64 y2.2) ∧ (IntKind.wrap .i64 y2.2) ≤ (IntKind.wrap .i64 y2.2) ∧ (IntKind.wrap .i64 y2.2) ≤ 4294967296 from ⟨hg8.1, Int.le_refl _, hg8.2⟩) allNil) ?_
        refine HT.reg1 [7, 8] [⟨none, .no⟩, ⟨none, .no⟩, ⟨none, .no⟩, ⟨none, .no⟩] ⟨[(7, .one (.all 0)), (8, .one (.dat (.int .i64) ((Nat.min (List.length a0) (List.length (List.replicate (Int.toNat (IntKind.wrap .i64 y2.2)) (0 : Nat))) : Nat) : Int)))], [(0, .seq (.flt .f32) (List.take 0 (List.replicate (Int.toNat (IntKind.wrap .i64 y2.2)) (0 : Nat)) ++ List.take (Nat.min (List.length a0) (List.length (List.replicate (Int.toNat (IntKind.wrap .i64 y2.2)) (0 : Nat)))) a0 ++ List.drop (0 + Nat.min (List.length a0) (List.length (List.replicate (Int.toNat (IntKind.wrap .i64 y2.2)) (0 : Nat)))) (List.replicate (Int.toNat (IntKind.wrap .i64 y2.2)) (0 : Nat)))), (0, .seq (.flt .f32) (List.replicate (Int.toNat (IntKind.wrap .i64 y2.2)) (0 : Nat)))], 1⟩ hP hN (by kernel_rfl) allNil ?_
        obtain ⟨q9, hq10, hr⟩ := of_bind hr
        have hq10 := of_some2 hq10
        obtain ⟨q11, hq12, hr⟩ := of_bind hr
        have hq12 := of_some2 hq12
        refine (Le.cv (s := ⟨[(0, 0)], [], [], false⟩) (own := []) (ps := [q9 = ((Nat.min (List.length a0) (List.length (List.replicate (Int.toNat (IntKind.wrap .i64 y2.2)) (0 : Nat))) : Nat) : Int), q11 = (List.take 0 (List.replicate (Int.toNat (IntKind.wrap .i64 y2.2)) (0 : Nat)) ++ List.take (Nat.min (List.length a0) (List.length (List.replicate (Int.toNat (IntKind.wrap .i64 y2.2)) (0 : Nat)))) a0 ++ List.drop (0 + Nat.min (List.length a0) (List.length (List.replicate (Int.toNat (IntKind.wrap .i64 y2.2)) (0 : Nat)))) (List.replicate (Int.toNat (IntKind.wrap .i64 y2.2)) (0 : Nat)))]) (st' := ⟨[(7, .one (.all 0)), (8, .one (.dat (.int .i64) q9))], [(0, .seq (.flt .f32) q11)], 1⟩) hO (fun h => by cases h) (by kernel_rfl) ⟨hq10, hq12, trivial⟩).ht ?_
        refine HT.seq ?_
        refine HT.block ?_
        obtain ⟨r14, hL21, hr⟩ := of_bind hr
        refine (Le.cv (s := ⟨[(0, 0)], [], [], false⟩) (own := []) (ps := [q9 = q9, q11 = q11]) (st' := ⟨[(7, .one (.all 0)), (8, .one (.dat (.int .i64) q9))], [(0, .seq (.flt .f32) q11)], 1⟩) hO (fun h => by cases h) (by kernel_rfl) ⟨rfl, rfl, trivial⟩).ht ?_
        refine HT.loopE (s := (q9, q11)) (fun (s13 : Int × List Nat) => ⟨[(7, .one (.all 0)), (8, .one (.dat (.int .i64) s13.1))], [(0, .seq (.flt .f32) s13.2)], 1⟩) (fun (r15 : List Nat) => (.exit 0, ⟨[(7, .one (.all 0))], [(0, .seq (.flt .f32) r15)], 1⟩)) hL21 ?_ (fun s13 x16 hx17 hk18 => ?_)
        · refine (qBlockX (qThen ?_))
          refine HT.reg1 [4] [⟨none, .no⟩, ⟨none, .no⟩] ⟨[(4, .one (.all 0))], [(0, .seq (.flt .f32) r14)], 1⟩ hP hN (by kernel_rfl) allNil ?_
          have hr := of_some hr
          subst hr
          exact HT.ret ⟨[.one (.all 0)], [0], [], by kernel_rfl, by kernel_rfl, rfl, by kernel_rfl, by kernel_rfl, trivial⟩
        · refine HT.seq ?_
          refine HT.reg1 [7, 8, 37] [⟨none, .no⟩, ⟨none, .no⟩, ⟨none, .no⟩, ⟨none, .no⟩] ⟨[(7, .one (.all 0)), (8, .one (.dat (.int .i64) s13.1)), (37, .one (.dat .bool (decide (s13.1 < (lenI s13.2)))))], [(0, .seq (.flt .f32) s13.2)], 1⟩ hP hN (by kernel_rfl) allNil ?_
          rcases of_bif hx17 with ⟨hb19, hx17⟩ | ⟨hb19, hx17⟩
          · refine HT.cond1 rfl hb19 ?_
            refine HT.skip (qThen ?_)
            refine HT.block ?_
            obtain ⟨hg20, hx17⟩ := of_guard hx17
            have hx17 := of_some hx17
            subst hx17
            refine drawS (h := 8) (hrs := [⟨⟨none, .no⟩, []⟩, ⟨⟨none, .no⟩, []⟩, ⟨⟨none, .no⟩, []⟩, ⟨⟨none, .no⟩, [1, 2]⟩, ⟨⟨none, .no⟩, []⟩, ⟨⟨none, .no⟩, []⟩, ⟨⟨none, .no⟩, [4, 5]⟩, ⟨⟨none, .no⟩, [1, 2, 3, 4, 5, 6]⟩]) (tds := [[0, 1, 2, 3, 4, 5, 6, 7], [0, 1, 2, 3, 4, 5, 6, 7, 8]]) (rs := [⟨none, .no⟩, ⟨none, .no⟩]) (st' := ⟨[(8, .one (.dat (.int .i64) (wadd .i64 s13.1 ((Nat.min (List.length (List.take (Int.toNat s13.1) (List.drop 0 s13.2))) (Int.toNat (lenI s13.2) - Int.toNat s13.1) : Nat) : Int)))), (46, .one (.dat (.int .i64) (wadd .i64 s13.1 ((Nat.min (List.length (List.take (Int.toNat s13.1) (List.drop 0 s13.2))) (Int.toNat (lenI s13.2) - Int.toNat s13.1) : Nat) : Int)))), (45, .one (.dat (.int .i64) ((Nat.min (List.length (List.take (Int.toNat s13.1) (List.drop 0 s13.2))) (Int.toNat (lenI s13.2) - Int.toNat s13.1) : Nat) : Int))), (44, .one (.ref 0 0 (Int.toNat s13.1))), (43, .one (.dat (.int .i64) s13.1)), (42, .one (.all 0)), (41, .one (.ref 0 (Int.toNat s13.1) (Int.toNat (lenI s13.2) - Int.toNat s13.1))), (40, .one (.dat (.int .i64) s13.1)), (39, .one (.all 0)), (38, .one (.dat (.int .i64) s13.1)), (7, .one (.all 0)), (8, .one (.dat (.int .i64) s13.1)), (37, .one (.dat .bool (decide (s13.1 < (lenI s13.2)))))], [(0, .seq (.flt .f32) (List.take (Int.toNat s13.1) s13.2 ++ List.take (Nat.min (List.length (List.take (Int.toNat s13.1) (List.drop 0 s13.2))) (Int.toNat (lenI s13.2) - Int.toNat s13.1)) (List.take (Int.toNat s13.1) (List.drop 0 s13.2)) ++ List.drop ((Int.toNat s13.1) + Nat.min (List.length (List.take (Int.toNat s13.1) (List.drop 0 s13.2))) (Int.toNat (lenI s13.2) - Int.toNat s13.1)) s13.2)), (0, .seq (.flt .f32) s13.2)], 1⟩) hP hN (by kernel_rfl) (by kernel_rfl) (allCons (show (0 : Int) ≤ s13.1 ∧ s13.1 ≤ lenI s13.2 ∧ lenI s13.2 ≤ lenI s13.2 from ⟨hg20.1, hg20.2, Int.le_refl _⟩) (allCons (show (0 : Int) ≤ 0 ∧ (0 : Int) ≤ s13.1 ∧ s13.1 ≤ lenI s13.2 from ⟨Int.le_refl _, hg20.1, hg20.2⟩) allNil)) (qBlock (qLoopN ⟨((wadd .i64 s13.1 ((Nat.min (List.length (List.take (Int.toNat s13.1) (List.drop 0 s13.2))) (Int.toNat (lenI s13.2) - Int.toNat s13.1) : Nat) : Int)), (List.take (Int.toNat s13.1) s13.2 ++ List.take (Nat.min (List.length (List.take (Int.toNat s13.1) (List.drop 0 s13.2))) (Int.toNat (lenI s13.2) - Int.toNat s13.1)) (List.take (Int.toNat s13.1) (List.drop 0 s13.2)) ++ List.drop ((Int.toNat s13.1) + Nat.min (List.length (List.take (Int.toNat s13.1) (List.drop 0 s13.2))) (Int.toNat (lenI s13.2) - Int.toNat s13.1)) s13.2)), rfl, Le.cv (s := ⟨[(0, 0)], [], [], false⟩) (own := []) (ps := [(wadd .i64 s13.1 ((Nat.min (List.length (List.take (Int.toNat s13.1) (List.drop 0 s13.2))) (Int.toNat (lenI s13.2) - Int.toNat s13.1) : Nat) : Int)) = (wadd .i64 s13.1 ((Nat.min (List.length (List.take (Int.toNat s13.1) (List.drop 0 s13.2))) (Int.toNat (lenI s13.2) - Int.toNat s13.1) : Nat) : Int)), (List.take (Int.toNat s13.1) s13.2 ++ List.take (Nat.min (List.length (List.take (Int.toNat s13.1) (List.drop 0 s13.2))) (Int.toNat (lenI s13.2) - Int.toNat s13.1)) (List.take (Int.toNat s13.1) (List.drop 0 s13.2)) ++ List.drop ((Int.toNat s13.1) + Nat.min (List.length (List.take (Int.toNat s13.1) (List.drop 0 s13.2))) (Int.toNat (lenI s13.2) - Int.toNat s13.1)) s13.2) = (List.take (Int.toNat s13.1) s13.2 ++ List.take (Nat.min (List.length (List.take (Int.toNat s13.1) (List.drop 0 s13.2))) (Int.toNat (lenI s13.2) - Int.toNat s13.1)) (List.take (Int.toNat s13.1) (List.drop 0 s13.2)) ++ List.drop ((Int.toNat s13.1) + Nat.min (List.length (List.take (Int.toNat s13.1) (List.drop 0 s13.2))) (Int.toNat (lenI s13.2) - Int.toNat s13.1)) s13.2)]) (st' := ⟨[(7, .one (.all 0)), (8, .one (.dat (.int .i64) (wadd .i64 s13.1 ((Nat.min (List.length (List.take (Int.toNat s13.1) (List.drop 0 s13.2))) (Int.toNat (lenI s13.2) - Int.toNat s13.1) : Nat) : Int))))], [(0, .seq (.flt .f32) (List.take (Int.toNat s13.1) s13.2 ++ List.take (Nat.min (List.length (List.take (Int.toNat s13.1) (List.drop 0 s13.2))) (Int.toNat (lenI s13.2) - Int.toNat s13.1)) (List.take (Int.toNat s13.1) (List.drop 0 s13.2)) ++ List.drop ((Int.toNat s13.1) + Nat.min (List.length (List.take (Int.toNat s13.1) (List.drop 0 s13.2))) (Int.toNat (lenI s13.2) - Int.toNat s13.1)) s13.2))], 1⟩) hO (fun h => by cases h) (by kernel_rfl) ⟨rfl, rfl, trivial⟩⟩))
          · refine HT.cond0 rfl hb19 ?_
            have hx17 := of_some hx17
            subst hx17
            refine (Le.cv (s := ⟨[(0, 0)], [], [], false⟩) (own := []) (ps := [s13.2 = s13.2]) (st' := ⟨[(7, .one (.all 0))], [(0, .seq (.flt .f32) s13.2)], 1⟩) hO (fun h => by cases h) (by kernel_rfl) ⟨rfl, trivial⟩).ht ?_
            exact HT.exit (qThenE (qLoopE (hk18 s13.2 rfl)))
    · rcases of_bif hT6 with ⟨hb22, hT6⟩ | ⟨hb22, hT6⟩
      · refine HT.reg (rs := [⟨none, .no⟩, ⟨none, .no⟩, ⟨none, .no⟩, ⟨some true, .no⟩, ⟨some true, .no⟩, ⟨none, .tv true⟩]) (st' := ⟨[(26, .one (.dat .bool true)), (25, .und), (24, .und), (23, .one (.dat .bool (decide (y2.1 > (0 : Int))))), (22, .one (.dat .bool (decide (y2.1 > (0 : Int))))), (21, .one (.dat (.int .u64) y2.1)), (0, .one (.dat (.sl (.flt .f32)) a0)), (5, .one (.dat (.int .u64) y2.1)), (6, .one (.dat (.int .u64) y2.2))], [], 0⟩) hP hN (by kernel_rfl) (allCons hb22 (allCons hb22 (allCons hb22 allNil))) (qThen ?_)
        exact (Le.cv (s := ⟨[], [], [], false⟩) (own := []) (ps := [a0 = a0, y2.2 = y2.2, true = true]) (st' := ⟨[(0, .one (.dat (.sl (.flt .f32)) a0)), (6, .one (.dat (.int .u64) y2.2)), (26, .one (.dat .bool true))], [], 0⟩) hO (fun h => by cases h) (by kernel_rfl) ⟨rfl, rfl, rfl, trivial⟩).ht (cont true (of_some hT6))
      · refine HT.reg (rs := [⟨none, .no⟩, ⟨none, .no⟩, ⟨none, .no⟩, ⟨some false, .no⟩, ⟨some false, .no⟩, ⟨none, .tv false⟩]) (st' := ⟨[(26, .one (.dat .bool (decide (y2.2 > (9223372036854775807 : Int))))), (25, .one (.dat .bool (decide (y2.2 > (9223372036854775807 : Int))))), (24, .one (.dat (.int .u64) y2.2)), (23, .one (.dat .bool (decide (y2.1 > (0 : Int))))), (22, .one (.dat .bool (decide (y2.1 > (0 : Int))))), (21, .one (.dat (.int .u64) y2.1)), (0, .one (.dat (.sl (.flt .f32)) a0)), (5, .one (.dat (.int .u64) y2.1)), (6, .one (.dat (.int .u64) y2.2))], [], 0⟩) hP hN (by kernel_rfl) (allCons hb22 (allCons hb22 (allCons hb22 allNil))) (qThen ?_)
        exact (Le.cv (s := ⟨[], [], [], false⟩) (own := []) (ps := [a0 = a0, y2.2 = y2.2, (decide (y2.2 > (9223372036854775807 : Int))) = (decide (y2.2 > (9223372036854775807 : Int)))]) (st' := ⟨[(0, .one (.dat (.sl (.flt .f32)) a0)), (6, .one (.dat (.int .u64) y2.2)), (26, .one (.dat .bool (decide (y2.2 > (9223372036854775807 : Int)))))], [], 0⟩) hO (fun h => by cases h) (by kernel_rfl) ⟨rfl, rfl, rfl, trivial⟩).ht (cont (decide (y2.2 > (9223372036854775807 : Int))) (of_some hT6))

noncomputable def impl_Model_backward_B1 (a0 : Int × Int × List Nat × List Nat × List Nat) (a1 : List Int) (s7 : Int × List (List Nat)) (s15 : Int × List Nat) (s23 : Int × List Nat) : Option ((Int × List Nat) ⊕ (List Nat)) :=
  bif (decide (s23.1 < a0.1)) then
    guardP ((0 : Int) ≤ s15.1 ∧ s15.1 < lenI s23.2) (
      guardP ((0 : Int) ≤ s7.1 ∧ s7.1 < lenI a1) (
        (impl_Model_show (a0.1, a0.2.1, a0.2.2.1, a0.2.2.2.1, a0.2.2.2.2) s15.1 (List.getD a1 (Int.toNat s7.1) (0 : Int))).bind fun y32 =>
        (impl_Model_step (a0.1, a0.2.1, a0.2.2.1, a0.2.2.2.1, a0.2.2.2.2) s15.1 s23.1).bind fun y34 =>
        guardP ((0 : Int) ≤ (wadd .i64 s7.1 (1 : Int)) ∧ (wadd .i64 s7.1 (1 : Int)) < lenI s7.2) (
          guardP ((0 : Int) ≤ s23.1 ∧ s23.1 < lenI (List.getD s7.2 (Int.toNat (wadd .i64 s7.1 (1 : Int))) ([] : List Nat))) (
            some (.inl ((wadd .i64 s23.1 (1 : Int)), (List.set s23.2 (Int.toNat s15.1) (fop .add .f32 (List.getD s23.2 (Int.toNat s15.1) (0 : Nat)) (fop .mul .f32 (fop .mul .f32 y32 y34) (List.getD (List.getD s7.2 (Int.toNat (wadd .i64 s7.1 (1 : Int))) ([] : List Nat)) (Int.toNat s23.1) (0 : Nat)))))))))))
  else
    some (.inr s23.2)

noncomputable def impl_Model_backward_B2 (a0 : Int × Int × List Nat × List Nat × List Nat) (a1 : List Int) (s7 : Int × List (List Nat)) (s15 : Int × List Nat) : Option ((Int × List Nat) ⊕ (List Nat)) :=
  bif (decide (s15.1 < a0.1)) then
    (rounds (impl_Model_backward_B1 a0 a1 s7 s15) ((0 : Int), s15.2)).bind fun r25 =>
    some (.inl ((wadd .i64 s15.1 (1 : Int)), r25))
  else
    some (.inr s15.2)

noncomputable def impl_Model_backward_B3 (a0 : Int × Int × List Nat × List Nat × List Nat) (a1 : List Int) (s7 : Int × List (List Nat)) : Option ((Int × List (List Nat)) ⊕ (List (List Nat))) :=
  bif (decide (s7.1 ≥ (0 : Int))) then
    guardP ((0 : Int) ≤ a0.1 ∧ a0.1 ≤ 4294967296) (
      (rounds (impl_Model_backward_B2 a0 a1 s7) ((0 : Int), (List.replicate (Int.toNat a0.1) (0 : Nat)))).bind fun r17 =>
      guardP ((0 : Int) ≤ s7.1 ∧ s7.1 < lenI s7.2) (
        some (.inl ((wsub .i64 s7.1 (1 : Int)), (List.set s7.2 (Int.toNat s7.1) r17)))))
  else
    some (.inr s7.2)

noncomputable def impl_Model_backward (a0 : Int × Int × List Nat × List Nat × List Nat) (a1 : List Int) : Option (List (List Nat)) :=
  guardP ((0 : Int) ≤ (wadd .i64 (lenI a1) (1 : Int)) ∧ (wadd .i64 (lenI a1) (1 : Int)) ≤ 4294967296) (
    (slices_Repeat___float32_float32 ([(1065353216 : Nat)] : List Nat) a0.1).bind fun y2 =>
    guardP ((0 : Int) ≤ (lenI a1) ∧ (lenI a1) < lenI (List.replicate (Int.toNat (wadd .i64 (lenI a1) (1 : Int))) ([] : List Nat))) (
      (some (List.set (List.replicate (Int.toNat (wadd .i64 (lenI a1) (1 : Int))) ([] : List Nat)) (Int.toNat (lenI a1)) y2)).bind fun q5 =>
      (rounds (impl_Model_backward_B3 a0 a1) ((wsub .i64 (lenI a1) (1 : Int)), q5)).bind fun r9 =>
      some r9))

theorem f50_ok {a0 : Int × Int × List Nat × List Nat × List Nat} {a1 : List Int} {r : List (List Nat)} (hr : impl_Model_backward a0 a1 = some r) : CallOK Try.prog 50 [.imm (.st (.pair (.int .i64) (.pair (.int .i64) (.pair (.sl (.flt .f32)) (.pair (.sl (.flt .f32)) (.sl (.flt .f32))))))) a0, .imm (.sl (.int .i64)) a1] [⟨false, (.sl (.sl (.flt .f32))), r⟩] [] := by
  unfold impl_Model_backward at hr
  refine CallOK.of_body (ts := [(false, (.sl (.sl (.flt .f32))))]) Try.func50 rfl (by kernel_rfl) (Nat.le_of_ble_eq_true (by kernel_rfl)) fun cx hP hN hO hF => ?_
  have hO : cx.own.map Prod.fst = [] := hO
  have hF := hF rfl
  show HT cx ⟨[(0, .agg [.dat (.int .i64) a0.1, .dat (.int .i64) a0.2.1, .dat (.sl (.flt .f32)) a0.2.2.1, .dat (.sl (.flt .f32)) a0.2.2.2.1, .dat (.sl (.flt .f32)) a0.2.2.2.2]), (1, .one (.dat (.sl (.int .i64)) a1))], [], 0⟩ _ _
  refine HT.reg1 [1, 2] [⟨none, .no⟩, ⟨none, .no⟩] ⟨[(1, .one (.dat (.sl (.int .i64)) a1)), (2, .one (.ptr 0 0))], [(0, .box [.dat (.int .i64) a0.1, .dat (.int .i64) a0.2.1, .dat (.sl (.flt .f32)) a0.2.2.1, .dat (.sl (.flt .f32)) a0.2.2.2.1, .dat (.sl (.flt .f32)) a0.2.2.2.2])], 1⟩ hP hN (by kernel_rfl) allNil ?_
  refine HT.reg1 [1, 2, 5] [⟨none, .no⟩, ⟨none, .no⟩, ⟨none, .no⟩] ⟨[(1, .one (.dat (.sl (.int .i64)) a1)), (2, .one (.ptr 0 0)), (5, .one (.dat (.int .i64) (lenI a1)))], [(0, .box [.dat (.int .i64) a0.1, .dat (.int .i64) a0.2.1, .dat (.sl (.flt .f32)) a0.2.2.1, .dat (.sl (.flt .f32)) a0.2.2.2.1, .dat (.sl (.flt .f32)) a0.2.2.2.2])], 1⟩ hP hN (by kernel_rfl) allNil ?_
  obtain ⟨hg1, hr⟩ := of_guard hr
  refine HT.reg1 [1, 2, 5, 6] [⟨none, .no⟩, ⟨none, .no⟩, ⟨none, .ty (.sl (.flt .f32))⟩, ⟨none, .no⟩] ⟨[(1, .one (.dat (.sl (.int .i64)) a1)), (2, .one (.ptr 0 0)), (5, .one (.dat (.int .i64) (lenI a1))), (6, .one (.all 1))], [(1, .seq (.sl (.flt .f32)) (List.replicate (Int.toNat (wadd .i64 (lenI a1) (1 : Int))) ([] : List Nat))), (0, .box [.dat (.int .i64) a0.1, .dat (.int .i64) a0.2.1, .dat (.sl (.flt .f32)) a0.2.2.1, .dat (.sl (.flt .f32)) a0.2.2.2.1, .dat (.sl (.flt .f32)) a0.2.2.2.2])], 2⟩ hP hN (by kernel_rfl) (allCons (show (0 : Int) ≤ (wadd .i64 (lenI a1) (1 : Int)) ∧ (wadd .i64 (lenI a1) (1 : Int)) ≤ (wadd .i64 (lenI a1) (1 : Int)) ∧ (wadd .i64 (lenI a1) (1 : Int)) ≤ 4294967296 from ⟨hg1.1, Int.le_refl _, hg1.2⟩) allNil) ?_
  obtain ⟨y2, hc3, hr⟩ := of_bind hr
  obtain ⟨hg4, hr⟩ := of_guard hr
  refine HT.reg1 [1, 2, 5, 6] [⟨none, .no⟩, ⟨none, .no⟩, ⟨none, .tyD (.flt .f32)⟩, ⟨none, .no⟩, ⟨none, .no⟩, ⟨none, .call [.imm (.sl (.flt .f32)), .imm (.int .i64)] [⟨false, (.sl (.flt .f32)), y2⟩] []⟩, ⟨none, .no⟩, ⟨none, .no⟩] ⟨[(1, .one (.dat (.sl (.int .i64)) a1)), (2, .one (.ptr 0 0)), (5, .one (.dat (.int .i64) (lenI a1))), (6, .one (.all 1))], [(1, .seq (.sl (.flt .f32)) (List.set (List.replicate (Int.toNat (wadd .i64 (lenI a1) (1 : Int))) ([] : List Nat)) (Int.toNat (lenI a1)) y2)), (1, .seq (.sl (.flt .f32)) (List.replicate (Int.toNat (wadd .i64 (lenI a1) (1 : Int))) ([] : List Nat))), (0, .box [.dat (.int .i64) a0.1, .dat (.int .i64) a0.2.1, .dat (.sl (.flt .f32)) a0.2.2.1, .dat (.sl (.flt .f32)) a0.2.2.2.1, .dat (.sl (.flt .f32)) a0.2.2.2.2])], 2⟩ hP hN (by kernel_rfl) (allCons (CallOK.frz [true] rfl (f82_ok hc3)) (allCons hg4 (allCons (natLt hg4) allNil))) ?_
  obtain ⟨q5, hq6, hr⟩ := of_bind hr
  have hq6 := of_some2 hq6
  refine (Le.cv (s := ⟨[(1, 1), (0, 0)], [], [], false⟩) (own := []) (ps := [a1 = a1, (lenI a1) = (lenI a1), q5 = (List.set (List.replicate (Int.toNat (wadd .i64 (lenI a1) (1 : Int))) ([] : List Nat)) (Int.toNat (lenI a1)) y2), a0.1 = a0.1, a0.2.1 = a0.2.1, a0.2.2.1 = a0.2.2.1, a0.2.2.2.1 = a0.2.2.2.1, a0.2.2.2.2 = a0.2.2.2.2]) (st' := ⟨[(1, .one (.dat (.sl (.int .i64)) a1)), (2, .one (.ptr 0 0)), (5, .one (.dat (.int .i64) (lenI a1))), (6, .one (.all 1))], [(1, .seq (.sl (.flt .f32)) q5), (0, .box [.dat (.int .i64) a0.1, .dat (.int .i64) a0.2.1, .dat (.sl (.flt .f32)) a0.2.2.1, .dat (.sl (.flt .f32)) a0.2.2.2.1, .dat (.sl (.flt .f32)) a0.2.2.2.2])], 2⟩) hO (fun h => by cases h) (by kernel_rfl) ⟨rfl, rfl, hq6, rfl, rfl, rfl, rfl, rfl, trivial⟩).ht ?_
  refine HT.seq ?_
  refine HT.reg1 [1, 2, 6, 7] [⟨none, .no⟩, ⟨none, .no⟩, ⟨none, .no⟩] ⟨[(1, .one (.dat (.sl (.int .i64)) a1)), (2, .one (.ptr 0 0)), (6, .one (.all 1)), (7, .one (.dat (.int .i64) (wsub .i64 (lenI a1) (1 : Int))))], [(1, .seq (.sl (.flt .f32)) q5), (0, .box [.dat (.int .i64) a0.1, .dat (.int .i64) a0.2.1, .dat (.sl (.flt .f32)) a0.2.2.1, .dat (.sl (.flt .f32)) a0.2.2.2.1, .dat (.sl (.flt .f32)) a0.2.2.2.2])], 2⟩ hP hN (by kernel_rfl) allNil ?_
  refine HT.block ?_
  obtain ⟨r8, hL40, hr⟩ := of_bind hr
  refine (Le.cv (s := ⟨[(0, 0), (1, 1)], [], [], false⟩) (own := []) (ps := [a1 = a1, (wsub .i64 (lenI a1) (1 : Int)) = (wsub .i64 (lenI a1) (1 : Int)), a0.1 = a0.1, a0.2.1 = a0.2.1, a0.2.2.1 = a0.2.2.1, a0.2.2.2.1 = a0.2.2.2.1, a0.2.2.2.2 = a0.2.2.2.2, q5 = q5]) (st' := ⟨[(1, .one (.dat (.sl (.int .i64)) a1)), (2, .one (.ptr 0 0)), (6, .one (.all 1)), (7, .one (.dat (.int .i64) (wsub .i64 (lenI a1) (1 : Int))))], [(0, .box [.dat (.int .i64) a0.1, .dat (.int .i64) a0.2.1, .dat (.sl (.flt .f32)) a0.2.2.1, .dat (.sl (.flt .f32)) a0.2.2.2.1, .dat (.sl (.flt .f32)) a0.2.2.2.2]), (1, .seq (.sl (.flt .f32)) q5)], 2⟩) hO (fun h => by cases h) (by kernel_rfl) ⟨rfl, rfl, rfl, rfl, rfl, rfl, rfl, rfl, trivial⟩).ht ?_
  refine HT.loopE (s := ((wsub .i64 (lenI a1) (1 : Int)), q5)) (fun (s7 : Int × List (List Nat)) => ⟨[(1, .one (.dat (.sl (.int .i64)) a1)), (2, .one (.ptr 0 0)), (6, .one (.all 1)), (7, .one (.dat (.int .i64) s7.1))], [(0, .box [.dat (.int .i64) a0.1, .dat (.int .i64) a0.2.1, .dat (.sl (.flt .f32)) a0.2.2.1, .dat (.sl (.flt .f32)) a0.2.2.2.1, .dat (.sl (.flt .f32)) a0.2.2.2.2]), (1, .seq (.sl (.flt .f32)) s7.2)], 2⟩) (fun (r9 : List (List Nat)) => (.exit 0, ⟨[(6, .one (.all 0))], [(0, .seq (.sl (.flt .f32)) r9)], 1⟩)) hL40 ?_ (fun s7 x10 hx11 hk12 => ?_)
  · refine (qBlockX (qThen ?_))
    refine HT.reg1 [4] [⟨none, .no⟩, ⟨none, .no⟩] ⟨[(4, .one (.all 0))], [(0, .seq (.sl (.flt .f32)) r8)], 1⟩ hP hN (by kernel_rfl) allNil ?_
    have hr := of_some hr
    subst hr
    refine (Le.cv (s := ⟨[], [], [], true⟩) (own := []) (ps := [r8 = r8]) (st' := ⟨[(4, .one (.dat (.sl (.sl (.flt .f32))) r8))], [], 1⟩) hO (fun _ => hF) (by kernel_rfl) ⟨rfl, trivial⟩).ht ?_
    exact HT.ret ⟨[.one (.dat (.sl (.sl (.flt .f32))) r8)], [], [], by kernel_rfl, by kernel_rfl, rfl, by kernel_rfl, by kernel_rfl, trivial⟩
  · refine HT.seq ?_
    refine HT.reg1 [1, 2, 6, 7, 26] [⟨none, .no⟩, ⟨none, .no⟩] ⟨[(1, .one (.dat (.sl (.int .i64)) a1)), (2, .one (.ptr 0 0)), (6, .one (.all 1)), (7, .one (.dat (.int .i64) s7.1)), (26, .one (.dat .bool (decide (s7.1 ≥ (0 : Int)))))], [(0, .box [.dat (.int .i64) a0.1, .dat (.int .i64) a0.2.1, .dat (.sl (.flt .f32)) a0.2.2.1, .dat (.sl (.flt .f32)) a0.2.2.2.1, .dat (.sl (.flt .f32)) a0.2.2.2.2]), (1, .seq (.sl (.flt .f32)) s7.2)], 2⟩ hP hN (by kernel_rfl) allNil ?_
    rcases of_bif hx11 with ⟨hb13, hx11⟩ | ⟨hb13, hx11⟩
    · refine HT.cond1 rfl hb13 ?_
      refine HT.skip (qThen ?_)
      refine HT.seq ?_
      refine HT.block ?_
      obtain ⟨hg14, hx11⟩ := of_guard hx11
      refine HT.reg1 [1, 2, 6, 7, 8] [⟨none, .no⟩, ⟨none, .no⟩, ⟨none, .ty (.flt .f32)⟩, ⟨none, .no⟩] ⟨[(1, .one (.dat (.sl (.int .i64)) a1)), (2, .one (.ptr 0 0)), (6, .one (.all 1)), (7, .one (.dat (.int .i64) s7.1)), (8, .one (.all 2))], [(2, .seq (.flt .f32) (List.replicate (Int.toNat a0.1) (0 : Nat))), (0, .box [.dat (.int .i64) a0.1, .dat (.int .i64) a0.2.1, .dat (.sl (.flt .f32)) a0.2.2.1, .dat (.sl (.flt .f32)) a0.2.2.2.1, .dat (.sl (.flt .f32)) a0.2.2.2.2]), (1, .seq (.sl (.flt .f32)) s7.2)], 3⟩ hP hN (by kernel_rfl) (allCons (show (0 : Int) ≤ a0.1 ∧ a0.1 ≤ a0.1 ∧ a0.1 ≤ 4294967296 from ⟨hg14.1, Int.le_refl _, hg14.2⟩) allNil) ?_
      refine HT.seq ?_
      refine HT.reg1 [1, 2, 6, 7, 8, 33, 34] [⟨none, .no⟩, ⟨none, .no⟩, ⟨none, .no⟩] ⟨[(1, .one (.dat (.sl (.int .i64)) a1)), (2, .one (.ptr 0 0)), (6, .one (.all 1)), (7, .one (.dat (.int .i64) s7.1)), (8, .one (.all 2)), (33, .one (.dat (.int .i64) a0.1)), (34, .one (.dat (.int .i64) (0 : Int)))], [(2, .seq (.flt .f32) (List.replicate (Int.toNat a0.1) (0 : Nat))), (0, .box [.dat (.int .i64) a0.1, .dat (.int .i64) a0.2.1, .dat (.sl (.flt .f32)) a0.2.2.1, .dat (.sl (.flt .f32)) a0.2.2.2.1, .dat (.sl (.flt .f32)) a0.2.2.2.2]), (1, .seq (.sl (.flt .f32)) s7.2)], 3⟩ hP hN (by kernel_rfl) allNil ?_
      refine HT.block ?_
      obtain ⟨r16, hL39, hx11⟩ := of_bind hx11
      refine (Le.cv (s := ⟨[(0, 0), (1, 1), (2, 2)], [], [], false⟩) (own := []) (ps := [a1 = a1, s7.1 = s7.1, a0.1 = a0.1, (0 : Int) = (0 : Int), a0.1 = a0.1, a0.2.1 = a0.2.1, a0.2.2.1 = a0.2.2.1, a0.2.2.2.1 = a0.2.2.2.1, a0.2.2.2.2 = a0.2.2.2.2, s7.2 = s7.2, (List.replicate (Int.toNat a0.1) (0 : Nat)) = (List.replicate (Int.toNat a0.1) (0 : Nat))]) (st' := ⟨[(1, .one (.dat (.sl (.int .i64)) a1)), (2, .one (.ptr 0 0)), (6, .one (.all 1)), (7, .one (.dat (.int .i64) s7.1)), (8, .one (.all 2)), (33, .one (.dat (.int .i64) a0.1)), (34, .one (.dat (.int .i64) (0 : Int)))], [(0, .box [.dat (.int .i64) a0.1, .dat (.int .i64) a0.2.1, .dat (.sl (.flt .f32)) a0.2.2.1, .dat (.sl (.flt .f32)) a0.2.2.2.1, .dat (.sl (.flt .f32)) a0.2.2.2.2]), (1, .seq (.sl (.flt .f32)) s7.2), (2, .seq (.flt .f32) (List.replicate (Int.toNat a0.1) (0 : Nat)))], 3⟩) hO (fun h => by cases h) (by kernel_rfl) ⟨rfl, rfl, rfl, rfl, rfl, rfl, rfl, rfl, rfl, rfl, rfl, trivial⟩).ht ?_
      refine HT.loopE (s := ((0 : Int), (List.replicate (Int.toNat a0.1) (0 : Nat)))) (fun (s15 : Int × List Nat) => ⟨[(1, .one (.dat (.sl (.int .i64)) a1)), (2, .one (.ptr 0 0)), (6, .one (.all 1)), (7, .one (.dat (.int .i64) s7.1)), (8, .one (.all 2)), (33, .one (.dat (.int .i64) a0.1)), (34, .one (.dat (.int .i64) s15.1))], [(0, .box [.dat (.int .i64) a0.1, .dat (.int .i64) a0.2.1, .dat (.sl (.flt .f32)) a0.2.2.1, .dat (.sl (.flt .f32)) a0.2.2.2.1, .dat (.sl (.flt .f32)) a0.2.2.2.2]), (1, .seq (.sl (.flt .f32)) s7.2), (2, .seq (.flt .f32) s15.2)], 3⟩) (fun (r17 : List Nat) => (.exit 2, ⟨[(1, .one (.dat (.sl (.int .i64)) a1)), (2, .one (.ptr 0 0)), (6, .one (.all 1)), (7, .one (.dat (.int .i64) s7.1)), (8, .one (.all 2))], [(0, .box [.dat (.int .i64) a0.1, .dat (.int .i64) a0.2.1, .dat (.sl (.flt .f32)) a0.2.2.1, .dat (.sl (.flt .f32)) a0.2.2.2.1, .dat (.sl (.flt .f32)) a0.2.2.2.2]), (1, .seq (.sl (.flt .f32)) s7.2), (2, .seq (.flt .f32) r17)], 3⟩)) hL39 ?_ (fun s15 x19 hx20 hk21 => ?_)
      · refine (qBlockX (qThen ?_))
        refine (Le.cv (s := ⟨[(0, 0), (1, 1)], [], [], true⟩) (own := []) (ps := [a1 = a1, s7.1 = s7.1, r16 = r16, a0.1 = a0.1, a0.2.1 = a0.2.1, a0.2.2.1 = a0.2.2.1, a0.2.2.2.1 = a0.2.2.2.1, a0.2.2.2.2 = a0.2.2.2.2, s7.2 = s7.2]) (st' := ⟨[(1, .one (.dat (.sl (.int .i64)) a1)), (2, .one (.ptr 0 0)), (6, .one (.all 1)), (7, .one (.dat (.int .i64) s7.1)), (8, .one (.dat (.sl (.flt .f32)) r16))], [(0, .box [.dat (.int .i64) a0.1, .dat (.int .i64) a0.2.1, .dat (.sl (.flt .f32)) a0.2.2.1, .dat (.sl (.flt .f32)) a0.2.2.2.1, .dat (.sl (.flt .f32)) a0.2.2.2.2]), (1, .seq (.sl (.flt .f32)) s7.2)], 3⟩) hO (fun _ => hF) (by kernel_rfl) ⟨rfl, rfl, rfl, rfl, rfl, rfl, rfl, rfl, rfl, trivial⟩).ht ?_
        obtain ⟨hg18, hx11⟩ := of_guard hx11
        refine HT.reg (rs := [⟨none, .no⟩, ⟨none, .no⟩, ⟨none, .no⟩, ⟨none, .no⟩, ⟨none, .no⟩]) (st' := ⟨[(76, .one (.elp 1 (Int.toNat s7.1) 1 0)), (75, .one (.dat (.sl (.flt .f32)) r16)), (74, .one (.dat (.int .i64) s7.1)), (73, .one (.all 1)), (1, .one (.dat (.sl (.int .i64)) a1)), (2, .one (.ptr 0 0)), (6, .one (.all 1)), (7, .one (.dat (.int .i64) s7.1)), (8, .one (.dat (.sl (.flt .f32)) r16))], [(1, .seq (.sl (.flt .f32)) (List.set s7.2 (Int.toNat s7.1) r16)), (0, .box [.dat (.int .i64) a0.1, .dat (.int .i64) a0.2.1, .dat (.sl (.flt .f32)) a0.2.2.1, .dat (.sl (.flt .f32)) a0.2.2.2.1, .dat (.sl (.flt .f32)) a0.2.2.2.2]), (1, .seq (.sl (.flt .f32)) s7.2)], 3⟩) hP hN (by kernel_rfl) (allCons hg18 (allCons (natLt hg18) allNil)) (qBlock (qThen ?_))
        have hx11 := of_some hx11
        subst hx11
        refine HT.reg (rs := [⟨none, .no⟩, ⟨none, .no⟩, ⟨none, .no⟩]) (st' := ⟨[(7, .one (.dat (.int .i64) (wsub .i64 s7.1 (1 : Int)))), (28, .one (.dat (.int .i64) (wsub .i64 s7.1 (1 : Int)))), (27, .one (.dat (.int .i64) s7.1)), (76, .one (.elp 1 (Int.toNat s7.1) 1 0)), (75, .one (.dat (.sl (.flt .f32)) r16)), (74, .one (.dat (.int .i64) s7.1)), (73, .one (.all 1)), (1, .one (.dat (.sl (.int .i64)) a1)), (2, .one (.ptr 0 0)), (6, .one (.all 1)), (7, .one (.dat (.int .i64) s7.1)), (8, .one (.dat (.sl (.flt .f32)) r16))], [(1, .seq (.sl (.flt .f32)) (List.set s7.2 (Int.toNat s7.1) r16)), (0, .box [.dat (.int .i64) a0.1, .dat (.int .i64) a0.2.1, .dat (.sl (.flt .f32)) a0.2.2.1, .dat (.sl (.flt .f32)) a0.2.2.2.1, .dat (.sl (.flt .f32)) a0.2.2.2.2]), (1, .seq (.sl (.flt .f32)) s7.2)], 3⟩) hP hN (by kernel_rfl) allNil (qLoopN ⟨((wsub .i64 s7.1 (1 : Int)), (List.set s7.2 (Int.toNat s7.1) r16)), rfl, Le.cv (s := ⟨[(0, 0), (1, 1)], [], [], false⟩) (own := []) (ps := [a1 = a1, (wsub .i64 s7.1 (1 : Int)) = (wsub .i64 s7.1 (1 : Int)), a0.1 = a0.1, a0.2.1 = a0.2.1, a0.2.2.1 = a0.2.2.1, a0.2.2.2.1 = a0.2.2.2.1, a0.2.2.2.2 = a0.2.2.2.2, (List.set s7.2 (Int.toNat s7.1) r16) = (List.set s7.2 (Int.toNat s7.1) r16)]) (st' := ⟨[(1, .one (.dat (.sl (.int .i64)) a1)), (2, .one (.ptr 0 0)), (6, .one (.all 1)), (7, .one (.dat (.int .i64) (wsub .i64 s7.1 (1 : Int))))], [(0, .box [.dat (.int .i64) a0.1, .dat (.int .i64) a0.2.1, .dat (.sl (.flt .f32)) a0.2.2.1, .dat (.sl (.flt .f32)) a0.2.2.2.1, .dat (.sl (.flt .f32)) a0.2.2.2.2]), (1, .seq (.sl (.flt .f32)) (List.set s7.2 (Int.toNat s7.1) r16))], 2⟩) hO (fun h => by cases h) (by kernel_rfl) ⟨rfl, rfl, rfl, rfl, rfl, rfl, rfl, rfl, trivial⟩⟩)
      · refine HT.reg1 [1, 2, 6, 7, 8, 33, 34, 35] [⟨none, .no⟩] ⟨[(1, .one (.dat (.sl (.int .i64)) a1)), (2, .one (.ptr 0 0)), (6, .one (.all 1)), (7, .one (.dat (.int .i64) s7.1)), (8, .one (.all 2)), (33, .one (.dat (.int .i64) a0.1)), (34, .one (.dat (.int .i64) s15.1)), (35, .one (.dat .bool (decide (s15.1 < a0.1))))], [(0, .box [.dat (.int .i64) a0.1, .dat (.int .i64) a0.2.1, .dat (.sl (.flt .f32)) a0.2.2.1, .dat (.sl (.flt .f32)) a0.2.2.2.1, .dat (.sl (.flt .f32)) a0.2.2.2.2]), (1, .seq (.sl (.flt .f32)) s7.2), (2, .seq (.flt .f32) s15.2)], 3⟩ hP hN (by kernel_rfl) allNil ?_
        refine HT.seq ?_
        rcases of_bif hx20 with ⟨hb22, hx20⟩ | ⟨hb22, hx20⟩
        · refine HT.cond1 rfl hb22 ?_
          refine HT.skip (qThen ?_)
          refine HT.seq ?_
          refine HT.block ?_
          refine HT.reg1 [1, 2, 6, 7, 8, 9, 33, 34] [⟨none, .no⟩, ⟨none, .no⟩] ⟨[(1, .one (.dat (.sl (.int .i64)) a1)), (2, .one (.ptr 0 0)), (6, .one (.all 1)), (7, .one (.dat (.int .i64) s7.1)), (8, .one (.all 2)), (9, .one (.dat (.int .i64) s15.1)), (33, .one (.dat (.int .i64) a0.1)), (34, .one (.dat (.int .i64) s15.1))], [(0, .box [.dat (.int .i64) a0.1, .dat (.int .i64) a0.2.1, .dat (.sl (.flt .f32)) a0.2.2.1, .dat (.sl (.flt .f32)) a0.2.2.2.1, .dat (.sl (.flt .f32)) a0.2.2.2.2]), (1, .seq (.sl (.flt .f32)) s7.2), (2, .seq (.flt .f32) s15.2)], 3⟩ hP hN (by kernel_rfl) allNil ?_
          refine HT.reg1 [1, 2, 6, 7, 8, 9, 33, 34, 38, 39] [⟨none, .no⟩, ⟨none, .no⟩, ⟨none, .no⟩] ⟨[(1, .one (.dat (.sl (.int .i64)) a1)), (2, .one (.ptr 0 0)), (6, .one (.all 1)), (7, .one (.dat (.int .i64) s7.1)), (8, .one (.all 2)), (9, .one (.dat (.int .i64) s15.1)), (33, .one (.dat (.int .i64) a0.1)), (34, .one (.dat (.int .i64) s15.1)), (38, .one (.dat (.int .i64) a0.1)), (39, .one (.dat (.int .i64) (0 : Int)))], [(0, .box [.dat (.int .i64) a0.1, .dat (.int .i64) a0.2.1, .dat (.sl (.flt .f32)) a0.2.2.1, .dat (.sl (.flt .f32)) a0.2.2.2.1, .dat (.sl (.flt .f32)) a0.2.2.2.2]), (1, .seq (.sl (.flt .f32)) s7.2), (2, .seq (.flt .f32) s15.2)], 3⟩ hP hN (by kernel_rfl) allNil ?_
          refine HT.block ?_
          obtain ⟨r24, hL38, hx20⟩ := of_bind hx20
          refine (Le.cv (s := ⟨[(0, 0), (1, 1), (2, 2)], [], [], false⟩) (own := []) (ps := [a1 = a1, s7.1 = s7.1, s15.1 = s15.1, a0.1 = a0.1, s15.1 = s15.1, a0.1 = a0.1, (0 : Int) = (0 : Int), a0.1 = a0.1, a0.2.1 = a0.2.1, a0.2.2.1 = a0.2.2.1, a0.2.2.2.1 = a0.2.2.2.1, a0.2.2.2.2 = a0.2.2.2.2, s7.2 = s7.2, s15.2 = s15.2]) (st' := ⟨[(1, .one (.dat (.sl (.int .i64)) a1)), (2, .one (.ptr 0 0)), (6, .one (.all 1)), (7, .one (.dat (.int .i64) s7.1)), (8, .one (.all 2)), (9, .one (.dat (.int .i64) s15.1)), (33, .one (.dat (.int .i64) a0.1)), (34, .one (.dat (.int .i64) s15.1)), (38, .one (.dat (.int .i64) a0.1)), (39, .one (.dat (.int .i64) (0 : Int)))], [(0, .box [.dat (.int .i64) a0.1, .dat (.int .i64) a0.2.1, .dat (.sl (.flt .f32)) a0.2.2.1, .dat (.sl (.flt .f32)) a0.2.2.2.1, .dat (.sl (.flt .f32)) a0.2.2.2.2]), (1, .seq (.sl (.flt .f32)) s7.2), (2, .seq (.flt .f32) s15.2)], 3⟩) hO (fun h => by cases h) (by kernel_rfl) ⟨rfl, rfl, rfl, rfl, rfl, rfl, rfl, rfl, rfl, rfl, rfl, rfl, rfl, rfl, trivial⟩).ht ?_
          refine HT.loopE (s := ((0 : Int), s15.2)) (fun (s23 : Int × List Nat) => ⟨[(1, .one (.dat (.sl (.int .i64)) a1)), (2, .one (.ptr 0 0)), (6, .one (.all 1)), (7, .one (.dat (.int .i64) s7.1)), (8, .one (.all 2)), (9, .one (.dat (.int .i64) s15.1)), (33, .one (.dat (.int .i64) a0.1)), (34, .one (.dat (.int .i64) s15.1)), (38, .one (.dat (.int .i64) a0.1)), (39, .one (.dat (.int .i64) s23.1))], [(0, .box [.dat (.int .i64) a0.1, .dat (.int .i64) a0.2.1, .dat (.sl (.flt .f32)) a0.2.2.1, .dat (.sl (.flt .f32)) a0.2.2.2.1, .dat (.sl (.flt .f32)) a0.2.2.2.2]), (1, .seq (.sl (.flt .f32)) s7.2), (2, .seq (.flt .f32) s23.2)], 3⟩) (fun (r25 : List Nat) => (.exit 4, ⟨[(1, .one (.dat (.sl (.int .i64)) a1)), (2, .one (.ptr 0 0)), (6, .one (.all 1)), (7, .one (.dat (.int .i64) s7.1)), (8, .one (.all 2)), (33, .one (.dat (.int .i64) a0.1)), (34, .one (.dat (.int .i64) s15.1))], [(0, .box [.dat (.int .i64) a0.1, .dat (.int .i64) a0.2.1, .dat (.sl (.flt .f32)) a0.2.2.1, .dat (.sl (.flt .f32)) a0.2.2.2.1, .dat (.sl (.flt .f32)) a0.2.2.2.2]), (1, .seq (.sl (.flt .f32)) s7.2), (2, .seq (.flt .f32) r25)], 3⟩)) hL38 ?_ (fun s23 x26 hx27 hk28 => ?_)
          · refine (qBlockX (qBlock (qThen ?_)))
            have hx20 := of_some hx20
            subst hx20
            refine HT.reg (rs := [⟨none, .no⟩, ⟨none, .no⟩]) (st' := ⟨[(34, .one (.dat (.int .i64) (wadd .i64 s15.1 (1 : Int)))), (72, .one (.dat (.int .i64) (wadd .i64 s15.1 (1 : Int)))), (1, .one (.dat (.sl (.int .i64)) a1)), (2, .one (.ptr 0 0)), (6, .one (.all 1)), (7, .one (.dat (.int .i64) s7.1)), (8, .one (.all 2)), (33, .one (.dat (.int .i64) a0.1)), (34, .one (.dat (.int .i64) s15.1))], [(0, .box [.dat (.int .i64) a0.1, .dat (.int .i64) a0.2.1, .dat (.sl (.flt .f32)) a0.2.2.1, .dat (.sl (.flt .f32)) a0.2.2.2.1, .dat (.sl (.flt .f32)) a0.2.2.2.2]), (1, .seq (.sl (.flt .f32)) s7.2), (2, .seq (.flt .f32) r24)], 3⟩) hP hN (by kernel_rfl) allNil (qLoopN ⟨((wadd .i64 s15.1 (1 : Int)), r24), rfl, Le.cv (s := ⟨[(0, 0), (1, 1), (2, 2)], [], [], false⟩) (own := []) (ps := [a1 = a1, s7.1 = s7.1, a0.1 = a0.1, (wadd .i64 s15.1 (1 : Int)) = (wadd .i64 s15.1 (1 : Int)), a0.1 = a0.1, a0.2.1 = a0.2.1, a0.2.2.1 = a0.2.2.1, a0.2.2.2.1 = a0.2.2.2.1, a0.2.2.2.2 = a0.2.2.2.2, s7.2 = s7.2, r24 = r24]) (st' := ⟨[(1, .one (.dat (.sl (.int .i64)) a1)), (2, .one (.ptr 0 0)), (6, .one (.all 1)), (7, .one (.dat (.int .i64) s7.1)), (8, .one (.all 2)), (33, .one (.dat (.int .i64) a0.1)), (34, .one (.dat (.int .i64) (wadd .i64 s15.1 (1 : Int))))], [(0, .box [.dat (.int .i64) a0.1, .dat (.int .i64) a0.2.1, .dat (.sl (.flt .f32)) a0.2.2.1, .dat (.sl (.flt .f32)) a0.2.2.2.1, .dat (.sl (.flt .f32)) a0.2.2.2.2]), (1, .seq (.sl (.flt .f32)) s7.2), (2, .seq (.flt .f32) r24)], 3⟩) hO (fun h => by cases h) (by kernel_rfl) ⟨rfl, rfl, rfl, rfl, rfl, rfl, rfl, rfl, rfl, rfl, rfl, trivial⟩⟩)
          · refine HT.reg1 [1, 2, 6, 7, 8, 9, 33, 34, 38, 39, 40] [⟨none, .no⟩] ⟨[(1, .one (.dat (.sl (.int .i64)) a1)), (2, .one (.ptr 0 0)), (6, .one (.all 1)), (7, .one (.dat (.int .i64) s7.1)), (8, .one (.all 2)), (9, .one (.dat (.int .i64) s15.1)), (33, .one (.dat (.int .i64) a0.1)), (34, .one (.dat (.int .i64) s15.1)), (38, .one (.dat (.int .i64) a0.1)), (39, .one (.dat (.int .i64) s23.1)), (40, .one (.dat .bool (decide (s23.1 < a0.1))))], [(0, .box [.dat (.int .i64) a0.1, .dat (.int .i64) a0.2.1, .dat (.sl (.flt .f32)) a0.2.2.1, .dat (.sl (.flt .f32)) a0.2.2.2.1, .dat (.sl (.flt .f32)) a0.2.2.2.2]), (1, .seq (.sl (.flt .f32)) s7.2), (2, .seq (.flt .f32) s23.2)], 3⟩ hP hN (by kernel_rfl) allNil ?_
            refine HT.seq ?_
            rcases of_bif hx27 with ⟨hb29, hx27⟩ | ⟨hb29, hx27⟩
            · refine HT.cond1 rfl hb29 ?_
              refine HT.skip (qThen ?_)
              refine HT.seq ?_
              refine HT.block ?_
              refine HT.reg1 [1, 2, 6, 7, 8, 9, 10, 33, 34, 38, 39] [⟨none, .no⟩, ⟨none, .no⟩] ⟨[(1, .one (.dat (.sl (.int .i64)) a1)), (2, .one (.ptr 0 0)), (6, .one (.all 1)), (7, .one (.dat (.int .i64) s7.1)), (8, .one (.all 2)), (9, .one (.dat (.int .i64) s15.1)), (10, .one (.dat (.int .i64) s23.1)), (33, .one (.dat (.int .i64) a0.1)), (34, .one (.dat (.int .i64) s15.1)), (38, .one (.dat (.int .i64) a0.1)), (39, .one (.dat (.int .i64) s23.1))], [(0, .box [.dat (.int .i64) a0.1, .dat (.int .i64) a0.2.1, .dat (.sl (.flt .f32)) a0.2.2.1, .dat (.sl (.flt .f32)) a0.2.2.2.1, .dat (.sl (.flt .f32)) a0.2.2.2.2]), (1, .seq (.sl (.flt .f32)) s7.2), (2, .seq (.flt .f32) s23.2)], 3⟩ hP hN (by kernel_rfl) allNil ?_
              obtain ⟨hg30, hx27⟩ := of_guard hx27
              obtain ⟨hg31, hx27⟩ := of_guard hx27
              obtain ⟨y32, hc33, hx27⟩ := of_bind hx27
              obtain ⟨y34, hc35, hx27⟩ := of_bind hx27
              obtain ⟨hg36, hx27⟩ := of_guard hx27
              obtain ⟨hg37, hx27⟩ := of_guard hx27
              refine drawS (h := 28) (hrs := [⟨⟨none, .no⟩, []⟩, ⟨⟨none, .no⟩, []⟩, ⟨⟨none, .no⟩, []⟩, ⟨⟨none, .no⟩, []⟩, ⟨⟨none, .no⟩, [2, 3]⟩, ⟨⟨none, .no⟩, [2, 3, 4]⟩, ⟨⟨none, .no⟩, []⟩, ⟨⟨none, .no⟩, []⟩, ⟨⟨none, .no⟩, []⟩, ⟨⟨none, .no⟩, []⟩, ⟨⟨none, .no⟩, [8, 9]⟩, ⟨⟨none, .no⟩, [8, 9, 10]⟩, ⟨⟨none, .call [.imm (.st (.pair (.int .i64) (.pair (.int .i64) (.pair (.sl (.flt .f32)) (.pair (.sl (.flt .f32)) (.sl (.flt .f32))))))), .imm (.int .i64), .imm (.int .i64)] [⟨false, (.flt .f32), y32⟩] []⟩, [6, 7, 8, 9, 10, 11]⟩, ⟨⟨none, .no⟩, []⟩, ⟨⟨none, .no⟩, []⟩, ⟨⟨none, .no⟩, []⟩, ⟨⟨none, .call [.imm (.st (.pair (.int .i64) (.pair (.int .i64) (.pair (.sl (.flt .f32)) (.pair (.sl (.flt .f32)) (.sl (.flt .f32))))))), .imm (.int .i64), .imm (.int .i64)] [⟨false, (.flt .f32), y34⟩] []⟩, [6, 7, 8, 9, 10, 11, 12, 13, 14, 15]⟩, ⟨⟨none, .no⟩, [6, 7, 8, 9, 10, 11, 12, 13, 14, 15, 16]⟩, ⟨⟨none, .no⟩, []⟩, ⟨⟨none, .no⟩, []⟩, ⟨⟨none, .no⟩, [19]⟩, ⟨⟨none, .no⟩, [18, 19, 20]⟩, ⟨⟨none, .no⟩, [18, 19, 20, 21]⟩, ⟨⟨none, .no⟩, []⟩, ⟨⟨none, .no⟩, [18, 19, 20, 21, 22, 23]⟩, ⟨⟨none, .no⟩, [18, 19, 20, 21, 22, 23, 24]⟩, ⟨⟨none, .no⟩, [6, 7, 8, 9, 10, 11, 12, 13, 14, 15, 16, 17, 18, 19, 20, 21, 22, 23, 24, 25]⟩, ⟨⟨none, .no⟩, [2, 3, 4, 5, 6, 7, 8, 9, 10, 11, 12, 13, 14, 15, 16, 17, 18, 19, 20, 21, 22, 23, 24, 25, 26]⟩]) (tds := [[0, 1, 2, 3, 4, 5, 6, 7, 8, 9, 10, 11, 12, 13, 14, 15, 16, 17, 18, 19, 20, 21, 22, 23, 24, 25, 26, 27], [0, 1, 2, 3, 4, 5, 6, 7, 8, 9, 10, 11, 12, 13, 14, 15, 16, 17, 18, 19, 20, 21, 22, 23, 24, 25, 26, 27, 28]]) (rs := [⟨none, .no⟩, ⟨none, .no⟩]) (st' := ⟨[(70, .one (.elp 2 (Int.toNat s15.1) 1 0)), (69, .one (.dat (.flt .f32) (fop .add .f32 (List.getD s23.2 (Int.toNat s15.1) (0 : Nat)) (fop .mul .f32 (fop .mul .f32 y32 y34) (List.getD (List.getD s7.2 (Int.toNat (wadd .i64 s7.1 (1 : Int))) ([] : List Nat)) (Int.toNat s23.1) (0 : Nat)))))), (68, .one (.dat (.flt .f32) (fop .mul .f32 (fop .mul .f32 y32 y34) (List.getD (List.getD s7.2 (Int.toNat (wadd .i64 s7.1 (1 : Int))) ([] : List Nat)) (Int.toNat s23.1) (0 : Nat))))), (67, .one (.dat (.flt .f32) (List.getD (List.getD s7.2 (Int.toNat (wadd .i64 s7.1 (1 : Int))) ([] : List Nat)) (Int.toNat s23.1) (0 : Nat)))), (66, .one (.ip (.flt .f32) (List.getD (List.getD s7.2 (Int.toNat (wadd .i64 s7.1 (1 : Int))) ([] : List Nat)) (Int.toNat s23.1) (0 : Nat)) 0)), (65, .one (.dat (.int .i64) s23.1)), (64, .one (.dat (.sl (.flt .f32)) (List.getD s7.2 (Int.toNat (wadd .i64 s7.1 (1 : Int))) ([] : List Nat)))), (63, .one (.elp 1 (Int.toNat (wadd .i64 s7.1 (1 : Int))) 1 0)), (62, .one (.dat (.int .i64) (wadd .i64 s7.1 (1 : Int)))), (61, .one (.dat (.int .i64) s7.1)), (60, .one (.all 1)), (59, .one (.dat (.flt .f32) (fop .mul .f32 y32 y34))), (58, .one (.dat (.flt .f32) y34)), (57, .one (.dat (.int .i64) s23.1)), (56, .one (.dat (.int .i64) s15.1)), (55, .agg [.dat (.int .i64) a0.1, .dat (.int .i64) a0.2.1, .dat (.sl (.flt .f32)) a0.2.2.1, .dat (.sl (.flt .f32)) a0.2.2.2.1, .dat (.sl (.flt .f32)) a0.2.2.2.2]), (54, .one (.dat (.flt .f32) y32)), (53, .one (.dat (.int .i64) (List.getD a1 (Int.toNat s7.1) (0 : Int)))), (52, .one (.ip (.int .i64) (List.getD a1 (Int.toNat s7.1) (0 : Int)) 0)), (51, .one (.dat (.int .i64) s7.1)), (50, .one (.dat (.sl (.int .i64)) a1)), (49, .one (.dat (.int .i64) s15.1)), (48, .agg [.dat (.int .i64) a0.1, .dat (.int .i64) a0.2.1, .dat (.sl (.flt .f32)) a0.2.2.1, .dat (.sl (.flt .f32)) a0.2.2.2.1, .dat (.sl (.flt .f32)) a0.2.2.2.2]), (47, .one (.dat (.flt .f32) (List.getD s23.2 (Int.toNat s15.1) (0 : Nat)))), (46, .one (.elp 2 (Int.toNat s15.1) 1 0)), (45, .one (.dat (.int .i64) s15.1)), (44, .one (.all 2)), (43, .one (.dat (.int .i64) s15.1)), (42, .one (.all 2)), (1, .one (.dat (.sl (.int .i64)) a1)), (2, .one (.ptr 0 0)), (6, .one (.all 1)), (7, .one (.dat (.int .i64) s7.1)), (8, .one (.all 2)), (9, .one (.dat (.int .i64) s15.1)), (10, .one (.dat (.int .i64) s23.1)), (33, .one (.dat (.int .i64) a0.1)), (34, .one (.dat (.int .i64) s15.1)), (38, .one (.dat (.int .i64) a0.1)), (39, .one (.dat (.int .i64) s23.1))], [(2, .seq (.flt .f32) (List.set s23.2 (Int.toNat s15.1) (fop .add .f32 (List.getD s23.2 (Int.toNat s15.1) (0 : Nat)) (fop .mul .f32 (fop .mul .f32 y32 y34) (List.getD (List.getD s7.2 (Int.toNat (wadd .i64 s7.1 (1 : Int))) ([] : List Nat)) (Int.toNat s23.1) (0 : Nat)))))), (0, .box [.dat (.int .i64) a0.1, .dat (.int .i64) a0.2.1, .dat (.sl (.flt .f32)) a0.2.2.1, .dat (.sl (.flt .f32)) a0.2.2.2.1, .dat (.sl (.flt .f32)) a0.2.2.2.2]), (1, .seq (.sl (.flt .f32)) s7.2), (2, .seq (.flt .f32) s23.2)], 3⟩) hP hN (by kernel_rfl) (by kernel_rfl) (allCons hg30 (allCons (natLt hg30) (allCons hg31 (allCons (f83_ok hc33) (allCons (f84_ok hc35) (allCons hg36 (allCons (natLt hg36) (allCons hg37 (allCons hg30 (allCons (natLt hg30) allNil)))))))))) (qBlock (qThen ?_))
              have hx27 := of_some hx27
              subst hx27
              refine HT.reg (rs := [⟨none, .no⟩, ⟨none, .no⟩]) (st' := ⟨[(39, .one (.dat (.int .i64) (wadd .i64 s23.1 (1 : Int)))), (71, .one (.dat (.int .i64) (wadd .i64 s23.1 (1 : Int)))), (70, .one (.elp 2 (Int.toNat s15.1) 1 0)), (69, .one (.dat (.flt .f32) (fop .add .f32 (List.getD s23.2 (Int.toNat s15.1) (0 : Nat)) (fop .mul .f32 (fop .mul .f32 y32 y34) (List.getD (List.getD s7.2 (Int.toNat (wadd .i64 s7.1 (1 : Int))) ([] : List Nat)) (Int.toNat s23.1) (0 : Nat)))))), (68, .one (.dat (.flt .f32) (fop .mul .f32 (fop .mul .f32 y32 y34) (List.getD (List.getD s7.2 (Int.toNat (wadd .i64 s7.1 (1 : Int))) ([] : List Nat)) (Int.toNat s23.1) (0 : Nat))))), (67, .one (.dat (.flt .f32) (List.getD (List.getD s7.2 (Int.toNat (wadd .i64 s7.1 (1 : Int))) ([] : List Nat)) (Int.toNat s23.1) (0 : Nat)))), (66, .one (.ip (.flt .f32) (List.getD (List.getD s7.2 (Int.toNat (wadd .i64 s7.1 (1 : Int))) ([] : List Nat)) (Int.toNat s23.1) (0 : Nat)) 0)), (65, .one (.dat (.int .i64) s23.1)), (64, .one (.dat (.sl (.flt .f32)) (List.getD s7.2 (Int.toNat (wadd .i64 s7.1 (1 : Int))) ([] : List Nat)))), (63, .one (.elp 1 (Int.toNat (wadd .i64 s7.1 (1 : Int))) 1 0)), (62, .one (.dat (.int .i64) (wadd .i64 s7.1 (1 : Int)))), (61, .one (.dat (.int .i64) s7.1)), (60, .one (.all 1)), (59, .one (.dat (.flt .f32) (fop .mul .f32 y32 y34))), (58, .one (.dat (.flt .f32) y34)), (57, .one (.dat (.int .i64) s23.1)), (56, .one (.dat (.int .i64) s15.1)), (55, .agg [.dat (.int .i64) a0.1, .dat (.int .i64) a0.2.1, .dat (.sl (.flt .f32)) a0.2.2.1, .dat (.sl (.flt .f32)) a0.2.2.2.1, .dat (.sl (.flt .f32)) a0.2.2.2.2]), (54, .one (.dat (.flt .f32) y32)), (53, .one (.dat (.int .i64) (List.getD a1 (Int.toNat s7.1) (0 : Int)))), (52, .one (.ip (.int .i64) (List.getD a1 (Int.toNat s7.1) (0 : Int)) 0)), (51, .one (.dat (.int .i64) s7.1)), (50, .one (.dat (.sl (.int .i64)) a1)), (49, .one (.dat (.int .i64) s15.1)), (48, .agg [.dat (.int .i64) a0.1, .dat (.int .i64) a0.2.1, .dat (.sl (.flt .f32)) a0.2.2.1, .dat (.sl (.flt .f32)) a0.2.2.2.1, .dat (.sl (.flt .f32)) a0.2.2.2.2]), (47, .one (.dat (.flt .f32) (List.getD s23.2 (Int.toNat s15.1) (0 : Nat)))), (46, .one (.elp 2 (Int.toNat s15.1) 1 0)), (45, .one (.dat (.int .i64) s15.1)), (44, .one (.all 2)), (43, .one (.dat (.int .i64) s15.1)), (42, .one (.all 2)), (1, .one (.dat (.sl (.int .i64)) a1)), (2, .one (.ptr 0 0)), (6, .one (.all 1)), (7, .one (.dat (.int .i64) s7.1)), (8, .one (.all 2)), (9, .one (.dat (.int .i64) s15.1)), (10, .one (.dat (.int .i64) s23.1)), (33, .one (.dat (.int .i64) a0.1)), (34, .one (.dat (.int .i64) s15.1)), (38, .one (.dat (.int .i64) a0.1)), (39, .one (.dat (.int .i64) s23.1))], [(2, .seq (.flt .f32) (List.set s23.2 (Int.toNat s15.1) (fop .add .f32 (List.getD s23.2 (Int.toNat s15.1) (0 : Nat)) (fop .mul .f32 (fop .mul .f32 y32 y34) (List.getD (List.getD s7.2 (Int.toNat (wadd .i64 s7.1 (1 : Int))) ([] : List Nat)) (Int.toNat s23.1) (0 : Nat)))))), (0, .box [.dat (.int .i64) a0.1, .dat (.int .i64) a0.2.1, .dat (.sl (.flt .f32)) a0.2.2.1, .dat (.sl (.flt .f32)) a0.2.2.2.1, .dat (.sl (.flt .f32)) a0.2.2.2.2]), (1, .seq (.sl (.flt .f32)) s7.2), (2, .seq (.flt .f32) s23.2)], 3⟩) hP hN (by kernel_rfl) allNil (qLoopN ⟨((wadd .i64 s23.1 (1 : Int)), (List.set s23.2 (Int.toNat s15.1) (fop .add .f32 (List.getD s23.2 (Int.toNat s15.1) (0 : Nat)) (fop .mul .f32 (fop .mul .f32 y32 y34) (List.getD (List.getD s7.2 (Int.toNat (wadd .i64 s7.1 (1 : Int))) ([] : List Nat)) (Int.toNat s23.1) (0 : Nat)))))), rfl, Le.cv (s := ⟨[(0, 0), (1, 1), (2, 2)], [], [], false⟩) (own := []) (ps := [a1 = a1, s7.1 = s7.1, s15.1 = s15.1, a0.1 = a0.1, s15.1 = s15.1, a0.1 = a0.1, (wadd .i64 s23.1 (1 : Int)) = (wadd .i64 s23.1 (1 : Int)), a0.1 = a0.1, a0.2.1 = a0.2.1, a0.2.2.1 = a0.2.2.1, a0.2.2.2.1 = a0.2.2.2.1, a0.2.2.2.2 = a0.2.2.2.2, s7.2 = s7.2, (List.set s23.2 (Int.toNat s15.1) (fop .add .f32 (List.getD s23.2 (Int.toNat s15.1) (0 : Nat)) (fop .mul .f32 (fop .mul .f32 y32 y34) (List.getD (List.getD s7.2 (Int.toNat (wadd .i64 s7.1 (1 : Int))) ([] : List Nat)) (Int.toNat s23.1) (0 : Nat))))) = (List.set s23.2 (Int.toNat s15.1) (fop .add .f32 (List.getD s23.2 (Int.toNat s15.1) (0 : Nat)) (fop .mul .f32 (fop .mul .f32 y32 y34) (List.getD (List.getD s7.2 (Int.toNat (wadd .i64 s7.1 (1 : Int))) ([] : List Nat)) (Int.toNat s23.1) (0 : Nat)))))]) (st' := ⟨[(1, .one (.dat (.sl (.int .i64)) a1)), (2, .one (.ptr 0 0)), (6, .one (.all 1)), (7, .one (.dat (.int .i64) s7.1)), (8, .one (.all 2)), (9, .one (.dat (.int .i64) s15.1)), (33, .one (.dat (.int .i64) a0.1)), (34, .one (.dat (.int .i64) s15.1)), (38, .one (.dat (.int .i64) a0.1)), (39, .one (.dat (.int .i64) (wadd .i64 s23.1 (1 : Int))))], [(0, .box [.dat (.int .i64) a0.1, .dat (.int .i64) a0.2.1, .dat (.sl (.flt .f32)) a0.2.2.1, .dat (.sl (.flt .f32)) a0.2.2.2.1, .dat (.sl (.flt .f32)) a0.2.2.2.2]), (1, .seq (.sl (.flt .f32)) s7.2), (2, .seq (.flt .f32) (List.set s23.2 (Int.toNat s15.1) (fop .add .f32 (List.getD s23.2 (Int.toNat s15.1) (0 : Nat)) (fop .mul .f32 (fop .mul .f32 y32 y34) (List.getD (List.getD s7.2 (Int.toNat (wadd .i64 s7.1 (1 : Int))) ([] : List Nat)) (Int.toNat s23.1) (0 : Nat))))))], 3⟩) hO (fun h => by cases h) (by kernel_rfl) ⟨rfl, rfl, rfl, rfl, rfl, rfl, rfl, rfl, rfl, rfl, rfl, rfl, rfl, rfl, trivial⟩⟩)
            · refine HT.cond0 rfl hb29 ?_
              have hx27 := of_some hx27
              subst hx27
              refine (Le.cv (s := ⟨[(0, 0), (1, 1), (2, 2)], [], [], false⟩) (own := []) (ps := [a1 = a1, s7.1 = s7.1, a0.1 = a0.1, s15.1 = s15.1, a0.1 = a0.1, a0.2.1 = a0.2.1, a0.2.2.1 = a0.2.2.1, a0.2.2.2.1 = a0.2.2.2.1, a0.2.2.2.2 = a0.2.2.2.2, s7.2 = s7.2, s23.2 = s23.2]) (st' := ⟨[(1, .one (.dat (.sl (.int .i64)) a1)), (2, .one (.ptr 0 0)), (6, .one (.all 1)), (7, .one (.dat (.int .i64) s7.1)), (8, .one (.all 2)), (33, .one (.dat (.int .i64) a0.1)), (34, .one (.dat (.int .i64) s15.1))], [(0, .box [.dat (.int .i64) a0.1, .dat (.int .i64) a0.2.1, .dat (.sl (.flt .f32)) a0.2.2.1, .dat (.sl (.flt .f32)) a0.2.2.2.1, .dat (.sl (.flt .f32)) a0.2.2.2.2]), (1, .seq (.sl (.flt .f32)) s7.2), (2, .seq (.flt .f32) s23.2)], 3⟩) hO (fun h => by cases h) (by kernel_rfl) ⟨rfl, rfl, rfl, rfl, rfl, rfl, rfl, rfl, rfl, rfl, rfl, trivial⟩).ht ?_
              exact HT.exit (qThenE (qLoopE (hk28 s23.2 rfl)))
        · refine HT.cond0 rfl hb22 ?_
          have hx20 := of_some hx20
          subst hx20
          refine (Le.cv (s := ⟨[(0, 0), (1, 1), (2, 2)], [], [], false⟩) (own := []) (ps := [a1 = a1, s7.1 = s7.1, a0.1 = a0.1, a0.2.1 = a0.2.1, a0.2.2.1 = a0.2.2.1, a0.2.2.2.1 = a0.2.2.2.1, a0.2.2.2.2 = a0.2.2.2.2, s7.2 = s7.2, s15.2 = s15.2]) (st' := ⟨[(1, .one (.dat (.sl (.int .i64)) a1)), (2, .one (.ptr 0 0)), (6, .one (.all 1)), (7, .one (.dat (.int .i64) s7.1)), (8, .one (.all 2))], [(0, .box [.dat (.int .i64) a0.1, .dat (.int .i64) a0.2.1, .dat (.sl (.flt .f32)) a0.2.2.1, .dat (.sl (.flt .f32)) a0.2.2.2.1, .dat (.sl (.flt .f32)) a0.2.2.2.2]), (1, .seq (.sl (.flt .f32)) s7.2), (2, .seq (.flt .f32) s15.2)], 3⟩) hO (fun h => by cases h) (by kernel_rfl) ⟨rfl, rfl, rfl, rfl, rfl, rfl, rfl, rfl, rfl, trivial⟩).ht ?_
          exact HT.exit (qThenE (qLoopE (hk21 s15.2 rfl)))
    · refine HT.cond0 rfl hb13 ?_
      have hx11 := of_some hx11
      subst hx11
      refine (Le.cv (s := ⟨[(1, 0)], [], [], false⟩) (own := []) (ps := [s7.2 = s7.2]) (st' := ⟨[(6, .one (.all 0))], [(0, .seq (.sl (.flt .f32)) s7.2)], 1⟩) hO (fun h => by cases h) (by kernel_rfl) ⟨rfl, trivial⟩).ht ?_
      exact HT.exit (qThenE (qLoopE (hk12 s7.2 rfl)))

noncomputable def impl_addUp_B1 (a0 : List Nat) (s1 : Nat × Int) : Option ((Nat × Int) ⊕ (Nat)) :=
  bif (decide (s1.2 < (lenI a0))) then
    guardP ((0 : Int) ≤ s1.2 ∧ s1.2 < lenI a0) (
      some (.inl ((fop .add .f32 s1.1 (List.getD a0 (Int.toNat s1.2) (0 : Nat))), (wadd .i64 s1.2 (1 : Int)))))
  else
    some (.inr s1.1)

noncomputable def impl_addUp (a0 : List Nat) : Option (Nat) :=
  (rounds (impl_addUp_B1 a0) ((0 : Nat), (0 : Int))).bind fun r3 =>
  some r3

theorem f111_ok {a0 : List Nat} {r : Nat} (hr : impl_addUp a0 = some r) : CallOK Try.prog 111 [.imm (.sl (.flt .f32)) a0] [⟨false, (.flt .f32), r⟩] [] := by
  unfold impl_addUp at hr
  refine CallOK.of_body (ts := [(false, (.flt .f32))]) Try.func111 rfl (by kernel_rfl) (Nat.le_of_ble_eq_true (by kernel_rfl)) fun cx hP hN hO hF => ?_
  have hO : cx.own.map Prod.fst = [] := hO
  have hF := hF rfl
  show HT cx ⟨[(0, .one (.dat (.sl (.flt .f32)) a0))], [], 0⟩ _ _
  refine HT.reg1 [0] [⟨none, .no⟩] ⟨[(0, .one (.dat (.sl (.flt .f32)) a0))], [], 0⟩ hP hN (by kernel_rfl) allNil ?_
  refine HT.reg1 [0, 3] [⟨none, .no⟩] ⟨[(0, .one (.dat (.sl (.flt .f32)) a0)), (3, .one (.dat (.flt .f32) (0 : Nat)))], [], 0⟩ hP hN (by kernel_rfl) allNil ?_
  refine HT.seq ?_
  refine HT.reg1 [3, 6, 7, 8] [⟨none, .no⟩, ⟨none, .no⟩, ⟨none, .no⟩] ⟨[(3, .one (.dat (.flt .f32) (0 : Nat))), (6, .one (.dat (.sl (.flt .f32)) a0)), (7, .one (.dat (.int .i64) (lenI a0))), (8, .one (.dat (.int .i64) (0 : Int)))], [], 0⟩ hP hN (by kernel_rfl) allNil ?_
  refine HT.block ?_
  obtain ⟨r2, hL9, hr⟩ := of_bind hr
  refine (Le.cv (s := ⟨[], [], [], false⟩) (own := []) (ps := [(0 : Nat) = (0 : Nat), a0 = a0, (lenI a0) = (lenI a0), (0 : Int) = (0 : Int)]) (st' := ⟨[(3, .one (.dat (.flt .f32) (0 : Nat))), (6, .one (.dat (.sl (.flt .f32)) a0)), (7, .one (.dat (.int .i64) (lenI a0))), (8, .one (.dat (.int .i64) (0 : Int)))], [], 0⟩) hO (fun h => by cases h) (by kernel_rfl) ⟨rfl, rfl, rfl, rfl, trivial⟩).ht ?_
  refine HT.loopE (s := ((0 : Nat), (0 : Int))) (fun (s1 : Nat × Int) => ⟨[(3, .one (.dat (.flt .f32) s1.1)), (6, .one (.dat (.sl (.flt .f32)) a0)), (7, .one (.dat (.int .i64) (lenI a0))), (8, .one (.dat (.int .i64) s1.2))], [], 0⟩) (fun (r3 : Nat) => (.exit 0, ⟨[(3, .one (.dat (.flt .f32) r3))], [], 0⟩)) hL9 ?_ (fun s1 x4 hx5 hk6 => ?_)
  · refine (qBlockX (qThen ?_))
    refine HT.reg1 [2] [⟨none, .no⟩, ⟨none, .no⟩] ⟨[(2, .one (.dat (.flt .f32) r2))], [], 0⟩ hP hN (by kernel_rfl) allNil ?_
    have hr := of_some hr
    subst hr
    exact HT.ret ⟨[.one (.dat (.flt .f32) r2)], [], [], by kernel_rfl, by kernel_rfl, rfl, by kernel_rfl, by kernel_rfl, trivial⟩
  · refine HT.reg1 [3, 6, 7, 8, 9] [⟨none, .no⟩] ⟨[(3, .one (.dat (.flt .f32) s1.1)), (6, .one (.dat (.sl (.flt .f32)) a0)), (7, .one (.dat (.int .i64) (lenI a0))), (8, .one (.dat (.int .i64) s1.2)), (9, .one (.dat .bool (decide (s1.2 < (lenI a0)))))], [], 0⟩ hP hN (by kernel_rfl) allNil ?_
    refine HT.seq ?_
    rcases of_bif hx5 with ⟨hb7, hx5⟩ | ⟨hb7, hx5⟩
    · refine HT.cond1 rfl hb7 ?_
      refine HT.skip (qThen ?_)
      refine HT.seq ?_
      refine HT.block ?_
      obtain ⟨hg8, hx5⟩ := of_guard hx5
      refine HT.reg1 [3, 5, 6, 7, 8] [⟨none, .no⟩, ⟨none, .no⟩, ⟨none, .no⟩] ⟨[(3, .one (.dat (.flt .f32) s1.1)), (5, .one (.dat (.flt .f32) (List.getD a0 (Int.toNat s1.2) (0 : Nat)))), (6, .one (.dat (.sl (.flt .f32)) a0)), (7, .one (.dat (.int .i64) (lenI a0))), (8, .one (.dat (.int .i64) s1.2))], [], 0⟩ hP hN (by kernel_rfl) (allCons hg8 allNil) ?_
      refine HT.reg (rs := [⟨none, .no⟩, ⟨none, .no⟩, ⟨none, .no⟩, ⟨none, .no⟩]) (st' := ⟨[(3, .one (.dat (.flt .f32) (fop .add .f32 s1.1 (List.getD a0 (Int.toNat s1.2) (0 : Nat))))), (14, .one (.dat (.flt .f32) (fop .add .f32 s1.1 (List.getD a0 (Int.toNat s1.2) (0 : Nat))))), (13, .one (.dat (.flt .f32) (List.getD a0 (Int.toNat s1.2) (0 : Nat)))), (12, .one (.dat (.flt .f32) s1.1)), (3, .one (.dat (.flt .f32) s1.1)), (5, .one (.dat (.flt .f32) (List.getD a0 (Int.toNat s1.2) (0 : Nat)))), (6, .one (.dat (.sl (.flt .f32)) a0)), (7, .one (.dat (.int .i64) (lenI a0))), (8, .one (.dat (.int .i64) s1.2))], [], 0⟩) hP hN (by kernel_rfl) allNil (qBlock (qThen ?_))
      have hx5 := of_some hx5
      subst hx5
      refine HT.reg (rs := [⟨none, .no⟩, ⟨none, .no⟩]) (st' := ⟨[(8, .one (.dat (.int .i64) (wadd .i64 s1.2 (1 : Int)))), (15, .one (.dat (.int .i64) (wadd .i64 s1.2 (1 : Int)))), (3, .one (.dat (.flt .f32) (fop .add .f32 s1.1 (List.getD a0 (Int.toNat s1.2) (0 : Nat))))), (14, .one (.dat (.flt .f32) (fop .add .f32 s1.1 (List.getD a0 (Int.toNat s1.2) (0 : Nat))))), (13, .one (.dat (.flt .f32) (List.getD a0 (Int.toNat s1.2) (0 : Nat)))), (12, .one (.dat (.flt .f32) s1.1)), (3, .one (.dat (.flt .f32) s1.1)), (5, .one (.dat (.flt .f32) (List.getD a0 (Int.toNat s1.2) (0 : Nat)))), (6, .one (.dat (.sl (.flt .f32)) a0)), (7, .one (.dat (.int .i64) (lenI a0))), (8, .one (.dat (.int .i64) s1.2))], [], 0⟩) hP hN (by kernel_rfl) allNil (qLoopN ⟨((fop .add .f32 s1.1 (List.getD a0 (Int.toNat s1.2) (0 : Nat))), (wadd .i64 s1.2 (1 : Int))), rfl, Le.cv (s := ⟨[], [], [], false⟩) (own := []) (ps := [(fop .add .f32 s1.1 (List.getD a0 (Int.toNat s1.2) (0 : Nat))) = (fop .add .f32 s1.1 (List.getD a0 (Int.toNat s1.2) (0 : Nat))), a0 = a0, (lenI a0) = (lenI a0), (wadd .i64 s1.2 (1 : Int)) = (wadd .i64 s1.2 (1 : Int))]) (st' := ⟨[(3, .one (.dat (.flt .f32) (fop .add .f32 s1.1 (List.getD a0 (Int.toNat s1.2) (0 : Nat))))), (6, .one (.dat (.sl (.flt .f32)) a0)), (7, .one (.dat (.int .i64) (lenI a0))), (8, .one (.dat (.int .i64) (wadd .i64 s1.2 (1 : Int))))], [], 0⟩) hO (fun h => by cases h) (by kernel_rfl) ⟨rfl, rfl, rfl, rfl, trivial⟩⟩)
    · refine HT.cond0 rfl hb7 ?_
      have hx5 := of_some hx5
      subst hx5
      refine (Le.cv (s := ⟨[], [], [], false⟩) (own := []) (ps := [s1.1 = s1.1]) (st' := ⟨[(3, .one (.dat (.flt .f32) s1.1))], [], 0⟩) hO (fun h => by cases h) (by kernel_rfl) ⟨rfl, trivial⟩).ht ?_
      exact HT.exit (qThenE (qLoopE (hk6 s1.1 rfl)))

noncomputable def impl_IsFinite (a0 : Nat) : Option (Bool) :=
  some (feq .f32 (fop .sub .f32 a0 a0) (0 : Nat))

theorem f106_ok {a0 : Nat} {r : Bool} (hr : impl_IsFinite a0 = some r) : CallOK Try.prog 106 [.imm (.flt .f32) a0] [⟨false, .bool, r⟩] [] := by
  unfold impl_IsFinite at hr
  refine CallOK.of_body (ts := [(false, .bool)]) Try.func106 rfl (by kernel_rfl) (Nat.le_of_ble_eq_true (by kernel_rfl)) fun cx hP hN hO hF => ?_
  have hO : cx.own.map Prod.fst = [] := hO
  have hF := hF rfl
  show HT cx ⟨[(0, .one (.dat (.flt .f32) a0))], [], 0⟩ _ _
  refine HT.reg1 [0] [⟨none, .no⟩] ⟨[(0, .one (.dat (.flt .f32) a0))], [], 0⟩ hP hN (by kernel_rfl) allNil ?_
  refine HT.reg1 [2] [⟨none, .no⟩, ⟨none, .no⟩, ⟨none, .no⟩, ⟨none, .no⟩, ⟨none, .no⟩] ⟨[(2, .one (.dat .bool (feq .f32 (fop .sub .f32 a0 a0) (0 : Nat))))], [], 0⟩ hP hN (by kernel_rfl) allNil ?_
  have hr := of_some hr
  subst hr
  exact HT.ret ⟨[.one (.dat .bool (feq .f32 (fop .sub .f32 a0 a0) (0 : Nat)))], [], [], by kernel_rfl, by kernel_rfl, rfl, by kernel_rfl, by kernel_rfl, trivial⟩

noncomputable def impl_areFinite_1 (a0 : Nat) : Option (Bool) :=
  (impl_IsFinite a0).bind fun y1 =>
  some (!y1)

theorem f105_ok {a0 : Nat} {r : Bool} (hr : impl_areFinite_1 a0 = some r) : CallOK Try.prog 105 [.imm (.flt .f32) a0] [⟨false, .bool, r⟩] [] := by
  unfold impl_areFinite_1 at hr
  refine CallOK.of_body (ts := [(false, .bool)]) Try.func105 rfl (by kernel_rfl) (Nat.le_of_ble_eq_true (by kernel_rfl)) fun cx hP hN hO hF => ?_
  have hO : cx.own.map Prod.fst = [] := hO
  have hF := hF rfl
  show HT cx ⟨[(0, .one (.dat (.flt .f32) a0))], [], 0⟩ _ _
  refine HT.reg1 [0] [⟨none, .no⟩] ⟨[(0, .one (.dat (.flt .f32) a0))], [], 0⟩ hP hN (by kernel_rfl) allNil ?_
  obtain ⟨y1, hc2, hr⟩ := of_bind hr
  refine HT.reg1 [2] [⟨none, .no⟩, ⟨none, .call [.imm (.flt .f32)] [⟨false, .bool, y1⟩] []⟩, ⟨none, .no⟩, ⟨none, .no⟩] ⟨[(2, .one (.dat .bool (!y1)))], [], 0⟩ hP hN (by kernel_rfl) (allCons (f106_ok hc2) allNil) ?_
  have hr := of_some hr
  subst hr
  exact HT.ret ⟨[.one (.dat .bool (!y1))], [], [], by kernel_rfl, by kernel_rfl, rfl, by kernel_rfl, by kernel_rfl, trivial⟩

noncomputable def slices_IndexFunc___float32_float32_fn1_impl_areFinite_1_B1 (a0 : List Nat) (s1 : Int) : Option ((Int) ⊕ (Unit ⊕ Int)) :=
  bif (decide (s1 < (lenI a0))) then
    guardP ((0 : Int) ≤ s1 ∧ s1 < lenI a0) (
      (impl_areFinite_1 (List.getD a0 (Int.toNat s1) (0 : Nat))).bind fun y10 =>
      bif y10 then
        some (.inr (.inr s1))
      else
        some (.inl (wadd .i64 s1 (1 : Int))))
  else
    some (.inr (.inl ()))

noncomputable def slices_IndexFunc___float32_float32_fn1_impl_areFinite_1 (a0 : List Nat) : Option (Int) :=
  (rounds (slices_IndexFunc___float32_float32_fn1_impl_areFinite_1_B1 a0) (0 : Int)).bind fun r2 => match r2 with
    | .inl r3 =>
      some (-1 : Int)
    | .inr r4 =>
      some r4

theorem f128_fn1_impl_areFinite_1_ok {a0 : List Nat} {r : Int} (hr : slices_IndexFunc___float32_float32_fn1_impl_areFinite_1 a0 = some r) : CallOK Try.prog 128 [.imm (.sl (.flt .f32)) a0, .fn 105] [⟨false, (.int .i64), r⟩] [] := by
  unfold slices_IndexFunc___float32_float32_fn1_impl_areFinite_1 at hr
  refine CallOK.of_body (ts := [(false, (.int .i64))]) Try.func128 rfl (by kernel_rfl) (Nat.le_of_ble_eq_true (by kernel_rfl)) fun cx hP hN hO hF => ?_
  have hO : cx.own.map Prod.fst = [] := hO
  have hF := hF rfl
  show HT cx ⟨[(0, .one (.dat (.sl (.flt .f32)) a0)), (1, .one (.fn 105))], [], 0⟩ _ _
  refine HT.reg1 [0, 1] [⟨none, .no⟩] ⟨[(0, .one (.dat (.sl (.flt .f32)) a0)), (1, .one (.fn 105))], [], 0⟩ hP hN (by kernel_rfl) allNil ?_
  refine HT.seq ?_
  refine HT.reg1 [0, 1, 7, 8] [⟨none, .no⟩, ⟨none, .no⟩, ⟨none, .no⟩] ⟨[(0, .one (.dat (.sl (.flt .f32)) a0)), (1, .one (.fn 105)), (7, .one (.dat (.int .i64) (lenI a0))), (8, .one (.dat (.int .i64) (0 : Int)))], [], 0⟩ hP hN (by kernel_rfl) allNil ?_
  refine HT.block ?_
  obtain ⟨r2, hL13, hr⟩ := of_bind hr
  refine (Le.cv (s := ⟨[], [], [], false⟩) (own := []) (ps := [a0 = a0, (lenI a0) = (lenI a0), (0 : Int) = (0 : Int)]) (st' := ⟨[(0, .one (.dat (.sl (.flt .f32)) a0)), (1, .one (.fn 105)), (7, .one (.dat (.int .i64) (lenI a0))), (8, .one (.dat (.int .i64) (0 : Int)))], [], 0⟩) hO (fun h => by cases h) (by kernel_rfl) ⟨rfl, rfl, rfl, trivial⟩).ht ?_
  refine HT.loopE (s := (0 : Int)) (fun (s1 : Int) => ⟨[(0, .one (.dat (.sl (.flt .f32)) a0)), (1, .one (.fn 105)), (7, .one (.dat (.int .i64) (lenI a0))), (8, .one (.dat (.int .i64) s1))], [], 0⟩) (fun (r2 : Unit ⊕ Int) => match r2 with | .inl r3 => (.exit 0, ⟨[], [], 0⟩) | .inr r4 => (.ret, ⟨[(4, .one (.dat (.int .i64) r4))], [], 0⟩)) hL13 ?_ (fun s1 x5 hx6 hk7 => ?_)
  · rcases r2 with r3 | r4
    · refine (qBlockX (qThen ?_))
      refine HT.reg1 [4] [⟨none, .no⟩] ⟨[(4, .one (.dat (.int .i64) (-1 : Int)))], [], 0⟩ hP hN (by kernel_rfl) allNil ?_
      have hr := of_some hr
      subst hr
      exact HT.ret ⟨[.one (.dat (.int .i64) (-1 : Int))], [], [], by kernel_rfl, by kernel_rfl, rfl, by kernel_rfl, by kernel_rfl, trivial⟩
    · have hr := of_some hr
      subst hr
      exact (qBlockR (qThenR ⟨[.one (.dat (.int .i64) r4)], [], [], by kernel_rfl, by kernel_rfl, rfl, by kernel_rfl, by kernel_rfl, trivial⟩))
  · refine HT.reg1 [0, 1, 7, 8, 9] [⟨none, .no⟩] ⟨[(0, .one (.dat (.sl (.flt .f32)) a0)), (1, .one (.fn 105)), (7, .one (.dat (.int .i64) (lenI a0))), (8, .one (.dat (.int .i64) s1)), (9, .one (.dat .bool (decide (s1 < (lenI a0)))))], [], 0⟩ hP hN (by kernel_rfl) allNil ?_
    refine HT.seq ?_
    rcases of_bif hx6 with ⟨hb8, hx6⟩ | ⟨hb8, hx6⟩
    · refine HT.cond1 rfl hb8 ?_
      refine HT.skip (qThen ?_)
      refine HT.seq ?_
      refine HT.block ?_
      refine HT.reg1 [0, 1, 5, 7, 8] [⟨none, .no⟩, ⟨none, .no⟩] ⟨[(0, .one (.dat (.sl (.flt .f32)) a0)), (1, .one (.fn 105)), (5, .one (.dat (.int .i64) s1)), (7, .one (.dat (.int .i64) (lenI a0))), (8, .one (.dat (.int .i64) s1))], [], 0⟩ hP hN (by kernel_rfl) allNil ?_
      obtain ⟨hg9, hx6⟩ := of_guard hx6
      obtain ⟨y10, hc11, hx6⟩ := of_bind hx6
      refine HT.reg1 [0, 1, 5, 7, 8, 16] [⟨none, .no⟩, ⟨none, .no⟩, ⟨none, .no⟩, ⟨none, .no⟩, ⟨none, .no⟩, ⟨none, .call [.imm (.flt .f32)] [⟨false, .bool, y10⟩] []⟩] ⟨[(0, .one (.dat (.sl (.flt .f32)) a0)), (1, .one (.fn 105)), (5, .one (.dat (.int .i64) s1)), (7, .one (.dat (.int .i64) (lenI a0))), (8, .one (.dat (.int .i64) s1)), (16, .one (.dat .bool y10))], [], 0⟩ hP hN (by kernel_rfl) (allCons hg9 (allCons (f105_ok hc11) allNil)) ?_
      rcases of_bif hx6 with ⟨hb12, hx6⟩ | ⟨hb12, hx6⟩
      · refine HT.cond1 rfl hb12 ?_
        refine HT.reg1 [4] [⟨none, .no⟩, ⟨none, .no⟩] ⟨[(4, .one (.dat (.int .i64) s1))], [], 0⟩ hP hN (by kernel_rfl) allNil ?_
        have hx6 := of_some hx6
        subst hx6
        refine (Le.cv (s := ⟨[], [], [], false⟩) (own := []) (ps := [s1 = s1]) (st' := ⟨[(4, .one (.dat (.int .i64) s1))], [], 0⟩) hO (fun h => by cases h) (by kernel_rfl) ⟨rfl, trivial⟩).ht ?_
        exact HT.ret (qBlockR (qThenR (qLoopR (hk7 (.inr s1) rfl))))
      · refine HT.cond0 rfl hb12 ?_
        refine HT.skip (qBlock (qThen ?_))
        have hx6 := of_some hx6
        subst hx6
        refine HT.reg (rs := [⟨none, .no⟩, ⟨none, .no⟩]) (st' := ⟨[(8, .one (.dat (.int .i64) (wadd .i64 s1 (1 : Int)))), (18, .one (.dat (.int .i64) (wadd .i64 s1 (1 : Int)))), (0, .one (.dat (.sl (.flt .f32)) a0)), (1, .one (.fn 105)), (5, .one (.dat (.int .i64) s1)), (7, .one (.dat (.int .i64) (lenI a0))), (8, .one (.dat (.int .i64) s1)), (16, .one (.dat .bool y10))], [], 0⟩) hP hN (by kernel_rfl) allNil (qLoopN ⟨(wadd .i64 s1 (1 : Int)), rfl, Le.cv (s := ⟨[], [], [], false⟩) (own := []) (ps := [a0 = a0, (lenI a0) = (lenI a0), (wadd .i64 s1 (1 : Int)) = (wadd .i64 s1 (1 : Int))]) (st' := ⟨[(0, .one (.dat (.sl (.flt .f32)) a0)), (1, .one (.fn 105)), (7, .one (.dat (.int .i64) (lenI a0))), (8, .one (.dat (.int .i64) (wadd .i64 s1 (1 : Int))))], [], 0⟩) hO (fun h => by cases h) (by kernel_rfl) ⟨rfl, rfl, rfl, trivial⟩⟩)
    · refine HT.cond0 rfl hb8 ?_
      have hx6 := of_some hx6
      subst hx6
      refine (Le.cv (s := ⟨[], [], [], false⟩) (own := []) (ps := []) (st' := ⟨[], [], 0⟩) hO (fun h => by cases h) (by kernel_rfl) trivial).ht ?_
      exact HT.exit (qThenE (qLoopE (hk7 (.inl ()) rfl)))

noncomputable def slices_ContainsFunc___float32_float32_fn1_impl_areFinite_1 (a0 : List Nat) : Option (Bool) :=
  (slices_IndexFunc___float32_float32_fn1_impl_areFinite_1 a0).bind fun y1 =>
  some (decide (y1 ≥ (0 : Int)))

theorem f104_fn1_impl_areFinite_1_ok {a0 : List Nat} {r : Bool} (hr : slices_ContainsFunc___float32_float32_fn1_impl_areFinite_1 a0 = some r) : CallOK Try.prog 104 [.imm (.sl (.flt .f32)) a0, .fn 105] [⟨false, .bool, r⟩] [] := by
  unfold slices_ContainsFunc___float32_float32_fn1_impl_areFinite_1 at hr
  refine CallOK.of_body (ts := [(false, .bool)]) Try.func104 rfl (by kernel_rfl) (Nat.le_of_ble_eq_true (by kernel_rfl)) fun cx hP hN hO hF => ?_
  have hO : cx.own.map Prod.fst = [] := hO
  have hF := hF rfl
  show HT cx ⟨[(0, .one (.dat (.sl (.flt .f32)) a0)), (1, .one (.fn 105))], [], 0⟩ _ _
  refine HT.reg1 [0, 1] [⟨none, .no⟩] ⟨[(0, .one (.dat (.sl (.flt .f32)) a0)), (1, .one (.fn 105))], [], 0⟩ hP hN (by kernel_rfl) allNil ?_
  obtain ⟨y1, hc2, hr⟩ := of_bind hr
  refine HT.reg1 [4] [⟨none, .no⟩, ⟨none, .no⟩, ⟨none, .call [.imm (.sl (.flt .f32)), .fn] [⟨false, (.int .i64), y1⟩] []⟩, ⟨none, .no⟩, ⟨none, .no⟩] ⟨[(4, .one (.dat .bool (decide (y1 ≥ (0 : Int)))))], [], 0⟩ hP hN (by kernel_rfl) (allCons (f128_fn1_impl_areFinite_1_ok hc2) allNil) ?_
  have hr := of_some hr
  subst hr
  exact HT.ret ⟨[.one (.dat .bool (decide (y1 ≥ (0 : Int))))], [], [], by kernel_rfl, by kernel_rfl, rfl, by kernel_rfl, by kernel_rfl, trivial⟩

noncomputable def impl_areFinite (a0 : List Nat) : Option (Bool) :=
  (slices_ContainsFunc___float32_float32_fn1_impl_areFinite_1 a0).bind fun y1 =>
  some (!y1)

theorem f80_ok {a0 : List Nat} {r : Bool} (hr : impl_areFinite a0 = some r) : CallOK Try.prog 80 [.imm (.sl (.flt .f32)) a0] [⟨false, .bool, r⟩] [] := by
  unfold impl_areFinite at hr
  refine CallOK.of_body (ts := [(false, .bool)]) Try.func80 rfl (by kernel_rfl) (Nat.le_of_ble_eq_true (by kernel_rfl)) fun cx hP hN hO hF => ?_
  have hO : cx.own.map Prod.fst = [] := hO
  have hF := hF rfl
  show HT cx ⟨[(0, .one (.dat (.sl (.flt .f32)) a0))], [], 0⟩ _ _
  refine HT.reg1 [0] [⟨none, .no⟩] ⟨[(0, .one (.dat (.sl (.flt .f32)) a0))], [], 0⟩ hP hN (by kernel_rfl) allNil ?_
  obtain ⟨y1, hc2, hr⟩ := of_bind hr
  refine HT.reg1 [2] [⟨none, .no⟩, ⟨none, .call [.imm (.sl (.flt .f32)), .fn] [⟨false, .bool, y1⟩] []⟩, ⟨none, .no⟩, ⟨none, .no⟩] ⟨[(2, .one (.dat .bool (!y1)))], [], 0⟩ hP hN (by kernel_rfl) (allCons (f104_fn1_impl_areFinite_1_ok hc2) allNil) ?_
  have hr := of_some hr
  subst hr
  exact HT.ret ⟨[.one (.dat .bool (!y1))], [], [], by kernel_rfl, by kernel_rfl, rfl, by kernel_rfl, by kernel_rfl, trivial⟩

noncomputable def impl_finiteList_mv0 (a0 : List Nat) : Option (List Nat × Bool) :=
  (impl_areFinite a0).bind fun y1 =>
  bif (!y1) then
    some (([] : List Nat), false)
  else
    some (a0, true)

theorem f48_mv0_ok {a0 : List Nat} {r : List Nat × Bool} (hr : impl_finiteList_mv0 a0 = some r) : CallOK Try.prog 48 [.mv (.sl (.flt .f32)) a0] [⟨true, (.sl (.flt .f32)), r.1⟩, ⟨false, .bool, r.2⟩] [] := by
  unfold impl_finiteList_mv0 at hr
  refine CallOK.of_body (ts := [(true, (.sl (.flt .f32))), (false, .bool)]) Try.func48 rfl (by kernel_rfl) (Nat.le_of_ble_eq_true (by kernel_rfl)) fun cx hP hN hO hF => ?_
  have hO : cx.own.map Prod.fst = [] := hO
  show HT cx ⟨[(0, .one (.all 0))], [(0, .seq (.flt .f32) a0)], 1⟩ _ _
  refine HT.reg1 [0] [⟨none, .no⟩, ⟨none, .no⟩] ⟨[(0, .one (.all 0))], [(0, .seq (.flt .f32) a0)], 1⟩ hP hN (by kernel_rfl) allNil ?_
  refine HT.seq ?_
  obtain ⟨y1, hc2, hr⟩ := of_bind hr
  refine HT.reg1 [0, 6] [⟨none, .no⟩, ⟨none, .call [.imm (.sl (.flt .f32))] [⟨false, .bool, y1⟩] []⟩, ⟨none, .no⟩] ⟨[(0, .one (.all 0)), (6, .one (.dat .bool (!y1)))], [(0, .seq (.flt .f32) a0)], 1⟩ hP hN (by kernel_rfl) (allCons (f80_ok hc2) allNil) ?_
  rcases of_bif hr with ⟨hb3, hr⟩ | ⟨hb3, hr⟩
  · refine HT.cond1 rfl hb3 ?_
    refine HT.reg1 [2, 3] [⟨none, .no⟩, ⟨none, .no⟩] ⟨[(2, .one (.nilS)), (3, .one (.dat .bool false))], [(0, .seq (.flt .f32) a0)], 1⟩ hP hN (by kernel_rfl) allNil ?_
    have hr := of_some hr
    subst hr
    exact HT.ret (qThenR ⟨[.one (.nilS), .one (.dat .bool false)], [], [], by kernel_rfl, by kernel_rfl, rfl, by kernel_rfl, by kernel_rfl, trivial⟩)
  · refine HT.cond0 rfl hb3 ?_
    refine HT.skip (qThen ?_)
    refine HT.reg1 [2, 3] [⟨none, .no⟩, ⟨none, .no⟩, ⟨none, .no⟩] ⟨[(2, .one (.all 0)), (3, .one (.dat .bool true))], [(0, .seq (.flt .f32) a0)], 1⟩ hP hN (by kernel_rfl) allNil ?_
    have hr := of_some hr
    subst hr
    exact HT.ret ⟨[.one (.all 0), .one (.dat .bool true)], [0], [], by kernel_rfl, by kernel_rfl, rfl, by kernel_rfl, by kernel_rfl, trivial⟩

noncomputable def impl_shares_mv0_B1 (a0 : List Nat) (y1 : Nat) (s4 : Int × List Nat) : Option ((Int × List Nat) ⊕ (List Nat)) :=
  bif (decide (s4.1 < (lenI a0))) then
    guardP ((0 : Int) ≤ s4.1 ∧ s4.1 < lenI s4.2) (
      some (.inl ((wadd .i64 s4.1 (1 : Int)), (List.set s4.2 (Int.toNat s4.1) (fop .quo .f32 (List.getD s4.2 (Int.toNat s4.1) (0 : Nat)) y1)))))
  else
    some (.inr s4.2)

noncomputable def impl_shares_mv0 (a0 : List Nat) : Option (List Nat × Bool) :=
  (impl_addUp a0).bind fun y1 =>
  bif (!(fgt .f32 y1 (0 : Nat))) then
    some (([] : List Nat), false)
  else
    (rounds (impl_shares_mv0_B1 a0 y1) ((0 : Int), a0)).bind fun r6 =>
    (impl_finiteList_mv0 r6).bind fun y7 =>
    some (y7.1, y7.2)

theorem f87_mv0_ok {a0 : List Nat} {r : List Nat × Bool} (hr : impl_shares_mv0 a0 = some r) : CallOK Try.prog 87 [.mv (.sl (.flt .f32)) a0] [⟨true, (.sl (.flt .f32)), r.1⟩, ⟨false, .bool, r.2⟩] [] := by
  unfold impl_shares_mv0 at hr
  refine CallOK.of_body (ts := [(true, (.sl (.flt .f32))), (false, .bool)]) Try.func87 rfl (by kernel_rfl) (Nat.le_of_ble_eq_true (by kernel_rfl)) fun cx hP hN hO hF => ?_
  have hO : cx.own.map Prod.fst = [] := hO
  show HT cx ⟨[(0, .one (.all 0))], [(0, .seq (.flt .f32) a0)], 1⟩ _ _
  refine HT.reg1 [0] [⟨none, .no⟩, ⟨none, .no⟩] ⟨[(0, .one (.all 0))], [(0, .seq (.flt .f32) a0)], 1⟩ hP hN (by kernel_rfl) allNil ?_
  obtain ⟨y1, hc2, hr⟩ := of_bind hr
  refine HT.reg1 [0, 4] [⟨none, .no⟩, ⟨none, .call [.imm (.sl (.flt .f32))] [⟨false, (.flt .f32), y1⟩] []⟩, ⟨none, .no⟩] ⟨[(0, .one (.all 0)), (4, .one (.dat (.flt .f32) y1))], [(0, .seq (.flt .f32) a0)], 1⟩ hP hN (by kernel_rfl) (allCons (f111_ok hc2) allNil) ?_
  refine HT.seq ?_
  refine HT.reg1 [0, 4, 10] [⟨none, .no⟩, ⟨none, .no⟩, ⟨none, .no⟩] ⟨[(0, .one (.all 0)), (4, .one (.dat (.flt .f32) y1)), (10, .one (.dat .bool (!(fgt .f32 y1 (0 : Nat)))))], [(0, .seq (.flt .f32) a0)], 1⟩ hP hN (by kernel_rfl) allNil ?_
  rcases of_bif hr with ⟨hb3, hr⟩ | ⟨hb3, hr⟩
  · refine HT.cond1 rfl hb3 ?_
    refine HT.reg1 [2, 3] [⟨none, .no⟩, ⟨none, .no⟩] ⟨[(2, .one (.nilS)), (3, .one (.dat .bool false))], [(0, .seq (.flt .f32) a0)], 1⟩ hP hN (by kernel_rfl) allNil ?_
    have hr := of_some hr
    subst hr
    exact HT.ret (qThenR ⟨[.one (.nilS), .one (.dat .bool false)], [], [], by kernel_rfl, by kernel_rfl, rfl, by kernel_rfl, by kernel_rfl, trivial⟩)
  · refine HT.cond0 rfl hb3 ?_
    refine HT.skip (qThen ?_)
    refine HT.seq ?_
    refine HT.reg1 [0, 4, 12, 13] [⟨none, .no⟩, ⟨none, .no⟩, ⟨none, .no⟩] ⟨[(0, .one (.all 0)), (4, .one (.dat (.flt .f32) y1)), (12, .one (.dat (.int .i64) (lenI a0))), (13, .one (.dat (.int .i64) (0 : Int)))], [(0, .seq (.flt .f32) a0)], 1⟩ hP hN (by kernel_rfl) allNil ?_
    refine HT.block ?_
    obtain ⟨r5, hL14, hr⟩ := of_bind hr
    refine (Le.cv (s := ⟨[(0, 0)], [], [], false⟩) (own := []) (ps := [y1 = y1, (lenI a0) = (lenI a0), (0 : Int) = (0 : Int), a0 = a0]) (st' := ⟨[(0, .one (.all 0)), (4, .one (.dat (.flt .f32) y1)), (12, .one (.dat (.int .i64) (lenI a0))), (13, .one (.dat (.int .i64) (0 : Int)))], [(0, .seq (.flt .f32) a0)], 1⟩) hO (fun h => by cases h) (by kernel_rfl) ⟨rfl, rfl, rfl, rfl, trivial⟩).ht ?_
    refine HT.loopE (s := ((0 : Int), a0)) (fun (s4 : Int × List Nat) => ⟨[(0, .one (.all 0)), (4, .one (.dat (.flt .f32) y1)), (12, .one (.dat (.int .i64) (lenI a0))), (13, .one (.dat (.int .i64) s4.1))], [(0, .seq (.flt .f32) s4.2)], 1⟩) (fun (r6 : List Nat) => (.exit 0, ⟨[(0, .one (.all 0))], [(0, .seq (.flt .f32) r6)], 1⟩)) hL14 ?_ (fun s4 x9 hx10 hk11 => ?_)
    · refine (qBlockX (qThen ?_))
      obtain ⟨y7, hc8, hr⟩ := of_bind hr
      refine HT.reg1 [2, 3] [⟨none, .no⟩, ⟨none, .call [.mv (.sl (.flt .f32))] [⟨true, (.sl (.flt .f32)), y7.1⟩, ⟨false, .bool, y7.2⟩] []⟩, ⟨none, .no⟩, ⟨none, .no⟩, ⟨none, .no⟩, ⟨none, .no⟩] ⟨[(2, .one (.all 1)), (3, .one (.dat .bool y7.2))], [(0, .gone), (1, .seq (.flt .f32) y7.1), (0, .seq (.flt .f32) r5)], 2⟩ hP hN (by kernel_rfl) (allCons (f48_mv0_ok hc8) allNil) ?_
      have hr := of_some hr
      subst hr
      exact HT.ret ⟨[.one (.all 1), .one (.dat .bool y7.2)], [1], [], by kernel_rfl, by kernel_rfl, rfl, by kernel_rfl, by kernel_rfl, trivial⟩
    · refine HT.reg1 [0, 4, 12, 13, 14] [⟨none, .no⟩] ⟨[(0, .one (.all 0)), (4, .one (.dat (.flt .f32) y1)), (12, .one (.dat (.int .i64) (lenI a0))), (13, .one (.dat (.int .i64) s4.1)), (14, .one (.dat .bool (decide (s4.1 < (lenI a0)))))], [(0, .seq (.flt .f32) s4.2)], 1⟩ hP hN (by kernel_rfl) allNil ?_
      refine HT.seq ?_
      rcases of_bif hx10 with ⟨hb12, hx10⟩ | ⟨hb12, hx10⟩
      · refine HT.cond1 rfl hb12 ?_
        refine HT.skip (qThen ?_)
        refine HT.seq ?_
        refine HT.block ?_
        refine HT.reg1 [0, 4, 5, 12, 13] [⟨none, .no⟩, ⟨none, .no⟩] ⟨[(0, .one (.all 0)), (4, .one (.dat (.flt .f32) y1)), (5, .one (.dat (.int .i64) s4.1)), (12, .one (.dat (.int .i64) (lenI a0))), (13, .one (.dat (.int .i64) s4.1))], [(0, .seq (.flt .f32) s4.2)], 1⟩ hP hN (by kernel_rfl) allNil ?_
        obtain ⟨hg13, hx10⟩ := of_guard hx10
        refine HT.reg (rs := [⟨none, .no⟩, ⟨none, .no⟩, ⟨none, .no⟩, ⟨none, .no⟩, ⟨none, .no⟩, ⟨none, .no⟩, ⟨none, .no⟩, ⟨none, .no⟩, ⟨none, .no⟩, ⟨none, .no⟩]) (st' := ⟨[(24, .one (.elp 0 (Int.toNat s4.1) 1 0)), (23, .one (.dat (.flt .f32) (fop .quo .f32 (List.getD s4.2 (Int.toNat s4.1) (0 : Nat)) y1))), (22, .one (.dat (.flt .f32) y1)), (21, .one (.dat (.flt .f32) (List.getD s4.2 (Int.toNat s4.1) (0 : Nat)))), (20, .one (.elp 0 (Int.toNat s4.1) 1 0)), (19, .one (.dat (.int .i64) s4.1)), (18, .one (.all 0)), (17, .one (.dat (.int .i64) s4.1)), (16, .one (.all 0)), (0, .one (.all 0)), (4, .one (.dat (.flt .f32) y1)), (5, .one (.dat (.int .i64) s4.1)), (12, .one (.dat (.int .i64) (lenI a0))), (13, .one (.dat (.int .i64) s4.1))], [(0, .seq (.flt .f32) (List.set s4.2 (Int.toNat s4.1) (fop .quo .f32 (List.getD s4.2 (Int.toNat s4.1) (0 : Nat)) y1))), (0, .seq (.flt .f32) s4.2)], 1⟩) hP hN (by kernel_rfl) (allCons hg13 (allCons (natLt hg13) (allCons hg13 (allCons (natLt hg13) allNil)))) (qBlock (qThen ?_))
        have hx10 := of_some hx10
        subst hx10
        refine HT.reg (rs := [⟨none, .no⟩, ⟨none, .no⟩]) (st' := ⟨[(13, .one (.dat (.int .i64) (wadd .i64 s4.1 (1 : Int)))), (25, .one (.dat (.int .i64) (wadd .i64 s4.1 (1 : Int)))), (24, .one (.elp 0 (Int.toNat s4.1) 1 0)), (23, .one (.dat (.flt .f32) (fop .quo .f32 (List.getD s4.2 (Int.toNat s4.1) (0 : Nat)) y1))), (22, .one (.dat (.flt .f32) y1)), (21, .one (.dat (.flt .f32) (List.getD s4.2 (Int.toNat s4.1) (0 : Nat)))), (20, .one (.elp 0 (Int.toNat s4.1) 1 0)), (19, .one (.dat (.int .i64) s4.1)), (18, .one (.all 0)), (17, .one (.dat (.int .i64) s4.1)), (16, .one (.all 0)), (0, .one (.all 0)), (4, .one (.dat (.flt .f32) y1)), (5, .one (.dat (.int .i64) s4.1)), (12, .one (.dat (.int .i64) (lenI a0))), (13, .one (.dat (.int .i64) s4.1))], [(0, .seq (.flt .f32) (List.set s4.2 (Int.toNat s4.1) (fop .quo .f32 (List.getD s4.2 (Int.toNat s4.1) (0 : Nat)) y1))), (0, .seq (.flt .f32) s4.2)], 1⟩) hP hN (by kernel_rfl) allNil (qLoopN ⟨((wadd .i64 s4.1 (1 : Int)), (List.set s4.2 (Int.toNat s4.1) (fop .quo .f32 (List.getD s4.2 (Int.toNat s4.1) (0 : Nat)) y1))), rfl, Le.cv (s := ⟨[(0, 0)], [], [], false⟩) (own := []) (ps := [y1 = y1, (lenI a0) = (lenI a0), (wadd .i64 s4.1 (1 : Int)) = (wadd .i64 s4.1 (1 : Int)), (List.set s4.2 (Int.toNat s4.1) (fop .quo .f32 (List.getD s4.2 (Int.toNat s4.1) (0 : Nat)) y1)) = (List.set s4.2 (Int.toNat s4.1) (fop .quo .f32 (List.getD s4.2 (Int.toNat s4.1) (0 : Nat)) y1))]) (st' := ⟨[(0, .one (.all 0)), (4, .one (.dat (.flt .f32) y1)), (12, .one (.dat (.int .i64) (lenI a0))), (13, .one (.dat (.int .i64) (wadd .i64 s4.1 (1 : Int))))], [(0, .seq (.flt .f32) (List.set s4.2 (Int.toNat s4.1) (fop .quo .f32 (List.getD s4.2 (Int.toNat s4.1) (0 : Nat)) y1)))], 1⟩) hO (fun h => by cases h) (by kernel_rfl) ⟨rfl, rfl, rfl, rfl, trivial⟩⟩)
      · refine HT.cond0 rfl hb12 ?_
        have hx10 := of_some hx10
        subst hx10
        refine (Le.cv (s := ⟨[(0, 0)], [], [], false⟩) (own := []) (ps := [s4.2 = s4.2]) (st' := ⟨[(0, .one (.all 0))], [(0, .seq (.flt .f32) s4.2)], 1⟩) hO (fun h => by cases h) (by kernel_rfl) ⟨rfl, trivial⟩).ht ?_
        exact HT.exit (qThenE (qLoopE (hk11 s4.2 rfl)))

noncomputable def impl_Model_pairAt_B1 (a0 : Int × Int × List Nat × List Nat × List Nat) (a1 : List Nat) (a2 : List Nat) (a3 : Int) (s1 : Int × List Nat) (s10 : Int × List Nat) : Option ((Int × List Nat) ⊕ (List Nat)) :=
  bif (decide (s10.1 < a0.1)) then
    guardP ((0 : Int) ≤ s1.1 ∧ s1.1 < lenI a1) (
      (impl_Model_show (a0.1, a0.2.1, a0.2.2.1, a0.2.2.2.1, a0.2.2.2.2) s1.1 a3).bind fun y18 =>
      (impl_Model_step (a0.1, a0.2.1, a0.2.2.1, a0.2.2.2.1, a0.2.2.2.2) s1.1 s10.1).bind fun y20 =>
      guardP ((0 : Int) ≤ s10.1 ∧ s10.1 < lenI a2) (
        guardP (List.length s10.2 + List.length ([(fop .mul .f32 (fop .mul .f32 (fop .mul .f32 (List.getD a1 (Int.toNat s1.1) (0 : Nat)) y18) y20) (List.getD a2 (Int.toNat s10.1) (0 : Nat)))] : List Nat) ≤ appMax) (
          some (.inl ((wadd .i64 s10.1 (1 : Int)), (s10.2 ++ ([(fop .mul .f32 (fop .mul .f32 (fop .mul .f32 (List.getD a1 (Int.toNat s1.1) (0 : Nat)) y18) y20) (List.getD a2 (Int.toNat s10.1) (0 : Nat)))] : List Nat)))))))
  else
    some (.inr s10.2)

noncomputable def impl_Model_pairAt_B2 (a0 : Int × Int × List Nat × List Nat × List Nat) (a1 : List Nat) (a2 : List Nat) (a3 : Int) (s1 : Int × List Nat) : Option ((Int × List Nat) ⊕ (List Nat)) :=
  bif (decide (s1.1 < a0.1)) then
    (rounds (impl_Model_pairAt_B1 a0 a1 a2 a3 s1) ((0 : Int), s1.2)).bind fun r12 =>
    some (.inl ((wadd .i64 s1.1 (1 : Int)), r12))
  else
    some (.inr s1.2)

noncomputable def impl_Model_pairAt (a0 : Int × Int × List Nat × List Nat × List Nat) (a1 : List Nat) (a2 : List Nat) (a3 : Int) : Option (List Nat × Bool) :=
  (rounds (impl_Model_pairAt_B2 a0 a1 a2 a3) ((0 : Int), ([] : List Nat))).bind fun r3 =>
  (impl_shares_mv0 r3).bind fun y4 =>
  some (y4.1, y4.2)

theorem f58_ok {a0 : Int × Int × List Nat × List Nat × List Nat} {a1 : List Nat} {a2 : List Nat} {a3 : Int} {r : List Nat × Bool} (hr : impl_Model_pairAt a0 a1 a2 a3 = some r) : CallOK Try.prog 58 [.imm (.st (.pair (.int .i64) (.pair (.int .i64) (.pair (.sl (.flt .f32)) (.pair (.sl (.flt .f32)) (.sl (.flt .f32))))))) a0, .imm (.sl (.flt .f32)) a1, .imm (.sl (.flt .f32)) a2, .imm (.int .i64) a3] [⟨true, (.sl (.flt .f32)), r.1⟩, ⟨false, .bool, r.2⟩] [] := by
  unfold impl_Model_pairAt at hr
  refine CallOK.of_body (ts := [(true, (.sl (.flt .f32))), (false, .bool)]) Try.func58 rfl (by kernel_rfl) (Nat.le_of_ble_eq_true (by kernel_rfl)) fun cx hP hN hO hF => ?_
  have hO : cx.own.map Prod.fst = [] := hO
  have hF := hF rfl
  show HT cx ⟨[(0, .agg [.dat (.int .i64) a0.1, .dat (.int .i64) a0.2.1, .dat (.sl (.flt .f32)) a0.2.2.1, .dat (.sl (.flt .f32)) a0.2.2.2.1, .dat (.sl (.flt .f32)) a0.2.2.2.2]), (1, .one (.dat (.sl (.flt .f32)) a1)), (2, .one (.dat (.sl (.flt .f32)) a2)), (3, .one (.dat (.int .i64) a3))], [], 0⟩ _ _
  refine HT.reg1 [1, 2, 3, 4] [⟨none, .no⟩, ⟨none, .no⟩, ⟨none, .no⟩] ⟨[(1, .one (.dat (.sl (.flt .f32)) a1)), (2, .one (.dat (.sl (.flt .f32)) a2)), (3, .one (.dat (.int .i64) a3)), (4, .one (.ptr 0 0))], [(0, .box [.dat (.int .i64) a0.1, .dat (.int .i64) a0.2.1, .dat (.sl (.flt .f32)) a0.2.2.1, .dat (.sl (.flt .f32)) a0.2.2.2.1, .dat (.sl (.flt .f32)) a0.2.2.2.2])], 1⟩ hP hN (by kernel_rfl) allNil ?_
  refine HT.reg1 [1, 2, 3, 4, 10] [⟨none, .no⟩, ⟨none, .no⟩] ⟨[(1, .one (.dat (.sl (.flt .f32)) a1)), (2, .one (.dat (.sl (.flt .f32)) a2)), (3, .one (.dat (.int .i64) a3)), (4, .one (.ptr 0 0)), (10, .one (.nilS))], [(0, .box [.dat (.int .i64) a0.1, .dat (.int .i64) a0.2.1, .dat (.sl (.flt .f32)) a0.2.2.1, .dat (.sl (.flt .f32)) a0.2.2.2.1, .dat (.sl (.flt .f32)) a0.2.2.2.2])], 1⟩ hP hN (by kernel_rfl) allNil ?_
  refine HT.seq ?_
  refine HT.reg1 [1, 2, 3, 4, 10, 16, 17] [⟨none, .no⟩, ⟨none, .no⟩, ⟨none, .no⟩] ⟨[(1, .one (.dat (.sl (.flt .f32)) a1)), (2, .one (.dat (.sl (.flt .f32)) a2)), (3, .one (.dat (.int .i64) a3)), (4, .one (.ptr 0 0)), (10, .one (.nilS)), (16, .one (.dat (.int .i64) a0.1)), (17, .one (.dat (.int .i64) (0 : Int)))], [(0, .box [.dat (.int .i64) a0.1, .dat (.int .i64) a0.2.1, .dat (.sl (.flt .f32)) a0.2.2.1, .dat (.sl (.flt .f32)) a0.2.2.2.1, .dat (.sl (.flt .f32)) a0.2.2.2.2])], 1⟩ hP hN (by kernel_rfl) allNil ?_
  refine HT.block ?_
  obtain ⟨r2, hL25, hr⟩ := of_bind hr
  refine (Le.cv (s := ⟨[(0, 0)], [1], [], false⟩) (own := []) (ps := [a1 = a1, a2 = a2, a3 = a3, a0.1 = a0.1, (0 : Int) = (0 : Int), a0.1 = a0.1, a0.2.1 = a0.2.1, a0.2.2.1 = a0.2.2.1, a0.2.2.2.1 = a0.2.2.2.1, a0.2.2.2.2 = a0.2.2.2.2, ([] : List Nat) = []]) (st' := ⟨[(1, .one (.dat (.sl (.flt .f32)) a1)), (2, .one (.dat (.sl (.flt .f32)) a2)), (3, .one (.dat (.int .i64) a3)), (4, .one (.ptr 0 0)), (10, .one (.all 1)), (16, .one (.dat (.int .i64) a0.1)), (17, .one (.dat (.int .i64) (0 : Int)))], [(0, .box [.dat (.int .i64) a0.1, .dat (.int .i64) a0.2.1, .dat (.sl (.flt .f32)) a0.2.2.1, .dat (.sl (.flt .f32)) a0.2.2.2.1, .dat (.sl (.flt .f32)) a0.2.2.2.2]), (1, .seq (.flt .f32) ([] : List Nat))], 2⟩) hO (fun h => by cases h) (by kernel_rfl) ⟨rfl, rfl, rfl, rfl, rfl, rfl, rfl, rfl, rfl, rfl, rfl, trivial⟩).ht ?_
  refine HT.loopE (s := ((0 : Int), ([] : List Nat))) (fun (s1 : Int × List Nat) => ⟨[(1, .one (.dat (.sl (.flt .f32)) a1)), (2, .one (.dat (.sl (.flt .f32)) a2)), (3, .one (.dat (.int .i64) a3)), (4, .one (.ptr 0 0)), (10, .one (.all 1)), (16, .one (.dat (.int .i64) a0.1)), (17, .one (.dat (.int .i64) s1.1))], [(0, .box [.dat (.int .i64) a0.1, .dat (.int .i64) a0.2.1, .dat (.sl (.flt .f32)) a0.2.2.1, .dat (.sl (.flt .f32)) a0.2.2.2.1, .dat (.sl (.flt .f32)) a0.2.2.2.2]), (1, .seq (.flt .f32) s1.2)], 2⟩) (fun (r3 : List Nat) => (.exit 0, ⟨[(10, .one (.all 0))], [(0, .seq (.flt .f32) r3)], 1⟩)) hL25 ?_ (fun s1 x6 hx7 hk8 => ?_)
  · refine (qBlockX (qThen ?_))
    obtain ⟨y4, hc5, hr⟩ := of_bind hr
    refine HT.reg1 [8, 9] [⟨none, .no⟩, ⟨none, .call [.mv (.sl (.flt .f32))] [⟨true, (.sl (.flt .f32)), y4.1⟩, ⟨false, .bool, y4.2⟩] []⟩, ⟨none, .no⟩, ⟨none, .no⟩, ⟨none, .no⟩, ⟨none, .no⟩] ⟨[(8, .one (.all 1)), (9, .one (.dat .bool y4.2))], [(0, .gone), (1, .seq (.flt .f32) y4.1), (0, .seq (.flt .f32) r2)], 2⟩ hP hN (by kernel_rfl) (allCons (f87_mv0_ok hc5) allNil) ?_
    have hr := of_some hr
    subst hr
    exact HT.ret ⟨[.one (.all 1), .one (.dat .bool y4.2)], [1], [], by kernel_rfl, by kernel_rfl, rfl, by kernel_rfl, by kernel_rfl, trivial⟩
  · refine HT.reg1 [1, 2, 3, 4, 10, 16, 17, 18] [⟨none, .no⟩] ⟨[(1, .one (.dat (.sl (.flt .f32)) a1)), (2, .one (.dat (.sl (.flt .f32)) a2)), (3, .one (.dat (.int .i64) a3)), (4, .one (.ptr 0 0)), (10, .one (.all 1)), (16, .one (.dat (.int .i64) a0.1)), (17, .one (.dat (.int .i64) s1.1)), (18, .one (.dat .bool (decide (s1.1 < a0.1))))], [(0, .box [.dat (.int .i64) a0.1, .dat (.int .i64) a0.2.1, .dat (.sl (.flt .f32)) a0.2.2.1, .dat (.sl (.flt .f32)) a0.2.2.2.1, .dat (.sl (.flt .f32)) a0.2.2.2.2]), (1, .seq (.flt .f32) s1.2)], 2⟩ hP hN (by kernel_rfl) allNil ?_
    refine HT.seq ?_
    rcases of_bif hx7 with ⟨hb9, hx7⟩ | ⟨hb9, hx7⟩
    · refine HT.cond1 rfl hb9 ?_
      refine HT.skip (qThen ?_)
      refine HT.seq ?_
      refine HT.block ?_
      refine HT.reg1 [1, 2, 3, 4, 10, 11, 16, 17] [⟨none, .no⟩, ⟨none, .no⟩] ⟨[(1, .one (.dat (.sl (.flt .f32)) a1)), (2, .one (.dat (.sl (.flt .f32)) a2)), (3, .one (.dat (.int .i64) a3)), (4, .one (.ptr 0 0)), (10, .one (.all 1)), (11, .one (.dat (.int .i64) s1.1)), (16, .one (.dat (.int .i64) a0.1)), (17, .one (.dat (.int .i64) s1.1))], [(0, .box [.dat (.int .i64) a0.1, .dat (.int .i64) a0.2.1, .dat (.sl (.flt .f32)) a0.2.2.1, .dat (.sl (.flt .f32)) a0.2.2.2.1, .dat (.sl (.flt .f32)) a0.2.2.2.2]), (1, .seq (.flt .f32) s1.2)], 2⟩ hP hN (by kernel_rfl) allNil ?_
      refine HT.reg1 [1, 2, 3, 4, 10, 11, 16, 17, 21, 22] [⟨none, .no⟩, ⟨none, .no⟩, ⟨none, .no⟩] ⟨[(1, .one (.dat (.sl (.flt .f32)) a1)), (2, .one (.dat (.sl (.flt .f32)) a2)), (3, .one (.dat (.int .i64) a3)), (4, .one (.ptr 0 0)), (10, .one (.all 1)), (11, .one (.dat (.int .i64) s1.1)), (16, .one (.dat (.int .i64) a0.1)), (17, .one (.dat (.int .i64) s1.1)), (21, .one (.dat (.int .i64) a0.1)), (22, .one (.dat (.int .i64) (0 : Int)))], [(0, .box [.dat (.int .i64) a0.1, .dat (.int .i64) a0.2.1, .dat (.sl (.flt .f32)) a0.2.2.1, .dat (.sl (.flt .f32)) a0.2.2.2.1, .dat (.sl (.flt .f32)) a0.2.2.2.2]), (1, .seq (.flt .f32) s1.2)], 2⟩ hP hN (by kernel_rfl) allNil ?_
      refine HT.block ?_
      obtain ⟨r11, hL24, hx7⟩ := of_bind hx7
      refine (Le.cv (s := ⟨[(0, 0), (1, 1)], [], [], false⟩) (own := []) (ps := [a1 = a1, a2 = a2, a3 = a3, s1.1 = s1.1, a0.1 = a0.1, s1.1 = s1.1, a0.1 = a0.1, (0 : Int) = (0 : Int), a0.1 = a0.1, a0.2.1 = a0.2.1, a0.2.2.1 = a0.2.2.1, a0.2.2.2.1 = a0.2.2.2.1, a0.2.2.2.2 = a0.2.2.2.2, s1.2 = s1.2]) (st' := ⟨[(1, .one (.dat (.sl (.flt .f32)) a1)), (2, .one (.dat (.sl (.flt .f32)) a2)), (3, .one (.dat (.int .i64) a3)), (4, .one (.ptr 0 0)), (10, .one (.all 1)), (11, .one (.dat (.int .i64) s1.1)), (16, .one (.dat (.int .i64) a0.1)), (17, .one (.dat (.int .i64) s1.1)), (21, .one (.dat (.int .i64) a0.1)), (22, .one (.dat (.int .i64) (0 : Int)))], [(0, .box [.dat (.int .i64) a0.1, .dat (.int .i64) a0.2.1, .dat (.sl (.flt .f32)) a0.2.2.1, .dat (.sl (.flt .f32)) a0.2.2.2.1, .dat (.sl (.flt .f32)) a0.2.2.2.2]), (1, .seq (.flt .f32) s1.2)], 2⟩) hO (fun h => by cases h) (by kernel_rfl) ⟨rfl, rfl, rfl, rfl, rfl, rfl, rfl, rfl, rfl, rfl, rfl, rfl, rfl, rfl, trivial⟩).ht ?_
      refine HT.loopE (s := ((0 : Int), s1.2)) (fun (s10 : Int × List Nat) => ⟨[(1, .one (.dat (.sl (.flt .f32)) a1)), (2, .one (.dat (.sl (.flt .f32)) a2)), (3, .one (.dat (.int .i64) a3)), (4, .one (.ptr 0 0)), (10, .one (.all 1)), (11, .one (.dat (.int .i64) s1.1)), (16, .one (.dat (.int .i64) a0.1)), (17, .one (.dat (.int .i64) s1.1)), (21, .one (.dat (.int .i64) a0.1)), (22, .one (.dat (.int .i64) s10.1))], [(0, .box [.dat (.int .i64) a0.1, .dat (.int .i64) a0.2.1, .dat (.sl (.flt .f32)) a0.2.2.1, .dat (.sl (.flt .f32)) a0.2.2.2.1, .dat (.sl (.flt .f32)) a0.2.2.2.2]), (1, .seq (.flt .f32) s10.2)], 2⟩) (fun (r12 : List Nat) => (.exit 2, ⟨[(1, .one (.dat (.sl (.flt .f32)) a1)), (2, .one (.dat (.sl (.flt .f32)) a2)), (3, .one (.dat (.int .i64) a3)), (4, .one (.ptr 0 0)), (10, .one (.all 1)), (16, .one (.dat (.int .i64) a0.1)), (17, .one (.dat (.int .i64) s1.1))], [(0, .box [.dat (.int .i64) a0.1, .dat (.int .i64) a0.2.1, .dat (.sl (.flt .f32)) a0.2.2.1, .dat (.sl (.flt .f32)) a0.2.2.2.1, .dat (.sl (.flt .f32)) a0.2.2.2.2]), (1, .seq (.flt .f32) r12)], 2⟩)) hL24 ?_ (fun s10 x13 hx14 hk15 => ?_)
      · refine (qBlockX (qBlock (qThen ?_)))
        have hx7 := of_some hx7
        subst hx7
        refine HT.reg (rs := [⟨none, .no⟩, ⟨none, .no⟩]) (st' := ⟨[(17, .one (.dat (.int .i64) (wadd .i64 s1.1 (1 : Int)))), (49, .one (.dat (.int .i64) (wadd .i64 s1.1 (1 : Int)))), (1, .one (.dat (.sl (.flt .f32)) a1)), (2, .one (.dat (.sl (.flt .f32)) a2)), (3, .one (.dat (.int .i64) a3)), (4, .one (.ptr 0 0)), (10, .one (.all 1)), (16, .one (.dat (.int .i64) a0.1)), (17, .one (.dat (.int .i64) s1.1))], [(0, .box [.dat (.int .i64) a0.1, .dat (.int .i64) a0.2.1, .dat (.sl (.flt .f32)) a0.2.2.1, .dat (.sl (.flt .f32)) a0.2.2.2.1, .dat (.sl (.flt .f32)) a0.2.2.2.2]), (1, .seq (.flt .f32) r11)], 2⟩) hP hN (by kernel_rfl) allNil (qLoopN ⟨((wadd .i64 s1.1 (1 : Int)), r11), rfl, Le.cv (s := ⟨[(0, 0), (1, 1)], [], [], false⟩) (own := []) (ps := [a1 = a1, a2 = a2, a3 = a3, a0.1 = a0.1, (wadd .i64 s1.1 (1 : Int)) = (wadd .i64 s1.1 (1 : Int)), a0.1 = a0.1, a0.2.1 = a0.2.1, a0.2.2.1 = a0.2.2.1, a0.2.2.2.1 = a0.2.2.2.1, a0.2.2.2.2 = a0.2.2.2.2, r11 = r11]) (st' := ⟨[(1, .one (.dat (.sl (.flt .f32)) a1)), (2, .one (.dat (.sl (.flt .f32)) a2)), (3, .one (.dat (.int .i64) a3)), (4, .one (.ptr 0 0)), (10, .one (.all 1)), (16, .one (.dat (.int .i64) a0.1)), (17, .one (.dat (.int .i64) (wadd .i64 s1.1 (1 : Int))))], [(0, .box [.dat (.int .i64) a0.1, .dat (.int .i64) a0.2.1, .dat (.sl (.flt .f32)) a0.2.2.1, .dat (.sl (.flt .f32)) a0.2.2.2.1, .dat (.sl (.flt .f32)) a0.2.2.2.2]), (1, .seq (.flt .f32) r11)], 2⟩) hO (fun h => by cases h) (by kernel_rfl) ⟨rfl, rfl, rfl, rfl, rfl, rfl, rfl, rfl, rfl, rfl, rfl, trivial⟩⟩)
      · refine HT.reg1 [1, 2, 3, 4, 10, 11, 16, 17, 21, 22, 23] [⟨none, .no⟩] ⟨[(1, .one (.dat (.sl (.flt .f32)) a1)), (2, .one (.dat (.sl (.flt .f32)) a2)), (3, .one (.dat (.int .i64) a3)), (4, .one (.ptr 0 0)), (10, .one (.all 1)), (11, .one (.dat (.int .i64) s1.1)), (16, .one (.dat (.int .i64) a0.1)), (17, .one (.dat (.int .i64) s1.1)), (21, .one (.dat (.int .i64) a0.1)), (22, .one (.dat (.int .i64) s10.1)), (23, .one (.dat .bool (decide (s10.1 < a0.1))))], [(0, .box [.dat (.int .i64) a0.1, .dat (.int .i64) a0.2.1, .dat (.sl (.flt .f32)) a0.2.2.1, .dat (.sl (.flt .f32)) a0.2.2.2.1, .dat (.sl (.flt .f32)) a0.2.2.2.2]), (1, .seq (.flt .f32) s10.2)], 2⟩ hP hN (by kernel_rfl) allNil ?_
        refine HT.seq ?_
        rcases of_bif hx14 with ⟨hb16, hx14⟩ | ⟨hb16, hx14⟩
        · refine HT.cond1 rfl hb16 ?_
          refine HT.skip (qThen ?_)
          refine HT.seq ?_
          refine HT.block ?_
          refine HT.reg1 [1, 2, 3, 4, 10, 11, 12, 16, 17, 21, 22] [⟨none, .no⟩, ⟨none, .no⟩] ⟨[(1, .one (.dat (.sl (.flt .f32)) a1)), (2, .one (.dat (.sl (.flt .f32)) a2)), (3, .one (.dat (.int .i64) a3)), (4, .one (.ptr 0 0)), (10, .one (.all 1)), (11, .one (.dat (.int .i64) s1.1)), (12, .one (.dat (.int .i64) s10.1)), (16, .one (.dat (.int .i64) a0.1)), (17, .one (.dat (.int .i64) s1.1)), (21, .one (.dat (.int .i64) a0.1)), (22, .one (.dat (.int .i64) s10.1))], [(0, .box [.dat (.int .i64) a0.1, .dat (.int .i64) a0.2.1, .dat (.sl (.flt .f32)) a0.2.2.1, .dat (.sl (.flt .f32)) a0.2.2.2.1, .dat (.sl (.flt .f32)) a0.2.2.2.2]), (1, .seq (.flt .f32) s10.2)], 2⟩ hP hN (by kernel_rfl) allNil ?_
          obtain ⟨hg17, hx14⟩ := of_guard hx14
          obtain ⟨y18, hc19, hx14⟩ := of_bind hx14
          obtain ⟨y20, hc21, hx14⟩ := of_bind hx14
          refine HT.drw1 [1, 2, 3, 4, 10, 11, 12, 13, 16, 17, 21, 22] 13 [⟨⟨none, .no⟩, []⟩, ⟨⟨none, .no⟩, []⟩, ⟨⟨none, .no⟩, [0, 1]⟩, ⟨⟨none, .no⟩, [0, 1, 2]⟩, ⟨⟨none, .no⟩, []⟩, ⟨⟨none, .no⟩, []⟩, ⟨⟨none, .no⟩, []⟩, ⟨⟨none, .call [.imm (.st (.pair (.int .i64) (.pair (.int .i64) (.pair (.sl (.flt .f32)) (.pair (.sl (.flt .f32)) (.sl (.flt .f32))))))), .imm (.int .i64), .imm (.int .i64)] [⟨false, (.flt .f32), y18⟩] []⟩, [4, 5, 6]⟩, ⟨⟨none, .no⟩, [0, 1, 2, 3, 4, 5, 6, 7]⟩, ⟨⟨none, .no⟩, []⟩, ⟨⟨none, .no⟩, []⟩, ⟨⟨none, .no⟩, []⟩, ⟨⟨none, .call [.imm (.st (.pair (.int .i64) (.pair (.int .i64) (.pair (.sl (.flt .f32)) (.pair (.sl (.flt .f32)) (.sl (.flt .f32))))))), .imm (.int .i64), .imm (.int .i64)] [⟨false, (.flt .f32), y20⟩] []⟩, [4, 5, 6, 7, 9, 10, 11]⟩] [[0, 1, 2, 3, 4, 5, 6, 7, 8, 9, 10, 11, 12], [0, 1, 2, 3, 4, 5, 6, 7, 8, 9, 10, 11, 12, 13]] [⟨none, .no⟩, ⟨none, .no⟩] ⟨[(1, .one (.dat (.sl (.flt .f32)) a1)), (2, .one (.dat (.sl (.flt .f32)) a2)), (3, .one (.dat (.int .i64) a3)), (4, .one (.ptr 0 0)), (10, .one (.all 1)), (11, .one (.dat (.int .i64) s1.1)), (12, .one (.dat (.int .i64) s10.1)), (13, .one (.dat (.flt .f32) (fop .mul .f32 (fop .mul .f32 (List.getD a1 (Int.toNat s1.1) (0 : Nat)) y18) y20))), (16, .one (.dat (.int .i64) a0.1)), (17, .one (.dat (.int .i64) s1.1)), (21, .one (.dat (.int .i64) a0.1)), (22, .one (.dat (.int .i64) s10.1))], [(0, .box [.dat (.int .i64) a0.1, .dat (.int .i64) a0.2.1, .dat (.sl (.flt .f32)) a0.2.2.1, .dat (.sl (.flt .f32)) a0.2.2.2.1, .dat (.sl (.flt .f32)) a0.2.2.2.2]), (1, .seq (.flt .f32) s10.2)], 2⟩ hP hN (by kernel_rfl) (by kernel_rfl) (allCons hg17 (allCons (f83_ok hc19) (allCons (f84_ok hc21) allNil))) ?_
          obtain ⟨hg22, hx14⟩ := of_guard hx14
          obtain ⟨hg23, hx14⟩ := of_guard hx14
          refine HT.reg (rs := [⟨none, .no⟩, ⟨none, .no⟩, ⟨none, .no⟩, ⟨none, .no⟩, ⟨none, .no⟩, ⟨none, .no⟩, ⟨none, .no⟩, ⟨none, .ty (.flt .f32)⟩, ⟨none, .ty (.flt .f32)⟩, ⟨none, .no⟩]) (st' := ⟨[(10, .one (.all 3)), (47, .one (.all 3)), (46, .one (.all 2)), (45, .one (.dat (.flt .f32) (fop .mul .f32 (fop .mul .f32 (fop .mul .f32 (List.getD a1 (Int.toNat s1.1) (0 : Nat)) y18) y20) (List.getD a2 (Int.toNat s10.1) (0 : Nat))))), (44, .one (.dat (.flt .f32) (List.getD a2 (Int.toNat s10.1) (0 : Nat)))), (43, .one (.ip (.flt .f32) (List.getD a2 (Int.toNat s10.1) (0 : Nat)) 0)), (42, .one (.dat (.int .i64) s10.1)), (41, .one (.dat (.sl (.flt .f32)) a2)), (40, .one (.dat (.flt .f32) (fop .mul .f32 (fop .mul .f32 (List.getD a1 (Int.toNat s1.1) (0 : Nat)) y18) y20))), (39, .one (.all 1)), (1, .one (.dat (.sl (.flt .f32)) a1)), (2, .one (.dat (.sl (.flt .f32)) a2)), (3, .one (.dat (.int .i64) a3)), (4, .one (.ptr 0 0)), (10, .one (.all 1)), (11, .one (.dat (.int .i64) s1.1)), (12, .one (.dat (.int .i64) s10.1)), (13, .one (.dat (.flt .f32) (fop .mul .f32 (fop .mul .f32 (List.getD a1 (Int.toNat s1.1) (0 : Nat)) y18) y20))), (16, .one (.dat (.int .i64) a0.1)), (17, .one (.dat (.int .i64) s1.1)), (21, .one (.dat (.int .i64) a0.1)), (22, .one (.dat (.int .i64) s10.1))], [(1, .gone), (3, .seq (.flt .f32) (s10.2 ++ ([(fop .mul .f32 (fop .mul .f32 (fop .mul .f32 (List.getD a1 (Int.toNat s1.1) (0 : Nat)) y18) y20) (List.getD a2 (Int.toNat s10.1) (0 : Nat)))] : List Nat))), (2, .seq (.flt .f32) ([(fop .mul .f32 (fop .mul .f32 (fop .mul .f32 (List.getD a1 (Int.toNat s1.1) (0 : Nat)) y18) y20) (List.getD a2 (Int.toNat s10.1) (0 : Nat)))] : List Nat)), (0, .box [.dat (.int .i64) a0.1, .dat (.int .i64) a0.2.1, .dat (.sl (.flt .f32)) a0.2.2.1, .dat (.sl (.flt .f32)) a0.2.2.2.1, .dat (.sl (.flt .f32)) a0.2.2.2.2]), (1, .seq (.flt .f32) s10.2)], 4⟩) hP hN (by kernel_rfl) (allCons hg22 (allCons hg23 allNil)) (qBlock (qThen ?_))
          have hx14 := of_some hx14
          subst hx14
          refine HT.reg (rs := [⟨none, .no⟩, ⟨none, .no⟩]) (st' := ⟨[(22, .one (.dat (.int .i64) (wadd .i64 s10.1 (1 : Int)))), (48, .one (.dat (.int .i64) (wadd .i64 s10.1 (1 : Int)))), (10, .one (.all 3)), (47, .one (.all 3)), (46, .one (.all 2)), (45, .one (.dat (.flt .f32) (fop .mul .f32 (fop .mul .f32 (fop .mul .f32 (List.getD a1 (Int.toNat s1.1) (0 : Nat)) y18) y20) (List.getD a2 (Int.toNat s10.1) (0 : Nat))))), (44, .one (.dat (.flt .f32) (List.getD a2 (Int.toNat s10.1) (0 : Nat)))), (43, .one (.ip (.flt .f32) (List.getD a2 (Int.toNat s10.1) (0 : Nat)) 0)), (42, .one (.dat (.int .i64) s10.1)), (41, .one (.dat (.sl (.flt .f32)) a2)), (40, .one (.dat (.flt .f32) (fop .mul .f32 (fop .mul .f32 (List.getD a1 (Int.toNat s1.1) (0 : Nat)) y18) y20))), (39, .one (.all 1)), (1, .one (.dat (.sl (.flt .f32)) a1)), (2, .one (.dat (.sl (.flt .f32)) a2)), (3, .one (.dat (.int .i64) a3)), (4, .one (.ptr 0 0)), (10, .one (.all 1)), (11, .one (.dat (.int .i64) s1.1)), (12, .one (.dat (.int .i64) s10.1)), (13, .one (.dat (.flt .f32) (fop .mul .f32 (fop .mul .f32 (List.getD a1 (Int.toNat s1.1) (0 : Nat)) y18) y20))), (16, .one (.dat (.int .i64) a0.1)), (17, .one (.dat (.int .i64) s1.1)), (21, .one (.dat (.int .i64) a0.1)), (22, .one (.dat (.int .i64) s10.1))], [(1, .gone), (3, .seq (.flt .f32) (s10.2 ++ ([(fop .mul .f32 (fop .mul .f32 (fop .mul .f32 (List.getD a1 (Int.toNat s1.1) (0 : Nat)) y18) y20) (List.getD a2 (Int.toNat s10.1) (0 : Nat)))] : List Nat))), (2, .seq (.flt .f32) ([(fop .mul .f32 (fop .mul .f32 (fop .mul .f32 (List.getD a1 (Int.toNat s1.1) (0 : Nat)) y18) y20) (List.getD a2 (Int.toNat s10.1) (0 : Nat)))] : List Nat)), (0, .box [.dat (.int .i64) a0.1, .dat (.int .i64) a0.2.1, .dat (.sl (.flt .f32)) a0.2.2.1, .dat (.sl (.flt .f32)) a0.2.2.2.1, .dat (.sl (.flt .f32)) a0.2.2.2.2]), (1, .seq (.flt .f32) s10.2)], 4⟩) hP hN (by kernel_rfl) allNil (qLoopN ⟨((wadd .i64 s10.1 (1 : Int)), (s10.2 ++ ([(fop .mul .f32 (fop .mul .f32 (fop .mul .f32 (List.getD a1 (Int.toNat s1.1) (0 : Nat)) y18) y20) (List.getD a2 (Int.toNat s10.1) (0 : Nat)))] : List Nat))), rfl, Le.cv (s := ⟨[(0, 0), (3, 1)], [], [], false⟩) (own := []) (ps := [a1 = a1, a2 = a2, a3 = a3, s1.1 = s1.1, a0.1 = a0.1, s1.1 = s1.1, a0.1 = a0.1, (wadd .i64 s10.1 (1 : Int)) = (wadd .i64 s10.1 (1 : Int)), a0.1 = a0.1, a0.2.1 = a0.2.1, a0.2.2.1 = a0.2.2.1, a0.2.2.2.1 = a0.2.2.2.1, a0.2.2.2.2 = a0.2.2.2.2, (s10.2 ++ ([(fop .mul .f32 (fop .mul .f32 (fop .mul .f32 (List.getD a1 (Int.toNat s1.1) (0 : Nat)) y18) y20) (List.getD a2 (Int.toNat s10.1) (0 : Nat)))] : List Nat)) = (s10.2 ++ ([(fop .mul .f32 (fop .mul .f32 (fop .mul .f32 (List.getD a1 (Int.toNat s1.1) (0 : Nat)) y18) y20) (List.getD a2 (Int.toNat s10.1) (0 : Nat)))] : List Nat))]) (st' := ⟨[(1, .one (.dat (.sl (.flt .f32)) a1)), (2, .one (.dat (.sl (.flt .f32)) a2)), (3, .one (.dat (.int .i64) a3)), (4, .one (.ptr 0 0)), (10, .one (.all 1)), (11, .one (.dat (.int .i64) s1.1)), (16, .one (.dat (.int .i64) a0.1)), (17, .one (.dat (.int .i64) s1.1)), (21, .one (.dat (.int .i64) a0.1)), (22, .one (.dat (.int .i64) (wadd .i64 s10.1 (1 : Int))))], [(0, .box [.dat (.int .i64) a0.1, .dat (.int .i64) a0.2.1, .dat (.sl (.flt .f32)) a0.2.2.1, .dat (.sl (.flt .f32)) a0.2.2.2.1, .dat (.sl (.flt .f32)) a0.2.2.2.2]), (1, .seq (.flt .f32) (s10.2 ++ ([(fop .mul .f32 (fop .mul .f32 (fop .mul .f32 (List.getD a1 (Int.toNat s1.1) (0 : Nat)) y18) y20) (List.getD a2 (Int.toNat s10.1) (0 : Nat)))] : List Nat)))], 2⟩) hO (fun h => by cases h) (by kernel_rfl) ⟨rfl, rfl, rfl, rfl, rfl, rfl, rfl, rfl, rfl, rfl, rfl, rfl, rfl, rfl, trivial⟩⟩)
        · refine HT.cond0 rfl hb16 ?_
          have hx14 := of_some hx14
          subst hx14
          refine (Le.cv (s := ⟨[(0, 0), (1, 1)], [], [], false⟩) (own := []) (ps := [a1 = a1, a2 = a2, a3 = a3, a0.1 = a0.1, s1.1 = s1.1, a0.1 = a0.1, a0.2.1 = a0.2.1, a0.2.2.1 = a0.2.2.1, a0.2.2.2.1 = a0.2.2.2.1, a0.2.2.2.2 = a0.2.2.2.2, s10.2 = s10.2]) (st' := ⟨[(1, .one (.dat (.sl (.flt .f32)) a1)), (2, .one (.dat (.sl (.flt .f32)) a2)), (3, .one (.dat (.int .i64) a3)), (4, .one (.ptr 0 0)), (10, .one (.all 1)), (16, .one (.dat (.int .i64) a0.1)), (17, .one (.dat (.int .i64) s1.1))], [(0, .box [.dat (.int .i64) a0.1, .dat (.int .i64) a0.2.1, .dat (.sl (.flt .f32)) a0.2.2.1, .dat (.sl (.flt .f32)) a0.2.2.2.1, .dat (.sl (.flt .f32)) a0.2.2.2.2]), (1, .seq (.flt .f32) s10.2)], 2⟩) hO (fun h => by cases h) (by kernel_rfl) ⟨rfl, rfl, rfl, rfl, rfl, rfl, rfl, rfl, rfl, rfl, rfl, trivial⟩).ht ?_
          exact HT.exit (qThenE (qLoopE (hk15 s10.2 rfl)))
    · refine HT.cond0 rfl hb9 ?_
      have hx7 := of_some hx7
      subst hx7
      refine (Le.cv (s := ⟨[(1, 0)], [], [], false⟩) (own := []) (ps := [s1.2 = s1.2]) (st' := ⟨[(10, .one (.all 0))], [(0, .seq (.flt .f32) s1.2)], 1⟩) hO (fun h => by cases h) (by kernel_rfl) ⟨rfl, trivial⟩).ht ?_
      exact HT.exit (qThenE (qLoopE (hk8 s1.2 rfl)))

noncomputable def impl_within (a0 : Int) (a1 : Int) (a2 : Int) : Option (Bool) :=
  (show Option (Bool) from
    bif (decide (a0 ≥ a1)) then
      some (decide (a0 ≤ a2))
    else
      some false).bind fun v1 =>
  some v1

theorem f54_ok {a0 : Int} {a1 : Int} {a2 : Int} {r : Bool} (hr : impl_within a0 a1 a2 = some r) : CallOK Try.prog 54 [.imm (.int .i64) a0, .imm (.int .i64) a1, .imm (.int .i64) a2] [⟨false, .bool, r⟩] [] := by
  unfold impl_within at hr
  refine CallOK.of_body (ts := [(false, .bool)]) Try.func54 rfl (by kernel_rfl) (Nat.le_of_ble_eq_true (by kernel_rfl)) fun cx hP hN hO hF => ?_
  have hO : cx.own.map Prod.fst = [] := hO
  have hF := hF rfl
  show HT cx ⟨[(0, .one (.dat (.int .i64) a0)), (1, .one (.dat (.int .i64) a1)), (2, .one (.dat (.int .i64) a2))], [], 0⟩ _ _
  refine HT.reg1 [0, 1, 2] [⟨none, .no⟩] ⟨[(0, .one (.dat (.int .i64) a0)), (1, .one (.dat (.int .i64) a1)), (2, .one (.dat (.int .i64) a2))], [], 0⟩ hP hN (by kernel_rfl) allNil ?_
  obtain ⟨v1', hT3, hr⟩ := of_bind hr
  refine HT.join (fun (v1 : Bool) => ⟨[(6, .one (.dat .bool v1))], [], 0⟩) (fun v => v = v1') (fun v1 hv2 => ?_) (fun cont => ?_)
  · subst hv2
    have hr := of_some hr
    subst hr
    exact HT.ret ⟨[.one (.dat .bool v1)], [], [], by kernel_rfl, by kernel_rfl, rfl, by kernel_rfl, by kernel_rfl, trivial⟩
  · rcases of_bif hT3 with ⟨hb4, hT3⟩ | ⟨hb4, hT3⟩
    · refine HT.reg (rs := [⟨none, .no⟩, ⟨none, .no⟩, ⟨none, .no⟩, ⟨none, .no⟩, ⟨some true, .no⟩, ⟨some true, .no⟩, ⟨some true, .no⟩, ⟨none, .tv true⟩, ⟨none, .no⟩]) (st' := ⟨[(6, .one (.dat .bool (decide (a0 ≤ a2)))), (14, .one (.dat .bool (decide (a0 ≤ a2)))), (13, .one (.dat .bool (decide (a0 ≤ a2)))), (12, .one (.dat (.int .i64) a2)), (11, .one (.dat (.int .i64) a0)), (10, .one (.dat .bool (decide (a0 ≥ a1)))), (9, .one (.dat .bool (decide (a0 ≥ a1)))), (8, .one (.dat (.int .i64) a1)), (7, .one (.dat (.int .i64) a0)), (0, .one (.dat (.int .i64) a0)), (1, .one (.dat (.int .i64) a1)), (2, .one (.dat (.int .i64) a2))], [], 0⟩) hP hN (by kernel_rfl) (allCons hb4 (allCons hb4 (allCons hb4 (allCons hb4 allNil)))) (qThen ?_)
      exact (Le.cv (s := ⟨[], [], [], false⟩) (own := []) (ps := [(decide (a0 ≤ a2)) = (decide (a0 ≤ a2))]) (st' := ⟨[(6, .one (.dat .bool (decide (a0 ≤ a2))))], [], 0⟩) hO (fun h => by cases h) (by kernel_rfl) ⟨rfl, trivial⟩).ht (cont (decide (a0 ≤ a2)) (of_some hT3))
    · refine HT.reg (rs := [⟨none, .no⟩, ⟨none, .no⟩, ⟨none, .no⟩, ⟨none, .no⟩, ⟨some false, .no⟩, ⟨some false, .no⟩, ⟨some false, .no⟩, ⟨none, .tv false⟩, ⟨none, .no⟩]) (st' := ⟨[(6, .one (.dat .bool false)), (14, .one (.dat .bool false)), (13, .und), (12, .und), (11, .und), (10, .one (.dat .bool (decide (a0 ≥ a1)))), (9, .one (.dat .bool (decide (a0 ≥ a1)))), (8, .one (.dat (.int .i64) a1)), (7, .one (.dat (.int .i64) a0)), (0, .one (.dat (.int .i64) a0)), (1, .one (.dat (.int .i64) a1)), (2, .one (.dat (.int .i64) a2))], [], 0⟩) hP hN (by kernel_rfl) (allCons hb4 (allCons hb4 (allCons hb4 (allCons hb4 allNil)))) (qThen ?_)
      exact (Le.cv (s := ⟨[], [], [], false⟩) (own := []) (ps := [false = false]) (st' := ⟨[(6, .one (.dat .bool false))], [], 0⟩) hO (fun h => by cases h) (by kernel_rfl) ⟨rfl, trivial⟩).ht (cont false (of_some hT3))

noncomputable def impl_rowOf_float32 (a0 : List Nat) (a1 : Int) (a2 : Int) : Option (List Nat) :=
  guardP ((0 : Int) ≤ (wmul .i64 a2 a1) ∧ (wmul .i64 a2 a1) ≤ (wmul .i64 (wadd .i64 a2 (1 : Int)) a1) ∧ (wmul .i64 (wadd .i64 a2 (1 : Int)) a1) ≤ (wmul .i64 (wadd .i64 a2 (1 : Int)) a1) ∧ (wmul .i64 (wadd .i64 a2 (1 : Int)) a1) ≤ lenI a0) (
    some (cut a0 (wmul .i64 a2 a1) (wmul .i64 (wadd .i64 a2 (1 : Int)) a1)))

theorem f114_ok {a0 : List Nat} {a1 : Int} {a2 : Int} {r : List Nat} (hr : impl_rowOf_float32 a0 a1 a2 = some r) : CallOK Try.prog 114 [.imm (.sl (.flt .f32)) a0, .imm (.int .i64) a1, .imm (.int .i64) a2] [⟨false, (.sl (.flt .f32)), r⟩] [] := by
  unfold impl_rowOf_float32 at hr
  refine CallOK.of_body (ts := [(false, (.sl (.flt .f32)))]) Try.func114 rfl (by kernel_rfl) (Nat.le_of_ble_eq_true (by kernel_rfl)) fun cx hP hN hO hF => ?_
  have hO : cx.own.map Prod.fst = [] := hO
  have hF := hF rfl
  show HT cx ⟨[(0, .one (.dat (.sl (.flt .f32)) a0)), (1, .one (.dat (.int .i64) a1)), (2, .one (.dat (.int .i64) a2))], [], 0⟩ _ _
  refine HT.reg1 [0, 1, 2] [⟨none, .no⟩] ⟨[(0, .one (.dat (.sl (.flt .f32)) a0)), (1, .one (.dat (.int .i64) a1)), (2, .one (.dat (.int .i64) a2))], [], 0⟩ hP hN (by kernel_rfl) allNil ?_
  obtain ⟨hg1, hr⟩ := of_guard hr
  refine HT.reg1 [6] [⟨none, .no⟩, ⟨none, .no⟩, ⟨none, .no⟩, ⟨none, .no⟩, ⟨none, .no⟩, ⟨none, .no⟩, ⟨none, .no⟩, ⟨none, .no⟩, ⟨none, .no⟩, ⟨none, .no⟩, ⟨none, .no⟩, ⟨none, .no⟩, ⟨none, .no⟩, ⟨none, .no⟩] ⟨[(6, .one (.dat (.sl (.flt .f32)) (cut a0 (wmul .i64 a2 a1) (wmul .i64 (wadd .i64 a2 (1 : Int)) a1))))], [], 0⟩ hP hN (by kernel_rfl) (allCons hg1 allNil) ?_
  have hr := of_some hr
  subst hr
  exact HT.ret ⟨[.one (.dat (.sl (.flt .f32)) (cut a0 (wmul .i64 a2 a1) (wmul .i64 (wadd .i64 a2 (1 : Int)) a1)))], [], [], by kernel_rfl, by kernel_rfl, rfl, by kernel_rfl, by kernel_rfl, trivial⟩

noncomputable def impl_absolute (a0 : Nat) : Option (Nat) :=
  bif (flt .f32 a0 (0 : Nat)) then
    some (fneg .f32 a0)
  else
    some a0

theorem f139_ok {a0 : Nat} {r : Nat} (hr : impl_absolute a0 = some r) : CallOK Try.prog 139 [.imm (.flt .f32) a0] [⟨false, (.flt .f32), r⟩] [] := by
  unfold impl_absolute at hr
  refine CallOK.of_body (ts := [(false, (.flt .f32))]) Try.func139 rfl (by kernel_rfl) (Nat.le_of_ble_eq_true (by kernel_rfl)) fun cx hP hN hO hF => ?_
  have hO : cx.own.map Prod.fst = [] := hO
  have hF := hF rfl
  show HT cx ⟨[(0, .one (.dat (.flt .f32) a0))], [], 0⟩ _ _
  refine HT.reg1 [0] [⟨none, .no⟩] ⟨[(0, .one (.dat (.flt .f32) a0))], [], 0⟩ hP hN (by kernel_rfl) allNil ?_
  refine HT.seq ?_
  refine HT.reg1 [0, 4] [⟨none, .no⟩, ⟨none, .no⟩] ⟨[(0, .one (.dat (.flt .f32) a0)), (4, .one (.dat .bool (flt .f32 a0 (0 : Nat))))], [], 0⟩ hP hN (by kernel_rfl) allNil ?_
  rcases of_bif hr with ⟨hb1, hr⟩ | ⟨hb1, hr⟩
  · refine HT.cond1 rfl hb1 ?_
    refine HT.reg1 [2] [⟨none, .no⟩, ⟨none, .no⟩, ⟨none, .no⟩] ⟨[(2, .one (.dat (.flt .f32) (fneg .f32 a0)))], [], 0⟩ hP hN (by kernel_rfl) allNil ?_
    have hr := of_some hr
    subst hr
    exact HT.ret (qThenR ⟨[.one (.dat (.flt .f32) (fneg .f32 a0))], [], [], by kernel_rfl, by kernel_rfl, rfl, by kernel_rfl, by kernel_rfl, trivial⟩)
  · refine HT.cond0 rfl hb1 ?_
    refine HT.skip (qThen ?_)
    refine HT.reg1 [2] [⟨none, .no⟩, ⟨none, .no⟩] ⟨[(2, .one (.dat (.flt .f32) a0))], [], 0⟩ hP hN (by kernel_rfl) allNil ?_
    have hr := of_some hr
    subst hr
    exact HT.ret ⟨[.one (.dat (.flt .f32) a0)], [], [], by kernel_rfl, by kernel_rfl, rfl, by kernel_rfl, by kernel_rfl, trivial⟩

noncomputable def impl_areChances_B1 (a0 : List Nat) (s1 : Int) : Option ((Int) ⊕ (Unit ⊕ Unit)) :=
  bif (decide (s1 < (lenI a0))) then
    guardP ((0 : Int) ≤ s1 ∧ s1 < lenI a0) (
      (show Option (Bool) from
        bif (fge .f32 (List.getD a0 (Int.toNat s1) (0 : Nat)) (0 : Nat)) then
          some (!(fle .f32 (List.getD a0 (Int.toNat s1) (0 : Nat)) (1065353216 : Nat)))
        else
          some true).bind fun v14 =>
      bif v14 then
        some (.inr (.inr ()))
      else
        some (.inl (wadd .i64 s1 (1 : Int))))
  else
    some (.inr (.inl ()))

noncomputable def impl_areChances (a0 : List Nat) : Option (Bool) :=
  (rounds (impl_areChances_B1 a0) (0 : Int)).bind fun r2 => match r2 with
    | .inl r3 =>
      (impl_addUp a0).bind fun y4 =>
      (impl_absolute (fop .sub .f32 y4 (1065353216 : Nat))).bind fun y6 =>
      some (fle .f32 y6 (981668463 : Nat))
    | .inr r8 =>
      some false

theorem f127_ok {a0 : List Nat} {r : Bool} (hr : impl_areChances a0 = some r) : CallOK Try.prog 127 [.imm (.sl (.flt .f32)) a0] [⟨false, .bool, r⟩] [] := by
  unfold impl_areChances at hr
  refine CallOK.of_body (ts := [(false, .bool)]) Try.func127 rfl (by kernel_rfl) (Nat.le_of_ble_eq_true (by kernel_rfl)) fun cx hP hN hO hF => ?_
  have hO : cx.own.map Prod.fst = [] := hO
  have hF := hF rfl
  show HT cx ⟨[(0, .one (.dat (.sl (.flt .f32)) a0))], [], 0⟩ _ _
  refine HT.reg1 [0] [⟨none, .no⟩] ⟨[(0, .one (.dat (.sl (.flt .f32)) a0))], [], 0⟩ hP hN (by kernel_rfl) allNil ?_
  refine HT.seq ?_
  refine HT.reg1 [0, 5, 6, 7] [⟨none, .no⟩, ⟨none, .no⟩, ⟨none, .no⟩] ⟨[(0, .one (.dat (.sl (.flt .f32)) a0)), (5, .one (.dat (.sl (.flt .f32)) a0)), (6, .one (.dat (.int .i64) (lenI a0))), (7, .one (.dat (.int .i64) (0 : Int)))], [], 0⟩ hP hN (by kernel_rfl) allNil ?_
  refine HT.block ?_
  obtain ⟨r2, hL19, hr⟩ := of_bind hr
  refine (Le.cv (s := ⟨[], [], [], false⟩) (own := []) (ps := [a0 = a0, a0 = a0, (lenI a0) = (lenI a0), (0 : Int) = (0 : Int)]) (st' := ⟨[(0, .one (.dat (.sl (.flt .f32)) a0)), (5, .one (.dat (.sl (.flt .f32)) a0)), (6, .one (.dat (.int .i64) (lenI a0))), (7, .one (.dat (.int .i64) (0 : Int)))], [], 0⟩) hO (fun h => by cases h) (by kernel_rfl) ⟨rfl, rfl, rfl, rfl, trivial⟩).ht ?_
  refine HT.loopE (s := (0 : Int)) (fun (s1 : Int) => ⟨[(0, .one (.dat (.sl (.flt .f32)) a0)), (5, .one (.dat (.sl (.flt .f32)) a0)), (6, .one (.dat (.int .i64) (lenI a0))), (7, .one (.dat (.int .i64) s1))], [], 0⟩) (fun (r2 : Unit ⊕ Unit) => match r2 with | .inl r3 => (.exit 0, ⟨[(0, .one (.dat (.sl (.flt .f32)) a0))], [], 0⟩) | .inr r8 => (.ret, ⟨[(2, .one (.dat .bool false))], [], 0⟩)) hL19 ?_ (fun s1 x9 hx10 hk11 => ?_)
  · rcases r2 with r3 | r8
    · refine (qBlockX (qThen ?_))
      obtain ⟨y4, hc5, hr⟩ := of_bind hr
      obtain ⟨y6, hc7, hr⟩ := of_bind hr
      refine HT.reg1 [2] [⟨none, .no⟩, ⟨none, .call [.imm (.sl (.flt .f32))] [⟨false, (.flt .f32), y4⟩] []⟩, ⟨none, .no⟩, ⟨none, .call [.imm (.flt .f32)] [⟨false, (.flt .f32), y6⟩] []⟩, ⟨none, .no⟩, ⟨none, .no⟩] ⟨[(2, .one (.dat .bool (fle .f32 y6 (981668463 : Nat))))], [], 0⟩ hP hN (by kernel_rfl) (allCons (f111_ok hc5) (allCons (f139_ok hc7) allNil)) ?_
      have hr := of_some hr
      subst hr
      exact HT.ret ⟨[.one (.dat .bool (fle .f32 y6 (981668463 : Nat)))], [], [], by kernel_rfl, by kernel_rfl, rfl, by kernel_rfl, by kernel_rfl, trivial⟩
    · have hr := of_some hr
      subst hr
      exact (qBlockR (qThenR ⟨[.one (.dat .bool false)], [], [], by kernel_rfl, by kernel_rfl, rfl, by kernel_rfl, by kernel_rfl, trivial⟩))
  · refine HT.reg1 [0, 5, 6, 7, 8] [⟨none, .no⟩] ⟨[(0, .one (.dat (.sl (.flt .f32)) a0)), (5, .one (.dat (.sl (.flt .f32)) a0)), (6, .one (.dat (.int .i64) (lenI a0))), (7, .one (.dat (.int .i64) s1)), (8, .one (.dat .bool (decide (s1 < (lenI a0)))))], [], 0⟩ hP hN (by kernel_rfl) allNil ?_
    refine HT.seq ?_
    rcases of_bif hx10 with ⟨hb12, hx10⟩ | ⟨hb12, hx10⟩
    · refine HT.cond1 rfl hb12 ?_
      refine HT.skip (qThen ?_)
      refine HT.seq ?_
      refine HT.block ?_
      obtain ⟨hg13, hx10⟩ := of_guard hx10
      refine HT.reg1 [0, 4, 5, 6, 7] [⟨none, .no⟩, ⟨none, .no⟩, ⟨none, .no⟩] ⟨[(0, .one (.dat (.sl (.flt .f32)) a0)), (4, .one (.dat (.flt .f32) (List.getD a0 (Int.toNat s1) (0 : Nat)))), (5, .one (.dat (.sl (.flt .f32)) a0)), (6, .one (.dat (.int .i64) (lenI a0))), (7, .one (.dat (.int .i64) s1))], [], 0⟩ hP hN (by kernel_rfl) (allCons hg13 allNil) ?_
      obtain ⟨v14', hT16, hx10⟩ := of_bind hx10
      refine HT.join (fun (v14 : Bool) => ⟨[(0, .one (.dat (.sl (.flt .f32)) a0)), (5, .one (.dat (.sl (.flt .f32)) a0)), (6, .one (.dat (.int .i64) (lenI a0))), (7, .one (.dat (.int .i64) s1)), (17, .one (.dat .bool v14))], [], 0⟩) (fun v => v = v14') (fun v14 hv15 => ?_) (fun cont => ?_)
      · subst hv15
        rcases of_bif hx10 with ⟨hb17, hx10⟩ | ⟨hb17, hx10⟩
        · refine HT.cond1 rfl hb17 ?_
          refine HT.reg1 [2] [⟨none, .no⟩] ⟨[(2, .one (.dat .bool false))], [], 0⟩ hP hN (by kernel_rfl) allNil ?_
          have hx10 := of_some hx10
          subst hx10
          refine (Le.cv (s := ⟨[], [], [], false⟩) (own := []) (ps := [false = false]) (st' := ⟨[(2, .one (.dat .bool false))], [], 0⟩) hO (fun h => by cases h) (by kernel_rfl) ⟨rfl, trivial⟩).ht ?_
          exact HT.ret (qBlockR (qThenR (qLoopR (hk11 (.inr ()) rfl))))
        · refine HT.cond0 rfl hb17 ?_
          refine HT.skip (qBlock (qThen ?_))
          have hx10 := of_some hx10
          subst hx10
          refine HT.reg (rs := [⟨none, .no⟩, ⟨none, .no⟩]) (st' := ⟨[(7, .one (.dat (.int .i64) (wadd .i64 s1 (1 : Int)))), (18, .one (.dat (.int .i64) (wadd .i64 s1 (1 : Int)))), (0, .one (.dat (.sl (.flt .f32)) a0)), (5, .one (.dat (.sl (.flt .f32)) a0)), (6, .one (.dat (.int .i64) (lenI a0))), (7, .one (.dat (.int .i64) s1)), (17, .one (.dat .bool v14))], [], 0⟩) hP hN (by kernel_rfl) allNil (qLoopN ⟨(wadd .i64 s1 (1 : Int)), rfl, Le.cv (s := ⟨[], [], [], false⟩) (own := []) (ps := [a0 = a0, a0 = a0, (lenI a0) = (lenI a0), (wadd .i64 s1 (1 : Int)) = (wadd .i64 s1 (1 : Int))]) (st' := ⟨[(0, .one (.dat (.sl (.flt .f32)) a0)), (5, .one (.dat (.sl (.flt .f32)) a0)), (6, .one (.dat (.int .i64) (lenI a0))), (7, .one (.dat (.int .i64) (wadd .i64 s1 (1 : Int))))], [], 0⟩) hO (fun h => by cases h) (by kernel_rfl) ⟨rfl, rfl, rfl, rfl, trivial⟩⟩)
      · rcases of_bif hT16 with ⟨hb18, hT16⟩ | ⟨hb18, hT16⟩
        · refine HT.reg (rs := [⟨none, .no⟩, ⟨none, .no⟩, ⟨none, .no⟩, ⟨some true, .no⟩, ⟨some true, .no⟩, ⟨none, .tv true⟩, ⟨none, .no⟩]) (st' := ⟨[(17, .one (.dat .bool (!(fle .f32 (List.getD a0 (Int.toNat s1) (0 : Nat)) (1065353216 : Nat))))), (16, .one (.dat .bool (fle .f32 (List.getD a0 (Int.toNat s1) (0 : Nat)) (1065353216 : Nat)))), (15, .one (.dat .bool (fle .f32 (List.getD a0 (Int.toNat s1) (0 : Nat)) (1065353216 : Nat)))), (14, .one (.dat (.flt .f32) (List.getD a0 (Int.toNat s1) (0 : Nat)))), (13, .one (.dat .bool (fge .f32 (List.getD a0 (Int.toNat s1) (0 : Nat)) (0 : Nat)))), (12, .one (.dat .bool (fge .f32 (List.getD a0 (Int.toNat s1) (0 : Nat)) (0 : Nat)))), (11, .one (.dat (.flt .f32) (List.getD a0 (Int.toNat s1) (0 : Nat)))), (0, .one (.dat (.sl (.flt .f32)) a0)), (4, .one (.dat (.flt .f32) (List.getD a0 (Int.toNat s1) (0 : Nat)))), (5, .one (.dat (.sl (.flt .f32)) a0)), (6, .one (.dat (.int .i64) (lenI a0))), (7, .one (.dat (.int .i64) s1))], [], 0⟩) hP hN (by kernel_rfl) (allCons hb18 (allCons hb18 (allCons hb18 allNil))) (qThen ?_)
          exact (Le.cv (s := ⟨[], [], [], false⟩) (own := []) (ps := [a0 = a0, a0 = a0, (lenI a0) = (lenI a0), s1 = s1, (!(fle .f32 (List.getD a0 (Int.toNat s1) (0 : Nat)) (1065353216 : Nat))) = (!(fle .f32 (List.getD a0 (Int.toNat s1) (0 : Nat)) (1065353216 : Nat)))]) (st' := ⟨[(0, .one (.dat (.sl (.flt .f32)) a0)), (5, .one (.dat (.sl (.flt .f32)) a0)), (6, .one (.dat (.int .i64) (lenI a0))), (7, .one (.dat (.int .i64) s1)), (17, .one (.dat .bool (!(fle .f32 (List.getD a0 (Int.toNat s1) (0 : Nat)) (1065353216 : Nat)))))], [], 0⟩) hO (fun h => by cases h) (by kernel_rfl) ⟨rfl, rfl, rfl, rfl, rfl, trivial⟩).ht (cont (!(fle .f32 (List.getD a0 (Int.toNat s1) (0 : Nat)) (1065353216 : Nat))) (of_some hT16))
        · refine HT.reg (rs := [⟨none, .no⟩, ⟨none, .no⟩, ⟨none, .no⟩, ⟨some false, .no⟩, ⟨some false, .no⟩, ⟨none, .tv false⟩, ⟨none, .no⟩]) (st' := ⟨[(17, .one (.dat .bool true)), (16, .one (.dat .bool false)), (15, .und), (14, .und), (13, .one (.dat .bool (fge .f32 (List.getD a0 (Int.toNat s1) (0 : Nat)) (0 : Nat)))), (12, .one (.dat .bool (fge .f32 (List.getD a0 (Int.toNat s1) (0 : Nat)) (0 : Nat)))), (11, .one (.dat (.flt .f32) (List.getD a0 (Int.toNat s1) (0 : Nat)))), (0, .one (.dat (.sl (.flt .f32)) a0)), (4, .one (.dat (.flt .f32) (List.getD a0 (Int.toNat s1) (0 : Nat)))), (5, .one (.dat (.sl (.flt .f32)) a0)), (6, .one (.dat (.int .i64) (lenI a0))), (7, .one (.dat (.int .i64) s1))], [], 0⟩) hP hN (by kernel_rfl) (allCons hb18 (allCons hb18 (allCons hb18 allNil))) (qThen ?_)
          exact (Le.cv (s := ⟨[], [], [], false⟩) (own := []) (ps := [a0 = a0, a0 = a0, (lenI a0) = (lenI a0), s1 = s1, true = true]) (st' := ⟨[(0, .one (.dat (.sl (.flt .f32)) a0)), (5, .one (.dat (.sl (.flt .f32)) a0)), (6, .one (.dat (.int .i64) (lenI a0))), (7, .one (.dat (.int .i64) s1)), (17, .one (.dat .bool true))], [], 0⟩) hO (fun h => by cases h) (by kernel_rfl) ⟨rfl, rfl, rfl, rfl, rfl, trivial⟩).ht (cont true (of_some hT16))
    · refine HT.cond0 rfl hb12 ?_
      have hx10 := of_some hx10
      subst hx10
      refine (Le.cv (s := ⟨[], [], [], false⟩) (own := []) (ps := [a0 = a0]) (st' := ⟨[(0, .one (.dat (.sl (.flt .f32)) a0))], [], 0⟩) hO (fun h => by cases h) (by kernel_rfl) ⟨rfl, trivial⟩).ht ?_
      exact HT.exit (qThenE (qLoopE (hk11 (.inl ()) rfl)))

noncomputable def impl_areRows_B1 (a0 : List Nat) (a1 : Int) (a2 : Int) (s2 : Int) : Option ((Int) ⊕ (Unit ⊕ Unit)) :=
  bif (decide (s2 < a1)) then
    (impl_rowOf_float32 a0 a2 s2).bind fun y10 =>
    (impl_areChances y10).bind fun y12 =>
    bif (!y12) then
      some (.inr (.inr ()))
    else
      some (.inl (wadd .i64 s2 (1 : Int)))
  else
    some (.inr (.inl ()))

noncomputable def impl_areRows (a0 : List Nat) (a1 : Int) (a2 : Int) : Option (Bool) :=
  bif ((lenI a0) != (wmul .i64 a1 a2)) then
    some false
  else
    (rounds (impl_areRows_B1 a0 a1 a2) (0 : Int)).bind fun r3 => match r3 with
      | .inl r4 =>
        some true
      | .inr r5 =>
        some false

theorem f102_ok {a0 : List Nat} {a1 : Int} {a2 : Int} {r : Bool} (hr : impl_areRows a0 a1 a2 = some r) : CallOK Try.prog 102 [.imm (.sl (.flt .f32)) a0, .imm (.int .i64) a1, .imm (.int .i64) a2] [⟨false, .bool, r⟩] [] := by
  unfold impl_areRows at hr
  refine CallOK.of_body (ts := [(false, .bool)]) Try.func102 rfl (by kernel_rfl) (Nat.le_of_ble_eq_true (by kernel_rfl)) fun cx hP hN hO hF => ?_
  have hO : cx.own.map Prod.fst = [] := hO
  have hF := hF rfl
  show HT cx ⟨[(0, .one (.dat (.sl (.flt .f32)) a0)), (1, .one (.dat (.int .i64) a1)), (2, .one (.dat (.int .i64) a2))], [], 0⟩ _ _
  refine HT.reg1 [0, 1, 2] [⟨none, .no⟩] ⟨[(0, .one (.dat (.sl (.flt .f32)) a0)), (1, .one (.dat (.int .i64) a1)), (2, .one (.dat (.int .i64) a2))], [], 0⟩ hP hN (by kernel_rfl) allNil ?_
  refine HT.seq ?_
  refine HT.reg1 [0, 1, 2, 13] [⟨none, .no⟩, ⟨none, .no⟩, ⟨none, .no⟩, ⟨none, .no⟩, ⟨none, .no⟩, ⟨none, .no⟩] ⟨[(0, .one (.dat (.sl (.flt .f32)) a0)), (1, .one (.dat (.int .i64) a1)), (2, .one (.dat (.int .i64) a2)), (13, .one (.dat .bool ((lenI a0) != (wmul .i64 a1 a2))))], [], 0⟩ hP hN (by kernel_rfl) allNil ?_
  rcases of_bif hr with ⟨hb1, hr⟩ | ⟨hb1, hr⟩
  · refine HT.cond1 rfl hb1 ?_
    refine HT.reg1 [6] [⟨none, .no⟩] ⟨[(6, .one (.dat .bool false))], [], 0⟩ hP hN (by kernel_rfl) allNil ?_
    have hr := of_some hr
    subst hr
    exact HT.ret (qThenR ⟨[.one (.dat .bool false)], [], [], by kernel_rfl, by kernel_rfl, rfl, by kernel_rfl, by kernel_rfl, trivial⟩)
  · refine HT.cond0 rfl hb1 ?_
    refine HT.skip (qThen ?_)
    refine HT.seq ?_
    refine HT.reg1 [0, 2, 14, 15] [⟨none, .no⟩, ⟨none, .no⟩] ⟨[(0, .one (.dat (.sl (.flt .f32)) a0)), (2, .one (.dat (.int .i64) a2)), (14, .one (.dat (.int .i64) a1)), (15, .one (.dat (.int .i64) (0 : Int)))], [], 0⟩ hP hN (by kernel_rfl) allNil ?_
    refine HT.block ?_
    obtain ⟨r3, hL15, hr⟩ := of_bind hr
    refine (Le.cv (s := ⟨[], [], [], false⟩) (own := []) (ps := [a0 = a0, a2 = a2, a1 = a1, (0 : Int) = (0 : Int)]) (st' := ⟨[(0, .one (.dat (.sl (.flt .f32)) a0)), (2, .one (.dat (.int .i64) a2)), (14, .one (.dat (.int .i64) a1)), (15, .one (.dat (.int .i64) (0 : Int)))], [], 0⟩) hO (fun h => by cases h) (by kernel_rfl) ⟨rfl, rfl, rfl, rfl, trivial⟩).ht ?_
    refine HT.loopE (s := (0 : Int)) (fun (s2 : Int) => ⟨[(0, .one (.dat (.sl (.flt .f32)) a0)), (2, .one (.dat (.int .i64) a2)), (14, .one (.dat (.int .i64) a1)), (15, .one (.dat (.int .i64) s2))], [], 0⟩) (fun (r3 : Unit ⊕ Unit) => match r3 with | .inl r4 => (.exit 0, ⟨[], [], 0⟩) | .inr r5 => (.ret, ⟨[(6, .one (.dat .bool false))], [], 0⟩)) hL15 ?_ (fun s2 x6 hx7 hk8 => ?_)
    · rcases r3 with r4 | r5
      · refine (qBlockX (qThen ?_))
        refine HT.reg1 [6] [⟨none, .no⟩] ⟨[(6, .one (.dat .bool true))], [], 0⟩ hP hN (by kernel_rfl) allNil ?_
        have hr := of_some hr
        subst hr
        exact HT.ret ⟨[.one (.dat .bool true)], [], [], by kernel_rfl, by kernel_rfl, rfl, by kernel_rfl, by kernel_rfl, trivial⟩
      · have hr := of_some hr
        subst hr
        exact (qBlockR (qThenR ⟨[.one (.dat .bool false)], [], [], by kernel_rfl, by kernel_rfl, rfl, by kernel_rfl, by kernel_rfl, trivial⟩))
    · refine HT.reg1 [0, 2, 14, 15, 16] [⟨none, .no⟩] ⟨[(0, .one (.dat (.sl (.flt .f32)) a0)), (2, .one (.dat (.int .i64) a2)), (14, .one (.dat (.int .i64) a1)), (15, .one (.dat (.int .i64) s2)), (16, .one (.dat .bool (decide (s2 < a1))))], [], 0⟩ hP hN (by kernel_rfl) allNil ?_
      refine HT.seq ?_
      rcases of_bif hx7 with ⟨hb9, hx7⟩ | ⟨hb9, hx7⟩
      · refine HT.cond1 rfl hb9 ?_
        refine HT.skip (qThen ?_)
        refine HT.seq ?_
        refine HT.block ?_
        refine HT.reg1 [0, 2, 7, 14, 15] [⟨none, .no⟩, ⟨none, .no⟩] ⟨[(0, .one (.dat (.sl (.flt .f32)) a0)), (2, .one (.dat (.int .i64) a2)), (7, .one (.dat (.int .i64) s2)), (14, .one (.dat (.int .i64) a1)), (15, .one (.dat (.int .i64) s2))], [], 0⟩ hP hN (by kernel_rfl) allNil ?_
        obtain ⟨y10, hc11, hx7⟩ := of_bind hx7
        obtain ⟨y12, hc13, hx7⟩ := of_bind hx7
        refine HT.reg1 [0, 2, 14, 15, 23] [⟨none, .no⟩, ⟨none, .no⟩, ⟨none, .no⟩, ⟨none, .call [.imm (.sl (.flt .f32)), .imm (.int .i64), .imm (.int .i64)] [⟨false, (.sl (.flt .f32)), y10⟩] []⟩, ⟨none, .call [.imm (.sl (.flt .f32))] [⟨false, .bool, y12⟩] []⟩, ⟨none, .no⟩] ⟨[(0, .one (.dat (.sl (.flt .f32)) a0)), (2, .one (.dat (.int .i64) a2)), (14, .one (.dat (.int .i64) a1)), (15, .one (.dat (.int .i64) s2)), (23, .one (.dat .bool (!y12)))], [], 0⟩ hP hN (by kernel_rfl) (allCons (f114_ok hc11) (allCons (f127_ok hc13) allNil)) ?_
        rcases of_bif hx7 with ⟨hb14, hx7⟩ | ⟨hb14, hx7⟩
        · refine HT.cond1 rfl hb14 ?_
          refine HT.reg1 [6] [⟨none, .no⟩] ⟨[(6, .one (.dat .bool false))], [], 0⟩ hP hN (by kernel_rfl) allNil ?_
          have hx7 := of_some hx7
          subst hx7
          refine (Le.cv (s := ⟨[], [], [], false⟩) (own := []) (ps := [false = false]) (st' := ⟨[(6, .one (.dat .bool false))], [], 0⟩) hO (fun h => by cases h) (by kernel_rfl) ⟨rfl, trivial⟩).ht ?_
          exact HT.ret (qBlockR (qThenR (qLoopR (hk8 (.inr ()) rfl))))
        · refine HT.cond0 rfl hb14 ?_
          refine HT.skip (qBlock (qThen ?_))
          have hx7 := of_some hx7
          subst hx7
          refine HT.reg (rs := [⟨none, .no⟩, ⟨none, .no⟩]) (st' := ⟨[(15, .one (.dat (.int .i64) (wadd .i64 s2 (1 : Int)))), (24, .one (.dat (.int .i64) (wadd .i64 s2 (1 : Int)))), (0, .one (.dat (.sl (.flt .f32)) a0)), (2, .one (.dat (.int .i64) a2)), (14, .one (.dat (.int .i64) a1)), (15, .one (.dat (.int .i64) s2)), (23, .one (.dat .bool (!y12)))], [], 0⟩) hP hN (by kernel_rfl) allNil (qLoopN ⟨(wadd .i64 s2 (1 : Int)), rfl, Le.cv (s := ⟨[], [], [], false⟩) (own := []) (ps := [a0 = a0, a2 = a2, a1 = a1, (wadd .i64 s2 (1 : Int)) = (wadd .i64 s2 (1 : Int))]) (st' := ⟨[(0, .one (.dat (.sl (.flt .f32)) a0)), (2, .one (.dat (.int .i64) a2)), (14, .one (.dat (.int .i64) a1)), (15, .one (.dat (.int .i64) (wadd .i64 s2 (1 : Int))))], [], 0⟩) hO (fun h => by cases h) (by kernel_rfl) ⟨rfl, rfl, rfl, rfl, trivial⟩⟩)
      · refine HT.cond0 rfl hb9 ?_
        have hx7 := of_some hx7
        subst hx7
        refine (Le.cv (s := ⟨[], [], [], false⟩) (own := []) (ps := []) (st' := ⟨[], [], 0⟩) hO (fun h => by cases h) (by kernel_rfl) trivial).ht ?_
        exact HT.exit (qThenE (qLoopE (hk8 (.inl ()) rfl)))

noncomputable def impl_ValidModel (a0 : Int × Int × List Nat × List Nat × List Nat) : Option (Bool) :=
  (show Option (Bool) from
    (impl_within a0.1 (1 : Int) (5 : Int)).bind fun y4 =>
    bif y4 then
      (impl_within a0.2.1 (1 : Int) (4 : Int)).bind fun y7 =>
      bif y7 then
        (impl_areRows a0.2.2.1 (1 : Int) a0.1).bind fun y10 =>
        bif y10 then
          (impl_areRows a0.2.2.2.1 a0.1 a0.1).bind fun y13 =>
          bif y13 then
            (impl_areRows a0.2.2.2.2 a0.1 a0.2.1).bind fun y16 =>
            some y16
          else
            some false
        else
          some false
      else
        some false
    else
      some false).bind fun v1 =>
  some v1

theorem f78_ok {a0 : Int × Int × List Nat × List Nat × List Nat} {r : Bool} (hr : impl_ValidModel a0 = some r) : CallOK Try.prog 78 [.imm (.st (.pair (.int .i64) (.pair (.int .i64) (.pair (.sl (.flt .f32)) (.pair (.sl (.flt .f32)) (.sl (.flt .f32))))))) a0] [⟨false, .bool, r⟩] [] := by
  unfold impl_ValidModel at hr
  refine CallOK.of_body (ts := [(false, .bool)]) Try.func78 rfl (by kernel_rfl) (Nat.le_of_ble_eq_true (by kernel_rfl)) fun cx hP hN hO hF => ?_
  have hO : cx.own.map Prod.fst = [] := hO
  have hF := hF rfl
  show HT cx ⟨[(0, .agg [.dat (.int .i64) a0.1, .dat (.int .i64) a0.2.1, .dat (.sl (.flt .f32)) a0.2.2.1, .dat (.sl (.flt .f32)) a0.2.2.2.1, .dat (.sl (.flt .f32)) a0.2.2.2.2])], [], 0⟩ _ _
  refine HT.reg1 [1] [⟨none, .no⟩, ⟨none, .no⟩] ⟨[(1, .one (.ptr 0 0))], [(0, .box [.dat (.int .i64) a0.1, .dat (.int .i64) a0.2.1, .dat (.sl (.flt .f32)) a0.2.2.1, .dat (.sl (.flt .f32)) a0.2.2.2.1, .dat (.sl (.flt .f32)) a0.2.2.2.2])], 1⟩ hP hN (by kernel_rfl) allNil ?_
  obtain ⟨v1', hT3, hr⟩ := of_bind hr
  refine HT.join (fun (v1 : Bool) => ⟨[(2, .one (.dat .bool v1))], [], 0⟩) (fun v => v = v1') (fun v1 hv2 => ?_) (fun cont => ?_)
  · subst hv2
    have hr := of_some hr
    subst hr
    exact HT.ret ⟨[.one (.dat .bool v1)], [], [], by kernel_rfl, by kernel_rfl, rfl, by kernel_rfl, by kernel_rfl, trivial⟩
  · obtain ⟨y4, hc5, hT3⟩ := of_bind hT3
    rcases of_bif hT3 with ⟨hb6, hT3⟩ | ⟨hb6, hT3⟩
    · obtain ⟨y7, hc8, hT3⟩ := of_bind hT3
      rcases of_bif hT3 with ⟨hb9, hT3⟩ | ⟨hb9, hT3⟩
      · obtain ⟨y10, hc11, hT3⟩ := of_bind hT3
        rcases of_bif hT3 with ⟨hb12, hT3⟩ | ⟨hb12, hT3⟩
        · obtain ⟨y13, hc14, hT3⟩ := of_bind hT3
          rcases of_bif hT3 with ⟨hb15, hT3⟩ | ⟨hb15, hT3⟩
          · obtain ⟨y16, hc17, hT3⟩ := of_bind hT3
            refine HT.reg (rs := [⟨none, .no⟩, ⟨none, .no⟩, ⟨none, .call [.imm (.int .i64), .imm (.int .i64), .imm (.int .i64)] [⟨false, .bool, y4⟩] []⟩, ⟨none, .no⟩, ⟨some true, .no⟩, ⟨some true, .no⟩, ⟨some true, .call [.imm (.int .i64), .imm (.int .i64), .imm (.int .i64)] [⟨false, .bool, y7⟩] []⟩, ⟨none, .tv true⟩, ⟨none, .no⟩, ⟨some true, .no⟩, ⟨some true, .no⟩, ⟨some true, .no⟩, ⟨some true, .no⟩, ⟨some true, .call [.imm (.sl (.flt .f32)), .imm (.int .i64), .imm (.int .i64)] [⟨false, .bool, y10⟩] []⟩, ⟨none, .tv true⟩, ⟨none, .no⟩, ⟨some true, .no⟩, ⟨some true, .no⟩, ⟨some true, .no⟩, ⟨some true, .no⟩, ⟨some true, .no⟩, ⟨some true, .no⟩, ⟨some true, .call [.imm (.sl (.flt .f32)), .imm (.int .i64), .imm (.int .i64)] [⟨false, .bool, y13⟩] []⟩, ⟨none, .tv true⟩, ⟨none, .no⟩, ⟨some true, .no⟩, ⟨some true, .no⟩, ⟨some true, .no⟩, ⟨some true, .no⟩, ⟨some true, .no⟩, ⟨some true, .no⟩, ⟨some true, .call [.imm (.sl (.flt .f32)), .imm (.int .i64), .imm (.int .i64)] [⟨false, .bool, y16⟩] []⟩, ⟨none, .tv true⟩, ⟨none, .no⟩]) (st' := ⟨[(2, .one (.dat .bool y16)), (35, .one (.dat .bool y16)), (34, .one (.dat .bool y16)), (33, .one (.dat (.int .i64) a0.2.1)), (32, .one (.ptr 0 1)), (31, .one (.dat (.int .i64) a0.1)), (30, .one (.ptr 0 0)), (29, .one (.dat (.sl (.flt .f32)) a0.2.2.2.2)), (28, .one (.ptr 0 4)), (27, .one (.dat .bool y13)), (26, .one (.dat .bool y13)), (25, .one (.dat .bool y13)), (24, .one (.dat (.int .i64) a0.1)), (23, .one (.ptr 0 0)), (22, .one (.dat (.int .i64) a0.1)), (21, .one (.ptr 0 0)), (20, .one (.dat (.sl (.flt .f32)) a0.2.2.2.1)), (19, .one (.ptr 0 3)), (18, .one (.dat .bool y10)), (17, .one (.dat .bool y10)), (16, .one (.dat .bool y10)), (15, .one (.dat (.int .i64) a0.1)), (14, .one (.ptr 0 0)), (13, .one (.dat (.sl (.flt .f32)) a0.2.2.1)), (12, .one (.ptr 0 2)), (11, .one (.dat .bool y7)), (10, .one (.dat .bool y7)), (9, .one (.dat .bool y7)), (8, .one (.dat (.int .i64) a0.2.1)), (7, .one (.ptr 0 1)), (6, .one (.dat .bool y4)), (5, .one (.dat .bool y4)), (4, .one (.dat (.int .i64) a0.1)), (3, .one (.ptr 0 0)), (1, .one (.ptr 0 0))], [(0, .box [.dat (.int .i64) a0.1, .dat (.int .i64) a0.2.1, .dat (.sl (.flt .f32)) a0.2.2.1, .dat (.sl (.flt .f32)) a0.2.2.2.1, .dat (.sl (.flt .f32)) a0.2.2.2.2])], 1⟩) hP hN (by kernel_rfl) (allCons (f54_ok hc5) (allCons hb6 (allCons hb6 (allCons hb6 (allCons (f54_ok hc8) (allCons hb6 (allCons hb9 (allCons hb9 (allCons hb9 (allCons hb9 (allCons hb9 (allCons (f102_ok hc11) (allCons hb9 (allCons hb12 (allCons hb12 (allCons hb12 (allCons hb12 (allCons hb12 (allCons hb12 (allCons hb12 (allCons (f102_ok hc14) (allCons hb12 (allCons hb15 (allCons hb15 (allCons hb15 (allCons hb15 (allCons hb15 (allCons hb15 (allCons hb15 (allCons (f102_ok hc17) (allCons hb15 allNil))))))))))))))))))))))))))))))) (qThen ?_)
            exact (Le.cv (s := ⟨[], [], [], false⟩) (own := []) (ps := [y16 = y16]) (st' := ⟨[(2, .one (.dat .bool y16))], [], 0⟩) hO (fun h => by cases h) (by kernel_rfl) ⟨rfl, trivial⟩).ht (cont y16 (of_some hT3))
          · refine HT.reg (rs := [⟨none, .no⟩, ⟨none, .no⟩, ⟨none, .call [.imm (.int .i64), .imm (.int .i64), .imm (.int .i64)] [⟨false, .bool, y4⟩] []⟩, ⟨none, .no⟩, ⟨some true, .no⟩, ⟨some true, .no⟩, ⟨some true, .call [.imm (.int .i64), .imm (.int .i64), .imm (.int .i64)] [⟨false, .bool, y7⟩] []⟩, ⟨none, .tv true⟩, ⟨none, .no⟩, ⟨some true, .no⟩, ⟨some true, .no⟩, ⟨some true, .no⟩, ⟨some true, .no⟩, ⟨some true, .call [.imm (.sl (.flt .f32)), .imm (.int .i64), .imm (.int .i64)] [⟨false, .bool, y10⟩] []⟩, ⟨none, .tv true⟩, ⟨none, .no⟩, ⟨some true, .no⟩, ⟨some true, .no⟩, ⟨some true, .no⟩, ⟨some true, .no⟩, ⟨some true, .no⟩, ⟨some true, .no⟩, ⟨some true, .call [.imm (.sl (.flt .f32)), .imm (.int .i64), .imm (.int .i64)] [⟨false, .bool, y13⟩] []⟩, ⟨none, .tv true⟩, ⟨none, .no⟩, ⟨some false, .no⟩, ⟨some false, .no⟩, ⟨some false, .no⟩, ⟨some false, .no⟩, ⟨some false, .no⟩, ⟨some false, .no⟩, ⟨some false, .no⟩, ⟨none, .tv false⟩, ⟨none, .no⟩]) (st' := ⟨[(2, .one (.dat .bool false)), (35, .one (.dat .bool false)), (34, .und), (33, .und), (32, .und), (31, .und), (30, .und), (29, .und), (28, .und), (27, .one (.dat .bool y13)), (26, .one (.dat .bool y13)), (25, .one (.dat .bool y13)), (24, .one (.dat (.int .i64) a0.1)), (23, .one (.ptr 0 0)), (22, .one (.dat (.int .i64) a0.1)), (21, .one (.ptr 0 0)), (20, .one (.dat (.sl (.flt .f32)) a0.2.2.2.1)), (19, .one (.ptr 0 3)), (18, .one (.dat .bool y10)), (17, .one (.dat .bool y10)), (16, .one (.dat .bool y10)), (15, .one (.dat (.int .i64) a0.1)), (14, .one (.ptr 0 0)), (13, .one (.dat (.sl (.flt .f32)) a0.2.2.1)), (12, .one (.ptr 0 2)), (11, .one (.dat .bool y7)), (10, .one (.dat .bool y7)), (9, .one (.dat .bool y7)), (8, .one (.dat (.int .i64) a0.2.1)), (7, .one (.ptr 0 1)), (6, .one (.dat .bool y4)), (5, .one (.dat .bool y4)), (4, .one (.dat (.int .i64) a0.1)), (3, .one (.ptr 0 0)), (1, .one (.ptr 0 0))], [(0, .box [.dat (.int .i64) a0.1, .dat (.int .i64) a0.2.1, .dat (.sl (.flt .f32)) a0.2.2.1, .dat (.sl (.flt .f32)) a0.2.2.2.1, .dat (.sl (.flt .f32)) a0.2.2.2.2])], 1⟩) hP hN (by kernel_rfl) (allCons (f54_ok hc5) (allCons hb6 (allCons hb6 (allCons hb6 (allCons (f54_ok hc8) (allCons hb6 (allCons hb9 (allCons hb9 (allCons hb9 (allCons hb9 (allCons hb9 (allCons (f102_ok hc11) (allCons hb9 (allCons hb12 (allCons hb12 (allCons hb12 (allCons hb12 (allCons hb12 (allCons hb12 (allCons hb12 (allCons (f102_ok hc14) (allCons hb12 (allCons hb15 (allCons hb15 (allCons hb15 (allCons hb15 (allCons hb15 (allCons hb15 (allCons hb15 (allCons hb15 allNil)))))))))))))))))))))))))))))) (qThen ?_)
            exact (Le.cv (s := ⟨[], [], [], false⟩) (own := []) (ps := [false = false]) (st' := ⟨[(2, .one (.dat .bool false))], [], 0⟩) hO (fun h => by cases h) (by kernel_rfl) ⟨rfl, trivial⟩).ht (cont false (of_some hT3))
        · refine HT.reg (rs := [⟨none, .no⟩, ⟨none, .no⟩, ⟨none, .call [.imm (.int .i64), .imm (.int .i64), .imm (.int .i64)] [⟨false, .bool, y4⟩] []⟩, ⟨none, .no⟩, ⟨some true, .no⟩, ⟨some true, .no⟩, ⟨some true, .call [.imm (.int .i64), .imm (.int .i64), .imm (.int .i64)] [⟨false, .bool, y7⟩] []⟩, ⟨none, .tv true⟩, ⟨none, .no⟩, ⟨some true, .no⟩, ⟨some true, .no⟩, ⟨some true, .no⟩, ⟨some true, .no⟩, ⟨some true, .call [.imm (.sl (.flt .f32)), .imm (.int .i64), .imm (.int .i64)] [⟨false, .bool, y10⟩] []⟩, ⟨none, .tv true⟩, ⟨none, .no⟩, ⟨some false, .no⟩, ⟨some false, .no⟩, ⟨some false, .no⟩, ⟨some false, .no⟩, ⟨some false, .no⟩, ⟨some false, .no⟩, ⟨some false, .no⟩, ⟨none, .tv false⟩, ⟨none, .no⟩, ⟨some false, .no⟩, ⟨some false, .no⟩, ⟨some false, .no⟩, ⟨some false, .no⟩, ⟨some false, .no⟩, ⟨some false, .no⟩, ⟨some false, .no⟩, ⟨none, .tv false⟩, ⟨none, .no⟩]) (st' := ⟨[(2, .one (.dat .bool false)), (35, .one (.dat .bool false)), (34, .und), (33, .und), (32, .und), (31, .und), (30, .und), (29, .und), (28, .und), (27, .one (.dat .bool false)), (26, .one (.dat .bool false)), (25, .und), (24, .und), (23, .und), (22, .und), (21, .und), (20, .und), (19, .und), (18, .one (.dat .bool y10)), (17, .one (.dat .bool y10)), (16, .one (.dat .bool y10)), (15, .one (.dat (.int .i64) a0.1)), (14, .one (.ptr 0 0)), (13, .one (.dat (.sl (.flt .f32)) a0.2.2.1)), (12, .one (.ptr 0 2)), (11, .one (.dat .bool y7)), (10, .one (.dat .bool y7)), (9, .one (.dat .bool y7)), (8, .one (.dat (.int .i64) a0.2.1)), (7, .one (.ptr 0 1)), (6, .one (.dat .bool y4)), (5, .one (.dat .bool y4)), (4, .one (.dat (.int .i64) a0.1)), (3, .one (.ptr 0 0)), (1, .one (.ptr 0 0))], [(0, .box [.dat (.int .i64) a0.1, .dat (.int .i64) a0.2.1, .dat (.sl (.flt .f32)) a0.2.2.1, .dat (.sl (.flt .f32)) a0.2.2.2.1, .dat (.sl (.flt .f32)) a0.2.2.2.2])], 1⟩) hP hN (by kernel_rfl) (allCons (f54_ok hc5) (allCons hb6 (allCons hb6 (allCons hb6 (allCons (f54_ok hc8) (allCons hb6 (allCons hb9 (allCons hb9 (allCons hb9 (allCons hb9 (allCons hb9 (allCons (f102_ok hc11) (allCons hb9 (allCons hb12 (allCons hb12 (allCons hb12 (allCons hb12 (allCons hb12 (allCons hb12 (allCons hb12 (allCons hb12 (allCons (rfl : false = false) (allCons (rfl : false = false) (allCons (rfl : false = false) (allCons (rfl : false = false) (allCons (rfl : false = false) (allCons (rfl : false = false) (allCons (rfl : false = false) (allCons (rfl : false = false) allNil))))))))))))))))))))))))))))) (qThen ?_)
          exact (Le.cv (s := ⟨[], [], [], false⟩) (own := []) (ps := [false = false]) (st' := ⟨[(2, .one (.dat .bool false))], [], 0⟩) hO (fun h => by cases h) (by kernel_rfl) ⟨rfl, trivial⟩).ht (cont false (of_some hT3))
      · refine HT.reg (rs := [⟨none, .no⟩, ⟨none, .no⟩, ⟨none, .call [.imm (.int .i64), .imm (.int .i64), .imm (.int .i64)] [⟨false, .bool, y4⟩] []⟩, ⟨none, .no⟩, ⟨some true, .no⟩, ⟨some true, .no⟩, ⟨some true, .call [.imm (.int .i64), .imm (.int .i64), .imm (.int .i64)] [⟨false, .bool, y7⟩] []⟩, ⟨none, .tv true⟩, ⟨none, .no⟩, ⟨some false, .no⟩, ⟨some false, .no⟩, ⟨some false, .no⟩, ⟨some false, .no⟩, ⟨some false, .no⟩, ⟨none, .tv false⟩, ⟨none, .no⟩, ⟨some false, .no⟩, ⟨some false, .no⟩, ⟨some false, .no⟩, ⟨some false, .no⟩, ⟨some false, .no⟩, ⟨some false, .no⟩, ⟨some false, .no⟩, ⟨none, .tv false⟩, ⟨none, .no⟩, ⟨some false, .no⟩, ⟨some false, .no⟩, ⟨some false, .no⟩, ⟨some false, .no⟩, ⟨some false, .no⟩, ⟨some false, .no⟩, ⟨some false, .no⟩, ⟨none, .tv false⟩, ⟨none, .no⟩]) (st' := ⟨[(2, .one (.dat .bool false)), (35, .one (.dat .bool false)), (34, .und), (33, .und), (32, .und), (31, .und), (30, .und), (29, .und), (28, .und), (27, .one (.dat .bool false)), (26, .one (.dat .bool false)), (25, .und), (24, .und), (23, .und), (22, .und), (21, .und), (20, .und), (19, .und), (18, .one (.dat .bool false)), (17, .one (.dat .bool false)), (16, .und), (15, .und), (14, .und), (13, .und), (12, .und), (11, .one (.dat .bool y7)), (10, .one (.dat .bool y7)), (9, .one (.dat .bool y7)), (8, .one (.dat (.int .i64) a0.2.1)), (7, .one (.ptr 0 1)), (6, .one (.dat .bool y4)), (5, .one (.dat .bool y4)), (4, .one (.dat (.int .i64) a0.1)), (3, .one (.ptr 0 0)), (1, .one (.ptr 0 0))], [(0, .box [.dat (.int .i64) a0.1, .dat (.int .i64) a0.2.1, .dat (.sl (.flt .f32)) a0.2.2.1, .dat (.sl (.flt .f32)) a0.2.2.2.1, .dat (.sl (.flt .f32)) a0.2.2.2.2])], 1⟩) hP hN (by kernel_rfl) (allCons (f54_ok hc5) (allCons hb6 (allCons hb6 (allCons hb6 (allCons (f54_ok hc8) (allCons hb6 (allCons hb9 (allCons hb9 (allCons hb9 (allCons hb9 (allCons hb9 (allCons hb9 (allCons (rfl : false = false) (allCons (rfl : false = false) (allCons (rfl : false = false) (allCons (rfl : false = false) (allCons (rfl : false = false) (allCons (rfl : false = false) (allCons (rfl : false = false) (allCons (rfl : false = false) (allCons (rfl : false = false) (allCons (rfl : false = false) (allCons (rfl : false = false) (allCons (rfl : false = false) (allCons (rfl : false = false) (allCons (rfl : false = false) (allCons (rfl : false = false) (allCons (rfl : false = false) allNil)))))))))))))))))))))))))))) (qThen ?_)
        exact (Le.cv (s := ⟨[], [], [], false⟩) (own := []) (ps := [false = false]) (st' := ⟨[(2, .one (.dat .bool false))], [], 0⟩) hO (fun h => by cases h) (by kernel_rfl) ⟨rfl, trivial⟩).ht (cont false (of_some hT3))
    · refine HT.reg (rs := [⟨none, .no⟩, ⟨none, .no⟩, ⟨none, .call [.imm (.int .i64), .imm (.int .i64), .imm (.int .i64)] [⟨false, .bool, y4⟩] []⟩, ⟨none, .no⟩, ⟨some false, .no⟩, ⟨some false, .no⟩, ⟨some false, .no⟩, ⟨none, .tv false⟩, ⟨none, .no⟩, ⟨some false, .no⟩, ⟨some false, .no⟩, ⟨some false, .no⟩, ⟨some false, .no⟩, ⟨some false, .no⟩, ⟨none, .tv false⟩, ⟨none, .no⟩, ⟨some false, .no⟩, ⟨some false, .no⟩, ⟨some false, .no⟩, ⟨some false, .no⟩, ⟨some false, .no⟩, ⟨some false, .no⟩, ⟨some false, .no⟩, ⟨none, .tv false⟩, ⟨none, .no⟩, ⟨some false, .no⟩, ⟨some false, .no⟩, ⟨some false, .no⟩, ⟨some false, .no⟩, ⟨some false, .no⟩, ⟨some false, .no⟩, ⟨some false, .no⟩, ⟨none, .tv false⟩, ⟨none, .no⟩]) (st' := ⟨[(2, .one (.dat .bool false)), (35, .one (.dat .bool false)), (34, .und), (33, .und), (32, .und), (31, .und), (30, .und), (29, .und), (28, .und), (27, .one (.dat .bool false)), (26, .one (.dat .bool false)), (25, .und), (24, .und), (23, .und), (22, .und), (21, .und), (20, .und), (19, .und), (18, .one (.dat .bool false)), (17, .one (.dat .bool false)), (16, .und), (15, .und), (14, .und), (13, .und), (12, .und), (11, .one (.dat .bool false)), (10, .one (.dat .bool false)), (9, .und), (8, .und), (7, .und), (6, .one (.dat .bool y4)), (5, .one (.dat .bool y4)), (4, .one (.dat (.int .i64) a0.1)), (3, .one (.ptr 0 0)), (1, .one (.ptr 0 0))], [(0, .box [.dat (.int .i64) a0.1, .dat (.int .i64) a0.2.1, .dat (.sl (.flt .f32)) a0.2.2.1, .dat (.sl (.flt .f32)) a0.2.2.2.1, .dat (.sl (.flt .f32)) a0.2.2.2.2])], 1⟩) hP hN (by kernel_rfl) (allCons (f54_ok hc5) (allCons hb6 (allCons hb6 (allCons hb6 (allCons hb6 (allCons (rfl : false = false) (allCons (rfl : false = false) (allCons (rfl : false = false) (allCons (rfl : false = false) (allCons (rfl : false = false) (allCons (rfl : false = false) (allCons (rfl : false = false) (allCons (rfl : false = false) (allCons (rfl : false = false) (allCons (rfl : false = false) (allCons (rfl : false = false) (allCons (rfl : false = false) (allCons (rfl : false = false) (allCons (rfl : false = false) (allCons (rfl : false = false) (allCons (rfl : false = false) (allCons (rfl : false = false) (allCons (rfl : false = false) (allCons (rfl : false = false) (allCons (rfl : false = false) (allCons (rfl : false = false) (allCons (rfl : false = false) allNil))))))))))))))))))))))))))) (qThen ?_)
      exact (Le.cv (s := ⟨[], [], [], false⟩) (own := []) (ps := [false = false]) (st' := ⟨[(2, .one (.dat .bool false))], [], 0⟩) hO (fun h => by cases h) (by kernel_rfl) ⟨rfl, trivial⟩).ht (cont false (of_some hT3))

noncomputable def impl_areWithin_B1 (a0 : List Int) (a1 : Int) (a2 : Int) (s1 : Int) : Option ((Int) ⊕ (Unit ⊕ Unit)) :=
  bif (decide (s1 < (lenI a0))) then
    guardP ((0 : Int) ≤ s1 ∧ s1 < lenI a0) (
      (impl_within (List.getD a0 (Int.toNat s1) (0 : Int)) a1 a2).bind fun y10 =>
      bif (!y10) then
        some (.inr (.inr ()))
      else
        some (.inl (wadd .i64 s1 (1 : Int))))
  else
    some (.inr (.inl ()))

noncomputable def impl_areWithin (a0 : List Int) (a1 : Int) (a2 : Int) : Option (Bool) :=
  (rounds (impl_areWithin_B1 a0 a1 a2) (0 : Int)).bind fun r2 => match r2 with
    | .inl r3 =>
      some true
    | .inr r4 =>
      some false

theorem f103_ok {a0 : List Int} {a1 : Int} {a2 : Int} {r : Bool} (hr : impl_areWithin a0 a1 a2 = some r) : CallOK Try.prog 103 [.imm (.sl (.int .i64)) a0, .imm (.int .i64) a1, .imm (.int .i64) a2] [⟨false, .bool, r⟩] [] := by
  unfold impl_areWithin at hr
  refine CallOK.of_body (ts := [(false, .bool)]) Try.func103 rfl (by kernel_rfl) (Nat.le_of_ble_eq_true (by kernel_rfl)) fun cx hP hN hO hF => ?_
  have hO : cx.own.map Prod.fst = [] := hO
  have hF := hF rfl
  show HT cx ⟨[(0, .one (.dat (.sl (.int .i64)) a0)), (1, .one (.dat (.int .i64) a1)), (2, .one (.dat (.int .i64) a2))], [], 0⟩ _ _
  refine HT.reg1 [0, 1, 2] [⟨none, .no⟩] ⟨[(0, .one (.dat (.sl (.int .i64)) a0)), (1, .one (.dat (.int .i64) a1)), (2, .one (.dat (.int .i64) a2))], [], 0⟩ hP hN (by kernel_rfl) allNil ?_
  refine HT.seq ?_
  refine HT.reg1 [1, 2, 9, 10, 11] [⟨none, .no⟩, ⟨none, .no⟩, ⟨none, .no⟩] ⟨[(1, .one (.dat (.int .i64) a1)), (2, .one (.dat (.int .i64) a2)), (9, .one (.dat (.sl (.int .i64)) a0)), (10, .one (.dat (.int .i64) (lenI a0))), (11, .one (.dat (.int .i64) (0 : Int)))], [], 0⟩ hP hN (by kernel_rfl) allNil ?_
  refine HT.block ?_
  obtain ⟨r2, hL13, hr⟩ := of_bind hr
  refine (Le.cv (s := ⟨[], [], [], false⟩) (own := []) (ps := [a1 = a1, a2 = a2, a0 = a0, (lenI a0) = (lenI a0), (0 : Int) = (0 : Int)]) (st' := ⟨[(1, .one (.dat (.int .i64) a1)), (2, .one (.dat (.int .i64) a2)), (9, .one (.dat (.sl (.int .i64)) a0)), (10, .one (.dat (.int .i64) (lenI a0))), (11, .one (.dat (.int .i64) (0 : Int)))], [], 0⟩) hO (fun h => by cases h) (by kernel_rfl) ⟨rfl, rfl, rfl, rfl, rfl, trivial⟩).ht ?_
  refine HT.loopE (s := (0 : Int)) (fun (s1 : Int) => ⟨[(1, .one (.dat (.int .i64) a1)), (2, .one (.dat (.int .i64) a2)), (9, .one (.dat (.sl (.int .i64)) a0)), (10, .one (.dat (.int .i64) (lenI a0))), (11, .one (.dat (.int .i64) s1))], [], 0⟩) (fun (r2 : Unit ⊕ Unit) => match r2 with | .inl r3 => (.exit 0, ⟨[], [], 0⟩) | .inr r4 => (.ret, ⟨[(6, .one (.dat .bool false))], [], 0⟩)) hL13 ?_ (fun s1 x5 hx6 hk7 => ?_)
  · rcases r2 with r3 | r4
    · refine (qBlockX (qThen ?_))
      refine HT.reg1 [6] [⟨none, .no⟩] ⟨[(6, .one (.dat .bool true))], [], 0⟩ hP hN (by kernel_rfl) allNil ?_
      have hr := of_some hr
      subst hr
      exact HT.ret ⟨[.one (.dat .bool true)], [], [], by kernel_rfl, by kernel_rfl, rfl, by kernel_rfl, by kernel_rfl, trivial⟩
    · have hr := of_some hr
      subst hr
      exact (qBlockR (qThenR ⟨[.one (.dat .bool false)], [], [], by kernel_rfl, by kernel_rfl, rfl, by kernel_rfl, by kernel_rfl, trivial⟩))
  · refine HT.reg1 [1, 2, 9, 10, 11, 12] [⟨none, .no⟩] ⟨[(1, .one (.dat (.int .i64) a1)), (2, .one (.dat (.int .i64) a2)), (9, .one (.dat (.sl (.int .i64)) a0)), (10, .one (.dat (.int .i64) (lenI a0))), (11, .one (.dat (.int .i64) s1)), (12, .one (.dat .bool (decide (s1 < (lenI a0)))))], [], 0⟩ hP hN (by kernel_rfl) allNil ?_
    refine HT.seq ?_
    rcases of_bif hx6 with ⟨hb8, hx6⟩ | ⟨hb8, hx6⟩
    · refine HT.cond1 rfl hb8 ?_
      refine HT.skip (qThen ?_)
      refine HT.seq ?_
      refine HT.block ?_
      obtain ⟨hg9, hx6⟩ := of_guard hx6
      refine HT.reg1 [1, 2, 8, 9, 10, 11] [⟨none, .no⟩, ⟨none, .no⟩, ⟨none, .no⟩] ⟨[(1, .one (.dat (.int .i64) a1)), (2, .one (.dat (.int .i64) a2)), (8, .one (.dat (.int .i64) (List.getD a0 (Int.toNat s1) (0 : Int)))), (9, .one (.dat (.sl (.int .i64)) a0)), (10, .one (.dat (.int .i64) (lenI a0))), (11, .one (.dat (.int .i64) s1))], [], 0⟩ hP hN (by kernel_rfl) (allCons hg9 allNil) ?_
      obtain ⟨y10, hc11, hx6⟩ := of_bind hx6
      refine HT.reg1 [1, 2, 9, 10, 11, 19] [⟨none, .no⟩, ⟨none, .no⟩, ⟨none, .no⟩, ⟨none, .call [.imm (.int .i64), .imm (.int .i64), .imm (.int .i64)] [⟨false, .bool, y10⟩] []⟩, ⟨none, .no⟩] ⟨[(1, .one (.dat (.int .i64) a1)), (2, .one (.dat (.int .i64) a2)), (9, .one (.dat (.sl (.int .i64)) a0)), (10, .one (.dat (.int .i64) (lenI a0))), (11, .one (.dat (.int .i64) s1)), (19, .one (.dat .bool (!y10)))], [], 0⟩ hP hN (by kernel_rfl) (allCons (f54_ok hc11) allNil) ?_
      rcases of_bif hx6 with ⟨hb12, hx6⟩ | ⟨hb12, hx6⟩
      · refine HT.cond1 rfl hb12 ?_
        refine HT.reg1 [6] [⟨none, .no⟩] ⟨[(6, .one (.dat .bool false))], [], 0⟩ hP hN (by kernel_rfl) allNil ?_
        have hx6 := of_some hx6
        subst hx6
        refine (Le.cv (s := ⟨[], [], [], false⟩) (own := []) (ps := [false = false]) (st' := ⟨[(6, .one (.dat .bool false))], [], 0⟩) hO (fun h => by cases h) (by kernel_rfl) ⟨rfl, trivial⟩).ht ?_
        exact HT.ret (qBlockR (qThenR (qLoopR (hk7 (.inr ()) rfl))))
      · refine HT.cond0 rfl hb12 ?_
        refine HT.skip (qBlock (qThen ?_))
        have hx6 := of_some hx6
        subst hx6
        refine HT.reg (rs := [⟨none, .no⟩, ⟨none, .no⟩]) (st' := ⟨[(11, .one (.dat (.int .i64) (wadd .i64 s1 (1 : Int)))), (20, .one (.dat (.int .i64) (wadd .i64 s1 (1 : Int)))), (1, .one (.dat (.int .i64) a1)), (2, .one (.dat (.int .i64) a2)), (9, .one (.dat (.sl (.int .i64)) a0)), (10, .one (.dat (.int .i64) (lenI a0))), (11, .one (.dat (.int .i64) s1)), (19, .one (.dat .bool (!y10)))], [], 0⟩) hP hN (by kernel_rfl) allNil (qLoopN ⟨(wadd .i64 s1 (1 : Int)), rfl, Le.cv (s := ⟨[], [], [], false⟩) (own := []) (ps := [a1 = a1, a2 = a2, a0 = a0, (lenI a0) = (lenI a0), (wadd .i64 s1 (1 : Int)) = (wadd .i64 s1 (1 : Int))]) (st' := ⟨[(1, .one (.dat (.int .i64) a1)), (2, .one (.dat (.int .i64) a2)), (9, .one (.dat (.sl (.int .i64)) a0)), (10, .one (.dat (.int .i64) (lenI a0))), (11, .one (.dat (.int .i64) (wadd .i64 s1 (1 : Int))))], [], 0⟩) hO (fun h => by cases h) (by kernel_rfl) ⟨rfl, rfl, rfl, rfl, rfl, trivial⟩⟩)
    · refine HT.cond0 rfl hb8 ?_
      have hx6 := of_some hx6
      subst hx6
      refine (Le.cv (s := ⟨[], [], [], false⟩) (own := []) (ps := []) (st' := ⟨[], [], 0⟩) hO (fun h => by cases h) (by kernel_rfl) trivial).ht ?_
      exact HT.exit (qThenE (qLoopE (hk7 (.inl ()) rfl)))

noncomputable def impl_IsWord (a0 : List Int) (a1 : Int) : Option (Bool) :=
  (show Option (Bool) from
    (impl_within a1 (1 : Int) (4 : Int)).bind fun y4 =>
    bif y4 then
      bif (decide ((lenI a0) ≤ (12 : Int))) then
        (impl_areWithin a0 (0 : Int) (wsub .i64 a1 (1 : Int))).bind fun y8 =>
        some y8
      else
        some false
    else
      some false).bind fun v1 =>
  some v1

theorem f79_ok {a0 : List Int} {a1 : Int} {r : Bool} (hr : impl_IsWord a0 a1 = some r) : CallOK Try.prog 79 [.imm (.sl (.int .i64)) a0, .imm (.int .i64) a1] [⟨false, .bool, r⟩] [] := by
  unfold impl_IsWord at hr
  refine CallOK.of_body (ts := [(false, .bool)]) Try.func79 rfl (by kernel_rfl) (Nat.le_of_ble_eq_true (by kernel_rfl)) fun cx hP hN hO hF => ?_
  have hO : cx.own.map Prod.fst = [] := hO
  have hF := hF rfl
  show HT cx ⟨[(0, .one (.dat (.sl (.int .i64)) a0)), (1, .one (.dat (.int .i64) a1))], [], 0⟩ _ _
  refine HT.reg1 [0, 1] [⟨none, .no⟩] ⟨[(0, .one (.dat (.sl (.int .i64)) a0)), (1, .one (.dat (.int .i64) a1))], [], 0⟩ hP hN (by kernel_rfl) allNil ?_
  obtain ⟨v1', hT3, hr⟩ := of_bind hr
  refine HT.join (fun (v1 : Bool) => ⟨[(4, .one (.dat .bool v1))], [], 0⟩) (fun v => v = v1') (fun v1 hv2 => ?_) (fun cont => ?_)
  · subst hv2
    have hr := of_some hr
    subst hr
    exact HT.ret ⟨[.one (.dat .bool v1)], [], [], by kernel_rfl, by kernel_rfl, rfl, by kernel_rfl, by kernel_rfl, trivial⟩
  · obtain ⟨y4, hc5, hT3⟩ := of_bind hT3
    rcases of_bif hT3 with ⟨hb6, hT3⟩ | ⟨hb6, hT3⟩
    · rcases of_bif hT3 with ⟨hb7, hT3⟩ | ⟨hb7, hT3⟩
      · obtain ⟨y8, hc9, hT3⟩ := of_bind hT3
        refine HT.reg (rs := [⟨none, .no⟩, ⟨none, .call [.imm (.int .i64), .imm (.int .i64), .imm (.int .i64)] [⟨false, .bool, y4⟩] []⟩, ⟨none, .no⟩, ⟨some true, .no⟩, ⟨some true, .no⟩, ⟨some true, .no⟩, ⟨none, .tv true⟩, ⟨none, .no⟩, ⟨some true, .no⟩, ⟨some true, .no⟩, ⟨some true, .no⟩, ⟨some true, .call [.imm (.sl (.int .i64)), .imm (.int .i64), .imm (.int .i64)] [⟨false, .bool, y8⟩] []⟩, ⟨none, .tv true⟩, ⟨none, .no⟩]) (st' := ⟨[(4, .one (.dat .bool y8)), (17, .one (.dat .bool y8)), (16, .one (.dat .bool y8)), (15, .one (.dat (.int .i64) (wsub .i64 a1 (1 : Int)))), (14, .one (.dat (.int .i64) a1)), (13, .one (.dat (.sl (.int .i64)) a0)), (12, .one (.dat .bool (decide ((lenI a0) ≤ (12 : Int))))), (11, .one (.dat .bool (decide ((lenI a0) ≤ (12 : Int))))), (10, .one (.dat .bool (decide ((lenI a0) ≤ (12 : Int))))), (9, .one (.dat (.int .i64) (lenI a0))), (8, .one (.dat (.sl (.int .i64)) a0)), (7, .one (.dat .bool y4)), (6, .one (.dat .bool y4)), (5, .one (.dat (.int .i64) a1)), (0, .one (.dat (.sl (.int .i64)) a0)), (1, .one (.dat (.int .i64) a1))], [], 0⟩) hP hN (by kernel_rfl) (allCons (f54_ok hc5) (allCons hb6 (allCons hb6 (allCons hb6 (allCons hb6 (allCons hb7 (allCons hb7 (allCons hb7 (allCons hb7 (allCons (f103_ok hc9) (allCons hb7 allNil))))))))))) (qThen ?_)
        exact (Le.cv (s := ⟨[], [], [], false⟩) (own := []) (ps := [y8 = y8]) (st' := ⟨[(4, .one (.dat .bool y8))], [], 0⟩) hO (fun h => by cases h) (by kernel_rfl) ⟨rfl, trivial⟩).ht (cont y8 (of_some hT3))
      · refine HT.reg (rs := [⟨none, .no⟩, ⟨none, .call [.imm (.int .i64), .imm (.int .i64), .imm (.int .i64)] [⟨false, .bool, y4⟩] []⟩, ⟨none, .no⟩, ⟨some true, .no⟩, ⟨some true, .no⟩, ⟨some true, .no⟩, ⟨none, .tv true⟩, ⟨none, .no⟩, ⟨some false, .no⟩, ⟨some false, .no⟩, ⟨some false, .no⟩, ⟨some false, .no⟩, ⟨none, .tv false⟩, ⟨none, .no⟩]) (st' := ⟨[(4, .one (.dat .bool false)), (17, .one (.dat .bool false)), (16, .und), (15, .und), (14, .und), (13, .und), (12, .one (.dat .bool (decide ((lenI a0) ≤ (12 : Int))))), (11, .one (.dat .bool (decide ((lenI a0) ≤ (12 : Int))))), (10, .one (.dat .bool (decide ((lenI a0) ≤ (12 : Int))))), (9, .one (.dat (.int .i64) (lenI a0))), (8, .one (.dat (.sl (.int .i64)) a0)), (7, .one (.dat .bool y4)), (6, .one (.dat .bool y4)), (5, .one (.dat (.int .i64) a1)), (0, .one (.dat (.sl (.int .i64)) a0)), (1, .one (.dat (.int .i64) a1))], [], 0⟩) hP hN (by kernel_rfl) (allCons (f54_ok hc5) (allCons hb6 (allCons hb6 (allCons hb6 (allCons hb6 (allCons hb7 (allCons hb7 (allCons hb7 (allCons hb7 (allCons hb7 allNil)))))))))) (qThen ?_)
        exact (Le.cv (s := ⟨[], [], [], false⟩) (own := []) (ps := [false = false]) (st' := ⟨[(4, .one (.dat .bool false))], [], 0⟩) hO (fun h => by cases h) (by kernel_rfl) ⟨rfl, trivial⟩).ht (cont false (of_some hT3))
    · refine HT.reg (rs := [⟨none, .no⟩, ⟨none, .call [.imm (.int .i64), .imm (.int .i64), .imm (.int .i64)] [⟨false, .bool, y4⟩] []⟩, ⟨none, .no⟩, ⟨some false, .no⟩, ⟨some false, .no⟩, ⟨some false, .no⟩, ⟨none, .tv false⟩, ⟨none, .no⟩, ⟨some false, .no⟩, ⟨some false, .no⟩, ⟨some false, .no⟩, ⟨some false, .no⟩, ⟨none, .tv false⟩, ⟨none, .no⟩]) (st' := ⟨[(4, .one (.dat .bool false)), (17, .one (.dat .bool false)), (16, .und), (15, .und), (14, .und), (13, .und), (12, .one (.dat .bool false)), (11, .one (.dat .bool false)), (10, .und), (9, .und), (8, .und), (7, .one (.dat .bool y4)), (6, .one (.dat .bool y4)), (5, .one (.dat (.int .i64) a1)), (0, .one (.dat (.sl (.int .i64)) a0)), (1, .one (.dat (.int .i64) a1))], [], 0⟩) hP hN (by kernel_rfl) (allCons (f54_ok hc5) (allCons hb6 (allCons hb6 (allCons hb6 (allCons hb6 (allCons (rfl : false = false) (allCons (rfl : false = false) (allCons (rfl : false = false) (allCons (rfl : false = false) (allCons (rfl : false = false) allNil)))))))))) (qThen ?_)
      exact (Le.cv (s := ⟨[], [], [], false⟩) (own := []) (ps := [false = false]) (st' := ⟨[(4, .one (.dat .bool false))], [], 0⟩) hO (fun h => by cases h) (by kernel_rfl) ⟨rfl, trivial⟩).ht (cont false (of_some hT3))

noncomputable def impl_Model_has (a0 : Int × Int × List Nat × List Nat × List Nat) (a1 : List Int) : Option (Bool) :=
  (show Option (Bool) from
    (impl_ValidModel (a0.1, a0.2.1, a0.2.2.1, a0.2.2.2.1, a0.2.2.2.2)).bind fun y4 =>
    bif y4 then
      (impl_IsWord a1 a0.2.1).bind fun y7 =>
      some y7
    else
      some false).bind fun v1 =>
  some v1

theorem f47_ok {a0 : Int × Int × List Nat × List Nat × List Nat} {a1 : List Int} {r : Bool} (hr : impl_Model_has a0 a1 = some r) : CallOK Try.prog 47 [.imm (.st (.pair (.int .i64) (.pair (.int .i64) (.pair (.sl (.flt .f32)) (.pair (.sl (.flt .f32)) (.sl (.flt .f32))))))) a0, .imm (.sl (.int .i64)) a1] [⟨false, .bool, r⟩] [] := by
  unfold impl_Model_has at hr
  refine CallOK.of_body (ts := [(false, .bool)]) Try.func47 rfl (by kernel_rfl) (Nat.le_of_ble_eq_true (by kernel_rfl)) fun cx hP hN hO hF => ?_
  have hO : cx.own.map Prod.fst = [] := hO
  have hF := hF rfl
  show HT cx ⟨[(0, .agg [.dat (.int .i64) a0.1, .dat (.int .i64) a0.2.1, .dat (.sl (.flt .f32)) a0.2.2.1, .dat (.sl (.flt .f32)) a0.2.2.2.1, .dat (.sl (.flt .f32)) a0.2.2.2.2]), (1, .one (.dat (.sl (.int .i64)) a1))], [], 0⟩ _ _
  refine HT.reg1 [1, 2] [⟨none, .no⟩, ⟨none, .no⟩] ⟨[(1, .one (.dat (.sl (.int .i64)) a1)), (2, .one (.ptr 0 0))], [(0, .box [.dat (.int .i64) a0.1, .dat (.int .i64) a0.2.1, .dat (.sl (.flt .f32)) a0.2.2.1, .dat (.sl (.flt .f32)) a0.2.2.2.1, .dat (.sl (.flt .f32)) a0.2.2.2.2])], 1⟩ hP hN (by kernel_rfl) allNil ?_
  obtain ⟨v1', hT3, hr⟩ := of_bind hr
  refine HT.join (fun (v1 : Bool) => ⟨[(4, .one (.dat .bool v1))], [], 0⟩) (fun v => v = v1') (fun v1 hv2 => ?_) (fun cont => ?_)
  · subst hv2
    have hr := of_some hr
    subst hr
    exact HT.ret ⟨[.one (.dat .bool v1)], [], [], by kernel_rfl, by kernel_rfl, rfl, by kernel_rfl, by kernel_rfl, trivial⟩
  · obtain ⟨y4, hc5, hT3⟩ := of_bind hT3
    rcases of_bif hT3 with ⟨hb6, hT3⟩ | ⟨hb6, hT3⟩
    · obtain ⟨y7, hc8, hT3⟩ := of_bind hT3
      refine HT.reg (rs := [⟨none, .no⟩, ⟨none, .call [.imm (.st (.pair (.int .i64) (.pair (.int .i64) (.pair (.sl (.flt .f32)) (.pair (.sl (.flt .f32)) (.sl (.flt .f32)))))))] [⟨false, .bool, y4⟩] []⟩, ⟨none, .no⟩, ⟨some true, .no⟩, ⟨some true, .no⟩, ⟨some true, .no⟩, ⟨some true, .call [.imm (.sl (.int .i64)), .imm (.int .i64)] [⟨false, .bool, y7⟩] []⟩, ⟨none, .tv true⟩, ⟨none, .no⟩]) (st' := ⟨[(4, .one (.dat .bool y7)), (12, .one (.dat .bool y7)), (11, .one (.dat .bool y7)), (10, .one (.dat (.int .i64) a0.2.1)), (9, .one (.ptr 0 1)), (8, .one (.dat (.sl (.int .i64)) a1)), (7, .one (.dat .bool y4)), (6, .one (.dat .bool y4)), (5, .agg [.dat (.int .i64) a0.1, .dat (.int .i64) a0.2.1, .dat (.sl (.flt .f32)) a0.2.2.1, .dat (.sl (.flt .f32)) a0.2.2.2.1, .dat (.sl (.flt .f32)) a0.2.2.2.2]), (1, .one (.dat (.sl (.int .i64)) a1)), (2, .one (.ptr 0 0))], [(0, .box [.dat (.int .i64) a0.1, .dat (.int .i64) a0.2.1, .dat (.sl (.flt .f32)) a0.2.2.1, .dat (.sl (.flt .f32)) a0.2.2.2.1, .dat (.sl (.flt .f32)) a0.2.2.2.2])], 1⟩) hP hN (by kernel_rfl) (allCons (f78_ok hc5) (allCons hb6 (allCons hb6 (allCons hb6 (allCons hb6 (allCons (f79_ok hc8) (allCons hb6 allNil))))))) (qThen ?_)
      exact (Le.cv (s := ⟨[], [], [], false⟩) (own := []) (ps := [y7 = y7]) (st' := ⟨[(4, .one (.dat .bool y7))], [], 0⟩) hO (fun h => by cases h) (by kernel_rfl) ⟨rfl, trivial⟩).ht (cont y7 (of_some hT3))
    · refine HT.reg (rs := [⟨none, .no⟩, ⟨none, .call [.imm (.st (.pair (.int .i64) (.pair (.int .i64) (.pair (.sl (.flt .f32)) (.pair (.sl (.flt .f32)) (.sl (.flt .f32)))))))] [⟨false, .bool, y4⟩] []⟩, ⟨none, .no⟩, ⟨some false, .no⟩, ⟨some false, .no⟩, ⟨some false, .no⟩, ⟨some false, .no⟩, ⟨none, .tv false⟩, ⟨none, .no⟩]) (st' := ⟨[(4, .one (.dat .bool false)), (12, .one (.dat .bool false)), (11, .und), (10, .und), (9, .und), (8, .und), (7, .one (.dat .bool y4)), (6, .one (.dat .bool y4)), (5, .agg [.dat (.int .i64) a0.1, .dat (.int .i64) a0.2.1, .dat (.sl (.flt .f32)) a0.2.2.1, .dat (.sl (.flt .f32)) a0.2.2.2.1, .dat (.sl (.flt .f32)) a0.2.2.2.2]), (1, .one (.dat (.sl (.int .i64)) a1)), (2, .one (.ptr 0 0))], [(0, .box [.dat (.int .i64) a0.1, .dat (.int .i64) a0.2.1, .dat (.sl (.flt .f32)) a0.2.2.1, .dat (.sl (.flt .f32)) a0.2.2.2.1, .dat (.sl (.flt .f32)) a0.2.2.2.2])], 1⟩) hP hN (by kernel_rfl) (allCons (f78_ok hc5) (allCons hb6 (allCons hb6 (allCons hb6 (allCons hb6 (allCons hb6 allNil)))))) (qThen ?_)
      exact (Le.cv (s := ⟨[], [], [], false⟩) (own := []) (ps := [false = false]) (st' := ⟨[(4, .one (.dat .bool false))], [], 0⟩) hO (fun h => by cases h) (by kernel_rfl) ⟨rfl, trivial⟩).ht (cont false (of_some hT3))

noncomputable def impl_PairAt (a0 : Int × Int × List Nat × List Nat × List Nat) (a1 : List Int) (a2 : Int) : Option (List Nat × Bool) :=
  (show Option (Bool) from
    (impl_Model_has (a0.1, a0.2.1, a0.2.2.1, a0.2.2.2.1, a0.2.2.2.2) a1).bind fun y14 =>
    bif (!y14) then
      some true
    else
      (impl_within a2 (0 : Int) (wsub .i64 (lenI a1) (1 : Int))).bind fun y17 =>
      some (!y17)).bind fun v1 =>
  bif v1 then
    some (([] : List Nat), false)
  else
    (impl_Model_forward (a0.1, a0.2.1, a0.2.2.1, a0.2.2.2.1, a0.2.2.2.2) a1).bind fun y5 =>
    guardP ((0 : Int) ≤ a2 ∧ a2 < lenI y5) (
      (impl_Model_backward (a0.1, a0.2.1, a0.2.2.1, a0.2.2.2.1, a0.2.2.2.2) a1).bind fun y8 =>
      guardP ((0 : Int) ≤ (wadd .i64 a2 (1 : Int)) ∧ (wadd .i64 a2 (1 : Int)) < lenI y8) (
        guardP ((0 : Int) ≤ a2 ∧ a2 < lenI a1) (
          (impl_Model_pairAt (a0.1, a0.2.1, a0.2.2.1, a0.2.2.2.1, a0.2.2.2.2) (List.getD y5 (Int.toNat a2) ([] : List Nat)) (List.getD y8 (Int.toNat (wadd .i64 a2 (1 : Int))) ([] : List Nat)) (List.getD a1 (Int.toNat a2) (0 : Int))).bind fun y12 =>
          some (y12.1, y12.2))))

theorem f25_ok {a0 : Int × Int × List Nat × List Nat × List Nat} {a1 : List Int} {a2 : Int} {r : List Nat × Bool} (hr : impl_PairAt a0 a1 a2 = some r) : CallOK Try.prog 25 [.imm (.st (.pair (.int .i64) (.pair (.int .i64) (.pair (.sl (.flt .f32)) (.pair (.sl (.flt .f32)) (.sl (.flt .f32))))))) a0, .imm (.sl (.int .i64)) a1, .imm (.int .i64) a2] [⟨true, (.sl (.flt .f32)), r.1⟩, ⟨false, .bool, r.2⟩] [] := by
  unfold impl_PairAt at hr
  refine CallOK.of_body (ts := [(true, (.sl (.flt .f32))), (false, .bool)]) Try.func25 rfl (by kernel_rfl) (Nat.le_of_ble_eq_true (by kernel_rfl)) fun cx hP hN hO hF => ?_
  have hO : cx.own.map Prod.fst = [] := hO
  have hF := hF rfl
  show HT cx ⟨[(0, .agg [.dat (.int .i64) a0.1, .dat (.int .i64) a0.2.1, .dat (.sl (.flt .f32)) a0.2.2.1, .dat (.sl (.flt .f32)) a0.2.2.2.1, .dat (.sl (.flt .f32)) a0.2.2.2.2]), (1, .one (.dat (.sl (.int .i64)) a1)), (2, .one (.dat (.int .i64) a2))], [], 0⟩ _ _
  refine HT.reg1 [1, 2, 3] [⟨none, .no⟩, ⟨none, .no⟩, ⟨none, .no⟩] ⟨[(1, .one (.dat (.sl (.int .i64)) a1)), (2, .one (.dat (.int .i64) a2)), (3, .one (.ptr 0 0))], [(0, .box [.dat (.int .i64) a0.1, .dat (.int .i64) a0.2.1, .dat (.sl (.flt .f32)) a0.2.2.1, .dat (.sl (.flt .f32)) a0.2.2.2.1, .dat (.sl (.flt .f32)) a0.2.2.2.2])], 1⟩ hP hN (by kernel_rfl) allNil ?_
  refine HT.seq ?_
  obtain ⟨v1', hT3, hr⟩ := of_bind hr
  refine HT.join (fun (v1 : Bool) => ⟨[(1, .one (.dat (.sl (.int .i64)) a1)), (2, .one (.dat (.int .i64) a2)), (3, .one (.ptr 0 0)), (19, .one (.dat .bool v1))], [(0, .box [.dat (.int .i64) a0.1, .dat (.int .i64) a0.2.1, .dat (.sl (.flt .f32)) a0.2.2.1, .dat (.sl (.flt .f32)) a0.2.2.2.1, .dat (.sl (.flt .f32)) a0.2.2.2.2])], 1⟩) (fun v => v = v1') (fun v1 hv2 => ?_) (fun cont => ?_)
  · subst hv2
    rcases of_bif hr with ⟨hb4, hr⟩ | ⟨hb4, hr⟩
    · refine HT.cond1 rfl hb4 ?_
      refine HT.reg1 [6, 7] [⟨none, .no⟩, ⟨none, .no⟩] ⟨[(6, .one (.nilS)), (7, .one (.dat .bool false))], [(0, .box [.dat (.int .i64) a0.1, .dat (.int .i64) a0.2.1, .dat (.sl (.flt .f32)) a0.2.2.1, .dat (.sl (.flt .f32)) a0.2.2.2.1, .dat (.sl (.flt .f32)) a0.2.2.2.2])], 1⟩ hP hN (by kernel_rfl) allNil ?_
      have hr := of_some hr
      subst hr
      exact HT.ret (qThenR ⟨[.one (.nilS), .one (.dat .bool false)], [], [], by kernel_rfl, by kernel_rfl, rfl, by kernel_rfl, by kernel_rfl, trivial⟩)
    · refine HT.cond0 rfl hb4 ?_
      refine HT.skip (qThen ?_)
      obtain ⟨y5, hc6, hr⟩ := of_bind hr
      obtain ⟨hg7, hr⟩ := of_guard hr
      obtain ⟨y8, hc9, hr⟩ := of_bind hr
      obtain ⟨hg10, hr⟩ := of_guard hr
      obtain ⟨hg11, hr⟩ := of_guard hr
      obtain ⟨y12, hc13, hr⟩ := of_bind hr
      refine HT.drw1 [6, 7] 21 [⟨⟨none, .no⟩, []⟩, ⟨⟨none, .no⟩, []⟩, ⟨⟨none, .no⟩, []⟩, ⟨⟨none, .call [.imm (.st (.pair (.int .i64) (.pair (.int .i64) (.pair (.sl (.flt .f32)) (.pair (.sl (.flt .f32)) (.sl (.flt .f32))))))), .imm (.sl (.int .i64))] [⟨false, (.sl (.sl (.flt .f32))), y5⟩] []⟩, [1, 2]⟩, ⟨⟨none, .no⟩, []⟩, ⟨⟨none, .no⟩, [1, 2, 3, 4]⟩, ⟨⟨none, .no⟩, [1, 2, 3, 4, 5]⟩, ⟨⟨none, .no⟩, []⟩, ⟨⟨none, .no⟩, []⟩, ⟨⟨none, .call [.imm (.st (.pair (.int .i64) (.pair (.int .i64) (.pair (.sl (.flt .f32)) (.pair (.sl (.flt .f32)) (.sl (.flt .f32))))))), .imm (.sl (.int .i64))] [⟨false, (.sl (.sl (.flt .f32))), y8⟩] []⟩, [1, 2, 3, 7, 8]⟩, ⟨⟨none, .no⟩, []⟩, ⟨⟨none, .no⟩, [10]⟩, ⟨⟨none, .no⟩, [1, 2, 3, 7, 8, 9, 10, 11]⟩, ⟨⟨none, .no⟩, [1, 2, 3, 7, 8, 9, 10, 11, 12]⟩, ⟨⟨none, .no⟩, []⟩, ⟨⟨none, .no⟩, []⟩, ⟨⟨none, .no⟩, [14, 15]⟩, ⟨⟨none, .no⟩, [14, 15, 16]⟩, ⟨⟨none, .call [.imm (.st (.pair (.int .i64) (.pair (.int .i64) (.pair (.sl (.flt .f32)) (.pair (.sl (.flt .f32)) (.sl (.flt .f32))))))), .imm (.sl (.flt .f32)), .imm (.sl (.flt .f32)), .imm (.int .i64)] [⟨true, (.sl (.flt .f32)), y12.1⟩, ⟨false, .bool, y12.2⟩] []⟩, [0, 1, 2, 3, 4, 5, 6, 7, 8, 9, 10, 11, 12, 13, 14, 15, 16, 17]⟩, ⟨⟨none, .no⟩, [0, 1, 2, 3, 4, 5, 6, 7, 8, 9, 10, 11, 12, 13, 14, 15, 16, 17, 18]⟩, ⟨⟨none, .no⟩, [0, 1, 2, 3, 4, 5, 6, 7, 8, 9, 10, 11, 12, 13, 14, 15, 16, 17, 18]⟩] [[0, 1, 2, 3, 4, 5, 6, 7, 8, 9, 10, 11, 12, 13, 14, 15, 16, 17, 18, 19, 20], [0, 1, 2, 3, 4, 5, 6, 7, 8, 9, 10, 11, 12, 13, 14, 15, 16, 17, 18, 19, 20, 21]] [⟨none, .no⟩, ⟨none, .no⟩] ⟨[(6, .one (.all 1)), (7, .one (.dat .bool y12.2))], [(1, .seq (.flt .f32) y12.1), (0, .box [.dat (.int .i64) a0.1, .dat (.int .i64) a0.2.1, .dat (.sl (.flt .f32)) a0.2.2.1, .dat (.sl (.flt .f32)) a0.2.2.2.1, .dat (.sl (.flt .f32)) a0.2.2.2.2])], 2⟩ hP hN (by kernel_rfl) (by kernel_rfl) (allCons (f56_ok hc6) (allCons hg7 (allCons (f50_ok hc9) (allCons hg10 (allCons hg11 (allCons (f58_ok hc13) allNil)))))) ?_
      have hr := of_some hr
      subst hr
      exact HT.ret ⟨[.one (.all 1), .one (.dat .bool y12.2)], [1], [], by kernel_rfl, by kernel_rfl, rfl, by kernel_rfl, by kernel_rfl, trivial⟩
  · obtain ⟨y14, hc15, hT3⟩ := of_bind hT3
    rcases of_bif hT3 with ⟨hb16, hT3⟩ | ⟨hb16, hT3⟩
    · refine HT.reg (rs := [⟨none, .no⟩, ⟨none, .no⟩, ⟨none, .call [.imm (.st (.pair (.int .i64) (.pair (.int .i64) (.pair (.sl (.flt .f32)) (.pair (.sl (.flt .f32)) (.sl (.flt .f32))))))), .imm (.sl (.int .i64))] [⟨false, .bool, y14⟩] []⟩, ⟨none, .no⟩, ⟨none, .no⟩, ⟨some true, .no⟩, ⟨some true, .no⟩, ⟨some true, .no⟩, ⟨some true, .no⟩, ⟨some true, .no⟩, ⟨some true, .no⟩, ⟨none, .tv true⟩]) (st' := ⟨[(19, .one (.dat .bool true)), (18, .und), (17, .und), (16, .und), (15, .und), (14, .und), (13, .und), (12, .one (.dat .bool (!y14))), (11, .one (.dat .bool (!y14))), (10, .one (.dat .bool y14)), (9, .one (.dat (.sl (.int .i64)) a1)), (8, .agg [.dat (.int .i64) a0.1, .dat (.int .i64) a0.2.1, .dat (.sl (.flt .f32)) a0.2.2.1, .dat (.sl (.flt .f32)) a0.2.2.2.1, .dat (.sl (.flt .f32)) a0.2.2.2.2]), (1, .one (.dat (.sl (.int .i64)) a1)), (2, .one (.dat (.int .i64) a2)), (3, .one (.ptr 0 0))], [(0, .box [.dat (.int .i64) a0.1, .dat (.int .i64) a0.2.1, .dat (.sl (.flt .f32)) a0.2.2.1, .dat (.sl (.flt .f32)) a0.2.2.2.1, .dat (.sl (.flt .f32)) a0.2.2.2.2])], 1⟩) hP hN (by kernel_rfl) (allCons (f47_ok hc15) (allCons hb16 (allCons hb16 (allCons hb16 (allCons hb16 (allCons hb16 (allCons hb16 (allCons hb16 allNil)))))))) (qThen ?_)
      exact (Le.cv (s := ⟨[(0, 0)], [], [], false⟩) (own := []) (ps := [a1 = a1, a2 = a2, true = true, a0.1 = a0.1, a0.2.1 = a0.2.1, a0.2.2.1 = a0.2.2.1, a0.2.2.2.1 = a0.2.2.2.1, a0.2.2.2.2 = a0.2.2.2.2]) (st' := ⟨[(1, .one (.dat (.sl (.int .i64)) a1)), (2, .one (.dat (.int .i64) a2)), (3, .one (.ptr 0 0)), (19, .one (.dat .bool true))], [(0, .box [.dat (.int .i64) a0.1, .dat (.int .i64) a0.2.1, .dat (.sl (.flt .f32)) a0.2.2.1, .dat (.sl (.flt .f32)) a0.2.2.2.1, .dat (.sl (.flt .f32)) a0.2.2.2.2])], 1⟩) hO (fun h => by cases h) (by kernel_rfl) ⟨rfl, rfl, rfl, rfl, rfl, rfl, rfl, rfl, trivial⟩).ht (cont true (of_some hT3))
    · obtain ⟨y17, hc18, hT3⟩ := of_bind hT3
      refine HT.reg (rs := [⟨none, .no⟩, ⟨none, .no⟩, ⟨none, .call [.imm (.st (.pair (.int .i64) (.pair (.int .i64) (.pair (.sl (.flt .f32)) (.pair (.sl (.flt .f32)) (.sl (.flt .f32))))))), .imm (.sl (.int .i64))] [⟨false, .bool, y14⟩] []⟩, ⟨none, .no⟩, ⟨none, .no⟩, ⟨some false, .no⟩, ⟨some false, .no⟩, ⟨some false, .no⟩, ⟨some false, .no⟩, ⟨some false, .call [.imm (.int .i64), .imm (.int .i64), .imm (.int .i64)] [⟨false, .bool, y17⟩] []⟩, ⟨some false, .no⟩, ⟨none, .tv false⟩]) (st' := ⟨[(19, .one (.dat .bool (!y17))), (18, .one (.dat .bool (!y17))), (17, .one (.dat .bool y17)), (16, .one (.dat (.int .i64) (wsub .i64 (lenI a1) (1 : Int)))), (15, .one (.dat (.int .i64) (lenI a1))), (14, .one (.dat (.sl (.int .i64)) a1)), (13, .one (.dat (.int .i64) a2)), (12, .one (.dat .bool (!y14))), (11, .one (.dat .bool (!y14))), (10, .one (.dat .bool y14)), (9, .one (.dat (.sl (.int .i64)) a1)), (8, .agg [.dat (.int .i64) a0.1, .dat (.int .i64) a0.2.1, .dat (.sl (.flt .f32)) a0.2.2.1, .dat (.sl (.flt .f32)) a0.2.2.2.1, .dat (.sl (.flt .f32)) a0.2.2.2.2]), (1, .one (.dat (.sl (.int .i64)) a1)), (2, .one (.dat (.int .i64) a2)), (3, .one (.ptr 0 0))], [(0, .box [.dat (.int .i64) a0.1, .dat (.int .i64) a0.2.1, .dat (.sl (.flt .f32)) a0.2.2.1, .dat (.sl (.flt .f32)) a0.2.2.2.1, .dat (.sl (.flt .f32)) a0.2.2.2.2])], 1⟩) hP hN (by kernel_rfl) (allCons (f47_ok hc15) (allCons hb16 (allCons hb16 (allCons hb16 (allCons hb16 (allCons hb16 (allCons (f54_ok hc18) (allCons hb16 (allCons hb16 allNil))))))))) (qThen ?_)
      exact (Le.cv (s := ⟨[(0, 0)], [], [], false⟩) (own := []) (ps := [a1 = a1, a2 = a2, (!y17) = (!y17), a0.1 = a0.1, a0.2.1 = a0.2.1, a0.2.2.1 = a0.2.2.1, a0.2.2.2.1 = a0.2.2.2.1, a0.2.2.2.2 = a0.2.2.2.2]) (st' := ⟨[(1, .one (.dat (.sl (.int .i64)) a1)), (2, .one (.dat (.int .i64) a2)), (3, .one (.ptr 0 0)), (19, .one (.dat .bool (!y17)))], [(0, .box [.dat (.int .i64) a0.1, .dat (.int .i64) a0.2.1, .dat (.sl (.flt .f32)) a0.2.2.1, .dat (.sl (.flt .f32)) a0.2.2.2.1, .dat (.sl (.flt .f32)) a0.2.2.2.2])], 1⟩) hO (fun h => by cases h) (by kernel_rfl) ⟨rfl, rfl, rfl, rfl, rfl, rfl, rfl, rfl, trivial⟩).ht (cont (!y17) (of_some hT3))

noncomputable def laws_sameFloat (a0 : Nat) (a1 : Nat) : Option (Bool) :=
  (show Option (Bool) from
    bif (!(feq .f64 a0 a0)) then
      some true
    else
      some (!(feq .f64 a1 a1))).bind fun v1 =>
  bif v1 then
    (show Option (Bool) from
      bif (!(feq .f64 a0 a0)) then
        some (!(feq .f64 a1 a1))
      else
        some false).bind fun v5 =>
    some v5
  else
    (show Option (Bool) from
      bif (feq .f64 a0 (0 : Nat)) then
        some (feq .f64 a1 (0 : Nat))
      else
        some false).bind fun v9 =>
    bif v9 then
      some ((fgt .f64 (fop .quo .f64 (4607182418800017408 : Nat) a0) (0 : Nat)) == (fgt .f64 (fop .quo .f64 (4607182418800017408 : Nat) a1) (0 : Nat)))
    else
      some (feq .f64 a0 a1)

theorem f51_ok {a0 : Nat} {a1 : Nat} {r : Bool} (hr : laws_sameFloat a0 a1 = some r) : CallOK Try.prog 51 [.imm (.flt .f64) a0, .imm (.flt .f64) a1] [⟨false, .bool, r⟩] [] := by
  unfold laws_sameFloat at hr
  refine CallOK.of_body (ts := [(false, .bool)]) Try.func51 rfl (by kernel_rfl) (Nat.le_of_ble_eq_true (by kernel_rfl)) fun cx hP hN hO hF => ?_
  have hO : cx.own.map Prod.fst = [] := hO
  have hF := hF rfl
  show HT cx ⟨[(0, .one (.dat (.flt .f64) a0)), (1, .one (.dat (.flt .f64) a1))], [], 0⟩ _ _
  refine HT.reg1 [0, 1] [⟨none, .no⟩] ⟨[(0, .one (.dat (.flt .f64) a0)), (1, .one (.dat (.flt .f64) a1))], [], 0⟩ hP hN (by kernel_rfl) allNil ?_
  refine HT.seq ?_
  obtain ⟨v1', hT3, hr⟩ := of_bind hr
  refine HT.join (fun (v1 : Bool) => ⟨[(0, .one (.dat (.flt .f64) a0)), (1, .one (.dat (.flt .f64) a1)), (12, .one (.dat .bool v1))], [], 0⟩) (fun v => v = v1') (fun v1 hv2 => ?_) (fun cont => ?_)
  · subst hv2
    rcases of_bif hr with ⟨hb4, hr⟩ | ⟨hb4, hr⟩
    · refine HT.cond1 rfl hb4 ?_
      obtain ⟨v5', hT7, hr⟩ := of_bind hr
      refine HT.join (fun (v5 : Bool) => ⟨[(4, .one (.dat .bool v5))], [], 0⟩) (fun v => v = v5') (fun v5 hv6 => ?_) (fun cont => ?_)
      · subst hv6
        have hr := of_some hr
        subst hr
        exact HT.ret (qThenR ⟨[.one (.dat .bool v5)], [], [], by kernel_rfl, by kernel_rfl, rfl, by kernel_rfl, by kernel_rfl, trivial⟩)
      · rcases of_bif hT7 with ⟨hb8, hT7⟩ | ⟨hb8, hT7⟩
        · refine HT.reg (rs := [⟨none, .no⟩, ⟨none, .no⟩, ⟨none, .no⟩, ⟨none, .no⟩, ⟨some true, .no⟩, ⟨some true, .no⟩, ⟨some true, .no⟩, ⟨none, .tv true⟩, ⟨none, .no⟩]) (st' := ⟨[(4, .one (.dat .bool (!(feq .f64 a1 a1)))), (20, .one (.dat .bool (!(feq .f64 a1 a1)))), (19, .one (.dat .bool (!(feq .f64 a1 a1)))), (18, .one (.dat (.flt .f64) a1)), (17, .one (.dat (.flt .f64) a1)), (16, .one (.dat .bool (!(feq .f64 a0 a0)))), (15, .one (.dat .bool (!(feq .f64 a0 a0)))), (14, .one (.dat (.flt .f64) a0)), (13, .one (.dat (.flt .f64) a0)), (0, .one (.dat (.flt .f64) a0)), (1, .one (.dat (.flt .f64) a1)), (12, .one (.dat .bool v1))], [], 0⟩) hP hN (by kernel_rfl) (allCons hb8 (allCons hb8 (allCons hb8 (allCons hb8 allNil)))) (qThen ?_)
          exact (Le.cv (s := ⟨[], [], [], false⟩) (own := []) (ps := [(!(feq .f64 a1 a1)) = (!(feq .f64 a1 a1))]) (st' := ⟨[(4, .one (.dat .bool (!(feq .f64 a1 a1))))], [], 0⟩) hO (fun h => by cases h) (by kernel_rfl) ⟨rfl, trivial⟩).ht (cont (!(feq .f64 a1 a1)) (of_some hT7))
        · refine HT.reg (rs := [⟨none, .no⟩, ⟨none, .no⟩, ⟨none, .no⟩, ⟨none, .no⟩, ⟨some false, .no⟩, ⟨some false, .no⟩, ⟨some false, .no⟩, ⟨none, .tv false⟩, ⟨none, .no⟩]) (st' := ⟨[(4, .one (.dat .bool false)), (20, .one (.dat .bool false)), (19, .und), (18, .und), (17, .und), (16, .one (.dat .bool (!(feq .f64 a0 a0)))), (15, .one (.dat .bool (!(feq .f64 a0 a0)))), (14, .one (.dat (.flt .f64) a0)), (13, .one (.dat (.flt .f64) a0)), (0, .one (.dat (.flt .f64) a0)), (1, .one (.dat (.flt .f64) a1)), (12, .one (.dat .bool v1))], [], 0⟩) hP hN (by kernel_rfl) (allCons hb8 (allCons hb8 (allCons hb8 (allCons hb8 allNil)))) (qThen ?_)
          exact (Le.cv (s := ⟨[], [], [], false⟩) (own := []) (ps := [false = false]) (st' := ⟨[(4, .one (.dat .bool false))], [], 0⟩) hO (fun h => by cases h) (by kernel_rfl) ⟨rfl, trivial⟩).ht (cont false (of_some hT7))
    · refine HT.cond0 rfl hb4 ?_
      refine HT.skip (qThen ?_)
      refine HT.seq ?_
      obtain ⟨v9', hT11, hr⟩ := of_bind hr
      refine HT.join (fun (v9 : Bool) => ⟨[(0, .one (.dat (.flt .f64) a0)), (1, .one (.dat (.flt .f64) a1)), (26, .one (.dat .bool v9))], [], 0⟩) (fun v => v = v9') (fun v9 hv10 => ?_) (fun cont => ?_)
      · subst hv10
        rcases of_bif hr with ⟨hb12, hr⟩ | ⟨hb12, hr⟩
        · refine HT.cond1 rfl hb12 ?_
          refine HT.reg1 [4] [⟨none, .no⟩, ⟨none, .no⟩, ⟨none, .no⟩, ⟨none, .no⟩, ⟨none, .no⟩, ⟨none, .no⟩, ⟨none, .no⟩, ⟨none, .no⟩] ⟨[(4, .one (.dat .bool ((fgt .f64 (fop .quo .f64 (4607182418800017408 : Nat) a0) (0 : Nat)) == (fgt .f64 (fop .quo .f64 (4607182418800017408 : Nat) a1) (0 : Nat)))))], [], 0⟩ hP hN (by kernel_rfl) allNil ?_
          have hr := of_some hr
          subst hr
          exact HT.ret (qThenR ⟨[.one (.dat .bool ((fgt .f64 (fop .quo .f64 (4607182418800017408 : Nat) a0) (0 : Nat)) == (fgt .f64 (fop .quo .f64 (4607182418800017408 : Nat) a1) (0 : Nat))))], [], [], by kernel_rfl, by kernel_rfl, rfl, by kernel_rfl, by kernel_rfl, trivial⟩)
        · refine HT.cond0 rfl hb12 ?_
          refine HT.skip (qThen ?_)
          refine HT.reg1 [4] [⟨none, .no⟩, ⟨none, .no⟩, ⟨none, .no⟩, ⟨none, .no⟩] ⟨[(4, .one (.dat .bool (feq .f64 a0 a1)))], [], 0⟩ hP hN (by kernel_rfl) allNil ?_
          have hr := of_some hr
          subst hr
          exact HT.ret ⟨[.one (.dat .bool (feq .f64 a0 a1))], [], [], by kernel_rfl, by kernel_rfl, rfl, by kernel_rfl, by kernel_rfl, trivial⟩
      · rcases of_bif hT11 with ⟨hb13, hT11⟩ | ⟨hb13, hT11⟩
        · refine HT.reg (rs := [⟨none, .no⟩, ⟨none, .no⟩, ⟨none, .no⟩, ⟨some true, .no⟩, ⟨some true, .no⟩, ⟨none, .tv true⟩]) (st' := ⟨[(26, .one (.dat .bool (feq .f64 a1 (0 : Nat)))), (25, .one (.dat .bool (feq .f64 a1 (0 : Nat)))), (24, .one (.dat (.flt .f64) a1)), (23, .one (.dat .bool (feq .f64 a0 (0 : Nat)))), (22, .one (.dat .bool (feq .f64 a0 (0 : Nat)))), (21, .one (.dat (.flt .f64) a0)), (0, .one (.dat (.flt .f64) a0)), (1, .one (.dat (.flt .f64) a1)), (12, .one (.dat .bool v1))], [], 0⟩) hP hN (by kernel_rfl) (allCons hb13 (allCons hb13 (allCons hb13 allNil))) (qThen ?_)
          exact (Le.cv (s := ⟨[], [], [], false⟩) (own := []) (ps := [a0 = a0, a1 = a1, (feq .f64 a1 (0 : Nat)) = (feq .f64 a1 (0 : Nat))]) (st' := ⟨[(0, .one (.dat (.flt .f64) a0)), (1, .one (.dat (.flt .f64) a1)), (26, .one (.dat .bool (feq .f64 a1 (0 : Nat))))], [], 0⟩) hO (fun h => by cases h) (by kernel_rfl) ⟨rfl, rfl, rfl, trivial⟩).ht (cont (feq .f64 a1 (0 : Nat)) (of_some hT11))
        · refine HT.reg (rs := [⟨none, .no⟩, ⟨none, .no⟩, ⟨none, .no⟩, ⟨some false, .no⟩, ⟨some false, .no⟩, ⟨none, .tv false⟩]) (st' := ⟨[(26, .one (.dat .bool false)), (25, .und), (24, .und), (23, .one (.dat .bool (feq .f64 a0 (0 : Nat)))), (22, .one (.dat .bool (feq .f64 a0 (0 : Nat)))), (21, .one (.dat (.flt .f64) a0)), (0, .one (.dat (.flt .f64) a0)), (1, .one (.dat (.flt .f64) a1)), (12, .one (.dat .bool v1))], [], 0⟩) hP hN (by kernel_rfl) (allCons hb13 (allCons hb13 (allCons hb13 allNil))) (qThen ?_)
          exact (Le.cv (s := ⟨[], [], [], false⟩) (own := []) (ps := [a0 = a0, a1 = a1, false = false]) (st' := ⟨[(0, .one (.dat (.flt .f64) a0)), (1, .one (.dat (.flt .f64) a1)), (26, .one (.dat .bool false))], [], 0⟩) hO (fun h => by cases h) (by kernel_rfl) ⟨rfl, rfl, rfl, trivial⟩).ht (cont false (of_some hT11))
  · rcases of_bif hT3 with ⟨hb14, hT3⟩ | ⟨hb14, hT3⟩
    · refine HT.reg (rs := [⟨none, .no⟩, ⟨none, .no⟩, ⟨none, .no⟩, ⟨none, .no⟩, ⟨some true, .no⟩, ⟨some true, .no⟩, ⟨some true, .no⟩, ⟨none, .tv true⟩]) (st' := ⟨[(12, .one (.dat .bool true)), (11, .und), (10, .und), (9, .und), (8, .one (.dat .bool (!(feq .f64 a0 a0)))), (7, .one (.dat .bool (!(feq .f64 a0 a0)))), (6, .one (.dat (.flt .f64) a0)), (5, .one (.dat (.flt .f64) a0)), (0, .one (.dat (.flt .f64) a0)), (1, .one (.dat (.flt .f64) a1))], [], 0⟩) hP hN (by kernel_rfl) (allCons hb14 (allCons hb14 (allCons hb14 (allCons hb14 allNil)))) (qThen ?_)
      exact (Le.cv (s := ⟨[], [], [], false⟩) (own := []) (ps := [a0 = a0, a1 = a1, true = true]) (st' := ⟨[(0, .one (.dat (.flt .f64) a0)), (1, .one (.dat (.flt .f64) a1)), (12, .one (.dat .bool true))], [], 0⟩) hO (fun h => by cases h) (by kernel_rfl) ⟨rfl, rfl, rfl, trivial⟩).ht (cont true (of_some hT3))
    · refine HT.reg (rs := [⟨none, .no⟩, ⟨none, .no⟩, ⟨none, .no⟩, ⟨none, .no⟩, ⟨some false, .no⟩, ⟨some false, .no⟩, ⟨some false, .no⟩, ⟨none, .tv false⟩]) (st' := ⟨[(12, .one (.dat .bool (!(feq .f64 a1 a1)))), (11, .one (.dat .bool (!(feq .f64 a1 a1)))), (10, .one (.dat (.flt .f64) a1)), (9, .one (.dat (.flt .f64) a1)), (8, .one (.dat .bool (!(feq .f64 a0 a0)))), (7, .one (.dat .bool (!(feq .f64 a0 a0)))), (6, .one (.dat (.flt .f64) a0)), (5, .one (.dat (.flt .f64) a0)), (0, .one (.dat (.flt .f64) a0)), (1, .one (.dat (.flt .f64) a1))], [], 0⟩) hP hN (by kernel_rfl) (allCons hb14 (allCons hb14 (allCons hb14 (allCons hb14 allNil)))) (qThen ?_)
      exact (Le.cv (s := ⟨[], [], [], false⟩) (own := []) (ps := [a0 = a0, a1 = a1, (!(feq .f64 a1 a1)) = (!(feq .f64 a1 a1))]) (st' := ⟨[(0, .one (.dat (.flt .f64) a0)), (1, .one (.dat (.flt .f64) a1)), (12, .one (.dat .bool (!(feq .f64 a1 a1))))], [], 0⟩) hO (fun h => by cases h) (by kernel_rfl) ⟨rfl, rfl, rfl, trivial⟩).ht (cont (!(feq .f64 a1 a1)) (of_some hT3))

end Go.Proofs
