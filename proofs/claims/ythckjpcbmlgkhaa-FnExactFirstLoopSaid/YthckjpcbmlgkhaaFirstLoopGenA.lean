import Derived.Test.YthckjpcbmlgkhaaLibC
import Derived.Test.YthckjpcbmlgkhaaProg
set_option linter.unusedVariables false
set_option linter.unusedSimpArgs false
set_option linter.unusedSectionVars false
/-
  Functions as plain functions, and their contracts. Printed by a program.
-/
namespace Go.Proofs
open Go.Ide

noncomputable def laws_szInt64S (a0 : List Int) (a1 : Int) : Option (Int) :=
  bif (decide ((wsub .i64 a1 (lenI a0)) < (0 : Int))) then
    some (-1 : Int)
  else
    some (wsub .i64 a1 (lenI a0))

theorem f74_ok {a0 : List Int} {a1 : Int} {r : Int} (hr : laws_szInt64S a0 a1 = some r) : CallOK Try.prog 74 [.imm (.sl (.int .i64)) a0, .imm (.int .i64) a1] [⟨false, (.int .i64), r⟩] [] := by
  unfold laws_szInt64S at hr
  refine CallOK.of_body (ts := [(false, (.int .i64))]) Try.func74 rfl (by kernel_rfl) (Nat.le_of_ble_eq_true (by kernel_rfl)) fun cx hP hN hO hF => ?_
  have hO : cx.own.map Prod.fst = [] := hO
  have hF := hF rfl
  show HT cx ⟨[(0, .one (.dat (.sl (.int .i64)) a0)), (1, .one (.dat (.int .i64) a1))], [], 0⟩ _ _
  refine HT.reg1 [0, 1] [⟨none, .no⟩] ⟨[(0, .one (.dat (.sl (.int .i64)) a0)), (1, .one (.dat (.int .i64) a1))], [], 0⟩ hP hN (by kernel_rfl) allNil ?_
  refine HT.reg1 [1] [⟨none, .no⟩, ⟨none, .no⟩, ⟨none, .no⟩, ⟨none, .no⟩, ⟨none, .no⟩] ⟨[(1, .one (.dat (.int .i64) (wsub .i64 a1 (lenI a0))))], [], 0⟩ hP hN (by kernel_rfl) allNil ?_
  refine HT.seq ?_
  refine HT.reg1 [1, 10] [⟨none, .no⟩, ⟨none, .no⟩] ⟨[(1, .one (.dat (.int .i64) (wsub .i64 a1 (lenI a0)))), (10, .one (.dat .bool (decide ((wsub .i64 a1 (lenI a0)) < (0 : Int)))))], [], 0⟩ hP hN (by kernel_rfl) allNil ?_
  rcases of_bif hr with ⟨hb1, hr⟩ | ⟨hb1, hr⟩
  · refine HT.cond1 rfl hb1 ?_
    refine HT.reg1 [4] [⟨none, .no⟩] ⟨[(4, .one (.dat (.int .i64) (-1 : Int)))], [], 0⟩ hP hN (by kernel_rfl) allNil ?_
    have hr := of_some hr
    subst hr
    exact HT.ret (qThenR ⟨[.one (.dat (.int .i64) (-1 : Int))], [], [], by kernel_rfl, by kernel_rfl, rfl, by kernel_rfl, by kernel_rfl, trivial⟩)
  · refine HT.cond0 rfl hb1 ?_
    refine HT.skip (qThen ?_)
    refine HT.reg1 [4] [⟨none, .no⟩, ⟨none, .no⟩] ⟨[(4, .one (.dat (.int .i64) (wsub .i64 a1 (lenI a0))))], [], 0⟩ hP hN (by kernel_rfl) allNil ?_
    have hr := of_some hr
    subst hr
    exact HT.ret ⟨[.one (.dat (.int .i64) (wsub .i64 a1 (lenI a0)))], [], [], by kernel_rfl, by kernel_rfl, rfl, by kernel_rfl, by kernel_rfl, trivial⟩

noncomputable def laws_szBoolS (a0 : List Bool) (a1 : Int) : Option (Int) :=
  bif (decide ((wsub .i64 a1 (lenI a0)) < (0 : Int))) then
    some (-1 : Int)
  else
    some (wsub .i64 a1 (lenI a0))

theorem f75_ok {a0 : List Bool} {a1 : Int} {r : Int} (hr : laws_szBoolS a0 a1 = some r) : CallOK Try.prog 75 [.imm (.sl .bool) a0, .imm (.int .i64) a1] [⟨false, (.int .i64), r⟩] [] := by
  unfold laws_szBoolS at hr
  refine CallOK.of_body (ts := [(false, (.int .i64))]) Try.func75 rfl (by kernel_rfl) (Nat.le_of_ble_eq_true (by kernel_rfl)) fun cx hP hN hO hF => ?_
  have hO : cx.own.map Prod.fst = [] := hO
  have hF := hF rfl
  show HT cx ⟨[(0, .one (.dat (.sl .bool) a0)), (1, .one (.dat (.int .i64) a1))], [], 0⟩ _ _
  refine HT.reg1 [0, 1] [⟨none, .no⟩] ⟨[(0, .one (.dat (.sl .bool) a0)), (1, .one (.dat (.int .i64) a1))], [], 0⟩ hP hN (by kernel_rfl) allNil ?_
  refine HT.reg1 [1] [⟨none, .no⟩, ⟨none, .no⟩, ⟨none, .no⟩, ⟨none, .no⟩, ⟨none, .no⟩] ⟨[(1, .one (.dat (.int .i64) (wsub .i64 a1 (lenI a0))))], [], 0⟩ hP hN (by kernel_rfl) allNil ?_
  refine HT.seq ?_
  refine HT.reg1 [1, 10] [⟨none, .no⟩, ⟨none, .no⟩] ⟨[(1, .one (.dat (.int .i64) (wsub .i64 a1 (lenI a0)))), (10, .one (.dat .bool (decide ((wsub .i64 a1 (lenI a0)) < (0 : Int)))))], [], 0⟩ hP hN (by kernel_rfl) allNil ?_
  rcases of_bif hr with ⟨hb1, hr⟩ | ⟨hb1, hr⟩
  · refine HT.cond1 rfl hb1 ?_
    refine HT.reg1 [4] [⟨none, .no⟩] ⟨[(4, .one (.dat (.int .i64) (-1 : Int)))], [], 0⟩ hP hN (by kernel_rfl) allNil ?_
    have hr := of_some hr
    subst hr
    exact HT.ret (qThenR ⟨[.one (.dat (.int .i64) (-1 : Int))], [], [], by kernel_rfl, by kernel_rfl, rfl, by kernel_rfl, by kernel_rfl, trivial⟩)
  · refine HT.cond0 rfl hb1 ?_
    refine HT.skip (qThen ?_)
    refine HT.reg1 [4] [⟨none, .no⟩, ⟨none, .no⟩] ⟨[(4, .one (.dat (.int .i64) (wsub .i64 a1 (lenI a0))))], [], 0⟩ hP hN (by kernel_rfl) allNil ?_
    have hr := of_some hr
    subst hr
    exact HT.ret ⟨[.one (.dat (.int .i64) (wsub .i64 a1 (lenI a0)))], [], [], by kernel_rfl, by kernel_rfl, rfl, by kernel_rfl, by kernel_rfl, trivial⟩

noncomputable def laws_szPlain (a0 : Int × Int × List Int × List Bool) (a1 : Int) : Option (Int) :=
  (laws_szInt64S a0.2.2.1 a1).bind fun y1 =>
  bif (decide (y1 < (0 : Int))) then
    some (-1 : Int)
  else
    (laws_szBoolS a0.2.2.2 y1).bind fun y4 =>
    bif (decide (y4 < (0 : Int))) then
      some (-1 : Int)
    else
      some y4

theorem f21_ok {a0 : Int × Int × List Int × List Bool} {a1 : Int} {r : Int} (hr : laws_szPlain a0 a1 = some r) : CallOK Try.prog 21 [.imm (.st (.pair (.int .i64) (.pair (.int .i64) (.pair (.sl (.int .i64)) (.sl .bool))))) a0, .imm (.int .i64) a1] [⟨false, (.int .i64), r⟩] [] := by
  unfold laws_szPlain at hr
  refine CallOK.of_body (ts := [(false, (.int .i64))]) Try.func21 rfl (by kernel_rfl) (Nat.le_of_ble_eq_true (by kernel_rfl)) fun cx hP hN hO hF => ?_
  have hO : cx.own.map Prod.fst = [] := hO
  have hF := hF rfl
  show HT cx ⟨[(0, .agg [.dat (.int .i64) a0.1, .dat (.int .i64) a0.2.1, .dat (.sl (.int .i64)) a0.2.2.1, .dat (.sl .bool) a0.2.2.2]), (1, .one (.dat (.int .i64) a1))], [], 0⟩ _ _
  refine HT.reg1 [1, 2] [⟨none, .no⟩, ⟨none, .no⟩] ⟨[(1, .one (.dat (.int .i64) a1)), (2, .one (.ptr 0 0))], [(0, .box [.dat (.int .i64) a0.1, .dat (.int .i64) a0.2.1, .dat (.sl (.int .i64)) a0.2.2.1, .dat (.sl .bool) a0.2.2.2])], 1⟩ hP hN (by kernel_rfl) allNil ?_
  obtain ⟨y1, hc2, hr⟩ := of_bind hr
  refine HT.reg1 [1, 2] [⟨none, .no⟩, ⟨none, .no⟩, ⟨none, .no⟩, ⟨none, .call [.imm (.sl (.int .i64)), .imm (.int .i64)] [⟨false, (.int .i64), y1⟩] []⟩, ⟨none, .no⟩] ⟨[(1, .one (.dat (.int .i64) y1)), (2, .one (.ptr 0 0))], [(0, .box [.dat (.int .i64) a0.1, .dat (.int .i64) a0.2.1, .dat (.sl (.int .i64)) a0.2.2.1, .dat (.sl .bool) a0.2.2.2])], 1⟩ hP hN (by kernel_rfl) (allCons (f74_ok hc2) allNil) ?_
  refine HT.seq ?_
  refine HT.reg1 [1, 2, 10] [⟨none, .no⟩, ⟨none, .no⟩] ⟨[(1, .one (.dat (.int .i64) y1)), (2, .one (.ptr 0 0)), (10, .one (.dat .bool (decide (y1 < (0 : Int)))))], [(0, .box [.dat (.int .i64) a0.1, .dat (.int .i64) a0.2.1, .dat (.sl (.int .i64)) a0.2.2.1, .dat (.sl .bool) a0.2.2.2])], 1⟩ hP hN (by kernel_rfl) allNil ?_
  rcases of_bif hr with ⟨hb3, hr⟩ | ⟨hb3, hr⟩
  · refine HT.cond1 rfl hb3 ?_
    refine HT.reg1 [4] [⟨none, .no⟩] ⟨[(4, .one (.dat (.int .i64) (-1 : Int)))], [(0, .box [.dat (.int .i64) a0.1, .dat (.int .i64) a0.2.1, .dat (.sl (.int .i64)) a0.2.2.1, .dat (.sl .bool) a0.2.2.2])], 1⟩ hP hN (by kernel_rfl) allNil ?_
    have hr := of_some hr
    subst hr
    exact HT.ret (qThenR ⟨[.one (.dat (.int .i64) (-1 : Int))], [], [], by kernel_rfl, by kernel_rfl, rfl, by kernel_rfl, by kernel_rfl, trivial⟩)
  · refine HT.cond0 rfl hb3 ?_
    refine HT.skip (qThen ?_)
    obtain ⟨y4, hc5, hr⟩ := of_bind hr
    refine HT.reg1 [1] [⟨none, .no⟩, ⟨none, .no⟩, ⟨none, .no⟩, ⟨none, .call [.imm (.sl .bool), .imm (.int .i64)] [⟨false, (.int .i64), y4⟩] []⟩, ⟨none, .no⟩] ⟨[(1, .one (.dat (.int .i64) y4))], [(0, .box [.dat (.int .i64) a0.1, .dat (.int .i64) a0.2.1, .dat (.sl (.int .i64)) a0.2.2.1, .dat (.sl .bool) a0.2.2.2])], 1⟩ hP hN (by kernel_rfl) (allCons (f75_ok hc5) allNil) ?_
    refine HT.seq ?_
    refine HT.reg1 [1, 16] [⟨none, .no⟩, ⟨none, .no⟩] ⟨[(1, .one (.dat (.int .i64) y4)), (16, .one (.dat .bool (decide (y4 < (0 : Int)))))], [(0, .box [.dat (.int .i64) a0.1, .dat (.int .i64) a0.2.1, .dat (.sl (.int .i64)) a0.2.2.1, .dat (.sl .bool) a0.2.2.2])], 1⟩ hP hN (by kernel_rfl) allNil ?_
    rcases of_bif hr with ⟨hb6, hr⟩ | ⟨hb6, hr⟩
    · refine HT.cond1 rfl hb6 ?_
      refine HT.reg1 [4] [⟨none, .no⟩] ⟨[(4, .one (.dat (.int .i64) (-1 : Int)))], [(0, .box [.dat (.int .i64) a0.1, .dat (.int .i64) a0.2.1, .dat (.sl (.int .i64)) a0.2.2.1, .dat (.sl .bool) a0.2.2.2])], 1⟩ hP hN (by kernel_rfl) allNil ?_
      have hr := of_some hr
      subst hr
      exact HT.ret (qThenR ⟨[.one (.dat (.int .i64) (-1 : Int))], [], [], by kernel_rfl, by kernel_rfl, rfl, by kernel_rfl, by kernel_rfl, trivial⟩)
    · refine HT.cond0 rfl hb6 ?_
      refine HT.skip (qThen ?_)
      refine HT.reg1 [4] [⟨none, .no⟩, ⟨none, .no⟩] ⟨[(4, .one (.dat (.int .i64) y4))], [(0, .box [.dat (.int .i64) a0.1, .dat (.int .i64) a0.2.1, .dat (.sl (.int .i64)) a0.2.2.1, .dat (.sl .bool) a0.2.2.2])], 1⟩ hP hN (by kernel_rfl) allNil ?_
      have hr := of_some hr
      subst hr
      exact HT.ret ⟨[.one (.dat (.int .i64) y4)], [], [], by kernel_rfl, by kernel_rfl, rfl, by kernel_rfl, by kernel_rfl, trivial⟩

noncomputable def laws_toInt64S_B1 (a0 : List Int) (s2 : Int × List Int) : Option ((Int × List Int) ⊕ (List Int)) :=
  bif (decide (s2.1 < (lenI a0))) then
    guardP ((0 : Int) ≤ s2.1 ∧ s2.1 < lenI a0) (
      guardP ((0 : Int) ≤ s2.1 ∧ s2.1 < lenI s2.2) (
        some (.inl ((wadd .i64 s2.1 (1 : Int)), (List.set s2.2 (Int.toNat s2.1) (List.getD a0 (Int.toNat s2.1) (0 : Int)))))))
  else
    some (.inr s2.2)

noncomputable def laws_toInt64S (a0 : List Int) : Option (List Int) :=
  guardP ((0 : Int) ≤ (lenI a0) ∧ (lenI a0) ≤ 4294967296) (
    (rounds (laws_toInt64S_B1 a0) ((0 : Int), (List.replicate (Int.toNat (lenI a0)) (0 : Int)))).bind fun r4 =>
    some r4)

theorem f31_ok {a0 : List Int} {r : List Int} (hr : laws_toInt64S a0 = some r) : CallOK Try.prog 31 [.imm (.sl (.int .i64)) a0] [⟨true, (.sl (.int .i64)), r⟩] [] := by
  unfold laws_toInt64S at hr
  refine CallOK.of_body (ts := [(true, (.sl (.int .i64)))]) Try.func31 rfl (by kernel_rfl) (Nat.le_of_ble_eq_true (by kernel_rfl)) fun cx hP hN hO hF => ?_
  have hO : cx.own.map Prod.fst = [] := hO
  have hF := hF rfl
  show HT cx ⟨[(0, .one (.dat (.sl (.int .i64)) a0))], [], 0⟩ _ _
  refine HT.reg1 [0] [⟨none, .no⟩] ⟨[(0, .one (.dat (.sl (.int .i64)) a0))], [], 0⟩ hP hN (by kernel_rfl) allNil ?_
  obtain ⟨hg1, hr⟩ := of_guard hr
  refine HT.reg1 [0, 3] [⟨none, .no⟩, ⟨none, .no⟩, ⟨none, .ty (.int .i64)⟩, ⟨none, .no⟩] ⟨[(0, .one (.dat (.sl (.int .i64)) a0)), (3, .one (.all 0))], [(0, .seq (.int .i64) (List.replicate (Int.toNat (lenI a0)) (0 : Int)))], 1⟩ hP hN (by kernel_rfl) (allCons (show (0 : Int) ≤ (lenI a0) ∧ (lenI a0) ≤ (lenI a0) ∧ (lenI a0) ≤ 4294967296 from ⟨hg1.1, Int.le_refl _, hg1.2⟩) allNil) ?_
  refine HT.seq ?_
  refine HT.reg1 [0, 3, 4] [⟨none, .no⟩] ⟨[(0, .one (.dat (.sl (.int .i64)) a0)), (3, .one (.all 0)), (4, .one (.dat (.int .i64) (0 : Int)))], [(0, .seq (.int .i64) (List.replicate (Int.toNat (lenI a0)) (0 : Int)))], 1⟩ hP hN (by kernel_rfl) allNil ?_
  refine HT.block ?_
  obtain ⟨r3, hL11, hr⟩ := of_bind hr
  refine (Le.cv (s := ⟨[(0, 0)], [], [], false⟩) (own := []) (ps := [a0 = a0, (0 : Int) = (0 : Int), (List.replicate (Int.toNat (lenI a0)) (0 : Int)) = (List.replicate (Int.toNat (lenI a0)) (0 : Int))]) (st' := ⟨[(0, .one (.dat (.sl (.int .i64)) a0)), (3, .one (.all 0)), (4, .one (.dat (.int .i64) (0 : Int)))], [(0, .seq (.int .i64) (List.replicate (Int.toNat (lenI a0)) (0 : Int)))], 1⟩) hO (fun h => by cases h) (by kernel_rfl) ⟨rfl, rfl, rfl, trivial⟩).ht ?_
  refine HT.loopE (s := ((0 : Int), (List.replicate (Int.toNat (lenI a0)) (0 : Int)))) (fun (s2 : Int × List Int) => ⟨[(0, .one (.dat (.sl (.int .i64)) a0)), (3, .one (.all 0)), (4, .one (.dat (.int .i64) s2.1))], [(0, .seq (.int .i64) s2.2)], 1⟩) (fun (r4 : List Int) => (.exit 0, ⟨[(3, .one (.all 0))], [(0, .seq (.int .i64) r4)], 1⟩)) hL11 ?_ (fun s2 x5 hx6 hk7 => ?_)
  · refine (qBlockX (qThen ?_))
    refine HT.reg1 [2] [⟨none, .no⟩, ⟨none, .no⟩] ⟨[(2, .one (.all 0))], [(0, .seq (.int .i64) r3)], 1⟩ hP hN (by kernel_rfl) allNil ?_
    have hr := of_some hr
    subst hr
    exact HT.ret ⟨[.one (.all 0)], [0], [], by kernel_rfl, by kernel_rfl, rfl, by kernel_rfl, by kernel_rfl, trivial⟩
  · refine HT.seq ?_
    refine HT.reg1 [0, 3, 4, 11] [⟨none, .no⟩, ⟨none, .no⟩, ⟨none, .no⟩, ⟨none, .no⟩] ⟨[(0, .one (.dat (.sl (.int .i64)) a0)), (3, .one (.all 0)), (4, .one (.dat (.int .i64) s2.1)), (11, .one (.dat .bool (decide (s2.1 < (lenI a0)))))], [(0, .seq (.int .i64) s2.2)], 1⟩ hP hN (by kernel_rfl) allNil ?_
    rcases of_bif hx6 with ⟨hb8, hx6⟩ | ⟨hb8, hx6⟩
    · refine HT.cond1 rfl hb8 ?_
      refine HT.skip (qThen ?_)
      refine HT.seq ?_
      refine HT.block ?_
      obtain ⟨hg9, hx6⟩ := of_guard hx6
      obtain ⟨hg10, hx6⟩ := of_guard hx6
      refine HT.reg (rs := [⟨none, .no⟩, ⟨none, .no⟩, ⟨none, .no⟩, ⟨none, .no⟩, ⟨none, .no⟩, ⟨none, .no⟩, ⟨none, .no⟩, ⟨none, .no⟩]) (st' := ⟨[(20, .one (.elp 0 (Int.toNat s2.1) 1 0)), (19, .one (.dat (.int .i64) (List.getD a0 (Int.toNat s2.1) (0 : Int)))), (18, .one (.ip (.int .i64) (List.getD a0 (Int.toNat s2.1) (0 : Int)) 0)), (17, .one (.dat (.int .i64) s2.1)), (16, .one (.dat (.sl (.int .i64)) a0)), (15, .one (.dat (.int .i64) s2.1)), (14, .one (.all 0)), (0, .one (.dat (.sl (.int .i64)) a0)), (3, .one (.all 0)), (4, .one (.dat (.int .i64) s2.1)), (11, .one (.dat .bool (decide (s2.1 < (lenI a0)))))], [(0, .seq (.int .i64) (List.set s2.2 (Int.toNat s2.1) (List.getD a0 (Int.toNat s2.1) (0 : Int)))), (0, .seq (.int .i64) s2.2)], 1⟩) hP hN (by kernel_rfl) (allCons hg9 (allCons hg10 (allCons (natLt hg10) allNil))) (qBlock (qThen ?_))
      have hx6 := of_some hx6
      subst hx6
      refine HT.reg (rs := [⟨none, .no⟩, ⟨none, .no⟩, ⟨none, .no⟩]) (st' := ⟨[(4, .one (.dat (.int .i64) (wadd .i64 s2.1 (1 : Int)))), (13, .one (.dat (.int .i64) (wadd .i64 s2.1 (1 : Int)))), (12, .one (.dat (.int .i64) s2.1)), (20, .one (.elp 0 (Int.toNat s2.1) 1 0)), (19, .one (.dat (.int .i64) (List.getD a0 (Int.toNat s2.1) (0 : Int)))), (18, .one (.ip (.int .i64) (List.getD a0 (Int.toNat s2.1) (0 : Int)) 0)), (17, .one (.dat (.int .i64) s2.1)), (16, .one (.dat (.sl (.int .i64)) a0)), (15, .one (.dat (.int .i64) s2.1)), (14, .one (.all 0)), (0, .one (.dat (.sl (.int .i64)) a0)), (3, .one (.all 0)), (4, .one (.dat (.int .i64) s2.1)), (11, .one (.dat .bool (decide (s2.1 < (lenI a0)))))], [(0, .seq (.int .i64) (List.set s2.2 (Int.toNat s2.1) (List.getD a0 (Int.toNat s2.1) (0 : Int)))), (0, .seq (.int .i64) s2.2)], 1⟩) hP hN (by kernel_rfl) allNil (qLoopN ⟨((wadd .i64 s2.1 (1 : Int)), (List.set s2.2 (Int.toNat s2.1) (List.getD a0 (Int.toNat s2.1) (0 : Int)))), rfl, Le.cv (s := ⟨[(0, 0)], [], [], false⟩) (own := []) (ps := [a0 = a0, (wadd .i64 s2.1 (1 : Int)) = (wadd .i64 s2.1 (1 : Int)), (List.set s2.2 (Int.toNat s2.1) (List.getD a0 (Int.toNat s2.1) (0 : Int))) = (List.set s2.2 (Int.toNat s2.1) (List.getD a0 (Int.toNat s2.1) (0 : Int)))]) (st' := ⟨[(0, .one (.dat (.sl (.int .i64)) a0)), (3, .one (.all 0)), (4, .one (.dat (.int .i64) (wadd .i64 s2.1 (1 : Int))))], [(0, .seq (.int .i64) (List.set s2.2 (Int.toNat s2.1) (List.getD a0 (Int.toNat s2.1) (0 : Int))))], 1⟩) hO (fun h => by cases h) (by kernel_rfl) ⟨rfl, rfl, rfl, trivial⟩⟩)
    · refine HT.cond0 rfl hb8 ?_
      have hx6 := of_some hx6
      subst hx6
      refine (Le.cv (s := ⟨[(0, 0)], [], [], false⟩) (own := []) (ps := [s2.2 = s2.2]) (st' := ⟨[(3, .one (.all 0))], [(0, .seq (.int .i64) s2.2)], 1⟩) hO (fun h => by cases h) (by kernel_rfl) ⟨rfl, trivial⟩).ht ?_
      exact HT.exit (qThenE (qLoopE (hk7 s2.2 rfl)))

noncomputable def laws_toBoolS_B1 (a0 : List Bool) (s2 : Int × List Bool) : Option ((Int × List Bool) ⊕ (List Bool)) :=
  bif (decide (s2.1 < (lenI a0))) then
    guardP ((0 : Int) ≤ s2.1 ∧ s2.1 < lenI a0) (
      guardP ((0 : Int) ≤ s2.1 ∧ s2.1 < lenI s2.2) (
        some (.inl ((wadd .i64 s2.1 (1 : Int)), (List.set s2.2 (Int.toNat s2.1) (List.getD a0 (Int.toNat s2.1) false))))))
  else
    some (.inr s2.2)

noncomputable def laws_toBoolS (a0 : List Bool) : Option (List Bool) :=
  guardP ((0 : Int) ≤ (lenI a0) ∧ (lenI a0) ≤ 4294967296) (
    (rounds (laws_toBoolS_B1 a0) ((0 : Int), (List.replicate (Int.toNat (lenI a0)) false))).bind fun r4 =>
    some r4)

theorem f78_ok {a0 : List Bool} {r : List Bool} (hr : laws_toBoolS a0 = some r) : CallOK Try.prog 78 [.imm (.sl .bool) a0] [⟨true, (.sl .bool), r⟩] [] := by
  unfold laws_toBoolS at hr
  refine CallOK.of_body (ts := [(true, (.sl .bool))]) Try.func78 rfl (by kernel_rfl) (Nat.le_of_ble_eq_true (by kernel_rfl)) fun cx hP hN hO hF => ?_
  have hO : cx.own.map Prod.fst = [] := hO
  have hF := hF rfl
  show HT cx ⟨[(0, .one (.dat (.sl .bool) a0))], [], 0⟩ _ _
  refine HT.reg1 [0] [⟨none, .no⟩] ⟨[(0, .one (.dat (.sl .bool) a0))], [], 0⟩ hP hN (by kernel_rfl) allNil ?_
  obtain ⟨hg1, hr⟩ := of_guard hr
  refine HT.reg1 [0, 3] [⟨none, .no⟩, ⟨none, .no⟩, ⟨none, .ty .bool⟩, ⟨none, .no⟩] ⟨[(0, .one (.dat (.sl .bool) a0)), (3, .one (.all 0))], [(0, .seq .bool (List.replicate (Int.toNat (lenI a0)) false))], 1⟩ hP hN (by kernel_rfl) (allCons (show (0 : Int) ≤ (lenI a0) ∧ (lenI a0) ≤ (lenI a0) ∧ (lenI a0) ≤ 4294967296 from ⟨hg1.1, Int.le_refl _, hg1.2⟩) allNil) ?_
  refine HT.seq ?_
  refine HT.reg1 [0, 3, 4] [⟨none, .no⟩] ⟨[(0, .one (.dat (.sl .bool) a0)), (3, .one (.all 0)), (4, .one (.dat (.int .i64) (0 : Int)))], [(0, .seq .bool (List.replicate (Int.toNat (lenI a0)) false))], 1⟩ hP hN (by kernel_rfl) allNil ?_
  refine HT.block ?_
  obtain ⟨r3, hL11, hr⟩ := of_bind hr
  refine (Le.cv (s := ⟨[(0, 0)], [], [], false⟩) (own := []) (ps := [a0 = a0, (0 : Int) = (0 : Int), (List.replicate (Int.toNat (lenI a0)) false) = (List.replicate (Int.toNat (lenI a0)) false)]) (st' := ⟨[(0, .one (.dat (.sl .bool) a0)), (3, .one (.all 0)), (4, .one (.dat (.int .i64) (0 : Int)))], [(0, .seq .bool (List.replicate (Int.toNat (lenI a0)) false))], 1⟩) hO (fun h => by cases h) (by kernel_rfl) ⟨rfl, rfl, rfl, trivial⟩).ht ?_
  refine HT.loopE (s := ((0 : Int), (List.replicate (Int.toNat (lenI a0)) false))) (fun (s2 : Int × List Bool) => ⟨[(0, .one (.dat (.sl .bool) a0)), (3, .one (.all 0)), (4, .one (.dat (.int .i64) s2.1))], [(0, .seq .bool s2.2)], 1⟩) (fun (r4 : List Bool) => (.exit 0, ⟨[(3, .one (.all 0))], [(0, .seq .bool r4)], 1⟩)) hL11 ?_ (fun s2 x5 hx6 hk7 => ?_)
  · refine (qBlockX (qThen ?_))
    refine HT.reg1 [2] [⟨none, .no⟩, ⟨none, .no⟩] ⟨[(2, .one (.all 0))], [(0, .seq .bool r3)], 1⟩ hP hN (by kernel_rfl) allNil ?_
    have hr := of_some hr
    subst hr
    exact HT.ret ⟨[.one (.all 0)], [0], [], by kernel_rfl, by kernel_rfl, rfl, by kernel_rfl, by kernel_rfl, trivial⟩
  · refine HT.seq ?_
    refine HT.reg1 [0, 3, 4, 11] [⟨none, .no⟩, ⟨none, .no⟩, ⟨none, .no⟩, ⟨none, .no⟩] ⟨[(0, .one (.dat (.sl .bool) a0)), (3, .one (.all 0)), (4, .one (.dat (.int .i64) s2.1)), (11, .one (.dat .bool (decide (s2.1 < (lenI a0)))))], [(0, .seq .bool s2.2)], 1⟩ hP hN (by kernel_rfl) allNil ?_
    rcases of_bif hx6 with ⟨hb8, hx6⟩ | ⟨hb8, hx6⟩
    · refine HT.cond1 rfl hb8 ?_
      refine HT.skip (qThen ?_)
      refine HT.seq ?_
      refine HT.block ?_
      obtain ⟨hg9, hx6⟩ := of_guard hx6
      obtain ⟨hg10, hx6⟩ := of_guard hx6
      refine HT.reg (rs := [⟨none, .no⟩, ⟨none, .no⟩, ⟨none, .no⟩, ⟨none, .no⟩, ⟨none, .no⟩, ⟨none, .no⟩, ⟨none, .no⟩, ⟨none, .no⟩]) (st' := ⟨[(20, .one (.elp 0 (Int.toNat s2.1) 1 0)), (19, .one (.dat .bool (List.getD a0 (Int.toNat s2.1) false))), (18, .one (.ip .bool (List.getD a0 (Int.toNat s2.1) false) 0)), (17, .one (.dat (.int .i64) s2.1)), (16, .one (.dat (.sl .bool) a0)), (15, .one (.dat (.int .i64) s2.1)), (14, .one (.all 0)), (0, .one (.dat (.sl .bool) a0)), (3, .one (.all 0)), (4, .one (.dat (.int .i64) s2.1)), (11, .one (.dat .bool (decide (s2.1 < (lenI a0)))))], [(0, .seq .bool (List.set s2.2 (Int.toNat s2.1) (List.getD a0 (Int.toNat s2.1) false))), (0, .seq .bool s2.2)], 1⟩) hP hN (by kernel_rfl) (allCons hg9 (allCons hg10 (allCons (natLt hg10) allNil))) (qBlock (qThen ?_))
      have hx6 := of_some hx6
      subst hx6
      refine HT.reg (rs := [⟨none, .no⟩, ⟨none, .no⟩, ⟨none, .no⟩]) (st' := ⟨[(4, .one (.dat (.int .i64) (wadd .i64 s2.1 (1 : Int)))), (13, .one (.dat (.int .i64) (wadd .i64 s2.1 (1 : Int)))), (12, .one (.dat (.int .i64) s2.1)), (20, .one (.elp 0 (Int.toNat s2.1) 1 0)), (19, .one (.dat .bool (List.getD a0 (Int.toNat s2.1) false))), (18, .one (.ip .bool (List.getD a0 (Int.toNat s2.1) false) 0)), (17, .one (.dat (.int .i64) s2.1)), (16, .one (.dat (.sl .bool) a0)), (15, .one (.dat (.int .i64) s2.1)), (14, .one (.all 0)), (0, .one (.dat (.sl .bool) a0)), (3, .one (.all 0)), (4, .one (.dat (.int .i64) s2.1)), (11, .one (.dat .bool (decide (s2.1 < (lenI a0)))))], [(0, .seq .bool (List.set s2.2 (Int.toNat s2.1) (List.getD a0 (Int.toNat s2.1) false))), (0, .seq .bool s2.2)], 1⟩) hP hN (by kernel_rfl) allNil (qLoopN ⟨((wadd .i64 s2.1 (1 : Int)), (List.set s2.2 (Int.toNat s2.1) (List.getD a0 (Int.toNat s2.1) false))), rfl, Le.cv (s := ⟨[(0, 0)], [], [], false⟩) (own := []) (ps := [a0 = a0, (wadd .i64 s2.1 (1 : Int)) = (wadd .i64 s2.1 (1 : Int)), (List.set s2.2 (Int.toNat s2.1) (List.getD a0 (Int.toNat s2.1) false)) = (List.set s2.2 (Int.toNat s2.1) (List.getD a0 (Int.toNat s2.1) false))]) (st' := ⟨[(0, .one (.dat (.sl .bool) a0)), (3, .one (.all 0)), (4, .one (.dat (.int .i64) (wadd .i64 s2.1 (1 : Int))))], [(0, .seq .bool (List.set s2.2 (Int.toNat s2.1) (List.getD a0 (Int.toNat s2.1) false)))], 1⟩) hO (fun h => by cases h) (by kernel_rfl) ⟨rfl, rfl, rfl, trivial⟩⟩)
    · refine HT.cond0 rfl hb8 ?_
      have hx6 := of_some hx6
      subst hx6
      refine (Le.cv (s := ⟨[(0, 0)], [], [], false⟩) (own := []) (ps := [s2.2 = s2.2]) (st' := ⟨[(3, .one (.all 0))], [(0, .seq .bool s2.2)], 1⟩) hO (fun h => by cases h) (by kernel_rfl) ⟨rfl, trivial⟩).ht ?_
      exact HT.exit (qThenE (qLoopE (hk7 s2.2 rfl)))

noncomputable def laws_toPlain (a0 : Int × Int × List Int × List Bool) : Option ((Int × Int × List Int × List Bool)) :=
  (laws_toInt64S a0.2.2.1).bind fun y1 =>
  (laws_toBoolS a0.2.2.2).bind fun y3 =>
  some (a0.1, a0.2.1, y1, y3)

theorem f23_ok {a0 : Int × Int × List Int × List Bool} {r : (Int × Int × List Int × List Bool)} (hr : laws_toPlain a0 = some r) : CallOK Try.prog 23 [.imm (.st (.pair (.int .i64) (.pair (.int .i64) (.pair (.sl (.int .i64)) (.sl .bool))))) a0] [⟨true, (.st (.pair (.int .i64) (.pair (.int .i64) (.pair (.sl (.int .i64)) (.sl .bool))))), r⟩] [] := by
  unfold laws_toPlain at hr
  refine CallOK.of_body (ts := [(true, (.st (.pair (.int .i64) (.pair (.int .i64) (.pair (.sl (.int .i64)) (.sl .bool))))))]) Try.func23 rfl (by kernel_rfl) (Nat.le_of_ble_eq_true (by kernel_rfl)) fun cx hP hN hO hF => ?_
  have hO : cx.own.map Prod.fst = [] := hO
  have hF := hF rfl
  show HT cx ⟨[(0, .agg [.dat (.int .i64) a0.1, .dat (.int .i64) a0.2.1, .dat (.sl (.int .i64)) a0.2.2.1, .dat (.sl .bool) a0.2.2.2])], [], 0⟩ _ _
  refine HT.reg1 [1, 2] [⟨none, .no⟩, ⟨none, .no⟩] ⟨[(1, .one (.ptr 0 0)), (2, .one (.ptr 1 0))], [(1, .box [.dat (.int .i64) (0 : Int), .dat (.int .i64) (0 : Int), .nilS, .nilS]), (0, .box [.dat (.int .i64) a0.1, .dat (.int .i64) a0.2.1, .dat (.sl (.int .i64)) a0.2.2.1, .dat (.sl .bool) a0.2.2.2])], 2⟩ hP hN (by kernel_rfl) allNil ?_
  refine HT.reg1 [1, 2, 3] [⟨none, .no⟩] ⟨[(1, .one (.ptr 0 0)), (2, .one (.ptr 1 0)), (3, .one (.ptr 2 0))], [(2, .box [.dat (.int .i64) (0 : Int), .dat (.int .i64) (0 : Int), .nilS, .nilS]), (1, .box [.dat (.int .i64) (0 : Int), .dat (.int .i64) (0 : Int), .nilS, .nilS]), (0, .box [.dat (.int .i64) a0.1, .dat (.int .i64) a0.2.1, .dat (.sl (.int .i64)) a0.2.2.1, .dat (.sl .bool) a0.2.2.2])], 3⟩ hP hN (by kernel_rfl) allNil ?_
  refine HT.reg1 [1, 2, 3] [⟨none, .no⟩, ⟨none, .no⟩, ⟨none, .no⟩, ⟨none, .no⟩] ⟨[(1, .one (.ptr 0 0)), (2, .one (.ptr 1 0)), (3, .one (.ptr 2 0))], [(2, .box [.dat (.int .i64) a0.1, .dat (.int .i64) (0 : Int), .nilS, .nilS]), (2, .box [.dat (.int .i64) (0 : Int), .dat (.int .i64) (0 : Int), .nilS, .nilS]), (1, .box [.dat (.int .i64) (0 : Int), .dat (.int .i64) (0 : Int), .nilS, .nilS]), (0, .box [.dat (.int .i64) a0.1, .dat (.int .i64) a0.2.1, .dat (.sl (.int .i64)) a0.2.2.1, .dat (.sl .bool) a0.2.2.2])], 3⟩ hP hN (by kernel_rfl) allNil ?_
  refine HT.reg1 [1, 2, 3] [⟨none, .no⟩, ⟨none, .no⟩, ⟨none, .no⟩, ⟨none, .no⟩] ⟨[(1, .one (.ptr 0 0)), (2, .one (.ptr 1 0)), (3, .one (.ptr 2 0))], [(2, .box [.dat (.int .i64) a0.1, .dat (.int .i64) a0.2.1, .nilS, .nilS]), (2, .box [.dat (.int .i64) a0.1, .dat (.int .i64) (0 : Int), .nilS, .nilS]), (2, .box [.dat (.int .i64) (0 : Int), .dat (.int .i64) (0 : Int), .nilS, .nilS]), (1, .box [.dat (.int .i64) (0 : Int), .dat (.int .i64) (0 : Int), .nilS, .nilS]), (0, .box [.dat (.int .i64) a0.1, .dat (.int .i64) a0.2.1, .dat (.sl (.int .i64)) a0.2.2.1, .dat (.sl .bool) a0.2.2.2])], 3⟩ hP hN (by kernel_rfl) allNil ?_
  obtain ⟨y1, hc2, hr⟩ := of_bind hr
  refine HT.reg1 [1, 2, 3] [⟨none, .no⟩, ⟨none, .no⟩, ⟨none, .call [.imm (.sl (.int .i64))] [⟨true, (.sl (.int .i64)), y1⟩] []⟩, ⟨none, .no⟩, ⟨none, .no⟩] ⟨[(1, .one (.ptr 0 0)), (2, .one (.ptr 1 0)), (3, .one (.ptr 2 0))], [(2, .box [.dat (.int .i64) a0.1, .dat (.int .i64) a0.2.1, .all 3, .nilS]), (3, .seq (.int .i64) y1), (2, .box [.dat (.int .i64) a0.1, .dat (.int .i64) a0.2.1, .nilS, .nilS]), (2, .box [.dat (.int .i64) a0.1, .dat (.int .i64) (0 : Int), .nilS, .nilS]), (2, .box [.dat (.int .i64) (0 : Int), .dat (.int .i64) (0 : Int), .nilS, .nilS]), (1, .box [.dat (.int .i64) (0 : Int), .dat (.int .i64) (0 : Int), .nilS, .nilS]), (0, .box [.dat (.int .i64) a0.1, .dat (.int .i64) a0.2.1, .dat (.sl (.int .i64)) a0.2.2.1, .dat (.sl .bool) a0.2.2.2])], 4⟩ hP hN (by kernel_rfl) (allCons (f31_ok hc2) allNil) ?_
  obtain ⟨y3, hc4, hr⟩ := of_bind hr
  refine HT.reg1 [2, 3] [⟨none, .no⟩, ⟨none, .no⟩, ⟨none, .call [.imm (.sl .bool)] [⟨true, (.sl .bool), y3⟩] []⟩, ⟨none, .no⟩, ⟨none, .no⟩] ⟨[(2, .one (.ptr 1 0)), (3, .one (.ptr 2 0))], [(2, .box [.dat (.int .i64) a0.1, .dat (.int .i64) a0.2.1, .all 3, .all 4]), (4, .seq .bool y3), (2, .box [.dat (.int .i64) a0.1, .dat (.int .i64) a0.2.1, .all 3, .nilS]), (3, .seq (.int .i64) y1), (2, .box [.dat (.int .i64) a0.1, .dat (.int .i64) a0.2.1, .nilS, .nilS]), (2, .box [.dat (.int .i64) a0.1, .dat (.int .i64) (0 : Int), .nilS, .nilS]), (2, .box [.dat (.int .i64) (0 : Int), .dat (.int .i64) (0 : Int), .nilS, .nilS]), (1, .box [.dat (.int .i64) (0 : Int), .dat (.int .i64) (0 : Int), .nilS, .nilS]), (0, .box [.dat (.int .i64) a0.1, .dat (.int .i64) a0.2.1, .dat (.sl (.int .i64)) a0.2.2.1, .dat (.sl .bool) a0.2.2.2])], 5⟩ hP hN (by kernel_rfl) (allCons (f78_ok hc4) allNil) ?_
  refine HT.reg1 [2] [⟨none, .no⟩, ⟨none, .no⟩] ⟨[(2, .one (.ptr 1 0))], [(1, .box [.dat (.int .i64) a0.1, .dat (.int .i64) a0.2.1, .all 3, .all 4]), (2, .box [.dat (.int .i64) a0.1, .dat (.int .i64) a0.2.1, .all 3, .all 4]), (4, .seq .bool y3), (2, .box [.dat (.int .i64) a0.1, .dat (.int .i64) a0.2.1, .all 3, .nilS]), (3, .seq (.int .i64) y1), (2, .box [.dat (.int .i64) a0.1, .dat (.int .i64) a0.2.1, .nilS, .nilS]), (2, .box [.dat (.int .i64) a0.1, .dat (.int .i64) (0 : Int), .nilS, .nilS]), (2, .box [.dat (.int .i64) (0 : Int), .dat (.int .i64) (0 : Int), .nilS, .nilS]), (1, .box [.dat (.int .i64) (0 : Int), .dat (.int .i64) (0 : Int), .nilS, .nilS]), (0, .box [.dat (.int .i64) a0.1, .dat (.int .i64) a0.2.1, .dat (.sl (.int .i64)) a0.2.2.1, .dat (.sl .bool) a0.2.2.2])], 5⟩ hP hN (by kernel_rfl) allNil ?_
  have hr := of_some hr
  subst hr
  exact HT.ret ⟨[.agg [.dat (.int .i64) a0.1, .dat (.int .i64) a0.2.1, .all 3, .all 4]], [3, 4], [], by kernel_rfl, by kernel_rfl, rfl, by kernel_rfl, by kernel_rfl, trivial⟩

noncomputable def spec_l07Go (a0 : Int × Int × List Int × List Bool) (a1 : Int) (a2 : Int) : Option (Int) :=
  guardP ((0 : Int) ≤ (wadd .i64 (wmul .i64 a1 a0.2.1) a2) ∧ (wadd .i64 (wmul .i64 a1 a0.2.1) a2) < lenI a0.2.2.1) (
    some (List.getD a0.2.2.1 (Int.toNat (wadd .i64 (wmul .i64 a1 a0.2.1) a2)) (0 : Int)))

theorem f143_ok {a0 : Int × Int × List Int × List Bool} {a1 : Int} {a2 : Int} {r : Int} (hr : spec_l07Go a0 a1 a2 = some r) : CallOK Try.prog 143 [.pimm (.st (.pair (.int .i64) (.pair (.int .i64) (.pair (.sl (.int .i64)) (.sl .bool))))) a0, .imm (.int .i64) a1, .imm (.int .i64) a2] [⟨false, (.int .i64), r⟩] [] := by
  unfold spec_l07Go at hr
  refine CallOK.of_body (ts := [(false, (.int .i64))]) Try.func143 rfl (by kernel_rfl) (Nat.le_of_ble_eq_true (by kernel_rfl)) fun cx hP hN hO hF => ?_
  have hO : cx.own.map Prod.fst = [] := hO
  have hF := hF rfl
  show HT cx ⟨[(0, .one (.ip (.st (.pair (.int .i64) (.pair (.int .i64) (.pair (.sl (.int .i64)) (.sl .bool))))) a0 0)), (1, .one (.dat (.int .i64) a1)), (2, .one (.dat (.int .i64) a2))], [], 0⟩ _ _
  refine HT.reg1 [0, 1, 2] [⟨none, .no⟩] ⟨[(0, .one (.ip (.st (.pair (.int .i64) (.pair (.int .i64) (.pair (.sl (.int .i64)) (.sl .bool))))) a0 0)), (1, .one (.dat (.int .i64) a1)), (2, .one (.dat (.int .i64) a2))], [], 0⟩ hP hN (by kernel_rfl) allNil ?_
  obtain ⟨hg1, hr⟩ := of_guard hr
  refine HT.drw1 [6] 12 [⟨⟨none, .no⟩, []⟩, ⟨⟨none, .no⟩, [0]⟩, ⟨⟨none, .no⟩, [0, 1]⟩, ⟨⟨none, .no⟩, [0, 1, 2]⟩, ⟨⟨none, .no⟩, []⟩, ⟨⟨none, .no⟩, []⟩, ⟨⟨none, .no⟩, [5]⟩, ⟨⟨none, .no⟩, [5, 6]⟩, ⟨⟨none, .no⟩, [5, 6, 7]⟩, ⟨⟨none, .no⟩, [4, 5, 6, 7, 8]⟩, ⟨⟨none, .no⟩, []⟩, ⟨⟨none, .no⟩, [4, 5, 6, 7, 8, 9, 10]⟩] [[0, 1, 2, 3, 4, 5, 6, 7, 8, 9, 10, 11], [0, 1, 2, 3, 4, 5, 6, 7, 8, 9, 10, 11, 12], [0, 1, 2, 3, 4, 5, 6, 7, 8, 9, 10, 11, 12, 13]] [⟨none, .no⟩, ⟨none, .no⟩, ⟨none, .no⟩] ⟨[(6, .one (.dat (.int .i64) (List.getD a0.2.2.1 (Int.toNat (wadd .i64 (wmul .i64 a1 a0.2.1) a2)) (0 : Int))))], [], 0⟩ hP hN (by kernel_rfl) (by kernel_rfl) (allCons hg1 allNil) ?_
  have hr := of_some hr
  subst hr
  exact HT.ret ⟨[.one (.dat (.int .i64) (List.getD a0.2.2.1 (Int.toNat (wadd .i64 (wmul .i64 a1 a0.2.1) a2)) (0 : Int)))], [], [], by kernel_rfl, by kernel_rfl, rfl, by kernel_rfl, by kernel_rfl, trivial⟩

noncomputable def spec_l00Put_B1 (a0 : List Int) (a1 : Int) (s1 : Bool × Int × List Int) : Option ((Bool × Int × List Int) ⊕ ((Bool × List Int))) :=
  bif (decide (s1.2.1 < (lenI a0))) then
    (show Option (Bool × List Int) from
      (show Option (Bool) from
        bif (!s1.1) then
          guardP ((0 : Int) ≤ s1.2.1 ∧ s1.2.1 < lenI a0) (
            some (decide ((List.getD a0 (Int.toNat s1.2.1) (0 : Int)) ≥ a1)))
        else
          some false).bind fun v18 =>
      bif v18 then
        guardP ((0 : Int) ≤ s1.2.1 ∧ s1.2.1 < lenI a0) (
          bif (decide ((List.getD a0 (Int.toNat s1.2.1) (0 : Int)) > a1)) then
            guardP (List.length s1.2.2 + List.length ([a1] : List Int) ≤ appMax) (
              some (true, (s1.2.2 ++ ([a1] : List Int))))
          else
            some (true, s1.2.2))
      else
        some (s1.1, s1.2.2)).bind fun v13 =>
    guardP ((0 : Int) ≤ s1.2.1 ∧ s1.2.1 < lenI a0) (
      guardP (List.length v13.2 + List.length ([(List.getD a0 (Int.toNat s1.2.1) (0 : Int))] : List Int) ≤ appMax) (
        some (.inl (v13.1, (wadd .i64 s1.2.1 (1 : Int)), (v13.2 ++ ([(List.getD a0 (Int.toNat s1.2.1) (0 : Int))] : List Int))))))
  else
    some (.inr (s1.1, s1.2.2))

noncomputable def spec_l00Put (a0 : List Int) (a1 : Int) : Option (List Int) :=
  (rounds (spec_l00Put_B1 a0 a1) (false, (0 : Int), ([] : List Int))).bind fun r3 =>
  (show Option (List Int) from
    bif (!r3.1) then
      guardP (List.length r3.2 + List.length ([a1] : List Int) ≤ appMax) (
        some (r3.2 ++ ([a1] : List Int)))
    else
      some r3.2).bind fun v4 =>
  some v4

theorem f144_ok {a0 : List Int} {a1 : Int} {r : List Int} (hr : spec_l00Put a0 a1 = some r) : CallOK Try.prog 144 [.imm (.sl (.int .i64)) a0, .imm (.int .i64) a1] [⟨true, (.sl (.int .i64)), r⟩] [] := by
  unfold spec_l00Put at hr
  refine CallOK.of_body (ts := [(true, (.sl (.int .i64)))]) Try.func144 rfl (by kernel_rfl) (Nat.le_of_ble_eq_true (by kernel_rfl)) fun cx hP hN hO hF => ?_
  have hO : cx.own.map Prod.fst = [] := hO
  have hF := hF rfl
  show HT cx ⟨[(0, .one (.dat (.sl (.int .i64)) a0)), (1, .one (.dat (.int .i64) a1))], [], 0⟩ _ _
  refine HT.reg1 [0, 1] [⟨none, .no⟩] ⟨[(0, .one (.dat (.sl (.int .i64)) a0)), (1, .one (.dat (.int .i64) a1))], [], 0⟩ hP hN (by kernel_rfl) allNil ?_
  refine HT.reg1 [0, 1, 5] [⟨none, .no⟩, ⟨none, .no⟩] ⟨[(0, .one (.dat (.sl (.int .i64)) a0)), (1, .one (.dat (.int .i64) a1)), (5, .one (.nilS))], [], 0⟩ hP hN (by kernel_rfl) allNil ?_
  refine HT.reg1 [0, 1, 5, 6] [⟨none, .no⟩] ⟨[(0, .one (.dat (.sl (.int .i64)) a0)), (1, .one (.dat (.int .i64) a1)), (5, .one (.nilS)), (6, .one (.dat .bool false))], [], 0⟩ hP hN (by kernel_rfl) allNil ?_
  refine HT.seq ?_
  refine HT.reg1 [0, 1, 5, 6, 7] [⟨none, .no⟩] ⟨[(0, .one (.dat (.sl (.int .i64)) a0)), (1, .one (.dat (.int .i64) a1)), (5, .one (.nilS)), (6, .one (.dat .bool false)), (7, .one (.dat (.int .i64) (0 : Int)))], [], 0⟩ hP hN (by kernel_rfl) allNil ?_
  refine HT.block ?_
  obtain ⟨r2, hL27, hr⟩ := of_bind hr
  refine (Le.cv (s := ⟨[], [0], [], false⟩) (own := []) (ps := [a0 = a0, a1 = a1, false = false, (0 : Int) = (0 : Int), ([] : List Int) = []]) (st' := ⟨[(0, .one (.dat (.sl (.int .i64)) a0)), (1, .one (.dat (.int .i64) a1)), (5, .one (.all 0)), (6, .one (.dat .bool false)), (7, .one (.dat (.int .i64) (0 : Int)))], [(0, .seq (.int .i64) ([] : List Int))], 1⟩) hO (fun h => by cases h) (by kernel_rfl) ⟨rfl, rfl, rfl, rfl, rfl, trivial⟩).ht ?_
  refine HT.loopE (s := (false, (0 : Int), ([] : List Int))) (fun (s1 : Bool × Int × List Int) => ⟨[(0, .one (.dat (.sl (.int .i64)) a0)), (1, .one (.dat (.int .i64) a1)), (5, .one (.all 0)), (6, .one (.dat .bool s1.1)), (7, .one (.dat (.int .i64) s1.2.1))], [(0, .seq (.int .i64) s1.2.2)], 1⟩) (fun (r3 : (Bool × List Int)) => (.exit 0, ⟨[(1, .one (.dat (.int .i64) a1)), (5, .one (.all 0)), (6, .one (.dat .bool r3.1))], [(0, .seq (.int .i64) r3.2)], 1⟩)) hL27 ?_ (fun s1 x9 hx10 hk11 => ?_)
  · refine (qBlockX (qThen ?_))
    obtain ⟨v4', hT6, hr⟩ := of_bind hr
    refine HT.join (fun (v4 : List Int) => ⟨[(5, .one (.all 0))], [(0, .seq (.int .i64) v4)], 1⟩) (fun v => v = v4') (fun v4 hv5 => ?_) (fun cont => ?_)
    · subst hv5
      refine HT.reg1 [4] [⟨none, .no⟩, ⟨none, .no⟩] ⟨[(4, .one (.all 0))], [(0, .seq (.int .i64) v4)], 1⟩ hP hN (by kernel_rfl) allNil ?_
      have hr := of_some hr
      subst hr
      exact HT.ret ⟨[.one (.all 0)], [0], [], by kernel_rfl, by kernel_rfl, rfl, by kernel_rfl, by kernel_rfl, trivial⟩
    · refine HT.reg1 [1, 5, 43] [⟨none, .no⟩, ⟨none, .no⟩] ⟨[(1, .one (.dat (.int .i64) a1)), (5, .one (.all 0)), (43, .one (.dat .bool (!r2.1)))], [(0, .seq (.int .i64) r2.2)], 1⟩ hP hN (by kernel_rfl) allNil ?_
      rcases of_bif hT6 with ⟨hb7, hT6⟩ | ⟨hb7, hT6⟩
      · refine HT.cond1 rfl hb7 ?_
        obtain ⟨hg8, hT6⟩ := of_guard hT6
        refine HT.reg (rs := [⟨none, .no⟩, ⟨none, .no⟩, ⟨none, .ty (.int .i64)⟩, ⟨none, .ty (.int .i64)⟩, ⟨none, .no⟩]) (st' := ⟨[(5, .one (.all 2)), (47, .one (.all 2)), (46, .one (.all 1)), (45, .one (.dat (.int .i64) a1)), (44, .one (.all 0)), (1, .one (.dat (.int .i64) a1)), (5, .one (.all 0)), (43, .one (.dat .bool (!r2.1)))], [(0, .gone), (2, .seq (.int .i64) (r2.2 ++ ([a1] : List Int))), (1, .seq (.int .i64) ([a1] : List Int)), (0, .seq (.int .i64) r2.2)], 3⟩) hP hN (by kernel_rfl) (allCons hg8 allNil) (qThen ?_)
        exact (Le.cv (s := ⟨[(2, 0)], [], [], false⟩) (own := []) (ps := [(r2.2 ++ ([a1] : List Int)) = (r2.2 ++ ([a1] : List Int))]) (st' := ⟨[(5, .one (.all 0))], [(0, .seq (.int .i64) (r2.2 ++ ([a1] : List Int)))], 1⟩) hO (fun h => by cases h) (by kernel_rfl) ⟨rfl, trivial⟩).ht (cont (r2.2 ++ ([a1] : List Int)) (of_some hT6))
      · refine HT.cond0 rfl hb7 ?_
        refine HT.skip (qThen ?_)
        exact (Le.cv (s := ⟨[(0, 0)], [], [], false⟩) (own := []) (ps := [r2.2 = r2.2]) (st' := ⟨[(5, .one (.all 0))], [(0, .seq (.int .i64) r2.2)], 1⟩) hO (fun h => by cases h) (by kernel_rfl) ⟨rfl, trivial⟩).ht (cont r2.2 (of_some hT6))
  · refine HT.seq ?_
    refine HT.reg1 [0, 1, 5, 6, 7, 12] [⟨none, .no⟩, ⟨none, .no⟩, ⟨none, .no⟩, ⟨none, .no⟩] ⟨[(0, .one (.dat (.sl (.int .i64)) a0)), (1, .one (.dat (.int .i64) a1)), (5, .one (.all 0)), (6, .one (.dat .bool s1.1)), (7, .one (.dat (.int .i64) s1.2.1)), (12, .one (.dat .bool (decide (s1.2.1 < (lenI a0)))))], [(0, .seq (.int .i64) s1.2.2)], 1⟩ hP hN (by kernel_rfl) allNil ?_
    rcases of_bif hx10 with ⟨hb12, hx10⟩ | ⟨hb12, hx10⟩
    · refine HT.cond1 rfl hb12 ?_
      refine HT.skip (qThen ?_)
      refine HT.seq ?_
      refine HT.block ?_
      obtain ⟨v13', hT15, hx10⟩ := of_bind hx10
      refine HT.join (fun (v13 : Bool × List Int) => ⟨[(0, .one (.dat (.sl (.int .i64)) a0)), (1, .one (.dat (.int .i64) a1)), (5, .one (.all 0)), (6, .one (.dat .bool v13.1)), (7, .one (.dat (.int .i64) s1.2.1))], [(0, .seq (.int .i64) v13.2)], 1⟩) (fun v => v = v13') (fun v13 hv14 => ?_) (fun cont => ?_)
      · subst hv14
        obtain ⟨hg16, hx10⟩ := of_guard hx10
        obtain ⟨hg17, hx10⟩ := of_guard hx10
        refine HT.reg (rs := [⟨none, .no⟩, ⟨none, .no⟩, ⟨none, .no⟩, ⟨none, .no⟩, ⟨none, .no⟩, ⟨none, .ty (.int .i64)⟩, ⟨none, .ty (.int .i64)⟩, ⟨none, .no⟩]) (st' := ⟨[(5, .one (.all 2)), (41, .one (.all 2)), (40, .one (.all 1)), (39, .one (.dat (.int .i64) (List.getD a0 (Int.toNat s1.2.1) (0 : Int)))), (38, .one (.ip (.int .i64) (List.getD a0 (Int.toNat s1.2.1) (0 : Int)) 0)), (37, .one (.dat (.int .i64) s1.2.1)), (36, .one (.dat (.sl (.int .i64)) a0)), (35, .one (.all 0)), (0, .one (.dat (.sl (.int .i64)) a0)), (1, .one (.dat (.int .i64) a1)), (5, .one (.all 0)), (6, .one (.dat .bool v13.1)), (7, .one (.dat (.int .i64) s1.2.1))], [(0, .gone), (2, .seq (.int .i64) (v13.2 ++ ([(List.getD a0 (Int.toNat s1.2.1) (0 : Int))] : List Int))), (1, .seq (.int .i64) ([(List.getD a0 (Int.toNat s1.2.1) (0 : Int))] : List Int)), (0, .seq (.int .i64) v13.2)], 3⟩) hP hN (by kernel_rfl) (allCons hg16 (allCons hg17 allNil)) (qBlock (qThen ?_))
        have hx10 := of_some hx10
        subst hx10
        refine HT.reg (rs := [⟨none, .no⟩, ⟨none, .no⟩, ⟨none, .no⟩]) (st' := ⟨[(7, .one (.dat (.int .i64) (wadd .i64 s1.2.1 (1 : Int)))), (14, .one (.dat (.int .i64) (wadd .i64 s1.2.1 (1 : Int)))), (13, .one (.dat (.int .i64) s1.2.1)), (5, .one (.all 2)), (41, .one (.all 2)), (40, .one (.all 1)), (39, .one (.dat (.int .i64) (List.getD a0 (Int.toNat s1.2.1) (0 : Int)))), (38, .one (.ip (.int .i64) (List.getD a0 (Int.toNat s1.2.1) (0 : Int)) 0)), (37, .one (.dat (.int .i64) s1.2.1)), (36, .one (.dat (.sl (.int .i64)) a0)), (35, .one (.all 0)), (0, .one (.dat (.sl (.int .i64)) a0)), (1, .one (.dat (.int .i64) a1)), (5, .one (.all 0)), (6, .one (.dat .bool v13.1)), (7, .one (.dat (.int .i64) s1.2.1))], [(0, .gone), (2, .seq (.int .i64) (v13.2 ++ ([(List.getD a0 (Int.toNat s1.2.1) (0 : Int))] : List Int))), (1, .seq (.int .i64) ([(List.getD a0 (Int.toNat s1.2.1) (0 : Int))] : List Int)), (0, .seq (.int .i64) v13.2)], 3⟩) hP hN (by kernel_rfl) allNil (qLoopN ⟨(v13.1, (wadd .i64 s1.2.1 (1 : Int)), (v13.2 ++ ([(List.getD a0 (Int.toNat s1.2.1) (0 : Int))] : List Int))), rfl, Le.cv (s := ⟨[(2, 0)], [], [], false⟩) (own := []) (ps := [a0 = a0, a1 = a1, v13.1 = v13.1, (wadd .i64 s1.2.1 (1 : Int)) = (wadd .i64 s1.2.1 (1 : Int)), (v13.2 ++ ([(List.getD a0 (Int.toNat s1.2.1) (0 : Int))] : List Int)) = (v13.2 ++ ([(List.getD a0 (Int.toNat s1.2.1) (0 : Int))] : List Int))]) (st' := ⟨[(0, .one (.dat (.sl (.int .i64)) a0)), (1, .one (.dat (.int .i64) a1)), (5, .one (.all 0)), (6, .one (.dat .bool v13.1)), (7, .one (.dat (.int .i64) (wadd .i64 s1.2.1 (1 : Int))))], [(0, .seq (.int .i64) (v13.2 ++ ([(List.getD a0 (Int.toNat s1.2.1) (0 : Int))] : List Int)))], 1⟩) hO (fun h => by cases h) (by kernel_rfl) ⟨rfl, rfl, rfl, rfl, rfl, trivial⟩⟩)
      · obtain ⟨v18', hT20, hT15⟩ := of_bind hT15
        refine HT.join (fun (v18 : Bool) => ⟨[(0, .one (.dat (.sl (.int .i64)) a0)), (1, .one (.dat (.int .i64) a1)), (5, .one (.all 0)), (6, .one (.dat .bool s1.1)), (7, .one (.dat (.int .i64) s1.2.1)), (24, .one (.dat .bool v18))], [(0, .seq (.int .i64) s1.2.2)], 1⟩) (fun v => v = v18') (fun v18 hv19 => ?_) (fun cont => ?_)
        · subst hv19
          rcases of_bif hT15 with ⟨hb21, hT15⟩ | ⟨hb21, hT15⟩
          · refine HT.cond1 rfl hb21 ?_
            refine HT.reg1 [0, 1, 5, 6, 7] [⟨none, .no⟩] ⟨[(0, .one (.dat (.sl (.int .i64)) a0)), (1, .one (.dat (.int .i64) a1)), (5, .one (.all 0)), (6, .one (.dat .bool true)), (7, .one (.dat (.int .i64) s1.2.1))], [(0, .seq (.int .i64) s1.2.2)], 1⟩ hP hN (by kernel_rfl) allNil ?_
            obtain ⟨hg22, hT15⟩ := of_guard hT15
            refine HT.reg1 [0, 1, 5, 6, 7, 30] [⟨none, .no⟩, ⟨none, .no⟩, ⟨none, .no⟩, ⟨none, .no⟩, ⟨none, .no⟩, ⟨none, .no⟩] ⟨[(0, .one (.dat (.sl (.int .i64)) a0)), (1, .one (.dat (.int .i64) a1)), (5, .one (.all 0)), (6, .one (.dat .bool true)), (7, .one (.dat (.int .i64) s1.2.1)), (30, .one (.dat .bool (decide ((List.getD a0 (Int.toNat s1.2.1) (0 : Int)) > a1))))], [(0, .seq (.int .i64) s1.2.2)], 1⟩ hP hN (by kernel_rfl) (allCons hg22 allNil) ?_
            rcases of_bif hT15 with ⟨hb23, hT15⟩ | ⟨hb23, hT15⟩
            · refine HT.cond1 rfl hb23 ?_
              obtain ⟨hg24, hT15⟩ := of_guard hT15
              refine HT.reg (rs := [⟨none, .no⟩, ⟨none, .no⟩, ⟨none, .ty (.int .i64)⟩, ⟨none, .ty (.int .i64)⟩, ⟨none, .no⟩]) (st' := ⟨[(5, .one (.all 2)), (34, .one (.all 2)), (33, .one (.all 1)), (32, .one (.dat (.int .i64) a1)), (31, .one (.all 0)), (0, .one (.dat (.sl (.int .i64)) a0)), (1, .one (.dat (.int .i64) a1)), (5, .one (.all 0)), (6, .one (.dat .bool true)), (7, .one (.dat (.int .i64) s1.2.1)), (30, .one (.dat .bool (decide ((List.getD a0 (Int.toNat s1.2.1) (0 : Int)) > a1))))], [(0, .gone), (2, .seq (.int .i64) (s1.2.2 ++ ([a1] : List Int))), (1, .seq (.int .i64) ([a1] : List Int)), (0, .seq (.int .i64) s1.2.2)], 3⟩) hP hN (by kernel_rfl) (allCons hg24 allNil) (qThen ?_)
              exact (Le.cv (s := ⟨[(2, 0)], [], [], false⟩) (own := []) (ps := [a0 = a0, a1 = a1, true = true, s1.2.1 = s1.2.1, (s1.2.2 ++ ([a1] : List Int)) = (s1.2.2 ++ ([a1] : List Int))]) (st' := ⟨[(0, .one (.dat (.sl (.int .i64)) a0)), (1, .one (.dat (.int .i64) a1)), (5, .one (.all 0)), (6, .one (.dat .bool true)), (7, .one (.dat (.int .i64) s1.2.1))], [(0, .seq (.int .i64) (s1.2.2 ++ ([a1] : List Int)))], 1⟩) hO (fun h => by cases h) (by kernel_rfl) ⟨rfl, rfl, rfl, rfl, rfl, trivial⟩).ht (cont (true, (s1.2.2 ++ ([a1] : List Int))) (of_some hT15))
            · refine HT.cond0 rfl hb23 ?_
              refine HT.skip (qThen ?_)
              exact (Le.cv (s := ⟨[(0, 0)], [], [], false⟩) (own := []) (ps := [a0 = a0, a1 = a1, true = true, s1.2.1 = s1.2.1, s1.2.2 = s1.2.2]) (st' := ⟨[(0, .one (.dat (.sl (.int .i64)) a0)), (1, .one (.dat (.int .i64) a1)), (5, .one (.all 0)), (6, .one (.dat .bool true)), (7, .one (.dat (.int .i64) s1.2.1))], [(0, .seq (.int .i64) s1.2.2)], 1⟩) hO (fun h => by cases h) (by kernel_rfl) ⟨rfl, rfl, rfl, rfl, rfl, trivial⟩).ht (cont (true, s1.2.2) (of_some hT15))
          · refine HT.cond0 rfl hb21 ?_
            refine HT.skip (qThen ?_)
            exact (Le.cv (s := ⟨[(0, 0)], [], [], false⟩) (own := []) (ps := [a0 = a0, a1 = a1, s1.1 = s1.1, s1.2.1 = s1.2.1, s1.2.2 = s1.2.2]) (st' := ⟨[(0, .one (.dat (.sl (.int .i64)) a0)), (1, .one (.dat (.int .i64) a1)), (5, .one (.all 0)), (6, .one (.dat .bool s1.1)), (7, .one (.dat (.int .i64) s1.2.1))], [(0, .seq (.int .i64) s1.2.2)], 1⟩) hO (fun h => by cases h) (by kernel_rfl) ⟨rfl, rfl, rfl, rfl, rfl, trivial⟩).ht (cont (s1.1, s1.2.2) (of_some hT15))
        · rcases of_bif hT20 with ⟨hb25, hT20⟩ | ⟨hb25, hT20⟩
          · obtain ⟨hg26, hT20⟩ := of_guard hT20
            refine HT.reg (rs := [⟨none, .no⟩, ⟨none, .no⟩, ⟨none, .no⟩, ⟨some true, .no⟩, ⟨some true, .no⟩, ⟨some true, .no⟩, ⟨some true, .no⟩, ⟨some true, .no⟩, ⟨some true, .no⟩, ⟨none, .tv true⟩]) (st' := ⟨[(24, .one (.dat .bool (decide ((List.getD a0 (Int.toNat s1.2.1) (0 : Int)) ≥ a1)))), (23, .one (.dat .bool (decide ((List.getD a0 (Int.toNat s1.2.1) (0 : Int)) ≥ a1)))), (22, .one (.dat (.int .i64) a1)), (21, .one (.dat (.int .i64) (List.getD a0 (Int.toNat s1.2.1) (0 : Int)))), (20, .one (.ip (.int .i64) (List.getD a0 (Int.toNat s1.2.1) (0 : Int)) 0)), (19, .one (.dat (.int .i64) s1.2.1)), (18, .one (.dat (.sl (.int .i64)) a0)), (17, .one (.dat .bool (!s1.1))), (16, .one (.dat .bool (!s1.1))), (15, .one (.dat .bool s1.1)), (0, .one (.dat (.sl (.int .i64)) a0)), (1, .one (.dat (.int .i64) a1)), (5, .one (.all 0)), (6, .one (.dat .bool s1.1)), (7, .one (.dat (.int .i64) s1.2.1)), (12, .one (.dat .bool (decide (s1.2.1 < (lenI a0)))))], [(0, .seq (.int .i64) s1.2.2)], 1⟩) hP hN (by kernel_rfl) (allCons hb25 (allCons hb25 (allCons hb25 (allCons hg26 (allCons hb25 (allCons hb25 (allCons hb25 (allCons hb25 allNil)))))))) (qThen ?_)
            exact (Le.cv (s := ⟨[(0, 0)], [], [], false⟩) (own := []) (ps := [a0 = a0, a1 = a1, s1.1 = s1.1, s1.2.1 = s1.2.1, (decide ((List.getD a0 (Int.toNat s1.2.1) (0 : Int)) ≥ a1)) = (decide ((List.getD a0 (Int.toNat s1.2.1) (0 : Int)) ≥ a1)), s1.2.2 = s1.2.2]) (st' := ⟨[(0, .one (.dat (.sl (.int .i64)) a0)), (1, .one (.dat (.int .i64) a1)), (5, .one (.all 0)), (6, .one (.dat .bool s1.1)), (7, .one (.dat (.int .i64) s1.2.1)), (24, .one (.dat .bool (decide ((List.getD a0 (Int.toNat s1.2.1) (0 : Int)) ≥ a1))))], [(0, .seq (.int .i64) s1.2.2)], 1⟩) hO (fun h => by cases h) (by kernel_rfl) ⟨rfl, rfl, rfl, rfl, rfl, rfl, trivial⟩).ht (cont (decide ((List.getD a0 (Int.toNat s1.2.1) (0 : Int)) ≥ a1)) (of_some hT20))
          · refine HT.reg (rs := [⟨none, .no⟩, ⟨none, .no⟩, ⟨none, .no⟩, ⟨some false, .no⟩, ⟨some false, .no⟩, ⟨some false, .no⟩, ⟨some false, .no⟩, ⟨some false, .no⟩, ⟨some false, .no⟩, ⟨none, .tv false⟩]) (st' := ⟨[(24, .one (.dat .bool false)), (23, .und), (22, .und), (21, .und), (20, .und), (19, .und), (18, .und), (17, .one (.dat .bool (!s1.1))), (16, .one (.dat .bool (!s1.1))), (15, .one (.dat .bool s1.1)), (0, .one (.dat (.sl (.int .i64)) a0)), (1, .one (.dat (.int .i64) a1)), (5, .one (.all 0)), (6, .one (.dat .bool s1.1)), (7, .one (.dat (.int .i64) s1.2.1)), (12, .one (.dat .bool (decide (s1.2.1 < (lenI a0)))))], [(0, .seq (.int .i64) s1.2.2)], 1⟩) hP hN (by kernel_rfl) (allCons hb25 (allCons hb25 (allCons hb25 (allCons hb25 (allCons hb25 (allCons hb25 (allCons hb25 allNil))))))) (qThen ?_)
            exact (Le.cv (s := ⟨[(0, 0)], [], [], false⟩) (own := []) (ps := [a0 = a0, a1 = a1, s1.1 = s1.1, s1.2.1 = s1.2.1, false = false, s1.2.2 = s1.2.2]) (st' := ⟨[(0, .one (.dat (.sl (.int .i64)) a0)), (1, .one (.dat (.int .i64) a1)), (5, .one (.all 0)), (6, .one (.dat .bool s1.1)), (7, .one (.dat (.int .i64) s1.2.1)), (24, .one (.dat .bool false))], [(0, .seq (.int .i64) s1.2.2)], 1⟩) hO (fun h => by cases h) (by kernel_rfl) ⟨rfl, rfl, rfl, rfl, rfl, rfl, trivial⟩).ht (cont false (of_some hT20))
    · refine HT.cond0 rfl hb12 ?_
      have hx10 := of_some hx10
      subst hx10
      refine (Le.cv (s := ⟨[(0, 0)], [], [], false⟩) (own := []) (ps := [a1 = a1, s1.1 = s1.1, s1.2.2 = s1.2.2]) (st' := ⟨[(1, .one (.dat (.int .i64) a1)), (5, .one (.all 0)), (6, .one (.dat .bool s1.1))], [(0, .seq (.int .i64) s1.2.2)], 1⟩) hO (fun h => by cases h) (by kernel_rfl) ⟨rfl, rfl, rfl, trivial⟩).ht ?_
      exact HT.exit (qThenE (qLoopE (hk11 (s1.1, s1.2.2) rfl)))

noncomputable def spec_l07States_B1 (a0 : Int × Int × List Int × List Bool) (a1 : List Int × List Int) (s14 : Int × Int × List Int) : Option ((Int × Int × List Int) ⊕ ((Int × List Int))) :=
  bif (decide (s14.2.1 < (lenI a1.2))) then
    guardP ((0 : Int) ≤ s14.2.1 ∧ s14.2.1 < lenI a1.2) (
      (spec_l07Go (a0.1, a0.2.1, a0.2.2.1, a0.2.2.2) s14.1 (List.getD a1.2 (Int.toNat s14.2.1) (0 : Int))).bind fun y22 =>
      (spec_l00Put s14.2.2 y22).bind fun y24 =>
      some (.inl (y22, (wadd .i64 s14.2.1 (1 : Int)), y24)))
  else
    some (.inr (s14.1, s14.2.2))

noncomputable def spec_l07States_B2 (a0 : Int × Int × List Int × List Bool) (a1 : List Int × List Int) (s7 : Int × Int × List Int) : Option ((Int × Int × List Int) ⊕ (List Int)) :=
  bif (decide (s7.2.1 < a0.1)) then
    (rounds (spec_l07States_B1 a0 a1) (s7.1, (0 : Int), s7.2.2)).bind fun r16 =>
    some (.inl (r16.1, (wadd .i64 s7.2.1 (1 : Int)), r16.2))
  else
    some (.inr s7.2.2)

noncomputable def spec_l07States_B3 (a0 : Int × Int × List Int × List Bool) (a1 : List Int × List Int) (s32 : Int × Int) : Option ((Int × Int) ⊕ (Int)) :=
  bif (decide (s32.2 < (lenI a1.2))) then
    guardP ((0 : Int) ≤ s32.2 ∧ s32.2 < lenI a1.2) (
      (spec_l07Go (a0.1, a0.2.1, a0.2.2.1, a0.2.2.2) s32.1 (List.getD a1.2 (Int.toNat s32.2) (0 : Int))).bind fun y40 =>
      some (.inl (y40, (wadd .i64 s32.2 (1 : Int)))))
  else
    some (.inr s32.1)

noncomputable def spec_l07States_B4 (a0 : Int × Int × List Int × List Bool) (a1 : List Int × List Int) (s4 : Int × Int) : Option ((Int × Int) ⊕ (Int)) :=
  bif (decide (s4.2 < a0.1)) then
    (rounds (spec_l07States_B3 a0 a1) (s4.1, (0 : Int))).bind fun r34 =>
    some (.inl (r34, (wadd .i64 s4.2 (1 : Int))))
  else
    some (.inr s4.1)

noncomputable def spec_l07States_B5 (a0 : Int × Int × List Int × List Bool) (a1 : List Int × List Int) (s1 : Int × Int) : Option ((Int × Int) ⊕ (Int)) :=
  bif (decide (s1.2 < (lenI a1.1))) then
    guardP ((0 : Int) ≤ s1.2 ∧ s1.2 < lenI a1.1) (
      (spec_l07Go (a0.1, a0.2.1, a0.2.2.1, a0.2.2.2) s1.1 (List.getD a1.1 (Int.toNat s1.2) (0 : Int))).bind fun y49 =>
      some (.inl (y49, (wadd .i64 s1.2 (1 : Int)))))
  else
    some (.inr s1.1)

noncomputable def spec_l07States (a0 : Int × Int × List Int × List Bool) (a1 : List Int × List Int) : Option (List Int) :=
  (rounds (spec_l07States_B5 a0 a1) ((0 : Int), (0 : Int))).bind fun r3 =>
  (rounds (spec_l07States_B4 a0 a1) (r3, (0 : Int))).bind fun r6 =>
  (rounds (spec_l07States_B2 a0 a1) (r6, (0 : Int), ([] : List Int))).bind fun r9 =>
  some r9

theorem f119_ok {a0 : Int × Int × List Int × List Bool} {a1 : List Int × List Int} {r : List Int} (hr : spec_l07States a0 a1 = some r) : CallOK Try.prog 119 [.pimm (.st (.pair (.int .i64) (.pair (.int .i64) (.pair (.sl (.int .i64)) (.sl .bool))))) a0, .pimm (.st (.pair (.sl (.int .i64)) (.sl (.int .i64)))) a1] [⟨true, (.sl (.int .i64)), r⟩] [] := by
  unfold spec_l07States at hr
  refine CallOK.of_body (ts := [(true, (.sl (.int .i64)))]) Try.func119 rfl (by kernel_rfl) (Nat.le_of_ble_eq_true (by kernel_rfl)) fun cx hP hN hO hF => ?_
  have hO : cx.own.map Prod.fst = [] := hO
  have hF := hF rfl
  show HT cx ⟨[(0, .one (.ip (.st (.pair (.int .i64) (.pair (.int .i64) (.pair (.sl (.int .i64)) (.sl .bool))))) a0 0)), (1, .one (.ip (.st (.pair (.sl (.int .i64)) (.sl (.int .i64)))) a1 0))], [], 0⟩ _ _
  refine HT.reg1 [0, 1] [⟨none, .no⟩] ⟨[(0, .one (.ip (.st (.pair (.int .i64) (.pair (.int .i64) (.pair (.sl (.int .i64)) (.sl .bool))))) a0 0)), (1, .one (.ip (.st (.pair (.sl (.int .i64)) (.sl (.int .i64)))) a1 0))], [], 0⟩ hP hN (by kernel_rfl) allNil ?_
  refine HT.reg1 [0, 1, 5] [⟨none, .no⟩] ⟨[(0, .one (.ip (.st (.pair (.int .i64) (.pair (.int .i64) (.pair (.sl (.int .i64)) (.sl .bool))))) a0 0)), (1, .one (.ip (.st (.pair (.sl (.int .i64)) (.sl (.int .i64)))) a1 0)), (5, .one (.dat (.int .i64) (0 : Int)))], [], 0⟩ hP hN (by kernel_rfl) allNil ?_
  refine HT.seq ?_
  refine HT.reg1 [0, 1, 5, 16, 17] [⟨none, .no⟩, ⟨none, .no⟩, ⟨none, .no⟩, ⟨none, .no⟩, ⟨none, .no⟩, ⟨none, .no⟩] ⟨[(0, .one (.ip (.st (.pair (.int .i64) (.pair (.int .i64) (.pair (.sl (.int .i64)) (.sl .bool))))) a0 0)), (1, .one (.ip (.st (.pair (.sl (.int .i64)) (.sl (.int .i64)))) a1 0)), (5, .one (.dat (.int .i64) (0 : Int))), (16, .one (.dat (.int .i64) (lenI a1.1))), (17, .one (.dat (.int .i64) (0 : Int)))], [], 0⟩ hP hN (by kernel_rfl) allNil ?_
  refine HT.block ?_
  obtain ⟨r2, hL51, hr⟩ := of_bind hr
  refine (Le.cv (s := ⟨[], [], [], false⟩) (own := []) (ps := [a0 = a0, a1 = a1, (0 : Int) = (0 : Int), (lenI a1.1) = (lenI a1.1), (0 : Int) = (0 : Int)]) (st' := ⟨[(0, .one (.ip (.st (.pair (.int .i64) (.pair (.int .i64) (.pair (.sl (.int .i64)) (.sl .bool))))) a0 0)), (1, .one (.ip (.st (.pair (.sl (.int .i64)) (.sl (.int .i64)))) a1 0)), (5, .one (.dat (.int .i64) (0 : Int))), (16, .one (.dat (.int .i64) (lenI a1.1))), (17, .one (.dat (.int .i64) (0 : Int)))], [], 0⟩) hO (fun h => by cases h) (by kernel_rfl) ⟨rfl, rfl, rfl, rfl, rfl, trivial⟩).ht ?_
  refine HT.loopE (s := ((0 : Int), (0 : Int))) (fun (s1 : Int × Int) => ⟨[(0, .one (.ip (.st (.pair (.int .i64) (.pair (.int .i64) (.pair (.sl (.int .i64)) (.sl .bool))))) a0 0)), (1, .one (.ip (.st (.pair (.sl (.int .i64)) (.sl (.int .i64)))) a1 0)), (5, .one (.dat (.int .i64) s1.1)), (16, .one (.dat (.int .i64) (lenI a1.1))), (17, .one (.dat (.int .i64) s1.2))], [], 0⟩) (fun (r3 : Int) => (.exit 0, ⟨[(0, .one (.ip (.st (.pair (.int .i64) (.pair (.int .i64) (.pair (.sl (.int .i64)) (.sl .bool))))) a0 0)), (1, .one (.ip (.st (.pair (.sl (.int .i64)) (.sl (.int .i64)))) a1 0)), (5, .one (.dat (.int .i64) r3))], [], 0⟩)) hL51 ?_ (fun s1 x44 hx45 hk46 => ?_)
  · refine (qBlockX (qThen ?_))
    refine HT.seq ?_
    refine HT.reg1 [0, 1, 5, 7] [⟨none, .no⟩] ⟨[(0, .one (.ip (.st (.pair (.int .i64) (.pair (.int .i64) (.pair (.sl (.int .i64)) (.sl .bool))))) a0 0)), (1, .one (.ip (.st (.pair (.sl (.int .i64)) (.sl (.int .i64)))) a1 0)), (5, .one (.dat (.int .i64) r2)), (7, .one (.dat (.int .i64) (0 : Int)))], [], 0⟩ hP hN (by kernel_rfl) allNil ?_
    refine HT.block ?_
    obtain ⟨r5, hL43, hr⟩ := of_bind hr
    refine (Le.cv (s := ⟨[], [], [], false⟩) (own := []) (ps := [a0 = a0, a1 = a1, r2 = r2, (0 : Int) = (0 : Int)]) (st' := ⟨[(0, .one (.ip (.st (.pair (.int .i64) (.pair (.int .i64) (.pair (.sl (.int .i64)) (.sl .bool))))) a0 0)), (1, .one (.ip (.st (.pair (.sl (.int .i64)) (.sl (.int .i64)))) a1 0)), (5, .one (.dat (.int .i64) r2)), (7, .one (.dat (.int .i64) (0 : Int)))], [], 0⟩) hO (fun h => by cases h) (by kernel_rfl) ⟨rfl, rfl, rfl, rfl, trivial⟩).ht ?_
    refine HT.loopE (s := (r2, (0 : Int))) (fun (s4 : Int × Int) => ⟨[(0, .one (.ip (.st (.pair (.int .i64) (.pair (.int .i64) (.pair (.sl (.int .i64)) (.sl .bool))))) a0 0)), (1, .one (.ip (.st (.pair (.sl (.int .i64)) (.sl (.int .i64)))) a1 0)), (5, .one (.dat (.int .i64) s4.1)), (7, .one (.dat (.int .i64) s4.2))], [], 0⟩) (fun (r6 : Int) => (.exit 2, ⟨[(0, .one (.ip (.st (.pair (.int .i64) (.pair (.int .i64) (.pair (.sl (.int .i64)) (.sl .bool))))) a0 0)), (1, .one (.ip (.st (.pair (.sl (.int .i64)) (.sl (.int .i64)))) a1 0)), (5, .one (.dat (.int .i64) r6))], [], 0⟩)) hL43 ?_ (fun s4 x28 hx29 hk30 => ?_)
    · refine (qBlockX (qThen ?_))
      refine HT.reg1 [0, 1, 5, 9] [⟨none, .no⟩, ⟨none, .no⟩] ⟨[(0, .one (.ip (.st (.pair (.int .i64) (.pair (.int .i64) (.pair (.sl (.int .i64)) (.sl .bool))))) a0 0)), (1, .one (.ip (.st (.pair (.sl (.int .i64)) (.sl (.int .i64)))) a1 0)), (5, .one (.dat (.int .i64) r5)), (9, .one (.nilS))], [], 0⟩ hP hN (by kernel_rfl) allNil ?_
      refine HT.seq ?_
      refine HT.reg1 [0, 1, 5, 9, 10] [⟨none, .no⟩] ⟨[(0, .one (.ip (.st (.pair (.int .i64) (.pair (.int .i64) (.pair (.sl (.int .i64)) (.sl .bool))))) a0 0)), (1, .one (.ip (.st (.pair (.sl (.int .i64)) (.sl (.int .i64)))) a1 0)), (5, .one (.dat (.int .i64) r5)), (9, .one (.nilS)), (10, .one (.dat (.int .i64) (0 : Int)))], [], 0⟩ hP hN (by kernel_rfl) allNil ?_
      refine HT.block ?_
      obtain ⟨r8, hL27, hr⟩ := of_bind hr
      refine (Le.cv (s := ⟨[], [0], [], false⟩) (own := []) (ps := [a0 = a0, a1 = a1, r5 = r5, (0 : Int) = (0 : Int), ([] : List Int) = []]) (st' := ⟨[(0, .one (.ip (.st (.pair (.int .i64) (.pair (.int .i64) (.pair (.sl (.int .i64)) (.sl .bool))))) a0 0)), (1, .one (.ip (.st (.pair (.sl (.int .i64)) (.sl (.int .i64)))) a1 0)), (5, .one (.dat (.int .i64) r5)), (9, .one (.all 0)), (10, .one (.dat (.int .i64) (0 : Int)))], [(0, .seq (.int .i64) ([] : List Int))], 1⟩) hO (fun h => by cases h) (by kernel_rfl) ⟨rfl, rfl, rfl, rfl, rfl, trivial⟩).ht ?_
      refine HT.loopE (s := (r5, (0 : Int), ([] : List Int))) (fun (s7 : Int × Int × List Int) => ⟨[(0, .one (.ip (.st (.pair (.int .i64) (.pair (.int .i64) (.pair (.sl (.int .i64)) (.sl .bool))))) a0 0)), (1, .one (.ip (.st (.pair (.sl (.int .i64)) (.sl (.int .i64)))) a1 0)), (5, .one (.dat (.int .i64) s7.1)), (9, .one (.all 0)), (10, .one (.dat (.int .i64) s7.2.1))], [(0, .seq (.int .i64) s7.2.2)], 1⟩) (fun (r9 : List Int) => (.exit 6, ⟨[(9, .one (.all 0))], [(0, .seq (.int .i64) r9)], 1⟩)) hL27 ?_ (fun s7 x10 hx11 hk12 => ?_)
      · refine (qBlockX (qThen ?_))
        refine HT.reg1 [4] [⟨none, .no⟩, ⟨none, .no⟩] ⟨[(4, .one (.all 0))], [(0, .seq (.int .i64) r8)], 1⟩ hP hN (by kernel_rfl) allNil ?_
        have hr := of_some hr
        subst hr
        exact HT.ret ⟨[.one (.all 0)], [0], [], by kernel_rfl, by kernel_rfl, rfl, by kernel_rfl, by kernel_rfl, trivial⟩
      · refine HT.seq ?_
        refine HT.reg1 [0, 1, 5, 9, 10, 64] [⟨none, .no⟩, ⟨none, .no⟩, ⟨none, .no⟩, ⟨none, .no⟩, ⟨none, .no⟩, ⟨none, .no⟩] ⟨[(0, .one (.ip (.st (.pair (.int .i64) (.pair (.int .i64) (.pair (.sl (.int .i64)) (.sl .bool))))) a0 0)), (1, .one (.ip (.st (.pair (.sl (.int .i64)) (.sl (.int .i64)))) a1 0)), (5, .one (.dat (.int .i64) s7.1)), (9, .one (.all 0)), (10, .one (.dat (.int .i64) s7.2.1)), (64, .one (.dat .bool (decide (s7.2.1 < a0.1))))], [(0, .seq (.int .i64) s7.2.2)], 1⟩ hP hN (by kernel_rfl) allNil ?_
        rcases of_bif hx11 with ⟨hb13, hx11⟩ | ⟨hb13, hx11⟩
        · refine HT.cond1 rfl hb13 ?_
          refine HT.skip (qThen ?_)
          refine HT.seq ?_
          refine HT.block ?_
          refine HT.reg1 [0, 1, 5, 9, 10, 71, 72] [⟨none, .no⟩, ⟨none, .no⟩, ⟨none, .no⟩, ⟨none, .no⟩, ⟨none, .no⟩, ⟨none, .no⟩] ⟨[(0, .one (.ip (.st (.pair (.int .i64) (.pair (.int .i64) (.pair (.sl (.int .i64)) (.sl .bool))))) a0 0)), (1, .one (.ip (.st (.pair (.sl (.int .i64)) (.sl (.int .i64)))) a1 0)), (5, .one (.dat (.int .i64) s7.1)), (9, .one (.all 0)), (10, .one (.dat (.int .i64) s7.2.1)), (71, .one (.dat (.int .i64) (lenI a1.2))), (72, .one (.dat (.int .i64) (0 : Int)))], [(0, .seq (.int .i64) s7.2.2)], 1⟩ hP hN (by kernel_rfl) allNil ?_
          refine HT.block ?_
          obtain ⟨r15, hL26, hx11⟩ := of_bind hx11
          refine (Le.cv (s := ⟨[(0, 0)], [], [], false⟩) (own := []) (ps := [a0 = a0, a1 = a1, s7.1 = s7.1, s7.2.1 = s7.2.1, (lenI a1.2) = (lenI a1.2), (0 : Int) = (0 : Int), s7.2.2 = s7.2.2]) (st' := ⟨[(0, .one (.ip (.st (.pair (.int .i64) (.pair (.int .i64) (.pair (.sl (.int .i64)) (.sl .bool))))) a0 0)), (1, .one (.ip (.st (.pair (.sl (.int .i64)) (.sl (.int .i64)))) a1 0)), (5, .one (.dat (.int .i64) s7.1)), (9, .one (.all 0)), (10, .one (.dat (.int .i64) s7.2.1)), (71, .one (.dat (.int .i64) (lenI a1.2))), (72, .one (.dat (.int .i64) (0 : Int)))], [(0, .seq (.int .i64) s7.2.2)], 1⟩) hO (fun h => by cases h) (by kernel_rfl) ⟨rfl, rfl, rfl, rfl, rfl, rfl, rfl, trivial⟩).ht ?_
          refine HT.loopE (s := (s7.1, (0 : Int), s7.2.2)) (fun (s14 : Int × Int × List Int) => ⟨[(0, .one (.ip (.st (.pair (.int .i64) (.pair (.int .i64) (.pair (.sl (.int .i64)) (.sl .bool))))) a0 0)), (1, .one (.ip (.st (.pair (.sl (.int .i64)) (.sl (.int .i64)))) a1 0)), (5, .one (.dat (.int .i64) s14.1)), (9, .one (.all 0)), (10, .one (.dat (.int .i64) s7.2.1)), (71, .one (.dat (.int .i64) (lenI a1.2))), (72, .one (.dat (.int .i64) s14.2.1))], [(0, .seq (.int .i64) s14.2.2)], 1⟩) (fun (r16 : (Int × List Int)) => (.exit 8, ⟨[(0, .one (.ip (.st (.pair (.int .i64) (.pair (.int .i64) (.pair (.sl (.int .i64)) (.sl .bool))))) a0 0)), (1, .one (.ip (.st (.pair (.sl (.int .i64)) (.sl (.int .i64)))) a1 0)), (5, .one (.dat (.int .i64) r16.1)), (9, .one (.all 0)), (10, .one (.dat (.int .i64) s7.2.1))], [(0, .seq (.int .i64) r16.2)], 1⟩)) hL26 ?_ (fun s14 x17 hx18 hk19 => ?_)
          · refine (qBlockX (qBlock (qThen ?_)))
            have hx11 := of_some hx11
            subst hx11
            refine HT.reg (rs := [⟨none, .no⟩, ⟨none, .no⟩, ⟨none, .no⟩]) (st' := ⟨[(10, .one (.dat (.int .i64) (wadd .i64 s7.2.1 (1 : Int)))), (66, .one (.dat (.int .i64) (wadd .i64 s7.2.1 (1 : Int)))), (65, .one (.dat (.int .i64) s7.2.1)), (0, .one (.ip (.st (.pair (.int .i64) (.pair (.int .i64) (.pair (.sl (.int .i64)) (.sl .bool))))) a0 0)), (1, .one (.ip (.st (.pair (.sl (.int .i64)) (.sl (.int .i64)))) a1 0)), (5, .one (.dat (.int .i64) r15.1)), (9, .one (.all 0)), (10, .one (.dat (.int .i64) s7.2.1))], [(0, .seq (.int .i64) r15.2)], 1⟩) hP hN (by kernel_rfl) allNil (qLoopN ⟨(r15.1, (wadd .i64 s7.2.1 (1 : Int)), r15.2), rfl, Le.cv (s := ⟨[(0, 0)], [], [], false⟩) (own := []) (ps := [a0 = a0, a1 = a1, r15.1 = r15.1, (wadd .i64 s7.2.1 (1 : Int)) = (wadd .i64 s7.2.1 (1 : Int)), r15.2 = r15.2]) (st' := ⟨[(0, .one (.ip (.st (.pair (.int .i64) (.pair (.int .i64) (.pair (.sl (.int .i64)) (.sl .bool))))) a0 0)), (1, .one (.ip (.st (.pair (.sl (.int .i64)) (.sl (.int .i64)))) a1 0)), (5, .one (.dat (.int .i64) r15.1)), (9, .one (.all 0)), (10, .one (.dat (.int .i64) (wadd .i64 s7.2.1 (1 : Int))))], [(0, .seq (.int .i64) r15.2)], 1⟩) hO (fun h => by cases h) (by kernel_rfl) ⟨rfl, rfl, rfl, rfl, rfl, trivial⟩⟩)
          · refine HT.reg1 [0, 1, 5, 9, 10, 71, 72, 73] [⟨none, .no⟩] ⟨[(0, .one (.ip (.st (.pair (.int .i64) (.pair (.int .i64) (.pair (.sl (.int .i64)) (.sl .bool))))) a0 0)), (1, .one (.ip (.st (.pair (.sl (.int .i64)) (.sl (.int .i64)))) a1 0)), (5, .one (.dat (.int .i64) s14.1)), (9, .one (.all 0)), (10, .one (.dat (.int .i64) s7.2.1)), (71, .one (.dat (.int .i64) (lenI a1.2))), (72, .one (.dat (.int .i64) s14.2.1)), (73, .one (.dat .bool (decide (s14.2.1 < (lenI a1.2)))))], [(0, .seq (.int .i64) s14.2.2)], 1⟩ hP hN (by kernel_rfl) allNil ?_
            refine HT.seq ?_
            rcases of_bif hx18 with ⟨hb20, hx18⟩ | ⟨hb20, hx18⟩
            · refine HT.cond1 rfl hb20 ?_
              refine HT.skip (qThen ?_)
              refine HT.seq ?_
              refine HT.block ?_
              refine HT.reg1 [0, 1, 5, 9, 10, 11, 71, 72] [⟨none, .no⟩, ⟨none, .no⟩] ⟨[(0, .one (.ip (.st (.pair (.int .i64) (.pair (.int .i64) (.pair (.sl (.int .i64)) (.sl .bool))))) a0 0)), (1, .one (.ip (.st (.pair (.sl (.int .i64)) (.sl (.int .i64)))) a1 0)), (5, .one (.dat (.int .i64) s14.1)), (9, .one (.all 0)), (10, .one (.dat (.int .i64) s7.2.1)), (11, .one (.dat (.int .i64) s14.2.1)), (71, .one (.dat (.int .i64) (lenI a1.2))), (72, .one (.dat (.int .i64) s14.2.1))], [(0, .seq (.int .i64) s14.2.2)], 1⟩ hP hN (by kernel_rfl) allNil ?_
              obtain ⟨hg21, hx18⟩ := of_guard hx18
              obtain ⟨y22, hc23, hx18⟩ := of_bind hx18
              refine HT.reg1 [0, 1, 5, 9, 10, 71, 72] [⟨none, .no⟩, ⟨none, .no⟩, ⟨none, .no⟩, ⟨none, .no⟩, ⟨none, .no⟩, ⟨none, .no⟩, ⟨none, .no⟩, ⟨none, .no⟩, ⟨none, .no⟩, ⟨none, .call [.pimm (.st (.pair (.int .i64) (.pair (.int .i64) (.pair (.sl (.int .i64)) (.sl .bool))))), .imm (.int .i64), .imm (.int .i64)] [⟨false, (.int .i64), y22⟩] []⟩, ⟨none, .no⟩] ⟨[(0, .one (.ip (.st (.pair (.int .i64) (.pair (.int .i64) (.pair (.sl (.int .i64)) (.sl .bool))))) a0 0)), (1, .one (.ip (.st (.pair (.sl (.int .i64)) (.sl (.int .i64)))) a1 0)), (5, .one (.dat (.int .i64) y22)), (9, .one (.all 0)), (10, .one (.dat (.int .i64) s7.2.1)), (71, .one (.dat (.int .i64) (lenI a1.2))), (72, .one (.dat (.int .i64) s14.2.1))], [(0, .seq (.int .i64) s14.2.2)], 1⟩ hP hN (by kernel_rfl) (allCons hg21 (allCons (f143_ok hc23) allNil)) ?_
              obtain ⟨y24, hc25, hx18⟩ := of_bind hx18
              refine HT.reg (rs := [⟨none, .no⟩, ⟨none, .no⟩, ⟨none, .call [.imm (.sl (.int .i64)), .imm (.int .i64)] [⟨true, (.sl (.int .i64)), y24⟩] []⟩, ⟨none, .no⟩]) (st' := ⟨[(9, .one (.all 1)), (87, .one (.all 1)), (86, .one (.dat (.int .i64) y22)), (85, .one (.all 0)), (0, .one (.ip (.st (.pair (.int .i64) (.pair (.int .i64) (.pair (.sl (.int .i64)) (.sl .bool))))) a0 0)), (1, .one (.ip (.st (.pair (.sl (.int .i64)) (.sl (.int .i64)))) a1 0)), (5, .one (.dat (.int .i64) y22)), (9, .one (.all 0)), (10, .one (.dat (.int .i64) s7.2.1)), (71, .one (.dat (.int .i64) (lenI a1.2))), (72, .one (.dat (.int .i64) s14.2.1))], [(1, .seq (.int .i64) y24), (0, .seq (.int .i64) s14.2.2)], 2⟩) hP hN (by kernel_rfl) (allCons (f144_ok hc25) allNil) (qBlock (qThen ?_))
              have hx18 := of_some hx18
              subst hx18
              refine HT.reg (rs := [⟨none, .no⟩, ⟨none, .no⟩]) (st' := ⟨[(72, .one (.dat (.int .i64) (wadd .i64 s14.2.1 (1 : Int)))), (88, .one (.dat (.int .i64) (wadd .i64 s14.2.1 (1 : Int)))), (9, .one (.all 1)), (87, .one (.all 1)), (86, .one (.dat (.int .i64) y22)), (85, .one (.all 0)), (0, .one (.ip (.st (.pair (.int .i64) (.pair (.int .i64) (.pair (.sl (.int .i64)) (.sl .bool))))) a0 0)), (1, .one (.ip (.st (.pair (.sl (.int .i64)) (.sl (.int .i64)))) a1 0)), (5, .one (.dat (.int .i64) y22)), (9, .one (.all 0)), (10, .one (.dat (.int .i64) s7.2.1)), (71, .one (.dat (.int .i64) (lenI a1.2))), (72, .one (.dat (.int .i64) s14.2.1))], [(1, .seq (.int .i64) y24), (0, .seq (.int .i64) s14.2.2)], 2⟩) hP hN (by kernel_rfl) allNil (qLoopN ⟨(y22, (wadd .i64 s14.2.1 (1 : Int)), y24), rfl, Le.cv (s := ⟨[(1, 0)], [], [], false⟩) (own := []) (ps := [a0 = a0, a1 = a1, y22 = y22, s7.2.1 = s7.2.1, (lenI a1.2) = (lenI a1.2), (wadd .i64 s14.2.1 (1 : Int)) = (wadd .i64 s14.2.1 (1 : Int)), y24 = y24]) (st' := ⟨[(0, .one (.ip (.st (.pair (.int .i64) (.pair (.int .i64) (.pair (.sl (.int .i64)) (.sl .bool))))) a0 0)), (1, .one (.ip (.st (.pair (.sl (.int .i64)) (.sl (.int .i64)))) a1 0)), (5, .one (.dat (.int .i64) y22)), (9, .one (.all 0)), (10, .one (.dat (.int .i64) s7.2.1)), (71, .one (.dat (.int .i64) (lenI a1.2))), (72, .one (.dat (.int .i64) (wadd .i64 s14.2.1 (1 : Int))))], [(0, .seq (.int .i64) y24)], 1⟩) hO (fun h => by cases h) (by kernel_rfl) ⟨rfl, rfl, rfl, rfl, rfl, rfl, rfl, trivial⟩⟩)
            · refine HT.cond0 rfl hb20 ?_
              have hx18 := of_some hx18
              subst hx18
              refine (Le.cv (s := ⟨[(0, 0)], [], [], false⟩) (own := []) (ps := [a0 = a0, a1 = a1, s14.1 = s14.1, s7.2.1 = s7.2.1, s14.2.2 = s14.2.2]) (st' := ⟨[(0, .one (.ip (.st (.pair (.int .i64) (.pair (.int .i64) (.pair (.sl (.int .i64)) (.sl .bool))))) a0 0)), (1, .one (.ip (.st (.pair (.sl (.int .i64)) (.sl (.int .i64)))) a1 0)), (5, .one (.dat (.int .i64) s14.1)), (9, .one (.all 0)), (10, .one (.dat (.int .i64) s7.2.1))], [(0, .seq (.int .i64) s14.2.2)], 1⟩) hO (fun h => by cases h) (by kernel_rfl) ⟨rfl, rfl, rfl, rfl, rfl, trivial⟩).ht ?_
              exact HT.exit (qThenE (qLoopE (hk19 (s14.1, s14.2.2) rfl)))
        · refine HT.cond0 rfl hb13 ?_
          have hx11 := of_some hx11
          subst hx11
          refine (Le.cv (s := ⟨[(0, 0)], [], [], false⟩) (own := []) (ps := [s7.2.2 = s7.2.2]) (st' := ⟨[(9, .one (.all 0))], [(0, .seq (.int .i64) s7.2.2)], 1⟩) hO (fun h => by cases h) (by kernel_rfl) ⟨rfl, trivial⟩).ht ?_
          exact HT.exit (qThenE (qLoopE (hk12 s7.2.2 rfl)))
    · refine HT.seq ?_
      refine HT.reg1 [0, 1, 5, 7, 36] [⟨none, .no⟩, ⟨none, .no⟩, ⟨none, .no⟩, ⟨none, .no⟩, ⟨none, .no⟩, ⟨none, .no⟩] ⟨[(0, .one (.ip (.st (.pair (.int .i64) (.pair (.int .i64) (.pair (.sl (.int .i64)) (.sl .bool))))) a0 0)), (1, .one (.ip (.st (.pair (.sl (.int .i64)) (.sl (.int .i64)))) a1 0)), (5, .one (.dat (.int .i64) s4.1)), (7, .one (.dat (.int .i64) s4.2)), (36, .one (.dat .bool (decide (s4.2 < a0.1))))], [], 0⟩ hP hN (by kernel_rfl) allNil ?_
      rcases of_bif hx29 with ⟨hb31, hx29⟩ | ⟨hb31, hx29⟩
      · refine HT.cond1 rfl hb31 ?_
        refine HT.skip (qThen ?_)
        refine HT.seq ?_
        refine HT.block ?_
        refine HT.reg1 [0, 1, 5, 7, 43, 44] [⟨none, .no⟩, ⟨none, .no⟩, ⟨none, .no⟩, ⟨none, .no⟩, ⟨none, .no⟩, ⟨none, .no⟩] ⟨[(0, .one (.ip (.st (.pair (.int .i64) (.pair (.int .i64) (.pair (.sl (.int .i64)) (.sl .bool))))) a0 0)), (1, .one (.ip (.st (.pair (.sl (.int .i64)) (.sl (.int .i64)))) a1 0)), (5, .one (.dat (.int .i64) s4.1)), (7, .one (.dat (.int .i64) s4.2)), (43, .one (.dat (.int .i64) (lenI a1.2))), (44, .one (.dat (.int .i64) (0 : Int)))], [], 0⟩ hP hN (by kernel_rfl) allNil ?_
        refine HT.block ?_
        obtain ⟨r33, hL42, hx29⟩ := of_bind hx29
        refine (Le.cv (s := ⟨[], [], [], false⟩) (own := []) (ps := [a0 = a0, a1 = a1, s4.1 = s4.1, s4.2 = s4.2, (lenI a1.2) = (lenI a1.2), (0 : Int) = (0 : Int)]) (st' := ⟨[(0, .one (.ip (.st (.pair (.int .i64) (.pair (.int .i64) (.pair (.sl (.int .i64)) (.sl .bool))))) a0 0)), (1, .one (.ip (.st (.pair (.sl (.int .i64)) (.sl (.int .i64)))) a1 0)), (5, .one (.dat (.int .i64) s4.1)), (7, .one (.dat (.int .i64) s4.2)), (43, .one (.dat (.int .i64) (lenI a1.2))), (44, .one (.dat (.int .i64) (0 : Int)))], [], 0⟩) hO (fun h => by cases h) (by kernel_rfl) ⟨rfl, rfl, rfl, rfl, rfl, rfl, trivial⟩).ht ?_
        refine HT.loopE (s := (s4.1, (0 : Int))) (fun (s32 : Int × Int) => ⟨[(0, .one (.ip (.st (.pair (.int .i64) (.pair (.int .i64) (.pair (.sl (.int .i64)) (.sl .bool))))) a0 0)), (1, .one (.ip (.st (.pair (.sl (.int .i64)) (.sl (.int .i64)))) a1 0)), (5, .one (.dat (.int .i64) s32.1)), (7, .one (.dat (.int .i64) s4.2)), (43, .one (.dat (.int .i64) (lenI a1.2))), (44, .one (.dat (.int .i64) s32.2))], [], 0⟩) (fun (r34 : Int) => (.exit 4, ⟨[(0, .one (.ip (.st (.pair (.int .i64) (.pair (.int .i64) (.pair (.sl (.int .i64)) (.sl .bool))))) a0 0)), (1, .one (.ip (.st (.pair (.sl (.int .i64)) (.sl (.int .i64)))) a1 0)), (5, .one (.dat (.int .i64) r34)), (7, .one (.dat (.int .i64) s4.2))], [], 0⟩)) hL42 ?_ (fun s32 x35 hx36 hk37 => ?_)
        · refine (qBlockX (qBlock (qThen ?_)))
          have hx29 := of_some hx29
          subst hx29
          refine HT.reg (rs := [⟨none, .no⟩, ⟨none, .no⟩, ⟨none, .no⟩]) (st' := ⟨[(7, .one (.dat (.int .i64) (wadd .i64 s4.2 (1 : Int)))), (38, .one (.dat (.int .i64) (wadd .i64 s4.2 (1 : Int)))), (37, .one (.dat (.int .i64) s4.2)), (0, .one (.ip (.st (.pair (.int .i64) (.pair (.int .i64) (.pair (.sl (.int .i64)) (.sl .bool))))) a0 0)), (1, .one (.ip (.st (.pair (.sl (.int .i64)) (.sl (.int .i64)))) a1 0)), (5, .one (.dat (.int .i64) r33)), (7, .one (.dat (.int .i64) s4.2))], [], 0⟩) hP hN (by kernel_rfl) allNil (qLoopN ⟨(r33, (wadd .i64 s4.2 (1 : Int))), rfl, Le.cv (s := ⟨[], [], [], false⟩) (own := []) (ps := [a0 = a0, a1 = a1, r33 = r33, (wadd .i64 s4.2 (1 : Int)) = (wadd .i64 s4.2 (1 : Int))]) (st' := ⟨[(0, .one (.ip (.st (.pair (.int .i64) (.pair (.int .i64) (.pair (.sl (.int .i64)) (.sl .bool))))) a0 0)), (1, .one (.ip (.st (.pair (.sl (.int .i64)) (.sl (.int .i64)))) a1 0)), (5, .one (.dat (.int .i64) r33)), (7, .one (.dat (.int .i64) (wadd .i64 s4.2 (1 : Int))))], [], 0⟩) hO (fun h => by cases h) (by kernel_rfl) ⟨rfl, rfl, rfl, rfl, trivial⟩⟩)
        · refine HT.reg1 [0, 1, 5, 7, 43, 44, 45] [⟨none, .no⟩] ⟨[(0, .one (.ip (.st (.pair (.int .i64) (.pair (.int .i64) (.pair (.sl (.int .i64)) (.sl .bool))))) a0 0)), (1, .one (.ip (.st (.pair (.sl (.int .i64)) (.sl (.int .i64)))) a1 0)), (5, .one (.dat (.int .i64) s32.1)), (7, .one (.dat (.int .i64) s4.2)), (43, .one (.dat (.int .i64) (lenI a1.2))), (44, .one (.dat (.int .i64) s32.2)), (45, .one (.dat .bool (decide (s32.2 < (lenI a1.2)))))], [], 0⟩ hP hN (by kernel_rfl) allNil ?_
          refine HT.seq ?_
          rcases of_bif hx36 with ⟨hb38, hx36⟩ | ⟨hb38, hx36⟩
          · refine HT.cond1 rfl hb38 ?_
            refine HT.skip (qThen ?_)
            refine HT.seq ?_
            refine HT.block ?_
            refine HT.reg1 [0, 1, 5, 7, 8, 43, 44] [⟨none, .no⟩, ⟨none, .no⟩] ⟨[(0, .one (.ip (.st (.pair (.int .i64) (.pair (.int .i64) (.pair (.sl (.int .i64)) (.sl .bool))))) a0 0)), (1, .one (.ip (.st (.pair (.sl (.int .i64)) (.sl (.int .i64)))) a1 0)), (5, .one (.dat (.int .i64) s32.1)), (7, .one (.dat (.int .i64) s4.2)), (8, .one (.dat (.int .i64) s32.2)), (43, .one (.dat (.int .i64) (lenI a1.2))), (44, .one (.dat (.int .i64) s32.2))], [], 0⟩ hP hN (by kernel_rfl) allNil ?_
            obtain ⟨hg39, hx36⟩ := of_guard hx36
            obtain ⟨y40, hc41, hx36⟩ := of_bind hx36
            refine HT.reg (rs := [⟨none, .no⟩, ⟨none, .no⟩, ⟨none, .no⟩, ⟨none, .no⟩, ⟨none, .no⟩, ⟨none, .no⟩, ⟨none, .no⟩, ⟨none, .no⟩, ⟨none, .no⟩, ⟨none, .call [.pimm (.st (.pair (.int .i64) (.pair (.int .i64) (.pair (.sl (.int .i64)) (.sl .bool))))), .imm (.int .i64), .imm (.int .i64)] [⟨false, (.int .i64), y40⟩] []⟩, ⟨none, .no⟩]) (st' := ⟨[(5, .one (.dat (.int .i64) y40)), (56, .one (.dat (.int .i64) y40)), (55, .one (.dat (.int .i64) (List.getD a1.2 (Int.toNat s32.2) (0 : Int)))), (54, .one (.ip (.int .i64) (List.getD a1.2 (Int.toNat s32.2) (0 : Int)) 0)), (53, .one (.dat (.int .i64) s32.2)), (52, .one (.dat (.sl (.int .i64)) a1.2)), (51, .one (.ip (.st (.pair (.sl (.int .i64)) (.sl (.int .i64)))) a1 1)), (50, .one (.ip (.st (.pair (.sl (.int .i64)) (.sl (.int .i64)))) a1 0)), (49, .one (.ip (.st (.pair (.sl (.int .i64)) (.sl (.int .i64)))) a1 0)), (48, .one (.dat (.int .i64) s32.1)), (47, .one (.ip (.st (.pair (.int .i64) (.pair (.int .i64) (.pair (.sl (.int .i64)) (.sl .bool))))) a0 0)), (0, .one (.ip (.st (.pair (.int .i64) (.pair (.int .i64) (.pair (.sl (.int .i64)) (.sl .bool))))) a0 0)), (1, .one (.ip (.st (.pair (.sl (.int .i64)) (.sl (.int .i64)))) a1 0)), (5, .one (.dat (.int .i64) s32.1)), (7, .one (.dat (.int .i64) s4.2)), (8, .one (.dat (.int .i64) s32.2)), (43, .one (.dat (.int .i64) (lenI a1.2))), (44, .one (.dat (.int .i64) s32.2))], [], 0⟩) hP hN (by kernel_rfl) (allCons hg39 (allCons (f143_ok hc41) allNil)) (qBlock (qThen ?_))
            have hx36 := of_some hx36
            subst hx36
            refine HT.reg (rs := [⟨none, .no⟩, ⟨none, .no⟩]) (st' := ⟨[(44, .one (.dat (.int .i64) (wadd .i64 s32.2 (1 : Int)))), (57, .one (.dat (.int .i64) (wadd .i64 s32.2 (1 : Int)))), (5, .one (.dat (.int .i64) y40)), (56, .one (.dat (.int .i64) y40)), (55, .one (.dat (.int .i64) (List.getD a1.2 (Int.toNat s32.2) (0 : Int)))), (54, .one (.ip (.int .i64) (List.getD a1.2 (Int.toNat s32.2) (0 : Int)) 0)), (53, .one (.dat (.int .i64) s32.2)), (52, .one (.dat (.sl (.int .i64)) a1.2)), (51, .one (.ip (.st (.pair (.sl (.int .i64)) (.sl (.int .i64)))) a1 1)), (50, .one (.ip (.st (.pair (.sl (.int .i64)) (.sl (.int .i64)))) a1 0)), (49, .one (.ip (.st (.pair (.sl (.int .i64)) (.sl (.int .i64)))) a1 0)), (48, .one (.dat (.int .i64) s32.1)), (47, .one (.ip (.st (.pair (.int .i64) (.pair (.int .i64) (.pair (.sl (.int .i64)) (.sl .bool))))) a0 0)), (0, .one (.ip (.st (.pair (.int .i64) (.pair (.int .i64) (.pair (.sl (.int .i64)) (.sl .bool))))) a0 0)), (1, .one (.ip (.st (.pair (.sl (.int .i64)) (.sl (.int .i64)))) a1 0)), (5, .one (.dat (.int .i64) s32.1)), (7, .one (.dat (.int .i64) s4.2)), (8, .one (.dat (.int .i64) s32.2)), (43, .one (.dat (.int .i64) (lenI a1.2))), (44, .one (.dat (.int .i64) s32.2))], [], 0⟩) hP hN (by kernel_rfl) allNil (qLoopN ⟨(y40, (wadd .i64 s32.2 (1 : Int))), rfl, Le.cv (s := ⟨[], [], [], false⟩) (own := []) (ps := [a0 = a0, a1 = a1, y40 = y40, s4.2 = s4.2, (lenI a1.2) = (lenI a1.2), (wadd .i64 s32.2 (1 : Int)) = (wadd .i64 s32.2 (1 : Int))]) (st' := ⟨[(0, .one (.ip (.st (.pair (.int .i64) (.pair (.int .i64) (.pair (.sl (.int .i64)) (.sl .bool))))) a0 0)), (1, .one (.ip (.st (.pair (.sl (.int .i64)) (.sl (.int .i64)))) a1 0)), (5, .one (.dat (.int .i64) y40)), (7, .one (.dat (.int .i64) s4.2)), (43, .one (.dat (.int .i64) (lenI a1.2))), (44, .one (.dat (.int .i64) (wadd .i64 s32.2 (1 : Int))))], [], 0⟩) hO (fun h => by cases h) (by kernel_rfl) ⟨rfl, rfl, rfl, rfl, rfl, rfl, trivial⟩⟩)
          · refine HT.cond0 rfl hb38 ?_
            have hx36 := of_some hx36
            subst hx36
            refine (Le.cv (s := ⟨[], [], [], false⟩) (own := []) (ps := [a0 = a0, a1 = a1, s32.1 = s32.1, s4.2 = s4.2]) (st' := ⟨[(0, .one (.ip (.st (.pair (.int .i64) (.pair (.int .i64) (.pair (.sl (.int .i64)) (.sl .bool))))) a0 0)), (1, .one (.ip (.st (.pair (.sl (.int .i64)) (.sl (.int .i64)))) a1 0)), (5, .one (.dat (.int .i64) s32.1)), (7, .one (.dat (.int .i64) s4.2))], [], 0⟩) hO (fun h => by cases h) (by kernel_rfl) ⟨rfl, rfl, rfl, rfl, trivial⟩).ht ?_
            exact HT.exit (qThenE (qLoopE (hk37 s32.1 rfl)))
      · refine HT.cond0 rfl hb31 ?_
        have hx29 := of_some hx29
        subst hx29
        refine (Le.cv (s := ⟨[], [], [], false⟩) (own := []) (ps := [a0 = a0, a1 = a1, s4.1 = s4.1]) (st' := ⟨[(0, .one (.ip (.st (.pair (.int .i64) (.pair (.int .i64) (.pair (.sl (.int .i64)) (.sl .bool))))) a0 0)), (1, .one (.ip (.st (.pair (.sl (.int .i64)) (.sl (.int .i64)))) a1 0)), (5, .one (.dat (.int .i64) s4.1))], [], 0⟩) hO (fun h => by cases h) (by kernel_rfl) ⟨rfl, rfl, rfl, trivial⟩).ht ?_
        exact HT.exit (qThenE (qLoopE (hk30 s4.1 rfl)))
  · refine HT.reg1 [0, 1, 5, 16, 17, 18] [⟨none, .no⟩] ⟨[(0, .one (.ip (.st (.pair (.int .i64) (.pair (.int .i64) (.pair (.sl (.int .i64)) (.sl .bool))))) a0 0)), (1, .one (.ip (.st (.pair (.sl (.int .i64)) (.sl (.int .i64)))) a1 0)), (5, .one (.dat (.int .i64) s1.1)), (16, .one (.dat (.int .i64) (lenI a1.1))), (17, .one (.dat (.int .i64) s1.2)), (18, .one (.dat .bool (decide (s1.2 < (lenI a1.1)))))], [], 0⟩ hP hN (by kernel_rfl) allNil ?_
    refine HT.seq ?_
    rcases of_bif hx45 with ⟨hb47, hx45⟩ | ⟨hb47, hx45⟩
    · refine HT.cond1 rfl hb47 ?_
      refine HT.skip (qThen ?_)
      refine HT.seq ?_
      refine HT.block ?_
      refine HT.reg1 [0, 1, 5, 6, 16, 17] [⟨none, .no⟩, ⟨none, .no⟩] ⟨[(0, .one (.ip (.st (.pair (.int .i64) (.pair (.int .i64) (.pair (.sl (.int .i64)) (.sl .bool))))) a0 0)), (1, .one (.ip (.st (.pair (.sl (.int .i64)) (.sl (.int .i64)))) a1 0)), (5, .one (.dat (.int .i64) s1.1)), (6, .one (.dat (.int .i64) s1.2)), (16, .one (.dat (.int .i64) (lenI a1.1))), (17, .one (.dat (.int .i64) s1.2))], [], 0⟩ hP hN (by kernel_rfl) allNil ?_
      obtain ⟨hg48, hx45⟩ := of_guard hx45
      obtain ⟨y49, hc50, hx45⟩ := of_bind hx45
      refine HT.reg (rs := [⟨none, .no⟩, ⟨none, .no⟩, ⟨none, .no⟩, ⟨none, .no⟩, ⟨none, .no⟩, ⟨none, .no⟩, ⟨none, .no⟩, ⟨none, .no⟩, ⟨none, .no⟩, ⟨none, .call [.pimm (.st (.pair (.int .i64) (.pair (.int .i64) (.pair (.sl (.int .i64)) (.sl .bool))))), .imm (.int .i64), .imm (.int .i64)] [⟨false, (.int .i64), y49⟩] []⟩, ⟨none, .no⟩]) (st' := ⟨[(5, .one (.dat (.int .i64) y49)), (29, .one (.dat (.int .i64) y49)), (28, .one (.dat (.int .i64) (List.getD a1.1 (Int.toNat s1.2) (0 : Int)))), (27, .one (.ip (.int .i64) (List.getD a1.1 (Int.toNat s1.2) (0 : Int)) 0)), (26, .one (.dat (.int .i64) s1.2)), (25, .one (.dat (.sl (.int .i64)) a1.1)), (24, .one (.ip (.st (.pair (.sl (.int .i64)) (.sl (.int .i64)))) a1 0)), (23, .one (.ip (.st (.pair (.sl (.int .i64)) (.sl (.int .i64)))) a1 0)), (22, .one (.ip (.st (.pair (.sl (.int .i64)) (.sl (.int .i64)))) a1 0)), (21, .one (.dat (.int .i64) s1.1)), (20, .one (.ip (.st (.pair (.int .i64) (.pair (.int .i64) (.pair (.sl (.int .i64)) (.sl .bool))))) a0 0)), (0, .one (.ip (.st (.pair (.int .i64) (.pair (.int .i64) (.pair (.sl (.int .i64)) (.sl .bool))))) a0 0)), (1, .one (.ip (.st (.pair (.sl (.int .i64)) (.sl (.int .i64)))) a1 0)), (5, .one (.dat (.int .i64) s1.1)), (6, .one (.dat (.int .i64) s1.2)), (16, .one (.dat (.int .i64) (lenI a1.1))), (17, .one (.dat (.int .i64) s1.2))], [], 0⟩) hP hN (by kernel_rfl) (allCons hg48 (allCons (f143_ok hc50) allNil)) (qBlock (qThen ?_))
      have hx45 := of_some hx45
      subst hx45
      refine HT.reg (rs := [⟨none, .no⟩, ⟨none, .no⟩]) (st' := ⟨[(17, .one (.dat (.int .i64) (wadd .i64 s1.2 (1 : Int)))), (30, .one (.dat (.int .i64) (wadd .i64 s1.2 (1 : Int)))), (5, .one (.dat (.int .i64) y49)), (29, .one (.dat (.int .i64) y49)), (28, .one (.dat (.int .i64) (List.getD a1.1 (Int.toNat s1.2) (0 : Int)))), (27, .one (.ip (.int .i64) (List.getD a1.1 (Int.toNat s1.2) (0 : Int)) 0)), (26, .one (.dat (.int .i64) s1.2)), (25, .one (.dat (.sl (.int .i64)) a1.1)), (24, .one (.ip (.st (.pair (.sl (.int .i64)) (.sl (.int .i64)))) a1 0)), (23, .one (.ip (.st (.pair (.sl (.int .i64)) (.sl (.int .i64)))) a1 0)), (22, .one (.ip (.st (.pair (.sl (.int .i64)) (.sl (.int .i64)))) a1 0)), (21, .one (.dat (.int .i64) s1.1)), (20, .one (.ip (.st (.pair (.int .i64) (.pair (.int .i64) (.pair (.sl (.int .i64)) (.sl .bool))))) a0 0)), (0, .one (.ip (.st (.pair (.int .i64) (.pair (.int .i64) (.pair (.sl (.int .i64)) (.sl .bool))))) a0 0)), (1, .one (.ip (.st (.pair (.sl (.int .i64)) (.sl (.int .i64)))) a1 0)), (5, .one (.dat (.int .i64) s1.1)), (6, .one (.dat (.int .i64) s1.2)), (16, .one (.dat (.int .i64) (lenI a1.1))), (17, .one (.dat (.int .i64) s1.2))], [], 0⟩) hP hN (by kernel_rfl) allNil (qLoopN ⟨(y49, (wadd .i64 s1.2 (1 : Int))), rfl, Le.cv (s := ⟨[], [], [], false⟩) (own := []) (ps := [a0 = a0, a1 = a1, y49 = y49, (lenI a1.1) = (lenI a1.1), (wadd .i64 s1.2 (1 : Int)) = (wadd .i64 s1.2 (1 : Int))]) (st' := ⟨[(0, .one (.ip (.st (.pair (.int .i64) (.pair (.int .i64) (.pair (.sl (.int .i64)) (.sl .bool))))) a0 0)), (1, .one (.ip (.st (.pair (.sl (.int .i64)) (.sl (.int .i64)))) a1 0)), (5, .one (.dat (.int .i64) y49)), (16, .one (.dat (.int .i64) (lenI a1.1))), (17, .one (.dat (.int .i64) (wadd .i64 s1.2 (1 : Int))))], [], 0⟩) hO (fun h => by cases h) (by kernel_rfl) ⟨rfl, rfl, rfl, rfl, rfl, trivial⟩⟩)
    · refine HT.cond0 rfl hb47 ?_
      have hx45 := of_some hx45
      subst hx45
      refine (Le.cv (s := ⟨[], [], [], false⟩) (own := []) (ps := [a0 = a0, a1 = a1, s1.1 = s1.1]) (st' := ⟨[(0, .one (.ip (.st (.pair (.int .i64) (.pair (.int .i64) (.pair (.sl (.int .i64)) (.sl .bool))))) a0 0)), (1, .one (.ip (.st (.pair (.sl (.int .i64)) (.sl (.int .i64)))) a1 0)), (5, .one (.dat (.int .i64) s1.1))], [], 0⟩) hO (fun h => by cases h) (by kernel_rfl) ⟨rfl, rfl, rfl, trivial⟩).ht ?_
      exact HT.exit (qThenE (qLoopE (hk46 s1.1 rfl)))

noncomputable def spec_l07Reads_B1 (a0 : Int × Int × List Int × List Bool) (y1 : List Int) (s3 : Int) : Option ((Int) ⊕ (Unit ⊕ Unit)) :=
  bif (decide (s3 < (lenI y1))) then
    guardP ((0 : Int) ≤ s3 ∧ s3 < lenI y1) (
      guardP ((0 : Int) ≤ (List.getD y1 (Int.toNat s3) (0 : Int)) ∧ (List.getD y1 (Int.toNat s3) (0 : Int)) < lenI a0.2.2.2) (
        bif (List.getD a0.2.2.2 (Int.toNat (List.getD y1 (Int.toNat s3) (0 : Int))) false) then
          some (.inr (.inr ()))
        else
          some (.inl (wadd .i64 s3 (1 : Int)))))
  else
    some (.inr (.inl ()))

noncomputable def spec_l07Reads (a0 : Int × Int × List Int × List Bool) (a1 : List Int × List Int) : Option (Bool) :=
  (spec_l07States (a0.1, a0.2.1, a0.2.2.1, a0.2.2.2) (a1.1, a1.2)).bind fun y1 =>
  (rounds (spec_l07Reads_B1 a0 y1) (0 : Int)).bind fun r4 => match r4 with
    | .inl r5 =>
      some false
    | .inr r6 =>
      some true

theorem f77_ok {a0 : Int × Int × List Int × List Bool} {a1 : List Int × List Int} {r : Bool} (hr : spec_l07Reads a0 a1 = some r) : CallOK Try.prog 77 [.pimm (.st (.pair (.int .i64) (.pair (.int .i64) (.pair (.sl (.int .i64)) (.sl .bool))))) a0, .pimm (.st (.pair (.sl (.int .i64)) (.sl (.int .i64)))) a1] [⟨false, .bool, r⟩] [] := by
  unfold spec_l07Reads at hr
  refine CallOK.of_body (ts := [(false, .bool)]) Try.func77 rfl (by kernel_rfl) (Nat.le_of_ble_eq_true (by kernel_rfl)) fun cx hP hN hO hF => ?_
  have hO : cx.own.map Prod.fst = [] := hO
  have hF := hF rfl
  show HT cx ⟨[(0, .one (.ip (.st (.pair (.int .i64) (.pair (.int .i64) (.pair (.sl (.int .i64)) (.sl .bool))))) a0 0)), (1, .one (.ip (.st (.pair (.sl (.int .i64)) (.sl (.int .i64)))) a1 0))], [], 0⟩ _ _
  refine HT.reg1 [0, 1] [⟨none, .no⟩] ⟨[(0, .one (.ip (.st (.pair (.int .i64) (.pair (.int .i64) (.pair (.sl (.int .i64)) (.sl .bool))))) a0 0)), (1, .one (.ip (.st (.pair (.sl (.int .i64)) (.sl (.int .i64)))) a1 0))], [], 0⟩ hP hN (by kernel_rfl) allNil ?_
  obtain ⟨y1, hc2, hr⟩ := of_bind hr
  refine HT.reg1 [0, 5] [⟨none, .no⟩, ⟨none, .no⟩, ⟨none, .call [.pimm (.st (.pair (.int .i64) (.pair (.int .i64) (.pair (.sl (.int .i64)) (.sl .bool))))), .pimm (.st (.pair (.sl (.int .i64)) (.sl (.int .i64))))] [⟨true, (.sl (.int .i64)), y1⟩] []⟩, ⟨none, .no⟩] ⟨[(0, .one (.ip (.st (.pair (.int .i64) (.pair (.int .i64) (.pair (.sl (.int .i64)) (.sl .bool))))) a0 0)), (5, .one (.all 0))], [(0, .seq (.int .i64) y1)], 1⟩ hP hN (by kernel_rfl) (allCons (f119_ok hc2) allNil) ?_
  refine HT.seq ?_
  refine HT.reg1 [0, 5, 11, 12] [⟨none, .no⟩, ⟨none, .no⟩, ⟨none, .no⟩] ⟨[(0, .one (.ip (.st (.pair (.int .i64) (.pair (.int .i64) (.pair (.sl (.int .i64)) (.sl .bool))))) a0 0)), (5, .one (.all 0)), (11, .one (.dat (.int .i64) (lenI y1))), (12, .one (.dat (.int .i64) (0 : Int)))], [(0, .seq (.int .i64) y1)], 1⟩ hP hN (by kernel_rfl) allNil ?_
  refine HT.block ?_
  obtain ⟨r4, hL14, hr⟩ := of_bind hr
  refine (Le.cv (s := ⟨[(0, 0)], [], [], false⟩) (own := []) (ps := [a0 = a0, (lenI y1) = (lenI y1), (0 : Int) = (0 : Int), y1 = y1]) (st' := ⟨[(0, .one (.ip (.st (.pair (.int .i64) (.pair (.int .i64) (.pair (.sl (.int .i64)) (.sl .bool))))) a0 0)), (5, .one (.all 0)), (11, .one (.dat (.int .i64) (lenI y1))), (12, .one (.dat (.int .i64) (0 : Int)))], [(0, .seq (.int .i64) y1)], 1⟩) hO (fun h => by cases h) (by kernel_rfl) ⟨rfl, rfl, rfl, rfl, trivial⟩).ht ?_
  refine HT.loopE (s := (0 : Int)) (fun (s3 : Int) => ⟨[(0, .one (.ip (.st (.pair (.int .i64) (.pair (.int .i64) (.pair (.sl (.int .i64)) (.sl .bool))))) a0 0)), (5, .one (.all 0)), (11, .one (.dat (.int .i64) (lenI y1))), (12, .one (.dat (.int .i64) s3))], [(0, .seq (.int .i64) y1)], 1⟩) (fun (r4 : Unit ⊕ Unit) => match r4 with | .inl r5 => (.exit 0, ⟨[], [], 0⟩) | .inr r6 => (.ret, ⟨[(4, .one (.dat .bool true))], [], 0⟩)) hL14 ?_ (fun s3 x7 hx8 hk9 => ?_)
  · rcases r4 with r5 | r6
    · refine (qBlockX (qThen ?_))
      refine HT.reg1 [4] [⟨none, .no⟩] ⟨[(4, .one (.dat .bool false))], [], 0⟩ hP hN (by kernel_rfl) allNil ?_
      have hr := of_some hr
      subst hr
      exact HT.ret ⟨[.one (.dat .bool false)], [], [], by kernel_rfl, by kernel_rfl, rfl, by kernel_rfl, by kernel_rfl, trivial⟩
    · have hr := of_some hr
      subst hr
      exact (qBlockR (qThenR ⟨[.one (.dat .bool true)], [], [], by kernel_rfl, by kernel_rfl, rfl, by kernel_rfl, by kernel_rfl, trivial⟩))
  · refine HT.reg1 [0, 5, 11, 12, 13] [⟨none, .no⟩] ⟨[(0, .one (.ip (.st (.pair (.int .i64) (.pair (.int .i64) (.pair (.sl (.int .i64)) (.sl .bool))))) a0 0)), (5, .one (.all 0)), (11, .one (.dat (.int .i64) (lenI y1))), (12, .one (.dat (.int .i64) s3)), (13, .one (.dat .bool (decide (s3 < (lenI y1)))))], [(0, .seq (.int .i64) y1)], 1⟩ hP hN (by kernel_rfl) allNil ?_
    refine HT.seq ?_
    rcases of_bif hx8 with ⟨hb10, hx8⟩ | ⟨hb10, hx8⟩
    · refine HT.cond1 rfl hb10 ?_
      refine HT.skip (qThen ?_)
      refine HT.seq ?_
      refine HT.block ?_
      refine HT.reg1 [0, 5, 6, 11, 12] [⟨none, .no⟩, ⟨none, .no⟩] ⟨[(0, .one (.ip (.st (.pair (.int .i64) (.pair (.int .i64) (.pair (.sl (.int .i64)) (.sl .bool))))) a0 0)), (5, .one (.all 0)), (6, .one (.dat (.int .i64) s3)), (11, .one (.dat (.int .i64) (lenI y1))), (12, .one (.dat (.int .i64) s3))], [(0, .seq (.int .i64) y1)], 1⟩ hP hN (by kernel_rfl) allNil ?_
      obtain ⟨hg11, hx8⟩ := of_guard hx8
      obtain ⟨hg12, hx8⟩ := of_guard hx8
      refine HT.drw1 [0, 5, 11, 12, 24] 8 [⟨⟨none, .no⟩, []⟩, ⟨⟨none, .no⟩, [0]⟩, ⟨⟨none, .no⟩, [0, 1]⟩, ⟨⟨none, .no⟩, [0, 1, 2]⟩, ⟨⟨none, .no⟩, []⟩, ⟨⟨none, .no⟩, []⟩, ⟨⟨none, .no⟩, [4, 5]⟩, ⟨⟨none, .no⟩, [4, 5, 6]⟩] [[0, 1, 2, 3, 4, 5, 6, 7], [0, 1, 2, 3, 4, 5, 6, 7, 8]] [⟨none, .no⟩, ⟨none, .no⟩] ⟨[(0, .one (.ip (.st (.pair (.int .i64) (.pair (.int .i64) (.pair (.sl (.int .i64)) (.sl .bool))))) a0 0)), (5, .one (.all 0)), (11, .one (.dat (.int .i64) (lenI y1))), (12, .one (.dat (.int .i64) s3)), (24, .one (.dat .bool (List.getD a0.2.2.2 (Int.toNat (List.getD y1 (Int.toNat s3) (0 : Int))) false)))], [(0, .seq (.int .i64) y1)], 1⟩ hP hN (by kernel_rfl) (by kernel_rfl) (allCons hg11 (allCons (natLt hg11) (allCons hg12 allNil))) ?_
      rcases of_bif hx8 with ⟨hb13, hx8⟩ | ⟨hb13, hx8⟩
      · refine HT.cond1 rfl hb13 ?_
        refine HT.reg1 [4] [⟨none, .no⟩] ⟨[(4, .one (.dat .bool true))], [(0, .seq (.int .i64) y1)], 1⟩ hP hN (by kernel_rfl) allNil ?_
        have hx8 := of_some hx8
        subst hx8
        refine (Le.cv (s := ⟨[], [], [], false⟩) (own := []) (ps := [true = true]) (st' := ⟨[(4, .one (.dat .bool true))], [], 0⟩) hO (fun h => by cases h) (by kernel_rfl) ⟨rfl, trivial⟩).ht ?_
        exact HT.ret (qBlockR (qThenR (qLoopR (hk9 (.inr ()) rfl))))
      · refine HT.cond0 rfl hb13 ?_
        refine HT.skip (qBlock (qThen ?_))
        have hx8 := of_some hx8
        subst hx8
        refine HT.reg (rs := [⟨none, .no⟩, ⟨none, .no⟩]) (st' := ⟨[(12, .one (.dat (.int .i64) (wadd .i64 s3 (1 : Int)))), (25, .one (.dat (.int .i64) (wadd .i64 s3 (1 : Int)))), (0, .one (.ip (.st (.pair (.int .i64) (.pair (.int .i64) (.pair (.sl (.int .i64)) (.sl .bool))))) a0 0)), (5, .one (.all 0)), (11, .one (.dat (.int .i64) (lenI y1))), (12, .one (.dat (.int .i64) s3)), (24, .one (.dat .bool (List.getD a0.2.2.2 (Int.toNat (List.getD y1 (Int.toNat s3) (0 : Int))) false)))], [(0, .seq (.int .i64) y1)], 1⟩) hP hN (by kernel_rfl) allNil (qLoopN ⟨(wadd .i64 s3 (1 : Int)), rfl, Le.cv (s := ⟨[(0, 0)], [], [], false⟩) (own := []) (ps := [a0 = a0, (lenI y1) = (lenI y1), (wadd .i64 s3 (1 : Int)) = (wadd .i64 s3 (1 : Int)), y1 = y1]) (st' := ⟨[(0, .one (.ip (.st (.pair (.int .i64) (.pair (.int .i64) (.pair (.sl (.int .i64)) (.sl .bool))))) a0 0)), (5, .one (.all 0)), (11, .one (.dat (.int .i64) (lenI y1))), (12, .one (.dat (.int .i64) (wadd .i64 s3 (1 : Int))))], [(0, .seq (.int .i64) y1)], 1⟩) hO (fun h => by cases h) (by kernel_rfl) ⟨rfl, rfl, rfl, rfl, trivial⟩⟩)
    · refine HT.cond0 rfl hb10 ?_
      have hx8 := of_some hx8
      subst hx8
      refine (Le.cv (s := ⟨[], [], [], false⟩) (own := []) (ps := []) (st' := ⟨[], [], 0⟩) hO (fun h => by cases h) (by kernel_rfl) trivial).ht ?_
      exact HT.exit (qThenE (qLoopE (hk9 (.inl ()) rfl)))

noncomputable def spec_l00In (a0 : Int) (a1 : Int) (a2 : Int) : Option (Bool) :=
  (show Option (Bool) from
    bif (decide (a0 ≥ a1)) then
      some (decide (a0 ≤ a2))
    else
      some false).bind fun v1 =>
  some v1

theorem f64_ok {a0 : Int} {a1 : Int} {a2 : Int} {r : Bool} (hr : spec_l00In a0 a1 a2 = some r) : CallOK Try.prog 64 [.imm (.int .i64) a0, .imm (.int .i64) a1, .imm (.int .i64) a2] [⟨false, .bool, r⟩] [] := by
  unfold spec_l00In at hr
  refine CallOK.of_body (ts := [(false, .bool)]) Try.func64 rfl (by kernel_rfl) (Nat.le_of_ble_eq_true (by kernel_rfl)) fun cx hP hN hO hF => ?_
  have hO : cx.own.map Prod.fst = [] := hO
  have hF := hF rfl
  show HT cx ⟨[(0, .one (.dat (.int .i64) a0)), (1, .one (.dat (.int .i64) a1)), (2, .one (.dat (.int .i64) a2))], [], 0⟩ _ _
  refine HT.reg1 [0, 1, 2] [⟨none, .no⟩] ⟨[(0, .one (.dat (.int .i64) a0)), (1, .one (.dat (.int .i64) a1)), (2, .one (.dat (.int .i64) a2))], [], 0⟩ hP hN (by kernel_rfl) allNil ?_
  obtain ⟨v1', hT3, hr⟩ := of_bind hr
  refine HT.join (fun (v1 : Bool) => ⟨[(6, .one (.dat .bool v1))], [], 0⟩) (fun v => v = v1') (fun v1 hv2 => ?_) (fun cont => ?_)
  · subst hv2
    have hr := of_some hr
    subst hr
    exact HT.ret ⟨[.one (.dat .bool v1)], [], [], by kernel_rfl, by kernel_rfl, rfl, by kernel_rfl, by kernel_rfl, trivial⟩
  · rcases of_bif hT3 with ⟨hb4, hT3⟩ | ⟨hb4, hT3⟩
    · refine HT.reg (rs := [⟨none, .no⟩, ⟨none, .no⟩, ⟨none, .no⟩, ⟨none, .no⟩, ⟨some true, .no⟩, ⟨some true, .no⟩, ⟨some true, .no⟩, ⟨none, .tv true⟩, ⟨none, .no⟩]) (st' := ⟨[(6, .one (.dat .bool (decide (a0 ≤ a2)))), (14, .one (.dat .bool (decide (a0 ≤ a2)))), (13, .one (.dat .bool (decide (a0 ≤ a2)))), (12, .one (.dat (.int .i64) a2)), (11, .one (.dat (.int .i64) a0)), (10, .one (.dat .bool (decide (a0 ≥ a1)))), (9, .one (.dat .bool (decide (a0 ≥ a1)))), (8, .one (.dat (.int .i64) a1)), (7, .one (.dat (.int .i64) a0)), (0, .one (.dat (.int .i64) a0)), (1, .one (.dat (.int .i64) a1)), (2, .one (.dat (.int .i64) a2))], [], 0⟩) hP hN (by kernel_rfl) (allCons hb4 (allCons hb4 (allCons hb4 (allCons hb4 allNil)))) (qThen ?_)
      exact (Le.cv (s := ⟨[], [], [], false⟩) (own := []) (ps := [(decide (a0 ≤ a2)) = (decide (a0 ≤ a2))]) (st' := ⟨[(6, .one (.dat .bool (decide (a0 ≤ a2))))], [], 0⟩) hO (fun h => by cases h) (by kernel_rfl) ⟨rfl, trivial⟩).ht (cont (decide (a0 ≤ a2)) (of_some hT3))
    · refine HT.reg (rs := [⟨none, .no⟩, ⟨none, .no⟩, ⟨none, .no⟩, ⟨none, .no⟩, ⟨some false, .no⟩, ⟨some false, .no⟩, ⟨some false, .no⟩, ⟨none, .tv false⟩, ⟨none, .no⟩]) (st' := ⟨[(6, .one (.dat .bool false)), (14, .one (.dat .bool false)), (13, .und), (12, .und), (11, .und), (10, .one (.dat .bool (decide (a0 ≥ a1)))), (9, .one (.dat .bool (decide (a0 ≥ a1)))), (8, .one (.dat (.int .i64) a1)), (7, .one (.dat (.int .i64) a0)), (0, .one (.dat (.int .i64) a0)), (1, .one (.dat (.int .i64) a1)), (2, .one (.dat (.int .i64) a2))], [], 0⟩) hP hN (by kernel_rfl) (allCons hb4 (allCons hb4 (allCons hb4 (allCons hb4 allNil)))) (qThen ?_)
      exact (Le.cv (s := ⟨[], [], [], false⟩) (own := []) (ps := [false = false]) (st' := ⟨[(6, .one (.dat .bool false))], [], 0⟩) hO (fun h => by cases h) (by kernel_rfl) ⟨rfl, trivial⟩).ht (cont false (of_some hT3))

noncomputable def spec_l02Plain_B1 (a0 : Int × Int × List Int × List Bool) (s5 : Int) : Option ((Int) ⊕ (Unit ⊕ Unit)) :=
  bif (decide (s5 < (lenI a0.2.2.1))) then
    guardP ((0 : Int) ≤ s5 ∧ s5 < lenI a0.2.2.1) (
      (spec_l00In (List.getD a0.2.2.1 (Int.toNat s5) (0 : Int)) (0 : Int) (wsub .i64 a0.1 (1 : Int))).bind fun y14 =>
      bif (!y14) then
        some (.inr (.inr ()))
      else
        some (.inl (wadd .i64 s5 (1 : Int))))
  else
    some (.inr (.inl ()))

noncomputable def spec_l02Plain (a0 : Int × Int × List Int × List Bool) : Option (Bool) :=
  (show Option (Bool) from
    (spec_l00In a0.1 (1 : Int) (64 : Int)).bind fun y18 =>
    bif (!y18) then
      some true
    else
      (spec_l00In a0.2.1 (1 : Int) (4 : Int)).bind fun y21 =>
      bif (!y21) then
        some true
      else
        bif ((lenI a0.2.2.1) != (wmul .i64 a0.1 a0.2.1)) then
          some true
        else
          some ((lenI a0.2.2.2) != a0.1)).bind fun v1 =>
  bif v1 then
    some false
  else
    (rounds (spec_l02Plain_B1 a0) (0 : Int)).bind fun r6 => match r6 with
      | .inl r7 =>
        some true
      | .inr r8 =>
        some false

theorem f76_ok {a0 : Int × Int × List Int × List Bool} {r : Bool} (hr : spec_l02Plain a0 = some r) : CallOK Try.prog 76 [.pimm (.st (.pair (.int .i64) (.pair (.int .i64) (.pair (.sl (.int .i64)) (.sl .bool))))) a0] [⟨false, .bool, r⟩] [] := by
  unfold spec_l02Plain at hr
  refine CallOK.of_body (ts := [(false, .bool)]) Try.func76 rfl (by kernel_rfl) (Nat.le_of_ble_eq_true (by kernel_rfl)) fun cx hP hN hO hF => ?_
  have hO : cx.own.map Prod.fst = [] := hO
  have hF := hF rfl
  show HT cx ⟨[(0, .one (.ip (.st (.pair (.int .i64) (.pair (.int .i64) (.pair (.sl (.int .i64)) (.sl .bool))))) a0 0))], [], 0⟩ _ _
  refine HT.reg1 [0] [⟨none, .no⟩] ⟨[(0, .one (.ip (.st (.pair (.int .i64) (.pair (.int .i64) (.pair (.sl (.int .i64)) (.sl .bool))))) a0 0))], [], 0⟩ hP hN (by kernel_rfl) allNil ?_
  refine HT.seq ?_
  obtain ⟨v1', hT3, hr⟩ := of_bind hr
  refine HT.join (fun (v1 : Bool) => ⟨[(0, .one (.ip (.st (.pair (.int .i64) (.pair (.int .i64) (.pair (.sl (.int .i64)) (.sl .bool))))) a0 0)), (46, .one (.dat .bool v1))], [], 0⟩) (fun v => v = v1') (fun v1 hv2 => ?_) (fun cont => ?_)
  · subst hv2
    rcases of_bif hr with ⟨hb4, hr⟩ | ⟨hb4, hr⟩
    · refine HT.cond1 rfl hb4 ?_
      refine HT.reg1 [2] [⟨none, .no⟩] ⟨[(2, .one (.dat .bool false))], [], 0⟩ hP hN (by kernel_rfl) allNil ?_
      have hr := of_some hr
      subst hr
      exact HT.ret (qThenR ⟨[.one (.dat .bool false)], [], [], by kernel_rfl, by kernel_rfl, rfl, by kernel_rfl, by kernel_rfl, trivial⟩)
    · refine HT.cond0 rfl hb4 ?_
      refine HT.skip (qThen ?_)
      refine HT.seq ?_
      refine HT.reg1 [0, 3] [⟨none, .no⟩] ⟨[(0, .one (.ip (.st (.pair (.int .i64) (.pair (.int .i64) (.pair (.sl (.int .i64)) (.sl .bool))))) a0 0)), (3, .one (.dat (.int .i64) (0 : Int)))], [], 0⟩ hP hN (by kernel_rfl) allNil ?_
      refine HT.block ?_
      obtain ⟨r6, hL17, hr⟩ := of_bind hr
      refine (Le.cv (s := ⟨[], [], [], false⟩) (own := []) (ps := [a0 = a0, (0 : Int) = (0 : Int)]) (st' := ⟨[(0, .one (.ip (.st (.pair (.int .i64) (.pair (.int .i64) (.pair (.sl (.int .i64)) (.sl .bool))))) a0 0)), (3, .one (.dat (.int .i64) (0 : Int)))], [], 0⟩) hO (fun h => by cases h) (by kernel_rfl) ⟨rfl, rfl, trivial⟩).ht ?_
      refine HT.loopE (s := (0 : Int)) (fun (s5 : Int) => ⟨[(0, .one (.ip (.st (.pair (.int .i64) (.pair (.int .i64) (.pair (.sl (.int .i64)) (.sl .bool))))) a0 0)), (3, .one (.dat (.int .i64) s5))], [], 0⟩) (fun (r6 : Unit ⊕ Unit) => match r6 with | .inl r7 => (.exit 0, ⟨[], [], 0⟩) | .inr r8 => (.ret, ⟨[(2, .one (.dat .bool false))], [], 0⟩)) hL17 ?_ (fun s5 x9 hx10 hk11 => ?_)
      · rcases r6 with r7 | r8
        · refine (qBlockX (qThen ?_))
          refine HT.reg1 [2] [⟨none, .no⟩] ⟨[(2, .one (.dat .bool true))], [], 0⟩ hP hN (by kernel_rfl) allNil ?_
          have hr := of_some hr
          subst hr
          exact HT.ret ⟨[.one (.dat .bool true)], [], [], by kernel_rfl, by kernel_rfl, rfl, by kernel_rfl, by kernel_rfl, trivial⟩
        · have hr := of_some hr
          subst hr
          exact (qBlockR (qThenR ⟨[.one (.dat .bool false)], [], [], by kernel_rfl, by kernel_rfl, rfl, by kernel_rfl, by kernel_rfl, trivial⟩))
      · refine HT.seq ?_
        refine HT.reg1 [0, 3, 53] [⟨none, .no⟩, ⟨none, .no⟩, ⟨none, .no⟩, ⟨none, .no⟩, ⟨none, .no⟩, ⟨none, .no⟩, ⟨none, .no⟩] ⟨[(0, .one (.ip (.st (.pair (.int .i64) (.pair (.int .i64) (.pair (.sl (.int .i64)) (.sl .bool))))) a0 0)), (3, .one (.dat (.int .i64) s5)), (53, .one (.dat .bool (decide (s5 < (lenI a0.2.2.1)))))], [], 0⟩ hP hN (by kernel_rfl) allNil ?_
        rcases of_bif hx10 with ⟨hb12, hx10⟩ | ⟨hb12, hx10⟩
        · refine HT.cond1 rfl hb12 ?_
          refine HT.skip (qThen ?_)
          refine HT.seq ?_
          refine HT.block ?_
          obtain ⟨hg13, hx10⟩ := of_guard hx10
          obtain ⟨y14, hc15, hx10⟩ := of_bind hx10
          refine HT.drw1 [0, 3, 69] 12 [⟨⟨none, .no⟩, []⟩, ⟨⟨none, .no⟩, [0]⟩, ⟨⟨none, .no⟩, [0, 1]⟩, ⟨⟨none, .no⟩, [0, 1, 2]⟩, ⟨⟨none, .no⟩, []⟩, ⟨⟨none, .no⟩, [0, 1, 2, 3, 4]⟩, ⟨⟨none, .no⟩, [0, 1, 2, 3, 4, 5]⟩, ⟨⟨none, .no⟩, []⟩, ⟨⟨none, .no⟩, [7]⟩, ⟨⟨none, .no⟩, [7, 8]⟩, ⟨⟨none, .no⟩, [7, 8, 9]⟩, ⟨⟨none, .no⟩, [7, 8, 9, 10]⟩] [[0, 1, 2, 3, 4, 5, 6, 7, 8, 9, 10, 11], [0, 1, 2, 3, 4, 5, 6, 7, 8, 9, 10, 11, 12]] [⟨none, .call [.imm (.int .i64), .imm (.int .i64), .imm (.int .i64)] [⟨false, .bool, y14⟩] []⟩, ⟨none, .no⟩] ⟨[(0, .one (.ip (.st (.pair (.int .i64) (.pair (.int .i64) (.pair (.sl (.int .i64)) (.sl .bool))))) a0 0)), (3, .one (.dat (.int .i64) s5)), (69, .one (.dat .bool (!y14)))], [], 0⟩ hP hN (by kernel_rfl) (by kernel_rfl) (allCons hg13 (allCons (f64_ok hc15) allNil)) ?_
          rcases of_bif hx10 with ⟨hb16, hx10⟩ | ⟨hb16, hx10⟩
          · refine HT.cond1 rfl hb16 ?_
            refine HT.reg1 [2] [⟨none, .no⟩] ⟨[(2, .one (.dat .bool false))], [], 0⟩ hP hN (by kernel_rfl) allNil ?_
            have hx10 := of_some hx10
            subst hx10
            refine (Le.cv (s := ⟨[], [], [], false⟩) (own := []) (ps := [false = false]) (st' := ⟨[(2, .one (.dat .bool false))], [], 0⟩) hO (fun h => by cases h) (by kernel_rfl) ⟨rfl, trivial⟩).ht ?_
            exact HT.ret (qBlockR (qThenR (qLoopR (hk11 (.inr ()) rfl))))
          · refine HT.cond0 rfl hb16 ?_
            refine HT.skip (qBlock (qThen ?_))
            have hx10 := of_some hx10
            subst hx10
            refine HT.reg (rs := [⟨none, .no⟩, ⟨none, .no⟩, ⟨none, .no⟩]) (st' := ⟨[(3, .one (.dat (.int .i64) (wadd .i64 s5 (1 : Int)))), (55, .one (.dat (.int .i64) (wadd .i64 s5 (1 : Int)))), (54, .one (.dat (.int .i64) s5)), (0, .one (.ip (.st (.pair (.int .i64) (.pair (.int .i64) (.pair (.sl (.int .i64)) (.sl .bool))))) a0 0)), (3, .one (.dat (.int .i64) s5)), (69, .one (.dat .bool (!y14)))], [], 0⟩) hP hN (by kernel_rfl) allNil (qLoopN ⟨(wadd .i64 s5 (1 : Int)), rfl, Le.cv (s := ⟨[], [], [], false⟩) (own := []) (ps := [a0 = a0, (wadd .i64 s5 (1 : Int)) = (wadd .i64 s5 (1 : Int))]) (st' := ⟨[(0, .one (.ip (.st (.pair (.int .i64) (.pair (.int .i64) (.pair (.sl (.int .i64)) (.sl .bool))))) a0 0)), (3, .one (.dat (.int .i64) (wadd .i64 s5 (1 : Int))))], [], 0⟩) hO (fun h => by cases h) (by kernel_rfl) ⟨rfl, rfl, trivial⟩⟩)
        · refine HT.cond0 rfl hb12 ?_
          have hx10 := of_some hx10
          subst hx10
          refine (Le.cv (s := ⟨[], [], [], false⟩) (own := []) (ps := []) (st' := ⟨[], [], 0⟩) hO (fun h => by cases h) (by kernel_rfl) trivial).ht ?_
          exact HT.exit (qThenE (qLoopE (hk11 (.inl ()) rfl)))
  · obtain ⟨y18, hc19, hT3⟩ := of_bind hT3
    rcases of_bif hT3 with ⟨hb20, hT3⟩ | ⟨hb20, hT3⟩
    · refine drawS (h := 41) (hrs := [⟨⟨none, .no⟩, []⟩, ⟨⟨none, .no⟩, [0]⟩, ⟨⟨none, .no⟩, [0, 1]⟩, ⟨⟨none, .no⟩, [0, 1, 2]⟩, ⟨⟨none, .call [.imm (.int .i64), .imm (.int .i64), .imm (.int .i64)] [⟨false, .bool, y18⟩] []⟩, [0, 1, 2, 3]⟩, ⟨⟨none, .no⟩, [0, 1, 2, 3, 4]⟩, ⟨⟨none, .no⟩, [0, 1, 2, 3, 4, 5]⟩, ⟨⟨some true, .no⟩, [0, 1, 2, 3, 4, 5, 6]⟩, ⟨⟨some true, .no⟩, [0, 1, 2, 3, 4, 5, 6, 7]⟩, ⟨⟨some true, .no⟩, [0, 1, 2, 3, 4, 5, 6, 7, 8]⟩, ⟨⟨some true, .no⟩, [0, 1, 2, 3, 4, 5, 6, 7, 8, 9]⟩, ⟨⟨some true, .no⟩, [0, 1, 2, 3, 4, 5, 6, 7, 8, 9, 10]⟩, ⟨⟨some true, .no⟩, [0, 1, 2, 3, 4, 5, 6, 7, 8, 9, 10, 11]⟩, ⟨⟨none, .tv true⟩, [0, 1, 2, 3, 4, 5, 6, 7, 8, 9, 10, 11, 12]⟩, ⟨⟨none, .no⟩, [0, 1, 2, 3, 4, 5, 6, 7, 8, 9, 10, 11, 12, 13]⟩, ⟨⟨some true, .no⟩, [0, 1, 2, 3, 4, 5, 6, 7, 8, 9, 10, 11, 12, 13, 14]⟩, ⟨⟨some true, .no⟩, [0, 1, 2, 3, 4, 5, 6, 7, 8, 9, 10, 11, 12, 13, 14, 15]⟩, ⟨⟨some true, .no⟩, [0, 1, 2, 3, 4, 5, 6, 7, 8, 9, 10, 11, 12, 13, 14, 15, 16]⟩, ⟨⟨some true, .no⟩, [0, 1, 2, 3, 4, 5, 6, 7, 8, 9, 10, 11, 12, 13, 14, 15, 16, 17]⟩, ⟨⟨some true, .no⟩, [0, 1, 2, 3, 4, 5, 6, 7, 8, 9, 10, 11, 12, 13, 14, 15, 16, 17, 18]⟩, ⟨⟨some true, .no⟩, [0, 1, 2, 3, 4, 5, 6, 7, 8, 9, 10, 11, 12, 13, 14]⟩, ⟨⟨some true, .no⟩, [0, 1, 2, 3, 4, 5, 6, 7, 8, 9, 10, 11, 12, 13, 14, 20]⟩, ⟨⟨some true, .no⟩, [0, 1, 2, 3, 4, 5, 6, 7, 8, 9, 10, 11, 12, 13, 14, 20, 21]⟩, ⟨⟨some true, .no⟩, [0, 1, 2, 3, 4, 5, 6, 7, 8, 9, 10, 11, 12, 13, 14, 20, 21, 22]⟩, ⟨⟨some true, .no⟩, [0, 1, 2, 3, 4, 5, 6, 7, 8, 9, 10, 11, 12, 13, 14]⟩, ⟨⟨some true, .no⟩, [0, 1, 2, 3, 4, 5, 6, 7, 8, 9, 10, 11, 12, 13, 14, 24]⟩, ⟨⟨some true, .no⟩, [0, 1, 2, 3, 4, 5, 6, 7, 8, 9, 10, 11, 12, 13, 14, 24, 25]⟩, ⟨⟨some true, .no⟩, [0, 1, 2, 3, 4, 5, 6, 7, 8, 9, 10, 11, 12, 13, 14, 24, 25, 26]⟩, ⟨⟨some true, .no⟩, [0, 1, 2, 3, 4, 5, 6, 7, 8, 9, 10, 11, 12, 13, 14, 20, 21, 22, 23, 24, 25, 26, 27]⟩, ⟨⟨some true, .no⟩, [0, 1, 2, 3, 4, 5, 6, 7, 8, 9, 10, 11, 12, 13, 14, 15, 16, 17, 18, 19, 20, 21, 22, 23, 24, 25, 26, 27, 28]⟩, ⟨⟨none, .tv true⟩, [0, 1, 2, 3, 4, 5, 6, 7, 8, 9, 10, 11, 12, 13, 14, 15, 16, 17, 18, 19, 20, 21, 22, 23, 24, 25, 26, 27, 28, 29]⟩, ⟨⟨none, .no⟩, [0, 1, 2, 3, 4, 5, 6, 7, 8, 9, 10, 11, 12, 13, 14, 15, 16, 17, 18, 19, 20, 21, 22, 23, 24, 25, 26, 27, 28, 29, 30]⟩, ⟨⟨some true, .no⟩, [0, 1, 2, 3, 4, 5, 6, 7, 8, 9, 10, 11, 12, 13, 14, 15, 16, 17, 18, 19, 20, 21, 22, 23, 24, 25, 26, 27, 28, 29, 30, 31]⟩, ⟨⟨some true, .no⟩, [0, 1, 2, 3, 4, 5, 6, 7, 8, 9, 10, 11, 12, 13, 14, 15, 16, 17, 18, 19, 20, 21, 22, 23, 24, 25, 26, 27, 28, 29, 30, 31, 32]⟩, ⟨⟨some true, .no⟩, [0, 1, 2, 3, 4, 5, 6, 7, 8, 9, 10, 11, 12, 13, 14, 15, 16, 17, 18, 19, 20, 21, 22, 23, 24, 25, 26, 27, 28, 29, 30, 31, 32, 33]⟩, ⟨⟨some true, .no⟩, [0, 1, 2, 3, 4, 5, 6, 7, 8, 9, 10, 11, 12, 13, 14, 15, 16, 17, 18, 19, 20, 21, 22, 23, 24, 25, 26, 27, 28, 29, 30, 31, 32, 33, 34]⟩, ⟨⟨some true, .no⟩, [0, 1, 2, 3, 4, 5, 6, 7, 8, 9, 10, 11, 12, 13, 14, 15, 16, 17, 18, 19, 20, 21, 22, 23, 24, 25, 26, 27, 28, 29, 30, 31, 32, 33, 34, 35]⟩, ⟨⟨some true, .no⟩, [0, 1, 2, 3, 4, 5, 6, 7, 8, 9, 10, 11, 12, 13, 14, 15, 16, 17, 18, 19, 20, 21, 22, 23, 24, 25, 26, 27, 28, 29, 30, 31]⟩, ⟨⟨some true, .no⟩, [0, 1, 2, 3, 4, 5, 6, 7, 8, 9, 10, 11, 12, 13, 14, 15, 16, 17, 18, 19, 20, 21, 22, 23, 24, 25, 26, 27, 28, 29, 30, 31, 37]⟩, ⟨⟨some true, .no⟩, [0, 1, 2, 3, 4, 5, 6, 7, 8, 9, 10, 11, 12, 13, 14, 15, 16, 17, 18, 19, 20, 21, 22, 23, 24, 25, 26, 27, 28, 29, 30, 31, 37, 38]⟩, ⟨⟨some true, .no⟩, [0, 1, 2, 3, 4, 5, 6, 7, 8, 9, 10, 11, 12, 13, 14, 15, 16, 17, 18, 19, 20, 21, 22, 23, 24, 25, 26, 27, 28, 29, 30, 31, 37, 38, 39]⟩]) (tds := [[0, 1, 2, 3, 4, 5, 6, 7, 8, 9, 10, 11, 12, 13, 14, 15, 16, 17, 18, 19, 20, 21, 22, 23, 24, 25, 26, 27, 28, 29, 30, 31, 32, 33, 34, 35, 36, 37, 38, 39, 40], [0, 1, 2, 3, 4, 5, 6, 7, 8, 9, 10, 11, 12, 13, 14, 15, 16, 17, 18, 19, 20, 21, 22, 23, 24, 25, 26, 27, 28, 29, 30, 31, 32, 33, 34, 35, 36, 37, 38, 39, 40, 41]]) (rs := [⟨some true, .no⟩, ⟨none, .tv true⟩]) (st' := ⟨[(46, .one (.dat .bool true)), (45, .und), (44, .und), (43, .und), (42, .und), (41, .und), (40, .und), (39, .und), (38, .und), (37, .und), (36, .und), (35, .one (.dat .bool true)), (34, .one (.dat .bool true)), (33, .und), (32, .und), (31, .und), (30, .und), (29, .und), (28, .und), (27, .und), (26, .und), (25, .und), (24, .und), (23, .und), (22, .und), (21, .und), (20, .und), (19, .und), (18, .one (.dat .bool true)), (17, .one (.dat .bool true)), (16, .und), (15, .und), (14, .und), (13, .und), (12, .und), (11, .und), (10, .one (.dat .bool (!y18))), (9, .one (.dat .bool (!y18))), (8, .one (.dat .bool y18)), (7, .one (.dat (.int .i64) a0.1)), (6, .one (.ip (.st (.pair (.int .i64) (.pair (.int .i64) (.pair (.sl (.int .i64)) (.sl .bool))))) a0 0)), (5, .one (.ip (.st (.pair (.int .i64) (.pair (.int .i64) (.pair (.sl (.int .i64)) (.sl .bool))))) a0 0)), (4, .one (.ip (.st (.pair (.int .i64) (.pair (.int .i64) (.pair (.sl (.int .i64)) (.sl .bool))))) a0 0)), (0, .one (.ip (.st (.pair (.int .i64) (.pair (.int .i64) (.pair (.sl (.int .i64)) (.sl .bool))))) a0 0))], [], 0⟩) hP hN (by kernel_rfl) (by kernel_rfl) (allCons (f64_ok hc19) (allCons hb20 (allCons hb20 (allCons hb20 (allCons hb20 (allCons hb20 (allCons hb20 (allCons hb20 (allCons (rfl : true = true) (allCons (rfl : true = true) (allCons (rfl : true = true) (allCons (rfl : true = true) (allCons (rfl : true = true) (allCons (rfl : true = true) (allCons (rfl : true = true) (allCons (rfl : true = true) (allCons (rfl : true = true) (allCons (rfl : true = true) (allCons (rfl : true = true) (allCons (rfl : true = true) (allCons (rfl : true = true) (allCons (rfl : true = true) (allCons (rfl : true = true) (allCons (rfl : true = true) (allCons (rfl : true = true) (allCons (rfl : true = true) (allCons (rfl : true = true) (allCons (rfl : true = true) (allCons (rfl : true = true) (allCons (rfl : true = true) (allCons (rfl : true = true) (allCons (rfl : true = true) (allCons (rfl : true = true) (allCons (rfl : true = true) (allCons (rfl : true = true) allNil))))))))))))))))))))))))))))))))))) (qThen ?_)
      exact (Le.cv (s := ⟨[], [], [], false⟩) (own := []) (ps := [a0 = a0, true = true]) (st' := ⟨[(0, .one (.ip (.st (.pair (.int .i64) (.pair (.int .i64) (.pair (.sl (.int .i64)) (.sl .bool))))) a0 0)), (46, .one (.dat .bool true))], [], 0⟩) hO (fun h => by cases h) (by kernel_rfl) ⟨rfl, rfl, trivial⟩).ht (cont true (of_some hT3))
    · obtain ⟨y21, hc22, hT3⟩ := of_bind hT3
      rcases of_bif hT3 with ⟨hb23, hT3⟩ | ⟨hb23, hT3⟩
      · refine drawS (h := 41) (hrs := [⟨⟨none, .no⟩, []⟩, ⟨⟨none, .no⟩, [0]⟩, ⟨⟨none, .no⟩, [0, 1]⟩, ⟨⟨none, .no⟩, [0, 1, 2]⟩, ⟨⟨none, .call [.imm (.int .i64), .imm (.int .i64), .imm (.int .i64)] [⟨false, .bool, y18⟩] []⟩, [0, 1, 2, 3]⟩, ⟨⟨none, .no⟩, [0, 1, 2, 3, 4]⟩, ⟨⟨none, .no⟩, [0, 1, 2, 3, 4, 5]⟩, ⟨⟨some false, .no⟩, [0, 1, 2, 3, 4, 5, 6]⟩, ⟨⟨some false, .no⟩, [0, 1, 2, 3, 4, 5, 6, 7]⟩, ⟨⟨some false, .no⟩, [0, 1, 2, 3, 4, 5, 6, 7, 8]⟩, ⟨⟨some false, .no⟩, [0, 1, 2, 3, 4, 5, 6, 7, 8, 9]⟩, ⟨⟨some false, .call [.imm (.int .i64), .imm (.int .i64), .imm (.int .i64)] [⟨false, .bool, y21⟩] []⟩, [0, 1, 2, 3, 4, 5, 6, 7, 8, 9, 10]⟩, ⟨⟨some false, .no⟩, [0, 1, 2, 3, 4, 5, 6, 7, 8, 9, 10, 11]⟩, ⟨⟨none, .tv false⟩, [0, 1, 2, 3, 4, 5, 6, 7, 8, 9, 10, 11, 12]⟩, ⟨⟨none, .no⟩, [0, 1, 2, 3, 4, 5, 6, 7, 8, 9, 10, 11, 12, 13]⟩, ⟨⟨some true, .no⟩, [0, 1, 2, 3, 4, 5, 6, 7, 8, 9, 10, 11, 12, 13, 14]⟩, ⟨⟨some true, .no⟩, [0, 1, 2, 3, 4, 5, 6, 7, 8, 9, 10, 11, 12, 13, 14, 15]⟩, ⟨⟨some true, .no⟩, [0, 1, 2, 3, 4, 5, 6, 7, 8, 9, 10, 11, 12, 13, 14, 15, 16]⟩, ⟨⟨some true, .no⟩, [0, 1, 2, 3, 4, 5, 6, 7, 8, 9, 10, 11, 12, 13, 14, 15, 16, 17]⟩, ⟨⟨some true, .no⟩, [0, 1, 2, 3, 4, 5, 6, 7, 8, 9, 10, 11, 12, 13, 14, 15, 16, 17, 18]⟩, ⟨⟨some true, .no⟩, [0, 1, 2, 3, 4, 5, 6, 7, 8, 9, 10, 11, 12, 13, 14]⟩, ⟨⟨some true, .no⟩, [0, 1, 2, 3, 4, 5, 6, 7, 8, 9, 10, 11, 12, 13, 14, 20]⟩, ⟨⟨some true, .no⟩, [0, 1, 2, 3, 4, 5, 6, 7, 8, 9, 10, 11, 12, 13, 14, 20, 21]⟩, ⟨⟨some true, .no⟩, [0, 1, 2, 3, 4, 5, 6, 7, 8, 9, 10, 11, 12, 13, 14, 20, 21, 22]⟩, ⟨⟨some true, .no⟩, [0, 1, 2, 3, 4, 5, 6, 7, 8, 9, 10, 11, 12, 13, 14]⟩, ⟨⟨some true, .no⟩, [0, 1, 2, 3, 4, 5, 6, 7, 8, 9, 10, 11, 12, 13, 14, 24]⟩, ⟨⟨some true, .no⟩, [0, 1, 2, 3, 4, 5, 6, 7, 8, 9, 10, 11, 12, 13, 14, 24, 25]⟩, ⟨⟨some true, .no⟩, [0, 1, 2, 3, 4, 5, 6, 7, 8, 9, 10, 11, 12, 13, 14, 24, 25, 26]⟩, ⟨⟨some true, .no⟩, [0, 1, 2, 3, 4, 5, 6, 7, 8, 9, 10, 11, 12, 13, 14, 20, 21, 22, 23, 24, 25, 26, 27]⟩, ⟨⟨some true, .no⟩, [0, 1, 2, 3, 4, 5, 6, 7, 8, 9, 10, 11, 12, 13, 14, 15, 16, 17, 18, 19, 20, 21, 22, 23, 24, 25, 26, 27, 28]⟩, ⟨⟨none, .tv true⟩, [0, 1, 2, 3, 4, 5, 6, 7, 8, 9, 10, 11, 12, 13, 14, 15, 16, 17, 18, 19, 20, 21, 22, 23, 24, 25, 26, 27, 28, 29]⟩, ⟨⟨none, .no⟩, [0, 1, 2, 3, 4, 5, 6, 7, 8, 9, 10, 11, 12, 13, 14, 15, 16, 17, 18, 19, 20, 21, 22, 23, 24, 25, 26, 27, 28, 29, 30]⟩, ⟨⟨some true, .no⟩, [0, 1, 2, 3, 4, 5, 6, 7, 8, 9, 10, 11, 12, 13, 14, 15, 16, 17, 18, 19, 20, 21, 22, 23, 24, 25, 26, 27, 28, 29, 30, 31]⟩, ⟨⟨some true, .no⟩, [0, 1, 2, 3, 4, 5, 6, 7, 8, 9, 10, 11, 12, 13, 14, 15, 16, 17, 18, 19, 20, 21, 22, 23, 24, 25, 26, 27, 28, 29, 30, 31, 32]⟩, ⟨⟨some true, .no⟩, [0, 1, 2, 3, 4, 5, 6, 7, 8, 9, 10, 11, 12, 13, 14, 15, 16, 17, 18, 19, 20, 21, 22, 23, 24, 25, 26, 27, 28, 29, 30, 31, 32, 33]⟩, ⟨⟨some true, .no⟩, [0, 1, 2, 3, 4, 5, 6, 7, 8, 9, 10, 11, 12, 13, 14, 15, 16, 17, 18, 19, 20, 21, 22, 23, 24, 25, 26, 27, 28, 29, 30, 31, 32, 33, 34]⟩, ⟨⟨some true, .no⟩, [0, 1, 2, 3, 4, 5, 6, 7, 8, 9, 10, 11, 12, 13, 14, 15, 16, 17, 18, 19, 20, 21, 22, 23, 24, 25, 26, 27, 28, 29, 30, 31, 32, 33, 34, 35]⟩, ⟨⟨some true, .no⟩, [0, 1, 2, 3, 4, 5, 6, 7, 8, 9, 10, 11, 12, 13, 14, 15, 16, 17, 18, 19, 20, 21, 22, 23, 24, 25, 26, 27, 28, 29, 30, 31]⟩, ⟨⟨some true, .no⟩, [0, 1, 2, 3, 4, 5, 6, 7, 8, 9, 10, 11, 12, 13, 14, 15, 16, 17, 18, 19, 20, 21, 22, 23, 24, 25, 26, 27, 28, 29, 30, 31, 37]⟩, ⟨⟨some true, .no⟩, [0, 1, 2, 3, 4, 5, 6, 7, 8, 9, 10, 11, 12, 13, 14, 15, 16, 17, 18, 19, 20, 21, 22, 23, 24, 25, 26, 27, 28, 29, 30, 31, 37, 38]⟩, ⟨⟨some true, .no⟩, [0, 1, 2, 3, 4, 5, 6, 7, 8, 9, 10, 11, 12, 13, 14, 15, 16, 17, 18, 19, 20, 21, 22, 23, 24, 25, 26, 27, 28, 29, 30, 31, 37, 38, 39]⟩]) (tds := [[0, 1, 2, 3, 4, 5, 6, 7, 8, 9, 10, 11, 12, 13, 14, 15, 16, 17, 18, 19, 20, 21, 22, 23, 24, 25, 26, 27, 28, 29, 30, 31, 32, 33, 34, 35, 36, 37, 38, 39, 40], [0, 1, 2, 3, 4, 5, 6, 7, 8, 9, 10, 11, 12, 13, 14, 15, 16, 17, 18, 19, 20, 21, 22, 23, 24, 25, 26, 27, 28, 29, 30, 31, 32, 33, 34, 35, 36, 37, 38, 39, 40, 41]]) (rs := [⟨some true, .no⟩, ⟨none, .tv true⟩]) (st' := ⟨[(46, .one (.dat .bool true)), (45, .und), (44, .und), (43, .und), (42, .und), (41, .und), (40, .und), (39, .und), (38, .und), (37, .und), (36, .und), (35, .one (.dat .bool true)), (34, .one (.dat .bool true)), (33, .und), (32, .und), (31, .und), (30, .und), (29, .und), (28, .und), (27, .und), (26, .und), (25, .und), (24, .und), (23, .und), (22, .und), (21, .und), (20, .und), (19, .und), (18, .one (.dat .bool (!y21))), (17, .one (.dat .bool (!y21))), (16, .one (.dat .bool (!y21))), (15, .one (.dat .bool y21)), (14, .one (.dat (.int .i64) a0.2.1)), (13, .one (.ip (.st (.pair (.int .i64) (.pair (.int .i64) (.pair (.sl (.int .i64)) (.sl .bool))))) a0 1)), (12, .one (.ip (.st (.pair (.int .i64) (.pair (.int .i64) (.pair (.sl (.int .i64)) (.sl .bool))))) a0 0)), (11, .one (.ip (.st (.pair (.int .i64) (.pair (.int .i64) (.pair (.sl (.int .i64)) (.sl .bool))))) a0 0)), (10, .one (.dat .bool (!y18))), (9, .one (.dat .bool (!y18))), (8, .one (.dat .bool y18)), (7, .one (.dat (.int .i64) a0.1)), (6, .one (.ip (.st (.pair (.int .i64) (.pair (.int .i64) (.pair (.sl (.int .i64)) (.sl .bool))))) a0 0)), (5, .one (.ip (.st (.pair (.int .i64) (.pair (.int .i64) (.pair (.sl (.int .i64)) (.sl .bool))))) a0 0)), (4, .one (.ip (.st (.pair (.int .i64) (.pair (.int .i64) (.pair (.sl (.int .i64)) (.sl .bool))))) a0 0)), (0, .one (.ip (.st (.pair (.int .i64) (.pair (.int .i64) (.pair (.sl (.int .i64)) (.sl .bool))))) a0 0))], [], 0⟩) hP hN (by kernel_rfl) (by kernel_rfl) (allCons (f64_ok hc19) (allCons hb20 (allCons hb20 (allCons hb20 (allCons hb20 (allCons hb20 (allCons (f64_ok hc22) (allCons hb20 (allCons hb20 (allCons hb23 (allCons hb23 (allCons hb23 (allCons hb23 (allCons hb23 (allCons hb23 (allCons hb23 (allCons hb23 (allCons hb23 (allCons hb23 (allCons hb23 (allCons hb23 (allCons hb23 (allCons hb23 (allCons hb23 (allCons hb23 (allCons (rfl : true = true) (allCons (rfl : true = true) (allCons (rfl : true = true) (allCons (rfl : true = true) (allCons (rfl : true = true) (allCons (rfl : true = true) (allCons (rfl : true = true) (allCons (rfl : true = true) (allCons (rfl : true = true) (allCons (rfl : true = true) (allCons (rfl : true = true) allNil)))))))))))))))))))))))))))))))))))) (qThen ?_)
        exact (Le.cv (s := ⟨[], [], [], false⟩) (own := []) (ps := [a0 = a0, true = true]) (st' := ⟨[(0, .one (.ip (.st (.pair (.int .i64) (.pair (.int .i64) (.pair (.sl (.int .i64)) (.sl .bool))))) a0 0)), (46, .one (.dat .bool true))], [], 0⟩) hO (fun h => by cases h) (by kernel_rfl) ⟨rfl, rfl, trivial⟩).ht (cont true (of_some hT3))
      · rcases of_bif hT3 with ⟨hb24, hT3⟩ | ⟨hb24, hT3⟩
        · refine drawS (h := 41) (hrs := [⟨⟨none, .no⟩, []⟩, ⟨⟨none, .no⟩, [0]⟩, ⟨⟨none, .no⟩, [0, 1]⟩, ⟨⟨none, .no⟩, [0, 1, 2]⟩, ⟨⟨none, .call [.imm (.int .i64), .imm (.int .i64), .imm (.int .i64)] [⟨false, .bool, y18⟩] []⟩, [0, 1, 2, 3]⟩, ⟨⟨none, .no⟩, [0, 1, 2, 3, 4]⟩, ⟨⟨none, .no⟩, [0, 1, 2, 3, 4, 5]⟩, ⟨⟨some false, .no⟩, [0, 1, 2, 3, 4, 5, 6]⟩, ⟨⟨some false, .no⟩, [0, 1, 2, 3, 4, 5, 6, 7]⟩, ⟨⟨some false, .no⟩, [0, 1, 2, 3, 4, 5, 6, 7, 8]⟩, ⟨⟨some false, .no⟩, [0, 1, 2, 3, 4, 5, 6, 7, 8, 9]⟩, ⟨⟨some false, .call [.imm (.int .i64), .imm (.int .i64), .imm (.int .i64)] [⟨false, .bool, y21⟩] []⟩, [0, 1, 2, 3, 4, 5, 6, 7, 8, 9, 10]⟩, ⟨⟨some false, .no⟩, [0, 1, 2, 3, 4, 5, 6, 7, 8, 9, 10, 11]⟩, ⟨⟨none, .tv false⟩, [0, 1, 2, 3, 4, 5, 6, 7, 8, 9, 10, 11, 12]⟩, ⟨⟨none, .no⟩, [0, 1, 2, 3, 4, 5, 6, 7, 8, 9, 10, 11, 12, 13]⟩, ⟨⟨some false, .no⟩, [0, 1, 2, 3, 4, 5, 6, 7, 8, 9, 10, 11, 12, 13, 14]⟩, ⟨⟨some false, .no⟩, [0, 1, 2, 3, 4, 5, 6, 7, 8, 9, 10, 11, 12, 13, 14, 15]⟩, ⟨⟨some false, .no⟩, [0, 1, 2, 3, 4, 5, 6, 7, 8, 9, 10, 11, 12, 13, 14, 15, 16]⟩, ⟨⟨some false, .no⟩, [0, 1, 2, 3, 4, 5, 6, 7, 8, 9, 10, 11, 12, 13, 14, 15, 16, 17]⟩, ⟨⟨some false, .no⟩, [0, 1, 2, 3, 4, 5, 6, 7, 8, 9, 10, 11, 12, 13, 14, 15, 16, 17, 18]⟩, ⟨⟨some false, .no⟩, [0, 1, 2, 3, 4, 5, 6, 7, 8, 9, 10, 11, 12, 13, 14]⟩, ⟨⟨some false, .no⟩, [0, 1, 2, 3, 4, 5, 6, 7, 8, 9, 10, 11, 12, 13, 14, 20]⟩, ⟨⟨some false, .no⟩, [0, 1, 2, 3, 4, 5, 6, 7, 8, 9, 10, 11, 12, 13, 14, 20, 21]⟩, ⟨⟨some false, .no⟩, [0, 1, 2, 3, 4, 5, 6, 7, 8, 9, 10, 11, 12, 13, 14, 20, 21, 22]⟩, ⟨⟨some false, .no⟩, [0, 1, 2, 3, 4, 5, 6, 7, 8, 9, 10, 11, 12, 13, 14]⟩, ⟨⟨some false, .no⟩, [0, 1, 2, 3, 4, 5, 6, 7, 8, 9, 10, 11, 12, 13, 14, 24]⟩, ⟨⟨some false, .no⟩, [0, 1, 2, 3, 4, 5, 6, 7, 8, 9, 10, 11, 12, 13, 14, 24, 25]⟩, ⟨⟨some false, .no⟩, [0, 1, 2, 3, 4, 5, 6, 7, 8, 9, 10, 11, 12, 13, 14, 24, 25, 26]⟩, ⟨⟨some false, .no⟩, [0, 1, 2, 3, 4, 5, 6, 7, 8, 9, 10, 11, 12, 13, 14, 20, 21, 22, 23, 24, 25, 26, 27]⟩, ⟨⟨some false, .no⟩, [0, 1, 2, 3, 4, 5, 6, 7, 8, 9, 10, 11, 12, 13, 14, 15, 16, 17, 18, 19, 20, 21, 22, 23, 24, 25, 26, 27, 28]⟩, ⟨⟨none, .tv false⟩, [0, 1, 2, 3, 4, 5, 6, 7, 8, 9, 10, 11, 12, 13, 14, 15, 16, 17, 18, 19, 20, 21, 22, 23, 24, 25, 26, 27, 28, 29]⟩, ⟨⟨none, .no⟩, [0, 1, 2, 3, 4, 5, 6, 7, 8, 9, 10, 11, 12, 13, 14, 15, 16, 17, 18, 19, 20, 21, 22, 23, 24, 25, 26, 27, 28, 29, 30]⟩, ⟨⟨some true, .no⟩, [0, 1, 2, 3, 4, 5, 6, 7, 8, 9, 10, 11, 12, 13, 14, 15, 16, 17, 18, 19, 20, 21, 22, 23, 24, 25, 26, 27, 28, 29, 30, 31]⟩, ⟨⟨some true, .no⟩, [0, 1, 2, 3, 4, 5, 6, 7, 8, 9, 10, 11, 12, 13, 14, 15, 16, 17, 18, 19, 20, 21, 22, 23, 24, 25, 26, 27, 28, 29, 30, 31, 32]⟩, ⟨⟨some true, .no⟩, [0, 1, 2, 3, 4, 5, 6, 7, 8, 9, 10, 11, 12, 13, 14, 15, 16, 17, 18, 19, 20, 21, 22, 23, 24, 25, 26, 27, 28, 29, 30, 31, 32, 33]⟩, ⟨⟨some true, .no⟩, [0, 1, 2, 3, 4, 5, 6, 7, 8, 9, 10, 11, 12, 13, 14, 15, 16, 17, 18, 19, 20, 21, 22, 23, 24, 25, 26, 27, 28, 29, 30, 31, 32, 33, 34]⟩, ⟨⟨some true, .no⟩, [0, 1, 2, 3, 4, 5, 6, 7, 8, 9, 10, 11, 12, 13, 14, 15, 16, 17, 18, 19, 20, 21, 22, 23, 24, 25, 26, 27, 28, 29, 30, 31, 32, 33, 34, 35]⟩, ⟨⟨some true, .no⟩, [0, 1, 2, 3, 4, 5, 6, 7, 8, 9, 10, 11, 12, 13, 14, 15, 16, 17, 18, 19, 20, 21, 22, 23, 24, 25, 26, 27, 28, 29, 30, 31]⟩, ⟨⟨some true, .no⟩, [0, 1, 2, 3, 4, 5, 6, 7, 8, 9, 10, 11, 12, 13, 14, 15, 16, 17, 18, 19, 20, 21, 22, 23, 24, 25, 26, 27, 28, 29, 30, 31, 37]⟩, ⟨⟨some true, .no⟩, [0, 1, 2, 3, 4, 5, 6, 7, 8, 9, 10, 11, 12, 13, 14, 15, 16, 17, 18, 19, 20, 21, 22, 23, 24, 25, 26, 27, 28, 29, 30, 31, 37, 38]⟩, ⟨⟨some true, .no⟩, [0, 1, 2, 3, 4, 5, 6, 7, 8, 9, 10, 11, 12, 13, 14, 15, 16, 17, 18, 19, 20, 21, 22, 23, 24, 25, 26, 27, 28, 29, 30, 31, 37, 38, 39]⟩]) (tds := [[0, 1, 2, 3, 4, 5, 6, 7, 8, 9, 10, 11, 12, 13, 14, 15, 16, 17, 18, 19, 20, 21, 22, 23, 24, 25, 26, 27, 28, 29, 30, 31, 32, 33, 34, 35, 36, 37, 38, 39, 40], [0, 1, 2, 3, 4, 5, 6, 7, 8, 9, 10, 11, 12, 13, 14, 15, 16, 17, 18, 19, 20, 21, 22, 23, 24, 25, 26, 27, 28, 29, 30, 31, 32, 33, 34, 35, 36, 37, 38, 39, 40, 41]]) (rs := [⟨some true, .no⟩, ⟨none, .tv true⟩]) (st' := ⟨[(46, .one (.dat .bool true)), (45, .und), (44, .und), (43, .und), (42, .und), (41, .und), (40, .und), (39, .und), (38, .und), (37, .und), (36, .und), (35, .one (.dat .bool ((lenI a0.2.2.1) != (wmul .i64 a0.1 a0.2.1)))), (34, .one (.dat .bool ((lenI a0.2.2.1) != (wmul .i64 a0.1 a0.2.1)))), (33, .one (.dat .bool ((lenI a0.2.2.1) != (wmul .i64 a0.1 a0.2.1)))), (32, .one (.dat (.int .i64) (wmul .i64 a0.1 a0.2.1))), (31, .one (.dat (.int .i64) a0.2.1)), (30, .one (.ip (.st (.pair (.int .i64) (.pair (.int .i64) (.pair (.sl (.int .i64)) (.sl .bool))))) a0 1)), (29, .one (.ip (.st (.pair (.int .i64) (.pair (.int .i64) (.pair (.sl (.int .i64)) (.sl .bool))))) a0 0)), (28, .one (.ip (.st (.pair (.int .i64) (.pair (.int .i64) (.pair (.sl (.int .i64)) (.sl .bool))))) a0 0)), (27, .one (.dat (.int .i64) a0.1)), (26, .one (.ip (.st (.pair (.int .i64) (.pair (.int .i64) (.pair (.sl (.int .i64)) (.sl .bool))))) a0 0)), (25, .one (.ip (.st (.pair (.int .i64) (.pair (.int .i64) (.pair (.sl (.int .i64)) (.sl .bool))))) a0 0)), (24, .one (.ip (.st (.pair (.int .i64) (.pair (.int .i64) (.pair (.sl (.int .i64)) (.sl .bool))))) a0 0)), (23, .one (.dat (.int .i64) (lenI a0.2.2.1))), (22, .one (.dat (.sl (.int .i64)) a0.2.2.1)), (21, .one (.ip (.st (.pair (.int .i64) (.pair (.int .i64) (.pair (.sl (.int .i64)) (.sl .bool))))) a0 2)), (20, .one (.ip (.st (.pair (.int .i64) (.pair (.int .i64) (.pair (.sl (.int .i64)) (.sl .bool))))) a0 0)), (19, .one (.ip (.st (.pair (.int .i64) (.pair (.int .i64) (.pair (.sl (.int .i64)) (.sl .bool))))) a0 0)), (18, .one (.dat .bool (!y21))), (17, .one (.dat .bool (!y21))), (16, .one (.dat .bool (!y21))), (15, .one (.dat .bool y21)), (14, .one (.dat (.int .i64) a0.2.1)), (13, .one (.ip (.st (.pair (.int .i64) (.pair (.int .i64) (.pair (.sl (.int .i64)) (.sl .bool))))) a0 1)), (12, .one (.ip (.st (.pair (.int .i64) (.pair (.int .i64) (.pair (.sl (.int .i64)) (.sl .bool))))) a0 0)), (11, .one (.ip (.st (.pair (.int .i64) (.pair (.int .i64) (.pair (.sl (.int .i64)) (.sl .bool))))) a0 0)), (10, .one (.dat .bool (!y18))), (9, .one (.dat .bool (!y18))), (8, .one (.dat .bool y18)), (7, .one (.dat (.int .i64) a0.1)), (6, .one (.ip (.st (.pair (.int .i64) (.pair (.int .i64) (.pair (.sl (.int .i64)) (.sl .bool))))) a0 0)), (5, .one (.ip (.st (.pair (.int .i64) (.pair (.int .i64) (.pair (.sl (.int .i64)) (.sl .bool))))) a0 0)), (4, .one (.ip (.st (.pair (.int .i64) (.pair (.int .i64) (.pair (.sl (.int .i64)) (.sl .bool))))) a0 0)), (0, .one (.ip (.st (.pair (.int .i64) (.pair (.int .i64) (.pair (.sl (.int .i64)) (.sl .bool))))) a0 0))], [], 0⟩) hP hN (by kernel_rfl) (by kernel_rfl) (allCons (f64_ok hc19) (allCons hb20 (allCons hb20 (allCons hb20 (allCons hb20 (allCons hb20 (allCons (f64_ok hc22) (allCons hb20 (allCons hb20 (allCons hb23 (allCons hb23 (allCons hb23 (allCons hb23 (allCons hb23 (allCons hb23 (allCons hb23 (allCons hb23 (allCons hb23 (allCons hb23 (allCons hb23 (allCons hb23 (allCons hb23 (allCons hb23 (allCons hb23 (allCons hb23 (allCons hb24 (allCons hb24 (allCons hb24 (allCons hb24 (allCons hb24 (allCons hb24 (allCons hb24 (allCons hb24 (allCons hb24 (allCons hb24 (allCons hb24 allNil)))))))))))))))))))))))))))))))))))) (qThen ?_)
          exact (Le.cv (s := ⟨[], [], [], false⟩) (own := []) (ps := [a0 = a0, true = true]) (st' := ⟨[(0, .one (.ip (.st (.pair (.int .i64) (.pair (.int .i64) (.pair (.sl (.int .i64)) (.sl .bool))))) a0 0)), (46, .one (.dat .bool true))], [], 0⟩) hO (fun h => by cases h) (by kernel_rfl) ⟨rfl, rfl, trivial⟩).ht (cont true (of_some hT3))
        · refine drawS (h := 41) (hrs := [⟨⟨none, .no⟩, []⟩, ⟨⟨none, .no⟩, [0]⟩, ⟨⟨none, .no⟩, [0, 1]⟩, ⟨⟨none, .no⟩, [0, 1, 2]⟩, ⟨⟨none, .call [.imm (.int .i64), .imm (.int .i64), .imm (.int .i64)] [⟨false, .bool, y18⟩] []⟩, [0, 1, 2, 3]⟩, ⟨⟨none, .no⟩, [0, 1, 2, 3, 4]⟩, ⟨⟨none, .no⟩, [0, 1, 2, 3, 4, 5]⟩, ⟨⟨some false, .no⟩, [0, 1, 2, 3, 4, 5, 6]⟩, ⟨⟨some false, .no⟩, [0, 1, 2, 3, 4, 5, 6, 7]⟩, ⟨⟨some false, .no⟩, [0, 1, 2, 3, 4, 5, 6, 7, 8]⟩, ⟨⟨some false, .no⟩, [0, 1, 2, 3, 4, 5, 6, 7, 8, 9]⟩, ⟨⟨some false, .call [.imm (.int .i64), .imm (.int .i64), .imm (.int .i64)] [⟨false, .bool, y21⟩] []⟩, [0, 1, 2, 3, 4, 5, 6, 7, 8, 9, 10]⟩, ⟨⟨some false, .no⟩, [0, 1, 2, 3, 4, 5, 6, 7, 8, 9, 10, 11]⟩, ⟨⟨none, .tv false⟩, [0, 1, 2, 3, 4, 5, 6, 7, 8, 9, 10, 11, 12]⟩, ⟨⟨none, .no⟩, [0, 1, 2, 3, 4, 5, 6, 7, 8, 9, 10, 11, 12, 13]⟩, ⟨⟨some false, .no⟩, [0, 1, 2, 3, 4, 5, 6, 7, 8, 9, 10, 11, 12, 13, 14]⟩, ⟨⟨some false, .no⟩, [0, 1, 2, 3, 4, 5, 6, 7, 8, 9, 10, 11, 12, 13, 14, 15]⟩, ⟨⟨some false, .no⟩, [0, 1, 2, 3, 4, 5, 6, 7, 8, 9, 10, 11, 12, 13, 14, 15, 16]⟩, ⟨⟨some false, .no⟩, [0, 1, 2, 3, 4, 5, 6, 7, 8, 9, 10, 11, 12, 13, 14, 15, 16, 17]⟩, ⟨⟨some false, .no⟩, [0, 1, 2, 3, 4, 5, 6, 7, 8, 9, 10, 11, 12, 13, 14, 15, 16, 17, 18]⟩, ⟨⟨some false, .no⟩, [0, 1, 2, 3, 4, 5, 6, 7, 8, 9, 10, 11, 12, 13, 14]⟩, ⟨⟨some false, .no⟩, [0, 1, 2, 3, 4, 5, 6, 7, 8, 9, 10, 11, 12, 13, 14, 20]⟩, ⟨⟨some false, .no⟩, [0, 1, 2, 3, 4, 5, 6, 7, 8, 9, 10, 11, 12, 13, 14, 20, 21]⟩, ⟨⟨some false, .no⟩, [0, 1, 2, 3, 4, 5, 6, 7, 8, 9, 10, 11, 12, 13, 14, 20, 21, 22]⟩, ⟨⟨some false, .no⟩, [0, 1, 2, 3, 4, 5, 6, 7, 8, 9, 10, 11, 12, 13, 14]⟩, ⟨⟨some false, .no⟩, [0, 1, 2, 3, 4, 5, 6, 7, 8, 9, 10, 11, 12, 13, 14, 24]⟩, ⟨⟨some false, .no⟩, [0, 1, 2, 3, 4, 5, 6, 7, 8, 9, 10, 11, 12, 13, 14, 24, 25]⟩, ⟨⟨some false, .no⟩, [0, 1, 2, 3, 4, 5, 6, 7, 8, 9, 10, 11, 12, 13, 14, 24, 25, 26]⟩, ⟨⟨some false, .no⟩, [0, 1, 2, 3, 4, 5, 6, 7, 8, 9, 10, 11, 12, 13, 14, 20, 21, 22, 23, 24, 25, 26, 27]⟩, ⟨⟨some false, .no⟩, [0, 1, 2, 3, 4, 5, 6, 7, 8, 9, 10, 11, 12, 13, 14, 15, 16, 17, 18, 19, 20, 21, 22, 23, 24, 25, 26, 27, 28]⟩, ⟨⟨none, .tv false⟩, [0, 1, 2, 3, 4, 5, 6, 7, 8, 9, 10, 11, 12, 13, 14, 15, 16, 17, 18, 19, 20, 21, 22, 23, 24, 25, 26, 27, 28, 29]⟩, ⟨⟨none, .no⟩, [0, 1, 2, 3, 4, 5, 6, 7, 8, 9, 10, 11, 12, 13, 14, 15, 16, 17, 18, 19, 20, 21, 22, 23, 24, 25, 26, 27, 28, 29, 30]⟩, ⟨⟨some false, .no⟩, [0, 1, 2, 3, 4, 5, 6, 7, 8, 9, 10, 11, 12, 13, 14, 15, 16, 17, 18, 19, 20, 21, 22, 23, 24, 25, 26, 27, 28, 29, 30, 31]⟩, ⟨⟨some false, .no⟩, [0, 1, 2, 3, 4, 5, 6, 7, 8, 9, 10, 11, 12, 13, 14, 15, 16, 17, 18, 19, 20, 21, 22, 23, 24, 25, 26, 27, 28, 29, 30, 31, 32]⟩, ⟨⟨some false, .no⟩, [0, 1, 2, 3, 4, 5, 6, 7, 8, 9, 10, 11, 12, 13, 14, 15, 16, 17, 18, 19, 20, 21, 22, 23, 24, 25, 26, 27, 28, 29, 30, 31, 32, 33]⟩, ⟨⟨some false, .no⟩, [0, 1, 2, 3, 4, 5, 6, 7, 8, 9, 10, 11, 12, 13, 14, 15, 16, 17, 18, 19, 20, 21, 22, 23, 24, 25, 26, 27, 28, 29, 30, 31, 32, 33, 34]⟩, ⟨⟨some false, .no⟩, [0, 1, 2, 3, 4, 5, 6, 7, 8, 9, 10, 11, 12, 13, 14, 15, 16, 17, 18, 19, 20, 21, 22, 23, 24, 25, 26, 27, 28, 29, 30, 31, 32, 33, 34, 35]⟩, ⟨⟨some false, .no⟩, [0, 1, 2, 3, 4, 5, 6, 7, 8, 9, 10, 11, 12, 13, 14, 15, 16, 17, 18, 19, 20, 21, 22, 23, 24, 25, 26, 27, 28, 29, 30, 31]⟩, ⟨⟨some false, .no⟩, [0, 1, 2, 3, 4, 5, 6, 7, 8, 9, 10, 11, 12, 13, 14, 15, 16, 17, 18, 19, 20, 21, 22, 23, 24, 25, 26, 27, 28, 29, 30, 31, 37]⟩, ⟨⟨some false, .no⟩, [0, 1, 2, 3, 4, 5, 6, 7, 8, 9, 10, 11, 12, 13, 14, 15, 16, 17, 18, 19, 20, 21, 22, 23, 24, 25, 26, 27, 28, 29, 30, 31, 37, 38]⟩, ⟨⟨some false, .no⟩, [0, 1, 2, 3, 4, 5, 6, 7, 8, 9, 10, 11, 12, 13, 14, 15, 16, 17, 18, 19, 20, 21, 22, 23, 24, 25, 26, 27, 28, 29, 30, 31, 37, 38, 39]⟩]) (tds := [[0, 1, 2, 3, 4, 5, 6, 7, 8, 9, 10, 11, 12, 13, 14, 15, 16, 17, 18, 19, 20, 21, 22, 23, 24, 25, 26, 27, 28, 29, 30, 31, 32, 33, 34, 35, 36, 37, 38, 39, 40], [0, 1, 2, 3, 4, 5, 6, 7, 8, 9, 10, 11, 12, 13, 14, 15, 16, 17, 18, 19, 20, 21, 22, 23, 24, 25, 26, 27, 28, 29, 30, 31, 32, 33, 34, 35, 36, 37, 38, 39, 40, 41]]) (rs := [⟨some false, .no⟩, ⟨none, .tv false⟩]) (st' := ⟨[(46, .one (.dat .bool ((lenI a0.2.2.2) != a0.1))), (45, .one (.dat .bool ((lenI a0.2.2.2) != a0.1))), (44, .one (.dat (.int .i64) a0.1)), (43, .one (.ip (.st (.pair (.int .i64) (.pair (.int .i64) (.pair (.sl (.int .i64)) (.sl .bool))))) a0 0)), (42, .one (.ip (.st (.pair (.int .i64) (.pair (.int .i64) (.pair (.sl (.int .i64)) (.sl .bool))))) a0 0)), (41, .one (.ip (.st (.pair (.int .i64) (.pair (.int .i64) (.pair (.sl (.int .i64)) (.sl .bool))))) a0 0)), (40, .one (.dat (.int .i64) (lenI a0.2.2.2))), (39, .one (.dat (.sl .bool) a0.2.2.2)), (38, .one (.ip (.st (.pair (.int .i64) (.pair (.int .i64) (.pair (.sl (.int .i64)) (.sl .bool))))) a0 3)), (37, .one (.ip (.st (.pair (.int .i64) (.pair (.int .i64) (.pair (.sl (.int .i64)) (.sl .bool))))) a0 0)), (36, .one (.ip (.st (.pair (.int .i64) (.pair (.int .i64) (.pair (.sl (.int .i64)) (.sl .bool))))) a0 0)), (35, .one (.dat .bool ((lenI a0.2.2.1) != (wmul .i64 a0.1 a0.2.1)))), (34, .one (.dat .bool ((lenI a0.2.2.1) != (wmul .i64 a0.1 a0.2.1)))), (33, .one (.dat .bool ((lenI a0.2.2.1) != (wmul .i64 a0.1 a0.2.1)))), (32, .one (.dat (.int .i64) (wmul .i64 a0.1 a0.2.1))), (31, .one (.dat (.int .i64) a0.2.1)), (30, .one (.ip (.st (.pair (.int .i64) (.pair (.int .i64) (.pair (.sl (.int .i64)) (.sl .bool))))) a0 1)), (29, .one (.ip (.st (.pair (.int .i64) (.pair (.int .i64) (.pair (.sl (.int .i64)) (.sl .bool))))) a0 0)), (28, .one (.ip (.st (.pair (.int .i64) (.pair (.int .i64) (.pair (.sl (.int .i64)) (.sl .bool))))) a0 0)), (27, .one (.dat (.int .i64) a0.1)), (26, .one (.ip (.st (.pair (.int .i64) (.pair (.int .i64) (.pair (.sl (.int .i64)) (.sl .bool))))) a0 0)), (25, .one (.ip (.st (.pair (.int .i64) (.pair (.int .i64) (.pair (.sl (.int .i64)) (.sl .bool))))) a0 0)), (24, .one (.ip (.st (.pair (.int .i64) (.pair (.int .i64) (.pair (.sl (.int .i64)) (.sl .bool))))) a0 0)), (23, .one (.dat (.int .i64) (lenI a0.2.2.1))), (22, .one (.dat (.sl (.int .i64)) a0.2.2.1)), (21, .one (.ip (.st (.pair (.int .i64) (.pair (.int .i64) (.pair (.sl (.int .i64)) (.sl .bool))))) a0 2)), (20, .one (.ip (.st (.pair (.int .i64) (.pair (.int .i64) (.pair (.sl (.int .i64)) (.sl .bool))))) a0 0)), (19, .one (.ip (.st (.pair (.int .i64) (.pair (.int .i64) (.pair (.sl (.int .i64)) (.sl .bool))))) a0 0)), (18, .one (.dat .bool (!y21))), (17, .one (.dat .bool (!y21))), (16, .one (.dat .bool (!y21))), (15, .one (.dat .bool y21)), (14, .one (.dat (.int .i64) a0.2.1)), (13, .one (.ip (.st (.pair (.int .i64) (.pair (.int .i64) (.pair (.sl (.int .i64)) (.sl .bool))))) a0 1)), (12, .one (.ip (.st (.pair (.int .i64) (.pair (.int .i64) (.pair (.sl (.int .i64)) (.sl .bool))))) a0 0)), (11, .one (.ip (.st (.pair (.int .i64) (.pair (.int .i64) (.pair (.sl (.int .i64)) (.sl .bool))))) a0 0)), (10, .one (.dat .bool (!y18))), (9, .one (.dat .bool (!y18))), (8, .one (.dat .bool y18)), (7, .one (.dat (.int .i64) a0.1)), (6, .one (.ip (.st (.pair (.int .i64) (.pair (.int .i64) (.pair (.sl (.int .i64)) (.sl .bool))))) a0 0)), (5, .one (.ip (.st (.pair (.int .i64) (.pair (.int .i64) (.pair (.sl (.int .i64)) (.sl .bool))))) a0 0)), (4, .one (.ip (.st (.pair (.int .i64) (.pair (.int .i64) (.pair (.sl (.int .i64)) (.sl .bool))))) a0 0)), (0, .one (.ip (.st (.pair (.int .i64) (.pair (.int .i64) (.pair (.sl (.int .i64)) (.sl .bool))))) a0 0))], [], 0⟩) hP hN (by kernel_rfl) (by kernel_rfl) (allCons (f64_ok hc19) (allCons hb20 (allCons hb20 (allCons hb20 (allCons hb20 (allCons hb20 (allCons (f64_ok hc22) (allCons hb20 (allCons hb20 (allCons hb23 (allCons hb23 (allCons hb23 (allCons hb23 (allCons hb23 (allCons hb23 (allCons hb23 (allCons hb23 (allCons hb23 (allCons hb23 (allCons hb23 (allCons hb23 (allCons hb23 (allCons hb23 (allCons hb23 (allCons hb23 (allCons hb24 (allCons hb24 (allCons hb24 (allCons hb24 (allCons hb24 (allCons hb24 (allCons hb24 (allCons hb24 (allCons hb24 (allCons hb24 (allCons hb24 allNil)))))))))))))))))))))))))))))))))))) (qThen ?_)
          exact (Le.cv (s := ⟨[], [], [], false⟩) (own := []) (ps := [a0 = a0, ((lenI a0.2.2.2) != a0.1) = ((lenI a0.2.2.2) != a0.1)]) (st' := ⟨[(0, .one (.ip (.st (.pair (.int .i64) (.pair (.int .i64) (.pair (.sl (.int .i64)) (.sl .bool))))) a0 0)), (46, .one (.dat .bool ((lenI a0.2.2.2) != a0.1)))], [], 0⟩) hO (fun h => by cases h) (by kernel_rfl) ⟨rfl, rfl, trivial⟩).ht (cont ((lenI a0.2.2.2) != a0.1) (of_some hT3))

noncomputable def spec_FirstLoop_B1 (a0 : Int × Int × List Int × List Bool) (s34 : Bool × Int × List Int) : Option ((Bool × Int × List Int) ⊕ ((Bool × List Int))) :=
  (show Option (Bool) from
    bif (decide (s34.2.1 ≥ (0 : Int))) then
      some (!s34.1)
    else
      some false).bind fun v40 =>
  bif v40 then
    (show Option (Bool × List Int) from
      guardP ((0 : Int) ≤ s34.2.1 ∧ s34.2.1 < lenI s34.2.2) (
        (some (List.set s34.2.2 (Int.toNat s34.2.1) (wadd .i64 (List.getD s34.2.2 (Int.toNat s34.2.1) (0 : Int)) (1 : Int)))).bind fun q48 =>
        guardP ((0 : Int) ≤ s34.2.1 ∧ s34.2.1 < lenI q48) (
          bif (!(decide ((List.getD q48 (Int.toNat s34.2.1) (0 : Int)) < a0.2.1))) then
            some ((decide ((List.getD q48 (Int.toNat s34.2.1) (0 : Int)) < a0.2.1)), (List.set q48 (Int.toNat s34.2.1) (0 : Int)))
          else
            some ((decide ((List.getD q48 (Int.toNat s34.2.1) (0 : Int)) < a0.2.1)), q48)))).bind fun v44 =>
    some (.inl (v44.1, (wsub .i64 s34.2.1 (1 : Int)), v44.2))
  else
    some (.inr (s34.1, s34.2.2))

noncomputable def spec_FirstLoop_B2 (a0 : Int × Int × List Int × List Bool) (s5 : Int) (s22 : Bool × List Int) : Option ((Bool × List Int) ⊕ (Unit ⊕ (List Int × List Int))) :=
  bif s22.1 then
    guardP ((0 : Int) ≤ s5 ∧ s5 ≤ lenI s22.2) (
      (spec_l07Reads (a0.1, a0.2.1, a0.2.2.1, a0.2.2.2) ((List.take (Int.toNat s5) (List.drop 0 s22.2)), (List.take (Int.toNat (lenI s22.2) - Int.toNat s5) (List.drop (Int.toNat s5) s22.2)))).bind fun y31 =>
      bif y31 then
        some (.inr (.inr ((List.take (Int.toNat s5) (List.drop 0 s22.2)), (List.take (Int.toNat (lenI s22.2) - Int.toNat s5) (List.drop (Int.toNat s5) s22.2)))))
      else
        (rounds (spec_FirstLoop_B1 a0) (false, (wsub .i64 (lenI s22.2) (1 : Int)), s22.2)).bind fun r36 =>
        some (.inl (r36.1, r36.2)))
  else
    some (.inr (.inl ()))

noncomputable def spec_FirstLoop_B3 (a0 : Int × Int × List Int × List Bool) (a1 : Int) (s5 : Int) (s13 : Int) : Option ((Int) ⊕ (Unit ⊕ (List Int × List Int))) :=
  bif (decide (s13 ≤ a1)) then
    guardP ((0 : Int) ≤ (wadd .i64 s5 s13) ∧ (wadd .i64 s5 s13) ≤ 4294967296) (
      (rounds (spec_FirstLoop_B2 a0 s5) (true, (List.replicate (Int.toNat (wadd .i64 s5 s13)) (0 : Int)))).bind fun r23 => match r23 with
        | .inl r24 =>
          some (.inl (wadd .i64 s13 (1 : Int)))
        | .inr r25 =>
          some (.inr (.inr (r25.1, r25.2))))
  else
    some (.inr (.inl ()))

noncomputable def spec_FirstLoop_B4 (a0 : Int × Int × List Int × List Bool) (a1 : Int) (s5 : Int) : Option ((Int) ⊕ (Unit ⊕ (List Int × List Int))) :=
  bif (decide (s5 ≤ a1)) then
    (rounds (spec_FirstLoop_B3 a0 a1 s5) (1 : Int)).bind fun r14 => match r14 with
      | .inl r15 =>
        some (.inl (wadd .i64 s5 (1 : Int)))
      | .inr r16 =>
        some (.inr (.inr (r16.1, r16.2)))
  else
    some (.inr (.inl ()))

noncomputable def spec_FirstLoop (a0 : Int × Int × List Int × List Bool) (a1 : Int) : Option ((List Int × List Int) × Bool) :=
  (show Option (Bool) from
    (spec_l02Plain (a0.1, a0.2.1, a0.2.2.1, a0.2.2.2)).bind fun y57 =>
    bif (!y57) then
      some true
    else
      (spec_l00In a1 (1 : Int) (3 : Int)).bind fun y60 =>
      some (!y60)).bind fun v1 =>
  bif v1 then
    some ((([] : List Int), ([] : List Int)), false)
  else
    (rounds (spec_FirstLoop_B4 a0 a1) (0 : Int)).bind fun r6 => match r6 with
      | .inl r7 =>
        some ((([] : List Int), ([] : List Int)), false)
      | .inr r8 =>
        some ((r8.1, r8.2), true)

theorem f22_ok {a0 : Int × Int × List Int × List Bool} {a1 : Int} {r : (List Int × List Int) × Bool} (hr : spec_FirstLoop a0 a1 = some r) : CallOK Try.prog 22 [.imm (.st (.pair (.int .i64) (.pair (.int .i64) (.pair (.sl (.int .i64)) (.sl .bool))))) a0, .imm (.int .i64) a1] [⟨false, (.st (.pair (.sl (.int .i64)) (.sl (.int .i64)))), r.1⟩, ⟨false, .bool, r.2⟩] [] := by
  unfold spec_FirstLoop at hr
  refine CallOK.of_body (ts := [(false, (.st (.pair (.sl (.int .i64)) (.sl (.int .i64))))), (false, .bool)]) Try.func22 rfl (by kernel_rfl) (Nat.le_of_ble_eq_true (by kernel_rfl)) fun cx hP hN hO hF => ?_
  have hO : cx.own.map Prod.fst = [] := hO
  have hF := hF rfl
  show HT cx ⟨[(0, .agg [.dat (.int .i64) a0.1, .dat (.int .i64) a0.2.1, .dat (.sl (.int .i64)) a0.2.2.1, .dat (.sl .bool) a0.2.2.2]), (1, .one (.dat (.int .i64) a1))], [], 0⟩ _ _
  refine HT.reg1 [1, 2, 4] [⟨none, .no⟩, ⟨none, .no⟩, ⟨none, .no⟩] ⟨[(1, .one (.dat (.int .i64) a1)), (2, .one (.ptr 0 0)), (4, .one (.ptr 1 0))], [(1, .box [.nilS, .nilS]), (0, .box [.dat (.int .i64) a0.1, .dat (.int .i64) a0.2.1, .dat (.sl (.int .i64)) a0.2.2.1, .dat (.sl .bool) a0.2.2.2])], 2⟩ hP hN (by kernel_rfl) allNil ?_
  refine HT.seq ?_
  obtain ⟨v1', hT3, hr⟩ := of_bind hr
  refine HT.join (fun (v1 : Bool) => ⟨[(1, .one (.dat (.int .i64) a1)), (2, .one (.ptr 0 0)), (4, .one (.ptr 1 0)), (18, .one (.dat .bool v1))], [(0, .box [.dat (.int .i64) a0.1, .dat (.int .i64) a0.2.1, .dat (.sl (.int .i64)) a0.2.2.1, .dat (.sl .bool) a0.2.2.2]), (1, .box [.nilS, .nilS])], 2⟩) (fun v => v = v1') (fun v1 hv2 => ?_) (fun cont => ?_)
  · subst hv2
    rcases of_bif hr with ⟨hb4, hr⟩ | ⟨hb4, hr⟩
    · refine HT.cond1 rfl hb4 ?_
      refine HT.reg1 [4, 5] [⟨none, .no⟩, ⟨none, .no⟩, ⟨none, .no⟩] ⟨[(4, .one (.ptr 1 0)), (5, .one (.dat .bool false))], [(1, .box [.nilS, .nilS]), (0, .box [.dat (.int .i64) a0.1, .dat (.int .i64) a0.2.1, .dat (.sl (.int .i64)) a0.2.2.1, .dat (.sl .bool) a0.2.2.2]), (1, .box [.nilS, .nilS])], 2⟩ hP hN (by kernel_rfl) allNil ?_
      have hr := of_some hr
      subst hr
      exact HT.ret (qThenR ⟨[.agg [.nilS, .nilS], .one (.dat .bool false)], [], [], by kernel_rfl, by kernel_rfl, rfl, by kernel_rfl, by kernel_rfl, trivial⟩)
    · refine HT.cond0 rfl hb4 ?_
      refine HT.skip (qThen ?_)
      refine HT.seq ?_
      refine HT.reg1 [1, 2, 4, 6] [⟨none, .no⟩] ⟨[(1, .one (.dat (.int .i64) a1)), (2, .one (.ptr 0 0)), (4, .one (.ptr 1 0)), (6, .one (.dat (.int .i64) (0 : Int)))], [(0, .box [.dat (.int .i64) a0.1, .dat (.int .i64) a0.2.1, .dat (.sl (.int .i64)) a0.2.2.1, .dat (.sl .bool) a0.2.2.2]), (1, .box [.nilS, .nilS])], 2⟩ hP hN (by kernel_rfl) allNil ?_
      refine HT.block ?_
      obtain ⟨r6, hL56, hr⟩ := of_bind hr
      refine (Le.cv (s := ⟨[(0, 0), (1, 1)], [], [], false⟩) (own := []) (ps := [a1 = a1, (0 : Int) = (0 : Int), a0.1 = a0.1, a0.2.1 = a0.2.1, a0.2.2.1 = a0.2.2.1, a0.2.2.2 = a0.2.2.2]) (st' := ⟨[(1, .one (.dat (.int .i64) a1)), (2, .one (.ptr 0 0)), (4, .one (.ptr 1 0)), (6, .one (.dat (.int .i64) (0 : Int)))], [(0, .box [.dat (.int .i64) a0.1, .dat (.int .i64) a0.2.1, .dat (.sl (.int .i64)) a0.2.2.1, .dat (.sl .bool) a0.2.2.2]), (1, .box [.nilS, .nilS])], 2⟩) hO (fun h => by cases h) (by kernel_rfl) ⟨rfl, rfl, rfl, rfl, rfl, rfl, trivial⟩).ht ?_
      refine HT.loopE (s := (0 : Int)) (fun (s5 : Int) => ⟨[(1, .one (.dat (.int .i64) a1)), (2, .one (.ptr 0 0)), (4, .one (.ptr 1 0)), (6, .one (.dat (.int .i64) s5))], [(0, .box [.dat (.int .i64) a0.1, .dat (.int .i64) a0.2.1, .dat (.sl (.int .i64)) a0.2.2.1, .dat (.sl .bool) a0.2.2.2]), (1, .box [.nilS, .nilS])], 2⟩) (fun (r6 : Unit ⊕ (List Int × List Int)) => match r6 with | .inl r7 => (.exit 0, ⟨[(4, .one (.ptr 0 0))], [(0, .box [.nilS, .nilS])], 1⟩) | .inr r8 => (.ret, ⟨[(4, .one (.ptr 0 0)), (5, .one (.dat .bool true))], [(0, .box [.dat (.sl (.int .i64)) r8.1, .dat (.sl (.int .i64)) r8.2])], 1⟩)) hL56 ?_ (fun s5 x9 hx10 hk11 => ?_)
      · rcases r6 with r7 | r8
        · refine (qBlockX (qThen ?_))
          refine HT.reg1 [4, 5] [⟨none, .no⟩, ⟨none, .no⟩, ⟨none, .no⟩] ⟨[(4, .one (.ptr 0 0)), (5, .one (.dat .bool false))], [(0, .box [.nilS, .nilS]), (0, .box [.nilS, .nilS])], 1⟩ hP hN (by kernel_rfl) allNil ?_
          have hr := of_some hr
          subst hr
          exact HT.ret ⟨[.agg [.nilS, .nilS], .one (.dat .bool false)], [], [], by kernel_rfl, by kernel_rfl, rfl, by kernel_rfl, by kernel_rfl, trivial⟩
        · have hr := of_some hr
          subst hr
          exact (qBlockR (qThenR ⟨[.agg [.dat (.sl (.int .i64)) r8.1, .dat (.sl (.int .i64)) r8.2], .one (.dat .bool true)], [], [], by kernel_rfl, by kernel_rfl, rfl, by kernel_rfl, by kernel_rfl, trivial⟩))
      · refine HT.seq ?_
        refine HT.reg1 [1, 2, 4, 6, 22] [⟨none, .no⟩, ⟨none, .no⟩, ⟨none, .no⟩] ⟨[(1, .one (.dat (.int .i64) a1)), (2, .one (.ptr 0 0)), (4, .one (.ptr 1 0)), (6, .one (.dat (.int .i64) s5)), (22, .one (.dat .bool (decide (s5 ≤ a1))))], [(0, .box [.dat (.int .i64) a0.1, .dat (.int .i64) a0.2.1, .dat (.sl (.int .i64)) a0.2.2.1, .dat (.sl .bool) a0.2.2.2]), (1, .box [.nilS, .nilS])], 2⟩ hP hN (by kernel_rfl) allNil ?_
        rcases of_bif hx10 with ⟨hb12, hx10⟩ | ⟨hb12, hx10⟩
        · refine HT.cond1 rfl hb12 ?_
          refine HT.skip (qThen ?_)
          refine HT.seq ?_
          refine HT.block ?_
          refine HT.reg1 [1, 2, 4, 6, 7] [⟨none, .no⟩] ⟨[(1, .one (.dat (.int .i64) a1)), (2, .one (.ptr 0 0)), (4, .one (.ptr 1 0)), (6, .one (.dat (.int .i64) s5)), (7, .one (.dat (.int .i64) (1 : Int)))], [(0, .box [.dat (.int .i64) a0.1, .dat (.int .i64) a0.2.1, .dat (.sl (.int .i64)) a0.2.2.1, .dat (.sl .bool) a0.2.2.2]), (1, .box [.nilS, .nilS])], 2⟩ hP hN (by kernel_rfl) allNil ?_
          refine HT.block ?_
          obtain ⟨r14, hL55, hx10⟩ := of_bind hx10
          refine (Le.cv (s := ⟨[(0, 0), (1, 1)], [], [], false⟩) (own := []) (ps := [a1 = a1, s5 = s5, (1 : Int) = (1 : Int), a0.1 = a0.1, a0.2.1 = a0.2.1, a0.2.2.1 = a0.2.2.1, a0.2.2.2 = a0.2.2.2]) (st' := ⟨[(1, .one (.dat (.int .i64) a1)), (2, .one (.ptr 0 0)), (4, .one (.ptr 1 0)), (6, .one (.dat (.int .i64) s5)), (7, .one (.dat (.int .i64) (1 : Int)))], [(0, .box [.dat (.int .i64) a0.1, .dat (.int .i64) a0.2.1, .dat (.sl (.int .i64)) a0.2.2.1, .dat (.sl .bool) a0.2.2.2]), (1, .box [.nilS, .nilS])], 2⟩) hO (fun h => by cases h) (by kernel_rfl) ⟨rfl, rfl, rfl, rfl, rfl, rfl, rfl, trivial⟩).ht ?_
          refine HT.loopE (s := (1 : Int)) (fun (s13 : Int) => ⟨[(1, .one (.dat (.int .i64) a1)), (2, .one (.ptr 0 0)), (4, .one (.ptr 1 0)), (6, .one (.dat (.int .i64) s5)), (7, .one (.dat (.int .i64) s13))], [(0, .box [.dat (.int .i64) a0.1, .dat (.int .i64) a0.2.1, .dat (.sl (.int .i64)) a0.2.2.1, .dat (.sl .bool) a0.2.2.2]), (1, .box [.nilS, .nilS])], 2⟩) (fun (r14 : Unit ⊕ (List Int × List Int)) => match r14 with | .inl r15 => (.exit 2, ⟨[(1, .one (.dat (.int .i64) a1)), (2, .one (.ptr 0 0)), (4, .one (.ptr 1 0)), (6, .one (.dat (.int .i64) s5))], [(0, .box [.dat (.int .i64) a0.1, .dat (.int .i64) a0.2.1, .dat (.sl (.int .i64)) a0.2.2.1, .dat (.sl .bool) a0.2.2.2]), (1, .box [.nilS, .nilS])], 2⟩) | .inr r16 => (.ret, ⟨[(4, .one (.ptr 0 0)), (5, .one (.dat .bool true))], [(0, .box [.dat (.sl (.int .i64)) r16.1, .dat (.sl (.int .i64)) r16.2])], 1⟩)) hL55 ?_ (fun s13 x17 hx18 hk19 => ?_)
          · rcases r14 with r15 | r16
            · refine (qBlockX (qBlock (qThen ?_)))
              have hx10 := of_some hx10
              subst hx10
              refine HT.reg (rs := [⟨none, .no⟩, ⟨none, .no⟩, ⟨none, .no⟩]) (st' := ⟨[(6, .one (.dat (.int .i64) (wadd .i64 s5 (1 : Int)))), (24, .one (.dat (.int .i64) (wadd .i64 s5 (1 : Int)))), (23, .one (.dat (.int .i64) s5)), (1, .one (.dat (.int .i64) a1)), (2, .one (.ptr 0 0)), (4, .one (.ptr 1 0)), (6, .one (.dat (.int .i64) s5))], [(0, .box [.dat (.int .i64) a0.1, .dat (.int .i64) a0.2.1, .dat (.sl (.int .i64)) a0.2.2.1, .dat (.sl .bool) a0.2.2.2]), (1, .box [.nilS, .nilS])], 2⟩) hP hN (by kernel_rfl) allNil (qLoopN ⟨(wadd .i64 s5 (1 : Int)), rfl, Le.cv (s := ⟨[(0, 0), (1, 1)], [], [], false⟩) (own := []) (ps := [a1 = a1, (wadd .i64 s5 (1 : Int)) = (wadd .i64 s5 (1 : Int)), a0.1 = a0.1, a0.2.1 = a0.2.1, a0.2.2.1 = a0.2.2.1, a0.2.2.2 = a0.2.2.2]) (st' := ⟨[(1, .one (.dat (.int .i64) a1)), (2, .one (.ptr 0 0)), (4, .one (.ptr 1 0)), (6, .one (.dat (.int .i64) (wadd .i64 s5 (1 : Int))))], [(0, .box [.dat (.int .i64) a0.1, .dat (.int .i64) a0.2.1, .dat (.sl (.int .i64)) a0.2.2.1, .dat (.sl .bool) a0.2.2.2]), (1, .box [.nilS, .nilS])], 2⟩) hO (fun h => by cases h) (by kernel_rfl) ⟨rfl, rfl, rfl, rfl, rfl, rfl, trivial⟩⟩)
            · have hx10 := of_some hx10
              subst hx10
              exact (qBlockR (qBlockR (qThenR (qLoopR (hk11 (.inr (r16.1, r16.2)) rfl)))))
          · refine HT.seq ?_
            refine HT.reg1 [1, 2, 4, 6, 7, 27] [⟨none, .no⟩, ⟨none, .no⟩, ⟨none, .no⟩] ⟨[(1, .one (.dat (.int .i64) a1)), (2, .one (.ptr 0 0)), (4, .one (.ptr 1 0)), (6, .one (.dat (.int .i64) s5)), (7, .one (.dat (.int .i64) s13)), (27, .one (.dat .bool (decide (s13 ≤ a1))))], [(0, .box [.dat (.int .i64) a0.1, .dat (.int .i64) a0.2.1, .dat (.sl (.int .i64)) a0.2.2.1, .dat (.sl .bool) a0.2.2.2]), (1, .box [.nilS, .nilS])], 2⟩ hP hN (by kernel_rfl) allNil ?_
            rcases of_bif hx18 with ⟨hb20, hx18⟩ | ⟨hb20, hx18⟩
            · refine HT.cond1 rfl hb20 ?_
              refine HT.skip (qThen ?_)
              refine HT.seq ?_
              refine HT.block ?_
              obtain ⟨hg21, hx18⟩ := of_guard hx18
              refine HT.reg1 [1, 2, 4, 6, 7, 8] [⟨none, .no⟩, ⟨none, .no⟩, ⟨none, .no⟩, ⟨none, .ty (.int .i64)⟩, ⟨none, .no⟩] ⟨[(1, .one (.dat (.int .i64) a1)), (2, .one (.ptr 0 0)), (4, .one (.ptr 1 0)), (6, .one (.dat (.int .i64) s5)), (7, .one (.dat (.int .i64) s13)), (8, .one (.all 2))], [(2, .seq (.int .i64) (List.replicate (Int.toNat (wadd .i64 s5 s13)) (0 : Int))), (0, .box [.dat (.int .i64) a0.1, .dat (.int .i64) a0.2.1, .dat (.sl (.int .i64)) a0.2.2.1, .dat (.sl .bool) a0.2.2.2]), (1, .box [.nilS, .nilS])], 3⟩ hP hN (by kernel_rfl) (allCons (show (0 : Int) ≤ (wadd .i64 s5 s13) ∧ (wadd .i64 s5 s13) ≤ (wadd .i64 s5 s13) ∧ (wadd .i64 s5 s13) ≤ 4294967296 from ⟨hg21.1, Int.le_refl _, hg21.2⟩) allNil) ?_
              refine HT.reg1 [1, 2, 4, 6, 7, 8, 9] [⟨none, .no⟩] ⟨[(1, .one (.dat (.int .i64) a1)), (2, .one (.ptr 0 0)), (4, .one (.ptr 1 0)), (6, .one (.dat (.int .i64) s5)), (7, .one (.dat (.int .i64) s13)), (8, .one (.all 2)), (9, .one (.dat .bool true))], [(2, .seq (.int .i64) (List.replicate (Int.toNat (wadd .i64 s5 s13)) (0 : Int))), (0, .box [.dat (.int .i64) a0.1, .dat (.int .i64) a0.2.1, .dat (.sl (.int .i64)) a0.2.2.1, .dat (.sl .bool) a0.2.2.2]), (1, .box [.nilS, .nilS])], 3⟩ hP hN (by kernel_rfl) allNil ?_
              refine HT.block ?_
              obtain ⟨r23, hL54, hx18⟩ := of_bind hx18
              refine (Le.cv (s := ⟨[(0, 0), (1, 1), (2, 2)], [], [], false⟩) (own := []) (ps := [a1 = a1, s5 = s5, s13 = s13, true = true, a0.1 = a0.1, a0.2.1 = a0.2.1, a0.2.2.1 = a0.2.2.1, a0.2.2.2 = a0.2.2.2, (List.replicate (Int.toNat (wadd .i64 s5 s13)) (0 : Int)) = (List.replicate (Int.toNat (wadd .i64 s5 s13)) (0 : Int))]) (st' := ⟨[(1, .one (.dat (.int .i64) a1)), (2, .one (.ptr 0 0)), (4, .one (.ptr 1 0)), (6, .one (.dat (.int .i64) s5)), (7, .one (.dat (.int .i64) s13)), (8, .one (.all 2)), (9, .one (.dat .bool true))], [(0, .box [.dat (.int .i64) a0.1, .dat (.int .i64) a0.2.1, .dat (.sl (.int .i64)) a0.2.2.1, .dat (.sl .bool) a0.2.2.2]), (1, .box [.nilS, .nilS]), (2, .seq (.int .i64) (List.replicate (Int.toNat (wadd .i64 s5 s13)) (0 : Int)))], 3⟩) hO (fun h => by cases h) (by kernel_rfl) ⟨rfl, rfl, rfl, rfl, rfl, rfl, rfl, rfl, rfl, trivial⟩).ht ?_
              refine HT.loopE (s := (true, (List.replicate (Int.toNat (wadd .i64 s5 s13)) (0 : Int)))) (fun (s22 : Bool × List Int) => ⟨[(1, .one (.dat (.int .i64) a1)), (2, .one (.ptr 0 0)), (4, .one (.ptr 1 0)), (6, .one (.dat (.int .i64) s5)), (7, .one (.dat (.int .i64) s13)), (8, .one (.all 2)), (9, .one (.dat .bool s22.1))], [(0, .box [.dat (.int .i64) a0.1, .dat (.int .i64) a0.2.1, .dat (.sl (.int .i64)) a0.2.2.1, .dat (.sl .bool) a0.2.2.2]), (1, .box [.nilS, .nilS]), (2, .seq (.int .i64) s22.2)], 3⟩) (fun (r23 : Unit ⊕ (List Int × List Int)) => match r23 with | .inl r24 => (.exit 4, ⟨[(1, .one (.dat (.int .i64) a1)), (2, .one (.ptr 0 0)), (4, .one (.ptr 1 0)), (6, .one (.dat (.int .i64) s5)), (7, .one (.dat (.int .i64) s13))], [(0, .box [.dat (.int .i64) a0.1, .dat (.int .i64) a0.2.1, .dat (.sl (.int .i64)) a0.2.2.1, .dat (.sl .bool) a0.2.2.2]), (1, .box [.nilS, .nilS])], 2⟩) | .inr r25 => (.ret, ⟨[(4, .one (.ptr 0 0)), (5, .one (.dat .bool true))], [(0, .box [.dat (.sl (.int .i64)) r25.1, .dat (.sl (.int .i64)) r25.2])], 1⟩)) hL54 ?_ (fun s22 x26 hx27 hk28 => ?_)
              · rcases r23 with r24 | r25
                · refine (qBlockX (qBlock (qThen ?_)))
                  have hx18 := of_some hx18
                  subst hx18
                  refine HT.reg (rs := [⟨none, .no⟩, ⟨none, .no⟩, ⟨none, .no⟩]) (st' := ⟨[(7, .one (.dat (.int .i64) (wadd .i64 s13 (1 : Int)))), (29, .one (.dat (.int .i64) (wadd .i64 s13 (1 : Int)))), (28, .one (.dat (.int .i64) s13)), (1, .one (.dat (.int .i64) a1)), (2, .one (.ptr 0 0)), (4, .one (.ptr 1 0)), (6, .one (.dat (.int .i64) s5)), (7, .one (.dat (.int .i64) s13))], [(0, .box [.dat (.int .i64) a0.1, .dat (.int .i64) a0.2.1, .dat (.sl (.int .i64)) a0.2.2.1, .dat (.sl .bool) a0.2.2.2]), (1, .box [.nilS, .nilS])], 2⟩) hP hN (by kernel_rfl) allNil (qLoopN ⟨(wadd .i64 s13 (1 : Int)), rfl, Le.cv (s := ⟨[(0, 0), (1, 1)], [], [], false⟩) (own := []) (ps := [a1 = a1, s5 = s5, (wadd .i64 s13 (1 : Int)) = (wadd .i64 s13 (1 : Int)), a0.1 = a0.1, a0.2.1 = a0.2.1, a0.2.2.1 = a0.2.2.1, a0.2.2.2 = a0.2.2.2]) (st' := ⟨[(1, .one (.dat (.int .i64) a1)), (2, .one (.ptr 0 0)), (4, .one (.ptr 1 0)), (6, .one (.dat (.int .i64) s5)), (7, .one (.dat (.int .i64) (wadd .i64 s13 (1 : Int))))], [(0, .box [.dat (.int .i64) a0.1, .dat (.int .i64) a0.2.1, .dat (.sl (.int .i64)) a0.2.2.1, .dat (.sl .bool) a0.2.2.2]), (1, .box [.nilS, .nilS])], 2⟩) hO (fun h => by cases h) (by kernel_rfl) ⟨rfl, rfl, rfl, rfl, rfl, rfl, rfl, trivial⟩⟩)
                · have hx18 := of_some hx18
                  subst hx18
                  exact (qBlockR (qBlockR (qThenR (qLoopR (hk19 (.inr (r25.1, r25.2)) rfl)))))
              · refine HT.seq ?_
                refine HT.reg1 [1, 2, 4, 6, 7, 8, 34] [⟨none, .no⟩] ⟨[(1, .one (.dat (.int .i64) a1)), (2, .one (.ptr 0 0)), (4, .one (.ptr 1 0)), (6, .one (.dat (.int .i64) s5)), (7, .one (.dat (.int .i64) s13)), (8, .one (.all 2)), (34, .one (.dat .bool s22.1))], [(0, .box [.dat (.int .i64) a0.1, .dat (.int .i64) a0.2.1, .dat (.sl (.int .i64)) a0.2.2.1, .dat (.sl .bool) a0.2.2.2]), (1, .box [.nilS, .nilS]), (2, .seq (.int .i64) s22.2)], 3⟩ hP hN (by kernel_rfl) allNil ?_
                rcases of_bif hx27 with ⟨hb29, hx27⟩ | ⟨hb29, hx27⟩
                · refine HT.cond1 rfl hb29 ?_
                  refine HT.skip (qThen ?_)
                  refine HT.block ?_
                  obtain ⟨hg30, hx27⟩ := of_guard hx27
                  refine HT.drw1 [1, 2, 4, 6, 7, 8, 10] 8 [⟨⟨none, .no⟩, []⟩, ⟨⟨none, .no⟩, []⟩, ⟨⟨none, .no⟩, [0, 1]⟩, ⟨⟨none, .no⟩, []⟩, ⟨⟨none, .no⟩, []⟩, ⟨⟨none, .no⟩, [3, 4]⟩, ⟨⟨none, .no⟩, [0, 1, 2, 3, 4, 5]⟩, ⟨⟨none, .no⟩, []⟩] [[0, 1, 2, 3, 4, 5, 6, 7]] [⟨none, .no⟩] ⟨[(1, .one (.dat (.int .i64) a1)), (2, .one (.ptr 0 0)), (4, .one (.ptr 1 0)), (6, .one (.dat (.int .i64) s5)), (7, .one (.dat (.int .i64) s13)), (8, .one (.all 2)), (10, .one (.ptr 3 0))], [(3, .box [.ref 2 0 (Int.toNat s5), .ref 2 (Int.toNat s5) (Int.toNat (lenI s22.2) - Int.toNat s5)]), (3, .box [.nilS, .nilS]), (0, .box [.dat (.int .i64) a0.1, .dat (.int .i64) a0.2.1, .dat (.sl (.int .i64)) a0.2.2.1, .dat (.sl .bool) a0.2.2.2]), (1, .box [.nilS, .nilS]), (2, .seq (.int .i64) s22.2)], 4⟩ hP hN (by kernel_rfl) (by kernel_rfl) (allCons (show (0 : Int) ≤ 0 ∧ (0 : Int) ≤ s5 ∧ s5 ≤ lenI s22.2 from ⟨Int.le_refl _, hg30.1, hg30.2⟩) (allCons (show (0 : Int) ≤ s5 ∧ s5 ≤ lenI s22.2 ∧ lenI s22.2 ≤ lenI s22.2 from ⟨hg30.1, hg30.2, Int.le_refl _⟩) allNil)) ?_
                  refine HT.seq ?_
                  obtain ⟨y31, hc32, hx27⟩ := of_bind hx27
                  refine HT.reg1 [1, 2, 4, 6, 7, 8, 10, 42] [⟨none, .call [.pimm (.st (.pair (.int .i64) (.pair (.int .i64) (.pair (.sl (.int .i64)) (.sl .bool))))), .pimm (.st (.pair (.sl (.int .i64)) (.sl (.int .i64))))] [⟨false, .bool, y31⟩] []⟩] ⟨[(1, .one (.dat (.int .i64) a1)), (2, .one (.ptr 0 0)), (4, .one (.ptr 1 0)), (6, .one (.dat (.int .i64) s5)), (7, .one (.dat (.int .i64) s13)), (8, .one (.all 2)), (10, .one (.ptr 3 0)), (42, .one (.dat .bool y31))], [(3, .box [.ref 2 0 (Int.toNat s5), .ref 2 (Int.toNat s5) (Int.toNat (lenI s22.2) - Int.toNat s5)]), (3, .box [.nilS, .nilS]), (0, .box [.dat (.int .i64) a0.1, .dat (.int .i64) a0.2.1, .dat (.sl (.int .i64)) a0.2.2.1, .dat (.sl .bool) a0.2.2.2]), (1, .box [.nilS, .nilS]), (2, .seq (.int .i64) s22.2)], 4⟩ hP hN (by kernel_rfl) (allCons (f77_ok hc32) allNil) ?_
                  rcases of_bif hx27 with ⟨hb33, hx27⟩ | ⟨hb33, hx27⟩
                  · refine HT.cond1 rfl hb33 ?_
                    refine HT.reg1 [4, 5] [⟨none, .no⟩, ⟨none, .no⟩, ⟨none, .no⟩] ⟨[(4, .one (.ptr 1 0)), (5, .one (.dat .bool true))], [(1, .box [.ref 2 0 (Int.toNat s5), .ref 2 (Int.toNat s5) (Int.toNat (lenI s22.2) - Int.toNat s5)]), (3, .box [.ref 2 0 (Int.toNat s5), .ref 2 (Int.toNat s5) (Int.toNat (lenI s22.2) - Int.toNat s5)]), (3, .box [.nilS, .nilS]), (0, .box [.dat (.int .i64) a0.1, .dat (.int .i64) a0.2.1, .dat (.sl (.int .i64)) a0.2.2.1, .dat (.sl .bool) a0.2.2.2]), (1, .box [.nilS, .nilS]), (2, .seq (.int .i64) s22.2)], 4⟩ hP hN (by kernel_rfl) allNil ?_
                    have hx27 := of_some hx27
                    subst hx27
                    refine (Le.cv (s := ⟨[(1, 0)], [], [], true⟩) (own := []) (ps := [true = true, (List.take (Int.toNat s5) (List.drop 0 s22.2)) = (List.take (Int.toNat s5) (List.drop 0 s22.2)), (List.take (Int.toNat (lenI s22.2) - Int.toNat s5) (List.drop (Int.toNat s5) s22.2)) = (List.take (Int.toNat (lenI s22.2) - Int.toNat s5) (List.drop (Int.toNat s5) s22.2))]) (st' := ⟨[(4, .one (.ptr 0 0)), (5, .one (.dat .bool true))], [(0, .box [.dat (.sl (.int .i64)) (List.take (Int.toNat s5) (List.drop 0 s22.2)), .dat (.sl (.int .i64)) (List.take (Int.toNat (lenI s22.2) - Int.toNat s5) (List.drop (Int.toNat s5) s22.2))])], 1⟩) hO (fun _ => hF) (by kernel_rfl) ⟨rfl, rfl, rfl, trivial⟩).ht ?_
                    exact HT.ret (qThenR (qBlockR (qLoopR (hk28 (.inr ((List.take (Int.toNat s5) (List.drop 0 s22.2)), (List.take (Int.toNat (lenI s22.2) - Int.toNat s5) (List.drop (Int.toNat s5) s22.2)))) rfl))))
                  · refine HT.cond0 rfl hb33 ?_
                    refine HT.skip (qThen ?_)
                    refine HT.reg1 [1, 2, 4, 6, 7, 8, 9] [⟨none, .no⟩] ⟨[(1, .one (.dat (.int .i64) a1)), (2, .one (.ptr 0 0)), (4, .one (.ptr 1 0)), (6, .one (.dat (.int .i64) s5)), (7, .one (.dat (.int .i64) s13)), (8, .one (.all 2)), (9, .one (.dat .bool false))], [(3, .box [.ref 2 0 (Int.toNat s5), .ref 2 (Int.toNat s5) (Int.toNat (lenI s22.2) - Int.toNat s5)]), (3, .box [.nilS, .nilS]), (0, .box [.dat (.int .i64) a0.1, .dat (.int .i64) a0.2.1, .dat (.sl (.int .i64)) a0.2.2.1, .dat (.sl .bool) a0.2.2.2]), (1, .box [.nilS, .nilS]), (2, .seq (.int .i64) s22.2)], 4⟩ hP hN (by kernel_rfl) allNil ?_
                    refine HT.reg1 [1, 2, 4, 6, 7, 8, 9, 11] [⟨none, .no⟩, ⟨none, .no⟩, ⟨none, .no⟩, ⟨none, .no⟩] ⟨[(1, .one (.dat (.int .i64) a1)), (2, .one (.ptr 0 0)), (4, .one (.ptr 1 0)), (6, .one (.dat (.int .i64) s5)), (7, .one (.dat (.int .i64) s13)), (8, .one (.all 2)), (9, .one (.dat .bool false)), (11, .one (.dat (.int .i64) (wsub .i64 (lenI s22.2) (1 : Int))))], [(3, .box [.ref 2 0 (Int.toNat s5), .ref 2 (Int.toNat s5) (Int.toNat (lenI s22.2) - Int.toNat s5)]), (3, .box [.nilS, .nilS]), (0, .box [.dat (.int .i64) a0.1, .dat (.int .i64) a0.2.1, .dat (.sl (.int .i64)) a0.2.2.1, .dat (.sl .bool) a0.2.2.2]), (1, .box [.nilS, .nilS]), (2, .seq (.int .i64) s22.2)], 4⟩ hP hN (by kernel_rfl) allNil ?_
                    refine HT.block ?_
                    obtain ⟨r35, hL53, hx27⟩ := of_bind hx27
                    refine (Le.cv (s := ⟨[(0, 0), (1, 1), (2, 2)], [], [], false⟩) (own := []) (ps := [a1 = a1, s5 = s5, s13 = s13, false = false, (wsub .i64 (lenI s22.2) (1 : Int)) = (wsub .i64 (lenI s22.2) (1 : Int)), a0.1 = a0.1, a0.2.1 = a0.2.1, a0.2.2.1 = a0.2.2.1, a0.2.2.2 = a0.2.2.2, s22.2 = s22.2]) (st' := ⟨[(1, .one (.dat (.int .i64) a1)), (2, .one (.ptr 0 0)), (4, .one (.ptr 1 0)), (6, .one (.dat (.int .i64) s5)), (7, .one (.dat (.int .i64) s13)), (8, .one (.all 2)), (9, .one (.dat .bool false)), (11, .one (.dat (.int .i64) (wsub .i64 (lenI s22.2) (1 : Int))))], [(0, .box [.dat (.int .i64) a0.1, .dat (.int .i64) a0.2.1, .dat (.sl (.int .i64)) a0.2.2.1, .dat (.sl .bool) a0.2.2.2]), (1, .box [.nilS, .nilS]), (2, .seq (.int .i64) s22.2)], 3⟩) hO (fun h => by cases h) (by kernel_rfl) ⟨rfl, rfl, rfl, rfl, rfl, rfl, rfl, rfl, rfl, rfl, trivial⟩).ht ?_
                    refine HT.loopE (s := (false, (wsub .i64 (lenI s22.2) (1 : Int)), s22.2)) (fun (s34 : Bool × Int × List Int) => ⟨[(1, .one (.dat (.int .i64) a1)), (2, .one (.ptr 0 0)), (4, .one (.ptr 1 0)), (6, .one (.dat (.int .i64) s5)), (7, .one (.dat (.int .i64) s13)), (8, .one (.all 2)), (9, .one (.dat .bool s34.1)), (11, .one (.dat (.int .i64) s34.2.1))], [(0, .box [.dat (.int .i64) a0.1, .dat (.int .i64) a0.2.1, .dat (.sl (.int .i64)) a0.2.2.1, .dat (.sl .bool) a0.2.2.2]), (1, .box [.nilS, .nilS]), (2, .seq (.int .i64) s34.2.2)], 3⟩) (fun (r36 : (Bool × List Int)) => (.exit 6, ⟨[(1, .one (.dat (.int .i64) a1)), (2, .one (.ptr 0 0)), (4, .one (.ptr 1 0)), (6, .one (.dat (.int .i64) s5)), (7, .one (.dat (.int .i64) s13)), (8, .one (.all 2)), (9, .one (.dat .bool r36.1))], [(0, .box [.dat (.int .i64) a0.1, .dat (.int .i64) a0.2.1, .dat (.sl (.int .i64)) a0.2.2.1, .dat (.sl .bool) a0.2.2.2]), (1, .box [.nilS, .nilS]), (2, .seq (.int .i64) r36.2)], 3⟩)) hL53 ?_ (fun s34 x37 hx38 hk39 => ?_)
                    · have hx27 := of_some hx27
                      subst hx27
                      refine (qBlockX (qBlock (qLoopN ⟨(r35.1, r35.2), rfl, Le.cv (s := ⟨[(0, 0), (1, 1), (2, 2)], [], [], false⟩) (own := []) (ps := [a1 = a1, s5 = s5, s13 = s13, r35.1 = r35.1, a0.1 = a0.1, a0.2.1 = a0.2.1, a0.2.2.1 = a0.2.2.1, a0.2.2.2 = a0.2.2.2, r35.2 = r35.2]) (st' := ⟨[(1, .one (.dat (.int .i64) a1)), (2, .one (.ptr 0 0)), (4, .one (.ptr 1 0)), (6, .one (.dat (.int .i64) s5)), (7, .one (.dat (.int .i64) s13)), (8, .one (.all 2)), (9, .one (.dat .bool r35.1))], [(0, .box [.dat (.int .i64) a0.1, .dat (.int .i64) a0.2.1, .dat (.sl (.int .i64)) a0.2.2.1, .dat (.sl .bool) a0.2.2.2]), (1, .box [.nilS, .nilS]), (2, .seq (.int .i64) r35.2)], 3⟩) hO (fun h => by cases h) (by kernel_rfl) ⟨rfl, rfl, rfl, rfl, rfl, rfl, rfl, rfl, rfl, trivial⟩⟩)))
                    · refine HT.seq ?_
                      obtain ⟨v40', hT42, hx38⟩ := of_bind hx38
                      refine HT.join (fun (v40 : Bool) => ⟨[(1, .one (.dat (.int .i64) a1)), (2, .one (.ptr 0 0)), (4, .one (.ptr 1 0)), (6, .one (.dat (.int .i64) s5)), (7, .one (.dat (.int .i64) s13)), (8, .one (.all 2)), (9, .one (.dat .bool s34.1)), (11, .one (.dat (.int .i64) s34.2.1)), (52, .one (.dat .bool v40))], [(0, .box [.dat (.int .i64) a0.1, .dat (.int .i64) a0.2.1, .dat (.sl (.int .i64)) a0.2.2.1, .dat (.sl .bool) a0.2.2.2]), (1, .box [.nilS, .nilS]), (2, .seq (.int .i64) s34.2.2)], 3⟩) (fun v => v = v40') (fun v40 hv41 => ?_) (fun cont => ?_)
                      · subst hv41
                        rcases of_bif hx38 with ⟨hb43, hx38⟩ | ⟨hb43, hx38⟩
                        · refine HT.cond1 rfl hb43 ?_
                          refine HT.skip (qThen ?_)
                          obtain ⟨v44', hT46, hx38⟩ := of_bind hx38
                          refine HT.join (fun (v44 : Bool × List Int) => ⟨[(1, .one (.dat (.int .i64) a1)), (2, .one (.ptr 0 0)), (4, .one (.ptr 1 0)), (6, .one (.dat (.int .i64) s5)), (7, .one (.dat (.int .i64) s13)), (8, .one (.all 2)), (9, .one (.dat .bool v44.1)), (11, .one (.dat (.int .i64) s34.2.1))], [(0, .box [.dat (.int .i64) a0.1, .dat (.int .i64) a0.2.1, .dat (.sl (.int .i64)) a0.2.2.1, .dat (.sl .bool) a0.2.2.2]), (1, .box [.nilS, .nilS]), (2, .seq (.int .i64) v44.2)], 3⟩) (fun v => v = v44') (fun v44 hv45 => ?_) (fun cont => ?_)
                          · subst hv45
                            have hx38 := of_some hx38
                            subst hx38
                            refine HT.reg (rs := [⟨none, .no⟩, ⟨none, .no⟩, ⟨none, .no⟩]) (st' := ⟨[(11, .one (.dat (.int .i64) (wsub .i64 s34.2.1 (1 : Int)))), (54, .one (.dat (.int .i64) (wsub .i64 s34.2.1 (1 : Int)))), (53, .one (.dat (.int .i64) s34.2.1)), (1, .one (.dat (.int .i64) a1)), (2, .one (.ptr 0 0)), (4, .one (.ptr 1 0)), (6, .one (.dat (.int .i64) s5)), (7, .one (.dat (.int .i64) s13)), (8, .one (.all 2)), (9, .one (.dat .bool v44.1)), (11, .one (.dat (.int .i64) s34.2.1))], [(0, .box [.dat (.int .i64) a0.1, .dat (.int .i64) a0.2.1, .dat (.sl (.int .i64)) a0.2.2.1, .dat (.sl .bool) a0.2.2.2]), (1, .box [.nilS, .nilS]), (2, .seq (.int .i64) v44.2)], 3⟩) hP hN (by kernel_rfl) allNil (qLoopN ⟨(v44.1, (wsub .i64 s34.2.1 (1 : Int)), v44.2), rfl, Le.cv (s := ⟨[(0, 0), (1, 1), (2, 2)], [], [], false⟩) (own := []) (ps := [a1 = a1, s5 = s5, s13 = s13, v44.1 = v44.1, (wsub .i64 s34.2.1 (1 : Int)) = (wsub .i64 s34.2.1 (1 : Int)), a0.1 = a0.1, a0.2.1 = a0.2.1, a0.2.2.1 = a0.2.2.1, a0.2.2.2 = a0.2.2.2, v44.2 = v44.2]) (st' := ⟨[(1, .one (.dat (.int .i64) a1)), (2, .one (.ptr 0 0)), (4, .one (.ptr 1 0)), (6, .one (.dat (.int .i64) s5)), (7, .one (.dat (.int .i64) s13)), (8, .one (.all 2)), (9, .one (.dat .bool v44.1)), (11, .one (.dat (.int .i64) (wsub .i64 s34.2.1 (1 : Int))))], [(0, .box [.dat (.int .i64) a0.1, .dat (.int .i64) a0.2.1, .dat (.sl (.int .i64)) a0.2.2.1, .dat (.sl .bool) a0.2.2.2]), (1, .box [.nilS, .nilS]), (2, .seq (.int .i64) v44.2)], 3⟩) hO (fun h => by cases h) (by kernel_rfl) ⟨rfl, rfl, rfl, rfl, rfl, rfl, rfl, rfl, rfl, rfl, trivial⟩⟩)
                          · refine HT.block ?_
                            obtain ⟨hg47, hT46⟩ := of_guard hT46
                            refine HT.reg1 [1, 2, 4, 6, 7, 8, 11] [⟨none, .no⟩, ⟨none, .no⟩, ⟨none, .no⟩, ⟨none, .no⟩, ⟨none, .no⟩, ⟨none, .no⟩, ⟨none, .no⟩] ⟨[(1, .one (.dat (.int .i64) a1)), (2, .one (.ptr 0 0)), (4, .one (.ptr 1 0)), (6, .one (.dat (.int .i64) s5)), (7, .one (.dat (.int .i64) s13)), (8, .one (.all 2)), (11, .one (.dat (.int .i64) s34.2.1))], [(2, .seq (.int .i64) (List.set s34.2.2 (Int.toNat s34.2.1) (wadd .i64 (List.getD s34.2.2 (Int.toNat s34.2.1) (0 : Int)) (1 : Int)))), (0, .box [.dat (.int .i64) a0.1, .dat (.int .i64) a0.2.1, .dat (.sl (.int .i64)) a0.2.2.1, .dat (.sl .bool) a0.2.2.2]), (1, .box [.nilS, .nilS]), (2, .seq (.int .i64) s34.2.2)], 3⟩ hP hN (by kernel_rfl) (allCons hg47 (allCons (natLt hg47) (allCons hg47 (allCons (natLt hg47) allNil)))) ?_
                            obtain ⟨q48, hq49, hT46⟩ := of_bind hT46
                            have hq49 := of_some2 hq49
                            refine (Le.cv (s := ⟨[(2, 2), (0, 0), (1, 1)], [], [], false⟩) (own := []) (ps := [a1 = a1, s5 = s5, s13 = s13, s34.2.1 = s34.2.1, q48 = (List.set s34.2.2 (Int.toNat s34.2.1) (wadd .i64 (List.getD s34.2.2 (Int.toNat s34.2.1) (0 : Int)) (1 : Int))), a0.1 = a0.1, a0.2.1 = a0.2.1, a0.2.2.1 = a0.2.2.1, a0.2.2.2 = a0.2.2.2]) (st' := ⟨[(1, .one (.dat (.int .i64) a1)), (2, .one (.ptr 0 0)), (4, .one (.ptr 1 0)), (6, .one (.dat (.int .i64) s5)), (7, .one (.dat (.int .i64) s13)), (8, .one (.all 2)), (11, .one (.dat (.int .i64) s34.2.1))], [(2, .seq (.int .i64) q48), (0, .box [.dat (.int .i64) a0.1, .dat (.int .i64) a0.2.1, .dat (.sl (.int .i64)) a0.2.2.1, .dat (.sl .bool) a0.2.2.2]), (1, .box [.nilS, .nilS])], 3⟩) hO (fun h => by cases h) (by kernel_rfl) ⟨rfl, rfl, rfl, rfl, hq49, rfl, rfl, rfl, rfl, trivial⟩).ht ?_
                            obtain ⟨hg50, hT46⟩ := of_guard hT46
                            refine HT.drw1 [1, 2, 4, 6, 7, 8, 9, 11] 6 [⟨⟨none, .no⟩, []⟩, ⟨⟨none, .no⟩, []⟩, ⟨⟨none, .no⟩, [0, 1]⟩, ⟨⟨none, .no⟩, [0, 1, 2]⟩, ⟨⟨none, .no⟩, []⟩, ⟨⟨none, .no⟩, [4]⟩] [[0, 1, 2, 3, 4, 5], [0, 1, 2, 3, 4, 5, 6]] [⟨none, .no⟩, ⟨none, .no⟩] ⟨[(1, .one (.dat (.int .i64) a1)), (2, .one (.ptr 0 0)), (4, .one (.ptr 1 0)), (6, .one (.dat (.int .i64) s5)), (7, .one (.dat (.int .i64) s13)), (8, .one (.all 2)), (9, .one (.dat .bool (decide ((List.getD q48 (Int.toNat s34.2.1) (0 : Int)) < a0.2.1)))), (11, .one (.dat (.int .i64) s34.2.1))], [(2, .seq (.int .i64) q48), (0, .box [.dat (.int .i64) a0.1, .dat (.int .i64) a0.2.1, .dat (.sl (.int .i64)) a0.2.2.1, .dat (.sl .bool) a0.2.2.2]), (1, .box [.nilS, .nilS])], 3⟩ hP hN (by kernel_rfl) (by kernel_rfl) (allCons hg50 (allCons (natLt hg50) allNil)) ?_
                            refine HT.reg1 [1, 2, 4, 6, 7, 8, 9, 11, 69] [⟨none, .no⟩, ⟨none, .no⟩] ⟨[(1, .one (.dat (.int .i64) a1)), (2, .one (.ptr 0 0)), (4, .one (.ptr 1 0)), (6, .one (.dat (.int .i64) s5)), (7, .one (.dat (.int .i64) s13)), (8, .one (.all 2)), (9, .one (.dat .bool (decide ((List.getD q48 (Int.toNat s34.2.1) (0 : Int)) < a0.2.1)))), (11, .one (.dat (.int .i64) s34.2.1)), (69, .one (.dat .bool (!(decide ((List.getD q48 (Int.toNat s34.2.1) (0 : Int)) < a0.2.1)))))], [(2, .seq (.int .i64) q48), (0, .box [.dat (.int .i64) a0.1, .dat (.int .i64) a0.2.1, .dat (.sl (.int .i64)) a0.2.2.1, .dat (.sl .bool) a0.2.2.2]), (1, .box [.nilS, .nilS])], 3⟩ hP hN (by kernel_rfl) allNil ?_
                            rcases of_bif hT46 with ⟨hb51, hT46⟩ | ⟨hb51, hT46⟩
                            · refine HT.cond1 rfl hb51 ?_
                              refine HT.reg (rs := [⟨none, .no⟩, ⟨none, .no⟩, ⟨none, .no⟩, ⟨none, .no⟩]) (st' := ⟨[(72, .one (.elp 2 (Int.toNat s34.2.1) 1 0)), (71, .one (.dat (.int .i64) s34.2.1)), (70, .one (.all 2)), (1, .one (.dat (.int .i64) a1)), (2, .one (.ptr 0 0)), (4, .one (.ptr 1 0)), (6, .one (.dat (.int .i64) s5)), (7, .one (.dat (.int .i64) s13)), (8, .one (.all 2)), (9, .one (.dat .bool (decide ((List.getD q48 (Int.toNat s34.2.1) (0 : Int)) < a0.2.1)))), (11, .one (.dat (.int .i64) s34.2.1)), (69, .one (.dat .bool (!(decide ((List.getD q48 (Int.toNat s34.2.1) (0 : Int)) < a0.2.1)))))], [(2, .seq (.int .i64) (List.set q48 (Int.toNat s34.2.1) (0 : Int))), (2, .seq (.int .i64) q48), (0, .box [.dat (.int .i64) a0.1, .dat (.int .i64) a0.2.1, .dat (.sl (.int .i64)) a0.2.2.1, .dat (.sl .bool) a0.2.2.2]), (1, .box [.nilS, .nilS])], 3⟩) hP hN (by kernel_rfl) (allCons hg50 (allCons (natLt hg50) allNil)) (qBlock (qThen ?_))
                              exact (Le.cv (s := ⟨[(0, 0), (1, 1), (2, 2)], [], [], false⟩) (own := []) (ps := [a1 = a1, s5 = s5, s13 = s13, (decide ((List.getD q48 (Int.toNat s34.2.1) (0 : Int)) < a0.2.1)) = (decide ((List.getD q48 (Int.toNat s34.2.1) (0 : Int)) < a0.2.1)), s34.2.1 = s34.2.1, a0.1 = a0.1, a0.2.1 = a0.2.1, a0.2.2.1 = a0.2.2.1, a0.2.2.2 = a0.2.2.2, (List.set q48 (Int.toNat s34.2.1) (0 : Int)) = (List.set q48 (Int.toNat s34.2.1) (0 : Int))]) (st' := ⟨[(1, .one (.dat (.int .i64) a1)), (2, .one (.ptr 0 0)), (4, .one (.ptr 1 0)), (6, .one (.dat (.int .i64) s5)), (7, .one (.dat (.int .i64) s13)), (8, .one (.all 2)), (9, .one (.dat .bool (decide ((List.getD q48 (Int.toNat s34.2.1) (0 : Int)) < a0.2.1)))), (11, .one (.dat (.int .i64) s34.2.1))], [(0, .box [.dat (.int .i64) a0.1, .dat (.int .i64) a0.2.1, .dat (.sl (.int .i64)) a0.2.2.1, .dat (.sl .bool) a0.2.2.2]), (1, .box [.nilS, .nilS]), (2, .seq (.int .i64) (List.set q48 (Int.toNat s34.2.1) (0 : Int)))], 3⟩) hO (fun h => by cases h) (by kernel_rfl) ⟨rfl, rfl, rfl, rfl, rfl, rfl, rfl, rfl, rfl, rfl, trivial⟩).ht (cont ((decide ((List.getD q48 (Int.toNat s34.2.1) (0 : Int)) < a0.2.1)), (List.set q48 (Int.toNat s34.2.1) (0 : Int))) (of_some hT46))
                            · refine HT.cond0 rfl hb51 ?_
                              refine HT.skip (qBlock (qThen ?_))
                              exact (Le.cv (s := ⟨[(0, 0), (1, 1), (2, 2)], [], [], false⟩) (own := []) (ps := [a1 = a1, s5 = s5, s13 = s13, (decide ((List.getD q48 (Int.toNat s34.2.1) (0 : Int)) < a0.2.1)) = (decide ((List.getD q48 (Int.toNat s34.2.1) (0 : Int)) < a0.2.1)), s34.2.1 = s34.2.1, a0.1 = a0.1, a0.2.1 = a0.2.1, a0.2.2.1 = a0.2.2.1, a0.2.2.2 = a0.2.2.2, q48 = q48]) (st' := ⟨[(1, .one (.dat (.int .i64) a1)), (2, .one (.ptr 0 0)), (4, .one (.ptr 1 0)), (6, .one (.dat (.int .i64) s5)), (7, .one (.dat (.int .i64) s13)), (8, .one (.all 2)), (9, .one (.dat .bool (decide ((List.getD q48 (Int.toNat s34.2.1) (0 : Int)) < a0.2.1)))), (11, .one (.dat (.int .i64) s34.2.1))], [(0, .box [.dat (.int .i64) a0.1, .dat (.int .i64) a0.2.1, .dat (.sl (.int .i64)) a0.2.2.1, .dat (.sl .bool) a0.2.2.2]), (1, .box [.nilS, .nilS]), (2, .seq (.int .i64) q48)], 3⟩) hO (fun h => by cases h) (by kernel_rfl) ⟨rfl, rfl, rfl, rfl, rfl, rfl, rfl, rfl, rfl, rfl, trivial⟩).ht (cont ((decide ((List.getD q48 (Int.toNat s34.2.1) (0 : Int)) < a0.2.1)), q48) (of_some hT46))
                        · refine HT.cond0 rfl hb43 ?_
                          have hx38 := of_some hx38
                          subst hx38
                          refine (Le.cv (s := ⟨[(0, 0), (1, 1), (2, 2)], [], [], false⟩) (own := []) (ps := [a1 = a1, s5 = s5, s13 = s13, s34.1 = s34.1, a0.1 = a0.1, a0.2.1 = a0.2.1, a0.2.2.1 = a0.2.2.1, a0.2.2.2 = a0.2.2.2, s34.2.2 = s34.2.2]) (st' := ⟨[(1, .one (.dat (.int .i64) a1)), (2, .one (.ptr 0 0)), (4, .one (.ptr 1 0)), (6, .one (.dat (.int .i64) s5)), (7, .one (.dat (.int .i64) s13)), (8, .one (.all 2)), (9, .one (.dat .bool s34.1))], [(0, .box [.dat (.int .i64) a0.1, .dat (.int .i64) a0.2.1, .dat (.sl (.int .i64)) a0.2.2.1, .dat (.sl .bool) a0.2.2.2]), (1, .box [.nilS, .nilS]), (2, .seq (.int .i64) s34.2.2)], 3⟩) hO (fun h => by cases h) (by kernel_rfl) ⟨rfl, rfl, rfl, rfl, rfl, rfl, rfl, rfl, rfl, trivial⟩).ht ?_
                          exact HT.exit (qThenE (qLoopE (hk39 (s34.1, s34.2.2) rfl)))
                      · rcases of_bif hT42 with ⟨hb52, hT42⟩ | ⟨hb52, hT42⟩
                        · refine HT.reg (rs := [⟨none, .no⟩, ⟨none, .no⟩, ⟨none, .no⟩, ⟨some true, .no⟩, ⟨some true, .no⟩, ⟨none, .tv true⟩]) (st' := ⟨[(52, .one (.dat .bool (!s34.1))), (51, .one (.dat .bool (!s34.1))), (50, .one (.dat .bool s34.1)), (49, .one (.dat .bool (decide (s34.2.1 ≥ (0 : Int))))), (48, .one (.dat .bool (decide (s34.2.1 ≥ (0 : Int))))), (47, .one (.dat (.int .i64) s34.2.1)), (1, .one (.dat (.int .i64) a1)), (2, .one (.ptr 0 0)), (4, .one (.ptr 1 0)), (6, .one (.dat (.int .i64) s5)), (7, .one (.dat (.int .i64) s13)), (8, .one (.all 2)), (9, .one (.dat .bool s34.1)), (11, .one (.dat (.int .i64) s34.2.1))], [(0, .box [.dat (.int .i64) a0.1, .dat (.int .i64) a0.2.1, .dat (.sl (.int .i64)) a0.2.2.1, .dat (.sl .bool) a0.2.2.2]), (1, .box [.nilS, .nilS]), (2, .seq (.int .i64) s34.2.2)], 3⟩) hP hN (by kernel_rfl) (allCons hb52 (allCons hb52 (allCons hb52 allNil))) (qThen ?_)
                          exact (Le.cv (s := ⟨[(0, 0), (1, 1), (2, 2)], [], [], false⟩) (own := []) (ps := [a1 = a1, s5 = s5, s13 = s13, s34.1 = s34.1, s34.2.1 = s34.2.1, (!s34.1) = (!s34.1), a0.1 = a0.1, a0.2.1 = a0.2.1, a0.2.2.1 = a0.2.2.1, a0.2.2.2 = a0.2.2.2, s34.2.2 = s34.2.2]) (st' := ⟨[(1, .one (.dat (.int .i64) a1)), (2, .one (.ptr 0 0)), (4, .one (.ptr 1 0)), (6, .one (.dat (.int .i64) s5)), (7, .one (.dat (.int .i64) s13)), (8, .one (.all 2)), (9, .one (.dat .bool s34.1)), (11, .one (.dat (.int .i64) s34.2.1)), (52, .one (.dat .bool (!s34.1)))], [(0, .box [.dat (.int .i64) a0.1, .dat (.int .i64) a0.2.1, .dat (.sl (.int .i64)) a0.2.2.1, .dat (.sl .bool) a0.2.2.2]), (1, .box [.nilS, .nilS]), (2, .seq (.int .i64) s34.2.2)], 3⟩) hO (fun h => by cases h) (by kernel_rfl) ⟨rfl, rfl, rfl, rfl, rfl, rfl, rfl, rfl, rfl, rfl, rfl, trivial⟩).ht (cont (!s34.1) (of_some hT42))
                        · refine HT.reg (rs := [⟨none, .no⟩, ⟨none, .no⟩, ⟨none, .no⟩, ⟨some false, .no⟩, ⟨some false, .no⟩, ⟨none, .tv false⟩]) (st' := ⟨[(52, .one (.dat .bool false)), (51, .und), (50, .und), (49, .one (.dat .bool (decide (s34.2.1 ≥ (0 : Int))))), (48, .one (.dat .bool (decide (s34.2.1 ≥ (0 : Int))))), (47, .one (.dat (.int .i64) s34.2.1)), (1, .one (.dat (.int .i64) a1)), (2, .one (.ptr 0 0)), (4, .one (.ptr 1 0)), (6, .one (.dat (.int .i64) s5)), (7, .one (.dat (.int .i64) s13)), (8, .one (.all 2)), (9, .one (.dat .bool s34.1)), (11, .one (.dat (.int .i64) s34.2.1))], [(0, .box [.dat (.int .i64) a0.1, .dat (.int .i64) a0.2.1, .dat (.sl (.int .i64)) a0.2.2.1, .dat (.sl .bool) a0.2.2.2]), (1, .box [.nilS, .nilS]), (2, .seq (.int .i64) s34.2.2)], 3⟩) hP hN (by kernel_rfl) (allCons hb52 (allCons hb52 (allCons hb52 allNil))) (qThen ?_)
                          exact (Le.cv (s := ⟨[(0, 0), (1, 1), (2, 2)], [], [], false⟩) (own := []) (ps := [a1 = a1, s5 = s5, s13 = s13, s34.1 = s34.1, s34.2.1 = s34.2.1, false = false, a0.1 = a0.1, a0.2.1 = a0.2.1, a0.2.2.1 = a0.2.2.1, a0.2.2.2 = a0.2.2.2, s34.2.2 = s34.2.2]) (st' := ⟨[(1, .one (.dat (.int .i64) a1)), (2, .one (.ptr 0 0)), (4, .one (.ptr 1 0)), (6, .one (.dat (.int .i64) s5)), (7, .one (.dat (.int .i64) s13)), (8, .one (.all 2)), (9, .one (.dat .bool s34.1)), (11, .one (.dat (.int .i64) s34.2.1)), (52, .one (.dat .bool false))], [(0, .box [.dat (.int .i64) a0.1, .dat (.int .i64) a0.2.1, .dat (.sl (.int .i64)) a0.2.2.1, .dat (.sl .bool) a0.2.2.2]), (1, .box [.nilS, .nilS]), (2, .seq (.int .i64) s34.2.2)], 3⟩) hO (fun h => by cases h) (by kernel_rfl) ⟨rfl, rfl, rfl, rfl, rfl, rfl, rfl, rfl, rfl, rfl, rfl, trivial⟩).ht (cont false (of_some hT42))
                · refine HT.cond0 rfl hb29 ?_
                  have hx27 := of_some hx27
                  subst hx27
                  refine (Le.cv (s := ⟨[(0, 0), (1, 1)], [], [], false⟩) (own := []) (ps := [a1 = a1, s5 = s5, s13 = s13, a0.1 = a0.1, a0.2.1 = a0.2.1, a0.2.2.1 = a0.2.2.1, a0.2.2.2 = a0.2.2.2]) (st' := ⟨[(1, .one (.dat (.int .i64) a1)), (2, .one (.ptr 0 0)), (4, .one (.ptr 1 0)), (6, .one (.dat (.int .i64) s5)), (7, .one (.dat (.int .i64) s13))], [(0, .box [.dat (.int .i64) a0.1, .dat (.int .i64) a0.2.1, .dat (.sl (.int .i64)) a0.2.2.1, .dat (.sl .bool) a0.2.2.2]), (1, .box [.nilS, .nilS])], 2⟩) hO (fun h => by cases h) (by kernel_rfl) ⟨rfl, rfl, rfl, rfl, rfl, rfl, rfl, trivial⟩).ht ?_
                  exact HT.exit (qThenE (qLoopE (hk28 (.inl ()) rfl)))
            · refine HT.cond0 rfl hb20 ?_
              have hx18 := of_some hx18
              subst hx18
              refine (Le.cv (s := ⟨[(0, 0), (1, 1)], [], [], false⟩) (own := []) (ps := [a1 = a1, s5 = s5, a0.1 = a0.1, a0.2.1 = a0.2.1, a0.2.2.1 = a0.2.2.1, a0.2.2.2 = a0.2.2.2]) (st' := ⟨[(1, .one (.dat (.int .i64) a1)), (2, .one (.ptr 0 0)), (4, .one (.ptr 1 0)), (6, .one (.dat (.int .i64) s5))], [(0, .box [.dat (.int .i64) a0.1, .dat (.int .i64) a0.2.1, .dat (.sl (.int .i64)) a0.2.2.1, .dat (.sl .bool) a0.2.2.2]), (1, .box [.nilS, .nilS])], 2⟩) hO (fun h => by cases h) (by kernel_rfl) ⟨rfl, rfl, rfl, rfl, rfl, rfl, trivial⟩).ht ?_
              exact HT.exit (qThenE (qLoopE (hk19 (.inl ()) rfl)))
        · refine HT.cond0 rfl hb12 ?_
          have hx10 := of_some hx10
          subst hx10
          refine (Le.cv (s := ⟨[(1, 0)], [], [], false⟩) (own := []) (ps := []) (st' := ⟨[(4, .one (.ptr 0 0))], [(0, .box [.nilS, .nilS])], 1⟩) hO (fun h => by cases h) (by kernel_rfl) trivial).ht ?_
          exact HT.exit (qThenE (qLoopE (hk11 (.inl ()) rfl)))
  · obtain ⟨y57, hc58, hT3⟩ := of_bind hT3
    rcases of_bif hT3 with ⟨hb59, hT3⟩ | ⟨hb59, hT3⟩
    · refine HT.reg (rs := [⟨none, .call [.pimm (.st (.pair (.int .i64) (.pair (.int .i64) (.pair (.sl (.int .i64)) (.sl .bool)))))] [⟨false, .bool, y57⟩] []⟩, ⟨none, .no⟩, ⟨none, .no⟩, ⟨some true, .no⟩, ⟨some true, .no⟩, ⟨some true, .no⟩, ⟨none, .tv true⟩]) (st' := ⟨[(18, .one (.dat .bool true)), (17, .und), (16, .und), (15, .und), (14, .one (.dat .bool (!y57))), (13, .one (.dat .bool (!y57))), (12, .one (.dat .bool y57)), (1, .one (.dat (.int .i64) a1)), (2, .one (.ptr 0 0)), (4, .one (.ptr 1 0))], [(1, .box [.nilS, .nilS]), (0, .box [.dat (.int .i64) a0.1, .dat (.int .i64) a0.2.1, .dat (.sl (.int .i64)) a0.2.2.1, .dat (.sl .bool) a0.2.2.2])], 2⟩) hP hN (by kernel_rfl) (allCons (f76_ok hc58) (allCons hb59 (allCons hb59 (allCons hb59 (allCons hb59 allNil))))) (qThen ?_)
      exact (Le.cv (s := ⟨[(0, 0), (1, 1)], [], [], false⟩) (own := []) (ps := [a1 = a1, true = true, a0.1 = a0.1, a0.2.1 = a0.2.1, a0.2.2.1 = a0.2.2.1, a0.2.2.2 = a0.2.2.2]) (st' := ⟨[(1, .one (.dat (.int .i64) a1)), (2, .one (.ptr 0 0)), (4, .one (.ptr 1 0)), (18, .one (.dat .bool true))], [(0, .box [.dat (.int .i64) a0.1, .dat (.int .i64) a0.2.1, .dat (.sl (.int .i64)) a0.2.2.1, .dat (.sl .bool) a0.2.2.2]), (1, .box [.nilS, .nilS])], 2⟩) hO (fun h => by cases h) (by kernel_rfl) ⟨rfl, rfl, rfl, rfl, rfl, rfl, trivial⟩).ht (cont true (of_some hT3))
    · obtain ⟨y60, hc61, hT3⟩ := of_bind hT3
      refine HT.reg (rs := [⟨none, .call [.pimm (.st (.pair (.int .i64) (.pair (.int .i64) (.pair (.sl (.int .i64)) (.sl .bool)))))] [⟨false, .bool, y57⟩] []⟩, ⟨none, .no⟩, ⟨none, .no⟩, ⟨some false, .no⟩, ⟨some false, .call [.imm (.int .i64), .imm (.int .i64), .imm (.int .i64)] [⟨false, .bool, y60⟩] []⟩, ⟨some false, .no⟩, ⟨none, .tv false⟩]) (st' := ⟨[(18, .one (.dat .bool (!y60))), (17, .one (.dat .bool (!y60))), (16, .one (.dat .bool y60)), (15, .one (.dat (.int .i64) a1)), (14, .one (.dat .bool (!y57))), (13, .one (.dat .bool (!y57))), (12, .one (.dat .bool y57)), (1, .one (.dat (.int .i64) a1)), (2, .one (.ptr 0 0)), (4, .one (.ptr 1 0))], [(1, .box [.nilS, .nilS]), (0, .box [.dat (.int .i64) a0.1, .dat (.int .i64) a0.2.1, .dat (.sl (.int .i64)) a0.2.2.1, .dat (.sl .bool) a0.2.2.2])], 2⟩) hP hN (by kernel_rfl) (allCons (f76_ok hc58) (allCons hb59 (allCons hb59 (allCons (f64_ok hc61) (allCons hb59 (allCons hb59 allNil)))))) (qThen ?_)
      exact (Le.cv (s := ⟨[(0, 0), (1, 1)], [], [], false⟩) (own := []) (ps := [a1 = a1, (!y60) = (!y60), a0.1 = a0.1, a0.2.1 = a0.2.1, a0.2.2.1 = a0.2.2.1, a0.2.2.2 = a0.2.2.2]) (st' := ⟨[(1, .one (.dat (.int .i64) a1)), (2, .one (.ptr 0 0)), (4, .one (.ptr 1 0)), (18, .one (.dat .bool (!y60)))], [(0, .box [.dat (.int .i64) a0.1, .dat (.int .i64) a0.2.1, .dat (.sl (.int .i64)) a0.2.2.1, .dat (.sl .bool) a0.2.2.2]), (1, .box [.nilS, .nilS])], 2⟩) hO (fun h => by cases h) (by kernel_rfl) ⟨rfl, rfl, rfl, rfl, rfl, rfl, trivial⟩).ht (cont (!y60) (of_some hT3))

theorem f80_ok {xs y : List Int} (h : slices_Clone xs = some y) : CallOK Try.prog 80 [.imm (.sl (.int .i64)) xs] [⟨true, (.sl (.int .i64)), y⟩] [] := by
  obtain ⟨hg, h⟩ := of_guard h
  have h := of_some h
  subst h
  refine CallOK.of_body (ts := [(true, (.sl (.int .i64)))]) Try.func80 rfl (by kernel_rfl) (Nat.le_of_ble_eq_true (by kernel_rfl)) fun cx hP hN hO hF => ?_
  show HT cx ⟨[(0, .one (.dat (.sl (.int .i64)) xs))], [], 0⟩ _ _
  refine HT.reg1 [0] [⟨none, .no⟩] ⟨[(0, .one (.dat (.sl (.int .i64)) xs))], [], 0⟩ hP hN (by kernel_rfl) allNil ?_
  refine HT.seq ?_
  refine HT.isNil (t3 := 3) (t4 := 4) (v := .one (.dat (.sl (.int .i64)) xs)) (t := (.int .i64)) (xs := xs) (st1 := ⟨[(3, .one (.dat (.sl (.int .i64)) xs)), (0, .one (.dat (.sl (.int .i64)) xs))], [], 0⟩) hP hN (by kernel_rfl) rfl rfl rfl rfl (e := 2) (by kernel_rfl) rfl rfl (fun b hb => ?_)
  show HT cx ⟨[(4, .one (.dat .bool b)), (3, .one (.dat (.sl (.int .i64)) xs)), (0, .one (.dat (.sl (.int .i64)) xs))], [], 0⟩ _ _
  cases b with
  | true =>
    have e := hb rfl
    subst e
    refine HT.cond1 rfl rfl ?_
    refine HT.reg1 [2] [⟨none, .no⟩] ⟨[(2, .one .nilS)], [], 0⟩ hP hN (by kernel_rfl) allNil ?_
    exact HT.ret (qThenR ⟨[.one .nilS], [], [], by kernel_rfl, by kernel_rfl, rfl, by kernel_rfl, by kernel_rfl, trivial⟩)
  | false =>
    refine HT.cond0 rfl rfl ?_
    refine HT.skip (qThen ?_)
    refine HT.reg1 [2] [⟨none, .no⟩, ⟨none, .no⟩, ⟨none, .ty (.int .i64)⟩, ⟨none, .no⟩] ⟨[(2, .one (.all 0))], [(0, .seq (.int .i64) xs)], 1⟩ hP hN (by kernel_rfl) (allCons hg allNil) ?_
    exact HT.ret ⟨[.one (.all 0)], [0], [], by kernel_rfl, by kernel_rfl, rfl, by kernel_rfl, by kernel_rfl, trivial⟩

noncomputable def impl_wordsOf_B1 (a0 : Int) (s1 : Int × List (List Int)) (s8 : Int × List (List Int)) (s16 : Int × List (List Int)) : Option ((Int × List (List Int)) ⊕ (List (List Int))) :=
  bif (decide (s16.1 < a0)) then
    (slices_Clone (List.getD s1.2 (Int.toNat s8.1) ([] : List Int))).bind fun y23 =>
    guardP (List.length y23 + List.length ([s16.1] : List Int) ≤ appMax) (
      guardP (List.length s16.2 + List.length ([(y23 ++ ([s16.1] : List Int))] : List (List Int)) ≤ appMax) (
        some (.inl ((wadd .i64 s16.1 (1 : Int)), (s16.2 ++ ([(y23 ++ ([s16.1] : List Int))] : List (List Int)))))))
  else
    some (.inr s16.2)

noncomputable def impl_wordsOf_B2 (a0 : Int) (s1 : Int × List (List Int)) (s8 : Int × List (List Int)) : Option ((Int × List (List Int)) ⊕ (List (List Int))) :=
  bif (decide (s8.1 < (lenI s1.2))) then
    guardP ((0 : Int) ≤ s8.1 ∧ s8.1 < lenI s1.2) (
      (rounds (impl_wordsOf_B1 a0 s1 s8) ((0 : Int), s8.2)).bind fun r18 =>
      some (.inl ((wadd .i64 s8.1 (1 : Int)), r18)))
  else
    some (.inr s8.2)

noncomputable def impl_wordsOf_B3 (a0 : Int) (a1 : Int) (s1 : Int × List (List Int)) : Option ((Int × List (List Int)) ⊕ (List (List Int))) :=
  bif (decide (s1.1 < a1)) then
    (rounds (impl_wordsOf_B2 a0 s1) ((0 : Int), ([] : List (List Int)))).bind fun r10 =>
    some (.inl ((wadd .i64 s1.1 (1 : Int)), r10))
  else
    some (.inr s1.2)

noncomputable def impl_wordsOf (a0 : Int) (a1 : Int) : Option (List (List Int)) :=
  (rounds (impl_wordsOf_B3 a0 a1) ((0 : Int), ([([] : List Int)] : List (List Int)))).bind fun r3 =>
  some r3

theorem f70_ok {a0 : Int} {a1 : Int} {r : List (List Int)} (hr : impl_wordsOf a0 a1 = some r) : CallOK Try.prog 70 [.imm (.int .i64) a0, .imm (.int .i64) a1] [⟨false, (.sl (.sl (.int .i64))), r⟩] [] := by
  unfold impl_wordsOf at hr
  refine CallOK.of_body (ts := [(false, (.sl (.sl (.int .i64))))]) Try.func70 rfl (by kernel_rfl) (Nat.le_of_ble_eq_true (by kernel_rfl)) fun cx hP hN hO hF => ?_
  have hO : cx.own.map Prod.fst = [] := hO
  have hF := hF rfl
  show HT cx ⟨[(0, .one (.dat (.int .i64) a0)), (1, .one (.dat (.int .i64) a1))], [], 0⟩ _ _
  refine HT.reg1 [0, 1] [⟨none, .no⟩] ⟨[(0, .one (.dat (.int .i64) a0)), (1, .one (.dat (.int .i64) a1))], [], 0⟩ hP hN (by kernel_rfl) allNil ?_
  refine HT.reg1 [0, 1, 5] [⟨none, .no⟩, ⟨none, .ty (.sl (.int .i64))⟩, ⟨none, .no⟩] ⟨[(0, .one (.dat (.int .i64) a0)), (1, .one (.dat (.int .i64) a1)), (5, .one (.all 0))], [(0, .seq (.sl (.int .i64)) ([([] : List Int)] : List (List Int)))], 1⟩ hP hN (by kernel_rfl) allNil ?_
  refine HT.seq ?_
  refine HT.reg1 [0, 5, 12, 13] [⟨none, .no⟩, ⟨none, .no⟩] ⟨[(0, .one (.dat (.int .i64) a0)), (5, .one (.all 0)), (12, .one (.dat (.int .i64) a1)), (13, .one (.dat (.int .i64) (0 : Int)))], [(0, .seq (.sl (.int .i64)) ([([] : List Int)] : List (List Int)))], 1⟩ hP hN (by kernel_rfl) allNil ?_
  refine HT.block ?_
  obtain ⟨r2, hL29, hr⟩ := of_bind hr
  refine (Le.cv (s := ⟨[(0, 0)], [], [], false⟩) (own := []) (ps := [a0 = a0, a1 = a1, (0 : Int) = (0 : Int), ([([] : List Int)] : List (List Int)) = ([([] : List Int)] : List (List Int))]) (st' := ⟨[(0, .one (.dat (.int .i64) a0)), (5, .one (.all 0)), (12, .one (.dat (.int .i64) a1)), (13, .one (.dat (.int .i64) (0 : Int)))], [(0, .seq (.sl (.int .i64)) ([([] : List Int)] : List (List Int)))], 1⟩) hO (fun h => by cases h) (by kernel_rfl) ⟨rfl, rfl, rfl, rfl, trivial⟩).ht ?_
  refine HT.loopE (s := ((0 : Int), ([([] : List Int)] : List (List Int)))) (fun (s1 : Int × List (List Int)) => ⟨[(0, .one (.dat (.int .i64) a0)), (5, .one (.all 0)), (12, .one (.dat (.int .i64) a1)), (13, .one (.dat (.int .i64) s1.1))], [(0, .seq (.sl (.int .i64)) s1.2)], 1⟩) (fun (r3 : List (List Int)) => (.exit 0, ⟨[(5, .one (.all 0))], [(0, .seq (.sl (.int .i64)) r3)], 1⟩)) hL29 ?_ (fun s1 x4 hx5 hk6 => ?_)
  · refine (qBlockX (qThen ?_))
    refine HT.reg1 [4] [⟨none, .no⟩, ⟨none, .no⟩] ⟨[(4, .one (.all 0))], [(0, .seq (.sl (.int .i64)) r2)], 1⟩ hP hN (by kernel_rfl) allNil ?_
    have hr := of_some hr
    subst hr
    refine (Le.cv (s := ⟨[], [], [], true⟩) (own := []) (ps := [r2 = r2]) (st' := ⟨[(4, .one (.dat (.sl (.sl (.int .i64))) r2))], [], 1⟩) hO (fun _ => hF) (by kernel_rfl) ⟨rfl, trivial⟩).ht ?_
    exact HT.ret ⟨[.one (.dat (.sl (.sl (.int .i64))) r2)], [], [], by kernel_rfl, by kernel_rfl, rfl, by kernel_rfl, by kernel_rfl, trivial⟩
  · refine HT.reg1 [0, 5, 12, 13, 14] [⟨none, .no⟩] ⟨[(0, .one (.dat (.int .i64) a0)), (5, .one (.all 0)), (12, .one (.dat (.int .i64) a1)), (13, .one (.dat (.int .i64) s1.1)), (14, .one (.dat .bool (decide (s1.1 < a1))))], [(0, .seq (.sl (.int .i64)) s1.2)], 1⟩ hP hN (by kernel_rfl) allNil ?_
    refine HT.seq ?_
    rcases of_bif hx5 with ⟨hb7, hx5⟩ | ⟨hb7, hx5⟩
    · refine HT.cond1 rfl hb7 ?_
      refine HT.skip (qThen ?_)
      refine HT.seq ?_
      refine HT.block ?_
      refine HT.reg1 [0, 5, 6, 12, 13] [⟨none, .no⟩, ⟨none, .no⟩] ⟨[(0, .one (.dat (.int .i64) a0)), (5, .one (.all 0)), (6, .one (.nilS)), (12, .one (.dat (.int .i64) a1)), (13, .one (.dat (.int .i64) s1.1))], [(0, .seq (.sl (.int .i64)) s1.2)], 1⟩ hP hN (by kernel_rfl) allNil ?_
      refine HT.seq ?_
      refine HT.reg1 [0, 6, 12, 13, 16, 17, 18] [⟨none, .no⟩, ⟨none, .no⟩, ⟨none, .no⟩] ⟨[(0, .one (.dat (.int .i64) a0)), (6, .one (.nilS)), (12, .one (.dat (.int .i64) a1)), (13, .one (.dat (.int .i64) s1.1)), (16, .one (.all 0)), (17, .one (.dat (.int .i64) (lenI s1.2))), (18, .one (.dat (.int .i64) (0 : Int)))], [(0, .seq (.sl (.int .i64)) s1.2)], 1⟩ hP hN (by kernel_rfl) allNil ?_
      refine HT.block ?_
      obtain ⟨r9, hL28, hx5⟩ := of_bind hx5
      refine (Le.cv (s := ⟨[(0, 1)], [0], [], false⟩) (own := []) (ps := [a0 = a0, a1 = a1, s1.1 = s1.1, (lenI s1.2) = (lenI s1.2), (0 : Int) = (0 : Int), ([] : List (List Int)) = [], s1.2 = s1.2]) (st' := ⟨[(0, .one (.dat (.int .i64) a0)), (6, .one (.all 0)), (12, .one (.dat (.int .i64) a1)), (13, .one (.dat (.int .i64) s1.1)), (16, .one (.all 1)), (17, .one (.dat (.int .i64) (lenI s1.2))), (18, .one (.dat (.int .i64) (0 : Int)))], [(0, .seq (.sl (.int .i64)) ([] : List (List Int))), (1, .seq (.sl (.int .i64)) s1.2)], 2⟩) hO (fun h => by cases h) (by kernel_rfl) ⟨rfl, rfl, rfl, rfl, rfl, rfl, rfl, trivial⟩).ht ?_
      refine HT.loopE (s := ((0 : Int), ([] : List (List Int)))) (fun (s8 : Int × List (List Int)) => ⟨[(0, .one (.dat (.int .i64) a0)), (6, .one (.all 0)), (12, .one (.dat (.int .i64) a1)), (13, .one (.dat (.int .i64) s1.1)), (16, .one (.all 1)), (17, .one (.dat (.int .i64) (lenI s1.2))), (18, .one (.dat (.int .i64) s8.1))], [(0, .seq (.sl (.int .i64)) s8.2), (1, .seq (.sl (.int .i64)) s1.2)], 2⟩) (fun (r10 : List (List Int)) => (.exit 2, ⟨[(0, .one (.dat (.int .i64) a0)), (6, .one (.all 0)), (12, .one (.dat (.int .i64) a1)), (13, .one (.dat (.int .i64) s1.1))], [(0, .seq (.sl (.int .i64)) r10)], 1⟩)) hL28 ?_ (fun s8 x11 hx12 hk13 => ?_)
      · refine (qBlockX (qThen ?_))
        refine HT.reg (rs := [⟨none, .no⟩, ⟨none, .no⟩]) (st' := ⟨[(5, .one (.all 0)), (36, .one (.all 0)), (0, .one (.dat (.int .i64) a0)), (6, .one (.all 0)), (12, .one (.dat (.int .i64) a1)), (13, .one (.dat (.int .i64) s1.1))], [(0, .seq (.sl (.int .i64)) r9)], 1⟩) hP hN (by kernel_rfl) allNil (qBlock (qThen ?_))
        have hx5 := of_some hx5
        subst hx5
        refine HT.reg (rs := [⟨none, .no⟩, ⟨none, .no⟩]) (st' := ⟨[(13, .one (.dat (.int .i64) (wadd .i64 s1.1 (1 : Int)))), (37, .one (.dat (.int .i64) (wadd .i64 s1.1 (1 : Int)))), (5, .one (.all 0)), (36, .one (.all 0)), (0, .one (.dat (.int .i64) a0)), (6, .one (.all 0)), (12, .one (.dat (.int .i64) a1)), (13, .one (.dat (.int .i64) s1.1))], [(0, .seq (.sl (.int .i64)) r9)], 1⟩) hP hN (by kernel_rfl) allNil (qLoopN ⟨((wadd .i64 s1.1 (1 : Int)), r9), rfl, Le.cv (s := ⟨[(0, 0)], [], [], false⟩) (own := []) (ps := [a0 = a0, a1 = a1, (wadd .i64 s1.1 (1 : Int)) = (wadd .i64 s1.1 (1 : Int)), r9 = r9]) (st' := ⟨[(0, .one (.dat (.int .i64) a0)), (5, .one (.all 0)), (12, .one (.dat (.int .i64) a1)), (13, .one (.dat (.int .i64) (wadd .i64 s1.1 (1 : Int))))], [(0, .seq (.sl (.int .i64)) r9)], 1⟩) hO (fun h => by cases h) (by kernel_rfl) ⟨rfl, rfl, rfl, rfl, trivial⟩⟩)
      · refine HT.reg1 [0, 6, 12, 13, 16, 17, 18, 19] [⟨none, .no⟩] ⟨[(0, .one (.dat (.int .i64) a0)), (6, .one (.all 0)), (12, .one (.dat (.int .i64) a1)), (13, .one (.dat (.int .i64) s1.1)), (16, .one (.all 1)), (17, .one (.dat (.int .i64) (lenI s1.2))), (18, .one (.dat (.int .i64) s8.1)), (19, .one (.dat .bool (decide (s8.1 < (lenI s1.2)))))], [(0, .seq (.sl (.int .i64)) s8.2), (1, .seq (.sl (.int .i64)) s1.2)], 2⟩ hP hN (by kernel_rfl) allNil ?_
        refine HT.seq ?_
        rcases of_bif hx12 with ⟨hb14, hx12⟩ | ⟨hb14, hx12⟩
        · refine HT.cond1 rfl hb14 ?_
          refine HT.skip (qThen ?_)
          refine HT.seq ?_
          refine HT.block ?_
          obtain ⟨hg15, hx12⟩ := of_guard hx12
          refine HT.reg1 [0, 6, 8, 12, 13, 16, 17, 18] [⟨none, .no⟩, ⟨none, .no⟩, ⟨none, .no⟩] ⟨[(0, .one (.dat (.int .i64) a0)), (6, .one (.all 0)), (8, .one (.dat (.sl (.int .i64)) (List.getD s1.2 (Int.toNat s8.1) ([] : List Int)))), (12, .one (.dat (.int .i64) a1)), (13, .one (.dat (.int .i64) s1.1)), (16, .one (.all 1)), (17, .one (.dat (.int .i64) (lenI s1.2))), (18, .one (.dat (.int .i64) s8.1))], [(0, .seq (.sl (.int .i64)) s8.2), (1, .seq (.sl (.int .i64)) s1.2)], 2⟩ hP hN (by kernel_rfl) (allCons hg15 (allCons (natLt hg15) allNil)) ?_
          refine HT.reg1 [0, 6, 8, 12, 13, 16, 17, 18, 22, 23] [⟨none, .no⟩, ⟨none, .no⟩] ⟨[(0, .one (.dat (.int .i64) a0)), (6, .one (.all 0)), (8, .one (.dat (.sl (.int .i64)) (List.getD s1.2 (Int.toNat s8.1) ([] : List Int)))), (12, .one (.dat (.int .i64) a1)), (13, .one (.dat (.int .i64) s1.1)), (16, .one (.all 1)), (17, .one (.dat (.int .i64) (lenI s1.2))), (18, .one (.dat (.int .i64) s8.1)), (22, .one (.dat (.int .i64) a0)), (23, .one (.dat (.int .i64) (0 : Int)))], [(0, .seq (.sl (.int .i64)) s8.2), (1, .seq (.sl (.int .i64)) s1.2)], 2⟩ hP hN (by kernel_rfl) allNil ?_
          refine HT.block ?_
          obtain ⟨r17, hL27, hx12⟩ := of_bind hx12
          refine (Le.cv (s := ⟨[(0, 0), (1, 1)], [], [], false⟩) (own := []) (ps := [a0 = a0, (List.getD s1.2 (Int.toNat s8.1) ([] : List Int)) = (List.getD s1.2 (Int.toNat s8.1) ([] : List Int)), a1 = a1, s1.1 = s1.1, (lenI s1.2) = (lenI s1.2), s8.1 = s8.1, a0 = a0, (0 : Int) = (0 : Int), s8.2 = s8.2, s1.2 = s1.2]) (st' := ⟨[(0, .one (.dat (.int .i64) a0)), (6, .one (.all 0)), (8, .one (.dat (.sl (.int .i64)) (List.getD s1.2 (Int.toNat s8.1) ([] : List Int)))), (12, .one (.dat (.int .i64) a1)), (13, .one (.dat (.int .i64) s1.1)), (16, .one (.all 1)), (17, .one (.dat (.int .i64) (lenI s1.2))), (18, .one (.dat (.int .i64) s8.1)), (22, .one (.dat (.int .i64) a0)), (23, .one (.dat (.int .i64) (0 : Int)))], [(0, .seq (.sl (.int .i64)) s8.2), (1, .seq (.sl (.int .i64)) s1.2)], 2⟩) hO (fun h => by cases h) (by kernel_rfl) ⟨rfl, rfl, rfl, rfl, rfl, rfl, rfl, rfl, rfl, rfl, trivial⟩).ht ?_
          refine HT.loopE (s := ((0 : Int), s8.2)) (fun (s16 : Int × List (List Int)) => ⟨[(0, .one (.dat (.int .i64) a0)), (6, .one (.all 0)), (8, .one (.dat (.sl (.int .i64)) (List.getD s1.2 (Int.toNat s8.1) ([] : List Int)))), (12, .one (.dat (.int .i64) a1)), (13, .one (.dat (.int .i64) s1.1)), (16, .one (.all 1)), (17, .one (.dat (.int .i64) (lenI s1.2))), (18, .one (.dat (.int .i64) s8.1)), (22, .one (.dat (.int .i64) a0)), (23, .one (.dat (.int .i64) s16.1))], [(0, .seq (.sl (.int .i64)) s16.2), (1, .seq (.sl (.int .i64)) s1.2)], 2⟩) (fun (r18 : List (List Int)) => (.exit 4, ⟨[(0, .one (.dat (.int .i64) a0)), (6, .one (.all 0)), (12, .one (.dat (.int .i64) a1)), (13, .one (.dat (.int .i64) s1.1)), (16, .one (.all 1)), (17, .one (.dat (.int .i64) (lenI s1.2))), (18, .one (.dat (.int .i64) s8.1))], [(0, .seq (.sl (.int .i64)) r18), (1, .seq (.sl (.int .i64)) s1.2)], 2⟩)) hL27 ?_ (fun s16 x19 hx20 hk21 => ?_)
          · refine (qBlockX (qBlock (qThen ?_)))
            have hx12 := of_some hx12
            subst hx12
            refine HT.reg (rs := [⟨none, .no⟩, ⟨none, .no⟩]) (st' := ⟨[(18, .one (.dat (.int .i64) (wadd .i64 s8.1 (1 : Int)))), (35, .one (.dat (.int .i64) (wadd .i64 s8.1 (1 : Int)))), (0, .one (.dat (.int .i64) a0)), (6, .one (.all 0)), (12, .one (.dat (.int .i64) a1)), (13, .one (.dat (.int .i64) s1.1)), (16, .one (.all 1)), (17, .one (.dat (.int .i64) (lenI s1.2))), (18, .one (.dat (.int .i64) s8.1))], [(0, .seq (.sl (.int .i64)) r17), (1, .seq (.sl (.int .i64)) s1.2)], 2⟩) hP hN (by kernel_rfl) allNil (qLoopN ⟨((wadd .i64 s8.1 (1 : Int)), r17), rfl, Le.cv (s := ⟨[(0, 0), (1, 1)], [], [], false⟩) (own := []) (ps := [a0 = a0, a1 = a1, s1.1 = s1.1, (lenI s1.2) = (lenI s1.2), (wadd .i64 s8.1 (1 : Int)) = (wadd .i64 s8.1 (1 : Int)), r17 = r17, s1.2 = s1.2]) (st' := ⟨[(0, .one (.dat (.int .i64) a0)), (6, .one (.all 0)), (12, .one (.dat (.int .i64) a1)), (13, .one (.dat (.int .i64) s1.1)), (16, .one (.all 1)), (17, .one (.dat (.int .i64) (lenI s1.2))), (18, .one (.dat (.int .i64) (wadd .i64 s8.1 (1 : Int))))], [(0, .seq (.sl (.int .i64)) r17), (1, .seq (.sl (.int .i64)) s1.2)], 2⟩) hO (fun h => by cases h) (by kernel_rfl) ⟨rfl, rfl, rfl, rfl, rfl, rfl, rfl, trivial⟩⟩)
          · refine HT.reg1 [0, 6, 8, 12, 13, 16, 17, 18, 22, 23, 24] [⟨none, .no⟩] ⟨[(0, .one (.dat (.int .i64) a0)), (6, .one (.all 0)), (8, .one (.dat (.sl (.int .i64)) (List.getD s1.2 (Int.toNat s8.1) ([] : List Int)))), (12, .one (.dat (.int .i64) a1)), (13, .one (.dat (.int .i64) s1.1)), (16, .one (.all 1)), (17, .one (.dat (.int .i64) (lenI s1.2))), (18, .one (.dat (.int .i64) s8.1)), (22, .one (.dat (.int .i64) a0)), (23, .one (.dat (.int .i64) s16.1)), (24, .one (.dat .bool (decide (s16.1 < a0))))], [(0, .seq (.sl (.int .i64)) s16.2), (1, .seq (.sl (.int .i64)) s1.2)], 2⟩ hP hN (by kernel_rfl) allNil ?_
            refine HT.seq ?_
            rcases of_bif hx20 with ⟨hb22, hx20⟩ | ⟨hb22, hx20⟩
            · refine HT.cond1 rfl hb22 ?_
              refine HT.skip (qThen ?_)
              refine HT.seq ?_
              refine HT.block ?_
              refine HT.reg1 [0, 6, 8, 9, 12, 13, 16, 17, 18, 22, 23] [⟨none, .no⟩, ⟨none, .no⟩] ⟨[(0, .one (.dat (.int .i64) a0)), (6, .one (.all 0)), (8, .one (.dat (.sl (.int .i64)) (List.getD s1.2 (Int.toNat s8.1) ([] : List Int)))), (9, .one (.dat (.int .i64) s16.1)), (12, .one (.dat (.int .i64) a1)), (13, .one (.dat (.int .i64) s1.1)), (16, .one (.all 1)), (17, .one (.dat (.int .i64) (lenI s1.2))), (18, .one (.dat (.int .i64) s8.1)), (22, .one (.dat (.int .i64) a0)), (23, .one (.dat (.int .i64) s16.1))], [(0, .seq (.sl (.int .i64)) s16.2), (1, .seq (.sl (.int .i64)) s1.2)], 2⟩ hP hN (by kernel_rfl) allNil ?_
              obtain ⟨y23, hc24, hx20⟩ := of_bind hx20
              obtain ⟨hg25, hx20⟩ := of_guard hx20
              obtain ⟨hg26, hx20⟩ := of_guard hx20
              refine HT.cut1 6 [⟨none, .no⟩, ⟨none, .no⟩, ⟨none, .call [.imm (.sl (.int .i64))] [⟨true, (.sl (.int .i64)), y23⟩] []⟩, ⟨none, .no⟩, ⟨none, .ty (.int .i64)⟩, ⟨none, .ty (.int .i64)⟩] ⟨[(31, .one (.all 4)), (30, .one (.all 3)), (29, .one (.dat (.int .i64) s16.1)), (28, .one (.all 2)), (27, .one (.dat (.sl (.int .i64)) (List.getD s1.2 (Int.toNat s8.1) ([] : List Int)))), (26, .one (.all 0)), (0, .one (.dat (.int .i64) a0)), (6, .one (.all 0)), (8, .one (.dat (.sl (.int .i64)) (List.getD s1.2 (Int.toNat s8.1) ([] : List Int)))), (9, .one (.dat (.int .i64) s16.1)), (12, .one (.dat (.int .i64) a1)), (13, .one (.dat (.int .i64) s1.1)), (16, .one (.all 1)), (17, .one (.dat (.int .i64) (lenI s1.2))), (18, .one (.dat (.int .i64) s8.1)), (22, .one (.dat (.int .i64) a0)), (23, .one (.dat (.int .i64) s16.1))], [(2, .gone), (4, .seq (.int .i64) (y23 ++ ([s16.1] : List Int))), (3, .seq (.int .i64) ([s16.1] : List Int)), (2, .seq (.int .i64) y23), (0, .seq (.sl (.int .i64)) s16.2), (1, .seq (.sl (.int .i64)) s1.2)], 5⟩ [⟨none, .ty (.sl (.int .i64))⟩, ⟨none, .ty (.sl (.int .i64))⟩, ⟨none, .no⟩] ⟨[(6, .one (.all 6)), (33, .one (.all 6)), (32, .one (.all 5)), (31, .one (.dat (.sl (.int .i64)) (y23 ++ ([s16.1] : List Int)))), (30, .one (.all 3)), (29, .one (.dat (.int .i64) s16.1)), (27, .one (.dat (.sl (.int .i64)) (List.getD s1.2 (Int.toNat s8.1) ([] : List Int)))), (26, .one (.all 0)), (0, .one (.dat (.int .i64) a0)), (6, .one (.all 0)), (8, .one (.dat (.sl (.int .i64)) (List.getD s1.2 (Int.toNat s8.1) ([] : List Int)))), (9, .one (.dat (.int .i64) s16.1)), (12, .one (.dat (.int .i64) a1)), (13, .one (.dat (.int .i64) s1.1)), (16, .one (.all 1)), (17, .one (.dat (.int .i64) (lenI s1.2))), (18, .one (.dat (.int .i64) s8.1)), (22, .one (.dat (.int .i64) a0)), (23, .one (.dat (.int .i64) s16.1))], [(0, .gone), (6, .seq (.sl (.int .i64)) (s16.2 ++ ([(y23 ++ ([s16.1] : List Int))] : List (List Int)))), (5, .seq (.sl (.int .i64)) ([(y23 ++ ([s16.1] : List Int))] : List (List Int))), (3, .seq (.int .i64) ([s16.1] : List Int)), (0, .seq (.sl (.int .i64)) s16.2), (1, .seq (.sl (.int .i64)) s1.2)], 7⟩ hP hN (by kernel_rfl) (allCons (f80_ok hc24) (allCons hg25 allNil)) (Le.cv (s := ⟨[(3, 3), (0, 0), (1, 1)], [], [], true⟩) (own := []) (ps := [(y23 ++ ([s16.1] : List Int)) = (y23 ++ ([s16.1] : List Int)), s16.1 = s16.1, (List.getD s1.2 (Int.toNat s8.1) ([] : List Int)) = (List.getD s1.2 (Int.toNat s8.1) ([] : List Int)), a0 = a0, (List.getD s1.2 (Int.toNat s8.1) ([] : List Int)) = (List.getD s1.2 (Int.toNat s8.1) ([] : List Int)), s16.1 = s16.1, a1 = a1, s1.1 = s1.1, (lenI s1.2) = (lenI s1.2), s8.1 = s8.1, a0 = a0, s16.1 = s16.1, ([s16.1] : List Int) = ([s16.1] : List Int), s16.2 = s16.2, s1.2 = s1.2]) (st' := ⟨[(31, .one (.dat (.sl (.int .i64)) (y23 ++ ([s16.1] : List Int)))), (30, .one (.all 3)), (29, .one (.dat (.int .i64) s16.1)), (27, .one (.dat (.sl (.int .i64)) (List.getD s1.2 (Int.toNat s8.1) ([] : List Int)))), (26, .one (.all 0)), (0, .one (.dat (.int .i64) a0)), (6, .one (.all 0)), (8, .one (.dat (.sl (.int .i64)) (List.getD s1.2 (Int.toNat s8.1) ([] : List Int)))), (9, .one (.dat (.int .i64) s16.1)), (12, .one (.dat (.int .i64) a1)), (13, .one (.dat (.int .i64) s1.1)), (16, .one (.all 1)), (17, .one (.dat (.int .i64) (lenI s1.2))), (18, .one (.dat (.int .i64) s8.1)), (22, .one (.dat (.int .i64) a0)), (23, .one (.dat (.int .i64) s16.1))], [(3, .seq (.int .i64) ([s16.1] : List Int)), (0, .seq (.sl (.int .i64)) s16.2), (1, .seq (.sl (.int .i64)) s1.2)], 5⟩) hO (fun _ => hF) (by kernel_rfl) ⟨rfl, rfl, rfl, rfl, rfl, rfl, rfl, rfl, rfl, rfl, rfl, rfl, rfl, rfl, rfl, trivial⟩) (by kernel_rfl) (allCons hg26 allNil) (qBlock (qThen ?_))
              have hx20 := of_some hx20
              subst hx20
              refine HT.reg (rs := [⟨none, .no⟩, ⟨none, .no⟩]) (st' := ⟨[(23, .one (.dat (.int .i64) (wadd .i64 s16.1 (1 : Int)))), (34, .one (.dat (.int .i64) (wadd .i64 s16.1 (1 : Int)))), (6, .one (.all 6)), (33, .one (.all 6)), (32, .one (.all 5)), (31, .one (.dat (.sl (.int .i64)) (y23 ++ ([s16.1] : List Int)))), (30, .one (.all 3)), (29, .one (.dat (.int .i64) s16.1)), (27, .one (.dat (.sl (.int .i64)) (List.getD s1.2 (Int.toNat s8.1) ([] : List Int)))), (26, .one (.all 0)), (0, .one (.dat (.int .i64) a0)), (6, .one (.all 0)), (8, .one (.dat (.sl (.int .i64)) (List.getD s1.2 (Int.toNat s8.1) ([] : List Int)))), (9, .one (.dat (.int .i64) s16.1)), (12, .one (.dat (.int .i64) a1)), (13, .one (.dat (.int .i64) s1.1)), (16, .one (.all 1)), (17, .one (.dat (.int .i64) (lenI s1.2))), (18, .one (.dat (.int .i64) s8.1)), (22, .one (.dat (.int .i64) a0)), (23, .one (.dat (.int .i64) s16.1))], [(0, .gone), (6, .seq (.sl (.int .i64)) (s16.2 ++ ([(y23 ++ ([s16.1] : List Int))] : List (List Int)))), (5, .seq (.sl (.int .i64)) ([(y23 ++ ([s16.1] : List Int))] : List (List Int))), (3, .seq (.int .i64) ([s16.1] : List Int)), (0, .seq (.sl (.int .i64)) s16.2), (1, .seq (.sl (.int .i64)) s1.2)], 7⟩) hP hN (by kernel_rfl) allNil (qLoopN ⟨((wadd .i64 s16.1 (1 : Int)), (s16.2 ++ ([(y23 ++ ([s16.1] : List Int))] : List (List Int)))), rfl, Le.cv (s := ⟨[(6, 0), (1, 1)], [], [], false⟩) (own := []) (ps := [a0 = a0, (List.getD s1.2 (Int.toNat s8.1) ([] : List Int)) = (List.getD s1.2 (Int.toNat s8.1) ([] : List Int)), a1 = a1, s1.1 = s1.1, (lenI s1.2) = (lenI s1.2), s8.1 = s8.1, a0 = a0, (wadd .i64 s16.1 (1 : Int)) = (wadd .i64 s16.1 (1 : Int)), (s16.2 ++ ([(y23 ++ ([s16.1] : List Int))] : List (List Int))) = (s16.2 ++ ([(y23 ++ ([s16.1] : List Int))] : List (List Int))), s1.2 = s1.2]) (st' := ⟨[(0, .one (.dat (.int .i64) a0)), (6, .one (.all 0)), (8, .one (.dat (.sl (.int .i64)) (List.getD s1.2 (Int.toNat s8.1) ([] : List Int)))), (12, .one (.dat (.int .i64) a1)), (13, .one (.dat (.int .i64) s1.1)), (16, .one (.all 1)), (17, .one (.dat (.int .i64) (lenI s1.2))), (18, .one (.dat (.int .i64) s8.1)), (22, .one (.dat (.int .i64) a0)), (23, .one (.dat (.int .i64) (wadd .i64 s16.1 (1 : Int))))], [(0, .seq (.sl (.int .i64)) (s16.2 ++ ([(y23 ++ ([s16.1] : List Int))] : List (List Int)))), (1, .seq (.sl (.int .i64)) s1.2)], 2⟩) hO (fun h => by cases h) (by kernel_rfl) ⟨rfl, rfl, rfl, rfl, rfl, rfl, rfl, rfl, rfl, rfl, trivial⟩⟩)
            · refine HT.cond0 rfl hb22 ?_
              have hx20 := of_some hx20
              subst hx20
              refine (Le.cv (s := ⟨[(0, 0), (1, 1)], [], [], false⟩) (own := []) (ps := [a0 = a0, a1 = a1, s1.1 = s1.1, (lenI s1.2) = (lenI s1.2), s8.1 = s8.1, s16.2 = s16.2, s1.2 = s1.2]) (st' := ⟨[(0, .one (.dat (.int .i64) a0)), (6, .one (.all 0)), (12, .one (.dat (.int .i64) a1)), (13, .one (.dat (.int .i64) s1.1)), (16, .one (.all 1)), (17, .one (.dat (.int .i64) (lenI s1.2))), (18, .one (.dat (.int .i64) s8.1))], [(0, .seq (.sl (.int .i64)) s16.2), (1, .seq (.sl (.int .i64)) s1.2)], 2⟩) hO (fun h => by cases h) (by kernel_rfl) ⟨rfl, rfl, rfl, rfl, rfl, rfl, rfl, trivial⟩).ht ?_
              exact HT.exit (qThenE (qLoopE (hk21 s16.2 rfl)))
        · refine HT.cond0 rfl hb14 ?_
          have hx12 := of_some hx12
          subst hx12
          refine (Le.cv (s := ⟨[(0, 0)], [], [], false⟩) (own := []) (ps := [a0 = a0, a1 = a1, s1.1 = s1.1, s8.2 = s8.2]) (st' := ⟨[(0, .one (.dat (.int .i64) a0)), (6, .one (.all 0)), (12, .one (.dat (.int .i64) a1)), (13, .one (.dat (.int .i64) s1.1))], [(0, .seq (.sl (.int .i64)) s8.2)], 1⟩) hO (fun h => by cases h) (by kernel_rfl) ⟨rfl, rfl, rfl, rfl, trivial⟩).ht ?_
          exact HT.exit (qThenE (qLoopE (hk13 s8.2 rfl)))
    · refine HT.cond0 rfl hb7 ?_
      have hx5 := of_some hx5
      subst hx5
      refine (Le.cv (s := ⟨[(0, 0)], [], [], false⟩) (own := []) (ps := [s1.2 = s1.2]) (st' := ⟨[(5, .one (.all 0))], [(0, .seq (.sl (.int .i64)) s1.2)], 1⟩) hO (fun h => by cases h) (by kernel_rfl) ⟨rfl, trivial⟩).ht ?_
      exact HT.exit (qThenE (qLoopE (hk6 s1.2 rfl)))

noncomputable def impl_Plain_to (a0 : Int × Int × List Int × List Bool) (a1 : Int) (a2 : Int) : Option (Int) :=
  guardP ((0 : Int) ≤ (wadd .i64 (wmul .i64 a1 a0.2.1) a2) ∧ (wadd .i64 (wmul .i64 a1 a0.2.1) a2) < lenI a0.2.2.1) (
    some (List.getD a0.2.2.1 (Int.toNat (wadd .i64 (wmul .i64 a1 a0.2.1) a2)) (0 : Int)))

theorem f146_ok {a0 : Int × Int × List Int × List Bool} {a1 : Int} {a2 : Int} {r : Int} (hr : impl_Plain_to a0 a1 a2 = some r) : CallOK Try.prog 146 [.imm (.st (.pair (.int .i64) (.pair (.int .i64) (.pair (.sl (.int .i64)) (.sl .bool))))) a0, .imm (.int .i64) a1, .imm (.int .i64) a2] [⟨false, (.int .i64), r⟩] [] := by
  unfold impl_Plain_to at hr
  refine CallOK.of_body (ts := [(false, (.int .i64))]) Try.func146 rfl (by kernel_rfl) (Nat.le_of_ble_eq_true (by kernel_rfl)) fun cx hP hN hO hF => ?_
  have hO : cx.own.map Prod.fst = [] := hO
  have hF := hF rfl
  show HT cx ⟨[(0, .agg [.dat (.int .i64) a0.1, .dat (.int .i64) a0.2.1, .dat (.sl (.int .i64)) a0.2.2.1, .dat (.sl .bool) a0.2.2.2]), (1, .one (.dat (.int .i64) a1)), (2, .one (.dat (.int .i64) a2))], [], 0⟩ _ _
  refine HT.reg1 [1, 2, 3] [⟨none, .no⟩, ⟨none, .no⟩] ⟨[(1, .one (.dat (.int .i64) a1)), (2, .one (.dat (.int .i64) a2)), (3, .one (.ptr 0 0))], [(0, .box [.dat (.int .i64) a0.1, .dat (.int .i64) a0.2.1, .dat (.sl (.int .i64)) a0.2.2.1, .dat (.sl .bool) a0.2.2.2])], 1⟩ hP hN (by kernel_rfl) allNil ?_
  obtain ⟨hg1, hr⟩ := of_guard hr
  refine HT.reg1 [6] [⟨none, .no⟩, ⟨none, .no⟩, ⟨none, .no⟩, ⟨none, .no⟩, ⟨none, .no⟩, ⟨none, .no⟩, ⟨none, .no⟩, ⟨none, .no⟩, ⟨none, .no⟩, ⟨none, .no⟩, ⟨none, .no⟩] ⟨[(6, .one (.dat (.int .i64) (List.getD a0.2.2.1 (Int.toNat (wadd .i64 (wmul .i64 a1 a0.2.1) a2)) (0 : Int))))], [(0, .box [.dat (.int .i64) a0.1, .dat (.int .i64) a0.2.1, .dat (.sl (.int .i64)) a0.2.2.1, .dat (.sl .bool) a0.2.2.2])], 1⟩ hP hN (by kernel_rfl) (allCons hg1 allNil) ?_
  have hr := of_some hr
  subst hr
  exact HT.ret ⟨[.one (.dat (.int .i64) (List.getD a0.2.2.1 (Int.toNat (wadd .i64 (wmul .i64 a1 a0.2.1) a2)) (0 : Int)))], [], [], by kernel_rfl, by kernel_rfl, rfl, by kernel_rfl, by kernel_rfl, trivial⟩

noncomputable def impl_Plain_stateOf_B1 (a0 : Int × Int × List Int × List Bool) (a1 : List Int) (s1 : Int × Int) : Option ((Int × Int) ⊕ (Int)) :=
  bif (decide (s1.2 < (lenI a1))) then
    guardP ((0 : Int) ≤ s1.2 ∧ s1.2 < lenI a1) (
      (impl_Plain_to (a0.1, a0.2.1, a0.2.2.1, a0.2.2.2) s1.1 (List.getD a1 (Int.toNat s1.2) (0 : Int))).bind fun y9 =>
      some (.inl (y9, (wadd .i64 s1.2 (1 : Int)))))
  else
    some (.inr s1.1)

noncomputable def impl_Plain_stateOf (a0 : Int × Int × List Int × List Bool) (a1 : List Int) : Option (Int) :=
  (rounds (impl_Plain_stateOf_B1 a0 a1) ((0 : Int), (0 : Int))).bind fun r3 =>
  some r3

theorem f145_ok {a0 : Int × Int × List Int × List Bool} {a1 : List Int} {r : Int} (hr : impl_Plain_stateOf a0 a1 = some r) : CallOK Try.prog 145 [.imm (.st (.pair (.int .i64) (.pair (.int .i64) (.pair (.sl (.int .i64)) (.sl .bool))))) a0, .imm (.sl (.int .i64)) a1] [⟨false, (.int .i64), r⟩] [] := by
  unfold impl_Plain_stateOf at hr
  refine CallOK.of_body (ts := [(false, (.int .i64))]) Try.func145 rfl (by kernel_rfl) (Nat.le_of_ble_eq_true (by kernel_rfl)) fun cx hP hN hO hF => ?_
  have hO : cx.own.map Prod.fst = [] := hO
  have hF := hF rfl
  show HT cx ⟨[(0, .agg [.dat (.int .i64) a0.1, .dat (.int .i64) a0.2.1, .dat (.sl (.int .i64)) a0.2.2.1, .dat (.sl .bool) a0.2.2.2]), (1, .one (.dat (.sl (.int .i64)) a1))], [], 0⟩ _ _
  refine HT.reg1 [1, 2] [⟨none, .no⟩, ⟨none, .no⟩] ⟨[(1, .one (.dat (.sl (.int .i64)) a1)), (2, .one (.ptr 0 0))], [(0, .box [.dat (.int .i64) a0.1, .dat (.int .i64) a0.2.1, .dat (.sl (.int .i64)) a0.2.2.1, .dat (.sl .bool) a0.2.2.2])], 1⟩ hP hN (by kernel_rfl) allNil ?_
  refine HT.reg1 [1, 2, 5] [⟨none, .no⟩] ⟨[(1, .one (.dat (.sl (.int .i64)) a1)), (2, .one (.ptr 0 0)), (5, .one (.dat (.int .i64) (0 : Int)))], [(0, .box [.dat (.int .i64) a0.1, .dat (.int .i64) a0.2.1, .dat (.sl (.int .i64)) a0.2.2.1, .dat (.sl .bool) a0.2.2.2])], 1⟩ hP hN (by kernel_rfl) allNil ?_
  refine HT.seq ?_
  refine HT.reg1 [2, 5, 8, 9, 10] [⟨none, .no⟩, ⟨none, .no⟩, ⟨none, .no⟩] ⟨[(2, .one (.ptr 0 0)), (5, .one (.dat (.int .i64) (0 : Int))), (8, .one (.dat (.sl (.int .i64)) a1)), (9, .one (.dat (.int .i64) (lenI a1))), (10, .one (.dat (.int .i64) (0 : Int)))], [(0, .box [.dat (.int .i64) a0.1, .dat (.int .i64) a0.2.1, .dat (.sl (.int .i64)) a0.2.2.1, .dat (.sl .bool) a0.2.2.2])], 1⟩ hP hN (by kernel_rfl) allNil ?_
  refine HT.block ?_
  obtain ⟨r2, hL11, hr⟩ := of_bind hr
  refine (Le.cv (s := ⟨[(0, 0)], [], [], false⟩) (own := []) (ps := [(0 : Int) = (0 : Int), a1 = a1, (lenI a1) = (lenI a1), (0 : Int) = (0 : Int), a0.1 = a0.1, a0.2.1 = a0.2.1, a0.2.2.1 = a0.2.2.1, a0.2.2.2 = a0.2.2.2]) (st' := ⟨[(2, .one (.ptr 0 0)), (5, .one (.dat (.int .i64) (0 : Int))), (8, .one (.dat (.sl (.int .i64)) a1)), (9, .one (.dat (.int .i64) (lenI a1))), (10, .one (.dat (.int .i64) (0 : Int)))], [(0, .box [.dat (.int .i64) a0.1, .dat (.int .i64) a0.2.1, .dat (.sl (.int .i64)) a0.2.2.1, .dat (.sl .bool) a0.2.2.2])], 1⟩) hO (fun h => by cases h) (by kernel_rfl) ⟨rfl, rfl, rfl, rfl, rfl, rfl, rfl, rfl, trivial⟩).ht ?_
  refine HT.loopE (s := ((0 : Int), (0 : Int))) (fun (s1 : Int × Int) => ⟨[(2, .one (.ptr 0 0)), (5, .one (.dat (.int .i64) s1.1)), (8, .one (.dat (.sl (.int .i64)) a1)), (9, .one (.dat (.int .i64) (lenI a1))), (10, .one (.dat (.int .i64) s1.2))], [(0, .box [.dat (.int .i64) a0.1, .dat (.int .i64) a0.2.1, .dat (.sl (.int .i64)) a0.2.2.1, .dat (.sl .bool) a0.2.2.2])], 1⟩) (fun (r3 : Int) => (.exit 0, ⟨[(5, .one (.dat (.int .i64) r3))], [], 0⟩)) hL11 ?_ (fun s1 x4 hx5 hk6 => ?_)
  · refine (qBlockX (qThen ?_))
    refine HT.reg1 [4] [⟨none, .no⟩, ⟨none, .no⟩] ⟨[(4, .one (.dat (.int .i64) r2))], [], 0⟩ hP hN (by kernel_rfl) allNil ?_
    have hr := of_some hr
    subst hr
    exact HT.ret ⟨[.one (.dat (.int .i64) r2)], [], [], by kernel_rfl, by kernel_rfl, rfl, by kernel_rfl, by kernel_rfl, trivial⟩
  · refine HT.reg1 [2, 5, 8, 9, 10, 11] [⟨none, .no⟩] ⟨[(2, .one (.ptr 0 0)), (5, .one (.dat (.int .i64) s1.1)), (8, .one (.dat (.sl (.int .i64)) a1)), (9, .one (.dat (.int .i64) (lenI a1))), (10, .one (.dat (.int .i64) s1.2)), (11, .one (.dat .bool (decide (s1.2 < (lenI a1)))))], [(0, .box [.dat (.int .i64) a0.1, .dat (.int .i64) a0.2.1, .dat (.sl (.int .i64)) a0.2.2.1, .dat (.sl .bool) a0.2.2.2])], 1⟩ hP hN (by kernel_rfl) allNil ?_
    refine HT.seq ?_
    rcases of_bif hx5 with ⟨hb7, hx5⟩ | ⟨hb7, hx5⟩
    · refine HT.cond1 rfl hb7 ?_
      refine HT.skip (qThen ?_)
      refine HT.seq ?_
      refine HT.block ?_
      obtain ⟨hg8, hx5⟩ := of_guard hx5
      refine HT.reg1 [2, 5, 7, 8, 9, 10] [⟨none, .no⟩, ⟨none, .no⟩, ⟨none, .no⟩] ⟨[(2, .one (.ptr 0 0)), (5, .one (.dat (.int .i64) s1.1)), (7, .one (.dat (.int .i64) (List.getD a1 (Int.toNat s1.2) (0 : Int)))), (8, .one (.dat (.sl (.int .i64)) a1)), (9, .one (.dat (.int .i64) (lenI a1))), (10, .one (.dat (.int .i64) s1.2))], [(0, .box [.dat (.int .i64) a0.1, .dat (.int .i64) a0.2.1, .dat (.sl (.int .i64)) a0.2.2.1, .dat (.sl .bool) a0.2.2.2])], 1⟩ hP hN (by kernel_rfl) (allCons hg8 allNil) ?_
      obtain ⟨y9, hc10, hx5⟩ := of_bind hx5
      refine HT.reg (rs := [⟨none, .no⟩, ⟨none, .no⟩, ⟨none, .no⟩, ⟨none, .call [.imm (.st (.pair (.int .i64) (.pair (.int .i64) (.pair (.sl (.int .i64)) (.sl .bool))))), .imm (.int .i64), .imm (.int .i64)] [⟨false, (.int .i64), y9⟩] []⟩, ⟨none, .no⟩]) (st' := ⟨[(5, .one (.dat (.int .i64) y9)), (17, .one (.dat (.int .i64) y9)), (16, .one (.dat (.int .i64) (List.getD a1 (Int.toNat s1.2) (0 : Int)))), (15, .one (.dat (.int .i64) s1.1)), (14, .agg [.dat (.int .i64) a0.1, .dat (.int .i64) a0.2.1, .dat (.sl (.int .i64)) a0.2.2.1, .dat (.sl .bool) a0.2.2.2]), (2, .one (.ptr 0 0)), (5, .one (.dat (.int .i64) s1.1)), (7, .one (.dat (.int .i64) (List.getD a1 (Int.toNat s1.2) (0 : Int)))), (8, .one (.dat (.sl (.int .i64)) a1)), (9, .one (.dat (.int .i64) (lenI a1))), (10, .one (.dat (.int .i64) s1.2))], [(0, .box [.dat (.int .i64) a0.1, .dat (.int .i64) a0.2.1, .dat (.sl (.int .i64)) a0.2.2.1, .dat (.sl .bool) a0.2.2.2])], 1⟩) hP hN (by kernel_rfl) (allCons (f146_ok hc10) allNil) (qBlock (qThen ?_))
      have hx5 := of_some hx5
      subst hx5
      refine HT.reg (rs := [⟨none, .no⟩, ⟨none, .no⟩]) (st' := ⟨[(10, .one (.dat (.int .i64) (wadd .i64 s1.2 (1 : Int)))), (18, .one (.dat (.int .i64) (wadd .i64 s1.2 (1 : Int)))), (5, .one (.dat (.int .i64) y9)), (17, .one (.dat (.int .i64) y9)), (16, .one (.dat (.int .i64) (List.getD a1 (Int.toNat s1.2) (0 : Int)))), (15, .one (.dat (.int .i64) s1.1)), (14, .agg [.dat (.int .i64) a0.1, .dat (.int .i64) a0.2.1, .dat (.sl (.int .i64)) a0.2.2.1, .dat (.sl .bool) a0.2.2.2]), (2, .one (.ptr 0 0)), (5, .one (.dat (.int .i64) s1.1)), (7, .one (.dat (.int .i64) (List.getD a1 (Int.toNat s1.2) (0 : Int)))), (8, .one (.dat (.sl (.int .i64)) a1)), (9, .one (.dat (.int .i64) (lenI a1))), (10, .one (.dat (.int .i64) s1.2))], [(0, .box [.dat (.int .i64) a0.1, .dat (.int .i64) a0.2.1, .dat (.sl (.int .i64)) a0.2.2.1, .dat (.sl .bool) a0.2.2.2])], 1⟩) hP hN (by kernel_rfl) allNil (qLoopN ⟨(y9, (wadd .i64 s1.2 (1 : Int))), rfl, Le.cv (s := ⟨[(0, 0)], [], [], false⟩) (own := []) (ps := [y9 = y9, a1 = a1, (lenI a1) = (lenI a1), (wadd .i64 s1.2 (1 : Int)) = (wadd .i64 s1.2 (1 : Int)), a0.1 = a0.1, a0.2.1 = a0.2.1, a0.2.2.1 = a0.2.2.1, a0.2.2.2 = a0.2.2.2]) (st' := ⟨[(2, .one (.ptr 0 0)), (5, .one (.dat (.int .i64) y9)), (8, .one (.dat (.sl (.int .i64)) a1)), (9, .one (.dat (.int .i64) (lenI a1))), (10, .one (.dat (.int .i64) (wadd .i64 s1.2 (1 : Int))))], [(0, .box [.dat (.int .i64) a0.1, .dat (.int .i64) a0.2.1, .dat (.sl (.int .i64)) a0.2.2.1, .dat (.sl .bool) a0.2.2.2])], 1⟩) hO (fun h => by cases h) (by kernel_rfl) ⟨rfl, rfl, rfl, rfl, rfl, rfl, rfl, rfl, trivial⟩⟩)
    · refine HT.cond0 rfl hb7 ?_
      have hx5 := of_some hx5
      subst hx5
      refine (Le.cv (s := ⟨[], [], [], false⟩) (own := []) (ps := [s1.1 = s1.1]) (st' := ⟨[(5, .one (.dat (.int .i64) s1.1))], [], 0⟩) hO (fun h => by cases h) (by kernel_rfl) ⟨rfl, trivial⟩).ht ?_
      exact HT.exit (qThenE (qLoopE (hk6 s1.1 rfl)))

end Go.Proofs
