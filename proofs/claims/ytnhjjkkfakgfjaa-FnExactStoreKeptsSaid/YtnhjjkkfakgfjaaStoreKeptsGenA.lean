import Derived.Test.YtnhjjkkfakgfjaaLibC
import Derived.Test.YtnhjjkkfakgfjaaProg
set_option linter.unusedVariables false
set_option linter.unusedSimpArgs false
set_option linter.unusedSectionVars false
/-
  Functions as plain functions, and their contracts. Printed by a program.
-/
namespace Go.Proofs
open Go.Ide

noncomputable def laws_szInt64S (a0 : List Int) (a1 : Int) : Option (Int) :=
  bif (decide ((wsub .i64 a1 (lenI a0)) < (0 : Int))) then
    some (-1 : Int)
  else
    some (wsub .i64 a1 (lenI a0))

theorem f74_ok {a0 : List Int} {a1 : Int} {r : Int} (hr : laws_szInt64S a0 a1 = some r) : CallOK Try.prog 74 [.imm (.sl (.int .i64)) a0, .imm (.int .i64) a1] [⟨false, (.int .i64), r⟩] [] := by
  unfold laws_szInt64S at hr
  refine CallOK.of_body (ts := [(false, (.int .i64))]) Try.func74 rfl (by kernel_rfl) (Nat.le_of_ble_eq_true (by kernel_rfl)) fun cx hP hN hO hF => ?_
  have hO : cx.own.map Prod.fst = [] := hO
  have hF := hF rfl
  show HT cx ⟨[(0, .one (.dat (.sl (.int .i64)) a0)), (1, .one (.dat (.int .i64) a1))], [], 0⟩ _ _
  refine HT.reg1 [0, 1] [⟨none, .no⟩] ⟨[(0, .one (.dat (.sl (.int .i64)) a0)), (1, .one (.dat (.int .i64) a1))], [], 0⟩ hP hN (by kernel_rfl) allNil ?_
  refine HT.reg1 [1] [⟨none, .no⟩, ⟨none, .no⟩, ⟨none, .no⟩, ⟨none, .no⟩, ⟨none, .no⟩] ⟨[(1, .one (.dat (.int .i64) (wsub .i64 a1 (lenI a0))))], [], 0⟩ hP hN (by kernel_rfl) allNil ?_
  refine HT.seq ?_
  refine HT.reg1 [1, 10] [⟨none, .no⟩, ⟨none, .no⟩] ⟨[(1, .one (.dat (.int .i64) (wsub .i64 a1 (lenI a0)))), (10, .one (.dat .bool (decide ((wsub .i64 a1 (lenI a0)) < (0 : Int)))))], [], 0⟩ hP hN (by kernel_rfl) allNil ?_
  rcases of_bif hr with ⟨hb1, hr⟩ | ⟨hb1, hr⟩
  · refine HT.cond1 rfl hb1 ?_
    refine HT.reg1 [4] [⟨none, .no⟩] ⟨[(4, .one (.dat (.int .i64) (-1 : Int)))], [], 0⟩ hP hN (by kernel_rfl) allNil ?_
    have hr := of_some hr
    subst hr
    exact HT.ret (qThenR ⟨[.one (.dat (.int .i64) (-1 : Int))], [], [], by kernel_rfl, by kernel_rfl, rfl, by kernel_rfl, by kernel_rfl, trivial⟩)
  · refine HT.cond0 rfl hb1 ?_
    refine HT.skip (qThen ?_)
    refine HT.reg1 [4] [⟨none, .no⟩, ⟨none, .no⟩] ⟨[(4, .one (.dat (.int .i64) (wsub .i64 a1 (lenI a0))))], [], 0⟩ hP hN (by kernel_rfl) allNil ?_
    have hr := of_some hr
    subst hr
    exact HT.ret ⟨[.one (.dat (.int .i64) (wsub .i64 a1 (lenI a0)))], [], [], by kernel_rfl, by kernel_rfl, rfl, by kernel_rfl, by kernel_rfl, trivial⟩

noncomputable def laws_szBoolS (a0 : List Bool) (a1 : Int) : Option (Int) :=
  bif (decide ((wsub .i64 a1 (lenI a0)) < (0 : Int))) then
    some (-1 : Int)
  else
    some (wsub .i64 a1 (lenI a0))

theorem f152_ok {a0 : List Bool} {a1 : Int} {r : Int} (hr : laws_szBoolS a0 a1 = some r) : CallOK Try.prog 152 [.imm (.sl .bool) a0, .imm (.int .i64) a1] [⟨false, (.int .i64), r⟩] [] := by
  unfold laws_szBoolS at hr
  refine CallOK.of_body (ts := [(false, (.int .i64))]) Try.func152 rfl (by kernel_rfl) (Nat.le_of_ble_eq_true (by kernel_rfl)) fun cx hP hN hO hF => ?_
  have hO : cx.own.map Prod.fst = [] := hO
  have hF := hF rfl
  show HT cx ⟨[(0, .one (.dat (.sl .bool) a0)), (1, .one (.dat (.int .i64) a1))], [], 0⟩ _ _
  refine HT.reg1 [0, 1] [⟨none, .no⟩] ⟨[(0, .one (.dat (.sl .bool) a0)), (1, .one (.dat (.int .i64) a1))], [], 0⟩ hP hN (by kernel_rfl) allNil ?_
  refine HT.reg1 [1] [⟨none, .no⟩, ⟨none, .no⟩, ⟨none, .no⟩, ⟨none, .no⟩, ⟨none, .no⟩] ⟨[(1, .one (.dat (.int .i64) (wsub .i64 a1 (lenI a0))))], [], 0⟩ hP hN (by kernel_rfl) allNil ?_
  refine HT.seq ?_
  refine HT.reg1 [1, 10] [⟨none, .no⟩, ⟨none, .no⟩] ⟨[(1, .one (.dat (.int .i64) (wsub .i64 a1 (lenI a0)))), (10, .one (.dat .bool (decide ((wsub .i64 a1 (lenI a0)) < (0 : Int)))))], [], 0⟩ hP hN (by kernel_rfl) allNil ?_
  rcases of_bif hr with ⟨hb1, hr⟩ | ⟨hb1, hr⟩
  · refine HT.cond1 rfl hb1 ?_
    refine HT.reg1 [4] [⟨none, .no⟩] ⟨[(4, .one (.dat (.int .i64) (-1 : Int)))], [], 0⟩ hP hN (by kernel_rfl) allNil ?_
    have hr := of_some hr
    subst hr
    exact HT.ret (qThenR ⟨[.one (.dat (.int .i64) (-1 : Int))], [], [], by kernel_rfl, by kernel_rfl, rfl, by kernel_rfl, by kernel_rfl, trivial⟩)
  · refine HT.cond0 rfl hb1 ?_
    refine HT.skip (qThen ?_)
    refine HT.reg1 [4] [⟨none, .no⟩, ⟨none, .no⟩] ⟨[(4, .one (.dat (.int .i64) (wsub .i64 a1 (lenI a0))))], [], 0⟩ hP hN (by kernel_rfl) allNil ?_
    have hr := of_some hr
    subst hr
    exact HT.ret ⟨[.one (.dat (.int .i64) (wsub .i64 a1 (lenI a0)))], [], [], by kernel_rfl, by kernel_rfl, rfl, by kernel_rfl, by kernel_rfl, trivial⟩

noncomputable def laws_szPlain (a0 : Int × Int × List Int × List Bool) (a1 : Int) : Option (Int) :=
  (laws_szInt64S a0.2.2.1 a1).bind fun y1 =>
  bif (decide (y1 < (0 : Int))) then
    some (-1 : Int)
  else
    (laws_szBoolS a0.2.2.2 y1).bind fun y4 =>
    bif (decide (y4 < (0 : Int))) then
      some (-1 : Int)
    else
      some y4

theorem f119_ok {a0 : Int × Int × List Int × List Bool} {a1 : Int} {r : Int} (hr : laws_szPlain a0 a1 = some r) : CallOK Try.prog 119 [.imm (.st (.pair (.int .i64) (.pair (.int .i64) (.pair (.sl (.int .i64)) (.sl .bool))))) a0, .imm (.int .i64) a1] [⟨false, (.int .i64), r⟩] [] := by
  unfold laws_szPlain at hr
  refine CallOK.of_body (ts := [(false, (.int .i64))]) Try.func119 rfl (by kernel_rfl) (Nat.le_of_ble_eq_true (by kernel_rfl)) fun cx hP hN hO hF => ?_
  have hO : cx.own.map Prod.fst = [] := hO
  have hF := hF rfl
  show HT cx ⟨[(0, .agg [.dat (.int .i64) a0.1, .dat (.int .i64) a0.2.1, .dat (.sl (.int .i64)) a0.2.2.1, .dat (.sl .bool) a0.2.2.2]), (1, .one (.dat (.int .i64) a1))], [], 0⟩ _ _
  refine HT.reg1 [1, 2] [⟨none, .no⟩, ⟨none, .no⟩] ⟨[(1, .one (.dat (.int .i64) a1)), (2, .one (.ptr 0 0))], [(0, .box [.dat (.int .i64) a0.1, .dat (.int .i64) a0.2.1, .dat (.sl (.int .i64)) a0.2.2.1, .dat (.sl .bool) a0.2.2.2])], 1⟩ hP hN (by kernel_rfl) allNil ?_
  obtain ⟨y1, hc2, hr⟩ := of_bind hr
  refine HT.reg1 [1, 2] [⟨none, .no⟩, ⟨none, .no⟩, ⟨none, .no⟩, ⟨none, .call [.imm (.sl (.int .i64)), .imm (.int .i64)] [⟨false, (.int .i64), y1⟩] []⟩, ⟨none, .no⟩] ⟨[(1, .one (.dat (.int .i64) y1)), (2, .one (.ptr 0 0))], [(0, .box [.dat (.int .i64) a0.1, .dat (.int .i64) a0.2.1, .dat (.sl (.int .i64)) a0.2.2.1, .dat (.sl .bool) a0.2.2.2])], 1⟩ hP hN (by kernel_rfl) (allCons (f74_ok hc2) allNil) ?_
  refine HT.seq ?_
  refine HT.reg1 [1, 2, 10] [⟨none, .no⟩, ⟨none, .no⟩] ⟨[(1, .one (.dat (.int .i64) y1)), (2, .one (.ptr 0 0)), (10, .one (.dat .bool (decide (y1 < (0 : Int)))))], [(0, .box [.dat (.int .i64) a0.1, .dat (.int .i64) a0.2.1, .dat (.sl (.int .i64)) a0.2.2.1, .dat (.sl .bool) a0.2.2.2])], 1⟩ hP hN (by kernel_rfl) allNil ?_
  rcases of_bif hr with ⟨hb3, hr⟩ | ⟨hb3, hr⟩
  · refine HT.cond1 rfl hb3 ?_
    refine HT.reg1 [4] [⟨none, .no⟩] ⟨[(4, .one (.dat (.int .i64) (-1 : Int)))], [(0, .box [.dat (.int .i64) a0.1, .dat (.int .i64) a0.2.1, .dat (.sl (.int .i64)) a0.2.2.1, .dat (.sl .bool) a0.2.2.2])], 1⟩ hP hN (by kernel_rfl) allNil ?_
    have hr := of_some hr
    subst hr
    exact HT.ret (qThenR ⟨[.one (.dat (.int .i64) (-1 : Int))], [], [], by kernel_rfl, by kernel_rfl, rfl, by kernel_rfl, by kernel_rfl, trivial⟩)
  · refine HT.cond0 rfl hb3 ?_
    refine HT.skip (qThen ?_)
    obtain ⟨y4, hc5, hr⟩ := of_bind hr
    refine HT.reg1 [1] [⟨none, .no⟩, ⟨none, .no⟩, ⟨none, .no⟩, ⟨none, .call [.imm (.sl .bool), .imm (.int .i64)] [⟨false, (.int .i64), y4⟩] []⟩, ⟨none, .no⟩] ⟨[(1, .one (.dat (.int .i64) y4))], [(0, .box [.dat (.int .i64) a0.1, .dat (.int .i64) a0.2.1, .dat (.sl (.int .i64)) a0.2.2.1, .dat (.sl .bool) a0.2.2.2])], 1⟩ hP hN (by kernel_rfl) (allCons (f152_ok hc5) allNil) ?_
    refine HT.seq ?_
    refine HT.reg1 [1, 16] [⟨none, .no⟩, ⟨none, .no⟩] ⟨[(1, .one (.dat (.int .i64) y4)), (16, .one (.dat .bool (decide (y4 < (0 : Int)))))], [(0, .box [.dat (.int .i64) a0.1, .dat (.int .i64) a0.2.1, .dat (.sl (.int .i64)) a0.2.2.1, .dat (.sl .bool) a0.2.2.2])], 1⟩ hP hN (by kernel_rfl) allNil ?_
    rcases of_bif hr with ⟨hb6, hr⟩ | ⟨hb6, hr⟩
    · refine HT.cond1 rfl hb6 ?_
      refine HT.reg1 [4] [⟨none, .no⟩] ⟨[(4, .one (.dat (.int .i64) (-1 : Int)))], [(0, .box [.dat (.int .i64) a0.1, .dat (.int .i64) a0.2.1, .dat (.sl (.int .i64)) a0.2.2.1, .dat (.sl .bool) a0.2.2.2])], 1⟩ hP hN (by kernel_rfl) allNil ?_
      have hr := of_some hr
      subst hr
      exact HT.ret (qThenR ⟨[.one (.dat (.int .i64) (-1 : Int))], [], [], by kernel_rfl, by kernel_rfl, rfl, by kernel_rfl, by kernel_rfl, trivial⟩)
    · refine HT.cond0 rfl hb6 ?_
      refine HT.skip (qThen ?_)
      refine HT.reg1 [4] [⟨none, .no⟩, ⟨none, .no⟩] ⟨[(4, .one (.dat (.int .i64) y4))], [(0, .box [.dat (.int .i64) a0.1, .dat (.int .i64) a0.2.1, .dat (.sl (.int .i64)) a0.2.2.1, .dat (.sl .bool) a0.2.2.2])], 1⟩ hP hN (by kernel_rfl) allNil ?_
      have hr := of_some hr
      subst hr
      exact HT.ret ⟨[.one (.dat (.int .i64) y4)], [], [], by kernel_rfl, by kernel_rfl, rfl, by kernel_rfl, by kernel_rfl, trivial⟩

noncomputable def laws_szKept (a0 : List UInt8 × Int × Int × List Int × List Bool) (a1 : Int) : Option (Int) :=
  bif (decide ((wsub .i64 a1 (lenI a0.1)) < (0 : Int))) then
    some (-1 : Int)
  else
    (laws_szPlain (a0.2.1, a0.2.2.1, a0.2.2.2.1, a0.2.2.2.2) (wsub .i64 a1 (lenI a0.1))).bind fun y2 =>
    bif (decide (y2 < (0 : Int))) then
      some (-1 : Int)
    else
      some y2

theorem f67_ok {a0 : List UInt8 × Int × Int × List Int × List Bool} {a1 : Int} {r : Int} (hr : laws_szKept a0 a1 = some r) : CallOK Try.prog 67 [.imm (.st (.pair .str (.st (.pair (.int .i64) (.pair (.int .i64) (.pair (.sl (.int .i64)) (.sl .bool))))))) a0, .imm (.int .i64) a1] [⟨false, (.int .i64), r⟩] [] := by
  unfold laws_szKept at hr
  refine CallOK.of_body (ts := [(false, (.int .i64))]) Try.func67 rfl (by kernel_rfl) (Nat.le_of_ble_eq_true (by kernel_rfl)) fun cx hP hN hO hF => ?_
  have hO : cx.own.map Prod.fst = [] := hO
  have hF := hF rfl
  show HT cx ⟨[(0, .agg [.dat .str a0.1, .dat (.int .i64) a0.2.1, .dat (.int .i64) a0.2.2.1, .dat (.sl (.int .i64)) a0.2.2.2.1, .dat (.sl .bool) a0.2.2.2.2]), (1, .one (.dat (.int .i64) a1))], [], 0⟩ _ _
  refine HT.reg1 [1, 2] [⟨none, .no⟩, ⟨none, .no⟩] ⟨[(1, .one (.dat (.int .i64) a1)), (2, .one (.ptr 0 0))], [(0, .box [.dat .str a0.1, .dat (.int .i64) a0.2.1, .dat (.int .i64) a0.2.2.1, .dat (.sl (.int .i64)) a0.2.2.2.1, .dat (.sl .bool) a0.2.2.2.2])], 1⟩ hP hN (by kernel_rfl) allNil ?_
  refine HT.reg1 [1, 2] [⟨none, .no⟩, ⟨none, .no⟩, ⟨none, .no⟩, ⟨none, .no⟩, ⟨none, .no⟩, ⟨none, .no⟩] ⟨[(1, .one (.dat (.int .i64) (wsub .i64 a1 (lenI a0.1)))), (2, .one (.ptr 0 0))], [(0, .box [.dat .str a0.1, .dat (.int .i64) a0.2.1, .dat (.int .i64) a0.2.2.1, .dat (.sl (.int .i64)) a0.2.2.2.1, .dat (.sl .bool) a0.2.2.2.2])], 1⟩ hP hN (by kernel_rfl) allNil ?_
  refine HT.seq ?_
  refine HT.reg1 [1, 2, 11] [⟨none, .no⟩, ⟨none, .no⟩] ⟨[(1, .one (.dat (.int .i64) (wsub .i64 a1 (lenI a0.1)))), (2, .one (.ptr 0 0)), (11, .one (.dat .bool (decide ((wsub .i64 a1 (lenI a0.1)) < (0 : Int)))))], [(0, .box [.dat .str a0.1, .dat (.int .i64) a0.2.1, .dat (.int .i64) a0.2.2.1, .dat (.sl (.int .i64)) a0.2.2.2.1, .dat (.sl .bool) a0.2.2.2.2])], 1⟩ hP hN (by kernel_rfl) allNil ?_
  rcases of_bif hr with ⟨hb1, hr⟩ | ⟨hb1, hr⟩
  · refine HT.cond1 rfl hb1 ?_
    refine HT.reg1 [4] [⟨none, .no⟩] ⟨[(4, .one (.dat (.int .i64) (-1 : Int)))], [(0, .box [.dat .str a0.1, .dat (.int .i64) a0.2.1, .dat (.int .i64) a0.2.2.1, .dat (.sl (.int .i64)) a0.2.2.2.1, .dat (.sl .bool) a0.2.2.2.2])], 1⟩ hP hN (by kernel_rfl) allNil ?_
    have hr := of_some hr
    subst hr
    exact HT.ret (qThenR ⟨[.one (.dat (.int .i64) (-1 : Int))], [], [], by kernel_rfl, by kernel_rfl, rfl, by kernel_rfl, by kernel_rfl, trivial⟩)
  · refine HT.cond0 rfl hb1 ?_
    refine HT.skip (qThen ?_)
    obtain ⟨y2, hc3, hr⟩ := of_bind hr
    refine HT.reg1 [1] [⟨none, .no⟩, ⟨none, .no⟩, ⟨none, .no⟩, ⟨none, .call [.imm (.st (.pair (.int .i64) (.pair (.int .i64) (.pair (.sl (.int .i64)) (.sl .bool))))), .imm (.int .i64)] [⟨false, (.int .i64), y2⟩] []⟩, ⟨none, .no⟩] ⟨[(1, .one (.dat (.int .i64) y2))], [(0, .box [.dat .str a0.1, .dat (.int .i64) a0.2.1, .dat (.int .i64) a0.2.2.1, .dat (.sl (.int .i64)) a0.2.2.2.1, .dat (.sl .bool) a0.2.2.2.2])], 1⟩ hP hN (by kernel_rfl) (allCons (f119_ok hc3) allNil) ?_
    refine HT.seq ?_
    refine HT.reg1 [1, 17] [⟨none, .no⟩, ⟨none, .no⟩] ⟨[(1, .one (.dat (.int .i64) y2)), (17, .one (.dat .bool (decide (y2 < (0 : Int)))))], [(0, .box [.dat .str a0.1, .dat (.int .i64) a0.2.1, .dat (.int .i64) a0.2.2.1, .dat (.sl (.int .i64)) a0.2.2.2.1, .dat (.sl .bool) a0.2.2.2.2])], 1⟩ hP hN (by kernel_rfl) allNil ?_
    rcases of_bif hr with ⟨hb4, hr⟩ | ⟨hb4, hr⟩
    · refine HT.cond1 rfl hb4 ?_
      refine HT.reg1 [4] [⟨none, .no⟩] ⟨[(4, .one (.dat (.int .i64) (-1 : Int)))], [(0, .box [.dat .str a0.1, .dat (.int .i64) a0.2.1, .dat (.int .i64) a0.2.2.1, .dat (.sl (.int .i64)) a0.2.2.2.1, .dat (.sl .bool) a0.2.2.2.2])], 1⟩ hP hN (by kernel_rfl) allNil ?_
      have hr := of_some hr
      subst hr
      exact HT.ret (qThenR ⟨[.one (.dat (.int .i64) (-1 : Int))], [], [], by kernel_rfl, by kernel_rfl, rfl, by kernel_rfl, by kernel_rfl, trivial⟩)
    · refine HT.cond0 rfl hb4 ?_
      refine HT.skip (qThen ?_)
      refine HT.reg1 [4] [⟨none, .no⟩, ⟨none, .no⟩] ⟨[(4, .one (.dat (.int .i64) y2))], [(0, .box [.dat .str a0.1, .dat (.int .i64) a0.2.1, .dat (.int .i64) a0.2.2.1, .dat (.sl (.int .i64)) a0.2.2.2.1, .dat (.sl .bool) a0.2.2.2.2])], 1⟩ hP hN (by kernel_rfl) allNil ?_
      have hr := of_some hr
      subst hr
      exact HT.ret ⟨[.one (.dat (.int .i64) y2)], [], [], by kernel_rfl, by kernel_rfl, rfl, by kernel_rfl, by kernel_rfl, trivial⟩

noncomputable def laws_szKeptS_B1 (a0 : List (List UInt8 × Int × Int × List Int × List Bool)) (s2 : Int × Int) : Option ((Int × Int) ⊕ (Int ⊕ Unit)) :=
  bif (decide (s2.2 < (lenI a0))) then
    guardP ((0 : Int) ≤ s2.2 ∧ s2.2 < lenI a0) (
      (laws_szKept ((List.getD a0 (Int.toNat s2.2) (([] : List UInt8), (0 : Int), (0 : Int), ([] : List Int), ([] : List Bool))).1, ((List.getD a0 (Int.toNat s2.2) (([] : List UInt8), (0 : Int), (0 : Int), ([] : List Int), ([] : List Bool))).2).1, (((List.getD a0 (Int.toNat s2.2) (([] : List UInt8), (0 : Int), (0 : Int), ([] : List Int), ([] : List Bool))).2).2).1, ((((List.getD a0 (Int.toNat s2.2) (([] : List UInt8), (0 : Int), (0 : Int), ([] : List Int), ([] : List Bool))).2).2).2).1, ((((List.getD a0 (Int.toNat s2.2) (([] : List UInt8), (0 : Int), (0 : Int), ([] : List Int), ([] : List Bool))).2).2).2).2) s2.1).bind fun y11 =>
      bif (decide (y11 < (0 : Int))) then
        some (.inr (.inr ()))
      else
        some (.inl (y11, (wadd .i64 s2.2 (1 : Int)))))
  else
    some (.inr (.inl s2.1))

noncomputable def laws_szKeptS (a0 : List (List UInt8 × Int × Int × List Int × List Bool)) (a1 : Int) : Option (Int) :=
  bif (decide ((wsub .i64 a1 (lenI a0)) < (0 : Int))) then
    some (-1 : Int)
  else
    (rounds (laws_szKeptS_B1 a0) ((wsub .i64 a1 (lenI a0)), (0 : Int))).bind fun r3 => match r3 with
      | .inl r4 =>
        some r4
      | .inr r5 =>
        some (-1 : Int)

theorem f14_ok {a0 : List (List UInt8 × Int × Int × List Int × List Bool)} {a1 : Int} {r : Int} (hr : laws_szKeptS a0 a1 = some r) : CallOK Try.prog 14 [.imm (.sl (.st (.pair .str (.st (.pair (.int .i64) (.pair (.int .i64) (.pair (.sl (.int .i64)) (.sl .bool)))))))) a0, .imm (.int .i64) a1] [⟨false, (.int .i64), r⟩] [] := by
  unfold laws_szKeptS at hr
  refine CallOK.of_body (ts := [(false, (.int .i64))]) Try.func14 rfl (by kernel_rfl) (Nat.le_of_ble_eq_true (by kernel_rfl)) fun cx hP hN hO hF => ?_
  have hO : cx.own.map Prod.fst = [] := hO
  have hF := hF rfl
  show HT cx ⟨[(0, .one (.dat (.sl (.st (.pair .str (.st (.pair (.int .i64) (.pair (.int .i64) (.pair (.sl (.int .i64)) (.sl .bool)))))))) a0)), (1, .one (.dat (.int .i64) a1))], [], 0⟩ _ _
  refine HT.reg1 [0, 1] [⟨none, .no⟩] ⟨[(0, .one (.dat (.sl (.st (.pair .str (.st (.pair (.int .i64) (.pair (.int .i64) (.pair (.sl (.int .i64)) (.sl .bool)))))))) a0)), (1, .one (.dat (.int .i64) a1))], [], 0⟩ hP hN (by kernel_rfl) allNil ?_
  refine HT.reg1 [0, 1] [⟨none, .no⟩, ⟨none, .no⟩, ⟨none, .no⟩, ⟨none, .no⟩, ⟨none, .no⟩] ⟨[(0, .one (.dat (.sl (.st (.pair .str (.st (.pair (.int .i64) (.pair (.int .i64) (.pair (.sl (.int .i64)) (.sl .bool)))))))) a0)), (1, .one (.dat (.int .i64) (wsub .i64 a1 (lenI a0))))], [], 0⟩ hP hN (by kernel_rfl) allNil ?_
  refine HT.seq ?_
  refine HT.reg1 [0, 1, 11] [⟨none, .no⟩, ⟨none, .no⟩] ⟨[(0, .one (.dat (.sl (.st (.pair .str (.st (.pair (.int .i64) (.pair (.int .i64) (.pair (.sl (.int .i64)) (.sl .bool)))))))) a0)), (1, .one (.dat (.int .i64) (wsub .i64 a1 (lenI a0)))), (11, .one (.dat .bool (decide ((wsub .i64 a1 (lenI a0)) < (0 : Int)))))], [], 0⟩ hP hN (by kernel_rfl) allNil ?_
  rcases of_bif hr with ⟨hb1, hr⟩ | ⟨hb1, hr⟩
  · refine HT.cond1 rfl hb1 ?_
    refine HT.reg1 [4] [⟨none, .no⟩] ⟨[(4, .one (.dat (.int .i64) (-1 : Int)))], [], 0⟩ hP hN (by kernel_rfl) allNil ?_
    have hr := of_some hr
    subst hr
    exact HT.ret (qThenR ⟨[.one (.dat (.int .i64) (-1 : Int))], [], [], by kernel_rfl, by kernel_rfl, rfl, by kernel_rfl, by kernel_rfl, trivial⟩)
  · refine HT.cond0 rfl hb1 ?_
    refine HT.skip (qThen ?_)
    refine HT.seq ?_
    refine HT.reg1 [0, 1, 5] [⟨none, .no⟩] ⟨[(0, .one (.dat (.sl (.st (.pair .str (.st (.pair (.int .i64) (.pair (.int .i64) (.pair (.sl (.int .i64)) (.sl .bool)))))))) a0)), (1, .one (.dat (.int .i64) (wsub .i64 a1 (lenI a0)))), (5, .one (.dat (.int .i64) (0 : Int)))], [], 0⟩ hP hN (by kernel_rfl) allNil ?_
    refine HT.block ?_
    obtain ⟨r3, hL14, hr⟩ := of_bind hr
    refine (Le.cv (s := ⟨[], [], [], false⟩) (own := []) (ps := [a0 = a0, (wsub .i64 a1 (lenI a0)) = (wsub .i64 a1 (lenI a0)), (0 : Int) = (0 : Int)]) (st' := ⟨[(0, .one (.dat (.sl (.st (.pair .str (.st (.pair (.int .i64) (.pair (.int .i64) (.pair (.sl (.int .i64)) (.sl .bool)))))))) a0)), (1, .one (.dat (.int .i64) (wsub .i64 a1 (lenI a0)))), (5, .one (.dat (.int .i64) (0 : Int)))], [], 0⟩) hO (fun h => by cases h) (by kernel_rfl) ⟨rfl, rfl, rfl, trivial⟩).ht ?_
    refine HT.loopE (s := ((wsub .i64 a1 (lenI a0)), (0 : Int))) (fun (s2 : Int × Int) => ⟨[(0, .one (.dat (.sl (.st (.pair .str (.st (.pair (.int .i64) (.pair (.int .i64) (.pair (.sl (.int .i64)) (.sl .bool)))))))) a0)), (1, .one (.dat (.int .i64) s2.1)), (5, .one (.dat (.int .i64) s2.2))], [], 0⟩) (fun (r3 : Int ⊕ Unit) => match r3 with | .inl r4 => (.exit 0, ⟨[(1, .one (.dat (.int .i64) r4))], [], 0⟩) | .inr r5 => (.ret, ⟨[(4, .one (.dat (.int .i64) (-1 : Int)))], [], 0⟩)) hL14 ?_ (fun s2 x6 hx7 hk8 => ?_)
    · rcases r3 with r4 | r5
      · refine (qBlockX (qThen ?_))
        refine HT.reg1 [4] [⟨none, .no⟩, ⟨none, .no⟩] ⟨[(4, .one (.dat (.int .i64) r4))], [], 0⟩ hP hN (by kernel_rfl) allNil ?_
        have hr := of_some hr
        subst hr
        exact HT.ret ⟨[.one (.dat (.int .i64) r4)], [], [], by kernel_rfl, by kernel_rfl, rfl, by kernel_rfl, by kernel_rfl, trivial⟩
      · have hr := of_some hr
        subst hr
        exact (qBlockR (qThenR ⟨[.one (.dat (.int .i64) (-1 : Int))], [], [], by kernel_rfl, by kernel_rfl, rfl, by kernel_rfl, by kernel_rfl, trivial⟩))
    · refine HT.seq ?_
      refine HT.reg1 [0, 1, 5, 15] [⟨none, .no⟩, ⟨none, .no⟩, ⟨none, .no⟩, ⟨none, .no⟩] ⟨[(0, .one (.dat (.sl (.st (.pair .str (.st (.pair (.int .i64) (.pair (.int .i64) (.pair (.sl (.int .i64)) (.sl .bool)))))))) a0)), (1, .one (.dat (.int .i64) s2.1)), (5, .one (.dat (.int .i64) s2.2)), (15, .one (.dat .bool (decide (s2.2 < (lenI a0)))))], [], 0⟩ hP hN (by kernel_rfl) allNil ?_
      rcases of_bif hx7 with ⟨hb9, hx7⟩ | ⟨hb9, hx7⟩
      · refine HT.cond1 rfl hb9 ?_
        refine HT.skip (qThen ?_)
        refine HT.seq ?_
        refine HT.block ?_
        obtain ⟨hg10, hx7⟩ := of_guard hx7
        obtain ⟨y11, hc12, hx7⟩ := of_bind hx7
        refine HT.reg1 [0, 1, 5] [⟨none, .no⟩, ⟨none, .no⟩, ⟨none, .no⟩, ⟨none, .no⟩, ⟨none, .no⟩, ⟨none, .call [.imm (.st (.pair .str (.st (.pair (.int .i64) (.pair (.int .i64) (.pair (.sl (.int .i64)) (.sl .bool))))))), .imm (.int .i64)] [⟨false, (.int .i64), y11⟩] []⟩, ⟨none, .no⟩] ⟨[(0, .one (.dat (.sl (.st (.pair .str (.st (.pair (.int .i64) (.pair (.int .i64) (.pair (.sl (.int .i64)) (.sl .bool)))))))) a0)), (1, .one (.dat (.int .i64) y11)), (5, .one (.dat (.int .i64) s2.2))], [], 0⟩ hP hN (by kernel_rfl) (allCons hg10 (allCons (f67_ok hc12) allNil)) ?_
        refine HT.reg1 [0, 1, 5, 25] [⟨none, .no⟩, ⟨none, .no⟩] ⟨[(0, .one (.dat (.sl (.st (.pair .str (.st (.pair (.int .i64) (.pair (.int .i64) (.pair (.sl (.int .i64)) (.sl .bool)))))))) a0)), (1, .one (.dat (.int .i64) y11)), (5, .one (.dat (.int .i64) s2.2)), (25, .one (.dat .bool (decide (y11 < (0 : Int)))))], [], 0⟩ hP hN (by kernel_rfl) allNil ?_
        rcases of_bif hx7 with ⟨hb13, hx7⟩ | ⟨hb13, hx7⟩
        · refine HT.cond1 rfl hb13 ?_
          refine HT.reg1 [4] [⟨none, .no⟩] ⟨[(4, .one (.dat (.int .i64) (-1 : Int)))], [], 0⟩ hP hN (by kernel_rfl) allNil ?_
          have hx7 := of_some hx7
          subst hx7
          refine (Le.cv (s := ⟨[], [], [], false⟩) (own := []) (ps := [(-1 : Int) = (-1 : Int)]) (st' := ⟨[(4, .one (.dat (.int .i64) (-1 : Int)))], [], 0⟩) hO (fun h => by cases h) (by kernel_rfl) ⟨rfl, trivial⟩).ht ?_
          exact HT.ret (qBlockR (qThenR (qLoopR (hk8 (.inr ()) rfl))))
        · refine HT.cond0 rfl hb13 ?_
          refine HT.skip (qBlock (qThen ?_))
          have hx7 := of_some hx7
          subst hx7
          refine HT.reg (rs := [⟨none, .no⟩, ⟨none, .no⟩, ⟨none, .no⟩]) (st' := ⟨[(5, .one (.dat (.int .i64) (wadd .i64 s2.2 (1 : Int)))), (17, .one (.dat (.int .i64) (wadd .i64 s2.2 (1 : Int)))), (16, .one (.dat (.int .i64) s2.2)), (0, .one (.dat (.sl (.st (.pair .str (.st (.pair (.int .i64) (.pair (.int .i64) (.pair (.sl (.int .i64)) (.sl .bool)))))))) a0)), (1, .one (.dat (.int .i64) y11)), (5, .one (.dat (.int .i64) s2.2)), (25, .one (.dat .bool (decide (y11 < (0 : Int)))))], [], 0⟩) hP hN (by kernel_rfl) allNil (qLoopN ⟨(y11, (wadd .i64 s2.2 (1 : Int))), rfl, Le.cv (s := ⟨[], [], [], false⟩) (own := []) (ps := [a0 = a0, y11 = y11, (wadd .i64 s2.2 (1 : Int)) = (wadd .i64 s2.2 (1 : Int))]) (st' := ⟨[(0, .one (.dat (.sl (.st (.pair .str (.st (.pair (.int .i64) (.pair (.int .i64) (.pair (.sl (.int .i64)) (.sl .bool)))))))) a0)), (1, .one (.dat (.int .i64) y11)), (5, .one (.dat (.int .i64) (wadd .i64 s2.2 (1 : Int))))], [], 0⟩) hO (fun h => by cases h) (by kernel_rfl) ⟨rfl, rfl, rfl, trivial⟩⟩)
      · refine HT.cond0 rfl hb9 ?_
        have hx7 := of_some hx7
        subst hx7
        refine (Le.cv (s := ⟨[], [], [], false⟩) (own := []) (ps := [s2.1 = s2.1]) (st' := ⟨[(1, .one (.dat (.int .i64) s2.1))], [], 0⟩) hO (fun h => by cases h) (by kernel_rfl) ⟨rfl, trivial⟩).ht ?_
        exact HT.exit (qThenE (qLoopE (hk8 (.inl s2.1) rfl)))

noncomputable def laws_toInt64S_B1 (a0 : List Int) (s2 : Int × List Int) : Option ((Int × List Int) ⊕ (List Int)) :=
  bif (decide (s2.1 < (lenI a0))) then
    guardP ((0 : Int) ≤ s2.1 ∧ s2.1 < lenI a0) (
      guardP ((0 : Int) ≤ s2.1 ∧ s2.1 < lenI s2.2) (
        some (.inl ((wadd .i64 s2.1 (1 : Int)), (List.set s2.2 (Int.toNat s2.1) (List.getD a0 (Int.toNat s2.1) (0 : Int)))))))
  else
    some (.inr s2.2)

noncomputable def laws_toInt64S (a0 : List Int) : Option (List Int) :=
  guardP ((0 : Int) ≤ (lenI a0) ∧ (lenI a0) ≤ 4294967296) (
    (rounds (laws_toInt64S_B1 a0) ((0 : Int), (List.replicate (Int.toNat (lenI a0)) (0 : Int)))).bind fun r4 =>
    some r4)

theorem f29_ok {a0 : List Int} {r : List Int} (hr : laws_toInt64S a0 = some r) : CallOK Try.prog 29 [.imm (.sl (.int .i64)) a0] [⟨true, (.sl (.int .i64)), r⟩] [] := by
  unfold laws_toInt64S at hr
  refine CallOK.of_body (ts := [(true, (.sl (.int .i64)))]) Try.func29 rfl (by kernel_rfl) (Nat.le_of_ble_eq_true (by kernel_rfl)) fun cx hP hN hO hF => ?_
  have hO : cx.own.map Prod.fst = [] := hO
  have hF := hF rfl
  show HT cx ⟨[(0, .one (.dat (.sl (.int .i64)) a0))], [], 0⟩ _ _
  refine HT.reg1 [0] [⟨none, .no⟩] ⟨[(0, .one (.dat (.sl (.int .i64)) a0))], [], 0⟩ hP hN (by kernel_rfl) allNil ?_
  obtain ⟨hg1, hr⟩ := of_guard hr
  refine HT.reg1 [0, 3] [⟨none, .no⟩, ⟨none, .no⟩, ⟨none, .ty (.int .i64)⟩, ⟨none, .no⟩] ⟨[(0, .one (.dat (.sl (.int .i64)) a0)), (3, .one (.all 0))], [(0, .seq (.int .i64) (List.replicate (Int.toNat (lenI a0)) (0 : Int)))], 1⟩ hP hN (by kernel_rfl) (allCons (show (0 : Int) ≤ (lenI a0) ∧ (lenI a0) ≤ (lenI a0) ∧ (lenI a0) ≤ 4294967296 from ⟨hg1.1, Int.le_refl _, hg1.2⟩) allNil) ?_
  refine HT.seq ?_
  refine HT.reg1 [0, 3, 4] [⟨none, .no⟩] ⟨[(0, .one (.dat (.sl (.int .i64)) a0)), (3, .one (.all 0)), (4, .one (.dat (.int .i64) (0 : Int)))], [(0, .seq (.int .i64) (List.replicate (Int.toNat (lenI a0)) (0 : Int)))], 1⟩ hP hN (by kernel_rfl) allNil ?_
  refine HT.block ?_
  obtain ⟨r3, hL11, hr⟩ := of_bind hr
  refine (Le.cv (s := ⟨[(0, 0)], [], [], false⟩) (own := []) (ps := [a0 = a0, (0 : Int) = (0 : Int), (List.replicate (Int.toNat (lenI a0)) (0 : Int)) = (List.replicate (Int.toNat (lenI a0)) (0 : Int))]) (st' := ⟨[(0, .one (.dat (.sl (.int .i64)) a0)), (3, .one (.all 0)), (4, .one (.dat (.int .i64) (0 : Int)))], [(0, .seq (.int .i64) (List.replicate (Int.toNat (lenI a0)) (0 : Int)))], 1⟩) hO (fun h => by cases h) (by kernel_rfl) ⟨rfl, rfl, rfl, trivial⟩).ht ?_
  refine HT.loopE (s := ((0 : Int), (List.replicate (Int.toNat (lenI a0)) (0 : Int)))) (fun (s2 : Int × List Int) => ⟨[(0, .one (.dat (.sl (.int .i64)) a0)), (3, .one (.all 0)), (4, .one (.dat (.int .i64) s2.1))], [(0, .seq (.int .i64) s2.2)], 1⟩) (fun (r4 : List Int) => (.exit 0, ⟨[(3, .one (.all 0))], [(0, .seq (.int .i64) r4)], 1⟩)) hL11 ?_ (fun s2 x5 hx6 hk7 => ?_)
  · refine (qBlockX (qThen ?_))
    refine HT.reg1 [2] [⟨none, .no⟩, ⟨none, .no⟩] ⟨[(2, .one (.all 0))], [(0, .seq (.int .i64) r3)], 1⟩ hP hN (by kernel_rfl) allNil ?_
    have hr := of_some hr
    subst hr
    exact HT.ret ⟨[.one (.all 0)], [0], [], by kernel_rfl, by kernel_rfl, rfl, by kernel_rfl, by kernel_rfl, trivial⟩
  · refine HT.seq ?_
    refine HT.reg1 [0, 3, 4, 11] [⟨none, .no⟩, ⟨none, .no⟩, ⟨none, .no⟩, ⟨none, .no⟩] ⟨[(0, .one (.dat (.sl (.int .i64)) a0)), (3, .one (.all 0)), (4, .one (.dat (.int .i64) s2.1)), (11, .one (.dat .bool (decide (s2.1 < (lenI a0)))))], [(0, .seq (.int .i64) s2.2)], 1⟩ hP hN (by kernel_rfl) allNil ?_
    rcases of_bif hx6 with ⟨hb8, hx6⟩ | ⟨hb8, hx6⟩
    · refine HT.cond1 rfl hb8 ?_
      refine HT.skip (qThen ?_)
      refine HT.seq ?_
      refine HT.block ?_
      obtain ⟨hg9, hx6⟩ := of_guard hx6
      obtain ⟨hg10, hx6⟩ := of_guard hx6
      refine HT.reg (rs := [⟨none, .no⟩, ⟨none, .no⟩, ⟨none, .no⟩, ⟨none, .no⟩, ⟨none, .no⟩, ⟨none, .no⟩, ⟨none, .no⟩, ⟨none, .no⟩]) (st' := ⟨[(20, .one (.elp 0 (Int.toNat s2.1) 1 0)), (19, .one (.dat (.int .i64) (List.getD a0 (Int.toNat s2.1) (0 : Int)))), (18, .one (.ip (.int .i64) (List.getD a0 (Int.toNat s2.1) (0 : Int)) 0)), (17, .one (.dat (.int .i64) s2.1)), (16, .one (.dat (.sl (.int .i64)) a0)), (15, .one (.dat (.int .i64) s2.1)), (14, .one (.all 0)), (0, .one (.dat (.sl (.int .i64)) a0)), (3, .one (.all 0)), (4, .one (.dat (.int .i64) s2.1)), (11, .one (.dat .bool (decide (s2.1 < (lenI a0)))))], [(0, .seq (.int .i64) (List.set s2.2 (Int.toNat s2.1) (List.getD a0 (Int.toNat s2.1) (0 : Int)))), (0, .seq (.int .i64) s2.2)], 1⟩) hP hN (by kernel_rfl) (allCons hg9 (allCons hg10 (allCons (natLt hg10) allNil))) (qBlock (qThen ?_))
      have hx6 := of_some hx6
      subst hx6
      refine HT.reg (rs := [⟨none, .no⟩, ⟨none, .no⟩, ⟨none, .no⟩]) (st' := ⟨[(4, .one (.dat (.int .i64) (wadd .i64 s2.1 (1 : Int)))), (13, .one (.dat (.int .i64) (wadd .i64 s2.1 (1 : Int)))), (12, .one (.dat (.int .i64) s2.1)), (20, .one (.elp 0 (Int.toNat s2.1) 1 0)), (19, .one (.dat (.int .i64) (List.getD a0 (Int.toNat s2.1) (0 : Int)))), (18, .one (.ip (.int .i64) (List.getD a0 (Int.toNat s2.1) (0 : Int)) 0)), (17, .one (.dat (.int .i64) s2.1)), (16, .one (.dat (.sl (.int .i64)) a0)), (15, .one (.dat (.int .i64) s2.1)), (14, .one (.all 0)), (0, .one (.dat (.sl (.int .i64)) a0)), (3, .one (.all 0)), (4, .one (.dat (.int .i64) s2.1)), (11, .one (.dat .bool (decide (s2.1 < (lenI a0)))))], [(0, .seq (.int .i64) (List.set s2.2 (Int.toNat s2.1) (List.getD a0 (Int.toNat s2.1) (0 : Int)))), (0, .seq (.int .i64) s2.2)], 1⟩) hP hN (by kernel_rfl) allNil (qLoopN ⟨((wadd .i64 s2.1 (1 : Int)), (List.set s2.2 (Int.toNat s2.1) (List.getD a0 (Int.toNat s2.1) (0 : Int)))), rfl, Le.cv (s := ⟨[(0, 0)], [], [], false⟩) (own := []) (ps := [a0 = a0, (wadd .i64 s2.1 (1 : Int)) = (wadd .i64 s2.1 (1 : Int)), (List.set s2.2 (Int.toNat s2.1) (List.getD a0 (Int.toNat s2.1) (0 : Int))) = (List.set s2.2 (Int.toNat s2.1) (List.getD a0 (Int.toNat s2.1) (0 : Int)))]) (st' := ⟨[(0, .one (.dat (.sl (.int .i64)) a0)), (3, .one (.all 0)), (4, .one (.dat (.int .i64) (wadd .i64 s2.1 (1 : Int))))], [(0, .seq (.int .i64) (List.set s2.2 (Int.toNat s2.1) (List.getD a0 (Int.toNat s2.1) (0 : Int))))], 1⟩) hO (fun h => by cases h) (by kernel_rfl) ⟨rfl, rfl, rfl, trivial⟩⟩)
    · refine HT.cond0 rfl hb8 ?_
      have hx6 := of_some hx6
      subst hx6
      refine (Le.cv (s := ⟨[(0, 0)], [], [], false⟩) (own := []) (ps := [s2.2 = s2.2]) (st' := ⟨[(3, .one (.all 0))], [(0, .seq (.int .i64) s2.2)], 1⟩) hO (fun h => by cases h) (by kernel_rfl) ⟨rfl, trivial⟩).ht ?_
      exact HT.exit (qThenE (qLoopE (hk7 s2.2 rfl)))

noncomputable def laws_toBoolS_B1 (a0 : List Bool) (s2 : Int × List Bool) : Option ((Int × List Bool) ⊕ (List Bool)) :=
  bif (decide (s2.1 < (lenI a0))) then
    guardP ((0 : Int) ≤ s2.1 ∧ s2.1 < lenI a0) (
      guardP ((0 : Int) ≤ s2.1 ∧ s2.1 < lenI s2.2) (
        some (.inl ((wadd .i64 s2.1 (1 : Int)), (List.set s2.2 (Int.toNat s2.1) (List.getD a0 (Int.toNat s2.1) false))))))
  else
    some (.inr s2.2)

noncomputable def laws_toBoolS (a0 : List Bool) : Option (List Bool) :=
  guardP ((0 : Int) ≤ (lenI a0) ∧ (lenI a0) ≤ 4294967296) (
    (rounds (laws_toBoolS_B1 a0) ((0 : Int), (List.replicate (Int.toNat (lenI a0)) false))).bind fun r4 =>
    some r4)

theorem f154_ok {a0 : List Bool} {r : List Bool} (hr : laws_toBoolS a0 = some r) : CallOK Try.prog 154 [.imm (.sl .bool) a0] [⟨true, (.sl .bool), r⟩] [] := by
  unfold laws_toBoolS at hr
  refine CallOK.of_body (ts := [(true, (.sl .bool))]) Try.func154 rfl (by kernel_rfl) (Nat.le_of_ble_eq_true (by kernel_rfl)) fun cx hP hN hO hF => ?_
  have hO : cx.own.map Prod.fst = [] := hO
  have hF := hF rfl
  show HT cx ⟨[(0, .one (.dat (.sl .bool) a0))], [], 0⟩ _ _
  refine HT.reg1 [0] [⟨none, .no⟩] ⟨[(0, .one (.dat (.sl .bool) a0))], [], 0⟩ hP hN (by kernel_rfl) allNil ?_
  obtain ⟨hg1, hr⟩ := of_guard hr
  refine HT.reg1 [0, 3] [⟨none, .no⟩, ⟨none, .no⟩, ⟨none, .ty .bool⟩, ⟨none, .no⟩] ⟨[(0, .one (.dat (.sl .bool) a0)), (3, .one (.all 0))], [(0, .seq .bool (List.replicate (Int.toNat (lenI a0)) false))], 1⟩ hP hN (by kernel_rfl) (allCons (show (0 : Int) ≤ (lenI a0) ∧ (lenI a0) ≤ (lenI a0) ∧ (lenI a0) ≤ 4294967296 from ⟨hg1.1, Int.le_refl _, hg1.2⟩) allNil) ?_
  refine HT.seq ?_
  refine HT.reg1 [0, 3, 4] [⟨none, .no⟩] ⟨[(0, .one (.dat (.sl .bool) a0)), (3, .one (.all 0)), (4, .one (.dat (.int .i64) (0 : Int)))], [(0, .seq .bool (List.replicate (Int.toNat (lenI a0)) false))], 1⟩ hP hN (by kernel_rfl) allNil ?_
  refine HT.block ?_
  obtain ⟨r3, hL11, hr⟩ := of_bind hr
  refine (Le.cv (s := ⟨[(0, 0)], [], [], false⟩) (own := []) (ps := [a0 = a0, (0 : Int) = (0 : Int), (List.replicate (Int.toNat (lenI a0)) false) = (List.replicate (Int.toNat (lenI a0)) false)]) (st' := ⟨[(0, .one (.dat (.sl .bool) a0)), (3, .one (.all 0)), (4, .one (.dat (.int .i64) (0 : Int)))], [(0, .seq .bool (List.replicate (Int.toNat (lenI a0)) false))], 1⟩) hO (fun h => by cases h) (by kernel_rfl) ⟨rfl, rfl, rfl, trivial⟩).ht ?_
  refine HT.loopE (s := ((0 : Int), (List.replicate (Int.toNat (lenI a0)) false))) (fun (s2 : Int × List Bool) => ⟨[(0, .one (.dat (.sl .bool) a0)), (3, .one (.all 0)), (4, .one (.dat (.int .i64) s2.1))], [(0, .seq .bool s2.2)], 1⟩) (fun (r4 : List Bool) => (.exit 0, ⟨[(3, .one (.all 0))], [(0, .seq .bool r4)], 1⟩)) hL11 ?_ (fun s2 x5 hx6 hk7 => ?_)
  · refine (qBlockX (qThen ?_))
    refine HT.reg1 [2] [⟨none, .no⟩, ⟨none, .no⟩] ⟨[(2, .one (.all 0))], [(0, .seq .bool r3)], 1⟩ hP hN (by kernel_rfl) allNil ?_
    have hr := of_some hr
    subst hr
    exact HT.ret ⟨[.one (.all 0)], [0], [], by kernel_rfl, by kernel_rfl, rfl, by kernel_rfl, by kernel_rfl, trivial⟩
  · refine HT.seq ?_
    refine HT.reg1 [0, 3, 4, 11] [⟨none, .no⟩, ⟨none, .no⟩, ⟨none, .no⟩, ⟨none, .no⟩] ⟨[(0, .one (.dat (.sl .bool) a0)), (3, .one (.all 0)), (4, .one (.dat (.int .i64) s2.1)), (11, .one (.dat .bool (decide (s2.1 < (lenI a0)))))], [(0, .seq .bool s2.2)], 1⟩ hP hN (by kernel_rfl) allNil ?_
    rcases of_bif hx6 with ⟨hb8, hx6⟩ | ⟨hb8, hx6⟩
    · refine HT.cond1 rfl hb8 ?_
      refine HT.skip (qThen ?_)
      refine HT.seq ?_
      refine HT.block ?_
      obtain ⟨hg9, hx6⟩ := of_guard hx6
      obtain ⟨hg10, hx6⟩ := of_guard hx6
      refine HT.reg (rs := [⟨none, .no⟩, ⟨none, .no⟩, ⟨none, .no⟩, ⟨none, .no⟩, ⟨none, .no⟩, ⟨none, .no⟩, ⟨none, .no⟩, ⟨none, .no⟩]) (st' := ⟨[(20, .one (.elp 0 (Int.toNat s2.1) 1 0)), (19, .one (.dat .bool (List.getD a0 (Int.toNat s2.1) false))), (18, .one (.ip .bool (List.getD a0 (Int.toNat s2.1) false) 0)), (17, .one (.dat (.int .i64) s2.1)), (16, .one (.dat (.sl .bool) a0)), (15, .one (.dat (.int .i64) s2.1)), (14, .one (.all 0)), (0, .one (.dat (.sl .bool) a0)), (3, .one (.all 0)), (4, .one (.dat (.int .i64) s2.1)), (11, .one (.dat .bool (decide (s2.1 < (lenI a0)))))], [(0, .seq .bool (List.set s2.2 (Int.toNat s2.1) (List.getD a0 (Int.toNat s2.1) false))), (0, .seq .bool s2.2)], 1⟩) hP hN (by kernel_rfl) (allCons hg9 (allCons hg10 (allCons (natLt hg10) allNil))) (qBlock (qThen ?_))
      have hx6 := of_some hx6
      subst hx6
      refine HT.reg (rs := [⟨none, .no⟩, ⟨none, .no⟩, ⟨none, .no⟩]) (st' := ⟨[(4, .one (.dat (.int .i64) (wadd .i64 s2.1 (1 : Int)))), (13, .one (.dat (.int .i64) (wadd .i64 s2.1 (1 : Int)))), (12, .one (.dat (.int .i64) s2.1)), (20, .one (.elp 0 (Int.toNat s2.1) 1 0)), (19, .one (.dat .bool (List.getD a0 (Int.toNat s2.1) false))), (18, .one (.ip .bool (List.getD a0 (Int.toNat s2.1) false) 0)), (17, .one (.dat (.int .i64) s2.1)), (16, .one (.dat (.sl .bool) a0)), (15, .one (.dat (.int .i64) s2.1)), (14, .one (.all 0)), (0, .one (.dat (.sl .bool) a0)), (3, .one (.all 0)), (4, .one (.dat (.int .i64) s2.1)), (11, .one (.dat .bool (decide (s2.1 < (lenI a0)))))], [(0, .seq .bool (List.set s2.2 (Int.toNat s2.1) (List.getD a0 (Int.toNat s2.1) false))), (0, .seq .bool s2.2)], 1⟩) hP hN (by kernel_rfl) allNil (qLoopN ⟨((wadd .i64 s2.1 (1 : Int)), (List.set s2.2 (Int.toNat s2.1) (List.getD a0 (Int.toNat s2.1) false))), rfl, Le.cv (s := ⟨[(0, 0)], [], [], false⟩) (own := []) (ps := [a0 = a0, (wadd .i64 s2.1 (1 : Int)) = (wadd .i64 s2.1 (1 : Int)), (List.set s2.2 (Int.toNat s2.1) (List.getD a0 (Int.toNat s2.1) false)) = (List.set s2.2 (Int.toNat s2.1) (List.getD a0 (Int.toNat s2.1) false))]) (st' := ⟨[(0, .one (.dat (.sl .bool) a0)), (3, .one (.all 0)), (4, .one (.dat (.int .i64) (wadd .i64 s2.1 (1 : Int))))], [(0, .seq .bool (List.set s2.2 (Int.toNat s2.1) (List.getD a0 (Int.toNat s2.1) false)))], 1⟩) hO (fun h => by cases h) (by kernel_rfl) ⟨rfl, rfl, rfl, trivial⟩⟩)
    · refine HT.cond0 rfl hb8 ?_
      have hx6 := of_some hx6
      subst hx6
      refine (Le.cv (s := ⟨[(0, 0)], [], [], false⟩) (own := []) (ps := [s2.2 = s2.2]) (st' := ⟨[(3, .one (.all 0))], [(0, .seq .bool s2.2)], 1⟩) hO (fun h => by cases h) (by kernel_rfl) ⟨rfl, trivial⟩).ht ?_
      exact HT.exit (qThenE (qLoopE (hk7 s2.2 rfl)))

noncomputable def laws_toPlain (a0 : Int × Int × List Int × List Bool) : Option ((Int × Int × List Int × List Bool)) :=
  (laws_toInt64S a0.2.2.1).bind fun y1 =>
  (laws_toBoolS a0.2.2.2).bind fun y3 =>
  some (a0.1, a0.2.1, y1, y3)

theorem f121_ok {a0 : Int × Int × List Int × List Bool} {r : (Int × Int × List Int × List Bool)} (hr : laws_toPlain a0 = some r) : CallOK Try.prog 121 [.imm (.st (.pair (.int .i64) (.pair (.int .i64) (.pair (.sl (.int .i64)) (.sl .bool))))) a0] [⟨true, (.st (.pair (.int .i64) (.pair (.int .i64) (.pair (.sl (.int .i64)) (.sl .bool))))), r⟩] [] := by
  unfold laws_toPlain at hr
  refine CallOK.of_body (ts := [(true, (.st (.pair (.int .i64) (.pair (.int .i64) (.pair (.sl (.int .i64)) (.sl .bool))))))]) Try.func121 rfl (by kernel_rfl) (Nat.le_of_ble_eq_true (by kernel_rfl)) fun cx hP hN hO hF => ?_
  have hO : cx.own.map Prod.fst = [] := hO
  have hF := hF rfl
  show HT cx ⟨[(0, .agg [.dat (.int .i64) a0.1, .dat (.int .i64) a0.2.1, .dat (.sl (.int .i64)) a0.2.2.1, .dat (.sl .bool) a0.2.2.2])], [], 0⟩ _ _
  refine HT.reg1 [1, 2] [⟨none, .no⟩, ⟨none, .no⟩] ⟨[(1, .one (.ptr 0 0)), (2, .one (.ptr 1 0))], [(1, .box [.dat (.int .i64) (0 : Int), .dat (.int .i64) (0 : Int), .nilS, .nilS]), (0, .box [.dat (.int .i64) a0.1, .dat (.int .i64) a0.2.1, .dat (.sl (.int .i64)) a0.2.2.1, .dat (.sl .bool) a0.2.2.2])], 2⟩ hP hN (by kernel_rfl) allNil ?_
  refine HT.reg1 [1, 2, 3] [⟨none, .no⟩] ⟨[(1, .one (.ptr 0 0)), (2, .one (.ptr 1 0)), (3, .one (.ptr 2 0))], [(2, .box [.dat (.int .i64) (0 : Int), .dat (.int .i64) (0 : Int), .nilS, .nilS]), (1, .box [.dat (.int .i64) (0 : Int), .dat (.int .i64) (0 : Int), .nilS, .nilS]), (0, .box [.dat (.int .i64) a0.1, .dat (.int .i64) a0.2.1, .dat (.sl (.int .i64)) a0.2.2.1, .dat (.sl .bool) a0.2.2.2])], 3⟩ hP hN (by kernel_rfl) allNil ?_
  refine HT.reg1 [1, 2, 3] [⟨none, .no⟩, ⟨none, .no⟩, ⟨none, .no⟩, ⟨none, .no⟩] ⟨[(1, .one (.ptr 0 0)), (2, .one (.ptr 1 0)), (3, .one (.ptr 2 0))], [(2, .box [.dat (.int .i64) a0.1, .dat (.int .i64) (0 : Int), .nilS, .nilS]), (2, .box [.dat (.int .i64) (0 : Int), .dat (.int .i64) (0 : Int), .nilS, .nilS]), (1, .box [.dat (.int .i64) (0 : Int), .dat (.int .i64) (0 : Int), .nilS, .nilS]), (0, .box [.dat (.int .i64) a0.1, .dat (.int .i64) a0.2.1, .dat (.sl (.int .i64)) a0.2.2.1, .dat (.sl .bool) a0.2.2.2])], 3⟩ hP hN (by kernel_rfl) allNil ?_
  refine HT.reg1 [1, 2, 3] [⟨none, .no⟩, ⟨none, .no⟩, ⟨none, .no⟩, ⟨none, .no⟩] ⟨[(1, .one (.ptr 0 0)), (2, .one (.ptr 1 0)), (3, .one (.ptr 2 0))], [(2, .box [.dat (.int .i64) a0.1, .dat (.int .i64) a0.2.1, .nilS, .nilS]), (2, .box [.dat (.int .i64) a0.1, .dat (.int .i64) (0 : Int), .nilS, .nilS]), (2, .box [.dat (.int .i64) (0 : Int), .dat (.int .i64) (0 : Int), .nilS, .nilS]), (1, .box [.dat (.int .i64) (0 : Int), .dat (.int .i64) (0 : Int), .nilS, .nilS]), (0, .box [.dat (.int .i64) a0.1, .dat (.int .i64) a0.2.1, .dat (.sl (.int .i64)) a0.2.2.1, .dat (.sl .bool) a0.2.2.2])], 3⟩ hP hN (by kernel_rfl) allNil ?_
  obtain ⟨y1, hc2, hr⟩ := of_bind hr
  refine HT.reg1 [1, 2, 3] [⟨none, .no⟩, ⟨none, .no⟩, ⟨none, .call [.imm (.sl (.int .i64))] [⟨true, (.sl (.int .i64)), y1⟩] []⟩, ⟨none, .no⟩, ⟨none, .no⟩] ⟨[(1, .one (.ptr 0 0)), (2, .one (.ptr 1 0)), (3, .one (.ptr 2 0))], [(2, .box [.dat (.int .i64) a0.1, .dat (.int .i64) a0.2.1, .all 3, .nilS]), (3, .seq (.int .i64) y1), (2, .box [.dat (.int .i64) a0.1, .dat (.int .i64) a0.2.1, .nilS, .nilS]), (2, .box [.dat (.int .i64) a0.1, .dat (.int .i64) (0 : Int), .nilS, .nilS]), (2, .box [.dat (.int .i64) (0 : Int), .dat (.int .i64) (0 : Int), .nilS, .nilS]), (1, .box [.dat (.int .i64) (0 : Int), .dat (.int .i64) (0 : Int), .nilS, .nilS]), (0, .box [.dat (.int .i64) a0.1, .dat (.int .i64) a0.2.1, .dat (.sl (.int .i64)) a0.2.2.1, .dat (.sl .bool) a0.2.2.2])], 4⟩ hP hN (by kernel_rfl) (allCons (f29_ok hc2) allNil) ?_
  obtain ⟨y3, hc4, hr⟩ := of_bind hr
  refine HT.reg1 [2, 3] [⟨none, .no⟩, ⟨none, .no⟩, ⟨none, .call [.imm (.sl .bool)] [⟨true, (.sl .bool), y3⟩] []⟩, ⟨none, .no⟩, ⟨none, .no⟩] ⟨[(2, .one (.ptr 1 0)), (3, .one (.ptr 2 0))], [(2, .box [.dat (.int .i64) a0.1, .dat (.int .i64) a0.2.1, .all 3, .all 4]), (4, .seq .bool y3), (2, .box [.dat (.int .i64) a0.1, .dat (.int .i64) a0.2.1, .all 3, .nilS]), (3, .seq (.int .i64) y1), (2, .box [.dat (.int .i64) a0.1, .dat (.int .i64) a0.2.1, .nilS, .nilS]), (2, .box [.dat (.int .i64) a0.1, .dat (.int .i64) (0 : Int), .nilS, .nilS]), (2, .box [.dat (.int .i64) (0 : Int), .dat (.int .i64) (0 : Int), .nilS, .nilS]), (1, .box [.dat (.int .i64) (0 : Int), .dat (.int .i64) (0 : Int), .nilS, .nilS]), (0, .box [.dat (.int .i64) a0.1, .dat (.int .i64) a0.2.1, .dat (.sl (.int .i64)) a0.2.2.1, .dat (.sl .bool) a0.2.2.2])], 5⟩ hP hN (by kernel_rfl) (allCons (f154_ok hc4) allNil) ?_
  refine HT.reg1 [2] [⟨none, .no⟩, ⟨none, .no⟩] ⟨[(2, .one (.ptr 1 0))], [(1, .box [.dat (.int .i64) a0.1, .dat (.int .i64) a0.2.1, .all 3, .all 4]), (2, .box [.dat (.int .i64) a0.1, .dat (.int .i64) a0.2.1, .all 3, .all 4]), (4, .seq .bool y3), (2, .box [.dat (.int .i64) a0.1, .dat (.int .i64) a0.2.1, .all 3, .nilS]), (3, .seq (.int .i64) y1), (2, .box [.dat (.int .i64) a0.1, .dat (.int .i64) a0.2.1, .nilS, .nilS]), (2, .box [.dat (.int .i64) a0.1, .dat (.int .i64) (0 : Int), .nilS, .nilS]), (2, .box [.dat (.int .i64) (0 : Int), .dat (.int .i64) (0 : Int), .nilS, .nilS]), (1, .box [.dat (.int .i64) (0 : Int), .dat (.int .i64) (0 : Int), .nilS, .nilS]), (0, .box [.dat (.int .i64) a0.1, .dat (.int .i64) a0.2.1, .dat (.sl (.int .i64)) a0.2.2.1, .dat (.sl .bool) a0.2.2.2])], 5⟩ hP hN (by kernel_rfl) allNil ?_
  have hr := of_some hr
  subst hr
  exact HT.ret ⟨[.agg [.dat (.int .i64) a0.1, .dat (.int .i64) a0.2.1, .all 3, .all 4]], [3, 4], [], by kernel_rfl, by kernel_rfl, rfl, by kernel_rfl, by kernel_rfl, trivial⟩

noncomputable def laws_toKept (a0 : List UInt8 × Int × Int × List Int × List Bool) : Option ((List UInt8 × Int × Int × List Int × List Bool)) :=
  (laws_toPlain (a0.2.1, a0.2.2.1, a0.2.2.2.1, a0.2.2.2.2)).bind fun y1 =>
  some (a0.1, y1.1, y1.2.1, y1.2.2.1, y1.2.2.2)

theorem f69_ok {a0 : List UInt8 × Int × Int × List Int × List Bool} {r : (List UInt8 × Int × Int × List Int × List Bool)} (hr : laws_toKept a0 = some r) : CallOK Try.prog 69 [.imm (.st (.pair .str (.st (.pair (.int .i64) (.pair (.int .i64) (.pair (.sl (.int .i64)) (.sl .bool))))))) a0] [⟨true, (.st (.pair .str (.st (.pair (.int .i64) (.pair (.int .i64) (.pair (.sl (.int .i64)) (.sl .bool))))))), r⟩] [] := by
  unfold laws_toKept at hr
  refine CallOK.of_body (ts := [(true, (.st (.pair .str (.st (.pair (.int .i64) (.pair (.int .i64) (.pair (.sl (.int .i64)) (.sl .bool))))))))]) Try.func69 rfl (by kernel_rfl) (Nat.le_of_ble_eq_true (by kernel_rfl)) fun cx hP hN hO hF => ?_
  have hO : cx.own.map Prod.fst = [] := hO
  have hF := hF rfl
  show HT cx ⟨[(0, .agg [.dat .str a0.1, .dat (.int .i64) a0.2.1, .dat (.int .i64) a0.2.2.1, .dat (.sl (.int .i64)) a0.2.2.2.1, .dat (.sl .bool) a0.2.2.2.2])], [], 0⟩ _ _
  refine HT.reg1 [1, 2] [⟨none, .no⟩, ⟨none, .no⟩] ⟨[(1, .one (.ptr 0 0)), (2, .one (.ptr 1 0))], [(1, .box [.dat .str ([] : List UInt8), .dat (.int .i64) (0 : Int), .dat (.int .i64) (0 : Int), .nilS, .nilS]), (0, .box [.dat .str a0.1, .dat (.int .i64) a0.2.1, .dat (.int .i64) a0.2.2.1, .dat (.sl (.int .i64)) a0.2.2.2.1, .dat (.sl .bool) a0.2.2.2.2])], 2⟩ hP hN (by kernel_rfl) allNil ?_
  refine HT.reg1 [1, 2, 3] [⟨none, .no⟩] ⟨[(1, .one (.ptr 0 0)), (2, .one (.ptr 1 0)), (3, .one (.ptr 2 0))], [(2, .box [.dat .str ([] : List UInt8), .dat (.int .i64) (0 : Int), .dat (.int .i64) (0 : Int), .nilS, .nilS]), (1, .box [.dat .str ([] : List UInt8), .dat (.int .i64) (0 : Int), .dat (.int .i64) (0 : Int), .nilS, .nilS]), (0, .box [.dat .str a0.1, .dat (.int .i64) a0.2.1, .dat (.int .i64) a0.2.2.1, .dat (.sl (.int .i64)) a0.2.2.2.1, .dat (.sl .bool) a0.2.2.2.2])], 3⟩ hP hN (by kernel_rfl) allNil ?_
  refine HT.reg1 [1, 2, 3] [⟨none, .no⟩, ⟨none, .no⟩, ⟨none, .no⟩, ⟨none, .no⟩] ⟨[(1, .one (.ptr 0 0)), (2, .one (.ptr 1 0)), (3, .one (.ptr 2 0))], [(2, .box [.dat .str a0.1, .dat (.int .i64) (0 : Int), .dat (.int .i64) (0 : Int), .nilS, .nilS]), (2, .box [.dat .str ([] : List UInt8), .dat (.int .i64) (0 : Int), .dat (.int .i64) (0 : Int), .nilS, .nilS]), (1, .box [.dat .str ([] : List UInt8), .dat (.int .i64) (0 : Int), .dat (.int .i64) (0 : Int), .nilS, .nilS]), (0, .box [.dat .str a0.1, .dat (.int .i64) a0.2.1, .dat (.int .i64) a0.2.2.1, .dat (.sl (.int .i64)) a0.2.2.2.1, .dat (.sl .bool) a0.2.2.2.2])], 3⟩ hP hN (by kernel_rfl) allNil ?_
  obtain ⟨y1, hc2, hr⟩ := of_bind hr
  refine HT.reg1 [2, 3] [⟨none, .no⟩, ⟨none, .no⟩, ⟨none, .call [.imm (.st (.pair (.int .i64) (.pair (.int .i64) (.pair (.sl (.int .i64)) (.sl .bool)))))] [⟨true, (.st (.pair (.int .i64) (.pair (.int .i64) (.pair (.sl (.int .i64)) (.sl .bool))))), y1⟩] []⟩, ⟨none, .no⟩, ⟨none, .no⟩] ⟨[(2, .one (.ptr 1 0)), (3, .one (.ptr 2 0))], [(2, .box [.dat .str a0.1, .dat (.int .i64) y1.1, .dat (.int .i64) y1.2.1, .all 3, .all 4]), (3, .seq (.int .i64) y1.2.2.1), (4, .seq .bool y1.2.2.2), (2, .box [.dat .str a0.1, .dat (.int .i64) (0 : Int), .dat (.int .i64) (0 : Int), .nilS, .nilS]), (2, .box [.dat .str ([] : List UInt8), .dat (.int .i64) (0 : Int), .dat (.int .i64) (0 : Int), .nilS, .nilS]), (1, .box [.dat .str ([] : List UInt8), .dat (.int .i64) (0 : Int), .dat (.int .i64) (0 : Int), .nilS, .nilS]), (0, .box [.dat .str a0.1, .dat (.int .i64) a0.2.1, .dat (.int .i64) a0.2.2.1, .dat (.sl (.int .i64)) a0.2.2.2.1, .dat (.sl .bool) a0.2.2.2.2])], 5⟩ hP hN (by kernel_rfl) (allCons (f121_ok hc2) allNil) ?_
  refine HT.reg1 [2] [⟨none, .no⟩, ⟨none, .no⟩] ⟨[(2, .one (.ptr 1 0))], [(1, .box [.dat .str a0.1, .dat (.int .i64) y1.1, .dat (.int .i64) y1.2.1, .all 3, .all 4]), (2, .box [.dat .str a0.1, .dat (.int .i64) y1.1, .dat (.int .i64) y1.2.1, .all 3, .all 4]), (3, .seq (.int .i64) y1.2.2.1), (4, .seq .bool y1.2.2.2), (2, .box [.dat .str a0.1, .dat (.int .i64) (0 : Int), .dat (.int .i64) (0 : Int), .nilS, .nilS]), (2, .box [.dat .str ([] : List UInt8), .dat (.int .i64) (0 : Int), .dat (.int .i64) (0 : Int), .nilS, .nilS]), (1, .box [.dat .str ([] : List UInt8), .dat (.int .i64) (0 : Int), .dat (.int .i64) (0 : Int), .nilS, .nilS]), (0, .box [.dat .str a0.1, .dat (.int .i64) a0.2.1, .dat (.int .i64) a0.2.2.1, .dat (.sl (.int .i64)) a0.2.2.2.1, .dat (.sl .bool) a0.2.2.2.2])], 5⟩ hP hN (by kernel_rfl) allNil ?_
  have hr := of_some hr
  subst hr
  exact HT.ret ⟨[.agg [.dat .str a0.1, .dat (.int .i64) y1.1, .dat (.int .i64) y1.2.1, .all 3, .all 4]], [3, 4], [], by kernel_rfl, by kernel_rfl, rfl, by kernel_rfl, by kernel_rfl, trivial⟩

noncomputable def laws_toKeptS_B1 (a0 : List (List UInt8 × Int × Int × List Int × List Bool)) (s4 : Int × (List (List UInt8 × Int × Int × List Int × List Bool))) : Option ((Int × (List (List UInt8 × Int × Int × List Int × List Bool))) ⊕ ((List (List UInt8 × Int × Int × List Int × List Bool)))) :=
  bif (decide (s4.1 < (lenI a0))) then
    guardP ((0 : Int) ≤ s4.1 ∧ s4.1 < lenI a0) (
      (laws_toKept ((List.getD a0 (Int.toNat s4.1) (([] : List UInt8), (0 : Int), (0 : Int), ([] : List Int), ([] : List Bool))).1, ((List.getD a0 (Int.toNat s4.1) (([] : List UInt8), (0 : Int), (0 : Int), ([] : List Int), ([] : List Bool))).2).1, (((List.getD a0 (Int.toNat s4.1) (([] : List UInt8), (0 : Int), (0 : Int), ([] : List Int), ([] : List Bool))).2).2).1, ((((List.getD a0 (Int.toNat s4.1) (([] : List UInt8), (0 : Int), (0 : Int), ([] : List Int), ([] : List Bool))).2).2).2).1, ((((List.getD a0 (Int.toNat s4.1) (([] : List UInt8), (0 : Int), (0 : Int), ([] : List Int), ([] : List Bool))).2).2).2).2)).bind fun y12 =>
      guardP ((0 : Int) ≤ s4.1 ∧ s4.1 < lenI s4.2) (
        some (.inl ((wadd .i64 s4.1 (1 : Int)), (List.set s4.2 (Int.toNat s4.1) (y12.1, y12.2.1, y12.2.2.1, y12.2.2.2.1, y12.2.2.2.2))))))
  else
    some (.inr s4.2)

noncomputable def laws_toKeptS (a0 : List (List UInt8 × Int × Int × List Int × List Bool)) : Option ((List (List UInt8 × Int × Int × List Int × List Bool))) :=
  guardP ((0 : Int) ≤ (lenI a0) ∧ (lenI a0) ≤ 4294967296) (
    (some (List.replicate (Int.toNat (lenI a0)) (([] : List UInt8), (0 : Int), (0 : Int), ([] : List Int), ([] : List Bool)))).bind fun q2 =>
    (rounds (laws_toKeptS_B1 a0) ((0 : Int), q2)).bind fun r6 =>
    some r6)

theorem f16_ok {a0 : List (List UInt8 × Int × Int × List Int × List Bool)} {r : (List (List UInt8 × Int × Int × List Int × List Bool))} (hr : laws_toKeptS a0 = some r) : CallOK Try.prog 16 [.imm (.sl (.st (.pair .str (.st (.pair (.int .i64) (.pair (.int .i64) (.pair (.sl (.int .i64)) (.sl .bool)))))))) a0] [⟨false, (.sl (.st (.pair .str (.st (.pair (.int .i64) (.pair (.int .i64) (.pair (.sl (.int .i64)) (.sl .bool)))))))), r⟩] [] := by
  unfold laws_toKeptS at hr
  refine CallOK.of_body (ts := [(false, (.sl (.st (.pair .str (.st (.pair (.int .i64) (.pair (.int .i64) (.pair (.sl (.int .i64)) (.sl .bool)))))))))]) Try.func16 rfl (by kernel_rfl) (Nat.le_of_ble_eq_true (by kernel_rfl)) fun cx hP hN hO hF => ?_
  have hO : cx.own.map Prod.fst = [] := hO
  have hF := hF rfl
  show HT cx ⟨[(0, .one (.dat (.sl (.st (.pair .str (.st (.pair (.int .i64) (.pair (.int .i64) (.pair (.sl (.int .i64)) (.sl .bool)))))))) a0))], [], 0⟩ _ _
  refine HT.reg1 [0] [⟨none, .no⟩] ⟨[(0, .one (.dat (.sl (.st (.pair .str (.st (.pair (.int .i64) (.pair (.int .i64) (.pair (.sl (.int .i64)) (.sl .bool)))))))) a0))], [], 0⟩ hP hN (by kernel_rfl) allNil ?_
  obtain ⟨hg1, hr⟩ := of_guard hr
  refine HT.reg1 [0, 3] [⟨none, .no⟩, ⟨none, .no⟩, ⟨none, .ty (.st (.pair .str (.st (.pair (.int .i64) (.pair (.int .i64) (.pair (.sl (.int .i64)) (.sl .bool)))))))⟩, ⟨none, .no⟩] ⟨[(0, .one (.dat (.sl (.st (.pair .str (.st (.pair (.int .i64) (.pair (.int .i64) (.pair (.sl (.int .i64)) (.sl .bool)))))))) a0)), (3, .one (.all 0))], [(0, .seq (.st (.pair .str (.st (.pair (.int .i64) (.pair (.int .i64) (.pair (.sl (.int .i64)) (.sl .bool))))))) (List.replicate (Int.toNat (lenI a0)) (([] : List UInt8), (0 : Int), (0 : Int), ([] : List Int), ([] : List Bool))))], 1⟩ hP hN (by kernel_rfl) (allCons (show (0 : Int) ≤ (lenI a0) ∧ (lenI a0) ≤ (lenI a0) ∧ (lenI a0) ≤ 4294967296 from ⟨hg1.1, Int.le_refl _, hg1.2⟩) allNil) ?_
  obtain ⟨q2, hq3, hr⟩ := of_bind hr
  have hq3 := of_some2 hq3
  refine (Le.cv (s := ⟨[(0, 0)], [], [], false⟩) (own := []) (ps := [a0 = a0, q2 = (List.replicate (Int.toNat (lenI a0)) (([] : List UInt8), (0 : Int), (0 : Int), ([] : List Int), ([] : List Bool)))]) (st' := ⟨[(0, .one (.dat (.sl (.st (.pair .str (.st (.pair (.int .i64) (.pair (.int .i64) (.pair (.sl (.int .i64)) (.sl .bool)))))))) a0)), (3, .one (.all 0))], [(0, .seq (.st (.pair .str (.st (.pair (.int .i64) (.pair (.int .i64) (.pair (.sl (.int .i64)) (.sl .bool))))))) q2)], 1⟩) hO (fun h => by cases h) (by kernel_rfl) ⟨rfl, hq3, trivial⟩).ht ?_
  refine HT.seq ?_
  refine HT.reg1 [0, 3, 4] [⟨none, .no⟩] ⟨[(0, .one (.dat (.sl (.st (.pair .str (.st (.pair (.int .i64) (.pair (.int .i64) (.pair (.sl (.int .i64)) (.sl .bool)))))))) a0)), (3, .one (.all 0)), (4, .one (.dat (.int .i64) (0 : Int)))], [(0, .seq (.st (.pair .str (.st (.pair (.int .i64) (.pair (.int .i64) (.pair (.sl (.int .i64)) (.sl .bool))))))) q2)], 1⟩ hP hN (by kernel_rfl) allNil ?_
  refine HT.block ?_
  obtain ⟨r5, hL15, hr⟩ := of_bind hr
  refine (Le.cv (s := ⟨[(0, 0)], [], [], false⟩) (own := []) (ps := [a0 = a0, (0 : Int) = (0 : Int), q2 = q2]) (st' := ⟨[(0, .one (.dat (.sl (.st (.pair .str (.st (.pair (.int .i64) (.pair (.int .i64) (.pair (.sl (.int .i64)) (.sl .bool)))))))) a0)), (3, .one (.all 0)), (4, .one (.dat (.int .i64) (0 : Int)))], [(0, .seq (.st (.pair .str (.st (.pair (.int .i64) (.pair (.int .i64) (.pair (.sl (.int .i64)) (.sl .bool))))))) q2)], 1⟩) hO (fun h => by cases h) (by kernel_rfl) ⟨rfl, rfl, rfl, trivial⟩).ht ?_
  refine HT.loopE (s := ((0 : Int), q2)) (fun (s4 : Int × (List (List UInt8 × Int × Int × List Int × List Bool))) => ⟨[(0, .one (.dat (.sl (.st (.pair .str (.st (.pair (.int .i64) (.pair (.int .i64) (.pair (.sl (.int .i64)) (.sl .bool)))))))) a0)), (3, .one (.all 0)), (4, .one (.dat (.int .i64) s4.1))], [(0, .seq (.st (.pair .str (.st (.pair (.int .i64) (.pair (.int .i64) (.pair (.sl (.int .i64)) (.sl .bool))))))) s4.2)], 1⟩) (fun (r6 : (List (List UInt8 × Int × Int × List Int × List Bool))) => (.exit 0, ⟨[(3, .one (.all 0))], [(0, .seq (.st (.pair .str (.st (.pair (.int .i64) (.pair (.int .i64) (.pair (.sl (.int .i64)) (.sl .bool))))))) r6)], 1⟩)) hL15 ?_ (fun s4 x7 hx8 hk9 => ?_)
  · refine (qBlockX (qThen ?_))
    refine HT.reg1 [2] [⟨none, .no⟩, ⟨none, .no⟩] ⟨[(2, .one (.all 0))], [(0, .seq (.st (.pair .str (.st (.pair (.int .i64) (.pair (.int .i64) (.pair (.sl (.int .i64)) (.sl .bool))))))) r5)], 1⟩ hP hN (by kernel_rfl) allNil ?_
    have hr := of_some hr
    subst hr
    refine (Le.cv (s := ⟨[], [], [], true⟩) (own := []) (ps := [r5 = r5]) (st' := ⟨[(2, .one (.dat (.sl (.st (.pair .str (.st (.pair (.int .i64) (.pair (.int .i64) (.pair (.sl (.int .i64)) (.sl .bool)))))))) r5))], [], 1⟩) hO (fun _ => hF) (by kernel_rfl) ⟨rfl, trivial⟩).ht ?_
    exact HT.ret ⟨[.one (.dat (.sl (.st (.pair .str (.st (.pair (.int .i64) (.pair (.int .i64) (.pair (.sl (.int .i64)) (.sl .bool)))))))) r5)], [], [], by kernel_rfl, by kernel_rfl, rfl, by kernel_rfl, by kernel_rfl, trivial⟩
  · refine HT.seq ?_
    refine HT.reg1 [0, 3, 4, 11] [⟨none, .no⟩, ⟨none, .no⟩, ⟨none, .no⟩, ⟨none, .no⟩] ⟨[(0, .one (.dat (.sl (.st (.pair .str (.st (.pair (.int .i64) (.pair (.int .i64) (.pair (.sl (.int .i64)) (.sl .bool)))))))) a0)), (3, .one (.all 0)), (4, .one (.dat (.int .i64) s4.1)), (11, .one (.dat .bool (decide (s4.1 < (lenI a0)))))], [(0, .seq (.st (.pair .str (.st (.pair (.int .i64) (.pair (.int .i64) (.pair (.sl (.int .i64)) (.sl .bool))))))) s4.2)], 1⟩ hP hN (by kernel_rfl) allNil ?_
    rcases of_bif hx8 with ⟨hb10, hx8⟩ | ⟨hb10, hx8⟩
    · refine HT.cond1 rfl hb10 ?_
      refine HT.skip (qThen ?_)
      refine HT.seq ?_
      refine HT.block ?_
      obtain ⟨hg11, hx8⟩ := of_guard hx8
      obtain ⟨y12, hc13, hx8⟩ := of_bind hx8
      obtain ⟨hg14, hx8⟩ := of_guard hx8
      refine HT.reg (rs := [⟨none, .no⟩, ⟨none, .no⟩, ⟨none, .no⟩, ⟨none, .no⟩, ⟨none, .no⟩, ⟨none, .no⟩, ⟨none, .call [.imm (.st (.pair .str (.st (.pair (.int .i64) (.pair (.int .i64) (.pair (.sl (.int .i64)) (.sl .bool)))))))] [⟨false, (.st (.pair .str (.st (.pair (.int .i64) (.pair (.int .i64) (.pair (.sl (.int .i64)) (.sl .bool))))))), y12⟩] []⟩, ⟨none, .no⟩, ⟨none, .no⟩]) (st' := ⟨[(21, .one (.elp 0 (Int.toNat s4.1) 5 0)), (20, .agg [.dat .str y12.1, .dat (.int .i64) y12.2.1, .dat (.int .i64) y12.2.2.1, .dat (.sl (.int .i64)) y12.2.2.2.1, .dat (.sl .bool) y12.2.2.2.2]), (19, .agg [.dat .str ((List.getD a0 (Int.toNat s4.1) (([] : List UInt8), (0 : Int), (0 : Int), ([] : List Int), ([] : List Bool))).1), .dat (.int .i64) (((List.getD a0 (Int.toNat s4.1) (([] : List UInt8), (0 : Int), (0 : Int), ([] : List Int), ([] : List Bool))).2).1), .dat (.int .i64) ((((List.getD a0 (Int.toNat s4.1) (([] : List UInt8), (0 : Int), (0 : Int), ([] : List Int), ([] : List Bool))).2).2).1), .dat (.sl (.int .i64)) (((((List.getD a0 (Int.toNat s4.1) (([] : List UInt8), (0 : Int), (0 : Int), ([] : List Int), ([] : List Bool))).2).2).2).1), .dat (.sl .bool) (((((List.getD a0 (Int.toNat s4.1) (([] : List UInt8), (0 : Int), (0 : Int), ([] : List Int), ([] : List Bool))).2).2).2).2)]), (18, .one (.ip (.st (.pair .str (.st (.pair (.int .i64) (.pair (.int .i64) (.pair (.sl (.int .i64)) (.sl .bool))))))) (List.getD a0 (Int.toNat s4.1) (([] : List UInt8), (0 : Int), (0 : Int), ([] : List Int), ([] : List Bool))) 0)), (17, .one (.dat (.int .i64) s4.1)), (16, .one (.dat (.sl (.st (.pair .str (.st (.pair (.int .i64) (.pair (.int .i64) (.pair (.sl (.int .i64)) (.sl .bool)))))))) a0)), (15, .one (.dat (.int .i64) s4.1)), (14, .one (.all 0)), (0, .one (.dat (.sl (.st (.pair .str (.st (.pair (.int .i64) (.pair (.int .i64) (.pair (.sl (.int .i64)) (.sl .bool)))))))) a0)), (3, .one (.all 0)), (4, .one (.dat (.int .i64) s4.1)), (11, .one (.dat .bool (decide (s4.1 < (lenI a0)))))], [(0, .seq (.st (.pair .str (.st (.pair (.int .i64) (.pair (.int .i64) (.pair (.sl (.int .i64)) (.sl .bool))))))) (List.set s4.2 (Int.toNat s4.1) (y12.1, y12.2.1, y12.2.2.1, y12.2.2.2.1, y12.2.2.2.2))), (0, .seq (.st (.pair .str (.st (.pair (.int .i64) (.pair (.int .i64) (.pair (.sl (.int .i64)) (.sl .bool))))))) s4.2)], 1⟩) hP hN (by kernel_rfl) (allCons hg11 (allCons (CallOK.frz [true] rfl (f69_ok hc13)) (allCons hg14 (allCons (natLt hg14) allNil)))) (qBlock (qThen ?_))
      have hx8 := of_some hx8
      subst hx8
      refine HT.reg (rs := [⟨none, .no⟩, ⟨none, .no⟩, ⟨none, .no⟩]) (st' := ⟨[(4, .one (.dat (.int .i64) (wadd .i64 s4.1 (1 : Int)))), (13, .one (.dat (.int .i64) (wadd .i64 s4.1 (1 : Int)))), (12, .one (.dat (.int .i64) s4.1)), (21, .one (.elp 0 (Int.toNat s4.1) 5 0)), (20, .agg [.dat .str y12.1, .dat (.int .i64) y12.2.1, .dat (.int .i64) y12.2.2.1, .dat (.sl (.int .i64)) y12.2.2.2.1, .dat (.sl .bool) y12.2.2.2.2]), (19, .agg [.dat .str ((List.getD a0 (Int.toNat s4.1) (([] : List UInt8), (0 : Int), (0 : Int), ([] : List Int), ([] : List Bool))).1), .dat (.int .i64) (((List.getD a0 (Int.toNat s4.1) (([] : List UInt8), (0 : Int), (0 : Int), ([] : List Int), ([] : List Bool))).2).1), .dat (.int .i64) ((((List.getD a0 (Int.toNat s4.1) (([] : List UInt8), (0 : Int), (0 : Int), ([] : List Int), ([] : List Bool))).2).2).1), .dat (.sl (.int .i64)) (((((List.getD a0 (Int.toNat s4.1) (([] : List UInt8), (0 : Int), (0 : Int), ([] : List Int), ([] : List Bool))).2).2).2).1), .dat (.sl .bool) (((((List.getD a0 (Int.toNat s4.1) (([] : List UInt8), (0 : Int), (0 : Int), ([] : List Int), ([] : List Bool))).2).2).2).2)]), (18, .one (.ip (.st (.pair .str (.st (.pair (.int .i64) (.pair (.int .i64) (.pair (.sl (.int .i64)) (.sl .bool))))))) (List.getD a0 (Int.toNat s4.1) (([] : List UInt8), (0 : Int), (0 : Int), ([] : List Int), ([] : List Bool))) 0)), (17, .one (.dat (.int .i64) s4.1)), (16, .one (.dat (.sl (.st (.pair .str (.st (.pair (.int .i64) (.pair (.int .i64) (.pair (.sl (.int .i64)) (.sl .bool)))))))) a0)), (15, .one (.dat (.int .i64) s4.1)), (14, .one (.all 0)), (0, .one (.dat (.sl (.st (.pair .str (.st (.pair (.int .i64) (.pair (.int .i64) (.pair (.sl (.int .i64)) (.sl .bool)))))))) a0)), (3, .one (.all 0)), (4, .one (.dat (.int .i64) s4.1)), (11, .one (.dat .bool (decide (s4.1 < (lenI a0)))))], [(0, .seq (.st (.pair .str (.st (.pair (.int .i64) (.pair (.int .i64) (.pair (.sl (.int .i64)) (.sl .bool))))))) (List.set s4.2 (Int.toNat s4.1) (y12.1, y12.2.1, y12.2.2.1, y12.2.2.2.1, y12.2.2.2.2))), (0, .seq (.st (.pair .str (.st (.pair (.int .i64) (.pair (.int .i64) (.pair (.sl (.int .i64)) (.sl .bool))))))) s4.2)], 1⟩) hP hN (by kernel_rfl) allNil (qLoopN ⟨((wadd .i64 s4.1 (1 : Int)), (List.set s4.2 (Int.toNat s4.1) (y12.1, y12.2.1, y12.2.2.1, y12.2.2.2.1, y12.2.2.2.2))), rfl, Le.cv (s := ⟨[(0, 0)], [], [], false⟩) (own := []) (ps := [a0 = a0, (wadd .i64 s4.1 (1 : Int)) = (wadd .i64 s4.1 (1 : Int)), (List.set s4.2 (Int.toNat s4.1) (y12.1, y12.2.1, y12.2.2.1, y12.2.2.2.1, y12.2.2.2.2)) = (List.set s4.2 (Int.toNat s4.1) (y12.1, y12.2.1, y12.2.2.1, y12.2.2.2.1, y12.2.2.2.2))]) (st' := ⟨[(0, .one (.dat (.sl (.st (.pair .str (.st (.pair (.int .i64) (.pair (.int .i64) (.pair (.sl (.int .i64)) (.sl .bool)))))))) a0)), (3, .one (.all 0)), (4, .one (.dat (.int .i64) (wadd .i64 s4.1 (1 : Int))))], [(0, .seq (.st (.pair .str (.st (.pair (.int .i64) (.pair (.int .i64) (.pair (.sl (.int .i64)) (.sl .bool))))))) (List.set s4.2 (Int.toNat s4.1) (y12.1, y12.2.1, y12.2.2.1, y12.2.2.2.1, y12.2.2.2.2)))], 1⟩) hO (fun h => by cases h) (by kernel_rfl) ⟨rfl, rfl, rfl, trivial⟩⟩)
    · refine HT.cond0 rfl hb10 ?_
      have hx8 := of_some hx8
      subst hx8
      refine (Le.cv (s := ⟨[(0, 0)], [], [], false⟩) (own := []) (ps := [s4.2 = s4.2]) (st' := ⟨[(3, .one (.all 0))], [(0, .seq (.st (.pair .str (.st (.pair (.int .i64) (.pair (.int .i64) (.pair (.sl (.int .i64)) (.sl .bool))))))) s4.2)], 1⟩) hO (fun h => by cases h) (by kernel_rfl) ⟨rfl, trivial⟩).ht ?_
      exact HT.exit (qThenE (qLoopE (hk9 s4.2 rfl)))

noncomputable def spec_l07Name_B1 (a0 : List UInt8) (s1 : Int) : Option ((Int) ⊕ (Unit ⊕ Unit)) :=
  bif (decide (s1 < (lenI a0))) then
    (show Option (Bool) from
      guardP ((0 : Int) ≤ s1 ∧ s1 < lenI a0) (
        bif (decide (((((List.getD a0 (Int.toNat s1) 0 : UInt8).toNat : Nat)) : Int) < (97 : Int))) then
          some true
        else
          some (decide (((((List.getD a0 (Int.toNat s1) 0 : UInt8).toNat : Nat)) : Int) > (122 : Int))))).bind fun v13 =>
    bif v13 then
      some (.inr (.inr ()))
    else
      some (.inl (wadd .i64 s1 (1 : Int)))
  else
    some (.inr (.inl ()))

noncomputable def spec_l07Name (a0 : List UInt8) : Option (Bool) :=
  (rounds (spec_l07Name_B1 a0) (0 : Int)).bind fun r2 => match r2 with
    | .inl r3 =>
      (show Option (Bool) from
        bif (decide ((lenI a0) ≥ (1 : Int))) then
          some (decide ((lenI a0) ≤ (8 : Int)))
        else
          some false).bind fun v4 =>
      some v4
    | .inr r8 =>
      some false

theorem f127_ok {a0 : List UInt8} {r : Bool} (hr : spec_l07Name a0 = some r) : CallOK Try.prog 127 [.imm .str a0] [⟨false, .bool, r⟩] [] := by
  unfold spec_l07Name at hr
  refine CallOK.of_body (ts := [(false, .bool)]) Try.func127 rfl (by kernel_rfl) (Nat.le_of_ble_eq_true (by kernel_rfl)) fun cx hP hN hO hF => ?_
  have hO : cx.own.map Prod.fst = [] := hO
  have hF := hF rfl
  show HT cx ⟨[(0, .one (.dat .str a0))], [], 0⟩ _ _
  refine HT.reg1 [0] [⟨none, .no⟩] ⟨[(0, .one (.dat .str a0))], [], 0⟩ hP hN (by kernel_rfl) allNil ?_
  refine HT.seq ?_
  refine HT.reg1 [0, 3] [⟨none, .no⟩] ⟨[(0, .one (.dat .str a0)), (3, .one (.dat (.int .i64) (0 : Int)))], [], 0⟩ hP hN (by kernel_rfl) allNil ?_
  refine HT.block ?_
  obtain ⟨r2, hL19, hr⟩ := of_bind hr
  refine (Le.cv (s := ⟨[], [], [], false⟩) (own := []) (ps := [a0 = a0, (0 : Int) = (0 : Int)]) (st' := ⟨[(0, .one (.dat .str a0)), (3, .one (.dat (.int .i64) (0 : Int)))], [], 0⟩) hO (fun h => by cases h) (by kernel_rfl) ⟨rfl, rfl, trivial⟩).ht ?_
  refine HT.loopE (s := (0 : Int)) (fun (s1 : Int) => ⟨[(0, .one (.dat .str a0)), (3, .one (.dat (.int .i64) s1))], [], 0⟩) (fun (r2 : Unit ⊕ Unit) => match r2 with | .inl r3 => (.exit 0, ⟨[(0, .one (.dat .str a0))], [], 0⟩) | .inr r8 => (.ret, ⟨[(2, .one (.dat .bool false))], [], 0⟩)) hL19 ?_ (fun s1 x9 hx10 hk11 => ?_)
  · rcases r2 with r3 | r8
    · refine (qBlockX (qThen ?_))
      obtain ⟨v4', hT6, hr⟩ := of_bind hr
      refine HT.join (fun (v4 : Bool) => ⟨[(2, .one (.dat .bool v4))], [], 0⟩) (fun v => v = v4') (fun v4 hv5 => ?_) (fun cont => ?_)
      · subst hv5
        have hr := of_some hr
        subst hr
        exact HT.ret ⟨[.one (.dat .bool v4)], [], [], by kernel_rfl, by kernel_rfl, rfl, by kernel_rfl, by kernel_rfl, trivial⟩
      · rcases of_bif hT6 with ⟨hb7, hT6⟩ | ⟨hb7, hT6⟩
        · refine HT.reg (rs := [⟨none, .no⟩, ⟨none, .no⟩, ⟨none, .no⟩, ⟨none, .no⟩, ⟨some true, .no⟩, ⟨some true, .no⟩, ⟨some true, .no⟩, ⟨none, .tv true⟩, ⟨none, .no⟩]) (st' := ⟨[(2, .one (.dat .bool (decide ((lenI a0) ≤ (8 : Int))))), (27, .one (.dat .bool (decide ((lenI a0) ≤ (8 : Int))))), (26, .one (.dat .bool (decide ((lenI a0) ≤ (8 : Int))))), (25, .one (.dat (.int .i64) (lenI a0))), (24, .one (.dat .str a0)), (23, .one (.dat .bool (decide ((lenI a0) ≥ (1 : Int))))), (22, .one (.dat .bool (decide ((lenI a0) ≥ (1 : Int))))), (21, .one (.dat (.int .i64) (lenI a0))), (20, .one (.dat .str a0)), (0, .one (.dat .str a0))], [], 0⟩) hP hN (by kernel_rfl) (allCons hb7 (allCons hb7 (allCons hb7 (allCons hb7 allNil)))) (qThen ?_)
          exact (Le.cv (s := ⟨[], [], [], false⟩) (own := []) (ps := [(decide ((lenI a0) ≤ (8 : Int))) = (decide ((lenI a0) ≤ (8 : Int)))]) (st' := ⟨[(2, .one (.dat .bool (decide ((lenI a0) ≤ (8 : Int)))))], [], 0⟩) hO (fun h => by cases h) (by kernel_rfl) ⟨rfl, trivial⟩).ht (cont (decide ((lenI a0) ≤ (8 : Int))) (of_some hT6))
        · refine HT.reg (rs := [⟨none, .no⟩, ⟨none, .no⟩, ⟨none, .no⟩, ⟨none, .no⟩, ⟨some false, .no⟩, ⟨some false, .no⟩, ⟨some false, .no⟩, ⟨none, .tv false⟩, ⟨none, .no⟩]) (st' := ⟨[(2, .one (.dat .bool false)), (27, .one (.dat .bool false)), (26, .und), (25, .und), (24, .und), (23, .one (.dat .bool (decide ((lenI a0) ≥ (1 : Int))))), (22, .one (.dat .bool (decide ((lenI a0) ≥ (1 : Int))))), (21, .one (.dat (.int .i64) (lenI a0))), (20, .one (.dat .str a0)), (0, .one (.dat .str a0))], [], 0⟩) hP hN (by kernel_rfl) (allCons hb7 (allCons hb7 (allCons hb7 (allCons hb7 allNil)))) (qThen ?_)
          exact (Le.cv (s := ⟨[], [], [], false⟩) (own := []) (ps := [false = false]) (st' := ⟨[(2, .one (.dat .bool false))], [], 0⟩) hO (fun h => by cases h) (by kernel_rfl) ⟨rfl, trivial⟩).ht (cont false (of_some hT6))
    · have hr := of_some hr
      subst hr
      exact (qBlockR (qThenR ⟨[.one (.dat .bool false)], [], [], by kernel_rfl, by kernel_rfl, rfl, by kernel_rfl, by kernel_rfl, trivial⟩))
  · refine HT.seq ?_
    refine HT.reg1 [0, 3, 7] [⟨none, .no⟩, ⟨none, .no⟩, ⟨none, .no⟩, ⟨none, .no⟩] ⟨[(0, .one (.dat .str a0)), (3, .one (.dat (.int .i64) s1)), (7, .one (.dat .bool (decide (s1 < (lenI a0)))))], [], 0⟩ hP hN (by kernel_rfl) allNil ?_
    rcases of_bif hx10 with ⟨hb12, hx10⟩ | ⟨hb12, hx10⟩
    · refine HT.cond1 rfl hb12 ?_
      refine HT.skip (qThen ?_)
      refine HT.seq ?_
      refine HT.block ?_
      obtain ⟨v13', hT15, hx10⟩ := of_bind hx10
      refine HT.join (fun (v13 : Bool) => ⟨[(0, .one (.dat .str a0)), (3, .one (.dat (.int .i64) s1)), (19, .one (.dat .bool v13))], [], 0⟩) (fun v => v = v13') (fun v13 hv14 => ?_) (fun cont => ?_)
      · subst hv14
        rcases of_bif hx10 with ⟨hb16, hx10⟩ | ⟨hb16, hx10⟩
        · refine HT.cond1 rfl hb16 ?_
          refine HT.reg1 [2] [⟨none, .no⟩] ⟨[(2, .one (.dat .bool false))], [], 0⟩ hP hN (by kernel_rfl) allNil ?_
          have hx10 := of_some hx10
          subst hx10
          refine (Le.cv (s := ⟨[], [], [], false⟩) (own := []) (ps := [false = false]) (st' := ⟨[(2, .one (.dat .bool false))], [], 0⟩) hO (fun h => by cases h) (by kernel_rfl) ⟨rfl, trivial⟩).ht ?_
          exact HT.ret (qBlockR (qThenR (qLoopR (hk11 (.inr ()) rfl))))
        · refine HT.cond0 rfl hb16 ?_
          refine HT.skip (qBlock (qThen ?_))
          have hx10 := of_some hx10
          subst hx10
          refine HT.reg (rs := [⟨none, .no⟩, ⟨none, .no⟩, ⟨none, .no⟩]) (st' := ⟨[(3, .one (.dat (.int .i64) (wadd .i64 s1 (1 : Int)))), (9, .one (.dat (.int .i64) (wadd .i64 s1 (1 : Int)))), (8, .one (.dat (.int .i64) s1)), (0, .one (.dat .str a0)), (3, .one (.dat (.int .i64) s1)), (19, .one (.dat .bool v13))], [], 0⟩) hP hN (by kernel_rfl) allNil (qLoopN ⟨(wadd .i64 s1 (1 : Int)), rfl, Le.cv (s := ⟨[], [], [], false⟩) (own := []) (ps := [a0 = a0, (wadd .i64 s1 (1 : Int)) = (wadd .i64 s1 (1 : Int))]) (st' := ⟨[(0, .one (.dat .str a0)), (3, .one (.dat (.int .i64) (wadd .i64 s1 (1 : Int))))], [], 0⟩) hO (fun h => by cases h) (by kernel_rfl) ⟨rfl, rfl, trivial⟩⟩)
      · obtain ⟨hg17, hT15⟩ := of_guard hT15
        rcases of_bif hT15 with ⟨hb18, hT15⟩ | ⟨hb18, hT15⟩
        · refine HT.reg (rs := [⟨none, .no⟩, ⟨none, .no⟩, ⟨none, .no⟩, ⟨none, .no⟩, ⟨none, .no⟩, ⟨some true, .no⟩, ⟨some true, .no⟩, ⟨some true, .no⟩, ⟨some true, .no⟩, ⟨none, .tv true⟩]) (st' := ⟨[(19, .one (.dat .bool true)), (18, .und), (17, .und), (16, .und), (15, .und), (14, .one (.dat .bool (decide (((((List.getD a0 (Int.toNat s1) 0 : UInt8).toNat : Nat)) : Int) < (97 : Int))))), (13, .one (.dat .bool (decide (((((List.getD a0 (Int.toNat s1) 0 : UInt8).toNat : Nat)) : Int) < (97 : Int))))), (12, .one (.dat (.int .u8) ((((List.getD a0 (Int.toNat s1) 0 : UInt8).toNat : Nat)) : Int))), (11, .one (.dat (.int .i64) s1)), (10, .one (.dat .str a0)), (0, .one (.dat .str a0)), (3, .one (.dat (.int .i64) s1)), (7, .one (.dat .bool (decide (s1 < (lenI a0)))))], [], 0⟩) hP hN (by kernel_rfl) (allCons hg17 (allCons hb18 (allCons hb18 (allCons hb18 (allCons hb18 (allCons hb18 allNil)))))) (qThen ?_)
          exact (Le.cv (s := ⟨[], [], [], false⟩) (own := []) (ps := [a0 = a0, s1 = s1, true = true]) (st' := ⟨[(0, .one (.dat .str a0)), (3, .one (.dat (.int .i64) s1)), (19, .one (.dat .bool true))], [], 0⟩) hO (fun h => by cases h) (by kernel_rfl) ⟨rfl, rfl, rfl, trivial⟩).ht (cont true (of_some hT15))
        · refine HT.reg (rs := [⟨none, .no⟩, ⟨none, .no⟩, ⟨none, .no⟩, ⟨none, .no⟩, ⟨none, .no⟩, ⟨some false, .no⟩, ⟨some false, .no⟩, ⟨some false, .no⟩, ⟨some false, .no⟩, ⟨none, .tv false⟩]) (st' := ⟨[(19, .one (.dat .bool (decide (((((List.getD a0 (Int.toNat s1) 0 : UInt8).toNat : Nat)) : Int) > (122 : Int))))), (18, .one (.dat .bool (decide (((((List.getD a0 (Int.toNat s1) 0 : UInt8).toNat : Nat)) : Int) > (122 : Int))))), (17, .one (.dat (.int .u8) ((((List.getD a0 (Int.toNat s1) 0 : UInt8).toNat : Nat)) : Int))), (16, .one (.dat (.int .i64) s1)), (15, .one (.dat .str a0)), (14, .one (.dat .bool (decide (((((List.getD a0 (Int.toNat s1) 0 : UInt8).toNat : Nat)) : Int) < (97 : Int))))), (13, .one (.dat .bool (decide (((((List.getD a0 (Int.toNat s1) 0 : UInt8).toNat : Nat)) : Int) < (97 : Int))))), (12, .one (.dat (.int .u8) ((((List.getD a0 (Int.toNat s1) 0 : UInt8).toNat : Nat)) : Int))), (11, .one (.dat (.int .i64) s1)), (10, .one (.dat .str a0)), (0, .one (.dat .str a0)), (3, .one (.dat (.int .i64) s1)), (7, .one (.dat .bool (decide (s1 < (lenI a0)))))], [], 0⟩) hP hN (by kernel_rfl) (allCons hg17 (allCons hb18 (allCons hb18 (allCons hb18 (allCons hg17 (allCons hb18 (allCons hb18 allNil))))))) (qThen ?_)
          exact (Le.cv (s := ⟨[], [], [], false⟩) (own := []) (ps := [a0 = a0, s1 = s1, (decide (((((List.getD a0 (Int.toNat s1) 0 : UInt8).toNat : Nat)) : Int) > (122 : Int))) = (decide (((((List.getD a0 (Int.toNat s1) 0 : UInt8).toNat : Nat)) : Int) > (122 : Int)))]) (st' := ⟨[(0, .one (.dat .str a0)), (3, .one (.dat (.int .i64) s1)), (19, .one (.dat .bool (decide (((((List.getD a0 (Int.toNat s1) 0 : UInt8).toNat : Nat)) : Int) > (122 : Int)))))], [], 0⟩) hO (fun h => by cases h) (by kernel_rfl) ⟨rfl, rfl, rfl, trivial⟩).ht (cont (decide (((((List.getD a0 (Int.toNat s1) 0 : UInt8).toNat : Nat)) : Int) > (122 : Int))) (of_some hT15))
    · refine HT.cond0 rfl hb12 ?_
      have hx10 := of_some hx10
      subst hx10
      refine (Le.cv (s := ⟨[], [], [], false⟩) (own := []) (ps := [a0 = a0]) (st' := ⟨[(0, .one (.dat .str a0))], [], 0⟩) hO (fun h => by cases h) (by kernel_rfl) ⟨rfl, trivial⟩).ht ?_
      exact HT.exit (qThenE (qLoopE (hk11 (.inl ()) rfl)))

noncomputable def spec_l00In (a0 : Int) (a1 : Int) (a2 : Int) : Option (Bool) :=
  (show Option (Bool) from
    bif (decide (a0 ≥ a1)) then
      some (decide (a0 ≤ a2))
    else
      some false).bind fun v1 =>
  some v1

theorem f83_ok {a0 : Int} {a1 : Int} {a2 : Int} {r : Bool} (hr : spec_l00In a0 a1 a2 = some r) : CallOK Try.prog 83 [.imm (.int .i64) a0, .imm (.int .i64) a1, .imm (.int .i64) a2] [⟨false, .bool, r⟩] [] := by
  unfold spec_l00In at hr
  refine CallOK.of_body (ts := [(false, .bool)]) Try.func83 rfl (by kernel_rfl) (Nat.le_of_ble_eq_true (by kernel_rfl)) fun cx hP hN hO hF => ?_
  have hO : cx.own.map Prod.fst = [] := hO
  have hF := hF rfl
  show HT cx ⟨[(0, .one (.dat (.int .i64) a0)), (1, .one (.dat (.int .i64) a1)), (2, .one (.dat (.int .i64) a2))], [], 0⟩ _ _
  refine HT.reg1 [0, 1, 2] [⟨none, .no⟩] ⟨[(0, .one (.dat (.int .i64) a0)), (1, .one (.dat (.int .i64) a1)), (2, .one (.dat (.int .i64) a2))], [], 0⟩ hP hN (by kernel_rfl) allNil ?_
  obtain ⟨v1', hT3, hr⟩ := of_bind hr
  refine HT.join (fun (v1 : Bool) => ⟨[(6, .one (.dat .bool v1))], [], 0⟩) (fun v => v = v1') (fun v1 hv2 => ?_) (fun cont => ?_)
  · subst hv2
    have hr := of_some hr
    subst hr
    exact HT.ret ⟨[.one (.dat .bool v1)], [], [], by kernel_rfl, by kernel_rfl, rfl, by kernel_rfl, by kernel_rfl, trivial⟩
  · rcases of_bif hT3 with ⟨hb4, hT3⟩ | ⟨hb4, hT3⟩
    · refine HT.reg (rs := [⟨none, .no⟩, ⟨none, .no⟩, ⟨none, .no⟩, ⟨none, .no⟩, ⟨some true, .no⟩, ⟨some true, .no⟩, ⟨some true, .no⟩, ⟨none, .tv true⟩, ⟨none, .no⟩]) (st' := ⟨[(6, .one (.dat .bool (decide (a0 ≤ a2)))), (14, .one (.dat .bool (decide (a0 ≤ a2)))), (13, .one (.dat .bool (decide (a0 ≤ a2)))), (12, .one (.dat (.int .i64) a2)), (11, .one (.dat (.int .i64) a0)), (10, .one (.dat .bool (decide (a0 ≥ a1)))), (9, .one (.dat .bool (decide (a0 ≥ a1)))), (8, .one (.dat (.int .i64) a1)), (7, .one (.dat (.int .i64) a0)), (0, .one (.dat (.int .i64) a0)), (1, .one (.dat (.int .i64) a1)), (2, .one (.dat (.int .i64) a2))], [], 0⟩) hP hN (by kernel_rfl) (allCons hb4 (allCons hb4 (allCons hb4 (allCons hb4 allNil)))) (qThen ?_)
      exact (Le.cv (s := ⟨[], [], [], false⟩) (own := []) (ps := [(decide (a0 ≤ a2)) = (decide (a0 ≤ a2))]) (st' := ⟨[(6, .one (.dat .bool (decide (a0 ≤ a2))))], [], 0⟩) hO (fun h => by cases h) (by kernel_rfl) ⟨rfl, trivial⟩).ht (cont (decide (a0 ≤ a2)) (of_some hT3))
    · refine HT.reg (rs := [⟨none, .no⟩, ⟨none, .no⟩, ⟨none, .no⟩, ⟨none, .no⟩, ⟨some false, .no⟩, ⟨some false, .no⟩, ⟨some false, .no⟩, ⟨none, .tv false⟩, ⟨none, .no⟩]) (st' := ⟨[(6, .one (.dat .bool false)), (14, .one (.dat .bool false)), (13, .und), (12, .und), (11, .und), (10, .one (.dat .bool (decide (a0 ≥ a1)))), (9, .one (.dat .bool (decide (a0 ≥ a1)))), (8, .one (.dat (.int .i64) a1)), (7, .one (.dat (.int .i64) a0)), (0, .one (.dat (.int .i64) a0)), (1, .one (.dat (.int .i64) a1)), (2, .one (.dat (.int .i64) a2))], [], 0⟩) hP hN (by kernel_rfl) (allCons hb4 (allCons hb4 (allCons hb4 (allCons hb4 allNil)))) (qThen ?_)
      exact (Le.cv (s := ⟨[], [], [], false⟩) (own := []) (ps := [false = false]) (st' := ⟨[(6, .one (.dat .bool false))], [], 0⟩) hO (fun h => by cases h) (by kernel_rfl) ⟨rfl, trivial⟩).ht (cont false (of_some hT3))

noncomputable def spec_l02Plain_B1 (a0 : Int × Int × List Int × List Bool) (s5 : Int) : Option ((Int) ⊕ (Unit ⊕ Unit)) :=
  bif (decide (s5 < (lenI a0.2.2.1))) then
    guardP ((0 : Int) ≤ s5 ∧ s5 < lenI a0.2.2.1) (
      (spec_l00In (List.getD a0.2.2.1 (Int.toNat s5) (0 : Int)) (0 : Int) (wsub .i64 a0.1 (1 : Int))).bind fun y14 =>
      bif (!y14) then
        some (.inr (.inr ()))
      else
        some (.inl (wadd .i64 s5 (1 : Int))))
  else
    some (.inr (.inl ()))

noncomputable def spec_l02Plain (a0 : Int × Int × List Int × List Bool) : Option (Bool) :=
  (show Option (Bool) from
    (spec_l00In a0.1 (1 : Int) (64 : Int)).bind fun y18 =>
    bif (!y18) then
      some true
    else
      (spec_l00In a0.2.1 (1 : Int) (4 : Int)).bind fun y21 =>
      bif (!y21) then
        some true
      else
        bif ((lenI a0.2.2.1) != (wmul .i64 a0.1 a0.2.1)) then
          some true
        else
          some ((lenI a0.2.2.2) != a0.1)).bind fun v1 =>
  bif v1 then
    some false
  else
    (rounds (spec_l02Plain_B1 a0) (0 : Int)).bind fun r6 => match r6 with
      | .inl r7 =>
        some true
      | .inr r8 =>
        some false

theorem f128_ok {a0 : Int × Int × List Int × List Bool} {r : Bool} (hr : spec_l02Plain a0 = some r) : CallOK Try.prog 128 [.pimm (.st (.pair (.int .i64) (.pair (.int .i64) (.pair (.sl (.int .i64)) (.sl .bool))))) a0] [⟨false, .bool, r⟩] [] := by
  unfold spec_l02Plain at hr
  refine CallOK.of_body (ts := [(false, .bool)]) Try.func128 rfl (by kernel_rfl) (Nat.le_of_ble_eq_true (by kernel_rfl)) fun cx hP hN hO hF => ?_
  have hO : cx.own.map Prod.fst = [] := hO
  have hF := hF rfl
  show HT cx ⟨[(0, .one (.ip (.st (.pair (.int .i64) (.pair (.int .i64) (.pair (.sl (.int .i64)) (.sl .bool))))) a0 0))], [], 0⟩ _ _
  refine HT.reg1 [0] [⟨none, .no⟩] ⟨[(0, .one (.ip (.st (.pair (.int .i64) (.pair (.int .i64) (.pair (.sl (.int .i64)) (.sl .bool))))) a0 0))], [], 0⟩ hP hN (by kernel_rfl) allNil ?_
  refine HT.seq ?_
  obtain ⟨v1', hT3, hr⟩ := of_bind hr
  refine HT.join (fun (v1 : Bool) => ⟨[(0, .one (.ip (.st (.pair (.int .i64) (.pair (.int .i64) (.pair (.sl (.int .i64)) (.sl .bool))))) a0 0)), (46, .one (.dat .bool v1))], [], 0⟩) (fun v => v = v1') (fun v1 hv2 => ?_) (fun cont => ?_)
  · subst hv2
    rcases of_bif hr with ⟨hb4, hr⟩ | ⟨hb4, hr⟩
    · refine HT.cond1 rfl hb4 ?_
      refine HT.reg1 [2] [⟨none, .no⟩] ⟨[(2, .one (.dat .bool false))], [], 0⟩ hP hN (by kernel_rfl) allNil ?_
      have hr := of_some hr
      subst hr
      exact HT.ret (qThenR ⟨[.one (.dat .bool false)], [], [], by kernel_rfl, by kernel_rfl, rfl, by kernel_rfl, by kernel_rfl, trivial⟩)
    · refine HT.cond0 rfl hb4 ?_
      refine HT.skip (qThen ?_)
      refine HT.seq ?_
      refine HT.reg1 [0, 3] [⟨none, .no⟩] ⟨[(0, .one (.ip (.st (.pair (.int .i64) (.pair (.int .i64) (.pair (.sl (.int .i64)) (.sl .bool))))) a0 0)), (3, .one (.dat (.int .i64) (0 : Int)))], [], 0⟩ hP hN (by kernel_rfl) allNil ?_
      refine HT.block ?_
      obtain ⟨r6, hL17, hr⟩ := of_bind hr
      refine (Le.cv (s := ⟨[], [], [], false⟩) (own := []) (ps := [a0 = a0, (0 : Int) = (0 : Int)]) (st' := ⟨[(0, .one (.ip (.st (.pair (.int .i64) (.pair (.int .i64) (.pair (.sl (.int .i64)) (.sl .bool))))) a0 0)), (3, .one (.dat (.int .i64) (0 : Int)))], [], 0⟩) hO (fun h => by cases h) (by kernel_rfl) ⟨rfl, rfl, trivial⟩).ht ?_
      refine HT.loopE (s := (0 : Int)) (fun (s5 : Int) => ⟨[(0, .one (.ip (.st (.pair (.int .i64) (.pair (.int .i64) (.pair (.sl (.int .i64)) (.sl .bool))))) a0 0)), (3, .one (.dat (.int .i64) s5))], [], 0⟩) (fun (r6 : Unit ⊕ Unit) => match r6 with | .inl r7 => (.exit 0, ⟨[], [], 0⟩) | .inr r8 => (.ret, ⟨[(2, .one (.dat .bool false))], [], 0⟩)) hL17 ?_ (fun s5 x9 hx10 hk11 => ?_)
      · rcases r6 with r7 | r8
        · refine (qBlockX (qThen ?_))
          refine HT.reg1 [2] [⟨none, .no⟩] ⟨[(2, .one (.dat .bool true))], [], 0⟩ hP hN (by kernel_rfl) allNil ?_
          have hr := of_some hr
          subst hr
          exact HT.ret ⟨[.one (.dat .bool true)], [], [], by kernel_rfl, by kernel_rfl, rfl, by kernel_rfl, by kernel_rfl, trivial⟩
        · have hr := of_some hr
          subst hr
          exact (qBlockR (qThenR ⟨[.one (.dat .bool false)], [], [], by kernel_rfl, by kernel_rfl, rfl, by kernel_rfl, by kernel_rfl, trivial⟩))
      · refine HT.seq ?_
        refine HT.reg1 [0, 3, 53] [⟨none, .no⟩, ⟨none, .no⟩, ⟨none, .no⟩, ⟨none, .no⟩, ⟨none, .no⟩, ⟨none, .no⟩, ⟨none, .no⟩] ⟨[(0, .one (.ip (.st (.pair (.int .i64) (.pair (.int .i64) (.pair (.sl (.int .i64)) (.sl .bool))))) a0 0)), (3, .one (.dat (.int .i64) s5)), (53, .one (.dat .bool (decide (s5 < (lenI a0.2.2.1)))))], [], 0⟩ hP hN (by kernel_rfl) allNil ?_
        rcases of_bif hx10 with ⟨hb12, hx10⟩ | ⟨hb12, hx10⟩
        · refine HT.cond1 rfl hb12 ?_
          refine HT.skip (qThen ?_)
          refine HT.seq ?_
          refine HT.block ?_
          obtain ⟨hg13, hx10⟩ := of_guard hx10
          obtain ⟨y14, hc15, hx10⟩ := of_bind hx10
          refine HT.drw1 [0, 3, 69] 12 [⟨⟨none, .no⟩, []⟩, ⟨⟨none, .no⟩, [0]⟩, ⟨⟨none, .no⟩, [0, 1]⟩, ⟨⟨none, .no⟩, [0, 1, 2]⟩, ⟨⟨none, .no⟩, []⟩, ⟨⟨none, .no⟩, [0, 1, 2, 3, 4]⟩, ⟨⟨none, .no⟩, [0, 1, 2, 3, 4, 5]⟩, ⟨⟨none, .no⟩, []⟩, ⟨⟨none, .no⟩, [7]⟩, ⟨⟨none, .no⟩, [7, 8]⟩, ⟨⟨none, .no⟩, [7, 8, 9]⟩, ⟨⟨none, .no⟩, [7, 8, 9, 10]⟩] [[0, 1, 2, 3, 4, 5, 6, 7, 8, 9, 10, 11], [0, 1, 2, 3, 4, 5, 6, 7, 8, 9, 10, 11, 12]] [⟨none, .call [.imm (.int .i64), .imm (.int .i64), .imm (.int .i64)] [⟨false, .bool, y14⟩] []⟩, ⟨none, .no⟩] ⟨[(0, .one (.ip (.st (.pair (.int .i64) (.pair (.int .i64) (.pair (.sl (.int .i64)) (.sl .bool))))) a0 0)), (3, .one (.dat (.int .i64) s5)), (69, .one (.dat .bool (!y14)))], [], 0⟩ hP hN (by kernel_rfl) (by kernel_rfl) (allCons hg13 (allCons (f83_ok hc15) allNil)) ?_
          rcases of_bif hx10 with ⟨hb16, hx10⟩ | ⟨hb16, hx10⟩
          · refine HT.cond1 rfl hb16 ?_
            refine HT.reg1 [2] [⟨none, .no⟩] ⟨[(2, .one (.dat .bool false))], [], 0⟩ hP hN (by kernel_rfl) allNil ?_
            have hx10 := of_some hx10
            subst hx10
            refine (Le.cv (s := ⟨[], [], [], false⟩) (own := []) (ps := [false = false]) (st' := ⟨[(2, .one (.dat .bool false))], [], 0⟩) hO (fun h => by cases h) (by kernel_rfl) ⟨rfl, trivial⟩).ht ?_
            exact HT.ret (qBlockR (qThenR (qLoopR (hk11 (.inr ()) rfl))))
          · refine HT.cond0 rfl hb16 ?_
            refine HT.skip (qBlock (qThen ?_))
            have hx10 := of_some hx10
            subst hx10
            refine HT.reg (rs := [⟨none, .no⟩, ⟨none, .no⟩, ⟨none, .no⟩]) (st' := ⟨[(3, .one (.dat (.int .i64) (wadd .i64 s5 (1 : Int)))), (55, .one (.dat (.int .i64) (wadd .i64 s5 (1 : Int)))), (54, .one (.dat (.int .i64) s5)), (0, .one (.ip (.st (.pair (.int .i64) (.pair (.int .i64) (.pair (.sl (.int .i64)) (.sl .bool))))) a0 0)), (3, .one (.dat (.int .i64) s5)), (69, .one (.dat .bool (!y14)))], [], 0⟩) hP hN (by kernel_rfl) allNil (qLoopN ⟨(wadd .i64 s5 (1 : Int)), rfl, Le.cv (s := ⟨[], [], [], false⟩) (own := []) (ps := [a0 = a0, (wadd .i64 s5 (1 : Int)) = (wadd .i64 s5 (1 : Int))]) (st' := ⟨[(0, .one (.ip (.st (.pair (.int .i64) (.pair (.int .i64) (.pair (.sl (.int .i64)) (.sl .bool))))) a0 0)), (3, .one (.dat (.int .i64) (wadd .i64 s5 (1 : Int))))], [], 0⟩) hO (fun h => by cases h) (by kernel_rfl) ⟨rfl, rfl, trivial⟩⟩)
        · refine HT.cond0 rfl hb12 ?_
          have hx10 := of_some hx10
          subst hx10
          refine (Le.cv (s := ⟨[], [], [], false⟩) (own := []) (ps := []) (st' := ⟨[], [], 0⟩) hO (fun h => by cases h) (by kernel_rfl) trivial).ht ?_
          exact HT.exit (qThenE (qLoopE (hk11 (.inl ()) rfl)))
  · obtain ⟨y18, hc19, hT3⟩ := of_bind hT3
    rcases of_bif hT3 with ⟨hb20, hT3⟩ | ⟨hb20, hT3⟩
    · refine drawS (h := 41) (hrs := [⟨⟨none, .no⟩, []⟩, ⟨⟨none, .no⟩, [0]⟩, ⟨⟨none, .no⟩, [0, 1]⟩, ⟨⟨none, .no⟩, [0, 1, 2]⟩, ⟨⟨none, .call [.imm (.int .i64), .imm (.int .i64), .imm (.int .i64)] [⟨false, .bool, y18⟩] []⟩, [0, 1, 2, 3]⟩, ⟨⟨none, .no⟩, [0, 1, 2, 3, 4]⟩, ⟨⟨none, .no⟩, [0, 1, 2, 3, 4, 5]⟩, ⟨⟨some true, .no⟩, [0, 1, 2, 3, 4, 5, 6]⟩, ⟨⟨some true, .no⟩, [0, 1, 2, 3, 4, 5, 6, 7]⟩, ⟨⟨some true, .no⟩, [0, 1, 2, 3, 4, 5, 6, 7, 8]⟩, ⟨⟨some true, .no⟩, [0, 1, 2, 3, 4, 5, 6, 7, 8, 9]⟩, ⟨⟨some true, .no⟩, [0, 1, 2, 3, 4, 5, 6, 7, 8, 9, 10]⟩, ⟨⟨some true, .no⟩, [0, 1, 2, 3, 4, 5, 6, 7, 8, 9, 10, 11]⟩, ⟨⟨none, .tv true⟩, [0, 1, 2, 3, 4, 5, 6, 7, 8, 9, 10, 11, 12]⟩, ⟨⟨none, .no⟩, [0, 1, 2, 3, 4, 5, 6, 7, 8, 9, 10, 11, 12, 13]⟩, ⟨⟨some true, .no⟩, [0, 1, 2, 3, 4, 5, 6, 7, 8, 9, 10, 11, 12, 13, 14]⟩, ⟨⟨some true, .no⟩, [0, 1, 2, 3, 4, 5, 6, 7, 8, 9, 10, 11, 12, 13, 14, 15]⟩, ⟨⟨some true, .no⟩, [0, 1, 2, 3, 4, 5, 6, 7, 8, 9, 10, 11, 12, 13, 14, 15, 16]⟩, ⟨⟨some true, .no⟩, [0, 1, 2, 3, 4, 5, 6, 7, 8, 9, 10, 11, 12, 13, 14, 15, 16, 17]⟩, ⟨⟨some true, .no⟩, [0, 1, 2, 3, 4, 5, 6, 7, 8, 9, 10, 11, 12, 13, 14, 15, 16, 17, 18]⟩, ⟨⟨some true, .no⟩, [0, 1, 2, 3, 4, 5, 6, 7, 8, 9, 10, 11, 12, 13, 14]⟩, ⟨⟨some true, .no⟩, [0, 1, 2, 3, 4, 5, 6, 7, 8, 9, 10, 11, 12, 13, 14, 20]⟩, ⟨⟨some true, .no⟩, [0, 1, 2, 3, 4, 5, 6, 7, 8, 9, 10, 11, 12, 13, 14, 20, 21]⟩, ⟨⟨some true, .no⟩, [0, 1, 2, 3, 4, 5, 6, 7, 8, 9, 10, 11, 12, 13, 14, 20, 21, 22]⟩, ⟨⟨some true, .no⟩, [0, 1, 2, 3, 4, 5, 6, 7, 8, 9, 10, 11, 12, 13, 14]⟩, ⟨⟨some true, .no⟩, [0, 1, 2, 3, 4, 5, 6, 7, 8, 9, 10, 11, 12, 13, 14, 24]⟩, ⟨⟨some true, .no⟩, [0, 1, 2, 3, 4, 5, 6, 7, 8, 9, 10, 11, 12, 13, 14, 24, 25]⟩, ⟨⟨some true, .no⟩, [0, 1, 2, 3, 4, 5, 6, 7, 8, 9, 10, 11, 12, 13, 14, 24, 25, 26]⟩, ⟨⟨some true, .no⟩, [0, 1, 2, 3, 4, 5, 6, 7, 8, 9, 10, 11, 12, 13, 14, 20, 21, 22, 23, 24, 25, 26, 27]⟩, ⟨⟨some true, .no⟩, [0, 1, 2, 3, 4, 5, 6, 7, 8, 9, 10, 11, 12, 13, 14, 15, 16, 17, 18, 19, 20, 21, 22, 23, 24, 25, 26, 27, 28]⟩, ⟨⟨none, .tv true⟩, [0, 1, 2, 3, 4, 5, 6, 7, 8, 9, 10, 11, 12, 13, 14, 15, 16, 17, 18, 19, 20, 21, 22, 23, 24, 25, 26, 27, 28, 29]⟩, ⟨⟨none, .no⟩, [0, 1, 2, 3, 4, 5, 6, 7, 8, 9, 10, 11, 12, 13, 14, 15, 16, 17, 18, 19, 20, 21, 22, 23, 24, 25, 26, 27, 28, 29, 30]⟩, ⟨⟨some true, .no⟩, [0, 1, 2, 3, 4, 5, 6, 7, 8, 9, 10, 11, 12, 13, 14, 15, 16, 17, 18, 19, 20, 21, 22, 23, 24, 25, 26, 27, 28, 29, 30, 31]⟩, ⟨⟨some true, .no⟩, [0, 1, 2, 3, 4, 5, 6, 7, 8, 9, 10, 11, 12, 13, 14, 15, 16, 17, 18, 19, 20, 21, 22, 23, 24, 25, 26, 27, 28, 29, 30, 31, 32]⟩, ⟨⟨some true, .no⟩, [0, 1, 2, 3, 4, 5, 6, 7, 8, 9, 10, 11, 12, 13, 14, 15, 16, 17, 18, 19, 20, 21, 22, 23, 24, 25, 26, 27, 28, 29, 30, 31, 32, 33]⟩, ⟨⟨some true, .no⟩, [0, 1, 2, 3, 4, 5, 6, 7, 8, 9, 10, 11, 12, 13, 14, 15, 16, 17, 18, 19, 20, 21, 22, 23, 24, 25, 26, 27, 28, 29, 30, 31, 32, 33, 34]⟩, ⟨⟨some true, .no⟩, [0, 1, 2, 3, 4, 5, 6, 7, 8, 9, 10, 11, 12, 13, 14, 15, 16, 17, 18, 19, 20, 21, 22, 23, 24, 25, 26, 27, 28, 29, 30, 31, 32, 33, 34, 35]⟩, ⟨⟨some true, .no⟩, [0, 1, 2, 3, 4, 5, 6, 7, 8, 9, 10, 11, 12, 13, 14, 15, 16, 17, 18, 19, 20, 21, 22, 23, 24, 25, 26, 27, 28, 29, 30, 31]⟩, ⟨⟨some true, .no⟩, [0, 1, 2, 3, 4, 5, 6, 7, 8, 9, 10, 11, 12, 13, 14, 15, 16, 17, 18, 19, 20, 21, 22, 23, 24, 25, 26, 27, 28, 29, 30, 31, 37]⟩, ⟨⟨some true, .no⟩, [0, 1, 2, 3, 4, 5, 6, 7, 8, 9, 10, 11, 12, 13, 14, 15, 16, 17, 18, 19, 20, 21, 22, 23, 24, 25, 26, 27, 28, 29, 30, 31, 37, 38]⟩, ⟨⟨some true, .no⟩, [0, 1, 2, 3, 4, 5, 6, 7, 8, 9, 10, 11, 12, 13, 14, 15, 16, 17, 18, 19, 20, 21, 22, 23, 24, 25, 26, 27, 28, 29, 30, 31, 37, 38, 39]⟩]) (tds := [[0, 1, 2, 3, 4, 5, 6, 7, 8, 9, 10, 11, 12, 13, 14, 15, 16, 17, 18, 19, 20, 21, 22, 23, 24, 25, 26, 27, 28, 29, 30, 31, 32, 33, 34, 35, 36, 37, 38, 39, 40], [0, 1, 2, 3, 4, 5, 6, 7, 8, 9, 10, 11, 12, 13, 14, 15, 16, 17, 18, 19, 20, 21, 22, 23, 24, 25, 26, 27, 28, 29, 30, 31, 32, 33, 34, 35, 36, 37, 38, 39, 40, 41]]) (rs := [⟨some true, .no⟩, ⟨none, .tv true⟩]) (st' := ⟨[(46, .one (.dat .bool true)), (45, .und), (44, .und), (43, .und), (42, .und), (41, .und), (40, .und), (39, .und), (38, .und), (37, .und), (36, .und), (35, .one (.dat .bool true)), (34, .one (.dat .bool true)), (33, .und), (32, .und), (31, .und), (30, .und), (29, .und), (28, .und), (27, .und), (26, .und), (25, .und), (24, .und), (23, .und), (22, .und), (21, .und), (20, .und), (19, .und), (18, .one (.dat .bool true)), (17, .one (.dat .bool true)), (16, .und), (15, .und), (14, .und), (13, .und), (12, .und), (11, .und), (10, .one (.dat .bool (!y18))), (9, .one (.dat .bool (!y18))), (8, .one (.dat .bool y18)), (7, .one (.dat (.int .i64) a0.1)), (6, .one (.ip (.st (.pair (.int .i64) (.pair (.int .i64) (.pair (.sl (.int .i64)) (.sl .bool))))) a0 0)), (5, .one (.ip (.st (.pair (.int .i64) (.pair (.int .i64) (.pair (.sl (.int .i64)) (.sl .bool))))) a0 0)), (4, .one (.ip (.st (.pair (.int .i64) (.pair (.int .i64) (.pair (.sl (.int .i64)) (.sl .bool))))) a0 0)), (0, .one (.ip (.st (.pair (.int .i64) (.pair (.int .i64) (.pair (.sl (.int .i64)) (.sl .bool))))) a0 0))], [], 0⟩) hP hN (by kernel_rfl) (by kernel_rfl) (allCons (f83_ok hc19) (allCons hb20 (allCons hb20 (allCons hb20 (allCons hb20 (allCons hb20 (allCons hb20 (allCons hb20 (allCons (rfl : true = true) (allCons (rfl : true = true) (allCons (rfl : true = true) (allCons (rfl : true = true) (allCons (rfl : true = true) (allCons (rfl : true = true) (allCons (rfl : true = true) (allCons (rfl : true = true) (allCons (rfl : true = true) (allCons (rfl : true = true) (allCons (rfl : true = true) (allCons (rfl : true = true) (allCons (rfl : true = true) (allCons (rfl : true = true) (allCons (rfl : true = true) (allCons (rfl : true = true) (allCons (rfl : true = true) (allCons (rfl : true = true) (allCons (rfl : true = true) (allCons (rfl : true = true) (allCons (rfl : true = true) (allCons (rfl : true = true) (allCons (rfl : true = true) (allCons (rfl : true = true) (allCons (rfl : true = true) (allCons (rfl : true = true) (allCons (rfl : true = true) allNil))))))))))))))))))))))))))))))))))) (qThen ?_)
      exact (Le.cv (s := ⟨[], [], [], false⟩) (own := []) (ps := [a0 = a0, true = true]) (st' := ⟨[(0, .one (.ip (.st (.pair (.int .i64) (.pair (.int .i64) (.pair (.sl (.int .i64)) (.sl .bool))))) a0 0)), (46, .one (.dat .bool true))], [], 0⟩) hO (fun h => by cases h) (by kernel_rfl) ⟨rfl, rfl, trivial⟩).ht (cont true (of_some hT3))
    · obtain ⟨y21, hc22, hT3⟩ := of_bind hT3
      rcases of_bif hT3 with ⟨hb23, hT3⟩ | ⟨hb23, hT3⟩
      · refine drawS (h := 41) (hrs := [⟨⟨none, .no⟩, []⟩, ⟨⟨none, .no⟩, [0]⟩, ⟨⟨none, .no⟩, [0, 1]⟩, ⟨⟨none, .no⟩, [0, 1, 2]⟩, ⟨⟨none, .call [.imm (.int .i64), .imm (.int .i64), .imm (.int .i64)] [⟨false, .bool, y18⟩] []⟩, [0, 1, 2, 3]⟩, ⟨⟨none, .no⟩, [0, 1, 2, 3, 4]⟩, ⟨⟨none, .no⟩, [0, 1, 2, 3, 4, 5]⟩, ⟨⟨some false, .no⟩, [0, 1, 2, 3, 4, 5, 6]⟩, ⟨⟨some false, .no⟩, [0, 1, 2, 3, 4, 5, 6, 7]⟩, ⟨⟨some false, .no⟩, [0, 1, 2, 3, 4, 5, 6, 7, 8]⟩, ⟨⟨some false, .no⟩, [0, 1, 2, 3, 4, 5, 6, 7, 8, 9]⟩, ⟨⟨some false, .call [.imm (.int .i64), .imm (.int .i64), .imm (.int .i64)] [⟨false, .bool, y21⟩] []⟩, [0, 1, 2, 3, 4, 5, 6, 7, 8, 9, 10]⟩, ⟨⟨some false, .no⟩, [0, 1, 2, 3, 4, 5, 6, 7, 8, 9, 10, 11]⟩, ⟨⟨none, .tv false⟩, [0, 1, 2, 3, 4, 5, 6, 7, 8, 9, 10, 11, 12]⟩, ⟨⟨none, .no⟩, [0, 1, 2, 3, 4, 5, 6, 7, 8, 9, 10, 11, 12, 13]⟩, ⟨⟨some true, .no⟩, [0, 1, 2, 3, 4, 5, 6, 7, 8, 9, 10, 11, 12, 13, 14]⟩, ⟨⟨some true, .no⟩, [0, 1, 2, 3, 4, 5, 6, 7, 8, 9, 10, 11, 12, 13, 14, 15]⟩, ⟨⟨some true, .no⟩, [0, 1, 2, 3, 4, 5, 6, 7, 8, 9, 10, 11, 12, 13, 14, 15, 16]⟩, ⟨⟨some true, .no⟩, [0, 1, 2, 3, 4, 5, 6, 7, 8, 9, 10, 11, 12, 13, 14, 15, 16, 17]⟩, ⟨⟨some true, .no⟩, [0, 1, 2, 3, 4, 5, 6, 7, 8, 9, 10, 11, 12, 13, 14, 15, 16, 17, 18]⟩, ⟨⟨some true, .no⟩, [0, 1, 2, 3, 4, 5, 6, 7, 8, 9, 10, 11, 12, 13, 14]⟩, ⟨⟨some true, .no⟩, [0, 1, 2, 3, 4, 5, 6, 7, 8, 9, 10, 11, 12, 13, 14, 20]⟩, ⟨⟨some true, .no⟩, [0, 1, 2, 3, 4, 5, 6, 7, 8, 9, 10, 11, 12, 13, 14, 20, 21]⟩, ⟨⟨some true, .no⟩, [0, 1, 2, 3, 4, 5, 6, 7, 8, 9, 10, 11, 12, 13, 14, 20, 21, 22]⟩, ⟨⟨some true, .no⟩, [0, 1, 2, 3, 4, 5, 6, 7, 8, 9, 10, 11, 12, 13, 14]⟩, ⟨⟨some true, .no⟩, [0, 1, 2, 3, 4, 5, 6, 7, 8, 9, 10, 11, 12, 13, 14, 24]⟩, ⟨⟨some true, .no⟩, [0, 1, 2, 3, 4, 5, 6, 7, 8, 9, 10, 11, 12, 13, 14, 24, 25]⟩, ⟨⟨some true, .no⟩, [0, 1, 2, 3, 4, 5, 6, 7, 8, 9, 10, 11, 12, 13, 14, 24, 25, 26]⟩, ⟨⟨some true, .no⟩, [0, 1, 2, 3, 4, 5, 6, 7, 8, 9, 10, 11, 12, 13, 14, 20, 21, 22, 23, 24, 25, 26, 27]⟩, ⟨⟨some true, .no⟩, [0, 1, 2, 3, 4, 5, 6, 7, 8, 9, 10, 11, 12, 13, 14, 15, 16, 17, 18, 19, 20, 21, 22, 23, 24, 25, 26, 27, 28]⟩, ⟨⟨none, .tv true⟩, [0, 1, 2, 3, 4, 5, 6, 7, 8, 9, 10, 11, 12, 13, 14, 15, 16, 17, 18, 19, 20, 21, 22, 23, 24, 25, 26, 27, 28, 29]⟩, ⟨⟨none, .no⟩, [0, 1, 2, 3, 4, 5, 6, 7, 8, 9, 10, 11, 12, 13, 14, 15, 16, 17, 18, 19, 20, 21, 22, 23, 24, 25, 26, 27, 28, 29, 30]⟩, ⟨⟨some true, .no⟩, [0, 1, 2, 3, 4, 5, 6, 7, 8, 9, 10, 11, 12, 13, 14, 15, 16, 17, 18, 19, 20, 21, 22, 23, 24, 25, 26, 27, 28, 29, 30, 31]⟩, ⟨⟨some true, .no⟩, [0, 1, 2, 3, 4, 5, 6, 7, 8, 9, 10, 11, 12, 13, 14, 15, 16, 17, 18, 19, 20, 21, 22, 23, 24, 25, 26, 27, 28, 29, 30, 31, 32]⟩, ⟨⟨some true, .no⟩, [0, 1, 2, 3, 4, 5, 6, 7, 8, 9, 10, 11, 12, 13, 14, 15, 16, 17, 18, 19, 20, 21, 22, 23, 24, 25, 26, 27, 28, 29, 30, 31, 32, 33]⟩, ⟨⟨some true, .no⟩, [0, 1, 2, 3, 4, 5, 6, 7, 8, 9, 10, 11, 12, 13, 14, 15, 16, 17, 18, 19, 20, 21, 22, 23, 24, 25, 26, 27, 28, 29, 30, 31, 32, 33, 34]⟩, ⟨⟨some true, .no⟩, [0, 1, 2, 3, 4, 5, 6, 7, 8, 9, 10, 11, 12, 13, 14, 15, 16, 17, 18, 19, 20, 21, 22, 23, 24, 25, 26, 27, 28, 29, 30, 31, 32, 33, 34, 35]⟩, ⟨⟨some true, .no⟩, [0, 1, 2, 3, 4, 5, 6, 7, 8, 9, 10, 11, 12, 13, 14, 15, 16, 17, 18, 19, 20, 21, 22, 23, 24, 25, 26, 27, 28, 29, 30, 31]⟩, ⟨⟨some true, .no⟩, [0, 1, 2, 3, 4, 5, 6, 7, 8, 9, 10, 11, 12, 13, 14, 15, 16, 17, 18, 19, 20, 21, 22, 23, 24, 25, 26, 27, 28, 29, 30, 31, 37]⟩, ⟨⟨some true, .no⟩, [0, 1, 2, 3, 4, 5, 6, 7, 8, 9, 10, 11, 12, 13, 14, 15, 16, 17, 18, 19, 20, 21, 22, 23, 24, 25, 26, 27, 28, 29, 30, 31, 37, 38]⟩, ⟨⟨some true, .no⟩, [0, 1, 2, 3, 4, 5, 6, 7, 8, 9, 10, 11, 12, 13, 14, 15, 16, 17, 18, 19, 20, 21, 22, 23, 24, 25, 26, 27, 28, 29, 30, 31, 37, 38, 39]⟩]) (tds := [[0, 1, 2, 3, 4, 5, 6, 7, 8, 9, 10, 11, 12, 13, 14, 15, 16, 17, 18, 19, 20, 21, 22, 23, 24, 25, 26, 27, 28, 29, 30, 31, 32, 33, 34, 35, 36, 37, 38, 39, 40], [0, 1, 2, 3, 4, 5, 6, 7, 8, 9, 10, 11, 12, 13, 14, 15, 16, 17, 18, 19, 20, 21, 22, 23, 24, 25, 26, 27, 28, 29, 30, 31, 32, 33, 34, 35, 36, 37, 38, 39, 40, 41]]) (rs := [⟨some true, .no⟩, ⟨none, .tv true⟩]) (st' := ⟨[(46, .one (.dat .bool true)), (45, .und), (44, .und), (43, .und), (42, .und), (41, .und), (40, .und), (39, .und), (38, .und), (37, .und), (36, .und), (35, .one (.dat .bool true)), (34, .one (.dat .bool true)), (33, .und), (32, .und), (31, .und), (30, .und), (29, .und), (28, .und), (27, .und), (26, .und), (25, .und), (24, .und), (23, .und), (22, .und), (21, .und), (20, .und), (19, .und), (18, .one (.dat .bool (!y21))), (17, .one (.dat .bool (!y21))), (16, .one (.dat .bool (!y21))), (15, .one (.dat .bool y21)), (14, .one (.dat (.int .i64) a0.2.1)), (13, .one (.ip (.st (.pair (.int .i64) (.pair (.int .i64) (.pair (.sl (.int .i64)) (.sl .bool))))) a0 1)), (12, .one (.ip (.st (.pair (.int .i64) (.pair (.int .i64) (.pair (.sl (.int .i64)) (.sl .bool))))) a0 0)), (11, .one (.ip (.st (.pair (.int .i64) (.pair (.int .i64) (.pair (.sl (.int .i64)) (.sl .bool))))) a0 0)), (10, .one (.dat .bool (!y18))), (9, .one (.dat .bool (!y18))), (8, .one (.dat .bool y18)), (7, .one (.dat (.int .i64) a0.1)), (6, .one (.ip (.st (.pair (.int .i64) (.pair (.int .i64) (.pair (.sl (.int .i64)) (.sl .bool))))) a0 0)), (5, .one (.ip (.st (.pair (.int .i64) (.pair (.int .i64) (.pair (.sl (.int .i64)) (.sl .bool))))) a0 0)), (4, .one (.ip (.st (.pair (.int .i64) (.pair (.int .i64) (.pair (.sl (.int .i64)) (.sl .bool))))) a0 0)), (0, .one (.ip (.st (.pair (.int .i64) (.pair (.int .i64) (.pair (.sl (.int .i64)) (.sl .bool))))) a0 0))], [], 0⟩) hP hN (by kernel_rfl) (by kernel_rfl) (allCons (f83_ok hc19) (allCons hb20 (allCons hb20 (allCons hb20 (allCons hb20 (allCons hb20 (allCons (f83_ok hc22) (allCons hb20 (allCons hb20 (allCons hb23 (allCons hb23 (allCons hb23 (allCons hb23 (allCons hb23 (allCons hb23 (allCons hb23 (allCons hb23 (allCons hb23 (allCons hb23 (allCons hb23 (allCons hb23 (allCons hb23 (allCons hb23 (allCons hb23 (allCons hb23 (allCons (rfl : true = true) (allCons (rfl : true = true) (allCons (rfl : true = true) (allCons (rfl : true = true) (allCons (rfl : true = true) (allCons (rfl : true = true) (allCons (rfl : true = true) (allCons (rfl : true = true) (allCons (rfl : true = true) (allCons (rfl : true = true) (allCons (rfl : true = true) allNil)))))))))))))))))))))))))))))))))))) (qThen ?_)
        exact (Le.cv (s := ⟨[], [], [], false⟩) (own := []) (ps := [a0 = a0, true = true]) (st' := ⟨[(0, .one (.ip (.st (.pair (.int .i64) (.pair (.int .i64) (.pair (.sl (.int .i64)) (.sl .bool))))) a0 0)), (46, .one (.dat .bool true))], [], 0⟩) hO (fun h => by cases h) (by kernel_rfl) ⟨rfl, rfl, trivial⟩).ht (cont true (of_some hT3))
      · rcases of_bif hT3 with ⟨hb24, hT3⟩ | ⟨hb24, hT3⟩
        · refine drawS (h := 41) (hrs := [⟨⟨none, .no⟩, []⟩, ⟨⟨none, .no⟩, [0]⟩, ⟨⟨none, .no⟩, [0, 1]⟩, ⟨⟨none, .no⟩, [0, 1, 2]⟩, ⟨⟨none, .call [.imm (.int .i64), .imm (.int .i64), .imm (.int .i64)] [⟨false, .bool, y18⟩] []⟩, [0, 1, 2, 3]⟩, ⟨⟨none, .no⟩, [0, 1, 2, 3, 4]⟩, ⟨⟨none, .no⟩, [0, 1, 2, 3, 4, 5]⟩, ⟨⟨some false, .no⟩, [0, 1, 2, 3, 4, 5, 6]⟩, ⟨⟨some false, .no⟩, [0, 1, 2, 3, 4, 5, 6, 7]⟩, ⟨⟨some false, .no⟩, [0, 1, 2, 3, 4, 5, 6, 7, 8]⟩, ⟨⟨some false, .no⟩, [0, 1, 2, 3, 4, 5, 6, 7, 8, 9]⟩, ⟨⟨some false, .call [.imm (.int .i64), .imm (.int .i64), .imm (.int .i64)] [⟨false, .bool, y21⟩] []⟩, [0, 1, 2, 3, 4, 5, 6, 7, 8, 9, 10]⟩, ⟨⟨some false, .no⟩, [0, 1, 2, 3, 4, 5, 6, 7, 8, 9, 10, 11]⟩, ⟨⟨none, .tv false⟩, [0, 1, 2, 3, 4, 5, 6, 7, 8, 9, 10, 11, 12]⟩, ⟨⟨none, .no⟩, [0, 1, 2, 3, 4, 5, 6, 7, 8, 9, 10, 11, 12, 13]⟩, ⟨⟨some false, .no⟩, [0, 1, 2, 3, 4, 5, 6, 7, 8, 9, 10, 11, 12, 13, 14]⟩, ⟨⟨some false, .no⟩, [0, 1, 2, 3, 4, 5, 6, 7, 8, 9, 10, 11, 12, 13, 14, 15]⟩, ⟨⟨some false, .no⟩, [0, 1, 2, 3, 4, 5, 6, 7, 8, 9, 10, 11, 12, 13, 14, 15, 16]⟩, ⟨⟨some false, .no⟩, [0, 1, 2, 3, 4, 5, 6, 7, 8, 9, 10, 11, 12, 13, 14, 15, 16, 17]⟩, ⟨⟨some false, .no⟩, [0, 1, 2, 3, 4, 5, 6, 7, 8, 9, 10, 11, 12, 13, 14, 15, 16, 17, 18]⟩, ⟨⟨some false, .no⟩, [0, 1, 2, 3, 4, 5, 6, 7, 8, 9, 10, 11, 12, 13, 14]⟩, ⟨⟨some false, .no⟩, [0, 1, 2, 3, 4, 5, 6, 7, 8, 9, 10, 11, 12, 13, 14, 20]⟩, ⟨⟨some false, .no⟩, [0, 1, 2, 3, 4, 5, 6, 7, 8, 9, 10, 11, 12, 13, 14, 20, 21]⟩, ⟨⟨some false, .no⟩, [0, 1, 2, 3, 4, 5, 6, 7, 8, 9, 10, 11, 12, 13, 14, 20, 21, 22]⟩, ⟨⟨some false, .no⟩, [0, 1, 2, 3, 4, 5, 6, 7, 8, 9, 10, 11, 12, 13, 14]⟩, ⟨⟨some false, .no⟩, [0, 1, 2, 3, 4, 5, 6, 7, 8, 9, 10, 11, 12, 13, 14, 24]⟩, ⟨⟨some false, .no⟩, [0, 1, 2, 3, 4, 5, 6, 7, 8, 9, 10, 11, 12, 13, 14, 24, 25]⟩, ⟨⟨some false, .no⟩, [0, 1, 2, 3, 4, 5, 6, 7, 8, 9, 10, 11, 12, 13, 14, 24, 25, 26]⟩, ⟨⟨some false, .no⟩, [0, 1, 2, 3, 4, 5, 6, 7, 8, 9, 10, 11, 12, 13, 14, 20, 21, 22, 23, 24, 25, 26, 27]⟩, ⟨⟨some false, .no⟩, [0, 1, 2, 3, 4, 5, 6, 7, 8, 9, 10, 11, 12, 13, 14, 15, 16, 17, 18, 19, 20, 21, 22, 23, 24, 25, 26, 27, 28]⟩, ⟨⟨none, .tv false⟩, [0, 1, 2, 3, 4, 5, 6, 7, 8, 9, 10, 11, 12, 13, 14, 15, 16, 17, 18, 19, 20, 21, 22, 23, 24, 25, 26, 27, 28, 29]⟩, ⟨⟨none, .no⟩, [0, 1, 2, 3, 4, 5, 6, 7, 8, 9, 10, 11, 12, 13, 14, 15, 16, 17, 18, 19, 20, 21, 22, 23, 24, 25, 26, 27, 28, 29, 30]⟩, ⟨⟨some true, .no⟩, [0, 1, 2, 3, 4, 5, 6, 7, 8, 9, 10, 11, 12, 13, 14, 15, 16, 17, 18, 19, 20, 21, 22, 23, 24, 25, 26, 27, 28, 29, 30, 31]⟩, ⟨⟨some true, .no⟩, [0, 1, 2, 3, 4, 5, 6, 7, 8, 9, 10, 11, 12, 13, 14, 15, 16, 17, 18, 19, 20, 21, 22, 23, 24, 25, 26, 27, 28, 29, 30, 31, 32]⟩, ⟨⟨some true, .no⟩, [0, 1, 2, 3, 4, 5, 6, 7, 8, 9, 10, 11, 12, 13, 14, 15, 16, 17, 18, 19, 20, 21, 22, 23, 24, 25, 26, 27, 28, 29, 30, 31, 32, 33]⟩, ⟨⟨some true, .no⟩, [0, 1, 2, 3, 4, 5, 6, 7, 8, 9, 10, 11, 12, 13, 14, 15, 16, 17, 18, 19, 20, 21, 22, 23, 24, 25, 26, 27, 28, 29, 30, 31, 32, 33, 34]⟩, ⟨⟨some true, .no⟩, [0, 1, 2, 3, 4, 5, 6, 7, 8, 9, 10, 11, 12, 13, 14, 15, 16, 17, 18, 19, 20, 21, 22, 23, 24, 25, 26, 27, 28, 29, 30, 31, 32, 33, 34, 35]⟩, ⟨⟨some true, .no⟩, [0, 1, 2, 3, 4, 5, 6, 7, 8, 9, 10, 11, 12, 13, 14, 15, 16, 17, 18, 19, 20, 21, 22, 23, 24, 25, 26, 27, 28, 29, 30, 31]⟩, ⟨⟨some true, .no⟩, [0, 1, 2, 3, 4, 5, 6, 7, 8, 9, 10, 11, 12, 13, 14, 15, 16, 17, 18, 19, 20, 21, 22, 23, 24, 25, 26, 27, 28, 29, 30, 31, 37]⟩, ⟨⟨some true, .no⟩, [0, 1, 2, 3, 4, 5, 6, 7, 8, 9, 10, 11, 12, 13, 14, 15, 16, 17, 18, 19, 20, 21, 22, 23, 24, 25, 26, 27, 28, 29, 30, 31, 37, 38]⟩, ⟨⟨some true, .no⟩, [0, 1, 2, 3, 4, 5, 6, 7, 8, 9, 10, 11, 12, 13, 14, 15, 16, 17, 18, 19, 20, 21, 22, 23, 24, 25, 26, 27, 28, 29, 30, 31, 37, 38, 39]⟩]) (tds := [[0, 1, 2, 3, 4, 5, 6, 7, 8, 9, 10, 11, 12, 13, 14, 15, 16, 17, 18, 19, 20, 21, 22, 23, 24, 25, 26, 27, 28, 29, 30, 31, 32, 33, 34, 35, 36, 37, 38, 39, 40], [0, 1, 2, 3, 4, 5, 6, 7, 8, 9, 10, 11, 12, 13, 14, 15, 16, 17, 18, 19, 20, 21, 22, 23, 24, 25, 26, 27, 28, 29, 30, 31, 32, 33, 34, 35, 36, 37, 38, 39, 40, 41]]) (rs := [⟨some true, .no⟩, ⟨none, .tv true⟩]) (st' := ⟨[(46, .one (.dat .bool true)), (45, .und), (44, .und), (43, .und), (42, .und), (41, .und), (40, .und), (39, .und), (38, .und), (37, .und), (36, .und), (35, .one (.dat .bool ((lenI a0.2.2.1) != (wmul .i64 a0.1 a0.2.1)))), (34, .one (.dat .bool ((lenI a0.2.2.1) != (wmul .i64 a0.1 a0.2.1)))), (33, .one (.dat .bool ((lenI a0.2.2.1) != (wmul .i64 a0.1 a0.2.1)))), (32, .one (.dat (.int .i64) (wmul .i64 a0.1 a0.2.1))), (31, .one (.dat (.int .i64) a0.2.1)), (30, .one (.ip (.st (.pair (.int .i64) (.pair (.int .i64) (.pair (.sl (.int .i64)) (.sl .bool))))) a0 1)), (29, .one (.ip (.st (.pair (.int .i64) (.pair (.int .i64) (.pair (.sl (.int .i64)) (.sl .bool))))) a0 0)), (28, .one (.ip (.st (.pair (.int .i64) (.pair (.int .i64) (.pair (.sl (.int .i64)) (.sl .bool))))) a0 0)), (27, .one (.dat (.int .i64) a0.1)), (26, .one (.ip (.st (.pair (.int .i64) (.pair (.int .i64) (.pair (.sl (.int .i64)) (.sl .bool))))) a0 0)), (25, .one (.ip (.st (.pair (.int .i64) (.pair (.int .i64) (.pair (.sl (.int .i64)) (.sl .bool))))) a0 0)), (24, .one (.ip (.st (.pair (.int .i64) (.pair (.int .i64) (.pair (.sl (.int .i64)) (.sl .bool))))) a0 0)), (23, .one (.dat (.int .i64) (lenI a0.2.2.1))), (22, .one (.dat (.sl (.int .i64)) a0.2.2.1)), (21, .one (.ip (.st (.pair (.int .i64) (.pair (.int .i64) (.pair (.sl (.int .i64)) (.sl .bool))))) a0 2)), (20, .one (.ip (.st (.pair (.int .i64) (.pair (.int .i64) (.pair (.sl (.int .i64)) (.sl .bool))))) a0 0)), (19, .one (.ip (.st (.pair (.int .i64) (.pair (.int .i64) (.pair (.sl (.int .i64)) (.sl .bool))))) a0 0)), (18, .one (.dat .bool (!y21))), (17, .one (.dat .bool (!y21))), (16, .one (.dat .bool (!y21))), (15, .one (.dat .bool y21)), (14, .one (.dat (.int .i64) a0.2.1)), (13, .one (.ip (.st (.pair (.int .i64) (.pair (.int .i64) (.pair (.sl (.int .i64)) (.sl .bool))))) a0 1)), (12, .one (.ip (.st (.pair (.int .i64) (.pair (.int .i64) (.pair (.sl (.int .i64)) (.sl .bool))))) a0 0)), (11, .one (.ip (.st (.pair (.int .i64) (.pair (.int .i64) (.pair (.sl (.int .i64)) (.sl .bool))))) a0 0)), (10, .one (.dat .bool (!y18))), (9, .one (.dat .bool (!y18))), (8, .one (.dat .bool y18)), (7, .one (.dat (.int .i64) a0.1)), (6, .one (.ip (.st (.pair (.int .i64) (.pair (.int .i64) (.pair (.sl (.int .i64)) (.sl .bool))))) a0 0)), (5, .one (.ip (.st (.pair (.int .i64) (.pair (.int .i64) (.pair (.sl (.int .i64)) (.sl .bool))))) a0 0)), (4, .one (.ip (.st (.pair (.int .i64) (.pair (.int .i64) (.pair (.sl (.int .i64)) (.sl .bool))))) a0 0)), (0, .one (.ip (.st (.pair (.int .i64) (.pair (.int .i64) (.pair (.sl (.int .i64)) (.sl .bool))))) a0 0))], [], 0⟩) hP hN (by kernel_rfl) (by kernel_rfl) (allCons (f83_ok hc19) (allCons hb20 (allCons hb20 (allCons hb20 (allCons hb20 (allCons hb20 (allCons (f83_ok hc22) (allCons hb20 (allCons hb20 (allCons hb23 (allCons hb23 (allCons hb23 (allCons hb23 (allCons hb23 (allCons hb23 (allCons hb23 (allCons hb23 (allCons hb23 (allCons hb23 (allCons hb23 (allCons hb23 (allCons hb23 (allCons hb23 (allCons hb23 (allCons hb23 (allCons hb24 (allCons hb24 (allCons hb24 (allCons hb24 (allCons hb24 (allCons hb24 (allCons hb24 (allCons hb24 (allCons hb24 (allCons hb24 (allCons hb24 allNil)))))))))))))))))))))))))))))))))))) (qThen ?_)
          exact (Le.cv (s := ⟨[], [], [], false⟩) (own := []) (ps := [a0 = a0, true = true]) (st' := ⟨[(0, .one (.ip (.st (.pair (.int .i64) (.pair (.int .i64) (.pair (.sl (.int .i64)) (.sl .bool))))) a0 0)), (46, .one (.dat .bool true))], [], 0⟩) hO (fun h => by cases h) (by kernel_rfl) ⟨rfl, rfl, trivial⟩).ht (cont true (of_some hT3))
        · refine drawS (h := 41) (hrs := [⟨⟨none, .no⟩, []⟩, ⟨⟨none, .no⟩, [0]⟩, ⟨⟨none, .no⟩, [0, 1]⟩, ⟨⟨none, .no⟩, [0, 1, 2]⟩, ⟨⟨none, .call [.imm (.int .i64), .imm (.int .i64), .imm (.int .i64)] [⟨false, .bool, y18⟩] []⟩, [0, 1, 2, 3]⟩, ⟨⟨none, .no⟩, [0, 1, 2, 3, 4]⟩, ⟨⟨none, .no⟩, [0, 1, 2, 3, 4, 5]⟩, ⟨⟨some false, .no⟩, [0, 1, 2, 3, 4, 5, 6]⟩, ⟨⟨some false, .no⟩, [0, 1, 2, 3, 4, 5, 6, 7]⟩, ⟨⟨some false, .no⟩, [0, 1, 2, 3, 4, 5, 6, 7, 8]⟩, ⟨⟨some false, .no⟩, [0, 1, 2, 3, 4, 5, 6, 7, 8, 9]⟩, ⟨⟨some false, .call [.imm (.int .i64), .imm (.int .i64), .imm (.int .i64)] [⟨false, .bool, y21⟩] []⟩, [0, 1, 2, 3, 4, 5, 6, 7, 8, 9, 10]⟩, ⟨⟨some false, .no⟩, [0, 1, 2, 3, 4, 5, 6, 7, 8, 9, 10, 11]⟩, ⟨⟨none, .tv false⟩, [0, 1, 2, 3, 4, 5, 6, 7, 8, 9, 10, 11, 12]⟩, ⟨⟨none, .no⟩, [0, 1, 2, 3, 4, 5, 6, 7, 8, 9, 10, 11, 12, 13]⟩, ⟨⟨some false, .no⟩, [0, 1, 2, 3, 4, 5, 6, 7, 8, 9, 10, 11, 12, 13, 14]⟩, ⟨⟨some false, .no⟩, [0, 1, 2, 3, 4, 5, 6, 7, 8, 9, 10, 11, 12, 13, 14, 15]⟩, ⟨⟨some false, .no⟩, [0, 1, 2, 3, 4, 5, 6, 7, 8, 9, 10, 11, 12, 13, 14, 15, 16]⟩, ⟨⟨some false, .no⟩, [0, 1, 2, 3, 4, 5, 6, 7, 8, 9, 10, 11, 12, 13, 14, 15, 16, 17]⟩, ⟨⟨some false, .no⟩, [0, 1, 2, 3, 4, 5, 6, 7, 8, 9, 10, 11, 12, 13, 14, 15, 16, 17, 18]⟩, ⟨⟨some false, .no⟩, [0, 1, 2, 3, 4, 5, 6, 7, 8, 9, 10, 11, 12, 13, 14]⟩, ⟨⟨some false, .no⟩, [0, 1, 2, 3, 4, 5, 6, 7, 8, 9, 10, 11, 12, 13, 14, 20]⟩, ⟨⟨some false, .no⟩, [0, 1, 2, 3, 4, 5, 6, 7, 8, 9, 10, 11, 12, 13, 14, 20, 21]⟩, ⟨⟨some false, .no⟩, [0, 1, 2, 3, 4, 5, 6, 7, 8, 9, 10, 11, 12, 13, 14, 20, 21, 22]⟩, ⟨⟨some false, .no⟩, [0, 1, 2, 3, 4, 5, 6, 7, 8, 9, 10, 11, 12, 13, 14]⟩, ⟨⟨some false, .no⟩, [0, 1, 2, 3, 4, 5, 6, 7, 8, 9, 10, 11, 12, 13, 14, 24]⟩, ⟨⟨some false, .no⟩, [0, 1, 2, 3, 4, 5, 6, 7, 8, 9, 10, 11, 12, 13, 14, 24, 25]⟩, ⟨⟨some false, .no⟩, [0, 1, 2, 3, 4, 5, 6, 7, 8, 9, 10, 11, 12, 13, 14, 24, 25, 26]⟩, ⟨⟨some false, .no⟩, [0, 1, 2, 3, 4, 5, 6, 7, 8, 9, 10, 11, 12, 13, 14, 20, 21, 22, 23, 24, 25, 26, 27]⟩, ⟨⟨some false, .no⟩, [0, 1, 2, 3, 4, 5, 6, 7, 8, 9, 10, 11, 12, 13, 14, 15, 16, 17, 18, 19, 20, 21, 22, 23, 24, 25, 26, 27, 28]⟩, ⟨⟨none, .tv false⟩, [0, 1, 2, 3, 4, 5, 6, 7, 8, 9, 10, 11, 12, 13, 14, 15, 16, 17, 18, 19, 20, 21, 22, 23, 24, 25, 26, 27, 28, 29]⟩, ⟨⟨none, .no⟩, [0, 1, 2, 3, 4, 5, 6, 7, 8, 9, 10, 11, 12, 13, 14, 15, 16, 17, 18, 19, 20, 21, 22, 23, 24, 25, 26, 27, 28, 29, 30]⟩, ⟨⟨some false, .no⟩, [0, 1, 2, 3, 4, 5, 6, 7, 8, 9, 10, 11, 12, 13, 14, 15, 16, 17, 18, 19, 20, 21, 22, 23, 24, 25, 26, 27, 28, 29, 30, 31]⟩, ⟨⟨some false, .no⟩, [0, 1, 2, 3, 4, 5, 6, 7, 8, 9, 10, 11, 12, 13, 14, 15, 16, 17, 18, 19, 20, 21, 22, 23, 24, 25, 26, 27, 28, 29, 30, 31, 32]⟩, ⟨⟨some false, .no⟩, [0, 1, 2, 3, 4, 5, 6, 7, 8, 9, 10, 11, 12, 13, 14, 15, 16, 17, 18, 19, 20, 21, 22, 23, 24, 25, 26, 27, 28, 29, 30, 31, 32, 33]⟩, ⟨⟨some false, .no⟩, [0, 1, 2, 3, 4, 5, 6, 7, 8, 9, 10, 11, 12, 13, 14, 15, 16, 17, 18, 19, 20, 21, 22, 23, 24, 25, 26, 27, 28, 29, 30, 31, 32, 33, 34]⟩, ⟨⟨some false, .no⟩, [0, 1, 2, 3, 4, 5, 6, 7, 8, 9, 10, 11, 12, 13, 14, 15, 16, 17, 18, 19, 20, 21, 22, 23, 24, 25, 26, 27, 28, 29, 30, 31, 32, 33, 34, 35]⟩, ⟨⟨some false, .no⟩, [0, 1, 2, 3, 4, 5, 6, 7, 8, 9, 10, 11, 12, 13, 14, 15, 16, 17, 18, 19, 20, 21, 22, 23, 24, 25, 26, 27, 28, 29, 30, 31]⟩, ⟨⟨some false, .no⟩, [0, 1, 2, 3, 4, 5, 6, 7, 8, 9, 10, 11, 12, 13, 14, 15, 16, 17, 18, 19, 20, 21, 22, 23, 24, 25, 26, 27, 28, 29, 30, 31, 37]⟩, ⟨⟨some false, .no⟩, [0, 1, 2, 3, 4, 5, 6, 7, 8, 9, 10, 11, 12, 13, 14, 15, 16, 17, 18, 19, 20, 21, 22, 23, 24, 25, 26, 27, 28, 29, 30, 31, 37, 38]⟩, ⟨⟨some false, .no⟩, [0, 1, 2, 3, 4, 5, 6, 7, 8, 9, 10, 11, 12, 13, 14, 15, 16, 17, 18, 19, 20, 21, 22, 23, 24, 25, 26, 27, 28, 29, 30, 31, 37, 38, 39]⟩]) (tds := [[0, 1, 2, 3, 4, 5, 6, 7, 8, 9, 10, 11, 12, 13, 14, 15, 16, 17, 18, 19, 20, 21, 22, 23, 24, 25, 26, 27, 28, 29, 30, 31, 32, 33, 34, 35, 36, 37, 38, 39, 40], [0, 1, 2, 3, 4, 5, 6, 7, 8, 9, 10, 11, 12, 13, 14, 15, 16, 17, 18, 19, 20, 21, 22, 23, 24, 25, 26, 27, 28, 29, 30, 31, 32, 33, 34, 35, 36, 37, 38, 39, 40, 41]]) (rs := [⟨some false, .no⟩, ⟨none, .tv false⟩]) (st' := ⟨[(46, .one (.dat .bool ((lenI a0.2.2.2) != a0.1))), (45, .one (.dat .bool ((lenI a0.2.2.2) != a0.1))), (44, .one (.dat (.int .i64) a0.1)), (43, .one (.ip (.st (.pair (.int .i64) (.pair (.int .i64) (.pair (.sl (.int .i64)) (.sl .bool))))) a0 0)), (42, .one (.ip (.st (.pair (.int .i64) (.pair (.int .i64) (.pair (.sl (.int .i64)) (.sl .bool))))) a0 0)), (41, .one (.ip (.st (.pair (.int .i64) (.pair (.int .i64) (.pair (.sl (.int .i64)) (.sl .bool))))) a0 0)), (40, .one (.dat (.int .i64) (lenI a0.2.2.2))), (39, .one (.dat (.sl .bool) a0.2.2.2)), (38, .one (.ip (.st (.pair (.int .i64) (.pair (.int .i64) (.pair (.sl (.int .i64)) (.sl .bool))))) a0 3)), (37, .one (.ip (.st (.pair (.int .i64) (.pair (.int .i64) (.pair (.sl (.int .i64)) (.sl .bool))))) a0 0)), (36, .one (.ip (.st (.pair (.int .i64) (.pair (.int .i64) (.pair (.sl (.int .i64)) (.sl .bool))))) a0 0)), (35, .one (.dat .bool ((lenI a0.2.2.1) != (wmul .i64 a0.1 a0.2.1)))), (34, .one (.dat .bool ((lenI a0.2.2.1) != (wmul .i64 a0.1 a0.2.1)))), (33, .one (.dat .bool ((lenI a0.2.2.1) != (wmul .i64 a0.1 a0.2.1)))), (32, .one (.dat (.int .i64) (wmul .i64 a0.1 a0.2.1))), (31, .one (.dat (.int .i64) a0.2.1)), (30, .one (.ip (.st (.pair (.int .i64) (.pair (.int .i64) (.pair (.sl (.int .i64)) (.sl .bool))))) a0 1)), (29, .one (.ip (.st (.pair (.int .i64) (.pair (.int .i64) (.pair (.sl (.int .i64)) (.sl .bool))))) a0 0)), (28, .one (.ip (.st (.pair (.int .i64) (.pair (.int .i64) (.pair (.sl (.int .i64)) (.sl .bool))))) a0 0)), (27, .one (.dat (.int .i64) a0.1)), (26, .one (.ip (.st (.pair (.int .i64) (.pair (.int .i64) (.pair (.sl (.int .i64)) (.sl .bool))))) a0 0)), (25, .one (.ip (.st (.pair (.int .i64) (.pair (.int .i64) (.pair (.sl (.int .i64)) (.sl .bool))))) a0 0)), (24, .one (.ip (.st (.pair (.int .i64) (.pair (.int .i64) (.pair (.sl (.int .i64)) (.sl .bool))))) a0 0)), (23, .one (.dat (.int .i64) (lenI a0.2.2.1))), (22, .one (.dat (.sl (.int .i64)) a0.2.2.1)), (21, .one (.ip (.st (.pair (.int .i64) (.pair (.int .i64) (.pair (.sl (.int .i64)) (.sl .bool))))) a0 2)), (20, .one (.ip (.st (.pair (.int .i64) (.pair (.int .i64) (.pair (.sl (.int .i64)) (.sl .bool))))) a0 0)), (19, .one (.ip (.st (.pair (.int .i64) (.pair (.int .i64) (.pair (.sl (.int .i64)) (.sl .bool))))) a0 0)), (18, .one (.dat .bool (!y21))), (17, .one (.dat .bool (!y21))), (16, .one (.dat .bool (!y21))), (15, .one (.dat .bool y21)), (14, .one (.dat (.int .i64) a0.2.1)), (13, .one (.ip (.st (.pair (.int .i64) (.pair (.int .i64) (.pair (.sl (.int .i64)) (.sl .bool))))) a0 1)), (12, .one (.ip (.st (.pair (.int .i64) (.pair (.int .i64) (.pair (.sl (.int .i64)) (.sl .bool))))) a0 0)), (11, .one (.ip (.st (.pair (.int .i64) (.pair (.int .i64) (.pair (.sl (.int .i64)) (.sl .bool))))) a0 0)), (10, .one (.dat .bool (!y18))), (9, .one (.dat .bool (!y18))), (8, .one (.dat .bool y18)), (7, .one (.dat (.int .i64) a0.1)), (6, .one (.ip (.st (.pair (.int .i64) (.pair (.int .i64) (.pair (.sl (.int .i64)) (.sl .bool))))) a0 0)), (5, .one (.ip (.st (.pair (.int .i64) (.pair (.int .i64) (.pair (.sl (.int .i64)) (.sl .bool))))) a0 0)), (4, .one (.ip (.st (.pair (.int .i64) (.pair (.int .i64) (.pair (.sl (.int .i64)) (.sl .bool))))) a0 0)), (0, .one (.ip (.st (.pair (.int .i64) (.pair (.int .i64) (.pair (.sl (.int .i64)) (.sl .bool))))) a0 0))], [], 0⟩) hP hN (by kernel_rfl) (by kernel_rfl) (allCons (f83_ok hc19) (allCons hb20 (allCons hb20 (allCons hb20 (allCons hb20 (allCons hb20 (allCons (f83_ok hc22) (allCons hb20 (allCons hb20 (allCons hb23 (allCons hb23 (allCons hb23 (allCons hb23 (allCons hb23 (allCons hb23 (allCons hb23 (allCons hb23 (allCons hb23 (allCons hb23 (allCons hb23 (allCons hb23 (allCons hb23 (allCons hb23 (allCons hb23 (allCons hb23 (allCons hb24 (allCons hb24 (allCons hb24 (allCons hb24 (allCons hb24 (allCons hb24 (allCons hb24 (allCons hb24 (allCons hb24 (allCons hb24 (allCons hb24 allNil)))))))))))))))))))))))))))))))))))) (qThen ?_)
          exact (Le.cv (s := ⟨[], [], [], false⟩) (own := []) (ps := [a0 = a0, ((lenI a0.2.2.2) != a0.1) = ((lenI a0.2.2.2) != a0.1)]) (st' := ⟨[(0, .one (.ip (.st (.pair (.int .i64) (.pair (.int .i64) (.pair (.sl (.int .i64)) (.sl .bool))))) a0 0)), (46, .one (.dat .bool ((lenI a0.2.2.2) != a0.1)))], [], 0⟩) hO (fun h => by cases h) (by kernel_rfl) ⟨rfl, rfl, trivial⟩).ht (cont ((lenI a0.2.2.2) != a0.1) (of_some hT3))

noncomputable def spec_l07Kept (a0 : List UInt8 × Int × Int × List Int × List Bool) : Option (Bool) :=
  (show Option (Bool) from
    (spec_l07Name a0.1).bind fun y4 =>
    bif y4 then
      (spec_l02Plain (a0.2.1, a0.2.2.1, a0.2.2.2.1, a0.2.2.2.2)).bind fun y7 =>
      some y7
    else
      some false).bind fun v1 =>
  some v1

theorem f80_ok {a0 : List UInt8 × Int × Int × List Int × List Bool} {r : Bool} (hr : spec_l07Kept a0 = some r) : CallOK Try.prog 80 [.pimm (.st (.pair .str (.st (.pair (.int .i64) (.pair (.int .i64) (.pair (.sl (.int .i64)) (.sl .bool))))))) a0] [⟨false, .bool, r⟩] [] := by
  unfold spec_l07Kept at hr
  refine CallOK.of_body (ts := [(false, .bool)]) Try.func80 rfl (by kernel_rfl) (Nat.le_of_ble_eq_true (by kernel_rfl)) fun cx hP hN hO hF => ?_
  have hO : cx.own.map Prod.fst = [] := hO
  have hF := hF rfl
  show HT cx ⟨[(0, .one (.ip (.st (.pair .str (.st (.pair (.int .i64) (.pair (.int .i64) (.pair (.sl (.int .i64)) (.sl .bool))))))) a0 0))], [], 0⟩ _ _
  refine HT.reg1 [0] [⟨none, .no⟩] ⟨[(0, .one (.ip (.st (.pair .str (.st (.pair (.int .i64) (.pair (.int .i64) (.pair (.sl (.int .i64)) (.sl .bool))))))) a0 0))], [], 0⟩ hP hN (by kernel_rfl) allNil ?_
  obtain ⟨v1', hT3, hr⟩ := of_bind hr
  refine HT.join (fun (v1 : Bool) => ⟨[(2, .one (.dat .bool v1))], [], 0⟩) (fun v => v = v1') (fun v1 hv2 => ?_) (fun cont => ?_)
  · subst hv2
    have hr := of_some hr
    subst hr
    exact HT.ret ⟨[.one (.dat .bool v1)], [], [], by kernel_rfl, by kernel_rfl, rfl, by kernel_rfl, by kernel_rfl, trivial⟩
  · obtain ⟨y4, hc5, hT3⟩ := of_bind hT3
    rcases of_bif hT3 with ⟨hb6, hT3⟩ | ⟨hb6, hT3⟩
    · obtain ⟨y7, hc8, hT3⟩ := of_bind hT3
      refine HT.reg (rs := [⟨none, .no⟩, ⟨none, .no⟩, ⟨none, .no⟩, ⟨none, .no⟩, ⟨none, .call [.imm .str] [⟨false, .bool, y4⟩] []⟩, ⟨none, .no⟩, ⟨some true, .no⟩, ⟨some true, .no⟩, ⟨some true, .no⟩, ⟨some true, .call [.pimm (.st (.pair (.int .i64) (.pair (.int .i64) (.pair (.sl (.int .i64)) (.sl .bool)))))] [⟨false, .bool, y7⟩] []⟩, ⟨none, .tv true⟩, ⟨none, .no⟩]) (st' := ⟨[(2, .one (.dat .bool y7)), (13, .one (.dat .bool y7)), (12, .one (.dat .bool y7)), (11, .one (.ip (.st (.pair .str (.st (.pair (.int .i64) (.pair (.int .i64) (.pair (.sl (.int .i64)) (.sl .bool))))))) a0 1)), (10, .one (.ip (.st (.pair .str (.st (.pair (.int .i64) (.pair (.int .i64) (.pair (.sl (.int .i64)) (.sl .bool))))))) a0 0)), (9, .one (.ip (.st (.pair .str (.st (.pair (.int .i64) (.pair (.int .i64) (.pair (.sl (.int .i64)) (.sl .bool))))))) a0 0)), (8, .one (.dat .bool y4)), (7, .one (.dat .bool y4)), (6, .one (.dat .str a0.1)), (5, .one (.ip (.st (.pair .str (.st (.pair (.int .i64) (.pair (.int .i64) (.pair (.sl (.int .i64)) (.sl .bool))))))) a0 0)), (4, .one (.ip (.st (.pair .str (.st (.pair (.int .i64) (.pair (.int .i64) (.pair (.sl (.int .i64)) (.sl .bool))))))) a0 0)), (3, .one (.ip (.st (.pair .str (.st (.pair (.int .i64) (.pair (.int .i64) (.pair (.sl (.int .i64)) (.sl .bool))))))) a0 0)), (0, .one (.ip (.st (.pair .str (.st (.pair (.int .i64) (.pair (.int .i64) (.pair (.sl (.int .i64)) (.sl .bool))))))) a0 0))], [], 0⟩) hP hN (by kernel_rfl) (allCons (f127_ok hc5) (allCons hb6 (allCons hb6 (allCons hb6 (allCons hb6 (allCons (f128_ok hc8) (allCons hb6 allNil))))))) (qThen ?_)
      exact (Le.cv (s := ⟨[], [], [], false⟩) (own := []) (ps := [y7 = y7]) (st' := ⟨[(2, .one (.dat .bool y7))], [], 0⟩) hO (fun h => by cases h) (by kernel_rfl) ⟨rfl, trivial⟩).ht (cont y7 (of_some hT3))
    · refine HT.reg (rs := [⟨none, .no⟩, ⟨none, .no⟩, ⟨none, .no⟩, ⟨none, .no⟩, ⟨none, .call [.imm .str] [⟨false, .bool, y4⟩] []⟩, ⟨none, .no⟩, ⟨some false, .no⟩, ⟨some false, .no⟩, ⟨some false, .no⟩, ⟨some false, .no⟩, ⟨none, .tv false⟩, ⟨none, .no⟩]) (st' := ⟨[(2, .one (.dat .bool false)), (13, .one (.dat .bool false)), (12, .und), (11, .und), (10, .und), (9, .und), (8, .one (.dat .bool y4)), (7, .one (.dat .bool y4)), (6, .one (.dat .str a0.1)), (5, .one (.ip (.st (.pair .str (.st (.pair (.int .i64) (.pair (.int .i64) (.pair (.sl (.int .i64)) (.sl .bool))))))) a0 0)), (4, .one (.ip (.st (.pair .str (.st (.pair (.int .i64) (.pair (.int .i64) (.pair (.sl (.int .i64)) (.sl .bool))))))) a0 0)), (3, .one (.ip (.st (.pair .str (.st (.pair (.int .i64) (.pair (.int .i64) (.pair (.sl (.int .i64)) (.sl .bool))))))) a0 0)), (0, .one (.ip (.st (.pair .str (.st (.pair (.int .i64) (.pair (.int .i64) (.pair (.sl (.int .i64)) (.sl .bool))))))) a0 0))], [], 0⟩) hP hN (by kernel_rfl) (allCons (f127_ok hc5) (allCons hb6 (allCons hb6 (allCons hb6 (allCons hb6 (allCons hb6 allNil)))))) (qThen ?_)
      exact (Le.cv (s := ⟨[], [], [], false⟩) (own := []) (ps := [false = false]) (st' := ⟨[(2, .one (.dat .bool false))], [], 0⟩) hO (fun h => by cases h) (by kernel_rfl) ⟨rfl, trivial⟩).ht (cont false (of_some hT3))

noncomputable def spec_l01Check_B1 (a1 : List UInt8) (s1 : Int × Int) : Option ((Int × Int) ⊕ (Int)) :=
  bif (decide (s1.2 < (lenI a1))) then
    guardP ((0 : Int) ≤ s1.2 ∧ s1.2 < lenI a1) (
      some (.inl ((Int.tmod (wadd .i64 (wadd .i64 (wmul .i64 (919 : Int) s1.1) (IntKind.wrap .i64 ((((List.getD a1 (Int.toNat s1.2) 0 : UInt8).toNat : Nat)) : Int))) (191 : Int)) (65003 : Int)), (wadd .i64 s1.2 (1 : Int)))))
  else
    some (.inr s1.1)

noncomputable def spec_l01Check (a0 : Int) (a1 : List UInt8) : Option (Int) :=
  (rounds (spec_l01Check_B1 a1) (a0, (0 : Int))).bind fun r3 =>
  some r3

theorem f129_ok {a0 : Int} {a1 : List UInt8} {r : Int} (hr : spec_l01Check a0 a1 = some r) : CallOK Try.prog 129 [.imm (.int .i64) a0, .imm .str a1] [⟨false, (.int .i64), r⟩] [] := by
  unfold spec_l01Check at hr
  refine CallOK.of_body (ts := [(false, (.int .i64))]) Try.func129 rfl (by kernel_rfl) (Nat.le_of_ble_eq_true (by kernel_rfl)) fun cx hP hN hO hF => ?_
  have hO : cx.own.map Prod.fst = [] := hO
  have hF := hF rfl
  show HT cx ⟨[(0, .one (.dat (.int .i64) a0)), (1, .one (.dat .str a1))], [], 0⟩ _ _
  refine HT.reg1 [0, 1] [⟨none, .no⟩] ⟨[(0, .one (.dat (.int .i64) a0)), (1, .one (.dat .str a1))], [], 0⟩ hP hN (by kernel_rfl) allNil ?_
  refine HT.seq ?_
  refine HT.reg1 [0, 1, 5] [⟨none, .no⟩] ⟨[(0, .one (.dat (.int .i64) a0)), (1, .one (.dat .str a1)), (5, .one (.dat (.int .i64) (0 : Int)))], [], 0⟩ hP hN (by kernel_rfl) allNil ?_
  refine HT.block ?_
  obtain ⟨r2, hL9, hr⟩ := of_bind hr
  refine (Le.cv (s := ⟨[], [], [], false⟩) (own := []) (ps := [a0 = a0, a1 = a1, (0 : Int) = (0 : Int)]) (st' := ⟨[(0, .one (.dat (.int .i64) a0)), (1, .one (.dat .str a1)), (5, .one (.dat (.int .i64) (0 : Int)))], [], 0⟩) hO (fun h => by cases h) (by kernel_rfl) ⟨rfl, rfl, rfl, trivial⟩).ht ?_
  refine HT.loopE (s := (a0, (0 : Int))) (fun (s1 : Int × Int) => ⟨[(0, .one (.dat (.int .i64) s1.1)), (1, .one (.dat .str a1)), (5, .one (.dat (.int .i64) s1.2))], [], 0⟩) (fun (r3 : Int) => (.exit 0, ⟨[(0, .one (.dat (.int .i64) r3))], [], 0⟩)) hL9 ?_ (fun s1 x4 hx5 hk6 => ?_)
  · refine (qBlockX (qThen ?_))
    refine HT.reg1 [4] [⟨none, .no⟩, ⟨none, .no⟩] ⟨[(4, .one (.dat (.int .i64) r2))], [], 0⟩ hP hN (by kernel_rfl) allNil ?_
    have hr := of_some hr
    subst hr
    exact HT.ret ⟨[.one (.dat (.int .i64) r2)], [], [], by kernel_rfl, by kernel_rfl, rfl, by kernel_rfl, by kernel_rfl, trivial⟩
  · refine HT.seq ?_
    refine HT.reg1 [0, 1, 5, 9] [⟨none, .no⟩, ⟨none, .no⟩, ⟨none, .no⟩, ⟨none, .no⟩] ⟨[(0, .one (.dat (.int .i64) s1.1)), (1, .one (.dat .str a1)), (5, .one (.dat (.int .i64) s1.2)), (9, .one (.dat .bool (decide (s1.2 < (lenI a1)))))], [], 0⟩ hP hN (by kernel_rfl) allNil ?_
    rcases of_bif hx5 with ⟨hb7, hx5⟩ | ⟨hb7, hx5⟩
    · refine HT.cond1 rfl hb7 ?_
      refine HT.skip (qThen ?_)
      refine HT.seq ?_
      refine HT.block ?_
      obtain ⟨hg8, hx5⟩ := of_guard hx5
      refine HT.reg (rs := [⟨none, .no⟩, ⟨none, .no⟩, ⟨none, .no⟩, ⟨none, .no⟩, ⟨none, .no⟩, ⟨none, .no⟩, ⟨none, .no⟩, ⟨none, .no⟩, ⟨none, .no⟩, ⟨none, .no⟩]) (st' := ⟨[(0, .one (.dat (.int .i64) (Int.tmod (wadd .i64 (wadd .i64 (wmul .i64 (919 : Int) s1.1) (IntKind.wrap .i64 ((((List.getD a1 (Int.toNat s1.2) 0 : UInt8).toNat : Nat)) : Int))) (191 : Int)) (65003 : Int)))), (20, .one (.dat (.int .i64) (Int.tmod (wadd .i64 (wadd .i64 (wmul .i64 (919 : Int) s1.1) (IntKind.wrap .i64 ((((List.getD a1 (Int.toNat s1.2) 0 : UInt8).toNat : Nat)) : Int))) (191 : Int)) (65003 : Int)))), (19, .one (.dat (.int .i64) (wadd .i64 (wadd .i64 (wmul .i64 (919 : Int) s1.1) (IntKind.wrap .i64 ((((List.getD a1 (Int.toNat s1.2) 0 : UInt8).toNat : Nat)) : Int))) (191 : Int)))), (18, .one (.dat (.int .i64) (wadd .i64 (wmul .i64 (919 : Int) s1.1) (IntKind.wrap .i64 ((((List.getD a1 (Int.toNat s1.2) 0 : UInt8).toNat : Nat)) : Int))))), (17, .one (.dat (.int .i64) (IntKind.wrap .i64 ((((List.getD a1 (Int.toNat s1.2) 0 : UInt8).toNat : Nat)) : Int)))), (16, .one (.dat (.int .u8) ((((List.getD a1 (Int.toNat s1.2) 0 : UInt8).toNat : Nat)) : Int))), (15, .one (.dat (.int .i64) s1.2)), (14, .one (.dat .str a1)), (13, .one (.dat (.int .i64) (wmul .i64 (919 : Int) s1.1))), (12, .one (.dat (.int .i64) s1.1)), (0, .one (.dat (.int .i64) s1.1)), (1, .one (.dat .str a1)), (5, .one (.dat (.int .i64) s1.2)), (9, .one (.dat .bool (decide (s1.2 < (lenI a1)))))], [], 0⟩) hP hN (by kernel_rfl) (allCons hg8 (allCons (show (65003 : Int) ≠ 0 from by decide) allNil)) (qBlock (qThen ?_))
      have hx5 := of_some hx5
      subst hx5
      refine HT.reg (rs := [⟨none, .no⟩, ⟨none, .no⟩, ⟨none, .no⟩]) (st' := ⟨[(5, .one (.dat (.int .i64) (wadd .i64 s1.2 (1 : Int)))), (11, .one (.dat (.int .i64) (wadd .i64 s1.2 (1 : Int)))), (10, .one (.dat (.int .i64) s1.2)), (0, .one (.dat (.int .i64) (Int.tmod (wadd .i64 (wadd .i64 (wmul .i64 (919 : Int) s1.1) (IntKind.wrap .i64 ((((List.getD a1 (Int.toNat s1.2) 0 : UInt8).toNat : Nat)) : Int))) (191 : Int)) (65003 : Int)))), (20, .one (.dat (.int .i64) (Int.tmod (wadd .i64 (wadd .i64 (wmul .i64 (919 : Int) s1.1) (IntKind.wrap .i64 ((((List.getD a1 (Int.toNat s1.2) 0 : UInt8).toNat : Nat)) : Int))) (191 : Int)) (65003 : Int)))), (19, .one (.dat (.int .i64) (wadd .i64 (wadd .i64 (wmul .i64 (919 : Int) s1.1) (IntKind.wrap .i64 ((((List.getD a1 (Int.toNat s1.2) 0 : UInt8).toNat : Nat)) : Int))) (191 : Int)))), (18, .one (.dat (.int .i64) (wadd .i64 (wmul .i64 (919 : Int) s1.1) (IntKind.wrap .i64 ((((List.getD a1 (Int.toNat s1.2) 0 : UInt8).toNat : Nat)) : Int))))), (17, .one (.dat (.int .i64) (IntKind.wrap .i64 ((((List.getD a1 (Int.toNat s1.2) 0 : UInt8).toNat : Nat)) : Int)))), (16, .one (.dat (.int .u8) ((((List.getD a1 (Int.toNat s1.2) 0 : UInt8).toNat : Nat)) : Int))), (15, .one (.dat (.int .i64) s1.2)), (14, .one (.dat .str a1)), (13, .one (.dat (.int .i64) (wmul .i64 (919 : Int) s1.1))), (12, .one (.dat (.int .i64) s1.1)), (0, .one (.dat (.int .i64) s1.1)), (1, .one (.dat .str a1)), (5, .one (.dat (.int .i64) s1.2)), (9, .one (.dat .bool (decide (s1.2 < (lenI a1)))))], [], 0⟩) hP hN (by kernel_rfl) allNil (qLoopN ⟨((Int.tmod (wadd .i64 (wadd .i64 (wmul .i64 (919 : Int) s1.1) (IntKind.wrap .i64 ((((List.getD a1 (Int.toNat s1.2) 0 : UInt8).toNat : Nat)) : Int))) (191 : Int)) (65003 : Int)), (wadd .i64 s1.2 (1 : Int))), rfl, Le.cv (s := ⟨[], [], [], false⟩) (own := []) (ps := [(Int.tmod (wadd .i64 (wadd .i64 (wmul .i64 (919 : Int) s1.1) (IntKind.wrap .i64 ((((List.getD a1 (Int.toNat s1.2) 0 : UInt8).toNat : Nat)) : Int))) (191 : Int)) (65003 : Int)) = (Int.tmod (wadd .i64 (wadd .i64 (wmul .i64 (919 : Int) s1.1) (IntKind.wrap .i64 ((((List.getD a1 (Int.toNat s1.2) 0 : UInt8).toNat : Nat)) : Int))) (191 : Int)) (65003 : Int)), a1 = a1, (wadd .i64 s1.2 (1 : Int)) = (wadd .i64 s1.2 (1 : Int))]) (st' := ⟨[(0, .one (.dat (.int .i64) (Int.tmod (wadd .i64 (wadd .i64 (wmul .i64 (919 : Int) s1.1) (IntKind.wrap .i64 ((((List.getD a1 (Int.toNat s1.2) 0 : UInt8).toNat : Nat)) : Int))) (191 : Int)) (65003 : Int)))), (1, .one (.dat .str a1)), (5, .one (.dat (.int .i64) (wadd .i64 s1.2 (1 : Int))))], [], 0⟩) hO (fun h => by cases h) (by kernel_rfl) ⟨rfl, rfl, rfl, trivial⟩⟩)
    · refine HT.cond0 rfl hb7 ?_
      have hx5 := of_some hx5
      subst hx5
      refine (Le.cv (s := ⟨[], [], [], false⟩) (own := []) (ps := [s1.1 = s1.1]) (st' := ⟨[(0, .one (.dat (.int .i64) s1.1))], [], 0⟩) hO (fun h => by cases h) (by kernel_rfl) ⟨rfl, trivial⟩).ht ?_
      exact HT.exit (qThenE (qLoopE (hk6 s1.1 rfl)))

noncomputable def spec_l07Store_B1 (a0 : List UInt8 × Int × Int × List Int × List Bool) (s12 : Int × List Int) : Option ((Int × List Int) ⊕ (List Int)) :=
  bif (decide (s12.1 < (lenI a0.2.2.2.2))) then
    (show Option (Int) from
      guardP ((0 : Int) ≤ s12.1 ∧ s12.1 < lenI a0.2.2.2.2) (
        bif (List.getD a0.2.2.2.2 (Int.toNat s12.1) false) then
          some (1 : Int)
        else
          some (0 : Int))).bind fun v28 =>
    guardP (List.length s12.2 + List.length ([v28] : List Int) ≤ appMax) (
      some (.inl ((wadd .i64 s12.1 (1 : Int)), (s12.2 ++ ([v28] : List Int)))))
  else
    some (.inr s12.2)

noncomputable def spec_l07Store_B2 (a0 : List UInt8 × Int × Int × List Int × List Bool) (s9 : Int × List Int) : Option ((Int × List Int) ⊕ (List Int)) :=
  bif (decide (s9.1 < (lenI a0.2.2.2.1))) then
    guardP ((0 : Int) ≤ s9.1 ∧ s9.1 < lenI a0.2.2.2.1) (
      guardP (List.length s9.2 + List.length ([(IntKind.wrap .u8 (List.getD a0.2.2.2.1 (Int.toNat s9.1) (0 : Int)))] : List Int) ≤ appMax) (
        some (.inl ((wadd .i64 s9.1 (1 : Int)), (s9.2 ++ ([(IntKind.wrap .u8 (List.getD a0.2.2.2.1 (Int.toNat s9.1) (0 : Int)))] : List Int))))))
  else
    some (.inr s9.2)

noncomputable def spec_l07Store (a0 : List UInt8 × Int × Int × List Int × List Bool) : Option (List UInt8) :=
  guardP (List.length ([(65 : Int), (85 : Int), (84 : Int), (49 : Int)] : List Int) + List.length ([(IntKind.wrap .u8 (lenI a0.1))] : List Int) ≤ appMax) (
    (some (([(65 : Int), (85 : Int), (84 : Int), (49 : Int)] : List Int) ++ ([(IntKind.wrap .u8 (lenI a0.1))] : List Int))).bind fun q2 =>
    guardP (List.length a0.1 ≤ appMax) (
      guardP (List.length q2 + List.length (bytesI a0.1) ≤ appMax) (
        guardP (List.length (q2 ++ (bytesI a0.1)) + List.length ([(IntKind.wrap .u8 a0.2.1), (IntKind.wrap .u8 a0.2.2.1)] : List Int) ≤ appMax) (
          (some ((q2 ++ (bytesI a0.1)) ++ ([(IntKind.wrap .u8 a0.2.1), (IntKind.wrap .u8 a0.2.2.1)] : List Int))).bind fun q7 =>
          (rounds (spec_l07Store_B2 a0) ((0 : Int), q7)).bind fun r11 =>
          (rounds (spec_l07Store_B1 a0) ((0 : Int), r11)).bind fun r14 =>
          (spec_l01Check (0 : Int) (bytesO r14)).bind fun y15 =>
          guardP (List.length r14 + List.length ([(IntKind.wrap .u8 (Int.tmod y15 (256 : Int))), (IntKind.wrap .u8 (IntKind.wrap .i64 (Int.tdiv y15 (256 : Int))))] : List Int) ≤ appMax) (
            (some (bytesO (r14 ++ ([(IntKind.wrap .u8 (Int.tmod y15 (256 : Int))), (IntKind.wrap .u8 (IntKind.wrap .i64 (Int.tdiv y15 (256 : Int))))] : List Int)))).bind fun q18 =>
            (some (r14 ++ ([(IntKind.wrap .u8 (Int.tmod y15 (256 : Int))), (IntKind.wrap .u8 (IntKind.wrap .i64 (Int.tdiv y15 (256 : Int))))] : List Int))).bind fun q20 =>
            (some ([(IntKind.wrap .u8 (Int.tmod y15 (256 : Int))), (IntKind.wrap .u8 (IntKind.wrap .i64 (Int.tdiv y15 (256 : Int))))] : List Int)).bind fun q22 =>
            some q18)))))

theorem f81_ok {a0 : List UInt8 × Int × Int × List Int × List Bool} {r : List UInt8} (hr : spec_l07Store a0 = some r) : CallOK Try.prog 81 [.pimm (.st (.pair .str (.st (.pair (.int .i64) (.pair (.int .i64) (.pair (.sl (.int .i64)) (.sl .bool))))))) a0] [⟨false, .str, r⟩] [] := by
  unfold spec_l07Store at hr
  refine CallOK.of_body (ts := [(false, .str)]) Try.func81 rfl (by kernel_rfl) (Nat.le_of_ble_eq_true (by kernel_rfl)) fun cx hP hN hO hF => ?_
  have hO : cx.own.map Prod.fst = [] := hO
  have hF := hF rfl
  show HT cx ⟨[(0, .one (.ip (.st (.pair .str (.st (.pair (.int .i64) (.pair (.int .i64) (.pair (.sl (.int .i64)) (.sl .bool))))))) a0 0))], [], 0⟩ _ _
  refine HT.reg1 [0] [⟨none, .no⟩] ⟨[(0, .one (.ip (.st (.pair .str (.st (.pair (.int .i64) (.pair (.int .i64) (.pair (.sl (.int .i64)) (.sl .bool))))))) a0 0))], [], 0⟩ hP hN (by kernel_rfl) allNil ?_
  obtain ⟨hg1, hr⟩ := of_guard hr
  refine HT.reg1 [0, 3] [⟨none, .ty (.int .u8)⟩, ⟨none, .no⟩, ⟨none, .no⟩, ⟨none, .no⟩, ⟨none, .no⟩, ⟨none, .no⟩, ⟨none, .no⟩, ⟨none, .no⟩, ⟨none, .ty (.int .u8)⟩, ⟨none, .ty (.int .u8)⟩, ⟨none, .no⟩] ⟨[(0, .one (.ip (.st (.pair .str (.st (.pair (.int .i64) (.pair (.int .i64) (.pair (.sl (.int .i64)) (.sl .bool))))))) a0 0)), (3, .one (.all 2))], [(0, .gone), (2, .seq (.int .u8) (([(65 : Int), (85 : Int), (84 : Int), (49 : Int)] : List Int) ++ ([(IntKind.wrap .u8 (lenI a0.1))] : List Int))), (1, .seq (.int .u8) ([(IntKind.wrap .u8 (lenI a0.1))] : List Int)), (0, .seq (.int .u8) ([(65 : Int), (85 : Int), (84 : Int), (49 : Int)] : List Int)), (0, .seq (.int .u8) ([(65 : Int), (85 : Int), (84 : Int), (49 : Int)] : List Int))], 3⟩ hP hN (by kernel_rfl) (allCons (show 0 < List.length ([(65 : Int), (85 : Int), (84 : Int), (49 : Int)] : List Int) from by decide) (allCons hg1 allNil)) ?_
  obtain ⟨q2, hq3, hr⟩ := of_bind hr
  have hq3 := of_some2 hq3
  refine (Le.cv (s := ⟨[(2, 2), (1, 1)], [], [], false⟩) (own := []) (ps := [a0 = a0, q2 = (([(65 : Int), (85 : Int), (84 : Int), (49 : Int)] : List Int) ++ ([(IntKind.wrap .u8 (lenI a0.1))] : List Int)), ([(IntKind.wrap .u8 (lenI a0.1))] : List Int) = ([(IntKind.wrap .u8 (lenI a0.1))] : List Int)]) (st' := ⟨[(0, .one (.ip (.st (.pair .str (.st (.pair (.int .i64) (.pair (.int .i64) (.pair (.sl (.int .i64)) (.sl .bool))))))) a0 0)), (3, .one (.all 2))], [(2, .seq (.int .u8) q2), (1, .seq (.int .u8) ([(IntKind.wrap .u8 (lenI a0.1))] : List Int))], 3⟩) hO (fun h => by cases h) (by kernel_rfl) ⟨rfl, hq3, rfl, trivial⟩).ht ?_
  obtain ⟨hg4, hr⟩ := of_guard hr
  obtain ⟨hg5, hr⟩ := of_guard hr
  refine HT.reg1 [0, 3] [⟨none, .no⟩, ⟨none, .no⟩, ⟨none, .no⟩, ⟨none, .no⟩, ⟨none, .no⟩, ⟨none, .no⟩, ⟨none, .ty (.int .u8)⟩, ⟨none, .no⟩] ⟨[(0, .one (.ip (.st (.pair .str (.st (.pair (.int .i64) (.pair (.int .i64) (.pair (.sl (.int .i64)) (.sl .bool))))))) a0 0)), (3, .one (.all 4))], [(2, .gone), (4, .seq (.int .u8) (q2 ++ (bytesI a0.1))), (3, .seq (.int .u8) (bytesI a0.1)), (2, .seq (.int .u8) q2), (1, .seq (.int .u8) ([(IntKind.wrap .u8 (lenI a0.1))] : List Int))], 5⟩ hP hN (by kernel_rfl) (allCons hg4 (allCons hg5 allNil)) ?_
  obtain ⟨hg6, hr⟩ := of_guard hr
  refine HT.drw1 [0, 3] 14 [⟨⟨none, .no⟩, []⟩, ⟨⟨none, .no⟩, []⟩, ⟨⟨none, .no⟩, [1]⟩, ⟨⟨none, .no⟩, [1, 2]⟩, ⟨⟨none, .no⟩, [1, 2, 3]⟩, ⟨⟨none, .no⟩, [1, 2, 3, 4]⟩, ⟨⟨none, .no⟩, [1, 2, 3, 4, 5]⟩, ⟨⟨none, .no⟩, []⟩, ⟨⟨none, .no⟩, [7]⟩, ⟨⟨none, .no⟩, [7, 8]⟩, ⟨⟨none, .no⟩, [7, 8, 9]⟩, ⟨⟨none, .no⟩, [7, 8, 9, 10]⟩, ⟨⟨none, .no⟩, [7, 8, 9, 10, 11]⟩, ⟨⟨none, .ty (.int .u8)⟩, [1, 2, 3, 4, 5, 6, 7, 8, 9, 10, 11, 12]⟩] [[0, 1, 2, 3, 4, 5, 6, 7, 8, 9, 10, 11, 12, 13], [0, 1, 2, 3, 4, 5, 6, 7, 8, 9, 10, 11, 12, 13, 14]] [⟨none, .ty (.int .u8)⟩, ⟨none, .no⟩] ⟨[(0, .one (.ip (.st (.pair .str (.st (.pair (.int .i64) (.pair (.int .i64) (.pair (.sl (.int .i64)) (.sl .bool))))))) a0 0)), (3, .one (.all 6))], [(4, .gone), (6, .seq (.int .u8) ((q2 ++ (bytesI a0.1)) ++ ([(IntKind.wrap .u8 a0.2.1), (IntKind.wrap .u8 a0.2.2.1)] : List Int))), (5, .seq (.int .u8) ([(IntKind.wrap .u8 a0.2.1), (IntKind.wrap .u8 a0.2.2.1)] : List Int)), (2, .gone), (4, .seq (.int .u8) (q2 ++ (bytesI a0.1))), (3, .seq (.int .u8) (bytesI a0.1)), (2, .seq (.int .u8) q2), (1, .seq (.int .u8) ([(IntKind.wrap .u8 (lenI a0.1))] : List Int))], 7⟩ hP hN (by kernel_rfl) (by kernel_rfl) (allCons hg6 allNil) ?_
  obtain ⟨q7, hq8, hr⟩ := of_bind hr
  have hq8 := of_some2 hq8
  refine (Le.cv (s := ⟨[(6, 6), (5, 5), (3, 3), (1, 1)], [], [], false⟩) (own := []) (ps := [a0 = a0, q7 = ((q2 ++ (bytesI a0.1)) ++ ([(IntKind.wrap .u8 a0.2.1), (IntKind.wrap .u8 a0.2.2.1)] : List Int)), ([(IntKind.wrap .u8 a0.2.1), (IntKind.wrap .u8 a0.2.2.1)] : List Int) = ([(IntKind.wrap .u8 a0.2.1), (IntKind.wrap .u8 a0.2.2.1)] : List Int), (bytesI a0.1) = (bytesI a0.1), ([(IntKind.wrap .u8 (lenI a0.1))] : List Int) = ([(IntKind.wrap .u8 (lenI a0.1))] : List Int)]) (st' := ⟨[(0, .one (.ip (.st (.pair .str (.st (.pair (.int .i64) (.pair (.int .i64) (.pair (.sl (.int .i64)) (.sl .bool))))))) a0 0)), (3, .one (.all 6))], [(6, .seq (.int .u8) q7), (5, .seq (.int .u8) ([(IntKind.wrap .u8 a0.2.1), (IntKind.wrap .u8 a0.2.2.1)] : List Int)), (3, .seq (.int .u8) (bytesI a0.1)), (1, .seq (.int .u8) ([(IntKind.wrap .u8 (lenI a0.1))] : List Int))], 7⟩) hO (fun h => by cases h) (by kernel_rfl) ⟨rfl, hq8, rfl, rfl, rfl, trivial⟩).ht ?_
  refine HT.seq ?_
  refine HT.reg1 [0, 3, 45, 46] [⟨none, .no⟩, ⟨none, .no⟩, ⟨none, .no⟩, ⟨none, .no⟩, ⟨none, .no⟩, ⟨none, .no⟩, ⟨none, .no⟩] ⟨[(0, .one (.ip (.st (.pair .str (.st (.pair (.int .i64) (.pair (.int .i64) (.pair (.sl (.int .i64)) (.sl .bool))))))) a0 0)), (3, .one (.all 6)), (45, .one (.dat (.int .i64) (lenI a0.2.2.2.1))), (46, .one (.dat (.int .i64) (0 : Int)))], [(6, .seq (.int .u8) q7), (5, .seq (.int .u8) ([(IntKind.wrap .u8 a0.2.1), (IntKind.wrap .u8 a0.2.2.1)] : List Int)), (3, .seq (.int .u8) (bytesI a0.1)), (1, .seq (.int .u8) ([(IntKind.wrap .u8 (lenI a0.1))] : List Int))], 7⟩ hP hN (by kernel_rfl) allNil ?_
  refine HT.block ?_
  obtain ⟨r10, hL41, hr⟩ := of_bind hr
  refine (Le.cv (s := ⟨[(6, 0)], [], [], false⟩) (own := []) (ps := [a0 = a0, (lenI a0.2.2.2.1) = (lenI a0.2.2.2.1), (0 : Int) = (0 : Int), q7 = q7]) (st' := ⟨[(0, .one (.ip (.st (.pair .str (.st (.pair (.int .i64) (.pair (.int .i64) (.pair (.sl (.int .i64)) (.sl .bool))))))) a0 0)), (3, .one (.all 0)), (45, .one (.dat (.int .i64) (lenI a0.2.2.2.1))), (46, .one (.dat (.int .i64) (0 : Int)))], [(0, .seq (.int .u8) q7)], 1⟩) hO (fun h => by cases h) (by kernel_rfl) ⟨rfl, rfl, rfl, rfl, trivial⟩).ht ?_
  refine HT.loopE (s := ((0 : Int), q7)) (fun (s9 : Int × List Int) => ⟨[(0, .one (.ip (.st (.pair .str (.st (.pair (.int .i64) (.pair (.int .i64) (.pair (.sl (.int .i64)) (.sl .bool))))))) a0 0)), (3, .one (.all 0)), (45, .one (.dat (.int .i64) (lenI a0.2.2.2.1))), (46, .one (.dat (.int .i64) s9.1))], [(0, .seq (.int .u8) s9.2)], 1⟩) (fun (r11 : List Int) => (.exit 0, ⟨[(0, .one (.ip (.st (.pair .str (.st (.pair (.int .i64) (.pair (.int .i64) (.pair (.sl (.int .i64)) (.sl .bool))))))) a0 0)), (3, .one (.all 0))], [(0, .seq (.int .u8) r11)], 1⟩)) hL41 ?_ (fun s9 x35 hx36 hk37 => ?_)
  · refine (qBlockX (qThen ?_))
    refine HT.seq ?_
    refine HT.reg1 [0, 3, 67, 68] [⟨none, .no⟩, ⟨none, .no⟩, ⟨none, .no⟩, ⟨none, .no⟩, ⟨none, .no⟩, ⟨none, .no⟩, ⟨none, .no⟩] ⟨[(0, .one (.ip (.st (.pair .str (.st (.pair (.int .i64) (.pair (.int .i64) (.pair (.sl (.int .i64)) (.sl .bool))))))) a0 0)), (3, .one (.all 0)), (67, .one (.dat (.int .i64) (lenI a0.2.2.2.2))), (68, .one (.dat (.int .i64) (0 : Int)))], [(0, .seq (.int .u8) r10)], 1⟩ hP hN (by kernel_rfl) allNil ?_
    refine HT.block ?_
    obtain ⟨r13, hL34, hr⟩ := of_bind hr
    refine (Le.cv (s := ⟨[(0, 0)], [], [], false⟩) (own := []) (ps := [a0 = a0, (lenI a0.2.2.2.2) = (lenI a0.2.2.2.2), (0 : Int) = (0 : Int), r10 = r10]) (st' := ⟨[(0, .one (.ip (.st (.pair .str (.st (.pair (.int .i64) (.pair (.int .i64) (.pair (.sl (.int .i64)) (.sl .bool))))))) a0 0)), (3, .one (.all 0)), (67, .one (.dat (.int .i64) (lenI a0.2.2.2.2))), (68, .one (.dat (.int .i64) (0 : Int)))], [(0, .seq (.int .u8) r10)], 1⟩) hO (fun h => by cases h) (by kernel_rfl) ⟨rfl, rfl, rfl, rfl, trivial⟩).ht ?_
    refine HT.loopE (s := ((0 : Int), r10)) (fun (s12 : Int × List Int) => ⟨[(0, .one (.ip (.st (.pair .str (.st (.pair (.int .i64) (.pair (.int .i64) (.pair (.sl (.int .i64)) (.sl .bool))))))) a0 0)), (3, .one (.all 0)), (67, .one (.dat (.int .i64) (lenI a0.2.2.2.2))), (68, .one (.dat (.int .i64) s12.1))], [(0, .seq (.int .u8) s12.2)], 1⟩) (fun (r14 : List Int) => (.exit 2, ⟨[(3, .one (.all 0))], [(0, .seq (.int .u8) r14)], 1⟩)) hL34 ?_ (fun s12 x24 hx25 hk26 => ?_)
    · refine (qBlockX (qThen ?_))
      obtain ⟨y15, hc16, hr⟩ := of_bind hr
      refine HT.reg1 [3, 7] [⟨none, .no⟩, ⟨none, .no⟩, ⟨none, .call [.imm (.int .i64), .imm .str] [⟨false, (.int .i64), y15⟩] []⟩, ⟨none, .no⟩] ⟨[(3, .one (.all 0)), (7, .one (.dat (.int .i64) y15))], [(0, .seq (.int .u8) r13)], 1⟩ hP hN (by kernel_rfl) (allCons (f129_ok hc16) allNil) ?_
      obtain ⟨hg17, hr⟩ := of_guard hr
      refine HT.reg1 [2] [⟨none, .no⟩, ⟨none, .no⟩, ⟨none, .no⟩, ⟨none, .no⟩, ⟨none, .no⟩, ⟨none, .no⟩, ⟨none, .no⟩, ⟨none, .ty (.int .u8)⟩, ⟨none, .ty (.int .u8)⟩, ⟨none, .no⟩, ⟨none, .no⟩] ⟨[(2, .one (.dat .str (bytesO (r13 ++ ([(IntKind.wrap .u8 (Int.tmod y15 (256 : Int))), (IntKind.wrap .u8 (IntKind.wrap .i64 (Int.tdiv y15 (256 : Int))))] : List Int)))))], [(0, .gone), (2, .seq (.int .u8) (r13 ++ ([(IntKind.wrap .u8 (Int.tmod y15 (256 : Int))), (IntKind.wrap .u8 (IntKind.wrap .i64 (Int.tdiv y15 (256 : Int))))] : List Int))), (1, .seq (.int .u8) ([(IntKind.wrap .u8 (Int.tmod y15 (256 : Int))), (IntKind.wrap .u8 (IntKind.wrap .i64 (Int.tdiv y15 (256 : Int))))] : List Int)), (0, .seq (.int .u8) r13)], 3⟩ hP hN (by kernel_rfl) (allCons (show (256 : Int) ≠ 0 from by decide) (allCons (show (256 : Int) ≠ 0 from by decide) (allCons hg17 allNil))) ?_
      obtain ⟨q18, hq19, hr⟩ := of_bind hr
      have hq19 := of_some2 hq19
      obtain ⟨q20, hq21, hr⟩ := of_bind hr
      have hq21 := of_some2 hq21
      obtain ⟨q22, hq23, hr⟩ := of_bind hr
      have hq23 := of_some2 hq23
      refine (Le.cv (s := ⟨[(2, 2), (1, 1)], [], [], false⟩) (own := []) (ps := [q18 = (bytesO (r13 ++ ([(IntKind.wrap .u8 (Int.tmod y15 (256 : Int))), (IntKind.wrap .u8 (IntKind.wrap .i64 (Int.tdiv y15 (256 : Int))))] : List Int))), q20 = (r13 ++ ([(IntKind.wrap .u8 (Int.tmod y15 (256 : Int))), (IntKind.wrap .u8 (IntKind.wrap .i64 (Int.tdiv y15 (256 : Int))))] : List Int)), q22 = ([(IntKind.wrap .u8 (Int.tmod y15 (256 : Int))), (IntKind.wrap .u8 (IntKind.wrap .i64 (Int.tdiv y15 (256 : Int))))] : List Int)]) (st' := ⟨[(2, .one (.dat .str q18))], [(2, .seq (.int .u8) q20), (1, .seq (.int .u8) q22)], 3⟩) hO (fun h => by cases h) (by kernel_rfl) ⟨hq19, hq21, hq23, trivial⟩).ht ?_
      have hr := of_some hr
      subst hr
      exact HT.ret ⟨[.one (.dat .str q18)], [], [], by kernel_rfl, by kernel_rfl, rfl, by kernel_rfl, by kernel_rfl, trivial⟩
    · refine HT.reg1 [0, 3, 67, 68, 69] [⟨none, .no⟩] ⟨[(0, .one (.ip (.st (.pair .str (.st (.pair (.int .i64) (.pair (.int .i64) (.pair (.sl (.int .i64)) (.sl .bool))))))) a0 0)), (3, .one (.all 0)), (67, .one (.dat (.int .i64) (lenI a0.2.2.2.2))), (68, .one (.dat (.int .i64) s12.1)), (69, .one (.dat .bool (decide (s12.1 < (lenI a0.2.2.2.2)))))], [(0, .seq (.int .u8) s12.2)], 1⟩ hP hN (by kernel_rfl) allNil ?_
      refine HT.seq ?_
      rcases of_bif hx25 with ⟨hb27, hx25⟩ | ⟨hb27, hx25⟩
      · refine HT.cond1 rfl hb27 ?_
        refine HT.skip (qThen ?_)
        refine HT.seq ?_
        refine HT.block ?_
        refine HT.reg1 [0, 3, 5, 67, 68] [⟨none, .no⟩, ⟨none, .no⟩] ⟨[(0, .one (.ip (.st (.pair .str (.st (.pair (.int .i64) (.pair (.int .i64) (.pair (.sl (.int .i64)) (.sl .bool))))))) a0 0)), (3, .one (.all 0)), (5, .one (.dat (.int .i64) s12.1)), (67, .one (.dat (.int .i64) (lenI a0.2.2.2.2))), (68, .one (.dat (.int .i64) s12.1))], [(0, .seq (.int .u8) s12.2)], 1⟩ hP hN (by kernel_rfl) allNil ?_
        refine HT.reg1 [0, 3, 5, 6, 67, 68] [⟨none, .no⟩] ⟨[(0, .one (.ip (.st (.pair .str (.st (.pair (.int .i64) (.pair (.int .i64) (.pair (.sl (.int .i64)) (.sl .bool))))))) a0 0)), (3, .one (.all 0)), (5, .one (.dat (.int .i64) s12.1)), (6, .one (.dat (.int .u8) (0 : Int))), (67, .one (.dat (.int .i64) (lenI a0.2.2.2.2))), (68, .one (.dat (.int .i64) s12.1))], [(0, .seq (.int .u8) s12.2)], 1⟩ hP hN (by kernel_rfl) allNil ?_
        obtain ⟨v28', hT30, hx25⟩ := of_bind hx25
        refine HT.join (fun (v28 : Int) => ⟨[(0, .one (.ip (.st (.pair .str (.st (.pair (.int .i64) (.pair (.int .i64) (.pair (.sl (.int .i64)) (.sl .bool))))))) a0 0)), (3, .one (.all 0)), (6, .one (.dat (.int .u8) v28)), (67, .one (.dat (.int .i64) (lenI a0.2.2.2.2))), (68, .one (.dat (.int .i64) s12.1))], [(0, .seq (.int .u8) s12.2)], 1⟩) (fun v => v = v28') (fun v28 hv29 => ?_) (fun cont => ?_)
        · subst hv29
          obtain ⟨hg31, hx25⟩ := of_guard hx25
          refine HT.reg (rs := [⟨none, .no⟩, ⟨none, .no⟩, ⟨none, .ty (.int .u8)⟩, ⟨none, .ty (.int .u8)⟩, ⟨none, .no⟩]) (st' := ⟨[(3, .one (.all 2)), (82, .one (.all 2)), (81, .one (.all 1)), (80, .one (.dat (.int .u8) v28)), (79, .one (.all 0)), (0, .one (.ip (.st (.pair .str (.st (.pair (.int .i64) (.pair (.int .i64) (.pair (.sl (.int .i64)) (.sl .bool))))))) a0 0)), (3, .one (.all 0)), (6, .one (.dat (.int .u8) v28)), (67, .one (.dat (.int .i64) (lenI a0.2.2.2.2))), (68, .one (.dat (.int .i64) s12.1))], [(0, .gone), (2, .seq (.int .u8) (s12.2 ++ ([v28] : List Int))), (1, .seq (.int .u8) ([v28] : List Int)), (0, .seq (.int .u8) s12.2)], 3⟩) hP hN (by kernel_rfl) (allCons hg31 allNil) (qBlock (qThen ?_))
          have hx25 := of_some hx25
          subst hx25
          refine HT.reg (rs := [⟨none, .no⟩, ⟨none, .no⟩]) (st' := ⟨[(68, .one (.dat (.int .i64) (wadd .i64 s12.1 (1 : Int)))), (83, .one (.dat (.int .i64) (wadd .i64 s12.1 (1 : Int)))), (3, .one (.all 2)), (82, .one (.all 2)), (81, .one (.all 1)), (80, .one (.dat (.int .u8) v28)), (79, .one (.all 0)), (0, .one (.ip (.st (.pair .str (.st (.pair (.int .i64) (.pair (.int .i64) (.pair (.sl (.int .i64)) (.sl .bool))))))) a0 0)), (3, .one (.all 0)), (6, .one (.dat (.int .u8) v28)), (67, .one (.dat (.int .i64) (lenI a0.2.2.2.2))), (68, .one (.dat (.int .i64) s12.1))], [(0, .gone), (2, .seq (.int .u8) (s12.2 ++ ([v28] : List Int))), (1, .seq (.int .u8) ([v28] : List Int)), (0, .seq (.int .u8) s12.2)], 3⟩) hP hN (by kernel_rfl) allNil (qLoopN ⟨((wadd .i64 s12.1 (1 : Int)), (s12.2 ++ ([v28] : List Int))), rfl, Le.cv (s := ⟨[(2, 0)], [], [], false⟩) (own := []) (ps := [a0 = a0, (lenI a0.2.2.2.2) = (lenI a0.2.2.2.2), (wadd .i64 s12.1 (1 : Int)) = (wadd .i64 s12.1 (1 : Int)), (s12.2 ++ ([v28] : List Int)) = (s12.2 ++ ([v28] : List Int))]) (st' := ⟨[(0, .one (.ip (.st (.pair .str (.st (.pair (.int .i64) (.pair (.int .i64) (.pair (.sl (.int .i64)) (.sl .bool))))))) a0 0)), (3, .one (.all 0)), (67, .one (.dat (.int .i64) (lenI a0.2.2.2.2))), (68, .one (.dat (.int .i64) (wadd .i64 s12.1 (1 : Int))))], [(0, .seq (.int .u8) (s12.2 ++ ([v28] : List Int)))], 1⟩) hO (fun h => by cases h) (by kernel_rfl) ⟨rfl, rfl, rfl, rfl, trivial⟩⟩)
        · obtain ⟨hg32, hT30⟩ := of_guard hT30
          refine HT.reg1 [0, 3, 6, 67, 68, 78] [⟨none, .no⟩, ⟨none, .no⟩, ⟨none, .no⟩, ⟨none, .no⟩, ⟨none, .no⟩, ⟨none, .no⟩, ⟨none, .no⟩, ⟨none, .no⟩] ⟨[(0, .one (.ip (.st (.pair .str (.st (.pair (.int .i64) (.pair (.int .i64) (.pair (.sl (.int .i64)) (.sl .bool))))))) a0 0)), (3, .one (.all 0)), (6, .one (.dat (.int .u8) (0 : Int))), (67, .one (.dat (.int .i64) (lenI a0.2.2.2.2))), (68, .one (.dat (.int .i64) s12.1)), (78, .one (.dat .bool (List.getD a0.2.2.2.2 (Int.toNat s12.1) false)))], [(0, .seq (.int .u8) s12.2)], 1⟩ hP hN (by kernel_rfl) (allCons hg32 allNil) ?_
          rcases of_bif hT30 with ⟨hb33, hT30⟩ | ⟨hb33, hT30⟩
          · refine HT.cond1 rfl hb33 ?_
            refine HT.reg (rs := [⟨none, .no⟩]) (st' := ⟨[(6, .one (.dat (.int .u8) (1 : Int))), (0, .one (.ip (.st (.pair .str (.st (.pair (.int .i64) (.pair (.int .i64) (.pair (.sl (.int .i64)) (.sl .bool))))))) a0 0)), (3, .one (.all 0)), (6, .one (.dat (.int .u8) (0 : Int))), (67, .one (.dat (.int .i64) (lenI a0.2.2.2.2))), (68, .one (.dat (.int .i64) s12.1)), (78, .one (.dat .bool (List.getD a0.2.2.2.2 (Int.toNat s12.1) false)))], [(0, .seq (.int .u8) s12.2)], 1⟩) hP hN (by kernel_rfl) allNil (qThen ?_)
            exact (Le.cv (s := ⟨[(0, 0)], [], [], false⟩) (own := []) (ps := [a0 = a0, (1 : Int) = (1 : Int), (lenI a0.2.2.2.2) = (lenI a0.2.2.2.2), s12.1 = s12.1, s12.2 = s12.2]) (st' := ⟨[(0, .one (.ip (.st (.pair .str (.st (.pair (.int .i64) (.pair (.int .i64) (.pair (.sl (.int .i64)) (.sl .bool))))))) a0 0)), (3, .one (.all 0)), (6, .one (.dat (.int .u8) (1 : Int))), (67, .one (.dat (.int .i64) (lenI a0.2.2.2.2))), (68, .one (.dat (.int .i64) s12.1))], [(0, .seq (.int .u8) s12.2)], 1⟩) hO (fun h => by cases h) (by kernel_rfl) ⟨rfl, rfl, rfl, rfl, rfl, trivial⟩).ht (cont (1 : Int) (of_some hT30))
          · refine HT.cond0 rfl hb33 ?_
            refine HT.skip (qThen ?_)
            exact (Le.cv (s := ⟨[(0, 0)], [], [], false⟩) (own := []) (ps := [a0 = a0, (0 : Int) = (0 : Int), (lenI a0.2.2.2.2) = (lenI a0.2.2.2.2), s12.1 = s12.1, s12.2 = s12.2]) (st' := ⟨[(0, .one (.ip (.st (.pair .str (.st (.pair (.int .i64) (.pair (.int .i64) (.pair (.sl (.int .i64)) (.sl .bool))))))) a0 0)), (3, .one (.all 0)), (6, .one (.dat (.int .u8) (0 : Int))), (67, .one (.dat (.int .i64) (lenI a0.2.2.2.2))), (68, .one (.dat (.int .i64) s12.1))], [(0, .seq (.int .u8) s12.2)], 1⟩) hO (fun h => by cases h) (by kernel_rfl) ⟨rfl, rfl, rfl, rfl, rfl, trivial⟩).ht (cont (0 : Int) (of_some hT30))
      · refine HT.cond0 rfl hb27 ?_
        have hx25 := of_some hx25
        subst hx25
        refine (Le.cv (s := ⟨[(0, 0)], [], [], false⟩) (own := []) (ps := [s12.2 = s12.2]) (st' := ⟨[(3, .one (.all 0))], [(0, .seq (.int .u8) s12.2)], 1⟩) hO (fun h => by cases h) (by kernel_rfl) ⟨rfl, trivial⟩).ht ?_
        exact HT.exit (qThenE (qLoopE (hk26 s12.2 rfl)))
  · refine HT.reg1 [0, 3, 45, 46, 47] [⟨none, .no⟩] ⟨[(0, .one (.ip (.st (.pair .str (.st (.pair (.int .i64) (.pair (.int .i64) (.pair (.sl (.int .i64)) (.sl .bool))))))) a0 0)), (3, .one (.all 0)), (45, .one (.dat (.int .i64) (lenI a0.2.2.2.1))), (46, .one (.dat (.int .i64) s9.1)), (47, .one (.dat .bool (decide (s9.1 < (lenI a0.2.2.2.1)))))], [(0, .seq (.int .u8) s9.2)], 1⟩ hP hN (by kernel_rfl) allNil ?_
    refine HT.seq ?_
    rcases of_bif hx36 with ⟨hb38, hx36⟩ | ⟨hb38, hx36⟩
    · refine HT.cond1 rfl hb38 ?_
      refine HT.skip (qThen ?_)
      refine HT.seq ?_
      refine HT.block ?_
      refine HT.reg1 [0, 3, 4, 45, 46] [⟨none, .no⟩, ⟨none, .no⟩] ⟨[(0, .one (.ip (.st (.pair .str (.st (.pair (.int .i64) (.pair (.int .i64) (.pair (.sl (.int .i64)) (.sl .bool))))))) a0 0)), (3, .one (.all 0)), (4, .one (.dat (.int .i64) s9.1)), (45, .one (.dat (.int .i64) (lenI a0.2.2.2.1))), (46, .one (.dat (.int .i64) s9.1))], [(0, .seq (.int .u8) s9.2)], 1⟩ hP hN (by kernel_rfl) allNil ?_
      obtain ⟨hg39, hx36⟩ := of_guard hx36
      obtain ⟨hg40, hx36⟩ := of_guard hx36
      refine HT.reg (rs := [⟨none, .no⟩, ⟨none, .no⟩, ⟨none, .no⟩, ⟨none, .no⟩, ⟨none, .no⟩, ⟨none, .no⟩, ⟨none, .no⟩, ⟨none, .no⟩, ⟨none, .no⟩, ⟨none, .no⟩, ⟨none, .ty (.int .u8)⟩, ⟨none, .ty (.int .u8)⟩, ⟨none, .no⟩]) (st' := ⟨[(3, .one (.all 2)), (60, .one (.all 2)), (59, .one (.all 1)), (58, .one (.dat (.int .u8) (IntKind.wrap .u8 (List.getD a0.2.2.2.1 (Int.toNat s9.1) (0 : Int))))), (57, .one (.dat (.int .i64) (List.getD a0.2.2.2.1 (Int.toNat s9.1) (0 : Int)))), (56, .one (.ip (.int .i64) (List.getD a0.2.2.2.1 (Int.toNat s9.1) (0 : Int)) 0)), (55, .one (.dat (.int .i64) s9.1)), (54, .one (.dat (.sl (.int .i64)) a0.2.2.2.1)), (53, .one (.ip (.st (.pair .str (.st (.pair (.int .i64) (.pair (.int .i64) (.pair (.sl (.int .i64)) (.sl .bool))))))) a0 3)), (52, .one (.ip (.st (.pair .str (.st (.pair (.int .i64) (.pair (.int .i64) (.pair (.sl (.int .i64)) (.sl .bool))))))) a0 1)), (51, .one (.ip (.st (.pair .str (.st (.pair (.int .i64) (.pair (.int .i64) (.pair (.sl (.int .i64)) (.sl .bool))))))) a0 0)), (50, .one (.ip (.st (.pair .str (.st (.pair (.int .i64) (.pair (.int .i64) (.pair (.sl (.int .i64)) (.sl .bool))))))) a0 0)), (49, .one (.all 0)), (0, .one (.ip (.st (.pair .str (.st (.pair (.int .i64) (.pair (.int .i64) (.pair (.sl (.int .i64)) (.sl .bool))))))) a0 0)), (3, .one (.all 0)), (4, .one (.dat (.int .i64) s9.1)), (45, .one (.dat (.int .i64) (lenI a0.2.2.2.1))), (46, .one (.dat (.int .i64) s9.1))], [(0, .gone), (2, .seq (.int .u8) (s9.2 ++ ([(IntKind.wrap .u8 (List.getD a0.2.2.2.1 (Int.toNat s9.1) (0 : Int)))] : List Int))), (1, .seq (.int .u8) ([(IntKind.wrap .u8 (List.getD a0.2.2.2.1 (Int.toNat s9.1) (0 : Int)))] : List Int)), (0, .seq (.int .u8) s9.2)], 3⟩) hP hN (by kernel_rfl) (allCons hg39 (allCons hg40 allNil)) (qBlock (qThen ?_))
      have hx36 := of_some hx36
      subst hx36
      refine HT.reg (rs := [⟨none, .no⟩, ⟨none, .no⟩]) (st' := ⟨[(46, .one (.dat (.int .i64) (wadd .i64 s9.1 (1 : Int)))), (61, .one (.dat (.int .i64) (wadd .i64 s9.1 (1 : Int)))), (3, .one (.all 2)), (60, .one (.all 2)), (59, .one (.all 1)), (58, .one (.dat (.int .u8) (IntKind.wrap .u8 (List.getD a0.2.2.2.1 (Int.toNat s9.1) (0 : Int))))), (57, .one (.dat (.int .i64) (List.getD a0.2.2.2.1 (Int.toNat s9.1) (0 : Int)))), (56, .one (.ip (.int .i64) (List.getD a0.2.2.2.1 (Int.toNat s9.1) (0 : Int)) 0)), (55, .one (.dat (.int .i64) s9.1)), (54, .one (.dat (.sl (.int .i64)) a0.2.2.2.1)), (53, .one (.ip (.st (.pair .str (.st (.pair (.int .i64) (.pair (.int .i64) (.pair (.sl (.int .i64)) (.sl .bool))))))) a0 3)), (52, .one (.ip (.st (.pair .str (.st (.pair (.int .i64) (.pair (.int .i64) (.pair (.sl (.int .i64)) (.sl .bool))))))) a0 1)), (51, .one (.ip (.st (.pair .str (.st (.pair (.int .i64) (.pair (.int .i64) (.pair (.sl (.int .i64)) (.sl .bool))))))) a0 0)), (50, .one (.ip (.st (.pair .str (.st (.pair (.int .i64) (.pair (.int .i64) (.pair (.sl (.int .i64)) (.sl .bool))))))) a0 0)), (49, .one (.all 0)), (0, .one (.ip (.st (.pair .str (.st (.pair (.int .i64) (.pair (.int .i64) (.pair (.sl (.int .i64)) (.sl .bool))))))) a0 0)), (3, .one (.all 0)), (4, .one (.dat (.int .i64) s9.1)), (45, .one (.dat (.int .i64) (lenI a0.2.2.2.1))), (46, .one (.dat (.int .i64) s9.1))], [(0, .gone), (2, .seq (.int .u8) (s9.2 ++ ([(IntKind.wrap .u8 (List.getD a0.2.2.2.1 (Int.toNat s9.1) (0 : Int)))] : List Int))), (1, .seq (.int .u8) ([(IntKind.wrap .u8 (List.getD a0.2.2.2.1 (Int.toNat s9.1) (0 : Int)))] : List Int)), (0, .seq (.int .u8) s9.2)], 3⟩) hP hN (by kernel_rfl) allNil (qLoopN ⟨((wadd .i64 s9.1 (1 : Int)), (s9.2 ++ ([(IntKind.wrap .u8 (List.getD a0.2.2.2.1 (Int.toNat s9.1) (0 : Int)))] : List Int))), rfl, Le.cv (s := ⟨[(2, 0)], [], [], false⟩) (own := []) (ps := [a0 = a0, (lenI a0.2.2.2.1) = (lenI a0.2.2.2.1), (wadd .i64 s9.1 (1 : Int)) = (wadd .i64 s9.1 (1 : Int)), (s9.2 ++ ([(IntKind.wrap .u8 (List.getD a0.2.2.2.1 (Int.toNat s9.1) (0 : Int)))] : List Int)) = (s9.2 ++ ([(IntKind.wrap .u8 (List.getD a0.2.2.2.1 (Int.toNat s9.1) (0 : Int)))] : List Int))]) (st' := ⟨[(0, .one (.ip (.st (.pair .str (.st (.pair (.int .i64) (.pair (.int .i64) (.pair (.sl (.int .i64)) (.sl .bool))))))) a0 0)), (3, .one (.all 0)), (45, .one (.dat (.int .i64) (lenI a0.2.2.2.1))), (46, .one (.dat (.int .i64) (wadd .i64 s9.1 (1 : Int))))], [(0, .seq (.int .u8) (s9.2 ++ ([(IntKind.wrap .u8 (List.getD a0.2.2.2.1 (Int.toNat s9.1) (0 : Int)))] : List Int)))], 1⟩) hO (fun h => by cases h) (by kernel_rfl) ⟨rfl, rfl, rfl, rfl, trivial⟩⟩)
    · refine HT.cond0 rfl hb38 ?_
      have hx36 := of_some hx36
      subst hx36
      refine (Le.cv (s := ⟨[(0, 0)], [], [], false⟩) (own := []) (ps := [a0 = a0, s9.2 = s9.2]) (st' := ⟨[(0, .one (.ip (.st (.pair .str (.st (.pair (.int .i64) (.pair (.int .i64) (.pair (.sl (.int .i64)) (.sl .bool))))))) a0 0)), (3, .one (.all 0))], [(0, .seq (.int .u8) s9.2)], 1⟩) hO (fun h => by cases h) (by kernel_rfl) ⟨rfl, rfl, trivial⟩).ht ?_
      exact HT.exit (qThenE (qLoopE (hk37 s9.2 rfl)))

noncomputable def spec_StoreKepts_B1 (a0 : List (List UInt8 × Int × Int × List Int × List Bool)) (s2 : List UInt8 × Int) : Option ((List UInt8 × Int) ⊕ (List UInt8 ⊕ Unit)) :=
  bif (decide (s2.2 < (lenI a0))) then
    guardP ((0 : Int) ≤ s2.2 ∧ s2.2 < lenI a0) (
      (spec_l07Kept ((List.getD a0 (Int.toNat s2.2) (([] : List UInt8), (0 : Int), (0 : Int), ([] : List Int), ([] : List Bool))).1, ((List.getD a0 (Int.toNat s2.2) (([] : List UInt8), (0 : Int), (0 : Int), ([] : List Int), ([] : List Bool))).2).1, (((List.getD a0 (Int.toNat s2.2) (([] : List UInt8), (0 : Int), (0 : Int), ([] : List Int), ([] : List Bool))).2).2).1, ((((List.getD a0 (Int.toNat s2.2) (([] : List UInt8), (0 : Int), (0 : Int), ([] : List Int), ([] : List Bool))).2).2).2).1, ((((List.getD a0 (Int.toNat s2.2) (([] : List UInt8), (0 : Int), (0 : Int), ([] : List Int), ([] : List Bool))).2).2).2).2)).bind fun y11 =>
      bif (!y11) then
        some (.inr (.inr ()))
      else
        (spec_l07Store ((List.getD a0 (Int.toNat s2.2) (([] : List UInt8), (0 : Int), (0 : Int), ([] : List Int), ([] : List Bool))).1, ((List.getD a0 (Int.toNat s2.2) (([] : List UInt8), (0 : Int), (0 : Int), ([] : List Int), ([] : List Bool))).2).1, (((List.getD a0 (Int.toNat s2.2) (([] : List UInt8), (0 : Int), (0 : Int), ([] : List Int), ([] : List Bool))).2).2).1, ((((List.getD a0 (Int.toNat s2.2) (([] : List UInt8), (0 : Int), (0 : Int), ([] : List Int), ([] : List Bool))).2).2).2).1, ((((List.getD a0 (Int.toNat s2.2) (([] : List UInt8), (0 : Int), (0 : Int), ([] : List Int), ([] : List Bool))).2).2).2).2)).bind fun y14 =>
        guardP (List.length s2.1 + List.length y14 ≤ appMax) (
          some (.inl ((s2.1 ++ y14), (wadd .i64 s2.2 (1 : Int))))))
  else
    some (.inr (.inl s2.1))

noncomputable def spec_StoreKepts (a0 : List (List UInt8 × Int × Int × List Int × List Bool)) : Option (List UInt8 × Bool) :=
  bif (decide ((lenI a0) > (8 : Int))) then
    some (([] : List UInt8), false)
  else
    (rounds (spec_StoreKepts_B1 a0) (([] : List UInt8), (0 : Int))).bind fun r3 => match r3 with
      | .inl r4 =>
        some (r4, true)
      | .inr r5 =>
        some (([] : List UInt8), false)

theorem f26_ok {a0 : List (List UInt8 × Int × Int × List Int × List Bool)} {r : List UInt8 × Bool} (hr : spec_StoreKepts a0 = some r) : CallOK Try.prog 26 [.imm (.sl (.st (.pair .str (.st (.pair (.int .i64) (.pair (.int .i64) (.pair (.sl (.int .i64)) (.sl .bool)))))))) a0] [⟨false, .str, r.1⟩, ⟨false, .bool, r.2⟩] [] := by
  unfold spec_StoreKepts at hr
  refine CallOK.of_body (ts := [(false, .str), (false, .bool)]) Try.func26 rfl (by kernel_rfl) (Nat.le_of_ble_eq_true (by kernel_rfl)) fun cx hP hN hO hF => ?_
  have hO : cx.own.map Prod.fst = [] := hO
  have hF := hF rfl
  show HT cx ⟨[(0, .one (.dat (.sl (.st (.pair .str (.st (.pair (.int .i64) (.pair (.int .i64) (.pair (.sl (.int .i64)) (.sl .bool)))))))) a0))], [], 0⟩ _ _
  refine HT.reg1 [0] [⟨none, .no⟩, ⟨none, .no⟩] ⟨[(0, .one (.dat (.sl (.st (.pair .str (.st (.pair (.int .i64) (.pair (.int .i64) (.pair (.sl (.int .i64)) (.sl .bool)))))))) a0))], [], 0⟩ hP hN (by kernel_rfl) allNil ?_
  refine HT.seq ?_
  refine HT.reg1 [0, 8] [⟨none, .no⟩, ⟨none, .no⟩, ⟨none, .no⟩] ⟨[(0, .one (.dat (.sl (.st (.pair .str (.st (.pair (.int .i64) (.pair (.int .i64) (.pair (.sl (.int .i64)) (.sl .bool)))))))) a0)), (8, .one (.dat .bool (decide ((lenI a0) > (8 : Int)))))], [], 0⟩ hP hN (by kernel_rfl) allNil ?_
  rcases of_bif hr with ⟨hb1, hr⟩ | ⟨hb1, hr⟩
  · refine HT.cond1 rfl hb1 ?_
    refine HT.reg1 [2, 3] [⟨none, .no⟩, ⟨none, .no⟩] ⟨[(2, .one (.dat .str ([] : List UInt8))), (3, .one (.dat .bool false))], [], 0⟩ hP hN (by kernel_rfl) allNil ?_
    have hr := of_some hr
    subst hr
    exact HT.ret (qThenR ⟨[.one (.dat .str ([] : List UInt8)), .one (.dat .bool false)], [], [], by kernel_rfl, by kernel_rfl, rfl, by kernel_rfl, by kernel_rfl, trivial⟩)
  · refine HT.cond0 rfl hb1 ?_
    refine HT.skip (qThen ?_)
    refine HT.reg1 [0, 4] [⟨none, .no⟩] ⟨[(0, .one (.dat (.sl (.st (.pair .str (.st (.pair (.int .i64) (.pair (.int .i64) (.pair (.sl (.int .i64)) (.sl .bool)))))))) a0)), (4, .one (.dat .str ([] : List UInt8)))], [], 0⟩ hP hN (by kernel_rfl) allNil ?_
    refine HT.seq ?_
    refine HT.reg1 [0, 4, 10, 11] [⟨none, .no⟩, ⟨none, .no⟩, ⟨none, .no⟩] ⟨[(0, .one (.dat (.sl (.st (.pair .str (.st (.pair (.int .i64) (.pair (.int .i64) (.pair (.sl (.int .i64)) (.sl .bool)))))))) a0)), (4, .one (.dat .str ([] : List UInt8))), (10, .one (.dat (.int .i64) (lenI a0))), (11, .one (.dat (.int .i64) (0 : Int)))], [], 0⟩ hP hN (by kernel_rfl) allNil ?_
    refine HT.block ?_
    obtain ⟨r3, hL17, hr⟩ := of_bind hr
    refine (Le.cv (s := ⟨[], [], [], false⟩) (own := []) (ps := [a0 = a0, ([] : List UInt8) = ([] : List UInt8), (lenI a0) = (lenI a0), (0 : Int) = (0 : Int)]) (st' := ⟨[(0, .one (.dat (.sl (.st (.pair .str (.st (.pair (.int .i64) (.pair (.int .i64) (.pair (.sl (.int .i64)) (.sl .bool)))))))) a0)), (4, .one (.dat .str ([] : List UInt8))), (10, .one (.dat (.int .i64) (lenI a0))), (11, .one (.dat (.int .i64) (0 : Int)))], [], 0⟩) hO (fun h => by cases h) (by kernel_rfl) ⟨rfl, rfl, rfl, rfl, trivial⟩).ht ?_
    refine HT.loopE (s := (([] : List UInt8), (0 : Int))) (fun (s2 : List UInt8 × Int) => ⟨[(0, .one (.dat (.sl (.st (.pair .str (.st (.pair (.int .i64) (.pair (.int .i64) (.pair (.sl (.int .i64)) (.sl .bool)))))))) a0)), (4, .one (.dat .str s2.1)), (10, .one (.dat (.int .i64) (lenI a0))), (11, .one (.dat (.int .i64) s2.2))], [], 0⟩) (fun (r3 : List UInt8 ⊕ Unit) => match r3 with | .inl r4 => (.exit 0, ⟨[(4, .one (.dat .str r4))], [], 0⟩) | .inr r5 => (.ret, ⟨[(2, .one (.dat .str ([] : List UInt8))), (3, .one (.dat .bool false))], [], 0⟩)) hL17 ?_ (fun s2 x6 hx7 hk8 => ?_)
    · rcases r3 with r4 | r5
      · refine (qBlockX (qThen ?_))
        refine HT.reg1 [2, 3] [⟨none, .no⟩, ⟨none, .no⟩, ⟨none, .no⟩] ⟨[(2, .one (.dat .str r4)), (3, .one (.dat .bool true))], [], 0⟩ hP hN (by kernel_rfl) allNil ?_
        have hr := of_some hr
        subst hr
        exact HT.ret ⟨[.one (.dat .str r4), .one (.dat .bool true)], [], [], by kernel_rfl, by kernel_rfl, rfl, by kernel_rfl, by kernel_rfl, trivial⟩
      · have hr := of_some hr
        subst hr
        exact (qBlockR (qThenR ⟨[.one (.dat .str ([] : List UInt8)), .one (.dat .bool false)], [], [], by kernel_rfl, by kernel_rfl, rfl, by kernel_rfl, by kernel_rfl, trivial⟩))
    · refine HT.reg1 [0, 4, 10, 11, 12] [⟨none, .no⟩] ⟨[(0, .one (.dat (.sl (.st (.pair .str (.st (.pair (.int .i64) (.pair (.int .i64) (.pair (.sl (.int .i64)) (.sl .bool)))))))) a0)), (4, .one (.dat .str s2.1)), (10, .one (.dat (.int .i64) (lenI a0))), (11, .one (.dat (.int .i64) s2.2)), (12, .one (.dat .bool (decide (s2.2 < (lenI a0)))))], [], 0⟩ hP hN (by kernel_rfl) allNil ?_
      refine HT.seq ?_
      rcases of_bif hx7 with ⟨hb9, hx7⟩ | ⟨hb9, hx7⟩
      · refine HT.cond1 rfl hb9 ?_
        refine HT.skip (qThen ?_)
        refine HT.seq ?_
        refine HT.block ?_
        refine HT.reg1 [0, 4, 5, 10, 11] [⟨none, .no⟩, ⟨none, .no⟩] ⟨[(0, .one (.dat (.sl (.st (.pair .str (.st (.pair (.int .i64) (.pair (.int .i64) (.pair (.sl (.int .i64)) (.sl .bool)))))))) a0)), (4, .one (.dat .str s2.1)), (5, .one (.dat (.int .i64) s2.2)), (10, .one (.dat (.int .i64) (lenI a0))), (11, .one (.dat (.int .i64) s2.2))], [], 0⟩ hP hN (by kernel_rfl) allNil ?_
        refine HT.seq ?_
        obtain ⟨hg10, hx7⟩ := of_guard hx7
        obtain ⟨y11, hc12, hx7⟩ := of_bind hx7
        refine HT.reg1 [0, 4, 5, 10, 11, 18] [⟨none, .no⟩, ⟨none, .no⟩, ⟨none, .no⟩, ⟨none, .call [.pimm (.st (.pair .str (.st (.pair (.int .i64) (.pair (.int .i64) (.pair (.sl (.int .i64)) (.sl .bool)))))))] [⟨false, .bool, y11⟩] []⟩, ⟨none, .no⟩] ⟨[(0, .one (.dat (.sl (.st (.pair .str (.st (.pair (.int .i64) (.pair (.int .i64) (.pair (.sl (.int .i64)) (.sl .bool)))))))) a0)), (4, .one (.dat .str s2.1)), (5, .one (.dat (.int .i64) s2.2)), (10, .one (.dat (.int .i64) (lenI a0))), (11, .one (.dat (.int .i64) s2.2)), (18, .one (.dat .bool (!y11)))], [], 0⟩ hP hN (by kernel_rfl) (allCons hg10 (allCons (f80_ok hc12) allNil)) ?_
        rcases of_bif hx7 with ⟨hb13, hx7⟩ | ⟨hb13, hx7⟩
        · refine HT.cond1 rfl hb13 ?_
          refine HT.reg1 [2, 3] [⟨none, .no⟩, ⟨none, .no⟩] ⟨[(2, .one (.dat .str ([] : List UInt8))), (3, .one (.dat .bool false))], [], 0⟩ hP hN (by kernel_rfl) allNil ?_
          have hx7 := of_some hx7
          subst hx7
          refine (Le.cv (s := ⟨[], [], [], false⟩) (own := []) (ps := [([] : List UInt8) = ([] : List UInt8), false = false]) (st' := ⟨[(2, .one (.dat .str ([] : List UInt8))), (3, .one (.dat .bool false))], [], 0⟩) hO (fun h => by cases h) (by kernel_rfl) ⟨rfl, rfl, trivial⟩).ht ?_
          exact HT.ret (qThenR (qBlockR (qThenR (qLoopR (hk8 (.inr ()) rfl)))))
        · refine HT.cond0 rfl hb13 ?_
          refine HT.skip (qThen ?_)
          obtain ⟨y14, hc15, hx7⟩ := of_bind hx7
          obtain ⟨hg16, hx7⟩ := of_guard hx7
          refine HT.reg (rs := [⟨none, .no⟩, ⟨none, .no⟩, ⟨none, .no⟩, ⟨none, .no⟩, ⟨none, .call [.pimm (.st (.pair .str (.st (.pair (.int .i64) (.pair (.int .i64) (.pair (.sl (.int .i64)) (.sl .bool)))))))] [⟨false, .str, y14⟩] []⟩, ⟨none, .no⟩, ⟨none, .no⟩]) (st' := ⟨[(4, .one (.dat .str (s2.1 ++ y14))), (24, .one (.dat .str (s2.1 ++ y14))), (23, .one (.dat .str y14)), (22, .one (.ip (.st (.pair .str (.st (.pair (.int .i64) (.pair (.int .i64) (.pair (.sl (.int .i64)) (.sl .bool))))))) (List.getD a0 (Int.toNat s2.2) (([] : List UInt8), (0 : Int), (0 : Int), ([] : List Int), ([] : List Bool))) 0)), (21, .one (.dat (.int .i64) s2.2)), (20, .one (.dat (.sl (.st (.pair .str (.st (.pair (.int .i64) (.pair (.int .i64) (.pair (.sl (.int .i64)) (.sl .bool)))))))) a0)), (19, .one (.dat .str s2.1)), (0, .one (.dat (.sl (.st (.pair .str (.st (.pair (.int .i64) (.pair (.int .i64) (.pair (.sl (.int .i64)) (.sl .bool)))))))) a0)), (4, .one (.dat .str s2.1)), (5, .one (.dat (.int .i64) s2.2)), (10, .one (.dat (.int .i64) (lenI a0))), (11, .one (.dat (.int .i64) s2.2)), (18, .one (.dat .bool (!y11)))], [], 0⟩) hP hN (by kernel_rfl) (allCons hg10 (allCons (f81_ok hc15) (allCons hg16 allNil))) (qBlock (qThen ?_))
          have hx7 := of_some hx7
          subst hx7
          refine HT.reg (rs := [⟨none, .no⟩, ⟨none, .no⟩]) (st' := ⟨[(11, .one (.dat (.int .i64) (wadd .i64 s2.2 (1 : Int)))), (25, .one (.dat (.int .i64) (wadd .i64 s2.2 (1 : Int)))), (4, .one (.dat .str (s2.1 ++ y14))), (24, .one (.dat .str (s2.1 ++ y14))), (23, .one (.dat .str y14)), (22, .one (.ip (.st (.pair .str (.st (.pair (.int .i64) (.pair (.int .i64) (.pair (.sl (.int .i64)) (.sl .bool))))))) (List.getD a0 (Int.toNat s2.2) (([] : List UInt8), (0 : Int), (0 : Int), ([] : List Int), ([] : List Bool))) 0)), (21, .one (.dat (.int .i64) s2.2)), (20, .one (.dat (.sl (.st (.pair .str (.st (.pair (.int .i64) (.pair (.int .i64) (.pair (.sl (.int .i64)) (.sl .bool)))))))) a0)), (19, .one (.dat .str s2.1)), (0, .one (.dat (.sl (.st (.pair .str (.st (.pair (.int .i64) (.pair (.int .i64) (.pair (.sl (.int .i64)) (.sl .bool)))))))) a0)), (4, .one (.dat .str s2.1)), (5, .one (.dat (.int .i64) s2.2)), (10, .one (.dat (.int .i64) (lenI a0))), (11, .one (.dat (.int .i64) s2.2)), (18, .one (.dat .bool (!y11)))], [], 0⟩) hP hN (by kernel_rfl) allNil (qLoopN ⟨((s2.1 ++ y14), (wadd .i64 s2.2 (1 : Int))), rfl, Le.cv (s := ⟨[], [], [], false⟩) (own := []) (ps := [a0 = a0, (s2.1 ++ y14) = (s2.1 ++ y14), (lenI a0) = (lenI a0), (wadd .i64 s2.2 (1 : Int)) = (wadd .i64 s2.2 (1 : Int))]) (st' := ⟨[(0, .one (.dat (.sl (.st (.pair .str (.st (.pair (.int .i64) (.pair (.int .i64) (.pair (.sl (.int .i64)) (.sl .bool)))))))) a0)), (4, .one (.dat .str (s2.1 ++ y14))), (10, .one (.dat (.int .i64) (lenI a0))), (11, .one (.dat (.int .i64) (wadd .i64 s2.2 (1 : Int))))], [], 0⟩) hO (fun h => by cases h) (by kernel_rfl) ⟨rfl, rfl, rfl, rfl, trivial⟩⟩)
      · refine HT.cond0 rfl hb9 ?_
        have hx7 := of_some hx7
        subst hx7
        refine (Le.cv (s := ⟨[], [], [], false⟩) (own := []) (ps := [s2.1 = s2.1]) (st' := ⟨[(4, .one (.dat .str s2.1))], [], 0⟩) hO (fun h => by cases h) (by kernel_rfl) ⟨rfl, trivial⟩).ht ?_
        exact HT.exit (qThenE (qLoopE (hk8 (.inl s2.1) rfl)))

noncomputable def impl_IsName_B1 (a0 : List UInt8) (s1 : Int) : Option ((Int) ⊕ (Unit ⊕ Unit)) :=
  bif (decide (s1 < (lenI a0))) then
    (show Option (Bool) from
      guardP ((0 : Int) ≤ s1 ∧ s1 < lenI a0) (
        bif (decide (((((List.getD a0 (Int.toNat s1) 0 : UInt8).toNat : Nat)) : Int) < (97 : Int))) then
          some true
        else
          some (decide (((((List.getD a0 (Int.toNat s1) 0 : UInt8).toNat : Nat)) : Int) > (122 : Int))))).bind fun v13 =>
    bif v13 then
      some (.inr (.inr ()))
    else
      some (.inl (wadd .i64 s1 (1 : Int)))
  else
    some (.inr (.inl ()))

noncomputable def impl_IsName (a0 : List UInt8) : Option (Bool) :=
  (rounds (impl_IsName_B1 a0) (0 : Int)).bind fun r2 => match r2 with
    | .inl r3 =>
      (show Option (Bool) from
        bif (decide ((lenI a0) ≥ (1 : Int))) then
          some (decide ((lenI a0) ≤ (8 : Int)))
        else
          some false).bind fun v4 =>
      some v4
    | .inr r8 =>
      some false

theorem f157_ok {a0 : List UInt8} {r : Bool} (hr : impl_IsName a0 = some r) : CallOK Try.prog 157 [.imm .str a0] [⟨false, .bool, r⟩] [] := by
  unfold impl_IsName at hr
  refine CallOK.of_body (ts := [(false, .bool)]) Try.func157 rfl (by kernel_rfl) (Nat.le_of_ble_eq_true (by kernel_rfl)) fun cx hP hN hO hF => ?_
  have hO : cx.own.map Prod.fst = [] := hO
  have hF := hF rfl
  show HT cx ⟨[(0, .one (.dat .str a0))], [], 0⟩ _ _
  refine HT.reg1 [0] [⟨none, .no⟩] ⟨[(0, .one (.dat .str a0))], [], 0⟩ hP hN (by kernel_rfl) allNil ?_
  refine HT.seq ?_
  refine HT.reg1 [0, 5, 6] [⟨none, .no⟩, ⟨none, .no⟩, ⟨none, .no⟩] ⟨[(0, .one (.dat .str a0)), (5, .one (.dat (.int .i64) (lenI a0))), (6, .one (.dat (.int .i64) (0 : Int)))], [], 0⟩ hP hN (by kernel_rfl) allNil ?_
  refine HT.block ?_
  obtain ⟨r2, hL19, hr⟩ := of_bind hr
  refine (Le.cv (s := ⟨[], [], [], false⟩) (own := []) (ps := [a0 = a0, (lenI a0) = (lenI a0), (0 : Int) = (0 : Int)]) (st' := ⟨[(0, .one (.dat .str a0)), (5, .one (.dat (.int .i64) (lenI a0))), (6, .one (.dat (.int .i64) (0 : Int)))], [], 0⟩) hO (fun h => by cases h) (by kernel_rfl) ⟨rfl, rfl, rfl, trivial⟩).ht ?_
  refine HT.loopE (s := (0 : Int)) (fun (s1 : Int) => ⟨[(0, .one (.dat .str a0)), (5, .one (.dat (.int .i64) (lenI a0))), (6, .one (.dat (.int .i64) s1))], [], 0⟩) (fun (r2 : Unit ⊕ Unit) => match r2 with | .inl r3 => (.exit 0, ⟨[(0, .one (.dat .str a0))], [], 0⟩) | .inr r8 => (.ret, ⟨[(2, .one (.dat .bool false))], [], 0⟩)) hL19 ?_ (fun s1 x9 hx10 hk11 => ?_)
  · rcases r2 with r3 | r8
    · refine (qBlockX (qThen ?_))
      obtain ⟨v4', hT6, hr⟩ := of_bind hr
      refine HT.join (fun (v4 : Bool) => ⟨[(2, .one (.dat .bool v4))], [], 0⟩) (fun v => v = v4') (fun v4 hv5 => ?_) (fun cont => ?_)
      · subst hv5
        have hr := of_some hr
        subst hr
        exact HT.ret ⟨[.one (.dat .bool v4)], [], [], by kernel_rfl, by kernel_rfl, rfl, by kernel_rfl, by kernel_rfl, trivial⟩
      · rcases of_bif hT6 with ⟨hb7, hT6⟩ | ⟨hb7, hT6⟩
        · refine HT.reg (rs := [⟨none, .no⟩, ⟨none, .no⟩, ⟨none, .no⟩, ⟨none, .no⟩, ⟨some true, .no⟩, ⟨some true, .no⟩, ⟨some true, .no⟩, ⟨none, .tv true⟩, ⟨none, .no⟩]) (st' := ⟨[(2, .one (.dat .bool (decide ((lenI a0) ≤ (8 : Int))))), (27, .one (.dat .bool (decide ((lenI a0) ≤ (8 : Int))))), (26, .one (.dat .bool (decide ((lenI a0) ≤ (8 : Int))))), (25, .one (.dat (.int .i64) (lenI a0))), (24, .one (.dat .str a0)), (23, .one (.dat .bool (decide ((lenI a0) ≥ (1 : Int))))), (22, .one (.dat .bool (decide ((lenI a0) ≥ (1 : Int))))), (21, .one (.dat (.int .i64) (lenI a0))), (20, .one (.dat .str a0)), (0, .one (.dat .str a0))], [], 0⟩) hP hN (by kernel_rfl) (allCons hb7 (allCons hb7 (allCons hb7 (allCons hb7 allNil)))) (qThen ?_)
          exact (Le.cv (s := ⟨[], [], [], false⟩) (own := []) (ps := [(decide ((lenI a0) ≤ (8 : Int))) = (decide ((lenI a0) ≤ (8 : Int)))]) (st' := ⟨[(2, .one (.dat .bool (decide ((lenI a0) ≤ (8 : Int)))))], [], 0⟩) hO (fun h => by cases h) (by kernel_rfl) ⟨rfl, trivial⟩).ht (cont (decide ((lenI a0) ≤ (8 : Int))) (of_some hT6))
        · refine HT.reg (rs := [⟨none, .no⟩, ⟨none, .no⟩, ⟨none, .no⟩, ⟨none, .no⟩, ⟨some false, .no⟩, ⟨some false, .no⟩, ⟨some false, .no⟩, ⟨none, .tv false⟩, ⟨none, .no⟩]) (st' := ⟨[(2, .one (.dat .bool false)), (27, .one (.dat .bool false)), (26, .und), (25, .und), (24, .und), (23, .one (.dat .bool (decide ((lenI a0) ≥ (1 : Int))))), (22, .one (.dat .bool (decide ((lenI a0) ≥ (1 : Int))))), (21, .one (.dat (.int .i64) (lenI a0))), (20, .one (.dat .str a0)), (0, .one (.dat .str a0))], [], 0⟩) hP hN (by kernel_rfl) (allCons hb7 (allCons hb7 (allCons hb7 (allCons hb7 allNil)))) (qThen ?_)
          exact (Le.cv (s := ⟨[], [], [], false⟩) (own := []) (ps := [false = false]) (st' := ⟨[(2, .one (.dat .bool false))], [], 0⟩) hO (fun h => by cases h) (by kernel_rfl) ⟨rfl, trivial⟩).ht (cont false (of_some hT6))
    · have hr := of_some hr
      subst hr
      exact (qBlockR (qThenR ⟨[.one (.dat .bool false)], [], [], by kernel_rfl, by kernel_rfl, rfl, by kernel_rfl, by kernel_rfl, trivial⟩))
  · refine HT.reg1 [0, 5, 6, 7] [⟨none, .no⟩] ⟨[(0, .one (.dat .str a0)), (5, .one (.dat (.int .i64) (lenI a0))), (6, .one (.dat (.int .i64) s1)), (7, .one (.dat .bool (decide (s1 < (lenI a0)))))], [], 0⟩ hP hN (by kernel_rfl) allNil ?_
    refine HT.seq ?_
    rcases of_bif hx10 with ⟨hb12, hx10⟩ | ⟨hb12, hx10⟩
    · refine HT.cond1 rfl hb12 ?_
      refine HT.skip (qThen ?_)
      refine HT.seq ?_
      refine HT.block ?_
      refine HT.reg1 [0, 3, 5, 6] [⟨none, .no⟩, ⟨none, .no⟩] ⟨[(0, .one (.dat .str a0)), (3, .one (.dat (.int .i64) s1)), (5, .one (.dat (.int .i64) (lenI a0))), (6, .one (.dat (.int .i64) s1))], [], 0⟩ hP hN (by kernel_rfl) allNil ?_
      obtain ⟨v13', hT15, hx10⟩ := of_bind hx10
      refine HT.join (fun (v13 : Bool) => ⟨[(0, .one (.dat .str a0)), (5, .one (.dat (.int .i64) (lenI a0))), (6, .one (.dat (.int .i64) s1)), (18, .one (.dat .bool v13))], [], 0⟩) (fun v => v = v13') (fun v13 hv14 => ?_) (fun cont => ?_)
      · subst hv14
        rcases of_bif hx10 with ⟨hb16, hx10⟩ | ⟨hb16, hx10⟩
        · refine HT.cond1 rfl hb16 ?_
          refine HT.reg1 [2] [⟨none, .no⟩] ⟨[(2, .one (.dat .bool false))], [], 0⟩ hP hN (by kernel_rfl) allNil ?_
          have hx10 := of_some hx10
          subst hx10
          refine (Le.cv (s := ⟨[], [], [], false⟩) (own := []) (ps := [false = false]) (st' := ⟨[(2, .one (.dat .bool false))], [], 0⟩) hO (fun h => by cases h) (by kernel_rfl) ⟨rfl, trivial⟩).ht ?_
          exact HT.ret (qBlockR (qThenR (qLoopR (hk11 (.inr ()) rfl))))
        · refine HT.cond0 rfl hb16 ?_
          refine HT.skip (qBlock (qThen ?_))
          have hx10 := of_some hx10
          subst hx10
          refine HT.reg (rs := [⟨none, .no⟩, ⟨none, .no⟩]) (st' := ⟨[(6, .one (.dat (.int .i64) (wadd .i64 s1 (1 : Int)))), (19, .one (.dat (.int .i64) (wadd .i64 s1 (1 : Int)))), (0, .one (.dat .str a0)), (5, .one (.dat (.int .i64) (lenI a0))), (6, .one (.dat (.int .i64) s1)), (18, .one (.dat .bool v13))], [], 0⟩) hP hN (by kernel_rfl) allNil (qLoopN ⟨(wadd .i64 s1 (1 : Int)), rfl, Le.cv (s := ⟨[], [], [], false⟩) (own := []) (ps := [a0 = a0, (lenI a0) = (lenI a0), (wadd .i64 s1 (1 : Int)) = (wadd .i64 s1 (1 : Int))]) (st' := ⟨[(0, .one (.dat .str a0)), (5, .one (.dat (.int .i64) (lenI a0))), (6, .one (.dat (.int .i64) (wadd .i64 s1 (1 : Int))))], [], 0⟩) hO (fun h => by cases h) (by kernel_rfl) ⟨rfl, rfl, rfl, trivial⟩⟩)
      · obtain ⟨hg17, hT15⟩ := of_guard hT15
        rcases of_bif hT15 with ⟨hb18, hT15⟩ | ⟨hb18, hT15⟩
        · refine HT.reg (rs := [⟨none, .no⟩, ⟨none, .no⟩, ⟨none, .no⟩, ⟨none, .no⟩, ⟨none, .no⟩, ⟨some true, .no⟩, ⟨some true, .no⟩, ⟨some true, .no⟩, ⟨some true, .no⟩, ⟨none, .tv true⟩]) (st' := ⟨[(18, .one (.dat .bool true)), (17, .und), (16, .und), (15, .und), (14, .und), (13, .one (.dat .bool (decide (((((List.getD a0 (Int.toNat s1) 0 : UInt8).toNat : Nat)) : Int) < (97 : Int))))), (12, .one (.dat .bool (decide (((((List.getD a0 (Int.toNat s1) 0 : UInt8).toNat : Nat)) : Int) < (97 : Int))))), (11, .one (.dat (.int .u8) ((((List.getD a0 (Int.toNat s1) 0 : UInt8).toNat : Nat)) : Int))), (10, .one (.dat (.int .i64) s1)), (9, .one (.dat .str a0)), (0, .one (.dat .str a0)), (3, .one (.dat (.int .i64) s1)), (5, .one (.dat (.int .i64) (lenI a0))), (6, .one (.dat (.int .i64) s1))], [], 0⟩) hP hN (by kernel_rfl) (allCons hg17 (allCons hb18 (allCons hb18 (allCons hb18 (allCons hb18 (allCons hb18 allNil)))))) (qThen ?_)
          exact (Le.cv (s := ⟨[], [], [], false⟩) (own := []) (ps := [a0 = a0, (lenI a0) = (lenI a0), s1 = s1, true = true]) (st' := ⟨[(0, .one (.dat .str a0)), (5, .one (.dat (.int .i64) (lenI a0))), (6, .one (.dat (.int .i64) s1)), (18, .one (.dat .bool true))], [], 0⟩) hO (fun h => by cases h) (by kernel_rfl) ⟨rfl, rfl, rfl, rfl, trivial⟩).ht (cont true (of_some hT15))
        · refine HT.reg (rs := [⟨none, .no⟩, ⟨none, .no⟩, ⟨none, .no⟩, ⟨none, .no⟩, ⟨none, .no⟩, ⟨some false, .no⟩, ⟨some false, .no⟩, ⟨some false, .no⟩, ⟨some false, .no⟩, ⟨none, .tv false⟩]) (st' := ⟨[(18, .one (.dat .bool (decide (((((List.getD a0 (Int.toNat s1) 0 : UInt8).toNat : Nat)) : Int) > (122 : Int))))), (17, .one (.dat .bool (decide (((((List.getD a0 (Int.toNat s1) 0 : UInt8).toNat : Nat)) : Int) > (122 : Int))))), (16, .one (.dat (.int .u8) ((((List.getD a0 (Int.toNat s1) 0 : UInt8).toNat : Nat)) : Int))), (15, .one (.dat (.int .i64) s1)), (14, .one (.dat .str a0)), (13, .one (.dat .bool (decide (((((List.getD a0 (Int.toNat s1) 0 : UInt8).toNat : Nat)) : Int) < (97 : Int))))), (12, .one (.dat .bool (decide (((((List.getD a0 (Int.toNat s1) 0 : UInt8).toNat : Nat)) : Int) < (97 : Int))))), (11, .one (.dat (.int .u8) ((((List.getD a0 (Int.toNat s1) 0 : UInt8).toNat : Nat)) : Int))), (10, .one (.dat (.int .i64) s1)), (9, .one (.dat .str a0)), (0, .one (.dat .str a0)), (3, .one (.dat (.int .i64) s1)), (5, .one (.dat (.int .i64) (lenI a0))), (6, .one (.dat (.int .i64) s1))], [], 0⟩) hP hN (by kernel_rfl) (allCons hg17 (allCons hb18 (allCons hb18 (allCons hb18 (allCons hg17 (allCons hb18 (allCons hb18 allNil))))))) (qThen ?_)
          exact (Le.cv (s := ⟨[], [], [], false⟩) (own := []) (ps := [a0 = a0, (lenI a0) = (lenI a0), s1 = s1, (decide (((((List.getD a0 (Int.toNat s1) 0 : UInt8).toNat : Nat)) : Int) > (122 : Int))) = (decide (((((List.getD a0 (Int.toNat s1) 0 : UInt8).toNat : Nat)) : Int) > (122 : Int)))]) (st' := ⟨[(0, .one (.dat .str a0)), (5, .one (.dat (.int .i64) (lenI a0))), (6, .one (.dat (.int .i64) s1)), (18, .one (.dat .bool (decide (((((List.getD a0 (Int.toNat s1) 0 : UInt8).toNat : Nat)) : Int) > (122 : Int)))))], [], 0⟩) hO (fun h => by cases h) (by kernel_rfl) ⟨rfl, rfl, rfl, rfl, trivial⟩).ht (cont (decide (((((List.getD a0 (Int.toNat s1) 0 : UInt8).toNat : Nat)) : Int) > (122 : Int))) (of_some hT15))
    · refine HT.cond0 rfl hb12 ?_
      have hx10 := of_some hx10
      subst hx10
      refine (Le.cv (s := ⟨[], [], [], false⟩) (own := []) (ps := [a0 = a0]) (st' := ⟨[(0, .one (.dat .str a0))], [], 0⟩) hO (fun h => by cases h) (by kernel_rfl) ⟨rfl, trivial⟩).ht ?_
      exact HT.exit (qThenE (qLoopE (hk11 (.inl ()) rfl)))

noncomputable def impl_within (a0 : Int) (a1 : Int) (a2 : Int) : Option (Bool) :=
  (show Option (Bool) from
    bif (decide (a0 ≥ a1)) then
      some (decide (a0 ≤ a2))
    else
      some false).bind fun v1 =>
  some v1

theorem f86_ok {a0 : Int} {a1 : Int} {a2 : Int} {r : Bool} (hr : impl_within a0 a1 a2 = some r) : CallOK Try.prog 86 [.imm (.int .i64) a0, .imm (.int .i64) a1, .imm (.int .i64) a2] [⟨false, .bool, r⟩] [] := by
  unfold impl_within at hr
  refine CallOK.of_body (ts := [(false, .bool)]) Try.func86 rfl (by kernel_rfl) (Nat.le_of_ble_eq_true (by kernel_rfl)) fun cx hP hN hO hF => ?_
  have hO : cx.own.map Prod.fst = [] := hO
  have hF := hF rfl
  show HT cx ⟨[(0, .one (.dat (.int .i64) a0)), (1, .one (.dat (.int .i64) a1)), (2, .one (.dat (.int .i64) a2))], [], 0⟩ _ _
  refine HT.reg1 [0, 1, 2] [⟨none, .no⟩] ⟨[(0, .one (.dat (.int .i64) a0)), (1, .one (.dat (.int .i64) a1)), (2, .one (.dat (.int .i64) a2))], [], 0⟩ hP hN (by kernel_rfl) allNil ?_
  obtain ⟨v1', hT3, hr⟩ := of_bind hr
  refine HT.join (fun (v1 : Bool) => ⟨[(6, .one (.dat .bool v1))], [], 0⟩) (fun v => v = v1') (fun v1 hv2 => ?_) (fun cont => ?_)
  · subst hv2
    have hr := of_some hr
    subst hr
    exact HT.ret ⟨[.one (.dat .bool v1)], [], [], by kernel_rfl, by kernel_rfl, rfl, by kernel_rfl, by kernel_rfl, trivial⟩
  · rcases of_bif hT3 with ⟨hb4, hT3⟩ | ⟨hb4, hT3⟩
    · refine HT.reg (rs := [⟨none, .no⟩, ⟨none, .no⟩, ⟨none, .no⟩, ⟨none, .no⟩, ⟨some true, .no⟩, ⟨some true, .no⟩, ⟨some true, .no⟩, ⟨none, .tv true⟩, ⟨none, .no⟩]) (st' := ⟨[(6, .one (.dat .bool (decide (a0 ≤ a2)))), (14, .one (.dat .bool (decide (a0 ≤ a2)))), (13, .one (.dat .bool (decide (a0 ≤ a2)))), (12, .one (.dat (.int .i64) a2)), (11, .one (.dat (.int .i64) a0)), (10, .one (.dat .bool (decide (a0 ≥ a1)))), (9, .one (.dat .bool (decide (a0 ≥ a1)))), (8, .one (.dat (.int .i64) a1)), (7, .one (.dat (.int .i64) a0)), (0, .one (.dat (.int .i64) a0)), (1, .one (.dat (.int .i64) a1)), (2, .one (.dat (.int .i64) a2))], [], 0⟩) hP hN (by kernel_rfl) (allCons hb4 (allCons hb4 (allCons hb4 (allCons hb4 allNil)))) (qThen ?_)
      exact (Le.cv (s := ⟨[], [], [], false⟩) (own := []) (ps := [(decide (a0 ≤ a2)) = (decide (a0 ≤ a2))]) (st' := ⟨[(6, .one (.dat .bool (decide (a0 ≤ a2))))], [], 0⟩) hO (fun h => by cases h) (by kernel_rfl) ⟨rfl, trivial⟩).ht (cont (decide (a0 ≤ a2)) (of_some hT3))
    · refine HT.reg (rs := [⟨none, .no⟩, ⟨none, .no⟩, ⟨none, .no⟩, ⟨none, .no⟩, ⟨some false, .no⟩, ⟨some false, .no⟩, ⟨some false, .no⟩, ⟨none, .tv false⟩, ⟨none, .no⟩]) (st' := ⟨[(6, .one (.dat .bool false)), (14, .one (.dat .bool false)), (13, .und), (12, .und), (11, .und), (10, .one (.dat .bool (decide (a0 ≥ a1)))), (9, .one (.dat .bool (decide (a0 ≥ a1)))), (8, .one (.dat (.int .i64) a1)), (7, .one (.dat (.int .i64) a0)), (0, .one (.dat (.int .i64) a0)), (1, .one (.dat (.int .i64) a1)), (2, .one (.dat (.int .i64) a2))], [], 0⟩) hP hN (by kernel_rfl) (allCons hb4 (allCons hb4 (allCons hb4 (allCons hb4 allNil)))) (qThen ?_)
      exact (Le.cv (s := ⟨[], [], [], false⟩) (own := []) (ps := [false = false]) (st' := ⟨[(6, .one (.dat .bool false))], [], 0⟩) hO (fun h => by cases h) (by kernel_rfl) ⟨rfl, trivial⟩).ht (cont false (of_some hT3))

noncomputable def impl_areWithin_B1 (a0 : List Int) (a1 : Int) (a2 : Int) (s1 : Int) : Option ((Int) ⊕ (Unit ⊕ Unit)) :=
  bif (decide (s1 < (lenI a0))) then
    guardP ((0 : Int) ≤ s1 ∧ s1 < lenI a0) (
      (impl_within (List.getD a0 (Int.toNat s1) (0 : Int)) a1 a2).bind fun y10 =>
      bif (!y10) then
        some (.inr (.inr ()))
      else
        some (.inl (wadd .i64 s1 (1 : Int))))
  else
    some (.inr (.inl ()))

noncomputable def impl_areWithin (a0 : List Int) (a1 : Int) (a2 : Int) : Option (Bool) :=
  (rounds (impl_areWithin_B1 a0 a1 a2) (0 : Int)).bind fun r2 => match r2 with
    | .inl r3 =>
      some true
    | .inr r4 =>
      some false

theorem f100_ok {a0 : List Int} {a1 : Int} {a2 : Int} {r : Bool} (hr : impl_areWithin a0 a1 a2 = some r) : CallOK Try.prog 100 [.imm (.sl (.int .i64)) a0, .imm (.int .i64) a1, .imm (.int .i64) a2] [⟨false, .bool, r⟩] [] := by
  unfold impl_areWithin at hr
  refine CallOK.of_body (ts := [(false, .bool)]) Try.func100 rfl (by kernel_rfl) (Nat.le_of_ble_eq_true (by kernel_rfl)) fun cx hP hN hO hF => ?_
  have hO : cx.own.map Prod.fst = [] := hO
  have hF := hF rfl
  show HT cx ⟨[(0, .one (.dat (.sl (.int .i64)) a0)), (1, .one (.dat (.int .i64) a1)), (2, .one (.dat (.int .i64) a2))], [], 0⟩ _ _
  refine HT.reg1 [0, 1, 2] [⟨none, .no⟩] ⟨[(0, .one (.dat (.sl (.int .i64)) a0)), (1, .one (.dat (.int .i64) a1)), (2, .one (.dat (.int .i64) a2))], [], 0⟩ hP hN (by kernel_rfl) allNil ?_
  refine HT.seq ?_
  refine HT.reg1 [1, 2, 9, 10, 11] [⟨none, .no⟩, ⟨none, .no⟩, ⟨none, .no⟩] ⟨[(1, .one (.dat (.int .i64) a1)), (2, .one (.dat (.int .i64) a2)), (9, .one (.dat (.sl (.int .i64)) a0)), (10, .one (.dat (.int .i64) (lenI a0))), (11, .one (.dat (.int .i64) (0 : Int)))], [], 0⟩ hP hN (by kernel_rfl) allNil ?_
  refine HT.block ?_
  obtain ⟨r2, hL13, hr⟩ := of_bind hr
  refine (Le.cv (s := ⟨[], [], [], false⟩) (own := []) (ps := [a1 = a1, a2 = a2, a0 = a0, (lenI a0) = (lenI a0), (0 : Int) = (0 : Int)]) (st' := ⟨[(1, .one (.dat (.int .i64) a1)), (2, .one (.dat (.int .i64) a2)), (9, .one (.dat (.sl (.int .i64)) a0)), (10, .one (.dat (.int .i64) (lenI a0))), (11, .one (.dat (.int .i64) (0 : Int)))], [], 0⟩) hO (fun h => by cases h) (by kernel_rfl) ⟨rfl, rfl, rfl, rfl, rfl, trivial⟩).ht ?_
  refine HT.loopE (s := (0 : Int)) (fun (s1 : Int) => ⟨[(1, .one (.dat (.int .i64) a1)), (2, .one (.dat (.int .i64) a2)), (9, .one (.dat (.sl (.int .i64)) a0)), (10, .one (.dat (.int .i64) (lenI a0))), (11, .one (.dat (.int .i64) s1))], [], 0⟩) (fun (r2 : Unit ⊕ Unit) => match r2 with | .inl r3 => (.exit 0, ⟨[], [], 0⟩) | .inr r4 => (.ret, ⟨[(6, .one (.dat .bool false))], [], 0⟩)) hL13 ?_ (fun s1 x5 hx6 hk7 => ?_)
  · rcases r2 with r3 | r4
    · refine (qBlockX (qThen ?_))
      refine HT.reg1 [6] [⟨none, .no⟩] ⟨[(6, .one (.dat .bool true))], [], 0⟩ hP hN (by kernel_rfl) allNil ?_
      have hr := of_some hr
      subst hr
      exact HT.ret ⟨[.one (.dat .bool true)], [], [], by kernel_rfl, by kernel_rfl, rfl, by kernel_rfl, by kernel_rfl, trivial⟩
    · have hr := of_some hr
      subst hr
      exact (qBlockR (qThenR ⟨[.one (.dat .bool false)], [], [], by kernel_rfl, by kernel_rfl, rfl, by kernel_rfl, by kernel_rfl, trivial⟩))
  · refine HT.reg1 [1, 2, 9, 10, 11, 12] [⟨none, .no⟩] ⟨[(1, .one (.dat (.int .i64) a1)), (2, .one (.dat (.int .i64) a2)), (9, .one (.dat (.sl (.int .i64)) a0)), (10, .one (.dat (.int .i64) (lenI a0))), (11, .one (.dat (.int .i64) s1)), (12, .one (.dat .bool (decide (s1 < (lenI a0)))))], [], 0⟩ hP hN (by kernel_rfl) allNil ?_
    refine HT.seq ?_
    rcases of_bif hx6 with ⟨hb8, hx6⟩ | ⟨hb8, hx6⟩
    · refine HT.cond1 rfl hb8 ?_
      refine HT.skip (qThen ?_)
      refine HT.seq ?_
      refine HT.block ?_
      obtain ⟨hg9, hx6⟩ := of_guard hx6
      refine HT.reg1 [1, 2, 8, 9, 10, 11] [⟨none, .no⟩, ⟨none, .no⟩, ⟨none, .no⟩] ⟨[(1, .one (.dat (.int .i64) a1)), (2, .one (.dat (.int .i64) a2)), (8, .one (.dat (.int .i64) (List.getD a0 (Int.toNat s1) (0 : Int)))), (9, .one (.dat (.sl (.int .i64)) a0)), (10, .one (.dat (.int .i64) (lenI a0))), (11, .one (.dat (.int .i64) s1))], [], 0⟩ hP hN (by kernel_rfl) (allCons hg9 allNil) ?_
      obtain ⟨y10, hc11, hx6⟩ := of_bind hx6
      refine HT.reg1 [1, 2, 9, 10, 11, 19] [⟨none, .no⟩, ⟨none, .no⟩, ⟨none, .no⟩, ⟨none, .call [.imm (.int .i64), .imm (.int .i64), .imm (.int .i64)] [⟨false, .bool, y10⟩] []⟩, ⟨none, .no⟩] ⟨[(1, .one (.dat (.int .i64) a1)), (2, .one (.dat (.int .i64) a2)), (9, .one (.dat (.sl (.int .i64)) a0)), (10, .one (.dat (.int .i64) (lenI a0))), (11, .one (.dat (.int .i64) s1)), (19, .one (.dat .bool (!y10)))], [], 0⟩ hP hN (by kernel_rfl) (allCons (f86_ok hc11) allNil) ?_
      rcases of_bif hx6 with ⟨hb12, hx6⟩ | ⟨hb12, hx6⟩
      · refine HT.cond1 rfl hb12 ?_
        refine HT.reg1 [6] [⟨none, .no⟩] ⟨[(6, .one (.dat .bool false))], [], 0⟩ hP hN (by kernel_rfl) allNil ?_
        have hx6 := of_some hx6
        subst hx6
        refine (Le.cv (s := ⟨[], [], [], false⟩) (own := []) (ps := [false = false]) (st' := ⟨[(6, .one (.dat .bool false))], [], 0⟩) hO (fun h => by cases h) (by kernel_rfl) ⟨rfl, trivial⟩).ht ?_
        exact HT.ret (qBlockR (qThenR (qLoopR (hk7 (.inr ()) rfl))))
      · refine HT.cond0 rfl hb12 ?_
        refine HT.skip (qBlock (qThen ?_))
        have hx6 := of_some hx6
        subst hx6
        refine HT.reg (rs := [⟨none, .no⟩, ⟨none, .no⟩]) (st' := ⟨[(11, .one (.dat (.int .i64) (wadd .i64 s1 (1 : Int)))), (20, .one (.dat (.int .i64) (wadd .i64 s1 (1 : Int)))), (1, .one (.dat (.int .i64) a1)), (2, .one (.dat (.int .i64) a2)), (9, .one (.dat (.sl (.int .i64)) a0)), (10, .one (.dat (.int .i64) (lenI a0))), (11, .one (.dat (.int .i64) s1)), (19, .one (.dat .bool (!y10)))], [], 0⟩) hP hN (by kernel_rfl) allNil (qLoopN ⟨(wadd .i64 s1 (1 : Int)), rfl, Le.cv (s := ⟨[], [], [], false⟩) (own := []) (ps := [a1 = a1, a2 = a2, a0 = a0, (lenI a0) = (lenI a0), (wadd .i64 s1 (1 : Int)) = (wadd .i64 s1 (1 : Int))]) (st' := ⟨[(1, .one (.dat (.int .i64) a1)), (2, .one (.dat (.int .i64) a2)), (9, .one (.dat (.sl (.int .i64)) a0)), (10, .one (.dat (.int .i64) (lenI a0))), (11, .one (.dat (.int .i64) (wadd .i64 s1 (1 : Int))))], [], 0⟩) hO (fun h => by cases h) (by kernel_rfl) ⟨rfl, rfl, rfl, rfl, rfl, trivial⟩⟩)
    · refine HT.cond0 rfl hb8 ?_
      have hx6 := of_some hx6
      subst hx6
      refine (Le.cv (s := ⟨[], [], [], false⟩) (own := []) (ps := []) (st' := ⟨[], [], 0⟩) hO (fun h => by cases h) (by kernel_rfl) trivial).ht ?_
      exact HT.exit (qThenE (qLoopE (hk7 (.inl ()) rfl)))

noncomputable def impl_ValidPlain (a0 : Int × Int × List Int × List Bool) : Option (Bool) :=
  (show Option (Bool) from
    (impl_within a0.1 (1 : Int) (64 : Int)).bind fun y4 =>
    bif y4 then
      (impl_within a0.2.1 (1 : Int) (4 : Int)).bind fun y7 =>
      bif y7 then
        bif ((lenI a0.2.2.1) == (wmul .i64 a0.1 a0.2.1)) then
          (impl_areWithin a0.2.2.1 (0 : Int) (wsub .i64 a0.1 (1 : Int))).bind fun y11 =>
          bif y11 then
            some ((lenI a0.2.2.2) == a0.1)
          else
            some false
        else
          some false
      else
        some false
    else
      some false).bind fun v1 =>
  some v1

theorem f158_ok {a0 : Int × Int × List Int × List Bool} {r : Bool} (hr : impl_ValidPlain a0 = some r) : CallOK Try.prog 158 [.imm (.st (.pair (.int .i64) (.pair (.int .i64) (.pair (.sl (.int .i64)) (.sl .bool))))) a0] [⟨false, .bool, r⟩] [] := by
  unfold impl_ValidPlain at hr
  refine CallOK.of_body (ts := [(false, .bool)]) Try.func158 rfl (by kernel_rfl) (Nat.le_of_ble_eq_true (by kernel_rfl)) fun cx hP hN hO hF => ?_
  have hO : cx.own.map Prod.fst = [] := hO
  have hF := hF rfl
  show HT cx ⟨[(0, .agg [.dat (.int .i64) a0.1, .dat (.int .i64) a0.2.1, .dat (.sl (.int .i64)) a0.2.2.1, .dat (.sl .bool) a0.2.2.2])], [], 0⟩ _ _
  refine HT.reg1 [1] [⟨none, .no⟩, ⟨none, .no⟩] ⟨[(1, .one (.ptr 0 0))], [(0, .box [.dat (.int .i64) a0.1, .dat (.int .i64) a0.2.1, .dat (.sl (.int .i64)) a0.2.2.1, .dat (.sl .bool) a0.2.2.2])], 1⟩ hP hN (by kernel_rfl) allNil ?_
  obtain ⟨v1', hT3, hr⟩ := of_bind hr
  refine HT.join (fun (v1 : Bool) => ⟨[(2, .one (.dat .bool v1))], [], 0⟩) (fun v => v = v1') (fun v1 hv2 => ?_) (fun cont => ?_)
  · subst hv2
    have hr := of_some hr
    subst hr
    exact HT.ret ⟨[.one (.dat .bool v1)], [], [], by kernel_rfl, by kernel_rfl, rfl, by kernel_rfl, by kernel_rfl, trivial⟩
  · obtain ⟨y4, hc5, hT3⟩ := of_bind hT3
    rcases of_bif hT3 with ⟨hb6, hT3⟩ | ⟨hb6, hT3⟩
    · obtain ⟨y7, hc8, hT3⟩ := of_bind hT3
      rcases of_bif hT3 with ⟨hb9, hT3⟩ | ⟨hb9, hT3⟩
      · rcases of_bif hT3 with ⟨hb10, hT3⟩ | ⟨hb10, hT3⟩
        · obtain ⟨y11, hc12, hT3⟩ := of_bind hT3
          rcases of_bif hT3 with ⟨hb13, hT3⟩ | ⟨hb13, hT3⟩
          · refine HT.reg (rs := [⟨none, .no⟩, ⟨none, .no⟩, ⟨none, .call [.imm (.int .i64), .imm (.int .i64), .imm (.int .i64)] [⟨false, .bool, y4⟩] []⟩, ⟨none, .no⟩, ⟨some true, .no⟩, ⟨some true, .no⟩, ⟨some true, .call [.imm (.int .i64), .imm (.int .i64), .imm (.int .i64)] [⟨false, .bool, y7⟩] []⟩, ⟨none, .tv true⟩, ⟨none, .no⟩, ⟨some true, .no⟩, ⟨some true, .no⟩, ⟨some true, .no⟩, ⟨some true, .no⟩, ⟨some true, .no⟩, ⟨some true, .no⟩, ⟨some true, .no⟩, ⟨some true, .no⟩, ⟨some true, .no⟩, ⟨none, .tv true⟩, ⟨none, .no⟩, ⟨some true, .no⟩, ⟨some true, .no⟩, ⟨some true, .no⟩, ⟨some true, .no⟩, ⟨some true, .no⟩, ⟨some true, .call [.imm (.sl (.int .i64)), .imm (.int .i64), .imm (.int .i64)] [⟨false, .bool, y11⟩] []⟩, ⟨none, .tv true⟩, ⟨none, .no⟩, ⟨some true, .no⟩, ⟨some true, .no⟩, ⟨some true, .no⟩, ⟨some true, .no⟩, ⟨some true, .no⟩, ⟨some true, .no⟩, ⟨none, .tv true⟩, ⟨none, .no⟩]) (st' := ⟨[(2, .one (.dat .bool ((lenI a0.2.2.2) == a0.1))), (37, .one (.dat .bool ((lenI a0.2.2.2) == a0.1))), (36, .one (.dat .bool ((lenI a0.2.2.2) == a0.1))), (35, .one (.dat (.int .i64) a0.1)), (34, .one (.ptr 0 0)), (33, .one (.dat (.int .i64) (lenI a0.2.2.2))), (32, .one (.dat (.sl .bool) a0.2.2.2)), (31, .one (.ptr 0 3)), (30, .one (.dat .bool y11)), (29, .one (.dat .bool y11)), (28, .one (.dat .bool y11)), (27, .one (.dat (.int .i64) (wsub .i64 a0.1 (1 : Int)))), (26, .one (.dat (.int .i64) a0.1)), (25, .one (.ptr 0 0)), (24, .one (.dat (.sl (.int .i64)) a0.2.2.1)), (23, .one (.ptr 0 2)), (22, .one (.dat .bool ((lenI a0.2.2.1) == (wmul .i64 a0.1 a0.2.1)))), (21, .one (.dat .bool ((lenI a0.2.2.1) == (wmul .i64 a0.1 a0.2.1)))), (20, .one (.dat .bool ((lenI a0.2.2.1) == (wmul .i64 a0.1 a0.2.1)))), (19, .one (.dat (.int .i64) (wmul .i64 a0.1 a0.2.1))), (18, .one (.dat (.int .i64) a0.2.1)), (17, .one (.ptr 0 1)), (16, .one (.dat (.int .i64) a0.1)), (15, .one (.ptr 0 0)), (14, .one (.dat (.int .i64) (lenI a0.2.2.1))), (13, .one (.dat (.sl (.int .i64)) a0.2.2.1)), (12, .one (.ptr 0 2)), (11, .one (.dat .bool y7)), (10, .one (.dat .bool y7)), (9, .one (.dat .bool y7)), (8, .one (.dat (.int .i64) a0.2.1)), (7, .one (.ptr 0 1)), (6, .one (.dat .bool y4)), (5, .one (.dat .bool y4)), (4, .one (.dat (.int .i64) a0.1)), (3, .one (.ptr 0 0)), (1, .one (.ptr 0 0))], [(0, .box [.dat (.int .i64) a0.1, .dat (.int .i64) a0.2.1, .dat (.sl (.int .i64)) a0.2.2.1, .dat (.sl .bool) a0.2.2.2])], 1⟩) hP hN (by kernel_rfl) (allCons (f86_ok hc5) (allCons hb6 (allCons hb6 (allCons hb6 (allCons (f86_ok hc8) (allCons hb6 (allCons hb9 (allCons hb9 (allCons hb9 (allCons hb9 (allCons hb9 (allCons hb9 (allCons hb9 (allCons hb9 (allCons hb9 (allCons hb9 (allCons hb10 (allCons hb10 (allCons hb10 (allCons hb10 (allCons hb10 (allCons hb10 (allCons (f100_ok hc12) (allCons hb10 (allCons hb13 (allCons hb13 (allCons hb13 (allCons hb13 (allCons hb13 (allCons hb13 (allCons hb13 allNil))))))))))))))))))))))))))))))) (qThen ?_)
            exact (Le.cv (s := ⟨[], [], [], false⟩) (own := []) (ps := [((lenI a0.2.2.2) == a0.1) = ((lenI a0.2.2.2) == a0.1)]) (st' := ⟨[(2, .one (.dat .bool ((lenI a0.2.2.2) == a0.1)))], [], 0⟩) hO (fun h => by cases h) (by kernel_rfl) ⟨rfl, trivial⟩).ht (cont ((lenI a0.2.2.2) == a0.1) (of_some hT3))
          · refine HT.reg (rs := [⟨none, .no⟩, ⟨none, .no⟩, ⟨none, .call [.imm (.int .i64), .imm (.int .i64), .imm (.int .i64)] [⟨false, .bool, y4⟩] []⟩, ⟨none, .no⟩, ⟨some true, .no⟩, ⟨some true, .no⟩, ⟨some true, .call [.imm (.int .i64), .imm (.int .i64), .imm (.int .i64)] [⟨false, .bool, y7⟩] []⟩, ⟨none, .tv true⟩, ⟨none, .no⟩, ⟨some true, .no⟩, ⟨some true, .no⟩, ⟨some true, .no⟩, ⟨some true, .no⟩, ⟨some true, .no⟩, ⟨some true, .no⟩, ⟨some true, .no⟩, ⟨some true, .no⟩, ⟨some true, .no⟩, ⟨none, .tv true⟩, ⟨none, .no⟩, ⟨some true, .no⟩, ⟨some true, .no⟩, ⟨some true, .no⟩, ⟨some true, .no⟩, ⟨some true, .no⟩, ⟨some true, .call [.imm (.sl (.int .i64)), .imm (.int .i64), .imm (.int .i64)] [⟨false, .bool, y11⟩] []⟩, ⟨none, .tv true⟩, ⟨none, .no⟩, ⟨some false, .no⟩, ⟨some false, .no⟩, ⟨some false, .no⟩, ⟨some false, .no⟩, ⟨some false, .no⟩, ⟨some false, .no⟩, ⟨none, .tv false⟩, ⟨none, .no⟩]) (st' := ⟨[(2, .one (.dat .bool false)), (37, .one (.dat .bool false)), (36, .und), (35, .und), (34, .und), (33, .und), (32, .und), (31, .und), (30, .one (.dat .bool y11)), (29, .one (.dat .bool y11)), (28, .one (.dat .bool y11)), (27, .one (.dat (.int .i64) (wsub .i64 a0.1 (1 : Int)))), (26, .one (.dat (.int .i64) a0.1)), (25, .one (.ptr 0 0)), (24, .one (.dat (.sl (.int .i64)) a0.2.2.1)), (23, .one (.ptr 0 2)), (22, .one (.dat .bool ((lenI a0.2.2.1) == (wmul .i64 a0.1 a0.2.1)))), (21, .one (.dat .bool ((lenI a0.2.2.1) == (wmul .i64 a0.1 a0.2.1)))), (20, .one (.dat .bool ((lenI a0.2.2.1) == (wmul .i64 a0.1 a0.2.1)))), (19, .one (.dat (.int .i64) (wmul .i64 a0.1 a0.2.1))), (18, .one (.dat (.int .i64) a0.2.1)), (17, .one (.ptr 0 1)), (16, .one (.dat (.int .i64) a0.1)), (15, .one (.ptr 0 0)), (14, .one (.dat (.int .i64) (lenI a0.2.2.1))), (13, .one (.dat (.sl (.int .i64)) a0.2.2.1)), (12, .one (.ptr 0 2)), (11, .one (.dat .bool y7)), (10, .one (.dat .bool y7)), (9, .one (.dat .bool y7)), (8, .one (.dat (.int .i64) a0.2.1)), (7, .one (.ptr 0 1)), (6, .one (.dat .bool y4)), (5, .one (.dat .bool y4)), (4, .one (.dat (.int .i64) a0.1)), (3, .one (.ptr 0 0)), (1, .one (.ptr 0 0))], [(0, .box [.dat (.int .i64) a0.1, .dat (.int .i64) a0.2.1, .dat (.sl (.int .i64)) a0.2.2.1, .dat (.sl .bool) a0.2.2.2])], 1⟩) hP hN (by kernel_rfl) (allCons (f86_ok hc5) (allCons hb6 (allCons hb6 (allCons hb6 (allCons (f86_ok hc8) (allCons hb6 (allCons hb9 (allCons hb9 (allCons hb9 (allCons hb9 (allCons hb9 (allCons hb9 (allCons hb9 (allCons hb9 (allCons hb9 (allCons hb9 (allCons hb10 (allCons hb10 (allCons hb10 (allCons hb10 (allCons hb10 (allCons hb10 (allCons (f100_ok hc12) (allCons hb10 (allCons hb13 (allCons hb13 (allCons hb13 (allCons hb13 (allCons hb13 (allCons hb13 (allCons hb13 allNil))))))))))))))))))))))))))))))) (qThen ?_)
            exact (Le.cv (s := ⟨[], [], [], false⟩) (own := []) (ps := [false = false]) (st' := ⟨[(2, .one (.dat .bool false))], [], 0⟩) hO (fun h => by cases h) (by kernel_rfl) ⟨rfl, trivial⟩).ht (cont false (of_some hT3))
        · refine HT.reg (rs := [⟨none, .no⟩, ⟨none, .no⟩, ⟨none, .call [.imm (.int .i64), .imm (.int .i64), .imm (.int .i64)] [⟨false, .bool, y4⟩] []⟩, ⟨none, .no⟩, ⟨some true, .no⟩, ⟨some true, .no⟩, ⟨some true, .call [.imm (.int .i64), .imm (.int .i64), .imm (.int .i64)] [⟨false, .bool, y7⟩] []⟩, ⟨none, .tv true⟩, ⟨none, .no⟩, ⟨some true, .no⟩, ⟨some true, .no⟩, ⟨some true, .no⟩, ⟨some true, .no⟩, ⟨some true, .no⟩, ⟨some true, .no⟩, ⟨some true, .no⟩, ⟨some true, .no⟩, ⟨some true, .no⟩, ⟨none, .tv true⟩, ⟨none, .no⟩, ⟨some false, .no⟩, ⟨some false, .no⟩, ⟨some false, .no⟩, ⟨some false, .no⟩, ⟨some false, .no⟩, ⟨some false, .no⟩, ⟨none, .tv false⟩, ⟨none, .no⟩, ⟨some false, .no⟩, ⟨some false, .no⟩, ⟨some false, .no⟩, ⟨some false, .no⟩, ⟨some false, .no⟩, ⟨some false, .no⟩, ⟨none, .tv false⟩, ⟨none, .no⟩]) (st' := ⟨[(2, .one (.dat .bool false)), (37, .one (.dat .bool false)), (36, .und), (35, .und), (34, .und), (33, .und), (32, .und), (31, .und), (30, .one (.dat .bool false)), (29, .one (.dat .bool false)), (28, .und), (27, .und), (26, .und), (25, .und), (24, .und), (23, .und), (22, .one (.dat .bool ((lenI a0.2.2.1) == (wmul .i64 a0.1 a0.2.1)))), (21, .one (.dat .bool ((lenI a0.2.2.1) == (wmul .i64 a0.1 a0.2.1)))), (20, .one (.dat .bool ((lenI a0.2.2.1) == (wmul .i64 a0.1 a0.2.1)))), (19, .one (.dat (.int .i64) (wmul .i64 a0.1 a0.2.1))), (18, .one (.dat (.int .i64) a0.2.1)), (17, .one (.ptr 0 1)), (16, .one (.dat (.int .i64) a0.1)), (15, .one (.ptr 0 0)), (14, .one (.dat (.int .i64) (lenI a0.2.2.1))), (13, .one (.dat (.sl (.int .i64)) a0.2.2.1)), (12, .one (.ptr 0 2)), (11, .one (.dat .bool y7)), (10, .one (.dat .bool y7)), (9, .one (.dat .bool y7)), (8, .one (.dat (.int .i64) a0.2.1)), (7, .one (.ptr 0 1)), (6, .one (.dat .bool y4)), (5, .one (.dat .bool y4)), (4, .one (.dat (.int .i64) a0.1)), (3, .one (.ptr 0 0)), (1, .one (.ptr 0 0))], [(0, .box [.dat (.int .i64) a0.1, .dat (.int .i64) a0.2.1, .dat (.sl (.int .i64)) a0.2.2.1, .dat (.sl .bool) a0.2.2.2])], 1⟩) hP hN (by kernel_rfl) (allCons (f86_ok hc5) (allCons hb6 (allCons hb6 (allCons hb6 (allCons (f86_ok hc8) (allCons hb6 (allCons hb9 (allCons hb9 (allCons hb9 (allCons hb9 (allCons hb9 (allCons hb9 (allCons hb9 (allCons hb9 (allCons hb9 (allCons hb9 (allCons hb10 (allCons hb10 (allCons hb10 (allCons hb10 (allCons hb10 (allCons hb10 (allCons hb10 (allCons (rfl : false = false) (allCons (rfl : false = false) (allCons (rfl : false = false) (allCons (rfl : false = false) (allCons (rfl : false = false) (allCons (rfl : false = false) (allCons (rfl : false = false) allNil)))))))))))))))))))))))))))))) (qThen ?_)
          exact (Le.cv (s := ⟨[], [], [], false⟩) (own := []) (ps := [false = false]) (st' := ⟨[(2, .one (.dat .bool false))], [], 0⟩) hO (fun h => by cases h) (by kernel_rfl) ⟨rfl, trivial⟩).ht (cont false (of_some hT3))
      · refine HT.reg (rs := [⟨none, .no⟩, ⟨none, .no⟩, ⟨none, .call [.imm (.int .i64), .imm (.int .i64), .imm (.int .i64)] [⟨false, .bool, y4⟩] []⟩, ⟨none, .no⟩, ⟨some true, .no⟩, ⟨some true, .no⟩, ⟨some true, .call [.imm (.int .i64), .imm (.int .i64), .imm (.int .i64)] [⟨false, .bool, y7⟩] []⟩, ⟨none, .tv true⟩, ⟨none, .no⟩, ⟨some false, .no⟩, ⟨some false, .no⟩, ⟨some false, .no⟩, ⟨some false, .no⟩, ⟨some false, .no⟩, ⟨some false, .no⟩, ⟨some false, .no⟩, ⟨some false, .no⟩, ⟨some false, .no⟩, ⟨none, .tv false⟩, ⟨none, .no⟩, ⟨some false, .no⟩, ⟨some false, .no⟩, ⟨some false, .no⟩, ⟨some false, .no⟩, ⟨some false, .no⟩, ⟨some false, .no⟩, ⟨none, .tv false⟩, ⟨none, .no⟩, ⟨some false, .no⟩, ⟨some false, .no⟩, ⟨some false, .no⟩, ⟨some false, .no⟩, ⟨some false, .no⟩, ⟨some false, .no⟩, ⟨none, .tv false⟩, ⟨none, .no⟩]) (st' := ⟨[(2, .one (.dat .bool false)), (37, .one (.dat .bool false)), (36, .und), (35, .und), (34, .und), (33, .und), (32, .und), (31, .und), (30, .one (.dat .bool false)), (29, .one (.dat .bool false)), (28, .und), (27, .und), (26, .und), (25, .und), (24, .und), (23, .und), (22, .one (.dat .bool false)), (21, .one (.dat .bool false)), (20, .und), (19, .und), (18, .und), (17, .und), (16, .und), (15, .und), (14, .und), (13, .und), (12, .und), (11, .one (.dat .bool y7)), (10, .one (.dat .bool y7)), (9, .one (.dat .bool y7)), (8, .one (.dat (.int .i64) a0.2.1)), (7, .one (.ptr 0 1)), (6, .one (.dat .bool y4)), (5, .one (.dat .bool y4)), (4, .one (.dat (.int .i64) a0.1)), (3, .one (.ptr 0 0)), (1, .one (.ptr 0 0))], [(0, .box [.dat (.int .i64) a0.1, .dat (.int .i64) a0.2.1, .dat (.sl (.int .i64)) a0.2.2.1, .dat (.sl .bool) a0.2.2.2])], 1⟩) hP hN (by kernel_rfl) (allCons (f86_ok hc5) (allCons hb6 (allCons hb6 (allCons hb6 (allCons (f86_ok hc8) (allCons hb6 (allCons hb9 (allCons hb9 (allCons hb9 (allCons hb9 (allCons hb9 (allCons hb9 (allCons hb9 (allCons hb9 (allCons hb9 (allCons hb9 (allCons (rfl : false = false) (allCons (rfl : false = false) (allCons (rfl : false = false) (allCons (rfl : false = false) (allCons (rfl : false = false) (allCons (rfl : false = false) (allCons (rfl : false = false) (allCons (rfl : false = false) (allCons (rfl : false = false) (allCons (rfl : false = false) (allCons (rfl : false = false) (allCons (rfl : false = false) (allCons (rfl : false = false) (allCons (rfl : false = false) allNil)))))))))))))))))))))))))))))) (qThen ?_)
        exact (Le.cv (s := ⟨[], [], [], false⟩) (own := []) (ps := [false = false]) (st' := ⟨[(2, .one (.dat .bool false))], [], 0⟩) hO (fun h => by cases h) (by kernel_rfl) ⟨rfl, trivial⟩).ht (cont false (of_some hT3))
    · refine HT.reg (rs := [⟨none, .no⟩, ⟨none, .no⟩, ⟨none, .call [.imm (.int .i64), .imm (.int .i64), .imm (.int .i64)] [⟨false, .bool, y4⟩] []⟩, ⟨none, .no⟩, ⟨some false, .no⟩, ⟨some false, .no⟩, ⟨some false, .no⟩, ⟨none, .tv false⟩, ⟨none, .no⟩, ⟨some false, .no⟩, ⟨some false, .no⟩, ⟨some false, .no⟩, ⟨some false, .no⟩, ⟨some false, .no⟩, ⟨some false, .no⟩, ⟨some false, .no⟩, ⟨some false, .no⟩, ⟨some false, .no⟩, ⟨none, .tv false⟩, ⟨none, .no⟩, ⟨some false, .no⟩, ⟨some false, .no⟩, ⟨some false, .no⟩, ⟨some false, .no⟩, ⟨some false, .no⟩, ⟨some false, .no⟩, ⟨none, .tv false⟩, ⟨none, .no⟩, ⟨some false, .no⟩, ⟨some false, .no⟩, ⟨some false, .no⟩, ⟨some false, .no⟩, ⟨some false, .no⟩, ⟨some false, .no⟩, ⟨none, .tv false⟩, ⟨none, .no⟩]) (st' := ⟨[(2, .one (.dat .bool false)), (37, .one (.dat .bool false)), (36, .und), (35, .und), (34, .und), (33, .und), (32, .und), (31, .und), (30, .one (.dat .bool false)), (29, .one (.dat .bool false)), (28, .und), (27, .und), (26, .und), (25, .und), (24, .und), (23, .und), (22, .one (.dat .bool false)), (21, .one (.dat .bool false)), (20, .und), (19, .und), (18, .und), (17, .und), (16, .und), (15, .und), (14, .und), (13, .und), (12, .und), (11, .one (.dat .bool false)), (10, .one (.dat .bool false)), (9, .und), (8, .und), (7, .und), (6, .one (.dat .bool y4)), (5, .one (.dat .bool y4)), (4, .one (.dat (.int .i64) a0.1)), (3, .one (.ptr 0 0)), (1, .one (.ptr 0 0))], [(0, .box [.dat (.int .i64) a0.1, .dat (.int .i64) a0.2.1, .dat (.sl (.int .i64)) a0.2.2.1, .dat (.sl .bool) a0.2.2.2])], 1⟩) hP hN (by kernel_rfl) (allCons (f86_ok hc5) (allCons hb6 (allCons hb6 (allCons hb6 (allCons hb6 (allCons (rfl : false = false) (allCons (rfl : false = false) (allCons (rfl : false = false) (allCons (rfl : false = false) (allCons (rfl : false = false) (allCons (rfl : false = false) (allCons (rfl : false = false) (allCons (rfl : false = false) (allCons (rfl : false = false) (allCons (rfl : false = false) (allCons (rfl : false = false) (allCons (rfl : false = false) (allCons (rfl : false = false) (allCons (rfl : false = false) (allCons (rfl : false = false) (allCons (rfl : false = false) (allCons (rfl : false = false) (allCons (rfl : false = false) (allCons (rfl : false = false) (allCons (rfl : false = false) (allCons (rfl : false = false) (allCons (rfl : false = false) (allCons (rfl : false = false) (allCons (rfl : false = false) allNil))))))))))))))))))))))))))))) (qThen ?_)
      exact (Le.cv (s := ⟨[], [], [], false⟩) (own := []) (ps := [false = false]) (st' := ⟨[(2, .one (.dat .bool false))], [], 0⟩) hO (fun h => by cases h) (by kernel_rfl) ⟨rfl, trivial⟩).ht (cont false (of_some hT3))

noncomputable def impl_ValidKept (a0 : List UInt8 × Int × Int × List Int × List Bool) : Option (Bool) :=
  (show Option (Bool) from
    (impl_IsName a0.1).bind fun y4 =>
    bif y4 then
      (impl_ValidPlain (a0.2.1, a0.2.2.1, a0.2.2.2.1, a0.2.2.2.2)).bind fun y7 =>
      some y7
    else
      some false).bind fun v1 =>
  some v1

theorem f130_ok {a0 : List UInt8 × Int × Int × List Int × List Bool} {r : Bool} (hr : impl_ValidKept a0 = some r) : CallOK Try.prog 130 [.imm (.st (.pair .str (.st (.pair (.int .i64) (.pair (.int .i64) (.pair (.sl (.int .i64)) (.sl .bool))))))) a0] [⟨false, .bool, r⟩] [] := by
  unfold impl_ValidKept at hr
  refine CallOK.of_body (ts := [(false, .bool)]) Try.func130 rfl (by kernel_rfl) (Nat.le_of_ble_eq_true (by kernel_rfl)) fun cx hP hN hO hF => ?_
  have hO : cx.own.map Prod.fst = [] := hO
  have hF := hF rfl
  show HT cx ⟨[(0, .agg [.dat .str a0.1, .dat (.int .i64) a0.2.1, .dat (.int .i64) a0.2.2.1, .dat (.sl (.int .i64)) a0.2.2.2.1, .dat (.sl .bool) a0.2.2.2.2])], [], 0⟩ _ _
  refine HT.reg1 [1] [⟨none, .no⟩, ⟨none, .no⟩] ⟨[(1, .one (.ptr 0 0))], [(0, .box [.dat .str a0.1, .dat (.int .i64) a0.2.1, .dat (.int .i64) a0.2.2.1, .dat (.sl (.int .i64)) a0.2.2.2.1, .dat (.sl .bool) a0.2.2.2.2])], 1⟩ hP hN (by kernel_rfl) allNil ?_
  obtain ⟨v1', hT3, hr⟩ := of_bind hr
  refine HT.join (fun (v1 : Bool) => ⟨[(2, .one (.dat .bool v1))], [], 0⟩) (fun v => v = v1') (fun v1 hv2 => ?_) (fun cont => ?_)
  · subst hv2
    have hr := of_some hr
    subst hr
    exact HT.ret ⟨[.one (.dat .bool v1)], [], [], by kernel_rfl, by kernel_rfl, rfl, by kernel_rfl, by kernel_rfl, trivial⟩
  · obtain ⟨y4, hc5, hT3⟩ := of_bind hT3
    rcases of_bif hT3 with ⟨hb6, hT3⟩ | ⟨hb6, hT3⟩
    · obtain ⟨y7, hc8, hT3⟩ := of_bind hT3
      refine HT.reg (rs := [⟨none, .no⟩, ⟨none, .no⟩, ⟨none, .call [.imm .str] [⟨false, .bool, y4⟩] []⟩, ⟨none, .no⟩, ⟨some true, .no⟩, ⟨some true, .no⟩, ⟨some true, .call [.imm (.st (.pair (.int .i64) (.pair (.int .i64) (.pair (.sl (.int .i64)) (.sl .bool)))))] [⟨false, .bool, y7⟩] []⟩, ⟨none, .tv true⟩, ⟨none, .no⟩]) (st' := ⟨[(2, .one (.dat .bool y7)), (10, .one (.dat .bool y7)), (9, .one (.dat .bool y7)), (8, .agg [.dat (.int .i64) a0.2.1, .dat (.int .i64) a0.2.2.1, .dat (.sl (.int .i64)) a0.2.2.2.1, .dat (.sl .bool) a0.2.2.2.2]), (7, .one (.ptr 0 1)), (6, .one (.dat .bool y4)), (5, .one (.dat .bool y4)), (4, .one (.dat .str a0.1)), (3, .one (.ptr 0 0)), (1, .one (.ptr 0 0))], [(0, .box [.dat .str a0.1, .dat (.int .i64) a0.2.1, .dat (.int .i64) a0.2.2.1, .dat (.sl (.int .i64)) a0.2.2.2.1, .dat (.sl .bool) a0.2.2.2.2])], 1⟩) hP hN (by kernel_rfl) (allCons (f157_ok hc5) (allCons hb6 (allCons hb6 (allCons hb6 (allCons (f158_ok hc8) (allCons hb6 allNil)))))) (qThen ?_)
      exact (Le.cv (s := ⟨[], [], [], false⟩) (own := []) (ps := [y7 = y7]) (st' := ⟨[(2, .one (.dat .bool y7))], [], 0⟩) hO (fun h => by cases h) (by kernel_rfl) ⟨rfl, trivial⟩).ht (cont y7 (of_some hT3))
    · refine HT.reg (rs := [⟨none, .no⟩, ⟨none, .no⟩, ⟨none, .call [.imm .str] [⟨false, .bool, y4⟩] []⟩, ⟨none, .no⟩, ⟨some false, .no⟩, ⟨some false, .no⟩, ⟨some false, .no⟩, ⟨none, .tv false⟩, ⟨none, .no⟩]) (st' := ⟨[(2, .one (.dat .bool false)), (10, .one (.dat .bool false)), (9, .und), (8, .und), (7, .und), (6, .one (.dat .bool y4)), (5, .one (.dat .bool y4)), (4, .one (.dat .str a0.1)), (3, .one (.ptr 0 0)), (1, .one (.ptr 0 0))], [(0, .box [.dat .str a0.1, .dat (.int .i64) a0.2.1, .dat (.int .i64) a0.2.2.1, .dat (.sl (.int .i64)) a0.2.2.2.1, .dat (.sl .bool) a0.2.2.2.2])], 1⟩) hP hN (by kernel_rfl) (allCons (f157_ok hc5) (allCons hb6 (allCons hb6 (allCons hb6 (allCons hb6 allNil))))) (qThen ?_)
      exact (Le.cv (s := ⟨[], [], [], false⟩) (own := []) (ps := [false = false]) (st' := ⟨[(2, .one (.dat .bool false))], [], 0⟩) hO (fun h => by cases h) (by kernel_rfl) ⟨rfl, trivial⟩).ht (cont false (of_some hT3))

noncomputable def impl_CheckOf_B1 (a1 : List UInt8) (s4 : Int × Int) : Option ((Int × Int) ⊕ (Int)) :=
  bif (decide (s4.2 < (lenI a1))) then
    guardP ((0 : Int) ≤ s4.2 ∧ s4.2 < lenI a1) (
      some (.inl ((Int.tmod (wadd .i64 (wadd .i64 (wmul .i64 (919 : Int) s4.1) (IntKind.wrap .i64 ((((List.getD a1 (Int.toNat s4.2) 0 : UInt8).toNat : Nat)) : Int))) (191 : Int)) (65003 : Int)), (wadd .i64 s4.2 (1 : Int)))))
  else
    some (.inr s4.1)

noncomputable def impl_CheckOf (a0 : Int) (a1 : List UInt8) : Option (Int × Bool) :=
  (impl_within a0 (0 : Int) (65002 : Int)).bind fun y1 =>
  bif (!y1) then
    some ((0 : Int), false)
  else
    (rounds (impl_CheckOf_B1 a1) (a0, (0 : Int))).bind fun r6 =>
    some (r6, true)

theorem f131_ok {a0 : Int} {a1 : List UInt8} {r : Int × Bool} (hr : impl_CheckOf a0 a1 = some r) : CallOK Try.prog 131 [.imm (.int .i64) a0, .imm .str a1] [⟨false, (.int .i64), r.1⟩, ⟨false, .bool, r.2⟩] [] := by
  unfold impl_CheckOf at hr
  refine CallOK.of_body (ts := [(false, (.int .i64)), (false, .bool)]) Try.func131 rfl (by kernel_rfl) (Nat.le_of_ble_eq_true (by kernel_rfl)) fun cx hP hN hO hF => ?_
  have hO : cx.own.map Prod.fst = [] := hO
  have hF := hF rfl
  show HT cx ⟨[(0, .one (.dat (.int .i64) a0)), (1, .one (.dat .str a1))], [], 0⟩ _ _
  refine HT.reg1 [0, 1] [⟨none, .no⟩, ⟨none, .no⟩] ⟨[(0, .one (.dat (.int .i64) a0)), (1, .one (.dat .str a1))], [], 0⟩ hP hN (by kernel_rfl) allNil ?_
  refine HT.seq ?_
  obtain ⟨y1, hc2, hr⟩ := of_bind hr
  refine HT.reg1 [0, 1, 9] [⟨none, .no⟩, ⟨none, .call [.imm (.int .i64), .imm (.int .i64), .imm (.int .i64)] [⟨false, .bool, y1⟩] []⟩, ⟨none, .no⟩] ⟨[(0, .one (.dat (.int .i64) a0)), (1, .one (.dat .str a1)), (9, .one (.dat .bool (!y1)))], [], 0⟩ hP hN (by kernel_rfl) (allCons (f86_ok hc2) allNil) ?_
  rcases of_bif hr with ⟨hb3, hr⟩ | ⟨hb3, hr⟩
  · refine HT.cond1 rfl hb3 ?_
    refine HT.reg1 [4, 5] [⟨none, .no⟩, ⟨none, .no⟩] ⟨[(4, .one (.dat (.int .i64) (0 : Int))), (5, .one (.dat .bool false))], [], 0⟩ hP hN (by kernel_rfl) allNil ?_
    have hr := of_some hr
    subst hr
    exact HT.ret (qThenR ⟨[.one (.dat (.int .i64) (0 : Int)), .one (.dat .bool false)], [], [], by kernel_rfl, by kernel_rfl, rfl, by kernel_rfl, by kernel_rfl, trivial⟩)
  · refine HT.cond0 rfl hb3 ?_
    refine HT.skip (qThen ?_)
    refine HT.seq ?_
    refine HT.reg1 [0, 1, 11, 12] [⟨none, .no⟩, ⟨none, .no⟩, ⟨none, .no⟩] ⟨[(0, .one (.dat (.int .i64) a0)), (1, .one (.dat .str a1)), (11, .one (.dat (.int .i64) (lenI a1))), (12, .one (.dat (.int .i64) (0 : Int)))], [], 0⟩ hP hN (by kernel_rfl) allNil ?_
    refine HT.block ?_
    obtain ⟨r5, hL12, hr⟩ := of_bind hr
    refine (Le.cv (s := ⟨[], [], [], false⟩) (own := []) (ps := [a0 = a0, a1 = a1, (lenI a1) = (lenI a1), (0 : Int) = (0 : Int)]) (st' := ⟨[(0, .one (.dat (.int .i64) a0)), (1, .one (.dat .str a1)), (11, .one (.dat (.int .i64) (lenI a1))), (12, .one (.dat (.int .i64) (0 : Int)))], [], 0⟩) hO (fun h => by cases h) (by kernel_rfl) ⟨rfl, rfl, rfl, rfl, trivial⟩).ht ?_
    refine HT.loopE (s := (a0, (0 : Int))) (fun (s4 : Int × Int) => ⟨[(0, .one (.dat (.int .i64) s4.1)), (1, .one (.dat .str a1)), (11, .one (.dat (.int .i64) (lenI a1))), (12, .one (.dat (.int .i64) s4.2))], [], 0⟩) (fun (r6 : Int) => (.exit 0, ⟨[(0, .one (.dat (.int .i64) r6))], [], 0⟩)) hL12 ?_ (fun s4 x7 hx8 hk9 => ?_)
    · refine (qBlockX (qThen ?_))
      refine HT.reg1 [4, 5] [⟨none, .no⟩, ⟨none, .no⟩, ⟨none, .no⟩] ⟨[(4, .one (.dat (.int .i64) r5)), (5, .one (.dat .bool true))], [], 0⟩ hP hN (by kernel_rfl) allNil ?_
      have hr := of_some hr
      subst hr
      exact HT.ret ⟨[.one (.dat (.int .i64) r5), .one (.dat .bool true)], [], [], by kernel_rfl, by kernel_rfl, rfl, by kernel_rfl, by kernel_rfl, trivial⟩
    · refine HT.reg1 [0, 1, 11, 12, 13] [⟨none, .no⟩] ⟨[(0, .one (.dat (.int .i64) s4.1)), (1, .one (.dat .str a1)), (11, .one (.dat (.int .i64) (lenI a1))), (12, .one (.dat (.int .i64) s4.2)), (13, .one (.dat .bool (decide (s4.2 < (lenI a1)))))], [], 0⟩ hP hN (by kernel_rfl) allNil ?_
      refine HT.seq ?_
      rcases of_bif hx8 with ⟨hb10, hx8⟩ | ⟨hb10, hx8⟩
      · refine HT.cond1 rfl hb10 ?_
        refine HT.skip (qThen ?_)
        refine HT.seq ?_
        refine HT.block ?_
        refine HT.reg1 [0, 1, 6, 11, 12] [⟨none, .no⟩, ⟨none, .no⟩] ⟨[(0, .one (.dat (.int .i64) s4.1)), (1, .one (.dat .str a1)), (6, .one (.dat (.int .i64) s4.2)), (11, .one (.dat (.int .i64) (lenI a1))), (12, .one (.dat (.int .i64) s4.2))], [], 0⟩ hP hN (by kernel_rfl) allNil ?_
        obtain ⟨hg11, hx8⟩ := of_guard hx8
        refine HT.reg (rs := [⟨none, .no⟩, ⟨none, .no⟩, ⟨none, .no⟩, ⟨none, .no⟩, ⟨none, .no⟩, ⟨none, .no⟩, ⟨none, .no⟩, ⟨none, .no⟩, ⟨none, .no⟩, ⟨none, .no⟩]) (st' := ⟨[(0, .one (.dat (.int .i64) (Int.tmod (wadd .i64 (wadd .i64 (wmul .i64 (919 : Int) s4.1) (IntKind.wrap .i64 ((((List.getD a1 (Int.toNat s4.2) 0 : UInt8).toNat : Nat)) : Int))) (191 : Int)) (65003 : Int)))), (23, .one (.dat (.int .i64) (Int.tmod (wadd .i64 (wadd .i64 (wmul .i64 (919 : Int) s4.1) (IntKind.wrap .i64 ((((List.getD a1 (Int.toNat s4.2) 0 : UInt8).toNat : Nat)) : Int))) (191 : Int)) (65003 : Int)))), (22, .one (.dat (.int .i64) (wadd .i64 (wadd .i64 (wmul .i64 (919 : Int) s4.1) (IntKind.wrap .i64 ((((List.getD a1 (Int.toNat s4.2) 0 : UInt8).toNat : Nat)) : Int))) (191 : Int)))), (21, .one (.dat (.int .i64) (wadd .i64 (wmul .i64 (919 : Int) s4.1) (IntKind.wrap .i64 ((((List.getD a1 (Int.toNat s4.2) 0 : UInt8).toNat : Nat)) : Int))))), (20, .one (.dat (.int .i64) (IntKind.wrap .i64 ((((List.getD a1 (Int.toNat s4.2) 0 : UInt8).toNat : Nat)) : Int)))), (19, .one (.dat (.int .u8) ((((List.getD a1 (Int.toNat s4.2) 0 : UInt8).toNat : Nat)) : Int))), (18, .one (.dat (.int .i64) s4.2)), (17, .one (.dat .str a1)), (16, .one (.dat (.int .i64) (wmul .i64 (919 : Int) s4.1))), (15, .one (.dat (.int .i64) s4.1)), (0, .one (.dat (.int .i64) s4.1)), (1, .one (.dat .str a1)), (6, .one (.dat (.int .i64) s4.2)), (11, .one (.dat (.int .i64) (lenI a1))), (12, .one (.dat (.int .i64) s4.2))], [], 0⟩) hP hN (by kernel_rfl) (allCons hg11 (allCons (show (65003 : Int) ≠ 0 from by decide) allNil)) (qBlock (qThen ?_))
        have hx8 := of_some hx8
        subst hx8
        refine HT.reg (rs := [⟨none, .no⟩, ⟨none, .no⟩]) (st' := ⟨[(12, .one (.dat (.int .i64) (wadd .i64 s4.2 (1 : Int)))), (24, .one (.dat (.int .i64) (wadd .i64 s4.2 (1 : Int)))), (0, .one (.dat (.int .i64) (Int.tmod (wadd .i64 (wadd .i64 (wmul .i64 (919 : Int) s4.1) (IntKind.wrap .i64 ((((List.getD a1 (Int.toNat s4.2) 0 : UInt8).toNat : Nat)) : Int))) (191 : Int)) (65003 : Int)))), (23, .one (.dat (.int .i64) (Int.tmod (wadd .i64 (wadd .i64 (wmul .i64 (919 : Int) s4.1) (IntKind.wrap .i64 ((((List.getD a1 (Int.toNat s4.2) 0 : UInt8).toNat : Nat)) : Int))) (191 : Int)) (65003 : Int)))), (22, .one (.dat (.int .i64) (wadd .i64 (wadd .i64 (wmul .i64 (919 : Int) s4.1) (IntKind.wrap .i64 ((((List.getD a1 (Int.toNat s4.2) 0 : UInt8).toNat : Nat)) : Int))) (191 : Int)))), (21, .one (.dat (.int .i64) (wadd .i64 (wmul .i64 (919 : Int) s4.1) (IntKind.wrap .i64 ((((List.getD a1 (Int.toNat s4.2) 0 : UInt8).toNat : Nat)) : Int))))), (20, .one (.dat (.int .i64) (IntKind.wrap .i64 ((((List.getD a1 (Int.toNat s4.2) 0 : UInt8).toNat : Nat)) : Int)))), (19, .one (.dat (.int .u8) ((((List.getD a1 (Int.toNat s4.2) 0 : UInt8).toNat : Nat)) : Int))), (18, .one (.dat (.int .i64) s4.2)), (17, .one (.dat .str a1)), (16, .one (.dat (.int .i64) (wmul .i64 (919 : Int) s4.1))), (15, .one (.dat (.int .i64) s4.1)), (0, .one (.dat (.int .i64) s4.1)), (1, .one (.dat .str a1)), (6, .one (.dat (.int .i64) s4.2)), (11, .one (.dat (.int .i64) (lenI a1))), (12, .one (.dat (.int .i64) s4.2))], [], 0⟩) hP hN (by kernel_rfl) allNil (qLoopN ⟨((Int.tmod (wadd .i64 (wadd .i64 (wmul .i64 (919 : Int) s4.1) (IntKind.wrap .i64 ((((List.getD a1 (Int.toNat s4.2) 0 : UInt8).toNat : Nat)) : Int))) (191 : Int)) (65003 : Int)), (wadd .i64 s4.2 (1 : Int))), rfl, Le.cv (s := ⟨[], [], [], false⟩) (own := []) (ps := [(Int.tmod (wadd .i64 (wadd .i64 (wmul .i64 (919 : Int) s4.1) (IntKind.wrap .i64 ((((List.getD a1 (Int.toNat s4.2) 0 : UInt8).toNat : Nat)) : Int))) (191 : Int)) (65003 : Int)) = (Int.tmod (wadd .i64 (wadd .i64 (wmul .i64 (919 : Int) s4.1) (IntKind.wrap .i64 ((((List.getD a1 (Int.toNat s4.2) 0 : UInt8).toNat : Nat)) : Int))) (191 : Int)) (65003 : Int)), a1 = a1, (lenI a1) = (lenI a1), (wadd .i64 s4.2 (1 : Int)) = (wadd .i64 s4.2 (1 : Int))]) (st' := ⟨[(0, .one (.dat (.int .i64) (Int.tmod (wadd .i64 (wadd .i64 (wmul .i64 (919 : Int) s4.1) (IntKind.wrap .i64 ((((List.getD a1 (Int.toNat s4.2) 0 : UInt8).toNat : Nat)) : Int))) (191 : Int)) (65003 : Int)))), (1, .one (.dat .str a1)), (11, .one (.dat (.int .i64) (lenI a1))), (12, .one (.dat (.int .i64) (wadd .i64 s4.2 (1 : Int))))], [], 0⟩) hO (fun h => by cases h) (by kernel_rfl) ⟨rfl, rfl, rfl, rfl, trivial⟩⟩)
      · refine HT.cond0 rfl hb10 ?_
        have hx8 := of_some hx8
        subst hx8
        refine (Le.cv (s := ⟨[], [], [], false⟩) (own := []) (ps := [s4.1 = s4.1]) (st' := ⟨[(0, .one (.dat (.int .i64) s4.1))], [], 0⟩) hO (fun h => by cases h) (by kernel_rfl) ⟨rfl, trivial⟩).ht ?_
        exact HT.exit (qThenE (qLoopE (hk9 s4.1 rfl)))

noncomputable def impl_StoreKept_B1 (a0 : List UInt8 × Int × Int × List Int × List Bool) (s14 : Int × List Int) : Option ((Int × List Int) ⊕ (List Int)) :=
  bif (decide (s14.1 < (lenI a0.2.2.2.2))) then
    (show Option (List Int) from
      guardP ((0 : Int) ≤ s14.1 ∧ s14.1 < lenI a0.2.2.2.2) (
        bif (List.getD a0.2.2.2.2 (Int.toNat s14.1) false) then
          guardP (List.length s14.2 + List.length ([(1 : Int)] : List Int) ≤ appMax) (
            some (s14.2 ++ ([(1 : Int)] : List Int)))
        else
          guardP (List.length s14.2 + List.length ([(0 : Int)] : List Int) ≤ appMax) (
            some (s14.2 ++ ([(0 : Int)] : List Int))))).bind fun v30 =>
    some (.inl ((wadd .i64 s14.1 (1 : Int)), v30))
  else
    some (.inr s14.2)

noncomputable def impl_StoreKept_B2 (a0 : List UInt8 × Int × Int × List Int × List Bool) (s11 : Int × List Int) : Option ((Int × List Int) ⊕ (List Int)) :=
  bif (decide (s11.1 < (lenI a0.2.2.2.1))) then
    guardP ((0 : Int) ≤ s11.1 ∧ s11.1 < lenI a0.2.2.2.1) (
      guardP (List.length s11.2 + List.length ([(IntKind.wrap .u8 (List.getD a0.2.2.2.1 (Int.toNat s11.1) (0 : Int)))] : List Int) ≤ appMax) (
        some (.inl ((wadd .i64 s11.1 (1 : Int)), (s11.2 ++ ([(IntKind.wrap .u8 (List.getD a0.2.2.2.1 (Int.toNat s11.1) (0 : Int)))] : List Int))))))
  else
    some (.inr s11.2)

noncomputable def impl_StoreKept (a0 : List UInt8 × Int × Int × List Int × List Bool) : Option (List UInt8 × Bool) :=
  (impl_ValidKept (a0.1, a0.2.1, a0.2.2.1, a0.2.2.2.1, a0.2.2.2.2)).bind fun y1 =>
  bif (!y1) then
    some (([] : List UInt8), false)
  else
    guardP (List.length ([(65 : Int), (85 : Int), (84 : Int), (49 : Int)] : List Int) + List.length ([(IntKind.wrap .u8 (lenI a0.1))] : List Int) ≤ appMax) (
      (some (([(65 : Int), (85 : Int), (84 : Int), (49 : Int)] : List Int) ++ ([(IntKind.wrap .u8 (lenI a0.1))] : List Int))).bind fun q5 =>
      guardP (List.length q5 + List.length a0.1 ≤ appMax) (
        guardP (List.length (q5 ++ bytesI a0.1) + List.length ([(IntKind.wrap .u8 a0.2.1), (IntKind.wrap .u8 a0.2.2.1)] : List Int) ≤ appMax) (
          (some ((q5 ++ bytesI a0.1) ++ ([(IntKind.wrap .u8 a0.2.1), (IntKind.wrap .u8 a0.2.2.1)] : List Int))).bind fun q9 =>
          (rounds (impl_StoreKept_B2 a0) ((0 : Int), q9)).bind fun r13 =>
          (rounds (impl_StoreKept_B1 a0) ((0 : Int), r13)).bind fun r16 =>
          (impl_CheckOf (0 : Int) (bytesO r16)).bind fun y17 =>
          guardP (List.length r16 + List.length ([(IntKind.wrap .u8 y17.1), (IntKind.wrap .u8 (Int.fdiv y17.1 (2 ^ (min (Int.toNat (8 : Int)) (IntKind.bits .i64)))))] : List Int) ≤ appMax) (
            (some (bytesO (r16 ++ ([(IntKind.wrap .u8 y17.1), (IntKind.wrap .u8 (Int.fdiv y17.1 (2 ^ (min (Int.toNat (8 : Int)) (IntKind.bits .i64)))))] : List Int)))).bind fun q20 =>
            (some (r16 ++ ([(IntKind.wrap .u8 y17.1), (IntKind.wrap .u8 (Int.fdiv y17.1 (2 ^ (min (Int.toNat (8 : Int)) (IntKind.bits .i64)))))] : List Int))).bind fun q22 =>
            (some ([(IntKind.wrap .u8 y17.1), (IntKind.wrap .u8 (Int.fdiv y17.1 (2 ^ (min (Int.toNat (8 : Int)) (IntKind.bits .i64)))))] : List Int)).bind fun q24 =>
            some (q20, true)))))

theorem f82_ok {a0 : List UInt8 × Int × Int × List Int × List Bool} {r : List UInt8 × Bool} (hr : impl_StoreKept a0 = some r) : CallOK Try.prog 82 [.imm (.st (.pair .str (.st (.pair (.int .i64) (.pair (.int .i64) (.pair (.sl (.int .i64)) (.sl .bool))))))) a0] [⟨false, .str, r.1⟩, ⟨false, .bool, r.2⟩] [] := by
  unfold impl_StoreKept at hr
  refine CallOK.of_body (ts := [(false, .str), (false, .bool)]) Try.func82 rfl (by kernel_rfl) (Nat.le_of_ble_eq_true (by kernel_rfl)) fun cx hP hN hO hF => ?_
  have hO : cx.own.map Prod.fst = [] := hO
  have hF := hF rfl
  show HT cx ⟨[(0, .agg [.dat .str a0.1, .dat (.int .i64) a0.2.1, .dat (.int .i64) a0.2.2.1, .dat (.sl (.int .i64)) a0.2.2.2.1, .dat (.sl .bool) a0.2.2.2.2])], [], 0⟩ _ _
  refine HT.reg1 [1] [⟨none, .no⟩, ⟨none, .no⟩, ⟨none, .no⟩] ⟨[(1, .one (.ptr 0 0))], [(0, .box [.dat .str a0.1, .dat (.int .i64) a0.2.1, .dat (.int .i64) a0.2.2.1, .dat (.sl (.int .i64)) a0.2.2.2.1, .dat (.sl .bool) a0.2.2.2.2])], 1⟩ hP hN (by kernel_rfl) allNil ?_
  refine HT.seq ?_
  obtain ⟨y1, hc2, hr⟩ := of_bind hr
  refine HT.reg1 [1, 13] [⟨none, .no⟩, ⟨none, .call [.imm (.st (.pair .str (.st (.pair (.int .i64) (.pair (.int .i64) (.pair (.sl (.int .i64)) (.sl .bool)))))))] [⟨false, .bool, y1⟩] []⟩, ⟨none, .no⟩] ⟨[(1, .one (.ptr 0 0)), (13, .one (.dat .bool (!y1)))], [(0, .box [.dat .str a0.1, .dat (.int .i64) a0.2.1, .dat (.int .i64) a0.2.2.1, .dat (.sl (.int .i64)) a0.2.2.2.1, .dat (.sl .bool) a0.2.2.2.2])], 1⟩ hP hN (by kernel_rfl) (allCons (f130_ok hc2) allNil) ?_
  rcases of_bif hr with ⟨hb3, hr⟩ | ⟨hb3, hr⟩
  · refine HT.cond1 rfl hb3 ?_
    refine HT.reg1 [2, 3] [⟨none, .no⟩, ⟨none, .no⟩] ⟨[(2, .one (.dat .str ([] : List UInt8))), (3, .one (.dat .bool false))], [(0, .box [.dat .str a0.1, .dat (.int .i64) a0.2.1, .dat (.int .i64) a0.2.2.1, .dat (.sl (.int .i64)) a0.2.2.2.1, .dat (.sl .bool) a0.2.2.2.2])], 1⟩ hP hN (by kernel_rfl) allNil ?_
    have hr := of_some hr
    subst hr
    exact HT.ret (qThenR ⟨[.one (.dat .str ([] : List UInt8)), .one (.dat .bool false)], [], [], by kernel_rfl, by kernel_rfl, rfl, by kernel_rfl, by kernel_rfl, trivial⟩)
  · refine HT.cond0 rfl hb3 ?_
    refine HT.skip (qThen ?_)
    obtain ⟨hg4, hr⟩ := of_guard hr
    refine HT.reg1 [1, 4] [⟨none, .ty (.int .u8)⟩, ⟨none, .no⟩, ⟨none, .no⟩, ⟨none, .no⟩, ⟨none, .no⟩, ⟨none, .no⟩, ⟨none, .ty (.int .u8)⟩, ⟨none, .ty (.int .u8)⟩, ⟨none, .no⟩] ⟨[(1, .one (.ptr 0 0)), (4, .one (.all 3))], [(1, .gone), (3, .seq (.int .u8) (([(65 : Int), (85 : Int), (84 : Int), (49 : Int)] : List Int) ++ ([(IntKind.wrap .u8 (lenI a0.1))] : List Int))), (2, .seq (.int .u8) ([(IntKind.wrap .u8 (lenI a0.1))] : List Int)), (1, .seq (.int .u8) ([(65 : Int), (85 : Int), (84 : Int), (49 : Int)] : List Int)), (1, .seq (.int .u8) ([(65 : Int), (85 : Int), (84 : Int), (49 : Int)] : List Int)), (0, .box [.dat .str a0.1, .dat (.int .i64) a0.2.1, .dat (.int .i64) a0.2.2.1, .dat (.sl (.int .i64)) a0.2.2.2.1, .dat (.sl .bool) a0.2.2.2.2])], 4⟩ hP hN (by kernel_rfl) (allCons (show 0 < List.length ([(65 : Int), (85 : Int), (84 : Int), (49 : Int)] : List Int) from by decide) (allCons hg4 allNil)) ?_
    obtain ⟨q5, hq6, hr⟩ := of_bind hr
    have hq6 := of_some2 hq6
    refine (Le.cv (s := ⟨[(3, 3), (2, 2), (0, 0)], [], [], false⟩) (own := []) (ps := [q5 = (([(65 : Int), (85 : Int), (84 : Int), (49 : Int)] : List Int) ++ ([(IntKind.wrap .u8 (lenI a0.1))] : List Int)), ([(IntKind.wrap .u8 (lenI a0.1))] : List Int) = ([(IntKind.wrap .u8 (lenI a0.1))] : List Int), a0.1 = a0.1, a0.2.1 = a0.2.1, a0.2.2.1 = a0.2.2.1, a0.2.2.2.1 = a0.2.2.2.1, a0.2.2.2.2 = a0.2.2.2.2]) (st' := ⟨[(1, .one (.ptr 0 0)), (4, .one (.all 3))], [(3, .seq (.int .u8) q5), (2, .seq (.int .u8) ([(IntKind.wrap .u8 (lenI a0.1))] : List Int)), (0, .box [.dat .str a0.1, .dat (.int .i64) a0.2.1, .dat (.int .i64) a0.2.2.1, .dat (.sl (.int .i64)) a0.2.2.2.1, .dat (.sl .bool) a0.2.2.2.2])], 4⟩) hO (fun h => by cases h) (by kernel_rfl) ⟨hq6, rfl, rfl, rfl, rfl, rfl, rfl, trivial⟩).ht ?_
    obtain ⟨hg7, hr⟩ := of_guard hr
    refine HT.reg1 [1, 4] [⟨none, .no⟩, ⟨none, .no⟩, ⟨none, .no⟩, ⟨none, .no⟩, ⟨none, .no⟩] ⟨[(1, .one (.ptr 0 0)), (4, .one (.all 4))], [(3, .gone), (4, .seq (.int .u8) (q5 ++ bytesI a0.1)), (3, .seq (.int .u8) q5), (2, .seq (.int .u8) ([(IntKind.wrap .u8 (lenI a0.1))] : List Int)), (0, .box [.dat .str a0.1, .dat (.int .i64) a0.2.1, .dat (.int .i64) a0.2.2.1, .dat (.sl (.int .i64)) a0.2.2.2.1, .dat (.sl .bool) a0.2.2.2.2])], 5⟩ hP hN (by kernel_rfl) (allCons hg7 allNil) ?_
    obtain ⟨hg8, hr⟩ := of_guard hr
    refine HT.reg1 [1, 4] [⟨none, .no⟩, ⟨none, .no⟩, ⟨none, .no⟩, ⟨none, .no⟩, ⟨none, .no⟩, ⟨none, .no⟩, ⟨none, .no⟩, ⟨none, .no⟩, ⟨none, .no⟩, ⟨none, .ty (.int .u8)⟩, ⟨none, .ty (.int .u8)⟩, ⟨none, .no⟩] ⟨[(1, .one (.ptr 0 0)), (4, .one (.all 6))], [(4, .gone), (6, .seq (.int .u8) ((q5 ++ bytesI a0.1) ++ ([(IntKind.wrap .u8 a0.2.1), (IntKind.wrap .u8 a0.2.2.1)] : List Int))), (5, .seq (.int .u8) ([(IntKind.wrap .u8 a0.2.1), (IntKind.wrap .u8 a0.2.2.1)] : List Int)), (3, .gone), (4, .seq (.int .u8) (q5 ++ bytesI a0.1)), (3, .seq (.int .u8) q5), (2, .seq (.int .u8) ([(IntKind.wrap .u8 (lenI a0.1))] : List Int)), (0, .box [.dat .str a0.1, .dat (.int .i64) a0.2.1, .dat (.int .i64) a0.2.2.1, .dat (.sl (.int .i64)) a0.2.2.2.1, .dat (.sl .bool) a0.2.2.2.2])], 7⟩ hP hN (by kernel_rfl) (allCons hg8 allNil) ?_
    obtain ⟨q9, hq10, hr⟩ := of_bind hr
    have hq10 := of_some2 hq10
    refine (Le.cv (s := ⟨[(6, 6), (5, 5), (2, 2), (0, 0)], [], [], false⟩) (own := []) (ps := [q9 = ((q5 ++ bytesI a0.1) ++ ([(IntKind.wrap .u8 a0.2.1), (IntKind.wrap .u8 a0.2.2.1)] : List Int)), ([(IntKind.wrap .u8 a0.2.1), (IntKind.wrap .u8 a0.2.2.1)] : List Int) = ([(IntKind.wrap .u8 a0.2.1), (IntKind.wrap .u8 a0.2.2.1)] : List Int), ([(IntKind.wrap .u8 (lenI a0.1))] : List Int) = ([(IntKind.wrap .u8 (lenI a0.1))] : List Int), a0.1 = a0.1, a0.2.1 = a0.2.1, a0.2.2.1 = a0.2.2.1, a0.2.2.2.1 = a0.2.2.2.1, a0.2.2.2.2 = a0.2.2.2.2]) (st' := ⟨[(1, .one (.ptr 0 0)), (4, .one (.all 6))], [(6, .seq (.int .u8) q9), (5, .seq (.int .u8) ([(IntKind.wrap .u8 a0.2.1), (IntKind.wrap .u8 a0.2.2.1)] : List Int)), (2, .seq (.int .u8) ([(IntKind.wrap .u8 (lenI a0.1))] : List Int)), (0, .box [.dat .str a0.1, .dat (.int .i64) a0.2.1, .dat (.int .i64) a0.2.2.1, .dat (.sl (.int .i64)) a0.2.2.2.1, .dat (.sl .bool) a0.2.2.2.2])], 7⟩) hO (fun h => by cases h) (by kernel_rfl) ⟨hq10, rfl, rfl, rfl, rfl, rfl, rfl, rfl, trivial⟩).ht ?_
    refine HT.seq ?_
    refine HT.reg1 [1, 4, 39, 40, 41] [⟨none, .no⟩, ⟨none, .no⟩, ⟨none, .no⟩, ⟨none, .no⟩, ⟨none, .no⟩] ⟨[(1, .one (.ptr 0 0)), (4, .one (.all 6)), (39, .one (.dat (.sl (.int .i64)) a0.2.2.2.1)), (40, .one (.dat (.int .i64) (lenI a0.2.2.2.1))), (41, .one (.dat (.int .i64) (0 : Int)))], [(6, .seq (.int .u8) q9), (5, .seq (.int .u8) ([(IntKind.wrap .u8 a0.2.1), (IntKind.wrap .u8 a0.2.2.1)] : List Int)), (2, .seq (.int .u8) ([(IntKind.wrap .u8 (lenI a0.1))] : List Int)), (0, .box [.dat .str a0.1, .dat (.int .i64) a0.2.1, .dat (.int .i64) a0.2.2.1, .dat (.sl (.int .i64)) a0.2.2.2.1, .dat (.sl .bool) a0.2.2.2.2])], 7⟩ hP hN (by kernel_rfl) allNil ?_
    refine HT.block ?_
    obtain ⟨r12, hL44, hr⟩ := of_bind hr
    refine (Le.cv (s := ⟨[(0, 0), (6, 1)], [], [], false⟩) (own := []) (ps := [a0.2.2.2.1 = a0.2.2.2.1, (lenI a0.2.2.2.1) = (lenI a0.2.2.2.1), (0 : Int) = (0 : Int), a0.1 = a0.1, a0.2.1 = a0.2.1, a0.2.2.1 = a0.2.2.1, a0.2.2.2.1 = a0.2.2.2.1, a0.2.2.2.2 = a0.2.2.2.2, q9 = q9]) (st' := ⟨[(1, .one (.ptr 0 0)), (4, .one (.all 1)), (39, .one (.dat (.sl (.int .i64)) a0.2.2.2.1)), (40, .one (.dat (.int .i64) (lenI a0.2.2.2.1))), (41, .one (.dat (.int .i64) (0 : Int)))], [(0, .box [.dat .str a0.1, .dat (.int .i64) a0.2.1, .dat (.int .i64) a0.2.2.1, .dat (.sl (.int .i64)) a0.2.2.2.1, .dat (.sl .bool) a0.2.2.2.2]), (1, .seq (.int .u8) q9)], 2⟩) hO (fun h => by cases h) (by kernel_rfl) ⟨rfl, rfl, rfl, rfl, rfl, rfl, rfl, rfl, rfl, trivial⟩).ht ?_
    refine HT.loopE (s := ((0 : Int), q9)) (fun (s11 : Int × List Int) => ⟨[(1, .one (.ptr 0 0)), (4, .one (.all 1)), (39, .one (.dat (.sl (.int .i64)) a0.2.2.2.1)), (40, .one (.dat (.int .i64) (lenI a0.2.2.2.1))), (41, .one (.dat (.int .i64) s11.1))], [(0, .box [.dat .str a0.1, .dat (.int .i64) a0.2.1, .dat (.int .i64) a0.2.2.1, .dat (.sl (.int .i64)) a0.2.2.2.1, .dat (.sl .bool) a0.2.2.2.2]), (1, .seq (.int .u8) s11.2)], 2⟩) (fun (r13 : List Int) => (.exit 0, ⟨[(1, .one (.ptr 0 0)), (4, .one (.all 1))], [(0, .box [.dat .str a0.1, .dat (.int .i64) a0.2.1, .dat (.int .i64) a0.2.2.1, .dat (.sl (.int .i64)) a0.2.2.2.1, .dat (.sl .bool) a0.2.2.2.2]), (1, .seq (.int .u8) r13)], 2⟩)) hL44 ?_ (fun s11 x38 hx39 hk40 => ?_)
    · refine (qBlockX (qThen ?_))
      refine HT.seq ?_
      refine HT.reg1 [4, 53, 54, 55] [⟨none, .no⟩, ⟨none, .no⟩, ⟨none, .no⟩, ⟨none, .no⟩, ⟨none, .no⟩] ⟨[(4, .one (.all 1)), (53, .one (.dat (.sl .bool) a0.2.2.2.2)), (54, .one (.dat (.int .i64) (lenI a0.2.2.2.2))), (55, .one (.dat (.int .i64) (0 : Int)))], [(0, .box [.dat .str a0.1, .dat (.int .i64) a0.2.1, .dat (.int .i64) a0.2.2.1, .dat (.sl (.int .i64)) a0.2.2.2.1, .dat (.sl .bool) a0.2.2.2.2]), (1, .seq (.int .u8) r12)], 2⟩ hP hN (by kernel_rfl) allNil ?_
      refine HT.block ?_
      obtain ⟨r15, hL37, hr⟩ := of_bind hr
      refine (Le.cv (s := ⟨[(1, 0)], [], [], false⟩) (own := []) (ps := [a0.2.2.2.2 = a0.2.2.2.2, (lenI a0.2.2.2.2) = (lenI a0.2.2.2.2), (0 : Int) = (0 : Int), r12 = r12]) (st' := ⟨[(4, .one (.all 0)), (53, .one (.dat (.sl .bool) a0.2.2.2.2)), (54, .one (.dat (.int .i64) (lenI a0.2.2.2.2))), (55, .one (.dat (.int .i64) (0 : Int)))], [(0, .seq (.int .u8) r12)], 1⟩) hO (fun h => by cases h) (by kernel_rfl) ⟨rfl, rfl, rfl, rfl, trivial⟩).ht ?_
      refine HT.loopE (s := ((0 : Int), r12)) (fun (s14 : Int × List Int) => ⟨[(4, .one (.all 0)), (53, .one (.dat (.sl .bool) a0.2.2.2.2)), (54, .one (.dat (.int .i64) (lenI a0.2.2.2.2))), (55, .one (.dat (.int .i64) s14.1))], [(0, .seq (.int .u8) s14.2)], 1⟩) (fun (r16 : List Int) => (.exit 2, ⟨[(4, .one (.all 0))], [(0, .seq (.int .u8) r16)], 1⟩)) hL37 ?_ (fun s14 x26 hx27 hk28 => ?_)
      · refine (qBlockX (qThen ?_))
        obtain ⟨y17, hc18, hr⟩ := of_bind hr
        refine HT.reg1 [4, 9] [⟨none, .no⟩, ⟨none, .no⟩, ⟨none, .call [.imm (.int .i64), .imm .str] [⟨false, (.int .i64), y17.1⟩, ⟨false, .bool, y17.2⟩] []⟩, ⟨none, .no⟩, ⟨none, .no⟩, ⟨none, .no⟩, ⟨none, .no⟩, ⟨none, .no⟩] ⟨[(4, .one (.all 0)), (9, .one (.dat (.int .i64) y17.1))], [(0, .seq (.int .u8) r15)], 1⟩ hP hN (by kernel_rfl) (allCons (f131_ok hc18) allNil) ?_
        obtain ⟨hg19, hr⟩ := of_guard hr
        refine HT.reg1 [2, 3] [⟨none, .no⟩, ⟨none, .no⟩, ⟨none, .no⟩, ⟨none, .no⟩, ⟨none, .no⟩, ⟨none, .no⟩, ⟨none, .ty (.int .u8)⟩, ⟨none, .ty (.int .u8)⟩, ⟨none, .no⟩, ⟨none, .no⟩, ⟨none, .no⟩] ⟨[(2, .one (.dat .str (bytesO (r15 ++ ([(IntKind.wrap .u8 y17.1), (IntKind.wrap .u8 (Int.fdiv y17.1 (2 ^ (min (Int.toNat (8 : Int)) (IntKind.bits .i64)))))] : List Int))))), (3, .one (.dat .bool true))], [(0, .gone), (2, .seq (.int .u8) (r15 ++ ([(IntKind.wrap .u8 y17.1), (IntKind.wrap .u8 (Int.fdiv y17.1 (2 ^ (min (Int.toNat (8 : Int)) (IntKind.bits .i64)))))] : List Int))), (1, .seq (.int .u8) ([(IntKind.wrap .u8 y17.1), (IntKind.wrap .u8 (Int.fdiv y17.1 (2 ^ (min (Int.toNat (8 : Int)) (IntKind.bits .i64)))))] : List Int)), (0, .seq (.int .u8) r15)], 3⟩ hP hN (by kernel_rfl) (allCons (show (0 : Int) ≤ (8 : Int) from by decide) (allCons hg19 allNil)) ?_
        obtain ⟨q20, hq21, hr⟩ := of_bind hr
        have hq21 := of_some2 hq21
        obtain ⟨q22, hq23, hr⟩ := of_bind hr
        have hq23 := of_some2 hq23
        obtain ⟨q24, hq25, hr⟩ := of_bind hr
        have hq25 := of_some2 hq25
        refine (Le.cv (s := ⟨[(2, 2), (1, 1)], [], [], false⟩) (own := []) (ps := [q20 = (bytesO (r15 ++ ([(IntKind.wrap .u8 y17.1), (IntKind.wrap .u8 (Int.fdiv y17.1 (2 ^ (min (Int.toNat (8 : Int)) (IntKind.bits .i64)))))] : List Int))), true = true, q22 = (r15 ++ ([(IntKind.wrap .u8 y17.1), (IntKind.wrap .u8 (Int.fdiv y17.1 (2 ^ (min (Int.toNat (8 : Int)) (IntKind.bits .i64)))))] : List Int)), q24 = ([(IntKind.wrap .u8 y17.1), (IntKind.wrap .u8 (Int.fdiv y17.1 (2 ^ (min (Int.toNat (8 : Int)) (IntKind.bits .i64)))))] : List Int)]) (st' := ⟨[(2, .one (.dat .str q20)), (3, .one (.dat .bool true))], [(2, .seq (.int .u8) q22), (1, .seq (.int .u8) q24)], 3⟩) hO (fun h => by cases h) (by kernel_rfl) ⟨hq21, rfl, hq23, hq25, trivial⟩).ht ?_
        have hr := of_some hr
        subst hr
        exact HT.ret ⟨[.one (.dat .str q20), .one (.dat .bool true)], [], [], by kernel_rfl, by kernel_rfl, rfl, by kernel_rfl, by kernel_rfl, trivial⟩
      · refine HT.reg1 [4, 53, 54, 55, 56] [⟨none, .no⟩] ⟨[(4, .one (.all 0)), (53, .one (.dat (.sl .bool) a0.2.2.2.2)), (54, .one (.dat (.int .i64) (lenI a0.2.2.2.2))), (55, .one (.dat (.int .i64) s14.1)), (56, .one (.dat .bool (decide (s14.1 < (lenI a0.2.2.2.2)))))], [(0, .seq (.int .u8) s14.2)], 1⟩ hP hN (by kernel_rfl) allNil ?_
        refine HT.seq ?_
        rcases of_bif hx27 with ⟨hb29, hx27⟩ | ⟨hb29, hx27⟩
        · refine HT.cond1 rfl hb29 ?_
          refine HT.skip (qThen ?_)
          obtain ⟨v30', hT32, hx27⟩ := of_bind hx27
          refine HT.join (fun (v30 : List Int) => ⟨[(4, .one (.all 0)), (53, .one (.dat (.sl .bool) a0.2.2.2.2)), (54, .one (.dat (.int .i64) (lenI a0.2.2.2.2))), (55, .one (.dat (.int .i64) s14.1))], [(0, .seq (.int .u8) v30)], 1⟩) (fun v => v = v30') (fun v30 hv31 => ?_) (fun cont => ?_)
          · subst hv31
            have hx27 := of_some hx27
            subst hx27
            refine HT.reg (rs := [⟨none, .no⟩, ⟨none, .no⟩]) (st' := ⟨[(55, .one (.dat (.int .i64) (wadd .i64 s14.1 (1 : Int)))), (66, .one (.dat (.int .i64) (wadd .i64 s14.1 (1 : Int)))), (4, .one (.all 0)), (53, .one (.dat (.sl .bool) a0.2.2.2.2)), (54, .one (.dat (.int .i64) (lenI a0.2.2.2.2))), (55, .one (.dat (.int .i64) s14.1))], [(0, .seq (.int .u8) v30)], 1⟩) hP hN (by kernel_rfl) allNil (qLoopN ⟨((wadd .i64 s14.1 (1 : Int)), v30), rfl, Le.cv (s := ⟨[(0, 0)], [], [], false⟩) (own := []) (ps := [a0.2.2.2.2 = a0.2.2.2.2, (lenI a0.2.2.2.2) = (lenI a0.2.2.2.2), (wadd .i64 s14.1 (1 : Int)) = (wadd .i64 s14.1 (1 : Int)), v30 = v30]) (st' := ⟨[(4, .one (.all 0)), (53, .one (.dat (.sl .bool) a0.2.2.2.2)), (54, .one (.dat (.int .i64) (lenI a0.2.2.2.2))), (55, .one (.dat (.int .i64) (wadd .i64 s14.1 (1 : Int))))], [(0, .seq (.int .u8) v30)], 1⟩) hO (fun h => by cases h) (by kernel_rfl) ⟨rfl, rfl, rfl, rfl, trivial⟩⟩)
          · refine HT.block ?_
            obtain ⟨hg33, hT32⟩ := of_guard hT32
            refine HT.reg1 [4, 8, 53, 54, 55] [⟨none, .no⟩, ⟨none, .no⟩, ⟨none, .no⟩] ⟨[(4, .one (.all 0)), (8, .one (.dat .bool (List.getD a0.2.2.2.2 (Int.toNat s14.1) false))), (53, .one (.dat (.sl .bool) a0.2.2.2.2)), (54, .one (.dat (.int .i64) (lenI a0.2.2.2.2))), (55, .one (.dat (.int .i64) s14.1))], [(0, .seq (.int .u8) s14.2)], 1⟩ hP hN (by kernel_rfl) (allCons hg33 allNil) ?_
            refine HT.reg1 [4, 53, 54, 55, 59] [⟨none, .no⟩] ⟨[(4, .one (.all 0)), (53, .one (.dat (.sl .bool) a0.2.2.2.2)), (54, .one (.dat (.int .i64) (lenI a0.2.2.2.2))), (55, .one (.dat (.int .i64) s14.1)), (59, .one (.dat .bool (List.getD a0.2.2.2.2 (Int.toNat s14.1) false)))], [(0, .seq (.int .u8) s14.2)], 1⟩ hP hN (by kernel_rfl) allNil ?_
            rcases of_bif hT32 with ⟨hb34, hT32⟩ | ⟨hb34, hT32⟩
            · refine HT.cond1 rfl hb34 ?_
              obtain ⟨hg35, hT32⟩ := of_guard hT32
              refine HT.reg (rs := [⟨none, .no⟩, ⟨none, .ty (.int .u8)⟩, ⟨none, .ty (.int .u8)⟩, ⟨none, .no⟩]) (st' := ⟨[(4, .one (.all 2)), (62, .one (.all 2)), (61, .one (.all 1)), (60, .one (.all 0)), (4, .one (.all 0)), (53, .one (.dat (.sl .bool) a0.2.2.2.2)), (54, .one (.dat (.int .i64) (lenI a0.2.2.2.2))), (55, .one (.dat (.int .i64) s14.1)), (59, .one (.dat .bool (List.getD a0.2.2.2.2 (Int.toNat s14.1) false)))], [(0, .gone), (2, .seq (.int .u8) (s14.2 ++ ([(1 : Int)] : List Int))), (1, .seq (.int .u8) ([(1 : Int)] : List Int)), (0, .seq (.int .u8) s14.2)], 3⟩) hP hN (by kernel_rfl) (allCons hg35 allNil) (qBlock (qThen ?_))
              exact (Le.cv (s := ⟨[(2, 0)], [], [], false⟩) (own := []) (ps := [a0.2.2.2.2 = a0.2.2.2.2, (lenI a0.2.2.2.2) = (lenI a0.2.2.2.2), s14.1 = s14.1, (s14.2 ++ ([(1 : Int)] : List Int)) = (s14.2 ++ ([(1 : Int)] : List Int))]) (st' := ⟨[(4, .one (.all 0)), (53, .one (.dat (.sl .bool) a0.2.2.2.2)), (54, .one (.dat (.int .i64) (lenI a0.2.2.2.2))), (55, .one (.dat (.int .i64) s14.1))], [(0, .seq (.int .u8) (s14.2 ++ ([(1 : Int)] : List Int)))], 1⟩) hO (fun h => by cases h) (by kernel_rfl) ⟨rfl, rfl, rfl, rfl, trivial⟩).ht (cont (s14.2 ++ ([(1 : Int)] : List Int)) (of_some hT32))
            · refine HT.cond0 rfl hb34 ?_
              obtain ⟨hg36, hT32⟩ := of_guard hT32
              refine HT.reg (rs := [⟨none, .no⟩, ⟨none, .ty (.int .u8)⟩, ⟨none, .ty (.int .u8)⟩, ⟨none, .no⟩]) (st' := ⟨[(4, .one (.all 2)), (65, .one (.all 2)), (64, .one (.all 1)), (63, .one (.all 0)), (4, .one (.all 0)), (53, .one (.dat (.sl .bool) a0.2.2.2.2)), (54, .one (.dat (.int .i64) (lenI a0.2.2.2.2))), (55, .one (.dat (.int .i64) s14.1)), (59, .one (.dat .bool (List.getD a0.2.2.2.2 (Int.toNat s14.1) false)))], [(0, .gone), (2, .seq (.int .u8) (s14.2 ++ ([(0 : Int)] : List Int))), (1, .seq (.int .u8) ([(0 : Int)] : List Int)), (0, .seq (.int .u8) s14.2)], 3⟩) hP hN (by kernel_rfl) (allCons hg36 allNil) (qBlock (qThen ?_))
              exact (Le.cv (s := ⟨[(2, 0)], [], [], false⟩) (own := []) (ps := [a0.2.2.2.2 = a0.2.2.2.2, (lenI a0.2.2.2.2) = (lenI a0.2.2.2.2), s14.1 = s14.1, (s14.2 ++ ([(0 : Int)] : List Int)) = (s14.2 ++ ([(0 : Int)] : List Int))]) (st' := ⟨[(4, .one (.all 0)), (53, .one (.dat (.sl .bool) a0.2.2.2.2)), (54, .one (.dat (.int .i64) (lenI a0.2.2.2.2))), (55, .one (.dat (.int .i64) s14.1))], [(0, .seq (.int .u8) (s14.2 ++ ([(0 : Int)] : List Int)))], 1⟩) hO (fun h => by cases h) (by kernel_rfl) ⟨rfl, rfl, rfl, rfl, trivial⟩).ht (cont (s14.2 ++ ([(0 : Int)] : List Int)) (of_some hT32))
        · refine HT.cond0 rfl hb29 ?_
          have hx27 := of_some hx27
          subst hx27
          refine (Le.cv (s := ⟨[(0, 0)], [], [], false⟩) (own := []) (ps := [s14.2 = s14.2]) (st' := ⟨[(4, .one (.all 0))], [(0, .seq (.int .u8) s14.2)], 1⟩) hO (fun h => by cases h) (by kernel_rfl) ⟨rfl, trivial⟩).ht ?_
          exact HT.exit (qThenE (qLoopE (hk28 s14.2 rfl)))
    · refine HT.reg1 [1, 4, 39, 40, 41, 42] [⟨none, .no⟩] ⟨[(1, .one (.ptr 0 0)), (4, .one (.all 1)), (39, .one (.dat (.sl (.int .i64)) a0.2.2.2.1)), (40, .one (.dat (.int .i64) (lenI a0.2.2.2.1))), (41, .one (.dat (.int .i64) s11.1)), (42, .one (.dat .bool (decide (s11.1 < (lenI a0.2.2.2.1)))))], [(0, .box [.dat .str a0.1, .dat (.int .i64) a0.2.1, .dat (.int .i64) a0.2.2.1, .dat (.sl (.int .i64)) a0.2.2.2.1, .dat (.sl .bool) a0.2.2.2.2]), (1, .seq (.int .u8) s11.2)], 2⟩ hP hN (by kernel_rfl) allNil ?_
      refine HT.seq ?_
      rcases of_bif hx39 with ⟨hb41, hx39⟩ | ⟨hb41, hx39⟩
      · refine HT.cond1 rfl hb41 ?_
        refine HT.skip (qThen ?_)
        refine HT.seq ?_
        refine HT.block ?_
        obtain ⟨hg42, hx39⟩ := of_guard hx39
        refine HT.reg1 [1, 4, 6, 39, 40, 41] [⟨none, .no⟩, ⟨none, .no⟩, ⟨none, .no⟩] ⟨[(1, .one (.ptr 0 0)), (4, .one (.all 1)), (6, .one (.dat (.int .i64) (List.getD a0.2.2.2.1 (Int.toNat s11.1) (0 : Int)))), (39, .one (.dat (.sl (.int .i64)) a0.2.2.2.1)), (40, .one (.dat (.int .i64) (lenI a0.2.2.2.1))), (41, .one (.dat (.int .i64) s11.1))], [(0, .box [.dat .str a0.1, .dat (.int .i64) a0.2.1, .dat (.int .i64) a0.2.2.1, .dat (.sl (.int .i64)) a0.2.2.2.1, .dat (.sl .bool) a0.2.2.2.2]), (1, .seq (.int .u8) s11.2)], 2⟩ hP hN (by kernel_rfl) (allCons hg42 allNil) ?_
        obtain ⟨hg43, hx39⟩ := of_guard hx39
        refine HT.reg (rs := [⟨none, .no⟩, ⟨none, .no⟩, ⟨none, .no⟩, ⟨none, .ty (.int .u8)⟩, ⟨none, .ty (.int .u8)⟩, ⟨none, .no⟩]) (st' := ⟨[(4, .one (.all 3)), (49, .one (.all 3)), (48, .one (.all 2)), (47, .one (.dat (.int .u8) (IntKind.wrap .u8 (List.getD a0.2.2.2.1 (Int.toNat s11.1) (0 : Int))))), (46, .one (.dat (.int .i64) (List.getD a0.2.2.2.1 (Int.toNat s11.1) (0 : Int)))), (45, .one (.all 1)), (1, .one (.ptr 0 0)), (4, .one (.all 1)), (6, .one (.dat (.int .i64) (List.getD a0.2.2.2.1 (Int.toNat s11.1) (0 : Int)))), (39, .one (.dat (.sl (.int .i64)) a0.2.2.2.1)), (40, .one (.dat (.int .i64) (lenI a0.2.2.2.1))), (41, .one (.dat (.int .i64) s11.1))], [(1, .gone), (3, .seq (.int .u8) (s11.2 ++ ([(IntKind.wrap .u8 (List.getD a0.2.2.2.1 (Int.toNat s11.1) (0 : Int)))] : List Int))), (2, .seq (.int .u8) ([(IntKind.wrap .u8 (List.getD a0.2.2.2.1 (Int.toNat s11.1) (0 : Int)))] : List Int)), (0, .box [.dat .str a0.1, .dat (.int .i64) a0.2.1, .dat (.int .i64) a0.2.2.1, .dat (.sl (.int .i64)) a0.2.2.2.1, .dat (.sl .bool) a0.2.2.2.2]), (1, .seq (.int .u8) s11.2)], 4⟩) hP hN (by kernel_rfl) (allCons hg43 allNil) (qBlock (qThen ?_))
        have hx39 := of_some hx39
        subst hx39
        refine HT.reg (rs := [⟨none, .no⟩, ⟨none, .no⟩]) (st' := ⟨[(41, .one (.dat (.int .i64) (wadd .i64 s11.1 (1 : Int)))), (50, .one (.dat (.int .i64) (wadd .i64 s11.1 (1 : Int)))), (4, .one (.all 3)), (49, .one (.all 3)), (48, .one (.all 2)), (47, .one (.dat (.int .u8) (IntKind.wrap .u8 (List.getD a0.2.2.2.1 (Int.toNat s11.1) (0 : Int))))), (46, .one (.dat (.int .i64) (List.getD a0.2.2.2.1 (Int.toNat s11.1) (0 : Int)))), (45, .one (.all 1)), (1, .one (.ptr 0 0)), (4, .one (.all 1)), (6, .one (.dat (.int .i64) (List.getD a0.2.2.2.1 (Int.toNat s11.1) (0 : Int)))), (39, .one (.dat (.sl (.int .i64)) a0.2.2.2.1)), (40, .one (.dat (.int .i64) (lenI a0.2.2.2.1))), (41, .one (.dat (.int .i64) s11.1))], [(1, .gone), (3, .seq (.int .u8) (s11.2 ++ ([(IntKind.wrap .u8 (List.getD a0.2.2.2.1 (Int.toNat s11.1) (0 : Int)))] : List Int))), (2, .seq (.int .u8) ([(IntKind.wrap .u8 (List.getD a0.2.2.2.1 (Int.toNat s11.1) (0 : Int)))] : List Int)), (0, .box [.dat .str a0.1, .dat (.int .i64) a0.2.1, .dat (.int .i64) a0.2.2.1, .dat (.sl (.int .i64)) a0.2.2.2.1, .dat (.sl .bool) a0.2.2.2.2]), (1, .seq (.int .u8) s11.2)], 4⟩) hP hN (by kernel_rfl) allNil (qLoopN ⟨((wadd .i64 s11.1 (1 : Int)), (s11.2 ++ ([(IntKind.wrap .u8 (List.getD a0.2.2.2.1 (Int.toNat s11.1) (0 : Int)))] : List Int))), rfl, Le.cv (s := ⟨[(0, 0), (3, 1)], [], [], false⟩) (own := []) (ps := [a0.2.2.2.1 = a0.2.2.2.1, (lenI a0.2.2.2.1) = (lenI a0.2.2.2.1), (wadd .i64 s11.1 (1 : Int)) = (wadd .i64 s11.1 (1 : Int)), a0.1 = a0.1, a0.2.1 = a0.2.1, a0.2.2.1 = a0.2.2.1, a0.2.2.2.1 = a0.2.2.2.1, a0.2.2.2.2 = a0.2.2.2.2, (s11.2 ++ ([(IntKind.wrap .u8 (List.getD a0.2.2.2.1 (Int.toNat s11.1) (0 : Int)))] : List Int)) = (s11.2 ++ ([(IntKind.wrap .u8 (List.getD a0.2.2.2.1 (Int.toNat s11.1) (0 : Int)))] : List Int))]) (st' := ⟨[(1, .one (.ptr 0 0)), (4, .one (.all 1)), (39, .one (.dat (.sl (.int .i64)) a0.2.2.2.1)), (40, .one (.dat (.int .i64) (lenI a0.2.2.2.1))), (41, .one (.dat (.int .i64) (wadd .i64 s11.1 (1 : Int))))], [(0, .box [.dat .str a0.1, .dat (.int .i64) a0.2.1, .dat (.int .i64) a0.2.2.1, .dat (.sl (.int .i64)) a0.2.2.2.1, .dat (.sl .bool) a0.2.2.2.2]), (1, .seq (.int .u8) (s11.2 ++ ([(IntKind.wrap .u8 (List.getD a0.2.2.2.1 (Int.toNat s11.1) (0 : Int)))] : List Int)))], 2⟩) hO (fun h => by cases h) (by kernel_rfl) ⟨rfl, rfl, rfl, rfl, rfl, rfl, rfl, rfl, rfl, trivial⟩⟩)
      · refine HT.cond0 rfl hb41 ?_
        have hx39 := of_some hx39
        subst hx39
        refine (Le.cv (s := ⟨[(0, 0), (1, 1)], [], [], false⟩) (own := []) (ps := [a0.1 = a0.1, a0.2.1 = a0.2.1, a0.2.2.1 = a0.2.2.1, a0.2.2.2.1 = a0.2.2.2.1, a0.2.2.2.2 = a0.2.2.2.2, s11.2 = s11.2]) (st' := ⟨[(1, .one (.ptr 0 0)), (4, .one (.all 1))], [(0, .box [.dat .str a0.1, .dat (.int .i64) a0.2.1, .dat (.int .i64) a0.2.2.1, .dat (.sl (.int .i64)) a0.2.2.2.1, .dat (.sl .bool) a0.2.2.2.2]), (1, .seq (.int .u8) s11.2)], 2⟩) hO (fun h => by cases h) (by kernel_rfl) ⟨rfl, rfl, rfl, rfl, rfl, rfl, trivial⟩).ht ?_
        exact HT.exit (qThenE (qLoopE (hk40 s11.2 rfl)))

end Go.Proofs
