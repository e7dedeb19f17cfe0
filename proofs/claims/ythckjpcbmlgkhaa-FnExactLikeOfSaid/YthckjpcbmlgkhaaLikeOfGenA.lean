import Derived.Test.YthckjpcbmlgkhaaLibC
import Derived.Test.YthckjpcbmlgkhaaProg
set_option linter.unusedVariables false
set_option linter.unusedSimpArgs false
set_option linter.unusedSectionVars false
/-
  Functions as plain functions, and their contracts. Printed by a program.
-/
namespace Go.Proofs
open Go.Ide

noncomputable def laws_szFloat32S (a0 : List Nat) (a1 : Int) : Option (Int) :=
  bif (decide ((wsub .i64 a1 (lenI a0)) < (0 : Int))) then
    some (-1 : Int)
  else
    some (wsub .i64 a1 (lenI a0))

theorem f62_ok {a0 : List Nat} {a1 : Int} {r : Int} (hr : laws_szFloat32S a0 a1 = some r) : CallOK Try.prog 62 [.imm (.sl (.flt .f32)) a0, .imm (.int .i64) a1] [⟨false, (.int .i64), r⟩] [] := by
  unfold laws_szFloat32S at hr
  refine CallOK.of_body (ts := [(false, (.int .i64))]) Try.func62 rfl (by kernel_rfl) (Nat.le_of_ble_eq_true (by kernel_rfl)) fun cx hP hN hO hF => ?_
  have hO : cx.own.map Prod.fst = [] := hO
  have hF := hF rfl
  show HT cx ⟨[(0, .one (.dat (.sl (.flt .f32)) a0)), (1, .one (.dat (.int .i64) a1))], [], 0⟩ _ _
  refine HT.reg1 [0, 1] [⟨none, .no⟩] ⟨[(0, .one (.dat (.sl (.flt .f32)) a0)), (1, .one (.dat (.int .i64) a1))], [], 0⟩ hP hN (by kernel_rfl) allNil ?_
  refine HT.reg1 [1] [⟨none, .no⟩, ⟨none, .no⟩, ⟨none, .no⟩, ⟨none, .no⟩, ⟨none, .no⟩] ⟨[(1, .one (.dat (.int .i64) (wsub .i64 a1 (lenI a0))))], [], 0⟩ hP hN (by kernel_rfl) allNil ?_
  refine HT.seq ?_
  refine HT.reg1 [1, 10] [⟨none, .no⟩, ⟨none, .no⟩] ⟨[(1, .one (.dat (.int .i64) (wsub .i64 a1 (lenI a0)))), (10, .one (.dat .bool (decide ((wsub .i64 a1 (lenI a0)) < (0 : Int)))))], [], 0⟩ hP hN (by kernel_rfl) allNil ?_
  rcases of_bif hr with ⟨hb1, hr⟩ | ⟨hb1, hr⟩
  · refine HT.cond1 rfl hb1 ?_
    refine HT.reg1 [4] [⟨none, .no⟩] ⟨[(4, .one (.dat (.int .i64) (-1 : Int)))], [], 0⟩ hP hN (by kernel_rfl) allNil ?_
    have hr := of_some hr
    subst hr
    exact HT.ret (qThenR ⟨[.one (.dat (.int .i64) (-1 : Int))], [], [], by kernel_rfl, by kernel_rfl, rfl, by kernel_rfl, by kernel_rfl, trivial⟩)
  · refine HT.cond0 rfl hb1 ?_
    refine HT.skip (qThen ?_)
    refine HT.reg1 [4] [⟨none, .no⟩, ⟨none, .no⟩] ⟨[(4, .one (.dat (.int .i64) (wsub .i64 a1 (lenI a0))))], [], 0⟩ hP hN (by kernel_rfl) allNil ?_
    have hr := of_some hr
    subst hr
    exact HT.ret ⟨[.one (.dat (.int .i64) (wsub .i64 a1 (lenI a0)))], [], [], by kernel_rfl, by kernel_rfl, rfl, by kernel_rfl, by kernel_rfl, trivial⟩

noncomputable def laws_szModel (a0 : Int × Int × List Nat × List Nat × List Nat) (a1 : Int) : Option (Int) :=
  (laws_szFloat32S a0.2.2.1 a1).bind fun y1 =>
  bif (decide (y1 < (0 : Int))) then
    some (-1 : Int)
  else
    (laws_szFloat32S a0.2.2.2.1 y1).bind fun y4 =>
    bif (decide (y4 < (0 : Int))) then
      some (-1 : Int)
    else
      (laws_szFloat32S a0.2.2.2.2 y4).bind fun y7 =>
      bif (decide (y7 < (0 : Int))) then
        some (-1 : Int)
      else
        some y7

theorem f15_ok {a0 : Int × Int × List Nat × List Nat × List Nat} {a1 : Int} {r : Int} (hr : laws_szModel a0 a1 = some r) : CallOK Try.prog 15 [.imm (.st (.pair (.int .i64) (.pair (.int .i64) (.pair (.sl (.flt .f32)) (.pair (.sl (.flt .f32)) (.sl (.flt .f32))))))) a0, .imm (.int .i64) a1] [⟨false, (.int .i64), r⟩] [] := by
  unfold laws_szModel at hr
  refine CallOK.of_body (ts := [(false, (.int .i64))]) Try.func15 rfl (by kernel_rfl) (Nat.le_of_ble_eq_true (by kernel_rfl)) fun cx hP hN hO hF => ?_
  have hO : cx.own.map Prod.fst = [] := hO
  have hF := hF rfl
  show HT cx ⟨[(0, .agg [.dat (.int .i64) a0.1, .dat (.int .i64) a0.2.1, .dat (.sl (.flt .f32)) a0.2.2.1, .dat (.sl (.flt .f32)) a0.2.2.2.1, .dat (.sl (.flt .f32)) a0.2.2.2.2]), (1, .one (.dat (.int .i64) a1))], [], 0⟩ _ _
  refine HT.reg1 [1, 2] [⟨none, .no⟩, ⟨none, .no⟩] ⟨[(1, .one (.dat (.int .i64) a1)), (2, .one (.ptr 0 0))], [(0, .box [.dat (.int .i64) a0.1, .dat (.int .i64) a0.2.1, .dat (.sl (.flt .f32)) a0.2.2.1, .dat (.sl (.flt .f32)) a0.2.2.2.1, .dat (.sl (.flt .f32)) a0.2.2.2.2])], 1⟩ hP hN (by kernel_rfl) allNil ?_
  obtain ⟨y1, hc2, hr⟩ := of_bind hr
  refine HT.reg1 [1, 2] [⟨none, .no⟩, ⟨none, .no⟩, ⟨none, .no⟩, ⟨none, .call [.imm (.sl (.flt .f32)), .imm (.int .i64)] [⟨false, (.int .i64), y1⟩] []⟩, ⟨none, .no⟩] ⟨[(1, .one (.dat (.int .i64) y1)), (2, .one (.ptr 0 0))], [(0, .box [.dat (.int .i64) a0.1, .dat (.int .i64) a0.2.1, .dat (.sl (.flt .f32)) a0.2.2.1, .dat (.sl (.flt .f32)) a0.2.2.2.1, .dat (.sl (.flt .f32)) a0.2.2.2.2])], 1⟩ hP hN (by kernel_rfl) (allCons (f62_ok hc2) allNil) ?_
  refine HT.seq ?_
  refine HT.reg1 [1, 2, 10] [⟨none, .no⟩, ⟨none, .no⟩] ⟨[(1, .one (.dat (.int .i64) y1)), (2, .one (.ptr 0 0)), (10, .one (.dat .bool (decide (y1 < (0 : Int)))))], [(0, .box [.dat (.int .i64) a0.1, .dat (.int .i64) a0.2.1, .dat (.sl (.flt .f32)) a0.2.2.1, .dat (.sl (.flt .f32)) a0.2.2.2.1, .dat (.sl (.flt .f32)) a0.2.2.2.2])], 1⟩ hP hN (by kernel_rfl) allNil ?_
  rcases of_bif hr with ⟨hb3, hr⟩ | ⟨hb3, hr⟩
  · refine HT.cond1 rfl hb3 ?_
    refine HT.reg1 [4] [⟨none, .no⟩] ⟨[(4, .one (.dat (.int .i64) (-1 : Int)))], [(0, .box [.dat (.int .i64) a0.1, .dat (.int .i64) a0.2.1, .dat (.sl (.flt .f32)) a0.2.2.1, .dat (.sl (.flt .f32)) a0.2.2.2.1, .dat (.sl (.flt .f32)) a0.2.2.2.2])], 1⟩ hP hN (by kernel_rfl) allNil ?_
    have hr := of_some hr
    subst hr
    exact HT.ret (qThenR ⟨[.one (.dat (.int .i64) (-1 : Int))], [], [], by kernel_rfl, by kernel_rfl, rfl, by kernel_rfl, by kernel_rfl, trivial⟩)
  · refine HT.cond0 rfl hb3 ?_
    refine HT.skip (qThen ?_)
    obtain ⟨y4, hc5, hr⟩ := of_bind hr
    refine HT.reg1 [1, 2] [⟨none, .no⟩, ⟨none, .no⟩, ⟨none, .no⟩, ⟨none, .call [.imm (.sl (.flt .f32)), .imm (.int .i64)] [⟨false, (.int .i64), y4⟩] []⟩, ⟨none, .no⟩] ⟨[(1, .one (.dat (.int .i64) y4)), (2, .one (.ptr 0 0))], [(0, .box [.dat (.int .i64) a0.1, .dat (.int .i64) a0.2.1, .dat (.sl (.flt .f32)) a0.2.2.1, .dat (.sl (.flt .f32)) a0.2.2.2.1, .dat (.sl (.flt .f32)) a0.2.2.2.2])], 1⟩ hP hN (by kernel_rfl) (allCons (f62_ok hc5) allNil) ?_
    refine HT.seq ?_
    refine HT.reg1 [1, 2, 16] [⟨none, .no⟩, ⟨none, .no⟩] ⟨[(1, .one (.dat (.int .i64) y4)), (2, .one (.ptr 0 0)), (16, .one (.dat .bool (decide (y4 < (0 : Int)))))], [(0, .box [.dat (.int .i64) a0.1, .dat (.int .i64) a0.2.1, .dat (.sl (.flt .f32)) a0.2.2.1, .dat (.sl (.flt .f32)) a0.2.2.2.1, .dat (.sl (.flt .f32)) a0.2.2.2.2])], 1⟩ hP hN (by kernel_rfl) allNil ?_
    rcases of_bif hr with ⟨hb6, hr⟩ | ⟨hb6, hr⟩
    · refine HT.cond1 rfl hb6 ?_
      refine HT.reg1 [4] [⟨none, .no⟩] ⟨[(4, .one (.dat (.int .i64) (-1 : Int)))], [(0, .box [.dat (.int .i64) a0.1, .dat (.int .i64) a0.2.1, .dat (.sl (.flt .f32)) a0.2.2.1, .dat (.sl (.flt .f32)) a0.2.2.2.1, .dat (.sl (.flt .f32)) a0.2.2.2.2])], 1⟩ hP hN (by kernel_rfl) allNil ?_
      have hr := of_some hr
      subst hr
      exact HT.ret (qThenR ⟨[.one (.dat (.int .i64) (-1 : Int))], [], [], by kernel_rfl, by kernel_rfl, rfl, by kernel_rfl, by kernel_rfl, trivial⟩)
    · refine HT.cond0 rfl hb6 ?_
      refine HT.skip (qThen ?_)
      obtain ⟨y7, hc8, hr⟩ := of_bind hr
      refine HT.reg1 [1] [⟨none, .no⟩, ⟨none, .no⟩, ⟨none, .no⟩, ⟨none, .call [.imm (.sl (.flt .f32)), .imm (.int .i64)] [⟨false, (.int .i64), y7⟩] []⟩, ⟨none, .no⟩] ⟨[(1, .one (.dat (.int .i64) y7))], [(0, .box [.dat (.int .i64) a0.1, .dat (.int .i64) a0.2.1, .dat (.sl (.flt .f32)) a0.2.2.1, .dat (.sl (.flt .f32)) a0.2.2.2.1, .dat (.sl (.flt .f32)) a0.2.2.2.2])], 1⟩ hP hN (by kernel_rfl) (allCons (f62_ok hc8) allNil) ?_
      refine HT.seq ?_
      refine HT.reg1 [1, 22] [⟨none, .no⟩, ⟨none, .no⟩] ⟨[(1, .one (.dat (.int .i64) y7)), (22, .one (.dat .bool (decide (y7 < (0 : Int)))))], [(0, .box [.dat (.int .i64) a0.1, .dat (.int .i64) a0.2.1, .dat (.sl (.flt .f32)) a0.2.2.1, .dat (.sl (.flt .f32)) a0.2.2.2.1, .dat (.sl (.flt .f32)) a0.2.2.2.2])], 1⟩ hP hN (by kernel_rfl) allNil ?_
      rcases of_bif hr with ⟨hb9, hr⟩ | ⟨hb9, hr⟩
      · refine HT.cond1 rfl hb9 ?_
        refine HT.reg1 [4] [⟨none, .no⟩] ⟨[(4, .one (.dat (.int .i64) (-1 : Int)))], [(0, .box [.dat (.int .i64) a0.1, .dat (.int .i64) a0.2.1, .dat (.sl (.flt .f32)) a0.2.2.1, .dat (.sl (.flt .f32)) a0.2.2.2.1, .dat (.sl (.flt .f32)) a0.2.2.2.2])], 1⟩ hP hN (by kernel_rfl) allNil ?_
        have hr := of_some hr
        subst hr
        exact HT.ret (qThenR ⟨[.one (.dat (.int .i64) (-1 : Int))], [], [], by kernel_rfl, by kernel_rfl, rfl, by kernel_rfl, by kernel_rfl, trivial⟩)
      · refine HT.cond0 rfl hb9 ?_
        refine HT.skip (qThen ?_)
        refine HT.reg1 [4] [⟨none, .no⟩, ⟨none, .no⟩] ⟨[(4, .one (.dat (.int .i64) y7))], [(0, .box [.dat (.int .i64) a0.1, .dat (.int .i64) a0.2.1, .dat (.sl (.flt .f32)) a0.2.2.1, .dat (.sl (.flt .f32)) a0.2.2.2.1, .dat (.sl (.flt .f32)) a0.2.2.2.2])], 1⟩ hP hN (by kernel_rfl) allNil ?_
        have hr := of_some hr
        subst hr
        exact HT.ret ⟨[.one (.dat (.int .i64) y7)], [], [], by kernel_rfl, by kernel_rfl, rfl, by kernel_rfl, by kernel_rfl, trivial⟩

noncomputable def laws_szInt64S (a0 : List Int) (a1 : Int) : Option (Int) :=
  bif (decide ((wsub .i64 a1 (lenI a0)) < (0 : Int))) then
    some (-1 : Int)
  else
    some (wsub .i64 a1 (lenI a0))

theorem f74_ok {a0 : List Int} {a1 : Int} {r : Int} (hr : laws_szInt64S a0 a1 = some r) : CallOK Try.prog 74 [.imm (.sl (.int .i64)) a0, .imm (.int .i64) a1] [⟨false, (.int .i64), r⟩] [] := by
  unfold laws_szInt64S at hr
  refine CallOK.of_body (ts := [(false, (.int .i64))]) Try.func74 rfl (by kernel_rfl) (Nat.le_of_ble_eq_true (by kernel_rfl)) fun cx hP hN hO hF => ?_
  have hO : cx.own.map Prod.fst = [] := hO
  have hF := hF rfl
  show HT cx ⟨[(0, .one (.dat (.sl (.int .i64)) a0)), (1, .one (.dat (.int .i64) a1))], [], 0⟩ _ _
  refine HT.reg1 [0, 1] [⟨none, .no⟩] ⟨[(0, .one (.dat (.sl (.int .i64)) a0)), (1, .one (.dat (.int .i64) a1))], [], 0⟩ hP hN (by kernel_rfl) allNil ?_
  refine HT.reg1 [1] [⟨none, .no⟩, ⟨none, .no⟩, ⟨none, .no⟩, ⟨none, .no⟩, ⟨none, .no⟩] ⟨[(1, .one (.dat (.int .i64) (wsub .i64 a1 (lenI a0))))], [], 0⟩ hP hN (by kernel_rfl) allNil ?_
  refine HT.seq ?_
  refine HT.reg1 [1, 10] [⟨none, .no⟩, ⟨none, .no⟩] ⟨[(1, .one (.dat (.int .i64) (wsub .i64 a1 (lenI a0)))), (10, .one (.dat .bool (decide ((wsub .i64 a1 (lenI a0)) < (0 : Int)))))], [], 0⟩ hP hN (by kernel_rfl) allNil ?_
  rcases of_bif hr with ⟨hb1, hr⟩ | ⟨hb1, hr⟩
  · refine HT.cond1 rfl hb1 ?_
    refine HT.reg1 [4] [⟨none, .no⟩] ⟨[(4, .one (.dat (.int .i64) (-1 : Int)))], [], 0⟩ hP hN (by kernel_rfl) allNil ?_
    have hr := of_some hr
    subst hr
    exact HT.ret (qThenR ⟨[.one (.dat (.int .i64) (-1 : Int))], [], [], by kernel_rfl, by kernel_rfl, rfl, by kernel_rfl, by kernel_rfl, trivial⟩)
  · refine HT.cond0 rfl hb1 ?_
    refine HT.skip (qThen ?_)
    refine HT.reg1 [4] [⟨none, .no⟩, ⟨none, .no⟩] ⟨[(4, .one (.dat (.int .i64) (wsub .i64 a1 (lenI a0))))], [], 0⟩ hP hN (by kernel_rfl) allNil ?_
    have hr := of_some hr
    subst hr
    exact HT.ret ⟨[.one (.dat (.int .i64) (wsub .i64 a1 (lenI a0)))], [], [], by kernel_rfl, by kernel_rfl, rfl, by kernel_rfl, by kernel_rfl, trivial⟩

noncomputable def laws_szInt64SS_B1 (a0 : List (List Int)) (s2 : Int × Int) : Option ((Int × Int) ⊕ (Int ⊕ Unit)) :=
  bif (decide (s2.2 < (lenI a0))) then
    guardP ((0 : Int) ≤ s2.2 ∧ s2.2 < lenI a0) (
      (laws_szInt64S (List.getD a0 (Int.toNat s2.2) ([] : List Int)) s2.1).bind fun y11 =>
      bif (decide (y11 < (0 : Int))) then
        some (.inr (.inr ()))
      else
        some (.inl (y11, (wadd .i64 s2.2 (1 : Int)))))
  else
    some (.inr (.inl s2.1))

noncomputable def laws_szInt64SS (a0 : List (List Int)) (a1 : Int) : Option (Int) :=
  bif (decide ((wsub .i64 a1 (lenI a0)) < (0 : Int))) then
    some (-1 : Int)
  else
    (rounds (laws_szInt64SS_B1 a0) ((wsub .i64 a1 (lenI a0)), (0 : Int))).bind fun r3 => match r3 with
      | .inl r4 =>
        some r4
      | .inr r5 =>
        some (-1 : Int)

theorem f51_ok {a0 : List (List Int)} {a1 : Int} {r : Int} (hr : laws_szInt64SS a0 a1 = some r) : CallOK Try.prog 51 [.imm (.sl (.sl (.int .i64))) a0, .imm (.int .i64) a1] [⟨false, (.int .i64), r⟩] [] := by
  unfold laws_szInt64SS at hr
  refine CallOK.of_body (ts := [(false, (.int .i64))]) Try.func51 rfl (by kernel_rfl) (Nat.le_of_ble_eq_true (by kernel_rfl)) fun cx hP hN hO hF => ?_
  have hO : cx.own.map Prod.fst = [] := hO
  have hF := hF rfl
  show HT cx ⟨[(0, .one (.dat (.sl (.sl (.int .i64))) a0)), (1, .one (.dat (.int .i64) a1))], [], 0⟩ _ _
  refine HT.reg1 [0, 1] [⟨none, .no⟩] ⟨[(0, .one (.dat (.sl (.sl (.int .i64))) a0)), (1, .one (.dat (.int .i64) a1))], [], 0⟩ hP hN (by kernel_rfl) allNil ?_
  refine HT.reg1 [0, 1] [⟨none, .no⟩, ⟨none, .no⟩, ⟨none, .no⟩, ⟨none, .no⟩, ⟨none, .no⟩] ⟨[(0, .one (.dat (.sl (.sl (.int .i64))) a0)), (1, .one (.dat (.int .i64) (wsub .i64 a1 (lenI a0))))], [], 0⟩ hP hN (by kernel_rfl) allNil ?_
  refine HT.seq ?_
  refine HT.reg1 [0, 1, 11] [⟨none, .no⟩, ⟨none, .no⟩] ⟨[(0, .one (.dat (.sl (.sl (.int .i64))) a0)), (1, .one (.dat (.int .i64) (wsub .i64 a1 (lenI a0)))), (11, .one (.dat .bool (decide ((wsub .i64 a1 (lenI a0)) < (0 : Int)))))], [], 0⟩ hP hN (by kernel_rfl) allNil ?_
  rcases of_bif hr with ⟨hb1, hr⟩ | ⟨hb1, hr⟩
  · refine HT.cond1 rfl hb1 ?_
    refine HT.reg1 [4] [⟨none, .no⟩] ⟨[(4, .one (.dat (.int .i64) (-1 : Int)))], [], 0⟩ hP hN (by kernel_rfl) allNil ?_
    have hr := of_some hr
    subst hr
    exact HT.ret (qThenR ⟨[.one (.dat (.int .i64) (-1 : Int))], [], [], by kernel_rfl, by kernel_rfl, rfl, by kernel_rfl, by kernel_rfl, trivial⟩)
  · refine HT.cond0 rfl hb1 ?_
    refine HT.skip (qThen ?_)
    refine HT.seq ?_
    refine HT.reg1 [0, 1, 5] [⟨none, .no⟩] ⟨[(0, .one (.dat (.sl (.sl (.int .i64))) a0)), (1, .one (.dat (.int .i64) (wsub .i64 a1 (lenI a0)))), (5, .one (.dat (.int .i64) (0 : Int)))], [], 0⟩ hP hN (by kernel_rfl) allNil ?_
    refine HT.block ?_
    obtain ⟨r3, hL14, hr⟩ := of_bind hr
    refine (Le.cv (s := ⟨[], [], [], false⟩) (own := []) (ps := [a0 = a0, (wsub .i64 a1 (lenI a0)) = (wsub .i64 a1 (lenI a0)), (0 : Int) = (0 : Int)]) (st' := ⟨[(0, .one (.dat (.sl (.sl (.int .i64))) a0)), (1, .one (.dat (.int .i64) (wsub .i64 a1 (lenI a0)))), (5, .one (.dat (.int .i64) (0 : Int)))], [], 0⟩) hO (fun h => by cases h) (by kernel_rfl) ⟨rfl, rfl, rfl, trivial⟩).ht ?_
    refine HT.loopE (s := ((wsub .i64 a1 (lenI a0)), (0 : Int))) (fun (s2 : Int × Int) => ⟨[(0, .one (.dat (.sl (.sl (.int .i64))) a0)), (1, .one (.dat (.int .i64) s2.1)), (5, .one (.dat (.int .i64) s2.2))], [], 0⟩) (fun (r3 : Int ⊕ Unit) => match r3 with | .inl r4 => (.exit 0, ⟨[(1, .one (.dat (.int .i64) r4))], [], 0⟩) | .inr r5 => (.ret, ⟨[(4, .one (.dat (.int .i64) (-1 : Int)))], [], 0⟩)) hL14 ?_ (fun s2 x6 hx7 hk8 => ?_)
    · rcases r3 with r4 | r5
      · refine (qBlockX (qThen ?_))
        refine HT.reg1 [4] [⟨none, .no⟩, ⟨none, .no⟩] ⟨[(4, .one (.dat (.int .i64) r4))], [], 0⟩ hP hN (by kernel_rfl) allNil ?_
        have hr := of_some hr
        subst hr
        exact HT.ret ⟨[.one (.dat (.int .i64) r4)], [], [], by kernel_rfl, by kernel_rfl, rfl, by kernel_rfl, by kernel_rfl, trivial⟩
      · have hr := of_some hr
        subst hr
        exact (qBlockR (qThenR ⟨[.one (.dat (.int .i64) (-1 : Int))], [], [], by kernel_rfl, by kernel_rfl, rfl, by kernel_rfl, by kernel_rfl, trivial⟩))
    · refine HT.seq ?_
      refine HT.reg1 [0, 1, 5, 15] [⟨none, .no⟩, ⟨none, .no⟩, ⟨none, .no⟩, ⟨none, .no⟩] ⟨[(0, .one (.dat (.sl (.sl (.int .i64))) a0)), (1, .one (.dat (.int .i64) s2.1)), (5, .one (.dat (.int .i64) s2.2)), (15, .one (.dat .bool (decide (s2.2 < (lenI a0)))))], [], 0⟩ hP hN (by kernel_rfl) allNil ?_
      rcases of_bif hx7 with ⟨hb9, hx7⟩ | ⟨hb9, hx7⟩
      · refine HT.cond1 rfl hb9 ?_
        refine HT.skip (qThen ?_)
        refine HT.seq ?_
        refine HT.block ?_
        obtain ⟨hg10, hx7⟩ := of_guard hx7
        obtain ⟨y11, hc12, hx7⟩ := of_bind hx7
        refine HT.reg1 [0, 1, 5] [⟨none, .no⟩, ⟨none, .no⟩, ⟨none, .no⟩, ⟨none, .no⟩, ⟨none, .no⟩, ⟨none, .call [.imm (.sl (.int .i64)), .imm (.int .i64)] [⟨false, (.int .i64), y11⟩] []⟩, ⟨none, .no⟩] ⟨[(0, .one (.dat (.sl (.sl (.int .i64))) a0)), (1, .one (.dat (.int .i64) y11)), (5, .one (.dat (.int .i64) s2.2))], [], 0⟩ hP hN (by kernel_rfl) (allCons hg10 (allCons (f74_ok hc12) allNil)) ?_
        refine HT.reg1 [0, 1, 5, 25] [⟨none, .no⟩, ⟨none, .no⟩] ⟨[(0, .one (.dat (.sl (.sl (.int .i64))) a0)), (1, .one (.dat (.int .i64) y11)), (5, .one (.dat (.int .i64) s2.2)), (25, .one (.dat .bool (decide (y11 < (0 : Int)))))], [], 0⟩ hP hN (by kernel_rfl) allNil ?_
        rcases of_bif hx7 with ⟨hb13, hx7⟩ | ⟨hb13, hx7⟩
        · refine HT.cond1 rfl hb13 ?_
          refine HT.reg1 [4] [⟨none, .no⟩] ⟨[(4, .one (.dat (.int .i64) (-1 : Int)))], [], 0⟩ hP hN (by kernel_rfl) allNil ?_
          have hx7 := of_some hx7
          subst hx7
          refine (Le.cv (s := ⟨[], [], [], false⟩) (own := []) (ps := [(-1 : Int) = (-1 : Int)]) (st' := ⟨[(4, .one (.dat (.int .i64) (-1 : Int)))], [], 0⟩) hO (fun h => by cases h) (by kernel_rfl) ⟨rfl, trivial⟩).ht ?_
          exact HT.ret (qBlockR (qThenR (qLoopR (hk8 (.inr ()) rfl))))
        · refine HT.cond0 rfl hb13 ?_
          refine HT.skip (qBlock (qThen ?_))
          have hx7 := of_some hx7
          subst hx7
          refine HT.reg (rs := [⟨none, .no⟩, ⟨none, .no⟩, ⟨none, .no⟩]) (st' := ⟨[(5, .one (.dat (.int .i64) (wadd .i64 s2.2 (1 : Int)))), (17, .one (.dat (.int .i64) (wadd .i64 s2.2 (1 : Int)))), (16, .one (.dat (.int .i64) s2.2)), (0, .one (.dat (.sl (.sl (.int .i64))) a0)), (1, .one (.dat (.int .i64) y11)), (5, .one (.dat (.int .i64) s2.2)), (25, .one (.dat .bool (decide (y11 < (0 : Int)))))], [], 0⟩) hP hN (by kernel_rfl) allNil (qLoopN ⟨(y11, (wadd .i64 s2.2 (1 : Int))), rfl, Le.cv (s := ⟨[], [], [], false⟩) (own := []) (ps := [a0 = a0, y11 = y11, (wadd .i64 s2.2 (1 : Int)) = (wadd .i64 s2.2 (1 : Int))]) (st' := ⟨[(0, .one (.dat (.sl (.sl (.int .i64))) a0)), (1, .one (.dat (.int .i64) y11)), (5, .one (.dat (.int .i64) (wadd .i64 s2.2 (1 : Int))))], [], 0⟩) hO (fun h => by cases h) (by kernel_rfl) ⟨rfl, rfl, rfl, trivial⟩⟩)
      · refine HT.cond0 rfl hb9 ?_
        have hx7 := of_some hx7
        subst hx7
        refine (Le.cv (s := ⟨[], [], [], false⟩) (own := []) (ps := [s2.1 = s2.1]) (st' := ⟨[(1, .one (.dat (.int .i64) s2.1))], [], 0⟩) hO (fun h => by cases h) (by kernel_rfl) ⟨rfl, trivial⟩).ht ?_
        exact HT.exit (qThenE (qLoopE (hk8 (.inl s2.1) rfl)))

noncomputable def laws_toFloat32S_B1 (a0 : List Nat) (s2 : Int × List Nat) : Option ((Int × List Nat) ⊕ (List Nat)) :=
  bif (decide (s2.1 < (lenI a0))) then
    guardP ((0 : Int) ≤ s2.1 ∧ s2.1 < lenI a0) (
      guardP ((0 : Int) ≤ s2.1 ∧ s2.1 < lenI s2.2) (
        some (.inl ((wadd .i64 s2.1 (1 : Int)), (List.set s2.2 (Int.toNat s2.1) (List.getD a0 (Int.toNat s2.1) (0 : Nat)))))))
  else
    some (.inr s2.2)

noncomputable def laws_toFloat32S (a0 : List Nat) : Option (List Nat) :=
  guardP ((0 : Int) ≤ (lenI a0) ∧ (lenI a0) ≤ 4294967296) (
    (rounds (laws_toFloat32S_B1 a0) ((0 : Int), (List.replicate (Int.toNat (lenI a0)) (0 : Nat)))).bind fun r4 =>
    some r4)

theorem f67_ok {a0 : List Nat} {r : List Nat} (hr : laws_toFloat32S a0 = some r) : CallOK Try.prog 67 [.imm (.sl (.flt .f32)) a0] [⟨true, (.sl (.flt .f32)), r⟩] [] := by
  unfold laws_toFloat32S at hr
  refine CallOK.of_body (ts := [(true, (.sl (.flt .f32)))]) Try.func67 rfl (by kernel_rfl) (Nat.le_of_ble_eq_true (by kernel_rfl)) fun cx hP hN hO hF => ?_
  have hO : cx.own.map Prod.fst = [] := hO
  have hF := hF rfl
  show HT cx ⟨[(0, .one (.dat (.sl (.flt .f32)) a0))], [], 0⟩ _ _
  refine HT.reg1 [0] [⟨none, .no⟩] ⟨[(0, .one (.dat (.sl (.flt .f32)) a0))], [], 0⟩ hP hN (by kernel_rfl) allNil ?_
  obtain ⟨hg1, hr⟩ := of_guard hr
  refine HT.reg1 [0, 3] [⟨none, .no⟩, ⟨none, .no⟩, ⟨none, .ty (.flt .f32)⟩, ⟨none, .no⟩] ⟨[(0, .one (.dat (.sl (.flt .f32)) a0)), (3, .one (.all 0))], [(0, .seq (.flt .f32) (List.replicate (Int.toNat (lenI a0)) (0 : Nat)))], 1⟩ hP hN (by kernel_rfl) (allCons (show (0 : Int) ≤ (lenI a0) ∧ (lenI a0) ≤ (lenI a0) ∧ (lenI a0) ≤ 4294967296 from ⟨hg1.1, Int.le_refl _, hg1.2⟩) allNil) ?_
  refine HT.seq ?_
  refine HT.reg1 [0, 3, 4] [⟨none, .no⟩] ⟨[(0, .one (.dat (.sl (.flt .f32)) a0)), (3, .one (.all 0)), (4, .one (.dat (.int .i64) (0 : Int)))], [(0, .seq (.flt .f32) (List.replicate (Int.toNat (lenI a0)) (0 : Nat)))], 1⟩ hP hN (by kernel_rfl) allNil ?_
  refine HT.block ?_
  obtain ⟨r3, hL11, hr⟩ := of_bind hr
  refine (Le.cv (s := ⟨[(0, 0)], [], [], false⟩) (own := []) (ps := [a0 = a0, (0 : Int) = (0 : Int), (List.replicate (Int.toNat (lenI a0)) (0 : Nat)) = (List.replicate (Int.toNat (lenI a0)) (0 : Nat))]) (st' := ⟨[(0, .one (.dat (.sl (.flt .f32)) a0)), (3, .one (.all 0)), (4, .one (.dat (.int .i64) (0 : Int)))], [(0, .seq (.flt .f32) (List.replicate (Int.toNat (lenI a0)) (0 : Nat)))], 1⟩) hO (fun h => by cases h) (by kernel_rfl) ⟨rfl, rfl, rfl, trivial⟩).ht ?_
  refine HT.loopE (s := ((0 : Int), (List.replicate (Int.toNat (lenI a0)) (0 : Nat)))) (fun (s2 : Int × List Nat) => ⟨[(0, .one (.dat (.sl (.flt .f32)) a0)), (3, .one (.all 0)), (4, .one (.dat (.int .i64) s2.1))], [(0, .seq (.flt .f32) s2.2)], 1⟩) (fun (r4 : List Nat) => (.exit 0, ⟨[(3, .one (.all 0))], [(0, .seq (.flt .f32) r4)], 1⟩)) hL11 ?_ (fun s2 x5 hx6 hk7 => ?_)
  · refine (qBlockX (qThen ?_))
    refine HT.reg1 [2] [⟨none, .no⟩, ⟨none, .no⟩] ⟨[(2, .one (.all 0))], [(0, .seq (.flt .f32) r3)], 1⟩ hP hN (by kernel_rfl) allNil ?_
    have hr := of_some hr
    subst hr
    exact HT.ret ⟨[.one (.all 0)], [0], [], by kernel_rfl, by kernel_rfl, rfl, by kernel_rfl, by kernel_rfl, trivial⟩
  · refine HT.seq ?_
    refine HT.reg1 [0, 3, 4, 11] [⟨none, .no⟩, ⟨none, .no⟩, ⟨none, .no⟩, ⟨none, .no⟩] ⟨[(0, .one (.dat (.sl (.flt .f32)) a0)), (3, .one (.all 0)), (4, .one (.dat (.int .i64) s2.1)), (11, .one (.dat .bool (decide (s2.1 < (lenI a0)))))], [(0, .seq (.flt .f32) s2.2)], 1⟩ hP hN (by kernel_rfl) allNil ?_
    rcases of_bif hx6 with ⟨hb8, hx6⟩ | ⟨hb8, hx6⟩
    · refine HT.cond1 rfl hb8 ?_
      refine HT.skip (qThen ?_)
      refine HT.seq ?_
      refine HT.block ?_
      obtain ⟨hg9, hx6⟩ := of_guard hx6
      obtain ⟨hg10, hx6⟩ := of_guard hx6
      refine HT.reg (rs := [⟨none, .no⟩, ⟨none, .no⟩, ⟨none, .no⟩, ⟨none, .no⟩, ⟨none, .no⟩, ⟨none, .no⟩, ⟨none, .no⟩, ⟨none, .no⟩]) (st' := ⟨[(20, .one (.elp 0 (Int.toNat s2.1) 1 0)), (19, .one (.dat (.flt .f32) (List.getD a0 (Int.toNat s2.1) (0 : Nat)))), (18, .one (.ip (.flt .f32) (List.getD a0 (Int.toNat s2.1) (0 : Nat)) 0)), (17, .one (.dat (.int .i64) s2.1)), (16, .one (.dat (.sl (.flt .f32)) a0)), (15, .one (.dat (.int .i64) s2.1)), (14, .one (.all 0)), (0, .one (.dat (.sl (.flt .f32)) a0)), (3, .one (.all 0)), (4, .one (.dat (.int .i64) s2.1)), (11, .one (.dat .bool (decide (s2.1 < (lenI a0)))))], [(0, .seq (.flt .f32) (List.set s2.2 (Int.toNat s2.1) (List.getD a0 (Int.toNat s2.1) (0 : Nat)))), (0, .seq (.flt .f32) s2.2)], 1⟩) hP hN (by kernel_rfl) (allCons hg9 (allCons hg10 (allCons (natLt hg10) allNil))) (qBlock (qThen ?_))
      have hx6 := of_some hx6
      subst hx6
      refine HT.reg (rs := [⟨none, .no⟩, ⟨none, .no⟩, ⟨none, .no⟩]) (st' := ⟨[(4, .one (.dat (.int .i64) (wadd .i64 s2.1 (1 : Int)))), (13, .one (.dat (.int .i64) (wadd .i64 s2.1 (1 : Int)))), (12, .one (.dat (.int .i64) s2.1)), (20, .one (.elp 0 (Int.toNat s2.1) 1 0)), (19, .one (.dat (.flt .f32) (List.getD a0 (Int.toNat s2.1) (0 : Nat)))), (18, .one (.ip (.flt .f32) (List.getD a0 (Int.toNat s2.1) (0 : Nat)) 0)), (17, .one (.dat (.int .i64) s2.1)), (16, .one (.dat (.sl (.flt .f32)) a0)), (15, .one (.dat (.int .i64) s2.1)), (14, .one (.all 0)), (0, .one (.dat (.sl (.flt .f32)) a0)), (3, .one (.all 0)), (4, .one (.dat (.int .i64) s2.1)), (11, .one (.dat .bool (decide (s2.1 < (lenI a0)))))], [(0, .seq (.flt .f32) (List.set s2.2 (Int.toNat s2.1) (List.getD a0 (Int.toNat s2.1) (0 : Nat)))), (0, .seq (.flt .f32) s2.2)], 1⟩) hP hN (by kernel_rfl) allNil (qLoopN ⟨((wadd .i64 s2.1 (1 : Int)), (List.set s2.2 (Int.toNat s2.1) (List.getD a0 (Int.toNat s2.1) (0 : Nat)))), rfl, Le.cv (s := ⟨[(0, 0)], [], [], false⟩) (own := []) (ps := [a0 = a0, (wadd .i64 s2.1 (1 : Int)) = (wadd .i64 s2.1 (1 : Int)), (List.set s2.2 (Int.toNat s2.1) (List.getD a0 (Int.toNat s2.1) (0 : Nat))) = (List.set s2.2 (Int.toNat s2.1) (List.getD a0 (Int.toNat s2.1) (0 : Nat)))]) (st' := ⟨[(0, .one (.dat (.sl (.flt .f32)) a0)), (3, .one (.all 0)), (4, .one (.dat (.int .i64) (wadd .i64 s2.1 (1 : Int))))], [(0, .seq (.flt .f32) (List.set s2.2 (Int.toNat s2.1) (List.getD a0 (Int.toNat s2.1) (0 : Nat))))], 1⟩) hO (fun h => by cases h) (by kernel_rfl) ⟨rfl, rfl, rfl, trivial⟩⟩)
    · refine HT.cond0 rfl hb8 ?_
      have hx6 := of_some hx6
      subst hx6
      refine (Le.cv (s := ⟨[(0, 0)], [], [], false⟩) (own := []) (ps := [s2.2 = s2.2]) (st' := ⟨[(3, .one (.all 0))], [(0, .seq (.flt .f32) s2.2)], 1⟩) hO (fun h => by cases h) (by kernel_rfl) ⟨rfl, trivial⟩).ht ?_
      exact HT.exit (qThenE (qLoopE (hk7 s2.2 rfl)))

noncomputable def laws_toModel (a0 : Int × Int × List Nat × List Nat × List Nat) : Option ((Int × Int × List Nat × List Nat × List Nat)) :=
  (laws_toFloat32S a0.2.2.1).bind fun y1 =>
  (laws_toFloat32S a0.2.2.2.1).bind fun y3 =>
  (laws_toFloat32S a0.2.2.2.2).bind fun y5 =>
  some (a0.1, a0.2.1, y1, y3, y5)

theorem f17_ok {a0 : Int × Int × List Nat × List Nat × List Nat} {r : (Int × Int × List Nat × List Nat × List Nat)} (hr : laws_toModel a0 = some r) : CallOK Try.prog 17 [.imm (.st (.pair (.int .i64) (.pair (.int .i64) (.pair (.sl (.flt .f32)) (.pair (.sl (.flt .f32)) (.sl (.flt .f32))))))) a0] [⟨true, (.st (.pair (.int .i64) (.pair (.int .i64) (.pair (.sl (.flt .f32)) (.pair (.sl (.flt .f32)) (.sl (.flt .f32))))))), r⟩] [] := by
  unfold laws_toModel at hr
  refine CallOK.of_body (ts := [(true, (.st (.pair (.int .i64) (.pair (.int .i64) (.pair (.sl (.flt .f32)) (.pair (.sl (.flt .f32)) (.sl (.flt .f32))))))))]) Try.func17 rfl (by kernel_rfl) (Nat.le_of_ble_eq_true (by kernel_rfl)) fun cx hP hN hO hF => ?_
  have hO : cx.own.map Prod.fst = [] := hO
  have hF := hF rfl
  show HT cx ⟨[(0, .agg [.dat (.int .i64) a0.1, .dat (.int .i64) a0.2.1, .dat (.sl (.flt .f32)) a0.2.2.1, .dat (.sl (.flt .f32)) a0.2.2.2.1, .dat (.sl (.flt .f32)) a0.2.2.2.2])], [], 0⟩ _ _
  refine HT.reg1 [1, 2] [⟨none, .no⟩, ⟨none, .no⟩] ⟨[(1, .one (.ptr 0 0)), (2, .one (.ptr 1 0))], [(1, .box [.dat (.int .i64) (0 : Int), .dat (.int .i64) (0 : Int), .nilS, .nilS, .nilS]), (0, .box [.dat (.int .i64) a0.1, .dat (.int .i64) a0.2.1, .dat (.sl (.flt .f32)) a0.2.2.1, .dat (.sl (.flt .f32)) a0.2.2.2.1, .dat (.sl (.flt .f32)) a0.2.2.2.2])], 2⟩ hP hN (by kernel_rfl) allNil ?_
  refine HT.reg1 [1, 2, 3] [⟨none, .no⟩] ⟨[(1, .one (.ptr 0 0)), (2, .one (.ptr 1 0)), (3, .one (.ptr 2 0))], [(2, .box [.dat (.int .i64) (0 : Int), .dat (.int .i64) (0 : Int), .nilS, .nilS, .nilS]), (1, .box [.dat (.int .i64) (0 : Int), .dat (.int .i64) (0 : Int), .nilS, .nilS, .nilS]), (0, .box [.dat (.int .i64) a0.1, .dat (.int .i64) a0.2.1, .dat (.sl (.flt .f32)) a0.2.2.1, .dat (.sl (.flt .f32)) a0.2.2.2.1, .dat (.sl (.flt .f32)) a0.2.2.2.2])], 3⟩ hP hN (by kernel_rfl) allNil ?_
  refine HT.reg1 [1, 2, 3] [⟨none, .no⟩, ⟨none, .no⟩, ⟨none, .no⟩, ⟨none, .no⟩] ⟨[(1, .one (.ptr 0 0)), (2, .one (.ptr 1 0)), (3, .one (.ptr 2 0))], [(2, .box [.dat (.int .i64) a0.1, .dat (.int .i64) (0 : Int), .nilS, .nilS, .nilS]), (2, .box [.dat (.int .i64) (0 : Int), .dat (.int .i64) (0 : Int), .nilS, .nilS, .nilS]), (1, .box [.dat (.int .i64) (0 : Int), .dat (.int .i64) (0 : Int), .nilS, .nilS, .nilS]), (0, .box [.dat (.int .i64) a0.1, .dat (.int .i64) a0.2.1, .dat (.sl (.flt .f32)) a0.2.2.1, .dat (.sl (.flt .f32)) a0.2.2.2.1, .dat (.sl (.flt .f32)) a0.2.2.2.2])], 3⟩ hP hN (by kernel_rfl) allNil ?_
  refine HT.reg1 [1, 2, 3] [⟨none, .no⟩, ⟨none, .no⟩, ⟨none, .no⟩, ⟨none, .no⟩] ⟨[(1, .one (.ptr 0 0)), (2, .one (.ptr 1 0)), (3, .one (.ptr 2 0))], [(2, .box [.dat (.int .i64) a0.1, .dat (.int .i64) a0.2.1, .nilS, .nilS, .nilS]), (2, .box [.dat (.int .i64) a0.1, .dat (.int .i64) (0 : Int), .nilS, .nilS, .nilS]), (2, .box [.dat (.int .i64) (0 : Int), .dat (.int .i64) (0 : Int), .nilS, .nilS, .nilS]), (1, .box [.dat (.int .i64) (0 : Int), .dat (.int .i64) (0 : Int), .nilS, .nilS, .nilS]), (0, .box [.dat (.int .i64) a0.1, .dat (.int .i64) a0.2.1, .dat (.sl (.flt .f32)) a0.2.2.1, .dat (.sl (.flt .f32)) a0.2.2.2.1, .dat (.sl (.flt .f32)) a0.2.2.2.2])], 3⟩ hP hN (by kernel_rfl) allNil ?_
  obtain ⟨y1, hc2, hr⟩ := of_bind hr
  refine HT.reg1 [1, 2, 3] [⟨none, .no⟩, ⟨none, .no⟩, ⟨none, .call [.imm (.sl (.flt .f32))] [⟨true, (.sl (.flt .f32)), y1⟩] []⟩, ⟨none, .no⟩, ⟨none, .no⟩] ⟨[(1, .one (.ptr 0 0)), (2, .one (.ptr 1 0)), (3, .one (.ptr 2 0))], [(2, .box [.dat (.int .i64) a0.1, .dat (.int .i64) a0.2.1, .all 3, .nilS, .nilS]), (3, .seq (.flt .f32) y1), (2, .box [.dat (.int .i64) a0.1, .dat (.int .i64) a0.2.1, .nilS, .nilS, .nilS]), (2, .box [.dat (.int .i64) a0.1, .dat (.int .i64) (0 : Int), .nilS, .nilS, .nilS]), (2, .box [.dat (.int .i64) (0 : Int), .dat (.int .i64) (0 : Int), .nilS, .nilS, .nilS]), (1, .box [.dat (.int .i64) (0 : Int), .dat (.int .i64) (0 : Int), .nilS, .nilS, .nilS]), (0, .box [.dat (.int .i64) a0.1, .dat (.int .i64) a0.2.1, .dat (.sl (.flt .f32)) a0.2.2.1, .dat (.sl (.flt .f32)) a0.2.2.2.1, .dat (.sl (.flt .f32)) a0.2.2.2.2])], 4⟩ hP hN (by kernel_rfl) (allCons (f67_ok hc2) allNil) ?_
  obtain ⟨y3, hc4, hr⟩ := of_bind hr
  refine HT.reg1 [1, 2, 3] [⟨none, .no⟩, ⟨none, .no⟩, ⟨none, .call [.imm (.sl (.flt .f32))] [⟨true, (.sl (.flt .f32)), y3⟩] []⟩, ⟨none, .no⟩, ⟨none, .no⟩] ⟨[(1, .one (.ptr 0 0)), (2, .one (.ptr 1 0)), (3, .one (.ptr 2 0))], [(2, .box [.dat (.int .i64) a0.1, .dat (.int .i64) a0.2.1, .all 3, .all 4, .nilS]), (4, .seq (.flt .f32) y3), (2, .box [.dat (.int .i64) a0.1, .dat (.int .i64) a0.2.1, .all 3, .nilS, .nilS]), (3, .seq (.flt .f32) y1), (2, .box [.dat (.int .i64) a0.1, .dat (.int .i64) a0.2.1, .nilS, .nilS, .nilS]), (2, .box [.dat (.int .i64) a0.1, .dat (.int .i64) (0 : Int), .nilS, .nilS, .nilS]), (2, .box [.dat (.int .i64) (0 : Int), .dat (.int .i64) (0 : Int), .nilS, .nilS, .nilS]), (1, .box [.dat (.int .i64) (0 : Int), .dat (.int .i64) (0 : Int), .nilS, .nilS, .nilS]), (0, .box [.dat (.int .i64) a0.1, .dat (.int .i64) a0.2.1, .dat (.sl (.flt .f32)) a0.2.2.1, .dat (.sl (.flt .f32)) a0.2.2.2.1, .dat (.sl (.flt .f32)) a0.2.2.2.2])], 5⟩ hP hN (by kernel_rfl) (allCons (f67_ok hc4) allNil) ?_
  obtain ⟨y5, hc6, hr⟩ := of_bind hr
  refine HT.reg1 [2, 3] [⟨none, .no⟩, ⟨none, .no⟩, ⟨none, .call [.imm (.sl (.flt .f32))] [⟨true, (.sl (.flt .f32)), y5⟩] []⟩, ⟨none, .no⟩, ⟨none, .no⟩] ⟨[(2, .one (.ptr 1 0)), (3, .one (.ptr 2 0))], [(2, .box [.dat (.int .i64) a0.1, .dat (.int .i64) a0.2.1, .all 3, .all 4, .all 5]), (5, .seq (.flt .f32) y5), (2, .box [.dat (.int .i64) a0.1, .dat (.int .i64) a0.2.1, .all 3, .all 4, .nilS]), (4, .seq (.flt .f32) y3), (2, .box [.dat (.int .i64) a0.1, .dat (.int .i64) a0.2.1, .all 3, .nilS, .nilS]), (3, .seq (.flt .f32) y1), (2, .box [.dat (.int .i64) a0.1, .dat (.int .i64) a0.2.1, .nilS, .nilS, .nilS]), (2, .box [.dat (.int .i64) a0.1, .dat (.int .i64) (0 : Int), .nilS, .nilS, .nilS]), (2, .box [.dat (.int .i64) (0 : Int), .dat (.int .i64) (0 : Int), .nilS, .nilS, .nilS]), (1, .box [.dat (.int .i64) (0 : Int), .dat (.int .i64) (0 : Int), .nilS, .nilS, .nilS]), (0, .box [.dat (.int .i64) a0.1, .dat (.int .i64) a0.2.1, .dat (.sl (.flt .f32)) a0.2.2.1, .dat (.sl (.flt .f32)) a0.2.2.2.1, .dat (.sl (.flt .f32)) a0.2.2.2.2])], 6⟩ hP hN (by kernel_rfl) (allCons (f67_ok hc6) allNil) ?_
  refine HT.reg1 [2] [⟨none, .no⟩, ⟨none, .no⟩] ⟨[(2, .one (.ptr 1 0))], [(1, .box [.dat (.int .i64) a0.1, .dat (.int .i64) a0.2.1, .all 3, .all 4, .all 5]), (2, .box [.dat (.int .i64) a0.1, .dat (.int .i64) a0.2.1, .all 3, .all 4, .all 5]), (5, .seq (.flt .f32) y5), (2, .box [.dat (.int .i64) a0.1, .dat (.int .i64) a0.2.1, .all 3, .all 4, .nilS]), (4, .seq (.flt .f32) y3), (2, .box [.dat (.int .i64) a0.1, .dat (.int .i64) a0.2.1, .all 3, .nilS, .nilS]), (3, .seq (.flt .f32) y1), (2, .box [.dat (.int .i64) a0.1, .dat (.int .i64) a0.2.1, .nilS, .nilS, .nilS]), (2, .box [.dat (.int .i64) a0.1, .dat (.int .i64) (0 : Int), .nilS, .nilS, .nilS]), (2, .box [.dat (.int .i64) (0 : Int), .dat (.int .i64) (0 : Int), .nilS, .nilS, .nilS]), (1, .box [.dat (.int .i64) (0 : Int), .dat (.int .i64) (0 : Int), .nilS, .nilS, .nilS]), (0, .box [.dat (.int .i64) a0.1, .dat (.int .i64) a0.2.1, .dat (.sl (.flt .f32)) a0.2.2.1, .dat (.sl (.flt .f32)) a0.2.2.2.1, .dat (.sl (.flt .f32)) a0.2.2.2.2])], 6⟩ hP hN (by kernel_rfl) allNil ?_
  have hr := of_some hr
  subst hr
  exact HT.ret ⟨[.agg [.dat (.int .i64) a0.1, .dat (.int .i64) a0.2.1, .all 3, .all 4, .all 5]], [3, 4, 5], [], by kernel_rfl, by kernel_rfl, rfl, by kernel_rfl, by kernel_rfl, trivial⟩

noncomputable def laws_toInt64S_B1 (a0 : List Int) (s2 : Int × List Int) : Option ((Int × List Int) ⊕ (List Int)) :=
  bif (decide (s2.1 < (lenI a0))) then
    guardP ((0 : Int) ≤ s2.1 ∧ s2.1 < lenI a0) (
      guardP ((0 : Int) ≤ s2.1 ∧ s2.1 < lenI s2.2) (
        some (.inl ((wadd .i64 s2.1 (1 : Int)), (List.set s2.2 (Int.toNat s2.1) (List.getD a0 (Int.toNat s2.1) (0 : Int)))))))
  else
    some (.inr s2.2)

noncomputable def laws_toInt64S (a0 : List Int) : Option (List Int) :=
  guardP ((0 : Int) ≤ (lenI a0) ∧ (lenI a0) ≤ 4294967296) (
    (rounds (laws_toInt64S_B1 a0) ((0 : Int), (List.replicate (Int.toNat (lenI a0)) (0 : Int)))).bind fun r4 =>
    some r4)

theorem f31_ok {a0 : List Int} {r : List Int} (hr : laws_toInt64S a0 = some r) : CallOK Try.prog 31 [.imm (.sl (.int .i64)) a0] [⟨true, (.sl (.int .i64)), r⟩] [] := by
  unfold laws_toInt64S at hr
  refine CallOK.of_body (ts := [(true, (.sl (.int .i64)))]) Try.func31 rfl (by kernel_rfl) (Nat.le_of_ble_eq_true (by kernel_rfl)) fun cx hP hN hO hF => ?_
  have hO : cx.own.map Prod.fst = [] := hO
  have hF := hF rfl
  show HT cx ⟨[(0, .one (.dat (.sl (.int .i64)) a0))], [], 0⟩ _ _
  refine HT.reg1 [0] [⟨none, .no⟩] ⟨[(0, .one (.dat (.sl (.int .i64)) a0))], [], 0⟩ hP hN (by kernel_rfl) allNil ?_
  obtain ⟨hg1, hr⟩ := of_guard hr
  refine HT.reg1 [0, 3] [⟨none, .no⟩, ⟨none, .no⟩, ⟨none, .ty (.int .i64)⟩, ⟨none, .no⟩] ⟨[(0, .one (.dat (.sl (.int .i64)) a0)), (3, .one (.all 0))], [(0, .seq (.int .i64) (List.replicate (Int.toNat (lenI a0)) (0 : Int)))], 1⟩ hP hN (by kernel_rfl) (allCons (show (0 : Int) ≤ (lenI a0) ∧ (lenI a0) ≤ (lenI a0) ∧ (lenI a0) ≤ 4294967296 from ⟨hg1.1, Int.le_refl _, hg1.2⟩) allNil) ?_
  refine HT.seq ?_
  refine HT.reg1 [0, 3, 4] [⟨none, .no⟩] ⟨[(0, .one (.dat (.sl (.int .i64)) a0)), (3, .one (.all 0)), (4, .one (.dat (.int .i64) (0 : Int)))], [(0, .seq (.int .i64) (List.replicate (Int.toNat (lenI a0)) (0 : Int)))], 1⟩ hP hN (by kernel_rfl) allNil ?_
  refine HT.block ?_
  obtain ⟨r3, hL11, hr⟩ := of_bind hr
  refine (Le.cv (s := ⟨[(0, 0)], [], [], false⟩) (own := []) (ps := [a0 = a0, (0 : Int) = (0 : Int), (List.replicate (Int.toNat (lenI a0)) (0 : Int)) = (List.replicate (Int.toNat (lenI a0)) (0 : Int))]) (st' := ⟨[(0, .one (.dat (.sl (.int .i64)) a0)), (3, .one (.all 0)), (4, .one (.dat (.int .i64) (0 : Int)))], [(0, .seq (.int .i64) (List.replicate (Int.toNat (lenI a0)) (0 : Int)))], 1⟩) hO (fun h => by cases h) (by kernel_rfl) ⟨rfl, rfl, rfl, trivial⟩).ht ?_
  refine HT.loopE (s := ((0 : Int), (List.replicate (Int.toNat (lenI a0)) (0 : Int)))) (fun (s2 : Int × List Int) => ⟨[(0, .one (.dat (.sl (.int .i64)) a0)), (3, .one (.all 0)), (4, .one (.dat (.int .i64) s2.1))], [(0, .seq (.int .i64) s2.2)], 1⟩) (fun (r4 : List Int) => (.exit 0, ⟨[(3, .one (.all 0))], [(0, .seq (.int .i64) r4)], 1⟩)) hL11 ?_ (fun s2 x5 hx6 hk7 => ?_)
  · refine (qBlockX (qThen ?_))
    refine HT.reg1 [2] [⟨none, .no⟩, ⟨none, .no⟩] ⟨[(2, .one (.all 0))], [(0, .seq (.int .i64) r3)], 1⟩ hP hN (by kernel_rfl) allNil ?_
    have hr := of_some hr
    subst hr
    exact HT.ret ⟨[.one (.all 0)], [0], [], by kernel_rfl, by kernel_rfl, rfl, by kernel_rfl, by kernel_rfl, trivial⟩
  · refine HT.seq ?_
    refine HT.reg1 [0, 3, 4, 11] [⟨none, .no⟩, ⟨none, .no⟩, ⟨none, .no⟩, ⟨none, .no⟩] ⟨[(0, .one (.dat (.sl (.int .i64)) a0)), (3, .one (.all 0)), (4, .one (.dat (.int .i64) s2.1)), (11, .one (.dat .bool (decide (s2.1 < (lenI a0)))))], [(0, .seq (.int .i64) s2.2)], 1⟩ hP hN (by kernel_rfl) allNil ?_
    rcases of_bif hx6 with ⟨hb8, hx6⟩ | ⟨hb8, hx6⟩
    · refine HT.cond1 rfl hb8 ?_
      refine HT.skip (qThen ?_)
      refine HT.seq ?_
      refine HT.block ?_
      obtain ⟨hg9, hx6⟩ := of_guard hx6
      obtain ⟨hg10, hx6⟩ := of_guard hx6
      refine HT.reg (rs := [⟨none, .no⟩, ⟨none, .no⟩, ⟨none, .no⟩, ⟨none, .no⟩, ⟨none, .no⟩, ⟨none, .no⟩, ⟨none, .no⟩, ⟨none, .no⟩]) (st' := ⟨[(20, .one (.elp 0 (Int.toNat s2.1) 1 0)), (19, .one (.dat (.int .i64) (List.getD a0 (Int.toNat s2.1) (0 : Int)))), (18, .one (.ip (.int .i64) (List.getD a0 (Int.toNat s2.1) (0 : Int)) 0)), (17, .one (.dat (.int .i64) s2.1)), (16, .one (.dat (.sl (.int .i64)) a0)), (15, .one (.dat (.int .i64) s2.1)), (14, .one (.all 0)), (0, .one (.dat (.sl (.int .i64)) a0)), (3, .one (.all 0)), (4, .one (.dat (.int .i64) s2.1)), (11, .one (.dat .bool (decide (s2.1 < (lenI a0)))))], [(0, .seq (.int .i64) (List.set s2.2 (Int.toNat s2.1) (List.getD a0 (Int.toNat s2.1) (0 : Int)))), (0, .seq (.int .i64) s2.2)], 1⟩) hP hN (by kernel_rfl) (allCons hg9 (allCons hg10 (allCons (natLt hg10) allNil))) (qBlock (qThen ?_))
      have hx6 := of_some hx6
      subst hx6
      refine HT.reg (rs := [⟨none, .no⟩, ⟨none, .no⟩, ⟨none, .no⟩]) (st' := ⟨[(4, .one (.dat (.int .i64) (wadd .i64 s2.1 (1 : Int)))), (13, .one (.dat (.int .i64) (wadd .i64 s2.1 (1 : Int)))), (12, .one (.dat (.int .i64) s2.1)), (20, .one (.elp 0 (Int.toNat s2.1) 1 0)), (19, .one (.dat (.int .i64) (List.getD a0 (Int.toNat s2.1) (0 : Int)))), (18, .one (.ip (.int .i64) (List.getD a0 (Int.toNat s2.1) (0 : Int)) 0)), (17, .one (.dat (.int .i64) s2.1)), (16, .one (.dat (.sl (.int .i64)) a0)), (15, .one (.dat (.int .i64) s2.1)), (14, .one (.all 0)), (0, .one (.dat (.sl (.int .i64)) a0)), (3, .one (.all 0)), (4, .one (.dat (.int .i64) s2.1)), (11, .one (.dat .bool (decide (s2.1 < (lenI a0)))))], [(0, .seq (.int .i64) (List.set s2.2 (Int.toNat s2.1) (List.getD a0 (Int.toNat s2.1) (0 : Int)))), (0, .seq (.int .i64) s2.2)], 1⟩) hP hN (by kernel_rfl) allNil (qLoopN ⟨((wadd .i64 s2.1 (1 : Int)), (List.set s2.2 (Int.toNat s2.1) (List.getD a0 (Int.toNat s2.1) (0 : Int)))), rfl, Le.cv (s := ⟨[(0, 0)], [], [], false⟩) (own := []) (ps := [a0 = a0, (wadd .i64 s2.1 (1 : Int)) = (wadd .i64 s2.1 (1 : Int)), (List.set s2.2 (Int.toNat s2.1) (List.getD a0 (Int.toNat s2.1) (0 : Int))) = (List.set s2.2 (Int.toNat s2.1) (List.getD a0 (Int.toNat s2.1) (0 : Int)))]) (st' := ⟨[(0, .one (.dat (.sl (.int .i64)) a0)), (3, .one (.all 0)), (4, .one (.dat (.int .i64) (wadd .i64 s2.1 (1 : Int))))], [(0, .seq (.int .i64) (List.set s2.2 (Int.toNat s2.1) (List.getD a0 (Int.toNat s2.1) (0 : Int))))], 1⟩) hO (fun h => by cases h) (by kernel_rfl) ⟨rfl, rfl, rfl, trivial⟩⟩)
    · refine HT.cond0 rfl hb8 ?_
      have hx6 := of_some hx6
      subst hx6
      refine (Le.cv (s := ⟨[(0, 0)], [], [], false⟩) (own := []) (ps := [s2.2 = s2.2]) (st' := ⟨[(3, .one (.all 0))], [(0, .seq (.int .i64) s2.2)], 1⟩) hO (fun h => by cases h) (by kernel_rfl) ⟨rfl, trivial⟩).ht ?_
      exact HT.exit (qThenE (qLoopE (hk7 s2.2 rfl)))

noncomputable def laws_toInt64SS_B1 (a0 : List (List Int)) (s2 : Int × List (List Int)) : Option ((Int × List (List Int)) ⊕ (List (List Int))) :=
  bif (decide (s2.1 < (lenI a0))) then
    guardP ((0 : Int) ≤ s2.1 ∧ s2.1 < lenI a0) (
      (laws_toInt64S (List.getD a0 (Int.toNat s2.1) ([] : List Int))).bind fun y10 =>
      guardP ((0 : Int) ≤ s2.1 ∧ s2.1 < lenI s2.2) (
        some (.inl ((wadd .i64 s2.1 (1 : Int)), (List.set s2.2 (Int.toNat s2.1) y10)))))
  else
    some (.inr s2.2)

noncomputable def laws_toInt64SS (a0 : List (List Int)) : Option (List (List Int)) :=
  guardP ((0 : Int) ≤ (lenI a0) ∧ (lenI a0) ≤ 4294967296) (
    (rounds (laws_toInt64SS_B1 a0) ((0 : Int), (List.replicate (Int.toNat (lenI a0)) ([] : List Int)))).bind fun r4 =>
    some r4)

theorem f53_ok {a0 : List (List Int)} {r : List (List Int)} (hr : laws_toInt64SS a0 = some r) : CallOK Try.prog 53 [.imm (.sl (.sl (.int .i64))) a0] [⟨false, (.sl (.sl (.int .i64))), r⟩] [] := by
  unfold laws_toInt64SS at hr
  refine CallOK.of_body (ts := [(false, (.sl (.sl (.int .i64))))]) Try.func53 rfl (by kernel_rfl) (Nat.le_of_ble_eq_true (by kernel_rfl)) fun cx hP hN hO hF => ?_
  have hO : cx.own.map Prod.fst = [] := hO
  have hF := hF rfl
  show HT cx ⟨[(0, .one (.dat (.sl (.sl (.int .i64))) a0))], [], 0⟩ _ _
  refine HT.reg1 [0] [⟨none, .no⟩] ⟨[(0, .one (.dat (.sl (.sl (.int .i64))) a0))], [], 0⟩ hP hN (by kernel_rfl) allNil ?_
  obtain ⟨hg1, hr⟩ := of_guard hr
  refine HT.reg1 [0, 3] [⟨none, .no⟩, ⟨none, .no⟩, ⟨none, .ty (.sl (.int .i64))⟩, ⟨none, .no⟩] ⟨[(0, .one (.dat (.sl (.sl (.int .i64))) a0)), (3, .one (.all 0))], [(0, .seq (.sl (.int .i64)) (List.replicate (Int.toNat (lenI a0)) ([] : List Int)))], 1⟩ hP hN (by kernel_rfl) (allCons (show (0 : Int) ≤ (lenI a0) ∧ (lenI a0) ≤ (lenI a0) ∧ (lenI a0) ≤ 4294967296 from ⟨hg1.1, Int.le_refl _, hg1.2⟩) allNil) ?_
  refine HT.seq ?_
  refine HT.reg1 [0, 3, 4] [⟨none, .no⟩] ⟨[(0, .one (.dat (.sl (.sl (.int .i64))) a0)), (3, .one (.all 0)), (4, .one (.dat (.int .i64) (0 : Int)))], [(0, .seq (.sl (.int .i64)) (List.replicate (Int.toNat (lenI a0)) ([] : List Int)))], 1⟩ hP hN (by kernel_rfl) allNil ?_
  refine HT.block ?_
  obtain ⟨r3, hL13, hr⟩ := of_bind hr
  refine (Le.cv (s := ⟨[(0, 0)], [], [], false⟩) (own := []) (ps := [a0 = a0, (0 : Int) = (0 : Int), (List.replicate (Int.toNat (lenI a0)) ([] : List Int)) = (List.replicate (Int.toNat (lenI a0)) ([] : List Int))]) (st' := ⟨[(0, .one (.dat (.sl (.sl (.int .i64))) a0)), (3, .one (.all 0)), (4, .one (.dat (.int .i64) (0 : Int)))], [(0, .seq (.sl (.int .i64)) (List.replicate (Int.toNat (lenI a0)) ([] : List Int)))], 1⟩) hO (fun h => by cases h) (by kernel_rfl) ⟨rfl, rfl, rfl, trivial⟩).ht ?_
  refine HT.loopE (s := ((0 : Int), (List.replicate (Int.toNat (lenI a0)) ([] : List Int)))) (fun (s2 : Int × List (List Int)) => ⟨[(0, .one (.dat (.sl (.sl (.int .i64))) a0)), (3, .one (.all 0)), (4, .one (.dat (.int .i64) s2.1))], [(0, .seq (.sl (.int .i64)) s2.2)], 1⟩) (fun (r4 : List (List Int)) => (.exit 0, ⟨[(3, .one (.all 0))], [(0, .seq (.sl (.int .i64)) r4)], 1⟩)) hL13 ?_ (fun s2 x5 hx6 hk7 => ?_)
  · refine (qBlockX (qThen ?_))
    refine HT.reg1 [2] [⟨none, .no⟩, ⟨none, .no⟩] ⟨[(2, .one (.all 0))], [(0, .seq (.sl (.int .i64)) r3)], 1⟩ hP hN (by kernel_rfl) allNil ?_
    have hr := of_some hr
    subst hr
    refine (Le.cv (s := ⟨[], [], [], true⟩) (own := []) (ps := [r3 = r3]) (st' := ⟨[(2, .one (.dat (.sl (.sl (.int .i64))) r3))], [], 1⟩) hO (fun _ => hF) (by kernel_rfl) ⟨rfl, trivial⟩).ht ?_
    exact HT.ret ⟨[.one (.dat (.sl (.sl (.int .i64))) r3)], [], [], by kernel_rfl, by kernel_rfl, rfl, by kernel_rfl, by kernel_rfl, trivial⟩
  · refine HT.seq ?_
    refine HT.reg1 [0, 3, 4, 11] [⟨none, .no⟩, ⟨none, .no⟩, ⟨none, .no⟩, ⟨none, .no⟩] ⟨[(0, .one (.dat (.sl (.sl (.int .i64))) a0)), (3, .one (.all 0)), (4, .one (.dat (.int .i64) s2.1)), (11, .one (.dat .bool (decide (s2.1 < (lenI a0)))))], [(0, .seq (.sl (.int .i64)) s2.2)], 1⟩ hP hN (by kernel_rfl) allNil ?_
    rcases of_bif hx6 with ⟨hb8, hx6⟩ | ⟨hb8, hx6⟩
    · refine HT.cond1 rfl hb8 ?_
      refine HT.skip (qThen ?_)
      refine HT.seq ?_
      refine HT.block ?_
      obtain ⟨hg9, hx6⟩ := of_guard hx6
      obtain ⟨y10, hc11, hx6⟩ := of_bind hx6
      obtain ⟨hg12, hx6⟩ := of_guard hx6
      refine HT.reg (rs := [⟨none, .no⟩, ⟨none, .no⟩, ⟨none, .no⟩, ⟨none, .no⟩, ⟨none, .no⟩, ⟨none, .no⟩, ⟨none, .call [.imm (.sl (.int .i64))] [⟨false, (.sl (.int .i64)), y10⟩] []⟩, ⟨none, .no⟩, ⟨none, .no⟩]) (st' := ⟨[(21, .one (.elp 0 (Int.toNat s2.1) 1 0)), (20, .one (.dat (.sl (.int .i64)) y10)), (19, .one (.dat (.sl (.int .i64)) (List.getD a0 (Int.toNat s2.1) ([] : List Int)))), (18, .one (.ip (.sl (.int .i64)) (List.getD a0 (Int.toNat s2.1) ([] : List Int)) 0)), (17, .one (.dat (.int .i64) s2.1)), (16, .one (.dat (.sl (.sl (.int .i64))) a0)), (15, .one (.dat (.int .i64) s2.1)), (14, .one (.all 0)), (0, .one (.dat (.sl (.sl (.int .i64))) a0)), (3, .one (.all 0)), (4, .one (.dat (.int .i64) s2.1)), (11, .one (.dat .bool (decide (s2.1 < (lenI a0)))))], [(0, .seq (.sl (.int .i64)) (List.set s2.2 (Int.toNat s2.1) y10)), (0, .seq (.sl (.int .i64)) s2.2)], 1⟩) hP hN (by kernel_rfl) (allCons hg9 (allCons (CallOK.frz [true] rfl (f31_ok hc11)) (allCons hg12 (allCons (natLt hg12) allNil)))) (qBlock (qThen ?_))
      have hx6 := of_some hx6
      subst hx6
      refine HT.reg (rs := [⟨none, .no⟩, ⟨none, .no⟩, ⟨none, .no⟩]) (st' := ⟨[(4, .one (.dat (.int .i64) (wadd .i64 s2.1 (1 : Int)))), (13, .one (.dat (.int .i64) (wadd .i64 s2.1 (1 : Int)))), (12, .one (.dat (.int .i64) s2.1)), (21, .one (.elp 0 (Int.toNat s2.1) 1 0)), (20, .one (.dat (.sl (.int .i64)) y10)), (19, .one (.dat (.sl (.int .i64)) (List.getD a0 (Int.toNat s2.1) ([] : List Int)))), (18, .one (.ip (.sl (.int .i64)) (List.getD a0 (Int.toNat s2.1) ([] : List Int)) 0)), (17, .one (.dat (.int .i64) s2.1)), (16, .one (.dat (.sl (.sl (.int .i64))) a0)), (15, .one (.dat (.int .i64) s2.1)), (14, .one (.all 0)), (0, .one (.dat (.sl (.sl (.int .i64))) a0)), (3, .one (.all 0)), (4, .one (.dat (.int .i64) s2.1)), (11, .one (.dat .bool (decide (s2.1 < (lenI a0)))))], [(0, .seq (.sl (.int .i64)) (List.set s2.2 (Int.toNat s2.1) y10)), (0, .seq (.sl (.int .i64)) s2.2)], 1⟩) hP hN (by kernel_rfl) allNil (qLoopN ⟨((wadd .i64 s2.1 (1 : Int)), (List.set s2.2 (Int.toNat s2.1) y10)), rfl, Le.cv (s := ⟨[(0, 0)], [], [], false⟩) (own := []) (ps := [a0 = a0, (wadd .i64 s2.1 (1 : Int)) = (wadd .i64 s2.1 (1 : Int)), (List.set s2.2 (Int.toNat s2.1) y10) = (List.set s2.2 (Int.toNat s2.1) y10)]) (st' := ⟨[(0, .one (.dat (.sl (.sl (.int .i64))) a0)), (3, .one (.all 0)), (4, .one (.dat (.int .i64) (wadd .i64 s2.1 (1 : Int))))], [(0, .seq (.sl (.int .i64)) (List.set s2.2 (Int.toNat s2.1) y10))], 1⟩) hO (fun h => by cases h) (by kernel_rfl) ⟨rfl, rfl, rfl, trivial⟩⟩)
    · refine HT.cond0 rfl hb8 ?_
      have hx6 := of_some hx6
      subst hx6
      refine (Le.cv (s := ⟨[(0, 0)], [], [], false⟩) (own := []) (ps := [s2.2 = s2.2]) (st' := ⟨[(3, .one (.all 0))], [(0, .seq (.sl (.int .i64)) s2.2)], 1⟩) hO (fun h => by cases h) (by kernel_rfl) ⟨rfl, trivial⟩).ht ?_
      exact HT.exit (qThenE (qLoopE (hk7 s2.2 rfl)))

noncomputable def spec_l00In (a0 : Int) (a1 : Int) (a2 : Int) : Option (Bool) :=
  (show Option (Bool) from
    bif (decide (a0 ≥ a1)) then
      some (decide (a0 ≤ a2))
    else
      some false).bind fun v1 =>
  some v1

theorem f64_ok {a0 : Int} {a1 : Int} {a2 : Int} {r : Bool} (hr : spec_l00In a0 a1 a2 = some r) : CallOK Try.prog 64 [.imm (.int .i64) a0, .imm (.int .i64) a1, .imm (.int .i64) a2] [⟨false, .bool, r⟩] [] := by
  unfold spec_l00In at hr
  refine CallOK.of_body (ts := [(false, .bool)]) Try.func64 rfl (by kernel_rfl) (Nat.le_of_ble_eq_true (by kernel_rfl)) fun cx hP hN hO hF => ?_
  have hO : cx.own.map Prod.fst = [] := hO
  have hF := hF rfl
  show HT cx ⟨[(0, .one (.dat (.int .i64) a0)), (1, .one (.dat (.int .i64) a1)), (2, .one (.dat (.int .i64) a2))], [], 0⟩ _ _
  refine HT.reg1 [0, 1, 2] [⟨none, .no⟩] ⟨[(0, .one (.dat (.int .i64) a0)), (1, .one (.dat (.int .i64) a1)), (2, .one (.dat (.int .i64) a2))], [], 0⟩ hP hN (by kernel_rfl) allNil ?_
  obtain ⟨v1', hT3, hr⟩ := of_bind hr
  refine HT.join (fun (v1 : Bool) => ⟨[(6, .one (.dat .bool v1))], [], 0⟩) (fun v => v = v1') (fun v1 hv2 => ?_) (fun cont => ?_)
  · subst hv2
    have hr := of_some hr
    subst hr
    exact HT.ret ⟨[.one (.dat .bool v1)], [], [], by kernel_rfl, by kernel_rfl, rfl, by kernel_rfl, by kernel_rfl, trivial⟩
  · rcases of_bif hT3 with ⟨hb4, hT3⟩ | ⟨hb4, hT3⟩
    · refine HT.reg (rs := [⟨none, .no⟩, ⟨none, .no⟩, ⟨none, .no⟩, ⟨none, .no⟩, ⟨some true, .no⟩, ⟨some true, .no⟩, ⟨some true, .no⟩, ⟨none, .tv true⟩, ⟨none, .no⟩]) (st' := ⟨[(6, .one (.dat .bool (decide (a0 ≤ a2)))), (14, .one (.dat .bool (decide (a0 ≤ a2)))), (13, .one (.dat .bool (decide (a0 ≤ a2)))), (12, .one (.dat (.int .i64) a2)), (11, .one (.dat (.int .i64) a0)), (10, .one (.dat .bool (decide (a0 ≥ a1)))), (9, .one (.dat .bool (decide (a0 ≥ a1)))), (8, .one (.dat (.int .i64) a1)), (7, .one (.dat (.int .i64) a0)), (0, .one (.dat (.int .i64) a0)), (1, .one (.dat (.int .i64) a1)), (2, .one (.dat (.int .i64) a2))], [], 0⟩) hP hN (by kernel_rfl) (allCons hb4 (allCons hb4 (allCons hb4 (allCons hb4 allNil)))) (qThen ?_)
      exact (Le.cv (s := ⟨[], [], [], false⟩) (own := []) (ps := [(decide (a0 ≤ a2)) = (decide (a0 ≤ a2))]) (st' := ⟨[(6, .one (.dat .bool (decide (a0 ≤ a2))))], [], 0⟩) hO (fun h => by cases h) (by kernel_rfl) ⟨rfl, trivial⟩).ht (cont (decide (a0 ≤ a2)) (of_some hT3))
    · refine HT.reg (rs := [⟨none, .no⟩, ⟨none, .no⟩, ⟨none, .no⟩, ⟨none, .no⟩, ⟨some false, .no⟩, ⟨some false, .no⟩, ⟨some false, .no⟩, ⟨none, .tv false⟩, ⟨none, .no⟩]) (st' := ⟨[(6, .one (.dat .bool false)), (14, .one (.dat .bool false)), (13, .und), (12, .und), (11, .und), (10, .one (.dat .bool (decide (a0 ≥ a1)))), (9, .one (.dat .bool (decide (a0 ≥ a1)))), (8, .one (.dat (.int .i64) a1)), (7, .one (.dat (.int .i64) a0)), (0, .one (.dat (.int .i64) a0)), (1, .one (.dat (.int .i64) a1)), (2, .one (.dat (.int .i64) a2))], [], 0⟩) hP hN (by kernel_rfl) (allCons hb4 (allCons hb4 (allCons hb4 (allCons hb4 allNil)))) (qThen ?_)
      exact (Le.cv (s := ⟨[], [], [], false⟩) (own := []) (ps := [false = false]) (st' := ⟨[(6, .one (.dat .bool false))], [], 0⟩) hO (fun h => by cases h) (by kernel_rfl) ⟨rfl, trivial⟩).ht (cont false (of_some hT3))

noncomputable def spec_l02Word_B1 (a0 : List Int) (a1 : Int) (s1 : Int) : Option ((Int) ⊕ (Unit ⊕ Unit)) :=
  bif (decide (s1 < (lenI a0))) then
    guardP ((0 : Int) ≤ s1 ∧ s1 < lenI a0) (
      (spec_l00In (List.getD a0 (Int.toNat s1) (0 : Int)) (0 : Int) (wsub .i64 a1 (1 : Int))).bind fun y10 =>
      bif (!y10) then
        some (.inr (.inr ()))
      else
        some (.inl (wadd .i64 s1 (1 : Int))))
  else
    some (.inr (.inl ()))

noncomputable def spec_l02Word (a0 : List Int) (a1 : Int) : Option (Bool) :=
  (rounds (spec_l02Word_B1 a0 a1) (0 : Int)).bind fun r2 => match r2 with
    | .inl r3 =>
      some (decide ((lenI a0) ≤ (12 : Int)))
    | .inr r4 =>
      some false

theorem f122_ok {a0 : List Int} {a1 : Int} {r : Bool} (hr : spec_l02Word a0 a1 = some r) : CallOK Try.prog 122 [.imm (.sl (.int .i64)) a0, .imm (.int .i64) a1] [⟨false, .bool, r⟩] [] := by
  unfold spec_l02Word at hr
  refine CallOK.of_body (ts := [(false, .bool)]) Try.func122 rfl (by kernel_rfl) (Nat.le_of_ble_eq_true (by kernel_rfl)) fun cx hP hN hO hF => ?_
  have hO : cx.own.map Prod.fst = [] := hO
  have hF := hF rfl
  show HT cx ⟨[(0, .one (.dat (.sl (.int .i64)) a0)), (1, .one (.dat (.int .i64) a1))], [], 0⟩ _ _
  refine HT.reg1 [0, 1] [⟨none, .no⟩] ⟨[(0, .one (.dat (.sl (.int .i64)) a0)), (1, .one (.dat (.int .i64) a1))], [], 0⟩ hP hN (by kernel_rfl) allNil ?_
  refine HT.seq ?_
  refine HT.reg1 [0, 1, 5] [⟨none, .no⟩] ⟨[(0, .one (.dat (.sl (.int .i64)) a0)), (1, .one (.dat (.int .i64) a1)), (5, .one (.dat (.int .i64) (0 : Int)))], [], 0⟩ hP hN (by kernel_rfl) allNil ?_
  refine HT.block ?_
  obtain ⟨r2, hL13, hr⟩ := of_bind hr
  refine (Le.cv (s := ⟨[], [], [], false⟩) (own := []) (ps := [a0 = a0, a1 = a1, (0 : Int) = (0 : Int)]) (st' := ⟨[(0, .one (.dat (.sl (.int .i64)) a0)), (1, .one (.dat (.int .i64) a1)), (5, .one (.dat (.int .i64) (0 : Int)))], [], 0⟩) hO (fun h => by cases h) (by kernel_rfl) ⟨rfl, rfl, rfl, trivial⟩).ht ?_
  refine HT.loopE (s := (0 : Int)) (fun (s1 : Int) => ⟨[(0, .one (.dat (.sl (.int .i64)) a0)), (1, .one (.dat (.int .i64) a1)), (5, .one (.dat (.int .i64) s1))], [], 0⟩) (fun (r2 : Unit ⊕ Unit) => match r2 with | .inl r3 => (.exit 0, ⟨[(0, .one (.dat (.sl (.int .i64)) a0))], [], 0⟩) | .inr r4 => (.ret, ⟨[(4, .one (.dat .bool false))], [], 0⟩)) hL13 ?_ (fun s1 x5 hx6 hk7 => ?_)
  · rcases r2 with r3 | r4
    · refine (qBlockX (qThen ?_))
      refine HT.reg1 [4] [⟨none, .no⟩, ⟨none, .no⟩, ⟨none, .no⟩, ⟨none, .no⟩] ⟨[(4, .one (.dat .bool (decide ((lenI a0) ≤ (12 : Int)))))], [], 0⟩ hP hN (by kernel_rfl) allNil ?_
      have hr := of_some hr
      subst hr
      exact HT.ret ⟨[.one (.dat .bool (decide ((lenI a0) ≤ (12 : Int))))], [], [], by kernel_rfl, by kernel_rfl, rfl, by kernel_rfl, by kernel_rfl, trivial⟩
    · have hr := of_some hr
      subst hr
      exact (qBlockR (qThenR ⟨[.one (.dat .bool false)], [], [], by kernel_rfl, by kernel_rfl, rfl, by kernel_rfl, by kernel_rfl, trivial⟩))
  · refine HT.seq ?_
    refine HT.reg1 [0, 1, 5, 9] [⟨none, .no⟩, ⟨none, .no⟩, ⟨none, .no⟩, ⟨none, .no⟩] ⟨[(0, .one (.dat (.sl (.int .i64)) a0)), (1, .one (.dat (.int .i64) a1)), (5, .one (.dat (.int .i64) s1)), (9, .one (.dat .bool (decide (s1 < (lenI a0)))))], [], 0⟩ hP hN (by kernel_rfl) allNil ?_
    rcases of_bif hx6 with ⟨hb8, hx6⟩ | ⟨hb8, hx6⟩
    · refine HT.cond1 rfl hb8 ?_
      refine HT.skip (qThen ?_)
      refine HT.seq ?_
      refine HT.block ?_
      obtain ⟨hg9, hx6⟩ := of_guard hx6
      obtain ⟨y10, hc11, hx6⟩ := of_bind hx6
      refine HT.reg1 [0, 1, 5, 19] [⟨none, .no⟩, ⟨none, .no⟩, ⟨none, .no⟩, ⟨none, .no⟩, ⟨none, .no⟩, ⟨none, .no⟩, ⟨none, .call [.imm (.int .i64), .imm (.int .i64), .imm (.int .i64)] [⟨false, .bool, y10⟩] []⟩, ⟨none, .no⟩] ⟨[(0, .one (.dat (.sl (.int .i64)) a0)), (1, .one (.dat (.int .i64) a1)), (5, .one (.dat (.int .i64) s1)), (19, .one (.dat .bool (!y10)))], [], 0⟩ hP hN (by kernel_rfl) (allCons hg9 (allCons (f64_ok hc11) allNil)) ?_
      rcases of_bif hx6 with ⟨hb12, hx6⟩ | ⟨hb12, hx6⟩
      · refine HT.cond1 rfl hb12 ?_
        refine HT.reg1 [4] [⟨none, .no⟩] ⟨[(4, .one (.dat .bool false))], [], 0⟩ hP hN (by kernel_rfl) allNil ?_
        have hx6 := of_some hx6
        subst hx6
        refine (Le.cv (s := ⟨[], [], [], false⟩) (own := []) (ps := [false = false]) (st' := ⟨[(4, .one (.dat .bool false))], [], 0⟩) hO (fun h => by cases h) (by kernel_rfl) ⟨rfl, trivial⟩).ht ?_
        exact HT.ret (qBlockR (qThenR (qLoopR (hk7 (.inr ()) rfl))))
      · refine HT.cond0 rfl hb12 ?_
        refine HT.skip (qBlock (qThen ?_))
        have hx6 := of_some hx6
        subst hx6
        refine HT.reg (rs := [⟨none, .no⟩, ⟨none, .no⟩, ⟨none, .no⟩]) (st' := ⟨[(5, .one (.dat (.int .i64) (wadd .i64 s1 (1 : Int)))), (11, .one (.dat (.int .i64) (wadd .i64 s1 (1 : Int)))), (10, .one (.dat (.int .i64) s1)), (0, .one (.dat (.sl (.int .i64)) a0)), (1, .one (.dat (.int .i64) a1)), (5, .one (.dat (.int .i64) s1)), (19, .one (.dat .bool (!y10)))], [], 0⟩) hP hN (by kernel_rfl) allNil (qLoopN ⟨(wadd .i64 s1 (1 : Int)), rfl, Le.cv (s := ⟨[], [], [], false⟩) (own := []) (ps := [a0 = a0, a1 = a1, (wadd .i64 s1 (1 : Int)) = (wadd .i64 s1 (1 : Int))]) (st' := ⟨[(0, .one (.dat (.sl (.int .i64)) a0)), (1, .one (.dat (.int .i64) a1)), (5, .one (.dat (.int .i64) (wadd .i64 s1 (1 : Int))))], [], 0⟩) hO (fun h => by cases h) (by kernel_rfl) ⟨rfl, rfl, rfl, trivial⟩⟩)
    · refine HT.cond0 rfl hb8 ?_
      have hx6 := of_some hx6
      subst hx6
      refine (Le.cv (s := ⟨[], [], [], false⟩) (own := []) (ps := [a0 = a0]) (st' := ⟨[(0, .one (.dat (.sl (.int .i64)) a0))], [], 0⟩) hO (fun h => by cases h) (by kernel_rfl) ⟨rfl, trivial⟩).ht ?_
      exact HT.exit (qThenE (qLoopE (hk7 (.inl ()) rfl)))

noncomputable def spec_l02Share (a0 : Nat) : Option (Bool) :=
  (show Option (Bool) from
    bif (fge .f32 a0 (0 : Nat)) then
      some (fle .f32 a0 (1065353216 : Nat))
    else
      some false).bind fun v1 =>
  some v1

theorem f155_ok {a0 : Nat} {r : Bool} (hr : spec_l02Share a0 = some r) : CallOK Try.prog 155 [.imm (.flt .f32) a0] [⟨false, .bool, r⟩] [] := by
  unfold spec_l02Share at hr
  refine CallOK.of_body (ts := [(false, .bool)]) Try.func155 rfl (by kernel_rfl) (Nat.le_of_ble_eq_true (by kernel_rfl)) fun cx hP hN hO hF => ?_
  have hO : cx.own.map Prod.fst = [] := hO
  have hF := hF rfl
  show HT cx ⟨[(0, .one (.dat (.flt .f32) a0))], [], 0⟩ _ _
  refine HT.reg1 [0] [⟨none, .no⟩] ⟨[(0, .one (.dat (.flt .f32) a0))], [], 0⟩ hP hN (by kernel_rfl) allNil ?_
  obtain ⟨v1', hT3, hr⟩ := of_bind hr
  refine HT.join (fun (v1 : Bool) => ⟨[(2, .one (.dat .bool v1))], [], 0⟩) (fun v => v = v1') (fun v1 hv2 => ?_) (fun cont => ?_)
  · subst hv2
    have hr := of_some hr
    subst hr
    exact HT.ret ⟨[.one (.dat .bool v1)], [], [], by kernel_rfl, by kernel_rfl, rfl, by kernel_rfl, by kernel_rfl, trivial⟩
  · rcases of_bif hT3 with ⟨hb4, hT3⟩ | ⟨hb4, hT3⟩
    · refine HT.reg (rs := [⟨none, .no⟩, ⟨none, .no⟩, ⟨none, .no⟩, ⟨some true, .no⟩, ⟨some true, .no⟩, ⟨none, .tv true⟩, ⟨none, .no⟩]) (st' := ⟨[(2, .one (.dat .bool (fle .f32 a0 (1065353216 : Nat)))), (8, .one (.dat .bool (fle .f32 a0 (1065353216 : Nat)))), (7, .one (.dat .bool (fle .f32 a0 (1065353216 : Nat)))), (6, .one (.dat (.flt .f32) a0)), (5, .one (.dat .bool (fge .f32 a0 (0 : Nat)))), (4, .one (.dat .bool (fge .f32 a0 (0 : Nat)))), (3, .one (.dat (.flt .f32) a0)), (0, .one (.dat (.flt .f32) a0))], [], 0⟩) hP hN (by kernel_rfl) (allCons hb4 (allCons hb4 (allCons hb4 allNil))) (qThen ?_)
      exact (Le.cv (s := ⟨[], [], [], false⟩) (own := []) (ps := [(fle .f32 a0 (1065353216 : Nat)) = (fle .f32 a0 (1065353216 : Nat))]) (st' := ⟨[(2, .one (.dat .bool (fle .f32 a0 (1065353216 : Nat))))], [], 0⟩) hO (fun h => by cases h) (by kernel_rfl) ⟨rfl, trivial⟩).ht (cont (fle .f32 a0 (1065353216 : Nat)) (of_some hT3))
    · refine HT.reg (rs := [⟨none, .no⟩, ⟨none, .no⟩, ⟨none, .no⟩, ⟨some false, .no⟩, ⟨some false, .no⟩, ⟨none, .tv false⟩, ⟨none, .no⟩]) (st' := ⟨[(2, .one (.dat .bool false)), (8, .one (.dat .bool false)), (7, .und), (6, .und), (5, .one (.dat .bool (fge .f32 a0 (0 : Nat)))), (4, .one (.dat .bool (fge .f32 a0 (0 : Nat)))), (3, .one (.dat (.flt .f32) a0)), (0, .one (.dat (.flt .f32) a0))], [], 0⟩) hP hN (by kernel_rfl) (allCons hb4 (allCons hb4 (allCons hb4 allNil))) (qThen ?_)
      exact (Le.cv (s := ⟨[], [], [], false⟩) (own := []) (ps := [false = false]) (st' := ⟨[(2, .one (.dat .bool false))], [], 0⟩) hO (fun h => by cases h) (by kernel_rfl) ⟨rfl, trivial⟩).ht (cont false (of_some hT3))

noncomputable def spec_l03Row_B1 (a0 : List Nat) (s1 : Nat × Int) : Option ((Nat × Int) ⊕ (Nat ⊕ Unit)) :=
  bif (decide (s1.2 < (lenI a0))) then
    guardP ((0 : Int) ≤ s1.2 ∧ s1.2 < lenI a0) (
      (spec_l02Share (List.getD a0 (Int.toNat s1.2) (0 : Nat))).bind fun y14 =>
      bif (!y14) then
        some (.inr (.inr ()))
      else
        some (.inl ((fop .add .f32 s1.1 (List.getD a0 (Int.toNat s1.2) (0 : Nat))), (wadd .i64 s1.2 (1 : Int)))))
  else
    some (.inr (.inl s1.1))

noncomputable def spec_l03Row (a0 : List Nat) : Option (Bool) :=
  (rounds (spec_l03Row_B1 a0) ((0 : Nat), (0 : Int))).bind fun r2 => match r2 with
    | .inl r3 =>
      (show Option (Bool) from
        bif (fle .f32 (fop .sub .f32 r3 (1065353216 : Nat)) (981668463 : Nat)) then
          some (fge .f32 (fop .sub .f32 r3 (1065353216 : Nat)) (3129152111 : Nat))
        else
          some false).bind fun v4 =>
      some v4
    | .inr r8 =>
      some false

theorem f141_ok {a0 : List Nat} {r : Bool} (hr : spec_l03Row a0 = some r) : CallOK Try.prog 141 [.imm (.sl (.flt .f32)) a0] [⟨false, .bool, r⟩] [] := by
  unfold spec_l03Row at hr
  refine CallOK.of_body (ts := [(false, .bool)]) Try.func141 rfl (by kernel_rfl) (Nat.le_of_ble_eq_true (by kernel_rfl)) fun cx hP hN hO hF => ?_
  have hO : cx.own.map Prod.fst = [] := hO
  have hF := hF rfl
  show HT cx ⟨[(0, .one (.dat (.sl (.flt .f32)) a0))], [], 0⟩ _ _
  refine HT.reg1 [0] [⟨none, .no⟩] ⟨[(0, .one (.dat (.sl (.flt .f32)) a0))], [], 0⟩ hP hN (by kernel_rfl) allNil ?_
  refine HT.reg1 [0, 3] [⟨none, .no⟩] ⟨[(0, .one (.dat (.sl (.flt .f32)) a0)), (3, .one (.dat (.flt .f32) (0 : Nat)))], [], 0⟩ hP hN (by kernel_rfl) allNil ?_
  refine HT.seq ?_
  refine HT.reg1 [0, 3, 6, 7] [⟨none, .no⟩, ⟨none, .no⟩, ⟨none, .no⟩] ⟨[(0, .one (.dat (.sl (.flt .f32)) a0)), (3, .one (.dat (.flt .f32) (0 : Nat))), (6, .one (.dat (.int .i64) (lenI a0))), (7, .one (.dat (.int .i64) (0 : Int)))], [], 0⟩ hP hN (by kernel_rfl) allNil ?_
  refine HT.block ?_
  obtain ⟨r2, hL17, hr⟩ := of_bind hr
  refine (Le.cv (s := ⟨[], [], [], false⟩) (own := []) (ps := [a0 = a0, (0 : Nat) = (0 : Nat), (lenI a0) = (lenI a0), (0 : Int) = (0 : Int)]) (st' := ⟨[(0, .one (.dat (.sl (.flt .f32)) a0)), (3, .one (.dat (.flt .f32) (0 : Nat))), (6, .one (.dat (.int .i64) (lenI a0))), (7, .one (.dat (.int .i64) (0 : Int)))], [], 0⟩) hO (fun h => by cases h) (by kernel_rfl) ⟨rfl, rfl, rfl, rfl, trivial⟩).ht ?_
  refine HT.loopE (s := ((0 : Nat), (0 : Int))) (fun (s1 : Nat × Int) => ⟨[(0, .one (.dat (.sl (.flt .f32)) a0)), (3, .one (.dat (.flt .f32) s1.1)), (6, .one (.dat (.int .i64) (lenI a0))), (7, .one (.dat (.int .i64) s1.2))], [], 0⟩) (fun (r2 : Nat ⊕ Unit) => match r2 with | .inl r3 => (.exit 0, ⟨[(3, .one (.dat (.flt .f32) r3))], [], 0⟩) | .inr r8 => (.ret, ⟨[(2, .one (.dat .bool false))], [], 0⟩)) hL17 ?_ (fun s1 x9 hx10 hk11 => ?_)
  · rcases r2 with r3 | r8
    · refine (qBlockX (qThen ?_))
      obtain ⟨v4', hT6, hr⟩ := of_bind hr
      refine HT.join (fun (v4 : Bool) => ⟨[(2, .one (.dat .bool v4))], [], 0⟩) (fun v => v = v4') (fun v4 hv5 => ?_) (fun cont => ?_)
      · subst hv5
        have hr := of_some hr
        subst hr
        exact HT.ret ⟨[.one (.dat .bool v4)], [], [], by kernel_rfl, by kernel_rfl, rfl, by kernel_rfl, by kernel_rfl, trivial⟩
      · rcases of_bif hT6 with ⟨hb7, hT6⟩ | ⟨hb7, hT6⟩
        · refine HT.reg (rs := [⟨none, .no⟩, ⟨none, .no⟩, ⟨none, .no⟩, ⟨none, .no⟩, ⟨some true, .no⟩, ⟨some true, .no⟩, ⟨some true, .no⟩, ⟨none, .tv true⟩, ⟨none, .no⟩]) (st' := ⟨[(2, .one (.dat .bool (fge .f32 (fop .sub .f32 r3 (1065353216 : Nat)) (3129152111 : Nat)))), (30, .one (.dat .bool (fge .f32 (fop .sub .f32 r3 (1065353216 : Nat)) (3129152111 : Nat)))), (29, .one (.dat .bool (fge .f32 (fop .sub .f32 r3 (1065353216 : Nat)) (3129152111 : Nat)))), (28, .one (.dat (.flt .f32) (fop .sub .f32 r3 (1065353216 : Nat)))), (27, .one (.dat (.flt .f32) r3)), (26, .one (.dat .bool (fle .f32 (fop .sub .f32 r3 (1065353216 : Nat)) (981668463 : Nat)))), (25, .one (.dat .bool (fle .f32 (fop .sub .f32 r3 (1065353216 : Nat)) (981668463 : Nat)))), (24, .one (.dat (.flt .f32) (fop .sub .f32 r3 (1065353216 : Nat)))), (23, .one (.dat (.flt .f32) r3)), (3, .one (.dat (.flt .f32) r3))], [], 0⟩) hP hN (by kernel_rfl) (allCons hb7 (allCons hb7 (allCons hb7 (allCons hb7 allNil)))) (qThen ?_)
          exact (Le.cv (s := ⟨[], [], [], false⟩) (own := []) (ps := [(fge .f32 (fop .sub .f32 r3 (1065353216 : Nat)) (3129152111 : Nat)) = (fge .f32 (fop .sub .f32 r3 (1065353216 : Nat)) (3129152111 : Nat))]) (st' := ⟨[(2, .one (.dat .bool (fge .f32 (fop .sub .f32 r3 (1065353216 : Nat)) (3129152111 : Nat))))], [], 0⟩) hO (fun h => by cases h) (by kernel_rfl) ⟨rfl, trivial⟩).ht (cont (fge .f32 (fop .sub .f32 r3 (1065353216 : Nat)) (3129152111 : Nat)) (of_some hT6))
        · refine HT.reg (rs := [⟨none, .no⟩, ⟨none, .no⟩, ⟨none, .no⟩, ⟨none, .no⟩, ⟨some false, .no⟩, ⟨some false, .no⟩, ⟨some false, .no⟩, ⟨none, .tv false⟩, ⟨none, .no⟩]) (st' := ⟨[(2, .one (.dat .bool false)), (30, .one (.dat .bool false)), (29, .und), (28, .und), (27, .und), (26, .one (.dat .bool (fle .f32 (fop .sub .f32 r3 (1065353216 : Nat)) (981668463 : Nat)))), (25, .one (.dat .bool (fle .f32 (fop .sub .f32 r3 (1065353216 : Nat)) (981668463 : Nat)))), (24, .one (.dat (.flt .f32) (fop .sub .f32 r3 (1065353216 : Nat)))), (23, .one (.dat (.flt .f32) r3)), (3, .one (.dat (.flt .f32) r3))], [], 0⟩) hP hN (by kernel_rfl) (allCons hb7 (allCons hb7 (allCons hb7 (allCons hb7 allNil)))) (qThen ?_)
          exact (Le.cv (s := ⟨[], [], [], false⟩) (own := []) (ps := [false = false]) (st' := ⟨[(2, .one (.dat .bool false))], [], 0⟩) hO (fun h => by cases h) (by kernel_rfl) ⟨rfl, trivial⟩).ht (cont false (of_some hT6))
    · have hr := of_some hr
      subst hr
      exact (qBlockR (qThenR ⟨[.one (.dat .bool false)], [], [], by kernel_rfl, by kernel_rfl, rfl, by kernel_rfl, by kernel_rfl, trivial⟩))
  · refine HT.reg1 [0, 3, 6, 7, 8] [⟨none, .no⟩] ⟨[(0, .one (.dat (.sl (.flt .f32)) a0)), (3, .one (.dat (.flt .f32) s1.1)), (6, .one (.dat (.int .i64) (lenI a0))), (7, .one (.dat (.int .i64) s1.2)), (8, .one (.dat .bool (decide (s1.2 < (lenI a0)))))], [], 0⟩ hP hN (by kernel_rfl) allNil ?_
    refine HT.seq ?_
    rcases of_bif hx10 with ⟨hb12, hx10⟩ | ⟨hb12, hx10⟩
    · refine HT.cond1 rfl hb12 ?_
      refine HT.skip (qThen ?_)
      refine HT.seq ?_
      refine HT.block ?_
      refine HT.reg1 [0, 3, 4, 6, 7] [⟨none, .no⟩, ⟨none, .no⟩] ⟨[(0, .one (.dat (.sl (.flt .f32)) a0)), (3, .one (.dat (.flt .f32) s1.1)), (4, .one (.dat (.int .i64) s1.2)), (6, .one (.dat (.int .i64) (lenI a0))), (7, .one (.dat (.int .i64) s1.2))], [], 0⟩ hP hN (by kernel_rfl) allNil ?_
      refine HT.seq ?_
      obtain ⟨hg13, hx10⟩ := of_guard hx10
      obtain ⟨y14, hc15, hx10⟩ := of_bind hx10
      refine HT.reg1 [0, 3, 4, 6, 7, 15] [⟨none, .no⟩, ⟨none, .no⟩, ⟨none, .no⟩, ⟨none, .no⟩, ⟨none, .call [.imm (.flt .f32)] [⟨false, .bool, y14⟩] []⟩, ⟨none, .no⟩] ⟨[(0, .one (.dat (.sl (.flt .f32)) a0)), (3, .one (.dat (.flt .f32) s1.1)), (4, .one (.dat (.int .i64) s1.2)), (6, .one (.dat (.int .i64) (lenI a0))), (7, .one (.dat (.int .i64) s1.2)), (15, .one (.dat .bool (!y14)))], [], 0⟩ hP hN (by kernel_rfl) (allCons hg13 (allCons (f155_ok hc15) allNil)) ?_
      rcases of_bif hx10 with ⟨hb16, hx10⟩ | ⟨hb16, hx10⟩
      · refine HT.cond1 rfl hb16 ?_
        refine HT.reg1 [2] [⟨none, .no⟩] ⟨[(2, .one (.dat .bool false))], [], 0⟩ hP hN (by kernel_rfl) allNil ?_
        have hx10 := of_some hx10
        subst hx10
        refine (Le.cv (s := ⟨[], [], [], false⟩) (own := []) (ps := [false = false]) (st' := ⟨[(2, .one (.dat .bool false))], [], 0⟩) hO (fun h => by cases h) (by kernel_rfl) ⟨rfl, trivial⟩).ht ?_
        exact HT.ret (qThenR (qBlockR (qThenR (qLoopR (hk11 (.inr ()) rfl)))))
      · refine HT.cond0 rfl hb16 ?_
        refine HT.skip (qThen ?_)
        refine HT.reg (rs := [⟨none, .no⟩, ⟨none, .no⟩, ⟨none, .no⟩, ⟨none, .no⟩, ⟨none, .no⟩, ⟨none, .no⟩, ⟨none, .no⟩]) (st' := ⟨[(3, .one (.dat (.flt .f32) (fop .add .f32 s1.1 (List.getD a0 (Int.toNat s1.2) (0 : Nat))))), (21, .one (.dat (.flt .f32) (fop .add .f32 s1.1 (List.getD a0 (Int.toNat s1.2) (0 : Nat))))), (20, .one (.dat (.flt .f32) (List.getD a0 (Int.toNat s1.2) (0 : Nat)))), (19, .one (.ip (.flt .f32) (List.getD a0 (Int.toNat s1.2) (0 : Nat)) 0)), (18, .one (.dat (.int .i64) s1.2)), (17, .one (.dat (.sl (.flt .f32)) a0)), (16, .one (.dat (.flt .f32) s1.1)), (0, .one (.dat (.sl (.flt .f32)) a0)), (3, .one (.dat (.flt .f32) s1.1)), (4, .one (.dat (.int .i64) s1.2)), (6, .one (.dat (.int .i64) (lenI a0))), (7, .one (.dat (.int .i64) s1.2)), (15, .one (.dat .bool (!y14)))], [], 0⟩) hP hN (by kernel_rfl) (allCons hg13 allNil) (qBlock (qThen ?_))
        have hx10 := of_some hx10
        subst hx10
        refine HT.reg (rs := [⟨none, .no⟩, ⟨none, .no⟩]) (st' := ⟨[(7, .one (.dat (.int .i64) (wadd .i64 s1.2 (1 : Int)))), (22, .one (.dat (.int .i64) (wadd .i64 s1.2 (1 : Int)))), (3, .one (.dat (.flt .f32) (fop .add .f32 s1.1 (List.getD a0 (Int.toNat s1.2) (0 : Nat))))), (21, .one (.dat (.flt .f32) (fop .add .f32 s1.1 (List.getD a0 (Int.toNat s1.2) (0 : Nat))))), (20, .one (.dat (.flt .f32) (List.getD a0 (Int.toNat s1.2) (0 : Nat)))), (19, .one (.ip (.flt .f32) (List.getD a0 (Int.toNat s1.2) (0 : Nat)) 0)), (18, .one (.dat (.int .i64) s1.2)), (17, .one (.dat (.sl (.flt .f32)) a0)), (16, .one (.dat (.flt .f32) s1.1)), (0, .one (.dat (.sl (.flt .f32)) a0)), (3, .one (.dat (.flt .f32) s1.1)), (4, .one (.dat (.int .i64) s1.2)), (6, .one (.dat (.int .i64) (lenI a0))), (7, .one (.dat (.int .i64) s1.2)), (15, .one (.dat .bool (!y14)))], [], 0⟩) hP hN (by kernel_rfl) allNil (qLoopN ⟨((fop .add .f32 s1.1 (List.getD a0 (Int.toNat s1.2) (0 : Nat))), (wadd .i64 s1.2 (1 : Int))), rfl, Le.cv (s := ⟨[], [], [], false⟩) (own := []) (ps := [a0 = a0, (fop .add .f32 s1.1 (List.getD a0 (Int.toNat s1.2) (0 : Nat))) = (fop .add .f32 s1.1 (List.getD a0 (Int.toNat s1.2) (0 : Nat))), (lenI a0) = (lenI a0), (wadd .i64 s1.2 (1 : Int)) = (wadd .i64 s1.2 (1 : Int))]) (st' := ⟨[(0, .one (.dat (.sl (.flt .f32)) a0)), (3, .one (.dat (.flt .f32) (fop .add .f32 s1.1 (List.getD a0 (Int.toNat s1.2) (0 : Nat))))), (6, .one (.dat (.int .i64) (lenI a0))), (7, .one (.dat (.int .i64) (wadd .i64 s1.2 (1 : Int))))], [], 0⟩) hO (fun h => by cases h) (by kernel_rfl) ⟨rfl, rfl, rfl, rfl, trivial⟩⟩)
    · refine HT.cond0 rfl hb12 ?_
      have hx10 := of_some hx10
      subst hx10
      refine (Le.cv (s := ⟨[], [], [], false⟩) (own := []) (ps := [s1.1 = s1.1]) (st' := ⟨[(3, .one (.dat (.flt .f32) s1.1))], [], 0⟩) hO (fun h => by cases h) (by kernel_rfl) ⟨rfl, trivial⟩).ht ?_
      exact HT.exit (qThenE (qLoopE (hk11 (.inl s1.1) rfl)))

noncomputable def spec_l03Is_B1 (a0 : Int × Int × List Nat × List Nat × List Nat) (s5 : Int) : Option ((Int) ⊕ (Unit ⊕ Unit)) :=
  bif (decide (s5 < a0.1)) then
    (show Option (Bool) from
      guardP ((0 : Int) ≤ (wmul .i64 s5 a0.1) ∧ (wmul .i64 s5 a0.1) ≤ (wadd .i64 (wmul .i64 s5 a0.1) a0.1) ∧ (wadd .i64 (wmul .i64 s5 a0.1) a0.1) ≤ lenI a0.2.2.2.1) (
        (spec_l03Row (cut a0.2.2.2.1 (wmul .i64 s5 a0.1) (wadd .i64 (wmul .i64 s5 a0.1) a0.1))).bind fun y18 =>
        bif (!y18) then
          some true
        else
          guardP ((0 : Int) ≤ (wmul .i64 s5 a0.2.1) ∧ (wmul .i64 s5 a0.2.1) ≤ (wadd .i64 (wmul .i64 s5 a0.2.1) a0.2.1) ∧ (wadd .i64 (wmul .i64 s5 a0.2.1) a0.2.1) ≤ lenI a0.2.2.2.2) (
            (spec_l03Row (cut a0.2.2.2.2 (wmul .i64 s5 a0.2.1) (wadd .i64 (wmul .i64 s5 a0.2.1) a0.2.1))).bind fun y22 =>
            some (!y22)))).bind fun v13 =>
    bif v13 then
      some (.inr (.inr ()))
    else
      some (.inl (wadd .i64 s5 (1 : Int)))
  else
    some (.inr (.inl ()))

noncomputable def spec_l03Is (a0 : Int × Int × List Nat × List Nat × List Nat) : Option (Bool) :=
  (show Option (Bool) from
    (spec_l00In a0.1 (1 : Int) (5 : Int)).bind fun y25 =>
    bif (!y25) then
      some true
    else
      (spec_l00In a0.2.1 (1 : Int) (4 : Int)).bind fun y28 =>
      bif (!y28) then
        some true
      else
        bif ((lenI a0.2.2.1) != a0.1) then
          some true
        else
          bif ((lenI a0.2.2.2.1) != (wmul .i64 a0.1 a0.1)) then
            some true
          else
            bif ((lenI a0.2.2.2.2) != (wmul .i64 a0.1 a0.2.1)) then
              some true
            else
              (spec_l03Row a0.2.2.1).bind fun y34 =>
              some (!y34)).bind fun v1 =>
  bif v1 then
    some false
  else
    (rounds (spec_l03Is_B1 a0) (0 : Int)).bind fun r6 => match r6 with
      | .inl r7 =>
        some true
      | .inr r8 =>
        some false

theorem f116_ok {a0 : Int × Int × List Nat × List Nat × List Nat} {r : Bool} (hr : spec_l03Is a0 = some r) : CallOK Try.prog 116 [.pimm (.st (.pair (.int .i64) (.pair (.int .i64) (.pair (.sl (.flt .f32)) (.pair (.sl (.flt .f32)) (.sl (.flt .f32))))))) a0] [⟨false, .bool, r⟩] [] := by
  unfold spec_l03Is at hr
  refine CallOK.of_body (ts := [(false, .bool)]) Try.func116 rfl (by kernel_rfl) (Nat.le_of_ble_eq_true (by kernel_rfl)) fun cx hP hN hO hF => ?_
  have hO : cx.own.map Prod.fst = [] := hO
  have hF := hF rfl
  show HT cx ⟨[(0, .one (.ip (.st (.pair (.int .i64) (.pair (.int .i64) (.pair (.sl (.flt .f32)) (.pair (.sl (.flt .f32)) (.sl (.flt .f32))))))) a0 0))], [], 0⟩ _ _
  refine HT.reg1 [0] [⟨none, .no⟩] ⟨[(0, .one (.ip (.st (.pair (.int .i64) (.pair (.int .i64) (.pair (.sl (.flt .f32)) (.pair (.sl (.flt .f32)) (.sl (.flt .f32))))))) a0 0))], [], 0⟩ hP hN (by kernel_rfl) allNil ?_
  refine HT.reg1 [0, 3] [⟨none, .no⟩, ⟨none, .no⟩, ⟨none, .no⟩, ⟨none, .no⟩, ⟨none, .no⟩] ⟨[(0, .one (.ip (.st (.pair (.int .i64) (.pair (.int .i64) (.pair (.sl (.flt .f32)) (.pair (.sl (.flt .f32)) (.sl (.flt .f32))))))) a0 0)), (3, .one (.dat (.int .i64) a0.1))], [], 0⟩ hP hN (by kernel_rfl) allNil ?_
  refine HT.reg1 [0, 3, 4] [⟨none, .no⟩, ⟨none, .no⟩, ⟨none, .no⟩, ⟨none, .no⟩, ⟨none, .no⟩] ⟨[(0, .one (.ip (.st (.pair (.int .i64) (.pair (.int .i64) (.pair (.sl (.flt .f32)) (.pair (.sl (.flt .f32)) (.sl (.flt .f32))))))) a0 0)), (3, .one (.dat (.int .i64) a0.1)), (4, .one (.dat (.int .i64) a0.2.1))], [], 0⟩ hP hN (by kernel_rfl) allNil ?_
  refine HT.seq ?_
  obtain ⟨v1', hT3, hr⟩ := of_bind hr
  refine HT.join (fun (v1 : Bool) => ⟨[(0, .one (.ip (.st (.pair (.int .i64) (.pair (.int .i64) (.pair (.sl (.flt .f32)) (.pair (.sl (.flt .f32)) (.sl (.flt .f32))))))) a0 0)), (3, .one (.dat (.int .i64) a0.1)), (4, .one (.dat (.int .i64) a0.2.1)), (60, .one (.dat .bool v1))], [], 0⟩) (fun v => v = v1') (fun v1 hv2 => ?_) (fun cont => ?_)
  · subst hv2
    rcases of_bif hr with ⟨hb4, hr⟩ | ⟨hb4, hr⟩
    · refine HT.cond1 rfl hb4 ?_
      refine HT.reg1 [2] [⟨none, .no⟩] ⟨[(2, .one (.dat .bool false))], [], 0⟩ hP hN (by kernel_rfl) allNil ?_
      have hr := of_some hr
      subst hr
      exact HT.ret (qThenR ⟨[.one (.dat .bool false)], [], [], by kernel_rfl, by kernel_rfl, rfl, by kernel_rfl, by kernel_rfl, trivial⟩)
    · refine HT.cond0 rfl hb4 ?_
      refine HT.skip (qThen ?_)
      refine HT.seq ?_
      refine HT.reg1 [0, 3, 4, 5] [⟨none, .no⟩] ⟨[(0, .one (.ip (.st (.pair (.int .i64) (.pair (.int .i64) (.pair (.sl (.flt .f32)) (.pair (.sl (.flt .f32)) (.sl (.flt .f32))))))) a0 0)), (3, .one (.dat (.int .i64) a0.1)), (4, .one (.dat (.int .i64) a0.2.1)), (5, .one (.dat (.int .i64) (0 : Int)))], [], 0⟩ hP hN (by kernel_rfl) allNil ?_
      refine HT.block ?_
      obtain ⟨r6, hL24, hr⟩ := of_bind hr
      refine (Le.cv (s := ⟨[], [], [], false⟩) (own := []) (ps := [a0 = a0, a0.1 = a0.1, a0.2.1 = a0.2.1, (0 : Int) = (0 : Int)]) (st' := ⟨[(0, .one (.ip (.st (.pair (.int .i64) (.pair (.int .i64) (.pair (.sl (.flt .f32)) (.pair (.sl (.flt .f32)) (.sl (.flt .f32))))))) a0 0)), (3, .one (.dat (.int .i64) a0.1)), (4, .one (.dat (.int .i64) a0.2.1)), (5, .one (.dat (.int .i64) (0 : Int)))], [], 0⟩) hO (fun h => by cases h) (by kernel_rfl) ⟨rfl, rfl, rfl, rfl, trivial⟩).ht ?_
      refine HT.loopE (s := (0 : Int)) (fun (s5 : Int) => ⟨[(0, .one (.ip (.st (.pair (.int .i64) (.pair (.int .i64) (.pair (.sl (.flt .f32)) (.pair (.sl (.flt .f32)) (.sl (.flt .f32))))))) a0 0)), (3, .one (.dat (.int .i64) a0.1)), (4, .one (.dat (.int .i64) a0.2.1)), (5, .one (.dat (.int .i64) s5))], [], 0⟩) (fun (r6 : Unit ⊕ Unit) => match r6 with | .inl r7 => (.exit 0, ⟨[], [], 0⟩) | .inr r8 => (.ret, ⟨[(2, .one (.dat .bool false))], [], 0⟩)) hL24 ?_ (fun s5 x9 hx10 hk11 => ?_)
      · rcases r6 with r7 | r8
        · refine (qBlockX (qThen ?_))
          refine HT.reg1 [2] [⟨none, .no⟩] ⟨[(2, .one (.dat .bool true))], [], 0⟩ hP hN (by kernel_rfl) allNil ?_
          have hr := of_some hr
          subst hr
          exact HT.ret ⟨[.one (.dat .bool true)], [], [], by kernel_rfl, by kernel_rfl, rfl, by kernel_rfl, by kernel_rfl, trivial⟩
        · have hr := of_some hr
          subst hr
          exact (qBlockR (qThenR ⟨[.one (.dat .bool false)], [], [], by kernel_rfl, by kernel_rfl, rfl, by kernel_rfl, by kernel_rfl, trivial⟩))
      · refine HT.seq ?_
        refine HT.reg1 [0, 3, 4, 5, 63] [⟨none, .no⟩, ⟨none, .no⟩, ⟨none, .no⟩] ⟨[(0, .one (.ip (.st (.pair (.int .i64) (.pair (.int .i64) (.pair (.sl (.flt .f32)) (.pair (.sl (.flt .f32)) (.sl (.flt .f32))))))) a0 0)), (3, .one (.dat (.int .i64) a0.1)), (4, .one (.dat (.int .i64) a0.2.1)), (5, .one (.dat (.int .i64) s5)), (63, .one (.dat .bool (decide (s5 < a0.1))))], [], 0⟩ hP hN (by kernel_rfl) allNil ?_
        rcases of_bif hx10 with ⟨hb12, hx10⟩ | ⟨hb12, hx10⟩
        · refine HT.cond1 rfl hb12 ?_
          refine HT.skip (qThen ?_)
          refine HT.seq ?_
          refine HT.block ?_
          obtain ⟨v13', hT15, hx10⟩ := of_bind hx10
          refine HT.join (fun (v13 : Bool) => ⟨[(0, .one (.ip (.st (.pair (.int .i64) (.pair (.int .i64) (.pair (.sl (.flt .f32)) (.pair (.sl (.flt .f32)) (.sl (.flt .f32))))))) a0 0)), (3, .one (.dat (.int .i64) a0.1)), (4, .one (.dat (.int .i64) a0.2.1)), (5, .one (.dat (.int .i64) s5)), (97, .one (.dat .bool v13))], [], 0⟩) (fun v => v = v13') (fun v13 hv14 => ?_) (fun cont => ?_)
          · subst hv14
            rcases of_bif hx10 with ⟨hb16, hx10⟩ | ⟨hb16, hx10⟩
            · refine HT.cond1 rfl hb16 ?_
              refine HT.reg1 [2] [⟨none, .no⟩] ⟨[(2, .one (.dat .bool false))], [], 0⟩ hP hN (by kernel_rfl) allNil ?_
              have hx10 := of_some hx10
              subst hx10
              refine (Le.cv (s := ⟨[], [], [], false⟩) (own := []) (ps := [false = false]) (st' := ⟨[(2, .one (.dat .bool false))], [], 0⟩) hO (fun h => by cases h) (by kernel_rfl) ⟨rfl, trivial⟩).ht ?_
              exact HT.ret (qBlockR (qThenR (qLoopR (hk11 (.inr ()) rfl))))
            · refine HT.cond0 rfl hb16 ?_
              refine HT.skip (qBlock (qThen ?_))
              have hx10 := of_some hx10
              subst hx10
              refine HT.reg (rs := [⟨none, .no⟩, ⟨none, .no⟩, ⟨none, .no⟩]) (st' := ⟨[(5, .one (.dat (.int .i64) (wadd .i64 s5 (1 : Int)))), (65, .one (.dat (.int .i64) (wadd .i64 s5 (1 : Int)))), (64, .one (.dat (.int .i64) s5)), (0, .one (.ip (.st (.pair (.int .i64) (.pair (.int .i64) (.pair (.sl (.flt .f32)) (.pair (.sl (.flt .f32)) (.sl (.flt .f32))))))) a0 0)), (3, .one (.dat (.int .i64) a0.1)), (4, .one (.dat (.int .i64) a0.2.1)), (5, .one (.dat (.int .i64) s5)), (97, .one (.dat .bool v13))], [], 0⟩) hP hN (by kernel_rfl) allNil (qLoopN ⟨(wadd .i64 s5 (1 : Int)), rfl, Le.cv (s := ⟨[], [], [], false⟩) (own := []) (ps := [a0 = a0, a0.1 = a0.1, a0.2.1 = a0.2.1, (wadd .i64 s5 (1 : Int)) = (wadd .i64 s5 (1 : Int))]) (st' := ⟨[(0, .one (.ip (.st (.pair (.int .i64) (.pair (.int .i64) (.pair (.sl (.flt .f32)) (.pair (.sl (.flt .f32)) (.sl (.flt .f32))))))) a0 0)), (3, .one (.dat (.int .i64) a0.1)), (4, .one (.dat (.int .i64) a0.2.1)), (5, .one (.dat (.int .i64) (wadd .i64 s5 (1 : Int))))], [], 0⟩) hO (fun h => by cases h) (by kernel_rfl) ⟨rfl, rfl, rfl, rfl, trivial⟩⟩)
          · obtain ⟨hg17, hT15⟩ := of_guard hT15
            obtain ⟨y18, hc19, hT15⟩ := of_bind hT15
            rcases of_bif hT15 with ⟨hb20, hT15⟩ | ⟨hb20, hT15⟩
            · refine HT.reg (rs := [⟨none, .no⟩, ⟨none, .no⟩, ⟨none, .no⟩, ⟨none, .no⟩, ⟨none, .no⟩, ⟨none, .no⟩, ⟨none, .no⟩, ⟨none, .no⟩, ⟨none, .no⟩, ⟨none, .no⟩, ⟨none, .no⟩, ⟨none, .no⟩, ⟨none, .no⟩, ⟨none, .call [.imm (.sl (.flt .f32))] [⟨false, .bool, y18⟩] []⟩, ⟨none, .no⟩, ⟨none, .no⟩, ⟨some true, .no⟩, ⟨some true, .no⟩, ⟨some true, .no⟩, ⟨some true, .no⟩, ⟨some true, .no⟩, ⟨some true, .no⟩, ⟨some true, .no⟩, ⟨some true, .no⟩, ⟨some true, .no⟩, ⟨some true, .no⟩, ⟨some true, .no⟩, ⟨some true, .no⟩, ⟨some true, .no⟩, ⟨some true, .no⟩, ⟨some true, .no⟩, ⟨none, .tv true⟩]) (st' := ⟨[(97, .one (.dat .bool true)), (96, .und), (95, .und), (94, .und), (93, .und), (92, .und), (91, .und), (90, .und), (89, .und), (88, .und), (87, .und), (86, .und), (85, .und), (84, .und), (83, .und), (82, .und), (81, .one (.dat .bool (!y18))), (80, .one (.dat .bool (!y18))), (79, .one (.dat .bool y18)), (78, .one (.dat (.sl (.flt .f32)) (cut a0.2.2.2.1 (wmul .i64 s5 a0.1) (wadd .i64 (wmul .i64 s5 a0.1) a0.1)))), (77, .one (.dat (.int .i64) (wadd .i64 (wmul .i64 s5 a0.1) a0.1))), (76, .one (.dat (.int .i64) a0.1)), (75, .one (.dat (.int .i64) (wmul .i64 s5 a0.1))), (74, .one (.dat (.int .i64) a0.1)), (73, .one (.dat (.int .i64) s5)), (72, .one (.dat (.int .i64) (wmul .i64 s5 a0.1))), (71, .one (.dat (.int .i64) a0.1)), (70, .one (.dat (.int .i64) s5)), (69, .one (.dat (.sl (.flt .f32)) a0.2.2.2.1)), (68, .one (.ip (.st (.pair (.int .i64) (.pair (.int .i64) (.pair (.sl (.flt .f32)) (.pair (.sl (.flt .f32)) (.sl (.flt .f32))))))) a0 3)), (67, .one (.ip (.st (.pair (.int .i64) (.pair (.int .i64) (.pair (.sl (.flt .f32)) (.pair (.sl (.flt .f32)) (.sl (.flt .f32))))))) a0 0)), (66, .one (.ip (.st (.pair (.int .i64) (.pair (.int .i64) (.pair (.sl (.flt .f32)) (.pair (.sl (.flt .f32)) (.sl (.flt .f32))))))) a0 0)), (0, .one (.ip (.st (.pair (.int .i64) (.pair (.int .i64) (.pair (.sl (.flt .f32)) (.pair (.sl (.flt .f32)) (.sl (.flt .f32))))))) a0 0)), (3, .one (.dat (.int .i64) a0.1)), (4, .one (.dat (.int .i64) a0.2.1)), (5, .one (.dat (.int .i64) s5)), (63, .one (.dat .bool (decide (s5 < a0.1))))], [], 0⟩) hP hN (by kernel_rfl) (allCons hg17 (allCons (f141_ok hc19) (allCons hb20 (allCons hb20 (allCons hb20 (allCons hb20 (allCons hb20 (allCons hb20 (allCons hb20 (allCons hb20 (allCons hb20 (allCons hb20 (allCons hb20 (allCons hb20 (allCons hb20 (allCons hb20 (allCons hb20 (allCons hb20 allNil)))))))))))))))))) (qThen ?_)
              exact (Le.cv (s := ⟨[], [], [], false⟩) (own := []) (ps := [a0 = a0, a0.1 = a0.1, a0.2.1 = a0.2.1, s5 = s5, true = true]) (st' := ⟨[(0, .one (.ip (.st (.pair (.int .i64) (.pair (.int .i64) (.pair (.sl (.flt .f32)) (.pair (.sl (.flt .f32)) (.sl (.flt .f32))))))) a0 0)), (3, .one (.dat (.int .i64) a0.1)), (4, .one (.dat (.int .i64) a0.2.1)), (5, .one (.dat (.int .i64) s5)), (97, .one (.dat .bool true))], [], 0⟩) hO (fun h => by cases h) (by kernel_rfl) ⟨rfl, rfl, rfl, rfl, rfl, trivial⟩).ht (cont true (of_some hT15))
            · obtain ⟨hg21, hT15⟩ := of_guard hT15
              obtain ⟨y22, hc23, hT15⟩ := of_bind hT15
              refine HT.reg (rs := [⟨none, .no⟩, ⟨none, .no⟩, ⟨none, .no⟩, ⟨none, .no⟩, ⟨none, .no⟩, ⟨none, .no⟩, ⟨none, .no⟩, ⟨none, .no⟩, ⟨none, .no⟩, ⟨none, .no⟩, ⟨none, .no⟩, ⟨none, .no⟩, ⟨none, .no⟩, ⟨none, .call [.imm (.sl (.flt .f32))] [⟨false, .bool, y18⟩] []⟩, ⟨none, .no⟩, ⟨none, .no⟩, ⟨some false, .no⟩, ⟨some false, .no⟩, ⟨some false, .no⟩, ⟨some false, .no⟩, ⟨some false, .no⟩, ⟨some false, .no⟩, ⟨some false, .no⟩, ⟨some false, .no⟩, ⟨some false, .no⟩, ⟨some false, .no⟩, ⟨some false, .no⟩, ⟨some false, .no⟩, ⟨some false, .no⟩, ⟨some false, .call [.imm (.sl (.flt .f32))] [⟨false, .bool, y22⟩] []⟩, ⟨some false, .no⟩, ⟨none, .tv false⟩]) (st' := ⟨[(97, .one (.dat .bool (!y22))), (96, .one (.dat .bool (!y22))), (95, .one (.dat .bool y22)), (94, .one (.dat (.sl (.flt .f32)) (cut a0.2.2.2.2 (wmul .i64 s5 a0.2.1) (wadd .i64 (wmul .i64 s5 a0.2.1) a0.2.1)))), (93, .one (.dat (.int .i64) (wadd .i64 (wmul .i64 s5 a0.2.1) a0.2.1))), (92, .one (.dat (.int .i64) a0.2.1)), (91, .one (.dat (.int .i64) (wmul .i64 s5 a0.2.1))), (90, .one (.dat (.int .i64) a0.2.1)), (89, .one (.dat (.int .i64) s5)), (88, .one (.dat (.int .i64) (wmul .i64 s5 a0.2.1))), (87, .one (.dat (.int .i64) a0.2.1)), (86, .one (.dat (.int .i64) s5)), (85, .one (.dat (.sl (.flt .f32)) a0.2.2.2.2)), (84, .one (.ip (.st (.pair (.int .i64) (.pair (.int .i64) (.pair (.sl (.flt .f32)) (.pair (.sl (.flt .f32)) (.sl (.flt .f32))))))) a0 4)), (83, .one (.ip (.st (.pair (.int .i64) (.pair (.int .i64) (.pair (.sl (.flt .f32)) (.pair (.sl (.flt .f32)) (.sl (.flt .f32))))))) a0 0)), (82, .one (.ip (.st (.pair (.int .i64) (.pair (.int .i64) (.pair (.sl (.flt .f32)) (.pair (.sl (.flt .f32)) (.sl (.flt .f32))))))) a0 0)), (81, .one (.dat .bool (!y18))), (80, .one (.dat .bool (!y18))), (79, .one (.dat .bool y18)), (78, .one (.dat (.sl (.flt .f32)) (cut a0.2.2.2.1 (wmul .i64 s5 a0.1) (wadd .i64 (wmul .i64 s5 a0.1) a0.1)))), (77, .one (.dat (.int .i64) (wadd .i64 (wmul .i64 s5 a0.1) a0.1))), (76, .one (.dat (.int .i64) a0.1)), (75, .one (.dat (.int .i64) (wmul .i64 s5 a0.1))), (74, .one (.dat (.int .i64) a0.1)), (73, .one (.dat (.int .i64) s5)), (72, .one (.dat (.int .i64) (wmul .i64 s5 a0.1))), (71, .one (.dat (.int .i64) a0.1)), (70, .one (.dat (.int .i64) s5)), (69, .one (.dat (.sl (.flt .f32)) a0.2.2.2.1)), (68, .one (.ip (.st (.pair (.int .i64) (.pair (.int .i64) (.pair (.sl (.flt .f32)) (.pair (.sl (.flt .f32)) (.sl (.flt .f32))))))) a0 3)), (67, .one (.ip (.st (.pair (.int .i64) (.pair (.int .i64) (.pair (.sl (.flt .f32)) (.pair (.sl (.flt .f32)) (.sl (.flt .f32))))))) a0 0)), (66, .one (.ip (.st (.pair (.int .i64) (.pair (.int .i64) (.pair (.sl (.flt .f32)) (.pair (.sl (.flt .f32)) (.sl (.flt .f32))))))) a0 0)), (0, .one (.ip (.st (.pair (.int .i64) (.pair (.int .i64) (.pair (.sl (.flt .f32)) (.pair (.sl (.flt .f32)) (.sl (.flt .f32))))))) a0 0)), (3, .one (.dat (.int .i64) a0.1)), (4, .one (.dat (.int .i64) a0.2.1)), (5, .one (.dat (.int .i64) s5)), (63, .one (.dat .bool (decide (s5 < a0.1))))], [], 0⟩) hP hN (by kernel_rfl) (allCons hg17 (allCons (f141_ok hc19) (allCons hb20 (allCons hb20 (allCons hb20 (allCons hb20 (allCons hb20 (allCons hb20 (allCons hb20 (allCons hb20 (allCons hb20 (allCons hb20 (allCons hb20 (allCons hb20 (allCons hb20 (allCons hg21 (allCons hb20 (allCons (f141_ok hc23) (allCons hb20 (allCons hb20 allNil)))))))))))))))))))) (qThen ?_)
              exact (Le.cv (s := ⟨[], [], [], false⟩) (own := []) (ps := [a0 = a0, a0.1 = a0.1, a0.2.1 = a0.2.1, s5 = s5, (!y22) = (!y22)]) (st' := ⟨[(0, .one (.ip (.st (.pair (.int .i64) (.pair (.int .i64) (.pair (.sl (.flt .f32)) (.pair (.sl (.flt .f32)) (.sl (.flt .f32))))))) a0 0)), (3, .one (.dat (.int .i64) a0.1)), (4, .one (.dat (.int .i64) a0.2.1)), (5, .one (.dat (.int .i64) s5)), (97, .one (.dat .bool (!y22)))], [], 0⟩) hO (fun h => by cases h) (by kernel_rfl) ⟨rfl, rfl, rfl, rfl, rfl, trivial⟩).ht (cont (!y22) (of_some hT15))
        · refine HT.cond0 rfl hb12 ?_
          have hx10 := of_some hx10
          subst hx10
          refine (Le.cv (s := ⟨[], [], [], false⟩) (own := []) (ps := []) (st' := ⟨[], [], 0⟩) hO (fun h => by cases h) (by kernel_rfl) trivial).ht ?_
          exact HT.exit (qThenE (qLoopE (hk11 (.inl ()) rfl)))
  · obtain ⟨y25, hc26, hT3⟩ := of_bind hT3
    rcases of_bif hT3 with ⟨hb27, hT3⟩ | ⟨hb27, hT3⟩
    · refine HT.reg (rs := [⟨none, .no⟩, ⟨none, .call [.imm (.int .i64), .imm (.int .i64), .imm (.int .i64)] [⟨false, .bool, y25⟩] []⟩, ⟨none, .no⟩, ⟨none, .no⟩, ⟨some true, .no⟩, ⟨some true, .no⟩, ⟨some true, .no⟩, ⟨none, .tv true⟩, ⟨none, .no⟩, ⟨some true, .no⟩, ⟨some true, .no⟩, ⟨some true, .no⟩, ⟨some true, .no⟩, ⟨some true, .no⟩, ⟨some true, .no⟩, ⟨some true, .no⟩, ⟨none, .tv true⟩, ⟨none, .no⟩, ⟨some true, .no⟩, ⟨some true, .no⟩, ⟨some true, .no⟩, ⟨some true, .no⟩, ⟨some true, .no⟩, ⟨some true, .no⟩, ⟨some true, .no⟩, ⟨some true, .no⟩, ⟨some true, .no⟩, ⟨none, .tv true⟩, ⟨none, .no⟩, ⟨some true, .no⟩, ⟨some true, .no⟩, ⟨some true, .no⟩, ⟨some true, .no⟩, ⟨some true, .no⟩, ⟨some true, .no⟩, ⟨some true, .no⟩, ⟨some true, .no⟩, ⟨some true, .no⟩, ⟨none, .tv true⟩, ⟨none, .no⟩, ⟨some true, .no⟩, ⟨some true, .no⟩, ⟨some true, .no⟩, ⟨some true, .no⟩, ⟨some true, .no⟩, ⟨some true, .no⟩, ⟨none, .tv true⟩]) (st' := ⟨[(60, .one (.dat .bool true)), (59, .und), (58, .und), (57, .und), (56, .und), (55, .und), (54, .und), (53, .one (.dat .bool true)), (52, .one (.dat .bool true)), (51, .und), (50, .und), (49, .und), (48, .und), (47, .und), (46, .und), (45, .und), (44, .und), (43, .und), (42, .one (.dat .bool true)), (41, .one (.dat .bool true)), (40, .und), (39, .und), (38, .und), (37, .und), (36, .und), (35, .und), (34, .und), (33, .und), (32, .und), (31, .one (.dat .bool true)), (30, .one (.dat .bool true)), (29, .und), (28, .und), (27, .und), (26, .und), (25, .und), (24, .und), (23, .und), (22, .one (.dat .bool true)), (21, .one (.dat .bool true)), (20, .und), (19, .und), (18, .und), (17, .one (.dat .bool (!y25))), (16, .one (.dat .bool (!y25))), (15, .one (.dat .bool y25)), (14, .one (.dat (.int .i64) a0.1)), (0, .one (.ip (.st (.pair (.int .i64) (.pair (.int .i64) (.pair (.sl (.flt .f32)) (.pair (.sl (.flt .f32)) (.sl (.flt .f32))))))) a0 0)), (3, .one (.dat (.int .i64) a0.1)), (4, .one (.dat (.int .i64) a0.2.1))], [], 0⟩) hP hN (by kernel_rfl) (allCons (f64_ok hc26) (allCons hb27 (allCons hb27 (allCons hb27 (allCons hb27 (allCons (rfl : true = true) (allCons (rfl : true = true) (allCons (rfl : true = true) (allCons (rfl : true = true) (allCons (rfl : true = true) (allCons (rfl : true = true) (allCons (rfl : true = true) (allCons (rfl : true = true) (allCons (rfl : true = true) (allCons (rfl : true = true) (allCons (rfl : true = true) (allCons (rfl : true = true) (allCons (rfl : true = true) (allCons (rfl : true = true) (allCons (rfl : true = true) (allCons (rfl : true = true) (allCons (rfl : true = true) (allCons (rfl : true = true) (allCons (rfl : true = true) (allCons (rfl : true = true) (allCons (rfl : true = true) (allCons (rfl : true = true) (allCons (rfl : true = true) (allCons (rfl : true = true) (allCons (rfl : true = true) (allCons (rfl : true = true) (allCons (rfl : true = true) (allCons (rfl : true = true) (allCons (rfl : true = true) (allCons (rfl : true = true) (allCons (rfl : true = true) (allCons (rfl : true = true) (allCons (rfl : true = true) (allCons (rfl : true = true) (allCons (rfl : true = true) allNil)))))))))))))))))))))))))))))))))))))))) (qThen ?_)
      exact (Le.cv (s := ⟨[], [], [], false⟩) (own := []) (ps := [a0 = a0, a0.1 = a0.1, a0.2.1 = a0.2.1, true = true]) (st' := ⟨[(0, .one (.ip (.st (.pair (.int .i64) (.pair (.int .i64) (.pair (.sl (.flt .f32)) (.pair (.sl (.flt .f32)) (.sl (.flt .f32))))))) a0 0)), (3, .one (.dat (.int .i64) a0.1)), (4, .one (.dat (.int .i64) a0.2.1)), (60, .one (.dat .bool true))], [], 0⟩) hO (fun h => by cases h) (by kernel_rfl) ⟨rfl, rfl, rfl, rfl, trivial⟩).ht (cont true (of_some hT3))
    · obtain ⟨y28, hc29, hT3⟩ := of_bind hT3
      rcases of_bif hT3 with ⟨hb30, hT3⟩ | ⟨hb30, hT3⟩
      · refine HT.reg (rs := [⟨none, .no⟩, ⟨none, .call [.imm (.int .i64), .imm (.int .i64), .imm (.int .i64)] [⟨false, .bool, y25⟩] []⟩, ⟨none, .no⟩, ⟨none, .no⟩, ⟨some false, .no⟩, ⟨some false, .call [.imm (.int .i64), .imm (.int .i64), .imm (.int .i64)] [⟨false, .bool, y28⟩] []⟩, ⟨some false, .no⟩, ⟨none, .tv false⟩, ⟨none, .no⟩, ⟨some true, .no⟩, ⟨some true, .no⟩, ⟨some true, .no⟩, ⟨some true, .no⟩, ⟨some true, .no⟩, ⟨some true, .no⟩, ⟨some true, .no⟩, ⟨none, .tv true⟩, ⟨none, .no⟩, ⟨some true, .no⟩, ⟨some true, .no⟩, ⟨some true, .no⟩, ⟨some true, .no⟩, ⟨some true, .no⟩, ⟨some true, .no⟩, ⟨some true, .no⟩, ⟨some true, .no⟩, ⟨some true, .no⟩, ⟨none, .tv true⟩, ⟨none, .no⟩, ⟨some true, .no⟩, ⟨some true, .no⟩, ⟨some true, .no⟩, ⟨some true, .no⟩, ⟨some true, .no⟩, ⟨some true, .no⟩, ⟨some true, .no⟩, ⟨some true, .no⟩, ⟨some true, .no⟩, ⟨none, .tv true⟩, ⟨none, .no⟩, ⟨some true, .no⟩, ⟨some true, .no⟩, ⟨some true, .no⟩, ⟨some true, .no⟩, ⟨some true, .no⟩, ⟨some true, .no⟩, ⟨none, .tv true⟩]) (st' := ⟨[(60, .one (.dat .bool true)), (59, .und), (58, .und), (57, .und), (56, .und), (55, .und), (54, .und), (53, .one (.dat .bool true)), (52, .one (.dat .bool true)), (51, .und), (50, .und), (49, .und), (48, .und), (47, .und), (46, .und), (45, .und), (44, .und), (43, .und), (42, .one (.dat .bool true)), (41, .one (.dat .bool true)), (40, .und), (39, .und), (38, .und), (37, .und), (36, .und), (35, .und), (34, .und), (33, .und), (32, .und), (31, .one (.dat .bool true)), (30, .one (.dat .bool true)), (29, .und), (28, .und), (27, .und), (26, .und), (25, .und), (24, .und), (23, .und), (22, .one (.dat .bool (!y28))), (21, .one (.dat .bool (!y28))), (20, .one (.dat .bool (!y28))), (19, .one (.dat .bool y28)), (18, .one (.dat (.int .i64) a0.2.1)), (17, .one (.dat .bool (!y25))), (16, .one (.dat .bool (!y25))), (15, .one (.dat .bool y25)), (14, .one (.dat (.int .i64) a0.1)), (0, .one (.ip (.st (.pair (.int .i64) (.pair (.int .i64) (.pair (.sl (.flt .f32)) (.pair (.sl (.flt .f32)) (.sl (.flt .f32))))))) a0 0)), (3, .one (.dat (.int .i64) a0.1)), (4, .one (.dat (.int .i64) a0.2.1))], [], 0⟩) hP hN (by kernel_rfl) (allCons (f64_ok hc26) (allCons hb27 (allCons hb27 (allCons (f64_ok hc29) (allCons hb27 (allCons hb27 (allCons hb30 (allCons hb30 (allCons hb30 (allCons hb30 (allCons hb30 (allCons hb30 (allCons hb30 (allCons hb30 (allCons (rfl : true = true) (allCons (rfl : true = true) (allCons (rfl : true = true) (allCons (rfl : true = true) (allCons (rfl : true = true) (allCons (rfl : true = true) (allCons (rfl : true = true) (allCons (rfl : true = true) (allCons (rfl : true = true) (allCons (rfl : true = true) (allCons (rfl : true = true) (allCons (rfl : true = true) (allCons (rfl : true = true) (allCons (rfl : true = true) (allCons (rfl : true = true) (allCons (rfl : true = true) (allCons (rfl : true = true) (allCons (rfl : true = true) (allCons (rfl : true = true) (allCons (rfl : true = true) (allCons (rfl : true = true) (allCons (rfl : true = true) (allCons (rfl : true = true) (allCons (rfl : true = true) (allCons (rfl : true = true) (allCons (rfl : true = true) (allCons (rfl : true = true) allNil))))))))))))))))))))))))))))))))))))))))) (qThen ?_)
        exact (Le.cv (s := ⟨[], [], [], false⟩) (own := []) (ps := [a0 = a0, a0.1 = a0.1, a0.2.1 = a0.2.1, true = true]) (st' := ⟨[(0, .one (.ip (.st (.pair (.int .i64) (.pair (.int .i64) (.pair (.sl (.flt .f32)) (.pair (.sl (.flt .f32)) (.sl (.flt .f32))))))) a0 0)), (3, .one (.dat (.int .i64) a0.1)), (4, .one (.dat (.int .i64) a0.2.1)), (60, .one (.dat .bool true))], [], 0⟩) hO (fun h => by cases h) (by kernel_rfl) ⟨rfl, rfl, rfl, rfl, trivial⟩).ht (cont true (of_some hT3))
      · rcases of_bif hT3 with ⟨hb31, hT3⟩ | ⟨hb31, hT3⟩
        · refine HT.reg (rs := [⟨none, .no⟩, ⟨none, .call [.imm (.int .i64), .imm (.int .i64), .imm (.int .i64)] [⟨false, .bool, y25⟩] []⟩, ⟨none, .no⟩, ⟨none, .no⟩, ⟨some false, .no⟩, ⟨some false, .call [.imm (.int .i64), .imm (.int .i64), .imm (.int .i64)] [⟨false, .bool, y28⟩] []⟩, ⟨some false, .no⟩, ⟨none, .tv false⟩, ⟨none, .no⟩, ⟨some false, .no⟩, ⟨some false, .no⟩, ⟨some false, .no⟩, ⟨some false, .no⟩, ⟨some false, .no⟩, ⟨some false, .no⟩, ⟨some false, .no⟩, ⟨none, .tv false⟩, ⟨none, .no⟩, ⟨some true, .no⟩, ⟨some true, .no⟩, ⟨some true, .no⟩, ⟨some true, .no⟩, ⟨some true, .no⟩, ⟨some true, .no⟩, ⟨some true, .no⟩, ⟨some true, .no⟩, ⟨some true, .no⟩, ⟨none, .tv true⟩, ⟨none, .no⟩, ⟨some true, .no⟩, ⟨some true, .no⟩, ⟨some true, .no⟩, ⟨some true, .no⟩, ⟨some true, .no⟩, ⟨some true, .no⟩, ⟨some true, .no⟩, ⟨some true, .no⟩, ⟨some true, .no⟩, ⟨none, .tv true⟩, ⟨none, .no⟩, ⟨some true, .no⟩, ⟨some true, .no⟩, ⟨some true, .no⟩, ⟨some true, .no⟩, ⟨some true, .no⟩, ⟨some true, .no⟩, ⟨none, .tv true⟩]) (st' := ⟨[(60, .one (.dat .bool true)), (59, .und), (58, .und), (57, .und), (56, .und), (55, .und), (54, .und), (53, .one (.dat .bool true)), (52, .one (.dat .bool true)), (51, .und), (50, .und), (49, .und), (48, .und), (47, .und), (46, .und), (45, .und), (44, .und), (43, .und), (42, .one (.dat .bool true)), (41, .one (.dat .bool true)), (40, .und), (39, .und), (38, .und), (37, .und), (36, .und), (35, .und), (34, .und), (33, .und), (32, .und), (31, .one (.dat .bool ((lenI a0.2.2.1) != a0.1))), (30, .one (.dat .bool ((lenI a0.2.2.1) != a0.1))), (29, .one (.dat .bool ((lenI a0.2.2.1) != a0.1))), (28, .one (.dat (.int .i64) a0.1)), (27, .one (.dat (.int .i64) (lenI a0.2.2.1))), (26, .one (.dat (.sl (.flt .f32)) a0.2.2.1)), (25, .one (.ip (.st (.pair (.int .i64) (.pair (.int .i64) (.pair (.sl (.flt .f32)) (.pair (.sl (.flt .f32)) (.sl (.flt .f32))))))) a0 2)), (24, .one (.ip (.st (.pair (.int .i64) (.pair (.int .i64) (.pair (.sl (.flt .f32)) (.pair (.sl (.flt .f32)) (.sl (.flt .f32))))))) a0 0)), (23, .one (.ip (.st (.pair (.int .i64) (.pair (.int .i64) (.pair (.sl (.flt .f32)) (.pair (.sl (.flt .f32)) (.sl (.flt .f32))))))) a0 0)), (22, .one (.dat .bool (!y28))), (21, .one (.dat .bool (!y28))), (20, .one (.dat .bool (!y28))), (19, .one (.dat .bool y28)), (18, .one (.dat (.int .i64) a0.2.1)), (17, .one (.dat .bool (!y25))), (16, .one (.dat .bool (!y25))), (15, .one (.dat .bool y25)), (14, .one (.dat (.int .i64) a0.1)), (0, .one (.ip (.st (.pair (.int .i64) (.pair (.int .i64) (.pair (.sl (.flt .f32)) (.pair (.sl (.flt .f32)) (.sl (.flt .f32))))))) a0 0)), (3, .one (.dat (.int .i64) a0.1)), (4, .one (.dat (.int .i64) a0.2.1))], [], 0⟩) hP hN (by kernel_rfl) (allCons (f64_ok hc26) (allCons hb27 (allCons hb27 (allCons (f64_ok hc29) (allCons hb27 (allCons hb27 (allCons hb30 (allCons hb30 (allCons hb30 (allCons hb30 (allCons hb30 (allCons hb30 (allCons hb30 (allCons hb30 (allCons hb31 (allCons hb31 (allCons hb31 (allCons hb31 (allCons hb31 (allCons hb31 (allCons hb31 (allCons hb31 (allCons hb31 (allCons hb31 (allCons (rfl : true = true) (allCons (rfl : true = true) (allCons (rfl : true = true) (allCons (rfl : true = true) (allCons (rfl : true = true) (allCons (rfl : true = true) (allCons (rfl : true = true) (allCons (rfl : true = true) (allCons (rfl : true = true) (allCons (rfl : true = true) (allCons (rfl : true = true) (allCons (rfl : true = true) (allCons (rfl : true = true) (allCons (rfl : true = true) (allCons (rfl : true = true) (allCons (rfl : true = true) (allCons (rfl : true = true) allNil))))))))))))))))))))))))))))))))))))))))) (qThen ?_)
          exact (Le.cv (s := ⟨[], [], [], false⟩) (own := []) (ps := [a0 = a0, a0.1 = a0.1, a0.2.1 = a0.2.1, true = true]) (st' := ⟨[(0, .one (.ip (.st (.pair (.int .i64) (.pair (.int .i64) (.pair (.sl (.flt .f32)) (.pair (.sl (.flt .f32)) (.sl (.flt .f32))))))) a0 0)), (3, .one (.dat (.int .i64) a0.1)), (4, .one (.dat (.int .i64) a0.2.1)), (60, .one (.dat .bool true))], [], 0⟩) hO (fun h => by cases h) (by kernel_rfl) ⟨rfl, rfl, rfl, rfl, trivial⟩).ht (cont true (of_some hT3))
        · rcases of_bif hT3 with ⟨hb32, hT3⟩ | ⟨hb32, hT3⟩
          · refine HT.reg (rs := [⟨none, .no⟩, ⟨none, .call [.imm (.int .i64), .imm (.int .i64), .imm (.int .i64)] [⟨false, .bool, y25⟩] []⟩, ⟨none, .no⟩, ⟨none, .no⟩, ⟨some false, .no⟩, ⟨some false, .call [.imm (.int .i64), .imm (.int .i64), .imm (.int .i64)] [⟨false, .bool, y28⟩] []⟩, ⟨some false, .no⟩, ⟨none, .tv false⟩, ⟨none, .no⟩, ⟨some false, .no⟩, ⟨some false, .no⟩, ⟨some false, .no⟩, ⟨some false, .no⟩, ⟨some false, .no⟩, ⟨some false, .no⟩, ⟨some false, .no⟩, ⟨none, .tv false⟩, ⟨none, .no⟩, ⟨some false, .no⟩, ⟨some false, .no⟩, ⟨some false, .no⟩, ⟨some false, .no⟩, ⟨some false, .no⟩, ⟨some false, .no⟩, ⟨some false, .no⟩, ⟨some false, .no⟩, ⟨some false, .no⟩, ⟨none, .tv false⟩, ⟨none, .no⟩, ⟨some true, .no⟩, ⟨some true, .no⟩, ⟨some true, .no⟩, ⟨some true, .no⟩, ⟨some true, .no⟩, ⟨some true, .no⟩, ⟨some true, .no⟩, ⟨some true, .no⟩, ⟨some true, .no⟩, ⟨none, .tv true⟩, ⟨none, .no⟩, ⟨some true, .no⟩, ⟨some true, .no⟩, ⟨some true, .no⟩, ⟨some true, .no⟩, ⟨some true, .no⟩, ⟨some true, .no⟩, ⟨none, .tv true⟩]) (st' := ⟨[(60, .one (.dat .bool true)), (59, .und), (58, .und), (57, .und), (56, .und), (55, .und), (54, .und), (53, .one (.dat .bool true)), (52, .one (.dat .bool true)), (51, .und), (50, .und), (49, .und), (48, .und), (47, .und), (46, .und), (45, .und), (44, .und), (43, .und), (42, .one (.dat .bool ((lenI a0.2.2.2.1) != (wmul .i64 a0.1 a0.1)))), (41, .one (.dat .bool ((lenI a0.2.2.2.1) != (wmul .i64 a0.1 a0.1)))), (40, .one (.dat .bool ((lenI a0.2.2.2.1) != (wmul .i64 a0.1 a0.1)))), (39, .one (.dat (.int .i64) (wmul .i64 a0.1 a0.1))), (38, .one (.dat (.int .i64) a0.1)), (37, .one (.dat (.int .i64) a0.1)), (36, .one (.dat (.int .i64) (lenI a0.2.2.2.1))), (35, .one (.dat (.sl (.flt .f32)) a0.2.2.2.1)), (34, .one (.ip (.st (.pair (.int .i64) (.pair (.int .i64) (.pair (.sl (.flt .f32)) (.pair (.sl (.flt .f32)) (.sl (.flt .f32))))))) a0 3)), (33, .one (.ip (.st (.pair (.int .i64) (.pair (.int .i64) (.pair (.sl (.flt .f32)) (.pair (.sl (.flt .f32)) (.sl (.flt .f32))))))) a0 0)), (32, .one (.ip (.st (.pair (.int .i64) (.pair (.int .i64) (.pair (.sl (.flt .f32)) (.pair (.sl (.flt .f32)) (.sl (.flt .f32))))))) a0 0)), (31, .one (.dat .bool ((lenI a0.2.2.1) != a0.1))), (30, .one (.dat .bool ((lenI a0.2.2.1) != a0.1))), (29, .one (.dat .bool ((lenI a0.2.2.1) != a0.1))), (28, .one (.dat (.int .i64) a0.1)), (27, .one (.dat (.int .i64) (lenI a0.2.2.1))), (26, .one (.dat (.sl (.flt .f32)) a0.2.2.1)), (25, .one (.ip (.st (.pair (.int .i64) (.pair (.int .i64) (.pair (.sl (.flt .f32)) (.pair (.sl (.flt .f32)) (.sl (.flt .f32))))))) a0 2)), (24, .one (.ip (.st (.pair (.int .i64) (.pair (.int .i64) (.pair (.sl (.flt .f32)) (.pair (.sl (.flt .f32)) (.sl (.flt .f32))))))) a0 0)), (23, .one (.ip (.st (.pair (.int .i64) (.pair (.int .i64) (.pair (.sl (.flt .f32)) (.pair (.sl (.flt .f32)) (.sl (.flt .f32))))))) a0 0)), (22, .one (.dat .bool (!y28))), (21, .one (.dat .bool (!y28))), (20, .one (.dat .bool (!y28))), (19, .one (.dat .bool y28)), (18, .one (.dat (.int .i64) a0.2.1)), (17, .one (.dat .bool (!y25))), (16, .one (.dat .bool (!y25))), (15, .one (.dat .bool y25)), (14, .one (.dat (.int .i64) a0.1)), (0, .one (.ip (.st (.pair (.int .i64) (.pair (.int .i64) (.pair (.sl (.flt .f32)) (.pair (.sl (.flt .f32)) (.sl (.flt .f32))))))) a0 0)), (3, .one (.dat (.int .i64) a0.1)), (4, .one (.dat (.int .i64) a0.2.1))], [], 0⟩) hP hN (by kernel_rfl) (allCons (f64_ok hc26) (allCons hb27 (allCons hb27 (allCons (f64_ok hc29) (allCons hb27 (allCons hb27 (allCons hb30 (allCons hb30 (allCons hb30 (allCons hb30 (allCons hb30 (allCons hb30 (allCons hb30 (allCons hb30 (allCons hb31 (allCons hb31 (allCons hb31 (allCons hb31 (allCons hb31 (allCons hb31 (allCons hb31 (allCons hb31 (allCons hb31 (allCons hb31 (allCons hb32 (allCons hb32 (allCons hb32 (allCons hb32 (allCons hb32 (allCons hb32 (allCons hb32 (allCons hb32 (allCons hb32 (allCons hb32 (allCons (rfl : true = true) (allCons (rfl : true = true) (allCons (rfl : true = true) (allCons (rfl : true = true) (allCons (rfl : true = true) (allCons (rfl : true = true) (allCons (rfl : true = true) allNil))))))))))))))))))))))))))))))))))))))))) (qThen ?_)
            exact (Le.cv (s := ⟨[], [], [], false⟩) (own := []) (ps := [a0 = a0, a0.1 = a0.1, a0.2.1 = a0.2.1, true = true]) (st' := ⟨[(0, .one (.ip (.st (.pair (.int .i64) (.pair (.int .i64) (.pair (.sl (.flt .f32)) (.pair (.sl (.flt .f32)) (.sl (.flt .f32))))))) a0 0)), (3, .one (.dat (.int .i64) a0.1)), (4, .one (.dat (.int .i64) a0.2.1)), (60, .one (.dat .bool true))], [], 0⟩) hO (fun h => by cases h) (by kernel_rfl) ⟨rfl, rfl, rfl, rfl, trivial⟩).ht (cont true (of_some hT3))
          · rcases of_bif hT3 with ⟨hb33, hT3⟩ | ⟨hb33, hT3⟩
            · refine HT.reg (rs := [⟨none, .no⟩, ⟨none, .call [.imm (.int .i64), .imm (.int .i64), .imm (.int .i64)] [⟨false, .bool, y25⟩] []⟩, ⟨none, .no⟩, ⟨none, .no⟩, ⟨some false, .no⟩, ⟨some false, .call [.imm (.int .i64), .imm (.int .i64), .imm (.int .i64)] [⟨false, .bool, y28⟩] []⟩, ⟨some false, .no⟩, ⟨none, .tv false⟩, ⟨none, .no⟩, ⟨some false, .no⟩, ⟨some false, .no⟩, ⟨some false, .no⟩, ⟨some false, .no⟩, ⟨some false, .no⟩, ⟨some false, .no⟩, ⟨some false, .no⟩, ⟨none, .tv false⟩, ⟨none, .no⟩, ⟨some false, .no⟩, ⟨some false, .no⟩, ⟨some false, .no⟩, ⟨some false, .no⟩, ⟨some false, .no⟩, ⟨some false, .no⟩, ⟨some false, .no⟩, ⟨some false, .no⟩, ⟨some false, .no⟩, ⟨none, .tv false⟩, ⟨none, .no⟩, ⟨some false, .no⟩, ⟨some false, .no⟩, ⟨some false, .no⟩, ⟨some false, .no⟩, ⟨some false, .no⟩, ⟨some false, .no⟩, ⟨some false, .no⟩, ⟨some false, .no⟩, ⟨some false, .no⟩, ⟨none, .tv false⟩, ⟨none, .no⟩, ⟨some true, .no⟩, ⟨some true, .no⟩, ⟨some true, .no⟩, ⟨some true, .no⟩, ⟨some true, .no⟩, ⟨some true, .no⟩, ⟨none, .tv true⟩]) (st' := ⟨[(60, .one (.dat .bool true)), (59, .und), (58, .und), (57, .und), (56, .und), (55, .und), (54, .und), (53, .one (.dat .bool ((lenI a0.2.2.2.2) != (wmul .i64 a0.1 a0.2.1)))), (52, .one (.dat .bool ((lenI a0.2.2.2.2) != (wmul .i64 a0.1 a0.2.1)))), (51, .one (.dat .bool ((lenI a0.2.2.2.2) != (wmul .i64 a0.1 a0.2.1)))), (50, .one (.dat (.int .i64) (wmul .i64 a0.1 a0.2.1))), (49, .one (.dat (.int .i64) a0.2.1)), (48, .one (.dat (.int .i64) a0.1)), (47, .one (.dat (.int .i64) (lenI a0.2.2.2.2))), (46, .one (.dat (.sl (.flt .f32)) a0.2.2.2.2)), (45, .one (.ip (.st (.pair (.int .i64) (.pair (.int .i64) (.pair (.sl (.flt .f32)) (.pair (.sl (.flt .f32)) (.sl (.flt .f32))))))) a0 4)), (44, .one (.ip (.st (.pair (.int .i64) (.pair (.int .i64) (.pair (.sl (.flt .f32)) (.pair (.sl (.flt .f32)) (.sl (.flt .f32))))))) a0 0)), (43, .one (.ip (.st (.pair (.int .i64) (.pair (.int .i64) (.pair (.sl (.flt .f32)) (.pair (.sl (.flt .f32)) (.sl (.flt .f32))))))) a0 0)), (42, .one (.dat .bool ((lenI a0.2.2.2.1) != (wmul .i64 a0.1 a0.1)))), (41, .one (.dat .bool ((lenI a0.2.2.2.1) != (wmul .i64 a0.1 a0.1)))), (40, .one (.dat .bool ((lenI a0.2.2.2.1) != (wmul .i64 a0.1 a0.1)))), (39, .one (.dat (.int .i64) (wmul .i64 a0.1 a0.1))), (38, .one (.dat (.int .i64) a0.1)), (37, .one (.dat (.int .i64) a0.1)), (36, .one (.dat (.int .i64) (lenI a0.2.2.2.1))), (35, .one (.dat (.sl (.flt .f32)) a0.2.2.2.1)), (34, .one (.ip (.st (.pair (.int .i64) (.pair (.int .i64) (.pair (.sl (.flt .f32)) (.pair (.sl (.flt .f32)) (.sl (.flt .f32))))))) a0 3)), (33, .one (.ip (.st (.pair (.int .i64) (.pair (.int .i64) (.pair (.sl (.flt .f32)) (.pair (.sl (.flt .f32)) (.sl (.flt .f32))))))) a0 0)), (32, .one (.ip (.st (.pair (.int .i64) (.pair (.int .i64) (.pair (.sl (.flt .f32)) (.pair (.sl (.flt .f32)) (.sl (.flt .f32))))))) a0 0)), (31, .one (.dat .bool ((lenI a0.2.2.1) != a0.1))), (30, .one (.dat .bool ((lenI a0.2.2.1) != a0.1))), (29, .one (.dat .bool ((lenI a0.2.2.1) != a0.1))), (28, .one (.dat (.int .i64) a0.1)), (27, .one (.dat (.int .i64) (lenI a0.2.2.1))), (26, .one (.dat (.sl (.flt .f32)) a0.2.2.1)), (25, .one (.ip (.st (.pair (.int .i64) (.pair (.int .i64) (.pair (.sl (.flt .f32)) (.pair (.sl (.flt .f32)) (.sl (.flt .f32))))))) a0 2)), (24, .one (.ip (.st (.pair (.int .i64) (.pair (.int .i64) (.pair (.sl (.flt .f32)) (.pair (.sl (.flt .f32)) (.sl (.flt .f32))))))) a0 0)), (23, .one (.ip (.st (.pair (.int .i64) (.pair (.int .i64) (.pair (.sl (.flt .f32)) (.pair (.sl (.flt .f32)) (.sl (.flt .f32))))))) a0 0)), (22, .one (.dat .bool (!y28))), (21, .one (.dat .bool (!y28))), (20, .one (.dat .bool (!y28))), (19, .one (.dat .bool y28)), (18, .one (.dat (.int .i64) a0.2.1)), (17, .one (.dat .bool (!y25))), (16, .one (.dat .bool (!y25))), (15, .one (.dat .bool y25)), (14, .one (.dat (.int .i64) a0.1)), (0, .one (.ip (.st (.pair (.int .i64) (.pair (.int .i64) (.pair (.sl (.flt .f32)) (.pair (.sl (.flt .f32)) (.sl (.flt .f32))))))) a0 0)), (3, .one (.dat (.int .i64) a0.1)), (4, .one (.dat (.int .i64) a0.2.1))], [], 0⟩) hP hN (by kernel_rfl) (allCons (f64_ok hc26) (allCons hb27 (allCons hb27 (allCons (f64_ok hc29) (allCons hb27 (allCons hb27 (allCons hb30 (allCons hb30 (allCons hb30 (allCons hb30 (allCons hb30 (allCons hb30 (allCons hb30 (allCons hb30 (allCons hb31 (allCons hb31 (allCons hb31 (allCons hb31 (allCons hb31 (allCons hb31 (allCons hb31 (allCons hb31 (allCons hb31 (allCons hb31 (allCons hb32 (allCons hb32 (allCons hb32 (allCons hb32 (allCons hb32 (allCons hb32 (allCons hb32 (allCons hb32 (allCons hb32 (allCons hb32 (allCons hb33 (allCons hb33 (allCons hb33 (allCons hb33 (allCons hb33 (allCons hb33 (allCons hb33 allNil))))))))))))))))))))))))))))))))))))))))) (qThen ?_)
              exact (Le.cv (s := ⟨[], [], [], false⟩) (own := []) (ps := [a0 = a0, a0.1 = a0.1, a0.2.1 = a0.2.1, true = true]) (st' := ⟨[(0, .one (.ip (.st (.pair (.int .i64) (.pair (.int .i64) (.pair (.sl (.flt .f32)) (.pair (.sl (.flt .f32)) (.sl (.flt .f32))))))) a0 0)), (3, .one (.dat (.int .i64) a0.1)), (4, .one (.dat (.int .i64) a0.2.1)), (60, .one (.dat .bool true))], [], 0⟩) hO (fun h => by cases h) (by kernel_rfl) ⟨rfl, rfl, rfl, rfl, trivial⟩).ht (cont true (of_some hT3))
            · obtain ⟨y34, hc35, hT3⟩ := of_bind hT3
              refine HT.reg (rs := [⟨none, .no⟩, ⟨none, .call [.imm (.int .i64), .imm (.int .i64), .imm (.int .i64)] [⟨false, .bool, y25⟩] []⟩, ⟨none, .no⟩, ⟨none, .no⟩, ⟨some false, .no⟩, ⟨some false, .call [.imm (.int .i64), .imm (.int .i64), .imm (.int .i64)] [⟨false, .bool, y28⟩] []⟩, ⟨some false, .no⟩, ⟨none, .tv false⟩, ⟨none, .no⟩, ⟨some false, .no⟩, ⟨some false, .no⟩, ⟨some false, .no⟩, ⟨some false, .no⟩, ⟨some false, .no⟩, ⟨some false, .no⟩, ⟨some false, .no⟩, ⟨none, .tv false⟩, ⟨none, .no⟩, ⟨some false, .no⟩, ⟨some false, .no⟩, ⟨some false, .no⟩, ⟨some false, .no⟩, ⟨some false, .no⟩, ⟨some false, .no⟩, ⟨some false, .no⟩, ⟨some false, .no⟩, ⟨some false, .no⟩, ⟨none, .tv false⟩, ⟨none, .no⟩, ⟨some false, .no⟩, ⟨some false, .no⟩, ⟨some false, .no⟩, ⟨some false, .no⟩, ⟨some false, .no⟩, ⟨some false, .no⟩, ⟨some false, .no⟩, ⟨some false, .no⟩, ⟨some false, .no⟩, ⟨none, .tv false⟩, ⟨none, .no⟩, ⟨some false, .no⟩, ⟨some false, .no⟩, ⟨some false, .no⟩, ⟨some false, .no⟩, ⟨some false, .call [.imm (.sl (.flt .f32))] [⟨false, .bool, y34⟩] []⟩, ⟨some false, .no⟩, ⟨none, .tv false⟩]) (st' := ⟨[(60, .one (.dat .bool (!y34))), (59, .one (.dat .bool (!y34))), (58, .one (.dat .bool y34)), (57, .one (.dat (.sl (.flt .f32)) a0.2.2.1)), (56, .one (.ip (.st (.pair (.int .i64) (.pair (.int .i64) (.pair (.sl (.flt .f32)) (.pair (.sl (.flt .f32)) (.sl (.flt .f32))))))) a0 2)), (55, .one (.ip (.st (.pair (.int .i64) (.pair (.int .i64) (.pair (.sl (.flt .f32)) (.pair (.sl (.flt .f32)) (.sl (.flt .f32))))))) a0 0)), (54, .one (.ip (.st (.pair (.int .i64) (.pair (.int .i64) (.pair (.sl (.flt .f32)) (.pair (.sl (.flt .f32)) (.sl (.flt .f32))))))) a0 0)), (53, .one (.dat .bool ((lenI a0.2.2.2.2) != (wmul .i64 a0.1 a0.2.1)))), (52, .one (.dat .bool ((lenI a0.2.2.2.2) != (wmul .i64 a0.1 a0.2.1)))), (51, .one (.dat .bool ((lenI a0.2.2.2.2) != (wmul .i64 a0.1 a0.2.1)))), (50, .one (.dat (.int .i64) (wmul .i64 a0.1 a0.2.1))), (49, .one (.dat (.int .i64) a0.2.1)), (48, .one (.dat (.int .i64) a0.1)), (47, .one (.dat (.int .i64) (lenI a0.2.2.2.2))), (46, .one (.dat (.sl (.flt .f32)) a0.2.2.2.2)), (45, .one (.ip (.st (.pair (.int .i64) (.pair (.int .i64) (.pair (.sl (.flt .f32)) (.pair (.sl (.flt .f32)) (.sl (.flt .f32))))))) a0 4)), (44, .one (.ip (.st (.pair (.int .i64) (.pair (.int .i64) (.pair (.sl (.flt .f32)) (.pair (.sl (.flt .f32)) (.sl (.flt .f32))))))) a0 0)), (43, .one (.ip (.st (.pair (.int .i64) (.pair (.int .i64) (.pair (.sl (.flt .f32)) (.pair (.sl (.flt .f32)) (.sl (.flt .f32))))))) a0 0)), (42, .one (.dat .bool ((lenI a0.2.2.2.1) != (wmul .i64 a0.1 a0.1)))), (41, .one (.dat .bool ((lenI a0.2.2.2.1) != (wmul .i64 a0.1 a0.1)))), (40, .one (.dat .bool ((lenI a0.2.2.2.1) != (wmul .i64 a0.1 a0.1)))), (39, .one (.dat (.int .i64) (wmul .i64 a0.1 a0.1))), (38, .one (.dat (.int .i64) a0.1)), (37, .one (.dat (.int .i64) a0.1)), (36, .one (.dat (.int .i64) (lenI a0.2.2.2.1))), (35, .one (.dat (.sl (.flt .f32)) a0.2.2.2.1)), (34, .one (.ip (.st (.pair (.int .i64) (.pair (.int .i64) (.pair (.sl (.flt .f32)) (.pair (.sl (.flt .f32)) (.sl (.flt .f32))))))) a0 3)), (33, .one (.ip (.st (.pair (.int .i64) (.pair (.int .i64) (.pair (.sl (.flt .f32)) (.pair (.sl (.flt .f32)) (.sl (.flt .f32))))))) a0 0)), (32, .one (.ip (.st (.pair (.int .i64) (.pair (.int .i64) (.pair (.sl (.flt .f32)) (.pair (.sl (.flt .f32)) (.sl (.flt .f32))))))) a0 0)), (31, .one (.dat .bool ((lenI a0.2.2.1) != a0.1))), (30, .one (.dat .bool ((lenI a0.2.2.1) != a0.1))), (29, .one (.dat .bool ((lenI a0.2.2.1) != a0.1))), (28, .one (.dat (.int .i64) a0.1)), (27, .one (.dat (.int .i64) (lenI a0.2.2.1))), (26, .one (.dat (.sl (.flt .f32)) a0.2.2.1)), (25, .one (.ip (.st (.pair (.int .i64) (.pair (.int .i64) (.pair (.sl (.flt .f32)) (.pair (.sl (.flt .f32)) (.sl (.flt .f32))))))) a0 2)), (24, .one (.ip (.st (.pair (.int .i64) (.pair (.int .i64) (.pair (.sl (.flt .f32)) (.pair (.sl (.flt .f32)) (.sl (.flt .f32))))))) a0 0)), (23, .one (.ip (.st (.pair (.int .i64) (.pair (.int .i64) (.pair (.sl (.flt .f32)) (.pair (.sl (.flt .f32)) (.sl (.flt .f32))))))) a0 0)), (22, .one (.dat .bool (!y28))), (21, .one (.dat .bool (!y28))), (20, .one (.dat .bool (!y28))), (19, .one (.dat .bool y28)), (18, .one (.dat (.int .i64) a0.2.1)), (17, .one (.dat .bool (!y25))), (16, .one (.dat .bool (!y25))), (15, .one (.dat .bool y25)), (14, .one (.dat (.int .i64) a0.1)), (0, .one (.ip (.st (.pair (.int .i64) (.pair (.int .i64) (.pair (.sl (.flt .f32)) (.pair (.sl (.flt .f32)) (.sl (.flt .f32))))))) a0 0)), (3, .one (.dat (.int .i64) a0.1)), (4, .one (.dat (.int .i64) a0.2.1))], [], 0⟩) hP hN (by kernel_rfl) (allCons (f64_ok hc26) (allCons hb27 (allCons hb27 (allCons (f64_ok hc29) (allCons hb27 (allCons hb27 (allCons hb30 (allCons hb30 (allCons hb30 (allCons hb30 (allCons hb30 (allCons hb30 (allCons hb30 (allCons hb30 (allCons hb31 (allCons hb31 (allCons hb31 (allCons hb31 (allCons hb31 (allCons hb31 (allCons hb31 (allCons hb31 (allCons hb31 (allCons hb31 (allCons hb32 (allCons hb32 (allCons hb32 (allCons hb32 (allCons hb32 (allCons hb32 (allCons hb32 (allCons hb32 (allCons hb32 (allCons hb32 (allCons hb33 (allCons hb33 (allCons hb33 (allCons hb33 (allCons hb33 (allCons (f141_ok hc35) (allCons hb33 (allCons hb33 allNil)))))))))))))))))))))))))))))))))))))))))) (qThen ?_)
              exact (Le.cv (s := ⟨[], [], [], false⟩) (own := []) (ps := [a0 = a0, a0.1 = a0.1, a0.2.1 = a0.2.1, (!y34) = (!y34)]) (st' := ⟨[(0, .one (.ip (.st (.pair (.int .i64) (.pair (.int .i64) (.pair (.sl (.flt .f32)) (.pair (.sl (.flt .f32)) (.sl (.flt .f32))))))) a0 0)), (3, .one (.dat (.int .i64) a0.1)), (4, .one (.dat (.int .i64) a0.2.1)), (60, .one (.dat .bool (!y34)))], [], 0⟩) hO (fun h => by cases h) (by kernel_rfl) ⟨rfl, rfl, rfl, rfl, trivial⟩).ht (cont (!y34) (of_some hT3))

noncomputable def spec_l03Words_B1 (a0 : Int × Int × List Nat × List Nat × List Nat) (a1 : List (List Int)) (s5 : Int) : Option ((Int) ⊕ (Unit ⊕ Unit)) :=
  bif (decide (s5 < (lenI a1))) then
    guardP ((0 : Int) ≤ s5 ∧ s5 < lenI a1) (
      (spec_l02Word (List.getD a1 (Int.toNat s5) ([] : List Int)) a0.2.1).bind fun y14 =>
      bif (!y14) then
        some (.inr (.inr ()))
      else
        some (.inl (wadd .i64 s5 (1 : Int))))
  else
    some (.inr (.inl ()))

noncomputable def spec_l03Words (a0 : Int × Int × List Nat × List Nat × List Nat) (a1 : List (List Int)) : Option (Bool) :=
  (show Option (Bool) from
    (spec_l03Is (a0.1, a0.2.1, a0.2.2.1, a0.2.2.2.1, a0.2.2.2.2)).bind fun y18 =>
    bif (!y18) then
      some true
    else
      bif (decide ((lenI a1) < (1 : Int))) then
        some true
      else
        some (decide ((lenI a1) > (16 : Int)))).bind fun v1 =>
  bif v1 then
    some false
  else
    (rounds (spec_l03Words_B1 a0 a1) (0 : Int)).bind fun r6 => match r6 with
      | .inl r7 =>
        some true
      | .inr r8 =>
        some false

theorem f108_ok {a0 : Int × Int × List Nat × List Nat × List Nat} {a1 : List (List Int)} {r : Bool} (hr : spec_l03Words a0 a1 = some r) : CallOK Try.prog 108 [.pimm (.st (.pair (.int .i64) (.pair (.int .i64) (.pair (.sl (.flt .f32)) (.pair (.sl (.flt .f32)) (.sl (.flt .f32))))))) a0, .imm (.sl (.sl (.int .i64))) a1] [⟨false, .bool, r⟩] [] := by
  unfold spec_l03Words at hr
  refine CallOK.of_body (ts := [(false, .bool)]) Try.func108 rfl (by kernel_rfl) (Nat.le_of_ble_eq_true (by kernel_rfl)) fun cx hP hN hO hF => ?_
  have hO : cx.own.map Prod.fst = [] := hO
  have hF := hF rfl
  show HT cx ⟨[(0, .one (.ip (.st (.pair (.int .i64) (.pair (.int .i64) (.pair (.sl (.flt .f32)) (.pair (.sl (.flt .f32)) (.sl (.flt .f32))))))) a0 0)), (1, .one (.dat (.sl (.sl (.int .i64))) a1))], [], 0⟩ _ _
  refine HT.reg1 [0, 1] [⟨none, .no⟩] ⟨[(0, .one (.ip (.st (.pair (.int .i64) (.pair (.int .i64) (.pair (.sl (.flt .f32)) (.pair (.sl (.flt .f32)) (.sl (.flt .f32))))))) a0 0)), (1, .one (.dat (.sl (.sl (.int .i64))) a1))], [], 0⟩ hP hN (by kernel_rfl) allNil ?_
  refine HT.seq ?_
  obtain ⟨v1', hT3, hr⟩ := of_bind hr
  refine HT.join (fun (v1 : Bool) => ⟨[(0, .one (.ip (.st (.pair (.int .i64) (.pair (.int .i64) (.pair (.sl (.flt .f32)) (.pair (.sl (.flt .f32)) (.sl (.flt .f32))))))) a0 0)), (1, .one (.dat (.sl (.sl (.int .i64))) a1)), (18, .one (.dat .bool v1))], [], 0⟩) (fun v => v = v1') (fun v1 hv2 => ?_) (fun cont => ?_)
  · subst hv2
    rcases of_bif hr with ⟨hb4, hr⟩ | ⟨hb4, hr⟩
    · refine HT.cond1 rfl hb4 ?_
      refine HT.reg1 [4] [⟨none, .no⟩] ⟨[(4, .one (.dat .bool false))], [], 0⟩ hP hN (by kernel_rfl) allNil ?_
      have hr := of_some hr
      subst hr
      exact HT.ret (qThenR ⟨[.one (.dat .bool false)], [], [], by kernel_rfl, by kernel_rfl, rfl, by kernel_rfl, by kernel_rfl, trivial⟩)
    · refine HT.cond0 rfl hb4 ?_
      refine HT.skip (qThen ?_)
      refine HT.seq ?_
      refine HT.reg1 [0, 1, 20, 21] [⟨none, .no⟩, ⟨none, .no⟩, ⟨none, .no⟩] ⟨[(0, .one (.ip (.st (.pair (.int .i64) (.pair (.int .i64) (.pair (.sl (.flt .f32)) (.pair (.sl (.flt .f32)) (.sl (.flt .f32))))))) a0 0)), (1, .one (.dat (.sl (.sl (.int .i64))) a1)), (20, .one (.dat (.int .i64) (lenI a1))), (21, .one (.dat (.int .i64) (0 : Int)))], [], 0⟩ hP hN (by kernel_rfl) allNil ?_
      refine HT.block ?_
      obtain ⟨r6, hL17, hr⟩ := of_bind hr
      refine (Le.cv (s := ⟨[], [], [], false⟩) (own := []) (ps := [a0 = a0, a1 = a1, (lenI a1) = (lenI a1), (0 : Int) = (0 : Int)]) (st' := ⟨[(0, .one (.ip (.st (.pair (.int .i64) (.pair (.int .i64) (.pair (.sl (.flt .f32)) (.pair (.sl (.flt .f32)) (.sl (.flt .f32))))))) a0 0)), (1, .one (.dat (.sl (.sl (.int .i64))) a1)), (20, .one (.dat (.int .i64) (lenI a1))), (21, .one (.dat (.int .i64) (0 : Int)))], [], 0⟩) hO (fun h => by cases h) (by kernel_rfl) ⟨rfl, rfl, rfl, rfl, trivial⟩).ht ?_
      refine HT.loopE (s := (0 : Int)) (fun (s5 : Int) => ⟨[(0, .one (.ip (.st (.pair (.int .i64) (.pair (.int .i64) (.pair (.sl (.flt .f32)) (.pair (.sl (.flt .f32)) (.sl (.flt .f32))))))) a0 0)), (1, .one (.dat (.sl (.sl (.int .i64))) a1)), (20, .one (.dat (.int .i64) (lenI a1))), (21, .one (.dat (.int .i64) s5))], [], 0⟩) (fun (r6 : Unit ⊕ Unit) => match r6 with | .inl r7 => (.exit 0, ⟨[], [], 0⟩) | .inr r8 => (.ret, ⟨[(4, .one (.dat .bool false))], [], 0⟩)) hL17 ?_ (fun s5 x9 hx10 hk11 => ?_)
      · rcases r6 with r7 | r8
        · refine (qBlockX (qThen ?_))
          refine HT.reg1 [4] [⟨none, .no⟩] ⟨[(4, .one (.dat .bool true))], [], 0⟩ hP hN (by kernel_rfl) allNil ?_
          have hr := of_some hr
          subst hr
          exact HT.ret ⟨[.one (.dat .bool true)], [], [], by kernel_rfl, by kernel_rfl, rfl, by kernel_rfl, by kernel_rfl, trivial⟩
        · have hr := of_some hr
          subst hr
          exact (qBlockR (qThenR ⟨[.one (.dat .bool false)], [], [], by kernel_rfl, by kernel_rfl, rfl, by kernel_rfl, by kernel_rfl, trivial⟩))
      · refine HT.reg1 [0, 1, 20, 21, 22] [⟨none, .no⟩] ⟨[(0, .one (.ip (.st (.pair (.int .i64) (.pair (.int .i64) (.pair (.sl (.flt .f32)) (.pair (.sl (.flt .f32)) (.sl (.flt .f32))))))) a0 0)), (1, .one (.dat (.sl (.sl (.int .i64))) a1)), (20, .one (.dat (.int .i64) (lenI a1))), (21, .one (.dat (.int .i64) s5)), (22, .one (.dat .bool (decide (s5 < (lenI a1)))))], [], 0⟩ hP hN (by kernel_rfl) allNil ?_
        refine HT.seq ?_
        rcases of_bif hx10 with ⟨hb12, hx10⟩ | ⟨hb12, hx10⟩
        · refine HT.cond1 rfl hb12 ?_
          refine HT.skip (qThen ?_)
          refine HT.seq ?_
          refine HT.block ?_
          refine HT.reg1 [0, 1, 5, 20, 21] [⟨none, .no⟩, ⟨none, .no⟩] ⟨[(0, .one (.ip (.st (.pair (.int .i64) (.pair (.int .i64) (.pair (.sl (.flt .f32)) (.pair (.sl (.flt .f32)) (.sl (.flt .f32))))))) a0 0)), (1, .one (.dat (.sl (.sl (.int .i64))) a1)), (5, .one (.dat (.int .i64) s5)), (20, .one (.dat (.int .i64) (lenI a1))), (21, .one (.dat (.int .i64) s5))], [], 0⟩ hP hN (by kernel_rfl) allNil ?_
          obtain ⟨hg13, hx10⟩ := of_guard hx10
          obtain ⟨y14, hc15, hx10⟩ := of_bind hx10
          refine HT.drw1 [0, 1, 20, 21, 33] 8 [⟨⟨none, .no⟩, []⟩, ⟨⟨none, .no⟩, []⟩, ⟨⟨none, .no⟩, [0, 1]⟩, ⟨⟨none, .no⟩, [0, 1, 2]⟩, ⟨⟨none, .no⟩, []⟩, ⟨⟨none, .no⟩, [4]⟩, ⟨⟨none, .no⟩, [4, 5]⟩, ⟨⟨none, .no⟩, [4, 5, 6]⟩] [[0, 1, 2, 3, 4, 5, 6, 7], [0, 1, 2, 3, 4, 5, 6, 7, 8]] [⟨none, .call [.imm (.sl (.int .i64)), .imm (.int .i64)] [⟨false, .bool, y14⟩] []⟩, ⟨none, .no⟩] ⟨[(0, .one (.ip (.st (.pair (.int .i64) (.pair (.int .i64) (.pair (.sl (.flt .f32)) (.pair (.sl (.flt .f32)) (.sl (.flt .f32))))))) a0 0)), (1, .one (.dat (.sl (.sl (.int .i64))) a1)), (20, .one (.dat (.int .i64) (lenI a1))), (21, .one (.dat (.int .i64) s5)), (33, .one (.dat .bool (!y14)))], [], 0⟩ hP hN (by kernel_rfl) (by kernel_rfl) (allCons hg13 (allCons (f122_ok hc15) allNil)) ?_
          rcases of_bif hx10 with ⟨hb16, hx10⟩ | ⟨hb16, hx10⟩
          · refine HT.cond1 rfl hb16 ?_
            refine HT.reg1 [4] [⟨none, .no⟩] ⟨[(4, .one (.dat .bool false))], [], 0⟩ hP hN (by kernel_rfl) allNil ?_
            have hx10 := of_some hx10
            subst hx10
            refine (Le.cv (s := ⟨[], [], [], false⟩) (own := []) (ps := [false = false]) (st' := ⟨[(4, .one (.dat .bool false))], [], 0⟩) hO (fun h => by cases h) (by kernel_rfl) ⟨rfl, trivial⟩).ht ?_
            exact HT.ret (qBlockR (qThenR (qLoopR (hk11 (.inr ()) rfl))))
          · refine HT.cond0 rfl hb16 ?_
            refine HT.skip (qBlock (qThen ?_))
            have hx10 := of_some hx10
            subst hx10
            refine HT.reg (rs := [⟨none, .no⟩, ⟨none, .no⟩]) (st' := ⟨[(21, .one (.dat (.int .i64) (wadd .i64 s5 (1 : Int)))), (34, .one (.dat (.int .i64) (wadd .i64 s5 (1 : Int)))), (0, .one (.ip (.st (.pair (.int .i64) (.pair (.int .i64) (.pair (.sl (.flt .f32)) (.pair (.sl (.flt .f32)) (.sl (.flt .f32))))))) a0 0)), (1, .one (.dat (.sl (.sl (.int .i64))) a1)), (20, .one (.dat (.int .i64) (lenI a1))), (21, .one (.dat (.int .i64) s5)), (33, .one (.dat .bool (!y14)))], [], 0⟩) hP hN (by kernel_rfl) allNil (qLoopN ⟨(wadd .i64 s5 (1 : Int)), rfl, Le.cv (s := ⟨[], [], [], false⟩) (own := []) (ps := [a0 = a0, a1 = a1, (lenI a1) = (lenI a1), (wadd .i64 s5 (1 : Int)) = (wadd .i64 s5 (1 : Int))]) (st' := ⟨[(0, .one (.ip (.st (.pair (.int .i64) (.pair (.int .i64) (.pair (.sl (.flt .f32)) (.pair (.sl (.flt .f32)) (.sl (.flt .f32))))))) a0 0)), (1, .one (.dat (.sl (.sl (.int .i64))) a1)), (20, .one (.dat (.int .i64) (lenI a1))), (21, .one (.dat (.int .i64) (wadd .i64 s5 (1 : Int))))], [], 0⟩) hO (fun h => by cases h) (by kernel_rfl) ⟨rfl, rfl, rfl, rfl, trivial⟩⟩)
        · refine HT.cond0 rfl hb12 ?_
          have hx10 := of_some hx10
          subst hx10
          refine (Le.cv (s := ⟨[], [], [], false⟩) (own := []) (ps := []) (st' := ⟨[], [], 0⟩) hO (fun h => by cases h) (by kernel_rfl) trivial).ht ?_
          exact HT.exit (qThenE (qLoopE (hk11 (.inl ()) rfl)))
  · obtain ⟨y18, hc19, hT3⟩ := of_bind hT3
    rcases of_bif hT3 with ⟨hb20, hT3⟩ | ⟨hb20, hT3⟩
    · refine HT.reg (rs := [⟨none, .no⟩, ⟨none, .call [.pimm (.st (.pair (.int .i64) (.pair (.int .i64) (.pair (.sl (.flt .f32)) (.pair (.sl (.flt .f32)) (.sl (.flt .f32)))))))] [⟨false, .bool, y18⟩] []⟩, ⟨none, .no⟩, ⟨none, .no⟩, ⟨some true, .no⟩, ⟨some true, .no⟩, ⟨some true, .no⟩, ⟨none, .tv true⟩, ⟨none, .no⟩, ⟨some true, .no⟩, ⟨some true, .no⟩, ⟨some true, .no⟩, ⟨none, .tv true⟩]) (st' := ⟨[(18, .one (.dat .bool true)), (17, .und), (16, .und), (15, .und), (14, .one (.dat .bool true)), (13, .one (.dat .bool true)), (12, .und), (11, .und), (10, .und), (9, .one (.dat .bool (!y18))), (8, .one (.dat .bool (!y18))), (7, .one (.dat .bool y18)), (6, .one (.ip (.st (.pair (.int .i64) (.pair (.int .i64) (.pair (.sl (.flt .f32)) (.pair (.sl (.flt .f32)) (.sl (.flt .f32))))))) a0 0)), (0, .one (.ip (.st (.pair (.int .i64) (.pair (.int .i64) (.pair (.sl (.flt .f32)) (.pair (.sl (.flt .f32)) (.sl (.flt .f32))))))) a0 0)), (1, .one (.dat (.sl (.sl (.int .i64))) a1))], [], 0⟩) hP hN (by kernel_rfl) (allCons (f116_ok hc19) (allCons hb20 (allCons hb20 (allCons hb20 (allCons hb20 (allCons (rfl : true = true) (allCons (rfl : true = true) (allCons (rfl : true = true) (allCons (rfl : true = true) allNil))))))))) (qThen ?_)
      exact (Le.cv (s := ⟨[], [], [], false⟩) (own := []) (ps := [a0 = a0, a1 = a1, true = true]) (st' := ⟨[(0, .one (.ip (.st (.pair (.int .i64) (.pair (.int .i64) (.pair (.sl (.flt .f32)) (.pair (.sl (.flt .f32)) (.sl (.flt .f32))))))) a0 0)), (1, .one (.dat (.sl (.sl (.int .i64))) a1)), (18, .one (.dat .bool true))], [], 0⟩) hO (fun h => by cases h) (by kernel_rfl) ⟨rfl, rfl, rfl, trivial⟩).ht (cont true (of_some hT3))
    · rcases of_bif hT3 with ⟨hb21, hT3⟩ | ⟨hb21, hT3⟩
      · refine HT.reg (rs := [⟨none, .no⟩, ⟨none, .call [.pimm (.st (.pair (.int .i64) (.pair (.int .i64) (.pair (.sl (.flt .f32)) (.pair (.sl (.flt .f32)) (.sl (.flt .f32)))))))] [⟨false, .bool, y18⟩] []⟩, ⟨none, .no⟩, ⟨none, .no⟩, ⟨some false, .no⟩, ⟨some false, .no⟩, ⟨some false, .no⟩, ⟨none, .tv false⟩, ⟨none, .no⟩, ⟨some true, .no⟩, ⟨some true, .no⟩, ⟨some true, .no⟩, ⟨none, .tv true⟩]) (st' := ⟨[(18, .one (.dat .bool true)), (17, .und), (16, .und), (15, .und), (14, .one (.dat .bool (decide ((lenI a1) < (1 : Int))))), (13, .one (.dat .bool (decide ((lenI a1) < (1 : Int))))), (12, .one (.dat .bool (decide ((lenI a1) < (1 : Int))))), (11, .one (.dat (.int .i64) (lenI a1))), (10, .one (.dat (.sl (.sl (.int .i64))) a1)), (9, .one (.dat .bool (!y18))), (8, .one (.dat .bool (!y18))), (7, .one (.dat .bool y18)), (6, .one (.ip (.st (.pair (.int .i64) (.pair (.int .i64) (.pair (.sl (.flt .f32)) (.pair (.sl (.flt .f32)) (.sl (.flt .f32))))))) a0 0)), (0, .one (.ip (.st (.pair (.int .i64) (.pair (.int .i64) (.pair (.sl (.flt .f32)) (.pair (.sl (.flt .f32)) (.sl (.flt .f32))))))) a0 0)), (1, .one (.dat (.sl (.sl (.int .i64))) a1))], [], 0⟩) hP hN (by kernel_rfl) (allCons (f116_ok hc19) (allCons hb20 (allCons hb20 (allCons hb20 (allCons hb20 (allCons hb21 (allCons hb21 (allCons hb21 (allCons hb21 allNil))))))))) (qThen ?_)
        exact (Le.cv (s := ⟨[], [], [], false⟩) (own := []) (ps := [a0 = a0, a1 = a1, true = true]) (st' := ⟨[(0, .one (.ip (.st (.pair (.int .i64) (.pair (.int .i64) (.pair (.sl (.flt .f32)) (.pair (.sl (.flt .f32)) (.sl (.flt .f32))))))) a0 0)), (1, .one (.dat (.sl (.sl (.int .i64))) a1)), (18, .one (.dat .bool true))], [], 0⟩) hO (fun h => by cases h) (by kernel_rfl) ⟨rfl, rfl, rfl, trivial⟩).ht (cont true (of_some hT3))
      · refine HT.reg (rs := [⟨none, .no⟩, ⟨none, .call [.pimm (.st (.pair (.int .i64) (.pair (.int .i64) (.pair (.sl (.flt .f32)) (.pair (.sl (.flt .f32)) (.sl (.flt .f32)))))))] [⟨false, .bool, y18⟩] []⟩, ⟨none, .no⟩, ⟨none, .no⟩, ⟨some false, .no⟩, ⟨some false, .no⟩, ⟨some false, .no⟩, ⟨none, .tv false⟩, ⟨none, .no⟩, ⟨some false, .no⟩, ⟨some false, .no⟩, ⟨some false, .no⟩, ⟨none, .tv false⟩]) (st' := ⟨[(18, .one (.dat .bool (decide ((lenI a1) > (16 : Int))))), (17, .one (.dat .bool (decide ((lenI a1) > (16 : Int))))), (16, .one (.dat (.int .i64) (lenI a1))), (15, .one (.dat (.sl (.sl (.int .i64))) a1)), (14, .one (.dat .bool (decide ((lenI a1) < (1 : Int))))), (13, .one (.dat .bool (decide ((lenI a1) < (1 : Int))))), (12, .one (.dat .bool (decide ((lenI a1) < (1 : Int))))), (11, .one (.dat (.int .i64) (lenI a1))), (10, .one (.dat (.sl (.sl (.int .i64))) a1)), (9, .one (.dat .bool (!y18))), (8, .one (.dat .bool (!y18))), (7, .one (.dat .bool y18)), (6, .one (.ip (.st (.pair (.int .i64) (.pair (.int .i64) (.pair (.sl (.flt .f32)) (.pair (.sl (.flt .f32)) (.sl (.flt .f32))))))) a0 0)), (0, .one (.ip (.st (.pair (.int .i64) (.pair (.int .i64) (.pair (.sl (.flt .f32)) (.pair (.sl (.flt .f32)) (.sl (.flt .f32))))))) a0 0)), (1, .one (.dat (.sl (.sl (.int .i64))) a1))], [], 0⟩) hP hN (by kernel_rfl) (allCons (f116_ok hc19) (allCons hb20 (allCons hb20 (allCons hb20 (allCons hb20 (allCons hb21 (allCons hb21 (allCons hb21 (allCons hb21 allNil))))))))) (qThen ?_)
        exact (Le.cv (s := ⟨[], [], [], false⟩) (own := []) (ps := [a0 = a0, a1 = a1, (decide ((lenI a1) > (16 : Int))) = (decide ((lenI a1) > (16 : Int)))]) (st' := ⟨[(0, .one (.ip (.st (.pair (.int .i64) (.pair (.int .i64) (.pair (.sl (.flt .f32)) (.pair (.sl (.flt .f32)) (.sl (.flt .f32))))))) a0 0)), (1, .one (.dat (.sl (.sl (.int .i64))) a1)), (18, .one (.dat .bool (decide ((lenI a1) > (16 : Int)))))], [], 0⟩) hO (fun h => by cases h) (by kernel_rfl) ⟨rfl, rfl, rfl, trivial⟩).ht (cont (decide ((lenI a1) > (16 : Int))) (of_some hT3))

noncomputable def spec_l03Word (a0 : Int × Int × List Nat × List Nat × List Nat) (a1 : List Int) : Option (Bool) :=
  (show Option (Bool) from
    (spec_l03Is (a0.1, a0.2.1, a0.2.2.1, a0.2.2.2.1, a0.2.2.2.2)).bind fun y4 =>
    bif y4 then
      (spec_l02Word a1 a0.2.1).bind fun y7 =>
      some y7
    else
      some false).bind fun v1 =>
  some v1

theorem f85_ok {a0 : Int × Int × List Nat × List Nat × List Nat} {a1 : List Int} {r : Bool} (hr : spec_l03Word a0 a1 = some r) : CallOK Try.prog 85 [.pimm (.st (.pair (.int .i64) (.pair (.int .i64) (.pair (.sl (.flt .f32)) (.pair (.sl (.flt .f32)) (.sl (.flt .f32))))))) a0, .imm (.sl (.int .i64)) a1] [⟨false, .bool, r⟩] [] := by
  unfold spec_l03Word at hr
  refine CallOK.of_body (ts := [(false, .bool)]) Try.func85 rfl (by kernel_rfl) (Nat.le_of_ble_eq_true (by kernel_rfl)) fun cx hP hN hO hF => ?_
  have hO : cx.own.map Prod.fst = [] := hO
  have hF := hF rfl
  show HT cx ⟨[(0, .one (.ip (.st (.pair (.int .i64) (.pair (.int .i64) (.pair (.sl (.flt .f32)) (.pair (.sl (.flt .f32)) (.sl (.flt .f32))))))) a0 0)), (1, .one (.dat (.sl (.int .i64)) a1))], [], 0⟩ _ _
  refine HT.reg1 [0, 1] [⟨none, .no⟩] ⟨[(0, .one (.ip (.st (.pair (.int .i64) (.pair (.int .i64) (.pair (.sl (.flt .f32)) (.pair (.sl (.flt .f32)) (.sl (.flt .f32))))))) a0 0)), (1, .one (.dat (.sl (.int .i64)) a1))], [], 0⟩ hP hN (by kernel_rfl) allNil ?_
  obtain ⟨v1', hT3, hr⟩ := of_bind hr
  refine HT.join (fun (v1 : Bool) => ⟨[(4, .one (.dat .bool v1))], [], 0⟩) (fun v => v = v1') (fun v1 hv2 => ?_) (fun cont => ?_)
  · subst hv2
    have hr := of_some hr
    subst hr
    exact HT.ret ⟨[.one (.dat .bool v1)], [], [], by kernel_rfl, by kernel_rfl, rfl, by kernel_rfl, by kernel_rfl, trivial⟩
  · obtain ⟨y4, hc5, hT3⟩ := of_bind hT3
    rcases of_bif hT3 with ⟨hb6, hT3⟩ | ⟨hb6, hT3⟩
    · obtain ⟨y7, hc8, hT3⟩ := of_bind hT3
      refine HT.reg (rs := [⟨none, .no⟩, ⟨none, .call [.pimm (.st (.pair (.int .i64) (.pair (.int .i64) (.pair (.sl (.flt .f32)) (.pair (.sl (.flt .f32)) (.sl (.flt .f32)))))))] [⟨false, .bool, y4⟩] []⟩, ⟨none, .no⟩, ⟨some true, .no⟩, ⟨some true, .no⟩, ⟨some true, .no⟩, ⟨some true, .no⟩, ⟨some true, .no⟩, ⟨some true, .call [.imm (.sl (.int .i64)), .imm (.int .i64)] [⟨false, .bool, y7⟩] []⟩, ⟨none, .tv true⟩, ⟨none, .no⟩]) (st' := ⟨[(4, .one (.dat .bool y7)), (14, .one (.dat .bool y7)), (13, .one (.dat .bool y7)), (12, .one (.dat (.int .i64) a0.2.1)), (11, .one (.ip (.st (.pair (.int .i64) (.pair (.int .i64) (.pair (.sl (.flt .f32)) (.pair (.sl (.flt .f32)) (.sl (.flt .f32))))))) a0 1)), (10, .one (.ip (.st (.pair (.int .i64) (.pair (.int .i64) (.pair (.sl (.flt .f32)) (.pair (.sl (.flt .f32)) (.sl (.flt .f32))))))) a0 0)), (9, .one (.ip (.st (.pair (.int .i64) (.pair (.int .i64) (.pair (.sl (.flt .f32)) (.pair (.sl (.flt .f32)) (.sl (.flt .f32))))))) a0 0)), (8, .one (.dat (.sl (.int .i64)) a1)), (7, .one (.dat .bool y4)), (6, .one (.dat .bool y4)), (5, .one (.ip (.st (.pair (.int .i64) (.pair (.int .i64) (.pair (.sl (.flt .f32)) (.pair (.sl (.flt .f32)) (.sl (.flt .f32))))))) a0 0)), (0, .one (.ip (.st (.pair (.int .i64) (.pair (.int .i64) (.pair (.sl (.flt .f32)) (.pair (.sl (.flt .f32)) (.sl (.flt .f32))))))) a0 0)), (1, .one (.dat (.sl (.int .i64)) a1))], [], 0⟩) hP hN (by kernel_rfl) (allCons (f116_ok hc5) (allCons hb6 (allCons hb6 (allCons hb6 (allCons hb6 (allCons hb6 (allCons hb6 (allCons (f122_ok hc8) (allCons hb6 allNil))))))))) (qThen ?_)
      exact (Le.cv (s := ⟨[], [], [], false⟩) (own := []) (ps := [y7 = y7]) (st' := ⟨[(4, .one (.dat .bool y7))], [], 0⟩) hO (fun h => by cases h) (by kernel_rfl) ⟨rfl, trivial⟩).ht (cont y7 (of_some hT3))
    · refine HT.reg (rs := [⟨none, .no⟩, ⟨none, .call [.pimm (.st (.pair (.int .i64) (.pair (.int .i64) (.pair (.sl (.flt .f32)) (.pair (.sl (.flt .f32)) (.sl (.flt .f32)))))))] [⟨false, .bool, y4⟩] []⟩, ⟨none, .no⟩, ⟨some false, .no⟩, ⟨some false, .no⟩, ⟨some false, .no⟩, ⟨some false, .no⟩, ⟨some false, .no⟩, ⟨some false, .no⟩, ⟨none, .tv false⟩, ⟨none, .no⟩]) (st' := ⟨[(4, .one (.dat .bool false)), (14, .one (.dat .bool false)), (13, .und), (12, .und), (11, .und), (10, .und), (9, .und), (8, .und), (7, .one (.dat .bool y4)), (6, .one (.dat .bool y4)), (5, .one (.ip (.st (.pair (.int .i64) (.pair (.int .i64) (.pair (.sl (.flt .f32)) (.pair (.sl (.flt .f32)) (.sl (.flt .f32))))))) a0 0)), (0, .one (.ip (.st (.pair (.int .i64) (.pair (.int .i64) (.pair (.sl (.flt .f32)) (.pair (.sl (.flt .f32)) (.sl (.flt .f32))))))) a0 0)), (1, .one (.dat (.sl (.int .i64)) a1))], [], 0⟩) hP hN (by kernel_rfl) (allCons (f116_ok hc5) (allCons hb6 (allCons hb6 (allCons hb6 (allCons hb6 (allCons hb6 (allCons hb6 (allCons hb6 allNil)))))))) (qThen ?_)
      exact (Le.cv (s := ⟨[], [], [], false⟩) (own := []) (ps := [false = false]) (st' := ⟨[(4, .one (.dat .bool false))], [], 0⟩) hO (fun h => by cases h) (by kernel_rfl) ⟨rfl, trivial⟩).ht (cont false (of_some hT3))

noncomputable def spec_l01Finite (a0 : Nat) : Option (Bool) :=
  some (feq .f32 (fop .sub .f32 a0 a0) (0 : Nat))

theorem f126_ok {a0 : Nat} {r : Bool} (hr : spec_l01Finite a0 = some r) : CallOK Try.prog 126 [.imm (.flt .f32) a0] [⟨false, .bool, r⟩] [] := by
  unfold spec_l01Finite at hr
  refine CallOK.of_body (ts := [(false, .bool)]) Try.func126 rfl (by kernel_rfl) (Nat.le_of_ble_eq_true (by kernel_rfl)) fun cx hP hN hO hF => ?_
  have hO : cx.own.map Prod.fst = [] := hO
  have hF := hF rfl
  show HT cx ⟨[(0, .one (.dat (.flt .f32) a0))], [], 0⟩ _ _
  refine HT.reg1 [0] [⟨none, .no⟩] ⟨[(0, .one (.dat (.flt .f32) a0))], [], 0⟩ hP hN (by kernel_rfl) allNil ?_
  refine HT.reg1 [2] [⟨none, .no⟩, ⟨none, .no⟩, ⟨none, .no⟩, ⟨none, .no⟩, ⟨none, .no⟩] ⟨[(2, .one (.dat .bool (feq .f32 (fop .sub .f32 a0 a0) (0 : Nat))))], [], 0⟩ hP hN (by kernel_rfl) allNil ?_
  have hr := of_some hr
  subst hr
  exact HT.ret ⟨[.one (.dat .bool (feq .f32 (fop .sub .f32 a0 a0) (0 : Nat)))], [], [], by kernel_rfl, by kernel_rfl, rfl, by kernel_rfl, by kernel_rfl, trivial⟩

noncomputable def spec_l02Number (a0 : Nat) : Option (Nat × Bool) :=
  (spec_l01Finite a0).bind fun y1 =>
  bif (!y1) then
    some ((0 : Nat), false)
  else
    some (a0, true)

theorem f98_ok {a0 : Nat} {r : Nat × Bool} (hr : spec_l02Number a0 = some r) : CallOK Try.prog 98 [.imm (.flt .f32) a0] [⟨false, (.flt .f32), r.1⟩, ⟨false, .bool, r.2⟩] [] := by
  unfold spec_l02Number at hr
  refine CallOK.of_body (ts := [(false, (.flt .f32)), (false, .bool)]) Try.func98 rfl (by kernel_rfl) (Nat.le_of_ble_eq_true (by kernel_rfl)) fun cx hP hN hO hF => ?_
  have hO : cx.own.map Prod.fst = [] := hO
  have hF := hF rfl
  show HT cx ⟨[(0, .one (.dat (.flt .f32) a0))], [], 0⟩ _ _
  refine HT.reg1 [0] [⟨none, .no⟩, ⟨none, .no⟩] ⟨[(0, .one (.dat (.flt .f32) a0))], [], 0⟩ hP hN (by kernel_rfl) allNil ?_
  refine HT.seq ?_
  obtain ⟨y1, hc2, hr⟩ := of_bind hr
  refine HT.reg1 [0, 6] [⟨none, .no⟩, ⟨none, .call [.imm (.flt .f32)] [⟨false, .bool, y1⟩] []⟩, ⟨none, .no⟩] ⟨[(0, .one (.dat (.flt .f32) a0)), (6, .one (.dat .bool (!y1)))], [], 0⟩ hP hN (by kernel_rfl) (allCons (f126_ok hc2) allNil) ?_
  rcases of_bif hr with ⟨hb3, hr⟩ | ⟨hb3, hr⟩
  · refine HT.cond1 rfl hb3 ?_
    refine HT.reg1 [2, 3] [⟨none, .no⟩, ⟨none, .no⟩] ⟨[(2, .one (.dat (.flt .f32) (0 : Nat))), (3, .one (.dat .bool false))], [], 0⟩ hP hN (by kernel_rfl) allNil ?_
    have hr := of_some hr
    subst hr
    exact HT.ret (qThenR ⟨[.one (.dat (.flt .f32) (0 : Nat)), .one (.dat .bool false)], [], [], by kernel_rfl, by kernel_rfl, rfl, by kernel_rfl, by kernel_rfl, trivial⟩)
  · refine HT.cond0 rfl hb3 ?_
    refine HT.skip (qThen ?_)
    refine HT.reg1 [2, 3] [⟨none, .no⟩, ⟨none, .no⟩, ⟨none, .no⟩] ⟨[(2, .one (.dat (.flt .f32) a0)), (3, .one (.dat .bool true))], [], 0⟩ hP hN (by kernel_rfl) allNil ?_
    have hr := of_some hr
    subst hr
    exact HT.ret ⟨[.one (.dat (.flt .f32) a0), .one (.dat .bool true)], [], [], by kernel_rfl, by kernel_rfl, rfl, by kernel_rfl, by kernel_rfl, trivial⟩

noncomputable def spec_l03Next_B1 (a0 : Int × Int × List Nat × List Nat × List Nat) (a1 : List Nat) (a2 : Int) (s1 : Int × List Nat) (s8 : Nat × Int) : Option ((Nat × Int) ⊕ (Nat)) :=
  bif (decide (s8.2 < a0.1)) then
    guardP ((0 : Int) ≤ s8.2 ∧ s8.2 < lenI a1) (
      guardP ((0 : Int) ≤ (wadd .i64 (wmul .i64 s8.2 a0.2.1) a2) ∧ (wadd .i64 (wmul .i64 s8.2 a0.2.1) a2) < lenI a0.2.2.2.2) (
        guardP ((0 : Int) ≤ (wadd .i64 (wmul .i64 s8.2 a0.1) s1.1) ∧ (wadd .i64 (wmul .i64 s8.2 a0.1) s1.1) < lenI a0.2.2.2.1) (
          some (.inl ((fop .add .f32 s8.1 (fop .mul .f32 (fop .mul .f32 (List.getD a1 (Int.toNat s8.2) (0 : Nat)) (List.getD a0.2.2.2.2 (Int.toNat (wadd .i64 (wmul .i64 s8.2 a0.2.1) a2)) (0 : Nat))) (List.getD a0.2.2.2.1 (Int.toNat (wadd .i64 (wmul .i64 s8.2 a0.1) s1.1)) (0 : Nat)))), (wadd .i64 s8.2 (1 : Int)))))))
  else
    some (.inr s8.1)

noncomputable def spec_l03Next_B2 (a0 : Int × Int × List Nat × List Nat × List Nat) (a1 : List Nat) (a2 : Int) (s1 : Int × List Nat) : Option ((Int × List Nat) ⊕ (List Nat)) :=
  bif (decide (s1.1 < a0.1)) then
    (rounds (spec_l03Next_B1 a0 a1 a2 s1) ((0 : Nat), (0 : Int))).bind fun r10 =>
    guardP (List.length s1.2 + List.length ([r10] : List Nat) ≤ appMax) (
      some (.inl ((wadd .i64 s1.1 (1 : Int)), (s1.2 ++ ([r10] : List Nat)))))
  else
    some (.inr s1.2)

noncomputable def spec_l03Next (a0 : Int × Int × List Nat × List Nat × List Nat) (a1 : List Nat) (a2 : Int) : Option (List Nat) :=
  (rounds (spec_l03Next_B2 a0 a1 a2) ((0 : Int), ([] : List Nat))).bind fun r3 =>
  some r3

theorem f96_ok {a0 : Int × Int × List Nat × List Nat × List Nat} {a1 : List Nat} {a2 : Int} {r : List Nat} (hr : spec_l03Next a0 a1 a2 = some r) : CallOK Try.prog 96 [.pimm (.st (.pair (.int .i64) (.pair (.int .i64) (.pair (.sl (.flt .f32)) (.pair (.sl (.flt .f32)) (.sl (.flt .f32))))))) a0, .imm (.sl (.flt .f32)) a1, .imm (.int .i64) a2] [⟨true, (.sl (.flt .f32)), r⟩] [] := by
  unfold spec_l03Next at hr
  refine CallOK.of_body (ts := [(true, (.sl (.flt .f32)))]) Try.func96 rfl (by kernel_rfl) (Nat.le_of_ble_eq_true (by kernel_rfl)) fun cx hP hN hO hF => ?_
  have hO : cx.own.map Prod.fst = [] := hO
  have hF := hF rfl
  show HT cx ⟨[(0, .one (.ip (.st (.pair (.int .i64) (.pair (.int .i64) (.pair (.sl (.flt .f32)) (.pair (.sl (.flt .f32)) (.sl (.flt .f32))))))) a0 0)), (1, .one (.dat (.sl (.flt .f32)) a1)), (2, .one (.dat (.int .i64) a2))], [], 0⟩ _ _
  refine HT.reg1 [0, 1, 2] [⟨none, .no⟩] ⟨[(0, .one (.ip (.st (.pair (.int .i64) (.pair (.int .i64) (.pair (.sl (.flt .f32)) (.pair (.sl (.flt .f32)) (.sl (.flt .f32))))))) a0 0)), (1, .one (.dat (.sl (.flt .f32)) a1)), (2, .one (.dat (.int .i64) a2))], [], 0⟩ hP hN (by kernel_rfl) allNil ?_
  refine HT.reg1 [0, 1, 2, 7] [⟨none, .no⟩, ⟨none, .no⟩] ⟨[(0, .one (.ip (.st (.pair (.int .i64) (.pair (.int .i64) (.pair (.sl (.flt .f32)) (.pair (.sl (.flt .f32)) (.sl (.flt .f32))))))) a0 0)), (1, .one (.dat (.sl (.flt .f32)) a1)), (2, .one (.dat (.int .i64) a2)), (7, .one (.nilS))], [], 0⟩ hP hN (by kernel_rfl) allNil ?_
  refine HT.seq ?_
  refine HT.reg1 [0, 1, 2, 7, 8] [⟨none, .no⟩] ⟨[(0, .one (.ip (.st (.pair (.int .i64) (.pair (.int .i64) (.pair (.sl (.flt .f32)) (.pair (.sl (.flt .f32)) (.sl (.flt .f32))))))) a0 0)), (1, .one (.dat (.sl (.flt .f32)) a1)), (2, .one (.dat (.int .i64) a2)), (7, .one (.nilS)), (8, .one (.dat (.int .i64) (0 : Int)))], [], 0⟩ hP hN (by kernel_rfl) allNil ?_
  refine HT.block ?_
  obtain ⟨r2, hL20, hr⟩ := of_bind hr
  refine (Le.cv (s := ⟨[], [0], [], false⟩) (own := []) (ps := [a0 = a0, a1 = a1, a2 = a2, (0 : Int) = (0 : Int), ([] : List Nat) = []]) (st' := ⟨[(0, .one (.ip (.st (.pair (.int .i64) (.pair (.int .i64) (.pair (.sl (.flt .f32)) (.pair (.sl (.flt .f32)) (.sl (.flt .f32))))))) a0 0)), (1, .one (.dat (.sl (.flt .f32)) a1)), (2, .one (.dat (.int .i64) a2)), (7, .one (.all 0)), (8, .one (.dat (.int .i64) (0 : Int)))], [(0, .seq (.flt .f32) ([] : List Nat))], 1⟩) hO (fun h => by cases h) (by kernel_rfl) ⟨rfl, rfl, rfl, rfl, rfl, trivial⟩).ht ?_
  refine HT.loopE (s := ((0 : Int), ([] : List Nat))) (fun (s1 : Int × List Nat) => ⟨[(0, .one (.ip (.st (.pair (.int .i64) (.pair (.int .i64) (.pair (.sl (.flt .f32)) (.pair (.sl (.flt .f32)) (.sl (.flt .f32))))))) a0 0)), (1, .one (.dat (.sl (.flt .f32)) a1)), (2, .one (.dat (.int .i64) a2)), (7, .one (.all 0)), (8, .one (.dat (.int .i64) s1.1))], [(0, .seq (.flt .f32) s1.2)], 1⟩) (fun (r3 : List Nat) => (.exit 0, ⟨[(7, .one (.all 0))], [(0, .seq (.flt .f32) r3)], 1⟩)) hL20 ?_ (fun s1 x4 hx5 hk6 => ?_)
  · refine (qBlockX (qThen ?_))
    refine HT.reg1 [6] [⟨none, .no⟩, ⟨none, .no⟩] ⟨[(6, .one (.all 0))], [(0, .seq (.flt .f32) r2)], 1⟩ hP hN (by kernel_rfl) allNil ?_
    have hr := of_some hr
    subst hr
    exact HT.ret ⟨[.one (.all 0)], [0], [], by kernel_rfl, by kernel_rfl, rfl, by kernel_rfl, by kernel_rfl, trivial⟩
  · refine HT.seq ?_
    refine HT.reg1 [0, 1, 2, 7, 8, 17] [⟨none, .no⟩, ⟨none, .no⟩, ⟨none, .no⟩, ⟨none, .no⟩, ⟨none, .no⟩, ⟨none, .no⟩] ⟨[(0, .one (.ip (.st (.pair (.int .i64) (.pair (.int .i64) (.pair (.sl (.flt .f32)) (.pair (.sl (.flt .f32)) (.sl (.flt .f32))))))) a0 0)), (1, .one (.dat (.sl (.flt .f32)) a1)), (2, .one (.dat (.int .i64) a2)), (7, .one (.all 0)), (8, .one (.dat (.int .i64) s1.1)), (17, .one (.dat .bool (decide (s1.1 < a0.1))))], [(0, .seq (.flt .f32) s1.2)], 1⟩ hP hN (by kernel_rfl) allNil ?_
    rcases of_bif hx5 with ⟨hb7, hx5⟩ | ⟨hb7, hx5⟩
    · refine HT.cond1 rfl hb7 ?_
      refine HT.skip (qThen ?_)
      refine HT.seq ?_
      refine HT.block ?_
      refine HT.reg1 [0, 1, 2, 7, 8, 9] [⟨none, .no⟩] ⟨[(0, .one (.ip (.st (.pair (.int .i64) (.pair (.int .i64) (.pair (.sl (.flt .f32)) (.pair (.sl (.flt .f32)) (.sl (.flt .f32))))))) a0 0)), (1, .one (.dat (.sl (.flt .f32)) a1)), (2, .one (.dat (.int .i64) a2)), (7, .one (.all 0)), (8, .one (.dat (.int .i64) s1.1)), (9, .one (.dat (.flt .f32) (0 : Nat)))], [(0, .seq (.flt .f32) s1.2)], 1⟩ hP hN (by kernel_rfl) allNil ?_
      refine HT.seq ?_
      refine HT.reg1 [0, 1, 2, 7, 8, 9, 10] [⟨none, .no⟩] ⟨[(0, .one (.ip (.st (.pair (.int .i64) (.pair (.int .i64) (.pair (.sl (.flt .f32)) (.pair (.sl (.flt .f32)) (.sl (.flt .f32))))))) a0 0)), (1, .one (.dat (.sl (.flt .f32)) a1)), (2, .one (.dat (.int .i64) a2)), (7, .one (.all 0)), (8, .one (.dat (.int .i64) s1.1)), (9, .one (.dat (.flt .f32) (0 : Nat))), (10, .one (.dat (.int .i64) (0 : Int)))], [(0, .seq (.flt .f32) s1.2)], 1⟩ hP hN (by kernel_rfl) allNil ?_
      refine HT.block ?_
      obtain ⟨r9, hL19, hx5⟩ := of_bind hx5
      refine (Le.cv (s := ⟨[(0, 0)], [], [], false⟩) (own := []) (ps := [a0 = a0, a1 = a1, a2 = a2, s1.1 = s1.1, (0 : Nat) = (0 : Nat), (0 : Int) = (0 : Int), s1.2 = s1.2]) (st' := ⟨[(0, .one (.ip (.st (.pair (.int .i64) (.pair (.int .i64) (.pair (.sl (.flt .f32)) (.pair (.sl (.flt .f32)) (.sl (.flt .f32))))))) a0 0)), (1, .one (.dat (.sl (.flt .f32)) a1)), (2, .one (.dat (.int .i64) a2)), (7, .one (.all 0)), (8, .one (.dat (.int .i64) s1.1)), (9, .one (.dat (.flt .f32) (0 : Nat))), (10, .one (.dat (.int .i64) (0 : Int)))], [(0, .seq (.flt .f32) s1.2)], 1⟩) hO (fun h => by cases h) (by kernel_rfl) ⟨rfl, rfl, rfl, rfl, rfl, rfl, rfl, trivial⟩).ht ?_
      refine HT.loopE (s := ((0 : Nat), (0 : Int))) (fun (s8 : Nat × Int) => ⟨[(0, .one (.ip (.st (.pair (.int .i64) (.pair (.int .i64) (.pair (.sl (.flt .f32)) (.pair (.sl (.flt .f32)) (.sl (.flt .f32))))))) a0 0)), (1, .one (.dat (.sl (.flt .f32)) a1)), (2, .one (.dat (.int .i64) a2)), (7, .one (.all 0)), (8, .one (.dat (.int .i64) s1.1)), (9, .one (.dat (.flt .f32) s8.1)), (10, .one (.dat (.int .i64) s8.2))], [(0, .seq (.flt .f32) s1.2)], 1⟩) (fun (r10 : Nat) => (.exit 2, ⟨[(0, .one (.ip (.st (.pair (.int .i64) (.pair (.int .i64) (.pair (.sl (.flt .f32)) (.pair (.sl (.flt .f32)) (.sl (.flt .f32))))))) a0 0)), (1, .one (.dat (.sl (.flt .f32)) a1)), (2, .one (.dat (.int .i64) a2)), (7, .one (.all 0)), (8, .one (.dat (.int .i64) s1.1)), (9, .one (.dat (.flt .f32) r10))], [(0, .seq (.flt .f32) s1.2)], 1⟩)) hL19 ?_ (fun s8 x12 hx13 hk14 => ?_)
      · refine (qBlockX (qThen ?_))
        obtain ⟨hg11, hx5⟩ := of_guard hx5
        refine HT.reg (rs := [⟨none, .no⟩, ⟨none, .no⟩, ⟨none, .ty (.flt .f32)⟩, ⟨none, .ty (.flt .f32)⟩, ⟨none, .no⟩]) (st' := ⟨[(7, .one (.all 2)), (67, .one (.all 2)), (66, .one (.all 1)), (65, .one (.dat (.flt .f32) r9)), (64, .one (.all 0)), (0, .one (.ip (.st (.pair (.int .i64) (.pair (.int .i64) (.pair (.sl (.flt .f32)) (.pair (.sl (.flt .f32)) (.sl (.flt .f32))))))) a0 0)), (1, .one (.dat (.sl (.flt .f32)) a1)), (2, .one (.dat (.int .i64) a2)), (7, .one (.all 0)), (8, .one (.dat (.int .i64) s1.1)), (9, .one (.dat (.flt .f32) r9))], [(0, .gone), (2, .seq (.flt .f32) (s1.2 ++ ([r9] : List Nat))), (1, .seq (.flt .f32) ([r9] : List Nat)), (0, .seq (.flt .f32) s1.2)], 3⟩) hP hN (by kernel_rfl) (allCons hg11 allNil) (qBlock (qThen ?_))
        have hx5 := of_some hx5
        subst hx5
        refine HT.reg (rs := [⟨none, .no⟩, ⟨none, .no⟩, ⟨none, .no⟩]) (st' := ⟨[(8, .one (.dat (.int .i64) (wadd .i64 s1.1 (1 : Int)))), (19, .one (.dat (.int .i64) (wadd .i64 s1.1 (1 : Int)))), (18, .one (.dat (.int .i64) s1.1)), (7, .one (.all 2)), (67, .one (.all 2)), (66, .one (.all 1)), (65, .one (.dat (.flt .f32) r9)), (64, .one (.all 0)), (0, .one (.ip (.st (.pair (.int .i64) (.pair (.int .i64) (.pair (.sl (.flt .f32)) (.pair (.sl (.flt .f32)) (.sl (.flt .f32))))))) a0 0)), (1, .one (.dat (.sl (.flt .f32)) a1)), (2, .one (.dat (.int .i64) a2)), (7, .one (.all 0)), (8, .one (.dat (.int .i64) s1.1)), (9, .one (.dat (.flt .f32) r9))], [(0, .gone), (2, .seq (.flt .f32) (s1.2 ++ ([r9] : List Nat))), (1, .seq (.flt .f32) ([r9] : List Nat)), (0, .seq (.flt .f32) s1.2)], 3⟩) hP hN (by kernel_rfl) allNil (qLoopN ⟨((wadd .i64 s1.1 (1 : Int)), (s1.2 ++ ([r9] : List Nat))), rfl, Le.cv (s := ⟨[(2, 0)], [], [], false⟩) (own := []) (ps := [a0 = a0, a1 = a1, a2 = a2, (wadd .i64 s1.1 (1 : Int)) = (wadd .i64 s1.1 (1 : Int)), (s1.2 ++ ([r9] : List Nat)) = (s1.2 ++ ([r9] : List Nat))]) (st' := ⟨[(0, .one (.ip (.st (.pair (.int .i64) (.pair (.int .i64) (.pair (.sl (.flt .f32)) (.pair (.sl (.flt .f32)) (.sl (.flt .f32))))))) a0 0)), (1, .one (.dat (.sl (.flt .f32)) a1)), (2, .one (.dat (.int .i64) a2)), (7, .one (.all 0)), (8, .one (.dat (.int .i64) (wadd .i64 s1.1 (1 : Int))))], [(0, .seq (.flt .f32) (s1.2 ++ ([r9] : List Nat)))], 1⟩) hO (fun h => by cases h) (by kernel_rfl) ⟨rfl, rfl, rfl, rfl, rfl, trivial⟩⟩)
      · refine HT.seq ?_
        refine HT.reg1 [0, 1, 2, 7, 8, 9, 10, 25] [⟨none, .no⟩, ⟨none, .no⟩, ⟨none, .no⟩, ⟨none, .no⟩, ⟨none, .no⟩, ⟨none, .no⟩] ⟨[(0, .one (.ip (.st (.pair (.int .i64) (.pair (.int .i64) (.pair (.sl (.flt .f32)) (.pair (.sl (.flt .f32)) (.sl (.flt .f32))))))) a0 0)), (1, .one (.dat (.sl (.flt .f32)) a1)), (2, .one (.dat (.int .i64) a2)), (7, .one (.all 0)), (8, .one (.dat (.int .i64) s1.1)), (9, .one (.dat (.flt .f32) s8.1)), (10, .one (.dat (.int .i64) s8.2)), (25, .one (.dat .bool (decide (s8.2 < a0.1))))], [(0, .seq (.flt .f32) s1.2)], 1⟩ hP hN (by kernel_rfl) allNil ?_
        rcases of_bif hx13 with ⟨hb15, hx13⟩ | ⟨hb15, hx13⟩
        · refine HT.cond1 rfl hb15 ?_
          refine HT.skip (qThen ?_)
          refine HT.seq ?_
          refine HT.block ?_
          obtain ⟨hg16, hx13⟩ := of_guard hx13
          obtain ⟨hg17, hx13⟩ := of_guard hx13
          obtain ⟨hg18, hx13⟩ := of_guard hx13
          refine drawS (h := 35) (hrs := [⟨⟨none, .no⟩, []⟩, ⟨⟨none, .no⟩, []⟩, ⟨⟨none, .no⟩, []⟩, ⟨⟨none, .no⟩, [1, 2]⟩, ⟨⟨none, .no⟩, [1, 2, 3]⟩, ⟨⟨none, .no⟩, []⟩, ⟨⟨none, .no⟩, [5]⟩, ⟨⟨none, .no⟩, [5, 6]⟩, ⟨⟨none, .no⟩, [5, 6, 7]⟩, ⟨⟨none, .no⟩, []⟩, ⟨⟨none, .no⟩, []⟩, ⟨⟨none, .no⟩, [10]⟩, ⟨⟨none, .no⟩, [10, 11]⟩, ⟨⟨none, .no⟩, [10, 11, 12]⟩, ⟨⟨none, .no⟩, [9, 10, 11, 12, 13]⟩, ⟨⟨none, .no⟩, []⟩, ⟨⟨none, .no⟩, [9, 10, 11, 12, 13, 14, 15]⟩, ⟨⟨none, .no⟩, [5, 6, 7, 8, 9, 10, 11, 12, 13, 14, 15, 16]⟩, ⟨⟨none, .no⟩, [5, 6, 7, 8, 9, 10, 11, 12, 13, 14, 15, 16, 17]⟩, ⟨⟨none, .no⟩, [1, 2, 3, 4, 5, 6, 7, 8, 9, 10, 11, 12, 13, 14, 15, 16, 17, 18]⟩, ⟨⟨none, .no⟩, []⟩, ⟨⟨none, .no⟩, [20]⟩, ⟨⟨none, .no⟩, [20, 21]⟩, ⟨⟨none, .no⟩, [20, 21, 22]⟩, ⟨⟨none, .no⟩, []⟩, ⟨⟨none, .no⟩, []⟩, ⟨⟨none, .no⟩, [25]⟩, ⟨⟨none, .no⟩, [25, 26]⟩, ⟨⟨none, .no⟩, [25, 26, 27]⟩, ⟨⟨none, .no⟩, [24, 25, 26, 27, 28]⟩, ⟨⟨none, .no⟩, []⟩, ⟨⟨none, .no⟩, [24, 25, 26, 27, 28, 29, 30]⟩, ⟨⟨none, .no⟩, [20, 21, 22, 23, 24, 25, 26, 27, 28, 29, 30, 31]⟩, ⟨⟨none, .no⟩, [20, 21, 22, 23, 24, 25, 26, 27, 28, 29, 30, 31, 32]⟩, ⟨⟨none, .no⟩, [1, 2, 3, 4, 5, 6, 7, 8, 9, 10, 11, 12, 13, 14, 15, 16, 17, 18, 19, 20, 21, 22, 23, 24, 25, 26, 27, 28, 29, 30, 31, 32, 33]⟩]) (tds := [[0, 1, 2, 3, 4, 5, 6, 7, 8, 9, 10, 11, 12, 13, 14, 15, 16, 17, 18, 19, 20, 21, 22, 23, 24, 25, 26, 27, 28, 29, 30, 31, 32, 33, 34], [0, 1, 2, 3, 4, 5, 6, 7, 8, 9, 10, 11, 12, 13, 14, 15, 16, 17, 18, 19, 20, 21, 22, 23, 24, 25, 26, 27, 28, 29, 30, 31, 32, 33, 34, 35]]) (rs := [⟨none, .no⟩, ⟨none, .no⟩]) (st' := ⟨[(9, .one (.dat (.flt .f32) (fop .add .f32 s8.1 (fop .mul .f32 (fop .mul .f32 (List.getD a1 (Int.toNat s8.2) (0 : Nat)) (List.getD a0.2.2.2.2 (Int.toNat (wadd .i64 (wmul .i64 s8.2 a0.2.1) a2)) (0 : Nat))) (List.getD a0.2.2.2.1 (Int.toNat (wadd .i64 (wmul .i64 s8.2 a0.1) s1.1)) (0 : Nat)))))), (63, .one (.dat (.flt .f32) (fop .add .f32 s8.1 (fop .mul .f32 (fop .mul .f32 (List.getD a1 (Int.toNat s8.2) (0 : Nat)) (List.getD a0.2.2.2.2 (Int.toNat (wadd .i64 (wmul .i64 s8.2 a0.2.1) a2)) (0 : Nat))) (List.getD a0.2.2.2.1 (Int.toNat (wadd .i64 (wmul .i64 s8.2 a0.1) s1.1)) (0 : Nat)))))), (62, .one (.dat (.flt .f32) (fop .mul .f32 (fop .mul .f32 (List.getD a1 (Int.toNat s8.2) (0 : Nat)) (List.getD a0.2.2.2.2 (Int.toNat (wadd .i64 (wmul .i64 s8.2 a0.2.1) a2)) (0 : Nat))) (List.getD a0.2.2.2.1 (Int.toNat (wadd .i64 (wmul .i64 s8.2 a0.1) s1.1)) (0 : Nat))))), (61, .one (.dat (.flt .f32) (List.getD a0.2.2.2.1 (Int.toNat (wadd .i64 (wmul .i64 s8.2 a0.1) s1.1)) (0 : Nat)))), (60, .one (.ip (.flt .f32) (List.getD a0.2.2.2.1 (Int.toNat (wadd .i64 (wmul .i64 s8.2 a0.1) s1.1)) (0 : Nat)) 0)), (59, .one (.dat (.int .i64) (wadd .i64 (wmul .i64 s8.2 a0.1) s1.1))), (58, .one (.dat (.int .i64) s1.1)), (57, .one (.dat (.int .i64) (wmul .i64 s8.2 a0.1))), (56, .one (.dat (.int .i64) a0.1)), (55, .one (.ip (.st (.pair (.int .i64) (.pair (.int .i64) (.pair (.sl (.flt .f32)) (.pair (.sl (.flt .f32)) (.sl (.flt .f32))))))) a0 0)), (54, .one (.ip (.st (.pair (.int .i64) (.pair (.int .i64) (.pair (.sl (.flt .f32)) (.pair (.sl (.flt .f32)) (.sl (.flt .f32))))))) a0 0)), (53, .one (.ip (.st (.pair (.int .i64) (.pair (.int .i64) (.pair (.sl (.flt .f32)) (.pair (.sl (.flt .f32)) (.sl (.flt .f32))))))) a0 0)), (52, .one (.dat (.int .i64) s8.2)), (51, .one (.dat (.sl (.flt .f32)) a0.2.2.2.1)), (50, .one (.ip (.st (.pair (.int .i64) (.pair (.int .i64) (.pair (.sl (.flt .f32)) (.pair (.sl (.flt .f32)) (.sl (.flt .f32))))))) a0 3)), (49, .one (.ip (.st (.pair (.int .i64) (.pair (.int .i64) (.pair (.sl (.flt .f32)) (.pair (.sl (.flt .f32)) (.sl (.flt .f32))))))) a0 0)), (48, .one (.ip (.st (.pair (.int .i64) (.pair (.int .i64) (.pair (.sl (.flt .f32)) (.pair (.sl (.flt .f32)) (.sl (.flt .f32))))))) a0 0)), (47, .one (.dat (.flt .f32) (fop .mul .f32 (List.getD a1 (Int.toNat s8.2) (0 : Nat)) (List.getD a0.2.2.2.2 (Int.toNat (wadd .i64 (wmul .i64 s8.2 a0.2.1) a2)) (0 : Nat))))), (46, .one (.dat (.flt .f32) (List.getD a0.2.2.2.2 (Int.toNat (wadd .i64 (wmul .i64 s8.2 a0.2.1) a2)) (0 : Nat)))), (45, .one (.ip (.flt .f32) (List.getD a0.2.2.2.2 (Int.toNat (wadd .i64 (wmul .i64 s8.2 a0.2.1) a2)) (0 : Nat)) 0)), (44, .one (.dat (.int .i64) (wadd .i64 (wmul .i64 s8.2 a0.2.1) a2))), (43, .one (.dat (.int .i64) a2)), (42, .one (.dat (.int .i64) (wmul .i64 s8.2 a0.2.1))), (41, .one (.dat (.int .i64) a0.2.1)), (40, .one (.ip (.st (.pair (.int .i64) (.pair (.int .i64) (.pair (.sl (.flt .f32)) (.pair (.sl (.flt .f32)) (.sl (.flt .f32))))))) a0 1)), (39, .one (.ip (.st (.pair (.int .i64) (.pair (.int .i64) (.pair (.sl (.flt .f32)) (.pair (.sl (.flt .f32)) (.sl (.flt .f32))))))) a0 0)), (38, .one (.ip (.st (.pair (.int .i64) (.pair (.int .i64) (.pair (.sl (.flt .f32)) (.pair (.sl (.flt .f32)) (.sl (.flt .f32))))))) a0 0)), (37, .one (.dat (.int .i64) s8.2)), (36, .one (.dat (.sl (.flt .f32)) a0.2.2.2.2)), (35, .one (.ip (.st (.pair (.int .i64) (.pair (.int .i64) (.pair (.sl (.flt .f32)) (.pair (.sl (.flt .f32)) (.sl (.flt .f32))))))) a0 4)), (34, .one (.ip (.st (.pair (.int .i64) (.pair (.int .i64) (.pair (.sl (.flt .f32)) (.pair (.sl (.flt .f32)) (.sl (.flt .f32))))))) a0 0)), (33, .one (.ip (.st (.pair (.int .i64) (.pair (.int .i64) (.pair (.sl (.flt .f32)) (.pair (.sl (.flt .f32)) (.sl (.flt .f32))))))) a0 0)), (32, .one (.dat (.flt .f32) (List.getD a1 (Int.toNat s8.2) (0 : Nat)))), (31, .one (.ip (.flt .f32) (List.getD a1 (Int.toNat s8.2) (0 : Nat)) 0)), (30, .one (.dat (.int .i64) s8.2)), (29, .one (.dat (.sl (.flt .f32)) a1)), (28, .one (.dat (.flt .f32) s8.1)), (0, .one (.ip (.st (.pair (.int .i64) (.pair (.int .i64) (.pair (.sl (.flt .f32)) (.pair (.sl (.flt .f32)) (.sl (.flt .f32))))))) a0 0)), (1, .one (.dat (.sl (.flt .f32)) a1)), (2, .one (.dat (.int .i64) a2)), (7, .one (.all 0)), (8, .one (.dat (.int .i64) s1.1)), (9, .one (.dat (.flt .f32) s8.1)), (10, .one (.dat (.int .i64) s8.2)), (25, .one (.dat .bool (decide (s8.2 < a0.1))))], [(0, .seq (.flt .f32) s1.2)], 1⟩) hP hN (by kernel_rfl) (by kernel_rfl) (allCons hg16 (allCons hg17 (allCons hg18 allNil))) (qBlock (qThen ?_))
          have hx13 := of_some hx13
          subst hx13
          refine HT.reg (rs := [⟨none, .no⟩, ⟨none, .no⟩, ⟨none, .no⟩]) (st' := ⟨[(10, .one (.dat (.int .i64) (wadd .i64 s8.2 (1 : Int)))), (27, .one (.dat (.int .i64) (wadd .i64 s8.2 (1 : Int)))), (26, .one (.dat (.int .i64) s8.2)), (9, .one (.dat (.flt .f32) (fop .add .f32 s8.1 (fop .mul .f32 (fop .mul .f32 (List.getD a1 (Int.toNat s8.2) (0 : Nat)) (List.getD a0.2.2.2.2 (Int.toNat (wadd .i64 (wmul .i64 s8.2 a0.2.1) a2)) (0 : Nat))) (List.getD a0.2.2.2.1 (Int.toNat (wadd .i64 (wmul .i64 s8.2 a0.1) s1.1)) (0 : Nat)))))), (63, .one (.dat (.flt .f32) (fop .add .f32 s8.1 (fop .mul .f32 (fop .mul .f32 (List.getD a1 (Int.toNat s8.2) (0 : Nat)) (List.getD a0.2.2.2.2 (Int.toNat (wadd .i64 (wmul .i64 s8.2 a0.2.1) a2)) (0 : Nat))) (List.getD a0.2.2.2.1 (Int.toNat (wadd .i64 (wmul .i64 s8.2 a0.1) s1.1)) (0 : Nat)))))), (62, .one (.dat (.flt .f32) (fop .mul .f32 (fop .mul .f32 (List.getD a1 (Int.toNat s8.2) (0 : Nat)) (List.getD a0.2.2.2.2 (Int.toNat (wadd .i64 (wmul .i64 s8.2 a0.2.1) a2)) (0 : Nat))) (List.getD a0.2.2.2.1 (Int.toNat (wadd .i64 (wmul .i64 s8.2 a0.1) s1.1)) (0 : Nat))))), (61, .one (.dat (.flt .f32) (List.getD a0.2.2.2.1 (Int.toNat (wadd .i64 (wmul .i64 s8.2 a0.1) s1.1)) (0 : Nat)))), (60, .one (.ip (.flt .f32) (List.getD a0.2.2.2.1 (Int.toNat (wadd .i64 (wmul .i64 s8.2 a0.1) s1.1)) (0 : Nat)) 0)), (59, .one (.dat (.int .i64) (wadd .i64 (wmul .i64 s8.2 a0.1) s1.1))), (58, .one (.dat (.int .i64) s1.1)), (57, .one (.dat (.int .i64) (wmul .i64 s8.2 a0.1))), (56, .one (.dat (.int .i64) a0.1)), (55, .one (.ip (.st (.pair (.int .i64) (.pair (.int .i64) (.pair (.sl (.flt .f32)) (.pair (.sl (.flt .f32)) (.sl (.flt .f32))))))) a0 0)), (54, .one (.ip (.st (.pair (.int .i64) (.pair (.int .i64) (.pair (.sl (.flt .f32)) (.pair (.sl (.flt .f32)) (.sl (.flt .f32))))))) a0 0)), (53, .one (.ip (.st (.pair (.int .i64) (.pair (.int .i64) (.pair (.sl (.flt .f32)) (.pair (.sl (.flt .f32)) (.sl (.flt .f32))))))) a0 0)), (52, .one (.dat (.int .i64) s8.2)), (51, .one (.dat (.sl (.flt .f32)) a0.2.2.2.1)), (50, .one (.ip (.st (.pair (.int .i64) (.pair (.int .i64) (.pair (.sl (.flt .f32)) (.pair (.sl (.flt .f32)) (.sl (.flt .f32))))))) a0 3)), (49, .one (.ip (.st (.pair (.int .i64) (.pair (.int .i64) (.pair (.sl (.flt .f32)) (.pair (.sl (.flt .f32)) (.sl (.flt .f32))))))) a0 0)), (48, .one (.ip (.st (.pair (.int .i64) (.pair (.int .i64) (.pair (.sl (.flt .f32)) (.pair (.sl (.flt .f32)) (.sl (.flt .f32))))))) a0 0)), (47, .one (.dat (.flt .f32) (fop .mul .f32 (List.getD a1 (Int.toNat s8.2) (0 : Nat)) (List.getD a0.2.2.2.2 (Int.toNat (wadd .i64 (wmul .i64 s8.2 a0.2.1) a2)) (0 : Nat))))), (46, .one (.dat (.flt .f32) (List.getD a0.2.2.2.2 (Int.toNat (wadd .i64 (wmul .i64 s8.2 a0.2.1) a2)) (0 : Nat)))), (45, .one (.ip (.flt .f32) (List.getD a0.2.2.2.2 (Int.toNat (wadd .i64 (wmul .i64 s8.2 a0.2.1) a2)) (0 : Nat)) 0)), (44, .one (.dat (.int .i64) (wadd .i64 (wmul .i64 s8.2 a0.2.1) a2))), (43, .one (.dat (.int .i64) a2)), (42, .one (.dat (.int .i64) (wmul .i64 s8.2 a0.2.1))), (41, .one (.dat (.int .i64) a0.2.1)), (40, .one (.ip (.st (.pair (.int .i64) (.pair (.int .i64) (.pair (.sl (.flt .f32)) (.pair (.sl (.flt .f32)) (.sl (.flt .f32))))))) a0 1)), (39, .one (.ip (.st (.pair (.int .i64) (.pair (.int .i64) (.pair (.sl (.flt .f32)) (.pair (.sl (.flt .f32)) (.sl (.flt .f32))))))) a0 0)), (38, .one (.ip (.st (.pair (.int .i64) (.pair (.int .i64) (.pair (.sl (.flt .f32)) (.pair (.sl (.flt .f32)) (.sl (.flt .f32))))))) a0 0)), (37, .one (.dat (.int .i64) s8.2)), (36, .one (.dat (.sl (.flt .f32)) a0.2.2.2.2)), (35, .one (.ip (.st (.pair (.int .i64) (.pair (.int .i64) (.pair (.sl (.flt .f32)) (.pair (.sl (.flt .f32)) (.sl (.flt .f32))))))) a0 4)), (34, .one (.ip (.st (.pair (.int .i64) (.pair (.int .i64) (.pair (.sl (.flt .f32)) (.pair (.sl (.flt .f32)) (.sl (.flt .f32))))))) a0 0)), (33, .one (.ip (.st (.pair (.int .i64) (.pair (.int .i64) (.pair (.sl (.flt .f32)) (.pair (.sl (.flt .f32)) (.sl (.flt .f32))))))) a0 0)), (32, .one (.dat (.flt .f32) (List.getD a1 (Int.toNat s8.2) (0 : Nat)))), (31, .one (.ip (.flt .f32) (List.getD a1 (Int.toNat s8.2) (0 : Nat)) 0)), (30, .one (.dat (.int .i64) s8.2)), (29, .one (.dat (.sl (.flt .f32)) a1)), (28, .one (.dat (.flt .f32) s8.1)), (0, .one (.ip (.st (.pair (.int .i64) (.pair (.int .i64) (.pair (.sl (.flt .f32)) (.pair (.sl (.flt .f32)) (.sl (.flt .f32))))))) a0 0)), (1, .one (.dat (.sl (.flt .f32)) a1)), (2, .one (.dat (.int .i64) a2)), (7, .one (.all 0)), (8, .one (.dat (.int .i64) s1.1)), (9, .one (.dat (.flt .f32) s8.1)), (10, .one (.dat (.int .i64) s8.2)), (25, .one (.dat .bool (decide (s8.2 < a0.1))))], [(0, .seq (.flt .f32) s1.2)], 1⟩) hP hN (by kernel_rfl) allNil (qLoopN ⟨((fop .add .f32 s8.1 (fop .mul .f32 (fop .mul .f32 (List.getD a1 (Int.toNat s8.2) (0 : Nat)) (List.getD a0.2.2.2.2 (Int.toNat (wadd .i64 (wmul .i64 s8.2 a0.2.1) a2)) (0 : Nat))) (List.getD a0.2.2.2.1 (Int.toNat (wadd .i64 (wmul .i64 s8.2 a0.1) s1.1)) (0 : Nat)))), (wadd .i64 s8.2 (1 : Int))), rfl, Le.cv (s := ⟨[(0, 0)], [], [], false⟩) (own := []) (ps := [a0 = a0, a1 = a1, a2 = a2, s1.1 = s1.1, (fop .add .f32 s8.1 (fop .mul .f32 (fop .mul .f32 (List.getD a1 (Int.toNat s8.2) (0 : Nat)) (List.getD a0.2.2.2.2 (Int.toNat (wadd .i64 (wmul .i64 s8.2 a0.2.1) a2)) (0 : Nat))) (List.getD a0.2.2.2.1 (Int.toNat (wadd .i64 (wmul .i64 s8.2 a0.1) s1.1)) (0 : Nat)))) = (fop .add .f32 s8.1 (fop .mul .f32 (fop .mul .f32 (List.getD a1 (Int.toNat s8.2) (0 : Nat)) (List.getD a0.2.2.2.2 (Int.toNat (wadd .i64 (wmul .i64 s8.2 a0.2.1) a2)) (0 : Nat))) (List.getD a0.2.2.2.1 (Int.toNat (wadd .i64 (wmul .i64 s8.2 a0.1) s1.1)) (0 : Nat)))), (wadd .i64 s8.2 (1 : Int)) = (wadd .i64 s8.2 (1 : Int)), s1.2 = s1.2]) (st' := ⟨[(0, .one (.ip (.st (.pair (.int .i64) (.pair (.int .i64) (.pair (.sl (.flt .f32)) (.pair (.sl (.flt .f32)) (.sl (.flt .f32))))))) a0 0)), (1, .one (.dat (.sl (.flt .f32)) a1)), (2, .one (.dat (.int .i64) a2)), (7, .one (.all 0)), (8, .one (.dat (.int .i64) s1.1)), (9, .one (.dat (.flt .f32) (fop .add .f32 s8.1 (fop .mul .f32 (fop .mul .f32 (List.getD a1 (Int.toNat s8.2) (0 : Nat)) (List.getD a0.2.2.2.2 (Int.toNat (wadd .i64 (wmul .i64 s8.2 a0.2.1) a2)) (0 : Nat))) (List.getD a0.2.2.2.1 (Int.toNat (wadd .i64 (wmul .i64 s8.2 a0.1) s1.1)) (0 : Nat)))))), (10, .one (.dat (.int .i64) (wadd .i64 s8.2 (1 : Int))))], [(0, .seq (.flt .f32) s1.2)], 1⟩) hO (fun h => by cases h) (by kernel_rfl) ⟨rfl, rfl, rfl, rfl, rfl, rfl, rfl, trivial⟩⟩)
        · refine HT.cond0 rfl hb15 ?_
          have hx13 := of_some hx13
          subst hx13
          refine (Le.cv (s := ⟨[(0, 0)], [], [], false⟩) (own := []) (ps := [a0 = a0, a1 = a1, a2 = a2, s1.1 = s1.1, s8.1 = s8.1, s1.2 = s1.2]) (st' := ⟨[(0, .one (.ip (.st (.pair (.int .i64) (.pair (.int .i64) (.pair (.sl (.flt .f32)) (.pair (.sl (.flt .f32)) (.sl (.flt .f32))))))) a0 0)), (1, .one (.dat (.sl (.flt .f32)) a1)), (2, .one (.dat (.int .i64) a2)), (7, .one (.all 0)), (8, .one (.dat (.int .i64) s1.1)), (9, .one (.dat (.flt .f32) s8.1))], [(0, .seq (.flt .f32) s1.2)], 1⟩) hO (fun h => by cases h) (by kernel_rfl) ⟨rfl, rfl, rfl, rfl, rfl, rfl, trivial⟩).ht ?_
          exact HT.exit (qThenE (qLoopE (hk14 s8.1 rfl)))
    · refine HT.cond0 rfl hb7 ?_
      have hx5 := of_some hx5
      subst hx5
      refine (Le.cv (s := ⟨[(0, 0)], [], [], false⟩) (own := []) (ps := [s1.2 = s1.2]) (st' := ⟨[(7, .one (.all 0))], [(0, .seq (.flt .f32) s1.2)], 1⟩) hO (fun h => by cases h) (by kernel_rfl) ⟨rfl, trivial⟩).ht ?_
      exact HT.exit (qThenE (qLoopE (hk6 s1.2 rfl)))

noncomputable def math_NaN  : Option (Nat) :=
  none

theorem f131_ok  {r : Nat} (hr : math_NaN = some r) : CallOK Try.prog 131 [] [⟨false, (.flt .f64), r⟩] [] := by
  unfold math_NaN at hr
  refine CallOK.of_body (ts := [(false, (.flt .f64))]) Try.func131 rfl (by kernel_rfl) (Nat.le_of_ble_eq_true (by kernel_rfl)) fun cx hP hN hO hF => ?_
  have hO : cx.own.map Prod.fst = [] := hO
  have hF := hF rfl
  show HT cx ⟨[], [], 0⟩ _ _
  refine HT.reg1 [] [⟨none, .no⟩] ⟨[], [], 0⟩ hP hN (by kernel_rfl) allNil ?_
  cases hr

noncomputable def math_Inf (a0 : Int) : Option (Nat) :=
  (show Option (Int) from
    bif (decide (a0 ≥ (0 : Int))) then
      some (9218868437227405312 : Int)
    else
      some (18442240474082181120 : Int)).bind fun v1 =>
  none

theorem f130_ok {a0 : Int} {r : Nat} (hr : math_Inf a0 = some r) : CallOK Try.prog 130 [.imm (.int .i64) a0] [⟨false, (.flt .f64), r⟩] [] := by
  unfold math_Inf at hr
  refine CallOK.of_body (ts := [(false, (.flt .f64))]) Try.func130 rfl (by kernel_rfl) (Nat.le_of_ble_eq_true (by kernel_rfl)) fun cx hP hN hO hF => ?_
  have hO : cx.own.map Prod.fst = [] := hO
  have hF := hF rfl
  show HT cx ⟨[(0, .one (.dat (.int .i64) a0))], [], 0⟩ _ _
  refine HT.reg1 [0] [⟨none, .no⟩] ⟨[(0, .one (.dat (.int .i64) a0))], [], 0⟩ hP hN (by kernel_rfl) allNil ?_
  refine HT.reg1 [0] [⟨none, .no⟩] ⟨[(0, .one (.dat (.int .i64) a0))], [], 0⟩ hP hN (by kernel_rfl) allNil ?_
  obtain ⟨v1', hT3, hr⟩ := of_bind hr
  refine HT.join (fun (v1 : Int) => ⟨[(3, .one (.dat (.int .u64) v1))], [], 0⟩) (fun v => v = v1') (fun v1 hv2 => ?_) (fun cont => ?_)
  · subst hv2
    cases hr
  · refine HT.reg1 [5] [⟨none, .no⟩, ⟨none, .no⟩] ⟨[(5, .one (.dat .bool (decide (a0 ≥ (0 : Int)))))], [], 0⟩ hP hN (by kernel_rfl) allNil ?_
    rcases of_bif hT3 with ⟨hb4, hT3⟩ | ⟨hb4, hT3⟩
    · refine HT.cond1 rfl hb4 ?_
      refine HT.reg (rs := [⟨none, .no⟩]) (st' := ⟨[(3, .one (.dat (.int .u64) (9218868437227405312 : Int))), (5, .one (.dat .bool (decide (a0 ≥ (0 : Int)))))], [], 0⟩) hP hN (by kernel_rfl) allNil (qThen ?_)
      exact (Le.cv (s := ⟨[], [], [], false⟩) (own := []) (ps := [(9218868437227405312 : Int) = (9218868437227405312 : Int)]) (st' := ⟨[(3, .one (.dat (.int .u64) (9218868437227405312 : Int)))], [], 0⟩) hO (fun h => by cases h) (by kernel_rfl) ⟨rfl, trivial⟩).ht (cont (9218868437227405312 : Int) (of_some hT3))
    · refine HT.cond0 rfl hb4 ?_
      refine HT.reg (rs := [⟨none, .no⟩]) (st' := ⟨[(3, .one (.dat (.int .u64) (18442240474082181120 : Int))), (5, .one (.dat .bool (decide (a0 ≥ (0 : Int)))))], [], 0⟩) hP hN (by kernel_rfl) allNil (qThen ?_)
      exact (Le.cv (s := ⟨[], [], [], false⟩) (own := []) (ps := [(18442240474082181120 : Int) = (18442240474082181120 : Int)]) (st' := ⟨[(3, .one (.dat (.int .u64) (18442240474082181120 : Int)))], [], 0⟩) hO (fun h => by cases h) (by kernel_rfl) ⟨rfl, trivial⟩).ht (cont (18442240474082181120 : Int) (of_some hT3))

noncomputable def math_Abs (a0 : Nat) : Option (Nat) :=
  none

theorem f158_ok {a0 : Nat} {r : Nat} (hr : math_Abs a0 = some r) : CallOK Try.prog 158 [.imm (.flt .f64) a0] [⟨false, (.flt .f64), r⟩] [] := by
  unfold math_Abs at hr
  refine CallOK.of_body (ts := [(false, (.flt .f64))]) Try.func158 rfl (by kernel_rfl) (Nat.le_of_ble_eq_true (by kernel_rfl)) fun cx hP hN hO hF => ?_
  have hO : cx.own.map Prod.fst = [] := hO
  have hF := hF rfl
  show HT cx ⟨[(0, .one (.dat (.flt .f64) a0))], [], 0⟩ _ _
  refine HT.reg1 [0] [⟨none, .no⟩] ⟨[(0, .one (.dat (.flt .f64) a0))], [], 0⟩ hP hN (by kernel_rfl) allNil ?_
  cases hr

noncomputable def math_IsInf (a0 : Nat) (a1 : Int) : Option (Bool) :=
  (show Option (Nat) from
    bif (a1 == (0 : Int)) then
      (math_Abs a0).bind fun y5 =>
      some y5
    else
      bif (decide (a1 < (0 : Int))) then
        some (fneg .f64 a0)
      else
        some a0).bind fun v1 =>
  some (fgt .f64 v1 (9218868437227405311 : Nat))

theorem f149_ok {a0 : Nat} {a1 : Int} {r : Bool} (hr : math_IsInf a0 a1 = some r) : CallOK Try.prog 149 [.imm (.flt .f64) a0, .imm (.int .i64) a1] [⟨false, .bool, r⟩] [] := by
  unfold math_IsInf at hr
  refine CallOK.of_body (ts := [(false, .bool)]) Try.func149 rfl (by kernel_rfl) (Nat.le_of_ble_eq_true (by kernel_rfl)) fun cx hP hN hO hF => ?_
  have hO : cx.own.map Prod.fst = [] := hO
  have hF := hF rfl
  show HT cx ⟨[(0, .one (.dat (.flt .f64) a0)), (1, .one (.dat (.int .i64) a1))], [], 0⟩ _ _
  refine HT.reg1 [0, 1] [⟨none, .no⟩] ⟨[(0, .one (.dat (.flt .f64) a0)), (1, .one (.dat (.int .i64) a1))], [], 0⟩ hP hN (by kernel_rfl) allNil ?_
  obtain ⟨v1', hT3, hr⟩ := of_bind hr
  refine HT.join (fun (v1 : Nat) => ⟨[(0, .one (.dat (.flt .f64) v1))], [], 0⟩) (fun v => v = v1') (fun v1 hv2 => ?_) (fun cont => ?_)
  · subst hv2
    refine HT.reg1 [4] [⟨none, .no⟩, ⟨none, .no⟩, ⟨none, .no⟩] ⟨[(4, .one (.dat .bool (fgt .f64 v1 (9218868437227405311 : Nat))))], [], 0⟩ hP hN (by kernel_rfl) allNil ?_
    have hr := of_some hr
    subst hr
    exact HT.ret ⟨[.one (.dat .bool (fgt .f64 v1 (9218868437227405311 : Nat)))], [], [], by kernel_rfl, by kernel_rfl, rfl, by kernel_rfl, by kernel_rfl, trivial⟩
  · refine HT.reg1 [0, 1, 6] [⟨none, .no⟩, ⟨none, .no⟩] ⟨[(0, .one (.dat (.flt .f64) a0)), (1, .one (.dat (.int .i64) a1)), (6, .one (.dat .bool (a1 == (0 : Int))))], [], 0⟩ hP hN (by kernel_rfl) allNil ?_
    rcases of_bif hT3 with ⟨hb4, hT3⟩ | ⟨hb4, hT3⟩
    · refine HT.cond1 rfl hb4 ?_
      obtain ⟨y5, hc6, hT3⟩ := of_bind hT3
      refine HT.reg (rs := [⟨none, .no⟩, ⟨none, .call [.imm (.flt .f64)] [⟨false, (.flt .f64), y5⟩] []⟩, ⟨none, .no⟩]) (st' := ⟨[(0, .one (.dat (.flt .f64) y5)), (8, .one (.dat (.flt .f64) y5)), (7, .one (.dat (.flt .f64) a0)), (0, .one (.dat (.flt .f64) a0)), (1, .one (.dat (.int .i64) a1)), (6, .one (.dat .bool (a1 == (0 : Int))))], [], 0⟩) hP hN (by kernel_rfl) (allCons (f158_ok hc6) allNil) (qThen ?_)
      exact (Le.cv (s := ⟨[], [], [], false⟩) (own := []) (ps := [y5 = y5]) (st' := ⟨[(0, .one (.dat (.flt .f64) y5))], [], 0⟩) hO (fun h => by cases h) (by kernel_rfl) ⟨rfl, trivial⟩).ht (cont y5 (of_some hT3))
    · refine HT.cond0 rfl hb4 ?_
      refine HT.reg1 [0, 10] [⟨none, .no⟩, ⟨none, .no⟩] ⟨[(0, .one (.dat (.flt .f64) a0)), (10, .one (.dat .bool (decide (a1 < (0 : Int)))))], [], 0⟩ hP hN (by kernel_rfl) allNil ?_
      rcases of_bif hT3 with ⟨hb7, hT3⟩ | ⟨hb7, hT3⟩
      · refine HT.cond1 rfl hb7 ?_
        refine HT.reg (rs := [⟨none, .no⟩, ⟨none, .no⟩, ⟨none, .no⟩]) (st' := ⟨[(0, .one (.dat (.flt .f64) (fneg .f64 a0))), (12, .one (.dat (.flt .f64) (fneg .f64 a0))), (11, .one (.dat (.flt .f64) a0)), (0, .one (.dat (.flt .f64) a0)), (10, .one (.dat .bool (decide (a1 < (0 : Int)))))], [], 0⟩) hP hN (by kernel_rfl) allNil (qThen ?_)
        exact (Le.cv (s := ⟨[], [], [], false⟩) (own := []) (ps := [(fneg .f64 a0) = (fneg .f64 a0)]) (st' := ⟨[(0, .one (.dat (.flt .f64) (fneg .f64 a0)))], [], 0⟩) hO (fun h => by cases h) (by kernel_rfl) ⟨rfl, trivial⟩).ht (cont (fneg .f64 a0) (of_some hT3))
      · refine HT.cond0 rfl hb7 ?_
        refine HT.skip (qThen ?_)
        exact (Le.cv (s := ⟨[], [], [], false⟩) (own := []) (ps := [a0 = a0]) (st' := ⟨[(0, .one (.dat (.flt .f64) a0))], [], 0⟩) hO (fun h => by cases h) (by kernel_rfl) ⟨rfl, trivial⟩).ht (cont a0 (of_some hT3))

noncomputable def spec_l01LogWide_B1 (q19 : Nat) (s21 : Nat × Int) : Option ((Nat × Int) ⊕ (Nat)) :=
  bif (decide (s21.2 ≥ (1 : Int))) then
    some (.inl ((fop .add .f64 (fop .quo .f64 (4607182418800017408 : Nat) (fofint .f64 s21.2)) (fop .mul .f64 (fop .mul .f64 q19 q19) s21.1)), (wsub .i64 s21.2 (2 : Int))))
  else
    some (.inr s21.1)

noncomputable def spec_l01LogWide_B2  (s16 : Nat × Int) : Option ((Nat × Int) ⊕ ((Nat × Int))) :=
  bif (flt .f64 s16.1 (4604930618986332160 : Nat)) then
    some (.inl ((fop .mul .f64 s16.1 (4611686018427387904 : Nat)), (wsub .i64 s16.2 (1 : Int))))
  else
    some (.inr (s16.1, s16.2))

noncomputable def spec_l01LogWide_B3  (s13 : Nat × Int) : Option ((Nat × Int) ⊕ ((Nat × Int))) :=
  bif (fge .f64 s13.1 (4609434218613702656 : Nat)) then
    some (.inl ((fop .quo .f64 s13.1 (4611686018427387904 : Nat)), (wadd .i64 s13.2 (1 : Int))))
  else
    some (.inr (s13.1, s13.2))

noncomputable def spec_l01LogWide (a0 : Nat) : Option (Nat) :=
  (show Option (Bool) from
    bif (!(feq .f64 a0 a0)) then
      some true
    else
      some (flt .f64 a0 (0 : Nat))).bind fun v1 =>
  bif v1 then
    (math_NaN).bind fun y5 =>
    some y5
  else
    bif (feq .f64 a0 (0 : Nat)) then
      (math_Inf (-1 : Int)).bind fun y8 =>
      some y8
    else
      (math_IsInf a0 (1 : Int)).bind fun y10 =>
      bif y10 then
        some a0
      else
        (rounds (spec_l01LogWide_B3) (a0, (0 : Int))).bind fun r15 =>
        (rounds (spec_l01LogWide_B2) (r15.1, r15.2)).bind fun r18 =>
        (some (fop .quo .f64 (fop .sub .f64 r18.1 (4607182418800017408 : Nat)) (fop .add .f64 r18.1 (4607182418800017408 : Nat)))).bind fun q19 =>
        (rounds (spec_l01LogWide_B1 q19) ((0 : Nat), (25 : Int))).bind fun r23 =>
        (some (fop .add .f64 (fop .mul .f64 (4611686018427387904 : Nat) (fop .mul .f64 q19 r23)) (fop .mul .f64 (fofint .f64 r18.2) (4604418534313441775 : Nat)))).bind fun q24 =>
        some q24

theorem f128_ok {a0 : Nat} {r : Nat} (hr : spec_l01LogWide a0 = some r) : CallOK Try.prog 128 [.imm (.flt .f64) a0] [⟨false, (.flt .f64), r⟩] [] := by
  unfold spec_l01LogWide at hr
  refine CallOK.of_body (ts := [(false, (.flt .f64))]) Try.func128 rfl (by kernel_rfl) (Nat.le_of_ble_eq_true (by kernel_rfl)) fun cx hP hN hO hF => ?_
  have hO : cx.own.map Prod.fst = [] := hO
  have hF := hF rfl
  show HT cx ⟨[(0, .one (.dat (.flt .f64) a0))], [], 0⟩ _ _
  refine HT.reg1 [0] [⟨none, .no⟩] ⟨[(0, .one (.dat (.flt .f64) a0))], [], 0⟩ hP hN (by kernel_rfl) allNil ?_
  refine HT.seq ?_
  refine HT.block ?_
  obtain ⟨v1', hT3, hr⟩ := of_bind hr
  refine HT.join (fun (v1 : Bool) => ⟨[(0, .one (.dat (.flt .f64) a0)), (8, .one (.dat .bool v1))], [], 0⟩) (fun v => v = v1') (fun v1 hv2 => ?_) (fun cont => ?_)
  · subst hv2
    rcases of_bif hr with ⟨hb4, hr⟩ | ⟨hb4, hr⟩
    · refine HT.cond1 rfl hb4 ?_
      obtain ⟨y5, hc6, hr⟩ := of_bind hr
      refine HT.reg1 [2] [⟨none, .call [] [⟨false, (.flt .f64), y5⟩] []⟩, ⟨none, .no⟩] ⟨[(2, .one (.dat (.flt .f64) y5))], [], 0⟩ hP hN (by kernel_rfl) (allCons (f131_ok hc6) allNil) ?_
      have hr := of_some hr
      subst hr
      exact HT.ret (qBlockR (qThenR ⟨[.one (.dat (.flt .f64) y5)], [], [], by kernel_rfl, by kernel_rfl, rfl, by kernel_rfl, by kernel_rfl, trivial⟩))
    · refine HT.cond0 rfl hb4 ?_
      refine HT.reg1 [0, 17] [⟨none, .no⟩, ⟨none, .no⟩, ⟨none, .no⟩] ⟨[(0, .one (.dat (.flt .f64) a0)), (17, .one (.dat .bool (feq .f64 a0 (0 : Nat))))], [], 0⟩ hP hN (by kernel_rfl) allNil ?_
      rcases of_bif hr with ⟨hb7, hr⟩ | ⟨hb7, hr⟩
      · refine HT.cond1 rfl hb7 ?_
        obtain ⟨y8, hc9, hr⟩ := of_bind hr
        refine HT.reg1 [2] [⟨none, .call [.imm (.int .i64)] [⟨false, (.flt .f64), y8⟩] []⟩, ⟨none, .no⟩] ⟨[(2, .one (.dat (.flt .f64) y8))], [], 0⟩ hP hN (by kernel_rfl) (allCons (f130_ok hc9) allNil) ?_
        have hr := of_some hr
        subst hr
        exact HT.ret (qBlockR (qThenR ⟨[.one (.dat (.flt .f64) y8)], [], [], by kernel_rfl, by kernel_rfl, rfl, by kernel_rfl, by kernel_rfl, trivial⟩))
      · refine HT.cond0 rfl hb7 ?_
        obtain ⟨y10, hc11, hr⟩ := of_bind hr
        refine HT.reg1 [0, 21] [⟨none, .no⟩, ⟨none, .call [.imm (.flt .f64), .imm (.int .i64)] [⟨false, .bool, y10⟩] []⟩, ⟨none, .no⟩] ⟨[(0, .one (.dat (.flt .f64) a0)), (21, .one (.dat .bool y10))], [], 0⟩ hP hN (by kernel_rfl) (allCons (f149_ok hc11) allNil) ?_
        rcases of_bif hr with ⟨hb12, hr⟩ | ⟨hb12, hr⟩
        · refine HT.cond1 rfl hb12 ?_
          refine HT.reg1 [2] [⟨none, .no⟩, ⟨none, .no⟩] ⟨[(2, .one (.dat (.flt .f64) a0))], [], 0⟩ hP hN (by kernel_rfl) allNil ?_
          have hr := of_some hr
          subst hr
          exact HT.ret (qBlockR (qThenR ⟨[.one (.dat (.flt .f64) a0)], [], [], by kernel_rfl, by kernel_rfl, rfl, by kernel_rfl, by kernel_rfl, trivial⟩))
        · refine HT.cond0 rfl hb12 ?_
          refine HT.skip (qBlock (qThen ?_))
          refine HT.reg1 [0, 3] [⟨none, .no⟩] ⟨[(0, .one (.dat (.flt .f64) a0)), (3, .one (.dat (.int .i64) (0 : Int)))], [], 0⟩ hP hN (by kernel_rfl) allNil ?_
          refine HT.seq ?_
          refine HT.block ?_
          obtain ⟨r14, hL40, hr⟩ := of_bind hr
          refine (Le.cv (s := ⟨[], [], [], false⟩) (own := []) (ps := [a0 = a0, (0 : Int) = (0 : Int)]) (st' := ⟨[(0, .one (.dat (.flt .f64) a0)), (3, .one (.dat (.int .i64) (0 : Int)))], [], 0⟩) hO (fun h => by cases h) (by kernel_rfl) ⟨rfl, rfl, trivial⟩).ht ?_
          refine HT.loopE (s := (a0, (0 : Int))) (fun (s13 : Nat × Int) => ⟨[(0, .one (.dat (.flt .f64) s13.1)), (3, .one (.dat (.int .i64) s13.2))], [], 0⟩) (fun (r15 : (Nat × Int)) => (.exit 1, ⟨[(0, .one (.dat (.flt .f64) r15.1)), (3, .one (.dat (.int .i64) r15.2))], [], 0⟩)) hL40 ?_ (fun s13 x36 hx37 hk38 => ?_)
          · refine (qBlockX (qThen ?_))
            refine HT.seq ?_
            refine HT.block ?_
            obtain ⟨r17, hL35, hr⟩ := of_bind hr
            refine (Le.cv (s := ⟨[], [], [], false⟩) (own := []) (ps := [r14.1 = r14.1, r14.2 = r14.2]) (st' := ⟨[(0, .one (.dat (.flt .f64) r14.1)), (3, .one (.dat (.int .i64) r14.2))], [], 0⟩) hO (fun h => by cases h) (by kernel_rfl) ⟨rfl, rfl, trivial⟩).ht ?_
            refine HT.loopE (s := (r14.1, r14.2)) (fun (s16 : Nat × Int) => ⟨[(0, .one (.dat (.flt .f64) s16.1)), (3, .one (.dat (.int .i64) s16.2))], [], 0⟩) (fun (r18 : (Nat × Int)) => (.exit 3, ⟨[(0, .one (.dat (.flt .f64) r18.1)), (3, .one (.dat (.int .i64) r18.2))], [], 0⟩)) hL35 ?_ (fun s16 x31 hx32 hk33 => ?_)
            · refine (qBlockX (qThen ?_))
              refine HT.reg1 [3, 4] [⟨none, .no⟩, ⟨none, .no⟩, ⟨none, .no⟩, ⟨none, .no⟩, ⟨none, .no⟩, ⟨none, .no⟩] ⟨[(3, .one (.dat (.int .i64) r17.2)), (4, .one (.dat (.flt .f64) (fop .quo .f64 (fop .sub .f64 r17.1 (4607182418800017408 : Nat)) (fop .add .f64 r17.1 (4607182418800017408 : Nat)))))], [], 0⟩ hP hN (by kernel_rfl) allNil ?_
              obtain ⟨q19, hq20, hr⟩ := of_bind hr
              have hq20 := of_some2 hq20
              refine (Le.cv (s := ⟨[], [], [], false⟩) (own := []) (ps := [r17.2 = r17.2, q19 = (fop .quo .f64 (fop .sub .f64 r17.1 (4607182418800017408 : Nat)) (fop .add .f64 r17.1 (4607182418800017408 : Nat)))]) (st' := ⟨[(3, .one (.dat (.int .i64) r17.2)), (4, .one (.dat (.flt .f64) q19))], [], 0⟩) hO (fun h => by cases h) (by kernel_rfl) ⟨rfl, hq20, trivial⟩).ht ?_
              refine HT.reg1 [3, 4, 5] [⟨none, .no⟩, ⟨none, .no⟩, ⟨none, .no⟩, ⟨none, .no⟩] ⟨[(3, .one (.dat (.int .i64) r17.2)), (4, .one (.dat (.flt .f64) q19)), (5, .one (.dat (.flt .f64) (fop .mul .f64 q19 q19)))], [], 0⟩ hP hN (by kernel_rfl) allNil ?_
              refine HT.reg1 [3, 4, 5, 6] [⟨none, .no⟩] ⟨[(3, .one (.dat (.int .i64) r17.2)), (4, .one (.dat (.flt .f64) q19)), (5, .one (.dat (.flt .f64) (fop .mul .f64 q19 q19))), (6, .one (.dat (.flt .f64) (0 : Nat)))], [], 0⟩ hP hN (by kernel_rfl) allNil ?_
              refine HT.seq ?_
              refine HT.reg1 [3, 4, 5, 6, 7] [⟨none, .no⟩] ⟨[(3, .one (.dat (.int .i64) r17.2)), (4, .one (.dat (.flt .f64) q19)), (5, .one (.dat (.flt .f64) (fop .mul .f64 q19 q19))), (6, .one (.dat (.flt .f64) (0 : Nat))), (7, .one (.dat (.int .i64) (25 : Int)))], [], 0⟩ hP hN (by kernel_rfl) allNil ?_
              refine HT.block ?_
              obtain ⟨r22, hL30, hr⟩ := of_bind hr
              refine (Le.cv (s := ⟨[], [], [], false⟩) (own := []) (ps := [r17.2 = r17.2, q19 = q19, (fop .mul .f64 q19 q19) = (fop .mul .f64 q19 q19), (0 : Nat) = (0 : Nat), (25 : Int) = (25 : Int)]) (st' := ⟨[(3, .one (.dat (.int .i64) r17.2)), (4, .one (.dat (.flt .f64) q19)), (5, .one (.dat (.flt .f64) (fop .mul .f64 q19 q19))), (6, .one (.dat (.flt .f64) (0 : Nat))), (7, .one (.dat (.int .i64) (25 : Int)))], [], 0⟩) hO (fun h => by cases h) (by kernel_rfl) ⟨rfl, rfl, rfl, rfl, rfl, trivial⟩).ht ?_
              refine HT.loopE (s := ((0 : Nat), (25 : Int))) (fun (s21 : Nat × Int) => ⟨[(3, .one (.dat (.int .i64) r17.2)), (4, .one (.dat (.flt .f64) q19)), (5, .one (.dat (.flt .f64) (fop .mul .f64 q19 q19))), (6, .one (.dat (.flt .f64) s21.1)), (7, .one (.dat (.int .i64) s21.2))], [], 0⟩) (fun (r23 : Nat) => (.exit 5, ⟨[(3, .one (.dat (.int .i64) r17.2)), (4, .one (.dat (.flt .f64) q19)), (6, .one (.dat (.flt .f64) r23))], [], 0⟩)) hL30 ?_ (fun s21 x26 hx27 hk28 => ?_)
              · refine (qBlockX (qThen ?_))
                refine HT.reg1 [2] [⟨none, .no⟩, ⟨none, .no⟩, ⟨none, .no⟩, ⟨none, .no⟩, ⟨none, .no⟩, ⟨none, .no⟩, ⟨none, .no⟩, ⟨none, .no⟩, ⟨none, .no⟩] ⟨[(2, .one (.dat (.flt .f64) (fop .add .f64 (fop .mul .f64 (4611686018427387904 : Nat) (fop .mul .f64 q19 r22)) (fop .mul .f64 (fofint .f64 r17.2) (4604418534313441775 : Nat)))))], [], 0⟩ hP hN (by kernel_rfl) allNil ?_
                obtain ⟨q24, hq25, hr⟩ := of_bind hr
                have hq25 := of_some2 hq25
                refine (Le.cv (s := ⟨[], [], [], false⟩) (own := []) (ps := [q24 = (fop .add .f64 (fop .mul .f64 (4611686018427387904 : Nat) (fop .mul .f64 q19 r22)) (fop .mul .f64 (fofint .f64 r17.2) (4604418534313441775 : Nat)))]) (st' := ⟨[(2, .one (.dat (.flt .f64) q24))], [], 0⟩) hO (fun h => by cases h) (by kernel_rfl) ⟨hq25, trivial⟩).ht ?_
                have hr := of_some hr
                subst hr
                exact HT.ret ⟨[.one (.dat (.flt .f64) q24)], [], [], by kernel_rfl, by kernel_rfl, rfl, by kernel_rfl, by kernel_rfl, trivial⟩
              · refine HT.seq ?_
                refine HT.reg1 [3, 4, 5, 6, 7, 46] [⟨none, .no⟩, ⟨none, .no⟩] ⟨[(3, .one (.dat (.int .i64) r17.2)), (4, .one (.dat (.flt .f64) q19)), (5, .one (.dat (.flt .f64) (fop .mul .f64 q19 q19))), (6, .one (.dat (.flt .f64) s21.1)), (7, .one (.dat (.int .i64) s21.2)), (46, .one (.dat .bool (decide (s21.2 ≥ (1 : Int)))))], [], 0⟩ hP hN (by kernel_rfl) allNil ?_
                rcases of_bif hx27 with ⟨hb29, hx27⟩ | ⟨hb29, hx27⟩
                · refine HT.cond1 rfl hb29 ?_
                  refine HT.skip (qThen ?_)
                  refine HT.seq ?_
                  refine HT.block ?_
                  refine HT.reg (rs := [⟨none, .no⟩, ⟨none, .no⟩, ⟨none, .no⟩, ⟨none, .no⟩, ⟨none, .no⟩, ⟨none, .no⟩, ⟨none, .no⟩, ⟨none, .no⟩]) (st' := ⟨[(6, .one (.dat (.flt .f64) (fop .add .f64 (fop .quo .f64 (4607182418800017408 : Nat) (fofint .f64 s21.2)) (fop .mul .f64 (fop .mul .f64 q19 q19) s21.1)))), (55, .one (.dat (.flt .f64) (fop .add .f64 (fop .quo .f64 (4607182418800017408 : Nat) (fofint .f64 s21.2)) (fop .mul .f64 (fop .mul .f64 q19 q19) s21.1)))), (54, .one (.dat (.flt .f64) (fop .mul .f64 (fop .mul .f64 q19 q19) s21.1))), (53, .one (.dat (.flt .f64) s21.1)), (52, .one (.dat (.flt .f64) (fop .mul .f64 q19 q19))), (51, .one (.dat (.flt .f64) (fop .quo .f64 (4607182418800017408 : Nat) (fofint .f64 s21.2)))), (50, .one (.dat (.flt .f64) (fofint .f64 s21.2))), (49, .one (.dat (.int .i64) s21.2)), (3, .one (.dat (.int .i64) r17.2)), (4, .one (.dat (.flt .f64) q19)), (5, .one (.dat (.flt .f64) (fop .mul .f64 q19 q19))), (6, .one (.dat (.flt .f64) s21.1)), (7, .one (.dat (.int .i64) s21.2)), (46, .one (.dat .bool (decide (s21.2 ≥ (1 : Int)))))], [], 0⟩) hP hN (by kernel_rfl) allNil (qBlock (qThen ?_))
                  have hx27 := of_some hx27
                  subst hx27
                  refine HT.reg (rs := [⟨none, .no⟩, ⟨none, .no⟩, ⟨none, .no⟩]) (st' := ⟨[(7, .one (.dat (.int .i64) (wsub .i64 s21.2 (2 : Int)))), (48, .one (.dat (.int .i64) (wsub .i64 s21.2 (2 : Int)))), (47, .one (.dat (.int .i64) s21.2)), (6, .one (.dat (.flt .f64) (fop .add .f64 (fop .quo .f64 (4607182418800017408 : Nat) (fofint .f64 s21.2)) (fop .mul .f64 (fop .mul .f64 q19 q19) s21.1)))), (55, .one (.dat (.flt .f64) (fop .add .f64 (fop .quo .f64 (4607182418800017408 : Nat) (fofint .f64 s21.2)) (fop .mul .f64 (fop .mul .f64 q19 q19) s21.1)))), (54, .one (.dat (.flt .f64) (fop .mul .f64 (fop .mul .f64 q19 q19) s21.1))), (53, .one (.dat (.flt .f64) s21.1)), (52, .one (.dat (.flt .f64) (fop .mul .f64 q19 q19))), (51, .one (.dat (.flt .f64) (fop .quo .f64 (4607182418800017408 : Nat) (fofint .f64 s21.2)))), (50, .one (.dat (.flt .f64) (fofint .f64 s21.2))), (49, .one (.dat (.int .i64) s21.2)), (3, .one (.dat (.int .i64) r17.2)), (4, .one (.dat (.flt .f64) q19)), (5, .one (.dat (.flt .f64) (fop .mul .f64 q19 q19))), (6, .one (.dat (.flt .f64) s21.1)), (7, .one (.dat (.int .i64) s21.2)), (46, .one (.dat .bool (decide (s21.2 ≥ (1 : Int)))))], [], 0⟩) hP hN (by kernel_rfl) allNil (qLoopN ⟨((fop .add .f64 (fop .quo .f64 (4607182418800017408 : Nat) (fofint .f64 s21.2)) (fop .mul .f64 (fop .mul .f64 q19 q19) s21.1)), (wsub .i64 s21.2 (2 : Int))), rfl, Le.cv (s := ⟨[], [], [], false⟩) (own := []) (ps := [r17.2 = r17.2, q19 = q19, (fop .mul .f64 q19 q19) = (fop .mul .f64 q19 q19), (fop .add .f64 (fop .quo .f64 (4607182418800017408 : Nat) (fofint .f64 s21.2)) (fop .mul .f64 (fop .mul .f64 q19 q19) s21.1)) = (fop .add .f64 (fop .quo .f64 (4607182418800017408 : Nat) (fofint .f64 s21.2)) (fop .mul .f64 (fop .mul .f64 q19 q19) s21.1)), (wsub .i64 s21.2 (2 : Int)) = (wsub .i64 s21.2 (2 : Int))]) (st' := ⟨[(3, .one (.dat (.int .i64) r17.2)), (4, .one (.dat (.flt .f64) q19)), (5, .one (.dat (.flt .f64) (fop .mul .f64 q19 q19))), (6, .one (.dat (.flt .f64) (fop .add .f64 (fop .quo .f64 (4607182418800017408 : Nat) (fofint .f64 s21.2)) (fop .mul .f64 (fop .mul .f64 q19 q19) s21.1)))), (7, .one (.dat (.int .i64) (wsub .i64 s21.2 (2 : Int))))], [], 0⟩) hO (fun h => by cases h) (by kernel_rfl) ⟨rfl, rfl, rfl, rfl, rfl, trivial⟩⟩)
                · refine HT.cond0 rfl hb29 ?_
                  have hx27 := of_some hx27
                  subst hx27
                  refine (Le.cv (s := ⟨[], [], [], false⟩) (own := []) (ps := [r17.2 = r17.2, q19 = q19, s21.1 = s21.1]) (st' := ⟨[(3, .one (.dat (.int .i64) r17.2)), (4, .one (.dat (.flt .f64) q19)), (6, .one (.dat (.flt .f64) s21.1))], [], 0⟩) hO (fun h => by cases h) (by kernel_rfl) ⟨rfl, rfl, rfl, trivial⟩).ht ?_
                  exact HT.exit (qThenE (qLoopE (hk28 s21.1 rfl)))
            · refine HT.seq ?_
              refine HT.reg1 [0, 3, 32] [⟨none, .no⟩, ⟨none, .no⟩] ⟨[(0, .one (.dat (.flt .f64) s16.1)), (3, .one (.dat (.int .i64) s16.2)), (32, .one (.dat .bool (flt .f64 s16.1 (4604930618986332160 : Nat))))], [], 0⟩ hP hN (by kernel_rfl) allNil ?_
              rcases of_bif hx32 with ⟨hb34, hx32⟩ | ⟨hb34, hx32⟩
              · refine HT.cond1 rfl hb34 ?_
                refine HT.skip (qThen ?_)
                refine HT.block ?_
                refine HT.reg1 [0, 3] [⟨none, .no⟩, ⟨none, .no⟩, ⟨none, .no⟩] ⟨[(0, .one (.dat (.flt .f64) (fop .mul .f64 s16.1 (4611686018427387904 : Nat)))), (3, .one (.dat (.int .i64) s16.2))], [], 0⟩ hP hN (by kernel_rfl) allNil ?_
                have hx32 := of_some hx32
                subst hx32
                refine HT.reg (rs := [⟨none, .no⟩, ⟨none, .no⟩, ⟨none, .no⟩]) (st' := ⟨[(3, .one (.dat (.int .i64) (wsub .i64 s16.2 (1 : Int)))), (36, .one (.dat (.int .i64) (wsub .i64 s16.2 (1 : Int)))), (35, .one (.dat (.int .i64) s16.2)), (0, .one (.dat (.flt .f64) (fop .mul .f64 s16.1 (4611686018427387904 : Nat)))), (3, .one (.dat (.int .i64) s16.2))], [], 0⟩) hP hN (by kernel_rfl) allNil (qBlock (qLoopN ⟨((fop .mul .f64 s16.1 (4611686018427387904 : Nat)), (wsub .i64 s16.2 (1 : Int))), rfl, Le.cv (s := ⟨[], [], [], false⟩) (own := []) (ps := [(fop .mul .f64 s16.1 (4611686018427387904 : Nat)) = (fop .mul .f64 s16.1 (4611686018427387904 : Nat)), (wsub .i64 s16.2 (1 : Int)) = (wsub .i64 s16.2 (1 : Int))]) (st' := ⟨[(0, .one (.dat (.flt .f64) (fop .mul .f64 s16.1 (4611686018427387904 : Nat)))), (3, .one (.dat (.int .i64) (wsub .i64 s16.2 (1 : Int))))], [], 0⟩) hO (fun h => by cases h) (by kernel_rfl) ⟨rfl, rfl, trivial⟩⟩))
              · refine HT.cond0 rfl hb34 ?_
                have hx32 := of_some hx32
                subst hx32
                refine (Le.cv (s := ⟨[], [], [], false⟩) (own := []) (ps := [s16.1 = s16.1, s16.2 = s16.2]) (st' := ⟨[(0, .one (.dat (.flt .f64) s16.1)), (3, .one (.dat (.int .i64) s16.2))], [], 0⟩) hO (fun h => by cases h) (by kernel_rfl) ⟨rfl, rfl, trivial⟩).ht ?_
                exact HT.exit (qThenE (qLoopE (hk33 (s16.1, s16.2) rfl)))
          · refine HT.seq ?_
            refine HT.reg1 [0, 3, 26] [⟨none, .no⟩, ⟨none, .no⟩] ⟨[(0, .one (.dat (.flt .f64) s13.1)), (3, .one (.dat (.int .i64) s13.2)), (26, .one (.dat .bool (fge .f64 s13.1 (4609434218613702656 : Nat))))], [], 0⟩ hP hN (by kernel_rfl) allNil ?_
            rcases of_bif hx37 with ⟨hb39, hx37⟩ | ⟨hb39, hx37⟩
            · refine HT.cond1 rfl hb39 ?_
              refine HT.skip (qThen ?_)
              refine HT.block ?_
              refine HT.reg1 [0, 3] [⟨none, .no⟩, ⟨none, .no⟩, ⟨none, .no⟩] ⟨[(0, .one (.dat (.flt .f64) (fop .quo .f64 s13.1 (4611686018427387904 : Nat)))), (3, .one (.dat (.int .i64) s13.2))], [], 0⟩ hP hN (by kernel_rfl) allNil ?_
              have hx37 := of_some hx37
              subst hx37
              refine HT.reg (rs := [⟨none, .no⟩, ⟨none, .no⟩, ⟨none, .no⟩]) (st' := ⟨[(3, .one (.dat (.int .i64) (wadd .i64 s13.2 (1 : Int)))), (30, .one (.dat (.int .i64) (wadd .i64 s13.2 (1 : Int)))), (29, .one (.dat (.int .i64) s13.2)), (0, .one (.dat (.flt .f64) (fop .quo .f64 s13.1 (4611686018427387904 : Nat)))), (3, .one (.dat (.int .i64) s13.2))], [], 0⟩) hP hN (by kernel_rfl) allNil (qBlock (qLoopN ⟨((fop .quo .f64 s13.1 (4611686018427387904 : Nat)), (wadd .i64 s13.2 (1 : Int))), rfl, Le.cv (s := ⟨[], [], [], false⟩) (own := []) (ps := [(fop .quo .f64 s13.1 (4611686018427387904 : Nat)) = (fop .quo .f64 s13.1 (4611686018427387904 : Nat)), (wadd .i64 s13.2 (1 : Int)) = (wadd .i64 s13.2 (1 : Int))]) (st' := ⟨[(0, .one (.dat (.flt .f64) (fop .quo .f64 s13.1 (4611686018427387904 : Nat)))), (3, .one (.dat (.int .i64) (wadd .i64 s13.2 (1 : Int))))], [], 0⟩) hO (fun h => by cases h) (by kernel_rfl) ⟨rfl, rfl, trivial⟩⟩))
            · refine HT.cond0 rfl hb39 ?_
              have hx37 := of_some hx37
              subst hx37
              refine (Le.cv (s := ⟨[], [], [], false⟩) (own := []) (ps := [s13.1 = s13.1, s13.2 = s13.2]) (st' := ⟨[(0, .one (.dat (.flt .f64) s13.1)), (3, .one (.dat (.int .i64) s13.2))], [], 0⟩) hO (fun h => by cases h) (by kernel_rfl) ⟨rfl, rfl, trivial⟩).ht ?_
              exact HT.exit (qThenE (qLoopE (hk38 (s13.1, s13.2) rfl)))
  · rcases of_bif hT3 with ⟨hb41, hT3⟩ | ⟨hb41, hT3⟩
    · refine HT.reg (rs := [⟨none, .no⟩, ⟨none, .no⟩, ⟨none, .no⟩, ⟨none, .no⟩, ⟨some true, .no⟩, ⟨some true, .no⟩, ⟨none, .tv true⟩, ⟨none, .no⟩]) (st' := ⟨[(8, .one (.dat .bool true)), (15, .one (.dat .bool true)), (14, .und), (13, .und), (12, .one (.dat .bool (!(feq .f64 a0 a0)))), (11, .one (.dat .bool (!(feq .f64 a0 a0)))), (10, .one (.dat (.flt .f64) a0)), (9, .one (.dat (.flt .f64) a0)), (0, .one (.dat (.flt .f64) a0))], [], 0⟩) hP hN (by kernel_rfl) (allCons hb41 (allCons hb41 (allCons hb41 allNil))) (qThen ?_)
      exact (Le.cv (s := ⟨[], [], [], false⟩) (own := []) (ps := [a0 = a0, true = true]) (st' := ⟨[(0, .one (.dat (.flt .f64) a0)), (8, .one (.dat .bool true))], [], 0⟩) hO (fun h => by cases h) (by kernel_rfl) ⟨rfl, rfl, trivial⟩).ht (cont true (of_some hT3))
    · refine HT.reg (rs := [⟨none, .no⟩, ⟨none, .no⟩, ⟨none, .no⟩, ⟨none, .no⟩, ⟨some false, .no⟩, ⟨some false, .no⟩, ⟨none, .tv false⟩, ⟨none, .no⟩]) (st' := ⟨[(8, .one (.dat .bool (flt .f64 a0 (0 : Nat)))), (15, .one (.dat .bool (flt .f64 a0 (0 : Nat)))), (14, .one (.dat .bool (flt .f64 a0 (0 : Nat)))), (13, .one (.dat (.flt .f64) a0)), (12, .one (.dat .bool (!(feq .f64 a0 a0)))), (11, .one (.dat .bool (!(feq .f64 a0 a0)))), (10, .one (.dat (.flt .f64) a0)), (9, .one (.dat (.flt .f64) a0)), (0, .one (.dat (.flt .f64) a0))], [], 0⟩) hP hN (by kernel_rfl) (allCons hb41 (allCons hb41 (allCons hb41 allNil))) (qThen ?_)
      exact (Le.cv (s := ⟨[], [], [], false⟩) (own := []) (ps := [a0 = a0, (flt .f64 a0 (0 : Nat)) = (flt .f64 a0 (0 : Nat))]) (st' := ⟨[(0, .one (.dat (.flt .f64) a0)), (8, .one (.dat .bool (flt .f64 a0 (0 : Nat))))], [], 0⟩) hO (fun h => by cases h) (by kernel_rfl) ⟨rfl, rfl, trivial⟩).ht (cont (flt .f64 a0 (0 : Nat)) (of_some hT3))

noncomputable def spec_l01Narrow (a0 : Nat) : Option (Nat) :=
  guardP (fconvOK .f64 .f32 a0 = true) (
    some (fconv .f64 .f32 a0))

theorem f127_ok {a0 : Nat} {r : Nat} (hr : spec_l01Narrow a0 = some r) : CallOK Try.prog 127 [.imm (.flt .f64) a0] [⟨false, (.flt .f32), r⟩] [] := by
  unfold spec_l01Narrow at hr
  refine CallOK.of_body (ts := [(false, (.flt .f32))]) Try.func127 rfl (by kernel_rfl) (Nat.le_of_ble_eq_true (by kernel_rfl)) fun cx hP hN hO hF => ?_
  have hO : cx.own.map Prod.fst = [] := hO
  have hF := hF rfl
  show HT cx ⟨[(0, .one (.dat (.flt .f64) a0))], [], 0⟩ _ _
  refine HT.reg1 [0] [⟨none, .no⟩] ⟨[(0, .one (.dat (.flt .f64) a0))], [], 0⟩ hP hN (by kernel_rfl) allNil ?_
  obtain ⟨hg1, hr⟩ := of_guard hr
  refine HT.reg1 [2] [⟨none, .no⟩, ⟨none, .no⟩, ⟨none, .no⟩] ⟨[(2, .one (.dat (.flt .f32) (fconv .f64 .f32 a0)))], [], 0⟩ hP hN (by kernel_rfl) (allCons hg1 allNil) ?_
  have hr := of_some hr
  subst hr
  exact HT.ret ⟨[.one (.dat (.flt .f32) (fconv .f64 .f32 a0))], [], [], by kernel_rfl, by kernel_rfl, rfl, by kernel_rfl, by kernel_rfl, trivial⟩

noncomputable def spec_l01Log (a0 : Nat) : Option (Nat) :=
  (spec_l01LogWide (fconv .f32 .f64 a0)).bind fun y1 =>
  (spec_l01Narrow y1).bind fun y3 =>
  some y3

theorem f97_ok {a0 : Nat} {r : Nat} (hr : spec_l01Log a0 = some r) : CallOK Try.prog 97 [.imm (.flt .f32) a0] [⟨false, (.flt .f32), r⟩] [] := by
  unfold spec_l01Log at hr
  refine CallOK.of_body (ts := [(false, (.flt .f32))]) Try.func97 rfl (by kernel_rfl) (Nat.le_of_ble_eq_true (by kernel_rfl)) fun cx hP hN hO hF => ?_
  have hO : cx.own.map Prod.fst = [] := hO
  have hF := hF rfl
  show HT cx ⟨[(0, .one (.dat (.flt .f32) a0))], [], 0⟩ _ _
  refine HT.reg1 [0] [⟨none, .no⟩] ⟨[(0, .one (.dat (.flt .f32) a0))], [], 0⟩ hP hN (by kernel_rfl) allNil ?_
  obtain ⟨y1, hc2, hr⟩ := of_bind hr
  obtain ⟨y3, hc4, hr⟩ := of_bind hr
  refine HT.reg1 [2] [⟨none, .no⟩, ⟨none, .no⟩, ⟨none, .call [.imm (.flt .f64)] [⟨false, (.flt .f64), y1⟩] []⟩, ⟨none, .call [.imm (.flt .f64)] [⟨false, (.flt .f32), y3⟩] []⟩, ⟨none, .no⟩] ⟨[(2, .one (.dat (.flt .f32) y3))], [], 0⟩ hP hN (by kernel_rfl) (allCons (show fconvOK .f32 .f64 a0 = true from (fconv_up _)) (allCons (f128_ok hc2) (allCons (f127_ok hc4) allNil))) ?_
  have hr := of_some hr
  subst hr
  exact HT.ret ⟨[.one (.dat (.flt .f32) y3)], [], [], by kernel_rfl, by kernel_rfl, rfl, by kernel_rfl, by kernel_rfl, trivial⟩

noncomputable def spec_LogChanceOf_B1 (r16 : Nat) (y19 : List Nat) (s21 : Int × List Nat) : Option ((Int × List Nat) ⊕ (List Nat)) :=
  bif (decide (s21.1 < (lenI y19))) then
    guardP ((0 : Int) ≤ s21.1 ∧ s21.1 < lenI s21.2) (
      some (.inl ((wadd .i64 s21.1 (1 : Int)), (List.set s21.2 (Int.toNat s21.1) (fop .quo .f32 (List.getD s21.2 (Int.toNat s21.1) (0 : Nat)) r16)))))
  else
    some (.inr s21.2)

noncomputable def spec_LogChanceOf_B2 (a0 : Int × Int × List Nat × List Nat × List Nat) (a1 : List Int) (s4 : List Nat × Nat × Int) (s14 : Nat × Int) : Option ((Nat × Int) ⊕ (Nat)) :=
  bif (decide (s14.2 < a0.1)) then
    guardP ((0 : Int) ≤ s14.2 ∧ s14.2 < lenI s4.1) (
      guardP ((0 : Int) ≤ s4.2.2 ∧ s4.2.2 < lenI a1) (
        guardP ((0 : Int) ≤ (wadd .i64 (wmul .i64 s14.2 a0.2.1) (List.getD a1 (Int.toNat s4.2.2) (0 : Int))) ∧ (wadd .i64 (wmul .i64 s14.2 a0.2.1) (List.getD a1 (Int.toNat s4.2.2) (0 : Int))) < lenI a0.2.2.2.2) (
          some (.inl ((fop .add .f32 s14.1 (fop .mul .f32 (List.getD s4.1 (Int.toNat s14.2) (0 : Nat)) (List.getD a0.2.2.2.2 (Int.toNat (wadd .i64 (wmul .i64 s14.2 a0.2.1) (List.getD a1 (Int.toNat s4.2.2) (0 : Int)))) (0 : Nat)))), (wadd .i64 s14.2 (1 : Int)))))))
  else
    some (.inr s14.1)

noncomputable def spec_LogChanceOf_B3 (a0 : Int × Int × List Nat × List Nat × List Nat) (a1 : List Int) (s4 : List Nat × Nat × Int) : Option ((List Nat × Nat × Int) ⊕ (Nat ⊕ Unit)) :=
  bif (decide (s4.2.2 < (lenI a1))) then
    (rounds (spec_LogChanceOf_B2 a0 a1 s4) ((0 : Nat), (0 : Int))).bind fun r16 =>
    bif (!(fgt .f32 r16 (0 : Nat))) then
      some (.inr (.inr ()))
    else
      guardP ((0 : Int) ≤ s4.2.2 ∧ s4.2.2 < lenI a1) (
        (spec_l03Next (a0.1, a0.2.1, a0.2.2.1, a0.2.2.2.1, a0.2.2.2.2) s4.1 (List.getD a1 (Int.toNat s4.2.2) (0 : Int))).bind fun y19 =>
        (rounds (spec_LogChanceOf_B1 r16 y19) ((0 : Int), y19)).bind fun r23 =>
        (spec_l01Log r16).bind fun y24 =>
        some (.inl (r23, (fop .add .f32 s4.2.1 y24), (wadd .i64 s4.2.2 (1 : Int)))))
  else
    some (.inr (.inl s4.2.1))

noncomputable def spec_LogChanceOf (a0 : Int × Int × List Nat × List Nat × List Nat) (a1 : List Int) : Option (Nat × Bool) :=
  (spec_l03Word (a0.1, a0.2.1, a0.2.2.1, a0.2.2.2.1, a0.2.2.2.2) a1).bind fun y1 =>
  bif (!y1) then
    some ((0 : Nat), false)
  else
    (rounds (spec_LogChanceOf_B3 a0 a1) (a0.2.2.1, (0 : Nat), (0 : Int))).bind fun r5 => match r5 with
      | .inl r6 =>
        (spec_l02Number r6).bind fun y7 =>
        some (y7.1, y7.2)
      | .inr r9 =>
        some ((0 : Nat), false)

theorem f41_ok {a0 : Int × Int × List Nat × List Nat × List Nat} {a1 : List Int} {r : Nat × Bool} (hr : spec_LogChanceOf a0 a1 = some r) : CallOK Try.prog 41 [.imm (.st (.pair (.int .i64) (.pair (.int .i64) (.pair (.sl (.flt .f32)) (.pair (.sl (.flt .f32)) (.sl (.flt .f32))))))) a0, .imm (.sl (.int .i64)) a1] [⟨false, (.flt .f32), r.1⟩, ⟨false, .bool, r.2⟩] [] := by
  unfold spec_LogChanceOf at hr
  refine CallOK.of_body (ts := [(false, (.flt .f32)), (false, .bool)]) Try.func41 rfl (by kernel_rfl) (Nat.le_of_ble_eq_true (by kernel_rfl)) fun cx hP hN hO hF => ?_
  have hO : cx.own.map Prod.fst = [] := hO
  have hF := hF rfl
  show HT cx ⟨[(0, .agg [.dat (.int .i64) a0.1, .dat (.int .i64) a0.2.1, .dat (.sl (.flt .f32)) a0.2.2.1, .dat (.sl (.flt .f32)) a0.2.2.2.1, .dat (.sl (.flt .f32)) a0.2.2.2.2]), (1, .one (.dat (.sl (.int .i64)) a1))], [], 0⟩ _ _
  refine HT.reg1 [1, 2] [⟨none, .no⟩, ⟨none, .no⟩, ⟨none, .no⟩] ⟨[(1, .one (.dat (.sl (.int .i64)) a1)), (2, .one (.ptr 0 0))], [(0, .box [.dat (.int .i64) a0.1, .dat (.int .i64) a0.2.1, .dat (.sl (.flt .f32)) a0.2.2.1, .dat (.sl (.flt .f32)) a0.2.2.2.1, .dat (.sl (.flt .f32)) a0.2.2.2.2])], 1⟩ hP hN (by kernel_rfl) allNil ?_
  refine HT.seq ?_
  obtain ⟨y1, hc2, hr⟩ := of_bind hr
  refine HT.reg1 [1, 2, 15] [⟨none, .no⟩, ⟨none, .call [.pimm (.st (.pair (.int .i64) (.pair (.int .i64) (.pair (.sl (.flt .f32)) (.pair (.sl (.flt .f32)) (.sl (.flt .f32))))))), .imm (.sl (.int .i64))] [⟨false, .bool, y1⟩] []⟩, ⟨none, .no⟩] ⟨[(1, .one (.dat (.sl (.int .i64)) a1)), (2, .one (.ptr 0 0)), (15, .one (.dat .bool (!y1)))], [(0, .box [.dat (.int .i64) a0.1, .dat (.int .i64) a0.2.1, .dat (.sl (.flt .f32)) a0.2.2.1, .dat (.sl (.flt .f32)) a0.2.2.2.1, .dat (.sl (.flt .f32)) a0.2.2.2.2])], 1⟩ hP hN (by kernel_rfl) (allCons (f85_ok hc2) allNil) ?_
  rcases of_bif hr with ⟨hb3, hr⟩ | ⟨hb3, hr⟩
  · refine HT.cond1 rfl hb3 ?_
    refine HT.reg1 [4, 5] [⟨none, .no⟩, ⟨none, .no⟩] ⟨[(4, .one (.dat (.flt .f32) (0 : Nat))), (5, .one (.dat .bool false))], [(0, .box [.dat (.int .i64) a0.1, .dat (.int .i64) a0.2.1, .dat (.sl (.flt .f32)) a0.2.2.1, .dat (.sl (.flt .f32)) a0.2.2.2.1, .dat (.sl (.flt .f32)) a0.2.2.2.2])], 1⟩ hP hN (by kernel_rfl) allNil ?_
    have hr := of_some hr
    subst hr
    exact HT.ret (qThenR ⟨[.one (.dat (.flt .f32) (0 : Nat)), .one (.dat .bool false)], [], [], by kernel_rfl, by kernel_rfl, rfl, by kernel_rfl, by kernel_rfl, trivial⟩)
  · refine HT.cond0 rfl hb3 ?_
    refine HT.skip (qThen ?_)
    refine HT.reg1 [1, 2, 6] [⟨none, .no⟩, ⟨none, .no⟩, ⟨none, .no⟩] ⟨[(1, .one (.dat (.sl (.int .i64)) a1)), (2, .one (.ptr 0 0)), (6, .one (.dat (.sl (.flt .f32)) a0.2.2.1))], [(0, .box [.dat (.int .i64) a0.1, .dat (.int .i64) a0.2.1, .dat (.sl (.flt .f32)) a0.2.2.1, .dat (.sl (.flt .f32)) a0.2.2.2.1, .dat (.sl (.flt .f32)) a0.2.2.2.2])], 1⟩ hP hN (by kernel_rfl) allNil ?_
    refine HT.reg1 [1, 2, 6, 7] [⟨none, .no⟩] ⟨[(1, .one (.dat (.sl (.int .i64)) a1)), (2, .one (.ptr 0 0)), (6, .one (.dat (.sl (.flt .f32)) a0.2.2.1)), (7, .one (.dat (.flt .f32) (0 : Nat)))], [(0, .box [.dat (.int .i64) a0.1, .dat (.int .i64) a0.2.1, .dat (.sl (.flt .f32)) a0.2.2.1, .dat (.sl (.flt .f32)) a0.2.2.2.1, .dat (.sl (.flt .f32)) a0.2.2.2.2])], 1⟩ hP hN (by kernel_rfl) allNil ?_
    refine HT.seq ?_
    refine HT.reg1 [1, 2, 6, 7, 19, 20] [⟨none, .no⟩, ⟨none, .no⟩, ⟨none, .no⟩] ⟨[(1, .one (.dat (.sl (.int .i64)) a1)), (2, .one (.ptr 0 0)), (6, .one (.dat (.sl (.flt .f32)) a0.2.2.1)), (7, .one (.dat (.flt .f32) (0 : Nat))), (19, .one (.dat (.int .i64) (lenI a1))), (20, .one (.dat (.int .i64) (0 : Int)))], [(0, .box [.dat (.int .i64) a0.1, .dat (.int .i64) a0.2.1, .dat (.sl (.flt .f32)) a0.2.2.1, .dat (.sl (.flt .f32)) a0.2.2.2.1, .dat (.sl (.flt .f32)) a0.2.2.2.2])], 1⟩ hP hN (by kernel_rfl) allNil ?_
    refine HT.block ?_
    obtain ⟨r5, hL40, hr⟩ := of_bind hr
    refine (Le.cv (s := ⟨[(0, 0)], [], [], false⟩) (own := []) (ps := [a1 = a1, a0.2.2.1 = a0.2.2.1, (0 : Nat) = (0 : Nat), (lenI a1) = (lenI a1), (0 : Int) = (0 : Int), a0.1 = a0.1, a0.2.1 = a0.2.1, a0.2.2.1 = a0.2.2.1, a0.2.2.2.1 = a0.2.2.2.1, a0.2.2.2.2 = a0.2.2.2.2]) (st' := ⟨[(1, .one (.dat (.sl (.int .i64)) a1)), (2, .one (.ptr 0 0)), (6, .one (.dat (.sl (.flt .f32)) a0.2.2.1)), (7, .one (.dat (.flt .f32) (0 : Nat))), (19, .one (.dat (.int .i64) (lenI a1))), (20, .one (.dat (.int .i64) (0 : Int)))], [(0, .box [.dat (.int .i64) a0.1, .dat (.int .i64) a0.2.1, .dat (.sl (.flt .f32)) a0.2.2.1, .dat (.sl (.flt .f32)) a0.2.2.2.1, .dat (.sl (.flt .f32)) a0.2.2.2.2])], 1⟩) hO (fun h => by cases h) (by kernel_rfl) ⟨rfl, rfl, rfl, rfl, rfl, rfl, rfl, rfl, rfl, rfl, trivial⟩).ht ?_
    refine HT.loopE (s := (a0.2.2.1, (0 : Nat), (0 : Int))) (fun (s4 : List Nat × Nat × Int) => ⟨[(1, .one (.dat (.sl (.int .i64)) a1)), (2, .one (.ptr 0 0)), (6, .one (.dat (.sl (.flt .f32)) s4.1)), (7, .one (.dat (.flt .f32) s4.2.1)), (19, .one (.dat (.int .i64) (lenI a1))), (20, .one (.dat (.int .i64) s4.2.2))], [(0, .box [.dat (.int .i64) a0.1, .dat (.int .i64) a0.2.1, .dat (.sl (.flt .f32)) a0.2.2.1, .dat (.sl (.flt .f32)) a0.2.2.2.1, .dat (.sl (.flt .f32)) a0.2.2.2.2])], 1⟩) (fun (r5 : Nat ⊕ Unit) => match r5 with | .inl r6 => (.exit 0, ⟨[(7, .one (.dat (.flt .f32) r6))], [], 0⟩) | .inr r9 => (.ret, ⟨[(4, .one (.dat (.flt .f32) (0 : Nat))), (5, .one (.dat .bool false))], [], 0⟩)) hL40 ?_ (fun s4 x10 hx11 hk12 => ?_)
    · rcases r5 with r6 | r9
      · refine (qBlockX (qThen ?_))
        obtain ⟨y7, hc8, hr⟩ := of_bind hr
        refine HT.reg1 [4, 5] [⟨none, .no⟩, ⟨none, .call [.imm (.flt .f32)] [⟨false, (.flt .f32), y7.1⟩, ⟨false, .bool, y7.2⟩] []⟩, ⟨none, .no⟩, ⟨none, .no⟩, ⟨none, .no⟩, ⟨none, .no⟩] ⟨[(4, .one (.dat (.flt .f32) y7.1)), (5, .one (.dat .bool y7.2))], [], 0⟩ hP hN (by kernel_rfl) (allCons (f98_ok hc8) allNil) ?_
        have hr := of_some hr
        subst hr
        exact HT.ret ⟨[.one (.dat (.flt .f32) y7.1), .one (.dat .bool y7.2)], [], [], by kernel_rfl, by kernel_rfl, rfl, by kernel_rfl, by kernel_rfl, trivial⟩
      · have hr := of_some hr
        subst hr
        exact (qBlockR (qThenR ⟨[.one (.dat (.flt .f32) (0 : Nat)), .one (.dat .bool false)], [], [], by kernel_rfl, by kernel_rfl, rfl, by kernel_rfl, by kernel_rfl, trivial⟩))
    · refine HT.reg1 [1, 2, 6, 7, 19, 20, 21] [⟨none, .no⟩] ⟨[(1, .one (.dat (.sl (.int .i64)) a1)), (2, .one (.ptr 0 0)), (6, .one (.dat (.sl (.flt .f32)) s4.1)), (7, .one (.dat (.flt .f32) s4.2.1)), (19, .one (.dat (.int .i64) (lenI a1))), (20, .one (.dat (.int .i64) s4.2.2)), (21, .one (.dat .bool (decide (s4.2.2 < (lenI a1)))))], [(0, .box [.dat (.int .i64) a0.1, .dat (.int .i64) a0.2.1, .dat (.sl (.flt .f32)) a0.2.2.1, .dat (.sl (.flt .f32)) a0.2.2.2.1, .dat (.sl (.flt .f32)) a0.2.2.2.2])], 1⟩ hP hN (by kernel_rfl) allNil ?_
      refine HT.seq ?_
      rcases of_bif hx11 with ⟨hb13, hx11⟩ | ⟨hb13, hx11⟩
      · refine HT.cond1 rfl hb13 ?_
        refine HT.skip (qThen ?_)
        refine HT.seq ?_
        refine HT.block ?_
        refine HT.reg1 [1, 2, 6, 7, 8, 19, 20] [⟨none, .no⟩, ⟨none, .no⟩] ⟨[(1, .one (.dat (.sl (.int .i64)) a1)), (2, .one (.ptr 0 0)), (6, .one (.dat (.sl (.flt .f32)) s4.1)), (7, .one (.dat (.flt .f32) s4.2.1)), (8, .one (.dat (.int .i64) s4.2.2)), (19, .one (.dat (.int .i64) (lenI a1))), (20, .one (.dat (.int .i64) s4.2.2))], [(0, .box [.dat (.int .i64) a0.1, .dat (.int .i64) a0.2.1, .dat (.sl (.flt .f32)) a0.2.2.1, .dat (.sl (.flt .f32)) a0.2.2.2.1, .dat (.sl (.flt .f32)) a0.2.2.2.2])], 1⟩ hP hN (by kernel_rfl) allNil ?_
        refine HT.reg1 [1, 2, 6, 7, 8, 9, 19, 20] [⟨none, .no⟩] ⟨[(1, .one (.dat (.sl (.int .i64)) a1)), (2, .one (.ptr 0 0)), (6, .one (.dat (.sl (.flt .f32)) s4.1)), (7, .one (.dat (.flt .f32) s4.2.1)), (8, .one (.dat (.int .i64) s4.2.2)), (9, .one (.dat (.flt .f32) (0 : Nat))), (19, .one (.dat (.int .i64) (lenI a1))), (20, .one (.dat (.int .i64) s4.2.2))], [(0, .box [.dat (.int .i64) a0.1, .dat (.int .i64) a0.2.1, .dat (.sl (.flt .f32)) a0.2.2.1, .dat (.sl (.flt .f32)) a0.2.2.2.1, .dat (.sl (.flt .f32)) a0.2.2.2.2])], 1⟩ hP hN (by kernel_rfl) allNil ?_
        refine HT.seq ?_
        refine HT.reg1 [1, 2, 6, 7, 8, 9, 10, 19, 20] [⟨none, .no⟩] ⟨[(1, .one (.dat (.sl (.int .i64)) a1)), (2, .one (.ptr 0 0)), (6, .one (.dat (.sl (.flt .f32)) s4.1)), (7, .one (.dat (.flt .f32) s4.2.1)), (8, .one (.dat (.int .i64) s4.2.2)), (9, .one (.dat (.flt .f32) (0 : Nat))), (10, .one (.dat (.int .i64) (0 : Int))), (19, .one (.dat (.int .i64) (lenI a1))), (20, .one (.dat (.int .i64) s4.2.2))], [(0, .box [.dat (.int .i64) a0.1, .dat (.int .i64) a0.2.1, .dat (.sl (.flt .f32)) a0.2.2.1, .dat (.sl (.flt .f32)) a0.2.2.2.1, .dat (.sl (.flt .f32)) a0.2.2.2.2])], 1⟩ hP hN (by kernel_rfl) allNil ?_
        refine HT.block ?_
        obtain ⟨r15, hL39, hx11⟩ := of_bind hx11
        refine (Le.cv (s := ⟨[(0, 0)], [], [], false⟩) (own := []) (ps := [a1 = a1, s4.1 = s4.1, s4.2.1 = s4.2.1, s4.2.2 = s4.2.2, (0 : Nat) = (0 : Nat), (0 : Int) = (0 : Int), (lenI a1) = (lenI a1), s4.2.2 = s4.2.2, a0.1 = a0.1, a0.2.1 = a0.2.1, a0.2.2.1 = a0.2.2.1, a0.2.2.2.1 = a0.2.2.2.1, a0.2.2.2.2 = a0.2.2.2.2]) (st' := ⟨[(1, .one (.dat (.sl (.int .i64)) a1)), (2, .one (.ptr 0 0)), (6, .one (.dat (.sl (.flt .f32)) s4.1)), (7, .one (.dat (.flt .f32) s4.2.1)), (8, .one (.dat (.int .i64) s4.2.2)), (9, .one (.dat (.flt .f32) (0 : Nat))), (10, .one (.dat (.int .i64) (0 : Int))), (19, .one (.dat (.int .i64) (lenI a1))), (20, .one (.dat (.int .i64) s4.2.2))], [(0, .box [.dat (.int .i64) a0.1, .dat (.int .i64) a0.2.1, .dat (.sl (.flt .f32)) a0.2.2.1, .dat (.sl (.flt .f32)) a0.2.2.2.1, .dat (.sl (.flt .f32)) a0.2.2.2.2])], 1⟩) hO (fun h => by cases h) (by kernel_rfl) ⟨rfl, rfl, rfl, rfl, rfl, rfl, rfl, rfl, rfl, rfl, rfl, rfl, rfl, trivial⟩).ht ?_
        refine HT.loopE (s := ((0 : Nat), (0 : Int))) (fun (s14 : Nat × Int) => ⟨[(1, .one (.dat (.sl (.int .i64)) a1)), (2, .one (.ptr 0 0)), (6, .one (.dat (.sl (.flt .f32)) s4.1)), (7, .one (.dat (.flt .f32) s4.2.1)), (8, .one (.dat (.int .i64) s4.2.2)), (9, .one (.dat (.flt .f32) s14.1)), (10, .one (.dat (.int .i64) s14.2)), (19, .one (.dat (.int .i64) (lenI a1))), (20, .one (.dat (.int .i64) s4.2.2))], [(0, .box [.dat (.int .i64) a0.1, .dat (.int .i64) a0.2.1, .dat (.sl (.flt .f32)) a0.2.2.1, .dat (.sl (.flt .f32)) a0.2.2.2.1, .dat (.sl (.flt .f32)) a0.2.2.2.2])], 1⟩) (fun (r16 : Nat) => (.exit 2, ⟨[(1, .one (.dat (.sl (.int .i64)) a1)), (2, .one (.ptr 0 0)), (6, .one (.dat (.sl (.flt .f32)) s4.1)), (7, .one (.dat (.flt .f32) s4.2.1)), (8, .one (.dat (.int .i64) s4.2.2)), (9, .one (.dat (.flt .f32) r16)), (19, .one (.dat (.int .i64) (lenI a1))), (20, .one (.dat (.int .i64) s4.2.2))], [(0, .box [.dat (.int .i64) a0.1, .dat (.int .i64) a0.2.1, .dat (.sl (.flt .f32)) a0.2.2.1, .dat (.sl (.flt .f32)) a0.2.2.2.1, .dat (.sl (.flt .f32)) a0.2.2.2.2])], 1⟩)) hL39 ?_ (fun s14 x32 hx33 hk34 => ?_)
        · refine (qBlockX (qThen ?_))
          refine HT.seq ?_
          refine HT.reg1 [1, 2, 6, 7, 8, 9, 19, 20, 51] [⟨none, .no⟩, ⟨none, .no⟩, ⟨none, .no⟩] ⟨[(1, .one (.dat (.sl (.int .i64)) a1)), (2, .one (.ptr 0 0)), (6, .one (.dat (.sl (.flt .f32)) s4.1)), (7, .one (.dat (.flt .f32) s4.2.1)), (8, .one (.dat (.int .i64) s4.2.2)), (9, .one (.dat (.flt .f32) r15)), (19, .one (.dat (.int .i64) (lenI a1))), (20, .one (.dat (.int .i64) s4.2.2)), (51, .one (.dat .bool (!(fgt .f32 r15 (0 : Nat)))))], [(0, .box [.dat (.int .i64) a0.1, .dat (.int .i64) a0.2.1, .dat (.sl (.flt .f32)) a0.2.2.1, .dat (.sl (.flt .f32)) a0.2.2.2.1, .dat (.sl (.flt .f32)) a0.2.2.2.2])], 1⟩ hP hN (by kernel_rfl) allNil ?_
          rcases of_bif hx11 with ⟨hb17, hx11⟩ | ⟨hb17, hx11⟩
          · refine HT.cond1 rfl hb17 ?_
            refine HT.reg1 [4, 5] [⟨none, .no⟩, ⟨none, .no⟩] ⟨[(4, .one (.dat (.flt .f32) (0 : Nat))), (5, .one (.dat .bool false))], [(0, .box [.dat (.int .i64) a0.1, .dat (.int .i64) a0.2.1, .dat (.sl (.flt .f32)) a0.2.2.1, .dat (.sl (.flt .f32)) a0.2.2.2.1, .dat (.sl (.flt .f32)) a0.2.2.2.2])], 1⟩ hP hN (by kernel_rfl) allNil ?_
            have hx11 := of_some hx11
            subst hx11
            refine (Le.cv (s := ⟨[], [], [], false⟩) (own := []) (ps := [(0 : Nat) = (0 : Nat), false = false]) (st' := ⟨[(4, .one (.dat (.flt .f32) (0 : Nat))), (5, .one (.dat .bool false))], [], 0⟩) hO (fun h => by cases h) (by kernel_rfl) ⟨rfl, rfl, trivial⟩).ht ?_
            exact HT.ret (qThenR (qBlockR (qThenR (qLoopR (hk12 (.inr ()) rfl)))))
          · refine HT.cond0 rfl hb17 ?_
            refine HT.skip (qThen ?_)
            obtain ⟨hg18, hx11⟩ := of_guard hx11
            obtain ⟨y19, hc20, hx11⟩ := of_bind hx11
            refine HT.reg1 [1, 2, 7, 9, 11, 19, 20] [⟨none, .no⟩, ⟨none, .no⟩, ⟨none, .no⟩, ⟨none, .no⟩, ⟨none, .no⟩, ⟨none, .call [.pimm (.st (.pair (.int .i64) (.pair (.int .i64) (.pair (.sl (.flt .f32)) (.pair (.sl (.flt .f32)) (.sl (.flt .f32))))))), .imm (.sl (.flt .f32)), .imm (.int .i64)] [⟨true, (.sl (.flt .f32)), y19⟩] []⟩, ⟨none, .no⟩] ⟨[(1, .one (.dat (.sl (.int .i64)) a1)), (2, .one (.ptr 0 0)), (7, .one (.dat (.flt .f32) s4.2.1)), (9, .one (.dat (.flt .f32) r15)), (11, .one (.all 1)), (19, .one (.dat (.int .i64) (lenI a1))), (20, .one (.dat (.int .i64) s4.2.2))], [(1, .seq (.flt .f32) y19), (0, .box [.dat (.int .i64) a0.1, .dat (.int .i64) a0.2.1, .dat (.sl (.flt .f32)) a0.2.2.1, .dat (.sl (.flt .f32)) a0.2.2.2.1, .dat (.sl (.flt .f32)) a0.2.2.2.2])], 2⟩ hP hN (by kernel_rfl) (allCons hg18 (allCons (f96_ok hc20) allNil)) ?_
            refine HT.seq ?_
            refine HT.reg1 [1, 2, 7, 9, 11, 19, 20, 59, 60] [⟨none, .no⟩, ⟨none, .no⟩, ⟨none, .no⟩] ⟨[(1, .one (.dat (.sl (.int .i64)) a1)), (2, .one (.ptr 0 0)), (7, .one (.dat (.flt .f32) s4.2.1)), (9, .one (.dat (.flt .f32) r15)), (11, .one (.all 1)), (19, .one (.dat (.int .i64) (lenI a1))), (20, .one (.dat (.int .i64) s4.2.2)), (59, .one (.dat (.int .i64) (lenI y19))), (60, .one (.dat (.int .i64) (0 : Int)))], [(1, .seq (.flt .f32) y19), (0, .box [.dat (.int .i64) a0.1, .dat (.int .i64) a0.2.1, .dat (.sl (.flt .f32)) a0.2.2.1, .dat (.sl (.flt .f32)) a0.2.2.2.1, .dat (.sl (.flt .f32)) a0.2.2.2.2])], 2⟩ hP hN (by kernel_rfl) allNil ?_
            refine HT.block ?_
            obtain ⟨r22, hL31, hx11⟩ := of_bind hx11
            refine (Le.cv (s := ⟨[(0, 0), (1, 1)], [], [], false⟩) (own := []) (ps := [a1 = a1, s4.2.1 = s4.2.1, r15 = r15, (lenI a1) = (lenI a1), s4.2.2 = s4.2.2, (lenI y19) = (lenI y19), (0 : Int) = (0 : Int), a0.1 = a0.1, a0.2.1 = a0.2.1, a0.2.2.1 = a0.2.2.1, a0.2.2.2.1 = a0.2.2.2.1, a0.2.2.2.2 = a0.2.2.2.2, y19 = y19]) (st' := ⟨[(1, .one (.dat (.sl (.int .i64)) a1)), (2, .one (.ptr 0 0)), (7, .one (.dat (.flt .f32) s4.2.1)), (9, .one (.dat (.flt .f32) r15)), (11, .one (.all 1)), (19, .one (.dat (.int .i64) (lenI a1))), (20, .one (.dat (.int .i64) s4.2.2)), (59, .one (.dat (.int .i64) (lenI y19))), (60, .one (.dat (.int .i64) (0 : Int)))], [(0, .box [.dat (.int .i64) a0.1, .dat (.int .i64) a0.2.1, .dat (.sl (.flt .f32)) a0.2.2.1, .dat (.sl (.flt .f32)) a0.2.2.2.1, .dat (.sl (.flt .f32)) a0.2.2.2.2]), (1, .seq (.flt .f32) y19)], 2⟩) hO (fun h => by cases h) (by kernel_rfl) ⟨rfl, rfl, rfl, rfl, rfl, rfl, rfl, rfl, rfl, rfl, rfl, rfl, rfl, trivial⟩).ht ?_
            refine HT.loopE (s := ((0 : Int), y19)) (fun (s21 : Int × List Nat) => ⟨[(1, .one (.dat (.sl (.int .i64)) a1)), (2, .one (.ptr 0 0)), (7, .one (.dat (.flt .f32) s4.2.1)), (9, .one (.dat (.flt .f32) r15)), (11, .one (.all 1)), (19, .one (.dat (.int .i64) (lenI a1))), (20, .one (.dat (.int .i64) s4.2.2)), (59, .one (.dat (.int .i64) (lenI y19))), (60, .one (.dat (.int .i64) s21.1))], [(0, .box [.dat (.int .i64) a0.1, .dat (.int .i64) a0.2.1, .dat (.sl (.flt .f32)) a0.2.2.1, .dat (.sl (.flt .f32)) a0.2.2.2.1, .dat (.sl (.flt .f32)) a0.2.2.2.2]), (1, .seq (.flt .f32) s21.2)], 2⟩) (fun (r23 : List Nat) => (.exit 4, ⟨[(1, .one (.dat (.sl (.int .i64)) a1)), (2, .one (.ptr 0 0)), (7, .one (.dat (.flt .f32) s4.2.1)), (9, .one (.dat (.flt .f32) r15)), (11, .one (.all 1)), (19, .one (.dat (.int .i64) (lenI a1))), (20, .one (.dat (.int .i64) s4.2.2))], [(0, .box [.dat (.int .i64) a0.1, .dat (.int .i64) a0.2.1, .dat (.sl (.flt .f32)) a0.2.2.1, .dat (.sl (.flt .f32)) a0.2.2.2.1, .dat (.sl (.flt .f32)) a0.2.2.2.2]), (1, .seq (.flt .f32) r23)], 2⟩)) hL31 ?_ (fun s21 x26 hx27 hk28 => ?_)
            · refine (qBlockX (qThen ?_))
              refine HT.reg1 [1, 2, 6, 7, 9, 19, 20] [⟨none, .no⟩, ⟨none, .no⟩] ⟨[(1, .one (.dat (.sl (.int .i64)) a1)), (2, .one (.ptr 0 0)), (6, .one (.all 1)), (7, .one (.dat (.flt .f32) s4.2.1)), (9, .one (.dat (.flt .f32) r15)), (19, .one (.dat (.int .i64) (lenI a1))), (20, .one (.dat (.int .i64) s4.2.2))], [(0, .box [.dat (.int .i64) a0.1, .dat (.int .i64) a0.2.1, .dat (.sl (.flt .f32)) a0.2.2.1, .dat (.sl (.flt .f32)) a0.2.2.2.1, .dat (.sl (.flt .f32)) a0.2.2.2.2]), (1, .seq (.flt .f32) r22)], 2⟩ hP hN (by kernel_rfl) allNil ?_
              obtain ⟨y24, hc25, hx11⟩ := of_bind hx11
              refine HT.reg (rs := [⟨none, .no⟩, ⟨none, .no⟩, ⟨none, .call [.imm (.flt .f32)] [⟨false, (.flt .f32), y24⟩] []⟩, ⟨none, .no⟩, ⟨none, .no⟩]) (st' := ⟨[(7, .one (.dat (.flt .f32) (fop .add .f32 s4.2.1 y24))), (77, .one (.dat (.flt .f32) (fop .add .f32 s4.2.1 y24))), (76, .one (.dat (.flt .f32) y24)), (75, .one (.dat (.flt .f32) r15)), (74, .one (.dat (.flt .f32) s4.2.1)), (1, .one (.dat (.sl (.int .i64)) a1)), (2, .one (.ptr 0 0)), (6, .one (.all 1)), (7, .one (.dat (.flt .f32) s4.2.1)), (9, .one (.dat (.flt .f32) r15)), (19, .one (.dat (.int .i64) (lenI a1))), (20, .one (.dat (.int .i64) s4.2.2))], [(0, .box [.dat (.int .i64) a0.1, .dat (.int .i64) a0.2.1, .dat (.sl (.flt .f32)) a0.2.2.1, .dat (.sl (.flt .f32)) a0.2.2.2.1, .dat (.sl (.flt .f32)) a0.2.2.2.2]), (1, .seq (.flt .f32) r22)], 2⟩) hP hN (by kernel_rfl) (allCons (f97_ok hc25) allNil) (qBlock (qThen ?_))
              have hx11 := of_some hx11
              subst hx11
              refine HT.reg (rs := [⟨none, .no⟩, ⟨none, .no⟩]) (st' := ⟨[(20, .one (.dat (.int .i64) (wadd .i64 s4.2.2 (1 : Int)))), (78, .one (.dat (.int .i64) (wadd .i64 s4.2.2 (1 : Int)))), (7, .one (.dat (.flt .f32) (fop .add .f32 s4.2.1 y24))), (77, .one (.dat (.flt .f32) (fop .add .f32 s4.2.1 y24))), (76, .one (.dat (.flt .f32) y24)), (75, .one (.dat (.flt .f32) r15)), (74, .one (.dat (.flt .f32) s4.2.1)), (1, .one (.dat (.sl (.int .i64)) a1)), (2, .one (.ptr 0 0)), (6, .one (.all 1)), (7, .one (.dat (.flt .f32) s4.2.1)), (9, .one (.dat (.flt .f32) r15)), (19, .one (.dat (.int .i64) (lenI a1))), (20, .one (.dat (.int .i64) s4.2.2))], [(0, .box [.dat (.int .i64) a0.1, .dat (.int .i64) a0.2.1, .dat (.sl (.flt .f32)) a0.2.2.1, .dat (.sl (.flt .f32)) a0.2.2.2.1, .dat (.sl (.flt .f32)) a0.2.2.2.2]), (1, .seq (.flt .f32) r22)], 2⟩) hP hN (by kernel_rfl) allNil (qLoopN ⟨(r22, (fop .add .f32 s4.2.1 y24), (wadd .i64 s4.2.2 (1 : Int))), rfl, Le.cv (s := ⟨[(0, 0)], [], [], true⟩) (own := []) (ps := [a1 = a1, r22 = r22, (fop .add .f32 s4.2.1 y24) = (fop .add .f32 s4.2.1 y24), (lenI a1) = (lenI a1), (wadd .i64 s4.2.2 (1 : Int)) = (wadd .i64 s4.2.2 (1 : Int)), a0.1 = a0.1, a0.2.1 = a0.2.1, a0.2.2.1 = a0.2.2.1, a0.2.2.2.1 = a0.2.2.2.1, a0.2.2.2.2 = a0.2.2.2.2]) (st' := ⟨[(1, .one (.dat (.sl (.int .i64)) a1)), (2, .one (.ptr 0 0)), (6, .one (.dat (.sl (.flt .f32)) r22)), (7, .one (.dat (.flt .f32) (fop .add .f32 s4.2.1 y24))), (19, .one (.dat (.int .i64) (lenI a1))), (20, .one (.dat (.int .i64) (wadd .i64 s4.2.2 (1 : Int))))], [(0, .box [.dat (.int .i64) a0.1, .dat (.int .i64) a0.2.1, .dat (.sl (.flt .f32)) a0.2.2.1, .dat (.sl (.flt .f32)) a0.2.2.2.1, .dat (.sl (.flt .f32)) a0.2.2.2.2])], 1⟩) hO (fun _ => hF) (by kernel_rfl) ⟨rfl, rfl, rfl, rfl, rfl, rfl, rfl, rfl, rfl, rfl, trivial⟩⟩)
            · refine HT.reg1 [1, 2, 7, 9, 11, 19, 20, 59, 60, 61] [⟨none, .no⟩] ⟨[(1, .one (.dat (.sl (.int .i64)) a1)), (2, .one (.ptr 0 0)), (7, .one (.dat (.flt .f32) s4.2.1)), (9, .one (.dat (.flt .f32) r15)), (11, .one (.all 1)), (19, .one (.dat (.int .i64) (lenI a1))), (20, .one (.dat (.int .i64) s4.2.2)), (59, .one (.dat (.int .i64) (lenI y19))), (60, .one (.dat (.int .i64) s21.1)), (61, .one (.dat .bool (decide (s21.1 < (lenI y19)))))], [(0, .box [.dat (.int .i64) a0.1, .dat (.int .i64) a0.2.1, .dat (.sl (.flt .f32)) a0.2.2.1, .dat (.sl (.flt .f32)) a0.2.2.2.1, .dat (.sl (.flt .f32)) a0.2.2.2.2]), (1, .seq (.flt .f32) s21.2)], 2⟩ hP hN (by kernel_rfl) allNil ?_
              refine HT.seq ?_
              rcases of_bif hx27 with ⟨hb29, hx27⟩ | ⟨hb29, hx27⟩
              · refine HT.cond1 rfl hb29 ?_
                refine HT.skip (qThen ?_)
                refine HT.seq ?_
                refine HT.block ?_
                refine HT.reg1 [1, 2, 7, 9, 11, 12, 19, 20, 59, 60] [⟨none, .no⟩, ⟨none, .no⟩] ⟨[(1, .one (.dat (.sl (.int .i64)) a1)), (2, .one (.ptr 0 0)), (7, .one (.dat (.flt .f32) s4.2.1)), (9, .one (.dat (.flt .f32) r15)), (11, .one (.all 1)), (12, .one (.dat (.int .i64) s21.1)), (19, .one (.dat (.int .i64) (lenI a1))), (20, .one (.dat (.int .i64) s4.2.2)), (59, .one (.dat (.int .i64) (lenI y19))), (60, .one (.dat (.int .i64) s21.1))], [(0, .box [.dat (.int .i64) a0.1, .dat (.int .i64) a0.2.1, .dat (.sl (.flt .f32)) a0.2.2.1, .dat (.sl (.flt .f32)) a0.2.2.2.1, .dat (.sl (.flt .f32)) a0.2.2.2.2]), (1, .seq (.flt .f32) s21.2)], 2⟩ hP hN (by kernel_rfl) allNil ?_
                obtain ⟨hg30, hx27⟩ := of_guard hx27
                refine HT.reg (rs := [⟨none, .no⟩, ⟨none, .no⟩, ⟨none, .no⟩, ⟨none, .no⟩, ⟨none, .no⟩, ⟨none, .no⟩, ⟨none, .no⟩, ⟨none, .no⟩, ⟨none, .no⟩, ⟨none, .no⟩]) (st' := ⟨[(71, .one (.elp 1 (Int.toNat s21.1) 1 0)), (70, .one (.dat (.flt .f32) (fop .quo .f32 (List.getD s21.2 (Int.toNat s21.1) (0 : Nat)) r15))), (69, .one (.dat (.flt .f32) r15)), (68, .one (.dat (.flt .f32) (List.getD s21.2 (Int.toNat s21.1) (0 : Nat)))), (67, .one (.elp 1 (Int.toNat s21.1) 1 0)), (66, .one (.dat (.int .i64) s21.1)), (65, .one (.all 1)), (64, .one (.dat (.int .i64) s21.1)), (63, .one (.all 1)), (1, .one (.dat (.sl (.int .i64)) a1)), (2, .one (.ptr 0 0)), (7, .one (.dat (.flt .f32) s4.2.1)), (9, .one (.dat (.flt .f32) r15)), (11, .one (.all 1)), (12, .one (.dat (.int .i64) s21.1)), (19, .one (.dat (.int .i64) (lenI a1))), (20, .one (.dat (.int .i64) s4.2.2)), (59, .one (.dat (.int .i64) (lenI y19))), (60, .one (.dat (.int .i64) s21.1))], [(1, .seq (.flt .f32) (List.set s21.2 (Int.toNat s21.1) (fop .quo .f32 (List.getD s21.2 (Int.toNat s21.1) (0 : Nat)) r15))), (0, .box [.dat (.int .i64) a0.1, .dat (.int .i64) a0.2.1, .dat (.sl (.flt .f32)) a0.2.2.1, .dat (.sl (.flt .f32)) a0.2.2.2.1, .dat (.sl (.flt .f32)) a0.2.2.2.2]), (1, .seq (.flt .f32) s21.2)], 2⟩) hP hN (by kernel_rfl) (allCons hg30 (allCons (natLt hg30) (allCons hg30 (allCons (natLt hg30) allNil)))) (qBlock (qThen ?_))
                have hx27 := of_some hx27
                subst hx27
                refine HT.reg (rs := [⟨none, .no⟩, ⟨none, .no⟩]) (st' := ⟨[(60, .one (.dat (.int .i64) (wadd .i64 s21.1 (1 : Int)))), (72, .one (.dat (.int .i64) (wadd .i64 s21.1 (1 : Int)))), (71, .one (.elp 1 (Int.toNat s21.1) 1 0)), (70, .one (.dat (.flt .f32) (fop .quo .f32 (List.getD s21.2 (Int.toNat s21.1) (0 : Nat)) r15))), (69, .one (.dat (.flt .f32) r15)), (68, .one (.dat (.flt .f32) (List.getD s21.2 (Int.toNat s21.1) (0 : Nat)))), (67, .one (.elp 1 (Int.toNat s21.1) 1 0)), (66, .one (.dat (.int .i64) s21.1)), (65, .one (.all 1)), (64, .one (.dat (.int .i64) s21.1)), (63, .one (.all 1)), (1, .one (.dat (.sl (.int .i64)) a1)), (2, .one (.ptr 0 0)), (7, .one (.dat (.flt .f32) s4.2.1)), (9, .one (.dat (.flt .f32) r15)), (11, .one (.all 1)), (12, .one (.dat (.int .i64) s21.1)), (19, .one (.dat (.int .i64) (lenI a1))), (20, .one (.dat (.int .i64) s4.2.2)), (59, .one (.dat (.int .i64) (lenI y19))), (60, .one (.dat (.int .i64) s21.1))], [(1, .seq (.flt .f32) (List.set s21.2 (Int.toNat s21.1) (fop .quo .f32 (List.getD s21.2 (Int.toNat s21.1) (0 : Nat)) r15))), (0, .box [.dat (.int .i64) a0.1, .dat (.int .i64) a0.2.1, .dat (.sl (.flt .f32)) a0.2.2.1, .dat (.sl (.flt .f32)) a0.2.2.2.1, .dat (.sl (.flt .f32)) a0.2.2.2.2]), (1, .seq (.flt .f32) s21.2)], 2⟩) hP hN (by kernel_rfl) allNil (qLoopN ⟨((wadd .i64 s21.1 (1 : Int)), (List.set s21.2 (Int.toNat s21.1) (fop .quo .f32 (List.getD s21.2 (Int.toNat s21.1) (0 : Nat)) r15))), rfl, Le.cv (s := ⟨[(0, 0), (1, 1)], [], [], false⟩) (own := []) (ps := [a1 = a1, s4.2.1 = s4.2.1, r15 = r15, (lenI a1) = (lenI a1), s4.2.2 = s4.2.2, (lenI y19) = (lenI y19), (wadd .i64 s21.1 (1 : Int)) = (wadd .i64 s21.1 (1 : Int)), a0.1 = a0.1, a0.2.1 = a0.2.1, a0.2.2.1 = a0.2.2.1, a0.2.2.2.1 = a0.2.2.2.1, a0.2.2.2.2 = a0.2.2.2.2, (List.set s21.2 (Int.toNat s21.1) (fop .quo .f32 (List.getD s21.2 (Int.toNat s21.1) (0 : Nat)) r15)) = (List.set s21.2 (Int.toNat s21.1) (fop .quo .f32 (List.getD s21.2 (Int.toNat s21.1) (0 : Nat)) r15))]) (st' := ⟨[(1, .one (.dat (.sl (.int .i64)) a1)), (2, .one (.ptr 0 0)), (7, .one (.dat (.flt .f32) s4.2.1)), (9, .one (.dat (.flt .f32) r15)), (11, .one (.all 1)), (19, .one (.dat (.int .i64) (lenI a1))), (20, .one (.dat (.int .i64) s4.2.2)), (59, .one (.dat (.int .i64) (lenI y19))), (60, .one (.dat (.int .i64) (wadd .i64 s21.1 (1 : Int))))], [(0, .box [.dat (.int .i64) a0.1, .dat (.int .i64) a0.2.1, .dat (.sl (.flt .f32)) a0.2.2.1, .dat (.sl (.flt .f32)) a0.2.2.2.1, .dat (.sl (.flt .f32)) a0.2.2.2.2]), (1, .seq (.flt .f32) (List.set s21.2 (Int.toNat s21.1) (fop .quo .f32 (List.getD s21.2 (Int.toNat s21.1) (0 : Nat)) r15)))], 2⟩) hO (fun h => by cases h) (by kernel_rfl) ⟨rfl, rfl, rfl, rfl, rfl, rfl, rfl, rfl, rfl, rfl, rfl, rfl, rfl, trivial⟩⟩)
              · refine HT.cond0 rfl hb29 ?_
                have hx27 := of_some hx27
                subst hx27
                refine (Le.cv (s := ⟨[(0, 0), (1, 1)], [], [], false⟩) (own := []) (ps := [a1 = a1, s4.2.1 = s4.2.1, r15 = r15, (lenI a1) = (lenI a1), s4.2.2 = s4.2.2, a0.1 = a0.1, a0.2.1 = a0.2.1, a0.2.2.1 = a0.2.2.1, a0.2.2.2.1 = a0.2.2.2.1, a0.2.2.2.2 = a0.2.2.2.2, s21.2 = s21.2]) (st' := ⟨[(1, .one (.dat (.sl (.int .i64)) a1)), (2, .one (.ptr 0 0)), (7, .one (.dat (.flt .f32) s4.2.1)), (9, .one (.dat (.flt .f32) r15)), (11, .one (.all 1)), (19, .one (.dat (.int .i64) (lenI a1))), (20, .one (.dat (.int .i64) s4.2.2))], [(0, .box [.dat (.int .i64) a0.1, .dat (.int .i64) a0.2.1, .dat (.sl (.flt .f32)) a0.2.2.1, .dat (.sl (.flt .f32)) a0.2.2.2.1, .dat (.sl (.flt .f32)) a0.2.2.2.2]), (1, .seq (.flt .f32) s21.2)], 2⟩) hO (fun h => by cases h) (by kernel_rfl) ⟨rfl, rfl, rfl, rfl, rfl, rfl, rfl, rfl, rfl, rfl, rfl, trivial⟩).ht ?_
                exact HT.exit (qThenE (qLoopE (hk28 s21.2 rfl)))
        · refine HT.seq ?_
          refine HT.reg1 [1, 2, 6, 7, 8, 9, 10, 19, 20, 26] [⟨none, .no⟩, ⟨none, .no⟩, ⟨none, .no⟩, ⟨none, .no⟩] ⟨[(1, .one (.dat (.sl (.int .i64)) a1)), (2, .one (.ptr 0 0)), (6, .one (.dat (.sl (.flt .f32)) s4.1)), (7, .one (.dat (.flt .f32) s4.2.1)), (8, .one (.dat (.int .i64) s4.2.2)), (9, .one (.dat (.flt .f32) s14.1)), (10, .one (.dat (.int .i64) s14.2)), (19, .one (.dat (.int .i64) (lenI a1))), (20, .one (.dat (.int .i64) s4.2.2)), (26, .one (.dat .bool (decide (s14.2 < a0.1))))], [(0, .box [.dat (.int .i64) a0.1, .dat (.int .i64) a0.2.1, .dat (.sl (.flt .f32)) a0.2.2.1, .dat (.sl (.flt .f32)) a0.2.2.2.1, .dat (.sl (.flt .f32)) a0.2.2.2.2])], 1⟩ hP hN (by kernel_rfl) allNil ?_
          rcases of_bif hx33 with ⟨hb35, hx33⟩ | ⟨hb35, hx33⟩
          · refine HT.cond1 rfl hb35 ?_
            refine HT.skip (qThen ?_)
            refine HT.seq ?_
            refine HT.block ?_
            obtain ⟨hg36, hx33⟩ := of_guard hx33
            obtain ⟨hg37, hx33⟩ := of_guard hx33
            obtain ⟨hg38, hx33⟩ := of_guard hx33
            refine drawS (h := 19) (hrs := [⟨⟨none, .no⟩, []⟩, ⟨⟨none, .no⟩, []⟩, ⟨⟨none, .no⟩, []⟩, ⟨⟨none, .no⟩, [1, 2]⟩, ⟨⟨none, .no⟩, [1, 2, 3]⟩, ⟨⟨none, .no⟩, []⟩, ⟨⟨none, .no⟩, [5]⟩, ⟨⟨none, .no⟩, []⟩, ⟨⟨none, .no⟩, []⟩, ⟨⟨none, .no⟩, [8]⟩, ⟨⟨none, .no⟩, [7, 8, 9]⟩, ⟨⟨none, .no⟩, []⟩, ⟨⟨none, .no⟩, []⟩, ⟨⟨none, .no⟩, [11, 12]⟩, ⟨⟨none, .no⟩, [11, 12, 13]⟩, ⟨⟨none, .no⟩, [7, 8, 9, 10, 11, 12, 13, 14]⟩, ⟨⟨none, .no⟩, [5, 6, 7, 8, 9, 10, 11, 12, 13, 14, 15]⟩, ⟨⟨none, .no⟩, [5, 6, 7, 8, 9, 10, 11, 12, 13, 14, 15, 16]⟩, ⟨⟨none, .no⟩, [1, 2, 3, 4, 5, 6, 7, 8, 9, 10, 11, 12, 13, 14, 15, 16, 17]⟩]) (tds := [[0, 1, 2, 3, 4, 5, 6, 7, 8, 9, 10, 11, 12, 13, 14, 15, 16, 17, 18], [0, 1, 2, 3, 4, 5, 6, 7, 8, 9, 10, 11, 12, 13, 14, 15, 16, 17, 18, 19]]) (rs := [⟨none, .no⟩, ⟨none, .no⟩]) (st' := ⟨[(9, .one (.dat (.flt .f32) (fop .add .f32 s14.1 (fop .mul .f32 (List.getD s4.1 (Int.toNat s14.2) (0 : Nat)) (List.getD a0.2.2.2.2 (Int.toNat (wadd .i64 (wmul .i64 s14.2 a0.2.1) (List.getD a1 (Int.toNat s4.2.2) (0 : Int)))) (0 : Nat)))))), (48, .one (.dat (.flt .f32) (fop .add .f32 s14.1 (fop .mul .f32 (List.getD s4.1 (Int.toNat s14.2) (0 : Nat)) (List.getD a0.2.2.2.2 (Int.toNat (wadd .i64 (wmul .i64 s14.2 a0.2.1) (List.getD a1 (Int.toNat s4.2.2) (0 : Int)))) (0 : Nat)))))), (47, .one (.dat (.flt .f32) (fop .mul .f32 (List.getD s4.1 (Int.toNat s14.2) (0 : Nat)) (List.getD a0.2.2.2.2 (Int.toNat (wadd .i64 (wmul .i64 s14.2 a0.2.1) (List.getD a1 (Int.toNat s4.2.2) (0 : Int)))) (0 : Nat))))), (46, .one (.dat (.flt .f32) (List.getD a0.2.2.2.2 (Int.toNat (wadd .i64 (wmul .i64 s14.2 a0.2.1) (List.getD a1 (Int.toNat s4.2.2) (0 : Int)))) (0 : Nat)))), (45, .one (.ip (.flt .f32) (List.getD a0.2.2.2.2 (Int.toNat (wadd .i64 (wmul .i64 s14.2 a0.2.1) (List.getD a1 (Int.toNat s4.2.2) (0 : Int)))) (0 : Nat)) 0)), (44, .one (.dat (.int .i64) (wadd .i64 (wmul .i64 s14.2 a0.2.1) (List.getD a1 (Int.toNat s4.2.2) (0 : Int))))), (43, .one (.dat (.int .i64) (List.getD a1 (Int.toNat s4.2.2) (0 : Int)))), (42, .one (.ip (.int .i64) (List.getD a1 (Int.toNat s4.2.2) (0 : Int)) 0)), (41, .one (.dat (.int .i64) s4.2.2)), (40, .one (.dat (.sl (.int .i64)) a1)), (39, .one (.dat (.int .i64) (wmul .i64 s14.2 a0.2.1))), (38, .one (.dat (.int .i64) a0.2.1)), (37, .one (.ptr 0 1)), (36, .one (.dat (.int .i64) s14.2)), (35, .one (.dat (.sl (.flt .f32)) a0.2.2.2.2)), (34, .one (.ptr 0 4)), (33, .one (.dat (.flt .f32) (List.getD s4.1 (Int.toNat s14.2) (0 : Nat)))), (32, .one (.ip (.flt .f32) (List.getD s4.1 (Int.toNat s14.2) (0 : Nat)) 0)), (31, .one (.dat (.int .i64) s14.2)), (30, .one (.dat (.sl (.flt .f32)) s4.1)), (29, .one (.dat (.flt .f32) s14.1)), (1, .one (.dat (.sl (.int .i64)) a1)), (2, .one (.ptr 0 0)), (6, .one (.dat (.sl (.flt .f32)) s4.1)), (7, .one (.dat (.flt .f32) s4.2.1)), (8, .one (.dat (.int .i64) s4.2.2)), (9, .one (.dat (.flt .f32) s14.1)), (10, .one (.dat (.int .i64) s14.2)), (19, .one (.dat (.int .i64) (lenI a1))), (20, .one (.dat (.int .i64) s4.2.2)), (26, .one (.dat .bool (decide (s14.2 < a0.1))))], [(0, .box [.dat (.int .i64) a0.1, .dat (.int .i64) a0.2.1, .dat (.sl (.flt .f32)) a0.2.2.1, .dat (.sl (.flt .f32)) a0.2.2.2.1, .dat (.sl (.flt .f32)) a0.2.2.2.2])], 1⟩) hP hN (by kernel_rfl) (by kernel_rfl) (allCons hg36 (allCons hg37 (allCons hg38 allNil))) (qBlock (qThen ?_))
            have hx33 := of_some hx33
            subst hx33
            refine HT.reg (rs := [⟨none, .no⟩, ⟨none, .no⟩, ⟨none, .no⟩]) (st' := ⟨[(10, .one (.dat (.int .i64) (wadd .i64 s14.2 (1 : Int)))), (28, .one (.dat (.int .i64) (wadd .i64 s14.2 (1 : Int)))), (27, .one (.dat (.int .i64) s14.2)), (9, .one (.dat (.flt .f32) (fop .add .f32 s14.1 (fop .mul .f32 (List.getD s4.1 (Int.toNat s14.2) (0 : Nat)) (List.getD a0.2.2.2.2 (Int.toNat (wadd .i64 (wmul .i64 s14.2 a0.2.1) (List.getD a1 (Int.toNat s4.2.2) (0 : Int)))) (0 : Nat)))))), (48, .one (.dat (.flt .f32) (fop .add .f32 s14.1 (fop .mul .f32 (List.getD s4.1 (Int.toNat s14.2) (0 : Nat)) (List.getD a0.2.2.2.2 (Int.toNat (wadd .i64 (wmul .i64 s14.2 a0.2.1) (List.getD a1 (Int.toNat s4.2.2) (0 : Int)))) (0 : Nat)))))), (47, .one (.dat (.flt .f32) (fop .mul .f32 (List.getD s4.1 (Int.toNat s14.2) (0 : Nat)) (List.getD a0.2.2.2.2 (Int.toNat (wadd .i64 (wmul .i64 s14.2 a0.2.1) (List.getD a1 (Int.toNat s4.2.2) (0 : Int)))) (0 : Nat))))), (46, .one (.dat (.flt .f32) (List.getD a0.2.2.2.2 (Int.toNat (wadd .i64 (wmul .i64 s14.2 a0.2.1) (List.getD a1 (Int.toNat s4.2.2) (0 : Int)))) (0 : Nat)))), (45, .one (.ip (.flt .f32) (List.getD a0.2.2.2.2 (Int.toNat (wadd .i64 (wmul .i64 s14.2 a0.2.1) (List.getD a1 (Int.toNat s4.2.2) (0 : Int)))) (0 : Nat)) 0)), (44, .one (.dat (.int .i64) (wadd .i64 (wmul .i64 s14.2 a0.2.1) (List.getD a1 (Int.toNat s4.2.2) (0 : Int))))), (43, .one (.dat (.int .i64) (List.getD a1 (Int.toNat s4.2.2) (0 : Int)))), (42, .one (.ip (.int .i64) (List.getD a1 (Int.toNat s4.2.2) (0 : Int)) 0)), (41, .one (.dat (.int .i64) s4.2.2)), (40, .one (.dat (.sl (.int .i64)) a1)), (39, .one (.dat (.int .i64) (wmul .i64 s14.2 a0.2.1))), (38, .one (.dat (.int .i64) a0.2.1)), (37, .one (.ptr 0 1)), (36, .one (.dat (.int .i64) s14.2)), (35, .one (.dat (.sl (.flt .f32)) a0.2.2.2.2)), (34, .one (.ptr 0 4)), (33, .one (.dat (.flt .f32) (List.getD s4.1 (Int.toNat s14.2) (0 : Nat)))), (32, .one (.ip (.flt .f32) (List.getD s4.1 (Int.toNat s14.2) (0 : Nat)) 0)), (31, .one (.dat (.int .i64) s14.2)), (30, .one (.dat (.sl (.flt .f32)) s4.1)), (29, .one (.dat (.flt .f32) s14.1)), (1, .one (.dat (.sl (.int .i64)) a1)), (2, .one (.ptr 0 0)), (6, .one (.dat (.sl (.flt .f32)) s4.1)), (7, .one (.dat (.flt .f32) s4.2.1)), (8, .one (.dat (.int .i64) s4.2.2)), (9, .one (.dat (.flt .f32) s14.1)), (10, .one (.dat (.int .i64) s14.2)), (19, .one (.dat (.int .i64) (lenI a1))), (20, .one (.dat (.int .i64) s4.2.2)), (26, .one (.dat .bool (decide (s14.2 < a0.1))))], [(0, .box [.dat (.int .i64) a0.1, .dat (.int .i64) a0.2.1, .dat (.sl (.flt .f32)) a0.2.2.1, .dat (.sl (.flt .f32)) a0.2.2.2.1, .dat (.sl (.flt .f32)) a0.2.2.2.2])], 1⟩) hP hN (by kernel_rfl) allNil (qLoopN ⟨((fop .add .f32 s14.1 (fop .mul .f32 (List.getD s4.1 (Int.toNat s14.2) (0 : Nat)) (List.getD a0.2.2.2.2 (Int.toNat (wadd .i64 (wmul .i64 s14.2 a0.2.1) (List.getD a1 (Int.toNat s4.2.2) (0 : Int)))) (0 : Nat)))), (wadd .i64 s14.2 (1 : Int))), rfl, Le.cv (s := ⟨[(0, 0)], [], [], false⟩) (own := []) (ps := [a1 = a1, s4.1 = s4.1, s4.2.1 = s4.2.1, s4.2.2 = s4.2.2, (fop .add .f32 s14.1 (fop .mul .f32 (List.getD s4.1 (Int.toNat s14.2) (0 : Nat)) (List.getD a0.2.2.2.2 (Int.toNat (wadd .i64 (wmul .i64 s14.2 a0.2.1) (List.getD a1 (Int.toNat s4.2.2) (0 : Int)))) (0 : Nat)))) = (fop .add .f32 s14.1 (fop .mul .f32 (List.getD s4.1 (Int.toNat s14.2) (0 : Nat)) (List.getD a0.2.2.2.2 (Int.toNat (wadd .i64 (wmul .i64 s14.2 a0.2.1) (List.getD a1 (Int.toNat s4.2.2) (0 : Int)))) (0 : Nat)))), (wadd .i64 s14.2 (1 : Int)) = (wadd .i64 s14.2 (1 : Int)), (lenI a1) = (lenI a1), s4.2.2 = s4.2.2, a0.1 = a0.1, a0.2.1 = a0.2.1, a0.2.2.1 = a0.2.2.1, a0.2.2.2.1 = a0.2.2.2.1, a0.2.2.2.2 = a0.2.2.2.2]) (st' := ⟨[(1, .one (.dat (.sl (.int .i64)) a1)), (2, .one (.ptr 0 0)), (6, .one (.dat (.sl (.flt .f32)) s4.1)), (7, .one (.dat (.flt .f32) s4.2.1)), (8, .one (.dat (.int .i64) s4.2.2)), (9, .one (.dat (.flt .f32) (fop .add .f32 s14.1 (fop .mul .f32 (List.getD s4.1 (Int.toNat s14.2) (0 : Nat)) (List.getD a0.2.2.2.2 (Int.toNat (wadd .i64 (wmul .i64 s14.2 a0.2.1) (List.getD a1 (Int.toNat s4.2.2) (0 : Int)))) (0 : Nat)))))), (10, .one (.dat (.int .i64) (wadd .i64 s14.2 (1 : Int)))), (19, .one (.dat (.int .i64) (lenI a1))), (20, .one (.dat (.int .i64) s4.2.2))], [(0, .box [.dat (.int .i64) a0.1, .dat (.int .i64) a0.2.1, .dat (.sl (.flt .f32)) a0.2.2.1, .dat (.sl (.flt .f32)) a0.2.2.2.1, .dat (.sl (.flt .f32)) a0.2.2.2.2])], 1⟩) hO (fun h => by cases h) (by kernel_rfl) ⟨rfl, rfl, rfl, rfl, rfl, rfl, rfl, rfl, rfl, rfl, rfl, rfl, rfl, trivial⟩⟩)
          · refine HT.cond0 rfl hb35 ?_
            have hx33 := of_some hx33
            subst hx33
            refine (Le.cv (s := ⟨[(0, 0)], [], [], false⟩) (own := []) (ps := [a1 = a1, s4.1 = s4.1, s4.2.1 = s4.2.1, s4.2.2 = s4.2.2, s14.1 = s14.1, (lenI a1) = (lenI a1), s4.2.2 = s4.2.2, a0.1 = a0.1, a0.2.1 = a0.2.1, a0.2.2.1 = a0.2.2.1, a0.2.2.2.1 = a0.2.2.2.1, a0.2.2.2.2 = a0.2.2.2.2]) (st' := ⟨[(1, .one (.dat (.sl (.int .i64)) a1)), (2, .one (.ptr 0 0)), (6, .one (.dat (.sl (.flt .f32)) s4.1)), (7, .one (.dat (.flt .f32) s4.2.1)), (8, .one (.dat (.int .i64) s4.2.2)), (9, .one (.dat (.flt .f32) s14.1)), (19, .one (.dat (.int .i64) (lenI a1))), (20, .one (.dat (.int .i64) s4.2.2))], [(0, .box [.dat (.int .i64) a0.1, .dat (.int .i64) a0.2.1, .dat (.sl (.flt .f32)) a0.2.2.1, .dat (.sl (.flt .f32)) a0.2.2.2.1, .dat (.sl (.flt .f32)) a0.2.2.2.2])], 1⟩) hO (fun h => by cases h) (by kernel_rfl) ⟨rfl, rfl, rfl, rfl, rfl, rfl, rfl, rfl, rfl, rfl, rfl, rfl, trivial⟩).ht ?_
            exact HT.exit (qThenE (qLoopE (hk34 s14.1 rfl)))
      · refine HT.cond0 rfl hb13 ?_
        have hx11 := of_some hx11
        subst hx11
        refine (Le.cv (s := ⟨[], [], [], false⟩) (own := []) (ps := [s4.2.1 = s4.2.1]) (st' := ⟨[(7, .one (.dat (.flt .f32) s4.2.1))], [], 0⟩) hO (fun h => by cases h) (by kernel_rfl) ⟨rfl, trivial⟩).ht ?_
        exact HT.exit (qThenE (qLoopE (hk12 (.inl s4.2.1) rfl)))

noncomputable def spec_l03Likes_B1 (a0 : Int × Int × List Nat × List Nat × List Nat) (a1 : List (List Int)) (s1 : Int × List Nat) : Option ((Int × List Nat) ⊕ (List Nat ⊕ Unit)) :=
  bif (decide (s1.1 < (lenI a1))) then
    guardP ((0 : Int) ≤ s1.1 ∧ s1.1 < lenI a1) (
      (spec_LogChanceOf (a0.1, a0.2.1, a0.2.2.1, a0.2.2.2.1, a0.2.2.2.2) (List.getD a1 (Int.toNat s1.1) ([] : List Int))).bind fun y10 =>
      bif (!y10.2) then
        some (.inr (.inr ()))
      else
        guardP (List.length s1.2 + List.length ([y10.1] : List Nat) ≤ appMax) (
          some (.inl ((wadd .i64 s1.1 (1 : Int)), (s1.2 ++ ([y10.1] : List Nat))))))
  else
    some (.inr (.inl s1.2))

noncomputable def spec_l03Likes (a0 : Int × Int × List Nat × List Nat × List Nat) (a1 : List (List Int)) : Option (List Nat × Bool) :=
  (rounds (spec_l03Likes_B1 a0 a1) ((0 : Int), ([] : List Nat))).bind fun r2 => match r2 with
    | .inl r3 =>
      some (r3, true)
    | .inr r4 =>
      some (([] : List Nat), false)

theorem f109_ok {a0 : Int × Int × List Nat × List Nat × List Nat} {a1 : List (List Int)} {r : List Nat × Bool} (hr : spec_l03Likes a0 a1 = some r) : CallOK Try.prog 109 [.pimm (.st (.pair (.int .i64) (.pair (.int .i64) (.pair (.sl (.flt .f32)) (.pair (.sl (.flt .f32)) (.sl (.flt .f32))))))) a0, .imm (.sl (.sl (.int .i64))) a1] [⟨true, (.sl (.flt .f32)), r.1⟩, ⟨false, .bool, r.2⟩] [] := by
  unfold spec_l03Likes at hr
  refine CallOK.of_body (ts := [(true, (.sl (.flt .f32))), (false, .bool)]) Try.func109 rfl (by kernel_rfl) (Nat.le_of_ble_eq_true (by kernel_rfl)) fun cx hP hN hO hF => ?_
  have hO : cx.own.map Prod.fst = [] := hO
  have hF := hF rfl
  show HT cx ⟨[(0, .one (.ip (.st (.pair (.int .i64) (.pair (.int .i64) (.pair (.sl (.flt .f32)) (.pair (.sl (.flt .f32)) (.sl (.flt .f32))))))) a0 0)), (1, .one (.dat (.sl (.sl (.int .i64))) a1))], [], 0⟩ _ _
  refine HT.reg1 [0, 1] [⟨none, .no⟩, ⟨none, .no⟩] ⟨[(0, .one (.ip (.st (.pair (.int .i64) (.pair (.int .i64) (.pair (.sl (.flt .f32)) (.pair (.sl (.flt .f32)) (.sl (.flt .f32))))))) a0 0)), (1, .one (.dat (.sl (.sl (.int .i64))) a1))], [], 0⟩ hP hN (by kernel_rfl) allNil ?_
  refine HT.reg1 [0, 1, 6] [⟨none, .no⟩, ⟨none, .no⟩] ⟨[(0, .one (.ip (.st (.pair (.int .i64) (.pair (.int .i64) (.pair (.sl (.flt .f32)) (.pair (.sl (.flt .f32)) (.sl (.flt .f32))))))) a0 0)), (1, .one (.dat (.sl (.sl (.int .i64))) a1)), (6, .one (.nilS))], [], 0⟩ hP hN (by kernel_rfl) allNil ?_
  refine HT.seq ?_
  refine HT.reg1 [0, 1, 6, 12, 13] [⟨none, .no⟩, ⟨none, .no⟩, ⟨none, .no⟩] ⟨[(0, .one (.ip (.st (.pair (.int .i64) (.pair (.int .i64) (.pair (.sl (.flt .f32)) (.pair (.sl (.flt .f32)) (.sl (.flt .f32))))))) a0 0)), (1, .one (.dat (.sl (.sl (.int .i64))) a1)), (6, .one (.nilS)), (12, .one (.dat (.int .i64) (lenI a1))), (13, .one (.dat (.int .i64) (0 : Int)))], [], 0⟩ hP hN (by kernel_rfl) allNil ?_
  refine HT.block ?_
  obtain ⟨r2, hL14, hr⟩ := of_bind hr
  refine (Le.cv (s := ⟨[], [0], [], false⟩) (own := []) (ps := [a0 = a0, a1 = a1, (lenI a1) = (lenI a1), (0 : Int) = (0 : Int), ([] : List Nat) = []]) (st' := ⟨[(0, .one (.ip (.st (.pair (.int .i64) (.pair (.int .i64) (.pair (.sl (.flt .f32)) (.pair (.sl (.flt .f32)) (.sl (.flt .f32))))))) a0 0)), (1, .one (.dat (.sl (.sl (.int .i64))) a1)), (6, .one (.all 0)), (12, .one (.dat (.int .i64) (lenI a1))), (13, .one (.dat (.int .i64) (0 : Int)))], [(0, .seq (.flt .f32) ([] : List Nat))], 1⟩) hO (fun h => by cases h) (by kernel_rfl) ⟨rfl, rfl, rfl, rfl, rfl, trivial⟩).ht ?_
  refine HT.loopE (s := ((0 : Int), ([] : List Nat))) (fun (s1 : Int × List Nat) => ⟨[(0, .one (.ip (.st (.pair (.int .i64) (.pair (.int .i64) (.pair (.sl (.flt .f32)) (.pair (.sl (.flt .f32)) (.sl (.flt .f32))))))) a0 0)), (1, .one (.dat (.sl (.sl (.int .i64))) a1)), (6, .one (.all 0)), (12, .one (.dat (.int .i64) (lenI a1))), (13, .one (.dat (.int .i64) s1.1))], [(0, .seq (.flt .f32) s1.2)], 1⟩) (fun (r2 : List Nat ⊕ Unit) => match r2 with | .inl r3 => (.exit 0, ⟨[(6, .one (.all 0))], [(0, .seq (.flt .f32) r3)], 1⟩) | .inr r4 => (.ret, ⟨[(4, .one (.nilS)), (5, .one (.dat .bool false))], [], 0⟩)) hL14 ?_ (fun s1 x5 hx6 hk7 => ?_)
  · rcases r2 with r3 | r4
    · refine (qBlockX (qThen ?_))
      refine HT.reg1 [4, 5] [⟨none, .no⟩, ⟨none, .no⟩, ⟨none, .no⟩] ⟨[(4, .one (.all 0)), (5, .one (.dat .bool true))], [(0, .seq (.flt .f32) r3)], 1⟩ hP hN (by kernel_rfl) allNil ?_
      have hr := of_some hr
      subst hr
      exact HT.ret ⟨[.one (.all 0), .one (.dat .bool true)], [0], [], by kernel_rfl, by kernel_rfl, rfl, by kernel_rfl, by kernel_rfl, trivial⟩
    · have hr := of_some hr
      subst hr
      exact (qBlockR (qThenR ⟨[.one (.nilS), .one (.dat .bool false)], [], [], by kernel_rfl, by kernel_rfl, rfl, by kernel_rfl, by kernel_rfl, trivial⟩))
  · refine HT.reg1 [0, 1, 6, 12, 13, 14] [⟨none, .no⟩] ⟨[(0, .one (.ip (.st (.pair (.int .i64) (.pair (.int .i64) (.pair (.sl (.flt .f32)) (.pair (.sl (.flt .f32)) (.sl (.flt .f32))))))) a0 0)), (1, .one (.dat (.sl (.sl (.int .i64))) a1)), (6, .one (.all 0)), (12, .one (.dat (.int .i64) (lenI a1))), (13, .one (.dat (.int .i64) s1.1)), (14, .one (.dat .bool (decide (s1.1 < (lenI a1)))))], [(0, .seq (.flt .f32) s1.2)], 1⟩ hP hN (by kernel_rfl) allNil ?_
    refine HT.seq ?_
    rcases of_bif hx6 with ⟨hb8, hx6⟩ | ⟨hb8, hx6⟩
    · refine HT.cond1 rfl hb8 ?_
      refine HT.skip (qThen ?_)
      refine HT.seq ?_
      refine HT.block ?_
      refine HT.reg1 [0, 1, 6, 7, 12, 13] [⟨none, .no⟩, ⟨none, .no⟩] ⟨[(0, .one (.ip (.st (.pair (.int .i64) (.pair (.int .i64) (.pair (.sl (.flt .f32)) (.pair (.sl (.flt .f32)) (.sl (.flt .f32))))))) a0 0)), (1, .one (.dat (.sl (.sl (.int .i64))) a1)), (6, .one (.all 0)), (7, .one (.dat (.int .i64) s1.1)), (12, .one (.dat (.int .i64) (lenI a1))), (13, .one (.dat (.int .i64) s1.1))], [(0, .seq (.flt .f32) s1.2)], 1⟩ hP hN (by kernel_rfl) allNil ?_
      obtain ⟨hg9, hx6⟩ := of_guard hx6
      obtain ⟨y10, hc11, hx6⟩ := of_bind hx6
      refine HT.drw1 [0, 1, 6, 8, 9, 12, 13] 12 [⟨⟨none, .no⟩, []⟩, ⟨⟨none, .no⟩, [0]⟩, ⟨⟨none, .no⟩, [0, 1]⟩, ⟨⟨none, .no⟩, []⟩, ⟨⟨none, .no⟩, []⟩, ⟨⟨none, .no⟩, [3, 4]⟩, ⟨⟨none, .no⟩, [3, 4, 5]⟩, ⟨⟨none, .call [.imm (.st (.pair (.int .i64) (.pair (.int .i64) (.pair (.sl (.flt .f32)) (.pair (.sl (.flt .f32)) (.sl (.flt .f32))))))), .imm (.sl (.int .i64))] [⟨false, (.flt .f32), y10.1⟩, ⟨false, .bool, y10.2⟩] []⟩, [0, 1, 2, 3, 4, 5, 6]⟩, ⟨⟨none, .no⟩, [0, 1, 2, 3, 4, 5, 6, 7]⟩, ⟨⟨none, .no⟩, [0, 1, 2, 3, 4, 5, 6, 7, 8]⟩, ⟨⟨none, .no⟩, [0, 1, 2, 3, 4, 5, 6, 7, 8]⟩, ⟨⟨none, .no⟩, [0, 1, 2, 3, 4, 5, 6, 7, 8, 9]⟩] [[0, 1, 2, 3, 4, 5, 6, 7, 8, 9, 10, 11]] [⟨none, .no⟩] ⟨[(0, .one (.ip (.st (.pair (.int .i64) (.pair (.int .i64) (.pair (.sl (.flt .f32)) (.pair (.sl (.flt .f32)) (.sl (.flt .f32))))))) a0 0)), (1, .one (.dat (.sl (.sl (.int .i64))) a1)), (6, .one (.all 0)), (8, .one (.dat (.flt .f32) y10.1)), (9, .one (.dat .bool y10.2)), (12, .one (.dat (.int .i64) (lenI a1))), (13, .one (.dat (.int .i64) s1.1))], [(0, .seq (.flt .f32) s1.2)], 1⟩ hP hN (by kernel_rfl) (by kernel_rfl) (allCons hg9 (allCons (f41_ok hc11) allNil)) ?_
      refine HT.seq ?_
      refine HT.reg1 [0, 1, 6, 8, 12, 13, 28] [⟨none, .no⟩, ⟨none, .no⟩] ⟨[(0, .one (.ip (.st (.pair (.int .i64) (.pair (.int .i64) (.pair (.sl (.flt .f32)) (.pair (.sl (.flt .f32)) (.sl (.flt .f32))))))) a0 0)), (1, .one (.dat (.sl (.sl (.int .i64))) a1)), (6, .one (.all 0)), (8, .one (.dat (.flt .f32) y10.1)), (12, .one (.dat (.int .i64) (lenI a1))), (13, .one (.dat (.int .i64) s1.1)), (28, .one (.dat .bool (!y10.2)))], [(0, .seq (.flt .f32) s1.2)], 1⟩ hP hN (by kernel_rfl) allNil ?_
      rcases of_bif hx6 with ⟨hb12, hx6⟩ | ⟨hb12, hx6⟩
      · refine HT.cond1 rfl hb12 ?_
        refine HT.reg1 [4, 5] [⟨none, .no⟩, ⟨none, .no⟩] ⟨[(4, .one (.nilS)), (5, .one (.dat .bool false))], [(0, .seq (.flt .f32) s1.2)], 1⟩ hP hN (by kernel_rfl) allNil ?_
        have hx6 := of_some hx6
        subst hx6
        refine (Le.cv (s := ⟨[], [], [], false⟩) (own := []) (ps := [false = false]) (st' := ⟨[(4, .one (.nilS)), (5, .one (.dat .bool false))], [], 0⟩) hO (fun h => by cases h) (by kernel_rfl) ⟨rfl, trivial⟩).ht ?_
        exact HT.ret (qThenR (qBlockR (qThenR (qLoopR (hk7 (.inr ()) rfl)))))
      · refine HT.cond0 rfl hb12 ?_
        refine HT.skip (qThen ?_)
        obtain ⟨hg13, hx6⟩ := of_guard hx6
        refine HT.reg (rs := [⟨none, .no⟩, ⟨none, .no⟩, ⟨none, .ty (.flt .f32)⟩, ⟨none, .ty (.flt .f32)⟩, ⟨none, .no⟩]) (st' := ⟨[(6, .one (.all 2)), (32, .one (.all 2)), (31, .one (.all 1)), (30, .one (.dat (.flt .f32) y10.1)), (29, .one (.all 0)), (0, .one (.ip (.st (.pair (.int .i64) (.pair (.int .i64) (.pair (.sl (.flt .f32)) (.pair (.sl (.flt .f32)) (.sl (.flt .f32))))))) a0 0)), (1, .one (.dat (.sl (.sl (.int .i64))) a1)), (6, .one (.all 0)), (8, .one (.dat (.flt .f32) y10.1)), (12, .one (.dat (.int .i64) (lenI a1))), (13, .one (.dat (.int .i64) s1.1)), (28, .one (.dat .bool (!y10.2)))], [(0, .gone), (2, .seq (.flt .f32) (s1.2 ++ ([y10.1] : List Nat))), (1, .seq (.flt .f32) ([y10.1] : List Nat)), (0, .seq (.flt .f32) s1.2)], 3⟩) hP hN (by kernel_rfl) (allCons hg13 allNil) (qBlock (qThen ?_))
        have hx6 := of_some hx6
        subst hx6
        refine HT.reg (rs := [⟨none, .no⟩, ⟨none, .no⟩]) (st' := ⟨[(13, .one (.dat (.int .i64) (wadd .i64 s1.1 (1 : Int)))), (33, .one (.dat (.int .i64) (wadd .i64 s1.1 (1 : Int)))), (6, .one (.all 2)), (32, .one (.all 2)), (31, .one (.all 1)), (30, .one (.dat (.flt .f32) y10.1)), (29, .one (.all 0)), (0, .one (.ip (.st (.pair (.int .i64) (.pair (.int .i64) (.pair (.sl (.flt .f32)) (.pair (.sl (.flt .f32)) (.sl (.flt .f32))))))) a0 0)), (1, .one (.dat (.sl (.sl (.int .i64))) a1)), (6, .one (.all 0)), (8, .one (.dat (.flt .f32) y10.1)), (12, .one (.dat (.int .i64) (lenI a1))), (13, .one (.dat (.int .i64) s1.1)), (28, .one (.dat .bool (!y10.2)))], [(0, .gone), (2, .seq (.flt .f32) (s1.2 ++ ([y10.1] : List Nat))), (1, .seq (.flt .f32) ([y10.1] : List Nat)), (0, .seq (.flt .f32) s1.2)], 3⟩) hP hN (by kernel_rfl) allNil (qLoopN ⟨((wadd .i64 s1.1 (1 : Int)), (s1.2 ++ ([y10.1] : List Nat))), rfl, Le.cv (s := ⟨[(2, 0)], [], [], false⟩) (own := []) (ps := [a0 = a0, a1 = a1, (lenI a1) = (lenI a1), (wadd .i64 s1.1 (1 : Int)) = (wadd .i64 s1.1 (1 : Int)), (s1.2 ++ ([y10.1] : List Nat)) = (s1.2 ++ ([y10.1] : List Nat))]) (st' := ⟨[(0, .one (.ip (.st (.pair (.int .i64) (.pair (.int .i64) (.pair (.sl (.flt .f32)) (.pair (.sl (.flt .f32)) (.sl (.flt .f32))))))) a0 0)), (1, .one (.dat (.sl (.sl (.int .i64))) a1)), (6, .one (.all 0)), (12, .one (.dat (.int .i64) (lenI a1))), (13, .one (.dat (.int .i64) (wadd .i64 s1.1 (1 : Int))))], [(0, .seq (.flt .f32) (s1.2 ++ ([y10.1] : List Nat)))], 1⟩) hO (fun h => by cases h) (by kernel_rfl) ⟨rfl, rfl, rfl, rfl, rfl, trivial⟩⟩)
    · refine HT.cond0 rfl hb8 ?_
      have hx6 := of_some hx6
      subst hx6
      refine (Le.cv (s := ⟨[(0, 0)], [], [], false⟩) (own := []) (ps := [s1.2 = s1.2]) (st' := ⟨[(6, .one (.all 0))], [(0, .seq (.flt .f32) s1.2)], 1⟩) hO (fun h => by cases h) (by kernel_rfl) ⟨rfl, trivial⟩).ht ?_
      exact HT.exit (qThenE (qLoopE (hk7 (.inl s1.2) rfl)))

end Go.Proofs
