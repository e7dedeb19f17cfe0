import Derived.Test.YthilbincoogfkaaLibC
import Derived.Test.YthilbincoogfkaaProg
set_option linter.unusedVariables false
set_option linter.unusedSimpArgs false
set_option linter.unusedSectionVars false
/-
  Functions as plain functions, and their contracts. Printed by a program.
-/
namespace Go.Proofs
open Go.Ide

noncomputable def laws_szFloat32S (a0 : List Nat) (a1 : Int) : Option (Int) :=
  bif (decide ((wsub .i64 a1 (lenI a0)) < (0 : Int))) then
    some (-1 : Int)
  else
    some (wsub .i64 a1 (lenI a0))

theorem f42_ok {a0 : List Nat} {a1 : Int} {r : Int} (hr : laws_szFloat32S a0 a1 = some r) : CallOK Try.prog 42 [.imm (.sl (.flt .f32)) a0, .imm (.int .i64) a1] [⟨false, (.int .i64), r⟩] [] := by
  unfold laws_szFloat32S at hr
  refine CallOK.of_body (ts := [(false, (.int .i64))]) Try.func42 rfl (by kernel_rfl) (Nat.le_of_ble_eq_true (by kernel_rfl)) fun cx hP hN hO hF => ?_
  have hO : cx.own.map Prod.fst = [] := hO
  have hF := hF rfl
  show HT cx ⟨[(0, .one (.dat (.sl (.flt .f32)) a0)), (1, .one (.dat (.int .i64) a1))], [], 0⟩ _ _
  refine HT.reg1 [0, 1] [⟨none, .no⟩] ⟨[(0, .one (.dat (.sl (.flt .f32)) a0)), (1, .one (.dat (.int .i64) a1))], [], 0⟩ hP hN (by kernel_rfl) allNil ?_
  refine HT.reg1 [1] [⟨none, .no⟩, ⟨none, .no⟩, ⟨none, .no⟩, ⟨none, .no⟩, ⟨none, .no⟩] ⟨[(1, .one (.dat (.int .i64) (wsub .i64 a1 (lenI a0))))], [], 0⟩ hP hN (by kernel_rfl) allNil ?_
  refine HT.seq ?_
  refine HT.reg1 [1, 10] [⟨none, .no⟩, ⟨none, .no⟩] ⟨[(1, .one (.dat (.int .i64) (wsub .i64 a1 (lenI a0)))), (10, .one (.dat .bool (decide ((wsub .i64 a1 (lenI a0)) < (0 : Int)))))], [], 0⟩ hP hN (by kernel_rfl) allNil ?_
  rcases of_bif hr with ⟨hb1, hr⟩ | ⟨hb1, hr⟩
  · refine HT.cond1 rfl hb1 ?_
    refine HT.reg1 [4] [⟨none, .no⟩] ⟨[(4, .one (.dat (.int .i64) (-1 : Int)))], [], 0⟩ hP hN (by kernel_rfl) allNil ?_
    have hr := of_some hr
    subst hr
    exact HT.ret (qThenR ⟨[.one (.dat (.int .i64) (-1 : Int))], [], [], by kernel_rfl, by kernel_rfl, rfl, by kernel_rfl, by kernel_rfl, trivial⟩)
  · refine HT.cond0 rfl hb1 ?_
    refine HT.skip (qThen ?_)
    refine HT.reg1 [4] [⟨none, .no⟩, ⟨none, .no⟩] ⟨[(4, .one (.dat (.int .i64) (wsub .i64 a1 (lenI a0))))], [], 0⟩ hP hN (by kernel_rfl) allNil ?_
    have hr := of_some hr
    subst hr
    exact HT.ret ⟨[.one (.dat (.int .i64) (wsub .i64 a1 (lenI a0)))], [], [], by kernel_rfl, by kernel_rfl, rfl, by kernel_rfl, by kernel_rfl, trivial⟩

noncomputable def laws_szModel (a0 : Int × Int × List Nat × List Nat × List Nat) (a1 : Int) : Option (Int) :=
  (laws_szFloat32S a0.2.2.1 a1).bind fun y1 =>
  bif (decide (y1 < (0 : Int))) then
    some (-1 : Int)
  else
    (laws_szFloat32S a0.2.2.2.1 y1).bind fun y4 =>
    bif (decide (y4 < (0 : Int))) then
      some (-1 : Int)
    else
      (laws_szFloat32S a0.2.2.2.2 y4).bind fun y7 =>
      bif (decide (y7 < (0 : Int))) then
        some (-1 : Int)
      else
        some y7

theorem f10_ok {a0 : Int × Int × List Nat × List Nat × List Nat} {a1 : Int} {r : Int} (hr : laws_szModel a0 a1 = some r) : CallOK Try.prog 10 [.imm (.st (.pair (.int .i64) (.pair (.int .i64) (.pair (.sl (.flt .f32)) (.pair (.sl (.flt .f32)) (.sl (.flt .f32))))))) a0, .imm (.int .i64) a1] [⟨false, (.int .i64), r⟩] [] := by
  unfold laws_szModel at hr
  refine CallOK.of_body (ts := [(false, (.int .i64))]) Try.func10 rfl (by kernel_rfl) (Nat.le_of_ble_eq_true (by kernel_rfl)) fun cx hP hN hO hF => ?_
  have hO : cx.own.map Prod.fst = [] := hO
  have hF := hF rfl
  show HT cx ⟨[(0, .agg [.dat (.int .i64) a0.1, .dat (.int .i64) a0.2.1, .dat (.sl (.flt .f32)) a0.2.2.1, .dat (.sl (.flt .f32)) a0.2.2.2.1, .dat (.sl (.flt .f32)) a0.2.2.2.2]), (1, .one (.dat (.int .i64) a1))], [], 0⟩ _ _
  refine HT.reg1 [1, 2] [⟨none, .no⟩, ⟨none, .no⟩] ⟨[(1, .one (.dat (.int .i64) a1)), (2, .one (.ptr 0 0))], [(0, .box [.dat (.int .i64) a0.1, .dat (.int .i64) a0.2.1, .dat (.sl (.flt .f32)) a0.2.2.1, .dat (.sl (.flt .f32)) a0.2.2.2.1, .dat (.sl (.flt .f32)) a0.2.2.2.2])], 1⟩ hP hN (by kernel_rfl) allNil ?_
  obtain ⟨y1, hc2, hr⟩ := of_bind hr
  refine HT.reg1 [1, 2] [⟨none, .no⟩, ⟨none, .no⟩, ⟨none, .no⟩, ⟨none, .call [.imm (.sl (.flt .f32)), .imm (.int .i64)] [⟨false, (.int .i64), y1⟩] []⟩, ⟨none, .no⟩] ⟨[(1, .one (.dat (.int .i64) y1)), (2, .one (.ptr 0 0))], [(0, .box [.dat (.int .i64) a0.1, .dat (.int .i64) a0.2.1, .dat (.sl (.flt .f32)) a0.2.2.1, .dat (.sl (.flt .f32)) a0.2.2.2.1, .dat (.sl (.flt .f32)) a0.2.2.2.2])], 1⟩ hP hN (by kernel_rfl) (allCons (f42_ok hc2) allNil) ?_
  refine HT.seq ?_
  refine HT.reg1 [1, 2, 10] [⟨none, .no⟩, ⟨none, .no⟩] ⟨[(1, .one (.dat (.int .i64) y1)), (2, .one (.ptr 0 0)), (10, .one (.dat .bool (decide (y1 < (0 : Int)))))], [(0, .box [.dat (.int .i64) a0.1, .dat (.int .i64) a0.2.1, .dat (.sl (.flt .f32)) a0.2.2.1, .dat (.sl (.flt .f32)) a0.2.2.2.1, .dat (.sl (.flt .f32)) a0.2.2.2.2])], 1⟩ hP hN (by kernel_rfl) allNil ?_
  rcases of_bif hr with ⟨hb3, hr⟩ | ⟨hb3, hr⟩
  · refine HT.cond1 rfl hb3 ?_
    refine HT.reg1 [4] [⟨none, .no⟩] ⟨[(4, .one (.dat (.int .i64) (-1 : Int)))], [(0, .box [.dat (.int .i64) a0.1, .dat (.int .i64) a0.2.1, .dat (.sl (.flt .f32)) a0.2.2.1, .dat (.sl (.flt .f32)) a0.2.2.2.1, .dat (.sl (.flt .f32)) a0.2.2.2.2])], 1⟩ hP hN (by kernel_rfl) allNil ?_
    have hr := of_some hr
    subst hr
    exact HT.ret (qThenR ⟨[.one (.dat (.int .i64) (-1 : Int))], [], [], by kernel_rfl, by kernel_rfl, rfl, by kernel_rfl, by kernel_rfl, trivial⟩)
  · refine HT.cond0 rfl hb3 ?_
    refine HT.skip (qThen ?_)
    obtain ⟨y4, hc5, hr⟩ := of_bind hr
    refine HT.reg1 [1, 2] [⟨none, .no⟩, ⟨none, .no⟩, ⟨none, .no⟩, ⟨none, .call [.imm (.sl (.flt .f32)), .imm (.int .i64)] [⟨false, (.int .i64), y4⟩] []⟩, ⟨none, .no⟩] ⟨[(1, .one (.dat (.int .i64) y4)), (2, .one (.ptr 0 0))], [(0, .box [.dat (.int .i64) a0.1, .dat (.int .i64) a0.2.1, .dat (.sl (.flt .f32)) a0.2.2.1, .dat (.sl (.flt .f32)) a0.2.2.2.1, .dat (.sl (.flt .f32)) a0.2.2.2.2])], 1⟩ hP hN (by kernel_rfl) (allCons (f42_ok hc5) allNil) ?_
    refine HT.seq ?_
    refine HT.reg1 [1, 2, 16] [⟨none, .no⟩, ⟨none, .no⟩] ⟨[(1, .one (.dat (.int .i64) y4)), (2, .one (.ptr 0 0)), (16, .one (.dat .bool (decide (y4 < (0 : Int)))))], [(0, .box [.dat (.int .i64) a0.1, .dat (.int .i64) a0.2.1, .dat (.sl (.flt .f32)) a0.2.2.1, .dat (.sl (.flt .f32)) a0.2.2.2.1, .dat (.sl (.flt .f32)) a0.2.2.2.2])], 1⟩ hP hN (by kernel_rfl) allNil ?_
    rcases of_bif hr with ⟨hb6, hr⟩ | ⟨hb6, hr⟩
    · refine HT.cond1 rfl hb6 ?_
      refine HT.reg1 [4] [⟨none, .no⟩] ⟨[(4, .one (.dat (.int .i64) (-1 : Int)))], [(0, .box [.dat (.int .i64) a0.1, .dat (.int .i64) a0.2.1, .dat (.sl (.flt .f32)) a0.2.2.1, .dat (.sl (.flt .f32)) a0.2.2.2.1, .dat (.sl (.flt .f32)) a0.2.2.2.2])], 1⟩ hP hN (by kernel_rfl) allNil ?_
      have hr := of_some hr
      subst hr
      exact HT.ret (qThenR ⟨[.one (.dat (.int .i64) (-1 : Int))], [], [], by kernel_rfl, by kernel_rfl, rfl, by kernel_rfl, by kernel_rfl, trivial⟩)
    · refine HT.cond0 rfl hb6 ?_
      refine HT.skip (qThen ?_)
      obtain ⟨y7, hc8, hr⟩ := of_bind hr
      refine HT.reg1 [1] [⟨none, .no⟩, ⟨none, .no⟩, ⟨none, .no⟩, ⟨none, .call [.imm (.sl (.flt .f32)), .imm (.int .i64)] [⟨false, (.int .i64), y7⟩] []⟩, ⟨none, .no⟩] ⟨[(1, .one (.dat (.int .i64) y7))], [(0, .box [.dat (.int .i64) a0.1, .dat (.int .i64) a0.2.1, .dat (.sl (.flt .f32)) a0.2.2.1, .dat (.sl (.flt .f32)) a0.2.2.2.1, .dat (.sl (.flt .f32)) a0.2.2.2.2])], 1⟩ hP hN (by kernel_rfl) (allCons (f42_ok hc8) allNil) ?_
      refine HT.seq ?_
      refine HT.reg1 [1, 22] [⟨none, .no⟩, ⟨none, .no⟩] ⟨[(1, .one (.dat (.int .i64) y7)), (22, .one (.dat .bool (decide (y7 < (0 : Int)))))], [(0, .box [.dat (.int .i64) a0.1, .dat (.int .i64) a0.2.1, .dat (.sl (.flt .f32)) a0.2.2.1, .dat (.sl (.flt .f32)) a0.2.2.2.1, .dat (.sl (.flt .f32)) a0.2.2.2.2])], 1⟩ hP hN (by kernel_rfl) allNil ?_
      rcases of_bif hr with ⟨hb9, hr⟩ | ⟨hb9, hr⟩
      · refine HT.cond1 rfl hb9 ?_
        refine HT.reg1 [4] [⟨none, .no⟩] ⟨[(4, .one (.dat (.int .i64) (-1 : Int)))], [(0, .box [.dat (.int .i64) a0.1, .dat (.int .i64) a0.2.1, .dat (.sl (.flt .f32)) a0.2.2.1, .dat (.sl (.flt .f32)) a0.2.2.2.1, .dat (.sl (.flt .f32)) a0.2.2.2.2])], 1⟩ hP hN (by kernel_rfl) allNil ?_
        have hr := of_some hr
        subst hr
        exact HT.ret (qThenR ⟨[.one (.dat (.int .i64) (-1 : Int))], [], [], by kernel_rfl, by kernel_rfl, rfl, by kernel_rfl, by kernel_rfl, trivial⟩)
      · refine HT.cond0 rfl hb9 ?_
        refine HT.skip (qThen ?_)
        refine HT.reg1 [4] [⟨none, .no⟩, ⟨none, .no⟩] ⟨[(4, .one (.dat (.int .i64) y7))], [(0, .box [.dat (.int .i64) a0.1, .dat (.int .i64) a0.2.1, .dat (.sl (.flt .f32)) a0.2.2.1, .dat (.sl (.flt .f32)) a0.2.2.2.1, .dat (.sl (.flt .f32)) a0.2.2.2.2])], 1⟩ hP hN (by kernel_rfl) allNil ?_
        have hr := of_some hr
        subst hr
        exact HT.ret ⟨[.one (.dat (.int .i64) y7)], [], [], by kernel_rfl, by kernel_rfl, rfl, by kernel_rfl, by kernel_rfl, trivial⟩

noncomputable def laws_toFloat32S_B1 (a0 : List Nat) (s2 : Int × List Nat) : Option ((Int × List Nat) ⊕ (List Nat)) :=
  bif (decide (s2.1 < (lenI a0))) then
    guardP ((0 : Int) ≤ s2.1 ∧ s2.1 < lenI a0) (
      guardP ((0 : Int) ≤ s2.1 ∧ s2.1 < lenI s2.2) (
        some (.inl ((wadd .i64 s2.1 (1 : Int)), (List.set s2.2 (Int.toNat s2.1) (List.getD a0 (Int.toNat s2.1) (0 : Nat)))))))
  else
    some (.inr s2.2)

noncomputable def laws_toFloat32S (a0 : List Nat) : Option (List Nat) :=
  guardP ((0 : Int) ≤ (lenI a0) ∧ (lenI a0) ≤ 4294967296) (
    (rounds (laws_toFloat32S_B1 a0) ((0 : Int), (List.replicate (Int.toNat (lenI a0)) (0 : Nat)))).bind fun r4 =>
    some r4)

theorem f46_ok {a0 : List Nat} {r : List Nat} (hr : laws_toFloat32S a0 = some r) : CallOK Try.prog 46 [.imm (.sl (.flt .f32)) a0] [⟨true, (.sl (.flt .f32)), r⟩] [] := by
  unfold laws_toFloat32S at hr
  refine CallOK.of_body (ts := [(true, (.sl (.flt .f32)))]) Try.func46 rfl (by kernel_rfl) (Nat.le_of_ble_eq_true (by kernel_rfl)) fun cx hP hN hO hF => ?_
  have hO : cx.own.map Prod.fst = [] := hO
  have hF := hF rfl
  show HT cx ⟨[(0, .one (.dat (.sl (.flt .f32)) a0))], [], 0⟩ _ _
  refine HT.reg1 [0] [⟨none, .no⟩] ⟨[(0, .one (.dat (.sl (.flt .f32)) a0))], [], 0⟩ hP hN (by kernel_rfl) allNil ?_
  obtain ⟨hg1, hr⟩ := of_guard hr
  refine HT.reg1 [0, 3] [⟨none, .no⟩, ⟨none, .no⟩, ⟨none, .ty (.flt .f32)⟩, ⟨none, .no⟩] ⟨[(0, .one (.dat (.sl (.flt .f32)) a0)), (3, .one (.all 0))], [(0, .seq (.flt .f32) (List.replicate (Int.toNat (lenI a0)) (0 : Nat)))], 1⟩ hP hN (by kernel_rfl) (allCons (show (0 : Int) ≤ (lenI a0) ∧ (lenI a0) ≤ (lenI a0) ∧ (lenI a0) ≤ 4294967296 from ⟨hg1.1, Int.le_refl _, hg1.2⟩) allNil) ?_
  refine HT.seq ?_
  refine HT.reg1 [0, 3, 4] [⟨none, .no⟩] ⟨[(0, .one (.dat (.sl (.flt .f32)) a0)), (3, .one (.all 0)), (4, .one (.dat (.int .i64) (0 : Int)))], [(0, .seq (.flt .f32) (List.replicate (Int.toNat (lenI a0)) (0 : Nat)))], 1⟩ hP hN (by kernel_rfl) allNil ?_
  refine HT.block ?_
  obtain ⟨r3, hL11, hr⟩ := of_bind hr
  refine (Le.cv (s := ⟨[(0, 0)], [], [], false⟩) (own := []) (ps := [a0 = a0, (0 : Int) = (0 : Int), (List.replicate (Int.toNat (lenI a0)) (0 : Nat)) = (List.replicate (Int.toNat (lenI a0)) (0 : Nat))]) (st' := ⟨[(0, .one (.dat (.sl (.flt .f32)) a0)), (3, .one (.all 0)), (4, .one (.dat (.int .i64) (0 : Int)))], [(0, .seq (.flt .f32) (List.replicate (Int.toNat (lenI a0)) (0 : Nat)))], 1⟩) hO (fun h => by cases h) (by kernel_rfl) ⟨rfl, rfl, rfl, trivial⟩).ht ?_
  refine HT.loopE (s := ((0 : Int), (List.replicate (Int.toNat (lenI a0)) (0 : Nat)))) (fun (s2 : Int × List Nat) => ⟨[(0, .one (.dat (.sl (.flt .f32)) a0)), (3, .one (.all 0)), (4, .one (.dat (.int .i64) s2.1))], [(0, .seq (.flt .f32) s2.2)], 1⟩) (fun (r4 : List Nat) => (.exit 0, ⟨[(3, .one (.all 0))], [(0, .seq (.flt .f32) r4)], 1⟩)) hL11 ?_ (fun s2 x5 hx6 hk7 => ?_)
  · refine (qBlockX (qThen ?_))
    refine HT.reg1 [2] [⟨none, .no⟩, ⟨none, .no⟩] ⟨[(2, .one (.all 0))], [(0, .seq (.flt .f32) r3)], 1⟩ hP hN (by kernel_rfl) allNil ?_
    have hr := of_some hr
    subst hr
    exact HT.ret ⟨[.one (.all 0)], [0], [], by kernel_rfl, by kernel_rfl, rfl, by kernel_rfl, by kernel_rfl, trivial⟩
  · refine HT.seq ?_
    refine HT.reg1 [0, 3, 4, 11] [⟨none, .no⟩, ⟨none, .no⟩, ⟨none, .no⟩, ⟨none, .no⟩] ⟨[(0, .one (.dat (.sl (.flt .f32)) a0)), (3, .one (.all 0)), (4, .one (.dat (.int .i64) s2.1)), (11, .one (.dat .bool (decide (s2.1 < (lenI a0)))))], [(0, .seq (.flt .f32) s2.2)], 1⟩ hP hN (by kernel_rfl) allNil ?_
    rcases of_bif hx6 with ⟨hb8, hx6⟩ | ⟨hb8, hx6⟩
    · refine HT.cond1 rfl hb8 ?_
      refine HT.skip (qThen ?_)
      refine HT.seq ?_
      refine HT.block ?_
      obtain ⟨hg9, hx6⟩ := of_guard hx6
      obtain ⟨hg10, hx6⟩ := of_guard hx6
      refine HT.reg (rs := [⟨none, .no⟩, ⟨none, .no⟩, ⟨none, .no⟩, ⟨none, .no⟩, ⟨none, .no⟩, ⟨none, .no⟩, ⟨none, .no⟩, ⟨none, .no⟩]) (st' := ⟨[(20, .one (.elp 0 (Int.toNat s2.1) 1 0)), (19, .one (.dat (.flt .f32) (List.getD a0 (Int.toNat s2.1) (0 : Nat)))), (18, .one (.ip (.flt .f32) (List.getD a0 (Int.toNat s2.1) (0 : Nat)) 0)), (17, .one (.dat (.int .i64) s2.1)), (16, .one (.dat (.sl (.flt .f32)) a0)), (15, .one (.dat (.int .i64) s2.1)), (14, .one (.all 0)), (0, .one (.dat (.sl (.flt .f32)) a0)), (3, .one (.all 0)), (4, .one (.dat (.int .i64) s2.1)), (11, .one (.dat .bool (decide (s2.1 < (lenI a0)))))], [(0, .seq (.flt .f32) (List.set s2.2 (Int.toNat s2.1) (List.getD a0 (Int.toNat s2.1) (0 : Nat)))), (0, .seq (.flt .f32) s2.2)], 1⟩) hP hN (by kernel_rfl) (allCons hg9 (allCons hg10 (allCons (natLt hg10) allNil))) (qBlock (qThen ?_))
      have hx6 := of_some hx6
      subst hx6
      refine HT.reg (rs := [⟨none, .no⟩, ⟨none, .no⟩, ⟨none, .no⟩]) (st' := ⟨[(4, .one (.dat (.int .i64) (wadd .i64 s2.1 (1 : Int)))), (13, .one (.dat (.int .i64) (wadd .i64 s2.1 (1 : Int)))), (12, .one (.dat (.int .i64) s2.1)), (20, .one (.elp 0 (Int.toNat s2.1) 1 0)), (19, .one (.dat (.flt .f32) (List.getD a0 (Int.toNat s2.1) (0 : Nat)))), (18, .one (.ip (.flt .f32) (List.getD a0 (Int.toNat s2.1) (0 : Nat)) 0)), (17, .one (.dat (.int .i64) s2.1)), (16, .one (.dat (.sl (.flt .f32)) a0)), (15, .one (.dat (.int .i64) s2.1)), (14, .one (.all 0)), (0, .one (.dat (.sl (.flt .f32)) a0)), (3, .one (.all 0)), (4, .one (.dat (.int .i64) s2.1)), (11, .one (.dat .bool (decide (s2.1 < (lenI a0)))))], [(0, .seq (.flt .f32) (List.set s2.2 (Int.toNat s2.1) (List.getD a0 (Int.toNat s2.1) (0 : Nat)))), (0, .seq (.flt .f32) s2.2)], 1⟩) hP hN (by kernel_rfl) allNil (qLoopN ⟨((wadd .i64 s2.1 (1 : Int)), (List.set s2.2 (Int.toNat s2.1) (List.getD a0 (Int.toNat s2.1) (0 : Nat)))), rfl, Le.cv (s := ⟨[(0, 0)], [], [], false⟩) (own := []) (ps := [a0 = a0, (wadd .i64 s2.1 (1 : Int)) = (wadd .i64 s2.1 (1 : Int)), (List.set s2.2 (Int.toNat s2.1) (List.getD a0 (Int.toNat s2.1) (0 : Nat))) = (List.set s2.2 (Int.toNat s2.1) (List.getD a0 (Int.toNat s2.1) (0 : Nat)))]) (st' := ⟨[(0, .one (.dat (.sl (.flt .f32)) a0)), (3, .one (.all 0)), (4, .one (.dat (.int .i64) (wadd .i64 s2.1 (1 : Int))))], [(0, .seq (.flt .f32) (List.set s2.2 (Int.toNat s2.1) (List.getD a0 (Int.toNat s2.1) (0 : Nat))))], 1⟩) hO (fun h => by cases h) (by kernel_rfl) ⟨rfl, rfl, rfl, trivial⟩⟩)
    · refine HT.cond0 rfl hb8 ?_
      have hx6 := of_some hx6
      subst hx6
      refine (Le.cv (s := ⟨[(0, 0)], [], [], false⟩) (own := []) (ps := [s2.2 = s2.2]) (st' := ⟨[(3, .one (.all 0))], [(0, .seq (.flt .f32) s2.2)], 1⟩) hO (fun h => by cases h) (by kernel_rfl) ⟨rfl, trivial⟩).ht ?_
      exact HT.exit (qThenE (qLoopE (hk7 s2.2 rfl)))

noncomputable def laws_toModel (a0 : Int × Int × List Nat × List Nat × List Nat) : Option ((Int × Int × List Nat × List Nat × List Nat)) :=
  (laws_toFloat32S a0.2.2.1).bind fun y1 =>
  (laws_toFloat32S a0.2.2.2.1).bind fun y3 =>
  (laws_toFloat32S a0.2.2.2.2).bind fun y5 =>
  some (a0.1, a0.2.1, y1, y3, y5)

theorem f12_ok {a0 : Int × Int × List Nat × List Nat × List Nat} {r : (Int × Int × List Nat × List Nat × List Nat)} (hr : laws_toModel a0 = some r) : CallOK Try.prog 12 [.imm (.st (.pair (.int .i64) (.pair (.int .i64) (.pair (.sl (.flt .f32)) (.pair (.sl (.flt .f32)) (.sl (.flt .f32))))))) a0] [⟨true, (.st (.pair (.int .i64) (.pair (.int .i64) (.pair (.sl (.flt .f32)) (.pair (.sl (.flt .f32)) (.sl (.flt .f32))))))), r⟩] [] := by
  unfold laws_toModel at hr
  refine CallOK.of_body (ts := [(true, (.st (.pair (.int .i64) (.pair (.int .i64) (.pair (.sl (.flt .f32)) (.pair (.sl (.flt .f32)) (.sl (.flt .f32))))))))]) Try.func12 rfl (by kernel_rfl) (Nat.le_of_ble_eq_true (by kernel_rfl)) fun cx hP hN hO hF => ?_
  have hO : cx.own.map Prod.fst = [] := hO
  have hF := hF rfl
  show HT cx ⟨[(0, .agg [.dat (.int .i64) a0.1, .dat (.int .i64) a0.2.1, .dat (.sl (.flt .f32)) a0.2.2.1, .dat (.sl (.flt .f32)) a0.2.2.2.1, .dat (.sl (.flt .f32)) a0.2.2.2.2])], [], 0⟩ _ _
  refine HT.reg1 [1, 2] [⟨none, .no⟩, ⟨none, .no⟩] ⟨[(1, .one (.ptr 0 0)), (2, .one (.ptr 1 0))], [(1, .box [.dat (.int .i64) (0 : Int), .dat (.int .i64) (0 : Int), .nilS, .nilS, .nilS]), (0, .box [.dat (.int .i64) a0.1, .dat (.int .i64) a0.2.1, .dat (.sl (.flt .f32)) a0.2.2.1, .dat (.sl (.flt .f32)) a0.2.2.2.1, .dat (.sl (.flt .f32)) a0.2.2.2.2])], 2⟩ hP hN (by kernel_rfl) allNil ?_
  refine HT.reg1 [1, 2, 3] [⟨none, .no⟩] ⟨[(1, .one (.ptr 0 0)), (2, .one (.ptr 1 0)), (3, .one (.ptr 2 0))], [(2, .box [.dat (.int .i64) (0 : Int), .dat (.int .i64) (0 : Int), .nilS, .nilS, .nilS]), (1, .box [.dat (.int .i64) (0 : Int), .dat (.int .i64) (0 : Int), .nilS, .nilS, .nilS]), (0, .box [.dat (.int .i64) a0.1, .dat (.int .i64) a0.2.1, .dat (.sl (.flt .f32)) a0.2.2.1, .dat (.sl (.flt .f32)) a0.2.2.2.1, .dat (.sl (.flt .f32)) a0.2.2.2.2])], 3⟩ hP hN (by kernel_rfl) allNil ?_
  refine HT.reg1 [1, 2, 3] [⟨none, .no⟩, ⟨none, .no⟩, ⟨none, .no⟩, ⟨none, .no⟩] ⟨[(1, .one (.ptr 0 0)), (2, .one (.ptr 1 0)), (3, .one (.ptr 2 0))], [(2, .box [.dat (.int .i64) a0.1, .dat (.int .i64) (0 : Int), .nilS, .nilS, .nilS]), (2, .box [.dat (.int .i64) (0 : Int), .dat (.int .i64) (0 : Int), .nilS, .nilS, .nilS]), (1, .box [.dat (.int .i64) (0 : Int), .dat (.int .i64) (0 : Int), .nilS, .nilS, .nilS]), (0, .box [.dat (.int .i64) a0.1, .dat (.int .i64) a0.2.1, .dat (.sl (.flt .f32)) a0.2.2.1, .dat (.sl (.flt .f32)) a0.2.2.2.1, .dat (.sl (.flt .f32)) a0.2.2.2.2])], 3⟩ hP hN (by kernel_rfl) allNil ?_
  refine HT.reg1 [1, 2, 3] [⟨none, .no⟩, ⟨none, .no⟩, ⟨none, .no⟩, ⟨none, .no⟩] ⟨[(1, .one (.ptr 0 0)), (2, .one (.ptr 1 0)), (3, .one (.ptr 2 0))], [(2, .box [.dat (.int .i64) a0.1, .dat (.int .i64) a0.2.1, .nilS, .nilS, .nilS]), (2, .box [.dat (.int .i64) a0.1, .dat (.int .i64) (0 : Int), .nilS, .nilS, .nilS]), (2, .box [.dat (.int .i64) (0 : Int), .dat (.int .i64) (0 : Int), .nilS, .nilS, .nilS]), (1, .box [.dat (.int .i64) (0 : Int), .dat (.int .i64) (0 : Int), .nilS, .nilS, .nilS]), (0, .box [.dat (.int .i64) a0.1, .dat (.int .i64) a0.2.1, .dat (.sl (.flt .f32)) a0.2.2.1, .dat (.sl (.flt .f32)) a0.2.2.2.1, .dat (.sl (.flt .f32)) a0.2.2.2.2])], 3⟩ hP hN (by kernel_rfl) allNil ?_
  obtain ⟨y1, hc2, hr⟩ := of_bind hr
  refine HT.reg1 [1, 2, 3] [⟨none, .no⟩, ⟨none, .no⟩, ⟨none, .call [.imm (.sl (.flt .f32))] [⟨true, (.sl (.flt .f32)), y1⟩] []⟩, ⟨none, .no⟩, ⟨none, .no⟩] ⟨[(1, .one (.ptr 0 0)), (2, .one (.ptr 1 0)), (3, .one (.ptr 2 0))], [(2, .box [.dat (.int .i64) a0.1, .dat (.int .i64) a0.2.1, .all 3, .nilS, .nilS]), (3, .seq (.flt .f32) y1), (2, .box [.dat (.int .i64) a0.1, .dat (.int .i64) a0.2.1, .nilS, .nilS, .nilS]), (2, .box [.dat (.int .i64) a0.1, .dat (.int .i64) (0 : Int), .nilS, .nilS, .nilS]), (2, .box [.dat (.int .i64) (0 : Int), .dat (.int .i64) (0 : Int), .nilS, .nilS, .nilS]), (1, .box [.dat (.int .i64) (0 : Int), .dat (.int .i64) (0 : Int), .nilS, .nilS, .nilS]), (0, .box [.dat (.int .i64) a0.1, .dat (.int .i64) a0.2.1, .dat (.sl (.flt .f32)) a0.2.2.1, .dat (.sl (.flt .f32)) a0.2.2.2.1, .dat (.sl (.flt .f32)) a0.2.2.2.2])], 4⟩ hP hN (by kernel_rfl) (allCons (f46_ok hc2) allNil) ?_
  obtain ⟨y3, hc4, hr⟩ := of_bind hr
  refine HT.reg1 [1, 2, 3] [⟨none, .no⟩, ⟨none, .no⟩, ⟨none, .call [.imm (.sl (.flt .f32))] [⟨true, (.sl (.flt .f32)), y3⟩] []⟩, ⟨none, .no⟩, ⟨none, .no⟩] ⟨[(1, .one (.ptr 0 0)), (2, .one (.ptr 1 0)), (3, .one (.ptr 2 0))], [(2, .box [.dat (.int .i64) a0.1, .dat (.int .i64) a0.2.1, .all 3, .all 4, .nilS]), (4, .seq (.flt .f32) y3), (2, .box [.dat (.int .i64) a0.1, .dat (.int .i64) a0.2.1, .all 3, .nilS, .nilS]), (3, .seq (.flt .f32) y1), (2, .box [.dat (.int .i64) a0.1, .dat (.int .i64) a0.2.1, .nilS, .nilS, .nilS]), (2, .box [.dat (.int .i64) a0.1, .dat (.int .i64) (0 : Int), .nilS, .nilS, .nilS]), (2, .box [.dat (.int .i64) (0 : Int), .dat (.int .i64) (0 : Int), .nilS, .nilS, .nilS]), (1, .box [.dat (.int .i64) (0 : Int), .dat (.int .i64) (0 : Int), .nilS, .nilS, .nilS]), (0, .box [.dat (.int .i64) a0.1, .dat (.int .i64) a0.2.1, .dat (.sl (.flt .f32)) a0.2.2.1, .dat (.sl (.flt .f32)) a0.2.2.2.1, .dat (.sl (.flt .f32)) a0.2.2.2.2])], 5⟩ hP hN (by kernel_rfl) (allCons (f46_ok hc4) allNil) ?_
  obtain ⟨y5, hc6, hr⟩ := of_bind hr
  refine HT.reg1 [2, 3] [⟨none, .no⟩, ⟨none, .no⟩, ⟨none, .call [.imm (.sl (.flt .f32))] [⟨true, (.sl (.flt .f32)), y5⟩] []⟩, ⟨none, .no⟩, ⟨none, .no⟩] ⟨[(2, .one (.ptr 1 0)), (3, .one (.ptr 2 0))], [(2, .box [.dat (.int .i64) a0.1, .dat (.int .i64) a0.2.1, .all 3, .all 4, .all 5]), (5, .seq (.flt .f32) y5), (2, .box [.dat (.int .i64) a0.1, .dat (.int .i64) a0.2.1, .all 3, .all 4, .nilS]), (4, .seq (.flt .f32) y3), (2, .box [.dat (.int .i64) a0.1, .dat (.int .i64) a0.2.1, .all 3, .nilS, .nilS]), (3, .seq (.flt .f32) y1), (2, .box [.dat (.int .i64) a0.1, .dat (.int .i64) a0.2.1, .nilS, .nilS, .nilS]), (2, .box [.dat (.int .i64) a0.1, .dat (.int .i64) (0 : Int), .nilS, .nilS, .nilS]), (2, .box [.dat (.int .i64) (0 : Int), .dat (.int .i64) (0 : Int), .nilS, .nilS, .nilS]), (1, .box [.dat (.int .i64) (0 : Int), .dat (.int .i64) (0 : Int), .nilS, .nilS, .nilS]), (0, .box [.dat (.int .i64) a0.1, .dat (.int .i64) a0.2.1, .dat (.sl (.flt .f32)) a0.2.2.1, .dat (.sl (.flt .f32)) a0.2.2.2.1, .dat (.sl (.flt .f32)) a0.2.2.2.2])], 6⟩ hP hN (by kernel_rfl) (allCons (f46_ok hc6) allNil) ?_
  refine HT.reg1 [2] [⟨none, .no⟩, ⟨none, .no⟩] ⟨[(2, .one (.ptr 1 0))], [(1, .box [.dat (.int .i64) a0.1, .dat (.int .i64) a0.2.1, .all 3, .all 4, .all 5]), (2, .box [.dat (.int .i64) a0.1, .dat (.int .i64) a0.2.1, .all 3, .all 4, .all 5]), (5, .seq (.flt .f32) y5), (2, .box [.dat (.int .i64) a0.1, .dat (.int .i64) a0.2.1, .all 3, .all 4, .nilS]), (4, .seq (.flt .f32) y3), (2, .box [.dat (.int .i64) a0.1, .dat (.int .i64) a0.2.1, .all 3, .nilS, .nilS]), (3, .seq (.flt .f32) y1), (2, .box [.dat (.int .i64) a0.1, .dat (.int .i64) a0.2.1, .nilS, .nilS, .nilS]), (2, .box [.dat (.int .i64) a0.1, .dat (.int .i64) (0 : Int), .nilS, .nilS, .nilS]), (2, .box [.dat (.int .i64) (0 : Int), .dat (.int .i64) (0 : Int), .nilS, .nilS, .nilS]), (1, .box [.dat (.int .i64) (0 : Int), .dat (.int .i64) (0 : Int), .nilS, .nilS, .nilS]), (0, .box [.dat (.int .i64) a0.1, .dat (.int .i64) a0.2.1, .dat (.sl (.flt .f32)) a0.2.2.1, .dat (.sl (.flt .f32)) a0.2.2.2.1, .dat (.sl (.flt .f32)) a0.2.2.2.2])], 6⟩ hP hN (by kernel_rfl) allNil ?_
  have hr := of_some hr
  subst hr
  exact HT.ret ⟨[.agg [.dat (.int .i64) a0.1, .dat (.int .i64) a0.2.1, .all 3, .all 4, .all 5]], [3, 4, 5], [], by kernel_rfl, by kernel_rfl, rfl, by kernel_rfl, by kernel_rfl, trivial⟩

noncomputable def laws_toInt64S_B1 (a0 : List Int) (s2 : Int × List Int) : Option ((Int × List Int) ⊕ (List Int)) :=
  bif (decide (s2.1 < (lenI a0))) then
    guardP ((0 : Int) ≤ s2.1 ∧ s2.1 < lenI a0) (
      guardP ((0 : Int) ≤ s2.1 ∧ s2.1 < lenI s2.2) (
        some (.inl ((wadd .i64 s2.1 (1 : Int)), (List.set s2.2 (Int.toNat s2.1) (List.getD a0 (Int.toNat s2.1) (0 : Int)))))))
  else
    some (.inr s2.2)

noncomputable def laws_toInt64S (a0 : List Int) : Option (List Int) :=
  guardP ((0 : Int) ≤ (lenI a0) ∧ (lenI a0) ≤ 4294967296) (
    (rounds (laws_toInt64S_B1 a0) ((0 : Int), (List.replicate (Int.toNat (lenI a0)) (0 : Int)))).bind fun r4 =>
    some r4)

theorem f13_ok {a0 : List Int} {r : List Int} (hr : laws_toInt64S a0 = some r) : CallOK Try.prog 13 [.imm (.sl (.int .i64)) a0] [⟨true, (.sl (.int .i64)), r⟩] [] := by
  unfold laws_toInt64S at hr
  refine CallOK.of_body (ts := [(true, (.sl (.int .i64)))]) Try.func13 rfl (by kernel_rfl) (Nat.le_of_ble_eq_true (by kernel_rfl)) fun cx hP hN hO hF => ?_
  have hO : cx.own.map Prod.fst = [] := hO
  have hF := hF rfl
  show HT cx ⟨[(0, .one (.dat (.sl (.int .i64)) a0))], [], 0⟩ _ _
  refine HT.reg1 [0] [⟨none, .no⟩] ⟨[(0, .one (.dat (.sl (.int .i64)) a0))], [], 0⟩ hP hN (by kernel_rfl) allNil ?_
  obtain ⟨hg1, hr⟩ := of_guard hr
  refine HT.reg1 [0, 3] [⟨none, .no⟩, ⟨none, .no⟩, ⟨none, .ty (.int .i64)⟩, ⟨none, .no⟩] ⟨[(0, .one (.dat (.sl (.int .i64)) a0)), (3, .one (.all 0))], [(0, .seq (.int .i64) (List.replicate (Int.toNat (lenI a0)) (0 : Int)))], 1⟩ hP hN (by kernel_rfl) (allCons (show (0 : Int) ≤ (lenI a0) ∧ (lenI a0) ≤ (lenI a0) ∧ (lenI a0) ≤ 4294967296 from ⟨hg1.1, Int.le_refl _, hg1.2⟩) allNil) ?_
  refine HT.seq ?_
  refine HT.reg1 [0, 3, 4] [⟨none, .no⟩] ⟨[(0, .one (.dat (.sl (.int .i64)) a0)), (3, .one (.all 0)), (4, .one (.dat (.int .i64) (0 : Int)))], [(0, .seq (.int .i64) (List.replicate (Int.toNat (lenI a0)) (0 : Int)))], 1⟩ hP hN (by kernel_rfl) allNil ?_
  refine HT.block ?_
  obtain ⟨r3, hL11, hr⟩ := of_bind hr
  refine (Le.cv (s := ⟨[(0, 0)], [], [], false⟩) (own := []) (ps := [a0 = a0, (0 : Int) = (0 : Int), (List.replicate (Int.toNat (lenI a0)) (0 : Int)) = (List.replicate (Int.toNat (lenI a0)) (0 : Int))]) (st' := ⟨[(0, .one (.dat (.sl (.int .i64)) a0)), (3, .one (.all 0)), (4, .one (.dat (.int .i64) (0 : Int)))], [(0, .seq (.int .i64) (List.replicate (Int.toNat (lenI a0)) (0 : Int)))], 1⟩) hO (fun h => by cases h) (by kernel_rfl) ⟨rfl, rfl, rfl, trivial⟩).ht ?_
  refine HT.loopE (s := ((0 : Int), (List.replicate (Int.toNat (lenI a0)) (0 : Int)))) (fun (s2 : Int × List Int) => ⟨[(0, .one (.dat (.sl (.int .i64)) a0)), (3, .one (.all 0)), (4, .one (.dat (.int .i64) s2.1))], [(0, .seq (.int .i64) s2.2)], 1⟩) (fun (r4 : List Int) => (.exit 0, ⟨[(3, .one (.all 0))], [(0, .seq (.int .i64) r4)], 1⟩)) hL11 ?_ (fun s2 x5 hx6 hk7 => ?_)
  · refine (qBlockX (qThen ?_))
    refine HT.reg1 [2] [⟨none, .no⟩, ⟨none, .no⟩] ⟨[(2, .one (.all 0))], [(0, .seq (.int .i64) r3)], 1⟩ hP hN (by kernel_rfl) allNil ?_
    have hr := of_some hr
    subst hr
    exact HT.ret ⟨[.one (.all 0)], [0], [], by kernel_rfl, by kernel_rfl, rfl, by kernel_rfl, by kernel_rfl, trivial⟩
  · refine HT.seq ?_
    refine HT.reg1 [0, 3, 4, 11] [⟨none, .no⟩, ⟨none, .no⟩, ⟨none, .no⟩, ⟨none, .no⟩] ⟨[(0, .one (.dat (.sl (.int .i64)) a0)), (3, .one (.all 0)), (4, .one (.dat (.int .i64) s2.1)), (11, .one (.dat .bool (decide (s2.1 < (lenI a0)))))], [(0, .seq (.int .i64) s2.2)], 1⟩ hP hN (by kernel_rfl) allNil ?_
    rcases of_bif hx6 with ⟨hb8, hx6⟩ | ⟨hb8, hx6⟩
    · refine HT.cond1 rfl hb8 ?_
      refine HT.skip (qThen ?_)
      refine HT.seq ?_
      refine HT.block ?_
      obtain ⟨hg9, hx6⟩ := of_guard hx6
      obtain ⟨hg10, hx6⟩ := of_guard hx6
      refine HT.reg (rs := [⟨none, .no⟩, ⟨none, .no⟩, ⟨none, .no⟩, ⟨none, .no⟩, ⟨none, .no⟩, ⟨none, .no⟩, ⟨none, .no⟩, ⟨none, .no⟩]) (st' := ⟨[(20, .one (.elp 0 (Int.toNat s2.1) 1 0)), (19, .one (.dat (.int .i64) (List.getD a0 (Int.toNat s2.1) (0 : Int)))), (18, .one (.ip (.int .i64) (List.getD a0 (Int.toNat s2.1) (0 : Int)) 0)), (17, .one (.dat (.int .i64) s2.1)), (16, .one (.dat (.sl (.int .i64)) a0)), (15, .one (.dat (.int .i64) s2.1)), (14, .one (.all 0)), (0, .one (.dat (.sl (.int .i64)) a0)), (3, .one (.all 0)), (4, .one (.dat (.int .i64) s2.1)), (11, .one (.dat .bool (decide (s2.1 < (lenI a0)))))], [(0, .seq (.int .i64) (List.set s2.2 (Int.toNat s2.1) (List.getD a0 (Int.toNat s2.1) (0 : Int)))), (0, .seq (.int .i64) s2.2)], 1⟩) hP hN (by kernel_rfl) (allCons hg9 (allCons hg10 (allCons (natLt hg10) allNil))) (qBlock (qThen ?_))
      have hx6 := of_some hx6
      subst hx6
      refine HT.reg (rs := [⟨none, .no⟩, ⟨none, .no⟩, ⟨none, .no⟩]) (st' := ⟨[(4, .one (.dat (.int .i64) (wadd .i64 s2.1 (1 : Int)))), (13, .one (.dat (.int .i64) (wadd .i64 s2.1 (1 : Int)))), (12, .one (.dat (.int .i64) s2.1)), (20, .one (.elp 0 (Int.toNat s2.1) 1 0)), (19, .one (.dat (.int .i64) (List.getD a0 (Int.toNat s2.1) (0 : Int)))), (18, .one (.ip (.int .i64) (List.getD a0 (Int.toNat s2.1) (0 : Int)) 0)), (17, .one (.dat (.int .i64) s2.1)), (16, .one (.dat (.sl (.int .i64)) a0)), (15, .one (.dat (.int .i64) s2.1)), (14, .one (.all 0)), (0, .one (.dat (.sl (.int .i64)) a0)), (3, .one (.all 0)), (4, .one (.dat (.int .i64) s2.1)), (11, .one (.dat .bool (decide (s2.1 < (lenI a0)))))], [(0, .seq (.int .i64) (List.set s2.2 (Int.toNat s2.1) (List.getD a0 (Int.toNat s2.1) (0 : Int)))), (0, .seq (.int .i64) s2.2)], 1⟩) hP hN (by kernel_rfl) allNil (qLoopN ⟨((wadd .i64 s2.1 (1 : Int)), (List.set s2.2 (Int.toNat s2.1) (List.getD a0 (Int.toNat s2.1) (0 : Int)))), rfl, Le.cv (s := ⟨[(0, 0)], [], [], false⟩) (own := []) (ps := [a0 = a0, (wadd .i64 s2.1 (1 : Int)) = (wadd .i64 s2.1 (1 : Int)), (List.set s2.2 (Int.toNat s2.1) (List.getD a0 (Int.toNat s2.1) (0 : Int))) = (List.set s2.2 (Int.toNat s2.1) (List.getD a0 (Int.toNat s2.1) (0 : Int)))]) (st' := ⟨[(0, .one (.dat (.sl (.int .i64)) a0)), (3, .one (.all 0)), (4, .one (.dat (.int .i64) (wadd .i64 s2.1 (1 : Int))))], [(0, .seq (.int .i64) (List.set s2.2 (Int.toNat s2.1) (List.getD a0 (Int.toNat s2.1) (0 : Int))))], 1⟩) hO (fun h => by cases h) (by kernel_rfl) ⟨rfl, rfl, rfl, trivial⟩⟩)
    · refine HT.cond0 rfl hb8 ?_
      have hx6 := of_some hx6
      subst hx6
      refine (Le.cv (s := ⟨[(0, 0)], [], [], false⟩) (own := []) (ps := [s2.2 = s2.2]) (st' := ⟨[(3, .one (.all 0))], [(0, .seq (.int .i64) s2.2)], 1⟩) hO (fun h => by cases h) (by kernel_rfl) ⟨rfl, trivial⟩).ht ?_
      exact HT.exit (qThenE (qLoopE (hk7 s2.2 rfl)))

noncomputable def spec_l03Next_B1 (a0 : Int × Int × List Nat × List Nat × List Nat) (a1 : List Nat) (a2 : Int) (s1 : Int × List Nat) (s8 : Nat × Int) : Option ((Nat × Int) ⊕ (Nat)) :=
  bif (decide (s8.2 < a0.1)) then
    guardP ((0 : Int) ≤ s8.2 ∧ s8.2 < lenI a1) (
      guardP ((0 : Int) ≤ (wadd .i64 (wmul .i64 s8.2 a0.2.1) a2) ∧ (wadd .i64 (wmul .i64 s8.2 a0.2.1) a2) < lenI a0.2.2.2.2) (
        guardP ((0 : Int) ≤ (wadd .i64 (wmul .i64 s8.2 a0.1) s1.1) ∧ (wadd .i64 (wmul .i64 s8.2 a0.1) s1.1) < lenI a0.2.2.2.1) (
          some (.inl ((fop .add .f32 s8.1 (fop .mul .f32 (fop .mul .f32 (List.getD a1 (Int.toNat s8.2) (0 : Nat)) (List.getD a0.2.2.2.2 (Int.toNat (wadd .i64 (wmul .i64 s8.2 a0.2.1) a2)) (0 : Nat))) (List.getD a0.2.2.2.1 (Int.toNat (wadd .i64 (wmul .i64 s8.2 a0.1) s1.1)) (0 : Nat)))), (wadd .i64 s8.2 (1 : Int)))))))
  else
    some (.inr s8.1)

noncomputable def spec_l03Next_B2 (a0 : Int × Int × List Nat × List Nat × List Nat) (a1 : List Nat) (a2 : Int) (s1 : Int × List Nat) : Option ((Int × List Nat) ⊕ (List Nat)) :=
  bif (decide (s1.1 < a0.1)) then
    (rounds (spec_l03Next_B1 a0 a1 a2 s1) ((0 : Nat), (0 : Int))).bind fun r10 =>
    guardP (List.length s1.2 + List.length ([r10] : List Nat) ≤ appMax) (
      some (.inl ((wadd .i64 s1.1 (1 : Int)), (s1.2 ++ ([r10] : List Nat)))))
  else
    some (.inr s1.2)

noncomputable def spec_l03Next (a0 : Int × Int × List Nat × List Nat × List Nat) (a1 : List Nat) (a2 : Int) : Option (List Nat) :=
  (rounds (spec_l03Next_B2 a0 a1 a2) ((0 : Int), ([] : List Nat))).bind fun r3 =>
  some r3

theorem f108_ok {a0 : Int × Int × List Nat × List Nat × List Nat} {a1 : List Nat} {a2 : Int} {r : List Nat} (hr : spec_l03Next a0 a1 a2 = some r) : CallOK Try.prog 108 [.pimm (.st (.pair (.int .i64) (.pair (.int .i64) (.pair (.sl (.flt .f32)) (.pair (.sl (.flt .f32)) (.sl (.flt .f32))))))) a0, .imm (.sl (.flt .f32)) a1, .imm (.int .i64) a2] [⟨true, (.sl (.flt .f32)), r⟩] [] := by
  unfold spec_l03Next at hr
  refine CallOK.of_body (ts := [(true, (.sl (.flt .f32)))]) Try.func108 rfl (by kernel_rfl) (Nat.le_of_ble_eq_true (by kernel_rfl)) fun cx hP hN hO hF => ?_
  have hO : cx.own.map Prod.fst = [] := hO
  have hF := hF rfl
  show HT cx ⟨[(0, .one (.ip (.st (.pair (.int .i64) (.pair (.int .i64) (.pair (.sl (.flt .f32)) (.pair (.sl (.flt .f32)) (.sl (.flt .f32))))))) a0 0)), (1, .one (.dat (.sl (.flt .f32)) a1)), (2, .one (.dat (.int .i64) a2))], [], 0⟩ _ _
  refine HT.reg1 [0, 1, 2] [⟨none, .no⟩] ⟨[(0, .one (.ip (.st (.pair (.int .i64) (.pair (.int .i64) (.pair (.sl (.flt .f32)) (.pair (.sl (.flt .f32)) (.sl (.flt .f32))))))) a0 0)), (1, .one (.dat (.sl (.flt .f32)) a1)), (2, .one (.dat (.int .i64) a2))], [], 0⟩ hP hN (by kernel_rfl) allNil ?_
  refine HT.reg1 [0, 1, 2, 7] [⟨none, .no⟩, ⟨none, .no⟩] ⟨[(0, .one (.ip (.st (.pair (.int .i64) (.pair (.int .i64) (.pair (.sl (.flt .f32)) (.pair (.sl (.flt .f32)) (.sl (.flt .f32))))))) a0 0)), (1, .one (.dat (.sl (.flt .f32)) a1)), (2, .one (.dat (.int .i64) a2)), (7, .one (.nilS))], [], 0⟩ hP hN (by kernel_rfl) allNil ?_
  refine HT.seq ?_
  refine HT.reg1 [0, 1, 2, 7, 8] [⟨none, .no⟩] ⟨[(0, .one (.ip (.st (.pair (.int .i64) (.pair (.int .i64) (.pair (.sl (.flt .f32)) (.pair (.sl (.flt .f32)) (.sl (.flt .f32))))))) a0 0)), (1, .one (.dat (.sl (.flt .f32)) a1)), (2, .one (.dat (.int .i64) a2)), (7, .one (.nilS)), (8, .one (.dat (.int .i64) (0 : Int)))], [], 0⟩ hP hN (by kernel_rfl) allNil ?_
  refine HT.block ?_
  obtain ⟨r2, hL20, hr⟩ := of_bind hr
  refine (Le.cv (s := ⟨[], [0], [], false⟩) (own := []) (ps := [a0 = a0, a1 = a1, a2 = a2, (0 : Int) = (0 : Int), ([] : List Nat) = []]) (st' := ⟨[(0, .one (.ip (.st (.pair (.int .i64) (.pair (.int .i64) (.pair (.sl (.flt .f32)) (.pair (.sl (.flt .f32)) (.sl (.flt .f32))))))) a0 0)), (1, .one (.dat (.sl (.flt .f32)) a1)), (2, .one (.dat (.int .i64) a2)), (7, .one (.all 0)), (8, .one (.dat (.int .i64) (0 : Int)))], [(0, .seq (.flt .f32) ([] : List Nat))], 1⟩) hO (fun h => by cases h) (by kernel_rfl) ⟨rfl, rfl, rfl, rfl, rfl, trivial⟩).ht ?_
  refine HT.loopE (s := ((0 : Int), ([] : List Nat))) (fun (s1 : Int × List Nat) => ⟨[(0, .one (.ip (.st (.pair (.int .i64) (.pair (.int .i64) (.pair (.sl (.flt .f32)) (.pair (.sl (.flt .f32)) (.sl (.flt .f32))))))) a0 0)), (1, .one (.dat (.sl (.flt .f32)) a1)), (2, .one (.dat (.int .i64) a2)), (7, .one (.all 0)), (8, .one (.dat (.int .i64) s1.1))], [(0, .seq (.flt .f32) s1.2)], 1⟩) (fun (r3 : List Nat) => (.exit 0, ⟨[(7, .one (.all 0))], [(0, .seq (.flt .f32) r3)], 1⟩)) hL20 ?_ (fun s1 x4 hx5 hk6 => ?_)
  · refine (qBlockX (qThen ?_))
    refine HT.reg1 [6] [⟨none, .no⟩, ⟨none, .no⟩] ⟨[(6, .one (.all 0))], [(0, .seq (.flt .f32) r2)], 1⟩ hP hN (by kernel_rfl) allNil ?_
    have hr := of_some hr
    subst hr
    exact HT.ret ⟨[.one (.all 0)], [0], [], by kernel_rfl, by kernel_rfl, rfl, by kernel_rfl, by kernel_rfl, trivial⟩
  · refine HT.seq ?_
    refine HT.reg1 [0, 1, 2, 7, 8, 17] [⟨none, .no⟩, ⟨none, .no⟩, ⟨none, .no⟩, ⟨none, .no⟩, ⟨none, .no⟩, ⟨none, .no⟩] ⟨[(0, .one (.ip (.st (.pair (.int .i64) (.pair (.int .i64) (.pair (.sl (.flt .f32)) (.pair (.sl (.flt .f32)) (.sl (.flt .f32))))))) a0 0)), (1, .one (.dat (.sl (.flt .f32)) a1)), (2, .one (.dat (.int .i64) a2)), (7, .one (.all 0)), (8, .one (.dat (.int .i64) s1.1)), (17, .one (.dat .bool (decide (s1.1 < a0.1))))], [(0, .seq (.flt .f32) s1.2)], 1⟩ hP hN (by kernel_rfl) allNil ?_
    rcases of_bif hx5 with ⟨hb7, hx5⟩ | ⟨hb7, hx5⟩
    · refine HT.cond1 rfl hb7 ?_
      refine HT.skip (qThen ?_)
      refine HT.seq ?_
      refine HT.block ?_
      refine HT.reg1 [0, 1, 2, 7, 8, 9] [⟨none, .no⟩] ⟨[(0, .one (.ip (.st (.pair (.int .i64) (.pair (.int .i64) (.pair (.sl (.flt .f32)) (.pair (.sl (.flt .f32)) (.sl (.flt .f32))))))) a0 0)), (1, .one (.dat (.sl (.flt .f32)) a1)), (2, .one (.dat (.int .i64) a2)), (7, .one (.all 0)), (8, .one (.dat (.int .i64) s1.1)), (9, .one (.dat (.flt .f32) (0 : Nat)))], [(0, .seq (.flt .f32) s1.2)], 1⟩ hP hN (by kernel_rfl) allNil ?_
      refine HT.seq ?_
      refine HT.reg1 [0, 1, 2, 7, 8, 9, 10] [⟨none, .no⟩] ⟨[(0, .one (.ip (.st (.pair (.int .i64) (.pair (.int .i64) (.pair (.sl (.flt .f32)) (.pair (.sl (.flt .f32)) (.sl (.flt .f32))))))) a0 0)), (1, .one (.dat (.sl (.flt .f32)) a1)), (2, .one (.dat (.int .i64) a2)), (7, .one (.all 0)), (8, .one (.dat (.int .i64) s1.1)), (9, .one (.dat (.flt .f32) (0 : Nat))), (10, .one (.dat (.int .i64) (0 : Int)))], [(0, .seq (.flt .f32) s1.2)], 1⟩ hP hN (by kernel_rfl) allNil ?_
      refine HT.block ?_
      obtain ⟨r9, hL19, hx5⟩ := of_bind hx5
      refine (Le.cv (s := ⟨[(0, 0)], [], [], false⟩) (own := []) (ps := [a0 = a0, a1 = a1, a2 = a2, s1.1 = s1.1, (0 : Nat) = (0 : Nat), (0 : Int) = (0 : Int), s1.2 = s1.2]) (st' := ⟨[(0, .one (.ip (.st (.pair (.int .i64) (.pair (.int .i64) (.pair (.sl (.flt .f32)) (.pair (.sl (.flt .f32)) (.sl (.flt .f32))))))) a0 0)), (1, .one (.dat (.sl (.flt .f32)) a1)), (2, .one (.dat (.int .i64) a2)), (7, .one (.all 0)), (8, .one (.dat (.int .i64) s1.1)), (9, .one (.dat (.flt .f32) (0 : Nat))), (10, .one (.dat (.int .i64) (0 : Int)))], [(0, .seq (.flt .f32) s1.2)], 1⟩) hO (fun h => by cases h) (by kernel_rfl) ⟨rfl, rfl, rfl, rfl, rfl, rfl, rfl, trivial⟩).ht ?_
      refine HT.loopE (s := ((0 : Nat), (0 : Int))) (fun (s8 : Nat × Int) => ⟨[(0, .one (.ip (.st (.pair (.int .i64) (.pair (.int .i64) (.pair (.sl (.flt .f32)) (.pair (.sl (.flt .f32)) (.sl (.flt .f32))))))) a0 0)), (1, .one (.dat (.sl (.flt .f32)) a1)), (2, .one (.dat (.int .i64) a2)), (7, .one (.all 0)), (8, .one (.dat (.int .i64) s1.1)), (9, .one (.dat (.flt .f32) s8.1)), (10, .one (.dat (.int .i64) s8.2))], [(0, .seq (.flt .f32) s1.2)], 1⟩) (fun (r10 : Nat) => (.exit 2, ⟨[(0, .one (.ip (.st (.pair (.int .i64) (.pair (.int .i64) (.pair (.sl (.flt .f32)) (.pair (.sl (.flt .f32)) (.sl (.flt .f32))))))) a0 0)), (1, .one (.dat (.sl (.flt .f32)) a1)), (2, .one (.dat (.int .i64) a2)), (7, .one (.all 0)), (8, .one (.dat (.int .i64) s1.1)), (9, .one (.dat (.flt .f32) r10))], [(0, .seq (.flt .f32) s1.2)], 1⟩)) hL19 ?_ (fun s8 x12 hx13 hk14 => ?_)
      · refine (qBlockX (qThen ?_))
        obtain ⟨hg11, hx5⟩ := of_guard hx5
        refine HT.reg (rs := [⟨none, .no⟩, ⟨none, .no⟩, ⟨none, .ty (.flt .f32)⟩, ⟨none, .ty (.flt .f32)⟩, ⟨none, .no⟩]) (st' := ⟨[(7, .one (.all 2)), (67, .one (.all 2)), (66, .one (.all 1)), (65, .one (.dat (.flt .f32) r9)), (64, .one (.all 0)), (0, .one (.ip (.st (.pair (.int .i64) (.pair (.int .i64) (.pair (.sl (.flt .f32)) (.pair (.sl (.flt .f32)) (.sl (.flt .f32))))))) a0 0)), (1, .one (.dat (.sl (.flt .f32)) a1)), (2, .one (.dat (.int .i64) a2)), (7, .one (.all 0)), (8, .one (.dat (.int .i64) s1.1)), (9, .one (.dat (.flt .f32) r9))], [(0, .gone), (2, .seq (.flt .f32) (s1.2 ++ ([r9] : List Nat))), (1, .seq (.flt .f32) ([r9] : List Nat)), (0, .seq (.flt .f32) s1.2)], 3⟩) hP hN (by kernel_rfl) (allCons hg11 allNil) (qBlock (qThen ?_))
        have hx5 := of_some hx5
        subst hx5
        refine HT.reg (rs := [⟨none, .no⟩, ⟨none, .no⟩, ⟨none, .no⟩]) (st' := ⟨[(8, .one (.dat (.int .i64) (wadd .i64 s1.1 (1 : Int)))), (19, .one (.dat (.int .i64) (wadd .i64 s1.1 (1 : Int)))), (18, .one (.dat (.int .i64) s1.1)), (7, .one (.all 2)), (67, .one (.all 2)), (66, .one (.all 1)), (65, .one (.dat (.flt .f32) r9)), (64, .one (.all 0)), (0, .one (.ip (.st (.pair (.int .i64) (.pair (.int .i64) (.pair (.sl (.flt .f32)) (.pair (.sl (.flt .f32)) (.sl (.flt .f32))))))) a0 0)), (1, .one (.dat (.sl (.flt .f32)) a1)), (2, .one (.dat (.int .i64) a2)), (7, .one (.all 0)), (8, .one (.dat (.int .i64) s1.1)), (9, .one (.dat (.flt .f32) r9))], [(0, .gone), (2, .seq (.flt .f32) (s1.2 ++ ([r9] : List Nat))), (1, .seq (.flt .f32) ([r9] : List Nat)), (0, .seq (.flt .f32) s1.2)], 3⟩) hP hN (by kernel_rfl) allNil (qLoopN ⟨((wadd .i64 s1.1 (1 : Int)), (s1.2 ++ ([r9] : List Nat))), rfl, Le.cv (s := ⟨[(2, 0)], [], [], false⟩) (own := []) (ps := [a0 = a0, a1 = a1, a2 = a2, (wadd .i64 s1.1 (1 : Int)) = (wadd .i64 s1.1 (1 : Int)), (s1.2 ++ ([r9] : List Nat)) = (s1.2 ++ ([r9] : List Nat))]) (st' := ⟨[(0, .one (.ip (.st (.pair (.int .i64) (.pair (.int .i64) (.pair (.sl (.flt .f32)) (.pair (.sl (.flt .f32)) (.sl (.flt .f32))))))) a0 0)), (1, .one (.dat (.sl (.flt .f32)) a1)), (2, .one (.dat (.int .i64) a2)), (7, .one (.all 0)), (8, .one (.dat (.int .i64) (wadd .i64 s1.1 (1 : Int))))], [(0, .seq (.flt .f32) (s1.2 ++ ([r9] : List Nat)))], 1⟩) hO (fun h => by cases h) (by kernel_rfl) ⟨rfl, rfl, rfl, rfl, rfl, trivial⟩⟩)
      · refine HT.seq ?_
        refine HT.reg1 [0, 1, 2, 7, 8, 9, 10, 25] [⟨none, .no⟩, ⟨none, .no⟩, ⟨none, .no⟩, ⟨none, .no⟩, ⟨none, .no⟩, ⟨none, .no⟩] ⟨[(0, .one (.ip (.st (.pair (.int .i64) (.pair (.int .i64) (.pair (.sl (.flt .f32)) (.pair (.sl (.flt .f32)) (.sl (.flt .f32))))))) a0 0)), (1, .one (.dat (.sl (.flt .f32)) a1)), (2, .one (.dat (.int .i64) a2)), (7, .one (.all 0)), (8, .one (.dat (.int .i64) s1.1)), (9, .one (.dat (.flt .f32) s8.1)), (10, .one (.dat (.int .i64) s8.2)), (25, .one (.dat .bool (decide (s8.2 < a0.1))))], [(0, .seq (.flt .f32) s1.2)], 1⟩ hP hN (by kernel_rfl) allNil ?_
        rcases of_bif hx13 with ⟨hb15, hx13⟩ | ⟨hb15, hx13⟩
        · refine HT.cond1 rfl hb15 ?_
          refine HT.skip (qThen ?_)
          refine HT.seq ?_
          refine HT.block ?_
          obtain ⟨hg16, hx13⟩ := of_guard hx13
          obtain ⟨hg17, hx13⟩ := of_guard hx13
          obtain ⟨hg18, hx13⟩ := of_guard hx13
          refine drawS (h := 35) (hrs := [⟨⟨none, .no⟩, []⟩, ⟨⟨none, .no⟩, []⟩, ⟨⟨none, .no⟩, []⟩, ⟨⟨none, .no⟩, [1, 2]⟩, ⟨⟨none, .no⟩, [1, 2, 3]⟩, ⟨⟨none, .no⟩, []⟩, ⟨⟨none, .no⟩, [5]⟩, ⟨⟨none, .no⟩, [5, 6]⟩, ⟨⟨none, .no⟩, [5, 6, 7]⟩, ⟨⟨none, .no⟩, []⟩, ⟨⟨none, .no⟩, []⟩, ⟨⟨none, .no⟩, [10]⟩, ⟨⟨none, .no⟩, [10, 11]⟩, ⟨⟨none, .no⟩, [10, 11, 12]⟩, ⟨⟨none, .no⟩, [9, 10, 11, 12, 13]⟩, ⟨⟨none, .no⟩, []⟩, ⟨⟨none, .no⟩, [9, 10, 11, 12, 13, 14, 15]⟩, ⟨⟨none, .no⟩, [5, 6, 7, 8, 9, 10, 11, 12, 13, 14, 15, 16]⟩, ⟨⟨none, .no⟩, [5, 6, 7, 8, 9, 10, 11, 12, 13, 14, 15, 16, 17]⟩, ⟨⟨none, .no⟩, [1, 2, 3, 4, 5, 6, 7, 8, 9, 10, 11, 12, 13, 14, 15, 16, 17, 18]⟩, ⟨⟨none, .no⟩, []⟩, ⟨⟨none, .no⟩, [20]⟩, ⟨⟨none, .no⟩, [20, 21]⟩, ⟨⟨none, .no⟩, [20, 21, 22]⟩, ⟨⟨none, .no⟩, []⟩, ⟨⟨none, .no⟩, []⟩, ⟨⟨none, .no⟩, [25]⟩, ⟨⟨none, .no⟩, [25, 26]⟩, ⟨⟨none, .no⟩, [25, 26, 27]⟩, ⟨⟨none, .no⟩, [24, 25, 26, 27, 28]⟩, ⟨⟨none, .no⟩, []⟩, ⟨⟨none, .no⟩, [24, 25, 26, 27, 28, 29, 30]⟩, ⟨⟨none, .no⟩, [20, 21, 22, 23, 24, 25, 26, 27, 28, 29, 30, 31]⟩, ⟨⟨none, .no⟩, [20, 21, 22, 23, 24, 25, 26, 27, 28, 29, 30, 31, 32]⟩, ⟨⟨none, .no⟩, [1, 2, 3, 4, 5, 6, 7, 8, 9, 10, 11, 12, 13, 14, 15, 16, 17, 18, 19, 20, 21, 22, 23, 24, 25, 26, 27, 28, 29, 30, 31, 32, 33]⟩]) (tds := [[0, 1, 2, 3, 4, 5, 6, 7, 8, 9, 10, 11, 12, 13, 14, 15, 16, 17, 18, 19, 20, 21, 22, 23, 24, 25, 26, 27, 28, 29, 30, 31, 32, 33, 34], [0, 1, 2, 3, 4, 5, 6, 7, 8, 9, 10, 11, 12, 13, 14, 15, 16, 17, 18, 19, 20, 21, 22, 23, 24, 25, 26, 27, 28, 29, 30, 31, 32, 33, 34, 35]]) (rs := [⟨none, .no⟩, ⟨none, .no⟩]) (st' := ⟨[(9, .one (.dat (.flt .f32) (fop .add .f32 s8.1 (fop .mul .f32 (fop .mul .f32 (List.getD a1 (Int.toNat s8.2) (0 : Nat)) (List.getD a0.2.2.2.2 (Int.toNat (wadd .i64 (wmul .i64 s8.2 a0.2.1) a2)) (0 : Nat))) (List.getD a0.2.2.2.1 (Int.toNat (wadd .i64 (wmul .i64 s8.2 a0.1) s1.1)) (0 : Nat)))))), (63, .one (.dat (.flt .f32) (fop .add .f32 s8.1 (fop .mul .f32 (fop .mul .f32 (List.getD a1 (Int.toNat s8.2) (0 : Nat)) (List.getD a0.2.2.2.2 (Int.toNat (wadd .i64 (wmul .i64 s8.2 a0.2.1) a2)) (0 : Nat))) (List.getD a0.2.2.2.1 (Int.toNat (wadd .i64 (wmul .i64 s8.2 a0.1) s1.1)) (0 : Nat)))))), (62, .one (.dat (.flt .f32) (fop .mul .f32 (fop .mul .f32 (List.getD a1 (Int.toNat s8.2) (0 : Nat)) (List.getD a0.2.2.2.2 (Int.toNat (wadd .i64 (wmul .i64 s8.2 a0.2.1) a2)) (0 : Nat))) (List.getD a0.2.2.2.1 (Int.toNat (wadd .i64 (wmul .i64 s8.2 a0.1) s1.1)) (0 : Nat))))), (61, .one (.dat (.flt .f32) (List.getD a0.2.2.2.1 (Int.toNat (wadd .i64 (wmul .i64 s8.2 a0.1) s1.1)) (0 : Nat)))), (60, .one (.ip (.flt .f32) (List.getD a0.2.2.2.1 (Int.toNat (wadd .i64 (wmul .i64 s8.2 a0.1) s1.1)) (0 : Nat)) 0)), (59, .one (.dat (.int .i64) (wadd .i64 (wmul .i64 s8.2 a0.1) s1.1))), (58, .one (.dat (.int .i64) s1.1)), (57, .one (.dat (.int .i64) (wmul .i64 s8.2 a0.1))), (56, .one (.dat (.int .i64) a0.1)), (55, .one (.ip (.st (.pair (.int .i64) (.pair (.int .i64) (.pair (.sl (.flt .f32)) (.pair (.sl (.flt .f32)) (.sl (.flt .f32))))))) a0 0)), (54, .one (.ip (.st (.pair (.int .i64) (.pair (.int .i64) (.pair (.sl (.flt .f32)) (.pair (.sl (.flt .f32)) (.sl (.flt .f32))))))) a0 0)), (53, .one (.ip (.st (.pair (.int .i64) (.pair (.int .i64) (.pair (.sl (.flt .f32)) (.pair (.sl (.flt .f32)) (.sl (.flt .f32))))))) a0 0)), (52, .one (.dat (.int .i64) s8.2)), (51, .one (.dat (.sl (.flt .f32)) a0.2.2.2.1)), (50, .one (.ip (.st (.pair (.int .i64) (.pair (.int .i64) (.pair (.sl (.flt .f32)) (.pair (.sl (.flt .f32)) (.sl (.flt .f32))))))) a0 3)), (49, .one (.ip (.st (.pair (.int .i64) (.pair (.int .i64) (.pair (.sl (.flt .f32)) (.pair (.sl (.flt .f32)) (.sl (.flt .f32))))))) a0 0)), (48, .one (.ip (.st (.pair (.int .i64) (.pair (.int .i64) (.pair (.sl (.flt .f32)) (.pair (.sl (.flt .f32)) (.sl (.flt .f32))))))) a0 0)), (47, .one (.dat (.flt .f32) (fop .mul .f32 (List.getD a1 (Int.toNat s8.2) (0 : Nat)) (List.getD a0.2.2.2.2 (Int.toNat (wadd .i64 (wmul .i64 s8.2 a0.2.1) a2)) (0 : Nat))))), (46, .one (.dat (.flt .f32) (List.getD a0.2.2.2.2 (Int.toNat (wadd .i64 (wmul .i64 s8.2 a0.2.1) a2)) (0 : Nat)))), (45, .one (.ip (.flt .f32) (List.getD a0.2.2.2.2 (Int.toNat (wadd .i64 (wmul .i64 s8.2 a0.2.1) a2)) (0 : Nat)) 0)), (44, .one (.dat (.int .i64) (wadd .i64 (wmul .i64 s8.2 a0.2.1) a2))), (43, .one (.dat (.int .i64) a2)), (42, .one (.dat (.int .i64) (wmul .i64 s8.2 a0.2.1))), (41, .one (.dat (.int .i64) a0.2.1)), (40, .one (.ip (.st (.pair (.int .i64) (.pair (.int .i64) (.pair (.sl (.flt .f32)) (.pair (.sl (.flt .f32)) (.sl (.flt .f32))))))) a0 1)), (39, .one (.ip (.st (.pair (.int .i64) (.pair (.int .i64) (.pair (.sl (.flt .f32)) (.pair (.sl (.flt .f32)) (.sl (.flt .f32))))))) a0 0)), (38, .one (.ip (.st (.pair (.int .i64) (.pair (.int .i64) (.pair (.sl (.flt .f32)) (.pair (.sl (.flt .f32)) (.sl (.flt .f32))))))) a0 0)), (37, .one (.dat (.int .i64) s8.2)), (36, .one (.dat (.sl (.flt .f32)) a0.2.2.2.2)), (35, .one (.ip (.st (.pair (.int .i64) (.pair (.int .i64) (.pair (.sl (.flt .f32)) (.pair (.sl (.flt .f32)) (.sl (.flt .f32))))))) a0 4)), (34, .one (.ip (.st (.pair (.int .i64) (.pair (.int .i64) (.pair (.sl (.flt .f32)) (.pair (.sl (.flt .f32)) (.sl (.flt .f32))))))) a0 0)), (33, .one (.ip (.st (.pair (.int .i64) (.pair (.int .i64) (.pair (.sl (.flt .f32)) (.pair (.sl (.flt .f32)) (.sl (.flt .f32))))))) a0 0)), (32, .one (.dat (.flt .f32) (List.getD a1 (Int.toNat s8.2) (0 : Nat)))), (31, .one (.ip (.flt .f32) (List.getD a1 (Int.toNat s8.2) (0 : Nat)) 0)), (30, .one (.dat (.int .i64) s8.2)), (29, .one (.dat (.sl (.flt .f32)) a1)), (28, .one (.dat (.flt .f32) s8.1)), (0, .one (.ip (.st (.pair (.int .i64) (.pair (.int .i64) (.pair (.sl (.flt .f32)) (.pair (.sl (.flt .f32)) (.sl (.flt .f32))))))) a0 0)), (1, .one (.dat (.sl (.flt .f32)) a1)), (2, .one (.dat (.int .i64) a2)), (7, .one (.all 0)), (8, .one (.dat (.int .i64) s1.1)), (9, .one (.dat (.flt .f32) s8.1)), (10, .one (.dat (.int .i64) s8.2)), (25, .one (.dat .bool (decide (s8.2 < a0.1))))], [(0, .seq (.flt .f32) s1.2)], 1⟩) hP hN (by kernel_rfl) (by kernel_rfl) (allCons hg16 (allCons hg17 (allCons hg18 allNil))) (qBlock (qThen ?_))
          have hx13 := of_some hx13
          subst hx13
          refine HT.reg (rs := [⟨none, .no⟩, ⟨none, .no⟩, ⟨none, .no⟩]) (st' := ⟨[(10, .one (.dat (.int .i64) (wadd .i64 s8.2 (1 : Int)))), (27, .one (.dat (.int .i64) (wadd .i64 s8.2 (1 : Int)))), (26, .one (.dat (.int .i64) s8.2)), (9, .one (.dat (.flt .f32) (fop .add .f32 s8.1 (fop .mul .f32 (fop .mul .f32 (List.getD a1 (Int.toNat s8.2) (0 : Nat)) (List.getD a0.2.2.2.2 (Int.toNat (wadd .i64 (wmul .i64 s8.2 a0.2.1) a2)) (0 : Nat))) (List.getD a0.2.2.2.1 (Int.toNat (wadd .i64 (wmul .i64 s8.2 a0.1) s1.1)) (0 : Nat)))))), (63, .one (.dat (.flt .f32) (fop .add .f32 s8.1 (fop .mul .f32 (fop .mul .f32 (List.getD a1 (Int.toNat s8.2) (0 : Nat)) (List.getD a0.2.2.2.2 (Int.toNat (wadd .i64 (wmul .i64 s8.2 a0.2.1) a2)) (0 : Nat))) (List.getD a0.2.2.2.1 (Int.toNat (wadd .i64 (wmul .i64 s8.2 a0.1) s1.1)) (0 : Nat)))))), (62, .one (.dat (.flt .f32) (fop .mul .f32 (fop .mul .f32 (List.getD a1 (Int.toNat s8.2) (0 : Nat)) (List.getD a0.2.2.2.2 (Int.toNat (wadd .i64 (wmul .i64 s8.2 a0.2.1) a2)) (0 : Nat))) (List.getD a0.2.2.2.1 (Int.toNat (wadd .i64 (wmul .i64 s8.2 a0.1) s1.1)) (0 : Nat))))), (61, .one (.dat (.flt .f32) (List.getD a0.2.2.2.1 (Int.toNat (wadd .i64 (wmul .i64 s8.2 a0.1) s1.1)) (0 : Nat)))), (60, .one (.ip (.flt .f32) (List.getD a0.2.2.2.1 (Int.toNat (wadd .i64 (wmul .i64 s8.2 a0.1) s1.1)) (0 : Nat)) 0)), (59, .one (.dat (.int .i64) (wadd .i64 (wmul .i64 s8.2 a0.1) s1.1))), (58, .one (.dat (.int .i64) s1.1)), (57, .one (.dat (.int .i64) (wmul .i64 s8.2 a0.1))), (56, .one (.dat (.int .i64) a0.1)), (55, .one (.ip (.st (.pair (.int .i64) (.pair (.int .i64) (.pair (.sl (.flt .f32)) (.pair (.sl (.flt .f32)) (.sl (.flt .f32))))))) a0 0)), (54, .one (.ip (.st (.pair (.int .i64) (.pair (.int .i64) (.pair (.sl (.flt .f32)) (.pair (.sl (.flt .f32)) (.sl (.flt .f32))))))) a0 0)), (53, .one (.ip (.st (.pair (.int .i64) (.pair (.int .i64) (.pair (.sl (.flt .f32)) (.pair (.sl (.flt .f32)) (.sl (.flt .f32))))))) a0 0)), (52, .one (.dat (.int .i64) s8.2)), (51, .one (.dat (.sl (.flt .f32)) a0.2.2.2.1)), (50, .one (.ip (.st (.pair (.int .i64) (.pair (.int .i64) (.pair (.sl (.flt .f32)) (.pair (.sl (.flt .f32)) (.sl (.flt .f32))))))) a0 3)), (49, .one (.ip (.st (.pair (.int .i64) (.pair (.int .i64) (.pair (.sl (.flt .f32)) (.pair (.sl (.flt .f32)) (.sl (.flt .f32))))))) a0 0)), (48, .one (.ip (.st (.pair (.int .i64) (.pair (.int .i64) (.pair (.sl (.flt .f32)) (.pair (.sl (.flt .f32)) (.sl (.flt .f32))))))) a0 0)), (47, .one (.dat (.flt .f32) (fop .mul .f32 (List.getD a1 (Int.toNat s8.2) (0 : Nat)) (List.getD a0.2.2.2.2 (Int.toNat (wadd .i64 (wmul .i64 s8.2 a0.2.1) a2)) (0 : Nat))))), (46, .one (.dat (.flt .f32) (List.getD a0.2.2.2.2 (Int.toNat (wadd .i64 (wmul .i64 s8.2 a0.2.1) a2)) (0 : Nat)))), (45, .one (.ip (.flt .f32) (List.getD a0.2.2.2.2 (Int.toNat (wadd .i64 (wmul .i64 s8.2 a0.2.1) a2)) (0 : Nat)) 0)), (44, .one (.dat (.int .i64) (wadd .i64 (wmul .i64 s8.2 a0.2.1) a2))), (43, .one (.dat (.int .i64) a2)), (42, .one (.dat (.int .i64) (wmul .i64 s8.2 a0.2.1))), (41, .one (.dat (.int .i64) a0.2.1)), (40, .one (.ip (.st (.pair (.int .i64) (.pair (.int .i64) (.pair (.sl (.flt .f32)) (.pair (.sl (.flt .f32)) (.sl (.flt .f32))))))) a0 1)), (39, .one (.ip (.st (.pair (.int .i64) (.pair (.int .i64) (.pair (.sl (.flt .f32)) (.pair (.sl (.flt .f32)) (.sl (.flt .f32))))))) a0 0)), (38, .one (.ip (.st (.pair (.int .i64) (.pair (.int .i64) (.pair (.sl (.flt .f32)) (.pair (.sl (.flt .f32)) (.sl (.flt .f32))))))) a0 0)), (37, .one (.dat (.int .i64) s8.2)), (36, .one (.dat (.sl (.flt .f32)) a0.2.2.2.2)), (35, .one (.ip (.st (.pair (.int .i64) (.pair (.int .i64) (.pair (.sl (.flt .f32)) (.pair (.sl (.flt .f32)) (.sl (.flt .f32))))))) a0 4)), (34, .one (.ip (.st (.pair (.int .i64) (.pair (.int .i64) (.pair (.sl (.flt .f32)) (.pair (.sl (.flt .f32)) (.sl (.flt .f32))))))) a0 0)), (33, .one (.ip (.st (.pair (.int .i64) (.pair (.int .i64) (.pair (.sl (.flt .f32)) (.pair (.sl (.flt .f32)) (.sl (.flt .f32))))))) a0 0)), (32, .one (.dat (.flt .f32) (List.getD a1 (Int.toNat s8.2) (0 : Nat)))), (31, .one (.ip (.flt .f32) (List.getD a1 (Int.toNat s8.2) (0 : Nat)) 0)), (30, .one (.dat (.int .i64) s8.2)), (29, .one (.dat (.sl (.flt .f32)) a1)), (28, .one (.dat (.flt .f32) s8.1)), (0, .one (.ip (.st (.pair (.int .i64) (.pair (.int .i64) (.pair (.sl (.flt .f32)) (.pair (.sl (.flt .f32)) (.sl (.flt .f32))))))) a0 0)), (1, .one (.dat (.sl (.flt .f32)) a1)), (2, .one (.dat (.int .i64) a2)), (7, .one (.all 0)), (8, .one (.dat (.int .i64) s1.1)), (9, .one (.dat (.flt .f32) s8.1)), (10, .one (.dat (.int .i64) s8.2)), (25, .one (.dat .bool (decide (s8.2 < a0.1))))], [(0, .seq (.flt .f32) s1.2)], 1⟩) hP hN (by kernel_rfl) allNil (qLoopN ⟨((fop .add .f32 s8.1 (fop .mul .f32 (fop .mul .f32 (List.getD a1 (Int.toNat s8.2) (0 : Nat)) (List.getD a0.2.2.2.2 (Int.toNat (wadd .i64 (wmul .i64 s8.2 a0.2.1) a2)) (0 : Nat))) (List.getD a0.2.2.2.1 (Int.toNat (wadd .i64 (wmul .i64 s8.2 a0.1) s1.1)) (0 : Nat)))), (wadd .i64 s8.2 (1 : Int))), rfl, Le.cv (s := ⟨[(0, 0)], [], [], false⟩) (own := []) (ps := [a0 = a0, a1 = a1, a2 = a2, s1.1 = s1.1, (fop .add .f32 s8.1 (fop .mul .f32 (fop .mul .f32 (List.getD a1 (Int.toNat s8.2) (0 : Nat)) (List.getD a0.2.2.2.2 (Int.toNat (wadd .i64 (wmul .i64 s8.2 a0.2.1) a2)) (0 : Nat))) (List.getD a0.2.2.2.1 (Int.toNat (wadd .i64 (wmul .i64 s8.2 a0.1) s1.1)) (0 : Nat)))) = (fop .add .f32 s8.1 (fop .mul .f32 (fop .mul .f32 (List.getD a1 (Int.toNat s8.2) (0 : Nat)) (List.getD a0.2.2.2.2 (Int.toNat (wadd .i64 (wmul .i64 s8.2 a0.2.1) a2)) (0 : Nat))) (List.getD a0.2.2.2.1 (Int.toNat (wadd .i64 (wmul .i64 s8.2 a0.1) s1.1)) (0 : Nat)))), (wadd .i64 s8.2 (1 : Int)) = (wadd .i64 s8.2 (1 : Int)), s1.2 = s1.2]) (st' := ⟨[(0, .one (.ip (.st (.pair (.int .i64) (.pair (.int .i64) (.pair (.sl (.flt .f32)) (.pair (.sl (.flt .f32)) (.sl (.flt .f32))))))) a0 0)), (1, .one (.dat (.sl (.flt .f32)) a1)), (2, .one (.dat (.int .i64) a2)), (7, .one (.all 0)), (8, .one (.dat (.int .i64) s1.1)), (9, .one (.dat (.flt .f32) (fop .add .f32 s8.1 (fop .mul .f32 (fop .mul .f32 (List.getD a1 (Int.toNat s8.2) (0 : Nat)) (List.getD a0.2.2.2.2 (Int.toNat (wadd .i64 (wmul .i64 s8.2 a0.2.1) a2)) (0 : Nat))) (List.getD a0.2.2.2.1 (Int.toNat (wadd .i64 (wmul .i64 s8.2 a0.1) s1.1)) (0 : Nat)))))), (10, .one (.dat (.int .i64) (wadd .i64 s8.2 (1 : Int))))], [(0, .seq (.flt .f32) s1.2)], 1⟩) hO (fun h => by cases h) (by kernel_rfl) ⟨rfl, rfl, rfl, rfl, rfl, rfl, rfl, trivial⟩⟩)
        · refine HT.cond0 rfl hb15 ?_
          have hx13 := of_some hx13
          subst hx13
          refine (Le.cv (s := ⟨[(0, 0)], [], [], false⟩) (own := []) (ps := [a0 = a0, a1 = a1, a2 = a2, s1.1 = s1.1, s8.1 = s8.1, s1.2 = s1.2]) (st' := ⟨[(0, .one (.ip (.st (.pair (.int .i64) (.pair (.int .i64) (.pair (.sl (.flt .f32)) (.pair (.sl (.flt .f32)) (.sl (.flt .f32))))))) a0 0)), (1, .one (.dat (.sl (.flt .f32)) a1)), (2, .one (.dat (.int .i64) a2)), (7, .one (.all 0)), (8, .one (.dat (.int .i64) s1.1)), (9, .one (.dat (.flt .f32) s8.1))], [(0, .seq (.flt .f32) s1.2)], 1⟩) hO (fun h => by cases h) (by kernel_rfl) ⟨rfl, rfl, rfl, rfl, rfl, rfl, trivial⟩).ht ?_
          exact HT.exit (qThenE (qLoopE (hk14 s8.1 rfl)))
    · refine HT.cond0 rfl hb7 ?_
      have hx5 := of_some hx5
      subst hx5
      refine (Le.cv (s := ⟨[(0, 0)], [], [], false⟩) (own := []) (ps := [s1.2 = s1.2]) (st' := ⟨[(7, .one (.all 0))], [(0, .seq (.flt .f32) s1.2)], 1⟩) hO (fun h => by cases h) (by kernel_rfl) ⟨rfl, trivial⟩).ht ?_
      exact HT.exit (qThenE (qLoopE (hk6 s1.2 rfl)))

noncomputable def spec_l03Forward_B1 (a0 : Int × Int × List Nat × List Nat × List Nat) (a1 : List Int) (s1 : Int × List (List Nat)) : Option ((Int × List (List Nat)) ⊕ (List (List Nat))) :=
  bif (decide (s1.1 < (lenI a1))) then
    guardP ((0 : Int) ≤ s1.1 ∧ s1.1 < lenI s1.2) (
      guardP ((0 : Int) ≤ s1.1 ∧ s1.1 < lenI a1) (
        (spec_l03Next (a0.1, a0.2.1, a0.2.2.1, a0.2.2.2.1, a0.2.2.2.2) (List.getD s1.2 (Int.toNat s1.1) ([] : List Nat)) (List.getD a1 (Int.toNat s1.1) (0 : Int))).bind fun y10 =>
        guardP (List.length s1.2 + List.length ([y10] : List (List Nat)) ≤ appMax) (
          some (.inl ((wadd .i64 s1.1 (1 : Int)), (s1.2 ++ ([y10] : List (List Nat))))))))
  else
    some (.inr s1.2)

noncomputable def spec_l03Forward (a0 : Int × Int × List Nat × List Nat × List Nat) (a1 : List Int) : Option (List (List Nat)) :=
  (rounds (spec_l03Forward_B1 a0 a1) ((0 : Int), ([a0.2.2.1] : List (List Nat)))).bind fun r3 =>
  some r3

theorem f85_ok {a0 : Int × Int × List Nat × List Nat × List Nat} {a1 : List Int} {r : List (List Nat)} (hr : spec_l03Forward a0 a1 = some r) : CallOK Try.prog 85 [.pimm (.st (.pair (.int .i64) (.pair (.int .i64) (.pair (.sl (.flt .f32)) (.pair (.sl (.flt .f32)) (.sl (.flt .f32))))))) a0, .imm (.sl (.int .i64)) a1] [⟨false, (.sl (.sl (.flt .f32))), r⟩] [] := by
  unfold spec_l03Forward at hr
  refine CallOK.of_body (ts := [(false, (.sl (.sl (.flt .f32))))]) Try.func85 rfl (by kernel_rfl) (Nat.le_of_ble_eq_true (by kernel_rfl)) fun cx hP hN hO hF => ?_
  have hO : cx.own.map Prod.fst = [] := hO
  have hF := hF rfl
  show HT cx ⟨[(0, .one (.ip (.st (.pair (.int .i64) (.pair (.int .i64) (.pair (.sl (.flt .f32)) (.pair (.sl (.flt .f32)) (.sl (.flt .f32))))))) a0 0)), (1, .one (.dat (.sl (.int .i64)) a1))], [], 0⟩ _ _
  refine HT.reg1 [0, 1] [⟨none, .no⟩] ⟨[(0, .one (.ip (.st (.pair (.int .i64) (.pair (.int .i64) (.pair (.sl (.flt .f32)) (.pair (.sl (.flt .f32)) (.sl (.flt .f32))))))) a0 0)), (1, .one (.dat (.sl (.int .i64)) a1))], [], 0⟩ hP hN (by kernel_rfl) allNil ?_
  refine HT.reg1 [0, 1, 5] [⟨none, .no⟩, ⟨none, .no⟩, ⟨none, .no⟩, ⟨none, .no⟩, ⟨none, .ty (.sl (.flt .f32))⟩, ⟨none, .no⟩] ⟨[(0, .one (.ip (.st (.pair (.int .i64) (.pair (.int .i64) (.pair (.sl (.flt .f32)) (.pair (.sl (.flt .f32)) (.sl (.flt .f32))))))) a0 0)), (1, .one (.dat (.sl (.int .i64)) a1)), (5, .one (.all 0))], [(0, .seq (.sl (.flt .f32)) ([a0.2.2.1] : List (List Nat)))], 1⟩ hP hN (by kernel_rfl) allNil ?_
  refine HT.seq ?_
  refine HT.reg1 [0, 1, 5, 13, 14] [⟨none, .no⟩, ⟨none, .no⟩, ⟨none, .no⟩] ⟨[(0, .one (.ip (.st (.pair (.int .i64) (.pair (.int .i64) (.pair (.sl (.flt .f32)) (.pair (.sl (.flt .f32)) (.sl (.flt .f32))))))) a0 0)), (1, .one (.dat (.sl (.int .i64)) a1)), (5, .one (.all 0)), (13, .one (.dat (.int .i64) (lenI a1))), (14, .one (.dat (.int .i64) (0 : Int)))], [(0, .seq (.sl (.flt .f32)) ([a0.2.2.1] : List (List Nat)))], 1⟩ hP hN (by kernel_rfl) allNil ?_
  refine HT.block ?_
  obtain ⟨r2, hL13, hr⟩ := of_bind hr
  refine (Le.cv (s := ⟨[(0, 0)], [], [], false⟩) (own := []) (ps := [a0 = a0, a1 = a1, (lenI a1) = (lenI a1), (0 : Int) = (0 : Int), ([a0.2.2.1] : List (List Nat)) = ([a0.2.2.1] : List (List Nat))]) (st' := ⟨[(0, .one (.ip (.st (.pair (.int .i64) (.pair (.int .i64) (.pair (.sl (.flt .f32)) (.pair (.sl (.flt .f32)) (.sl (.flt .f32))))))) a0 0)), (1, .one (.dat (.sl (.int .i64)) a1)), (5, .one (.all 0)), (13, .one (.dat (.int .i64) (lenI a1))), (14, .one (.dat (.int .i64) (0 : Int)))], [(0, .seq (.sl (.flt .f32)) ([a0.2.2.1] : List (List Nat)))], 1⟩) hO (fun h => by cases h) (by kernel_rfl) ⟨rfl, rfl, rfl, rfl, rfl, trivial⟩).ht ?_
  refine HT.loopE (s := ((0 : Int), ([a0.2.2.1] : List (List Nat)))) (fun (s1 : Int × List (List Nat)) => ⟨[(0, .one (.ip (.st (.pair (.int .i64) (.pair (.int .i64) (.pair (.sl (.flt .f32)) (.pair (.sl (.flt .f32)) (.sl (.flt .f32))))))) a0 0)), (1, .one (.dat (.sl (.int .i64)) a1)), (5, .one (.all 0)), (13, .one (.dat (.int .i64) (lenI a1))), (14, .one (.dat (.int .i64) s1.1))], [(0, .seq (.sl (.flt .f32)) s1.2)], 1⟩) (fun (r3 : List (List Nat)) => (.exit 0, ⟨[(5, .one (.all 0))], [(0, .seq (.sl (.flt .f32)) r3)], 1⟩)) hL13 ?_ (fun s1 x4 hx5 hk6 => ?_)
  · refine (qBlockX (qThen ?_))
    refine HT.reg1 [4] [⟨none, .no⟩, ⟨none, .no⟩] ⟨[(4, .one (.all 0))], [(0, .seq (.sl (.flt .f32)) r2)], 1⟩ hP hN (by kernel_rfl) allNil ?_
    have hr := of_some hr
    subst hr
    refine (Le.cv (s := ⟨[], [], [], true⟩) (own := []) (ps := [r2 = r2]) (st' := ⟨[(4, .one (.dat (.sl (.sl (.flt .f32))) r2))], [], 1⟩) hO (fun _ => hF) (by kernel_rfl) ⟨rfl, trivial⟩).ht ?_
    exact HT.ret ⟨[.one (.dat (.sl (.sl (.flt .f32))) r2)], [], [], by kernel_rfl, by kernel_rfl, rfl, by kernel_rfl, by kernel_rfl, trivial⟩
  · refine HT.reg1 [0, 1, 5, 13, 14, 15] [⟨none, .no⟩] ⟨[(0, .one (.ip (.st (.pair (.int .i64) (.pair (.int .i64) (.pair (.sl (.flt .f32)) (.pair (.sl (.flt .f32)) (.sl (.flt .f32))))))) a0 0)), (1, .one (.dat (.sl (.int .i64)) a1)), (5, .one (.all 0)), (13, .one (.dat (.int .i64) (lenI a1))), (14, .one (.dat (.int .i64) s1.1)), (15, .one (.dat .bool (decide (s1.1 < (lenI a1)))))], [(0, .seq (.sl (.flt .f32)) s1.2)], 1⟩ hP hN (by kernel_rfl) allNil ?_
    refine HT.seq ?_
    rcases of_bif hx5 with ⟨hb7, hx5⟩ | ⟨hb7, hx5⟩
    · refine HT.cond1 rfl hb7 ?_
      refine HT.skip (qThen ?_)
      refine HT.seq ?_
      refine HT.block ?_
      refine HT.reg1 [0, 1, 5, 6, 13, 14] [⟨none, .no⟩, ⟨none, .no⟩] ⟨[(0, .one (.ip (.st (.pair (.int .i64) (.pair (.int .i64) (.pair (.sl (.flt .f32)) (.pair (.sl (.flt .f32)) (.sl (.flt .f32))))))) a0 0)), (1, .one (.dat (.sl (.int .i64)) a1)), (5, .one (.all 0)), (6, .one (.dat (.int .i64) s1.1)), (13, .one (.dat (.int .i64) (lenI a1))), (14, .one (.dat (.int .i64) s1.1))], [(0, .seq (.sl (.flt .f32)) s1.2)], 1⟩ hP hN (by kernel_rfl) allNil ?_
      obtain ⟨hg8, hx5⟩ := of_guard hx5
      obtain ⟨hg9, hx5⟩ := of_guard hx5
      obtain ⟨y10, hc11, hx5⟩ := of_bind hx5
      obtain ⟨hg12, hx5⟩ := of_guard hx5
      refine drawS (h := 12) (hrs := [⟨⟨none, .no⟩, []⟩, ⟨⟨none, .no⟩, []⟩, ⟨⟨none, .no⟩, []⟩, ⟨⟨none, .no⟩, []⟩, ⟨⟨none, .no⟩, [2, 3]⟩, ⟨⟨none, .no⟩, [2, 3, 4]⟩, ⟨⟨none, .no⟩, []⟩, ⟨⟨none, .no⟩, []⟩, ⟨⟨none, .no⟩, [6, 7]⟩, ⟨⟨none, .no⟩, [6, 7, 8]⟩, ⟨⟨none, .call [.pimm (.st (.pair (.int .i64) (.pair (.int .i64) (.pair (.sl (.flt .f32)) (.pair (.sl (.flt .f32)) (.sl (.flt .f32))))))), .imm (.sl (.flt .f32)), .imm (.int .i64)] [⟨false, (.sl (.flt .f32)), y10⟩] []⟩, [1, 2, 3, 4, 5, 6, 7, 8, 9]⟩, ⟨⟨none, .ty (.sl (.flt .f32))⟩, [1, 2, 3, 4, 5, 6, 7, 8, 9, 10]⟩]) (tds := [[0, 1, 2, 3, 4, 5, 6, 7, 8, 9, 10, 11], [0, 1, 2, 3, 4, 5, 6, 7, 8, 9, 10, 11, 12]]) (rs := [⟨none, .ty (.sl (.flt .f32))⟩, ⟨none, .no⟩]) (st' := ⟨[(5, .one (.all 2)), (29, .one (.all 2)), (28, .one (.all 1)), (27, .one (.dat (.sl (.flt .f32)) y10)), (26, .one (.dat (.int .i64) (List.getD a1 (Int.toNat s1.1) (0 : Int)))), (25, .one (.ip (.int .i64) (List.getD a1 (Int.toNat s1.1) (0 : Int)) 0)), (24, .one (.dat (.int .i64) s1.1)), (23, .one (.dat (.sl (.int .i64)) a1)), (22, .one (.dat (.sl (.flt .f32)) (List.getD s1.2 (Int.toNat s1.1) ([] : List Nat)))), (21, .one (.elp 0 (Int.toNat s1.1) 1 0)), (20, .one (.dat (.int .i64) s1.1)), (19, .one (.all 0)), (18, .one (.ip (.st (.pair (.int .i64) (.pair (.int .i64) (.pair (.sl (.flt .f32)) (.pair (.sl (.flt .f32)) (.sl (.flt .f32))))))) a0 0)), (17, .one (.all 0)), (0, .one (.ip (.st (.pair (.int .i64) (.pair (.int .i64) (.pair (.sl (.flt .f32)) (.pair (.sl (.flt .f32)) (.sl (.flt .f32))))))) a0 0)), (1, .one (.dat (.sl (.int .i64)) a1)), (5, .one (.all 0)), (6, .one (.dat (.int .i64) s1.1)), (13, .one (.dat (.int .i64) (lenI a1))), (14, .one (.dat (.int .i64) s1.1))], [(0, .gone), (2, .seq (.sl (.flt .f32)) (s1.2 ++ ([y10] : List (List Nat)))), (1, .seq (.sl (.flt .f32)) ([y10] : List (List Nat))), (0, .seq (.sl (.flt .f32)) s1.2)], 3⟩) hP hN (by kernel_rfl) (by kernel_rfl) (allCons hg8 (allCons (natLt hg8) (allCons hg9 (allCons (CallOK.frz [true] rfl (f108_ok hc11)) (allCons hg12 allNil))))) (qBlock (qThen ?_))
      have hx5 := of_some hx5
      subst hx5
      refine HT.reg (rs := [⟨none, .no⟩, ⟨none, .no⟩]) (st' := ⟨[(14, .one (.dat (.int .i64) (wadd .i64 s1.1 (1 : Int)))), (30, .one (.dat (.int .i64) (wadd .i64 s1.1 (1 : Int)))), (5, .one (.all 2)), (29, .one (.all 2)), (28, .one (.all 1)), (27, .one (.dat (.sl (.flt .f32)) y10)), (26, .one (.dat (.int .i64) (List.getD a1 (Int.toNat s1.1) (0 : Int)))), (25, .one (.ip (.int .i64) (List.getD a1 (Int.toNat s1.1) (0 : Int)) 0)), (24, .one (.dat (.int .i64) s1.1)), (23, .one (.dat (.sl (.int .i64)) a1)), (22, .one (.dat (.sl (.flt .f32)) (List.getD s1.2 (Int.toNat s1.1) ([] : List Nat)))), (21, .one (.elp 0 (Int.toNat s1.1) 1 0)), (20, .one (.dat (.int .i64) s1.1)), (19, .one (.all 0)), (18, .one (.ip (.st (.pair (.int .i64) (.pair (.int .i64) (.pair (.sl (.flt .f32)) (.pair (.sl (.flt .f32)) (.sl (.flt .f32))))))) a0 0)), (17, .one (.all 0)), (0, .one (.ip (.st (.pair (.int .i64) (.pair (.int .i64) (.pair (.sl (.flt .f32)) (.pair (.sl (.flt .f32)) (.sl (.flt .f32))))))) a0 0)), (1, .one (.dat (.sl (.int .i64)) a1)), (5, .one (.all 0)), (6, .one (.dat (.int .i64) s1.1)), (13, .one (.dat (.int .i64) (lenI a1))), (14, .one (.dat (.int .i64) s1.1))], [(0, .gone), (2, .seq (.sl (.flt .f32)) (s1.2 ++ ([y10] : List (List Nat)))), (1, .seq (.sl (.flt .f32)) ([y10] : List (List Nat))), (0, .seq (.sl (.flt .f32)) s1.2)], 3⟩) hP hN (by kernel_rfl) allNil (qLoopN ⟨((wadd .i64 s1.1 (1 : Int)), (s1.2 ++ ([y10] : List (List Nat)))), rfl, Le.cv (s := ⟨[(2, 0)], [], [], false⟩) (own := []) (ps := [a0 = a0, a1 = a1, (lenI a1) = (lenI a1), (wadd .i64 s1.1 (1 : Int)) = (wadd .i64 s1.1 (1 : Int)), (s1.2 ++ ([y10] : List (List Nat))) = (s1.2 ++ ([y10] : List (List Nat)))]) (st' := ⟨[(0, .one (.ip (.st (.pair (.int .i64) (.pair (.int .i64) (.pair (.sl (.flt .f32)) (.pair (.sl (.flt .f32)) (.sl (.flt .f32))))))) a0 0)), (1, .one (.dat (.sl (.int .i64)) a1)), (5, .one (.all 0)), (13, .one (.dat (.int .i64) (lenI a1))), (14, .one (.dat (.int .i64) (wadd .i64 s1.1 (1 : Int))))], [(0, .seq (.sl (.flt .f32)) (s1.2 ++ ([y10] : List (List Nat))))], 1⟩) hO (fun h => by cases h) (by kernel_rfl) ⟨rfl, rfl, rfl, rfl, rfl, trivial⟩⟩)
    · refine HT.cond0 rfl hb7 ?_
      have hx5 := of_some hx5
      subst hx5
      refine (Le.cv (s := ⟨[(0, 0)], [], [], false⟩) (own := []) (ps := [s1.2 = s1.2]) (st' := ⟨[(5, .one (.all 0))], [(0, .seq (.sl (.flt .f32)) s1.2)], 1⟩) hO (fun h => by cases h) (by kernel_rfl) ⟨rfl, trivial⟩).ht ?_
      exact HT.exit (qThenE (qLoopE (hk6 s1.2 rfl)))

noncomputable def spec_l03Backward_B1 (a0 : Int × Int × List Nat × List Nat × List Nat) (a1 : List Int) (s5 : Int × List (List Nat)) (s12 : Int × List (List Nat)) (s19 : Nat × Int) : Option ((Nat × Int) ⊕ (Nat)) :=
  bif (decide (s19.2 < a0.1)) then
    guardP ((0 : Int) ≤ s5.1 ∧ s5.1 < lenI a1) (
      guardP ((0 : Int) ≤ (wadd .i64 (wmul .i64 s12.1 a0.2.1) (List.getD a1 (Int.toNat s5.1) (0 : Int))) ∧ (wadd .i64 (wmul .i64 s12.1 a0.2.1) (List.getD a1 (Int.toNat s5.1) (0 : Int))) < lenI a0.2.2.2.2) (
        guardP ((0 : Int) ≤ (wadd .i64 (wmul .i64 s12.1 a0.1) s19.2) ∧ (wadd .i64 (wmul .i64 s12.1 a0.1) s19.2) < lenI a0.2.2.2.1) (
          guardP ((0 : Int) ≤ (wadd .i64 s5.1 (1 : Int)) ∧ (wadd .i64 s5.1 (1 : Int)) < lenI s12.2) (
            guardP ((0 : Int) ≤ s19.2 ∧ s19.2 < lenI (List.getD s12.2 (Int.toNat (wadd .i64 s5.1 (1 : Int))) ([] : List Nat))) (
              some (.inl ((fop .add .f32 s19.1 (fop .mul .f32 (fop .mul .f32 (List.getD a0.2.2.2.2 (Int.toNat (wadd .i64 (wmul .i64 s12.1 a0.2.1) (List.getD a1 (Int.toNat s5.1) (0 : Int)))) (0 : Nat)) (List.getD a0.2.2.2.1 (Int.toNat (wadd .i64 (wmul .i64 s12.1 a0.1) s19.2)) (0 : Nat))) (List.getD (List.getD s12.2 (Int.toNat (wadd .i64 s5.1 (1 : Int))) ([] : List Nat)) (Int.toNat s19.2) (0 : Nat)))), (wadd .i64 s19.2 (1 : Int)))))))))
  else
    some (.inr s19.1)

noncomputable def spec_l03Backward_B2 (a0 : Int × Int × List Nat × List Nat × List Nat) (a1 : List Int) (s5 : Int × List (List Nat)) (s12 : Int × List (List Nat)) : Option ((Int × List (List Nat)) ⊕ (List (List Nat))) :=
  bif (decide (s12.1 < a0.1)) then
    (rounds (spec_l03Backward_B1 a0 a1 s5 s12) ((0 : Nat), (0 : Int))).bind fun r21 =>
    guardP ((0 : Int) ≤ s5.1 ∧ s5.1 < lenI s12.2) (
      guardP (List.length (List.getD s12.2 (Int.toNat s5.1) ([] : List Nat)) + List.length ([r21] : List Nat) ≤ appMax) (
        some (.inl ((wadd .i64 s12.1 (1 : Int)), (List.set s12.2 (Int.toNat s5.1) ((List.getD s12.2 (Int.toNat s5.1) ([] : List Nat)) ++ ([r21] : List Nat)))))))
  else
    some (.inr s12.2)

noncomputable def spec_l03Backward_B3 (a0 : Int × Int × List Nat × List Nat × List Nat) (a1 : List Int) (s5 : Int × List (List Nat)) : Option ((Int × List (List Nat)) ⊕ (List (List Nat))) :=
  bif (decide (s5.1 ≥ (0 : Int))) then
    (rounds (spec_l03Backward_B2 a0 a1 s5) ((0 : Int), s5.2)).bind fun r14 =>
    some (.inl ((wsub .i64 s5.1 (1 : Int)), r14))
  else
    some (.inr s5.2)

noncomputable def spec_l03Backward_B4 (a0 : Int × Int × List Nat × List Nat × List Nat) (a1 : List Int) (s2 : Int × List (List Nat)) : Option ((Int × List (List Nat)) ⊕ (List (List Nat))) :=
  bif (decide (s2.1 < a0.1)) then
    guardP ((0 : Int) ≤ (lenI a1) ∧ (lenI a1) < lenI s2.2) (
      guardP (List.length (List.getD s2.2 (Int.toNat (lenI a1)) ([] : List Nat)) + List.length ([(1065353216 : Nat)] : List Nat) ≤ appMax) (
        some (.inl ((wadd .i64 s2.1 (1 : Int)), (List.set s2.2 (Int.toNat (lenI a1)) ((List.getD s2.2 (Int.toNat (lenI a1)) ([] : List Nat)) ++ ([(1065353216 : Nat)] : List Nat)))))))
  else
    some (.inr s2.2)

noncomputable def spec_l03Backward (a0 : Int × Int × List Nat × List Nat × List Nat) (a1 : List Int) : Option (List (List Nat)) :=
  guardP ((0 : Int) ≤ (wadd .i64 (lenI a1) (1 : Int)) ∧ (wadd .i64 (lenI a1) (1 : Int)) ≤ 4294967296) (
    (rounds (spec_l03Backward_B4 a0 a1) ((0 : Int), (List.replicate (Int.toNat (wadd .i64 (lenI a1) (1 : Int))) ([] : List Nat)))).bind fun r4 =>
    (rounds (spec_l03Backward_B3 a0 a1) ((wsub .i64 (lenI a1) (1 : Int)), r4)).bind fun r7 =>
    some r7)

theorem f45_ok {a0 : Int × Int × List Nat × List Nat × List Nat} {a1 : List Int} {r : List (List Nat)} (hr : spec_l03Backward a0 a1 = some r) : CallOK Try.prog 45 [.pimm (.st (.pair (.int .i64) (.pair (.int .i64) (.pair (.sl (.flt .f32)) (.pair (.sl (.flt .f32)) (.sl (.flt .f32))))))) a0, .imm (.sl (.int .i64)) a1] [⟨true, (.sl (.own (.flt .f32))), r⟩] [] := by
  unfold spec_l03Backward at hr
  refine CallOK.of_body (ts := [(true, (.sl (.own (.flt .f32))))]) Try.func45 rfl (by kernel_rfl) (Nat.le_of_ble_eq_true (by kernel_rfl)) fun cx hP hN hO hF => ?_
  have hO : cx.own.map Prod.fst = [] := hO
  have hF := hF rfl
  show HT cx ⟨[(0, .one (.ip (.st (.pair (.int .i64) (.pair (.int .i64) (.pair (.sl (.flt .f32)) (.pair (.sl (.flt .f32)) (.sl (.flt .f32))))))) a0 0)), (1, .one (.dat (.sl (.int .i64)) a1))], [], 0⟩ _ _
  refine HT.reg1 [0, 1] [⟨none, .no⟩] ⟨[(0, .one (.ip (.st (.pair (.int .i64) (.pair (.int .i64) (.pair (.sl (.flt .f32)) (.pair (.sl (.flt .f32)) (.sl (.flt .f32))))))) a0 0)), (1, .one (.dat (.sl (.int .i64)) a1))], [], 0⟩ hP hN (by kernel_rfl) allNil ?_
  refine HT.reg1 [0, 1, 5] [⟨none, .no⟩, ⟨none, .no⟩, ⟨none, .no⟩] ⟨[(0, .one (.ip (.st (.pair (.int .i64) (.pair (.int .i64) (.pair (.sl (.flt .f32)) (.pair (.sl (.flt .f32)) (.sl (.flt .f32))))))) a0 0)), (1, .one (.dat (.sl (.int .i64)) a1)), (5, .one (.dat (.int .i64) (lenI a1)))], [], 0⟩ hP hN (by kernel_rfl) allNil ?_
  obtain ⟨hg1, hr⟩ := of_guard hr
  refine HT.reg1 [0, 1, 5, 6] [⟨none, .no⟩, ⟨none, .no⟩, ⟨none, .ty (.own (.flt .f32))⟩, ⟨none, .no⟩] ⟨[(0, .one (.ip (.st (.pair (.int .i64) (.pair (.int .i64) (.pair (.sl (.flt .f32)) (.pair (.sl (.flt .f32)) (.sl (.flt .f32))))))) a0 0)), (1, .one (.dat (.sl (.int .i64)) a1)), (5, .one (.dat (.int .i64) (lenI a1))), (6, .one (.all 0))], [(0, .seq (.own (.flt .f32)) (List.replicate (Int.toNat (wadd .i64 (lenI a1) (1 : Int))) ([] : List Nat)))], 1⟩ hP hN (by kernel_rfl) (allCons (show (0 : Int) ≤ (wadd .i64 (lenI a1) (1 : Int)) ∧ (wadd .i64 (lenI a1) (1 : Int)) ≤ (wadd .i64 (lenI a1) (1 : Int)) ∧ (wadd .i64 (lenI a1) (1 : Int)) ≤ 4294967296 from ⟨hg1.1, Int.le_refl _, hg1.2⟩) allNil) ?_
  refine HT.seq ?_
  refine HT.reg1 [0, 1, 5, 6, 7] [⟨none, .no⟩] ⟨[(0, .one (.ip (.st (.pair (.int .i64) (.pair (.int .i64) (.pair (.sl (.flt .f32)) (.pair (.sl (.flt .f32)) (.sl (.flt .f32))))))) a0 0)), (1, .one (.dat (.sl (.int .i64)) a1)), (5, .one (.dat (.int .i64) (lenI a1))), (6, .one (.all 0)), (7, .one (.dat (.int .i64) (0 : Int)))], [(0, .seq (.own (.flt .f32)) (List.replicate (Int.toNat (wadd .i64 (lenI a1) (1 : Int))) ([] : List Nat)))], 1⟩ hP hN (by kernel_rfl) allNil ?_
  refine HT.block ?_
  obtain ⟨r3, hL42, hr⟩ := of_bind hr
  refine (Le.cv (s := ⟨[(0, 0)], [], [], false⟩) (own := []) (ps := [a0 = a0, a1 = a1, (lenI a1) = (lenI a1), (0 : Int) = (0 : Int), (List.replicate (Int.toNat (wadd .i64 (lenI a1) (1 : Int))) ([] : List Nat)) = (List.replicate (Int.toNat (wadd .i64 (lenI a1) (1 : Int))) ([] : List Nat))]) (st' := ⟨[(0, .one (.ip (.st (.pair (.int .i64) (.pair (.int .i64) (.pair (.sl (.flt .f32)) (.pair (.sl (.flt .f32)) (.sl (.flt .f32))))))) a0 0)), (1, .one (.dat (.sl (.int .i64)) a1)), (5, .one (.dat (.int .i64) (lenI a1))), (6, .one (.all 0)), (7, .one (.dat (.int .i64) (0 : Int)))], [(0, .seq (.own (.flt .f32)) (List.replicate (Int.toNat (wadd .i64 (lenI a1) (1 : Int))) ([] : List Nat)))], 1⟩) hO (fun h => by cases h) (by kernel_rfl) ⟨rfl, rfl, rfl, rfl, rfl, trivial⟩).ht ?_
  refine HT.loopE (s := ((0 : Int), (List.replicate (Int.toNat (wadd .i64 (lenI a1) (1 : Int))) ([] : List Nat)))) (fun (s2 : Int × List (List Nat)) => ⟨[(0, .one (.ip (.st (.pair (.int .i64) (.pair (.int .i64) (.pair (.sl (.flt .f32)) (.pair (.sl (.flt .f32)) (.sl (.flt .f32))))))) a0 0)), (1, .one (.dat (.sl (.int .i64)) a1)), (5, .one (.dat (.int .i64) (lenI a1))), (6, .one (.all 0)), (7, .one (.dat (.int .i64) s2.1))], [(0, .seq (.own (.flt .f32)) s2.2)], 1⟩) (fun (r4 : List (List Nat)) => (.exit 0, ⟨[(0, .one (.ip (.st (.pair (.int .i64) (.pair (.int .i64) (.pair (.sl (.flt .f32)) (.pair (.sl (.flt .f32)) (.sl (.flt .f32))))))) a0 0)), (1, .one (.dat (.sl (.int .i64)) a1)), (5, .one (.dat (.int .i64) (lenI a1))), (6, .one (.all 0))], [(0, .seq (.own (.flt .f32)) r4)], 1⟩)) hL42 ?_ (fun s2 x36 hx37 hk38 => ?_)
  · refine (qBlockX (qThen ?_))
    refine HT.seq ?_
    refine HT.reg1 [0, 1, 6, 8] [⟨none, .no⟩, ⟨none, .no⟩, ⟨none, .no⟩] ⟨[(0, .one (.ip (.st (.pair (.int .i64) (.pair (.int .i64) (.pair (.sl (.flt .f32)) (.pair (.sl (.flt .f32)) (.sl (.flt .f32))))))) a0 0)), (1, .one (.dat (.sl (.int .i64)) a1)), (6, .one (.all 0)), (8, .one (.dat (.int .i64) (wsub .i64 (lenI a1) (1 : Int))))], [(0, .seq (.own (.flt .f32)) r3)], 1⟩ hP hN (by kernel_rfl) allNil ?_
    refine HT.block ?_
    obtain ⟨r6, hL35, hr⟩ := of_bind hr
    refine (Le.cv (s := ⟨[(0, 0)], [], [], false⟩) (own := []) (ps := [a0 = a0, a1 = a1, (wsub .i64 (lenI a1) (1 : Int)) = (wsub .i64 (lenI a1) (1 : Int)), r3 = r3]) (st' := ⟨[(0, .one (.ip (.st (.pair (.int .i64) (.pair (.int .i64) (.pair (.sl (.flt .f32)) (.pair (.sl (.flt .f32)) (.sl (.flt .f32))))))) a0 0)), (1, .one (.dat (.sl (.int .i64)) a1)), (6, .one (.all 0)), (8, .one (.dat (.int .i64) (wsub .i64 (lenI a1) (1 : Int))))], [(0, .seq (.own (.flt .f32)) r3)], 1⟩) hO (fun h => by cases h) (by kernel_rfl) ⟨rfl, rfl, rfl, rfl, trivial⟩).ht ?_
    refine HT.loopE (s := ((wsub .i64 (lenI a1) (1 : Int)), r3)) (fun (s5 : Int × List (List Nat)) => ⟨[(0, .one (.ip (.st (.pair (.int .i64) (.pair (.int .i64) (.pair (.sl (.flt .f32)) (.pair (.sl (.flt .f32)) (.sl (.flt .f32))))))) a0 0)), (1, .one (.dat (.sl (.int .i64)) a1)), (6, .one (.all 0)), (8, .one (.dat (.int .i64) s5.1))], [(0, .seq (.own (.flt .f32)) s5.2)], 1⟩) (fun (r7 : List (List Nat)) => (.exit 2, ⟨[(6, .one (.all 0))], [(0, .seq (.own (.flt .f32)) r7)], 1⟩)) hL35 ?_ (fun s5 x8 hx9 hk10 => ?_)
    · refine (qBlockX (qThen ?_))
      refine HT.reg1 [4] [⟨none, .no⟩, ⟨none, .no⟩] ⟨[(4, .one (.all 0))], [(0, .seq (.own (.flt .f32)) r6)], 1⟩ hP hN (by kernel_rfl) allNil ?_
      have hr := of_some hr
      subst hr
      exact HT.ret ⟨[.one (.all 0)], [0], [], by kernel_rfl, by kernel_rfl, rfl, by kernel_rfl, by kernel_rfl, trivial⟩
    · refine HT.seq ?_
      refine HT.reg1 [0, 1, 6, 8, 37] [⟨none, .no⟩, ⟨none, .no⟩] ⟨[(0, .one (.ip (.st (.pair (.int .i64) (.pair (.int .i64) (.pair (.sl (.flt .f32)) (.pair (.sl (.flt .f32)) (.sl (.flt .f32))))))) a0 0)), (1, .one (.dat (.sl (.int .i64)) a1)), (6, .one (.all 0)), (8, .one (.dat (.int .i64) s5.1)), (37, .one (.dat .bool (decide (s5.1 ≥ (0 : Int)))))], [(0, .seq (.own (.flt .f32)) s5.2)], 1⟩ hP hN (by kernel_rfl) allNil ?_
      rcases of_bif hx9 with ⟨hb11, hx9⟩ | ⟨hb11, hx9⟩
      · refine HT.cond1 rfl hb11 ?_
        refine HT.skip (qThen ?_)
        refine HT.seq ?_
        refine HT.block ?_
        refine HT.reg1 [0, 1, 6, 8, 9] [⟨none, .no⟩] ⟨[(0, .one (.ip (.st (.pair (.int .i64) (.pair (.int .i64) (.pair (.sl (.flt .f32)) (.pair (.sl (.flt .f32)) (.sl (.flt .f32))))))) a0 0)), (1, .one (.dat (.sl (.int .i64)) a1)), (6, .one (.all 0)), (8, .one (.dat (.int .i64) s5.1)), (9, .one (.dat (.int .i64) (0 : Int)))], [(0, .seq (.own (.flt .f32)) s5.2)], 1⟩ hP hN (by kernel_rfl) allNil ?_
        refine HT.block ?_
        obtain ⟨r13, hL34, hx9⟩ := of_bind hx9
        refine (Le.cv (s := ⟨[(0, 0)], [], [], false⟩) (own := []) (ps := [a0 = a0, a1 = a1, s5.1 = s5.1, (0 : Int) = (0 : Int), s5.2 = s5.2]) (st' := ⟨[(0, .one (.ip (.st (.pair (.int .i64) (.pair (.int .i64) (.pair (.sl (.flt .f32)) (.pair (.sl (.flt .f32)) (.sl (.flt .f32))))))) a0 0)), (1, .one (.dat (.sl (.int .i64)) a1)), (6, .one (.all 0)), (8, .one (.dat (.int .i64) s5.1)), (9, .one (.dat (.int .i64) (0 : Int)))], [(0, .seq (.own (.flt .f32)) s5.2)], 1⟩) hO (fun h => by cases h) (by kernel_rfl) ⟨rfl, rfl, rfl, rfl, rfl, trivial⟩).ht ?_
        refine HT.loopE (s := ((0 : Int), s5.2)) (fun (s12 : Int × List (List Nat)) => ⟨[(0, .one (.ip (.st (.pair (.int .i64) (.pair (.int .i64) (.pair (.sl (.flt .f32)) (.pair (.sl (.flt .f32)) (.sl (.flt .f32))))))) a0 0)), (1, .one (.dat (.sl (.int .i64)) a1)), (6, .one (.all 0)), (8, .one (.dat (.int .i64) s5.1)), (9, .one (.dat (.int .i64) s12.1))], [(0, .seq (.own (.flt .f32)) s12.2)], 1⟩) (fun (r14 : List (List Nat)) => (.exit 4, ⟨[(0, .one (.ip (.st (.pair (.int .i64) (.pair (.int .i64) (.pair (.sl (.flt .f32)) (.pair (.sl (.flt .f32)) (.sl (.flt .f32))))))) a0 0)), (1, .one (.dat (.sl (.int .i64)) a1)), (6, .one (.all 0)), (8, .one (.dat (.int .i64) s5.1))], [(0, .seq (.own (.flt .f32)) r14)], 1⟩)) hL34 ?_ (fun s12 x15 hx16 hk17 => ?_)
        · refine (qBlockX (qBlock (qThen ?_)))
          have hx9 := of_some hx9
          subst hx9
          refine HT.reg (rs := [⟨none, .no⟩, ⟨none, .no⟩, ⟨none, .no⟩]) (st' := ⟨[(8, .one (.dat (.int .i64) (wsub .i64 s5.1 (1 : Int)))), (39, .one (.dat (.int .i64) (wsub .i64 s5.1 (1 : Int)))), (38, .one (.dat (.int .i64) s5.1)), (0, .one (.ip (.st (.pair (.int .i64) (.pair (.int .i64) (.pair (.sl (.flt .f32)) (.pair (.sl (.flt .f32)) (.sl (.flt .f32))))))) a0 0)), (1, .one (.dat (.sl (.int .i64)) a1)), (6, .one (.all 0)), (8, .one (.dat (.int .i64) s5.1))], [(0, .seq (.own (.flt .f32)) r13)], 1⟩) hP hN (by kernel_rfl) allNil (qLoopN ⟨((wsub .i64 s5.1 (1 : Int)), r13), rfl, Le.cv (s := ⟨[(0, 0)], [], [], false⟩) (own := []) (ps := [a0 = a0, a1 = a1, (wsub .i64 s5.1 (1 : Int)) = (wsub .i64 s5.1 (1 : Int)), r13 = r13]) (st' := ⟨[(0, .one (.ip (.st (.pair (.int .i64) (.pair (.int .i64) (.pair (.sl (.flt .f32)) (.pair (.sl (.flt .f32)) (.sl (.flt .f32))))))) a0 0)), (1, .one (.dat (.sl (.int .i64)) a1)), (6, .one (.all 0)), (8, .one (.dat (.int .i64) (wsub .i64 s5.1 (1 : Int))))], [(0, .seq (.own (.flt .f32)) r13)], 1⟩) hO (fun h => by cases h) (by kernel_rfl) ⟨rfl, rfl, rfl, rfl, trivial⟩⟩)
        · refine HT.seq ?_
          refine HT.reg1 [0, 1, 6, 8, 9, 45] [⟨none, .no⟩, ⟨none, .no⟩, ⟨none, .no⟩, ⟨none, .no⟩, ⟨none, .no⟩, ⟨none, .no⟩] ⟨[(0, .one (.ip (.st (.pair (.int .i64) (.pair (.int .i64) (.pair (.sl (.flt .f32)) (.pair (.sl (.flt .f32)) (.sl (.flt .f32))))))) a0 0)), (1, .one (.dat (.sl (.int .i64)) a1)), (6, .one (.all 0)), (8, .one (.dat (.int .i64) s5.1)), (9, .one (.dat (.int .i64) s12.1)), (45, .one (.dat .bool (decide (s12.1 < a0.1))))], [(0, .seq (.own (.flt .f32)) s12.2)], 1⟩ hP hN (by kernel_rfl) allNil ?_
          rcases of_bif hx16 with ⟨hb18, hx16⟩ | ⟨hb18, hx16⟩
          · refine HT.cond1 rfl hb18 ?_
            refine HT.skip (qThen ?_)
            refine HT.seq ?_
            refine HT.block ?_
            refine HT.reg1 [0, 1, 6, 8, 9, 10] [⟨none, .no⟩] ⟨[(0, .one (.ip (.st (.pair (.int .i64) (.pair (.int .i64) (.pair (.sl (.flt .f32)) (.pair (.sl (.flt .f32)) (.sl (.flt .f32))))))) a0 0)), (1, .one (.dat (.sl (.int .i64)) a1)), (6, .one (.all 0)), (8, .one (.dat (.int .i64) s5.1)), (9, .one (.dat (.int .i64) s12.1)), (10, .one (.dat (.flt .f32) (0 : Nat)))], [(0, .seq (.own (.flt .f32)) s12.2)], 1⟩ hP hN (by kernel_rfl) allNil ?_
            refine HT.seq ?_
            refine HT.reg1 [0, 1, 6, 8, 9, 10, 11] [⟨none, .no⟩] ⟨[(0, .one (.ip (.st (.pair (.int .i64) (.pair (.int .i64) (.pair (.sl (.flt .f32)) (.pair (.sl (.flt .f32)) (.sl (.flt .f32))))))) a0 0)), (1, .one (.dat (.sl (.int .i64)) a1)), (6, .one (.all 0)), (8, .one (.dat (.int .i64) s5.1)), (9, .one (.dat (.int .i64) s12.1)), (10, .one (.dat (.flt .f32) (0 : Nat))), (11, .one (.dat (.int .i64) (0 : Int)))], [(0, .seq (.own (.flt .f32)) s12.2)], 1⟩ hP hN (by kernel_rfl) allNil ?_
            refine HT.block ?_
            obtain ⟨r20, hL33, hx16⟩ := of_bind hx16
            refine (Le.cv (s := ⟨[(0, 0)], [], [], false⟩) (own := []) (ps := [a0 = a0, a1 = a1, s5.1 = s5.1, s12.1 = s12.1, (0 : Nat) = (0 : Nat), (0 : Int) = (0 : Int), s12.2 = s12.2]) (st' := ⟨[(0, .one (.ip (.st (.pair (.int .i64) (.pair (.int .i64) (.pair (.sl (.flt .f32)) (.pair (.sl (.flt .f32)) (.sl (.flt .f32))))))) a0 0)), (1, .one (.dat (.sl (.int .i64)) a1)), (6, .one (.all 0)), (8, .one (.dat (.int .i64) s5.1)), (9, .one (.dat (.int .i64) s12.1)), (10, .one (.dat (.flt .f32) (0 : Nat))), (11, .one (.dat (.int .i64) (0 : Int)))], [(0, .seq (.own (.flt .f32)) s12.2)], 1⟩) hO (fun h => by cases h) (by kernel_rfl) ⟨rfl, rfl, rfl, rfl, rfl, rfl, rfl, trivial⟩).ht ?_
            refine HT.loopE (s := ((0 : Nat), (0 : Int))) (fun (s19 : Nat × Int) => ⟨[(0, .one (.ip (.st (.pair (.int .i64) (.pair (.int .i64) (.pair (.sl (.flt .f32)) (.pair (.sl (.flt .f32)) (.sl (.flt .f32))))))) a0 0)), (1, .one (.dat (.sl (.int .i64)) a1)), (6, .one (.all 0)), (8, .one (.dat (.int .i64) s5.1)), (9, .one (.dat (.int .i64) s12.1)), (10, .one (.dat (.flt .f32) s19.1)), (11, .one (.dat (.int .i64) s19.2))], [(0, .seq (.own (.flt .f32)) s12.2)], 1⟩) (fun (r21 : Nat) => (.exit 6, ⟨[(0, .one (.ip (.st (.pair (.int .i64) (.pair (.int .i64) (.pair (.sl (.flt .f32)) (.pair (.sl (.flt .f32)) (.sl (.flt .f32))))))) a0 0)), (1, .one (.dat (.sl (.int .i64)) a1)), (6, .one (.all 0)), (8, .one (.dat (.int .i64) s5.1)), (9, .one (.dat (.int .i64) s12.1)), (10, .one (.dat (.flt .f32) r21))], [(0, .seq (.own (.flt .f32)) s12.2)], 1⟩)) hL33 ?_ (fun s19 x24 hx25 hk26 => ?_)
            · refine (qBlockX (qThen ?_))
              obtain ⟨hg22, hx16⟩ := of_guard hx16
              obtain ⟨hg23, hx16⟩ := of_guard hx16
              refine HT.regC (rs := [⟨none, .no⟩, ⟨none, .no⟩, ⟨none, .no⟩, ⟨none, .no⟩, ⟨none, .no⟩, ⟨none, .opn⟩, ⟨none, .no⟩, ⟨none, .ty (.flt .f32)⟩, ⟨none, .ty (.flt .f32)⟩, ⟨none, .no⟩, ⟨none, .no⟩]) ⟨[(108, .one (.elp 0 (Int.toNat s5.1) 1 0)), (107, .one (.all 3)), (106, .one (.all 2)), (105, .one (.dat (.flt .f32) r20)), (104, .one (.all 1)), (103, .one (.elp 0 (Int.toNat s5.1) 1 0)), (102, .one (.dat (.int .i64) s5.1)), (101, .one (.all 0)), (100, .one (.dat (.int .i64) s5.1)), (99, .one (.all 0)), (0, .one (.ip (.st (.pair (.int .i64) (.pair (.int .i64) (.pair (.sl (.flt .f32)) (.pair (.sl (.flt .f32)) (.sl (.flt .f32))))))) a0 0)), (1, .one (.dat (.sl (.int .i64)) a1)), (6, .one (.all 0)), (8, .one (.dat (.int .i64) s5.1)), (9, .one (.dat (.int .i64) s12.1)), (10, .one (.dat (.flt .f32) r20))], [(0, .opn (.own (.flt .f32)) s12.2 (Int.toNat s5.1) [.all 3] [1]), (1, .gone), (3, .seq (.flt .f32) ((List.getD s12.2 (Int.toNat s5.1) ([] : List Nat)) ++ ([r20] : List Nat))), (2, .seq (.flt .f32) ([r20] : List Nat)), (0, .opn (.own (.flt .f32)) s12.2 (Int.toNat s5.1) [.all 1] [1]), (1, .seq (.flt .f32) (List.getD s12.2 (Int.toNat s5.1) ([] : List Nat))), (0, .seq (.own (.flt .f32)) s12.2)], 4⟩ hP hN (by kernel_rfl) (allCons hg22 (allCons (natLt hg22) (allCons hg23 (allCons hg22 (allCons (show Int.toNat s5.1 = Int.toNat s5.1 from rfl) allNil))))) (Le.close (own := []) 0 (st' := ⟨[(108, .one (.elp 0 (Int.toNat s5.1) 1 0)), (107, .one (.all 3)), (106, .one (.all 2)), (105, .one (.dat (.flt .f32) r20)), (104, .one (.all 1)), (103, .one (.elp 0 (Int.toNat s5.1) 1 0)), (102, .one (.dat (.int .i64) s5.1)), (101, .one (.all 0)), (100, .one (.dat (.int .i64) s5.1)), (99, .one (.all 0)), (0, .one (.ip (.st (.pair (.int .i64) (.pair (.int .i64) (.pair (.sl (.flt .f32)) (.pair (.sl (.flt .f32)) (.sl (.flt .f32))))))) a0 0)), (1, .one (.dat (.sl (.int .i64)) a1)), (6, .one (.all 0)), (8, .one (.dat (.int .i64) s5.1)), (9, .one (.dat (.int .i64) s12.1)), (10, .one (.dat (.flt .f32) r20))], [(0, .seq (.own (.flt .f32)) (List.set s12.2 (Int.toNat s5.1) ((List.getD s12.2 (Int.toNat s5.1) ([] : List Nat)) ++ ([r20] : List Nat)))), (3, .gone), (1, .gone), (2, .seq (.flt .f32) ([r20] : List Nat)), (1, .seq (.flt .f32) (List.getD s12.2 (Int.toNat s5.1) ([] : List Nat)))], 4⟩) hO (by kernel_rfl)) (qBlock (qThen ?_))
              have hx16 := of_some hx16
              subst hx16
              refine HT.reg (rs := [⟨none, .no⟩, ⟨none, .no⟩, ⟨none, .no⟩]) (st' := ⟨[(9, .one (.dat (.int .i64) (wadd .i64 s12.1 (1 : Int)))), (47, .one (.dat (.int .i64) (wadd .i64 s12.1 (1 : Int)))), (46, .one (.dat (.int .i64) s12.1)), (108, .one (.elp 0 (Int.toNat s5.1) 1 0)), (107, .one (.all 3)), (106, .one (.all 2)), (105, .one (.dat (.flt .f32) r20)), (104, .one (.all 1)), (103, .one (.elp 0 (Int.toNat s5.1) 1 0)), (102, .one (.dat (.int .i64) s5.1)), (101, .one (.all 0)), (100, .one (.dat (.int .i64) s5.1)), (99, .one (.all 0)), (0, .one (.ip (.st (.pair (.int .i64) (.pair (.int .i64) (.pair (.sl (.flt .f32)) (.pair (.sl (.flt .f32)) (.sl (.flt .f32))))))) a0 0)), (1, .one (.dat (.sl (.int .i64)) a1)), (6, .one (.all 0)), (8, .one (.dat (.int .i64) s5.1)), (9, .one (.dat (.int .i64) s12.1)), (10, .one (.dat (.flt .f32) r20))], [(0, .seq (.own (.flt .f32)) (List.set s12.2 (Int.toNat s5.1) ((List.getD s12.2 (Int.toNat s5.1) ([] : List Nat)) ++ ([r20] : List Nat)))), (3, .gone), (1, .gone), (2, .seq (.flt .f32) ([r20] : List Nat)), (1, .seq (.flt .f32) (List.getD s12.2 (Int.toNat s5.1) ([] : List Nat)))], 4⟩) hP hN (by kernel_rfl) allNil (qLoopN ⟨((wadd .i64 s12.1 (1 : Int)), (List.set s12.2 (Int.toNat s5.1) ((List.getD s12.2 (Int.toNat s5.1) ([] : List Nat)) ++ ([r20] : List Nat)))), rfl, Le.cv (s := ⟨[(0, 0)], [], [], false⟩) (own := []) (ps := [a0 = a0, a1 = a1, s5.1 = s5.1, (wadd .i64 s12.1 (1 : Int)) = (wadd .i64 s12.1 (1 : Int)), (List.set s12.2 (Int.toNat s5.1) ((List.getD s12.2 (Int.toNat s5.1) ([] : List Nat)) ++ ([r20] : List Nat))) = (List.set s12.2 (Int.toNat s5.1) ((List.getD s12.2 (Int.toNat s5.1) ([] : List Nat)) ++ ([r20] : List Nat)))]) (st' := ⟨[(0, .one (.ip (.st (.pair (.int .i64) (.pair (.int .i64) (.pair (.sl (.flt .f32)) (.pair (.sl (.flt .f32)) (.sl (.flt .f32))))))) a0 0)), (1, .one (.dat (.sl (.int .i64)) a1)), (6, .one (.all 0)), (8, .one (.dat (.int .i64) s5.1)), (9, .one (.dat (.int .i64) (wadd .i64 s12.1 (1 : Int))))], [(0, .seq (.own (.flt .f32)) (List.set s12.2 (Int.toNat s5.1) ((List.getD s12.2 (Int.toNat s5.1) ([] : List Nat)) ++ ([r20] : List Nat))))], 1⟩) hO (fun h => by cases h) (by kernel_rfl) ⟨rfl, rfl, rfl, rfl, rfl, trivial⟩⟩)
            · refine HT.seq ?_
              refine HT.reg1 [0, 1, 6, 8, 9, 10, 11, 53] [⟨none, .no⟩, ⟨none, .no⟩, ⟨none, .no⟩, ⟨none, .no⟩, ⟨none, .no⟩, ⟨none, .no⟩] ⟨[(0, .one (.ip (.st (.pair (.int .i64) (.pair (.int .i64) (.pair (.sl (.flt .f32)) (.pair (.sl (.flt .f32)) (.sl (.flt .f32))))))) a0 0)), (1, .one (.dat (.sl (.int .i64)) a1)), (6, .one (.all 0)), (8, .one (.dat (.int .i64) s5.1)), (9, .one (.dat (.int .i64) s12.1)), (10, .one (.dat (.flt .f32) s19.1)), (11, .one (.dat (.int .i64) s19.2)), (53, .one (.dat .bool (decide (s19.2 < a0.1))))], [(0, .seq (.own (.flt .f32)) s12.2)], 1⟩ hP hN (by kernel_rfl) allNil ?_
              rcases of_bif hx25 with ⟨hb27, hx25⟩ | ⟨hb27, hx25⟩
              · refine HT.cond1 rfl hb27 ?_
                refine HT.skip (qThen ?_)
                refine HT.seq ?_
                refine HT.block ?_
                obtain ⟨hg28, hx25⟩ := of_guard hx25
                obtain ⟨hg29, hx25⟩ := of_guard hx25
                obtain ⟨hg30, hx25⟩ := of_guard hx25
                obtain ⟨hg31, hx25⟩ := of_guard hx25
                obtain ⟨hg32, hx25⟩ := of_guard hx25
                refine drawS (h := 42) (hrs := [⟨⟨none, .no⟩, []⟩, ⟨⟨none, .no⟩, []⟩, ⟨⟨none, .no⟩, [1]⟩, ⟨⟨none, .no⟩, [1, 2]⟩, ⟨⟨none, .no⟩, [1, 2, 3]⟩, ⟨⟨none, .no⟩, []⟩, ⟨⟨none, .no⟩, []⟩, ⟨⟨none, .no⟩, [6]⟩, ⟨⟨none, .no⟩, [6, 7]⟩, ⟨⟨none, .no⟩, [6, 7, 8]⟩, ⟨⟨none, .no⟩, [5, 6, 7, 8, 9]⟩, ⟨⟨none, .no⟩, []⟩, ⟨⟨none, .no⟩, []⟩, ⟨⟨none, .no⟩, [11, 12]⟩, ⟨⟨none, .no⟩, [11, 12, 13]⟩, ⟨⟨none, .no⟩, [5, 6, 7, 8, 9, 10, 11, 12, 13, 14]⟩, ⟨⟨none, .no⟩, [1, 2, 3, 4, 5, 6, 7, 8, 9, 10, 11, 12, 13, 14, 15]⟩, ⟨⟨none, .no⟩, [1, 2, 3, 4, 5, 6, 7, 8, 9, 10, 11, 12, 13, 14, 15, 16]⟩, ⟨⟨none, .no⟩, []⟩, ⟨⟨none, .no⟩, [18]⟩, ⟨⟨none, .no⟩, [18, 19]⟩, ⟨⟨none, .no⟩, [18, 19, 20]⟩, ⟨⟨none, .no⟩, []⟩, ⟨⟨none, .no⟩, []⟩, ⟨⟨none, .no⟩, [23]⟩, ⟨⟨none, .no⟩, [23, 24]⟩, ⟨⟨none, .no⟩, [23, 24, 25]⟩, ⟨⟨none, .no⟩, [22, 23, 24, 25, 26]⟩, ⟨⟨none, .no⟩, []⟩, ⟨⟨none, .no⟩, [22, 23, 24, 25, 26, 27, 28]⟩, ⟨⟨none, .no⟩, [18, 19, 20, 21, 22, 23, 24, 25, 26, 27, 28, 29]⟩, ⟨⟨none, .no⟩, [18, 19, 20, 21, 22, 23, 24, 25, 26, 27, 28, 29, 30]⟩, ⟨⟨none, .no⟩, [1, 2, 3, 4, 5, 6, 7, 8, 9, 10, 11, 12, 13, 14, 15, 16, 17, 18, 19, 20, 21, 22, 23, 24, 25, 26, 27, 28, 29, 30, 31]⟩, ⟨⟨none, .no⟩, []⟩, ⟨⟨none, .no⟩, []⟩, ⟨⟨none, .no⟩, [34]⟩, ⟨⟨none, .no⟩, [33, 34, 35]⟩, ⟨⟨none, .no⟩, [33, 34, 35, 36]⟩, ⟨⟨none, .no⟩, []⟩, ⟨⟨none, .no⟩, [33, 34, 35, 36, 37, 38]⟩, ⟨⟨none, .no⟩, [33, 34, 35, 36, 37, 38, 39]⟩, ⟨⟨none, .no⟩, [1, 2, 3, 4, 5, 6, 7, 8, 9, 10, 11, 12, 13, 14, 15, 16, 17, 18, 19, 20, 21, 22, 23, 24, 25, 26, 27, 28, 29, 30, 31, 32, 33, 34, 35, 36, 37, 38, 39, 40]⟩]) (tds := [[0, 1, 2, 3, 4, 5, 6, 7, 8, 9, 10, 11, 12, 13, 14, 15, 16, 17, 18, 19, 20, 21, 22, 23, 24, 25, 26, 27, 28, 29, 30, 31, 32, 33, 34, 35, 36, 37, 38, 39, 40, 41], [0, 1, 2, 3, 4, 5, 6, 7, 8, 9, 10, 11, 12, 13, 14, 15, 16, 17, 18, 19, 20, 21, 22, 23, 24, 25, 26, 27, 28, 29, 30, 31, 32, 33, 34, 35, 36, 37, 38, 39, 40, 41, 42]]) (rs := [⟨none, .no⟩, ⟨none, .no⟩]) (st' := ⟨[(10, .one (.dat (.flt .f32) (fop .add .f32 s19.1 (fop .mul .f32 (fop .mul .f32 (List.getD a0.2.2.2.2 (Int.toNat (wadd .i64 (wmul .i64 s12.1 a0.2.1) (List.getD a1 (Int.toNat s5.1) (0 : Int)))) (0 : Nat)) (List.getD a0.2.2.2.1 (Int.toNat (wadd .i64 (wmul .i64 s12.1 a0.1) s19.2)) (0 : Nat))) (List.getD (List.getD s12.2 (Int.toNat (wadd .i64 s5.1 (1 : Int))) ([] : List Nat)) (Int.toNat s19.2) (0 : Nat)))))), (98, .one (.dat (.flt .f32) (fop .add .f32 s19.1 (fop .mul .f32 (fop .mul .f32 (List.getD a0.2.2.2.2 (Int.toNat (wadd .i64 (wmul .i64 s12.1 a0.2.1) (List.getD a1 (Int.toNat s5.1) (0 : Int)))) (0 : Nat)) (List.getD a0.2.2.2.1 (Int.toNat (wadd .i64 (wmul .i64 s12.1 a0.1) s19.2)) (0 : Nat))) (List.getD (List.getD s12.2 (Int.toNat (wadd .i64 s5.1 (1 : Int))) ([] : List Nat)) (Int.toNat s19.2) (0 : Nat)))))), (97, .one (.dat (.flt .f32) (fop .mul .f32 (fop .mul .f32 (List.getD a0.2.2.2.2 (Int.toNat (wadd .i64 (wmul .i64 s12.1 a0.2.1) (List.getD a1 (Int.toNat s5.1) (0 : Int)))) (0 : Nat)) (List.getD a0.2.2.2.1 (Int.toNat (wadd .i64 (wmul .i64 s12.1 a0.1) s19.2)) (0 : Nat))) (List.getD (List.getD s12.2 (Int.toNat (wadd .i64 s5.1 (1 : Int))) ([] : List Nat)) (Int.toNat s19.2) (0 : Nat))))), (96, .one (.dat (.flt .f32) (List.getD (List.getD s12.2 (Int.toNat (wadd .i64 s5.1 (1 : Int))) ([] : List Nat)) (Int.toNat s19.2) (0 : Nat)))), (95, .one (.rlp 0 (Int.toNat (wadd .i64 s5.1 (1 : Int))) 0 (Int.toNat s19.2) 1 0)), (94, .one (.dat (.int .i64) s19.2)), (93, .one (.row 0 (Int.toNat (wadd .i64 s5.1 (1 : Int))) 0)), (92, .one (.elp 0 (Int.toNat (wadd .i64 s5.1 (1 : Int))) 1 0)), (91, .one (.dat (.int .i64) (wadd .i64 s5.1 (1 : Int)))), (90, .one (.dat (.int .i64) s5.1)), (89, .one (.all 0)), (88, .one (.dat (.flt .f32) (fop .mul .f32 (List.getD a0.2.2.2.2 (Int.toNat (wadd .i64 (wmul .i64 s12.1 a0.2.1) (List.getD a1 (Int.toNat s5.1) (0 : Int)))) (0 : Nat)) (List.getD a0.2.2.2.1 (Int.toNat (wadd .i64 (wmul .i64 s12.1 a0.1) s19.2)) (0 : Nat))))), (87, .one (.dat (.flt .f32) (List.getD a0.2.2.2.1 (Int.toNat (wadd .i64 (wmul .i64 s12.1 a0.1) s19.2)) (0 : Nat)))), (86, .one (.ip (.flt .f32) (List.getD a0.2.2.2.1 (Int.toNat (wadd .i64 (wmul .i64 s12.1 a0.1) s19.2)) (0 : Nat)) 0)), (85, .one (.dat (.int .i64) (wadd .i64 (wmul .i64 s12.1 a0.1) s19.2))), (84, .one (.dat (.int .i64) s19.2)), (83, .one (.dat (.int .i64) (wmul .i64 s12.1 a0.1))), (82, .one (.dat (.int .i64) a0.1)), (81, .one (.ip (.st (.pair (.int .i64) (.pair (.int .i64) (.pair (.sl (.flt .f32)) (.pair (.sl (.flt .f32)) (.sl (.flt .f32))))))) a0 0)), (80, .one (.ip (.st (.pair (.int .i64) (.pair (.int .i64) (.pair (.sl (.flt .f32)) (.pair (.sl (.flt .f32)) (.sl (.flt .f32))))))) a0 0)), (79, .one (.ip (.st (.pair (.int .i64) (.pair (.int .i64) (.pair (.sl (.flt .f32)) (.pair (.sl (.flt .f32)) (.sl (.flt .f32))))))) a0 0)), (78, .one (.dat (.int .i64) s12.1)), (77, .one (.dat (.sl (.flt .f32)) a0.2.2.2.1)), (76, .one (.ip (.st (.pair (.int .i64) (.pair (.int .i64) (.pair (.sl (.flt .f32)) (.pair (.sl (.flt .f32)) (.sl (.flt .f32))))))) a0 3)), (75, .one (.ip (.st (.pair (.int .i64) (.pair (.int .i64) (.pair (.sl (.flt .f32)) (.pair (.sl (.flt .f32)) (.sl (.flt .f32))))))) a0 0)), (74, .one (.ip (.st (.pair (.int .i64) (.pair (.int .i64) (.pair (.sl (.flt .f32)) (.pair (.sl (.flt .f32)) (.sl (.flt .f32))))))) a0 0)), (73, .one (.dat (.flt .f32) (List.getD a0.2.2.2.2 (Int.toNat (wadd .i64 (wmul .i64 s12.1 a0.2.1) (List.getD a1 (Int.toNat s5.1) (0 : Int)))) (0 : Nat)))), (72, .one (.ip (.flt .f32) (List.getD a0.2.2.2.2 (Int.toNat (wadd .i64 (wmul .i64 s12.1 a0.2.1) (List.getD a1 (Int.toNat s5.1) (0 : Int)))) (0 : Nat)) 0)), (71, .one (.dat (.int .i64) (wadd .i64 (wmul .i64 s12.1 a0.2.1) (List.getD a1 (Int.toNat s5.1) (0 : Int))))), (70, .one (.dat (.int .i64) (List.getD a1 (Int.toNat s5.1) (0 : Int)))), (69, .one (.ip (.int .i64) (List.getD a1 (Int.toNat s5.1) (0 : Int)) 0)), (68, .one (.dat (.int .i64) s5.1)), (67, .one (.dat (.sl (.int .i64)) a1)), (66, .one (.dat (.int .i64) (wmul .i64 s12.1 a0.2.1))), (65, .one (.dat (.int .i64) a0.2.1)), (64, .one (.ip (.st (.pair (.int .i64) (.pair (.int .i64) (.pair (.sl (.flt .f32)) (.pair (.sl (.flt .f32)) (.sl (.flt .f32))))))) a0 1)), (63, .one (.ip (.st (.pair (.int .i64) (.pair (.int .i64) (.pair (.sl (.flt .f32)) (.pair (.sl (.flt .f32)) (.sl (.flt .f32))))))) a0 0)), (62, .one (.ip (.st (.pair (.int .i64) (.pair (.int .i64) (.pair (.sl (.flt .f32)) (.pair (.sl (.flt .f32)) (.sl (.flt .f32))))))) a0 0)), (61, .one (.dat (.int .i64) s12.1)), (60, .one (.dat (.sl (.flt .f32)) a0.2.2.2.2)), (59, .one (.ip (.st (.pair (.int .i64) (.pair (.int .i64) (.pair (.sl (.flt .f32)) (.pair (.sl (.flt .f32)) (.sl (.flt .f32))))))) a0 4)), (58, .one (.ip (.st (.pair (.int .i64) (.pair (.int .i64) (.pair (.sl (.flt .f32)) (.pair (.sl (.flt .f32)) (.sl (.flt .f32))))))) a0 0)), (57, .one (.ip (.st (.pair (.int .i64) (.pair (.int .i64) (.pair (.sl (.flt .f32)) (.pair (.sl (.flt .f32)) (.sl (.flt .f32))))))) a0 0)), (56, .one (.dat (.flt .f32) s19.1)), (0, .one (.ip (.st (.pair (.int .i64) (.pair (.int .i64) (.pair (.sl (.flt .f32)) (.pair (.sl (.flt .f32)) (.sl (.flt .f32))))))) a0 0)), (1, .one (.dat (.sl (.int .i64)) a1)), (6, .one (.all 0)), (8, .one (.dat (.int .i64) s5.1)), (9, .one (.dat (.int .i64) s12.1)), (10, .one (.dat (.flt .f32) s19.1)), (11, .one (.dat (.int .i64) s19.2)), (53, .one (.dat .bool (decide (s19.2 < a0.1))))], [(0, .seq (.own (.flt .f32)) s12.2)], 1⟩) hP hN (by kernel_rfl) (by kernel_rfl) (allCons hg28 (allCons hg29 (allCons hg30 (allCons hg31 (allCons (natLt hg31) (allCons hg32 (allCons (natLt hg32) allNil))))))) (qBlock (qThen ?_))
                have hx25 := of_some hx25
                subst hx25
                refine HT.reg (rs := [⟨none, .no⟩, ⟨none, .no⟩, ⟨none, .no⟩]) (st' := ⟨[(11, .one (.dat (.int .i64) (wadd .i64 s19.2 (1 : Int)))), (55, .one (.dat (.int .i64) (wadd .i64 s19.2 (1 : Int)))), (54, .one (.dat (.int .i64) s19.2)), (10, .one (.dat (.flt .f32) (fop .add .f32 s19.1 (fop .mul .f32 (fop .mul .f32 (List.getD a0.2.2.2.2 (Int.toNat (wadd .i64 (wmul .i64 s12.1 a0.2.1) (List.getD a1 (Int.toNat s5.1) (0 : Int)))) (0 : Nat)) (List.getD a0.2.2.2.1 (Int.toNat (wadd .i64 (wmul .i64 s12.1 a0.1) s19.2)) (0 : Nat))) (List.getD (List.getD s12.2 (Int.toNat (wadd .i64 s5.1 (1 : Int))) ([] : List Nat)) (Int.toNat s19.2) (0 : Nat)))))), (98, .one (.dat (.flt .f32) (fop .add .f32 s19.1 (fop .mul .f32 (fop .mul .f32 (List.getD a0.2.2.2.2 (Int.toNat (wadd .i64 (wmul .i64 s12.1 a0.2.1) (List.getD a1 (Int.toNat s5.1) (0 : Int)))) (0 : Nat)) (List.getD a0.2.2.2.1 (Int.toNat (wadd .i64 (wmul .i64 s12.1 a0.1) s19.2)) (0 : Nat))) (List.getD (List.getD s12.2 (Int.toNat (wadd .i64 s5.1 (1 : Int))) ([] : List Nat)) (Int.toNat s19.2) (0 : Nat)))))), (97, .one (.dat (.flt .f32) (fop .mul .f32 (fop .mul .f32 (List.getD a0.2.2.2.2 (Int.toNat (wadd .i64 (wmul .i64 s12.1 a0.2.1) (List.getD a1 (Int.toNat s5.1) (0 : Int)))) (0 : Nat)) (List.getD a0.2.2.2.1 (Int.toNat (wadd .i64 (wmul .i64 s12.1 a0.1) s19.2)) (0 : Nat))) (List.getD (List.getD s12.2 (Int.toNat (wadd .i64 s5.1 (1 : Int))) ([] : List Nat)) (Int.toNat s19.2) (0 : Nat))))), (96, .one (.dat (.flt .f32) (List.getD (List.getD s12.2 (Int.toNat (wadd .i64 s5.1 (1 : Int))) ([] : List Nat)) (Int.toNat s19.2) (0 : Nat)))), (95, .one (.rlp 0 (Int.toNat (wadd .i64 s5.1 (1 : Int))) 0 (Int.toNat s19.2) 1 0)), (94, .one (.dat (.int .i64) s19.2)), (93, .one (.row 0 (Int.toNat (wadd .i64 s5.1 (1 : Int))) 0)), (92, .one (.elp 0 (Int.toNat (wadd .i64 s5.1 (1 : Int))) 1 0)), (91, .one (.dat (.int .i64) (wadd .i64 s5.1 (1 : Int)))), (90, .one (.dat (.int .i64) s5.1)), (89, .one (.all 0)), (88, .one (.dat (.flt .f32) (fop .mul .f32 (List.getD a0.2.2.2.2 (Int.toNat (wadd .i64 (wmul .i64 s12.1 a0.2.1) (List.getD a1 (Int.toNat s5.1) (0 : Int)))) (0 : Nat)) (List.getD a0.2.2.2.1 (Int.toNat (wadd .i64 (wmul .i64 s12.1 a0.1) s19.2)) (0 : Nat))))), (87, .one (.dat (.flt .f32) (List.getD a0.2.2.2.1 (Int.toNat (wadd .i64 (wmul .i64 s12.1 a0.1) s19.2)) (0 : Nat)))), (86, .one (.ip (.flt .f32) (List.getD a0.2.2.2.1 (Int.toNat (wadd .i64 (wmul .i64 s12.1 a0.1) s19.2)) (0 : Nat)) 0)), (85, .one (.dat (.int .i64) (wadd .i64 (wmul .i64 s12.1 a0.1) s19.2))), (84, .one (.dat (.int .i64) s19.2)), (83, .one (.dat (.int .i64) (wmul .i64 s12.1 a0.1))), (82, .one (.dat (.int .i64) a0.1)), (81, .one (.ip (.st (.pair (.int .i64) (.pair (.int .i64) (.pair (.sl (.flt .f32)) (.pair (.sl (.flt .f32)) (.sl (.flt .f32))))))) a0 0)), (80, .one (.ip (.st (.pair (.int .i64) (.pair (.int .i64) (.pair (.sl (.flt .f32)) (.pair (.sl (.flt .f32)) (.sl (.flt .f32))))))) a0 0)), (79, .one (.ip (.st (.pair (.int .i64) (.pair (.int .i64) (.pair (.sl (.flt .f32)) (.pair (.sl (.flt .f32)) (.sl (.flt .f32))))))) a0 0)), (78, .one (.dat (.int .i64) s12.1)), (77, .one (.dat (.sl (.flt .f32)) a0.2.2.2.1)), (76, .one (.ip (.st (.pair (.int .i64) (.pair (.int .i64) (.pair (.sl (.flt .f32)) (.pair (.sl (.flt .f32)) (.sl (.flt .f32))))))) a0 3)), (75, .one (.ip (.st (.pair (.int .i64) (.pair (.int .i64) (.pair (.sl (.flt .f32)) (.pair (.sl (.flt .f32)) (.sl (.flt .f32))))))) a0 0)), (74, .one (.ip (.st (.pair (.int .i64) (.pair (.int .i64) (.pair (.sl (.flt .f32)) (.pair (.sl (.flt .f32)) (.sl (.flt .f32))))))) a0 0)), (73, .one (.dat (.flt .f32) (List.getD a0.2.2.2.2 (Int.toNat (wadd .i64 (wmul .i64 s12.1 a0.2.1) (List.getD a1 (Int.toNat s5.1) (0 : Int)))) (0 : Nat)))), (72, .one (.ip (.flt .f32) (List.getD a0.2.2.2.2 (Int.toNat (wadd .i64 (wmul .i64 s12.1 a0.2.1) (List.getD a1 (Int.toNat s5.1) (0 : Int)))) (0 : Nat)) 0)), (71, .one (.dat (.int .i64) (wadd .i64 (wmul .i64 s12.1 a0.2.1) (List.getD a1 (Int.toNat s5.1) (0 : Int))))), (70, .one (.dat (.int .i64) (List.getD a1 (Int.toNat s5.1) (0 : Int)))), (69, .one (.ip (.int .i64) (List.getD a1 (Int.toNat s5.1) (0 : Int)) 0)), (68, .one (.dat (.int .i64) s5.1)), (67, .one (.dat (.sl (.int .i64)) a1)), (66, .one (.dat (.int .i64) (wmul .i64 s12.1 a0.2.1))), (65, .one (.dat (.int .i64) a0.2.1)), (64, .one (.ip (.st (.pair (.int .i64) (.pair (.int .i64) (.pair (.sl (.flt .f32)) (.pair (.sl (.flt .f32)) (.sl (.flt .f32))))))) a0 1)), (63, .one (.ip (.st (.pair (.int .i64) (.pair (.int .i64) (.pair (.sl (.flt .f32)) (.pair (.sl (.flt .f32)) (.sl (.flt .f32))))))) a0 0)), (62, .one (.ip (.st (.pair (.int .i64) (.pair (.int .i64) (.pair (.sl (.flt .f32)) (.pair (.sl (.flt .f32)) (.sl (.flt .f32))))))) a0 0)), (61, .one (.dat (.int .i64) s12.1)), (60, .one (.dat (.sl (.flt .f32)) a0.2.2.2.2)), (59, .one (.ip (.st (.pair (.int .i64) (.pair (.int .i64) (.pair (.sl (.flt .f32)) (.pair (.sl (.flt .f32)) (.sl (.flt .f32))))))) a0 4)), (58, .one (.ip (.st (.pair (.int .i64) (.pair (.int .i64) (.pair (.sl (.flt .f32)) (.pair (.sl (.flt .f32)) (.sl (.flt .f32))))))) a0 0)), (57, .one (.ip (.st (.pair (.int .i64) (.pair (.int .i64) (.pair (.sl (.flt .f32)) (.pair (.sl (.flt .f32)) (.sl (.flt .f32))))))) a0 0)), (56, .one (.dat (.flt .f32) s19.1)), (0, .one (.ip (.st (.pair (.int .i64) (.pair (.int .i64) (.pair (.sl (.flt .f32)) (.pair (.sl (.flt .f32)) (.sl (.flt .f32))))))) a0 0)), (1, .one (.dat (.sl (.int .i64)) a1)), (6, .one (.all 0)), (8, .one (.dat (.int .i64) s5.1)), (9, .one (.dat (.int .i64) s12.1)), (10, .one (.dat (.flt .f32) s19.1)), (11, .one (.dat (.int .i64) s19.2)), (53, .one (.dat .bool (decide (s19.2 < a0.1))))], [(0, .seq (.own (.flt .f32)) s12.2)], 1⟩) hP hN (by kernel_rfl) allNil (qLoopN ⟨((fop .add .f32 s19.1 (fop .mul .f32 (fop .mul .f32 (List.getD a0.2.2.2.2 (Int.toNat (wadd .i64 (wmul .i64 s12.1 a0.2.1) (List.getD a1 (Int.toNat s5.1) (0 : Int)))) (0 : Nat)) (List.getD a0.2.2.2.1 (Int.toNat (wadd .i64 (wmul .i64 s12.1 a0.1) s19.2)) (0 : Nat))) (List.getD (List.getD s12.2 (Int.toNat (wadd .i64 s5.1 (1 : Int))) ([] : List Nat)) (Int.toNat s19.2) (0 : Nat)))), (wadd .i64 s19.2 (1 : Int))), rfl, Le.cv (s := ⟨[(0, 0)], [], [], false⟩) (own := []) (ps := [a0 = a0, a1 = a1, s5.1 = s5.1, s12.1 = s12.1, (fop .add .f32 s19.1 (fop .mul .f32 (fop .mul .f32 (List.getD a0.2.2.2.2 (Int.toNat (wadd .i64 (wmul .i64 s12.1 a0.2.1) (List.getD a1 (Int.toNat s5.1) (0 : Int)))) (0 : Nat)) (List.getD a0.2.2.2.1 (Int.toNat (wadd .i64 (wmul .i64 s12.1 a0.1) s19.2)) (0 : Nat))) (List.getD (List.getD s12.2 (Int.toNat (wadd .i64 s5.1 (1 : Int))) ([] : List Nat)) (Int.toNat s19.2) (0 : Nat)))) = (fop .add .f32 s19.1 (fop .mul .f32 (fop .mul .f32 (List.getD a0.2.2.2.2 (Int.toNat (wadd .i64 (wmul .i64 s12.1 a0.2.1) (List.getD a1 (Int.toNat s5.1) (0 : Int)))) (0 : Nat)) (List.getD a0.2.2.2.1 (Int.toNat (wadd .i64 (wmul .i64 s12.1 a0.1) s19.2)) (0 : Nat))) (List.getD (List.getD s12.2 (Int.toNat (wadd .i64 s5.1 (1 : Int))) ([] : List Nat)) (Int.toNat s19.2) (0 : Nat)))), (wadd .i64 s19.2 (1 : Int)) = (wadd .i64 s19.2 (1 : Int)), s12.2 = s12.2]) (st' := ⟨[(0, .one (.ip (.st (.pair (.int .i64) (.pair (.int .i64) (.pair (.sl (.flt .f32)) (.pair (.sl (.flt .f32)) (.sl (.flt .f32))))))) a0 0)), (1, .one (.dat (.sl (.int .i64)) a1)), (6, .one (.all 0)), (8, .one (.dat (.int .i64) s5.1)), (9, .one (.dat (.int .i64) s12.1)), (10, .one (.dat (.flt .f32) (fop .add .f32 s19.1 (fop .mul .f32 (fop .mul .f32 (List.getD a0.2.2.2.2 (Int.toNat (wadd .i64 (wmul .i64 s12.1 a0.2.1) (List.getD a1 (Int.toNat s5.1) (0 : Int)))) (0 : Nat)) (List.getD a0.2.2.2.1 (Int.toNat (wadd .i64 (wmul .i64 s12.1 a0.1) s19.2)) (0 : Nat))) (List.getD (List.getD s12.2 (Int.toNat (wadd .i64 s5.1 (1 : Int))) ([] : List Nat)) (Int.toNat s19.2) (0 : Nat)))))), (11, .one (.dat (.int .i64) (wadd .i64 s19.2 (1 : Int))))], [(0, .seq (.own (.flt .f32)) s12.2)], 1⟩) hO (fun h => by cases h) (by kernel_rfl) ⟨rfl, rfl, rfl, rfl, rfl, rfl, rfl, trivial⟩⟩)
              · refine HT.cond0 rfl hb27 ?_
                have hx25 := of_some hx25
                subst hx25
                refine (Le.cv (s := ⟨[(0, 0)], [], [], false⟩) (own := []) (ps := [a0 = a0, a1 = a1, s5.1 = s5.1, s12.1 = s12.1, s19.1 = s19.1, s12.2 = s12.2]) (st' := ⟨[(0, .one (.ip (.st (.pair (.int .i64) (.pair (.int .i64) (.pair (.sl (.flt .f32)) (.pair (.sl (.flt .f32)) (.sl (.flt .f32))))))) a0 0)), (1, .one (.dat (.sl (.int .i64)) a1)), (6, .one (.all 0)), (8, .one (.dat (.int .i64) s5.1)), (9, .one (.dat (.int .i64) s12.1)), (10, .one (.dat (.flt .f32) s19.1))], [(0, .seq (.own (.flt .f32)) s12.2)], 1⟩) hO (fun h => by cases h) (by kernel_rfl) ⟨rfl, rfl, rfl, rfl, rfl, rfl, trivial⟩).ht ?_
                exact HT.exit (qThenE (qLoopE (hk26 s19.1 rfl)))
          · refine HT.cond0 rfl hb18 ?_
            have hx16 := of_some hx16
            subst hx16
            refine (Le.cv (s := ⟨[(0, 0)], [], [], false⟩) (own := []) (ps := [a0 = a0, a1 = a1, s5.1 = s5.1, s12.2 = s12.2]) (st' := ⟨[(0, .one (.ip (.st (.pair (.int .i64) (.pair (.int .i64) (.pair (.sl (.flt .f32)) (.pair (.sl (.flt .f32)) (.sl (.flt .f32))))))) a0 0)), (1, .one (.dat (.sl (.int .i64)) a1)), (6, .one (.all 0)), (8, .one (.dat (.int .i64) s5.1))], [(0, .seq (.own (.flt .f32)) s12.2)], 1⟩) hO (fun h => by cases h) (by kernel_rfl) ⟨rfl, rfl, rfl, rfl, trivial⟩).ht ?_
            exact HT.exit (qThenE (qLoopE (hk17 s12.2 rfl)))
      · refine HT.cond0 rfl hb11 ?_
        have hx9 := of_some hx9
        subst hx9
        refine (Le.cv (s := ⟨[(0, 0)], [], [], false⟩) (own := []) (ps := [s5.2 = s5.2]) (st' := ⟨[(6, .one (.all 0))], [(0, .seq (.own (.flt .f32)) s5.2)], 1⟩) hO (fun h => by cases h) (by kernel_rfl) ⟨rfl, trivial⟩).ht ?_
        exact HT.exit (qThenE (qLoopE (hk10 s5.2 rfl)))
  · refine HT.seq ?_
    refine HT.reg1 [0, 1, 5, 6, 7, 22] [⟨none, .no⟩, ⟨none, .no⟩, ⟨none, .no⟩, ⟨none, .no⟩, ⟨none, .no⟩, ⟨none, .no⟩] ⟨[(0, .one (.ip (.st (.pair (.int .i64) (.pair (.int .i64) (.pair (.sl (.flt .f32)) (.pair (.sl (.flt .f32)) (.sl (.flt .f32))))))) a0 0)), (1, .one (.dat (.sl (.int .i64)) a1)), (5, .one (.dat (.int .i64) (lenI a1))), (6, .one (.all 0)), (7, .one (.dat (.int .i64) s2.1)), (22, .one (.dat .bool (decide (s2.1 < a0.1))))], [(0, .seq (.own (.flt .f32)) s2.2)], 1⟩ hP hN (by kernel_rfl) allNil ?_
    rcases of_bif hx37 with ⟨hb39, hx37⟩ | ⟨hb39, hx37⟩
    · refine HT.cond1 rfl hb39 ?_
      refine HT.skip (qThen ?_)
      refine HT.seq ?_
      refine HT.block ?_
      obtain ⟨hg40, hx37⟩ := of_guard hx37
      obtain ⟨hg41, hx37⟩ := of_guard hx37
      refine HT.regC (rs := [⟨none, .no⟩, ⟨none, .no⟩, ⟨none, .no⟩, ⟨none, .no⟩, ⟨none, .no⟩, ⟨none, .opn⟩, ⟨none, .ty (.flt .f32)⟩, ⟨none, .ty (.flt .f32)⟩, ⟨none, .no⟩, ⟨none, .no⟩]) ⟨[(33, .one (.elp 0 (Int.toNat (lenI a1)) 1 0)), (32, .one (.all 3)), (31, .one (.all 2)), (30, .one (.all 1)), (29, .one (.elp 0 (Int.toNat (lenI a1)) 1 0)), (28, .one (.dat (.int .i64) (lenI a1))), (27, .one (.all 0)), (26, .one (.dat (.int .i64) (lenI a1))), (25, .one (.all 0)), (0, .one (.ip (.st (.pair (.int .i64) (.pair (.int .i64) (.pair (.sl (.flt .f32)) (.pair (.sl (.flt .f32)) (.sl (.flt .f32))))))) a0 0)), (1, .one (.dat (.sl (.int .i64)) a1)), (5, .one (.dat (.int .i64) (lenI a1))), (6, .one (.all 0)), (7, .one (.dat (.int .i64) s2.1)), (22, .one (.dat .bool (decide (s2.1 < a0.1))))], [(0, .opn (.own (.flt .f32)) s2.2 (Int.toNat (lenI a1)) [.all 3] [1]), (1, .gone), (3, .seq (.flt .f32) ((List.getD s2.2 (Int.toNat (lenI a1)) ([] : List Nat)) ++ ([(1065353216 : Nat)] : List Nat))), (2, .seq (.flt .f32) ([(1065353216 : Nat)] : List Nat)), (0, .opn (.own (.flt .f32)) s2.2 (Int.toNat (lenI a1)) [.all 1] [1]), (1, .seq (.flt .f32) (List.getD s2.2 (Int.toNat (lenI a1)) ([] : List Nat))), (0, .seq (.own (.flt .f32)) s2.2)], 4⟩ hP hN (by kernel_rfl) (allCons hg40 (allCons (natLt hg40) (allCons hg41 (allCons hg40 (allCons (show Int.toNat (lenI a1) = Int.toNat (lenI a1) from rfl) allNil))))) (Le.close (own := []) 0 (st' := ⟨[(33, .one (.elp 0 (Int.toNat (lenI a1)) 1 0)), (32, .one (.all 3)), (31, .one (.all 2)), (30, .one (.all 1)), (29, .one (.elp 0 (Int.toNat (lenI a1)) 1 0)), (28, .one (.dat (.int .i64) (lenI a1))), (27, .one (.all 0)), (26, .one (.dat (.int .i64) (lenI a1))), (25, .one (.all 0)), (0, .one (.ip (.st (.pair (.int .i64) (.pair (.int .i64) (.pair (.sl (.flt .f32)) (.pair (.sl (.flt .f32)) (.sl (.flt .f32))))))) a0 0)), (1, .one (.dat (.sl (.int .i64)) a1)), (5, .one (.dat (.int .i64) (lenI a1))), (6, .one (.all 0)), (7, .one (.dat (.int .i64) s2.1)), (22, .one (.dat .bool (decide (s2.1 < a0.1))))], [(0, .seq (.own (.flt .f32)) (List.set s2.2 (Int.toNat (lenI a1)) ((List.getD s2.2 (Int.toNat (lenI a1)) ([] : List Nat)) ++ ([(1065353216 : Nat)] : List Nat)))), (3, .gone), (1, .gone), (2, .seq (.flt .f32) ([(1065353216 : Nat)] : List Nat)), (1, .seq (.flt .f32) (List.getD s2.2 (Int.toNat (lenI a1)) ([] : List Nat)))], 4⟩) hO (by kernel_rfl)) (qBlock (qThen ?_))
      have hx37 := of_some hx37
      subst hx37
      refine HT.reg (rs := [⟨none, .no⟩, ⟨none, .no⟩, ⟨none, .no⟩]) (st' := ⟨[(7, .one (.dat (.int .i64) (wadd .i64 s2.1 (1 : Int)))), (24, .one (.dat (.int .i64) (wadd .i64 s2.1 (1 : Int)))), (23, .one (.dat (.int .i64) s2.1)), (33, .one (.elp 0 (Int.toNat (lenI a1)) 1 0)), (32, .one (.all 3)), (31, .one (.all 2)), (30, .one (.all 1)), (29, .one (.elp 0 (Int.toNat (lenI a1)) 1 0)), (28, .one (.dat (.int .i64) (lenI a1))), (27, .one (.all 0)), (26, .one (.dat (.int .i64) (lenI a1))), (25, .one (.all 0)), (0, .one (.ip (.st (.pair (.int .i64) (.pair (.int .i64) (.pair (.sl (.flt .f32)) (.pair (.sl (.flt .f32)) (.sl (.flt .f32))))))) a0 0)), (1, .one (.dat (.sl (.int .i64)) a1)), (5, .one (.dat (.int .i64) (lenI a1))), (6, .one (.all 0)), (7, .one (.dat (.int .i64) s2.1)), (22, .one (.dat .bool (decide (s2.1 < a0.1))))], [(0, .seq (.own (.flt .f32)) (List.set s2.2 (Int.toNat (lenI a1)) ((List.getD s2.2 (Int.toNat (lenI a1)) ([] : List Nat)) ++ ([(1065353216 : Nat)] : List Nat)))), (3, .gone), (1, .gone), (2, .seq (.flt .f32) ([(1065353216 : Nat)] : List Nat)), (1, .seq (.flt .f32) (List.getD s2.2 (Int.toNat (lenI a1)) ([] : List Nat)))], 4⟩) hP hN (by kernel_rfl) allNil (qLoopN ⟨((wadd .i64 s2.1 (1 : Int)), (List.set s2.2 (Int.toNat (lenI a1)) ((List.getD s2.2 (Int.toNat (lenI a1)) ([] : List Nat)) ++ ([(1065353216 : Nat)] : List Nat)))), rfl, Le.cv (s := ⟨[(0, 0)], [], [], false⟩) (own := []) (ps := [a0 = a0, a1 = a1, (lenI a1) = (lenI a1), (wadd .i64 s2.1 (1 : Int)) = (wadd .i64 s2.1 (1 : Int)), (List.set s2.2 (Int.toNat (lenI a1)) ((List.getD s2.2 (Int.toNat (lenI a1)) ([] : List Nat)) ++ ([(1065353216 : Nat)] : List Nat))) = (List.set s2.2 (Int.toNat (lenI a1)) ((List.getD s2.2 (Int.toNat (lenI a1)) ([] : List Nat)) ++ ([(1065353216 : Nat)] : List Nat)))]) (st' := ⟨[(0, .one (.ip (.st (.pair (.int .i64) (.pair (.int .i64) (.pair (.sl (.flt .f32)) (.pair (.sl (.flt .f32)) (.sl (.flt .f32))))))) a0 0)), (1, .one (.dat (.sl (.int .i64)) a1)), (5, .one (.dat (.int .i64) (lenI a1))), (6, .one (.all 0)), (7, .one (.dat (.int .i64) (wadd .i64 s2.1 (1 : Int))))], [(0, .seq (.own (.flt .f32)) (List.set s2.2 (Int.toNat (lenI a1)) ((List.getD s2.2 (Int.toNat (lenI a1)) ([] : List Nat)) ++ ([(1065353216 : Nat)] : List Nat))))], 1⟩) hO (fun h => by cases h) (by kernel_rfl) ⟨rfl, rfl, rfl, rfl, rfl, trivial⟩⟩)
    · refine HT.cond0 rfl hb39 ?_
      have hx37 := of_some hx37
      subst hx37
      refine (Le.cv (s := ⟨[(0, 0)], [], [], false⟩) (own := []) (ps := [a0 = a0, a1 = a1, (lenI a1) = (lenI a1), s2.2 = s2.2]) (st' := ⟨[(0, .one (.ip (.st (.pair (.int .i64) (.pair (.int .i64) (.pair (.sl (.flt .f32)) (.pair (.sl (.flt .f32)) (.sl (.flt .f32))))))) a0 0)), (1, .one (.dat (.sl (.int .i64)) a1)), (5, .one (.dat (.int .i64) (lenI a1))), (6, .one (.all 0))], [(0, .seq (.own (.flt .f32)) s2.2)], 1⟩) hO (fun h => by cases h) (by kernel_rfl) ⟨rfl, rfl, rfl, rfl, trivial⟩).ht ?_
      exact HT.exit (qThenE (qLoopE (hk38 s2.2 rfl)))

noncomputable def spec_l03Sum_B1 (a0 : List Nat) (s1 : Nat × Int) : Option ((Nat × Int) ⊕ (Nat)) :=
  bif (decide (s1.2 < (lenI a0))) then
    guardP ((0 : Int) ≤ s1.2 ∧ s1.2 < lenI a0) (
      some (.inl ((fop .add .f32 s1.1 (List.getD a0 (Int.toNat s1.2) (0 : Nat))), (wadd .i64 s1.2 (1 : Int)))))
  else
    some (.inr s1.1)

noncomputable def spec_l03Sum (a0 : List Nat) : Option (Nat) :=
  (rounds (spec_l03Sum_B1 a0) ((0 : Nat), (0 : Int))).bind fun r3 =>
  some r3

theorem f109_ok {a0 : List Nat} {r : Nat} (hr : spec_l03Sum a0 = some r) : CallOK Try.prog 109 [.imm (.sl (.flt .f32)) a0] [⟨false, (.flt .f32), r⟩] [] := by
  unfold spec_l03Sum at hr
  refine CallOK.of_body (ts := [(false, (.flt .f32))]) Try.func109 rfl (by kernel_rfl) (Nat.le_of_ble_eq_true (by kernel_rfl)) fun cx hP hN hO hF => ?_
  have hO : cx.own.map Prod.fst = [] := hO
  have hF := hF rfl
  show HT cx ⟨[(0, .one (.dat (.sl (.flt .f32)) a0))], [], 0⟩ _ _
  refine HT.reg1 [0] [⟨none, .no⟩] ⟨[(0, .one (.dat (.sl (.flt .f32)) a0))], [], 0⟩ hP hN (by kernel_rfl) allNil ?_
  refine HT.reg1 [0, 3] [⟨none, .no⟩] ⟨[(0, .one (.dat (.sl (.flt .f32)) a0)), (3, .one (.dat (.flt .f32) (0 : Nat)))], [], 0⟩ hP hN (by kernel_rfl) allNil ?_
  refine HT.seq ?_
  refine HT.reg1 [0, 3, 6, 7] [⟨none, .no⟩, ⟨none, .no⟩, ⟨none, .no⟩] ⟨[(0, .one (.dat (.sl (.flt .f32)) a0)), (3, .one (.dat (.flt .f32) (0 : Nat))), (6, .one (.dat (.int .i64) (lenI a0))), (7, .one (.dat (.int .i64) (0 : Int)))], [], 0⟩ hP hN (by kernel_rfl) allNil ?_
  refine HT.block ?_
  obtain ⟨r2, hL9, hr⟩ := of_bind hr
  refine (Le.cv (s := ⟨[], [], [], false⟩) (own := []) (ps := [a0 = a0, (0 : Nat) = (0 : Nat), (lenI a0) = (lenI a0), (0 : Int) = (0 : Int)]) (st' := ⟨[(0, .one (.dat (.sl (.flt .f32)) a0)), (3, .one (.dat (.flt .f32) (0 : Nat))), (6, .one (.dat (.int .i64) (lenI a0))), (7, .one (.dat (.int .i64) (0 : Int)))], [], 0⟩) hO (fun h => by cases h) (by kernel_rfl) ⟨rfl, rfl, rfl, rfl, trivial⟩).ht ?_
  refine HT.loopE (s := ((0 : Nat), (0 : Int))) (fun (s1 : Nat × Int) => ⟨[(0, .one (.dat (.sl (.flt .f32)) a0)), (3, .one (.dat (.flt .f32) s1.1)), (6, .one (.dat (.int .i64) (lenI a0))), (7, .one (.dat (.int .i64) s1.2))], [], 0⟩) (fun (r3 : Nat) => (.exit 0, ⟨[(3, .one (.dat (.flt .f32) r3))], [], 0⟩)) hL9 ?_ (fun s1 x4 hx5 hk6 => ?_)
  · refine (qBlockX (qThen ?_))
    refine HT.reg1 [2] [⟨none, .no⟩, ⟨none, .no⟩] ⟨[(2, .one (.dat (.flt .f32) r2))], [], 0⟩ hP hN (by kernel_rfl) allNil ?_
    have hr := of_some hr
    subst hr
    exact HT.ret ⟨[.one (.dat (.flt .f32) r2)], [], [], by kernel_rfl, by kernel_rfl, rfl, by kernel_rfl, by kernel_rfl, trivial⟩
  · refine HT.reg1 [0, 3, 6, 7, 8] [⟨none, .no⟩] ⟨[(0, .one (.dat (.sl (.flt .f32)) a0)), (3, .one (.dat (.flt .f32) s1.1)), (6, .one (.dat (.int .i64) (lenI a0))), (7, .one (.dat (.int .i64) s1.2)), (8, .one (.dat .bool (decide (s1.2 < (lenI a0)))))], [], 0⟩ hP hN (by kernel_rfl) allNil ?_
    refine HT.seq ?_
    rcases of_bif hx5 with ⟨hb7, hx5⟩ | ⟨hb7, hx5⟩
    · refine HT.cond1 rfl hb7 ?_
      refine HT.skip (qThen ?_)
      refine HT.seq ?_
      refine HT.block ?_
      refine HT.reg1 [0, 3, 4, 6, 7] [⟨none, .no⟩, ⟨none, .no⟩] ⟨[(0, .one (.dat (.sl (.flt .f32)) a0)), (3, .one (.dat (.flt .f32) s1.1)), (4, .one (.dat (.int .i64) s1.2)), (6, .one (.dat (.int .i64) (lenI a0))), (7, .one (.dat (.int .i64) s1.2))], [], 0⟩ hP hN (by kernel_rfl) allNil ?_
      obtain ⟨hg8, hx5⟩ := of_guard hx5
      refine HT.reg (rs := [⟨none, .no⟩, ⟨none, .no⟩, ⟨none, .no⟩, ⟨none, .no⟩, ⟨none, .no⟩, ⟨none, .no⟩, ⟨none, .no⟩]) (st' := ⟨[(3, .one (.dat (.flt .f32) (fop .add .f32 s1.1 (List.getD a0 (Int.toNat s1.2) (0 : Nat))))), (15, .one (.dat (.flt .f32) (fop .add .f32 s1.1 (List.getD a0 (Int.toNat s1.2) (0 : Nat))))), (14, .one (.dat (.flt .f32) (List.getD a0 (Int.toNat s1.2) (0 : Nat)))), (13, .one (.ip (.flt .f32) (List.getD a0 (Int.toNat s1.2) (0 : Nat)) 0)), (12, .one (.dat (.int .i64) s1.2)), (11, .one (.dat (.sl (.flt .f32)) a0)), (10, .one (.dat (.flt .f32) s1.1)), (0, .one (.dat (.sl (.flt .f32)) a0)), (3, .one (.dat (.flt .f32) s1.1)), (4, .one (.dat (.int .i64) s1.2)), (6, .one (.dat (.int .i64) (lenI a0))), (7, .one (.dat (.int .i64) s1.2))], [], 0⟩) hP hN (by kernel_rfl) (allCons hg8 allNil) (qBlock (qThen ?_))
      have hx5 := of_some hx5
      subst hx5
      refine HT.reg (rs := [⟨none, .no⟩, ⟨none, .no⟩]) (st' := ⟨[(7, .one (.dat (.int .i64) (wadd .i64 s1.2 (1 : Int)))), (16, .one (.dat (.int .i64) (wadd .i64 s1.2 (1 : Int)))), (3, .one (.dat (.flt .f32) (fop .add .f32 s1.1 (List.getD a0 (Int.toNat s1.2) (0 : Nat))))), (15, .one (.dat (.flt .f32) (fop .add .f32 s1.1 (List.getD a0 (Int.toNat s1.2) (0 : Nat))))), (14, .one (.dat (.flt .f32) (List.getD a0 (Int.toNat s1.2) (0 : Nat)))), (13, .one (.ip (.flt .f32) (List.getD a0 (Int.toNat s1.2) (0 : Nat)) 0)), (12, .one (.dat (.int .i64) s1.2)), (11, .one (.dat (.sl (.flt .f32)) a0)), (10, .one (.dat (.flt .f32) s1.1)), (0, .one (.dat (.sl (.flt .f32)) a0)), (3, .one (.dat (.flt .f32) s1.1)), (4, .one (.dat (.int .i64) s1.2)), (6, .one (.dat (.int .i64) (lenI a0))), (7, .one (.dat (.int .i64) s1.2))], [], 0⟩) hP hN (by kernel_rfl) allNil (qLoopN ⟨((fop .add .f32 s1.1 (List.getD a0 (Int.toNat s1.2) (0 : Nat))), (wadd .i64 s1.2 (1 : Int))), rfl, Le.cv (s := ⟨[], [], [], false⟩) (own := []) (ps := [a0 = a0, (fop .add .f32 s1.1 (List.getD a0 (Int.toNat s1.2) (0 : Nat))) = (fop .add .f32 s1.1 (List.getD a0 (Int.toNat s1.2) (0 : Nat))), (lenI a0) = (lenI a0), (wadd .i64 s1.2 (1 : Int)) = (wadd .i64 s1.2 (1 : Int))]) (st' := ⟨[(0, .one (.dat (.sl (.flt .f32)) a0)), (3, .one (.dat (.flt .f32) (fop .add .f32 s1.1 (List.getD a0 (Int.toNat s1.2) (0 : Nat))))), (6, .one (.dat (.int .i64) (lenI a0))), (7, .one (.dat (.int .i64) (wadd .i64 s1.2 (1 : Int))))], [], 0⟩) hO (fun h => by cases h) (by kernel_rfl) ⟨rfl, rfl, rfl, rfl, trivial⟩⟩)
    · refine HT.cond0 rfl hb7 ?_
      have hx5 := of_some hx5
      subst hx5
      refine (Le.cv (s := ⟨[], [], [], false⟩) (own := []) (ps := [s1.1 = s1.1]) (st' := ⟨[(3, .one (.dat (.flt .f32) s1.1))], [], 0⟩) hO (fun h => by cases h) (by kernel_rfl) ⟨rfl, trivial⟩).ht ?_
      exact HT.exit (qThenE (qLoopE (hk6 s1.1 rfl)))

noncomputable def spec_l01Finite (a0 : Nat) : Option (Bool) :=
  some (feq .f32 (fop .sub .f32 a0 a0) (0 : Nat))

theorem f131_ok {a0 : Nat} {r : Bool} (hr : spec_l01Finite a0 = some r) : CallOK Try.prog 131 [.imm (.flt .f32) a0] [⟨false, .bool, r⟩] [] := by
  unfold spec_l01Finite at hr
  refine CallOK.of_body (ts := [(false, .bool)]) Try.func131 rfl (by kernel_rfl) (Nat.le_of_ble_eq_true (by kernel_rfl)) fun cx hP hN hO hF => ?_
  have hO : cx.own.map Prod.fst = [] := hO
  have hF := hF rfl
  show HT cx ⟨[(0, .one (.dat (.flt .f32) a0))], [], 0⟩ _ _
  refine HT.reg1 [0] [⟨none, .no⟩] ⟨[(0, .one (.dat (.flt .f32) a0))], [], 0⟩ hP hN (by kernel_rfl) allNil ?_
  refine HT.reg1 [2] [⟨none, .no⟩, ⟨none, .no⟩, ⟨none, .no⟩, ⟨none, .no⟩, ⟨none, .no⟩] ⟨[(2, .one (.dat .bool (feq .f32 (fop .sub .f32 a0 a0) (0 : Nat))))], [], 0⟩ hP hN (by kernel_rfl) allNil ?_
  have hr := of_some hr
  subst hr
  exact HT.ret ⟨[.one (.dat .bool (feq .f32 (fop .sub .f32 a0 a0) (0 : Nat)))], [], [], by kernel_rfl, by kernel_rfl, rfl, by kernel_rfl, by kernel_rfl, trivial⟩

noncomputable def spec_l02Finite_B1 (a0 : List Nat) (s1 : Int) : Option ((Int) ⊕ (Unit ⊕ Unit)) :=
  bif (decide (s1 < (lenI a0))) then
    guardP ((0 : Int) ≤ s1 ∧ s1 < lenI a0) (
      (spec_l01Finite (List.getD a0 (Int.toNat s1) (0 : Nat))).bind fun y10 =>
      bif (!y10) then
        some (.inr (.inr ()))
      else
        some (.inl (wadd .i64 s1 (1 : Int))))
  else
    some (.inr (.inl ()))

noncomputable def spec_l02Finite (a0 : List Nat) : Option (Bool) :=
  (rounds (spec_l02Finite_B1 a0) (0 : Int)).bind fun r2 => match r2 with
    | .inl r3 =>
      some true
    | .inr r4 =>
      some false

theorem f110_ok {a0 : List Nat} {r : Bool} (hr : spec_l02Finite a0 = some r) : CallOK Try.prog 110 [.imm (.sl (.flt .f32)) a0] [⟨false, .bool, r⟩] [] := by
  unfold spec_l02Finite at hr
  refine CallOK.of_body (ts := [(false, .bool)]) Try.func110 rfl (by kernel_rfl) (Nat.le_of_ble_eq_true (by kernel_rfl)) fun cx hP hN hO hF => ?_
  have hO : cx.own.map Prod.fst = [] := hO
  have hF := hF rfl
  show HT cx ⟨[(0, .one (.dat (.sl (.flt .f32)) a0))], [], 0⟩ _ _
  refine HT.reg1 [0] [⟨none, .no⟩] ⟨[(0, .one (.dat (.sl (.flt .f32)) a0))], [], 0⟩ hP hN (by kernel_rfl) allNil ?_
  refine HT.seq ?_
  refine HT.reg1 [0, 3] [⟨none, .no⟩] ⟨[(0, .one (.dat (.sl (.flt .f32)) a0)), (3, .one (.dat (.int .i64) (0 : Int)))], [], 0⟩ hP hN (by kernel_rfl) allNil ?_
  refine HT.block ?_
  obtain ⟨r2, hL13, hr⟩ := of_bind hr
  refine (Le.cv (s := ⟨[], [], [], false⟩) (own := []) (ps := [a0 = a0, (0 : Int) = (0 : Int)]) (st' := ⟨[(0, .one (.dat (.sl (.flt .f32)) a0)), (3, .one (.dat (.int .i64) (0 : Int)))], [], 0⟩) hO (fun h => by cases h) (by kernel_rfl) ⟨rfl, rfl, trivial⟩).ht ?_
  refine HT.loopE (s := (0 : Int)) (fun (s1 : Int) => ⟨[(0, .one (.dat (.sl (.flt .f32)) a0)), (3, .one (.dat (.int .i64) s1))], [], 0⟩) (fun (r2 : Unit ⊕ Unit) => match r2 with | .inl r3 => (.exit 0, ⟨[], [], 0⟩) | .inr r4 => (.ret, ⟨[(2, .one (.dat .bool false))], [], 0⟩)) hL13 ?_ (fun s1 x5 hx6 hk7 => ?_)
  · rcases r2 with r3 | r4
    · refine (qBlockX (qThen ?_))
      refine HT.reg1 [2] [⟨none, .no⟩] ⟨[(2, .one (.dat .bool true))], [], 0⟩ hP hN (by kernel_rfl) allNil ?_
      have hr := of_some hr
      subst hr
      exact HT.ret ⟨[.one (.dat .bool true)], [], [], by kernel_rfl, by kernel_rfl, rfl, by kernel_rfl, by kernel_rfl, trivial⟩
    · have hr := of_some hr
      subst hr
      exact (qBlockR (qThenR ⟨[.one (.dat .bool false)], [], [], by kernel_rfl, by kernel_rfl, rfl, by kernel_rfl, by kernel_rfl, trivial⟩))
  · refine HT.seq ?_
    refine HT.reg1 [0, 3, 7] [⟨none, .no⟩, ⟨none, .no⟩, ⟨none, .no⟩, ⟨none, .no⟩] ⟨[(0, .one (.dat (.sl (.flt .f32)) a0)), (3, .one (.dat (.int .i64) s1)), (7, .one (.dat .bool (decide (s1 < (lenI a0)))))], [], 0⟩ hP hN (by kernel_rfl) allNil ?_
    rcases of_bif hx6 with ⟨hb8, hx6⟩ | ⟨hb8, hx6⟩
    · refine HT.cond1 rfl hb8 ?_
      refine HT.skip (qThen ?_)
      refine HT.seq ?_
      refine HT.block ?_
      obtain ⟨hg9, hx6⟩ := of_guard hx6
      obtain ⟨y10, hc11, hx6⟩ := of_bind hx6
      refine HT.reg1 [0, 3, 15] [⟨none, .no⟩, ⟨none, .no⟩, ⟨none, .no⟩, ⟨none, .no⟩, ⟨none, .call [.imm (.flt .f32)] [⟨false, .bool, y10⟩] []⟩, ⟨none, .no⟩] ⟨[(0, .one (.dat (.sl (.flt .f32)) a0)), (3, .one (.dat (.int .i64) s1)), (15, .one (.dat .bool (!y10)))], [], 0⟩ hP hN (by kernel_rfl) (allCons hg9 (allCons (f131_ok hc11) allNil)) ?_
      rcases of_bif hx6 with ⟨hb12, hx6⟩ | ⟨hb12, hx6⟩
      · refine HT.cond1 rfl hb12 ?_
        refine HT.reg1 [2] [⟨none, .no⟩] ⟨[(2, .one (.dat .bool false))], [], 0⟩ hP hN (by kernel_rfl) allNil ?_
        have hx6 := of_some hx6
        subst hx6
        refine (Le.cv (s := ⟨[], [], [], false⟩) (own := []) (ps := [false = false]) (st' := ⟨[(2, .one (.dat .bool false))], [], 0⟩) hO (fun h => by cases h) (by kernel_rfl) ⟨rfl, trivial⟩).ht ?_
        exact HT.ret (qBlockR (qThenR (qLoopR (hk7 (.inr ()) rfl))))
      · refine HT.cond0 rfl hb12 ?_
        refine HT.skip (qBlock (qThen ?_))
        have hx6 := of_some hx6
        subst hx6
        refine HT.reg (rs := [⟨none, .no⟩, ⟨none, .no⟩, ⟨none, .no⟩]) (st' := ⟨[(3, .one (.dat (.int .i64) (wadd .i64 s1 (1 : Int)))), (9, .one (.dat (.int .i64) (wadd .i64 s1 (1 : Int)))), (8, .one (.dat (.int .i64) s1)), (0, .one (.dat (.sl (.flt .f32)) a0)), (3, .one (.dat (.int .i64) s1)), (15, .one (.dat .bool (!y10)))], [], 0⟩) hP hN (by kernel_rfl) allNil (qLoopN ⟨(wadd .i64 s1 (1 : Int)), rfl, Le.cv (s := ⟨[], [], [], false⟩) (own := []) (ps := [a0 = a0, (wadd .i64 s1 (1 : Int)) = (wadd .i64 s1 (1 : Int))]) (st' := ⟨[(0, .one (.dat (.sl (.flt .f32)) a0)), (3, .one (.dat (.int .i64) (wadd .i64 s1 (1 : Int))))], [], 0⟩) hO (fun h => by cases h) (by kernel_rfl) ⟨rfl, rfl, trivial⟩⟩)
    · refine HT.cond0 rfl hb8 ?_
      have hx6 := of_some hx6
      subst hx6
      refine (Le.cv (s := ⟨[], [], [], false⟩) (own := []) (ps := []) (st' := ⟨[], [], 0⟩) hO (fun h => by cases h) (by kernel_rfl) trivial).ht ?_
      exact HT.exit (qThenE (qLoopE (hk7 (.inl ()) rfl)))

noncomputable def spec_l03Shares_B1 (a0 : List Nat) (y1 : Nat) (s4 : Int × List Nat) : Option ((Int × List Nat) ⊕ (List Nat)) :=
  bif (decide (s4.1 < (lenI a0))) then
    guardP ((0 : Int) ≤ s4.1 ∧ s4.1 < lenI a0) (
      guardP (List.length s4.2 + List.length ([(fop .quo .f32 (List.getD a0 (Int.toNat s4.1) (0 : Nat)) y1)] : List Nat) ≤ appMax) (
        some (.inl ((wadd .i64 s4.1 (1 : Int)), (s4.2 ++ ([(fop .quo .f32 (List.getD a0 (Int.toNat s4.1) (0 : Nat)) y1)] : List Nat))))))
  else
    some (.inr s4.2)

noncomputable def spec_l03Shares (a0 : List Nat) : Option (List Nat × Bool) :=
  (spec_l03Sum a0).bind fun y1 =>
  bif (!(fgt .f32 y1 (0 : Nat))) then
    some (([] : List Nat), false)
  else
    (rounds (spec_l03Shares_B1 a0 y1) ((0 : Int), ([] : List Nat))).bind fun r6 =>
    (spec_l02Finite r6).bind fun y7 =>
    some (r6, y7)

theorem f86_ok {a0 : List Nat} {r : List Nat × Bool} (hr : spec_l03Shares a0 = some r) : CallOK Try.prog 86 [.imm (.sl (.flt .f32)) a0] [⟨true, (.sl (.flt .f32)), r.1⟩, ⟨false, .bool, r.2⟩] [] := by
  unfold spec_l03Shares at hr
  refine CallOK.of_body (ts := [(true, (.sl (.flt .f32))), (false, .bool)]) Try.func86 rfl (by kernel_rfl) (Nat.le_of_ble_eq_true (by kernel_rfl)) fun cx hP hN hO hF => ?_
  have hO : cx.own.map Prod.fst = [] := hO
  have hF := hF rfl
  show HT cx ⟨[(0, .one (.dat (.sl (.flt .f32)) a0))], [], 0⟩ _ _
  refine HT.reg1 [0] [⟨none, .no⟩, ⟨none, .no⟩] ⟨[(0, .one (.dat (.sl (.flt .f32)) a0))], [], 0⟩ hP hN (by kernel_rfl) allNil ?_
  obtain ⟨y1, hc2, hr⟩ := of_bind hr
  refine HT.reg1 [0, 4] [⟨none, .no⟩, ⟨none, .call [.imm (.sl (.flt .f32))] [⟨false, (.flt .f32), y1⟩] []⟩, ⟨none, .no⟩] ⟨[(0, .one (.dat (.sl (.flt .f32)) a0)), (4, .one (.dat (.flt .f32) y1))], [], 0⟩ hP hN (by kernel_rfl) (allCons (f109_ok hc2) allNil) ?_
  refine HT.seq ?_
  refine HT.reg1 [0, 4, 11] [⟨none, .no⟩, ⟨none, .no⟩, ⟨none, .no⟩] ⟨[(0, .one (.dat (.sl (.flt .f32)) a0)), (4, .one (.dat (.flt .f32) y1)), (11, .one (.dat .bool (!(fgt .f32 y1 (0 : Nat)))))], [], 0⟩ hP hN (by kernel_rfl) allNil ?_
  rcases of_bif hr with ⟨hb3, hr⟩ | ⟨hb3, hr⟩
  · refine HT.cond1 rfl hb3 ?_
    refine HT.reg1 [2, 3] [⟨none, .no⟩, ⟨none, .no⟩] ⟨[(2, .one (.nilS)), (3, .one (.dat .bool false))], [], 0⟩ hP hN (by kernel_rfl) allNil ?_
    have hr := of_some hr
    subst hr
    exact HT.ret (qThenR ⟨[.one (.nilS), .one (.dat .bool false)], [], [], by kernel_rfl, by kernel_rfl, rfl, by kernel_rfl, by kernel_rfl, trivial⟩)
  · refine HT.cond0 rfl hb3 ?_
    refine HT.skip (qThen ?_)
    refine HT.reg1 [0, 4, 5] [⟨none, .no⟩, ⟨none, .no⟩] ⟨[(0, .one (.dat (.sl (.flt .f32)) a0)), (4, .one (.dat (.flt .f32) y1)), (5, .one (.nilS))], [], 0⟩ hP hN (by kernel_rfl) allNil ?_
    refine HT.seq ?_
    refine HT.reg1 [0, 4, 5, 14, 15] [⟨none, .no⟩, ⟨none, .no⟩, ⟨none, .no⟩] ⟨[(0, .one (.dat (.sl (.flt .f32)) a0)), (4, .one (.dat (.flt .f32) y1)), (5, .one (.nilS)), (14, .one (.dat (.int .i64) (lenI a0))), (15, .one (.dat (.int .i64) (0 : Int)))], [], 0⟩ hP hN (by kernel_rfl) allNil ?_
    refine HT.block ?_
    obtain ⟨r5, hL15, hr⟩ := of_bind hr
    refine (Le.cv (s := ⟨[], [0], [], false⟩) (own := []) (ps := [a0 = a0, y1 = y1, (lenI a0) = (lenI a0), (0 : Int) = (0 : Int), ([] : List Nat) = []]) (st' := ⟨[(0, .one (.dat (.sl (.flt .f32)) a0)), (4, .one (.dat (.flt .f32) y1)), (5, .one (.all 0)), (14, .one (.dat (.int .i64) (lenI a0))), (15, .one (.dat (.int .i64) (0 : Int)))], [(0, .seq (.flt .f32) ([] : List Nat))], 1⟩) hO (fun h => by cases h) (by kernel_rfl) ⟨rfl, rfl, rfl, rfl, rfl, trivial⟩).ht ?_
    refine HT.loopE (s := ((0 : Int), ([] : List Nat))) (fun (s4 : Int × List Nat) => ⟨[(0, .one (.dat (.sl (.flt .f32)) a0)), (4, .one (.dat (.flt .f32) y1)), (5, .one (.all 0)), (14, .one (.dat (.int .i64) (lenI a0))), (15, .one (.dat (.int .i64) s4.1))], [(0, .seq (.flt .f32) s4.2)], 1⟩) (fun (r6 : List Nat) => (.exit 0, ⟨[(5, .one (.all 0))], [(0, .seq (.flt .f32) r6)], 1⟩)) hL15 ?_ (fun s4 x9 hx10 hk11 => ?_)
    · refine (qBlockX (qThen ?_))
      obtain ⟨y7, hc8, hr⟩ := of_bind hr
      refine HT.reg1 [2, 3] [⟨none, .no⟩, ⟨none, .no⟩, ⟨none, .call [.imm (.sl (.flt .f32))] [⟨false, .bool, y7⟩] []⟩, ⟨none, .no⟩, ⟨none, .no⟩] ⟨[(2, .one (.all 0)), (3, .one (.dat .bool y7))], [(0, .seq (.flt .f32) r5)], 1⟩ hP hN (by kernel_rfl) (allCons (f110_ok hc8) allNil) ?_
      have hr := of_some hr
      subst hr
      exact HT.ret ⟨[.one (.all 0), .one (.dat .bool y7)], [0], [], by kernel_rfl, by kernel_rfl, rfl, by kernel_rfl, by kernel_rfl, trivial⟩
    · refine HT.reg1 [0, 4, 5, 14, 15, 16] [⟨none, .no⟩] ⟨[(0, .one (.dat (.sl (.flt .f32)) a0)), (4, .one (.dat (.flt .f32) y1)), (5, .one (.all 0)), (14, .one (.dat (.int .i64) (lenI a0))), (15, .one (.dat (.int .i64) s4.1)), (16, .one (.dat .bool (decide (s4.1 < (lenI a0)))))], [(0, .seq (.flt .f32) s4.2)], 1⟩ hP hN (by kernel_rfl) allNil ?_
      refine HT.seq ?_
      rcases of_bif hx10 with ⟨hb12, hx10⟩ | ⟨hb12, hx10⟩
      · refine HT.cond1 rfl hb12 ?_
        refine HT.skip (qThen ?_)
        refine HT.seq ?_
        refine HT.block ?_
        refine HT.reg1 [0, 4, 5, 6, 14, 15] [⟨none, .no⟩, ⟨none, .no⟩] ⟨[(0, .one (.dat (.sl (.flt .f32)) a0)), (4, .one (.dat (.flt .f32) y1)), (5, .one (.all 0)), (6, .one (.dat (.int .i64) s4.1)), (14, .one (.dat (.int .i64) (lenI a0))), (15, .one (.dat (.int .i64) s4.1))], [(0, .seq (.flt .f32) s4.2)], 1⟩ hP hN (by kernel_rfl) allNil ?_
        obtain ⟨hg13, hx10⟩ := of_guard hx10
        obtain ⟨hg14, hx10⟩ := of_guard hx10
        refine HT.reg (rs := [⟨none, .no⟩, ⟨none, .no⟩, ⟨none, .no⟩, ⟨none, .no⟩, ⟨none, .no⟩, ⟨none, .no⟩, ⟨none, .no⟩, ⟨none, .ty (.flt .f32)⟩, ⟨none, .ty (.flt .f32)⟩, ⟨none, .no⟩]) (st' := ⟨[(5, .one (.all 2)), (26, .one (.all 2)), (25, .one (.all 1)), (24, .one (.dat (.flt .f32) (fop .quo .f32 (List.getD a0 (Int.toNat s4.1) (0 : Nat)) y1))), (23, .one (.dat (.flt .f32) y1)), (22, .one (.dat (.flt .f32) (List.getD a0 (Int.toNat s4.1) (0 : Nat)))), (21, .one (.ip (.flt .f32) (List.getD a0 (Int.toNat s4.1) (0 : Nat)) 0)), (20, .one (.dat (.int .i64) s4.1)), (19, .one (.dat (.sl (.flt .f32)) a0)), (18, .one (.all 0)), (0, .one (.dat (.sl (.flt .f32)) a0)), (4, .one (.dat (.flt .f32) y1)), (5, .one (.all 0)), (6, .one (.dat (.int .i64) s4.1)), (14, .one (.dat (.int .i64) (lenI a0))), (15, .one (.dat (.int .i64) s4.1))], [(0, .gone), (2, .seq (.flt .f32) (s4.2 ++ ([(fop .quo .f32 (List.getD a0 (Int.toNat s4.1) (0 : Nat)) y1)] : List Nat))), (1, .seq (.flt .f32) ([(fop .quo .f32 (List.getD a0 (Int.toNat s4.1) (0 : Nat)) y1)] : List Nat)), (0, .seq (.flt .f32) s4.2)], 3⟩) hP hN (by kernel_rfl) (allCons hg13 (allCons hg14 allNil)) (qBlock (qThen ?_))
        have hx10 := of_some hx10
        subst hx10
        refine HT.reg (rs := [⟨none, .no⟩, ⟨none, .no⟩]) (st' := ⟨[(15, .one (.dat (.int .i64) (wadd .i64 s4.1 (1 : Int)))), (27, .one (.dat (.int .i64) (wadd .i64 s4.1 (1 : Int)))), (5, .one (.all 2)), (26, .one (.all 2)), (25, .one (.all 1)), (24, .one (.dat (.flt .f32) (fop .quo .f32 (List.getD a0 (Int.toNat s4.1) (0 : Nat)) y1))), (23, .one (.dat (.flt .f32) y1)), (22, .one (.dat (.flt .f32) (List.getD a0 (Int.toNat s4.1) (0 : Nat)))), (21, .one (.ip (.flt .f32) (List.getD a0 (Int.toNat s4.1) (0 : Nat)) 0)), (20, .one (.dat (.int .i64) s4.1)), (19, .one (.dat (.sl (.flt .f32)) a0)), (18, .one (.all 0)), (0, .one (.dat (.sl (.flt .f32)) a0)), (4, .one (.dat (.flt .f32) y1)), (5, .one (.all 0)), (6, .one (.dat (.int .i64) s4.1)), (14, .one (.dat (.int .i64) (lenI a0))), (15, .one (.dat (.int .i64) s4.1))], [(0, .gone), (2, .seq (.flt .f32) (s4.2 ++ ([(fop .quo .f32 (List.getD a0 (Int.toNat s4.1) (0 : Nat)) y1)] : List Nat))), (1, .seq (.flt .f32) ([(fop .quo .f32 (List.getD a0 (Int.toNat s4.1) (0 : Nat)) y1)] : List Nat)), (0, .seq (.flt .f32) s4.2)], 3⟩) hP hN (by kernel_rfl) allNil (qLoopN ⟨((wadd .i64 s4.1 (1 : Int)), (s4.2 ++ ([(fop .quo .f32 (List.getD a0 (Int.toNat s4.1) (0 : Nat)) y1)] : List Nat))), rfl, Le.cv (s := ⟨[(2, 0)], [], [], false⟩) (own := []) (ps := [a0 = a0, y1 = y1, (lenI a0) = (lenI a0), (wadd .i64 s4.1 (1 : Int)) = (wadd .i64 s4.1 (1 : Int)), (s4.2 ++ ([(fop .quo .f32 (List.getD a0 (Int.toNat s4.1) (0 : Nat)) y1)] : List Nat)) = (s4.2 ++ ([(fop .quo .f32 (List.getD a0 (Int.toNat s4.1) (0 : Nat)) y1)] : List Nat))]) (st' := ⟨[(0, .one (.dat (.sl (.flt .f32)) a0)), (4, .one (.dat (.flt .f32) y1)), (5, .one (.all 0)), (14, .one (.dat (.int .i64) (lenI a0))), (15, .one (.dat (.int .i64) (wadd .i64 s4.1 (1 : Int))))], [(0, .seq (.flt .f32) (s4.2 ++ ([(fop .quo .f32 (List.getD a0 (Int.toNat s4.1) (0 : Nat)) y1)] : List Nat)))], 1⟩) hO (fun h => by cases h) (by kernel_rfl) ⟨rfl, rfl, rfl, rfl, rfl, trivial⟩⟩)
      · refine HT.cond0 rfl hb12 ?_
        have hx10 := of_some hx10
        subst hx10
        refine (Le.cv (s := ⟨[(0, 0)], [], [], false⟩) (own := []) (ps := [s4.2 = s4.2]) (st' := ⟨[(5, .one (.all 0))], [(0, .seq (.flt .f32) s4.2)], 1⟩) hO (fun h => by cases h) (by kernel_rfl) ⟨rfl, trivial⟩).ht ?_
        exact HT.exit (qThenE (qLoopE (hk11 s4.2 rfl)))

noncomputable def spec_l03Pair_B1 (a0 : Int × Int × List Nat × List Nat × List Nat) (a1 : List Int) (a2 : Int) (y1 : List (List Nat)) (y4 : List (List Nat)) (s7 : Int × List Nat) (s16 : Int × List Nat) : Option ((Int × List Nat) ⊕ (List Nat)) :=
  bif (decide (s16.1 < a0.1)) then
    guardP ((0 : Int) ≤ s7.1 ∧ s7.1 < lenI (List.getD y1 (Int.toNat a2) ([] : List Nat))) (
      guardP ((0 : Int) ≤ a2 ∧ a2 < lenI a1) (
        guardP ((0 : Int) ≤ (wadd .i64 (wmul .i64 s7.1 a0.2.1) (List.getD a1 (Int.toNat a2) (0 : Int))) ∧ (wadd .i64 (wmul .i64 s7.1 a0.2.1) (List.getD a1 (Int.toNat a2) (0 : Int))) < lenI a0.2.2.2.2) (
          (some (fop .mul .f32 (List.getD (List.getD y1 (Int.toNat a2) ([] : List Nat)) (Int.toNat s7.1) (0 : Nat)) (List.getD a0.2.2.2.2 (Int.toNat (wadd .i64 (wmul .i64 s7.1 a0.2.1) (List.getD a1 (Int.toNat a2) (0 : Int)))) (0 : Nat)))).bind fun q26 =>
          guardP ((0 : Int) ≤ (wadd .i64 (wmul .i64 s7.1 a0.1) s16.1) ∧ (wadd .i64 (wmul .i64 s7.1 a0.1) s16.1) < lenI a0.2.2.2.1) (
            guardP ((0 : Int) ≤ s16.1 ∧ s16.1 < lenI (List.getD y4 (Int.toNat (wadd .i64 a2 (1 : Int))) ([] : List Nat))) (
              guardP (List.length s16.2 + List.length ([(fop .mul .f32 (fop .mul .f32 q26 (List.getD a0.2.2.2.1 (Int.toNat (wadd .i64 (wmul .i64 s7.1 a0.1) s16.1)) (0 : Nat))) (List.getD (List.getD y4 (Int.toNat (wadd .i64 a2 (1 : Int))) ([] : List Nat)) (Int.toNat s16.1) (0 : Nat)))] : List Nat) ≤ appMax) (
                some (.inl ((wadd .i64 s16.1 (1 : Int)), (s16.2 ++ ([(fop .mul .f32 (fop .mul .f32 q26 (List.getD a0.2.2.2.1 (Int.toNat (wadd .i64 (wmul .i64 s7.1 a0.1) s16.1)) (0 : Nat))) (List.getD (List.getD y4 (Int.toNat (wadd .i64 a2 (1 : Int))) ([] : List Nat)) (Int.toNat s16.1) (0 : Nat)))] : List Nat))))))))))
  else
    some (.inr s16.2)

noncomputable def spec_l03Pair_B2 (a0 : Int × Int × List Nat × List Nat × List Nat) (a1 : List Int) (a2 : Int) (y1 : List (List Nat)) (y4 : List (List Nat)) (s7 : Int × List Nat) : Option ((Int × List Nat) ⊕ (List Nat)) :=
  bif (decide (s7.1 < a0.1)) then
    (rounds (spec_l03Pair_B1 a0 a1 a2 y1 y4 s7) ((0 : Int), s7.2)).bind fun r18 =>
    some (.inl ((wadd .i64 s7.1 (1 : Int)), r18))
  else
    some (.inr s7.2)

noncomputable def spec_l03Pair (a0 : Int × Int × List Nat × List Nat × List Nat) (a1 : List Int) (a2 : Int) : Option (List Nat × Bool) :=
  (spec_l03Forward (a0.1, a0.2.1, a0.2.2.1, a0.2.2.2.1, a0.2.2.2.2) a1).bind fun y1 =>
  guardP ((0 : Int) ≤ a2 ∧ a2 < lenI y1) (
    (spec_l03Backward (a0.1, a0.2.1, a0.2.2.1, a0.2.2.2.1, a0.2.2.2.2) a1).bind fun y4 =>
    guardP ((0 : Int) ≤ (wadd .i64 a2 (1 : Int)) ∧ (wadd .i64 a2 (1 : Int)) < lenI y4) (
      (rounds (spec_l03Pair_B2 a0 a1 a2 y1 y4) ((0 : Int), ([] : List Nat))).bind fun r9 =>
      (spec_l03Shares r9).bind fun y10 =>
      some (y10.1, y10.2)))

theorem f57_ok {a0 : Int × Int × List Nat × List Nat × List Nat} {a1 : List Int} {a2 : Int} {r : List Nat × Bool} (hr : spec_l03Pair a0 a1 a2 = some r) : CallOK Try.prog 57 [.pimm (.st (.pair (.int .i64) (.pair (.int .i64) (.pair (.sl (.flt .f32)) (.pair (.sl (.flt .f32)) (.sl (.flt .f32))))))) a0, .imm (.sl (.int .i64)) a1, .imm (.int .i64) a2] [⟨true, (.sl (.flt .f32)), r.1⟩, ⟨false, .bool, r.2⟩] [] := by
  unfold spec_l03Pair at hr
  refine CallOK.of_body (ts := [(true, (.sl (.flt .f32))), (false, .bool)]) Try.func57 rfl (by kernel_rfl) (Nat.le_of_ble_eq_true (by kernel_rfl)) fun cx hP hN hO hF => ?_
  have hO : cx.own.map Prod.fst = [] := hO
  have hF := hF rfl
  show HT cx ⟨[(0, .one (.ip (.st (.pair (.int .i64) (.pair (.int .i64) (.pair (.sl (.flt .f32)) (.pair (.sl (.flt .f32)) (.sl (.flt .f32))))))) a0 0)), (1, .one (.dat (.sl (.int .i64)) a1)), (2, .one (.dat (.int .i64) a2))], [], 0⟩ _ _
  refine HT.reg1 [0, 1, 2] [⟨none, .no⟩, ⟨none, .no⟩] ⟨[(0, .one (.ip (.st (.pair (.int .i64) (.pair (.int .i64) (.pair (.sl (.flt .f32)) (.pair (.sl (.flt .f32)) (.sl (.flt .f32))))))) a0 0)), (1, .one (.dat (.sl (.int .i64)) a1)), (2, .one (.dat (.int .i64) a2))], [], 0⟩ hP hN (by kernel_rfl) allNil ?_
  obtain ⟨y1, hc2, hr⟩ := of_bind hr
  obtain ⟨hg3, hr⟩ := of_guard hr
  refine HT.reg1 [0, 1, 2, 8] [⟨none, .no⟩, ⟨none, .no⟩, ⟨none, .call [.pimm (.st (.pair (.int .i64) (.pair (.int .i64) (.pair (.sl (.flt .f32)) (.pair (.sl (.flt .f32)) (.sl (.flt .f32))))))), .imm (.sl (.int .i64))] [⟨false, (.sl (.sl (.flt .f32))), y1⟩] []⟩, ⟨none, .no⟩, ⟨none, .no⟩, ⟨none, .no⟩, ⟨none, .no⟩] ⟨[(0, .one (.ip (.st (.pair (.int .i64) (.pair (.int .i64) (.pair (.sl (.flt .f32)) (.pair (.sl (.flt .f32)) (.sl (.flt .f32))))))) a0 0)), (1, .one (.dat (.sl (.int .i64)) a1)), (2, .one (.dat (.int .i64) a2)), (8, .one (.dat (.sl (.flt .f32)) (List.getD y1 (Int.toNat a2) ([] : List Nat))))], [], 0⟩ hP hN (by kernel_rfl) (allCons (f85_ok hc2) (allCons hg3 allNil)) ?_
  obtain ⟨y4, hc5, hr⟩ := of_bind hr
  obtain ⟨hg6, hr⟩ := of_guard hr
  refine HT.reg1 [0, 1, 2, 8, 9] [⟨none, .no⟩, ⟨none, .no⟩, ⟨none, .call [.pimm (.st (.pair (.int .i64) (.pair (.int .i64) (.pair (.sl (.flt .f32)) (.pair (.sl (.flt .f32)) (.sl (.flt .f32))))))), .imm (.sl (.int .i64))] [⟨false, (.sl (.sl (.flt .f32))), y4⟩] []⟩, ⟨none, .no⟩, ⟨none, .no⟩, ⟨none, .no⟩, ⟨none, .no⟩, ⟨none, .no⟩] ⟨[(0, .one (.ip (.st (.pair (.int .i64) (.pair (.int .i64) (.pair (.sl (.flt .f32)) (.pair (.sl (.flt .f32)) (.sl (.flt .f32))))))) a0 0)), (1, .one (.dat (.sl (.int .i64)) a1)), (2, .one (.dat (.int .i64) a2)), (8, .one (.dat (.sl (.flt .f32)) (List.getD y1 (Int.toNat a2) ([] : List Nat)))), (9, .one (.dat (.sl (.flt .f32)) (List.getD y4 (Int.toNat (wadd .i64 a2 (1 : Int))) ([] : List Nat))))], [], 0⟩ hP hN (by kernel_rfl) (allCons (CallOK.frz [true] rfl (f45_ok hc5)) (allCons hg6 allNil)) ?_
  refine HT.reg1 [0, 1, 2, 8, 9, 10] [⟨none, .no⟩, ⟨none, .no⟩] ⟨[(0, .one (.ip (.st (.pair (.int .i64) (.pair (.int .i64) (.pair (.sl (.flt .f32)) (.pair (.sl (.flt .f32)) (.sl (.flt .f32))))))) a0 0)), (1, .one (.dat (.sl (.int .i64)) a1)), (2, .one (.dat (.int .i64) a2)), (8, .one (.dat (.sl (.flt .f32)) (List.getD y1 (Int.toNat a2) ([] : List Nat)))), (9, .one (.dat (.sl (.flt .f32)) (List.getD y4 (Int.toNat (wadd .i64 a2 (1 : Int))) ([] : List Nat)))), (10, .one (.nilS))], [], 0⟩ hP hN (by kernel_rfl) allNil ?_
  refine HT.seq ?_
  refine HT.reg1 [0, 1, 2, 8, 9, 10, 11] [⟨none, .no⟩] ⟨[(0, .one (.ip (.st (.pair (.int .i64) (.pair (.int .i64) (.pair (.sl (.flt .f32)) (.pair (.sl (.flt .f32)) (.sl (.flt .f32))))))) a0 0)), (1, .one (.dat (.sl (.int .i64)) a1)), (2, .one (.dat (.int .i64) a2)), (8, .one (.dat (.sl (.flt .f32)) (List.getD y1 (Int.toNat a2) ([] : List Nat)))), (9, .one (.dat (.sl (.flt .f32)) (List.getD y4 (Int.toNat (wadd .i64 a2 (1 : Int))) ([] : List Nat)))), (10, .one (.nilS)), (11, .one (.dat (.int .i64) (0 : Int)))], [], 0⟩ hP hN (by kernel_rfl) allNil ?_
  refine HT.block ?_
  obtain ⟨r8, hL32, hr⟩ := of_bind hr
  refine (Le.cv (s := ⟨[], [0], [], false⟩) (own := []) (ps := [a0 = a0, a1 = a1, a2 = a2, (List.getD y1 (Int.toNat a2) ([] : List Nat)) = (List.getD y1 (Int.toNat a2) ([] : List Nat)), (List.getD y4 (Int.toNat (wadd .i64 a2 (1 : Int))) ([] : List Nat)) = (List.getD y4 (Int.toNat (wadd .i64 a2 (1 : Int))) ([] : List Nat)), (0 : Int) = (0 : Int), ([] : List Nat) = []]) (st' := ⟨[(0, .one (.ip (.st (.pair (.int .i64) (.pair (.int .i64) (.pair (.sl (.flt .f32)) (.pair (.sl (.flt .f32)) (.sl (.flt .f32))))))) a0 0)), (1, .one (.dat (.sl (.int .i64)) a1)), (2, .one (.dat (.int .i64) a2)), (8, .one (.dat (.sl (.flt .f32)) (List.getD y1 (Int.toNat a2) ([] : List Nat)))), (9, .one (.dat (.sl (.flt .f32)) (List.getD y4 (Int.toNat (wadd .i64 a2 (1 : Int))) ([] : List Nat)))), (10, .one (.all 0)), (11, .one (.dat (.int .i64) (0 : Int)))], [(0, .seq (.flt .f32) ([] : List Nat))], 1⟩) hO (fun h => by cases h) (by kernel_rfl) ⟨rfl, rfl, rfl, rfl, rfl, rfl, rfl, trivial⟩).ht ?_
  refine HT.loopE (s := ((0 : Int), ([] : List Nat))) (fun (s7 : Int × List Nat) => ⟨[(0, .one (.ip (.st (.pair (.int .i64) (.pair (.int .i64) (.pair (.sl (.flt .f32)) (.pair (.sl (.flt .f32)) (.sl (.flt .f32))))))) a0 0)), (1, .one (.dat (.sl (.int .i64)) a1)), (2, .one (.dat (.int .i64) a2)), (8, .one (.dat (.sl (.flt .f32)) (List.getD y1 (Int.toNat a2) ([] : List Nat)))), (9, .one (.dat (.sl (.flt .f32)) (List.getD y4 (Int.toNat (wadd .i64 a2 (1 : Int))) ([] : List Nat)))), (10, .one (.all 0)), (11, .one (.dat (.int .i64) s7.1))], [(0, .seq (.flt .f32) s7.2)], 1⟩) (fun (r9 : List Nat) => (.exit 0, ⟨[(10, .one (.all 0))], [(0, .seq (.flt .f32) r9)], 1⟩)) hL32 ?_ (fun s7 x12 hx13 hk14 => ?_)
  · refine (qBlockX (qThen ?_))
    obtain ⟨y10, hc11, hr⟩ := of_bind hr
    refine HT.reg1 [6, 7] [⟨none, .no⟩, ⟨none, .call [.imm (.sl (.flt .f32))] [⟨true, (.sl (.flt .f32)), y10.1⟩, ⟨false, .bool, y10.2⟩] []⟩, ⟨none, .no⟩, ⟨none, .no⟩, ⟨none, .no⟩, ⟨none, .no⟩] ⟨[(6, .one (.all 1)), (7, .one (.dat .bool y10.2))], [(1, .seq (.flt .f32) y10.1), (0, .seq (.flt .f32) r8)], 2⟩ hP hN (by kernel_rfl) (allCons (f86_ok hc11) allNil) ?_
    have hr := of_some hr
    subst hr
    exact HT.ret ⟨[.one (.all 1), .one (.dat .bool y10.2)], [1], [], by kernel_rfl, by kernel_rfl, rfl, by kernel_rfl, by kernel_rfl, trivial⟩
  · refine HT.seq ?_
    refine HT.reg1 [0, 1, 2, 8, 9, 10, 11, 33] [⟨none, .no⟩, ⟨none, .no⟩, ⟨none, .no⟩, ⟨none, .no⟩, ⟨none, .no⟩, ⟨none, .no⟩] ⟨[(0, .one (.ip (.st (.pair (.int .i64) (.pair (.int .i64) (.pair (.sl (.flt .f32)) (.pair (.sl (.flt .f32)) (.sl (.flt .f32))))))) a0 0)), (1, .one (.dat (.sl (.int .i64)) a1)), (2, .one (.dat (.int .i64) a2)), (8, .one (.dat (.sl (.flt .f32)) (List.getD y1 (Int.toNat a2) ([] : List Nat)))), (9, .one (.dat (.sl (.flt .f32)) (List.getD y4 (Int.toNat (wadd .i64 a2 (1 : Int))) ([] : List Nat)))), (10, .one (.all 0)), (11, .one (.dat (.int .i64) s7.1)), (33, .one (.dat .bool (decide (s7.1 < a0.1))))], [(0, .seq (.flt .f32) s7.2)], 1⟩ hP hN (by kernel_rfl) allNil ?_
    rcases of_bif hx13 with ⟨hb15, hx13⟩ | ⟨hb15, hx13⟩
    · refine HT.cond1 rfl hb15 ?_
      refine HT.skip (qThen ?_)
      refine HT.seq ?_
      refine HT.block ?_
      refine HT.reg1 [0, 1, 2, 8, 9, 10, 11, 12] [⟨none, .no⟩] ⟨[(0, .one (.ip (.st (.pair (.int .i64) (.pair (.int .i64) (.pair (.sl (.flt .f32)) (.pair (.sl (.flt .f32)) (.sl (.flt .f32))))))) a0 0)), (1, .one (.dat (.sl (.int .i64)) a1)), (2, .one (.dat (.int .i64) a2)), (8, .one (.dat (.sl (.flt .f32)) (List.getD y1 (Int.toNat a2) ([] : List Nat)))), (9, .one (.dat (.sl (.flt .f32)) (List.getD y4 (Int.toNat (wadd .i64 a2 (1 : Int))) ([] : List Nat)))), (10, .one (.all 0)), (11, .one (.dat (.int .i64) s7.1)), (12, .one (.dat (.int .i64) (0 : Int)))], [(0, .seq (.flt .f32) s7.2)], 1⟩ hP hN (by kernel_rfl) allNil ?_
      refine HT.block ?_
      obtain ⟨r17, hL31, hx13⟩ := of_bind hx13
      refine (Le.cv (s := ⟨[(0, 0)], [], [], false⟩) (own := []) (ps := [a0 = a0, a1 = a1, a2 = a2, (List.getD y1 (Int.toNat a2) ([] : List Nat)) = (List.getD y1 (Int.toNat a2) ([] : List Nat)), (List.getD y4 (Int.toNat (wadd .i64 a2 (1 : Int))) ([] : List Nat)) = (List.getD y4 (Int.toNat (wadd .i64 a2 (1 : Int))) ([] : List Nat)), s7.1 = s7.1, (0 : Int) = (0 : Int), s7.2 = s7.2]) (st' := ⟨[(0, .one (.ip (.st (.pair (.int .i64) (.pair (.int .i64) (.pair (.sl (.flt .f32)) (.pair (.sl (.flt .f32)) (.sl (.flt .f32))))))) a0 0)), (1, .one (.dat (.sl (.int .i64)) a1)), (2, .one (.dat (.int .i64) a2)), (8, .one (.dat (.sl (.flt .f32)) (List.getD y1 (Int.toNat a2) ([] : List Nat)))), (9, .one (.dat (.sl (.flt .f32)) (List.getD y4 (Int.toNat (wadd .i64 a2 (1 : Int))) ([] : List Nat)))), (10, .one (.all 0)), (11, .one (.dat (.int .i64) s7.1)), (12, .one (.dat (.int .i64) (0 : Int)))], [(0, .seq (.flt .f32) s7.2)], 1⟩) hO (fun h => by cases h) (by kernel_rfl) ⟨rfl, rfl, rfl, rfl, rfl, rfl, rfl, rfl, trivial⟩).ht ?_
      refine HT.loopE (s := ((0 : Int), s7.2)) (fun (s16 : Int × List Nat) => ⟨[(0, .one (.ip (.st (.pair (.int .i64) (.pair (.int .i64) (.pair (.sl (.flt .f32)) (.pair (.sl (.flt .f32)) (.sl (.flt .f32))))))) a0 0)), (1, .one (.dat (.sl (.int .i64)) a1)), (2, .one (.dat (.int .i64) a2)), (8, .one (.dat (.sl (.flt .f32)) (List.getD y1 (Int.toNat a2) ([] : List Nat)))), (9, .one (.dat (.sl (.flt .f32)) (List.getD y4 (Int.toNat (wadd .i64 a2 (1 : Int))) ([] : List Nat)))), (10, .one (.all 0)), (11, .one (.dat (.int .i64) s7.1)), (12, .one (.dat (.int .i64) s16.1))], [(0, .seq (.flt .f32) s16.2)], 1⟩) (fun (r18 : List Nat) => (.exit 2, ⟨[(0, .one (.ip (.st (.pair (.int .i64) (.pair (.int .i64) (.pair (.sl (.flt .f32)) (.pair (.sl (.flt .f32)) (.sl (.flt .f32))))))) a0 0)), (1, .one (.dat (.sl (.int .i64)) a1)), (2, .one (.dat (.int .i64) a2)), (8, .one (.dat (.sl (.flt .f32)) (List.getD y1 (Int.toNat a2) ([] : List Nat)))), (9, .one (.dat (.sl (.flt .f32)) (List.getD y4 (Int.toNat (wadd .i64 a2 (1 : Int))) ([] : List Nat)))), (10, .one (.all 0)), (11, .one (.dat (.int .i64) s7.1))], [(0, .seq (.flt .f32) r18)], 1⟩)) hL31 ?_ (fun s16 x19 hx20 hk21 => ?_)
      · refine (qBlockX (qBlock (qThen ?_)))
        have hx13 := of_some hx13
        subst hx13
        refine HT.reg (rs := [⟨none, .no⟩, ⟨none, .no⟩, ⟨none, .no⟩]) (st' := ⟨[(11, .one (.dat (.int .i64) (wadd .i64 s7.1 (1 : Int)))), (35, .one (.dat (.int .i64) (wadd .i64 s7.1 (1 : Int)))), (34, .one (.dat (.int .i64) s7.1)), (0, .one (.ip (.st (.pair (.int .i64) (.pair (.int .i64) (.pair (.sl (.flt .f32)) (.pair (.sl (.flt .f32)) (.sl (.flt .f32))))))) a0 0)), (1, .one (.dat (.sl (.int .i64)) a1)), (2, .one (.dat (.int .i64) a2)), (8, .one (.dat (.sl (.flt .f32)) (List.getD y1 (Int.toNat a2) ([] : List Nat)))), (9, .one (.dat (.sl (.flt .f32)) (List.getD y4 (Int.toNat (wadd .i64 a2 (1 : Int))) ([] : List Nat)))), (10, .one (.all 0)), (11, .one (.dat (.int .i64) s7.1))], [(0, .seq (.flt .f32) r17)], 1⟩) hP hN (by kernel_rfl) allNil (qLoopN ⟨((wadd .i64 s7.1 (1 : Int)), r17), rfl, Le.cv (s := ⟨[(0, 0)], [], [], false⟩) (own := []) (ps := [a0 = a0, a1 = a1, a2 = a2, (List.getD y1 (Int.toNat a2) ([] : List Nat)) = (List.getD y1 (Int.toNat a2) ([] : List Nat)), (List.getD y4 (Int.toNat (wadd .i64 a2 (1 : Int))) ([] : List Nat)) = (List.getD y4 (Int.toNat (wadd .i64 a2 (1 : Int))) ([] : List Nat)), (wadd .i64 s7.1 (1 : Int)) = (wadd .i64 s7.1 (1 : Int)), r17 = r17]) (st' := ⟨[(0, .one (.ip (.st (.pair (.int .i64) (.pair (.int .i64) (.pair (.sl (.flt .f32)) (.pair (.sl (.flt .f32)) (.sl (.flt .f32))))))) a0 0)), (1, .one (.dat (.sl (.int .i64)) a1)), (2, .one (.dat (.int .i64) a2)), (8, .one (.dat (.sl (.flt .f32)) (List.getD y1 (Int.toNat a2) ([] : List Nat)))), (9, .one (.dat (.sl (.flt .f32)) (List.getD y4 (Int.toNat (wadd .i64 a2 (1 : Int))) ([] : List Nat)))), (10, .one (.all 0)), (11, .one (.dat (.int .i64) (wadd .i64 s7.1 (1 : Int))))], [(0, .seq (.flt .f32) r17)], 1⟩) hO (fun h => by cases h) (by kernel_rfl) ⟨rfl, rfl, rfl, rfl, rfl, rfl, rfl, trivial⟩⟩)
      · refine HT.seq ?_
        refine HT.reg1 [0, 1, 2, 8, 9, 10, 11, 12, 41] [⟨none, .no⟩, ⟨none, .no⟩, ⟨none, .no⟩, ⟨none, .no⟩, ⟨none, .no⟩, ⟨none, .no⟩] ⟨[(0, .one (.ip (.st (.pair (.int .i64) (.pair (.int .i64) (.pair (.sl (.flt .f32)) (.pair (.sl (.flt .f32)) (.sl (.flt .f32))))))) a0 0)), (1, .one (.dat (.sl (.int .i64)) a1)), (2, .one (.dat (.int .i64) a2)), (8, .one (.dat (.sl (.flt .f32)) (List.getD y1 (Int.toNat a2) ([] : List Nat)))), (9, .one (.dat (.sl (.flt .f32)) (List.getD y4 (Int.toNat (wadd .i64 a2 (1 : Int))) ([] : List Nat)))), (10, .one (.all 0)), (11, .one (.dat (.int .i64) s7.1)), (12, .one (.dat (.int .i64) s16.1)), (41, .one (.dat .bool (decide (s16.1 < a0.1))))], [(0, .seq (.flt .f32) s16.2)], 1⟩ hP hN (by kernel_rfl) allNil ?_
        rcases of_bif hx20 with ⟨hb22, hx20⟩ | ⟨hb22, hx20⟩
        · refine HT.cond1 rfl hb22 ?_
          refine HT.skip (qThen ?_)
          refine HT.seq ?_
          refine HT.block ?_
          obtain ⟨hg23, hx20⟩ := of_guard hx20
          obtain ⟨hg24, hx20⟩ := of_guard hx20
          obtain ⟨hg25, hx20⟩ := of_guard hx20
          refine HT.drw1 [0, 1, 2, 8, 9, 10, 11, 12, 13] 21 [⟨⟨none, .no⟩, []⟩, ⟨⟨none, .no⟩, []⟩, ⟨⟨none, .no⟩, [0, 1]⟩, ⟨⟨none, .no⟩, [0, 1, 2]⟩, ⟨⟨none, .no⟩, []⟩, ⟨⟨none, .no⟩, [4]⟩, ⟨⟨none, .no⟩, [4, 5]⟩, ⟨⟨none, .no⟩, [4, 5, 6]⟩, ⟨⟨none, .no⟩, []⟩, ⟨⟨none, .no⟩, []⟩, ⟨⟨none, .no⟩, [9]⟩, ⟨⟨none, .no⟩, [9, 10]⟩, ⟨⟨none, .no⟩, [9, 10, 11]⟩, ⟨⟨none, .no⟩, [8, 9, 10, 11, 12]⟩, ⟨⟨none, .no⟩, []⟩, ⟨⟨none, .no⟩, []⟩, ⟨⟨none, .no⟩, [14, 15]⟩, ⟨⟨none, .no⟩, [14, 15, 16]⟩, ⟨⟨none, .no⟩, [8, 9, 10, 11, 12, 13, 14, 15, 16, 17]⟩, ⟨⟨none, .no⟩, [4, 5, 6, 7, 8, 9, 10, 11, 12, 13, 14, 15, 16, 17, 18]⟩, ⟨⟨none, .no⟩, [4, 5, 6, 7, 8, 9, 10, 11, 12, 13, 14, 15, 16, 17, 18, 19]⟩] [[0, 1, 2, 3, 4, 5, 6, 7, 8, 9, 10, 11, 12, 13, 14, 15, 16, 17, 18, 19, 20], [0, 1, 2, 3, 4, 5, 6, 7, 8, 9, 10, 11, 12, 13, 14, 15, 16, 17, 18, 19, 20, 21]] [⟨none, .no⟩, ⟨none, .no⟩] ⟨[(0, .one (.ip (.st (.pair (.int .i64) (.pair (.int .i64) (.pair (.sl (.flt .f32)) (.pair (.sl (.flt .f32)) (.sl (.flt .f32))))))) a0 0)), (1, .one (.dat (.sl (.int .i64)) a1)), (2, .one (.dat (.int .i64) a2)), (8, .one (.dat (.sl (.flt .f32)) (List.getD y1 (Int.toNat a2) ([] : List Nat)))), (9, .one (.dat (.sl (.flt .f32)) (List.getD y4 (Int.toNat (wadd .i64 a2 (1 : Int))) ([] : List Nat)))), (10, .one (.all 0)), (11, .one (.dat (.int .i64) s7.1)), (12, .one (.dat (.int .i64) s16.1)), (13, .one (.dat (.flt .f32) (fop .mul .f32 (List.getD (List.getD y1 (Int.toNat a2) ([] : List Nat)) (Int.toNat s7.1) (0 : Nat)) (List.getD a0.2.2.2.2 (Int.toNat (wadd .i64 (wmul .i64 s7.1 a0.2.1) (List.getD a1 (Int.toNat a2) (0 : Int)))) (0 : Nat)))))], [(0, .seq (.flt .f32) s16.2)], 1⟩ hP hN (by kernel_rfl) (by kernel_rfl) (allCons hg23 (allCons hg24 (allCons hg25 allNil))) ?_
          obtain ⟨q26, hq27, hx20⟩ := of_bind hx20
          have hq27 := of_some2 hq27
          refine (Le.cv (s := ⟨[(0, 0)], [], [], false⟩) (own := []) (ps := [a0 = a0, a1 = a1, a2 = a2, (List.getD y1 (Int.toNat a2) ([] : List Nat)) = (List.getD y1 (Int.toNat a2) ([] : List Nat)), (List.getD y4 (Int.toNat (wadd .i64 a2 (1 : Int))) ([] : List Nat)) = (List.getD y4 (Int.toNat (wadd .i64 a2 (1 : Int))) ([] : List Nat)), s7.1 = s7.1, s16.1 = s16.1, q26 = (fop .mul .f32 (List.getD (List.getD y1 (Int.toNat a2) ([] : List Nat)) (Int.toNat s7.1) (0 : Nat)) (List.getD a0.2.2.2.2 (Int.toNat (wadd .i64 (wmul .i64 s7.1 a0.2.1) (List.getD a1 (Int.toNat a2) (0 : Int)))) (0 : Nat))), s16.2 = s16.2]) (st' := ⟨[(0, .one (.ip (.st (.pair (.int .i64) (.pair (.int .i64) (.pair (.sl (.flt .f32)) (.pair (.sl (.flt .f32)) (.sl (.flt .f32))))))) a0 0)), (1, .one (.dat (.sl (.int .i64)) a1)), (2, .one (.dat (.int .i64) a2)), (8, .one (.dat (.sl (.flt .f32)) (List.getD y1 (Int.toNat a2) ([] : List Nat)))), (9, .one (.dat (.sl (.flt .f32)) (List.getD y4 (Int.toNat (wadd .i64 a2 (1 : Int))) ([] : List Nat)))), (10, .one (.all 0)), (11, .one (.dat (.int .i64) s7.1)), (12, .one (.dat (.int .i64) s16.1)), (13, .one (.dat (.flt .f32) q26))], [(0, .seq (.flt .f32) s16.2)], 1⟩) hO (fun h => by cases h) (by kernel_rfl) ⟨rfl, rfl, rfl, rfl, rfl, rfl, rfl, hq27, rfl, trivial⟩).ht ?_
          obtain ⟨hg28, hx20⟩ := of_guard hx20
          obtain ⟨hg29, hx20⟩ := of_guard hx20
          obtain ⟨hg30, hx20⟩ := of_guard hx20
          refine drawS (h := 23) (hrs := [⟨⟨none, .no⟩, []⟩, ⟨⟨none, .no⟩, []⟩, ⟨⟨none, .no⟩, []⟩, ⟨⟨none, .no⟩, [2]⟩, ⟨⟨none, .no⟩, [2, 3]⟩, ⟨⟨none, .no⟩, [2, 3, 4]⟩, ⟨⟨none, .no⟩, []⟩, ⟨⟨none, .no⟩, []⟩, ⟨⟨none, .no⟩, [7]⟩, ⟨⟨none, .no⟩, [7, 8]⟩, ⟨⟨none, .no⟩, [7, 8, 9]⟩, ⟨⟨none, .no⟩, [6, 7, 8, 9, 10]⟩, ⟨⟨none, .no⟩, []⟩, ⟨⟨none, .no⟩, [6, 7, 8, 9, 10, 11, 12]⟩, ⟨⟨none, .no⟩, [2, 3, 4, 5, 6, 7, 8, 9, 10, 11, 12, 13]⟩, ⟨⟨none, .no⟩, [2, 3, 4, 5, 6, 7, 8, 9, 10, 11, 12, 13, 14]⟩, ⟨⟨none, .no⟩, [1, 2, 3, 4, 5, 6, 7, 8, 9, 10, 11, 12, 13, 14, 15]⟩, ⟨⟨none, .no⟩, []⟩, ⟨⟨none, .no⟩, []⟩, ⟨⟨none, .no⟩, [17, 18]⟩, ⟨⟨none, .no⟩, [17, 18, 19]⟩, ⟨⟨none, .no⟩, [1, 2, 3, 4, 5, 6, 7, 8, 9, 10, 11, 12, 13, 14, 15, 16, 17, 18, 19, 20]⟩, ⟨⟨none, .ty (.flt .f32)⟩, [1, 2, 3, 4, 5, 6, 7, 8, 9, 10, 11, 12, 13, 14, 15, 16, 17, 18, 19, 20, 21]⟩]) (tds := [[0, 1, 2, 3, 4, 5, 6, 7, 8, 9, 10, 11, 12, 13, 14, 15, 16, 17, 18, 19, 20, 21, 22], [0, 1, 2, 3, 4, 5, 6, 7, 8, 9, 10, 11, 12, 13, 14, 15, 16, 17, 18, 19, 20, 21, 22, 23]]) (rs := [⟨none, .ty (.flt .f32)⟩, ⟨none, .no⟩]) (st' := ⟨[(10, .one (.all 2)), (89, .one (.all 2)), (88, .one (.all 1)), (87, .one (.dat (.flt .f32) (fop .mul .f32 (fop .mul .f32 q26 (List.getD a0.2.2.2.1 (Int.toNat (wadd .i64 (wmul .i64 s7.1 a0.1) s16.1)) (0 : Nat))) (List.getD (List.getD y4 (Int.toNat (wadd .i64 a2 (1 : Int))) ([] : List Nat)) (Int.toNat s16.1) (0 : Nat))))), (86, .one (.dat (.flt .f32) (List.getD (List.getD y4 (Int.toNat (wadd .i64 a2 (1 : Int))) ([] : List Nat)) (Int.toNat s16.1) (0 : Nat)))), (85, .one (.ip (.flt .f32) (List.getD (List.getD y4 (Int.toNat (wadd .i64 a2 (1 : Int))) ([] : List Nat)) (Int.toNat s16.1) (0 : Nat)) 0)), (84, .one (.dat (.int .i64) s16.1)), (83, .one (.dat (.sl (.flt .f32)) (List.getD y4 (Int.toNat (wadd .i64 a2 (1 : Int))) ([] : List Nat)))), (82, .one (.dat (.flt .f32) (fop .mul .f32 q26 (List.getD a0.2.2.2.1 (Int.toNat (wadd .i64 (wmul .i64 s7.1 a0.1) s16.1)) (0 : Nat))))), (81, .one (.dat (.flt .f32) (List.getD a0.2.2.2.1 (Int.toNat (wadd .i64 (wmul .i64 s7.1 a0.1) s16.1)) (0 : Nat)))), (80, .one (.ip (.flt .f32) (List.getD a0.2.2.2.1 (Int.toNat (wadd .i64 (wmul .i64 s7.1 a0.1) s16.1)) (0 : Nat)) 0)), (79, .one (.dat (.int .i64) (wadd .i64 (wmul .i64 s7.1 a0.1) s16.1))), (78, .one (.dat (.int .i64) s16.1)), (77, .one (.dat (.int .i64) (wmul .i64 s7.1 a0.1))), (76, .one (.dat (.int .i64) a0.1)), (75, .one (.ip (.st (.pair (.int .i64) (.pair (.int .i64) (.pair (.sl (.flt .f32)) (.pair (.sl (.flt .f32)) (.sl (.flt .f32))))))) a0 0)), (74, .one (.ip (.st (.pair (.int .i64) (.pair (.int .i64) (.pair (.sl (.flt .f32)) (.pair (.sl (.flt .f32)) (.sl (.flt .f32))))))) a0 0)), (73, .one (.ip (.st (.pair (.int .i64) (.pair (.int .i64) (.pair (.sl (.flt .f32)) (.pair (.sl (.flt .f32)) (.sl (.flt .f32))))))) a0 0)), (72, .one (.dat (.int .i64) s7.1)), (71, .one (.dat (.sl (.flt .f32)) a0.2.2.2.1)), (70, .one (.ip (.st (.pair (.int .i64) (.pair (.int .i64) (.pair (.sl (.flt .f32)) (.pair (.sl (.flt .f32)) (.sl (.flt .f32))))))) a0 3)), (69, .one (.ip (.st (.pair (.int .i64) (.pair (.int .i64) (.pair (.sl (.flt .f32)) (.pair (.sl (.flt .f32)) (.sl (.flt .f32))))))) a0 0)), (68, .one (.ip (.st (.pair (.int .i64) (.pair (.int .i64) (.pair (.sl (.flt .f32)) (.pair (.sl (.flt .f32)) (.sl (.flt .f32))))))) a0 0)), (67, .one (.dat (.flt .f32) q26)), (66, .one (.all 0)), (0, .one (.ip (.st (.pair (.int .i64) (.pair (.int .i64) (.pair (.sl (.flt .f32)) (.pair (.sl (.flt .f32)) (.sl (.flt .f32))))))) a0 0)), (1, .one (.dat (.sl (.int .i64)) a1)), (2, .one (.dat (.int .i64) a2)), (8, .one (.dat (.sl (.flt .f32)) (List.getD y1 (Int.toNat a2) ([] : List Nat)))), (9, .one (.dat (.sl (.flt .f32)) (List.getD y4 (Int.toNat (wadd .i64 a2 (1 : Int))) ([] : List Nat)))), (10, .one (.all 0)), (11, .one (.dat (.int .i64) s7.1)), (12, .one (.dat (.int .i64) s16.1)), (13, .one (.dat (.flt .f32) q26))], [(0, .gone), (2, .seq (.flt .f32) (s16.2 ++ ([(fop .mul .f32 (fop .mul .f32 q26 (List.getD a0.2.2.2.1 (Int.toNat (wadd .i64 (wmul .i64 s7.1 a0.1) s16.1)) (0 : Nat))) (List.getD (List.getD y4 (Int.toNat (wadd .i64 a2 (1 : Int))) ([] : List Nat)) (Int.toNat s16.1) (0 : Nat)))] : List Nat))), (1, .seq (.flt .f32) ([(fop .mul .f32 (fop .mul .f32 q26 (List.getD a0.2.2.2.1 (Int.toNat (wadd .i64 (wmul .i64 s7.1 a0.1) s16.1)) (0 : Nat))) (List.getD (List.getD y4 (Int.toNat (wadd .i64 a2 (1 : Int))) ([] : List Nat)) (Int.toNat s16.1) (0 : Nat)))] : List Nat)), (0, .seq (.flt .f32) s16.2)], 3⟩) hP hN (by kernel_rfl) (by kernel_rfl) (allCons hg28 (allCons hg29 (allCons hg30 allNil))) (qBlock (qThen ?_))
          have hx20 := of_some hx20
          subst hx20
          refine HT.reg (rs := [⟨none, .no⟩, ⟨none, .no⟩, ⟨none, .no⟩]) (st' := ⟨[(12, .one (.dat (.int .i64) (wadd .i64 s16.1 (1 : Int)))), (43, .one (.dat (.int .i64) (wadd .i64 s16.1 (1 : Int)))), (42, .one (.dat (.int .i64) s16.1)), (10, .one (.all 2)), (89, .one (.all 2)), (88, .one (.all 1)), (87, .one (.dat (.flt .f32) (fop .mul .f32 (fop .mul .f32 q26 (List.getD a0.2.2.2.1 (Int.toNat (wadd .i64 (wmul .i64 s7.1 a0.1) s16.1)) (0 : Nat))) (List.getD (List.getD y4 (Int.toNat (wadd .i64 a2 (1 : Int))) ([] : List Nat)) (Int.toNat s16.1) (0 : Nat))))), (86, .one (.dat (.flt .f32) (List.getD (List.getD y4 (Int.toNat (wadd .i64 a2 (1 : Int))) ([] : List Nat)) (Int.toNat s16.1) (0 : Nat)))), (85, .one (.ip (.flt .f32) (List.getD (List.getD y4 (Int.toNat (wadd .i64 a2 (1 : Int))) ([] : List Nat)) (Int.toNat s16.1) (0 : Nat)) 0)), (84, .one (.dat (.int .i64) s16.1)), (83, .one (.dat (.sl (.flt .f32)) (List.getD y4 (Int.toNat (wadd .i64 a2 (1 : Int))) ([] : List Nat)))), (82, .one (.dat (.flt .f32) (fop .mul .f32 q26 (List.getD a0.2.2.2.1 (Int.toNat (wadd .i64 (wmul .i64 s7.1 a0.1) s16.1)) (0 : Nat))))), (81, .one (.dat (.flt .f32) (List.getD a0.2.2.2.1 (Int.toNat (wadd .i64 (wmul .i64 s7.1 a0.1) s16.1)) (0 : Nat)))), (80, .one (.ip (.flt .f32) (List.getD a0.2.2.2.1 (Int.toNat (wadd .i64 (wmul .i64 s7.1 a0.1) s16.1)) (0 : Nat)) 0)), (79, .one (.dat (.int .i64) (wadd .i64 (wmul .i64 s7.1 a0.1) s16.1))), (78, .one (.dat (.int .i64) s16.1)), (77, .one (.dat (.int .i64) (wmul .i64 s7.1 a0.1))), (76, .one (.dat (.int .i64) a0.1)), (75, .one (.ip (.st (.pair (.int .i64) (.pair (.int .i64) (.pair (.sl (.flt .f32)) (.pair (.sl (.flt .f32)) (.sl (.flt .f32))))))) a0 0)), (74, .one (.ip (.st (.pair (.int .i64) (.pair (.int .i64) (.pair (.sl (.flt .f32)) (.pair (.sl (.flt .f32)) (.sl (.flt .f32))))))) a0 0)), (73, .one (.ip (.st (.pair (.int .i64) (.pair (.int .i64) (.pair (.sl (.flt .f32)) (.pair (.sl (.flt .f32)) (.sl (.flt .f32))))))) a0 0)), (72, .one (.dat (.int .i64) s7.1)), (71, .one (.dat (.sl (.flt .f32)) a0.2.2.2.1)), (70, .one (.ip (.st (.pair (.int .i64) (.pair (.int .i64) (.pair (.sl (.flt .f32)) (.pair (.sl (.flt .f32)) (.sl (.flt .f32))))))) a0 3)), (69, .one (.ip (.st (.pair (.int .i64) (.pair (.int .i64) (.pair (.sl (.flt .f32)) (.pair (.sl (.flt .f32)) (.sl (.flt .f32))))))) a0 0)), (68, .one (.ip (.st (.pair (.int .i64) (.pair (.int .i64) (.pair (.sl (.flt .f32)) (.pair (.sl (.flt .f32)) (.sl (.flt .f32))))))) a0 0)), (67, .one (.dat (.flt .f32) q26)), (66, .one (.all 0)), (0, .one (.ip (.st (.pair (.int .i64) (.pair (.int .i64) (.pair (.sl (.flt .f32)) (.pair (.sl (.flt .f32)) (.sl (.flt .f32))))))) a0 0)), (1, .one (.dat (.sl (.int .i64)) a1)), (2, .one (.dat (.int .i64) a2)), (8, .one (.dat (.sl (.flt .f32)) (List.getD y1 (Int.toNat a2) ([] : List Nat)))), (9, .one (.dat (.sl (.flt .f32)) (List.getD y4 (Int.toNat (wadd .i64 a2 (1 : Int))) ([] : List Nat)))), (10, .one (.all 0)), (11, .one (.dat (.int .i64) s7.1)), (12, .one (.dat (.int .i64) s16.1)), (13, .one (.dat (.flt .f32) q26))], [(0, .gone), (2, .seq (.flt .f32) (s16.2 ++ ([(fop .mul .f32 (fop .mul .f32 q26 (List.getD a0.2.2.2.1 (Int.toNat (wadd .i64 (wmul .i64 s7.1 a0.1) s16.1)) (0 : Nat))) (List.getD (List.getD y4 (Int.toNat (wadd .i64 a2 (1 : Int))) ([] : List Nat)) (Int.toNat s16.1) (0 : Nat)))] : List Nat))), (1, .seq (.flt .f32) ([(fop .mul .f32 (fop .mul .f32 q26 (List.getD a0.2.2.2.1 (Int.toNat (wadd .i64 (wmul .i64 s7.1 a0.1) s16.1)) (0 : Nat))) (List.getD (List.getD y4 (Int.toNat (wadd .i64 a2 (1 : Int))) ([] : List Nat)) (Int.toNat s16.1) (0 : Nat)))] : List Nat)), (0, .seq (.flt .f32) s16.2)], 3⟩) hP hN (by kernel_rfl) allNil (qLoopN ⟨((wadd .i64 s16.1 (1 : Int)), (s16.2 ++ ([(fop .mul .f32 (fop .mul .f32 q26 (List.getD a0.2.2.2.1 (Int.toNat (wadd .i64 (wmul .i64 s7.1 a0.1) s16.1)) (0 : Nat))) (List.getD (List.getD y4 (Int.toNat (wadd .i64 a2 (1 : Int))) ([] : List Nat)) (Int.toNat s16.1) (0 : Nat)))] : List Nat))), rfl, Le.cv (s := ⟨[(2, 0)], [], [], false⟩) (own := []) (ps := [a0 = a0, a1 = a1, a2 = a2, (List.getD y1 (Int.toNat a2) ([] : List Nat)) = (List.getD y1 (Int.toNat a2) ([] : List Nat)), (List.getD y4 (Int.toNat (wadd .i64 a2 (1 : Int))) ([] : List Nat)) = (List.getD y4 (Int.toNat (wadd .i64 a2 (1 : Int))) ([] : List Nat)), s7.1 = s7.1, (wadd .i64 s16.1 (1 : Int)) = (wadd .i64 s16.1 (1 : Int)), (s16.2 ++ ([(fop .mul .f32 (fop .mul .f32 q26 (List.getD a0.2.2.2.1 (Int.toNat (wadd .i64 (wmul .i64 s7.1 a0.1) s16.1)) (0 : Nat))) (List.getD (List.getD y4 (Int.toNat (wadd .i64 a2 (1 : Int))) ([] : List Nat)) (Int.toNat s16.1) (0 : Nat)))] : List Nat)) = (s16.2 ++ ([(fop .mul .f32 (fop .mul .f32 q26 (List.getD a0.2.2.2.1 (Int.toNat (wadd .i64 (wmul .i64 s7.1 a0.1) s16.1)) (0 : Nat))) (List.getD (List.getD y4 (Int.toNat (wadd .i64 a2 (1 : Int))) ([] : List Nat)) (Int.toNat s16.1) (0 : Nat)))] : List Nat))]) (st' := ⟨[(0, .one (.ip (.st (.pair (.int .i64) (.pair (.int .i64) (.pair (.sl (.flt .f32)) (.pair (.sl (.flt .f32)) (.sl (.flt .f32))))))) a0 0)), (1, .one (.dat (.sl (.int .i64)) a1)), (2, .one (.dat (.int .i64) a2)), (8, .one (.dat (.sl (.flt .f32)) (List.getD y1 (Int.toNat a2) ([] : List Nat)))), (9, .one (.dat (.sl (.flt .f32)) (List.getD y4 (Int.toNat (wadd .i64 a2 (1 : Int))) ([] : List Nat)))), (10, .one (.all 0)), (11, .one (.dat (.int .i64) s7.1)), (12, .one (.dat (.int .i64) (wadd .i64 s16.1 (1 : Int))))], [(0, .seq (.flt .f32) (s16.2 ++ ([(fop .mul .f32 (fop .mul .f32 q26 (List.getD a0.2.2.2.1 (Int.toNat (wadd .i64 (wmul .i64 s7.1 a0.1) s16.1)) (0 : Nat))) (List.getD (List.getD y4 (Int.toNat (wadd .i64 a2 (1 : Int))) ([] : List Nat)) (Int.toNat s16.1) (0 : Nat)))] : List Nat)))], 1⟩) hO (fun h => by cases h) (by kernel_rfl) ⟨rfl, rfl, rfl, rfl, rfl, rfl, rfl, rfl, trivial⟩⟩)
        · refine HT.cond0 rfl hb22 ?_
          have hx20 := of_some hx20
          subst hx20
          refine (Le.cv (s := ⟨[(0, 0)], [], [], false⟩) (own := []) (ps := [a0 = a0, a1 = a1, a2 = a2, (List.getD y1 (Int.toNat a2) ([] : List Nat)) = (List.getD y1 (Int.toNat a2) ([] : List Nat)), (List.getD y4 (Int.toNat (wadd .i64 a2 (1 : Int))) ([] : List Nat)) = (List.getD y4 (Int.toNat (wadd .i64 a2 (1 : Int))) ([] : List Nat)), s7.1 = s7.1, s16.2 = s16.2]) (st' := ⟨[(0, .one (.ip (.st (.pair (.int .i64) (.pair (.int .i64) (.pair (.sl (.flt .f32)) (.pair (.sl (.flt .f32)) (.sl (.flt .f32))))))) a0 0)), (1, .one (.dat (.sl (.int .i64)) a1)), (2, .one (.dat (.int .i64) a2)), (8, .one (.dat (.sl (.flt .f32)) (List.getD y1 (Int.toNat a2) ([] : List Nat)))), (9, .one (.dat (.sl (.flt .f32)) (List.getD y4 (Int.toNat (wadd .i64 a2 (1 : Int))) ([] : List Nat)))), (10, .one (.all 0)), (11, .one (.dat (.int .i64) s7.1))], [(0, .seq (.flt .f32) s16.2)], 1⟩) hO (fun h => by cases h) (by kernel_rfl) ⟨rfl, rfl, rfl, rfl, rfl, rfl, rfl, trivial⟩).ht ?_
          exact HT.exit (qThenE (qLoopE (hk21 s16.2 rfl)))
    · refine HT.cond0 rfl hb15 ?_
      have hx13 := of_some hx13
      subst hx13
      refine (Le.cv (s := ⟨[(0, 0)], [], [], false⟩) (own := []) (ps := [s7.2 = s7.2]) (st' := ⟨[(10, .one (.all 0))], [(0, .seq (.flt .f32) s7.2)], 1⟩) hO (fun h => by cases h) (by kernel_rfl) ⟨rfl, trivial⟩).ht ?_
      exact HT.exit (qThenE (qLoopE (hk14 s7.2 rfl)))

noncomputable def spec_l02Share (a0 : Nat) : Option (Bool) :=
  (show Option (Bool) from
    bif (fge .f32 a0 (0 : Nat)) then
      some (fle .f32 a0 (1065353216 : Nat))
    else
      some false).bind fun v1 =>
  some v1

theorem f126_ok {a0 : Nat} {r : Bool} (hr : spec_l02Share a0 = some r) : CallOK Try.prog 126 [.imm (.flt .f32) a0] [⟨false, .bool, r⟩] [] := by
  unfold spec_l02Share at hr
  refine CallOK.of_body (ts := [(false, .bool)]) Try.func126 rfl (by kernel_rfl) (Nat.le_of_ble_eq_true (by kernel_rfl)) fun cx hP hN hO hF => ?_
  have hO : cx.own.map Prod.fst = [] := hO
  have hF := hF rfl
  show HT cx ⟨[(0, .one (.dat (.flt .f32) a0))], [], 0⟩ _ _
  refine HT.reg1 [0] [⟨none, .no⟩] ⟨[(0, .one (.dat (.flt .f32) a0))], [], 0⟩ hP hN (by kernel_rfl) allNil ?_
  obtain ⟨v1', hT3, hr⟩ := of_bind hr
  refine HT.join (fun (v1 : Bool) => ⟨[(2, .one (.dat .bool v1))], [], 0⟩) (fun v => v = v1') (fun v1 hv2 => ?_) (fun cont => ?_)
  · subst hv2
    have hr := of_some hr
    subst hr
    exact HT.ret ⟨[.one (.dat .bool v1)], [], [], by kernel_rfl, by kernel_rfl, rfl, by kernel_rfl, by kernel_rfl, trivial⟩
  · rcases of_bif hT3 with ⟨hb4, hT3⟩ | ⟨hb4, hT3⟩
    · refine HT.reg (rs := [⟨none, .no⟩, ⟨none, .no⟩, ⟨none, .no⟩, ⟨some true, .no⟩, ⟨some true, .no⟩, ⟨none, .tv true⟩, ⟨none, .no⟩]) (st' := ⟨[(2, .one (.dat .bool (fle .f32 a0 (1065353216 : Nat)))), (8, .one (.dat .bool (fle .f32 a0 (1065353216 : Nat)))), (7, .one (.dat .bool (fle .f32 a0 (1065353216 : Nat)))), (6, .one (.dat (.flt .f32) a0)), (5, .one (.dat .bool (fge .f32 a0 (0 : Nat)))), (4, .one (.dat .bool (fge .f32 a0 (0 : Nat)))), (3, .one (.dat (.flt .f32) a0)), (0, .one (.dat (.flt .f32) a0))], [], 0⟩) hP hN (by kernel_rfl) (allCons hb4 (allCons hb4 (allCons hb4 allNil))) (qThen ?_)
      exact (Le.cv (s := ⟨[], [], [], false⟩) (own := []) (ps := [(fle .f32 a0 (1065353216 : Nat)) = (fle .f32 a0 (1065353216 : Nat))]) (st' := ⟨[(2, .one (.dat .bool (fle .f32 a0 (1065353216 : Nat))))], [], 0⟩) hO (fun h => by cases h) (by kernel_rfl) ⟨rfl, trivial⟩).ht (cont (fle .f32 a0 (1065353216 : Nat)) (of_some hT3))
    · refine HT.reg (rs := [⟨none, .no⟩, ⟨none, .no⟩, ⟨none, .no⟩, ⟨some false, .no⟩, ⟨some false, .no⟩, ⟨none, .tv false⟩, ⟨none, .no⟩]) (st' := ⟨[(2, .one (.dat .bool false)), (8, .one (.dat .bool false)), (7, .und), (6, .und), (5, .one (.dat .bool (fge .f32 a0 (0 : Nat)))), (4, .one (.dat .bool (fge .f32 a0 (0 : Nat)))), (3, .one (.dat (.flt .f32) a0)), (0, .one (.dat (.flt .f32) a0))], [], 0⟩) hP hN (by kernel_rfl) (allCons hb4 (allCons hb4 (allCons hb4 allNil))) (qThen ?_)
      exact (Le.cv (s := ⟨[], [], [], false⟩) (own := []) (ps := [false = false]) (st' := ⟨[(2, .one (.dat .bool false))], [], 0⟩) hO (fun h => by cases h) (by kernel_rfl) ⟨rfl, trivial⟩).ht (cont false (of_some hT3))

noncomputable def spec_l03Row_B1 (a0 : List Nat) (s1 : Nat × Int) : Option ((Nat × Int) ⊕ (Nat ⊕ Unit)) :=
  bif (decide (s1.2 < (lenI a0))) then
    guardP ((0 : Int) ≤ s1.2 ∧ s1.2 < lenI a0) (
      (spec_l02Share (List.getD a0 (Int.toNat s1.2) (0 : Nat))).bind fun y14 =>
      bif (!y14) then
        some (.inr (.inr ()))
      else
        some (.inl ((fop .add .f32 s1.1 (List.getD a0 (Int.toNat s1.2) (0 : Nat))), (wadd .i64 s1.2 (1 : Int)))))
  else
    some (.inr (.inl s1.1))

noncomputable def spec_l03Row (a0 : List Nat) : Option (Bool) :=
  (rounds (spec_l03Row_B1 a0) ((0 : Nat), (0 : Int))).bind fun r2 => match r2 with
    | .inl r3 =>
      (show Option (Bool) from
        bif (fle .f32 (fop .sub .f32 r3 (1065353216 : Nat)) (981668463 : Nat)) then
          some (fge .f32 (fop .sub .f32 r3 (1065353216 : Nat)) (3129152111 : Nat))
        else
          some false).bind fun v4 =>
      some v4
    | .inr r8 =>
      some false

theorem f101_ok {a0 : List Nat} {r : Bool} (hr : spec_l03Row a0 = some r) : CallOK Try.prog 101 [.imm (.sl (.flt .f32)) a0] [⟨false, .bool, r⟩] [] := by
  unfold spec_l03Row at hr
  refine CallOK.of_body (ts := [(false, .bool)]) Try.func101 rfl (by kernel_rfl) (Nat.le_of_ble_eq_true (by kernel_rfl)) fun cx hP hN hO hF => ?_
  have hO : cx.own.map Prod.fst = [] := hO
  have hF := hF rfl
  show HT cx ⟨[(0, .one (.dat (.sl (.flt .f32)) a0))], [], 0⟩ _ _
  refine HT.reg1 [0] [⟨none, .no⟩] ⟨[(0, .one (.dat (.sl (.flt .f32)) a0))], [], 0⟩ hP hN (by kernel_rfl) allNil ?_
  refine HT.reg1 [0, 3] [⟨none, .no⟩] ⟨[(0, .one (.dat (.sl (.flt .f32)) a0)), (3, .one (.dat (.flt .f32) (0 : Nat)))], [], 0⟩ hP hN (by kernel_rfl) allNil ?_
  refine HT.seq ?_
  refine HT.reg1 [0, 3, 6, 7] [⟨none, .no⟩, ⟨none, .no⟩, ⟨none, .no⟩] ⟨[(0, .one (.dat (.sl (.flt .f32)) a0)), (3, .one (.dat (.flt .f32) (0 : Nat))), (6, .one (.dat (.int .i64) (lenI a0))), (7, .one (.dat (.int .i64) (0 : Int)))], [], 0⟩ hP hN (by kernel_rfl) allNil ?_
  refine HT.block ?_
  obtain ⟨r2, hL17, hr⟩ := of_bind hr
  refine (Le.cv (s := ⟨[], [], [], false⟩) (own := []) (ps := [a0 = a0, (0 : Nat) = (0 : Nat), (lenI a0) = (lenI a0), (0 : Int) = (0 : Int)]) (st' := ⟨[(0, .one (.dat (.sl (.flt .f32)) a0)), (3, .one (.dat (.flt .f32) (0 : Nat))), (6, .one (.dat (.int .i64) (lenI a0))), (7, .one (.dat (.int .i64) (0 : Int)))], [], 0⟩) hO (fun h => by cases h) (by kernel_rfl) ⟨rfl, rfl, rfl, rfl, trivial⟩).ht ?_
  refine HT.loopE (s := ((0 : Nat), (0 : Int))) (fun (s1 : Nat × Int) => ⟨[(0, .one (.dat (.sl (.flt .f32)) a0)), (3, .one (.dat (.flt .f32) s1.1)), (6, .one (.dat (.int .i64) (lenI a0))), (7, .one (.dat (.int .i64) s1.2))], [], 0⟩) (fun (r2 : Nat ⊕ Unit) => match r2 with | .inl r3 => (.exit 0, ⟨[(3, .one (.dat (.flt .f32) r3))], [], 0⟩) | .inr r8 => (.ret, ⟨[(2, .one (.dat .bool false))], [], 0⟩)) hL17 ?_ (fun s1 x9 hx10 hk11 => ?_)
  · rcases r2 with r3 | r8
    · refine (qBlockX (qThen ?_))
      obtain ⟨v4', hT6, hr⟩ := of_bind hr
      refine HT.join (fun (v4 : Bool) => ⟨[(2, .one (.dat .bool v4))], [], 0⟩) (fun v => v = v4') (fun v4 hv5 => ?_) (fun cont => ?_)
      · subst hv5
        have hr := of_some hr
        subst hr
        exact HT.ret ⟨[.one (.dat .bool v4)], [], [], by kernel_rfl, by kernel_rfl, rfl, by kernel_rfl, by kernel_rfl, trivial⟩
      · rcases of_bif hT6 with ⟨hb7, hT6⟩ | ⟨hb7, hT6⟩
        · refine HT.reg (rs := [⟨none, .no⟩, ⟨none, .no⟩, ⟨none, .no⟩, ⟨none, .no⟩, ⟨some true, .no⟩, ⟨some true, .no⟩, ⟨some true, .no⟩, ⟨none, .tv true⟩, ⟨none, .no⟩]) (st' := ⟨[(2, .one (.dat .bool (fge .f32 (fop .sub .f32 r3 (1065353216 : Nat)) (3129152111 : Nat)))), (30, .one (.dat .bool (fge .f32 (fop .sub .f32 r3 (1065353216 : Nat)) (3129152111 : Nat)))), (29, .one (.dat .bool (fge .f32 (fop .sub .f32 r3 (1065353216 : Nat)) (3129152111 : Nat)))), (28, .one (.dat (.flt .f32) (fop .sub .f32 r3 (1065353216 : Nat)))), (27, .one (.dat (.flt .f32) r3)), (26, .one (.dat .bool (fle .f32 (fop .sub .f32 r3 (1065353216 : Nat)) (981668463 : Nat)))), (25, .one (.dat .bool (fle .f32 (fop .sub .f32 r3 (1065353216 : Nat)) (981668463 : Nat)))), (24, .one (.dat (.flt .f32) (fop .sub .f32 r3 (1065353216 : Nat)))), (23, .one (.dat (.flt .f32) r3)), (3, .one (.dat (.flt .f32) r3))], [], 0⟩) hP hN (by kernel_rfl) (allCons hb7 (allCons hb7 (allCons hb7 (allCons hb7 allNil)))) (qThen ?_)
          exact (Le.cv (s := ⟨[], [], [], false⟩) (own := []) (ps := [(fge .f32 (fop .sub .f32 r3 (1065353216 : Nat)) (3129152111 : Nat)) = (fge .f32 (fop .sub .f32 r3 (1065353216 : Nat)) (3129152111 : Nat))]) (st' := ⟨[(2, .one (.dat .bool (fge .f32 (fop .sub .f32 r3 (1065353216 : Nat)) (3129152111 : Nat))))], [], 0⟩) hO (fun h => by cases h) (by kernel_rfl) ⟨rfl, trivial⟩).ht (cont (fge .f32 (fop .sub .f32 r3 (1065353216 : Nat)) (3129152111 : Nat)) (of_some hT6))
        · refine HT.reg (rs := [⟨none, .no⟩, ⟨none, .no⟩, ⟨none, .no⟩, ⟨none, .no⟩, ⟨some false, .no⟩, ⟨some false, .no⟩, ⟨some false, .no⟩, ⟨none, .tv false⟩, ⟨none, .no⟩]) (st' := ⟨[(2, .one (.dat .bool false)), (30, .one (.dat .bool false)), (29, .und), (28, .und), (27, .und), (26, .one (.dat .bool (fle .f32 (fop .sub .f32 r3 (1065353216 : Nat)) (981668463 : Nat)))), (25, .one (.dat .bool (fle .f32 (fop .sub .f32 r3 (1065353216 : Nat)) (981668463 : Nat)))), (24, .one (.dat (.flt .f32) (fop .sub .f32 r3 (1065353216 : Nat)))), (23, .one (.dat (.flt .f32) r3)), (3, .one (.dat (.flt .f32) r3))], [], 0⟩) hP hN (by kernel_rfl) (allCons hb7 (allCons hb7 (allCons hb7 (allCons hb7 allNil)))) (qThen ?_)
          exact (Le.cv (s := ⟨[], [], [], false⟩) (own := []) (ps := [false = false]) (st' := ⟨[(2, .one (.dat .bool false))], [], 0⟩) hO (fun h => by cases h) (by kernel_rfl) ⟨rfl, trivial⟩).ht (cont false (of_some hT6))
    · have hr := of_some hr
      subst hr
      exact (qBlockR (qThenR ⟨[.one (.dat .bool false)], [], [], by kernel_rfl, by kernel_rfl, rfl, by kernel_rfl, by kernel_rfl, trivial⟩))
  · refine HT.reg1 [0, 3, 6, 7, 8] [⟨none, .no⟩] ⟨[(0, .one (.dat (.sl (.flt .f32)) a0)), (3, .one (.dat (.flt .f32) s1.1)), (6, .one (.dat (.int .i64) (lenI a0))), (7, .one (.dat (.int .i64) s1.2)), (8, .one (.dat .bool (decide (s1.2 < (lenI a0)))))], [], 0⟩ hP hN (by kernel_rfl) allNil ?_
    refine HT.seq ?_
    rcases of_bif hx10 with ⟨hb12, hx10⟩ | ⟨hb12, hx10⟩
    · refine HT.cond1 rfl hb12 ?_
      refine HT.skip (qThen ?_)
      refine HT.seq ?_
      refine HT.block ?_
      refine HT.reg1 [0, 3, 4, 6, 7] [⟨none, .no⟩, ⟨none, .no⟩] ⟨[(0, .one (.dat (.sl (.flt .f32)) a0)), (3, .one (.dat (.flt .f32) s1.1)), (4, .one (.dat (.int .i64) s1.2)), (6, .one (.dat (.int .i64) (lenI a0))), (7, .one (.dat (.int .i64) s1.2))], [], 0⟩ hP hN (by kernel_rfl) allNil ?_
      refine HT.seq ?_
      obtain ⟨hg13, hx10⟩ := of_guard hx10
      obtain ⟨y14, hc15, hx10⟩ := of_bind hx10
      refine HT.reg1 [0, 3, 4, 6, 7, 15] [⟨none, .no⟩, ⟨none, .no⟩, ⟨none, .no⟩, ⟨none, .no⟩, ⟨none, .call [.imm (.flt .f32)] [⟨false, .bool, y14⟩] []⟩, ⟨none, .no⟩] ⟨[(0, .one (.dat (.sl (.flt .f32)) a0)), (3, .one (.dat (.flt .f32) s1.1)), (4, .one (.dat (.int .i64) s1.2)), (6, .one (.dat (.int .i64) (lenI a0))), (7, .one (.dat (.int .i64) s1.2)), (15, .one (.dat .bool (!y14)))], [], 0⟩ hP hN (by kernel_rfl) (allCons hg13 (allCons (f126_ok hc15) allNil)) ?_
      rcases of_bif hx10 with ⟨hb16, hx10⟩ | ⟨hb16, hx10⟩
      · refine HT.cond1 rfl hb16 ?_
        refine HT.reg1 [2] [⟨none, .no⟩] ⟨[(2, .one (.dat .bool false))], [], 0⟩ hP hN (by kernel_rfl) allNil ?_
        have hx10 := of_some hx10
        subst hx10
        refine (Le.cv (s := ⟨[], [], [], false⟩) (own := []) (ps := [false = false]) (st' := ⟨[(2, .one (.dat .bool false))], [], 0⟩) hO (fun h => by cases h) (by kernel_rfl) ⟨rfl, trivial⟩).ht ?_
        exact HT.ret (qThenR (qBlockR (qThenR (qLoopR (hk11 (.inr ()) rfl)))))
      · refine HT.cond0 rfl hb16 ?_
        refine HT.skip (qThen ?_)
        refine HT.reg (rs := [⟨none, .no⟩, ⟨none, .no⟩, ⟨none, .no⟩, ⟨none, .no⟩, ⟨none, .no⟩, ⟨none, .no⟩, ⟨none, .no⟩]) (st' := ⟨[(3, .one (.dat (.flt .f32) (fop .add .f32 s1.1 (List.getD a0 (Int.toNat s1.2) (0 : Nat))))), (21, .one (.dat (.flt .f32) (fop .add .f32 s1.1 (List.getD a0 (Int.toNat s1.2) (0 : Nat))))), (20, .one (.dat (.flt .f32) (List.getD a0 (Int.toNat s1.2) (0 : Nat)))), (19, .one (.ip (.flt .f32) (List.getD a0 (Int.toNat s1.2) (0 : Nat)) 0)), (18, .one (.dat (.int .i64) s1.2)), (17, .one (.dat (.sl (.flt .f32)) a0)), (16, .one (.dat (.flt .f32) s1.1)), (0, .one (.dat (.sl (.flt .f32)) a0)), (3, .one (.dat (.flt .f32) s1.1)), (4, .one (.dat (.int .i64) s1.2)), (6, .one (.dat (.int .i64) (lenI a0))), (7, .one (.dat (.int .i64) s1.2)), (15, .one (.dat .bool (!y14)))], [], 0⟩) hP hN (by kernel_rfl) (allCons hg13 allNil) (qBlock (qThen ?_))
        have hx10 := of_some hx10
        subst hx10
        refine HT.reg (rs := [⟨none, .no⟩, ⟨none, .no⟩]) (st' := ⟨[(7, .one (.dat (.int .i64) (wadd .i64 s1.2 (1 : Int)))), (22, .one (.dat (.int .i64) (wadd .i64 s1.2 (1 : Int)))), (3, .one (.dat (.flt .f32) (fop .add .f32 s1.1 (List.getD a0 (Int.toNat s1.2) (0 : Nat))))), (21, .one (.dat (.flt .f32) (fop .add .f32 s1.1 (List.getD a0 (Int.toNat s1.2) (0 : Nat))))), (20, .one (.dat (.flt .f32) (List.getD a0 (Int.toNat s1.2) (0 : Nat)))), (19, .one (.ip (.flt .f32) (List.getD a0 (Int.toNat s1.2) (0 : Nat)) 0)), (18, .one (.dat (.int .i64) s1.2)), (17, .one (.dat (.sl (.flt .f32)) a0)), (16, .one (.dat (.flt .f32) s1.1)), (0, .one (.dat (.sl (.flt .f32)) a0)), (3, .one (.dat (.flt .f32) s1.1)), (4, .one (.dat (.int .i64) s1.2)), (6, .one (.dat (.int .i64) (lenI a0))), (7, .one (.dat (.int .i64) s1.2)), (15, .one (.dat .bool (!y14)))], [], 0⟩) hP hN (by kernel_rfl) allNil (qLoopN ⟨((fop .add .f32 s1.1 (List.getD a0 (Int.toNat s1.2) (0 : Nat))), (wadd .i64 s1.2 (1 : Int))), rfl, Le.cv (s := ⟨[], [], [], false⟩) (own := []) (ps := [a0 = a0, (fop .add .f32 s1.1 (List.getD a0 (Int.toNat s1.2) (0 : Nat))) = (fop .add .f32 s1.1 (List.getD a0 (Int.toNat s1.2) (0 : Nat))), (lenI a0) = (lenI a0), (wadd .i64 s1.2 (1 : Int)) = (wadd .i64 s1.2 (1 : Int))]) (st' := ⟨[(0, .one (.dat (.sl (.flt .f32)) a0)), (3, .one (.dat (.flt .f32) (fop .add .f32 s1.1 (List.getD a0 (Int.toNat s1.2) (0 : Nat))))), (6, .one (.dat (.int .i64) (lenI a0))), (7, .one (.dat (.int .i64) (wadd .i64 s1.2 (1 : Int))))], [], 0⟩) hO (fun h => by cases h) (by kernel_rfl) ⟨rfl, rfl, rfl, rfl, trivial⟩⟩)
    · refine HT.cond0 rfl hb12 ?_
      have hx10 := of_some hx10
      subst hx10
      refine (Le.cv (s := ⟨[], [], [], false⟩) (own := []) (ps := [s1.1 = s1.1]) (st' := ⟨[(3, .one (.dat (.flt .f32) s1.1))], [], 0⟩) hO (fun h => by cases h) (by kernel_rfl) ⟨rfl, trivial⟩).ht ?_
      exact HT.exit (qThenE (qLoopE (hk11 (.inl s1.1) rfl)))

noncomputable def spec_l00In (a0 : Int) (a1 : Int) (a2 : Int) : Option (Bool) :=
  (show Option (Bool) from
    bif (decide (a0 ≥ a1)) then
      some (decide (a0 ≤ a2))
    else
      some false).bind fun v1 =>
  some v1

theorem f52_ok {a0 : Int} {a1 : Int} {a2 : Int} {r : Bool} (hr : spec_l00In a0 a1 a2 = some r) : CallOK Try.prog 52 [.imm (.int .i64) a0, .imm (.int .i64) a1, .imm (.int .i64) a2] [⟨false, .bool, r⟩] [] := by
  unfold spec_l00In at hr
  refine CallOK.of_body (ts := [(false, .bool)]) Try.func52 rfl (by kernel_rfl) (Nat.le_of_ble_eq_true (by kernel_rfl)) fun cx hP hN hO hF => ?_
  have hO : cx.own.map Prod.fst = [] := hO
  have hF := hF rfl
  show HT cx ⟨[(0, .one (.dat (.int .i64) a0)), (1, .one (.dat (.int .i64) a1)), (2, .one (.dat (.int .i64) a2))], [], 0⟩ _ _
  refine HT.reg1 [0, 1, 2] [⟨none, .no⟩] ⟨[(0, .one (.dat (.int .i64) a0)), (1, .one (.dat (.int .i64) a1)), (2, .one (.dat (.int .i64) a2))], [], 0⟩ hP hN (by kernel_rfl) allNil ?_
  obtain ⟨v1', hT3, hr⟩ := of_bind hr
  refine HT.join (fun (v1 : Bool) => ⟨[(6, .one (.dat .bool v1))], [], 0⟩) (fun v => v = v1') (fun v1 hv2 => ?_) (fun cont => ?_)
  · subst hv2
    have hr := of_some hr
    subst hr
    exact HT.ret ⟨[.one (.dat .bool v1)], [], [], by kernel_rfl, by kernel_rfl, rfl, by kernel_rfl, by kernel_rfl, trivial⟩
  · rcases of_bif hT3 with ⟨hb4, hT3⟩ | ⟨hb4, hT3⟩
    · refine HT.reg (rs := [⟨none, .no⟩, ⟨none, .no⟩, ⟨none, .no⟩, ⟨none, .no⟩, ⟨some true, .no⟩, ⟨some true, .no⟩, ⟨some true, .no⟩, ⟨none, .tv true⟩, ⟨none, .no⟩]) (st' := ⟨[(6, .one (.dat .bool (decide (a0 ≤ a2)))), (14, .one (.dat .bool (decide (a0 ≤ a2)))), (13, .one (.dat .bool (decide (a0 ≤ a2)))), (12, .one (.dat (.int .i64) a2)), (11, .one (.dat (.int .i64) a0)), (10, .one (.dat .bool (decide (a0 ≥ a1)))), (9, .one (.dat .bool (decide (a0 ≥ a1)))), (8, .one (.dat (.int .i64) a1)), (7, .one (.dat (.int .i64) a0)), (0, .one (.dat (.int .i64) a0)), (1, .one (.dat (.int .i64) a1)), (2, .one (.dat (.int .i64) a2))], [], 0⟩) hP hN (by kernel_rfl) (allCons hb4 (allCons hb4 (allCons hb4 (allCons hb4 allNil)))) (qThen ?_)
      exact (Le.cv (s := ⟨[], [], [], false⟩) (own := []) (ps := [(decide (a0 ≤ a2)) = (decide (a0 ≤ a2))]) (st' := ⟨[(6, .one (.dat .bool (decide (a0 ≤ a2))))], [], 0⟩) hO (fun h => by cases h) (by kernel_rfl) ⟨rfl, trivial⟩).ht (cont (decide (a0 ≤ a2)) (of_some hT3))
    · refine HT.reg (rs := [⟨none, .no⟩, ⟨none, .no⟩, ⟨none, .no⟩, ⟨none, .no⟩, ⟨some false, .no⟩, ⟨some false, .no⟩, ⟨some false, .no⟩, ⟨none, .tv false⟩, ⟨none, .no⟩]) (st' := ⟨[(6, .one (.dat .bool false)), (14, .one (.dat .bool false)), (13, .und), (12, .und), (11, .und), (10, .one (.dat .bool (decide (a0 ≥ a1)))), (9, .one (.dat .bool (decide (a0 ≥ a1)))), (8, .one (.dat (.int .i64) a1)), (7, .one (.dat (.int .i64) a0)), (0, .one (.dat (.int .i64) a0)), (1, .one (.dat (.int .i64) a1)), (2, .one (.dat (.int .i64) a2))], [], 0⟩) hP hN (by kernel_rfl) (allCons hb4 (allCons hb4 (allCons hb4 (allCons hb4 allNil)))) (qThen ?_)
      exact (Le.cv (s := ⟨[], [], [], false⟩) (own := []) (ps := [false = false]) (st' := ⟨[(6, .one (.dat .bool false))], [], 0⟩) hO (fun h => by cases h) (by kernel_rfl) ⟨rfl, trivial⟩).ht (cont false (of_some hT3))

noncomputable def spec_l03Is_B1 (a0 : Int × Int × List Nat × List Nat × List Nat) (s5 : Int) : Option ((Int) ⊕ (Unit ⊕ Unit)) :=
  bif (decide (s5 < a0.1)) then
    (show Option (Bool) from
      guardP ((0 : Int) ≤ (wmul .i64 s5 a0.1) ∧ (wmul .i64 s5 a0.1) ≤ (wadd .i64 (wmul .i64 s5 a0.1) a0.1) ∧ (wadd .i64 (wmul .i64 s5 a0.1) a0.1) ≤ lenI a0.2.2.2.1) (
        (spec_l03Row (cut a0.2.2.2.1 (wmul .i64 s5 a0.1) (wadd .i64 (wmul .i64 s5 a0.1) a0.1))).bind fun y18 =>
        bif (!y18) then
          some true
        else
          guardP ((0 : Int) ≤ (wmul .i64 s5 a0.2.1) ∧ (wmul .i64 s5 a0.2.1) ≤ (wadd .i64 (wmul .i64 s5 a0.2.1) a0.2.1) ∧ (wadd .i64 (wmul .i64 s5 a0.2.1) a0.2.1) ≤ lenI a0.2.2.2.2) (
            (spec_l03Row (cut a0.2.2.2.2 (wmul .i64 s5 a0.2.1) (wadd .i64 (wmul .i64 s5 a0.2.1) a0.2.1))).bind fun y22 =>
            some (!y22)))).bind fun v13 =>
    bif v13 then
      some (.inr (.inr ()))
    else
      some (.inl (wadd .i64 s5 (1 : Int)))
  else
    some (.inr (.inl ()))

noncomputable def spec_l03Is (a0 : Int × Int × List Nat × List Nat × List Nat) : Option (Bool) :=
  (show Option (Bool) from
    (spec_l00In a0.1 (1 : Int) (5 : Int)).bind fun y25 =>
    bif (!y25) then
      some true
    else
      (spec_l00In a0.2.1 (1 : Int) (4 : Int)).bind fun y28 =>
      bif (!y28) then
        some true
      else
        bif ((lenI a0.2.2.1) != a0.1) then
          some true
        else
          bif ((lenI a0.2.2.2.1) != (wmul .i64 a0.1 a0.1)) then
            some true
          else
            bif ((lenI a0.2.2.2.2) != (wmul .i64 a0.1 a0.2.1)) then
              some true
            else
              (spec_l03Row a0.2.2.1).bind fun y34 =>
              some (!y34)).bind fun v1 =>
  bif v1 then
    some false
  else
    (rounds (spec_l03Is_B1 a0) (0 : Int)).bind fun r6 => match r6 with
      | .inl r7 =>
        some true
      | .inr r8 =>
        some false

theorem f76_ok {a0 : Int × Int × List Nat × List Nat × List Nat} {r : Bool} (hr : spec_l03Is a0 = some r) : CallOK Try.prog 76 [.pimm (.st (.pair (.int .i64) (.pair (.int .i64) (.pair (.sl (.flt .f32)) (.pair (.sl (.flt .f32)) (.sl (.flt .f32))))))) a0] [⟨false, .bool, r⟩] [] := by
  unfold spec_l03Is at hr
  refine CallOK.of_body (ts := [(false, .bool)]) Try.func76 rfl (by kernel_rfl) (Nat.le_of_ble_eq_true (by kernel_rfl)) fun cx hP hN hO hF => ?_
  have hO : cx.own.map Prod.fst = [] := hO
  have hF := hF rfl
  show HT cx ⟨[(0, .one (.ip (.st (.pair (.int .i64) (.pair (.int .i64) (.pair (.sl (.flt .f32)) (.pair (.sl (.flt .f32)) (.sl (.flt .f32))))))) a0 0))], [], 0⟩ _ _
  refine HT.reg1 [0] [⟨none, .no⟩] ⟨[(0, .one (.ip (.st (.pair (.int .i64) (.pair (.int .i64) (.pair (.sl (.flt .f32)) (.pair (.sl (.flt .f32)) (.sl (.flt .f32))))))) a0 0))], [], 0⟩ hP hN (by kernel_rfl) allNil ?_
  refine HT.reg1 [0, 3] [⟨none, .no⟩, ⟨none, .no⟩, ⟨none, .no⟩, ⟨none, .no⟩, ⟨none, .no⟩] ⟨[(0, .one (.ip (.st (.pair (.int .i64) (.pair (.int .i64) (.pair (.sl (.flt .f32)) (.pair (.sl (.flt .f32)) (.sl (.flt .f32))))))) a0 0)), (3, .one (.dat (.int .i64) a0.1))], [], 0⟩ hP hN (by kernel_rfl) allNil ?_
  refine HT.reg1 [0, 3, 4] [⟨none, .no⟩, ⟨none, .no⟩, ⟨none, .no⟩, ⟨none, .no⟩, ⟨none, .no⟩] ⟨[(0, .one (.ip (.st (.pair (.int .i64) (.pair (.int .i64) (.pair (.sl (.flt .f32)) (.pair (.sl (.flt .f32)) (.sl (.flt .f32))))))) a0 0)), (3, .one (.dat (.int .i64) a0.1)), (4, .one (.dat (.int .i64) a0.2.1))], [], 0⟩ hP hN (by kernel_rfl) allNil ?_
  refine HT.seq ?_
  obtain ⟨v1', hT3, hr⟩ := of_bind hr
  refine HT.join (fun (v1 : Bool) => ⟨[(0, .one (.ip (.st (.pair (.int .i64) (.pair (.int .i64) (.pair (.sl (.flt .f32)) (.pair (.sl (.flt .f32)) (.sl (.flt .f32))))))) a0 0)), (3, .one (.dat (.int .i64) a0.1)), (4, .one (.dat (.int .i64) a0.2.1)), (60, .one (.dat .bool v1))], [], 0⟩) (fun v => v = v1') (fun v1 hv2 => ?_) (fun cont => ?_)
  · subst hv2
    rcases of_bif hr with ⟨hb4, hr⟩ | ⟨hb4, hr⟩
    · refine HT.cond1 rfl hb4 ?_
      refine HT.reg1 [2] [⟨none, .no⟩] ⟨[(2, .one (.dat .bool false))], [], 0⟩ hP hN (by kernel_rfl) allNil ?_
      have hr := of_some hr
      subst hr
      exact HT.ret (qThenR ⟨[.one (.dat .bool false)], [], [], by kernel_rfl, by kernel_rfl, rfl, by kernel_rfl, by kernel_rfl, trivial⟩)
    · refine HT.cond0 rfl hb4 ?_
      refine HT.skip (qThen ?_)
      refine HT.seq ?_
      refine HT.reg1 [0, 3, 4, 5] [⟨none, .no⟩] ⟨[(0, .one (.ip (.st (.pair (.int .i64) (.pair (.int .i64) (.pair (.sl (.flt .f32)) (.pair (.sl (.flt .f32)) (.sl (.flt .f32))))))) a0 0)), (3, .one (.dat (.int .i64) a0.1)), (4, .one (.dat (.int .i64) a0.2.1)), (5, .one (.dat (.int .i64) (0 : Int)))], [], 0⟩ hP hN (by kernel_rfl) allNil ?_
      refine HT.block ?_
      obtain ⟨r6, hL24, hr⟩ := of_bind hr
      refine (Le.cv (s := ⟨[], [], [], false⟩) (own := []) (ps := [a0 = a0, a0.1 = a0.1, a0.2.1 = a0.2.1, (0 : Int) = (0 : Int)]) (st' := ⟨[(0, .one (.ip (.st (.pair (.int .i64) (.pair (.int .i64) (.pair (.sl (.flt .f32)) (.pair (.sl (.flt .f32)) (.sl (.flt .f32))))))) a0 0)), (3, .one (.dat (.int .i64) a0.1)), (4, .one (.dat (.int .i64) a0.2.1)), (5, .one (.dat (.int .i64) (0 : Int)))], [], 0⟩) hO (fun h => by cases h) (by kernel_rfl) ⟨rfl, rfl, rfl, rfl, trivial⟩).ht ?_
      refine HT.loopE (s := (0 : Int)) (fun (s5 : Int) => ⟨[(0, .one (.ip (.st (.pair (.int .i64) (.pair (.int .i64) (.pair (.sl (.flt .f32)) (.pair (.sl (.flt .f32)) (.sl (.flt .f32))))))) a0 0)), (3, .one (.dat (.int .i64) a0.1)), (4, .one (.dat (.int .i64) a0.2.1)), (5, .one (.dat (.int .i64) s5))], [], 0⟩) (fun (r6 : Unit ⊕ Unit) => match r6 with | .inl r7 => (.exit 0, ⟨[], [], 0⟩) | .inr r8 => (.ret, ⟨[(2, .one (.dat .bool false))], [], 0⟩)) hL24 ?_ (fun s5 x9 hx10 hk11 => ?_)
      · rcases r6 with r7 | r8
        · refine (qBlockX (qThen ?_))
          refine HT.reg1 [2] [⟨none, .no⟩] ⟨[(2, .one (.dat .bool true))], [], 0⟩ hP hN (by kernel_rfl) allNil ?_
          have hr := of_some hr
          subst hr
          exact HT.ret ⟨[.one (.dat .bool true)], [], [], by kernel_rfl, by kernel_rfl, rfl, by kernel_rfl, by kernel_rfl, trivial⟩
        · have hr := of_some hr
          subst hr
          exact (qBlockR (qThenR ⟨[.one (.dat .bool false)], [], [], by kernel_rfl, by kernel_rfl, rfl, by kernel_rfl, by kernel_rfl, trivial⟩))
      · refine HT.seq ?_
        refine HT.reg1 [0, 3, 4, 5, 63] [⟨none, .no⟩, ⟨none, .no⟩, ⟨none, .no⟩] ⟨[(0, .one (.ip (.st (.pair (.int .i64) (.pair (.int .i64) (.pair (.sl (.flt .f32)) (.pair (.sl (.flt .f32)) (.sl (.flt .f32))))))) a0 0)), (3, .one (.dat (.int .i64) a0.1)), (4, .one (.dat (.int .i64) a0.2.1)), (5, .one (.dat (.int .i64) s5)), (63, .one (.dat .bool (decide (s5 < a0.1))))], [], 0⟩ hP hN (by kernel_rfl) allNil ?_
        rcases of_bif hx10 with ⟨hb12, hx10⟩ | ⟨hb12, hx10⟩
        · refine HT.cond1 rfl hb12 ?_
          refine HT.skip (qThen ?_)
          refine HT.seq ?_
          refine HT.block ?_
          obtain ⟨v13', hT15, hx10⟩ := of_bind hx10
          refine HT.join (fun (v13 : Bool) => ⟨[(0, .one (.ip (.st (.pair (.int .i64) (.pair (.int .i64) (.pair (.sl (.flt .f32)) (.pair (.sl (.flt .f32)) (.sl (.flt .f32))))))) a0 0)), (3, .one (.dat (.int .i64) a0.1)), (4, .one (.dat (.int .i64) a0.2.1)), (5, .one (.dat (.int .i64) s5)), (97, .one (.dat .bool v13))], [], 0⟩) (fun v => v = v13') (fun v13 hv14 => ?_) (fun cont => ?_)
          · subst hv14
            rcases of_bif hx10 with ⟨hb16, hx10⟩ | ⟨hb16, hx10⟩
            · refine HT.cond1 rfl hb16 ?_
              refine HT.reg1 [2] [⟨none, .no⟩] ⟨[(2, .one (.dat .bool false))], [], 0⟩ hP hN (by kernel_rfl) allNil ?_
              have hx10 := of_some hx10
              subst hx10
              refine (Le.cv (s := ⟨[], [], [], false⟩) (own := []) (ps := [false = false]) (st' := ⟨[(2, .one (.dat .bool false))], [], 0⟩) hO (fun h => by cases h) (by kernel_rfl) ⟨rfl, trivial⟩).ht ?_
              exact HT.ret (qBlockR (qThenR (qLoopR (hk11 (.inr ()) rfl))))
            · refine HT.cond0 rfl hb16 ?_
              refine HT.skip (qBlock (qThen ?_))
              have hx10 := of_some hx10
              subst hx10
              refine HT.reg (rs := [⟨none, .no⟩, ⟨none, .no⟩, ⟨none, .no⟩]) (st' := ⟨[(5, .one (.dat (.int .i64) (wadd .i64 s5 (1 : Int)))), (65, .one (.dat (.int .i64) (wadd .i64 s5 (1 : Int)))), (64, .one (.dat (.int .i64) s5)), (0, .one (.ip (.st (.pair (.int .i64) (.pair (.int .i64) (.pair (.sl (.flt .f32)) (.pair (.sl (.flt .f32)) (.sl (.flt .f32))))))) a0 0)), (3, .one (.dat (.int .i64) a0.1)), (4, .one (.dat (.int .i64) a0.2.1)), (5, .one (.dat (.int .i64) s5)), (97, .one (.dat .bool v13))], [], 0⟩) hP hN (by kernel_rfl) allNil (qLoopN ⟨(wadd .i64 s5 (1 : Int)), rfl, Le.cv (s := ⟨[], [], [], false⟩) (own := []) (ps := [a0 = a0, a0.1 = a0.1, a0.2.1 = a0.2.1, (wadd .i64 s5 (1 : Int)) = (wadd .i64 s5 (1 : Int))]) (st' := ⟨[(0, .one (.ip (.st (.pair (.int .i64) (.pair (.int .i64) (.pair (.sl (.flt .f32)) (.pair (.sl (.flt .f32)) (.sl (.flt .f32))))))) a0 0)), (3, .one (.dat (.int .i64) a0.1)), (4, .one (.dat (.int .i64) a0.2.1)), (5, .one (.dat (.int .i64) (wadd .i64 s5 (1 : Int))))], [], 0⟩) hO (fun h => by cases h) (by kernel_rfl) ⟨rfl, rfl, rfl, rfl, trivial⟩⟩)
          · obtain ⟨hg17, hT15⟩ := of_guard hT15
            obtain ⟨y18, hc19, hT15⟩ := of_bind hT15
            rcases of_bif hT15 with ⟨hb20, hT15⟩ | ⟨hb20, hT15⟩
            · refine HT.reg (rs := [⟨none, .no⟩, ⟨none, .no⟩, ⟨none, .no⟩, ⟨none, .no⟩, ⟨none, .no⟩, ⟨none, .no⟩, ⟨none, .no⟩, ⟨none, .no⟩, ⟨none, .no⟩, ⟨none, .no⟩, ⟨none, .no⟩, ⟨none, .no⟩, ⟨none, .no⟩, ⟨none, .call [.imm (.sl (.flt .f32))] [⟨false, .bool, y18⟩] []⟩, ⟨none, .no⟩, ⟨none, .no⟩, ⟨some true, .no⟩, ⟨some true, .no⟩, ⟨some true, .no⟩, ⟨some true, .no⟩, ⟨some true, .no⟩, ⟨some true, .no⟩, ⟨some true, .no⟩, ⟨some true, .no⟩, ⟨some true, .no⟩, ⟨some true, .no⟩, ⟨some true, .no⟩, ⟨some true, .no⟩, ⟨some true, .no⟩, ⟨some true, .no⟩, ⟨some true, .no⟩, ⟨none, .tv true⟩]) (st' := ⟨[(97, .one (.dat .bool true)), (96, .und), (95, .und), (94, .und), (93, .und), (92, .und), (91, .und), (90, .und), (89, .und), (88, .und), (87, .und), (86, .und), (85, .und), (84, .und), (83, .und), (82, .und), (81, .one (.dat .bool (!y18))), (80, .one (.dat .bool (!y18))), (79, .one (.dat .bool y18)), (78, .one (.dat (.sl (.flt .f32)) (cut a0.2.2.2.1 (wmul .i64 s5 a0.1) (wadd .i64 (wmul .i64 s5 a0.1) a0.1)))), (77, .one (.dat (.int .i64) (wadd .i64 (wmul .i64 s5 a0.1) a0.1))), (76, .one (.dat (.int .i64) a0.1)), (75, .one (.dat (.int .i64) (wmul .i64 s5 a0.1))), (74, .one (.dat (.int .i64) a0.1)), (73, .one (.dat (.int .i64) s5)), (72, .one (.dat (.int .i64) (wmul .i64 s5 a0.1))), (71, .one (.dat (.int .i64) a0.1)), (70, .one (.dat (.int .i64) s5)), (69, .one (.dat (.sl (.flt .f32)) a0.2.2.2.1)), (68, .one (.ip (.st (.pair (.int .i64) (.pair (.int .i64) (.pair (.sl (.flt .f32)) (.pair (.sl (.flt .f32)) (.sl (.flt .f32))))))) a0 3)), (67, .one (.ip (.st (.pair (.int .i64) (.pair (.int .i64) (.pair (.sl (.flt .f32)) (.pair (.sl (.flt .f32)) (.sl (.flt .f32))))))) a0 0)), (66, .one (.ip (.st (.pair (.int .i64) (.pair (.int .i64) (.pair (.sl (.flt .f32)) (.pair (.sl (.flt .f32)) (.sl (.flt .f32))))))) a0 0)), (0, .one (.ip (.st (.pair (.int .i64) (.pair (.int .i64) (.pair (.sl (.flt .f32)) (.pair (.sl (.flt .f32)) (.sl (.flt .f32))))))) a0 0)), (3, .one (.dat (.int .i64) a0.1)), (4, .one (.dat (.int .i64) a0.2.1)), (5, .one (.dat (.int .i64) s5)), (63, .one (.dat .bool (decide (s5 < a0.1))))], [], 0⟩) hP hN (by kernel_rfl) (allCons hg17 (allCons (f101_ok hc19) (allCons hb20 (allCons hb20 (allCons hb20 (allCons hb20 (allCons hb20 (allCons hb20 (allCons hb20 (allCons hb20 (allCons hb20 (allCons hb20 (allCons hb20 (allCons hb20 (allCons hb20 (allCons hb20 (allCons hb20 (allCons hb20 allNil)))))))))))))))))) (qThen ?_)
              exact (Le.cv (s := ⟨[], [], [], false⟩) (own := []) (ps := [a0 = a0, a0.1 = a0.1, a0.2.1 = a0.2.1, s5 = s5, true = true]) (st' := ⟨[(0, .one (.ip (.st (.pair (.int .i64) (.pair (.int .i64) (.pair (.sl (.flt .f32)) (.pair (.sl (.flt .f32)) (.sl (.flt .f32))))))) a0 0)), (3, .one (.dat (.int .i64) a0.1)), (4, .one (.dat (.int .i64) a0.2.1)), (5, .one (.dat (.int .i64) s5)), (97, .one (.dat .bool true))], [], 0⟩) hO (fun h => by cases h) (by kernel_rfl) ⟨rfl, rfl, rfl, rfl, rfl, trivial⟩).ht (cont true (of_some hT15))
            · obtain ⟨hg21, hT15⟩ := of_guard hT15
              obtain ⟨y22, hc23, hT15⟩ := of_bind hT15
              refine HT.reg (rs := [⟨none, .no⟩, ⟨none, .no⟩, ⟨none, .no⟩, ⟨none, .no⟩, ⟨none, .no⟩, ⟨none, .no⟩, ⟨none, .no⟩, ⟨none, .no⟩, ⟨none, .no⟩, ⟨none, .no⟩, ⟨none, .no⟩, ⟨none, .no⟩, ⟨none, .no⟩, ⟨none, .call [.imm (.sl (.flt .f32))] [⟨false, .bool, y18⟩] []⟩, ⟨none, .no⟩, ⟨none, .no⟩, ⟨some false, .no⟩, ⟨some false, .no⟩, ⟨some false, .no⟩, ⟨some false, .no⟩, ⟨some false, .no⟩, ⟨some false, .no⟩, ⟨some false, .no⟩, ⟨some false, .no⟩, ⟨some false, .no⟩, ⟨some false, .no⟩, ⟨some false, .no⟩, ⟨some false, .no⟩, ⟨some false, .no⟩, ⟨some false, .call [.imm (.sl (.flt .f32))] [⟨false, .bool, y22⟩] []⟩, ⟨some false, .no⟩, ⟨none, .tv false⟩]) (st' := ⟨[(97, .one (.dat .bool (!y22))), (96, .one (.dat .bool (!y22))), (95, .one (.dat .bool y22)), (94, .one (.dat (.sl (.flt .f32)) (cut a0.2.2.2.2 (wmul .i64 s5 a0.2.1) (wadd .i64 (wmul .i64 s5 a0.2.1) a0.2.1)))), (93, .one (.dat (.int .i64) (wadd .i64 (wmul .i64 s5 a0.2.1) a0.2.1))), (92, .one (.dat (.int .i64) a0.2.1)), (91, .one (.dat (.int .i64) (wmul .i64 s5 a0.2.1))), (90, .one (.dat (.int .i64) a0.2.1)), (89, .one (.dat (.int .i64) s5)), (88, .one (.dat (.int .i64) (wmul .i64 s5 a0.2.1))), (87, .one (.dat (.int .i64) a0.2.1)), (86, .one (.dat (.int .i64) s5)), (85, .one (.dat (.sl (.flt .f32)) a0.2.2.2.2)), (84, .one (.ip (.st (.pair (.int .i64) (.pair (.int .i64) (.pair (.sl (.flt .f32)) (.pair (.sl (.flt .f32)) (.sl (.flt .f32))))))) a0 4)), (83, .one (.ip (.st (.pair (.int .i64) (.pair (.int .i64) (.pair (.sl (.flt .f32)) (.pair (.sl (.flt .f32)) (.sl (.flt .f32))))))) a0 0)), (82, .one (.ip (.st (.pair (.int .i64) (.pair (.int .i64) (.pair (.sl (.flt .f32)) (.pair (.sl (.flt .f32)) (.sl (.flt .f32))))))) a0 0)), (81, .one (.dat .bool (!y18))), (80, .one (.dat .bool (!y18))), (79, .one (.dat .bool y18)), (78, .one (.dat (.sl (.flt .f32)) (cut a0.2.2.2.1 (wmul .i64 s5 a0.1) (wadd .i64 (wmul .i64 s5 a0.1) a0.1)))), (77, .one (.dat (.int .i64) (wadd .i64 (wmul .i64 s5 a0.1) a0.1))), (76, .one (.dat (.int .i64) a0.1)), (75, .one (.dat (.int .i64) (wmul .i64 s5 a0.1))), (74, .one (.dat (.int .i64) a0.1)), (73, .one (.dat (.int .i64) s5)), (72, .one (.dat (.int .i64) (wmul .i64 s5 a0.1))), (71, .one (.dat (.int .i64) a0.1)), (70, .one (.dat (.int .i64) s5)), (69, .one (.dat (.sl (.flt .f32)) a0.2.2.2.1)), (68, .one (.ip (.st (.pair (.int .i64) (.pair (.int .i64) (.pair (.sl (.flt .f32)) (.pair (.sl (.flt .f32)) (.sl (.flt .f32))))))) a0 3)), (67, .one (.ip (.st (.pair (.int .i64) (.pair (.int .i64) (.pair (.sl (.flt .f32)) (.pair (.sl (.flt .f32)) (.sl (.flt .f32))))))) a0 0)), (66, .one (.ip (.st (.pair (.int .i64) (.pair (.int .i64) (.pair (.sl (.flt .f32)) (.pair (.sl (.flt .f32)) (.sl (.flt .f32))))))) a0 0)), (0, .one (.ip (.st (.pair (.int .i64) (.pair (.int .i64) (.pair (.sl (.flt .f32)) (.pair (.sl (.flt .f32)) (.sl (.flt .f32))))))) a0 0)), (3, .one (.dat (.int .i64) a0.1)), (4, .one (.dat (.int .i64) a0.2.1)), (5, .one (.dat (.int .i64) s5)), (63, .one (.dat .bool (decide (s5 < a0.1))))], [], 0⟩) hP hN (by kernel_rfl) (allCons hg17 (allCons (f101_ok hc19) (allCons hb20 (allCons hb20 (allCons hb20 (allCons hb20 (allCons hb20 (allCons hb20 (allCons hb20 (allCons hb20 (allCons hb20 (allCons hb20 (allCons hb20 (allCons hb20 (allCons hb20 (allCons hg21 (allCons hb20 (allCons (f101_ok hc23) (allCons hb20 (allCons hb20 allNil)))))))))))))))))))) (qThen ?_)
              exact (Le.cv (s := ⟨[], [], [], false⟩) (own := []) (ps := [a0 = a0, a0.1 = a0.1, a0.2.1 = a0.2.1, s5 = s5, (!y22) = (!y22)]) (st' := ⟨[(0, .one (.ip (.st (.pair (.int .i64) (.pair (.int .i64) (.pair (.sl (.flt .f32)) (.pair (.sl (.flt .f32)) (.sl (.flt .f32))))))) a0 0)), (3, .one (.dat (.int .i64) a0.1)), (4, .one (.dat (.int .i64) a0.2.1)), (5, .one (.dat (.int .i64) s5)), (97, .one (.dat .bool (!y22)))], [], 0⟩) hO (fun h => by cases h) (by kernel_rfl) ⟨rfl, rfl, rfl, rfl, rfl, trivial⟩).ht (cont (!y22) (of_some hT15))
        · refine HT.cond0 rfl hb12 ?_
          have hx10 := of_some hx10
          subst hx10
          refine (Le.cv (s := ⟨[], [], [], false⟩) (own := []) (ps := []) (st' := ⟨[], [], 0⟩) hO (fun h => by cases h) (by kernel_rfl) trivial).ht ?_
          exact HT.exit (qThenE (qLoopE (hk11 (.inl ()) rfl)))
  · obtain ⟨y25, hc26, hT3⟩ := of_bind hT3
    rcases of_bif hT3 with ⟨hb27, hT3⟩ | ⟨hb27, hT3⟩
    · refine HT.reg (rs := [⟨none, .no⟩, ⟨none, .call [.imm (.int .i64), .imm (.int .i64), .imm (.int .i64)] [⟨false, .bool, y25⟩] []⟩, ⟨none, .no⟩, ⟨none, .no⟩, ⟨some true, .no⟩, ⟨some true, .no⟩, ⟨some true, .no⟩, ⟨none, .tv true⟩, ⟨none, .no⟩, ⟨some true, .no⟩, ⟨some true, .no⟩, ⟨some true, .no⟩, ⟨some true, .no⟩, ⟨some true, .no⟩, ⟨some true, .no⟩, ⟨some true, .no⟩, ⟨none, .tv true⟩, ⟨none, .no⟩, ⟨some true, .no⟩, ⟨some true, .no⟩, ⟨some true, .no⟩, ⟨some true, .no⟩, ⟨some true, .no⟩, ⟨some true, .no⟩, ⟨some true, .no⟩, ⟨some true, .no⟩, ⟨some true, .no⟩, ⟨none, .tv true⟩, ⟨none, .no⟩, ⟨some true, .no⟩, ⟨some true, .no⟩, ⟨some true, .no⟩, ⟨some true, .no⟩, ⟨some true, .no⟩, ⟨some true, .no⟩, ⟨some true, .no⟩, ⟨some true, .no⟩, ⟨some true, .no⟩, ⟨none, .tv true⟩, ⟨none, .no⟩, ⟨some true, .no⟩, ⟨some true, .no⟩, ⟨some true, .no⟩, ⟨some true, .no⟩, ⟨some true, .no⟩, ⟨some true, .no⟩, ⟨none, .tv true⟩]) (st' := ⟨[(60, .one (.dat .bool true)), (59, .und), (58, .und), (57, .und), (56, .und), (55, .und), (54, .und), (53, .one (.dat .bool true)), (52, .one (.dat .bool true)), (51, .und), (50, .und), (49, .und), (48, .und), (47, .und), (46, .und), (45, .und), (44, .und), (43, .und), (42, .one (.dat .bool true)), (41, .one (.dat .bool true)), (40, .und), (39, .und), (38, .und), (37, .und), (36, .und), (35, .und), (34, .und), (33, .und), (32, .und), (31, .one (.dat .bool true)), (30, .one (.dat .bool true)), (29, .und), (28, .und), (27, .und), (26, .und), (25, .und), (24, .und), (23, .und), (22, .one (.dat .bool true)), (21, .one (.dat .bool true)), (20, .und), (19, .und), (18, .und), (17, .one (.dat .bool (!y25))), (16, .one (.dat .bool (!y25))), (15, .one (.dat .bool y25)), (14, .one (.dat (.int .i64) a0.1)), (0, .one (.ip (.st (.pair (.int .i64) (.pair (.int .i64) (.pair (.sl (.flt .f32)) (.pair (.sl (.flt .f32)) (.sl (.flt .f32))))))) a0 0)), (3, .one (.dat (.int .i64) a0.1)), (4, .one (.dat (.int .i64) a0.2.1))], [], 0⟩) hP hN (by kernel_rfl) (allCons (f52_ok hc26) (allCons hb27 (allCons hb27 (allCons hb27 (allCons hb27 (allCons (rfl : true = true) (allCons (rfl : true = true) (allCons (rfl : true = true) (allCons (rfl : true = true) (allCons (rfl : true = true) (allCons (rfl : true = true) (allCons (rfl : true = true) (allCons (rfl : true = true) (allCons (rfl : true = true) (allCons (rfl : true = true) (allCons (rfl : true = true) (allCons (rfl : true = true) (allCons (rfl : true = true) (allCons (rfl : true = true) (allCons (rfl : true = true) (allCons (rfl : true = true) (allCons (rfl : true = true) (allCons (rfl : true = true) (allCons (rfl : true = true) (allCons (rfl : true = true) (allCons (rfl : true = true) (allCons (rfl : true = true) (allCons (rfl : true = true) (allCons (rfl : true = true) (allCons (rfl : true = true) (allCons (rfl : true = true) (allCons (rfl : true = true) (allCons (rfl : true = true) (allCons (rfl : true = true) (allCons (rfl : true = true) (allCons (rfl : true = true) (allCons (rfl : true = true) (allCons (rfl : true = true) (allCons (rfl : true = true) (allCons (rfl : true = true) allNil)))))))))))))))))))))))))))))))))))))))) (qThen ?_)
      exact (Le.cv (s := ⟨[], [], [], false⟩) (own := []) (ps := [a0 = a0, a0.1 = a0.1, a0.2.1 = a0.2.1, true = true]) (st' := ⟨[(0, .one (.ip (.st (.pair (.int .i64) (.pair (.int .i64) (.pair (.sl (.flt .f32)) (.pair (.sl (.flt .f32)) (.sl (.flt .f32))))))) a0 0)), (3, .one (.dat (.int .i64) a0.1)), (4, .one (.dat (.int .i64) a0.2.1)), (60, .one (.dat .bool true))], [], 0⟩) hO (fun h => by cases h) (by kernel_rfl) ⟨rfl, rfl, rfl, rfl, trivial⟩).ht (cont true (of_some hT3))
    · obtain ⟨y28, hc29, hT3⟩ := of_bind hT3
      rcases of_bif hT3 with ⟨hb30, hT3⟩ | ⟨hb30, hT3⟩
      · refine HT.reg (rs := [⟨none, .no⟩, ⟨none, .call [.imm (.int .i64), .imm (.int .i64), .imm (.int .i64)] [⟨false, .bool, y25⟩] []⟩, ⟨none, .no⟩, ⟨none, .no⟩, ⟨some false, .no⟩, ⟨some false, .call [.imm (.int .i64), .imm (.int .i64), .imm (.int .i64)] [⟨false, .bool, y28⟩] []⟩, ⟨some false, .no⟩, ⟨none, .tv false⟩, ⟨none, .no⟩, ⟨some true, .no⟩, ⟨some true, .no⟩, ⟨some true, .no⟩, ⟨some true, .no⟩, ⟨some true, .no⟩, ⟨some true, .no⟩, ⟨some true, .no⟩, ⟨none, .tv true⟩, ⟨none, .no⟩, ⟨some true, .no⟩, ⟨some true, .no⟩, ⟨some true, .no⟩, ⟨some true, .no⟩, ⟨some true, .no⟩, ⟨some true, .no⟩, ⟨some true, .no⟩, ⟨some true, .no⟩, ⟨some true, .no⟩, ⟨none, .tv true⟩, ⟨none, .no⟩, ⟨some true, .no⟩, ⟨some true, .no⟩, ⟨some true, .no⟩, ⟨some true, .no⟩, ⟨some true, .no⟩, ⟨some true, .no⟩, ⟨some true, .no⟩, ⟨some true, .no⟩, ⟨some true, .no⟩, ⟨none, .tv true⟩, ⟨none, .no⟩, ⟨some true, .no⟩, ⟨some true, .no⟩, ⟨some true, .no⟩, ⟨some true, .no⟩, ⟨some true, .no⟩, ⟨some true, .no⟩, ⟨none, .tv true⟩]) (st' := ⟨[(60, .one (.dat .bool true)), (59, .und), (58, .und), (57, .und), (56, .und), (55, .und), (54, .und), (53, .one (.dat .bool true)), (52, .one (.dat .bool true)), (51, .und), (50, .und), (49, .und), (48, .und), (47, .und), (46, .und), (45, .und), (44, .und), (43, .und), (42, .one (.dat .bool true)), (41, .one (.dat .bool true)), (40, .und), (39, .und), (38, .und), (37, .und), (36, .und), (35, .und), (34, .und), (33, .und), (32, .und), (31, .one (.dat .bool true)), (30, .one (.dat .bool true)), (29, .und), (28, .und), (27, .und), (26, .und), (25, .und), (24, .und), (23, .und), (22, .one (.dat .bool (!y28))), (21, .one (.dat .bool (!y28))), (20, .one (.dat .bool (!y28))), (19, .one (.dat .bool y28)), (18, .one (.dat (.int .i64) a0.2.1)), (17, .one (.dat .bool (!y25))), (16, .one (.dat .bool (!y25))), (15, .one (.dat .bool y25)), (14, .one (.dat (.int .i64) a0.1)), (0, .one (.ip (.st (.pair (.int .i64) (.pair (.int .i64) (.pair (.sl (.flt .f32)) (.pair (.sl (.flt .f32)) (.sl (.flt .f32))))))) a0 0)), (3, .one (.dat (.int .i64) a0.1)), (4, .one (.dat (.int .i64) a0.2.1))], [], 0⟩) hP hN (by kernel_rfl) (allCons (f52_ok hc26) (allCons hb27 (allCons hb27 (allCons (f52_ok hc29) (allCons hb27 (allCons hb27 (allCons hb30 (allCons hb30 (allCons hb30 (allCons hb30 (allCons hb30 (allCons hb30 (allCons hb30 (allCons hb30 (allCons (rfl : true = true) (allCons (rfl : true = true) (allCons (rfl : true = true) (allCons (rfl : true = true) (allCons (rfl : true = true) (allCons (rfl : true = true) (allCons (rfl : true = true) (allCons (rfl : true = true) (allCons (rfl : true = true) (allCons (rfl : true = true) (allCons (rfl : true = true) (allCons (rfl : true = true) (allCons (rfl : true = true) (allCons (rfl : true = true) (allCons (rfl : true = true) (allCons (rfl : true = true) (allCons (rfl : true = true) (allCons (rfl : true = true) (allCons (rfl : true = true) (allCons (rfl : true = true) (allCons (rfl : true = true) (allCons (rfl : true = true) (allCons (rfl : true = true) (allCons (rfl : true = true) (allCons (rfl : true = true) (allCons (rfl : true = true) (allCons (rfl : true = true) allNil))))))))))))))))))))))))))))))))))))))))) (qThen ?_)
        exact (Le.cv (s := ⟨[], [], [], false⟩) (own := []) (ps := [a0 = a0, a0.1 = a0.1, a0.2.1 = a0.2.1, true = true]) (st' := ⟨[(0, .one (.ip (.st (.pair (.int .i64) (.pair (.int .i64) (.pair (.sl (.flt .f32)) (.pair (.sl (.flt .f32)) (.sl (.flt .f32))))))) a0 0)), (3, .one (.dat (.int .i64) a0.1)), (4, .one (.dat (.int .i64) a0.2.1)), (60, .one (.dat .bool true))], [], 0⟩) hO (fun h => by cases h) (by kernel_rfl) ⟨rfl, rfl, rfl, rfl, trivial⟩).ht (cont true (of_some hT3))
      · rcases of_bif hT3 with ⟨hb31, hT3⟩ | ⟨hb31, hT3⟩
        · refine HT.reg (rs := [⟨none, .no⟩, ⟨none, .call [.imm (.int .i64), .imm (.int .i64), .imm (.int .i64)] [⟨false, .bool, y25⟩] []⟩, ⟨none, .no⟩, ⟨none, .no⟩, ⟨some false, .no⟩, ⟨some false, .call [.imm (.int .i64), .imm (.int .i64), .imm (.int .i64)] [⟨false, .bool, y28⟩] []⟩, ⟨some false, .no⟩, ⟨none, .tv false⟩, ⟨none, .no⟩, ⟨some false, .no⟩, ⟨some false, .no⟩, ⟨some false, .no⟩, ⟨some false, .no⟩, ⟨some false, .no⟩, ⟨some false, .no⟩, ⟨some false, .no⟩, ⟨none, .tv false⟩, ⟨none, .no⟩, ⟨some true, .no⟩, ⟨some true, .no⟩, ⟨some true, .no⟩, ⟨some true, .no⟩, ⟨some true, .no⟩, ⟨some true, .no⟩, ⟨some true, .no⟩, ⟨some true, .no⟩, ⟨some true, .no⟩, ⟨none, .tv true⟩, ⟨none, .no⟩, ⟨some true, .no⟩, ⟨some true, .no⟩, ⟨some true, .no⟩, ⟨some true, .no⟩, ⟨some true, .no⟩, ⟨some true, .no⟩, ⟨some true, .no⟩, ⟨some true, .no⟩, ⟨some true, .no⟩, ⟨none, .tv true⟩, ⟨none, .no⟩, ⟨some true, .no⟩, ⟨some true, .no⟩, ⟨some true, .no⟩, ⟨some true, .no⟩, ⟨some true, .no⟩, ⟨some true, .no⟩, ⟨none, .tv true⟩]) (st' := ⟨[(60, .one (.dat .bool true)), (59, .und), (58, .und), (57, .und), (56, .und), (55, .und), (54, .und), (53, .one (.dat .bool true)), (52, .one (.dat .bool true)), (51, .und), (50, .und), (49, .und), (48, .und), (47, .und), (46, .und), (45, .und), (44, .und), (43, .und), (42, .one (.dat .bool true)), (41, .one (.dat .bool true)), (40, .und), (39, .und), (38, .und), (37, .und), (36, .und), (35, .und), (34, .und), (33, .und), (32, .und), (31, .one (.dat .bool ((lenI a0.2.2.1) != a0.1))), (30, .one (.dat .bool ((lenI a0.2.2.1) != a0.1))), (29, .one (.dat .bool ((lenI a0.2.2.1) != a0.1))), (28, .one (.dat (.int .i64) a0.1)), (27, .one (.dat (.int .i64) (lenI a0.2.2.1))), (26, .one (.dat (.sl (.flt .f32)) a0.2.2.1)), (25, .one (.ip (.st (.pair (.int .i64) (.pair (.int .i64) (.pair (.sl (.flt .f32)) (.pair (.sl (.flt .f32)) (.sl (.flt .f32))))))) a0 2)), (24, .one (.ip (.st (.pair (.int .i64) (.pair (.int .i64) (.pair (.sl (.flt .f32)) (.pair (.sl (.flt .f32)) (.sl (.flt .f32))))))) a0 0)), (23, .one (.ip (.st (.pair (.int .i64) (.pair (.int .i64) (.pair (.sl (.flt .f32)) (.pair (.sl (.flt .f32)) (.sl (.flt .f32))))))) a0 0)), (22, .one (.dat .bool (!y28))), (21, .one (.dat .bool (!y28))), (20, .one (.dat .bool (!y28))), (19, .one (.dat .bool y28)), (18, .one (.dat (.int .i64) a0.2.1)), (17, .one (.dat .bool (!y25))), (16, .one (.dat .bool (!y25))), (15, .one (.dat .bool y25)), (14, .one (.dat (.int .i64) a0.1)), (0, .one (.ip (.st (.pair (.int .i64) (.pair (.int .i64) (.pair (.sl (.flt .f32)) (.pair (.sl (.flt .f32)) (.sl (.flt .f32))))))) a0 0)), (3, .one (.dat (.int .i64) a0.1)), (4, .one (.dat (.int .i64) a0.2.1))], [], 0⟩) hP hN (by kernel_rfl) (allCons (f52_ok hc26) (allCons hb27 (allCons hb27 (allCons (f52_ok hc29) (allCons hb27 (allCons hb27 (allCons hb30 (allCons hb30 (allCons hb30 (allCons hb30 (allCons hb30 (allCons hb30 (allCons hb30 (allCons hb30 (allCons hb31 (allCons hb31 (allCons hb31 (allCons hb31 (allCons hb31 (allCons hb31 (allCons hb31 (allCons hb31 (allCons hb31 (allCons hb31 (allCons (rfl : true = true) (allCons (rfl : true = true) (allCons (rfl : true = true) (allCons (rfl : true = true) (allCons (rfl : true = true) (allCons (rfl : true = true) (allCons (rfl : true = true) (allCons (rfl : true = true) (allCons (rfl : true = true) (allCons (rfl : true = true) (allCons (rfl : true = true) (allCons (rfl : true = true) (allCons (rfl : true = true) (allCons (rfl : true = true) (allCons (rfl : true = true) (allCons (rfl : true = true) (allCons (rfl : true = true) allNil))))))))))))))))))))))))))))))))))))))))) (qThen ?_)
          exact (Le.cv (s := ⟨[], [], [], false⟩) (own := []) (ps := [a0 = a0, a0.1 = a0.1, a0.2.1 = a0.2.1, true = true]) (st' := ⟨[(0, .one (.ip (.st (.pair (.int .i64) (.pair (.int .i64) (.pair (.sl (.flt .f32)) (.pair (.sl (.flt .f32)) (.sl (.flt .f32))))))) a0 0)), (3, .one (.dat (.int .i64) a0.1)), (4, .one (.dat (.int .i64) a0.2.1)), (60, .one (.dat .bool true))], [], 0⟩) hO (fun h => by cases h) (by kernel_rfl) ⟨rfl, rfl, rfl, rfl, trivial⟩).ht (cont true (of_some hT3))
        · rcases of_bif hT3 with ⟨hb32, hT3⟩ | ⟨hb32, hT3⟩
          · refine HT.reg (rs := [⟨none, .no⟩, ⟨none, .call [.imm (.int .i64), .imm (.int .i64), .imm (.int .i64)] [⟨false, .bool, y25⟩] []⟩, ⟨none, .no⟩, ⟨none, .no⟩, ⟨some false, .no⟩, ⟨some false, .call [.imm (.int .i64), .imm (.int .i64), .imm (.int .i64)] [⟨false, .bool, y28⟩] []⟩, ⟨some false, .no⟩, ⟨none, .tv false⟩, ⟨none, .no⟩, ⟨some false, .no⟩, ⟨some false, .no⟩, ⟨some false, .no⟩, ⟨some false, .no⟩, ⟨some false, .no⟩, ⟨some false, .no⟩, ⟨some false, .no⟩, ⟨none, .tv false⟩, ⟨none, .no⟩, ⟨some false, .no⟩, ⟨some false, .no⟩, ⟨some false, .no⟩, ⟨some false, .no⟩, ⟨some false, .no⟩, ⟨some false, .no⟩, ⟨some false, .no⟩, ⟨some false, .no⟩, ⟨some false, .no⟩, ⟨none, .tv false⟩, ⟨none, .no⟩, ⟨some true, .no⟩, ⟨some true, .no⟩, ⟨some true, .no⟩, ⟨some true, .no⟩, ⟨some true, .no⟩, ⟨some true, .no⟩, ⟨some true, .no⟩, ⟨some true, .no⟩, ⟨some true, .no⟩, ⟨none, .tv true⟩, ⟨none, .no⟩, ⟨some true, .no⟩, ⟨some true, .no⟩, ⟨some true, .no⟩, ⟨some true, .no⟩, ⟨some true, .no⟩, ⟨some true, .no⟩, ⟨none, .tv true⟩]) (st' := ⟨[(60, .one (.dat .bool true)), (59, .und), (58, .und), (57, .und), (56, .und), (55, .und), (54, .und), (53, .one (.dat .bool true)), (52, .one (.dat .bool true)), (51, .und), (50, .und), (49, .und), (48, .und), (47, .und), (46, .und), (45, .und), (44, .und), (43, .und), (42, .one (.dat .bool ((lenI a0.2.2.2.1) != (wmul .i64 a0.1 a0.1)))), (41, .one (.dat .bool ((lenI a0.2.2.2.1) != (wmul .i64 a0.1 a0.1)))), (40, .one (.dat .bool ((lenI a0.2.2.2.1) != (wmul .i64 a0.1 a0.1)))), (39, .one (.dat (.int .i64) (wmul .i64 a0.1 a0.1))), (38, .one (.dat (.int .i64) a0.1)), (37, .one (.dat (.int .i64) a0.1)), (36, .one (.dat (.int .i64) (lenI a0.2.2.2.1))), (35, .one (.dat (.sl (.flt .f32)) a0.2.2.2.1)), (34, .one (.ip (.st (.pair (.int .i64) (.pair (.int .i64) (.pair (.sl (.flt .f32)) (.pair (.sl (.flt .f32)) (.sl (.flt .f32))))))) a0 3)), (33, .one (.ip (.st (.pair (.int .i64) (.pair (.int .i64) (.pair (.sl (.flt .f32)) (.pair (.sl (.flt .f32)) (.sl (.flt .f32))))))) a0 0)), (32, .one (.ip (.st (.pair (.int .i64) (.pair (.int .i64) (.pair (.sl (.flt .f32)) (.pair (.sl (.flt .f32)) (.sl (.flt .f32))))))) a0 0)), (31, .one (.dat .bool ((lenI a0.2.2.1) != a0.1))), (30, .one (.dat .bool ((lenI a0.2.2.1) != a0.1))), (29, .one (.dat .bool ((lenI a0.2.2.1) != a0.1))), (28, .one (.dat (.int .i64) a0.1)), (27, .one (.dat (.int .i64) (lenI a0.2.2.1))), (26, .one (.dat (.sl (.flt .f32)) a0.2.2.1)), (25, .one (.ip (.st (.pair (.int .i64) (.pair (.int .i64) (.pair (.sl (.flt .f32)) (.pair (.sl (.flt .f32)) (.sl (.flt .f32))))))) a0 2)), (24, .one (.ip (.st (.pair (.int .i64) (.pair (.int .i64) (.pair (.sl (.flt .f32)) (.pair (.sl (.flt .f32)) (.sl (.flt .f32))))))) a0 0)), (23, .one (.ip (.st (.pair (.int .i64) (.pair (.int .i64) (.pair (.sl (.flt .f32)) (.pair (.sl (.flt .f32)) (.sl (.flt .f32))))))) a0 0)), (22, .one (.dat .bool (!y28))), (21, .one (.dat .bool (!y28))), (20, .one (.dat .bool (!y28))), (19, .one (.dat .bool y28)), (18, .one (.dat (.int .i64) a0.2.1)), (17, .one (.dat .bool (!y25))), (16, .one (.dat .bool (!y25))), (15, .one (.dat .bool y25)), (14, .one (.dat (.int .i64) a0.1)), (0, .one (.ip (.st (.pair (.int .i64) (.pair (.int .i64) (.pair (.sl (.flt .f32)) (.pair (.sl (.flt .f32)) (.sl (.flt .f32))))))) a0 0)), (3, .one (.dat (.int .i64) a0.1)), (4, .one (.dat (.int .i64) a0.2.1))], [], 0⟩) hP hN (by kernel_rfl) (allCons (f52_ok hc26) (allCons hb27 (allCons hb27 (allCons (f52_ok hc29) (allCons hb27 (allCons hb27 (allCons hb30 (allCons hb30 (allCons hb30 (allCons hb30 (allCons hb30 (allCons hb30 (allCons hb30 (allCons hb30 (allCons hb31 (allCons hb31 (allCons hb31 (allCons hb31 (allCons hb31 (allCons hb31 (allCons hb31 (allCons hb31 (allCons hb31 (allCons hb31 (allCons hb32 (allCons hb32 (allCons hb32 (allCons hb32 (allCons hb32 (allCons hb32 (allCons hb32 (allCons hb32 (allCons hb32 (allCons hb32 (allCons (rfl : true = true) (allCons (rfl : true = true) (allCons (rfl : true = true) (allCons (rfl : true = true) (allCons (rfl : true = true) (allCons (rfl : true = true) (allCons (rfl : true = true) allNil))))))))))))))))))))))))))))))))))))))))) (qThen ?_)
            exact (Le.cv (s := ⟨[], [], [], false⟩) (own := []) (ps := [a0 = a0, a0.1 = a0.1, a0.2.1 = a0.2.1, true = true]) (st' := ⟨[(0, .one (.ip (.st (.pair (.int .i64) (.pair (.int .i64) (.pair (.sl (.flt .f32)) (.pair (.sl (.flt .f32)) (.sl (.flt .f32))))))) a0 0)), (3, .one (.dat (.int .i64) a0.1)), (4, .one (.dat (.int .i64) a0.2.1)), (60, .one (.dat .bool true))], [], 0⟩) hO (fun h => by cases h) (by kernel_rfl) ⟨rfl, rfl, rfl, rfl, trivial⟩).ht (cont true (of_some hT3))
          · rcases of_bif hT3 with ⟨hb33, hT3⟩ | ⟨hb33, hT3⟩
            · refine HT.reg (rs := [⟨none, .no⟩, ⟨none, .call [.imm (.int .i64), .imm (.int .i64), .imm (.int .i64)] [⟨false, .bool, y25⟩] []⟩, ⟨none, .no⟩, ⟨none, .no⟩, ⟨some false, .no⟩, ⟨some false, .call [.imm (.int .i64), .imm (.int .i64), .imm (.int .i64)] [⟨false, .bool, y28⟩] []⟩, ⟨some false, .no⟩, ⟨none, .tv false⟩, ⟨none, .no⟩, ⟨some false, .no⟩, ⟨some false, .no⟩, ⟨some false, .no⟩, ⟨some false, .no⟩, ⟨some false, .no⟩, ⟨some false, .no⟩, ⟨some false, .no⟩, ⟨none, .tv false⟩, ⟨none, .no⟩, ⟨some false, .no⟩, ⟨some false, .no⟩, ⟨some false, .no⟩, ⟨some false, .no⟩, ⟨some false, .no⟩, ⟨some false, .no⟩, ⟨some false, .no⟩, ⟨some false, .no⟩, ⟨some false, .no⟩, ⟨none, .tv false⟩, ⟨none, .no⟩, ⟨some false, .no⟩, ⟨some false, .no⟩, ⟨some false, .no⟩, ⟨some false, .no⟩, ⟨some false, .no⟩, ⟨some false, .no⟩, ⟨some false, .no⟩, ⟨some false, .no⟩, ⟨some false, .no⟩, ⟨none, .tv false⟩, ⟨none, .no⟩, ⟨some true, .no⟩, ⟨some true, .no⟩, ⟨some true, .no⟩, ⟨some true, .no⟩, ⟨some true, .no⟩, ⟨some true, .no⟩, ⟨none, .tv true⟩]) (st' := ⟨[(60, .one (.dat .bool true)), (59, .und), (58, .und), (57, .und), (56, .und), (55, .und), (54, .und), (53, .one (.dat .bool ((lenI a0.2.2.2.2) != (wmul .i64 a0.1 a0.2.1)))), (52, .one (.dat .bool ((lenI a0.2.2.2.2) != (wmul .i64 a0.1 a0.2.1)))), (51, .one (.dat .bool ((lenI a0.2.2.2.2) != (wmul .i64 a0.1 a0.2.1)))), (50, .one (.dat (.int .i64) (wmul .i64 a0.1 a0.2.1))), (49, .one (.dat (.int .i64) a0.2.1)), (48, .one (.dat (.int .i64) a0.1)), (47, .one (.dat (.int .i64) (lenI a0.2.2.2.2))), (46, .one (.dat (.sl (.flt .f32)) a0.2.2.2.2)), (45, .one (.ip (.st (.pair (.int .i64) (.pair (.int .i64) (.pair (.sl (.flt .f32)) (.pair (.sl (.flt .f32)) (.sl (.flt .f32))))))) a0 4)), (44, .one (.ip (.st (.pair (.int .i64) (.pair (.int .i64) (.pair (.sl (.flt .f32)) (.pair (.sl (.flt .f32)) (.sl (.flt .f32))))))) a0 0)), (43, .one (.ip (.st (.pair (.int .i64) (.pair (.int .i64) (.pair (.sl (.flt .f32)) (.pair (.sl (.flt .f32)) (.sl (.flt .f32))))))) a0 0)), (42, .one (.dat .bool ((lenI a0.2.2.2.1) != (wmul .i64 a0.1 a0.1)))), (41, .one (.dat .bool ((lenI a0.2.2.2.1) != (wmul .i64 a0.1 a0.1)))), (40, .one (.dat .bool ((lenI a0.2.2.2.1) != (wmul .i64 a0.1 a0.1)))), (39, .one (.dat (.int .i64) (wmul .i64 a0.1 a0.1))), (38, .one (.dat (.int .i64) a0.1)), (37, .one (.dat (.int .i64) a0.1)), (36, .one (.dat (.int .i64) (lenI a0.2.2.2.1))), (35, .one (.dat (.sl (.flt .f32)) a0.2.2.2.1)), (34, .one (.ip (.st (.pair (.int .i64) (.pair (.int .i64) (.pair (.sl (.flt .f32)) (.pair (.sl (.flt .f32)) (.sl (.flt .f32))))))) a0 3)), (33, .one (.ip (.st (.pair (.int .i64) (.pair (.int .i64) (.pair (.sl (.flt .f32)) (.pair (.sl (.flt .f32)) (.sl (.flt .f32))))))) a0 0)), (32, .one (.ip (.st (.pair (.int .i64) (.pair (.int .i64) (.pair (.sl (.flt .f32)) (.pair (.sl (.flt .f32)) (.sl (.flt .f32))))))) a0 0)), (31, .one (.dat .bool ((lenI a0.2.2.1) != a0.1))), (30, .one (.dat .bool ((lenI a0.2.2.1) != a0.1))), (29, .one (.dat .bool ((lenI a0.2.2.1) != a0.1))), (28, .one (.dat (.int .i64) a0.1)), (27, .one (.dat (.int .i64) (lenI a0.2.2.1))), (26, .one (.dat (.sl (.flt .f32)) a0.2.2.1)), (25, .one (.ip (.st (.pair (.int .i64) (.pair (.int .i64) (.pair (.sl (.flt .f32)) (.pair (.sl (.flt .f32)) (.sl (.flt .f32))))))) a0 2)), (24, .one (.ip (.st (.pair (.int .i64) (.pair (.int .i64) (.pair (.sl (.flt .f32)) (.pair (.sl (.flt .f32)) (.sl (.flt .f32))))))) a0 0)), (23, .one (.ip (.st (.pair (.int .i64) (.pair (.int .i64) (.pair (.sl (.flt .f32)) (.pair (.sl (.flt .f32)) (.sl (.flt .f32))))))) a0 0)), (22, .one (.dat .bool (!y28))), (21, .one (.dat .bool (!y28))), (20, .one (.dat .bool (!y28))), (19, .one (.dat .bool y28)), (18, .one (.dat (.int .i64) a0.2.1)), (17, .one (.dat .bool (!y25))), (16, .one (.dat .bool (!y25))), (15, .one (.dat .bool y25)), (14, .one (.dat (.int .i64) a0.1)), (0, .one (.ip (.st (.pair (.int .i64) (.pair (.int .i64) (.pair (.sl (.flt .f32)) (.pair (.sl (.flt .f32)) (.sl (.flt .f32))))))) a0 0)), (3, .one (.dat (.int .i64) a0.1)), (4, .one (.dat (.int .i64) a0.2.1))], [], 0⟩) hP hN (by kernel_rfl) (allCons (f52_ok hc26) (allCons hb27 (allCons hb27 (allCons (f52_ok hc29) (allCons hb27 (allCons hb27 (allCons hb30 (allCons hb30 (allCons hb30 (allCons hb30 (allCons hb30 (allCons hb30 (allCons hb30 (allCons hb30 (allCons hb31 (allCons hb31 (allCons hb31 (allCons hb31 (allCons hb31 (allCons hb31 (allCons hb31 (allCons hb31 (allCons hb31 (allCons hb31 (allCons hb32 (allCons hb32 (allCons hb32 (allCons hb32 (allCons hb32 (allCons hb32 (allCons hb32 (allCons hb32 (allCons hb32 (allCons hb32 (allCons hb33 (allCons hb33 (allCons hb33 (allCons hb33 (allCons hb33 (allCons hb33 (allCons hb33 allNil))))))))))))))))))))))))))))))))))))))))) (qThen ?_)
              exact (Le.cv (s := ⟨[], [], [], false⟩) (own := []) (ps := [a0 = a0, a0.1 = a0.1, a0.2.1 = a0.2.1, true = true]) (st' := ⟨[(0, .one (.ip (.st (.pair (.int .i64) (.pair (.int .i64) (.pair (.sl (.flt .f32)) (.pair (.sl (.flt .f32)) (.sl (.flt .f32))))))) a0 0)), (3, .one (.dat (.int .i64) a0.1)), (4, .one (.dat (.int .i64) a0.2.1)), (60, .one (.dat .bool true))], [], 0⟩) hO (fun h => by cases h) (by kernel_rfl) ⟨rfl, rfl, rfl, rfl, trivial⟩).ht (cont true (of_some hT3))
            · obtain ⟨y34, hc35, hT3⟩ := of_bind hT3
              refine HT.reg (rs := [⟨none, .no⟩, ⟨none, .call [.imm (.int .i64), .imm (.int .i64), .imm (.int .i64)] [⟨false, .bool, y25⟩] []⟩, ⟨none, .no⟩, ⟨none, .no⟩, ⟨some false, .no⟩, ⟨some false, .call [.imm (.int .i64), .imm (.int .i64), .imm (.int .i64)] [⟨false, .bool, y28⟩] []⟩, ⟨some false, .no⟩, ⟨none, .tv false⟩, ⟨none, .no⟩, ⟨some false, .no⟩, ⟨some false, .no⟩, ⟨some false, .no⟩, ⟨some false, .no⟩, ⟨some false, .no⟩, ⟨some false, .no⟩, ⟨some false, .no⟩, ⟨none, .tv false⟩, ⟨none, .no⟩, ⟨some false, .no⟩, ⟨some false, .no⟩, ⟨some false, .no⟩, ⟨some false, .no⟩, ⟨some false, .no⟩, ⟨some false, .no⟩, ⟨some false, .no⟩, ⟨some false, .no⟩, ⟨some false, .no⟩, ⟨none, .tv false⟩, ⟨none, .no⟩, ⟨some false, .no⟩, ⟨some false, .no⟩, ⟨some false, .no⟩, ⟨some false, .no⟩, ⟨some false, .no⟩, ⟨some false, .no⟩, ⟨some false, .no⟩, ⟨some false, .no⟩, ⟨some false, .no⟩, ⟨none, .tv false⟩, ⟨none, .no⟩, ⟨some false, .no⟩, ⟨some false, .no⟩, ⟨some false, .no⟩, ⟨some false, .no⟩, ⟨some false, .call [.imm (.sl (.flt .f32))] [⟨false, .bool, y34⟩] []⟩, ⟨some false, .no⟩, ⟨none, .tv false⟩]) (st' := ⟨[(60, .one (.dat .bool (!y34))), (59, .one (.dat .bool (!y34))), (58, .one (.dat .bool y34)), (57, .one (.dat (.sl (.flt .f32)) a0.2.2.1)), (56, .one (.ip (.st (.pair (.int .i64) (.pair (.int .i64) (.pair (.sl (.flt .f32)) (.pair (.sl (.flt .f32)) (.sl (.flt .f32))))))) a0 2)), (55, .one (.ip (.st (.pair (.int .i64) (.pair (.int .i64) (.pair (.sl (.flt .f32)) (.pair (.sl (.flt .f32)) (.sl (.flt .f32))))))) a0 0)), (54, .one (.ip (.st (.pair (.int .i64) (.pair (.int .i64) (.pair (.sl (.flt .f32)) (.pair (.sl (.flt .f32)) (.sl (.flt .f32))))))) a0 0)), (53, .one (.dat .bool ((lenI a0.2.2.2.2) != (wmul .i64 a0.1 a0.2.1)))), (52, .one (.dat .bool ((lenI a0.2.2.2.2) != (wmul .i64 a0.1 a0.2.1)))), (51, .one (.dat .bool ((lenI a0.2.2.2.2) != (wmul .i64 a0.1 a0.2.1)))), (50, .one (.dat (.int .i64) (wmul .i64 a0.1 a0.2.1))), (49, .one (.dat (.int .i64) a0.2.1)), (48, .one (.dat (.int .i64) a0.1)), (47, .one (.dat (.int .i64) (lenI a0.2.2.2.2))), (46, .one (.dat (.sl (.flt .f32)) a0.2.2.2.2)), (45, .one (.ip (.st (.pair (.int .i64) (.pair (.int .i64) (.pair (.sl (.flt .f32)) (.pair (.sl (.flt .f32)) (.sl (.flt .f32))))))) a0 4)), (44, .one (.ip (.st (.pair (.int .i64) (.pair (.int .i64) (.pair (.sl (.flt .f32)) (.pair (.sl (.flt .f32)) (.sl (.flt .f32))))))) a0 0)), (43, .one (.ip (.st (.pair (.int .i64) (.pair (.int .i64) (.pair (.sl (.flt .f32)) (.pair (.sl (.flt .f32)) (.sl (.flt .f32))))))) a0 0)), (42, .one (.dat .bool ((lenI a0.2.2.2.1) != (wmul .i64 a0.1 a0.1)))), (41, .one (.dat .bool ((lenI a0.2.2.2.1) != (wmul .i64 a0.1 a0.1)))), (40, .one (.dat .bool ((lenI a0.2.2.2.1) != (wmul .i64 a0.1 a0.1)))), (39, .one (.dat (.int .i64) (wmul .i64 a0.1 a0.1))), (38, .one (.dat (.int .i64) a0.1)), (37, .one (.dat (.int .i64) a0.1)), (36, .one (.dat (.int .i64) (lenI a0.2.2.2.1))), (35, .one (.dat (.sl (.flt .f32)) a0.2.2.2.1)), (34, .one (.ip (.st (.pair (.int .i64) (.pair (.int .i64) (.pair (.sl (.flt .f32)) (.pair (.sl (.flt .f32)) (.sl (.flt .f32))))))) a0 3)), (33, .one (.ip (.st (.pair (.int .i64) (.pair (.int .i64) (.pair (.sl (.flt .f32)) (.pair (.sl (.flt .f32)) (.sl (.flt .f32))))))) a0 0)), (32, .one (.ip (.st (.pair (.int .i64) (.pair (.int .i64) (.pair (.sl (.flt .f32)) (.pair (.sl (.flt .f32)) (.sl (.flt .f32))))))) a0 0)), (31, .one (.dat .bool ((lenI a0.2.2.1) != a0.1))), (30, .one (.dat .bool ((lenI a0.2.2.1) != a0.1))), (29, .one (.dat .bool ((lenI a0.2.2.1) != a0.1))), (28, .one (.dat (.int .i64) a0.1)), (27, .one (.dat (.int .i64) (lenI a0.2.2.1))), (26, .one (.dat (.sl (.flt .f32)) a0.2.2.1)), (25, .one (.ip (.st (.pair (.int .i64) (.pair (.int .i64) (.pair (.sl (.flt .f32)) (.pair (.sl (.flt .f32)) (.sl (.flt .f32))))))) a0 2)), (24, .one (.ip (.st (.pair (.int .i64) (.pair (.int .i64) (.pair (.sl (.flt .f32)) (.pair (.sl (.flt .f32)) (.sl (.flt .f32))))))) a0 0)), (23, .one (.ip (.st (.pair (.int .i64) (.pair (.int .i64) (.pair (.sl (.flt .f32)) (.pair (.sl (.flt .f32)) (.sl (.flt .f32))))))) a0 0)), (22, .one (.dat .bool (!y28))), (21, .one (.dat .bool (!y28))), (20, .one (.dat .bool (!y28))), (19, .one (.dat .bool y28)), (18, .one (.dat (.int .i64) a0.2.1)), (17, .one (.dat .bool (!y25))), (16, .one (.dat .bool (!y25))), (15, .one (.dat .bool y25)), (14, .one (.dat (.int .i64) a0.1)), (0, .one (.ip (.st (.pair (.int .i64) (.pair (.int .i64) (.pair (.sl (.flt .f32)) (.pair (.sl (.flt .f32)) (.sl (.flt .f32))))))) a0 0)), (3, .one (.dat (.int .i64) a0.1)), (4, .one (.dat (.int .i64) a0.2.1))], [], 0⟩) hP hN (by kernel_rfl) (allCons (f52_ok hc26) (allCons hb27 (allCons hb27 (allCons (f52_ok hc29) (allCons hb27 (allCons hb27 (allCons hb30 (allCons hb30 (allCons hb30 (allCons hb30 (allCons hb30 (allCons hb30 (allCons hb30 (allCons hb30 (allCons hb31 (allCons hb31 (allCons hb31 (allCons hb31 (allCons hb31 (allCons hb31 (allCons hb31 (allCons hb31 (allCons hb31 (allCons hb31 (allCons hb32 (allCons hb32 (allCons hb32 (allCons hb32 (allCons hb32 (allCons hb32 (allCons hb32 (allCons hb32 (allCons hb32 (allCons hb32 (allCons hb33 (allCons hb33 (allCons hb33 (allCons hb33 (allCons hb33 (allCons (f101_ok hc35) (allCons hb33 (allCons hb33 allNil)))))))))))))))))))))))))))))))))))))))))) (qThen ?_)
              exact (Le.cv (s := ⟨[], [], [], false⟩) (own := []) (ps := [a0 = a0, a0.1 = a0.1, a0.2.1 = a0.2.1, (!y34) = (!y34)]) (st' := ⟨[(0, .one (.ip (.st (.pair (.int .i64) (.pair (.int .i64) (.pair (.sl (.flt .f32)) (.pair (.sl (.flt .f32)) (.sl (.flt .f32))))))) a0 0)), (3, .one (.dat (.int .i64) a0.1)), (4, .one (.dat (.int .i64) a0.2.1)), (60, .one (.dat .bool (!y34)))], [], 0⟩) hO (fun h => by cases h) (by kernel_rfl) ⟨rfl, rfl, rfl, rfl, trivial⟩).ht (cont (!y34) (of_some hT3))

noncomputable def spec_l02Word_B1 (a0 : List Int) (a1 : Int) (s1 : Int) : Option ((Int) ⊕ (Unit ⊕ Unit)) :=
  bif (decide (s1 < (lenI a0))) then
    guardP ((0 : Int) ≤ s1 ∧ s1 < lenI a0) (
      (spec_l00In (List.getD a0 (Int.toNat s1) (0 : Int)) (0 : Int) (wsub .i64 a1 (1 : Int))).bind fun y10 =>
      bif (!y10) then
        some (.inr (.inr ()))
      else
        some (.inl (wadd .i64 s1 (1 : Int))))
  else
    some (.inr (.inl ()))

noncomputable def spec_l02Word (a0 : List Int) (a1 : Int) : Option (Bool) :=
  (rounds (spec_l02Word_B1 a0 a1) (0 : Int)).bind fun r2 => match r2 with
    | .inl r3 =>
      some (decide ((lenI a0) ≤ (12 : Int)))
    | .inr r4 =>
      some false

theorem f77_ok {a0 : List Int} {a1 : Int} {r : Bool} (hr : spec_l02Word a0 a1 = some r) : CallOK Try.prog 77 [.imm (.sl (.int .i64)) a0, .imm (.int .i64) a1] [⟨false, .bool, r⟩] [] := by
  unfold spec_l02Word at hr
  refine CallOK.of_body (ts := [(false, .bool)]) Try.func77 rfl (by kernel_rfl) (Nat.le_of_ble_eq_true (by kernel_rfl)) fun cx hP hN hO hF => ?_
  have hO : cx.own.map Prod.fst = [] := hO
  have hF := hF rfl
  show HT cx ⟨[(0, .one (.dat (.sl (.int .i64)) a0)), (1, .one (.dat (.int .i64) a1))], [], 0⟩ _ _
  refine HT.reg1 [0, 1] [⟨none, .no⟩] ⟨[(0, .one (.dat (.sl (.int .i64)) a0)), (1, .one (.dat (.int .i64) a1))], [], 0⟩ hP hN (by kernel_rfl) allNil ?_
  refine HT.seq ?_
  refine HT.reg1 [0, 1, 5] [⟨none, .no⟩] ⟨[(0, .one (.dat (.sl (.int .i64)) a0)), (1, .one (.dat (.int .i64) a1)), (5, .one (.dat (.int .i64) (0 : Int)))], [], 0⟩ hP hN (by kernel_rfl) allNil ?_
  refine HT.block ?_
  obtain ⟨r2, hL13, hr⟩ := of_bind hr
  refine (Le.cv (s := ⟨[], [], [], false⟩) (own := []) (ps := [a0 = a0, a1 = a1, (0 : Int) = (0 : Int)]) (st' := ⟨[(0, .one (.dat (.sl (.int .i64)) a0)), (1, .one (.dat (.int .i64) a1)), (5, .one (.dat (.int .i64) (0 : Int)))], [], 0⟩) hO (fun h => by cases h) (by kernel_rfl) ⟨rfl, rfl, rfl, trivial⟩).ht ?_
  refine HT.loopE (s := (0 : Int)) (fun (s1 : Int) => ⟨[(0, .one (.dat (.sl (.int .i64)) a0)), (1, .one (.dat (.int .i64) a1)), (5, .one (.dat (.int .i64) s1))], [], 0⟩) (fun (r2 : Unit ⊕ Unit) => match r2 with | .inl r3 => (.exit 0, ⟨[(0, .one (.dat (.sl (.int .i64)) a0))], [], 0⟩) | .inr r4 => (.ret, ⟨[(4, .one (.dat .bool false))], [], 0⟩)) hL13 ?_ (fun s1 x5 hx6 hk7 => ?_)
  · rcases r2 with r3 | r4
    · refine (qBlockX (qThen ?_))
      refine HT.reg1 [4] [⟨none, .no⟩, ⟨none, .no⟩, ⟨none, .no⟩, ⟨none, .no⟩] ⟨[(4, .one (.dat .bool (decide ((lenI a0) ≤ (12 : Int)))))], [], 0⟩ hP hN (by kernel_rfl) allNil ?_
      have hr := of_some hr
      subst hr
      exact HT.ret ⟨[.one (.dat .bool (decide ((lenI a0) ≤ (12 : Int))))], [], [], by kernel_rfl, by kernel_rfl, rfl, by kernel_rfl, by kernel_rfl, trivial⟩
    · have hr := of_some hr
      subst hr
      exact (qBlockR (qThenR ⟨[.one (.dat .bool false)], [], [], by kernel_rfl, by kernel_rfl, rfl, by kernel_rfl, by kernel_rfl, trivial⟩))
  · refine HT.seq ?_
    refine HT.reg1 [0, 1, 5, 9] [⟨none, .no⟩, ⟨none, .no⟩, ⟨none, .no⟩, ⟨none, .no⟩] ⟨[(0, .one (.dat (.sl (.int .i64)) a0)), (1, .one (.dat (.int .i64) a1)), (5, .one (.dat (.int .i64) s1)), (9, .one (.dat .bool (decide (s1 < (lenI a0)))))], [], 0⟩ hP hN (by kernel_rfl) allNil ?_
    rcases of_bif hx6 with ⟨hb8, hx6⟩ | ⟨hb8, hx6⟩
    · refine HT.cond1 rfl hb8 ?_
      refine HT.skip (qThen ?_)
      refine HT.seq ?_
      refine HT.block ?_
      obtain ⟨hg9, hx6⟩ := of_guard hx6
      obtain ⟨y10, hc11, hx6⟩ := of_bind hx6
      refine HT.reg1 [0, 1, 5, 19] [⟨none, .no⟩, ⟨none, .no⟩, ⟨none, .no⟩, ⟨none, .no⟩, ⟨none, .no⟩, ⟨none, .no⟩, ⟨none, .call [.imm (.int .i64), .imm (.int .i64), .imm (.int .i64)] [⟨false, .bool, y10⟩] []⟩, ⟨none, .no⟩] ⟨[(0, .one (.dat (.sl (.int .i64)) a0)), (1, .one (.dat (.int .i64) a1)), (5, .one (.dat (.int .i64) s1)), (19, .one (.dat .bool (!y10)))], [], 0⟩ hP hN (by kernel_rfl) (allCons hg9 (allCons (f52_ok hc11) allNil)) ?_
      rcases of_bif hx6 with ⟨hb12, hx6⟩ | ⟨hb12, hx6⟩
      · refine HT.cond1 rfl hb12 ?_
        refine HT.reg1 [4] [⟨none, .no⟩] ⟨[(4, .one (.dat .bool false))], [], 0⟩ hP hN (by kernel_rfl) allNil ?_
        have hx6 := of_some hx6
        subst hx6
        refine (Le.cv (s := ⟨[], [], [], false⟩) (own := []) (ps := [false = false]) (st' := ⟨[(4, .one (.dat .bool false))], [], 0⟩) hO (fun h => by cases h) (by kernel_rfl) ⟨rfl, trivial⟩).ht ?_
        exact HT.ret (qBlockR (qThenR (qLoopR (hk7 (.inr ()) rfl))))
      · refine HT.cond0 rfl hb12 ?_
        refine HT.skip (qBlock (qThen ?_))
        have hx6 := of_some hx6
        subst hx6
        refine HT.reg (rs := [⟨none, .no⟩, ⟨none, .no⟩, ⟨none, .no⟩]) (st' := ⟨[(5, .one (.dat (.int .i64) (wadd .i64 s1 (1 : Int)))), (11, .one (.dat (.int .i64) (wadd .i64 s1 (1 : Int)))), (10, .one (.dat (.int .i64) s1)), (0, .one (.dat (.sl (.int .i64)) a0)), (1, .one (.dat (.int .i64) a1)), (5, .one (.dat (.int .i64) s1)), (19, .one (.dat .bool (!y10)))], [], 0⟩) hP hN (by kernel_rfl) allNil (qLoopN ⟨(wadd .i64 s1 (1 : Int)), rfl, Le.cv (s := ⟨[], [], [], false⟩) (own := []) (ps := [a0 = a0, a1 = a1, (wadd .i64 s1 (1 : Int)) = (wadd .i64 s1 (1 : Int))]) (st' := ⟨[(0, .one (.dat (.sl (.int .i64)) a0)), (1, .one (.dat (.int .i64) a1)), (5, .one (.dat (.int .i64) (wadd .i64 s1 (1 : Int))))], [], 0⟩) hO (fun h => by cases h) (by kernel_rfl) ⟨rfl, rfl, rfl, trivial⟩⟩)
    · refine HT.cond0 rfl hb8 ?_
      have hx6 := of_some hx6
      subst hx6
      refine (Le.cv (s := ⟨[], [], [], false⟩) (own := []) (ps := [a0 = a0]) (st' := ⟨[(0, .one (.dat (.sl (.int .i64)) a0))], [], 0⟩) hO (fun h => by cases h) (by kernel_rfl) ⟨rfl, trivial⟩).ht ?_
      exact HT.exit (qThenE (qLoopE (hk7 (.inl ()) rfl)))

noncomputable def spec_l03Word (a0 : Int × Int × List Nat × List Nat × List Nat) (a1 : List Int) : Option (Bool) :=
  (show Option (Bool) from
    (spec_l03Is (a0.1, a0.2.1, a0.2.2.1, a0.2.2.2.1, a0.2.2.2.2)).bind fun y4 =>
    bif y4 then
      (spec_l02Word a1 a0.2.1).bind fun y7 =>
      some y7
    else
      some false).bind fun v1 =>
  some v1

theorem f43_ok {a0 : Int × Int × List Nat × List Nat × List Nat} {a1 : List Int} {r : Bool} (hr : spec_l03Word a0 a1 = some r) : CallOK Try.prog 43 [.pimm (.st (.pair (.int .i64) (.pair (.int .i64) (.pair (.sl (.flt .f32)) (.pair (.sl (.flt .f32)) (.sl (.flt .f32))))))) a0, .imm (.sl (.int .i64)) a1] [⟨false, .bool, r⟩] [] := by
  unfold spec_l03Word at hr
  refine CallOK.of_body (ts := [(false, .bool)]) Try.func43 rfl (by kernel_rfl) (Nat.le_of_ble_eq_true (by kernel_rfl)) fun cx hP hN hO hF => ?_
  have hO : cx.own.map Prod.fst = [] := hO
  have hF := hF rfl
  show HT cx ⟨[(0, .one (.ip (.st (.pair (.int .i64) (.pair (.int .i64) (.pair (.sl (.flt .f32)) (.pair (.sl (.flt .f32)) (.sl (.flt .f32))))))) a0 0)), (1, .one (.dat (.sl (.int .i64)) a1))], [], 0⟩ _ _
  refine HT.reg1 [0, 1] [⟨none, .no⟩] ⟨[(0, .one (.ip (.st (.pair (.int .i64) (.pair (.int .i64) (.pair (.sl (.flt .f32)) (.pair (.sl (.flt .f32)) (.sl (.flt .f32))))))) a0 0)), (1, .one (.dat (.sl (.int .i64)) a1))], [], 0⟩ hP hN (by kernel_rfl) allNil ?_
  obtain ⟨v1', hT3, hr⟩ := of_bind hr
  refine HT.join (fun (v1 : Bool) => ⟨[(4, .one (.dat .bool v1))], [], 0⟩) (fun v => v = v1') (fun v1 hv2 => ?_) (fun cont => ?_)
  · subst hv2
    have hr := of_some hr
    subst hr
    exact HT.ret ⟨[.one (.dat .bool v1)], [], [], by kernel_rfl, by kernel_rfl, rfl, by kernel_rfl, by kernel_rfl, trivial⟩
  · obtain ⟨y4, hc5, hT3⟩ := of_bind hT3
    rcases of_bif hT3 with ⟨hb6, hT3⟩ | ⟨hb6, hT3⟩
    · obtain ⟨y7, hc8, hT3⟩ := of_bind hT3
      refine HT.reg (rs := [⟨none, .no⟩, ⟨none, .call [.pimm (.st (.pair (.int .i64) (.pair (.int .i64) (.pair (.sl (.flt .f32)) (.pair (.sl (.flt .f32)) (.sl (.flt .f32)))))))] [⟨false, .bool, y4⟩] []⟩, ⟨none, .no⟩, ⟨some true, .no⟩, ⟨some true, .no⟩, ⟨some true, .no⟩, ⟨some true, .no⟩, ⟨some true, .no⟩, ⟨some true, .call [.imm (.sl (.int .i64)), .imm (.int .i64)] [⟨false, .bool, y7⟩] []⟩, ⟨none, .tv true⟩, ⟨none, .no⟩]) (st' := ⟨[(4, .one (.dat .bool y7)), (14, .one (.dat .bool y7)), (13, .one (.dat .bool y7)), (12, .one (.dat (.int .i64) a0.2.1)), (11, .one (.ip (.st (.pair (.int .i64) (.pair (.int .i64) (.pair (.sl (.flt .f32)) (.pair (.sl (.flt .f32)) (.sl (.flt .f32))))))) a0 1)), (10, .one (.ip (.st (.pair (.int .i64) (.pair (.int .i64) (.pair (.sl (.flt .f32)) (.pair (.sl (.flt .f32)) (.sl (.flt .f32))))))) a0 0)), (9, .one (.ip (.st (.pair (.int .i64) (.pair (.int .i64) (.pair (.sl (.flt .f32)) (.pair (.sl (.flt .f32)) (.sl (.flt .f32))))))) a0 0)), (8, .one (.dat (.sl (.int .i64)) a1)), (7, .one (.dat .bool y4)), (6, .one (.dat .bool y4)), (5, .one (.ip (.st (.pair (.int .i64) (.pair (.int .i64) (.pair (.sl (.flt .f32)) (.pair (.sl (.flt .f32)) (.sl (.flt .f32))))))) a0 0)), (0, .one (.ip (.st (.pair (.int .i64) (.pair (.int .i64) (.pair (.sl (.flt .f32)) (.pair (.sl (.flt .f32)) (.sl (.flt .f32))))))) a0 0)), (1, .one (.dat (.sl (.int .i64)) a1))], [], 0⟩) hP hN (by kernel_rfl) (allCons (f76_ok hc5) (allCons hb6 (allCons hb6 (allCons hb6 (allCons hb6 (allCons hb6 (allCons hb6 (allCons (f77_ok hc8) (allCons hb6 allNil))))))))) (qThen ?_)
      exact (Le.cv (s := ⟨[], [], [], false⟩) (own := []) (ps := [y7 = y7]) (st' := ⟨[(4, .one (.dat .bool y7))], [], 0⟩) hO (fun h => by cases h) (by kernel_rfl) ⟨rfl, trivial⟩).ht (cont y7 (of_some hT3))
    · refine HT.reg (rs := [⟨none, .no⟩, ⟨none, .call [.pimm (.st (.pair (.int .i64) (.pair (.int .i64) (.pair (.sl (.flt .f32)) (.pair (.sl (.flt .f32)) (.sl (.flt .f32)))))))] [⟨false, .bool, y4⟩] []⟩, ⟨none, .no⟩, ⟨some false, .no⟩, ⟨some false, .no⟩, ⟨some false, .no⟩, ⟨some false, .no⟩, ⟨some false, .no⟩, ⟨some false, .no⟩, ⟨none, .tv false⟩, ⟨none, .no⟩]) (st' := ⟨[(4, .one (.dat .bool false)), (14, .one (.dat .bool false)), (13, .und), (12, .und), (11, .und), (10, .und), (9, .und), (8, .und), (7, .one (.dat .bool y4)), (6, .one (.dat .bool y4)), (5, .one (.ip (.st (.pair (.int .i64) (.pair (.int .i64) (.pair (.sl (.flt .f32)) (.pair (.sl (.flt .f32)) (.sl (.flt .f32))))))) a0 0)), (0, .one (.ip (.st (.pair (.int .i64) (.pair (.int .i64) (.pair (.sl (.flt .f32)) (.pair (.sl (.flt .f32)) (.sl (.flt .f32))))))) a0 0)), (1, .one (.dat (.sl (.int .i64)) a1))], [], 0⟩) hP hN (by kernel_rfl) (allCons (f76_ok hc5) (allCons hb6 (allCons hb6 (allCons hb6 (allCons hb6 (allCons hb6 (allCons hb6 (allCons hb6 allNil)))))))) (qThen ?_)
      exact (Le.cv (s := ⟨[], [], [], false⟩) (own := []) (ps := [false = false]) (st' := ⟨[(4, .one (.dat .bool false))], [], 0⟩) hO (fun h => by cases h) (by kernel_rfl) ⟨rfl, trivial⟩).ht (cont false (of_some hT3))

end Go.Proofs
