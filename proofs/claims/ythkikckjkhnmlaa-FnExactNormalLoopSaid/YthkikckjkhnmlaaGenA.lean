/-
  Functions as plain functions, and their contracts. Printed by a program.
-/
import Derived.Test.YthkikckjkhnmlaaIdeZC
import Derived.Test.YthkikckjkhnmlaaProg
namespace Go.Proofs
open Go.Ide

noncomputable def laws_szInt64S (a0 : List Int) (a1 : Int) : Option (Int) :=
  bif (decide ((wsub .i64 a1 (lenI a0)) < (0 : Int))) then
    some (-1 : Int)
  else
    some (wsub .i64 a1 (lenI a0))

theorem f40_ok {a0 : List Int} {a1 : Int} {r : Int} (hr : laws_szInt64S a0 a1 = some r) : CallOK Try.prog 40 [.imm (.sl (.int .i64)) a0, .imm (.int .i64) a1] [⟨false, (.int .i64), r⟩] [] := by
  unfold laws_szInt64S at hr
  refine CallOK.of_body (ts := [(false, (.int .i64))]) Try.func40 rfl (by kernel_rfl) (Nat.le_of_ble_eq_true (by kernel_rfl)) fun cx hP hN hO hF => ?_
  have hO : cx.own.map Prod.fst = [] := hO
  show HT cx ⟨[(0, .one (.dat (.sl (.int .i64)) a0)), (1, .one (.dat (.int .i64) a1))], [], 0⟩ _ _
  refine HT.reg1 [0, 1] [⟨none, .no⟩] ⟨[(0, .one (.dat (.sl (.int .i64)) a0)), (1, .one (.dat (.int .i64) a1))], [], 0⟩ hP hN (by kernel_rfl) allNil ?_
  refine HT.reg1 [1] [⟨none, .no⟩, ⟨none, .no⟩, ⟨none, .no⟩, ⟨none, .no⟩, ⟨none, .no⟩] ⟨[(1, .one (.dat (.int .i64) (wsub .i64 a1 (lenI a0))))], [], 0⟩ hP hN (by kernel_rfl) allNil ?_
  refine HT.seq ?_
  refine HT.reg1 [1, 10] [⟨none, .no⟩, ⟨none, .no⟩] ⟨[(1, .one (.dat (.int .i64) (wsub .i64 a1 (lenI a0)))), (10, .one (.dat .bool (decide ((wsub .i64 a1 (lenI a0)) < (0 : Int)))))], [], 0⟩ hP hN (by kernel_rfl) allNil ?_
  rcases of_bif hr with ⟨hb1, hr⟩ | ⟨hb1, hr⟩
  · refine HT.cond1 rfl hb1 ?_
    refine HT.reg1 [4] [⟨none, .no⟩] ⟨[(4, .one (.dat (.int .i64) (-1 : Int)))], [], 0⟩ hP hN (by kernel_rfl) allNil ?_
    have hr := of_some hr
    subst hr
    exact HT.ret (qThenR ⟨[.one (.dat (.int .i64) (-1 : Int))], [], [], by kernel_rfl, by kernel_rfl, rfl, (.inl rfl), by kernel_rfl, trivial⟩)
  · refine HT.cond0 rfl hb1 ?_
    refine HT.skip (qThen ?_)
    refine HT.reg1 [4] [⟨none, .no⟩, ⟨none, .no⟩] ⟨[(4, .one (.dat (.int .i64) (wsub .i64 a1 (lenI a0))))], [], 0⟩ hP hN (by kernel_rfl) allNil ?_
    have hr := of_some hr
    subst hr
    exact HT.ret ⟨[.one (.dat (.int .i64) (wsub .i64 a1 (lenI a0)))], [], [], by kernel_rfl, by kernel_rfl, rfl, (.inl rfl), by kernel_rfl, trivial⟩

noncomputable def laws_szLoop (a0 : List Int × List Int) (a1 : Int) : Option (Int) :=
  (laws_szInt64S a0.1 a1).bind fun y1 =>
  bif (decide (y1 < (0 : Int))) then
    some (-1 : Int)
  else
    (laws_szInt64S a0.2 y1).bind fun y4 =>
    bif (decide (y4 < (0 : Int))) then
      some (-1 : Int)
    else
      some y4

theorem f9_ok {a0 : List Int × List Int} {a1 : Int} {r : Int} (hr : laws_szLoop a0 a1 = some r) : CallOK Try.prog 9 [.imm (.st (.pair (.sl (.int .i64)) (.sl (.int .i64)))) a0, .imm (.int .i64) a1] [⟨false, (.int .i64), r⟩] [] := by
  unfold laws_szLoop at hr
  refine CallOK.of_body (ts := [(false, (.int .i64))]) Try.func9 rfl (by kernel_rfl) (Nat.le_of_ble_eq_true (by kernel_rfl)) fun cx hP hN hO hF => ?_
  have hO : cx.own.map Prod.fst = [] := hO
  show HT cx ⟨[(0, .agg [.dat (.sl (.int .i64)) a0.1, .dat (.sl (.int .i64)) a0.2]), (1, .one (.dat (.int .i64) a1))], [], 0⟩ _ _
  refine HT.reg1 [1, 2] [⟨none, .no⟩, ⟨none, .no⟩] ⟨[(1, .one (.dat (.int .i64) a1)), (2, .one (.ptr 0 0))], [(0, .box [.dat (.sl (.int .i64)) a0.1, .dat (.sl (.int .i64)) a0.2])], 1⟩ hP hN (by kernel_rfl) allNil ?_
  obtain ⟨y1, hc2, hr⟩ := of_bind hr
  refine HT.reg1 [1, 2] [⟨none, .no⟩, ⟨none, .no⟩, ⟨none, .no⟩, ⟨none, .call [.imm (.sl (.int .i64)), .imm (.int .i64)] [⟨false, (.int .i64), y1⟩] []⟩, ⟨none, .no⟩] ⟨[(1, .one (.dat (.int .i64) y1)), (2, .one (.ptr 0 0))], [(0, .box [.dat (.sl (.int .i64)) a0.1, .dat (.sl (.int .i64)) a0.2])], 1⟩ hP hN (by kernel_rfl) (allCons (f40_ok hc2) allNil) ?_
  refine HT.seq ?_
  refine HT.reg1 [1, 2, 10] [⟨none, .no⟩, ⟨none, .no⟩] ⟨[(1, .one (.dat (.int .i64) y1)), (2, .one (.ptr 0 0)), (10, .one (.dat .bool (decide (y1 < (0 : Int)))))], [(0, .box [.dat (.sl (.int .i64)) a0.1, .dat (.sl (.int .i64)) a0.2])], 1⟩ hP hN (by kernel_rfl) allNil ?_
  rcases of_bif hr with ⟨hb3, hr⟩ | ⟨hb3, hr⟩
  · refine HT.cond1 rfl hb3 ?_
    refine HT.reg1 [4] [⟨none, .no⟩] ⟨[(4, .one (.dat (.int .i64) (-1 : Int)))], [(0, .box [.dat (.sl (.int .i64)) a0.1, .dat (.sl (.int .i64)) a0.2])], 1⟩ hP hN (by kernel_rfl) allNil ?_
    have hr := of_some hr
    subst hr
    exact HT.ret (qThenR ⟨[.one (.dat (.int .i64) (-1 : Int))], [], [], by kernel_rfl, by kernel_rfl, rfl, (.inl rfl), by kernel_rfl, trivial⟩)
  · refine HT.cond0 rfl hb3 ?_
    refine HT.skip (qThen ?_)
    obtain ⟨y4, hc5, hr⟩ := of_bind hr
    refine HT.reg1 [1] [⟨none, .no⟩, ⟨none, .no⟩, ⟨none, .no⟩, ⟨none, .call [.imm (.sl (.int .i64)), .imm (.int .i64)] [⟨false, (.int .i64), y4⟩] []⟩, ⟨none, .no⟩] ⟨[(1, .one (.dat (.int .i64) y4))], [(0, .box [.dat (.sl (.int .i64)) a0.1, .dat (.sl (.int .i64)) a0.2])], 1⟩ hP hN (by kernel_rfl) (allCons (f40_ok hc5) allNil) ?_
    refine HT.seq ?_
    refine HT.reg1 [1, 16] [⟨none, .no⟩, ⟨none, .no⟩] ⟨[(1, .one (.dat (.int .i64) y4)), (16, .one (.dat .bool (decide (y4 < (0 : Int)))))], [(0, .box [.dat (.sl (.int .i64)) a0.1, .dat (.sl (.int .i64)) a0.2])], 1⟩ hP hN (by kernel_rfl) allNil ?_
    rcases of_bif hr with ⟨hb6, hr⟩ | ⟨hb6, hr⟩
    · refine HT.cond1 rfl hb6 ?_
      refine HT.reg1 [4] [⟨none, .no⟩] ⟨[(4, .one (.dat (.int .i64) (-1 : Int)))], [(0, .box [.dat (.sl (.int .i64)) a0.1, .dat (.sl (.int .i64)) a0.2])], 1⟩ hP hN (by kernel_rfl) allNil ?_
      have hr := of_some hr
      subst hr
      exact HT.ret (qThenR ⟨[.one (.dat (.int .i64) (-1 : Int))], [], [], by kernel_rfl, by kernel_rfl, rfl, (.inl rfl), by kernel_rfl, trivial⟩)
    · refine HT.cond0 rfl hb6 ?_
      refine HT.skip (qThen ?_)
      refine HT.reg1 [4] [⟨none, .no⟩, ⟨none, .no⟩] ⟨[(4, .one (.dat (.int .i64) y4))], [(0, .box [.dat (.sl (.int .i64)) a0.1, .dat (.sl (.int .i64)) a0.2])], 1⟩ hP hN (by kernel_rfl) allNil ?_
      have hr := of_some hr
      subst hr
      exact HT.ret ⟨[.one (.dat (.int .i64) y4)], [], [], by kernel_rfl, by kernel_rfl, rfl, (.inl rfl), by kernel_rfl, trivial⟩

noncomputable def laws_toInt64S_B1 (a0 : List Int) (s2 : Int × List Int) : Option ((Int × List Int) ⊕ (List Int)) :=
  bif (decide (s2.1 < (lenI a0))) then
    guardP ((0 : Int) ≤ s2.1 ∧ s2.1 < lenI a0) (
      guardP ((0 : Int) ≤ s2.1 ∧ s2.1 < lenI s2.2) (
        some (.inl ((wadd .i64 s2.1 (1 : Int)), (List.set s2.2 (Int.toNat s2.1) (List.getD a0 (Int.toNat s2.1) (0 : Int)))))))
  else
    some (.inr s2.2)

noncomputable def laws_toInt64S (a0 : List Int) : Option (List Int) :=
  guardP ((0 : Int) ≤ (lenI a0) ∧ (lenI a0) ≤ 4294967296) (
    (rounds (laws_toInt64S_B1 a0) ((0 : Int), (List.replicate (Int.toNat (lenI a0)) (0 : Int)))).bind fun r4 =>
    some r4)

theorem f42_ok {a0 : List Int} {r : List Int} (hr : laws_toInt64S a0 = some r) : CallOK Try.prog 42 [.imm (.sl (.int .i64)) a0] [⟨true, (.sl (.int .i64)), r⟩] [] := by
  unfold laws_toInt64S at hr
  refine CallOK.of_body (ts := [(true, (.sl (.int .i64)))]) Try.func42 rfl (by kernel_rfl) (Nat.le_of_ble_eq_true (by kernel_rfl)) fun cx hP hN hO hF => ?_
  have hO : cx.own.map Prod.fst = [] := hO
  show HT cx ⟨[(0, .one (.dat (.sl (.int .i64)) a0))], [], 0⟩ _ _
  refine HT.reg1 [0] [⟨none, .no⟩] ⟨[(0, .one (.dat (.sl (.int .i64)) a0))], [], 0⟩ hP hN (by kernel_rfl) allNil ?_
  obtain ⟨hg1, hr⟩ := of_guard hr
  refine HT.reg1 [0, 3] [⟨none, .no⟩, ⟨none, .no⟩, ⟨none, .ty (.int .i64)⟩, ⟨none, .no⟩] ⟨[(0, .one (.dat (.sl (.int .i64)) a0)), (3, .one (.all 0))], [(0, .seq (.int .i64) (List.replicate (Int.toNat (lenI a0)) (0 : Int)))], 1⟩ hP hN (by kernel_rfl) (allCons (show (0 : Int) ≤ (lenI a0) ∧ (lenI a0) ≤ 4294967296 ∧ (lenI a0) = (lenI a0) from ⟨hg1.1, hg1.2, rfl⟩) allNil) ?_
  refine HT.seq ?_
  refine HT.reg1 [0, 3, 4] [⟨none, .no⟩] ⟨[(0, .one (.dat (.sl (.int .i64)) a0)), (3, .one (.all 0)), (4, .one (.dat (.int .i64) (0 : Int)))], [(0, .seq (.int .i64) (List.replicate (Int.toNat (lenI a0)) (0 : Int)))], 1⟩ hP hN (by kernel_rfl) allNil ?_
  refine HT.block ?_
  obtain ⟨r3, hL11, hr⟩ := of_bind hr
  refine (Le.cv (s := ⟨[(0, 0)], [], [], false⟩) (own := []) (ps := [a0 = a0, (0 : Int) = (0 : Int), (List.replicate (Int.toNat (lenI a0)) (0 : Int)) = (List.replicate (Int.toNat (lenI a0)) (0 : Int))]) (st' := ⟨[(0, .one (.dat (.sl (.int .i64)) a0)), (3, .one (.all 0)), (4, .one (.dat (.int .i64) (0 : Int)))], [(0, .seq (.int .i64) (List.replicate (Int.toNat (lenI a0)) (0 : Int)))], 1⟩) hO (fun h => by cases h) (by kernel_rfl) ⟨rfl, rfl, rfl, trivial⟩).ht ?_
  refine HT.loopE (s := ((0 : Int), (List.replicate (Int.toNat (lenI a0)) (0 : Int)))) (fun (s2 : Int × List Int) => ⟨[(0, .one (.dat (.sl (.int .i64)) a0)), (3, .one (.all 0)), (4, .one (.dat (.int .i64) s2.1))], [(0, .seq (.int .i64) s2.2)], 1⟩) (fun (r4 : List Int) => (.exit 0, ⟨[(3, .one (.all 0))], [(0, .seq (.int .i64) r4)], 1⟩)) hL11 ?_ (fun s2 x5 hx6 hk7 => ?_)
  · refine (qBlockX (qThen ?_))
    refine HT.reg1 [2] [⟨none, .no⟩, ⟨none, .no⟩] ⟨[(2, .one (.all 0))], [(0, .seq (.int .i64) r3)], 1⟩ hP hN (by kernel_rfl) allNil ?_
    have hr := of_some hr
    subst hr
    exact HT.ret ⟨[.one (.all 0)], [0], [], by kernel_rfl, by kernel_rfl, rfl, (.inl rfl), by kernel_rfl, trivial⟩
  · refine HT.seq ?_
    refine HT.reg1 [0, 3, 4, 11] [⟨none, .no⟩, ⟨none, .no⟩, ⟨none, .no⟩, ⟨none, .no⟩] ⟨[(0, .one (.dat (.sl (.int .i64)) a0)), (3, .one (.all 0)), (4, .one (.dat (.int .i64) s2.1)), (11, .one (.dat .bool (decide (s2.1 < (lenI a0)))))], [(0, .seq (.int .i64) s2.2)], 1⟩ hP hN (by kernel_rfl) allNil ?_
    rcases of_bif hx6 with ⟨hb8, hx6⟩ | ⟨hb8, hx6⟩
    · refine HT.cond1 rfl hb8 ?_
      refine HT.skip (qThen ?_)
      refine HT.seq ?_
      refine HT.block ?_
      obtain ⟨hg9, hx6⟩ := of_guard hx6
      obtain ⟨hg10, hx6⟩ := of_guard hx6
      refine HT.reg (rs := [⟨none, .no⟩, ⟨none, .no⟩, ⟨none, .no⟩, ⟨none, .no⟩, ⟨none, .no⟩, ⟨none, .no⟩, ⟨none, .no⟩, ⟨none, .no⟩]) (st' := ⟨[(20, .one (.elp 0 (Int.toNat s2.1) 1)), (19, .one (.dat (.int .i64) (List.getD a0 (Int.toNat s2.1) (0 : Int)))), (18, .one (.ip (.int .i64) (List.getD a0 (Int.toNat s2.1) (0 : Int)) 0)), (17, .one (.dat (.int .i64) s2.1)), (16, .one (.dat (.sl (.int .i64)) a0)), (15, .one (.dat (.int .i64) s2.1)), (14, .one (.all 0)), (0, .one (.dat (.sl (.int .i64)) a0)), (3, .one (.all 0)), (4, .one (.dat (.int .i64) s2.1)), (11, .one (.dat .bool (decide (s2.1 < (lenI a0)))))], [(0, .seq (.int .i64) (List.set s2.2 (Int.toNat s2.1) (List.getD a0 (Int.toNat s2.1) (0 : Int)))), (0, .seq (.int .i64) s2.2)], 1⟩) hP hN (by kernel_rfl) (allCons hg9 (allCons hg10 (allCons (natLt hg10) allNil))) (qBlock (qThen ?_))
      have hx6 := of_some hx6
      subst hx6
      refine HT.reg (rs := [⟨none, .no⟩, ⟨none, .no⟩, ⟨none, .no⟩]) (st' := ⟨[(4, .one (.dat (.int .i64) (wadd .i64 s2.1 (1 : Int)))), (13, .one (.dat (.int .i64) (wadd .i64 s2.1 (1 : Int)))), (12, .one (.dat (.int .i64) s2.1)), (20, .one (.elp 0 (Int.toNat s2.1) 1)), (19, .one (.dat (.int .i64) (List.getD a0 (Int.toNat s2.1) (0 : Int)))), (18, .one (.ip (.int .i64) (List.getD a0 (Int.toNat s2.1) (0 : Int)) 0)), (17, .one (.dat (.int .i64) s2.1)), (16, .one (.dat (.sl (.int .i64)) a0)), (15, .one (.dat (.int .i64) s2.1)), (14, .one (.all 0)), (0, .one (.dat (.sl (.int .i64)) a0)), (3, .one (.all 0)), (4, .one (.dat (.int .i64) s2.1)), (11, .one (.dat .bool (decide (s2.1 < (lenI a0)))))], [(0, .seq (.int .i64) (List.set s2.2 (Int.toNat s2.1) (List.getD a0 (Int.toNat s2.1) (0 : Int)))), (0, .seq (.int .i64) s2.2)], 1⟩) hP hN (by kernel_rfl) allNil (qLoopN ⟨((wadd .i64 s2.1 (1 : Int)), (List.set s2.2 (Int.toNat s2.1) (List.getD a0 (Int.toNat s2.1) (0 : Int)))), rfl, Le.cv (s := ⟨[(0, 0)], [], [], false⟩) (own := []) (ps := [a0 = a0, (wadd .i64 s2.1 (1 : Int)) = (wadd .i64 s2.1 (1 : Int)), (List.set s2.2 (Int.toNat s2.1) (List.getD a0 (Int.toNat s2.1) (0 : Int))) = (List.set s2.2 (Int.toNat s2.1) (List.getD a0 (Int.toNat s2.1) (0 : Int)))]) (st' := ⟨[(0, .one (.dat (.sl (.int .i64)) a0)), (3, .one (.all 0)), (4, .one (.dat (.int .i64) (wadd .i64 s2.1 (1 : Int))))], [(0, .seq (.int .i64) (List.set s2.2 (Int.toNat s2.1) (List.getD a0 (Int.toNat s2.1) (0 : Int))))], 1⟩) hO (fun h => by cases h) (by kernel_rfl) ⟨rfl, rfl, rfl, trivial⟩⟩)
    · refine HT.cond0 rfl hb8 ?_
      have hx6 := of_some hx6
      subst hx6
      refine (Le.cv (s := ⟨[(0, 0)], [], [], false⟩) (own := []) (ps := [s2.2 = s2.2]) (st' := ⟨[(3, .one (.all 0))], [(0, .seq (.int .i64) s2.2)], 1⟩) hO (fun h => by cases h) (by kernel_rfl) ⟨rfl, trivial⟩).ht ?_
      exact HT.exit (qThenE (qLoopE (hk7 s2.2 rfl)))

noncomputable def laws_toLoop (a0 : List Int × List Int) : Option ((List Int × List Int)) :=
  (laws_toInt64S a0.1).bind fun y1 =>
  (laws_toInt64S a0.2).bind fun y3 =>
  some (y1, y3)

theorem f11_ok {a0 : List Int × List Int} {r : (List Int × List Int)} (hr : laws_toLoop a0 = some r) : CallOK Try.prog 11 [.imm (.st (.pair (.sl (.int .i64)) (.sl (.int .i64)))) a0] [⟨true, (.st (.pair (.sl (.int .i64)) (.sl (.int .i64)))), r⟩] [] := by
  unfold laws_toLoop at hr
  refine CallOK.of_body (ts := [(true, (.st (.pair (.sl (.int .i64)) (.sl (.int .i64)))))]) Try.func11 rfl (by kernel_rfl) (Nat.le_of_ble_eq_true (by kernel_rfl)) fun cx hP hN hO hF => ?_
  have hO : cx.own.map Prod.fst = [] := hO
  show HT cx ⟨[(0, .agg [.dat (.sl (.int .i64)) a0.1, .dat (.sl (.int .i64)) a0.2])], [], 0⟩ _ _
  refine HT.reg1 [1, 2] [⟨none, .no⟩, ⟨none, .no⟩] ⟨[(1, .one (.ptr 0 0)), (2, .one (.ptr 1 0))], [(1, .box [.nilS, .nilS]), (0, .box [.dat (.sl (.int .i64)) a0.1, .dat (.sl (.int .i64)) a0.2])], 2⟩ hP hN (by kernel_rfl) allNil ?_
  refine HT.reg1 [1, 2, 3] [⟨none, .no⟩] ⟨[(1, .one (.ptr 0 0)), (2, .one (.ptr 1 0)), (3, .one (.ptr 2 0))], [(2, .box [.nilS, .nilS]), (1, .box [.nilS, .nilS]), (0, .box [.dat (.sl (.int .i64)) a0.1, .dat (.sl (.int .i64)) a0.2])], 3⟩ hP hN (by kernel_rfl) allNil ?_
  obtain ⟨y1, hc2, hr⟩ := of_bind hr
  refine HT.reg1 [1, 2, 3] [⟨none, .no⟩, ⟨none, .no⟩, ⟨none, .call [.imm (.sl (.int .i64))] [⟨true, (.sl (.int .i64)), y1⟩] []⟩, ⟨none, .no⟩, ⟨none, .no⟩] ⟨[(1, .one (.ptr 0 0)), (2, .one (.ptr 1 0)), (3, .one (.ptr 2 0))], [(2, .box [.all 3, .nilS]), (3, .seq (.int .i64) y1), (2, .box [.nilS, .nilS]), (1, .box [.nilS, .nilS]), (0, .box [.dat (.sl (.int .i64)) a0.1, .dat (.sl (.int .i64)) a0.2])], 4⟩ hP hN (by kernel_rfl) (allCons (f42_ok hc2) allNil) ?_
  obtain ⟨y3, hc4, hr⟩ := of_bind hr
  refine HT.reg1 [2, 3] [⟨none, .no⟩, ⟨none, .no⟩, ⟨none, .call [.imm (.sl (.int .i64))] [⟨true, (.sl (.int .i64)), y3⟩] []⟩, ⟨none, .no⟩, ⟨none, .no⟩] ⟨[(2, .one (.ptr 1 0)), (3, .one (.ptr 2 0))], [(2, .box [.all 3, .all 4]), (4, .seq (.int .i64) y3), (2, .box [.all 3, .nilS]), (3, .seq (.int .i64) y1), (2, .box [.nilS, .nilS]), (1, .box [.nilS, .nilS]), (0, .box [.dat (.sl (.int .i64)) a0.1, .dat (.sl (.int .i64)) a0.2])], 5⟩ hP hN (by kernel_rfl) (allCons (f42_ok hc4) allNil) ?_
  refine HT.reg1 [2] [⟨none, .no⟩, ⟨none, .no⟩] ⟨[(2, .one (.ptr 1 0))], [(1, .box [.all 3, .all 4]), (2, .box [.all 3, .all 4]), (4, .seq (.int .i64) y3), (2, .box [.all 3, .nilS]), (3, .seq (.int .i64) y1), (2, .box [.nilS, .nilS]), (1, .box [.nilS, .nilS]), (0, .box [.dat (.sl (.int .i64)) a0.1, .dat (.sl (.int .i64)) a0.2])], 5⟩ hP hN (by kernel_rfl) allNil ?_
  have hr := of_some hr
  subst hr
  exact HT.ret ⟨[.agg [.all 3, .all 4]], [3, 4], [], by kernel_rfl, by kernel_rfl, rfl, (.inl rfl), by kernel_rfl, trivial⟩

noncomputable def spec_l00In (a0 : Int) (a1 : Int) (a2 : Int) : Option (Bool) :=
  (show Option (Bool) from
    bif (decide (a0 ≥ a1)) then
      some (decide (a0 ≤ a2))
    else
      some false).bind fun v1 =>
  some v1

theorem f56_ok {a0 : Int} {a1 : Int} {a2 : Int} {r : Bool} (hr : spec_l00In a0 a1 a2 = some r) : CallOK Try.prog 56 [.imm (.int .i64) a0, .imm (.int .i64) a1, .imm (.int .i64) a2] [⟨false, .bool, r⟩] [] := by
  unfold spec_l00In at hr
  refine CallOK.of_body (ts := [(false, .bool)]) Try.func56 rfl (by kernel_rfl) (Nat.le_of_ble_eq_true (by kernel_rfl)) fun cx hP hN hO hF => ?_
  have hO : cx.own.map Prod.fst = [] := hO
  show HT cx ⟨[(0, .one (.dat (.int .i64) a0)), (1, .one (.dat (.int .i64) a1)), (2, .one (.dat (.int .i64) a2))], [], 0⟩ _ _
  refine HT.reg1 [0, 1, 2] [⟨none, .no⟩] ⟨[(0, .one (.dat (.int .i64) a0)), (1, .one (.dat (.int .i64) a1)), (2, .one (.dat (.int .i64) a2))], [], 0⟩ hP hN (by kernel_rfl) allNil ?_
  obtain ⟨v1', hT3, hr⟩ := of_bind hr
  refine HT.join (fun (v1 : Bool) => ⟨[(6, .one (.dat .bool v1))], [], 0⟩) (fun v => v = v1') (fun v1 hv2 => ?_) (fun cont => ?_)
  · subst hv2
    have hr := of_some hr
    subst hr
    exact HT.ret ⟨[.one (.dat .bool v1)], [], [], by kernel_rfl, by kernel_rfl, rfl, (.inl rfl), by kernel_rfl, trivial⟩
  · rcases of_bif hT3 with ⟨hb4, hT3⟩ | ⟨hb4, hT3⟩
    · refine HT.reg (rs := [⟨none, .no⟩, ⟨none, .no⟩, ⟨none, .no⟩, ⟨none, .no⟩, ⟨some true, .no⟩, ⟨some true, .no⟩, ⟨some true, .no⟩, ⟨none, .tv true⟩, ⟨none, .no⟩]) (st' := ⟨[(6, .one (.dat .bool (decide (a0 ≤ a2)))), (14, .one (.dat .bool (decide (a0 ≤ a2)))), (13, .one (.dat .bool (decide (a0 ≤ a2)))), (12, .one (.dat (.int .i64) a2)), (11, .one (.dat (.int .i64) a0)), (10, .one (.dat .bool (decide (a0 ≥ a1)))), (9, .one (.dat .bool (decide (a0 ≥ a1)))), (8, .one (.dat (.int .i64) a1)), (7, .one (.dat (.int .i64) a0)), (0, .one (.dat (.int .i64) a0)), (1, .one (.dat (.int .i64) a1)), (2, .one (.dat (.int .i64) a2))], [], 0⟩) hP hN (by kernel_rfl) (allCons hb4 (allCons hb4 (allCons hb4 (allCons hb4 allNil)))) (qThen ?_)
      exact (Le.cv (s := ⟨[], [], [], false⟩) (own := []) (ps := [(decide (a0 ≤ a2)) = (decide (a0 ≤ a2))]) (st' := ⟨[(6, .one (.dat .bool (decide (a0 ≤ a2))))], [], 0⟩) hO (fun h => by cases h) (by kernel_rfl) ⟨rfl, trivial⟩).ht (cont (decide (a0 ≤ a2)) (of_some hT3))
    · refine HT.reg (rs := [⟨none, .no⟩, ⟨none, .no⟩, ⟨none, .no⟩, ⟨none, .no⟩, ⟨some false, .no⟩, ⟨some false, .no⟩, ⟨some false, .no⟩, ⟨none, .tv false⟩, ⟨none, .no⟩]) (st' := ⟨[(6, .one (.dat .bool false)), (14, .one (.dat .bool false)), (13, .und), (12, .und), (11, .und), (10, .one (.dat .bool (decide (a0 ≥ a1)))), (9, .one (.dat .bool (decide (a0 ≥ a1)))), (8, .one (.dat (.int .i64) a1)), (7, .one (.dat (.int .i64) a0)), (0, .one (.dat (.int .i64) a0)), (1, .one (.dat (.int .i64) a1)), (2, .one (.dat (.int .i64) a2))], [], 0⟩) hP hN (by kernel_rfl) (allCons hb4 (allCons hb4 (allCons hb4 (allCons hb4 allNil)))) (qThen ?_)
      exact (Le.cv (s := ⟨[], [], [], false⟩) (own := []) (ps := [false = false]) (st' := ⟨[(6, .one (.dat .bool false))], [], 0⟩) hO (fun h => by cases h) (by kernel_rfl) ⟨rfl, trivial⟩).ht (cont false (of_some hT3))

noncomputable def spec_l02Word_B1 (a0 : List Int) (a1 : Int) (s1 : Int) : Option ((Int) ⊕ (Unit ⊕ Unit)) :=
  bif (decide (s1 < (lenI a0))) then
    guardP ((0 : Int) ≤ s1 ∧ s1 < lenI a0) (
      (spec_l00In (List.getD a0 (Int.toNat s1) (0 : Int)) (0 : Int) (wsub .i64 a1 (1 : Int))).bind fun y10 =>
      bif (!y10) then
        some (.inr (.inr ()))
      else
        some (.inl (wadd .i64 s1 (1 : Int))))
  else
    some (.inr (.inl ()))

noncomputable def spec_l02Word (a0 : List Int) (a1 : Int) : Option (Bool) :=
  (rounds (spec_l02Word_B1 a0 a1) (0 : Int)).bind fun r2 => match r2 with
    | .inl r3 =>
      some (decide ((lenI a0) ≤ (12 : Int)))
    | .inr r4 =>
      some false

theorem f74_ok {a0 : List Int} {a1 : Int} {r : Bool} (hr : spec_l02Word a0 a1 = some r) : CallOK Try.prog 74 [.imm (.sl (.int .i64)) a0, .imm (.int .i64) a1] [⟨false, .bool, r⟩] [] := by
  unfold spec_l02Word at hr
  refine CallOK.of_body (ts := [(false, .bool)]) Try.func74 rfl (by kernel_rfl) (Nat.le_of_ble_eq_true (by kernel_rfl)) fun cx hP hN hO hF => ?_
  have hO : cx.own.map Prod.fst = [] := hO
  show HT cx ⟨[(0, .one (.dat (.sl (.int .i64)) a0)), (1, .one (.dat (.int .i64) a1))], [], 0⟩ _ _
  refine HT.reg1 [0, 1] [⟨none, .no⟩] ⟨[(0, .one (.dat (.sl (.int .i64)) a0)), (1, .one (.dat (.int .i64) a1))], [], 0⟩ hP hN (by kernel_rfl) allNil ?_
  refine HT.seq ?_
  refine HT.reg1 [0, 1, 5] [⟨none, .no⟩] ⟨[(0, .one (.dat (.sl (.int .i64)) a0)), (1, .one (.dat (.int .i64) a1)), (5, .one (.dat (.int .i64) (0 : Int)))], [], 0⟩ hP hN (by kernel_rfl) allNil ?_
  refine HT.block ?_
  obtain ⟨r2, hL13, hr⟩ := of_bind hr
  refine (Le.cv (s := ⟨[], [], [], false⟩) (own := []) (ps := [a0 = a0, a1 = a1, (0 : Int) = (0 : Int)]) (st' := ⟨[(0, .one (.dat (.sl (.int .i64)) a0)), (1, .one (.dat (.int .i64) a1)), (5, .one (.dat (.int .i64) (0 : Int)))], [], 0⟩) hO (fun h => by cases h) (by kernel_rfl) ⟨rfl, rfl, rfl, trivial⟩).ht ?_
  refine HT.loopE (s := (0 : Int)) (fun (s1 : Int) => ⟨[(0, .one (.dat (.sl (.int .i64)) a0)), (1, .one (.dat (.int .i64) a1)), (5, .one (.dat (.int .i64) s1))], [], 0⟩) (fun (r2 : Unit ⊕ Unit) => match r2 with | .inl r3 => (.exit 0, ⟨[(0, .one (.dat (.sl (.int .i64)) a0))], [], 0⟩) | .inr r4 => (.ret, ⟨[(4, .one (.dat .bool false))], [], 0⟩)) hL13 ?_ (fun s1 x5 hx6 hk7 => ?_)
  · rcases r2 with r3 | r4
    · refine (qBlockX (qThen ?_))
      refine HT.reg1 [4] [⟨none, .no⟩, ⟨none, .no⟩, ⟨none, .no⟩, ⟨none, .no⟩] ⟨[(4, .one (.dat .bool (decide ((lenI a0) ≤ (12 : Int)))))], [], 0⟩ hP hN (by kernel_rfl) allNil ?_
      have hr := of_some hr
      subst hr
      exact HT.ret ⟨[.one (.dat .bool (decide ((lenI a0) ≤ (12 : Int))))], [], [], by kernel_rfl, by kernel_rfl, rfl, (.inl rfl), by kernel_rfl, trivial⟩
    · have hr := of_some hr
      subst hr
      exact (qBlockR (qThenR ⟨[.one (.dat .bool false)], [], [], by kernel_rfl, by kernel_rfl, rfl, (.inl rfl), by kernel_rfl, trivial⟩))
  · refine HT.seq ?_
    refine HT.reg1 [0, 1, 5, 9] [⟨none, .no⟩, ⟨none, .no⟩, ⟨none, .no⟩, ⟨none, .no⟩] ⟨[(0, .one (.dat (.sl (.int .i64)) a0)), (1, .one (.dat (.int .i64) a1)), (5, .one (.dat (.int .i64) s1)), (9, .one (.dat .bool (decide (s1 < (lenI a0)))))], [], 0⟩ hP hN (by kernel_rfl) allNil ?_
    rcases of_bif hx6 with ⟨hb8, hx6⟩ | ⟨hb8, hx6⟩
    · refine HT.cond1 rfl hb8 ?_
      refine HT.skip (qThen ?_)
      refine HT.seq ?_
      refine HT.block ?_
      obtain ⟨hg9, hx6⟩ := of_guard hx6
      obtain ⟨y10, hc11, hx6⟩ := of_bind hx6
      refine HT.reg1 [0, 1, 5, 19] [⟨none, .no⟩, ⟨none, .no⟩, ⟨none, .no⟩, ⟨none, .no⟩, ⟨none, .no⟩, ⟨none, .no⟩, ⟨none, .call [.imm (.int .i64), .imm (.int .i64), .imm (.int .i64)] [⟨false, .bool, y10⟩] []⟩, ⟨none, .no⟩] ⟨[(0, .one (.dat (.sl (.int .i64)) a0)), (1, .one (.dat (.int .i64) a1)), (5, .one (.dat (.int .i64) s1)), (19, .one (.dat .bool (!y10)))], [], 0⟩ hP hN (by kernel_rfl) (allCons hg9 (allCons (f56_ok hc11) allNil)) ?_
      rcases of_bif hx6 with ⟨hb12, hx6⟩ | ⟨hb12, hx6⟩
      · refine HT.cond1 rfl hb12 ?_
        refine HT.reg1 [4] [⟨none, .no⟩] ⟨[(4, .one (.dat .bool false))], [], 0⟩ hP hN (by kernel_rfl) allNil ?_
        have hx6 := of_some hx6
        subst hx6
        refine (Le.cv (s := ⟨[], [], [], false⟩) (own := []) (ps := [false = false]) (st' := ⟨[(4, .one (.dat .bool false))], [], 0⟩) hO (fun h => by cases h) (by kernel_rfl) ⟨rfl, trivial⟩).ht ?_
        exact HT.ret (qBlockR (qThenR (qLoopR (hk7 (.inr ()) rfl))))
      · refine HT.cond0 rfl hb12 ?_
        refine HT.skip (qBlock (qThen ?_))
        have hx6 := of_some hx6
        subst hx6
        refine HT.reg (rs := [⟨none, .no⟩, ⟨none, .no⟩, ⟨none, .no⟩]) (st' := ⟨[(5, .one (.dat (.int .i64) (wadd .i64 s1 (1 : Int)))), (11, .one (.dat (.int .i64) (wadd .i64 s1 (1 : Int)))), (10, .one (.dat (.int .i64) s1)), (0, .one (.dat (.sl (.int .i64)) a0)), (1, .one (.dat (.int .i64) a1)), (5, .one (.dat (.int .i64) s1)), (19, .one (.dat .bool (!y10)))], [], 0⟩) hP hN (by kernel_rfl) allNil (qLoopN ⟨(wadd .i64 s1 (1 : Int)), rfl, Le.cv (s := ⟨[], [], [], false⟩) (own := []) (ps := [a0 = a0, a1 = a1, (wadd .i64 s1 (1 : Int)) = (wadd .i64 s1 (1 : Int))]) (st' := ⟨[(0, .one (.dat (.sl (.int .i64)) a0)), (1, .one (.dat (.int .i64) a1)), (5, .one (.dat (.int .i64) (wadd .i64 s1 (1 : Int))))], [], 0⟩) hO (fun h => by cases h) (by kernel_rfl) ⟨rfl, rfl, rfl, trivial⟩⟩)
    · refine HT.cond0 rfl hb8 ?_
      have hx6 := of_some hx6
      subst hx6
      refine (Le.cv (s := ⟨[], [], [], false⟩) (own := []) (ps := [a0 = a0]) (st' := ⟨[(0, .one (.dat (.sl (.int .i64)) a0))], [], 0⟩) hO (fun h => by cases h) (by kernel_rfl) ⟨rfl, trivial⟩).ht ?_
      exact HT.exit (qThenE (qLoopE (hk7 (.inl ()) rfl)))

noncomputable def spec_l07Loop (a0 : List Int × List Int) (a1 : Int) : Option (Bool) :=
  (show Option (Bool) from
    (spec_l00In a1 (1 : Int) (4 : Int)).bind fun y4 =>
    bif y4 then
      (spec_l02Word a0.1 a1).bind fun y7 =>
      bif y7 then
        (spec_l02Word a0.2 a1).bind fun y10 =>
        bif y10 then
          some (decide ((lenI a0.2) ≥ (1 : Int)))
        else
          some false
      else
        some false
    else
      some false).bind fun v1 =>
  some v1

theorem f41_ok {a0 : List Int × List Int} {a1 : Int} {r : Bool} (hr : spec_l07Loop a0 a1 = some r) : CallOK Try.prog 41 [.pimm (.st (.pair (.sl (.int .i64)) (.sl (.int .i64)))) a0, .imm (.int .i64) a1] [⟨false, .bool, r⟩] [] := by
  unfold spec_l07Loop at hr
  refine CallOK.of_body (ts := [(false, .bool)]) Try.func41 rfl (by kernel_rfl) (Nat.le_of_ble_eq_true (by kernel_rfl)) fun cx hP hN hO hF => ?_
  have hO : cx.own.map Prod.fst = [] := hO
  show HT cx ⟨[(0, .one (.ip (.st (.pair (.sl (.int .i64)) (.sl (.int .i64)))) a0 0)), (1, .one (.dat (.int .i64) a1))], [], 0⟩ _ _
  refine HT.reg1 [0, 1] [⟨none, .no⟩] ⟨[(0, .one (.ip (.st (.pair (.sl (.int .i64)) (.sl (.int .i64)))) a0 0)), (1, .one (.dat (.int .i64) a1))], [], 0⟩ hP hN (by kernel_rfl) allNil ?_
  obtain ⟨v1', hT3, hr⟩ := of_bind hr
  refine HT.join (fun (v1 : Bool) => ⟨[(4, .one (.dat .bool v1))], [], 0⟩) (fun v => v = v1') (fun v1 hv2 => ?_) (fun cont => ?_)
  · subst hv2
    have hr := of_some hr
    subst hr
    exact HT.ret ⟨[.one (.dat .bool v1)], [], [], by kernel_rfl, by kernel_rfl, rfl, (.inl rfl), by kernel_rfl, trivial⟩
  · obtain ⟨y4, hc5, hT3⟩ := of_bind hT3
    rcases of_bif hT3 with ⟨hb6, hT3⟩ | ⟨hb6, hT3⟩
    · obtain ⟨y7, hc8, hT3⟩ := of_bind hT3
      rcases of_bif hT3 with ⟨hb9, hT3⟩ | ⟨hb9, hT3⟩
      · obtain ⟨y10, hc11, hT3⟩ := of_bind hT3
        rcases of_bif hT3 with ⟨hb12, hT3⟩ | ⟨hb12, hT3⟩
        · refine HT.reg (rs := [⟨none, .no⟩, ⟨none, .call [.imm (.int .i64), .imm (.int .i64), .imm (.int .i64)] [⟨false, .bool, y4⟩] []⟩, ⟨none, .no⟩, ⟨some true, .no⟩, ⟨some true, .no⟩, ⟨some true, .no⟩, ⟨some true, .no⟩, ⟨some true, .no⟩, ⟨some true, .call [.imm (.sl (.int .i64)), .imm (.int .i64)] [⟨false, .bool, y7⟩] []⟩, ⟨none, .tv true⟩, ⟨none, .no⟩, ⟨some true, .no⟩, ⟨some true, .no⟩, ⟨some true, .no⟩, ⟨some true, .no⟩, ⟨some true, .no⟩, ⟨some true, .call [.imm (.sl (.int .i64)), .imm (.int .i64)] [⟨false, .bool, y10⟩] []⟩, ⟨none, .tv true⟩, ⟨none, .no⟩, ⟨some true, .no⟩, ⟨some true, .no⟩, ⟨some true, .no⟩, ⟨some true, .no⟩, ⟨some true, .no⟩, ⟨some true, .no⟩, ⟨none, .tv true⟩, ⟨none, .no⟩]) (st' := ⟨[(4, .one (.dat .bool (decide ((lenI a0.2) ≥ (1 : Int))))), (30, .one (.dat .bool (decide ((lenI a0.2) ≥ (1 : Int))))), (29, .one (.dat .bool (decide ((lenI a0.2) ≥ (1 : Int))))), (28, .one (.dat (.int .i64) (lenI a0.2))), (27, .one (.dat (.sl (.int .i64)) a0.2)), (26, .one (.ip (.st (.pair (.sl (.int .i64)) (.sl (.int .i64)))) a0 1)), (25, .one (.ip (.st (.pair (.sl (.int .i64)) (.sl (.int .i64)))) a0 0)), (24, .one (.ip (.st (.pair (.sl (.int .i64)) (.sl (.int .i64)))) a0 0)), (23, .one (.dat .bool y10)), (22, .one (.dat .bool y10)), (21, .one (.dat .bool y10)), (20, .one (.dat (.int .i64) a1)), (19, .one (.dat (.sl (.int .i64)) a0.2)), (18, .one (.ip (.st (.pair (.sl (.int .i64)) (.sl (.int .i64)))) a0 1)), (17, .one (.ip (.st (.pair (.sl (.int .i64)) (.sl (.int .i64)))) a0 0)), (16, .one (.ip (.st (.pair (.sl (.int .i64)) (.sl (.int .i64)))) a0 0)), (15, .one (.dat .bool y7)), (14, .one (.dat .bool y7)), (13, .one (.dat .bool y7)), (12, .one (.dat (.int .i64) a1)), (11, .one (.dat (.sl (.int .i64)) a0.1)), (10, .one (.ip (.st (.pair (.sl (.int .i64)) (.sl (.int .i64)))) a0 0)), (9, .one (.ip (.st (.pair (.sl (.int .i64)) (.sl (.int .i64)))) a0 0)), (8, .one (.ip (.st (.pair (.sl (.int .i64)) (.sl (.int .i64)))) a0 0)), (7, .one (.dat .bool y4)), (6, .one (.dat .bool y4)), (5, .one (.dat (.int .i64) a1)), (0, .one (.ip (.st (.pair (.sl (.int .i64)) (.sl (.int .i64)))) a0 0)), (1, .one (.dat (.int .i64) a1))], [], 0⟩) hP hN (by kernel_rfl) (allCons (f56_ok hc5) (allCons hb6 (allCons hb6 (allCons hb6 (allCons hb6 (allCons hb6 (allCons hb6 (allCons (f74_ok hc8) (allCons hb6 (allCons hb9 (allCons hb9 (allCons hb9 (allCons hb9 (allCons hb9 (allCons hb9 (allCons (f74_ok hc11) (allCons hb9 (allCons hb12 (allCons hb12 (allCons hb12 (allCons hb12 (allCons hb12 (allCons hb12 (allCons hb12 allNil)))))))))))))))))))))))) (qThen ?_)
          exact (Le.cv (s := ⟨[], [], [], false⟩) (own := []) (ps := [(decide ((lenI a0.2) ≥ (1 : Int))) = (decide ((lenI a0.2) ≥ (1 : Int)))]) (st' := ⟨[(4, .one (.dat .bool (decide ((lenI a0.2) ≥ (1 : Int)))))], [], 0⟩) hO (fun h => by cases h) (by kernel_rfl) ⟨rfl, trivial⟩).ht (cont (decide ((lenI a0.2) ≥ (1 : Int))) (of_some hT3))
        · refine HT.reg (rs := [⟨none, .no⟩, ⟨none, .call [.imm (.int .i64), .imm (.int .i64), .imm (.int .i64)] [⟨false, .bool, y4⟩] []⟩, ⟨none, .no⟩, ⟨some true, .no⟩, ⟨some true, .no⟩, ⟨some true, .no⟩, ⟨some true, .no⟩, ⟨some true, .no⟩, ⟨some true, .call [.imm (.sl (.int .i64)), .imm (.int .i64)] [⟨false, .bool, y7⟩] []⟩, ⟨none, .tv true⟩, ⟨none, .no⟩, ⟨some true, .no⟩, ⟨some true, .no⟩, ⟨some true, .no⟩, ⟨some true, .no⟩, ⟨some true, .no⟩, ⟨some true, .call [.imm (.sl (.int .i64)), .imm (.int .i64)] [⟨false, .bool, y10⟩] []⟩, ⟨none, .tv true⟩, ⟨none, .no⟩, ⟨some false, .no⟩, ⟨some false, .no⟩, ⟨some false, .no⟩, ⟨some false, .no⟩, ⟨some false, .no⟩, ⟨some false, .no⟩, ⟨none, .tv false⟩, ⟨none, .no⟩]) (st' := ⟨[(4, .one (.dat .bool false)), (30, .one (.dat .bool false)), (29, .und), (28, .und), (27, .und), (26, .und), (25, .und), (24, .und), (23, .one (.dat .bool y10)), (22, .one (.dat .bool y10)), (21, .one (.dat .bool y10)), (20, .one (.dat (.int .i64) a1)), (19, .one (.dat (.sl (.int .i64)) a0.2)), (18, .one (.ip (.st (.pair (.sl (.int .i64)) (.sl (.int .i64)))) a0 1)), (17, .one (.ip (.st (.pair (.sl (.int .i64)) (.sl (.int .i64)))) a0 0)), (16, .one (.ip (.st (.pair (.sl (.int .i64)) (.sl (.int .i64)))) a0 0)), (15, .one (.dat .bool y7)), (14, .one (.dat .bool y7)), (13, .one (.dat .bool y7)), (12, .one (.dat (.int .i64) a1)), (11, .one (.dat (.sl (.int .i64)) a0.1)), (10, .one (.ip (.st (.pair (.sl (.int .i64)) (.sl (.int .i64)))) a0 0)), (9, .one (.ip (.st (.pair (.sl (.int .i64)) (.sl (.int .i64)))) a0 0)), (8, .one (.ip (.st (.pair (.sl (.int .i64)) (.sl (.int .i64)))) a0 0)), (7, .one (.dat .bool y4)), (6, .one (.dat .bool y4)), (5, .one (.dat (.int .i64) a1)), (0, .one (.ip (.st (.pair (.sl (.int .i64)) (.sl (.int .i64)))) a0 0)), (1, .one (.dat (.int .i64) a1))], [], 0⟩) hP hN (by kernel_rfl) (allCons (f56_ok hc5) (allCons hb6 (allCons hb6 (allCons hb6 (allCons hb6 (allCons hb6 (allCons hb6 (allCons (f74_ok hc8) (allCons hb6 (allCons hb9 (allCons hb9 (allCons hb9 (allCons hb9 (allCons hb9 (allCons hb9 (allCons (f74_ok hc11) (allCons hb9 (allCons hb12 (allCons hb12 (allCons hb12 (allCons hb12 (allCons hb12 (allCons hb12 (allCons hb12 allNil)))))))))))))))))))))))) (qThen ?_)
          exact (Le.cv (s := ⟨[], [], [], false⟩) (own := []) (ps := [false = false]) (st' := ⟨[(4, .one (.dat .bool false))], [], 0⟩) hO (fun h => by cases h) (by kernel_rfl) ⟨rfl, trivial⟩).ht (cont false (of_some hT3))
      · refine HT.reg (rs := [⟨none, .no⟩, ⟨none, .call [.imm (.int .i64), .imm (.int .i64), .imm (.int .i64)] [⟨false, .bool, y4⟩] []⟩, ⟨none, .no⟩, ⟨some true, .no⟩, ⟨some true, .no⟩, ⟨some true, .no⟩, ⟨some true, .no⟩, ⟨some true, .no⟩, ⟨some true, .call [.imm (.sl (.int .i64)), .imm (.int .i64)] [⟨false, .bool, y7⟩] []⟩, ⟨none, .tv true⟩, ⟨none, .no⟩, ⟨some false, .no⟩, ⟨some false, .no⟩, ⟨some false, .no⟩, ⟨some false, .no⟩, ⟨some false, .no⟩, ⟨some false, .no⟩, ⟨none, .tv false⟩, ⟨none, .no⟩, ⟨some false, .no⟩, ⟨some false, .no⟩, ⟨some false, .no⟩, ⟨some false, .no⟩, ⟨some false, .no⟩, ⟨some false, .no⟩, ⟨none, .tv false⟩, ⟨none, .no⟩]) (st' := ⟨[(4, .one (.dat .bool false)), (30, .one (.dat .bool false)), (29, .und), (28, .und), (27, .und), (26, .und), (25, .und), (24, .und), (23, .one (.dat .bool false)), (22, .one (.dat .bool false)), (21, .und), (20, .und), (19, .und), (18, .und), (17, .und), (16, .und), (15, .one (.dat .bool y7)), (14, .one (.dat .bool y7)), (13, .one (.dat .bool y7)), (12, .one (.dat (.int .i64) a1)), (11, .one (.dat (.sl (.int .i64)) a0.1)), (10, .one (.ip (.st (.pair (.sl (.int .i64)) (.sl (.int .i64)))) a0 0)), (9, .one (.ip (.st (.pair (.sl (.int .i64)) (.sl (.int .i64)))) a0 0)), (8, .one (.ip (.st (.pair (.sl (.int .i64)) (.sl (.int .i64)))) a0 0)), (7, .one (.dat .bool y4)), (6, .one (.dat .bool y4)), (5, .one (.dat (.int .i64) a1)), (0, .one (.ip (.st (.pair (.sl (.int .i64)) (.sl (.int .i64)))) a0 0)), (1, .one (.dat (.int .i64) a1))], [], 0⟩) hP hN (by kernel_rfl) (allCons (f56_ok hc5) (allCons hb6 (allCons hb6 (allCons hb6 (allCons hb6 (allCons hb6 (allCons hb6 (allCons (f74_ok hc8) (allCons hb6 (allCons hb9 (allCons hb9 (allCons hb9 (allCons hb9 (allCons hb9 (allCons hb9 (allCons hb9 (allCons (rfl : false = false) (allCons (rfl : false = false) (allCons (rfl : false = false) (allCons (rfl : false = false) (allCons (rfl : false = false) (allCons (rfl : false = false) (allCons (rfl : false = false) allNil))))))))))))))))))))))) (qThen ?_)
        exact (Le.cv (s := ⟨[], [], [], false⟩) (own := []) (ps := [false = false]) (st' := ⟨[(4, .one (.dat .bool false))], [], 0⟩) hO (fun h => by cases h) (by kernel_rfl) ⟨rfl, trivial⟩).ht (cont false (of_some hT3))
    · refine HT.reg (rs := [⟨none, .no⟩, ⟨none, .call [.imm (.int .i64), .imm (.int .i64), .imm (.int .i64)] [⟨false, .bool, y4⟩] []⟩, ⟨none, .no⟩, ⟨some false, .no⟩, ⟨some false, .no⟩, ⟨some false, .no⟩, ⟨some false, .no⟩, ⟨some false, .no⟩, ⟨some false, .no⟩, ⟨none, .tv false⟩, ⟨none, .no⟩, ⟨some false, .no⟩, ⟨some false, .no⟩, ⟨some false, .no⟩, ⟨some false, .no⟩, ⟨some false, .no⟩, ⟨some false, .no⟩, ⟨none, .tv false⟩, ⟨none, .no⟩, ⟨some false, .no⟩, ⟨some false, .no⟩, ⟨some false, .no⟩, ⟨some false, .no⟩, ⟨some false, .no⟩, ⟨some false, .no⟩, ⟨none, .tv false⟩, ⟨none, .no⟩]) (st' := ⟨[(4, .one (.dat .bool false)), (30, .one (.dat .bool false)), (29, .und), (28, .und), (27, .und), (26, .und), (25, .und), (24, .und), (23, .one (.dat .bool false)), (22, .one (.dat .bool false)), (21, .und), (20, .und), (19, .und), (18, .und), (17, .und), (16, .und), (15, .one (.dat .bool false)), (14, .one (.dat .bool false)), (13, .und), (12, .und), (11, .und), (10, .und), (9, .und), (8, .und), (7, .one (.dat .bool y4)), (6, .one (.dat .bool y4)), (5, .one (.dat (.int .i64) a1)), (0, .one (.ip (.st (.pair (.sl (.int .i64)) (.sl (.int .i64)))) a0 0)), (1, .one (.dat (.int .i64) a1))], [], 0⟩) hP hN (by kernel_rfl) (allCons (f56_ok hc5) (allCons hb6 (allCons hb6 (allCons hb6 (allCons hb6 (allCons hb6 (allCons hb6 (allCons hb6 (allCons (rfl : false = false) (allCons (rfl : false = false) (allCons (rfl : false = false) (allCons (rfl : false = false) (allCons (rfl : false = false) (allCons (rfl : false = false) (allCons (rfl : false = false) (allCons (rfl : false = false) (allCons (rfl : false = false) (allCons (rfl : false = false) (allCons (rfl : false = false) (allCons (rfl : false = false) (allCons (rfl : false = false) (allCons (rfl : false = false) allNil)))))))))))))))))))))) (qThen ?_)
      exact (Le.cv (s := ⟨[], [], [], false⟩) (own := []) (ps := [false = false]) (st' := ⟨[(4, .one (.dat .bool false))], [], 0⟩) hO (fun h => by cases h) (by kernel_rfl) ⟨rfl, trivial⟩).ht (cont false (of_some hT3))

noncomputable def spec_NormalLoop_B1 (r6 : Int) (s10 : List Int × List Int) : Option ((List Int × List Int) ⊕ ((List Int × List Int))) :=
  (show Option (Bool) from
    bif (decide ((lenI s10.1) > (0 : Int))) then
      guardP ((0 : Int) ≤ (wsub .i64 (lenI s10.1) (1 : Int)) ∧ (wsub .i64 (lenI s10.1) (1 : Int)) < lenI s10.1) (
        guardP ((0 : Int) ≤ (wsub .i64 r6 (1 : Int)) ∧ (wsub .i64 r6 (1 : Int)) < lenI s10.2) (
          some ((List.getD s10.1 (Int.toNat (wsub .i64 (lenI s10.1) (1 : Int))) (0 : Int)) == (List.getD s10.2 (Int.toNat (wsub .i64 r6 (1 : Int))) (0 : Int)))))
    else
      some false).bind fun v16 =>
  bif v16 then
    guardP ((0 : Int) ≤ (wsub .i64 (lenI s10.1) (1 : Int)) ∧ (wsub .i64 (lenI s10.1) (1 : Int)) ≤ lenI s10.1) (
      guardP ((0 : Int) ≤ (wsub .i64 r6 (1 : Int)) ∧ (wsub .i64 r6 (1 : Int)) < lenI s10.2) (
        guardP ((0 : Int) ≤ (wsub .i64 r6 (1 : Int)) ∧ (wsub .i64 r6 (1 : Int)) ≤ lenI s10.2) (
          guardP (List.length ([(List.getD s10.2 (Int.toNat (wsub .i64 r6 (1 : Int))) (0 : Int))] : List Int) + List.length (List.take (Int.toNat (wsub .i64 r6 (1 : Int))) (List.drop 0 s10.2)) ≤ appMax) (
            some (.inl ((List.take (Int.toNat (wsub .i64 (lenI s10.1) (1 : Int))) s10.1), (([(List.getD s10.2 (Int.toNat (wsub .i64 r6 (1 : Int))) (0 : Int))] : List Int) ++ (List.take (Int.toNat (wsub .i64 r6 (1 : Int))) (List.drop 0 s10.2)))))))))
  else
    some (.inr (s10.1, s10.2))

noncomputable def spec_NormalLoop_B2 (a0 : List Int × List Int) (s4 : Int × Int) (s36 : Bool × Int) : Option ((Bool × Int) ⊕ (Bool)) :=
  bif (decide (s36.2 < (lenI a0.2))) then
    (show Option (Bool) from
      bif s36.1 then
        guardP ((0 : Int) ≤ s36.2 ∧ s36.2 < lenI a0.2) (
          guardP ((0 : Int) ≤ (wsub .i64 s36.2 s4.2) ∧ (wsub .i64 s36.2 s4.2) < lenI a0.2) (
            some ((List.getD a0.2 (Int.toNat s36.2) (0 : Int)) == (List.getD a0.2 (Int.toNat (wsub .i64 s36.2 s4.2)) (0 : Int)))))
      else
        some false).bind fun v44 =>
    some (.inl (v44, (wadd .i64 s36.2 (1 : Int))))
  else
    some (.inr s36.1)

noncomputable def spec_NormalLoop_B3 (a0 : List Int × List Int) (s4 : Int × Int) : Option ((Int × Int) ⊕ (Int)) :=
  bif (decide (s4.2 ≥ (1 : Int))) then
    (show Option (Int) from
      guardP (s4.2 ≠ 0) (
        (rounds (spec_NormalLoop_B2 a0 s4) (((Int.tmod (lenI a0.2) s4.2) == (0 : Int)), s4.2)).bind fun r38 =>
        bif r38 then
          some s4.2
        else
          some s4.1)).bind fun v32 =>
    some (.inl (v32, (wsub .i64 s4.2 (1 : Int))))
  else
    some (.inr s4.1)

noncomputable def spec_NormalLoop (a0 : List Int × List Int) (a1 : Int) : Option ((List Int × List Int) × Bool) :=
  (spec_l07Loop (a0.1, a0.2) a1).bind fun y1 =>
  bif (!y1) then
    some ((([] : List Int), ([] : List Int)), false)
  else
    (rounds (spec_NormalLoop_B3 a0) ((lenI a0.2), (lenI a0.2))).bind fun r6 =>
    guardP (0 + List.length a0.1 ≤ appMax) (
      guardP ((0 : Int) ≤ r6 ∧ r6 ≤ lenI a0.2) (
        guardP (0 + List.length (cut a0.2 (0 : Int) r6) ≤ appMax) (
          (rounds (spec_NormalLoop_B1 r6) (a0.1, (cut a0.2 (0 : Int) r6))).bind fun r12 =>
          some ((r12.1, r12.2), true))))

theorem f10_ok {a0 : List Int × List Int} {a1 : Int} {r : (List Int × List Int) × Bool} (hr : spec_NormalLoop a0 a1 = some r) : CallOK Try.prog 10 [.imm (.st (.pair (.sl (.int .i64)) (.sl (.int .i64)))) a0, .imm (.int .i64) a1] [⟨true, (.st (.pair (.sl (.int .i64)) (.sl (.int .i64)))), r.1⟩, ⟨false, .bool, r.2⟩] [] := by
  unfold spec_NormalLoop at hr
  refine CallOK.of_body (ts := [(true, (.st (.pair (.sl (.int .i64)) (.sl (.int .i64))))), (false, .bool)]) Try.func10 rfl (by kernel_rfl) (Nat.le_of_ble_eq_true (by kernel_rfl)) fun cx hP hN hO hF => ?_
  have hO : cx.own.map Prod.fst = [] := hO
  show HT cx ⟨[(0, .agg [.dat (.sl (.int .i64)) a0.1, .dat (.sl (.int .i64)) a0.2]), (1, .one (.dat (.int .i64) a1))], [], 0⟩ _ _
  refine HT.reg1 [1, 2, 4] [⟨none, .no⟩, ⟨none, .no⟩, ⟨none, .no⟩] ⟨[(1, .one (.dat (.int .i64) a1)), (2, .one (.ptr 0 0)), (4, .one (.ptr 1 0))], [(1, .box [.nilS, .nilS]), (0, .box [.dat (.sl (.int .i64)) a0.1, .dat (.sl (.int .i64)) a0.2])], 2⟩ hP hN (by kernel_rfl) allNil ?_
  refine HT.seq ?_
  obtain ⟨y1, hc2, hr⟩ := of_bind hr
  refine HT.reg1 [2, 4, 16] [⟨none, .no⟩, ⟨none, .call [.pimm (.st (.pair (.sl (.int .i64)) (.sl (.int .i64)))), .imm (.int .i64)] [⟨false, .bool, y1⟩] []⟩, ⟨none, .no⟩] ⟨[(2, .one (.ptr 0 0)), (4, .one (.ptr 1 0)), (16, .one (.dat .bool (!y1)))], [(1, .box [.nilS, .nilS]), (0, .box [.dat (.sl (.int .i64)) a0.1, .dat (.sl (.int .i64)) a0.2])], 2⟩ hP hN (by kernel_rfl) (allCons (f41_ok hc2) allNil) ?_
  rcases of_bif hr with ⟨hb3, hr⟩ | ⟨hb3, hr⟩
  · refine HT.cond1 rfl hb3 ?_
    refine HT.reg1 [4, 5] [⟨none, .no⟩, ⟨none, .no⟩, ⟨none, .no⟩] ⟨[(4, .one (.ptr 1 0)), (5, .one (.dat .bool false))], [(1, .box [.nilS, .nilS]), (1, .box [.nilS, .nilS]), (0, .box [.dat (.sl (.int .i64)) a0.1, .dat (.sl (.int .i64)) a0.2])], 2⟩ hP hN (by kernel_rfl) allNil ?_
    have hr := of_some hr
    subst hr
    exact HT.ret (qThenR ⟨[.agg [.nilS, .nilS], .one (.dat .bool false)], [], [], by kernel_rfl, by kernel_rfl, rfl, (.inl rfl), by kernel_rfl, trivial⟩)
  · refine HT.cond0 rfl hb3 ?_
    refine HT.skip (qThen ?_)
    refine HT.reg1 [2, 4, 6] [⟨none, .no⟩, ⟨none, .no⟩, ⟨none, .no⟩, ⟨none, .no⟩] ⟨[(2, .one (.ptr 0 0)), (4, .one (.ptr 1 0)), (6, .one (.dat (.int .i64) (lenI a0.2)))], [(1, .box [.nilS, .nilS]), (0, .box [.dat (.sl (.int .i64)) a0.1, .dat (.sl (.int .i64)) a0.2])], 2⟩ hP hN (by kernel_rfl) allNil ?_
    refine HT.reg1 [2, 4, 6, 7] [⟨none, .no⟩, ⟨none, .no⟩] ⟨[(2, .one (.ptr 0 0)), (4, .one (.ptr 1 0)), (6, .one (.dat (.int .i64) (lenI a0.2))), (7, .one (.dat (.int .i64) (lenI a0.2)))], [(1, .box [.nilS, .nilS]), (0, .box [.dat (.sl (.int .i64)) a0.1, .dat (.sl (.int .i64)) a0.2])], 2⟩ hP hN (by kernel_rfl) allNil ?_
    refine HT.seq ?_
    refine HT.reg1 [2, 4, 6, 7, 8] [⟨none, .no⟩, ⟨none, .no⟩] ⟨[(2, .one (.ptr 0 0)), (4, .one (.ptr 1 0)), (6, .one (.dat (.int .i64) (lenI a0.2))), (7, .one (.dat (.int .i64) (lenI a0.2))), (8, .one (.dat (.int .i64) (lenI a0.2)))], [(1, .box [.nilS, .nilS]), (0, .box [.dat (.sl (.int .i64)) a0.1, .dat (.sl (.int .i64)) a0.2])], 2⟩ hP hN (by kernel_rfl) allNil ?_
    refine HT.block ?_
    obtain ⟨r5, hL51, hr⟩ := of_bind hr
    refine (Le.cv (s := ⟨[(0, 0), (1, 1)], [], [], false⟩) (own := []) (ps := [(lenI a0.2) = (lenI a0.2), (lenI a0.2) = (lenI a0.2), (lenI a0.2) = (lenI a0.2), a0.1 = a0.1, a0.2 = a0.2]) (st' := ⟨[(2, .one (.ptr 0 0)), (4, .one (.ptr 1 0)), (6, .one (.dat (.int .i64) (lenI a0.2))), (7, .one (.dat (.int .i64) (lenI a0.2))), (8, .one (.dat (.int .i64) (lenI a0.2)))], [(0, .box [.dat (.sl (.int .i64)) a0.1, .dat (.sl (.int .i64)) a0.2]), (1, .box [.nilS, .nilS])], 2⟩) hO (fun h => by cases h) (by kernel_rfl) ⟨rfl, rfl, rfl, rfl, rfl, trivial⟩).ht ?_
    refine HT.loopE (s := ((lenI a0.2), (lenI a0.2))) (fun (s4 : Int × Int) => ⟨[(2, .one (.ptr 0 0)), (4, .one (.ptr 1 0)), (6, .one (.dat (.int .i64) (lenI a0.2))), (7, .one (.dat (.int .i64) s4.1)), (8, .one (.dat (.int .i64) s4.2))], [(0, .box [.dat (.sl (.int .i64)) a0.1, .dat (.sl (.int .i64)) a0.2]), (1, .box [.nilS, .nilS])], 2⟩) (fun (r6 : Int) => (.exit 0, ⟨[(2, .one (.ptr 0 0)), (4, .one (.ptr 1 0)), (7, .one (.dat (.int .i64) r6))], [(0, .box [.dat (.sl (.int .i64)) a0.1, .dat (.sl (.int .i64)) a0.2]), (1, .box [.nilS, .nilS])], 2⟩)) hL51 ?_ (fun s4 x28 hx29 hk30 => ?_)
    · refine (qBlockX (qThen ?_))
      obtain ⟨hg7, hr⟩ := of_guard hr
      refine HT.reg1 [2, 4, 7, 11] [⟨none, .no⟩, ⟨none, .no⟩, ⟨none, .no⟩, ⟨none, .ty (.int .i64)⟩, ⟨none, .no⟩] ⟨[(2, .one (.ptr 0 0)), (4, .one (.ptr 1 0)), (7, .one (.dat (.int .i64) r5)), (11, .one (.all 2))], [(2, .seq (.int .i64) a0.1), (0, .box [.dat (.sl (.int .i64)) a0.1, .dat (.sl (.int .i64)) a0.2]), (1, .box [.nilS, .nilS])], 3⟩ hP hN (by kernel_rfl) (allCons hg7 allNil) ?_
      obtain ⟨hg8, hr⟩ := of_guard hr
      obtain ⟨hg9, hr⟩ := of_guard hr
      refine HT.reg1 [4, 7, 11, 12] [⟨none, .no⟩, ⟨none, .no⟩, ⟨none, .no⟩, ⟨none, .no⟩, ⟨none, .no⟩, ⟨none, .ty (.int .i64)⟩, ⟨none, .no⟩] ⟨[(4, .one (.ptr 1 0)), (7, .one (.dat (.int .i64) r5)), (11, .one (.all 2)), (12, .one (.all 3))], [(3, .seq (.int .i64) (cut a0.2 (0 : Int) r5)), (2, .seq (.int .i64) a0.1), (0, .box [.dat (.sl (.int .i64)) a0.1, .dat (.sl (.int .i64)) a0.2]), (1, .box [.nilS, .nilS])], 4⟩ hP hN (by kernel_rfl) (allCons (show (0 : Int) ≤ 0 ∧ (0 : Int) ≤ r5 ∧ r5 ≤ lenI a0.2 from ⟨Int.le_refl _, hg8.1, hg8.2⟩) (allCons hg9 allNil)) ?_
      refine HT.seq ?_
      refine HT.block ?_
      obtain ⟨r11, hL27, hr⟩ := of_bind hr
      refine (Le.cv (s := ⟨[(1, 0), (2, 1), (3, 2)], [], [], false⟩) (own := []) (ps := [r5 = r5, a0.1 = a0.1, (cut a0.2 (0 : Int) r5) = (cut a0.2 (0 : Int) r5)]) (st' := ⟨[(4, .one (.ptr 0 0)), (7, .one (.dat (.int .i64) r5)), (11, .one (.all 1)), (12, .one (.all 2))], [(0, .box [.nilS, .nilS]), (1, .seq (.int .i64) a0.1), (2, .seq (.int .i64) (cut a0.2 (0 : Int) r5))], 3⟩) hO (fun h => by cases h) (by kernel_rfl) ⟨rfl, rfl, rfl, trivial⟩).ht ?_
      refine HT.loopE (s := (a0.1, (cut a0.2 (0 : Int) r5))) (fun (s10 : List Int × List Int) => ⟨[(4, .one (.ptr 0 0)), (7, .one (.dat (.int .i64) r5)), (11, .one (.all 1)), (12, .one (.all 2))], [(0, .box [.nilS, .nilS]), (1, .seq (.int .i64) s10.1), (2, .seq (.int .i64) s10.2)], 3⟩) (fun (r12 : (List Int × List Int)) => (.exit 4, ⟨[(4, .one (.ptr 0 0)), (11, .one (.all 1)), (12, .one (.all 2))], [(0, .box [.nilS, .nilS]), (1, .seq (.int .i64) r12.1), (2, .seq (.int .i64) r12.2)], 3⟩)) hL27 ?_ (fun s10 x13 hx14 hk15 => ?_)
      · refine (qBlockX (qThen ?_))
        refine HT.reg1 [4, 5] [⟨none, .no⟩, ⟨none, .no⟩, ⟨none, .no⟩, ⟨none, .no⟩, ⟨none, .no⟩] ⟨[(4, .one (.ptr 0 0)), (5, .one (.dat .bool true))], [(0, .box [.all 1, .all 2]), (0, .box [.nilS, .nilS]), (1, .seq (.int .i64) r11.1), (2, .seq (.int .i64) r11.2)], 3⟩ hP hN (by kernel_rfl) allNil ?_
        have hr := of_some hr
        subst hr
        exact HT.ret ⟨[.agg [.all 1, .all 2], .one (.dat .bool true)], [1, 2], [], by kernel_rfl, by kernel_rfl, rfl, (.inl rfl), by kernel_rfl, trivial⟩
      · refine HT.seq ?_
        obtain ⟨v16', hT18, hx14⟩ := of_bind hx14
        refine HT.join (fun (v16 : Bool) => ⟨[(4, .one (.ptr 0 0)), (7, .one (.dat (.int .i64) r5)), (11, .one (.all 1)), (12, .one (.all 2)), (81, .one (.dat .bool v16))], [(0, .box [.nilS, .nilS]), (1, .seq (.int .i64) s10.1), (2, .seq (.int .i64) s10.2)], 3⟩) (fun v => v = v16') (fun v16 hv17 => ?_) (fun cont => ?_)
        · subst hv17
          rcases of_bif hx14 with ⟨hb19, hx14⟩ | ⟨hb19, hx14⟩
          · refine HT.cond1 rfl hb19 ?_
            refine HT.skip (qThen ?_)
            refine HT.block ?_
            obtain ⟨hg20, hx14⟩ := of_guard hx14
            refine HT.reg1 [4, 7, 11, 12] [⟨none, .no⟩, ⟨none, .no⟩, ⟨none, .no⟩, ⟨none, .no⟩, ⟨none, .no⟩, ⟨none, .no⟩] ⟨[(4, .one (.ptr 0 0)), (7, .one (.dat (.int .i64) r5)), (11, .one (.ref 1 0 (Int.toNat (wsub .i64 (lenI s10.1) (1 : Int))))), (12, .one (.all 2))], [(0, .box [.nilS, .nilS]), (1, .seq (.int .i64) s10.1), (2, .seq (.int .i64) s10.2)], 3⟩ hP hN (by kernel_rfl) (allCons (show (0 : Int) ≤ 0 ∧ (0 : Int) ≤ (wsub .i64 (lenI s10.1) (1 : Int)) ∧ (wsub .i64 (lenI s10.1) (1 : Int)) ≤ lenI s10.1 from ⟨Int.le_refl _, hg20.1, hg20.2⟩) allNil) ?_
            obtain ⟨hg21, hx14⟩ := of_guard hx14
            refine HT.reg1 [4, 7, 11, 12, 13] [⟨none, .no⟩, ⟨none, .no⟩, ⟨none, .no⟩, ⟨none, .no⟩, ⟨none, .no⟩, ⟨none, .no⟩] ⟨[(4, .one (.ptr 0 0)), (7, .one (.dat (.int .i64) r5)), (11, .one (.ref 1 0 (Int.toNat (wsub .i64 (lenI s10.1) (1 : Int))))), (12, .one (.all 2)), (13, .one (.dat (.int .i64) (List.getD s10.2 (Int.toNat (wsub .i64 r5 (1 : Int))) (0 : Int))))], [(0, .box [.nilS, .nilS]), (1, .seq (.int .i64) s10.1), (2, .seq (.int .i64) s10.2)], 3⟩ hP hN (by kernel_rfl) (allCons hg21 (allCons (natLt hg21) allNil)) ?_
            obtain ⟨hg22, hx14⟩ := of_guard hx14
            obtain ⟨hg23, hx14⟩ := of_guard hx14
            have hx14 := of_some hx14
            subst hx14
            refine HT.reg (rs := [⟨none, .no⟩, ⟨none, .ty (.int .i64)⟩, ⟨none, .no⟩, ⟨none, .no⟩, ⟨none, .no⟩, ⟨none, .no⟩, ⟨none, .ty (.int .i64)⟩, ⟨none, .no⟩]) (st' := ⟨[(12, .one (.all 4)), (98, .one (.all 4)), (97, .one (.ref 2 0 (Int.toNat (wsub .i64 r5 (1 : Int))))), (96, .one (.dat (.int .i64) (wsub .i64 r5 (1 : Int)))), (95, .one (.dat (.int .i64) r5)), (94, .one (.all 2)), (93, .one (.all 3)), (92, .one (.dat (.int .i64) (List.getD s10.2 (Int.toNat (wsub .i64 r5 (1 : Int))) (0 : Int)))), (4, .one (.ptr 0 0)), (7, .one (.dat (.int .i64) r5)), (11, .one (.ref 1 0 (Int.toNat (wsub .i64 (lenI s10.1) (1 : Int))))), (12, .one (.all 2)), (13, .one (.dat (.int .i64) (List.getD s10.2 (Int.toNat (wsub .i64 r5 (1 : Int))) (0 : Int))))], [(3, .gone), (4, .seq (.int .i64) (([(List.getD s10.2 (Int.toNat (wsub .i64 r5 (1 : Int))) (0 : Int))] : List Int) ++ (List.take (Int.toNat (wsub .i64 r5 (1 : Int))) (List.drop 0 s10.2)))), (3, .seq (.int .i64) ([(List.getD s10.2 (Int.toNat (wsub .i64 r5 (1 : Int))) (0 : Int))] : List Int)), (0, .box [.nilS, .nilS]), (1, .seq (.int .i64) s10.1), (2, .seq (.int .i64) s10.2)], 5⟩) hP hN (by kernel_rfl) (allCons (show (0 : Int) ≤ 0 ∧ (0 : Int) ≤ (wsub .i64 r5 (1 : Int)) ∧ (wsub .i64 r5 (1 : Int)) ≤ lenI s10.2 from ⟨Int.le_refl _, hg22.1, hg22.2⟩) (allCons hg23 allNil)) (qBlock (qLoopN ⟨((List.take (Int.toNat (wsub .i64 (lenI s10.1) (1 : Int))) s10.1), (([(List.getD s10.2 (Int.toNat (wsub .i64 r5 (1 : Int))) (0 : Int))] : List Int) ++ (List.take (Int.toNat (wsub .i64 r5 (1 : Int))) (List.drop 0 s10.2)))), rfl, Le.cv (s := ⟨[(0, 0), (1, 1), (4, 2)], [], [1], false⟩) (own := []) (ps := [r5 = r5, 0 = 0, List.length (List.take (Int.toNat (wsub .i64 (lenI s10.1) (1 : Int))) s10.1) = Int.toNat (wsub .i64 (lenI s10.1) (1 : Int)), (List.take (Int.toNat (wsub .i64 (lenI s10.1) (1 : Int))) s10.1) = List.take (List.length (List.take (Int.toNat (wsub .i64 (lenI s10.1) (1 : Int))) s10.1)) s10.1, (([(List.getD s10.2 (Int.toNat (wsub .i64 r5 (1 : Int))) (0 : Int))] : List Int) ++ (List.take (Int.toNat (wsub .i64 r5 (1 : Int))) (List.drop 0 s10.2))) = (([(List.getD s10.2 (Int.toNat (wsub .i64 r5 (1 : Int))) (0 : Int))] : List Int) ++ (List.take (Int.toNat (wsub .i64 r5 (1 : Int))) (List.drop 0 s10.2)))]) (st' := ⟨[(4, .one (.ptr 0 0)), (7, .one (.dat (.int .i64) r5)), (11, .one (.all 1)), (12, .one (.all 2))], [(0, .box [.nilS, .nilS]), (1, .seq (.int .i64) (List.take (Int.toNat (wsub .i64 (lenI s10.1) (1 : Int))) s10.1)), (2, .seq (.int .i64) (([(List.getD s10.2 (Int.toNat (wsub .i64 r5 (1 : Int))) (0 : Int))] : List Int) ++ (List.take (Int.toNat (wsub .i64 r5 (1 : Int))) (List.drop 0 s10.2))))], 3⟩) hO (fun h => by cases h) (by kernel_rfl) ⟨rfl, rfl, (trunc1 hg20), (trunc2 _ _), rfl, trivial⟩⟩))
          · refine HT.cond0 rfl hb19 ?_
            have hx14 := of_some hx14
            subst hx14
            refine (Le.cv (s := ⟨[(0, 0), (1, 1), (2, 2)], [], [], false⟩) (own := []) (ps := [s10.1 = s10.1, s10.2 = s10.2]) (st' := ⟨[(4, .one (.ptr 0 0)), (11, .one (.all 1)), (12, .one (.all 2))], [(0, .box [.nilS, .nilS]), (1, .seq (.int .i64) s10.1), (2, .seq (.int .i64) s10.2)], 3⟩) hO (fun h => by cases h) (by kernel_rfl) ⟨rfl, rfl, trivial⟩).ht ?_
            exact HT.exit (qThenE (qLoopE (hk15 (s10.1, s10.2) rfl)))
        · rcases of_bif hT18 with ⟨hb24, hT18⟩ | ⟨hb24, hT18⟩
          · obtain ⟨hg25, hT18⟩ := of_guard hT18
            obtain ⟨hg26, hT18⟩ := of_guard hT18
            refine drawS (h := 15) (hrs := [⟨⟨none, .no⟩, []⟩, ⟨⟨none, .no⟩, [0]⟩, ⟨⟨none, .no⟩, [0, 1]⟩, ⟨⟨none, .no⟩, [0, 1, 2]⟩, ⟨⟨some true, .no⟩, [0, 1, 2, 3]⟩, ⟨⟨some true, .no⟩, [0, 1, 2, 3]⟩, ⟨⟨some true, .no⟩, [0, 1, 2, 3, 5]⟩, ⟨⟨some true, .no⟩, [0, 1, 2, 3, 5, 6]⟩, ⟨⟨some true, .no⟩, [0, 1, 2, 3, 4, 5, 6, 7]⟩, ⟨⟨some true, .no⟩, [0, 1, 2, 3, 4, 5, 6, 7, 8]⟩, ⟨⟨some true, .no⟩, [0, 1, 2, 3]⟩, ⟨⟨some true, .no⟩, [0, 1, 2, 3]⟩, ⟨⟨some true, .no⟩, [0, 1, 2, 3, 11]⟩, ⟨⟨some true, .no⟩, [0, 1, 2, 3, 10, 11, 12]⟩, ⟨⟨some true, .no⟩, [0, 1, 2, 3, 10, 11, 12, 13]⟩]) (tds := [[0, 1, 2, 3, 4, 5, 6, 7, 8, 9, 10, 11, 12, 13, 14], [0, 1, 2, 3, 4, 5, 6, 7, 8, 9, 10, 11, 12, 13, 14, 15]]) (rs := [⟨some true, .no⟩, ⟨none, .tv true⟩]) (st' := ⟨[(81, .one (.dat .bool ((List.getD s10.1 (Int.toNat (wsub .i64 (lenI s10.1) (1 : Int))) (0 : Int)) == (List.getD s10.2 (Int.toNat (wsub .i64 r5 (1 : Int))) (0 : Int))))), (80, .one (.dat .bool ((List.getD s10.1 (Int.toNat (wsub .i64 (lenI s10.1) (1 : Int))) (0 : Int)) == (List.getD s10.2 (Int.toNat (wsub .i64 r5 (1 : Int))) (0 : Int))))), (79, .one (.dat (.int .i64) (List.getD s10.2 (Int.toNat (wsub .i64 r5 (1 : Int))) (0 : Int)))), (78, .one (.elp 2 (Int.toNat (wsub .i64 r5 (1 : Int))) 1)), (77, .one (.dat (.int .i64) (wsub .i64 r5 (1 : Int)))), (76, .one (.dat (.int .i64) r5)), (75, .one (.all 2)), (74, .one (.dat (.int .i64) (List.getD s10.1 (Int.toNat (wsub .i64 (lenI s10.1) (1 : Int))) (0 : Int)))), (73, .one (.elp 1 (Int.toNat (wsub .i64 (lenI s10.1) (1 : Int))) 1)), (72, .one (.dat (.int .i64) (wsub .i64 (lenI s10.1) (1 : Int)))), (71, .one (.dat (.int .i64) (lenI s10.1))), (70, .one (.all 1)), (69, .one (.all 1)), (68, .one (.dat .bool (decide ((lenI s10.1) > (0 : Int))))), (67, .one (.dat .bool (decide ((lenI s10.1) > (0 : Int))))), (66, .one (.dat (.int .i64) (lenI s10.1))), (65, .one (.all 1)), (4, .one (.ptr 0 0)), (7, .one (.dat (.int .i64) r5)), (11, .one (.all 1)), (12, .one (.all 2))], [(0, .box [.nilS, .nilS]), (1, .seq (.int .i64) s10.1), (2, .seq (.int .i64) s10.2)], 3⟩) hP hN (by kernel_rfl) (by kernel_rfl) (allCons hb24 (allCons hb24 (allCons hb24 (allCons hb24 (allCons hb24 (allCons hg25 (allCons hb24 (allCons (natLt hg25) (allCons hb24 (allCons hb24 (allCons hb24 (allCons hb24 (allCons hg26 (allCons hb24 (allCons (natLt hg26) (allCons hb24 (allCons hb24 allNil))))))))))))))))) (qThen ?_)
            exact (Le.cv (s := ⟨[(0, 0), (1, 1), (2, 2)], [], [], false⟩) (own := []) (ps := [r5 = r5, ((List.getD s10.1 (Int.toNat (wsub .i64 (lenI s10.1) (1 : Int))) (0 : Int)) == (List.getD s10.2 (Int.toNat (wsub .i64 r5 (1 : Int))) (0 : Int))) = ((List.getD s10.1 (Int.toNat (wsub .i64 (lenI s10.1) (1 : Int))) (0 : Int)) == (List.getD s10.2 (Int.toNat (wsub .i64 r5 (1 : Int))) (0 : Int))), s10.1 = s10.1, s10.2 = s10.2]) (st' := ⟨[(4, .one (.ptr 0 0)), (7, .one (.dat (.int .i64) r5)), (11, .one (.all 1)), (12, .one (.all 2)), (81, .one (.dat .bool ((List.getD s10.1 (Int.toNat (wsub .i64 (lenI s10.1) (1 : Int))) (0 : Int)) == (List.getD s10.2 (Int.toNat (wsub .i64 r5 (1 : Int))) (0 : Int)))))], [(0, .box [.nilS, .nilS]), (1, .seq (.int .i64) s10.1), (2, .seq (.int .i64) s10.2)], 3⟩) hO (fun h => by cases h) (by kernel_rfl) ⟨rfl, rfl, rfl, rfl, trivial⟩).ht (cont ((List.getD s10.1 (Int.toNat (wsub .i64 (lenI s10.1) (1 : Int))) (0 : Int)) == (List.getD s10.2 (Int.toNat (wsub .i64 r5 (1 : Int))) (0 : Int))) (of_some hT18))
          · refine drawS (h := 15) (hrs := [⟨⟨none, .no⟩, []⟩, ⟨⟨none, .no⟩, [0]⟩, ⟨⟨none, .no⟩, [0, 1]⟩, ⟨⟨none, .no⟩, [0, 1, 2]⟩, ⟨⟨some false, .no⟩, [0, 1, 2, 3]⟩, ⟨⟨some false, .no⟩, [0, 1, 2, 3]⟩, ⟨⟨some false, .no⟩, [0, 1, 2, 3, 5]⟩, ⟨⟨some false, .no⟩, [0, 1, 2, 3, 5, 6]⟩, ⟨⟨some false, .no⟩, [0, 1, 2, 3, 4, 5, 6, 7]⟩, ⟨⟨some false, .no⟩, [0, 1, 2, 3, 4, 5, 6, 7, 8]⟩, ⟨⟨some false, .no⟩, [0, 1, 2, 3]⟩, ⟨⟨some false, .no⟩, [0, 1, 2, 3]⟩, ⟨⟨some false, .no⟩, [0, 1, 2, 3, 11]⟩, ⟨⟨some false, .no⟩, [0, 1, 2, 3, 10, 11, 12]⟩, ⟨⟨some false, .no⟩, [0, 1, 2, 3, 10, 11, 12, 13]⟩]) (tds := [[0, 1, 2, 3, 4, 5, 6, 7, 8, 9, 10, 11, 12, 13, 14], [0, 1, 2, 3, 4, 5, 6, 7, 8, 9, 10, 11, 12, 13, 14, 15]]) (rs := [⟨some false, .no⟩, ⟨none, .tv false⟩]) (st' := ⟨[(81, .one (.dat .bool false)), (80, .und), (79, .und), (78, .und), (77, .und), (76, .und), (75, .und), (74, .und), (73, .und), (72, .und), (71, .und), (70, .und), (69, .und), (68, .one (.dat .bool (decide ((lenI s10.1) > (0 : Int))))), (67, .one (.dat .bool (decide ((lenI s10.1) > (0 : Int))))), (66, .one (.dat (.int .i64) (lenI s10.1))), (65, .one (.all 1)), (4, .one (.ptr 0 0)), (7, .one (.dat (.int .i64) r5)), (11, .one (.all 1)), (12, .one (.all 2))], [(0, .box [.nilS, .nilS]), (1, .seq (.int .i64) s10.1), (2, .seq (.int .i64) s10.2)], 3⟩) hP hN (by kernel_rfl) (by kernel_rfl) (allCons hb24 (allCons hb24 (allCons hb24 (allCons hb24 (allCons hb24 (allCons hb24 (allCons hb24 (allCons hb24 (allCons hb24 (allCons hb24 (allCons hb24 (allCons hb24 (allCons hb24 allNil))))))))))))) (qThen ?_)
            exact (Le.cv (s := ⟨[(0, 0), (1, 1), (2, 2)], [], [], false⟩) (own := []) (ps := [r5 = r5, false = false, s10.1 = s10.1, s10.2 = s10.2]) (st' := ⟨[(4, .one (.ptr 0 0)), (7, .one (.dat (.int .i64) r5)), (11, .one (.all 1)), (12, .one (.all 2)), (81, .one (.dat .bool false))], [(0, .box [.nilS, .nilS]), (1, .seq (.int .i64) s10.1), (2, .seq (.int .i64) s10.2)], 3⟩) hO (fun h => by cases h) (by kernel_rfl) ⟨rfl, rfl, rfl, rfl, trivial⟩).ht (cont false (of_some hT18))
    · refine HT.seq ?_
      refine HT.reg1 [2, 4, 6, 7, 8, 24] [⟨none, .no⟩, ⟨none, .no⟩] ⟨[(2, .one (.ptr 0 0)), (4, .one (.ptr 1 0)), (6, .one (.dat (.int .i64) (lenI a0.2))), (7, .one (.dat (.int .i64) s4.1)), (8, .one (.dat (.int .i64) s4.2)), (24, .one (.dat .bool (decide (s4.2 ≥ (1 : Int)))))], [(0, .box [.dat (.sl (.int .i64)) a0.1, .dat (.sl (.int .i64)) a0.2]), (1, .box [.nilS, .nilS])], 2⟩ hP hN (by kernel_rfl) allNil ?_
      rcases of_bif hx29 with ⟨hb31, hx29⟩ | ⟨hb31, hx29⟩
      · refine HT.cond1 rfl hb31 ?_
        refine HT.skip (qThen ?_)
        obtain ⟨v32', hT34, hx29⟩ := of_bind hx29
        refine HT.join (fun (v32 : Int) => ⟨[(2, .one (.ptr 0 0)), (4, .one (.ptr 1 0)), (6, .one (.dat (.int .i64) (lenI a0.2))), (7, .one (.dat (.int .i64) v32)), (8, .one (.dat (.int .i64) s4.2))], [(0, .box [.dat (.sl (.int .i64)) a0.1, .dat (.sl (.int .i64)) a0.2]), (1, .box [.nilS, .nilS])], 2⟩) (fun v => v = v32') (fun v32 hv33 => ?_) (fun cont => ?_)
        · subst hv33
          have hx29 := of_some hx29
          subst hx29
          refine HT.reg (rs := [⟨none, .no⟩, ⟨none, .no⟩, ⟨none, .no⟩]) (st' := ⟨[(8, .one (.dat (.int .i64) (wsub .i64 s4.2 (1 : Int)))), (26, .one (.dat (.int .i64) (wsub .i64 s4.2 (1 : Int)))), (25, .one (.dat (.int .i64) s4.2)), (2, .one (.ptr 0 0)), (4, .one (.ptr 1 0)), (6, .one (.dat (.int .i64) (lenI a0.2))), (7, .one (.dat (.int .i64) v32)), (8, .one (.dat (.int .i64) s4.2))], [(0, .box [.dat (.sl (.int .i64)) a0.1, .dat (.sl (.int .i64)) a0.2]), (1, .box [.nilS, .nilS])], 2⟩) hP hN (by kernel_rfl) allNil (qLoopN ⟨(v32, (wsub .i64 s4.2 (1 : Int))), rfl, Le.cv (s := ⟨[(0, 0), (1, 1)], [], [], false⟩) (own := []) (ps := [(lenI a0.2) = (lenI a0.2), v32 = v32, (wsub .i64 s4.2 (1 : Int)) = (wsub .i64 s4.2 (1 : Int)), a0.1 = a0.1, a0.2 = a0.2]) (st' := ⟨[(2, .one (.ptr 0 0)), (4, .one (.ptr 1 0)), (6, .one (.dat (.int .i64) (lenI a0.2))), (7, .one (.dat (.int .i64) v32)), (8, .one (.dat (.int .i64) (wsub .i64 s4.2 (1 : Int))))], [(0, .box [.dat (.sl (.int .i64)) a0.1, .dat (.sl (.int .i64)) a0.2]), (1, .box [.nilS, .nilS])], 2⟩) hO (fun h => by cases h) (by kernel_rfl) ⟨rfl, rfl, rfl, rfl, rfl, trivial⟩⟩)
        · refine HT.block ?_
          obtain ⟨hg35, hT34⟩ := of_guard hT34
          refine HT.reg1 [2, 4, 6, 7, 8, 9] [⟨none, .no⟩, ⟨none, .no⟩, ⟨none, .no⟩, ⟨none, .no⟩, ⟨none, .no⟩] ⟨[(2, .one (.ptr 0 0)), (4, .one (.ptr 1 0)), (6, .one (.dat (.int .i64) (lenI a0.2))), (7, .one (.dat (.int .i64) s4.1)), (8, .one (.dat (.int .i64) s4.2)), (9, .one (.dat .bool ((Int.tmod (lenI a0.2) s4.2) == (0 : Int))))], [(0, .box [.dat (.sl (.int .i64)) a0.1, .dat (.sl (.int .i64)) a0.2]), (1, .box [.nilS, .nilS])], 2⟩ hP hN (by kernel_rfl) (allCons hg35 allNil) ?_
          refine HT.seq ?_
          refine HT.reg1 [2, 4, 6, 7, 8, 9, 10] [⟨none, .no⟩, ⟨none, .no⟩] ⟨[(2, .one (.ptr 0 0)), (4, .one (.ptr 1 0)), (6, .one (.dat (.int .i64) (lenI a0.2))), (7, .one (.dat (.int .i64) s4.1)), (8, .one (.dat (.int .i64) s4.2)), (9, .one (.dat .bool ((Int.tmod (lenI a0.2) s4.2) == (0 : Int)))), (10, .one (.dat (.int .i64) s4.2))], [(0, .box [.dat (.sl (.int .i64)) a0.1, .dat (.sl (.int .i64)) a0.2]), (1, .box [.nilS, .nilS])], 2⟩ hP hN (by kernel_rfl) allNil ?_
          refine HT.block ?_
          obtain ⟨r37, hL50, hT34⟩ := of_bind hT34
          refine (Le.cv (s := ⟨[(0, 0), (1, 1)], [], [], false⟩) (own := []) (ps := [(lenI a0.2) = (lenI a0.2), s4.1 = s4.1, s4.2 = s4.2, ((Int.tmod (lenI a0.2) s4.2) == (0 : Int)) = ((Int.tmod (lenI a0.2) s4.2) == (0 : Int)), s4.2 = s4.2, a0.1 = a0.1, a0.2 = a0.2]) (st' := ⟨[(2, .one (.ptr 0 0)), (4, .one (.ptr 1 0)), (6, .one (.dat (.int .i64) (lenI a0.2))), (7, .one (.dat (.int .i64) s4.1)), (8, .one (.dat (.int .i64) s4.2)), (9, .one (.dat .bool ((Int.tmod (lenI a0.2) s4.2) == (0 : Int)))), (10, .one (.dat (.int .i64) s4.2))], [(0, .box [.dat (.sl (.int .i64)) a0.1, .dat (.sl (.int .i64)) a0.2]), (1, .box [.nilS, .nilS])], 2⟩) hO (fun h => by cases h) (by kernel_rfl) ⟨rfl, rfl, rfl, rfl, rfl, rfl, rfl, trivial⟩).ht ?_
          refine HT.loopE (s := (((Int.tmod (lenI a0.2) s4.2) == (0 : Int)), s4.2)) (fun (s36 : Bool × Int) => ⟨[(2, .one (.ptr 0 0)), (4, .one (.ptr 1 0)), (6, .one (.dat (.int .i64) (lenI a0.2))), (7, .one (.dat (.int .i64) s4.1)), (8, .one (.dat (.int .i64) s4.2)), (9, .one (.dat .bool s36.1)), (10, .one (.dat (.int .i64) s36.2))], [(0, .box [.dat (.sl (.int .i64)) a0.1, .dat (.sl (.int .i64)) a0.2]), (1, .box [.nilS, .nilS])], 2⟩) (fun (r38 : Bool) => (.exit 2, ⟨[(2, .one (.ptr 0 0)), (4, .one (.ptr 1 0)), (6, .one (.dat (.int .i64) (lenI a0.2))), (7, .one (.dat (.int .i64) s4.1)), (8, .one (.dat (.int .i64) s4.2)), (9, .one (.dat .bool r38))], [(0, .box [.dat (.sl (.int .i64)) a0.1, .dat (.sl (.int .i64)) a0.2]), (1, .box [.nilS, .nilS])], 2⟩)) hL50 ?_ (fun s36 x40 hx41 hk42 => ?_)
          · refine (qBlockX (qThen ?_))
            refine HT.reg1 [2, 4, 6, 7, 8, 53] [⟨none, .no⟩] ⟨[(2, .one (.ptr 0 0)), (4, .one (.ptr 1 0)), (6, .one (.dat (.int .i64) (lenI a0.2))), (7, .one (.dat (.int .i64) s4.1)), (8, .one (.dat (.int .i64) s4.2)), (53, .one (.dat .bool r37))], [(0, .box [.dat (.sl (.int .i64)) a0.1, .dat (.sl (.int .i64)) a0.2]), (1, .box [.nilS, .nilS])], 2⟩ hP hN (by kernel_rfl) allNil ?_
            rcases of_bif hT34 with ⟨hb39, hT34⟩ | ⟨hb39, hT34⟩
            · refine HT.cond1 rfl hb39 ?_
              refine HT.reg (rs := [⟨none, .no⟩, ⟨none, .no⟩]) (st' := ⟨[(7, .one (.dat (.int .i64) s4.2)), (54, .one (.dat (.int .i64) s4.2)), (2, .one (.ptr 0 0)), (4, .one (.ptr 1 0)), (6, .one (.dat (.int .i64) (lenI a0.2))), (7, .one (.dat (.int .i64) s4.1)), (8, .one (.dat (.int .i64) s4.2)), (53, .one (.dat .bool r37))], [(0, .box [.dat (.sl (.int .i64)) a0.1, .dat (.sl (.int .i64)) a0.2]), (1, .box [.nilS, .nilS])], 2⟩) hP hN (by kernel_rfl) allNil (qBlock (qThen ?_))
              exact (Le.cv (s := ⟨[(0, 0), (1, 1)], [], [], false⟩) (own := []) (ps := [(lenI a0.2) = (lenI a0.2), s4.2 = s4.2, s4.2 = s4.2, a0.1 = a0.1, a0.2 = a0.2]) (st' := ⟨[(2, .one (.ptr 0 0)), (4, .one (.ptr 1 0)), (6, .one (.dat (.int .i64) (lenI a0.2))), (7, .one (.dat (.int .i64) s4.2)), (8, .one (.dat (.int .i64) s4.2))], [(0, .box [.dat (.sl (.int .i64)) a0.1, .dat (.sl (.int .i64)) a0.2]), (1, .box [.nilS, .nilS])], 2⟩) hO (fun h => by cases h) (by kernel_rfl) ⟨rfl, rfl, rfl, rfl, rfl, trivial⟩).ht (cont s4.2 (of_some hT34))
            · refine HT.cond0 rfl hb39 ?_
              refine HT.skip (qBlock (qThen ?_))
              exact (Le.cv (s := ⟨[(0, 0), (1, 1)], [], [], false⟩) (own := []) (ps := [(lenI a0.2) = (lenI a0.2), s4.1 = s4.1, s4.2 = s4.2, a0.1 = a0.1, a0.2 = a0.2]) (st' := ⟨[(2, .one (.ptr 0 0)), (4, .one (.ptr 1 0)), (6, .one (.dat (.int .i64) (lenI a0.2))), (7, .one (.dat (.int .i64) s4.1)), (8, .one (.dat (.int .i64) s4.2))], [(0, .box [.dat (.sl (.int .i64)) a0.1, .dat (.sl (.int .i64)) a0.2]), (1, .box [.nilS, .nilS])], 2⟩) hO (fun h => by cases h) (by kernel_rfl) ⟨rfl, rfl, rfl, rfl, rfl, trivial⟩).ht (cont s4.1 (of_some hT34))
          · refine HT.seq ?_
            refine HT.reg1 [2, 4, 6, 7, 8, 9, 10, 34] [⟨none, .no⟩, ⟨none, .no⟩, ⟨none, .no⟩] ⟨[(2, .one (.ptr 0 0)), (4, .one (.ptr 1 0)), (6, .one (.dat (.int .i64) (lenI a0.2))), (7, .one (.dat (.int .i64) s4.1)), (8, .one (.dat (.int .i64) s4.2)), (9, .one (.dat .bool s36.1)), (10, .one (.dat (.int .i64) s36.2)), (34, .one (.dat .bool (decide (s36.2 < (lenI a0.2)))))], [(0, .box [.dat (.sl (.int .i64)) a0.1, .dat (.sl (.int .i64)) a0.2]), (1, .box [.nilS, .nilS])], 2⟩ hP hN (by kernel_rfl) allNil ?_
            rcases of_bif hx41 with ⟨hb43, hx41⟩ | ⟨hb43, hx41⟩
            · refine HT.cond1 rfl hb43 ?_
              refine HT.skip (qThen ?_)
              obtain ⟨v44', hT46, hx41⟩ := of_bind hx41
              refine HT.join (fun (v44 : Bool) => ⟨[(2, .one (.ptr 0 0)), (4, .one (.ptr 1 0)), (6, .one (.dat (.int .i64) (lenI a0.2))), (7, .one (.dat (.int .i64) s4.1)), (8, .one (.dat (.int .i64) s4.2)), (9, .one (.dat .bool v44)), (10, .one (.dat (.int .i64) s36.2))], [(0, .box [.dat (.sl (.int .i64)) a0.1, .dat (.sl (.int .i64)) a0.2]), (1, .box [.nilS, .nilS])], 2⟩) (fun v => v = v44') (fun v44 hv45 => ?_) (fun cont => ?_)
              · subst hv45
                have hx41 := of_some hx41
                subst hx41
                refine HT.reg (rs := [⟨none, .no⟩, ⟨none, .no⟩, ⟨none, .no⟩]) (st' := ⟨[(10, .one (.dat (.int .i64) (wadd .i64 s36.2 (1 : Int)))), (36, .one (.dat (.int .i64) (wadd .i64 s36.2 (1 : Int)))), (35, .one (.dat (.int .i64) s36.2)), (2, .one (.ptr 0 0)), (4, .one (.ptr 1 0)), (6, .one (.dat (.int .i64) (lenI a0.2))), (7, .one (.dat (.int .i64) s4.1)), (8, .one (.dat (.int .i64) s4.2)), (9, .one (.dat .bool v44)), (10, .one (.dat (.int .i64) s36.2))], [(0, .box [.dat (.sl (.int .i64)) a0.1, .dat (.sl (.int .i64)) a0.2]), (1, .box [.nilS, .nilS])], 2⟩) hP hN (by kernel_rfl) allNil (qLoopN ⟨(v44, (wadd .i64 s36.2 (1 : Int))), rfl, Le.cv (s := ⟨[(0, 0), (1, 1)], [], [], false⟩) (own := []) (ps := [(lenI a0.2) = (lenI a0.2), s4.1 = s4.1, s4.2 = s4.2, v44 = v44, (wadd .i64 s36.2 (1 : Int)) = (wadd .i64 s36.2 (1 : Int)), a0.1 = a0.1, a0.2 = a0.2]) (st' := ⟨[(2, .one (.ptr 0 0)), (4, .one (.ptr 1 0)), (6, .one (.dat (.int .i64) (lenI a0.2))), (7, .one (.dat (.int .i64) s4.1)), (8, .one (.dat (.int .i64) s4.2)), (9, .one (.dat .bool v44)), (10, .one (.dat (.int .i64) (wadd .i64 s36.2 (1 : Int))))], [(0, .box [.dat (.sl (.int .i64)) a0.1, .dat (.sl (.int .i64)) a0.2]), (1, .box [.nilS, .nilS])], 2⟩) hO (fun h => by cases h) (by kernel_rfl) ⟨rfl, rfl, rfl, rfl, rfl, rfl, rfl, trivial⟩⟩)
              · refine HT.block ?_
                rcases of_bif hT46 with ⟨hb47, hT46⟩ | ⟨hb47, hT46⟩
                · obtain ⟨hg48, hT46⟩ := of_guard hT46
                  obtain ⟨hg49, hT46⟩ := of_guard hT46
                  refine drawS (h := 14) (hrs := [⟨⟨none, .no⟩, []⟩, ⟨⟨none, .no⟩, [0]⟩, ⟨⟨some true, .no⟩, [0, 1]⟩, ⟨⟨some true, .no⟩, [0, 1, 2]⟩, ⟨⟨some true, .no⟩, [0, 1]⟩, ⟨⟨some true, .no⟩, [0, 1, 2, 3, 4]⟩, ⟨⟨some true, .no⟩, [0, 1, 2, 3, 4, 5]⟩, ⟨⟨some true, .no⟩, [0, 1]⟩, ⟨⟨some true, .no⟩, [0, 1, 7]⟩, ⟨⟨some true, .no⟩, [0, 1]⟩, ⟨⟨some true, .no⟩, [0, 1]⟩, ⟨⟨some true, .no⟩, [0, 1, 9, 10]⟩, ⟨⟨some true, .no⟩, [0, 1, 7, 8, 9, 10, 11]⟩, ⟨⟨some true, .no⟩, [0, 1, 7, 8, 9, 10, 11, 12]⟩]) (tds := [[0, 1, 2, 3, 4, 5, 6, 7, 8, 9, 10, 11, 12, 13], [0, 1, 2, 3, 4, 5, 6, 7, 8, 9, 10, 11, 12, 13, 14], [0, 1, 2, 3, 4, 5, 6, 7, 8, 9, 10, 11, 12, 13, 14, 15]]) (rs := [⟨some true, .no⟩, ⟨none, .tv true⟩, ⟨none, .no⟩]) (st' := ⟨[(9, .one (.dat .bool ((List.getD a0.2 (Int.toNat s36.2) (0 : Int)) == (List.getD a0.2 (Int.toNat (wsub .i64 s36.2 s4.2)) (0 : Int))))), (52, .one (.dat .bool ((List.getD a0.2 (Int.toNat s36.2) (0 : Int)) == (List.getD a0.2 (Int.toNat (wsub .i64 s36.2 s4.2)) (0 : Int))))), (51, .one (.dat .bool ((List.getD a0.2 (Int.toNat s36.2) (0 : Int)) == (List.getD a0.2 (Int.toNat (wsub .i64 s36.2 s4.2)) (0 : Int))))), (50, .one (.dat (.int .i64) (List.getD a0.2 (Int.toNat (wsub .i64 s36.2 s4.2)) (0 : Int)))), (49, .one (.ip (.int .i64) (List.getD a0.2 (Int.toNat (wsub .i64 s36.2 s4.2)) (0 : Int)) 0)), (48, .one (.dat (.int .i64) (wsub .i64 s36.2 s4.2))), (47, .one (.dat (.int .i64) s4.2)), (46, .one (.dat (.int .i64) s36.2)), (45, .one (.dat (.sl (.int .i64)) a0.2)), (44, .one (.ptr 0 1)), (43, .one (.dat (.int .i64) (List.getD a0.2 (Int.toNat s36.2) (0 : Int)))), (42, .one (.ip (.int .i64) (List.getD a0.2 (Int.toNat s36.2) (0 : Int)) 0)), (41, .one (.dat (.int .i64) s36.2)), (40, .one (.dat (.sl (.int .i64)) a0.2)), (39, .one (.ptr 0 1)), (38, .one (.dat .bool s36.1)), (37, .one (.dat .bool s36.1)), (2, .one (.ptr 0 0)), (4, .one (.ptr 1 0)), (6, .one (.dat (.int .i64) (lenI a0.2))), (7, .one (.dat (.int .i64) s4.1)), (8, .one (.dat (.int .i64) s4.2)), (9, .one (.dat .bool s36.1)), (10, .one (.dat (.int .i64) s36.2)), (34, .one (.dat .bool (decide (s36.2 < (lenI a0.2)))))], [(0, .box [.dat (.sl (.int .i64)) a0.1, .dat (.sl (.int .i64)) a0.2]), (1, .box [.nilS, .nilS])], 2⟩) hP hN (by kernel_rfl) (by kernel_rfl) (allCons hb47 (allCons hb47 (allCons hb47 (allCons hb47 (allCons hg48 (allCons hb47 (allCons hb47 (allCons hb47 (allCons hb47 (allCons hb47 (allCons hb47 (allCons hb47 (allCons hg49 (allCons hb47 (allCons hb47 (allCons hb47 allNil)))))))))))))))) (qBlock (qThen ?_))
                  exact (Le.cv (s := ⟨[(0, 0), (1, 1)], [], [], false⟩) (own := []) (ps := [(lenI a0.2) = (lenI a0.2), s4.1 = s4.1, s4.2 = s4.2, ((List.getD a0.2 (Int.toNat s36.2) (0 : Int)) == (List.getD a0.2 (Int.toNat (wsub .i64 s36.2 s4.2)) (0 : Int))) = ((List.getD a0.2 (Int.toNat s36.2) (0 : Int)) == (List.getD a0.2 (Int.toNat (wsub .i64 s36.2 s4.2)) (0 : Int))), s36.2 = s36.2, a0.1 = a0.1, a0.2 = a0.2]) (st' := ⟨[(2, .one (.ptr 0 0)), (4, .one (.ptr 1 0)), (6, .one (.dat (.int .i64) (lenI a0.2))), (7, .one (.dat (.int .i64) s4.1)), (8, .one (.dat (.int .i64) s4.2)), (9, .one (.dat .bool ((List.getD a0.2 (Int.toNat s36.2) (0 : Int)) == (List.getD a0.2 (Int.toNat (wsub .i64 s36.2 s4.2)) (0 : Int))))), (10, .one (.dat (.int .i64) s36.2))], [(0, .box [.dat (.sl (.int .i64)) a0.1, .dat (.sl (.int .i64)) a0.2]), (1, .box [.nilS, .nilS])], 2⟩) hO (fun h => by cases h) (by kernel_rfl) ⟨rfl, rfl, rfl, rfl, rfl, rfl, rfl, trivial⟩).ht (cont ((List.getD a0.2 (Int.toNat s36.2) (0 : Int)) == (List.getD a0.2 (Int.toNat (wsub .i64 s36.2 s4.2)) (0 : Int))) (of_some hT46))
                · refine drawS (h := 14) (hrs := [⟨⟨none, .no⟩, []⟩, ⟨⟨none, .no⟩, [0]⟩, ⟨⟨some false, .no⟩, [0, 1]⟩, ⟨⟨some false, .no⟩, [0, 1, 2]⟩, ⟨⟨some false, .no⟩, [0, 1]⟩, ⟨⟨some false, .no⟩, [0, 1, 2, 3, 4]⟩, ⟨⟨some false, .no⟩, [0, 1, 2, 3, 4, 5]⟩, ⟨⟨some false, .no⟩, [0, 1]⟩, ⟨⟨some false, .no⟩, [0, 1, 7]⟩, ⟨⟨some false, .no⟩, [0, 1]⟩, ⟨⟨some false, .no⟩, [0, 1]⟩, ⟨⟨some false, .no⟩, [0, 1, 9, 10]⟩, ⟨⟨some false, .no⟩, [0, 1, 7, 8, 9, 10, 11]⟩, ⟨⟨some false, .no⟩, [0, 1, 7, 8, 9, 10, 11, 12]⟩]) (tds := [[0, 1, 2, 3, 4, 5, 6, 7, 8, 9, 10, 11, 12, 13], [0, 1, 2, 3, 4, 5, 6, 7, 8, 9, 10, 11, 12, 13, 14], [0, 1, 2, 3, 4, 5, 6, 7, 8, 9, 10, 11, 12, 13, 14, 15]]) (rs := [⟨some false, .no⟩, ⟨none, .tv false⟩, ⟨none, .no⟩]) (st' := ⟨[(9, .one (.dat .bool false)), (52, .one (.dat .bool false)), (51, .und), (50, .und), (49, .und), (48, .und), (47, .und), (46, .und), (45, .und), (44, .und), (43, .und), (42, .und), (41, .und), (40, .und), (39, .und), (38, .one (.dat .bool s36.1)), (37, .one (.dat .bool s36.1)), (2, .one (.ptr 0 0)), (4, .one (.ptr 1 0)), (6, .one (.dat (.int .i64) (lenI a0.2))), (7, .one (.dat (.int .i64) s4.1)), (8, .one (.dat (.int .i64) s4.2)), (9, .one (.dat .bool s36.1)), (10, .one (.dat (.int .i64) s36.2)), (34, .one (.dat .bool (decide (s36.2 < (lenI a0.2)))))], [(0, .box [.dat (.sl (.int .i64)) a0.1, .dat (.sl (.int .i64)) a0.2]), (1, .box [.nilS, .nilS])], 2⟩) hP hN (by kernel_rfl) (by kernel_rfl) (allCons hb47 (allCons hb47 (allCons hb47 (allCons hb47 (allCons hb47 (allCons hb47 (allCons hb47 (allCons hb47 (allCons hb47 (allCons hb47 (allCons hb47 (allCons hb47 (allCons hb47 (allCons hb47 allNil)))))))))))))) (qBlock (qThen ?_))
                  exact (Le.cv (s := ⟨[(0, 0), (1, 1)], [], [], false⟩) (own := []) (ps := [(lenI a0.2) = (lenI a0.2), s4.1 = s4.1, s4.2 = s4.2, false = false, s36.2 = s36.2, a0.1 = a0.1, a0.2 = a0.2]) (st' := ⟨[(2, .one (.ptr 0 0)), (4, .one (.ptr 1 0)), (6, .one (.dat (.int .i64) (lenI a0.2))), (7, .one (.dat (.int .i64) s4.1)), (8, .one (.dat (.int .i64) s4.2)), (9, .one (.dat .bool false)), (10, .one (.dat (.int .i64) s36.2))], [(0, .box [.dat (.sl (.int .i64)) a0.1, .dat (.sl (.int .i64)) a0.2]), (1, .box [.nilS, .nilS])], 2⟩) hO (fun h => by cases h) (by kernel_rfl) ⟨rfl, rfl, rfl, rfl, rfl, rfl, rfl, trivial⟩).ht (cont false (of_some hT46))
            · refine HT.cond0 rfl hb43 ?_
              have hx41 := of_some hx41
              subst hx41
              refine (Le.cv (s := ⟨[(0, 0), (1, 1)], [], [], false⟩) (own := []) (ps := [(lenI a0.2) = (lenI a0.2), s4.1 = s4.1, s4.2 = s4.2, s36.1 = s36.1, a0.1 = a0.1, a0.2 = a0.2]) (st' := ⟨[(2, .one (.ptr 0 0)), (4, .one (.ptr 1 0)), (6, .one (.dat (.int .i64) (lenI a0.2))), (7, .one (.dat (.int .i64) s4.1)), (8, .one (.dat (.int .i64) s4.2)), (9, .one (.dat .bool s36.1))], [(0, .box [.dat (.sl (.int .i64)) a0.1, .dat (.sl (.int .i64)) a0.2]), (1, .box [.nilS, .nilS])], 2⟩) hO (fun h => by cases h) (by kernel_rfl) ⟨rfl, rfl, rfl, rfl, rfl, rfl, trivial⟩).ht ?_
              exact HT.exit (qThenE (qLoopE (hk42 s36.1 rfl)))
      · refine HT.cond0 rfl hb31 ?_
        have hx29 := of_some hx29
        subst hx29
        refine (Le.cv (s := ⟨[(0, 0), (1, 1)], [], [], false⟩) (own := []) (ps := [s4.1 = s4.1, a0.1 = a0.1, a0.2 = a0.2]) (st' := ⟨[(2, .one (.ptr 0 0)), (4, .one (.ptr 1 0)), (7, .one (.dat (.int .i64) s4.1))], [(0, .box [.dat (.sl (.int .i64)) a0.1, .dat (.sl (.int .i64)) a0.2]), (1, .box [.nilS, .nilS])], 2⟩) hO (fun h => by cases h) (by kernel_rfl) ⟨rfl, rfl, rfl, trivial⟩).ht ?_
        exact HT.exit (qThenE (qLoopE (hk30 s4.1 rfl)))

noncomputable def impl_within (a0 : Int) (a1 : Int) (a2 : Int) : Option (Bool) :=
  (show Option (Bool) from
    bif (decide (a0 ≥ a1)) then
      some (decide (a0 ≤ a2))
    else
      some false).bind fun v1 =>
  some v1

theorem f57_ok {a0 : Int} {a1 : Int} {a2 : Int} {r : Bool} (hr : impl_within a0 a1 a2 = some r) : CallOK Try.prog 57 [.imm (.int .i64) a0, .imm (.int .i64) a1, .imm (.int .i64) a2] [⟨false, .bool, r⟩] [] := by
  unfold impl_within at hr
  refine CallOK.of_body (ts := [(false, .bool)]) Try.func57 rfl (by kernel_rfl) (Nat.le_of_ble_eq_true (by kernel_rfl)) fun cx hP hN hO hF => ?_
  have hO : cx.own.map Prod.fst = [] := hO
  show HT cx ⟨[(0, .one (.dat (.int .i64) a0)), (1, .one (.dat (.int .i64) a1)), (2, .one (.dat (.int .i64) a2))], [], 0⟩ _ _
  refine HT.reg1 [0, 1, 2] [⟨none, .no⟩] ⟨[(0, .one (.dat (.int .i64) a0)), (1, .one (.dat (.int .i64) a1)), (2, .one (.dat (.int .i64) a2))], [], 0⟩ hP hN (by kernel_rfl) allNil ?_
  obtain ⟨v1', hT3, hr⟩ := of_bind hr
  refine HT.join (fun (v1 : Bool) => ⟨[(6, .one (.dat .bool v1))], [], 0⟩) (fun v => v = v1') (fun v1 hv2 => ?_) (fun cont => ?_)
  · subst hv2
    have hr := of_some hr
    subst hr
    exact HT.ret ⟨[.one (.dat .bool v1)], [], [], by kernel_rfl, by kernel_rfl, rfl, (.inl rfl), by kernel_rfl, trivial⟩
  · rcases of_bif hT3 with ⟨hb4, hT3⟩ | ⟨hb4, hT3⟩
    · refine HT.reg (rs := [⟨none, .no⟩, ⟨none, .no⟩, ⟨none, .no⟩, ⟨none, .no⟩, ⟨some true, .no⟩, ⟨some true, .no⟩, ⟨some true, .no⟩, ⟨none, .tv true⟩, ⟨none, .no⟩]) (st' := ⟨[(6, .one (.dat .bool (decide (a0 ≤ a2)))), (14, .one (.dat .bool (decide (a0 ≤ a2)))), (13, .one (.dat .bool (decide (a0 ≤ a2)))), (12, .one (.dat (.int .i64) a2)), (11, .one (.dat (.int .i64) a0)), (10, .one (.dat .bool (decide (a0 ≥ a1)))), (9, .one (.dat .bool (decide (a0 ≥ a1)))), (8, .one (.dat (.int .i64) a1)), (7, .one (.dat (.int .i64) a0)), (0, .one (.dat (.int .i64) a0)), (1, .one (.dat (.int .i64) a1)), (2, .one (.dat (.int .i64) a2))], [], 0⟩) hP hN (by kernel_rfl) (allCons hb4 (allCons hb4 (allCons hb4 (allCons hb4 allNil)))) (qThen ?_)
      exact (Le.cv (s := ⟨[], [], [], false⟩) (own := []) (ps := [(decide (a0 ≤ a2)) = (decide (a0 ≤ a2))]) (st' := ⟨[(6, .one (.dat .bool (decide (a0 ≤ a2))))], [], 0⟩) hO (fun h => by cases h) (by kernel_rfl) ⟨rfl, trivial⟩).ht (cont (decide (a0 ≤ a2)) (of_some hT3))
    · refine HT.reg (rs := [⟨none, .no⟩, ⟨none, .no⟩, ⟨none, .no⟩, ⟨none, .no⟩, ⟨some false, .no⟩, ⟨some false, .no⟩, ⟨some false, .no⟩, ⟨none, .tv false⟩, ⟨none, .no⟩]) (st' := ⟨[(6, .one (.dat .bool false)), (14, .one (.dat .bool false)), (13, .und), (12, .und), (11, .und), (10, .one (.dat .bool (decide (a0 ≥ a1)))), (9, .one (.dat .bool (decide (a0 ≥ a1)))), (8, .one (.dat (.int .i64) a1)), (7, .one (.dat (.int .i64) a0)), (0, .one (.dat (.int .i64) a0)), (1, .one (.dat (.int .i64) a1)), (2, .one (.dat (.int .i64) a2))], [], 0⟩) hP hN (by kernel_rfl) (allCons hb4 (allCons hb4 (allCons hb4 (allCons hb4 allNil)))) (qThen ?_)
      exact (Le.cv (s := ⟨[], [], [], false⟩) (own := []) (ps := [false = false]) (st' := ⟨[(6, .one (.dat .bool false))], [], 0⟩) hO (fun h => by cases h) (by kernel_rfl) ⟨rfl, trivial⟩).ht (cont false (of_some hT3))

noncomputable def impl_areWithin_B1 (a0 : List Int) (a1 : Int) (a2 : Int) (s1 : Int) : Option ((Int) ⊕ (Unit ⊕ Unit)) :=
  bif (decide (s1 < (lenI a0))) then
    guardP ((0 : Int) ≤ s1 ∧ s1 < lenI a0) (
      (impl_within (List.getD a0 (Int.toNat s1) (0 : Int)) a1 a2).bind fun y10 =>
      bif (!y10) then
        some (.inr (.inr ()))
      else
        some (.inl (wadd .i64 s1 (1 : Int))))
  else
    some (.inr (.inl ()))

noncomputable def impl_areWithin (a0 : List Int) (a1 : Int) (a2 : Int) : Option (Bool) :=
  (rounds (impl_areWithin_B1 a0 a1 a2) (0 : Int)).bind fun r2 => match r2 with
    | .inl r3 =>
      some true
    | .inr r4 =>
      some false

theorem f80_ok {a0 : List Int} {a1 : Int} {a2 : Int} {r : Bool} (hr : impl_areWithin a0 a1 a2 = some r) : CallOK Try.prog 80 [.imm (.sl (.int .i64)) a0, .imm (.int .i64) a1, .imm (.int .i64) a2] [⟨false, .bool, r⟩] [] := by
  unfold impl_areWithin at hr
  refine CallOK.of_body (ts := [(false, .bool)]) Try.func80 rfl (by kernel_rfl) (Nat.le_of_ble_eq_true (by kernel_rfl)) fun cx hP hN hO hF => ?_
  have hO : cx.own.map Prod.fst = [] := hO
  show HT cx ⟨[(0, .one (.dat (.sl (.int .i64)) a0)), (1, .one (.dat (.int .i64) a1)), (2, .one (.dat (.int .i64) a2))], [], 0⟩ _ _
  refine HT.reg1 [0, 1, 2] [⟨none, .no⟩] ⟨[(0, .one (.dat (.sl (.int .i64)) a0)), (1, .one (.dat (.int .i64) a1)), (2, .one (.dat (.int .i64) a2))], [], 0⟩ hP hN (by kernel_rfl) allNil ?_
  refine HT.seq ?_
  refine HT.reg1 [1, 2, 9, 10, 11] [⟨none, .no⟩, ⟨none, .no⟩, ⟨none, .no⟩] ⟨[(1, .one (.dat (.int .i64) a1)), (2, .one (.dat (.int .i64) a2)), (9, .one (.dat (.sl (.int .i64)) a0)), (10, .one (.dat (.int .i64) (lenI a0))), (11, .one (.dat (.int .i64) (0 : Int)))], [], 0⟩ hP hN (by kernel_rfl) allNil ?_
  refine HT.block ?_
  obtain ⟨r2, hL13, hr⟩ := of_bind hr
  refine (Le.cv (s := ⟨[], [], [], false⟩) (own := []) (ps := [a1 = a1, a2 = a2, a0 = a0, (lenI a0) = (lenI a0), (0 : Int) = (0 : Int)]) (st' := ⟨[(1, .one (.dat (.int .i64) a1)), (2, .one (.dat (.int .i64) a2)), (9, .one (.dat (.sl (.int .i64)) a0)), (10, .one (.dat (.int .i64) (lenI a0))), (11, .one (.dat (.int .i64) (0 : Int)))], [], 0⟩) hO (fun h => by cases h) (by kernel_rfl) ⟨rfl, rfl, rfl, rfl, rfl, trivial⟩).ht ?_
  refine HT.loopE (s := (0 : Int)) (fun (s1 : Int) => ⟨[(1, .one (.dat (.int .i64) a1)), (2, .one (.dat (.int .i64) a2)), (9, .one (.dat (.sl (.int .i64)) a0)), (10, .one (.dat (.int .i64) (lenI a0))), (11, .one (.dat (.int .i64) s1))], [], 0⟩) (fun (r2 : Unit ⊕ Unit) => match r2 with | .inl r3 => (.exit 0, ⟨[], [], 0⟩) | .inr r4 => (.ret, ⟨[(6, .one (.dat .bool false))], [], 0⟩)) hL13 ?_ (fun s1 x5 hx6 hk7 => ?_)
  · rcases r2 with r3 | r4
    · refine (qBlockX (qThen ?_))
      refine HT.reg1 [6] [⟨none, .no⟩] ⟨[(6, .one (.dat .bool true))], [], 0⟩ hP hN (by kernel_rfl) allNil ?_
      have hr := of_some hr
      subst hr
      exact HT.ret ⟨[.one (.dat .bool true)], [], [], by kernel_rfl, by kernel_rfl, rfl, (.inl rfl), by kernel_rfl, trivial⟩
    · have hr := of_some hr
      subst hr
      exact (qBlockR (qThenR ⟨[.one (.dat .bool false)], [], [], by kernel_rfl, by kernel_rfl, rfl, (.inl rfl), by kernel_rfl, trivial⟩))
  · refine HT.reg1 [1, 2, 9, 10, 11, 12] [⟨none, .no⟩] ⟨[(1, .one (.dat (.int .i64) a1)), (2, .one (.dat (.int .i64) a2)), (9, .one (.dat (.sl (.int .i64)) a0)), (10, .one (.dat (.int .i64) (lenI a0))), (11, .one (.dat (.int .i64) s1)), (12, .one (.dat .bool (decide (s1 < (lenI a0)))))], [], 0⟩ hP hN (by kernel_rfl) allNil ?_
    refine HT.seq ?_
    rcases of_bif hx6 with ⟨hb8, hx6⟩ | ⟨hb8, hx6⟩
    · refine HT.cond1 rfl hb8 ?_
      refine HT.skip (qThen ?_)
      refine HT.seq ?_
      refine HT.block ?_
      obtain ⟨hg9, hx6⟩ := of_guard hx6
      refine HT.reg1 [1, 2, 8, 9, 10, 11] [⟨none, .no⟩, ⟨none, .no⟩, ⟨none, .no⟩] ⟨[(1, .one (.dat (.int .i64) a1)), (2, .one (.dat (.int .i64) a2)), (8, .one (.dat (.int .i64) (List.getD a0 (Int.toNat s1) (0 : Int)))), (9, .one (.dat (.sl (.int .i64)) a0)), (10, .one (.dat (.int .i64) (lenI a0))), (11, .one (.dat (.int .i64) s1))], [], 0⟩ hP hN (by kernel_rfl) (allCons hg9 allNil) ?_
      obtain ⟨y10, hc11, hx6⟩ := of_bind hx6
      refine HT.reg1 [1, 2, 9, 10, 11, 19] [⟨none, .no⟩, ⟨none, .no⟩, ⟨none, .no⟩, ⟨none, .call [.imm (.int .i64), .imm (.int .i64), .imm (.int .i64)] [⟨false, .bool, y10⟩] []⟩, ⟨none, .no⟩] ⟨[(1, .one (.dat (.int .i64) a1)), (2, .one (.dat (.int .i64) a2)), (9, .one (.dat (.sl (.int .i64)) a0)), (10, .one (.dat (.int .i64) (lenI a0))), (11, .one (.dat (.int .i64) s1)), (19, .one (.dat .bool (!y10)))], [], 0⟩ hP hN (by kernel_rfl) (allCons (f57_ok hc11) allNil) ?_
      rcases of_bif hx6 with ⟨hb12, hx6⟩ | ⟨hb12, hx6⟩
      · refine HT.cond1 rfl hb12 ?_
        refine HT.reg1 [6] [⟨none, .no⟩] ⟨[(6, .one (.dat .bool false))], [], 0⟩ hP hN (by kernel_rfl) allNil ?_
        have hx6 := of_some hx6
        subst hx6
        refine (Le.cv (s := ⟨[], [], [], false⟩) (own := []) (ps := [false = false]) (st' := ⟨[(6, .one (.dat .bool false))], [], 0⟩) hO (fun h => by cases h) (by kernel_rfl) ⟨rfl, trivial⟩).ht ?_
        exact HT.ret (qBlockR (qThenR (qLoopR (hk7 (.inr ()) rfl))))
      · refine HT.cond0 rfl hb12 ?_
        refine HT.skip (qBlock (qThen ?_))
        have hx6 := of_some hx6
        subst hx6
        refine HT.reg (rs := [⟨none, .no⟩, ⟨none, .no⟩]) (st' := ⟨[(11, .one (.dat (.int .i64) (wadd .i64 s1 (1 : Int)))), (20, .one (.dat (.int .i64) (wadd .i64 s1 (1 : Int)))), (1, .one (.dat (.int .i64) a1)), (2, .one (.dat (.int .i64) a2)), (9, .one (.dat (.sl (.int .i64)) a0)), (10, .one (.dat (.int .i64) (lenI a0))), (11, .one (.dat (.int .i64) s1)), (19, .one (.dat .bool (!y10)))], [], 0⟩) hP hN (by kernel_rfl) allNil (qLoopN ⟨(wadd .i64 s1 (1 : Int)), rfl, Le.cv (s := ⟨[], [], [], false⟩) (own := []) (ps := [a1 = a1, a2 = a2, a0 = a0, (lenI a0) = (lenI a0), (wadd .i64 s1 (1 : Int)) = (wadd .i64 s1 (1 : Int))]) (st' := ⟨[(1, .one (.dat (.int .i64) a1)), (2, .one (.dat (.int .i64) a2)), (9, .one (.dat (.sl (.int .i64)) a0)), (10, .one (.dat (.int .i64) (lenI a0))), (11, .one (.dat (.int .i64) (wadd .i64 s1 (1 : Int))))], [], 0⟩) hO (fun h => by cases h) (by kernel_rfl) ⟨rfl, rfl, rfl, rfl, rfl, trivial⟩⟩)
    · refine HT.cond0 rfl hb8 ?_
      have hx6 := of_some hx6
      subst hx6
      refine (Le.cv (s := ⟨[], [], [], false⟩) (own := []) (ps := []) (st' := ⟨[], [], 0⟩) hO (fun h => by cases h) (by kernel_rfl) trivial).ht ?_
      exact HT.exit (qThenE (qLoopE (hk7 (.inl ()) rfl)))

noncomputable def impl_IsWord (a0 : List Int) (a1 : Int) : Option (Bool) :=
  (show Option (Bool) from
    (impl_within a1 (1 : Int) (4 : Int)).bind fun y4 =>
    bif y4 then
      bif (decide ((lenI a0) ≤ (12 : Int))) then
        (impl_areWithin a0 (0 : Int) (wsub .i64 a1 (1 : Int))).bind fun y8 =>
        some y8
      else
        some false
    else
      some false).bind fun v1 =>
  some v1

theorem f75_ok {a0 : List Int} {a1 : Int} {r : Bool} (hr : impl_IsWord a0 a1 = some r) : CallOK Try.prog 75 [.imm (.sl (.int .i64)) a0, .imm (.int .i64) a1] [⟨false, .bool, r⟩] [] := by
  unfold impl_IsWord at hr
  refine CallOK.of_body (ts := [(false, .bool)]) Try.func75 rfl (by kernel_rfl) (Nat.le_of_ble_eq_true (by kernel_rfl)) fun cx hP hN hO hF => ?_
  have hO : cx.own.map Prod.fst = [] := hO
  show HT cx ⟨[(0, .one (.dat (.sl (.int .i64)) a0)), (1, .one (.dat (.int .i64) a1))], [], 0⟩ _ _
  refine HT.reg1 [0, 1] [⟨none, .no⟩] ⟨[(0, .one (.dat (.sl (.int .i64)) a0)), (1, .one (.dat (.int .i64) a1))], [], 0⟩ hP hN (by kernel_rfl) allNil ?_
  obtain ⟨v1', hT3, hr⟩ := of_bind hr
  refine HT.join (fun (v1 : Bool) => ⟨[(4, .one (.dat .bool v1))], [], 0⟩) (fun v => v = v1') (fun v1 hv2 => ?_) (fun cont => ?_)
  · subst hv2
    have hr := of_some hr
    subst hr
    exact HT.ret ⟨[.one (.dat .bool v1)], [], [], by kernel_rfl, by kernel_rfl, rfl, (.inl rfl), by kernel_rfl, trivial⟩
  · obtain ⟨y4, hc5, hT3⟩ := of_bind hT3
    rcases of_bif hT3 with ⟨hb6, hT3⟩ | ⟨hb6, hT3⟩
    · rcases of_bif hT3 with ⟨hb7, hT3⟩ | ⟨hb7, hT3⟩
      · obtain ⟨y8, hc9, hT3⟩ := of_bind hT3
        refine HT.reg (rs := [⟨none, .no⟩, ⟨none, .call [.imm (.int .i64), .imm (.int .i64), .imm (.int .i64)] [⟨false, .bool, y4⟩] []⟩, ⟨none, .no⟩, ⟨some true, .no⟩, ⟨some true, .no⟩, ⟨some true, .no⟩, ⟨none, .tv true⟩, ⟨none, .no⟩, ⟨some true, .no⟩, ⟨some true, .no⟩, ⟨some true, .no⟩, ⟨some true, .call [.imm (.sl (.int .i64)), .imm (.int .i64), .imm (.int .i64)] [⟨false, .bool, y8⟩] []⟩, ⟨none, .tv true⟩, ⟨none, .no⟩]) (st' := ⟨[(4, .one (.dat .bool y8)), (17, .one (.dat .bool y8)), (16, .one (.dat .bool y8)), (15, .one (.dat (.int .i64) (wsub .i64 a1 (1 : Int)))), (14, .one (.dat (.int .i64) a1)), (13, .one (.dat (.sl (.int .i64)) a0)), (12, .one (.dat .bool (decide ((lenI a0) ≤ (12 : Int))))), (11, .one (.dat .bool (decide ((lenI a0) ≤ (12 : Int))))), (10, .one (.dat .bool (decide ((lenI a0) ≤ (12 : Int))))), (9, .one (.dat (.int .i64) (lenI a0))), (8, .one (.dat (.sl (.int .i64)) a0)), (7, .one (.dat .bool y4)), (6, .one (.dat .bool y4)), (5, .one (.dat (.int .i64) a1)), (0, .one (.dat (.sl (.int .i64)) a0)), (1, .one (.dat (.int .i64) a1))], [], 0⟩) hP hN (by kernel_rfl) (allCons (f57_ok hc5) (allCons hb6 (allCons hb6 (allCons hb6 (allCons hb6 (allCons hb7 (allCons hb7 (allCons hb7 (allCons hb7 (allCons (f80_ok hc9) (allCons hb7 allNil))))))))))) (qThen ?_)
        exact (Le.cv (s := ⟨[], [], [], false⟩) (own := []) (ps := [y8 = y8]) (st' := ⟨[(4, .one (.dat .bool y8))], [], 0⟩) hO (fun h => by cases h) (by kernel_rfl) ⟨rfl, trivial⟩).ht (cont y8 (of_some hT3))
      · refine HT.reg (rs := [⟨none, .no⟩, ⟨none, .call [.imm (.int .i64), .imm (.int .i64), .imm (.int .i64)] [⟨false, .bool, y4⟩] []⟩, ⟨none, .no⟩, ⟨some true, .no⟩, ⟨some true, .no⟩, ⟨some true, .no⟩, ⟨none, .tv true⟩, ⟨none, .no⟩, ⟨some false, .no⟩, ⟨some false, .no⟩, ⟨some false, .no⟩, ⟨some false, .no⟩, ⟨none, .tv false⟩, ⟨none, .no⟩]) (st' := ⟨[(4, .one (.dat .bool false)), (17, .one (.dat .bool false)), (16, .und), (15, .und), (14, .und), (13, .und), (12, .one (.dat .bool (decide ((lenI a0) ≤ (12 : Int))))), (11, .one (.dat .bool (decide ((lenI a0) ≤ (12 : Int))))), (10, .one (.dat .bool (decide ((lenI a0) ≤ (12 : Int))))), (9, .one (.dat (.int .i64) (lenI a0))), (8, .one (.dat (.sl (.int .i64)) a0)), (7, .one (.dat .bool y4)), (6, .one (.dat .bool y4)), (5, .one (.dat (.int .i64) a1)), (0, .one (.dat (.sl (.int .i64)) a0)), (1, .one (.dat (.int .i64) a1))], [], 0⟩) hP hN (by kernel_rfl) (allCons (f57_ok hc5) (allCons hb6 (allCons hb6 (allCons hb6 (allCons hb6 (allCons hb7 (allCons hb7 (allCons hb7 (allCons hb7 (allCons hb7 allNil)))))))))) (qThen ?_)
        exact (Le.cv (s := ⟨[], [], [], false⟩) (own := []) (ps := [false = false]) (st' := ⟨[(4, .one (.dat .bool false))], [], 0⟩) hO (fun h => by cases h) (by kernel_rfl) ⟨rfl, trivial⟩).ht (cont false (of_some hT3))
    · refine HT.reg (rs := [⟨none, .no⟩, ⟨none, .call [.imm (.int .i64), .imm (.int .i64), .imm (.int .i64)] [⟨false, .bool, y4⟩] []⟩, ⟨none, .no⟩, ⟨some false, .no⟩, ⟨some false, .no⟩, ⟨some false, .no⟩, ⟨none, .tv false⟩, ⟨none, .no⟩, ⟨some false, .no⟩, ⟨some false, .no⟩, ⟨some false, .no⟩, ⟨some false, .no⟩, ⟨none, .tv false⟩, ⟨none, .no⟩]) (st' := ⟨[(4, .one (.dat .bool false)), (17, .one (.dat .bool false)), (16, .und), (15, .und), (14, .und), (13, .und), (12, .one (.dat .bool false)), (11, .one (.dat .bool false)), (10, .und), (9, .und), (8, .und), (7, .one (.dat .bool y4)), (6, .one (.dat .bool y4)), (5, .one (.dat (.int .i64) a1)), (0, .one (.dat (.sl (.int .i64)) a0)), (1, .one (.dat (.int .i64) a1))], [], 0⟩) hP hN (by kernel_rfl) (allCons (f57_ok hc5) (allCons hb6 (allCons hb6 (allCons hb6 (allCons hb6 (allCons (rfl : false = false) (allCons (rfl : false = false) (allCons (rfl : false = false) (allCons (rfl : false = false) (allCons (rfl : false = false) allNil)))))))))) (qThen ?_)
      exact (Le.cv (s := ⟨[], [], [], false⟩) (own := []) (ps := [false = false]) (st' := ⟨[(4, .one (.dat .bool false))], [], 0⟩) hO (fun h => by cases h) (by kernel_rfl) ⟨rfl, trivial⟩).ht (cont false (of_some hT3))

noncomputable def impl_ValidLoop (a0 : List Int × List Int) (a1 : Int) : Option (Bool) :=
  (show Option (Bool) from
    (impl_IsWord a0.1 a1).bind fun y4 =>
    bif y4 then
      (impl_IsWord a0.2 a1).bind fun y7 =>
      bif y7 then
        some (decide ((lenI a0.2) > (0 : Int)))
      else
        some false
    else
      some false).bind fun v1 =>
  some v1

theorem f43_ok {a0 : List Int × List Int} {a1 : Int} {r : Bool} (hr : impl_ValidLoop a0 a1 = some r) : CallOK Try.prog 43 [.imm (.st (.pair (.sl (.int .i64)) (.sl (.int .i64)))) a0, .imm (.int .i64) a1] [⟨false, .bool, r⟩] [] := by
  unfold impl_ValidLoop at hr
  refine CallOK.of_body (ts := [(false, .bool)]) Try.func43 rfl (by kernel_rfl) (Nat.le_of_ble_eq_true (by kernel_rfl)) fun cx hP hN hO hF => ?_
  have hO : cx.own.map Prod.fst = [] := hO
  show HT cx ⟨[(0, .agg [.dat (.sl (.int .i64)) a0.1, .dat (.sl (.int .i64)) a0.2]), (1, .one (.dat (.int .i64) a1))], [], 0⟩ _ _
  refine HT.reg1 [1, 2] [⟨none, .no⟩, ⟨none, .no⟩] ⟨[(1, .one (.dat (.int .i64) a1)), (2, .one (.ptr 0 0))], [(0, .box [.dat (.sl (.int .i64)) a0.1, .dat (.sl (.int .i64)) a0.2])], 1⟩ hP hN (by kernel_rfl) allNil ?_
  obtain ⟨v1', hT3, hr⟩ := of_bind hr
  refine HT.join (fun (v1 : Bool) => ⟨[(4, .one (.dat .bool v1))], [], 0⟩) (fun v => v = v1') (fun v1 hv2 => ?_) (fun cont => ?_)
  · subst hv2
    have hr := of_some hr
    subst hr
    exact HT.ret ⟨[.one (.dat .bool v1)], [], [], by kernel_rfl, by kernel_rfl, rfl, (.inl rfl), by kernel_rfl, trivial⟩
  · obtain ⟨y4, hc5, hT3⟩ := of_bind hT3
    rcases of_bif hT3 with ⟨hb6, hT3⟩ | ⟨hb6, hT3⟩
    · obtain ⟨y7, hc8, hT3⟩ := of_bind hT3
      rcases of_bif hT3 with ⟨hb9, hT3⟩ | ⟨hb9, hT3⟩
      · refine HT.reg (rs := [⟨none, .no⟩, ⟨none, .no⟩, ⟨none, .no⟩, ⟨none, .call [.imm (.sl (.int .i64)), .imm (.int .i64)] [⟨false, .bool, y4⟩] []⟩, ⟨none, .no⟩, ⟨some true, .no⟩, ⟨some true, .no⟩, ⟨some true, .no⟩, ⟨some true, .call [.imm (.sl (.int .i64)), .imm (.int .i64)] [⟨false, .bool, y7⟩] []⟩, ⟨none, .tv true⟩, ⟨none, .no⟩, ⟨some true, .no⟩, ⟨some true, .no⟩, ⟨some true, .no⟩, ⟨some true, .no⟩, ⟨none, .tv true⟩, ⟨none, .no⟩]) (st' := ⟨[(4, .one (.dat .bool (decide ((lenI a0.2) > (0 : Int))))), (20, .one (.dat .bool (decide ((lenI a0.2) > (0 : Int))))), (19, .one (.dat .bool (decide ((lenI a0.2) > (0 : Int))))), (18, .one (.dat (.int .i64) (lenI a0.2))), (17, .one (.dat (.sl (.int .i64)) a0.2)), (16, .one (.ptr 0 1)), (15, .one (.dat .bool y7)), (14, .one (.dat .bool y7)), (13, .one (.dat .bool y7)), (12, .one (.dat (.int .i64) a1)), (11, .one (.dat (.sl (.int .i64)) a0.2)), (10, .one (.ptr 0 1)), (9, .one (.dat .bool y4)), (8, .one (.dat .bool y4)), (7, .one (.dat (.int .i64) a1)), (6, .one (.dat (.sl (.int .i64)) a0.1)), (5, .one (.ptr 0 0)), (1, .one (.dat (.int .i64) a1)), (2, .one (.ptr 0 0))], [(0, .box [.dat (.sl (.int .i64)) a0.1, .dat (.sl (.int .i64)) a0.2])], 1⟩) hP hN (by kernel_rfl) (allCons (f75_ok hc5) (allCons hb6 (allCons hb6 (allCons hb6 (allCons hb6 (allCons (f75_ok hc8) (allCons hb6 (allCons hb9 (allCons hb9 (allCons hb9 (allCons hb9 (allCons hb9 allNil)))))))))))) (qThen ?_)
        exact (Le.cv (s := ⟨[], [], [], false⟩) (own := []) (ps := [(decide ((lenI a0.2) > (0 : Int))) = (decide ((lenI a0.2) > (0 : Int)))]) (st' := ⟨[(4, .one (.dat .bool (decide ((lenI a0.2) > (0 : Int)))))], [], 0⟩) hO (fun h => by cases h) (by kernel_rfl) ⟨rfl, trivial⟩).ht (cont (decide ((lenI a0.2) > (0 : Int))) (of_some hT3))
      · refine HT.reg (rs := [⟨none, .no⟩, ⟨none, .no⟩, ⟨none, .no⟩, ⟨none, .call [.imm (.sl (.int .i64)), .imm (.int .i64)] [⟨false, .bool, y4⟩] []⟩, ⟨none, .no⟩, ⟨some true, .no⟩, ⟨some true, .no⟩, ⟨some true, .no⟩, ⟨some true, .call [.imm (.sl (.int .i64)), .imm (.int .i64)] [⟨false, .bool, y7⟩] []⟩, ⟨none, .tv true⟩, ⟨none, .no⟩, ⟨some false, .no⟩, ⟨some false, .no⟩, ⟨some false, .no⟩, ⟨some false, .no⟩, ⟨none, .tv false⟩, ⟨none, .no⟩]) (st' := ⟨[(4, .one (.dat .bool false)), (20, .one (.dat .bool false)), (19, .und), (18, .und), (17, .und), (16, .und), (15, .one (.dat .bool y7)), (14, .one (.dat .bool y7)), (13, .one (.dat .bool y7)), (12, .one (.dat (.int .i64) a1)), (11, .one (.dat (.sl (.int .i64)) a0.2)), (10, .one (.ptr 0 1)), (9, .one (.dat .bool y4)), (8, .one (.dat .bool y4)), (7, .one (.dat (.int .i64) a1)), (6, .one (.dat (.sl (.int .i64)) a0.1)), (5, .one (.ptr 0 0)), (1, .one (.dat (.int .i64) a1)), (2, .one (.ptr 0 0))], [(0, .box [.dat (.sl (.int .i64)) a0.1, .dat (.sl (.int .i64)) a0.2])], 1⟩) hP hN (by kernel_rfl) (allCons (f75_ok hc5) (allCons hb6 (allCons hb6 (allCons hb6 (allCons hb6 (allCons (f75_ok hc8) (allCons hb6 (allCons hb9 (allCons hb9 (allCons hb9 (allCons hb9 (allCons hb9 allNil)))))))))))) (qThen ?_)
        exact (Le.cv (s := ⟨[], [], [], false⟩) (own := []) (ps := [false = false]) (st' := ⟨[(4, .one (.dat .bool false))], [], 0⟩) hO (fun h => by cases h) (by kernel_rfl) ⟨rfl, trivial⟩).ht (cont false (of_some hT3))
    · refine HT.reg (rs := [⟨none, .no⟩, ⟨none, .no⟩, ⟨none, .no⟩, ⟨none, .call [.imm (.sl (.int .i64)), .imm (.int .i64)] [⟨false, .bool, y4⟩] []⟩, ⟨none, .no⟩, ⟨some false, .no⟩, ⟨some false, .no⟩, ⟨some false, .no⟩, ⟨some false, .no⟩, ⟨none, .tv false⟩, ⟨none, .no⟩, ⟨some false, .no⟩, ⟨some false, .no⟩, ⟨some false, .no⟩, ⟨some false, .no⟩, ⟨none, .tv false⟩, ⟨none, .no⟩]) (st' := ⟨[(4, .one (.dat .bool false)), (20, .one (.dat .bool false)), (19, .und), (18, .und), (17, .und), (16, .und), (15, .one (.dat .bool false)), (14, .one (.dat .bool false)), (13, .und), (12, .und), (11, .und), (10, .und), (9, .one (.dat .bool y4)), (8, .one (.dat .bool y4)), (7, .one (.dat (.int .i64) a1)), (6, .one (.dat (.sl (.int .i64)) a0.1)), (5, .one (.ptr 0 0)), (1, .one (.dat (.int .i64) a1)), (2, .one (.ptr 0 0))], [(0, .box [.dat (.sl (.int .i64)) a0.1, .dat (.sl (.int .i64)) a0.2])], 1⟩) hP hN (by kernel_rfl) (allCons (f75_ok hc5) (allCons hb6 (allCons hb6 (allCons hb6 (allCons hb6 (allCons hb6 (allCons (rfl : false = false) (allCons (rfl : false = false) (allCons (rfl : false = false) (allCons (rfl : false = false) (allCons (rfl : false = false) allNil))))))))))) (qThen ?_)
      exact (Le.cv (s := ⟨[], [], [], false⟩) (own := []) (ps := [false = false]) (st' := ⟨[(4, .one (.dat .bool false))], [], 0⟩) hO (fun h => by cases h) (by kernel_rfl) ⟨rfl, trivial⟩).ht (cont false (of_some hT3))

theorem f44_ok {xs y : List Int} (h : slices_Clone xs = some y) : CallOK Try.prog 44 [.imm (.sl (.int .i64)) xs] [⟨true, (.sl (.int .i64)), y⟩] [] := by
  obtain ⟨hg, h⟩ := of_guard h
  have h := of_some h
  subst h
  refine CallOK.of_body (ts := [(true, (.sl (.int .i64)))]) Try.func44 rfl (by kernel_rfl) (Nat.le_of_ble_eq_true (by kernel_rfl)) fun cx hP hN hO hF => ?_
  show HT cx ⟨[(0, .one (.dat (.sl (.int .i64)) xs))], [], 0⟩ _ _
  refine HT.reg1 [0] [⟨none, .no⟩] ⟨[(0, .one (.dat (.sl (.int .i64)) xs))], [], 0⟩ hP hN (by kernel_rfl) allNil ?_
  refine HT.seq ?_
  refine HT.isNil (t3 := 3) (t4 := 4) (v := .one (.dat (.sl (.int .i64)) xs)) (t := (.int .i64)) (xs := xs) (st1 := ⟨[(3, .one (.dat (.sl (.int .i64)) xs)), (0, .one (.dat (.sl (.int .i64)) xs))], [], 0⟩) hP hN (by kernel_rfl) rfl rfl rfl rfl (e := 2) (by kernel_rfl) rfl rfl (fun b hb => ?_)
  show HT cx ⟨[(4, .one (.dat .bool b)), (3, .one (.dat (.sl (.int .i64)) xs)), (0, .one (.dat (.sl (.int .i64)) xs))], [], 0⟩ _ _
  cases b with
  | true =>
    have e := hb rfl
    subst e
    refine HT.cond1 rfl rfl ?_
    refine HT.reg1 [2] [⟨none, .no⟩] ⟨[(2, .one .nilS)], [], 0⟩ hP hN (by kernel_rfl) allNil ?_
    exact HT.ret (qThenR ⟨[.one .nilS], [], [], by kernel_rfl, by kernel_rfl, rfl, (.inl rfl), by kernel_rfl, trivial⟩)
  | false =>
    refine HT.cond0 rfl rfl ?_
    refine HT.skip (qThen ?_)
    refine HT.reg1 [2] [⟨none, .no⟩, ⟨none, .no⟩, ⟨none, .ty (.int .i64)⟩, ⟨none, .no⟩] ⟨[(2, .one (.all 0))], [(0, .seq (.int .i64) xs)], 1⟩ hP hN (by kernel_rfl) (allCons hg allNil) ?_
    exact HT.ret ⟨[.one (.all 0)], [0], [], by kernel_rfl, by kernel_rfl, rfl, (.inl rfl), by kernel_rfl, trivial⟩

noncomputable def slices_Equal___int64_int64_B1 (a0 : List Int) (a1 : List Int) (s2 : Int) : Option ((Int) ⊕ (Unit ⊕ Unit)) :=
  bif (decide (s2 < (lenI a0))) then
    guardP ((0 : Int) ≤ s2 ∧ s2 < lenI a0) (
      guardP ((0 : Int) ≤ s2 ∧ s2 < lenI a1) (
        bif ((List.getD a0 (Int.toNat s2) (0 : Int)) != (List.getD a1 (Int.toNat s2) (0 : Int))) then
          some (.inr (.inr ()))
        else
          some (.inl (wadd .i64 s2 (1 : Int)))))
  else
    some (.inr (.inl ()))

noncomputable def slices_Equal___int64_int64 (a0 : List Int) (a1 : List Int) : Option (Bool) :=
  bif ((lenI a0) != (lenI a1)) then
    some false
  else
    (rounds (slices_Equal___int64_int64_B1 a0 a1) (0 : Int)).bind fun r3 => match r3 with
      | .inl r4 =>
        some true
      | .inr r5 =>
        some false

theorem f76_ok {a0 : List Int} {a1 : List Int} {r : Bool} (hr : slices_Equal___int64_int64 a0 a1 = some r) : CallOK Try.prog 76 [.imm (.sl (.int .i64)) a0, .imm (.sl (.int .i64)) a1] [⟨false, .bool, r⟩] [] := by
  unfold slices_Equal___int64_int64 at hr
  refine CallOK.of_body (ts := [(false, .bool)]) Try.func76 rfl (by kernel_rfl) (Nat.le_of_ble_eq_true (by kernel_rfl)) fun cx hP hN hO hF => ?_
  have hO : cx.own.map Prod.fst = [] := hO
  show HT cx ⟨[(0, .one (.dat (.sl (.int .i64)) a0)), (1, .one (.dat (.sl (.int .i64)) a1))], [], 0⟩ _ _
  refine HT.reg1 [0, 1] [⟨none, .no⟩] ⟨[(0, .one (.dat (.sl (.int .i64)) a0)), (1, .one (.dat (.sl (.int .i64)) a1))], [], 0⟩ hP hN (by kernel_rfl) allNil ?_
  refine HT.seq ?_
  refine HT.reg1 [0, 1, 10] [⟨none, .no⟩, ⟨none, .no⟩, ⟨none, .no⟩, ⟨none, .no⟩, ⟨none, .no⟩] ⟨[(0, .one (.dat (.sl (.int .i64)) a0)), (1, .one (.dat (.sl (.int .i64)) a1)), (10, .one (.dat .bool ((lenI a0) != (lenI a1))))], [], 0⟩ hP hN (by kernel_rfl) allNil ?_
  rcases of_bif hr with ⟨hb1, hr⟩ | ⟨hb1, hr⟩
  · refine HT.cond1 rfl hb1 ?_
    refine HT.reg1 [4] [⟨none, .no⟩] ⟨[(4, .one (.dat .bool false))], [], 0⟩ hP hN (by kernel_rfl) allNil ?_
    have hr := of_some hr
    subst hr
    exact HT.ret (qThenR ⟨[.one (.dat .bool false)], [], [], by kernel_rfl, by kernel_rfl, rfl, (.inl rfl), by kernel_rfl, trivial⟩)
  · refine HT.cond0 rfl hb1 ?_
    refine HT.skip (qThen ?_)
    refine HT.seq ?_
    refine HT.reg1 [0, 1, 12, 13] [⟨none, .no⟩, ⟨none, .no⟩, ⟨none, .no⟩] ⟨[(0, .one (.dat (.sl (.int .i64)) a0)), (1, .one (.dat (.sl (.int .i64)) a1)), (12, .one (.dat (.int .i64) (lenI a0))), (13, .one (.dat (.int .i64) (0 : Int)))], [], 0⟩ hP hN (by kernel_rfl) allNil ?_
    refine HT.block ?_
    obtain ⟨r3, hL13, hr⟩ := of_bind hr
    refine (Le.cv (s := ⟨[], [], [], false⟩) (own := []) (ps := [a0 = a0, a1 = a1, (lenI a0) = (lenI a0), (0 : Int) = (0 : Int)]) (st' := ⟨[(0, .one (.dat (.sl (.int .i64)) a0)), (1, .one (.dat (.sl (.int .i64)) a1)), (12, .one (.dat (.int .i64) (lenI a0))), (13, .one (.dat (.int .i64) (0 : Int)))], [], 0⟩) hO (fun h => by cases h) (by kernel_rfl) ⟨rfl, rfl, rfl, rfl, trivial⟩).ht ?_
    refine HT.loopE (s := (0 : Int)) (fun (s2 : Int) => ⟨[(0, .one (.dat (.sl (.int .i64)) a0)), (1, .one (.dat (.sl (.int .i64)) a1)), (12, .one (.dat (.int .i64) (lenI a0))), (13, .one (.dat (.int .i64) s2))], [], 0⟩) (fun (r3 : Unit ⊕ Unit) => match r3 with | .inl r4 => (.exit 0, ⟨[], [], 0⟩) | .inr r5 => (.ret, ⟨[(4, .one (.dat .bool false))], [], 0⟩)) hL13 ?_ (fun s2 x6 hx7 hk8 => ?_)
    · rcases r3 with r4 | r5
      · refine (qBlockX (qThen ?_))
        refine HT.reg1 [4] [⟨none, .no⟩] ⟨[(4, .one (.dat .bool true))], [], 0⟩ hP hN (by kernel_rfl) allNil ?_
        have hr := of_some hr
        subst hr
        exact HT.ret ⟨[.one (.dat .bool true)], [], [], by kernel_rfl, by kernel_rfl, rfl, (.inl rfl), by kernel_rfl, trivial⟩
      · have hr := of_some hr
        subst hr
        exact (qBlockR (qThenR ⟨[.one (.dat .bool false)], [], [], by kernel_rfl, by kernel_rfl, rfl, (.inl rfl), by kernel_rfl, trivial⟩))
    · refine HT.reg1 [0, 1, 12, 13, 14] [⟨none, .no⟩] ⟨[(0, .one (.dat (.sl (.int .i64)) a0)), (1, .one (.dat (.sl (.int .i64)) a1)), (12, .one (.dat (.int .i64) (lenI a0))), (13, .one (.dat (.int .i64) s2)), (14, .one (.dat .bool (decide (s2 < (lenI a0)))))], [], 0⟩ hP hN (by kernel_rfl) allNil ?_
      refine HT.seq ?_
      rcases of_bif hx7 with ⟨hb9, hx7⟩ | ⟨hb9, hx7⟩
      · refine HT.cond1 rfl hb9 ?_
        refine HT.skip (qThen ?_)
        refine HT.seq ?_
        refine HT.block ?_
        refine HT.reg1 [0, 1, 5, 12, 13] [⟨none, .no⟩, ⟨none, .no⟩] ⟨[(0, .one (.dat (.sl (.int .i64)) a0)), (1, .one (.dat (.sl (.int .i64)) a1)), (5, .one (.dat (.int .i64) s2)), (12, .one (.dat (.int .i64) (lenI a0))), (13, .one (.dat (.int .i64) s2))], [], 0⟩ hP hN (by kernel_rfl) allNil ?_
        obtain ⟨hg10, hx7⟩ := of_guard hx7
        obtain ⟨hg11, hx7⟩ := of_guard hx7
        refine HT.drw1 [0, 1, 12, 13, 24] 8 [⟨⟨none, .no⟩, []⟩, ⟨⟨none, .no⟩, []⟩, ⟨⟨none, .no⟩, [0, 1]⟩, ⟨⟨none, .no⟩, [0, 1, 2]⟩, ⟨⟨none, .no⟩, []⟩, ⟨⟨none, .no⟩, []⟩, ⟨⟨none, .no⟩, [4, 5]⟩, ⟨⟨none, .no⟩, [4, 5, 6]⟩] [[0, 1, 2, 3, 4, 5, 6, 7]] [⟨none, .no⟩] ⟨[(0, .one (.dat (.sl (.int .i64)) a0)), (1, .one (.dat (.sl (.int .i64)) a1)), (12, .one (.dat (.int .i64) (lenI a0))), (13, .one (.dat (.int .i64) s2)), (24, .one (.dat .bool ((List.getD a0 (Int.toNat s2) (0 : Int)) != (List.getD a1 (Int.toNat s2) (0 : Int)))))], [], 0⟩ hP hN (by kernel_rfl) (by kernel_rfl) (allCons hg10 (allCons hg11 allNil)) ?_
        rcases of_bif hx7 with ⟨hb12, hx7⟩ | ⟨hb12, hx7⟩
        · refine HT.cond1 rfl hb12 ?_
          refine HT.reg1 [4] [⟨none, .no⟩] ⟨[(4, .one (.dat .bool false))], [], 0⟩ hP hN (by kernel_rfl) allNil ?_
          have hx7 := of_some hx7
          subst hx7
          refine (Le.cv (s := ⟨[], [], [], false⟩) (own := []) (ps := [false = false]) (st' := ⟨[(4, .one (.dat .bool false))], [], 0⟩) hO (fun h => by cases h) (by kernel_rfl) ⟨rfl, trivial⟩).ht ?_
          exact HT.ret (qBlockR (qThenR (qLoopR (hk8 (.inr ()) rfl))))
        · refine HT.cond0 rfl hb12 ?_
          refine HT.skip (qBlock (qThen ?_))
          have hx7 := of_some hx7
          subst hx7
          refine HT.reg (rs := [⟨none, .no⟩, ⟨none, .no⟩]) (st' := ⟨[(13, .one (.dat (.int .i64) (wadd .i64 s2 (1 : Int)))), (25, .one (.dat (.int .i64) (wadd .i64 s2 (1 : Int)))), (0, .one (.dat (.sl (.int .i64)) a0)), (1, .one (.dat (.sl (.int .i64)) a1)), (12, .one (.dat (.int .i64) (lenI a0))), (13, .one (.dat (.int .i64) s2)), (24, .one (.dat .bool ((List.getD a0 (Int.toNat s2) (0 : Int)) != (List.getD a1 (Int.toNat s2) (0 : Int)))))], [], 0⟩) hP hN (by kernel_rfl) allNil (qLoopN ⟨(wadd .i64 s2 (1 : Int)), rfl, Le.cv (s := ⟨[], [], [], false⟩) (own := []) (ps := [a0 = a0, a1 = a1, (lenI a0) = (lenI a0), (wadd .i64 s2 (1 : Int)) = (wadd .i64 s2 (1 : Int))]) (st' := ⟨[(0, .one (.dat (.sl (.int .i64)) a0)), (1, .one (.dat (.sl (.int .i64)) a1)), (12, .one (.dat (.int .i64) (lenI a0))), (13, .one (.dat (.int .i64) (wadd .i64 s2 (1 : Int))))], [], 0⟩) hO (fun h => by cases h) (by kernel_rfl) ⟨rfl, rfl, rfl, rfl, trivial⟩⟩)
      · refine HT.cond0 rfl hb9 ?_
        have hx7 := of_some hx7
        subst hx7
        refine (Le.cv (s := ⟨[], [], [], false⟩) (own := []) (ps := []) (st' := ⟨[], [], 0⟩) hO (fun h => by cases h) (by kernel_rfl) trivial).ht ?_
        exact HT.exit (qThenE (qLoopE (hk8 (.inl ()) rfl)))

noncomputable def impl_root_B1 (a0 : List Int) (s1 : Int) : Option ((Int) ⊕ (Unit ⊕ List Int)) :=
  bif (decide (s1 < (lenI a0))) then
    (show Option (Bool) from
      guardP (s1 ≠ 0) (
        bif ((Int.tmod (lenI a0) s1) == (0 : Int)) then
          guardP ((0 : Int) ≤ s1 ∧ s1 ≤ lenI a0) (
            guardP ((0 : Int) ≤ (wsub .i64 (lenI a0) s1) ∧ (wsub .i64 (lenI a0) s1) ≤ lenI a0) (
              (slices_Equal___int64_int64 (cut a0 s1 (lenI a0)) (cut a0 (0 : Int) (wsub .i64 (lenI a0) s1))).bind fun y18 =>
              some y18))
        else
          some false)).bind fun v9 =>
    bif v9 then
      guardP ((0 : Int) ≤ s1 ∧ s1 ≤ lenI a0) (
        some (.inr (.inr (cut a0 (0 : Int) s1))))
    else
      some (.inl (wadd .i64 s1 (1 : Int)))
  else
    some (.inr (.inl ()))

noncomputable def impl_root (a0 : List Int) : Option (List Int) :=
  (rounds (impl_root_B1 a0) (1 : Int)).bind fun r2 => match r2 with
    | .inl r3 =>
      some a0
    | .inr r4 =>
      some r4

theorem f45_ok {a0 : List Int} {r : List Int} (hr : impl_root a0 = some r) : CallOK Try.prog 45 [.imm (.sl (.int .i64)) a0] [⟨false, (.sl (.int .i64)), r⟩] [] := by
  unfold impl_root at hr
  refine CallOK.of_body (ts := [(false, (.sl (.int .i64)))]) Try.func45 rfl (by kernel_rfl) (Nat.le_of_ble_eq_true (by kernel_rfl)) fun cx hP hN hO hF => ?_
  have hO : cx.own.map Prod.fst = [] := hO
  show HT cx ⟨[(0, .one (.dat (.sl (.int .i64)) a0))], [], 0⟩ _ _
  refine HT.reg1 [0] [⟨none, .no⟩] ⟨[(0, .one (.dat (.sl (.int .i64)) a0))], [], 0⟩ hP hN (by kernel_rfl) allNil ?_
  refine HT.seq ?_
  refine HT.reg1 [0, 3] [⟨none, .no⟩] ⟨[(0, .one (.dat (.sl (.int .i64)) a0)), (3, .one (.dat (.int .i64) (1 : Int)))], [], 0⟩ hP hN (by kernel_rfl) allNil ?_
  refine HT.block ?_
  obtain ⟨r2, hL20, hr⟩ := of_bind hr
  refine (Le.cv (s := ⟨[], [], [], false⟩) (own := []) (ps := [a0 = a0, (1 : Int) = (1 : Int)]) (st' := ⟨[(0, .one (.dat (.sl (.int .i64)) a0)), (3, .one (.dat (.int .i64) (1 : Int)))], [], 0⟩) hO (fun h => by cases h) (by kernel_rfl) ⟨rfl, rfl, trivial⟩).ht ?_
  refine HT.loopE (s := (1 : Int)) (fun (s1 : Int) => ⟨[(0, .one (.dat (.sl (.int .i64)) a0)), (3, .one (.dat (.int .i64) s1))], [], 0⟩) (fun (r2 : Unit ⊕ List Int) => match r2 with | .inl r3 => (.exit 0, ⟨[(0, .one (.dat (.sl (.int .i64)) a0))], [], 0⟩) | .inr r4 => (.ret, ⟨[(2, .one (.dat (.sl (.int .i64)) r4))], [], 0⟩)) hL20 ?_ (fun s1 x5 hx6 hk7 => ?_)
  · rcases r2 with r3 | r4
    · refine (qBlockX (qThen ?_))
      refine HT.reg1 [2] [⟨none, .no⟩, ⟨none, .no⟩] ⟨[(2, .one (.dat (.sl (.int .i64)) a0))], [], 0⟩ hP hN (by kernel_rfl) allNil ?_
      have hr := of_some hr
      subst hr
      exact HT.ret ⟨[.one (.dat (.sl (.int .i64)) a0)], [], [], by kernel_rfl, by kernel_rfl, rfl, (.inl rfl), by kernel_rfl, trivial⟩
    · have hr := of_some hr
      subst hr
      exact (qBlockR (qThenR ⟨[.one (.dat (.sl (.int .i64)) r4)], [], [], by kernel_rfl, by kernel_rfl, rfl, (.inl rfl), by kernel_rfl, trivial⟩))
  · refine HT.seq ?_
    refine HT.reg1 [0, 3, 7] [⟨none, .no⟩, ⟨none, .no⟩, ⟨none, .no⟩, ⟨none, .no⟩] ⟨[(0, .one (.dat (.sl (.int .i64)) a0)), (3, .one (.dat (.int .i64) s1)), (7, .one (.dat .bool (decide (s1 < (lenI a0)))))], [], 0⟩ hP hN (by kernel_rfl) allNil ?_
    rcases of_bif hx6 with ⟨hb8, hx6⟩ | ⟨hb8, hx6⟩
    · refine HT.cond1 rfl hb8 ?_
      refine HT.skip (qThen ?_)
      refine HT.seq ?_
      refine HT.block ?_
      obtain ⟨v9', hT11, hx6⟩ := of_bind hx6
      refine HT.join (fun (v9 : Bool) => ⟨[(0, .one (.dat (.sl (.int .i64)) a0)), (3, .one (.dat (.int .i64) s1)), (26, .one (.dat .bool v9))], [], 0⟩) (fun v => v = v9') (fun v9 hv10 => ?_) (fun cont => ?_)
      · subst hv10
        rcases of_bif hx6 with ⟨hb12, hx6⟩ | ⟨hb12, hx6⟩
        · refine HT.cond1 rfl hb12 ?_
          obtain ⟨hg13, hx6⟩ := of_guard hx6
          refine HT.reg1 [2] [⟨none, .no⟩, ⟨none, .no⟩, ⟨none, .no⟩, ⟨none, .no⟩] ⟨[(2, .one (.dat (.sl (.int .i64)) (cut a0 (0 : Int) s1)))], [], 0⟩ hP hN (by kernel_rfl) (allCons (show (0 : Int) ≤ 0 ∧ (0 : Int) ≤ s1 ∧ s1 ≤ lenI a0 from ⟨Int.le_refl _, hg13.1, hg13.2⟩) allNil) ?_
          have hx6 := of_some hx6
          subst hx6
          refine (Le.cv (s := ⟨[], [], [], false⟩) (own := []) (ps := [(cut a0 (0 : Int) s1) = (cut a0 (0 : Int) s1)]) (st' := ⟨[(2, .one (.dat (.sl (.int .i64)) (cut a0 (0 : Int) s1)))], [], 0⟩) hO (fun h => by cases h) (by kernel_rfl) ⟨rfl, trivial⟩).ht ?_
          exact HT.ret (qBlockR (qThenR (qLoopR (hk7 (.inr (cut a0 (0 : Int) s1)) rfl))))
        · refine HT.cond0 rfl hb12 ?_
          refine HT.skip (qBlock (qThen ?_))
          have hx6 := of_some hx6
          subst hx6
          refine HT.reg (rs := [⟨none, .no⟩, ⟨none, .no⟩, ⟨none, .no⟩]) (st' := ⟨[(3, .one (.dat (.int .i64) (wadd .i64 s1 (1 : Int)))), (9, .one (.dat (.int .i64) (wadd .i64 s1 (1 : Int)))), (8, .one (.dat (.int .i64) s1)), (0, .one (.dat (.sl (.int .i64)) a0)), (3, .one (.dat (.int .i64) s1)), (26, .one (.dat .bool v9))], [], 0⟩) hP hN (by kernel_rfl) allNil (qLoopN ⟨(wadd .i64 s1 (1 : Int)), rfl, Le.cv (s := ⟨[], [], [], false⟩) (own := []) (ps := [a0 = a0, (wadd .i64 s1 (1 : Int)) = (wadd .i64 s1 (1 : Int))]) (st' := ⟨[(0, .one (.dat (.sl (.int .i64)) a0)), (3, .one (.dat (.int .i64) (wadd .i64 s1 (1 : Int))))], [], 0⟩) hO (fun h => by cases h) (by kernel_rfl) ⟨rfl, rfl, trivial⟩⟩)
      · obtain ⟨hg14, hT11⟩ := of_guard hT11
        rcases of_bif hT11 with ⟨hb15, hT11⟩ | ⟨hb15, hT11⟩
        · obtain ⟨hg16, hT11⟩ := of_guard hT11
          obtain ⟨hg17, hT11⟩ := of_guard hT11
          obtain ⟨y18, hc19, hT11⟩ := of_bind hT11
          refine drawS (h := 15) (hrs := [⟨⟨none, .no⟩, []⟩, ⟨⟨none, .no⟩, [0]⟩, ⟨⟨none, .no⟩, []⟩, ⟨⟨none, .no⟩, [0, 1, 2]⟩, ⟨⟨none, .no⟩, [0, 1, 2, 3]⟩, ⟨⟨none, .no⟩, [0, 1, 2, 3, 4]⟩, ⟨⟨some true, .no⟩, [0, 1, 2, 3, 4, 5]⟩, ⟨⟨some true, .no⟩, [0, 1, 2, 3, 4, 5]⟩, ⟨⟨some true, .no⟩, [0, 1, 2, 3, 4, 5, 6, 7]⟩, ⟨⟨some true, .no⟩, [0, 1, 2, 3, 4, 5]⟩, ⟨⟨some true, .no⟩, [0, 1, 2, 3, 4, 5]⟩, ⟨⟨some true, .no⟩, [0, 1, 2, 3, 4, 5, 10]⟩, ⟨⟨some true, .no⟩, [0, 1, 2, 3, 4, 5]⟩, ⟨⟨some true, .no⟩, [0, 1, 2, 3, 4, 5, 10, 11, 12]⟩, ⟨⟨some true, .no⟩, [0, 1, 2, 3, 4, 5, 9, 10, 11, 12, 13]⟩]) (tds := [[0, 1, 2, 3, 4, 5, 6, 7, 8, 9, 10, 11, 12, 13, 14], [0, 1, 2, 3, 4, 5, 6, 7, 8, 9, 10, 11, 12, 13, 14, 15]]) (rs := [⟨some true, .call [.imm (.sl (.int .i64)), .imm (.sl (.int .i64))] [⟨false, .bool, y18⟩] []⟩, ⟨none, .tv true⟩]) (st' := ⟨[(26, .one (.dat .bool y18)), (25, .one (.dat .bool y18)), (24, .one (.dat (.sl (.int .i64)) (cut a0 (0 : Int) (wsub .i64 (lenI a0) s1)))), (23, .one (.dat (.int .i64) (wsub .i64 (lenI a0) s1))), (22, .one (.dat (.int .i64) s1)), (21, .one (.dat (.int .i64) (lenI a0))), (20, .one (.dat (.sl (.int .i64)) a0)), (19, .one (.dat (.sl (.int .i64)) a0)), (18, .one (.dat (.sl (.int .i64)) (cut a0 s1 (lenI a0)))), (17, .one (.dat (.int .i64) s1)), (16, .one (.dat (.sl (.int .i64)) a0)), (15, .one (.dat .bool ((Int.tmod (lenI a0) s1) == (0 : Int)))), (14, .one (.dat .bool ((Int.tmod (lenI a0) s1) == (0 : Int)))), (13, .one (.dat (.int .i64) (Int.tmod (lenI a0) s1))), (12, .one (.dat (.int .i64) s1)), (11, .one (.dat (.int .i64) (lenI a0))), (10, .one (.dat (.sl (.int .i64)) a0)), (0, .one (.dat (.sl (.int .i64)) a0)), (3, .one (.dat (.int .i64) s1)), (7, .one (.dat .bool (decide (s1 < (lenI a0)))))], [], 0⟩) hP hN (by kernel_rfl) (by kernel_rfl) (allCons hg14 (allCons hb15 (allCons hb15 (allCons hb15 (allCons (show (0 : Int) ≤ s1 ∧ s1 ≤ lenI a0 ∧ lenI a0 ≤ lenI a0 from ⟨hg16.1, hg16.2, Int.le_refl _⟩) (allCons hb15 (allCons hb15 (allCons hb15 (allCons hb15 (allCons hb15 (allCons hb15 (allCons (show (0 : Int) ≤ 0 ∧ (0 : Int) ≤ (wsub .i64 (lenI a0) s1) ∧ (wsub .i64 (lenI a0) s1) ≤ lenI a0 from ⟨Int.le_refl _, hg17.1, hg17.2⟩) (allCons hb15 (allCons (f76_ok hc19) (allCons hb15 allNil))))))))))))))) (qThen ?_)
          exact (Le.cv (s := ⟨[], [], [], false⟩) (own := []) (ps := [a0 = a0, s1 = s1, y18 = y18]) (st' := ⟨[(0, .one (.dat (.sl (.int .i64)) a0)), (3, .one (.dat (.int .i64) s1)), (26, .one (.dat .bool y18))], [], 0⟩) hO (fun h => by cases h) (by kernel_rfl) ⟨rfl, rfl, rfl, trivial⟩).ht (cont y18 (of_some hT11))
        · refine drawS (h := 15) (hrs := [⟨⟨none, .no⟩, []⟩, ⟨⟨none, .no⟩, [0]⟩, ⟨⟨none, .no⟩, []⟩, ⟨⟨none, .no⟩, [0, 1, 2]⟩, ⟨⟨none, .no⟩, [0, 1, 2, 3]⟩, ⟨⟨none, .no⟩, [0, 1, 2, 3, 4]⟩, ⟨⟨some false, .no⟩, [0, 1, 2, 3, 4, 5]⟩, ⟨⟨some false, .no⟩, [0, 1, 2, 3, 4, 5]⟩, ⟨⟨some false, .no⟩, [0, 1, 2, 3, 4, 5, 6, 7]⟩, ⟨⟨some false, .no⟩, [0, 1, 2, 3, 4, 5]⟩, ⟨⟨some false, .no⟩, [0, 1, 2, 3, 4, 5]⟩, ⟨⟨some false, .no⟩, [0, 1, 2, 3, 4, 5, 10]⟩, ⟨⟨some false, .no⟩, [0, 1, 2, 3, 4, 5]⟩, ⟨⟨some false, .no⟩, [0, 1, 2, 3, 4, 5, 10, 11, 12]⟩, ⟨⟨some false, .no⟩, [0, 1, 2, 3, 4, 5, 9, 10, 11, 12, 13]⟩]) (tds := [[0, 1, 2, 3, 4, 5, 6, 7, 8, 9, 10, 11, 12, 13, 14], [0, 1, 2, 3, 4, 5, 6, 7, 8, 9, 10, 11, 12, 13, 14, 15]]) (rs := [⟨some false, .no⟩, ⟨none, .tv false⟩]) (st' := ⟨[(26, .one (.dat .bool false)), (25, .und), (24, .und), (23, .und), (22, .und), (21, .und), (20, .und), (19, .und), (18, .und), (17, .und), (16, .und), (15, .one (.dat .bool ((Int.tmod (lenI a0) s1) == (0 : Int)))), (14, .one (.dat .bool ((Int.tmod (lenI a0) s1) == (0 : Int)))), (13, .one (.dat (.int .i64) (Int.tmod (lenI a0) s1))), (12, .one (.dat (.int .i64) s1)), (11, .one (.dat (.int .i64) (lenI a0))), (10, .one (.dat (.sl (.int .i64)) a0)), (0, .one (.dat (.sl (.int .i64)) a0)), (3, .one (.dat (.int .i64) s1)), (7, .one (.dat .bool (decide (s1 < (lenI a0)))))], [], 0⟩) hP hN (by kernel_rfl) (by kernel_rfl) (allCons hg14 (allCons hb15 (allCons hb15 (allCons hb15 (allCons hb15 (allCons hb15 (allCons hb15 (allCons hb15 (allCons hb15 (allCons hb15 (allCons hb15 (allCons hb15 allNil)))))))))))) (qThen ?_)
          exact (Le.cv (s := ⟨[], [], [], false⟩) (own := []) (ps := [a0 = a0, s1 = s1, false = false]) (st' := ⟨[(0, .one (.dat (.sl (.int .i64)) a0)), (3, .one (.dat (.int .i64) s1)), (26, .one (.dat .bool false))], [], 0⟩) hO (fun h => by cases h) (by kernel_rfl) ⟨rfl, rfl, rfl, trivial⟩).ht (cont false (of_some hT11))
    · refine HT.cond0 rfl hb8 ?_
      have hx6 := of_some hx6
      subst hx6
      refine (Le.cv (s := ⟨[], [], [], false⟩) (own := []) (ps := [a0 = a0]) (st' := ⟨[(0, .one (.dat (.sl (.int .i64)) a0))], [], 0⟩) hO (fun h => by cases h) (by kernel_rfl) ⟨rfl, trivial⟩).ht ?_
      exact HT.exit (qThenE (qLoopE (hk7 (.inl ()) rfl)))

noncomputable def impl_NormalLoop_B1  (s10 : List Int × List Int) : Option ((List Int × List Int) ⊕ ((List Int × List Int))) :=
  (show Option (Bool) from
    bif (decide ((lenI s10.1) > (0 : Int))) then
      guardP ((0 : Int) ≤ (wsub .i64 (lenI s10.1) (1 : Int)) ∧ (wsub .i64 (lenI s10.1) (1 : Int)) < lenI s10.1) (
        guardP ((0 : Int) ≤ (wsub .i64 (lenI s10.2) (1 : Int)) ∧ (wsub .i64 (lenI s10.2) (1 : Int)) < lenI s10.2) (
          some ((List.getD s10.1 (Int.toNat (wsub .i64 (lenI s10.1) (1 : Int))) (0 : Int)) == (List.getD s10.2 (Int.toNat (wsub .i64 (lenI s10.2) (1 : Int))) (0 : Int)))))
    else
      some false).bind fun v16 =>
  bif v16 then
    guardP ((0 : Int) ≤ (wsub .i64 (lenI s10.2) (1 : Int)) ∧ (wsub .i64 (lenI s10.2) (1 : Int)) < lenI s10.2) (
      guardP ((0 : Int) ≤ (wsub .i64 (lenI s10.2) (1 : Int)) ∧ (wsub .i64 (lenI s10.2) (1 : Int)) ≤ lenI s10.2) (
        guardP (List.length ([(List.getD s10.2 (Int.toNat (wsub .i64 (lenI s10.2) (1 : Int))) (0 : Int))] : List Int) + List.length (List.take (Int.toNat (wsub .i64 (lenI s10.2) (1 : Int))) (List.drop 0 s10.2)) ≤ appMax) (
          guardP ((0 : Int) ≤ (wsub .i64 (lenI s10.1) (1 : Int)) ∧ (wsub .i64 (lenI s10.1) (1 : Int)) ≤ lenI s10.1) (
            some (.inl ((List.take (Int.toNat (wsub .i64 (lenI s10.1) (1 : Int))) s10.1), (([(List.getD s10.2 (Int.toNat (wsub .i64 (lenI s10.2) (1 : Int))) (0 : Int))] : List Int) ++ (List.take (Int.toNat (wsub .i64 (lenI s10.2) (1 : Int))) (List.drop 0 s10.2)))))))))
  else
    some (.inr (s10.1, s10.2))

noncomputable def impl_NormalLoop (a0 : List Int × List Int) (a1 : Int) : Option ((List Int × List Int) × Bool) :=
  (impl_ValidLoop (a0.1, a0.2) a1).bind fun y1 =>
  bif (!y1) then
    some ((([] : List Int), ([] : List Int)), false)
  else
    (slices_Clone a0.1).bind fun y4 =>
    (impl_root a0.2).bind fun y6 =>
    (slices_Clone y6).bind fun y8 =>
    (rounds (impl_NormalLoop_B1) (y4, y8)).bind fun r12 =>
    some ((r12.1, r12.2), true)

theorem f12_ok {a0 : List Int × List Int} {a1 : Int} {r : (List Int × List Int) × Bool} (hr : impl_NormalLoop a0 a1 = some r) : CallOK Try.prog 12 [.imm (.st (.pair (.sl (.int .i64)) (.sl (.int .i64)))) a0, .imm (.int .i64) a1] [⟨true, (.st (.pair (.sl (.int .i64)) (.sl (.int .i64)))), r.1⟩, ⟨false, .bool, r.2⟩] [] := by
  unfold impl_NormalLoop at hr
  refine CallOK.of_body (ts := [(true, (.st (.pair (.sl (.int .i64)) (.sl (.int .i64))))), (false, .bool)]) Try.func12 rfl (by kernel_rfl) (Nat.le_of_ble_eq_true (by kernel_rfl)) fun cx hP hN hO hF => ?_
  have hO : cx.own.map Prod.fst = [] := hO
  show HT cx ⟨[(0, .agg [.dat (.sl (.int .i64)) a0.1, .dat (.sl (.int .i64)) a0.2]), (1, .one (.dat (.int .i64) a1))], [], 0⟩ _ _
  refine HT.reg1 [1, 2, 4] [⟨none, .no⟩, ⟨none, .no⟩, ⟨none, .no⟩] ⟨[(1, .one (.dat (.int .i64) a1)), (2, .one (.ptr 0 0)), (4, .one (.ptr 1 0))], [(1, .box [.nilS, .nilS]), (0, .box [.dat (.sl (.int .i64)) a0.1, .dat (.sl (.int .i64)) a0.2])], 2⟩ hP hN (by kernel_rfl) allNil ?_
  refine HT.seq ?_
  obtain ⟨y1, hc2, hr⟩ := of_bind hr
  refine HT.reg1 [2, 4, 12] [⟨none, .no⟩, ⟨none, .no⟩, ⟨none, .call [.imm (.st (.pair (.sl (.int .i64)) (.sl (.int .i64)))), .imm (.int .i64)] [⟨false, .bool, y1⟩] []⟩, ⟨none, .no⟩] ⟨[(2, .one (.ptr 0 0)), (4, .one (.ptr 1 0)), (12, .one (.dat .bool (!y1)))], [(1, .box [.nilS, .nilS]), (0, .box [.dat (.sl (.int .i64)) a0.1, .dat (.sl (.int .i64)) a0.2])], 2⟩ hP hN (by kernel_rfl) (allCons (f43_ok hc2) allNil) ?_
  rcases of_bif hr with ⟨hb3, hr⟩ | ⟨hb3, hr⟩
  · refine HT.cond1 rfl hb3 ?_
    refine HT.reg1 [4, 5] [⟨none, .no⟩, ⟨none, .no⟩, ⟨none, .no⟩] ⟨[(4, .one (.ptr 1 0)), (5, .one (.dat .bool false))], [(1, .box [.nilS, .nilS]), (1, .box [.nilS, .nilS]), (0, .box [.dat (.sl (.int .i64)) a0.1, .dat (.sl (.int .i64)) a0.2])], 2⟩ hP hN (by kernel_rfl) allNil ?_
    have hr := of_some hr
    subst hr
    exact HT.ret (qThenR ⟨[.agg [.nilS, .nilS], .one (.dat .bool false)], [], [], by kernel_rfl, by kernel_rfl, rfl, (.inl rfl), by kernel_rfl, trivial⟩)
  · refine HT.cond0 rfl hb3 ?_
    refine HT.skip (qThen ?_)
    obtain ⟨y4, hc5, hr⟩ := of_bind hr
    obtain ⟨y6, hc7, hr⟩ := of_bind hr
    obtain ⟨y8, hc9, hr⟩ := of_bind hr
    refine HT.drw1 [4, 6, 7] 5 [⟨⟨none, .no⟩, []⟩, ⟨⟨none, .no⟩, [0]⟩, ⟨⟨none, .call [.imm (.sl (.int .i64))] [⟨true, (.sl (.int .i64)), y4⟩] []⟩, [0, 1]⟩, ⟨⟨none, .no⟩, []⟩, ⟨⟨none, .no⟩, [3]⟩] [[0, 1, 2, 3, 4], [0, 1, 2, 3, 4, 5], [0, 1, 2, 3, 4, 5, 6], [0, 1, 2, 3, 4, 5, 6, 7]] [⟨none, .call [.imm (.sl (.int .i64))] [⟨false, (.sl (.int .i64)), y6⟩] []⟩, ⟨none, .call [.imm (.sl (.int .i64))] [⟨true, (.sl (.int .i64)), y8⟩] []⟩, ⟨none, .no⟩, ⟨none, .no⟩] ⟨[(4, .one (.ptr 1 0)), (6, .one (.all 2)), (7, .one (.all 3))], [(3, .seq (.int .i64) y8), (2, .seq (.int .i64) y4), (1, .box [.nilS, .nilS]), (0, .box [.dat (.sl (.int .i64)) a0.1, .dat (.sl (.int .i64)) a0.2])], 4⟩ hP hN (by kernel_rfl) (by kernel_rfl) (allCons (f44_ok hc5) (allCons (f45_ok hc7) (allCons (f44_ok hc9) allNil))) ?_
    refine HT.seq ?_
    refine HT.block ?_
    obtain ⟨r11, hL27, hr⟩ := of_bind hr
    refine (Le.cv (s := ⟨[(1, 0), (2, 1), (3, 2)], [], [], false⟩) (own := []) (ps := [y4 = y4, y8 = y8]) (st' := ⟨[(4, .one (.ptr 0 0)), (6, .one (.all 1)), (7, .one (.all 2))], [(0, .box [.nilS, .nilS]), (1, .seq (.int .i64) y4), (2, .seq (.int .i64) y8)], 3⟩) hO (fun h => by cases h) (by kernel_rfl) ⟨rfl, rfl, trivial⟩).ht ?_
    refine HT.loopE (s := (y4, y8)) (fun (s10 : List Int × List Int) => ⟨[(4, .one (.ptr 0 0)), (6, .one (.all 1)), (7, .one (.all 2))], [(0, .box [.nilS, .nilS]), (1, .seq (.int .i64) s10.1), (2, .seq (.int .i64) s10.2)], 3⟩) (fun (r12 : (List Int × List Int)) => (.exit 0, ⟨[(4, .one (.ptr 0 0)), (6, .one (.all 1)), (7, .one (.all 2))], [(0, .box [.nilS, .nilS]), (1, .seq (.int .i64) r12.1), (2, .seq (.int .i64) r12.2)], 3⟩)) hL27 ?_ (fun s10 x13 hx14 hk15 => ?_)
    · refine (qBlockX (qThen ?_))
      refine HT.reg1 [4, 5] [⟨none, .no⟩, ⟨none, .no⟩, ⟨none, .no⟩, ⟨none, .no⟩, ⟨none, .no⟩] ⟨[(4, .one (.ptr 0 0)), (5, .one (.dat .bool true))], [(0, .box [.all 1, .all 2]), (0, .box [.nilS, .nilS]), (1, .seq (.int .i64) r11.1), (2, .seq (.int .i64) r11.2)], 3⟩ hP hN (by kernel_rfl) allNil ?_
      have hr := of_some hr
      subst hr
      exact HT.ret ⟨[.agg [.all 1, .all 2], .one (.dat .bool true)], [1, 2], [], by kernel_rfl, by kernel_rfl, rfl, (.inl rfl), by kernel_rfl, trivial⟩
    · refine HT.seq ?_
      obtain ⟨v16', hT18, hx14⟩ := of_bind hx14
      refine HT.join (fun (v16 : Bool) => ⟨[(4, .one (.ptr 0 0)), (6, .one (.all 1)), (7, .one (.all 2)), (38, .one (.dat .bool v16))], [(0, .box [.nilS, .nilS]), (1, .seq (.int .i64) s10.1), (2, .seq (.int .i64) s10.2)], 3⟩) (fun v => v = v16') (fun v16 hv17 => ?_) (fun cont => ?_)
      · subst hv17
        rcases of_bif hx14 with ⟨hb19, hx14⟩ | ⟨hb19, hx14⟩
        · refine HT.cond1 rfl hb19 ?_
          refine HT.skip (qThen ?_)
          refine HT.block ?_
          refine HT.reg1 [4, 6, 7, 8] [⟨none, .no⟩, ⟨none, .no⟩, ⟨none, .no⟩, ⟨none, .no⟩] ⟨[(4, .one (.ptr 0 0)), (6, .one (.all 1)), (7, .one (.all 2)), (8, .one (.dat (.int .i64) (wsub .i64 (lenI s10.2) (1 : Int))))], [(0, .box [.nilS, .nilS]), (1, .seq (.int .i64) s10.1), (2, .seq (.int .i64) s10.2)], 3⟩ hP hN (by kernel_rfl) allNil ?_
          obtain ⟨hg20, hx14⟩ := of_guard hx14
          obtain ⟨hg21, hx14⟩ := of_guard hx14
          obtain ⟨hg22, hx14⟩ := of_guard hx14
          refine HT.drw1 [4, 6, 7] 8 [⟨⟨none, .no⟩, []⟩, ⟨⟨none, .no⟩, []⟩, ⟨⟨none, .no⟩, [0, 1]⟩, ⟨⟨none, .no⟩, [0, 1, 2]⟩, ⟨⟨none, .ty (.int .i64)⟩, [0, 1, 2, 3]⟩, ⟨⟨none, .no⟩, []⟩, ⟨⟨none, .no⟩, []⟩, ⟨⟨none, .no⟩, [5, 6]⟩] [[0, 1, 2, 3, 4, 5, 6, 7], [0, 1, 2, 3, 4, 5, 6, 7, 8]] [⟨none, .ty (.int .i64)⟩, ⟨none, .no⟩] ⟨[(4, .one (.ptr 0 0)), (6, .one (.all 1)), (7, .one (.all 4))], [(3, .gone), (4, .seq (.int .i64) (([(List.getD s10.2 (Int.toNat (wsub .i64 (lenI s10.2) (1 : Int))) (0 : Int))] : List Int) ++ (List.take (Int.toNat (wsub .i64 (lenI s10.2) (1 : Int))) (List.drop 0 s10.2)))), (3, .seq (.int .i64) ([(List.getD s10.2 (Int.toNat (wsub .i64 (lenI s10.2) (1 : Int))) (0 : Int))] : List Int)), (0, .box [.nilS, .nilS]), (1, .seq (.int .i64) s10.1), (2, .seq (.int .i64) s10.2)], 5⟩ hP hN (by kernel_rfl) (by kernel_rfl) (allCons hg20 (allCons (natLt hg20) (allCons (show (0 : Int) ≤ 0 ∧ (0 : Int) ≤ (wsub .i64 (lenI s10.2) (1 : Int)) ∧ (wsub .i64 (lenI s10.2) (1 : Int)) ≤ lenI s10.2 from ⟨Int.le_refl _, hg21.1, hg21.2⟩) (allCons hg22 allNil)))) ?_
          obtain ⟨hg23, hx14⟩ := of_guard hx14
          have hx14 := of_some hx14
          subst hx14
          refine HT.reg (rs := [⟨none, .no⟩, ⟨none, .no⟩, ⟨none, .no⟩, ⟨none, .no⟩, ⟨none, .no⟩, ⟨none, .no⟩]) (st' := ⟨[(6, .one (.ref 1 0 (Int.toNat (wsub .i64 (lenI s10.1) (1 : Int))))), (55, .one (.ref 1 0 (Int.toNat (wsub .i64 (lenI s10.1) (1 : Int))))), (54, .one (.dat (.int .i64) (wsub .i64 (lenI s10.1) (1 : Int)))), (53, .one (.dat (.int .i64) (lenI s10.1))), (52, .one (.all 1)), (51, .one (.all 1)), (4, .one (.ptr 0 0)), (6, .one (.all 1)), (7, .one (.all 4))], [(3, .gone), (4, .seq (.int .i64) (([(List.getD s10.2 (Int.toNat (wsub .i64 (lenI s10.2) (1 : Int))) (0 : Int))] : List Int) ++ (List.take (Int.toNat (wsub .i64 (lenI s10.2) (1 : Int))) (List.drop 0 s10.2)))), (3, .seq (.int .i64) ([(List.getD s10.2 (Int.toNat (wsub .i64 (lenI s10.2) (1 : Int))) (0 : Int))] : List Int)), (0, .box [.nilS, .nilS]), (1, .seq (.int .i64) s10.1), (2, .seq (.int .i64) s10.2)], 5⟩) hP hN (by kernel_rfl) (allCons (show (0 : Int) ≤ 0 ∧ (0 : Int) ≤ (wsub .i64 (lenI s10.1) (1 : Int)) ∧ (wsub .i64 (lenI s10.1) (1 : Int)) ≤ lenI s10.1 from ⟨Int.le_refl _, hg23.1, hg23.2⟩) allNil) (qBlock (qLoopN ⟨((List.take (Int.toNat (wsub .i64 (lenI s10.1) (1 : Int))) s10.1), (([(List.getD s10.2 (Int.toNat (wsub .i64 (lenI s10.2) (1 : Int))) (0 : Int))] : List Int) ++ (List.take (Int.toNat (wsub .i64 (lenI s10.2) (1 : Int))) (List.drop 0 s10.2)))), rfl, Le.cv (s := ⟨[(0, 0), (1, 1), (4, 2)], [], [1], false⟩) (own := []) (ps := [0 = 0, List.length (List.take (Int.toNat (wsub .i64 (lenI s10.1) (1 : Int))) s10.1) = Int.toNat (wsub .i64 (lenI s10.1) (1 : Int)), (List.take (Int.toNat (wsub .i64 (lenI s10.1) (1 : Int))) s10.1) = List.take (List.length (List.take (Int.toNat (wsub .i64 (lenI s10.1) (1 : Int))) s10.1)) s10.1, (([(List.getD s10.2 (Int.toNat (wsub .i64 (lenI s10.2) (1 : Int))) (0 : Int))] : List Int) ++ (List.take (Int.toNat (wsub .i64 (lenI s10.2) (1 : Int))) (List.drop 0 s10.2))) = (([(List.getD s10.2 (Int.toNat (wsub .i64 (lenI s10.2) (1 : Int))) (0 : Int))] : List Int) ++ (List.take (Int.toNat (wsub .i64 (lenI s10.2) (1 : Int))) (List.drop 0 s10.2)))]) (st' := ⟨[(4, .one (.ptr 0 0)), (6, .one (.all 1)), (7, .one (.all 2))], [(0, .box [.nilS, .nilS]), (1, .seq (.int .i64) (List.take (Int.toNat (wsub .i64 (lenI s10.1) (1 : Int))) s10.1)), (2, .seq (.int .i64) (([(List.getD s10.2 (Int.toNat (wsub .i64 (lenI s10.2) (1 : Int))) (0 : Int))] : List Int) ++ (List.take (Int.toNat (wsub .i64 (lenI s10.2) (1 : Int))) (List.drop 0 s10.2))))], 3⟩) hO (fun h => by cases h) (by kernel_rfl) ⟨rfl, (trunc1 hg23), (trunc2 _ _), rfl, trivial⟩⟩))
        · refine HT.cond0 rfl hb19 ?_
          have hx14 := of_some hx14
          subst hx14
          refine (Le.cv (s := ⟨[(0, 0), (1, 1), (2, 2)], [], [], false⟩) (own := []) (ps := [s10.1 = s10.1, s10.2 = s10.2]) (st' := ⟨[(4, .one (.ptr 0 0)), (6, .one (.all 1)), (7, .one (.all 2))], [(0, .box [.nilS, .nilS]), (1, .seq (.int .i64) s10.1), (2, .seq (.int .i64) s10.2)], 3⟩) hO (fun h => by cases h) (by kernel_rfl) ⟨rfl, rfl, trivial⟩).ht ?_
          exact HT.exit (qThenE (qLoopE (hk15 (s10.1, s10.2) rfl)))
      · rcases of_bif hT18 with ⟨hb24, hT18⟩ | ⟨hb24, hT18⟩
        · obtain ⟨hg25, hT18⟩ := of_guard hT18
          obtain ⟨hg26, hT18⟩ := of_guard hT18
          refine drawS (h := 16) (hrs := [⟨⟨none, .no⟩, []⟩, ⟨⟨none, .no⟩, [0]⟩, ⟨⟨none, .no⟩, [0, 1]⟩, ⟨⟨none, .no⟩, [0, 1, 2]⟩, ⟨⟨some true, .no⟩, [0, 1, 2, 3]⟩, ⟨⟨some true, .no⟩, [0, 1, 2, 3]⟩, ⟨⟨some true, .no⟩, [0, 1, 2, 3, 5]⟩, ⟨⟨some true, .no⟩, [0, 1, 2, 3, 5, 6]⟩, ⟨⟨some true, .no⟩, [0, 1, 2, 3, 4, 5, 6, 7]⟩, ⟨⟨some true, .no⟩, [0, 1, 2, 3, 4, 5, 6, 7, 8]⟩, ⟨⟨some true, .no⟩, [0, 1, 2, 3]⟩, ⟨⟨some true, .no⟩, [0, 1, 2, 3]⟩, ⟨⟨some true, .no⟩, [0, 1, 2, 3, 11]⟩, ⟨⟨some true, .no⟩, [0, 1, 2, 3, 11, 12]⟩, ⟨⟨some true, .no⟩, [0, 1, 2, 3, 10, 11, 12, 13]⟩, ⟨⟨some true, .no⟩, [0, 1, 2, 3, 10, 11, 12, 13, 14]⟩]) (tds := [[0, 1, 2, 3, 4, 5, 6, 7, 8, 9, 10, 11, 12, 13, 14, 15], [0, 1, 2, 3, 4, 5, 6, 7, 8, 9, 10, 11, 12, 13, 14, 15, 16]]) (rs := [⟨some true, .no⟩, ⟨none, .tv true⟩]) (st' := ⟨[(38, .one (.dat .bool ((List.getD s10.1 (Int.toNat (wsub .i64 (lenI s10.1) (1 : Int))) (0 : Int)) == (List.getD s10.2 (Int.toNat (wsub .i64 (lenI s10.2) (1 : Int))) (0 : Int))))), (37, .one (.dat .bool ((List.getD s10.1 (Int.toNat (wsub .i64 (lenI s10.1) (1 : Int))) (0 : Int)) == (List.getD s10.2 (Int.toNat (wsub .i64 (lenI s10.2) (1 : Int))) (0 : Int))))), (36, .one (.dat (.int .i64) (List.getD s10.2 (Int.toNat (wsub .i64 (lenI s10.2) (1 : Int))) (0 : Int)))), (35, .one (.elp 2 (Int.toNat (wsub .i64 (lenI s10.2) (1 : Int))) 1)), (34, .one (.dat (.int .i64) (wsub .i64 (lenI s10.2) (1 : Int)))), (33, .one (.dat (.int .i64) (lenI s10.2))), (32, .one (.all 2)), (31, .one (.all 2)), (30, .one (.dat (.int .i64) (List.getD s10.1 (Int.toNat (wsub .i64 (lenI s10.1) (1 : Int))) (0 : Int)))), (29, .one (.elp 1 (Int.toNat (wsub .i64 (lenI s10.1) (1 : Int))) 1)), (28, .one (.dat (.int .i64) (wsub .i64 (lenI s10.1) (1 : Int)))), (27, .one (.dat (.int .i64) (lenI s10.1))), (26, .one (.all 1)), (25, .one (.all 1)), (24, .one (.dat .bool (decide ((lenI s10.1) > (0 : Int))))), (23, .one (.dat .bool (decide ((lenI s10.1) > (0 : Int))))), (22, .one (.dat (.int .i64) (lenI s10.1))), (21, .one (.all 1)), (4, .one (.ptr 0 0)), (6, .one (.all 1)), (7, .one (.all 2))], [(0, .box [.nilS, .nilS]), (1, .seq (.int .i64) s10.1), (2, .seq (.int .i64) s10.2)], 3⟩) hP hN (by kernel_rfl) (by kernel_rfl) (allCons hb24 (allCons hb24 (allCons hb24 (allCons hb24 (allCons hb24 (allCons hg25 (allCons hb24 (allCons (natLt hg25) (allCons hb24 (allCons hb24 (allCons hb24 (allCons hb24 (allCons hb24 (allCons hg26 (allCons hb24 (allCons (natLt hg26) (allCons hb24 (allCons hb24 allNil)))))))))))))))))) (qThen ?_)
          exact (Le.cv (s := ⟨[(0, 0), (1, 1), (2, 2)], [], [], false⟩) (own := []) (ps := [((List.getD s10.1 (Int.toNat (wsub .i64 (lenI s10.1) (1 : Int))) (0 : Int)) == (List.getD s10.2 (Int.toNat (wsub .i64 (lenI s10.2) (1 : Int))) (0 : Int))) = ((List.getD s10.1 (Int.toNat (wsub .i64 (lenI s10.1) (1 : Int))) (0 : Int)) == (List.getD s10.2 (Int.toNat (wsub .i64 (lenI s10.2) (1 : Int))) (0 : Int))), s10.1 = s10.1, s10.2 = s10.2]) (st' := ⟨[(4, .one (.ptr 0 0)), (6, .one (.all 1)), (7, .one (.all 2)), (38, .one (.dat .bool ((List.getD s10.1 (Int.toNat (wsub .i64 (lenI s10.1) (1 : Int))) (0 : Int)) == (List.getD s10.2 (Int.toNat (wsub .i64 (lenI s10.2) (1 : Int))) (0 : Int)))))], [(0, .box [.nilS, .nilS]), (1, .seq (.int .i64) s10.1), (2, .seq (.int .i64) s10.2)], 3⟩) hO (fun h => by cases h) (by kernel_rfl) ⟨rfl, rfl, rfl, trivial⟩).ht (cont ((List.getD s10.1 (Int.toNat (wsub .i64 (lenI s10.1) (1 : Int))) (0 : Int)) == (List.getD s10.2 (Int.toNat (wsub .i64 (lenI s10.2) (1 : Int))) (0 : Int))) (of_some hT18))
        · refine drawS (h := 16) (hrs := [⟨⟨none, .no⟩, []⟩, ⟨⟨none, .no⟩, [0]⟩, ⟨⟨none, .no⟩, [0, 1]⟩, ⟨⟨none, .no⟩, [0, 1, 2]⟩, ⟨⟨some false, .no⟩, [0, 1, 2, 3]⟩, ⟨⟨some false, .no⟩, [0, 1, 2, 3]⟩, ⟨⟨some false, .no⟩, [0, 1, 2, 3, 5]⟩, ⟨⟨some false, .no⟩, [0, 1, 2, 3, 5, 6]⟩, ⟨⟨some false, .no⟩, [0, 1, 2, 3, 4, 5, 6, 7]⟩, ⟨⟨some false, .no⟩, [0, 1, 2, 3, 4, 5, 6, 7, 8]⟩, ⟨⟨some false, .no⟩, [0, 1, 2, 3]⟩, ⟨⟨some false, .no⟩, [0, 1, 2, 3]⟩, ⟨⟨some false, .no⟩, [0, 1, 2, 3, 11]⟩, ⟨⟨some false, .no⟩, [0, 1, 2, 3, 11, 12]⟩, ⟨⟨some false, .no⟩, [0, 1, 2, 3, 10, 11, 12, 13]⟩, ⟨⟨some false, .no⟩, [0, 1, 2, 3, 10, 11, 12, 13, 14]⟩]) (tds := [[0, 1, 2, 3, 4, 5, 6, 7, 8, 9, 10, 11, 12, 13, 14, 15], [0, 1, 2, 3, 4, 5, 6, 7, 8, 9, 10, 11, 12, 13, 14, 15, 16]]) (rs := [⟨some false, .no⟩, ⟨none, .tv false⟩]) (st' := ⟨[(38, .one (.dat .bool false)), (37, .und), (36, .und), (35, .und), (34, .und), (33, .und), (32, .und), (31, .und), (30, .und), (29, .und), (28, .und), (27, .und), (26, .und), (25, .und), (24, .one (.dat .bool (decide ((lenI s10.1) > (0 : Int))))), (23, .one (.dat .bool (decide ((lenI s10.1) > (0 : Int))))), (22, .one (.dat (.int .i64) (lenI s10.1))), (21, .one (.all 1)), (4, .one (.ptr 0 0)), (6, .one (.all 1)), (7, .one (.all 2))], [(0, .box [.nilS, .nilS]), (1, .seq (.int .i64) s10.1), (2, .seq (.int .i64) s10.2)], 3⟩) hP hN (by kernel_rfl) (by kernel_rfl) (allCons hb24 (allCons hb24 (allCons hb24 (allCons hb24 (allCons hb24 (allCons hb24 (allCons hb24 (allCons hb24 (allCons hb24 (allCons hb24 (allCons hb24 (allCons hb24 (allCons hb24 (allCons hb24 allNil)))))))))))))) (qThen ?_)
          exact (Le.cv (s := ⟨[(0, 0), (1, 1), (2, 2)], [], [], false⟩) (own := []) (ps := [false = false, s10.1 = s10.1, s10.2 = s10.2]) (st' := ⟨[(4, .one (.ptr 0 0)), (6, .one (.all 1)), (7, .one (.all 2)), (38, .one (.dat .bool false))], [(0, .box [.nilS, .nilS]), (1, .seq (.int .i64) s10.1), (2, .seq (.int .i64) s10.2)], 3⟩) hO (fun h => by cases h) (by kernel_rfl) ⟨rfl, rfl, rfl, trivial⟩).ht (cont false (of_some hT18))

noncomputable def laws_eqInt64S_B1 (a0 : List Int) (a1 : List Int) (s2 : Int) : Option ((Int) ⊕ (Unit ⊕ Unit)) :=
  bif (decide (s2 < (lenI a0))) then
    guardP ((0 : Int) ≤ s2 ∧ s2 < lenI a0) (
      guardP ((0 : Int) ≤ s2 ∧ s2 < lenI a1) (
        bif ((List.getD a0 (Int.toNat s2) (0 : Int)) != (List.getD a1 (Int.toNat s2) (0 : Int))) then
          some (.inr (.inr ()))
        else
          some (.inl (wadd .i64 s2 (1 : Int)))))
  else
    some (.inr (.inl ()))

noncomputable def laws_eqInt64S (a0 : List Int) (a1 : List Int) : Option (Bool) :=
  bif ((lenI a0) != (lenI a1)) then
    some false
  else
    (rounds (laws_eqInt64S_B1 a0 a1) (0 : Int)).bind fun r3 => match r3 with
      | .inl r4 =>
        some true
      | .inr r5 =>
        some false

theorem f46_ok {a0 : List Int} {a1 : List Int} {r : Bool} (hr : laws_eqInt64S a0 a1 = some r) : CallOK Try.prog 46 [.imm (.sl (.int .i64)) a0, .imm (.sl (.int .i64)) a1] [⟨false, .bool, r⟩] [] := by
  unfold laws_eqInt64S at hr
  refine CallOK.of_body (ts := [(false, .bool)]) Try.func46 rfl (by kernel_rfl) (Nat.le_of_ble_eq_true (by kernel_rfl)) fun cx hP hN hO hF => ?_
  have hO : cx.own.map Prod.fst = [] := hO
  show HT cx ⟨[(0, .one (.dat (.sl (.int .i64)) a0)), (1, .one (.dat (.sl (.int .i64)) a1))], [], 0⟩ _ _
  refine HT.reg1 [0, 1] [⟨none, .no⟩] ⟨[(0, .one (.dat (.sl (.int .i64)) a0)), (1, .one (.dat (.sl (.int .i64)) a1))], [], 0⟩ hP hN (by kernel_rfl) allNil ?_
  refine HT.seq ?_
  refine HT.reg1 [0, 1, 10] [⟨none, .no⟩, ⟨none, .no⟩, ⟨none, .no⟩, ⟨none, .no⟩, ⟨none, .no⟩] ⟨[(0, .one (.dat (.sl (.int .i64)) a0)), (1, .one (.dat (.sl (.int .i64)) a1)), (10, .one (.dat .bool ((lenI a0) != (lenI a1))))], [], 0⟩ hP hN (by kernel_rfl) allNil ?_
  rcases of_bif hr with ⟨hb1, hr⟩ | ⟨hb1, hr⟩
  · refine HT.cond1 rfl hb1 ?_
    refine HT.reg1 [4] [⟨none, .no⟩] ⟨[(4, .one (.dat .bool false))], [], 0⟩ hP hN (by kernel_rfl) allNil ?_
    have hr := of_some hr
    subst hr
    exact HT.ret (qThenR ⟨[.one (.dat .bool false)], [], [], by kernel_rfl, by kernel_rfl, rfl, (.inl rfl), by kernel_rfl, trivial⟩)
  · refine HT.cond0 rfl hb1 ?_
    refine HT.skip (qThen ?_)
    refine HT.seq ?_
    refine HT.reg1 [0, 1, 5] [⟨none, .no⟩] ⟨[(0, .one (.dat (.sl (.int .i64)) a0)), (1, .one (.dat (.sl (.int .i64)) a1)), (5, .one (.dat (.int .i64) (0 : Int)))], [], 0⟩ hP hN (by kernel_rfl) allNil ?_
    refine HT.block ?_
    obtain ⟨r3, hL13, hr⟩ := of_bind hr
    refine (Le.cv (s := ⟨[], [], [], false⟩) (own := []) (ps := [a0 = a0, a1 = a1, (0 : Int) = (0 : Int)]) (st' := ⟨[(0, .one (.dat (.sl (.int .i64)) a0)), (1, .one (.dat (.sl (.int .i64)) a1)), (5, .one (.dat (.int .i64) (0 : Int)))], [], 0⟩) hO (fun h => by cases h) (by kernel_rfl) ⟨rfl, rfl, rfl, trivial⟩).ht ?_
    refine HT.loopE (s := (0 : Int)) (fun (s2 : Int) => ⟨[(0, .one (.dat (.sl (.int .i64)) a0)), (1, .one (.dat (.sl (.int .i64)) a1)), (5, .one (.dat (.int .i64) s2))], [], 0⟩) (fun (r3 : Unit ⊕ Unit) => match r3 with | .inl r4 => (.exit 0, ⟨[], [], 0⟩) | .inr r5 => (.ret, ⟨[(4, .one (.dat .bool false))], [], 0⟩)) hL13 ?_ (fun s2 x6 hx7 hk8 => ?_)
    · rcases r3 with r4 | r5
      · refine (qBlockX (qThen ?_))
        refine HT.reg1 [4] [⟨none, .no⟩] ⟨[(4, .one (.dat .bool true))], [], 0⟩ hP hN (by kernel_rfl) allNil ?_
        have hr := of_some hr
        subst hr
        exact HT.ret ⟨[.one (.dat .bool true)], [], [], by kernel_rfl, by kernel_rfl, rfl, (.inl rfl), by kernel_rfl, trivial⟩
      · have hr := of_some hr
        subst hr
        exact (qBlockR (qThenR ⟨[.one (.dat .bool false)], [], [], by kernel_rfl, by kernel_rfl, rfl, (.inl rfl), by kernel_rfl, trivial⟩))
    · refine HT.seq ?_
      refine HT.reg1 [0, 1, 5, 14] [⟨none, .no⟩, ⟨none, .no⟩, ⟨none, .no⟩, ⟨none, .no⟩] ⟨[(0, .one (.dat (.sl (.int .i64)) a0)), (1, .one (.dat (.sl (.int .i64)) a1)), (5, .one (.dat (.int .i64) s2)), (14, .one (.dat .bool (decide (s2 < (lenI a0)))))], [], 0⟩ hP hN (by kernel_rfl) allNil ?_
      rcases of_bif hx7 with ⟨hb9, hx7⟩ | ⟨hb9, hx7⟩
      · refine HT.cond1 rfl hb9 ?_
        refine HT.skip (qThen ?_)
        refine HT.seq ?_
        refine HT.block ?_
        obtain ⟨hg10, hx7⟩ := of_guard hx7
        obtain ⟨hg11, hx7⟩ := of_guard hx7
        refine HT.drw1 [0, 1, 5, 25] 8 [⟨⟨none, .no⟩, []⟩, ⟨⟨none, .no⟩, []⟩, ⟨⟨none, .no⟩, [0, 1]⟩, ⟨⟨none, .no⟩, [0, 1, 2]⟩, ⟨⟨none, .no⟩, []⟩, ⟨⟨none, .no⟩, []⟩, ⟨⟨none, .no⟩, [4, 5]⟩, ⟨⟨none, .no⟩, [4, 5, 6]⟩] [[0, 1, 2, 3, 4, 5, 6, 7]] [⟨none, .no⟩] ⟨[(0, .one (.dat (.sl (.int .i64)) a0)), (1, .one (.dat (.sl (.int .i64)) a1)), (5, .one (.dat (.int .i64) s2)), (25, .one (.dat .bool ((List.getD a0 (Int.toNat s2) (0 : Int)) != (List.getD a1 (Int.toNat s2) (0 : Int)))))], [], 0⟩ hP hN (by kernel_rfl) (by kernel_rfl) (allCons hg10 (allCons hg11 allNil)) ?_
        rcases of_bif hx7 with ⟨hb12, hx7⟩ | ⟨hb12, hx7⟩
        · refine HT.cond1 rfl hb12 ?_
          refine HT.reg1 [4] [⟨none, .no⟩] ⟨[(4, .one (.dat .bool false))], [], 0⟩ hP hN (by kernel_rfl) allNil ?_
          have hx7 := of_some hx7
          subst hx7
          refine (Le.cv (s := ⟨[], [], [], false⟩) (own := []) (ps := [false = false]) (st' := ⟨[(4, .one (.dat .bool false))], [], 0⟩) hO (fun h => by cases h) (by kernel_rfl) ⟨rfl, trivial⟩).ht ?_
          exact HT.ret (qBlockR (qThenR (qLoopR (hk8 (.inr ()) rfl))))
        · refine HT.cond0 rfl hb12 ?_
          refine HT.skip (qBlock (qThen ?_))
          have hx7 := of_some hx7
          subst hx7
          refine HT.reg (rs := [⟨none, .no⟩, ⟨none, .no⟩, ⟨none, .no⟩]) (st' := ⟨[(5, .one (.dat (.int .i64) (wadd .i64 s2 (1 : Int)))), (16, .one (.dat (.int .i64) (wadd .i64 s2 (1 : Int)))), (15, .one (.dat (.int .i64) s2)), (0, .one (.dat (.sl (.int .i64)) a0)), (1, .one (.dat (.sl (.int .i64)) a1)), (5, .one (.dat (.int .i64) s2)), (25, .one (.dat .bool ((List.getD a0 (Int.toNat s2) (0 : Int)) != (List.getD a1 (Int.toNat s2) (0 : Int)))))], [], 0⟩) hP hN (by kernel_rfl) allNil (qLoopN ⟨(wadd .i64 s2 (1 : Int)), rfl, Le.cv (s := ⟨[], [], [], false⟩) (own := []) (ps := [a0 = a0, a1 = a1, (wadd .i64 s2 (1 : Int)) = (wadd .i64 s2 (1 : Int))]) (st' := ⟨[(0, .one (.dat (.sl (.int .i64)) a0)), (1, .one (.dat (.sl (.int .i64)) a1)), (5, .one (.dat (.int .i64) (wadd .i64 s2 (1 : Int))))], [], 0⟩) hO (fun h => by cases h) (by kernel_rfl) ⟨rfl, rfl, rfl, trivial⟩⟩)
      · refine HT.cond0 rfl hb9 ?_
        have hx7 := of_some hx7
        subst hx7
        refine (Le.cv (s := ⟨[], [], [], false⟩) (own := []) (ps := []) (st' := ⟨[], [], 0⟩) hO (fun h => by cases h) (by kernel_rfl) trivial).ht ?_
        exact HT.exit (qThenE (qLoopE (hk8 (.inl ()) rfl)))

noncomputable def laws_eqLoop (a0 : List Int × List Int) (a1 : List Int × List Int) : Option (Bool) :=
  (laws_eqInt64S a0.1 a1.1).bind fun y1 =>
  bif (!y1) then
    some false
  else
    (laws_eqInt64S a0.2 a1.2).bind fun y4 =>
    bif (!y4) then
      some false
    else
      some true

theorem f13_ok {a0 : List Int × List Int} {a1 : List Int × List Int} {r : Bool} (hr : laws_eqLoop a0 a1 = some r) : CallOK Try.prog 13 [.imm (.st (.pair (.sl (.int .i64)) (.sl (.int .i64)))) a0, .imm (.st (.pair (.sl (.int .i64)) (.sl (.int .i64)))) a1] [⟨false, .bool, r⟩] [] := by
  unfold laws_eqLoop at hr
  refine CallOK.of_body (ts := [(false, .bool)]) Try.func13 rfl (by kernel_rfl) (Nat.le_of_ble_eq_true (by kernel_rfl)) fun cx hP hN hO hF => ?_
  have hO : cx.own.map Prod.fst = [] := hO
  show HT cx ⟨[(0, .agg [.dat (.sl (.int .i64)) a0.1, .dat (.sl (.int .i64)) a0.2]), (1, .agg [.dat (.sl (.int .i64)) a1.1, .dat (.sl (.int .i64)) a1.2])], [], 0⟩ _ _
  refine HT.reg1 [2, 3] [⟨none, .no⟩, ⟨none, .no⟩, ⟨none, .no⟩] ⟨[(2, .one (.ptr 0 0)), (3, .one (.ptr 1 0))], [(1, .box [.dat (.sl (.int .i64)) a1.1, .dat (.sl (.int .i64)) a1.2]), (0, .box [.dat (.sl (.int .i64)) a0.1, .dat (.sl (.int .i64)) a0.2])], 2⟩ hP hN (by kernel_rfl) allNil ?_
  refine HT.seq ?_
  obtain ⟨y1, hc2, hr⟩ := of_bind hr
  refine HT.reg1 [2, 3, 10] [⟨none, .no⟩, ⟨none, .no⟩, ⟨none, .no⟩, ⟨none, .no⟩, ⟨none, .call [.imm (.sl (.int .i64)), .imm (.sl (.int .i64))] [⟨false, .bool, y1⟩] []⟩, ⟨none, .no⟩] ⟨[(2, .one (.ptr 0 0)), (3, .one (.ptr 1 0)), (10, .one (.dat .bool (!y1)))], [(1, .box [.dat (.sl (.int .i64)) a1.1, .dat (.sl (.int .i64)) a1.2]), (0, .box [.dat (.sl (.int .i64)) a0.1, .dat (.sl (.int .i64)) a0.2])], 2⟩ hP hN (by kernel_rfl) (allCons (f46_ok hc2) allNil) ?_
  rcases of_bif hr with ⟨hb3, hr⟩ | ⟨hb3, hr⟩
  · refine HT.cond1 rfl hb3 ?_
    refine HT.reg1 [4] [⟨none, .no⟩] ⟨[(4, .one (.dat .bool false))], [(1, .box [.dat (.sl (.int .i64)) a1.1, .dat (.sl (.int .i64)) a1.2]), (0, .box [.dat (.sl (.int .i64)) a0.1, .dat (.sl (.int .i64)) a0.2])], 2⟩ hP hN (by kernel_rfl) allNil ?_
    have hr := of_some hr
    subst hr
    exact HT.ret (qThenR ⟨[.one (.dat .bool false)], [], [], by kernel_rfl, by kernel_rfl, rfl, (.inl rfl), by kernel_rfl, trivial⟩)
  · refine HT.cond0 rfl hb3 ?_
    refine HT.skip (qThen ?_)
    refine HT.seq ?_
    obtain ⟨y4, hc5, hr⟩ := of_bind hr
    refine HT.reg1 [16] [⟨none, .no⟩, ⟨none, .no⟩, ⟨none, .no⟩, ⟨none, .no⟩, ⟨none, .call [.imm (.sl (.int .i64)), .imm (.sl (.int .i64))] [⟨false, .bool, y4⟩] []⟩, ⟨none, .no⟩] ⟨[(16, .one (.dat .bool (!y4)))], [(1, .box [.dat (.sl (.int .i64)) a1.1, .dat (.sl (.int .i64)) a1.2]), (0, .box [.dat (.sl (.int .i64)) a0.1, .dat (.sl (.int .i64)) a0.2])], 2⟩ hP hN (by kernel_rfl) (allCons (f46_ok hc5) allNil) ?_
    rcases of_bif hr with ⟨hb6, hr⟩ | ⟨hb6, hr⟩
    · refine HT.cond1 rfl hb6 ?_
      refine HT.reg1 [4] [⟨none, .no⟩] ⟨[(4, .one (.dat .bool false))], [(1, .box [.dat (.sl (.int .i64)) a1.1, .dat (.sl (.int .i64)) a1.2]), (0, .box [.dat (.sl (.int .i64)) a0.1, .dat (.sl (.int .i64)) a0.2])], 2⟩ hP hN (by kernel_rfl) allNil ?_
      have hr := of_some hr
      subst hr
      exact HT.ret (qThenR ⟨[.one (.dat .bool false)], [], [], by kernel_rfl, by kernel_rfl, rfl, (.inl rfl), by kernel_rfl, trivial⟩)
    · refine HT.cond0 rfl hb6 ?_
      refine HT.skip (qThen ?_)
      refine HT.reg1 [4] [⟨none, .no⟩] ⟨[(4, .one (.dat .bool true))], [(1, .box [.dat (.sl (.int .i64)) a1.1, .dat (.sl (.int .i64)) a1.2]), (0, .box [.dat (.sl (.int .i64)) a0.1, .dat (.sl (.int .i64)) a0.2])], 2⟩ hP hN (by kernel_rfl) allNil ?_
      have hr := of_some hr
      subst hr
      exact HT.ret ⟨[.one (.dat .bool true)], [], [], by kernel_rfl, by kernel_rfl, rfl, (.inl rfl), by kernel_rfl, trivial⟩

noncomputable def laws_markInt64S_B1  (s1 : Int × Int × List Int) : Option ((Int × Int × List Int) ⊕ ((Int × List Int))) :=
  bif (decide (s1.2.1 < (lenI s1.2.2))) then
    guardP ((0 : Int) ≤ s1.2.1 ∧ s1.2.1 < lenI s1.2.2) (
      some (.inl ((wadd .i64 s1.1 (1 : Int)), (wadd .i64 s1.2.1 (1 : Int)), (List.set s1.2.2 (Int.toNat s1.2.1) s1.1))))
  else
    some (.inr (s1.1, s1.2.2))

noncomputable def laws_markInt64S (a0 : List Int) (a1 : Int) : Option (Int × List Int) :=
  (rounds (laws_markInt64S_B1) (a1, (0 : Int), a0)).bind fun r3 =>
  guardP (List.length r3.2 = List.length a0) (
    some (r3.1, r3.2))

theorem f47_ok {a0 : List Int} {a1 : Int} {r : Int × List Int} (hr : laws_markInt64S a0 a1 = some r) : CallOK Try.prog 47 [.own (.sl (.int .i64)) a0, .imm (.int .i64) a1] [⟨false, (.int .i64), r.1⟩] [⟨(.sl (.int .i64)), r.2⟩] := by
  unfold laws_markInt64S at hr
  refine CallOK.of_body (ts := [(false, (.int .i64))]) Try.func47 rfl (by kernel_rfl) (Nat.le_of_ble_eq_true (by kernel_rfl)) fun cx hP hN hO hF => ?_
  have hO : cx.own.map Prod.fst = [0] := hO
  show HT cx ⟨[(0, .one (.all 0)), (1, .one (.dat (.int .i64) a1))], [(0, .seq (.int .i64) a0)], 1⟩ _ _
  refine HT.reg1 [0, 1] [⟨none, .no⟩] ⟨[(0, .one (.all 0)), (1, .one (.dat (.int .i64) a1))], [(0, .seq (.int .i64) a0)], 1⟩ hP hN (by kernel_rfl) allNil ?_
  refine HT.seq ?_
  refine HT.reg1 [0, 1, 5] [⟨none, .no⟩] ⟨[(0, .one (.all 0)), (1, .one (.dat (.int .i64) a1)), (5, .one (.dat (.int .i64) (0 : Int)))], [(0, .seq (.int .i64) a0)], 1⟩ hP hN (by kernel_rfl) allNil ?_
  refine HT.block ?_
  obtain ⟨r2, hL10, hr⟩ := of_bind hr
  refine (Le.cv (s := ⟨[(0, 0)], [], [], false⟩) (own := [0]) (ps := [a1 = a1, (0 : Int) = (0 : Int), a0 = a0]) (st' := ⟨[(0, .one (.all 0)), (1, .one (.dat (.int .i64) a1)), (5, .one (.dat (.int .i64) (0 : Int)))], [(0, .seq (.int .i64) a0)], 1⟩) hO (fun h => by cases h) (by kernel_rfl) ⟨rfl, rfl, rfl, trivial⟩).ht ?_
  refine HT.loopE (s := (a1, (0 : Int), a0)) (fun (s1 : Int × Int × List Int) => ⟨[(0, .one (.all 0)), (1, .one (.dat (.int .i64) s1.1)), (5, .one (.dat (.int .i64) s1.2.1))], [(0, .seq (.int .i64) s1.2.2)], 1⟩) (fun (r3 : (Int × List Int)) => (.exit 0, ⟨[(1, .one (.dat (.int .i64) r3.1))], [(0, .seq (.int .i64) r3.2)], 1⟩)) hL10 ?_ (fun s1 x5 hx6 hk7 => ?_)
  · refine (qBlockX (qThen ?_))
    refine HT.reg1 [4] [⟨none, .no⟩, ⟨none, .no⟩] ⟨[(4, .one (.dat (.int .i64) r2.1))], [(0, .seq (.int .i64) r2.2)], 1⟩ hP hN (by kernel_rfl) allNil ?_
    obtain ⟨hg4, hr⟩ := of_guard hr
    have hr := of_some hr
    subst hr
    exact HT.ret ⟨[.one (.dat (.int .i64) r2.1)], [], [List.length r2.2 = List.length a0], by kernel_rfl, by kernel_rfl, rfl, (.inr rfl), by kernel_rfl, ⟨hg4, trivial⟩⟩
  · refine HT.seq ?_
    refine HT.reg1 [0, 1, 5, 9] [⟨none, .no⟩, ⟨none, .no⟩, ⟨none, .no⟩, ⟨none, .no⟩] ⟨[(0, .one (.all 0)), (1, .one (.dat (.int .i64) s1.1)), (5, .one (.dat (.int .i64) s1.2.1)), (9, .one (.dat .bool (decide (s1.2.1 < (lenI s1.2.2)))))], [(0, .seq (.int .i64) s1.2.2)], 1⟩ hP hN (by kernel_rfl) allNil ?_
    rcases of_bif hx6 with ⟨hb8, hx6⟩ | ⟨hb8, hx6⟩
    · refine HT.cond1 rfl hb8 ?_
      refine HT.skip (qThen ?_)
      refine HT.seq ?_
      refine HT.block ?_
      obtain ⟨hg9, hx6⟩ := of_guard hx6
      refine HT.reg1 [0, 1, 5] [⟨none, .no⟩, ⟨none, .no⟩, ⟨none, .no⟩, ⟨none, .no⟩, ⟨none, .no⟩] ⟨[(0, .one (.all 0)), (1, .one (.dat (.int .i64) s1.1)), (5, .one (.dat (.int .i64) s1.2.1))], [(0, .seq (.int .i64) (List.set s1.2.2 (Int.toNat s1.2.1) s1.1)), (0, .seq (.int .i64) s1.2.2)], 1⟩ hP hN (by kernel_rfl) (allCons hg9 (allCons (natLt hg9) allNil)) ?_
      refine HT.reg (rs := [⟨none, .no⟩, ⟨none, .no⟩, ⟨none, .no⟩]) (st' := ⟨[(1, .one (.dat (.int .i64) (wadd .i64 s1.1 (1 : Int)))), (17, .one (.dat (.int .i64) (wadd .i64 s1.1 (1 : Int)))), (16, .one (.dat (.int .i64) s1.1)), (0, .one (.all 0)), (1, .one (.dat (.int .i64) s1.1)), (5, .one (.dat (.int .i64) s1.2.1))], [(0, .seq (.int .i64) (List.set s1.2.2 (Int.toNat s1.2.1) s1.1)), (0, .seq (.int .i64) s1.2.2)], 1⟩) hP hN (by kernel_rfl) allNil (qBlock (qThen ?_))
      have hx6 := of_some hx6
      subst hx6
      refine HT.reg (rs := [⟨none, .no⟩, ⟨none, .no⟩, ⟨none, .no⟩]) (st' := ⟨[(5, .one (.dat (.int .i64) (wadd .i64 s1.2.1 (1 : Int)))), (11, .one (.dat (.int .i64) (wadd .i64 s1.2.1 (1 : Int)))), (10, .one (.dat (.int .i64) s1.2.1)), (1, .one (.dat (.int .i64) (wadd .i64 s1.1 (1 : Int)))), (17, .one (.dat (.int .i64) (wadd .i64 s1.1 (1 : Int)))), (16, .one (.dat (.int .i64) s1.1)), (0, .one (.all 0)), (1, .one (.dat (.int .i64) s1.1)), (5, .one (.dat (.int .i64) s1.2.1))], [(0, .seq (.int .i64) (List.set s1.2.2 (Int.toNat s1.2.1) s1.1)), (0, .seq (.int .i64) s1.2.2)], 1⟩) hP hN (by kernel_rfl) allNil (qLoopN ⟨((wadd .i64 s1.1 (1 : Int)), (wadd .i64 s1.2.1 (1 : Int)), (List.set s1.2.2 (Int.toNat s1.2.1) s1.1)), rfl, Le.cv (s := ⟨[(0, 0)], [], [], false⟩) (own := [0]) (ps := [(wadd .i64 s1.1 (1 : Int)) = (wadd .i64 s1.1 (1 : Int)), (wadd .i64 s1.2.1 (1 : Int)) = (wadd .i64 s1.2.1 (1 : Int)), (List.set s1.2.2 (Int.toNat s1.2.1) s1.1) = (List.set s1.2.2 (Int.toNat s1.2.1) s1.1)]) (st' := ⟨[(0, .one (.all 0)), (1, .one (.dat (.int .i64) (wadd .i64 s1.1 (1 : Int)))), (5, .one (.dat (.int .i64) (wadd .i64 s1.2.1 (1 : Int))))], [(0, .seq (.int .i64) (List.set s1.2.2 (Int.toNat s1.2.1) s1.1))], 1⟩) hO (fun h => by cases h) (by kernel_rfl) ⟨rfl, rfl, rfl, trivial⟩⟩)
    · refine HT.cond0 rfl hb8 ?_
      have hx6 := of_some hx6
      subst hx6
      refine (Le.cv (s := ⟨[(0, 0)], [], [], false⟩) (own := [0]) (ps := [s1.1 = s1.1, s1.2.2 = s1.2.2]) (st' := ⟨[(1, .one (.dat (.int .i64) s1.1))], [(0, .seq (.int .i64) s1.2.2)], 1⟩) hO (fun h => by cases h) (by kernel_rfl) ⟨rfl, rfl, trivial⟩).ht ?_
      exact HT.exit (qThenE (qLoopE (hk7 (s1.1, s1.2.2) rfl)))

noncomputable def laws_markLoop (a0 : List Int × List Int) (a1 : Int) : Option (Int × (List Int × List Int)) :=
  (laws_markInt64S a0.1 a1).bind fun y1 =>
  (laws_markInt64S a0.2 y1.1).bind fun y3 =>
  guardP (List.length y1.2 = List.length a0.1) (
    guardP (List.length y3.2 = List.length a0.2) (
      some (y3.1, y1.2, y3.2)))

theorem f14_ok {a0 : List Int × List Int} {a1 : Int} {r : Int × (List Int × List Int)} (hr : laws_markLoop a0 a1 = some r) : CallOK Try.prog 14 [.own (.st (.pair (.sl (.int .i64)) (.sl (.int .i64)))) a0, .imm (.int .i64) a1] [⟨false, (.int .i64), r.1⟩] [⟨(.st (.pair (.sl (.int .i64)) (.sl (.int .i64)))), r.2⟩] := by
  unfold laws_markLoop at hr
  refine CallOK.of_body (ts := [(false, (.int .i64))]) Try.func14 rfl (by kernel_rfl) (Nat.le_of_ble_eq_true (by kernel_rfl)) fun cx hP hN hO hF => ?_
  have hO : cx.own.map Prod.fst = [0, 1] := hO
  show HT cx ⟨[(0, .agg [.all 0, .all 1]), (1, .one (.dat (.int .i64) a1))], [(0, .seq (.int .i64) a0.1), (1, .seq (.int .i64) a0.2)], 2⟩ _ _
  refine HT.reg1 [1, 2] [⟨none, .no⟩, ⟨none, .no⟩] ⟨[(1, .one (.dat (.int .i64) a1)), (2, .one (.ptr 2 0))], [(2, .box [.all 0, .all 1]), (0, .seq (.int .i64) a0.1), (1, .seq (.int .i64) a0.2)], 3⟩ hP hN (by kernel_rfl) allNil ?_
  obtain ⟨y1, hc2, hr⟩ := of_bind hr
  refine HT.reg1 [1, 2] [⟨none, .no⟩, ⟨none, .no⟩, ⟨none, .no⟩, ⟨none, .call [.own (.sl (.int .i64)), .imm (.int .i64)] [⟨false, (.int .i64), y1.1⟩] [⟨(.sl (.int .i64)), y1.2⟩]⟩, ⟨none, .no⟩] ⟨[(1, .one (.dat (.int .i64) y1.1)), (2, .one (.ptr 2 0))], [(0, .seq (.int .i64) y1.2), (2, .box [.all 0, .all 1]), (0, .seq (.int .i64) a0.1), (1, .seq (.int .i64) a0.2)], 3⟩ hP hN (by kernel_rfl) (allCons (f47_ok hc2) allNil) ?_
  obtain ⟨y3, hc4, hr⟩ := of_bind hr
  refine HT.reg1 [1] [⟨none, .no⟩, ⟨none, .no⟩, ⟨none, .no⟩, ⟨none, .call [.own (.sl (.int .i64)), .imm (.int .i64)] [⟨false, (.int .i64), y3.1⟩] [⟨(.sl (.int .i64)), y3.2⟩]⟩, ⟨none, .no⟩] ⟨[(1, .one (.dat (.int .i64) y3.1))], [(1, .seq (.int .i64) y3.2), (0, .seq (.int .i64) y1.2), (2, .box [.all 0, .all 1]), (0, .seq (.int .i64) a0.1), (1, .seq (.int .i64) a0.2)], 3⟩ hP hN (by kernel_rfl) (allCons (f47_ok hc4) allNil) ?_
  refine HT.reg1 [4] [⟨none, .no⟩, ⟨none, .no⟩] ⟨[(4, .one (.dat (.int .i64) y3.1))], [(1, .seq (.int .i64) y3.2), (0, .seq (.int .i64) y1.2), (2, .box [.all 0, .all 1]), (0, .seq (.int .i64) a0.1), (1, .seq (.int .i64) a0.2)], 3⟩ hP hN (by kernel_rfl) allNil ?_
  obtain ⟨hg5, hr⟩ := of_guard hr
  obtain ⟨hg6, hr⟩ := of_guard hr
  have hr := of_some hr
  subst hr
  exact HT.ret ⟨[.one (.dat (.int .i64) y3.1)], [], [List.length y1.2 = List.length a0.1, List.length y3.2 = List.length a0.2], by kernel_rfl, by kernel_rfl, rfl, (.inr rfl), by kernel_rfl, ⟨hg5, hg6, trivial⟩⟩

noncomputable def laws_heldInt64S_B1 (a0 : List Int) (s1 : Int × Int) : Option ((Int × Int) ⊕ (Int ⊕ Unit)) :=
  bif (decide (s1.2 < (lenI a0))) then
    guardP ((0 : Int) ≤ s1.2 ∧ s1.2 < lenI a0) (
      bif ((List.getD a0 (Int.toNat s1.2) (0 : Int)) != s1.1) then
        some (.inr (.inr ()))
      else
        some (.inl ((wadd .i64 s1.1 (1 : Int)), (wadd .i64 s1.2 (1 : Int)))))
  else
    some (.inr (.inl s1.1))

noncomputable def laws_heldInt64S (a0 : List Int) (a1 : Int) : Option (Int) :=
  (rounds (laws_heldInt64S_B1 a0) (a1, (0 : Int))).bind fun r2 => match r2 with
    | .inl r3 =>
      some r3
    | .inr r4 =>
      some (-1 : Int)

theorem f48_ok {a0 : List Int} {a1 : Int} {r : Int} (hr : laws_heldInt64S a0 a1 = some r) : CallOK Try.prog 48 [.imm (.sl (.int .i64)) a0, .imm (.int .i64) a1] [⟨false, (.int .i64), r⟩] [] := by
  unfold laws_heldInt64S at hr
  refine CallOK.of_body (ts := [(false, (.int .i64))]) Try.func48 rfl (by kernel_rfl) (Nat.le_of_ble_eq_true (by kernel_rfl)) fun cx hP hN hO hF => ?_
  have hO : cx.own.map Prod.fst = [] := hO
  show HT cx ⟨[(0, .one (.dat (.sl (.int .i64)) a0)), (1, .one (.dat (.int .i64) a1))], [], 0⟩ _ _
  refine HT.reg1 [0, 1] [⟨none, .no⟩] ⟨[(0, .one (.dat (.sl (.int .i64)) a0)), (1, .one (.dat (.int .i64) a1))], [], 0⟩ hP hN (by kernel_rfl) allNil ?_
  refine HT.seq ?_
  refine HT.reg1 [0, 1, 5] [⟨none, .no⟩] ⟨[(0, .one (.dat (.sl (.int .i64)) a0)), (1, .one (.dat (.int .i64) a1)), (5, .one (.dat (.int .i64) (0 : Int)))], [], 0⟩ hP hN (by kernel_rfl) allNil ?_
  refine HT.block ?_
  obtain ⟨r2, hL11, hr⟩ := of_bind hr
  refine (Le.cv (s := ⟨[], [], [], false⟩) (own := []) (ps := [a0 = a0, a1 = a1, (0 : Int) = (0 : Int)]) (st' := ⟨[(0, .one (.dat (.sl (.int .i64)) a0)), (1, .one (.dat (.int .i64) a1)), (5, .one (.dat (.int .i64) (0 : Int)))], [], 0⟩) hO (fun h => by cases h) (by kernel_rfl) ⟨rfl, rfl, rfl, trivial⟩).ht ?_
  refine HT.loopE (s := (a1, (0 : Int))) (fun (s1 : Int × Int) => ⟨[(0, .one (.dat (.sl (.int .i64)) a0)), (1, .one (.dat (.int .i64) s1.1)), (5, .one (.dat (.int .i64) s1.2))], [], 0⟩) (fun (r2 : Int ⊕ Unit) => match r2 with | .inl r3 => (.exit 0, ⟨[(1, .one (.dat (.int .i64) r3))], [], 0⟩) | .inr r4 => (.ret, ⟨[(4, .one (.dat (.int .i64) (-1 : Int)))], [], 0⟩)) hL11 ?_ (fun s1 x5 hx6 hk7 => ?_)
  · rcases r2 with r3 | r4
    · refine (qBlockX (qThen ?_))
      refine HT.reg1 [4] [⟨none, .no⟩, ⟨none, .no⟩] ⟨[(4, .one (.dat (.int .i64) r3))], [], 0⟩ hP hN (by kernel_rfl) allNil ?_
      have hr := of_some hr
      subst hr
      exact HT.ret ⟨[.one (.dat (.int .i64) r3)], [], [], by kernel_rfl, by kernel_rfl, rfl, (.inl rfl), by kernel_rfl, trivial⟩
    · have hr := of_some hr
      subst hr
      exact (qBlockR (qThenR ⟨[.one (.dat (.int .i64) (-1 : Int))], [], [], by kernel_rfl, by kernel_rfl, rfl, (.inl rfl), by kernel_rfl, trivial⟩))
  · refine HT.seq ?_
    refine HT.reg1 [0, 1, 5, 9] [⟨none, .no⟩, ⟨none, .no⟩, ⟨none, .no⟩, ⟨none, .no⟩] ⟨[(0, .one (.dat (.sl (.int .i64)) a0)), (1, .one (.dat (.int .i64) s1.1)), (5, .one (.dat (.int .i64) s1.2)), (9, .one (.dat .bool (decide (s1.2 < (lenI a0)))))], [], 0⟩ hP hN (by kernel_rfl) allNil ?_
    rcases of_bif hx6 with ⟨hb8, hx6⟩ | ⟨hb8, hx6⟩
    · refine HT.cond1 rfl hb8 ?_
      refine HT.skip (qThen ?_)
      refine HT.seq ?_
      refine HT.block ?_
      refine HT.seq ?_
      obtain ⟨hg9, hx6⟩ := of_guard hx6
      refine HT.reg1 [0, 1, 5, 17] [⟨none, .no⟩, ⟨none, .no⟩, ⟨none, .no⟩, ⟨none, .no⟩, ⟨none, .no⟩, ⟨none, .no⟩] ⟨[(0, .one (.dat (.sl (.int .i64)) a0)), (1, .one (.dat (.int .i64) s1.1)), (5, .one (.dat (.int .i64) s1.2)), (17, .one (.dat .bool ((List.getD a0 (Int.toNat s1.2) (0 : Int)) != s1.1)))], [], 0⟩ hP hN (by kernel_rfl) (allCons hg9 allNil) ?_
      rcases of_bif hx6 with ⟨hb10, hx6⟩ | ⟨hb10, hx6⟩
      · refine HT.cond1 rfl hb10 ?_
        refine HT.reg1 [4] [⟨none, .no⟩] ⟨[(4, .one (.dat (.int .i64) (-1 : Int)))], [], 0⟩ hP hN (by kernel_rfl) allNil ?_
        have hx6 := of_some hx6
        subst hx6
        refine (Le.cv (s := ⟨[], [], [], false⟩) (own := []) (ps := [(-1 : Int) = (-1 : Int)]) (st' := ⟨[(4, .one (.dat (.int .i64) (-1 : Int)))], [], 0⟩) hO (fun h => by cases h) (by kernel_rfl) ⟨rfl, trivial⟩).ht ?_
        exact HT.ret (qThenR (qBlockR (qThenR (qLoopR (hk7 (.inr ()) rfl)))))
      · refine HT.cond0 rfl hb10 ?_
        refine HT.skip (qThen ?_)
        refine HT.reg (rs := [⟨none, .no⟩, ⟨none, .no⟩, ⟨none, .no⟩]) (st' := ⟨[(1, .one (.dat (.int .i64) (wadd .i64 s1.1 (1 : Int)))), (19, .one (.dat (.int .i64) (wadd .i64 s1.1 (1 : Int)))), (18, .one (.dat (.int .i64) s1.1)), (0, .one (.dat (.sl (.int .i64)) a0)), (1, .one (.dat (.int .i64) s1.1)), (5, .one (.dat (.int .i64) s1.2)), (17, .one (.dat .bool ((List.getD a0 (Int.toNat s1.2) (0 : Int)) != s1.1)))], [], 0⟩) hP hN (by kernel_rfl) allNil (qBlock (qThen ?_))
        have hx6 := of_some hx6
        subst hx6
        refine HT.reg (rs := [⟨none, .no⟩, ⟨none, .no⟩, ⟨none, .no⟩]) (st' := ⟨[(5, .one (.dat (.int .i64) (wadd .i64 s1.2 (1 : Int)))), (11, .one (.dat (.int .i64) (wadd .i64 s1.2 (1 : Int)))), (10, .one (.dat (.int .i64) s1.2)), (1, .one (.dat (.int .i64) (wadd .i64 s1.1 (1 : Int)))), (19, .one (.dat (.int .i64) (wadd .i64 s1.1 (1 : Int)))), (18, .one (.dat (.int .i64) s1.1)), (0, .one (.dat (.sl (.int .i64)) a0)), (1, .one (.dat (.int .i64) s1.1)), (5, .one (.dat (.int .i64) s1.2)), (17, .one (.dat .bool ((List.getD a0 (Int.toNat s1.2) (0 : Int)) != s1.1)))], [], 0⟩) hP hN (by kernel_rfl) allNil (qLoopN ⟨((wadd .i64 s1.1 (1 : Int)), (wadd .i64 s1.2 (1 : Int))), rfl, Le.cv (s := ⟨[], [], [], false⟩) (own := []) (ps := [a0 = a0, (wadd .i64 s1.1 (1 : Int)) = (wadd .i64 s1.1 (1 : Int)), (wadd .i64 s1.2 (1 : Int)) = (wadd .i64 s1.2 (1 : Int))]) (st' := ⟨[(0, .one (.dat (.sl (.int .i64)) a0)), (1, .one (.dat (.int .i64) (wadd .i64 s1.1 (1 : Int)))), (5, .one (.dat (.int .i64) (wadd .i64 s1.2 (1 : Int))))], [], 0⟩) hO (fun h => by cases h) (by kernel_rfl) ⟨rfl, rfl, rfl, trivial⟩⟩)
    · refine HT.cond0 rfl hb8 ?_
      have hx6 := of_some hx6
      subst hx6
      refine (Le.cv (s := ⟨[], [], [], false⟩) (own := []) (ps := [s1.1 = s1.1]) (st' := ⟨[(1, .one (.dat (.int .i64) s1.1))], [], 0⟩) hO (fun h => by cases h) (by kernel_rfl) ⟨rfl, trivial⟩).ht ?_
      exact HT.exit (qThenE (qLoopE (hk7 (.inl s1.1) rfl)))

noncomputable def laws_heldLoop (a0 : List Int × List Int) (a1 : Int) : Option (Int) :=
  (laws_heldInt64S a0.1 a1).bind fun y1 =>
  bif (decide (y1 < (0 : Int))) then
    some (-1 : Int)
  else
    (laws_heldInt64S a0.2 y1).bind fun y4 =>
    bif (decide (y4 < (0 : Int))) then
      some (-1 : Int)
    else
      some y4

theorem f15_ok {a0 : List Int × List Int} {a1 : Int} {r : Int} (hr : laws_heldLoop a0 a1 = some r) : CallOK Try.prog 15 [.imm (.st (.pair (.sl (.int .i64)) (.sl (.int .i64)))) a0, .imm (.int .i64) a1] [⟨false, (.int .i64), r⟩] [] := by
  unfold laws_heldLoop at hr
  refine CallOK.of_body (ts := [(false, (.int .i64))]) Try.func15 rfl (by kernel_rfl) (Nat.le_of_ble_eq_true (by kernel_rfl)) fun cx hP hN hO hF => ?_
  have hO : cx.own.map Prod.fst = [] := hO
  show HT cx ⟨[(0, .agg [.dat (.sl (.int .i64)) a0.1, .dat (.sl (.int .i64)) a0.2]), (1, .one (.dat (.int .i64) a1))], [], 0⟩ _ _
  refine HT.reg1 [1, 2] [⟨none, .no⟩, ⟨none, .no⟩] ⟨[(1, .one (.dat (.int .i64) a1)), (2, .one (.ptr 0 0))], [(0, .box [.dat (.sl (.int .i64)) a0.1, .dat (.sl (.int .i64)) a0.2])], 1⟩ hP hN (by kernel_rfl) allNil ?_
  obtain ⟨y1, hc2, hr⟩ := of_bind hr
  refine HT.reg1 [1, 2] [⟨none, .no⟩, ⟨none, .no⟩, ⟨none, .no⟩, ⟨none, .call [.imm (.sl (.int .i64)), .imm (.int .i64)] [⟨false, (.int .i64), y1⟩] []⟩, ⟨none, .no⟩] ⟨[(1, .one (.dat (.int .i64) y1)), (2, .one (.ptr 0 0))], [(0, .box [.dat (.sl (.int .i64)) a0.1, .dat (.sl (.int .i64)) a0.2])], 1⟩ hP hN (by kernel_rfl) (allCons (f48_ok hc2) allNil) ?_
  refine HT.seq ?_
  refine HT.reg1 [1, 2, 10] [⟨none, .no⟩, ⟨none, .no⟩] ⟨[(1, .one (.dat (.int .i64) y1)), (2, .one (.ptr 0 0)), (10, .one (.dat .bool (decide (y1 < (0 : Int)))))], [(0, .box [.dat (.sl (.int .i64)) a0.1, .dat (.sl (.int .i64)) a0.2])], 1⟩ hP hN (by kernel_rfl) allNil ?_
  rcases of_bif hr with ⟨hb3, hr⟩ | ⟨hb3, hr⟩
  · refine HT.cond1 rfl hb3 ?_
    refine HT.reg1 [4] [⟨none, .no⟩] ⟨[(4, .one (.dat (.int .i64) (-1 : Int)))], [(0, .box [.dat (.sl (.int .i64)) a0.1, .dat (.sl (.int .i64)) a0.2])], 1⟩ hP hN (by kernel_rfl) allNil ?_
    have hr := of_some hr
    subst hr
    exact HT.ret (qThenR ⟨[.one (.dat (.int .i64) (-1 : Int))], [], [], by kernel_rfl, by kernel_rfl, rfl, (.inl rfl), by kernel_rfl, trivial⟩)
  · refine HT.cond0 rfl hb3 ?_
    refine HT.skip (qThen ?_)
    obtain ⟨y4, hc5, hr⟩ := of_bind hr
    refine HT.reg1 [1] [⟨none, .no⟩, ⟨none, .no⟩, ⟨none, .no⟩, ⟨none, .call [.imm (.sl (.int .i64)), .imm (.int .i64)] [⟨false, (.int .i64), y4⟩] []⟩, ⟨none, .no⟩] ⟨[(1, .one (.dat (.int .i64) y4))], [(0, .box [.dat (.sl (.int .i64)) a0.1, .dat (.sl (.int .i64)) a0.2])], 1⟩ hP hN (by kernel_rfl) (allCons (f48_ok hc5) allNil) ?_
    refine HT.seq ?_
    refine HT.reg1 [1, 16] [⟨none, .no⟩, ⟨none, .no⟩] ⟨[(1, .one (.dat (.int .i64) y4)), (16, .one (.dat .bool (decide (y4 < (0 : Int)))))], [(0, .box [.dat (.sl (.int .i64)) a0.1, .dat (.sl (.int .i64)) a0.2])], 1⟩ hP hN (by kernel_rfl) allNil ?_
    rcases of_bif hr with ⟨hb6, hr⟩ | ⟨hb6, hr⟩
    · refine HT.cond1 rfl hb6 ?_
      refine HT.reg1 [4] [⟨none, .no⟩] ⟨[(4, .one (.dat (.int .i64) (-1 : Int)))], [(0, .box [.dat (.sl (.int .i64)) a0.1, .dat (.sl (.int .i64)) a0.2])], 1⟩ hP hN (by kernel_rfl) allNil ?_
      have hr := of_some hr
      subst hr
      exact HT.ret (qThenR ⟨[.one (.dat (.int .i64) (-1 : Int))], [], [], by kernel_rfl, by kernel_rfl, rfl, (.inl rfl), by kernel_rfl, trivial⟩)
    · refine HT.cond0 rfl hb6 ?_
      refine HT.skip (qThen ?_)
      refine HT.reg1 [4] [⟨none, .no⟩, ⟨none, .no⟩] ⟨[(4, .one (.dat (.int .i64) y4))], [(0, .box [.dat (.sl (.int .i64)) a0.1, .dat (.sl (.int .i64)) a0.2])], 1⟩ hP hN (by kernel_rfl) allNil ?_
      have hr := of_some hr
      subst hr
      exact HT.ret ⟨[.one (.dat (.int .i64) y4)], [], [], by kernel_rfl, by kernel_rfl, rfl, (.inl rfl), by kernel_rfl, trivial⟩

end Go.Proofs
