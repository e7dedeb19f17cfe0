import Derived.Test.YthkikckjkhnmlaaLaterZoneGenA
import Derived.Test.YthkikckjkhnmlaaProg
set_option linter.unusedVariables false
set_option linter.unusedSimpArgs false
/-
  Functions as plain functions, and their contracts. Printed by a program.
-/
namespace Go.Proofs
open Go.Ide

noncomputable def impl_LaterZone_B1 (y1 : (Int × List Int) × Bool) (s4 : Int × List Int) : Option ((Int × List Int) ⊕ (List Int)) :=
  bif (decide (s4.1 ≤ y1.1.1)) then
    (impl_Zone_at (y1.1.1, s4.2) s4.1 (0 : Int)).bind fun y11 =>
    guardP ((0 : Int) ≤ y11 ∧ y11 < lenI s4.2) (
      some (.inl ((wadd .i64 s4.1 (1 : Int)), (List.set s4.2 (Int.toNat y11) (1000000000 : Int)))))
  else
    some (.inr s4.2)

noncomputable def impl_LaterZone (a0 : Int × List Int) : Option ((Int × List Int) × Bool) :=
  (impl_TightZone (a0.1, a0.2)).bind fun y1 =>
  bif (!y1.2) then
    some (((0 : Int), ([] : List Int)), false)
  else
    (rounds (impl_LaterZone_B1 y1) ((1 : Int), y1.1.2)).bind fun r6 =>
    some ((y1.1.1, r6), true)

theorem f24_ok {a0 : Int × List Int} {r : (Int × List Int) × Bool} (hr : impl_LaterZone a0 = some r) : CallOK Try.prog 24 [.imm (.st (.pair (.int .i64) (.sl (.int .i64)))) a0] [⟨true, (.st (.pair (.int .i64) (.sl (.int .i64)))), r.1⟩, ⟨false, .bool, r.2⟩] [] := by
  unfold impl_LaterZone at hr
  refine CallOK.of_body (ts := [(true, (.st (.pair (.int .i64) (.sl (.int .i64))))), (false, .bool)]) Try.func24 rfl (by kernel_rfl) (Nat.le_of_ble_eq_true (by kernel_rfl)) fun cx hP hN hO hF => ?_
  have hO : cx.own.map Prod.fst = [] := hO
  show HT cx ⟨[(0, .agg [.dat (.int .i64) a0.1, .dat (.sl (.int .i64)) a0.2])], [], 0⟩ _ _
  refine HT.reg1 [1, 2] [⟨none, .no⟩, ⟨none, .no⟩, ⟨none, .no⟩] ⟨[(1, .one (.ptr 0 0)), (2, .one (.ptr 1 0))], [(1, .box [.dat (.int .i64) (0 : Int), .nilS]), (0, .box [.dat (.int .i64) a0.1, .dat (.sl (.int .i64)) a0.2])], 2⟩ hP hN (by kernel_rfl) allNil ?_
  obtain ⟨y1, hc2, hr⟩ := of_bind hr
  refine HT.reg1 [2, 4, 5] [⟨none, .no⟩, ⟨none, .call [.imm (.st (.pair (.int .i64) (.sl (.int .i64))))] [⟨true, (.st (.pair (.int .i64) (.sl (.int .i64)))), y1.1⟩, ⟨false, .bool, y1.2⟩] []⟩, ⟨none, .no⟩, ⟨none, .no⟩, ⟨none, .no⟩, ⟨none, .no⟩, ⟨none, .no⟩, ⟨none, .no⟩] ⟨[(2, .one (.ptr 1 0)), (4, .one (.ptr 3 0)), (5, .one (.dat .bool y1.2))], [(3, .box [.dat (.int .i64) y1.1.1, .all 2]), (3, .box [.dat (.int .i64) (0 : Int), .nilS]), (2, .seq (.int .i64) y1.1.2), (1, .box [.dat (.int .i64) (0 : Int), .nilS]), (0, .box [.dat (.int .i64) a0.1, .dat (.sl (.int .i64)) a0.2])], 4⟩ hP hN (by kernel_rfl) (allCons (f53_ok hc2) allNil) ?_
  refine HT.seq ?_
  refine HT.reg1 [2, 4, 13] [⟨none, .no⟩, ⟨none, .no⟩] ⟨[(2, .one (.ptr 1 0)), (4, .one (.ptr 3 0)), (13, .one (.dat .bool (!y1.2)))], [(3, .box [.dat (.int .i64) y1.1.1, .all 2]), (3, .box [.dat (.int .i64) (0 : Int), .nilS]), (2, .seq (.int .i64) y1.1.2), (1, .box [.dat (.int .i64) (0 : Int), .nilS]), (0, .box [.dat (.int .i64) a0.1, .dat (.sl (.int .i64)) a0.2])], 4⟩ hP hN (by kernel_rfl) allNil ?_
  rcases of_bif hr with ⟨hb3, hr⟩ | ⟨hb3, hr⟩
  · refine HT.cond1 rfl hb3 ?_
    refine HT.reg1 [2, 3] [⟨none, .no⟩, ⟨none, .no⟩, ⟨none, .no⟩] ⟨[(2, .one (.ptr 1 0)), (3, .one (.dat .bool false))], [(1, .box [.dat (.int .i64) (0 : Int), .nilS]), (3, .box [.dat (.int .i64) y1.1.1, .all 2]), (3, .box [.dat (.int .i64) (0 : Int), .nilS]), (2, .seq (.int .i64) y1.1.2), (1, .box [.dat (.int .i64) (0 : Int), .nilS]), (0, .box [.dat (.int .i64) a0.1, .dat (.sl (.int .i64)) a0.2])], 4⟩ hP hN (by kernel_rfl) allNil ?_
    have hr := of_some hr
    subst hr
    exact HT.ret (qThenR ⟨[.agg [.dat (.int .i64) (0 : Int), .nilS], .one (.dat .bool false)], [], [], by kernel_rfl, by kernel_rfl, rfl, (.inl rfl), by kernel_rfl, trivial⟩)
  · refine HT.cond0 rfl hb3 ?_
    refine HT.skip (qThen ?_)
    refine HT.seq ?_
    refine HT.reg1 [2, 4, 6] [⟨none, .no⟩] ⟨[(2, .one (.ptr 1 0)), (4, .one (.ptr 3 0)), (6, .one (.dat (.int .i64) (1 : Int)))], [(3, .box [.dat (.int .i64) y1.1.1, .all 2]), (3, .box [.dat (.int .i64) (0 : Int), .nilS]), (2, .seq (.int .i64) y1.1.2), (1, .box [.dat (.int .i64) (0 : Int), .nilS]), (0, .box [.dat (.int .i64) a0.1, .dat (.sl (.int .i64)) a0.2])], 4⟩ hP hN (by kernel_rfl) allNil ?_
    refine HT.block ?_
    obtain ⟨r5, hL14, hr⟩ := of_bind hr
    refine (Le.cv (s := ⟨[(1, 0), (3, 1), (2, 2)], [], [], false⟩) (own := []) (ps := [(1 : Int) = (1 : Int), (0 : Int) = (0 : Int), y1.1.1 = y1.1.1, y1.1.2 = y1.1.2]) (st' := ⟨[(2, .one (.ptr 0 0)), (4, .one (.ptr 1 0)), (6, .one (.dat (.int .i64) (1 : Int)))], [(0, .box [.dat (.int .i64) (0 : Int), .nilS]), (1, .box [.dat (.int .i64) y1.1.1, .all 2]), (2, .seq (.int .i64) y1.1.2)], 3⟩) hO (fun h => by cases h) (by kernel_rfl) ⟨rfl, rfl, rfl, rfl, trivial⟩).ht ?_
    refine HT.loopE (s := ((1 : Int), y1.1.2)) (fun (s4 : Int × List Int) => ⟨[(2, .one (.ptr 0 0)), (4, .one (.ptr 1 0)), (6, .one (.dat (.int .i64) s4.1))], [(0, .box [.dat (.int .i64) (0 : Int), .nilS]), (1, .box [.dat (.int .i64) y1.1.1, .all 2]), (2, .seq (.int .i64) s4.2)], 3⟩) (fun (r6 : List Int) => (.exit 0, ⟨[(2, .one (.ptr 0 0)), (4, .one (.ptr 1 0))], [(0, .box [.dat (.int .i64) (0 : Int), .nilS]), (1, .box [.dat (.int .i64) y1.1.1, .all 2]), (2, .seq (.int .i64) r6)], 3⟩)) hL14 ?_ (fun s4 x7 hx8 hk9 => ?_)
    · refine (qBlockX (qThen ?_))
      refine HT.reg1 [2, 3] [⟨none, .no⟩, ⟨none, .no⟩, ⟨none, .no⟩] ⟨[(2, .one (.ptr 0 0)), (3, .one (.dat .bool true))], [(0, .box [.dat (.int .i64) y1.1.1, .all 2]), (0, .box [.dat (.int .i64) (0 : Int), .nilS]), (1, .box [.dat (.int .i64) y1.1.1, .all 2]), (2, .seq (.int .i64) r5)], 3⟩ hP hN (by kernel_rfl) allNil ?_
      have hr := of_some hr
      subst hr
      exact HT.ret ⟨[.agg [.dat (.int .i64) y1.1.1, .all 2], .one (.dat .bool true)], [2], [], by kernel_rfl, by kernel_rfl, rfl, (.inl rfl), by kernel_rfl, trivial⟩
    · refine HT.seq ?_
      refine HT.reg1 [2, 4, 6, 18] [⟨none, .no⟩, ⟨none, .no⟩, ⟨none, .no⟩, ⟨none, .no⟩] ⟨[(2, .one (.ptr 0 0)), (4, .one (.ptr 1 0)), (6, .one (.dat (.int .i64) s4.1)), (18, .one (.dat .bool (decide (s4.1 ≤ y1.1.1))))], [(0, .box [.dat (.int .i64) (0 : Int), .nilS]), (1, .box [.dat (.int .i64) y1.1.1, .all 2]), (2, .seq (.int .i64) s4.2)], 3⟩ hP hN (by kernel_rfl) allNil ?_
      rcases of_bif hx8 with ⟨hb10, hx8⟩ | ⟨hb10, hx8⟩
      · refine HT.cond1 rfl hb10 ?_
        refine HT.skip (qThen ?_)
        refine HT.seq ?_
        refine HT.block ?_
        obtain ⟨y11, hc12, hx8⟩ := of_bind hx8
        obtain ⟨hg13, hx8⟩ := of_guard hx8
        refine drawS (h := 5) (hrs := [⟨⟨none, .no⟩, []⟩, ⟨⟨none, .no⟩, [0]⟩, ⟨⟨none, .no⟩, []⟩, ⟨⟨none, .no⟩, []⟩, ⟨⟨none, .call [.imm (.st (.pair (.int .i64) (.sl (.int .i64)))), .imm (.int .i64), .imm (.int .i64)] [⟨false, (.int .i64), y11⟩] []⟩, [2, 3]⟩]) (tds := [[0, 1, 2, 3, 4], [0, 1, 2, 3, 4, 5]]) (rs := [⟨none, .no⟩, ⟨none, .no⟩]) (st' := ⟨[(26, .one (.elp 2 (Int.toNat y11) 1)), (25, .one (.dat (.int .i64) y11)), (24, .one (.dat (.int .i64) s4.1)), (23, .agg [.dat (.int .i64) y1.1.1, .all 2]), (22, .one (.all 2)), (21, .one (.ptr 1 1)), (2, .one (.ptr 0 0)), (4, .one (.ptr 1 0)), (6, .one (.dat (.int .i64) s4.1)), (18, .one (.dat .bool (decide (s4.1 ≤ y1.1.1))))], [(2, .seq (.int .i64) (List.set s4.2 (Int.toNat y11) (1000000000 : Int))), (0, .box [.dat (.int .i64) (0 : Int), .nilS]), (1, .box [.dat (.int .i64) y1.1.1, .all 2]), (2, .seq (.int .i64) s4.2)], 3⟩) hP hN (by kernel_rfl) (by kernel_rfl) (allCons (f55_ok hc12) (allCons hg13 (allCons (natLt hg13) allNil))) (qBlock (qThen ?_))
        have hx8 := of_some hx8
        subst hx8
        refine HT.reg (rs := [⟨none, .no⟩, ⟨none, .no⟩, ⟨none, .no⟩]) (st' := ⟨[(6, .one (.dat (.int .i64) (wadd .i64 s4.1 (1 : Int)))), (20, .one (.dat (.int .i64) (wadd .i64 s4.1 (1 : Int)))), (19, .one (.dat (.int .i64) s4.1)), (26, .one (.elp 2 (Int.toNat y11) 1)), (25, .one (.dat (.int .i64) y11)), (24, .one (.dat (.int .i64) s4.1)), (23, .agg [.dat (.int .i64) y1.1.1, .all 2]), (22, .one (.all 2)), (21, .one (.ptr 1 1)), (2, .one (.ptr 0 0)), (4, .one (.ptr 1 0)), (6, .one (.dat (.int .i64) s4.1)), (18, .one (.dat .bool (decide (s4.1 ≤ y1.1.1))))], [(2, .seq (.int .i64) (List.set s4.2 (Int.toNat y11) (1000000000 : Int))), (0, .box [.dat (.int .i64) (0 : Int), .nilS]), (1, .box [.dat (.int .i64) y1.1.1, .all 2]), (2, .seq (.int .i64) s4.2)], 3⟩) hP hN (by kernel_rfl) allNil (qLoopN ⟨((wadd .i64 s4.1 (1 : Int)), (List.set s4.2 (Int.toNat y11) (1000000000 : Int))), rfl, Le.cv (s := ⟨[(0, 0), (1, 1), (2, 2)], [], [], false⟩) (own := []) (ps := [(wadd .i64 s4.1 (1 : Int)) = (wadd .i64 s4.1 (1 : Int)), (0 : Int) = (0 : Int), y1.1.1 = y1.1.1, (List.set s4.2 (Int.toNat y11) (1000000000 : Int)) = (List.set s4.2 (Int.toNat y11) (1000000000 : Int))]) (st' := ⟨[(2, .one (.ptr 0 0)), (4, .one (.ptr 1 0)), (6, .one (.dat (.int .i64) (wadd .i64 s4.1 (1 : Int))))], [(0, .box [.dat (.int .i64) (0 : Int), .nilS]), (1, .box [.dat (.int .i64) y1.1.1, .all 2]), (2, .seq (.int .i64) (List.set s4.2 (Int.toNat y11) (1000000000 : Int)))], 3⟩) hO (fun h => by cases h) (by kernel_rfl) ⟨rfl, rfl, rfl, rfl, trivial⟩⟩)
      · refine HT.cond0 rfl hb10 ?_
        have hx8 := of_some hx8
        subst hx8
        refine (Le.cv (s := ⟨[(0, 0), (1, 1), (2, 2)], [], [], false⟩) (own := []) (ps := [(0 : Int) = (0 : Int), y1.1.1 = y1.1.1, s4.2 = s4.2]) (st' := ⟨[(2, .one (.ptr 0 0)), (4, .one (.ptr 1 0))], [(0, .box [.dat (.int .i64) (0 : Int), .nilS]), (1, .box [.dat (.int .i64) y1.1.1, .all 2]), (2, .seq (.int .i64) s4.2)], 3⟩) hO (fun h => by cases h) (by kernel_rfl) ⟨rfl, rfl, rfl, trivial⟩).ht ?_
        exact HT.exit (qThenE (qLoopE (hk9 s4.2 rfl)))

noncomputable def laws_eqInt64S_B1 (a0 : List Int) (a1 : List Int) (s2 : Int) : Option ((Int) ⊕ (Unit ⊕ Unit)) :=
  bif (decide (s2 < (lenI a0))) then
    guardP ((0 : Int) ≤ s2 ∧ s2 < lenI a0) (
      guardP ((0 : Int) ≤ s2 ∧ s2 < lenI a1) (
        bif ((List.getD a0 (Int.toNat s2) (0 : Int)) != (List.getD a1 (Int.toNat s2) (0 : Int))) then
          some (.inr (.inr ()))
        else
          some (.inl (wadd .i64 s2 (1 : Int)))))
  else
    some (.inr (.inl ()))

noncomputable def laws_eqInt64S (a0 : List Int) (a1 : List Int) : Option (Bool) :=
  bif ((lenI a0) != (lenI a1)) then
    some false
  else
    (rounds (laws_eqInt64S_B1 a0 a1) (0 : Int)).bind fun r3 => match r3 with
      | .inl r4 =>
        some true
      | .inr r5 =>
        some false

theorem f46_ok {a0 : List Int} {a1 : List Int} {r : Bool} (hr : laws_eqInt64S a0 a1 = some r) : CallOK Try.prog 46 [.imm (.sl (.int .i64)) a0, .imm (.sl (.int .i64)) a1] [⟨false, .bool, r⟩] [] := by
  unfold laws_eqInt64S at hr
  refine CallOK.of_body (ts := [(false, .bool)]) Try.func46 rfl (by kernel_rfl) (Nat.le_of_ble_eq_true (by kernel_rfl)) fun cx hP hN hO hF => ?_
  have hO : cx.own.map Prod.fst = [] := hO
  show HT cx ⟨[(0, .one (.dat (.sl (.int .i64)) a0)), (1, .one (.dat (.sl (.int .i64)) a1))], [], 0⟩ _ _
  refine HT.reg1 [0, 1] [⟨none, .no⟩] ⟨[(0, .one (.dat (.sl (.int .i64)) a0)), (1, .one (.dat (.sl (.int .i64)) a1))], [], 0⟩ hP hN (by kernel_rfl) allNil ?_
  refine HT.seq ?_
  refine HT.reg1 [0, 1, 10] [⟨none, .no⟩, ⟨none, .no⟩, ⟨none, .no⟩, ⟨none, .no⟩, ⟨none, .no⟩] ⟨[(0, .one (.dat (.sl (.int .i64)) a0)), (1, .one (.dat (.sl (.int .i64)) a1)), (10, .one (.dat .bool ((lenI a0) != (lenI a1))))], [], 0⟩ hP hN (by kernel_rfl) allNil ?_
  rcases of_bif hr with ⟨hb1, hr⟩ | ⟨hb1, hr⟩
  · refine HT.cond1 rfl hb1 ?_
    refine HT.reg1 [4] [⟨none, .no⟩] ⟨[(4, .one (.dat .bool false))], [], 0⟩ hP hN (by kernel_rfl) allNil ?_
    have hr := of_some hr
    subst hr
    exact HT.ret (qThenR ⟨[.one (.dat .bool false)], [], [], by kernel_rfl, by kernel_rfl, rfl, (.inl rfl), by kernel_rfl, trivial⟩)
  · refine HT.cond0 rfl hb1 ?_
    refine HT.skip (qThen ?_)
    refine HT.seq ?_
    refine HT.reg1 [0, 1, 5] [⟨none, .no⟩] ⟨[(0, .one (.dat (.sl (.int .i64)) a0)), (1, .one (.dat (.sl (.int .i64)) a1)), (5, .one (.dat (.int .i64) (0 : Int)))], [], 0⟩ hP hN (by kernel_rfl) allNil ?_
    refine HT.block ?_
    obtain ⟨r3, hL13, hr⟩ := of_bind hr
    refine (Le.cv (s := ⟨[], [], [], false⟩) (own := []) (ps := [a0 = a0, a1 = a1, (0 : Int) = (0 : Int)]) (st' := ⟨[(0, .one (.dat (.sl (.int .i64)) a0)), (1, .one (.dat (.sl (.int .i64)) a1)), (5, .one (.dat (.int .i64) (0 : Int)))], [], 0⟩) hO (fun h => by cases h) (by kernel_rfl) ⟨rfl, rfl, rfl, trivial⟩).ht ?_
    refine HT.loopE (s := (0 : Int)) (fun (s2 : Int) => ⟨[(0, .one (.dat (.sl (.int .i64)) a0)), (1, .one (.dat (.sl (.int .i64)) a1)), (5, .one (.dat (.int .i64) s2))], [], 0⟩) (fun (r3 : Unit ⊕ Unit) => match r3 with | .inl r4 => (.exit 0, ⟨[], [], 0⟩) | .inr r5 => (.ret, ⟨[(4, .one (.dat .bool false))], [], 0⟩)) hL13 ?_ (fun s2 x6 hx7 hk8 => ?_)
    · rcases r3 with r4 | r5
      · refine (qBlockX (qThen ?_))
        refine HT.reg1 [4] [⟨none, .no⟩] ⟨[(4, .one (.dat .bool true))], [], 0⟩ hP hN (by kernel_rfl) allNil ?_
        have hr := of_some hr
        subst hr
        exact HT.ret ⟨[.one (.dat .bool true)], [], [], by kernel_rfl, by kernel_rfl, rfl, (.inl rfl), by kernel_rfl, trivial⟩
      · have hr := of_some hr
        subst hr
        exact (qBlockR (qThenR ⟨[.one (.dat .bool false)], [], [], by kernel_rfl, by kernel_rfl, rfl, (.inl rfl), by kernel_rfl, trivial⟩))
    · refine HT.seq ?_
      refine HT.reg1 [0, 1, 5, 14] [⟨none, .no⟩, ⟨none, .no⟩, ⟨none, .no⟩, ⟨none, .no⟩] ⟨[(0, .one (.dat (.sl (.int .i64)) a0)), (1, .one (.dat (.sl (.int .i64)) a1)), (5, .one (.dat (.int .i64) s2)), (14, .one (.dat .bool (decide (s2 < (lenI a0)))))], [], 0⟩ hP hN (by kernel_rfl) allNil ?_
      rcases of_bif hx7 with ⟨hb9, hx7⟩ | ⟨hb9, hx7⟩
      · refine HT.cond1 rfl hb9 ?_
        refine HT.skip (qThen ?_)
        refine HT.seq ?_
        refine HT.block ?_
        obtain ⟨hg10, hx7⟩ := of_guard hx7
        obtain ⟨hg11, hx7⟩ := of_guard hx7
        refine HT.drw1 [0, 1, 5, 25] 8 [⟨⟨none, .no⟩, []⟩, ⟨⟨none, .no⟩, []⟩, ⟨⟨none, .no⟩, [0, 1]⟩, ⟨⟨none, .no⟩, [0, 1, 2]⟩, ⟨⟨none, .no⟩, []⟩, ⟨⟨none, .no⟩, []⟩, ⟨⟨none, .no⟩, [4, 5]⟩, ⟨⟨none, .no⟩, [4, 5, 6]⟩] [[0, 1, 2, 3, 4, 5, 6, 7]] [⟨none, .no⟩] ⟨[(0, .one (.dat (.sl (.int .i64)) a0)), (1, .one (.dat (.sl (.int .i64)) a1)), (5, .one (.dat (.int .i64) s2)), (25, .one (.dat .bool ((List.getD a0 (Int.toNat s2) (0 : Int)) != (List.getD a1 (Int.toNat s2) (0 : Int)))))], [], 0⟩ hP hN (by kernel_rfl) (by kernel_rfl) (allCons hg10 (allCons hg11 allNil)) ?_
        rcases of_bif hx7 with ⟨hb12, hx7⟩ | ⟨hb12, hx7⟩
        · refine HT.cond1 rfl hb12 ?_
          refine HT.reg1 [4] [⟨none, .no⟩] ⟨[(4, .one (.dat .bool false))], [], 0⟩ hP hN (by kernel_rfl) allNil ?_
          have hx7 := of_some hx7
          subst hx7
          refine (Le.cv (s := ⟨[], [], [], false⟩) (own := []) (ps := [false = false]) (st' := ⟨[(4, .one (.dat .bool false))], [], 0⟩) hO (fun h => by cases h) (by kernel_rfl) ⟨rfl, trivial⟩).ht ?_
          exact HT.ret (qBlockR (qThenR (qLoopR (hk8 (.inr ()) rfl))))
        · refine HT.cond0 rfl hb12 ?_
          refine HT.skip (qBlock (qThen ?_))
          have hx7 := of_some hx7
          subst hx7
          refine HT.reg (rs := [⟨none, .no⟩, ⟨none, .no⟩, ⟨none, .no⟩]) (st' := ⟨[(5, .one (.dat (.int .i64) (wadd .i64 s2 (1 : Int)))), (16, .one (.dat (.int .i64) (wadd .i64 s2 (1 : Int)))), (15, .one (.dat (.int .i64) s2)), (0, .one (.dat (.sl (.int .i64)) a0)), (1, .one (.dat (.sl (.int .i64)) a1)), (5, .one (.dat (.int .i64) s2)), (25, .one (.dat .bool ((List.getD a0 (Int.toNat s2) (0 : Int)) != (List.getD a1 (Int.toNat s2) (0 : Int)))))], [], 0⟩) hP hN (by kernel_rfl) allNil (qLoopN ⟨(wadd .i64 s2 (1 : Int)), rfl, Le.cv (s := ⟨[], [], [], false⟩) (own := []) (ps := [a0 = a0, a1 = a1, (wadd .i64 s2 (1 : Int)) = (wadd .i64 s2 (1 : Int))]) (st' := ⟨[(0, .one (.dat (.sl (.int .i64)) a0)), (1, .one (.dat (.sl (.int .i64)) a1)), (5, .one (.dat (.int .i64) (wadd .i64 s2 (1 : Int))))], [], 0⟩) hO (fun h => by cases h) (by kernel_rfl) ⟨rfl, rfl, rfl, trivial⟩⟩)
      · refine HT.cond0 rfl hb9 ?_
        have hx7 := of_some hx7
        subst hx7
        refine (Le.cv (s := ⟨[], [], [], false⟩) (own := []) (ps := []) (st' := ⟨[], [], 0⟩) hO (fun h => by cases h) (by kernel_rfl) trivial).ht ?_
        exact HT.exit (qThenE (qLoopE (hk8 (.inl ()) rfl)))

noncomputable def laws_eqZone (a0 : Int × List Int) (a1 : Int × List Int) : Option (Bool) :=
  bif (a0.1 != a1.1) then
    some false
  else
    (laws_eqInt64S a0.2 a1.2).bind fun y2 =>
    bif (!y2) then
      some false
    else
      some true

theorem f20_ok {a0 : Int × List Int} {a1 : Int × List Int} {r : Bool} (hr : laws_eqZone a0 a1 = some r) : CallOK Try.prog 20 [.imm (.st (.pair (.int .i64) (.sl (.int .i64)))) a0, .imm (.st (.pair (.int .i64) (.sl (.int .i64)))) a1] [⟨false, .bool, r⟩] [] := by
  unfold laws_eqZone at hr
  refine CallOK.of_body (ts := [(false, .bool)]) Try.func20 rfl (by kernel_rfl) (Nat.le_of_ble_eq_true (by kernel_rfl)) fun cx hP hN hO hF => ?_
  have hO : cx.own.map Prod.fst = [] := hO
  show HT cx ⟨[(0, .agg [.dat (.int .i64) a0.1, .dat (.sl (.int .i64)) a0.2]), (1, .agg [.dat (.int .i64) a1.1, .dat (.sl (.int .i64)) a1.2])], [], 0⟩ _ _
  refine HT.reg1 [2, 3] [⟨none, .no⟩, ⟨none, .no⟩, ⟨none, .no⟩] ⟨[(2, .one (.ptr 0 0)), (3, .one (.ptr 1 0))], [(1, .box [.dat (.int .i64) a1.1, .dat (.sl (.int .i64)) a1.2]), (0, .box [.dat (.int .i64) a0.1, .dat (.sl (.int .i64)) a0.2])], 2⟩ hP hN (by kernel_rfl) allNil ?_
  refine HT.seq ?_
  refine HT.reg1 [2, 3, 9] [⟨none, .no⟩, ⟨none, .no⟩, ⟨none, .no⟩, ⟨none, .no⟩, ⟨none, .no⟩] ⟨[(2, .one (.ptr 0 0)), (3, .one (.ptr 1 0)), (9, .one (.dat .bool (a0.1 != a1.1)))], [(1, .box [.dat (.int .i64) a1.1, .dat (.sl (.int .i64)) a1.2]), (0, .box [.dat (.int .i64) a0.1, .dat (.sl (.int .i64)) a0.2])], 2⟩ hP hN (by kernel_rfl) allNil ?_
  rcases of_bif hr with ⟨hb1, hr⟩ | ⟨hb1, hr⟩
  · refine HT.cond1 rfl hb1 ?_
    refine HT.reg1 [4] [⟨none, .no⟩] ⟨[(4, .one (.dat .bool false))], [(1, .box [.dat (.int .i64) a1.1, .dat (.sl (.int .i64)) a1.2]), (0, .box [.dat (.int .i64) a0.1, .dat (.sl (.int .i64)) a0.2])], 2⟩ hP hN (by kernel_rfl) allNil ?_
    have hr := of_some hr
    subst hr
    exact HT.ret (qThenR ⟨[.one (.dat .bool false)], [], [], by kernel_rfl, by kernel_rfl, rfl, (.inl rfl), by kernel_rfl, trivial⟩)
  · refine HT.cond0 rfl hb1 ?_
    refine HT.skip (qThen ?_)
    refine HT.seq ?_
    obtain ⟨y2, hc3, hr⟩ := of_bind hr
    refine HT.reg1 [15] [⟨none, .no⟩, ⟨none, .no⟩, ⟨none, .no⟩, ⟨none, .no⟩, ⟨none, .call [.imm (.sl (.int .i64)), .imm (.sl (.int .i64))] [⟨false, .bool, y2⟩] []⟩, ⟨none, .no⟩] ⟨[(15, .one (.dat .bool (!y2)))], [(1, .box [.dat (.int .i64) a1.1, .dat (.sl (.int .i64)) a1.2]), (0, .box [.dat (.int .i64) a0.1, .dat (.sl (.int .i64)) a0.2])], 2⟩ hP hN (by kernel_rfl) (allCons (f46_ok hc3) allNil) ?_
    rcases of_bif hr with ⟨hb4, hr⟩ | ⟨hb4, hr⟩
    · refine HT.cond1 rfl hb4 ?_
      refine HT.reg1 [4] [⟨none, .no⟩] ⟨[(4, .one (.dat .bool false))], [(1, .box [.dat (.int .i64) a1.1, .dat (.sl (.int .i64)) a1.2]), (0, .box [.dat (.int .i64) a0.1, .dat (.sl (.int .i64)) a0.2])], 2⟩ hP hN (by kernel_rfl) allNil ?_
      have hr := of_some hr
      subst hr
      exact HT.ret (qThenR ⟨[.one (.dat .bool false)], [], [], by kernel_rfl, by kernel_rfl, rfl, (.inl rfl), by kernel_rfl, trivial⟩)
    · refine HT.cond0 rfl hb4 ?_
      refine HT.skip (qThen ?_)
      refine HT.reg1 [4] [⟨none, .no⟩] ⟨[(4, .one (.dat .bool true))], [(1, .box [.dat (.int .i64) a1.1, .dat (.sl (.int .i64)) a1.2]), (0, .box [.dat (.int .i64) a0.1, .dat (.sl (.int .i64)) a0.2])], 2⟩ hP hN (by kernel_rfl) allNil ?_
      have hr := of_some hr
      subst hr
      exact HT.ret ⟨[.one (.dat .bool true)], [], [], by kernel_rfl, by kernel_rfl, rfl, (.inl rfl), by kernel_rfl, trivial⟩

noncomputable def laws_markInt64S_B1  (s1 : Int × Int × List Int) : Option ((Int × Int × List Int) ⊕ ((Int × List Int))) :=
  bif (decide (s1.2.1 < (lenI s1.2.2))) then
    guardP ((0 : Int) ≤ s1.2.1 ∧ s1.2.1 < lenI s1.2.2) (
      some (.inl ((wadd .i64 s1.1 (1 : Int)), (wadd .i64 s1.2.1 (1 : Int)), (List.set s1.2.2 (Int.toNat s1.2.1) s1.1))))
  else
    some (.inr (s1.1, s1.2.2))

noncomputable def laws_markInt64S (a0 : List Int) (a1 : Int) : Option (Int × List Int) :=
  (rounds (laws_markInt64S_B1) (a1, (0 : Int), a0)).bind fun r3 =>
  guardP (List.length r3.2 = List.length a0) (
    some (r3.1, r3.2))

theorem f47_ok {a0 : List Int} {a1 : Int} {r : Int × List Int} (hr : laws_markInt64S a0 a1 = some r) : CallOK Try.prog 47 [.own (.sl (.int .i64)) a0, .imm (.int .i64) a1] [⟨false, (.int .i64), r.1⟩] [⟨(.sl (.int .i64)), r.2⟩] := by
  unfold laws_markInt64S at hr
  refine CallOK.of_body (ts := [(false, (.int .i64))]) Try.func47 rfl (by kernel_rfl) (Nat.le_of_ble_eq_true (by kernel_rfl)) fun cx hP hN hO hF => ?_
  have hO : cx.own.map Prod.fst = [0] := hO
  show HT cx ⟨[(0, .one (.all 0)), (1, .one (.dat (.int .i64) a1))], [(0, .seq (.int .i64) a0)], 1⟩ _ _
  refine HT.reg1 [0, 1] [⟨none, .no⟩] ⟨[(0, .one (.all 0)), (1, .one (.dat (.int .i64) a1))], [(0, .seq (.int .i64) a0)], 1⟩ hP hN (by kernel_rfl) allNil ?_
  refine HT.seq ?_
  refine HT.reg1 [0, 1, 5] [⟨none, .no⟩] ⟨[(0, .one (.all 0)), (1, .one (.dat (.int .i64) a1)), (5, .one (.dat (.int .i64) (0 : Int)))], [(0, .seq (.int .i64) a0)], 1⟩ hP hN (by kernel_rfl) allNil ?_
  refine HT.block ?_
  obtain ⟨r2, hL10, hr⟩ := of_bind hr
  refine (Le.cv (s := ⟨[(0, 0)], [], [], false⟩) (own := [0]) (ps := [a1 = a1, (0 : Int) = (0 : Int), a0 = a0]) (st' := ⟨[(0, .one (.all 0)), (1, .one (.dat (.int .i64) a1)), (5, .one (.dat (.int .i64) (0 : Int)))], [(0, .seq (.int .i64) a0)], 1⟩) hO (fun h => by cases h) (by kernel_rfl) ⟨rfl, rfl, rfl, trivial⟩).ht ?_
  refine HT.loopE (s := (a1, (0 : Int), a0)) (fun (s1 : Int × Int × List Int) => ⟨[(0, .one (.all 0)), (1, .one (.dat (.int .i64) s1.1)), (5, .one (.dat (.int .i64) s1.2.1))], [(0, .seq (.int .i64) s1.2.2)], 1⟩) (fun (r3 : (Int × List Int)) => (.exit 0, ⟨[(1, .one (.dat (.int .i64) r3.1))], [(0, .seq (.int .i64) r3.2)], 1⟩)) hL10 ?_ (fun s1 x5 hx6 hk7 => ?_)
  · refine (qBlockX (qThen ?_))
    refine HT.reg1 [4] [⟨none, .no⟩, ⟨none, .no⟩] ⟨[(4, .one (.dat (.int .i64) r2.1))], [(0, .seq (.int .i64) r2.2)], 1⟩ hP hN (by kernel_rfl) allNil ?_
    obtain ⟨hg4, hr⟩ := of_guard hr
    have hr := of_some hr
    subst hr
    exact HT.ret ⟨[.one (.dat (.int .i64) r2.1)], [], [List.length r2.2 = List.length a0], by kernel_rfl, by kernel_rfl, rfl, (.inr rfl), by kernel_rfl, ⟨hg4, trivial⟩⟩
  · refine HT.seq ?_
    refine HT.reg1 [0, 1, 5, 9] [⟨none, .no⟩, ⟨none, .no⟩, ⟨none, .no⟩, ⟨none, .no⟩] ⟨[(0, .one (.all 0)), (1, .one (.dat (.int .i64) s1.1)), (5, .one (.dat (.int .i64) s1.2.1)), (9, .one (.dat .bool (decide (s1.2.1 < (lenI s1.2.2)))))], [(0, .seq (.int .i64) s1.2.2)], 1⟩ hP hN (by kernel_rfl) allNil ?_
    rcases of_bif hx6 with ⟨hb8, hx6⟩ | ⟨hb8, hx6⟩
    · refine HT.cond1 rfl hb8 ?_
      refine HT.skip (qThen ?_)
      refine HT.seq ?_
      refine HT.block ?_
      obtain ⟨hg9, hx6⟩ := of_guard hx6
      refine HT.reg1 [0, 1, 5] [⟨none, .no⟩, ⟨none, .no⟩, ⟨none, .no⟩, ⟨none, .no⟩, ⟨none, .no⟩] ⟨[(0, .one (.all 0)), (1, .one (.dat (.int .i64) s1.1)), (5, .one (.dat (.int .i64) s1.2.1))], [(0, .seq (.int .i64) (List.set s1.2.2 (Int.toNat s1.2.1) s1.1)), (0, .seq (.int .i64) s1.2.2)], 1⟩ hP hN (by kernel_rfl) (allCons hg9 (allCons (natLt hg9) allNil)) ?_
      refine HT.reg (rs := [⟨none, .no⟩, ⟨none, .no⟩, ⟨none, .no⟩]) (st' := ⟨[(1, .one (.dat (.int .i64) (wadd .i64 s1.1 (1 : Int)))), (17, .one (.dat (.int .i64) (wadd .i64 s1.1 (1 : Int)))), (16, .one (.dat (.int .i64) s1.1)), (0, .one (.all 0)), (1, .one (.dat (.int .i64) s1.1)), (5, .one (.dat (.int .i64) s1.2.1))], [(0, .seq (.int .i64) (List.set s1.2.2 (Int.toNat s1.2.1) s1.1)), (0, .seq (.int .i64) s1.2.2)], 1⟩) hP hN (by kernel_rfl) allNil (qBlock (qThen ?_))
      have hx6 := of_some hx6
      subst hx6
      refine HT.reg (rs := [⟨none, .no⟩, ⟨none, .no⟩, ⟨none, .no⟩]) (st' := ⟨[(5, .one (.dat (.int .i64) (wadd .i64 s1.2.1 (1 : Int)))), (11, .one (.dat (.int .i64) (wadd .i64 s1.2.1 (1 : Int)))), (10, .one (.dat (.int .i64) s1.2.1)), (1, .one (.dat (.int .i64) (wadd .i64 s1.1 (1 : Int)))), (17, .one (.dat (.int .i64) (wadd .i64 s1.1 (1 : Int)))), (16, .one (.dat (.int .i64) s1.1)), (0, .one (.all 0)), (1, .one (.dat (.int .i64) s1.1)), (5, .one (.dat (.int .i64) s1.2.1))], [(0, .seq (.int .i64) (List.set s1.2.2 (Int.toNat s1.2.1) s1.1)), (0, .seq (.int .i64) s1.2.2)], 1⟩) hP hN (by kernel_rfl) allNil (qLoopN ⟨((wadd .i64 s1.1 (1 : Int)), (wadd .i64 s1.2.1 (1 : Int)), (List.set s1.2.2 (Int.toNat s1.2.1) s1.1)), rfl, Le.cv (s := ⟨[(0, 0)], [], [], false⟩) (own := [0]) (ps := [(wadd .i64 s1.1 (1 : Int)) = (wadd .i64 s1.1 (1 : Int)), (wadd .i64 s1.2.1 (1 : Int)) = (wadd .i64 s1.2.1 (1 : Int)), (List.set s1.2.2 (Int.toNat s1.2.1) s1.1) = (List.set s1.2.2 (Int.toNat s1.2.1) s1.1)]) (st' := ⟨[(0, .one (.all 0)), (1, .one (.dat (.int .i64) (wadd .i64 s1.1 (1 : Int)))), (5, .one (.dat (.int .i64) (wadd .i64 s1.2.1 (1 : Int))))], [(0, .seq (.int .i64) (List.set s1.2.2 (Int.toNat s1.2.1) s1.1))], 1⟩) hO (fun h => by cases h) (by kernel_rfl) ⟨rfl, rfl, rfl, trivial⟩⟩)
    · refine HT.cond0 rfl hb8 ?_
      have hx6 := of_some hx6
      subst hx6
      refine (Le.cv (s := ⟨[(0, 0)], [], [], false⟩) (own := [0]) (ps := [s1.1 = s1.1, s1.2.2 = s1.2.2]) (st' := ⟨[(1, .one (.dat (.int .i64) s1.1))], [(0, .seq (.int .i64) s1.2.2)], 1⟩) hO (fun h => by cases h) (by kernel_rfl) ⟨rfl, rfl, trivial⟩).ht ?_
      exact HT.exit (qThenE (qLoopE (hk7 (s1.1, s1.2.2) rfl)))

noncomputable def laws_markZone (a0 : Int × List Int) (a1 : Int) : Option (Int × (Int × List Int)) :=
  (laws_markInt64S a0.2 a1).bind fun y1 =>
  guardP (List.length y1.2 = List.length a0.2) (
    some (y1.1, a0.1, y1.2))

theorem f21_ok {a0 : Int × List Int} {a1 : Int} {r : Int × (Int × List Int)} (hr : laws_markZone a0 a1 = some r) : CallOK Try.prog 21 [.own (.st (.pair (.int .i64) (.sl (.int .i64)))) a0, .imm (.int .i64) a1] [⟨false, (.int .i64), r.1⟩] [⟨(.st (.pair (.int .i64) (.sl (.int .i64)))), r.2⟩] := by
  unfold laws_markZone at hr
  refine CallOK.of_body (ts := [(false, (.int .i64))]) Try.func21 rfl (by kernel_rfl) (Nat.le_of_ble_eq_true (by kernel_rfl)) fun cx hP hN hO hF => ?_
  have hO : cx.own.map Prod.fst = [0] := hO
  show HT cx ⟨[(0, .agg [.dat (.int .i64) a0.1, .all 0]), (1, .one (.dat (.int .i64) a1))], [(0, .seq (.int .i64) a0.2)], 1⟩ _ _
  refine HT.reg1 [1, 2] [⟨none, .no⟩, ⟨none, .no⟩] ⟨[(1, .one (.dat (.int .i64) a1)), (2, .one (.ptr 1 0))], [(1, .box [.dat (.int .i64) a0.1, .all 0]), (0, .seq (.int .i64) a0.2)], 2⟩ hP hN (by kernel_rfl) allNil ?_
  obtain ⟨y1, hc2, hr⟩ := of_bind hr
  refine HT.reg1 [1] [⟨none, .no⟩, ⟨none, .no⟩, ⟨none, .no⟩, ⟨none, .call [.own (.sl (.int .i64)), .imm (.int .i64)] [⟨false, (.int .i64), y1.1⟩] [⟨(.sl (.int .i64)), y1.2⟩]⟩, ⟨none, .no⟩] ⟨[(1, .one (.dat (.int .i64) y1.1))], [(0, .seq (.int .i64) y1.2), (1, .box [.dat (.int .i64) a0.1, .all 0]), (0, .seq (.int .i64) a0.2)], 2⟩ hP hN (by kernel_rfl) (allCons (f47_ok hc2) allNil) ?_
  refine HT.reg1 [4] [⟨none, .no⟩, ⟨none, .no⟩] ⟨[(4, .one (.dat (.int .i64) y1.1))], [(0, .seq (.int .i64) y1.2), (1, .box [.dat (.int .i64) a0.1, .all 0]), (0, .seq (.int .i64) a0.2)], 2⟩ hP hN (by kernel_rfl) allNil ?_
  obtain ⟨hg3, hr⟩ := of_guard hr
  have hr := of_some hr
  subst hr
  exact HT.ret ⟨[.one (.dat (.int .i64) y1.1)], [], [List.length y1.2 = List.length a0.2], by kernel_rfl, by kernel_rfl, rfl, (.inr rfl), by kernel_rfl, ⟨hg3, trivial⟩⟩

noncomputable def laws_heldInt64S_B1 (a0 : List Int) (s1 : Int × Int) : Option ((Int × Int) ⊕ (Int ⊕ Unit)) :=
  bif (decide (s1.2 < (lenI a0))) then
    guardP ((0 : Int) ≤ s1.2 ∧ s1.2 < lenI a0) (
      bif ((List.getD a0 (Int.toNat s1.2) (0 : Int)) != s1.1) then
        some (.inr (.inr ()))
      else
        some (.inl ((wadd .i64 s1.1 (1 : Int)), (wadd .i64 s1.2 (1 : Int)))))
  else
    some (.inr (.inl s1.1))

noncomputable def laws_heldInt64S (a0 : List Int) (a1 : Int) : Option (Int) :=
  (rounds (laws_heldInt64S_B1 a0) (a1, (0 : Int))).bind fun r2 => match r2 with
    | .inl r3 =>
      some r3
    | .inr r4 =>
      some (-1 : Int)

theorem f48_ok {a0 : List Int} {a1 : Int} {r : Int} (hr : laws_heldInt64S a0 a1 = some r) : CallOK Try.prog 48 [.imm (.sl (.int .i64)) a0, .imm (.int .i64) a1] [⟨false, (.int .i64), r⟩] [] := by
  unfold laws_heldInt64S at hr
  refine CallOK.of_body (ts := [(false, (.int .i64))]) Try.func48 rfl (by kernel_rfl) (Nat.le_of_ble_eq_true (by kernel_rfl)) fun cx hP hN hO hF => ?_
  have hO : cx.own.map Prod.fst = [] := hO
  show HT cx ⟨[(0, .one (.dat (.sl (.int .i64)) a0)), (1, .one (.dat (.int .i64) a1))], [], 0⟩ _ _
  refine HT.reg1 [0, 1] [⟨none, .no⟩] ⟨[(0, .one (.dat (.sl (.int .i64)) a0)), (1, .one (.dat (.int .i64) a1))], [], 0⟩ hP hN (by kernel_rfl) allNil ?_
  refine HT.seq ?_
  refine HT.reg1 [0, 1, 5] [⟨none, .no⟩] ⟨[(0, .one (.dat (.sl (.int .i64)) a0)), (1, .one (.dat (.int .i64) a1)), (5, .one (.dat (.int .i64) (0 : Int)))], [], 0⟩ hP hN (by kernel_rfl) allNil ?_
  refine HT.block ?_
  obtain ⟨r2, hL11, hr⟩ := of_bind hr
  refine (Le.cv (s := ⟨[], [], [], false⟩) (own := []) (ps := [a0 = a0, a1 = a1, (0 : Int) = (0 : Int)]) (st' := ⟨[(0, .one (.dat (.sl (.int .i64)) a0)), (1, .one (.dat (.int .i64) a1)), (5, .one (.dat (.int .i64) (0 : Int)))], [], 0⟩) hO (fun h => by cases h) (by kernel_rfl) ⟨rfl, rfl, rfl, trivial⟩).ht ?_
  refine HT.loopE (s := (a1, (0 : Int))) (fun (s1 : Int × Int) => ⟨[(0, .one (.dat (.sl (.int .i64)) a0)), (1, .one (.dat (.int .i64) s1.1)), (5, .one (.dat (.int .i64) s1.2))], [], 0⟩) (fun (r2 : Int ⊕ Unit) => match r2 with | .inl r3 => (.exit 0, ⟨[(1, .one (.dat (.int .i64) r3))], [], 0⟩) | .inr r4 => (.ret, ⟨[(4, .one (.dat (.int .i64) (-1 : Int)))], [], 0⟩)) hL11 ?_ (fun s1 x5 hx6 hk7 => ?_)
  · rcases r2 with r3 | r4
    · refine (qBlockX (qThen ?_))
      refine HT.reg1 [4] [⟨none, .no⟩, ⟨none, .no⟩] ⟨[(4, .one (.dat (.int .i64) r3))], [], 0⟩ hP hN (by kernel_rfl) allNil ?_
      have hr := of_some hr
      subst hr
      exact HT.ret ⟨[.one (.dat (.int .i64) r3)], [], [], by kernel_rfl, by kernel_rfl, rfl, (.inl rfl), by kernel_rfl, trivial⟩
    · have hr := of_some hr
      subst hr
      exact (qBlockR (qThenR ⟨[.one (.dat (.int .i64) (-1 : Int))], [], [], by kernel_rfl, by kernel_rfl, rfl, (.inl rfl), by kernel_rfl, trivial⟩))
  · refine HT.seq ?_
    refine HT.reg1 [0, 1, 5, 9] [⟨none, .no⟩, ⟨none, .no⟩, ⟨none, .no⟩, ⟨none, .no⟩] ⟨[(0, .one (.dat (.sl (.int .i64)) a0)), (1, .one (.dat (.int .i64) s1.1)), (5, .one (.dat (.int .i64) s1.2)), (9, .one (.dat .bool (decide (s1.2 < (lenI a0)))))], [], 0⟩ hP hN (by kernel_rfl) allNil ?_
    rcases of_bif hx6 with ⟨hb8, hx6⟩ | ⟨hb8, hx6⟩
    · refine HT.cond1 rfl hb8 ?_
      refine HT.skip (qThen ?_)
      refine HT.seq ?_
      refine HT.block ?_
      refine HT.seq ?_
      obtain ⟨hg9, hx6⟩ := of_guard hx6
      refine HT.reg1 [0, 1, 5, 17] [⟨none, .no⟩, ⟨none, .no⟩, ⟨none, .no⟩, ⟨none, .no⟩, ⟨none, .no⟩, ⟨none, .no⟩] ⟨[(0, .one (.dat (.sl (.int .i64)) a0)), (1, .one (.dat (.int .i64) s1.1)), (5, .one (.dat (.int .i64) s1.2)), (17, .one (.dat .bool ((List.getD a0 (Int.toNat s1.2) (0 : Int)) != s1.1)))], [], 0⟩ hP hN (by kernel_rfl) (allCons hg9 allNil) ?_
      rcases of_bif hx6 with ⟨hb10, hx6⟩ | ⟨hb10, hx6⟩
      · refine HT.cond1 rfl hb10 ?_
        refine HT.reg1 [4] [⟨none, .no⟩] ⟨[(4, .one (.dat (.int .i64) (-1 : Int)))], [], 0⟩ hP hN (by kernel_rfl) allNil ?_
        have hx6 := of_some hx6
        subst hx6
        refine (Le.cv (s := ⟨[], [], [], false⟩) (own := []) (ps := [(-1 : Int) = (-1 : Int)]) (st' := ⟨[(4, .one (.dat (.int .i64) (-1 : Int)))], [], 0⟩) hO (fun h => by cases h) (by kernel_rfl) ⟨rfl, trivial⟩).ht ?_
        exact HT.ret (qThenR (qBlockR (qThenR (qLoopR (hk7 (.inr ()) rfl)))))
      · refine HT.cond0 rfl hb10 ?_
        refine HT.skip (qThen ?_)
        refine HT.reg (rs := [⟨none, .no⟩, ⟨none, .no⟩, ⟨none, .no⟩]) (st' := ⟨[(1, .one (.dat (.int .i64) (wadd .i64 s1.1 (1 : Int)))), (19, .one (.dat (.int .i64) (wadd .i64 s1.1 (1 : Int)))), (18, .one (.dat (.int .i64) s1.1)), (0, .one (.dat (.sl (.int .i64)) a0)), (1, .one (.dat (.int .i64) s1.1)), (5, .one (.dat (.int .i64) s1.2)), (17, .one (.dat .bool ((List.getD a0 (Int.toNat s1.2) (0 : Int)) != s1.1)))], [], 0⟩) hP hN (by kernel_rfl) allNil (qBlock (qThen ?_))
        have hx6 := of_some hx6
        subst hx6
        refine HT.reg (rs := [⟨none, .no⟩, ⟨none, .no⟩, ⟨none, .no⟩]) (st' := ⟨[(5, .one (.dat (.int .i64) (wadd .i64 s1.2 (1 : Int)))), (11, .one (.dat (.int .i64) (wadd .i64 s1.2 (1 : Int)))), (10, .one (.dat (.int .i64) s1.2)), (1, .one (.dat (.int .i64) (wadd .i64 s1.1 (1 : Int)))), (19, .one (.dat (.int .i64) (wadd .i64 s1.1 (1 : Int)))), (18, .one (.dat (.int .i64) s1.1)), (0, .one (.dat (.sl (.int .i64)) a0)), (1, .one (.dat (.int .i64) s1.1)), (5, .one (.dat (.int .i64) s1.2)), (17, .one (.dat .bool ((List.getD a0 (Int.toNat s1.2) (0 : Int)) != s1.1)))], [], 0⟩) hP hN (by kernel_rfl) allNil (qLoopN ⟨((wadd .i64 s1.1 (1 : Int)), (wadd .i64 s1.2 (1 : Int))), rfl, Le.cv (s := ⟨[], [], [], false⟩) (own := []) (ps := [a0 = a0, (wadd .i64 s1.1 (1 : Int)) = (wadd .i64 s1.1 (1 : Int)), (wadd .i64 s1.2 (1 : Int)) = (wadd .i64 s1.2 (1 : Int))]) (st' := ⟨[(0, .one (.dat (.sl (.int .i64)) a0)), (1, .one (.dat (.int .i64) (wadd .i64 s1.1 (1 : Int)))), (5, .one (.dat (.int .i64) (wadd .i64 s1.2 (1 : Int))))], [], 0⟩) hO (fun h => by cases h) (by kernel_rfl) ⟨rfl, rfl, rfl, trivial⟩⟩)
    · refine HT.cond0 rfl hb8 ?_
      have hx6 := of_some hx6
      subst hx6
      refine (Le.cv (s := ⟨[], [], [], false⟩) (own := []) (ps := [s1.1 = s1.1]) (st' := ⟨[(1, .one (.dat (.int .i64) s1.1))], [], 0⟩) hO (fun h => by cases h) (by kernel_rfl) ⟨rfl, trivial⟩).ht ?_
      exact HT.exit (qThenE (qLoopE (hk7 (.inl s1.1) rfl)))

noncomputable def laws_heldZone (a0 : Int × List Int) (a1 : Int) : Option (Int) :=
  (laws_heldInt64S a0.2 a1).bind fun y1 =>
  bif (decide (y1 < (0 : Int))) then
    some (-1 : Int)
  else
    some y1

theorem f22_ok {a0 : Int × List Int} {a1 : Int} {r : Int} (hr : laws_heldZone a0 a1 = some r) : CallOK Try.prog 22 [.imm (.st (.pair (.int .i64) (.sl (.int .i64)))) a0, .imm (.int .i64) a1] [⟨false, (.int .i64), r⟩] [] := by
  unfold laws_heldZone at hr
  refine CallOK.of_body (ts := [(false, (.int .i64))]) Try.func22 rfl (by kernel_rfl) (Nat.le_of_ble_eq_true (by kernel_rfl)) fun cx hP hN hO hF => ?_
  have hO : cx.own.map Prod.fst = [] := hO
  show HT cx ⟨[(0, .agg [.dat (.int .i64) a0.1, .dat (.sl (.int .i64)) a0.2]), (1, .one (.dat (.int .i64) a1))], [], 0⟩ _ _
  refine HT.reg1 [1, 2] [⟨none, .no⟩, ⟨none, .no⟩] ⟨[(1, .one (.dat (.int .i64) a1)), (2, .one (.ptr 0 0))], [(0, .box [.dat (.int .i64) a0.1, .dat (.sl (.int .i64)) a0.2])], 1⟩ hP hN (by kernel_rfl) allNil ?_
  obtain ⟨y1, hc2, hr⟩ := of_bind hr
  refine HT.reg1 [1] [⟨none, .no⟩, ⟨none, .no⟩, ⟨none, .no⟩, ⟨none, .call [.imm (.sl (.int .i64)), .imm (.int .i64)] [⟨false, (.int .i64), y1⟩] []⟩, ⟨none, .no⟩] ⟨[(1, .one (.dat (.int .i64) y1))], [(0, .box [.dat (.int .i64) a0.1, .dat (.sl (.int .i64)) a0.2])], 1⟩ hP hN (by kernel_rfl) (allCons (f48_ok hc2) allNil) ?_
  refine HT.seq ?_
  refine HT.reg1 [1, 10] [⟨none, .no⟩, ⟨none, .no⟩] ⟨[(1, .one (.dat (.int .i64) y1)), (10, .one (.dat .bool (decide (y1 < (0 : Int)))))], [(0, .box [.dat (.int .i64) a0.1, .dat (.sl (.int .i64)) a0.2])], 1⟩ hP hN (by kernel_rfl) allNil ?_
  rcases of_bif hr with ⟨hb3, hr⟩ | ⟨hb3, hr⟩
  · refine HT.cond1 rfl hb3 ?_
    refine HT.reg1 [4] [⟨none, .no⟩] ⟨[(4, .one (.dat (.int .i64) (-1 : Int)))], [(0, .box [.dat (.int .i64) a0.1, .dat (.sl (.int .i64)) a0.2])], 1⟩ hP hN (by kernel_rfl) allNil ?_
    have hr := of_some hr
    subst hr
    exact HT.ret (qThenR ⟨[.one (.dat (.int .i64) (-1 : Int))], [], [], by kernel_rfl, by kernel_rfl, rfl, (.inl rfl), by kernel_rfl, trivial⟩)
  · refine HT.cond0 rfl hb3 ?_
    refine HT.skip (qThen ?_)
    refine HT.reg1 [4] [⟨none, .no⟩, ⟨none, .no⟩] ⟨[(4, .one (.dat (.int .i64) y1))], [(0, .box [.dat (.int .i64) a0.1, .dat (.sl (.int .i64)) a0.2])], 1⟩ hP hN (by kernel_rfl) allNil ?_
    have hr := of_some hr
    subst hr
    exact HT.ret ⟨[.one (.dat (.int .i64) y1)], [], [], by kernel_rfl, by kernel_rfl, rfl, (.inl rfl), by kernel_rfl, trivial⟩

noncomputable def laws_FnExactLaterZone (a0 : Int × List Int) : Option (Bool) :=
  (laws_szZone (a0.1, a0.2) (1048576 : Int)).bind fun y1 =>
  bif (decide (y1 < (0 : Int))) then
    some true
  else
    (laws_toZone (a0.1, a0.2)).bind fun y4 =>
    (spec_LaterZone (y4.1, y4.2)).bind fun y6 =>
    (laws_toZone (a0.1, a0.2)).bind fun y8 =>
    (impl_LaterZone (y8.1, y8.2)).bind fun y10 =>
    (show Option (Bool) from
      (laws_eqZone (y10.1.1, y10.1.2) (y6.1.1, y6.1.2)).bind fun y52 =>
      bif (!y52) then
        some true
      else
        some (y10.2 != y6.2)).bind fun v12 =>
    bif v12 then
      some false
    else
      (laws_toZone (a0.1, a0.2)).bind fun y16 =>
      (laws_eqZone (y8.1, y8.2) (y16.1, y16.2)).bind fun y18 =>
      bif (!y18) then
        some false
      else
        (laws_markZone (y8.1, y8.2) (1 : Int)).bind fun y21 =>
        (show Option (Bool) from
          bif (decide (y21.1 < (0 : Int))) then
            some true
          else
            (laws_eqZone (y10.1.1, y10.1.2) (y6.1.1, y6.1.2)).bind fun y49 =>
            bif (!y49) then
              some true
            else
              some (y10.2 != y6.2)).bind fun v23 =>
        bif v23 then
          some false
        else
          (laws_markZone (y10.1.1, y10.1.2) (1 : Int)).bind fun y27 =>
          (laws_heldZone (y10.1.1, y27.2.2) (1 : Int)).bind fun y29 =>
          bif (decide (y29 < (0 : Int))) then
            some false
          else
            bif (y29 != y27.1) then
              some false
            else
              (laws_toZone (a0.1, a0.2)).bind fun y33 =>
              (impl_LaterZone (y33.1, y33.2)).bind fun y35 =>
              (show Option (Bool) from
                (laws_eqZone (y35.1.1, y35.1.2) (y6.1.1, y6.1.2)).bind fun y45 =>
                bif (!y45) then
                  some true
                else
                  some (y35.2 != y6.2)).bind fun v37 =>
              bif v37 then
                some false
              else
                (laws_heldZone (y10.1.1, y27.2.2) (1 : Int)).bind fun y41 =>
                bif (decide (y41 < (0 : Int))) then
                  some false
                else
                  bif (y41 != y27.1) then
                    some false
                  else
                    some true

theorem f5_ok {a0 : Int × List Int} {r : Bool} (hr : laws_FnExactLaterZone a0 = some r) : CallOK Try.prog 5 [.imm (.st (.pair (.int .i64) (.sl (.int .i64)))) a0] [⟨false, .bool, r⟩] [] := by
  unfold laws_FnExactLaterZone at hr
  refine CallOK.of_body (ts := [(false, .bool)]) Try.func5 rfl (by kernel_rfl) (Nat.le_of_ble_eq_true (by kernel_rfl)) fun cx hP hN hO hF => ?_
  have hO : cx.own.map Prod.fst = [] := hO
  show HT cx ⟨[(0, .agg [.dat (.int .i64) a0.1, .dat (.sl (.int .i64)) a0.2])], [], 0⟩ _ _
  refine HT.reg1 [1] [⟨none, .no⟩, ⟨none, .no⟩] ⟨[(1, .one (.ptr 0 0))], [(0, .box [.dat (.int .i64) a0.1, .dat (.sl (.int .i64)) a0.2])], 1⟩ hP hN (by kernel_rfl) allNil ?_
  refine HT.reg1 [1, 3] [⟨none, .no⟩] ⟨[(1, .one (.ptr 0 0)), (3, .one (.dat (.int .i64) (1048576 : Int)))], [(0, .box [.dat (.int .i64) a0.1, .dat (.sl (.int .i64)) a0.2])], 1⟩ hP hN (by kernel_rfl) allNil ?_
  obtain ⟨y1, hc2, hr⟩ := of_bind hr
  refine HT.reg1 [1, 3] [⟨none, .no⟩, ⟨none, .no⟩, ⟨none, .call [.imm (.st (.pair (.int .i64) (.sl (.int .i64)))), .imm (.int .i64)] [⟨false, (.int .i64), y1⟩] []⟩, ⟨none, .no⟩] ⟨[(1, .one (.ptr 0 0)), (3, .one (.dat (.int .i64) y1))], [(0, .box [.dat (.int .i64) a0.1, .dat (.sl (.int .i64)) a0.2])], 1⟩ hP hN (by kernel_rfl) (allCons (f16_ok hc2) allNil) ?_
  refine HT.seq ?_
  refine HT.reg1 [1, 18] [⟨none, .no⟩, ⟨none, .no⟩] ⟨[(1, .one (.ptr 0 0)), (18, .one (.dat .bool (decide (y1 < (0 : Int)))))], [(0, .box [.dat (.int .i64) a0.1, .dat (.sl (.int .i64)) a0.2])], 1⟩ hP hN (by kernel_rfl) allNil ?_
  rcases of_bif hr with ⟨hb3, hr⟩ | ⟨hb3, hr⟩
  · refine HT.cond1 rfl hb3 ?_
    refine HT.reg1 [2] [⟨none, .no⟩] ⟨[(2, .one (.dat .bool true))], [(0, .box [.dat (.int .i64) a0.1, .dat (.sl (.int .i64)) a0.2])], 1⟩ hP hN (by kernel_rfl) allNil ?_
    have hr := of_some hr
    subst hr
    exact HT.ret (qThenR ⟨[.one (.dat .bool true)], [], [], by kernel_rfl, by kernel_rfl, rfl, (.inl rfl), by kernel_rfl, trivial⟩)
  · refine HT.cond0 rfl hb3 ?_
    refine HT.skip (qThen ?_)
    obtain ⟨y4, hc5, hr⟩ := of_bind hr
    obtain ⟨y6, hc7, hr⟩ := of_bind hr
    refine HT.reg1 [1, 4, 5] [⟨none, .no⟩, ⟨none, .call [.imm (.st (.pair (.int .i64) (.sl (.int .i64))))] [⟨true, (.st (.pair (.int .i64) (.sl (.int .i64)))), y4⟩] []⟩, ⟨none, .call [.imm (.st (.pair (.int .i64) (.sl (.int .i64))))] [⟨true, (.st (.pair (.int .i64) (.sl (.int .i64)))), y6.1⟩, ⟨false, .bool, y6.2⟩] []⟩, ⟨none, .no⟩, ⟨none, .no⟩, ⟨none, .no⟩, ⟨none, .no⟩, ⟨none, .no⟩, ⟨none, .no⟩] ⟨[(1, .one (.ptr 0 0)), (4, .one (.ptr 3 0)), (5, .one (.dat .bool y6.2))], [(3, .box [.dat (.int .i64) y6.1.1, .all 2]), (3, .box [.dat (.int .i64) (0 : Int), .nilS]), (2, .seq (.int .i64) y6.1.2), (1, .seq (.int .i64) y4.2), (0, .box [.dat (.int .i64) a0.1, .dat (.sl (.int .i64)) a0.2])], 4⟩ hP hN (by kernel_rfl) (allCons (f18_ok hc5) (allCons (f23_ok hc7) allNil)) ?_
    obtain ⟨y8, hc9, hr⟩ := of_bind hr
    refine HT.reg1 [1, 4, 5, 6] [⟨none, .no⟩, ⟨none, .call [.imm (.st (.pair (.int .i64) (.sl (.int .i64))))] [⟨true, (.st (.pair (.int .i64) (.sl (.int .i64)))), y8⟩] []⟩, ⟨none, .no⟩, ⟨none, .no⟩] ⟨[(1, .one (.ptr 0 0)), (4, .one (.ptr 3 0)), (5, .one (.dat .bool y6.2)), (6, .one (.ptr 5 0))], [(5, .box [.dat (.int .i64) y8.1, .all 4]), (5, .box [.dat (.int .i64) (0 : Int), .nilS]), (4, .seq (.int .i64) y8.2), (3, .box [.dat (.int .i64) y6.1.1, .all 2]), (3, .box [.dat (.int .i64) (0 : Int), .nilS]), (2, .seq (.int .i64) y6.1.2), (1, .seq (.int .i64) y4.2), (0, .box [.dat (.int .i64) a0.1, .dat (.sl (.int .i64)) a0.2])], 6⟩ hP hN (by kernel_rfl) (allCons (f18_ok hc9) allNil) ?_
    obtain ⟨y10, hc11, hr⟩ := of_bind hr
    refine HT.reg1 [1, 4, 5, 6, 7, 8] [⟨none, .no⟩, ⟨none, .call [.imm (.st (.pair (.int .i64) (.sl (.int .i64))))] [⟨true, (.st (.pair (.int .i64) (.sl (.int .i64)))), y10.1⟩, ⟨false, .bool, y10.2⟩] []⟩, ⟨none, .no⟩, ⟨none, .no⟩, ⟨none, .no⟩, ⟨none, .no⟩, ⟨none, .no⟩, ⟨none, .no⟩] ⟨[(1, .one (.ptr 0 0)), (4, .one (.ptr 3 0)), (5, .one (.dat .bool y6.2)), (6, .one (.ptr 5 0)), (7, .one (.ptr 7 0)), (8, .one (.dat .bool y10.2))], [(7, .box [.dat (.int .i64) y10.1.1, .all 6]), (7, .box [.dat (.int .i64) (0 : Int), .nilS]), (6, .seq (.int .i64) y10.1.2), (5, .box [.dat (.int .i64) y8.1, .all 4]), (5, .box [.dat (.int .i64) (0 : Int), .nilS]), (4, .seq (.int .i64) y8.2), (3, .box [.dat (.int .i64) y6.1.1, .all 2]), (3, .box [.dat (.int .i64) (0 : Int), .nilS]), (2, .seq (.int .i64) y6.1.2), (1, .seq (.int .i64) y4.2), (0, .box [.dat (.int .i64) a0.1, .dat (.sl (.int .i64)) a0.2])], 8⟩ hP hN (by kernel_rfl) (allCons (f24_ok hc11) allNil) ?_
    refine HT.seq ?_
    obtain ⟨v12', hT14, hr⟩ := of_bind hr
    refine HT.join (fun (v12 : Bool) => ⟨[(1, .one (.ptr 0 0)), (4, .one (.ptr 1 0)), (5, .one (.dat .bool y6.2)), (6, .one (.ptr 2 0)), (7, .one (.ptr 3 0)), (8, .one (.dat .bool y10.2)), (40, .one (.dat .bool v12))], [(0, .box [.dat (.int .i64) a0.1, .dat (.sl (.int .i64)) a0.2]), (1, .box [.dat (.int .i64) y6.1.1, .all 4]), (2, .box [.dat (.int .i64) y8.1, .all 5]), (3, .box [.dat (.int .i64) y10.1.1, .all 6]), (4, .seq (.int .i64) y6.1.2), (5, .seq (.int .i64) y8.2), (6, .seq (.int .i64) y10.1.2)], 7⟩) (fun v => v = v12') (fun v12 hv13 => ?_) (fun cont => ?_)
    · subst hv13
      rcases of_bif hr with ⟨hb15, hr⟩ | ⟨hb15, hr⟩
      · refine HT.cond1 rfl hb15 ?_
        refine HT.reg1 [2] [⟨none, .no⟩] ⟨[(2, .one (.dat .bool false))], [(0, .box [.dat (.int .i64) a0.1, .dat (.sl (.int .i64)) a0.2]), (1, .box [.dat (.int .i64) y6.1.1, .all 4]), (2, .box [.dat (.int .i64) y8.1, .all 5]), (3, .box [.dat (.int .i64) y10.1.1, .all 6]), (4, .seq (.int .i64) y6.1.2), (5, .seq (.int .i64) y8.2), (6, .seq (.int .i64) y10.1.2)], 7⟩ hP hN (by kernel_rfl) allNil ?_
        have hr := of_some hr
        subst hr
        exact HT.ret (qThenR ⟨[.one (.dat .bool false)], [], [], by kernel_rfl, by kernel_rfl, rfl, (.inl rfl), by kernel_rfl, trivial⟩)
      · refine HT.cond0 rfl hb15 ?_
        refine HT.skip (qThen ?_)
        refine HT.seq ?_
        obtain ⟨y16, hc17, hr⟩ := of_bind hr
        obtain ⟨y18, hc19, hr⟩ := of_bind hr
        refine HT.drw1 [1, 4, 5, 6, 7, 8, 45] 3 [⟨⟨none, .no⟩, []⟩, ⟨⟨none, .no⟩, []⟩, ⟨⟨none, .call [.imm (.st (.pair (.int .i64) (.sl (.int .i64))))] [⟨true, (.st (.pair (.int .i64) (.sl (.int .i64)))), y16⟩] []⟩, [1]⟩] [[0, 1, 2], [0, 1, 2, 3]] [⟨none, .call [.imm (.st (.pair (.int .i64) (.sl (.int .i64)))), .imm (.st (.pair (.int .i64) (.sl (.int .i64))))] [⟨false, .bool, y18⟩] []⟩, ⟨none, .no⟩] ⟨[(1, .one (.ptr 0 0)), (4, .one (.ptr 1 0)), (5, .one (.dat .bool y6.2)), (6, .one (.ptr 2 0)), (7, .one (.ptr 3 0)), (8, .one (.dat .bool y10.2)), (45, .one (.dat .bool (!y18)))], [(7, .seq (.int .i64) y16.2), (0, .box [.dat (.int .i64) a0.1, .dat (.sl (.int .i64)) a0.2]), (1, .box [.dat (.int .i64) y6.1.1, .all 4]), (2, .box [.dat (.int .i64) y8.1, .all 5]), (3, .box [.dat (.int .i64) y10.1.1, .all 6]), (4, .seq (.int .i64) y6.1.2), (5, .seq (.int .i64) y8.2), (6, .seq (.int .i64) y10.1.2)], 8⟩ hP hN (by kernel_rfl) (by kernel_rfl) (allCons (f18_ok hc17) (allCons (f20_ok hc19) allNil)) ?_
        rcases of_bif hr with ⟨hb20, hr⟩ | ⟨hb20, hr⟩
        · refine HT.cond1 rfl hb20 ?_
          refine HT.reg1 [2] [⟨none, .no⟩] ⟨[(2, .one (.dat .bool false))], [(7, .seq (.int .i64) y16.2), (0, .box [.dat (.int .i64) a0.1, .dat (.sl (.int .i64)) a0.2]), (1, .box [.dat (.int .i64) y6.1.1, .all 4]), (2, .box [.dat (.int .i64) y8.1, .all 5]), (3, .box [.dat (.int .i64) y10.1.1, .all 6]), (4, .seq (.int .i64) y6.1.2), (5, .seq (.int .i64) y8.2), (6, .seq (.int .i64) y10.1.2)], 8⟩ hP hN (by kernel_rfl) allNil ?_
          have hr := of_some hr
          subst hr
          exact HT.ret (qThenR ⟨[.one (.dat .bool false)], [], [], by kernel_rfl, by kernel_rfl, rfl, (.inl rfl), by kernel_rfl, trivial⟩)
        · refine HT.cond0 rfl hb20 ?_
          refine HT.skip (qThen ?_)
          refine HT.reg1 [1, 4, 5, 6, 7, 8, 9] [⟨none, .no⟩] ⟨[(1, .one (.ptr 0 0)), (4, .one (.ptr 1 0)), (5, .one (.dat .bool y6.2)), (6, .one (.ptr 2 0)), (7, .one (.ptr 3 0)), (8, .one (.dat .bool y10.2)), (9, .one (.dat (.int .i64) (1 : Int)))], [(7, .seq (.int .i64) y16.2), (0, .box [.dat (.int .i64) a0.1, .dat (.sl (.int .i64)) a0.2]), (1, .box [.dat (.int .i64) y6.1.1, .all 4]), (2, .box [.dat (.int .i64) y8.1, .all 5]), (3, .box [.dat (.int .i64) y10.1.1, .all 6]), (4, .seq (.int .i64) y6.1.2), (5, .seq (.int .i64) y8.2), (6, .seq (.int .i64) y10.1.2)], 8⟩ hP hN (by kernel_rfl) allNil ?_
          obtain ⟨y21, hc22, hr⟩ := of_bind hr
          refine HT.reg1 [1, 4, 5, 7, 8, 9] [⟨none, .no⟩, ⟨none, .no⟩, ⟨none, .call [.own (.st (.pair (.int .i64) (.sl (.int .i64)))), .imm (.int .i64)] [⟨false, (.int .i64), y21.1⟩] [⟨(.st (.pair (.int .i64) (.sl (.int .i64)))), y21.2⟩]⟩, ⟨none, .no⟩] ⟨[(1, .one (.ptr 0 0)), (4, .one (.ptr 1 0)), (5, .one (.dat .bool y6.2)), (7, .one (.ptr 3 0)), (8, .one (.dat .bool y10.2)), (9, .one (.dat (.int .i64) y21.1))], [(5, .seq (.int .i64) y21.2.2), (7, .seq (.int .i64) y16.2), (0, .box [.dat (.int .i64) a0.1, .dat (.sl (.int .i64)) a0.2]), (1, .box [.dat (.int .i64) y6.1.1, .all 4]), (2, .box [.dat (.int .i64) y8.1, .all 5]), (3, .box [.dat (.int .i64) y10.1.1, .all 6]), (4, .seq (.int .i64) y6.1.2), (5, .seq (.int .i64) y8.2), (6, .seq (.int .i64) y10.1.2)], 8⟩ hP hN (by kernel_rfl) (allCons (f21_ok hc22) allNil) ?_
          refine HT.seq ?_
          obtain ⟨v23', hT25, hr⟩ := of_bind hr
          refine HT.join (fun (v23 : Bool) => ⟨[(1, .one (.ptr 0 0)), (4, .one (.ptr 1 0)), (5, .one (.dat .bool y6.2)), (7, .one (.ptr 2 0)), (61, .one (.dat .bool v23))], [(0, .box [.dat (.int .i64) a0.1, .dat (.sl (.int .i64)) a0.2]), (1, .box [.dat (.int .i64) y6.1.1, .all 3]), (2, .box [.dat (.int .i64) y10.1.1, .all 4]), (3, .seq (.int .i64) y6.1.2), (4, .seq (.int .i64) y10.1.2)], 5⟩) (fun v => v = v23') (fun v23 hv24 => ?_) (fun cont => ?_)
          · subst hv24
            rcases of_bif hr with ⟨hb26, hr⟩ | ⟨hb26, hr⟩
            · refine HT.cond1 rfl hb26 ?_
              refine HT.reg1 [2] [⟨none, .no⟩] ⟨[(2, .one (.dat .bool false))], [(0, .box [.dat (.int .i64) a0.1, .dat (.sl (.int .i64)) a0.2]), (1, .box [.dat (.int .i64) y6.1.1, .all 3]), (2, .box [.dat (.int .i64) y10.1.1, .all 4]), (3, .seq (.int .i64) y6.1.2), (4, .seq (.int .i64) y10.1.2)], 5⟩ hP hN (by kernel_rfl) allNil ?_
              have hr := of_some hr
              subst hr
              exact HT.ret (qThenR ⟨[.one (.dat .bool false)], [], [], by kernel_rfl, by kernel_rfl, rfl, (.inl rfl), by kernel_rfl, trivial⟩)
            · refine HT.cond0 rfl hb26 ?_
              refine HT.skip (qThen ?_)
              refine HT.reg1 [1, 4, 5, 7, 10] [⟨none, .no⟩] ⟨[(1, .one (.ptr 0 0)), (4, .one (.ptr 1 0)), (5, .one (.dat .bool y6.2)), (7, .one (.ptr 2 0)), (10, .one (.dat (.int .i64) (1 : Int)))], [(0, .box [.dat (.int .i64) a0.1, .dat (.sl (.int .i64)) a0.2]), (1, .box [.dat (.int .i64) y6.1.1, .all 3]), (2, .box [.dat (.int .i64) y10.1.1, .all 4]), (3, .seq (.int .i64) y6.1.2), (4, .seq (.int .i64) y10.1.2)], 5⟩ hP hN (by kernel_rfl) allNil ?_
              obtain ⟨y27, hc28, hr⟩ := of_bind hr
              refine HT.reg1 [1, 4, 5, 7, 10] [⟨none, .no⟩, ⟨none, .no⟩, ⟨none, .call [.own (.st (.pair (.int .i64) (.sl (.int .i64)))), .imm (.int .i64)] [⟨false, (.int .i64), y27.1⟩] [⟨(.st (.pair (.int .i64) (.sl (.int .i64)))), y27.2⟩]⟩, ⟨none, .no⟩] ⟨[(1, .one (.ptr 0 0)), (4, .one (.ptr 1 0)), (5, .one (.dat .bool y6.2)), (7, .one (.ptr 2 0)), (10, .one (.dat (.int .i64) y27.1))], [(4, .seq (.int .i64) y27.2.2), (0, .box [.dat (.int .i64) a0.1, .dat (.sl (.int .i64)) a0.2]), (1, .box [.dat (.int .i64) y6.1.1, .all 3]), (2, .box [.dat (.int .i64) y10.1.1, .all 4]), (3, .seq (.int .i64) y6.1.2), (4, .seq (.int .i64) y10.1.2)], 5⟩ hP hN (by kernel_rfl) (allCons (f21_ok hc28) allNil) ?_
              refine HT.reg1 [1, 4, 5, 7, 10, 11] [⟨none, .no⟩] ⟨[(1, .one (.ptr 0 0)), (4, .one (.ptr 1 0)), (5, .one (.dat .bool y6.2)), (7, .one (.ptr 2 0)), (10, .one (.dat (.int .i64) y27.1)), (11, .one (.dat (.int .i64) (1 : Int)))], [(4, .seq (.int .i64) y27.2.2), (0, .box [.dat (.int .i64) a0.1, .dat (.sl (.int .i64)) a0.2]), (1, .box [.dat (.int .i64) y6.1.1, .all 3]), (2, .box [.dat (.int .i64) y10.1.1, .all 4]), (3, .seq (.int .i64) y6.1.2), (4, .seq (.int .i64) y10.1.2)], 5⟩ hP hN (by kernel_rfl) allNil ?_
              obtain ⟨y29, hc30, hr⟩ := of_bind hr
              refine HT.reg1 [1, 4, 5, 7, 10, 11] [⟨none, .no⟩, ⟨none, .no⟩, ⟨none, .call [.imm (.st (.pair (.int .i64) (.sl (.int .i64)))), .imm (.int .i64)] [⟨false, (.int .i64), y29⟩] []⟩, ⟨none, .no⟩] ⟨[(1, .one (.ptr 0 0)), (4, .one (.ptr 1 0)), (5, .one (.dat .bool y6.2)), (7, .one (.ptr 2 0)), (10, .one (.dat (.int .i64) y27.1)), (11, .one (.dat (.int .i64) y29))], [(4, .seq (.int .i64) y27.2.2), (0, .box [.dat (.int .i64) a0.1, .dat (.sl (.int .i64)) a0.2]), (1, .box [.dat (.int .i64) y6.1.1, .all 3]), (2, .box [.dat (.int .i64) y10.1.1, .all 4]), (3, .seq (.int .i64) y6.1.2), (4, .seq (.int .i64) y10.1.2)], 5⟩ hP hN (by kernel_rfl) (allCons (f22_ok hc30) allNil) ?_
              refine HT.seq ?_
              refine HT.reg1 [1, 4, 5, 7, 10, 11, 69] [⟨none, .no⟩, ⟨none, .no⟩] ⟨[(1, .one (.ptr 0 0)), (4, .one (.ptr 1 0)), (5, .one (.dat .bool y6.2)), (7, .one (.ptr 2 0)), (10, .one (.dat (.int .i64) y27.1)), (11, .one (.dat (.int .i64) y29)), (69, .one (.dat .bool (decide (y29 < (0 : Int)))))], [(4, .seq (.int .i64) y27.2.2), (0, .box [.dat (.int .i64) a0.1, .dat (.sl (.int .i64)) a0.2]), (1, .box [.dat (.int .i64) y6.1.1, .all 3]), (2, .box [.dat (.int .i64) y10.1.1, .all 4]), (3, .seq (.int .i64) y6.1.2), (4, .seq (.int .i64) y10.1.2)], 5⟩ hP hN (by kernel_rfl) allNil ?_
              rcases of_bif hr with ⟨hb31, hr⟩ | ⟨hb31, hr⟩
              · refine HT.cond1 rfl hb31 ?_
                refine HT.reg1 [2] [⟨none, .no⟩] ⟨[(2, .one (.dat .bool false))], [(4, .seq (.int .i64) y27.2.2), (0, .box [.dat (.int .i64) a0.1, .dat (.sl (.int .i64)) a0.2]), (1, .box [.dat (.int .i64) y6.1.1, .all 3]), (2, .box [.dat (.int .i64) y10.1.1, .all 4]), (3, .seq (.int .i64) y6.1.2), (4, .seq (.int .i64) y10.1.2)], 5⟩ hP hN (by kernel_rfl) allNil ?_
                have hr := of_some hr
                subst hr
                exact HT.ret (qThenR ⟨[.one (.dat .bool false)], [], [], by kernel_rfl, by kernel_rfl, rfl, (.inl rfl), by kernel_rfl, trivial⟩)
              · refine HT.cond0 rfl hb31 ?_
                refine HT.skip (qThen ?_)
                refine HT.seq ?_
                refine HT.reg1 [1, 4, 5, 7, 10, 72] [⟨none, .no⟩, ⟨none, .no⟩, ⟨none, .no⟩] ⟨[(1, .one (.ptr 0 0)), (4, .one (.ptr 1 0)), (5, .one (.dat .bool y6.2)), (7, .one (.ptr 2 0)), (10, .one (.dat (.int .i64) y27.1)), (72, .one (.dat .bool (y29 != y27.1)))], [(4, .seq (.int .i64) y27.2.2), (0, .box [.dat (.int .i64) a0.1, .dat (.sl (.int .i64)) a0.2]), (1, .box [.dat (.int .i64) y6.1.1, .all 3]), (2, .box [.dat (.int .i64) y10.1.1, .all 4]), (3, .seq (.int .i64) y6.1.2), (4, .seq (.int .i64) y10.1.2)], 5⟩ hP hN (by kernel_rfl) allNil ?_
                rcases of_bif hr with ⟨hb32, hr⟩ | ⟨hb32, hr⟩
                · refine HT.cond1 rfl hb32 ?_
                  refine HT.reg1 [2] [⟨none, .no⟩] ⟨[(2, .one (.dat .bool false))], [(4, .seq (.int .i64) y27.2.2), (0, .box [.dat (.int .i64) a0.1, .dat (.sl (.int .i64)) a0.2]), (1, .box [.dat (.int .i64) y6.1.1, .all 3]), (2, .box [.dat (.int .i64) y10.1.1, .all 4]), (3, .seq (.int .i64) y6.1.2), (4, .seq (.int .i64) y10.1.2)], 5⟩ hP hN (by kernel_rfl) allNil ?_
                  have hr := of_some hr
                  subst hr
                  exact HT.ret (qThenR ⟨[.one (.dat .bool false)], [], [], by kernel_rfl, by kernel_rfl, rfl, (.inl rfl), by kernel_rfl, trivial⟩)
                · refine HT.cond0 rfl hb32 ?_
                  refine HT.skip (qThen ?_)
                  obtain ⟨y33, hc34, hr⟩ := of_bind hr
                  obtain ⟨y35, hc36, hr⟩ := of_bind hr
                  refine HT.reg1 [4, 5, 7, 10, 12, 13] [⟨none, .no⟩, ⟨none, .call [.imm (.st (.pair (.int .i64) (.sl (.int .i64))))] [⟨true, (.st (.pair (.int .i64) (.sl (.int .i64)))), y33⟩] []⟩, ⟨none, .call [.imm (.st (.pair (.int .i64) (.sl (.int .i64))))] [⟨true, (.st (.pair (.int .i64) (.sl (.int .i64)))), y35.1⟩, ⟨false, .bool, y35.2⟩] []⟩, ⟨none, .no⟩, ⟨none, .no⟩, ⟨none, .no⟩, ⟨none, .no⟩, ⟨none, .no⟩, ⟨none, .no⟩] ⟨[(4, .one (.ptr 1 0)), (5, .one (.dat .bool y6.2)), (7, .one (.ptr 2 0)), (10, .one (.dat (.int .i64) y27.1)), (12, .one (.ptr 7 0)), (13, .one (.dat .bool y35.2))], [(7, .box [.dat (.int .i64) y35.1.1, .all 6]), (7, .box [.dat (.int .i64) (0 : Int), .nilS]), (6, .seq (.int .i64) y35.1.2), (5, .seq (.int .i64) y33.2), (4, .seq (.int .i64) y27.2.2), (0, .box [.dat (.int .i64) a0.1, .dat (.sl (.int .i64)) a0.2]), (1, .box [.dat (.int .i64) y6.1.1, .all 3]), (2, .box [.dat (.int .i64) y10.1.1, .all 4]), (3, .seq (.int .i64) y6.1.2), (4, .seq (.int .i64) y10.1.2)], 8⟩ hP hN (by kernel_rfl) (allCons (f18_ok hc34) (allCons (f24_ok hc36) allNil)) ?_
                  refine HT.seq ?_
                  obtain ⟨v37', hT39, hr⟩ := of_bind hr
                  refine HT.join (fun (v37 : Bool) => ⟨[(7, .one (.ptr 0 0)), (10, .one (.dat (.int .i64) y27.1)), (87, .one (.dat .bool v37))], [(0, .box [.dat (.int .i64) y10.1.1, .all 1]), (1, .seq (.int .i64) y27.2.2)], 2⟩) (fun v => v = v37') (fun v37 hv38 => ?_) (fun cont => ?_)
                  · subst hv38
                    rcases of_bif hr with ⟨hb40, hr⟩ | ⟨hb40, hr⟩
                    · refine HT.cond1 rfl hb40 ?_
                      refine HT.reg1 [2] [⟨none, .no⟩] ⟨[(2, .one (.dat .bool false))], [(0, .box [.dat (.int .i64) y10.1.1, .all 1]), (1, .seq (.int .i64) y27.2.2)], 2⟩ hP hN (by kernel_rfl) allNil ?_
                      have hr := of_some hr
                      subst hr
                      exact HT.ret (qThenR ⟨[.one (.dat .bool false)], [], [], by kernel_rfl, by kernel_rfl, rfl, (.inl rfl), by kernel_rfl, trivial⟩)
                    · refine HT.cond0 rfl hb40 ?_
                      refine HT.skip (qThen ?_)
                      refine HT.reg1 [7, 10, 11] [⟨none, .no⟩] ⟨[(7, .one (.ptr 0 0)), (10, .one (.dat (.int .i64) y27.1)), (11, .one (.dat (.int .i64) (1 : Int)))], [(0, .box [.dat (.int .i64) y10.1.1, .all 1]), (1, .seq (.int .i64) y27.2.2)], 2⟩ hP hN (by kernel_rfl) allNil ?_
                      obtain ⟨y41, hc42, hr⟩ := of_bind hr
                      refine HT.reg1 [10, 11] [⟨none, .no⟩, ⟨none, .no⟩, ⟨none, .call [.imm (.st (.pair (.int .i64) (.sl (.int .i64)))), .imm (.int .i64)] [⟨false, (.int .i64), y41⟩] []⟩, ⟨none, .no⟩] ⟨[(10, .one (.dat (.int .i64) y27.1)), (11, .one (.dat (.int .i64) y41))], [(0, .box [.dat (.int .i64) y10.1.1, .all 1]), (1, .seq (.int .i64) y27.2.2)], 2⟩ hP hN (by kernel_rfl) (allCons (f22_ok hc42) allNil) ?_
                      refine HT.seq ?_
                      refine HT.reg1 [10, 11, 92] [⟨none, .no⟩, ⟨none, .no⟩] ⟨[(10, .one (.dat (.int .i64) y27.1)), (11, .one (.dat (.int .i64) y41)), (92, .one (.dat .bool (decide (y41 < (0 : Int)))))], [(0, .box [.dat (.int .i64) y10.1.1, .all 1]), (1, .seq (.int .i64) y27.2.2)], 2⟩ hP hN (by kernel_rfl) allNil ?_
                      rcases of_bif hr with ⟨hb43, hr⟩ | ⟨hb43, hr⟩
                      · refine HT.cond1 rfl hb43 ?_
                        refine HT.reg1 [2] [⟨none, .no⟩] ⟨[(2, .one (.dat .bool false))], [(0, .box [.dat (.int .i64) y10.1.1, .all 1]), (1, .seq (.int .i64) y27.2.2)], 2⟩ hP hN (by kernel_rfl) allNil ?_
                        have hr := of_some hr
                        subst hr
                        exact HT.ret (qThenR ⟨[.one (.dat .bool false)], [], [], by kernel_rfl, by kernel_rfl, rfl, (.inl rfl), by kernel_rfl, trivial⟩)
                      · refine HT.cond0 rfl hb43 ?_
                        refine HT.skip (qThen ?_)
                        refine HT.seq ?_
                        refine HT.reg1 [95] [⟨none, .no⟩, ⟨none, .no⟩, ⟨none, .no⟩] ⟨[(95, .one (.dat .bool (y41 != y27.1)))], [(0, .box [.dat (.int .i64) y10.1.1, .all 1]), (1, .seq (.int .i64) y27.2.2)], 2⟩ hP hN (by kernel_rfl) allNil ?_
                        rcases of_bif hr with ⟨hb44, hr⟩ | ⟨hb44, hr⟩
                        · refine HT.cond1 rfl hb44 ?_
                          refine HT.reg1 [2] [⟨none, .no⟩] ⟨[(2, .one (.dat .bool false))], [(0, .box [.dat (.int .i64) y10.1.1, .all 1]), (1, .seq (.int .i64) y27.2.2)], 2⟩ hP hN (by kernel_rfl) allNil ?_
                          have hr := of_some hr
                          subst hr
                          exact HT.ret (qThenR ⟨[.one (.dat .bool false)], [], [], by kernel_rfl, by kernel_rfl, rfl, (.inl rfl), by kernel_rfl, trivial⟩)
                        · refine HT.cond0 rfl hb44 ?_
                          refine HT.skip (qThen ?_)
                          refine HT.reg1 [2] [⟨none, .no⟩] ⟨[(2, .one (.dat .bool true))], [(0, .box [.dat (.int .i64) y10.1.1, .all 1]), (1, .seq (.int .i64) y27.2.2)], 2⟩ hP hN (by kernel_rfl) allNil ?_
                          have hr := of_some hr
                          subst hr
                          exact HT.ret ⟨[.one (.dat .bool true)], [], [], by kernel_rfl, by kernel_rfl, rfl, (.inl rfl), by kernel_rfl, trivial⟩
                  · obtain ⟨y45, hc46, hT39⟩ := of_bind hT39
                    rcases of_bif hT39 with ⟨hb47, hT39⟩ | ⟨hb47, hT39⟩
                    · refine HT.reg (rs := [⟨none, .no⟩, ⟨none, .no⟩, ⟨none, .call [.imm (.st (.pair (.int .i64) (.sl (.int .i64)))), .imm (.st (.pair (.int .i64) (.sl (.int .i64))))] [⟨false, .bool, y45⟩] []⟩, ⟨none, .no⟩, ⟨none, .no⟩, ⟨some true, .no⟩, ⟨some true, .no⟩, ⟨some true, .no⟩, ⟨none, .tv true⟩]) (st' := ⟨[(87, .one (.dat .bool true)), (86, .und), (85, .und), (84, .und), (83, .one (.dat .bool (!y45))), (82, .one (.dat .bool (!y45))), (81, .one (.dat .bool y45)), (80, .agg [.dat (.int .i64) y6.1.1, .all 3]), (79, .agg [.dat (.int .i64) y35.1.1, .all 6]), (4, .one (.ptr 1 0)), (5, .one (.dat .bool y6.2)), (7, .one (.ptr 2 0)), (10, .one (.dat (.int .i64) y27.1)), (12, .one (.ptr 7 0)), (13, .one (.dat .bool y35.2))], [(7, .box [.dat (.int .i64) y35.1.1, .all 6]), (7, .box [.dat (.int .i64) (0 : Int), .nilS]), (6, .seq (.int .i64) y35.1.2), (5, .seq (.int .i64) y33.2), (4, .seq (.int .i64) y27.2.2), (0, .box [.dat (.int .i64) a0.1, .dat (.sl (.int .i64)) a0.2]), (1, .box [.dat (.int .i64) y6.1.1, .all 3]), (2, .box [.dat (.int .i64) y10.1.1, .all 4]), (3, .seq (.int .i64) y6.1.2), (4, .seq (.int .i64) y10.1.2)], 8⟩) hP hN (by kernel_rfl) (allCons (f20_ok hc46) (allCons hb47 (allCons hb47 (allCons hb47 (allCons hb47 allNil))))) (qThen ?_)
                      exact (Le.cv (s := ⟨[(2, 0), (4, 1)], [], [], false⟩) (own := []) (ps := [y27.1 = y27.1, true = true, y10.1.1 = y10.1.1, y27.2.2 = y27.2.2]) (st' := ⟨[(7, .one (.ptr 0 0)), (10, .one (.dat (.int .i64) y27.1)), (87, .one (.dat .bool true))], [(0, .box [.dat (.int .i64) y10.1.1, .all 1]), (1, .seq (.int .i64) y27.2.2)], 2⟩) hO (fun h => by cases h) (by kernel_rfl) ⟨rfl, rfl, rfl, rfl, trivial⟩).ht (cont true (of_some hT39))
                    · refine HT.reg (rs := [⟨none, .no⟩, ⟨none, .no⟩, ⟨none, .call [.imm (.st (.pair (.int .i64) (.sl (.int .i64)))), .imm (.st (.pair (.int .i64) (.sl (.int .i64))))] [⟨false, .bool, y45⟩] []⟩, ⟨none, .no⟩, ⟨none, .no⟩, ⟨some false, .no⟩, ⟨some false, .no⟩, ⟨some false, .no⟩, ⟨none, .tv false⟩]) (st' := ⟨[(87, .one (.dat .bool (y35.2 != y6.2))), (86, .one (.dat .bool (y35.2 != y6.2))), (85, .one (.dat .bool y6.2)), (84, .one (.dat .bool y35.2)), (83, .one (.dat .bool (!y45))), (82, .one (.dat .bool (!y45))), (81, .one (.dat .bool y45)), (80, .agg [.dat (.int .i64) y6.1.1, .all 3]), (79, .agg [.dat (.int .i64) y35.1.1, .all 6]), (4, .one (.ptr 1 0)), (5, .one (.dat .bool y6.2)), (7, .one (.ptr 2 0)), (10, .one (.dat (.int .i64) y27.1)), (12, .one (.ptr 7 0)), (13, .one (.dat .bool y35.2))], [(7, .box [.dat (.int .i64) y35.1.1, .all 6]), (7, .box [.dat (.int .i64) (0 : Int), .nilS]), (6, .seq (.int .i64) y35.1.2), (5, .seq (.int .i64) y33.2), (4, .seq (.int .i64) y27.2.2), (0, .box [.dat (.int .i64) a0.1, .dat (.sl (.int .i64)) a0.2]), (1, .box [.dat (.int .i64) y6.1.1, .all 3]), (2, .box [.dat (.int .i64) y10.1.1, .all 4]), (3, .seq (.int .i64) y6.1.2), (4, .seq (.int .i64) y10.1.2)], 8⟩) hP hN (by kernel_rfl) (allCons (f20_ok hc46) (allCons hb47 (allCons hb47 (allCons hb47 (allCons hb47 allNil))))) (qThen ?_)
                      exact (Le.cv (s := ⟨[(2, 0), (4, 1)], [], [], false⟩) (own := []) (ps := [y27.1 = y27.1, (y35.2 != y6.2) = (y35.2 != y6.2), y10.1.1 = y10.1.1, y27.2.2 = y27.2.2]) (st' := ⟨[(7, .one (.ptr 0 0)), (10, .one (.dat (.int .i64) y27.1)), (87, .one (.dat .bool (y35.2 != y6.2)))], [(0, .box [.dat (.int .i64) y10.1.1, .all 1]), (1, .seq (.int .i64) y27.2.2)], 2⟩) hO (fun h => by cases h) (by kernel_rfl) ⟨rfl, rfl, rfl, rfl, trivial⟩).ht (cont (y35.2 != y6.2) (of_some hT39))
          · rcases of_bif hT25 with ⟨hb48, hT25⟩ | ⟨hb48, hT25⟩
            · refine HT.reg (rs := [⟨none, .no⟩, ⟨none, .no⟩, ⟨none, .no⟩, ⟨some true, .no⟩, ⟨some true, .no⟩, ⟨some true, .no⟩, ⟨some true, .no⟩, ⟨none, .tv true⟩, ⟨none, .no⟩, ⟨some true, .no⟩, ⟨some true, .no⟩, ⟨some true, .no⟩, ⟨none, .tv true⟩]) (st' := ⟨[(61, .one (.dat .bool true)), (60, .und), (59, .und), (58, .und), (57, .one (.dat .bool true)), (56, .one (.dat .bool true)), (55, .und), (54, .und), (53, .und), (52, .und), (51, .one (.dat .bool (decide (y21.1 < (0 : Int))))), (50, .one (.dat .bool (decide (y21.1 < (0 : Int))))), (49, .one (.dat (.int .i64) y21.1)), (1, .one (.ptr 0 0)), (4, .one (.ptr 1 0)), (5, .one (.dat .bool y6.2)), (7, .one (.ptr 3 0)), (8, .one (.dat .bool y10.2)), (9, .one (.dat (.int .i64) y21.1))], [(5, .seq (.int .i64) y21.2.2), (7, .seq (.int .i64) y16.2), (0, .box [.dat (.int .i64) a0.1, .dat (.sl (.int .i64)) a0.2]), (1, .box [.dat (.int .i64) y6.1.1, .all 4]), (2, .box [.dat (.int .i64) y8.1, .all 5]), (3, .box [.dat (.int .i64) y10.1.1, .all 6]), (4, .seq (.int .i64) y6.1.2), (5, .seq (.int .i64) y8.2), (6, .seq (.int .i64) y10.1.2)], 8⟩) hP hN (by kernel_rfl) (allCons hb48 (allCons hb48 (allCons hb48 (allCons hb48 (allCons hb48 (allCons (rfl : true = true) (allCons (rfl : true = true) (allCons (rfl : true = true) (allCons (rfl : true = true) allNil))))))))) (qThen ?_)
              exact (Le.cv (s := ⟨[(0, 0), (1, 1), (3, 2), (4, 3), (6, 4)], [], [], false⟩) (own := []) (ps := [y6.2 = y6.2, true = true, a0.1 = a0.1, a0.2 = a0.2, y6.1.1 = y6.1.1, y10.1.1 = y10.1.1, y6.1.2 = y6.1.2, y10.1.2 = y10.1.2]) (st' := ⟨[(1, .one (.ptr 0 0)), (4, .one (.ptr 1 0)), (5, .one (.dat .bool y6.2)), (7, .one (.ptr 2 0)), (61, .one (.dat .bool true))], [(0, .box [.dat (.int .i64) a0.1, .dat (.sl (.int .i64)) a0.2]), (1, .box [.dat (.int .i64) y6.1.1, .all 3]), (2, .box [.dat (.int .i64) y10.1.1, .all 4]), (3, .seq (.int .i64) y6.1.2), (4, .seq (.int .i64) y10.1.2)], 5⟩) hO (fun h => by cases h) (by kernel_rfl) ⟨rfl, rfl, rfl, rfl, rfl, rfl, rfl, rfl, trivial⟩).ht (cont true (of_some hT25))
            · obtain ⟨y49, hc50, hT25⟩ := of_bind hT25
              rcases of_bif hT25 with ⟨hb51, hT25⟩ | ⟨hb51, hT25⟩
              · refine HT.reg (rs := [⟨none, .no⟩, ⟨none, .no⟩, ⟨none, .no⟩, ⟨some false, .no⟩, ⟨some false, .no⟩, ⟨some false, .call [.imm (.st (.pair (.int .i64) (.sl (.int .i64)))), .imm (.st (.pair (.int .i64) (.sl (.int .i64))))] [⟨false, .bool, y49⟩] []⟩, ⟨some false, .no⟩, ⟨none, .tv false⟩, ⟨none, .no⟩, ⟨some true, .no⟩, ⟨some true, .no⟩, ⟨some true, .no⟩, ⟨none, .tv true⟩]) (st' := ⟨[(61, .one (.dat .bool true)), (60, .und), (59, .und), (58, .und), (57, .one (.dat .bool (!y49))), (56, .one (.dat .bool (!y49))), (55, .one (.dat .bool (!y49))), (54, .one (.dat .bool y49)), (53, .agg [.dat (.int .i64) y6.1.1, .all 4]), (52, .agg [.dat (.int .i64) y10.1.1, .all 6]), (51, .one (.dat .bool (decide (y21.1 < (0 : Int))))), (50, .one (.dat .bool (decide (y21.1 < (0 : Int))))), (49, .one (.dat (.int .i64) y21.1)), (1, .one (.ptr 0 0)), (4, .one (.ptr 1 0)), (5, .one (.dat .bool y6.2)), (7, .one (.ptr 3 0)), (8, .one (.dat .bool y10.2)), (9, .one (.dat (.int .i64) y21.1))], [(5, .seq (.int .i64) y21.2.2), (7, .seq (.int .i64) y16.2), (0, .box [.dat (.int .i64) a0.1, .dat (.sl (.int .i64)) a0.2]), (1, .box [.dat (.int .i64) y6.1.1, .all 4]), (2, .box [.dat (.int .i64) y8.1, .all 5]), (3, .box [.dat (.int .i64) y10.1.1, .all 6]), (4, .seq (.int .i64) y6.1.2), (5, .seq (.int .i64) y8.2), (6, .seq (.int .i64) y10.1.2)], 8⟩) hP hN (by kernel_rfl) (allCons hb48 (allCons hb48 (allCons hb48 (allCons (f20_ok hc50) (allCons hb48 (allCons hb48 (allCons hb51 (allCons hb51 (allCons hb51 (allCons hb51 allNil)))))))))) (qThen ?_)
                exact (Le.cv (s := ⟨[(0, 0), (1, 1), (3, 2), (4, 3), (6, 4)], [], [], false⟩) (own := []) (ps := [y6.2 = y6.2, true = true, a0.1 = a0.1, a0.2 = a0.2, y6.1.1 = y6.1.1, y10.1.1 = y10.1.1, y6.1.2 = y6.1.2, y10.1.2 = y10.1.2]) (st' := ⟨[(1, .one (.ptr 0 0)), (4, .one (.ptr 1 0)), (5, .one (.dat .bool y6.2)), (7, .one (.ptr 2 0)), (61, .one (.dat .bool true))], [(0, .box [.dat (.int .i64) a0.1, .dat (.sl (.int .i64)) a0.2]), (1, .box [.dat (.int .i64) y6.1.1, .all 3]), (2, .box [.dat (.int .i64) y10.1.1, .all 4]), (3, .seq (.int .i64) y6.1.2), (4, .seq (.int .i64) y10.1.2)], 5⟩) hO (fun h => by cases h) (by kernel_rfl) ⟨rfl, rfl, rfl, rfl, rfl, rfl, rfl, rfl, trivial⟩).ht (cont true (of_some hT25))
              · refine HT.reg (rs := [⟨none, .no⟩, ⟨none, .no⟩, ⟨none, .no⟩, ⟨some false, .no⟩, ⟨some false, .no⟩, ⟨some false, .call [.imm (.st (.pair (.int .i64) (.sl (.int .i64)))), .imm (.st (.pair (.int .i64) (.sl (.int .i64))))] [⟨false, .bool, y49⟩] []⟩, ⟨some false, .no⟩, ⟨none, .tv false⟩, ⟨none, .no⟩, ⟨some false, .no⟩, ⟨some false, .no⟩, ⟨some false, .no⟩, ⟨none, .tv false⟩]) (st' := ⟨[(61, .one (.dat .bool (y10.2 != y6.2))), (60, .one (.dat .bool (y10.2 != y6.2))), (59, .one (.dat .bool y6.2)), (58, .one (.dat .bool y10.2)), (57, .one (.dat .bool (!y49))), (56, .one (.dat .bool (!y49))), (55, .one (.dat .bool (!y49))), (54, .one (.dat .bool y49)), (53, .agg [.dat (.int .i64) y6.1.1, .all 4]), (52, .agg [.dat (.int .i64) y10.1.1, .all 6]), (51, .one (.dat .bool (decide (y21.1 < (0 : Int))))), (50, .one (.dat .bool (decide (y21.1 < (0 : Int))))), (49, .one (.dat (.int .i64) y21.1)), (1, .one (.ptr 0 0)), (4, .one (.ptr 1 0)), (5, .one (.dat .bool y6.2)), (7, .one (.ptr 3 0)), (8, .one (.dat .bool y10.2)), (9, .one (.dat (.int .i64) y21.1))], [(5, .seq (.int .i64) y21.2.2), (7, .seq (.int .i64) y16.2), (0, .box [.dat (.int .i64) a0.1, .dat (.sl (.int .i64)) a0.2]), (1, .box [.dat (.int .i64) y6.1.1, .all 4]), (2, .box [.dat (.int .i64) y8.1, .all 5]), (3, .box [.dat (.int .i64) y10.1.1, .all 6]), (4, .seq (.int .i64) y6.1.2), (5, .seq (.int .i64) y8.2), (6, .seq (.int .i64) y10.1.2)], 8⟩) hP hN (by kernel_rfl) (allCons hb48 (allCons hb48 (allCons hb48 (allCons (f20_ok hc50) (allCons hb48 (allCons hb48 (allCons hb51 (allCons hb51 (allCons hb51 (allCons hb51 allNil)))))))))) (qThen ?_)
                exact (Le.cv (s := ⟨[(0, 0), (1, 1), (3, 2), (4, 3), (6, 4)], [], [], false⟩) (own := []) (ps := [y6.2 = y6.2, (y10.2 != y6.2) = (y10.2 != y6.2), a0.1 = a0.1, a0.2 = a0.2, y6.1.1 = y6.1.1, y10.1.1 = y10.1.1, y6.1.2 = y6.1.2, y10.1.2 = y10.1.2]) (st' := ⟨[(1, .one (.ptr 0 0)), (4, .one (.ptr 1 0)), (5, .one (.dat .bool y6.2)), (7, .one (.ptr 2 0)), (61, .one (.dat .bool (y10.2 != y6.2)))], [(0, .box [.dat (.int .i64) a0.1, .dat (.sl (.int .i64)) a0.2]), (1, .box [.dat (.int .i64) y6.1.1, .all 3]), (2, .box [.dat (.int .i64) y10.1.1, .all 4]), (3, .seq (.int .i64) y6.1.2), (4, .seq (.int .i64) y10.1.2)], 5⟩) hO (fun h => by cases h) (by kernel_rfl) ⟨rfl, rfl, rfl, rfl, rfl, rfl, rfl, rfl, trivial⟩).ht (cont (y10.2 != y6.2) (of_some hT25))
    · obtain ⟨y52, hc53, hT14⟩ := of_bind hT14
      rcases of_bif hT14 with ⟨hb54, hT14⟩ | ⟨hb54, hT14⟩
      · refine HT.reg (rs := [⟨none, .no⟩, ⟨none, .no⟩, ⟨none, .call [.imm (.st (.pair (.int .i64) (.sl (.int .i64)))), .imm (.st (.pair (.int .i64) (.sl (.int .i64))))] [⟨false, .bool, y52⟩] []⟩, ⟨none, .no⟩, ⟨none, .no⟩, ⟨some true, .no⟩, ⟨some true, .no⟩, ⟨some true, .no⟩, ⟨none, .tv true⟩]) (st' := ⟨[(40, .one (.dat .bool true)), (39, .und), (38, .und), (37, .und), (36, .one (.dat .bool (!y52))), (35, .one (.dat .bool (!y52))), (34, .one (.dat .bool y52)), (33, .agg [.dat (.int .i64) y6.1.1, .all 2]), (32, .agg [.dat (.int .i64) y10.1.1, .all 6]), (1, .one (.ptr 0 0)), (4, .one (.ptr 3 0)), (5, .one (.dat .bool y6.2)), (6, .one (.ptr 5 0)), (7, .one (.ptr 7 0)), (8, .one (.dat .bool y10.2))], [(7, .box [.dat (.int .i64) y10.1.1, .all 6]), (7, .box [.dat (.int .i64) (0 : Int), .nilS]), (6, .seq (.int .i64) y10.1.2), (5, .box [.dat (.int .i64) y8.1, .all 4]), (5, .box [.dat (.int .i64) (0 : Int), .nilS]), (4, .seq (.int .i64) y8.2), (3, .box [.dat (.int .i64) y6.1.1, .all 2]), (3, .box [.dat (.int .i64) (0 : Int), .nilS]), (2, .seq (.int .i64) y6.1.2), (1, .seq (.int .i64) y4.2), (0, .box [.dat (.int .i64) a0.1, .dat (.sl (.int .i64)) a0.2])], 8⟩) hP hN (by kernel_rfl) (allCons (f20_ok hc53) (allCons hb54 (allCons hb54 (allCons hb54 (allCons hb54 allNil))))) (qThen ?_)
        exact (Le.cv (s := ⟨[(0, 0), (3, 1), (5, 2), (7, 3), (2, 4), (4, 5), (6, 6)], [], [], false⟩) (own := []) (ps := [y6.2 = y6.2, y10.2 = y10.2, true = true, a0.1 = a0.1, a0.2 = a0.2, y6.1.1 = y6.1.1, y8.1 = y8.1, y10.1.1 = y10.1.1, y6.1.2 = y6.1.2, y8.2 = y8.2, y10.1.2 = y10.1.2]) (st' := ⟨[(1, .one (.ptr 0 0)), (4, .one (.ptr 1 0)), (5, .one (.dat .bool y6.2)), (6, .one (.ptr 2 0)), (7, .one (.ptr 3 0)), (8, .one (.dat .bool y10.2)), (40, .one (.dat .bool true))], [(0, .box [.dat (.int .i64) a0.1, .dat (.sl (.int .i64)) a0.2]), (1, .box [.dat (.int .i64) y6.1.1, .all 4]), (2, .box [.dat (.int .i64) y8.1, .all 5]), (3, .box [.dat (.int .i64) y10.1.1, .all 6]), (4, .seq (.int .i64) y6.1.2), (5, .seq (.int .i64) y8.2), (6, .seq (.int .i64) y10.1.2)], 7⟩) hO (fun h => by cases h) (by kernel_rfl) ⟨rfl, rfl, rfl, rfl, rfl, rfl, rfl, rfl, rfl, rfl, rfl, trivial⟩).ht (cont true (of_some hT14))
      · refine HT.reg (rs := [⟨none, .no⟩, ⟨none, .no⟩, ⟨none, .call [.imm (.st (.pair (.int .i64) (.sl (.int .i64)))), .imm (.st (.pair (.int .i64) (.sl (.int .i64))))] [⟨false, .bool, y52⟩] []⟩, ⟨none, .no⟩, ⟨none, .no⟩, ⟨some false, .no⟩, ⟨some false, .no⟩, ⟨some false, .no⟩, ⟨none, .tv false⟩]) (st' := ⟨[(40, .one (.dat .bool (y10.2 != y6.2))), (39, .one (.dat .bool (y10.2 != y6.2))), (38, .one (.dat .bool y6.2)), (37, .one (.dat .bool y10.2)), (36, .one (.dat .bool (!y52))), (35, .one (.dat .bool (!y52))), (34, .one (.dat .bool y52)), (33, .agg [.dat (.int .i64) y6.1.1, .all 2]), (32, .agg [.dat (.int .i64) y10.1.1, .all 6]), (1, .one (.ptr 0 0)), (4, .one (.ptr 3 0)), (5, .one (.dat .bool y6.2)), (6, .one (.ptr 5 0)), (7, .one (.ptr 7 0)), (8, .one (.dat .bool y10.2))], [(7, .box [.dat (.int .i64) y10.1.1, .all 6]), (7, .box [.dat (.int .i64) (0 : Int), .nilS]), (6, .seq (.int .i64) y10.1.2), (5, .box [.dat (.int .i64) y8.1, .all 4]), (5, .box [.dat (.int .i64) (0 : Int), .nilS]), (4, .seq (.int .i64) y8.2), (3, .box [.dat (.int .i64) y6.1.1, .all 2]), (3, .box [.dat (.int .i64) (0 : Int), .nilS]), (2, .seq (.int .i64) y6.1.2), (1, .seq (.int .i64) y4.2), (0, .box [.dat (.int .i64) a0.1, .dat (.sl (.int .i64)) a0.2])], 8⟩) hP hN (by kernel_rfl) (allCons (f20_ok hc53) (allCons hb54 (allCons hb54 (allCons hb54 (allCons hb54 allNil))))) (qThen ?_)
        exact (Le.cv (s := ⟨[(0, 0), (3, 1), (5, 2), (7, 3), (2, 4), (4, 5), (6, 6)], [], [], false⟩) (own := []) (ps := [y6.2 = y6.2, y10.2 = y10.2, (y10.2 != y6.2) = (y10.2 != y6.2), a0.1 = a0.1, a0.2 = a0.2, y6.1.1 = y6.1.1, y8.1 = y8.1, y10.1.1 = y10.1.1, y6.1.2 = y6.1.2, y8.2 = y8.2, y10.1.2 = y10.1.2]) (st' := ⟨[(1, .one (.ptr 0 0)), (4, .one (.ptr 1 0)), (5, .one (.dat .bool y6.2)), (6, .one (.ptr 2 0)), (7, .one (.ptr 3 0)), (8, .one (.dat .bool y10.2)), (40, .one (.dat .bool (y10.2 != y6.2)))], [(0, .box [.dat (.int .i64) a0.1, .dat (.sl (.int .i64)) a0.2]), (1, .box [.dat (.int .i64) y6.1.1, .all 4]), (2, .box [.dat (.int .i64) y8.1, .all 5]), (3, .box [.dat (.int .i64) y10.1.1, .all 6]), (4, .seq (.int .i64) y6.1.2), (5, .seq (.int .i64) y8.2), (6, .seq (.int .i64) y10.1.2)], 7⟩) hO (fun h => by cases h) (by kernel_rfl) ⟨rfl, rfl, rfl, rfl, rfl, rfl, rfl, rfl, rfl, rfl, rfl, trivial⟩).ht (cont (y10.2 != y6.2) (of_some hT14))

end Go.Proofs
