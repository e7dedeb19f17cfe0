/-
  Functions as plain functions, and their contracts. Printed by a program.
-/
import Derived.Test.YthkikckjkhnmlaaGenA
namespace Go.Proofs
open Go.Ide

noncomputable def laws_FnExactNormalLoop (a0 : List Int × List Int) (a1 : Int) : Option (Bool) :=
  (laws_szLoop (a0.1, a0.2) (1048576 : Int)).bind fun y1 =>
  bif (decide (y1 < (0 : Int))) then
    some true
  else
    (laws_toLoop (a0.1, a0.2)).bind fun y4 =>
    (spec_NormalLoop (y4.1, y4.2) a1).bind fun y6 =>
    (laws_toLoop (a0.1, a0.2)).bind fun y8 =>
    (impl_NormalLoop (y8.1, y8.2) a1).bind fun y10 =>
    (show Option (Bool) from
      (laws_eqLoop (y10.1.1, y10.1.2) (y6.1.1, y6.1.2)).bind fun y52 =>
      bif (!y52) then
        some true
      else
        some (y10.2 != y6.2)).bind fun v12 =>
    bif v12 then
      some false
    else
      (laws_toLoop (a0.1, a0.2)).bind fun y16 =>
      (laws_eqLoop (y8.1, y8.2) (y16.1, y16.2)).bind fun y18 =>
      bif (!y18) then
        some false
      else
        (laws_markLoop (y8.1, y8.2) (1 : Int)).bind fun y21 =>
        (show Option (Bool) from
          bif (decide (y21.1 < (0 : Int))) then
            some true
          else
            (laws_eqLoop (y10.1.1, y10.1.2) (y6.1.1, y6.1.2)).bind fun y49 =>
            bif (!y49) then
              some true
            else
              some (y10.2 != y6.2)).bind fun v23 =>
        bif v23 then
          some false
        else
          (laws_markLoop (y10.1.1, y10.1.2) (1 : Int)).bind fun y27 =>
          (laws_heldLoop (y27.2.1, y27.2.2) (1 : Int)).bind fun y29 =>
          bif (decide (y29 < (0 : Int))) then
            some false
          else
            bif (y29 != y27.1) then
              some false
            else
              (laws_toLoop (a0.1, a0.2)).bind fun y33 =>
              (impl_NormalLoop (y33.1, y33.2) a1).bind fun y35 =>
              (show Option (Bool) from
                (laws_eqLoop (y35.1.1, y35.1.2) (y6.1.1, y6.1.2)).bind fun y45 =>
                bif (!y45) then
                  some true
                else
                  some (y35.2 != y6.2)).bind fun v37 =>
              bif v37 then
                some false
              else
                (laws_heldLoop (y27.2.1, y27.2.2) (1 : Int)).bind fun y41 =>
                bif (decide (y41 < (0 : Int))) then
                  some false
                else
                  bif (y41 != y27.1) then
                    some false
                  else
                    some true

theorem f3_ok {a0 : List Int × List Int} {a1 : Int} {r : Bool} (hr : laws_FnExactNormalLoop a0 a1 = some r) : CallOK Try.prog 3 [.imm (.st (.pair (.sl (.int .i64)) (.sl (.int .i64)))) a0, .imm (.int .i64) a1] [⟨false, .bool, r⟩] [] := by
  unfold laws_FnExactNormalLoop at hr
  refine CallOK.of_body (ts := [(false, .bool)]) Try.func3 rfl (by kernel_rfl) (Nat.le_of_ble_eq_true (by kernel_rfl)) fun cx hP hN hO hF => ?_
  have hO : cx.own.map Prod.fst = [] := hO
  show HT cx ⟨[(0, .agg [.dat (.sl (.int .i64)) a0.1, .dat (.sl (.int .i64)) a0.2]), (1, .one (.dat (.int .i64) a1))], [], 0⟩ _ _
  refine HT.reg1 [1, 2] [⟨none, .no⟩, ⟨none, .no⟩] ⟨[(1, .one (.dat (.int .i64) a1)), (2, .one (.ptr 0 0))], [(0, .box [.dat (.sl (.int .i64)) a0.1, .dat (.sl (.int .i64)) a0.2])], 1⟩ hP hN (by kernel_rfl) allNil ?_
  refine HT.reg1 [1, 2, 5] [⟨none, .no⟩] ⟨[(1, .one (.dat (.int .i64) a1)), (2, .one (.ptr 0 0)), (5, .one (.dat (.int .i64) (1048576 : Int)))], [(0, .box [.dat (.sl (.int .i64)) a0.1, .dat (.sl (.int .i64)) a0.2])], 1⟩ hP hN (by kernel_rfl) allNil ?_
  obtain ⟨y1, hc2, hr⟩ := of_bind hr
  refine HT.reg1 [1, 2, 5] [⟨none, .no⟩, ⟨none, .no⟩, ⟨none, .call [.imm (.st (.pair (.sl (.int .i64)) (.sl (.int .i64)))), .imm (.int .i64)] [⟨false, (.int .i64), y1⟩] []⟩, ⟨none, .no⟩] ⟨[(1, .one (.dat (.int .i64) a1)), (2, .one (.ptr 0 0)), (5, .one (.dat (.int .i64) y1))], [(0, .box [.dat (.sl (.int .i64)) a0.1, .dat (.sl (.int .i64)) a0.2])], 1⟩ hP hN (by kernel_rfl) (allCons (f9_ok hc2) allNil) ?_
  refine HT.seq ?_
  refine HT.reg1 [1, 2, 20] [⟨none, .no⟩, ⟨none, .no⟩] ⟨[(1, .one (.dat (.int .i64) a1)), (2, .one (.ptr 0 0)), (20, .one (.dat .bool (decide (y1 < (0 : Int)))))], [(0, .box [.dat (.sl (.int .i64)) a0.1, .dat (.sl (.int .i64)) a0.2])], 1⟩ hP hN (by kernel_rfl) allNil ?_
  rcases of_bif hr with ⟨hb3, hr⟩ | ⟨hb3, hr⟩
  · refine HT.cond1 rfl hb3 ?_
    refine HT.reg1 [4] [⟨none, .no⟩] ⟨[(4, .one (.dat .bool true))], [(0, .box [.dat (.sl (.int .i64)) a0.1, .dat (.sl (.int .i64)) a0.2])], 1⟩ hP hN (by kernel_rfl) allNil ?_
    have hr := of_some hr
    subst hr
    exact HT.ret (qThenR ⟨[.one (.dat .bool true)], [], [], by kernel_rfl, by kernel_rfl, rfl, (.inl rfl), by kernel_rfl, trivial⟩)
  · refine HT.cond0 rfl hb3 ?_
    refine HT.skip (qThen ?_)
    obtain ⟨y4, hc5, hr⟩ := of_bind hr
    obtain ⟨y6, hc7, hr⟩ := of_bind hr
    refine HT.reg1 [1, 2, 6, 7] [⟨none, .no⟩, ⟨none, .call [.imm (.st (.pair (.sl (.int .i64)) (.sl (.int .i64))))] [⟨true, (.st (.pair (.sl (.int .i64)) (.sl (.int .i64)))), y4⟩] []⟩, ⟨none, .no⟩, ⟨none, .call [.imm (.st (.pair (.sl (.int .i64)) (.sl (.int .i64)))), .imm (.int .i64)] [⟨true, (.st (.pair (.sl (.int .i64)) (.sl (.int .i64)))), y6.1⟩, ⟨false, .bool, y6.2⟩] []⟩, ⟨none, .no⟩, ⟨none, .no⟩, ⟨none, .no⟩, ⟨none, .no⟩, ⟨none, .no⟩, ⟨none, .no⟩] ⟨[(1, .one (.dat (.int .i64) a1)), (2, .one (.ptr 0 0)), (6, .one (.ptr 5 0)), (7, .one (.dat .bool y6.2))], [(5, .box [.all 3, .all 4]), (5, .box [.nilS, .nilS]), (3, .seq (.int .i64) y6.1.1), (4, .seq (.int .i64) y6.1.2), (1, .seq (.int .i64) y4.1), (2, .seq (.int .i64) y4.2), (0, .box [.dat (.sl (.int .i64)) a0.1, .dat (.sl (.int .i64)) a0.2])], 6⟩ hP hN (by kernel_rfl) (allCons (f11_ok hc5) (allCons (f10_ok hc7) allNil)) ?_
    obtain ⟨y8, hc9, hr⟩ := of_bind hr
    refine HT.reg1 [1, 2, 6, 7, 8] [⟨none, .no⟩, ⟨none, .call [.imm (.st (.pair (.sl (.int .i64)) (.sl (.int .i64))))] [⟨true, (.st (.pair (.sl (.int .i64)) (.sl (.int .i64)))), y8⟩] []⟩, ⟨none, .no⟩, ⟨none, .no⟩] ⟨[(1, .one (.dat (.int .i64) a1)), (2, .one (.ptr 0 0)), (6, .one (.ptr 5 0)), (7, .one (.dat .bool y6.2)), (8, .one (.ptr 8 0))], [(8, .box [.all 6, .all 7]), (8, .box [.nilS, .nilS]), (6, .seq (.int .i64) y8.1), (7, .seq (.int .i64) y8.2), (5, .box [.all 3, .all 4]), (5, .box [.nilS, .nilS]), (3, .seq (.int .i64) y6.1.1), (4, .seq (.int .i64) y6.1.2), (1, .seq (.int .i64) y4.1), (2, .seq (.int .i64) y4.2), (0, .box [.dat (.sl (.int .i64)) a0.1, .dat (.sl (.int .i64)) a0.2])], 9⟩ hP hN (by kernel_rfl) (allCons (f11_ok hc9) allNil) ?_
    obtain ⟨y10, hc11, hr⟩ := of_bind hr
    refine HT.reg1 [1, 2, 6, 7, 8, 9, 10] [⟨none, .no⟩, ⟨none, .no⟩, ⟨none, .call [.imm (.st (.pair (.sl (.int .i64)) (.sl (.int .i64)))), .imm (.int .i64)] [⟨true, (.st (.pair (.sl (.int .i64)) (.sl (.int .i64)))), y10.1⟩, ⟨false, .bool, y10.2⟩] []⟩, ⟨none, .no⟩, ⟨none, .no⟩, ⟨none, .no⟩, ⟨none, .no⟩, ⟨none, .no⟩, ⟨none, .no⟩] ⟨[(1, .one (.dat (.int .i64) a1)), (2, .one (.ptr 0 0)), (6, .one (.ptr 5 0)), (7, .one (.dat .bool y6.2)), (8, .one (.ptr 8 0)), (9, .one (.ptr 11 0)), (10, .one (.dat .bool y10.2))], [(11, .box [.all 9, .all 10]), (11, .box [.nilS, .nilS]), (9, .seq (.int .i64) y10.1.1), (10, .seq (.int .i64) y10.1.2), (8, .box [.all 6, .all 7]), (8, .box [.nilS, .nilS]), (6, .seq (.int .i64) y8.1), (7, .seq (.int .i64) y8.2), (5, .box [.all 3, .all 4]), (5, .box [.nilS, .nilS]), (3, .seq (.int .i64) y6.1.1), (4, .seq (.int .i64) y6.1.2), (1, .seq (.int .i64) y4.1), (2, .seq (.int .i64) y4.2), (0, .box [.dat (.sl (.int .i64)) a0.1, .dat (.sl (.int .i64)) a0.2])], 12⟩ hP hN (by kernel_rfl) (allCons (f12_ok hc11) allNil) ?_
    refine HT.seq ?_
    obtain ⟨v12', hT14, hr⟩ := of_bind hr
    refine HT.join (fun (v12 : Bool) => ⟨[(1, .one (.dat (.int .i64) a1)), (2, .one (.ptr 0 0)), (6, .one (.ptr 1 0)), (7, .one (.dat .bool y6.2)), (8, .one (.ptr 2 0)), (9, .one (.ptr 3 0)), (10, .one (.dat .bool y10.2)), (44, .one (.dat .bool v12))], [(0, .box [.dat (.sl (.int .i64)) a0.1, .dat (.sl (.int .i64)) a0.2]), (1, .box [.all 4, .all 5]), (2, .box [.all 6, .all 7]), (3, .box [.all 8, .all 9]), (4, .seq (.int .i64) y6.1.1), (5, .seq (.int .i64) y6.1.2), (6, .seq (.int .i64) y8.1), (7, .seq (.int .i64) y8.2), (8, .seq (.int .i64) y10.1.1), (9, .seq (.int .i64) y10.1.2)], 10⟩) (fun v => v = v12') (fun v12 hv13 => ?_) (fun cont => ?_)
    · subst hv13
      rcases of_bif hr with ⟨hb15, hr⟩ | ⟨hb15, hr⟩
      · refine HT.cond1 rfl hb15 ?_
        refine HT.reg1 [4] [⟨none, .no⟩] ⟨[(4, .one (.dat .bool false))], [(0, .box [.dat (.sl (.int .i64)) a0.1, .dat (.sl (.int .i64)) a0.2]), (1, .box [.all 4, .all 5]), (2, .box [.all 6, .all 7]), (3, .box [.all 8, .all 9]), (4, .seq (.int .i64) y6.1.1), (5, .seq (.int .i64) y6.1.2), (6, .seq (.int .i64) y8.1), (7, .seq (.int .i64) y8.2), (8, .seq (.int .i64) y10.1.1), (9, .seq (.int .i64) y10.1.2)], 10⟩ hP hN (by kernel_rfl) allNil ?_
        have hr := of_some hr
        subst hr
        exact HT.ret (qThenR ⟨[.one (.dat .bool false)], [], [], by kernel_rfl, by kernel_rfl, rfl, (.inl rfl), by kernel_rfl, trivial⟩)
      · refine HT.cond0 rfl hb15 ?_
        refine HT.skip (qThen ?_)
        refine HT.seq ?_
        obtain ⟨y16, hc17, hr⟩ := of_bind hr
        obtain ⟨y18, hc19, hr⟩ := of_bind hr
        refine HT.drw1 [1, 2, 6, 7, 8, 9, 10, 49] 3 [⟨⟨none, .no⟩, []⟩, ⟨⟨none, .no⟩, []⟩, ⟨⟨none, .call [.imm (.st (.pair (.sl (.int .i64)) (.sl (.int .i64))))] [⟨true, (.st (.pair (.sl (.int .i64)) (.sl (.int .i64)))), y16⟩] []⟩, [1]⟩] [[0, 1, 2], [0, 1, 2, 3]] [⟨none, .call [.imm (.st (.pair (.sl (.int .i64)) (.sl (.int .i64)))), .imm (.st (.pair (.sl (.int .i64)) (.sl (.int .i64))))] [⟨false, .bool, y18⟩] []⟩, ⟨none, .no⟩] ⟨[(1, .one (.dat (.int .i64) a1)), (2, .one (.ptr 0 0)), (6, .one (.ptr 1 0)), (7, .one (.dat .bool y6.2)), (8, .one (.ptr 2 0)), (9, .one (.ptr 3 0)), (10, .one (.dat .bool y10.2)), (49, .one (.dat .bool (!y18)))], [(10, .seq (.int .i64) y16.1), (11, .seq (.int .i64) y16.2), (0, .box [.dat (.sl (.int .i64)) a0.1, .dat (.sl (.int .i64)) a0.2]), (1, .box [.all 4, .all 5]), (2, .box [.all 6, .all 7]), (3, .box [.all 8, .all 9]), (4, .seq (.int .i64) y6.1.1), (5, .seq (.int .i64) y6.1.2), (6, .seq (.int .i64) y8.1), (7, .seq (.int .i64) y8.2), (8, .seq (.int .i64) y10.1.1), (9, .seq (.int .i64) y10.1.2)], 12⟩ hP hN (by kernel_rfl) (by kernel_rfl) (allCons (f11_ok hc17) (allCons (f13_ok hc19) allNil)) ?_
        rcases of_bif hr with ⟨hb20, hr⟩ | ⟨hb20, hr⟩
        · refine HT.cond1 rfl hb20 ?_
          refine HT.reg1 [4] [⟨none, .no⟩] ⟨[(4, .one (.dat .bool false))], [(10, .seq (.int .i64) y16.1), (11, .seq (.int .i64) y16.2), (0, .box [.dat (.sl (.int .i64)) a0.1, .dat (.sl (.int .i64)) a0.2]), (1, .box [.all 4, .all 5]), (2, .box [.all 6, .all 7]), (3, .box [.all 8, .all 9]), (4, .seq (.int .i64) y6.1.1), (5, .seq (.int .i64) y6.1.2), (6, .seq (.int .i64) y8.1), (7, .seq (.int .i64) y8.2), (8, .seq (.int .i64) y10.1.1), (9, .seq (.int .i64) y10.1.2)], 12⟩ hP hN (by kernel_rfl) allNil ?_
          have hr := of_some hr
          subst hr
          exact HT.ret (qThenR ⟨[.one (.dat .bool false)], [], [], by kernel_rfl, by kernel_rfl, rfl, (.inl rfl), by kernel_rfl, trivial⟩)
        · refine HT.cond0 rfl hb20 ?_
          refine HT.skip (qThen ?_)
          refine HT.reg1 [1, 2, 6, 7, 8, 9, 10, 11] [⟨none, .no⟩] ⟨[(1, .one (.dat (.int .i64) a1)), (2, .one (.ptr 0 0)), (6, .one (.ptr 1 0)), (7, .one (.dat .bool y6.2)), (8, .one (.ptr 2 0)), (9, .one (.ptr 3 0)), (10, .one (.dat .bool y10.2)), (11, .one (.dat (.int .i64) (1 : Int)))], [(10, .seq (.int .i64) y16.1), (11, .seq (.int .i64) y16.2), (0, .box [.dat (.sl (.int .i64)) a0.1, .dat (.sl (.int .i64)) a0.2]), (1, .box [.all 4, .all 5]), (2, .box [.all 6, .all 7]), (3, .box [.all 8, .all 9]), (4, .seq (.int .i64) y6.1.1), (5, .seq (.int .i64) y6.1.2), (6, .seq (.int .i64) y8.1), (7, .seq (.int .i64) y8.2), (8, .seq (.int .i64) y10.1.1), (9, .seq (.int .i64) y10.1.2)], 12⟩ hP hN (by kernel_rfl) allNil ?_
          obtain ⟨y21, hc22, hr⟩ := of_bind hr
          refine HT.reg1 [1, 2, 6, 7, 9, 10, 11] [⟨none, .no⟩, ⟨none, .no⟩, ⟨none, .call [.own (.st (.pair (.sl (.int .i64)) (.sl (.int .i64)))), .imm (.int .i64)] [⟨false, (.int .i64), y21.1⟩] [⟨(.st (.pair (.sl (.int .i64)) (.sl (.int .i64)))), y21.2⟩]⟩, ⟨none, .no⟩] ⟨[(1, .one (.dat (.int .i64) a1)), (2, .one (.ptr 0 0)), (6, .one (.ptr 1 0)), (7, .one (.dat .bool y6.2)), (9, .one (.ptr 3 0)), (10, .one (.dat .bool y10.2)), (11, .one (.dat (.int .i64) y21.1))], [(6, .seq (.int .i64) y21.2.1), (7, .seq (.int .i64) y21.2.2), (10, .seq (.int .i64) y16.1), (11, .seq (.int .i64) y16.2), (0, .box [.dat (.sl (.int .i64)) a0.1, .dat (.sl (.int .i64)) a0.2]), (1, .box [.all 4, .all 5]), (2, .box [.all 6, .all 7]), (3, .box [.all 8, .all 9]), (4, .seq (.int .i64) y6.1.1), (5, .seq (.int .i64) y6.1.2), (6, .seq (.int .i64) y8.1), (7, .seq (.int .i64) y8.2), (8, .seq (.int .i64) y10.1.1), (9, .seq (.int .i64) y10.1.2)], 12⟩ hP hN (by kernel_rfl) (allCons (f14_ok hc22) allNil) ?_
          refine HT.seq ?_
          obtain ⟨v23', hT25, hr⟩ := of_bind hr
          refine HT.join (fun (v23 : Bool) => ⟨[(1, .one (.dat (.int .i64) a1)), (2, .one (.ptr 0 0)), (6, .one (.ptr 1 0)), (7, .one (.dat .bool y6.2)), (9, .one (.ptr 2 0)), (65, .one (.dat .bool v23))], [(0, .box [.dat (.sl (.int .i64)) a0.1, .dat (.sl (.int .i64)) a0.2]), (1, .box [.all 3, .all 4]), (2, .box [.all 5, .all 6]), (3, .seq (.int .i64) y6.1.1), (4, .seq (.int .i64) y6.1.2), (5, .seq (.int .i64) y10.1.1), (6, .seq (.int .i64) y10.1.2)], 7⟩) (fun v => v = v23') (fun v23 hv24 => ?_) (fun cont => ?_)
          · subst hv24
            rcases of_bif hr with ⟨hb26, hr⟩ | ⟨hb26, hr⟩
            · refine HT.cond1 rfl hb26 ?_
              refine HT.reg1 [4] [⟨none, .no⟩] ⟨[(4, .one (.dat .bool false))], [(0, .box [.dat (.sl (.int .i64)) a0.1, .dat (.sl (.int .i64)) a0.2]), (1, .box [.all 3, .all 4]), (2, .box [.all 5, .all 6]), (3, .seq (.int .i64) y6.1.1), (4, .seq (.int .i64) y6.1.2), (5, .seq (.int .i64) y10.1.1), (6, .seq (.int .i64) y10.1.2)], 7⟩ hP hN (by kernel_rfl) allNil ?_
              have hr := of_some hr
              subst hr
              exact HT.ret (qThenR ⟨[.one (.dat .bool false)], [], [], by kernel_rfl, by kernel_rfl, rfl, (.inl rfl), by kernel_rfl, trivial⟩)
            · refine HT.cond0 rfl hb26 ?_
              refine HT.skip (qThen ?_)
              refine HT.reg1 [1, 2, 6, 7, 9, 12] [⟨none, .no⟩] ⟨[(1, .one (.dat (.int .i64) a1)), (2, .one (.ptr 0 0)), (6, .one (.ptr 1 0)), (7, .one (.dat .bool y6.2)), (9, .one (.ptr 2 0)), (12, .one (.dat (.int .i64) (1 : Int)))], [(0, .box [.dat (.sl (.int .i64)) a0.1, .dat (.sl (.int .i64)) a0.2]), (1, .box [.all 3, .all 4]), (2, .box [.all 5, .all 6]), (3, .seq (.int .i64) y6.1.1), (4, .seq (.int .i64) y6.1.2), (5, .seq (.int .i64) y10.1.1), (6, .seq (.int .i64) y10.1.2)], 7⟩ hP hN (by kernel_rfl) allNil ?_
              obtain ⟨y27, hc28, hr⟩ := of_bind hr
              refine HT.reg1 [1, 2, 6, 7, 9, 12] [⟨none, .no⟩, ⟨none, .no⟩, ⟨none, .call [.own (.st (.pair (.sl (.int .i64)) (.sl (.int .i64)))), .imm (.int .i64)] [⟨false, (.int .i64), y27.1⟩] [⟨(.st (.pair (.sl (.int .i64)) (.sl (.int .i64)))), y27.2⟩]⟩, ⟨none, .no⟩] ⟨[(1, .one (.dat (.int .i64) a1)), (2, .one (.ptr 0 0)), (6, .one (.ptr 1 0)), (7, .one (.dat .bool y6.2)), (9, .one (.ptr 2 0)), (12, .one (.dat (.int .i64) y27.1))], [(5, .seq (.int .i64) y27.2.1), (6, .seq (.int .i64) y27.2.2), (0, .box [.dat (.sl (.int .i64)) a0.1, .dat (.sl (.int .i64)) a0.2]), (1, .box [.all 3, .all 4]), (2, .box [.all 5, .all 6]), (3, .seq (.int .i64) y6.1.1), (4, .seq (.int .i64) y6.1.2), (5, .seq (.int .i64) y10.1.1), (6, .seq (.int .i64) y10.1.2)], 7⟩ hP hN (by kernel_rfl) (allCons (f14_ok hc28) allNil) ?_
              refine HT.reg1 [1, 2, 6, 7, 9, 12, 13] [⟨none, .no⟩] ⟨[(1, .one (.dat (.int .i64) a1)), (2, .one (.ptr 0 0)), (6, .one (.ptr 1 0)), (7, .one (.dat .bool y6.2)), (9, .one (.ptr 2 0)), (12, .one (.dat (.int .i64) y27.1)), (13, .one (.dat (.int .i64) (1 : Int)))], [(5, .seq (.int .i64) y27.2.1), (6, .seq (.int .i64) y27.2.2), (0, .box [.dat (.sl (.int .i64)) a0.1, .dat (.sl (.int .i64)) a0.2]), (1, .box [.all 3, .all 4]), (2, .box [.all 5, .all 6]), (3, .seq (.int .i64) y6.1.1), (4, .seq (.int .i64) y6.1.2), (5, .seq (.int .i64) y10.1.1), (6, .seq (.int .i64) y10.1.2)], 7⟩ hP hN (by kernel_rfl) allNil ?_
              obtain ⟨y29, hc30, hr⟩ := of_bind hr
              refine HT.reg1 [1, 2, 6, 7, 9, 12, 13] [⟨none, .no⟩, ⟨none, .no⟩, ⟨none, .call [.imm (.st (.pair (.sl (.int .i64)) (.sl (.int .i64)))), .imm (.int .i64)] [⟨false, (.int .i64), y29⟩] []⟩, ⟨none, .no⟩] ⟨[(1, .one (.dat (.int .i64) a1)), (2, .one (.ptr 0 0)), (6, .one (.ptr 1 0)), (7, .one (.dat .bool y6.2)), (9, .one (.ptr 2 0)), (12, .one (.dat (.int .i64) y27.1)), (13, .one (.dat (.int .i64) y29))], [(5, .seq (.int .i64) y27.2.1), (6, .seq (.int .i64) y27.2.2), (0, .box [.dat (.sl (.int .i64)) a0.1, .dat (.sl (.int .i64)) a0.2]), (1, .box [.all 3, .all 4]), (2, .box [.all 5, .all 6]), (3, .seq (.int .i64) y6.1.1), (4, .seq (.int .i64) y6.1.2), (5, .seq (.int .i64) y10.1.1), (6, .seq (.int .i64) y10.1.2)], 7⟩ hP hN (by kernel_rfl) (allCons (f15_ok hc30) allNil) ?_
              refine HT.seq ?_
              refine HT.reg1 [1, 2, 6, 7, 9, 12, 13, 73] [⟨none, .no⟩, ⟨none, .no⟩] ⟨[(1, .one (.dat (.int .i64) a1)), (2, .one (.ptr 0 0)), (6, .one (.ptr 1 0)), (7, .one (.dat .bool y6.2)), (9, .one (.ptr 2 0)), (12, .one (.dat (.int .i64) y27.1)), (13, .one (.dat (.int .i64) y29)), (73, .one (.dat .bool (decide (y29 < (0 : Int)))))], [(5, .seq (.int .i64) y27.2.1), (6, .seq (.int .i64) y27.2.2), (0, .box [.dat (.sl (.int .i64)) a0.1, .dat (.sl (.int .i64)) a0.2]), (1, .box [.all 3, .all 4]), (2, .box [.all 5, .all 6]), (3, .seq (.int .i64) y6.1.1), (4, .seq (.int .i64) y6.1.2), (5, .seq (.int .i64) y10.1.1), (6, .seq (.int .i64) y10.1.2)], 7⟩ hP hN (by kernel_rfl) allNil ?_
              rcases of_bif hr with ⟨hb31, hr⟩ | ⟨hb31, hr⟩
              · refine HT.cond1 rfl hb31 ?_
                refine HT.reg1 [4] [⟨none, .no⟩] ⟨[(4, .one (.dat .bool false))], [(5, .seq (.int .i64) y27.2.1), (6, .seq (.int .i64) y27.2.2), (0, .box [.dat (.sl (.int .i64)) a0.1, .dat (.sl (.int .i64)) a0.2]), (1, .box [.all 3, .all 4]), (2, .box [.all 5, .all 6]), (3, .seq (.int .i64) y6.1.1), (4, .seq (.int .i64) y6.1.2), (5, .seq (.int .i64) y10.1.1), (6, .seq (.int .i64) y10.1.2)], 7⟩ hP hN (by kernel_rfl) allNil ?_
                have hr := of_some hr
                subst hr
                exact HT.ret (qThenR ⟨[.one (.dat .bool false)], [], [], by kernel_rfl, by kernel_rfl, rfl, (.inl rfl), by kernel_rfl, trivial⟩)
              · refine HT.cond0 rfl hb31 ?_
                refine HT.skip (qThen ?_)
                refine HT.seq ?_
                refine HT.reg1 [1, 2, 6, 7, 9, 12, 76] [⟨none, .no⟩, ⟨none, .no⟩, ⟨none, .no⟩] ⟨[(1, .one (.dat (.int .i64) a1)), (2, .one (.ptr 0 0)), (6, .one (.ptr 1 0)), (7, .one (.dat .bool y6.2)), (9, .one (.ptr 2 0)), (12, .one (.dat (.int .i64) y27.1)), (76, .one (.dat .bool (y29 != y27.1)))], [(5, .seq (.int .i64) y27.2.1), (6, .seq (.int .i64) y27.2.2), (0, .box [.dat (.sl (.int .i64)) a0.1, .dat (.sl (.int .i64)) a0.2]), (1, .box [.all 3, .all 4]), (2, .box [.all 5, .all 6]), (3, .seq (.int .i64) y6.1.1), (4, .seq (.int .i64) y6.1.2), (5, .seq (.int .i64) y10.1.1), (6, .seq (.int .i64) y10.1.2)], 7⟩ hP hN (by kernel_rfl) allNil ?_
                rcases of_bif hr with ⟨hb32, hr⟩ | ⟨hb32, hr⟩
                · refine HT.cond1 rfl hb32 ?_
                  refine HT.reg1 [4] [⟨none, .no⟩] ⟨[(4, .one (.dat .bool false))], [(5, .seq (.int .i64) y27.2.1), (6, .seq (.int .i64) y27.2.2), (0, .box [.dat (.sl (.int .i64)) a0.1, .dat (.sl (.int .i64)) a0.2]), (1, .box [.all 3, .all 4]), (2, .box [.all 5, .all 6]), (3, .seq (.int .i64) y6.1.1), (4, .seq (.int .i64) y6.1.2), (5, .seq (.int .i64) y10.1.1), (6, .seq (.int .i64) y10.1.2)], 7⟩ hP hN (by kernel_rfl) allNil ?_
                  have hr := of_some hr
                  subst hr
                  exact HT.ret (qThenR ⟨[.one (.dat .bool false)], [], [], by kernel_rfl, by kernel_rfl, rfl, (.inl rfl), by kernel_rfl, trivial⟩)
                · refine HT.cond0 rfl hb32 ?_
                  refine HT.skip (qThen ?_)
                  obtain ⟨y33, hc34, hr⟩ := of_bind hr
                  obtain ⟨y35, hc36, hr⟩ := of_bind hr
                  refine HT.reg1 [6, 7, 9, 12, 14, 15] [⟨none, .no⟩, ⟨none, .call [.imm (.st (.pair (.sl (.int .i64)) (.sl (.int .i64))))] [⟨true, (.st (.pair (.sl (.int .i64)) (.sl (.int .i64)))), y33⟩] []⟩, ⟨none, .no⟩, ⟨none, .call [.imm (.st (.pair (.sl (.int .i64)) (.sl (.int .i64)))), .imm (.int .i64)] [⟨true, (.st (.pair (.sl (.int .i64)) (.sl (.int .i64)))), y35.1⟩, ⟨false, .bool, y35.2⟩] []⟩, ⟨none, .no⟩, ⟨none, .no⟩, ⟨none, .no⟩, ⟨none, .no⟩, ⟨none, .no⟩, ⟨none, .no⟩] ⟨[(6, .one (.ptr 1 0)), (7, .one (.dat .bool y6.2)), (9, .one (.ptr 2 0)), (12, .one (.dat (.int .i64) y27.1)), (14, .one (.ptr 11 0)), (15, .one (.dat .bool y35.2))], [(11, .box [.all 9, .all 10]), (11, .box [.nilS, .nilS]), (9, .seq (.int .i64) y35.1.1), (10, .seq (.int .i64) y35.1.2), (7, .seq (.int .i64) y33.1), (8, .seq (.int .i64) y33.2), (5, .seq (.int .i64) y27.2.1), (6, .seq (.int .i64) y27.2.2), (0, .box [.dat (.sl (.int .i64)) a0.1, .dat (.sl (.int .i64)) a0.2]), (1, .box [.all 3, .all 4]), (2, .box [.all 5, .all 6]), (3, .seq (.int .i64) y6.1.1), (4, .seq (.int .i64) y6.1.2), (5, .seq (.int .i64) y10.1.1), (6, .seq (.int .i64) y10.1.2)], 12⟩ hP hN (by kernel_rfl) (allCons (f11_ok hc34) (allCons (f12_ok hc36) allNil)) ?_
                  refine HT.seq ?_
                  obtain ⟨v37', hT39, hr⟩ := of_bind hr
                  refine HT.join (fun (v37 : Bool) => ⟨[(9, .one (.ptr 0 0)), (12, .one (.dat (.int .i64) y27.1)), (92, .one (.dat .bool v37))], [(0, .box [.all 1, .all 2]), (1, .seq (.int .i64) y27.2.1), (2, .seq (.int .i64) y27.2.2)], 3⟩) (fun v => v = v37') (fun v37 hv38 => ?_) (fun cont => ?_)
                  · subst hv38
                    rcases of_bif hr with ⟨hb40, hr⟩ | ⟨hb40, hr⟩
                    · refine HT.cond1 rfl hb40 ?_
                      refine HT.reg1 [4] [⟨none, .no⟩] ⟨[(4, .one (.dat .bool false))], [(0, .box [.all 1, .all 2]), (1, .seq (.int .i64) y27.2.1), (2, .seq (.int .i64) y27.2.2)], 3⟩ hP hN (by kernel_rfl) allNil ?_
                      have hr := of_some hr
                      subst hr
                      exact HT.ret (qThenR ⟨[.one (.dat .bool false)], [], [], by kernel_rfl, by kernel_rfl, rfl, (.inl rfl), by kernel_rfl, trivial⟩)
                    · refine HT.cond0 rfl hb40 ?_
                      refine HT.skip (qThen ?_)
                      refine HT.reg1 [9, 12, 13] [⟨none, .no⟩] ⟨[(9, .one (.ptr 0 0)), (12, .one (.dat (.int .i64) y27.1)), (13, .one (.dat (.int .i64) (1 : Int)))], [(0, .box [.all 1, .all 2]), (1, .seq (.int .i64) y27.2.1), (2, .seq (.int .i64) y27.2.2)], 3⟩ hP hN (by kernel_rfl) allNil ?_
                      obtain ⟨y41, hc42, hr⟩ := of_bind hr
                      refine HT.reg1 [12, 13] [⟨none, .no⟩, ⟨none, .no⟩, ⟨none, .call [.imm (.st (.pair (.sl (.int .i64)) (.sl (.int .i64)))), .imm (.int .i64)] [⟨false, (.int .i64), y41⟩] []⟩, ⟨none, .no⟩] ⟨[(12, .one (.dat (.int .i64) y27.1)), (13, .one (.dat (.int .i64) y41))], [(0, .box [.all 1, .all 2]), (1, .seq (.int .i64) y27.2.1), (2, .seq (.int .i64) y27.2.2)], 3⟩ hP hN (by kernel_rfl) (allCons (f15_ok hc42) allNil) ?_
                      refine HT.seq ?_
                      refine HT.reg1 [12, 13, 97] [⟨none, .no⟩, ⟨none, .no⟩] ⟨[(12, .one (.dat (.int .i64) y27.1)), (13, .one (.dat (.int .i64) y41)), (97, .one (.dat .bool (decide (y41 < (0 : Int)))))], [(0, .box [.all 1, .all 2]), (1, .seq (.int .i64) y27.2.1), (2, .seq (.int .i64) y27.2.2)], 3⟩ hP hN (by kernel_rfl) allNil ?_
                      rcases of_bif hr with ⟨hb43, hr⟩ | ⟨hb43, hr⟩
                      · refine HT.cond1 rfl hb43 ?_
                        refine HT.reg1 [4] [⟨none, .no⟩] ⟨[(4, .one (.dat .bool false))], [(0, .box [.all 1, .all 2]), (1, .seq (.int .i64) y27.2.1), (2, .seq (.int .i64) y27.2.2)], 3⟩ hP hN (by kernel_rfl) allNil ?_
                        have hr := of_some hr
                        subst hr
                        exact HT.ret (qThenR ⟨[.one (.dat .bool false)], [], [], by kernel_rfl, by kernel_rfl, rfl, (.inl rfl), by kernel_rfl, trivial⟩)
                      · refine HT.cond0 rfl hb43 ?_
                        refine HT.skip (qThen ?_)
                        refine HT.seq ?_
                        refine HT.reg1 [100] [⟨none, .no⟩, ⟨none, .no⟩, ⟨none, .no⟩] ⟨[(100, .one (.dat .bool (y41 != y27.1)))], [(0, .box [.all 1, .all 2]), (1, .seq (.int .i64) y27.2.1), (2, .seq (.int .i64) y27.2.2)], 3⟩ hP hN (by kernel_rfl) allNil ?_
                        rcases of_bif hr with ⟨hb44, hr⟩ | ⟨hb44, hr⟩
                        · refine HT.cond1 rfl hb44 ?_
                          refine HT.reg1 [4] [⟨none, .no⟩] ⟨[(4, .one (.dat .bool false))], [(0, .box [.all 1, .all 2]), (1, .seq (.int .i64) y27.2.1), (2, .seq (.int .i64) y27.2.2)], 3⟩ hP hN (by kernel_rfl) allNil ?_
                          have hr := of_some hr
                          subst hr
                          exact HT.ret (qThenR ⟨[.one (.dat .bool false)], [], [], by kernel_rfl, by kernel_rfl, rfl, (.inl rfl), by kernel_rfl, trivial⟩)
                        · refine HT.cond0 rfl hb44 ?_
                          refine HT.skip (qThen ?_)
                          refine HT.reg1 [4] [⟨none, .no⟩] ⟨[(4, .one (.dat .bool true))], [(0, .box [.all 1, .all 2]), (1, .seq (.int .i64) y27.2.1), (2, .seq (.int .i64) y27.2.2)], 3⟩ hP hN (by kernel_rfl) allNil ?_
                          have hr := of_some hr
                          subst hr
                          exact HT.ret ⟨[.one (.dat .bool true)], [], [], by kernel_rfl, by kernel_rfl, rfl, (.inl rfl), by kernel_rfl, trivial⟩
                  · obtain ⟨y45, hc46, hT39⟩ := of_bind hT39
                    rcases of_bif hT39 with ⟨hb47, hT39⟩ | ⟨hb47, hT39⟩
                    · refine HT.reg (rs := [⟨none, .no⟩, ⟨none, .no⟩, ⟨none, .call [.imm (.st (.pair (.sl (.int .i64)) (.sl (.int .i64)))), .imm (.st (.pair (.sl (.int .i64)) (.sl (.int .i64))))] [⟨false, .bool, y45⟩] []⟩, ⟨none, .no⟩, ⟨none, .no⟩, ⟨some true, .no⟩, ⟨some true, .no⟩, ⟨some true, .no⟩, ⟨none, .tv true⟩]) (st' := ⟨[(92, .one (.dat .bool true)), (91, .und), (90, .und), (89, .und), (88, .one (.dat .bool (!y45))), (87, .one (.dat .bool (!y45))), (86, .one (.dat .bool y45)), (85, .agg [.all 3, .all 4]), (84, .agg [.all 9, .all 10]), (6, .one (.ptr 1 0)), (7, .one (.dat .bool y6.2)), (9, .one (.ptr 2 0)), (12, .one (.dat (.int .i64) y27.1)), (14, .one (.ptr 11 0)), (15, .one (.dat .bool y35.2))], [(11, .box [.all 9, .all 10]), (11, .box [.nilS, .nilS]), (9, .seq (.int .i64) y35.1.1), (10, .seq (.int .i64) y35.1.2), (7, .seq (.int .i64) y33.1), (8, .seq (.int .i64) y33.2), (5, .seq (.int .i64) y27.2.1), (6, .seq (.int .i64) y27.2.2), (0, .box [.dat (.sl (.int .i64)) a0.1, .dat (.sl (.int .i64)) a0.2]), (1, .box [.all 3, .all 4]), (2, .box [.all 5, .all 6]), (3, .seq (.int .i64) y6.1.1), (4, .seq (.int .i64) y6.1.2), (5, .seq (.int .i64) y10.1.1), (6, .seq (.int .i64) y10.1.2)], 12⟩) hP hN (by kernel_rfl) (allCons (f13_ok hc46) (allCons hb47 (allCons hb47 (allCons hb47 (allCons hb47 allNil))))) (qThen ?_)
                      exact (Le.cv (s := ⟨[(2, 0), (5, 1), (6, 2)], [], [], false⟩) (own := []) (ps := [y27.1 = y27.1, true = true, y27.2.1 = y27.2.1, y27.2.2 = y27.2.2]) (st' := ⟨[(9, .one (.ptr 0 0)), (12, .one (.dat (.int .i64) y27.1)), (92, .one (.dat .bool true))], [(0, .box [.all 1, .all 2]), (1, .seq (.int .i64) y27.2.1), (2, .seq (.int .i64) y27.2.2)], 3⟩) hO (fun h => by cases h) (by kernel_rfl) ⟨rfl, rfl, rfl, rfl, trivial⟩).ht (cont true (of_some hT39))
                    · refine HT.reg (rs := [⟨none, .no⟩, ⟨none, .no⟩, ⟨none, .call [.imm (.st (.pair (.sl (.int .i64)) (.sl (.int .i64)))), .imm (.st (.pair (.sl (.int .i64)) (.sl (.int .i64))))] [⟨false, .bool, y45⟩] []⟩, ⟨none, .no⟩, ⟨none, .no⟩, ⟨some false, .no⟩, ⟨some false, .no⟩, ⟨some false, .no⟩, ⟨none, .tv false⟩]) (st' := ⟨[(92, .one (.dat .bool (y35.2 != y6.2))), (91, .one (.dat .bool (y35.2 != y6.2))), (90, .one (.dat .bool y6.2)), (89, .one (.dat .bool y35.2)), (88, .one (.dat .bool (!y45))), (87, .one (.dat .bool (!y45))), (86, .one (.dat .bool y45)), (85, .agg [.all 3, .all 4]), (84, .agg [.all 9, .all 10]), (6, .one (.ptr 1 0)), (7, .one (.dat .bool y6.2)), (9, .one (.ptr 2 0)), (12, .one (.dat (.int .i64) y27.1)), (14, .one (.ptr 11 0)), (15, .one (.dat .bool y35.2))], [(11, .box [.all 9, .all 10]), (11, .box [.nilS, .nilS]), (9, .seq (.int .i64) y35.1.1), (10, .seq (.int .i64) y35.1.2), (7, .seq (.int .i64) y33.1), (8, .seq (.int .i64) y33.2), (5, .seq (.int .i64) y27.2.1), (6, .seq (.int .i64) y27.2.2), (0, .box [.dat (.sl (.int .i64)) a0.1, .dat (.sl (.int .i64)) a0.2]), (1, .box [.all 3, .all 4]), (2, .box [.all 5, .all 6]), (3, .seq (.int .i64) y6.1.1), (4, .seq (.int .i64) y6.1.2), (5, .seq (.int .i64) y10.1.1), (6, .seq (.int .i64) y10.1.2)], 12⟩) hP hN (by kernel_rfl) (allCons (f13_ok hc46) (allCons hb47 (allCons hb47 (allCons hb47 (allCons hb47 allNil))))) (qThen ?_)
                      exact (Le.cv (s := ⟨[(2, 0), (5, 1), (6, 2)], [], [], false⟩) (own := []) (ps := [y27.1 = y27.1, (y35.2 != y6.2) = (y35.2 != y6.2), y27.2.1 = y27.2.1, y27.2.2 = y27.2.2]) (st' := ⟨[(9, .one (.ptr 0 0)), (12, .one (.dat (.int .i64) y27.1)), (92, .one (.dat .bool (y35.2 != y6.2)))], [(0, .box [.all 1, .all 2]), (1, .seq (.int .i64) y27.2.1), (2, .seq (.int .i64) y27.2.2)], 3⟩) hO (fun h => by cases h) (by kernel_rfl) ⟨rfl, rfl, rfl, rfl, trivial⟩).ht (cont (y35.2 != y6.2) (of_some hT39))
          · rcases of_bif hT25 with ⟨hb48, hT25⟩ | ⟨hb48, hT25⟩
            · refine HT.reg (rs := [⟨none, .no⟩, ⟨none, .no⟩, ⟨none, .no⟩, ⟨some true, .no⟩, ⟨some true, .no⟩, ⟨some true, .no⟩, ⟨some true, .no⟩, ⟨none, .tv true⟩, ⟨none, .no⟩, ⟨some true, .no⟩, ⟨some true, .no⟩, ⟨some true, .no⟩, ⟨none, .tv true⟩]) (st' := ⟨[(65, .one (.dat .bool true)), (64, .und), (63, .und), (62, .und), (61, .one (.dat .bool true)), (60, .one (.dat .bool true)), (59, .und), (58, .und), (57, .und), (56, .und), (55, .one (.dat .bool (decide (y21.1 < (0 : Int))))), (54, .one (.dat .bool (decide (y21.1 < (0 : Int))))), (53, .one (.dat (.int .i64) y21.1)), (1, .one (.dat (.int .i64) a1)), (2, .one (.ptr 0 0)), (6, .one (.ptr 1 0)), (7, .one (.dat .bool y6.2)), (9, .one (.ptr 3 0)), (10, .one (.dat .bool y10.2)), (11, .one (.dat (.int .i64) y21.1))], [(6, .seq (.int .i64) y21.2.1), (7, .seq (.int .i64) y21.2.2), (10, .seq (.int .i64) y16.1), (11, .seq (.int .i64) y16.2), (0, .box [.dat (.sl (.int .i64)) a0.1, .dat (.sl (.int .i64)) a0.2]), (1, .box [.all 4, .all 5]), (2, .box [.all 6, .all 7]), (3, .box [.all 8, .all 9]), (4, .seq (.int .i64) y6.1.1), (5, .seq (.int .i64) y6.1.2), (6, .seq (.int .i64) y8.1), (7, .seq (.int .i64) y8.2), (8, .seq (.int .i64) y10.1.1), (9, .seq (.int .i64) y10.1.2)], 12⟩) hP hN (by kernel_rfl) (allCons hb48 (allCons hb48 (allCons hb48 (allCons hb48 (allCons hb48 (allCons (rfl : true = true) (allCons (rfl : true = true) (allCons (rfl : true = true) (allCons (rfl : true = true) allNil))))))))) (qThen ?_)
              exact (Le.cv (s := ⟨[(0, 0), (1, 1), (3, 2), (4, 3), (5, 4), (8, 5), (9, 6)], [], [], false⟩) (own := []) (ps := [a1 = a1, y6.2 = y6.2, true = true, a0.1 = a0.1, a0.2 = a0.2, y6.1.1 = y6.1.1, y6.1.2 = y6.1.2, y10.1.1 = y10.1.1, y10.1.2 = y10.1.2]) (st' := ⟨[(1, .one (.dat (.int .i64) a1)), (2, .one (.ptr 0 0)), (6, .one (.ptr 1 0)), (7, .one (.dat .bool y6.2)), (9, .one (.ptr 2 0)), (65, .one (.dat .bool true))], [(0, .box [.dat (.sl (.int .i64)) a0.1, .dat (.sl (.int .i64)) a0.2]), (1, .box [.all 3, .all 4]), (2, .box [.all 5, .all 6]), (3, .seq (.int .i64) y6.1.1), (4, .seq (.int .i64) y6.1.2), (5, .seq (.int .i64) y10.1.1), (6, .seq (.int .i64) y10.1.2)], 7⟩) hO (fun h => by cases h) (by kernel_rfl) ⟨rfl, rfl, rfl, rfl, rfl, rfl, rfl, rfl, rfl, trivial⟩).ht (cont true (of_some hT25))
            · obtain ⟨y49, hc50, hT25⟩ := of_bind hT25
              rcases of_bif hT25 with ⟨hb51, hT25⟩ | ⟨hb51, hT25⟩
              · refine HT.reg (rs := [⟨none, .no⟩, ⟨none, .no⟩, ⟨none, .no⟩, ⟨some false, .no⟩, ⟨some false, .no⟩, ⟨some false, .call [.imm (.st (.pair (.sl (.int .i64)) (.sl (.int .i64)))), .imm (.st (.pair (.sl (.int .i64)) (.sl (.int .i64))))] [⟨false, .bool, y49⟩] []⟩, ⟨some false, .no⟩, ⟨none, .tv false⟩, ⟨none, .no⟩, ⟨some true, .no⟩, ⟨some true, .no⟩, ⟨some true, .no⟩, ⟨none, .tv true⟩]) (st' := ⟨[(65, .one (.dat .bool true)), (64, .und), (63, .und), (62, .und), (61, .one (.dat .bool (!y49))), (60, .one (.dat .bool (!y49))), (59, .one (.dat .bool (!y49))), (58, .one (.dat .bool y49)), (57, .agg [.all 4, .all 5]), (56, .agg [.all 8, .all 9]), (55, .one (.dat .bool (decide (y21.1 < (0 : Int))))), (54, .one (.dat .bool (decide (y21.1 < (0 : Int))))), (53, .one (.dat (.int .i64) y21.1)), (1, .one (.dat (.int .i64) a1)), (2, .one (.ptr 0 0)), (6, .one (.ptr 1 0)), (7, .one (.dat .bool y6.2)), (9, .one (.ptr 3 0)), (10, .one (.dat .bool y10.2)), (11, .one (.dat (.int .i64) y21.1))], [(6, .seq (.int .i64) y21.2.1), (7, .seq (.int .i64) y21.2.2), (10, .seq (.int .i64) y16.1), (11, .seq (.int .i64) y16.2), (0, .box [.dat (.sl (.int .i64)) a0.1, .dat (.sl (.int .i64)) a0.2]), (1, .box [.all 4, .all 5]), (2, .box [.all 6, .all 7]), (3, .box [.all 8, .all 9]), (4, .seq (.int .i64) y6.1.1), (5, .seq (.int .i64) y6.1.2), (6, .seq (.int .i64) y8.1), (7, .seq (.int .i64) y8.2), (8, .seq (.int .i64) y10.1.1), (9, .seq (.int .i64) y10.1.2)], 12⟩) hP hN (by kernel_rfl) (allCons hb48 (allCons hb48 (allCons hb48 (allCons (f13_ok hc50) (allCons hb48 (allCons hb48 (allCons hb51 (allCons hb51 (allCons hb51 (allCons hb51 allNil)))))))))) (qThen ?_)
                exact (Le.cv (s := ⟨[(0, 0), (1, 1), (3, 2), (4, 3), (5, 4), (8, 5), (9, 6)], [], [], false⟩) (own := []) (ps := [a1 = a1, y6.2 = y6.2, true = true, a0.1 = a0.1, a0.2 = a0.2, y6.1.1 = y6.1.1, y6.1.2 = y6.1.2, y10.1.1 = y10.1.1, y10.1.2 = y10.1.2]) (st' := ⟨[(1, .one (.dat (.int .i64) a1)), (2, .one (.ptr 0 0)), (6, .one (.ptr 1 0)), (7, .one (.dat .bool y6.2)), (9, .one (.ptr 2 0)), (65, .one (.dat .bool true))], [(0, .box [.dat (.sl (.int .i64)) a0.1, .dat (.sl (.int .i64)) a0.2]), (1, .box [.all 3, .all 4]), (2, .box [.all 5, .all 6]), (3, .seq (.int .i64) y6.1.1), (4, .seq (.int .i64) y6.1.2), (5, .seq (.int .i64) y10.1.1), (6, .seq (.int .i64) y10.1.2)], 7⟩) hO (fun h => by cases h) (by kernel_rfl) ⟨rfl, rfl, rfl, rfl, rfl, rfl, rfl, rfl, rfl, trivial⟩).ht (cont true (of_some hT25))
              · refine HT.reg (rs := [⟨none, .no⟩, ⟨none, .no⟩, ⟨none, .no⟩, ⟨some false, .no⟩, ⟨some false, .no⟩, ⟨some false, .call [.imm (.st (.pair (.sl (.int .i64)) (.sl (.int .i64)))), .imm (.st (.pair (.sl (.int .i64)) (.sl (.int .i64))))] [⟨false, .bool, y49⟩] []⟩, ⟨some false, .no⟩, ⟨none, .tv false⟩, ⟨none, .no⟩, ⟨some false, .no⟩, ⟨some false, .no⟩, ⟨some false, .no⟩, ⟨none, .tv false⟩]) (st' := ⟨[(65, .one (.dat .bool (y10.2 != y6.2))), (64, .one (.dat .bool (y10.2 != y6.2))), (63, .one (.dat .bool y6.2)), (62, .one (.dat .bool y10.2)), (61, .one (.dat .bool (!y49))), (60, .one (.dat .bool (!y49))), (59, .one (.dat .bool (!y49))), (58, .one (.dat .bool y49)), (57, .agg [.all 4, .all 5]), (56, .agg [.all 8, .all 9]), (55, .one (.dat .bool (decide (y21.1 < (0 : Int))))), (54, .one (.dat .bool (decide (y21.1 < (0 : Int))))), (53, .one (.dat (.int .i64) y21.1)), (1, .one (.dat (.int .i64) a1)), (2, .one (.ptr 0 0)), (6, .one (.ptr 1 0)), (7, .one (.dat .bool y6.2)), (9, .one (.ptr 3 0)), (10, .one (.dat .bool y10.2)), (11, .one (.dat (.int .i64) y21.1))], [(6, .seq (.int .i64) y21.2.1), (7, .seq (.int .i64) y21.2.2), (10, .seq (.int .i64) y16.1), (11, .seq (.int .i64) y16.2), (0, .box [.dat (.sl (.int .i64)) a0.1, .dat (.sl (.int .i64)) a0.2]), (1, .box [.all 4, .all 5]), (2, .box [.all 6, .all 7]), (3, .box [.all 8, .all 9]), (4, .seq (.int .i64) y6.1.1), (5, .seq (.int .i64) y6.1.2), (6, .seq (.int .i64) y8.1), (7, .seq (.int .i64) y8.2), (8, .seq (.int .i64) y10.1.1), (9, .seq (.int .i64) y10.1.2)], 12⟩) hP hN (by kernel_rfl) (allCons hb48 (allCons hb48 (allCons hb48 (allCons (f13_ok hc50) (allCons hb48 (allCons hb48 (allCons hb51 (allCons hb51 (allCons hb51 (allCons hb51 allNil)))))))))) (qThen ?_)
                exact (Le.cv (s := ⟨[(0, 0), (1, 1), (3, 2), (4, 3), (5, 4), (8, 5), (9, 6)], [], [], false⟩) (own := []) (ps := [a1 = a1, y6.2 = y6.2, (y10.2 != y6.2) = (y10.2 != y6.2), a0.1 = a0.1, a0.2 = a0.2, y6.1.1 = y6.1.1, y6.1.2 = y6.1.2, y10.1.1 = y10.1.1, y10.1.2 = y10.1.2]) (st' := ⟨[(1, .one (.dat (.int .i64) a1)), (2, .one (.ptr 0 0)), (6, .one (.ptr 1 0)), (7, .one (.dat .bool y6.2)), (9, .one (.ptr 2 0)), (65, .one (.dat .bool (y10.2 != y6.2)))], [(0, .box [.dat (.sl (.int .i64)) a0.1, .dat (.sl (.int .i64)) a0.2]), (1, .box [.all 3, .all 4]), (2, .box [.all 5, .all 6]), (3, .seq (.int .i64) y6.1.1), (4, .seq (.int .i64) y6.1.2), (5, .seq (.int .i64) y10.1.1), (6, .seq (.int .i64) y10.1.2)], 7⟩) hO (fun h => by cases h) (by kernel_rfl) ⟨rfl, rfl, rfl, rfl, rfl, rfl, rfl, rfl, rfl, trivial⟩).ht (cont (y10.2 != y6.2) (of_some hT25))
    · obtain ⟨y52, hc53, hT14⟩ := of_bind hT14
      rcases of_bif hT14 with ⟨hb54, hT14⟩ | ⟨hb54, hT14⟩
      · refine HT.reg (rs := [⟨none, .no⟩, ⟨none, .no⟩, ⟨none, .call [.imm (.st (.pair (.sl (.int .i64)) (.sl (.int .i64)))), .imm (.st (.pair (.sl (.int .i64)) (.sl (.int .i64))))] [⟨false, .bool, y52⟩] []⟩, ⟨none, .no⟩, ⟨none, .no⟩, ⟨some true, .no⟩, ⟨some true, .no⟩, ⟨some true, .no⟩, ⟨none, .tv true⟩]) (st' := ⟨[(44, .one (.dat .bool true)), (43, .und), (42, .und), (41, .und), (40, .one (.dat .bool (!y52))), (39, .one (.dat .bool (!y52))), (38, .one (.dat .bool y52)), (37, .agg [.all 3, .all 4]), (36, .agg [.all 9, .all 10]), (1, .one (.dat (.int .i64) a1)), (2, .one (.ptr 0 0)), (6, .one (.ptr 5 0)), (7, .one (.dat .bool y6.2)), (8, .one (.ptr 8 0)), (9, .one (.ptr 11 0)), (10, .one (.dat .bool y10.2))], [(11, .box [.all 9, .all 10]), (11, .box [.nilS, .nilS]), (9, .seq (.int .i64) y10.1.1), (10, .seq (.int .i64) y10.1.2), (8, .box [.all 6, .all 7]), (8, .box [.nilS, .nilS]), (6, .seq (.int .i64) y8.1), (7, .seq (.int .i64) y8.2), (5, .box [.all 3, .all 4]), (5, .box [.nilS, .nilS]), (3, .seq (.int .i64) y6.1.1), (4, .seq (.int .i64) y6.1.2), (1, .seq (.int .i64) y4.1), (2, .seq (.int .i64) y4.2), (0, .box [.dat (.sl (.int .i64)) a0.1, .dat (.sl (.int .i64)) a0.2])], 12⟩) hP hN (by kernel_rfl) (allCons (f13_ok hc53) (allCons hb54 (allCons hb54 (allCons hb54 (allCons hb54 allNil))))) (qThen ?_)
        exact (Le.cv (s := ⟨[(0, 0), (5, 1), (8, 2), (11, 3), (3, 4), (4, 5), (6, 6), (7, 7), (9, 8), (10, 9)], [], [], false⟩) (own := []) (ps := [a1 = a1, y6.2 = y6.2, y10.2 = y10.2, true = true, a0.1 = a0.1, a0.2 = a0.2, y6.1.1 = y6.1.1, y6.1.2 = y6.1.2, y8.1 = y8.1, y8.2 = y8.2, y10.1.1 = y10.1.1, y10.1.2 = y10.1.2]) (st' := ⟨[(1, .one (.dat (.int .i64) a1)), (2, .one (.ptr 0 0)), (6, .one (.ptr 1 0)), (7, .one (.dat .bool y6.2)), (8, .one (.ptr 2 0)), (9, .one (.ptr 3 0)), (10, .one (.dat .bool y10.2)), (44, .one (.dat .bool true))], [(0, .box [.dat (.sl (.int .i64)) a0.1, .dat (.sl (.int .i64)) a0.2]), (1, .box [.all 4, .all 5]), (2, .box [.all 6, .all 7]), (3, .box [.all 8, .all 9]), (4, .seq (.int .i64) y6.1.1), (5, .seq (.int .i64) y6.1.2), (6, .seq (.int .i64) y8.1), (7, .seq (.int .i64) y8.2), (8, .seq (.int .i64) y10.1.1), (9, .seq (.int .i64) y10.1.2)], 10⟩) hO (fun h => by cases h) (by kernel_rfl) ⟨rfl, rfl, rfl, rfl, rfl, rfl, rfl, rfl, rfl, rfl, rfl, rfl, trivial⟩).ht (cont true (of_some hT14))
      · refine HT.reg (rs := [⟨none, .no⟩, ⟨none, .no⟩, ⟨none, .call [.imm (.st (.pair (.sl (.int .i64)) (.sl (.int .i64)))), .imm (.st (.pair (.sl (.int .i64)) (.sl (.int .i64))))] [⟨false, .bool, y52⟩] []⟩, ⟨none, .no⟩, ⟨none, .no⟩, ⟨some false, .no⟩, ⟨some false, .no⟩, ⟨some false, .no⟩, ⟨none, .tv false⟩]) (st' := ⟨[(44, .one (.dat .bool (y10.2 != y6.2))), (43, .one (.dat .bool (y10.2 != y6.2))), (42, .one (.dat .bool y6.2)), (41, .one (.dat .bool y10.2)), (40, .one (.dat .bool (!y52))), (39, .one (.dat .bool (!y52))), (38, .one (.dat .bool y52)), (37, .agg [.all 3, .all 4]), (36, .agg [.all 9, .all 10]), (1, .one (.dat (.int .i64) a1)), (2, .one (.ptr 0 0)), (6, .one (.ptr 5 0)), (7, .one (.dat .bool y6.2)), (8, .one (.ptr 8 0)), (9, .one (.ptr 11 0)), (10, .one (.dat .bool y10.2))], [(11, .box [.all 9, .all 10]), (11, .box [.nilS, .nilS]), (9, .seq (.int .i64) y10.1.1), (10, .seq (.int .i64) y10.1.2), (8, .box [.all 6, .all 7]), (8, .box [.nilS, .nilS]), (6, .seq (.int .i64) y8.1), (7, .seq (.int .i64) y8.2), (5, .box [.all 3, .all 4]), (5, .box [.nilS, .nilS]), (3, .seq (.int .i64) y6.1.1), (4, .seq (.int .i64) y6.1.2), (1, .seq (.int .i64) y4.1), (2, .seq (.int .i64) y4.2), (0, .box [.dat (.sl (.int .i64)) a0.1, .dat (.sl (.int .i64)) a0.2])], 12⟩) hP hN (by kernel_rfl) (allCons (f13_ok hc53) (allCons hb54 (allCons hb54 (allCons hb54 (allCons hb54 allNil))))) (qThen ?_)
        exact (Le.cv (s := ⟨[(0, 0), (5, 1), (8, 2), (11, 3), (3, 4), (4, 5), (6, 6), (7, 7), (9, 8), (10, 9)], [], [], false⟩) (own := []) (ps := [a1 = a1, y6.2 = y6.2, y10.2 = y10.2, (y10.2 != y6.2) = (y10.2 != y6.2), a0.1 = a0.1, a0.2 = a0.2, y6.1.1 = y6.1.1, y6.1.2 = y6.1.2, y8.1 = y8.1, y8.2 = y8.2, y10.1.1 = y10.1.1, y10.1.2 = y10.1.2]) (st' := ⟨[(1, .one (.dat (.int .i64) a1)), (2, .one (.ptr 0 0)), (6, .one (.ptr 1 0)), (7, .one (.dat .bool y6.2)), (8, .one (.ptr 2 0)), (9, .one (.ptr 3 0)), (10, .one (.dat .bool y10.2)), (44, .one (.dat .bool (y10.2 != y6.2)))], [(0, .box [.dat (.sl (.int .i64)) a0.1, .dat (.sl (.int .i64)) a0.2]), (1, .box [.all 4, .all 5]), (2, .box [.all 6, .all 7]), (3, .box [.all 8, .all 9]), (4, .seq (.int .i64) y6.1.1), (5, .seq (.int .i64) y6.1.2), (6, .seq (.int .i64) y8.1), (7, .seq (.int .i64) y8.2), (8, .seq (.int .i64) y10.1.1), (9, .seq (.int .i64) y10.1.2)], 10⟩) hO (fun h => by cases h) (by kernel_rfl) ⟨rfl, rfl, rfl, rfl, rfl, rfl, rfl, rfl, rfl, rfl, rfl, rfl, trivial⟩).ht (cont (y10.2 != y6.2) (of_some hT14))

end Go.Proofs
