import Derived.Test.YthkikckjkhnmlabStoreKeptGenA
import Derived.Test.YthkikckjkhnmlabProg
set_option linter.unusedVariables false
set_option linter.unusedSimpArgs false
set_option linter.unusedSectionVars false
/-
  Functions as plain functions, and their contracts. Printed by a program.
-/
namespace Go.Proofs
open Go.Ide

noncomputable def laws_FnExactStoreKept (a0 : List UInt8 × Int × Int × List Int × List Bool) : Option (Bool) :=
  (laws_szKept (a0.1, a0.2.1, a0.2.2.1, a0.2.2.2.1, a0.2.2.2.2) (1048576 : Int)).bind fun y1 =>
  bif (decide (y1 < (0 : Int))) then
    some true
  else
    (laws_toKept (a0.1, a0.2.1, a0.2.2.1, a0.2.2.2.1, a0.2.2.2.2)).bind fun y4 =>
    (spec_StoreKept (y4.1, y4.2.1, y4.2.2.1, y4.2.2.2.1, y4.2.2.2.2)).bind fun y6 =>
    (laws_toKept (a0.1, a0.2.1, a0.2.2.1, a0.2.2.2.1, a0.2.2.2.2)).bind fun y8 =>
    (impl_StoreKept (y8.1, y8.2.1, y8.2.2.1, y8.2.2.2.1, y8.2.2.2.2)).bind fun y10 =>
    (show Option (Bool) from
      bif (y10.1 != y6.1) then
        some true
      else
        some (y10.2 != y6.2)).bind fun v12 =>
    bif v12 then
      some false
    else
      (laws_toKept (a0.1, a0.2.1, a0.2.2.1, a0.2.2.2.1, a0.2.2.2.2)).bind fun y16 =>
      (laws_eqKept (y8.1, y8.2.1, y8.2.2.1, y8.2.2.2.1, y8.2.2.2.2) (y16.1, y16.2.1, y16.2.2.1, y16.2.2.2.1, y16.2.2.2.2)).bind fun y18 =>
      bif (!y18) then
        some false
      else
        some true

theorem f3_ok {a0 : List UInt8 × Int × Int × List Int × List Bool} {r : Bool} (hr : laws_FnExactStoreKept a0 = some r) : CallOK Try.prog 3 [.imm (.st (.pair .str (.st (.pair (.int .i64) (.pair (.int .i64) (.pair (.sl (.int .i64)) (.sl .bool))))))) a0] [⟨false, .bool, r⟩] [] := by
  unfold laws_FnExactStoreKept at hr
  refine CallOK.of_body (ts := [(false, .bool)]) Try.func3 rfl (by kernel_rfl) (Nat.le_of_ble_eq_true (by kernel_rfl)) fun cx hP hN hO hF => ?_
  have hO : cx.own.map Prod.fst = [] := hO
  have hF : cx.F = [] := hF rfl
  show HT cx ⟨[(0, .agg [.dat .str a0.1, .dat (.int .i64) a0.2.1, .dat (.int .i64) a0.2.2.1, .dat (.sl (.int .i64)) a0.2.2.2.1, .dat (.sl .bool) a0.2.2.2.2])], [], 0⟩ _ _
  refine HT.reg1 [1] [⟨none, .no⟩, ⟨none, .no⟩] ⟨[(1, .one (.ptr 0 0))], [(0, .box [.dat .str a0.1, .dat (.int .i64) a0.2.1, .dat (.int .i64) a0.2.2.1, .dat (.sl (.int .i64)) a0.2.2.2.1, .dat (.sl .bool) a0.2.2.2.2])], 1⟩ hP hN (by kernel_rfl) allNil ?_
  refine HT.reg1 [1, 3] [⟨none, .no⟩] ⟨[(1, .one (.ptr 0 0)), (3, .one (.dat (.int .i64) (1048576 : Int)))], [(0, .box [.dat .str a0.1, .dat (.int .i64) a0.2.1, .dat (.int .i64) a0.2.2.1, .dat (.sl (.int .i64)) a0.2.2.2.1, .dat (.sl .bool) a0.2.2.2.2])], 1⟩ hP hN (by kernel_rfl) allNil ?_
  obtain ⟨y1, hc2, hr⟩ := of_bind hr
  refine HT.reg1 [1, 3] [⟨none, .no⟩, ⟨none, .no⟩, ⟨none, .call [.imm (.st (.pair .str (.st (.pair (.int .i64) (.pair (.int .i64) (.pair (.sl (.int .i64)) (.sl .bool))))))), .imm (.int .i64)] [⟨false, (.int .i64), y1⟩] []⟩, ⟨none, .no⟩] ⟨[(1, .one (.ptr 0 0)), (3, .one (.dat (.int .i64) y1))], [(0, .box [.dat .str a0.1, .dat (.int .i64) a0.2.1, .dat (.int .i64) a0.2.2.1, .dat (.sl (.int .i64)) a0.2.2.2.1, .dat (.sl .bool) a0.2.2.2.2])], 1⟩ hP hN (by kernel_rfl) (allCons (f4_ok hc2) allNil) ?_
  refine HT.seq ?_
  refine HT.reg1 [1, 13] [⟨none, .no⟩, ⟨none, .no⟩] ⟨[(1, .one (.ptr 0 0)), (13, .one (.dat .bool (decide (y1 < (0 : Int)))))], [(0, .box [.dat .str a0.1, .dat (.int .i64) a0.2.1, .dat (.int .i64) a0.2.2.1, .dat (.sl (.int .i64)) a0.2.2.2.1, .dat (.sl .bool) a0.2.2.2.2])], 1⟩ hP hN (by kernel_rfl) allNil ?_
  rcases of_bif hr with ⟨hb3, hr⟩ | ⟨hb3, hr⟩
  · refine HT.cond1 rfl hb3 ?_
    refine HT.reg1 [2] [⟨none, .no⟩] ⟨[(2, .one (.dat .bool true))], [(0, .box [.dat .str a0.1, .dat (.int .i64) a0.2.1, .dat (.int .i64) a0.2.2.1, .dat (.sl (.int .i64)) a0.2.2.2.1, .dat (.sl .bool) a0.2.2.2.2])], 1⟩ hP hN (by kernel_rfl) allNil ?_
    have hr := of_some hr
    subst hr
    exact HT.ret (qThenR ⟨[.one (.dat .bool true)], [], [], by kernel_rfl, by kernel_rfl, rfl, (.inl rfl), by kernel_rfl, trivial⟩)
  · refine HT.cond0 rfl hb3 ?_
    refine HT.skip (qThen ?_)
    obtain ⟨y4, hc5, hr⟩ := of_bind hr
    obtain ⟨y6, hc7, hr⟩ := of_bind hr
    refine HT.reg1 [1, 4, 5] [⟨none, .no⟩, ⟨none, .call [.imm (.st (.pair .str (.st (.pair (.int .i64) (.pair (.int .i64) (.pair (.sl (.int .i64)) (.sl .bool)))))))] [⟨true, (.st (.pair .str (.st (.pair (.int .i64) (.pair (.int .i64) (.pair (.sl (.int .i64)) (.sl .bool))))))), y4⟩] []⟩, ⟨none, .call [.imm (.st (.pair .str (.st (.pair (.int .i64) (.pair (.int .i64) (.pair (.sl (.int .i64)) (.sl .bool)))))))] [⟨false, .str, y6.1⟩, ⟨false, .bool, y6.2⟩] []⟩, ⟨none, .no⟩, ⟨none, .no⟩, ⟨none, .no⟩, ⟨none, .no⟩, ⟨none, .no⟩] ⟨[(1, .one (.ptr 0 0)), (4, .one (.dat .str y6.1)), (5, .one (.dat .bool y6.2))], [(1, .seq (.int .i64) y4.2.2.2.1), (2, .seq .bool y4.2.2.2.2), (0, .box [.dat .str a0.1, .dat (.int .i64) a0.2.1, .dat (.int .i64) a0.2.2.1, .dat (.sl (.int .i64)) a0.2.2.2.1, .dat (.sl .bool) a0.2.2.2.2])], 3⟩ hP hN (by kernel_rfl) (allCons (f6_ok hc5) (allCons (f5_ok hc7) allNil)) ?_
    obtain ⟨y8, hc9, hr⟩ := of_bind hr
    refine HT.reg1 [1, 4, 5, 6] [⟨none, .no⟩, ⟨none, .call [.imm (.st (.pair .str (.st (.pair (.int .i64) (.pair (.int .i64) (.pair (.sl (.int .i64)) (.sl .bool)))))))] [⟨true, (.st (.pair .str (.st (.pair (.int .i64) (.pair (.int .i64) (.pair (.sl (.int .i64)) (.sl .bool))))))), y8⟩] []⟩, ⟨none, .no⟩, ⟨none, .no⟩] ⟨[(1, .one (.ptr 0 0)), (4, .one (.dat .str y6.1)), (5, .one (.dat .bool y6.2)), (6, .one (.ptr 5 0))], [(5, .box [.dat .str y8.1, .dat (.int .i64) y8.2.1, .dat (.int .i64) y8.2.2.1, .all 3, .all 4]), (5, .box [.dat .str ([] : List UInt8), .dat (.int .i64) (0 : Int), .dat (.int .i64) (0 : Int), .nilS, .nilS]), (3, .seq (.int .i64) y8.2.2.2.1), (4, .seq .bool y8.2.2.2.2), (1, .seq (.int .i64) y4.2.2.2.1), (2, .seq .bool y4.2.2.2.2), (0, .box [.dat .str a0.1, .dat (.int .i64) a0.2.1, .dat (.int .i64) a0.2.2.1, .dat (.sl (.int .i64)) a0.2.2.2.1, .dat (.sl .bool) a0.2.2.2.2])], 6⟩ hP hN (by kernel_rfl) (allCons (f6_ok hc9) allNil) ?_
    obtain ⟨y10, hc11, hr⟩ := of_bind hr
    refine HT.reg1 [1, 4, 5, 6, 7, 8] [⟨none, .no⟩, ⟨none, .call [.imm (.st (.pair .str (.st (.pair (.int .i64) (.pair (.int .i64) (.pair (.sl (.int .i64)) (.sl .bool)))))))] [⟨false, .str, y10.1⟩, ⟨false, .bool, y10.2⟩] []⟩, ⟨none, .no⟩, ⟨none, .no⟩, ⟨none, .no⟩, ⟨none, .no⟩, ⟨none, .no⟩] ⟨[(1, .one (.ptr 0 0)), (4, .one (.dat .str y6.1)), (5, .one (.dat .bool y6.2)), (6, .one (.ptr 5 0)), (7, .one (.dat .str y10.1)), (8, .one (.dat .bool y10.2))], [(5, .box [.dat .str y8.1, .dat (.int .i64) y8.2.1, .dat (.int .i64) y8.2.2.1, .all 3, .all 4]), (5, .box [.dat .str ([] : List UInt8), .dat (.int .i64) (0 : Int), .dat (.int .i64) (0 : Int), .nilS, .nilS]), (3, .seq (.int .i64) y8.2.2.2.1), (4, .seq .bool y8.2.2.2.2), (1, .seq (.int .i64) y4.2.2.2.1), (2, .seq .bool y4.2.2.2.2), (0, .box [.dat .str a0.1, .dat (.int .i64) a0.2.1, .dat (.int .i64) a0.2.2.1, .dat (.sl (.int .i64)) a0.2.2.2.1, .dat (.sl .bool) a0.2.2.2.2])], 6⟩ hP hN (by kernel_rfl) (allCons (f7_ok hc11) allNil) ?_
    refine HT.seq ?_
    obtain ⟨v12', hT14, hr⟩ := of_bind hr
    refine HT.join (fun (v12 : Bool) => ⟨[(1, .one (.ptr 0 0)), (6, .one (.ptr 1 0)), (34, .one (.dat .bool v12))], [(0, .box [.dat .str a0.1, .dat (.int .i64) a0.2.1, .dat (.int .i64) a0.2.2.1, .dat (.sl (.int .i64)) a0.2.2.2.1, .dat (.sl .bool) a0.2.2.2.2]), (1, .box [.dat .str y8.1, .dat (.int .i64) y8.2.1, .dat (.int .i64) y8.2.2.1, .all 2, .all 3]), (2, .seq (.int .i64) y8.2.2.2.1), (3, .seq .bool y8.2.2.2.2)], 4⟩) (fun v => v = v12') (fun v12 hv13 => ?_) (fun cont => ?_)
    · subst hv13
      rcases of_bif hr with ⟨hb15, hr⟩ | ⟨hb15, hr⟩
      · refine HT.cond1 rfl hb15 ?_
        refine HT.reg1 [2] [⟨none, .no⟩] ⟨[(2, .one (.dat .bool false))], [(0, .box [.dat .str a0.1, .dat (.int .i64) a0.2.1, .dat (.int .i64) a0.2.2.1, .dat (.sl (.int .i64)) a0.2.2.2.1, .dat (.sl .bool) a0.2.2.2.2]), (1, .box [.dat .str y8.1, .dat (.int .i64) y8.2.1, .dat (.int .i64) y8.2.2.1, .all 2, .all 3]), (2, .seq (.int .i64) y8.2.2.2.1), (3, .seq .bool y8.2.2.2.2)], 4⟩ hP hN (by kernel_rfl) allNil ?_
        have hr := of_some hr
        subst hr
        exact HT.ret (qThenR ⟨[.one (.dat .bool false)], [], [], by kernel_rfl, by kernel_rfl, rfl, (.inl rfl), by kernel_rfl, trivial⟩)
      · refine HT.cond0 rfl hb15 ?_
        refine HT.skip (qThen ?_)
        refine HT.seq ?_
        obtain ⟨y16, hc17, hr⟩ := of_bind hr
        obtain ⟨y18, hc19, hr⟩ := of_bind hr
        refine HT.drw1 [39] 3 [⟨⟨none, .no⟩, []⟩, ⟨⟨none, .no⟩, []⟩, ⟨⟨none, .call [.imm (.st (.pair .str (.st (.pair (.int .i64) (.pair (.int .i64) (.pair (.sl (.int .i64)) (.sl .bool)))))))] [⟨true, (.st (.pair .str (.st (.pair (.int .i64) (.pair (.int .i64) (.pair (.sl (.int .i64)) (.sl .bool))))))), y16⟩] []⟩, [1]⟩] [[0, 1, 2], [0, 1, 2, 3]] [⟨none, .call [.imm (.st (.pair .str (.st (.pair (.int .i64) (.pair (.int .i64) (.pair (.sl (.int .i64)) (.sl .bool))))))), .imm (.st (.pair .str (.st (.pair (.int .i64) (.pair (.int .i64) (.pair (.sl (.int .i64)) (.sl .bool)))))))] [⟨false, .bool, y18⟩] []⟩, ⟨none, .no⟩] ⟨[(39, .one (.dat .bool (!y18)))], [(4, .seq (.int .i64) y16.2.2.2.1), (5, .seq .bool y16.2.2.2.2), (0, .box [.dat .str a0.1, .dat (.int .i64) a0.2.1, .dat (.int .i64) a0.2.2.1, .dat (.sl (.int .i64)) a0.2.2.2.1, .dat (.sl .bool) a0.2.2.2.2]), (1, .box [.dat .str y8.1, .dat (.int .i64) y8.2.1, .dat (.int .i64) y8.2.2.1, .all 2, .all 3]), (2, .seq (.int .i64) y8.2.2.2.1), (3, .seq .bool y8.2.2.2.2)], 6⟩ hP hN (by kernel_rfl) (by kernel_rfl) (allCons (f6_ok hc17) (allCons (f8_ok hc19) allNil)) ?_
        rcases of_bif hr with ⟨hb20, hr⟩ | ⟨hb20, hr⟩
        · refine HT.cond1 rfl hb20 ?_
          refine HT.reg1 [2] [⟨none, .no⟩] ⟨[(2, .one (.dat .bool false))], [(4, .seq (.int .i64) y16.2.2.2.1), (5, .seq .bool y16.2.2.2.2), (0, .box [.dat .str a0.1, .dat (.int .i64) a0.2.1, .dat (.int .i64) a0.2.2.1, .dat (.sl (.int .i64)) a0.2.2.2.1, .dat (.sl .bool) a0.2.2.2.2]), (1, .box [.dat .str y8.1, .dat (.int .i64) y8.2.1, .dat (.int .i64) y8.2.2.1, .all 2, .all 3]), (2, .seq (.int .i64) y8.2.2.2.1), (3, .seq .bool y8.2.2.2.2)], 6⟩ hP hN (by kernel_rfl) allNil ?_
          have hr := of_some hr
          subst hr
          exact HT.ret (qThenR ⟨[.one (.dat .bool false)], [], [], by kernel_rfl, by kernel_rfl, rfl, (.inl rfl), by kernel_rfl, trivial⟩)
        · refine HT.cond0 rfl hb20 ?_
          refine HT.skip (qThen ?_)
          refine HT.reg1 [2] [⟨none, .no⟩] ⟨[(2, .one (.dat .bool true))], [(4, .seq (.int .i64) y16.2.2.2.1), (5, .seq .bool y16.2.2.2.2), (0, .box [.dat .str a0.1, .dat (.int .i64) a0.2.1, .dat (.int .i64) a0.2.2.1, .dat (.sl (.int .i64)) a0.2.2.2.1, .dat (.sl .bool) a0.2.2.2.2]), (1, .box [.dat .str y8.1, .dat (.int .i64) y8.2.1, .dat (.int .i64) y8.2.2.1, .all 2, .all 3]), (2, .seq (.int .i64) y8.2.2.2.1), (3, .seq .bool y8.2.2.2.2)], 6⟩ hP hN (by kernel_rfl) allNil ?_
          have hr := of_some hr
          subst hr
          exact HT.ret ⟨[.one (.dat .bool true)], [], [], by kernel_rfl, by kernel_rfl, rfl, (.inl rfl), by kernel_rfl, trivial⟩
    · rcases of_bif hT14 with ⟨hb21, hT14⟩ | ⟨hb21, hT14⟩
      · refine HT.reg (rs := [⟨none, .no⟩, ⟨none, .no⟩, ⟨none, .no⟩, ⟨none, .no⟩, ⟨some true, .no⟩, ⟨some true, .no⟩, ⟨some true, .no⟩, ⟨none, .tv true⟩]) (st' := ⟨[(34, .one (.dat .bool true)), (33, .und), (32, .und), (31, .und), (30, .one (.dat .bool (y10.1 != y6.1))), (29, .one (.dat .bool (y10.1 != y6.1))), (28, .one (.dat .str y6.1)), (27, .one (.dat .str y10.1)), (1, .one (.ptr 0 0)), (4, .one (.dat .str y6.1)), (5, .one (.dat .bool y6.2)), (6, .one (.ptr 5 0)), (7, .one (.dat .str y10.1)), (8, .one (.dat .bool y10.2))], [(5, .box [.dat .str y8.1, .dat (.int .i64) y8.2.1, .dat (.int .i64) y8.2.2.1, .all 3, .all 4]), (5, .box [.dat .str ([] : List UInt8), .dat (.int .i64) (0 : Int), .dat (.int .i64) (0 : Int), .nilS, .nilS]), (3, .seq (.int .i64) y8.2.2.2.1), (4, .seq .bool y8.2.2.2.2), (1, .seq (.int .i64) y4.2.2.2.1), (2, .seq .bool y4.2.2.2.2), (0, .box [.dat .str a0.1, .dat (.int .i64) a0.2.1, .dat (.int .i64) a0.2.2.1, .dat (.sl (.int .i64)) a0.2.2.2.1, .dat (.sl .bool) a0.2.2.2.2])], 6⟩) hP hN (by kernel_rfl) (allCons hb21 (allCons hb21 (allCons hb21 (allCons hb21 allNil)))) (qThen ?_)
        exact (Le.cv (s := ⟨[(0, 0), (5, 1), (3, 2), (4, 3)], [], [], false⟩) (own := []) (ps := [true = true, a0.1 = a0.1, a0.2.1 = a0.2.1, a0.2.2.1 = a0.2.2.1, a0.2.2.2.1 = a0.2.2.2.1, a0.2.2.2.2 = a0.2.2.2.2, y8.1 = y8.1, y8.2.1 = y8.2.1, y8.2.2.1 = y8.2.2.1, y8.2.2.2.1 = y8.2.2.2.1, y8.2.2.2.2 = y8.2.2.2.2]) (st' := ⟨[(1, .one (.ptr 0 0)), (6, .one (.ptr 1 0)), (34, .one (.dat .bool true))], [(0, .box [.dat .str a0.1, .dat (.int .i64) a0.2.1, .dat (.int .i64) a0.2.2.1, .dat (.sl (.int .i64)) a0.2.2.2.1, .dat (.sl .bool) a0.2.2.2.2]), (1, .box [.dat .str y8.1, .dat (.int .i64) y8.2.1, .dat (.int .i64) y8.2.2.1, .all 2, .all 3]), (2, .seq (.int .i64) y8.2.2.2.1), (3, .seq .bool y8.2.2.2.2)], 4⟩) hO (fun h => by cases h) (by kernel_rfl) ⟨rfl, rfl, rfl, rfl, rfl, rfl, rfl, rfl, rfl, rfl, rfl, trivial⟩).ht (cont true (of_some hT14))
      · refine HT.reg (rs := [⟨none, .no⟩, ⟨none, .no⟩, ⟨none, .no⟩, ⟨none, .no⟩, ⟨some false, .no⟩, ⟨some false, .no⟩, ⟨some false, .no⟩, ⟨none, .tv false⟩]) (st' := ⟨[(34, .one (.dat .bool (y10.2 != y6.2))), (33, .one (.dat .bool (y10.2 != y6.2))), (32, .one (.dat .bool y6.2)), (31, .one (.dat .bool y10.2)), (30, .one (.dat .bool (y10.1 != y6.1))), (29, .one (.dat .bool (y10.1 != y6.1))), (28, .one (.dat .str y6.1)), (27, .one (.dat .str y10.1)), (1, .one (.ptr 0 0)), (4, .one (.dat .str y6.1)), (5, .one (.dat .bool y6.2)), (6, .one (.ptr 5 0)), (7, .one (.dat .str y10.1)), (8, .one (.dat .bool y10.2))], [(5, .box [.dat .str y8.1, .dat (.int .i64) y8.2.1, .dat (.int .i64) y8.2.2.1, .all 3, .all 4]), (5, .box [.dat .str ([] : List UInt8), .dat (.int .i64) (0 : Int), .dat (.int .i64) (0 : Int), .nilS, .nilS]), (3, .seq (.int .i64) y8.2.2.2.1), (4, .seq .bool y8.2.2.2.2), (1, .seq (.int .i64) y4.2.2.2.1), (2, .seq .bool y4.2.2.2.2), (0, .box [.dat .str a0.1, .dat (.int .i64) a0.2.1, .dat (.int .i64) a0.2.2.1, .dat (.sl (.int .i64)) a0.2.2.2.1, .dat (.sl .bool) a0.2.2.2.2])], 6⟩) hP hN (by kernel_rfl) (allCons hb21 (allCons hb21 (allCons hb21 (allCons hb21 allNil)))) (qThen ?_)
        exact (Le.cv (s := ⟨[(0, 0), (5, 1), (3, 2), (4, 3)], [], [], false⟩) (own := []) (ps := [(y10.2 != y6.2) = (y10.2 != y6.2), a0.1 = a0.1, a0.2.1 = a0.2.1, a0.2.2.1 = a0.2.2.1, a0.2.2.2.1 = a0.2.2.2.1, a0.2.2.2.2 = a0.2.2.2.2, y8.1 = y8.1, y8.2.1 = y8.2.1, y8.2.2.1 = y8.2.2.1, y8.2.2.2.1 = y8.2.2.2.1, y8.2.2.2.2 = y8.2.2.2.2]) (st' := ⟨[(1, .one (.ptr 0 0)), (6, .one (.ptr 1 0)), (34, .one (.dat .bool (y10.2 != y6.2)))], [(0, .box [.dat .str a0.1, .dat (.int .i64) a0.2.1, .dat (.int .i64) a0.2.2.1, .dat (.sl (.int .i64)) a0.2.2.2.1, .dat (.sl .bool) a0.2.2.2.2]), (1, .box [.dat .str y8.1, .dat (.int .i64) y8.2.1, .dat (.int .i64) y8.2.2.1, .all 2, .all 3]), (2, .seq (.int .i64) y8.2.2.2.1), (3, .seq .bool y8.2.2.2.2)], 4⟩) hO (fun h => by cases h) (by kernel_rfl) ⟨rfl, rfl, rfl, rfl, rfl, rfl, rfl, rfl, rfl, rfl, rfl, trivial⟩).ht (cont (y10.2 != y6.2) (of_some hT14))

end Go.Proofs
