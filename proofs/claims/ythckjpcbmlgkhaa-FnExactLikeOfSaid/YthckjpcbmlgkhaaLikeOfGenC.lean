import Derived.Test.YthckjpcbmlgkhaaLikeOfGenB
import Derived.Test.YthckjpcbmlgkhaaProg
set_option linter.unusedVariables false
set_option linter.unusedSimpArgs false
set_option linter.unusedSectionVars false
/-
  Functions as plain functions, and their contracts. Printed by a program.
-/
namespace Go.Proofs
open Go.Ide

noncomputable def laws_FnExactLikeOf (a0 : Int × Int × List Nat × List Nat × List Nat) (a1 : List (List Int)) : Option (Bool) :=
  (laws_szModel (a0.1, a0.2.1, a0.2.2.1, a0.2.2.2.1, a0.2.2.2.2) (1048576 : Int)).bind fun y1 =>
  bif (decide (y1 < (0 : Int))) then
    some true
  else
    (laws_szInt64SS a1 y1).bind fun y4 =>
    bif (decide (y4 < (0 : Int))) then
      some true
    else
      (laws_toModel (a0.1, a0.2.1, a0.2.2.1, a0.2.2.2.1, a0.2.2.2.2)).bind fun y7 =>
      (laws_toInt64SS a1).bind fun y9 =>
      (spec_LikeOf (y7.1, y7.2.1, y7.2.2.1, y7.2.2.2.1, y7.2.2.2.2) y9).bind fun y11 =>
      (laws_toModel (a0.1, a0.2.1, a0.2.2.1, a0.2.2.2.1, a0.2.2.2.2)).bind fun y13 =>
      (laws_toInt64SS a1).bind fun y15 =>
      (impl_LikeOf (y13.1, y13.2.1, y13.2.2.1, y13.2.2.2.1, y13.2.2.2.2) y15).bind fun y17 =>
      (show Option (Bool) from
        (laws_sameFloat (fconv .f32 .f64 y17.1) (fconv .f32 .f64 y11.1)).bind fun y33 =>
        bif (!y33) then
          some true
        else
          some (y17.2 != y11.2)).bind fun v19 =>
      bif v19 then
        some false
      else
        (laws_toModel (a0.1, a0.2.1, a0.2.2.1, a0.2.2.2.1, a0.2.2.2.2)).bind fun y23 =>
        (laws_eqModel (y13.1, y13.2.1, y13.2.2.1, y13.2.2.2.1, y13.2.2.2.2) (y23.1, y23.2.1, y23.2.2.1, y23.2.2.2.1, y23.2.2.2.2)).bind fun y25 =>
        bif (!y25) then
          some false
        else
          (laws_toInt64SS a1).bind fun y28 =>
          (laws_eqInt64SS y15 y28).bind fun y30 =>
          bif (!y30) then
            some false
          else
            some true

theorem f12_ok {a0 : Int × Int × List Nat × List Nat × List Nat} {a1 : List (List Int)} {r : Bool} (hr : laws_FnExactLikeOf a0 a1 = some r) : CallOK Try.prog 12 [.imm (.st (.pair (.int .i64) (.pair (.int .i64) (.pair (.sl (.flt .f32)) (.pair (.sl (.flt .f32)) (.sl (.flt .f32))))))) a0, .imm (.sl (.sl (.int .i64))) a1] [⟨false, .bool, r⟩] [] := by
  unfold laws_FnExactLikeOf at hr
  refine CallOK.of_body (ts := [(false, .bool)]) Try.func12 rfl (by kernel_rfl) (Nat.le_of_ble_eq_true (by kernel_rfl)) fun cx hP hN hO hF => ?_
  have hO : cx.own.map Prod.fst = [] := hO
  have hF := hF rfl
  show HT cx ⟨[(0, .agg [.dat (.int .i64) a0.1, .dat (.int .i64) a0.2.1, .dat (.sl (.flt .f32)) a0.2.2.1, .dat (.sl (.flt .f32)) a0.2.2.2.1, .dat (.sl (.flt .f32)) a0.2.2.2.2]), (1, .one (.dat (.sl (.sl (.int .i64))) a1))], [], 0⟩ _ _
  refine HT.reg1 [1, 2] [⟨none, .no⟩, ⟨none, .no⟩] ⟨[(1, .one (.dat (.sl (.sl (.int .i64))) a1)), (2, .one (.ptr 0 0))], [(0, .box [.dat (.int .i64) a0.1, .dat (.int .i64) a0.2.1, .dat (.sl (.flt .f32)) a0.2.2.1, .dat (.sl (.flt .f32)) a0.2.2.2.1, .dat (.sl (.flt .f32)) a0.2.2.2.2])], 1⟩ hP hN (by kernel_rfl) allNil ?_
  refine HT.reg1 [1, 2, 5] [⟨none, .no⟩] ⟨[(1, .one (.dat (.sl (.sl (.int .i64))) a1)), (2, .one (.ptr 0 0)), (5, .one (.dat (.int .i64) (1048576 : Int)))], [(0, .box [.dat (.int .i64) a0.1, .dat (.int .i64) a0.2.1, .dat (.sl (.flt .f32)) a0.2.2.1, .dat (.sl (.flt .f32)) a0.2.2.2.1, .dat (.sl (.flt .f32)) a0.2.2.2.2])], 1⟩ hP hN (by kernel_rfl) allNil ?_
  obtain ⟨y1, hc2, hr⟩ := of_bind hr
  refine HT.reg1 [1, 2, 5] [⟨none, .no⟩, ⟨none, .no⟩, ⟨none, .call [.imm (.st (.pair (.int .i64) (.pair (.int .i64) (.pair (.sl (.flt .f32)) (.pair (.sl (.flt .f32)) (.sl (.flt .f32))))))), .imm (.int .i64)] [⟨false, (.int .i64), y1⟩] []⟩, ⟨none, .no⟩] ⟨[(1, .one (.dat (.sl (.sl (.int .i64))) a1)), (2, .one (.ptr 0 0)), (5, .one (.dat (.int .i64) y1))], [(0, .box [.dat (.int .i64) a0.1, .dat (.int .i64) a0.2.1, .dat (.sl (.flt .f32)) a0.2.2.1, .dat (.sl (.flt .f32)) a0.2.2.2.1, .dat (.sl (.flt .f32)) a0.2.2.2.2])], 1⟩ hP hN (by kernel_rfl) (allCons (f15_ok hc2) allNil) ?_
  refine HT.seq ?_
  refine HT.reg1 [1, 2, 5, 16] [⟨none, .no⟩, ⟨none, .no⟩] ⟨[(1, .one (.dat (.sl (.sl (.int .i64))) a1)), (2, .one (.ptr 0 0)), (5, .one (.dat (.int .i64) y1)), (16, .one (.dat .bool (decide (y1 < (0 : Int)))))], [(0, .box [.dat (.int .i64) a0.1, .dat (.int .i64) a0.2.1, .dat (.sl (.flt .f32)) a0.2.2.1, .dat (.sl (.flt .f32)) a0.2.2.2.1, .dat (.sl (.flt .f32)) a0.2.2.2.2])], 1⟩ hP hN (by kernel_rfl) allNil ?_
  rcases of_bif hr with ⟨hb3, hr⟩ | ⟨hb3, hr⟩
  · refine HT.cond1 rfl hb3 ?_
    refine HT.reg1 [4] [⟨none, .no⟩] ⟨[(4, .one (.dat .bool true))], [(0, .box [.dat (.int .i64) a0.1, .dat (.int .i64) a0.2.1, .dat (.sl (.flt .f32)) a0.2.2.1, .dat (.sl (.flt .f32)) a0.2.2.2.1, .dat (.sl (.flt .f32)) a0.2.2.2.2])], 1⟩ hP hN (by kernel_rfl) allNil ?_
    have hr := of_some hr
    subst hr
    exact HT.ret (qThenR ⟨[.one (.dat .bool true)], [], [], by kernel_rfl, by kernel_rfl, rfl, by kernel_rfl, by kernel_rfl, trivial⟩)
  · refine HT.cond0 rfl hb3 ?_
    refine HT.skip (qThen ?_)
    obtain ⟨y4, hc5, hr⟩ := of_bind hr
    refine HT.reg1 [1, 2, 5] [⟨none, .no⟩, ⟨none, .no⟩, ⟨none, .call [.imm (.sl (.sl (.int .i64))), .imm (.int .i64)] [⟨false, (.int .i64), y4⟩] []⟩, ⟨none, .no⟩] ⟨[(1, .one (.dat (.sl (.sl (.int .i64))) a1)), (2, .one (.ptr 0 0)), (5, .one (.dat (.int .i64) y4))], [(0, .box [.dat (.int .i64) a0.1, .dat (.int .i64) a0.2.1, .dat (.sl (.flt .f32)) a0.2.2.1, .dat (.sl (.flt .f32)) a0.2.2.2.1, .dat (.sl (.flt .f32)) a0.2.2.2.2])], 1⟩ hP hN (by kernel_rfl) (allCons (f51_ok hc5) allNil) ?_
    refine HT.seq ?_
    refine HT.reg1 [1, 2, 21] [⟨none, .no⟩, ⟨none, .no⟩] ⟨[(1, .one (.dat (.sl (.sl (.int .i64))) a1)), (2, .one (.ptr 0 0)), (21, .one (.dat .bool (decide (y4 < (0 : Int)))))], [(0, .box [.dat (.int .i64) a0.1, .dat (.int .i64) a0.2.1, .dat (.sl (.flt .f32)) a0.2.2.1, .dat (.sl (.flt .f32)) a0.2.2.2.1, .dat (.sl (.flt .f32)) a0.2.2.2.2])], 1⟩ hP hN (by kernel_rfl) allNil ?_
    rcases of_bif hr with ⟨hb6, hr⟩ | ⟨hb6, hr⟩
    · refine HT.cond1 rfl hb6 ?_
      refine HT.reg1 [4] [⟨none, .no⟩] ⟨[(4, .one (.dat .bool true))], [(0, .box [.dat (.int .i64) a0.1, .dat (.int .i64) a0.2.1, .dat (.sl (.flt .f32)) a0.2.2.1, .dat (.sl (.flt .f32)) a0.2.2.2.1, .dat (.sl (.flt .f32)) a0.2.2.2.2])], 1⟩ hP hN (by kernel_rfl) allNil ?_
      have hr := of_some hr
      subst hr
      exact HT.ret (qThenR ⟨[.one (.dat .bool true)], [], [], by kernel_rfl, by kernel_rfl, rfl, by kernel_rfl, by kernel_rfl, trivial⟩)
    · refine HT.cond0 rfl hb6 ?_
      refine HT.skip (qThen ?_)
      obtain ⟨y7, hc8, hr⟩ := of_bind hr
      obtain ⟨y9, hc10, hr⟩ := of_bind hr
      obtain ⟨y11, hc12, hr⟩ := of_bind hr
      refine HT.reg1 [1, 2, 6, 7] [⟨none, .no⟩, ⟨none, .call [.imm (.st (.pair (.int .i64) (.pair (.int .i64) (.pair (.sl (.flt .f32)) (.pair (.sl (.flt .f32)) (.sl (.flt .f32)))))))] [⟨true, (.st (.pair (.int .i64) (.pair (.int .i64) (.pair (.sl (.flt .f32)) (.pair (.sl (.flt .f32)) (.sl (.flt .f32))))))), y7⟩] []⟩, ⟨none, .no⟩, ⟨none, .call [.imm (.sl (.sl (.int .i64)))] [⟨false, (.sl (.sl (.int .i64))), y9⟩] []⟩, ⟨none, .call [.imm (.st (.pair (.int .i64) (.pair (.int .i64) (.pair (.sl (.flt .f32)) (.pair (.sl (.flt .f32)) (.sl (.flt .f32))))))), .imm (.sl (.sl (.int .i64)))] [⟨false, (.flt .f32), y11.1⟩, ⟨false, .bool, y11.2⟩] []⟩, ⟨none, .no⟩, ⟨none, .no⟩, ⟨none, .no⟩, ⟨none, .no⟩, ⟨none, .no⟩] ⟨[(1, .one (.dat (.sl (.sl (.int .i64))) a1)), (2, .one (.ptr 0 0)), (6, .one (.dat (.flt .f32) y11.1)), (7, .one (.dat .bool y11.2))], [(1, .seq (.flt .f32) y7.2.2.1), (2, .seq (.flt .f32) y7.2.2.2.1), (3, .seq (.flt .f32) y7.2.2.2.2), (0, .box [.dat (.int .i64) a0.1, .dat (.int .i64) a0.2.1, .dat (.sl (.flt .f32)) a0.2.2.1, .dat (.sl (.flt .f32)) a0.2.2.2.1, .dat (.sl (.flt .f32)) a0.2.2.2.2])], 4⟩ hP hN (by kernel_rfl) (allCons (f17_ok hc8) (allCons (f53_ok hc10) (allCons (f52_ok hc12) allNil))) ?_
      obtain ⟨y13, hc14, hr⟩ := of_bind hr
      refine HT.reg1 [1, 2, 6, 7, 8] [⟨none, .no⟩, ⟨none, .call [.imm (.st (.pair (.int .i64) (.pair (.int .i64) (.pair (.sl (.flt .f32)) (.pair (.sl (.flt .f32)) (.sl (.flt .f32)))))))] [⟨true, (.st (.pair (.int .i64) (.pair (.int .i64) (.pair (.sl (.flt .f32)) (.pair (.sl (.flt .f32)) (.sl (.flt .f32))))))), y13⟩] []⟩, ⟨none, .no⟩, ⟨none, .no⟩] ⟨[(1, .one (.dat (.sl (.sl (.int .i64))) a1)), (2, .one (.ptr 0 0)), (6, .one (.dat (.flt .f32) y11.1)), (7, .one (.dat .bool y11.2)), (8, .one (.ptr 7 0))], [(7, .box [.dat (.int .i64) y13.1, .dat (.int .i64) y13.2.1, .all 4, .all 5, .all 6]), (7, .box [.dat (.int .i64) (0 : Int), .dat (.int .i64) (0 : Int), .nilS, .nilS, .nilS]), (4, .seq (.flt .f32) y13.2.2.1), (5, .seq (.flt .f32) y13.2.2.2.1), (6, .seq (.flt .f32) y13.2.2.2.2), (1, .seq (.flt .f32) y7.2.2.1), (2, .seq (.flt .f32) y7.2.2.2.1), (3, .seq (.flt .f32) y7.2.2.2.2), (0, .box [.dat (.int .i64) a0.1, .dat (.int .i64) a0.2.1, .dat (.sl (.flt .f32)) a0.2.2.1, .dat (.sl (.flt .f32)) a0.2.2.2.1, .dat (.sl (.flt .f32)) a0.2.2.2.2])], 8⟩ hP hN (by kernel_rfl) (allCons (f17_ok hc14) allNil) ?_
      obtain ⟨y15, hc16, hr⟩ := of_bind hr
      refine HT.reg1 [1, 2, 6, 7, 8, 9] [⟨none, .no⟩, ⟨none, .call [.imm (.sl (.sl (.int .i64)))] [⟨false, (.sl (.sl (.int .i64))), y15⟩] []⟩, ⟨none, .no⟩] ⟨[(1, .one (.dat (.sl (.sl (.int .i64))) a1)), (2, .one (.ptr 0 0)), (6, .one (.dat (.flt .f32) y11.1)), (7, .one (.dat .bool y11.2)), (8, .one (.ptr 7 0)), (9, .one (.dat (.sl (.sl (.int .i64))) y15))], [(7, .box [.dat (.int .i64) y13.1, .dat (.int .i64) y13.2.1, .all 4, .all 5, .all 6]), (7, .box [.dat (.int .i64) (0 : Int), .dat (.int .i64) (0 : Int), .nilS, .nilS, .nilS]), (4, .seq (.flt .f32) y13.2.2.1), (5, .seq (.flt .f32) y13.2.2.2.1), (6, .seq (.flt .f32) y13.2.2.2.2), (1, .seq (.flt .f32) y7.2.2.1), (2, .seq (.flt .f32) y7.2.2.2.1), (3, .seq (.flt .f32) y7.2.2.2.2), (0, .box [.dat (.int .i64) a0.1, .dat (.int .i64) a0.2.1, .dat (.sl (.flt .f32)) a0.2.2.1, .dat (.sl (.flt .f32)) a0.2.2.2.1, .dat (.sl (.flt .f32)) a0.2.2.2.2])], 8⟩ hP hN (by kernel_rfl) (allCons (f53_ok hc16) allNil) ?_
      obtain ⟨y17, hc18, hr⟩ := of_bind hr
      refine HT.reg1 [1, 2, 6, 7, 8, 9, 10, 11] [⟨none, .no⟩, ⟨none, .no⟩, ⟨none, .call [.imm (.st (.pair (.int .i64) (.pair (.int .i64) (.pair (.sl (.flt .f32)) (.pair (.sl (.flt .f32)) (.sl (.flt .f32))))))), .imm (.sl (.sl (.int .i64)))] [⟨false, (.flt .f32), y17.1⟩, ⟨false, .bool, y17.2⟩] []⟩, ⟨none, .no⟩, ⟨none, .no⟩, ⟨none, .no⟩, ⟨none, .no⟩, ⟨none, .no⟩] ⟨[(1, .one (.dat (.sl (.sl (.int .i64))) a1)), (2, .one (.ptr 0 0)), (6, .one (.dat (.flt .f32) y11.1)), (7, .one (.dat .bool y11.2)), (8, .one (.ptr 7 0)), (9, .one (.dat (.sl (.sl (.int .i64))) y15)), (10, .one (.dat (.flt .f32) y17.1)), (11, .one (.dat .bool y17.2))], [(7, .box [.dat (.int .i64) y13.1, .dat (.int .i64) y13.2.1, .all 4, .all 5, .all 6]), (7, .box [.dat (.int .i64) (0 : Int), .dat (.int .i64) (0 : Int), .nilS, .nilS, .nilS]), (4, .seq (.flt .f32) y13.2.2.1), (5, .seq (.flt .f32) y13.2.2.2.1), (6, .seq (.flt .f32) y13.2.2.2.2), (1, .seq (.flt .f32) y7.2.2.1), (2, .seq (.flt .f32) y7.2.2.2.1), (3, .seq (.flt .f32) y7.2.2.2.2), (0, .box [.dat (.int .i64) a0.1, .dat (.int .i64) a0.2.1, .dat (.sl (.flt .f32)) a0.2.2.1, .dat (.sl (.flt .f32)) a0.2.2.2.1, .dat (.sl (.flt .f32)) a0.2.2.2.2])], 8⟩ hP hN (by kernel_rfl) (allCons (f54_ok hc18) allNil) ?_
      refine HT.seq ?_
      obtain ⟨v19', hT21, hr⟩ := of_bind hr
      refine HT.join (fun (v19 : Bool) => ⟨[(1, .one (.dat (.sl (.sl (.int .i64))) a1)), (2, .one (.ptr 0 0)), (8, .one (.ptr 1 0)), (9, .one (.dat (.sl (.sl (.int .i64))) y15)), (50, .one (.dat .bool v19))], [(0, .box [.dat (.int .i64) a0.1, .dat (.int .i64) a0.2.1, .dat (.sl (.flt .f32)) a0.2.2.1, .dat (.sl (.flt .f32)) a0.2.2.2.1, .dat (.sl (.flt .f32)) a0.2.2.2.2]), (1, .box [.dat (.int .i64) y13.1, .dat (.int .i64) y13.2.1, .all 2, .all 3, .all 4]), (2, .seq (.flt .f32) y13.2.2.1), (3, .seq (.flt .f32) y13.2.2.2.1), (4, .seq (.flt .f32) y13.2.2.2.2)], 5⟩) (fun v => v = v19') (fun v19 hv20 => ?_) (fun cont => ?_)
      · subst hv20
        rcases of_bif hr with ⟨hb22, hr⟩ | ⟨hb22, hr⟩
        · refine HT.cond1 rfl hb22 ?_
          refine HT.reg1 [4] [⟨none, .no⟩] ⟨[(4, .one (.dat .bool false))], [(0, .box [.dat (.int .i64) a0.1, .dat (.int .i64) a0.2.1, .dat (.sl (.flt .f32)) a0.2.2.1, .dat (.sl (.flt .f32)) a0.2.2.2.1, .dat (.sl (.flt .f32)) a0.2.2.2.2]), (1, .box [.dat (.int .i64) y13.1, .dat (.int .i64) y13.2.1, .all 2, .all 3, .all 4]), (2, .seq (.flt .f32) y13.2.2.1), (3, .seq (.flt .f32) y13.2.2.2.1), (4, .seq (.flt .f32) y13.2.2.2.2)], 5⟩ hP hN (by kernel_rfl) allNil ?_
          have hr := of_some hr
          subst hr
          exact HT.ret (qThenR ⟨[.one (.dat .bool false)], [], [], by kernel_rfl, by kernel_rfl, rfl, by kernel_rfl, by kernel_rfl, trivial⟩)
        · refine HT.cond0 rfl hb22 ?_
          refine HT.skip (qThen ?_)
          refine HT.seq ?_
          obtain ⟨y23, hc24, hr⟩ := of_bind hr
          obtain ⟨y25, hc26, hr⟩ := of_bind hr
          refine HT.drw1 [1, 9, 55] 3 [⟨⟨none, .no⟩, []⟩, ⟨⟨none, .no⟩, []⟩, ⟨⟨none, .call [.imm (.st (.pair (.int .i64) (.pair (.int .i64) (.pair (.sl (.flt .f32)) (.pair (.sl (.flt .f32)) (.sl (.flt .f32)))))))] [⟨true, (.st (.pair (.int .i64) (.pair (.int .i64) (.pair (.sl (.flt .f32)) (.pair (.sl (.flt .f32)) (.sl (.flt .f32))))))), y23⟩] []⟩, [1]⟩] [[0, 1, 2], [0, 1, 2, 3]] [⟨none, .call [.imm (.st (.pair (.int .i64) (.pair (.int .i64) (.pair (.sl (.flt .f32)) (.pair (.sl (.flt .f32)) (.sl (.flt .f32))))))), .imm (.st (.pair (.int .i64) (.pair (.int .i64) (.pair (.sl (.flt .f32)) (.pair (.sl (.flt .f32)) (.sl (.flt .f32)))))))] [⟨false, .bool, y25⟩] []⟩, ⟨none, .no⟩] ⟨[(1, .one (.dat (.sl (.sl (.int .i64))) a1)), (9, .one (.dat (.sl (.sl (.int .i64))) y15)), (55, .one (.dat .bool (!y25)))], [(5, .seq (.flt .f32) y23.2.2.1), (6, .seq (.flt .f32) y23.2.2.2.1), (7, .seq (.flt .f32) y23.2.2.2.2), (0, .box [.dat (.int .i64) a0.1, .dat (.int .i64) a0.2.1, .dat (.sl (.flt .f32)) a0.2.2.1, .dat (.sl (.flt .f32)) a0.2.2.2.1, .dat (.sl (.flt .f32)) a0.2.2.2.2]), (1, .box [.dat (.int .i64) y13.1, .dat (.int .i64) y13.2.1, .all 2, .all 3, .all 4]), (2, .seq (.flt .f32) y13.2.2.1), (3, .seq (.flt .f32) y13.2.2.2.1), (4, .seq (.flt .f32) y13.2.2.2.2)], 8⟩ hP hN (by kernel_rfl) (by kernel_rfl) (allCons (f17_ok hc24) (allCons (f20_ok hc26) allNil)) ?_
          rcases of_bif hr with ⟨hb27, hr⟩ | ⟨hb27, hr⟩
          · refine HT.cond1 rfl hb27 ?_
            refine HT.reg1 [4] [⟨none, .no⟩] ⟨[(4, .one (.dat .bool false))], [(5, .seq (.flt .f32) y23.2.2.1), (6, .seq (.flt .f32) y23.2.2.2.1), (7, .seq (.flt .f32) y23.2.2.2.2), (0, .box [.dat (.int .i64) a0.1, .dat (.int .i64) a0.2.1, .dat (.sl (.flt .f32)) a0.2.2.1, .dat (.sl (.flt .f32)) a0.2.2.2.1, .dat (.sl (.flt .f32)) a0.2.2.2.2]), (1, .box [.dat (.int .i64) y13.1, .dat (.int .i64) y13.2.1, .all 2, .all 3, .all 4]), (2, .seq (.flt .f32) y13.2.2.1), (3, .seq (.flt .f32) y13.2.2.2.1), (4, .seq (.flt .f32) y13.2.2.2.2)], 8⟩ hP hN (by kernel_rfl) allNil ?_
            have hr := of_some hr
            subst hr
            exact HT.ret (qThenR ⟨[.one (.dat .bool false)], [], [], by kernel_rfl, by kernel_rfl, rfl, by kernel_rfl, by kernel_rfl, trivial⟩)
          · refine HT.cond0 rfl hb27 ?_
            refine HT.skip (qThen ?_)
            refine HT.seq ?_
            obtain ⟨y28, hc29, hr⟩ := of_bind hr
            obtain ⟨y30, hc31, hr⟩ := of_bind hr
            refine HT.reg1 [60] [⟨none, .no⟩, ⟨none, .no⟩, ⟨none, .call [.imm (.sl (.sl (.int .i64)))] [⟨false, (.sl (.sl (.int .i64))), y28⟩] []⟩, ⟨none, .call [.imm (.sl (.sl (.int .i64))), .imm (.sl (.sl (.int .i64)))] [⟨false, .bool, y30⟩] []⟩, ⟨none, .no⟩] ⟨[(60, .one (.dat .bool (!y30)))], [(5, .seq (.flt .f32) y23.2.2.1), (6, .seq (.flt .f32) y23.2.2.2.1), (7, .seq (.flt .f32) y23.2.2.2.2), (0, .box [.dat (.int .i64) a0.1, .dat (.int .i64) a0.2.1, .dat (.sl (.flt .f32)) a0.2.2.1, .dat (.sl (.flt .f32)) a0.2.2.2.1, .dat (.sl (.flt .f32)) a0.2.2.2.2]), (1, .box [.dat (.int .i64) y13.1, .dat (.int .i64) y13.2.1, .all 2, .all 3, .all 4]), (2, .seq (.flt .f32) y13.2.2.1), (3, .seq (.flt .f32) y13.2.2.2.1), (4, .seq (.flt .f32) y13.2.2.2.2)], 8⟩ hP hN (by kernel_rfl) (allCons (f53_ok hc29) (allCons (f55_ok hc31) allNil)) ?_
            rcases of_bif hr with ⟨hb32, hr⟩ | ⟨hb32, hr⟩
            · refine HT.cond1 rfl hb32 ?_
              refine HT.reg1 [4] [⟨none, .no⟩] ⟨[(4, .one (.dat .bool false))], [(5, .seq (.flt .f32) y23.2.2.1), (6, .seq (.flt .f32) y23.2.2.2.1), (7, .seq (.flt .f32) y23.2.2.2.2), (0, .box [.dat (.int .i64) a0.1, .dat (.int .i64) a0.2.1, .dat (.sl (.flt .f32)) a0.2.2.1, .dat (.sl (.flt .f32)) a0.2.2.2.1, .dat (.sl (.flt .f32)) a0.2.2.2.2]), (1, .box [.dat (.int .i64) y13.1, .dat (.int .i64) y13.2.1, .all 2, .all 3, .all 4]), (2, .seq (.flt .f32) y13.2.2.1), (3, .seq (.flt .f32) y13.2.2.2.1), (4, .seq (.flt .f32) y13.2.2.2.2)], 8⟩ hP hN (by kernel_rfl) allNil ?_
              have hr := of_some hr
              subst hr
              exact HT.ret (qThenR ⟨[.one (.dat .bool false)], [], [], by kernel_rfl, by kernel_rfl, rfl, by kernel_rfl, by kernel_rfl, trivial⟩)
            · refine HT.cond0 rfl hb32 ?_
              refine HT.skip (qThen ?_)
              refine HT.reg1 [4] [⟨none, .no⟩] ⟨[(4, .one (.dat .bool true))], [(5, .seq (.flt .f32) y23.2.2.1), (6, .seq (.flt .f32) y23.2.2.2.1), (7, .seq (.flt .f32) y23.2.2.2.2), (0, .box [.dat (.int .i64) a0.1, .dat (.int .i64) a0.2.1, .dat (.sl (.flt .f32)) a0.2.2.1, .dat (.sl (.flt .f32)) a0.2.2.2.1, .dat (.sl (.flt .f32)) a0.2.2.2.2]), (1, .box [.dat (.int .i64) y13.1, .dat (.int .i64) y13.2.1, .all 2, .all 3, .all 4]), (2, .seq (.flt .f32) y13.2.2.1), (3, .seq (.flt .f32) y13.2.2.2.1), (4, .seq (.flt .f32) y13.2.2.2.2)], 8⟩ hP hN (by kernel_rfl) allNil ?_
              have hr := of_some hr
              subst hr
              exact HT.ret ⟨[.one (.dat .bool true)], [], [], by kernel_rfl, by kernel_rfl, rfl, by kernel_rfl, by kernel_rfl, trivial⟩
      · obtain ⟨y33, hc34, hT21⟩ := of_bind hT21
        rcases of_bif hT21 with ⟨hb35, hT21⟩ | ⟨hb35, hT21⟩
        · refine HT.reg (rs := [⟨none, .no⟩, ⟨none, .no⟩, ⟨none, .no⟩, ⟨none, .no⟩, ⟨none, .call [.imm (.flt .f64), .imm (.flt .f64)] [⟨false, .bool, y33⟩] []⟩, ⟨none, .no⟩, ⟨none, .no⟩, ⟨some true, .no⟩, ⟨some true, .no⟩, ⟨some true, .no⟩, ⟨none, .tv true⟩]) (st' := ⟨[(50, .one (.dat .bool true)), (49, .und), (48, .und), (47, .und), (46, .one (.dat .bool (!y33))), (45, .one (.dat .bool (!y33))), (44, .one (.dat .bool y33)), (43, .one (.dat (.flt .f64) (fconv .f32 .f64 y11.1))), (42, .one (.dat (.flt .f32) y11.1)), (41, .one (.dat (.flt .f64) (fconv .f32 .f64 y17.1))), (40, .one (.dat (.flt .f32) y17.1)), (1, .one (.dat (.sl (.sl (.int .i64))) a1)), (2, .one (.ptr 0 0)), (6, .one (.dat (.flt .f32) y11.1)), (7, .one (.dat .bool y11.2)), (8, .one (.ptr 7 0)), (9, .one (.dat (.sl (.sl (.int .i64))) y15)), (10, .one (.dat (.flt .f32) y17.1)), (11, .one (.dat .bool y17.2))], [(7, .box [.dat (.int .i64) y13.1, .dat (.int .i64) y13.2.1, .all 4, .all 5, .all 6]), (7, .box [.dat (.int .i64) (0 : Int), .dat (.int .i64) (0 : Int), .nilS, .nilS, .nilS]), (4, .seq (.flt .f32) y13.2.2.1), (5, .seq (.flt .f32) y13.2.2.2.1), (6, .seq (.flt .f32) y13.2.2.2.2), (1, .seq (.flt .f32) y7.2.2.1), (2, .seq (.flt .f32) y7.2.2.2.1), (3, .seq (.flt .f32) y7.2.2.2.2), (0, .box [.dat (.int .i64) a0.1, .dat (.int .i64) a0.2.1, .dat (.sl (.flt .f32)) a0.2.2.1, .dat (.sl (.flt .f32)) a0.2.2.2.1, .dat (.sl (.flt .f32)) a0.2.2.2.2])], 8⟩) hP hN (by kernel_rfl) (allCons (show fconvOK .f32 .f64 y17.1 = true from (fconv_up _)) (allCons (show fconvOK .f32 .f64 y11.1 = true from (fconv_up _)) (allCons (f19_ok hc34) (allCons hb35 (allCons hb35 (allCons hb35 (allCons hb35 allNil))))))) (qThen ?_)
          exact (Le.cv (s := ⟨[(0, 0), (7, 1), (4, 2), (5, 3), (6, 4)], [], [], false⟩) (own := []) (ps := [a1 = a1, y15 = y15, true = true, a0.1 = a0.1, a0.2.1 = a0.2.1, a0.2.2.1 = a0.2.2.1, a0.2.2.2.1 = a0.2.2.2.1, a0.2.2.2.2 = a0.2.2.2.2, y13.1 = y13.1, y13.2.1 = y13.2.1, y13.2.2.1 = y13.2.2.1, y13.2.2.2.1 = y13.2.2.2.1, y13.2.2.2.2 = y13.2.2.2.2]) (st' := ⟨[(1, .one (.dat (.sl (.sl (.int .i64))) a1)), (2, .one (.ptr 0 0)), (8, .one (.ptr 1 0)), (9, .one (.dat (.sl (.sl (.int .i64))) y15)), (50, .one (.dat .bool true))], [(0, .box [.dat (.int .i64) a0.1, .dat (.int .i64) a0.2.1, .dat (.sl (.flt .f32)) a0.2.2.1, .dat (.sl (.flt .f32)) a0.2.2.2.1, .dat (.sl (.flt .f32)) a0.2.2.2.2]), (1, .box [.dat (.int .i64) y13.1, .dat (.int .i64) y13.2.1, .all 2, .all 3, .all 4]), (2, .seq (.flt .f32) y13.2.2.1), (3, .seq (.flt .f32) y13.2.2.2.1), (4, .seq (.flt .f32) y13.2.2.2.2)], 5⟩) hO (fun h => by cases h) (by kernel_rfl) ⟨rfl, rfl, rfl, rfl, rfl, rfl, rfl, rfl, rfl, rfl, rfl, rfl, rfl, trivial⟩).ht (cont true (of_some hT21))
        · refine HT.reg (rs := [⟨none, .no⟩, ⟨none, .no⟩, ⟨none, .no⟩, ⟨none, .no⟩, ⟨none, .call [.imm (.flt .f64), .imm (.flt .f64)] [⟨false, .bool, y33⟩] []⟩, ⟨none, .no⟩, ⟨none, .no⟩, ⟨some false, .no⟩, ⟨some false, .no⟩, ⟨some false, .no⟩, ⟨none, .tv false⟩]) (st' := ⟨[(50, .one (.dat .bool (y17.2 != y11.2))), (49, .one (.dat .bool (y17.2 != y11.2))), (48, .one (.dat .bool y11.2)), (47, .one (.dat .bool y17.2)), (46, .one (.dat .bool (!y33))), (45, .one (.dat .bool (!y33))), (44, .one (.dat .bool y33)), (43, .one (.dat (.flt .f64) (fconv .f32 .f64 y11.1))), (42, .one (.dat (.flt .f32) y11.1)), (41, .one (.dat (.flt .f64) (fconv .f32 .f64 y17.1))), (40, .one (.dat (.flt .f32) y17.1)), (1, .one (.dat (.sl (.sl (.int .i64))) a1)), (2, .one (.ptr 0 0)), (6, .one (.dat (.flt .f32) y11.1)), (7, .one (.dat .bool y11.2)), (8, .one (.ptr 7 0)), (9, .one (.dat (.sl (.sl (.int .i64))) y15)), (10, .one (.dat (.flt .f32) y17.1)), (11, .one (.dat .bool y17.2))], [(7, .box [.dat (.int .i64) y13.1, .dat (.int .i64) y13.2.1, .all 4, .all 5, .all 6]), (7, .box [.dat (.int .i64) (0 : Int), .dat (.int .i64) (0 : Int), .nilS, .nilS, .nilS]), (4, .seq (.flt .f32) y13.2.2.1), (5, .seq (.flt .f32) y13.2.2.2.1), (6, .seq (.flt .f32) y13.2.2.2.2), (1, .seq (.flt .f32) y7.2.2.1), (2, .seq (.flt .f32) y7.2.2.2.1), (3, .seq (.flt .f32) y7.2.2.2.2), (0, .box [.dat (.int .i64) a0.1, .dat (.int .i64) a0.2.1, .dat (.sl (.flt .f32)) a0.2.2.1, .dat (.sl (.flt .f32)) a0.2.2.2.1, .dat (.sl (.flt .f32)) a0.2.2.2.2])], 8⟩) hP hN (by kernel_rfl) (allCons (show fconvOK .f32 .f64 y17.1 = true from (fconv_up _)) (allCons (show fconvOK .f32 .f64 y11.1 = true from (fconv_up _)) (allCons (f19_ok hc34) (allCons hb35 (allCons hb35 (allCons hb35 (allCons hb35 allNil))))))) (qThen ?_)
          exact (Le.cv (s := ⟨[(0, 0), (7, 1), (4, 2), (5, 3), (6, 4)], [], [], false⟩) (own := []) (ps := [a1 = a1, y15 = y15, (y17.2 != y11.2) = (y17.2 != y11.2), a0.1 = a0.1, a0.2.1 = a0.2.1, a0.2.2.1 = a0.2.2.1, a0.2.2.2.1 = a0.2.2.2.1, a0.2.2.2.2 = a0.2.2.2.2, y13.1 = y13.1, y13.2.1 = y13.2.1, y13.2.2.1 = y13.2.2.1, y13.2.2.2.1 = y13.2.2.2.1, y13.2.2.2.2 = y13.2.2.2.2]) (st' := ⟨[(1, .one (.dat (.sl (.sl (.int .i64))) a1)), (2, .one (.ptr 0 0)), (8, .one (.ptr 1 0)), (9, .one (.dat (.sl (.sl (.int .i64))) y15)), (50, .one (.dat .bool (y17.2 != y11.2)))], [(0, .box [.dat (.int .i64) a0.1, .dat (.int .i64) a0.2.1, .dat (.sl (.flt .f32)) a0.2.2.1, .dat (.sl (.flt .f32)) a0.2.2.2.1, .dat (.sl (.flt .f32)) a0.2.2.2.2]), (1, .box [.dat (.int .i64) y13.1, .dat (.int .i64) y13.2.1, .all 2, .all 3, .all 4]), (2, .seq (.flt .f32) y13.2.2.1), (3, .seq (.flt .f32) y13.2.2.2.1), (4, .seq (.flt .f32) y13.2.2.2.2)], 5⟩) hO (fun h => by cases h) (by kernel_rfl) ⟨rfl, rfl, rfl, rfl, rfl, rfl, rfl, rfl, rfl, rfl, rfl, rfl, rfl, trivial⟩).ht (cont (y17.2 != y11.2) (of_some hT21))

end Go.Proofs
