import Derived.Test.YtlipeppmdeanbaaChanceOfGenA
import Derived.Test.YtlipeppmdeanbaaProg
set_option linter.unusedVariables false
set_option linter.unusedSimpArgs false
set_option linter.unusedSectionVars false
/-
  Functions as plain functions, and their contracts. Printed by a program.
-/
namespace Go.Proofs
open Go.Ide

noncomputable def impl_Model_forward_B1 (a0 : Int × Int × List Nat × List Nat × List Nat) (a1 : List Int) (s3 : Int × List (List Nat)) : Option ((Int × List (List Nat)) ⊕ (List (List Nat))) :=
  bif (decide (s3.1 < (lenI a1))) then
    guardP ((0 : Int) ≤ s3.1 ∧ s3.1 < lenI a1) (
      guardP ((0 : Int) ≤ s3.1 ∧ s3.1 < lenI s3.2) (
        (impl_Model_nextRow (a0.1, a0.2.1, a0.2.2.1, a0.2.2.2.1, a0.2.2.2.2) (List.getD s3.2 (Int.toNat s3.1) ([] : List Nat)) (List.getD a1 (Int.toNat s3.1) (0 : Int))).bind fun y12 =>
        guardP (List.length s3.2 + List.length ([y12] : List (List Nat)) ≤ appMax) (
          some (.inl ((wadd .i64 s3.1 (1 : Int)), (s3.2 ++ ([y12] : List (List Nat))))))))
  else
    some (.inr s3.2)

noncomputable def impl_Model_forward (a0 : Int × Int × List Nat × List Nat × List Nat) (a1 : List Int) : Option (List (List Nat)) :=
  (slices_Clone a0.2.2.1).bind fun y1 =>
  (rounds (impl_Model_forward_B1 a0 a1) ((0 : Int), ([y1] : List (List Nat)))).bind fun r5 =>
  some r5

theorem f143_ok {a0 : Int × Int × List Nat × List Nat × List Nat} {a1 : List Int} {r : List (List Nat)} (hr : impl_Model_forward a0 a1 = some r) : CallOK Try.prog 143 [.imm (.st (.pair (.int .i64) (.pair (.int .i64) (.pair (.sl (.flt .f32)) (.pair (.sl (.flt .f32)) (.sl (.flt .f32))))))) a0, .imm (.sl (.int .i64)) a1] [⟨false, (.sl (.sl (.flt .f32))), r⟩] [] := by
  unfold impl_Model_forward at hr
  refine CallOK.of_body (ts := [(false, (.sl (.sl (.flt .f32))))]) Try.func143 rfl (by kernel_rfl) (Nat.le_of_ble_eq_true (by kernel_rfl)) fun cx hP hN hO hF => ?_
  have hO : cx.own.map Prod.fst = [] := hO
  have hF : cx.F = [] := hF rfl
  show HT cx ⟨[(0, .agg [.dat (.int .i64) a0.1, .dat (.int .i64) a0.2.1, .dat (.sl (.flt .f32)) a0.2.2.1, .dat (.sl (.flt .f32)) a0.2.2.2.1, .dat (.sl (.flt .f32)) a0.2.2.2.2]), (1, .one (.dat (.sl (.int .i64)) a1))], [], 0⟩ _ _
  refine HT.reg1 [1, 2] [⟨none, .no⟩, ⟨none, .no⟩] ⟨[(1, .one (.dat (.sl (.int .i64)) a1)), (2, .one (.ptr 0 0))], [(0, .box [.dat (.int .i64) a0.1, .dat (.int .i64) a0.2.1, .dat (.sl (.flt .f32)) a0.2.2.1, .dat (.sl (.flt .f32)) a0.2.2.2.1, .dat (.sl (.flt .f32)) a0.2.2.2.2])], 1⟩ hP hN (by kernel_rfl) allNil ?_
  obtain ⟨y1, hc2, hr⟩ := of_bind hr
  refine HT.reg1 [1, 2, 5] [⟨none, .no⟩, ⟨none, .no⟩, ⟨none, .call [.imm (.sl (.flt .f32))] [⟨false, (.sl (.flt .f32)), y1⟩] []⟩, ⟨none, .ty (.sl (.flt .f32))⟩, ⟨none, .no⟩] ⟨[(1, .one (.dat (.sl (.int .i64)) a1)), (2, .one (.ptr 0 0)), (5, .one (.all 1))], [(1, .seq (.sl (.flt .f32)) ([y1] : List (List Nat))), (0, .box [.dat (.int .i64) a0.1, .dat (.int .i64) a0.2.1, .dat (.sl (.flt .f32)) a0.2.2.1, .dat (.sl (.flt .f32)) a0.2.2.2.1, .dat (.sl (.flt .f32)) a0.2.2.2.2])], 2⟩ hP hN (by kernel_rfl) (allCons (CallOK.frz [true] (f159_ok hc2)) allNil) ?_
  refine HT.seq ?_
  refine HT.reg1 [2, 5, 12, 13, 14] [⟨none, .no⟩, ⟨none, .no⟩, ⟨none, .no⟩] ⟨[(2, .one (.ptr 0 0)), (5, .one (.all 1)), (12, .one (.dat (.sl (.int .i64)) a1)), (13, .one (.dat (.int .i64) (lenI a1))), (14, .one (.dat (.int .i64) (0 : Int)))], [(1, .seq (.sl (.flt .f32)) ([y1] : List (List Nat))), (0, .box [.dat (.int .i64) a0.1, .dat (.int .i64) a0.2.1, .dat (.sl (.flt .f32)) a0.2.2.1, .dat (.sl (.flt .f32)) a0.2.2.2.1, .dat (.sl (.flt .f32)) a0.2.2.2.2])], 2⟩ hP hN (by kernel_rfl) allNil ?_
  refine HT.block ?_
  obtain ⟨r4, hL15, hr⟩ := of_bind hr
  refine (Le.cv (s := ⟨[(0, 0), (1, 1)], [], [], false⟩) (own := []) (ps := [a1 = a1, (lenI a1) = (lenI a1), (0 : Int) = (0 : Int), a0.1 = a0.1, a0.2.1 = a0.2.1, a0.2.2.1 = a0.2.2.1, a0.2.2.2.1 = a0.2.2.2.1, a0.2.2.2.2 = a0.2.2.2.2, ([y1] : List (List Nat)) = ([y1] : List (List Nat))]) (st' := ⟨[(2, .one (.ptr 0 0)), (5, .one (.all 1)), (12, .one (.dat (.sl (.int .i64)) a1)), (13, .one (.dat (.int .i64) (lenI a1))), (14, .one (.dat (.int .i64) (0 : Int)))], [(0, .box [.dat (.int .i64) a0.1, .dat (.int .i64) a0.2.1, .dat (.sl (.flt .f32)) a0.2.2.1, .dat (.sl (.flt .f32)) a0.2.2.2.1, .dat (.sl (.flt .f32)) a0.2.2.2.2]), (1, .seq (.sl (.flt .f32)) ([y1] : List (List Nat)))], 2⟩) hO (fun h => by cases h) (by kernel_rfl) ⟨rfl, rfl, rfl, rfl, rfl, rfl, rfl, rfl, rfl, trivial⟩).ht ?_
  refine HT.loopE (s := ((0 : Int), ([y1] : List (List Nat)))) (fun (s3 : Int × List (List Nat)) => ⟨[(2, .one (.ptr 0 0)), (5, .one (.all 1)), (12, .one (.dat (.sl (.int .i64)) a1)), (13, .one (.dat (.int .i64) (lenI a1))), (14, .one (.dat (.int .i64) s3.1))], [(0, .box [.dat (.int .i64) a0.1, .dat (.int .i64) a0.2.1, .dat (.sl (.flt .f32)) a0.2.2.1, .dat (.sl (.flt .f32)) a0.2.2.2.1, .dat (.sl (.flt .f32)) a0.2.2.2.2]), (1, .seq (.sl (.flt .f32)) s3.2)], 2⟩) (fun (r5 : List (List Nat)) => (.exit 0, ⟨[(5, .one (.all 0))], [(0, .seq (.sl (.flt .f32)) r5)], 1⟩)) hL15 ?_ (fun s3 x6 hx7 hk8 => ?_)
  · refine (qBlockX (qThen ?_))
    refine HT.reg1 [4] [⟨none, .no⟩, ⟨none, .no⟩] ⟨[(4, .one (.all 0))], [(0, .seq (.sl (.flt .f32)) r4)], 1⟩ hP hN (by kernel_rfl) allNil ?_
    have hr := of_some hr
    subst hr
    refine (Le.cv (s := ⟨[], [], [], true⟩) (own := []) (ps := [r4 = r4]) (st' := ⟨[(4, .one (.dat (.sl (.sl (.flt .f32))) r4))], [], 1⟩) hO (fun _ => hF) (by kernel_rfl) ⟨rfl, trivial⟩).ht ?_
    exact HT.ret ⟨[.one (.dat (.sl (.sl (.flt .f32))) r4)], [], [], by kernel_rfl, by kernel_rfl, rfl, (.inl rfl), by kernel_rfl, trivial⟩
  · refine HT.reg1 [2, 5, 12, 13, 14, 15] [⟨none, .no⟩] ⟨[(2, .one (.ptr 0 0)), (5, .one (.all 1)), (12, .one (.dat (.sl (.int .i64)) a1)), (13, .one (.dat (.int .i64) (lenI a1))), (14, .one (.dat (.int .i64) s3.1)), (15, .one (.dat .bool (decide (s3.1 < (lenI a1)))))], [(0, .box [.dat (.int .i64) a0.1, .dat (.int .i64) a0.2.1, .dat (.sl (.flt .f32)) a0.2.2.1, .dat (.sl (.flt .f32)) a0.2.2.2.1, .dat (.sl (.flt .f32)) a0.2.2.2.2]), (1, .seq (.sl (.flt .f32)) s3.2)], 2⟩ hP hN (by kernel_rfl) allNil ?_
    refine HT.seq ?_
    rcases of_bif hx7 with ⟨hb9, hx7⟩ | ⟨hb9, hx7⟩
    · refine HT.cond1 rfl hb9 ?_
      refine HT.skip (qThen ?_)
      refine HT.seq ?_
      refine HT.block ?_
      obtain ⟨hg10, hx7⟩ := of_guard hx7
      refine HT.reg1 [2, 5, 6, 7, 12, 13, 14] [⟨none, .no⟩, ⟨none, .no⟩, ⟨none, .no⟩, ⟨none, .no⟩, ⟨none, .no⟩] ⟨[(2, .one (.ptr 0 0)), (5, .one (.all 1)), (6, .one (.dat (.int .i64) s3.1)), (7, .one (.dat (.int .i64) (List.getD a1 (Int.toNat s3.1) (0 : Int)))), (12, .one (.dat (.sl (.int .i64)) a1)), (13, .one (.dat (.int .i64) (lenI a1))), (14, .one (.dat (.int .i64) s3.1))], [(0, .box [.dat (.int .i64) a0.1, .dat (.int .i64) a0.2.1, .dat (.sl (.flt .f32)) a0.2.2.1, .dat (.sl (.flt .f32)) a0.2.2.2.1, .dat (.sl (.flt .f32)) a0.2.2.2.2]), (1, .seq (.sl (.flt .f32)) s3.2)], 2⟩ hP hN (by kernel_rfl) (allCons hg10 allNil) ?_
      obtain ⟨hg11, hx7⟩ := of_guard hx7
      obtain ⟨y12, hc13, hx7⟩ := of_bind hx7
      obtain ⟨hg14, hx7⟩ := of_guard hx7
      refine drawS (h := 9) (hrs := [⟨⟨none, .no⟩, []⟩, ⟨⟨none, .no⟩, []⟩, ⟨⟨none, .no⟩, []⟩, ⟨⟨none, .no⟩, []⟩, ⟨⟨none, .no⟩, [2, 3]⟩, ⟨⟨none, .no⟩, [2, 3, 4]⟩, ⟨⟨none, .no⟩, []⟩, ⟨⟨none, .call [.imm (.st (.pair (.int .i64) (.pair (.int .i64) (.pair (.sl (.flt .f32)) (.pair (.sl (.flt .f32)) (.sl (.flt .f32))))))), .imm (.sl (.flt .f32)), .imm (.int .i64)] [⟨false, (.sl (.flt .f32)), y12⟩] []⟩, [1, 2, 3, 4, 5, 6]⟩, ⟨⟨none, .ty (.sl (.flt .f32))⟩, [1, 2, 3, 4, 5, 6, 7]⟩]) (tds := [[0, 1, 2, 3, 4, 5, 6, 7, 8], [0, 1, 2, 3, 4, 5, 6, 7, 8, 9]]) (rs := [⟨none, .ty (.sl (.flt .f32))⟩, ⟨none, .no⟩]) (st' := ⟨[(5, .one (.all 3)), (28, .one (.all 3)), (27, .one (.all 2)), (26, .one (.dat (.sl (.flt .f32)) y12)), (25, .one (.dat (.int .i64) (List.getD a1 (Int.toNat s3.1) (0 : Int)))), (24, .one (.dat (.sl (.flt .f32)) (List.getD s3.2 (Int.toNat s3.1) ([] : List Nat)))), (23, .one (.elp 1 (Int.toNat s3.1) 1)), (22, .one (.dat (.int .i64) s3.1)), (21, .one (.all 1)), (20, .agg [.dat (.int .i64) a0.1, .dat (.int .i64) a0.2.1, .dat (.sl (.flt .f32)) a0.2.2.1, .dat (.sl (.flt .f32)) a0.2.2.2.1, .dat (.sl (.flt .f32)) a0.2.2.2.2]), (19, .one (.all 1)), (2, .one (.ptr 0 0)), (5, .one (.all 1)), (6, .one (.dat (.int .i64) s3.1)), (7, .one (.dat (.int .i64) (List.getD a1 (Int.toNat s3.1) (0 : Int)))), (12, .one (.dat (.sl (.int .i64)) a1)), (13, .one (.dat (.int .i64) (lenI a1))), (14, .one (.dat (.int .i64) s3.1))], [(1, .gone), (3, .seq (.sl (.flt .f32)) (s3.2 ++ ([y12] : List (List Nat)))), (2, .seq (.sl (.flt .f32)) ([y12] : List (List Nat))), (0, .box [.dat (.int .i64) a0.1, .dat (.int .i64) a0.2.1, .dat (.sl (.flt .f32)) a0.2.2.1, .dat (.sl (.flt .f32)) a0.2.2.2.1, .dat (.sl (.flt .f32)) a0.2.2.2.2]), (1, .seq (.sl (.flt .f32)) s3.2)], 4⟩) hP hN (by kernel_rfl) (by kernel_rfl) (allCons hg11 (allCons (natLt hg11) (allCons (CallOK.frz [true] (f160_ok hc13)) (allCons hg14 allNil)))) (qBlock (qThen ?_))
      have hx7 := of_some hx7
      subst hx7
      refine HT.reg (rs := [⟨none, .no⟩, ⟨none, .no⟩]) (st' := ⟨[(14, .one (.dat (.int .i64) (wadd .i64 s3.1 (1 : Int)))), (29, .one (.dat (.int .i64) (wadd .i64 s3.1 (1 : Int)))), (5, .one (.all 3)), (28, .one (.all 3)), (27, .one (.all 2)), (26, .one (.dat (.sl (.flt .f32)) y12)), (25, .one (.dat (.int .i64) (List.getD a1 (Int.toNat s3.1) (0 : Int)))), (24, .one (.dat (.sl (.flt .f32)) (List.getD s3.2 (Int.toNat s3.1) ([] : List Nat)))), (23, .one (.elp 1 (Int.toNat s3.1) 1)), (22, .one (.dat (.int .i64) s3.1)), (21, .one (.all 1)), (20, .agg [.dat (.int .i64) a0.1, .dat (.int .i64) a0.2.1, .dat (.sl (.flt .f32)) a0.2.2.1, .dat (.sl (.flt .f32)) a0.2.2.2.1, .dat (.sl (.flt .f32)) a0.2.2.2.2]), (19, .one (.all 1)), (2, .one (.ptr 0 0)), (5, .one (.all 1)), (6, .one (.dat (.int .i64) s3.1)), (7, .one (.dat (.int .i64) (List.getD a1 (Int.toNat s3.1) (0 : Int)))), (12, .one (.dat (.sl (.int .i64)) a1)), (13, .one (.dat (.int .i64) (lenI a1))), (14, .one (.dat (.int .i64) s3.1))], [(1, .gone), (3, .seq (.sl (.flt .f32)) (s3.2 ++ ([y12] : List (List Nat)))), (2, .seq (.sl (.flt .f32)) ([y12] : List (List Nat))), (0, .box [.dat (.int .i64) a0.1, .dat (.int .i64) a0.2.1, .dat (.sl (.flt .f32)) a0.2.2.1, .dat (.sl (.flt .f32)) a0.2.2.2.1, .dat (.sl (.flt .f32)) a0.2.2.2.2]), (1, .seq (.sl (.flt .f32)) s3.2)], 4⟩) hP hN (by kernel_rfl) allNil (qLoopN ⟨((wadd .i64 s3.1 (1 : Int)), (s3.2 ++ ([y12] : List (List Nat)))), rfl, Le.cv (s := ⟨[(0, 0), (3, 1)], [], [], false⟩) (own := []) (ps := [a1 = a1, (lenI a1) = (lenI a1), (wadd .i64 s3.1 (1 : Int)) = (wadd .i64 s3.1 (1 : Int)), a0.1 = a0.1, a0.2.1 = a0.2.1, a0.2.2.1 = a0.2.2.1, a0.2.2.2.1 = a0.2.2.2.1, a0.2.2.2.2 = a0.2.2.2.2, (s3.2 ++ ([y12] : List (List Nat))) = (s3.2 ++ ([y12] : List (List Nat)))]) (st' := ⟨[(2, .one (.ptr 0 0)), (5, .one (.all 1)), (12, .one (.dat (.sl (.int .i64)) a1)), (13, .one (.dat (.int .i64) (lenI a1))), (14, .one (.dat (.int .i64) (wadd .i64 s3.1 (1 : Int))))], [(0, .box [.dat (.int .i64) a0.1, .dat (.int .i64) a0.2.1, .dat (.sl (.flt .f32)) a0.2.2.1, .dat (.sl (.flt .f32)) a0.2.2.2.1, .dat (.sl (.flt .f32)) a0.2.2.2.2]), (1, .seq (.sl (.flt .f32)) (s3.2 ++ ([y12] : List (List Nat))))], 2⟩) hO (fun h => by cases h) (by kernel_rfl) ⟨rfl, rfl, rfl, rfl, rfl, rfl, rfl, rfl, rfl, trivial⟩⟩)
    · refine HT.cond0 rfl hb9 ?_
      have hx7 := of_some hx7
      subst hx7
      refine (Le.cv (s := ⟨[(1, 0)], [], [], false⟩) (own := []) (ps := [s3.2 = s3.2]) (st' := ⟨[(5, .one (.all 0))], [(0, .seq (.sl (.flt .f32)) s3.2)], 1⟩) hO (fun h => by cases h) (by kernel_rfl) ⟨rfl, trivial⟩).ht ?_
      exact HT.exit (qThenE (qLoopE (hk8 s3.2 rfl)))

noncomputable def impl_Model_chance (a0 : Int × Int × List Nat × List Nat × List Nat) (a1 : List Int) : Option (Nat) :=
  (impl_Model_forward (a0.1, a0.2.1, a0.2.2.1, a0.2.2.2.1, a0.2.2.2.2) a1).bind fun y1 =>
  guardP ((0 : Int) ≤ (lenI a1) ∧ (lenI a1) < lenI y1) (
    (impl_addUp (List.getD y1 (Int.toNat (lenI a1)) ([] : List Nat))).bind fun y4 =>
    some y4)

theorem f107_ok {a0 : Int × Int × List Nat × List Nat × List Nat} {a1 : List Int} {r : Nat} (hr : impl_Model_chance a0 a1 = some r) : CallOK Try.prog 107 [.imm (.st (.pair (.int .i64) (.pair (.int .i64) (.pair (.sl (.flt .f32)) (.pair (.sl (.flt .f32)) (.sl (.flt .f32))))))) a0, .imm (.sl (.int .i64)) a1] [⟨false, (.flt .f32), r⟩] [] := by
  unfold impl_Model_chance at hr
  refine CallOK.of_body (ts := [(false, (.flt .f32))]) Try.func107 rfl (by kernel_rfl) (Nat.le_of_ble_eq_true (by kernel_rfl)) fun cx hP hN hO hF => ?_
  have hO : cx.own.map Prod.fst = [] := hO
  have hF : cx.F = [] := hF rfl
  show HT cx ⟨[(0, .agg [.dat (.int .i64) a0.1, .dat (.int .i64) a0.2.1, .dat (.sl (.flt .f32)) a0.2.2.1, .dat (.sl (.flt .f32)) a0.2.2.2.1, .dat (.sl (.flt .f32)) a0.2.2.2.2]), (1, .one (.dat (.sl (.int .i64)) a1))], [], 0⟩ _ _
  refine HT.reg1 [1, 2] [⟨none, .no⟩, ⟨none, .no⟩] ⟨[(1, .one (.dat (.sl (.int .i64)) a1)), (2, .one (.ptr 0 0))], [(0, .box [.dat (.int .i64) a0.1, .dat (.int .i64) a0.2.1, .dat (.sl (.flt .f32)) a0.2.2.1, .dat (.sl (.flt .f32)) a0.2.2.2.1, .dat (.sl (.flt .f32)) a0.2.2.2.2])], 1⟩ hP hN (by kernel_rfl) allNil ?_
  obtain ⟨y1, hc2, hr⟩ := of_bind hr
  obtain ⟨hg3, hr⟩ := of_guard hr
  obtain ⟨y4, hc5, hr⟩ := of_bind hr
  refine HT.reg1 [4] [⟨none, .no⟩, ⟨none, .no⟩, ⟨none, .call [.imm (.st (.pair (.int .i64) (.pair (.int .i64) (.pair (.sl (.flt .f32)) (.pair (.sl (.flt .f32)) (.sl (.flt .f32))))))), .imm (.sl (.int .i64))] [⟨false, (.sl (.sl (.flt .f32))), y1⟩] []⟩, ⟨none, .no⟩, ⟨none, .no⟩, ⟨none, .no⟩, ⟨none, .no⟩, ⟨none, .call [.imm (.sl (.flt .f32))] [⟨false, (.flt .f32), y4⟩] []⟩, ⟨none, .no⟩] ⟨[(4, .one (.dat (.flt .f32) y4))], [(0, .box [.dat (.int .i64) a0.1, .dat (.int .i64) a0.2.1, .dat (.sl (.flt .f32)) a0.2.2.1, .dat (.sl (.flt .f32)) a0.2.2.2.1, .dat (.sl (.flt .f32)) a0.2.2.2.2])], 1⟩ hP hN (by kernel_rfl) (allCons (f143_ok hc2) (allCons hg3 (allCons (f85_ok hc5) allNil))) ?_
  have hr := of_some hr
  subst hr
  exact HT.ret ⟨[.one (.dat (.flt .f32) y4)], [], [], by kernel_rfl, by kernel_rfl, rfl, (.inl rfl), by kernel_rfl, trivial⟩

noncomputable def impl_IsFinite (a0 : Nat) : Option (Bool) :=
  some (feq .f32 (fop .sub .f32 a0 a0) (0 : Nat))

theorem f131_ok {a0 : Nat} {r : Bool} (hr : impl_IsFinite a0 = some r) : CallOK Try.prog 131 [.imm (.flt .f32) a0] [⟨false, .bool, r⟩] [] := by
  unfold impl_IsFinite at hr
  refine CallOK.of_body (ts := [(false, .bool)]) Try.func131 rfl (by kernel_rfl) (Nat.le_of_ble_eq_true (by kernel_rfl)) fun cx hP hN hO hF => ?_
  have hO : cx.own.map Prod.fst = [] := hO
  have hF : cx.F = [] := hF rfl
  show HT cx ⟨[(0, .one (.dat (.flt .f32) a0))], [], 0⟩ _ _
  refine HT.reg1 [0] [⟨none, .no⟩] ⟨[(0, .one (.dat (.flt .f32) a0))], [], 0⟩ hP hN (by kernel_rfl) allNil ?_
  refine HT.reg1 [2] [⟨none, .no⟩, ⟨none, .no⟩, ⟨none, .no⟩, ⟨none, .no⟩, ⟨none, .no⟩] ⟨[(2, .one (.dat .bool (feq .f32 (fop .sub .f32 a0 a0) (0 : Nat))))], [], 0⟩ hP hN (by kernel_rfl) allNil ?_
  have hr := of_some hr
  subst hr
  exact HT.ret ⟨[.one (.dat .bool (feq .f32 (fop .sub .f32 a0 a0) (0 : Nat)))], [], [], by kernel_rfl, by kernel_rfl, rfl, (.inl rfl), by kernel_rfl, trivial⟩

noncomputable def impl_finite (a0 : Nat) : Option (Nat × Bool) :=
  (impl_IsFinite a0).bind fun y1 =>
  bif (!y1) then
    some ((0 : Nat), false)
  else
    some (a0, true)

theorem f71_ok {a0 : Nat} {r : Nat × Bool} (hr : impl_finite a0 = some r) : CallOK Try.prog 71 [.imm (.flt .f32) a0] [⟨false, (.flt .f32), r.1⟩, ⟨false, .bool, r.2⟩] [] := by
  unfold impl_finite at hr
  refine CallOK.of_body (ts := [(false, (.flt .f32)), (false, .bool)]) Try.func71 rfl (by kernel_rfl) (Nat.le_of_ble_eq_true (by kernel_rfl)) fun cx hP hN hO hF => ?_
  have hO : cx.own.map Prod.fst = [] := hO
  have hF : cx.F = [] := hF rfl
  show HT cx ⟨[(0, .one (.dat (.flt .f32) a0))], [], 0⟩ _ _
  refine HT.reg1 [0] [⟨none, .no⟩, ⟨none, .no⟩] ⟨[(0, .one (.dat (.flt .f32) a0))], [], 0⟩ hP hN (by kernel_rfl) allNil ?_
  refine HT.seq ?_
  obtain ⟨y1, hc2, hr⟩ := of_bind hr
  refine HT.reg1 [0, 6] [⟨none, .no⟩, ⟨none, .call [.imm (.flt .f32)] [⟨false, .bool, y1⟩] []⟩, ⟨none, .no⟩] ⟨[(0, .one (.dat (.flt .f32) a0)), (6, .one (.dat .bool (!y1)))], [], 0⟩ hP hN (by kernel_rfl) (allCons (f131_ok hc2) allNil) ?_
  rcases of_bif hr with ⟨hb3, hr⟩ | ⟨hb3, hr⟩
  · refine HT.cond1 rfl hb3 ?_
    refine HT.reg1 [2, 3] [⟨none, .no⟩, ⟨none, .no⟩] ⟨[(2, .one (.dat (.flt .f32) (0 : Nat))), (3, .one (.dat .bool false))], [], 0⟩ hP hN (by kernel_rfl) allNil ?_
    have hr := of_some hr
    subst hr
    exact HT.ret (qThenR ⟨[.one (.dat (.flt .f32) (0 : Nat)), .one (.dat .bool false)], [], [], by kernel_rfl, by kernel_rfl, rfl, (.inl rfl), by kernel_rfl, trivial⟩)
  · refine HT.cond0 rfl hb3 ?_
    refine HT.skip (qThen ?_)
    refine HT.reg1 [2, 3] [⟨none, .no⟩, ⟨none, .no⟩, ⟨none, .no⟩] ⟨[(2, .one (.dat (.flt .f32) a0)), (3, .one (.dat .bool true))], [], 0⟩ hP hN (by kernel_rfl) allNil ?_
    have hr := of_some hr
    subst hr
    exact HT.ret ⟨[.one (.dat (.flt .f32) a0), .one (.dat .bool true)], [], [], by kernel_rfl, by kernel_rfl, rfl, (.inl rfl), by kernel_rfl, trivial⟩

noncomputable def impl_ChanceOf (a0 : Int × Int × List Nat × List Nat × List Nat) (a1 : List Int) : Option (Nat × Bool) :=
  (impl_Model_has (a0.1, a0.2.1, a0.2.2.1, a0.2.2.2.1, a0.2.2.2.2) a1).bind fun y1 =>
  bif (!y1) then
    some ((0 : Nat), false)
  else
    (impl_Model_chance (a0.1, a0.2.1, a0.2.2.1, a0.2.2.2.1, a0.2.2.2.2) a1).bind fun y4 =>
    (impl_finite y4).bind fun y6 =>
    some (y6.1, y6.2)

theorem f44_ok {a0 : Int × Int × List Nat × List Nat × List Nat} {a1 : List Int} {r : Nat × Bool} (hr : impl_ChanceOf a0 a1 = some r) : CallOK Try.prog 44 [.imm (.st (.pair (.int .i64) (.pair (.int .i64) (.pair (.sl (.flt .f32)) (.pair (.sl (.flt .f32)) (.sl (.flt .f32))))))) a0, .imm (.sl (.int .i64)) a1] [⟨false, (.flt .f32), r.1⟩, ⟨false, .bool, r.2⟩] [] := by
  unfold impl_ChanceOf at hr
  refine CallOK.of_body (ts := [(false, (.flt .f32)), (false, .bool)]) Try.func44 rfl (by kernel_rfl) (Nat.le_of_ble_eq_true (by kernel_rfl)) fun cx hP hN hO hF => ?_
  have hO : cx.own.map Prod.fst = [] := hO
  have hF : cx.F = [] := hF rfl
  show HT cx ⟨[(0, .agg [.dat (.int .i64) a0.1, .dat (.int .i64) a0.2.1, .dat (.sl (.flt .f32)) a0.2.2.1, .dat (.sl (.flt .f32)) a0.2.2.2.1, .dat (.sl (.flt .f32)) a0.2.2.2.2]), (1, .one (.dat (.sl (.int .i64)) a1))], [], 0⟩ _ _
  refine HT.reg1 [1, 2] [⟨none, .no⟩, ⟨none, .no⟩, ⟨none, .no⟩] ⟨[(1, .one (.dat (.sl (.int .i64)) a1)), (2, .one (.ptr 0 0))], [(0, .box [.dat (.int .i64) a0.1, .dat (.int .i64) a0.2.1, .dat (.sl (.flt .f32)) a0.2.2.1, .dat (.sl (.flt .f32)) a0.2.2.2.1, .dat (.sl (.flt .f32)) a0.2.2.2.2])], 1⟩ hP hN (by kernel_rfl) allNil ?_
  refine HT.seq ?_
  obtain ⟨y1, hc2, hr⟩ := of_bind hr
  refine HT.reg1 [1, 2, 9] [⟨none, .no⟩, ⟨none, .no⟩, ⟨none, .call [.imm (.st (.pair (.int .i64) (.pair (.int .i64) (.pair (.sl (.flt .f32)) (.pair (.sl (.flt .f32)) (.sl (.flt .f32))))))), .imm (.sl (.int .i64))] [⟨false, .bool, y1⟩] []⟩, ⟨none, .no⟩] ⟨[(1, .one (.dat (.sl (.int .i64)) a1)), (2, .one (.ptr 0 0)), (9, .one (.dat .bool (!y1)))], [(0, .box [.dat (.int .i64) a0.1, .dat (.int .i64) a0.2.1, .dat (.sl (.flt .f32)) a0.2.2.1, .dat (.sl (.flt .f32)) a0.2.2.2.1, .dat (.sl (.flt .f32)) a0.2.2.2.2])], 1⟩ hP hN (by kernel_rfl) (allCons (f75_ok hc2) allNil) ?_
  rcases of_bif hr with ⟨hb3, hr⟩ | ⟨hb3, hr⟩
  · refine HT.cond1 rfl hb3 ?_
    refine HT.reg1 [4, 5] [⟨none, .no⟩, ⟨none, .no⟩] ⟨[(4, .one (.dat (.flt .f32) (0 : Nat))), (5, .one (.dat .bool false))], [(0, .box [.dat (.int .i64) a0.1, .dat (.int .i64) a0.2.1, .dat (.sl (.flt .f32)) a0.2.2.1, .dat (.sl (.flt .f32)) a0.2.2.2.1, .dat (.sl (.flt .f32)) a0.2.2.2.2])], 1⟩ hP hN (by kernel_rfl) allNil ?_
    have hr := of_some hr
    subst hr
    exact HT.ret (qThenR ⟨[.one (.dat (.flt .f32) (0 : Nat)), .one (.dat .bool false)], [], [], by kernel_rfl, by kernel_rfl, rfl, (.inl rfl), by kernel_rfl, trivial⟩)
  · refine HT.cond0 rfl hb3 ?_
    refine HT.skip (qThen ?_)
    obtain ⟨y4, hc5, hr⟩ := of_bind hr
    obtain ⟨y6, hc7, hr⟩ := of_bind hr
    refine HT.reg1 [4, 5] [⟨none, .no⟩, ⟨none, .no⟩, ⟨none, .call [.imm (.st (.pair (.int .i64) (.pair (.int .i64) (.pair (.sl (.flt .f32)) (.pair (.sl (.flt .f32)) (.sl (.flt .f32))))))), .imm (.sl (.int .i64))] [⟨false, (.flt .f32), y4⟩] []⟩, ⟨none, .call [.imm (.flt .f32)] [⟨false, (.flt .f32), y6.1⟩, ⟨false, .bool, y6.2⟩] []⟩, ⟨none, .no⟩, ⟨none, .no⟩, ⟨none, .no⟩, ⟨none, .no⟩] ⟨[(4, .one (.dat (.flt .f32) y6.1)), (5, .one (.dat .bool y6.2))], [(0, .box [.dat (.int .i64) a0.1, .dat (.int .i64) a0.2.1, .dat (.sl (.flt .f32)) a0.2.2.1, .dat (.sl (.flt .f32)) a0.2.2.2.1, .dat (.sl (.flt .f32)) a0.2.2.2.2])], 1⟩ hP hN (by kernel_rfl) (allCons (f107_ok hc5) (allCons (f71_ok hc7) allNil)) ?_
    have hr := of_some hr
    subst hr
    exact HT.ret ⟨[.one (.dat (.flt .f32) y6.1), .one (.dat .bool y6.2)], [], [], by kernel_rfl, by kernel_rfl, rfl, (.inl rfl), by kernel_rfl, trivial⟩

noncomputable def laws_sameFloat (a0 : Nat) (a1 : Nat) : Option (Bool) :=
  (show Option (Bool) from
    bif (!(feq .f64 a0 a0)) then
      some true
    else
      some (!(feq .f64 a1 a1))).bind fun v1 =>
  bif v1 then
    (show Option (Bool) from
      bif (!(feq .f64 a0 a0)) then
        some (!(feq .f64 a1 a1))
      else
        some false).bind fun v5 =>
    some v5
  else
    (show Option (Bool) from
      bif (feq .f64 a0 (0 : Nat)) then
        some (feq .f64 a1 (0 : Nat))
      else
        some false).bind fun v9 =>
    bif v9 then
      some ((fgt .f64 (fop .quo .f64 (4607182418800017408 : Nat) a0) (0 : Nat)) == (fgt .f64 (fop .quo .f64 (4607182418800017408 : Nat) a1) (0 : Nat)))
    else
      some (feq .f64 a0 a1)

theorem f17_ok {a0 : Nat} {a1 : Nat} {r : Bool} (hr : laws_sameFloat a0 a1 = some r) : CallOK Try.prog 17 [.imm (.flt .f64) a0, .imm (.flt .f64) a1] [⟨false, .bool, r⟩] [] := by
  unfold laws_sameFloat at hr
  refine CallOK.of_body (ts := [(false, .bool)]) Try.func17 rfl (by kernel_rfl) (Nat.le_of_ble_eq_true (by kernel_rfl)) fun cx hP hN hO hF => ?_
  have hO : cx.own.map Prod.fst = [] := hO
  have hF : cx.F = [] := hF rfl
  show HT cx ⟨[(0, .one (.dat (.flt .f64) a0)), (1, .one (.dat (.flt .f64) a1))], [], 0⟩ _ _
  refine HT.reg1 [0, 1] [⟨none, .no⟩] ⟨[(0, .one (.dat (.flt .f64) a0)), (1, .one (.dat (.flt .f64) a1))], [], 0⟩ hP hN (by kernel_rfl) allNil ?_
  refine HT.seq ?_
  obtain ⟨v1', hT3, hr⟩ := of_bind hr
  refine HT.join (fun (v1 : Bool) => ⟨[(0, .one (.dat (.flt .f64) a0)), (1, .one (.dat (.flt .f64) a1)), (12, .one (.dat .bool v1))], [], 0⟩) (fun v => v = v1') (fun v1 hv2 => ?_) (fun cont => ?_)
  · subst hv2
    rcases of_bif hr with ⟨hb4, hr⟩ | ⟨hb4, hr⟩
    · refine HT.cond1 rfl hb4 ?_
      obtain ⟨v5', hT7, hr⟩ := of_bind hr
      refine HT.join (fun (v5 : Bool) => ⟨[(4, .one (.dat .bool v5))], [], 0⟩) (fun v => v = v5') (fun v5 hv6 => ?_) (fun cont => ?_)
      · subst hv6
        have hr := of_some hr
        subst hr
        exact HT.ret (qThenR ⟨[.one (.dat .bool v5)], [], [], by kernel_rfl, by kernel_rfl, rfl, (.inl rfl), by kernel_rfl, trivial⟩)
      · rcases of_bif hT7 with ⟨hb8, hT7⟩ | ⟨hb8, hT7⟩
        · refine HT.reg (rs := [⟨none, .no⟩, ⟨none, .no⟩, ⟨none, .no⟩, ⟨none, .no⟩, ⟨some true, .no⟩, ⟨some true, .no⟩, ⟨some true, .no⟩, ⟨none, .tv true⟩, ⟨none, .no⟩]) (st' := ⟨[(4, .one (.dat .bool (!(feq .f64 a1 a1)))), (20, .one (.dat .bool (!(feq .f64 a1 a1)))), (19, .one (.dat .bool (!(feq .f64 a1 a1)))), (18, .one (.dat (.flt .f64) a1)), (17, .one (.dat (.flt .f64) a1)), (16, .one (.dat .bool (!(feq .f64 a0 a0)))), (15, .one (.dat .bool (!(feq .f64 a0 a0)))), (14, .one (.dat (.flt .f64) a0)), (13, .one (.dat (.flt .f64) a0)), (0, .one (.dat (.flt .f64) a0)), (1, .one (.dat (.flt .f64) a1)), (12, .one (.dat .bool v1))], [], 0⟩) hP hN (by kernel_rfl) (allCons hb8 (allCons hb8 (allCons hb8 (allCons hb8 allNil)))) (qThen ?_)
          exact (Le.cv (s := ⟨[], [], [], false⟩) (own := []) (ps := [(!(feq .f64 a1 a1)) = (!(feq .f64 a1 a1))]) (st' := ⟨[(4, .one (.dat .bool (!(feq .f64 a1 a1))))], [], 0⟩) hO (fun h => by cases h) (by kernel_rfl) ⟨rfl, trivial⟩).ht (cont (!(feq .f64 a1 a1)) (of_some hT7))
        · refine HT.reg (rs := [⟨none, .no⟩, ⟨none, .no⟩, ⟨none, .no⟩, ⟨none, .no⟩, ⟨some false, .no⟩, ⟨some false, .no⟩, ⟨some false, .no⟩, ⟨none, .tv false⟩, ⟨none, .no⟩]) (st' := ⟨[(4, .one (.dat .bool false)), (20, .one (.dat .bool false)), (19, .und), (18, .und), (17, .und), (16, .one (.dat .bool (!(feq .f64 a0 a0)))), (15, .one (.dat .bool (!(feq .f64 a0 a0)))), (14, .one (.dat (.flt .f64) a0)), (13, .one (.dat (.flt .f64) a0)), (0, .one (.dat (.flt .f64) a0)), (1, .one (.dat (.flt .f64) a1)), (12, .one (.dat .bool v1))], [], 0⟩) hP hN (by kernel_rfl) (allCons hb8 (allCons hb8 (allCons hb8 (allCons hb8 allNil)))) (qThen ?_)
          exact (Le.cv (s := ⟨[], [], [], false⟩) (own := []) (ps := [false = false]) (st' := ⟨[(4, .one (.dat .bool false))], [], 0⟩) hO (fun h => by cases h) (by kernel_rfl) ⟨rfl, trivial⟩).ht (cont false (of_some hT7))
    · refine HT.cond0 rfl hb4 ?_
      refine HT.skip (qThen ?_)
      refine HT.seq ?_
      obtain ⟨v9', hT11, hr⟩ := of_bind hr
      refine HT.join (fun (v9 : Bool) => ⟨[(0, .one (.dat (.flt .f64) a0)), (1, .one (.dat (.flt .f64) a1)), (26, .one (.dat .bool v9))], [], 0⟩) (fun v => v = v9') (fun v9 hv10 => ?_) (fun cont => ?_)
      · subst hv10
        rcases of_bif hr with ⟨hb12, hr⟩ | ⟨hb12, hr⟩
        · refine HT.cond1 rfl hb12 ?_
          refine HT.reg1 [4] [⟨none, .no⟩, ⟨none, .no⟩, ⟨none, .no⟩, ⟨none, .no⟩, ⟨none, .no⟩, ⟨none, .no⟩, ⟨none, .no⟩, ⟨none, .no⟩] ⟨[(4, .one (.dat .bool ((fgt .f64 (fop .quo .f64 (4607182418800017408 : Nat) a0) (0 : Nat)) == (fgt .f64 (fop .quo .f64 (4607182418800017408 : Nat) a1) (0 : Nat)))))], [], 0⟩ hP hN (by kernel_rfl) allNil ?_
          have hr := of_some hr
          subst hr
          exact HT.ret (qThenR ⟨[.one (.dat .bool ((fgt .f64 (fop .quo .f64 (4607182418800017408 : Nat) a0) (0 : Nat)) == (fgt .f64 (fop .quo .f64 (4607182418800017408 : Nat) a1) (0 : Nat))))], [], [], by kernel_rfl, by kernel_rfl, rfl, (.inl rfl), by kernel_rfl, trivial⟩)
        · refine HT.cond0 rfl hb12 ?_
          refine HT.skip (qThen ?_)
          refine HT.reg1 [4] [⟨none, .no⟩, ⟨none, .no⟩, ⟨none, .no⟩, ⟨none, .no⟩] ⟨[(4, .one (.dat .bool (feq .f64 a0 a1)))], [], 0⟩ hP hN (by kernel_rfl) allNil ?_
          have hr := of_some hr
          subst hr
          exact HT.ret ⟨[.one (.dat .bool (feq .f64 a0 a1))], [], [], by kernel_rfl, by kernel_rfl, rfl, (.inl rfl), by kernel_rfl, trivial⟩
      · rcases of_bif hT11 with ⟨hb13, hT11⟩ | ⟨hb13, hT11⟩
        · refine HT.reg (rs := [⟨none, .no⟩, ⟨none, .no⟩, ⟨none, .no⟩, ⟨some true, .no⟩, ⟨some true, .no⟩, ⟨none, .tv true⟩]) (st' := ⟨[(26, .one (.dat .bool (feq .f64 a1 (0 : Nat)))), (25, .one (.dat .bool (feq .f64 a1 (0 : Nat)))), (24, .one (.dat (.flt .f64) a1)), (23, .one (.dat .bool (feq .f64 a0 (0 : Nat)))), (22, .one (.dat .bool (feq .f64 a0 (0 : Nat)))), (21, .one (.dat (.flt .f64) a0)), (0, .one (.dat (.flt .f64) a0)), (1, .one (.dat (.flt .f64) a1)), (12, .one (.dat .bool v1))], [], 0⟩) hP hN (by kernel_rfl) (allCons hb13 (allCons hb13 (allCons hb13 allNil))) (qThen ?_)
          exact (Le.cv (s := ⟨[], [], [], false⟩) (own := []) (ps := [a0 = a0, a1 = a1, (feq .f64 a1 (0 : Nat)) = (feq .f64 a1 (0 : Nat))]) (st' := ⟨[(0, .one (.dat (.flt .f64) a0)), (1, .one (.dat (.flt .f64) a1)), (26, .one (.dat .bool (feq .f64 a1 (0 : Nat))))], [], 0⟩) hO (fun h => by cases h) (by kernel_rfl) ⟨rfl, rfl, rfl, trivial⟩).ht (cont (feq .f64 a1 (0 : Nat)) (of_some hT11))
        · refine HT.reg (rs := [⟨none, .no⟩, ⟨none, .no⟩, ⟨none, .no⟩, ⟨some false, .no⟩, ⟨some false, .no⟩, ⟨none, .tv false⟩]) (st' := ⟨[(26, .one (.dat .bool false)), (25, .und), (24, .und), (23, .one (.dat .bool (feq .f64 a0 (0 : Nat)))), (22, .one (.dat .bool (feq .f64 a0 (0 : Nat)))), (21, .one (.dat (.flt .f64) a0)), (0, .one (.dat (.flt .f64) a0)), (1, .one (.dat (.flt .f64) a1)), (12, .one (.dat .bool v1))], [], 0⟩) hP hN (by kernel_rfl) (allCons hb13 (allCons hb13 (allCons hb13 allNil))) (qThen ?_)
          exact (Le.cv (s := ⟨[], [], [], false⟩) (own := []) (ps := [a0 = a0, a1 = a1, false = false]) (st' := ⟨[(0, .one (.dat (.flt .f64) a0)), (1, .one (.dat (.flt .f64) a1)), (26, .one (.dat .bool false))], [], 0⟩) hO (fun h => by cases h) (by kernel_rfl) ⟨rfl, rfl, rfl, trivial⟩).ht (cont false (of_some hT11))
  · rcases of_bif hT3 with ⟨hb14, hT3⟩ | ⟨hb14, hT3⟩
    · refine HT.reg (rs := [⟨none, .no⟩, ⟨none, .no⟩, ⟨none, .no⟩, ⟨none, .no⟩, ⟨some true, .no⟩, ⟨some true, .no⟩, ⟨some true, .no⟩, ⟨none, .tv true⟩]) (st' := ⟨[(12, .one (.dat .bool true)), (11, .und), (10, .und), (9, .und), (8, .one (.dat .bool (!(feq .f64 a0 a0)))), (7, .one (.dat .bool (!(feq .f64 a0 a0)))), (6, .one (.dat (.flt .f64) a0)), (5, .one (.dat (.flt .f64) a0)), (0, .one (.dat (.flt .f64) a0)), (1, .one (.dat (.flt .f64) a1))], [], 0⟩) hP hN (by kernel_rfl) (allCons hb14 (allCons hb14 (allCons hb14 (allCons hb14 allNil)))) (qThen ?_)
      exact (Le.cv (s := ⟨[], [], [], false⟩) (own := []) (ps := [a0 = a0, a1 = a1, true = true]) (st' := ⟨[(0, .one (.dat (.flt .f64) a0)), (1, .one (.dat (.flt .f64) a1)), (12, .one (.dat .bool true))], [], 0⟩) hO (fun h => by cases h) (by kernel_rfl) ⟨rfl, rfl, rfl, trivial⟩).ht (cont true (of_some hT3))
    · refine HT.reg (rs := [⟨none, .no⟩, ⟨none, .no⟩, ⟨none, .no⟩, ⟨none, .no⟩, ⟨some false, .no⟩, ⟨some false, .no⟩, ⟨some false, .no⟩, ⟨none, .tv false⟩]) (st' := ⟨[(12, .one (.dat .bool (!(feq .f64 a1 a1)))), (11, .one (.dat .bool (!(feq .f64 a1 a1)))), (10, .one (.dat (.flt .f64) a1)), (9, .one (.dat (.flt .f64) a1)), (8, .one (.dat .bool (!(feq .f64 a0 a0)))), (7, .one (.dat .bool (!(feq .f64 a0 a0)))), (6, .one (.dat (.flt .f64) a0)), (5, .one (.dat (.flt .f64) a0)), (0, .one (.dat (.flt .f64) a0)), (1, .one (.dat (.flt .f64) a1))], [], 0⟩) hP hN (by kernel_rfl) (allCons hb14 (allCons hb14 (allCons hb14 (allCons hb14 allNil)))) (qThen ?_)
      exact (Le.cv (s := ⟨[], [], [], false⟩) (own := []) (ps := [a0 = a0, a1 = a1, (!(feq .f64 a1 a1)) = (!(feq .f64 a1 a1))]) (st' := ⟨[(0, .one (.dat (.flt .f64) a0)), (1, .one (.dat (.flt .f64) a1)), (12, .one (.dat .bool (!(feq .f64 a1 a1))))], [], 0⟩) hO (fun h => by cases h) (by kernel_rfl) ⟨rfl, rfl, rfl, trivial⟩).ht (cont (!(feq .f64 a1 a1)) (of_some hT3))

noncomputable def laws_eqFloat32S_B1 (a0 : List Nat) (a1 : List Nat) (s2 : Int) : Option ((Int) ⊕ (Unit ⊕ Unit)) :=
  bif (decide (s2 < (lenI a0))) then
    guardP ((0 : Int) ≤ s2 ∧ s2 < lenI a0) (
      guardP ((0 : Int) ≤ s2 ∧ s2 < lenI a1) (
        (laws_sameFloat (fconv .f32 .f64 (List.getD a0 (Int.toNat s2) (0 : Nat))) (fconv .f32 .f64 (List.getD a1 (Int.toNat s2) (0 : Nat)))).bind fun y12 =>
        bif (!y12) then
          some (.inr (.inr ()))
        else
          some (.inl (wadd .i64 s2 (1 : Int)))))
  else
    some (.inr (.inl ()))

noncomputable def laws_eqFloat32S (a0 : List Nat) (a1 : List Nat) : Option (Bool) :=
  bif ((lenI a0) != (lenI a1)) then
    some false
  else
    (rounds (laws_eqFloat32S_B1 a0 a1) (0 : Int)).bind fun r3 => match r3 with
      | .inl r4 =>
        some true
      | .inr r5 =>
        some false

theorem f18_ok {a0 : List Nat} {a1 : List Nat} {r : Bool} (hr : laws_eqFloat32S a0 a1 = some r) : CallOK Try.prog 18 [.imm (.sl (.flt .f32)) a0, .imm (.sl (.flt .f32)) a1] [⟨false, .bool, r⟩] [] := by
  unfold laws_eqFloat32S at hr
  refine CallOK.of_body (ts := [(false, .bool)]) Try.func18 rfl (by kernel_rfl) (Nat.le_of_ble_eq_true (by kernel_rfl)) fun cx hP hN hO hF => ?_
  have hO : cx.own.map Prod.fst = [] := hO
  have hF : cx.F = [] := hF rfl
  show HT cx ⟨[(0, .one (.dat (.sl (.flt .f32)) a0)), (1, .one (.dat (.sl (.flt .f32)) a1))], [], 0⟩ _ _
  refine HT.reg1 [0, 1] [⟨none, .no⟩] ⟨[(0, .one (.dat (.sl (.flt .f32)) a0)), (1, .one (.dat (.sl (.flt .f32)) a1))], [], 0⟩ hP hN (by kernel_rfl) allNil ?_
  refine HT.seq ?_
  refine HT.reg1 [0, 1, 10] [⟨none, .no⟩, ⟨none, .no⟩, ⟨none, .no⟩, ⟨none, .no⟩, ⟨none, .no⟩] ⟨[(0, .one (.dat (.sl (.flt .f32)) a0)), (1, .one (.dat (.sl (.flt .f32)) a1)), (10, .one (.dat .bool ((lenI a0) != (lenI a1))))], [], 0⟩ hP hN (by kernel_rfl) allNil ?_
  rcases of_bif hr with ⟨hb1, hr⟩ | ⟨hb1, hr⟩
  · refine HT.cond1 rfl hb1 ?_
    refine HT.reg1 [4] [⟨none, .no⟩] ⟨[(4, .one (.dat .bool false))], [], 0⟩ hP hN (by kernel_rfl) allNil ?_
    have hr := of_some hr
    subst hr
    exact HT.ret (qThenR ⟨[.one (.dat .bool false)], [], [], by kernel_rfl, by kernel_rfl, rfl, (.inl rfl), by kernel_rfl, trivial⟩)
  · refine HT.cond0 rfl hb1 ?_
    refine HT.skip (qThen ?_)
    refine HT.seq ?_
    refine HT.reg1 [0, 1, 5] [⟨none, .no⟩] ⟨[(0, .one (.dat (.sl (.flt .f32)) a0)), (1, .one (.dat (.sl (.flt .f32)) a1)), (5, .one (.dat (.int .i64) (0 : Int)))], [], 0⟩ hP hN (by kernel_rfl) allNil ?_
    refine HT.block ?_
    obtain ⟨r3, hL15, hr⟩ := of_bind hr
    refine (Le.cv (s := ⟨[], [], [], false⟩) (own := []) (ps := [a0 = a0, a1 = a1, (0 : Int) = (0 : Int)]) (st' := ⟨[(0, .one (.dat (.sl (.flt .f32)) a0)), (1, .one (.dat (.sl (.flt .f32)) a1)), (5, .one (.dat (.int .i64) (0 : Int)))], [], 0⟩) hO (fun h => by cases h) (by kernel_rfl) ⟨rfl, rfl, rfl, trivial⟩).ht ?_
    refine HT.loopE (s := (0 : Int)) (fun (s2 : Int) => ⟨[(0, .one (.dat (.sl (.flt .f32)) a0)), (1, .one (.dat (.sl (.flt .f32)) a1)), (5, .one (.dat (.int .i64) s2))], [], 0⟩) (fun (r3 : Unit ⊕ Unit) => match r3 with | .inl r4 => (.exit 0, ⟨[], [], 0⟩) | .inr r5 => (.ret, ⟨[(4, .one (.dat .bool false))], [], 0⟩)) hL15 ?_ (fun s2 x6 hx7 hk8 => ?_)
    · rcases r3 with r4 | r5
      · refine (qBlockX (qThen ?_))
        refine HT.reg1 [4] [⟨none, .no⟩] ⟨[(4, .one (.dat .bool true))], [], 0⟩ hP hN (by kernel_rfl) allNil ?_
        have hr := of_some hr
        subst hr
        exact HT.ret ⟨[.one (.dat .bool true)], [], [], by kernel_rfl, by kernel_rfl, rfl, (.inl rfl), by kernel_rfl, trivial⟩
      · have hr := of_some hr
        subst hr
        exact (qBlockR (qThenR ⟨[.one (.dat .bool false)], [], [], by kernel_rfl, by kernel_rfl, rfl, (.inl rfl), by kernel_rfl, trivial⟩))
    · refine HT.seq ?_
      refine HT.reg1 [0, 1, 5, 14] [⟨none, .no⟩, ⟨none, .no⟩, ⟨none, .no⟩, ⟨none, .no⟩] ⟨[(0, .one (.dat (.sl (.flt .f32)) a0)), (1, .one (.dat (.sl (.flt .f32)) a1)), (5, .one (.dat (.int .i64) s2)), (14, .one (.dat .bool (decide (s2 < (lenI a0)))))], [], 0⟩ hP hN (by kernel_rfl) allNil ?_
      rcases of_bif hx7 with ⟨hb9, hx7⟩ | ⟨hb9, hx7⟩
      · refine HT.cond1 rfl hb9 ?_
        refine HT.skip (qThen ?_)
        refine HT.seq ?_
        refine HT.block ?_
        obtain ⟨hg10, hx7⟩ := of_guard hx7
        obtain ⟨hg11, hx7⟩ := of_guard hx7
        obtain ⟨y12, hc13, hx7⟩ := of_bind hx7
        refine HT.drw1 [0, 1, 5, 28] 10 [⟨⟨none, .no⟩, []⟩, ⟨⟨none, .no⟩, []⟩, ⟨⟨none, .no⟩, [0, 1]⟩, ⟨⟨none, .no⟩, [0, 1, 2]⟩, ⟨⟨none, .no⟩, [0, 1, 2, 3]⟩, ⟨⟨none, .no⟩, []⟩, ⟨⟨none, .no⟩, []⟩, ⟨⟨none, .no⟩, [5, 6]⟩, ⟨⟨none, .no⟩, [5, 6, 7]⟩, ⟨⟨none, .no⟩, [5, 6, 7, 8]⟩] [[0, 1, 2, 3, 4, 5, 6, 7, 8, 9], [0, 1, 2, 3, 4, 5, 6, 7, 8, 9, 10]] [⟨none, .call [.imm (.flt .f64), .imm (.flt .f64)] [⟨false, .bool, y12⟩] []⟩, ⟨none, .no⟩] ⟨[(0, .one (.dat (.sl (.flt .f32)) a0)), (1, .one (.dat (.sl (.flt .f32)) a1)), (5, .one (.dat (.int .i64) s2)), (28, .one (.dat .bool (!y12)))], [], 0⟩ hP hN (by kernel_rfl) (by kernel_rfl) (allCons hg10 (allCons (show fconvOK .f32 .f64 (List.getD a0 (Int.toNat s2) (0 : Nat)) = true from (fconv_up _)) (allCons hg11 (allCons (show fconvOK .f32 .f64 (List.getD a1 (Int.toNat s2) (0 : Nat)) = true from (fconv_up _)) (allCons (f17_ok hc13) allNil))))) ?_
        rcases of_bif hx7 with ⟨hb14, hx7⟩ | ⟨hb14, hx7⟩
        · refine HT.cond1 rfl hb14 ?_
          refine HT.reg1 [4] [⟨none, .no⟩] ⟨[(4, .one (.dat .bool false))], [], 0⟩ hP hN (by kernel_rfl) allNil ?_
          have hx7 := of_some hx7
          subst hx7
          refine (Le.cv (s := ⟨[], [], [], false⟩) (own := []) (ps := [false = false]) (st' := ⟨[(4, .one (.dat .bool false))], [], 0⟩) hO (fun h => by cases h) (by kernel_rfl) ⟨rfl, trivial⟩).ht ?_
          exact HT.ret (qBlockR (qThenR (qLoopR (hk8 (.inr ()) rfl))))
        · refine HT.cond0 rfl hb14 ?_
          refine HT.skip (qBlock (qThen ?_))
          have hx7 := of_some hx7
          subst hx7
          refine HT.reg (rs := [⟨none, .no⟩, ⟨none, .no⟩, ⟨none, .no⟩]) (st' := ⟨[(5, .one (.dat (.int .i64) (wadd .i64 s2 (1 : Int)))), (16, .one (.dat (.int .i64) (wadd .i64 s2 (1 : Int)))), (15, .one (.dat (.int .i64) s2)), (0, .one (.dat (.sl (.flt .f32)) a0)), (1, .one (.dat (.sl (.flt .f32)) a1)), (5, .one (.dat (.int .i64) s2)), (28, .one (.dat .bool (!y12)))], [], 0⟩) hP hN (by kernel_rfl) allNil (qLoopN ⟨(wadd .i64 s2 (1 : Int)), rfl, Le.cv (s := ⟨[], [], [], false⟩) (own := []) (ps := [a0 = a0, a1 = a1, (wadd .i64 s2 (1 : Int)) = (wadd .i64 s2 (1 : Int))]) (st' := ⟨[(0, .one (.dat (.sl (.flt .f32)) a0)), (1, .one (.dat (.sl (.flt .f32)) a1)), (5, .one (.dat (.int .i64) (wadd .i64 s2 (1 : Int))))], [], 0⟩) hO (fun h => by cases h) (by kernel_rfl) ⟨rfl, rfl, rfl, trivial⟩⟩)
      · refine HT.cond0 rfl hb9 ?_
        have hx7 := of_some hx7
        subst hx7
        refine (Le.cv (s := ⟨[], [], [], false⟩) (own := []) (ps := []) (st' := ⟨[], [], 0⟩) hO (fun h => by cases h) (by kernel_rfl) trivial).ht ?_
        exact HT.exit (qThenE (qLoopE (hk8 (.inl ()) rfl)))

noncomputable def laws_eqModel (a0 : Int × Int × List Nat × List Nat × List Nat) (a1 : Int × Int × List Nat × List Nat × List Nat) : Option (Bool) :=
  bif (a0.1 != a1.1) then
    some false
  else
    bif (a0.2.1 != a1.2.1) then
      some false
    else
      (laws_eqFloat32S a0.2.2.1 a1.2.2.1).bind fun y3 =>
      bif (!y3) then
        some false
      else
        (laws_eqFloat32S a0.2.2.2.1 a1.2.2.2.1).bind fun y6 =>
        bif (!y6) then
          some false
        else
          (laws_eqFloat32S a0.2.2.2.2 a1.2.2.2.2).bind fun y9 =>
          bif (!y9) then
            some false
          else
            some true

theorem f24_ok {a0 : Int × Int × List Nat × List Nat × List Nat} {a1 : Int × Int × List Nat × List Nat × List Nat} {r : Bool} (hr : laws_eqModel a0 a1 = some r) : CallOK Try.prog 24 [.imm (.st (.pair (.int .i64) (.pair (.int .i64) (.pair (.sl (.flt .f32)) (.pair (.sl (.flt .f32)) (.sl (.flt .f32))))))) a0, .imm (.st (.pair (.int .i64) (.pair (.int .i64) (.pair (.sl (.flt .f32)) (.pair (.sl (.flt .f32)) (.sl (.flt .f32))))))) a1] [⟨false, .bool, r⟩] [] := by
  unfold laws_eqModel at hr
  refine CallOK.of_body (ts := [(false, .bool)]) Try.func24 rfl (by kernel_rfl) (Nat.le_of_ble_eq_true (by kernel_rfl)) fun cx hP hN hO hF => ?_
  have hO : cx.own.map Prod.fst = [] := hO
  have hF : cx.F = [] := hF rfl
  show HT cx ⟨[(0, .agg [.dat (.int .i64) a0.1, .dat (.int .i64) a0.2.1, .dat (.sl (.flt .f32)) a0.2.2.1, .dat (.sl (.flt .f32)) a0.2.2.2.1, .dat (.sl (.flt .f32)) a0.2.2.2.2]), (1, .agg [.dat (.int .i64) a1.1, .dat (.int .i64) a1.2.1, .dat (.sl (.flt .f32)) a1.2.2.1, .dat (.sl (.flt .f32)) a1.2.2.2.1, .dat (.sl (.flt .f32)) a1.2.2.2.2])], [], 0⟩ _ _
  refine HT.reg1 [2, 3] [⟨none, .no⟩, ⟨none, .no⟩, ⟨none, .no⟩] ⟨[(2, .one (.ptr 0 0)), (3, .one (.ptr 1 0))], [(1, .box [.dat (.int .i64) a1.1, .dat (.int .i64) a1.2.1, .dat (.sl (.flt .f32)) a1.2.2.1, .dat (.sl (.flt .f32)) a1.2.2.2.1, .dat (.sl (.flt .f32)) a1.2.2.2.2]), (0, .box [.dat (.int .i64) a0.1, .dat (.int .i64) a0.2.1, .dat (.sl (.flt .f32)) a0.2.2.1, .dat (.sl (.flt .f32)) a0.2.2.2.1, .dat (.sl (.flt .f32)) a0.2.2.2.2])], 2⟩ hP hN (by kernel_rfl) allNil ?_
  refine HT.seq ?_
  refine HT.reg1 [2, 3, 9] [⟨none, .no⟩, ⟨none, .no⟩, ⟨none, .no⟩, ⟨none, .no⟩, ⟨none, .no⟩] ⟨[(2, .one (.ptr 0 0)), (3, .one (.ptr 1 0)), (9, .one (.dat .bool (a0.1 != a1.1)))], [(1, .box [.dat (.int .i64) a1.1, .dat (.int .i64) a1.2.1, .dat (.sl (.flt .f32)) a1.2.2.1, .dat (.sl (.flt .f32)) a1.2.2.2.1, .dat (.sl (.flt .f32)) a1.2.2.2.2]), (0, .box [.dat (.int .i64) a0.1, .dat (.int .i64) a0.2.1, .dat (.sl (.flt .f32)) a0.2.2.1, .dat (.sl (.flt .f32)) a0.2.2.2.1, .dat (.sl (.flt .f32)) a0.2.2.2.2])], 2⟩ hP hN (by kernel_rfl) allNil ?_
  rcases of_bif hr with ⟨hb1, hr⟩ | ⟨hb1, hr⟩
  · refine HT.cond1 rfl hb1 ?_
    refine HT.reg1 [4] [⟨none, .no⟩] ⟨[(4, .one (.dat .bool false))], [(1, .box [.dat (.int .i64) a1.1, .dat (.int .i64) a1.2.1, .dat (.sl (.flt .f32)) a1.2.2.1, .dat (.sl (.flt .f32)) a1.2.2.2.1, .dat (.sl (.flt .f32)) a1.2.2.2.2]), (0, .box [.dat (.int .i64) a0.1, .dat (.int .i64) a0.2.1, .dat (.sl (.flt .f32)) a0.2.2.1, .dat (.sl (.flt .f32)) a0.2.2.2.1, .dat (.sl (.flt .f32)) a0.2.2.2.2])], 2⟩ hP hN (by kernel_rfl) allNil ?_
    have hr := of_some hr
    subst hr
    exact HT.ret (qThenR ⟨[.one (.dat .bool false)], [], [], by kernel_rfl, by kernel_rfl, rfl, (.inl rfl), by kernel_rfl, trivial⟩)
  · refine HT.cond0 rfl hb1 ?_
    refine HT.skip (qThen ?_)
    refine HT.seq ?_
    refine HT.reg1 [2, 3, 14] [⟨none, .no⟩, ⟨none, .no⟩, ⟨none, .no⟩, ⟨none, .no⟩, ⟨none, .no⟩] ⟨[(2, .one (.ptr 0 0)), (3, .one (.ptr 1 0)), (14, .one (.dat .bool (a0.2.1 != a1.2.1)))], [(1, .box [.dat (.int .i64) a1.1, .dat (.int .i64) a1.2.1, .dat (.sl (.flt .f32)) a1.2.2.1, .dat (.sl (.flt .f32)) a1.2.2.2.1, .dat (.sl (.flt .f32)) a1.2.2.2.2]), (0, .box [.dat (.int .i64) a0.1, .dat (.int .i64) a0.2.1, .dat (.sl (.flt .f32)) a0.2.2.1, .dat (.sl (.flt .f32)) a0.2.2.2.1, .dat (.sl (.flt .f32)) a0.2.2.2.2])], 2⟩ hP hN (by kernel_rfl) allNil ?_
    rcases of_bif hr with ⟨hb2, hr⟩ | ⟨hb2, hr⟩
    · refine HT.cond1 rfl hb2 ?_
      refine HT.reg1 [4] [⟨none, .no⟩] ⟨[(4, .one (.dat .bool false))], [(1, .box [.dat (.int .i64) a1.1, .dat (.int .i64) a1.2.1, .dat (.sl (.flt .f32)) a1.2.2.1, .dat (.sl (.flt .f32)) a1.2.2.2.1, .dat (.sl (.flt .f32)) a1.2.2.2.2]), (0, .box [.dat (.int .i64) a0.1, .dat (.int .i64) a0.2.1, .dat (.sl (.flt .f32)) a0.2.2.1, .dat (.sl (.flt .f32)) a0.2.2.2.1, .dat (.sl (.flt .f32)) a0.2.2.2.2])], 2⟩ hP hN (by kernel_rfl) allNil ?_
      have hr := of_some hr
      subst hr
      exact HT.ret (qThenR ⟨[.one (.dat .bool false)], [], [], by kernel_rfl, by kernel_rfl, rfl, (.inl rfl), by kernel_rfl, trivial⟩)
    · refine HT.cond0 rfl hb2 ?_
      refine HT.skip (qThen ?_)
      refine HT.seq ?_
      obtain ⟨y3, hc4, hr⟩ := of_bind hr
      refine HT.reg1 [2, 3, 20] [⟨none, .no⟩, ⟨none, .no⟩, ⟨none, .no⟩, ⟨none, .no⟩, ⟨none, .call [.imm (.sl (.flt .f32)), .imm (.sl (.flt .f32))] [⟨false, .bool, y3⟩] []⟩, ⟨none, .no⟩] ⟨[(2, .one (.ptr 0 0)), (3, .one (.ptr 1 0)), (20, .one (.dat .bool (!y3)))], [(1, .box [.dat (.int .i64) a1.1, .dat (.int .i64) a1.2.1, .dat (.sl (.flt .f32)) a1.2.2.1, .dat (.sl (.flt .f32)) a1.2.2.2.1, .dat (.sl (.flt .f32)) a1.2.2.2.2]), (0, .box [.dat (.int .i64) a0.1, .dat (.int .i64) a0.2.1, .dat (.sl (.flt .f32)) a0.2.2.1, .dat (.sl (.flt .f32)) a0.2.2.2.1, .dat (.sl (.flt .f32)) a0.2.2.2.2])], 2⟩ hP hN (by kernel_rfl) (allCons (f18_ok hc4) allNil) ?_
      rcases of_bif hr with ⟨hb5, hr⟩ | ⟨hb5, hr⟩
      · refine HT.cond1 rfl hb5 ?_
        refine HT.reg1 [4] [⟨none, .no⟩] ⟨[(4, .one (.dat .bool false))], [(1, .box [.dat (.int .i64) a1.1, .dat (.int .i64) a1.2.1, .dat (.sl (.flt .f32)) a1.2.2.1, .dat (.sl (.flt .f32)) a1.2.2.2.1, .dat (.sl (.flt .f32)) a1.2.2.2.2]), (0, .box [.dat (.int .i64) a0.1, .dat (.int .i64) a0.2.1, .dat (.sl (.flt .f32)) a0.2.2.1, .dat (.sl (.flt .f32)) a0.2.2.2.1, .dat (.sl (.flt .f32)) a0.2.2.2.2])], 2⟩ hP hN (by kernel_rfl) allNil ?_
        have hr := of_some hr
        subst hr
        exact HT.ret (qThenR ⟨[.one (.dat .bool false)], [], [], by kernel_rfl, by kernel_rfl, rfl, (.inl rfl), by kernel_rfl, trivial⟩)
      · refine HT.cond0 rfl hb5 ?_
        refine HT.skip (qThen ?_)
        refine HT.seq ?_
        obtain ⟨y6, hc7, hr⟩ := of_bind hr
        refine HT.reg1 [2, 3, 26] [⟨none, .no⟩, ⟨none, .no⟩, ⟨none, .no⟩, ⟨none, .no⟩, ⟨none, .call [.imm (.sl (.flt .f32)), .imm (.sl (.flt .f32))] [⟨false, .bool, y6⟩] []⟩, ⟨none, .no⟩] ⟨[(2, .one (.ptr 0 0)), (3, .one (.ptr 1 0)), (26, .one (.dat .bool (!y6)))], [(1, .box [.dat (.int .i64) a1.1, .dat (.int .i64) a1.2.1, .dat (.sl (.flt .f32)) a1.2.2.1, .dat (.sl (.flt .f32)) a1.2.2.2.1, .dat (.sl (.flt .f32)) a1.2.2.2.2]), (0, .box [.dat (.int .i64) a0.1, .dat (.int .i64) a0.2.1, .dat (.sl (.flt .f32)) a0.2.2.1, .dat (.sl (.flt .f32)) a0.2.2.2.1, .dat (.sl (.flt .f32)) a0.2.2.2.2])], 2⟩ hP hN (by kernel_rfl) (allCons (f18_ok hc7) allNil) ?_
        rcases of_bif hr with ⟨hb8, hr⟩ | ⟨hb8, hr⟩
        · refine HT.cond1 rfl hb8 ?_
          refine HT.reg1 [4] [⟨none, .no⟩] ⟨[(4, .one (.dat .bool false))], [(1, .box [.dat (.int .i64) a1.1, .dat (.int .i64) a1.2.1, .dat (.sl (.flt .f32)) a1.2.2.1, .dat (.sl (.flt .f32)) a1.2.2.2.1, .dat (.sl (.flt .f32)) a1.2.2.2.2]), (0, .box [.dat (.int .i64) a0.1, .dat (.int .i64) a0.2.1, .dat (.sl (.flt .f32)) a0.2.2.1, .dat (.sl (.flt .f32)) a0.2.2.2.1, .dat (.sl (.flt .f32)) a0.2.2.2.2])], 2⟩ hP hN (by kernel_rfl) allNil ?_
          have hr := of_some hr
          subst hr
          exact HT.ret (qThenR ⟨[.one (.dat .bool false)], [], [], by kernel_rfl, by kernel_rfl, rfl, (.inl rfl), by kernel_rfl, trivial⟩)
        · refine HT.cond0 rfl hb8 ?_
          refine HT.skip (qThen ?_)
          refine HT.seq ?_
          obtain ⟨y9, hc10, hr⟩ := of_bind hr
          refine HT.reg1 [32] [⟨none, .no⟩, ⟨none, .no⟩, ⟨none, .no⟩, ⟨none, .no⟩, ⟨none, .call [.imm (.sl (.flt .f32)), .imm (.sl (.flt .f32))] [⟨false, .bool, y9⟩] []⟩, ⟨none, .no⟩] ⟨[(32, .one (.dat .bool (!y9)))], [(1, .box [.dat (.int .i64) a1.1, .dat (.int .i64) a1.2.1, .dat (.sl (.flt .f32)) a1.2.2.1, .dat (.sl (.flt .f32)) a1.2.2.2.1, .dat (.sl (.flt .f32)) a1.2.2.2.2]), (0, .box [.dat (.int .i64) a0.1, .dat (.int .i64) a0.2.1, .dat (.sl (.flt .f32)) a0.2.2.1, .dat (.sl (.flt .f32)) a0.2.2.2.1, .dat (.sl (.flt .f32)) a0.2.2.2.2])], 2⟩ hP hN (by kernel_rfl) (allCons (f18_ok hc10) allNil) ?_
          rcases of_bif hr with ⟨hb11, hr⟩ | ⟨hb11, hr⟩
          · refine HT.cond1 rfl hb11 ?_
            refine HT.reg1 [4] [⟨none, .no⟩] ⟨[(4, .one (.dat .bool false))], [(1, .box [.dat (.int .i64) a1.1, .dat (.int .i64) a1.2.1, .dat (.sl (.flt .f32)) a1.2.2.1, .dat (.sl (.flt .f32)) a1.2.2.2.1, .dat (.sl (.flt .f32)) a1.2.2.2.2]), (0, .box [.dat (.int .i64) a0.1, .dat (.int .i64) a0.2.1, .dat (.sl (.flt .f32)) a0.2.2.1, .dat (.sl (.flt .f32)) a0.2.2.2.1, .dat (.sl (.flt .f32)) a0.2.2.2.2])], 2⟩ hP hN (by kernel_rfl) allNil ?_
            have hr := of_some hr
            subst hr
            exact HT.ret (qThenR ⟨[.one (.dat .bool false)], [], [], by kernel_rfl, by kernel_rfl, rfl, (.inl rfl), by kernel_rfl, trivial⟩)
          · refine HT.cond0 rfl hb11 ?_
            refine HT.skip (qThen ?_)
            refine HT.reg1 [4] [⟨none, .no⟩] ⟨[(4, .one (.dat .bool true))], [(1, .box [.dat (.int .i64) a1.1, .dat (.int .i64) a1.2.1, .dat (.sl (.flt .f32)) a1.2.2.1, .dat (.sl (.flt .f32)) a1.2.2.2.1, .dat (.sl (.flt .f32)) a1.2.2.2.2]), (0, .box [.dat (.int .i64) a0.1, .dat (.int .i64) a0.2.1, .dat (.sl (.flt .f32)) a0.2.2.1, .dat (.sl (.flt .f32)) a0.2.2.2.1, .dat (.sl (.flt .f32)) a0.2.2.2.2])], 2⟩ hP hN (by kernel_rfl) allNil ?_
            have hr := of_some hr
            subst hr
            exact HT.ret ⟨[.one (.dat .bool true)], [], [], by kernel_rfl, by kernel_rfl, rfl, (.inl rfl), by kernel_rfl, trivial⟩

noncomputable def laws_eqInt64S_B1 (a0 : List Int) (a1 : List Int) (s2 : Int) : Option ((Int) ⊕ (Unit ⊕ Unit)) :=
  bif (decide (s2 < (lenI a0))) then
    guardP ((0 : Int) ≤ s2 ∧ s2 < lenI a0) (
      guardP ((0 : Int) ≤ s2 ∧ s2 < lenI a1) (
        bif ((List.getD a0 (Int.toNat s2) (0 : Int)) != (List.getD a1 (Int.toNat s2) (0 : Int))) then
          some (.inr (.inr ()))
        else
          some (.inl (wadd .i64 s2 (1 : Int)))))
  else
    some (.inr (.inl ()))

noncomputable def laws_eqInt64S (a0 : List Int) (a1 : List Int) : Option (Bool) :=
  bif ((lenI a0) != (lenI a1)) then
    some false
  else
    (rounds (laws_eqInt64S_B1 a0 a1) (0 : Int)).bind fun r3 => match r3 with
      | .inl r4 =>
        some true
      | .inr r5 =>
        some false

theorem f25_ok {a0 : List Int} {a1 : List Int} {r : Bool} (hr : laws_eqInt64S a0 a1 = some r) : CallOK Try.prog 25 [.imm (.sl (.int .i64)) a0, .imm (.sl (.int .i64)) a1] [⟨false, .bool, r⟩] [] := by
  unfold laws_eqInt64S at hr
  refine CallOK.of_body (ts := [(false, .bool)]) Try.func25 rfl (by kernel_rfl) (Nat.le_of_ble_eq_true (by kernel_rfl)) fun cx hP hN hO hF => ?_
  have hO : cx.own.map Prod.fst = [] := hO
  have hF : cx.F = [] := hF rfl
  show HT cx ⟨[(0, .one (.dat (.sl (.int .i64)) a0)), (1, .one (.dat (.sl (.int .i64)) a1))], [], 0⟩ _ _
  refine HT.reg1 [0, 1] [⟨none, .no⟩] ⟨[(0, .one (.dat (.sl (.int .i64)) a0)), (1, .one (.dat (.sl (.int .i64)) a1))], [], 0⟩ hP hN (by kernel_rfl) allNil ?_
  refine HT.seq ?_
  refine HT.reg1 [0, 1, 10] [⟨none, .no⟩, ⟨none, .no⟩, ⟨none, .no⟩, ⟨none, .no⟩, ⟨none, .no⟩] ⟨[(0, .one (.dat (.sl (.int .i64)) a0)), (1, .one (.dat (.sl (.int .i64)) a1)), (10, .one (.dat .bool ((lenI a0) != (lenI a1))))], [], 0⟩ hP hN (by kernel_rfl) allNil ?_
  rcases of_bif hr with ⟨hb1, hr⟩ | ⟨hb1, hr⟩
  · refine HT.cond1 rfl hb1 ?_
    refine HT.reg1 [4] [⟨none, .no⟩] ⟨[(4, .one (.dat .bool false))], [], 0⟩ hP hN (by kernel_rfl) allNil ?_
    have hr := of_some hr
    subst hr
    exact HT.ret (qThenR ⟨[.one (.dat .bool false)], [], [], by kernel_rfl, by kernel_rfl, rfl, (.inl rfl), by kernel_rfl, trivial⟩)
  · refine HT.cond0 rfl hb1 ?_
    refine HT.skip (qThen ?_)
    refine HT.seq ?_
    refine HT.reg1 [0, 1, 5] [⟨none, .no⟩] ⟨[(0, .one (.dat (.sl (.int .i64)) a0)), (1, .one (.dat (.sl (.int .i64)) a1)), (5, .one (.dat (.int .i64) (0 : Int)))], [], 0⟩ hP hN (by kernel_rfl) allNil ?_
    refine HT.block ?_
    obtain ⟨r3, hL13, hr⟩ := of_bind hr
    refine (Le.cv (s := ⟨[], [], [], false⟩) (own := []) (ps := [a0 = a0, a1 = a1, (0 : Int) = (0 : Int)]) (st' := ⟨[(0, .one (.dat (.sl (.int .i64)) a0)), (1, .one (.dat (.sl (.int .i64)) a1)), (5, .one (.dat (.int .i64) (0 : Int)))], [], 0⟩) hO (fun h => by cases h) (by kernel_rfl) ⟨rfl, rfl, rfl, trivial⟩).ht ?_
    refine HT.loopE (s := (0 : Int)) (fun (s2 : Int) => ⟨[(0, .one (.dat (.sl (.int .i64)) a0)), (1, .one (.dat (.sl (.int .i64)) a1)), (5, .one (.dat (.int .i64) s2))], [], 0⟩) (fun (r3 : Unit ⊕ Unit) => match r3 with | .inl r4 => (.exit 0, ⟨[], [], 0⟩) | .inr r5 => (.ret, ⟨[(4, .one (.dat .bool false))], [], 0⟩)) hL13 ?_ (fun s2 x6 hx7 hk8 => ?_)
    · rcases r3 with r4 | r5
      · refine (qBlockX (qThen ?_))
        refine HT.reg1 [4] [⟨none, .no⟩] ⟨[(4, .one (.dat .bool true))], [], 0⟩ hP hN (by kernel_rfl) allNil ?_
        have hr := of_some hr
        subst hr
        exact HT.ret ⟨[.one (.dat .bool true)], [], [], by kernel_rfl, by kernel_rfl, rfl, (.inl rfl), by kernel_rfl, trivial⟩
      · have hr := of_some hr
        subst hr
        exact (qBlockR (qThenR ⟨[.one (.dat .bool false)], [], [], by kernel_rfl, by kernel_rfl, rfl, (.inl rfl), by kernel_rfl, trivial⟩))
    · refine HT.seq ?_
      refine HT.reg1 [0, 1, 5, 14] [⟨none, .no⟩, ⟨none, .no⟩, ⟨none, .no⟩, ⟨none, .no⟩] ⟨[(0, .one (.dat (.sl (.int .i64)) a0)), (1, .one (.dat (.sl (.int .i64)) a1)), (5, .one (.dat (.int .i64) s2)), (14, .one (.dat .bool (decide (s2 < (lenI a0)))))], [], 0⟩ hP hN (by kernel_rfl) allNil ?_
      rcases of_bif hx7 with ⟨hb9, hx7⟩ | ⟨hb9, hx7⟩
      · refine HT.cond1 rfl hb9 ?_
        refine HT.skip (qThen ?_)
        refine HT.seq ?_
        refine HT.block ?_
        obtain ⟨hg10, hx7⟩ := of_guard hx7
        obtain ⟨hg11, hx7⟩ := of_guard hx7
        refine HT.drw1 [0, 1, 5, 25] 8 [⟨⟨none, .no⟩, []⟩, ⟨⟨none, .no⟩, []⟩, ⟨⟨none, .no⟩, [0, 1]⟩, ⟨⟨none, .no⟩, [0, 1, 2]⟩, ⟨⟨none, .no⟩, []⟩, ⟨⟨none, .no⟩, []⟩, ⟨⟨none, .no⟩, [4, 5]⟩, ⟨⟨none, .no⟩, [4, 5, 6]⟩] [[0, 1, 2, 3, 4, 5, 6, 7]] [⟨none, .no⟩] ⟨[(0, .one (.dat (.sl (.int .i64)) a0)), (1, .one (.dat (.sl (.int .i64)) a1)), (5, .one (.dat (.int .i64) s2)), (25, .one (.dat .bool ((List.getD a0 (Int.toNat s2) (0 : Int)) != (List.getD a1 (Int.toNat s2) (0 : Int)))))], [], 0⟩ hP hN (by kernel_rfl) (by kernel_rfl) (allCons hg10 (allCons hg11 allNil)) ?_
        rcases of_bif hx7 with ⟨hb12, hx7⟩ | ⟨hb12, hx7⟩
        · refine HT.cond1 rfl hb12 ?_
          refine HT.reg1 [4] [⟨none, .no⟩] ⟨[(4, .one (.dat .bool false))], [], 0⟩ hP hN (by kernel_rfl) allNil ?_
          have hx7 := of_some hx7
          subst hx7
          refine (Le.cv (s := ⟨[], [], [], false⟩) (own := []) (ps := [false = false]) (st' := ⟨[(4, .one (.dat .bool false))], [], 0⟩) hO (fun h => by cases h) (by kernel_rfl) ⟨rfl, trivial⟩).ht ?_
          exact HT.ret (qBlockR (qThenR (qLoopR (hk8 (.inr ()) rfl))))
        · refine HT.cond0 rfl hb12 ?_
          refine HT.skip (qBlock (qThen ?_))
          have hx7 := of_some hx7
          subst hx7
          refine HT.reg (rs := [⟨none, .no⟩, ⟨none, .no⟩, ⟨none, .no⟩]) (st' := ⟨[(5, .one (.dat (.int .i64) (wadd .i64 s2 (1 : Int)))), (16, .one (.dat (.int .i64) (wadd .i64 s2 (1 : Int)))), (15, .one (.dat (.int .i64) s2)), (0, .one (.dat (.sl (.int .i64)) a0)), (1, .one (.dat (.sl (.int .i64)) a1)), (5, .one (.dat (.int .i64) s2)), (25, .one (.dat .bool ((List.getD a0 (Int.toNat s2) (0 : Int)) != (List.getD a1 (Int.toNat s2) (0 : Int)))))], [], 0⟩) hP hN (by kernel_rfl) allNil (qLoopN ⟨(wadd .i64 s2 (1 : Int)), rfl, Le.cv (s := ⟨[], [], [], false⟩) (own := []) (ps := [a0 = a0, a1 = a1, (wadd .i64 s2 (1 : Int)) = (wadd .i64 s2 (1 : Int))]) (st' := ⟨[(0, .one (.dat (.sl (.int .i64)) a0)), (1, .one (.dat (.sl (.int .i64)) a1)), (5, .one (.dat (.int .i64) (wadd .i64 s2 (1 : Int))))], [], 0⟩) hO (fun h => by cases h) (by kernel_rfl) ⟨rfl, rfl, rfl, trivial⟩⟩)
      · refine HT.cond0 rfl hb9 ?_
        have hx7 := of_some hx7
        subst hx7
        refine (Le.cv (s := ⟨[], [], [], false⟩) (own := []) (ps := []) (st' := ⟨[], [], 0⟩) hO (fun h => by cases h) (by kernel_rfl) trivial).ht ?_
        exact HT.exit (qThenE (qLoopE (hk8 (.inl ()) rfl)))

noncomputable def laws_FnExactChanceOf (a0 : Int × Int × List Nat × List Nat × List Nat) (a1 : List Int) : Option (Bool) :=
  bif (decide ((lenI a1) > (1048576 : Int))) then
    some true
  else
    (laws_szModel (a0.1, a0.2.1, a0.2.2.1, a0.2.2.2.1, a0.2.2.2.2) (1048576 : Int)).bind fun y2 =>
    bif (decide (y2 < (0 : Int))) then
      some true
    else
      (laws_toModel (a0.1, a0.2.1, a0.2.2.1, a0.2.2.2.1, a0.2.2.2.2)).bind fun y5 =>
      (laws_toInt64S a1).bind fun y7 =>
      (spec_ChanceOf (y5.1, y5.2.1, y5.2.2.1, y5.2.2.2.1, y5.2.2.2.2) y7).bind fun y9 =>
      (laws_toModel (a0.1, a0.2.1, a0.2.2.1, a0.2.2.2.1, a0.2.2.2.2)).bind fun y11 =>
      (laws_toInt64S a1).bind fun y13 =>
      (impl_ChanceOf (y11.1, y11.2.1, y11.2.2.1, y11.2.2.2.1, y11.2.2.2.2) y13).bind fun y15 =>
      (show Option (Bool) from
        (laws_sameFloat (fconv .f32 .f64 y15.1) (fconv .f32 .f64 y9.1)).bind fun y31 =>
        bif (!y31) then
          some true
        else
          some (y15.2 != y9.2)).bind fun v17 =>
      bif v17 then
        some false
      else
        (laws_toModel (a0.1, a0.2.1, a0.2.2.1, a0.2.2.2.1, a0.2.2.2.2)).bind fun y21 =>
        (laws_eqModel (y11.1, y11.2.1, y11.2.2.1, y11.2.2.2.1, y11.2.2.2.2) (y21.1, y21.2.1, y21.2.2.1, y21.2.2.2.1, y21.2.2.2.2)).bind fun y23 =>
        bif (!y23) then
          some false
        else
          (laws_toInt64S a1).bind fun y26 =>
          (laws_eqInt64S y13 y26).bind fun y28 =>
          bif (!y28) then
            some false
          else
            some true

theorem f8_ok {a0 : Int × Int × List Nat × List Nat × List Nat} {a1 : List Int} {r : Bool} (hr : laws_FnExactChanceOf a0 a1 = some r) : CallOK Try.prog 8 [.imm (.st (.pair (.int .i64) (.pair (.int .i64) (.pair (.sl (.flt .f32)) (.pair (.sl (.flt .f32)) (.sl (.flt .f32))))))) a0, .imm (.sl (.int .i64)) a1] [⟨false, .bool, r⟩] [] := by
  unfold laws_FnExactChanceOf at hr
  refine CallOK.of_body (ts := [(false, .bool)]) Try.func8 rfl (by kernel_rfl) (Nat.le_of_ble_eq_true (by kernel_rfl)) fun cx hP hN hO hF => ?_
  have hO : cx.own.map Prod.fst = [] := hO
  have hF : cx.F = [] := hF rfl
  show HT cx ⟨[(0, .agg [.dat (.int .i64) a0.1, .dat (.int .i64) a0.2.1, .dat (.sl (.flt .f32)) a0.2.2.1, .dat (.sl (.flt .f32)) a0.2.2.2.1, .dat (.sl (.flt .f32)) a0.2.2.2.2]), (1, .one (.dat (.sl (.int .i64)) a1))], [], 0⟩ _ _
  refine HT.reg1 [1, 2] [⟨none, .no⟩, ⟨none, .no⟩] ⟨[(1, .one (.dat (.sl (.int .i64)) a1)), (2, .one (.ptr 0 0))], [(0, .box [.dat (.int .i64) a0.1, .dat (.int .i64) a0.2.1, .dat (.sl (.flt .f32)) a0.2.2.1, .dat (.sl (.flt .f32)) a0.2.2.2.1, .dat (.sl (.flt .f32)) a0.2.2.2.2])], 1⟩ hP hN (by kernel_rfl) allNil ?_
  refine HT.seq ?_
  refine HT.reg1 [1, 2, 14] [⟨none, .no⟩, ⟨none, .no⟩, ⟨none, .no⟩] ⟨[(1, .one (.dat (.sl (.int .i64)) a1)), (2, .one (.ptr 0 0)), (14, .one (.dat .bool (decide ((lenI a1) > (1048576 : Int)))))], [(0, .box [.dat (.int .i64) a0.1, .dat (.int .i64) a0.2.1, .dat (.sl (.flt .f32)) a0.2.2.1, .dat (.sl (.flt .f32)) a0.2.2.2.1, .dat (.sl (.flt .f32)) a0.2.2.2.2])], 1⟩ hP hN (by kernel_rfl) allNil ?_
  rcases of_bif hr with ⟨hb1, hr⟩ | ⟨hb1, hr⟩
  · refine HT.cond1 rfl hb1 ?_
    refine HT.reg1 [4] [⟨none, .no⟩] ⟨[(4, .one (.dat .bool true))], [(0, .box [.dat (.int .i64) a0.1, .dat (.int .i64) a0.2.1, .dat (.sl (.flt .f32)) a0.2.2.1, .dat (.sl (.flt .f32)) a0.2.2.2.1, .dat (.sl (.flt .f32)) a0.2.2.2.2])], 1⟩ hP hN (by kernel_rfl) allNil ?_
    have hr := of_some hr
    subst hr
    exact HT.ret (qThenR ⟨[.one (.dat .bool true)], [], [], by kernel_rfl, by kernel_rfl, rfl, (.inl rfl), by kernel_rfl, trivial⟩)
  · refine HT.cond0 rfl hb1 ?_
    refine HT.skip (qThen ?_)
    refine HT.reg1 [1, 2, 5] [⟨none, .no⟩] ⟨[(1, .one (.dat (.sl (.int .i64)) a1)), (2, .one (.ptr 0 0)), (5, .one (.dat (.int .i64) (1048576 : Int)))], [(0, .box [.dat (.int .i64) a0.1, .dat (.int .i64) a0.2.1, .dat (.sl (.flt .f32)) a0.2.2.1, .dat (.sl (.flt .f32)) a0.2.2.2.1, .dat (.sl (.flt .f32)) a0.2.2.2.2])], 1⟩ hP hN (by kernel_rfl) allNil ?_
    obtain ⟨y2, hc3, hr⟩ := of_bind hr
    refine HT.reg1 [1, 2, 5] [⟨none, .no⟩, ⟨none, .no⟩, ⟨none, .call [.imm (.st (.pair (.int .i64) (.pair (.int .i64) (.pair (.sl (.flt .f32)) (.pair (.sl (.flt .f32)) (.sl (.flt .f32))))))), .imm (.int .i64)] [⟨false, (.int .i64), y2⟩] []⟩, ⟨none, .no⟩] ⟨[(1, .one (.dat (.sl (.int .i64)) a1)), (2, .one (.ptr 0 0)), (5, .one (.dat (.int .i64) y2))], [(0, .box [.dat (.int .i64) a0.1, .dat (.int .i64) a0.2.1, .dat (.sl (.flt .f32)) a0.2.2.1, .dat (.sl (.flt .f32)) a0.2.2.2.1, .dat (.sl (.flt .f32)) a0.2.2.2.2])], 1⟩ hP hN (by kernel_rfl) (allCons (f19_ok hc3) allNil) ?_
    refine HT.seq ?_
    refine HT.reg1 [1, 2, 19] [⟨none, .no⟩, ⟨none, .no⟩] ⟨[(1, .one (.dat (.sl (.int .i64)) a1)), (2, .one (.ptr 0 0)), (19, .one (.dat .bool (decide (y2 < (0 : Int)))))], [(0, .box [.dat (.int .i64) a0.1, .dat (.int .i64) a0.2.1, .dat (.sl (.flt .f32)) a0.2.2.1, .dat (.sl (.flt .f32)) a0.2.2.2.1, .dat (.sl (.flt .f32)) a0.2.2.2.2])], 1⟩ hP hN (by kernel_rfl) allNil ?_
    rcases of_bif hr with ⟨hb4, hr⟩ | ⟨hb4, hr⟩
    · refine HT.cond1 rfl hb4 ?_
      refine HT.reg1 [4] [⟨none, .no⟩] ⟨[(4, .one (.dat .bool true))], [(0, .box [.dat (.int .i64) a0.1, .dat (.int .i64) a0.2.1, .dat (.sl (.flt .f32)) a0.2.2.1, .dat (.sl (.flt .f32)) a0.2.2.2.1, .dat (.sl (.flt .f32)) a0.2.2.2.2])], 1⟩ hP hN (by kernel_rfl) allNil ?_
      have hr := of_some hr
      subst hr
      exact HT.ret (qThenR ⟨[.one (.dat .bool true)], [], [], by kernel_rfl, by kernel_rfl, rfl, (.inl rfl), by kernel_rfl, trivial⟩)
    · refine HT.cond0 rfl hb4 ?_
      refine HT.skip (qThen ?_)
      obtain ⟨y5, hc6, hr⟩ := of_bind hr
      obtain ⟨y7, hc8, hr⟩ := of_bind hr
      obtain ⟨y9, hc10, hr⟩ := of_bind hr
      refine HT.reg1 [1, 2, 6, 7] [⟨none, .no⟩, ⟨none, .call [.imm (.st (.pair (.int .i64) (.pair (.int .i64) (.pair (.sl (.flt .f32)) (.pair (.sl (.flt .f32)) (.sl (.flt .f32)))))))] [⟨true, (.st (.pair (.int .i64) (.pair (.int .i64) (.pair (.sl (.flt .f32)) (.pair (.sl (.flt .f32)) (.sl (.flt .f32))))))), y5⟩] []⟩, ⟨none, .no⟩, ⟨none, .call [.imm (.sl (.int .i64))] [⟨true, (.sl (.int .i64)), y7⟩] []⟩, ⟨none, .call [.imm (.st (.pair (.int .i64) (.pair (.int .i64) (.pair (.sl (.flt .f32)) (.pair (.sl (.flt .f32)) (.sl (.flt .f32))))))), .imm (.sl (.int .i64))] [⟨false, (.flt .f32), y9.1⟩, ⟨false, .bool, y9.2⟩] []⟩, ⟨none, .no⟩, ⟨none, .no⟩, ⟨none, .no⟩, ⟨none, .no⟩, ⟨none, .no⟩] ⟨[(1, .one (.dat (.sl (.int .i64)) a1)), (2, .one (.ptr 0 0)), (6, .one (.dat (.flt .f32) y9.1)), (7, .one (.dat .bool y9.2))], [(4, .seq (.int .i64) y7), (1, .seq (.flt .f32) y5.2.2.1), (2, .seq (.flt .f32) y5.2.2.2.1), (3, .seq (.flt .f32) y5.2.2.2.2), (0, .box [.dat (.int .i64) a0.1, .dat (.int .i64) a0.2.1, .dat (.sl (.flt .f32)) a0.2.2.1, .dat (.sl (.flt .f32)) a0.2.2.2.1, .dat (.sl (.flt .f32)) a0.2.2.2.2])], 5⟩ hP hN (by kernel_rfl) (allCons (f21_ok hc6) (allCons (f22_ok hc8) (allCons (f43_ok hc10) allNil))) ?_
      obtain ⟨y11, hc12, hr⟩ := of_bind hr
      refine HT.reg1 [1, 2, 6, 7, 8] [⟨none, .no⟩, ⟨none, .call [.imm (.st (.pair (.int .i64) (.pair (.int .i64) (.pair (.sl (.flt .f32)) (.pair (.sl (.flt .f32)) (.sl (.flt .f32)))))))] [⟨true, (.st (.pair (.int .i64) (.pair (.int .i64) (.pair (.sl (.flt .f32)) (.pair (.sl (.flt .f32)) (.sl (.flt .f32))))))), y11⟩] []⟩, ⟨none, .no⟩, ⟨none, .no⟩] ⟨[(1, .one (.dat (.sl (.int .i64)) a1)), (2, .one (.ptr 0 0)), (6, .one (.dat (.flt .f32) y9.1)), (7, .one (.dat .bool y9.2)), (8, .one (.ptr 8 0))], [(8, .box [.dat (.int .i64) y11.1, .dat (.int .i64) y11.2.1, .all 5, .all 6, .all 7]), (8, .box [.dat (.int .i64) (0 : Int), .dat (.int .i64) (0 : Int), .nilS, .nilS, .nilS]), (5, .seq (.flt .f32) y11.2.2.1), (6, .seq (.flt .f32) y11.2.2.2.1), (7, .seq (.flt .f32) y11.2.2.2.2), (4, .seq (.int .i64) y7), (1, .seq (.flt .f32) y5.2.2.1), (2, .seq (.flt .f32) y5.2.2.2.1), (3, .seq (.flt .f32) y5.2.2.2.2), (0, .box [.dat (.int .i64) a0.1, .dat (.int .i64) a0.2.1, .dat (.sl (.flt .f32)) a0.2.2.1, .dat (.sl (.flt .f32)) a0.2.2.2.1, .dat (.sl (.flt .f32)) a0.2.2.2.2])], 9⟩ hP hN (by kernel_rfl) (allCons (f21_ok hc12) allNil) ?_
      obtain ⟨y13, hc14, hr⟩ := of_bind hr
      refine HT.reg1 [1, 2, 6, 7, 8, 9] [⟨none, .no⟩, ⟨none, .call [.imm (.sl (.int .i64))] [⟨true, (.sl (.int .i64)), y13⟩] []⟩, ⟨none, .no⟩] ⟨[(1, .one (.dat (.sl (.int .i64)) a1)), (2, .one (.ptr 0 0)), (6, .one (.dat (.flt .f32) y9.1)), (7, .one (.dat .bool y9.2)), (8, .one (.ptr 8 0)), (9, .one (.all 9))], [(9, .seq (.int .i64) y13), (8, .box [.dat (.int .i64) y11.1, .dat (.int .i64) y11.2.1, .all 5, .all 6, .all 7]), (8, .box [.dat (.int .i64) (0 : Int), .dat (.int .i64) (0 : Int), .nilS, .nilS, .nilS]), (5, .seq (.flt .f32) y11.2.2.1), (6, .seq (.flt .f32) y11.2.2.2.1), (7, .seq (.flt .f32) y11.2.2.2.2), (4, .seq (.int .i64) y7), (1, .seq (.flt .f32) y5.2.2.1), (2, .seq (.flt .f32) y5.2.2.2.1), (3, .seq (.flt .f32) y5.2.2.2.2), (0, .box [.dat (.int .i64) a0.1, .dat (.int .i64) a0.2.1, .dat (.sl (.flt .f32)) a0.2.2.1, .dat (.sl (.flt .f32)) a0.2.2.2.1, .dat (.sl (.flt .f32)) a0.2.2.2.2])], 10⟩ hP hN (by kernel_rfl) (allCons (f22_ok hc14) allNil) ?_
      obtain ⟨y15, hc16, hr⟩ := of_bind hr
      refine HT.reg1 [1, 2, 6, 7, 8, 9, 10, 11] [⟨none, .no⟩, ⟨none, .no⟩, ⟨none, .call [.imm (.st (.pair (.int .i64) (.pair (.int .i64) (.pair (.sl (.flt .f32)) (.pair (.sl (.flt .f32)) (.sl (.flt .f32))))))), .imm (.sl (.int .i64))] [⟨false, (.flt .f32), y15.1⟩, ⟨false, .bool, y15.2⟩] []⟩, ⟨none, .no⟩, ⟨none, .no⟩, ⟨none, .no⟩, ⟨none, .no⟩, ⟨none, .no⟩] ⟨[(1, .one (.dat (.sl (.int .i64)) a1)), (2, .one (.ptr 0 0)), (6, .one (.dat (.flt .f32) y9.1)), (7, .one (.dat .bool y9.2)), (8, .one (.ptr 8 0)), (9, .one (.all 9)), (10, .one (.dat (.flt .f32) y15.1)), (11, .one (.dat .bool y15.2))], [(9, .seq (.int .i64) y13), (8, .box [.dat (.int .i64) y11.1, .dat (.int .i64) y11.2.1, .all 5, .all 6, .all 7]), (8, .box [.dat (.int .i64) (0 : Int), .dat (.int .i64) (0 : Int), .nilS, .nilS, .nilS]), (5, .seq (.flt .f32) y11.2.2.1), (6, .seq (.flt .f32) y11.2.2.2.1), (7, .seq (.flt .f32) y11.2.2.2.2), (4, .seq (.int .i64) y7), (1, .seq (.flt .f32) y5.2.2.1), (2, .seq (.flt .f32) y5.2.2.2.1), (3, .seq (.flt .f32) y5.2.2.2.2), (0, .box [.dat (.int .i64) a0.1, .dat (.int .i64) a0.2.1, .dat (.sl (.flt .f32)) a0.2.2.1, .dat (.sl (.flt .f32)) a0.2.2.2.1, .dat (.sl (.flt .f32)) a0.2.2.2.2])], 10⟩ hP hN (by kernel_rfl) (allCons (f44_ok hc16) allNil) ?_
      refine HT.seq ?_
      obtain ⟨v17', hT19, hr⟩ := of_bind hr
      refine HT.join (fun (v17 : Bool) => ⟨[(1, .one (.dat (.sl (.int .i64)) a1)), (2, .one (.ptr 0 0)), (8, .one (.ptr 1 0)), (9, .one (.all 2)), (48, .one (.dat .bool v17))], [(0, .box [.dat (.int .i64) a0.1, .dat (.int .i64) a0.2.1, .dat (.sl (.flt .f32)) a0.2.2.1, .dat (.sl (.flt .f32)) a0.2.2.2.1, .dat (.sl (.flt .f32)) a0.2.2.2.2]), (1, .box [.dat (.int .i64) y11.1, .dat (.int .i64) y11.2.1, .all 3, .all 4, .all 5]), (2, .seq (.int .i64) y13), (3, .seq (.flt .f32) y11.2.2.1), (4, .seq (.flt .f32) y11.2.2.2.1), (5, .seq (.flt .f32) y11.2.2.2.2)], 6⟩) (fun v => v = v17') (fun v17 hv18 => ?_) (fun cont => ?_)
      · subst hv18
        rcases of_bif hr with ⟨hb20, hr⟩ | ⟨hb20, hr⟩
        · refine HT.cond1 rfl hb20 ?_
          refine HT.reg1 [4] [⟨none, .no⟩] ⟨[(4, .one (.dat .bool false))], [(0, .box [.dat (.int .i64) a0.1, .dat (.int .i64) a0.2.1, .dat (.sl (.flt .f32)) a0.2.2.1, .dat (.sl (.flt .f32)) a0.2.2.2.1, .dat (.sl (.flt .f32)) a0.2.2.2.2]), (1, .box [.dat (.int .i64) y11.1, .dat (.int .i64) y11.2.1, .all 3, .all 4, .all 5]), (2, .seq (.int .i64) y13), (3, .seq (.flt .f32) y11.2.2.1), (4, .seq (.flt .f32) y11.2.2.2.1), (5, .seq (.flt .f32) y11.2.2.2.2)], 6⟩ hP hN (by kernel_rfl) allNil ?_
          have hr := of_some hr
          subst hr
          exact HT.ret (qThenR ⟨[.one (.dat .bool false)], [], [], by kernel_rfl, by kernel_rfl, rfl, (.inl rfl), by kernel_rfl, trivial⟩)
        · refine HT.cond0 rfl hb20 ?_
          refine HT.skip (qThen ?_)
          refine HT.seq ?_
          obtain ⟨y21, hc22, hr⟩ := of_bind hr
          obtain ⟨y23, hc24, hr⟩ := of_bind hr
          refine HT.drw1 [1, 9, 53] 3 [⟨⟨none, .no⟩, []⟩, ⟨⟨none, .no⟩, []⟩, ⟨⟨none, .call [.imm (.st (.pair (.int .i64) (.pair (.int .i64) (.pair (.sl (.flt .f32)) (.pair (.sl (.flt .f32)) (.sl (.flt .f32)))))))] [⟨true, (.st (.pair (.int .i64) (.pair (.int .i64) (.pair (.sl (.flt .f32)) (.pair (.sl (.flt .f32)) (.sl (.flt .f32))))))), y21⟩] []⟩, [1]⟩] [[0, 1, 2], [0, 1, 2, 3]] [⟨none, .call [.imm (.st (.pair (.int .i64) (.pair (.int .i64) (.pair (.sl (.flt .f32)) (.pair (.sl (.flt .f32)) (.sl (.flt .f32))))))), .imm (.st (.pair (.int .i64) (.pair (.int .i64) (.pair (.sl (.flt .f32)) (.pair (.sl (.flt .f32)) (.sl (.flt .f32)))))))] [⟨false, .bool, y23⟩] []⟩, ⟨none, .no⟩] ⟨[(1, .one (.dat (.sl (.int .i64)) a1)), (9, .one (.all 2)), (53, .one (.dat .bool (!y23)))], [(6, .seq (.flt .f32) y21.2.2.1), (7, .seq (.flt .f32) y21.2.2.2.1), (8, .seq (.flt .f32) y21.2.2.2.2), (0, .box [.dat (.int .i64) a0.1, .dat (.int .i64) a0.2.1, .dat (.sl (.flt .f32)) a0.2.2.1, .dat (.sl (.flt .f32)) a0.2.2.2.1, .dat (.sl (.flt .f32)) a0.2.2.2.2]), (1, .box [.dat (.int .i64) y11.1, .dat (.int .i64) y11.2.1, .all 3, .all 4, .all 5]), (2, .seq (.int .i64) y13), (3, .seq (.flt .f32) y11.2.2.1), (4, .seq (.flt .f32) y11.2.2.2.1), (5, .seq (.flt .f32) y11.2.2.2.2)], 9⟩ hP hN (by kernel_rfl) (by kernel_rfl) (allCons (f21_ok hc22) (allCons (f24_ok hc24) allNil)) ?_
          rcases of_bif hr with ⟨hb25, hr⟩ | ⟨hb25, hr⟩
          · refine HT.cond1 rfl hb25 ?_
            refine HT.reg1 [4] [⟨none, .no⟩] ⟨[(4, .one (.dat .bool false))], [(6, .seq (.flt .f32) y21.2.2.1), (7, .seq (.flt .f32) y21.2.2.2.1), (8, .seq (.flt .f32) y21.2.2.2.2), (0, .box [.dat (.int .i64) a0.1, .dat (.int .i64) a0.2.1, .dat (.sl (.flt .f32)) a0.2.2.1, .dat (.sl (.flt .f32)) a0.2.2.2.1, .dat (.sl (.flt .f32)) a0.2.2.2.2]), (1, .box [.dat (.int .i64) y11.1, .dat (.int .i64) y11.2.1, .all 3, .all 4, .all 5]), (2, .seq (.int .i64) y13), (3, .seq (.flt .f32) y11.2.2.1), (4, .seq (.flt .f32) y11.2.2.2.1), (5, .seq (.flt .f32) y11.2.2.2.2)], 9⟩ hP hN (by kernel_rfl) allNil ?_
            have hr := of_some hr
            subst hr
            exact HT.ret (qThenR ⟨[.one (.dat .bool false)], [], [], by kernel_rfl, by kernel_rfl, rfl, (.inl rfl), by kernel_rfl, trivial⟩)
          · refine HT.cond0 rfl hb25 ?_
            refine HT.skip (qThen ?_)
            refine HT.seq ?_
            obtain ⟨y26, hc27, hr⟩ := of_bind hr
            obtain ⟨y28, hc29, hr⟩ := of_bind hr
            refine HT.reg1 [58] [⟨none, .no⟩, ⟨none, .no⟩, ⟨none, .call [.imm (.sl (.int .i64))] [⟨true, (.sl (.int .i64)), y26⟩] []⟩, ⟨none, .call [.imm (.sl (.int .i64)), .imm (.sl (.int .i64))] [⟨false, .bool, y28⟩] []⟩, ⟨none, .no⟩] ⟨[(58, .one (.dat .bool (!y28)))], [(9, .seq (.int .i64) y26), (6, .seq (.flt .f32) y21.2.2.1), (7, .seq (.flt .f32) y21.2.2.2.1), (8, .seq (.flt .f32) y21.2.2.2.2), (0, .box [.dat (.int .i64) a0.1, .dat (.int .i64) a0.2.1, .dat (.sl (.flt .f32)) a0.2.2.1, .dat (.sl (.flt .f32)) a0.2.2.2.1, .dat (.sl (.flt .f32)) a0.2.2.2.2]), (1, .box [.dat (.int .i64) y11.1, .dat (.int .i64) y11.2.1, .all 3, .all 4, .all 5]), (2, .seq (.int .i64) y13), (3, .seq (.flt .f32) y11.2.2.1), (4, .seq (.flt .f32) y11.2.2.2.1), (5, .seq (.flt .f32) y11.2.2.2.2)], 10⟩ hP hN (by kernel_rfl) (allCons (f22_ok hc27) (allCons (f25_ok hc29) allNil)) ?_
            rcases of_bif hr with ⟨hb30, hr⟩ | ⟨hb30, hr⟩
            · refine HT.cond1 rfl hb30 ?_
              refine HT.reg1 [4] [⟨none, .no⟩] ⟨[(4, .one (.dat .bool false))], [(9, .seq (.int .i64) y26), (6, .seq (.flt .f32) y21.2.2.1), (7, .seq (.flt .f32) y21.2.2.2.1), (8, .seq (.flt .f32) y21.2.2.2.2), (0, .box [.dat (.int .i64) a0.1, .dat (.int .i64) a0.2.1, .dat (.sl (.flt .f32)) a0.2.2.1, .dat (.sl (.flt .f32)) a0.2.2.2.1, .dat (.sl (.flt .f32)) a0.2.2.2.2]), (1, .box [.dat (.int .i64) y11.1, .dat (.int .i64) y11.2.1, .all 3, .all 4, .all 5]), (2, .seq (.int .i64) y13), (3, .seq (.flt .f32) y11.2.2.1), (4, .seq (.flt .f32) y11.2.2.2.1), (5, .seq (.flt .f32) y11.2.2.2.2)], 10⟩ hP hN (by kernel_rfl) allNil ?_
              have hr := of_some hr
              subst hr
              exact HT.ret (qThenR ⟨[.one (.dat .bool false)], [], [], by kernel_rfl, by kernel_rfl, rfl, (.inl rfl), by kernel_rfl, trivial⟩)
            · refine HT.cond0 rfl hb30 ?_
              refine HT.skip (qThen ?_)
              refine HT.reg1 [4] [⟨none, .no⟩] ⟨[(4, .one (.dat .bool true))], [(9, .seq (.int .i64) y26), (6, .seq (.flt .f32) y21.2.2.1), (7, .seq (.flt .f32) y21.2.2.2.1), (8, .seq (.flt .f32) y21.2.2.2.2), (0, .box [.dat (.int .i64) a0.1, .dat (.int .i64) a0.2.1, .dat (.sl (.flt .f32)) a0.2.2.1, .dat (.sl (.flt .f32)) a0.2.2.2.1, .dat (.sl (.flt .f32)) a0.2.2.2.2]), (1, .box [.dat (.int .i64) y11.1, .dat (.int .i64) y11.2.1, .all 3, .all 4, .all 5]), (2, .seq (.int .i64) y13), (3, .seq (.flt .f32) y11.2.2.1), (4, .seq (.flt .f32) y11.2.2.2.1), (5, .seq (.flt .f32) y11.2.2.2.2)], 10⟩ hP hN (by kernel_rfl) allNil ?_
              have hr := of_some hr
              subst hr
              exact HT.ret ⟨[.one (.dat .bool true)], [], [], by kernel_rfl, by kernel_rfl, rfl, (.inl rfl), by kernel_rfl, trivial⟩
      · obtain ⟨y31, hc32, hT19⟩ := of_bind hT19
        rcases of_bif hT19 with ⟨hb33, hT19⟩ | ⟨hb33, hT19⟩
        · refine HT.reg (rs := [⟨none, .no⟩, ⟨none, .no⟩, ⟨none, .no⟩, ⟨none, .no⟩, ⟨none, .call [.imm (.flt .f64), .imm (.flt .f64)] [⟨false, .bool, y31⟩] []⟩, ⟨none, .no⟩, ⟨none, .no⟩, ⟨some true, .no⟩, ⟨some true, .no⟩, ⟨some true, .no⟩, ⟨none, .tv true⟩]) (st' := ⟨[(48, .one (.dat .bool true)), (47, .und), (46, .und), (45, .und), (44, .one (.dat .bool (!y31))), (43, .one (.dat .bool (!y31))), (42, .one (.dat .bool y31)), (41, .one (.dat (.flt .f64) (fconv .f32 .f64 y9.1))), (40, .one (.dat (.flt .f32) y9.1)), (39, .one (.dat (.flt .f64) (fconv .f32 .f64 y15.1))), (38, .one (.dat (.flt .f32) y15.1)), (1, .one (.dat (.sl (.int .i64)) a1)), (2, .one (.ptr 0 0)), (6, .one (.dat (.flt .f32) y9.1)), (7, .one (.dat .bool y9.2)), (8, .one (.ptr 8 0)), (9, .one (.all 9)), (10, .one (.dat (.flt .f32) y15.1)), (11, .one (.dat .bool y15.2))], [(9, .seq (.int .i64) y13), (8, .box [.dat (.int .i64) y11.1, .dat (.int .i64) y11.2.1, .all 5, .all 6, .all 7]), (8, .box [.dat (.int .i64) (0 : Int), .dat (.int .i64) (0 : Int), .nilS, .nilS, .nilS]), (5, .seq (.flt .f32) y11.2.2.1), (6, .seq (.flt .f32) y11.2.2.2.1), (7, .seq (.flt .f32) y11.2.2.2.2), (4, .seq (.int .i64) y7), (1, .seq (.flt .f32) y5.2.2.1), (2, .seq (.flt .f32) y5.2.2.2.1), (3, .seq (.flt .f32) y5.2.2.2.2), (0, .box [.dat (.int .i64) a0.1, .dat (.int .i64) a0.2.1, .dat (.sl (.flt .f32)) a0.2.2.1, .dat (.sl (.flt .f32)) a0.2.2.2.1, .dat (.sl (.flt .f32)) a0.2.2.2.2])], 10⟩) hP hN (by kernel_rfl) (allCons (show fconvOK .f32 .f64 y15.1 = true from (fconv_up _)) (allCons (show fconvOK .f32 .f64 y9.1 = true from (fconv_up _)) (allCons (f17_ok hc32) (allCons hb33 (allCons hb33 (allCons hb33 (allCons hb33 allNil))))))) (qThen ?_)
          exact (Le.cv (s := ⟨[(0, 0), (8, 1), (9, 2), (5, 3), (6, 4), (7, 5)], [], [], false⟩) (own := []) (ps := [a1 = a1, true = true, a0.1 = a0.1, a0.2.1 = a0.2.1, a0.2.2.1 = a0.2.2.1, a0.2.2.2.1 = a0.2.2.2.1, a0.2.2.2.2 = a0.2.2.2.2, y11.1 = y11.1, y11.2.1 = y11.2.1, y13 = y13, y11.2.2.1 = y11.2.2.1, y11.2.2.2.1 = y11.2.2.2.1, y11.2.2.2.2 = y11.2.2.2.2]) (st' := ⟨[(1, .one (.dat (.sl (.int .i64)) a1)), (2, .one (.ptr 0 0)), (8, .one (.ptr 1 0)), (9, .one (.all 2)), (48, .one (.dat .bool true))], [(0, .box [.dat (.int .i64) a0.1, .dat (.int .i64) a0.2.1, .dat (.sl (.flt .f32)) a0.2.2.1, .dat (.sl (.flt .f32)) a0.2.2.2.1, .dat (.sl (.flt .f32)) a0.2.2.2.2]), (1, .box [.dat (.int .i64) y11.1, .dat (.int .i64) y11.2.1, .all 3, .all 4, .all 5]), (2, .seq (.int .i64) y13), (3, .seq (.flt .f32) y11.2.2.1), (4, .seq (.flt .f32) y11.2.2.2.1), (5, .seq (.flt .f32) y11.2.2.2.2)], 6⟩) hO (fun h => by cases h) (by kernel_rfl) ⟨rfl, rfl, rfl, rfl, rfl, rfl, rfl, rfl, rfl, rfl, rfl, rfl, rfl, trivial⟩).ht (cont true (of_some hT19))
        · refine HT.reg (rs := [⟨none, .no⟩, ⟨none, .no⟩, ⟨none, .no⟩, ⟨none, .no⟩, ⟨none, .call [.imm (.flt .f64), .imm (.flt .f64)] [⟨false, .bool, y31⟩] []⟩, ⟨none, .no⟩, ⟨none, .no⟩, ⟨some false, .no⟩, ⟨some false, .no⟩, ⟨some false, .no⟩, ⟨none, .tv false⟩]) (st' := ⟨[(48, .one (.dat .bool (y15.2 != y9.2))), (47, .one (.dat .bool (y15.2 != y9.2))), (46, .one (.dat .bool y9.2)), (45, .one (.dat .bool y15.2)), (44, .one (.dat .bool (!y31))), (43, .one (.dat .bool (!y31))), (42, .one (.dat .bool y31)), (41, .one (.dat (.flt .f64) (fconv .f32 .f64 y9.1))), (40, .one (.dat (.flt .f32) y9.1)), (39, .one (.dat (.flt .f64) (fconv .f32 .f64 y15.1))), (38, .one (.dat (.flt .f32) y15.1)), (1, .one (.dat (.sl (.int .i64)) a1)), (2, .one (.ptr 0 0)), (6, .one (.dat (.flt .f32) y9.1)), (7, .one (.dat .bool y9.2)), (8, .one (.ptr 8 0)), (9, .one (.all 9)), (10, .one (.dat (.flt .f32) y15.1)), (11, .one (.dat .bool y15.2))], [(9, .seq (.int .i64) y13), (8, .box [.dat (.int .i64) y11.1, .dat (.int .i64) y11.2.1, .all 5, .all 6, .all 7]), (8, .box [.dat (.int .i64) (0 : Int), .dat (.int .i64) (0 : Int), .nilS, .nilS, .nilS]), (5, .seq (.flt .f32) y11.2.2.1), (6, .seq (.flt .f32) y11.2.2.2.1), (7, .seq (.flt .f32) y11.2.2.2.2), (4, .seq (.int .i64) y7), (1, .seq (.flt .f32) y5.2.2.1), (2, .seq (.flt .f32) y5.2.2.2.1), (3, .seq (.flt .f32) y5.2.2.2.2), (0, .box [.dat (.int .i64) a0.1, .dat (.int .i64) a0.2.1, .dat (.sl (.flt .f32)) a0.2.2.1, .dat (.sl (.flt .f32)) a0.2.2.2.1, .dat (.sl (.flt .f32)) a0.2.2.2.2])], 10⟩) hP hN (by kernel_rfl) (allCons (show fconvOK .f32 .f64 y15.1 = true from (fconv_up _)) (allCons (show fconvOK .f32 .f64 y9.1 = true from (fconv_up _)) (allCons (f17_ok hc32) (allCons hb33 (allCons hb33 (allCons hb33 (allCons hb33 allNil))))))) (qThen ?_)
          exact (Le.cv (s := ⟨[(0, 0), (8, 1), (9, 2), (5, 3), (6, 4), (7, 5)], [], [], false⟩) (own := []) (ps := [a1 = a1, (y15.2 != y9.2) = (y15.2 != y9.2), a0.1 = a0.1, a0.2.1 = a0.2.1, a0.2.2.1 = a0.2.2.1, a0.2.2.2.1 = a0.2.2.2.1, a0.2.2.2.2 = a0.2.2.2.2, y11.1 = y11.1, y11.2.1 = y11.2.1, y13 = y13, y11.2.2.1 = y11.2.2.1, y11.2.2.2.1 = y11.2.2.2.1, y11.2.2.2.2 = y11.2.2.2.2]) (st' := ⟨[(1, .one (.dat (.sl (.int .i64)) a1)), (2, .one (.ptr 0 0)), (8, .one (.ptr 1 0)), (9, .one (.all 2)), (48, .one (.dat .bool (y15.2 != y9.2)))], [(0, .box [.dat (.int .i64) a0.1, .dat (.int .i64) a0.2.1, .dat (.sl (.flt .f32)) a0.2.2.1, .dat (.sl (.flt .f32)) a0.2.2.2.1, .dat (.sl (.flt .f32)) a0.2.2.2.2]), (1, .box [.dat (.int .i64) y11.1, .dat (.int .i64) y11.2.1, .all 3, .all 4, .all 5]), (2, .seq (.int .i64) y13), (3, .seq (.flt .f32) y11.2.2.1), (4, .seq (.flt .f32) y11.2.2.2.1), (5, .seq (.flt .f32) y11.2.2.2.2)], 6⟩) hO (fun h => by cases h) (by kernel_rfl) ⟨rfl, rfl, rfl, rfl, rfl, rfl, rfl, rfl, rfl, rfl, rfl, rfl, rfl, trivial⟩).ht (cont (y15.2 != y9.2) (of_some hT19))

noncomputable def spec_l03States_B1 (a0 : Int × Int × List Nat × List Nat × List Nat) (a2 : List Int) (s1 : Int) : Option ((Int) ⊕ (Unit ⊕ Unit)) :=
  bif (decide (s1 < (lenI a2))) then
    guardP ((0 : Int) ≤ s1 ∧ s1 < lenI a2) (
      (spec_l00In (List.getD a2 (Int.toNat s1) (0 : Int)) (0 : Int) (wsub .i64 a0.1 (1 : Int))).bind fun y10 =>
      bif (!y10) then
        some (.inr (.inr ()))
      else
        some (.inl (wadd .i64 s1 (1 : Int))))
  else
    some (.inr (.inl ()))

noncomputable def spec_l03States (a0 : Int × Int × List Nat × List Nat × List Nat) (a1 : List Int) (a2 : List Int) : Option (Bool) :=
  (rounds (spec_l03States_B1 a0 a2) (0 : Int)).bind fun r2 => match r2 with
    | .inl r3 =>
      some ((lenI a2) == (wadd .i64 (lenI a1) (1 : Int)))
    | .inr r4 =>
      some false

theorem f74_ok {a0 : Int × Int × List Nat × List Nat × List Nat} {a1 : List Int} {a2 : List Int} {r : Bool} (hr : spec_l03States a0 a1 a2 = some r) : CallOK Try.prog 74 [.pimm (.st (.pair (.int .i64) (.pair (.int .i64) (.pair (.sl (.flt .f32)) (.pair (.sl (.flt .f32)) (.sl (.flt .f32))))))) a0, .imm (.sl (.int .i64)) a1, .imm (.sl (.int .i64)) a2] [⟨false, .bool, r⟩] [] := by
  unfold spec_l03States at hr
  refine CallOK.of_body (ts := [(false, .bool)]) Try.func74 rfl (by kernel_rfl) (Nat.le_of_ble_eq_true (by kernel_rfl)) fun cx hP hN hO hF => ?_
  have hO : cx.own.map Prod.fst = [] := hO
  have hF : cx.F = [] := hF rfl
  show HT cx ⟨[(0, .one (.ip (.st (.pair (.int .i64) (.pair (.int .i64) (.pair (.sl (.flt .f32)) (.pair (.sl (.flt .f32)) (.sl (.flt .f32))))))) a0 0)), (1, .one (.dat (.sl (.int .i64)) a1)), (2, .one (.dat (.sl (.int .i64)) a2))], [], 0⟩ _ _
  refine HT.reg1 [0, 1, 2] [⟨none, .no⟩] ⟨[(0, .one (.ip (.st (.pair (.int .i64) (.pair (.int .i64) (.pair (.sl (.flt .f32)) (.pair (.sl (.flt .f32)) (.sl (.flt .f32))))))) a0 0)), (1, .one (.dat (.sl (.int .i64)) a1)), (2, .one (.dat (.sl (.int .i64)) a2))], [], 0⟩ hP hN (by kernel_rfl) allNil ?_
  refine HT.seq ?_
  refine HT.reg1 [0, 1, 2, 9, 10] [⟨none, .no⟩, ⟨none, .no⟩, ⟨none, .no⟩] ⟨[(0, .one (.ip (.st (.pair (.int .i64) (.pair (.int .i64) (.pair (.sl (.flt .f32)) (.pair (.sl (.flt .f32)) (.sl (.flt .f32))))))) a0 0)), (1, .one (.dat (.sl (.int .i64)) a1)), (2, .one (.dat (.sl (.int .i64)) a2)), (9, .one (.dat (.int .i64) (lenI a2))), (10, .one (.dat (.int .i64) (0 : Int)))], [], 0⟩ hP hN (by kernel_rfl) allNil ?_
  refine HT.block ?_
  obtain ⟨r2, hL13, hr⟩ := of_bind hr
  refine (Le.cv (s := ⟨[], [], [], false⟩) (own := []) (ps := [a0 = a0, a1 = a1, a2 = a2, (lenI a2) = (lenI a2), (0 : Int) = (0 : Int)]) (st' := ⟨[(0, .one (.ip (.st (.pair (.int .i64) (.pair (.int .i64) (.pair (.sl (.flt .f32)) (.pair (.sl (.flt .f32)) (.sl (.flt .f32))))))) a0 0)), (1, .one (.dat (.sl (.int .i64)) a1)), (2, .one (.dat (.sl (.int .i64)) a2)), (9, .one (.dat (.int .i64) (lenI a2))), (10, .one (.dat (.int .i64) (0 : Int)))], [], 0⟩) hO (fun h => by cases h) (by kernel_rfl) ⟨rfl, rfl, rfl, rfl, rfl, trivial⟩).ht ?_
  refine HT.loopE (s := (0 : Int)) (fun (s1 : Int) => ⟨[(0, .one (.ip (.st (.pair (.int .i64) (.pair (.int .i64) (.pair (.sl (.flt .f32)) (.pair (.sl (.flt .f32)) (.sl (.flt .f32))))))) a0 0)), (1, .one (.dat (.sl (.int .i64)) a1)), (2, .one (.dat (.sl (.int .i64)) a2)), (9, .one (.dat (.int .i64) (lenI a2))), (10, .one (.dat (.int .i64) s1))], [], 0⟩) (fun (r2 : Unit ⊕ Unit) => match r2 with | .inl r3 => (.exit 0, ⟨[(1, .one (.dat (.sl (.int .i64)) a1)), (2, .one (.dat (.sl (.int .i64)) a2))], [], 0⟩) | .inr r4 => (.ret, ⟨[(6, .one (.dat .bool false))], [], 0⟩)) hL13 ?_ (fun s1 x5 hx6 hk7 => ?_)
  · rcases r2 with r3 | r4
    · refine (qBlockX (qThen ?_))
      refine HT.reg1 [6] [⟨none, .no⟩, ⟨none, .no⟩, ⟨none, .no⟩, ⟨none, .no⟩, ⟨none, .no⟩, ⟨none, .no⟩, ⟨none, .no⟩] ⟨[(6, .one (.dat .bool ((lenI a2) == (wadd .i64 (lenI a1) (1 : Int)))))], [], 0⟩ hP hN (by kernel_rfl) allNil ?_
      have hr := of_some hr
      subst hr
      exact HT.ret ⟨[.one (.dat .bool ((lenI a2) == (wadd .i64 (lenI a1) (1 : Int))))], [], [], by kernel_rfl, by kernel_rfl, rfl, (.inl rfl), by kernel_rfl, trivial⟩
    · have hr := of_some hr
      subst hr
      exact (qBlockR (qThenR ⟨[.one (.dat .bool false)], [], [], by kernel_rfl, by kernel_rfl, rfl, (.inl rfl), by kernel_rfl, trivial⟩))
  · refine HT.reg1 [0, 1, 2, 9, 10, 11] [⟨none, .no⟩] ⟨[(0, .one (.ip (.st (.pair (.int .i64) (.pair (.int .i64) (.pair (.sl (.flt .f32)) (.pair (.sl (.flt .f32)) (.sl (.flt .f32))))))) a0 0)), (1, .one (.dat (.sl (.int .i64)) a1)), (2, .one (.dat (.sl (.int .i64)) a2)), (9, .one (.dat (.int .i64) (lenI a2))), (10, .one (.dat (.int .i64) s1)), (11, .one (.dat .bool (decide (s1 < (lenI a2)))))], [], 0⟩ hP hN (by kernel_rfl) allNil ?_
    refine HT.seq ?_
    rcases of_bif hx6 with ⟨hb8, hx6⟩ | ⟨hb8, hx6⟩
    · refine HT.cond1 rfl hb8 ?_
      refine HT.skip (qThen ?_)
      refine HT.seq ?_
      refine HT.block ?_
      refine HT.reg1 [0, 1, 2, 7, 9, 10] [⟨none, .no⟩, ⟨none, .no⟩] ⟨[(0, .one (.ip (.st (.pair (.int .i64) (.pair (.int .i64) (.pair (.sl (.flt .f32)) (.pair (.sl (.flt .f32)) (.sl (.flt .f32))))))) a0 0)), (1, .one (.dat (.sl (.int .i64)) a1)), (2, .one (.dat (.sl (.int .i64)) a2)), (7, .one (.dat (.int .i64) s1)), (9, .one (.dat (.int .i64) (lenI a2))), (10, .one (.dat (.int .i64) s1))], [], 0⟩ hP hN (by kernel_rfl) allNil ?_
      obtain ⟨hg9, hx6⟩ := of_guard hx6
      obtain ⟨y10, hc11, hx6⟩ := of_bind hx6
      refine HT.drw1 [0, 1, 2, 9, 10, 23] 9 [⟨⟨none, .no⟩, []⟩, ⟨⟨none, .no⟩, []⟩, ⟨⟨none, .no⟩, [0, 1]⟩, ⟨⟨none, .no⟩, [0, 1, 2]⟩, ⟨⟨none, .no⟩, []⟩, ⟨⟨none, .no⟩, [4]⟩, ⟨⟨none, .no⟩, [4, 5]⟩, ⟨⟨none, .no⟩, [4, 5, 6]⟩, ⟨⟨none, .no⟩, [4, 5, 6, 7]⟩] [[0, 1, 2, 3, 4, 5, 6, 7, 8], [0, 1, 2, 3, 4, 5, 6, 7, 8, 9]] [⟨none, .call [.imm (.int .i64), .imm (.int .i64), .imm (.int .i64)] [⟨false, .bool, y10⟩] []⟩, ⟨none, .no⟩] ⟨[(0, .one (.ip (.st (.pair (.int .i64) (.pair (.int .i64) (.pair (.sl (.flt .f32)) (.pair (.sl (.flt .f32)) (.sl (.flt .f32))))))) a0 0)), (1, .one (.dat (.sl (.int .i64)) a1)), (2, .one (.dat (.sl (.int .i64)) a2)), (9, .one (.dat (.int .i64) (lenI a2))), (10, .one (.dat (.int .i64) s1)), (23, .one (.dat .bool (!y10)))], [], 0⟩ hP hN (by kernel_rfl) (by kernel_rfl) (allCons hg9 (allCons (f80_ok hc11) allNil)) ?_
      rcases of_bif hx6 with ⟨hb12, hx6⟩ | ⟨hb12, hx6⟩
      · refine HT.cond1 rfl hb12 ?_
        refine HT.reg1 [6] [⟨none, .no⟩] ⟨[(6, .one (.dat .bool false))], [], 0⟩ hP hN (by kernel_rfl) allNil ?_
        have hx6 := of_some hx6
        subst hx6
        refine (Le.cv (s := ⟨[], [], [], false⟩) (own := []) (ps := [false = false]) (st' := ⟨[(6, .one (.dat .bool false))], [], 0⟩) hO (fun h => by cases h) (by kernel_rfl) ⟨rfl, trivial⟩).ht ?_
        exact HT.ret (qBlockR (qThenR (qLoopR (hk7 (.inr ()) rfl))))
      · refine HT.cond0 rfl hb12 ?_
        refine HT.skip (qBlock (qThen ?_))
        have hx6 := of_some hx6
        subst hx6
        refine HT.reg (rs := [⟨none, .no⟩, ⟨none, .no⟩]) (st' := ⟨[(10, .one (.dat (.int .i64) (wadd .i64 s1 (1 : Int)))), (24, .one (.dat (.int .i64) (wadd .i64 s1 (1 : Int)))), (0, .one (.ip (.st (.pair (.int .i64) (.pair (.int .i64) (.pair (.sl (.flt .f32)) (.pair (.sl (.flt .f32)) (.sl (.flt .f32))))))) a0 0)), (1, .one (.dat (.sl (.int .i64)) a1)), (2, .one (.dat (.sl (.int .i64)) a2)), (9, .one (.dat (.int .i64) (lenI a2))), (10, .one (.dat (.int .i64) s1)), (23, .one (.dat .bool (!y10)))], [], 0⟩) hP hN (by kernel_rfl) allNil (qLoopN ⟨(wadd .i64 s1 (1 : Int)), rfl, Le.cv (s := ⟨[], [], [], false⟩) (own := []) (ps := [a0 = a0, a1 = a1, a2 = a2, (lenI a2) = (lenI a2), (wadd .i64 s1 (1 : Int)) = (wadd .i64 s1 (1 : Int))]) (st' := ⟨[(0, .one (.ip (.st (.pair (.int .i64) (.pair (.int .i64) (.pair (.sl (.flt .f32)) (.pair (.sl (.flt .f32)) (.sl (.flt .f32))))))) a0 0)), (1, .one (.dat (.sl (.int .i64)) a1)), (2, .one (.dat (.sl (.int .i64)) a2)), (9, .one (.dat (.int .i64) (lenI a2))), (10, .one (.dat (.int .i64) (wadd .i64 s1 (1 : Int))))], [], 0⟩) hO (fun h => by cases h) (by kernel_rfl) ⟨rfl, rfl, rfl, rfl, rfl, trivial⟩⟩)
    · refine HT.cond0 rfl hb8 ?_
      have hx6 := of_some hx6
      subst hx6
      refine (Le.cv (s := ⟨[], [], [], false⟩) (own := []) (ps := [a1 = a1, a2 = a2]) (st' := ⟨[(1, .one (.dat (.sl (.int .i64)) a1)), (2, .one (.dat (.sl (.int .i64)) a2))], [], 0⟩) hO (fun h => by cases h) (by kernel_rfl) ⟨rfl, rfl, trivial⟩).ht ?_
      exact HT.exit (qThenE (qLoopE (hk7 (.inl ()) rfl)))

noncomputable def spec_HiddenChance_B1 (a0 : Int × Int × List Nat × List Nat × List Nat) (a1 : List Int) (a2 : List Int) (s7 : Nat × Int) : Option ((Nat × Int) ⊕ (Nat)) :=
  bif (decide (s7.2 < (lenI a1))) then
    guardP ((0 : Int) ≤ s7.2 ∧ s7.2 < lenI a2) (
      guardP ((0 : Int) ≤ s7.2 ∧ s7.2 < lenI a1) (
        guardP ((0 : Int) ≤ (wadd .i64 (wmul .i64 (List.getD a2 (Int.toNat s7.2) (0 : Int)) a0.2.1) (List.getD a1 (Int.toNat s7.2) (0 : Int))) ∧ (wadd .i64 (wmul .i64 (List.getD a2 (Int.toNat s7.2) (0 : Int)) a0.2.1) (List.getD a1 (Int.toNat s7.2) (0 : Int))) < lenI a0.2.2.2.2) (
          (some (fop .mul .f32 s7.1 (List.getD a0.2.2.2.2 (Int.toNat (wadd .i64 (wmul .i64 (List.getD a2 (Int.toNat s7.2) (0 : Int)) a0.2.1) (List.getD a1 (Int.toNat s7.2) (0 : Int)))) (0 : Nat)))).bind fun q17 =>
          guardP ((0 : Int) ≤ (wadd .i64 s7.2 (1 : Int)) ∧ (wadd .i64 s7.2 (1 : Int)) < lenI a2) (
            guardP ((0 : Int) ≤ (wadd .i64 (wmul .i64 (List.getD a2 (Int.toNat s7.2) (0 : Int)) a0.1) (List.getD a2 (Int.toNat (wadd .i64 s7.2 (1 : Int))) (0 : Int))) ∧ (wadd .i64 (wmul .i64 (List.getD a2 (Int.toNat s7.2) (0 : Int)) a0.1) (List.getD a2 (Int.toNat (wadd .i64 s7.2 (1 : Int))) (0 : Int))) < lenI a0.2.2.2.1) (
              some (.inl ((fop .mul .f32 q17 (List.getD a0.2.2.2.1 (Int.toNat (wadd .i64 (wmul .i64 (List.getD a2 (Int.toNat s7.2) (0 : Int)) a0.1) (List.getD a2 (Int.toNat (wadd .i64 s7.2 (1 : Int))) (0 : Int)))) (0 : Nat))), (wadd .i64 s7.2 (1 : Int)))))))))
  else
    some (.inr s7.1)

noncomputable def spec_HiddenChance (a0 : Int × Int × List Nat × List Nat × List Nat) (a1 : List Int) (a2 : List Int) : Option (Nat × Bool) :=
  (show Option (Bool) from
    (spec_l03Word (a0.1, a0.2.1, a0.2.2.1, a0.2.2.2.1, a0.2.2.2.2) a1).bind fun y22 =>
    bif (!y22) then
      some true
    else
      (spec_l03States (a0.1, a0.2.1, a0.2.2.1, a0.2.2.2.1, a0.2.2.2.2) a1 a2).bind fun y25 =>
      some (!y25)).bind fun v1 =>
  bif v1 then
    some ((0 : Nat), false)
  else
    guardP ((0 : Int) ≤ (0 : Int) ∧ (0 : Int) < lenI a2) (
      guardP ((0 : Int) ≤ (List.getD a2 (Int.toNat (0 : Int)) (0 : Int)) ∧ (List.getD a2 (Int.toNat (0 : Int)) (0 : Int)) < lenI a0.2.2.1) (
        (rounds (spec_HiddenChance_B1 a0 a1 a2) ((List.getD a0.2.2.1 (Int.toNat (List.getD a2 (Int.toNat (0 : Int)) (0 : Int))) (0 : Nat)), (0 : Int))).bind fun r9 =>
        some (r9, true)))

theorem f20_ok {a0 : Int × Int × List Nat × List Nat × List Nat} {a1 : List Int} {a2 : List Int} {r : Nat × Bool} (hr : spec_HiddenChance a0 a1 a2 = some r) : CallOK Try.prog 20 [.imm (.st (.pair (.int .i64) (.pair (.int .i64) (.pair (.sl (.flt .f32)) (.pair (.sl (.flt .f32)) (.sl (.flt .f32))))))) a0, .imm (.sl (.int .i64)) a1, .imm (.sl (.int .i64)) a2] [⟨false, (.flt .f32), r.1⟩, ⟨false, .bool, r.2⟩] [] := by
  unfold spec_HiddenChance at hr
  refine CallOK.of_body (ts := [(false, (.flt .f32)), (false, .bool)]) Try.func20 rfl (by kernel_rfl) (Nat.le_of_ble_eq_true (by kernel_rfl)) fun cx hP hN hO hF => ?_
  have hO : cx.own.map Prod.fst = [] := hO
  have hF : cx.F = [] := hF rfl
  show HT cx ⟨[(0, .agg [.dat (.int .i64) a0.1, .dat (.int .i64) a0.2.1, .dat (.sl (.flt .f32)) a0.2.2.1, .dat (.sl (.flt .f32)) a0.2.2.2.1, .dat (.sl (.flt .f32)) a0.2.2.2.2]), (1, .one (.dat (.sl (.int .i64)) a1)), (2, .one (.dat (.sl (.int .i64)) a2))], [], 0⟩ _ _
  refine HT.reg1 [1, 2, 3] [⟨none, .no⟩, ⟨none, .no⟩, ⟨none, .no⟩] ⟨[(1, .one (.dat (.sl (.int .i64)) a1)), (2, .one (.dat (.sl (.int .i64)) a2)), (3, .one (.ptr 0 0))], [(0, .box [.dat (.int .i64) a0.1, .dat (.int .i64) a0.2.1, .dat (.sl (.flt .f32)) a0.2.2.1, .dat (.sl (.flt .f32)) a0.2.2.2.1, .dat (.sl (.flt .f32)) a0.2.2.2.2])], 1⟩ hP hN (by kernel_rfl) allNil ?_
  refine HT.seq ?_
  obtain ⟨v1', hT3, hr⟩ := of_bind hr
  refine HT.join (fun (v1 : Bool) => ⟨[(1, .one (.dat (.sl (.int .i64)) a1)), (2, .one (.dat (.sl (.int .i64)) a2)), (3, .one (.ptr 0 0)), (18, .one (.dat .bool v1))], [(0, .box [.dat (.int .i64) a0.1, .dat (.int .i64) a0.2.1, .dat (.sl (.flt .f32)) a0.2.2.1, .dat (.sl (.flt .f32)) a0.2.2.2.1, .dat (.sl (.flt .f32)) a0.2.2.2.2])], 1⟩) (fun v => v = v1') (fun v1 hv2 => ?_) (fun cont => ?_)
  · subst hv2
    rcases of_bif hr with ⟨hb4, hr⟩ | ⟨hb4, hr⟩
    · refine HT.cond1 rfl hb4 ?_
      refine HT.reg1 [6, 7] [⟨none, .no⟩, ⟨none, .no⟩] ⟨[(6, .one (.dat (.flt .f32) (0 : Nat))), (7, .one (.dat .bool false))], [(0, .box [.dat (.int .i64) a0.1, .dat (.int .i64) a0.2.1, .dat (.sl (.flt .f32)) a0.2.2.1, .dat (.sl (.flt .f32)) a0.2.2.2.1, .dat (.sl (.flt .f32)) a0.2.2.2.2])], 1⟩ hP hN (by kernel_rfl) allNil ?_
      have hr := of_some hr
      subst hr
      exact HT.ret (qThenR ⟨[.one (.dat (.flt .f32) (0 : Nat)), .one (.dat .bool false)], [], [], by kernel_rfl, by kernel_rfl, rfl, (.inl rfl), by kernel_rfl, trivial⟩)
    · refine HT.cond0 rfl hb4 ?_
      refine HT.skip (qThen ?_)
      obtain ⟨hg5, hr⟩ := of_guard hr
      obtain ⟨hg6, hr⟩ := of_guard hr
      refine HT.drw1 [1, 2, 3, 8] 5 [⟨⟨none, .no⟩, []⟩, ⟨⟨none, .no⟩, [0]⟩, ⟨⟨none, .no⟩, []⟩, ⟨⟨none, .no⟩, [2]⟩, ⟨⟨none, .no⟩, [2, 3]⟩] [[0, 1, 2, 3, 4], [0, 1, 2, 3, 4, 5], [0, 1, 2, 3, 4, 5, 6]] [⟨none, .no⟩, ⟨none, .no⟩, ⟨none, .no⟩] ⟨[(1, .one (.dat (.sl (.int .i64)) a1)), (2, .one (.dat (.sl (.int .i64)) a2)), (3, .one (.ptr 0 0)), (8, .one (.dat (.flt .f32) (List.getD a0.2.2.1 (Int.toNat (List.getD a2 (Int.toNat (0 : Int)) (0 : Int))) (0 : Nat))))], [(0, .box [.dat (.int .i64) a0.1, .dat (.int .i64) a0.2.1, .dat (.sl (.flt .f32)) a0.2.2.1, .dat (.sl (.flt .f32)) a0.2.2.2.1, .dat (.sl (.flt .f32)) a0.2.2.2.2])], 1⟩ hP hN (by kernel_rfl) (by kernel_rfl) (allCons hg5 (allCons hg6 allNil)) ?_
      refine HT.seq ?_
      refine HT.reg1 [1, 2, 3, 8, 27, 28] [⟨none, .no⟩, ⟨none, .no⟩, ⟨none, .no⟩] ⟨[(1, .one (.dat (.sl (.int .i64)) a1)), (2, .one (.dat (.sl (.int .i64)) a2)), (3, .one (.ptr 0 0)), (8, .one (.dat (.flt .f32) (List.getD a0.2.2.1 (Int.toNat (List.getD a2 (Int.toNat (0 : Int)) (0 : Int))) (0 : Nat)))), (27, .one (.dat (.int .i64) (lenI a1))), (28, .one (.dat (.int .i64) (0 : Int)))], [(0, .box [.dat (.int .i64) a0.1, .dat (.int .i64) a0.2.1, .dat (.sl (.flt .f32)) a0.2.2.1, .dat (.sl (.flt .f32)) a0.2.2.2.1, .dat (.sl (.flt .f32)) a0.2.2.2.2])], 1⟩ hP hN (by kernel_rfl) allNil ?_
      refine HT.block ?_
      obtain ⟨r8, hL21, hr⟩ := of_bind hr
      refine (Le.cv (s := ⟨[(0, 0)], [], [], false⟩) (own := []) (ps := [a1 = a1, a2 = a2, (List.getD a0.2.2.1 (Int.toNat (List.getD a2 (Int.toNat (0 : Int)) (0 : Int))) (0 : Nat)) = (List.getD a0.2.2.1 (Int.toNat (List.getD a2 (Int.toNat (0 : Int)) (0 : Int))) (0 : Nat)), (lenI a1) = (lenI a1), (0 : Int) = (0 : Int), a0.1 = a0.1, a0.2.1 = a0.2.1, a0.2.2.1 = a0.2.2.1, a0.2.2.2.1 = a0.2.2.2.1, a0.2.2.2.2 = a0.2.2.2.2]) (st' := ⟨[(1, .one (.dat (.sl (.int .i64)) a1)), (2, .one (.dat (.sl (.int .i64)) a2)), (3, .one (.ptr 0 0)), (8, .one (.dat (.flt .f32) (List.getD a0.2.2.1 (Int.toNat (List.getD a2 (Int.toNat (0 : Int)) (0 : Int))) (0 : Nat)))), (27, .one (.dat (.int .i64) (lenI a1))), (28, .one (.dat (.int .i64) (0 : Int)))], [(0, .box [.dat (.int .i64) a0.1, .dat (.int .i64) a0.2.1, .dat (.sl (.flt .f32)) a0.2.2.1, .dat (.sl (.flt .f32)) a0.2.2.2.1, .dat (.sl (.flt .f32)) a0.2.2.2.2])], 1⟩) hO (fun h => by cases h) (by kernel_rfl) ⟨rfl, rfl, rfl, rfl, rfl, rfl, rfl, rfl, rfl, rfl, trivial⟩).ht ?_
      refine HT.loopE (s := ((List.getD a0.2.2.1 (Int.toNat (List.getD a2 (Int.toNat (0 : Int)) (0 : Int))) (0 : Nat)), (0 : Int))) (fun (s7 : Nat × Int) => ⟨[(1, .one (.dat (.sl (.int .i64)) a1)), (2, .one (.dat (.sl (.int .i64)) a2)), (3, .one (.ptr 0 0)), (8, .one (.dat (.flt .f32) s7.1)), (27, .one (.dat (.int .i64) (lenI a1))), (28, .one (.dat (.int .i64) s7.2))], [(0, .box [.dat (.int .i64) a0.1, .dat (.int .i64) a0.2.1, .dat (.sl (.flt .f32)) a0.2.2.1, .dat (.sl (.flt .f32)) a0.2.2.2.1, .dat (.sl (.flt .f32)) a0.2.2.2.2])], 1⟩) (fun (r9 : Nat) => (.exit 0, ⟨[(8, .one (.dat (.flt .f32) r9))], [], 0⟩)) hL21 ?_ (fun s7 x10 hx11 hk12 => ?_)
      · refine (qBlockX (qThen ?_))
        refine HT.reg1 [6, 7] [⟨none, .no⟩, ⟨none, .no⟩, ⟨none, .no⟩] ⟨[(6, .one (.dat (.flt .f32) r8)), (7, .one (.dat .bool true))], [], 0⟩ hP hN (by kernel_rfl) allNil ?_
        have hr := of_some hr
        subst hr
        exact HT.ret ⟨[.one (.dat (.flt .f32) r8), .one (.dat .bool true)], [], [], by kernel_rfl, by kernel_rfl, rfl, (.inl rfl), by kernel_rfl, trivial⟩
      · refine HT.reg1 [1, 2, 3, 8, 27, 28, 29] [⟨none, .no⟩] ⟨[(1, .one (.dat (.sl (.int .i64)) a1)), (2, .one (.dat (.sl (.int .i64)) a2)), (3, .one (.ptr 0 0)), (8, .one (.dat (.flt .f32) s7.1)), (27, .one (.dat (.int .i64) (lenI a1))), (28, .one (.dat (.int .i64) s7.2)), (29, .one (.dat .bool (decide (s7.2 < (lenI a1)))))], [(0, .box [.dat (.int .i64) a0.1, .dat (.int .i64) a0.2.1, .dat (.sl (.flt .f32)) a0.2.2.1, .dat (.sl (.flt .f32)) a0.2.2.2.1, .dat (.sl (.flt .f32)) a0.2.2.2.2])], 1⟩ hP hN (by kernel_rfl) allNil ?_
        refine HT.seq ?_
        rcases of_bif hx11 with ⟨hb13, hx11⟩ | ⟨hb13, hx11⟩
        · refine HT.cond1 rfl hb13 ?_
          refine HT.skip (qThen ?_)
          refine HT.seq ?_
          refine HT.block ?_
          refine HT.reg1 [1, 2, 3, 8, 9, 27, 28] [⟨none, .no⟩, ⟨none, .no⟩] ⟨[(1, .one (.dat (.sl (.int .i64)) a1)), (2, .one (.dat (.sl (.int .i64)) a2)), (3, .one (.ptr 0 0)), (8, .one (.dat (.flt .f32) s7.1)), (9, .one (.dat (.int .i64) s7.2)), (27, .one (.dat (.int .i64) (lenI a1))), (28, .one (.dat (.int .i64) s7.2))], [(0, .box [.dat (.int .i64) a0.1, .dat (.int .i64) a0.2.1, .dat (.sl (.flt .f32)) a0.2.2.1, .dat (.sl (.flt .f32)) a0.2.2.2.1, .dat (.sl (.flt .f32)) a0.2.2.2.2])], 1⟩ hP hN (by kernel_rfl) allNil ?_
          obtain ⟨hg14, hx11⟩ := of_guard hx11
          obtain ⟨hg15, hx11⟩ := of_guard hx11
          obtain ⟨hg16, hx11⟩ := of_guard hx11
          refine HT.drw1 [1, 2, 3, 8, 9, 27, 28] 17 [⟨⟨none, .no⟩, []⟩, ⟨⟨none, .no⟩, []⟩, ⟨⟨none, .no⟩, [1]⟩, ⟨⟨none, .no⟩, []⟩, ⟨⟨none, .no⟩, []⟩, ⟨⟨none, .no⟩, [3, 4]⟩, ⟨⟨none, .no⟩, [3, 4, 5]⟩, ⟨⟨none, .no⟩, []⟩, ⟨⟨none, .no⟩, [7]⟩, ⟨⟨none, .no⟩, [3, 4, 5, 6, 7, 8]⟩, ⟨⟨none, .no⟩, []⟩, ⟨⟨none, .no⟩, []⟩, ⟨⟨none, .no⟩, [10, 11]⟩, ⟨⟨none, .no⟩, [10, 11, 12]⟩, ⟨⟨none, .no⟩, [3, 4, 5, 6, 7, 8, 9, 10, 11, 12, 13]⟩, ⟨⟨none, .no⟩, [1, 2, 3, 4, 5, 6, 7, 8, 9, 10, 11, 12, 13, 14]⟩, ⟨⟨none, .no⟩, [1, 2, 3, 4, 5, 6, 7, 8, 9, 10, 11, 12, 13, 14, 15]⟩] [[0, 1, 2, 3, 4, 5, 6, 7, 8, 9, 10, 11, 12, 13, 14, 15, 16], [0, 1, 2, 3, 4, 5, 6, 7, 8, 9, 10, 11, 12, 13, 14, 15, 16, 17]] [⟨none, .no⟩, ⟨none, .no⟩] ⟨[(1, .one (.dat (.sl (.int .i64)) a1)), (2, .one (.dat (.sl (.int .i64)) a2)), (3, .one (.ptr 0 0)), (8, .one (.dat (.flt .f32) (fop .mul .f32 s7.1 (List.getD a0.2.2.2.2 (Int.toNat (wadd .i64 (wmul .i64 (List.getD a2 (Int.toNat s7.2) (0 : Int)) a0.2.1) (List.getD a1 (Int.toNat s7.2) (0 : Int)))) (0 : Nat))))), (9, .one (.dat (.int .i64) s7.2)), (27, .one (.dat (.int .i64) (lenI a1))), (28, .one (.dat (.int .i64) s7.2))], [(0, .box [.dat (.int .i64) a0.1, .dat (.int .i64) a0.2.1, .dat (.sl (.flt .f32)) a0.2.2.1, .dat (.sl (.flt .f32)) a0.2.2.2.1, .dat (.sl (.flt .f32)) a0.2.2.2.2])], 1⟩ hP hN (by kernel_rfl) (by kernel_rfl) (allCons hg14 (allCons hg15 (allCons hg16 allNil))) ?_
          obtain ⟨q17, hq18, hx11⟩ := of_bind hx11
          have hq18 := of_some2 hq18
          refine (Le.cv (s := ⟨[(0, 0)], [], [], false⟩) (own := []) (ps := [a1 = a1, a2 = a2, q17 = (fop .mul .f32 s7.1 (List.getD a0.2.2.2.2 (Int.toNat (wadd .i64 (wmul .i64 (List.getD a2 (Int.toNat s7.2) (0 : Int)) a0.2.1) (List.getD a1 (Int.toNat s7.2) (0 : Int)))) (0 : Nat))), s7.2 = s7.2, (lenI a1) = (lenI a1), s7.2 = s7.2, a0.1 = a0.1, a0.2.1 = a0.2.1, a0.2.2.1 = a0.2.2.1, a0.2.2.2.1 = a0.2.2.2.1, a0.2.2.2.2 = a0.2.2.2.2]) (st' := ⟨[(1, .one (.dat (.sl (.int .i64)) a1)), (2, .one (.dat (.sl (.int .i64)) a2)), (3, .one (.ptr 0 0)), (8, .one (.dat (.flt .f32) q17)), (9, .one (.dat (.int .i64) s7.2)), (27, .one (.dat (.int .i64) (lenI a1))), (28, .one (.dat (.int .i64) s7.2))], [(0, .box [.dat (.int .i64) a0.1, .dat (.int .i64) a0.2.1, .dat (.sl (.flt .f32)) a0.2.2.1, .dat (.sl (.flt .f32)) a0.2.2.2.1, .dat (.sl (.flt .f32)) a0.2.2.2.2])], 1⟩) hO (fun h => by cases h) (by kernel_rfl) ⟨rfl, rfl, hq18, rfl, rfl, rfl, rfl, rfl, rfl, rfl, rfl, trivial⟩).ht ?_
          obtain ⟨hg19, hx11⟩ := of_guard hx11
          obtain ⟨hg20, hx11⟩ := of_guard hx11
          refine drawS (h := 18) (hrs := [⟨⟨none, .no⟩, []⟩, ⟨⟨none, .no⟩, []⟩, ⟨⟨none, .no⟩, [1]⟩, ⟨⟨none, .no⟩, []⟩, ⟨⟨none, .no⟩, []⟩, ⟨⟨none, .no⟩, [3, 4]⟩, ⟨⟨none, .no⟩, [3, 4, 5]⟩, ⟨⟨none, .no⟩, []⟩, ⟨⟨none, .no⟩, [7]⟩, ⟨⟨none, .no⟩, [3, 4, 5, 6, 7, 8]⟩, ⟨⟨none, .no⟩, []⟩, ⟨⟨none, .no⟩, []⟩, ⟨⟨none, .no⟩, [11]⟩, ⟨⟨none, .no⟩, [10, 11, 12]⟩, ⟨⟨none, .no⟩, [10, 11, 12, 13]⟩, ⟨⟨none, .no⟩, [3, 4, 5, 6, 7, 8, 9, 10, 11, 12, 13, 14]⟩, ⟨⟨none, .no⟩, [1, 2, 3, 4, 5, 6, 7, 8, 9, 10, 11, 12, 13, 14, 15]⟩, ⟨⟨none, .no⟩, [1, 2, 3, 4, 5, 6, 7, 8, 9, 10, 11, 12, 13, 14, 15, 16]⟩]) (tds := [[0, 1, 2, 3, 4, 5, 6, 7, 8, 9, 10, 11, 12, 13, 14, 15, 16, 17], [0, 1, 2, 3, 4, 5, 6, 7, 8, 9, 10, 11, 12, 13, 14, 15, 16, 17, 18]]) (rs := [⟨none, .no⟩, ⟨none, .no⟩]) (st' := ⟨[(8, .one (.dat (.flt .f32) (fop .mul .f32 q17 (List.getD a0.2.2.2.1 (Int.toNat (wadd .i64 (wmul .i64 (List.getD a2 (Int.toNat s7.2) (0 : Int)) a0.1) (List.getD a2 (Int.toNat (wadd .i64 s7.2 (1 : Int))) (0 : Int)))) (0 : Nat))))), (67, .one (.dat (.flt .f32) (fop .mul .f32 q17 (List.getD a0.2.2.2.1 (Int.toNat (wadd .i64 (wmul .i64 (List.getD a2 (Int.toNat s7.2) (0 : Int)) a0.1) (List.getD a2 (Int.toNat (wadd .i64 s7.2 (1 : Int))) (0 : Int)))) (0 : Nat))))), (66, .one (.dat (.flt .f32) (List.getD a0.2.2.2.1 (Int.toNat (wadd .i64 (wmul .i64 (List.getD a2 (Int.toNat s7.2) (0 : Int)) a0.1) (List.getD a2 (Int.toNat (wadd .i64 s7.2 (1 : Int))) (0 : Int)))) (0 : Nat)))), (65, .one (.ip (.flt .f32) (List.getD a0.2.2.2.1 (Int.toNat (wadd .i64 (wmul .i64 (List.getD a2 (Int.toNat s7.2) (0 : Int)) a0.1) (List.getD a2 (Int.toNat (wadd .i64 s7.2 (1 : Int))) (0 : Int)))) (0 : Nat)) 0)), (64, .one (.dat (.int .i64) (wadd .i64 (wmul .i64 (List.getD a2 (Int.toNat s7.2) (0 : Int)) a0.1) (List.getD a2 (Int.toNat (wadd .i64 s7.2 (1 : Int))) (0 : Int))))), (63, .one (.dat (.int .i64) (List.getD a2 (Int.toNat (wadd .i64 s7.2 (1 : Int))) (0 : Int)))), (62, .one (.ip (.int .i64) (List.getD a2 (Int.toNat (wadd .i64 s7.2 (1 : Int))) (0 : Int)) 0)), (61, .one (.dat (.int .i64) (wadd .i64 s7.2 (1 : Int)))), (60, .one (.dat (.int .i64) s7.2)), (59, .one (.dat (.sl (.int .i64)) a2)), (58, .one (.dat (.int .i64) (wmul .i64 (List.getD a2 (Int.toNat s7.2) (0 : Int)) a0.1))), (57, .one (.dat (.int .i64) a0.1)), (56, .one (.ptr 0 0)), (55, .one (.dat (.int .i64) (List.getD a2 (Int.toNat s7.2) (0 : Int)))), (54, .one (.ip (.int .i64) (List.getD a2 (Int.toNat s7.2) (0 : Int)) 0)), (53, .one (.dat (.int .i64) s7.2)), (52, .one (.dat (.sl (.int .i64)) a2)), (51, .one (.dat (.sl (.flt .f32)) a0.2.2.2.1)), (50, .one (.ptr 0 3)), (49, .one (.dat (.flt .f32) q17)), (1, .one (.dat (.sl (.int .i64)) a1)), (2, .one (.dat (.sl (.int .i64)) a2)), (3, .one (.ptr 0 0)), (8, .one (.dat (.flt .f32) q17)), (9, .one (.dat (.int .i64) s7.2)), (27, .one (.dat (.int .i64) (lenI a1))), (28, .one (.dat (.int .i64) s7.2))], [(0, .box [.dat (.int .i64) a0.1, .dat (.int .i64) a0.2.1, .dat (.sl (.flt .f32)) a0.2.2.1, .dat (.sl (.flt .f32)) a0.2.2.2.1, .dat (.sl (.flt .f32)) a0.2.2.2.2])], 1⟩) hP hN (by kernel_rfl) (by kernel_rfl) (allCons hg14 (allCons hg19 (allCons hg20 allNil))) (qBlock (qThen ?_))
          have hx11 := of_some hx11
          subst hx11
          refine HT.reg (rs := [⟨none, .no⟩, ⟨none, .no⟩]) (st' := ⟨[(28, .one (.dat (.int .i64) (wadd .i64 s7.2 (1 : Int)))), (68, .one (.dat (.int .i64) (wadd .i64 s7.2 (1 : Int)))), (8, .one (.dat (.flt .f32) (fop .mul .f32 q17 (List.getD a0.2.2.2.1 (Int.toNat (wadd .i64 (wmul .i64 (List.getD a2 (Int.toNat s7.2) (0 : Int)) a0.1) (List.getD a2 (Int.toNat (wadd .i64 s7.2 (1 : Int))) (0 : Int)))) (0 : Nat))))), (67, .one (.dat (.flt .f32) (fop .mul .f32 q17 (List.getD a0.2.2.2.1 (Int.toNat (wadd .i64 (wmul .i64 (List.getD a2 (Int.toNat s7.2) (0 : Int)) a0.1) (List.getD a2 (Int.toNat (wadd .i64 s7.2 (1 : Int))) (0 : Int)))) (0 : Nat))))), (66, .one (.dat (.flt .f32) (List.getD a0.2.2.2.1 (Int.toNat (wadd .i64 (wmul .i64 (List.getD a2 (Int.toNat s7.2) (0 : Int)) a0.1) (List.getD a2 (Int.toNat (wadd .i64 s7.2 (1 : Int))) (0 : Int)))) (0 : Nat)))), (65, .one (.ip (.flt .f32) (List.getD a0.2.2.2.1 (Int.toNat (wadd .i64 (wmul .i64 (List.getD a2 (Int.toNat s7.2) (0 : Int)) a0.1) (List.getD a2 (Int.toNat (wadd .i64 s7.2 (1 : Int))) (0 : Int)))) (0 : Nat)) 0)), (64, .one (.dat (.int .i64) (wadd .i64 (wmul .i64 (List.getD a2 (Int.toNat s7.2) (0 : Int)) a0.1) (List.getD a2 (Int.toNat (wadd .i64 s7.2 (1 : Int))) (0 : Int))))), (63, .one (.dat (.int .i64) (List.getD a2 (Int.toNat (wadd .i64 s7.2 (1 : Int))) (0 : Int)))), (62, .one (.ip (.int .i64) (List.getD a2 (Int.toNat (wadd .i64 s7.2 (1 : Int))) (0 : Int)) 0)), (61, .one (.dat (.int .i64) (wadd .i64 s7.2 (1 : Int)))), (60, .one (.dat (.int .i64) s7.2)), (59, .one (.dat (.sl (.int .i64)) a2)), (58, .one (.dat (.int .i64) (wmul .i64 (List.getD a2 (Int.toNat s7.2) (0 : Int)) a0.1))), (57, .one (.dat (.int .i64) a0.1)), (56, .one (.ptr 0 0)), (55, .one (.dat (.int .i64) (List.getD a2 (Int.toNat s7.2) (0 : Int)))), (54, .one (.ip (.int .i64) (List.getD a2 (Int.toNat s7.2) (0 : Int)) 0)), (53, .one (.dat (.int .i64) s7.2)), (52, .one (.dat (.sl (.int .i64)) a2)), (51, .one (.dat (.sl (.flt .f32)) a0.2.2.2.1)), (50, .one (.ptr 0 3)), (49, .one (.dat (.flt .f32) q17)), (1, .one (.dat (.sl (.int .i64)) a1)), (2, .one (.dat (.sl (.int .i64)) a2)), (3, .one (.ptr 0 0)), (8, .one (.dat (.flt .f32) q17)), (9, .one (.dat (.int .i64) s7.2)), (27, .one (.dat (.int .i64) (lenI a1))), (28, .one (.dat (.int .i64) s7.2))], [(0, .box [.dat (.int .i64) a0.1, .dat (.int .i64) a0.2.1, .dat (.sl (.flt .f32)) a0.2.2.1, .dat (.sl (.flt .f32)) a0.2.2.2.1, .dat (.sl (.flt .f32)) a0.2.2.2.2])], 1⟩) hP hN (by kernel_rfl) allNil (qLoopN ⟨((fop .mul .f32 q17 (List.getD a0.2.2.2.1 (Int.toNat (wadd .i64 (wmul .i64 (List.getD a2 (Int.toNat s7.2) (0 : Int)) a0.1) (List.getD a2 (Int.toNat (wadd .i64 s7.2 (1 : Int))) (0 : Int)))) (0 : Nat))), (wadd .i64 s7.2 (1 : Int))), rfl, Le.cv (s := ⟨[(0, 0)], [], [], false⟩) (own := []) (ps := [a1 = a1, a2 = a2, (fop .mul .f32 q17 (List.getD a0.2.2.2.1 (Int.toNat (wadd .i64 (wmul .i64 (List.getD a2 (Int.toNat s7.2) (0 : Int)) a0.1) (List.getD a2 (Int.toNat (wadd .i64 s7.2 (1 : Int))) (0 : Int)))) (0 : Nat))) = (fop .mul .f32 q17 (List.getD a0.2.2.2.1 (Int.toNat (wadd .i64 (wmul .i64 (List.getD a2 (Int.toNat s7.2) (0 : Int)) a0.1) (List.getD a2 (Int.toNat (wadd .i64 s7.2 (1 : Int))) (0 : Int)))) (0 : Nat))), (lenI a1) = (lenI a1), (wadd .i64 s7.2 (1 : Int)) = (wadd .i64 s7.2 (1 : Int)), a0.1 = a0.1, a0.2.1 = a0.2.1, a0.2.2.1 = a0.2.2.1, a0.2.2.2.1 = a0.2.2.2.1, a0.2.2.2.2 = a0.2.2.2.2]) (st' := ⟨[(1, .one (.dat (.sl (.int .i64)) a1)), (2, .one (.dat (.sl (.int .i64)) a2)), (3, .one (.ptr 0 0)), (8, .one (.dat (.flt .f32) (fop .mul .f32 q17 (List.getD a0.2.2.2.1 (Int.toNat (wadd .i64 (wmul .i64 (List.getD a2 (Int.toNat s7.2) (0 : Int)) a0.1) (List.getD a2 (Int.toNat (wadd .i64 s7.2 (1 : Int))) (0 : Int)))) (0 : Nat))))), (27, .one (.dat (.int .i64) (lenI a1))), (28, .one (.dat (.int .i64) (wadd .i64 s7.2 (1 : Int))))], [(0, .box [.dat (.int .i64) a0.1, .dat (.int .i64) a0.2.1, .dat (.sl (.flt .f32)) a0.2.2.1, .dat (.sl (.flt .f32)) a0.2.2.2.1, .dat (.sl (.flt .f32)) a0.2.2.2.2])], 1⟩) hO (fun h => by cases h) (by kernel_rfl) ⟨rfl, rfl, rfl, rfl, rfl, rfl, rfl, rfl, rfl, rfl, trivial⟩⟩)
        · refine HT.cond0 rfl hb13 ?_
          have hx11 := of_some hx11
          subst hx11
          refine (Le.cv (s := ⟨[], [], [], false⟩) (own := []) (ps := [s7.1 = s7.1]) (st' := ⟨[(8, .one (.dat (.flt .f32) s7.1))], [], 0⟩) hO (fun h => by cases h) (by kernel_rfl) ⟨rfl, trivial⟩).ht ?_
          exact HT.exit (qThenE (qLoopE (hk12 s7.1 rfl)))
  · obtain ⟨y22, hc23, hT3⟩ := of_bind hT3
    rcases of_bif hT3 with ⟨hb24, hT3⟩ | ⟨hb24, hT3⟩
    · refine HT.reg (rs := [⟨none, .no⟩, ⟨none, .call [.pimm (.st (.pair (.int .i64) (.pair (.int .i64) (.pair (.sl (.flt .f32)) (.pair (.sl (.flt .f32)) (.sl (.flt .f32))))))), .imm (.sl (.int .i64))] [⟨false, .bool, y22⟩] []⟩, ⟨none, .no⟩, ⟨none, .no⟩, ⟨some true, .no⟩, ⟨some true, .no⟩, ⟨some true, .no⟩, ⟨some true, .no⟩, ⟨none, .tv true⟩]) (st' := ⟨[(18, .one (.dat .bool true)), (17, .und), (16, .und), (15, .und), (14, .und), (13, .one (.dat .bool (!y22))), (12, .one (.dat .bool (!y22))), (11, .one (.dat .bool y22)), (10, .one (.dat (.sl (.int .i64)) a1)), (1, .one (.dat (.sl (.int .i64)) a1)), (2, .one (.dat (.sl (.int .i64)) a2)), (3, .one (.ptr 0 0))], [(0, .box [.dat (.int .i64) a0.1, .dat (.int .i64) a0.2.1, .dat (.sl (.flt .f32)) a0.2.2.1, .dat (.sl (.flt .f32)) a0.2.2.2.1, .dat (.sl (.flt .f32)) a0.2.2.2.2])], 1⟩) hP hN (by kernel_rfl) (allCons (f73_ok hc23) (allCons hb24 (allCons hb24 (allCons hb24 (allCons hb24 (allCons hb24 allNil)))))) (qThen ?_)
      exact (Le.cv (s := ⟨[(0, 0)], [], [], false⟩) (own := []) (ps := [a1 = a1, a2 = a2, true = true, a0.1 = a0.1, a0.2.1 = a0.2.1, a0.2.2.1 = a0.2.2.1, a0.2.2.2.1 = a0.2.2.2.1, a0.2.2.2.2 = a0.2.2.2.2]) (st' := ⟨[(1, .one (.dat (.sl (.int .i64)) a1)), (2, .one (.dat (.sl (.int .i64)) a2)), (3, .one (.ptr 0 0)), (18, .one (.dat .bool true))], [(0, .box [.dat (.int .i64) a0.1, .dat (.int .i64) a0.2.1, .dat (.sl (.flt .f32)) a0.2.2.1, .dat (.sl (.flt .f32)) a0.2.2.2.1, .dat (.sl (.flt .f32)) a0.2.2.2.2])], 1⟩) hO (fun h => by cases h) (by kernel_rfl) ⟨rfl, rfl, rfl, rfl, rfl, rfl, rfl, rfl, trivial⟩).ht (cont true (of_some hT3))
    · obtain ⟨y25, hc26, hT3⟩ := of_bind hT3
      refine HT.reg (rs := [⟨none, .no⟩, ⟨none, .call [.pimm (.st (.pair (.int .i64) (.pair (.int .i64) (.pair (.sl (.flt .f32)) (.pair (.sl (.flt .f32)) (.sl (.flt .f32))))))), .imm (.sl (.int .i64))] [⟨false, .bool, y22⟩] []⟩, ⟨none, .no⟩, ⟨none, .no⟩, ⟨some false, .no⟩, ⟨some false, .no⟩, ⟨some false, .call [.pimm (.st (.pair (.int .i64) (.pair (.int .i64) (.pair (.sl (.flt .f32)) (.pair (.sl (.flt .f32)) (.sl (.flt .f32))))))), .imm (.sl (.int .i64)), .imm (.sl (.int .i64))] [⟨false, .bool, y25⟩] []⟩, ⟨some false, .no⟩, ⟨none, .tv false⟩]) (st' := ⟨[(18, .one (.dat .bool (!y25))), (17, .one (.dat .bool (!y25))), (16, .one (.dat .bool y25)), (15, .one (.dat (.sl (.int .i64)) a2)), (14, .one (.dat (.sl (.int .i64)) a1)), (13, .one (.dat .bool (!y22))), (12, .one (.dat .bool (!y22))), (11, .one (.dat .bool y22)), (10, .one (.dat (.sl (.int .i64)) a1)), (1, .one (.dat (.sl (.int .i64)) a1)), (2, .one (.dat (.sl (.int .i64)) a2)), (3, .one (.ptr 0 0))], [(0, .box [.dat (.int .i64) a0.1, .dat (.int .i64) a0.2.1, .dat (.sl (.flt .f32)) a0.2.2.1, .dat (.sl (.flt .f32)) a0.2.2.2.1, .dat (.sl (.flt .f32)) a0.2.2.2.2])], 1⟩) hP hN (by kernel_rfl) (allCons (f73_ok hc23) (allCons hb24 (allCons hb24 (allCons hb24 (allCons (f74_ok hc26) (allCons hb24 (allCons hb24 allNil))))))) (qThen ?_)
      exact (Le.cv (s := ⟨[(0, 0)], [], [], false⟩) (own := []) (ps := [a1 = a1, a2 = a2, (!y25) = (!y25), a0.1 = a0.1, a0.2.1 = a0.2.1, a0.2.2.1 = a0.2.2.1, a0.2.2.2.1 = a0.2.2.2.1, a0.2.2.2.2 = a0.2.2.2.2]) (st' := ⟨[(1, .one (.dat (.sl (.int .i64)) a1)), (2, .one (.dat (.sl (.int .i64)) a2)), (3, .one (.ptr 0 0)), (18, .one (.dat .bool (!y25)))], [(0, .box [.dat (.int .i64) a0.1, .dat (.int .i64) a0.2.1, .dat (.sl (.flt .f32)) a0.2.2.1, .dat (.sl (.flt .f32)) a0.2.2.2.1, .dat (.sl (.flt .f32)) a0.2.2.2.2])], 1⟩) hO (fun h => by cases h) (by kernel_rfl) ⟨rfl, rfl, rfl, rfl, rfl, rfl, rfl, rfl, trivial⟩).ht (cont (!y25) (of_some hT3))

noncomputable def impl_Model_areHidden (a0 : Int × Int × List Nat × List Nat × List Nat) (a1 : List Int) (a2 : List Int) : Option (Bool) :=
  (show Option (Bool) from
    bif ((lenI a2) == (wadd .i64 (lenI a1) (1 : Int))) then
      (impl_areWithin a2 (0 : Int) (wsub .i64 a0.1 (1 : Int))).bind fun y5 =>
      some y5
    else
      some false).bind fun v1 =>
  some v1

theorem f76_ok {a0 : Int × Int × List Nat × List Nat × List Nat} {a1 : List Int} {a2 : List Int} {r : Bool} (hr : impl_Model_areHidden a0 a1 a2 = some r) : CallOK Try.prog 76 [.imm (.st (.pair (.int .i64) (.pair (.int .i64) (.pair (.sl (.flt .f32)) (.pair (.sl (.flt .f32)) (.sl (.flt .f32))))))) a0, .imm (.sl (.int .i64)) a1, .imm (.sl (.int .i64)) a2] [⟨false, .bool, r⟩] [] := by
  unfold impl_Model_areHidden at hr
  refine CallOK.of_body (ts := [(false, .bool)]) Try.func76 rfl (by kernel_rfl) (Nat.le_of_ble_eq_true (by kernel_rfl)) fun cx hP hN hO hF => ?_
  have hO : cx.own.map Prod.fst = [] := hO
  have hF : cx.F = [] := hF rfl
  show HT cx ⟨[(0, .agg [.dat (.int .i64) a0.1, .dat (.int .i64) a0.2.1, .dat (.sl (.flt .f32)) a0.2.2.1, .dat (.sl (.flt .f32)) a0.2.2.2.1, .dat (.sl (.flt .f32)) a0.2.2.2.2]), (1, .one (.dat (.sl (.int .i64)) a1)), (2, .one (.dat (.sl (.int .i64)) a2))], [], 0⟩ _ _
  refine HT.reg1 [1, 2, 3] [⟨none, .no⟩, ⟨none, .no⟩] ⟨[(1, .one (.dat (.sl (.int .i64)) a1)), (2, .one (.dat (.sl (.int .i64)) a2)), (3, .one (.ptr 0 0))], [(0, .box [.dat (.int .i64) a0.1, .dat (.int .i64) a0.2.1, .dat (.sl (.flt .f32)) a0.2.2.1, .dat (.sl (.flt .f32)) a0.2.2.2.1, .dat (.sl (.flt .f32)) a0.2.2.2.2])], 1⟩ hP hN (by kernel_rfl) allNil ?_
  obtain ⟨v1', hT3, hr⟩ := of_bind hr
  refine HT.join (fun (v1 : Bool) => ⟨[(6, .one (.dat .bool v1))], [], 0⟩) (fun v => v = v1') (fun v1 hv2 => ?_) (fun cont => ?_)
  · subst hv2
    have hr := of_some hr
    subst hr
    exact HT.ret ⟨[.one (.dat .bool v1)], [], [], by kernel_rfl, by kernel_rfl, rfl, (.inl rfl), by kernel_rfl, trivial⟩
  · rcases of_bif hT3 with ⟨hb4, hT3⟩ | ⟨hb4, hT3⟩
    · obtain ⟨y5, hc6, hT3⟩ := of_bind hT3
      refine HT.reg (rs := [⟨none, .no⟩, ⟨none, .no⟩, ⟨none, .no⟩, ⟨none, .no⟩, ⟨none, .no⟩, ⟨none, .no⟩, ⟨none, .no⟩, ⟨some true, .no⟩, ⟨some true, .no⟩, ⟨some true, .no⟩, ⟨some true, .no⟩, ⟨some true, .call [.imm (.sl (.int .i64)), .imm (.int .i64), .imm (.int .i64)] [⟨false, .bool, y5⟩] []⟩, ⟨none, .tv true⟩, ⟨none, .no⟩]) (st' := ⟨[(6, .one (.dat .bool y5)), (19, .one (.dat .bool y5)), (18, .one (.dat .bool y5)), (17, .one (.dat (.int .i64) (wsub .i64 a0.1 (1 : Int)))), (16, .one (.dat (.int .i64) a0.1)), (15, .one (.ptr 0 0)), (14, .one (.dat (.sl (.int .i64)) a2)), (13, .one (.dat .bool ((lenI a2) == (wadd .i64 (lenI a1) (1 : Int))))), (12, .one (.dat .bool ((lenI a2) == (wadd .i64 (lenI a1) (1 : Int))))), (11, .one (.dat (.int .i64) (wadd .i64 (lenI a1) (1 : Int)))), (10, .one (.dat (.int .i64) (lenI a1))), (9, .one (.dat (.sl (.int .i64)) a1)), (8, .one (.dat (.int .i64) (lenI a2))), (7, .one (.dat (.sl (.int .i64)) a2)), (1, .one (.dat (.sl (.int .i64)) a1)), (2, .one (.dat (.sl (.int .i64)) a2)), (3, .one (.ptr 0 0))], [(0, .box [.dat (.int .i64) a0.1, .dat (.int .i64) a0.2.1, .dat (.sl (.flt .f32)) a0.2.2.1, .dat (.sl (.flt .f32)) a0.2.2.2.1, .dat (.sl (.flt .f32)) a0.2.2.2.2])], 1⟩) hP hN (by kernel_rfl) (allCons hb4 (allCons hb4 (allCons hb4 (allCons hb4 (allCons hb4 (allCons (f137_ok hc6) (allCons hb4 allNil))))))) (qThen ?_)
      exact (Le.cv (s := ⟨[], [], [], false⟩) (own := []) (ps := [y5 = y5]) (st' := ⟨[(6, .one (.dat .bool y5))], [], 0⟩) hO (fun h => by cases h) (by kernel_rfl) ⟨rfl, trivial⟩).ht (cont y5 (of_some hT3))
    · refine HT.reg (rs := [⟨none, .no⟩, ⟨none, .no⟩, ⟨none, .no⟩, ⟨none, .no⟩, ⟨none, .no⟩, ⟨none, .no⟩, ⟨none, .no⟩, ⟨some false, .no⟩, ⟨some false, .no⟩, ⟨some false, .no⟩, ⟨some false, .no⟩, ⟨some false, .no⟩, ⟨none, .tv false⟩, ⟨none, .no⟩]) (st' := ⟨[(6, .one (.dat .bool false)), (19, .one (.dat .bool false)), (18, .und), (17, .und), (16, .und), (15, .und), (14, .und), (13, .one (.dat .bool ((lenI a2) == (wadd .i64 (lenI a1) (1 : Int))))), (12, .one (.dat .bool ((lenI a2) == (wadd .i64 (lenI a1) (1 : Int))))), (11, .one (.dat (.int .i64) (wadd .i64 (lenI a1) (1 : Int)))), (10, .one (.dat (.int .i64) (lenI a1))), (9, .one (.dat (.sl (.int .i64)) a1)), (8, .one (.dat (.int .i64) (lenI a2))), (7, .one (.dat (.sl (.int .i64)) a2)), (1, .one (.dat (.sl (.int .i64)) a1)), (2, .one (.dat (.sl (.int .i64)) a2)), (3, .one (.ptr 0 0))], [(0, .box [.dat (.int .i64) a0.1, .dat (.int .i64) a0.2.1, .dat (.sl (.flt .f32)) a0.2.2.1, .dat (.sl (.flt .f32)) a0.2.2.2.1, .dat (.sl (.flt .f32)) a0.2.2.2.2])], 1⟩) hP hN (by kernel_rfl) (allCons hb4 (allCons hb4 (allCons hb4 (allCons hb4 (allCons hb4 (allCons hb4 allNil)))))) (qThen ?_)
      exact (Le.cv (s := ⟨[], [], [], false⟩) (own := []) (ps := [false = false]) (st' := ⟨[(6, .one (.dat .bool false))], [], 0⟩) hO (fun h => by cases h) (by kernel_rfl) ⟨rfl, trivial⟩).ht (cont false (of_some hT3))

noncomputable def impl_HiddenChance_B1 (a0 : Int × Int × List Nat × List Nat × List Nat) (a1 : List Int) (a2 : List Int) (s7 : Nat × Int) : Option ((Nat × Int) ⊕ (Nat)) :=
  bif (decide (s7.2 < (lenI a1))) then
    guardP ((0 : Int) ≤ s7.2 ∧ s7.2 < lenI a1) (
      guardP ((0 : Int) ≤ s7.2 ∧ s7.2 < lenI a2) (
        (impl_Model_show (a0.1, a0.2.1, a0.2.2.1, a0.2.2.2.1, a0.2.2.2.2) (List.getD a2 (Int.toNat s7.2) (0 : Int)) (List.getD a1 (Int.toNat s7.2) (0 : Int))).bind fun y18 =>
        guardP ((0 : Int) ≤ (wadd .i64 s7.2 (1 : Int)) ∧ (wadd .i64 s7.2 (1 : Int)) < lenI a2) (
          (impl_Model_step (a0.1, a0.2.1, a0.2.2.1, a0.2.2.2.1, a0.2.2.2.2) (List.getD a2 (Int.toNat s7.2) (0 : Int)) (List.getD a2 (Int.toNat (wadd .i64 s7.2 (1 : Int))) (0 : Int))).bind fun y21 =>
          some (.inl ((fop .mul .f32 (fop .mul .f32 s7.1 y18) y21), (wadd .i64 s7.2 (1 : Int)))))))
  else
    some (.inr s7.1)

noncomputable def impl_HiddenChance (a0 : Int × Int × List Nat × List Nat × List Nat) (a1 : List Int) (a2 : List Int) : Option (Nat × Bool) :=
  (show Option (Bool) from
    (impl_Model_has (a0.1, a0.2.1, a0.2.2.1, a0.2.2.2.1, a0.2.2.2.2) a1).bind fun y24 =>
    bif (!y24) then
      some true
    else
      (impl_Model_areHidden (a0.1, a0.2.1, a0.2.2.1, a0.2.2.2.1, a0.2.2.2.2) a1 a2).bind fun y27 =>
      some (!y27)).bind fun v1 =>
  bif v1 then
    some ((0 : Nat), false)
  else
    guardP ((0 : Int) ≤ (0 : Int) ∧ (0 : Int) < lenI a2) (
      guardP ((0 : Int) ≤ (List.getD a2 (Int.toNat (0 : Int)) (0 : Int)) ∧ (List.getD a2 (Int.toNat (0 : Int)) (0 : Int)) < lenI a0.2.2.1) (
        (rounds (impl_HiddenChance_B1 a0 a1 a2) ((List.getD a0.2.2.1 (Int.toNat (List.getD a2 (Int.toNat (0 : Int)) (0 : Int))) (0 : Nat)), (0 : Int))).bind fun r9 =>
        (impl_finite r9).bind fun y10 =>
        some (y10.1, y10.2)))

theorem f23_ok {a0 : Int × Int × List Nat × List Nat × List Nat} {a1 : List Int} {a2 : List Int} {r : Nat × Bool} (hr : impl_HiddenChance a0 a1 a2 = some r) : CallOK Try.prog 23 [.imm (.st (.pair (.int .i64) (.pair (.int .i64) (.pair (.sl (.flt .f32)) (.pair (.sl (.flt .f32)) (.sl (.flt .f32))))))) a0, .imm (.sl (.int .i64)) a1, .imm (.sl (.int .i64)) a2] [⟨false, (.flt .f32), r.1⟩, ⟨false, .bool, r.2⟩] [] := by
  unfold impl_HiddenChance at hr
  refine CallOK.of_body (ts := [(false, (.flt .f32)), (false, .bool)]) Try.func23 rfl (by kernel_rfl) (Nat.le_of_ble_eq_true (by kernel_rfl)) fun cx hP hN hO hF => ?_
  have hO : cx.own.map Prod.fst = [] := hO
  have hF : cx.F = [] := hF rfl
  show HT cx ⟨[(0, .agg [.dat (.int .i64) a0.1, .dat (.int .i64) a0.2.1, .dat (.sl (.flt .f32)) a0.2.2.1, .dat (.sl (.flt .f32)) a0.2.2.2.1, .dat (.sl (.flt .f32)) a0.2.2.2.2]), (1, .one (.dat (.sl (.int .i64)) a1)), (2, .one (.dat (.sl (.int .i64)) a2))], [], 0⟩ _ _
  refine HT.reg1 [1, 2, 3] [⟨none, .no⟩, ⟨none, .no⟩, ⟨none, .no⟩] ⟨[(1, .one (.dat (.sl (.int .i64)) a1)), (2, .one (.dat (.sl (.int .i64)) a2)), (3, .one (.ptr 0 0))], [(0, .box [.dat (.int .i64) a0.1, .dat (.int .i64) a0.2.1, .dat (.sl (.flt .f32)) a0.2.2.1, .dat (.sl (.flt .f32)) a0.2.2.2.1, .dat (.sl (.flt .f32)) a0.2.2.2.2])], 1⟩ hP hN (by kernel_rfl) allNil ?_
  refine HT.seq ?_
  obtain ⟨v1', hT3, hr⟩ := of_bind hr
  refine HT.join (fun (v1 : Bool) => ⟨[(1, .one (.dat (.sl (.int .i64)) a1)), (2, .one (.dat (.sl (.int .i64)) a2)), (3, .one (.ptr 0 0)), (21, .one (.dat .bool v1))], [(0, .box [.dat (.int .i64) a0.1, .dat (.int .i64) a0.2.1, .dat (.sl (.flt .f32)) a0.2.2.1, .dat (.sl (.flt .f32)) a0.2.2.2.1, .dat (.sl (.flt .f32)) a0.2.2.2.2])], 1⟩) (fun v => v = v1') (fun v1 hv2 => ?_) (fun cont => ?_)
  · subst hv2
    rcases of_bif hr with ⟨hb4, hr⟩ | ⟨hb4, hr⟩
    · refine HT.cond1 rfl hb4 ?_
      refine HT.reg1 [6, 7] [⟨none, .no⟩, ⟨none, .no⟩] ⟨[(6, .one (.dat (.flt .f32) (0 : Nat))), (7, .one (.dat .bool false))], [(0, .box [.dat (.int .i64) a0.1, .dat (.int .i64) a0.2.1, .dat (.sl (.flt .f32)) a0.2.2.1, .dat (.sl (.flt .f32)) a0.2.2.2.1, .dat (.sl (.flt .f32)) a0.2.2.2.2])], 1⟩ hP hN (by kernel_rfl) allNil ?_
      have hr := of_some hr
      subst hr
      exact HT.ret (qThenR ⟨[.one (.dat (.flt .f32) (0 : Nat)), .one (.dat .bool false)], [], [], by kernel_rfl, by kernel_rfl, rfl, (.inl rfl), by kernel_rfl, trivial⟩)
    · refine HT.cond0 rfl hb4 ?_
      refine HT.skip (qThen ?_)
      obtain ⟨hg5, hr⟩ := of_guard hr
      obtain ⟨hg6, hr⟩ := of_guard hr
      refine HT.drw1 [1, 2, 3, 8] 5 [⟨⟨none, .no⟩, []⟩, ⟨⟨none, .no⟩, [0]⟩, ⟨⟨none, .no⟩, []⟩, ⟨⟨none, .no⟩, [2]⟩, ⟨⟨none, .no⟩, [2, 3]⟩] [[0, 1, 2, 3, 4], [0, 1, 2, 3, 4, 5], [0, 1, 2, 3, 4, 5, 6]] [⟨none, .no⟩, ⟨none, .no⟩, ⟨none, .no⟩] ⟨[(1, .one (.dat (.sl (.int .i64)) a1)), (2, .one (.dat (.sl (.int .i64)) a2)), (3, .one (.ptr 0 0)), (8, .one (.dat (.flt .f32) (List.getD a0.2.2.1 (Int.toNat (List.getD a2 (Int.toNat (0 : Int)) (0 : Int))) (0 : Nat))))], [(0, .box [.dat (.int .i64) a0.1, .dat (.int .i64) a0.2.1, .dat (.sl (.flt .f32)) a0.2.2.1, .dat (.sl (.flt .f32)) a0.2.2.2.1, .dat (.sl (.flt .f32)) a0.2.2.2.2])], 1⟩ hP hN (by kernel_rfl) (by kernel_rfl) (allCons hg5 (allCons hg6 allNil)) ?_
      refine HT.seq ?_
      refine HT.reg1 [2, 3, 8, 29, 30, 31] [⟨none, .no⟩, ⟨none, .no⟩, ⟨none, .no⟩] ⟨[(2, .one (.dat (.sl (.int .i64)) a2)), (3, .one (.ptr 0 0)), (8, .one (.dat (.flt .f32) (List.getD a0.2.2.1 (Int.toNat (List.getD a2 (Int.toNat (0 : Int)) (0 : Int))) (0 : Nat)))), (29, .one (.dat (.sl (.int .i64)) a1)), (30, .one (.dat (.int .i64) (lenI a1))), (31, .one (.dat (.int .i64) (0 : Int)))], [(0, .box [.dat (.int .i64) a0.1, .dat (.int .i64) a0.2.1, .dat (.sl (.flt .f32)) a0.2.2.1, .dat (.sl (.flt .f32)) a0.2.2.2.1, .dat (.sl (.flt .f32)) a0.2.2.2.2])], 1⟩ hP hN (by kernel_rfl) allNil ?_
      refine HT.block ?_
      obtain ⟨r8, hL23, hr⟩ := of_bind hr
      refine (Le.cv (s := ⟨[(0, 0)], [], [], false⟩) (own := []) (ps := [a2 = a2, (List.getD a0.2.2.1 (Int.toNat (List.getD a2 (Int.toNat (0 : Int)) (0 : Int))) (0 : Nat)) = (List.getD a0.2.2.1 (Int.toNat (List.getD a2 (Int.toNat (0 : Int)) (0 : Int))) (0 : Nat)), a1 = a1, (lenI a1) = (lenI a1), (0 : Int) = (0 : Int), a0.1 = a0.1, a0.2.1 = a0.2.1, a0.2.2.1 = a0.2.2.1, a0.2.2.2.1 = a0.2.2.2.1, a0.2.2.2.2 = a0.2.2.2.2]) (st' := ⟨[(2, .one (.dat (.sl (.int .i64)) a2)), (3, .one (.ptr 0 0)), (8, .one (.dat (.flt .f32) (List.getD a0.2.2.1 (Int.toNat (List.getD a2 (Int.toNat (0 : Int)) (0 : Int))) (0 : Nat)))), (29, .one (.dat (.sl (.int .i64)) a1)), (30, .one (.dat (.int .i64) (lenI a1))), (31, .one (.dat (.int .i64) (0 : Int)))], [(0, .box [.dat (.int .i64) a0.1, .dat (.int .i64) a0.2.1, .dat (.sl (.flt .f32)) a0.2.2.1, .dat (.sl (.flt .f32)) a0.2.2.2.1, .dat (.sl (.flt .f32)) a0.2.2.2.2])], 1⟩) hO (fun h => by cases h) (by kernel_rfl) ⟨rfl, rfl, rfl, rfl, rfl, rfl, rfl, rfl, rfl, rfl, trivial⟩).ht ?_
      refine HT.loopE (s := ((List.getD a0.2.2.1 (Int.toNat (List.getD a2 (Int.toNat (0 : Int)) (0 : Int))) (0 : Nat)), (0 : Int))) (fun (s7 : Nat × Int) => ⟨[(2, .one (.dat (.sl (.int .i64)) a2)), (3, .one (.ptr 0 0)), (8, .one (.dat (.flt .f32) s7.1)), (29, .one (.dat (.sl (.int .i64)) a1)), (30, .one (.dat (.int .i64) (lenI a1))), (31, .one (.dat (.int .i64) s7.2))], [(0, .box [.dat (.int .i64) a0.1, .dat (.int .i64) a0.2.1, .dat (.sl (.flt .f32)) a0.2.2.1, .dat (.sl (.flt .f32)) a0.2.2.2.1, .dat (.sl (.flt .f32)) a0.2.2.2.2])], 1⟩) (fun (r9 : Nat) => (.exit 0, ⟨[(8, .one (.dat (.flt .f32) r9))], [], 0⟩)) hL23 ?_ (fun s7 x12 hx13 hk14 => ?_)
      · refine (qBlockX (qThen ?_))
        obtain ⟨y10, hc11, hr⟩ := of_bind hr
        refine HT.reg1 [6, 7] [⟨none, .no⟩, ⟨none, .call [.imm (.flt .f32)] [⟨false, (.flt .f32), y10.1⟩, ⟨false, .bool, y10.2⟩] []⟩, ⟨none, .no⟩, ⟨none, .no⟩, ⟨none, .no⟩, ⟨none, .no⟩] ⟨[(6, .one (.dat (.flt .f32) y10.1)), (7, .one (.dat .bool y10.2))], [], 0⟩ hP hN (by kernel_rfl) (allCons (f71_ok hc11) allNil) ?_
        have hr := of_some hr
        subst hr
        exact HT.ret ⟨[.one (.dat (.flt .f32) y10.1), .one (.dat .bool y10.2)], [], [], by kernel_rfl, by kernel_rfl, rfl, (.inl rfl), by kernel_rfl, trivial⟩
      · refine HT.reg1 [2, 3, 8, 29, 30, 31, 32] [⟨none, .no⟩] ⟨[(2, .one (.dat (.sl (.int .i64)) a2)), (3, .one (.ptr 0 0)), (8, .one (.dat (.flt .f32) s7.1)), (29, .one (.dat (.sl (.int .i64)) a1)), (30, .one (.dat (.int .i64) (lenI a1))), (31, .one (.dat (.int .i64) s7.2)), (32, .one (.dat .bool (decide (s7.2 < (lenI a1)))))], [(0, .box [.dat (.int .i64) a0.1, .dat (.int .i64) a0.2.1, .dat (.sl (.flt .f32)) a0.2.2.1, .dat (.sl (.flt .f32)) a0.2.2.2.1, .dat (.sl (.flt .f32)) a0.2.2.2.2])], 1⟩ hP hN (by kernel_rfl) allNil ?_
        refine HT.seq ?_
        rcases of_bif hx13 with ⟨hb15, hx13⟩ | ⟨hb15, hx13⟩
        · refine HT.cond1 rfl hb15 ?_
          refine HT.skip (qThen ?_)
          refine HT.seq ?_
          refine HT.block ?_
          obtain ⟨hg16, hx13⟩ := of_guard hx13
          refine HT.reg1 [2, 3, 8, 9, 10, 29, 30, 31] [⟨none, .no⟩, ⟨none, .no⟩, ⟨none, .no⟩, ⟨none, .no⟩, ⟨none, .no⟩] ⟨[(2, .one (.dat (.sl (.int .i64)) a2)), (3, .one (.ptr 0 0)), (8, .one (.dat (.flt .f32) s7.1)), (9, .one (.dat (.int .i64) s7.2)), (10, .one (.dat (.int .i64) (List.getD a1 (Int.toNat s7.2) (0 : Int)))), (29, .one (.dat (.sl (.int .i64)) a1)), (30, .one (.dat (.int .i64) (lenI a1))), (31, .one (.dat (.int .i64) s7.2))], [(0, .box [.dat (.int .i64) a0.1, .dat (.int .i64) a0.2.1, .dat (.sl (.flt .f32)) a0.2.2.1, .dat (.sl (.flt .f32)) a0.2.2.2.1, .dat (.sl (.flt .f32)) a0.2.2.2.2])], 1⟩ hP hN (by kernel_rfl) (allCons hg16 allNil) ?_
          obtain ⟨hg17, hx13⟩ := of_guard hx13
          obtain ⟨y18, hc19, hx13⟩ := of_bind hx13
          refine HT.drw1 [2, 3, 8, 9, 29, 30, 31] 8 [⟨⟨none, .no⟩, []⟩, ⟨⟨none, .no⟩, []⟩, ⟨⟨none, .no⟩, []⟩, ⟨⟨none, .no⟩, []⟩, ⟨⟨none, .no⟩, [2, 3]⟩, ⟨⟨none, .no⟩, [2, 3, 4]⟩, ⟨⟨none, .no⟩, []⟩, ⟨⟨none, .call [.imm (.st (.pair (.int .i64) (.pair (.int .i64) (.pair (.sl (.flt .f32)) (.pair (.sl (.flt .f32)) (.sl (.flt .f32))))))), .imm (.int .i64), .imm (.int .i64)] [⟨false, (.flt .f32), y18⟩] []⟩, [1, 2, 3, 4, 5, 6]⟩] [[0, 1, 2, 3, 4, 5, 6, 7], [0, 1, 2, 3, 4, 5, 6, 7, 8]] [⟨none, .no⟩, ⟨none, .no⟩] ⟨[(2, .one (.dat (.sl (.int .i64)) a2)), (3, .one (.ptr 0 0)), (8, .one (.dat (.flt .f32) (fop .mul .f32 s7.1 y18))), (9, .one (.dat (.int .i64) s7.2)), (29, .one (.dat (.sl (.int .i64)) a1)), (30, .one (.dat (.int .i64) (lenI a1))), (31, .one (.dat (.int .i64) s7.2))], [(0, .box [.dat (.int .i64) a0.1, .dat (.int .i64) a0.2.1, .dat (.sl (.flt .f32)) a0.2.2.1, .dat (.sl (.flt .f32)) a0.2.2.2.1, .dat (.sl (.flt .f32)) a0.2.2.2.2])], 1⟩ hP hN (by kernel_rfl) (by kernel_rfl) (allCons hg17 (allCons (f77_ok hc19) allNil)) ?_
          obtain ⟨hg20, hx13⟩ := of_guard hx13
          obtain ⟨y21, hc22, hx13⟩ := of_bind hx13
          refine drawS (h := 12) (hrs := [⟨⟨none, .no⟩, []⟩, ⟨⟨none, .no⟩, []⟩, ⟨⟨none, .no⟩, []⟩, ⟨⟨none, .no⟩, []⟩, ⟨⟨none, .no⟩, [2, 3]⟩, ⟨⟨none, .no⟩, [2, 3, 4]⟩, ⟨⟨none, .no⟩, []⟩, ⟨⟨none, .no⟩, []⟩, ⟨⟨none, .no⟩, [7]⟩, ⟨⟨none, .no⟩, [6, 7, 8]⟩, ⟨⟨none, .no⟩, [6, 7, 8, 9]⟩, ⟨⟨none, .call [.imm (.st (.pair (.int .i64) (.pair (.int .i64) (.pair (.sl (.flt .f32)) (.pair (.sl (.flt .f32)) (.sl (.flt .f32))))))), .imm (.int .i64), .imm (.int .i64)] [⟨false, (.flt .f32), y21⟩] []⟩, [1, 2, 3, 4, 5, 6, 7, 8, 9, 10]⟩]) (tds := [[0, 1, 2, 3, 4, 5, 6, 7, 8, 9, 10, 11], [0, 1, 2, 3, 4, 5, 6, 7, 8, 9, 10, 11, 12]]) (rs := [⟨none, .no⟩, ⟨none, .no⟩]) (st' := ⟨[(8, .one (.dat (.flt .f32) (fop .mul .f32 (fop .mul .f32 s7.1 y18) y21))), (57, .one (.dat (.flt .f32) (fop .mul .f32 (fop .mul .f32 s7.1 y18) y21))), (56, .one (.dat (.flt .f32) y21)), (55, .one (.dat (.int .i64) (List.getD a2 (Int.toNat (wadd .i64 s7.2 (1 : Int))) (0 : Int)))), (54, .one (.ip (.int .i64) (List.getD a2 (Int.toNat (wadd .i64 s7.2 (1 : Int))) (0 : Int)) 0)), (53, .one (.dat (.int .i64) (wadd .i64 s7.2 (1 : Int)))), (52, .one (.dat (.int .i64) s7.2)), (51, .one (.dat (.sl (.int .i64)) a2)), (50, .one (.dat (.int .i64) (List.getD a2 (Int.toNat s7.2) (0 : Int)))), (49, .one (.ip (.int .i64) (List.getD a2 (Int.toNat s7.2) (0 : Int)) 0)), (48, .one (.dat (.int .i64) s7.2)), (47, .one (.dat (.sl (.int .i64)) a2)), (46, .agg [.dat (.int .i64) a0.1, .dat (.int .i64) a0.2.1, .dat (.sl (.flt .f32)) a0.2.2.1, .dat (.sl (.flt .f32)) a0.2.2.2.1, .dat (.sl (.flt .f32)) a0.2.2.2.2]), (45, .one (.dat (.flt .f32) (fop .mul .f32 s7.1 y18))), (2, .one (.dat (.sl (.int .i64)) a2)), (3, .one (.ptr 0 0)), (8, .one (.dat (.flt .f32) (fop .mul .f32 s7.1 y18))), (9, .one (.dat (.int .i64) s7.2)), (29, .one (.dat (.sl (.int .i64)) a1)), (30, .one (.dat (.int .i64) (lenI a1))), (31, .one (.dat (.int .i64) s7.2))], [(0, .box [.dat (.int .i64) a0.1, .dat (.int .i64) a0.2.1, .dat (.sl (.flt .f32)) a0.2.2.1, .dat (.sl (.flt .f32)) a0.2.2.2.1, .dat (.sl (.flt .f32)) a0.2.2.2.2])], 1⟩) hP hN (by kernel_rfl) (by kernel_rfl) (allCons hg17 (allCons hg20 (allCons (f78_ok hc22) allNil))) (qBlock (qThen ?_))
          have hx13 := of_some hx13
          subst hx13
          refine HT.reg (rs := [⟨none, .no⟩, ⟨none, .no⟩]) (st' := ⟨[(31, .one (.dat (.int .i64) (wadd .i64 s7.2 (1 : Int)))), (58, .one (.dat (.int .i64) (wadd .i64 s7.2 (1 : Int)))), (8, .one (.dat (.flt .f32) (fop .mul .f32 (fop .mul .f32 s7.1 y18) y21))), (57, .one (.dat (.flt .f32) (fop .mul .f32 (fop .mul .f32 s7.1 y18) y21))), (56, .one (.dat (.flt .f32) y21)), (55, .one (.dat (.int .i64) (List.getD a2 (Int.toNat (wadd .i64 s7.2 (1 : Int))) (0 : Int)))), (54, .one (.ip (.int .i64) (List.getD a2 (Int.toNat (wadd .i64 s7.2 (1 : Int))) (0 : Int)) 0)), (53, .one (.dat (.int .i64) (wadd .i64 s7.2 (1 : Int)))), (52, .one (.dat (.int .i64) s7.2)), (51, .one (.dat (.sl (.int .i64)) a2)), (50, .one (.dat (.int .i64) (List.getD a2 (Int.toNat s7.2) (0 : Int)))), (49, .one (.ip (.int .i64) (List.getD a2 (Int.toNat s7.2) (0 : Int)) 0)), (48, .one (.dat (.int .i64) s7.2)), (47, .one (.dat (.sl (.int .i64)) a2)), (46, .agg [.dat (.int .i64) a0.1, .dat (.int .i64) a0.2.1, .dat (.sl (.flt .f32)) a0.2.2.1, .dat (.sl (.flt .f32)) a0.2.2.2.1, .dat (.sl (.flt .f32)) a0.2.2.2.2]), (45, .one (.dat (.flt .f32) (fop .mul .f32 s7.1 y18))), (2, .one (.dat (.sl (.int .i64)) a2)), (3, .one (.ptr 0 0)), (8, .one (.dat (.flt .f32) (fop .mul .f32 s7.1 y18))), (9, .one (.dat (.int .i64) s7.2)), (29, .one (.dat (.sl (.int .i64)) a1)), (30, .one (.dat (.int .i64) (lenI a1))), (31, .one (.dat (.int .i64) s7.2))], [(0, .box [.dat (.int .i64) a0.1, .dat (.int .i64) a0.2.1, .dat (.sl (.flt .f32)) a0.2.2.1, .dat (.sl (.flt .f32)) a0.2.2.2.1, .dat (.sl (.flt .f32)) a0.2.2.2.2])], 1⟩) hP hN (by kernel_rfl) allNil (qLoopN ⟨((fop .mul .f32 (fop .mul .f32 s7.1 y18) y21), (wadd .i64 s7.2 (1 : Int))), rfl, Le.cv (s := ⟨[(0, 0)], [], [], false⟩) (own := []) (ps := [a2 = a2, (fop .mul .f32 (fop .mul .f32 s7.1 y18) y21) = (fop .mul .f32 (fop .mul .f32 s7.1 y18) y21), a1 = a1, (lenI a1) = (lenI a1), (wadd .i64 s7.2 (1 : Int)) = (wadd .i64 s7.2 (1 : Int)), a0.1 = a0.1, a0.2.1 = a0.2.1, a0.2.2.1 = a0.2.2.1, a0.2.2.2.1 = a0.2.2.2.1, a0.2.2.2.2 = a0.2.2.2.2]) (st' := ⟨[(2, .one (.dat (.sl (.int .i64)) a2)), (3, .one (.ptr 0 0)), (8, .one (.dat (.flt .f32) (fop .mul .f32 (fop .mul .f32 s7.1 y18) y21))), (29, .one (.dat (.sl (.int .i64)) a1)), (30, .one (.dat (.int .i64) (lenI a1))), (31, .one (.dat (.int .i64) (wadd .i64 s7.2 (1 : Int))))], [(0, .box [.dat (.int .i64) a0.1, .dat (.int .i64) a0.2.1, .dat (.sl (.flt .f32)) a0.2.2.1, .dat (.sl (.flt .f32)) a0.2.2.2.1, .dat (.sl (.flt .f32)) a0.2.2.2.2])], 1⟩) hO (fun h => by cases h) (by kernel_rfl) ⟨rfl, rfl, rfl, rfl, rfl, rfl, rfl, rfl, rfl, rfl, trivial⟩⟩)
        · refine HT.cond0 rfl hb15 ?_
          have hx13 := of_some hx13
          subst hx13
          refine (Le.cv (s := ⟨[], [], [], false⟩) (own := []) (ps := [s7.1 = s7.1]) (st' := ⟨[(8, .one (.dat (.flt .f32) s7.1))], [], 0⟩) hO (fun h => by cases h) (by kernel_rfl) ⟨rfl, trivial⟩).ht ?_
          exact HT.exit (qThenE (qLoopE (hk14 s7.1 rfl)))
  · obtain ⟨y24, hc25, hT3⟩ := of_bind hT3
    rcases of_bif hT3 with ⟨hb26, hT3⟩ | ⟨hb26, hT3⟩
    · refine HT.reg (rs := [⟨none, .no⟩, ⟨none, .no⟩, ⟨none, .call [.imm (.st (.pair (.int .i64) (.pair (.int .i64) (.pair (.sl (.flt .f32)) (.pair (.sl (.flt .f32)) (.sl (.flt .f32))))))), .imm (.sl (.int .i64))] [⟨false, .bool, y24⟩] []⟩, ⟨none, .no⟩, ⟨none, .no⟩, ⟨some true, .no⟩, ⟨some true, .no⟩, ⟨some true, .no⟩, ⟨some true, .no⟩, ⟨some true, .no⟩, ⟨none, .tv true⟩]) (st' := ⟨[(21, .one (.dat .bool true)), (20, .und), (19, .und), (18, .und), (17, .und), (16, .und), (15, .one (.dat .bool (!y24))), (14, .one (.dat .bool (!y24))), (13, .one (.dat .bool y24)), (12, .one (.dat (.sl (.int .i64)) a1)), (11, .agg [.dat (.int .i64) a0.1, .dat (.int .i64) a0.2.1, .dat (.sl (.flt .f32)) a0.2.2.1, .dat (.sl (.flt .f32)) a0.2.2.2.1, .dat (.sl (.flt .f32)) a0.2.2.2.2]), (1, .one (.dat (.sl (.int .i64)) a1)), (2, .one (.dat (.sl (.int .i64)) a2)), (3, .one (.ptr 0 0))], [(0, .box [.dat (.int .i64) a0.1, .dat (.int .i64) a0.2.1, .dat (.sl (.flt .f32)) a0.2.2.1, .dat (.sl (.flt .f32)) a0.2.2.2.1, .dat (.sl (.flt .f32)) a0.2.2.2.2])], 1⟩) hP hN (by kernel_rfl) (allCons (f75_ok hc25) (allCons hb26 (allCons hb26 (allCons hb26 (allCons hb26 (allCons hb26 (allCons hb26 allNil))))))) (qThen ?_)
      exact (Le.cv (s := ⟨[(0, 0)], [], [], false⟩) (own := []) (ps := [a1 = a1, a2 = a2, true = true, a0.1 = a0.1, a0.2.1 = a0.2.1, a0.2.2.1 = a0.2.2.1, a0.2.2.2.1 = a0.2.2.2.1, a0.2.2.2.2 = a0.2.2.2.2]) (st' := ⟨[(1, .one (.dat (.sl (.int .i64)) a1)), (2, .one (.dat (.sl (.int .i64)) a2)), (3, .one (.ptr 0 0)), (21, .one (.dat .bool true))], [(0, .box [.dat (.int .i64) a0.1, .dat (.int .i64) a0.2.1, .dat (.sl (.flt .f32)) a0.2.2.1, .dat (.sl (.flt .f32)) a0.2.2.2.1, .dat (.sl (.flt .f32)) a0.2.2.2.2])], 1⟩) hO (fun h => by cases h) (by kernel_rfl) ⟨rfl, rfl, rfl, rfl, rfl, rfl, rfl, rfl, trivial⟩).ht (cont true (of_some hT3))
    · obtain ⟨y27, hc28, hT3⟩ := of_bind hT3
      refine HT.reg (rs := [⟨none, .no⟩, ⟨none, .no⟩, ⟨none, .call [.imm (.st (.pair (.int .i64) (.pair (.int .i64) (.pair (.sl (.flt .f32)) (.pair (.sl (.flt .f32)) (.sl (.flt .f32))))))), .imm (.sl (.int .i64))] [⟨false, .bool, y24⟩] []⟩, ⟨none, .no⟩, ⟨none, .no⟩, ⟨some false, .no⟩, ⟨some false, .no⟩, ⟨some false, .no⟩, ⟨some false, .call [.imm (.st (.pair (.int .i64) (.pair (.int .i64) (.pair (.sl (.flt .f32)) (.pair (.sl (.flt .f32)) (.sl (.flt .f32))))))), .imm (.sl (.int .i64)), .imm (.sl (.int .i64))] [⟨false, .bool, y27⟩] []⟩, ⟨some false, .no⟩, ⟨none, .tv false⟩]) (st' := ⟨[(21, .one (.dat .bool (!y27))), (20, .one (.dat .bool (!y27))), (19, .one (.dat .bool y27)), (18, .one (.dat (.sl (.int .i64)) a2)), (17, .one (.dat (.sl (.int .i64)) a1)), (16, .agg [.dat (.int .i64) a0.1, .dat (.int .i64) a0.2.1, .dat (.sl (.flt .f32)) a0.2.2.1, .dat (.sl (.flt .f32)) a0.2.2.2.1, .dat (.sl (.flt .f32)) a0.2.2.2.2]), (15, .one (.dat .bool (!y24))), (14, .one (.dat .bool (!y24))), (13, .one (.dat .bool y24)), (12, .one (.dat (.sl (.int .i64)) a1)), (11, .agg [.dat (.int .i64) a0.1, .dat (.int .i64) a0.2.1, .dat (.sl (.flt .f32)) a0.2.2.1, .dat (.sl (.flt .f32)) a0.2.2.2.1, .dat (.sl (.flt .f32)) a0.2.2.2.2]), (1, .one (.dat (.sl (.int .i64)) a1)), (2, .one (.dat (.sl (.int .i64)) a2)), (3, .one (.ptr 0 0))], [(0, .box [.dat (.int .i64) a0.1, .dat (.int .i64) a0.2.1, .dat (.sl (.flt .f32)) a0.2.2.1, .dat (.sl (.flt .f32)) a0.2.2.2.1, .dat (.sl (.flt .f32)) a0.2.2.2.2])], 1⟩) hP hN (by kernel_rfl) (allCons (f75_ok hc25) (allCons hb26 (allCons hb26 (allCons hb26 (allCons hb26 (allCons (f76_ok hc28) (allCons hb26 (allCons hb26 allNil)))))))) (qThen ?_)
      exact (Le.cv (s := ⟨[(0, 0)], [], [], false⟩) (own := []) (ps := [a1 = a1, a2 = a2, (!y27) = (!y27), a0.1 = a0.1, a0.2.1 = a0.2.1, a0.2.2.1 = a0.2.2.1, a0.2.2.2.1 = a0.2.2.2.1, a0.2.2.2.2 = a0.2.2.2.2]) (st' := ⟨[(1, .one (.dat (.sl (.int .i64)) a1)), (2, .one (.dat (.sl (.int .i64)) a2)), (3, .one (.ptr 0 0)), (21, .one (.dat .bool (!y27)))], [(0, .box [.dat (.int .i64) a0.1, .dat (.int .i64) a0.2.1, .dat (.sl (.flt .f32)) a0.2.2.1, .dat (.sl (.flt .f32)) a0.2.2.2.1, .dat (.sl (.flt .f32)) a0.2.2.2.2])], 1⟩) hO (fun h => by cases h) (by kernel_rfl) ⟨rfl, rfl, rfl, rfl, rfl, rfl, rfl, rfl, trivial⟩).ht (cont (!y27) (of_some hT3))

noncomputable def spec_l02Plain_B1 (a0 : Int × Int × List Int × List Bool) (s5 : Int) : Option ((Int) ⊕ (Unit ⊕ Unit)) :=
  bif (decide (s5 < (lenI a0.2.2.1))) then
    guardP ((0 : Int) ≤ s5 ∧ s5 < lenI a0.2.2.1) (
      (spec_l00In (List.getD a0.2.2.1 (Int.toNat s5) (0 : Int)) (0 : Int) (wsub .i64 a0.1 (1 : Int))).bind fun y14 =>
      bif (!y14) then
        some (.inr (.inr ()))
      else
        some (.inl (wadd .i64 s5 (1 : Int))))
  else
    some (.inr (.inl ()))

noncomputable def spec_l02Plain (a0 : Int × Int × List Int × List Bool) : Option (Bool) :=
  (show Option (Bool) from
    (spec_l00In a0.1 (1 : Int) (64 : Int)).bind fun y18 =>
    bif (!y18) then
      some true
    else
      (spec_l00In a0.2.1 (1 : Int) (4 : Int)).bind fun y21 =>
      bif (!y21) then
        some true
      else
        bif ((lenI a0.2.2.1) != (wmul .i64 a0.1 a0.2.1)) then
          some true
        else
          some ((lenI a0.2.2.2) != a0.1)).bind fun v1 =>
  bif v1 then
    some false
  else
    (rounds (spec_l02Plain_B1 a0) (0 : Int)).bind fun r6 => match r6 with
      | .inl r7 =>
        some true
      | .inr r8 =>
        some false

theorem f88_ok {a0 : Int × Int × List Int × List Bool} {r : Bool} (hr : spec_l02Plain a0 = some r) : CallOK Try.prog 88 [.pimm (.st (.pair (.int .i64) (.pair (.int .i64) (.pair (.sl (.int .i64)) (.sl .bool))))) a0] [⟨false, .bool, r⟩] [] := by
  unfold spec_l02Plain at hr
  refine CallOK.of_body (ts := [(false, .bool)]) Try.func88 rfl (by kernel_rfl) (Nat.le_of_ble_eq_true (by kernel_rfl)) fun cx hP hN hO hF => ?_
  have hO : cx.own.map Prod.fst = [] := hO
  have hF : cx.F = [] := hF rfl
  show HT cx ⟨[(0, .one (.ip (.st (.pair (.int .i64) (.pair (.int .i64) (.pair (.sl (.int .i64)) (.sl .bool))))) a0 0))], [], 0⟩ _ _
  refine HT.reg1 [0] [⟨none, .no⟩] ⟨[(0, .one (.ip (.st (.pair (.int .i64) (.pair (.int .i64) (.pair (.sl (.int .i64)) (.sl .bool))))) a0 0))], [], 0⟩ hP hN (by kernel_rfl) allNil ?_
  refine HT.seq ?_
  obtain ⟨v1', hT3, hr⟩ := of_bind hr
  refine HT.join (fun (v1 : Bool) => ⟨[(0, .one (.ip (.st (.pair (.int .i64) (.pair (.int .i64) (.pair (.sl (.int .i64)) (.sl .bool))))) a0 0)), (46, .one (.dat .bool v1))], [], 0⟩) (fun v => v = v1') (fun v1 hv2 => ?_) (fun cont => ?_)
  · subst hv2
    rcases of_bif hr with ⟨hb4, hr⟩ | ⟨hb4, hr⟩
    · refine HT.cond1 rfl hb4 ?_
      refine HT.reg1 [2] [⟨none, .no⟩] ⟨[(2, .one (.dat .bool false))], [], 0⟩ hP hN (by kernel_rfl) allNil ?_
      have hr := of_some hr
      subst hr
      exact HT.ret (qThenR ⟨[.one (.dat .bool false)], [], [], by kernel_rfl, by kernel_rfl, rfl, (.inl rfl), by kernel_rfl, trivial⟩)
    · refine HT.cond0 rfl hb4 ?_
      refine HT.skip (qThen ?_)
      refine HT.seq ?_
      refine HT.reg1 [0, 3] [⟨none, .no⟩] ⟨[(0, .one (.ip (.st (.pair (.int .i64) (.pair (.int .i64) (.pair (.sl (.int .i64)) (.sl .bool))))) a0 0)), (3, .one (.dat (.int .i64) (0 : Int)))], [], 0⟩ hP hN (by kernel_rfl) allNil ?_
      refine HT.block ?_
      obtain ⟨r6, hL17, hr⟩ := of_bind hr
      refine (Le.cv (s := ⟨[], [], [], false⟩) (own := []) (ps := [a0 = a0, (0 : Int) = (0 : Int)]) (st' := ⟨[(0, .one (.ip (.st (.pair (.int .i64) (.pair (.int .i64) (.pair (.sl (.int .i64)) (.sl .bool))))) a0 0)), (3, .one (.dat (.int .i64) (0 : Int)))], [], 0⟩) hO (fun h => by cases h) (by kernel_rfl) ⟨rfl, rfl, trivial⟩).ht ?_
      refine HT.loopE (s := (0 : Int)) (fun (s5 : Int) => ⟨[(0, .one (.ip (.st (.pair (.int .i64) (.pair (.int .i64) (.pair (.sl (.int .i64)) (.sl .bool))))) a0 0)), (3, .one (.dat (.int .i64) s5))], [], 0⟩) (fun (r6 : Unit ⊕ Unit) => match r6 with | .inl r7 => (.exit 0, ⟨[], [], 0⟩) | .inr r8 => (.ret, ⟨[(2, .one (.dat .bool false))], [], 0⟩)) hL17 ?_ (fun s5 x9 hx10 hk11 => ?_)
      · rcases r6 with r7 | r8
        · refine (qBlockX (qThen ?_))
          refine HT.reg1 [2] [⟨none, .no⟩] ⟨[(2, .one (.dat .bool true))], [], 0⟩ hP hN (by kernel_rfl) allNil ?_
          have hr := of_some hr
          subst hr
          exact HT.ret ⟨[.one (.dat .bool true)], [], [], by kernel_rfl, by kernel_rfl, rfl, (.inl rfl), by kernel_rfl, trivial⟩
        · have hr := of_some hr
          subst hr
          exact (qBlockR (qThenR ⟨[.one (.dat .bool false)], [], [], by kernel_rfl, by kernel_rfl, rfl, (.inl rfl), by kernel_rfl, trivial⟩))
      · refine HT.seq ?_
        refine HT.reg1 [0, 3, 53] [⟨none, .no⟩, ⟨none, .no⟩, ⟨none, .no⟩, ⟨none, .no⟩, ⟨none, .no⟩, ⟨none, .no⟩, ⟨none, .no⟩] ⟨[(0, .one (.ip (.st (.pair (.int .i64) (.pair (.int .i64) (.pair (.sl (.int .i64)) (.sl .bool))))) a0 0)), (3, .one (.dat (.int .i64) s5)), (53, .one (.dat .bool (decide (s5 < (lenI a0.2.2.1)))))], [], 0⟩ hP hN (by kernel_rfl) allNil ?_
        rcases of_bif hx10 with ⟨hb12, hx10⟩ | ⟨hb12, hx10⟩
        · refine HT.cond1 rfl hb12 ?_
          refine HT.skip (qThen ?_)
          refine HT.seq ?_
          refine HT.block ?_
          obtain ⟨hg13, hx10⟩ := of_guard hx10
          obtain ⟨y14, hc15, hx10⟩ := of_bind hx10
          refine HT.drw1 [0, 3, 69] 12 [⟨⟨none, .no⟩, []⟩, ⟨⟨none, .no⟩, [0]⟩, ⟨⟨none, .no⟩, [0, 1]⟩, ⟨⟨none, .no⟩, [0, 1, 2]⟩, ⟨⟨none, .no⟩, []⟩, ⟨⟨none, .no⟩, [0, 1, 2, 3, 4]⟩, ⟨⟨none, .no⟩, [0, 1, 2, 3, 4, 5]⟩, ⟨⟨none, .no⟩, []⟩, ⟨⟨none, .no⟩, [7]⟩, ⟨⟨none, .no⟩, [7, 8]⟩, ⟨⟨none, .no⟩, [7, 8, 9]⟩, ⟨⟨none, .no⟩, [7, 8, 9, 10]⟩] [[0, 1, 2, 3, 4, 5, 6, 7, 8, 9, 10, 11], [0, 1, 2, 3, 4, 5, 6, 7, 8, 9, 10, 11, 12]] [⟨none, .call [.imm (.int .i64), .imm (.int .i64), .imm (.int .i64)] [⟨false, .bool, y14⟩] []⟩, ⟨none, .no⟩] ⟨[(0, .one (.ip (.st (.pair (.int .i64) (.pair (.int .i64) (.pair (.sl (.int .i64)) (.sl .bool))))) a0 0)), (3, .one (.dat (.int .i64) s5)), (69, .one (.dat .bool (!y14)))], [], 0⟩ hP hN (by kernel_rfl) (by kernel_rfl) (allCons hg13 (allCons (f80_ok hc15) allNil)) ?_
          rcases of_bif hx10 with ⟨hb16, hx10⟩ | ⟨hb16, hx10⟩
          · refine HT.cond1 rfl hb16 ?_
            refine HT.reg1 [2] [⟨none, .no⟩] ⟨[(2, .one (.dat .bool false))], [], 0⟩ hP hN (by kernel_rfl) allNil ?_
            have hx10 := of_some hx10
            subst hx10
            refine (Le.cv (s := ⟨[], [], [], false⟩) (own := []) (ps := [false = false]) (st' := ⟨[(2, .one (.dat .bool false))], [], 0⟩) hO (fun h => by cases h) (by kernel_rfl) ⟨rfl, trivial⟩).ht ?_
            exact HT.ret (qBlockR (qThenR (qLoopR (hk11 (.inr ()) rfl))))
          · refine HT.cond0 rfl hb16 ?_
            refine HT.skip (qBlock (qThen ?_))
            have hx10 := of_some hx10
            subst hx10
            refine HT.reg (rs := [⟨none, .no⟩, ⟨none, .no⟩, ⟨none, .no⟩]) (st' := ⟨[(3, .one (.dat (.int .i64) (wadd .i64 s5 (1 : Int)))), (55, .one (.dat (.int .i64) (wadd .i64 s5 (1 : Int)))), (54, .one (.dat (.int .i64) s5)), (0, .one (.ip (.st (.pair (.int .i64) (.pair (.int .i64) (.pair (.sl (.int .i64)) (.sl .bool))))) a0 0)), (3, .one (.dat (.int .i64) s5)), (69, .one (.dat .bool (!y14)))], [], 0⟩) hP hN (by kernel_rfl) allNil (qLoopN ⟨(wadd .i64 s5 (1 : Int)), rfl, Le.cv (s := ⟨[], [], [], false⟩) (own := []) (ps := [a0 = a0, (wadd .i64 s5 (1 : Int)) = (wadd .i64 s5 (1 : Int))]) (st' := ⟨[(0, .one (.ip (.st (.pair (.int .i64) (.pair (.int .i64) (.pair (.sl (.int .i64)) (.sl .bool))))) a0 0)), (3, .one (.dat (.int .i64) (wadd .i64 s5 (1 : Int))))], [], 0⟩) hO (fun h => by cases h) (by kernel_rfl) ⟨rfl, rfl, trivial⟩⟩)
        · refine HT.cond0 rfl hb12 ?_
          have hx10 := of_some hx10
          subst hx10
          refine (Le.cv (s := ⟨[], [], [], false⟩) (own := []) (ps := []) (st' := ⟨[], [], 0⟩) hO (fun h => by cases h) (by kernel_rfl) trivial).ht ?_
          exact HT.exit (qThenE (qLoopE (hk11 (.inl ()) rfl)))
  · obtain ⟨y18, hc19, hT3⟩ := of_bind hT3
    rcases of_bif hT3 with ⟨hb20, hT3⟩ | ⟨hb20, hT3⟩
    · refine drawS (h := 41) (hrs := [⟨⟨none, .no⟩, []⟩, ⟨⟨none, .no⟩, [0]⟩, ⟨⟨none, .no⟩, [0, 1]⟩, ⟨⟨none, .no⟩, [0, 1, 2]⟩, ⟨⟨none, .call [.imm (.int .i64), .imm (.int .i64), .imm (.int .i64)] [⟨false, .bool, y18⟩] []⟩, [0, 1, 2, 3]⟩, ⟨⟨none, .no⟩, [0, 1, 2, 3, 4]⟩, ⟨⟨none, .no⟩, [0, 1, 2, 3, 4, 5]⟩, ⟨⟨some true, .no⟩, [0, 1, 2, 3, 4, 5, 6]⟩, ⟨⟨some true, .no⟩, [0, 1, 2, 3, 4, 5, 6, 7]⟩, ⟨⟨some true, .no⟩, [0, 1, 2, 3, 4, 5, 6, 7, 8]⟩, ⟨⟨some true, .no⟩, [0, 1, 2, 3, 4, 5, 6, 7, 8, 9]⟩, ⟨⟨some true, .no⟩, [0, 1, 2, 3, 4, 5, 6, 7, 8, 9, 10]⟩, ⟨⟨some true, .no⟩, [0, 1, 2, 3, 4, 5, 6, 7, 8, 9, 10, 11]⟩, ⟨⟨none, .tv true⟩, [0, 1, 2, 3, 4, 5, 6, 7, 8, 9, 10, 11, 12]⟩, ⟨⟨none, .no⟩, [0, 1, 2, 3, 4, 5, 6, 7, 8, 9, 10, 11, 12, 13]⟩, ⟨⟨some true, .no⟩, [0, 1, 2, 3, 4, 5, 6, 7, 8, 9, 10, 11, 12, 13, 14]⟩, ⟨⟨some true, .no⟩, [0, 1, 2, 3, 4, 5, 6, 7, 8, 9, 10, 11, 12, 13, 14, 15]⟩, ⟨⟨some true, .no⟩, [0, 1, 2, 3, 4, 5, 6, 7, 8, 9, 10, 11, 12, 13, 14, 15, 16]⟩, ⟨⟨some true, .no⟩, [0, 1, 2, 3, 4, 5, 6, 7, 8, 9, 10, 11, 12, 13, 14, 15, 16, 17]⟩, ⟨⟨some true, .no⟩, [0, 1, 2, 3, 4, 5, 6, 7, 8, 9, 10, 11, 12, 13, 14, 15, 16, 17, 18]⟩, ⟨⟨some true, .no⟩, [0, 1, 2, 3, 4, 5, 6, 7, 8, 9, 10, 11, 12, 13, 14]⟩, ⟨⟨some true, .no⟩, [0, 1, 2, 3, 4, 5, 6, 7, 8, 9, 10, 11, 12, 13, 14, 20]⟩, ⟨⟨some true, .no⟩, [0, 1, 2, 3, 4, 5, 6, 7, 8, 9, 10, 11, 12, 13, 14, 20, 21]⟩, ⟨⟨some true, .no⟩, [0, 1, 2, 3, 4, 5, 6, 7, 8, 9, 10, 11, 12, 13, 14, 20, 21, 22]⟩, ⟨⟨some true, .no⟩, [0, 1, 2, 3, 4, 5, 6, 7, 8, 9, 10, 11, 12, 13, 14]⟩, ⟨⟨some true, .no⟩, [0, 1, 2, 3, 4, 5, 6, 7, 8, 9, 10, 11, 12, 13, 14, 24]⟩, ⟨⟨some true, .no⟩, [0, 1, 2, 3, 4, 5, 6, 7, 8, 9, 10, 11, 12, 13, 14, 24, 25]⟩, ⟨⟨some true, .no⟩, [0, 1, 2, 3, 4, 5, 6, 7, 8, 9, 10, 11, 12, 13, 14, 24, 25, 26]⟩, ⟨⟨some true, .no⟩, [0, 1, 2, 3, 4, 5, 6, 7, 8, 9, 10, 11, 12, 13, 14, 20, 21, 22, 23, 24, 25, 26, 27]⟩, ⟨⟨some true, .no⟩, [0, 1, 2, 3, 4, 5, 6, 7, 8, 9, 10, 11, 12, 13, 14, 15, 16, 17, 18, 19, 20, 21, 22, 23, 24, 25, 26, 27, 28]⟩, ⟨⟨none, .tv true⟩, [0, 1, 2, 3, 4, 5, 6, 7, 8, 9, 10, 11, 12, 13, 14, 15, 16, 17, 18, 19, 20, 21, 22, 23, 24, 25, 26, 27, 28, 29]⟩, ⟨⟨none, .no⟩, [0, 1, 2, 3, 4, 5, 6, 7, 8, 9, 10, 11, 12, 13, 14, 15, 16, 17, 18, 19, 20, 21, 22, 23, 24, 25, 26, 27, 28, 29, 30]⟩, ⟨⟨some true, .no⟩, [0, 1, 2, 3, 4, 5, 6, 7, 8, 9, 10, 11, 12, 13, 14, 15, 16, 17, 18, 19, 20, 21, 22, 23, 24, 25, 26, 27, 28, 29, 30, 31]⟩, ⟨⟨some true, .no⟩, [0, 1, 2, 3, 4, 5, 6, 7, 8, 9, 10, 11, 12, 13, 14, 15, 16, 17, 18, 19, 20, 21, 22, 23, 24, 25, 26, 27, 28, 29, 30, 31, 32]⟩, ⟨⟨some true, .no⟩, [0, 1, 2, 3, 4, 5, 6, 7, 8, 9, 10, 11, 12, 13, 14, 15, 16, 17, 18, 19, 20, 21, 22, 23, 24, 25, 26, 27, 28, 29, 30, 31, 32, 33]⟩, ⟨⟨some true, .no⟩, [0, 1, 2, 3, 4, 5, 6, 7, 8, 9, 10, 11, 12, 13, 14, 15, 16, 17, 18, 19, 20, 21, 22, 23, 24, 25, 26, 27, 28, 29, 30, 31, 32, 33, 34]⟩, ⟨⟨some true, .no⟩, [0, 1, 2, 3, 4, 5, 6, 7, 8, 9, 10, 11, 12, 13, 14, 15, 16, 17, 18, 19, 20, 21, 22, 23, 24, 25, 26, 27, 28, 29, 30, 31, 32, 33, 34, 35]⟩, ⟨⟨some true, .no⟩, [0, 1, 2, 3, 4, 5, 6, 7, 8, 9, 10, 11, 12, 13, 14, 15, 16, 17, 18, 19, 20, 21, 22, 23, 24, 25, 26, 27, 28, 29, 30, 31]⟩, ⟨⟨some true, .no⟩, [0, 1, 2, 3, 4, 5, 6, 7, 8, 9, 10, 11, 12, 13, 14, 15, 16, 17, 18, 19, 20, 21, 22, 23, 24, 25, 26, 27, 28, 29, 30, 31, 37]⟩, ⟨⟨some true, .no⟩, [0, 1, 2, 3, 4, 5, 6, 7, 8, 9, 10, 11, 12, 13, 14, 15, 16, 17, 18, 19, 20, 21, 22, 23, 24, 25, 26, 27, 28, 29, 30, 31, 37, 38]⟩, ⟨⟨some true, .no⟩, [0, 1, 2, 3, 4, 5, 6, 7, 8, 9, 10, 11, 12, 13, 14, 15, 16, 17, 18, 19, 20, 21, 22, 23, 24, 25, 26, 27, 28, 29, 30, 31, 37, 38, 39]⟩]) (tds := [[0, 1, 2, 3, 4, 5, 6, 7, 8, 9, 10, 11, 12, 13, 14, 15, 16, 17, 18, 19, 20, 21, 22, 23, 24, 25, 26, 27, 28, 29, 30, 31, 32, 33, 34, 35, 36, 37, 38, 39, 40], [0, 1, 2, 3, 4, 5, 6, 7, 8, 9, 10, 11, 12, 13, 14, 15, 16, 17, 18, 19, 20, 21, 22, 23, 24, 25, 26, 27, 28, 29, 30, 31, 32, 33, 34, 35, 36, 37, 38, 39, 40, 41]]) (rs := [⟨some true, .no⟩, ⟨none, .tv true⟩]) (st' := ⟨[(46, .one (.dat .bool true)), (45, .und), (44, .und), (43, .und), (42, .und), (41, .und), (40, .und), (39, .und), (38, .und), (37, .und), (36, .und), (35, .one (.dat .bool true)), (34, .one (.dat .bool true)), (33, .und), (32, .und), (31, .und), (30, .und), (29, .und), (28, .und), (27, .und), (26, .und), (25, .und), (24, .und), (23, .und), (22, .und), (21, .und), (20, .und), (19, .und), (18, .one (.dat .bool true)), (17, .one (.dat .bool true)), (16, .und), (15, .und), (14, .und), (13, .und), (12, .und), (11, .und), (10, .one (.dat .bool (!y18))), (9, .one (.dat .bool (!y18))), (8, .one (.dat .bool y18)), (7, .one (.dat (.int .i64) a0.1)), (6, .one (.ip (.st (.pair (.int .i64) (.pair (.int .i64) (.pair (.sl (.int .i64)) (.sl .bool))))) a0 0)), (5, .one (.ip (.st (.pair (.int .i64) (.pair (.int .i64) (.pair (.sl (.int .i64)) (.sl .bool))))) a0 0)), (4, .one (.ip (.st (.pair (.int .i64) (.pair (.int .i64) (.pair (.sl (.int .i64)) (.sl .bool))))) a0 0)), (0, .one (.ip (.st (.pair (.int .i64) (.pair (.int .i64) (.pair (.sl (.int .i64)) (.sl .bool))))) a0 0))], [], 0⟩) hP hN (by kernel_rfl) (by kernel_rfl) (allCons (f80_ok hc19) (allCons hb20 (allCons hb20 (allCons hb20 (allCons hb20 (allCons hb20 (allCons hb20 (allCons hb20 (allCons (rfl : true = true) (allCons (rfl : true = true) (allCons (rfl : true = true) (allCons (rfl : true = true) (allCons (rfl : true = true) (allCons (rfl : true = true) (allCons (rfl : true = true) (allCons (rfl : true = true) (allCons (rfl : true = true) (allCons (rfl : true = true) (allCons (rfl : true = true) (allCons (rfl : true = true) (allCons (rfl : true = true) (allCons (rfl : true = true) (allCons (rfl : true = true) (allCons (rfl : true = true) (allCons (rfl : true = true) (allCons (rfl : true = true) (allCons (rfl : true = true) (allCons (rfl : true = true) (allCons (rfl : true = true) (allCons (rfl : true = true) (allCons (rfl : true = true) (allCons (rfl : true = true) (allCons (rfl : true = true) (allCons (rfl : true = true) (allCons (rfl : true = true) allNil))))))))))))))))))))))))))))))))))) (qThen ?_)
      exact (Le.cv (s := ⟨[], [], [], false⟩) (own := []) (ps := [a0 = a0, true = true]) (st' := ⟨[(0, .one (.ip (.st (.pair (.int .i64) (.pair (.int .i64) (.pair (.sl (.int .i64)) (.sl .bool))))) a0 0)), (46, .one (.dat .bool true))], [], 0⟩) hO (fun h => by cases h) (by kernel_rfl) ⟨rfl, rfl, trivial⟩).ht (cont true (of_some hT3))
    · obtain ⟨y21, hc22, hT3⟩ := of_bind hT3
      rcases of_bif hT3 with ⟨hb23, hT3⟩ | ⟨hb23, hT3⟩
      · refine drawS (h := 41) (hrs := [⟨⟨none, .no⟩, []⟩, ⟨⟨none, .no⟩, [0]⟩, ⟨⟨none, .no⟩, [0, 1]⟩, ⟨⟨none, .no⟩, [0, 1, 2]⟩, ⟨⟨none, .call [.imm (.int .i64), .imm (.int .i64), .imm (.int .i64)] [⟨false, .bool, y18⟩] []⟩, [0, 1, 2, 3]⟩, ⟨⟨none, .no⟩, [0, 1, 2, 3, 4]⟩, ⟨⟨none, .no⟩, [0, 1, 2, 3, 4, 5]⟩, ⟨⟨some false, .no⟩, [0, 1, 2, 3, 4, 5, 6]⟩, ⟨⟨some false, .no⟩, [0, 1, 2, 3, 4, 5, 6, 7]⟩, ⟨⟨some false, .no⟩, [0, 1, 2, 3, 4, 5, 6, 7, 8]⟩, ⟨⟨some false, .no⟩, [0, 1, 2, 3, 4, 5, 6, 7, 8, 9]⟩, ⟨⟨some false, .call [.imm (.int .i64), .imm (.int .i64), .imm (.int .i64)] [⟨false, .bool, y21⟩] []⟩, [0, 1, 2, 3, 4, 5, 6, 7, 8, 9, 10]⟩, ⟨⟨some false, .no⟩, [0, 1, 2, 3, 4, 5, 6, 7, 8, 9, 10, 11]⟩, ⟨⟨none, .tv false⟩, [0, 1, 2, 3, 4, 5, 6, 7, 8, 9, 10, 11, 12]⟩, ⟨⟨none, .no⟩, [0, 1, 2, 3, 4, 5, 6, 7, 8, 9, 10, 11, 12, 13]⟩, ⟨⟨some true, .no⟩, [0, 1, 2, 3, 4, 5, 6, 7, 8, 9, 10, 11, 12, 13, 14]⟩, ⟨⟨some true, .no⟩, [0, 1, 2, 3, 4, 5, 6, 7, 8, 9, 10, 11, 12, 13, 14, 15]⟩, ⟨⟨some true, .no⟩, [0, 1, 2, 3, 4, 5, 6, 7, 8, 9, 10, 11, 12, 13, 14, 15, 16]⟩, ⟨⟨some true, .no⟩, [0, 1, 2, 3, 4, 5, 6, 7, 8, 9, 10, 11, 12, 13, 14, 15, 16, 17]⟩, ⟨⟨some true, .no⟩, [0, 1, 2, 3, 4, 5, 6, 7, 8, 9, 10, 11, 12, 13, 14, 15, 16, 17, 18]⟩, ⟨⟨some true, .no⟩, [0, 1, 2, 3, 4, 5, 6, 7, 8, 9, 10, 11, 12, 13, 14]⟩, ⟨⟨some true, .no⟩, [0, 1, 2, 3, 4, 5, 6, 7, 8, 9, 10, 11, 12, 13, 14, 20]⟩, ⟨⟨some true, .no⟩, [0, 1, 2, 3, 4, 5, 6, 7, 8, 9, 10, 11, 12, 13, 14, 20, 21]⟩, ⟨⟨some true, .no⟩, [0, 1, 2, 3, 4, 5, 6, 7, 8, 9, 10, 11, 12, 13, 14, 20, 21, 22]⟩, ⟨⟨some true, .no⟩, [0, 1, 2, 3, 4, 5, 6, 7, 8, 9, 10, 11, 12, 13, 14]⟩, ⟨⟨some true, .no⟩, [0, 1, 2, 3, 4, 5, 6, 7, 8, 9, 10, 11, 12, 13, 14, 24]⟩, ⟨⟨some true, .no⟩, [0, 1, 2, 3, 4, 5, 6, 7, 8, 9, 10, 11, 12, 13, 14, 24, 25]⟩, ⟨⟨some true, .no⟩, [0, 1, 2, 3, 4, 5, 6, 7, 8, 9, 10, 11, 12, 13, 14, 24, 25, 26]⟩, ⟨⟨some true, .no⟩, [0, 1, 2, 3, 4, 5, 6, 7, 8, 9, 10, 11, 12, 13, 14, 20, 21, 22, 23, 24, 25, 26, 27]⟩, ⟨⟨some true, .no⟩, [0, 1, 2, 3, 4, 5, 6, 7, 8, 9, 10, 11, 12, 13, 14, 15, 16, 17, 18, 19, 20, 21, 22, 23, 24, 25, 26, 27, 28]⟩, ⟨⟨none, .tv true⟩, [0, 1, 2, 3, 4, 5, 6, 7, 8, 9, 10, 11, 12, 13, 14, 15, 16, 17, 18, 19, 20, 21, 22, 23, 24, 25, 26, 27, 28, 29]⟩, ⟨⟨none, .no⟩, [0, 1, 2, 3, 4, 5, 6, 7, 8, 9, 10, 11, 12, 13, 14, 15, 16, 17, 18, 19, 20, 21, 22, 23, 24, 25, 26, 27, 28, 29, 30]⟩, ⟨⟨some true, .no⟩, [0, 1, 2, 3, 4, 5, 6, 7, 8, 9, 10, 11, 12, 13, 14, 15, 16, 17, 18, 19, 20, 21, 22, 23, 24, 25, 26, 27, 28, 29, 30, 31]⟩, ⟨⟨some true, .no⟩, [0, 1, 2, 3, 4, 5, 6, 7, 8, 9, 10, 11, 12, 13, 14, 15, 16, 17, 18, 19, 20, 21, 22, 23, 24, 25, 26, 27, 28, 29, 30, 31, 32]⟩, ⟨⟨some true, .no⟩, [0, 1, 2, 3, 4, 5, 6, 7, 8, 9, 10, 11, 12, 13, 14, 15, 16, 17, 18, 19, 20, 21, 22, 23, 24, 25, 26, 27, 28, 29, 30, 31, 32, 33]⟩, ⟨⟨some true, .no⟩, [0, 1, 2, 3, 4, 5, 6, 7, 8, 9, 10, 11, 12, 13, 14, 15, 16, 17, 18, 19, 20, 21, 22, 23, 24, 25, 26, 27, 28, 29, 30, 31, 32, 33, 34]⟩, ⟨⟨some true, .no⟩, [0, 1, 2, 3, 4, 5, 6, 7, 8, 9, 10, 11, 12, 13, 14, 15, 16, 17, 18, 19, 20, 21, 22, 23, 24, 25, 26, 27, 28, 29, 30, 31, 32, 33, 34, 35]⟩, ⟨⟨some true, .no⟩, [0, 1, 2, 3, 4, 5, 6, 7, 8, 9, 10, 11, 12, 13, 14, 15, 16, 17, 18, 19, 20, 21, 22, 23, 24, 25, 26, 27, 28, 29, 30, 31]⟩, ⟨⟨some true, .no⟩, [0, 1, 2, 3, 4, 5, 6, 7, 8, 9, 10, 11, 12, 13, 14, 15, 16, 17, 18, 19, 20, 21, 22, 23, 24, 25, 26, 27, 28, 29, 30, 31, 37]⟩, ⟨⟨some true, .no⟩, [0, 1, 2, 3, 4, 5, 6, 7, 8, 9, 10, 11, 12, 13, 14, 15, 16, 17, 18, 19, 20, 21, 22, 23, 24, 25, 26, 27, 28, 29, 30, 31, 37, 38]⟩, ⟨⟨some true, .no⟩, [0, 1, 2, 3, 4, 5, 6, 7, 8, 9, 10, 11, 12, 13, 14, 15, 16, 17, 18, 19, 20, 21, 22, 23, 24, 25, 26, 27, 28, 29, 30, 31, 37, 38, 39]⟩]) (tds := [[0, 1, 2, 3, 4, 5, 6, 7, 8, 9, 10, 11, 12, 13, 14, 15, 16, 17, 18, 19, 20, 21, 22, 23, 24, 25, 26, 27, 28, 29, 30, 31, 32, 33, 34, 35, 36, 37, 38, 39, 40], [0, 1, 2, 3, 4, 5, 6, 7, 8, 9, 10, 11, 12, 13, 14, 15, 16, 17, 18, 19, 20, 21, 22, 23, 24, 25, 26, 27, 28, 29, 30, 31, 32, 33, 34, 35, 36, 37, 38, 39, 40, 41]]) (rs := [⟨some true, .no⟩, ⟨none, .tv true⟩]) (st' := ⟨[(46, .one (.dat .bool true)), (45, .und), (44, .und), (43, .und), (42, .und), (41, .und), (40, .und), (39, .und), (38, .und), (37, .und), (36, .und), (35, .one (.dat .bool true)), (34, .one (.dat .bool true)), (33, .und), (32, .und), (31, .und), (30, .und), (29, .und), (28, .und), (27, .und), (26, .und), (25, .und), (24, .und), (23, .und), (22, .und), (21, .und), (20, .und), (19, .und), (18, .one (.dat .bool (!y21))), (17, .one (.dat .bool (!y21))), (16, .one (.dat .bool (!y21))), (15, .one (.dat .bool y21)), (14, .one (.dat (.int .i64) a0.2.1)), (13, .one (.ip (.st (.pair (.int .i64) (.pair (.int .i64) (.pair (.sl (.int .i64)) (.sl .bool))))) a0 1)), (12, .one (.ip (.st (.pair (.int .i64) (.pair (.int .i64) (.pair (.sl (.int .i64)) (.sl .bool))))) a0 0)), (11, .one (.ip (.st (.pair (.int .i64) (.pair (.int .i64) (.pair (.sl (.int .i64)) (.sl .bool))))) a0 0)), (10, .one (.dat .bool (!y18))), (9, .one (.dat .bool (!y18))), (8, .one (.dat .bool y18)), (7, .one (.dat (.int .i64) a0.1)), (6, .one (.ip (.st (.pair (.int .i64) (.pair (.int .i64) (.pair (.sl (.int .i64)) (.sl .bool))))) a0 0)), (5, .one (.ip (.st (.pair (.int .i64) (.pair (.int .i64) (.pair (.sl (.int .i64)) (.sl .bool))))) a0 0)), (4, .one (.ip (.st (.pair (.int .i64) (.pair (.int .i64) (.pair (.sl (.int .i64)) (.sl .bool))))) a0 0)), (0, .one (.ip (.st (.pair (.int .i64) (.pair (.int .i64) (.pair (.sl (.int .i64)) (.sl .bool))))) a0 0))], [], 0⟩) hP hN (by kernel_rfl) (by kernel_rfl) (allCons (f80_ok hc19) (allCons hb20 (allCons hb20 (allCons hb20 (allCons hb20 (allCons hb20 (allCons (f80_ok hc22) (allCons hb20 (allCons hb20 (allCons hb23 (allCons hb23 (allCons hb23 (allCons hb23 (allCons hb23 (allCons hb23 (allCons hb23 (allCons hb23 (allCons hb23 (allCons hb23 (allCons hb23 (allCons hb23 (allCons hb23 (allCons hb23 (allCons hb23 (allCons hb23 (allCons (rfl : true = true) (allCons (rfl : true = true) (allCons (rfl : true = true) (allCons (rfl : true = true) (allCons (rfl : true = true) (allCons (rfl : true = true) (allCons (rfl : true = true) (allCons (rfl : true = true) (allCons (rfl : true = true) (allCons (rfl : true = true) (allCons (rfl : true = true) allNil)))))))))))))))))))))))))))))))))))) (qThen ?_)
        exact (Le.cv (s := ⟨[], [], [], false⟩) (own := []) (ps := [a0 = a0, true = true]) (st' := ⟨[(0, .one (.ip (.st (.pair (.int .i64) (.pair (.int .i64) (.pair (.sl (.int .i64)) (.sl .bool))))) a0 0)), (46, .one (.dat .bool true))], [], 0⟩) hO (fun h => by cases h) (by kernel_rfl) ⟨rfl, rfl, trivial⟩).ht (cont true (of_some hT3))
      · rcases of_bif hT3 with ⟨hb24, hT3⟩ | ⟨hb24, hT3⟩
        · refine drawS (h := 41) (hrs := [⟨⟨none, .no⟩, []⟩, ⟨⟨none, .no⟩, [0]⟩, ⟨⟨none, .no⟩, [0, 1]⟩, ⟨⟨none, .no⟩, [0, 1, 2]⟩, ⟨⟨none, .call [.imm (.int .i64), .imm (.int .i64), .imm (.int .i64)] [⟨false, .bool, y18⟩] []⟩, [0, 1, 2, 3]⟩, ⟨⟨none, .no⟩, [0, 1, 2, 3, 4]⟩, ⟨⟨none, .no⟩, [0, 1, 2, 3, 4, 5]⟩, ⟨⟨some false, .no⟩, [0, 1, 2, 3, 4, 5, 6]⟩, ⟨⟨some false, .no⟩, [0, 1, 2, 3, 4, 5, 6, 7]⟩, ⟨⟨some false, .no⟩, [0, 1, 2, 3, 4, 5, 6, 7, 8]⟩, ⟨⟨some false, .no⟩, [0, 1, 2, 3, 4, 5, 6, 7, 8, 9]⟩, ⟨⟨some false, .call [.imm (.int .i64), .imm (.int .i64), .imm (.int .i64)] [⟨false, .bool, y21⟩] []⟩, [0, 1, 2, 3, 4, 5, 6, 7, 8, 9, 10]⟩, ⟨⟨some false, .no⟩, [0, 1, 2, 3, 4, 5, 6, 7, 8, 9, 10, 11]⟩, ⟨⟨none, .tv false⟩, [0, 1, 2, 3, 4, 5, 6, 7, 8, 9, 10, 11, 12]⟩, ⟨⟨none, .no⟩, [0, 1, 2, 3, 4, 5, 6, 7, 8, 9, 10, 11, 12, 13]⟩, ⟨⟨some false, .no⟩, [0, 1, 2, 3, 4, 5, 6, 7, 8, 9, 10, 11, 12, 13, 14]⟩, ⟨⟨some false, .no⟩, [0, 1, 2, 3, 4, 5, 6, 7, 8, 9, 10, 11, 12, 13, 14, 15]⟩, ⟨⟨some false, .no⟩, [0, 1, 2, 3, 4, 5, 6, 7, 8, 9, 10, 11, 12, 13, 14, 15, 16]⟩, ⟨⟨some false, .no⟩, [0, 1, 2, 3, 4, 5, 6, 7, 8, 9, 10, 11, 12, 13, 14, 15, 16, 17]⟩, ⟨⟨some false, .no⟩, [0, 1, 2, 3, 4, 5, 6, 7, 8, 9, 10, 11, 12, 13, 14, 15, 16, 17, 18]⟩, ⟨⟨some false, .no⟩, [0, 1, 2, 3, 4, 5, 6, 7, 8, 9, 10, 11, 12, 13, 14]⟩, ⟨⟨some false, .no⟩, [0, 1, 2, 3, 4, 5, 6, 7, 8, 9, 10, 11, 12, 13, 14, 20]⟩, ⟨⟨some false, .no⟩, [0, 1, 2, 3, 4, 5, 6, 7, 8, 9, 10, 11, 12, 13, 14, 20, 21]⟩, ⟨⟨some false, .no⟩, [0, 1, 2, 3, 4, 5, 6, 7, 8, 9, 10, 11, 12, 13, 14, 20, 21, 22]⟩, ⟨⟨some false, .no⟩, [0, 1, 2, 3, 4, 5, 6, 7, 8, 9, 10, 11, 12, 13, 14]⟩, ⟨⟨some false, .no⟩, [0, 1, 2, 3, 4, 5, 6, 7, 8, 9, 10, 11, 12, 13, 14, 24]⟩, ⟨⟨some false, .no⟩, [0, 1, 2, 3, 4, 5, 6, 7, 8, 9, 10, 11, 12, 13, 14, 24, 25]⟩, ⟨⟨some false, .no⟩, [0, 1, 2, 3, 4, 5, 6, 7, 8, 9, 10, 11, 12, 13, 14, 24, 25, 26]⟩, ⟨⟨some false, .no⟩, [0, 1, 2, 3, 4, 5, 6, 7, 8, 9, 10, 11, 12, 13, 14, 20, 21, 22, 23, 24, 25, 26, 27]⟩, ⟨⟨some false, .no⟩, [0, 1, 2, 3, 4, 5, 6, 7, 8, 9, 10, 11, 12, 13, 14, 15, 16, 17, 18, 19, 20, 21, 22, 23, 24, 25, 26, 27, 28]⟩, ⟨⟨none, .tv false⟩, [0, 1, 2, 3, 4, 5, 6, 7, 8, 9, 10, 11, 12, 13, 14, 15, 16, 17, 18, 19, 20, 21, 22, 23, 24, 25, 26, 27, 28, 29]⟩, ⟨⟨none, .no⟩, [0, 1, 2, 3, 4, 5, 6, 7, 8, 9, 10, 11, 12, 13, 14, 15, 16, 17, 18, 19, 20, 21, 22, 23, 24, 25, 26, 27, 28, 29, 30]⟩, ⟨⟨some true, .no⟩, [0, 1, 2, 3, 4, 5, 6, 7, 8, 9, 10, 11, 12, 13, 14, 15, 16, 17, 18, 19, 20, 21, 22, 23, 24, 25, 26, 27, 28, 29, 30, 31]⟩, ⟨⟨some true, .no⟩, [0, 1, 2, 3, 4, 5, 6, 7, 8, 9, 10, 11, 12, 13, 14, 15, 16, 17, 18, 19, 20, 21, 22, 23, 24, 25, 26, 27, 28, 29, 30, 31, 32]⟩, ⟨⟨some true, .no⟩, [0, 1, 2, 3, 4, 5, 6, 7, 8, 9, 10, 11, 12, 13, 14, 15, 16, 17, 18, 19, 20, 21, 22, 23, 24, 25, 26, 27, 28, 29, 30, 31, 32, 33]⟩, ⟨⟨some true, .no⟩, [0, 1, 2, 3, 4, 5, 6, 7, 8, 9, 10, 11, 12, 13, 14, 15, 16, 17, 18, 19, 20, 21, 22, 23, 24, 25, 26, 27, 28, 29, 30, 31, 32, 33, 34]⟩, ⟨⟨some true, .no⟩, [0, 1, 2, 3, 4, 5, 6, 7, 8, 9, 10, 11, 12, 13, 14, 15, 16, 17, 18, 19, 20, 21, 22, 23, 24, 25, 26, 27, 28, 29, 30, 31, 32, 33, 34, 35]⟩, ⟨⟨some true, .no⟩, [0, 1, 2, 3, 4, 5, 6, 7, 8, 9, 10, 11, 12, 13, 14, 15, 16, 17, 18, 19, 20, 21, 22, 23, 24, 25, 26, 27, 28, 29, 30, 31]⟩, ⟨⟨some true, .no⟩, [0, 1, 2, 3, 4, 5, 6, 7, 8, 9, 10, 11, 12, 13, 14, 15, 16, 17, 18, 19, 20, 21, 22, 23, 24, 25, 26, 27, 28, 29, 30, 31, 37]⟩, ⟨⟨some true, .no⟩, [0, 1, 2, 3, 4, 5, 6, 7, 8, 9, 10, 11, 12, 13, 14, 15, 16, 17, 18, 19, 20, 21, 22, 23, 24, 25, 26, 27, 28, 29, 30, 31, 37, 38]⟩, ⟨⟨some true, .no⟩, [0, 1, 2, 3, 4, 5, 6, 7, 8, 9, 10, 11, 12, 13, 14, 15, 16, 17, 18, 19, 20, 21, 22, 23, 24, 25, 26, 27, 28, 29, 30, 31, 37, 38, 39]⟩]) (tds := [[0, 1, 2, 3, 4, 5, 6, 7, 8, 9, 10, 11, 12, 13, 14, 15, 16, 17, 18, 19, 20, 21, 22, 23, 24, 25, 26, 27, 28, 29, 30, 31, 32, 33, 34, 35, 36, 37, 38, 39, 40], [0, 1, 2, 3, 4, 5, 6, 7, 8, 9, 10, 11, 12, 13, 14, 15, 16, 17, 18, 19, 20, 21, 22, 23, 24, 25, 26, 27, 28, 29, 30, 31, 32, 33, 34, 35, 36, 37, 38, 39, 40, 41]]) (rs := [⟨some true, .no⟩, ⟨none, .tv true⟩]) (st' := ⟨[(46, .one (.dat .bool true)), (45, .und), (44, .und), (43, .und), (42, .und), (41, .und), (40, .und), (39, .und), (38, .und), (37, .und), (36, .und), (35, .one (.dat .bool ((lenI a0.2.2.1) != (wmul .i64 a0.1 a0.2.1)))), (34, .one (.dat .bool ((lenI a0.2.2.1) != (wmul .i64 a0.1 a0.2.1)))), (33, .one (.dat .bool ((lenI a0.2.2.1) != (wmul .i64 a0.1 a0.2.1)))), (32, .one (.dat (.int .i64) (wmul .i64 a0.1 a0.2.1))), (31, .one (.dat (.int .i64) a0.2.1)), (30, .one (.ip (.st (.pair (.int .i64) (.pair (.int .i64) (.pair (.sl (.int .i64)) (.sl .bool))))) a0 1)), (29, .one (.ip (.st (.pair (.int .i64) (.pair (.int .i64) (.pair (.sl (.int .i64)) (.sl .bool))))) a0 0)), (28, .one (.ip (.st (.pair (.int .i64) (.pair (.int .i64) (.pair (.sl (.int .i64)) (.sl .bool))))) a0 0)), (27, .one (.dat (.int .i64) a0.1)), (26, .one (.ip (.st (.pair (.int .i64) (.pair (.int .i64) (.pair (.sl (.int .i64)) (.sl .bool))))) a0 0)), (25, .one (.ip (.st (.pair (.int .i64) (.pair (.int .i64) (.pair (.sl (.int .i64)) (.sl .bool))))) a0 0)), (24, .one (.ip (.st (.pair (.int .i64) (.pair (.int .i64) (.pair (.sl (.int .i64)) (.sl .bool))))) a0 0)), (23, .one (.dat (.int .i64) (lenI a0.2.2.1))), (22, .one (.dat (.sl (.int .i64)) a0.2.2.1)), (21, .one (.ip (.st (.pair (.int .i64) (.pair (.int .i64) (.pair (.sl (.int .i64)) (.sl .bool))))) a0 2)), (20, .one (.ip (.st (.pair (.int .i64) (.pair (.int .i64) (.pair (.sl (.int .i64)) (.sl .bool))))) a0 0)), (19, .one (.ip (.st (.pair (.int .i64) (.pair (.int .i64) (.pair (.sl (.int .i64)) (.sl .bool))))) a0 0)), (18, .one (.dat .bool (!y21))), (17, .one (.dat .bool (!y21))), (16, .one (.dat .bool (!y21))), (15, .one (.dat .bool y21)), (14, .one (.dat (.int .i64) a0.2.1)), (13, .one (.ip (.st (.pair (.int .i64) (.pair (.int .i64) (.pair (.sl (.int .i64)) (.sl .bool))))) a0 1)), (12, .one (.ip (.st (.pair (.int .i64) (.pair (.int .i64) (.pair (.sl (.int .i64)) (.sl .bool))))) a0 0)), (11, .one (.ip (.st (.pair (.int .i64) (.pair (.int .i64) (.pair (.sl (.int .i64)) (.sl .bool))))) a0 0)), (10, .one (.dat .bool (!y18))), (9, .one (.dat .bool (!y18))), (8, .one (.dat .bool y18)), (7, .one (.dat (.int .i64) a0.1)), (6, .one (.ip (.st (.pair (.int .i64) (.pair (.int .i64) (.pair (.sl (.int .i64)) (.sl .bool))))) a0 0)), (5, .one (.ip (.st (.pair (.int .i64) (.pair (.int .i64) (.pair (.sl (.int .i64)) (.sl .bool))))) a0 0)), (4, .one (.ip (.st (.pair (.int .i64) (.pair (.int .i64) (.pair (.sl (.int .i64)) (.sl .bool))))) a0 0)), (0, .one (.ip (.st (.pair (.int .i64) (.pair (.int .i64) (.pair (.sl (.int .i64)) (.sl .bool))))) a0 0))], [], 0⟩) hP hN (by kernel_rfl) (by kernel_rfl) (allCons (f80_ok hc19) (allCons hb20 (allCons hb20 (allCons hb20 (allCons hb20 (allCons hb20 (allCons (f80_ok hc22) (allCons hb20 (allCons hb20 (allCons hb23 (allCons hb23 (allCons hb23 (allCons hb23 (allCons hb23 (allCons hb23 (allCons hb23 (allCons hb23 (allCons hb23 (allCons hb23 (allCons hb23 (allCons hb23 (allCons hb23 (allCons hb23 (allCons hb23 (allCons hb23 (allCons hb24 (allCons hb24 (allCons hb24 (allCons hb24 (allCons hb24 (allCons hb24 (allCons hb24 (allCons hb24 (allCons hb24 (allCons hb24 (allCons hb24 allNil)))))))))))))))))))))))))))))))))))) (qThen ?_)
          exact (Le.cv (s := ⟨[], [], [], false⟩) (own := []) (ps := [a0 = a0, true = true]) (st' := ⟨[(0, .one (.ip (.st (.pair (.int .i64) (.pair (.int .i64) (.pair (.sl (.int .i64)) (.sl .bool))))) a0 0)), (46, .one (.dat .bool true))], [], 0⟩) hO (fun h => by cases h) (by kernel_rfl) ⟨rfl, rfl, trivial⟩).ht (cont true (of_some hT3))
        · refine drawS (h := 41) (hrs := [⟨⟨none, .no⟩, []⟩, ⟨⟨none, .no⟩, [0]⟩, ⟨⟨none, .no⟩, [0, 1]⟩, ⟨⟨none, .no⟩, [0, 1, 2]⟩, ⟨⟨none, .call [.imm (.int .i64), .imm (.int .i64), .imm (.int .i64)] [⟨false, .bool, y18⟩] []⟩, [0, 1, 2, 3]⟩, ⟨⟨none, .no⟩, [0, 1, 2, 3, 4]⟩, ⟨⟨none, .no⟩, [0, 1, 2, 3, 4, 5]⟩, ⟨⟨some false, .no⟩, [0, 1, 2, 3, 4, 5, 6]⟩, ⟨⟨some false, .no⟩, [0, 1, 2, 3, 4, 5, 6, 7]⟩, ⟨⟨some false, .no⟩, [0, 1, 2, 3, 4, 5, 6, 7, 8]⟩, ⟨⟨some false, .no⟩, [0, 1, 2, 3, 4, 5, 6, 7, 8, 9]⟩, ⟨⟨some false, .call [.imm (.int .i64), .imm (.int .i64), .imm (.int .i64)] [⟨false, .bool, y21⟩] []⟩, [0, 1, 2, 3, 4, 5, 6, 7, 8, 9, 10]⟩, ⟨⟨some false, .no⟩, [0, 1, 2, 3, 4, 5, 6, 7, 8, 9, 10, 11]⟩, ⟨⟨none, .tv false⟩, [0, 1, 2, 3, 4, 5, 6, 7, 8, 9, 10, 11, 12]⟩, ⟨⟨none, .no⟩, [0, 1, 2, 3, 4, 5, 6, 7, 8, 9, 10, 11, 12, 13]⟩, ⟨⟨some false, .no⟩, [0, 1, 2, 3, 4, 5, 6, 7, 8, 9, 10, 11, 12, 13, 14]⟩, ⟨⟨some false, .no⟩, [0, 1, 2, 3, 4, 5, 6, 7, 8, 9, 10, 11, 12, 13, 14, 15]⟩, ⟨⟨some false, .no⟩, [0, 1, 2, 3, 4, 5, 6, 7, 8, 9, 10, 11, 12, 13, 14, 15, 16]⟩, ⟨⟨some false, .no⟩, [0, 1, 2, 3, 4, 5, 6, 7, 8, 9, 10, 11, 12, 13, 14, 15, 16, 17]⟩, ⟨⟨some false, .no⟩, [0, 1, 2, 3, 4, 5, 6, 7, 8, 9, 10, 11, 12, 13, 14, 15, 16, 17, 18]⟩, ⟨⟨some false, .no⟩, [0, 1, 2, 3, 4, 5, 6, 7, 8, 9, 10, 11, 12, 13, 14]⟩, ⟨⟨some false, .no⟩, [0, 1, 2, 3, 4, 5, 6, 7, 8, 9, 10, 11, 12, 13, 14, 20]⟩, ⟨⟨some false, .no⟩, [0, 1, 2, 3, 4, 5, 6, 7, 8, 9, 10, 11, 12, 13, 14, 20, 21]⟩, ⟨⟨some false, .no⟩, [0, 1, 2, 3, 4, 5, 6, 7, 8, 9, 10, 11, 12, 13, 14, 20, 21, 22]⟩, ⟨⟨some false, .no⟩, [0, 1, 2, 3, 4, 5, 6, 7, 8, 9, 10, 11, 12, 13, 14]⟩, ⟨⟨some false, .no⟩, [0, 1, 2, 3, 4, 5, 6, 7, 8, 9, 10, 11, 12, 13, 14, 24]⟩, ⟨⟨some false, .no⟩, [0, 1, 2, 3, 4, 5, 6, 7, 8, 9, 10, 11, 12, 13, 14, 24, 25]⟩, ⟨⟨some false, .no⟩, [0, 1, 2, 3, 4, 5, 6, 7, 8, 9, 10, 11, 12, 13, 14, 24, 25, 26]⟩, ⟨⟨some false, .no⟩, [0, 1, 2, 3, 4, 5, 6, 7, 8, 9, 10, 11, 12, 13, 14, 20, 21, 22, 23, 24, 25, 26, 27]⟩, ⟨⟨some false, .no⟩, [0, 1, 2, 3, 4, 5, 6, 7, 8, 9, 10, 11, 12, 13, 14, 15, 16, 17, 18, 19, 20, 21, 22, 23, 24, 25, 26, 27, 28]⟩, ⟨⟨none, .tv false⟩, [0, 1, 2, 3, 4, 5, 6, 7, 8, 9, 10, 11, 12, 13, 14, 15, 16, 17, 18, 19, 20, 21, 22, 23, 24, 25, 26, 27, 28, 29]⟩, ⟨⟨none, .no⟩, [0, 1, 2, 3, 4, 5, 6, 7, 8, 9, 10, 11, 12, 13, 14, 15, 16, 17, 18, 19, 20, 21, 22, 23, 24, 25, 26, 27, 28, 29, 30]⟩, ⟨⟨some false, .no⟩, [0, 1, 2, 3, 4, 5, 6, 7, 8, 9, 10, 11, 12, 13, 14, 15, 16, 17, 18, 19, 20, 21, 22, 23, 24, 25, 26, 27, 28, 29, 30, 31]⟩, ⟨⟨some false, .no⟩, [0, 1, 2, 3, 4, 5, 6, 7, 8, 9, 10, 11, 12, 13, 14, 15, 16, 17, 18, 19, 20, 21, 22, 23, 24, 25, 26, 27, 28, 29, 30, 31, 32]⟩, ⟨⟨some false, .no⟩, [0, 1, 2, 3, 4, 5, 6, 7, 8, 9, 10, 11, 12, 13, 14, 15, 16, 17, 18, 19, 20, 21, 22, 23, 24, 25, 26, 27, 28, 29, 30, 31, 32, 33]⟩, ⟨⟨some false, .no⟩, [0, 1, 2, 3, 4, 5, 6, 7, 8, 9, 10, 11, 12, 13, 14, 15, 16, 17, 18, 19, 20, 21, 22, 23, 24, 25, 26, 27, 28, 29, 30, 31, 32, 33, 34]⟩, ⟨⟨some false, .no⟩, [0, 1, 2, 3, 4, 5, 6, 7, 8, 9, 10, 11, 12, 13, 14, 15, 16, 17, 18, 19, 20, 21, 22, 23, 24, 25, 26, 27, 28, 29, 30, 31, 32, 33, 34, 35]⟩, ⟨⟨some false, .no⟩, [0, 1, 2, 3, 4, 5, 6, 7, 8, 9, 10, 11, 12, 13, 14, 15, 16, 17, 18, 19, 20, 21, 22, 23, 24, 25, 26, 27, 28, 29, 30, 31]⟩, ⟨⟨some false, .no⟩, [0, 1, 2, 3, 4, 5, 6, 7, 8, 9, 10, 11, 12, 13, 14, 15, 16, 17, 18, 19, 20, 21, 22, 23, 24, 25, 26, 27, 28, 29, 30, 31, 37]⟩, ⟨⟨some false, .no⟩, [0, 1, 2, 3, 4, 5, 6, 7, 8, 9, 10, 11, 12, 13, 14, 15, 16, 17, 18, 19, 20, 21, 22, 23, 24, 25, 26, 27, 28, 29, 30, 31, 37, 38]⟩, ⟨⟨some false, .no⟩, [0, 1, 2, 3, 4, 5, 6, 7, 8, 9, 10, 11, 12, 13, 14, 15, 16, 17, 18, 19, 20, 21, 22, 23, 24, 25, 26, 27, 28, 29, 30, 31, 37, 38, 39]⟩]) (tds := [[0, 1, 2, 3, 4, 5, 6, 7, 8, 9, 10, 11, 12, 13, 14, 15, 16, 17, 18, 19, 20, 21, 22, 23, 24, 25, 26, 27, 28, 29, 30, 31, 32, 33, 34, 35, 36, 37, 38, 39, 40], [0, 1, 2, 3, 4, 5, 6, 7, 8, 9, 10, 11, 12, 13, 14, 15, 16, 17, 18, 19, 20, 21, 22, 23, 24, 25, 26, 27, 28, 29, 30, 31, 32, 33, 34, 35, 36, 37, 38, 39, 40, 41]]) (rs := [⟨some false, .no⟩, ⟨none, .tv false⟩]) (st' := ⟨[(46, .one (.dat .bool ((lenI a0.2.2.2) != a0.1))), (45, .one (.dat .bool ((lenI a0.2.2.2) != a0.1))), (44, .one (.dat (.int .i64) a0.1)), (43, .one (.ip (.st (.pair (.int .i64) (.pair (.int .i64) (.pair (.sl (.int .i64)) (.sl .bool))))) a0 0)), (42, .one (.ip (.st (.pair (.int .i64) (.pair (.int .i64) (.pair (.sl (.int .i64)) (.sl .bool))))) a0 0)), (41, .one (.ip (.st (.pair (.int .i64) (.pair (.int .i64) (.pair (.sl (.int .i64)) (.sl .bool))))) a0 0)), (40, .one (.dat (.int .i64) (lenI a0.2.2.2))), (39, .one (.dat (.sl .bool) a0.2.2.2)), (38, .one (.ip (.st (.pair (.int .i64) (.pair (.int .i64) (.pair (.sl (.int .i64)) (.sl .bool))))) a0 3)), (37, .one (.ip (.st (.pair (.int .i64) (.pair (.int .i64) (.pair (.sl (.int .i64)) (.sl .bool))))) a0 0)), (36, .one (.ip (.st (.pair (.int .i64) (.pair (.int .i64) (.pair (.sl (.int .i64)) (.sl .bool))))) a0 0)), (35, .one (.dat .bool ((lenI a0.2.2.1) != (wmul .i64 a0.1 a0.2.1)))), (34, .one (.dat .bool ((lenI a0.2.2.1) != (wmul .i64 a0.1 a0.2.1)))), (33, .one (.dat .bool ((lenI a0.2.2.1) != (wmul .i64 a0.1 a0.2.1)))), (32, .one (.dat (.int .i64) (wmul .i64 a0.1 a0.2.1))), (31, .one (.dat (.int .i64) a0.2.1)), (30, .one (.ip (.st (.pair (.int .i64) (.pair (.int .i64) (.pair (.sl (.int .i64)) (.sl .bool))))) a0 1)), (29, .one (.ip (.st (.pair (.int .i64) (.pair (.int .i64) (.pair (.sl (.int .i64)) (.sl .bool))))) a0 0)), (28, .one (.ip (.st (.pair (.int .i64) (.pair (.int .i64) (.pair (.sl (.int .i64)) (.sl .bool))))) a0 0)), (27, .one (.dat (.int .i64) a0.1)), (26, .one (.ip (.st (.pair (.int .i64) (.pair (.int .i64) (.pair (.sl (.int .i64)) (.sl .bool))))) a0 0)), (25, .one (.ip (.st (.pair (.int .i64) (.pair (.int .i64) (.pair (.sl (.int .i64)) (.sl .bool))))) a0 0)), (24, .one (.ip (.st (.pair (.int .i64) (.pair (.int .i64) (.pair (.sl (.int .i64)) (.sl .bool))))) a0 0)), (23, .one (.dat (.int .i64) (lenI a0.2.2.1))), (22, .one (.dat (.sl (.int .i64)) a0.2.2.1)), (21, .one (.ip (.st (.pair (.int .i64) (.pair (.int .i64) (.pair (.sl (.int .i64)) (.sl .bool))))) a0 2)), (20, .one (.ip (.st (.pair (.int .i64) (.pair (.int .i64) (.pair (.sl (.int .i64)) (.sl .bool))))) a0 0)), (19, .one (.ip (.st (.pair (.int .i64) (.pair (.int .i64) (.pair (.sl (.int .i64)) (.sl .bool))))) a0 0)), (18, .one (.dat .bool (!y21))), (17, .one (.dat .bool (!y21))), (16, .one (.dat .bool (!y21))), (15, .one (.dat .bool y21)), (14, .one (.dat (.int .i64) a0.2.1)), (13, .one (.ip (.st (.pair (.int .i64) (.pair (.int .i64) (.pair (.sl (.int .i64)) (.sl .bool))))) a0 1)), (12, .one (.ip (.st (.pair (.int .i64) (.pair (.int .i64) (.pair (.sl (.int .i64)) (.sl .bool))))) a0 0)), (11, .one (.ip (.st (.pair (.int .i64) (.pair (.int .i64) (.pair (.sl (.int .i64)) (.sl .bool))))) a0 0)), (10, .one (.dat .bool (!y18))), (9, .one (.dat .bool (!y18))), (8, .one (.dat .bool y18)), (7, .one (.dat (.int .i64) a0.1)), (6, .one (.ip (.st (.pair (.int .i64) (.pair (.int .i64) (.pair (.sl (.int .i64)) (.sl .bool))))) a0 0)), (5, .one (.ip (.st (.pair (.int .i64) (.pair (.int .i64) (.pair (.sl (.int .i64)) (.sl .bool))))) a0 0)), (4, .one (.ip (.st (.pair (.int .i64) (.pair (.int .i64) (.pair (.sl (.int .i64)) (.sl .bool))))) a0 0)), (0, .one (.ip (.st (.pair (.int .i64) (.pair (.int .i64) (.pair (.sl (.int .i64)) (.sl .bool))))) a0 0))], [], 0⟩) hP hN (by kernel_rfl) (by kernel_rfl) (allCons (f80_ok hc19) (allCons hb20 (allCons hb20 (allCons hb20 (allCons hb20 (allCons hb20 (allCons (f80_ok hc22) (allCons hb20 (allCons hb20 (allCons hb23 (allCons hb23 (allCons hb23 (allCons hb23 (allCons hb23 (allCons hb23 (allCons hb23 (allCons hb23 (allCons hb23 (allCons hb23 (allCons hb23 (allCons hb23 (allCons hb23 (allCons hb23 (allCons hb23 (allCons hb23 (allCons hb24 (allCons hb24 (allCons hb24 (allCons hb24 (allCons hb24 (allCons hb24 (allCons hb24 (allCons hb24 (allCons hb24 (allCons hb24 (allCons hb24 allNil)))))))))))))))))))))))))))))))))))) (qThen ?_)
          exact (Le.cv (s := ⟨[], [], [], false⟩) (own := []) (ps := [a0 = a0, ((lenI a0.2.2.2) != a0.1) = ((lenI a0.2.2.2) != a0.1)]) (st' := ⟨[(0, .one (.ip (.st (.pair (.int .i64) (.pair (.int .i64) (.pair (.sl (.int .i64)) (.sl .bool))))) a0 0)), (46, .one (.dat .bool ((lenI a0.2.2.2) != a0.1)))], [], 0⟩) hO (fun h => by cases h) (by kernel_rfl) ⟨rfl, rfl, trivial⟩).ht (cont ((lenI a0.2.2.2) != a0.1) (of_some hT3))

noncomputable def spec_l07Loop (a0 : List Int × List Int) (a1 : Int) : Option (Bool) :=
  (show Option (Bool) from
    (spec_l00In a1 (1 : Int) (4 : Int)).bind fun y4 =>
    bif y4 then
      (spec_l02Word a0.1 a1).bind fun y7 =>
      bif y7 then
        (spec_l02Word a0.2 a1).bind fun y10 =>
        bif y10 then
          some (decide ((lenI a0.2) ≥ (1 : Int)))
        else
          some false
      else
        some false
    else
      some false).bind fun v1 =>
  some v1

theorem f89_ok {a0 : List Int × List Int} {a1 : Int} {r : Bool} (hr : spec_l07Loop a0 a1 = some r) : CallOK Try.prog 89 [.pimm (.st (.pair (.sl (.int .i64)) (.sl (.int .i64)))) a0, .imm (.int .i64) a1] [⟨false, .bool, r⟩] [] := by
  unfold spec_l07Loop at hr
  refine CallOK.of_body (ts := [(false, .bool)]) Try.func89 rfl (by kernel_rfl) (Nat.le_of_ble_eq_true (by kernel_rfl)) fun cx hP hN hO hF => ?_
  have hO : cx.own.map Prod.fst = [] := hO
  have hF : cx.F = [] := hF rfl
  show HT cx ⟨[(0, .one (.ip (.st (.pair (.sl (.int .i64)) (.sl (.int .i64)))) a0 0)), (1, .one (.dat (.int .i64) a1))], [], 0⟩ _ _
  refine HT.reg1 [0, 1] [⟨none, .no⟩] ⟨[(0, .one (.ip (.st (.pair (.sl (.int .i64)) (.sl (.int .i64)))) a0 0)), (1, .one (.dat (.int .i64) a1))], [], 0⟩ hP hN (by kernel_rfl) allNil ?_
  obtain ⟨v1', hT3, hr⟩ := of_bind hr
  refine HT.join (fun (v1 : Bool) => ⟨[(4, .one (.dat .bool v1))], [], 0⟩) (fun v => v = v1') (fun v1 hv2 => ?_) (fun cont => ?_)
  · subst hv2
    have hr := of_some hr
    subst hr
    exact HT.ret ⟨[.one (.dat .bool v1)], [], [], by kernel_rfl, by kernel_rfl, rfl, (.inl rfl), by kernel_rfl, trivial⟩
  · obtain ⟨y4, hc5, hT3⟩ := of_bind hT3
    rcases of_bif hT3 with ⟨hb6, hT3⟩ | ⟨hb6, hT3⟩
    · obtain ⟨y7, hc8, hT3⟩ := of_bind hT3
      rcases of_bif hT3 with ⟨hb9, hT3⟩ | ⟨hb9, hT3⟩
      · obtain ⟨y10, hc11, hT3⟩ := of_bind hT3
        rcases of_bif hT3 with ⟨hb12, hT3⟩ | ⟨hb12, hT3⟩
        · refine HT.reg (rs := [⟨none, .no⟩, ⟨none, .call [.imm (.int .i64), .imm (.int .i64), .imm (.int .i64)] [⟨false, .bool, y4⟩] []⟩, ⟨none, .no⟩, ⟨some true, .no⟩, ⟨some true, .no⟩, ⟨some true, .no⟩, ⟨some true, .no⟩, ⟨some true, .no⟩, ⟨some true, .call [.imm (.sl (.int .i64)), .imm (.int .i64)] [⟨false, .bool, y7⟩] []⟩, ⟨none, .tv true⟩, ⟨none, .no⟩, ⟨some true, .no⟩, ⟨some true, .no⟩, ⟨some true, .no⟩, ⟨some true, .no⟩, ⟨some true, .no⟩, ⟨some true, .call [.imm (.sl (.int .i64)), .imm (.int .i64)] [⟨false, .bool, y10⟩] []⟩, ⟨none, .tv true⟩, ⟨none, .no⟩, ⟨some true, .no⟩, ⟨some true, .no⟩, ⟨some true, .no⟩, ⟨some true, .no⟩, ⟨some true, .no⟩, ⟨some true, .no⟩, ⟨none, .tv true⟩, ⟨none, .no⟩]) (st' := ⟨[(4, .one (.dat .bool (decide ((lenI a0.2) ≥ (1 : Int))))), (30, .one (.dat .bool (decide ((lenI a0.2) ≥ (1 : Int))))), (29, .one (.dat .bool (decide ((lenI a0.2) ≥ (1 : Int))))), (28, .one (.dat (.int .i64) (lenI a0.2))), (27, .one (.dat (.sl (.int .i64)) a0.2)), (26, .one (.ip (.st (.pair (.sl (.int .i64)) (.sl (.int .i64)))) a0 1)), (25, .one (.ip (.st (.pair (.sl (.int .i64)) (.sl (.int .i64)))) a0 0)), (24, .one (.ip (.st (.pair (.sl (.int .i64)) (.sl (.int .i64)))) a0 0)), (23, .one (.dat .bool y10)), (22, .one (.dat .bool y10)), (21, .one (.dat .bool y10)), (20, .one (.dat (.int .i64) a1)), (19, .one (.dat (.sl (.int .i64)) a0.2)), (18, .one (.ip (.st (.pair (.sl (.int .i64)) (.sl (.int .i64)))) a0 1)), (17, .one (.ip (.st (.pair (.sl (.int .i64)) (.sl (.int .i64)))) a0 0)), (16, .one (.ip (.st (.pair (.sl (.int .i64)) (.sl (.int .i64)))) a0 0)), (15, .one (.dat .bool y7)), (14, .one (.dat .bool y7)), (13, .one (.dat .bool y7)), (12, .one (.dat (.int .i64) a1)), (11, .one (.dat (.sl (.int .i64)) a0.1)), (10, .one (.ip (.st (.pair (.sl (.int .i64)) (.sl (.int .i64)))) a0 0)), (9, .one (.ip (.st (.pair (.sl (.int .i64)) (.sl (.int .i64)))) a0 0)), (8, .one (.ip (.st (.pair (.sl (.int .i64)) (.sl (.int .i64)))) a0 0)), (7, .one (.dat .bool y4)), (6, .one (.dat .bool y4)), (5, .one (.dat (.int .i64) a1)), (0, .one (.ip (.st (.pair (.sl (.int .i64)) (.sl (.int .i64)))) a0 0)), (1, .one (.dat (.int .i64) a1))], [], 0⟩) hP hN (by kernel_rfl) (allCons (f80_ok hc5) (allCons hb6 (allCons hb6 (allCons hb6 (allCons hb6 (allCons hb6 (allCons hb6 (allCons (f134_ok hc8) (allCons hb6 (allCons hb9 (allCons hb9 (allCons hb9 (allCons hb9 (allCons hb9 (allCons hb9 (allCons (f134_ok hc11) (allCons hb9 (allCons hb12 (allCons hb12 (allCons hb12 (allCons hb12 (allCons hb12 (allCons hb12 (allCons hb12 allNil)))))))))))))))))))))))) (qThen ?_)
          exact (Le.cv (s := ⟨[], [], [], false⟩) (own := []) (ps := [(decide ((lenI a0.2) ≥ (1 : Int))) = (decide ((lenI a0.2) ≥ (1 : Int)))]) (st' := ⟨[(4, .one (.dat .bool (decide ((lenI a0.2) ≥ (1 : Int)))))], [], 0⟩) hO (fun h => by cases h) (by kernel_rfl) ⟨rfl, trivial⟩).ht (cont (decide ((lenI a0.2) ≥ (1 : Int))) (of_some hT3))
        · refine HT.reg (rs := [⟨none, .no⟩, ⟨none, .call [.imm (.int .i64), .imm (.int .i64), .imm (.int .i64)] [⟨false, .bool, y4⟩] []⟩, ⟨none, .no⟩, ⟨some true, .no⟩, ⟨some true, .no⟩, ⟨some true, .no⟩, ⟨some true, .no⟩, ⟨some true, .no⟩, ⟨some true, .call [.imm (.sl (.int .i64)), .imm (.int .i64)] [⟨false, .bool, y7⟩] []⟩, ⟨none, .tv true⟩, ⟨none, .no⟩, ⟨some true, .no⟩, ⟨some true, .no⟩, ⟨some true, .no⟩, ⟨some true, .no⟩, ⟨some true, .no⟩, ⟨some true, .call [.imm (.sl (.int .i64)), .imm (.int .i64)] [⟨false, .bool, y10⟩] []⟩, ⟨none, .tv true⟩, ⟨none, .no⟩, ⟨some false, .no⟩, ⟨some false, .no⟩, ⟨some false, .no⟩, ⟨some false, .no⟩, ⟨some false, .no⟩, ⟨some false, .no⟩, ⟨none, .tv false⟩, ⟨none, .no⟩]) (st' := ⟨[(4, .one (.dat .bool false)), (30, .one (.dat .bool false)), (29, .und), (28, .und), (27, .und), (26, .und), (25, .und), (24, .und), (23, .one (.dat .bool y10)), (22, .one (.dat .bool y10)), (21, .one (.dat .bool y10)), (20, .one (.dat (.int .i64) a1)), (19, .one (.dat (.sl (.int .i64)) a0.2)), (18, .one (.ip (.st (.pair (.sl (.int .i64)) (.sl (.int .i64)))) a0 1)), (17, .one (.ip (.st (.pair (.sl (.int .i64)) (.sl (.int .i64)))) a0 0)), (16, .one (.ip (.st (.pair (.sl (.int .i64)) (.sl (.int .i64)))) a0 0)), (15, .one (.dat .bool y7)), (14, .one (.dat .bool y7)), (13, .one (.dat .bool y7)), (12, .one (.dat (.int .i64) a1)), (11, .one (.dat (.sl (.int .i64)) a0.1)), (10, .one (.ip (.st (.pair (.sl (.int .i64)) (.sl (.int .i64)))) a0 0)), (9, .one (.ip (.st (.pair (.sl (.int .i64)) (.sl (.int .i64)))) a0 0)), (8, .one (.ip (.st (.pair (.sl (.int .i64)) (.sl (.int .i64)))) a0 0)), (7, .one (.dat .bool y4)), (6, .one (.dat .bool y4)), (5, .one (.dat (.int .i64) a1)), (0, .one (.ip (.st (.pair (.sl (.int .i64)) (.sl (.int .i64)))) a0 0)), (1, .one (.dat (.int .i64) a1))], [], 0⟩) hP hN (by kernel_rfl) (allCons (f80_ok hc5) (allCons hb6 (allCons hb6 (allCons hb6 (allCons hb6 (allCons hb6 (allCons hb6 (allCons (f134_ok hc8) (allCons hb6 (allCons hb9 (allCons hb9 (allCons hb9 (allCons hb9 (allCons hb9 (allCons hb9 (allCons (f134_ok hc11) (allCons hb9 (allCons hb12 (allCons hb12 (allCons hb12 (allCons hb12 (allCons hb12 (allCons hb12 (allCons hb12 allNil)))))))))))))))))))))))) (qThen ?_)
          exact (Le.cv (s := ⟨[], [], [], false⟩) (own := []) (ps := [false = false]) (st' := ⟨[(4, .one (.dat .bool false))], [], 0⟩) hO (fun h => by cases h) (by kernel_rfl) ⟨rfl, trivial⟩).ht (cont false (of_some hT3))
      · refine HT.reg (rs := [⟨none, .no⟩, ⟨none, .call [.imm (.int .i64), .imm (.int .i64), .imm (.int .i64)] [⟨false, .bool, y4⟩] []⟩, ⟨none, .no⟩, ⟨some true, .no⟩, ⟨some true, .no⟩, ⟨some true, .no⟩, ⟨some true, .no⟩, ⟨some true, .no⟩, ⟨some true, .call [.imm (.sl (.int .i64)), .imm (.int .i64)] [⟨false, .bool, y7⟩] []⟩, ⟨none, .tv true⟩, ⟨none, .no⟩, ⟨some false, .no⟩, ⟨some false, .no⟩, ⟨some false, .no⟩, ⟨some false, .no⟩, ⟨some false, .no⟩, ⟨some false, .no⟩, ⟨none, .tv false⟩, ⟨none, .no⟩, ⟨some false, .no⟩, ⟨some false, .no⟩, ⟨some false, .no⟩, ⟨some false, .no⟩, ⟨some false, .no⟩, ⟨some false, .no⟩, ⟨none, .tv false⟩, ⟨none, .no⟩]) (st' := ⟨[(4, .one (.dat .bool false)), (30, .one (.dat .bool false)), (29, .und), (28, .und), (27, .und), (26, .und), (25, .und), (24, .und), (23, .one (.dat .bool false)), (22, .one (.dat .bool false)), (21, .und), (20, .und), (19, .und), (18, .und), (17, .und), (16, .und), (15, .one (.dat .bool y7)), (14, .one (.dat .bool y7)), (13, .one (.dat .bool y7)), (12, .one (.dat (.int .i64) a1)), (11, .one (.dat (.sl (.int .i64)) a0.1)), (10, .one (.ip (.st (.pair (.sl (.int .i64)) (.sl (.int .i64)))) a0 0)), (9, .one (.ip (.st (.pair (.sl (.int .i64)) (.sl (.int .i64)))) a0 0)), (8, .one (.ip (.st (.pair (.sl (.int .i64)) (.sl (.int .i64)))) a0 0)), (7, .one (.dat .bool y4)), (6, .one (.dat .bool y4)), (5, .one (.dat (.int .i64) a1)), (0, .one (.ip (.st (.pair (.sl (.int .i64)) (.sl (.int .i64)))) a0 0)), (1, .one (.dat (.int .i64) a1))], [], 0⟩) hP hN (by kernel_rfl) (allCons (f80_ok hc5) (allCons hb6 (allCons hb6 (allCons hb6 (allCons hb6 (allCons hb6 (allCons hb6 (allCons (f134_ok hc8) (allCons hb6 (allCons hb9 (allCons hb9 (allCons hb9 (allCons hb9 (allCons hb9 (allCons hb9 (allCons hb9 (allCons (rfl : false = false) (allCons (rfl : false = false) (allCons (rfl : false = false) (allCons (rfl : false = false) (allCons (rfl : false = false) (allCons (rfl : false = false) (allCons (rfl : false = false) allNil))))))))))))))))))))))) (qThen ?_)
        exact (Le.cv (s := ⟨[], [], [], false⟩) (own := []) (ps := [false = false]) (st' := ⟨[(4, .one (.dat .bool false))], [], 0⟩) hO (fun h => by cases h) (by kernel_rfl) ⟨rfl, trivial⟩).ht (cont false (of_some hT3))
    · refine HT.reg (rs := [⟨none, .no⟩, ⟨none, .call [.imm (.int .i64), .imm (.int .i64), .imm (.int .i64)] [⟨false, .bool, y4⟩] []⟩, ⟨none, .no⟩, ⟨some false, .no⟩, ⟨some false, .no⟩, ⟨some false, .no⟩, ⟨some false, .no⟩, ⟨some false, .no⟩, ⟨some false, .no⟩, ⟨none, .tv false⟩, ⟨none, .no⟩, ⟨some false, .no⟩, ⟨some false, .no⟩, ⟨some false, .no⟩, ⟨some false, .no⟩, ⟨some false, .no⟩, ⟨some false, .no⟩, ⟨none, .tv false⟩, ⟨none, .no⟩, ⟨some false, .no⟩, ⟨some false, .no⟩, ⟨some false, .no⟩, ⟨some false, .no⟩, ⟨some false, .no⟩, ⟨some false, .no⟩, ⟨none, .tv false⟩, ⟨none, .no⟩]) (st' := ⟨[(4, .one (.dat .bool false)), (30, .one (.dat .bool false)), (29, .und), (28, .und), (27, .und), (26, .und), (25, .und), (24, .und), (23, .one (.dat .bool false)), (22, .one (.dat .bool false)), (21, .und), (20, .und), (19, .und), (18, .und), (17, .und), (16, .und), (15, .one (.dat .bool false)), (14, .one (.dat .bool false)), (13, .und), (12, .und), (11, .und), (10, .und), (9, .und), (8, .und), (7, .one (.dat .bool y4)), (6, .one (.dat .bool y4)), (5, .one (.dat (.int .i64) a1)), (0, .one (.ip (.st (.pair (.sl (.int .i64)) (.sl (.int .i64)))) a0 0)), (1, .one (.dat (.int .i64) a1))], [], 0⟩) hP hN (by kernel_rfl) (allCons (f80_ok hc5) (allCons hb6 (allCons hb6 (allCons hb6 (allCons hb6 (allCons hb6 (allCons hb6 (allCons hb6 (allCons (rfl : false = false) (allCons (rfl : false = false) (allCons (rfl : false = false) (allCons (rfl : false = false) (allCons (rfl : false = false) (allCons (rfl : false = false) (allCons (rfl : false = false) (allCons (rfl : false = false) (allCons (rfl : false = false) (allCons (rfl : false = false) (allCons (rfl : false = false) (allCons (rfl : false = false) (allCons (rfl : false = false) (allCons (rfl : false = false) allNil)))))))))))))))))))))) (qThen ?_)
      exact (Le.cv (s := ⟨[], [], [], false⟩) (own := []) (ps := [false = false]) (st' := ⟨[(4, .one (.dat .bool false))], [], 0⟩) hO (fun h => by cases h) (by kernel_rfl) ⟨rfl, trivial⟩).ht (cont false (of_some hT3))

noncomputable def impl_ValidPlain (a0 : Int × Int × List Int × List Bool) : Option (Bool) :=
  (show Option (Bool) from
    (impl_within a0.1 (1 : Int) (64 : Int)).bind fun y4 =>
    bif y4 then
      (impl_within a0.2.1 (1 : Int) (4 : Int)).bind fun y7 =>
      bif y7 then
        bif ((lenI a0.2.2.1) == (wmul .i64 a0.1 a0.2.1)) then
          (impl_areWithin a0.2.2.1 (0 : Int) (wsub .i64 a0.1 (1 : Int))).bind fun y11 =>
          bif y11 then
            some ((lenI a0.2.2.2) == a0.1)
          else
            some false
        else
          some false
      else
        some false
    else
      some false).bind fun v1 =>
  some v1

theorem f92_ok {a0 : Int × Int × List Int × List Bool} {r : Bool} (hr : impl_ValidPlain a0 = some r) : CallOK Try.prog 92 [.imm (.st (.pair (.int .i64) (.pair (.int .i64) (.pair (.sl (.int .i64)) (.sl .bool))))) a0] [⟨false, .bool, r⟩] [] := by
  unfold impl_ValidPlain at hr
  refine CallOK.of_body (ts := [(false, .bool)]) Try.func92 rfl (by kernel_rfl) (Nat.le_of_ble_eq_true (by kernel_rfl)) fun cx hP hN hO hF => ?_
  have hO : cx.own.map Prod.fst = [] := hO
  have hF : cx.F = [] := hF rfl
  show HT cx ⟨[(0, .agg [.dat (.int .i64) a0.1, .dat (.int .i64) a0.2.1, .dat (.sl (.int .i64)) a0.2.2.1, .dat (.sl .bool) a0.2.2.2])], [], 0⟩ _ _
  refine HT.reg1 [1] [⟨none, .no⟩, ⟨none, .no⟩] ⟨[(1, .one (.ptr 0 0))], [(0, .box [.dat (.int .i64) a0.1, .dat (.int .i64) a0.2.1, .dat (.sl (.int .i64)) a0.2.2.1, .dat (.sl .bool) a0.2.2.2])], 1⟩ hP hN (by kernel_rfl) allNil ?_
  obtain ⟨v1', hT3, hr⟩ := of_bind hr
  refine HT.join (fun (v1 : Bool) => ⟨[(2, .one (.dat .bool v1))], [], 0⟩) (fun v => v = v1') (fun v1 hv2 => ?_) (fun cont => ?_)
  · subst hv2
    have hr := of_some hr
    subst hr
    exact HT.ret ⟨[.one (.dat .bool v1)], [], [], by kernel_rfl, by kernel_rfl, rfl, (.inl rfl), by kernel_rfl, trivial⟩
  · obtain ⟨y4, hc5, hT3⟩ := of_bind hT3
    rcases of_bif hT3 with ⟨hb6, hT3⟩ | ⟨hb6, hT3⟩
    · obtain ⟨y7, hc8, hT3⟩ := of_bind hT3
      rcases of_bif hT3 with ⟨hb9, hT3⟩ | ⟨hb9, hT3⟩
      · rcases of_bif hT3 with ⟨hb10, hT3⟩ | ⟨hb10, hT3⟩
        · obtain ⟨y11, hc12, hT3⟩ := of_bind hT3
          rcases of_bif hT3 with ⟨hb13, hT3⟩ | ⟨hb13, hT3⟩
          · refine HT.reg (rs := [⟨none, .no⟩, ⟨none, .no⟩, ⟨none, .call [.imm (.int .i64), .imm (.int .i64), .imm (.int .i64)] [⟨false, .bool, y4⟩] []⟩, ⟨none, .no⟩, ⟨some true, .no⟩, ⟨some true, .no⟩, ⟨some true, .call [.imm (.int .i64), .imm (.int .i64), .imm (.int .i64)] [⟨false, .bool, y7⟩] []⟩, ⟨none, .tv true⟩, ⟨none, .no⟩, ⟨some true, .no⟩, ⟨some true, .no⟩, ⟨some true, .no⟩, ⟨some true, .no⟩, ⟨some true, .no⟩, ⟨some true, .no⟩, ⟨some true, .no⟩, ⟨some true, .no⟩, ⟨some true, .no⟩, ⟨none, .tv true⟩, ⟨none, .no⟩, ⟨some true, .no⟩, ⟨some true, .no⟩, ⟨some true, .no⟩, ⟨some true, .no⟩, ⟨some true, .no⟩, ⟨some true, .call [.imm (.sl (.int .i64)), .imm (.int .i64), .imm (.int .i64)] [⟨false, .bool, y11⟩] []⟩, ⟨none, .tv true⟩, ⟨none, .no⟩, ⟨some true, .no⟩, ⟨some true, .no⟩, ⟨some true, .no⟩, ⟨some true, .no⟩, ⟨some true, .no⟩, ⟨some true, .no⟩, ⟨none, .tv true⟩, ⟨none, .no⟩]) (st' := ⟨[(2, .one (.dat .bool ((lenI a0.2.2.2) == a0.1))), (37, .one (.dat .bool ((lenI a0.2.2.2) == a0.1))), (36, .one (.dat .bool ((lenI a0.2.2.2) == a0.1))), (35, .one (.dat (.int .i64) a0.1)), (34, .one (.ptr 0 0)), (33, .one (.dat (.int .i64) (lenI a0.2.2.2))), (32, .one (.dat (.sl .bool) a0.2.2.2)), (31, .one (.ptr 0 3)), (30, .one (.dat .bool y11)), (29, .one (.dat .bool y11)), (28, .one (.dat .bool y11)), (27, .one (.dat (.int .i64) (wsub .i64 a0.1 (1 : Int)))), (26, .one (.dat (.int .i64) a0.1)), (25, .one (.ptr 0 0)), (24, .one (.dat (.sl (.int .i64)) a0.2.2.1)), (23, .one (.ptr 0 2)), (22, .one (.dat .bool ((lenI a0.2.2.1) == (wmul .i64 a0.1 a0.2.1)))), (21, .one (.dat .bool ((lenI a0.2.2.1) == (wmul .i64 a0.1 a0.2.1)))), (20, .one (.dat .bool ((lenI a0.2.2.1) == (wmul .i64 a0.1 a0.2.1)))), (19, .one (.dat (.int .i64) (wmul .i64 a0.1 a0.2.1))), (18, .one (.dat (.int .i64) a0.2.1)), (17, .one (.ptr 0 1)), (16, .one (.dat (.int .i64) a0.1)), (15, .one (.ptr 0 0)), (14, .one (.dat (.int .i64) (lenI a0.2.2.1))), (13, .one (.dat (.sl (.int .i64)) a0.2.2.1)), (12, .one (.ptr 0 2)), (11, .one (.dat .bool y7)), (10, .one (.dat .bool y7)), (9, .one (.dat .bool y7)), (8, .one (.dat (.int .i64) a0.2.1)), (7, .one (.ptr 0 1)), (6, .one (.dat .bool y4)), (5, .one (.dat .bool y4)), (4, .one (.dat (.int .i64) a0.1)), (3, .one (.ptr 0 0)), (1, .one (.ptr 0 0))], [(0, .box [.dat (.int .i64) a0.1, .dat (.int .i64) a0.2.1, .dat (.sl (.int .i64)) a0.2.2.1, .dat (.sl .bool) a0.2.2.2])], 1⟩) hP hN (by kernel_rfl) (allCons (f83_ok hc5) (allCons hb6 (allCons hb6 (allCons hb6 (allCons (f83_ok hc8) (allCons hb6 (allCons hb9 (allCons hb9 (allCons hb9 (allCons hb9 (allCons hb9 (allCons hb9 (allCons hb9 (allCons hb9 (allCons hb9 (allCons hb9 (allCons hb10 (allCons hb10 (allCons hb10 (allCons hb10 (allCons hb10 (allCons hb10 (allCons (f137_ok hc12) (allCons hb10 (allCons hb13 (allCons hb13 (allCons hb13 (allCons hb13 (allCons hb13 (allCons hb13 (allCons hb13 allNil))))))))))))))))))))))))))))))) (qThen ?_)
            exact (Le.cv (s := ⟨[], [], [], false⟩) (own := []) (ps := [((lenI a0.2.2.2) == a0.1) = ((lenI a0.2.2.2) == a0.1)]) (st' := ⟨[(2, .one (.dat .bool ((lenI a0.2.2.2) == a0.1)))], [], 0⟩) hO (fun h => by cases h) (by kernel_rfl) ⟨rfl, trivial⟩).ht (cont ((lenI a0.2.2.2) == a0.1) (of_some hT3))
          · refine HT.reg (rs := [⟨none, .no⟩, ⟨none, .no⟩, ⟨none, .call [.imm (.int .i64), .imm (.int .i64), .imm (.int .i64)] [⟨false, .bool, y4⟩] []⟩, ⟨none, .no⟩, ⟨some true, .no⟩, ⟨some true, .no⟩, ⟨some true, .call [.imm (.int .i64), .imm (.int .i64), .imm (.int .i64)] [⟨false, .bool, y7⟩] []⟩, ⟨none, .tv true⟩, ⟨none, .no⟩, ⟨some true, .no⟩, ⟨some true, .no⟩, ⟨some true, .no⟩, ⟨some true, .no⟩, ⟨some true, .no⟩, ⟨some true, .no⟩, ⟨some true, .no⟩, ⟨some true, .no⟩, ⟨some true, .no⟩, ⟨none, .tv true⟩, ⟨none, .no⟩, ⟨some true, .no⟩, ⟨some true, .no⟩, ⟨some true, .no⟩, ⟨some true, .no⟩, ⟨some true, .no⟩, ⟨some true, .call [.imm (.sl (.int .i64)), .imm (.int .i64), .imm (.int .i64)] [⟨false, .bool, y11⟩] []⟩, ⟨none, .tv true⟩, ⟨none, .no⟩, ⟨some false, .no⟩, ⟨some false, .no⟩, ⟨some false, .no⟩, ⟨some false, .no⟩, ⟨some false, .no⟩, ⟨some false, .no⟩, ⟨none, .tv false⟩, ⟨none, .no⟩]) (st' := ⟨[(2, .one (.dat .bool false)), (37, .one (.dat .bool false)), (36, .und), (35, .und), (34, .und), (33, .und), (32, .und), (31, .und), (30, .one (.dat .bool y11)), (29, .one (.dat .bool y11)), (28, .one (.dat .bool y11)), (27, .one (.dat (.int .i64) (wsub .i64 a0.1 (1 : Int)))), (26, .one (.dat (.int .i64) a0.1)), (25, .one (.ptr 0 0)), (24, .one (.dat (.sl (.int .i64)) a0.2.2.1)), (23, .one (.ptr 0 2)), (22, .one (.dat .bool ((lenI a0.2.2.1) == (wmul .i64 a0.1 a0.2.1)))), (21, .one (.dat .bool ((lenI a0.2.2.1) == (wmul .i64 a0.1 a0.2.1)))), (20, .one (.dat .bool ((lenI a0.2.2.1) == (wmul .i64 a0.1 a0.2.1)))), (19, .one (.dat (.int .i64) (wmul .i64 a0.1 a0.2.1))), (18, .one (.dat (.int .i64) a0.2.1)), (17, .one (.ptr 0 1)), (16, .one (.dat (.int .i64) a0.1)), (15, .one (.ptr 0 0)), (14, .one (.dat (.int .i64) (lenI a0.2.2.1))), (13, .one (.dat (.sl (.int .i64)) a0.2.2.1)), (12, .one (.ptr 0 2)), (11, .one (.dat .bool y7)), (10, .one (.dat .bool y7)), (9, .one (.dat .bool y7)), (8, .one (.dat (.int .i64) a0.2.1)), (7, .one (.ptr 0 1)), (6, .one (.dat .bool y4)), (5, .one (.dat .bool y4)), (4, .one (.dat (.int .i64) a0.1)), (3, .one (.ptr 0 0)), (1, .one (.ptr 0 0))], [(0, .box [.dat (.int .i64) a0.1, .dat (.int .i64) a0.2.1, .dat (.sl (.int .i64)) a0.2.2.1, .dat (.sl .bool) a0.2.2.2])], 1⟩) hP hN (by kernel_rfl) (allCons (f83_ok hc5) (allCons hb6 (allCons hb6 (allCons hb6 (allCons (f83_ok hc8) (allCons hb6 (allCons hb9 (allCons hb9 (allCons hb9 (allCons hb9 (allCons hb9 (allCons hb9 (allCons hb9 (allCons hb9 (allCons hb9 (allCons hb9 (allCons hb10 (allCons hb10 (allCons hb10 (allCons hb10 (allCons hb10 (allCons hb10 (allCons (f137_ok hc12) (allCons hb10 (allCons hb13 (allCons hb13 (allCons hb13 (allCons hb13 (allCons hb13 (allCons hb13 (allCons hb13 allNil))))))))))))))))))))))))))))))) (qThen ?_)
            exact (Le.cv (s := ⟨[], [], [], false⟩) (own := []) (ps := [false = false]) (st' := ⟨[(2, .one (.dat .bool false))], [], 0⟩) hO (fun h => by cases h) (by kernel_rfl) ⟨rfl, trivial⟩).ht (cont false (of_some hT3))
        · refine HT.reg (rs := [⟨none, .no⟩, ⟨none, .no⟩, ⟨none, .call [.imm (.int .i64), .imm (.int .i64), .imm (.int .i64)] [⟨false, .bool, y4⟩] []⟩, ⟨none, .no⟩, ⟨some true, .no⟩, ⟨some true, .no⟩, ⟨some true, .call [.imm (.int .i64), .imm (.int .i64), .imm (.int .i64)] [⟨false, .bool, y7⟩] []⟩, ⟨none, .tv true⟩, ⟨none, .no⟩, ⟨some true, .no⟩, ⟨some true, .no⟩, ⟨some true, .no⟩, ⟨some true, .no⟩, ⟨some true, .no⟩, ⟨some true, .no⟩, ⟨some true, .no⟩, ⟨some true, .no⟩, ⟨some true, .no⟩, ⟨none, .tv true⟩, ⟨none, .no⟩, ⟨some false, .no⟩, ⟨some false, .no⟩, ⟨some false, .no⟩, ⟨some false, .no⟩, ⟨some false, .no⟩, ⟨some false, .no⟩, ⟨none, .tv false⟩, ⟨none, .no⟩, ⟨some false, .no⟩, ⟨some false, .no⟩, ⟨some false, .no⟩, ⟨some false, .no⟩, ⟨some false, .no⟩, ⟨some false, .no⟩, ⟨none, .tv false⟩, ⟨none, .no⟩]) (st' := ⟨[(2, .one (.dat .bool false)), (37, .one (.dat .bool false)), (36, .und), (35, .und), (34, .und), (33, .und), (32, .und), (31, .und), (30, .one (.dat .bool false)), (29, .one (.dat .bool false)), (28, .und), (27, .und), (26, .und), (25, .und), (24, .und), (23, .und), (22, .one (.dat .bool ((lenI a0.2.2.1) == (wmul .i64 a0.1 a0.2.1)))), (21, .one (.dat .bool ((lenI a0.2.2.1) == (wmul .i64 a0.1 a0.2.1)))), (20, .one (.dat .bool ((lenI a0.2.2.1) == (wmul .i64 a0.1 a0.2.1)))), (19, .one (.dat (.int .i64) (wmul .i64 a0.1 a0.2.1))), (18, .one (.dat (.int .i64) a0.2.1)), (17, .one (.ptr 0 1)), (16, .one (.dat (.int .i64) a0.1)), (15, .one (.ptr 0 0)), (14, .one (.dat (.int .i64) (lenI a0.2.2.1))), (13, .one (.dat (.sl (.int .i64)) a0.2.2.1)), (12, .one (.ptr 0 2)), (11, .one (.dat .bool y7)), (10, .one (.dat .bool y7)), (9, .one (.dat .bool y7)), (8, .one (.dat (.int .i64) a0.2.1)), (7, .one (.ptr 0 1)), (6, .one (.dat .bool y4)), (5, .one (.dat .bool y4)), (4, .one (.dat (.int .i64) a0.1)), (3, .one (.ptr 0 0)), (1, .one (.ptr 0 0))], [(0, .box [.dat (.int .i64) a0.1, .dat (.int .i64) a0.2.1, .dat (.sl (.int .i64)) a0.2.2.1, .dat (.sl .bool) a0.2.2.2])], 1⟩) hP hN (by kernel_rfl) (allCons (f83_ok hc5) (allCons hb6 (allCons hb6 (allCons hb6 (allCons (f83_ok hc8) (allCons hb6 (allCons hb9 (allCons hb9 (allCons hb9 (allCons hb9 (allCons hb9 (allCons hb9 (allCons hb9 (allCons hb9 (allCons hb9 (allCons hb9 (allCons hb10 (allCons hb10 (allCons hb10 (allCons hb10 (allCons hb10 (allCons hb10 (allCons hb10 (allCons (rfl : false = false) (allCons (rfl : false = false) (allCons (rfl : false = false) (allCons (rfl : false = false) (allCons (rfl : false = false) (allCons (rfl : false = false) (allCons (rfl : false = false) allNil)))))))))))))))))))))))))))))) (qThen ?_)
          exact (Le.cv (s := ⟨[], [], [], false⟩) (own := []) (ps := [false = false]) (st' := ⟨[(2, .one (.dat .bool false))], [], 0⟩) hO (fun h => by cases h) (by kernel_rfl) ⟨rfl, trivial⟩).ht (cont false (of_some hT3))
      · refine HT.reg (rs := [⟨none, .no⟩, ⟨none, .no⟩, ⟨none, .call [.imm (.int .i64), .imm (.int .i64), .imm (.int .i64)] [⟨false, .bool, y4⟩] []⟩, ⟨none, .no⟩, ⟨some true, .no⟩, ⟨some true, .no⟩, ⟨some true, .call [.imm (.int .i64), .imm (.int .i64), .imm (.int .i64)] [⟨false, .bool, y7⟩] []⟩, ⟨none, .tv true⟩, ⟨none, .no⟩, ⟨some false, .no⟩, ⟨some false, .no⟩, ⟨some false, .no⟩, ⟨some false, .no⟩, ⟨some false, .no⟩, ⟨some false, .no⟩, ⟨some false, .no⟩, ⟨some false, .no⟩, ⟨some false, .no⟩, ⟨none, .tv false⟩, ⟨none, .no⟩, ⟨some false, .no⟩, ⟨some false, .no⟩, ⟨some false, .no⟩, ⟨some false, .no⟩, ⟨some false, .no⟩, ⟨some false, .no⟩, ⟨none, .tv false⟩, ⟨none, .no⟩, ⟨some false, .no⟩, ⟨some false, .no⟩, ⟨some false, .no⟩, ⟨some false, .no⟩, ⟨some false, .no⟩, ⟨some false, .no⟩, ⟨none, .tv false⟩, ⟨none, .no⟩]) (st' := ⟨[(2, .one (.dat .bool false)), (37, .one (.dat .bool false)), (36, .und), (35, .und), (34, .und), (33, .und), (32, .und), (31, .und), (30, .one (.dat .bool false)), (29, .one (.dat .bool false)), (28, .und), (27, .und), (26, .und), (25, .und), (24, .und), (23, .und), (22, .one (.dat .bool false)), (21, .one (.dat .bool false)), (20, .und), (19, .und), (18, .und), (17, .und), (16, .und), (15, .und), (14, .und), (13, .und), (12, .und), (11, .one (.dat .bool y7)), (10, .one (.dat .bool y7)), (9, .one (.dat .bool y7)), (8, .one (.dat (.int .i64) a0.2.1)), (7, .one (.ptr 0 1)), (6, .one (.dat .bool y4)), (5, .one (.dat .bool y4)), (4, .one (.dat (.int .i64) a0.1)), (3, .one (.ptr 0 0)), (1, .one (.ptr 0 0))], [(0, .box [.dat (.int .i64) a0.1, .dat (.int .i64) a0.2.1, .dat (.sl (.int .i64)) a0.2.2.1, .dat (.sl .bool) a0.2.2.2])], 1⟩) hP hN (by kernel_rfl) (allCons (f83_ok hc5) (allCons hb6 (allCons hb6 (allCons hb6 (allCons (f83_ok hc8) (allCons hb6 (allCons hb9 (allCons hb9 (allCons hb9 (allCons hb9 (allCons hb9 (allCons hb9 (allCons hb9 (allCons hb9 (allCons hb9 (allCons hb9 (allCons (rfl : false = false) (allCons (rfl : false = false) (allCons (rfl : false = false) (allCons (rfl : false = false) (allCons (rfl : false = false) (allCons (rfl : false = false) (allCons (rfl : false = false) (allCons (rfl : false = false) (allCons (rfl : false = false) (allCons (rfl : false = false) (allCons (rfl : false = false) (allCons (rfl : false = false) (allCons (rfl : false = false) (allCons (rfl : false = false) allNil)))))))))))))))))))))))))))))) (qThen ?_)
        exact (Le.cv (s := ⟨[], [], [], false⟩) (own := []) (ps := [false = false]) (st' := ⟨[(2, .one (.dat .bool false))], [], 0⟩) hO (fun h => by cases h) (by kernel_rfl) ⟨rfl, trivial⟩).ht (cont false (of_some hT3))
    · refine HT.reg (rs := [⟨none, .no⟩, ⟨none, .no⟩, ⟨none, .call [.imm (.int .i64), .imm (.int .i64), .imm (.int .i64)] [⟨false, .bool, y4⟩] []⟩, ⟨none, .no⟩, ⟨some false, .no⟩, ⟨some false, .no⟩, ⟨some false, .no⟩, ⟨none, .tv false⟩, ⟨none, .no⟩, ⟨some false, .no⟩, ⟨some false, .no⟩, ⟨some false, .no⟩, ⟨some false, .no⟩, ⟨some false, .no⟩, ⟨some false, .no⟩, ⟨some false, .no⟩, ⟨some false, .no⟩, ⟨some false, .no⟩, ⟨none, .tv false⟩, ⟨none, .no⟩, ⟨some false, .no⟩, ⟨some false, .no⟩, ⟨some false, .no⟩, ⟨some false, .no⟩, ⟨some false, .no⟩, ⟨some false, .no⟩, ⟨none, .tv false⟩, ⟨none, .no⟩, ⟨some false, .no⟩, ⟨some false, .no⟩, ⟨some false, .no⟩, ⟨some false, .no⟩, ⟨some false, .no⟩, ⟨some false, .no⟩, ⟨none, .tv false⟩, ⟨none, .no⟩]) (st' := ⟨[(2, .one (.dat .bool false)), (37, .one (.dat .bool false)), (36, .und), (35, .und), (34, .und), (33, .und), (32, .und), (31, .und), (30, .one (.dat .bool false)), (29, .one (.dat .bool false)), (28, .und), (27, .und), (26, .und), (25, .und), (24, .und), (23, .und), (22, .one (.dat .bool false)), (21, .one (.dat .bool false)), (20, .und), (19, .und), (18, .und), (17, .und), (16, .und), (15, .und), (14, .und), (13, .und), (12, .und), (11, .one (.dat .bool false)), (10, .one (.dat .bool false)), (9, .und), (8, .und), (7, .und), (6, .one (.dat .bool y4)), (5, .one (.dat .bool y4)), (4, .one (.dat (.int .i64) a0.1)), (3, .one (.ptr 0 0)), (1, .one (.ptr 0 0))], [(0, .box [.dat (.int .i64) a0.1, .dat (.int .i64) a0.2.1, .dat (.sl (.int .i64)) a0.2.2.1, .dat (.sl .bool) a0.2.2.2])], 1⟩) hP hN (by kernel_rfl) (allCons (f83_ok hc5) (allCons hb6 (allCons hb6 (allCons hb6 (allCons hb6 (allCons (rfl : false = false) (allCons (rfl : false = false) (allCons (rfl : false = false) (allCons (rfl : false = false) (allCons (rfl : false = false) (allCons (rfl : false = false) (allCons (rfl : false = false) (allCons (rfl : false = false) (allCons (rfl : false = false) (allCons (rfl : false = false) (allCons (rfl : false = false) (allCons (rfl : false = false) (allCons (rfl : false = false) (allCons (rfl : false = false) (allCons (rfl : false = false) (allCons (rfl : false = false) (allCons (rfl : false = false) (allCons (rfl : false = false) (allCons (rfl : false = false) (allCons (rfl : false = false) (allCons (rfl : false = false) (allCons (rfl : false = false) (allCons (rfl : false = false) (allCons (rfl : false = false) allNil))))))))))))))))))))))))))))) (qThen ?_)
      exact (Le.cv (s := ⟨[], [], [], false⟩) (own := []) (ps := [false = false]) (st' := ⟨[(2, .one (.dat .bool false))], [], 0⟩) hO (fun h => by cases h) (by kernel_rfl) ⟨rfl, trivial⟩).ht (cont false (of_some hT3))

noncomputable def impl_ValidLoop (a0 : List Int × List Int) (a1 : Int) : Option (Bool) :=
  (show Option (Bool) from
    (impl_IsWord a0.1 a1).bind fun y4 =>
    bif y4 then
      (impl_IsWord a0.2 a1).bind fun y7 =>
      bif y7 then
        some (decide ((lenI a0.2) > (0 : Int)))
      else
        some false
    else
      some false).bind fun v1 =>
  some v1

theorem f93_ok {a0 : List Int × List Int} {a1 : Int} {r : Bool} (hr : impl_ValidLoop a0 a1 = some r) : CallOK Try.prog 93 [.imm (.st (.pair (.sl (.int .i64)) (.sl (.int .i64)))) a0, .imm (.int .i64) a1] [⟨false, .bool, r⟩] [] := by
  unfold impl_ValidLoop at hr
  refine CallOK.of_body (ts := [(false, .bool)]) Try.func93 rfl (by kernel_rfl) (Nat.le_of_ble_eq_true (by kernel_rfl)) fun cx hP hN hO hF => ?_
  have hO : cx.own.map Prod.fst = [] := hO
  have hF : cx.F = [] := hF rfl
  show HT cx ⟨[(0, .agg [.dat (.sl (.int .i64)) a0.1, .dat (.sl (.int .i64)) a0.2]), (1, .one (.dat (.int .i64) a1))], [], 0⟩ _ _
  refine HT.reg1 [1, 2] [⟨none, .no⟩, ⟨none, .no⟩] ⟨[(1, .one (.dat (.int .i64) a1)), (2, .one (.ptr 0 0))], [(0, .box [.dat (.sl (.int .i64)) a0.1, .dat (.sl (.int .i64)) a0.2])], 1⟩ hP hN (by kernel_rfl) allNil ?_
  obtain ⟨v1', hT3, hr⟩ := of_bind hr
  refine HT.join (fun (v1 : Bool) => ⟨[(4, .one (.dat .bool v1))], [], 0⟩) (fun v => v = v1') (fun v1 hv2 => ?_) (fun cont => ?_)
  · subst hv2
    have hr := of_some hr
    subst hr
    exact HT.ret ⟨[.one (.dat .bool v1)], [], [], by kernel_rfl, by kernel_rfl, rfl, (.inl rfl), by kernel_rfl, trivial⟩
  · obtain ⟨y4, hc5, hT3⟩ := of_bind hT3
    rcases of_bif hT3 with ⟨hb6, hT3⟩ | ⟨hb6, hT3⟩
    · obtain ⟨y7, hc8, hT3⟩ := of_bind hT3
      rcases of_bif hT3 with ⟨hb9, hT3⟩ | ⟨hb9, hT3⟩
      · refine HT.reg (rs := [⟨none, .no⟩, ⟨none, .no⟩, ⟨none, .no⟩, ⟨none, .call [.imm (.sl (.int .i64)), .imm (.int .i64)] [⟨false, .bool, y4⟩] []⟩, ⟨none, .no⟩, ⟨some true, .no⟩, ⟨some true, .no⟩, ⟨some true, .no⟩, ⟨some true, .call [.imm (.sl (.int .i64)), .imm (.int .i64)] [⟨false, .bool, y7⟩] []⟩, ⟨none, .tv true⟩, ⟨none, .no⟩, ⟨some true, .no⟩, ⟨some true, .no⟩, ⟨some true, .no⟩, ⟨some true, .no⟩, ⟨none, .tv true⟩, ⟨none, .no⟩]) (st' := ⟨[(4, .one (.dat .bool (decide ((lenI a0.2) > (0 : Int))))), (20, .one (.dat .bool (decide ((lenI a0.2) > (0 : Int))))), (19, .one (.dat .bool (decide ((lenI a0.2) > (0 : Int))))), (18, .one (.dat (.int .i64) (lenI a0.2))), (17, .one (.dat (.sl (.int .i64)) a0.2)), (16, .one (.ptr 0 1)), (15, .one (.dat .bool y7)), (14, .one (.dat .bool y7)), (13, .one (.dat .bool y7)), (12, .one (.dat (.int .i64) a1)), (11, .one (.dat (.sl (.int .i64)) a0.2)), (10, .one (.ptr 0 1)), (9, .one (.dat .bool y4)), (8, .one (.dat .bool y4)), (7, .one (.dat (.int .i64) a1)), (6, .one (.dat (.sl (.int .i64)) a0.1)), (5, .one (.ptr 0 0)), (1, .one (.dat (.int .i64) a1)), (2, .one (.ptr 0 0))], [(0, .box [.dat (.sl (.int .i64)) a0.1, .dat (.sl (.int .i64)) a0.2])], 1⟩) hP hN (by kernel_rfl) (allCons (f136_ok hc5) (allCons hb6 (allCons hb6 (allCons hb6 (allCons hb6 (allCons (f136_ok hc8) (allCons hb6 (allCons hb9 (allCons hb9 (allCons hb9 (allCons hb9 (allCons hb9 allNil)))))))))))) (qThen ?_)
        exact (Le.cv (s := ⟨[], [], [], false⟩) (own := []) (ps := [(decide ((lenI a0.2) > (0 : Int))) = (decide ((lenI a0.2) > (0 : Int)))]) (st' := ⟨[(4, .one (.dat .bool (decide ((lenI a0.2) > (0 : Int)))))], [], 0⟩) hO (fun h => by cases h) (by kernel_rfl) ⟨rfl, trivial⟩).ht (cont (decide ((lenI a0.2) > (0 : Int))) (of_some hT3))
      · refine HT.reg (rs := [⟨none, .no⟩, ⟨none, .no⟩, ⟨none, .no⟩, ⟨none, .call [.imm (.sl (.int .i64)), .imm (.int .i64)] [⟨false, .bool, y4⟩] []⟩, ⟨none, .no⟩, ⟨some true, .no⟩, ⟨some true, .no⟩, ⟨some true, .no⟩, ⟨some true, .call [.imm (.sl (.int .i64)), .imm (.int .i64)] [⟨false, .bool, y7⟩] []⟩, ⟨none, .tv true⟩, ⟨none, .no⟩, ⟨some false, .no⟩, ⟨some false, .no⟩, ⟨some false, .no⟩, ⟨some false, .no⟩, ⟨none, .tv false⟩, ⟨none, .no⟩]) (st' := ⟨[(4, .one (.dat .bool false)), (20, .one (.dat .bool false)), (19, .und), (18, .und), (17, .und), (16, .und), (15, .one (.dat .bool y7)), (14, .one (.dat .bool y7)), (13, .one (.dat .bool y7)), (12, .one (.dat (.int .i64) a1)), (11, .one (.dat (.sl (.int .i64)) a0.2)), (10, .one (.ptr 0 1)), (9, .one (.dat .bool y4)), (8, .one (.dat .bool y4)), (7, .one (.dat (.int .i64) a1)), (6, .one (.dat (.sl (.int .i64)) a0.1)), (5, .one (.ptr 0 0)), (1, .one (.dat (.int .i64) a1)), (2, .one (.ptr 0 0))], [(0, .box [.dat (.sl (.int .i64)) a0.1, .dat (.sl (.int .i64)) a0.2])], 1⟩) hP hN (by kernel_rfl) (allCons (f136_ok hc5) (allCons hb6 (allCons hb6 (allCons hb6 (allCons hb6 (allCons (f136_ok hc8) (allCons hb6 (allCons hb9 (allCons hb9 (allCons hb9 (allCons hb9 (allCons hb9 allNil)))))))))))) (qThen ?_)
        exact (Le.cv (s := ⟨[], [], [], false⟩) (own := []) (ps := [false = false]) (st' := ⟨[(4, .one (.dat .bool false))], [], 0⟩) hO (fun h => by cases h) (by kernel_rfl) ⟨rfl, trivial⟩).ht (cont false (of_some hT3))
    · refine HT.reg (rs := [⟨none, .no⟩, ⟨none, .no⟩, ⟨none, .no⟩, ⟨none, .call [.imm (.sl (.int .i64)), .imm (.int .i64)] [⟨false, .bool, y4⟩] []⟩, ⟨none, .no⟩, ⟨some false, .no⟩, ⟨some false, .no⟩, ⟨some false, .no⟩, ⟨some false, .no⟩, ⟨none, .tv false⟩, ⟨none, .no⟩, ⟨some false, .no⟩, ⟨some false, .no⟩, ⟨some false, .no⟩, ⟨some false, .no⟩, ⟨none, .tv false⟩, ⟨none, .no⟩]) (st' := ⟨[(4, .one (.dat .bool false)), (20, .one (.dat .bool false)), (19, .und), (18, .und), (17, .und), (16, .und), (15, .one (.dat .bool false)), (14, .one (.dat .bool false)), (13, .und), (12, .und), (11, .und), (10, .und), (9, .one (.dat .bool y4)), (8, .one (.dat .bool y4)), (7, .one (.dat (.int .i64) a1)), (6, .one (.dat (.sl (.int .i64)) a0.1)), (5, .one (.ptr 0 0)), (1, .one (.dat (.int .i64) a1)), (2, .one (.ptr 0 0))], [(0, .box [.dat (.sl (.int .i64)) a0.1, .dat (.sl (.int .i64)) a0.2])], 1⟩) hP hN (by kernel_rfl) (allCons (f136_ok hc5) (allCons hb6 (allCons hb6 (allCons hb6 (allCons hb6 (allCons hb6 (allCons (rfl : false = false) (allCons (rfl : false = false) (allCons (rfl : false = false) (allCons (rfl : false = false) (allCons (rfl : false = false) allNil))))))))))) (qThen ?_)
      exact (Le.cv (s := ⟨[], [], [], false⟩) (own := []) (ps := [false = false]) (st' := ⟨[(4, .one (.dat .bool false))], [], 0⟩) hO (fun h => by cases h) (by kernel_rfl) ⟨rfl, trivial⟩).ht (cont false (of_some hT3))

noncomputable def spec_l07Go (a0 : Int × Int × List Int × List Bool) (a1 : Int) (a2 : Int) : Option (Int) :=
  guardP ((0 : Int) ≤ (wadd .i64 (wmul .i64 a1 a0.2.1) a2) ∧ (wadd .i64 (wmul .i64 a1 a0.2.1) a2) < lenI a0.2.2.1) (
    some (List.getD a0.2.2.1 (Int.toNat (wadd .i64 (wmul .i64 a1 a0.2.1) a2)) (0 : Int)))

theorem f148_ok {a0 : Int × Int × List Int × List Bool} {a1 : Int} {a2 : Int} {r : Int} (hr : spec_l07Go a0 a1 a2 = some r) : CallOK Try.prog 148 [.pimm (.st (.pair (.int .i64) (.pair (.int .i64) (.pair (.sl (.int .i64)) (.sl .bool))))) a0, .imm (.int .i64) a1, .imm (.int .i64) a2] [⟨false, (.int .i64), r⟩] [] := by
  unfold spec_l07Go at hr
  refine CallOK.of_body (ts := [(false, (.int .i64))]) Try.func148 rfl (by kernel_rfl) (Nat.le_of_ble_eq_true (by kernel_rfl)) fun cx hP hN hO hF => ?_
  have hO : cx.own.map Prod.fst = [] := hO
  have hF : cx.F = [] := hF rfl
  show HT cx ⟨[(0, .one (.ip (.st (.pair (.int .i64) (.pair (.int .i64) (.pair (.sl (.int .i64)) (.sl .bool))))) a0 0)), (1, .one (.dat (.int .i64) a1)), (2, .one (.dat (.int .i64) a2))], [], 0⟩ _ _
  refine HT.reg1 [0, 1, 2] [⟨none, .no⟩] ⟨[(0, .one (.ip (.st (.pair (.int .i64) (.pair (.int .i64) (.pair (.sl (.int .i64)) (.sl .bool))))) a0 0)), (1, .one (.dat (.int .i64) a1)), (2, .one (.dat (.int .i64) a2))], [], 0⟩ hP hN (by kernel_rfl) allNil ?_
  obtain ⟨hg1, hr⟩ := of_guard hr
  refine HT.drw1 [6] 12 [⟨⟨none, .no⟩, []⟩, ⟨⟨none, .no⟩, [0]⟩, ⟨⟨none, .no⟩, [0, 1]⟩, ⟨⟨none, .no⟩, [0, 1, 2]⟩, ⟨⟨none, .no⟩, []⟩, ⟨⟨none, .no⟩, []⟩, ⟨⟨none, .no⟩, [5]⟩, ⟨⟨none, .no⟩, [5, 6]⟩, ⟨⟨none, .no⟩, [5, 6, 7]⟩, ⟨⟨none, .no⟩, [4, 5, 6, 7, 8]⟩, ⟨⟨none, .no⟩, []⟩, ⟨⟨none, .no⟩, [4, 5, 6, 7, 8, 9, 10]⟩] [[0, 1, 2, 3, 4, 5, 6, 7, 8, 9, 10, 11], [0, 1, 2, 3, 4, 5, 6, 7, 8, 9, 10, 11, 12], [0, 1, 2, 3, 4, 5, 6, 7, 8, 9, 10, 11, 12, 13]] [⟨none, .no⟩, ⟨none, .no⟩, ⟨none, .no⟩] ⟨[(6, .one (.dat (.int .i64) (List.getD a0.2.2.1 (Int.toNat (wadd .i64 (wmul .i64 a1 a0.2.1) a2)) (0 : Int))))], [], 0⟩ hP hN (by kernel_rfl) (by kernel_rfl) (allCons hg1 allNil) ?_
  have hr := of_some hr
  subst hr
  exact HT.ret ⟨[.one (.dat (.int .i64) (List.getD a0.2.2.1 (Int.toNat (wadd .i64 (wmul .i64 a1 a0.2.1) a2)) (0 : Int)))], [], [], by kernel_rfl, by kernel_rfl, rfl, (.inl rfl), by kernel_rfl, trivial⟩

noncomputable def impl_Plain_to (a0 : Int × Int × List Int × List Bool) (a1 : Int) (a2 : Int) : Option (Int) :=
  guardP ((0 : Int) ≤ (wadd .i64 (wmul .i64 a1 a0.2.1) a2) ∧ (wadd .i64 (wmul .i64 a1 a0.2.1) a2) < lenI a0.2.2.1) (
    some (List.getD a0.2.2.1 (Int.toNat (wadd .i64 (wmul .i64 a1 a0.2.1) a2)) (0 : Int)))

theorem f151_ok {a0 : Int × Int × List Int × List Bool} {a1 : Int} {a2 : Int} {r : Int} (hr : impl_Plain_to a0 a1 a2 = some r) : CallOK Try.prog 151 [.imm (.st (.pair (.int .i64) (.pair (.int .i64) (.pair (.sl (.int .i64)) (.sl .bool))))) a0, .imm (.int .i64) a1, .imm (.int .i64) a2] [⟨false, (.int .i64), r⟩] [] := by
  unfold impl_Plain_to at hr
  refine CallOK.of_body (ts := [(false, (.int .i64))]) Try.func151 rfl (by kernel_rfl) (Nat.le_of_ble_eq_true (by kernel_rfl)) fun cx hP hN hO hF => ?_
  have hO : cx.own.map Prod.fst = [] := hO
  have hF : cx.F = [] := hF rfl
  show HT cx ⟨[(0, .agg [.dat (.int .i64) a0.1, .dat (.int .i64) a0.2.1, .dat (.sl (.int .i64)) a0.2.2.1, .dat (.sl .bool) a0.2.2.2]), (1, .one (.dat (.int .i64) a1)), (2, .one (.dat (.int .i64) a2))], [], 0⟩ _ _
  refine HT.reg1 [1, 2, 3] [⟨none, .no⟩, ⟨none, .no⟩] ⟨[(1, .one (.dat (.int .i64) a1)), (2, .one (.dat (.int .i64) a2)), (3, .one (.ptr 0 0))], [(0, .box [.dat (.int .i64) a0.1, .dat (.int .i64) a0.2.1, .dat (.sl (.int .i64)) a0.2.2.1, .dat (.sl .bool) a0.2.2.2])], 1⟩ hP hN (by kernel_rfl) allNil ?_
  obtain ⟨hg1, hr⟩ := of_guard hr
  refine HT.reg1 [6] [⟨none, .no⟩, ⟨none, .no⟩, ⟨none, .no⟩, ⟨none, .no⟩, ⟨none, .no⟩, ⟨none, .no⟩, ⟨none, .no⟩, ⟨none, .no⟩, ⟨none, .no⟩, ⟨none, .no⟩, ⟨none, .no⟩] ⟨[(6, .one (.dat (.int .i64) (List.getD a0.2.2.1 (Int.toNat (wadd .i64 (wmul .i64 a1 a0.2.1) a2)) (0 : Int))))], [(0, .box [.dat (.int .i64) a0.1, .dat (.int .i64) a0.2.1, .dat (.sl (.int .i64)) a0.2.2.1, .dat (.sl .bool) a0.2.2.2])], 1⟩ hP hN (by kernel_rfl) (allCons hg1 allNil) ?_
  have hr := of_some hr
  subst hr
  exact HT.ret ⟨[.one (.dat (.int .i64) (List.getD a0.2.2.1 (Int.toNat (wadd .i64 (wmul .i64 a1 a0.2.1) a2)) (0 : Int)))], [], [], by kernel_rfl, by kernel_rfl, rfl, (.inl rfl), by kernel_rfl, trivial⟩

end Go.Proofs
