import Derived.Test.YtggdpdiihkbncaaBestHiddenGenA
import Derived.Test.YtggdpdiihkbncaaProg
set_option linter.unusedVariables false
set_option linter.unusedSimpArgs false
set_option linter.unusedSectionVars false
/-
  Functions as plain functions, and their contracts. Printed by a program.
-/
namespace Go.Proofs
open Go.Ide

noncomputable def impl_Model_show (a0 : Int × Int × List Nat × List Nat × List Nat) (a1 : Int) (a2 : Int) : Option (Nat) :=
  guardP ((0 : Int) ≤ (wadd .i64 (wmul .i64 a1 a0.2.1) a2) ∧ (wadd .i64 (wmul .i64 a1 a0.2.1) a2) < lenI a0.2.2.2.2) (
    some (List.getD a0.2.2.2.2 (Int.toNat (wadd .i64 (wmul .i64 a1 a0.2.1) a2)) (0 : Nat)))

theorem f98_ok {a0 : Int × Int × List Nat × List Nat × List Nat} {a1 : Int} {a2 : Int} {r : Nat} (hr : impl_Model_show a0 a1 a2 = some r) : CallOK Try.prog 98 [.imm (.st (.pair (.int .i64) (.pair (.int .i64) (.pair (.sl (.flt .f32)) (.pair (.sl (.flt .f32)) (.sl (.flt .f32))))))) a0, .imm (.int .i64) a1, .imm (.int .i64) a2] [⟨false, (.flt .f32), r⟩] [] := by
  unfold impl_Model_show at hr
  refine CallOK.of_body (ts := [(false, (.flt .f32))]) Try.func98 rfl (by kernel_rfl) (Nat.le_of_ble_eq_true (by kernel_rfl)) fun cx hP hN hO hF => ?_
  have hO : cx.own.map Prod.fst = [] := hO
  have hF : cx.F = [] := hF rfl
  show HT cx ⟨[(0, .agg [.dat (.int .i64) a0.1, .dat (.int .i64) a0.2.1, .dat (.sl (.flt .f32)) a0.2.2.1, .dat (.sl (.flt .f32)) a0.2.2.2.1, .dat (.sl (.flt .f32)) a0.2.2.2.2]), (1, .one (.dat (.int .i64) a1)), (2, .one (.dat (.int .i64) a2))], [], 0⟩ _ _
  refine HT.reg1 [1, 2, 3] [⟨none, .no⟩, ⟨none, .no⟩] ⟨[(1, .one (.dat (.int .i64) a1)), (2, .one (.dat (.int .i64) a2)), (3, .one (.ptr 0 0))], [(0, .box [.dat (.int .i64) a0.1, .dat (.int .i64) a0.2.1, .dat (.sl (.flt .f32)) a0.2.2.1, .dat (.sl (.flt .f32)) a0.2.2.2.1, .dat (.sl (.flt .f32)) a0.2.2.2.2])], 1⟩ hP hN (by kernel_rfl) allNil ?_
  obtain ⟨hg1, hr⟩ := of_guard hr
  refine HT.reg1 [6] [⟨none, .no⟩, ⟨none, .no⟩, ⟨none, .no⟩, ⟨none, .no⟩, ⟨none, .no⟩, ⟨none, .no⟩, ⟨none, .no⟩, ⟨none, .no⟩, ⟨none, .no⟩, ⟨none, .no⟩, ⟨none, .no⟩] ⟨[(6, .one (.dat (.flt .f32) (List.getD a0.2.2.2.2 (Int.toNat (wadd .i64 (wmul .i64 a1 a0.2.1) a2)) (0 : Nat))))], [(0, .box [.dat (.int .i64) a0.1, .dat (.int .i64) a0.2.1, .dat (.sl (.flt .f32)) a0.2.2.1, .dat (.sl (.flt .f32)) a0.2.2.2.1, .dat (.sl (.flt .f32)) a0.2.2.2.2])], 1⟩ hP hN (by kernel_rfl) (allCons hg1 allNil) ?_
  have hr := of_some hr
  subst hr
  exact HT.ret ⟨[.one (.dat (.flt .f32) (List.getD a0.2.2.2.2 (Int.toNat (wadd .i64 (wmul .i64 a1 a0.2.1) a2)) (0 : Nat)))], [], [], by kernel_rfl, by kernel_rfl, rfl, (.inl rfl), by kernel_rfl, trivial⟩

noncomputable def impl_Model_step (a0 : Int × Int × List Nat × List Nat × List Nat) (a1 : Int) (a2 : Int) : Option (Nat) :=
  guardP ((0 : Int) ≤ (wadd .i64 (wmul .i64 a1 a0.1) a2) ∧ (wadd .i64 (wmul .i64 a1 a0.1) a2) < lenI a0.2.2.2.1) (
    some (List.getD a0.2.2.2.1 (Int.toNat (wadd .i64 (wmul .i64 a1 a0.1) a2)) (0 : Nat)))

theorem f99_ok {a0 : Int × Int × List Nat × List Nat × List Nat} {a1 : Int} {a2 : Int} {r : Nat} (hr : impl_Model_step a0 a1 a2 = some r) : CallOK Try.prog 99 [.imm (.st (.pair (.int .i64) (.pair (.int .i64) (.pair (.sl (.flt .f32)) (.pair (.sl (.flt .f32)) (.sl (.flt .f32))))))) a0, .imm (.int .i64) a1, .imm (.int .i64) a2] [⟨false, (.flt .f32), r⟩] [] := by
  unfold impl_Model_step at hr
  refine CallOK.of_body (ts := [(false, (.flt .f32))]) Try.func99 rfl (by kernel_rfl) (Nat.le_of_ble_eq_true (by kernel_rfl)) fun cx hP hN hO hF => ?_
  have hO : cx.own.map Prod.fst = [] := hO
  have hF : cx.F = [] := hF rfl
  show HT cx ⟨[(0, .agg [.dat (.int .i64) a0.1, .dat (.int .i64) a0.2.1, .dat (.sl (.flt .f32)) a0.2.2.1, .dat (.sl (.flt .f32)) a0.2.2.2.1, .dat (.sl (.flt .f32)) a0.2.2.2.2]), (1, .one (.dat (.int .i64) a1)), (2, .one (.dat (.int .i64) a2))], [], 0⟩ _ _
  refine HT.reg1 [1, 2, 3] [⟨none, .no⟩, ⟨none, .no⟩] ⟨[(1, .one (.dat (.int .i64) a1)), (2, .one (.dat (.int .i64) a2)), (3, .one (.ptr 0 0))], [(0, .box [.dat (.int .i64) a0.1, .dat (.int .i64) a0.2.1, .dat (.sl (.flt .f32)) a0.2.2.1, .dat (.sl (.flt .f32)) a0.2.2.2.1, .dat (.sl (.flt .f32)) a0.2.2.2.2])], 1⟩ hP hN (by kernel_rfl) allNil ?_
  obtain ⟨hg1, hr⟩ := of_guard hr
  refine HT.reg1 [6] [⟨none, .no⟩, ⟨none, .no⟩, ⟨none, .no⟩, ⟨none, .no⟩, ⟨none, .no⟩, ⟨none, .no⟩, ⟨none, .no⟩, ⟨none, .no⟩, ⟨none, .no⟩, ⟨none, .no⟩, ⟨none, .no⟩] ⟨[(6, .one (.dat (.flt .f32) (List.getD a0.2.2.2.1 (Int.toNat (wadd .i64 (wmul .i64 a1 a0.1) a2)) (0 : Nat))))], [(0, .box [.dat (.int .i64) a0.1, .dat (.int .i64) a0.2.1, .dat (.sl (.flt .f32)) a0.2.2.1, .dat (.sl (.flt .f32)) a0.2.2.2.1, .dat (.sl (.flt .f32)) a0.2.2.2.2])], 1⟩ hP hN (by kernel_rfl) (allCons hg1 allNil) ?_
  have hr := of_some hr
  subst hr
  exact HT.ret ⟨[.one (.dat (.flt .f32) (List.getD a0.2.2.2.1 (Int.toNat (wadd .i64 (wmul .i64 a1 a0.1) a2)) (0 : Nat)))], [], [], by kernel_rfl, by kernel_rfl, rfl, (.inl rfl), by kernel_rfl, trivial⟩

noncomputable def impl_IsFinite (a0 : Nat) : Option (Bool) :=
  some (feq .f32 (fop .sub .f32 a0 a0) (0 : Nat))

theorem f100_ok {a0 : Nat} {r : Bool} (hr : impl_IsFinite a0 = some r) : CallOK Try.prog 100 [.imm (.flt .f32) a0] [⟨false, .bool, r⟩] [] := by
  unfold impl_IsFinite at hr
  refine CallOK.of_body (ts := [(false, .bool)]) Try.func100 rfl (by kernel_rfl) (Nat.le_of_ble_eq_true (by kernel_rfl)) fun cx hP hN hO hF => ?_
  have hO : cx.own.map Prod.fst = [] := hO
  have hF : cx.F = [] := hF rfl
  show HT cx ⟨[(0, .one (.dat (.flt .f32) a0))], [], 0⟩ _ _
  refine HT.reg1 [0] [⟨none, .no⟩] ⟨[(0, .one (.dat (.flt .f32) a0))], [], 0⟩ hP hN (by kernel_rfl) allNil ?_
  refine HT.reg1 [2] [⟨none, .no⟩, ⟨none, .no⟩, ⟨none, .no⟩, ⟨none, .no⟩, ⟨none, .no⟩] ⟨[(2, .one (.dat .bool (feq .f32 (fop .sub .f32 a0 a0) (0 : Nat))))], [], 0⟩ hP hN (by kernel_rfl) allNil ?_
  have hr := of_some hr
  subst hr
  exact HT.ret ⟨[.one (.dat .bool (feq .f32 (fop .sub .f32 a0 a0) (0 : Nat)))], [], [], by kernel_rfl, by kernel_rfl, rfl, (.inl rfl), by kernel_rfl, trivial⟩

noncomputable def impl_BestHidden_B1 (r8 : List Nat × List (List Int)) (s16 : Int × List Int) : Option ((Int × List Int) ⊕ (List Int)) :=
  bif (decide (s16.1 ≥ (0 : Int))) then
    guardP ((0 : Int) ≤ s16.1 ∧ s16.1 < lenI r8.2) (
      guardP ((0 : Int) ≤ (wadd .i64 s16.1 (1 : Int)) ∧ (wadd .i64 s16.1 (1 : Int)) < lenI s16.2) (
        guardP ((0 : Int) ≤ (List.getD s16.2 (Int.toNat (wadd .i64 s16.1 (1 : Int))) (0 : Int)) ∧ (List.getD s16.2 (Int.toNat (wadd .i64 s16.1 (1 : Int))) (0 : Int)) < lenI (List.getD r8.2 (Int.toNat s16.1) ([] : List Int))) (
          guardP ((0 : Int) ≤ s16.1 ∧ s16.1 < lenI s16.2) (
            some (.inl ((wsub .i64 s16.1 (1 : Int)), (List.set s16.2 (Int.toNat s16.1) (List.getD (List.getD r8.2 (Int.toNat s16.1) ([] : List Int)) (Int.toNat (List.getD s16.2 (Int.toNat (wadd .i64 s16.1 (1 : Int))) (0 : Int))) (0 : Int)))))))))
  else
    some (.inr s16.2)

noncomputable def impl_BestHidden_B2 (r8 : List Nat × List (List Int)) (s9 : Int × Int) : Option ((Int × Int) ⊕ (Int)) :=
  bif (decide (s9.2 < (lenI r8.1))) then
    (show Option (Int) from
      guardP ((0 : Int) ≤ s9.2 ∧ s9.2 < lenI r8.1) (
        guardP ((0 : Int) ≤ s9.1 ∧ s9.1 < lenI r8.1) (
          bif (fgt .f32 (List.getD r8.1 (Int.toNat s9.2) (0 : Nat)) (List.getD r8.1 (Int.toNat s9.1) (0 : Nat))) then
            some s9.2
          else
            some s9.1))).bind fun v35 =>
    some (.inl (v35, (wadd .i64 s9.2 (1 : Int))))
  else
    some (.inr s9.1)

noncomputable def impl_BestHidden_B3 (a0 : Int × Int × List Nat × List Nat × List Nat) (a1 : List Int) (s6 : Int × List Nat × List (List Int)) (s48 : Int × List Nat × List Int) (s56 : Int × List Nat × List Int) : Option ((Int × List Nat × List Int) ⊕ ((List Nat × List Int))) :=
  bif (decide (s56.1 < a0.1)) then
    (show Option (List Nat × List Int) from
      guardP ((0 : Int) ≤ s56.1 ∧ s56.1 < lenI s6.2.1) (
        (impl_Model_show (a0.1, a0.2.1, a0.2.2.1, a0.2.2.2.1, a0.2.2.2.2) s56.1 (List.getD a1 (Int.toNat s6.1) (0 : Int))).bind fun y67 =>
        (impl_Model_step (a0.1, a0.2.1, a0.2.2.1, a0.2.2.2.1, a0.2.2.2.2) s56.1 s48.1).bind fun y69 =>
        (show Option (Bool) from
          bif (s56.1 == (0 : Int)) then
            some true
          else
            guardP ((0 : Int) ≤ s48.1 ∧ s48.1 < lenI s56.2.1) (
              some (fgt .f32 (fop .mul .f32 (fop .mul .f32 (List.getD s6.2.1 (Int.toNat s56.1) (0 : Nat)) y67) y69) (List.getD s56.2.1 (Int.toNat s48.1) (0 : Nat))))).bind fun v71 =>
        bif v71 then
          guardP ((0 : Int) ≤ s48.1 ∧ s48.1 < lenI s56.2.1) (
            guardP ((0 : Int) ≤ s48.1 ∧ s48.1 < lenI s56.2.2) (
              some ((List.set s56.2.1 (Int.toNat s48.1) (fop .mul .f32 (fop .mul .f32 (List.getD s6.2.1 (Int.toNat s56.1) (0 : Nat)) y67) y69)), (List.set s56.2.2 (Int.toNat s48.1) s56.1))))
        else
          some (s56.2.1, s56.2.2))).bind fun v63 =>
    some (.inl ((wadd .i64 s56.1 (1 : Int)), v63.1, v63.2))
  else
    some (.inr (s56.2.1, s56.2.2))

noncomputable def impl_BestHidden_B4 (a0 : Int × Int × List Nat × List Nat × List Nat) (a1 : List Int) (s6 : Int × List Nat × List (List Int)) (s48 : Int × List Nat × List Int) : Option ((Int × List Nat × List Int) ⊕ ((List Nat × List Int))) :=
  bif (decide (s48.1 < a0.1)) then
    (rounds (impl_BestHidden_B3 a0 a1 s6 s48) ((0 : Int), s48.2.1, s48.2.2)).bind fun r58 =>
    some (.inl ((wadd .i64 s48.1 (1 : Int)), r58.1, r58.2))
  else
    some (.inr (s48.2.1, s48.2.2))

noncomputable def impl_BestHidden_B5 (a0 : Int × Int × List Nat × List Nat × List Nat) (a1 : List Int) (s6 : Int × List Nat × List (List Int)) : Option ((Int × List Nat × List (List Int)) ⊕ ((List Nat × List (List Int)))) :=
  bif (decide (s6.1 < (lenI a1))) then
    guardP ((0 : Int) ≤ s6.1 ∧ s6.1 < lenI a1) (
      guardP ((0 : Int) ≤ a0.1 ∧ a0.1 ≤ 4294967296) (
        (rounds (impl_BestHidden_B4 a0 a1 s6) ((0 : Int), (List.replicate (Int.toNat a0.1) (0 : Nat)), (List.replicate (Int.toNat a0.1) (0 : Int)))).bind fun r50 =>
        guardP (List.length s6.2.2 + List.length ([r50.2] : List (List Int)) ≤ appMax) (
          some (.inl ((wadd .i64 s6.1 (1 : Int)), r50.1, (s6.2.2 ++ ([r50.2] : List (List Int))))))))
  else
    some (.inr (s6.2.1, s6.2.2))

noncomputable def impl_BestHidden (a0 : Int × Int × List Nat × List Nat × List Nat) (a1 : List Int) : Option (List Int × Nat × Bool) :=
  (impl_Model_has (a0.1, a0.2.1, a0.2.2.1, a0.2.2.2.1, a0.2.2.2.2) a1).bind fun y1 =>
  bif (!y1) then
    some (([] : List Int), (0 : Nat), false)
  else
    (slices_Clone a0.2.2.1).bind fun y4 =>
    (rounds (impl_BestHidden_B5 a0 a1) ((0 : Int), y4, ([] : List (List Int)))).bind fun r8 =>
    (rounds (impl_BestHidden_B2 r8) ((0 : Int), (0 : Int))).bind fun r11 =>
    guardP ((0 : Int) ≤ (wadd .i64 (lenI a1) (1 : Int)) ∧ (wadd .i64 (lenI a1) (1 : Int)) ≤ 4294967296) (
      guardP ((0 : Int) ≤ (lenI a1) ∧ (lenI a1) < lenI (List.replicate (Int.toNat (wadd .i64 (lenI a1) (1 : Int))) (0 : Int))) (
        (some (List.set (List.replicate (Int.toNat (wadd .i64 (lenI a1) (1 : Int))) (0 : Int)) (Int.toNat (lenI a1)) r11)).bind fun q14 =>
        (rounds (impl_BestHidden_B1 r8) ((wsub .i64 (lenI a1) (1 : Int)), q14)).bind fun r18 =>
        guardP ((0 : Int) ≤ r11 ∧ r11 < lenI r8.1) (
          (impl_IsFinite (List.getD r8.1 (Int.toNat r11) (0 : Nat))).bind fun y20 =>
          some (r18, (List.getD r8.1 (Int.toNat r11) (0 : Nat)), y20))))

theorem f19_ok {a0 : Int × Int × List Nat × List Nat × List Nat} {a1 : List Int} {r : List Int × Nat × Bool} (hr : impl_BestHidden a0 a1 = some r) : CallOK Try.prog 19 [.imm (.st (.pair (.int .i64) (.pair (.int .i64) (.pair (.sl (.flt .f32)) (.pair (.sl (.flt .f32)) (.sl (.flt .f32))))))) a0, .imm (.sl (.int .i64)) a1] [⟨true, (.sl (.int .i64)), r.1⟩, ⟨false, (.flt .f32), r.2.1⟩, ⟨false, .bool, r.2.2⟩] [] := by
  unfold impl_BestHidden at hr
  refine CallOK.of_body (ts := [(true, (.sl (.int .i64))), (false, (.flt .f32)), (false, .bool)]) Try.func19 rfl (by kernel_rfl) (Nat.le_of_ble_eq_true (by kernel_rfl)) fun cx hP hN hO hF => ?_
  have hO : cx.own.map Prod.fst = [] := hO
  have hF : cx.F = [] := hF rfl
  show HT cx ⟨[(0, .agg [.dat (.int .i64) a0.1, .dat (.int .i64) a0.2.1, .dat (.sl (.flt .f32)) a0.2.2.1, .dat (.sl (.flt .f32)) a0.2.2.2.1, .dat (.sl (.flt .f32)) a0.2.2.2.2]), (1, .one (.dat (.sl (.int .i64)) a1))], [], 0⟩ _ _
  refine HT.reg1 [1, 2] [⟨none, .no⟩, ⟨none, .no⟩, ⟨none, .no⟩, ⟨none, .no⟩] ⟨[(1, .one (.dat (.sl (.int .i64)) a1)), (2, .one (.ptr 0 0))], [(0, .box [.dat (.int .i64) a0.1, .dat (.int .i64) a0.2.1, .dat (.sl (.flt .f32)) a0.2.2.1, .dat (.sl (.flt .f32)) a0.2.2.2.1, .dat (.sl (.flt .f32)) a0.2.2.2.2])], 1⟩ hP hN (by kernel_rfl) allNil ?_
  refine HT.seq ?_
  obtain ⟨y1, hc2, hr⟩ := of_bind hr
  refine HT.reg1 [1, 2, 24] [⟨none, .no⟩, ⟨none, .no⟩, ⟨none, .call [.imm (.st (.pair (.int .i64) (.pair (.int .i64) (.pair (.sl (.flt .f32)) (.pair (.sl (.flt .f32)) (.sl (.flt .f32))))))), .imm (.sl (.int .i64))] [⟨false, .bool, y1⟩] []⟩, ⟨none, .no⟩] ⟨[(1, .one (.dat (.sl (.int .i64)) a1)), (2, .one (.ptr 0 0)), (24, .one (.dat .bool (!y1)))], [(0, .box [.dat (.int .i64) a0.1, .dat (.int .i64) a0.2.1, .dat (.sl (.flt .f32)) a0.2.2.1, .dat (.sl (.flt .f32)) a0.2.2.2.1, .dat (.sl (.flt .f32)) a0.2.2.2.2])], 1⟩ hP hN (by kernel_rfl) (allCons (f96_ok hc2) allNil) ?_
  rcases of_bif hr with ⟨hb3, hr⟩ | ⟨hb3, hr⟩
  · refine HT.cond1 rfl hb3 ?_
    refine HT.reg1 [4, 5, 6] [⟨none, .no⟩, ⟨none, .no⟩, ⟨none, .no⟩] ⟨[(4, .one (.nilS)), (5, .one (.dat (.flt .f32) (0 : Nat))), (6, .one (.dat .bool false))], [(0, .box [.dat (.int .i64) a0.1, .dat (.int .i64) a0.2.1, .dat (.sl (.flt .f32)) a0.2.2.1, .dat (.sl (.flt .f32)) a0.2.2.2.1, .dat (.sl (.flt .f32)) a0.2.2.2.2])], 1⟩ hP hN (by kernel_rfl) allNil ?_
    have hr := of_some hr
    subst hr
    exact HT.ret (qThenR ⟨[.one (.nilS), .one (.dat (.flt .f32) (0 : Nat)), .one (.dat .bool false)], [], [], by kernel_rfl, by kernel_rfl, rfl, (.inl rfl), by kernel_rfl, trivial⟩)
  · refine HT.cond0 rfl hb3 ?_
    refine HT.skip (qThen ?_)
    obtain ⟨y4, hc5, hr⟩ := of_bind hr
    refine HT.reg1 [1, 2, 7] [⟨none, .no⟩, ⟨none, .no⟩, ⟨none, .call [.imm (.sl (.flt .f32))] [⟨true, (.sl (.flt .f32)), y4⟩] []⟩, ⟨none, .no⟩] ⟨[(1, .one (.dat (.sl (.int .i64)) a1)), (2, .one (.ptr 0 0)), (7, .one (.all 1))], [(1, .seq (.flt .f32) y4), (0, .box [.dat (.int .i64) a0.1, .dat (.int .i64) a0.2.1, .dat (.sl (.flt .f32)) a0.2.2.1, .dat (.sl (.flt .f32)) a0.2.2.2.1, .dat (.sl (.flt .f32)) a0.2.2.2.2])], 2⟩ hP hN (by kernel_rfl) (allCons (f97_ok hc5) allNil) ?_
    refine HT.reg1 [1, 2, 7, 8] [⟨none, .no⟩, ⟨none, .no⟩] ⟨[(1, .one (.dat (.sl (.int .i64)) a1)), (2, .one (.ptr 0 0)), (7, .one (.all 1)), (8, .one (.nilS))], [(1, .seq (.flt .f32) y4), (0, .box [.dat (.int .i64) a0.1, .dat (.int .i64) a0.2.1, .dat (.sl (.flt .f32)) a0.2.2.1, .dat (.sl (.flt .f32)) a0.2.2.2.1, .dat (.sl (.flt .f32)) a0.2.2.2.2])], 2⟩ hP hN (by kernel_rfl) allNil ?_
    refine HT.seq ?_
    refine HT.reg1 [1, 2, 7, 8, 29, 30, 31] [⟨none, .no⟩, ⟨none, .no⟩, ⟨none, .no⟩] ⟨[(1, .one (.dat (.sl (.int .i64)) a1)), (2, .one (.ptr 0 0)), (7, .one (.all 1)), (8, .one (.nilS)), (29, .one (.dat (.sl (.int .i64)) a1)), (30, .one (.dat (.int .i64) (lenI a1))), (31, .one (.dat (.int .i64) (0 : Int)))], [(1, .seq (.flt .f32) y4), (0, .box [.dat (.int .i64) a0.1, .dat (.int .i64) a0.2.1, .dat (.sl (.flt .f32)) a0.2.2.1, .dat (.sl (.flt .f32)) a0.2.2.2.1, .dat (.sl (.flt .f32)) a0.2.2.2.2])], 2⟩ hP hN (by kernel_rfl) allNil ?_
    refine HT.block ?_
    obtain ⟨r7, hL81, hr⟩ := of_bind hr
    refine (Le.cv (s := ⟨[(0, 0), (1, 1)], [2], [], false⟩) (own := []) (ps := [a1 = a1, a1 = a1, (lenI a1) = (lenI a1), (0 : Int) = (0 : Int), a0.1 = a0.1, a0.2.1 = a0.2.1, a0.2.2.1 = a0.2.2.1, a0.2.2.2.1 = a0.2.2.2.1, a0.2.2.2.2 = a0.2.2.2.2, y4 = y4, ([] : List (List Int)) = []]) (st' := ⟨[(1, .one (.dat (.sl (.int .i64)) a1)), (2, .one (.ptr 0 0)), (7, .one (.all 1)), (8, .one (.all 2)), (29, .one (.dat (.sl (.int .i64)) a1)), (30, .one (.dat (.int .i64) (lenI a1))), (31, .one (.dat (.int .i64) (0 : Int)))], [(0, .box [.dat (.int .i64) a0.1, .dat (.int .i64) a0.2.1, .dat (.sl (.flt .f32)) a0.2.2.1, .dat (.sl (.flt .f32)) a0.2.2.2.1, .dat (.sl (.flt .f32)) a0.2.2.2.2]), (1, .seq (.flt .f32) y4), (2, .seq (.sl (.int .i64)) ([] : List (List Int)))], 3⟩) hO (fun h => by cases h) (by kernel_rfl) ⟨rfl, rfl, rfl, rfl, rfl, rfl, rfl, rfl, rfl, rfl, rfl, trivial⟩).ht ?_
    refine HT.loopE (s := ((0 : Int), y4, ([] : List (List Int)))) (fun (s6 : Int × List Nat × List (List Int)) => ⟨[(1, .one (.dat (.sl (.int .i64)) a1)), (2, .one (.ptr 0 0)), (7, .one (.all 1)), (8, .one (.all 2)), (29, .one (.dat (.sl (.int .i64)) a1)), (30, .one (.dat (.int .i64) (lenI a1))), (31, .one (.dat (.int .i64) s6.1))], [(0, .box [.dat (.int .i64) a0.1, .dat (.int .i64) a0.2.1, .dat (.sl (.flt .f32)) a0.2.2.1, .dat (.sl (.flt .f32)) a0.2.2.2.1, .dat (.sl (.flt .f32)) a0.2.2.2.2]), (1, .seq (.flt .f32) s6.2.1), (2, .seq (.sl (.int .i64)) s6.2.2)], 3⟩) (fun (r8 : (List Nat × List (List Int))) => (.exit 0, ⟨[(1, .one (.dat (.sl (.int .i64)) a1)), (7, .one (.all 0)), (8, .one (.all 1))], [(0, .seq (.flt .f32) r8.1), (1, .seq (.sl (.int .i64)) r8.2)], 2⟩)) hL81 ?_ (fun s6 x42 hx43 hk44 => ?_)
    · refine (qBlockX (qThen ?_))
      refine HT.reg1 [1, 7, 8, 16] [⟨none, .no⟩] ⟨[(1, .one (.dat (.sl (.int .i64)) a1)), (7, .one (.all 0)), (8, .one (.all 1)), (16, .one (.dat (.int .i64) (0 : Int)))], [(0, .seq (.flt .f32) r7.1), (1, .seq (.sl (.int .i64)) r7.2)], 2⟩ hP hN (by kernel_rfl) allNil ?_
      refine HT.seq ?_
      refine HT.reg1 [1, 7, 8, 16, 91, 92, 93] [⟨none, .no⟩, ⟨none, .no⟩, ⟨none, .no⟩] ⟨[(1, .one (.dat (.sl (.int .i64)) a1)), (7, .one (.all 0)), (8, .one (.all 1)), (16, .one (.dat (.int .i64) (0 : Int))), (91, .one (.all 0)), (92, .one (.dat (.int .i64) (lenI r7.1))), (93, .one (.dat (.int .i64) (0 : Int)))], [(0, .seq (.flt .f32) r7.1), (1, .seq (.sl (.int .i64)) r7.2)], 2⟩ hP hN (by kernel_rfl) allNil ?_
      refine HT.block ?_
      obtain ⟨r10, hL41, hr⟩ := of_bind hr
      refine (Le.cv (s := ⟨[(0, 0), (1, 1)], [], [], false⟩) (own := []) (ps := [a1 = a1, (0 : Int) = (0 : Int), (lenI r7.1) = (lenI r7.1), (0 : Int) = (0 : Int), r7.1 = r7.1, r7.2 = r7.2]) (st' := ⟨[(1, .one (.dat (.sl (.int .i64)) a1)), (7, .one (.all 0)), (8, .one (.all 1)), (16, .one (.dat (.int .i64) (0 : Int))), (91, .one (.all 0)), (92, .one (.dat (.int .i64) (lenI r7.1))), (93, .one (.dat (.int .i64) (0 : Int)))], [(0, .seq (.flt .f32) r7.1), (1, .seq (.sl (.int .i64)) r7.2)], 2⟩) hO (fun h => by cases h) (by kernel_rfl) ⟨rfl, rfl, rfl, rfl, rfl, rfl, trivial⟩).ht ?_
      refine HT.loopE (s := ((0 : Int), (0 : Int))) (fun (s9 : Int × Int) => ⟨[(1, .one (.dat (.sl (.int .i64)) a1)), (7, .one (.all 0)), (8, .one (.all 1)), (16, .one (.dat (.int .i64) s9.1)), (91, .one (.all 0)), (92, .one (.dat (.int .i64) (lenI r7.1))), (93, .one (.dat (.int .i64) s9.2))], [(0, .seq (.flt .f32) r7.1), (1, .seq (.sl (.int .i64)) r7.2)], 2⟩) (fun (r11 : Int) => (.exit 6, ⟨[(1, .one (.dat (.sl (.int .i64)) a1)), (7, .one (.all 0)), (8, .one (.all 1)), (16, .one (.dat (.int .i64) r11))], [(0, .seq (.flt .f32) r7.1), (1, .seq (.sl (.int .i64)) r7.2)], 2⟩)) hL41 ?_ (fun s9 x31 hx32 hk33 => ?_)
      · refine (qBlockX (qThen ?_))
        obtain ⟨hg12, hr⟩ := of_guard hr
        refine HT.reg1 [1, 7, 8, 16, 19] [⟨none, .no⟩, ⟨none, .no⟩, ⟨none, .no⟩, ⟨none, .ty (.int .i64)⟩, ⟨none, .no⟩] ⟨[(1, .one (.dat (.sl (.int .i64)) a1)), (7, .one (.all 0)), (8, .one (.all 1)), (16, .one (.dat (.int .i64) r10)), (19, .one (.all 2))], [(2, .seq (.int .i64) (List.replicate (Int.toNat (wadd .i64 (lenI a1) (1 : Int))) (0 : Int))), (0, .seq (.flt .f32) r7.1), (1, .seq (.sl (.int .i64)) r7.2)], 3⟩ hP hN (by kernel_rfl) (allCons (show (0 : Int) ≤ (wadd .i64 (lenI a1) (1 : Int)) ∧ (wadd .i64 (lenI a1) (1 : Int)) ≤ 4294967296 ∧ (wadd .i64 (lenI a1) (1 : Int)) = (wadd .i64 (lenI a1) (1 : Int)) from ⟨hg12.1, hg12.2, rfl⟩) allNil) ?_
        obtain ⟨hg13, hr⟩ := of_guard hr
        refine HT.reg1 [1, 7, 8, 16, 19] [⟨none, .no⟩, ⟨none, .no⟩, ⟨none, .no⟩, ⟨none, .no⟩, ⟨none, .no⟩, ⟨none, .no⟩] ⟨[(1, .one (.dat (.sl (.int .i64)) a1)), (7, .one (.all 0)), (8, .one (.all 1)), (16, .one (.dat (.int .i64) r10)), (19, .one (.all 2))], [(2, .seq (.int .i64) (List.set (List.replicate (Int.toNat (wadd .i64 (lenI a1) (1 : Int))) (0 : Int)) (Int.toNat (lenI a1)) r10)), (2, .seq (.int .i64) (List.replicate (Int.toNat (wadd .i64 (lenI a1) (1 : Int))) (0 : Int))), (0, .seq (.flt .f32) r7.1), (1, .seq (.sl (.int .i64)) r7.2)], 3⟩ hP hN (by kernel_rfl) (allCons hg13 (allCons (natLt hg13) allNil)) ?_
        obtain ⟨q14, hq15, hr⟩ := of_bind hr
        have hq15 := of_some2 hq15
        refine (Le.cv (s := ⟨[(2, 2), (0, 0), (1, 1)], [], [], false⟩) (own := []) (ps := [a1 = a1, r10 = r10, q14 = (List.set (List.replicate (Int.toNat (wadd .i64 (lenI a1) (1 : Int))) (0 : Int)) (Int.toNat (lenI a1)) r10), r7.1 = r7.1, r7.2 = r7.2]) (st' := ⟨[(1, .one (.dat (.sl (.int .i64)) a1)), (7, .one (.all 0)), (8, .one (.all 1)), (16, .one (.dat (.int .i64) r10)), (19, .one (.all 2))], [(2, .seq (.int .i64) q14), (0, .seq (.flt .f32) r7.1), (1, .seq (.sl (.int .i64)) r7.2)], 3⟩) hO (fun h => by cases h) (by kernel_rfl) ⟨rfl, rfl, hq15, rfl, rfl, trivial⟩).ht ?_
        refine HT.seq ?_
        refine HT.reg1 [7, 8, 16, 19, 20] [⟨none, .no⟩, ⟨none, .no⟩, ⟨none, .no⟩, ⟨none, .no⟩] ⟨[(7, .one (.all 0)), (8, .one (.all 1)), (16, .one (.dat (.int .i64) r10)), (19, .one (.all 2)), (20, .one (.dat (.int .i64) (wsub .i64 (lenI a1) (1 : Int))))], [(2, .seq (.int .i64) q14), (0, .seq (.flt .f32) r7.1), (1, .seq (.sl (.int .i64)) r7.2)], 3⟩ hP hN (by kernel_rfl) allNil ?_
        refine HT.block ?_
        obtain ⟨r17, hL30, hr⟩ := of_bind hr
        refine (Le.cv (s := ⟨[(0, 0), (1, 1), (2, 2)], [], [], false⟩) (own := []) (ps := [r10 = r10, (wsub .i64 (lenI a1) (1 : Int)) = (wsub .i64 (lenI a1) (1 : Int)), r7.1 = r7.1, r7.2 = r7.2, q14 = q14]) (st' := ⟨[(7, .one (.all 0)), (8, .one (.all 1)), (16, .one (.dat (.int .i64) r10)), (19, .one (.all 2)), (20, .one (.dat (.int .i64) (wsub .i64 (lenI a1) (1 : Int))))], [(0, .seq (.flt .f32) r7.1), (1, .seq (.sl (.int .i64)) r7.2), (2, .seq (.int .i64) q14)], 3⟩) hO (fun h => by cases h) (by kernel_rfl) ⟨rfl, rfl, rfl, rfl, rfl, trivial⟩).ht ?_
        refine HT.loopE (s := ((wsub .i64 (lenI a1) (1 : Int)), q14)) (fun (s16 : Int × List Int) => ⟨[(7, .one (.all 0)), (8, .one (.all 1)), (16, .one (.dat (.int .i64) r10)), (19, .one (.all 2)), (20, .one (.dat (.int .i64) s16.1))], [(0, .seq (.flt .f32) r7.1), (1, .seq (.sl (.int .i64)) r7.2), (2, .seq (.int .i64) s16.2)], 3⟩) (fun (r18 : List Int) => (.exit 8, ⟨[(7, .one (.all 0)), (16, .one (.dat (.int .i64) r10)), (19, .one (.all 1))], [(0, .seq (.flt .f32) r7.1), (1, .seq (.int .i64) r18)], 2⟩)) hL30 ?_ (fun s16 x22 hx23 hk24 => ?_)
        · refine (qBlockX (qThen ?_))
          obtain ⟨hg19, hr⟩ := of_guard hr
          obtain ⟨y20, hc21, hr⟩ := of_bind hr
          refine HT.drw1 [4, 5, 6] 11 [⟨⟨none, .no⟩, []⟩, ⟨⟨none, .no⟩, []⟩, ⟨⟨none, .no⟩, []⟩, ⟨⟨none, .no⟩, [1, 2]⟩, ⟨⟨none, .no⟩, [1, 2, 3]⟩, ⟨⟨none, .no⟩, []⟩, ⟨⟨none, .no⟩, []⟩, ⟨⟨none, .no⟩, [5, 6]⟩, ⟨⟨none, .no⟩, [5, 6, 7]⟩, ⟨⟨none, .call [.imm (.flt .f32)] [⟨false, .bool, y20⟩] []⟩, [5, 6, 7, 8]⟩, ⟨⟨none, .no⟩, [0, 5, 6, 7, 8, 9]⟩] [[0, 1, 2, 3, 4, 5, 6, 7, 8, 9, 10], [0, 1, 2, 3, 4, 5, 6, 7, 8, 9, 10, 11]] [⟨none, .no⟩, ⟨none, .no⟩] ⟨[(4, .one (.all 1)), (5, .one (.dat (.flt .f32) (List.getD r7.1 (Int.toNat r10) (0 : Nat)))), (6, .one (.dat .bool y20))], [(0, .seq (.flt .f32) r7.1), (1, .seq (.int .i64) r17)], 2⟩ hP hN (by kernel_rfl) (by kernel_rfl) (allCons hg19 (allCons (natLt hg19) (allCons hg19 (allCons (natLt hg19) (allCons (f100_ok hc21) allNil))))) ?_
          have hr := of_some hr
          subst hr
          exact HT.ret ⟨[.one (.all 1), .one (.dat (.flt .f32) (List.getD r7.1 (Int.toNat r10) (0 : Nat))), .one (.dat .bool y20)], [1], [], by kernel_rfl, by kernel_rfl, rfl, (.inl rfl), by kernel_rfl, trivial⟩
        · refine HT.seq ?_
          refine HT.reg1 [7, 8, 16, 19, 20, 119] [⟨none, .no⟩, ⟨none, .no⟩] ⟨[(7, .one (.all 0)), (8, .one (.all 1)), (16, .one (.dat (.int .i64) r10)), (19, .one (.all 2)), (20, .one (.dat (.int .i64) s16.1)), (119, .one (.dat .bool (decide (s16.1 ≥ (0 : Int)))))], [(0, .seq (.flt .f32) r7.1), (1, .seq (.sl (.int .i64)) r7.2), (2, .seq (.int .i64) s16.2)], 3⟩ hP hN (by kernel_rfl) allNil ?_
          rcases of_bif hx23 with ⟨hb25, hx23⟩ | ⟨hb25, hx23⟩
          · refine HT.cond1 rfl hb25 ?_
            refine HT.skip (qThen ?_)
            refine HT.seq ?_
            refine HT.block ?_
            obtain ⟨hg26, hx23⟩ := of_guard hx23
            obtain ⟨hg27, hx23⟩ := of_guard hx23
            obtain ⟨hg28, hx23⟩ := of_guard hx23
            obtain ⟨hg29, hx23⟩ := of_guard hx23
            refine drawS (h := 13) (hrs := [⟨⟨none, .no⟩, []⟩, ⟨⟨none, .no⟩, []⟩, ⟨⟨none, .no⟩, []⟩, ⟨⟨none, .no⟩, []⟩, ⟨⟨none, .no⟩, [2, 3]⟩, ⟨⟨none, .no⟩, [2, 3, 4]⟩, ⟨⟨none, .no⟩, []⟩, ⟨⟨none, .no⟩, []⟩, ⟨⟨none, .no⟩, [7]⟩, ⟨⟨none, .no⟩, [6, 7, 8]⟩, ⟨⟨none, .no⟩, [6, 7, 8, 9]⟩, ⟨⟨none, .no⟩, [2, 3, 4, 5, 6, 7, 8, 9, 10]⟩, ⟨⟨none, .no⟩, [2, 3, 4, 5, 6, 7, 8, 9, 10, 11]⟩]) (tds := [[0, 1, 2, 3, 4, 5, 6, 7, 8, 9, 10, 11, 12], [0, 1, 2, 3, 4, 5, 6, 7, 8, 9, 10, 11, 12, 13]]) (rs := [⟨none, .no⟩, ⟨none, .no⟩]) (st' := ⟨[(135, .one (.elp 2 (Int.toNat s16.1) 1)), (134, .one (.dat (.int .i64) (List.getD (List.getD r7.2 (Int.toNat s16.1) ([] : List Int)) (Int.toNat (List.getD s16.2 (Int.toNat (wadd .i64 s16.1 (1 : Int))) (0 : Int))) (0 : Int)))), (133, .one (.ip (.int .i64) (List.getD (List.getD r7.2 (Int.toNat s16.1) ([] : List Int)) (Int.toNat (List.getD s16.2 (Int.toNat (wadd .i64 s16.1 (1 : Int))) (0 : Int))) (0 : Int)) 0)), (132, .one (.dat (.int .i64) (List.getD s16.2 (Int.toNat (wadd .i64 s16.1 (1 : Int))) (0 : Int)))), (131, .one (.elp 2 (Int.toNat (wadd .i64 s16.1 (1 : Int))) 1)), (130, .one (.dat (.int .i64) (wadd .i64 s16.1 (1 : Int)))), (129, .one (.dat (.int .i64) s16.1)), (128, .one (.all 2)), (127, .one (.dat (.sl (.int .i64)) (List.getD r7.2 (Int.toNat s16.1) ([] : List Int)))), (126, .one (.elp 1 (Int.toNat s16.1) 1)), (125, .one (.dat (.int .i64) s16.1)), (124, .one (.all 1)), (123, .one (.dat (.int .i64) s16.1)), (122, .one (.all 2)), (7, .one (.all 0)), (8, .one (.all 1)), (16, .one (.dat (.int .i64) r10)), (19, .one (.all 2)), (20, .one (.dat (.int .i64) s16.1)), (119, .one (.dat .bool (decide (s16.1 ≥ (0 : Int)))))], [(2, .seq (.int .i64) (List.set s16.2 (Int.toNat s16.1) (List.getD (List.getD r7.2 (Int.toNat s16.1) ([] : List Int)) (Int.toNat (List.getD s16.2 (Int.toNat (wadd .i64 s16.1 (1 : Int))) (0 : Int))) (0 : Int)))), (0, .seq (.flt .f32) r7.1), (1, .seq (.sl (.int .i64)) r7.2), (2, .seq (.int .i64) s16.2)], 3⟩) hP hN (by kernel_rfl) (by kernel_rfl) (allCons hg26 (allCons (natLt hg26) (allCons hg27 (allCons (natLt hg27) (allCons hg28 (allCons hg29 (allCons (natLt hg29) allNil))))))) (qBlock (qThen ?_))
            have hx23 := of_some hx23
            subst hx23
            refine HT.reg (rs := [⟨none, .no⟩, ⟨none, .no⟩, ⟨none, .no⟩]) (st' := ⟨[(20, .one (.dat (.int .i64) (wsub .i64 s16.1 (1 : Int)))), (121, .one (.dat (.int .i64) (wsub .i64 s16.1 (1 : Int)))), (120, .one (.dat (.int .i64) s16.1)), (135, .one (.elp 2 (Int.toNat s16.1) 1)), (134, .one (.dat (.int .i64) (List.getD (List.getD r7.2 (Int.toNat s16.1) ([] : List Int)) (Int.toNat (List.getD s16.2 (Int.toNat (wadd .i64 s16.1 (1 : Int))) (0 : Int))) (0 : Int)))), (133, .one (.ip (.int .i64) (List.getD (List.getD r7.2 (Int.toNat s16.1) ([] : List Int)) (Int.toNat (List.getD s16.2 (Int.toNat (wadd .i64 s16.1 (1 : Int))) (0 : Int))) (0 : Int)) 0)), (132, .one (.dat (.int .i64) (List.getD s16.2 (Int.toNat (wadd .i64 s16.1 (1 : Int))) (0 : Int)))), (131, .one (.elp 2 (Int.toNat (wadd .i64 s16.1 (1 : Int))) 1)), (130, .one (.dat (.int .i64) (wadd .i64 s16.1 (1 : Int)))), (129, .one (.dat (.int .i64) s16.1)), (128, .one (.all 2)), (127, .one (.dat (.sl (.int .i64)) (List.getD r7.2 (Int.toNat s16.1) ([] : List Int)))), (126, .one (.elp 1 (Int.toNat s16.1) 1)), (125, .one (.dat (.int .i64) s16.1)), (124, .one (.all 1)), (123, .one (.dat (.int .i64) s16.1)), (122, .one (.all 2)), (7, .one (.all 0)), (8, .one (.all 1)), (16, .one (.dat (.int .i64) r10)), (19, .one (.all 2)), (20, .one (.dat (.int .i64) s16.1)), (119, .one (.dat .bool (decide (s16.1 ≥ (0 : Int)))))], [(2, .seq (.int .i64) (List.set s16.2 (Int.toNat s16.1) (List.getD (List.getD r7.2 (Int.toNat s16.1) ([] : List Int)) (Int.toNat (List.getD s16.2 (Int.toNat (wadd .i64 s16.1 (1 : Int))) (0 : Int))) (0 : Int)))), (0, .seq (.flt .f32) r7.1), (1, .seq (.sl (.int .i64)) r7.2), (2, .seq (.int .i64) s16.2)], 3⟩) hP hN (by kernel_rfl) allNil (qLoopN ⟨((wsub .i64 s16.1 (1 : Int)), (List.set s16.2 (Int.toNat s16.1) (List.getD (List.getD r7.2 (Int.toNat s16.1) ([] : List Int)) (Int.toNat (List.getD s16.2 (Int.toNat (wadd .i64 s16.1 (1 : Int))) (0 : Int))) (0 : Int)))), rfl, Le.cv (s := ⟨[(0, 0), (1, 1), (2, 2)], [], [], false⟩) (own := []) (ps := [r10 = r10, (wsub .i64 s16.1 (1 : Int)) = (wsub .i64 s16.1 (1 : Int)), r7.1 = r7.1, r7.2 = r7.2, (List.set s16.2 (Int.toNat s16.1) (List.getD (List.getD r7.2 (Int.toNat s16.1) ([] : List Int)) (Int.toNat (List.getD s16.2 (Int.toNat (wadd .i64 s16.1 (1 : Int))) (0 : Int))) (0 : Int))) = (List.set s16.2 (Int.toNat s16.1) (List.getD (List.getD r7.2 (Int.toNat s16.1) ([] : List Int)) (Int.toNat (List.getD s16.2 (Int.toNat (wadd .i64 s16.1 (1 : Int))) (0 : Int))) (0 : Int)))]) (st' := ⟨[(7, .one (.all 0)), (8, .one (.all 1)), (16, .one (.dat (.int .i64) r10)), (19, .one (.all 2)), (20, .one (.dat (.int .i64) (wsub .i64 s16.1 (1 : Int))))], [(0, .seq (.flt .f32) r7.1), (1, .seq (.sl (.int .i64)) r7.2), (2, .seq (.int .i64) (List.set s16.2 (Int.toNat s16.1) (List.getD (List.getD r7.2 (Int.toNat s16.1) ([] : List Int)) (Int.toNat (List.getD s16.2 (Int.toNat (wadd .i64 s16.1 (1 : Int))) (0 : Int))) (0 : Int))))], 3⟩) hO (fun h => by cases h) (by kernel_rfl) ⟨rfl, rfl, rfl, rfl, rfl, trivial⟩⟩)
          · refine HT.cond0 rfl hb25 ?_
            have hx23 := of_some hx23
            subst hx23
            refine (Le.cv (s := ⟨[(0, 0), (2, 1)], [], [], false⟩) (own := []) (ps := [r10 = r10, r7.1 = r7.1, s16.2 = s16.2]) (st' := ⟨[(7, .one (.all 0)), (16, .one (.dat (.int .i64) r10)), (19, .one (.all 1))], [(0, .seq (.flt .f32) r7.1), (1, .seq (.int .i64) s16.2)], 2⟩) hO (fun h => by cases h) (by kernel_rfl) ⟨rfl, rfl, rfl, trivial⟩).ht ?_
            exact HT.exit (qThenE (qLoopE (hk24 s16.2 rfl)))
      · refine HT.reg1 [1, 7, 8, 16, 91, 92, 93, 94] [⟨none, .no⟩] ⟨[(1, .one (.dat (.sl (.int .i64)) a1)), (7, .one (.all 0)), (8, .one (.all 1)), (16, .one (.dat (.int .i64) s9.1)), (91, .one (.all 0)), (92, .one (.dat (.int .i64) (lenI r7.1))), (93, .one (.dat (.int .i64) s9.2)), (94, .one (.dat .bool (decide (s9.2 < (lenI r7.1)))))], [(0, .seq (.flt .f32) r7.1), (1, .seq (.sl (.int .i64)) r7.2)], 2⟩ hP hN (by kernel_rfl) allNil ?_
        refine HT.seq ?_
        rcases of_bif hx32 with ⟨hb34, hx32⟩ | ⟨hb34, hx32⟩
        · refine HT.cond1 rfl hb34 ?_
          refine HT.skip (qThen ?_)
          obtain ⟨v35', hT37, hx32⟩ := of_bind hx32
          refine HT.join (fun (v35 : Int) => ⟨[(1, .one (.dat (.sl (.int .i64)) a1)), (7, .one (.all 0)), (8, .one (.all 1)), (16, .one (.dat (.int .i64) v35)), (91, .one (.all 0)), (92, .one (.dat (.int .i64) (lenI r7.1))), (93, .one (.dat (.int .i64) s9.2))], [(0, .seq (.flt .f32) r7.1), (1, .seq (.sl (.int .i64)) r7.2)], 2⟩) (fun v => v = v35') (fun v35 hv36 => ?_) (fun cont => ?_)
          · subst hv36
            have hx32 := of_some hx32
            subst hx32
            refine HT.reg (rs := [⟨none, .no⟩, ⟨none, .no⟩]) (st' := ⟨[(93, .one (.dat (.int .i64) (wadd .i64 s9.2 (1 : Int)))), (105, .one (.dat (.int .i64) (wadd .i64 s9.2 (1 : Int)))), (1, .one (.dat (.sl (.int .i64)) a1)), (7, .one (.all 0)), (8, .one (.all 1)), (16, .one (.dat (.int .i64) v35)), (91, .one (.all 0)), (92, .one (.dat (.int .i64) (lenI r7.1))), (93, .one (.dat (.int .i64) s9.2))], [(0, .seq (.flt .f32) r7.1), (1, .seq (.sl (.int .i64)) r7.2)], 2⟩) hP hN (by kernel_rfl) allNil (qLoopN ⟨(v35, (wadd .i64 s9.2 (1 : Int))), rfl, Le.cv (s := ⟨[(0, 0), (1, 1)], [], [], false⟩) (own := []) (ps := [a1 = a1, v35 = v35, (lenI r7.1) = (lenI r7.1), (wadd .i64 s9.2 (1 : Int)) = (wadd .i64 s9.2 (1 : Int)), r7.1 = r7.1, r7.2 = r7.2]) (st' := ⟨[(1, .one (.dat (.sl (.int .i64)) a1)), (7, .one (.all 0)), (8, .one (.all 1)), (16, .one (.dat (.int .i64) v35)), (91, .one (.all 0)), (92, .one (.dat (.int .i64) (lenI r7.1))), (93, .one (.dat (.int .i64) (wadd .i64 s9.2 (1 : Int))))], [(0, .seq (.flt .f32) r7.1), (1, .seq (.sl (.int .i64)) r7.2)], 2⟩) hO (fun h => by cases h) (by kernel_rfl) ⟨rfl, rfl, rfl, rfl, rfl, rfl, trivial⟩⟩)
          · refine HT.block ?_
            obtain ⟨hg38, hT37⟩ := of_guard hT37
            refine HT.reg1 [1, 7, 8, 16, 17, 18, 91, 92, 93] [⟨none, .no⟩, ⟨none, .no⟩, ⟨none, .no⟩, ⟨none, .no⟩, ⟨none, .no⟩] ⟨[(1, .one (.dat (.sl (.int .i64)) a1)), (7, .one (.all 0)), (8, .one (.all 1)), (16, .one (.dat (.int .i64) s9.1)), (17, .one (.dat (.int .i64) s9.2)), (18, .one (.dat (.flt .f32) (List.getD r7.1 (Int.toNat s9.2) (0 : Nat)))), (91, .one (.all 0)), (92, .one (.dat (.int .i64) (lenI r7.1))), (93, .one (.dat (.int .i64) s9.2))], [(0, .seq (.flt .f32) r7.1), (1, .seq (.sl (.int .i64)) r7.2)], 2⟩ hP hN (by kernel_rfl) (allCons hg38 (allCons (natLt hg38) allNil)) ?_
            obtain ⟨hg39, hT37⟩ := of_guard hT37
            refine HT.reg1 [1, 7, 8, 16, 17, 91, 92, 93, 103] [⟨none, .no⟩, ⟨none, .no⟩, ⟨none, .no⟩, ⟨none, .no⟩, ⟨none, .no⟩, ⟨none, .no⟩] ⟨[(1, .one (.dat (.sl (.int .i64)) a1)), (7, .one (.all 0)), (8, .one (.all 1)), (16, .one (.dat (.int .i64) s9.1)), (17, .one (.dat (.int .i64) s9.2)), (91, .one (.all 0)), (92, .one (.dat (.int .i64) (lenI r7.1))), (93, .one (.dat (.int .i64) s9.2)), (103, .one (.dat .bool (fgt .f32 (List.getD r7.1 (Int.toNat s9.2) (0 : Nat)) (List.getD r7.1 (Int.toNat s9.1) (0 : Nat)))))], [(0, .seq (.flt .f32) r7.1), (1, .seq (.sl (.int .i64)) r7.2)], 2⟩ hP hN (by kernel_rfl) (allCons hg39 (allCons (natLt hg39) allNil)) ?_
            rcases of_bif hT37 with ⟨hb40, hT37⟩ | ⟨hb40, hT37⟩
            · refine HT.cond1 rfl hb40 ?_
              refine HT.reg (rs := [⟨none, .no⟩, ⟨none, .no⟩]) (st' := ⟨[(16, .one (.dat (.int .i64) s9.2)), (104, .one (.dat (.int .i64) s9.2)), (1, .one (.dat (.sl (.int .i64)) a1)), (7, .one (.all 0)), (8, .one (.all 1)), (16, .one (.dat (.int .i64) s9.1)), (17, .one (.dat (.int .i64) s9.2)), (91, .one (.all 0)), (92, .one (.dat (.int .i64) (lenI r7.1))), (93, .one (.dat (.int .i64) s9.2)), (103, .one (.dat .bool (fgt .f32 (List.getD r7.1 (Int.toNat s9.2) (0 : Nat)) (List.getD r7.1 (Int.toNat s9.1) (0 : Nat)))))], [(0, .seq (.flt .f32) r7.1), (1, .seq (.sl (.int .i64)) r7.2)], 2⟩) hP hN (by kernel_rfl) allNil (qBlock (qThen ?_))
              exact (Le.cv (s := ⟨[(0, 0), (1, 1)], [], [], false⟩) (own := []) (ps := [a1 = a1, s9.2 = s9.2, (lenI r7.1) = (lenI r7.1), s9.2 = s9.2, r7.1 = r7.1, r7.2 = r7.2]) (st' := ⟨[(1, .one (.dat (.sl (.int .i64)) a1)), (7, .one (.all 0)), (8, .one (.all 1)), (16, .one (.dat (.int .i64) s9.2)), (91, .one (.all 0)), (92, .one (.dat (.int .i64) (lenI r7.1))), (93, .one (.dat (.int .i64) s9.2))], [(0, .seq (.flt .f32) r7.1), (1, .seq (.sl (.int .i64)) r7.2)], 2⟩) hO (fun h => by cases h) (by kernel_rfl) ⟨rfl, rfl, rfl, rfl, rfl, rfl, trivial⟩).ht (cont s9.2 (of_some hT37))
            · refine HT.cond0 rfl hb40 ?_
              refine HT.skip (qBlock (qThen ?_))
              exact (Le.cv (s := ⟨[(0, 0), (1, 1)], [], [], false⟩) (own := []) (ps := [a1 = a1, s9.1 = s9.1, (lenI r7.1) = (lenI r7.1), s9.2 = s9.2, r7.1 = r7.1, r7.2 = r7.2]) (st' := ⟨[(1, .one (.dat (.sl (.int .i64)) a1)), (7, .one (.all 0)), (8, .one (.all 1)), (16, .one (.dat (.int .i64) s9.1)), (91, .one (.all 0)), (92, .one (.dat (.int .i64) (lenI r7.1))), (93, .one (.dat (.int .i64) s9.2))], [(0, .seq (.flt .f32) r7.1), (1, .seq (.sl (.int .i64)) r7.2)], 2⟩) hO (fun h => by cases h) (by kernel_rfl) ⟨rfl, rfl, rfl, rfl, rfl, rfl, trivial⟩).ht (cont s9.1 (of_some hT37))
        · refine HT.cond0 rfl hb34 ?_
          have hx32 := of_some hx32
          subst hx32
          refine (Le.cv (s := ⟨[(0, 0), (1, 1)], [], [], false⟩) (own := []) (ps := [a1 = a1, s9.1 = s9.1, r7.1 = r7.1, r7.2 = r7.2]) (st' := ⟨[(1, .one (.dat (.sl (.int .i64)) a1)), (7, .one (.all 0)), (8, .one (.all 1)), (16, .one (.dat (.int .i64) s9.1))], [(0, .seq (.flt .f32) r7.1), (1, .seq (.sl (.int .i64)) r7.2)], 2⟩) hO (fun h => by cases h) (by kernel_rfl) ⟨rfl, rfl, rfl, rfl, trivial⟩).ht ?_
          exact HT.exit (qThenE (qLoopE (hk33 s9.1 rfl)))
    · refine HT.reg1 [1, 2, 7, 8, 29, 30, 31, 32] [⟨none, .no⟩] ⟨[(1, .one (.dat (.sl (.int .i64)) a1)), (2, .one (.ptr 0 0)), (7, .one (.all 1)), (8, .one (.all 2)), (29, .one (.dat (.sl (.int .i64)) a1)), (30, .one (.dat (.int .i64) (lenI a1))), (31, .one (.dat (.int .i64) s6.1)), (32, .one (.dat .bool (decide (s6.1 < (lenI a1)))))], [(0, .box [.dat (.int .i64) a0.1, .dat (.int .i64) a0.2.1, .dat (.sl (.flt .f32)) a0.2.2.1, .dat (.sl (.flt .f32)) a0.2.2.2.1, .dat (.sl (.flt .f32)) a0.2.2.2.2]), (1, .seq (.flt .f32) s6.2.1), (2, .seq (.sl (.int .i64)) s6.2.2)], 3⟩ hP hN (by kernel_rfl) allNil ?_
      refine HT.seq ?_
      rcases of_bif hx43 with ⟨hb45, hx43⟩ | ⟨hb45, hx43⟩
      · refine HT.cond1 rfl hb45 ?_
        refine HT.skip (qThen ?_)
        refine HT.seq ?_
        refine HT.block ?_
        obtain ⟨hg46, hx43⟩ := of_guard hx43
        refine HT.reg1 [1, 2, 7, 8, 10, 29, 30, 31] [⟨none, .no⟩, ⟨none, .no⟩, ⟨none, .no⟩] ⟨[(1, .one (.dat (.sl (.int .i64)) a1)), (2, .one (.ptr 0 0)), (7, .one (.all 1)), (8, .one (.all 2)), (10, .one (.dat (.int .i64) (List.getD a1 (Int.toNat s6.1) (0 : Int)))), (29, .one (.dat (.sl (.int .i64)) a1)), (30, .one (.dat (.int .i64) (lenI a1))), (31, .one (.dat (.int .i64) s6.1))], [(0, .box [.dat (.int .i64) a0.1, .dat (.int .i64) a0.2.1, .dat (.sl (.flt .f32)) a0.2.2.1, .dat (.sl (.flt .f32)) a0.2.2.2.1, .dat (.sl (.flt .f32)) a0.2.2.2.2]), (1, .seq (.flt .f32) s6.2.1), (2, .seq (.sl (.int .i64)) s6.2.2)], 3⟩ hP hN (by kernel_rfl) (allCons hg46 allNil) ?_
        obtain ⟨hg47, hx43⟩ := of_guard hx43
        refine HT.drw1 [1, 2, 7, 8, 10, 11, 12, 29, 30, 31] 7 [⟨⟨none, .no⟩, []⟩, ⟨⟨none, .no⟩, [0]⟩, ⟨⟨none, .ty (.flt .f32)⟩, [0, 1]⟩, ⟨⟨none, .no⟩, []⟩, ⟨⟨none, .no⟩, [3]⟩, ⟨⟨none, .ty (.int .i64)⟩, [3, 4]⟩, ⟨⟨none, .no⟩, [0, 1, 2]⟩] [[0, 1, 2, 3, 4, 5, 6]] [⟨none, .no⟩] ⟨[(1, .one (.dat (.sl (.int .i64)) a1)), (2, .one (.ptr 0 0)), (7, .one (.all 1)), (8, .one (.all 2)), (10, .one (.dat (.int .i64) (List.getD a1 (Int.toNat s6.1) (0 : Int)))), (11, .one (.all 3)), (12, .one (.all 4)), (29, .one (.dat (.sl (.int .i64)) a1)), (30, .one (.dat (.int .i64) (lenI a1))), (31, .one (.dat (.int .i64) s6.1))], [(4, .seq (.int .i64) (List.replicate (Int.toNat a0.1) (0 : Int))), (3, .seq (.flt .f32) (List.replicate (Int.toNat a0.1) (0 : Nat))), (0, .box [.dat (.int .i64) a0.1, .dat (.int .i64) a0.2.1, .dat (.sl (.flt .f32)) a0.2.2.1, .dat (.sl (.flt .f32)) a0.2.2.2.1, .dat (.sl (.flt .f32)) a0.2.2.2.2]), (1, .seq (.flt .f32) s6.2.1), (2, .seq (.sl (.int .i64)) s6.2.2)], 5⟩ hP hN (by kernel_rfl) (by kernel_rfl) (allCons (show (0 : Int) ≤ a0.1 ∧ a0.1 ≤ 4294967296 ∧ a0.1 = a0.1 from ⟨hg47.1, hg47.2, rfl⟩) (allCons (show (0 : Int) ≤ a0.1 ∧ a0.1 ≤ 4294967296 ∧ a0.1 = a0.1 from ⟨hg47.1, hg47.2, rfl⟩) allNil)) ?_
        refine HT.seq ?_
        refine HT.reg1 [1, 2, 7, 8, 10, 11, 12, 29, 30, 31, 42, 43] [⟨none, .no⟩, ⟨none, .no⟩, ⟨none, .no⟩] ⟨[(1, .one (.dat (.sl (.int .i64)) a1)), (2, .one (.ptr 0 0)), (7, .one (.all 1)), (8, .one (.all 2)), (10, .one (.dat (.int .i64) (List.getD a1 (Int.toNat s6.1) (0 : Int)))), (11, .one (.all 3)), (12, .one (.all 4)), (29, .one (.dat (.sl (.int .i64)) a1)), (30, .one (.dat (.int .i64) (lenI a1))), (31, .one (.dat (.int .i64) s6.1)), (42, .one (.dat (.int .i64) a0.1)), (43, .one (.dat (.int .i64) (0 : Int)))], [(4, .seq (.int .i64) (List.replicate (Int.toNat a0.1) (0 : Int))), (3, .seq (.flt .f32) (List.replicate (Int.toNat a0.1) (0 : Nat))), (0, .box [.dat (.int .i64) a0.1, .dat (.int .i64) a0.2.1, .dat (.sl (.flt .f32)) a0.2.2.1, .dat (.sl (.flt .f32)) a0.2.2.2.1, .dat (.sl (.flt .f32)) a0.2.2.2.2]), (1, .seq (.flt .f32) s6.2.1), (2, .seq (.sl (.int .i64)) s6.2.2)], 5⟩ hP hN (by kernel_rfl) allNil ?_
        refine HT.block ?_
        obtain ⟨r49, hL80, hx43⟩ := of_bind hx43
        refine (Le.cv (s := ⟨[(0, 0), (1, 1), (2, 2), (3, 3), (4, 4)], [], [], false⟩) (own := []) (ps := [a1 = a1, (List.getD a1 (Int.toNat s6.1) (0 : Int)) = (List.getD a1 (Int.toNat s6.1) (0 : Int)), a1 = a1, (lenI a1) = (lenI a1), s6.1 = s6.1, a0.1 = a0.1, (0 : Int) = (0 : Int), a0.1 = a0.1, a0.2.1 = a0.2.1, a0.2.2.1 = a0.2.2.1, a0.2.2.2.1 = a0.2.2.2.1, a0.2.2.2.2 = a0.2.2.2.2, s6.2.1 = s6.2.1, s6.2.2 = s6.2.2, (List.replicate (Int.toNat a0.1) (0 : Nat)) = (List.replicate (Int.toNat a0.1) (0 : Nat)), (List.replicate (Int.toNat a0.1) (0 : Int)) = (List.replicate (Int.toNat a0.1) (0 : Int))]) (st' := ⟨[(1, .one (.dat (.sl (.int .i64)) a1)), (2, .one (.ptr 0 0)), (7, .one (.all 1)), (8, .one (.all 2)), (10, .one (.dat (.int .i64) (List.getD a1 (Int.toNat s6.1) (0 : Int)))), (11, .one (.all 3)), (12, .one (.all 4)), (29, .one (.dat (.sl (.int .i64)) a1)), (30, .one (.dat (.int .i64) (lenI a1))), (31, .one (.dat (.int .i64) s6.1)), (42, .one (.dat (.int .i64) a0.1)), (43, .one (.dat (.int .i64) (0 : Int)))], [(0, .box [.dat (.int .i64) a0.1, .dat (.int .i64) a0.2.1, .dat (.sl (.flt .f32)) a0.2.2.1, .dat (.sl (.flt .f32)) a0.2.2.2.1, .dat (.sl (.flt .f32)) a0.2.2.2.2]), (1, .seq (.flt .f32) s6.2.1), (2, .seq (.sl (.int .i64)) s6.2.2), (3, .seq (.flt .f32) (List.replicate (Int.toNat a0.1) (0 : Nat))), (4, .seq (.int .i64) (List.replicate (Int.toNat a0.1) (0 : Int)))], 5⟩) hO (fun h => by cases h) (by kernel_rfl) ⟨rfl, rfl, rfl, rfl, rfl, rfl, rfl, rfl, rfl, rfl, rfl, rfl, rfl, rfl, rfl, rfl, trivial⟩).ht ?_
        refine HT.loopE (s := ((0 : Int), (List.replicate (Int.toNat a0.1) (0 : Nat)), (List.replicate (Int.toNat a0.1) (0 : Int)))) (fun (s48 : Int × List Nat × List Int) => ⟨[(1, .one (.dat (.sl (.int .i64)) a1)), (2, .one (.ptr 0 0)), (7, .one (.all 1)), (8, .one (.all 2)), (10, .one (.dat (.int .i64) (List.getD a1 (Int.toNat s6.1) (0 : Int)))), (11, .one (.all 3)), (12, .one (.all 4)), (29, .one (.dat (.sl (.int .i64)) a1)), (30, .one (.dat (.int .i64) (lenI a1))), (31, .one (.dat (.int .i64) s6.1)), (42, .one (.dat (.int .i64) a0.1)), (43, .one (.dat (.int .i64) s48.1))], [(0, .box [.dat (.int .i64) a0.1, .dat (.int .i64) a0.2.1, .dat (.sl (.flt .f32)) a0.2.2.1, .dat (.sl (.flt .f32)) a0.2.2.2.1, .dat (.sl (.flt .f32)) a0.2.2.2.2]), (1, .seq (.flt .f32) s6.2.1), (2, .seq (.sl (.int .i64)) s6.2.2), (3, .seq (.flt .f32) s48.2.1), (4, .seq (.int .i64) s48.2.2)], 5⟩) (fun (r50 : (List Nat × List Int)) => (.exit 2, ⟨[(1, .one (.dat (.sl (.int .i64)) a1)), (2, .one (.ptr 0 0)), (8, .one (.all 1)), (11, .one (.all 2)), (12, .one (.all 3)), (29, .one (.dat (.sl (.int .i64)) a1)), (30, .one (.dat (.int .i64) (lenI a1))), (31, .one (.dat (.int .i64) s6.1))], [(0, .box [.dat (.int .i64) a0.1, .dat (.int .i64) a0.2.1, .dat (.sl (.flt .f32)) a0.2.2.1, .dat (.sl (.flt .f32)) a0.2.2.2.1, .dat (.sl (.flt .f32)) a0.2.2.2.2]), (1, .seq (.sl (.int .i64)) s6.2.2), (2, .seq (.flt .f32) r50.1), (3, .seq (.int .i64) r50.2)], 4⟩)) hL80 ?_ (fun s48 x52 hx53 hk54 => ?_)
        · refine (qBlockX (qThen ?_))
          refine HT.reg1 [1, 2, 7, 8, 12, 29, 30, 31] [⟨none, .no⟩, ⟨none, .no⟩] ⟨[(1, .one (.dat (.sl (.int .i64)) a1)), (2, .one (.ptr 0 0)), (7, .one (.all 2)), (8, .one (.all 1)), (12, .one (.all 3)), (29, .one (.dat (.sl (.int .i64)) a1)), (30, .one (.dat (.int .i64) (lenI a1))), (31, .one (.dat (.int .i64) s6.1))], [(0, .box [.dat (.int .i64) a0.1, .dat (.int .i64) a0.2.1, .dat (.sl (.flt .f32)) a0.2.2.1, .dat (.sl (.flt .f32)) a0.2.2.2.1, .dat (.sl (.flt .f32)) a0.2.2.2.2]), (1, .seq (.sl (.int .i64)) s6.2.2), (2, .seq (.flt .f32) r49.1), (3, .seq (.int .i64) r49.2)], 4⟩ hP hN (by kernel_rfl) allNil ?_
          refine (Le.cv (s := ⟨[(0, 0), (1, 1), (2, 2)], [], [], true⟩) (own := []) (ps := [a1 = a1, r49.2 = r49.2, a1 = a1, (lenI a1) = (lenI a1), s6.1 = s6.1, a0.1 = a0.1, a0.2.1 = a0.2.1, a0.2.2.1 = a0.2.2.1, a0.2.2.2.1 = a0.2.2.2.1, a0.2.2.2.2 = a0.2.2.2.2, s6.2.2 = s6.2.2, r49.1 = r49.1]) (st' := ⟨[(1, .one (.dat (.sl (.int .i64)) a1)), (2, .one (.ptr 0 0)), (7, .one (.all 2)), (8, .one (.all 1)), (12, .one (.dat (.sl (.int .i64)) r49.2)), (29, .one (.dat (.sl (.int .i64)) a1)), (30, .one (.dat (.int .i64) (lenI a1))), (31, .one (.dat (.int .i64) s6.1))], [(0, .box [.dat (.int .i64) a0.1, .dat (.int .i64) a0.2.1, .dat (.sl (.flt .f32)) a0.2.2.1, .dat (.sl (.flt .f32)) a0.2.2.2.1, .dat (.sl (.flt .f32)) a0.2.2.2.2]), (1, .seq (.sl (.int .i64)) s6.2.2), (2, .seq (.flt .f32) r49.1)], 4⟩) hO (fun _ => hF) (by kernel_rfl) ⟨rfl, rfl, rfl, rfl, rfl, rfl, rfl, rfl, rfl, rfl, rfl, rfl, trivial⟩).ht ?_
          obtain ⟨hg51, hx43⟩ := of_guard hx43
          refine HT.reg (rs := [⟨none, .no⟩, ⟨none, .no⟩, ⟨none, .ty (.sl (.int .i64))⟩, ⟨none, .ty (.sl (.int .i64))⟩, ⟨none, .no⟩]) (st' := ⟨[(8, .one (.all 5)), (89, .one (.all 5)), (88, .one (.all 4)), (87, .one (.dat (.sl (.int .i64)) r49.2)), (86, .one (.all 1)), (1, .one (.dat (.sl (.int .i64)) a1)), (2, .one (.ptr 0 0)), (7, .one (.all 2)), (8, .one (.all 1)), (12, .one (.dat (.sl (.int .i64)) r49.2)), (29, .one (.dat (.sl (.int .i64)) a1)), (30, .one (.dat (.int .i64) (lenI a1))), (31, .one (.dat (.int .i64) s6.1))], [(1, .gone), (5, .seq (.sl (.int .i64)) (s6.2.2 ++ ([r49.2] : List (List Int)))), (4, .seq (.sl (.int .i64)) ([r49.2] : List (List Int))), (0, .box [.dat (.int .i64) a0.1, .dat (.int .i64) a0.2.1, .dat (.sl (.flt .f32)) a0.2.2.1, .dat (.sl (.flt .f32)) a0.2.2.2.1, .dat (.sl (.flt .f32)) a0.2.2.2.2]), (1, .seq (.sl (.int .i64)) s6.2.2), (2, .seq (.flt .f32) r49.1)], 6⟩) hP hN (by kernel_rfl) (allCons hg51 allNil) (qBlock (qThen ?_))
          have hx43 := of_some hx43
          subst hx43
          refine HT.reg (rs := [⟨none, .no⟩, ⟨none, .no⟩]) (st' := ⟨[(31, .one (.dat (.int .i64) (wadd .i64 s6.1 (1 : Int)))), (90, .one (.dat (.int .i64) (wadd .i64 s6.1 (1 : Int)))), (8, .one (.all 5)), (89, .one (.all 5)), (88, .one (.all 4)), (87, .one (.dat (.sl (.int .i64)) r49.2)), (86, .one (.all 1)), (1, .one (.dat (.sl (.int .i64)) a1)), (2, .one (.ptr 0 0)), (7, .one (.all 2)), (8, .one (.all 1)), (12, .one (.dat (.sl (.int .i64)) r49.2)), (29, .one (.dat (.sl (.int .i64)) a1)), (30, .one (.dat (.int .i64) (lenI a1))), (31, .one (.dat (.int .i64) s6.1))], [(1, .gone), (5, .seq (.sl (.int .i64)) (s6.2.2 ++ ([r49.2] : List (List Int)))), (4, .seq (.sl (.int .i64)) ([r49.2] : List (List Int))), (0, .box [.dat (.int .i64) a0.1, .dat (.int .i64) a0.2.1, .dat (.sl (.flt .f32)) a0.2.2.1, .dat (.sl (.flt .f32)) a0.2.2.2.1, .dat (.sl (.flt .f32)) a0.2.2.2.2]), (1, .seq (.sl (.int .i64)) s6.2.2), (2, .seq (.flt .f32) r49.1)], 6⟩) hP hN (by kernel_rfl) allNil (qLoopN ⟨((wadd .i64 s6.1 (1 : Int)), r49.1, (s6.2.2 ++ ([r49.2] : List (List Int)))), rfl, Le.cv (s := ⟨[(0, 0), (2, 1), (5, 2)], [], [], false⟩) (own := []) (ps := [a1 = a1, a1 = a1, (lenI a1) = (lenI a1), (wadd .i64 s6.1 (1 : Int)) = (wadd .i64 s6.1 (1 : Int)), a0.1 = a0.1, a0.2.1 = a0.2.1, a0.2.2.1 = a0.2.2.1, a0.2.2.2.1 = a0.2.2.2.1, a0.2.2.2.2 = a0.2.2.2.2, r49.1 = r49.1, (s6.2.2 ++ ([r49.2] : List (List Int))) = (s6.2.2 ++ ([r49.2] : List (List Int)))]) (st' := ⟨[(1, .one (.dat (.sl (.int .i64)) a1)), (2, .one (.ptr 0 0)), (7, .one (.all 1)), (8, .one (.all 2)), (29, .one (.dat (.sl (.int .i64)) a1)), (30, .one (.dat (.int .i64) (lenI a1))), (31, .one (.dat (.int .i64) (wadd .i64 s6.1 (1 : Int))))], [(0, .box [.dat (.int .i64) a0.1, .dat (.int .i64) a0.2.1, .dat (.sl (.flt .f32)) a0.2.2.1, .dat (.sl (.flt .f32)) a0.2.2.2.1, .dat (.sl (.flt .f32)) a0.2.2.2.2]), (1, .seq (.flt .f32) r49.1), (2, .seq (.sl (.int .i64)) (s6.2.2 ++ ([r49.2] : List (List Int))))], 3⟩) hO (fun h => by cases h) (by kernel_rfl) ⟨rfl, rfl, rfl, rfl, rfl, rfl, rfl, rfl, rfl, rfl, rfl, trivial⟩⟩)
        · refine HT.reg1 [1, 2, 7, 8, 10, 11, 12, 29, 30, 31, 42, 43, 44] [⟨none, .no⟩] ⟨[(1, .one (.dat (.sl (.int .i64)) a1)), (2, .one (.ptr 0 0)), (7, .one (.all 1)), (8, .one (.all 2)), (10, .one (.dat (.int .i64) (List.getD a1 (Int.toNat s6.1) (0 : Int)))), (11, .one (.all 3)), (12, .one (.all 4)), (29, .one (.dat (.sl (.int .i64)) a1)), (30, .one (.dat (.int .i64) (lenI a1))), (31, .one (.dat (.int .i64) s6.1)), (42, .one (.dat (.int .i64) a0.1)), (43, .one (.dat (.int .i64) s48.1)), (44, .one (.dat .bool (decide (s48.1 < a0.1))))], [(0, .box [.dat (.int .i64) a0.1, .dat (.int .i64) a0.2.1, .dat (.sl (.flt .f32)) a0.2.2.1, .dat (.sl (.flt .f32)) a0.2.2.2.1, .dat (.sl (.flt .f32)) a0.2.2.2.2]), (1, .seq (.flt .f32) s6.2.1), (2, .seq (.sl (.int .i64)) s6.2.2), (3, .seq (.flt .f32) s48.2.1), (4, .seq (.int .i64) s48.2.2)], 5⟩ hP hN (by kernel_rfl) allNil ?_
          refine HT.seq ?_
          rcases of_bif hx53 with ⟨hb55, hx53⟩ | ⟨hb55, hx53⟩
          · refine HT.cond1 rfl hb55 ?_
            refine HT.skip (qThen ?_)
            refine HT.seq ?_
            refine HT.block ?_
            refine HT.reg1 [1, 2, 7, 8, 10, 11, 12, 13, 29, 30, 31, 42, 43] [⟨none, .no⟩, ⟨none, .no⟩] ⟨[(1, .one (.dat (.sl (.int .i64)) a1)), (2, .one (.ptr 0 0)), (7, .one (.all 1)), (8, .one (.all 2)), (10, .one (.dat (.int .i64) (List.getD a1 (Int.toNat s6.1) (0 : Int)))), (11, .one (.all 3)), (12, .one (.all 4)), (13, .one (.dat (.int .i64) s48.1)), (29, .one (.dat (.sl (.int .i64)) a1)), (30, .one (.dat (.int .i64) (lenI a1))), (31, .one (.dat (.int .i64) s6.1)), (42, .one (.dat (.int .i64) a0.1)), (43, .one (.dat (.int .i64) s48.1))], [(0, .box [.dat (.int .i64) a0.1, .dat (.int .i64) a0.2.1, .dat (.sl (.flt .f32)) a0.2.2.1, .dat (.sl (.flt .f32)) a0.2.2.2.1, .dat (.sl (.flt .f32)) a0.2.2.2.2]), (1, .seq (.flt .f32) s6.2.1), (2, .seq (.sl (.int .i64)) s6.2.2), (3, .seq (.flt .f32) s48.2.1), (4, .seq (.int .i64) s48.2.2)], 5⟩ hP hN (by kernel_rfl) allNil ?_
            refine HT.reg1 [1, 2, 7, 8, 10, 11, 12, 13, 29, 30, 31, 42, 43, 47, 48] [⟨none, .no⟩, ⟨none, .no⟩, ⟨none, .no⟩] ⟨[(1, .one (.dat (.sl (.int .i64)) a1)), (2, .one (.ptr 0 0)), (7, .one (.all 1)), (8, .one (.all 2)), (10, .one (.dat (.int .i64) (List.getD a1 (Int.toNat s6.1) (0 : Int)))), (11, .one (.all 3)), (12, .one (.all 4)), (13, .one (.dat (.int .i64) s48.1)), (29, .one (.dat (.sl (.int .i64)) a1)), (30, .one (.dat (.int .i64) (lenI a1))), (31, .one (.dat (.int .i64) s6.1)), (42, .one (.dat (.int .i64) a0.1)), (43, .one (.dat (.int .i64) s48.1)), (47, .one (.dat (.int .i64) a0.1)), (48, .one (.dat (.int .i64) (0 : Int)))], [(0, .box [.dat (.int .i64) a0.1, .dat (.int .i64) a0.2.1, .dat (.sl (.flt .f32)) a0.2.2.1, .dat (.sl (.flt .f32)) a0.2.2.2.1, .dat (.sl (.flt .f32)) a0.2.2.2.2]), (1, .seq (.flt .f32) s6.2.1), (2, .seq (.sl (.int .i64)) s6.2.2), (3, .seq (.flt .f32) s48.2.1), (4, .seq (.int .i64) s48.2.2)], 5⟩ hP hN (by kernel_rfl) allNil ?_
            refine HT.block ?_
            obtain ⟨r57, hL79, hx53⟩ := of_bind hx53
            refine (Le.cv (s := ⟨[(0, 0), (1, 1), (2, 2), (3, 3), (4, 4)], [], [], false⟩) (own := []) (ps := [a1 = a1, (List.getD a1 (Int.toNat s6.1) (0 : Int)) = (List.getD a1 (Int.toNat s6.1) (0 : Int)), s48.1 = s48.1, a1 = a1, (lenI a1) = (lenI a1), s6.1 = s6.1, a0.1 = a0.1, s48.1 = s48.1, a0.1 = a0.1, (0 : Int) = (0 : Int), a0.1 = a0.1, a0.2.1 = a0.2.1, a0.2.2.1 = a0.2.2.1, a0.2.2.2.1 = a0.2.2.2.1, a0.2.2.2.2 = a0.2.2.2.2, s6.2.1 = s6.2.1, s6.2.2 = s6.2.2, s48.2.1 = s48.2.1, s48.2.2 = s48.2.2]) (st' := ⟨[(1, .one (.dat (.sl (.int .i64)) a1)), (2, .one (.ptr 0 0)), (7, .one (.all 1)), (8, .one (.all 2)), (10, .one (.dat (.int .i64) (List.getD a1 (Int.toNat s6.1) (0 : Int)))), (11, .one (.all 3)), (12, .one (.all 4)), (13, .one (.dat (.int .i64) s48.1)), (29, .one (.dat (.sl (.int .i64)) a1)), (30, .one (.dat (.int .i64) (lenI a1))), (31, .one (.dat (.int .i64) s6.1)), (42, .one (.dat (.int .i64) a0.1)), (43, .one (.dat (.int .i64) s48.1)), (47, .one (.dat (.int .i64) a0.1)), (48, .one (.dat (.int .i64) (0 : Int)))], [(0, .box [.dat (.int .i64) a0.1, .dat (.int .i64) a0.2.1, .dat (.sl (.flt .f32)) a0.2.2.1, .dat (.sl (.flt .f32)) a0.2.2.2.1, .dat (.sl (.flt .f32)) a0.2.2.2.2]), (1, .seq (.flt .f32) s6.2.1), (2, .seq (.sl (.int .i64)) s6.2.2), (3, .seq (.flt .f32) s48.2.1), (4, .seq (.int .i64) s48.2.2)], 5⟩) hO (fun h => by cases h) (by kernel_rfl) ⟨rfl, rfl, rfl, rfl, rfl, rfl, rfl, rfl, rfl, rfl, rfl, rfl, rfl, rfl, rfl, rfl, rfl, rfl, rfl, trivial⟩).ht ?_
            refine HT.loopE (s := ((0 : Int), s48.2.1, s48.2.2)) (fun (s56 : Int × List Nat × List Int) => ⟨[(1, .one (.dat (.sl (.int .i64)) a1)), (2, .one (.ptr 0 0)), (7, .one (.all 1)), (8, .one (.all 2)), (10, .one (.dat (.int .i64) (List.getD a1 (Int.toNat s6.1) (0 : Int)))), (11, .one (.all 3)), (12, .one (.all 4)), (13, .one (.dat (.int .i64) s48.1)), (29, .one (.dat (.sl (.int .i64)) a1)), (30, .one (.dat (.int .i64) (lenI a1))), (31, .one (.dat (.int .i64) s6.1)), (42, .one (.dat (.int .i64) a0.1)), (43, .one (.dat (.int .i64) s48.1)), (47, .one (.dat (.int .i64) a0.1)), (48, .one (.dat (.int .i64) s56.1))], [(0, .box [.dat (.int .i64) a0.1, .dat (.int .i64) a0.2.1, .dat (.sl (.flt .f32)) a0.2.2.1, .dat (.sl (.flt .f32)) a0.2.2.2.1, .dat (.sl (.flt .f32)) a0.2.2.2.2]), (1, .seq (.flt .f32) s6.2.1), (2, .seq (.sl (.int .i64)) s6.2.2), (3, .seq (.flt .f32) s56.2.1), (4, .seq (.int .i64) s56.2.2)], 5⟩) (fun (r58 : (List Nat × List Int)) => (.exit 4, ⟨[(1, .one (.dat (.sl (.int .i64)) a1)), (2, .one (.ptr 0 0)), (7, .one (.all 1)), (8, .one (.all 2)), (10, .one (.dat (.int .i64) (List.getD a1 (Int.toNat s6.1) (0 : Int)))), (11, .one (.all 3)), (12, .one (.all 4)), (29, .one (.dat (.sl (.int .i64)) a1)), (30, .one (.dat (.int .i64) (lenI a1))), (31, .one (.dat (.int .i64) s6.1)), (42, .one (.dat (.int .i64) a0.1)), (43, .one (.dat (.int .i64) s48.1))], [(0, .box [.dat (.int .i64) a0.1, .dat (.int .i64) a0.2.1, .dat (.sl (.flt .f32)) a0.2.2.1, .dat (.sl (.flt .f32)) a0.2.2.2.1, .dat (.sl (.flt .f32)) a0.2.2.2.2]), (1, .seq (.flt .f32) s6.2.1), (2, .seq (.sl (.int .i64)) s6.2.2), (3, .seq (.flt .f32) r58.1), (4, .seq (.int .i64) r58.2)], 5⟩)) hL79 ?_ (fun s56 x59 hx60 hk61 => ?_)
            · refine (qBlockX (qBlock (qThen ?_)))
              have hx53 := of_some hx53
              subst hx53
              refine HT.reg (rs := [⟨none, .no⟩, ⟨none, .no⟩]) (st' := ⟨[(43, .one (.dat (.int .i64) (wadd .i64 s48.1 (1 : Int)))), (84, .one (.dat (.int .i64) (wadd .i64 s48.1 (1 : Int)))), (1, .one (.dat (.sl (.int .i64)) a1)), (2, .one (.ptr 0 0)), (7, .one (.all 1)), (8, .one (.all 2)), (10, .one (.dat (.int .i64) (List.getD a1 (Int.toNat s6.1) (0 : Int)))), (11, .one (.all 3)), (12, .one (.all 4)), (29, .one (.dat (.sl (.int .i64)) a1)), (30, .one (.dat (.int .i64) (lenI a1))), (31, .one (.dat (.int .i64) s6.1)), (42, .one (.dat (.int .i64) a0.1)), (43, .one (.dat (.int .i64) s48.1))], [(0, .box [.dat (.int .i64) a0.1, .dat (.int .i64) a0.2.1, .dat (.sl (.flt .f32)) a0.2.2.1, .dat (.sl (.flt .f32)) a0.2.2.2.1, .dat (.sl (.flt .f32)) a0.2.2.2.2]), (1, .seq (.flt .f32) s6.2.1), (2, .seq (.sl (.int .i64)) s6.2.2), (3, .seq (.flt .f32) r57.1), (4, .seq (.int .i64) r57.2)], 5⟩) hP hN (by kernel_rfl) allNil (qLoopN ⟨((wadd .i64 s48.1 (1 : Int)), r57.1, r57.2), rfl, Le.cv (s := ⟨[(0, 0), (1, 1), (2, 2), (3, 3), (4, 4)], [], [], false⟩) (own := []) (ps := [a1 = a1, (List.getD a1 (Int.toNat s6.1) (0 : Int)) = (List.getD a1 (Int.toNat s6.1) (0 : Int)), a1 = a1, (lenI a1) = (lenI a1), s6.1 = s6.1, a0.1 = a0.1, (wadd .i64 s48.1 (1 : Int)) = (wadd .i64 s48.1 (1 : Int)), a0.1 = a0.1, a0.2.1 = a0.2.1, a0.2.2.1 = a0.2.2.1, a0.2.2.2.1 = a0.2.2.2.1, a0.2.2.2.2 = a0.2.2.2.2, s6.2.1 = s6.2.1, s6.2.2 = s6.2.2, r57.1 = r57.1, r57.2 = r57.2]) (st' := ⟨[(1, .one (.dat (.sl (.int .i64)) a1)), (2, .one (.ptr 0 0)), (7, .one (.all 1)), (8, .one (.all 2)), (10, .one (.dat (.int .i64) (List.getD a1 (Int.toNat s6.1) (0 : Int)))), (11, .one (.all 3)), (12, .one (.all 4)), (29, .one (.dat (.sl (.int .i64)) a1)), (30, .one (.dat (.int .i64) (lenI a1))), (31, .one (.dat (.int .i64) s6.1)), (42, .one (.dat (.int .i64) a0.1)), (43, .one (.dat (.int .i64) (wadd .i64 s48.1 (1 : Int))))], [(0, .box [.dat (.int .i64) a0.1, .dat (.int .i64) a0.2.1, .dat (.sl (.flt .f32)) a0.2.2.1, .dat (.sl (.flt .f32)) a0.2.2.2.1, .dat (.sl (.flt .f32)) a0.2.2.2.2]), (1, .seq (.flt .f32) s6.2.1), (2, .seq (.sl (.int .i64)) s6.2.2), (3, .seq (.flt .f32) r57.1), (4, .seq (.int .i64) r57.2)], 5⟩) hO (fun h => by cases h) (by kernel_rfl) ⟨rfl, rfl, rfl, rfl, rfl, rfl, rfl, rfl, rfl, rfl, rfl, rfl, rfl, rfl, rfl, rfl, trivial⟩⟩)
            · refine HT.reg1 [1, 2, 7, 8, 10, 11, 12, 13, 29, 30, 31, 42, 43, 47, 48, 49] [⟨none, .no⟩] ⟨[(1, .one (.dat (.sl (.int .i64)) a1)), (2, .one (.ptr 0 0)), (7, .one (.all 1)), (8, .one (.all 2)), (10, .one (.dat (.int .i64) (List.getD a1 (Int.toNat s6.1) (0 : Int)))), (11, .one (.all 3)), (12, .one (.all 4)), (13, .one (.dat (.int .i64) s48.1)), (29, .one (.dat (.sl (.int .i64)) a1)), (30, .one (.dat (.int .i64) (lenI a1))), (31, .one (.dat (.int .i64) s6.1)), (42, .one (.dat (.int .i64) a0.1)), (43, .one (.dat (.int .i64) s48.1)), (47, .one (.dat (.int .i64) a0.1)), (48, .one (.dat (.int .i64) s56.1)), (49, .one (.dat .bool (decide (s56.1 < a0.1))))], [(0, .box [.dat (.int .i64) a0.1, .dat (.int .i64) a0.2.1, .dat (.sl (.flt .f32)) a0.2.2.1, .dat (.sl (.flt .f32)) a0.2.2.2.1, .dat (.sl (.flt .f32)) a0.2.2.2.2]), (1, .seq (.flt .f32) s6.2.1), (2, .seq (.sl (.int .i64)) s6.2.2), (3, .seq (.flt .f32) s56.2.1), (4, .seq (.int .i64) s56.2.2)], 5⟩ hP hN (by kernel_rfl) allNil ?_
              refine HT.seq ?_
              rcases of_bif hx60 with ⟨hb62, hx60⟩ | ⟨hb62, hx60⟩
              · refine HT.cond1 rfl hb62 ?_
                refine HT.skip (qThen ?_)
                obtain ⟨v63', hT65, hx60⟩ := of_bind hx60
                refine HT.join (fun (v63 : List Nat × List Int) => ⟨[(1, .one (.dat (.sl (.int .i64)) a1)), (2, .one (.ptr 0 0)), (7, .one (.all 1)), (8, .one (.all 2)), (10, .one (.dat (.int .i64) (List.getD a1 (Int.toNat s6.1) (0 : Int)))), (11, .one (.all 3)), (12, .one (.all 4)), (13, .one (.dat (.int .i64) s48.1)), (29, .one (.dat (.sl (.int .i64)) a1)), (30, .one (.dat (.int .i64) (lenI a1))), (31, .one (.dat (.int .i64) s6.1)), (42, .one (.dat (.int .i64) a0.1)), (43, .one (.dat (.int .i64) s48.1)), (47, .one (.dat (.int .i64) a0.1)), (48, .one (.dat (.int .i64) s56.1))], [(0, .box [.dat (.int .i64) a0.1, .dat (.int .i64) a0.2.1, .dat (.sl (.flt .f32)) a0.2.2.1, .dat (.sl (.flt .f32)) a0.2.2.2.1, .dat (.sl (.flt .f32)) a0.2.2.2.2]), (1, .seq (.flt .f32) s6.2.1), (2, .seq (.sl (.int .i64)) s6.2.2), (3, .seq (.flt .f32) v63.1), (4, .seq (.int .i64) v63.2)], 5⟩) (fun v => v = v63') (fun v63 hv64 => ?_) (fun cont => ?_)
                · subst hv64
                  have hx60 := of_some hx60
                  subst hx60
                  refine HT.reg (rs := [⟨none, .no⟩, ⟨none, .no⟩]) (st' := ⟨[(48, .one (.dat (.int .i64) (wadd .i64 s56.1 (1 : Int)))), (83, .one (.dat (.int .i64) (wadd .i64 s56.1 (1 : Int)))), (1, .one (.dat (.sl (.int .i64)) a1)), (2, .one (.ptr 0 0)), (7, .one (.all 1)), (8, .one (.all 2)), (10, .one (.dat (.int .i64) (List.getD a1 (Int.toNat s6.1) (0 : Int)))), (11, .one (.all 3)), (12, .one (.all 4)), (13, .one (.dat (.int .i64) s48.1)), (29, .one (.dat (.sl (.int .i64)) a1)), (30, .one (.dat (.int .i64) (lenI a1))), (31, .one (.dat (.int .i64) s6.1)), (42, .one (.dat (.int .i64) a0.1)), (43, .one (.dat (.int .i64) s48.1)), (47, .one (.dat (.int .i64) a0.1)), (48, .one (.dat (.int .i64) s56.1))], [(0, .box [.dat (.int .i64) a0.1, .dat (.int .i64) a0.2.1, .dat (.sl (.flt .f32)) a0.2.2.1, .dat (.sl (.flt .f32)) a0.2.2.2.1, .dat (.sl (.flt .f32)) a0.2.2.2.2]), (1, .seq (.flt .f32) s6.2.1), (2, .seq (.sl (.int .i64)) s6.2.2), (3, .seq (.flt .f32) v63.1), (4, .seq (.int .i64) v63.2)], 5⟩) hP hN (by kernel_rfl) allNil (qLoopN ⟨((wadd .i64 s56.1 (1 : Int)), v63.1, v63.2), rfl, Le.cv (s := ⟨[(0, 0), (1, 1), (2, 2), (3, 3), (4, 4)], [], [], false⟩) (own := []) (ps := [a1 = a1, (List.getD a1 (Int.toNat s6.1) (0 : Int)) = (List.getD a1 (Int.toNat s6.1) (0 : Int)), s48.1 = s48.1, a1 = a1, (lenI a1) = (lenI a1), s6.1 = s6.1, a0.1 = a0.1, s48.1 = s48.1, a0.1 = a0.1, (wadd .i64 s56.1 (1 : Int)) = (wadd .i64 s56.1 (1 : Int)), a0.1 = a0.1, a0.2.1 = a0.2.1, a0.2.2.1 = a0.2.2.1, a0.2.2.2.1 = a0.2.2.2.1, a0.2.2.2.2 = a0.2.2.2.2, s6.2.1 = s6.2.1, s6.2.2 = s6.2.2, v63.1 = v63.1, v63.2 = v63.2]) (st' := ⟨[(1, .one (.dat (.sl (.int .i64)) a1)), (2, .one (.ptr 0 0)), (7, .one (.all 1)), (8, .one (.all 2)), (10, .one (.dat (.int .i64) (List.getD a1 (Int.toNat s6.1) (0 : Int)))), (11, .one (.all 3)), (12, .one (.all 4)), (13, .one (.dat (.int .i64) s48.1)), (29, .one (.dat (.sl (.int .i64)) a1)), (30, .one (.dat (.int .i64) (lenI a1))), (31, .one (.dat (.int .i64) s6.1)), (42, .one (.dat (.int .i64) a0.1)), (43, .one (.dat (.int .i64) s48.1)), (47, .one (.dat (.int .i64) a0.1)), (48, .one (.dat (.int .i64) (wadd .i64 s56.1 (1 : Int))))], [(0, .box [.dat (.int .i64) a0.1, .dat (.int .i64) a0.2.1, .dat (.sl (.flt .f32)) a0.2.2.1, .dat (.sl (.flt .f32)) a0.2.2.2.1, .dat (.sl (.flt .f32)) a0.2.2.2.2]), (1, .seq (.flt .f32) s6.2.1), (2, .seq (.sl (.int .i64)) s6.2.2), (3, .seq (.flt .f32) v63.1), (4, .seq (.int .i64) v63.2)], 5⟩) hO (fun h => by cases h) (by kernel_rfl) ⟨rfl, rfl, rfl, rfl, rfl, rfl, rfl, rfl, rfl, rfl, rfl, rfl, rfl, rfl, rfl, rfl, rfl, rfl, rfl, trivial⟩⟩)
                · refine HT.block ?_
                  refine HT.reg1 [1, 2, 7, 8, 10, 11, 12, 13, 14, 29, 30, 31, 42, 43, 47, 48] [⟨none, .no⟩, ⟨none, .no⟩] ⟨[(1, .one (.dat (.sl (.int .i64)) a1)), (2, .one (.ptr 0 0)), (7, .one (.all 1)), (8, .one (.all 2)), (10, .one (.dat (.int .i64) (List.getD a1 (Int.toNat s6.1) (0 : Int)))), (11, .one (.all 3)), (12, .one (.all 4)), (13, .one (.dat (.int .i64) s48.1)), (14, .one (.dat (.int .i64) s56.1)), (29, .one (.dat (.sl (.int .i64)) a1)), (30, .one (.dat (.int .i64) (lenI a1))), (31, .one (.dat (.int .i64) s6.1)), (42, .one (.dat (.int .i64) a0.1)), (43, .one (.dat (.int .i64) s48.1)), (47, .one (.dat (.int .i64) a0.1)), (48, .one (.dat (.int .i64) s56.1))], [(0, .box [.dat (.int .i64) a0.1, .dat (.int .i64) a0.2.1, .dat (.sl (.flt .f32)) a0.2.2.1, .dat (.sl (.flt .f32)) a0.2.2.2.1, .dat (.sl (.flt .f32)) a0.2.2.2.2]), (1, .seq (.flt .f32) s6.2.1), (2, .seq (.sl (.int .i64)) s6.2.2), (3, .seq (.flt .f32) s56.2.1), (4, .seq (.int .i64) s56.2.2)], 5⟩ hP hN (by kernel_rfl) allNil ?_
                  obtain ⟨hg66, hT65⟩ := of_guard hT65
                  obtain ⟨y67, hc68, hT65⟩ := of_bind hT65
                  obtain ⟨y69, hc70, hT65⟩ := of_bind hT65
                  refine HT.drw1 [1, 2, 7, 8, 10, 11, 12, 13, 14, 15, 29, 30, 31, 42, 43, 47, 48] 13 [⟨⟨none, .no⟩, []⟩, ⟨⟨none, .no⟩, []⟩, ⟨⟨none, .no⟩, [0, 1]⟩, ⟨⟨none, .no⟩, [0, 1, 2]⟩, ⟨⟨none, .no⟩, []⟩, ⟨⟨none, .no⟩, []⟩, ⟨⟨none, .no⟩, []⟩, ⟨⟨none, .call [.imm (.st (.pair (.int .i64) (.pair (.int .i64) (.pair (.sl (.flt .f32)) (.pair (.sl (.flt .f32)) (.sl (.flt .f32))))))), .imm (.int .i64), .imm (.int .i64)] [⟨false, (.flt .f32), y67⟩] []⟩, [4, 5, 6]⟩, ⟨⟨none, .no⟩, [0, 1, 2, 3, 4, 5, 6, 7]⟩, ⟨⟨none, .no⟩, []⟩, ⟨⟨none, .no⟩, []⟩, ⟨⟨none, .no⟩, []⟩, ⟨⟨none, .call [.imm (.st (.pair (.int .i64) (.pair (.int .i64) (.pair (.sl (.flt .f32)) (.pair (.sl (.flt .f32)) (.sl (.flt .f32))))))), .imm (.int .i64), .imm (.int .i64)] [⟨false, (.flt .f32), y69⟩] []⟩, [4, 5, 6, 7, 9, 10, 11]⟩] [[0, 1, 2, 3, 4, 5, 6, 7, 8, 9, 10, 11, 12], [0, 1, 2, 3, 4, 5, 6, 7, 8, 9, 10, 11, 12, 13]] [⟨none, .no⟩, ⟨none, .no⟩] ⟨[(1, .one (.dat (.sl (.int .i64)) a1)), (2, .one (.ptr 0 0)), (7, .one (.all 1)), (8, .one (.all 2)), (10, .one (.dat (.int .i64) (List.getD a1 (Int.toNat s6.1) (0 : Int)))), (11, .one (.all 3)), (12, .one (.all 4)), (13, .one (.dat (.int .i64) s48.1)), (14, .one (.dat (.int .i64) s56.1)), (15, .one (.dat (.flt .f32) (fop .mul .f32 (fop .mul .f32 (List.getD s6.2.1 (Int.toNat s56.1) (0 : Nat)) y67) y69))), (29, .one (.dat (.sl (.int .i64)) a1)), (30, .one (.dat (.int .i64) (lenI a1))), (31, .one (.dat (.int .i64) s6.1)), (42, .one (.dat (.int .i64) a0.1)), (43, .one (.dat (.int .i64) s48.1)), (47, .one (.dat (.int .i64) a0.1)), (48, .one (.dat (.int .i64) s56.1))], [(0, .box [.dat (.int .i64) a0.1, .dat (.int .i64) a0.2.1, .dat (.sl (.flt .f32)) a0.2.2.1, .dat (.sl (.flt .f32)) a0.2.2.2.1, .dat (.sl (.flt .f32)) a0.2.2.2.2]), (1, .seq (.flt .f32) s6.2.1), (2, .seq (.sl (.int .i64)) s6.2.2), (3, .seq (.flt .f32) s56.2.1), (4, .seq (.int .i64) s56.2.2)], 5⟩ hP hN (by kernel_rfl) (by kernel_rfl) (allCons hg66 (allCons (natLt hg66) (allCons (f98_ok hc68) (allCons (f99_ok hc70) allNil)))) ?_
                  obtain ⟨v71', hT73, hT65⟩ := of_bind hT65
                  refine HT.join (fun (v71 : Bool) => ⟨[(1, .one (.dat (.sl (.int .i64)) a1)), (2, .one (.ptr 0 0)), (7, .one (.all 1)), (8, .one (.all 2)), (10, .one (.dat (.int .i64) (List.getD a1 (Int.toNat s6.1) (0 : Int)))), (11, .one (.all 3)), (12, .one (.all 4)), (13, .one (.dat (.int .i64) s48.1)), (14, .one (.dat (.int .i64) s56.1)), (15, .one (.dat (.flt .f32) (fop .mul .f32 (fop .mul .f32 (List.getD s6.2.1 (Int.toNat s56.1) (0 : Nat)) y67) y69))), (29, .one (.dat (.sl (.int .i64)) a1)), (30, .one (.dat (.int .i64) (lenI a1))), (31, .one (.dat (.int .i64) s6.1)), (42, .one (.dat (.int .i64) a0.1)), (43, .one (.dat (.int .i64) s48.1)), (47, .one (.dat (.int .i64) a0.1)), (48, .one (.dat (.int .i64) s56.1)), (74, .one (.dat .bool v71))], [(0, .box [.dat (.int .i64) a0.1, .dat (.int .i64) a0.2.1, .dat (.sl (.flt .f32)) a0.2.2.1, .dat (.sl (.flt .f32)) a0.2.2.2.1, .dat (.sl (.flt .f32)) a0.2.2.2.2]), (1, .seq (.flt .f32) s6.2.1), (2, .seq (.sl (.int .i64)) s6.2.2), (3, .seq (.flt .f32) s56.2.1), (4, .seq (.int .i64) s56.2.2)], 5⟩) (fun v => v = v71') (fun v71 hv72 => ?_) (fun cont => ?_)
                  · subst hv72
                    rcases of_bif hT65 with ⟨hb74, hT65⟩ | ⟨hb74, hT65⟩
                    · refine HT.cond1 rfl hb74 ?_
                      obtain ⟨hg75, hT65⟩ := of_guard hT65
                      obtain ⟨hg76, hT65⟩ := of_guard hT65
                      refine HT.reg (rs := [⟨none, .no⟩, ⟨none, .no⟩, ⟨none, .no⟩, ⟨none, .no⟩, ⟨none, .no⟩, ⟨none, .no⟩, ⟨none, .no⟩, ⟨none, .no⟩, ⟨none, .no⟩, ⟨none, .no⟩]) (st' := ⟨[(82, .one (.elp 4 (Int.toNat s48.1) 1)), (81, .one (.elp 3 (Int.toNat s48.1) 1)), (80, .one (.dat (.int .i64) s56.1)), (79, .one (.dat (.flt .f32) (fop .mul .f32 (fop .mul .f32 (List.getD s6.2.1 (Int.toNat s56.1) (0 : Nat)) y67) y69))), (78, .one (.dat (.int .i64) s48.1)), (77, .one (.all 4)), (76, .one (.dat (.int .i64) s48.1)), (75, .one (.all 3)), (1, .one (.dat (.sl (.int .i64)) a1)), (2, .one (.ptr 0 0)), (7, .one (.all 1)), (8, .one (.all 2)), (10, .one (.dat (.int .i64) (List.getD a1 (Int.toNat s6.1) (0 : Int)))), (11, .one (.all 3)), (12, .one (.all 4)), (13, .one (.dat (.int .i64) s48.1)), (14, .one (.dat (.int .i64) s56.1)), (15, .one (.dat (.flt .f32) (fop .mul .f32 (fop .mul .f32 (List.getD s6.2.1 (Int.toNat s56.1) (0 : Nat)) y67) y69))), (29, .one (.dat (.sl (.int .i64)) a1)), (30, .one (.dat (.int .i64) (lenI a1))), (31, .one (.dat (.int .i64) s6.1)), (42, .one (.dat (.int .i64) a0.1)), (43, .one (.dat (.int .i64) s48.1)), (47, .one (.dat (.int .i64) a0.1)), (48, .one (.dat (.int .i64) s56.1)), (74, .one (.dat .bool v71))], [(4, .seq (.int .i64) (List.set s56.2.2 (Int.toNat s48.1) s56.1)), (3, .seq (.flt .f32) (List.set s56.2.1 (Int.toNat s48.1) (fop .mul .f32 (fop .mul .f32 (List.getD s6.2.1 (Int.toNat s56.1) (0 : Nat)) y67) y69))), (0, .box [.dat (.int .i64) a0.1, .dat (.int .i64) a0.2.1, .dat (.sl (.flt .f32)) a0.2.2.1, .dat (.sl (.flt .f32)) a0.2.2.2.1, .dat (.sl (.flt .f32)) a0.2.2.2.2]), (1, .seq (.flt .f32) s6.2.1), (2, .seq (.sl (.int .i64)) s6.2.2), (3, .seq (.flt .f32) s56.2.1), (4, .seq (.int .i64) s56.2.2)], 5⟩) hP hN (by kernel_rfl) (allCons hg75 (allCons (natLt hg75) (allCons hg76 (allCons (natLt hg76) allNil)))) (qBlock (qThen ?_))
                      exact (Le.cv (s := ⟨[(0, 0), (1, 1), (2, 2), (3, 3), (4, 4)], [], [], false⟩) (own := []) (ps := [a1 = a1, (List.getD a1 (Int.toNat s6.1) (0 : Int)) = (List.getD a1 (Int.toNat s6.1) (0 : Int)), s48.1 = s48.1, a1 = a1, (lenI a1) = (lenI a1), s6.1 = s6.1, a0.1 = a0.1, s48.1 = s48.1, a0.1 = a0.1, s56.1 = s56.1, a0.1 = a0.1, a0.2.1 = a0.2.1, a0.2.2.1 = a0.2.2.1, a0.2.2.2.1 = a0.2.2.2.1, a0.2.2.2.2 = a0.2.2.2.2, s6.2.1 = s6.2.1, s6.2.2 = s6.2.2, (List.set s56.2.1 (Int.toNat s48.1) (fop .mul .f32 (fop .mul .f32 (List.getD s6.2.1 (Int.toNat s56.1) (0 : Nat)) y67) y69)) = (List.set s56.2.1 (Int.toNat s48.1) (fop .mul .f32 (fop .mul .f32 (List.getD s6.2.1 (Int.toNat s56.1) (0 : Nat)) y67) y69)), (List.set s56.2.2 (Int.toNat s48.1) s56.1) = (List.set s56.2.2 (Int.toNat s48.1) s56.1)]) (st' := ⟨[(1, .one (.dat (.sl (.int .i64)) a1)), (2, .one (.ptr 0 0)), (7, .one (.all 1)), (8, .one (.all 2)), (10, .one (.dat (.int .i64) (List.getD a1 (Int.toNat s6.1) (0 : Int)))), (11, .one (.all 3)), (12, .one (.all 4)), (13, .one (.dat (.int .i64) s48.1)), (29, .one (.dat (.sl (.int .i64)) a1)), (30, .one (.dat (.int .i64) (lenI a1))), (31, .one (.dat (.int .i64) s6.1)), (42, .one (.dat (.int .i64) a0.1)), (43, .one (.dat (.int .i64) s48.1)), (47, .one (.dat (.int .i64) a0.1)), (48, .one (.dat (.int .i64) s56.1))], [(0, .box [.dat (.int .i64) a0.1, .dat (.int .i64) a0.2.1, .dat (.sl (.flt .f32)) a0.2.2.1, .dat (.sl (.flt .f32)) a0.2.2.2.1, .dat (.sl (.flt .f32)) a0.2.2.2.2]), (1, .seq (.flt .f32) s6.2.1), (2, .seq (.sl (.int .i64)) s6.2.2), (3, .seq (.flt .f32) (List.set s56.2.1 (Int.toNat s48.1) (fop .mul .f32 (fop .mul .f32 (List.getD s6.2.1 (Int.toNat s56.1) (0 : Nat)) y67) y69))), (4, .seq (.int .i64) (List.set s56.2.2 (Int.toNat s48.1) s56.1))], 5⟩) hO (fun h => by cases h) (by kernel_rfl) ⟨rfl, rfl, rfl, rfl, rfl, rfl, rfl, rfl, rfl, rfl, rfl, rfl, rfl, rfl, rfl, rfl, rfl, rfl, rfl, trivial⟩).ht (cont ((List.set s56.2.1 (Int.toNat s48.1) (fop .mul .f32 (fop .mul .f32 (List.getD s6.2.1 (Int.toNat s56.1) (0 : Nat)) y67) y69)), (List.set s56.2.2 (Int.toNat s48.1) s56.1)) (of_some hT65))
                    · refine HT.cond0 rfl hb74 ?_
                      refine HT.skip (qBlock (qThen ?_))
                      exact (Le.cv (s := ⟨[(0, 0), (1, 1), (2, 2), (3, 3), (4, 4)], [], [], false⟩) (own := []) (ps := [a1 = a1, (List.getD a1 (Int.toNat s6.1) (0 : Int)) = (List.getD a1 (Int.toNat s6.1) (0 : Int)), s48.1 = s48.1, a1 = a1, (lenI a1) = (lenI a1), s6.1 = s6.1, a0.1 = a0.1, s48.1 = s48.1, a0.1 = a0.1, s56.1 = s56.1, a0.1 = a0.1, a0.2.1 = a0.2.1, a0.2.2.1 = a0.2.2.1, a0.2.2.2.1 = a0.2.2.2.1, a0.2.2.2.2 = a0.2.2.2.2, s6.2.1 = s6.2.1, s6.2.2 = s6.2.2, s56.2.1 = s56.2.1, s56.2.2 = s56.2.2]) (st' := ⟨[(1, .one (.dat (.sl (.int .i64)) a1)), (2, .one (.ptr 0 0)), (7, .one (.all 1)), (8, .one (.all 2)), (10, .one (.dat (.int .i64) (List.getD a1 (Int.toNat s6.1) (0 : Int)))), (11, .one (.all 3)), (12, .one (.all 4)), (13, .one (.dat (.int .i64) s48.1)), (29, .one (.dat (.sl (.int .i64)) a1)), (30, .one (.dat (.int .i64) (lenI a1))), (31, .one (.dat (.int .i64) s6.1)), (42, .one (.dat (.int .i64) a0.1)), (43, .one (.dat (.int .i64) s48.1)), (47, .one (.dat (.int .i64) a0.1)), (48, .one (.dat (.int .i64) s56.1))], [(0, .box [.dat (.int .i64) a0.1, .dat (.int .i64) a0.2.1, .dat (.sl (.flt .f32)) a0.2.2.1, .dat (.sl (.flt .f32)) a0.2.2.2.1, .dat (.sl (.flt .f32)) a0.2.2.2.2]), (1, .seq (.flt .f32) s6.2.1), (2, .seq (.sl (.int .i64)) s6.2.2), (3, .seq (.flt .f32) s56.2.1), (4, .seq (.int .i64) s56.2.2)], 5⟩) hO (fun h => by cases h) (by kernel_rfl) ⟨rfl, rfl, rfl, rfl, rfl, rfl, rfl, rfl, rfl, rfl, rfl, rfl, rfl, rfl, rfl, rfl, rfl, rfl, rfl, trivial⟩).ht (cont (s56.2.1, s56.2.2) (of_some hT65))
                  · rcases of_bif hT73 with ⟨hb77, hT73⟩ | ⟨hb77, hT73⟩
                    · refine HT.reg (rs := [⟨none, .no⟩, ⟨none, .no⟩, ⟨none, .no⟩, ⟨some true, .no⟩, ⟨some true, .no⟩, ⟨some true, .no⟩, ⟨some true, .no⟩, ⟨some true, .no⟩, ⟨some true, .no⟩, ⟨none, .tv true⟩]) (st' := ⟨[(74, .one (.dat .bool true)), (73, .und), (72, .und), (71, .und), (70, .und), (69, .und), (68, .und), (67, .one (.dat .bool (s56.1 == (0 : Int)))), (66, .one (.dat .bool (s56.1 == (0 : Int)))), (65, .one (.dat (.int .i64) s56.1)), (1, .one (.dat (.sl (.int .i64)) a1)), (2, .one (.ptr 0 0)), (7, .one (.all 1)), (8, .one (.all 2)), (10, .one (.dat (.int .i64) (List.getD a1 (Int.toNat s6.1) (0 : Int)))), (11, .one (.all 3)), (12, .one (.all 4)), (13, .one (.dat (.int .i64) s48.1)), (14, .one (.dat (.int .i64) s56.1)), (15, .one (.dat (.flt .f32) (fop .mul .f32 (fop .mul .f32 (List.getD s6.2.1 (Int.toNat s56.1) (0 : Nat)) y67) y69))), (29, .one (.dat (.sl (.int .i64)) a1)), (30, .one (.dat (.int .i64) (lenI a1))), (31, .one (.dat (.int .i64) s6.1)), (42, .one (.dat (.int .i64) a0.1)), (43, .one (.dat (.int .i64) s48.1)), (47, .one (.dat (.int .i64) a0.1)), (48, .one (.dat (.int .i64) s56.1))], [(0, .box [.dat (.int .i64) a0.1, .dat (.int .i64) a0.2.1, .dat (.sl (.flt .f32)) a0.2.2.1, .dat (.sl (.flt .f32)) a0.2.2.2.1, .dat (.sl (.flt .f32)) a0.2.2.2.2]), (1, .seq (.flt .f32) s6.2.1), (2, .seq (.sl (.int .i64)) s6.2.2), (3, .seq (.flt .f32) s56.2.1), (4, .seq (.int .i64) s56.2.2)], 5⟩) hP hN (by kernel_rfl) (allCons hb77 (allCons hb77 (allCons hb77 (allCons hb77 (allCons hb77 (allCons hb77 (allCons hb77 allNil))))))) (qThen ?_)
                      exact (Le.cv (s := ⟨[(0, 0), (1, 1), (2, 2), (3, 3), (4, 4)], [], [], false⟩) (own := []) (ps := [a1 = a1, (List.getD a1 (Int.toNat s6.1) (0 : Int)) = (List.getD a1 (Int.toNat s6.1) (0 : Int)), s48.1 = s48.1, s56.1 = s56.1, (fop .mul .f32 (fop .mul .f32 (List.getD s6.2.1 (Int.toNat s56.1) (0 : Nat)) y67) y69) = (fop .mul .f32 (fop .mul .f32 (List.getD s6.2.1 (Int.toNat s56.1) (0 : Nat)) y67) y69), a1 = a1, (lenI a1) = (lenI a1), s6.1 = s6.1, a0.1 = a0.1, s48.1 = s48.1, a0.1 = a0.1, s56.1 = s56.1, true = true, a0.1 = a0.1, a0.2.1 = a0.2.1, a0.2.2.1 = a0.2.2.1, a0.2.2.2.1 = a0.2.2.2.1, a0.2.2.2.2 = a0.2.2.2.2, s6.2.1 = s6.2.1, s6.2.2 = s6.2.2, s56.2.1 = s56.2.1, s56.2.2 = s56.2.2]) (st' := ⟨[(1, .one (.dat (.sl (.int .i64)) a1)), (2, .one (.ptr 0 0)), (7, .one (.all 1)), (8, .one (.all 2)), (10, .one (.dat (.int .i64) (List.getD a1 (Int.toNat s6.1) (0 : Int)))), (11, .one (.all 3)), (12, .one (.all 4)), (13, .one (.dat (.int .i64) s48.1)), (14, .one (.dat (.int .i64) s56.1)), (15, .one (.dat (.flt .f32) (fop .mul .f32 (fop .mul .f32 (List.getD s6.2.1 (Int.toNat s56.1) (0 : Nat)) y67) y69))), (29, .one (.dat (.sl (.int .i64)) a1)), (30, .one (.dat (.int .i64) (lenI a1))), (31, .one (.dat (.int .i64) s6.1)), (42, .one (.dat (.int .i64) a0.1)), (43, .one (.dat (.int .i64) s48.1)), (47, .one (.dat (.int .i64) a0.1)), (48, .one (.dat (.int .i64) s56.1)), (74, .one (.dat .bool true))], [(0, .box [.dat (.int .i64) a0.1, .dat (.int .i64) a0.2.1, .dat (.sl (.flt .f32)) a0.2.2.1, .dat (.sl (.flt .f32)) a0.2.2.2.1, .dat (.sl (.flt .f32)) a0.2.2.2.2]), (1, .seq (.flt .f32) s6.2.1), (2, .seq (.sl (.int .i64)) s6.2.2), (3, .seq (.flt .f32) s56.2.1), (4, .seq (.int .i64) s56.2.2)], 5⟩) hO (fun h => by cases h) (by kernel_rfl) ⟨rfl, rfl, rfl, rfl, rfl, rfl, rfl, rfl, rfl, rfl, rfl, rfl, rfl, rfl, rfl, rfl, rfl, rfl, rfl, rfl, rfl, rfl, trivial⟩).ht (cont true (of_some hT73))
                    · obtain ⟨hg78, hT73⟩ := of_guard hT73
                      refine HT.reg (rs := [⟨none, .no⟩, ⟨none, .no⟩, ⟨none, .no⟩, ⟨some false, .no⟩, ⟨some false, .no⟩, ⟨some false, .no⟩, ⟨some false, .no⟩, ⟨some false, .no⟩, ⟨some false, .no⟩, ⟨none, .tv false⟩]) (st' := ⟨[(74, .one (.dat .bool (fgt .f32 (fop .mul .f32 (fop .mul .f32 (List.getD s6.2.1 (Int.toNat s56.1) (0 : Nat)) y67) y69) (List.getD s56.2.1 (Int.toNat s48.1) (0 : Nat))))), (73, .one (.dat .bool (fgt .f32 (fop .mul .f32 (fop .mul .f32 (List.getD s6.2.1 (Int.toNat s56.1) (0 : Nat)) y67) y69) (List.getD s56.2.1 (Int.toNat s48.1) (0 : Nat))))), (72, .one (.dat (.flt .f32) (List.getD s56.2.1 (Int.toNat s48.1) (0 : Nat)))), (71, .one (.elp 3 (Int.toNat s48.1) 1)), (70, .one (.dat (.int .i64) s48.1)), (69, .one (.all 3)), (68, .one (.dat (.flt .f32) (fop .mul .f32 (fop .mul .f32 (List.getD s6.2.1 (Int.toNat s56.1) (0 : Nat)) y67) y69))), (67, .one (.dat .bool (s56.1 == (0 : Int)))), (66, .one (.dat .bool (s56.1 == (0 : Int)))), (65, .one (.dat (.int .i64) s56.1)), (1, .one (.dat (.sl (.int .i64)) a1)), (2, .one (.ptr 0 0)), (7, .one (.all 1)), (8, .one (.all 2)), (10, .one (.dat (.int .i64) (List.getD a1 (Int.toNat s6.1) (0 : Int)))), (11, .one (.all 3)), (12, .one (.all 4)), (13, .one (.dat (.int .i64) s48.1)), (14, .one (.dat (.int .i64) s56.1)), (15, .one (.dat (.flt .f32) (fop .mul .f32 (fop .mul .f32 (List.getD s6.2.1 (Int.toNat s56.1) (0 : Nat)) y67) y69))), (29, .one (.dat (.sl (.int .i64)) a1)), (30, .one (.dat (.int .i64) (lenI a1))), (31, .one (.dat (.int .i64) s6.1)), (42, .one (.dat (.int .i64) a0.1)), (43, .one (.dat (.int .i64) s48.1)), (47, .one (.dat (.int .i64) a0.1)), (48, .one (.dat (.int .i64) s56.1))], [(0, .box [.dat (.int .i64) a0.1, .dat (.int .i64) a0.2.1, .dat (.sl (.flt .f32)) a0.2.2.1, .dat (.sl (.flt .f32)) a0.2.2.2.1, .dat (.sl (.flt .f32)) a0.2.2.2.2]), (1, .seq (.flt .f32) s6.2.1), (2, .seq (.sl (.int .i64)) s6.2.2), (3, .seq (.flt .f32) s56.2.1), (4, .seq (.int .i64) s56.2.2)], 5⟩) hP hN (by kernel_rfl) (allCons hb77 (allCons hb77 (allCons hb77 (allCons hb77 (allCons hg78 (allCons hb77 (allCons (natLt hg78) (allCons hb77 (allCons hb77 allNil))))))))) (qThen ?_)
                      exact (Le.cv (s := ⟨[(0, 0), (1, 1), (2, 2), (3, 3), (4, 4)], [], [], false⟩) (own := []) (ps := [a1 = a1, (List.getD a1 (Int.toNat s6.1) (0 : Int)) = (List.getD a1 (Int.toNat s6.1) (0 : Int)), s48.1 = s48.1, s56.1 = s56.1, (fop .mul .f32 (fop .mul .f32 (List.getD s6.2.1 (Int.toNat s56.1) (0 : Nat)) y67) y69) = (fop .mul .f32 (fop .mul .f32 (List.getD s6.2.1 (Int.toNat s56.1) (0 : Nat)) y67) y69), a1 = a1, (lenI a1) = (lenI a1), s6.1 = s6.1, a0.1 = a0.1, s48.1 = s48.1, a0.1 = a0.1, s56.1 = s56.1, (fgt .f32 (fop .mul .f32 (fop .mul .f32 (List.getD s6.2.1 (Int.toNat s56.1) (0 : Nat)) y67) y69) (List.getD s56.2.1 (Int.toNat s48.1) (0 : Nat))) = (fgt .f32 (fop .mul .f32 (fop .mul .f32 (List.getD s6.2.1 (Int.toNat s56.1) (0 : Nat)) y67) y69) (List.getD s56.2.1 (Int.toNat s48.1) (0 : Nat))), a0.1 = a0.1, a0.2.1 = a0.2.1, a0.2.2.1 = a0.2.2.1, a0.2.2.2.1 = a0.2.2.2.1, a0.2.2.2.2 = a0.2.2.2.2, s6.2.1 = s6.2.1, s6.2.2 = s6.2.2, s56.2.1 = s56.2.1, s56.2.2 = s56.2.2]) (st' := ⟨[(1, .one (.dat (.sl (.int .i64)) a1)), (2, .one (.ptr 0 0)), (7, .one (.all 1)), (8, .one (.all 2)), (10, .one (.dat (.int .i64) (List.getD a1 (Int.toNat s6.1) (0 : Int)))), (11, .one (.all 3)), (12, .one (.all 4)), (13, .one (.dat (.int .i64) s48.1)), (14, .one (.dat (.int .i64) s56.1)), (15, .one (.dat (.flt .f32) (fop .mul .f32 (fop .mul .f32 (List.getD s6.2.1 (Int.toNat s56.1) (0 : Nat)) y67) y69))), (29, .one (.dat (.sl (.int .i64)) a1)), (30, .one (.dat (.int .i64) (lenI a1))), (31, .one (.dat (.int .i64) s6.1)), (42, .one (.dat (.int .i64) a0.1)), (43, .one (.dat (.int .i64) s48.1)), (47, .one (.dat (.int .i64) a0.1)), (48, .one (.dat (.int .i64) s56.1)), (74, .one (.dat .bool (fgt .f32 (fop .mul .f32 (fop .mul .f32 (List.getD s6.2.1 (Int.toNat s56.1) (0 : Nat)) y67) y69) (List.getD s56.2.1 (Int.toNat s48.1) (0 : Nat)))))], [(0, .box [.dat (.int .i64) a0.1, .dat (.int .i64) a0.2.1, .dat (.sl (.flt .f32)) a0.2.2.1, .dat (.sl (.flt .f32)) a0.2.2.2.1, .dat (.sl (.flt .f32)) a0.2.2.2.2]), (1, .seq (.flt .f32) s6.2.1), (2, .seq (.sl (.int .i64)) s6.2.2), (3, .seq (.flt .f32) s56.2.1), (4, .seq (.int .i64) s56.2.2)], 5⟩) hO (fun h => by cases h) (by kernel_rfl) ⟨rfl, rfl, rfl, rfl, rfl, rfl, rfl, rfl, rfl, rfl, rfl, rfl, rfl, rfl, rfl, rfl, rfl, rfl, rfl, rfl, rfl, rfl, trivial⟩).ht (cont (fgt .f32 (fop .mul .f32 (fop .mul .f32 (List.getD s6.2.1 (Int.toNat s56.1) (0 : Nat)) y67) y69) (List.getD s56.2.1 (Int.toNat s48.1) (0 : Nat))) (of_some hT73))
              · refine HT.cond0 rfl hb62 ?_
                have hx60 := of_some hx60
                subst hx60
                refine (Le.cv (s := ⟨[(0, 0), (1, 1), (2, 2), (3, 3), (4, 4)], [], [], false⟩) (own := []) (ps := [a1 = a1, (List.getD a1 (Int.toNat s6.1) (0 : Int)) = (List.getD a1 (Int.toNat s6.1) (0 : Int)), a1 = a1, (lenI a1) = (lenI a1), s6.1 = s6.1, a0.1 = a0.1, s48.1 = s48.1, a0.1 = a0.1, a0.2.1 = a0.2.1, a0.2.2.1 = a0.2.2.1, a0.2.2.2.1 = a0.2.2.2.1, a0.2.2.2.2 = a0.2.2.2.2, s6.2.1 = s6.2.1, s6.2.2 = s6.2.2, s56.2.1 = s56.2.1, s56.2.2 = s56.2.2]) (st' := ⟨[(1, .one (.dat (.sl (.int .i64)) a1)), (2, .one (.ptr 0 0)), (7, .one (.all 1)), (8, .one (.all 2)), (10, .one (.dat (.int .i64) (List.getD a1 (Int.toNat s6.1) (0 : Int)))), (11, .one (.all 3)), (12, .one (.all 4)), (29, .one (.dat (.sl (.int .i64)) a1)), (30, .one (.dat (.int .i64) (lenI a1))), (31, .one (.dat (.int .i64) s6.1)), (42, .one (.dat (.int .i64) a0.1)), (43, .one (.dat (.int .i64) s48.1))], [(0, .box [.dat (.int .i64) a0.1, .dat (.int .i64) a0.2.1, .dat (.sl (.flt .f32)) a0.2.2.1, .dat (.sl (.flt .f32)) a0.2.2.2.1, .dat (.sl (.flt .f32)) a0.2.2.2.2]), (1, .seq (.flt .f32) s6.2.1), (2, .seq (.sl (.int .i64)) s6.2.2), (3, .seq (.flt .f32) s56.2.1), (4, .seq (.int .i64) s56.2.2)], 5⟩) hO (fun h => by cases h) (by kernel_rfl) ⟨rfl, rfl, rfl, rfl, rfl, rfl, rfl, rfl, rfl, rfl, rfl, rfl, rfl, rfl, rfl, rfl, trivial⟩).ht ?_
                exact HT.exit (qThenE (qLoopE (hk61 (s56.2.1, s56.2.2) rfl)))
          · refine HT.cond0 rfl hb55 ?_
            have hx53 := of_some hx53
            subst hx53
            refine (Le.cv (s := ⟨[(0, 0), (2, 1), (3, 2), (4, 3)], [], [], false⟩) (own := []) (ps := [a1 = a1, a1 = a1, (lenI a1) = (lenI a1), s6.1 = s6.1, a0.1 = a0.1, a0.2.1 = a0.2.1, a0.2.2.1 = a0.2.2.1, a0.2.2.2.1 = a0.2.2.2.1, a0.2.2.2.2 = a0.2.2.2.2, s6.2.2 = s6.2.2, s48.2.1 = s48.2.1, s48.2.2 = s48.2.2]) (st' := ⟨[(1, .one (.dat (.sl (.int .i64)) a1)), (2, .one (.ptr 0 0)), (8, .one (.all 1)), (11, .one (.all 2)), (12, .one (.all 3)), (29, .one (.dat (.sl (.int .i64)) a1)), (30, .one (.dat (.int .i64) (lenI a1))), (31, .one (.dat (.int .i64) s6.1))], [(0, .box [.dat (.int .i64) a0.1, .dat (.int .i64) a0.2.1, .dat (.sl (.flt .f32)) a0.2.2.1, .dat (.sl (.flt .f32)) a0.2.2.2.1, .dat (.sl (.flt .f32)) a0.2.2.2.2]), (1, .seq (.sl (.int .i64)) s6.2.2), (2, .seq (.flt .f32) s48.2.1), (3, .seq (.int .i64) s48.2.2)], 4⟩) hO (fun h => by cases h) (by kernel_rfl) ⟨rfl, rfl, rfl, rfl, rfl, rfl, rfl, rfl, rfl, rfl, rfl, rfl, trivial⟩).ht ?_
            exact HT.exit (qThenE (qLoopE (hk54 (s48.2.1, s48.2.2) rfl)))
      · refine HT.cond0 rfl hb45 ?_
        have hx43 := of_some hx43
        subst hx43
        refine (Le.cv (s := ⟨[(1, 0), (2, 1)], [], [], false⟩) (own := []) (ps := [a1 = a1, s6.2.1 = s6.2.1, s6.2.2 = s6.2.2]) (st' := ⟨[(1, .one (.dat (.sl (.int .i64)) a1)), (7, .one (.all 0)), (8, .one (.all 1))], [(0, .seq (.flt .f32) s6.2.1), (1, .seq (.sl (.int .i64)) s6.2.2)], 2⟩) hO (fun h => by cases h) (by kernel_rfl) ⟨rfl, rfl, rfl, trivial⟩).ht ?_
        exact HT.exit (qThenE (qLoopE (hk44 (s6.2.1, s6.2.2) rfl)))

noncomputable def laws_eqInt64S_B1 (a0 : List Int) (a1 : List Int) (s2 : Int) : Option ((Int) ⊕ (Unit ⊕ Unit)) :=
  bif (decide (s2 < (lenI a0))) then
    guardP ((0 : Int) ≤ s2 ∧ s2 < lenI a0) (
      guardP ((0 : Int) ≤ s2 ∧ s2 < lenI a1) (
        bif ((List.getD a0 (Int.toNat s2) (0 : Int)) != (List.getD a1 (Int.toNat s2) (0 : Int))) then
          some (.inr (.inr ()))
        else
          some (.inl (wadd .i64 s2 (1 : Int)))))
  else
    some (.inr (.inl ()))

noncomputable def laws_eqInt64S (a0 : List Int) (a1 : List Int) : Option (Bool) :=
  bif ((lenI a0) != (lenI a1)) then
    some false
  else
    (rounds (laws_eqInt64S_B1 a0 a1) (0 : Int)).bind fun r3 => match r3 with
      | .inl r4 =>
        some true
      | .inr r5 =>
        some false

theorem f20_ok {a0 : List Int} {a1 : List Int} {r : Bool} (hr : laws_eqInt64S a0 a1 = some r) : CallOK Try.prog 20 [.imm (.sl (.int .i64)) a0, .imm (.sl (.int .i64)) a1] [⟨false, .bool, r⟩] [] := by
  unfold laws_eqInt64S at hr
  refine CallOK.of_body (ts := [(false, .bool)]) Try.func20 rfl (by kernel_rfl) (Nat.le_of_ble_eq_true (by kernel_rfl)) fun cx hP hN hO hF => ?_
  have hO : cx.own.map Prod.fst = [] := hO
  have hF : cx.F = [] := hF rfl
  show HT cx ⟨[(0, .one (.dat (.sl (.int .i64)) a0)), (1, .one (.dat (.sl (.int .i64)) a1))], [], 0⟩ _ _
  refine HT.reg1 [0, 1] [⟨none, .no⟩] ⟨[(0, .one (.dat (.sl (.int .i64)) a0)), (1, .one (.dat (.sl (.int .i64)) a1))], [], 0⟩ hP hN (by kernel_rfl) allNil ?_
  refine HT.seq ?_
  refine HT.reg1 [0, 1, 10] [⟨none, .no⟩, ⟨none, .no⟩, ⟨none, .no⟩, ⟨none, .no⟩, ⟨none, .no⟩] ⟨[(0, .one (.dat (.sl (.int .i64)) a0)), (1, .one (.dat (.sl (.int .i64)) a1)), (10, .one (.dat .bool ((lenI a0) != (lenI a1))))], [], 0⟩ hP hN (by kernel_rfl) allNil ?_
  rcases of_bif hr with ⟨hb1, hr⟩ | ⟨hb1, hr⟩
  · refine HT.cond1 rfl hb1 ?_
    refine HT.reg1 [4] [⟨none, .no⟩] ⟨[(4, .one (.dat .bool false))], [], 0⟩ hP hN (by kernel_rfl) allNil ?_
    have hr := of_some hr
    subst hr
    exact HT.ret (qThenR ⟨[.one (.dat .bool false)], [], [], by kernel_rfl, by kernel_rfl, rfl, (.inl rfl), by kernel_rfl, trivial⟩)
  · refine HT.cond0 rfl hb1 ?_
    refine HT.skip (qThen ?_)
    refine HT.seq ?_
    refine HT.reg1 [0, 1, 5] [⟨none, .no⟩] ⟨[(0, .one (.dat (.sl (.int .i64)) a0)), (1, .one (.dat (.sl (.int .i64)) a1)), (5, .one (.dat (.int .i64) (0 : Int)))], [], 0⟩ hP hN (by kernel_rfl) allNil ?_
    refine HT.block ?_
    obtain ⟨r3, hL13, hr⟩ := of_bind hr
    refine (Le.cv (s := ⟨[], [], [], false⟩) (own := []) (ps := [a0 = a0, a1 = a1, (0 : Int) = (0 : Int)]) (st' := ⟨[(0, .one (.dat (.sl (.int .i64)) a0)), (1, .one (.dat (.sl (.int .i64)) a1)), (5, .one (.dat (.int .i64) (0 : Int)))], [], 0⟩) hO (fun h => by cases h) (by kernel_rfl) ⟨rfl, rfl, rfl, trivial⟩).ht ?_
    refine HT.loopE (s := (0 : Int)) (fun (s2 : Int) => ⟨[(0, .one (.dat (.sl (.int .i64)) a0)), (1, .one (.dat (.sl (.int .i64)) a1)), (5, .one (.dat (.int .i64) s2))], [], 0⟩) (fun (r3 : Unit ⊕ Unit) => match r3 with | .inl r4 => (.exit 0, ⟨[], [], 0⟩) | .inr r5 => (.ret, ⟨[(4, .one (.dat .bool false))], [], 0⟩)) hL13 ?_ (fun s2 x6 hx7 hk8 => ?_)
    · rcases r3 with r4 | r5
      · refine (qBlockX (qThen ?_))
        refine HT.reg1 [4] [⟨none, .no⟩] ⟨[(4, .one (.dat .bool true))], [], 0⟩ hP hN (by kernel_rfl) allNil ?_
        have hr := of_some hr
        subst hr
        exact HT.ret ⟨[.one (.dat .bool true)], [], [], by kernel_rfl, by kernel_rfl, rfl, (.inl rfl), by kernel_rfl, trivial⟩
      · have hr := of_some hr
        subst hr
        exact (qBlockR (qThenR ⟨[.one (.dat .bool false)], [], [], by kernel_rfl, by kernel_rfl, rfl, (.inl rfl), by kernel_rfl, trivial⟩))
    · refine HT.seq ?_
      refine HT.reg1 [0, 1, 5, 14] [⟨none, .no⟩, ⟨none, .no⟩, ⟨none, .no⟩, ⟨none, .no⟩] ⟨[(0, .one (.dat (.sl (.int .i64)) a0)), (1, .one (.dat (.sl (.int .i64)) a1)), (5, .one (.dat (.int .i64) s2)), (14, .one (.dat .bool (decide (s2 < (lenI a0)))))], [], 0⟩ hP hN (by kernel_rfl) allNil ?_
      rcases of_bif hx7 with ⟨hb9, hx7⟩ | ⟨hb9, hx7⟩
      · refine HT.cond1 rfl hb9 ?_
        refine HT.skip (qThen ?_)
        refine HT.seq ?_
        refine HT.block ?_
        obtain ⟨hg10, hx7⟩ := of_guard hx7
        obtain ⟨hg11, hx7⟩ := of_guard hx7
        refine HT.drw1 [0, 1, 5, 25] 8 [⟨⟨none, .no⟩, []⟩, ⟨⟨none, .no⟩, []⟩, ⟨⟨none, .no⟩, [0, 1]⟩, ⟨⟨none, .no⟩, [0, 1, 2]⟩, ⟨⟨none, .no⟩, []⟩, ⟨⟨none, .no⟩, []⟩, ⟨⟨none, .no⟩, [4, 5]⟩, ⟨⟨none, .no⟩, [4, 5, 6]⟩] [[0, 1, 2, 3, 4, 5, 6, 7]] [⟨none, .no⟩] ⟨[(0, .one (.dat (.sl (.int .i64)) a0)), (1, .one (.dat (.sl (.int .i64)) a1)), (5, .one (.dat (.int .i64) s2)), (25, .one (.dat .bool ((List.getD a0 (Int.toNat s2) (0 : Int)) != (List.getD a1 (Int.toNat s2) (0 : Int)))))], [], 0⟩ hP hN (by kernel_rfl) (by kernel_rfl) (allCons hg10 (allCons hg11 allNil)) ?_
        rcases of_bif hx7 with ⟨hb12, hx7⟩ | ⟨hb12, hx7⟩
        · refine HT.cond1 rfl hb12 ?_
          refine HT.reg1 [4] [⟨none, .no⟩] ⟨[(4, .one (.dat .bool false))], [], 0⟩ hP hN (by kernel_rfl) allNil ?_
          have hx7 := of_some hx7
          subst hx7
          refine (Le.cv (s := ⟨[], [], [], false⟩) (own := []) (ps := [false = false]) (st' := ⟨[(4, .one (.dat .bool false))], [], 0⟩) hO (fun h => by cases h) (by kernel_rfl) ⟨rfl, trivial⟩).ht ?_
          exact HT.ret (qBlockR (qThenR (qLoopR (hk8 (.inr ()) rfl))))
        · refine HT.cond0 rfl hb12 ?_
          refine HT.skip (qBlock (qThen ?_))
          have hx7 := of_some hx7
          subst hx7
          refine HT.reg (rs := [⟨none, .no⟩, ⟨none, .no⟩, ⟨none, .no⟩]) (st' := ⟨[(5, .one (.dat (.int .i64) (wadd .i64 s2 (1 : Int)))), (16, .one (.dat (.int .i64) (wadd .i64 s2 (1 : Int)))), (15, .one (.dat (.int .i64) s2)), (0, .one (.dat (.sl (.int .i64)) a0)), (1, .one (.dat (.sl (.int .i64)) a1)), (5, .one (.dat (.int .i64) s2)), (25, .one (.dat .bool ((List.getD a0 (Int.toNat s2) (0 : Int)) != (List.getD a1 (Int.toNat s2) (0 : Int)))))], [], 0⟩) hP hN (by kernel_rfl) allNil (qLoopN ⟨(wadd .i64 s2 (1 : Int)), rfl, Le.cv (s := ⟨[], [], [], false⟩) (own := []) (ps := [a0 = a0, a1 = a1, (wadd .i64 s2 (1 : Int)) = (wadd .i64 s2 (1 : Int))]) (st' := ⟨[(0, .one (.dat (.sl (.int .i64)) a0)), (1, .one (.dat (.sl (.int .i64)) a1)), (5, .one (.dat (.int .i64) (wadd .i64 s2 (1 : Int))))], [], 0⟩) hO (fun h => by cases h) (by kernel_rfl) ⟨rfl, rfl, rfl, trivial⟩⟩)
      · refine HT.cond0 rfl hb9 ?_
        have hx7 := of_some hx7
        subst hx7
        refine (Le.cv (s := ⟨[], [], [], false⟩) (own := []) (ps := []) (st' := ⟨[], [], 0⟩) hO (fun h => by cases h) (by kernel_rfl) trivial).ht ?_
        exact HT.exit (qThenE (qLoopE (hk8 (.inl ()) rfl)))

noncomputable def laws_sameFloat (a0 : Nat) (a1 : Nat) : Option (Bool) :=
  (show Option (Bool) from
    bif (!(feq .f64 a0 a0)) then
      some true
    else
      some (!(feq .f64 a1 a1))).bind fun v1 =>
  bif v1 then
    (show Option (Bool) from
      bif (!(feq .f64 a0 a0)) then
        some (!(feq .f64 a1 a1))
      else
        some false).bind fun v5 =>
    some v5
  else
    (show Option (Bool) from
      bif (feq .f64 a0 (0 : Nat)) then
        some (feq .f64 a1 (0 : Nat))
      else
        some false).bind fun v9 =>
    bif v9 then
      some ((fgt .f64 (fop .quo .f64 (4607182418800017408 : Nat) a0) (0 : Nat)) == (fgt .f64 (fop .quo .f64 (4607182418800017408 : Nat) a1) (0 : Nat)))
    else
      some (feq .f64 a0 a1)

theorem f21_ok {a0 : Nat} {a1 : Nat} {r : Bool} (hr : laws_sameFloat a0 a1 = some r) : CallOK Try.prog 21 [.imm (.flt .f64) a0, .imm (.flt .f64) a1] [⟨false, .bool, r⟩] [] := by
  unfold laws_sameFloat at hr
  refine CallOK.of_body (ts := [(false, .bool)]) Try.func21 rfl (by kernel_rfl) (Nat.le_of_ble_eq_true (by kernel_rfl)) fun cx hP hN hO hF => ?_
  have hO : cx.own.map Prod.fst = [] := hO
  have hF : cx.F = [] := hF rfl
  show HT cx ⟨[(0, .one (.dat (.flt .f64) a0)), (1, .one (.dat (.flt .f64) a1))], [], 0⟩ _ _
  refine HT.reg1 [0, 1] [⟨none, .no⟩] ⟨[(0, .one (.dat (.flt .f64) a0)), (1, .one (.dat (.flt .f64) a1))], [], 0⟩ hP hN (by kernel_rfl) allNil ?_
  refine HT.seq ?_
  obtain ⟨v1', hT3, hr⟩ := of_bind hr
  refine HT.join (fun (v1 : Bool) => ⟨[(0, .one (.dat (.flt .f64) a0)), (1, .one (.dat (.flt .f64) a1)), (12, .one (.dat .bool v1))], [], 0⟩) (fun v => v = v1') (fun v1 hv2 => ?_) (fun cont => ?_)
  · subst hv2
    rcases of_bif hr with ⟨hb4, hr⟩ | ⟨hb4, hr⟩
    · refine HT.cond1 rfl hb4 ?_
      obtain ⟨v5', hT7, hr⟩ := of_bind hr
      refine HT.join (fun (v5 : Bool) => ⟨[(4, .one (.dat .bool v5))], [], 0⟩) (fun v => v = v5') (fun v5 hv6 => ?_) (fun cont => ?_)
      · subst hv6
        have hr := of_some hr
        subst hr
        exact HT.ret (qThenR ⟨[.one (.dat .bool v5)], [], [], by kernel_rfl, by kernel_rfl, rfl, (.inl rfl), by kernel_rfl, trivial⟩)
      · rcases of_bif hT7 with ⟨hb8, hT7⟩ | ⟨hb8, hT7⟩
        · refine HT.reg (rs := [⟨none, .no⟩, ⟨none, .no⟩, ⟨none, .no⟩, ⟨none, .no⟩, ⟨some true, .no⟩, ⟨some true, .no⟩, ⟨some true, .no⟩, ⟨none, .tv true⟩, ⟨none, .no⟩]) (st' := ⟨[(4, .one (.dat .bool (!(feq .f64 a1 a1)))), (20, .one (.dat .bool (!(feq .f64 a1 a1)))), (19, .one (.dat .bool (!(feq .f64 a1 a1)))), (18, .one (.dat (.flt .f64) a1)), (17, .one (.dat (.flt .f64) a1)), (16, .one (.dat .bool (!(feq .f64 a0 a0)))), (15, .one (.dat .bool (!(feq .f64 a0 a0)))), (14, .one (.dat (.flt .f64) a0)), (13, .one (.dat (.flt .f64) a0)), (0, .one (.dat (.flt .f64) a0)), (1, .one (.dat (.flt .f64) a1)), (12, .one (.dat .bool v1))], [], 0⟩) hP hN (by kernel_rfl) (allCons hb8 (allCons hb8 (allCons hb8 (allCons hb8 allNil)))) (qThen ?_)
          exact (Le.cv (s := ⟨[], [], [], false⟩) (own := []) (ps := [(!(feq .f64 a1 a1)) = (!(feq .f64 a1 a1))]) (st' := ⟨[(4, .one (.dat .bool (!(feq .f64 a1 a1))))], [], 0⟩) hO (fun h => by cases h) (by kernel_rfl) ⟨rfl, trivial⟩).ht (cont (!(feq .f64 a1 a1)) (of_some hT7))
        · refine HT.reg (rs := [⟨none, .no⟩, ⟨none, .no⟩, ⟨none, .no⟩, ⟨none, .no⟩, ⟨some false, .no⟩, ⟨some false, .no⟩, ⟨some false, .no⟩, ⟨none, .tv false⟩, ⟨none, .no⟩]) (st' := ⟨[(4, .one (.dat .bool false)), (20, .one (.dat .bool false)), (19, .und), (18, .und), (17, .und), (16, .one (.dat .bool (!(feq .f64 a0 a0)))), (15, .one (.dat .bool (!(feq .f64 a0 a0)))), (14, .one (.dat (.flt .f64) a0)), (13, .one (.dat (.flt .f64) a0)), (0, .one (.dat (.flt .f64) a0)), (1, .one (.dat (.flt .f64) a1)), (12, .one (.dat .bool v1))], [], 0⟩) hP hN (by kernel_rfl) (allCons hb8 (allCons hb8 (allCons hb8 (allCons hb8 allNil)))) (qThen ?_)
          exact (Le.cv (s := ⟨[], [], [], false⟩) (own := []) (ps := [false = false]) (st' := ⟨[(4, .one (.dat .bool false))], [], 0⟩) hO (fun h => by cases h) (by kernel_rfl) ⟨rfl, trivial⟩).ht (cont false (of_some hT7))
    · refine HT.cond0 rfl hb4 ?_
      refine HT.skip (qThen ?_)
      refine HT.seq ?_
      obtain ⟨v9', hT11, hr⟩ := of_bind hr
      refine HT.join (fun (v9 : Bool) => ⟨[(0, .one (.dat (.flt .f64) a0)), (1, .one (.dat (.flt .f64) a1)), (26, .one (.dat .bool v9))], [], 0⟩) (fun v => v = v9') (fun v9 hv10 => ?_) (fun cont => ?_)
      · subst hv10
        rcases of_bif hr with ⟨hb12, hr⟩ | ⟨hb12, hr⟩
        · refine HT.cond1 rfl hb12 ?_
          refine HT.reg1 [4] [⟨none, .no⟩, ⟨none, .no⟩, ⟨none, .no⟩, ⟨none, .no⟩, ⟨none, .no⟩, ⟨none, .no⟩, ⟨none, .no⟩, ⟨none, .no⟩] ⟨[(4, .one (.dat .bool ((fgt .f64 (fop .quo .f64 (4607182418800017408 : Nat) a0) (0 : Nat)) == (fgt .f64 (fop .quo .f64 (4607182418800017408 : Nat) a1) (0 : Nat)))))], [], 0⟩ hP hN (by kernel_rfl) allNil ?_
          have hr := of_some hr
          subst hr
          exact HT.ret (qThenR ⟨[.one (.dat .bool ((fgt .f64 (fop .quo .f64 (4607182418800017408 : Nat) a0) (0 : Nat)) == (fgt .f64 (fop .quo .f64 (4607182418800017408 : Nat) a1) (0 : Nat))))], [], [], by kernel_rfl, by kernel_rfl, rfl, (.inl rfl), by kernel_rfl, trivial⟩)
        · refine HT.cond0 rfl hb12 ?_
          refine HT.skip (qThen ?_)
          refine HT.reg1 [4] [⟨none, .no⟩, ⟨none, .no⟩, ⟨none, .no⟩, ⟨none, .no⟩] ⟨[(4, .one (.dat .bool (feq .f64 a0 a1)))], [], 0⟩ hP hN (by kernel_rfl) allNil ?_
          have hr := of_some hr
          subst hr
          exact HT.ret ⟨[.one (.dat .bool (feq .f64 a0 a1))], [], [], by kernel_rfl, by kernel_rfl, rfl, (.inl rfl), by kernel_rfl, trivial⟩
      · rcases of_bif hT11 with ⟨hb13, hT11⟩ | ⟨hb13, hT11⟩
        · refine HT.reg (rs := [⟨none, .no⟩, ⟨none, .no⟩, ⟨none, .no⟩, ⟨some true, .no⟩, ⟨some true, .no⟩, ⟨none, .tv true⟩]) (st' := ⟨[(26, .one (.dat .bool (feq .f64 a1 (0 : Nat)))), (25, .one (.dat .bool (feq .f64 a1 (0 : Nat)))), (24, .one (.dat (.flt .f64) a1)), (23, .one (.dat .bool (feq .f64 a0 (0 : Nat)))), (22, .one (.dat .bool (feq .f64 a0 (0 : Nat)))), (21, .one (.dat (.flt .f64) a0)), (0, .one (.dat (.flt .f64) a0)), (1, .one (.dat (.flt .f64) a1)), (12, .one (.dat .bool v1))], [], 0⟩) hP hN (by kernel_rfl) (allCons hb13 (allCons hb13 (allCons hb13 allNil))) (qThen ?_)
          exact (Le.cv (s := ⟨[], [], [], false⟩) (own := []) (ps := [a0 = a0, a1 = a1, (feq .f64 a1 (0 : Nat)) = (feq .f64 a1 (0 : Nat))]) (st' := ⟨[(0, .one (.dat (.flt .f64) a0)), (1, .one (.dat (.flt .f64) a1)), (26, .one (.dat .bool (feq .f64 a1 (0 : Nat))))], [], 0⟩) hO (fun h => by cases h) (by kernel_rfl) ⟨rfl, rfl, rfl, trivial⟩).ht (cont (feq .f64 a1 (0 : Nat)) (of_some hT11))
        · refine HT.reg (rs := [⟨none, .no⟩, ⟨none, .no⟩, ⟨none, .no⟩, ⟨some false, .no⟩, ⟨some false, .no⟩, ⟨none, .tv false⟩]) (st' := ⟨[(26, .one (.dat .bool false)), (25, .und), (24, .und), (23, .one (.dat .bool (feq .f64 a0 (0 : Nat)))), (22, .one (.dat .bool (feq .f64 a0 (0 : Nat)))), (21, .one (.dat (.flt .f64) a0)), (0, .one (.dat (.flt .f64) a0)), (1, .one (.dat (.flt .f64) a1)), (12, .one (.dat .bool v1))], [], 0⟩) hP hN (by kernel_rfl) (allCons hb13 (allCons hb13 (allCons hb13 allNil))) (qThen ?_)
          exact (Le.cv (s := ⟨[], [], [], false⟩) (own := []) (ps := [a0 = a0, a1 = a1, false = false]) (st' := ⟨[(0, .one (.dat (.flt .f64) a0)), (1, .one (.dat (.flt .f64) a1)), (26, .one (.dat .bool false))], [], 0⟩) hO (fun h => by cases h) (by kernel_rfl) ⟨rfl, rfl, rfl, trivial⟩).ht (cont false (of_some hT11))
  · rcases of_bif hT3 with ⟨hb14, hT3⟩ | ⟨hb14, hT3⟩
    · refine HT.reg (rs := [⟨none, .no⟩, ⟨none, .no⟩, ⟨none, .no⟩, ⟨none, .no⟩, ⟨some true, .no⟩, ⟨some true, .no⟩, ⟨some true, .no⟩, ⟨none, .tv true⟩]) (st' := ⟨[(12, .one (.dat .bool true)), (11, .und), (10, .und), (9, .und), (8, .one (.dat .bool (!(feq .f64 a0 a0)))), (7, .one (.dat .bool (!(feq .f64 a0 a0)))), (6, .one (.dat (.flt .f64) a0)), (5, .one (.dat (.flt .f64) a0)), (0, .one (.dat (.flt .f64) a0)), (1, .one (.dat (.flt .f64) a1))], [], 0⟩) hP hN (by kernel_rfl) (allCons hb14 (allCons hb14 (allCons hb14 (allCons hb14 allNil)))) (qThen ?_)
      exact (Le.cv (s := ⟨[], [], [], false⟩) (own := []) (ps := [a0 = a0, a1 = a1, true = true]) (st' := ⟨[(0, .one (.dat (.flt .f64) a0)), (1, .one (.dat (.flt .f64) a1)), (12, .one (.dat .bool true))], [], 0⟩) hO (fun h => by cases h) (by kernel_rfl) ⟨rfl, rfl, rfl, trivial⟩).ht (cont true (of_some hT3))
    · refine HT.reg (rs := [⟨none, .no⟩, ⟨none, .no⟩, ⟨none, .no⟩, ⟨none, .no⟩, ⟨some false, .no⟩, ⟨some false, .no⟩, ⟨some false, .no⟩, ⟨none, .tv false⟩]) (st' := ⟨[(12, .one (.dat .bool (!(feq .f64 a1 a1)))), (11, .one (.dat .bool (!(feq .f64 a1 a1)))), (10, .one (.dat (.flt .f64) a1)), (9, .one (.dat (.flt .f64) a1)), (8, .one (.dat .bool (!(feq .f64 a0 a0)))), (7, .one (.dat .bool (!(feq .f64 a0 a0)))), (6, .one (.dat (.flt .f64) a0)), (5, .one (.dat (.flt .f64) a0)), (0, .one (.dat (.flt .f64) a0)), (1, .one (.dat (.flt .f64) a1))], [], 0⟩) hP hN (by kernel_rfl) (allCons hb14 (allCons hb14 (allCons hb14 (allCons hb14 allNil)))) (qThen ?_)
      exact (Le.cv (s := ⟨[], [], [], false⟩) (own := []) (ps := [a0 = a0, a1 = a1, (!(feq .f64 a1 a1)) = (!(feq .f64 a1 a1))]) (st' := ⟨[(0, .one (.dat (.flt .f64) a0)), (1, .one (.dat (.flt .f64) a1)), (12, .one (.dat .bool (!(feq .f64 a1 a1))))], [], 0⟩) hO (fun h => by cases h) (by kernel_rfl) ⟨rfl, rfl, rfl, trivial⟩).ht (cont (!(feq .f64 a1 a1)) (of_some hT3))

noncomputable def laws_eqFloat32S_B1 (a0 : List Nat) (a1 : List Nat) (s2 : Int) : Option ((Int) ⊕ (Unit ⊕ Unit)) :=
  bif (decide (s2 < (lenI a0))) then
    guardP ((0 : Int) ≤ s2 ∧ s2 < lenI a0) (
      guardP ((0 : Int) ≤ s2 ∧ s2 < lenI a1) (
        (laws_sameFloat (fconv .f32 .f64 (List.getD a0 (Int.toNat s2) (0 : Nat))) (fconv .f32 .f64 (List.getD a1 (Int.toNat s2) (0 : Nat)))).bind fun y12 =>
        bif (!y12) then
          some (.inr (.inr ()))
        else
          some (.inl (wadd .i64 s2 (1 : Int)))))
  else
    some (.inr (.inl ()))

noncomputable def laws_eqFloat32S (a0 : List Nat) (a1 : List Nat) : Option (Bool) :=
  bif ((lenI a0) != (lenI a1)) then
    some false
  else
    (rounds (laws_eqFloat32S_B1 a0 a1) (0 : Int)).bind fun r3 => match r3 with
      | .inl r4 =>
        some true
      | .inr r5 =>
        some false

theorem f58_ok {a0 : List Nat} {a1 : List Nat} {r : Bool} (hr : laws_eqFloat32S a0 a1 = some r) : CallOK Try.prog 58 [.imm (.sl (.flt .f32)) a0, .imm (.sl (.flt .f32)) a1] [⟨false, .bool, r⟩] [] := by
  unfold laws_eqFloat32S at hr
  refine CallOK.of_body (ts := [(false, .bool)]) Try.func58 rfl (by kernel_rfl) (Nat.le_of_ble_eq_true (by kernel_rfl)) fun cx hP hN hO hF => ?_
  have hO : cx.own.map Prod.fst = [] := hO
  have hF : cx.F = [] := hF rfl
  show HT cx ⟨[(0, .one (.dat (.sl (.flt .f32)) a0)), (1, .one (.dat (.sl (.flt .f32)) a1))], [], 0⟩ _ _
  refine HT.reg1 [0, 1] [⟨none, .no⟩] ⟨[(0, .one (.dat (.sl (.flt .f32)) a0)), (1, .one (.dat (.sl (.flt .f32)) a1))], [], 0⟩ hP hN (by kernel_rfl) allNil ?_
  refine HT.seq ?_
  refine HT.reg1 [0, 1, 10] [⟨none, .no⟩, ⟨none, .no⟩, ⟨none, .no⟩, ⟨none, .no⟩, ⟨none, .no⟩] ⟨[(0, .one (.dat (.sl (.flt .f32)) a0)), (1, .one (.dat (.sl (.flt .f32)) a1)), (10, .one (.dat .bool ((lenI a0) != (lenI a1))))], [], 0⟩ hP hN (by kernel_rfl) allNil ?_
  rcases of_bif hr with ⟨hb1, hr⟩ | ⟨hb1, hr⟩
  · refine HT.cond1 rfl hb1 ?_
    refine HT.reg1 [4] [⟨none, .no⟩] ⟨[(4, .one (.dat .bool false))], [], 0⟩ hP hN (by kernel_rfl) allNil ?_
    have hr := of_some hr
    subst hr
    exact HT.ret (qThenR ⟨[.one (.dat .bool false)], [], [], by kernel_rfl, by kernel_rfl, rfl, (.inl rfl), by kernel_rfl, trivial⟩)
  · refine HT.cond0 rfl hb1 ?_
    refine HT.skip (qThen ?_)
    refine HT.seq ?_
    refine HT.reg1 [0, 1, 5] [⟨none, .no⟩] ⟨[(0, .one (.dat (.sl (.flt .f32)) a0)), (1, .one (.dat (.sl (.flt .f32)) a1)), (5, .one (.dat (.int .i64) (0 : Int)))], [], 0⟩ hP hN (by kernel_rfl) allNil ?_
    refine HT.block ?_
    obtain ⟨r3, hL15, hr⟩ := of_bind hr
    refine (Le.cv (s := ⟨[], [], [], false⟩) (own := []) (ps := [a0 = a0, a1 = a1, (0 : Int) = (0 : Int)]) (st' := ⟨[(0, .one (.dat (.sl (.flt .f32)) a0)), (1, .one (.dat (.sl (.flt .f32)) a1)), (5, .one (.dat (.int .i64) (0 : Int)))], [], 0⟩) hO (fun h => by cases h) (by kernel_rfl) ⟨rfl, rfl, rfl, trivial⟩).ht ?_
    refine HT.loopE (s := (0 : Int)) (fun (s2 : Int) => ⟨[(0, .one (.dat (.sl (.flt .f32)) a0)), (1, .one (.dat (.sl (.flt .f32)) a1)), (5, .one (.dat (.int .i64) s2))], [], 0⟩) (fun (r3 : Unit ⊕ Unit) => match r3 with | .inl r4 => (.exit 0, ⟨[], [], 0⟩) | .inr r5 => (.ret, ⟨[(4, .one (.dat .bool false))], [], 0⟩)) hL15 ?_ (fun s2 x6 hx7 hk8 => ?_)
    · rcases r3 with r4 | r5
      · refine (qBlockX (qThen ?_))
        refine HT.reg1 [4] [⟨none, .no⟩] ⟨[(4, .one (.dat .bool true))], [], 0⟩ hP hN (by kernel_rfl) allNil ?_
        have hr := of_some hr
        subst hr
        exact HT.ret ⟨[.one (.dat .bool true)], [], [], by kernel_rfl, by kernel_rfl, rfl, (.inl rfl), by kernel_rfl, trivial⟩
      · have hr := of_some hr
        subst hr
        exact (qBlockR (qThenR ⟨[.one (.dat .bool false)], [], [], by kernel_rfl, by kernel_rfl, rfl, (.inl rfl), by kernel_rfl, trivial⟩))
    · refine HT.seq ?_
      refine HT.reg1 [0, 1, 5, 14] [⟨none, .no⟩, ⟨none, .no⟩, ⟨none, .no⟩, ⟨none, .no⟩] ⟨[(0, .one (.dat (.sl (.flt .f32)) a0)), (1, .one (.dat (.sl (.flt .f32)) a1)), (5, .one (.dat (.int .i64) s2)), (14, .one (.dat .bool (decide (s2 < (lenI a0)))))], [], 0⟩ hP hN (by kernel_rfl) allNil ?_
      rcases of_bif hx7 with ⟨hb9, hx7⟩ | ⟨hb9, hx7⟩
      · refine HT.cond1 rfl hb9 ?_
        refine HT.skip (qThen ?_)
        refine HT.seq ?_
        refine HT.block ?_
        obtain ⟨hg10, hx7⟩ := of_guard hx7
        obtain ⟨hg11, hx7⟩ := of_guard hx7
        obtain ⟨y12, hc13, hx7⟩ := of_bind hx7
        refine HT.drw1 [0, 1, 5, 28] 10 [⟨⟨none, .no⟩, []⟩, ⟨⟨none, .no⟩, []⟩, ⟨⟨none, .no⟩, [0, 1]⟩, ⟨⟨none, .no⟩, [0, 1, 2]⟩, ⟨⟨none, .no⟩, [0, 1, 2, 3]⟩, ⟨⟨none, .no⟩, []⟩, ⟨⟨none, .no⟩, []⟩, ⟨⟨none, .no⟩, [5, 6]⟩, ⟨⟨none, .no⟩, [5, 6, 7]⟩, ⟨⟨none, .no⟩, [5, 6, 7, 8]⟩] [[0, 1, 2, 3, 4, 5, 6, 7, 8, 9], [0, 1, 2, 3, 4, 5, 6, 7, 8, 9, 10]] [⟨none, .call [.imm (.flt .f64), .imm (.flt .f64)] [⟨false, .bool, y12⟩] []⟩, ⟨none, .no⟩] ⟨[(0, .one (.dat (.sl (.flt .f32)) a0)), (1, .one (.dat (.sl (.flt .f32)) a1)), (5, .one (.dat (.int .i64) s2)), (28, .one (.dat .bool (!y12)))], [], 0⟩ hP hN (by kernel_rfl) (by kernel_rfl) (allCons hg10 (allCons (show fconvOK .f32 .f64 (List.getD a0 (Int.toNat s2) (0 : Nat)) = true from (fconv_up _)) (allCons hg11 (allCons (show fconvOK .f32 .f64 (List.getD a1 (Int.toNat s2) (0 : Nat)) = true from (fconv_up _)) (allCons (f21_ok hc13) allNil))))) ?_
        rcases of_bif hx7 with ⟨hb14, hx7⟩ | ⟨hb14, hx7⟩
        · refine HT.cond1 rfl hb14 ?_
          refine HT.reg1 [4] [⟨none, .no⟩] ⟨[(4, .one (.dat .bool false))], [], 0⟩ hP hN (by kernel_rfl) allNil ?_
          have hx7 := of_some hx7
          subst hx7
          refine (Le.cv (s := ⟨[], [], [], false⟩) (own := []) (ps := [false = false]) (st' := ⟨[(4, .one (.dat .bool false))], [], 0⟩) hO (fun h => by cases h) (by kernel_rfl) ⟨rfl, trivial⟩).ht ?_
          exact HT.ret (qBlockR (qThenR (qLoopR (hk8 (.inr ()) rfl))))
        · refine HT.cond0 rfl hb14 ?_
          refine HT.skip (qBlock (qThen ?_))
          have hx7 := of_some hx7
          subst hx7
          refine HT.reg (rs := [⟨none, .no⟩, ⟨none, .no⟩, ⟨none, .no⟩]) (st' := ⟨[(5, .one (.dat (.int .i64) (wadd .i64 s2 (1 : Int)))), (16, .one (.dat (.int .i64) (wadd .i64 s2 (1 : Int)))), (15, .one (.dat (.int .i64) s2)), (0, .one (.dat (.sl (.flt .f32)) a0)), (1, .one (.dat (.sl (.flt .f32)) a1)), (5, .one (.dat (.int .i64) s2)), (28, .one (.dat .bool (!y12)))], [], 0⟩) hP hN (by kernel_rfl) allNil (qLoopN ⟨(wadd .i64 s2 (1 : Int)), rfl, Le.cv (s := ⟨[], [], [], false⟩) (own := []) (ps := [a0 = a0, a1 = a1, (wadd .i64 s2 (1 : Int)) = (wadd .i64 s2 (1 : Int))]) (st' := ⟨[(0, .one (.dat (.sl (.flt .f32)) a0)), (1, .one (.dat (.sl (.flt .f32)) a1)), (5, .one (.dat (.int .i64) (wadd .i64 s2 (1 : Int))))], [], 0⟩) hO (fun h => by cases h) (by kernel_rfl) ⟨rfl, rfl, rfl, trivial⟩⟩)
      · refine HT.cond0 rfl hb9 ?_
        have hx7 := of_some hx7
        subst hx7
        refine (Le.cv (s := ⟨[], [], [], false⟩) (own := []) (ps := []) (st' := ⟨[], [], 0⟩) hO (fun h => by cases h) (by kernel_rfl) trivial).ht ?_
        exact HT.exit (qThenE (qLoopE (hk8 (.inl ()) rfl)))

noncomputable def laws_eqModel (a0 : Int × Int × List Nat × List Nat × List Nat) (a1 : Int × Int × List Nat × List Nat × List Nat) : Option (Bool) :=
  bif (a0.1 != a1.1) then
    some false
  else
    bif (a0.2.1 != a1.2.1) then
      some false
    else
      (laws_eqFloat32S a0.2.2.1 a1.2.2.1).bind fun y3 =>
      bif (!y3) then
        some false
      else
        (laws_eqFloat32S a0.2.2.2.1 a1.2.2.2.1).bind fun y6 =>
        bif (!y6) then
          some false
        else
          (laws_eqFloat32S a0.2.2.2.2 a1.2.2.2.2).bind fun y9 =>
          bif (!y9) then
            some false
          else
            some true

theorem f22_ok {a0 : Int × Int × List Nat × List Nat × List Nat} {a1 : Int × Int × List Nat × List Nat × List Nat} {r : Bool} (hr : laws_eqModel a0 a1 = some r) : CallOK Try.prog 22 [.imm (.st (.pair (.int .i64) (.pair (.int .i64) (.pair (.sl (.flt .f32)) (.pair (.sl (.flt .f32)) (.sl (.flt .f32))))))) a0, .imm (.st (.pair (.int .i64) (.pair (.int .i64) (.pair (.sl (.flt .f32)) (.pair (.sl (.flt .f32)) (.sl (.flt .f32))))))) a1] [⟨false, .bool, r⟩] [] := by
  unfold laws_eqModel at hr
  refine CallOK.of_body (ts := [(false, .bool)]) Try.func22 rfl (by kernel_rfl) (Nat.le_of_ble_eq_true (by kernel_rfl)) fun cx hP hN hO hF => ?_
  have hO : cx.own.map Prod.fst = [] := hO
  have hF : cx.F = [] := hF rfl
  show HT cx ⟨[(0, .agg [.dat (.int .i64) a0.1, .dat (.int .i64) a0.2.1, .dat (.sl (.flt .f32)) a0.2.2.1, .dat (.sl (.flt .f32)) a0.2.2.2.1, .dat (.sl (.flt .f32)) a0.2.2.2.2]), (1, .agg [.dat (.int .i64) a1.1, .dat (.int .i64) a1.2.1, .dat (.sl (.flt .f32)) a1.2.2.1, .dat (.sl (.flt .f32)) a1.2.2.2.1, .dat (.sl (.flt .f32)) a1.2.2.2.2])], [], 0⟩ _ _
  refine HT.reg1 [2, 3] [⟨none, .no⟩, ⟨none, .no⟩, ⟨none, .no⟩] ⟨[(2, .one (.ptr 0 0)), (3, .one (.ptr 1 0))], [(1, .box [.dat (.int .i64) a1.1, .dat (.int .i64) a1.2.1, .dat (.sl (.flt .f32)) a1.2.2.1, .dat (.sl (.flt .f32)) a1.2.2.2.1, .dat (.sl (.flt .f32)) a1.2.2.2.2]), (0, .box [.dat (.int .i64) a0.1, .dat (.int .i64) a0.2.1, .dat (.sl (.flt .f32)) a0.2.2.1, .dat (.sl (.flt .f32)) a0.2.2.2.1, .dat (.sl (.flt .f32)) a0.2.2.2.2])], 2⟩ hP hN (by kernel_rfl) allNil ?_
  refine HT.seq ?_
  refine HT.reg1 [2, 3, 9] [⟨none, .no⟩, ⟨none, .no⟩, ⟨none, .no⟩, ⟨none, .no⟩, ⟨none, .no⟩] ⟨[(2, .one (.ptr 0 0)), (3, .one (.ptr 1 0)), (9, .one (.dat .bool (a0.1 != a1.1)))], [(1, .box [.dat (.int .i64) a1.1, .dat (.int .i64) a1.2.1, .dat (.sl (.flt .f32)) a1.2.2.1, .dat (.sl (.flt .f32)) a1.2.2.2.1, .dat (.sl (.flt .f32)) a1.2.2.2.2]), (0, .box [.dat (.int .i64) a0.1, .dat (.int .i64) a0.2.1, .dat (.sl (.flt .f32)) a0.2.2.1, .dat (.sl (.flt .f32)) a0.2.2.2.1, .dat (.sl (.flt .f32)) a0.2.2.2.2])], 2⟩ hP hN (by kernel_rfl) allNil ?_
  rcases of_bif hr with ⟨hb1, hr⟩ | ⟨hb1, hr⟩
  · refine HT.cond1 rfl hb1 ?_
    refine HT.reg1 [4] [⟨none, .no⟩] ⟨[(4, .one (.dat .bool false))], [(1, .box [.dat (.int .i64) a1.1, .dat (.int .i64) a1.2.1, .dat (.sl (.flt .f32)) a1.2.2.1, .dat (.sl (.flt .f32)) a1.2.2.2.1, .dat (.sl (.flt .f32)) a1.2.2.2.2]), (0, .box [.dat (.int .i64) a0.1, .dat (.int .i64) a0.2.1, .dat (.sl (.flt .f32)) a0.2.2.1, .dat (.sl (.flt .f32)) a0.2.2.2.1, .dat (.sl (.flt .f32)) a0.2.2.2.2])], 2⟩ hP hN (by kernel_rfl) allNil ?_
    have hr := of_some hr
    subst hr
    exact HT.ret (qThenR ⟨[.one (.dat .bool false)], [], [], by kernel_rfl, by kernel_rfl, rfl, (.inl rfl), by kernel_rfl, trivial⟩)
  · refine HT.cond0 rfl hb1 ?_
    refine HT.skip (qThen ?_)
    refine HT.seq ?_
    refine HT.reg1 [2, 3, 14] [⟨none, .no⟩, ⟨none, .no⟩, ⟨none, .no⟩, ⟨none, .no⟩, ⟨none, .no⟩] ⟨[(2, .one (.ptr 0 0)), (3, .one (.ptr 1 0)), (14, .one (.dat .bool (a0.2.1 != a1.2.1)))], [(1, .box [.dat (.int .i64) a1.1, .dat (.int .i64) a1.2.1, .dat (.sl (.flt .f32)) a1.2.2.1, .dat (.sl (.flt .f32)) a1.2.2.2.1, .dat (.sl (.flt .f32)) a1.2.2.2.2]), (0, .box [.dat (.int .i64) a0.1, .dat (.int .i64) a0.2.1, .dat (.sl (.flt .f32)) a0.2.2.1, .dat (.sl (.flt .f32)) a0.2.2.2.1, .dat (.sl (.flt .f32)) a0.2.2.2.2])], 2⟩ hP hN (by kernel_rfl) allNil ?_
    rcases of_bif hr with ⟨hb2, hr⟩ | ⟨hb2, hr⟩
    · refine HT.cond1 rfl hb2 ?_
      refine HT.reg1 [4] [⟨none, .no⟩] ⟨[(4, .one (.dat .bool false))], [(1, .box [.dat (.int .i64) a1.1, .dat (.int .i64) a1.2.1, .dat (.sl (.flt .f32)) a1.2.2.1, .dat (.sl (.flt .f32)) a1.2.2.2.1, .dat (.sl (.flt .f32)) a1.2.2.2.2]), (0, .box [.dat (.int .i64) a0.1, .dat (.int .i64) a0.2.1, .dat (.sl (.flt .f32)) a0.2.2.1, .dat (.sl (.flt .f32)) a0.2.2.2.1, .dat (.sl (.flt .f32)) a0.2.2.2.2])], 2⟩ hP hN (by kernel_rfl) allNil ?_
      have hr := of_some hr
      subst hr
      exact HT.ret (qThenR ⟨[.one (.dat .bool false)], [], [], by kernel_rfl, by kernel_rfl, rfl, (.inl rfl), by kernel_rfl, trivial⟩)
    · refine HT.cond0 rfl hb2 ?_
      refine HT.skip (qThen ?_)
      refine HT.seq ?_
      obtain ⟨y3, hc4, hr⟩ := of_bind hr
      refine HT.reg1 [2, 3, 20] [⟨none, .no⟩, ⟨none, .no⟩, ⟨none, .no⟩, ⟨none, .no⟩, ⟨none, .call [.imm (.sl (.flt .f32)), .imm (.sl (.flt .f32))] [⟨false, .bool, y3⟩] []⟩, ⟨none, .no⟩] ⟨[(2, .one (.ptr 0 0)), (3, .one (.ptr 1 0)), (20, .one (.dat .bool (!y3)))], [(1, .box [.dat (.int .i64) a1.1, .dat (.int .i64) a1.2.1, .dat (.sl (.flt .f32)) a1.2.2.1, .dat (.sl (.flt .f32)) a1.2.2.2.1, .dat (.sl (.flt .f32)) a1.2.2.2.2]), (0, .box [.dat (.int .i64) a0.1, .dat (.int .i64) a0.2.1, .dat (.sl (.flt .f32)) a0.2.2.1, .dat (.sl (.flt .f32)) a0.2.2.2.1, .dat (.sl (.flt .f32)) a0.2.2.2.2])], 2⟩ hP hN (by kernel_rfl) (allCons (f58_ok hc4) allNil) ?_
      rcases of_bif hr with ⟨hb5, hr⟩ | ⟨hb5, hr⟩
      · refine HT.cond1 rfl hb5 ?_
        refine HT.reg1 [4] [⟨none, .no⟩] ⟨[(4, .one (.dat .bool false))], [(1, .box [.dat (.int .i64) a1.1, .dat (.int .i64) a1.2.1, .dat (.sl (.flt .f32)) a1.2.2.1, .dat (.sl (.flt .f32)) a1.2.2.2.1, .dat (.sl (.flt .f32)) a1.2.2.2.2]), (0, .box [.dat (.int .i64) a0.1, .dat (.int .i64) a0.2.1, .dat (.sl (.flt .f32)) a0.2.2.1, .dat (.sl (.flt .f32)) a0.2.2.2.1, .dat (.sl (.flt .f32)) a0.2.2.2.2])], 2⟩ hP hN (by kernel_rfl) allNil ?_
        have hr := of_some hr
        subst hr
        exact HT.ret (qThenR ⟨[.one (.dat .bool false)], [], [], by kernel_rfl, by kernel_rfl, rfl, (.inl rfl), by kernel_rfl, trivial⟩)
      · refine HT.cond0 rfl hb5 ?_
        refine HT.skip (qThen ?_)
        refine HT.seq ?_
        obtain ⟨y6, hc7, hr⟩ := of_bind hr
        refine HT.reg1 [2, 3, 26] [⟨none, .no⟩, ⟨none, .no⟩, ⟨none, .no⟩, ⟨none, .no⟩, ⟨none, .call [.imm (.sl (.flt .f32)), .imm (.sl (.flt .f32))] [⟨false, .bool, y6⟩] []⟩, ⟨none, .no⟩] ⟨[(2, .one (.ptr 0 0)), (3, .one (.ptr 1 0)), (26, .one (.dat .bool (!y6)))], [(1, .box [.dat (.int .i64) a1.1, .dat (.int .i64) a1.2.1, .dat (.sl (.flt .f32)) a1.2.2.1, .dat (.sl (.flt .f32)) a1.2.2.2.1, .dat (.sl (.flt .f32)) a1.2.2.2.2]), (0, .box [.dat (.int .i64) a0.1, .dat (.int .i64) a0.2.1, .dat (.sl (.flt .f32)) a0.2.2.1, .dat (.sl (.flt .f32)) a0.2.2.2.1, .dat (.sl (.flt .f32)) a0.2.2.2.2])], 2⟩ hP hN (by kernel_rfl) (allCons (f58_ok hc7) allNil) ?_
        rcases of_bif hr with ⟨hb8, hr⟩ | ⟨hb8, hr⟩
        · refine HT.cond1 rfl hb8 ?_
          refine HT.reg1 [4] [⟨none, .no⟩] ⟨[(4, .one (.dat .bool false))], [(1, .box [.dat (.int .i64) a1.1, .dat (.int .i64) a1.2.1, .dat (.sl (.flt .f32)) a1.2.2.1, .dat (.sl (.flt .f32)) a1.2.2.2.1, .dat (.sl (.flt .f32)) a1.2.2.2.2]), (0, .box [.dat (.int .i64) a0.1, .dat (.int .i64) a0.2.1, .dat (.sl (.flt .f32)) a0.2.2.1, .dat (.sl (.flt .f32)) a0.2.2.2.1, .dat (.sl (.flt .f32)) a0.2.2.2.2])], 2⟩ hP hN (by kernel_rfl) allNil ?_
          have hr := of_some hr
          subst hr
          exact HT.ret (qThenR ⟨[.one (.dat .bool false)], [], [], by kernel_rfl, by kernel_rfl, rfl, (.inl rfl), by kernel_rfl, trivial⟩)
        · refine HT.cond0 rfl hb8 ?_
          refine HT.skip (qThen ?_)
          refine HT.seq ?_
          obtain ⟨y9, hc10, hr⟩ := of_bind hr
          refine HT.reg1 [32] [⟨none, .no⟩, ⟨none, .no⟩, ⟨none, .no⟩, ⟨none, .no⟩, ⟨none, .call [.imm (.sl (.flt .f32)), .imm (.sl (.flt .f32))] [⟨false, .bool, y9⟩] []⟩, ⟨none, .no⟩] ⟨[(32, .one (.dat .bool (!y9)))], [(1, .box [.dat (.int .i64) a1.1, .dat (.int .i64) a1.2.1, .dat (.sl (.flt .f32)) a1.2.2.1, .dat (.sl (.flt .f32)) a1.2.2.2.1, .dat (.sl (.flt .f32)) a1.2.2.2.2]), (0, .box [.dat (.int .i64) a0.1, .dat (.int .i64) a0.2.1, .dat (.sl (.flt .f32)) a0.2.2.1, .dat (.sl (.flt .f32)) a0.2.2.2.1, .dat (.sl (.flt .f32)) a0.2.2.2.2])], 2⟩ hP hN (by kernel_rfl) (allCons (f58_ok hc10) allNil) ?_
          rcases of_bif hr with ⟨hb11, hr⟩ | ⟨hb11, hr⟩
          · refine HT.cond1 rfl hb11 ?_
            refine HT.reg1 [4] [⟨none, .no⟩] ⟨[(4, .one (.dat .bool false))], [(1, .box [.dat (.int .i64) a1.1, .dat (.int .i64) a1.2.1, .dat (.sl (.flt .f32)) a1.2.2.1, .dat (.sl (.flt .f32)) a1.2.2.2.1, .dat (.sl (.flt .f32)) a1.2.2.2.2]), (0, .box [.dat (.int .i64) a0.1, .dat (.int .i64) a0.2.1, .dat (.sl (.flt .f32)) a0.2.2.1, .dat (.sl (.flt .f32)) a0.2.2.2.1, .dat (.sl (.flt .f32)) a0.2.2.2.2])], 2⟩ hP hN (by kernel_rfl) allNil ?_
            have hr := of_some hr
            subst hr
            exact HT.ret (qThenR ⟨[.one (.dat .bool false)], [], [], by kernel_rfl, by kernel_rfl, rfl, (.inl rfl), by kernel_rfl, trivial⟩)
          · refine HT.cond0 rfl hb11 ?_
            refine HT.skip (qThen ?_)
            refine HT.reg1 [4] [⟨none, .no⟩] ⟨[(4, .one (.dat .bool true))], [(1, .box [.dat (.int .i64) a1.1, .dat (.int .i64) a1.2.1, .dat (.sl (.flt .f32)) a1.2.2.1, .dat (.sl (.flt .f32)) a1.2.2.2.1, .dat (.sl (.flt .f32)) a1.2.2.2.2]), (0, .box [.dat (.int .i64) a0.1, .dat (.int .i64) a0.2.1, .dat (.sl (.flt .f32)) a0.2.2.1, .dat (.sl (.flt .f32)) a0.2.2.2.1, .dat (.sl (.flt .f32)) a0.2.2.2.2])], 2⟩ hP hN (by kernel_rfl) allNil ?_
            have hr := of_some hr
            subst hr
            exact HT.ret ⟨[.one (.dat .bool true)], [], [], by kernel_rfl, by kernel_rfl, rfl, (.inl rfl), by kernel_rfl, trivial⟩

noncomputable def laws_markFloat32S_B1  (s1 : Int × Int × List Nat) : Option ((Int × Int × List Nat) ⊕ ((Int × List Nat))) :=
  bif (decide (s1.2.1 < (lenI s1.2.2))) then
    guardP ((0 : Int) ≤ s1.2.1 ∧ s1.2.1 < lenI s1.2.2) (
      some (.inl ((wadd .i64 s1.1 (1 : Int)), (wadd .i64 s1.2.1 (1 : Int)), (List.set s1.2.2 (Int.toNat s1.2.1) (fofint .f32 s1.1)))))
  else
    some (.inr (s1.1, s1.2.2))

noncomputable def laws_markFloat32S (a0 : List Nat) (a1 : Int) : Option (Int × List Nat) :=
  (rounds (laws_markFloat32S_B1) (a1, (0 : Int), a0)).bind fun r3 =>
  guardP (List.length r3.2 = List.length a0) (
    some (r3.1, r3.2))

theorem f59_ok {a0 : List Nat} {a1 : Int} {r : Int × List Nat} (hr : laws_markFloat32S a0 a1 = some r) : CallOK Try.prog 59 [.own (.sl (.flt .f32)) a0, .imm (.int .i64) a1] [⟨false, (.int .i64), r.1⟩] [⟨(.sl (.flt .f32)), r.2⟩] := by
  unfold laws_markFloat32S at hr
  refine CallOK.of_body (ts := [(false, (.int .i64))]) Try.func59 rfl (by kernel_rfl) (Nat.le_of_ble_eq_true (by kernel_rfl)) fun cx hP hN hO hF => ?_
  have hO : cx.own.map Prod.fst = [0] := hO
  show HT cx ⟨[(0, .one (.all 0)), (1, .one (.dat (.int .i64) a1))], [(0, .seq (.flt .f32) a0)], 1⟩ _ _
  refine HT.reg1 [0, 1] [⟨none, .no⟩] ⟨[(0, .one (.all 0)), (1, .one (.dat (.int .i64) a1))], [(0, .seq (.flt .f32) a0)], 1⟩ hP hN (by kernel_rfl) allNil ?_
  refine HT.seq ?_
  refine HT.reg1 [0, 1, 5] [⟨none, .no⟩] ⟨[(0, .one (.all 0)), (1, .one (.dat (.int .i64) a1)), (5, .one (.dat (.int .i64) (0 : Int)))], [(0, .seq (.flt .f32) a0)], 1⟩ hP hN (by kernel_rfl) allNil ?_
  refine HT.block ?_
  obtain ⟨r2, hL10, hr⟩ := of_bind hr
  refine (Le.cv (s := ⟨[(0, 0)], [], [], false⟩) (own := [0]) (ps := [a1 = a1, (0 : Int) = (0 : Int), a0 = a0]) (st' := ⟨[(0, .one (.all 0)), (1, .one (.dat (.int .i64) a1)), (5, .one (.dat (.int .i64) (0 : Int)))], [(0, .seq (.flt .f32) a0)], 1⟩) hO (fun h => by cases h) (by kernel_rfl) ⟨rfl, rfl, rfl, trivial⟩).ht ?_
  refine HT.loopE (s := (a1, (0 : Int), a0)) (fun (s1 : Int × Int × List Nat) => ⟨[(0, .one (.all 0)), (1, .one (.dat (.int .i64) s1.1)), (5, .one (.dat (.int .i64) s1.2.1))], [(0, .seq (.flt .f32) s1.2.2)], 1⟩) (fun (r3 : (Int × List Nat)) => (.exit 0, ⟨[(1, .one (.dat (.int .i64) r3.1))], [(0, .seq (.flt .f32) r3.2)], 1⟩)) hL10 ?_ (fun s1 x5 hx6 hk7 => ?_)
  · refine (qBlockX (qThen ?_))
    refine HT.reg1 [4] [⟨none, .no⟩, ⟨none, .no⟩] ⟨[(4, .one (.dat (.int .i64) r2.1))], [(0, .seq (.flt .f32) r2.2)], 1⟩ hP hN (by kernel_rfl) allNil ?_
    obtain ⟨hg4, hr⟩ := of_guard hr
    have hr := of_some hr
    subst hr
    exact HT.ret ⟨[.one (.dat (.int .i64) r2.1)], [], [List.length r2.2 = List.length a0], by kernel_rfl, by kernel_rfl, rfl, (.inr rfl), by kernel_rfl, ⟨hg4, trivial⟩⟩
  · refine HT.seq ?_
    refine HT.reg1 [0, 1, 5, 9] [⟨none, .no⟩, ⟨none, .no⟩, ⟨none, .no⟩, ⟨none, .no⟩] ⟨[(0, .one (.all 0)), (1, .one (.dat (.int .i64) s1.1)), (5, .one (.dat (.int .i64) s1.2.1)), (9, .one (.dat .bool (decide (s1.2.1 < (lenI s1.2.2)))))], [(0, .seq (.flt .f32) s1.2.2)], 1⟩ hP hN (by kernel_rfl) allNil ?_
    rcases of_bif hx6 with ⟨hb8, hx6⟩ | ⟨hb8, hx6⟩
    · refine HT.cond1 rfl hb8 ?_
      refine HT.skip (qThen ?_)
      refine HT.seq ?_
      refine HT.block ?_
      obtain ⟨hg9, hx6⟩ := of_guard hx6
      refine HT.reg1 [0, 1, 5] [⟨none, .no⟩, ⟨none, .no⟩, ⟨none, .no⟩, ⟨none, .no⟩, ⟨none, .no⟩, ⟨none, .no⟩] ⟨[(0, .one (.all 0)), (1, .one (.dat (.int .i64) s1.1)), (5, .one (.dat (.int .i64) s1.2.1))], [(0, .seq (.flt .f32) (List.set s1.2.2 (Int.toNat s1.2.1) (fofint .f32 s1.1))), (0, .seq (.flt .f32) s1.2.2)], 1⟩ hP hN (by kernel_rfl) (allCons hg9 (allCons (natLt hg9) allNil)) ?_
      refine HT.reg (rs := [⟨none, .no⟩, ⟨none, .no⟩, ⟨none, .no⟩]) (st' := ⟨[(1, .one (.dat (.int .i64) (wadd .i64 s1.1 (1 : Int)))), (18, .one (.dat (.int .i64) (wadd .i64 s1.1 (1 : Int)))), (17, .one (.dat (.int .i64) s1.1)), (0, .one (.all 0)), (1, .one (.dat (.int .i64) s1.1)), (5, .one (.dat (.int .i64) s1.2.1))], [(0, .seq (.flt .f32) (List.set s1.2.2 (Int.toNat s1.2.1) (fofint .f32 s1.1))), (0, .seq (.flt .f32) s1.2.2)], 1⟩) hP hN (by kernel_rfl) allNil (qBlock (qThen ?_))
      have hx6 := of_some hx6
      subst hx6
      refine HT.reg (rs := [⟨none, .no⟩, ⟨none, .no⟩, ⟨none, .no⟩]) (st' := ⟨[(5, .one (.dat (.int .i64) (wadd .i64 s1.2.1 (1 : Int)))), (11, .one (.dat (.int .i64) (wadd .i64 s1.2.1 (1 : Int)))), (10, .one (.dat (.int .i64) s1.2.1)), (1, .one (.dat (.int .i64) (wadd .i64 s1.1 (1 : Int)))), (18, .one (.dat (.int .i64) (wadd .i64 s1.1 (1 : Int)))), (17, .one (.dat (.int .i64) s1.1)), (0, .one (.all 0)), (1, .one (.dat (.int .i64) s1.1)), (5, .one (.dat (.int .i64) s1.2.1))], [(0, .seq (.flt .f32) (List.set s1.2.2 (Int.toNat s1.2.1) (fofint .f32 s1.1))), (0, .seq (.flt .f32) s1.2.2)], 1⟩) hP hN (by kernel_rfl) allNil (qLoopN ⟨((wadd .i64 s1.1 (1 : Int)), (wadd .i64 s1.2.1 (1 : Int)), (List.set s1.2.2 (Int.toNat s1.2.1) (fofint .f32 s1.1))), rfl, Le.cv (s := ⟨[(0, 0)], [], [], false⟩) (own := [0]) (ps := [(wadd .i64 s1.1 (1 : Int)) = (wadd .i64 s1.1 (1 : Int)), (wadd .i64 s1.2.1 (1 : Int)) = (wadd .i64 s1.2.1 (1 : Int)), (List.set s1.2.2 (Int.toNat s1.2.1) (fofint .f32 s1.1)) = (List.set s1.2.2 (Int.toNat s1.2.1) (fofint .f32 s1.1))]) (st' := ⟨[(0, .one (.all 0)), (1, .one (.dat (.int .i64) (wadd .i64 s1.1 (1 : Int)))), (5, .one (.dat (.int .i64) (wadd .i64 s1.2.1 (1 : Int))))], [(0, .seq (.flt .f32) (List.set s1.2.2 (Int.toNat s1.2.1) (fofint .f32 s1.1)))], 1⟩) hO (fun h => by cases h) (by kernel_rfl) ⟨rfl, rfl, rfl, trivial⟩⟩)
    · refine HT.cond0 rfl hb8 ?_
      have hx6 := of_some hx6
      subst hx6
      refine (Le.cv (s := ⟨[(0, 0)], [], [], false⟩) (own := [0]) (ps := [s1.1 = s1.1, s1.2.2 = s1.2.2]) (st' := ⟨[(1, .one (.dat (.int .i64) s1.1))], [(0, .seq (.flt .f32) s1.2.2)], 1⟩) hO (fun h => by cases h) (by kernel_rfl) ⟨rfl, rfl, trivial⟩).ht ?_
      exact HT.exit (qThenE (qLoopE (hk7 (s1.1, s1.2.2) rfl)))

noncomputable def laws_markModel (a0 : Int × Int × List Nat × List Nat × List Nat) (a1 : Int) : Option (Int × (Int × Int × List Nat × List Nat × List Nat)) :=
  (laws_markFloat32S a0.2.2.1 a1).bind fun y1 =>
  (laws_markFloat32S a0.2.2.2.1 y1.1).bind fun y3 =>
  (laws_markFloat32S a0.2.2.2.2 y3.1).bind fun y5 =>
  guardP (List.length y1.2 = List.length a0.2.2.1) (
    guardP (List.length y3.2 = List.length a0.2.2.2.1) (
      guardP (List.length y5.2 = List.length a0.2.2.2.2) (
        some (y5.1, a0.1, a0.2.1, y1.2, y3.2, y5.2))))

theorem f23_ok {a0 : Int × Int × List Nat × List Nat × List Nat} {a1 : Int} {r : Int × (Int × Int × List Nat × List Nat × List Nat)} (hr : laws_markModel a0 a1 = some r) : CallOK Try.prog 23 [.own (.st (.pair (.int .i64) (.pair (.int .i64) (.pair (.sl (.flt .f32)) (.pair (.sl (.flt .f32)) (.sl (.flt .f32))))))) a0, .imm (.int .i64) a1] [⟨false, (.int .i64), r.1⟩] [⟨(.st (.pair (.int .i64) (.pair (.int .i64) (.pair (.sl (.flt .f32)) (.pair (.sl (.flt .f32)) (.sl (.flt .f32))))))), r.2⟩] := by
  unfold laws_markModel at hr
  refine CallOK.of_body (ts := [(false, (.int .i64))]) Try.func23 rfl (by kernel_rfl) (Nat.le_of_ble_eq_true (by kernel_rfl)) fun cx hP hN hO hF => ?_
  have hO : cx.own.map Prod.fst = [0, 1, 2] := hO
  show HT cx ⟨[(0, .agg [.dat (.int .i64) a0.1, .dat (.int .i64) a0.2.1, .all 0, .all 1, .all 2]), (1, .one (.dat (.int .i64) a1))], [(0, .seq (.flt .f32) a0.2.2.1), (1, .seq (.flt .f32) a0.2.2.2.1), (2, .seq (.flt .f32) a0.2.2.2.2)], 3⟩ _ _
  refine HT.reg1 [1, 2] [⟨none, .no⟩, ⟨none, .no⟩] ⟨[(1, .one (.dat (.int .i64) a1)), (2, .one (.ptr 3 0))], [(3, .box [.dat (.int .i64) a0.1, .dat (.int .i64) a0.2.1, .all 0, .all 1, .all 2]), (0, .seq (.flt .f32) a0.2.2.1), (1, .seq (.flt .f32) a0.2.2.2.1), (2, .seq (.flt .f32) a0.2.2.2.2)], 4⟩ hP hN (by kernel_rfl) allNil ?_
  obtain ⟨y1, hc2, hr⟩ := of_bind hr
  refine HT.reg1 [1, 2] [⟨none, .no⟩, ⟨none, .no⟩, ⟨none, .no⟩, ⟨none, .call [.own (.sl (.flt .f32)), .imm (.int .i64)] [⟨false, (.int .i64), y1.1⟩] [⟨(.sl (.flt .f32)), y1.2⟩]⟩, ⟨none, .no⟩] ⟨[(1, .one (.dat (.int .i64) y1.1)), (2, .one (.ptr 3 0))], [(0, .seq (.flt .f32) y1.2), (3, .box [.dat (.int .i64) a0.1, .dat (.int .i64) a0.2.1, .all 0, .all 1, .all 2]), (0, .seq (.flt .f32) a0.2.2.1), (1, .seq (.flt .f32) a0.2.2.2.1), (2, .seq (.flt .f32) a0.2.2.2.2)], 4⟩ hP hN (by kernel_rfl) (allCons (f59_ok hc2) allNil) ?_
  obtain ⟨y3, hc4, hr⟩ := of_bind hr
  refine HT.reg1 [1, 2] [⟨none, .no⟩, ⟨none, .no⟩, ⟨none, .no⟩, ⟨none, .call [.own (.sl (.flt .f32)), .imm (.int .i64)] [⟨false, (.int .i64), y3.1⟩] [⟨(.sl (.flt .f32)), y3.2⟩]⟩, ⟨none, .no⟩] ⟨[(1, .one (.dat (.int .i64) y3.1)), (2, .one (.ptr 3 0))], [(1, .seq (.flt .f32) y3.2), (0, .seq (.flt .f32) y1.2), (3, .box [.dat (.int .i64) a0.1, .dat (.int .i64) a0.2.1, .all 0, .all 1, .all 2]), (0, .seq (.flt .f32) a0.2.2.1), (1, .seq (.flt .f32) a0.2.2.2.1), (2, .seq (.flt .f32) a0.2.2.2.2)], 4⟩ hP hN (by kernel_rfl) (allCons (f59_ok hc4) allNil) ?_
  obtain ⟨y5, hc6, hr⟩ := of_bind hr
  refine HT.reg1 [1] [⟨none, .no⟩, ⟨none, .no⟩, ⟨none, .no⟩, ⟨none, .call [.own (.sl (.flt .f32)), .imm (.int .i64)] [⟨false, (.int .i64), y5.1⟩] [⟨(.sl (.flt .f32)), y5.2⟩]⟩, ⟨none, .no⟩] ⟨[(1, .one (.dat (.int .i64) y5.1))], [(2, .seq (.flt .f32) y5.2), (1, .seq (.flt .f32) y3.2), (0, .seq (.flt .f32) y1.2), (3, .box [.dat (.int .i64) a0.1, .dat (.int .i64) a0.2.1, .all 0, .all 1, .all 2]), (0, .seq (.flt .f32) a0.2.2.1), (1, .seq (.flt .f32) a0.2.2.2.1), (2, .seq (.flt .f32) a0.2.2.2.2)], 4⟩ hP hN (by kernel_rfl) (allCons (f59_ok hc6) allNil) ?_
  refine HT.reg1 [4] [⟨none, .no⟩, ⟨none, .no⟩] ⟨[(4, .one (.dat (.int .i64) y5.1))], [(2, .seq (.flt .f32) y5.2), (1, .seq (.flt .f32) y3.2), (0, .seq (.flt .f32) y1.2), (3, .box [.dat (.int .i64) a0.1, .dat (.int .i64) a0.2.1, .all 0, .all 1, .all 2]), (0, .seq (.flt .f32) a0.2.2.1), (1, .seq (.flt .f32) a0.2.2.2.1), (2, .seq (.flt .f32) a0.2.2.2.2)], 4⟩ hP hN (by kernel_rfl) allNil ?_
  obtain ⟨hg7, hr⟩ := of_guard hr
  obtain ⟨hg8, hr⟩ := of_guard hr
  obtain ⟨hg9, hr⟩ := of_guard hr
  have hr := of_some hr
  subst hr
  exact HT.ret ⟨[.one (.dat (.int .i64) y5.1)], [], [List.length y1.2 = List.length a0.2.2.1, List.length y3.2 = List.length a0.2.2.2.1, List.length y5.2 = List.length a0.2.2.2.2], by kernel_rfl, by kernel_rfl, rfl, (.inr rfl), by kernel_rfl, ⟨hg7, hg8, hg9, trivial⟩⟩

noncomputable def laws_markInt64S_B1  (s1 : Int × Int × List Int) : Option ((Int × Int × List Int) ⊕ ((Int × List Int))) :=
  bif (decide (s1.2.1 < (lenI s1.2.2))) then
    guardP ((0 : Int) ≤ s1.2.1 ∧ s1.2.1 < lenI s1.2.2) (
      some (.inl ((wadd .i64 s1.1 (1 : Int)), (wadd .i64 s1.2.1 (1 : Int)), (List.set s1.2.2 (Int.toNat s1.2.1) s1.1))))
  else
    some (.inr (s1.1, s1.2.2))

noncomputable def laws_markInt64S (a0 : List Int) (a1 : Int) : Option (Int × List Int) :=
  (rounds (laws_markInt64S_B1) (a1, (0 : Int), a0)).bind fun r3 =>
  guardP (List.length r3.2 = List.length a0) (
    some (r3.1, r3.2))

theorem f24_ok {a0 : List Int} {a1 : Int} {r : Int × List Int} (hr : laws_markInt64S a0 a1 = some r) : CallOK Try.prog 24 [.own (.sl (.int .i64)) a0, .imm (.int .i64) a1] [⟨false, (.int .i64), r.1⟩] [⟨(.sl (.int .i64)), r.2⟩] := by
  unfold laws_markInt64S at hr
  refine CallOK.of_body (ts := [(false, (.int .i64))]) Try.func24 rfl (by kernel_rfl) (Nat.le_of_ble_eq_true (by kernel_rfl)) fun cx hP hN hO hF => ?_
  have hO : cx.own.map Prod.fst = [0] := hO
  show HT cx ⟨[(0, .one (.all 0)), (1, .one (.dat (.int .i64) a1))], [(0, .seq (.int .i64) a0)], 1⟩ _ _
  refine HT.reg1 [0, 1] [⟨none, .no⟩] ⟨[(0, .one (.all 0)), (1, .one (.dat (.int .i64) a1))], [(0, .seq (.int .i64) a0)], 1⟩ hP hN (by kernel_rfl) allNil ?_
  refine HT.seq ?_
  refine HT.reg1 [0, 1, 5] [⟨none, .no⟩] ⟨[(0, .one (.all 0)), (1, .one (.dat (.int .i64) a1)), (5, .one (.dat (.int .i64) (0 : Int)))], [(0, .seq (.int .i64) a0)], 1⟩ hP hN (by kernel_rfl) allNil ?_
  refine HT.block ?_
  obtain ⟨r2, hL10, hr⟩ := of_bind hr
  refine (Le.cv (s := ⟨[(0, 0)], [], [], false⟩) (own := [0]) (ps := [a1 = a1, (0 : Int) = (0 : Int), a0 = a0]) (st' := ⟨[(0, .one (.all 0)), (1, .one (.dat (.int .i64) a1)), (5, .one (.dat (.int .i64) (0 : Int)))], [(0, .seq (.int .i64) a0)], 1⟩) hO (fun h => by cases h) (by kernel_rfl) ⟨rfl, rfl, rfl, trivial⟩).ht ?_
  refine HT.loopE (s := (a1, (0 : Int), a0)) (fun (s1 : Int × Int × List Int) => ⟨[(0, .one (.all 0)), (1, .one (.dat (.int .i64) s1.1)), (5, .one (.dat (.int .i64) s1.2.1))], [(0, .seq (.int .i64) s1.2.2)], 1⟩) (fun (r3 : (Int × List Int)) => (.exit 0, ⟨[(1, .one (.dat (.int .i64) r3.1))], [(0, .seq (.int .i64) r3.2)], 1⟩)) hL10 ?_ (fun s1 x5 hx6 hk7 => ?_)
  · refine (qBlockX (qThen ?_))
    refine HT.reg1 [4] [⟨none, .no⟩, ⟨none, .no⟩] ⟨[(4, .one (.dat (.int .i64) r2.1))], [(0, .seq (.int .i64) r2.2)], 1⟩ hP hN (by kernel_rfl) allNil ?_
    obtain ⟨hg4, hr⟩ := of_guard hr
    have hr := of_some hr
    subst hr
    exact HT.ret ⟨[.one (.dat (.int .i64) r2.1)], [], [List.length r2.2 = List.length a0], by kernel_rfl, by kernel_rfl, rfl, (.inr rfl), by kernel_rfl, ⟨hg4, trivial⟩⟩
  · refine HT.seq ?_
    refine HT.reg1 [0, 1, 5, 9] [⟨none, .no⟩, ⟨none, .no⟩, ⟨none, .no⟩, ⟨none, .no⟩] ⟨[(0, .one (.all 0)), (1, .one (.dat (.int .i64) s1.1)), (5, .one (.dat (.int .i64) s1.2.1)), (9, .one (.dat .bool (decide (s1.2.1 < (lenI s1.2.2)))))], [(0, .seq (.int .i64) s1.2.2)], 1⟩ hP hN (by kernel_rfl) allNil ?_
    rcases of_bif hx6 with ⟨hb8, hx6⟩ | ⟨hb8, hx6⟩
    · refine HT.cond1 rfl hb8 ?_
      refine HT.skip (qThen ?_)
      refine HT.seq ?_
      refine HT.block ?_
      obtain ⟨hg9, hx6⟩ := of_guard hx6
      refine HT.reg1 [0, 1, 5] [⟨none, .no⟩, ⟨none, .no⟩, ⟨none, .no⟩, ⟨none, .no⟩, ⟨none, .no⟩] ⟨[(0, .one (.all 0)), (1, .one (.dat (.int .i64) s1.1)), (5, .one (.dat (.int .i64) s1.2.1))], [(0, .seq (.int .i64) (List.set s1.2.2 (Int.toNat s1.2.1) s1.1)), (0, .seq (.int .i64) s1.2.2)], 1⟩ hP hN (by kernel_rfl) (allCons hg9 (allCons (natLt hg9) allNil)) ?_
      refine HT.reg (rs := [⟨none, .no⟩, ⟨none, .no⟩, ⟨none, .no⟩]) (st' := ⟨[(1, .one (.dat (.int .i64) (wadd .i64 s1.1 (1 : Int)))), (17, .one (.dat (.int .i64) (wadd .i64 s1.1 (1 : Int)))), (16, .one (.dat (.int .i64) s1.1)), (0, .one (.all 0)), (1, .one (.dat (.int .i64) s1.1)), (5, .one (.dat (.int .i64) s1.2.1))], [(0, .seq (.int .i64) (List.set s1.2.2 (Int.toNat s1.2.1) s1.1)), (0, .seq (.int .i64) s1.2.2)], 1⟩) hP hN (by kernel_rfl) allNil (qBlock (qThen ?_))
      have hx6 := of_some hx6
      subst hx6
      refine HT.reg (rs := [⟨none, .no⟩, ⟨none, .no⟩, ⟨none, .no⟩]) (st' := ⟨[(5, .one (.dat (.int .i64) (wadd .i64 s1.2.1 (1 : Int)))), (11, .one (.dat (.int .i64) (wadd .i64 s1.2.1 (1 : Int)))), (10, .one (.dat (.int .i64) s1.2.1)), (1, .one (.dat (.int .i64) (wadd .i64 s1.1 (1 : Int)))), (17, .one (.dat (.int .i64) (wadd .i64 s1.1 (1 : Int)))), (16, .one (.dat (.int .i64) s1.1)), (0, .one (.all 0)), (1, .one (.dat (.int .i64) s1.1)), (5, .one (.dat (.int .i64) s1.2.1))], [(0, .seq (.int .i64) (List.set s1.2.2 (Int.toNat s1.2.1) s1.1)), (0, .seq (.int .i64) s1.2.2)], 1⟩) hP hN (by kernel_rfl) allNil (qLoopN ⟨((wadd .i64 s1.1 (1 : Int)), (wadd .i64 s1.2.1 (1 : Int)), (List.set s1.2.2 (Int.toNat s1.2.1) s1.1)), rfl, Le.cv (s := ⟨[(0, 0)], [], [], false⟩) (own := [0]) (ps := [(wadd .i64 s1.1 (1 : Int)) = (wadd .i64 s1.1 (1 : Int)), (wadd .i64 s1.2.1 (1 : Int)) = (wadd .i64 s1.2.1 (1 : Int)), (List.set s1.2.2 (Int.toNat s1.2.1) s1.1) = (List.set s1.2.2 (Int.toNat s1.2.1) s1.1)]) (st' := ⟨[(0, .one (.all 0)), (1, .one (.dat (.int .i64) (wadd .i64 s1.1 (1 : Int)))), (5, .one (.dat (.int .i64) (wadd .i64 s1.2.1 (1 : Int))))], [(0, .seq (.int .i64) (List.set s1.2.2 (Int.toNat s1.2.1) s1.1))], 1⟩) hO (fun h => by cases h) (by kernel_rfl) ⟨rfl, rfl, rfl, trivial⟩⟩)
    · refine HT.cond0 rfl hb8 ?_
      have hx6 := of_some hx6
      subst hx6
      refine (Le.cv (s := ⟨[(0, 0)], [], [], false⟩) (own := [0]) (ps := [s1.1 = s1.1, s1.2.2 = s1.2.2]) (st' := ⟨[(1, .one (.dat (.int .i64) s1.1))], [(0, .seq (.int .i64) s1.2.2)], 1⟩) hO (fun h => by cases h) (by kernel_rfl) ⟨rfl, rfl, trivial⟩).ht ?_
      exact HT.exit (qThenE (qLoopE (hk7 (s1.1, s1.2.2) rfl)))

noncomputable def laws_heldInt64S_B1 (a0 : List Int) (s1 : Int × Int) : Option ((Int × Int) ⊕ (Int ⊕ Unit)) :=
  bif (decide (s1.2 < (lenI a0))) then
    guardP ((0 : Int) ≤ s1.2 ∧ s1.2 < lenI a0) (
      bif ((List.getD a0 (Int.toNat s1.2) (0 : Int)) != s1.1) then
        some (.inr (.inr ()))
      else
        some (.inl ((wadd .i64 s1.1 (1 : Int)), (wadd .i64 s1.2 (1 : Int)))))
  else
    some (.inr (.inl s1.1))

noncomputable def laws_heldInt64S (a0 : List Int) (a1 : Int) : Option (Int) :=
  (rounds (laws_heldInt64S_B1 a0) (a1, (0 : Int))).bind fun r2 => match r2 with
    | .inl r3 =>
      some r3
    | .inr r4 =>
      some (-1 : Int)

theorem f25_ok {a0 : List Int} {a1 : Int} {r : Int} (hr : laws_heldInt64S a0 a1 = some r) : CallOK Try.prog 25 [.imm (.sl (.int .i64)) a0, .imm (.int .i64) a1] [⟨false, (.int .i64), r⟩] [] := by
  unfold laws_heldInt64S at hr
  refine CallOK.of_body (ts := [(false, (.int .i64))]) Try.func25 rfl (by kernel_rfl) (Nat.le_of_ble_eq_true (by kernel_rfl)) fun cx hP hN hO hF => ?_
  have hO : cx.own.map Prod.fst = [] := hO
  have hF : cx.F = [] := hF rfl
  show HT cx ⟨[(0, .one (.dat (.sl (.int .i64)) a0)), (1, .one (.dat (.int .i64) a1))], [], 0⟩ _ _
  refine HT.reg1 [0, 1] [⟨none, .no⟩] ⟨[(0, .one (.dat (.sl (.int .i64)) a0)), (1, .one (.dat (.int .i64) a1))], [], 0⟩ hP hN (by kernel_rfl) allNil ?_
  refine HT.seq ?_
  refine HT.reg1 [0, 1, 5] [⟨none, .no⟩] ⟨[(0, .one (.dat (.sl (.int .i64)) a0)), (1, .one (.dat (.int .i64) a1)), (5, .one (.dat (.int .i64) (0 : Int)))], [], 0⟩ hP hN (by kernel_rfl) allNil ?_
  refine HT.block ?_
  obtain ⟨r2, hL11, hr⟩ := of_bind hr
  refine (Le.cv (s := ⟨[], [], [], false⟩) (own := []) (ps := [a0 = a0, a1 = a1, (0 : Int) = (0 : Int)]) (st' := ⟨[(0, .one (.dat (.sl (.int .i64)) a0)), (1, .one (.dat (.int .i64) a1)), (5, .one (.dat (.int .i64) (0 : Int)))], [], 0⟩) hO (fun h => by cases h) (by kernel_rfl) ⟨rfl, rfl, rfl, trivial⟩).ht ?_
  refine HT.loopE (s := (a1, (0 : Int))) (fun (s1 : Int × Int) => ⟨[(0, .one (.dat (.sl (.int .i64)) a0)), (1, .one (.dat (.int .i64) s1.1)), (5, .one (.dat (.int .i64) s1.2))], [], 0⟩) (fun (r2 : Int ⊕ Unit) => match r2 with | .inl r3 => (.exit 0, ⟨[(1, .one (.dat (.int .i64) r3))], [], 0⟩) | .inr r4 => (.ret, ⟨[(4, .one (.dat (.int .i64) (-1 : Int)))], [], 0⟩)) hL11 ?_ (fun s1 x5 hx6 hk7 => ?_)
  · rcases r2 with r3 | r4
    · refine (qBlockX (qThen ?_))
      refine HT.reg1 [4] [⟨none, .no⟩, ⟨none, .no⟩] ⟨[(4, .one (.dat (.int .i64) r3))], [], 0⟩ hP hN (by kernel_rfl) allNil ?_
      have hr := of_some hr
      subst hr
      exact HT.ret ⟨[.one (.dat (.int .i64) r3)], [], [], by kernel_rfl, by kernel_rfl, rfl, (.inl rfl), by kernel_rfl, trivial⟩
    · have hr := of_some hr
      subst hr
      exact (qBlockR (qThenR ⟨[.one (.dat (.int .i64) (-1 : Int))], [], [], by kernel_rfl, by kernel_rfl, rfl, (.inl rfl), by kernel_rfl, trivial⟩))
  · refine HT.seq ?_
    refine HT.reg1 [0, 1, 5, 9] [⟨none, .no⟩, ⟨none, .no⟩, ⟨none, .no⟩, ⟨none, .no⟩] ⟨[(0, .one (.dat (.sl (.int .i64)) a0)), (1, .one (.dat (.int .i64) s1.1)), (5, .one (.dat (.int .i64) s1.2)), (9, .one (.dat .bool (decide (s1.2 < (lenI a0)))))], [], 0⟩ hP hN (by kernel_rfl) allNil ?_
    rcases of_bif hx6 with ⟨hb8, hx6⟩ | ⟨hb8, hx6⟩
    · refine HT.cond1 rfl hb8 ?_
      refine HT.skip (qThen ?_)
      refine HT.seq ?_
      refine HT.block ?_
      refine HT.seq ?_
      obtain ⟨hg9, hx6⟩ := of_guard hx6
      refine HT.reg1 [0, 1, 5, 17] [⟨none, .no⟩, ⟨none, .no⟩, ⟨none, .no⟩, ⟨none, .no⟩, ⟨none, .no⟩, ⟨none, .no⟩] ⟨[(0, .one (.dat (.sl (.int .i64)) a0)), (1, .one (.dat (.int .i64) s1.1)), (5, .one (.dat (.int .i64) s1.2)), (17, .one (.dat .bool ((List.getD a0 (Int.toNat s1.2) (0 : Int)) != s1.1)))], [], 0⟩ hP hN (by kernel_rfl) (allCons hg9 allNil) ?_
      rcases of_bif hx6 with ⟨hb10, hx6⟩ | ⟨hb10, hx6⟩
      · refine HT.cond1 rfl hb10 ?_
        refine HT.reg1 [4] [⟨none, .no⟩] ⟨[(4, .one (.dat (.int .i64) (-1 : Int)))], [], 0⟩ hP hN (by kernel_rfl) allNil ?_
        have hx6 := of_some hx6
        subst hx6
        refine (Le.cv (s := ⟨[], [], [], false⟩) (own := []) (ps := [(-1 : Int) = (-1 : Int)]) (st' := ⟨[(4, .one (.dat (.int .i64) (-1 : Int)))], [], 0⟩) hO (fun h => by cases h) (by kernel_rfl) ⟨rfl, trivial⟩).ht ?_
        exact HT.ret (qThenR (qBlockR (qThenR (qLoopR (hk7 (.inr ()) rfl)))))
      · refine HT.cond0 rfl hb10 ?_
        refine HT.skip (qThen ?_)
        refine HT.reg (rs := [⟨none, .no⟩, ⟨none, .no⟩, ⟨none, .no⟩]) (st' := ⟨[(1, .one (.dat (.int .i64) (wadd .i64 s1.1 (1 : Int)))), (19, .one (.dat (.int .i64) (wadd .i64 s1.1 (1 : Int)))), (18, .one (.dat (.int .i64) s1.1)), (0, .one (.dat (.sl (.int .i64)) a0)), (1, .one (.dat (.int .i64) s1.1)), (5, .one (.dat (.int .i64) s1.2)), (17, .one (.dat .bool ((List.getD a0 (Int.toNat s1.2) (0 : Int)) != s1.1)))], [], 0⟩) hP hN (by kernel_rfl) allNil (qBlock (qThen ?_))
        have hx6 := of_some hx6
        subst hx6
        refine HT.reg (rs := [⟨none, .no⟩, ⟨none, .no⟩, ⟨none, .no⟩]) (st' := ⟨[(5, .one (.dat (.int .i64) (wadd .i64 s1.2 (1 : Int)))), (11, .one (.dat (.int .i64) (wadd .i64 s1.2 (1 : Int)))), (10, .one (.dat (.int .i64) s1.2)), (1, .one (.dat (.int .i64) (wadd .i64 s1.1 (1 : Int)))), (19, .one (.dat (.int .i64) (wadd .i64 s1.1 (1 : Int)))), (18, .one (.dat (.int .i64) s1.1)), (0, .one (.dat (.sl (.int .i64)) a0)), (1, .one (.dat (.int .i64) s1.1)), (5, .one (.dat (.int .i64) s1.2)), (17, .one (.dat .bool ((List.getD a0 (Int.toNat s1.2) (0 : Int)) != s1.1)))], [], 0⟩) hP hN (by kernel_rfl) allNil (qLoopN ⟨((wadd .i64 s1.1 (1 : Int)), (wadd .i64 s1.2 (1 : Int))), rfl, Le.cv (s := ⟨[], [], [], false⟩) (own := []) (ps := [a0 = a0, (wadd .i64 s1.1 (1 : Int)) = (wadd .i64 s1.1 (1 : Int)), (wadd .i64 s1.2 (1 : Int)) = (wadd .i64 s1.2 (1 : Int))]) (st' := ⟨[(0, .one (.dat (.sl (.int .i64)) a0)), (1, .one (.dat (.int .i64) (wadd .i64 s1.1 (1 : Int)))), (5, .one (.dat (.int .i64) (wadd .i64 s1.2 (1 : Int))))], [], 0⟩) hO (fun h => by cases h) (by kernel_rfl) ⟨rfl, rfl, rfl, trivial⟩⟩)
    · refine HT.cond0 rfl hb8 ?_
      have hx6 := of_some hx6
      subst hx6
      refine (Le.cv (s := ⟨[], [], [], false⟩) (own := []) (ps := [s1.1 = s1.1]) (st' := ⟨[(1, .one (.dat (.int .i64) s1.1))], [], 0⟩) hO (fun h => by cases h) (by kernel_rfl) ⟨rfl, trivial⟩).ht ?_
      exact HT.exit (qThenE (qLoopE (hk7 (.inl s1.1) rfl)))

noncomputable def laws_FnExactBestHidden (a0 : Int × Int × List Nat × List Nat × List Nat) (a1 : List Int) : Option (Bool) :=
  bif (decide ((lenI a1) > (1048576 : Int))) then
    some true
  else
    (laws_szModel (a0.1, a0.2.1, a0.2.2.1, a0.2.2.2.1, a0.2.2.2.2) (1048576 : Int)).bind fun y2 =>
    bif (decide (y2 < (0 : Int))) then
      some true
    else
      (laws_toModel (a0.1, a0.2.1, a0.2.2.1, a0.2.2.2.1, a0.2.2.2.2)).bind fun y5 =>
      (laws_toInt64S a1).bind fun y7 =>
      (spec_BestHidden (y5.1, y5.2.1, y5.2.2.1, y5.2.2.2.1, y5.2.2.2.2) y7).bind fun y9 =>
      (laws_toModel (a0.1, a0.2.1, a0.2.2.1, a0.2.2.2.1, a0.2.2.2.2)).bind fun y11 =>
      (laws_toInt64S a1).bind fun y13 =>
      (impl_BestHidden (y11.1, y11.2.1, y11.2.2.1, y11.2.2.2.1, y11.2.2.2.2) y13).bind fun y15 =>
      (show Option (Bool) from
        (laws_eqInt64S y15.1 y9.1).bind fun y72 =>
        bif (!y72) then
          some true
        else
          (laws_sameFloat (fconv .f32 .f64 y15.2.1) (fconv .f32 .f64 y9.2.1)).bind fun y75 =>
          bif (!y75) then
            some true
          else
            some (y15.2.2 != y9.2.2)).bind fun v17 =>
      bif v17 then
        some false
      else
        (laws_toModel (a0.1, a0.2.1, a0.2.2.1, a0.2.2.2.1, a0.2.2.2.2)).bind fun y21 =>
        (laws_eqModel (y11.1, y11.2.1, y11.2.2.1, y11.2.2.2.1, y11.2.2.2.2) (y21.1, y21.2.1, y21.2.2.1, y21.2.2.2.1, y21.2.2.2.2)).bind fun y23 =>
        bif (!y23) then
          some false
        else
          (laws_toInt64S a1).bind fun y26 =>
          (laws_eqInt64S y13 y26).bind fun y28 =>
          bif (!y28) then
            some false
          else
            (laws_markModel (y11.1, y11.2.1, y11.2.2.1, y11.2.2.2.1, y11.2.2.2.2) (1 : Int)).bind fun y31 =>
            (laws_markInt64S y13 y31.1).bind fun y33 =>
            (show Option (Bool) from
              bif (decide (y33.1 < (0 : Int))) then
                some true
              else
                (laws_eqInt64S y15.1 y9.1).bind fun y66 =>
                bif (!y66) then
                  some true
                else
                  (laws_sameFloat (fconv .f32 .f64 y15.2.1) (fconv .f32 .f64 y9.2.1)).bind fun y69 =>
                  bif (!y69) then
                    some true
                  else
                    some (y15.2.2 != y9.2.2)).bind fun v35 =>
            bif v35 then
              some false
            else
              (laws_markInt64S y15.1 (1 : Int)).bind fun y39 =>
              (laws_heldInt64S y39.2 (1 : Int)).bind fun y41 =>
              bif (decide (y41 < (0 : Int))) then
                some false
              else
                bif (y41 != y39.1) then
                  some false
                else
                  (laws_toModel (a0.1, a0.2.1, a0.2.2.1, a0.2.2.2.1, a0.2.2.2.2)).bind fun y45 =>
                  (laws_toInt64S a1).bind fun y47 =>
                  (impl_BestHidden (y45.1, y45.2.1, y45.2.2.1, y45.2.2.2.1, y45.2.2.2.2) y47).bind fun y49 =>
                  (show Option (Bool) from
                    (laws_eqInt64S y49.1 y9.1).bind fun y59 =>
                    bif (!y59) then
                      some true
                    else
                      (laws_sameFloat (fconv .f32 .f64 y49.2.1) (fconv .f32 .f64 y9.2.1)).bind fun y62 =>
                      bif (!y62) then
                        some true
                      else
                        some (y49.2.2 != y9.2.2)).bind fun v51 =>
                  bif v51 then
                    some false
                  else
                    (laws_heldInt64S y39.2 (1 : Int)).bind fun y55 =>
                    bif (decide (y55 < (0 : Int))) then
                      some false
                    else
                      bif (y55 != y39.1) then
                        some false
                      else
                        some true

theorem f3_ok {a0 : Int × Int × List Nat × List Nat × List Nat} {a1 : List Int} {r : Bool} (hr : laws_FnExactBestHidden a0 a1 = some r) : CallOK Try.prog 3 [.imm (.st (.pair (.int .i64) (.pair (.int .i64) (.pair (.sl (.flt .f32)) (.pair (.sl (.flt .f32)) (.sl (.flt .f32))))))) a0, .imm (.sl (.int .i64)) a1] [⟨false, .bool, r⟩] [] := by
  unfold laws_FnExactBestHidden at hr
  refine CallOK.of_body (ts := [(false, .bool)]) Try.func3 rfl (by kernel_rfl) (Nat.le_of_ble_eq_true (by kernel_rfl)) fun cx hP hN hO hF => ?_
  have hO : cx.own.map Prod.fst = [] := hO
  have hF : cx.F = [] := hF rfl
  show HT cx ⟨[(0, .agg [.dat (.int .i64) a0.1, .dat (.int .i64) a0.2.1, .dat (.sl (.flt .f32)) a0.2.2.1, .dat (.sl (.flt .f32)) a0.2.2.2.1, .dat (.sl (.flt .f32)) a0.2.2.2.2]), (1, .one (.dat (.sl (.int .i64)) a1))], [], 0⟩ _ _
  refine HT.reg1 [1, 2] [⟨none, .no⟩, ⟨none, .no⟩] ⟨[(1, .one (.dat (.sl (.int .i64)) a1)), (2, .one (.ptr 0 0))], [(0, .box [.dat (.int .i64) a0.1, .dat (.int .i64) a0.2.1, .dat (.sl (.flt .f32)) a0.2.2.1, .dat (.sl (.flt .f32)) a0.2.2.2.1, .dat (.sl (.flt .f32)) a0.2.2.2.2])], 1⟩ hP hN (by kernel_rfl) allNil ?_
  refine HT.seq ?_
  refine HT.reg1 [1, 2, 22] [⟨none, .no⟩, ⟨none, .no⟩, ⟨none, .no⟩] ⟨[(1, .one (.dat (.sl (.int .i64)) a1)), (2, .one (.ptr 0 0)), (22, .one (.dat .bool (decide ((lenI a1) > (1048576 : Int)))))], [(0, .box [.dat (.int .i64) a0.1, .dat (.int .i64) a0.2.1, .dat (.sl (.flt .f32)) a0.2.2.1, .dat (.sl (.flt .f32)) a0.2.2.2.1, .dat (.sl (.flt .f32)) a0.2.2.2.2])], 1⟩ hP hN (by kernel_rfl) allNil ?_
  rcases of_bif hr with ⟨hb1, hr⟩ | ⟨hb1, hr⟩
  · refine HT.cond1 rfl hb1 ?_
    refine HT.reg1 [4] [⟨none, .no⟩] ⟨[(4, .one (.dat .bool true))], [(0, .box [.dat (.int .i64) a0.1, .dat (.int .i64) a0.2.1, .dat (.sl (.flt .f32)) a0.2.2.1, .dat (.sl (.flt .f32)) a0.2.2.2.1, .dat (.sl (.flt .f32)) a0.2.2.2.2])], 1⟩ hP hN (by kernel_rfl) allNil ?_
    have hr := of_some hr
    subst hr
    exact HT.ret (qThenR ⟨[.one (.dat .bool true)], [], [], by kernel_rfl, by kernel_rfl, rfl, (.inl rfl), by kernel_rfl, trivial⟩)
  · refine HT.cond0 rfl hb1 ?_
    refine HT.skip (qThen ?_)
    refine HT.reg1 [1, 2, 5] [⟨none, .no⟩] ⟨[(1, .one (.dat (.sl (.int .i64)) a1)), (2, .one (.ptr 0 0)), (5, .one (.dat (.int .i64) (1048576 : Int)))], [(0, .box [.dat (.int .i64) a0.1, .dat (.int .i64) a0.2.1, .dat (.sl (.flt .f32)) a0.2.2.1, .dat (.sl (.flt .f32)) a0.2.2.2.1, .dat (.sl (.flt .f32)) a0.2.2.2.2])], 1⟩ hP hN (by kernel_rfl) allNil ?_
    obtain ⟨y2, hc3, hr⟩ := of_bind hr
    refine HT.reg1 [1, 2, 5] [⟨none, .no⟩, ⟨none, .no⟩, ⟨none, .call [.imm (.st (.pair (.int .i64) (.pair (.int .i64) (.pair (.sl (.flt .f32)) (.pair (.sl (.flt .f32)) (.sl (.flt .f32))))))), .imm (.int .i64)] [⟨false, (.int .i64), y2⟩] []⟩, ⟨none, .no⟩] ⟨[(1, .one (.dat (.sl (.int .i64)) a1)), (2, .one (.ptr 0 0)), (5, .one (.dat (.int .i64) y2))], [(0, .box [.dat (.int .i64) a0.1, .dat (.int .i64) a0.2.1, .dat (.sl (.flt .f32)) a0.2.2.1, .dat (.sl (.flt .f32)) a0.2.2.2.1, .dat (.sl (.flt .f32)) a0.2.2.2.2])], 1⟩ hP hN (by kernel_rfl) (allCons (f15_ok hc3) allNil) ?_
    refine HT.seq ?_
    refine HT.reg1 [1, 2, 27] [⟨none, .no⟩, ⟨none, .no⟩] ⟨[(1, .one (.dat (.sl (.int .i64)) a1)), (2, .one (.ptr 0 0)), (27, .one (.dat .bool (decide (y2 < (0 : Int)))))], [(0, .box [.dat (.int .i64) a0.1, .dat (.int .i64) a0.2.1, .dat (.sl (.flt .f32)) a0.2.2.1, .dat (.sl (.flt .f32)) a0.2.2.2.1, .dat (.sl (.flt .f32)) a0.2.2.2.2])], 1⟩ hP hN (by kernel_rfl) allNil ?_
    rcases of_bif hr with ⟨hb4, hr⟩ | ⟨hb4, hr⟩
    · refine HT.cond1 rfl hb4 ?_
      refine HT.reg1 [4] [⟨none, .no⟩] ⟨[(4, .one (.dat .bool true))], [(0, .box [.dat (.int .i64) a0.1, .dat (.int .i64) a0.2.1, .dat (.sl (.flt .f32)) a0.2.2.1, .dat (.sl (.flt .f32)) a0.2.2.2.1, .dat (.sl (.flt .f32)) a0.2.2.2.2])], 1⟩ hP hN (by kernel_rfl) allNil ?_
      have hr := of_some hr
      subst hr
      exact HT.ret (qThenR ⟨[.one (.dat .bool true)], [], [], by kernel_rfl, by kernel_rfl, rfl, (.inl rfl), by kernel_rfl, trivial⟩)
    · refine HT.cond0 rfl hb4 ?_
      refine HT.skip (qThen ?_)
      obtain ⟨y5, hc6, hr⟩ := of_bind hr
      obtain ⟨y7, hc8, hr⟩ := of_bind hr
      obtain ⟨y9, hc10, hr⟩ := of_bind hr
      refine HT.reg1 [1, 2, 6, 7, 8] [⟨none, .no⟩, ⟨none, .call [.imm (.st (.pair (.int .i64) (.pair (.int .i64) (.pair (.sl (.flt .f32)) (.pair (.sl (.flt .f32)) (.sl (.flt .f32)))))))] [⟨true, (.st (.pair (.int .i64) (.pair (.int .i64) (.pair (.sl (.flt .f32)) (.pair (.sl (.flt .f32)) (.sl (.flt .f32))))))), y5⟩] []⟩, ⟨none, .no⟩, ⟨none, .call [.imm (.sl (.int .i64))] [⟨true, (.sl (.int .i64)), y7⟩] []⟩, ⟨none, .call [.imm (.st (.pair (.int .i64) (.pair (.int .i64) (.pair (.sl (.flt .f32)) (.pair (.sl (.flt .f32)) (.sl (.flt .f32))))))), .imm (.sl (.int .i64))] [⟨true, (.sl (.int .i64)), y9.1⟩, ⟨false, (.flt .f32), y9.2.1⟩, ⟨false, .bool, y9.2.2⟩] []⟩, ⟨none, .no⟩, ⟨none, .no⟩, ⟨none, .no⟩, ⟨none, .no⟩, ⟨none, .no⟩, ⟨none, .no⟩, ⟨none, .no⟩] ⟨[(1, .one (.dat (.sl (.int .i64)) a1)), (2, .one (.ptr 0 0)), (6, .one (.all 5)), (7, .one (.dat (.flt .f32) y9.2.1)), (8, .one (.dat .bool y9.2.2))], [(5, .seq (.int .i64) y9.1), (4, .seq (.int .i64) y7), (1, .seq (.flt .f32) y5.2.2.1), (2, .seq (.flt .f32) y5.2.2.2.1), (3, .seq (.flt .f32) y5.2.2.2.2), (0, .box [.dat (.int .i64) a0.1, .dat (.int .i64) a0.2.1, .dat (.sl (.flt .f32)) a0.2.2.1, .dat (.sl (.flt .f32)) a0.2.2.2.1, .dat (.sl (.flt .f32)) a0.2.2.2.2])], 6⟩ hP hN (by kernel_rfl) (allCons (f17_ok hc6) (allCons (f18_ok hc8) (allCons (f16_ok hc10) allNil))) ?_
      obtain ⟨y11, hc12, hr⟩ := of_bind hr
      refine HT.reg1 [1, 2, 6, 7, 8, 9] [⟨none, .no⟩, ⟨none, .call [.imm (.st (.pair (.int .i64) (.pair (.int .i64) (.pair (.sl (.flt .f32)) (.pair (.sl (.flt .f32)) (.sl (.flt .f32)))))))] [⟨true, (.st (.pair (.int .i64) (.pair (.int .i64) (.pair (.sl (.flt .f32)) (.pair (.sl (.flt .f32)) (.sl (.flt .f32))))))), y11⟩] []⟩, ⟨none, .no⟩, ⟨none, .no⟩] ⟨[(1, .one (.dat (.sl (.int .i64)) a1)), (2, .one (.ptr 0 0)), (6, .one (.all 5)), (7, .one (.dat (.flt .f32) y9.2.1)), (8, .one (.dat .bool y9.2.2)), (9, .one (.ptr 9 0))], [(9, .box [.dat (.int .i64) y11.1, .dat (.int .i64) y11.2.1, .all 6, .all 7, .all 8]), (9, .box [.dat (.int .i64) (0 : Int), .dat (.int .i64) (0 : Int), .nilS, .nilS, .nilS]), (6, .seq (.flt .f32) y11.2.2.1), (7, .seq (.flt .f32) y11.2.2.2.1), (8, .seq (.flt .f32) y11.2.2.2.2), (5, .seq (.int .i64) y9.1), (4, .seq (.int .i64) y7), (1, .seq (.flt .f32) y5.2.2.1), (2, .seq (.flt .f32) y5.2.2.2.1), (3, .seq (.flt .f32) y5.2.2.2.2), (0, .box [.dat (.int .i64) a0.1, .dat (.int .i64) a0.2.1, .dat (.sl (.flt .f32)) a0.2.2.1, .dat (.sl (.flt .f32)) a0.2.2.2.1, .dat (.sl (.flt .f32)) a0.2.2.2.2])], 10⟩ hP hN (by kernel_rfl) (allCons (f17_ok hc12) allNil) ?_
      obtain ⟨y13, hc14, hr⟩ := of_bind hr
      refine HT.reg1 [1, 2, 6, 7, 8, 9, 10] [⟨none, .no⟩, ⟨none, .call [.imm (.sl (.int .i64))] [⟨true, (.sl (.int .i64)), y13⟩] []⟩, ⟨none, .no⟩] ⟨[(1, .one (.dat (.sl (.int .i64)) a1)), (2, .one (.ptr 0 0)), (6, .one (.all 5)), (7, .one (.dat (.flt .f32) y9.2.1)), (8, .one (.dat .bool y9.2.2)), (9, .one (.ptr 9 0)), (10, .one (.all 10))], [(10, .seq (.int .i64) y13), (9, .box [.dat (.int .i64) y11.1, .dat (.int .i64) y11.2.1, .all 6, .all 7, .all 8]), (9, .box [.dat (.int .i64) (0 : Int), .dat (.int .i64) (0 : Int), .nilS, .nilS, .nilS]), (6, .seq (.flt .f32) y11.2.2.1), (7, .seq (.flt .f32) y11.2.2.2.1), (8, .seq (.flt .f32) y11.2.2.2.2), (5, .seq (.int .i64) y9.1), (4, .seq (.int .i64) y7), (1, .seq (.flt .f32) y5.2.2.1), (2, .seq (.flt .f32) y5.2.2.2.1), (3, .seq (.flt .f32) y5.2.2.2.2), (0, .box [.dat (.int .i64) a0.1, .dat (.int .i64) a0.2.1, .dat (.sl (.flt .f32)) a0.2.2.1, .dat (.sl (.flt .f32)) a0.2.2.2.1, .dat (.sl (.flt .f32)) a0.2.2.2.2])], 11⟩ hP hN (by kernel_rfl) (allCons (f18_ok hc14) allNil) ?_
      obtain ⟨y15, hc16, hr⟩ := of_bind hr
      refine HT.reg1 [1, 2, 6, 7, 8, 9, 10, 11, 12, 13] [⟨none, .no⟩, ⟨none, .no⟩, ⟨none, .call [.imm (.st (.pair (.int .i64) (.pair (.int .i64) (.pair (.sl (.flt .f32)) (.pair (.sl (.flt .f32)) (.sl (.flt .f32))))))), .imm (.sl (.int .i64))] [⟨true, (.sl (.int .i64)), y15.1⟩, ⟨false, (.flt .f32), y15.2.1⟩, ⟨false, .bool, y15.2.2⟩] []⟩, ⟨none, .no⟩, ⟨none, .no⟩, ⟨none, .no⟩, ⟨none, .no⟩, ⟨none, .no⟩, ⟨none, .no⟩, ⟨none, .no⟩] ⟨[(1, .one (.dat (.sl (.int .i64)) a1)), (2, .one (.ptr 0 0)), (6, .one (.all 5)), (7, .one (.dat (.flt .f32) y9.2.1)), (8, .one (.dat .bool y9.2.2)), (9, .one (.ptr 9 0)), (10, .one (.all 10)), (11, .one (.all 11)), (12, .one (.dat (.flt .f32) y15.2.1)), (13, .one (.dat .bool y15.2.2))], [(11, .seq (.int .i64) y15.1), (10, .seq (.int .i64) y13), (9, .box [.dat (.int .i64) y11.1, .dat (.int .i64) y11.2.1, .all 6, .all 7, .all 8]), (9, .box [.dat (.int .i64) (0 : Int), .dat (.int .i64) (0 : Int), .nilS, .nilS, .nilS]), (6, .seq (.flt .f32) y11.2.2.1), (7, .seq (.flt .f32) y11.2.2.2.1), (8, .seq (.flt .f32) y11.2.2.2.2), (5, .seq (.int .i64) y9.1), (4, .seq (.int .i64) y7), (1, .seq (.flt .f32) y5.2.2.1), (2, .seq (.flt .f32) y5.2.2.2.1), (3, .seq (.flt .f32) y5.2.2.2.2), (0, .box [.dat (.int .i64) a0.1, .dat (.int .i64) a0.2.1, .dat (.sl (.flt .f32)) a0.2.2.1, .dat (.sl (.flt .f32)) a0.2.2.2.1, .dat (.sl (.flt .f32)) a0.2.2.2.2])], 12⟩ hP hN (by kernel_rfl) (allCons (f19_ok hc16) allNil) ?_
      refine HT.seq ?_
      obtain ⟨v17', hT19, hr⟩ := of_bind hr
      refine HT.join (fun (v17 : Bool) => ⟨[(1, .one (.dat (.sl (.int .i64)) a1)), (2, .one (.ptr 0 0)), (6, .one (.all 1)), (7, .one (.dat (.flt .f32) y9.2.1)), (8, .one (.dat .bool y9.2.2)), (9, .one (.ptr 2 0)), (10, .one (.all 3)), (11, .one (.all 4)), (12, .one (.dat (.flt .f32) y15.2.1)), (13, .one (.dat .bool y15.2.2)), (64, .one (.dat .bool v17))], [(0, .box [.dat (.int .i64) a0.1, .dat (.int .i64) a0.2.1, .dat (.sl (.flt .f32)) a0.2.2.1, .dat (.sl (.flt .f32)) a0.2.2.2.1, .dat (.sl (.flt .f32)) a0.2.2.2.2]), (1, .seq (.int .i64) y9.1), (2, .box [.dat (.int .i64) y11.1, .dat (.int .i64) y11.2.1, .all 5, .all 6, .all 7]), (3, .seq (.int .i64) y13), (4, .seq (.int .i64) y15.1), (5, .seq (.flt .f32) y11.2.2.1), (6, .seq (.flt .f32) y11.2.2.2.1), (7, .seq (.flt .f32) y11.2.2.2.2)], 8⟩) (fun v => v = v17') (fun v17 hv18 => ?_) (fun cont => ?_)
      · subst hv18
        rcases of_bif hr with ⟨hb20, hr⟩ | ⟨hb20, hr⟩
        · refine HT.cond1 rfl hb20 ?_
          refine HT.reg1 [4] [⟨none, .no⟩] ⟨[(4, .one (.dat .bool false))], [(0, .box [.dat (.int .i64) a0.1, .dat (.int .i64) a0.2.1, .dat (.sl (.flt .f32)) a0.2.2.1, .dat (.sl (.flt .f32)) a0.2.2.2.1, .dat (.sl (.flt .f32)) a0.2.2.2.2]), (1, .seq (.int .i64) y9.1), (2, .box [.dat (.int .i64) y11.1, .dat (.int .i64) y11.2.1, .all 5, .all 6, .all 7]), (3, .seq (.int .i64) y13), (4, .seq (.int .i64) y15.1), (5, .seq (.flt .f32) y11.2.2.1), (6, .seq (.flt .f32) y11.2.2.2.1), (7, .seq (.flt .f32) y11.2.2.2.2)], 8⟩ hP hN (by kernel_rfl) allNil ?_
          have hr := of_some hr
          subst hr
          exact HT.ret (qThenR ⟨[.one (.dat .bool false)], [], [], by kernel_rfl, by kernel_rfl, rfl, (.inl rfl), by kernel_rfl, trivial⟩)
        · refine HT.cond0 rfl hb20 ?_
          refine HT.skip (qThen ?_)
          refine HT.seq ?_
          obtain ⟨y21, hc22, hr⟩ := of_bind hr
          obtain ⟨y23, hc24, hr⟩ := of_bind hr
          refine HT.drw1 [1, 2, 6, 7, 8, 9, 10, 11, 12, 13, 69] 3 [⟨⟨none, .no⟩, []⟩, ⟨⟨none, .no⟩, []⟩, ⟨⟨none, .call [.imm (.st (.pair (.int .i64) (.pair (.int .i64) (.pair (.sl (.flt .f32)) (.pair (.sl (.flt .f32)) (.sl (.flt .f32)))))))] [⟨true, (.st (.pair (.int .i64) (.pair (.int .i64) (.pair (.sl (.flt .f32)) (.pair (.sl (.flt .f32)) (.sl (.flt .f32))))))), y21⟩] []⟩, [1]⟩] [[0, 1, 2], [0, 1, 2, 3]] [⟨none, .call [.imm (.st (.pair (.int .i64) (.pair (.int .i64) (.pair (.sl (.flt .f32)) (.pair (.sl (.flt .f32)) (.sl (.flt .f32))))))), .imm (.st (.pair (.int .i64) (.pair (.int .i64) (.pair (.sl (.flt .f32)) (.pair (.sl (.flt .f32)) (.sl (.flt .f32)))))))] [⟨false, .bool, y23⟩] []⟩, ⟨none, .no⟩] ⟨[(1, .one (.dat (.sl (.int .i64)) a1)), (2, .one (.ptr 0 0)), (6, .one (.all 1)), (7, .one (.dat (.flt .f32) y9.2.1)), (8, .one (.dat .bool y9.2.2)), (9, .one (.ptr 2 0)), (10, .one (.all 3)), (11, .one (.all 4)), (12, .one (.dat (.flt .f32) y15.2.1)), (13, .one (.dat .bool y15.2.2)), (69, .one (.dat .bool (!y23)))], [(8, .seq (.flt .f32) y21.2.2.1), (9, .seq (.flt .f32) y21.2.2.2.1), (10, .seq (.flt .f32) y21.2.2.2.2), (0, .box [.dat (.int .i64) a0.1, .dat (.int .i64) a0.2.1, .dat (.sl (.flt .f32)) a0.2.2.1, .dat (.sl (.flt .f32)) a0.2.2.2.1, .dat (.sl (.flt .f32)) a0.2.2.2.2]), (1, .seq (.int .i64) y9.1), (2, .box [.dat (.int .i64) y11.1, .dat (.int .i64) y11.2.1, .all 5, .all 6, .all 7]), (3, .seq (.int .i64) y13), (4, .seq (.int .i64) y15.1), (5, .seq (.flt .f32) y11.2.2.1), (6, .seq (.flt .f32) y11.2.2.2.1), (7, .seq (.flt .f32) y11.2.2.2.2)], 11⟩ hP hN (by kernel_rfl) (by kernel_rfl) (allCons (f17_ok hc22) (allCons (f22_ok hc24) allNil)) ?_
          rcases of_bif hr with ⟨hb25, hr⟩ | ⟨hb25, hr⟩
          · refine HT.cond1 rfl hb25 ?_
            refine HT.reg1 [4] [⟨none, .no⟩] ⟨[(4, .one (.dat .bool false))], [(8, .seq (.flt .f32) y21.2.2.1), (9, .seq (.flt .f32) y21.2.2.2.1), (10, .seq (.flt .f32) y21.2.2.2.2), (0, .box [.dat (.int .i64) a0.1, .dat (.int .i64) a0.2.1, .dat (.sl (.flt .f32)) a0.2.2.1, .dat (.sl (.flt .f32)) a0.2.2.2.1, .dat (.sl (.flt .f32)) a0.2.2.2.2]), (1, .seq (.int .i64) y9.1), (2, .box [.dat (.int .i64) y11.1, .dat (.int .i64) y11.2.1, .all 5, .all 6, .all 7]), (3, .seq (.int .i64) y13), (4, .seq (.int .i64) y15.1), (5, .seq (.flt .f32) y11.2.2.1), (6, .seq (.flt .f32) y11.2.2.2.1), (7, .seq (.flt .f32) y11.2.2.2.2)], 11⟩ hP hN (by kernel_rfl) allNil ?_
            have hr := of_some hr
            subst hr
            exact HT.ret (qThenR ⟨[.one (.dat .bool false)], [], [], by kernel_rfl, by kernel_rfl, rfl, (.inl rfl), by kernel_rfl, trivial⟩)
          · refine HT.cond0 rfl hb25 ?_
            refine HT.skip (qThen ?_)
            refine HT.seq ?_
            obtain ⟨y26, hc27, hr⟩ := of_bind hr
            obtain ⟨y28, hc29, hr⟩ := of_bind hr
            refine HT.reg1 [1, 2, 6, 7, 8, 9, 10, 11, 12, 13, 74] [⟨none, .no⟩, ⟨none, .no⟩, ⟨none, .call [.imm (.sl (.int .i64))] [⟨true, (.sl (.int .i64)), y26⟩] []⟩, ⟨none, .call [.imm (.sl (.int .i64)), .imm (.sl (.int .i64))] [⟨false, .bool, y28⟩] []⟩, ⟨none, .no⟩] ⟨[(1, .one (.dat (.sl (.int .i64)) a1)), (2, .one (.ptr 0 0)), (6, .one (.all 1)), (7, .one (.dat (.flt .f32) y9.2.1)), (8, .one (.dat .bool y9.2.2)), (9, .one (.ptr 2 0)), (10, .one (.all 3)), (11, .one (.all 4)), (12, .one (.dat (.flt .f32) y15.2.1)), (13, .one (.dat .bool y15.2.2)), (74, .one (.dat .bool (!y28)))], [(11, .seq (.int .i64) y26), (8, .seq (.flt .f32) y21.2.2.1), (9, .seq (.flt .f32) y21.2.2.2.1), (10, .seq (.flt .f32) y21.2.2.2.2), (0, .box [.dat (.int .i64) a0.1, .dat (.int .i64) a0.2.1, .dat (.sl (.flt .f32)) a0.2.2.1, .dat (.sl (.flt .f32)) a0.2.2.2.1, .dat (.sl (.flt .f32)) a0.2.2.2.2]), (1, .seq (.int .i64) y9.1), (2, .box [.dat (.int .i64) y11.1, .dat (.int .i64) y11.2.1, .all 5, .all 6, .all 7]), (3, .seq (.int .i64) y13), (4, .seq (.int .i64) y15.1), (5, .seq (.flt .f32) y11.2.2.1), (6, .seq (.flt .f32) y11.2.2.2.1), (7, .seq (.flt .f32) y11.2.2.2.2)], 12⟩ hP hN (by kernel_rfl) (allCons (f18_ok hc27) (allCons (f20_ok hc29) allNil)) ?_
            rcases of_bif hr with ⟨hb30, hr⟩ | ⟨hb30, hr⟩
            · refine HT.cond1 rfl hb30 ?_
              refine HT.reg1 [4] [⟨none, .no⟩] ⟨[(4, .one (.dat .bool false))], [(11, .seq (.int .i64) y26), (8, .seq (.flt .f32) y21.2.2.1), (9, .seq (.flt .f32) y21.2.2.2.1), (10, .seq (.flt .f32) y21.2.2.2.2), (0, .box [.dat (.int .i64) a0.1, .dat (.int .i64) a0.2.1, .dat (.sl (.flt .f32)) a0.2.2.1, .dat (.sl (.flt .f32)) a0.2.2.2.1, .dat (.sl (.flt .f32)) a0.2.2.2.2]), (1, .seq (.int .i64) y9.1), (2, .box [.dat (.int .i64) y11.1, .dat (.int .i64) y11.2.1, .all 5, .all 6, .all 7]), (3, .seq (.int .i64) y13), (4, .seq (.int .i64) y15.1), (5, .seq (.flt .f32) y11.2.2.1), (6, .seq (.flt .f32) y11.2.2.2.1), (7, .seq (.flt .f32) y11.2.2.2.2)], 12⟩ hP hN (by kernel_rfl) allNil ?_
              have hr := of_some hr
              subst hr
              exact HT.ret (qThenR ⟨[.one (.dat .bool false)], [], [], by kernel_rfl, by kernel_rfl, rfl, (.inl rfl), by kernel_rfl, trivial⟩)
            · refine HT.cond0 rfl hb30 ?_
              refine HT.skip (qThen ?_)
              refine HT.reg1 [1, 2, 6, 7, 8, 9, 10, 11, 12, 13, 14] [⟨none, .no⟩] ⟨[(1, .one (.dat (.sl (.int .i64)) a1)), (2, .one (.ptr 0 0)), (6, .one (.all 1)), (7, .one (.dat (.flt .f32) y9.2.1)), (8, .one (.dat .bool y9.2.2)), (9, .one (.ptr 2 0)), (10, .one (.all 3)), (11, .one (.all 4)), (12, .one (.dat (.flt .f32) y15.2.1)), (13, .one (.dat .bool y15.2.2)), (14, .one (.dat (.int .i64) (1 : Int)))], [(11, .seq (.int .i64) y26), (8, .seq (.flt .f32) y21.2.2.1), (9, .seq (.flt .f32) y21.2.2.2.1), (10, .seq (.flt .f32) y21.2.2.2.2), (0, .box [.dat (.int .i64) a0.1, .dat (.int .i64) a0.2.1, .dat (.sl (.flt .f32)) a0.2.2.1, .dat (.sl (.flt .f32)) a0.2.2.2.1, .dat (.sl (.flt .f32)) a0.2.2.2.2]), (1, .seq (.int .i64) y9.1), (2, .box [.dat (.int .i64) y11.1, .dat (.int .i64) y11.2.1, .all 5, .all 6, .all 7]), (3, .seq (.int .i64) y13), (4, .seq (.int .i64) y15.1), (5, .seq (.flt .f32) y11.2.2.1), (6, .seq (.flt .f32) y11.2.2.2.1), (7, .seq (.flt .f32) y11.2.2.2.2)], 12⟩ hP hN (by kernel_rfl) allNil ?_
              obtain ⟨y31, hc32, hr⟩ := of_bind hr
              refine HT.reg1 [1, 2, 6, 7, 8, 10, 11, 12, 13, 14] [⟨none, .no⟩, ⟨none, .no⟩, ⟨none, .call [.own (.st (.pair (.int .i64) (.pair (.int .i64) (.pair (.sl (.flt .f32)) (.pair (.sl (.flt .f32)) (.sl (.flt .f32))))))), .imm (.int .i64)] [⟨false, (.int .i64), y31.1⟩] [⟨(.st (.pair (.int .i64) (.pair (.int .i64) (.pair (.sl (.flt .f32)) (.pair (.sl (.flt .f32)) (.sl (.flt .f32))))))), y31.2⟩]⟩, ⟨none, .no⟩] ⟨[(1, .one (.dat (.sl (.int .i64)) a1)), (2, .one (.ptr 0 0)), (6, .one (.all 1)), (7, .one (.dat (.flt .f32) y9.2.1)), (8, .one (.dat .bool y9.2.2)), (10, .one (.all 3)), (11, .one (.all 4)), (12, .one (.dat (.flt .f32) y15.2.1)), (13, .one (.dat .bool y15.2.2)), (14, .one (.dat (.int .i64) y31.1))], [(5, .seq (.flt .f32) y31.2.2.2.1), (6, .seq (.flt .f32) y31.2.2.2.2.1), (7, .seq (.flt .f32) y31.2.2.2.2.2), (11, .seq (.int .i64) y26), (8, .seq (.flt .f32) y21.2.2.1), (9, .seq (.flt .f32) y21.2.2.2.1), (10, .seq (.flt .f32) y21.2.2.2.2), (0, .box [.dat (.int .i64) a0.1, .dat (.int .i64) a0.2.1, .dat (.sl (.flt .f32)) a0.2.2.1, .dat (.sl (.flt .f32)) a0.2.2.2.1, .dat (.sl (.flt .f32)) a0.2.2.2.2]), (1, .seq (.int .i64) y9.1), (2, .box [.dat (.int .i64) y11.1, .dat (.int .i64) y11.2.1, .all 5, .all 6, .all 7]), (3, .seq (.int .i64) y13), (4, .seq (.int .i64) y15.1), (5, .seq (.flt .f32) y11.2.2.1), (6, .seq (.flt .f32) y11.2.2.2.1), (7, .seq (.flt .f32) y11.2.2.2.2)], 12⟩ hP hN (by kernel_rfl) (allCons (f23_ok hc32) allNil) ?_
              obtain ⟨y33, hc34, hr⟩ := of_bind hr
              refine HT.reg1 [1, 2, 6, 7, 8, 11, 12, 13, 14] [⟨none, .no⟩, ⟨none, .no⟩, ⟨none, .call [.own (.sl (.int .i64)), .imm (.int .i64)] [⟨false, (.int .i64), y33.1⟩] [⟨(.sl (.int .i64)), y33.2⟩]⟩, ⟨none, .no⟩] ⟨[(1, .one (.dat (.sl (.int .i64)) a1)), (2, .one (.ptr 0 0)), (6, .one (.all 1)), (7, .one (.dat (.flt .f32) y9.2.1)), (8, .one (.dat .bool y9.2.2)), (11, .one (.all 4)), (12, .one (.dat (.flt .f32) y15.2.1)), (13, .one (.dat .bool y15.2.2)), (14, .one (.dat (.int .i64) y33.1))], [(3, .seq (.int .i64) y33.2), (5, .seq (.flt .f32) y31.2.2.2.1), (6, .seq (.flt .f32) y31.2.2.2.2.1), (7, .seq (.flt .f32) y31.2.2.2.2.2), (11, .seq (.int .i64) y26), (8, .seq (.flt .f32) y21.2.2.1), (9, .seq (.flt .f32) y21.2.2.2.1), (10, .seq (.flt .f32) y21.2.2.2.2), (0, .box [.dat (.int .i64) a0.1, .dat (.int .i64) a0.2.1, .dat (.sl (.flt .f32)) a0.2.2.1, .dat (.sl (.flt .f32)) a0.2.2.2.1, .dat (.sl (.flt .f32)) a0.2.2.2.2]), (1, .seq (.int .i64) y9.1), (2, .box [.dat (.int .i64) y11.1, .dat (.int .i64) y11.2.1, .all 5, .all 6, .all 7]), (3, .seq (.int .i64) y13), (4, .seq (.int .i64) y15.1), (5, .seq (.flt .f32) y11.2.2.1), (6, .seq (.flt .f32) y11.2.2.2.1), (7, .seq (.flt .f32) y11.2.2.2.2)], 12⟩ hP hN (by kernel_rfl) (allCons (f24_ok hc34) allNil) ?_
              refine HT.seq ?_
              obtain ⟨v35', hT37, hr⟩ := of_bind hr
              refine HT.join (fun (v35 : Bool) => ⟨[(1, .one (.dat (.sl (.int .i64)) a1)), (2, .one (.ptr 0 0)), (6, .one (.all 1)), (7, .one (.dat (.flt .f32) y9.2.1)), (8, .one (.dat .bool y9.2.2)), (11, .one (.all 2)), (101, .one (.dat .bool v35))], [(0, .box [.dat (.int .i64) a0.1, .dat (.int .i64) a0.2.1, .dat (.sl (.flt .f32)) a0.2.2.1, .dat (.sl (.flt .f32)) a0.2.2.2.1, .dat (.sl (.flt .f32)) a0.2.2.2.2]), (1, .seq (.int .i64) y9.1), (2, .seq (.int .i64) y15.1)], 3⟩) (fun v => v = v35') (fun v35 hv36 => ?_) (fun cont => ?_)
              · subst hv36
                rcases of_bif hr with ⟨hb38, hr⟩ | ⟨hb38, hr⟩
                · refine HT.cond1 rfl hb38 ?_
                  refine HT.reg1 [4] [⟨none, .no⟩] ⟨[(4, .one (.dat .bool false))], [(0, .box [.dat (.int .i64) a0.1, .dat (.int .i64) a0.2.1, .dat (.sl (.flt .f32)) a0.2.2.1, .dat (.sl (.flt .f32)) a0.2.2.2.1, .dat (.sl (.flt .f32)) a0.2.2.2.2]), (1, .seq (.int .i64) y9.1), (2, .seq (.int .i64) y15.1)], 3⟩ hP hN (by kernel_rfl) allNil ?_
                  have hr := of_some hr
                  subst hr
                  exact HT.ret (qThenR ⟨[.one (.dat .bool false)], [], [], by kernel_rfl, by kernel_rfl, rfl, (.inl rfl), by kernel_rfl, trivial⟩)
                · refine HT.cond0 rfl hb38 ?_
                  refine HT.skip (qThen ?_)
                  refine HT.reg1 [1, 2, 6, 7, 8, 11, 15] [⟨none, .no⟩] ⟨[(1, .one (.dat (.sl (.int .i64)) a1)), (2, .one (.ptr 0 0)), (6, .one (.all 1)), (7, .one (.dat (.flt .f32) y9.2.1)), (8, .one (.dat .bool y9.2.2)), (11, .one (.all 2)), (15, .one (.dat (.int .i64) (1 : Int)))], [(0, .box [.dat (.int .i64) a0.1, .dat (.int .i64) a0.2.1, .dat (.sl (.flt .f32)) a0.2.2.1, .dat (.sl (.flt .f32)) a0.2.2.2.1, .dat (.sl (.flt .f32)) a0.2.2.2.2]), (1, .seq (.int .i64) y9.1), (2, .seq (.int .i64) y15.1)], 3⟩ hP hN (by kernel_rfl) allNil ?_
                  obtain ⟨y39, hc40, hr⟩ := of_bind hr
                  refine HT.reg1 [1, 2, 6, 7, 8, 11, 15] [⟨none, .no⟩, ⟨none, .no⟩, ⟨none, .call [.own (.sl (.int .i64)), .imm (.int .i64)] [⟨false, (.int .i64), y39.1⟩] [⟨(.sl (.int .i64)), y39.2⟩]⟩, ⟨none, .no⟩] ⟨[(1, .one (.dat (.sl (.int .i64)) a1)), (2, .one (.ptr 0 0)), (6, .one (.all 1)), (7, .one (.dat (.flt .f32) y9.2.1)), (8, .one (.dat .bool y9.2.2)), (11, .one (.all 2)), (15, .one (.dat (.int .i64) y39.1))], [(2, .seq (.int .i64) y39.2), (0, .box [.dat (.int .i64) a0.1, .dat (.int .i64) a0.2.1, .dat (.sl (.flt .f32)) a0.2.2.1, .dat (.sl (.flt .f32)) a0.2.2.2.1, .dat (.sl (.flt .f32)) a0.2.2.2.2]), (1, .seq (.int .i64) y9.1), (2, .seq (.int .i64) y15.1)], 3⟩ hP hN (by kernel_rfl) (allCons (f24_ok hc40) allNil) ?_
                  refine HT.reg1 [1, 2, 6, 7, 8, 11, 15, 16] [⟨none, .no⟩] ⟨[(1, .one (.dat (.sl (.int .i64)) a1)), (2, .one (.ptr 0 0)), (6, .one (.all 1)), (7, .one (.dat (.flt .f32) y9.2.1)), (8, .one (.dat .bool y9.2.2)), (11, .one (.all 2)), (15, .one (.dat (.int .i64) y39.1)), (16, .one (.dat (.int .i64) (1 : Int)))], [(2, .seq (.int .i64) y39.2), (0, .box [.dat (.int .i64) a0.1, .dat (.int .i64) a0.2.1, .dat (.sl (.flt .f32)) a0.2.2.1, .dat (.sl (.flt .f32)) a0.2.2.2.1, .dat (.sl (.flt .f32)) a0.2.2.2.2]), (1, .seq (.int .i64) y9.1), (2, .seq (.int .i64) y15.1)], 3⟩ hP hN (by kernel_rfl) allNil ?_
                  obtain ⟨y41, hc42, hr⟩ := of_bind hr
                  refine HT.reg1 [1, 2, 6, 7, 8, 11, 15, 16] [⟨none, .no⟩, ⟨none, .no⟩, ⟨none, .call [.imm (.sl (.int .i64)), .imm (.int .i64)] [⟨false, (.int .i64), y41⟩] []⟩, ⟨none, .no⟩] ⟨[(1, .one (.dat (.sl (.int .i64)) a1)), (2, .one (.ptr 0 0)), (6, .one (.all 1)), (7, .one (.dat (.flt .f32) y9.2.1)), (8, .one (.dat .bool y9.2.2)), (11, .one (.all 2)), (15, .one (.dat (.int .i64) y39.1)), (16, .one (.dat (.int .i64) y41))], [(2, .seq (.int .i64) y39.2), (0, .box [.dat (.int .i64) a0.1, .dat (.int .i64) a0.2.1, .dat (.sl (.flt .f32)) a0.2.2.1, .dat (.sl (.flt .f32)) a0.2.2.2.1, .dat (.sl (.flt .f32)) a0.2.2.2.2]), (1, .seq (.int .i64) y9.1), (2, .seq (.int .i64) y15.1)], 3⟩ hP hN (by kernel_rfl) (allCons (f25_ok hc42) allNil) ?_
                  refine HT.seq ?_
                  refine HT.reg1 [1, 2, 6, 7, 8, 11, 15, 16, 109] [⟨none, .no⟩, ⟨none, .no⟩] ⟨[(1, .one (.dat (.sl (.int .i64)) a1)), (2, .one (.ptr 0 0)), (6, .one (.all 1)), (7, .one (.dat (.flt .f32) y9.2.1)), (8, .one (.dat .bool y9.2.2)), (11, .one (.all 2)), (15, .one (.dat (.int .i64) y39.1)), (16, .one (.dat (.int .i64) y41)), (109, .one (.dat .bool (decide (y41 < (0 : Int)))))], [(2, .seq (.int .i64) y39.2), (0, .box [.dat (.int .i64) a0.1, .dat (.int .i64) a0.2.1, .dat (.sl (.flt .f32)) a0.2.2.1, .dat (.sl (.flt .f32)) a0.2.2.2.1, .dat (.sl (.flt .f32)) a0.2.2.2.2]), (1, .seq (.int .i64) y9.1), (2, .seq (.int .i64) y15.1)], 3⟩ hP hN (by kernel_rfl) allNil ?_
                  rcases of_bif hr with ⟨hb43, hr⟩ | ⟨hb43, hr⟩
                  · refine HT.cond1 rfl hb43 ?_
                    refine HT.reg1 [4] [⟨none, .no⟩] ⟨[(4, .one (.dat .bool false))], [(2, .seq (.int .i64) y39.2), (0, .box [.dat (.int .i64) a0.1, .dat (.int .i64) a0.2.1, .dat (.sl (.flt .f32)) a0.2.2.1, .dat (.sl (.flt .f32)) a0.2.2.2.1, .dat (.sl (.flt .f32)) a0.2.2.2.2]), (1, .seq (.int .i64) y9.1), (2, .seq (.int .i64) y15.1)], 3⟩ hP hN (by kernel_rfl) allNil ?_
                    have hr := of_some hr
                    subst hr
                    exact HT.ret (qThenR ⟨[.one (.dat .bool false)], [], [], by kernel_rfl, by kernel_rfl, rfl, (.inl rfl), by kernel_rfl, trivial⟩)
                  · refine HT.cond0 rfl hb43 ?_
                    refine HT.skip (qThen ?_)
                    refine HT.seq ?_
                    refine HT.reg1 [1, 2, 6, 7, 8, 11, 15, 112] [⟨none, .no⟩, ⟨none, .no⟩, ⟨none, .no⟩] ⟨[(1, .one (.dat (.sl (.int .i64)) a1)), (2, .one (.ptr 0 0)), (6, .one (.all 1)), (7, .one (.dat (.flt .f32) y9.2.1)), (8, .one (.dat .bool y9.2.2)), (11, .one (.all 2)), (15, .one (.dat (.int .i64) y39.1)), (112, .one (.dat .bool (y41 != y39.1)))], [(2, .seq (.int .i64) y39.2), (0, .box [.dat (.int .i64) a0.1, .dat (.int .i64) a0.2.1, .dat (.sl (.flt .f32)) a0.2.2.1, .dat (.sl (.flt .f32)) a0.2.2.2.1, .dat (.sl (.flt .f32)) a0.2.2.2.2]), (1, .seq (.int .i64) y9.1), (2, .seq (.int .i64) y15.1)], 3⟩ hP hN (by kernel_rfl) allNil ?_
                    rcases of_bif hr with ⟨hb44, hr⟩ | ⟨hb44, hr⟩
                    · refine HT.cond1 rfl hb44 ?_
                      refine HT.reg1 [4] [⟨none, .no⟩] ⟨[(4, .one (.dat .bool false))], [(2, .seq (.int .i64) y39.2), (0, .box [.dat (.int .i64) a0.1, .dat (.int .i64) a0.2.1, .dat (.sl (.flt .f32)) a0.2.2.1, .dat (.sl (.flt .f32)) a0.2.2.2.1, .dat (.sl (.flt .f32)) a0.2.2.2.2]), (1, .seq (.int .i64) y9.1), (2, .seq (.int .i64) y15.1)], 3⟩ hP hN (by kernel_rfl) allNil ?_
                      have hr := of_some hr
                      subst hr
                      exact HT.ret (qThenR ⟨[.one (.dat .bool false)], [], [], by kernel_rfl, by kernel_rfl, rfl, (.inl rfl), by kernel_rfl, trivial⟩)
                    · refine HT.cond0 rfl hb44 ?_
                      refine HT.skip (qThen ?_)
                      obtain ⟨y45, hc46, hr⟩ := of_bind hr
                      obtain ⟨y47, hc48, hr⟩ := of_bind hr
                      obtain ⟨y49, hc50, hr⟩ := of_bind hr
                      refine HT.reg1 [6, 7, 8, 11, 15, 17, 18, 19] [⟨none, .no⟩, ⟨none, .call [.imm (.st (.pair (.int .i64) (.pair (.int .i64) (.pair (.sl (.flt .f32)) (.pair (.sl (.flt .f32)) (.sl (.flt .f32)))))))] [⟨true, (.st (.pair (.int .i64) (.pair (.int .i64) (.pair (.sl (.flt .f32)) (.pair (.sl (.flt .f32)) (.sl (.flt .f32))))))), y45⟩] []⟩, ⟨none, .no⟩, ⟨none, .call [.imm (.sl (.int .i64))] [⟨true, (.sl (.int .i64)), y47⟩] []⟩, ⟨none, .call [.imm (.st (.pair (.int .i64) (.pair (.int .i64) (.pair (.sl (.flt .f32)) (.pair (.sl (.flt .f32)) (.sl (.flt .f32))))))), .imm (.sl (.int .i64))] [⟨true, (.sl (.int .i64)), y49.1⟩, ⟨false, (.flt .f32), y49.2.1⟩, ⟨false, .bool, y49.2.2⟩] []⟩, ⟨none, .no⟩, ⟨none, .no⟩, ⟨none, .no⟩, ⟨none, .no⟩, ⟨none, .no⟩, ⟨none, .no⟩, ⟨none, .no⟩] ⟨[(6, .one (.all 1)), (7, .one (.dat (.flt .f32) y9.2.1)), (8, .one (.dat .bool y9.2.2)), (11, .one (.all 2)), (15, .one (.dat (.int .i64) y39.1)), (17, .one (.all 7)), (18, .one (.dat (.flt .f32) y49.2.1)), (19, .one (.dat .bool y49.2.2))], [(7, .seq (.int .i64) y49.1), (6, .seq (.int .i64) y47), (3, .seq (.flt .f32) y45.2.2.1), (4, .seq (.flt .f32) y45.2.2.2.1), (5, .seq (.flt .f32) y45.2.2.2.2), (2, .seq (.int .i64) y39.2), (0, .box [.dat (.int .i64) a0.1, .dat (.int .i64) a0.2.1, .dat (.sl (.flt .f32)) a0.2.2.1, .dat (.sl (.flt .f32)) a0.2.2.2.1, .dat (.sl (.flt .f32)) a0.2.2.2.2]), (1, .seq (.int .i64) y9.1), (2, .seq (.int .i64) y15.1)], 8⟩ hP hN (by kernel_rfl) (allCons (f17_ok hc46) (allCons (f18_ok hc48) (allCons (f19_ok hc50) allNil))) ?_
                      refine HT.seq ?_
                      obtain ⟨v51', hT53, hr⟩ := of_bind hr
                      refine HT.join (fun (v51 : Bool) => ⟨[(11, .one (.all 0)), (15, .one (.dat (.int .i64) y39.1)), (138, .one (.dat .bool v51))], [(0, .seq (.int .i64) y39.2)], 1⟩) (fun v => v = v51') (fun v51 hv52 => ?_) (fun cont => ?_)
                      · subst hv52
                        rcases of_bif hr with ⟨hb54, hr⟩ | ⟨hb54, hr⟩
                        · refine HT.cond1 rfl hb54 ?_
                          refine HT.reg1 [4] [⟨none, .no⟩] ⟨[(4, .one (.dat .bool false))], [(0, .seq (.int .i64) y39.2)], 1⟩ hP hN (by kernel_rfl) allNil ?_
                          have hr := of_some hr
                          subst hr
                          exact HT.ret (qThenR ⟨[.one (.dat .bool false)], [], [], by kernel_rfl, by kernel_rfl, rfl, (.inl rfl), by kernel_rfl, trivial⟩)
                        · refine HT.cond0 rfl hb54 ?_
                          refine HT.skip (qThen ?_)
                          refine HT.reg1 [11, 15, 16] [⟨none, .no⟩] ⟨[(11, .one (.all 0)), (15, .one (.dat (.int .i64) y39.1)), (16, .one (.dat (.int .i64) (1 : Int)))], [(0, .seq (.int .i64) y39.2)], 1⟩ hP hN (by kernel_rfl) allNil ?_
                          obtain ⟨y55, hc56, hr⟩ := of_bind hr
                          refine HT.reg1 [15, 16] [⟨none, .no⟩, ⟨none, .no⟩, ⟨none, .call [.imm (.sl (.int .i64)), .imm (.int .i64)] [⟨false, (.int .i64), y55⟩] []⟩, ⟨none, .no⟩] ⟨[(15, .one (.dat (.int .i64) y39.1)), (16, .one (.dat (.int .i64) y55))], [(0, .seq (.int .i64) y39.2)], 1⟩ hP hN (by kernel_rfl) (allCons (f25_ok hc56) allNil) ?_
                          refine HT.seq ?_
                          refine HT.reg1 [15, 16, 143] [⟨none, .no⟩, ⟨none, .no⟩] ⟨[(15, .one (.dat (.int .i64) y39.1)), (16, .one (.dat (.int .i64) y55)), (143, .one (.dat .bool (decide (y55 < (0 : Int)))))], [(0, .seq (.int .i64) y39.2)], 1⟩ hP hN (by kernel_rfl) allNil ?_
                          rcases of_bif hr with ⟨hb57, hr⟩ | ⟨hb57, hr⟩
                          · refine HT.cond1 rfl hb57 ?_
                            refine HT.reg1 [4] [⟨none, .no⟩] ⟨[(4, .one (.dat .bool false))], [(0, .seq (.int .i64) y39.2)], 1⟩ hP hN (by kernel_rfl) allNil ?_
                            have hr := of_some hr
                            subst hr
                            exact HT.ret (qThenR ⟨[.one (.dat .bool false)], [], [], by kernel_rfl, by kernel_rfl, rfl, (.inl rfl), by kernel_rfl, trivial⟩)
                          · refine HT.cond0 rfl hb57 ?_
                            refine HT.skip (qThen ?_)
                            refine HT.seq ?_
                            refine HT.reg1 [146] [⟨none, .no⟩, ⟨none, .no⟩, ⟨none, .no⟩] ⟨[(146, .one (.dat .bool (y55 != y39.1)))], [(0, .seq (.int .i64) y39.2)], 1⟩ hP hN (by kernel_rfl) allNil ?_
                            rcases of_bif hr with ⟨hb58, hr⟩ | ⟨hb58, hr⟩
                            · refine HT.cond1 rfl hb58 ?_
                              refine HT.reg1 [4] [⟨none, .no⟩] ⟨[(4, .one (.dat .bool false))], [(0, .seq (.int .i64) y39.2)], 1⟩ hP hN (by kernel_rfl) allNil ?_
                              have hr := of_some hr
                              subst hr
                              exact HT.ret (qThenR ⟨[.one (.dat .bool false)], [], [], by kernel_rfl, by kernel_rfl, rfl, (.inl rfl), by kernel_rfl, trivial⟩)
                            · refine HT.cond0 rfl hb58 ?_
                              refine HT.skip (qThen ?_)
                              refine HT.reg1 [4] [⟨none, .no⟩] ⟨[(4, .one (.dat .bool true))], [(0, .seq (.int .i64) y39.2)], 1⟩ hP hN (by kernel_rfl) allNil ?_
                              have hr := of_some hr
                              subst hr
                              exact HT.ret ⟨[.one (.dat .bool true)], [], [], by kernel_rfl, by kernel_rfl, rfl, (.inl rfl), by kernel_rfl, trivial⟩
                      · obtain ⟨y59, hc60, hT53⟩ := of_bind hT53
                        rcases of_bif hT53 with ⟨hb61, hT53⟩ | ⟨hb61, hT53⟩
                        · refine HT.reg (rs := [⟨none, .no⟩, ⟨none, .no⟩, ⟨none, .call [.imm (.sl (.int .i64)), .imm (.sl (.int .i64))] [⟨false, .bool, y59⟩] []⟩, ⟨none, .no⟩, ⟨none, .no⟩, ⟨some true, .no⟩, ⟨some true, .no⟩, ⟨some true, .no⟩, ⟨some true, .no⟩, ⟨some true, .no⟩, ⟨some true, .no⟩, ⟨none, .tv true⟩, ⟨none, .no⟩, ⟨some true, .no⟩, ⟨some true, .no⟩, ⟨some true, .no⟩, ⟨none, .tv true⟩]) (st' := ⟨[(138, .one (.dat .bool true)), (137, .und), (136, .und), (135, .und), (134, .one (.dat .bool true)), (133, .one (.dat .bool true)), (132, .und), (131, .und), (130, .und), (129, .und), (128, .und), (127, .und), (126, .one (.dat .bool (!y59))), (125, .one (.dat .bool (!y59))), (124, .one (.dat .bool y59)), (123, .one (.all 1)), (122, .one (.all 7)), (6, .one (.all 1)), (7, .one (.dat (.flt .f32) y9.2.1)), (8, .one (.dat .bool y9.2.2)), (11, .one (.all 2)), (15, .one (.dat (.int .i64) y39.1)), (17, .one (.all 7)), (18, .one (.dat (.flt .f32) y49.2.1)), (19, .one (.dat .bool y49.2.2))], [(7, .seq (.int .i64) y49.1), (6, .seq (.int .i64) y47), (3, .seq (.flt .f32) y45.2.2.1), (4, .seq (.flt .f32) y45.2.2.2.1), (5, .seq (.flt .f32) y45.2.2.2.2), (2, .seq (.int .i64) y39.2), (0, .box [.dat (.int .i64) a0.1, .dat (.int .i64) a0.2.1, .dat (.sl (.flt .f32)) a0.2.2.1, .dat (.sl (.flt .f32)) a0.2.2.2.1, .dat (.sl (.flt .f32)) a0.2.2.2.2]), (1, .seq (.int .i64) y9.1), (2, .seq (.int .i64) y15.1)], 8⟩) hP hN (by kernel_rfl) (allCons (f20_ok hc60) (allCons hb61 (allCons hb61 (allCons hb61 (allCons hb61 (allCons hb61 (allCons hb61 (allCons hb61 (allCons (rfl : true = true) (allCons (rfl : true = true) (allCons (rfl : true = true) (allCons (rfl : true = true) allNil)))))))))))) (qThen ?_)
                          exact (Le.cv (s := ⟨[(2, 0)], [], [], false⟩) (own := []) (ps := [y39.1 = y39.1, true = true, y39.2 = y39.2]) (st' := ⟨[(11, .one (.all 0)), (15, .one (.dat (.int .i64) y39.1)), (138, .one (.dat .bool true))], [(0, .seq (.int .i64) y39.2)], 1⟩) hO (fun h => by cases h) (by kernel_rfl) ⟨rfl, rfl, rfl, trivial⟩).ht (cont true (of_some hT53))
                        · obtain ⟨y62, hc63, hT53⟩ := of_bind hT53
                          rcases of_bif hT53 with ⟨hb64, hT53⟩ | ⟨hb64, hT53⟩
                          · refine HT.reg (rs := [⟨none, .no⟩, ⟨none, .no⟩, ⟨none, .call [.imm (.sl (.int .i64)), .imm (.sl (.int .i64))] [⟨false, .bool, y59⟩] []⟩, ⟨none, .no⟩, ⟨none, .no⟩, ⟨some false, .no⟩, ⟨some false, .no⟩, ⟨some false, .no⟩, ⟨some false, .no⟩, ⟨some false, .call [.imm (.flt .f64), .imm (.flt .f64)] [⟨false, .bool, y62⟩] []⟩, ⟨some false, .no⟩, ⟨none, .tv false⟩, ⟨none, .no⟩, ⟨some true, .no⟩, ⟨some true, .no⟩, ⟨some true, .no⟩, ⟨none, .tv true⟩]) (st' := ⟨[(138, .one (.dat .bool true)), (137, .und), (136, .und), (135, .und), (134, .one (.dat .bool (!y62))), (133, .one (.dat .bool (!y62))), (132, .one (.dat .bool (!y62))), (131, .one (.dat .bool y62)), (130, .one (.dat (.flt .f64) (fconv .f32 .f64 y9.2.1))), (129, .one (.dat (.flt .f32) y9.2.1)), (128, .one (.dat (.flt .f64) (fconv .f32 .f64 y49.2.1))), (127, .one (.dat (.flt .f32) y49.2.1)), (126, .one (.dat .bool (!y59))), (125, .one (.dat .bool (!y59))), (124, .one (.dat .bool y59)), (123, .one (.all 1)), (122, .one (.all 7)), (6, .one (.all 1)), (7, .one (.dat (.flt .f32) y9.2.1)), (8, .one (.dat .bool y9.2.2)), (11, .one (.all 2)), (15, .one (.dat (.int .i64) y39.1)), (17, .one (.all 7)), (18, .one (.dat (.flt .f32) y49.2.1)), (19, .one (.dat .bool y49.2.2))], [(7, .seq (.int .i64) y49.1), (6, .seq (.int .i64) y47), (3, .seq (.flt .f32) y45.2.2.1), (4, .seq (.flt .f32) y45.2.2.2.1), (5, .seq (.flt .f32) y45.2.2.2.2), (2, .seq (.int .i64) y39.2), (0, .box [.dat (.int .i64) a0.1, .dat (.int .i64) a0.2.1, .dat (.sl (.flt .f32)) a0.2.2.1, .dat (.sl (.flt .f32)) a0.2.2.2.1, .dat (.sl (.flt .f32)) a0.2.2.2.2]), (1, .seq (.int .i64) y9.1), (2, .seq (.int .i64) y15.1)], 8⟩) hP hN (by kernel_rfl) (allCons (f20_ok hc60) (allCons hb61 (allCons hb61 (allCons (show fconvOK .f32 .f64 y49.2.1 = true from (fconv_up _)) (allCons hb61 (allCons hb61 (allCons (show fconvOK .f32 .f64 y9.2.1 = true from (fconv_up _)) (allCons hb61 (allCons (f21_ok hc63) (allCons hb61 (allCons hb61 (allCons hb64 (allCons hb64 (allCons hb64 (allCons hb64 allNil))))))))))))))) (qThen ?_)
                            exact (Le.cv (s := ⟨[(2, 0)], [], [], false⟩) (own := []) (ps := [y39.1 = y39.1, true = true, y39.2 = y39.2]) (st' := ⟨[(11, .one (.all 0)), (15, .one (.dat (.int .i64) y39.1)), (138, .one (.dat .bool true))], [(0, .seq (.int .i64) y39.2)], 1⟩) hO (fun h => by cases h) (by kernel_rfl) ⟨rfl, rfl, rfl, trivial⟩).ht (cont true (of_some hT53))
                          · refine HT.reg (rs := [⟨none, .no⟩, ⟨none, .no⟩, ⟨none, .call [.imm (.sl (.int .i64)), .imm (.sl (.int .i64))] [⟨false, .bool, y59⟩] []⟩, ⟨none, .no⟩, ⟨none, .no⟩, ⟨some false, .no⟩, ⟨some false, .no⟩, ⟨some false, .no⟩, ⟨some false, .no⟩, ⟨some false, .call [.imm (.flt .f64), .imm (.flt .f64)] [⟨false, .bool, y62⟩] []⟩, ⟨some false, .no⟩, ⟨none, .tv false⟩, ⟨none, .no⟩, ⟨some false, .no⟩, ⟨some false, .no⟩, ⟨some false, .no⟩, ⟨none, .tv false⟩]) (st' := ⟨[(138, .one (.dat .bool (y49.2.2 != y9.2.2))), (137, .one (.dat .bool (y49.2.2 != y9.2.2))), (136, .one (.dat .bool y9.2.2)), (135, .one (.dat .bool y49.2.2)), (134, .one (.dat .bool (!y62))), (133, .one (.dat .bool (!y62))), (132, .one (.dat .bool (!y62))), (131, .one (.dat .bool y62)), (130, .one (.dat (.flt .f64) (fconv .f32 .f64 y9.2.1))), (129, .one (.dat (.flt .f32) y9.2.1)), (128, .one (.dat (.flt .f64) (fconv .f32 .f64 y49.2.1))), (127, .one (.dat (.flt .f32) y49.2.1)), (126, .one (.dat .bool (!y59))), (125, .one (.dat .bool (!y59))), (124, .one (.dat .bool y59)), (123, .one (.all 1)), (122, .one (.all 7)), (6, .one (.all 1)), (7, .one (.dat (.flt .f32) y9.2.1)), (8, .one (.dat .bool y9.2.2)), (11, .one (.all 2)), (15, .one (.dat (.int .i64) y39.1)), (17, .one (.all 7)), (18, .one (.dat (.flt .f32) y49.2.1)), (19, .one (.dat .bool y49.2.2))], [(7, .seq (.int .i64) y49.1), (6, .seq (.int .i64) y47), (3, .seq (.flt .f32) y45.2.2.1), (4, .seq (.flt .f32) y45.2.2.2.1), (5, .seq (.flt .f32) y45.2.2.2.2), (2, .seq (.int .i64) y39.2), (0, .box [.dat (.int .i64) a0.1, .dat (.int .i64) a0.2.1, .dat (.sl (.flt .f32)) a0.2.2.1, .dat (.sl (.flt .f32)) a0.2.2.2.1, .dat (.sl (.flt .f32)) a0.2.2.2.2]), (1, .seq (.int .i64) y9.1), (2, .seq (.int .i64) y15.1)], 8⟩) hP hN (by kernel_rfl) (allCons (f20_ok hc60) (allCons hb61 (allCons hb61 (allCons (show fconvOK .f32 .f64 y49.2.1 = true from (fconv_up _)) (allCons hb61 (allCons hb61 (allCons (show fconvOK .f32 .f64 y9.2.1 = true from (fconv_up _)) (allCons hb61 (allCons (f21_ok hc63) (allCons hb61 (allCons hb61 (allCons hb64 (allCons hb64 (allCons hb64 (allCons hb64 allNil))))))))))))))) (qThen ?_)
                            exact (Le.cv (s := ⟨[(2, 0)], [], [], false⟩) (own := []) (ps := [y39.1 = y39.1, (y49.2.2 != y9.2.2) = (y49.2.2 != y9.2.2), y39.2 = y39.2]) (st' := ⟨[(11, .one (.all 0)), (15, .one (.dat (.int .i64) y39.1)), (138, .one (.dat .bool (y49.2.2 != y9.2.2)))], [(0, .seq (.int .i64) y39.2)], 1⟩) hO (fun h => by cases h) (by kernel_rfl) ⟨rfl, rfl, rfl, trivial⟩).ht (cont (y49.2.2 != y9.2.2) (of_some hT53))
              · rcases of_bif hT37 with ⟨hb65, hT37⟩ | ⟨hb65, hT37⟩
                · refine HT.reg (rs := [⟨none, .no⟩, ⟨none, .no⟩, ⟨none, .no⟩, ⟨some true, .no⟩, ⟨some true, .no⟩, ⟨some true, .no⟩, ⟨some true, .no⟩, ⟨none, .tv true⟩, ⟨none, .no⟩, ⟨some true, .no⟩, ⟨some true, .no⟩, ⟨some true, .no⟩, ⟨some true, .no⟩, ⟨some true, .no⟩, ⟨some true, .no⟩, ⟨none, .tv true⟩, ⟨none, .no⟩, ⟨some true, .no⟩, ⟨some true, .no⟩, ⟨some true, .no⟩, ⟨none, .tv true⟩]) (st' := ⟨[(101, .one (.dat .bool true)), (100, .und), (99, .und), (98, .und), (97, .one (.dat .bool true)), (96, .one (.dat .bool true)), (95, .und), (94, .und), (93, .und), (92, .und), (91, .und), (90, .und), (89, .one (.dat .bool true)), (88, .one (.dat .bool true)), (87, .und), (86, .und), (85, .und), (84, .und), (83, .one (.dat .bool (decide (y33.1 < (0 : Int))))), (82, .one (.dat .bool (decide (y33.1 < (0 : Int))))), (81, .one (.dat (.int .i64) y33.1)), (1, .one (.dat (.sl (.int .i64)) a1)), (2, .one (.ptr 0 0)), (6, .one (.all 1)), (7, .one (.dat (.flt .f32) y9.2.1)), (8, .one (.dat .bool y9.2.2)), (11, .one (.all 4)), (12, .one (.dat (.flt .f32) y15.2.1)), (13, .one (.dat .bool y15.2.2)), (14, .one (.dat (.int .i64) y33.1))], [(3, .seq (.int .i64) y33.2), (5, .seq (.flt .f32) y31.2.2.2.1), (6, .seq (.flt .f32) y31.2.2.2.2.1), (7, .seq (.flt .f32) y31.2.2.2.2.2), (11, .seq (.int .i64) y26), (8, .seq (.flt .f32) y21.2.2.1), (9, .seq (.flt .f32) y21.2.2.2.1), (10, .seq (.flt .f32) y21.2.2.2.2), (0, .box [.dat (.int .i64) a0.1, .dat (.int .i64) a0.2.1, .dat (.sl (.flt .f32)) a0.2.2.1, .dat (.sl (.flt .f32)) a0.2.2.2.1, .dat (.sl (.flt .f32)) a0.2.2.2.2]), (1, .seq (.int .i64) y9.1), (2, .box [.dat (.int .i64) y11.1, .dat (.int .i64) y11.2.1, .all 5, .all 6, .all 7]), (3, .seq (.int .i64) y13), (4, .seq (.int .i64) y15.1), (5, .seq (.flt .f32) y11.2.2.1), (6, .seq (.flt .f32) y11.2.2.2.1), (7, .seq (.flt .f32) y11.2.2.2.2)], 12⟩) hP hN (by kernel_rfl) (allCons hb65 (allCons hb65 (allCons hb65 (allCons hb65 (allCons hb65 (allCons (rfl : true = true) (allCons (rfl : true = true) (allCons (rfl : true = true) (allCons (rfl : true = true) (allCons (rfl : true = true) (allCons (rfl : true = true) (allCons (rfl : true = true) (allCons (rfl : true = true) (allCons (rfl : true = true) (allCons (rfl : true = true) (allCons (rfl : true = true) allNil)))))))))))))))) (qThen ?_)
                  exact (Le.cv (s := ⟨[(0, 0), (1, 1), (4, 2)], [], [], false⟩) (own := []) (ps := [a1 = a1, y9.2.1 = y9.2.1, y9.2.2 = y9.2.2, true = true, a0.1 = a0.1, a0.2.1 = a0.2.1, a0.2.2.1 = a0.2.2.1, a0.2.2.2.1 = a0.2.2.2.1, a0.2.2.2.2 = a0.2.2.2.2, y9.1 = y9.1, y15.1 = y15.1]) (st' := ⟨[(1, .one (.dat (.sl (.int .i64)) a1)), (2, .one (.ptr 0 0)), (6, .one (.all 1)), (7, .one (.dat (.flt .f32) y9.2.1)), (8, .one (.dat .bool y9.2.2)), (11, .one (.all 2)), (101, .one (.dat .bool true))], [(0, .box [.dat (.int .i64) a0.1, .dat (.int .i64) a0.2.1, .dat (.sl (.flt .f32)) a0.2.2.1, .dat (.sl (.flt .f32)) a0.2.2.2.1, .dat (.sl (.flt .f32)) a0.2.2.2.2]), (1, .seq (.int .i64) y9.1), (2, .seq (.int .i64) y15.1)], 3⟩) hO (fun h => by cases h) (by kernel_rfl) ⟨rfl, rfl, rfl, rfl, rfl, rfl, rfl, rfl, rfl, rfl, rfl, trivial⟩).ht (cont true (of_some hT37))
                · obtain ⟨y66, hc67, hT37⟩ := of_bind hT37
                  rcases of_bif hT37 with ⟨hb68, hT37⟩ | ⟨hb68, hT37⟩
                  · refine HT.reg (rs := [⟨none, .no⟩, ⟨none, .no⟩, ⟨none, .no⟩, ⟨some false, .no⟩, ⟨some false, .no⟩, ⟨some false, .call [.imm (.sl (.int .i64)), .imm (.sl (.int .i64))] [⟨false, .bool, y66⟩] []⟩, ⟨some false, .no⟩, ⟨none, .tv false⟩, ⟨none, .no⟩, ⟨some true, .no⟩, ⟨some true, .no⟩, ⟨some true, .no⟩, ⟨some true, .no⟩, ⟨some true, .no⟩, ⟨some true, .no⟩, ⟨none, .tv true⟩, ⟨none, .no⟩, ⟨some true, .no⟩, ⟨some true, .no⟩, ⟨some true, .no⟩, ⟨none, .tv true⟩]) (st' := ⟨[(101, .one (.dat .bool true)), (100, .und), (99, .und), (98, .und), (97, .one (.dat .bool true)), (96, .one (.dat .bool true)), (95, .und), (94, .und), (93, .und), (92, .und), (91, .und), (90, .und), (89, .one (.dat .bool (!y66))), (88, .one (.dat .bool (!y66))), (87, .one (.dat .bool (!y66))), (86, .one (.dat .bool y66)), (85, .one (.all 1)), (84, .one (.all 4)), (83, .one (.dat .bool (decide (y33.1 < (0 : Int))))), (82, .one (.dat .bool (decide (y33.1 < (0 : Int))))), (81, .one (.dat (.int .i64) y33.1)), (1, .one (.dat (.sl (.int .i64)) a1)), (2, .one (.ptr 0 0)), (6, .one (.all 1)), (7, .one (.dat (.flt .f32) y9.2.1)), (8, .one (.dat .bool y9.2.2)), (11, .one (.all 4)), (12, .one (.dat (.flt .f32) y15.2.1)), (13, .one (.dat .bool y15.2.2)), (14, .one (.dat (.int .i64) y33.1))], [(3, .seq (.int .i64) y33.2), (5, .seq (.flt .f32) y31.2.2.2.1), (6, .seq (.flt .f32) y31.2.2.2.2.1), (7, .seq (.flt .f32) y31.2.2.2.2.2), (11, .seq (.int .i64) y26), (8, .seq (.flt .f32) y21.2.2.1), (9, .seq (.flt .f32) y21.2.2.2.1), (10, .seq (.flt .f32) y21.2.2.2.2), (0, .box [.dat (.int .i64) a0.1, .dat (.int .i64) a0.2.1, .dat (.sl (.flt .f32)) a0.2.2.1, .dat (.sl (.flt .f32)) a0.2.2.2.1, .dat (.sl (.flt .f32)) a0.2.2.2.2]), (1, .seq (.int .i64) y9.1), (2, .box [.dat (.int .i64) y11.1, .dat (.int .i64) y11.2.1, .all 5, .all 6, .all 7]), (3, .seq (.int .i64) y13), (4, .seq (.int .i64) y15.1), (5, .seq (.flt .f32) y11.2.2.1), (6, .seq (.flt .f32) y11.2.2.2.1), (7, .seq (.flt .f32) y11.2.2.2.2)], 12⟩) hP hN (by kernel_rfl) (allCons hb65 (allCons hb65 (allCons hb65 (allCons (f20_ok hc67) (allCons hb65 (allCons hb65 (allCons hb68 (allCons hb68 (allCons hb68 (allCons hb68 (allCons hb68 (allCons hb68 (allCons hb68 (allCons (rfl : true = true) (allCons (rfl : true = true) (allCons (rfl : true = true) (allCons (rfl : true = true) allNil))))))))))))))))) (qThen ?_)
                    exact (Le.cv (s := ⟨[(0, 0), (1, 1), (4, 2)], [], [], false⟩) (own := []) (ps := [a1 = a1, y9.2.1 = y9.2.1, y9.2.2 = y9.2.2, true = true, a0.1 = a0.1, a0.2.1 = a0.2.1, a0.2.2.1 = a0.2.2.1, a0.2.2.2.1 = a0.2.2.2.1, a0.2.2.2.2 = a0.2.2.2.2, y9.1 = y9.1, y15.1 = y15.1]) (st' := ⟨[(1, .one (.dat (.sl (.int .i64)) a1)), (2, .one (.ptr 0 0)), (6, .one (.all 1)), (7, .one (.dat (.flt .f32) y9.2.1)), (8, .one (.dat .bool y9.2.2)), (11, .one (.all 2)), (101, .one (.dat .bool true))], [(0, .box [.dat (.int .i64) a0.1, .dat (.int .i64) a0.2.1, .dat (.sl (.flt .f32)) a0.2.2.1, .dat (.sl (.flt .f32)) a0.2.2.2.1, .dat (.sl (.flt .f32)) a0.2.2.2.2]), (1, .seq (.int .i64) y9.1), (2, .seq (.int .i64) y15.1)], 3⟩) hO (fun h => by cases h) (by kernel_rfl) ⟨rfl, rfl, rfl, rfl, rfl, rfl, rfl, rfl, rfl, rfl, rfl, trivial⟩).ht (cont true (of_some hT37))
                  · obtain ⟨y69, hc70, hT37⟩ := of_bind hT37
                    rcases of_bif hT37 with ⟨hb71, hT37⟩ | ⟨hb71, hT37⟩
                    · refine HT.reg (rs := [⟨none, .no⟩, ⟨none, .no⟩, ⟨none, .no⟩, ⟨some false, .no⟩, ⟨some false, .no⟩, ⟨some false, .call [.imm (.sl (.int .i64)), .imm (.sl (.int .i64))] [⟨false, .bool, y66⟩] []⟩, ⟨some false, .no⟩, ⟨none, .tv false⟩, ⟨none, .no⟩, ⟨some false, .no⟩, ⟨some false, .no⟩, ⟨some false, .no⟩, ⟨some false, .no⟩, ⟨some false, .call [.imm (.flt .f64), .imm (.flt .f64)] [⟨false, .bool, y69⟩] []⟩, ⟨some false, .no⟩, ⟨none, .tv false⟩, ⟨none, .no⟩, ⟨some true, .no⟩, ⟨some true, .no⟩, ⟨some true, .no⟩, ⟨none, .tv true⟩]) (st' := ⟨[(101, .one (.dat .bool true)), (100, .und), (99, .und), (98, .und), (97, .one (.dat .bool (!y69))), (96, .one (.dat .bool (!y69))), (95, .one (.dat .bool (!y69))), (94, .one (.dat .bool y69)), (93, .one (.dat (.flt .f64) (fconv .f32 .f64 y9.2.1))), (92, .one (.dat (.flt .f32) y9.2.1)), (91, .one (.dat (.flt .f64) (fconv .f32 .f64 y15.2.1))), (90, .one (.dat (.flt .f32) y15.2.1)), (89, .one (.dat .bool (!y66))), (88, .one (.dat .bool (!y66))), (87, .one (.dat .bool (!y66))), (86, .one (.dat .bool y66)), (85, .one (.all 1)), (84, .one (.all 4)), (83, .one (.dat .bool (decide (y33.1 < (0 : Int))))), (82, .one (.dat .bool (decide (y33.1 < (0 : Int))))), (81, .one (.dat (.int .i64) y33.1)), (1, .one (.dat (.sl (.int .i64)) a1)), (2, .one (.ptr 0 0)), (6, .one (.all 1)), (7, .one (.dat (.flt .f32) y9.2.1)), (8, .one (.dat .bool y9.2.2)), (11, .one (.all 4)), (12, .one (.dat (.flt .f32) y15.2.1)), (13, .one (.dat .bool y15.2.2)), (14, .one (.dat (.int .i64) y33.1))], [(3, .seq (.int .i64) y33.2), (5, .seq (.flt .f32) y31.2.2.2.1), (6, .seq (.flt .f32) y31.2.2.2.2.1), (7, .seq (.flt .f32) y31.2.2.2.2.2), (11, .seq (.int .i64) y26), (8, .seq (.flt .f32) y21.2.2.1), (9, .seq (.flt .f32) y21.2.2.2.1), (10, .seq (.flt .f32) y21.2.2.2.2), (0, .box [.dat (.int .i64) a0.1, .dat (.int .i64) a0.2.1, .dat (.sl (.flt .f32)) a0.2.2.1, .dat (.sl (.flt .f32)) a0.2.2.2.1, .dat (.sl (.flt .f32)) a0.2.2.2.2]), (1, .seq (.int .i64) y9.1), (2, .box [.dat (.int .i64) y11.1, .dat (.int .i64) y11.2.1, .all 5, .all 6, .all 7]), (3, .seq (.int .i64) y13), (4, .seq (.int .i64) y15.1), (5, .seq (.flt .f32) y11.2.2.1), (6, .seq (.flt .f32) y11.2.2.2.1), (7, .seq (.flt .f32) y11.2.2.2.2)], 12⟩) hP hN (by kernel_rfl) (allCons hb65 (allCons hb65 (allCons hb65 (allCons (f20_ok hc67) (allCons hb65 (allCons hb65 (allCons hb68 (allCons hb68 (allCons (show fconvOK .f32 .f64 y15.2.1 = true from (fconv_up _)) (allCons hb68 (allCons hb68 (allCons (show fconvOK .f32 .f64 y9.2.1 = true from (fconv_up _)) (allCons hb68 (allCons (f21_ok hc70) (allCons hb68 (allCons hb68 (allCons hb71 (allCons hb71 (allCons hb71 (allCons hb71 allNil)))))))))))))))))))) (qThen ?_)
                      exact (Le.cv (s := ⟨[(0, 0), (1, 1), (4, 2)], [], [], false⟩) (own := []) (ps := [a1 = a1, y9.2.1 = y9.2.1, y9.2.2 = y9.2.2, true = true, a0.1 = a0.1, a0.2.1 = a0.2.1, a0.2.2.1 = a0.2.2.1, a0.2.2.2.1 = a0.2.2.2.1, a0.2.2.2.2 = a0.2.2.2.2, y9.1 = y9.1, y15.1 = y15.1]) (st' := ⟨[(1, .one (.dat (.sl (.int .i64)) a1)), (2, .one (.ptr 0 0)), (6, .one (.all 1)), (7, .one (.dat (.flt .f32) y9.2.1)), (8, .one (.dat .bool y9.2.2)), (11, .one (.all 2)), (101, .one (.dat .bool true))], [(0, .box [.dat (.int .i64) a0.1, .dat (.int .i64) a0.2.1, .dat (.sl (.flt .f32)) a0.2.2.1, .dat (.sl (.flt .f32)) a0.2.2.2.1, .dat (.sl (.flt .f32)) a0.2.2.2.2]), (1, .seq (.int .i64) y9.1), (2, .seq (.int .i64) y15.1)], 3⟩) hO (fun h => by cases h) (by kernel_rfl) ⟨rfl, rfl, rfl, rfl, rfl, rfl, rfl, rfl, rfl, rfl, rfl, trivial⟩).ht (cont true (of_some hT37))
                    · refine HT.reg (rs := [⟨none, .no⟩, ⟨none, .no⟩, ⟨none, .no⟩, ⟨some false, .no⟩, ⟨some false, .no⟩, ⟨some false, .call [.imm (.sl (.int .i64)), .imm (.sl (.int .i64))] [⟨false, .bool, y66⟩] []⟩, ⟨some false, .no⟩, ⟨none, .tv false⟩, ⟨none, .no⟩, ⟨some false, .no⟩, ⟨some false, .no⟩, ⟨some false, .no⟩, ⟨some false, .no⟩, ⟨some false, .call [.imm (.flt .f64), .imm (.flt .f64)] [⟨false, .bool, y69⟩] []⟩, ⟨some false, .no⟩, ⟨none, .tv false⟩, ⟨none, .no⟩, ⟨some false, .no⟩, ⟨some false, .no⟩, ⟨some false, .no⟩, ⟨none, .tv false⟩]) (st' := ⟨[(101, .one (.dat .bool (y15.2.2 != y9.2.2))), (100, .one (.dat .bool (y15.2.2 != y9.2.2))), (99, .one (.dat .bool y9.2.2)), (98, .one (.dat .bool y15.2.2)), (97, .one (.dat .bool (!y69))), (96, .one (.dat .bool (!y69))), (95, .one (.dat .bool (!y69))), (94, .one (.dat .bool y69)), (93, .one (.dat (.flt .f64) (fconv .f32 .f64 y9.2.1))), (92, .one (.dat (.flt .f32) y9.2.1)), (91, .one (.dat (.flt .f64) (fconv .f32 .f64 y15.2.1))), (90, .one (.dat (.flt .f32) y15.2.1)), (89, .one (.dat .bool (!y66))), (88, .one (.dat .bool (!y66))), (87, .one (.dat .bool (!y66))), (86, .one (.dat .bool y66)), (85, .one (.all 1)), (84, .one (.all 4)), (83, .one (.dat .bool (decide (y33.1 < (0 : Int))))), (82, .one (.dat .bool (decide (y33.1 < (0 : Int))))), (81, .one (.dat (.int .i64) y33.1)), (1, .one (.dat (.sl (.int .i64)) a1)), (2, .one (.ptr 0 0)), (6, .one (.all 1)), (7, .one (.dat (.flt .f32) y9.2.1)), (8, .one (.dat .bool y9.2.2)), (11, .one (.all 4)), (12, .one (.dat (.flt .f32) y15.2.1)), (13, .one (.dat .bool y15.2.2)), (14, .one (.dat (.int .i64) y33.1))], [(3, .seq (.int .i64) y33.2), (5, .seq (.flt .f32) y31.2.2.2.1), (6, .seq (.flt .f32) y31.2.2.2.2.1), (7, .seq (.flt .f32) y31.2.2.2.2.2), (11, .seq (.int .i64) y26), (8, .seq (.flt .f32) y21.2.2.1), (9, .seq (.flt .f32) y21.2.2.2.1), (10, .seq (.flt .f32) y21.2.2.2.2), (0, .box [.dat (.int .i64) a0.1, .dat (.int .i64) a0.2.1, .dat (.sl (.flt .f32)) a0.2.2.1, .dat (.sl (.flt .f32)) a0.2.2.2.1, .dat (.sl (.flt .f32)) a0.2.2.2.2]), (1, .seq (.int .i64) y9.1), (2, .box [.dat (.int .i64) y11.1, .dat (.int .i64) y11.2.1, .all 5, .all 6, .all 7]), (3, .seq (.int .i64) y13), (4, .seq (.int .i64) y15.1), (5, .seq (.flt .f32) y11.2.2.1), (6, .seq (.flt .f32) y11.2.2.2.1), (7, .seq (.flt .f32) y11.2.2.2.2)], 12⟩) hP hN (by kernel_rfl) (allCons hb65 (allCons hb65 (allCons hb65 (allCons (f20_ok hc67) (allCons hb65 (allCons hb65 (allCons hb68 (allCons hb68 (allCons (show fconvOK .f32 .f64 y15.2.1 = true from (fconv_up _)) (allCons hb68 (allCons hb68 (allCons (show fconvOK .f32 .f64 y9.2.1 = true from (fconv_up _)) (allCons hb68 (allCons (f21_ok hc70) (allCons hb68 (allCons hb68 (allCons hb71 (allCons hb71 (allCons hb71 (allCons hb71 allNil)))))))))))))))))))) (qThen ?_)
                      exact (Le.cv (s := ⟨[(0, 0), (1, 1), (4, 2)], [], [], false⟩) (own := []) (ps := [a1 = a1, y9.2.1 = y9.2.1, y9.2.2 = y9.2.2, (y15.2.2 != y9.2.2) = (y15.2.2 != y9.2.2), a0.1 = a0.1, a0.2.1 = a0.2.1, a0.2.2.1 = a0.2.2.1, a0.2.2.2.1 = a0.2.2.2.1, a0.2.2.2.2 = a0.2.2.2.2, y9.1 = y9.1, y15.1 = y15.1]) (st' := ⟨[(1, .one (.dat (.sl (.int .i64)) a1)), (2, .one (.ptr 0 0)), (6, .one (.all 1)), (7, .one (.dat (.flt .f32) y9.2.1)), (8, .one (.dat .bool y9.2.2)), (11, .one (.all 2)), (101, .one (.dat .bool (y15.2.2 != y9.2.2)))], [(0, .box [.dat (.int .i64) a0.1, .dat (.int .i64) a0.2.1, .dat (.sl (.flt .f32)) a0.2.2.1, .dat (.sl (.flt .f32)) a0.2.2.2.1, .dat (.sl (.flt .f32)) a0.2.2.2.2]), (1, .seq (.int .i64) y9.1), (2, .seq (.int .i64) y15.1)], 3⟩) hO (fun h => by cases h) (by kernel_rfl) ⟨rfl, rfl, rfl, rfl, rfl, rfl, rfl, rfl, rfl, rfl, rfl, trivial⟩).ht (cont (y15.2.2 != y9.2.2) (of_some hT37))
      · obtain ⟨y72, hc73, hT19⟩ := of_bind hT19
        rcases of_bif hT19 with ⟨hb74, hT19⟩ | ⟨hb74, hT19⟩
        · refine HT.reg (rs := [⟨none, .no⟩, ⟨none, .no⟩, ⟨none, .call [.imm (.sl (.int .i64)), .imm (.sl (.int .i64))] [⟨false, .bool, y72⟩] []⟩, ⟨none, .no⟩, ⟨none, .no⟩, ⟨some true, .no⟩, ⟨some true, .no⟩, ⟨some true, .no⟩, ⟨some true, .no⟩, ⟨some true, .no⟩, ⟨some true, .no⟩, ⟨none, .tv true⟩, ⟨none, .no⟩, ⟨some true, .no⟩, ⟨some true, .no⟩, ⟨some true, .no⟩, ⟨none, .tv true⟩]) (st' := ⟨[(64, .one (.dat .bool true)), (63, .und), (62, .und), (61, .und), (60, .one (.dat .bool true)), (59, .one (.dat .bool true)), (58, .und), (57, .und), (56, .und), (55, .und), (54, .und), (53, .und), (52, .one (.dat .bool (!y72))), (51, .one (.dat .bool (!y72))), (50, .one (.dat .bool y72)), (49, .one (.all 5)), (48, .one (.all 11)), (1, .one (.dat (.sl (.int .i64)) a1)), (2, .one (.ptr 0 0)), (6, .one (.all 5)), (7, .one (.dat (.flt .f32) y9.2.1)), (8, .one (.dat .bool y9.2.2)), (9, .one (.ptr 9 0)), (10, .one (.all 10)), (11, .one (.all 11)), (12, .one (.dat (.flt .f32) y15.2.1)), (13, .one (.dat .bool y15.2.2))], [(11, .seq (.int .i64) y15.1), (10, .seq (.int .i64) y13), (9, .box [.dat (.int .i64) y11.1, .dat (.int .i64) y11.2.1, .all 6, .all 7, .all 8]), (9, .box [.dat (.int .i64) (0 : Int), .dat (.int .i64) (0 : Int), .nilS, .nilS, .nilS]), (6, .seq (.flt .f32) y11.2.2.1), (7, .seq (.flt .f32) y11.2.2.2.1), (8, .seq (.flt .f32) y11.2.2.2.2), (5, .seq (.int .i64) y9.1), (4, .seq (.int .i64) y7), (1, .seq (.flt .f32) y5.2.2.1), (2, .seq (.flt .f32) y5.2.2.2.1), (3, .seq (.flt .f32) y5.2.2.2.2), (0, .box [.dat (.int .i64) a0.1, .dat (.int .i64) a0.2.1, .dat (.sl (.flt .f32)) a0.2.2.1, .dat (.sl (.flt .f32)) a0.2.2.2.1, .dat (.sl (.flt .f32)) a0.2.2.2.2])], 12⟩) hP hN (by kernel_rfl) (allCons (f20_ok hc73) (allCons hb74 (allCons hb74 (allCons hb74 (allCons hb74 (allCons hb74 (allCons hb74 (allCons hb74 (allCons (rfl : true = true) (allCons (rfl : true = true) (allCons (rfl : true = true) (allCons (rfl : true = true) allNil)))))))))))) (qThen ?_)
          exact (Le.cv (s := ⟨[(0, 0), (5, 1), (9, 2), (10, 3), (11, 4), (6, 5), (7, 6), (8, 7)], [], [], false⟩) (own := []) (ps := [a1 = a1, y9.2.1 = y9.2.1, y9.2.2 = y9.2.2, y15.2.1 = y15.2.1, y15.2.2 = y15.2.2, true = true, a0.1 = a0.1, a0.2.1 = a0.2.1, a0.2.2.1 = a0.2.2.1, a0.2.2.2.1 = a0.2.2.2.1, a0.2.2.2.2 = a0.2.2.2.2, y9.1 = y9.1, y11.1 = y11.1, y11.2.1 = y11.2.1, y13 = y13, y15.1 = y15.1, y11.2.2.1 = y11.2.2.1, y11.2.2.2.1 = y11.2.2.2.1, y11.2.2.2.2 = y11.2.2.2.2]) (st' := ⟨[(1, .one (.dat (.sl (.int .i64)) a1)), (2, .one (.ptr 0 0)), (6, .one (.all 1)), (7, .one (.dat (.flt .f32) y9.2.1)), (8, .one (.dat .bool y9.2.2)), (9, .one (.ptr 2 0)), (10, .one (.all 3)), (11, .one (.all 4)), (12, .one (.dat (.flt .f32) y15.2.1)), (13, .one (.dat .bool y15.2.2)), (64, .one (.dat .bool true))], [(0, .box [.dat (.int .i64) a0.1, .dat (.int .i64) a0.2.1, .dat (.sl (.flt .f32)) a0.2.2.1, .dat (.sl (.flt .f32)) a0.2.2.2.1, .dat (.sl (.flt .f32)) a0.2.2.2.2]), (1, .seq (.int .i64) y9.1), (2, .box [.dat (.int .i64) y11.1, .dat (.int .i64) y11.2.1, .all 5, .all 6, .all 7]), (3, .seq (.int .i64) y13), (4, .seq (.int .i64) y15.1), (5, .seq (.flt .f32) y11.2.2.1), (6, .seq (.flt .f32) y11.2.2.2.1), (7, .seq (.flt .f32) y11.2.2.2.2)], 8⟩) hO (fun h => by cases h) (by kernel_rfl) ⟨rfl, rfl, rfl, rfl, rfl, rfl, rfl, rfl, rfl, rfl, rfl, rfl, rfl, rfl, rfl, rfl, rfl, rfl, rfl, trivial⟩).ht (cont true (of_some hT19))
        · obtain ⟨y75, hc76, hT19⟩ := of_bind hT19
          rcases of_bif hT19 with ⟨hb77, hT19⟩ | ⟨hb77, hT19⟩
          · refine HT.reg (rs := [⟨none, .no⟩, ⟨none, .no⟩, ⟨none, .call [.imm (.sl (.int .i64)), .imm (.sl (.int .i64))] [⟨false, .bool, y72⟩] []⟩, ⟨none, .no⟩, ⟨none, .no⟩, ⟨some false, .no⟩, ⟨some false, .no⟩, ⟨some false, .no⟩, ⟨some false, .no⟩, ⟨some false, .call [.imm (.flt .f64), .imm (.flt .f64)] [⟨false, .bool, y75⟩] []⟩, ⟨some false, .no⟩, ⟨none, .tv false⟩, ⟨none, .no⟩, ⟨some true, .no⟩, ⟨some true, .no⟩, ⟨some true, .no⟩, ⟨none, .tv true⟩]) (st' := ⟨[(64, .one (.dat .bool true)), (63, .und), (62, .und), (61, .und), (60, .one (.dat .bool (!y75))), (59, .one (.dat .bool (!y75))), (58, .one (.dat .bool (!y75))), (57, .one (.dat .bool y75)), (56, .one (.dat (.flt .f64) (fconv .f32 .f64 y9.2.1))), (55, .one (.dat (.flt .f32) y9.2.1)), (54, .one (.dat (.flt .f64) (fconv .f32 .f64 y15.2.1))), (53, .one (.dat (.flt .f32) y15.2.1)), (52, .one (.dat .bool (!y72))), (51, .one (.dat .bool (!y72))), (50, .one (.dat .bool y72)), (49, .one (.all 5)), (48, .one (.all 11)), (1, .one (.dat (.sl (.int .i64)) a1)), (2, .one (.ptr 0 0)), (6, .one (.all 5)), (7, .one (.dat (.flt .f32) y9.2.1)), (8, .one (.dat .bool y9.2.2)), (9, .one (.ptr 9 0)), (10, .one (.all 10)), (11, .one (.all 11)), (12, .one (.dat (.flt .f32) y15.2.1)), (13, .one (.dat .bool y15.2.2))], [(11, .seq (.int .i64) y15.1), (10, .seq (.int .i64) y13), (9, .box [.dat (.int .i64) y11.1, .dat (.int .i64) y11.2.1, .all 6, .all 7, .all 8]), (9, .box [.dat (.int .i64) (0 : Int), .dat (.int .i64) (0 : Int), .nilS, .nilS, .nilS]), (6, .seq (.flt .f32) y11.2.2.1), (7, .seq (.flt .f32) y11.2.2.2.1), (8, .seq (.flt .f32) y11.2.2.2.2), (5, .seq (.int .i64) y9.1), (4, .seq (.int .i64) y7), (1, .seq (.flt .f32) y5.2.2.1), (2, .seq (.flt .f32) y5.2.2.2.1), (3, .seq (.flt .f32) y5.2.2.2.2), (0, .box [.dat (.int .i64) a0.1, .dat (.int .i64) a0.2.1, .dat (.sl (.flt .f32)) a0.2.2.1, .dat (.sl (.flt .f32)) a0.2.2.2.1, .dat (.sl (.flt .f32)) a0.2.2.2.2])], 12⟩) hP hN (by kernel_rfl) (allCons (f20_ok hc73) (allCons hb74 (allCons hb74 (allCons (show fconvOK .f32 .f64 y15.2.1 = true from (fconv_up _)) (allCons hb74 (allCons hb74 (allCons (show fconvOK .f32 .f64 y9.2.1 = true from (fconv_up _)) (allCons hb74 (allCons (f21_ok hc76) (allCons hb74 (allCons hb74 (allCons hb77 (allCons hb77 (allCons hb77 (allCons hb77 allNil))))))))))))))) (qThen ?_)
            exact (Le.cv (s := ⟨[(0, 0), (5, 1), (9, 2), (10, 3), (11, 4), (6, 5), (7, 6), (8, 7)], [], [], false⟩) (own := []) (ps := [a1 = a1, y9.2.1 = y9.2.1, y9.2.2 = y9.2.2, y15.2.1 = y15.2.1, y15.2.2 = y15.2.2, true = true, a0.1 = a0.1, a0.2.1 = a0.2.1, a0.2.2.1 = a0.2.2.1, a0.2.2.2.1 = a0.2.2.2.1, a0.2.2.2.2 = a0.2.2.2.2, y9.1 = y9.1, y11.1 = y11.1, y11.2.1 = y11.2.1, y13 = y13, y15.1 = y15.1, y11.2.2.1 = y11.2.2.1, y11.2.2.2.1 = y11.2.2.2.1, y11.2.2.2.2 = y11.2.2.2.2]) (st' := ⟨[(1, .one (.dat (.sl (.int .i64)) a1)), (2, .one (.ptr 0 0)), (6, .one (.all 1)), (7, .one (.dat (.flt .f32) y9.2.1)), (8, .one (.dat .bool y9.2.2)), (9, .one (.ptr 2 0)), (10, .one (.all 3)), (11, .one (.all 4)), (12, .one (.dat (.flt .f32) y15.2.1)), (13, .one (.dat .bool y15.2.2)), (64, .one (.dat .bool true))], [(0, .box [.dat (.int .i64) a0.1, .dat (.int .i64) a0.2.1, .dat (.sl (.flt .f32)) a0.2.2.1, .dat (.sl (.flt .f32)) a0.2.2.2.1, .dat (.sl (.flt .f32)) a0.2.2.2.2]), (1, .seq (.int .i64) y9.1), (2, .box [.dat (.int .i64) y11.1, .dat (.int .i64) y11.2.1, .all 5, .all 6, .all 7]), (3, .seq (.int .i64) y13), (4, .seq (.int .i64) y15.1), (5, .seq (.flt .f32) y11.2.2.1), (6, .seq (.flt .f32) y11.2.2.2.1), (7, .seq (.flt .f32) y11.2.2.2.2)], 8⟩) hO (fun h => by cases h) (by kernel_rfl) ⟨rfl, rfl, rfl, rfl, rfl, rfl, rfl, rfl, rfl, rfl, rfl, rfl, rfl, rfl, rfl, rfl, rfl, rfl, rfl, trivial⟩).ht (cont true (of_some hT19))
          · refine HT.reg (rs := [⟨none, .no⟩, ⟨none, .no⟩, ⟨none, .call [.imm (.sl (.int .i64)), .imm (.sl (.int .i64))] [⟨false, .bool, y72⟩] []⟩, ⟨none, .no⟩, ⟨none, .no⟩, ⟨some false, .no⟩, ⟨some false, .no⟩, ⟨some false, .no⟩, ⟨some false, .no⟩, ⟨some false, .call [.imm (.flt .f64), .imm (.flt .f64)] [⟨false, .bool, y75⟩] []⟩, ⟨some false, .no⟩, ⟨none, .tv false⟩, ⟨none, .no⟩, ⟨some false, .no⟩, ⟨some false, .no⟩, ⟨some false, .no⟩, ⟨none, .tv false⟩]) (st' := ⟨[(64, .one (.dat .bool (y15.2.2 != y9.2.2))), (63, .one (.dat .bool (y15.2.2 != y9.2.2))), (62, .one (.dat .bool y9.2.2)), (61, .one (.dat .bool y15.2.2)), (60, .one (.dat .bool (!y75))), (59, .one (.dat .bool (!y75))), (58, .one (.dat .bool (!y75))), (57, .one (.dat .bool y75)), (56, .one (.dat (.flt .f64) (fconv .f32 .f64 y9.2.1))), (55, .one (.dat (.flt .f32) y9.2.1)), (54, .one (.dat (.flt .f64) (fconv .f32 .f64 y15.2.1))), (53, .one (.dat (.flt .f32) y15.2.1)), (52, .one (.dat .bool (!y72))), (51, .one (.dat .bool (!y72))), (50, .one (.dat .bool y72)), (49, .one (.all 5)), (48, .one (.all 11)), (1, .one (.dat (.sl (.int .i64)) a1)), (2, .one (.ptr 0 0)), (6, .one (.all 5)), (7, .one (.dat (.flt .f32) y9.2.1)), (8, .one (.dat .bool y9.2.2)), (9, .one (.ptr 9 0)), (10, .one (.all 10)), (11, .one (.all 11)), (12, .one (.dat (.flt .f32) y15.2.1)), (13, .one (.dat .bool y15.2.2))], [(11, .seq (.int .i64) y15.1), (10, .seq (.int .i64) y13), (9, .box [.dat (.int .i64) y11.1, .dat (.int .i64) y11.2.1, .all 6, .all 7, .all 8]), (9, .box [.dat (.int .i64) (0 : Int), .dat (.int .i64) (0 : Int), .nilS, .nilS, .nilS]), (6, .seq (.flt .f32) y11.2.2.1), (7, .seq (.flt .f32) y11.2.2.2.1), (8, .seq (.flt .f32) y11.2.2.2.2), (5, .seq (.int .i64) y9.1), (4, .seq (.int .i64) y7), (1, .seq (.flt .f32) y5.2.2.1), (2, .seq (.flt .f32) y5.2.2.2.1), (3, .seq (.flt .f32) y5.2.2.2.2), (0, .box [.dat (.int .i64) a0.1, .dat (.int .i64) a0.2.1, .dat (.sl (.flt .f32)) a0.2.2.1, .dat (.sl (.flt .f32)) a0.2.2.2.1, .dat (.sl (.flt .f32)) a0.2.2.2.2])], 12⟩) hP hN (by kernel_rfl) (allCons (f20_ok hc73) (allCons hb74 (allCons hb74 (allCons (show fconvOK .f32 .f64 y15.2.1 = true from (fconv_up _)) (allCons hb74 (allCons hb74 (allCons (show fconvOK .f32 .f64 y9.2.1 = true from (fconv_up _)) (allCons hb74 (allCons (f21_ok hc76) (allCons hb74 (allCons hb74 (allCons hb77 (allCons hb77 (allCons hb77 (allCons hb77 allNil))))))))))))))) (qThen ?_)
            exact (Le.cv (s := ⟨[(0, 0), (5, 1), (9, 2), (10, 3), (11, 4), (6, 5), (7, 6), (8, 7)], [], [], false⟩) (own := []) (ps := [a1 = a1, y9.2.1 = y9.2.1, y9.2.2 = y9.2.2, y15.2.1 = y15.2.1, y15.2.2 = y15.2.2, (y15.2.2 != y9.2.2) = (y15.2.2 != y9.2.2), a0.1 = a0.1, a0.2.1 = a0.2.1, a0.2.2.1 = a0.2.2.1, a0.2.2.2.1 = a0.2.2.2.1, a0.2.2.2.2 = a0.2.2.2.2, y9.1 = y9.1, y11.1 = y11.1, y11.2.1 = y11.2.1, y13 = y13, y15.1 = y15.1, y11.2.2.1 = y11.2.2.1, y11.2.2.2.1 = y11.2.2.2.1, y11.2.2.2.2 = y11.2.2.2.2]) (st' := ⟨[(1, .one (.dat (.sl (.int .i64)) a1)), (2, .one (.ptr 0 0)), (6, .one (.all 1)), (7, .one (.dat (.flt .f32) y9.2.1)), (8, .one (.dat .bool y9.2.2)), (9, .one (.ptr 2 0)), (10, .one (.all 3)), (11, .one (.all 4)), (12, .one (.dat (.flt .f32) y15.2.1)), (13, .one (.dat .bool y15.2.2)), (64, .one (.dat .bool (y15.2.2 != y9.2.2)))], [(0, .box [.dat (.int .i64) a0.1, .dat (.int .i64) a0.2.1, .dat (.sl (.flt .f32)) a0.2.2.1, .dat (.sl (.flt .f32)) a0.2.2.2.1, .dat (.sl (.flt .f32)) a0.2.2.2.2]), (1, .seq (.int .i64) y9.1), (2, .box [.dat (.int .i64) y11.1, .dat (.int .i64) y11.2.1, .all 5, .all 6, .all 7]), (3, .seq (.int .i64) y13), (4, .seq (.int .i64) y15.1), (5, .seq (.flt .f32) y11.2.2.1), (6, .seq (.flt .f32) y11.2.2.2.1), (7, .seq (.flt .f32) y11.2.2.2.2)], 8⟩) hO (fun h => by cases h) (by kernel_rfl) ⟨rfl, rfl, rfl, rfl, rfl, rfl, rfl, rfl, rfl, rfl, rfl, rfl, rfl, rfl, rfl, rfl, rfl, rfl, rfl, trivial⟩).ht (cont (y15.2.2 != y9.2.2) (of_some hT19))

noncomputable def impl_Model_areHidden (a0 : Int × Int × List Nat × List Nat × List Nat) (a1 : List Int) (a2 : List Int) : Option (Bool) :=
  (show Option (Bool) from
    bif ((lenI a2) == (wadd .i64 (lenI a1) (1 : Int))) then
      (impl_areWithin a2 (0 : Int) (wsub .i64 a0.1 (1 : Int))).bind fun y5 =>
      some y5
    else
      some false).bind fun v1 =>
  some v1

theorem f146_ok {a0 : Int × Int × List Nat × List Nat × List Nat} {a1 : List Int} {a2 : List Int} {r : Bool} (hr : impl_Model_areHidden a0 a1 a2 = some r) : CallOK Try.prog 146 [.imm (.st (.pair (.int .i64) (.pair (.int .i64) (.pair (.sl (.flt .f32)) (.pair (.sl (.flt .f32)) (.sl (.flt .f32))))))) a0, .imm (.sl (.int .i64)) a1, .imm (.sl (.int .i64)) a2] [⟨false, .bool, r⟩] [] := by
  unfold impl_Model_areHidden at hr
  refine CallOK.of_body (ts := [(false, .bool)]) Try.func146 rfl (by kernel_rfl) (Nat.le_of_ble_eq_true (by kernel_rfl)) fun cx hP hN hO hF => ?_
  have hO : cx.own.map Prod.fst = [] := hO
  have hF : cx.F = [] := hF rfl
  show HT cx ⟨[(0, .agg [.dat (.int .i64) a0.1, .dat (.int .i64) a0.2.1, .dat (.sl (.flt .f32)) a0.2.2.1, .dat (.sl (.flt .f32)) a0.2.2.2.1, .dat (.sl (.flt .f32)) a0.2.2.2.2]), (1, .one (.dat (.sl (.int .i64)) a1)), (2, .one (.dat (.sl (.int .i64)) a2))], [], 0⟩ _ _
  refine HT.reg1 [1, 2, 3] [⟨none, .no⟩, ⟨none, .no⟩] ⟨[(1, .one (.dat (.sl (.int .i64)) a1)), (2, .one (.dat (.sl (.int .i64)) a2)), (3, .one (.ptr 0 0))], [(0, .box [.dat (.int .i64) a0.1, .dat (.int .i64) a0.2.1, .dat (.sl (.flt .f32)) a0.2.2.1, .dat (.sl (.flt .f32)) a0.2.2.2.1, .dat (.sl (.flt .f32)) a0.2.2.2.2])], 1⟩ hP hN (by kernel_rfl) allNil ?_
  obtain ⟨v1', hT3, hr⟩ := of_bind hr
  refine HT.join (fun (v1 : Bool) => ⟨[(6, .one (.dat .bool v1))], [], 0⟩) (fun v => v = v1') (fun v1 hv2 => ?_) (fun cont => ?_)
  · subst hv2
    have hr := of_some hr
    subst hr
    exact HT.ret ⟨[.one (.dat .bool v1)], [], [], by kernel_rfl, by kernel_rfl, rfl, (.inl rfl), by kernel_rfl, trivial⟩
  · rcases of_bif hT3 with ⟨hb4, hT3⟩ | ⟨hb4, hT3⟩
    · obtain ⟨y5, hc6, hT3⟩ := of_bind hT3
      refine HT.reg (rs := [⟨none, .no⟩, ⟨none, .no⟩, ⟨none, .no⟩, ⟨none, .no⟩, ⟨none, .no⟩, ⟨none, .no⟩, ⟨none, .no⟩, ⟨some true, .no⟩, ⟨some true, .no⟩, ⟨some true, .no⟩, ⟨some true, .no⟩, ⟨some true, .call [.imm (.sl (.int .i64)), .imm (.int .i64), .imm (.int .i64)] [⟨false, .bool, y5⟩] []⟩, ⟨none, .tv true⟩, ⟨none, .no⟩]) (st' := ⟨[(6, .one (.dat .bool y5)), (19, .one (.dat .bool y5)), (18, .one (.dat .bool y5)), (17, .one (.dat (.int .i64) (wsub .i64 a0.1 (1 : Int)))), (16, .one (.dat (.int .i64) a0.1)), (15, .one (.ptr 0 0)), (14, .one (.dat (.sl (.int .i64)) a2)), (13, .one (.dat .bool ((lenI a2) == (wadd .i64 (lenI a1) (1 : Int))))), (12, .one (.dat .bool ((lenI a2) == (wadd .i64 (lenI a1) (1 : Int))))), (11, .one (.dat (.int .i64) (wadd .i64 (lenI a1) (1 : Int)))), (10, .one (.dat (.int .i64) (lenI a1))), (9, .one (.dat (.sl (.int .i64)) a1)), (8, .one (.dat (.int .i64) (lenI a2))), (7, .one (.dat (.sl (.int .i64)) a2)), (1, .one (.dat (.sl (.int .i64)) a1)), (2, .one (.dat (.sl (.int .i64)) a2)), (3, .one (.ptr 0 0))], [(0, .box [.dat (.int .i64) a0.1, .dat (.int .i64) a0.2.1, .dat (.sl (.flt .f32)) a0.2.2.1, .dat (.sl (.flt .f32)) a0.2.2.2.1, .dat (.sl (.flt .f32)) a0.2.2.2.2])], 1⟩) hP hN (by kernel_rfl) (allCons hb4 (allCons hb4 (allCons hb4 (allCons hb4 (allCons hb4 (allCons (f111_ok hc6) (allCons hb4 allNil))))))) (qThen ?_)
      exact (Le.cv (s := ⟨[], [], [], false⟩) (own := []) (ps := [y5 = y5]) (st' := ⟨[(6, .one (.dat .bool y5))], [], 0⟩) hO (fun h => by cases h) (by kernel_rfl) ⟨rfl, trivial⟩).ht (cont y5 (of_some hT3))
    · refine HT.reg (rs := [⟨none, .no⟩, ⟨none, .no⟩, ⟨none, .no⟩, ⟨none, .no⟩, ⟨none, .no⟩, ⟨none, .no⟩, ⟨none, .no⟩, ⟨some false, .no⟩, ⟨some false, .no⟩, ⟨some false, .no⟩, ⟨some false, .no⟩, ⟨some false, .no⟩, ⟨none, .tv false⟩, ⟨none, .no⟩]) (st' := ⟨[(6, .one (.dat .bool false)), (19, .one (.dat .bool false)), (18, .und), (17, .und), (16, .und), (15, .und), (14, .und), (13, .one (.dat .bool ((lenI a2) == (wadd .i64 (lenI a1) (1 : Int))))), (12, .one (.dat .bool ((lenI a2) == (wadd .i64 (lenI a1) (1 : Int))))), (11, .one (.dat (.int .i64) (wadd .i64 (lenI a1) (1 : Int)))), (10, .one (.dat (.int .i64) (lenI a1))), (9, .one (.dat (.sl (.int .i64)) a1)), (8, .one (.dat (.int .i64) (lenI a2))), (7, .one (.dat (.sl (.int .i64)) a2)), (1, .one (.dat (.sl (.int .i64)) a1)), (2, .one (.dat (.sl (.int .i64)) a2)), (3, .one (.ptr 0 0))], [(0, .box [.dat (.int .i64) a0.1, .dat (.int .i64) a0.2.1, .dat (.sl (.flt .f32)) a0.2.2.1, .dat (.sl (.flt .f32)) a0.2.2.2.1, .dat (.sl (.flt .f32)) a0.2.2.2.2])], 1⟩) hP hN (by kernel_rfl) (allCons hb4 (allCons hb4 (allCons hb4 (allCons hb4 (allCons hb4 (allCons hb4 allNil)))))) (qThen ?_)
      exact (Le.cv (s := ⟨[], [], [], false⟩) (own := []) (ps := [false = false]) (st' := ⟨[(6, .one (.dat .bool false))], [], 0⟩) hO (fun h => by cases h) (by kernel_rfl) ⟨rfl, trivial⟩).ht (cont false (of_some hT3))

noncomputable def impl_finite (a0 : Nat) : Option (Nat × Bool) :=
  (impl_IsFinite a0).bind fun y1 =>
  bif (!y1) then
    some ((0 : Nat), false)
  else
    some (a0, true)

theorem f147_ok {a0 : Nat} {r : Nat × Bool} (hr : impl_finite a0 = some r) : CallOK Try.prog 147 [.imm (.flt .f32) a0] [⟨false, (.flt .f32), r.1⟩, ⟨false, .bool, r.2⟩] [] := by
  unfold impl_finite at hr
  refine CallOK.of_body (ts := [(false, (.flt .f32)), (false, .bool)]) Try.func147 rfl (by kernel_rfl) (Nat.le_of_ble_eq_true (by kernel_rfl)) fun cx hP hN hO hF => ?_
  have hO : cx.own.map Prod.fst = [] := hO
  have hF : cx.F = [] := hF rfl
  show HT cx ⟨[(0, .one (.dat (.flt .f32) a0))], [], 0⟩ _ _
  refine HT.reg1 [0] [⟨none, .no⟩, ⟨none, .no⟩] ⟨[(0, .one (.dat (.flt .f32) a0))], [], 0⟩ hP hN (by kernel_rfl) allNil ?_
  refine HT.seq ?_
  obtain ⟨y1, hc2, hr⟩ := of_bind hr
  refine HT.reg1 [0, 6] [⟨none, .no⟩, ⟨none, .call [.imm (.flt .f32)] [⟨false, .bool, y1⟩] []⟩, ⟨none, .no⟩] ⟨[(0, .one (.dat (.flt .f32) a0)), (6, .one (.dat .bool (!y1)))], [], 0⟩ hP hN (by kernel_rfl) (allCons (f100_ok hc2) allNil) ?_
  rcases of_bif hr with ⟨hb3, hr⟩ | ⟨hb3, hr⟩
  · refine HT.cond1 rfl hb3 ?_
    refine HT.reg1 [2, 3] [⟨none, .no⟩, ⟨none, .no⟩] ⟨[(2, .one (.dat (.flt .f32) (0 : Nat))), (3, .one (.dat .bool false))], [], 0⟩ hP hN (by kernel_rfl) allNil ?_
    have hr := of_some hr
    subst hr
    exact HT.ret (qThenR ⟨[.one (.dat (.flt .f32) (0 : Nat)), .one (.dat .bool false)], [], [], by kernel_rfl, by kernel_rfl, rfl, (.inl rfl), by kernel_rfl, trivial⟩)
  · refine HT.cond0 rfl hb3 ?_
    refine HT.skip (qThen ?_)
    refine HT.reg1 [2, 3] [⟨none, .no⟩, ⟨none, .no⟩, ⟨none, .no⟩] ⟨[(2, .one (.dat (.flt .f32) a0)), (3, .one (.dat .bool true))], [], 0⟩ hP hN (by kernel_rfl) allNil ?_
    have hr := of_some hr
    subst hr
    exact HT.ret ⟨[.one (.dat (.flt .f32) a0), .one (.dat .bool true)], [], [], by kernel_rfl, by kernel_rfl, rfl, (.inl rfl), by kernel_rfl, trivial⟩

noncomputable def impl_HiddenChance_B1 (a0 : Int × Int × List Nat × List Nat × List Nat) (a1 : List Int) (a2 : List Int) (s7 : Nat × Int) : Option ((Nat × Int) ⊕ (Nat)) :=
  bif (decide (s7.2 < (lenI a1))) then
    guardP ((0 : Int) ≤ s7.2 ∧ s7.2 < lenI a1) (
      guardP ((0 : Int) ≤ s7.2 ∧ s7.2 < lenI a2) (
        (impl_Model_show (a0.1, a0.2.1, a0.2.2.1, a0.2.2.2.1, a0.2.2.2.2) (List.getD a2 (Int.toNat s7.2) (0 : Int)) (List.getD a1 (Int.toNat s7.2) (0 : Int))).bind fun y18 =>
        guardP ((0 : Int) ≤ (wadd .i64 s7.2 (1 : Int)) ∧ (wadd .i64 s7.2 (1 : Int)) < lenI a2) (
          (impl_Model_step (a0.1, a0.2.1, a0.2.2.1, a0.2.2.2.1, a0.2.2.2.2) (List.getD a2 (Int.toNat s7.2) (0 : Int)) (List.getD a2 (Int.toNat (wadd .i64 s7.2 (1 : Int))) (0 : Int))).bind fun y21 =>
          some (.inl ((fop .mul .f32 (fop .mul .f32 s7.1 y18) y21), (wadd .i64 s7.2 (1 : Int)))))))
  else
    some (.inr s7.1)

noncomputable def impl_HiddenChance (a0 : Int × Int × List Nat × List Nat × List Nat) (a1 : List Int) (a2 : List Int) : Option (Nat × Bool) :=
  (show Option (Bool) from
    (impl_Model_has (a0.1, a0.2.1, a0.2.2.1, a0.2.2.2.1, a0.2.2.2.2) a1).bind fun y24 =>
    bif (!y24) then
      some true
    else
      (impl_Model_areHidden (a0.1, a0.2.1, a0.2.2.1, a0.2.2.2.1, a0.2.2.2.2) a1 a2).bind fun y27 =>
      some (!y27)).bind fun v1 =>
  bif v1 then
    some ((0 : Nat), false)
  else
    guardP ((0 : Int) ≤ (0 : Int) ∧ (0 : Int) < lenI a2) (
      guardP ((0 : Int) ≤ (List.getD a2 (Int.toNat (0 : Int)) (0 : Int)) ∧ (List.getD a2 (Int.toNat (0 : Int)) (0 : Int)) < lenI a0.2.2.1) (
        (rounds (impl_HiddenChance_B1 a0 a1 a2) ((List.getD a0.2.2.1 (Int.toNat (List.getD a2 (Int.toNat (0 : Int)) (0 : Int))) (0 : Nat)), (0 : Int))).bind fun r9 =>
        (impl_finite r9).bind fun y10 =>
        some (y10.1, y10.2)))

theorem f71_ok {a0 : Int × Int × List Nat × List Nat × List Nat} {a1 : List Int} {a2 : List Int} {r : Nat × Bool} (hr : impl_HiddenChance a0 a1 a2 = some r) : CallOK Try.prog 71 [.imm (.st (.pair (.int .i64) (.pair (.int .i64) (.pair (.sl (.flt .f32)) (.pair (.sl (.flt .f32)) (.sl (.flt .f32))))))) a0, .imm (.sl (.int .i64)) a1, .imm (.sl (.int .i64)) a2] [⟨false, (.flt .f32), r.1⟩, ⟨false, .bool, r.2⟩] [] := by
  unfold impl_HiddenChance at hr
  refine CallOK.of_body (ts := [(false, (.flt .f32)), (false, .bool)]) Try.func71 rfl (by kernel_rfl) (Nat.le_of_ble_eq_true (by kernel_rfl)) fun cx hP hN hO hF => ?_
  have hO : cx.own.map Prod.fst = [] := hO
  have hF : cx.F = [] := hF rfl
  show HT cx ⟨[(0, .agg [.dat (.int .i64) a0.1, .dat (.int .i64) a0.2.1, .dat (.sl (.flt .f32)) a0.2.2.1, .dat (.sl (.flt .f32)) a0.2.2.2.1, .dat (.sl (.flt .f32)) a0.2.2.2.2]), (1, .one (.dat (.sl (.int .i64)) a1)), (2, .one (.dat (.sl (.int .i64)) a2))], [], 0⟩ _ _
  refine HT.reg1 [1, 2, 3] [⟨none, .no⟩, ⟨none, .no⟩, ⟨none, .no⟩] ⟨[(1, .one (.dat (.sl (.int .i64)) a1)), (2, .one (.dat (.sl (.int .i64)) a2)), (3, .one (.ptr 0 0))], [(0, .box [.dat (.int .i64) a0.1, .dat (.int .i64) a0.2.1, .dat (.sl (.flt .f32)) a0.2.2.1, .dat (.sl (.flt .f32)) a0.2.2.2.1, .dat (.sl (.flt .f32)) a0.2.2.2.2])], 1⟩ hP hN (by kernel_rfl) allNil ?_
  refine HT.seq ?_
  obtain ⟨v1', hT3, hr⟩ := of_bind hr
  refine HT.join (fun (v1 : Bool) => ⟨[(1, .one (.dat (.sl (.int .i64)) a1)), (2, .one (.dat (.sl (.int .i64)) a2)), (3, .one (.ptr 0 0)), (21, .one (.dat .bool v1))], [(0, .box [.dat (.int .i64) a0.1, .dat (.int .i64) a0.2.1, .dat (.sl (.flt .f32)) a0.2.2.1, .dat (.sl (.flt .f32)) a0.2.2.2.1, .dat (.sl (.flt .f32)) a0.2.2.2.2])], 1⟩) (fun v => v = v1') (fun v1 hv2 => ?_) (fun cont => ?_)
  · subst hv2
    rcases of_bif hr with ⟨hb4, hr⟩ | ⟨hb4, hr⟩
    · refine HT.cond1 rfl hb4 ?_
      refine HT.reg1 [6, 7] [⟨none, .no⟩, ⟨none, .no⟩] ⟨[(6, .one (.dat (.flt .f32) (0 : Nat))), (7, .one (.dat .bool false))], [(0, .box [.dat (.int .i64) a0.1, .dat (.int .i64) a0.2.1, .dat (.sl (.flt .f32)) a0.2.2.1, .dat (.sl (.flt .f32)) a0.2.2.2.1, .dat (.sl (.flt .f32)) a0.2.2.2.2])], 1⟩ hP hN (by kernel_rfl) allNil ?_
      have hr := of_some hr
      subst hr
      exact HT.ret (qThenR ⟨[.one (.dat (.flt .f32) (0 : Nat)), .one (.dat .bool false)], [], [], by kernel_rfl, by kernel_rfl, rfl, (.inl rfl), by kernel_rfl, trivial⟩)
    · refine HT.cond0 rfl hb4 ?_
      refine HT.skip (qThen ?_)
      obtain ⟨hg5, hr⟩ := of_guard hr
      obtain ⟨hg6, hr⟩ := of_guard hr
      refine HT.drw1 [1, 2, 3, 8] 5 [⟨⟨none, .no⟩, []⟩, ⟨⟨none, .no⟩, [0]⟩, ⟨⟨none, .no⟩, []⟩, ⟨⟨none, .no⟩, [2]⟩, ⟨⟨none, .no⟩, [2, 3]⟩] [[0, 1, 2, 3, 4], [0, 1, 2, 3, 4, 5], [0, 1, 2, 3, 4, 5, 6]] [⟨none, .no⟩, ⟨none, .no⟩, ⟨none, .no⟩] ⟨[(1, .one (.dat (.sl (.int .i64)) a1)), (2, .one (.dat (.sl (.int .i64)) a2)), (3, .one (.ptr 0 0)), (8, .one (.dat (.flt .f32) (List.getD a0.2.2.1 (Int.toNat (List.getD a2 (Int.toNat (0 : Int)) (0 : Int))) (0 : Nat))))], [(0, .box [.dat (.int .i64) a0.1, .dat (.int .i64) a0.2.1, .dat (.sl (.flt .f32)) a0.2.2.1, .dat (.sl (.flt .f32)) a0.2.2.2.1, .dat (.sl (.flt .f32)) a0.2.2.2.2])], 1⟩ hP hN (by kernel_rfl) (by kernel_rfl) (allCons hg5 (allCons hg6 allNil)) ?_
      refine HT.seq ?_
      refine HT.reg1 [2, 3, 8, 29, 30, 31] [⟨none, .no⟩, ⟨none, .no⟩, ⟨none, .no⟩] ⟨[(2, .one (.dat (.sl (.int .i64)) a2)), (3, .one (.ptr 0 0)), (8, .one (.dat (.flt .f32) (List.getD a0.2.2.1 (Int.toNat (List.getD a2 (Int.toNat (0 : Int)) (0 : Int))) (0 : Nat)))), (29, .one (.dat (.sl (.int .i64)) a1)), (30, .one (.dat (.int .i64) (lenI a1))), (31, .one (.dat (.int .i64) (0 : Int)))], [(0, .box [.dat (.int .i64) a0.1, .dat (.int .i64) a0.2.1, .dat (.sl (.flt .f32)) a0.2.2.1, .dat (.sl (.flt .f32)) a0.2.2.2.1, .dat (.sl (.flt .f32)) a0.2.2.2.2])], 1⟩ hP hN (by kernel_rfl) allNil ?_
      refine HT.block ?_
      obtain ⟨r8, hL23, hr⟩ := of_bind hr
      refine (Le.cv (s := ⟨[(0, 0)], [], [], false⟩) (own := []) (ps := [a2 = a2, (List.getD a0.2.2.1 (Int.toNat (List.getD a2 (Int.toNat (0 : Int)) (0 : Int))) (0 : Nat)) = (List.getD a0.2.2.1 (Int.toNat (List.getD a2 (Int.toNat (0 : Int)) (0 : Int))) (0 : Nat)), a1 = a1, (lenI a1) = (lenI a1), (0 : Int) = (0 : Int), a0.1 = a0.1, a0.2.1 = a0.2.1, a0.2.2.1 = a0.2.2.1, a0.2.2.2.1 = a0.2.2.2.1, a0.2.2.2.2 = a0.2.2.2.2]) (st' := ⟨[(2, .one (.dat (.sl (.int .i64)) a2)), (3, .one (.ptr 0 0)), (8, .one (.dat (.flt .f32) (List.getD a0.2.2.1 (Int.toNat (List.getD a2 (Int.toNat (0 : Int)) (0 : Int))) (0 : Nat)))), (29, .one (.dat (.sl (.int .i64)) a1)), (30, .one (.dat (.int .i64) (lenI a1))), (31, .one (.dat (.int .i64) (0 : Int)))], [(0, .box [.dat (.int .i64) a0.1, .dat (.int .i64) a0.2.1, .dat (.sl (.flt .f32)) a0.2.2.1, .dat (.sl (.flt .f32)) a0.2.2.2.1, .dat (.sl (.flt .f32)) a0.2.2.2.2])], 1⟩) hO (fun h => by cases h) (by kernel_rfl) ⟨rfl, rfl, rfl, rfl, rfl, rfl, rfl, rfl, rfl, rfl, trivial⟩).ht ?_
      refine HT.loopE (s := ((List.getD a0.2.2.1 (Int.toNat (List.getD a2 (Int.toNat (0 : Int)) (0 : Int))) (0 : Nat)), (0 : Int))) (fun (s7 : Nat × Int) => ⟨[(2, .one (.dat (.sl (.int .i64)) a2)), (3, .one (.ptr 0 0)), (8, .one (.dat (.flt .f32) s7.1)), (29, .one (.dat (.sl (.int .i64)) a1)), (30, .one (.dat (.int .i64) (lenI a1))), (31, .one (.dat (.int .i64) s7.2))], [(0, .box [.dat (.int .i64) a0.1, .dat (.int .i64) a0.2.1, .dat (.sl (.flt .f32)) a0.2.2.1, .dat (.sl (.flt .f32)) a0.2.2.2.1, .dat (.sl (.flt .f32)) a0.2.2.2.2])], 1⟩) (fun (r9 : Nat) => (.exit 0, ⟨[(8, .one (.dat (.flt .f32) r9))], [], 0⟩)) hL23 ?_ (fun s7 x12 hx13 hk14 => ?_)
      · refine (qBlockX (qThen ?_))
        obtain ⟨y10, hc11, hr⟩ := of_bind hr
        refine HT.reg1 [6, 7] [⟨none, .no⟩, ⟨none, .call [.imm (.flt .f32)] [⟨false, (.flt .f32), y10.1⟩, ⟨false, .bool, y10.2⟩] []⟩, ⟨none, .no⟩, ⟨none, .no⟩, ⟨none, .no⟩, ⟨none, .no⟩] ⟨[(6, .one (.dat (.flt .f32) y10.1)), (7, .one (.dat .bool y10.2))], [], 0⟩ hP hN (by kernel_rfl) (allCons (f147_ok hc11) allNil) ?_
        have hr := of_some hr
        subst hr
        exact HT.ret ⟨[.one (.dat (.flt .f32) y10.1), .one (.dat .bool y10.2)], [], [], by kernel_rfl, by kernel_rfl, rfl, (.inl rfl), by kernel_rfl, trivial⟩
      · refine HT.reg1 [2, 3, 8, 29, 30, 31, 32] [⟨none, .no⟩] ⟨[(2, .one (.dat (.sl (.int .i64)) a2)), (3, .one (.ptr 0 0)), (8, .one (.dat (.flt .f32) s7.1)), (29, .one (.dat (.sl (.int .i64)) a1)), (30, .one (.dat (.int .i64) (lenI a1))), (31, .one (.dat (.int .i64) s7.2)), (32, .one (.dat .bool (decide (s7.2 < (lenI a1)))))], [(0, .box [.dat (.int .i64) a0.1, .dat (.int .i64) a0.2.1, .dat (.sl (.flt .f32)) a0.2.2.1, .dat (.sl (.flt .f32)) a0.2.2.2.1, .dat (.sl (.flt .f32)) a0.2.2.2.2])], 1⟩ hP hN (by kernel_rfl) allNil ?_
        refine HT.seq ?_
        rcases of_bif hx13 with ⟨hb15, hx13⟩ | ⟨hb15, hx13⟩
        · refine HT.cond1 rfl hb15 ?_
          refine HT.skip (qThen ?_)
          refine HT.seq ?_
          refine HT.block ?_
          obtain ⟨hg16, hx13⟩ := of_guard hx13
          refine HT.reg1 [2, 3, 8, 9, 10, 29, 30, 31] [⟨none, .no⟩, ⟨none, .no⟩, ⟨none, .no⟩, ⟨none, .no⟩, ⟨none, .no⟩] ⟨[(2, .one (.dat (.sl (.int .i64)) a2)), (3, .one (.ptr 0 0)), (8, .one (.dat (.flt .f32) s7.1)), (9, .one (.dat (.int .i64) s7.2)), (10, .one (.dat (.int .i64) (List.getD a1 (Int.toNat s7.2) (0 : Int)))), (29, .one (.dat (.sl (.int .i64)) a1)), (30, .one (.dat (.int .i64) (lenI a1))), (31, .one (.dat (.int .i64) s7.2))], [(0, .box [.dat (.int .i64) a0.1, .dat (.int .i64) a0.2.1, .dat (.sl (.flt .f32)) a0.2.2.1, .dat (.sl (.flt .f32)) a0.2.2.2.1, .dat (.sl (.flt .f32)) a0.2.2.2.2])], 1⟩ hP hN (by kernel_rfl) (allCons hg16 allNil) ?_
          obtain ⟨hg17, hx13⟩ := of_guard hx13
          obtain ⟨y18, hc19, hx13⟩ := of_bind hx13
          refine HT.drw1 [2, 3, 8, 9, 29, 30, 31] 8 [⟨⟨none, .no⟩, []⟩, ⟨⟨none, .no⟩, []⟩, ⟨⟨none, .no⟩, []⟩, ⟨⟨none, .no⟩, []⟩, ⟨⟨none, .no⟩, [2, 3]⟩, ⟨⟨none, .no⟩, [2, 3, 4]⟩, ⟨⟨none, .no⟩, []⟩, ⟨⟨none, .call [.imm (.st (.pair (.int .i64) (.pair (.int .i64) (.pair (.sl (.flt .f32)) (.pair (.sl (.flt .f32)) (.sl (.flt .f32))))))), .imm (.int .i64), .imm (.int .i64)] [⟨false, (.flt .f32), y18⟩] []⟩, [1, 2, 3, 4, 5, 6]⟩] [[0, 1, 2, 3, 4, 5, 6, 7], [0, 1, 2, 3, 4, 5, 6, 7, 8]] [⟨none, .no⟩, ⟨none, .no⟩] ⟨[(2, .one (.dat (.sl (.int .i64)) a2)), (3, .one (.ptr 0 0)), (8, .one (.dat (.flt .f32) (fop .mul .f32 s7.1 y18))), (9, .one (.dat (.int .i64) s7.2)), (29, .one (.dat (.sl (.int .i64)) a1)), (30, .one (.dat (.int .i64) (lenI a1))), (31, .one (.dat (.int .i64) s7.2))], [(0, .box [.dat (.int .i64) a0.1, .dat (.int .i64) a0.2.1, .dat (.sl (.flt .f32)) a0.2.2.1, .dat (.sl (.flt .f32)) a0.2.2.2.1, .dat (.sl (.flt .f32)) a0.2.2.2.2])], 1⟩ hP hN (by kernel_rfl) (by kernel_rfl) (allCons hg17 (allCons (f98_ok hc19) allNil)) ?_
          obtain ⟨hg20, hx13⟩ := of_guard hx13
          obtain ⟨y21, hc22, hx13⟩ := of_bind hx13
          refine drawS (h := 12) (hrs := [⟨⟨none, .no⟩, []⟩, ⟨⟨none, .no⟩, []⟩, ⟨⟨none, .no⟩, []⟩, ⟨⟨none, .no⟩, []⟩, ⟨⟨none, .no⟩, [2, 3]⟩, ⟨⟨none, .no⟩, [2, 3, 4]⟩, ⟨⟨none, .no⟩, []⟩, ⟨⟨none, .no⟩, []⟩, ⟨⟨none, .no⟩, [7]⟩, ⟨⟨none, .no⟩, [6, 7, 8]⟩, ⟨⟨none, .no⟩, [6, 7, 8, 9]⟩, ⟨⟨none, .call [.imm (.st (.pair (.int .i64) (.pair (.int .i64) (.pair (.sl (.flt .f32)) (.pair (.sl (.flt .f32)) (.sl (.flt .f32))))))), .imm (.int .i64), .imm (.int .i64)] [⟨false, (.flt .f32), y21⟩] []⟩, [1, 2, 3, 4, 5, 6, 7, 8, 9, 10]⟩]) (tds := [[0, 1, 2, 3, 4, 5, 6, 7, 8, 9, 10, 11], [0, 1, 2, 3, 4, 5, 6, 7, 8, 9, 10, 11, 12]]) (rs := [⟨none, .no⟩, ⟨none, .no⟩]) (st' := ⟨[(8, .one (.dat (.flt .f32) (fop .mul .f32 (fop .mul .f32 s7.1 y18) y21))), (57, .one (.dat (.flt .f32) (fop .mul .f32 (fop .mul .f32 s7.1 y18) y21))), (56, .one (.dat (.flt .f32) y21)), (55, .one (.dat (.int .i64) (List.getD a2 (Int.toNat (wadd .i64 s7.2 (1 : Int))) (0 : Int)))), (54, .one (.ip (.int .i64) (List.getD a2 (Int.toNat (wadd .i64 s7.2 (1 : Int))) (0 : Int)) 0)), (53, .one (.dat (.int .i64) (wadd .i64 s7.2 (1 : Int)))), (52, .one (.dat (.int .i64) s7.2)), (51, .one (.dat (.sl (.int .i64)) a2)), (50, .one (.dat (.int .i64) (List.getD a2 (Int.toNat s7.2) (0 : Int)))), (49, .one (.ip (.int .i64) (List.getD a2 (Int.toNat s7.2) (0 : Int)) 0)), (48, .one (.dat (.int .i64) s7.2)), (47, .one (.dat (.sl (.int .i64)) a2)), (46, .agg [.dat (.int .i64) a0.1, .dat (.int .i64) a0.2.1, .dat (.sl (.flt .f32)) a0.2.2.1, .dat (.sl (.flt .f32)) a0.2.2.2.1, .dat (.sl (.flt .f32)) a0.2.2.2.2]), (45, .one (.dat (.flt .f32) (fop .mul .f32 s7.1 y18))), (2, .one (.dat (.sl (.int .i64)) a2)), (3, .one (.ptr 0 0)), (8, .one (.dat (.flt .f32) (fop .mul .f32 s7.1 y18))), (9, .one (.dat (.int .i64) s7.2)), (29, .one (.dat (.sl (.int .i64)) a1)), (30, .one (.dat (.int .i64) (lenI a1))), (31, .one (.dat (.int .i64) s7.2))], [(0, .box [.dat (.int .i64) a0.1, .dat (.int .i64) a0.2.1, .dat (.sl (.flt .f32)) a0.2.2.1, .dat (.sl (.flt .f32)) a0.2.2.2.1, .dat (.sl (.flt .f32)) a0.2.2.2.2])], 1⟩) hP hN (by kernel_rfl) (by kernel_rfl) (allCons hg17 (allCons hg20 (allCons (f99_ok hc22) allNil))) (qBlock (qThen ?_))
          have hx13 := of_some hx13
          subst hx13
          refine HT.reg (rs := [⟨none, .no⟩, ⟨none, .no⟩]) (st' := ⟨[(31, .one (.dat (.int .i64) (wadd .i64 s7.2 (1 : Int)))), (58, .one (.dat (.int .i64) (wadd .i64 s7.2 (1 : Int)))), (8, .one (.dat (.flt .f32) (fop .mul .f32 (fop .mul .f32 s7.1 y18) y21))), (57, .one (.dat (.flt .f32) (fop .mul .f32 (fop .mul .f32 s7.1 y18) y21))), (56, .one (.dat (.flt .f32) y21)), (55, .one (.dat (.int .i64) (List.getD a2 (Int.toNat (wadd .i64 s7.2 (1 : Int))) (0 : Int)))), (54, .one (.ip (.int .i64) (List.getD a2 (Int.toNat (wadd .i64 s7.2 (1 : Int))) (0 : Int)) 0)), (53, .one (.dat (.int .i64) (wadd .i64 s7.2 (1 : Int)))), (52, .one (.dat (.int .i64) s7.2)), (51, .one (.dat (.sl (.int .i64)) a2)), (50, .one (.dat (.int .i64) (List.getD a2 (Int.toNat s7.2) (0 : Int)))), (49, .one (.ip (.int .i64) (List.getD a2 (Int.toNat s7.2) (0 : Int)) 0)), (48, .one (.dat (.int .i64) s7.2)), (47, .one (.dat (.sl (.int .i64)) a2)), (46, .agg [.dat (.int .i64) a0.1, .dat (.int .i64) a0.2.1, .dat (.sl (.flt .f32)) a0.2.2.1, .dat (.sl (.flt .f32)) a0.2.2.2.1, .dat (.sl (.flt .f32)) a0.2.2.2.2]), (45, .one (.dat (.flt .f32) (fop .mul .f32 s7.1 y18))), (2, .one (.dat (.sl (.int .i64)) a2)), (3, .one (.ptr 0 0)), (8, .one (.dat (.flt .f32) (fop .mul .f32 s7.1 y18))), (9, .one (.dat (.int .i64) s7.2)), (29, .one (.dat (.sl (.int .i64)) a1)), (30, .one (.dat (.int .i64) (lenI a1))), (31, .one (.dat (.int .i64) s7.2))], [(0, .box [.dat (.int .i64) a0.1, .dat (.int .i64) a0.2.1, .dat (.sl (.flt .f32)) a0.2.2.1, .dat (.sl (.flt .f32)) a0.2.2.2.1, .dat (.sl (.flt .f32)) a0.2.2.2.2])], 1⟩) hP hN (by kernel_rfl) allNil (qLoopN ⟨((fop .mul .f32 (fop .mul .f32 s7.1 y18) y21), (wadd .i64 s7.2 (1 : Int))), rfl, Le.cv (s := ⟨[(0, 0)], [], [], false⟩) (own := []) (ps := [a2 = a2, (fop .mul .f32 (fop .mul .f32 s7.1 y18) y21) = (fop .mul .f32 (fop .mul .f32 s7.1 y18) y21), a1 = a1, (lenI a1) = (lenI a1), (wadd .i64 s7.2 (1 : Int)) = (wadd .i64 s7.2 (1 : Int)), a0.1 = a0.1, a0.2.1 = a0.2.1, a0.2.2.1 = a0.2.2.1, a0.2.2.2.1 = a0.2.2.2.1, a0.2.2.2.2 = a0.2.2.2.2]) (st' := ⟨[(2, .one (.dat (.sl (.int .i64)) a2)), (3, .one (.ptr 0 0)), (8, .one (.dat (.flt .f32) (fop .mul .f32 (fop .mul .f32 s7.1 y18) y21))), (29, .one (.dat (.sl (.int .i64)) a1)), (30, .one (.dat (.int .i64) (lenI a1))), (31, .one (.dat (.int .i64) (wadd .i64 s7.2 (1 : Int))))], [(0, .box [.dat (.int .i64) a0.1, .dat (.int .i64) a0.2.1, .dat (.sl (.flt .f32)) a0.2.2.1, .dat (.sl (.flt .f32)) a0.2.2.2.1, .dat (.sl (.flt .f32)) a0.2.2.2.2])], 1⟩) hO (fun h => by cases h) (by kernel_rfl) ⟨rfl, rfl, rfl, rfl, rfl, rfl, rfl, rfl, rfl, rfl, trivial⟩⟩)
        · refine HT.cond0 rfl hb15 ?_
          have hx13 := of_some hx13
          subst hx13
          refine (Le.cv (s := ⟨[], [], [], false⟩) (own := []) (ps := [s7.1 = s7.1]) (st' := ⟨[(8, .one (.dat (.flt .f32) s7.1))], [], 0⟩) hO (fun h => by cases h) (by kernel_rfl) ⟨rfl, trivial⟩).ht ?_
          exact HT.exit (qThenE (qLoopE (hk14 s7.1 rfl)))
  · obtain ⟨y24, hc25, hT3⟩ := of_bind hT3
    rcases of_bif hT3 with ⟨hb26, hT3⟩ | ⟨hb26, hT3⟩
    · refine HT.reg (rs := [⟨none, .no⟩, ⟨none, .no⟩, ⟨none, .call [.imm (.st (.pair (.int .i64) (.pair (.int .i64) (.pair (.sl (.flt .f32)) (.pair (.sl (.flt .f32)) (.sl (.flt .f32))))))), .imm (.sl (.int .i64))] [⟨false, .bool, y24⟩] []⟩, ⟨none, .no⟩, ⟨none, .no⟩, ⟨some true, .no⟩, ⟨some true, .no⟩, ⟨some true, .no⟩, ⟨some true, .no⟩, ⟨some true, .no⟩, ⟨none, .tv true⟩]) (st' := ⟨[(21, .one (.dat .bool true)), (20, .und), (19, .und), (18, .und), (17, .und), (16, .und), (15, .one (.dat .bool (!y24))), (14, .one (.dat .bool (!y24))), (13, .one (.dat .bool y24)), (12, .one (.dat (.sl (.int .i64)) a1)), (11, .agg [.dat (.int .i64) a0.1, .dat (.int .i64) a0.2.1, .dat (.sl (.flt .f32)) a0.2.2.1, .dat (.sl (.flt .f32)) a0.2.2.2.1, .dat (.sl (.flt .f32)) a0.2.2.2.2]), (1, .one (.dat (.sl (.int .i64)) a1)), (2, .one (.dat (.sl (.int .i64)) a2)), (3, .one (.ptr 0 0))], [(0, .box [.dat (.int .i64) a0.1, .dat (.int .i64) a0.2.1, .dat (.sl (.flt .f32)) a0.2.2.1, .dat (.sl (.flt .f32)) a0.2.2.2.1, .dat (.sl (.flt .f32)) a0.2.2.2.2])], 1⟩) hP hN (by kernel_rfl) (allCons (f96_ok hc25) (allCons hb26 (allCons hb26 (allCons hb26 (allCons hb26 (allCons hb26 (allCons hb26 allNil))))))) (qThen ?_)
      exact (Le.cv (s := ⟨[(0, 0)], [], [], false⟩) (own := []) (ps := [a1 = a1, a2 = a2, true = true, a0.1 = a0.1, a0.2.1 = a0.2.1, a0.2.2.1 = a0.2.2.1, a0.2.2.2.1 = a0.2.2.2.1, a0.2.2.2.2 = a0.2.2.2.2]) (st' := ⟨[(1, .one (.dat (.sl (.int .i64)) a1)), (2, .one (.dat (.sl (.int .i64)) a2)), (3, .one (.ptr 0 0)), (21, .one (.dat .bool true))], [(0, .box [.dat (.int .i64) a0.1, .dat (.int .i64) a0.2.1, .dat (.sl (.flt .f32)) a0.2.2.1, .dat (.sl (.flt .f32)) a0.2.2.2.1, .dat (.sl (.flt .f32)) a0.2.2.2.2])], 1⟩) hO (fun h => by cases h) (by kernel_rfl) ⟨rfl, rfl, rfl, rfl, rfl, rfl, rfl, rfl, trivial⟩).ht (cont true (of_some hT3))
    · obtain ⟨y27, hc28, hT3⟩ := of_bind hT3
      refine HT.reg (rs := [⟨none, .no⟩, ⟨none, .no⟩, ⟨none, .call [.imm (.st (.pair (.int .i64) (.pair (.int .i64) (.pair (.sl (.flt .f32)) (.pair (.sl (.flt .f32)) (.sl (.flt .f32))))))), .imm (.sl (.int .i64))] [⟨false, .bool, y24⟩] []⟩, ⟨none, .no⟩, ⟨none, .no⟩, ⟨some false, .no⟩, ⟨some false, .no⟩, ⟨some false, .no⟩, ⟨some false, .call [.imm (.st (.pair (.int .i64) (.pair (.int .i64) (.pair (.sl (.flt .f32)) (.pair (.sl (.flt .f32)) (.sl (.flt .f32))))))), .imm (.sl (.int .i64)), .imm (.sl (.int .i64))] [⟨false, .bool, y27⟩] []⟩, ⟨some false, .no⟩, ⟨none, .tv false⟩]) (st' := ⟨[(21, .one (.dat .bool (!y27))), (20, .one (.dat .bool (!y27))), (19, .one (.dat .bool y27)), (18, .one (.dat (.sl (.int .i64)) a2)), (17, .one (.dat (.sl (.int .i64)) a1)), (16, .agg [.dat (.int .i64) a0.1, .dat (.int .i64) a0.2.1, .dat (.sl (.flt .f32)) a0.2.2.1, .dat (.sl (.flt .f32)) a0.2.2.2.1, .dat (.sl (.flt .f32)) a0.2.2.2.2]), (15, .one (.dat .bool (!y24))), (14, .one (.dat .bool (!y24))), (13, .one (.dat .bool y24)), (12, .one (.dat (.sl (.int .i64)) a1)), (11, .agg [.dat (.int .i64) a0.1, .dat (.int .i64) a0.2.1, .dat (.sl (.flt .f32)) a0.2.2.1, .dat (.sl (.flt .f32)) a0.2.2.2.1, .dat (.sl (.flt .f32)) a0.2.2.2.2]), (1, .one (.dat (.sl (.int .i64)) a1)), (2, .one (.dat (.sl (.int .i64)) a2)), (3, .one (.ptr 0 0))], [(0, .box [.dat (.int .i64) a0.1, .dat (.int .i64) a0.2.1, .dat (.sl (.flt .f32)) a0.2.2.1, .dat (.sl (.flt .f32)) a0.2.2.2.1, .dat (.sl (.flt .f32)) a0.2.2.2.2])], 1⟩) hP hN (by kernel_rfl) (allCons (f96_ok hc25) (allCons hb26 (allCons hb26 (allCons hb26 (allCons hb26 (allCons (f146_ok hc28) (allCons hb26 (allCons hb26 allNil)))))))) (qThen ?_)
      exact (Le.cv (s := ⟨[(0, 0)], [], [], false⟩) (own := []) (ps := [a1 = a1, a2 = a2, (!y27) = (!y27), a0.1 = a0.1, a0.2.1 = a0.2.1, a0.2.2.1 = a0.2.2.1, a0.2.2.2.1 = a0.2.2.2.1, a0.2.2.2.2 = a0.2.2.2.2]) (st' := ⟨[(1, .one (.dat (.sl (.int .i64)) a1)), (2, .one (.dat (.sl (.int .i64)) a2)), (3, .one (.ptr 0 0)), (21, .one (.dat .bool (!y27)))], [(0, .box [.dat (.int .i64) a0.1, .dat (.int .i64) a0.2.1, .dat (.sl (.flt .f32)) a0.2.2.1, .dat (.sl (.flt .f32)) a0.2.2.2.1, .dat (.sl (.flt .f32)) a0.2.2.2.2])], 1⟩) hO (fun h => by cases h) (by kernel_rfl) ⟨rfl, rfl, rfl, rfl, rfl, rfl, rfl, rfl, trivial⟩).ht (cont (!y27) (of_some hT3))

noncomputable def impl_ValidLoop (a0 : List Int × List Int) (a1 : Int) : Option (Bool) :=
  (show Option (Bool) from
    (impl_IsWord a0.1 a1).bind fun y4 =>
    bif y4 then
      (impl_IsWord a0.2 a1).bind fun y7 =>
      bif y7 then
        some (decide ((lenI a0.2) > (0 : Int)))
      else
        some false
    else
      some false).bind fun v1 =>
  some v1

theorem f76_ok {a0 : List Int × List Int} {a1 : Int} {r : Bool} (hr : impl_ValidLoop a0 a1 = some r) : CallOK Try.prog 76 [.imm (.st (.pair (.sl (.int .i64)) (.sl (.int .i64)))) a0, .imm (.int .i64) a1] [⟨false, .bool, r⟩] [] := by
  unfold impl_ValidLoop at hr
  refine CallOK.of_body (ts := [(false, .bool)]) Try.func76 rfl (by kernel_rfl) (Nat.le_of_ble_eq_true (by kernel_rfl)) fun cx hP hN hO hF => ?_
  have hO : cx.own.map Prod.fst = [] := hO
  have hF : cx.F = [] := hF rfl
  show HT cx ⟨[(0, .agg [.dat (.sl (.int .i64)) a0.1, .dat (.sl (.int .i64)) a0.2]), (1, .one (.dat (.int .i64) a1))], [], 0⟩ _ _
  refine HT.reg1 [1, 2] [⟨none, .no⟩, ⟨none, .no⟩] ⟨[(1, .one (.dat (.int .i64) a1)), (2, .one (.ptr 0 0))], [(0, .box [.dat (.sl (.int .i64)) a0.1, .dat (.sl (.int .i64)) a0.2])], 1⟩ hP hN (by kernel_rfl) allNil ?_
  obtain ⟨v1', hT3, hr⟩ := of_bind hr
  refine HT.join (fun (v1 : Bool) => ⟨[(4, .one (.dat .bool v1))], [], 0⟩) (fun v => v = v1') (fun v1 hv2 => ?_) (fun cont => ?_)
  · subst hv2
    have hr := of_some hr
    subst hr
    exact HT.ret ⟨[.one (.dat .bool v1)], [], [], by kernel_rfl, by kernel_rfl, rfl, (.inl rfl), by kernel_rfl, trivial⟩
  · obtain ⟨y4, hc5, hT3⟩ := of_bind hT3
    rcases of_bif hT3 with ⟨hb6, hT3⟩ | ⟨hb6, hT3⟩
    · obtain ⟨y7, hc8, hT3⟩ := of_bind hT3
      rcases of_bif hT3 with ⟨hb9, hT3⟩ | ⟨hb9, hT3⟩
      · refine HT.reg (rs := [⟨none, .no⟩, ⟨none, .no⟩, ⟨none, .no⟩, ⟨none, .call [.imm (.sl (.int .i64)), .imm (.int .i64)] [⟨false, .bool, y4⟩] []⟩, ⟨none, .no⟩, ⟨some true, .no⟩, ⟨some true, .no⟩, ⟨some true, .no⟩, ⟨some true, .call [.imm (.sl (.int .i64)), .imm (.int .i64)] [⟨false, .bool, y7⟩] []⟩, ⟨none, .tv true⟩, ⟨none, .no⟩, ⟨some true, .no⟩, ⟨some true, .no⟩, ⟨some true, .no⟩, ⟨some true, .no⟩, ⟨none, .tv true⟩, ⟨none, .no⟩]) (st' := ⟨[(4, .one (.dat .bool (decide ((lenI a0.2) > (0 : Int))))), (20, .one (.dat .bool (decide ((lenI a0.2) > (0 : Int))))), (19, .one (.dat .bool (decide ((lenI a0.2) > (0 : Int))))), (18, .one (.dat (.int .i64) (lenI a0.2))), (17, .one (.dat (.sl (.int .i64)) a0.2)), (16, .one (.ptr 0 1)), (15, .one (.dat .bool y7)), (14, .one (.dat .bool y7)), (13, .one (.dat .bool y7)), (12, .one (.dat (.int .i64) a1)), (11, .one (.dat (.sl (.int .i64)) a0.2)), (10, .one (.ptr 0 1)), (9, .one (.dat .bool y4)), (8, .one (.dat .bool y4)), (7, .one (.dat (.int .i64) a1)), (6, .one (.dat (.sl (.int .i64)) a0.1)), (5, .one (.ptr 0 0)), (1, .one (.dat (.int .i64) a1)), (2, .one (.ptr 0 0))], [(0, .box [.dat (.sl (.int .i64)) a0.1, .dat (.sl (.int .i64)) a0.2])], 1⟩) hP hN (by kernel_rfl) (allCons (f153_ok hc5) (allCons hb6 (allCons hb6 (allCons hb6 (allCons hb6 (allCons (f153_ok hc8) (allCons hb6 (allCons hb9 (allCons hb9 (allCons hb9 (allCons hb9 (allCons hb9 allNil)))))))))))) (qThen ?_)
        exact (Le.cv (s := ⟨[], [], [], false⟩) (own := []) (ps := [(decide ((lenI a0.2) > (0 : Int))) = (decide ((lenI a0.2) > (0 : Int)))]) (st' := ⟨[(4, .one (.dat .bool (decide ((lenI a0.2) > (0 : Int)))))], [], 0⟩) hO (fun h => by cases h) (by kernel_rfl) ⟨rfl, trivial⟩).ht (cont (decide ((lenI a0.2) > (0 : Int))) (of_some hT3))
      · refine HT.reg (rs := [⟨none, .no⟩, ⟨none, .no⟩, ⟨none, .no⟩, ⟨none, .call [.imm (.sl (.int .i64)), .imm (.int .i64)] [⟨false, .bool, y4⟩] []⟩, ⟨none, .no⟩, ⟨some true, .no⟩, ⟨some true, .no⟩, ⟨some true, .no⟩, ⟨some true, .call [.imm (.sl (.int .i64)), .imm (.int .i64)] [⟨false, .bool, y7⟩] []⟩, ⟨none, .tv true⟩, ⟨none, .no⟩, ⟨some false, .no⟩, ⟨some false, .no⟩, ⟨some false, .no⟩, ⟨some false, .no⟩, ⟨none, .tv false⟩, ⟨none, .no⟩]) (st' := ⟨[(4, .one (.dat .bool false)), (20, .one (.dat .bool false)), (19, .und), (18, .und), (17, .und), (16, .und), (15, .one (.dat .bool y7)), (14, .one (.dat .bool y7)), (13, .one (.dat .bool y7)), (12, .one (.dat (.int .i64) a1)), (11, .one (.dat (.sl (.int .i64)) a0.2)), (10, .one (.ptr 0 1)), (9, .one (.dat .bool y4)), (8, .one (.dat .bool y4)), (7, .one (.dat (.int .i64) a1)), (6, .one (.dat (.sl (.int .i64)) a0.1)), (5, .one (.ptr 0 0)), (1, .one (.dat (.int .i64) a1)), (2, .one (.ptr 0 0))], [(0, .box [.dat (.sl (.int .i64)) a0.1, .dat (.sl (.int .i64)) a0.2])], 1⟩) hP hN (by kernel_rfl) (allCons (f153_ok hc5) (allCons hb6 (allCons hb6 (allCons hb6 (allCons hb6 (allCons (f153_ok hc8) (allCons hb6 (allCons hb9 (allCons hb9 (allCons hb9 (allCons hb9 (allCons hb9 allNil)))))))))))) (qThen ?_)
        exact (Le.cv (s := ⟨[], [], [], false⟩) (own := []) (ps := [false = false]) (st' := ⟨[(4, .one (.dat .bool false))], [], 0⟩) hO (fun h => by cases h) (by kernel_rfl) ⟨rfl, trivial⟩).ht (cont false (of_some hT3))
    · refine HT.reg (rs := [⟨none, .no⟩, ⟨none, .no⟩, ⟨none, .no⟩, ⟨none, .call [.imm (.sl (.int .i64)), .imm (.int .i64)] [⟨false, .bool, y4⟩] []⟩, ⟨none, .no⟩, ⟨some false, .no⟩, ⟨some false, .no⟩, ⟨some false, .no⟩, ⟨some false, .no⟩, ⟨none, .tv false⟩, ⟨none, .no⟩, ⟨some false, .no⟩, ⟨some false, .no⟩, ⟨some false, .no⟩, ⟨some false, .no⟩, ⟨none, .tv false⟩, ⟨none, .no⟩]) (st' := ⟨[(4, .one (.dat .bool false)), (20, .one (.dat .bool false)), (19, .und), (18, .und), (17, .und), (16, .und), (15, .one (.dat .bool false)), (14, .one (.dat .bool false)), (13, .und), (12, .und), (11, .und), (10, .und), (9, .one (.dat .bool y4)), (8, .one (.dat .bool y4)), (7, .one (.dat (.int .i64) a1)), (6, .one (.dat (.sl (.int .i64)) a0.1)), (5, .one (.ptr 0 0)), (1, .one (.dat (.int .i64) a1)), (2, .one (.ptr 0 0))], [(0, .box [.dat (.sl (.int .i64)) a0.1, .dat (.sl (.int .i64)) a0.2])], 1⟩) hP hN (by kernel_rfl) (allCons (f153_ok hc5) (allCons hb6 (allCons hb6 (allCons hb6 (allCons hb6 (allCons hb6 (allCons (rfl : false = false) (allCons (rfl : false = false) (allCons (rfl : false = false) (allCons (rfl : false = false) (allCons (rfl : false = false) allNil))))))))))) (qThen ?_)
      exact (Le.cv (s := ⟨[], [], [], false⟩) (own := []) (ps := [false = false]) (st' := ⟨[(4, .one (.dat .bool false))], [], 0⟩) hO (fun h => by cases h) (by kernel_rfl) ⟨rfl, trivial⟩).ht (cont false (of_some hT3))

end Go.Proofs
