import Derived.Test.YtjekgiabgglokaaLibD
import Derived.Test.YtjekgiabgglokaaProg
set_option linter.unusedVariables false
set_option linter.unusedSimpArgs false
set_option linter.unusedSectionVars false
/-
  Functions as plain functions, and their contracts. Printed by a program.
-/
namespace Go.Proofs
open Go.Ide

noncomputable def laws_toFloat32S_B1 (a0 : List Nat) (s2 : Int × List Nat) : Option ((Int × List Nat) ⊕ (List Nat)) :=
  bif (decide (s2.1 < (lenI a0))) then
    guardP ((0 : Int) ≤ s2.1 ∧ s2.1 < lenI a0) (
      guardP ((0 : Int) ≤ s2.1 ∧ s2.1 < lenI s2.2) (
        some (.inl ((wadd .i64 s2.1 (1 : Int)), (List.set s2.2 (Int.toNat s2.1) (List.getD a0 (Int.toNat s2.1) (0 : Nat)))))))
  else
    some (.inr s2.2)

noncomputable def laws_toFloat32S (a0 : List Nat) : Option (List Nat) :=
  guardP ((0 : Int) ≤ (lenI a0) ∧ (lenI a0) ≤ 4294967296) (
    (rounds (laws_toFloat32S_B1 a0) ((0 : Int), (List.replicate (Int.toNat (lenI a0)) (0 : Nat)))).bind fun r4 =>
    some r4)

theorem f8_ok {a0 : List Nat} {r : List Nat} (hr : laws_toFloat32S a0 = some r) : CallOK Try.prog 8 [.imm tLF a0] [⟨true, tLF, r⟩] [] := by
  unfold laws_toFloat32S at hr
  refine CallOK.of_body (ts := [(true, tLF)]) Try.func8 rfl (by kernel_rfl) (Nat.le_of_ble_eq_true (by kernel_rfl)) fun cx hP hN hO hF => ?_
  have hO : cx.own.map Prod.fst = [] := hO
  have hX := CxIs.mk hP hN hO
  have hF := hF rfl
  show HT cx ⟨[(0, lV a0)], [], 0⟩ _ _
  refine HT.rg2 [oH] ⟨[(0, lV a0)], [], 0⟩ hX (by kernel_rfl) allNil ?_
  obtain ⟨hg1, hr⟩ := of_guard hr
  refine HT.rg2 [oH, oH, ⟨none, .ty tF⟩, oH] ⟨[(0, lV a0), (3, aV 0)], [(0, .seq tF (List.replicate (Int.toNat (lenI a0)) (0 : Nat)))], 1⟩ hX (by kernel_rfl) (allCons (show (0 : Int) ≤ (lenI a0) ∧ (lenI a0) ≤ (lenI a0) ∧ (lenI a0) ≤ 4294967296 from ⟨hg1.1, Int.le_refl _, hg1.2⟩) allNil) ?_
  refine HT.seq ?_
  refine HT.rg2 [oH] ⟨[(0, lV a0), (3, aV 0), (4, iV (0 : Int))], [(0, .seq tF (List.replicate (Int.toNat (lenI a0)) (0 : Nat)))], 1⟩ hX (by kernel_rfl) allNil ?_
  refine HT.block ?_
  obtain ⟨r3, hL11, hr⟩ := of_bind hr
  refine HT.loopL (fun (s2 : Int × List Nat) => ⟨[(0, lV a0), (3, aV 0), (4, iV s2.1)], [(0, .seq tF s2.2)], 1⟩) (fun (r4 : List Nat) => (.exit 0, ⟨[(3, aV 0)], [(0, .seq tF r4)], 1⟩)) (Le.re [(0, 0)] [] hX (by kernel_rfl)) hL11 ?_ (fun s2 x5 hx6 hk7 => ?_)
  · refine (qBlockX (qThen ?_))
    refine HT.rg2 (oHs 2) ⟨[(2, aV 0)], [(0, .seq tF r3)], 1⟩ hX (by kernel_rfl) allNil ?_
    have hr := of_some hr
    subst hr
    exact HT.ret ⟨[aV 0], [0], [], by kernel_rfl, by kernel_rfl, rfl, by kernel_rfl, by kernel_rfl, trivial⟩
  · refine HT.seq ?_
    refine HT.rg2 (oHs 4) ⟨[(0, lV a0), (3, aV 0), (4, iV s2.1), (11, bV (decide (s2.1 < (lenI a0))))], [(0, .seq tF s2.2)], 1⟩ hX (by kernel_rfl) allNil ?_
    rcases of_bif hx6 with ⟨hb8, hx6⟩ | ⟨hb8, hx6⟩
    · refine HT.cond1 rfl hb8 ?_
      refine HT.skip (qThen ?_)
      refine HT.seq ?_
      refine HT.block ?_
      obtain ⟨hg9, hx6⟩ := of_guard hx6
      obtain ⟨hg10, hx6⟩ := of_guard hx6
      refine HT.rgL (oHs 8) ⟨[(0, lV a0), (3, aV 0), (4, iV s2.1)], [(0, .seq tF (List.set s2.2 (Int.toNat s2.1) (List.getD a0 (Int.toNat s2.1) (0 : Nat))))], 1⟩ hX (by kernel_rfl) (allCons hg9 (allCons hg10 (allCons (natLt hg10) allNil))) (qBlock (qThen ?_))
      have hx6 := of_some hx6
      subst hx6
      exact HT.rgK (oHs 3) [(0, 0)] [] hX (by kernel_rfl) allNil (fun _ h => (qLoopN ⟨((wadd .i64 s2.1 (1 : Int)), (List.set s2.2 (Int.toNat s2.1) (List.getD a0 (Int.toNat s2.1) (0 : Nat)))), rfl, h⟩))
    · refine HT.cond0 rfl hb8 ?_
      have hx6 := of_some hx6
      subst hx6
      exact HT.exitL (Le.re [(0, 0)] [] hX (by kernel_rfl)) (qThenE (qLoopE (hk7 s2.2 rfl)))

noncomputable def spec_l01Finite (a0 : Nat) : Option (Bool) :=
  some (feq .f32 (fop .sub .f32 a0 a0) (0 : Nat))

theorem f98_ok {a0 : Nat} {r : Bool} (hr : spec_l01Finite a0 = some r) : CallOK Try.prog 98 [.imm tF a0] [⟨false, .bool, r⟩] [] := by
  unfold spec_l01Finite at hr
  refine CallOK.of_body (ts := [(false, .bool)]) Try.func98 rfl (by kernel_rfl) (Nat.le_of_ble_eq_true (by kernel_rfl)) fun cx hP hN hO hF => ?_
  have hO : cx.own.map Prod.fst = [] := hO
  have hX := CxIs.mk hP hN hO
  have hF := hF rfl
  show HT cx ⟨[(0, fV a0)], [], 0⟩ _ _
  refine HT.rg2 [oH] ⟨[(0, fV a0)], [], 0⟩ hX (by kernel_rfl) allNil ?_
  refine HT.rg2 (oHs 5) ⟨[(2, bV (feq .f32 (fop .sub .f32 a0 a0) (0 : Nat)))], [], 0⟩ hX (by kernel_rfl) allNil ?_
  have hr := of_some hr
  subst hr
  exact HT.ret ⟨[bV (feq .f32 (fop .sub .f32 a0 a0) (0 : Nat))], [], [], by kernel_rfl, by kernel_rfl, rfl, by kernel_rfl, by kernel_rfl, trivial⟩

noncomputable def spec_l02Number (a0 : Nat) : Option (Nat × Bool) :=
  (spec_l01Finite a0).bind fun y1 =>
  bif (!y1) then
    some ((0 : Nat), false)
  else
    some (a0, true)

theorem f45_ok {a0 : Nat} {r : Nat × Bool} (hr : spec_l02Number a0 = some r) : CallOK Try.prog 45 [.imm tF a0] [⟨false, tF, r.1⟩, ⟨false, .bool, r.2⟩] [] := by
  unfold spec_l02Number at hr
  refine CallOK.of_body (ts := [(false, tF), (false, .bool)]) Try.func45 rfl (by kernel_rfl) (Nat.le_of_ble_eq_true (by kernel_rfl)) fun cx hP hN hO hF => ?_
  have hO : cx.own.map Prod.fst = [] := hO
  have hX := CxIs.mk hP hN hO
  have hF := hF rfl
  show HT cx ⟨[(0, fV a0)], [], 0⟩ _ _
  refine HT.rg2 (oHs 2) ⟨[(0, fV a0)], [], 0⟩ hX (by kernel_rfl) allNil ?_
  refine HT.seq ?_
  obtain ⟨y1, hc2, hr⟩ := of_bind hr
  refine HT.rg2 [oH, ⟨none, .call [.imm tF] [⟨false, .bool, y1⟩] []⟩, oH] ⟨[(0, fV a0), (6, bV (!y1))], [], 0⟩ hX (by kernel_rfl) (allCons (f98_ok hc2) allNil) ?_
  rcases of_bif hr with ⟨hb3, hr⟩ | ⟨hb3, hr⟩
  · refine HT.cond1 rfl hb3 ?_
    refine HT.rg2 (oHs 2) ⟨[(2, fV (0 : Nat)), (3, bV false)], [], 0⟩ hX (by kernel_rfl) allNil ?_
    have hr := of_some hr
    subst hr
    exact HT.ret (qThenR ⟨[fV (0 : Nat), bV false], [], [], by kernel_rfl, by kernel_rfl, rfl, by kernel_rfl, by kernel_rfl, trivial⟩)
  · refine HT.cond0 rfl hb3 ?_
    refine HT.skip (qThen ?_)
    refine HT.rg2 (oHs 3) ⟨[(2, fV a0), (3, bV true)], [], 0⟩ hX (by kernel_rfl) allNil ?_
    have hr := of_some hr
    subst hr
    exact HT.ret ⟨[fV a0, bV true], [], [], by kernel_rfl, by kernel_rfl, rfl, by kernel_rfl, by kernel_rfl, trivial⟩

noncomputable def spec_l02Finite_B1 (a0 : List Nat) (s1 : Int) : Option ((Int) ⊕ (Unit ⊕ Unit)) :=
  bif (decide (s1 < (lenI a0))) then
    guardP ((0 : Int) ≤ s1 ∧ s1 < lenI a0) (
      (spec_l01Finite (List.getD a0 (Int.toNat s1) (0 : Nat))).bind fun y10 =>
      bif (!y10) then
        some (.inr (.inr ()))
      else
        some (.inl (wadd .i64 s1 (1 : Int))))
  else
    some (.inr (.inl ()))

noncomputable def spec_l02Finite (a0 : List Nat) : Option (Bool) :=
  (rounds (spec_l02Finite_B1 a0) (0 : Int)).bind fun r2 => match r2 with
    | .inl r3 =>
      some true
    | .inr r4 =>
      some false

theorem f44_ok {a0 : List Nat} {r : Bool} (hr : spec_l02Finite a0 = some r) : CallOK Try.prog 44 [.imm tLF a0] [⟨false, .bool, r⟩] [] := by
  unfold spec_l02Finite at hr
  refine CallOK.of_body (ts := [(false, .bool)]) Try.func44 rfl (by kernel_rfl) (Nat.le_of_ble_eq_true (by kernel_rfl)) fun cx hP hN hO hF => ?_
  have hO : cx.own.map Prod.fst = [] := hO
  have hX := CxIs.mk hP hN hO
  have hF := hF rfl
  show HT cx ⟨[(0, lV a0)], [], 0⟩ _ _
  refine HT.rg2 [oH] ⟨[(0, lV a0)], [], 0⟩ hX (by kernel_rfl) allNil ?_
  refine HT.seq ?_
  refine HT.rg2 [oH] ⟨[(0, lV a0), (3, iV (0 : Int))], [], 0⟩ hX (by kernel_rfl) allNil ?_
  refine HT.block ?_
  obtain ⟨r2, hL13, hr⟩ := of_bind hr
  refine HT.loopL (fun (s1 : Int) => ⟨[(0, lV a0), (3, iV s1)], [], 0⟩) (fun (r2 : Unit ⊕ Unit) => match r2 with | .inl r3 => (.exit 0, ⟨[], [], 0⟩) | .inr r4 => (.ret, ⟨[(2, bV false)], [], 0⟩)) (Le.re [] [] hX (by kernel_rfl)) hL13 ?_ (fun s1 x5 hx6 hk7 => ?_)
  · rcases r2 with r3 | r4
    · refine (qBlockX (qThen ?_))
      refine HT.rg2 [oH] ⟨[(2, bV true)], [], 0⟩ hX (by kernel_rfl) allNil ?_
      have hr := of_some hr
      subst hr
      exact HT.ret ⟨[bV true], [], [], by kernel_rfl, by kernel_rfl, rfl, by kernel_rfl, by kernel_rfl, trivial⟩
    · have hr := of_some hr
      subst hr
      exact (qBlockR (qThenR ⟨[bV false], [], [], by kernel_rfl, by kernel_rfl, rfl, by kernel_rfl, by kernel_rfl, trivial⟩))
  · refine HT.seq ?_
    refine HT.rg2 (oHs 4) ⟨[(0, lV a0), (3, iV s1), (7, bV (decide (s1 < (lenI a0))))], [], 0⟩ hX (by kernel_rfl) allNil ?_
    rcases of_bif hx6 with ⟨hb8, hx6⟩ | ⟨hb8, hx6⟩
    · refine HT.cond1 rfl hb8 ?_
      refine HT.skip (qThen ?_)
      refine HT.seq ?_
      refine HT.block ?_
      obtain ⟨hg9, hx6⟩ := of_guard hx6
      obtain ⟨y10, hc11, hx6⟩ := of_bind hx6
      refine HT.rg2 [oH, oH, oH, oH, ⟨none, .call [.imm tF] [⟨false, .bool, y10⟩] []⟩, oH] ⟨[(0, lV a0), (3, iV s1), (15, bV (!y10))], [], 0⟩ hX (by kernel_rfl) (allCons hg9 (allCons (f98_ok hc11) allNil)) ?_
      rcases of_bif hx6 with ⟨hb12, hx6⟩ | ⟨hb12, hx6⟩
      · refine HT.cond1 rfl hb12 ?_
        refine HT.rg2 [oH] ⟨[(2, bV false)], [], 0⟩ hX (by kernel_rfl) allNil ?_
        have hx6 := of_some hx6
        subst hx6
        exact HT.retL (Le.re [] [] hX (by kernel_rfl)) (qBlockR (qThenR (qLoopR (hk7 (.inr ()) rfl))))
      · refine HT.cond0 rfl hb12 ?_
        refine HT.skip (qBlock (qThen ?_))
        have hx6 := of_some hx6
        subst hx6
        exact HT.rgK (oHs 3) [] [] hX (by kernel_rfl) allNil (fun _ h => (qLoopN ⟨(wadd .i64 s1 (1 : Int)), rfl, h⟩))
    · refine HT.cond0 rfl hb8 ?_
      have hx6 := of_some hx6
      subst hx6
      exact HT.exitL (Le.re [] [] hX (by kernel_rfl)) (qThenE (qLoopE (hk7 (.inl ()) rfl)))

noncomputable def spec_AllWords_B1 (a1 : List Nat) (r15 : List Nat) (s16 : Nat × Int) : Option ((Nat × Int) ⊕ (Nat)) :=
  bif (decide (s16.2 < (lenI a1))) then
    guardP ((0 : Int) ≤ s16.2 ∧ s16.2 < lenI a1) (
      guardP ((0 : Int) ≤ s16.2 ∧ s16.2 < lenI r15) (
        some (.inl ((fop .add .f32 s16.1 (fop .mul .f32 (List.getD a1 (Int.toNat s16.2) (0 : Nat)) (List.getD r15 (Int.toNat s16.2) (0 : Nat)))), (wadd .i64 s16.2 (1 : Int))))))
  else
    some (.inr s16.1)

noncomputable def spec_AllWords_B2 (a1 : List Nat) (r11 : List Nat × List Nat) (s13 : Int × List Nat) (s33 : Nat × Int) : Option ((Nat × Int) ⊕ (Nat)) :=
  bif (decide (s33.2 < (lenI a1))) then
    guardP ((0 : Int) ≤ (wadd .i64 (wmul .i64 s13.1 (lenI a1)) s33.2) ∧ (wadd .i64 (wmul .i64 s13.1 (lenI a1)) s33.2) < lenI r11.1) (
      guardP ((0 : Int) ≤ s33.2 ∧ s33.2 < lenI s13.2) (
        some (.inl ((fop .sub .f32 s33.1 (fop .mul .f32 (List.getD r11.1 (Int.toNat (wadd .i64 (wmul .i64 s13.1 (lenI a1)) s33.2)) (0 : Nat)) (List.getD s13.2 (Int.toNat s33.2) (0 : Nat)))), (wadd .i64 s33.2 (1 : Int))))))
  else
    some (.inr s33.1)

noncomputable def spec_AllWords_B3 (a1 : List Nat) (r11 : List Nat × List Nat) (s13 : Int × List Nat) : Option ((Int × List Nat) ⊕ (List Nat)) :=
  bif (decide (s13.1 ≥ (0 : Int))) then
    guardP ((0 : Int) ≤ s13.1 ∧ s13.1 < lenI r11.2) (
      (rounds (spec_AllWords_B2 a1 r11 s13) ((List.getD r11.2 (Int.toNat s13.1) (0 : Nat)), (wadd .i64 s13.1 (1 : Int)))).bind fun r35 =>
      guardP ((0 : Int) ≤ (wadd .i64 (wmul .i64 s13.1 (lenI a1)) s13.1) ∧ (wadd .i64 (wmul .i64 s13.1 (lenI a1)) s13.1) < lenI r11.1) (
        guardP ((0 : Int) ≤ s13.1 ∧ s13.1 < lenI s13.2) (
          some (.inl ((wsub .i64 s13.1 (1 : Int)), (List.set s13.2 (Int.toNat s13.1) (fop .quo .f32 r35 (List.getD r11.1 (Int.toNat (wadd .i64 (wmul .i64 s13.1 (lenI a1)) s13.1)) (0 : Nat)))))))))
  else
    some (.inr s13.2)

noncomputable def spec_AllWords_B4 (a1 : List Nat) (s9 : Int × List Nat × List Nat) (s64 : Int × List Nat × List Nat) (q73 : Nat) (s75 : Int × List Nat) : Option ((Int × List Nat) ⊕ (List Nat)) :=
  bif (decide (s75.1 < (lenI a1))) then
    guardP ((0 : Int) ≤ (wadd .i64 (wmul .i64 s64.1 (lenI a1)) s75.1) ∧ (wadd .i64 (wmul .i64 s64.1 (lenI a1)) s75.1) < lenI s75.2) (
      guardP ((0 : Int) ≤ (wadd .i64 (wmul .i64 s9.1 (lenI a1)) s75.1) ∧ (wadd .i64 (wmul .i64 s9.1 (lenI a1)) s75.1) < lenI s75.2) (
        some (.inl ((wadd .i64 s75.1 (1 : Int)), (List.set s75.2 (Int.toNat (wadd .i64 (wmul .i64 s64.1 (lenI a1)) s75.1)) (fop .sub .f32 (List.getD s75.2 (Int.toNat (wadd .i64 (wmul .i64 s64.1 (lenI a1)) s75.1)) (0 : Nat)) (fop .mul .f32 q73 (List.getD s75.2 (Int.toNat (wadd .i64 (wmul .i64 s9.1 (lenI a1)) s75.1)) (0 : Nat)))))))))
  else
    some (.inr s75.2)

noncomputable def spec_AllWords_B5 (a1 : List Nat) (s9 : Int × List Nat × List Nat) (s64 : Int × List Nat × List Nat) : Option ((Int × List Nat × List Nat) ⊕ ((List Nat × List Nat))) :=
  bif (decide (s64.1 < (lenI a1))) then
    guardP ((0 : Int) ≤ (wadd .i64 (wmul .i64 s64.1 (lenI a1)) s9.1) ∧ (wadd .i64 (wmul .i64 s64.1 (lenI a1)) s9.1) < lenI s64.2.1) (
      guardP ((0 : Int) ≤ (wadd .i64 (wmul .i64 s9.1 (lenI a1)) s9.1) ∧ (wadd .i64 (wmul .i64 s9.1 (lenI a1)) s9.1) < lenI s64.2.1) (
        (some (fop .quo .f32 (List.getD s64.2.1 (Int.toNat (wadd .i64 (wmul .i64 s64.1 (lenI a1)) s9.1)) (0 : Nat)) (List.getD s64.2.1 (Int.toNat (wadd .i64 (wmul .i64 s9.1 (lenI a1)) s9.1)) (0 : Nat)))).bind fun q73 =>
        (rounds (spec_AllWords_B4 a1 s9 s64 q73) ((wadd .i64 s9.1 (1 : Int)), s64.2.1)).bind fun r77 =>
        guardP ((0 : Int) ≤ s64.1 ∧ s64.1 < lenI s64.2.2) (
          guardP ((0 : Int) ≤ s9.1 ∧ s9.1 < lenI s64.2.2) (
            some (.inl ((wadd .i64 s64.1 (1 : Int)), r77, (List.set s64.2.2 (Int.toNat s64.1) (fop .sub .f32 (List.getD s64.2.2 (Int.toNat s64.1) (0 : Nat)) (fop .mul .f32 q73 (List.getD s64.2.2 (Int.toNat s9.1) (0 : Nat)))))))))))
  else
    some (.inr (s64.2.1, s64.2.2))

noncomputable def spec_AllWords_B6 (a1 : List Nat) (s9 : Int × List Nat × List Nat) (r53 : Int) (s56 : Int × List Nat) : Option ((Int × List Nat) ⊕ (List Nat)) :=
  bif (decide (s56.1 < (lenI a1))) then
    guardP ((0 : Int) ≤ (wadd .i64 (wmul .i64 s9.1 (lenI a1)) s56.1) ∧ (wadd .i64 (wmul .i64 s9.1 (lenI a1)) s56.1) < lenI s56.2) (
      guardP ((0 : Int) ≤ (wadd .i64 (wmul .i64 r53 (lenI a1)) s56.1) ∧ (wadd .i64 (wmul .i64 r53 (lenI a1)) s56.1) < lenI s56.2) (
        (some (List.set s56.2 (Int.toNat (wadd .i64 (wmul .i64 s9.1 (lenI a1)) s56.1)) (List.getD s56.2 (Int.toNat (wadd .i64 (wmul .i64 r53 (lenI a1)) s56.1)) (0 : Nat)))).bind fun q94 =>
        guardP ((0 : Int) ≤ (wadd .i64 (wmul .i64 r53 (lenI a1)) s56.1) ∧ (wadd .i64 (wmul .i64 r53 (lenI a1)) s56.1) < lenI q94) (
          some (.inl ((wadd .i64 s56.1 (1 : Int)), (List.set q94 (Int.toNat (wadd .i64 (wmul .i64 r53 (lenI a1)) s56.1)) (List.getD s56.2 (Int.toNat (wadd .i64 (wmul .i64 s9.1 (lenI a1)) s56.1)) (0 : Nat))))))))
  else
    some (.inr s56.2)

noncomputable def spec_AllWords_B7 (a1 : List Nat) (s9 : Int × List Nat × List Nat) (s51 : Int × Int) : Option ((Int × Int) ⊕ (Int)) :=
  bif (decide (s51.2 < (lenI a1))) then
    (show Option (Int) from
      guardP ((0 : Int) ≤ (wadd .i64 (wmul .i64 s51.2 (lenI a1)) s9.1) ∧ (wadd .i64 (wmul .i64 s51.2 (lenI a1)) s9.1) < lenI s9.2.1) (
        guardP ((0 : Int) ≤ (wadd .i64 (wmul .i64 s51.1 (lenI a1)) s9.1) ∧ (wadd .i64 (wmul .i64 s51.1 (lenI a1)) s9.1) < lenI s9.2.1) (
          (show Option (Nat) from
            bif (flt .f32 (List.getD s9.2.1 (Int.toNat (wadd .i64 (wmul .i64 s51.2 (lenI a1)) s9.1)) (0 : Nat)) (0 : Nat)) then
              some (fneg .f32 (List.getD s9.2.1 (Int.toNat (wadd .i64 (wmul .i64 s51.2 (lenI a1)) s9.1)) (0 : Nat)))
            else
              some (List.getD s9.2.1 (Int.toNat (wadd .i64 (wmul .i64 s51.2 (lenI a1)) s9.1)) (0 : Nat))).bind fun v107 =>
          (show Option (Nat) from
            bif (flt .f32 (List.getD s9.2.1 (Int.toNat (wadd .i64 (wmul .i64 s51.1 (lenI a1)) s9.1)) (0 : Nat)) (0 : Nat)) then
              some (fneg .f32 (List.getD s9.2.1 (Int.toNat (wadd .i64 (wmul .i64 s51.1 (lenI a1)) s9.1)) (0 : Nat)))
            else
              some (List.getD s9.2.1 (Int.toNat (wadd .i64 (wmul .i64 s51.1 (lenI a1)) s9.1)) (0 : Nat))).bind fun v110 =>
          bif (fgt .f32 v107 v110) then
            some s51.2
          else
            some s51.1))).bind fun v102 =>
    some (.inl (v102, (wadd .i64 s51.2 (1 : Int))))
  else
    some (.inr s51.1)

noncomputable def spec_AllWords_B8 (a1 : List Nat) (s9 : Int × List Nat × List Nat) : Option ((Int × List Nat × List Nat) ⊕ ((List Nat × List Nat) ⊕ Unit)) :=
  bif (decide (s9.1 < (lenI a1))) then
    (rounds (spec_AllWords_B7 a1 s9) (s9.1, (wadd .i64 s9.1 (1 : Int)))).bind fun r53 =>
    guardP ((0 : Int) ≤ (wadd .i64 (wmul .i64 r53 (lenI a1)) s9.1) ∧ (wadd .i64 (wmul .i64 r53 (lenI a1)) s9.1) < lenI s9.2.1) (
      bif (feq .f32 (List.getD s9.2.1 (Int.toNat (wadd .i64 (wmul .i64 r53 (lenI a1)) s9.1)) (0 : Nat)) (0 : Nat)) then
        some (.inr (.inr ()))
      else
        (rounds (spec_AllWords_B6 a1 s9 r53) ((0 : Int), s9.2.1)).bind fun r58 =>
        guardP ((0 : Int) ≤ s9.1 ∧ s9.1 < lenI s9.2.2) (
          guardP ((0 : Int) ≤ r53 ∧ r53 < lenI s9.2.2) (
            guardP ((0 : Int) ≤ r53 ∧ r53 < lenI (List.set s9.2.2 (Int.toNat s9.1) (List.getD s9.2.2 (Int.toNat r53) (0 : Nat)))) (
              (some (List.set (List.set s9.2.2 (Int.toNat s9.1) (List.getD s9.2.2 (Int.toNat r53) (0 : Nat))) (Int.toNat r53) (List.getD s9.2.2 (Int.toNat s9.1) (0 : Nat)))).bind fun q62 =>
              (rounds (spec_AllWords_B5 a1 s9) ((wadd .i64 s9.1 (1 : Int)), r58, q62)).bind fun r66 =>
              some (.inl ((wadd .i64 s9.1 (1 : Int)), r66.1, r66.2))))))
  else
    some (.inr (.inl (s9.2.1, s9.2.2)))

noncomputable def spec_AllWords_B9 (a0 : List Nat) (a1 : List Nat) (s5 : Int × List Nat) : Option ((Int × List Nat) ⊕ (List Nat)) :=
  bif (decide (s5.1 < (lenI a0))) then
    (show Option (Nat) from
      guardP ((wadd .i64 (lenI a1) (1 : Int)) ≠ 0) (
        bif ((Int.tmod s5.1 (wadd .i64 (lenI a1) (1 : Int))) == (0 : Int)) then
          some (1065353216 : Nat)
        else
          some (0 : Nat))).bind fun v122 =>
    guardP ((0 : Int) ≤ s5.1 ∧ s5.1 < lenI a0) (
      guardP (List.length s5.2 + List.length ([(fop .sub .f32 v122 (List.getD a0 (Int.toNat s5.1) (0 : Nat)))] : List Nat) ≤ appMax) (
        some (.inl ((wadd .i64 s5.1 (1 : Int)), (s5.2 ++ ([(fop .sub .f32 v122 (List.getD a0 (Int.toNat s5.1) (0 : Nat)))] : List Nat))))))
  else
    some (.inr s5.2)

noncomputable def spec_AllWords (a0 : List Nat) (a1 : List Nat) (a2 : List Nat) : Option (Nat × Bool) :=
  (show Option (Bool) from
    bif (decide ((lenI a1) < (1 : Int))) then
      some true
    else
      bif (decide ((lenI a1) > (5 : Int))) then
        some true
      else
        bif ((lenI a0) != (wmul .i64 (lenI a1) (lenI a1))) then
          some true
        else
          bif ((lenI a2) != (lenI a1)) then
            some true
          else
            (spec_l02Finite a0).bind fun y134 =>
            bif (!y134) then
              some true
            else
              (spec_l02Finite a1).bind fun y137 =>
              bif (!y137) then
                some true
              else
                (spec_l02Finite a2).bind fun y140 =>
                some (!y140)).bind fun v1 =>
  bif v1 then
    some ((0 : Nat), false)
  else
    (rounds (spec_AllWords_B9 a0 a1) ((0 : Int), ([] : List Nat))).bind fun r7 =>
    guardP (0 + List.length a2 ≤ appMax) (
      (rounds (spec_AllWords_B8 a1) ((0 : Int), r7, a2)).bind fun r10 => match r10 with
        | .inl r11 =>
          guardP ((0 : Int) ≤ (lenI a1) ∧ (lenI a1) ≤ 4294967296) (
            (rounds (spec_AllWords_B3 a1 r11) ((wsub .i64 (lenI a1) (1 : Int)), (List.replicate (Int.toNat (lenI a1)) (0 : Nat)))).bind fun r15 =>
            (rounds (spec_AllWords_B1 a1 r15) ((0 : Nat), (0 : Int))).bind fun r18 =>
            (spec_l02Number r18).bind fun y19 =>
            some (y19.1, y19.2))
        | .inr r46 =>
          some ((0 : Nat), false))

theorem f7_ok {a0 : List Nat} {a1 : List Nat} {a2 : List Nat} {r : Nat × Bool} (hr : spec_AllWords a0 a1 a2 = some r) : CallOK Try.prog 7 [.imm tLF a0, .imm tLF a1, .imm tLF a2] [⟨false, tF, r.1⟩, ⟨false, .bool, r.2⟩] [] := by
  unfold spec_AllWords at hr
  refine CallOK.of_body (ts := [(false, tF), (false, .bool)]) Try.func7 rfl (by kernel_rfl) (Nat.le_of_ble_eq_true (by kernel_rfl)) fun cx hP hN hO hF => ?_
  have hO : cx.own.map Prod.fst = [] := hO
  have hX := CxIs.mk hP hN hO
  have hF := hF rfl
  show HT cx ⟨[(0, lV a0), (1, lV a1), (2, lV a2)], [], 0⟩ _ _
  refine HT.rg2 (oHs 2) ⟨[(0, lV a0), (1, lV a1), (2, lV a2)], [], 0⟩ hX (by kernel_rfl) allNil ?_
  refine HT.rg2 (oHs 3) ⟨[(0, lV a0), (1, lV a1), (2, lV a2), (8, iV (lenI a1))], [], 0⟩ hX (by kernel_rfl) allNil ?_
  refine HT.seq ?_
  obtain ⟨v1', hT3, hr⟩ := of_bind hr
  refine HT.join (fun (v1 : Bool) => ⟨[(0, lV a0), (1, lV a1), (2, lV a2), (8, iV (lenI a1)), (66, bV v1)], [], 0⟩) (fun v => v = v1') (fun v1 hv2 => ?_) (fun cont => ?_)
  · subst hv2
    rcases of_bif hr with ⟨hb4, hr⟩ | ⟨hb4, hr⟩
    · refine HT.cond1 rfl hb4 ?_
      refine HT.rg2 (oHs 2) ⟨[(6, fV (0 : Nat)), (7, bV false)], [], 0⟩ hX (by kernel_rfl) allNil ?_
      have hr := of_some hr
      subst hr
      exact HT.ret (qThenR ⟨[fV (0 : Nat), bV false], [], [], by kernel_rfl, by kernel_rfl, rfl, by kernel_rfl, by kernel_rfl, trivial⟩)
    · refine HT.cond0 rfl hb4 ?_
      refine HT.skip (qThen ?_)
      refine HT.rg2 (oHs 2) ⟨[(0, lV a0), (1, lV a1), (2, lV a2), (8, iV (lenI a1)), (9, .one (.nilS))], [], 0⟩ hX (by kernel_rfl) allNil ?_
      refine HT.seq ?_
      refine HT.rg2 (oHs 3) ⟨[(0, lV a0), (1, lV a1), (2, lV a2), (8, iV (lenI a1)), (9, .one (.nilS)), (69, iV (lenI a0)), (70, iV (0 : Int))], [], 0⟩ hX (by kernel_rfl) allNil ?_
      refine HT.block ?_
      obtain ⟨r6, hL129, hr⟩ := of_bind hr
      refine HT.loopL (fun (s5 : Int × List Nat) => ⟨[(0, lV a0), (1, lV a1), (2, lV a2), (8, iV (lenI a1)), (9, aV 0), (69, iV (lenI a0)), (70, iV s5.1)], [(0, .seq tF s5.2)], 1⟩) (fun (r7 : List Nat) => (.exit 0, ⟨[(1, lV a1), (2, lV a2), (8, iV (lenI a1)), (9, aV 0)], [(0, .seq tF r7)], 1⟩)) (Le.re [] [0] hX (by kernel_rfl)) hL129 ?_ (fun s5 x118 hx119 hk120 => ?_)
      · refine (qBlockX (qThen ?_))
        obtain ⟨hg8, hr⟩ := of_guard hr
        refine HT.rg2 [oH, oH, ⟨none, .ty tF⟩, oH] ⟨[(1, lV a1), (8, iV (lenI a1)), (9, aV 0), (12, aV 1)], [(1, .seq tF a2), (0, .seq tF r6)], 2⟩ hX (by kernel_rfl) (allCons hg8 allNil) ?_
        refine HT.seq ?_
        refine HT.rg2 [oH] ⟨[(1, lV a1), (8, iV (lenI a1)), (9, aV 0), (12, aV 1), (13, iV (0 : Int))], [(1, .seq tF a2), (0, .seq tF r6)], 2⟩ hX (by kernel_rfl) allNil ?_
        refine HT.block ?_
        obtain ⟨r10, hL117, hr⟩ := of_bind hr
        refine HT.loopL (fun (s9 : Int × List Nat × List Nat) => ⟨[(1, lV a1), (8, iV (lenI a1)), (9, aV 0), (12, aV 1), (13, iV s9.1)], [(0, .seq tF s9.2.1), (1, .seq tF s9.2.2)], 2⟩) (fun (r10 : (List Nat × List Nat) ⊕ Unit) => match r10 with | .inl r11 => (.exit 2, ⟨[(1, lV a1), (8, iV (lenI a1)), (9, aV 0), (12, aV 1)], [(0, .seq tF r11.1), (1, .seq tF r11.2)], 2⟩) | .inr r46 => (.ret, ⟨[(6, fV (0 : Nat)), (7, bV false)], [], 0⟩)) (Le.re [(0, 0), (1, 1)] [] hX (by kernel_rfl)) hL117 ?_ (fun s9 x47 hx48 hk49 => ?_)
        · rcases r10 with r11 | r46
          · refine (qBlockX (qThen ?_))
            obtain ⟨hg12, hr⟩ := of_guard hr
            refine HT.rg2 [oH, ⟨none, .ty tF⟩, oH] ⟨[(1, lV a1), (8, iV (lenI a1)), (9, aV 0), (12, aV 1), (24, aV 2)], [(2, .seq tF (List.replicate (Int.toNat (lenI a1)) (0 : Nat))), (0, .seq tF r11.1), (1, .seq tF r11.2)], 3⟩ hX (by kernel_rfl) (allCons (show (0 : Int) ≤ (lenI a1) ∧ (lenI a1) ≤ (lenI a1) ∧ (lenI a1) ≤ 4294967296 from ⟨hg12.1, Int.le_refl _, hg12.2⟩) allNil) ?_
            refine HT.seq ?_
            refine HT.rg2 (oHs 3) ⟨[(1, lV a1), (8, iV (lenI a1)), (9, aV 0), (12, aV 1), (24, aV 2), (25, iV (wsub .i64 (lenI a1) (1 : Int)))], [(2, .seq tF (List.replicate (Int.toNat (lenI a1)) (0 : Nat))), (0, .seq tF r11.1), (1, .seq tF r11.2)], 3⟩ hX (by kernel_rfl) allNil ?_
            refine HT.block ?_
            obtain ⟨r14, hL45, hr⟩ := of_bind hr
            refine HT.loopL (fun (s13 : Int × List Nat) => ⟨[(1, lV a1), (8, iV (lenI a1)), (9, aV 0), (12, aV 1), (24, aV 2), (25, iV s13.1)], [(0, .seq tF r11.1), (1, .seq tF r11.2), (2, .seq tF s13.2)], 3⟩) (fun (r15 : List Nat) => (.exit 12, ⟨[(1, lV a1), (24, aV 0)], [(0, .seq tF r15)], 1⟩)) (Le.re [(0, 0), (1, 1), (2, 2)] [] hX (by kernel_rfl)) hL45 ?_ (fun s13 x28 hx29 hk30 => ?_)
            · refine (qBlockX (qThen ?_))
              refine HT.rg2 [oH] ⟨[(1, lV a1), (24, aV 0), (28, fV (0 : Nat))], [(0, .seq tF r14)], 1⟩ hX (by kernel_rfl) allNil ?_
              refine HT.seq ?_
              refine HT.rg2 (oHs 3) ⟨[(1, lV a1), (24, aV 0), (28, fV (0 : Nat)), (311, iV (lenI a1)), (312, iV (0 : Int))], [(0, .seq tF r14)], 1⟩ hX (by kernel_rfl) allNil ?_
              refine HT.block ?_
              obtain ⟨r17, hL27, hr⟩ := of_bind hr
              refine HT.loopL (fun (s16 : Nat × Int) => ⟨[(1, lV a1), (24, aV 0), (28, fV s16.1), (311, iV (lenI a1)), (312, iV s16.2)], [(0, .seq tF r14)], 1⟩) (fun (r18 : Nat) => (.exit 16, ⟨[(28, fV r18)], [], 0⟩)) (Le.re [(0, 0)] [] hX (by kernel_rfl)) hL27 ?_ (fun s16 x21 hx22 hk23 => ?_)
              · refine (qBlockX (qThen ?_))
                obtain ⟨y19, hc20, hr⟩ := of_bind hr
                refine HT.rg2 [oH, ⟨none, .call [.imm tF] [⟨false, tF, y19.1⟩, ⟨false, .bool, y19.2⟩] []⟩, oH, oH, oH, oH] ⟨[(6, fV y19.1), (7, bV y19.2)], [], 0⟩ hX (by kernel_rfl) (allCons (f45_ok hc20) allNil) ?_
                have hr := of_some hr
                subst hr
                exact HT.ret ⟨[fV y19.1, bV y19.2], [], [], by kernel_rfl, by kernel_rfl, rfl, by kernel_rfl, by kernel_rfl, trivial⟩
              · refine HT.rg2 [oH] ⟨[(1, lV a1), (24, aV 0), (28, fV s16.1), (311, iV (lenI a1)), (312, iV s16.2), (313, bV (decide (s16.2 < (lenI a1))))], [(0, .seq tF r14)], 1⟩ hX (by kernel_rfl) allNil ?_
                refine HT.seq ?_
                rcases of_bif hx22 with ⟨hb24, hx22⟩ | ⟨hb24, hx22⟩
                · refine HT.cond1 rfl hb24 ?_
                  refine HT.skip (qThen ?_)
                  refine HT.seq ?_
                  refine HT.block ?_
                  refine HT.rg2 (oHs 2) ⟨[(1, lV a1), (24, aV 0), (28, fV s16.1), (29, iV s16.2), (311, iV (lenI a1)), (312, iV s16.2)], [(0, .seq tF r14)], 1⟩ hX (by kernel_rfl) allNil ?_
                  obtain ⟨hg25, hx22⟩ := of_guard hx22
                  obtain ⟨hg26, hx22⟩ := of_guard hx22
                  refine HT.drL 10 [⟨oH, []⟩, ⟨oH, []⟩, ⟨oH, []⟩, ⟨oH, [1, 2]⟩, ⟨oH, [1, 2, 3]⟩, ⟨oH, []⟩, ⟨oH, []⟩, ⟨oH, [5, 6]⟩, ⟨oH, [5, 6, 7]⟩, ⟨oH, [1, 2, 3, 4, 5, 6, 7, 8]⟩] [[0, 1, 2, 3, 4, 5, 6, 7, 8, 9], [0, 1, 2, 3, 4, 5, 6, 7, 8, 9, 10]] (oHs 2) ⟨[(1, lV a1), (24, aV 0), (28, fV (fop .add .f32 s16.1 (fop .mul .f32 (List.getD a1 (Int.toNat s16.2) (0 : Nat)) (List.getD r14 (Int.toNat s16.2) (0 : Nat))))), (311, iV (lenI a1)), (312, iV s16.2)], [(0, .seq tF r14)], 1⟩ hX (by kernel_rfl) (by kernel_rfl) (allCons hg25 (allCons hg26 (allCons (natLt hg26) allNil))) (qBlock (qThen ?_))
                  have hx22 := of_some hx22
                  subst hx22
                  exact HT.rgK (oHs 2) [(0, 0)] [] hX (by kernel_rfl) allNil (fun _ h => (qLoopN ⟨((fop .add .f32 s16.1 (fop .mul .f32 (List.getD a1 (Int.toNat s16.2) (0 : Nat)) (List.getD r14 (Int.toNat s16.2) (0 : Nat)))), (wadd .i64 s16.2 (1 : Int))), rfl, h⟩))
                · refine HT.cond0 rfl hb24 ?_
                  have hx22 := of_some hx22
                  subst hx22
                  exact HT.exitL (Le.re [] [] hX (by kernel_rfl)) (qThenE (qLoopE (hk23 s16.1 rfl)))
            · refine HT.seq ?_
              refine HT.rg2 (oHs 2) ⟨[(1, lV a1), (8, iV (lenI a1)), (9, aV 0), (12, aV 1), (24, aV 2), (25, iV s13.1), (268, bV (decide (s13.1 ≥ (0 : Int))))], [(0, .seq tF r11.1), (1, .seq tF r11.2), (2, .seq tF s13.2)], 3⟩ hX (by kernel_rfl) allNil ?_
              rcases of_bif hx29 with ⟨hb31, hx29⟩ | ⟨hb31, hx29⟩
              · refine HT.cond1 rfl hb31 ?_
                refine HT.skip (qThen ?_)
                refine HT.seq ?_
                refine HT.block ?_
                obtain ⟨hg32, hx29⟩ := of_guard hx29
                refine HT.rg2 (oHs 5) ⟨[(1, lV a1), (8, iV (lenI a1)), (9, aV 0), (12, aV 1), (24, aV 2), (25, iV s13.1), (26, fV (List.getD r11.2 (Int.toNat s13.1) (0 : Nat)))], [(0, .seq tF r11.1), (1, .seq tF r11.2), (2, .seq tF s13.2)], 3⟩ hX (by kernel_rfl) (allCons hg32 (allCons (natLt hg32) allNil)) ?_
                refine HT.seq ?_
                refine HT.rg2 (oHs 3) ⟨[(1, lV a1), (8, iV (lenI a1)), (9, aV 0), (12, aV 1), (24, aV 2), (25, iV s13.1), (26, fV (List.getD r11.2 (Int.toNat s13.1) (0 : Nat))), (27, iV (wadd .i64 s13.1 (1 : Int)))], [(0, .seq tF r11.1), (1, .seq tF r11.2), (2, .seq tF s13.2)], 3⟩ hX (by kernel_rfl) allNil ?_
                refine HT.block ?_
                obtain ⟨r34, hL44, hx29⟩ := of_bind hx29
                refine HT.loopL (fun (s33 : Nat × Int) => ⟨[(1, lV a1), (8, iV (lenI a1)), (9, aV 0), (12, aV 1), (24, aV 2), (25, iV s13.1), (26, fV s33.1), (27, iV s33.2)], [(0, .seq tF r11.1), (1, .seq tF r11.2), (2, .seq tF s13.2)], 3⟩) (fun (r35 : Nat) => (.exit 14, ⟨[(1, lV a1), (8, iV (lenI a1)), (9, aV 0), (12, aV 1), (24, aV 2), (25, iV s13.1), (26, fV r35)], [(0, .seq tF r11.1), (1, .seq tF r11.2), (2, .seq tF s13.2)], 3⟩)) (Le.re [(0, 0), (1, 1), (2, 2)] [] hX (by kernel_rfl)) hL44 ?_ (fun s33 x38 hx39 hk40 => ?_)
                · refine (qBlockX (qThen ?_))
                  obtain ⟨hg36, hx29⟩ := of_guard hx29
                  obtain ⟨hg37, hx29⟩ := of_guard hx29
                  refine HT.rgL (oHs 14) ⟨[(1, lV a1), (8, iV (lenI a1)), (9, aV 0), (12, aV 1), (24, aV 2), (25, iV s13.1)], [(2, .seq tF (List.set s13.2 (Int.toNat s13.1) (fop .quo .f32 r34 (List.getD r11.1 (Int.toNat (wadd .i64 (wmul .i64 s13.1 (lenI a1)) s13.1)) (0 : Nat))))), (0, .seq tF r11.1), (1, .seq tF r11.2)], 3⟩ hX (by kernel_rfl) (allCons hg36 (allCons (natLt hg36) (allCons hg37 (allCons (natLt hg37) allNil)))) (qBlock (qThen ?_))
                  have hx29 := of_some hx29
                  subst hx29
                  exact HT.rgK (oHs 3) [(0, 0), (1, 1), (2, 2)] [] hX (by kernel_rfl) allNil (fun _ h => (qLoopN ⟨((wsub .i64 s13.1 (1 : Int)), (List.set s13.2 (Int.toNat s13.1) (fop .quo .f32 r34 (List.getD r11.1 (Int.toNat (wadd .i64 (wmul .i64 s13.1 (lenI a1)) s13.1)) (0 : Nat))))), rfl, h⟩))
                · refine HT.seq ?_
                  refine HT.rg2 (oHs 3) ⟨[(1, lV a1), (8, iV (lenI a1)), (9, aV 0), (12, aV 1), (24, aV 2), (25, iV s13.1), (26, fV s33.1), (27, iV s33.2), (279, bV (decide (s33.2 < (lenI a1))))], [(0, .seq tF r11.1), (1, .seq tF r11.2), (2, .seq tF s13.2)], 3⟩ hX (by kernel_rfl) allNil ?_
                  rcases of_bif hx39 with ⟨hb41, hx39⟩ | ⟨hb41, hx39⟩
                  · refine HT.cond1 rfl hb41 ?_
                    refine HT.skip (qThen ?_)
                    refine HT.seq ?_
                    refine HT.block ?_
                    obtain ⟨hg42, hx39⟩ := of_guard hx39
                    obtain ⟨hg43, hx39⟩ := of_guard hx39
                    refine HT.drL 14 [⟨oH, []⟩, ⟨oH, []⟩, ⟨oH, []⟩, ⟨oH, []⟩, ⟨oH, [2, 3]⟩, ⟨oH, []⟩, ⟨oH, [2, 3, 4, 5]⟩, ⟨oH, [1, 2, 3, 4, 5, 6]⟩, ⟨oH, [1, 2, 3, 4, 5, 6, 7]⟩, ⟨oH, []⟩, ⟨oH, []⟩, ⟨oH, [9, 10]⟩, ⟨oH, [9, 10, 11]⟩, ⟨oH, [1, 2, 3, 4, 5, 6, 7, 8, 9, 10, 11, 12]⟩] [[0, 1, 2, 3, 4, 5, 6, 7, 8, 9, 10, 11, 12, 13], [0, 1, 2, 3, 4, 5, 6, 7, 8, 9, 10, 11, 12, 13, 14]] (oHs 2) ⟨[(1, lV a1), (8, iV (lenI a1)), (9, aV 0), (12, aV 1), (24, aV 2), (25, iV s13.1), (26, fV (fop .sub .f32 s33.1 (fop .mul .f32 (List.getD r11.1 (Int.toNat (wadd .i64 (wmul .i64 s13.1 (lenI a1)) s33.2)) (0 : Nat)) (List.getD s13.2 (Int.toNat s33.2) (0 : Nat))))), (27, iV s33.2)], [(0, .seq tF r11.1), (1, .seq tF r11.2), (2, .seq tF s13.2)], 3⟩ hX (by kernel_rfl) (by kernel_rfl) (allCons hg42 (allCons (natLt hg42) (allCons hg43 (allCons (natLt hg43) allNil)))) (qBlock (qThen ?_))
                    have hx39 := of_some hx39
                    subst hx39
                    exact HT.rgK (oHs 3) [(0, 0), (1, 1), (2, 2)] [] hX (by kernel_rfl) allNil (fun _ h => (qLoopN ⟨((fop .sub .f32 s33.1 (fop .mul .f32 (List.getD r11.1 (Int.toNat (wadd .i64 (wmul .i64 s13.1 (lenI a1)) s33.2)) (0 : Nat)) (List.getD s13.2 (Int.toNat s33.2) (0 : Nat)))), (wadd .i64 s33.2 (1 : Int))), rfl, h⟩))
                  · refine HT.cond0 rfl hb41 ?_
                    have hx39 := of_some hx39
                    subst hx39
                    exact HT.exitL (Le.re [(0, 0), (1, 1), (2, 2)] [] hX (by kernel_rfl)) (qThenE (qLoopE (hk40 s33.1 rfl)))
              · refine HT.cond0 rfl hb31 ?_
                have hx29 := of_some hx29
                subst hx29
                exact HT.exitL (Le.re [(2, 0)] [] hX (by kernel_rfl)) (qThenE (qLoopE (hk30 s13.2 rfl)))
          · have hr := of_some hr
            subst hr
            exact (qBlockR (qThenR ⟨[fV (0 : Nat), bV false], [], [], by kernel_rfl, by kernel_rfl, rfl, by kernel_rfl, by kernel_rfl, trivial⟩))
        · refine HT.seq ?_
          refine HT.rg2 (oHs 3) ⟨[(1, lV a1), (8, iV (lenI a1)), (9, aV 0), (12, aV 1), (13, iV s9.1), (93, bV (decide (s9.1 < (lenI a1))))], [(0, .seq tF s9.2.1), (1, .seq tF s9.2.2)], 2⟩ hX (by kernel_rfl) allNil ?_
          rcases of_bif hx48 with ⟨hb50, hx48⟩ | ⟨hb50, hx48⟩
          · refine HT.cond1 rfl hb50 ?_
            refine HT.skip (qThen ?_)
            refine HT.seq ?_
            refine HT.block ?_
            refine HT.rg2 (oHs 2) ⟨[(1, lV a1), (8, iV (lenI a1)), (9, aV 0), (12, aV 1), (13, iV s9.1), (14, iV s9.1)], [(0, .seq tF s9.2.1), (1, .seq tF s9.2.2)], 2⟩ hX (by kernel_rfl) allNil ?_
            refine HT.seq ?_
            refine HT.rg2 (oHs 3) ⟨[(1, lV a1), (8, iV (lenI a1)), (9, aV 0), (12, aV 1), (13, iV s9.1), (14, iV s9.1), (15, iV (wadd .i64 s9.1 (1 : Int)))], [(0, .seq tF s9.2.1), (1, .seq tF s9.2.2)], 2⟩ hX (by kernel_rfl) allNil ?_
            refine HT.block ?_
            obtain ⟨r52, hL116, hx48⟩ := of_bind hx48
            refine HT.loopL (fun (s51 : Int × Int) => ⟨[(1, lV a1), (8, iV (lenI a1)), (9, aV 0), (12, aV 1), (13, iV s9.1), (14, iV s51.1), (15, iV s51.2)], [(0, .seq tF s9.2.1), (1, .seq tF s9.2.2)], 2⟩) (fun (r53 : Int) => (.exit 4, ⟨[(1, lV a1), (8, iV (lenI a1)), (9, aV 0), (12, aV 1), (13, iV s9.1), (14, iV r53)], [(0, .seq tF s9.2.1), (1, .seq tF s9.2.2)], 2⟩)) (Le.re [(0, 0), (1, 1)] [] hX (by kernel_rfl)) hL116 ?_ (fun s51 x98 hx99 hk100 => ?_)
            · refine (qBlockX (qThen ?_))
              refine HT.seq ?_
              obtain ⟨hg54, hx48⟩ := of_guard hx48
              refine HT.rg2 (oHs 9) ⟨[(1, lV a1), (8, iV (lenI a1)), (9, aV 0), (12, aV 1), (13, iV s9.1), (14, iV r52), (140, bV (feq .f32 (List.getD s9.2.1 (Int.toNat (wadd .i64 (wmul .i64 r52 (lenI a1)) s9.1)) (0 : Nat)) (0 : Nat)))], [(0, .seq tF s9.2.1), (1, .seq tF s9.2.2)], 2⟩ hX (by kernel_rfl) (allCons hg54 (allCons (natLt hg54) allNil)) ?_
              rcases of_bif hx48 with ⟨hb55, hx48⟩ | ⟨hb55, hx48⟩
              · refine HT.cond1 rfl hb55 ?_
                refine HT.rg2 (oHs 2) ⟨[(6, fV (0 : Nat)), (7, bV false)], [], 2⟩ hX (by kernel_rfl) allNil ?_
                have hx48 := of_some hx48
                subst hx48
                exact HT.retL (Le.re [] [] hX (by kernel_rfl)) (qThenR (qBlockR (qThenR (qLoopR (hk49 (.inr ()) rfl)))))
              · refine HT.cond0 rfl hb55 ?_
                refine HT.skip (qThen ?_)
                refine HT.seq ?_
                refine HT.rg2 [oH] ⟨[(1, lV a1), (8, iV (lenI a1)), (9, aV 0), (12, aV 1), (13, iV s9.1), (14, iV r52), (18, iV (0 : Int))], [(0, .seq tF s9.2.1), (1, .seq tF s9.2.2)], 2⟩ hX (by kernel_rfl) allNil ?_
                refine HT.block ?_
                obtain ⟨r57, hL97, hx48⟩ := of_bind hx48
                refine HT.loopL (fun (s56 : Int × List Nat) => ⟨[(1, lV a1), (8, iV (lenI a1)), (9, aV 0), (12, aV 1), (13, iV s9.1), (14, iV r52), (18, iV s56.1)], [(0, .seq tF s56.2), (1, .seq tF s9.2.2)], 2⟩) (fun (r58 : List Nat) => (.exit 6, ⟨[(1, lV a1), (8, iV (lenI a1)), (9, aV 0), (12, aV 1), (13, iV s9.1), (14, iV r52)], [(0, .seq tF r58), (1, .seq tF s9.2.2)], 2⟩)) (Le.re [(0, 0), (1, 1)] [] hX (by kernel_rfl)) hL97 ?_ (fun s56 x88 hx89 hk90 => ?_)
                · refine (qBlockX (qThen ?_))
                  obtain ⟨hg59, hx48⟩ := of_guard hx48
                  refine HT.rg2 (oHs 5) ⟨[(1, lV a1), (8, iV (lenI a1)), (9, aV 0), (12, aV 1), (13, iV s9.1), (14, iV r52), (20, fV (List.getD s9.2.2 (Int.toNat s9.1) (0 : Nat)))], [(0, .seq tF r57), (1, .seq tF s9.2.2)], 2⟩ hX (by kernel_rfl) (allCons hg59 (allCons (natLt hg59) allNil)) ?_
                  obtain ⟨hg60, hx48⟩ := of_guard hx48
                  refine HT.rg2 (oHs 8) ⟨[(1, lV a1), (8, iV (lenI a1)), (9, aV 0), (12, aV 1), (13, iV s9.1), (14, iV r52), (20, fV (List.getD s9.2.2 (Int.toNat s9.1) (0 : Nat)))], [(1, .seq tF (List.set s9.2.2 (Int.toNat s9.1) (List.getD s9.2.2 (Int.toNat r52) (0 : Nat)))), (0, .seq tF r57)], 2⟩ hX (by kernel_rfl) (allCons hg60 (allCons (natLt hg60) (allCons hg59 (allCons (natLt hg59) allNil)))) ?_
                  obtain ⟨hg61, hx48⟩ := of_guard hx48
                  refine HT.rg2 (oHs 5) ⟨[(1, lV a1), (8, iV (lenI a1)), (9, aV 0), (12, aV 1), (13, iV s9.1)], [(1, .seq tF (List.set (List.set s9.2.2 (Int.toNat s9.1) (List.getD s9.2.2 (Int.toNat r52) (0 : Nat))) (Int.toNat r52) (List.getD s9.2.2 (Int.toNat s9.1) (0 : Nat)))), (0, .seq tF r57)], 2⟩ hX (by kernel_rfl) (allCons hg61 (allCons (natLt hg61) allNil)) ?_
                  obtain ⟨q62, hq63, hx48⟩ := of_bind hx48
                  have hq63 := of_some2 hq63
                  refine (Le.cv (s := ⟨[(1, 1), (0, 0)], [], [], false⟩) (own := []) (ps := [a1 = a1, (lenI a1) = (lenI a1), s9.1 = s9.1, q62 = (List.set (List.set s9.2.2 (Int.toNat s9.1) (List.getD s9.2.2 (Int.toNat r52) (0 : Nat))) (Int.toNat r52) (List.getD s9.2.2 (Int.toNat s9.1) (0 : Nat))), r57 = r57]) (st' := ⟨[(1, lV a1), (8, iV (lenI a1)), (9, aV 0), (12, aV 1), (13, iV s9.1)], [(1, .seq tF q62), (0, .seq tF r57)], 2⟩) hO (fun h => by cases h) (by kernel_rfl) ⟨rfl, rfl, rfl, hq63, rfl, trivial⟩).ht ?_
                  refine HT.rg2 (oHs 3) ⟨[(1, lV a1), (8, iV (lenI a1)), (9, aV 0), (12, aV 1), (13, iV s9.1), (21, iV (wadd .i64 s9.1 (1 : Int)))], [(1, .seq tF q62), (0, .seq tF r57)], 2⟩ hX (by kernel_rfl) allNil ?_
                  refine HT.block ?_
                  obtain ⟨r65, hL87, hx48⟩ := of_bind hx48
                  refine HT.loopL (fun (s64 : Int × List Nat × List Nat) => ⟨[(1, lV a1), (8, iV (lenI a1)), (9, aV 0), (12, aV 1), (13, iV s9.1), (21, iV s64.1)], [(0, .seq tF s64.2.1), (1, .seq tF s64.2.2)], 2⟩) (fun (r66 : (List Nat × List Nat)) => (.exit 8, ⟨[(1, lV a1), (8, iV (lenI a1)), (9, aV 0), (12, aV 1), (13, iV s9.1)], [(0, .seq tF r66.1), (1, .seq tF r66.2)], 2⟩)) (Le.re [(0, 0), (1, 1)] [] hX (by kernel_rfl)) hL87 ?_ (fun s64 x67 hx68 hk69 => ?_)
                  · refine (qBlockX (qBlock (qThen ?_)))
                    have hx48 := of_some hx48
                    subst hx48
                    exact HT.rgK (oHs 3) [(0, 0), (1, 1)] [] hX (by kernel_rfl) allNil (fun _ h => (qLoopN ⟨((wadd .i64 s9.1 (1 : Int)), r65.1, r65.2), rfl, h⟩))
                  · refine HT.seq ?_
                    refine HT.rg2 (oHs 3) ⟨[(1, lV a1), (8, iV (lenI a1)), (9, aV 0), (12, aV 1), (13, iV s9.1), (21, iV s64.1), (196, bV (decide (s64.1 < (lenI a1))))], [(0, .seq tF s64.2.1), (1, .seq tF s64.2.2)], 2⟩ hX (by kernel_rfl) allNil ?_
                    rcases of_bif hx68 with ⟨hb70, hx68⟩ | ⟨hb70, hx68⟩
                    · refine HT.cond1 rfl hb70 ?_
                      refine HT.skip (qThen ?_)
                      refine HT.seq ?_
                      refine HT.block ?_
                      obtain ⟨hg71, hx68⟩ := of_guard hx68
                      obtain ⟨hg72, hx68⟩ := of_guard hx68
                      refine HT.dr2 16 [⟨oH, []⟩, ⟨oH, []⟩, ⟨oH, []⟩, ⟨oH, [1, 2]⟩, ⟨oH, []⟩, ⟨oH, [1, 2, 3, 4]⟩, ⟨oH, [0, 1, 2, 3, 4, 5]⟩, ⟨oH, [0, 1, 2, 3, 4, 5, 6]⟩, ⟨oH, []⟩, ⟨oH, []⟩, ⟨oH, []⟩, ⟨oH, [9, 10]⟩, ⟨oH, []⟩, ⟨oH, [9, 10, 11, 12]⟩, ⟨oH, [8, 9, 10, 11, 12, 13]⟩, ⟨oH, [8, 9, 10, 11, 12, 13, 14]⟩] [[0, 1, 2, 3, 4, 5, 6, 7, 8, 9, 10, 11, 12, 13, 14, 15], [0, 1, 2, 3, 4, 5, 6, 7, 8, 9, 10, 11, 12, 13, 14, 15, 16]] (oHs 2) ⟨[(1, lV a1), (8, iV (lenI a1)), (9, aV 0), (12, aV 1), (13, iV s9.1), (21, iV s64.1), (22, fV (fop .quo .f32 (List.getD s64.2.1 (Int.toNat (wadd .i64 (wmul .i64 s64.1 (lenI a1)) s9.1)) (0 : Nat)) (List.getD s64.2.1 (Int.toNat (wadd .i64 (wmul .i64 s9.1 (lenI a1)) s9.1)) (0 : Nat))))], [(0, .seq tF s64.2.1), (1, .seq tF s64.2.2)], 2⟩ hX (by kernel_rfl) (by kernel_rfl) (allCons hg71 (allCons (natLt hg71) (allCons hg72 (allCons (natLt hg72) allNil)))) ?_
                      obtain ⟨q73, hq74, hx68⟩ := of_bind hx68
                      have hq74 := of_some2 hq74
                      refine (Le.cv (s := ⟨[(0, 0), (1, 1)], [], [], false⟩) (own := []) (ps := [a1 = a1, (lenI a1) = (lenI a1), s9.1 = s9.1, s64.1 = s64.1, q73 = (fop .quo .f32 (List.getD s64.2.1 (Int.toNat (wadd .i64 (wmul .i64 s64.1 (lenI a1)) s9.1)) (0 : Nat)) (List.getD s64.2.1 (Int.toNat (wadd .i64 (wmul .i64 s9.1 (lenI a1)) s9.1)) (0 : Nat))), s64.2.1 = s64.2.1, s64.2.2 = s64.2.2]) (st' := ⟨[(1, lV a1), (8, iV (lenI a1)), (9, aV 0), (12, aV 1), (13, iV s9.1), (21, iV s64.1), (22, fV q73)], [(0, .seq tF s64.2.1), (1, .seq tF s64.2.2)], 2⟩) hO (fun h => by cases h) (by kernel_rfl) ⟨rfl, rfl, rfl, rfl, hq74, rfl, rfl, trivial⟩).ht ?_
                      refine HT.seq ?_
                      refine HT.rg2 (oHs 3) ⟨[(1, lV a1), (8, iV (lenI a1)), (9, aV 0), (12, aV 1), (13, iV s9.1), (21, iV s64.1), (22, fV q73), (23, iV (wadd .i64 s9.1 (1 : Int)))], [(0, .seq tF s64.2.1), (1, .seq tF s64.2.2)], 2⟩ hX (by kernel_rfl) allNil ?_
                      refine HT.block ?_
                      obtain ⟨r76, hL86, hx68⟩ := of_bind hx68
                      refine HT.loopL (fun (s75 : Int × List Nat) => ⟨[(1, lV a1), (8, iV (lenI a1)), (9, aV 0), (12, aV 1), (13, iV s9.1), (21, iV s64.1), (22, fV q73), (23, iV s75.1)], [(0, .seq tF s75.2), (1, .seq tF s64.2.2)], 2⟩) (fun (r77 : List Nat) => (.exit 10, ⟨[(1, lV a1), (8, iV (lenI a1)), (9, aV 0), (12, aV 1), (13, iV s9.1), (21, iV s64.1), (22, fV q73)], [(0, .seq tF r77), (1, .seq tF s64.2.2)], 2⟩)) (Le.re [(0, 0), (1, 1)] [] hX (by kernel_rfl)) hL86 ?_ (fun s75 x80 hx81 hk82 => ?_)
                      · refine (qBlockX (qThen ?_))
                        obtain ⟨hg78, hx68⟩ := of_guard hx68
                        obtain ⟨hg79, hx68⟩ := of_guard hx68
                        refine HT.drL 13 [⟨oH, []⟩, ⟨oH, []⟩, ⟨oH, []⟩, ⟨oH, []⟩, ⟨oH, [2, 3]⟩, ⟨oH, [2, 3, 4]⟩, ⟨oH, []⟩, ⟨oH, []⟩, ⟨oH, []⟩, ⟨oH, [7, 8]⟩, ⟨oH, [7, 8, 9]⟩, ⟨oH, [6, 7, 8, 9, 10]⟩, ⟨oH, [2, 3, 4, 5, 6, 7, 8, 9, 10, 11]⟩] [[0, 1, 2, 3, 4, 5, 6, 7, 8, 9, 10, 11, 12], [0, 1, 2, 3, 4, 5, 6, 7, 8, 9, 10, 11, 12, 13]] (oHs 2) ⟨[(1, lV a1), (8, iV (lenI a1)), (9, aV 0), (12, aV 1), (13, iV s9.1), (21, iV s64.1)], [(1, .seq tF (List.set s64.2.2 (Int.toNat s64.1) (fop .sub .f32 (List.getD s64.2.2 (Int.toNat s64.1) (0 : Nat)) (fop .mul .f32 q73 (List.getD s64.2.2 (Int.toNat s9.1) (0 : Nat)))))), (0, .seq tF r76)], 2⟩ hX (by kernel_rfl) (by kernel_rfl) (allCons hg78 (allCons (natLt hg78) (allCons hg79 (allCons (natLt hg79) (allCons hg78 (allCons (natLt hg78) allNil)))))) (qBlock (qThen ?_))
                        have hx68 := of_some hx68
                        subst hx68
                        exact HT.rgK (oHs 3) [(0, 0), (1, 1)] [] hX (by kernel_rfl) allNil (fun _ h => (qLoopN ⟨((wadd .i64 s64.1 (1 : Int)), r76, (List.set s64.2.2 (Int.toNat s64.1) (fop .sub .f32 (List.getD s64.2.2 (Int.toNat s64.1) (0 : Nat)) (fop .mul .f32 q73 (List.getD s64.2.2 (Int.toNat s9.1) (0 : Nat)))))), rfl, h⟩))
                      · refine HT.seq ?_
                        refine HT.rg2 (oHs 3) ⟨[(1, lV a1), (8, iV (lenI a1)), (9, aV 0), (12, aV 1), (13, iV s9.1), (21, iV s64.1), (22, fV q73), (23, iV s75.1), (220, bV (decide (s75.1 < (lenI a1))))], [(0, .seq tF s75.2), (1, .seq tF s64.2.2)], 2⟩ hX (by kernel_rfl) allNil ?_
                        rcases of_bif hx81 with ⟨hb83, hx81⟩ | ⟨hb83, hx81⟩
                        · refine HT.cond1 rfl hb83 ?_
                          refine HT.skip (qThen ?_)
                          refine HT.seq ?_
                          refine HT.block ?_
                          obtain ⟨hg84, hx81⟩ := of_guard hx81
                          obtain ⟨hg85, hx81⟩ := of_guard hx81
                          refine HT.drL 25 [⟨oH, []⟩, ⟨oH, []⟩, ⟨oH, []⟩, ⟨oH, [1, 2]⟩, ⟨oH, []⟩, ⟨oH, [1, 2, 3, 4]⟩, ⟨oH, []⟩, ⟨oH, []⟩, ⟨oH, []⟩, ⟨oH, [7, 8]⟩, ⟨oH, []⟩, ⟨oH, [7, 8, 9, 10]⟩, ⟨oH, [6, 7, 8, 9, 10, 11]⟩, ⟨oH, [6, 7, 8, 9, 10, 11, 12]⟩, ⟨oH, []⟩, ⟨oH, []⟩, ⟨oH, []⟩, ⟨oH, []⟩, ⟨oH, [16, 17]⟩, ⟨oH, []⟩, ⟨oH, [16, 17, 18, 19]⟩, ⟨oH, [15, 16, 17, 18, 19, 20]⟩, ⟨oH, [15, 16, 17, 18, 19, 20, 21]⟩, ⟨oH, [14, 15, 16, 17, 18, 19, 20, 21, 22]⟩, ⟨oH, [6, 7, 8, 9, 10, 11, 12, 13, 14, 15, 16, 17, 18, 19, 20, 21, 22, 23]⟩] [[0, 1, 2, 3, 4, 5, 6, 7, 8, 9, 10, 11, 12, 13, 14, 15, 16, 17, 18, 19, 20, 21, 22, 23, 24], [0, 1, 2, 3, 4, 5, 6, 7, 8, 9, 10, 11, 12, 13, 14, 15, 16, 17, 18, 19, 20, 21, 22, 23, 24, 25]] (oHs 2) ⟨[(1, lV a1), (8, iV (lenI a1)), (9, aV 0), (12, aV 1), (13, iV s9.1), (21, iV s64.1), (22, fV q73), (23, iV s75.1)], [(0, .seq tF (List.set s75.2 (Int.toNat (wadd .i64 (wmul .i64 s64.1 (lenI a1)) s75.1)) (fop .sub .f32 (List.getD s75.2 (Int.toNat (wadd .i64 (wmul .i64 s64.1 (lenI a1)) s75.1)) (0 : Nat)) (fop .mul .f32 q73 (List.getD s75.2 (Int.toNat (wadd .i64 (wmul .i64 s9.1 (lenI a1)) s75.1)) (0 : Nat)))))), (1, .seq tF s64.2.2)], 2⟩ hX (by kernel_rfl) (by kernel_rfl) (allCons hg84 (allCons (natLt hg84) (allCons hg85 (allCons (natLt hg85) (allCons hg84 (allCons (natLt hg84) allNil)))))) (qBlock (qThen ?_))
                          have hx81 := of_some hx81
                          subst hx81
                          exact HT.rgK (oHs 3) [(0, 0), (1, 1)] [] hX (by kernel_rfl) allNil (fun _ h => (qLoopN ⟨((wadd .i64 s75.1 (1 : Int)), (List.set s75.2 (Int.toNat (wadd .i64 (wmul .i64 s64.1 (lenI a1)) s75.1)) (fop .sub .f32 (List.getD s75.2 (Int.toNat (wadd .i64 (wmul .i64 s64.1 (lenI a1)) s75.1)) (0 : Nat)) (fop .mul .f32 q73 (List.getD s75.2 (Int.toNat (wadd .i64 (wmul .i64 s9.1 (lenI a1)) s75.1)) (0 : Nat)))))), rfl, h⟩))
                        · refine HT.cond0 rfl hb83 ?_
                          have hx81 := of_some hx81
                          subst hx81
                          exact HT.exitL (Le.re [(0, 0), (1, 1)] [] hX (by kernel_rfl)) (qThenE (qLoopE (hk82 s75.2 rfl)))
                    · refine HT.cond0 rfl hb70 ?_
                      have hx68 := of_some hx68
                      subst hx68
                      exact HT.exitL (Le.re [(0, 0), (1, 1)] [] hX (by kernel_rfl)) (qThenE (qLoopE (hk69 (s64.2.1, s64.2.2) rfl)))
                · refine HT.seq ?_
                  refine HT.rg2 (oHs 3) ⟨[(1, lV a1), (8, iV (lenI a1)), (9, aV 0), (12, aV 1), (13, iV s9.1), (14, iV r52), (18, iV s56.1), (143, bV (decide (s56.1 < (lenI a1))))], [(0, .seq tF s56.2), (1, .seq tF s9.2.2)], 2⟩ hX (by kernel_rfl) allNil ?_
                  rcases of_bif hx89 with ⟨hb91, hx89⟩ | ⟨hb91, hx89⟩
                  · refine HT.cond1 rfl hb91 ?_
                    refine HT.skip (qThen ?_)
                    refine HT.seq ?_
                    refine HT.block ?_
                    obtain ⟨hg92, hx89⟩ := of_guard hx89
                    refine HT.rg2 (oHs 9) ⟨[(1, lV a1), (8, iV (lenI a1)), (9, aV 0), (12, aV 1), (13, iV s9.1), (14, iV r52), (18, iV s56.1), (19, fV (List.getD s56.2 (Int.toNat (wadd .i64 (wmul .i64 s9.1 (lenI a1)) s56.1)) (0 : Nat)))], [(0, .seq tF s56.2), (1, .seq tF s9.2.2)], 2⟩ hX (by kernel_rfl) (allCons hg92 (allCons (natLt hg92) allNil)) ?_
                    obtain ⟨hg93, hx89⟩ := of_guard hx89
                    refine HT.rg2 (oHs 16) ⟨[(1, lV a1), (8, iV (lenI a1)), (9, aV 0), (12, aV 1), (13, iV s9.1), (14, iV r52), (18, iV s56.1), (19, fV (List.getD s56.2 (Int.toNat (wadd .i64 (wmul .i64 s9.1 (lenI a1)) s56.1)) (0 : Nat)))], [(0, .seq tF (List.set s56.2 (Int.toNat (wadd .i64 (wmul .i64 s9.1 (lenI a1)) s56.1)) (List.getD s56.2 (Int.toNat (wadd .i64 (wmul .i64 r52 (lenI a1)) s56.1)) (0 : Nat)))), (1, .seq tF s9.2.2)], 2⟩ hX (by kernel_rfl) (allCons hg93 (allCons (natLt hg93) (allCons hg92 (allCons (natLt hg92) allNil)))) ?_
                    obtain ⟨q94, hq95, hx89⟩ := of_bind hx89
                    have hq95 := of_some2 hq95
                    refine (Le.cv (s := ⟨[(0, 0), (1, 1)], [], [], false⟩) (own := []) (ps := [a1 = a1, (lenI a1) = (lenI a1), s9.1 = s9.1, r52 = r52, s56.1 = s56.1, (List.getD s56.2 (Int.toNat (wadd .i64 (wmul .i64 s9.1 (lenI a1)) s56.1)) (0 : Nat)) = (List.getD s56.2 (Int.toNat (wadd .i64 (wmul .i64 s9.1 (lenI a1)) s56.1)) (0 : Nat)), q94 = (List.set s56.2 (Int.toNat (wadd .i64 (wmul .i64 s9.1 (lenI a1)) s56.1)) (List.getD s56.2 (Int.toNat (wadd .i64 (wmul .i64 r52 (lenI a1)) s56.1)) (0 : Nat))), s9.2.2 = s9.2.2]) (st' := ⟨[(1, lV a1), (8, iV (lenI a1)), (9, aV 0), (12, aV 1), (13, iV s9.1), (14, iV r52), (18, iV s56.1), (19, fV (List.getD s56.2 (Int.toNat (wadd .i64 (wmul .i64 s9.1 (lenI a1)) s56.1)) (0 : Nat)))], [(0, .seq tF q94), (1, .seq tF s9.2.2)], 2⟩) hO (fun h => by cases h) (by kernel_rfl) ⟨rfl, rfl, rfl, rfl, rfl, rfl, hq95, rfl, trivial⟩).ht ?_
                    obtain ⟨hg96, hx89⟩ := of_guard hx89
                    refine HT.rgL (oHs 9) ⟨[(1, lV a1), (8, iV (lenI a1)), (9, aV 0), (12, aV 1), (13, iV s9.1), (14, iV r52), (18, iV s56.1)], [(0, .seq tF (List.set q94 (Int.toNat (wadd .i64 (wmul .i64 r52 (lenI a1)) s56.1)) (List.getD s56.2 (Int.toNat (wadd .i64 (wmul .i64 s9.1 (lenI a1)) s56.1)) (0 : Nat)))), (1, .seq tF s9.2.2)], 2⟩ hX (by kernel_rfl) (allCons hg96 (allCons (natLt hg96) allNil)) (qBlock (qThen ?_))
                    have hx89 := of_some hx89
                    subst hx89
                    exact HT.rgK (oHs 3) [(0, 0), (1, 1)] [] hX (by kernel_rfl) allNil (fun _ h => (qLoopN ⟨((wadd .i64 s56.1 (1 : Int)), (List.set q94 (Int.toNat (wadd .i64 (wmul .i64 r52 (lenI a1)) s56.1)) (List.getD s56.2 (Int.toNat (wadd .i64 (wmul .i64 s9.1 (lenI a1)) s56.1)) (0 : Nat)))), rfl, h⟩))
                  · refine HT.cond0 rfl hb91 ?_
                    have hx89 := of_some hx89
                    subst hx89
                    exact HT.exitL (Le.re [(0, 0), (1, 1)] [] hX (by kernel_rfl)) (qThenE (qLoopE (hk90 s56.2 rfl)))
            · refine HT.seq ?_
              refine HT.rg2 (oHs 3) ⟨[(1, lV a1), (8, iV (lenI a1)), (9, aV 0), (12, aV 1), (13, iV s9.1), (14, iV s51.1), (15, iV s51.2), (101, bV (decide (s51.2 < (lenI a1))))], [(0, .seq tF s9.2.1), (1, .seq tF s9.2.2)], 2⟩ hX (by kernel_rfl) allNil ?_
              rcases of_bif hx99 with ⟨hb101, hx99⟩ | ⟨hb101, hx99⟩
              · refine HT.cond1 rfl hb101 ?_
                refine HT.skip (qThen ?_)
                obtain ⟨v102', hT104, hx99⟩ := of_bind hx99
                refine HT.join (fun (v102 : Int) => ⟨[(1, lV a1), (8, iV (lenI a1)), (9, aV 0), (12, aV 1), (13, iV s9.1), (14, iV v102), (15, iV s51.2)], [(0, .seq tF s9.2.1), (1, .seq tF s9.2.2)], 2⟩) (fun v => v = v102') (fun v102 hv103 => ?_) (fun cont => ?_)
                · subst hv103
                  have hx99 := of_some hx99
                  subst hx99
                  exact HT.rgK (oHs 3) [(0, 0), (1, 1)] [] hX (by kernel_rfl) allNil (fun _ h => (qLoopN ⟨(v102, (wadd .i64 s51.2 (1 : Int))), rfl, h⟩))
                · refine HT.block ?_
                  obtain ⟨hg105, hT104⟩ := of_guard hT104
                  refine HT.rg2 (oHs 9) ⟨[(1, lV a1), (8, iV (lenI a1)), (9, aV 0), (12, aV 1), (13, iV s9.1), (14, iV s51.1), (15, iV s51.2), (16, fV (List.getD s9.2.1 (Int.toNat (wadd .i64 (wmul .i64 s51.2 (lenI a1)) s9.1)) (0 : Nat)))], [(0, .seq tF s9.2.1), (1, .seq tF s9.2.2)], 2⟩ hX (by kernel_rfl) (allCons hg105 (allCons (natLt hg105) allNil)) ?_
                  obtain ⟨hg106, hT104⟩ := of_guard hT104
                  refine HT.rg2 (oHs 9) ⟨[(1, lV a1), (8, iV (lenI a1)), (9, aV 0), (12, aV 1), (13, iV s9.1), (14, iV s51.1), (15, iV s51.2), (16, fV (List.getD s9.2.1 (Int.toNat (wadd .i64 (wmul .i64 s51.2 (lenI a1)) s9.1)) (0 : Nat))), (17, fV (List.getD s9.2.1 (Int.toNat (wadd .i64 (wmul .i64 s51.1 (lenI a1)) s9.1)) (0 : Nat)))], [(0, .seq tF s9.2.1), (1, .seq tF s9.2.2)], 2⟩ hX (by kernel_rfl) (allCons hg106 (allCons (natLt hg106) allNil)) ?_
                  obtain ⟨v107', hT109, hT104⟩ := of_bind hT104
                  refine HT.join (fun (v107 : Nat) => ⟨[(1, lV a1), (8, iV (lenI a1)), (9, aV 0), (12, aV 1), (13, iV s9.1), (14, iV s51.1), (15, iV s51.2), (16, fV v107), (17, fV (List.getD s9.2.1 (Int.toNat (wadd .i64 (wmul .i64 s51.1 (lenI a1)) s9.1)) (0 : Nat)))], [(0, .seq tF s9.2.1), (1, .seq tF s9.2.2)], 2⟩) (fun v => v = v107') (fun v107 hv108 => ?_) (fun cont => ?_)
                  · subst hv108
                    obtain ⟨v110', hT112, hT104⟩ := of_bind hT104
                    refine HT.join (fun (v110 : Nat) => ⟨[(1, lV a1), (8, iV (lenI a1)), (9, aV 0), (12, aV 1), (13, iV s9.1), (14, iV s51.1), (15, iV s51.2), (16, fV v107), (17, fV v110)], [(0, .seq tF s9.2.1), (1, .seq tF s9.2.2)], 2⟩) (fun v => v = v110') (fun v110 hv111 => ?_) (fun cont => ?_)
                    · subst hv111
                      refine HT.rg2 (oHs 3) ⟨[(1, lV a1), (8, iV (lenI a1)), (9, aV 0), (12, aV 1), (13, iV s9.1), (14, iV s51.1), (15, iV s51.2), (130, bV (fgt .f32 v107 v110))], [(0, .seq tF s9.2.1), (1, .seq tF s9.2.2)], 2⟩ hX (by kernel_rfl) allNil ?_
                      rcases of_bif hT104 with ⟨hb113, hT104⟩ | ⟨hb113, hT104⟩
                      · refine HT.cond1 rfl hb113 ?_
                        exact HT.rgK (oHs 2) [(0, 0), (1, 1)] [] hX (by kernel_rfl) allNil (fun _ h => (qBlock (qThen (h.ht (cont s51.2 (of_some hT104))))))
                      · refine HT.cond0 rfl hb113 ?_
                        refine HT.skip (qBlock (qThen ?_))
                        exact (Le.re [(0, 0), (1, 1)] [] hX (by kernel_rfl)).ht (cont s51.1 (of_some hT104))
                    · refine HT.rg2 (oHs 2) ⟨[(1, lV a1), (8, iV (lenI a1)), (9, aV 0), (12, aV 1), (13, iV s9.1), (14, iV s51.1), (15, iV s51.2), (16, fV v107), (17, fV (List.getD s9.2.1 (Int.toNat (wadd .i64 (wmul .i64 s51.1 (lenI a1)) s9.1)) (0 : Nat))), (125, bV (flt .f32 (List.getD s9.2.1 (Int.toNat (wadd .i64 (wmul .i64 s51.1 (lenI a1)) s9.1)) (0 : Nat)) (0 : Nat)))], [(0, .seq tF s9.2.1), (1, .seq tF s9.2.2)], 2⟩ hX (by kernel_rfl) allNil ?_
                      rcases of_bif hT112 with ⟨hb114, hT112⟩ | ⟨hb114, hT112⟩
                      · refine HT.cond1 rfl hb114 ?_
                        exact HT.rgK (oHs 3) [(0, 0), (1, 1)] [] hX (by kernel_rfl) allNil (fun _ h => (qThen (h.ht (cont (fneg .f32 (List.getD s9.2.1 (Int.toNat (wadd .i64 (wmul .i64 s51.1 (lenI a1)) s9.1)) (0 : Nat))) (of_some hT112)))))
                      · refine HT.cond0 rfl hb114 ?_
                        refine HT.skip (qThen ?_)
                        exact (Le.re [(0, 0), (1, 1)] [] hX (by kernel_rfl)).ht (cont (List.getD s9.2.1 (Int.toNat (wadd .i64 (wmul .i64 s51.1 (lenI a1)) s9.1)) (0 : Nat)) (of_some hT112))
                  · refine HT.rg2 (oHs 2) ⟨[(1, lV a1), (8, iV (lenI a1)), (9, aV 0), (12, aV 1), (13, iV s9.1), (14, iV s51.1), (15, iV s51.2), (16, fV (List.getD s9.2.1 (Int.toNat (wadd .i64 (wmul .i64 s51.2 (lenI a1)) s9.1)) (0 : Nat))), (17, fV (List.getD s9.2.1 (Int.toNat (wadd .i64 (wmul .i64 s51.1 (lenI a1)) s9.1)) (0 : Nat))), (121, bV (flt .f32 (List.getD s9.2.1 (Int.toNat (wadd .i64 (wmul .i64 s51.2 (lenI a1)) s9.1)) (0 : Nat)) (0 : Nat)))], [(0, .seq tF s9.2.1), (1, .seq tF s9.2.2)], 2⟩ hX (by kernel_rfl) allNil ?_
                    rcases of_bif hT109 with ⟨hb115, hT109⟩ | ⟨hb115, hT109⟩
                    · refine HT.cond1 rfl hb115 ?_
                      exact HT.rgK (oHs 3) [(0, 0), (1, 1)] [] hX (by kernel_rfl) allNil (fun _ h => (qThen (h.ht (cont (fneg .f32 (List.getD s9.2.1 (Int.toNat (wadd .i64 (wmul .i64 s51.2 (lenI a1)) s9.1)) (0 : Nat))) (of_some hT109)))))
                    · refine HT.cond0 rfl hb115 ?_
                      refine HT.skip (qThen ?_)
                      exact (Le.re [(0, 0), (1, 1)] [] hX (by kernel_rfl)).ht (cont (List.getD s9.2.1 (Int.toNat (wadd .i64 (wmul .i64 s51.2 (lenI a1)) s9.1)) (0 : Nat)) (of_some hT109))
              · refine HT.cond0 rfl hb101 ?_
                have hx99 := of_some hx99
                subst hx99
                exact HT.exitL (Le.re [(0, 0), (1, 1)] [] hX (by kernel_rfl)) (qThenE (qLoopE (hk100 s51.1 rfl)))
          · refine HT.cond0 rfl hb50 ?_
            have hx48 := of_some hx48
            subst hx48
            exact HT.exitL (Le.re [(0, 0), (1, 1)] [] hX (by kernel_rfl)) (qThenE (qLoopE (hk49 (.inl (s9.2.1, s9.2.2)) rfl)))
      · refine HT.rg2 [oH] ⟨[(0, lV a0), (1, lV a1), (2, lV a2), (8, iV (lenI a1)), (9, aV 0), (69, iV (lenI a0)), (70, iV s5.1), (71, bV (decide (s5.1 < (lenI a0))))], [(0, .seq tF s5.2)], 1⟩ hX (by kernel_rfl) allNil ?_
        refine HT.seq ?_
        rcases of_bif hx119 with ⟨hb121, hx119⟩ | ⟨hb121, hx119⟩
        · refine HT.cond1 rfl hb121 ?_
          refine HT.skip (qThen ?_)
          refine HT.seq ?_
          refine HT.block ?_
          refine HT.rg2 (oHs 2) ⟨[(0, lV a0), (1, lV a1), (2, lV a2), (8, iV (lenI a1)), (9, aV 0), (10, iV s5.1), (69, iV (lenI a0)), (70, iV s5.1)], [(0, .seq tF s5.2)], 1⟩ hX (by kernel_rfl) allNil ?_
          refine HT.rg2 [oH] ⟨[(0, lV a0), (1, lV a1), (2, lV a2), (8, iV (lenI a1)), (9, aV 0), (10, iV s5.1), (11, fV (0 : Nat)), (69, iV (lenI a0)), (70, iV s5.1)], [(0, .seq tF s5.2)], 1⟩ hX (by kernel_rfl) allNil ?_
          obtain ⟨v122', hT124, hx119⟩ := of_bind hx119
          refine HT.join (fun (v122 : Nat) => ⟨[(0, lV a0), (1, lV a1), (2, lV a2), (8, iV (lenI a1)), (9, aV 0), (10, iV s5.1), (11, fV v122), (69, iV (lenI a0)), (70, iV s5.1)], [(0, .seq tF s5.2)], 1⟩) (fun v => v = v122') (fun v122 hv123 => ?_) (fun cont => ?_)
          · subst hv123
            obtain ⟨hg125, hx119⟩ := of_guard hx119
            obtain ⟨hg126, hx119⟩ := of_guard hx119
            refine HT.rgL [oH, oH, oH, oH, oH, oH, oH, ⟨none, .ty tF⟩, ⟨none, .ty tF⟩, oH] ⟨[(0, lV a0), (1, lV a1), (2, lV a2), (8, iV (lenI a1)), (9, aV 2), (69, iV (lenI a0)), (70, iV s5.1)], [(2, .seq tF (s5.2 ++ ([(fop .sub .f32 v122 (List.getD a0 (Int.toNat s5.1) (0 : Nat)))] : List Nat)))], 3⟩ hX (by kernel_rfl) (allCons hg125 (allCons hg126 allNil)) (qBlock (qThen ?_))
            have hx119 := of_some hx119
            subst hx119
            exact HT.rgK (oHs 2) [(2, 0)] [] hX (by kernel_rfl) allNil (fun _ h => (qLoopN ⟨((wadd .i64 s5.1 (1 : Int)), (s5.2 ++ ([(fop .sub .f32 v122 (List.getD a0 (Int.toNat s5.1) (0 : Nat)))] : List Nat))), rfl, h⟩))
          · obtain ⟨hg127, hT124⟩ := of_guard hT124
            refine HT.rg2 (oHs 5) ⟨[(0, lV a0), (1, lV a1), (2, lV a2), (8, iV (lenI a1)), (9, aV 0), (10, iV s5.1), (11, fV (0 : Nat)), (69, iV (lenI a0)), (70, iV s5.1), (77, bV ((Int.tmod s5.1 (wadd .i64 (lenI a1) (1 : Int))) == (0 : Int)))], [(0, .seq tF s5.2)], 1⟩ hX (by kernel_rfl) (allCons hg127 allNil) ?_
            rcases of_bif hT124 with ⟨hb128, hT124⟩ | ⟨hb128, hT124⟩
            · refine HT.cond1 rfl hb128 ?_
              exact HT.rgK [oH] [(0, 0)] [] hX (by kernel_rfl) allNil (fun _ h => (qThen (h.ht (cont (1065353216 : Nat) (of_some hT124)))))
            · refine HT.cond0 rfl hb128 ?_
              refine HT.skip (qThen ?_)
              exact (Le.re [(0, 0)] [] hX (by kernel_rfl)).ht (cont (0 : Nat) (of_some hT124))
        · refine HT.cond0 rfl hb121 ?_
          have hx119 := of_some hx119
          subst hx119
          exact HT.exitL (Le.re [(0, 0)] [] hX (by kernel_rfl)) (qThenE (qLoopE (hk120 s5.2 rfl)))
  · rcases of_bif hT3 with ⟨hb130, hT3⟩ | ⟨hb130, hT3⟩
    · exact HT.rgK [oH, oH, oH, ⟨some true, .no⟩, ⟨some true, .no⟩, ⟨none, .tv true⟩, oH, ⟨some true, .no⟩, ⟨some true, .no⟩, ⟨some true, .no⟩, ⟨some true, .no⟩, ⟨some true, .no⟩, ⟨some true, .no⟩, ⟨none, .tv true⟩, oH, ⟨some true, .no⟩, ⟨some true, .no⟩, ⟨some true, .no⟩, ⟨some true, .no⟩, ⟨none, .tv true⟩, oH, ⟨some true, .no⟩, ⟨some true, .no⟩, ⟨some true, .no⟩, ⟨none, .tv true⟩, oH, ⟨some true, .no⟩, ⟨some true, .no⟩, ⟨some true, .no⟩, ⟨none, .tv true⟩, oH, ⟨some true, .no⟩, ⟨some true, .no⟩, ⟨some true, .no⟩, ⟨none, .tv true⟩] [] [] hX (by kernel_rfl) (allCons hb130 (allCons hb130 (allCons hb130 (allCons (rfl : true = true) (allCons (rfl : true = true) (allCons (rfl : true = true) (allCons (rfl : true = true) (allCons (rfl : true = true) (allCons (rfl : true = true) (allCons (rfl : true = true) (allCons (rfl : true = true) (allCons (rfl : true = true) (allCons (rfl : true = true) (allCons (rfl : true = true) (allCons (rfl : true = true) (allCons (rfl : true = true) (allCons (rfl : true = true) (allCons (rfl : true = true) (allCons (rfl : true = true) (allCons (rfl : true = true) (allCons (rfl : true = true) (allCons (rfl : true = true) (allCons (rfl : true = true) (allCons (rfl : true = true) (allCons (rfl : true = true) (allCons (rfl : true = true) (allCons (rfl : true = true) allNil))))))))))))))))))))))))))) (fun _ h => (qThen (h.ht (cont true (of_some hT3)))))
    · rcases of_bif hT3 with ⟨hb131, hT3⟩ | ⟨hb131, hT3⟩
      · exact HT.rgK [oH, oH, oH, ⟨some false, .no⟩, ⟨some false, .no⟩, ⟨none, .tv false⟩, oH, ⟨some true, .no⟩, ⟨some true, .no⟩, ⟨some true, .no⟩, ⟨some true, .no⟩, ⟨some true, .no⟩, ⟨some true, .no⟩, ⟨none, .tv true⟩, oH, ⟨some true, .no⟩, ⟨some true, .no⟩, ⟨some true, .no⟩, ⟨some true, .no⟩, ⟨none, .tv true⟩, oH, ⟨some true, .no⟩, ⟨some true, .no⟩, ⟨some true, .no⟩, ⟨none, .tv true⟩, oH, ⟨some true, .no⟩, ⟨some true, .no⟩, ⟨some true, .no⟩, ⟨none, .tv true⟩, oH, ⟨some true, .no⟩, ⟨some true, .no⟩, ⟨some true, .no⟩, ⟨none, .tv true⟩] [] [] hX (by kernel_rfl) (allCons hb130 (allCons hb130 (allCons hb130 (allCons hb131 (allCons hb131 (allCons hb131 (allCons hb131 (allCons hb131 (allCons hb131 (allCons hb131 (allCons (rfl : true = true) (allCons (rfl : true = true) (allCons (rfl : true = true) (allCons (rfl : true = true) (allCons (rfl : true = true) (allCons (rfl : true = true) (allCons (rfl : true = true) (allCons (rfl : true = true) (allCons (rfl : true = true) (allCons (rfl : true = true) (allCons (rfl : true = true) (allCons (rfl : true = true) (allCons (rfl : true = true) (allCons (rfl : true = true) (allCons (rfl : true = true) (allCons (rfl : true = true) (allCons (rfl : true = true) allNil))))))))))))))))))))))))))) (fun _ h => (qThen (h.ht (cont true (of_some hT3)))))
      · rcases of_bif hT3 with ⟨hb132, hT3⟩ | ⟨hb132, hT3⟩
        · exact HT.rgK [oH, oH, oH, ⟨some false, .no⟩, ⟨some false, .no⟩, ⟨none, .tv false⟩, oH, ⟨some false, .no⟩, ⟨some false, .no⟩, ⟨some false, .no⟩, ⟨some false, .no⟩, ⟨some false, .no⟩, ⟨some false, .no⟩, ⟨none, .tv false⟩, oH, ⟨some true, .no⟩, ⟨some true, .no⟩, ⟨some true, .no⟩, ⟨some true, .no⟩, ⟨none, .tv true⟩, oH, ⟨some true, .no⟩, ⟨some true, .no⟩, ⟨some true, .no⟩, ⟨none, .tv true⟩, oH, ⟨some true, .no⟩, ⟨some true, .no⟩, ⟨some true, .no⟩, ⟨none, .tv true⟩, oH, ⟨some true, .no⟩, ⟨some true, .no⟩, ⟨some true, .no⟩, ⟨none, .tv true⟩] [] [] hX (by kernel_rfl) (allCons hb130 (allCons hb130 (allCons hb130 (allCons hb131 (allCons hb131 (allCons hb131 (allCons hb131 (allCons hb131 (allCons hb131 (allCons hb131 (allCons hb132 (allCons hb132 (allCons hb132 (allCons hb132 (allCons hb132 (allCons (rfl : true = true) (allCons (rfl : true = true) (allCons (rfl : true = true) (allCons (rfl : true = true) (allCons (rfl : true = true) (allCons (rfl : true = true) (allCons (rfl : true = true) (allCons (rfl : true = true) (allCons (rfl : true = true) (allCons (rfl : true = true) (allCons (rfl : true = true) (allCons (rfl : true = true) allNil))))))))))))))))))))))))))) (fun _ h => (qThen (h.ht (cont true (of_some hT3)))))
        · rcases of_bif hT3 with ⟨hb133, hT3⟩ | ⟨hb133, hT3⟩
          · exact HT.rgK [oH, oH, oH, ⟨some false, .no⟩, ⟨some false, .no⟩, ⟨none, .tv false⟩, oH, ⟨some false, .no⟩, ⟨some false, .no⟩, ⟨some false, .no⟩, ⟨some false, .no⟩, ⟨some false, .no⟩, ⟨some false, .no⟩, ⟨none, .tv false⟩, oH, ⟨some false, .no⟩, ⟨some false, .no⟩, ⟨some false, .no⟩, ⟨some false, .no⟩, ⟨none, .tv false⟩, oH, ⟨some true, .no⟩, ⟨some true, .no⟩, ⟨some true, .no⟩, ⟨none, .tv true⟩, oH, ⟨some true, .no⟩, ⟨some true, .no⟩, ⟨some true, .no⟩, ⟨none, .tv true⟩, oH, ⟨some true, .no⟩, ⟨some true, .no⟩, ⟨some true, .no⟩, ⟨none, .tv true⟩] [] [] hX (by kernel_rfl) (allCons hb130 (allCons hb130 (allCons hb130 (allCons hb131 (allCons hb131 (allCons hb131 (allCons hb131 (allCons hb131 (allCons hb131 (allCons hb131 (allCons hb132 (allCons hb132 (allCons hb132 (allCons hb132 (allCons hb132 (allCons hb133 (allCons hb133 (allCons hb133 (allCons hb133 (allCons (rfl : true = true) (allCons (rfl : true = true) (allCons (rfl : true = true) (allCons (rfl : true = true) (allCons (rfl : true = true) (allCons (rfl : true = true) (allCons (rfl : true = true) (allCons (rfl : true = true) allNil))))))))))))))))))))))))))) (fun _ h => (qThen (h.ht (cont true (of_some hT3)))))
          · obtain ⟨y134, hc135, hT3⟩ := of_bind hT3
            rcases of_bif hT3 with ⟨hb136, hT3⟩ | ⟨hb136, hT3⟩
            · exact HT.rgK [oH, oH, oH, ⟨some false, .no⟩, ⟨some false, .no⟩, ⟨none, .tv false⟩, oH, ⟨some false, .no⟩, ⟨some false, .no⟩, ⟨some false, .no⟩, ⟨some false, .no⟩, ⟨some false, .no⟩, ⟨some false, .no⟩, ⟨none, .tv false⟩, oH, ⟨some false, .no⟩, ⟨some false, .no⟩, ⟨some false, .no⟩, ⟨some false, .no⟩, ⟨none, .tv false⟩, oH, ⟨some false, .no⟩, ⟨some false, .call [.imm tLF] [⟨false, .bool, y134⟩] []⟩, ⟨some false, .no⟩, ⟨none, .tv false⟩, oH, ⟨some true, .no⟩, ⟨some true, .no⟩, ⟨some true, .no⟩, ⟨none, .tv true⟩, oH, ⟨some true, .no⟩, ⟨some true, .no⟩, ⟨some true, .no⟩, ⟨none, .tv true⟩] [] [] hX (by kernel_rfl) (allCons hb130 (allCons hb130 (allCons hb130 (allCons hb131 (allCons hb131 (allCons hb131 (allCons hb131 (allCons hb131 (allCons hb131 (allCons hb131 (allCons hb132 (allCons hb132 (allCons hb132 (allCons hb132 (allCons hb132 (allCons hb133 (allCons hb133 (allCons (f44_ok hc135) (allCons hb133 (allCons hb133 (allCons hb136 (allCons hb136 (allCons hb136 (allCons hb136 (allCons (rfl : true = true) (allCons (rfl : true = true) (allCons (rfl : true = true) (allCons (rfl : true = true) allNil)))))))))))))))))))))))))))) (fun _ h => (qThen (h.ht (cont true (of_some hT3)))))
            · obtain ⟨y137, hc138, hT3⟩ := of_bind hT3
              rcases of_bif hT3 with ⟨hb139, hT3⟩ | ⟨hb139, hT3⟩
              · exact HT.rgK [oH, oH, oH, ⟨some false, .no⟩, ⟨some false, .no⟩, ⟨none, .tv false⟩, oH, ⟨some false, .no⟩, ⟨some false, .no⟩, ⟨some false, .no⟩, ⟨some false, .no⟩, ⟨some false, .no⟩, ⟨some false, .no⟩, ⟨none, .tv false⟩, oH, ⟨some false, .no⟩, ⟨some false, .no⟩, ⟨some false, .no⟩, ⟨some false, .no⟩, ⟨none, .tv false⟩, oH, ⟨some false, .no⟩, ⟨some false, .call [.imm tLF] [⟨false, .bool, y134⟩] []⟩, ⟨some false, .no⟩, ⟨none, .tv false⟩, oH, ⟨some false, .no⟩, ⟨some false, .call [.imm tLF] [⟨false, .bool, y137⟩] []⟩, ⟨some false, .no⟩, ⟨none, .tv false⟩, oH, ⟨some true, .no⟩, ⟨some true, .no⟩, ⟨some true, .no⟩, ⟨none, .tv true⟩] [] [] hX (by kernel_rfl) (allCons hb130 (allCons hb130 (allCons hb130 (allCons hb131 (allCons hb131 (allCons hb131 (allCons hb131 (allCons hb131 (allCons hb131 (allCons hb131 (allCons hb132 (allCons hb132 (allCons hb132 (allCons hb132 (allCons hb132 (allCons hb133 (allCons hb133 (allCons (f44_ok hc135) (allCons hb133 (allCons hb133 (allCons hb136 (allCons hb136 (allCons (f44_ok hc138) (allCons hb136 (allCons hb136 (allCons hb139 (allCons hb139 (allCons hb139 (allCons hb139 allNil))))))))))))))))))))))))))))) (fun _ h => (qThen (h.ht (cont true (of_some hT3)))))
              · obtain ⟨y140, hc141, hT3⟩ := of_bind hT3
                exact HT.rgK [oH, oH, oH, ⟨some false, .no⟩, ⟨some false, .no⟩, ⟨none, .tv false⟩, oH, ⟨some false, .no⟩, ⟨some false, .no⟩, ⟨some false, .no⟩, ⟨some false, .no⟩, ⟨some false, .no⟩, ⟨some false, .no⟩, ⟨none, .tv false⟩, oH, ⟨some false, .no⟩, ⟨some false, .no⟩, ⟨some false, .no⟩, ⟨some false, .no⟩, ⟨none, .tv false⟩, oH, ⟨some false, .no⟩, ⟨some false, .call [.imm tLF] [⟨false, .bool, y134⟩] []⟩, ⟨some false, .no⟩, ⟨none, .tv false⟩, oH, ⟨some false, .no⟩, ⟨some false, .call [.imm tLF] [⟨false, .bool, y137⟩] []⟩, ⟨some false, .no⟩, ⟨none, .tv false⟩, oH, ⟨some false, .no⟩, ⟨some false, .call [.imm tLF] [⟨false, .bool, y140⟩] []⟩, ⟨some false, .no⟩, ⟨none, .tv false⟩] [] [] hX (by kernel_rfl) (allCons hb130 (allCons hb130 (allCons hb130 (allCons hb131 (allCons hb131 (allCons hb131 (allCons hb131 (allCons hb131 (allCons hb131 (allCons hb131 (allCons hb132 (allCons hb132 (allCons hb132 (allCons hb132 (allCons hb132 (allCons hb133 (allCons hb133 (allCons (f44_ok hc135) (allCons hb133 (allCons hb133 (allCons hb136 (allCons hb136 (allCons (f44_ok hc138) (allCons hb136 (allCons hb136 (allCons hb139 (allCons hb139 (allCons (f44_ok hc141) (allCons hb139 (allCons hb139 allNil)))))))))))))))))))))))))))))) (fun _ h => (qThen (h.ht (cont (!y140) (of_some hT3)))))

noncomputable def impl_absolute (a0 : Nat) : Option (Nat) :=
  bif (flt .f32 a0 (0 : Nat)) then
    some (fneg .f32 a0)
  else
    some a0

theorem f82_ok {a0 : Nat} {r : Nat} (hr : impl_absolute a0 = some r) : CallOK Try.prog 82 [.imm tF a0] [⟨false, tF, r⟩] [] := by
  unfold impl_absolute at hr
  refine CallOK.of_body (ts := [(false, tF)]) Try.func82 rfl (by kernel_rfl) (Nat.le_of_ble_eq_true (by kernel_rfl)) fun cx hP hN hO hF => ?_
  have hO : cx.own.map Prod.fst = [] := hO
  have hX := CxIs.mk hP hN hO
  have hF := hF rfl
  show HT cx ⟨[(0, fV a0)], [], 0⟩ _ _
  refine HT.rg2 [oH] ⟨[(0, fV a0)], [], 0⟩ hX (by kernel_rfl) allNil ?_
  refine HT.seq ?_
  refine HT.rg2 (oHs 2) ⟨[(0, fV a0), (4, bV (flt .f32 a0 (0 : Nat)))], [], 0⟩ hX (by kernel_rfl) allNil ?_
  rcases of_bif hr with ⟨hb1, hr⟩ | ⟨hb1, hr⟩
  · refine HT.cond1 rfl hb1 ?_
    refine HT.rg2 (oHs 3) ⟨[(2, fV (fneg .f32 a0))], [], 0⟩ hX (by kernel_rfl) allNil ?_
    have hr := of_some hr
    subst hr
    exact HT.ret (qThenR ⟨[fV (fneg .f32 a0)], [], [], by kernel_rfl, by kernel_rfl, rfl, by kernel_rfl, by kernel_rfl, trivial⟩)
  · refine HT.cond0 rfl hb1 ?_
    refine HT.skip (qThen ?_)
    refine HT.rg2 (oHs 2) ⟨[(2, fV a0)], [], 0⟩ hX (by kernel_rfl) allNil ?_
    have hr := of_some hr
    subst hr
    exact HT.ret ⟨[fV a0], [], [], by kernel_rfl, by kernel_rfl, rfl, by kernel_rfl, by kernel_rfl, trivial⟩

noncomputable def impl_solve_mv0_B1 (a0 : List (List Nat)) (r3 : List (List Nat)) (s5 : Int × List Nat) (s17 : Int × List Nat) : Option ((Int × List Nat) ⊕ (List Nat)) :=
  bif (decide (s17.1 < (lenI a0))) then
    guardP ((0 : Int) ≤ s5.1 ∧ s5.1 < lenI s17.2) (
      guardP ((0 : Int) ≤ s17.1 ∧ s17.1 < lenI (List.getD r3 (Int.toNat s5.1) ([] : List Nat))) (
        guardP ((0 : Int) ≤ s17.1 ∧ s17.1 < lenI s17.2) (
          some (.inl ((wadd .i64 s17.1 (1 : Int)), (List.set s17.2 (Int.toNat s5.1) (fop .sub .f32 (List.getD s17.2 (Int.toNat s5.1) (0 : Nat)) (fop .mul .f32 (List.getD (List.getD r3 (Int.toNat s5.1) ([] : List Nat)) (Int.toNat s17.1) (0 : Nat)) (List.getD s17.2 (Int.toNat s17.1) (0 : Nat))))))))))
  else
    some (.inr s17.2)

noncomputable def impl_solve_mv0_B2 (a0 : List (List Nat)) (r3 : List (List Nat)) (s5 : Int × List Nat) : Option ((Int × List Nat) ⊕ (List Nat)) :=
  bif (decide (s5.1 ≥ (0 : Int))) then
    guardP ((0 : Int) ≤ s5.1 ∧ s5.1 < lenI r3) (
      guardP ((0 : Int) ≤ (lenI a0) ∧ (lenI a0) < lenI (List.getD r3 (Int.toNat s5.1) ([] : List Nat))) (
        guardP ((0 : Int) ≤ s5.1 ∧ s5.1 < lenI s5.2) (
          (some (List.set s5.2 (Int.toNat s5.1) (List.getD (List.getD r3 (Int.toNat s5.1) ([] : List Nat)) (Int.toNat (lenI a0)) (0 : Nat)))).bind fun q15 =>
          (rounds (impl_solve_mv0_B1 a0 r3 s5) ((wadd .i64 s5.1 (1 : Int)), q15)).bind fun r19 =>
          guardP ((0 : Int) ≤ s5.1 ∧ s5.1 < lenI r19) (
            guardP ((0 : Int) ≤ s5.1 ∧ s5.1 < lenI (List.getD r3 (Int.toNat s5.1) ([] : List Nat))) (
              some (.inl ((wsub .i64 s5.1 (1 : Int)), (List.set r19 (Int.toNat s5.1) (fop .quo .f32 (List.getD r19 (Int.toNat s5.1) (0 : Nat)) (List.getD (List.getD r3 (Int.toNat s5.1) ([] : List Nat)) (Int.toNat s5.1) (0 : Nat)))))))))))
  else
    some (.inr s5.2)

noncomputable def impl_solve_mv0_B3 (a0 : List (List Nat)) (s1 : Int × List (List Nat)) (s44 : Int × List (List Nat)) (q55 : Nat) (s57 : Int × List (List Nat)) : Option ((Int × List (List Nat)) ⊕ (List (List Nat))) :=
  bif (decide (s57.1 ≤ (lenI a0))) then
    guardP ((0 : Int) ≤ s44.1 ∧ s44.1 < lenI s57.2) (
      guardP ((0 : Int) ≤ s57.1 ∧ s57.1 < lenI (List.getD s57.2 (Int.toNat s44.1) ([] : List Nat))) (
        guardP ((0 : Int) ≤ s1.1 ∧ s1.1 < lenI s57.2) (
          guardP ((0 : Int) ≤ s57.1 ∧ s57.1 < lenI (List.getD s57.2 (Int.toNat s1.1) ([] : List Nat))) (
            some (.inl ((wadd .i64 s57.1 (1 : Int)), (List.set s57.2 (Int.toNat s44.1) (List.set (List.getD s57.2 (Int.toNat s44.1) ([] : List Nat)) (Int.toNat s57.1) (fop .sub .f32 (List.getD (List.getD s57.2 (Int.toNat s44.1) ([] : List Nat)) (Int.toNat s57.1) (0 : Nat)) (fop .mul .f32 q55 (List.getD (List.getD s57.2 (Int.toNat s1.1) ([] : List Nat)) (Int.toNat s57.1) (0 : Nat))))))))))))
  else
    some (.inr s57.2)

noncomputable def impl_solve_mv0_B4 (a0 : List (List Nat)) (s1 : Int × List (List Nat)) (s44 : Int × List (List Nat)) : Option ((Int × List (List Nat)) ⊕ (List (List Nat))) :=
  bif (decide (s44.1 < (lenI a0))) then
    guardP ((0 : Int) ≤ s44.1 ∧ s44.1 < lenI s44.2) (
      guardP ((0 : Int) ≤ s1.1 ∧ s1.1 < lenI (List.getD s44.2 (Int.toNat s44.1) ([] : List Nat))) (
        guardP ((0 : Int) ≤ s1.1 ∧ s1.1 < lenI s44.2) (
          guardP ((0 : Int) ≤ s1.1 ∧ s1.1 < lenI (List.getD s44.2 (Int.toNat s1.1) ([] : List Nat))) (
            (some (fop .quo .f32 (List.getD (List.getD s44.2 (Int.toNat s44.1) ([] : List Nat)) (Int.toNat s1.1) (0 : Nat)) (List.getD (List.getD s44.2 (Int.toNat s1.1) ([] : List Nat)) (Int.toNat s1.1) (0 : Nat)))).bind fun q55 =>
            (rounds (impl_solve_mv0_B3 a0 s1 s44 q55) ((wadd .i64 s1.1 (1 : Int)), s44.2)).bind fun r59 =>
            some (.inl ((wadd .i64 s44.1 (1 : Int)), r59))))))
  else
    some (.inr s44.2)

noncomputable def impl_solve_mv0_B5 (a0 : List (List Nat)) (s1 : Int × List (List Nat)) (s36 : Int × Int) : Option ((Int × Int) ⊕ (Int)) :=
  bif (decide (s36.2 < (lenI a0))) then
    (show Option (Int) from
      guardP ((0 : Int) ≤ s36.2 ∧ s36.2 < lenI s1.2) (
        guardP ((0 : Int) ≤ s1.1 ∧ s1.1 < lenI (List.getD s1.2 (Int.toNat s36.2) ([] : List Nat))) (
          (impl_absolute (List.getD (List.getD s1.2 (Int.toNat s36.2) ([] : List Nat)) (Int.toNat s1.1) (0 : Nat))).bind fun y79 =>
          guardP ((0 : Int) ≤ s36.1 ∧ s36.1 < lenI s1.2) (
            guardP ((0 : Int) ≤ s1.1 ∧ s1.1 < lenI (List.getD s1.2 (Int.toNat s36.1) ([] : List Nat))) (
              (impl_absolute (List.getD (List.getD s1.2 (Int.toNat s36.1) ([] : List Nat)) (Int.toNat s1.1) (0 : Nat))).bind fun y83 =>
              bif (fgt .f32 y79 y83) then
                some s36.2
              else
                some s36.1))))).bind fun v74 =>
    some (.inl (v74, (wadd .i64 s36.2 (1 : Int))))
  else
    some (.inr s36.1)

noncomputable def impl_solve_mv0_B6 (a0 : List (List Nat)) (s1 : Int × List (List Nat)) : Option ((Int × List (List Nat)) ⊕ (List (List Nat) ⊕ Unit)) :=
  bif (decide (s1.1 < (lenI a0))) then
    (rounds (impl_solve_mv0_B5 a0 s1) (s1.1, (wadd .i64 s1.1 (1 : Int)))).bind fun r38 =>
    guardP ((0 : Int) ≤ r38 ∧ r38 < lenI s1.2) (
      guardP ((0 : Int) ≤ s1.1 ∧ s1.1 < lenI s1.2) (
        guardP ((0 : Int) ≤ s1.1 ∧ s1.1 < lenI (swapL s1.2 (Int.toNat s1.1) (Int.toNat r38) [])) (
          guardP ((0 : Int) ≤ s1.1 ∧ s1.1 < lenI (List.getD (swapL s1.2 (Int.toNat s1.1) (Int.toNat r38) []) (Int.toNat s1.1) ([] : List Nat))) (
            bif (feq .f32 (List.getD (List.getD (swapL s1.2 (Int.toNat s1.1) (Int.toNat r38) []) (Int.toNat s1.1) ([] : List Nat)) (Int.toNat s1.1) (0 : Nat)) (0 : Nat)) then
              some (.inr (.inr ()))
            else
              (rounds (impl_solve_mv0_B4 a0 s1) ((wadd .i64 s1.1 (1 : Int)), (swapL s1.2 (Int.toNat s1.1) (Int.toNat r38) []))).bind fun r46 =>
              some (.inl ((wadd .i64 s1.1 (1 : Int)), r46))))))
  else
    some (.inr (.inl s1.2))

noncomputable def impl_solve_mv0 (a0 : List (List Nat)) : Option (List Nat × Bool) :=
  (rounds (impl_solve_mv0_B6 a0) ((0 : Int), a0)).bind fun r2 => match r2 with
    | .inl r3 =>
      guardP ((0 : Int) ≤ (lenI a0) ∧ (lenI a0) ≤ 4294967296) (
        (rounds (impl_solve_mv0_B2 a0 r3) ((wsub .i64 (lenI a0) (1 : Int)), (List.replicate (Int.toNat (lenI a0)) (0 : Nat)))).bind fun r7 =>
        some (r7, true))
    | .inr r31 =>
      some (([] : List Nat), false)

set_option maxRecDepth 100000 in
theorem f48_mv0_ok {a0 : List (List Nat)} {r : List Nat × Bool} (hr : impl_solve_mv0 a0 = some r) : CallOK Try.prog 48 [.mv (.sl (.own tF)) a0] [⟨true, tLF, r.1⟩, ⟨false, .bool, r.2⟩] [] := by
  unfold impl_solve_mv0 at hr
  refine CallOK.of_body (ts := [(true, tLF), (false, .bool)]) Try.func48 rfl (by kernel_rfl) (Nat.le_of_ble_eq_true (by kernel_rfl)) fun cx hP hN hO hF => ?_
  have hO : cx.own.map Prod.fst = [] := hO
  have hX := CxIs.mk hP hN hO
  show HT cx ⟨[(0, aV 0)], [(0, .seq (.own tF) a0)], 1⟩ _ _
  refine HT.rg2 (oHs 2) ⟨[(0, aV 0)], [(0, .seq (.own tF) a0)], 1⟩ hX (by kernel_rfl) allNil ?_
  refine HT.rg2 (oHs 3) ⟨[(0, aV 0), (4, iV (lenI a0))], [(0, .seq (.own tF) a0)], 1⟩ hX (by kernel_rfl) allNil ?_
  refine HT.seq ?_
  refine HT.rg2 (oHs 2) ⟨[(0, aV 0), (4, iV (lenI a0)), (16, iV (lenI a0)), (17, iV (0 : Int))], [(0, .seq (.own tF) a0)], 1⟩ hX (by kernel_rfl) allNil ?_
  refine HT.block ?_
  obtain ⟨r2, hL87, hr⟩ := of_bind hr
  refine HT.loopL (fun (s1 : Int × List (List Nat)) => ⟨[(0, aV 0), (4, iV (lenI a0)), (16, iV (lenI a0)), (17, iV s1.1)], [(0, .seq (.own tF) s1.2)], 1⟩) (fun (r2 : List (List Nat) ⊕ Unit) => match r2 with | .inl r3 => (.exit 0, ⟨[(0, aV 0), (4, iV (lenI a0))], [(0, .seq (.own tF) r3)], 1⟩) | .inr r31 => (.ret, ⟨[(2, .one (.nilS)), (3, bV false)], [], 0⟩)) (Le.re [(0, 0)] [] hX (by kernel_rfl)) hL87 ?_ (fun s1 x32 hx33 hk34 => ?_)
  · rcases r2 with r3 | r31
    · refine (qBlockX (qThen ?_))
      obtain ⟨hg4, hr⟩ := of_guard hr
      refine HT.rg2 [oH, ⟨none, .ty tF⟩, oH] ⟨[(0, aV 0), (4, iV (lenI a0)), (11, aV 1)], [(1, .seq tF (List.replicate (Int.toNat (lenI a0)) (0 : Nat))), (0, .seq (.own tF) r3)], 2⟩ hX (by kernel_rfl) (allCons (show (0 : Int) ≤ (lenI a0) ∧ (lenI a0) ≤ (lenI a0) ∧ (lenI a0) ≤ 4294967296 from ⟨hg4.1, Int.le_refl _, hg4.2⟩) allNil) ?_
      refine HT.seq ?_
      refine HT.rg2 (oHs 3) ⟨[(0, aV 0), (4, iV (lenI a0)), (11, aV 1), (12, iV (wsub .i64 (lenI a0) (1 : Int)))], [(1, .seq tF (List.replicate (Int.toNat (lenI a0)) (0 : Nat))), (0, .seq (.own tF) r3)], 2⟩ hX (by kernel_rfl) allNil ?_
      refine HT.block ?_
      obtain ⟨r6, hL30, hr⟩ := of_bind hr
      refine HT.loopL (fun (s5 : Int × List Nat) => ⟨[(0, aV 0), (4, iV (lenI a0)), (11, aV 1), (12, iV s5.1)], [(0, .seq (.own tF) r3), (1, .seq tF s5.2)], 2⟩) (fun (r7 : List Nat) => (.exit 8, ⟨[(11, aV 0)], [(0, .seq tF r7)], 1⟩)) (Le.re [(0, 0), (1, 1)] [] hX (by kernel_rfl)) hL30 ?_ (fun s5 x8 hx9 hk10 => ?_)
      · refine (qBlockX (qThen ?_))
        refine HT.rg2 (oHs 3) ⟨[(2, aV 0), (3, bV true)], [(0, .seq tF r6)], 1⟩ hX (by kernel_rfl) allNil ?_
        have hr := of_some hr
        subst hr
        exact HT.ret ⟨[aV 0, bV true], [0], [], by kernel_rfl, by kernel_rfl, rfl, by kernel_rfl, by kernel_rfl, trivial⟩
      · refine HT.seq ?_
        refine HT.rg2 (oHs 2) ⟨[(0, aV 0), (4, iV (lenI a0)), (11, aV 1), (12, iV s5.1), (126, bV (decide (s5.1 ≥ (0 : Int))))], [(0, .seq (.own tF) r3), (1, .seq tF s5.2)], 2⟩ hX (by kernel_rfl) allNil ?_
        rcases of_bif hx9 with ⟨hb11, hx9⟩ | ⟨hb11, hx9⟩
        · refine HT.cond1 rfl hb11 ?_
          refine HT.skip (qThen ?_)
          refine HT.seq ?_
          refine HT.block ?_
          obtain ⟨hg12, hx9⟩ := of_guard hx9
          obtain ⟨hg13, hx9⟩ := of_guard hx9
          obtain ⟨hg14, hx9⟩ := of_guard hx9
          refine HT.rg2 (oHs 11) ⟨[(0, aV 0), (4, iV (lenI a0)), (11, aV 1), (12, iV s5.1)], [(1, .seq tF (List.set s5.2 (Int.toNat s5.1) (List.getD (List.getD r3 (Int.toNat s5.1) ([] : List Nat)) (Int.toNat (lenI a0)) (0 : Nat)))), (0, .seq (.own tF) r3)], 2⟩ hX (by kernel_rfl) (allCons hg12 (allCons (natLt hg12) (allCons hg13 (allCons (natLt hg13) (allCons hg14 (allCons (natLt hg14) allNil)))))) ?_
          obtain ⟨q15, hq16, hx9⟩ := of_bind hx9
          have hq16 := of_some2 hq16
          refine (Le.cv (s := ⟨[(1, 1), (0, 0)], [], [], false⟩) (own := []) (ps := [(lenI a0) = (lenI a0), s5.1 = s5.1, q15 = (List.set s5.2 (Int.toNat s5.1) (List.getD (List.getD r3 (Int.toNat s5.1) ([] : List Nat)) (Int.toNat (lenI a0)) (0 : Nat))), r3 = r3]) (st' := ⟨[(0, aV 0), (4, iV (lenI a0)), (11, aV 1), (12, iV s5.1)], [(1, .seq tF q15), (0, .seq (.own tF) r3)], 2⟩) hO (fun h => by cases h) (by kernel_rfl) ⟨rfl, rfl, hq16, rfl, trivial⟩).ht ?_
          refine HT.seq ?_
          refine HT.rg2 (oHs 3) ⟨[(0, aV 0), (4, iV (lenI a0)), (11, aV 1), (12, iV s5.1), (13, iV (wadd .i64 s5.1 (1 : Int)))], [(1, .seq tF q15), (0, .seq (.own tF) r3)], 2⟩ hX (by kernel_rfl) allNil ?_
          refine HT.block ?_
          obtain ⟨r18, hL29, hx9⟩ := of_bind hx9
          refine HT.loopL (fun (s17 : Int × List Nat) => ⟨[(0, aV 0), (4, iV (lenI a0)), (11, aV 1), (12, iV s5.1), (13, iV s17.1)], [(0, .seq (.own tF) r3), (1, .seq tF s17.2)], 2⟩) (fun (r19 : List Nat) => (.exit 10, ⟨[(0, aV 0), (4, iV (lenI a0)), (11, aV 1), (12, iV s5.1)], [(0, .seq (.own tF) r3), (1, .seq tF r19)], 2⟩)) (Le.re [(0, 0), (1, 1)] [] hX (by kernel_rfl)) hL29 ?_ (fun s17 x22 hx23 hk24 => ?_)
          · refine (qBlockX (qThen ?_))
            obtain ⟨hg20, hx9⟩ := of_guard hx9
            obtain ⟨hg21, hx9⟩ := of_guard hx9
            refine HT.drL 14 [⟨oH, []⟩, ⟨oH, []⟩, ⟨oH, []⟩, ⟨oH, []⟩, ⟨oH, [2, 3]⟩, ⟨oH, [2, 3, 4]⟩, ⟨oH, []⟩, ⟨oH, []⟩, ⟨oH, [6, 7]⟩, ⟨oH, [6, 7, 8]⟩, ⟨oH, []⟩, ⟨oH, [6, 7, 8, 9, 10]⟩, ⟨oH, [6, 7, 8, 9, 10, 11]⟩, ⟨oH, [2, 3, 4, 5, 6, 7, 8, 9, 10, 11, 12]⟩] [[0, 1, 2, 3, 4, 5, 6, 7, 8, 9, 10, 11, 12, 13], [0, 1, 2, 3, 4, 5, 6, 7, 8, 9, 10, 11, 12, 13, 14]] (oHs 2) ⟨[(0, aV 0), (4, iV (lenI a0)), (11, aV 1), (12, iV s5.1)], [(1, .seq tF (List.set r18 (Int.toNat s5.1) (fop .quo .f32 (List.getD r18 (Int.toNat s5.1) (0 : Nat)) (List.getD (List.getD r3 (Int.toNat s5.1) ([] : List Nat)) (Int.toNat s5.1) (0 : Nat))))), (0, .seq (.own tF) r3)], 2⟩ hX (by kernel_rfl) (by kernel_rfl) (allCons hg20 (allCons (natLt hg20) (allCons hg12 (allCons (natLt hg12) (allCons hg21 (allCons (natLt hg21) (allCons hg20 (allCons (natLt hg20) allNil)))))))) (qBlock (qThen ?_))
            have hx9 := of_some hx9
            subst hx9
            exact HT.rgK (oHs 3) [(0, 0), (1, 1)] [] hX (by kernel_rfl) allNil (fun _ h => (qLoopN ⟨((wsub .i64 s5.1 (1 : Int)), (List.set r18 (Int.toNat s5.1) (fop .quo .f32 (List.getD r18 (Int.toNat s5.1) (0 : Nat)) (List.getD (List.getD r3 (Int.toNat s5.1) ([] : List Nat)) (Int.toNat s5.1) (0 : Nat))))), rfl, h⟩))
          · refine HT.seq ?_
            refine HT.rg2 (oHs 3) ⟨[(0, aV 0), (4, iV (lenI a0)), (11, aV 1), (12, iV s5.1), (13, iV s17.1), (143, bV (decide (s17.1 < (lenI a0))))], [(0, .seq (.own tF) r3), (1, .seq tF s17.2)], 2⟩ hX (by kernel_rfl) allNil ?_
            rcases of_bif hx23 with ⟨hb25, hx23⟩ | ⟨hb25, hx23⟩
            · refine HT.cond1 rfl hb25 ?_
              refine HT.skip (qThen ?_)
              refine HT.seq ?_
              refine HT.block ?_
              obtain ⟨hg26, hx23⟩ := of_guard hx23
              obtain ⟨hg27, hx23⟩ := of_guard hx23
              obtain ⟨hg28, hx23⟩ := of_guard hx23
              refine HT.drL 19 [⟨oH, []⟩, ⟨oH, []⟩, ⟨oH, []⟩, ⟨oH, []⟩, ⟨oH, [2, 3]⟩, ⟨oH, [2, 3, 4]⟩, ⟨oH, []⟩, ⟨oH, []⟩, ⟨oH, [6, 7]⟩, ⟨oH, [6, 7, 8]⟩, ⟨oH, []⟩, ⟨oH, [6, 7, 8, 9, 10]⟩, ⟨oH, [6, 7, 8, 9, 10, 11]⟩, ⟨oH, []⟩, ⟨oH, []⟩, ⟨oH, [13, 14]⟩, ⟨oH, [13, 14, 15]⟩, ⟨oH, [6, 7, 8, 9, 10, 11, 12, 13, 14, 15, 16]⟩, ⟨oH, [2, 3, 4, 5, 6, 7, 8, 9, 10, 11, 12, 13, 14, 15, 16, 17]⟩] [[0, 1, 2, 3, 4, 5, 6, 7, 8, 9, 10, 11, 12, 13, 14, 15, 16, 17, 18], [0, 1, 2, 3, 4, 5, 6, 7, 8, 9, 10, 11, 12, 13, 14, 15, 16, 17, 18, 19]] (oHs 2) ⟨[(0, aV 0), (4, iV (lenI a0)), (11, aV 1), (12, iV s5.1), (13, iV s17.1)], [(1, .seq tF (List.set s17.2 (Int.toNat s5.1) (fop .sub .f32 (List.getD s17.2 (Int.toNat s5.1) (0 : Nat)) (fop .mul .f32 (List.getD (List.getD r3 (Int.toNat s5.1) ([] : List Nat)) (Int.toNat s17.1) (0 : Nat)) (List.getD s17.2 (Int.toNat s17.1) (0 : Nat)))))), (0, .seq (.own tF) r3)], 2⟩ hX (by kernel_rfl) (by kernel_rfl) (allCons hg26 (allCons (natLt hg26) (allCons hg12 (allCons (natLt hg12) (allCons hg27 (allCons (natLt hg27) (allCons hg28 (allCons (natLt hg28) (allCons hg26 (allCons (natLt hg26) allNil)))))))))) (qBlock (qThen ?_))
              have hx23 := of_some hx23
              subst hx23
              exact HT.rgK (oHs 3) [(0, 0), (1, 1)] [] hX (by kernel_rfl) allNil (fun _ h => (qLoopN ⟨((wadd .i64 s17.1 (1 : Int)), (List.set s17.2 (Int.toNat s5.1) (fop .sub .f32 (List.getD s17.2 (Int.toNat s5.1) (0 : Nat)) (fop .mul .f32 (List.getD (List.getD r3 (Int.toNat s5.1) ([] : List Nat)) (Int.toNat s17.1) (0 : Nat)) (List.getD s17.2 (Int.toNat s17.1) (0 : Nat)))))), rfl, h⟩))
            · refine HT.cond0 rfl hb25 ?_
              have hx23 := of_some hx23
              subst hx23
              exact HT.exitL (Le.re [(0, 0), (1, 1)] [] hX (by kernel_rfl)) (qThenE (qLoopE (hk24 s17.2 rfl)))
        · refine HT.cond0 rfl hb11 ?_
          have hx9 := of_some hx9
          subst hx9
          exact HT.exitL (Le.re [(1, 0)] [] hX (by kernel_rfl)) (qThenE (qLoopE (hk10 s5.2 rfl)))
    · have hr := of_some hr
      subst hr
      exact (qBlockR (qThenR ⟨[.one (.nilS), bV false], [], [], by kernel_rfl, by kernel_rfl, rfl, by kernel_rfl, by kernel_rfl, trivial⟩))
  · refine HT.rg2 [oH] ⟨[(0, aV 0), (4, iV (lenI a0)), (16, iV (lenI a0)), (17, iV s1.1), (18, bV (decide (s1.1 < (lenI a0))))], [(0, .seq (.own tF) s1.2)], 1⟩ hX (by kernel_rfl) allNil ?_
    refine HT.seq ?_
    rcases of_bif hx33 with ⟨hb35, hx33⟩ | ⟨hb35, hx33⟩
    · refine HT.cond1 rfl hb35 ?_
      refine HT.skip (qThen ?_)
      refine HT.seq ?_
      refine HT.block ?_
      refine HT.rg2 (oHs 2) ⟨[(0, aV 0), (4, iV (lenI a0)), (5, iV s1.1), (16, iV (lenI a0)), (17, iV s1.1)], [(0, .seq (.own tF) s1.2)], 1⟩ hX (by kernel_rfl) allNil ?_
      refine HT.rg2 (oHs 2) ⟨[(0, aV 0), (4, iV (lenI a0)), (5, iV s1.1), (6, iV s1.1), (16, iV (lenI a0)), (17, iV s1.1)], [(0, .seq (.own tF) s1.2)], 1⟩ hX (by kernel_rfl) allNil ?_
      refine HT.seq ?_
      refine HT.rg2 (oHs 3) ⟨[(0, aV 0), (4, iV (lenI a0)), (5, iV s1.1), (6, iV s1.1), (7, iV (wadd .i64 s1.1 (1 : Int))), (16, iV (lenI a0)), (17, iV s1.1)], [(0, .seq (.own tF) s1.2)], 1⟩ hX (by kernel_rfl) allNil ?_
      refine HT.block ?_
      obtain ⟨r37, hL86, hx33⟩ := of_bind hx33
      refine HT.loopL (fun (s36 : Int × Int) => ⟨[(0, aV 0), (4, iV (lenI a0)), (5, iV s1.1), (6, iV s36.1), (7, iV s36.2), (16, iV (lenI a0)), (17, iV s1.1)], [(0, .seq (.own tF) s1.2)], 1⟩) (fun (r38 : Int) => (.exit 2, ⟨[(0, aV 0), (4, iV (lenI a0)), (5, iV s1.1), (6, iV r38), (16, iV (lenI a0)), (17, iV s1.1)], [(0, .seq (.own tF) s1.2)], 1⟩)) (Le.re [(0, 0)] [] hX (by kernel_rfl)) hL86 ?_ (fun s36 x70 hx71 hk72 => ?_)
      · refine (qBlockX (qThen ?_))
        obtain ⟨hg39, hx33⟩ := of_guard hx33
        obtain ⟨hg40, hx33⟩ := of_guard hx33
        refine HT.seq (HT.rd (st' := ⟨[(59, .one (.elp 0 (Int.toNat r37) 1 0)), (58, .one (.elp 0 (Int.toNat s1.1) 1 0)), (0, aV 0), (4, iV (lenI a0)), (5, iV s1.1), (16, iV (lenI a0)), (17, iV s1.1), (46, aV 0), (47, iV s1.1), (48, aV 0), (49, iV r37), (53, .junk), (57, .junk)], [(0, .seq (.own tF) (swapL s1.2 (Int.toNat s1.1) (Int.toNat r37) [])), (0, .seq (.own tF) s1.2)], 1⟩) hX (by kernel_rfl) rfl rfl (RD.take (listed' := #[true, true, true, true, true, true, true, false, true, true, true, false, false, false, false, false]) (st1 := ⟨[(56, .one (.elp 0 (Int.toNat s1.1) 1 0)), (55, iV s1.1), (54, aV 0), (52, .one (.elp 0 (Int.toNat r37) 1 0)), (51, iV r37), (50, aV 0), (49, iV r37), (48, aV 0), (47, iV s1.1), (46, aV 0), (0, aV 0), (4, iV (lenI a0)), (5, iV s1.1), (6, iV r37), (16, iV (lenI a0)), (17, iV s1.1)], [(0, .seq (.own tF) s1.2)], 1⟩) (n := 6) hX [0, 1, 2, 3, 4, 5, 6, 8, 9, 10] (by kernel_rfl) (allCons hg39 (allCons hg40 allNil)) (RD.two (ri := oH) (rj := oH) hX 7 11 ⟨[(53, .one (.row 0 (Int.toNat r37) 0)), (56, .one (.elp 0 (Int.toNat s1.1) 1 0)), (55, iV s1.1), (54, aV 0), (52, .one (.elp 0 (Int.toNat r37) 1 0)), (51, iV r37), (50, aV 0), (49, iV r37), (48, aV 0), (47, iV s1.1), (46, aV 0), (0, aV 0), (4, iV (lenI a0)), (5, iV s1.1), (6, iV r37), (16, iV (lenI a0)), (17, iV s1.1)], [(0, .seq (.own tF) s1.2)], 1⟩ ⟨[(57, .one (.row 0 (Int.toNat s1.1) 0)), (56, .one (.elp 0 (Int.toNat s1.1) 1 0)), (55, iV s1.1), (54, aV 0), (52, .one (.elp 0 (Int.toNat r37) 1 0)), (51, iV r37), (50, aV 0), (49, iV r37), (48, aV 0), (47, iV s1.1), (46, aV 0), (0, aV 0), (4, iV (lenI a0)), (5, iV s1.1), (6, iV r37), (16, iV (lenI a0)), (17, iV s1.1)], [(0, .seq (.own tF) s1.2)], 1⟩ (by kernel_rfl) rfl rfl (by kernel_rfl) (allCons (natLt hg39) allNil) (by kernel_rfl) (allCons (natLt hg40) allNil) (RD.one hX 11 (r := oH) ⟨[(57, .one (.row 0 (Int.toNat s1.1) 0)), (53, .one (.row 0 (Int.toNat r37) 0)), (56, .one (.elp 0 (Int.toNat s1.1) 1 0)), (55, iV s1.1), (54, aV 0), (52, .one (.elp 0 (Int.toNat r37) 1 0)), (51, iV r37), (50, aV 0), (49, iV r37), (48, aV 0), (47, iV s1.1), (46, aV 0), (0, aV 0), (4, iV (lenI a0)), (5, iV s1.1), (6, iV r37), (16, iV (lenI a0)), (17, iV s1.1)], [(0, .seq (.own tF) s1.2)], 1⟩ (by kernel_rfl) rfl (by kernel_rfl) (allCons (natLt hg40) allNil) (RD.le (Le.gc (ks := [0, 4, 5, 16, 17, 46, 47, 48, 49, 53, 57]) (ms := [0]) (st' := ⟨[(0, aV 0), (4, iV (lenI a0)), (5, iV s1.1), (16, iV (lenI a0)), (17, iV s1.1), (46, aV 0), (47, iV s1.1), (48, aV 0), (49, iV r37), (53, .one (.row 0 (Int.toNat r37) 0)), (57, .one (.row 0 (Int.toNat s1.1) 0))], [(0, .seq (.own tF) s1.2)], 1⟩) (cs := []) hX (rfl : some (⟨[(57, .one (.row 0 (Int.toNat s1.1) 0)), (53, .one (.row 0 (Int.toNat r37) 0)), (56, .one (.elp 0 (Int.toNat s1.1) 1 0)), (55, iV s1.1), (54, aV 0), (52, .one (.elp 0 (Int.toNat r37) 1 0)), (51, iV r37), (50, aV 0), (49, iV r37), (48, aV 0), (47, iV s1.1), (46, aV 0), (0, aV 0), (4, iV (lenI a0)), (5, iV s1.1), (6, iV r37), (16, iV (lenI a0)), (17, iV s1.1)], [(0, .seq (.own tF) s1.2)], 1⟩, ([] : List Prop)) = _) (by kernel_rfl)).2 (RD.tail 12 [[], [], [], [], [], [], [], [], [], [], [], [], [], [12], [12, 13], [12, 13, 14]] (by kernel_rfl) (by kernel_rfl) (by kernel_rfl) (RG.cut 1 [oH] ⟨[(58, .one (.elp 0 (Int.toNat s1.1) 1 0)), (0, aV 0), (4, iV (lenI a0)), (5, iV s1.1), (16, iV (lenI a0)), (17, iV s1.1), (46, aV 0), (47, iV s1.1), (48, aV 0), (49, iV r37), (53, .one (.row 0 (Int.toNat r37) 0)), (57, .one (.row 0 (Int.toNat s1.1) 0))], [(0, .seq (.own tF) s1.2)], 1⟩ hP hN (by kernel_rfl) (allCons hg40 allNil) (RG.swap3 (i := (Int.toNat s1.1)) hX rfl rfl rfl rfl rfl rfl rfl rfl rfl (by kernel_rfl) rfl (by kernel_rfl) (by kernel_rfl) rfl rfl rfl rfl rfl rfl (by kernel_rfl) hg39 ⟨rfl, by kernel_rfl⟩))))) (RD.one hX 7 (r := oH) ⟨[(53, .one (.row 0 (Int.toNat r37) 0)), (57, .one (.row 0 (Int.toNat s1.1) 0)), (56, .one (.elp 0 (Int.toNat s1.1) 1 0)), (55, iV s1.1), (54, aV 0), (52, .one (.elp 0 (Int.toNat r37) 1 0)), (51, iV r37), (50, aV 0), (49, iV r37), (48, aV 0), (47, iV s1.1), (46, aV 0), (0, aV 0), (4, iV (lenI a0)), (5, iV s1.1), (6, iV r37), (16, iV (lenI a0)), (17, iV s1.1)], [(0, .seq (.own tF) s1.2)], 1⟩ (by kernel_rfl) rfl (by kernel_rfl) (allCons (natLt hg39) allNil) (RD.le (Le.gc (ks := [0, 4, 5, 16, 17, 46, 47, 48, 49, 53, 57]) (ms := [0]) (st' := ⟨[(0, aV 0), (4, iV (lenI a0)), (5, iV s1.1), (16, iV (lenI a0)), (17, iV s1.1), (46, aV 0), (47, iV s1.1), (48, aV 0), (49, iV r37), (53, .one (.row 0 (Int.toNat r37) 0)), (57, .one (.row 0 (Int.toNat s1.1) 0))], [(0, .seq (.own tF) s1.2)], 1⟩) (cs := []) hX (rfl : some (⟨[(53, .one (.row 0 (Int.toNat r37) 0)), (57, .one (.row 0 (Int.toNat s1.1) 0)), (56, .one (.elp 0 (Int.toNat s1.1) 1 0)), (55, iV s1.1), (54, aV 0), (52, .one (.elp 0 (Int.toNat r37) 1 0)), (51, iV r37), (50, aV 0), (49, iV r37), (48, aV 0), (47, iV s1.1), (46, aV 0), (0, aV 0), (4, iV (lenI a0)), (5, iV s1.1), (6, iV r37), (16, iV (lenI a0)), (17, iV s1.1)], [(0, .seq (.own tF) s1.2)], 1⟩, ([] : List Prop)) = _) (by kernel_rfl)).2 (RD.tail 12 [[], [], [], [], [], [], [], [], [], [], [], [], [], [12], [12, 13], [12, 13, 14]] (by kernel_rfl) (by kernel_rfl) (by kernel_rfl) (RG.cut 1 [oH] ⟨[(58, .one (.elp 0 (Int.toNat s1.1) 1 0)), (0, aV 0), (4, iV (lenI a0)), (5, iV s1.1), (16, iV (lenI a0)), (17, iV s1.1), (46, aV 0), (47, iV s1.1), (48, aV 0), (49, iV r37), (53, .one (.row 0 (Int.toNat r37) 0)), (57, .one (.row 0 (Int.toNat s1.1) 0))], [(0, .seq (.own tF) s1.2)], 1⟩ hP hN (by kernel_rfl) (allCons hg40 allNil) (RG.swap3 (i := (Int.toNat s1.1)) hX rfl rfl rfl rfl rfl rfl rfl rfl rfl (by kernel_rfl) rfl (by kernel_rfl) (by kernel_rfl) rfl rfl rfl rfl rfl rfl (by kernel_rfl) hg39 ⟨rfl, by kernel_rfl⟩))))))) (qThen ?_))
        refine (Le.gc (ks := [0, 4, 5, 16, 17]) (ms := [0]) (st' := ⟨[(0, aV 0), (4, iV (lenI a0)), (5, iV s1.1), (16, iV (lenI a0)), (17, iV s1.1)], [(0, .seq (.own tF) (swapL s1.2 (Int.toNat s1.1) (Int.toNat r37) []))], 1⟩) (cs := []) hX (rfl : some (⟨[(59, .one (.elp 0 (Int.toNat r37) 1 0)), (58, .one (.elp 0 (Int.toNat s1.1) 1 0)), (0, aV 0), (4, iV (lenI a0)), (5, iV s1.1), (16, iV (lenI a0)), (17, iV s1.1), (46, aV 0), (47, iV s1.1), (48, aV 0), (49, iV r37), (53, .junk), (57, .junk)], [(0, .seq (.own tF) (swapL s1.2 (Int.toNat s1.1) (Int.toNat r37) [])), (0, .seq (.own tF) s1.2)], 1⟩, ([] : List Prop)) = _) (by kernel_rfl)).2.ht ?_
        refine HT.seq ?_
        obtain ⟨hg41, hx33⟩ := of_guard hx33
        obtain ⟨hg42, hx33⟩ := of_guard hx33
        refine HT.rg2 (oHs 8) ⟨[(0, aV 0), (4, iV (lenI a0)), (5, iV s1.1), (16, iV (lenI a0)), (17, iV s1.1), (67, bV (feq .f32 (List.getD (List.getD (swapL s1.2 (Int.toNat s1.1) (Int.toNat r37) []) (Int.toNat s1.1) ([] : List Nat)) (Int.toNat s1.1) (0 : Nat)) (0 : Nat)))], [(0, .seq (.own tF) (swapL s1.2 (Int.toNat s1.1) (Int.toNat r37) []))], 1⟩ hX (by kernel_rfl) (allCons hg41 (allCons (natLt hg41) (allCons hg42 (allCons (natLt hg42) allNil)))) ?_
        rcases of_bif hx33 with ⟨hb43, hx33⟩ | ⟨hb43, hx33⟩
        · refine HT.cond1 rfl hb43 ?_
          refine HT.rg2 (oHs 2) ⟨[(2, .one (.nilS)), (3, bV false)], [], 1⟩ hX (by kernel_rfl) allNil ?_
          have hx33 := of_some hx33
          subst hx33
          exact HT.retL (Le.re [] [] hX (by kernel_rfl)) (qThenR (qBlockR (qThenR (qLoopR (hk34 (.inr ()) rfl)))))
        · refine HT.cond0 rfl hb43 ?_
          refine HT.skip (qThen ?_)
          refine HT.rg2 (oHs 3) ⟨[(0, aV 0), (4, iV (lenI a0)), (5, iV s1.1), (8, iV (wadd .i64 s1.1 (1 : Int))), (16, iV (lenI a0)), (17, iV s1.1)], [(0, .seq (.own tF) (swapL s1.2 (Int.toNat s1.1) (Int.toNat r37) []))], 1⟩ hX (by kernel_rfl) allNil ?_
          refine HT.block ?_
          obtain ⟨r45, hL69, hx33⟩ := of_bind hx33
          refine HT.loopL (fun (s44 : Int × List (List Nat)) => ⟨[(0, aV 0), (4, iV (lenI a0)), (5, iV s1.1), (8, iV s44.1), (16, iV (lenI a0)), (17, iV s1.1)], [(0, .seq (.own tF) s44.2)], 1⟩) (fun (r46 : List (List Nat)) => (.exit 4, ⟨[(0, aV 0), (4, iV (lenI a0)), (16, iV (lenI a0)), (17, iV s1.1)], [(0, .seq (.own tF) r46)], 1⟩)) (Le.re [(0, 0)] [] hX (by kernel_rfl)) hL69 ?_ (fun s44 x47 hx48 hk49 => ?_)
          · refine (qBlockX (qBlock (qThen ?_)))
            have hx33 := of_some hx33
            subst hx33
            exact HT.rgK (oHs 2) [(0, 0)] [] hX (by kernel_rfl) allNil (fun _ h => (qLoopN ⟨((wadd .i64 s1.1 (1 : Int)), r45), rfl, h⟩))
          · refine HT.seq ?_
            refine HT.rg2 (oHs 3) ⟨[(0, aV 0), (4, iV (lenI a0)), (5, iV s1.1), (8, iV s44.1), (16, iV (lenI a0)), (17, iV s1.1), (72, bV (decide (s44.1 < (lenI a0))))], [(0, .seq (.own tF) s44.2)], 1⟩ hX (by kernel_rfl) allNil ?_
            rcases of_bif hx48 with ⟨hb50, hx48⟩ | ⟨hb50, hx48⟩
            · refine HT.cond1 rfl hb50 ?_
              refine HT.skip (qThen ?_)
              refine HT.seq ?_
              refine HT.block ?_
              obtain ⟨hg51, hx48⟩ := of_guard hx48
              obtain ⟨hg52, hx48⟩ := of_guard hx48
              obtain ⟨hg53, hx48⟩ := of_guard hx48
              obtain ⟨hg54, hx48⟩ := of_guard hx48
              refine HT.dr2 14 [⟨oH, []⟩, ⟨oH, []⟩, ⟨oH, [0, 1]⟩, ⟨oH, [0, 1, 2]⟩, ⟨oH, []⟩, ⟨oH, [0, 1, 2, 3, 4]⟩, ⟨oH, [0, 1, 2, 3, 4, 5]⟩, ⟨oH, []⟩, ⟨oH, []⟩, ⟨oH, [7, 8]⟩, ⟨oH, [7, 8, 9]⟩, ⟨oH, []⟩, ⟨oH, [7, 8, 9, 10, 11]⟩, ⟨oH, [7, 8, 9, 10, 11, 12]⟩] [[0, 1, 2, 3, 4, 5, 6, 7, 8, 9, 10, 11, 12, 13], [0, 1, 2, 3, 4, 5, 6, 7, 8, 9, 10, 11, 12, 13, 14]] (oHs 2) ⟨[(0, aV 0), (4, iV (lenI a0)), (5, iV s1.1), (8, iV s44.1), (9, fV (fop .quo .f32 (List.getD (List.getD s44.2 (Int.toNat s44.1) ([] : List Nat)) (Int.toNat s1.1) (0 : Nat)) (List.getD (List.getD s44.2 (Int.toNat s1.1) ([] : List Nat)) (Int.toNat s1.1) (0 : Nat)))), (16, iV (lenI a0)), (17, iV s1.1)], [(0, .seq (.own tF) s44.2)], 1⟩ hX (by kernel_rfl) (by kernel_rfl) (allCons hg51 (allCons (natLt hg51) (allCons hg52 (allCons (natLt hg52) (allCons hg53 (allCons (natLt hg53) (allCons hg54 (allCons (natLt hg54) allNil)))))))) ?_
              obtain ⟨q55, hq56, hx48⟩ := of_bind hx48
              have hq56 := of_some2 hq56
              refine (Le.cv (s := ⟨[(0, 0)], [], [], false⟩) (own := []) (ps := [(lenI a0) = (lenI a0), s1.1 = s1.1, s44.1 = s44.1, q55 = (fop .quo .f32 (List.getD (List.getD s44.2 (Int.toNat s44.1) ([] : List Nat)) (Int.toNat s1.1) (0 : Nat)) (List.getD (List.getD s44.2 (Int.toNat s1.1) ([] : List Nat)) (Int.toNat s1.1) (0 : Nat))), (lenI a0) = (lenI a0), s1.1 = s1.1, s44.2 = s44.2]) (st' := ⟨[(0, aV 0), (4, iV (lenI a0)), (5, iV s1.1), (8, iV s44.1), (9, fV q55), (16, iV (lenI a0)), (17, iV s1.1)], [(0, .seq (.own tF) s44.2)], 1⟩) hO (fun h => by cases h) (by kernel_rfl) ⟨rfl, rfl, rfl, hq56, rfl, rfl, rfl, trivial⟩).ht ?_
              refine HT.rg2 (oHs 3) ⟨[(0, aV 0), (4, iV (lenI a0)), (5, iV s1.1), (8, iV s44.1), (9, fV q55), (10, iV (wadd .i64 s1.1 (1 : Int))), (16, iV (lenI a0)), (17, iV s1.1)], [(0, .seq (.own tF) s44.2)], 1⟩ hX (by kernel_rfl) allNil ?_
              refine HT.block ?_
              obtain ⟨r58, hL68, hx48⟩ := of_bind hx48
              refine HT.loopL (fun (s57 : Int × List (List Nat)) => ⟨[(0, aV 0), (4, iV (lenI a0)), (5, iV s1.1), (8, iV s44.1), (9, fV q55), (10, iV s57.1), (16, iV (lenI a0)), (17, iV s1.1)], [(0, .seq (.own tF) s57.2)], 1⟩) (fun (r59 : List (List Nat)) => (.exit 6, ⟨[(0, aV 0), (4, iV (lenI a0)), (5, iV s1.1), (8, iV s44.1), (16, iV (lenI a0)), (17, iV s1.1)], [(0, .seq (.own tF) r59)], 1⟩)) (Le.re [(0, 0)] [] hX (by kernel_rfl)) hL68 ?_ (fun s57 x60 hx61 hk62 => ?_)
              · refine (qBlockX (qBlock (qThen ?_)))
                have hx48 := of_some hx48
                subst hx48
                exact HT.rgK (oHs 3) [(0, 0)] [] hX (by kernel_rfl) allNil (fun _ h => (qLoopN ⟨((wadd .i64 s44.1 (1 : Int)), r58), rfl, h⟩))
              · refine HT.seq ?_
                refine HT.rg2 (oHs 3) ⟨[(0, aV 0), (4, iV (lenI a0)), (5, iV s1.1), (8, iV s44.1), (9, fV q55), (10, iV s57.1), (16, iV (lenI a0)), (17, iV s1.1), (94, bV (decide (s57.1 ≤ (lenI a0))))], [(0, .seq (.own tF) s57.2)], 1⟩ hX (by kernel_rfl) allNil ?_
                rcases of_bif hx61 with ⟨hb63, hx61⟩ | ⟨hb63, hx61⟩
                · refine HT.cond1 rfl hb63 ?_
                  refine HT.skip (qThen ?_)
                  refine HT.seq ?_
                  refine HT.block ?_
                  obtain ⟨hg64, hx61⟩ := of_guard hx61
                  obtain ⟨hg65, hx61⟩ := of_guard hx61
                  obtain ⟨hg66, hx61⟩ := of_guard hx61
                  obtain ⟨hg67, hx61⟩ := of_guard hx61
                  refine HT.drL 22 [⟨oH, []⟩, ⟨oH, []⟩, ⟨oH, [0, 1]⟩, ⟨oH, [0, 1, 2]⟩, ⟨oH, []⟩, ⟨oH, []⟩, ⟨oH, []⟩, ⟨oH, [5, 6]⟩, ⟨oH, [5, 6, 7]⟩, ⟨oH, []⟩, ⟨oH, [5, 6, 7, 8, 9]⟩, ⟨oH, [5, 6, 7, 8, 9, 10]⟩, ⟨oH, []⟩, ⟨oH, []⟩, ⟨oH, []⟩, ⟨oH, [13, 14]⟩, ⟨oH, [13, 14, 15]⟩, ⟨oH, []⟩, ⟨oH, [13, 14, 15, 16, 17]⟩, ⟨oH, [13, 14, 15, 16, 17, 18]⟩, ⟨oH, [12, 13, 14, 15, 16, 17, 18, 19]⟩, ⟨oH, [5, 6, 7, 8, 9, 10, 11, 12, 13, 14, 15, 16, 17, 18, 19, 20]⟩] [[0, 1, 2, 3, 4, 5, 6, 7, 8, 9, 10, 11, 12, 13, 14, 15, 16, 17, 18, 19, 20, 21], [0, 1, 2, 3, 4, 5, 6, 7, 8, 9, 10, 11, 12, 13, 14, 15, 16, 17, 18, 19, 20, 21, 22]] (oHs 2) ⟨[(0, aV 0), (4, iV (lenI a0)), (5, iV s1.1), (8, iV s44.1), (9, fV q55), (10, iV s57.1), (16, iV (lenI a0)), (17, iV s1.1)], [(0, .seq (.own tF) (List.set s57.2 (Int.toNat s44.1) (List.set (List.getD s57.2 (Int.toNat s44.1) ([] : List Nat)) (Int.toNat s57.1) (fop .sub .f32 (List.getD (List.getD s57.2 (Int.toNat s44.1) ([] : List Nat)) (Int.toNat s57.1) (0 : Nat)) (fop .mul .f32 q55 (List.getD (List.getD s57.2 (Int.toNat s1.1) ([] : List Nat)) (Int.toNat s57.1) (0 : Nat)))))))], 1⟩ hX (by kernel_rfl) (by kernel_rfl) (allCons hg64 (allCons (natLt hg64) (allCons hg64 (allCons (natLt hg64) (allCons hg65 (allCons (natLt hg65) (allCons hg66 (allCons (natLt hg66) (allCons hg67 (allCons (natLt hg67) (allCons hg65 (allCons (natLt hg65) allNil)))))))))))) (qBlock (qThen ?_))
                  have hx61 := of_some hx61
                  subst hx61
                  exact HT.rgK (oHs 3) [(0, 0)] [] hX (by kernel_rfl) allNil (fun _ h => (qLoopN ⟨((wadd .i64 s57.1 (1 : Int)), (List.set s57.2 (Int.toNat s44.1) (List.set (List.getD s57.2 (Int.toNat s44.1) ([] : List Nat)) (Int.toNat s57.1) (fop .sub .f32 (List.getD (List.getD s57.2 (Int.toNat s44.1) ([] : List Nat)) (Int.toNat s57.1) (0 : Nat)) (fop .mul .f32 q55 (List.getD (List.getD s57.2 (Int.toNat s1.1) ([] : List Nat)) (Int.toNat s57.1) (0 : Nat))))))), rfl, h⟩))
                · refine HT.cond0 rfl hb63 ?_
                  have hx61 := of_some hx61
                  subst hx61
                  exact HT.exitL (Le.re [(0, 0)] [] hX (by kernel_rfl)) (qThenE (qLoopE (hk62 s57.2 rfl)))
            · refine HT.cond0 rfl hb50 ?_
              have hx48 := of_some hx48
              subst hx48
              exact HT.exitL (Le.re [(0, 0)] [] hX (by kernel_rfl)) (qThenE (qLoopE (hk49 s44.2 rfl)))
      · refine HT.seq ?_
        refine HT.rg2 (oHs 3) ⟨[(0, aV 0), (4, iV (lenI a0)), (5, iV s1.1), (6, iV s36.1), (7, iV s36.2), (16, iV (lenI a0)), (17, iV s1.1), (25, bV (decide (s36.2 < (lenI a0))))], [(0, .seq (.own tF) s1.2)], 1⟩ hX (by kernel_rfl) allNil ?_
        rcases of_bif hx71 with ⟨hb73, hx71⟩ | ⟨hb73, hx71⟩
        · refine HT.cond1 rfl hb73 ?_
          refine HT.skip (qThen ?_)
          obtain ⟨v74', hT76, hx71⟩ := of_bind hx71
          refine HT.join (fun (v74 : Int) => ⟨[(0, aV 0), (4, iV (lenI a0)), (5, iV s1.1), (6, iV v74), (7, iV s36.2), (16, iV (lenI a0)), (17, iV s1.1)], [(0, .seq (.own tF) s1.2)], 1⟩) (fun v => v = v74') (fun v74 hv75 => ?_) (fun cont => ?_)
          · subst hv75
            have hx71 := of_some hx71
            subst hx71
            exact HT.rgK (oHs 3) [(0, 0)] [] hX (by kernel_rfl) allNil (fun _ h => (qLoopN ⟨(v74, (wadd .i64 s36.2 (1 : Int))), rfl, h⟩))
          · refine HT.block ?_
            obtain ⟨hg77, hT76⟩ := of_guard hT76
            obtain ⟨hg78, hT76⟩ := of_guard hT76
            obtain ⟨y79, hc80, hT76⟩ := of_bind hT76
            obtain ⟨hg81, hT76⟩ := of_guard hT76
            obtain ⟨hg82, hT76⟩ := of_guard hT76
            obtain ⟨y83, hc84, hT76⟩ := of_bind hT76
            refine HT.dr2 15 [⟨oH, []⟩, ⟨oH, []⟩, ⟨oH, [0, 1]⟩, ⟨oH, [0, 1, 2]⟩, ⟨oH, []⟩, ⟨oH, [0, 1, 2, 3, 4]⟩, ⟨oH, [0, 1, 2, 3, 4, 5]⟩, ⟨⟨none, .call [.imm tF] [⟨false, tF, y79⟩] []⟩, [0, 1, 2, 3, 4, 5, 6]⟩, ⟨oH, []⟩, ⟨oH, []⟩, ⟨oH, [8, 9]⟩, ⟨oH, [8, 9, 10]⟩, ⟨oH, []⟩, ⟨oH, [8, 9, 10, 11, 12]⟩, ⟨oH, [8, 9, 10, 11, 12, 13]⟩] [[0, 1, 2, 3, 4, 5, 6, 7, 8, 9, 10, 11, 12, 13, 14], [0, 1, 2, 3, 4, 5, 6, 7, 8, 9, 10, 11, 12, 13, 14, 15]] [⟨none, .call [.imm tF] [⟨false, tF, y83⟩] []⟩, oH] ⟨[(0, aV 0), (4, iV (lenI a0)), (5, iV s1.1), (6, iV s36.1), (7, iV s36.2), (16, iV (lenI a0)), (17, iV s1.1), (44, bV (fgt .f32 y79 y83))], [(0, .seq (.own tF) s1.2)], 1⟩ hX (by kernel_rfl) (by kernel_rfl) (allCons hg77 (allCons (natLt hg77) (allCons hg78 (allCons (natLt hg78) (allCons (f82_ok hc80) (allCons hg81 (allCons (natLt hg81) (allCons hg82 (allCons (natLt hg82) (allCons (f82_ok hc84) allNil)))))))))) ?_
            rcases of_bif hT76 with ⟨hb85, hT76⟩ | ⟨hb85, hT76⟩
            · refine HT.cond1 rfl hb85 ?_
              exact HT.rgK (oHs 2) [(0, 0)] [] hX (by kernel_rfl) allNil (fun _ h => (qBlock (qThen (h.ht (cont s36.2 (of_some hT76))))))
            · refine HT.cond0 rfl hb85 ?_
              refine HT.skip (qBlock (qThen ?_))
              exact (Le.re [(0, 0)] [] hX (by kernel_rfl)).ht (cont s36.1 (of_some hT76))
        · refine HT.cond0 rfl hb73 ?_
          have hx71 := of_some hx71
          subst hx71
          exact HT.exitL (Le.re [(0, 0)] [] hX (by kernel_rfl)) (qThenE (qLoopE (hk72 s36.1 rfl)))
    · refine HT.cond0 rfl hb35 ?_
      have hx33 := of_some hx33
      subst hx33
      exact HT.exitL (Le.re [(0, 0)] [] hX (by kernel_rfl)) (qThenE (qLoopE (hk34 (.inl s1.2) rfl)))

noncomputable def impl_DotNumbers_B1 (a0 : List Nat) (a1 : List Nat) (s5 : Nat × Int) : Option ((Nat × Int) ⊕ (Nat)) :=
  bif (decide (s5.2 < (lenI a0))) then
    guardP ((0 : Int) ≤ s5.2 ∧ s5.2 < lenI a0) (
      guardP ((0 : Int) ≤ s5.2 ∧ s5.2 < lenI a1) (
        some (.inl ((fop .add .f32 s5.1 (fop .mul .f32 (List.getD a0 (Int.toNat s5.2) (0 : Nat)) (List.getD a1 (Int.toNat s5.2) (0 : Nat)))), (wadd .i64 s5.2 (1 : Int))))))
  else
    some (.inr s5.1)

noncomputable def impl_DotNumbers (a0 : List Nat) (a1 : List Nat) : Option (Nat × Bool) :=
  (show Option (Bool) from
    bif (decide ((lenI a0) > (256 : Int))) then
      some true
    else
      some ((lenI a0) != (lenI a1))).bind fun v1 =>
  bif v1 then
    some ((0 : Nat), false)
  else
    (rounds (impl_DotNumbers_B1 a0 a1) ((0 : Nat), (0 : Int))).bind fun r7 =>
    some (r7, true)

theorem f49_ok {a0 : List Nat} {a1 : List Nat} {r : Nat × Bool} (hr : impl_DotNumbers a0 a1 = some r) : CallOK Try.prog 49 [.imm tLF a0, .imm tLF a1] [⟨false, tF, r.1⟩, ⟨false, .bool, r.2⟩] [] := by
  unfold impl_DotNumbers at hr
  refine CallOK.of_body (ts := [(false, tF), (false, .bool)]) Try.func49 rfl (by kernel_rfl) (Nat.le_of_ble_eq_true (by kernel_rfl)) fun cx hP hN hO hF => ?_
  have hO : cx.own.map Prod.fst = [] := hO
  have hX := CxIs.mk hP hN hO
  have hF := hF rfl
  show HT cx ⟨[(0, lV a0), (1, lV a1)], [], 0⟩ _ _
  refine HT.rg2 (oHs 2) ⟨[(0, lV a0), (1, lV a1)], [], 0⟩ hX (by kernel_rfl) allNil ?_
  refine HT.seq ?_
  obtain ⟨v1', hT3, hr⟩ := of_bind hr
  refine HT.join (fun (v1 : Bool) => ⟨[(0, lV a0), (1, lV a1), (17, bV v1)], [], 0⟩) (fun v => v = v1') (fun v1 hv2 => ?_) (fun cont => ?_)
  · subst hv2
    rcases of_bif hr with ⟨hb4, hr⟩ | ⟨hb4, hr⟩
    · refine HT.cond1 rfl hb4 ?_
      refine HT.rg2 (oHs 2) ⟨[(4, fV (0 : Nat)), (5, bV false)], [], 0⟩ hX (by kernel_rfl) allNil ?_
      have hr := of_some hr
      subst hr
      exact HT.ret (qThenR ⟨[fV (0 : Nat), bV false], [], [], by kernel_rfl, by kernel_rfl, rfl, by kernel_rfl, by kernel_rfl, trivial⟩)
    · refine HT.cond0 rfl hb4 ?_
      refine HT.skip (qThen ?_)
      refine HT.rg2 [oH] ⟨[(0, lV a0), (1, lV a1), (6, fV (0 : Nat))], [], 0⟩ hX (by kernel_rfl) allNil ?_
      refine HT.seq ?_
      refine HT.rg2 (oHs 3) ⟨[(0, lV a0), (1, lV a1), (6, fV (0 : Nat)), (19, iV (lenI a0)), (20, iV (0 : Int))], [], 0⟩ hX (by kernel_rfl) allNil ?_
      refine HT.block ?_
      obtain ⟨r6, hL14, hr⟩ := of_bind hr
      refine HT.loopL (fun (s5 : Nat × Int) => ⟨[(0, lV a0), (1, lV a1), (6, fV s5.1), (19, iV (lenI a0)), (20, iV s5.2)], [], 0⟩) (fun (r7 : Nat) => (.exit 0, ⟨[(6, fV r7)], [], 0⟩)) (Le.re [] [] hX (by kernel_rfl)) hL14 ?_ (fun s5 x8 hx9 hk10 => ?_)
      · refine (qBlockX (qThen ?_))
        refine HT.rg2 (oHs 3) ⟨[(4, fV r6), (5, bV true)], [], 0⟩ hX (by kernel_rfl) allNil ?_
        have hr := of_some hr
        subst hr
        exact HT.ret ⟨[fV r6, bV true], [], [], by kernel_rfl, by kernel_rfl, rfl, by kernel_rfl, by kernel_rfl, trivial⟩
      · refine HT.rg2 [oH] ⟨[(0, lV a0), (1, lV a1), (6, fV s5.1), (19, iV (lenI a0)), (20, iV s5.2), (21, bV (decide (s5.2 < (lenI a0))))], [], 0⟩ hX (by kernel_rfl) allNil ?_
        refine HT.seq ?_
        rcases of_bif hx9 with ⟨hb11, hx9⟩ | ⟨hb11, hx9⟩
        · refine HT.cond1 rfl hb11 ?_
          refine HT.skip (qThen ?_)
          refine HT.seq ?_
          refine HT.block ?_
          refine HT.rg2 (oHs 2) ⟨[(0, lV a0), (1, lV a1), (6, fV s5.1), (7, iV s5.2), (19, iV (lenI a0)), (20, iV s5.2)], [], 0⟩ hX (by kernel_rfl) allNil ?_
          obtain ⟨hg12, hx9⟩ := of_guard hx9
          obtain ⟨hg13, hx9⟩ := of_guard hx9
          refine HT.drL 10 [⟨oH, []⟩, ⟨oH, []⟩, ⟨oH, []⟩, ⟨oH, [1, 2]⟩, ⟨oH, [1, 2, 3]⟩, ⟨oH, []⟩, ⟨oH, []⟩, ⟨oH, [5, 6]⟩, ⟨oH, [5, 6, 7]⟩, ⟨oH, [1, 2, 3, 4, 5, 6, 7, 8]⟩] [[0, 1, 2, 3, 4, 5, 6, 7, 8, 9], [0, 1, 2, 3, 4, 5, 6, 7, 8, 9, 10]] (oHs 2) ⟨[(0, lV a0), (1, lV a1), (6, fV (fop .add .f32 s5.1 (fop .mul .f32 (List.getD a0 (Int.toNat s5.2) (0 : Nat)) (List.getD a1 (Int.toNat s5.2) (0 : Nat))))), (19, iV (lenI a0)), (20, iV s5.2)], [], 0⟩ hX (by kernel_rfl) (by kernel_rfl) (allCons hg12 (allCons hg13 allNil)) (qBlock (qThen ?_))
          have hx9 := of_some hx9
          subst hx9
          exact HT.rgK (oHs 2) [] [] hX (by kernel_rfl) allNil (fun _ h => (qLoopN ⟨((fop .add .f32 s5.1 (fop .mul .f32 (List.getD a0 (Int.toNat s5.2) (0 : Nat)) (List.getD a1 (Int.toNat s5.2) (0 : Nat)))), (wadd .i64 s5.2 (1 : Int))), rfl, h⟩))
        · refine HT.cond0 rfl hb11 ?_
          have hx9 := of_some hx9
          subst hx9
          exact HT.exitL (Le.re [] [] hX (by kernel_rfl)) (qThenE (qLoopE (hk10 s5.1 rfl)))
  · rcases of_bif hT3 with ⟨hb15, hT3⟩ | ⟨hb15, hT3⟩
    · exact HT.rgK [oH, oH, oH, oH, ⟨some true, .no⟩, ⟨some true, .no⟩, ⟨some true, .no⟩, ⟨some true, .no⟩, ⟨some true, .no⟩, ⟨none, .tv true⟩] [] [] hX (by kernel_rfl) (allCons hb15 (allCons hb15 (allCons hb15 (allCons hb15 (allCons hb15 (allCons hb15 allNil)))))) (fun _ h => (qThen (h.ht (cont true (of_some hT3)))))
    · exact HT.rgK [oH, oH, oH, oH, ⟨some false, .no⟩, ⟨some false, .no⟩, ⟨some false, .no⟩, ⟨some false, .no⟩, ⟨some false, .no⟩, ⟨none, .tv false⟩] [] [] hX (by kernel_rfl) (allCons hb15 (allCons hb15 (allCons hb15 (allCons hb15 (allCons hb15 (allCons hb15 allNil)))))) (fun _ h => (qThen (h.ht (cont ((lenI a0) != (lenI a1)) (of_some hT3)))))

noncomputable def impl_IsFinite (a0 : Nat) : Option (Bool) :=
  some (feq .f32 (fop .sub .f32 a0 a0) (0 : Nat))

theorem f84_ok {a0 : Nat} {r : Bool} (hr : impl_IsFinite a0 = some r) : CallOK Try.prog 84 [.imm tF a0] [⟨false, .bool, r⟩] [] := by
  unfold impl_IsFinite at hr
  refine CallOK.of_body (ts := [(false, .bool)]) Try.func84 rfl (by kernel_rfl) (Nat.le_of_ble_eq_true (by kernel_rfl)) fun cx hP hN hO hF => ?_
  have hO : cx.own.map Prod.fst = [] := hO
  have hX := CxIs.mk hP hN hO
  have hF := hF rfl
  show HT cx ⟨[(0, fV a0)], [], 0⟩ _ _
  refine HT.rg2 [oH] ⟨[(0, fV a0)], [], 0⟩ hX (by kernel_rfl) allNil ?_
  refine HT.rg2 (oHs 5) ⟨[(2, bV (feq .f32 (fop .sub .f32 a0 a0) (0 : Nat)))], [], 0⟩ hX (by kernel_rfl) allNil ?_
  have hr := of_some hr
  subst hr
  exact HT.ret ⟨[bV (feq .f32 (fop .sub .f32 a0 a0) (0 : Nat))], [], [], by kernel_rfl, by kernel_rfl, rfl, by kernel_rfl, by kernel_rfl, trivial⟩

noncomputable def impl_finite (a0 : Nat) : Option (Nat × Bool) :=
  (impl_IsFinite a0).bind fun y1 =>
  bif (!y1) then
    some ((0 : Nat), false)
  else
    some (a0, true)

theorem f50_ok {a0 : Nat} {r : Nat × Bool} (hr : impl_finite a0 = some r) : CallOK Try.prog 50 [.imm tF a0] [⟨false, tF, r.1⟩, ⟨false, .bool, r.2⟩] [] := by
  unfold impl_finite at hr
  refine CallOK.of_body (ts := [(false, tF), (false, .bool)]) Try.func50 rfl (by kernel_rfl) (Nat.le_of_ble_eq_true (by kernel_rfl)) fun cx hP hN hO hF => ?_
  have hO : cx.own.map Prod.fst = [] := hO
  have hX := CxIs.mk hP hN hO
  have hF := hF rfl
  show HT cx ⟨[(0, fV a0)], [], 0⟩ _ _
  refine HT.rg2 (oHs 2) ⟨[(0, fV a0)], [], 0⟩ hX (by kernel_rfl) allNil ?_
  refine HT.seq ?_
  obtain ⟨y1, hc2, hr⟩ := of_bind hr
  refine HT.rg2 [oH, ⟨none, .call [.imm tF] [⟨false, .bool, y1⟩] []⟩, oH] ⟨[(0, fV a0), (6, bV (!y1))], [], 0⟩ hX (by kernel_rfl) (allCons (f84_ok hc2) allNil) ?_
  rcases of_bif hr with ⟨hb3, hr⟩ | ⟨hb3, hr⟩
  · refine HT.cond1 rfl hb3 ?_
    refine HT.rg2 (oHs 2) ⟨[(2, fV (0 : Nat)), (3, bV false)], [], 0⟩ hX (by kernel_rfl) allNil ?_
    have hr := of_some hr
    subst hr
    exact HT.ret (qThenR ⟨[fV (0 : Nat), bV false], [], [], by kernel_rfl, by kernel_rfl, rfl, by kernel_rfl, by kernel_rfl, trivial⟩)
  · refine HT.cond0 rfl hb3 ?_
    refine HT.skip (qThen ?_)
    refine HT.rg2 (oHs 3) ⟨[(2, fV a0), (3, bV true)], [], 0⟩ hX (by kernel_rfl) allNil ?_
    have hr := of_some hr
    subst hr
    exact HT.ret ⟨[fV a0, bV true], [], [], by kernel_rfl, by kernel_rfl, rfl, by kernel_rfl, by kernel_rfl, trivial⟩

noncomputable def slices_Grow___float32_float32_nl0 (a1 : Int) : Option (List Nat) :=
  bif (decide (a1 < (0 : Int))) then
    none
  else
    (show Option (List Nat) from
      bif (decide ((wsub .i64 a1 (wsub .i64 (0 : Int) (0 : Int))) > (0 : Int))) then
        guardP ((0 : Int) ≤ (wsub .i64 a1 (wsub .i64 (0 : Int) (0 : Int))) ∧ (wsub .i64 a1 (wsub .i64 (0 : Int) (0 : Int))) ≤ 4294967296) (
          guardP ((0 : Int) ≤ (0 : Int) ∧ (0 : Int) ≤ lenI (List.replicate (Int.toNat (wsub .i64 a1 (wsub .i64 (0 : Int) (0 : Int)))) (0 : Nat))) (
            some (List.take (Int.toNat (0 : Int)) (List.replicate (Int.toNat (wsub .i64 a1 (wsub .i64 (0 : Int) (0 : Int)))) (0 : Nat)))))
      else
        some ([] : List Nat)).bind fun v2 =>
    some v2

theorem f101_nl0_ok {a1 : Int} {r : List Nat} (hr : slices_Grow___float32_float32_nl0 a1 = some r) : CallOK Try.prog 101 [.nl, .imm tI a1] [⟨true, tLF, r⟩] [] := by
  unfold slices_Grow___float32_float32_nl0 at hr
  refine CallOK.of_body (ts := [(true, tLF)]) Try.func101 rfl (by kernel_rfl) (Nat.le_of_ble_eq_true (by kernel_rfl)) fun cx hP hN hO hF => ?_
  have hO : cx.own.map Prod.fst = [] := hO
  have hX := CxIs.mk hP hN hO
  have hF := hF rfl
  show HT cx ⟨[(0, .one (.nilS)), (1, iV a1)], [], 0⟩ _ _
  refine HT.rg2 [oH] ⟨[(0, .one (.nilS)), (1, iV a1)], [], 0⟩ hX (by kernel_rfl) allNil ?_
  refine HT.seq ?_
  refine HT.rg2 (oHs 2) ⟨[(0, .one (.nilS)), (1, iV a1), (6, bV (decide (a1 < (0 : Int))))], [], 0⟩ hX (by kernel_rfl) allNil ?_
  rcases of_bif hr with ⟨hb1, hr⟩ | ⟨hb1, hr⟩
  · refine HT.cond1 rfl hb1 ?_
    cases hr
  · refine HT.cond0 rfl hb1 ?_
    refine HT.skip (qThen ?_)
    obtain ⟨v2', hT4, hr⟩ := of_bind hr
    refine HT.join (fun (v2 : List Nat) => ⟨[(0, aV 0)], [(0, .seq tF v2)], 1⟩) (fun v => v = v2') (fun v2 hv3 => ?_) (fun cont => ?_)
    · subst hv3
      refine HT.rg2 (oHs 2) ⟨[(4, aV 0)], [(0, .seq tF v2)], 1⟩ hX (by kernel_rfl) allNil ?_
      have hr := of_some hr
      subst hr
      exact HT.ret ⟨[aV 0], [0], [], by kernel_rfl, by kernel_rfl, rfl, by kernel_rfl, by kernel_rfl, trivial⟩
    · refine HT.rg2 (oHs 8) ⟨[(0, .one (.nilS)), (1, iV (wsub .i64 a1 (wsub .i64 (0 : Int) (0 : Int))))], [], 0⟩ hX (by kernel_rfl) allNil ?_
      refine HT.rg2 (oHs 2) ⟨[(0, .one (.nilS)), (1, iV (wsub .i64 a1 (wsub .i64 (0 : Int) (0 : Int)))), (16, bV (decide ((wsub .i64 a1 (wsub .i64 (0 : Int) (0 : Int))) > (0 : Int))))], [], 0⟩ hX (by kernel_rfl) allNil ?_
      rcases of_bif hT4 with ⟨hb5, hT4⟩ | ⟨hb5, hT4⟩
      · refine HT.cond1 rfl hb5 ?_
        obtain ⟨hg6, hT4⟩ := of_guard hT4
        obtain ⟨hg7, hT4⟩ := of_guard hT4
        refine HT.rgL [oH, oH, oH, oH, oH, ⟨none, .tyD tF⟩, oH, oH, oH, oH] ⟨[(0, .one (.ref 0 0 (Int.toNat (0 : Int))))], [(0, .seq tF (List.replicate (Int.toNat (wsub .i64 a1 (wsub .i64 (0 : Int) (0 : Int)))) (0 : Nat)))], 1⟩ hX (by kernel_rfl) (allCons (show (0 : Int) ≤ (0 : Int) ∧ (0 : Int) ≤ (0 : Int) ∧ (0 : Int) ≤ 0 from by decide) (allCons hg6 (allCons (show (0 : Int) ≤ 0 ∧ (0 : Int) ≤ (0 : Int) ∧ (0 : Int) ≤ lenI (List.replicate (Int.toNat (wsub .i64 a1 (wsub .i64 (0 : Int) (0 : Int)))) (0 : Nat)) from ⟨Int.le_refl _, hg7.1, hg7.2⟩) allNil))) (qThen ?_)
        exact (Le.cv (s := ⟨[(0, 0)], [], [0], false⟩) (own := []) (ps := [0 = 0, List.length (List.take (Int.toNat (0 : Int)) (List.replicate (Int.toNat (wsub .i64 a1 (wsub .i64 (0 : Int) (0 : Int)))) (0 : Nat))) = Int.toNat (0 : Int), (List.take (Int.toNat (0 : Int)) (List.replicate (Int.toNat (wsub .i64 a1 (wsub .i64 (0 : Int) (0 : Int)))) (0 : Nat))) = List.take (List.length (List.take (Int.toNat (0 : Int)) (List.replicate (Int.toNat (wsub .i64 a1 (wsub .i64 (0 : Int) (0 : Int)))) (0 : Nat)))) (List.replicate (Int.toNat (wsub .i64 a1 (wsub .i64 (0 : Int) (0 : Int)))) (0 : Nat))]) (st' := ⟨[(0, aV 0)], [(0, .seq tF (List.take (Int.toNat (0 : Int)) (List.replicate (Int.toNat (wsub .i64 a1 (wsub .i64 (0 : Int) (0 : Int)))) (0 : Nat))))], 1⟩) hO (fun h => by cases h) (by kernel_rfl) ⟨rfl, (trunc1 hg7), (trunc2 _ _), trivial⟩).ht (cont (List.take (Int.toNat (0 : Int)) (List.replicate (Int.toNat (wsub .i64 a1 (wsub .i64 (0 : Int) (0 : Int)))) (0 : Nat))) (of_some hT4))
      · refine HT.cond0 rfl hb5 ?_
        refine HT.skip (qThen ?_)
        exact (Le.re [] [0] hX (by kernel_rfl)).ht (cont ([] : List Nat) (of_some hT4))

noncomputable def slices_Concat___float32_float32_B1 (a0 : List (List Nat)) (s6 : Int × List Nat) : Option ((Int × List Nat) ⊕ (List Nat)) :=
  bif (decide (s6.1 < (lenI a0))) then
    guardP ((0 : Int) ≤ s6.1 ∧ s6.1 < lenI a0) (
      guardP (List.length s6.2 + List.length (List.getD a0 (Int.toNat s6.1) ([] : List Nat)) ≤ appMax) (
        some (.inl ((wadd .i64 s6.1 (1 : Int)), (s6.2 ++ (List.getD a0 (Int.toNat s6.1) ([] : List Nat)))))))
  else
    some (.inr s6.2)

noncomputable def slices_Concat___float32_float32_B2 (a0 : List (List Nat)) (s1 : Int × Int) : Option ((Int × Int) ⊕ (Int)) :=
  bif (decide (s1.2 < (lenI a0))) then
    guardP ((0 : Int) ≤ s1.2 ∧ s1.2 < lenI a0) (
      bif (decide ((wadd .i64 s1.1 (lenI (List.getD a0 (Int.toNat s1.2) ([] : List Nat)))) < (0 : Int))) then
        none
      else
        some (.inl ((wadd .i64 s1.1 (lenI (List.getD a0 (Int.toNat s1.2) ([] : List Nat)))), (wadd .i64 s1.2 (1 : Int)))))
  else
    some (.inr s1.1)

noncomputable def slices_Concat___float32_float32 (a0 : List (List Nat)) : Option (List Nat) :=
  (rounds (slices_Concat___float32_float32_B2 a0) ((0 : Int), (0 : Int))).bind fun r3 =>
  (slices_Grow___float32_float32_nl0 r3).bind fun y4 =>
  (rounds (slices_Concat___float32_float32_B1 a0) ((0 : Int), y4)).bind fun r8 =>
  some r8

theorem f47_ok {a0 : List (List Nat)} {r : List Nat} (hr : slices_Concat___float32_float32 a0 = some r) : CallOK Try.prog 47 [.imm (.sl tLF) a0] [⟨true, tLF, r⟩] [] := by
  unfold slices_Concat___float32_float32 at hr
  refine CallOK.of_body (ts := [(true, tLF)]) Try.func47 rfl (by kernel_rfl) (Nat.le_of_ble_eq_true (by kernel_rfl)) fun cx hP hN hO hF => ?_
  have hO : cx.own.map Prod.fst = [] := hO
  have hX := CxIs.mk hP hN hO
  have hF := hF rfl
  show HT cx ⟨[(0, .one (.dat (.sl tLF) a0))], [], 0⟩ _ _
  refine HT.rg2 [oH] ⟨[(0, .one (.dat (.sl tLF) a0))], [], 0⟩ hX (by kernel_rfl) allNil ?_
  refine HT.rg2 [oH] ⟨[(0, .one (.dat (.sl tLF) a0)), (3, iV (0 : Int))], [], 0⟩ hX (by kernel_rfl) allNil ?_
  refine HT.seq ?_
  refine HT.rg2 (oHs 3) ⟨[(0, .one (.dat (.sl tLF) a0)), (3, iV (0 : Int)), (9, .one (.dat (.sl tLF) a0)), (10, iV (lenI a0)), (11, iV (0 : Int))], [], 0⟩ hX (by kernel_rfl) allNil ?_
  refine HT.block ?_
  obtain ⟨r2, hL22, hr⟩ := of_bind hr
  refine HT.loopL (fun (s1 : Int × Int) => ⟨[(0, .one (.dat (.sl tLF) a0)), (3, iV s1.1), (9, .one (.dat (.sl tLF) a0)), (10, iV (lenI a0)), (11, iV s1.2)], [], 0⟩) (fun (r3 : Int) => (.exit 0, ⟨[(0, .one (.dat (.sl tLF) a0)), (3, iV r3)], [], 0⟩)) (Le.re [] [] hX (by kernel_rfl)) hL22 ?_ (fun s1 x16 hx17 hk18 => ?_)
  · refine (qBlockX (qThen ?_))
    obtain ⟨y4, hc5, hr⟩ := of_bind hr
    refine HT.rg2 [oH, ⟨none, .call [.nl, .imm tI] [⟨true, tLF, y4⟩] []⟩, oH] ⟨[(0, .one (.dat (.sl tLF) a0)), (6, aV 0)], [(0, .seq tF y4)], 1⟩ hX (by kernel_rfl) (allCons (f101_nl0_ok hc5) allNil) ?_
    refine HT.seq ?_
    refine HT.rg2 (oHs 3) ⟨[(6, aV 0), (25, .one (.dat (.sl tLF) a0)), (26, iV (lenI a0)), (27, iV (0 : Int))], [(0, .seq tF y4)], 1⟩ hX (by kernel_rfl) allNil ?_
    refine HT.block ?_
    obtain ⟨r7, hL15, hr⟩ := of_bind hr
    refine HT.loopL (fun (s6 : Int × List Nat) => ⟨[(6, aV 0), (25, .one (.dat (.sl tLF) a0)), (26, iV (lenI a0)), (27, iV s6.1)], [(0, .seq tF s6.2)], 1⟩) (fun (r8 : List Nat) => (.exit 2, ⟨[(6, aV 0)], [(0, .seq tF r8)], 1⟩)) (Le.re [(0, 0)] [] hX (by kernel_rfl)) hL15 ?_ (fun s6 x9 hx10 hk11 => ?_)
    · refine (qBlockX (qThen ?_))
      refine HT.rg2 (oHs 2) ⟨[(2, aV 0)], [(0, .seq tF r7)], 1⟩ hX (by kernel_rfl) allNil ?_
      have hr := of_some hr
      subst hr
      exact HT.ret ⟨[aV 0], [0], [], by kernel_rfl, by kernel_rfl, rfl, by kernel_rfl, by kernel_rfl, trivial⟩
    · refine HT.rg2 [oH] ⟨[(6, aV 0), (25, .one (.dat (.sl tLF) a0)), (26, iV (lenI a0)), (27, iV s6.1), (28, bV (decide (s6.1 < (lenI a0))))], [(0, .seq tF s6.2)], 1⟩ hX (by kernel_rfl) allNil ?_
      refine HT.seq ?_
      rcases of_bif hx10 with ⟨hb12, hx10⟩ | ⟨hb12, hx10⟩
      · refine HT.cond1 rfl hb12 ?_
        refine HT.skip (qThen ?_)
        refine HT.seq ?_
        refine HT.block ?_
        obtain ⟨hg13, hx10⟩ := of_guard hx10
        refine HT.rg2 (oHs 3) ⟨[(6, aV 0), (8, lV (List.getD a0 (Int.toNat s6.1) ([] : List Nat))), (25, .one (.dat (.sl tLF) a0)), (26, iV (lenI a0)), (27, iV s6.1)], [(0, .seq tF s6.2)], 1⟩ hX (by kernel_rfl) (allCons hg13 allNil) ?_
        obtain ⟨hg14, hx10⟩ := of_guard hx10
        refine HT.rgL [oH, oH, ⟨none, .ty tF⟩, oH] ⟨[(6, aV 1), (25, .one (.dat (.sl tLF) a0)), (26, iV (lenI a0)), (27, iV s6.1)], [(1, .seq tF (s6.2 ++ (List.getD a0 (Int.toNat s6.1) ([] : List Nat))))], 2⟩ hX (by kernel_rfl) (allCons hg14 allNil) (qBlock (qThen ?_))
        have hx10 := of_some hx10
        subst hx10
        exact HT.rgK (oHs 2) [(1, 0)] [] hX (by kernel_rfl) allNil (fun _ h => (qLoopN ⟨((wadd .i64 s6.1 (1 : Int)), (s6.2 ++ (List.getD a0 (Int.toNat s6.1) ([] : List Nat)))), rfl, h⟩))
      · refine HT.cond0 rfl hb12 ?_
        have hx10 := of_some hx10
        subst hx10
        exact HT.exitL (Le.re [(0, 0)] [] hX (by kernel_rfl)) (qThenE (qLoopE (hk11 s6.2 rfl)))
  · refine HT.rg2 [oH] ⟨[(0, .one (.dat (.sl tLF) a0)), (3, iV s1.1), (9, .one (.dat (.sl tLF) a0)), (10, iV (lenI a0)), (11, iV s1.2), (12, bV (decide (s1.2 < (lenI a0))))], [], 0⟩ hX (by kernel_rfl) allNil ?_
    refine HT.seq ?_
    rcases of_bif hx17 with ⟨hb19, hx17⟩ | ⟨hb19, hx17⟩
    · refine HT.cond1 rfl hb19 ?_
      refine HT.skip (qThen ?_)
      refine HT.seq ?_
      refine HT.block ?_
      obtain ⟨hg20, hx17⟩ := of_guard hx17
      refine HT.rg2 (oHs 3) ⟨[(0, .one (.dat (.sl tLF) a0)), (3, iV s1.1), (5, lV (List.getD a0 (Int.toNat s1.2) ([] : List Nat))), (9, .one (.dat (.sl tLF) a0)), (10, iV (lenI a0)), (11, iV s1.2)], [], 0⟩ hX (by kernel_rfl) (allCons hg20 allNil) ?_
      refine HT.rg2 (oHs 5) ⟨[(0, .one (.dat (.sl tLF) a0)), (3, iV (wadd .i64 s1.1 (lenI (List.getD a0 (Int.toNat s1.2) ([] : List Nat))))), (9, .one (.dat (.sl tLF) a0)), (10, iV (lenI a0)), (11, iV s1.2)], [], 0⟩ hX (by kernel_rfl) allNil ?_
      refine HT.rg2 (oHs 2) ⟨[(0, .one (.dat (.sl tLF) a0)), (3, iV (wadd .i64 s1.1 (lenI (List.getD a0 (Int.toNat s1.2) ([] : List Nat))))), (9, .one (.dat (.sl tLF) a0)), (10, iV (lenI a0)), (11, iV s1.2), (20, bV (decide ((wadd .i64 s1.1 (lenI (List.getD a0 (Int.toNat s1.2) ([] : List Nat)))) < (0 : Int))))], [], 0⟩ hX (by kernel_rfl) allNil ?_
      rcases of_bif hx17 with ⟨hb21, hx17⟩ | ⟨hb21, hx17⟩
      · refine HT.cond1 rfl hb21 ?_
        cases hx17
      · refine HT.cond0 rfl hb21 ?_
        refine HT.skip (qBlock (qThen ?_))
        have hx17 := of_some hx17
        subst hx17
        exact HT.rgK (oHs 2) [] [] hX (by kernel_rfl) allNil (fun _ h => (qLoopN ⟨((wadd .i64 s1.1 (lenI (List.getD a0 (Int.toNat s1.2) ([] : List Nat)))), (wadd .i64 s1.2 (1 : Int))), rfl, h⟩))
    · refine HT.cond0 rfl hb19 ?_
      have hx17 := of_some hx17
      subst hx17
      exact HT.exitL (Le.re [] [] hX (by kernel_rfl)) (qThenE (qLoopE (hk18 s1.1 rfl)))

noncomputable def impl_areFinite_1 (a0 : Nat) : Option (Bool) :=
  (impl_IsFinite a0).bind fun y1 =>
  some (!y1)

theorem f100_ok {a0 : Nat} {r : Bool} (hr : impl_areFinite_1 a0 = some r) : CallOK Try.prog 100 [.imm tF a0] [⟨false, .bool, r⟩] [] := by
  unfold impl_areFinite_1 at hr
  refine CallOK.of_body (ts := [(false, .bool)]) Try.func100 rfl (by kernel_rfl) (Nat.le_of_ble_eq_true (by kernel_rfl)) fun cx hP hN hO hF => ?_
  have hO : cx.own.map Prod.fst = [] := hO
  have hX := CxIs.mk hP hN hO
  have hF := hF rfl
  show HT cx ⟨[(0, fV a0)], [], 0⟩ _ _
  refine HT.rg2 [oH] ⟨[(0, fV a0)], [], 0⟩ hX (by kernel_rfl) allNil ?_
  obtain ⟨y1, hc2, hr⟩ := of_bind hr
  refine HT.rg2 [oH, ⟨none, .call [.imm tF] [⟨false, .bool, y1⟩] []⟩, oH, oH] ⟨[(2, bV (!y1))], [], 0⟩ hX (by kernel_rfl) (allCons (f84_ok hc2) allNil) ?_
  have hr := of_some hr
  subst hr
  exact HT.ret ⟨[bV (!y1)], [], [], by kernel_rfl, by kernel_rfl, rfl, by kernel_rfl, by kernel_rfl, trivial⟩

noncomputable def slices_IndexFunc___float32_float32_fn1_impl_areFinite_1_B1 (a0 : List Nat) (s1 : Int) : Option ((Int) ⊕ (Unit ⊕ Int)) :=
  bif (decide (s1 < (lenI a0))) then
    guardP ((0 : Int) ≤ s1 ∧ s1 < lenI a0) (
      (impl_areFinite_1 (List.getD a0 (Int.toNat s1) (0 : Nat))).bind fun y10 =>
      bif y10 then
        some (.inr (.inr s1))
      else
        some (.inl (wadd .i64 s1 (1 : Int))))
  else
    some (.inr (.inl ()))

noncomputable def slices_IndexFunc___float32_float32_fn1_impl_areFinite_1 (a0 : List Nat) : Option (Int) :=
  (rounds (slices_IndexFunc___float32_float32_fn1_impl_areFinite_1_B1 a0) (0 : Int)).bind fun r2 => match r2 with
    | .inl r3 =>
      some (-1 : Int)
    | .inr r4 =>
      some r4

theorem f128_fn1_impl_areFinite_1_ok {a0 : List Nat} {r : Int} (hr : slices_IndexFunc___float32_float32_fn1_impl_areFinite_1 a0 = some r) : CallOK Try.prog 128 [.imm tLF a0, .fn 100] [⟨false, tI, r⟩] [] := by
  unfold slices_IndexFunc___float32_float32_fn1_impl_areFinite_1 at hr
  refine CallOK.of_body (ts := [(false, tI)]) Try.func128 rfl (by kernel_rfl) (Nat.le_of_ble_eq_true (by kernel_rfl)) fun cx hP hN hO hF => ?_
  have hO : cx.own.map Prod.fst = [] := hO
  have hX := CxIs.mk hP hN hO
  have hF := hF rfl
  show HT cx ⟨[(0, lV a0), (1, .one (.fn 100))], [], 0⟩ _ _
  refine HT.rg2 [oH] ⟨[(0, lV a0), (1, .one (.fn 100))], [], 0⟩ hX (by kernel_rfl) allNil ?_
  refine HT.seq ?_
  refine HT.rg2 (oHs 3) ⟨[(0, lV a0), (1, .one (.fn 100)), (7, iV (lenI a0)), (8, iV (0 : Int))], [], 0⟩ hX (by kernel_rfl) allNil ?_
  refine HT.block ?_
  obtain ⟨r2, hL13, hr⟩ := of_bind hr
  refine HT.loopL (fun (s1 : Int) => ⟨[(0, lV a0), (1, .one (.fn 100)), (7, iV (lenI a0)), (8, iV s1)], [], 0⟩) (fun (r2 : Unit ⊕ Int) => match r2 with | .inl r3 => (.exit 0, ⟨[], [], 0⟩) | .inr r4 => (.ret, ⟨[(4, iV r4)], [], 0⟩)) (Le.re [] [] hX (by kernel_rfl)) hL13 ?_ (fun s1 x5 hx6 hk7 => ?_)
  · rcases r2 with r3 | r4
    · refine (qBlockX (qThen ?_))
      refine HT.rg2 [oH] ⟨[(4, iV (-1 : Int))], [], 0⟩ hX (by kernel_rfl) allNil ?_
      have hr := of_some hr
      subst hr
      exact HT.ret ⟨[iV (-1 : Int)], [], [], by kernel_rfl, by kernel_rfl, rfl, by kernel_rfl, by kernel_rfl, trivial⟩
    · have hr := of_some hr
      subst hr
      exact (qBlockR (qThenR ⟨[iV r4], [], [], by kernel_rfl, by kernel_rfl, rfl, by kernel_rfl, by kernel_rfl, trivial⟩))
  · refine HT.rg2 [oH] ⟨[(0, lV a0), (1, .one (.fn 100)), (7, iV (lenI a0)), (8, iV s1), (9, bV (decide (s1 < (lenI a0))))], [], 0⟩ hX (by kernel_rfl) allNil ?_
    refine HT.seq ?_
    rcases of_bif hx6 with ⟨hb8, hx6⟩ | ⟨hb8, hx6⟩
    · refine HT.cond1 rfl hb8 ?_
      refine HT.skip (qThen ?_)
      refine HT.seq ?_
      refine HT.block ?_
      refine HT.rg2 (oHs 2) ⟨[(0, lV a0), (1, .one (.fn 100)), (5, iV s1), (7, iV (lenI a0)), (8, iV s1)], [], 0⟩ hX (by kernel_rfl) allNil ?_
      obtain ⟨hg9, hx6⟩ := of_guard hx6
      obtain ⟨y10, hc11, hx6⟩ := of_bind hx6
      refine HT.rg2 [oH, oH, oH, oH, oH, ⟨none, .call [.imm tF] [⟨false, .bool, y10⟩] []⟩] ⟨[(0, lV a0), (1, .one (.fn 100)), (5, iV s1), (7, iV (lenI a0)), (8, iV s1), (16, bV y10)], [], 0⟩ hX (by kernel_rfl) (allCons hg9 (allCons (f100_ok hc11) allNil)) ?_
      rcases of_bif hx6 with ⟨hb12, hx6⟩ | ⟨hb12, hx6⟩
      · refine HT.cond1 rfl hb12 ?_
        refine HT.rg2 (oHs 2) ⟨[(4, iV s1)], [], 0⟩ hX (by kernel_rfl) allNil ?_
        have hx6 := of_some hx6
        subst hx6
        exact HT.retL (Le.re [] [] hX (by kernel_rfl)) (qBlockR (qThenR (qLoopR (hk7 (.inr s1) rfl))))
      · refine HT.cond0 rfl hb12 ?_
        refine HT.skip (qBlock (qThen ?_))
        have hx6 := of_some hx6
        subst hx6
        exact HT.rgK (oHs 2) [] [] hX (by kernel_rfl) allNil (fun _ h => (qLoopN ⟨(wadd .i64 s1 (1 : Int)), rfl, h⟩))
    · refine HT.cond0 rfl hb8 ?_
      have hx6 := of_some hx6
      subst hx6
      exact HT.exitL (Le.re [] [] hX (by kernel_rfl)) (qThenE (qLoopE (hk7 (.inl ()) rfl)))

noncomputable def slices_ContainsFunc___float32_float32_fn1_impl_areFinite_1 (a0 : List Nat) : Option (Bool) :=
  (slices_IndexFunc___float32_float32_fn1_impl_areFinite_1 a0).bind fun y1 =>
  some (decide (y1 ≥ (0 : Int)))

theorem f99_fn1_impl_areFinite_1_ok {a0 : List Nat} {r : Bool} (hr : slices_ContainsFunc___float32_float32_fn1_impl_areFinite_1 a0 = some r) : CallOK Try.prog 99 [.imm tLF a0, .fn 100] [⟨false, .bool, r⟩] [] := by
  unfold slices_ContainsFunc___float32_float32_fn1_impl_areFinite_1 at hr
  refine CallOK.of_body (ts := [(false, .bool)]) Try.func99 rfl (by kernel_rfl) (Nat.le_of_ble_eq_true (by kernel_rfl)) fun cx hP hN hO hF => ?_
  have hO : cx.own.map Prod.fst = [] := hO
  have hX := CxIs.mk hP hN hO
  have hF := hF rfl
  show HT cx ⟨[(0, lV a0), (1, .one (.fn 100))], [], 0⟩ _ _
  refine HT.rg2 [oH] ⟨[(0, lV a0), (1, .one (.fn 100))], [], 0⟩ hX (by kernel_rfl) allNil ?_
  obtain ⟨y1, hc2, hr⟩ := of_bind hr
  refine HT.rg2 [oH, oH, ⟨none, .call [.imm tLF, .fn] [⟨false, tI, y1⟩] []⟩, oH, oH] ⟨[(4, bV (decide (y1 ≥ (0 : Int))))], [], 0⟩ hX (by kernel_rfl) (allCons (f128_fn1_impl_areFinite_1_ok hc2) allNil) ?_
  have hr := of_some hr
  subst hr
  exact HT.ret ⟨[bV (decide (y1 ≥ (0 : Int)))], [], [], by kernel_rfl, by kernel_rfl, rfl, by kernel_rfl, by kernel_rfl, trivial⟩

noncomputable def impl_areFinite (a0 : List Nat) : Option (Bool) :=
  (slices_ContainsFunc___float32_float32_fn1_impl_areFinite_1 a0).bind fun y1 =>
  some (!y1)

theorem f46_ok {a0 : List Nat} {r : Bool} (hr : impl_areFinite a0 = some r) : CallOK Try.prog 46 [.imm tLF a0] [⟨false, .bool, r⟩] [] := by
  unfold impl_areFinite at hr
  refine CallOK.of_body (ts := [(false, .bool)]) Try.func46 rfl (by kernel_rfl) (Nat.le_of_ble_eq_true (by kernel_rfl)) fun cx hP hN hO hF => ?_
  have hO : cx.own.map Prod.fst = [] := hO
  have hX := CxIs.mk hP hN hO
  have hF := hF rfl
  show HT cx ⟨[(0, lV a0)], [], 0⟩ _ _
  refine HT.rg2 [oH] ⟨[(0, lV a0)], [], 0⟩ hX (by kernel_rfl) allNil ?_
  obtain ⟨y1, hc2, hr⟩ := of_bind hr
  refine HT.rg2 [oH, ⟨none, .call [.imm tLF, .fn] [⟨false, .bool, y1⟩] []⟩, oH, oH] ⟨[(2, bV (!y1))], [], 0⟩ hX (by kernel_rfl) (allCons (f99_fn1_impl_areFinite_1_ok hc2) allNil) ?_
  have hr := of_some hr
  subst hr
  exact HT.ret ⟨[bV (!y1)], [], [], by kernel_rfl, by kernel_rfl, rfl, by kernel_rfl, by kernel_rfl, trivial⟩

noncomputable def impl_AllWords_B1 (a0 : List Nat) (a1 : List Nat) (s5 : Int × List (List Nat)) (s23 : Int × List Nat) : Option ((Int × List Nat) ⊕ (List Nat)) :=
  bif (decide (s23.1 < (lenI a1))) then
    guardP ((0 : Int) ≤ s23.1 ∧ s23.1 < lenI s23.2) (
      guardP ((0 : Int) ≤ (wadd .i64 (wmul .i64 s5.1 (lenI a1)) s23.1) ∧ (wadd .i64 (wmul .i64 s5.1 (lenI a1)) s23.1) < lenI a0) (
        some (.inl ((wadd .i64 s23.1 (1 : Int)), (List.set s23.2 (Int.toNat s23.1) (fop .sub .f32 (List.getD s23.2 (Int.toNat s23.1) (0 : Nat)) (List.getD a0 (Int.toNat (wadd .i64 (wmul .i64 s5.1 (lenI a1)) s23.1)) (0 : Nat))))))))
  else
    some (.inr s23.2)

noncomputable def impl_AllWords_B2 (a0 : List Nat) (a1 : List Nat) (a2 : List Nat) (s5 : Int × List (List Nat)) : Option ((Int × List (List Nat)) ⊕ (List (List Nat))) :=
  bif (decide (s5.1 < (lenI a1))) then
    guardP ((0 : Int) ≤ (lenI a1) ∧ (lenI a1) ≤ (wadd .i64 (lenI a1) (1 : Int)) ∧ (wadd .i64 (lenI a1) (1 : Int)) ≤ 4294967296) (
      guardP ((0 : Int) ≤ s5.1 ∧ s5.1 < lenI (List.replicate (Int.toNat (lenI a1)) (0 : Nat))) (
        (some (List.set (List.replicate (Int.toNat (lenI a1)) (0 : Nat)) (Int.toNat s5.1) (1065353216 : Nat))).bind fun q21 =>
        (rounds (impl_AllWords_B1 a0 a1 s5) ((0 : Int), q21)).bind fun r25 =>
        guardP ((0 : Int) ≤ s5.1 ∧ s5.1 < lenI a2) (
          guardP (List.length r25 + List.length ([(List.getD a2 (Int.toNat s5.1) (0 : Nat))] : List Nat) ≤ appMax) (
            guardP (List.length s5.2 + List.length ([(r25 ++ ([(List.getD a2 (Int.toNat s5.1) (0 : Nat))] : List Nat))] : List (List Nat)) ≤ appMax) (
              some (.inl ((wadd .i64 s5.1 (1 : Int)), (s5.2 ++ ([(r25 ++ ([(List.getD a2 (Int.toNat s5.1) (0 : Nat))] : List Nat))] : List (List Nat))))))))))
  else
    some (.inr s5.2)

noncomputable def impl_AllWords (a0 : List Nat) (a1 : List Nat) (a2 : List Nat) : Option (Nat × Bool) :=
  (show Option (Bool) from
    bif (decide ((lenI a1) < (1 : Int))) then
      some true
    else
      bif (decide ((lenI a1) > (5 : Int))) then
        some true
      else
        bif ((lenI a0) != (wmul .i64 (lenI a1) (lenI a1))) then
          some true
        else
          bif ((lenI a2) != (lenI a1)) then
            some true
          else
            (slices_Concat___float32_float32 ([a0, a1, a2] : List (List Nat))).bind fun y41 =>
            (impl_areFinite y41).bind fun y43 =>
            some (!y43)).bind fun v1 =>
  bif v1 then
    some ((0 : Nat), false)
  else
    (rounds (impl_AllWords_B2 a0 a1 a2) ((0 : Int), ([] : List (List Nat)))).bind fun r7 =>
    (impl_solve_mv0 r7).bind fun y8 =>
    bif (!y8.2) then
      some ((0 : Nat), false)
    else
      (impl_DotNumbers a1 y8.1).bind fun y11 =>
      (impl_finite y11.1).bind fun y13 =>
      some (y13.1, y13.2)

theorem f9_ok {a0 : List Nat} {a1 : List Nat} {a2 : List Nat} {r : Nat × Bool} (hr : impl_AllWords a0 a1 a2 = some r) : CallOK Try.prog 9 [.imm tLF a0, .imm tLF a1, .imm tLF a2] [⟨false, tF, r.1⟩, ⟨false, .bool, r.2⟩] [] := by
  unfold impl_AllWords at hr
  refine CallOK.of_body (ts := [(false, tF), (false, .bool)]) Try.func9 rfl (by kernel_rfl) (Nat.le_of_ble_eq_true (by kernel_rfl)) fun cx hP hN hO hF => ?_
  have hO : cx.own.map Prod.fst = [] := hO
  have hX := CxIs.mk hP hN hO
  have hF := hF rfl
  show HT cx ⟨[(0, lV a0), (1, lV a1), (2, lV a2)], [], 0⟩ _ _
  refine HT.rg2 (oHs 2) ⟨[(0, lV a0), (1, lV a1), (2, lV a2)], [], 0⟩ hX (by kernel_rfl) allNil ?_
  refine HT.rg2 (oHs 3) ⟨[(0, lV a0), (1, lV a1), (2, lV a2), (8, iV (lenI a1))], [], 0⟩ hX (by kernel_rfl) allNil ?_
  refine HT.seq ?_
  obtain ⟨v1', hT3, hr⟩ := of_bind hr
  refine HT.join (fun (v1 : Bool) => ⟨[(0, lV a0), (1, lV a1), (2, lV a2), (8, iV (lenI a1)), (47, bV v1)], [], 0⟩) (fun v => v = v1') (fun v1 hv2 => ?_) (fun cont => ?_)
  · subst hv2
    rcases of_bif hr with ⟨hb4, hr⟩ | ⟨hb4, hr⟩
    · refine HT.cond1 rfl hb4 ?_
      refine HT.rg2 (oHs 2) ⟨[(6, fV (0 : Nat)), (7, bV false)], [], 0⟩ hX (by kernel_rfl) allNil ?_
      have hr := of_some hr
      subst hr
      exact HT.ret (qThenR ⟨[fV (0 : Nat), bV false], [], [], by kernel_rfl, by kernel_rfl, rfl, by kernel_rfl, by kernel_rfl, trivial⟩)
    · refine HT.cond0 rfl hb4 ?_
      refine HT.skip (qThen ?_)
      refine HT.rg2 (oHs 2) ⟨[(0, lV a0), (1, lV a1), (2, lV a2), (8, iV (lenI a1)), (9, .one (.nilS))], [], 0⟩ hX (by kernel_rfl) allNil ?_
      refine HT.seq ?_
      refine HT.rg2 (oHs 2) ⟨[(0, lV a0), (1, lV a1), (2, lV a2), (8, iV (lenI a1)), (9, .one (.nilS)), (49, iV (lenI a1)), (50, iV (0 : Int))], [], 0⟩ hX (by kernel_rfl) allNil ?_
      refine HT.block ?_
      obtain ⟨r6, hL36, hr⟩ := of_bind hr
      refine HT.loopL (fun (s5 : Int × List (List Nat)) => ⟨[(0, lV a0), (1, lV a1), (2, lV a2), (8, iV (lenI a1)), (9, aV 0), (49, iV (lenI a1)), (50, iV s5.1)], [(0, .seq (.own tF) s5.2)], 1⟩) (fun (r7 : List (List Nat)) => (.exit 0, ⟨[(1, lV a1), (9, aV 0)], [(0, .seq (.own tF) r7)], 1⟩)) (Le.re [] [0] hX (by kernel_rfl)) hL36 ?_ (fun s5 x15 hx16 hk17 => ?_)
      · refine (qBlockX (qThen ?_))
        obtain ⟨y8, hc9, hr⟩ := of_bind hr
        refine HT.rg2 [oH, ⟨none, .call [.mv (.sl (.own tF))] [⟨true, tLF, y8.1⟩, ⟨false, .bool, y8.2⟩] []⟩, oH, oH, oH, oH, oH] ⟨[(1, lV a1), (13, aV 1), (14, bV y8.2)], [(1, .seq tF y8.1)], 2⟩ hX (by kernel_rfl) (allCons (f48_mv0_ok hc9) allNil) ?_
        refine HT.seq ?_
        refine HT.rg2 (oHs 2) ⟨[(1, lV a1), (13, aV 1), (98, bV (!y8.2))], [(1, .seq tF y8.1)], 2⟩ hX (by kernel_rfl) allNil ?_
        rcases of_bif hr with ⟨hb10, hr⟩ | ⟨hb10, hr⟩
        · refine HT.cond1 rfl hb10 ?_
          refine HT.rg2 (oHs 2) ⟨[(6, fV (0 : Nat)), (7, bV false)], [], 2⟩ hX (by kernel_rfl) allNil ?_
          have hr := of_some hr
          subst hr
          exact HT.ret (qThenR ⟨[fV (0 : Nat), bV false], [], [], by kernel_rfl, by kernel_rfl, rfl, by kernel_rfl, by kernel_rfl, trivial⟩)
        · refine HT.cond0 rfl hb10 ?_
          refine HT.skip (qThen ?_)
          obtain ⟨y11, hc12, hr⟩ := of_bind hr
          refine HT.rg2 [oH, oH, ⟨none, .call [.imm tLF, .imm tLF] [⟨false, tF, y11.1⟩, ⟨false, .bool, y11.2⟩] []⟩, oH, oH, oH, oH, oH] ⟨[(15, fV y11.1)], [], 2⟩ hX (by kernel_rfl) (allCons (f49_ok hc12) allNil) ?_
          obtain ⟨y13, hc14, hr⟩ := of_bind hr
          refine HT.rg2 [oH, ⟨none, .call [.imm tF] [⟨false, tF, y13.1⟩, ⟨false, .bool, y13.2⟩] []⟩, oH, oH, oH, oH] ⟨[(6, fV y13.1), (7, bV y13.2)], [], 2⟩ hX (by kernel_rfl) (allCons (f50_ok hc14) allNil) ?_
          have hr := of_some hr
          subst hr
          exact HT.ret ⟨[fV y13.1, bV y13.2], [], [], by kernel_rfl, by kernel_rfl, rfl, by kernel_rfl, by kernel_rfl, trivial⟩
      · refine HT.rg2 [oH] ⟨[(0, lV a0), (1, lV a1), (2, lV a2), (8, iV (lenI a1)), (9, aV 0), (49, iV (lenI a1)), (50, iV s5.1), (51, bV (decide (s5.1 < (lenI a1))))], [(0, .seq (.own tF) s5.2)], 1⟩ hX (by kernel_rfl) allNil ?_
        refine HT.seq ?_
        rcases of_bif hx16 with ⟨hb18, hx16⟩ | ⟨hb18, hx16⟩
        · refine HT.cond1 rfl hb18 ?_
          refine HT.skip (qThen ?_)
          refine HT.seq ?_
          refine HT.block ?_
          refine HT.rg2 (oHs 2) ⟨[(0, lV a0), (1, lV a1), (2, lV a2), (8, iV (lenI a1)), (9, aV 0), (10, iV s5.1), (49, iV (lenI a1)), (50, iV s5.1)], [(0, .seq (.own tF) s5.2)], 1⟩ hX (by kernel_rfl) allNil ?_
          obtain ⟨hg19, hx16⟩ := of_guard hx16
          refine HT.rg2 [oH, oH, oH, ⟨none, .ty tF⟩, oH] ⟨[(0, lV a0), (1, lV a1), (2, lV a2), (8, iV (lenI a1)), (9, aV 0), (10, iV s5.1), (11, aV 1), (49, iV (lenI a1)), (50, iV s5.1)], [(1, .seq tF (List.replicate (Int.toNat (lenI a1)) (0 : Nat))), (0, .seq (.own tF) s5.2)], 2⟩ hX (by kernel_rfl) (allCons hg19 allNil) ?_
          obtain ⟨hg20, hx16⟩ := of_guard hx16
          refine HT.rg2 (oHs 4) ⟨[(0, lV a0), (1, lV a1), (2, lV a2), (8, iV (lenI a1)), (9, aV 0), (10, iV s5.1), (11, aV 1), (49, iV (lenI a1)), (50, iV s5.1)], [(1, .seq tF (List.set (List.replicate (Int.toNat (lenI a1)) (0 : Nat)) (Int.toNat s5.1) (1065353216 : Nat))), (0, .seq (.own tF) s5.2)], 2⟩ hX (by kernel_rfl) (allCons hg20 (allCons (natLt hg20) allNil)) ?_
          obtain ⟨q21, hq22, hx16⟩ := of_bind hx16
          have hq22 := of_some2 hq22
          refine (Le.cv (s := ⟨[(1, 1), (0, 0)], [], [], false⟩) (own := []) (ps := [a0 = a0, a1 = a1, a2 = a2, (lenI a1) = (lenI a1), s5.1 = s5.1, (lenI a1) = (lenI a1), s5.1 = s5.1, q21 = (List.set (List.replicate (Int.toNat (lenI a1)) (0 : Nat)) (Int.toNat s5.1) (1065353216 : Nat)), s5.2 = s5.2]) (st' := ⟨[(0, lV a0), (1, lV a1), (2, lV a2), (8, iV (lenI a1)), (9, aV 0), (10, iV s5.1), (11, aV 1), (49, iV (lenI a1)), (50, iV s5.1)], [(1, .seq tF q21), (0, .seq (.own tF) s5.2)], 2⟩) hO (fun h => by cases h) (by kernel_rfl) ⟨rfl, rfl, rfl, rfl, rfl, rfl, rfl, hq22, rfl, trivial⟩).ht ?_
          refine HT.seq ?_
          refine HT.rg2 (oHs 2) ⟨[(0, lV a0), (1, lV a1), (2, lV a2), (8, iV (lenI a1)), (9, aV 0), (10, iV s5.1), (11, aV 1), (49, iV (lenI a1)), (50, iV s5.1), (60, iV (lenI a1)), (61, iV (0 : Int))], [(1, .seq tF q21), (0, .seq (.own tF) s5.2)], 2⟩ hX (by kernel_rfl) allNil ?_
          refine HT.block ?_
          obtain ⟨r24, hL35, hx16⟩ := of_bind hx16
          refine HT.loopL (fun (s23 : Int × List Nat) => ⟨[(0, lV a0), (1, lV a1), (2, lV a2), (8, iV (lenI a1)), (9, aV 0), (10, iV s5.1), (11, aV 1), (49, iV (lenI a1)), (50, iV s5.1), (60, iV (lenI a1)), (61, iV s23.1)], [(0, .seq (.own tF) s5.2), (1, .seq tF s23.2)], 2⟩) (fun (r25 : List Nat) => (.exit 2, ⟨[(0, lV a0), (1, lV a1), (2, lV a2), (8, iV (lenI a1)), (9, aV 0), (10, iV s5.1), (11, aV 1), (49, iV (lenI a1)), (50, iV s5.1)], [(0, .seq (.own tF) s5.2), (1, .seq tF r25)], 2⟩)) (Le.re [(0, 0), (1, 1)] [] hX (by kernel_rfl)) hL35 ?_ (fun s23 x29 hx30 hk31 => ?_)
          · refine (qBlockX (qThen ?_))
            obtain ⟨hg26, hx16⟩ := of_guard hx16
            obtain ⟨hg27, hx16⟩ := of_guard hx16
            obtain ⟨hg28, hx16⟩ := of_guard hx16
            refine HT.rgL [oH, oH, oH, oH, oH, oH, ⟨none, .ty tF⟩, ⟨none, .ty tF⟩, ⟨none, .ty (.own tF)⟩, ⟨none, .ty (.own tF)⟩, oH] ⟨[(0, lV a0), (1, lV a1), (2, lV a2), (8, iV (lenI a1)), (9, aV 5), (49, iV (lenI a1)), (50, iV s5.1)], [(5, .seq (.own tF) (s5.2 ++ ([(r24 ++ ([(List.getD a2 (Int.toNat s5.1) (0 : Nat))] : List Nat))] : List (List Nat))))], 6⟩ hX (by kernel_rfl) (allCons hg26 (allCons hg27 (allCons hg28 allNil))) (qBlock (qThen ?_))
            have hx16 := of_some hx16
            subst hx16
            exact HT.rgK (oHs 2) [(5, 0)] [] hX (by kernel_rfl) allNil (fun _ h => (qLoopN ⟨((wadd .i64 s5.1 (1 : Int)), (s5.2 ++ ([(r24 ++ ([(List.getD a2 (Int.toNat s5.1) (0 : Nat))] : List Nat))] : List (List Nat)))), rfl, h⟩))
          · refine HT.rg2 [oH] ⟨[(0, lV a0), (1, lV a1), (2, lV a2), (8, iV (lenI a1)), (9, aV 0), (10, iV s5.1), (11, aV 1), (49, iV (lenI a1)), (50, iV s5.1), (60, iV (lenI a1)), (61, iV s23.1), (62, bV (decide (s23.1 < (lenI a1))))], [(0, .seq (.own tF) s5.2), (1, .seq tF s23.2)], 2⟩ hX (by kernel_rfl) allNil ?_
            refine HT.seq ?_
            rcases of_bif hx30 with ⟨hb32, hx30⟩ | ⟨hb32, hx30⟩
            · refine HT.cond1 rfl hb32 ?_
              refine HT.skip (qThen ?_)
              refine HT.seq ?_
              refine HT.block ?_
              refine HT.rg2 (oHs 2) ⟨[(0, lV a0), (1, lV a1), (2, lV a2), (8, iV (lenI a1)), (9, aV 0), (10, iV s5.1), (11, aV 1), (12, iV s23.1), (49, iV (lenI a1)), (50, iV s5.1), (60, iV (lenI a1)), (61, iV s23.1)], [(0, .seq (.own tF) s5.2), (1, .seq tF s23.2)], 2⟩ hX (by kernel_rfl) allNil ?_
              obtain ⟨hg33, hx30⟩ := of_guard hx30
              obtain ⟨hg34, hx30⟩ := of_guard hx30
              refine HT.drL 15 [⟨oH, []⟩, ⟨oH, []⟩, ⟨oH, []⟩, ⟨oH, []⟩, ⟨oH, [2, 3]⟩, ⟨oH, [2, 3, 4]⟩, ⟨oH, []⟩, ⟨oH, []⟩, ⟨oH, []⟩, ⟨oH, [7, 8]⟩, ⟨oH, []⟩, ⟨oH, [7, 8, 9, 10]⟩, ⟨oH, [6, 7, 8, 9, 10, 11]⟩, ⟨oH, [6, 7, 8, 9, 10, 11, 12]⟩, ⟨oH, [2, 3, 4, 5, 6, 7, 8, 9, 10, 11, 12, 13]⟩] [[0, 1, 2, 3, 4, 5, 6, 7, 8, 9, 10, 11, 12, 13, 14], [0, 1, 2, 3, 4, 5, 6, 7, 8, 9, 10, 11, 12, 13, 14, 15]] (oHs 2) ⟨[(0, lV a0), (1, lV a1), (2, lV a2), (8, iV (lenI a1)), (9, aV 0), (10, iV s5.1), (11, aV 1), (49, iV (lenI a1)), (50, iV s5.1), (60, iV (lenI a1)), (61, iV s23.1)], [(1, .seq tF (List.set s23.2 (Int.toNat s23.1) (fop .sub .f32 (List.getD s23.2 (Int.toNat s23.1) (0 : Nat)) (List.getD a0 (Int.toNat (wadd .i64 (wmul .i64 s5.1 (lenI a1)) s23.1)) (0 : Nat))))), (0, .seq (.own tF) s5.2)], 2⟩ hX (by kernel_rfl) (by kernel_rfl) (allCons hg33 (allCons (natLt hg33) (allCons hg34 (allCons hg33 (allCons (natLt hg33) allNil))))) (qBlock (qThen ?_))
              have hx30 := of_some hx30
              subst hx30
              exact HT.rgK (oHs 2) [(0, 0), (1, 1)] [] hX (by kernel_rfl) allNil (fun _ h => (qLoopN ⟨((wadd .i64 s23.1 (1 : Int)), (List.set s23.2 (Int.toNat s23.1) (fop .sub .f32 (List.getD s23.2 (Int.toNat s23.1) (0 : Nat)) (List.getD a0 (Int.toNat (wadd .i64 (wmul .i64 s5.1 (lenI a1)) s23.1)) (0 : Nat))))), rfl, h⟩))
            · refine HT.cond0 rfl hb32 ?_
              have hx30 := of_some hx30
              subst hx30
              exact HT.exitL (Le.re [(0, 0), (1, 1)] [] hX (by kernel_rfl)) (qThenE (qLoopE (hk31 s23.2 rfl)))
        · refine HT.cond0 rfl hb18 ?_
          have hx16 := of_some hx16
          subst hx16
          exact HT.exitL (Le.re [(0, 0)] [] hX (by kernel_rfl)) (qThenE (qLoopE (hk17 s5.2 rfl)))
  · rcases of_bif hT3 with ⟨hb37, hT3⟩ | ⟨hb37, hT3⟩
    · exact HT.rgK [oH, oH, oH, ⟨some true, .no⟩, ⟨some true, .no⟩, ⟨none, .tv true⟩, oH, ⟨some true, .no⟩, ⟨some true, .no⟩, ⟨some true, .no⟩, ⟨some true, .no⟩, ⟨some true, .no⟩, ⟨some true, .no⟩, ⟨none, .tv true⟩, oH, ⟨some true, .no⟩, ⟨some true, .no⟩, ⟨some true, .no⟩, ⟨some true, .no⟩, ⟨none, .tv true⟩, oH, ⟨some true, .no⟩, ⟨some true, .no⟩, ⟨some true, .no⟩, ⟨some true, .no⟩, ⟨some true, .no⟩, ⟨some true, .no⟩, ⟨some true, .no⟩, ⟨none, .tv true⟩] [] [] hX (by kernel_rfl) (allCons hb37 (allCons hb37 (allCons hb37 (allCons (rfl : true = true) (allCons (rfl : true = true) (allCons (rfl : true = true) (allCons (rfl : true = true) (allCons (rfl : true = true) (allCons (rfl : true = true) (allCons (rfl : true = true) (allCons (rfl : true = true) (allCons (rfl : true = true) (allCons (rfl : true = true) (allCons (rfl : true = true) (allCons (rfl : true = true) (allCons (rfl : true = true) (allCons (rfl : true = true) (allCons (rfl : true = true) (allCons (rfl : true = true) (allCons (rfl : true = true) (allCons (rfl : true = true) (allCons (rfl : true = true) (allCons (rfl : true = true) allNil))))))))))))))))))))))) (fun _ h => (qThen (h.ht (cont true (of_some hT3)))))
    · rcases of_bif hT3 with ⟨hb38, hT3⟩ | ⟨hb38, hT3⟩
      · exact HT.rgK [oH, oH, oH, ⟨some false, .no⟩, ⟨some false, .no⟩, ⟨none, .tv false⟩, oH, ⟨some true, .no⟩, ⟨some true, .no⟩, ⟨some true, .no⟩, ⟨some true, .no⟩, ⟨some true, .no⟩, ⟨some true, .no⟩, ⟨none, .tv true⟩, oH, ⟨some true, .no⟩, ⟨some true, .no⟩, ⟨some true, .no⟩, ⟨some true, .no⟩, ⟨none, .tv true⟩, oH, ⟨some true, .no⟩, ⟨some true, .no⟩, ⟨some true, .no⟩, ⟨some true, .no⟩, ⟨some true, .no⟩, ⟨some true, .no⟩, ⟨some true, .no⟩, ⟨none, .tv true⟩] [] [] hX (by kernel_rfl) (allCons hb37 (allCons hb37 (allCons hb37 (allCons hb38 (allCons hb38 (allCons hb38 (allCons hb38 (allCons hb38 (allCons hb38 (allCons hb38 (allCons (rfl : true = true) (allCons (rfl : true = true) (allCons (rfl : true = true) (allCons (rfl : true = true) (allCons (rfl : true = true) (allCons (rfl : true = true) (allCons (rfl : true = true) (allCons (rfl : true = true) (allCons (rfl : true = true) (allCons (rfl : true = true) (allCons (rfl : true = true) (allCons (rfl : true = true) (allCons (rfl : true = true) allNil))))))))))))))))))))))) (fun _ h => (qThen (h.ht (cont true (of_some hT3)))))
      · rcases of_bif hT3 with ⟨hb39, hT3⟩ | ⟨hb39, hT3⟩
        · exact HT.rgK [oH, oH, oH, ⟨some false, .no⟩, ⟨some false, .no⟩, ⟨none, .tv false⟩, oH, ⟨some false, .no⟩, ⟨some false, .no⟩, ⟨some false, .no⟩, ⟨some false, .no⟩, ⟨some false, .no⟩, ⟨some false, .no⟩, ⟨none, .tv false⟩, oH, ⟨some true, .no⟩, ⟨some true, .no⟩, ⟨some true, .no⟩, ⟨some true, .no⟩, ⟨none, .tv true⟩, oH, ⟨some true, .no⟩, ⟨some true, .no⟩, ⟨some true, .no⟩, ⟨some true, .no⟩, ⟨some true, .no⟩, ⟨some true, .no⟩, ⟨some true, .no⟩, ⟨none, .tv true⟩] [] [] hX (by kernel_rfl) (allCons hb37 (allCons hb37 (allCons hb37 (allCons hb38 (allCons hb38 (allCons hb38 (allCons hb38 (allCons hb38 (allCons hb38 (allCons hb38 (allCons hb39 (allCons hb39 (allCons hb39 (allCons hb39 (allCons hb39 (allCons (rfl : true = true) (allCons (rfl : true = true) (allCons (rfl : true = true) (allCons (rfl : true = true) (allCons (rfl : true = true) (allCons (rfl : true = true) (allCons (rfl : true = true) (allCons (rfl : true = true) allNil))))))))))))))))))))))) (fun _ h => (qThen (h.ht (cont true (of_some hT3)))))
        · rcases of_bif hT3 with ⟨hb40, hT3⟩ | ⟨hb40, hT3⟩
          · exact HT.rgK [oH, oH, oH, ⟨some false, .no⟩, ⟨some false, .no⟩, ⟨none, .tv false⟩, oH, ⟨some false, .no⟩, ⟨some false, .no⟩, ⟨some false, .no⟩, ⟨some false, .no⟩, ⟨some false, .no⟩, ⟨some false, .no⟩, ⟨none, .tv false⟩, oH, ⟨some false, .no⟩, ⟨some false, .no⟩, ⟨some false, .no⟩, ⟨some false, .no⟩, ⟨none, .tv false⟩, oH, ⟨some true, .no⟩, ⟨some true, .no⟩, ⟨some true, .no⟩, ⟨some true, .no⟩, ⟨some true, .no⟩, ⟨some true, .no⟩, ⟨some true, .no⟩, ⟨none, .tv true⟩] [] [] hX (by kernel_rfl) (allCons hb37 (allCons hb37 (allCons hb37 (allCons hb38 (allCons hb38 (allCons hb38 (allCons hb38 (allCons hb38 (allCons hb38 (allCons hb38 (allCons hb39 (allCons hb39 (allCons hb39 (allCons hb39 (allCons hb39 (allCons hb40 (allCons hb40 (allCons hb40 (allCons hb40 (allCons hb40 (allCons hb40 (allCons hb40 (allCons hb40 allNil))))))))))))))))))))))) (fun _ h => (qThen (h.ht (cont true (of_some hT3)))))
          · obtain ⟨y41, hc42, hT3⟩ := of_bind hT3
            obtain ⟨y43, hc44, hT3⟩ := of_bind hT3
            exact HT.rgK [oH, oH, oH, ⟨some false, .no⟩, ⟨some false, .no⟩, ⟨none, .tv false⟩, oH, ⟨some false, .no⟩, ⟨some false, .no⟩, ⟨some false, .no⟩, ⟨some false, .no⟩, ⟨some false, .no⟩, ⟨some false, .no⟩, ⟨none, .tv false⟩, oH, ⟨some false, .no⟩, ⟨some false, .no⟩, ⟨some false, .no⟩, ⟨some false, .no⟩, ⟨none, .tv false⟩, oH, ⟨some false, .no⟩, ⟨some false, .no⟩, ⟨some false, .no⟩, ⟨some false, .ty tLF⟩, ⟨some false, .call [.imm (.sl tLF)] [⟨true, tLF, y41⟩] []⟩, ⟨some false, .call [.imm tLF] [⟨false, .bool, y43⟩] []⟩, ⟨some false, .no⟩, ⟨none, .tv false⟩] [] [] hX (by kernel_rfl) (allCons hb37 (allCons hb37 (allCons hb37 (allCons hb38 (allCons hb38 (allCons hb38 (allCons hb38 (allCons hb38 (allCons hb38 (allCons hb38 (allCons hb39 (allCons hb39 (allCons hb39 (allCons hb39 (allCons hb39 (allCons hb40 (allCons hb40 (allCons hb40 (allCons hb40 (allCons hb40 (allCons (f47_ok hc42) (allCons hb40 (allCons (f46_ok hc44) (allCons hb40 (allCons hb40 allNil))))))))))))))))))))))))) (fun _ h => (qThen (h.ht (cont (!y43) (of_some hT3)))))

noncomputable def laws_sameFloat (a0 : Nat) (a1 : Nat) : Option (Bool) :=
  (show Option (Bool) from
    bif (!(feq .f64 a0 a0)) then
      some true
    else
      some (!(feq .f64 a1 a1))).bind fun v1 =>
  bif v1 then
    (show Option (Bool) from
      bif (!(feq .f64 a0 a0)) then
        some (!(feq .f64 a1 a1))
      else
        some false).bind fun v5 =>
    some v5
  else
    (show Option (Bool) from
      bif (feq .f64 a0 (0 : Nat)) then
        some (feq .f64 a1 (0 : Nat))
      else
        some false).bind fun v9 =>
    bif v9 then
      some ((fgt .f64 (fop .quo .f64 (4607182418800017408 : Nat) a0) (0 : Nat)) == (fgt .f64 (fop .quo .f64 (4607182418800017408 : Nat) a1) (0 : Nat)))
    else
      some (feq .f64 a0 a1)

theorem f10_ok {a0 : Nat} {a1 : Nat} {r : Bool} (hr : laws_sameFloat a0 a1 = some r) : CallOK Try.prog 10 [.imm (.flt .f64) a0, .imm (.flt .f64) a1] [⟨false, .bool, r⟩] [] := by
  unfold laws_sameFloat at hr
  refine CallOK.of_body (ts := [(false, .bool)]) Try.func10 rfl (by kernel_rfl) (Nat.le_of_ble_eq_true (by kernel_rfl)) fun cx hP hN hO hF => ?_
  have hO : cx.own.map Prod.fst = [] := hO
  have hX := CxIs.mk hP hN hO
  have hF := hF rfl
  show HT cx ⟨[(0, .one (.dat (.flt .f64) a0)), (1, .one (.dat (.flt .f64) a1))], [], 0⟩ _ _
  refine HT.rg2 [oH] ⟨[(0, .one (.dat (.flt .f64) a0)), (1, .one (.dat (.flt .f64) a1))], [], 0⟩ hX (by kernel_rfl) allNil ?_
  refine HT.seq ?_
  obtain ⟨v1', hT3, hr⟩ := of_bind hr
  refine HT.join (fun (v1 : Bool) => ⟨[(0, .one (.dat (.flt .f64) a0)), (1, .one (.dat (.flt .f64) a1)), (12, bV v1)], [], 0⟩) (fun v => v = v1') (fun v1 hv2 => ?_) (fun cont => ?_)
  · subst hv2
    rcases of_bif hr with ⟨hb4, hr⟩ | ⟨hb4, hr⟩
    · refine HT.cond1 rfl hb4 ?_
      obtain ⟨v5', hT7, hr⟩ := of_bind hr
      refine HT.join (fun (v5 : Bool) => ⟨[(4, bV v5)], [], 0⟩) (fun v => v = v5') (fun v5 hv6 => ?_) (fun cont => ?_)
      · subst hv6
        have hr := of_some hr
        subst hr
        exact HT.ret (qThenR ⟨[bV v5], [], [], by kernel_rfl, by kernel_rfl, rfl, by kernel_rfl, by kernel_rfl, trivial⟩)
      · rcases of_bif hT7 with ⟨hb8, hT7⟩ | ⟨hb8, hT7⟩
        · exact HT.rgK [oH, oH, oH, oH, ⟨some true, .no⟩, ⟨some true, .no⟩, ⟨some true, .no⟩, ⟨none, .tv true⟩, oH] [] [] hX (by kernel_rfl) (allCons hb8 (allCons hb8 (allCons hb8 (allCons hb8 allNil)))) (fun _ h => (qThen (h.ht (cont (!(feq .f64 a1 a1)) (of_some hT7)))))
        · exact HT.rgK [oH, oH, oH, oH, ⟨some false, .no⟩, ⟨some false, .no⟩, ⟨some false, .no⟩, ⟨none, .tv false⟩, oH] [] [] hX (by kernel_rfl) (allCons hb8 (allCons hb8 (allCons hb8 (allCons hb8 allNil)))) (fun _ h => (qThen (h.ht (cont false (of_some hT7)))))
    · refine HT.cond0 rfl hb4 ?_
      refine HT.skip (qThen ?_)
      refine HT.seq ?_
      obtain ⟨v9', hT11, hr⟩ := of_bind hr
      refine HT.join (fun (v9 : Bool) => ⟨[(0, .one (.dat (.flt .f64) a0)), (1, .one (.dat (.flt .f64) a1)), (26, bV v9)], [], 0⟩) (fun v => v = v9') (fun v9 hv10 => ?_) (fun cont => ?_)
      · subst hv10
        rcases of_bif hr with ⟨hb12, hr⟩ | ⟨hb12, hr⟩
        · refine HT.cond1 rfl hb12 ?_
          refine HT.rg2 (oHs 8) ⟨[(4, bV ((fgt .f64 (fop .quo .f64 (4607182418800017408 : Nat) a0) (0 : Nat)) == (fgt .f64 (fop .quo .f64 (4607182418800017408 : Nat) a1) (0 : Nat))))], [], 0⟩ hX (by kernel_rfl) allNil ?_
          have hr := of_some hr
          subst hr
          exact HT.ret (qThenR ⟨[bV ((fgt .f64 (fop .quo .f64 (4607182418800017408 : Nat) a0) (0 : Nat)) == (fgt .f64 (fop .quo .f64 (4607182418800017408 : Nat) a1) (0 : Nat)))], [], [], by kernel_rfl, by kernel_rfl, rfl, by kernel_rfl, by kernel_rfl, trivial⟩)
        · refine HT.cond0 rfl hb12 ?_
          refine HT.skip (qThen ?_)
          refine HT.rg2 (oHs 4) ⟨[(4, bV (feq .f64 a0 a1))], [], 0⟩ hX (by kernel_rfl) allNil ?_
          have hr := of_some hr
          subst hr
          exact HT.ret ⟨[bV (feq .f64 a0 a1)], [], [], by kernel_rfl, by kernel_rfl, rfl, by kernel_rfl, by kernel_rfl, trivial⟩
      · rcases of_bif hT11 with ⟨hb13, hT11⟩ | ⟨hb13, hT11⟩
        · exact HT.rgK [oH, oH, oH, ⟨some true, .no⟩, ⟨some true, .no⟩, ⟨none, .tv true⟩] [] [] hX (by kernel_rfl) (allCons hb13 (allCons hb13 (allCons hb13 allNil))) (fun _ h => (qThen (h.ht (cont (feq .f64 a1 (0 : Nat)) (of_some hT11)))))
        · exact HT.rgK [oH, oH, oH, ⟨some false, .no⟩, ⟨some false, .no⟩, ⟨none, .tv false⟩] [] [] hX (by kernel_rfl) (allCons hb13 (allCons hb13 (allCons hb13 allNil))) (fun _ h => (qThen (h.ht (cont false (of_some hT11)))))
  · rcases of_bif hT3 with ⟨hb14, hT3⟩ | ⟨hb14, hT3⟩
    · exact HT.rgK [oH, oH, oH, oH, ⟨some true, .no⟩, ⟨some true, .no⟩, ⟨some true, .no⟩, ⟨none, .tv true⟩] [] [] hX (by kernel_rfl) (allCons hb14 (allCons hb14 (allCons hb14 (allCons hb14 allNil)))) (fun _ h => (qThen (h.ht (cont true (of_some hT3)))))
    · exact HT.rgK [oH, oH, oH, oH, ⟨some false, .no⟩, ⟨some false, .no⟩, ⟨some false, .no⟩, ⟨none, .tv false⟩] [] [] hX (by kernel_rfl) (allCons hb14 (allCons hb14 (allCons hb14 (allCons hb14 allNil)))) (fun _ h => (qThen (h.ht (cont (!(feq .f64 a1 a1)) (of_some hT3)))))

noncomputable def laws_eqFloat32S_B1 (a0 : List Nat) (a1 : List Nat) (s2 : Int) : Option ((Int) ⊕ (Unit ⊕ Unit)) :=
  bif (decide (s2 < (lenI a0))) then
    guardP ((0 : Int) ≤ s2 ∧ s2 < lenI a0) (
      guardP ((0 : Int) ≤ s2 ∧ s2 < lenI a1) (
        (laws_sameFloat (fconv .f32 .f64 (List.getD a0 (Int.toNat s2) (0 : Nat))) (fconv .f32 .f64 (List.getD a1 (Int.toNat s2) (0 : Nat)))).bind fun y12 =>
        bif (!y12) then
          some (.inr (.inr ()))
        else
          some (.inl (wadd .i64 s2 (1 : Int)))))
  else
    some (.inr (.inl ()))

noncomputable def laws_eqFloat32S (a0 : List Nat) (a1 : List Nat) : Option (Bool) :=
  bif ((lenI a0) != (lenI a1)) then
    some false
  else
    (rounds (laws_eqFloat32S_B1 a0 a1) (0 : Int)).bind fun r3 => match r3 with
      | .inl r4 =>
        some true
      | .inr r5 =>
        some false

theorem f11_ok {a0 : List Nat} {a1 : List Nat} {r : Bool} (hr : laws_eqFloat32S a0 a1 = some r) : CallOK Try.prog 11 [.imm tLF a0, .imm tLF a1] [⟨false, .bool, r⟩] [] := by
  unfold laws_eqFloat32S at hr
  refine CallOK.of_body (ts := [(false, .bool)]) Try.func11 rfl (by kernel_rfl) (Nat.le_of_ble_eq_true (by kernel_rfl)) fun cx hP hN hO hF => ?_
  have hO : cx.own.map Prod.fst = [] := hO
  have hX := CxIs.mk hP hN hO
  have hF := hF rfl
  show HT cx ⟨[(0, lV a0), (1, lV a1)], [], 0⟩ _ _
  refine HT.rg2 [oH] ⟨[(0, lV a0), (1, lV a1)], [], 0⟩ hX (by kernel_rfl) allNil ?_
  refine HT.seq ?_
  refine HT.rg2 (oHs 5) ⟨[(0, lV a0), (1, lV a1), (10, bV ((lenI a0) != (lenI a1)))], [], 0⟩ hX (by kernel_rfl) allNil ?_
  rcases of_bif hr with ⟨hb1, hr⟩ | ⟨hb1, hr⟩
  · refine HT.cond1 rfl hb1 ?_
    refine HT.rg2 [oH] ⟨[(4, bV false)], [], 0⟩ hX (by kernel_rfl) allNil ?_
    have hr := of_some hr
    subst hr
    exact HT.ret (qThenR ⟨[bV false], [], [], by kernel_rfl, by kernel_rfl, rfl, by kernel_rfl, by kernel_rfl, trivial⟩)
  · refine HT.cond0 rfl hb1 ?_
    refine HT.skip (qThen ?_)
    refine HT.seq ?_
    refine HT.rg2 [oH] ⟨[(0, lV a0), (1, lV a1), (5, iV (0 : Int))], [], 0⟩ hX (by kernel_rfl) allNil ?_
    refine HT.block ?_
    obtain ⟨r3, hL15, hr⟩ := of_bind hr
    refine HT.loopL (fun (s2 : Int) => ⟨[(0, lV a0), (1, lV a1), (5, iV s2)], [], 0⟩) (fun (r3 : Unit ⊕ Unit) => match r3 with | .inl r4 => (.exit 0, ⟨[], [], 0⟩) | .inr r5 => (.ret, ⟨[(4, bV false)], [], 0⟩)) (Le.re [] [] hX (by kernel_rfl)) hL15 ?_ (fun s2 x6 hx7 hk8 => ?_)
    · rcases r3 with r4 | r5
      · refine (qBlockX (qThen ?_))
        refine HT.rg2 [oH] ⟨[(4, bV true)], [], 0⟩ hX (by kernel_rfl) allNil ?_
        have hr := of_some hr
        subst hr
        exact HT.ret ⟨[bV true], [], [], by kernel_rfl, by kernel_rfl, rfl, by kernel_rfl, by kernel_rfl, trivial⟩
      · have hr := of_some hr
        subst hr
        exact (qBlockR (qThenR ⟨[bV false], [], [], by kernel_rfl, by kernel_rfl, rfl, by kernel_rfl, by kernel_rfl, trivial⟩))
    · refine HT.seq ?_
      refine HT.rg2 (oHs 4) ⟨[(0, lV a0), (1, lV a1), (5, iV s2), (14, bV (decide (s2 < (lenI a0))))], [], 0⟩ hX (by kernel_rfl) allNil ?_
      rcases of_bif hx7 with ⟨hb9, hx7⟩ | ⟨hb9, hx7⟩
      · refine HT.cond1 rfl hb9 ?_
        refine HT.skip (qThen ?_)
        refine HT.seq ?_
        refine HT.block ?_
        obtain ⟨hg10, hx7⟩ := of_guard hx7
        obtain ⟨hg11, hx7⟩ := of_guard hx7
        obtain ⟨y12, hc13, hx7⟩ := of_bind hx7
        refine HT.dr2 10 [⟨oH, []⟩, ⟨oH, []⟩, ⟨oH, [0, 1]⟩, ⟨oH, [0, 1, 2]⟩, ⟨oH, [0, 1, 2, 3]⟩, ⟨oH, []⟩, ⟨oH, []⟩, ⟨oH, [5, 6]⟩, ⟨oH, [5, 6, 7]⟩, ⟨oH, [5, 6, 7, 8]⟩] [[0, 1, 2, 3, 4, 5, 6, 7, 8, 9], [0, 1, 2, 3, 4, 5, 6, 7, 8, 9, 10]] [⟨none, .call [.imm (.flt .f64), .imm (.flt .f64)] [⟨false, .bool, y12⟩] []⟩, oH] ⟨[(0, lV a0), (1, lV a1), (5, iV s2), (28, bV (!y12))], [], 0⟩ hX (by kernel_rfl) (by kernel_rfl) (allCons hg10 (allCons (show fconvOK .f32 .f64 (List.getD a0 (Int.toNat s2) (0 : Nat)) = true from (fconv_up _)) (allCons hg11 (allCons (show fconvOK .f32 .f64 (List.getD a1 (Int.toNat s2) (0 : Nat)) = true from (fconv_up _)) (allCons (f10_ok hc13) allNil))))) ?_
        rcases of_bif hx7 with ⟨hb14, hx7⟩ | ⟨hb14, hx7⟩
        · refine HT.cond1 rfl hb14 ?_
          refine HT.rg2 [oH] ⟨[(4, bV false)], [], 0⟩ hX (by kernel_rfl) allNil ?_
          have hx7 := of_some hx7
          subst hx7
          exact HT.retL (Le.re [] [] hX (by kernel_rfl)) (qBlockR (qThenR (qLoopR (hk8 (.inr ()) rfl))))
        · refine HT.cond0 rfl hb14 ?_
          refine HT.skip (qBlock (qThen ?_))
          have hx7 := of_some hx7
          subst hx7
          exact HT.rgK (oHs 3) [] [] hX (by kernel_rfl) allNil (fun _ h => (qLoopN ⟨(wadd .i64 s2 (1 : Int)), rfl, h⟩))
      · refine HT.cond0 rfl hb9 ?_
        have hx7 := of_some hx7
        subst hx7
        exact HT.exitL (Le.re [] [] hX (by kernel_rfl)) (qThenE (qLoopE (hk8 (.inl ()) rfl)))

noncomputable def laws_FnExactAllWords (a0 : List Nat) (a1 : List Nat) (a2 : List Nat) : Option (Bool) :=
  bif (decide ((lenI a0) > (1048576 : Int))) then
    some true
  else
    bif (decide ((lenI a1) > (1048576 : Int))) then
      some true
    else
      bif (decide ((lenI a2) > (1048576 : Int))) then
        some true
      else
        (laws_toFloat32S a0).bind fun y4 =>
        (laws_toFloat32S a1).bind fun y6 =>
        (laws_toFloat32S a2).bind fun y8 =>
        (spec_AllWords y4 y6 y8).bind fun y10 =>
        (laws_toFloat32S a0).bind fun y12 =>
        (laws_toFloat32S a1).bind fun y14 =>
        (laws_toFloat32S a2).bind fun y16 =>
        (impl_AllWords y12 y14 y16).bind fun y18 =>
        (show Option (Bool) from
          (laws_sameFloat (fconv .f32 .f64 y18.1) (fconv .f32 .f64 y10.1)).bind fun y39 =>
          bif (!y39) then
            some true
          else
            some (y18.2 != y10.2)).bind fun v20 =>
        bif v20 then
          some false
        else
          (laws_toFloat32S a0).bind fun y24 =>
          (laws_eqFloat32S y12 y24).bind fun y26 =>
          bif (!y26) then
            some false
          else
            (laws_toFloat32S a1).bind fun y29 =>
            (laws_eqFloat32S y14 y29).bind fun y31 =>
            bif (!y31) then
              some false
            else
              (laws_toFloat32S a2).bind fun y34 =>
              (laws_eqFloat32S y16 y34).bind fun y36 =>
              bif (!y36) then
                some false
              else
                some true

theorem f3_ok {a0 : List Nat} {a1 : List Nat} {a2 : List Nat} {r : Bool} (hr : laws_FnExactAllWords a0 a1 a2 = some r) : CallOK Try.prog 3 [.imm tLF a0, .imm tLF a1, .imm tLF a2] [⟨false, .bool, r⟩] [] := by
  unfold laws_FnExactAllWords at hr
  refine CallOK.of_body (ts := [(false, .bool)]) Try.func3 rfl (by kernel_rfl) (Nat.le_of_ble_eq_true (by kernel_rfl)) fun cx hP hN hO hF => ?_
  have hO : cx.own.map Prod.fst = [] := hO
  have hX := CxIs.mk hP hN hO
  have hF := hF rfl
  show HT cx ⟨[(0, lV a0), (1, lV a1), (2, lV a2)], [], 0⟩ _ _
  refine HT.rg2 [oH] ⟨[(0, lV a0), (1, lV a1), (2, lV a2)], [], 0⟩ hX (by kernel_rfl) allNil ?_
  refine HT.seq ?_
  refine HT.rg2 (oHs 3) ⟨[(0, lV a0), (1, lV a1), (2, lV a2), (16, bV (decide ((lenI a0) > (1048576 : Int))))], [], 0⟩ hX (by kernel_rfl) allNil ?_
  rcases of_bif hr with ⟨hb1, hr⟩ | ⟨hb1, hr⟩
  · refine HT.cond1 rfl hb1 ?_
    refine HT.rg2 [oH] ⟨[(6, bV true)], [], 0⟩ hX (by kernel_rfl) allNil ?_
    have hr := of_some hr
    subst hr
    exact HT.ret (qThenR ⟨[bV true], [], [], by kernel_rfl, by kernel_rfl, rfl, by kernel_rfl, by kernel_rfl, trivial⟩)
  · refine HT.cond0 rfl hb1 ?_
    refine HT.skip (qThen ?_)
    refine HT.seq ?_
    refine HT.rg2 (oHs 3) ⟨[(0, lV a0), (1, lV a1), (2, lV a2), (19, bV (decide ((lenI a1) > (1048576 : Int))))], [], 0⟩ hX (by kernel_rfl) allNil ?_
    rcases of_bif hr with ⟨hb2, hr⟩ | ⟨hb2, hr⟩
    · refine HT.cond1 rfl hb2 ?_
      refine HT.rg2 [oH] ⟨[(6, bV true)], [], 0⟩ hX (by kernel_rfl) allNil ?_
      have hr := of_some hr
      subst hr
      exact HT.ret (qThenR ⟨[bV true], [], [], by kernel_rfl, by kernel_rfl, rfl, by kernel_rfl, by kernel_rfl, trivial⟩)
    · refine HT.cond0 rfl hb2 ?_
      refine HT.skip (qThen ?_)
      refine HT.seq ?_
      refine HT.rg2 (oHs 3) ⟨[(0, lV a0), (1, lV a1), (2, lV a2), (22, bV (decide ((lenI a2) > (1048576 : Int))))], [], 0⟩ hX (by kernel_rfl) allNil ?_
      rcases of_bif hr with ⟨hb3, hr⟩ | ⟨hb3, hr⟩
      · refine HT.cond1 rfl hb3 ?_
        refine HT.rg2 [oH] ⟨[(6, bV true)], [], 0⟩ hX (by kernel_rfl) allNil ?_
        have hr := of_some hr
        subst hr
        exact HT.ret (qThenR ⟨[bV true], [], [], by kernel_rfl, by kernel_rfl, rfl, by kernel_rfl, by kernel_rfl, trivial⟩)
      · refine HT.cond0 rfl hb3 ?_
        refine HT.skip (qThen ?_)
        obtain ⟨y4, hc5, hr⟩ := of_bind hr
        obtain ⟨y6, hc7, hr⟩ := of_bind hr
        obtain ⟨y8, hc9, hr⟩ := of_bind hr
        obtain ⟨y10, hc11, hr⟩ := of_bind hr
        refine HT.rg2 [oH, ⟨none, .call [.imm tLF] [⟨true, tLF, y4⟩] []⟩, oH, ⟨none, .call [.imm tLF] [⟨true, tLF, y6⟩] []⟩, oH, ⟨none, .call [.imm tLF] [⟨true, tLF, y8⟩] []⟩, ⟨none, .call [.imm tLF, .imm tLF, .imm tLF] [⟨false, tF, y10.1⟩, ⟨false, .bool, y10.2⟩] []⟩, oH, oH, oH, oH, oH] ⟨[(0, lV a0), (1, lV a1), (2, lV a2), (7, fV y10.1), (8, bV y10.2)], [], 3⟩ hX (by kernel_rfl) (allCons (f8_ok hc5) (allCons (f8_ok hc7) (allCons (f8_ok hc9) (allCons (f7_ok hc11) allNil)))) ?_
        obtain ⟨y12, hc13, hr⟩ := of_bind hr
        refine HT.rg2 [oH, ⟨none, .call [.imm tLF] [⟨true, tLF, y12⟩] []⟩, oH] ⟨[(0, lV a0), (1, lV a1), (2, lV a2), (7, fV y10.1), (8, bV y10.2), (9, aV 3)], [(3, .seq tF y12)], 4⟩ hX (by kernel_rfl) (allCons (f8_ok hc13) allNil) ?_
        obtain ⟨y14, hc15, hr⟩ := of_bind hr
        refine HT.rg2 [oH, ⟨none, .call [.imm tLF] [⟨true, tLF, y14⟩] []⟩, oH] ⟨[(0, lV a0), (1, lV a1), (2, lV a2), (7, fV y10.1), (8, bV y10.2), (9, aV 3), (10, aV 4)], [(4, .seq tF y14), (3, .seq tF y12)], 5⟩ hX (by kernel_rfl) (allCons (f8_ok hc15) allNil) ?_
        obtain ⟨y16, hc17, hr⟩ := of_bind hr
        refine HT.rg2 [oH, ⟨none, .call [.imm tLF] [⟨true, tLF, y16⟩] []⟩, oH] ⟨[(0, lV a0), (1, lV a1), (2, lV a2), (7, fV y10.1), (8, bV y10.2), (9, aV 3), (10, aV 4), (11, aV 5)], [(5, .seq tF y16), (4, .seq tF y14), (3, .seq tF y12)], 6⟩ hX (by kernel_rfl) (allCons (f8_ok hc17) allNil) ?_
        obtain ⟨y18, hc19, hr⟩ := of_bind hr
        refine HT.rg2 [oH, oH, oH, ⟨none, .call [.imm tLF, .imm tLF, .imm tLF] [⟨false, tF, y18.1⟩, ⟨false, .bool, y18.2⟩] []⟩, oH, oH, oH, oH, oH] ⟨[(0, lV a0), (1, lV a1), (2, lV a2), (7, fV y10.1), (8, bV y10.2), (9, aV 3), (10, aV 4), (11, aV 5), (12, fV y18.1), (13, bV y18.2)], [(5, .seq tF y16), (4, .seq tF y14), (3, .seq tF y12)], 6⟩ hX (by kernel_rfl) (allCons (f9_ok hc19) allNil) ?_
        refine HT.seq ?_
        obtain ⟨v20', hT22, hr⟩ := of_bind hr
        refine HT.join (fun (v20 : Bool) => ⟨[(0, lV a0), (1, lV a1), (2, lV a2), (9, aV 0), (10, aV 1), (11, aV 2), (56, bV v20)], [(0, .seq tF y12), (1, .seq tF y14), (2, .seq tF y16)], 3⟩) (fun v => v = v20') (fun v20 hv21 => ?_) (fun cont => ?_)
        · subst hv21
          rcases of_bif hr with ⟨hb23, hr⟩ | ⟨hb23, hr⟩
          · refine HT.cond1 rfl hb23 ?_
            refine HT.rg2 [oH] ⟨[(6, bV false)], [], 3⟩ hX (by kernel_rfl) allNil ?_
            have hr := of_some hr
            subst hr
            exact HT.ret (qThenR ⟨[bV false], [], [], by kernel_rfl, by kernel_rfl, rfl, by kernel_rfl, by kernel_rfl, trivial⟩)
          · refine HT.cond0 rfl hb23 ?_
            refine HT.skip (qThen ?_)
            refine HT.seq ?_
            obtain ⟨y24, hc25, hr⟩ := of_bind hr
            obtain ⟨y26, hc27, hr⟩ := of_bind hr
            refine HT.rg2 [oH, oH, ⟨none, .call [.imm tLF] [⟨true, tLF, y24⟩] []⟩, ⟨none, .call [.imm tLF, .imm tLF] [⟨false, .bool, y26⟩] []⟩, oH] ⟨[(1, lV a1), (2, lV a2), (10, aV 1), (11, aV 2), (61, bV (!y26))], [(1, .seq tF y14), (2, .seq tF y16)], 4⟩ hX (by kernel_rfl) (allCons (f8_ok hc25) (allCons (f11_ok hc27) allNil)) ?_
            rcases of_bif hr with ⟨hb28, hr⟩ | ⟨hb28, hr⟩
            · refine HT.cond1 rfl hb28 ?_
              refine HT.rg2 [oH] ⟨[(6, bV false)], [], 4⟩ hX (by kernel_rfl) allNil ?_
              have hr := of_some hr
              subst hr
              exact HT.ret (qThenR ⟨[bV false], [], [], by kernel_rfl, by kernel_rfl, rfl, by kernel_rfl, by kernel_rfl, trivial⟩)
            · refine HT.cond0 rfl hb28 ?_
              refine HT.skip (qThen ?_)
              refine HT.seq ?_
              obtain ⟨y29, hc30, hr⟩ := of_bind hr
              obtain ⟨y31, hc32, hr⟩ := of_bind hr
              refine HT.rg2 [oH, oH, ⟨none, .call [.imm tLF] [⟨true, tLF, y29⟩] []⟩, ⟨none, .call [.imm tLF, .imm tLF] [⟨false, .bool, y31⟩] []⟩, oH] ⟨[(2, lV a2), (11, aV 2), (66, bV (!y31))], [(2, .seq tF y16)], 5⟩ hX (by kernel_rfl) (allCons (f8_ok hc30) (allCons (f11_ok hc32) allNil)) ?_
              rcases of_bif hr with ⟨hb33, hr⟩ | ⟨hb33, hr⟩
              · refine HT.cond1 rfl hb33 ?_
                refine HT.rg2 [oH] ⟨[(6, bV false)], [], 5⟩ hX (by kernel_rfl) allNil ?_
                have hr := of_some hr
                subst hr
                exact HT.ret (qThenR ⟨[bV false], [], [], by kernel_rfl, by kernel_rfl, rfl, by kernel_rfl, by kernel_rfl, trivial⟩)
              · refine HT.cond0 rfl hb33 ?_
                refine HT.skip (qThen ?_)
                refine HT.seq ?_
                obtain ⟨y34, hc35, hr⟩ := of_bind hr
                obtain ⟨y36, hc37, hr⟩ := of_bind hr
                refine HT.rg2 [oH, oH, ⟨none, .call [.imm tLF] [⟨true, tLF, y34⟩] []⟩, ⟨none, .call [.imm tLF, .imm tLF] [⟨false, .bool, y36⟩] []⟩, oH] ⟨[(71, bV (!y36))], [], 6⟩ hX (by kernel_rfl) (allCons (f8_ok hc35) (allCons (f11_ok hc37) allNil)) ?_
                rcases of_bif hr with ⟨hb38, hr⟩ | ⟨hb38, hr⟩
                · refine HT.cond1 rfl hb38 ?_
                  refine HT.rg2 [oH] ⟨[(6, bV false)], [], 6⟩ hX (by kernel_rfl) allNil ?_
                  have hr := of_some hr
                  subst hr
                  exact HT.ret (qThenR ⟨[bV false], [], [], by kernel_rfl, by kernel_rfl, rfl, by kernel_rfl, by kernel_rfl, trivial⟩)
                · refine HT.cond0 rfl hb38 ?_
                  refine HT.skip (qThen ?_)
                  refine HT.rg2 [oH] ⟨[(6, bV true)], [], 6⟩ hX (by kernel_rfl) allNil ?_
                  have hr := of_some hr
                  subst hr
                  exact HT.ret ⟨[bV true], [], [], by kernel_rfl, by kernel_rfl, rfl, by kernel_rfl, by kernel_rfl, trivial⟩
        · obtain ⟨y39, hc40, hT22⟩ := of_bind hT22
          rcases of_bif hT22 with ⟨hb41, hT22⟩ | ⟨hb41, hT22⟩
          · exact HT.rgK [oH, oH, oH, oH, ⟨none, .call [.imm (.flt .f64), .imm (.flt .f64)] [⟨false, .bool, y39⟩] []⟩, oH, oH, ⟨some true, .no⟩, ⟨some true, .no⟩, ⟨some true, .no⟩, ⟨none, .tv true⟩] [(3, 0), (4, 1), (5, 2)] [] hX (by kernel_rfl) (allCons (show fconvOK .f32 .f64 y18.1 = true from (fconv_up _)) (allCons (show fconvOK .f32 .f64 y10.1 = true from (fconv_up _)) (allCons (f10_ok hc40) (allCons hb41 (allCons hb41 (allCons hb41 (allCons hb41 allNil))))))) (fun _ h => (qThen (h.ht (cont true (of_some hT22)))))
          · exact HT.rgK [oH, oH, oH, oH, ⟨none, .call [.imm (.flt .f64), .imm (.flt .f64)] [⟨false, .bool, y39⟩] []⟩, oH, oH, ⟨some false, .no⟩, ⟨some false, .no⟩, ⟨some false, .no⟩, ⟨none, .tv false⟩] [(3, 0), (4, 1), (5, 2)] [] hX (by kernel_rfl) (allCons (show fconvOK .f32 .f64 y18.1 = true from (fconv_up _)) (allCons (show fconvOK .f32 .f64 y10.1 = true from (fconv_up _)) (allCons (f10_ok hc40) (allCons hb41 (allCons hb41 (allCons hb41 (allCons hb41 allNil))))))) (fun _ h => (qThen (h.ht (cont (y18.2 != y10.2) (of_some hT22)))))

end Go.Proofs
