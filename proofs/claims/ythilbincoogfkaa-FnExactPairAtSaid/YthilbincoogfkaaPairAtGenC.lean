import Derived.Test.YthilbincoogfkaaPairAtGenB
import Derived.Test.YthilbincoogfkaaProg
set_option linter.unusedVariables false
set_option linter.unusedSimpArgs false
set_option linter.unusedSectionVars false
/-
  Functions as plain functions, and their contracts. Printed by a program.
-/
namespace Go.Proofs
open Go.Ide

noncomputable def laws_eqFloat32S_B1 (a0 : List Nat) (a1 : List Nat) (s2 : Int) : Option ((Int) ⊕ (Unit ⊕ Unit)) :=
  bif (decide (s2 < (lenI a0))) then
    guardP ((0 : Int) ≤ s2 ∧ s2 < lenI a0) (
      guardP ((0 : Int) ≤ s2 ∧ s2 < lenI a1) (
        (laws_sameFloat (fconv .f32 .f64 (List.getD a0 (Int.toNat s2) (0 : Nat))) (fconv .f32 .f64 (List.getD a1 (Int.toNat s2) (0 : Nat)))).bind fun y12 =>
        bif (!y12) then
          some (.inr (.inr ()))
        else
          some (.inl (wadd .i64 s2 (1 : Int)))))
  else
    some (.inr (.inl ()))

noncomputable def laws_eqFloat32S (a0 : List Nat) (a1 : List Nat) : Option (Bool) :=
  bif ((lenI a0) != (lenI a1)) then
    some false
  else
    (rounds (laws_eqFloat32S_B1 a0 a1) (0 : Int)).bind fun r3 => match r3 with
      | .inl r4 =>
        some true
      | .inr r5 =>
        some false

theorem f15_ok {a0 : List Nat} {a1 : List Nat} {r : Bool} (hr : laws_eqFloat32S a0 a1 = some r) : CallOK Try.prog 15 [.imm (.sl (.flt .f32)) a0, .imm (.sl (.flt .f32)) a1] [⟨false, .bool, r⟩] [] := by
  unfold laws_eqFloat32S at hr
  refine CallOK.of_body (ts := [(false, .bool)]) Try.func15 rfl (by kernel_rfl) (Nat.le_of_ble_eq_true (by kernel_rfl)) fun cx hP hN hO hF => ?_
  have hO : cx.own.map Prod.fst = [] := hO
  have hF := hF rfl
  show HT cx ⟨[(0, .one (.dat (.sl (.flt .f32)) a0)), (1, .one (.dat (.sl (.flt .f32)) a1))], [], 0⟩ _ _
  refine HT.reg1 [0, 1] [⟨none, .no⟩] ⟨[(0, .one (.dat (.sl (.flt .f32)) a0)), (1, .one (.dat (.sl (.flt .f32)) a1))], [], 0⟩ hP hN (by kernel_rfl) allNil ?_
  refine HT.seq ?_
  refine HT.reg1 [0, 1, 10] [⟨none, .no⟩, ⟨none, .no⟩, ⟨none, .no⟩, ⟨none, .no⟩, ⟨none, .no⟩] ⟨[(0, .one (.dat (.sl (.flt .f32)) a0)), (1, .one (.dat (.sl (.flt .f32)) a1)), (10, .one (.dat .bool ((lenI a0) != (lenI a1))))], [], 0⟩ hP hN (by kernel_rfl) allNil ?_
  rcases of_bif hr with ⟨hb1, hr⟩ | ⟨hb1, hr⟩
  · refine HT.cond1 rfl hb1 ?_
    refine HT.reg1 [4] [⟨none, .no⟩] ⟨[(4, .one (.dat .bool false))], [], 0⟩ hP hN (by kernel_rfl) allNil ?_
    have hr := of_some hr
    subst hr
    exact HT.ret (qThenR ⟨[.one (.dat .bool false)], [], [], by kernel_rfl, by kernel_rfl, rfl, by kernel_rfl, by kernel_rfl, trivial⟩)
  · refine HT.cond0 rfl hb1 ?_
    refine HT.skip (qThen ?_)
    refine HT.seq ?_
    refine HT.reg1 [0, 1, 5] [⟨none, .no⟩] ⟨[(0, .one (.dat (.sl (.flt .f32)) a0)), (1, .one (.dat (.sl (.flt .f32)) a1)), (5, .one (.dat (.int .i64) (0 : Int)))], [], 0⟩ hP hN (by kernel_rfl) allNil ?_
    refine HT.block ?_
    obtain ⟨r3, hL15, hr⟩ := of_bind hr
    refine (Le.cv (s := ⟨[], [], [], false⟩) (own := []) (ps := [a0 = a0, a1 = a1, (0 : Int) = (0 : Int)]) (st' := ⟨[(0, .one (.dat (.sl (.flt .f32)) a0)), (1, .one (.dat (.sl (.flt .f32)) a1)), (5, .one (.dat (.int .i64) (0 : Int)))], [], 0⟩) hO (fun h => by cases h) (by kernel_rfl) ⟨rfl, rfl, rfl, trivial⟩).ht ?_
    refine HT.loopE (s := (0 : Int)) (fun (s2 : Int) => ⟨[(0, .one (.dat (.sl (.flt .f32)) a0)), (1, .one (.dat (.sl (.flt .f32)) a1)), (5, .one (.dat (.int .i64) s2))], [], 0⟩) (fun (r3 : Unit ⊕ Unit) => match r3 with | .inl r4 => (.exit 0, ⟨[], [], 0⟩) | .inr r5 => (.ret, ⟨[(4, .one (.dat .bool false))], [], 0⟩)) hL15 ?_ (fun s2 x6 hx7 hk8 => ?_)
    · rcases r3 with r4 | r5
      · refine (qBlockX (qThen ?_))
        refine HT.reg1 [4] [⟨none, .no⟩] ⟨[(4, .one (.dat .bool true))], [], 0⟩ hP hN (by kernel_rfl) allNil ?_
        have hr := of_some hr
        subst hr
        exact HT.ret ⟨[.one (.dat .bool true)], [], [], by kernel_rfl, by kernel_rfl, rfl, by kernel_rfl, by kernel_rfl, trivial⟩
      · have hr := of_some hr
        subst hr
        exact (qBlockR (qThenR ⟨[.one (.dat .bool false)], [], [], by kernel_rfl, by kernel_rfl, rfl, by kernel_rfl, by kernel_rfl, trivial⟩))
    · refine HT.seq ?_
      refine HT.reg1 [0, 1, 5, 14] [⟨none, .no⟩, ⟨none, .no⟩, ⟨none, .no⟩, ⟨none, .no⟩] ⟨[(0, .one (.dat (.sl (.flt .f32)) a0)), (1, .one (.dat (.sl (.flt .f32)) a1)), (5, .one (.dat (.int .i64) s2)), (14, .one (.dat .bool (decide (s2 < (lenI a0)))))], [], 0⟩ hP hN (by kernel_rfl) allNil ?_
      rcases of_bif hx7 with ⟨hb9, hx7⟩ | ⟨hb9, hx7⟩
      · refine HT.cond1 rfl hb9 ?_
        refine HT.skip (qThen ?_)
        refine HT.seq ?_
        refine HT.block ?_
        obtain ⟨hg10, hx7⟩ := of_guard hx7
        obtain ⟨hg11, hx7⟩ := of_guard hx7
        obtain ⟨y12, hc13, hx7⟩ := of_bind hx7
        refine HT.drw1 [0, 1, 5, 28] 10 [⟨⟨none, .no⟩, []⟩, ⟨⟨none, .no⟩, []⟩, ⟨⟨none, .no⟩, [0, 1]⟩, ⟨⟨none, .no⟩, [0, 1, 2]⟩, ⟨⟨none, .no⟩, [0, 1, 2, 3]⟩, ⟨⟨none, .no⟩, []⟩, ⟨⟨none, .no⟩, []⟩, ⟨⟨none, .no⟩, [5, 6]⟩, ⟨⟨none, .no⟩, [5, 6, 7]⟩, ⟨⟨none, .no⟩, [5, 6, 7, 8]⟩] [[0, 1, 2, 3, 4, 5, 6, 7, 8, 9], [0, 1, 2, 3, 4, 5, 6, 7, 8, 9, 10]] [⟨none, .call [.imm (.flt .f64), .imm (.flt .f64)] [⟨false, .bool, y12⟩] []⟩, ⟨none, .no⟩] ⟨[(0, .one (.dat (.sl (.flt .f32)) a0)), (1, .one (.dat (.sl (.flt .f32)) a1)), (5, .one (.dat (.int .i64) s2)), (28, .one (.dat .bool (!y12)))], [], 0⟩ hP hN (by kernel_rfl) (by kernel_rfl) (allCons hg10 (allCons (show fconvOK .f32 .f64 (List.getD a0 (Int.toNat s2) (0 : Nat)) = true from (fconv_up _)) (allCons hg11 (allCons (show fconvOK .f32 .f64 (List.getD a1 (Int.toNat s2) (0 : Nat)) = true from (fconv_up _)) (allCons (f51_ok hc13) allNil))))) ?_
        rcases of_bif hx7 with ⟨hb14, hx7⟩ | ⟨hb14, hx7⟩
        · refine HT.cond1 rfl hb14 ?_
          refine HT.reg1 [4] [⟨none, .no⟩] ⟨[(4, .one (.dat .bool false))], [], 0⟩ hP hN (by kernel_rfl) allNil ?_
          have hx7 := of_some hx7
          subst hx7
          refine (Le.cv (s := ⟨[], [], [], false⟩) (own := []) (ps := [false = false]) (st' := ⟨[(4, .one (.dat .bool false))], [], 0⟩) hO (fun h => by cases h) (by kernel_rfl) ⟨rfl, trivial⟩).ht ?_
          exact HT.ret (qBlockR (qThenR (qLoopR (hk8 (.inr ()) rfl))))
        · refine HT.cond0 rfl hb14 ?_
          refine HT.skip (qBlock (qThen ?_))
          have hx7 := of_some hx7
          subst hx7
          refine HT.reg (rs := [⟨none, .no⟩, ⟨none, .no⟩, ⟨none, .no⟩]) (st' := ⟨[(5, .one (.dat (.int .i64) (wadd .i64 s2 (1 : Int)))), (16, .one (.dat (.int .i64) (wadd .i64 s2 (1 : Int)))), (15, .one (.dat (.int .i64) s2)), (0, .one (.dat (.sl (.flt .f32)) a0)), (1, .one (.dat (.sl (.flt .f32)) a1)), (5, .one (.dat (.int .i64) s2)), (28, .one (.dat .bool (!y12)))], [], 0⟩) hP hN (by kernel_rfl) allNil (qLoopN ⟨(wadd .i64 s2 (1 : Int)), rfl, Le.cv (s := ⟨[], [], [], false⟩) (own := []) (ps := [a0 = a0, a1 = a1, (wadd .i64 s2 (1 : Int)) = (wadd .i64 s2 (1 : Int))]) (st' := ⟨[(0, .one (.dat (.sl (.flt .f32)) a0)), (1, .one (.dat (.sl (.flt .f32)) a1)), (5, .one (.dat (.int .i64) (wadd .i64 s2 (1 : Int))))], [], 0⟩) hO (fun h => by cases h) (by kernel_rfl) ⟨rfl, rfl, rfl, trivial⟩⟩)
      · refine HT.cond0 rfl hb9 ?_
        have hx7 := of_some hx7
        subst hx7
        refine (Le.cv (s := ⟨[], [], [], false⟩) (own := []) (ps := []) (st' := ⟨[], [], 0⟩) hO (fun h => by cases h) (by kernel_rfl) trivial).ht ?_
        exact HT.exit (qThenE (qLoopE (hk8 (.inl ()) rfl)))

noncomputable def laws_eqModel (a0 : Int × Int × List Nat × List Nat × List Nat) (a1 : Int × Int × List Nat × List Nat × List Nat) : Option (Bool) :=
  bif (a0.1 != a1.1) then
    some false
  else
    bif (a0.2.1 != a1.2.1) then
      some false
    else
      (laws_eqFloat32S a0.2.2.1 a1.2.2.1).bind fun y3 =>
      bif (!y3) then
        some false
      else
        (laws_eqFloat32S a0.2.2.2.1 a1.2.2.2.1).bind fun y6 =>
        bif (!y6) then
          some false
        else
          (laws_eqFloat32S a0.2.2.2.2 a1.2.2.2.2).bind fun y9 =>
          bif (!y9) then
            some false
          else
            some true

theorem f16_ok {a0 : Int × Int × List Nat × List Nat × List Nat} {a1 : Int × Int × List Nat × List Nat × List Nat} {r : Bool} (hr : laws_eqModel a0 a1 = some r) : CallOK Try.prog 16 [.imm (.st (.pair (.int .i64) (.pair (.int .i64) (.pair (.sl (.flt .f32)) (.pair (.sl (.flt .f32)) (.sl (.flt .f32))))))) a0, .imm (.st (.pair (.int .i64) (.pair (.int .i64) (.pair (.sl (.flt .f32)) (.pair (.sl (.flt .f32)) (.sl (.flt .f32))))))) a1] [⟨false, .bool, r⟩] [] := by
  unfold laws_eqModel at hr
  refine CallOK.of_body (ts := [(false, .bool)]) Try.func16 rfl (by kernel_rfl) (Nat.le_of_ble_eq_true (by kernel_rfl)) fun cx hP hN hO hF => ?_
  have hO : cx.own.map Prod.fst = [] := hO
  have hF := hF rfl
  show HT cx ⟨[(0, .agg [.dat (.int .i64) a0.1, .dat (.int .i64) a0.2.1, .dat (.sl (.flt .f32)) a0.2.2.1, .dat (.sl (.flt .f32)) a0.2.2.2.1, .dat (.sl (.flt .f32)) a0.2.2.2.2]), (1, .agg [.dat (.int .i64) a1.1, .dat (.int .i64) a1.2.1, .dat (.sl (.flt .f32)) a1.2.2.1, .dat (.sl (.flt .f32)) a1.2.2.2.1, .dat (.sl (.flt .f32)) a1.2.2.2.2])], [], 0⟩ _ _
  refine HT.reg1 [2, 3] [⟨none, .no⟩, ⟨none, .no⟩, ⟨none, .no⟩] ⟨[(2, .one (.ptr 0 0)), (3, .one (.ptr 1 0))], [(1, .box [.dat (.int .i64) a1.1, .dat (.int .i64) a1.2.1, .dat (.sl (.flt .f32)) a1.2.2.1, .dat (.sl (.flt .f32)) a1.2.2.2.1, .dat (.sl (.flt .f32)) a1.2.2.2.2]), (0, .box [.dat (.int .i64) a0.1, .dat (.int .i64) a0.2.1, .dat (.sl (.flt .f32)) a0.2.2.1, .dat (.sl (.flt .f32)) a0.2.2.2.1, .dat (.sl (.flt .f32)) a0.2.2.2.2])], 2⟩ hP hN (by kernel_rfl) allNil ?_
  refine HT.seq ?_
  refine HT.reg1 [2, 3, 9] [⟨none, .no⟩, ⟨none, .no⟩, ⟨none, .no⟩, ⟨none, .no⟩, ⟨none, .no⟩] ⟨[(2, .one (.ptr 0 0)), (3, .one (.ptr 1 0)), (9, .one (.dat .bool (a0.1 != a1.1)))], [(1, .box [.dat (.int .i64) a1.1, .dat (.int .i64) a1.2.1, .dat (.sl (.flt .f32)) a1.2.2.1, .dat (.sl (.flt .f32)) a1.2.2.2.1, .dat (.sl (.flt .f32)) a1.2.2.2.2]), (0, .box [.dat (.int .i64) a0.1, .dat (.int .i64) a0.2.1, .dat (.sl (.flt .f32)) a0.2.2.1, .dat (.sl (.flt .f32)) a0.2.2.2.1, .dat (.sl (.flt .f32)) a0.2.2.2.2])], 2⟩ hP hN (by kernel_rfl) allNil ?_
  rcases of_bif hr with ⟨hb1, hr⟩ | ⟨hb1, hr⟩
  · refine HT.cond1 rfl hb1 ?_
    refine HT.reg1 [4] [⟨none, .no⟩] ⟨[(4, .one (.dat .bool false))], [(1, .box [.dat (.int .i64) a1.1, .dat (.int .i64) a1.2.1, .dat (.sl (.flt .f32)) a1.2.2.1, .dat (.sl (.flt .f32)) a1.2.2.2.1, .dat (.sl (.flt .f32)) a1.2.2.2.2]), (0, .box [.dat (.int .i64) a0.1, .dat (.int .i64) a0.2.1, .dat (.sl (.flt .f32)) a0.2.2.1, .dat (.sl (.flt .f32)) a0.2.2.2.1, .dat (.sl (.flt .f32)) a0.2.2.2.2])], 2⟩ hP hN (by kernel_rfl) allNil ?_
    have hr := of_some hr
    subst hr
    exact HT.ret (qThenR ⟨[.one (.dat .bool false)], [], [], by kernel_rfl, by kernel_rfl, rfl, by kernel_rfl, by kernel_rfl, trivial⟩)
  · refine HT.cond0 rfl hb1 ?_
    refine HT.skip (qThen ?_)
    refine HT.seq ?_
    refine HT.reg1 [2, 3, 14] [⟨none, .no⟩, ⟨none, .no⟩, ⟨none, .no⟩, ⟨none, .no⟩, ⟨none, .no⟩] ⟨[(2, .one (.ptr 0 0)), (3, .one (.ptr 1 0)), (14, .one (.dat .bool (a0.2.1 != a1.2.1)))], [(1, .box [.dat (.int .i64) a1.1, .dat (.int .i64) a1.2.1, .dat (.sl (.flt .f32)) a1.2.2.1, .dat (.sl (.flt .f32)) a1.2.2.2.1, .dat (.sl (.flt .f32)) a1.2.2.2.2]), (0, .box [.dat (.int .i64) a0.1, .dat (.int .i64) a0.2.1, .dat (.sl (.flt .f32)) a0.2.2.1, .dat (.sl (.flt .f32)) a0.2.2.2.1, .dat (.sl (.flt .f32)) a0.2.2.2.2])], 2⟩ hP hN (by kernel_rfl) allNil ?_
    rcases of_bif hr with ⟨hb2, hr⟩ | ⟨hb2, hr⟩
    · refine HT.cond1 rfl hb2 ?_
      refine HT.reg1 [4] [⟨none, .no⟩] ⟨[(4, .one (.dat .bool false))], [(1, .box [.dat (.int .i64) a1.1, .dat (.int .i64) a1.2.1, .dat (.sl (.flt .f32)) a1.2.2.1, .dat (.sl (.flt .f32)) a1.2.2.2.1, .dat (.sl (.flt .f32)) a1.2.2.2.2]), (0, .box [.dat (.int .i64) a0.1, .dat (.int .i64) a0.2.1, .dat (.sl (.flt .f32)) a0.2.2.1, .dat (.sl (.flt .f32)) a0.2.2.2.1, .dat (.sl (.flt .f32)) a0.2.2.2.2])], 2⟩ hP hN (by kernel_rfl) allNil ?_
      have hr := of_some hr
      subst hr
      exact HT.ret (qThenR ⟨[.one (.dat .bool false)], [], [], by kernel_rfl, by kernel_rfl, rfl, by kernel_rfl, by kernel_rfl, trivial⟩)
    · refine HT.cond0 rfl hb2 ?_
      refine HT.skip (qThen ?_)
      refine HT.seq ?_
      obtain ⟨y3, hc4, hr⟩ := of_bind hr
      refine HT.reg1 [2, 3, 20] [⟨none, .no⟩, ⟨none, .no⟩, ⟨none, .no⟩, ⟨none, .no⟩, ⟨none, .call [.imm (.sl (.flt .f32)), .imm (.sl (.flt .f32))] [⟨false, .bool, y3⟩] []⟩, ⟨none, .no⟩] ⟨[(2, .one (.ptr 0 0)), (3, .one (.ptr 1 0)), (20, .one (.dat .bool (!y3)))], [(1, .box [.dat (.int .i64) a1.1, .dat (.int .i64) a1.2.1, .dat (.sl (.flt .f32)) a1.2.2.1, .dat (.sl (.flt .f32)) a1.2.2.2.1, .dat (.sl (.flt .f32)) a1.2.2.2.2]), (0, .box [.dat (.int .i64) a0.1, .dat (.int .i64) a0.2.1, .dat (.sl (.flt .f32)) a0.2.2.1, .dat (.sl (.flt .f32)) a0.2.2.2.1, .dat (.sl (.flt .f32)) a0.2.2.2.2])], 2⟩ hP hN (by kernel_rfl) (allCons (f15_ok hc4) allNil) ?_
      rcases of_bif hr with ⟨hb5, hr⟩ | ⟨hb5, hr⟩
      · refine HT.cond1 rfl hb5 ?_
        refine HT.reg1 [4] [⟨none, .no⟩] ⟨[(4, .one (.dat .bool false))], [(1, .box [.dat (.int .i64) a1.1, .dat (.int .i64) a1.2.1, .dat (.sl (.flt .f32)) a1.2.2.1, .dat (.sl (.flt .f32)) a1.2.2.2.1, .dat (.sl (.flt .f32)) a1.2.2.2.2]), (0, .box [.dat (.int .i64) a0.1, .dat (.int .i64) a0.2.1, .dat (.sl (.flt .f32)) a0.2.2.1, .dat (.sl (.flt .f32)) a0.2.2.2.1, .dat (.sl (.flt .f32)) a0.2.2.2.2])], 2⟩ hP hN (by kernel_rfl) allNil ?_
        have hr := of_some hr
        subst hr
        exact HT.ret (qThenR ⟨[.one (.dat .bool false)], [], [], by kernel_rfl, by kernel_rfl, rfl, by kernel_rfl, by kernel_rfl, trivial⟩)
      · refine HT.cond0 rfl hb5 ?_
        refine HT.skip (qThen ?_)
        refine HT.seq ?_
        obtain ⟨y6, hc7, hr⟩ := of_bind hr
        refine HT.reg1 [2, 3, 26] [⟨none, .no⟩, ⟨none, .no⟩, ⟨none, .no⟩, ⟨none, .no⟩, ⟨none, .call [.imm (.sl (.flt .f32)), .imm (.sl (.flt .f32))] [⟨false, .bool, y6⟩] []⟩, ⟨none, .no⟩] ⟨[(2, .one (.ptr 0 0)), (3, .one (.ptr 1 0)), (26, .one (.dat .bool (!y6)))], [(1, .box [.dat (.int .i64) a1.1, .dat (.int .i64) a1.2.1, .dat (.sl (.flt .f32)) a1.2.2.1, .dat (.sl (.flt .f32)) a1.2.2.2.1, .dat (.sl (.flt .f32)) a1.2.2.2.2]), (0, .box [.dat (.int .i64) a0.1, .dat (.int .i64) a0.2.1, .dat (.sl (.flt .f32)) a0.2.2.1, .dat (.sl (.flt .f32)) a0.2.2.2.1, .dat (.sl (.flt .f32)) a0.2.2.2.2])], 2⟩ hP hN (by kernel_rfl) (allCons (f15_ok hc7) allNil) ?_
        rcases of_bif hr with ⟨hb8, hr⟩ | ⟨hb8, hr⟩
        · refine HT.cond1 rfl hb8 ?_
          refine HT.reg1 [4] [⟨none, .no⟩] ⟨[(4, .one (.dat .bool false))], [(1, .box [.dat (.int .i64) a1.1, .dat (.int .i64) a1.2.1, .dat (.sl (.flt .f32)) a1.2.2.1, .dat (.sl (.flt .f32)) a1.2.2.2.1, .dat (.sl (.flt .f32)) a1.2.2.2.2]), (0, .box [.dat (.int .i64) a0.1, .dat (.int .i64) a0.2.1, .dat (.sl (.flt .f32)) a0.2.2.1, .dat (.sl (.flt .f32)) a0.2.2.2.1, .dat (.sl (.flt .f32)) a0.2.2.2.2])], 2⟩ hP hN (by kernel_rfl) allNil ?_
          have hr := of_some hr
          subst hr
          exact HT.ret (qThenR ⟨[.one (.dat .bool false)], [], [], by kernel_rfl, by kernel_rfl, rfl, by kernel_rfl, by kernel_rfl, trivial⟩)
        · refine HT.cond0 rfl hb8 ?_
          refine HT.skip (qThen ?_)
          refine HT.seq ?_
          obtain ⟨y9, hc10, hr⟩ := of_bind hr
          refine HT.reg1 [32] [⟨none, .no⟩, ⟨none, .no⟩, ⟨none, .no⟩, ⟨none, .no⟩, ⟨none, .call [.imm (.sl (.flt .f32)), .imm (.sl (.flt .f32))] [⟨false, .bool, y9⟩] []⟩, ⟨none, .no⟩] ⟨[(32, .one (.dat .bool (!y9)))], [(1, .box [.dat (.int .i64) a1.1, .dat (.int .i64) a1.2.1, .dat (.sl (.flt .f32)) a1.2.2.1, .dat (.sl (.flt .f32)) a1.2.2.2.1, .dat (.sl (.flt .f32)) a1.2.2.2.2]), (0, .box [.dat (.int .i64) a0.1, .dat (.int .i64) a0.2.1, .dat (.sl (.flt .f32)) a0.2.2.1, .dat (.sl (.flt .f32)) a0.2.2.2.1, .dat (.sl (.flt .f32)) a0.2.2.2.2])], 2⟩ hP hN (by kernel_rfl) (allCons (f15_ok hc10) allNil) ?_
          rcases of_bif hr with ⟨hb11, hr⟩ | ⟨hb11, hr⟩
          · refine HT.cond1 rfl hb11 ?_
            refine HT.reg1 [4] [⟨none, .no⟩] ⟨[(4, .one (.dat .bool false))], [(1, .box [.dat (.int .i64) a1.1, .dat (.int .i64) a1.2.1, .dat (.sl (.flt .f32)) a1.2.2.1, .dat (.sl (.flt .f32)) a1.2.2.2.1, .dat (.sl (.flt .f32)) a1.2.2.2.2]), (0, .box [.dat (.int .i64) a0.1, .dat (.int .i64) a0.2.1, .dat (.sl (.flt .f32)) a0.2.2.1, .dat (.sl (.flt .f32)) a0.2.2.2.1, .dat (.sl (.flt .f32)) a0.2.2.2.2])], 2⟩ hP hN (by kernel_rfl) allNil ?_
            have hr := of_some hr
            subst hr
            exact HT.ret (qThenR ⟨[.one (.dat .bool false)], [], [], by kernel_rfl, by kernel_rfl, rfl, by kernel_rfl, by kernel_rfl, trivial⟩)
          · refine HT.cond0 rfl hb11 ?_
            refine HT.skip (qThen ?_)
            refine HT.reg1 [4] [⟨none, .no⟩] ⟨[(4, .one (.dat .bool true))], [(1, .box [.dat (.int .i64) a1.1, .dat (.int .i64) a1.2.1, .dat (.sl (.flt .f32)) a1.2.2.1, .dat (.sl (.flt .f32)) a1.2.2.2.1, .dat (.sl (.flt .f32)) a1.2.2.2.2]), (0, .box [.dat (.int .i64) a0.1, .dat (.int .i64) a0.2.1, .dat (.sl (.flt .f32)) a0.2.2.1, .dat (.sl (.flt .f32)) a0.2.2.2.1, .dat (.sl (.flt .f32)) a0.2.2.2.2])], 2⟩ hP hN (by kernel_rfl) allNil ?_
            have hr := of_some hr
            subst hr
            exact HT.ret ⟨[.one (.dat .bool true)], [], [], by kernel_rfl, by kernel_rfl, rfl, by kernel_rfl, by kernel_rfl, trivial⟩

noncomputable def laws_eqInt64S_B1 (a0 : List Int) (a1 : List Int) (s2 : Int) : Option ((Int) ⊕ (Unit ⊕ Unit)) :=
  bif (decide (s2 < (lenI a0))) then
    guardP ((0 : Int) ≤ s2 ∧ s2 < lenI a0) (
      guardP ((0 : Int) ≤ s2 ∧ s2 < lenI a1) (
        bif ((List.getD a0 (Int.toNat s2) (0 : Int)) != (List.getD a1 (Int.toNat s2) (0 : Int))) then
          some (.inr (.inr ()))
        else
          some (.inl (wadd .i64 s2 (1 : Int)))))
  else
    some (.inr (.inl ()))

noncomputable def laws_eqInt64S (a0 : List Int) (a1 : List Int) : Option (Bool) :=
  bif ((lenI a0) != (lenI a1)) then
    some false
  else
    (rounds (laws_eqInt64S_B1 a0 a1) (0 : Int)).bind fun r3 => match r3 with
      | .inl r4 =>
        some true
      | .inr r5 =>
        some false

theorem f17_ok {a0 : List Int} {a1 : List Int} {r : Bool} (hr : laws_eqInt64S a0 a1 = some r) : CallOK Try.prog 17 [.imm (.sl (.int .i64)) a0, .imm (.sl (.int .i64)) a1] [⟨false, .bool, r⟩] [] := by
  unfold laws_eqInt64S at hr
  refine CallOK.of_body (ts := [(false, .bool)]) Try.func17 rfl (by kernel_rfl) (Nat.le_of_ble_eq_true (by kernel_rfl)) fun cx hP hN hO hF => ?_
  have hO : cx.own.map Prod.fst = [] := hO
  have hF := hF rfl
  show HT cx ⟨[(0, .one (.dat (.sl (.int .i64)) a0)), (1, .one (.dat (.sl (.int .i64)) a1))], [], 0⟩ _ _
  refine HT.reg1 [0, 1] [⟨none, .no⟩] ⟨[(0, .one (.dat (.sl (.int .i64)) a0)), (1, .one (.dat (.sl (.int .i64)) a1))], [], 0⟩ hP hN (by kernel_rfl) allNil ?_
  refine HT.seq ?_
  refine HT.reg1 [0, 1, 10] [⟨none, .no⟩, ⟨none, .no⟩, ⟨none, .no⟩, ⟨none, .no⟩, ⟨none, .no⟩] ⟨[(0, .one (.dat (.sl (.int .i64)) a0)), (1, .one (.dat (.sl (.int .i64)) a1)), (10, .one (.dat .bool ((lenI a0) != (lenI a1))))], [], 0⟩ hP hN (by kernel_rfl) allNil ?_
  rcases of_bif hr with ⟨hb1, hr⟩ | ⟨hb1, hr⟩
  · refine HT.cond1 rfl hb1 ?_
    refine HT.reg1 [4] [⟨none, .no⟩] ⟨[(4, .one (.dat .bool false))], [], 0⟩ hP hN (by kernel_rfl) allNil ?_
    have hr := of_some hr
    subst hr
    exact HT.ret (qThenR ⟨[.one (.dat .bool false)], [], [], by kernel_rfl, by kernel_rfl, rfl, by kernel_rfl, by kernel_rfl, trivial⟩)
  · refine HT.cond0 rfl hb1 ?_
    refine HT.skip (qThen ?_)
    refine HT.seq ?_
    refine HT.reg1 [0, 1, 5] [⟨none, .no⟩] ⟨[(0, .one (.dat (.sl (.int .i64)) a0)), (1, .one (.dat (.sl (.int .i64)) a1)), (5, .one (.dat (.int .i64) (0 : Int)))], [], 0⟩ hP hN (by kernel_rfl) allNil ?_
    refine HT.block ?_
    obtain ⟨r3, hL13, hr⟩ := of_bind hr
    refine (Le.cv (s := ⟨[], [], [], false⟩) (own := []) (ps := [a0 = a0, a1 = a1, (0 : Int) = (0 : Int)]) (st' := ⟨[(0, .one (.dat (.sl (.int .i64)) a0)), (1, .one (.dat (.sl (.int .i64)) a1)), (5, .one (.dat (.int .i64) (0 : Int)))], [], 0⟩) hO (fun h => by cases h) (by kernel_rfl) ⟨rfl, rfl, rfl, trivial⟩).ht ?_
    refine HT.loopE (s := (0 : Int)) (fun (s2 : Int) => ⟨[(0, .one (.dat (.sl (.int .i64)) a0)), (1, .one (.dat (.sl (.int .i64)) a1)), (5, .one (.dat (.int .i64) s2))], [], 0⟩) (fun (r3 : Unit ⊕ Unit) => match r3 with | .inl r4 => (.exit 0, ⟨[], [], 0⟩) | .inr r5 => (.ret, ⟨[(4, .one (.dat .bool false))], [], 0⟩)) hL13 ?_ (fun s2 x6 hx7 hk8 => ?_)
    · rcases r3 with r4 | r5
      · refine (qBlockX (qThen ?_))
        refine HT.reg1 [4] [⟨none, .no⟩] ⟨[(4, .one (.dat .bool true))], [], 0⟩ hP hN (by kernel_rfl) allNil ?_
        have hr := of_some hr
        subst hr
        exact HT.ret ⟨[.one (.dat .bool true)], [], [], by kernel_rfl, by kernel_rfl, rfl, by kernel_rfl, by kernel_rfl, trivial⟩
      · have hr := of_some hr
        subst hr
        exact (qBlockR (qThenR ⟨[.one (.dat .bool false)], [], [], by kernel_rfl, by kernel_rfl, rfl, by kernel_rfl, by kernel_rfl, trivial⟩))
    · refine HT.seq ?_
      refine HT.reg1 [0, 1, 5, 14] [⟨none, .no⟩, ⟨none, .no⟩, ⟨none, .no⟩, ⟨none, .no⟩] ⟨[(0, .one (.dat (.sl (.int .i64)) a0)), (1, .one (.dat (.sl (.int .i64)) a1)), (5, .one (.dat (.int .i64) s2)), (14, .one (.dat .bool (decide (s2 < (lenI a0)))))], [], 0⟩ hP hN (by kernel_rfl) allNil ?_
      rcases of_bif hx7 with ⟨hb9, hx7⟩ | ⟨hb9, hx7⟩
      · refine HT.cond1 rfl hb9 ?_
        refine HT.skip (qThen ?_)
        refine HT.seq ?_
        refine HT.block ?_
        obtain ⟨hg10, hx7⟩ := of_guard hx7
        obtain ⟨hg11, hx7⟩ := of_guard hx7
        refine HT.drw1 [0, 1, 5, 25] 8 [⟨⟨none, .no⟩, []⟩, ⟨⟨none, .no⟩, []⟩, ⟨⟨none, .no⟩, [0, 1]⟩, ⟨⟨none, .no⟩, [0, 1, 2]⟩, ⟨⟨none, .no⟩, []⟩, ⟨⟨none, .no⟩, []⟩, ⟨⟨none, .no⟩, [4, 5]⟩, ⟨⟨none, .no⟩, [4, 5, 6]⟩] [[0, 1, 2, 3, 4, 5, 6, 7]] [⟨none, .no⟩] ⟨[(0, .one (.dat (.sl (.int .i64)) a0)), (1, .one (.dat (.sl (.int .i64)) a1)), (5, .one (.dat (.int .i64) s2)), (25, .one (.dat .bool ((List.getD a0 (Int.toNat s2) (0 : Int)) != (List.getD a1 (Int.toNat s2) (0 : Int)))))], [], 0⟩ hP hN (by kernel_rfl) (by kernel_rfl) (allCons hg10 (allCons hg11 allNil)) ?_
        rcases of_bif hx7 with ⟨hb12, hx7⟩ | ⟨hb12, hx7⟩
        · refine HT.cond1 rfl hb12 ?_
          refine HT.reg1 [4] [⟨none, .no⟩] ⟨[(4, .one (.dat .bool false))], [], 0⟩ hP hN (by kernel_rfl) allNil ?_
          have hx7 := of_some hx7
          subst hx7
          refine (Le.cv (s := ⟨[], [], [], false⟩) (own := []) (ps := [false = false]) (st' := ⟨[(4, .one (.dat .bool false))], [], 0⟩) hO (fun h => by cases h) (by kernel_rfl) ⟨rfl, trivial⟩).ht ?_
          exact HT.ret (qBlockR (qThenR (qLoopR (hk8 (.inr ()) rfl))))
        · refine HT.cond0 rfl hb12 ?_
          refine HT.skip (qBlock (qThen ?_))
          have hx7 := of_some hx7
          subst hx7
          refine HT.reg (rs := [⟨none, .no⟩, ⟨none, .no⟩, ⟨none, .no⟩]) (st' := ⟨[(5, .one (.dat (.int .i64) (wadd .i64 s2 (1 : Int)))), (16, .one (.dat (.int .i64) (wadd .i64 s2 (1 : Int)))), (15, .one (.dat (.int .i64) s2)), (0, .one (.dat (.sl (.int .i64)) a0)), (1, .one (.dat (.sl (.int .i64)) a1)), (5, .one (.dat (.int .i64) s2)), (25, .one (.dat .bool ((List.getD a0 (Int.toNat s2) (0 : Int)) != (List.getD a1 (Int.toNat s2) (0 : Int)))))], [], 0⟩) hP hN (by kernel_rfl) allNil (qLoopN ⟨(wadd .i64 s2 (1 : Int)), rfl, Le.cv (s := ⟨[], [], [], false⟩) (own := []) (ps := [a0 = a0, a1 = a1, (wadd .i64 s2 (1 : Int)) = (wadd .i64 s2 (1 : Int))]) (st' := ⟨[(0, .one (.dat (.sl (.int .i64)) a0)), (1, .one (.dat (.sl (.int .i64)) a1)), (5, .one (.dat (.int .i64) (wadd .i64 s2 (1 : Int))))], [], 0⟩) hO (fun h => by cases h) (by kernel_rfl) ⟨rfl, rfl, rfl, trivial⟩⟩)
      · refine HT.cond0 rfl hb9 ?_
        have hx7 := of_some hx7
        subst hx7
        refine (Le.cv (s := ⟨[], [], [], false⟩) (own := []) (ps := []) (st' := ⟨[], [], 0⟩) hO (fun h => by cases h) (by kernel_rfl) trivial).ht ?_
        exact HT.exit (qThenE (qLoopE (hk8 (.inl ()) rfl)))

noncomputable def laws_markFloat32S_B1  (s1 : Int × Int × List Nat) : Option ((Int × Int × List Nat) ⊕ ((Int × List Nat))) :=
  bif (decide (s1.2.1 < (lenI s1.2.2))) then
    guardP ((0 : Int) ≤ s1.2.1 ∧ s1.2.1 < lenI s1.2.2) (
      some (.inl ((wadd .i64 s1.1 (1 : Int)), (wadd .i64 s1.2.1 (1 : Int)), (List.set s1.2.2 (Int.toNat s1.2.1) (fofint .f32 s1.1)))))
  else
    some (.inr (s1.1, s1.2.2))

noncomputable def laws_markFloat32S (a0 : List Nat) (a1 : Int) : Option (Int × List Nat) :=
  (rounds (laws_markFloat32S_B1) (a1, (0 : Int), a0)).bind fun r3 =>
  guardP (List.length r3.2 = List.length a0) (
    some (r3.1, r3.2))

theorem f20_ok {a0 : List Nat} {a1 : Int} {r : Int × List Nat} (hr : laws_markFloat32S a0 a1 = some r) : CallOK Try.prog 20 [.own (.sl (.flt .f32)) a0, .imm (.int .i64) a1] [⟨false, (.int .i64), r.1⟩] [⟨(.sl (.flt .f32)), r.2⟩] := by
  unfold laws_markFloat32S at hr
  refine CallOK.of_body (ts := [(false, (.int .i64))]) Try.func20 rfl (by kernel_rfl) (Nat.le_of_ble_eq_true (by kernel_rfl)) fun cx hP hN hO hF => ?_
  have hO : cx.own.map Prod.fst = [0] := hO
  have hF := hF rfl
  show HT cx ⟨[(0, .one (.all 0)), (1, .one (.dat (.int .i64) a1))], [(0, .seq (.flt .f32) a0)], 1⟩ _ _
  refine HT.reg1 [0, 1] [⟨none, .no⟩] ⟨[(0, .one (.all 0)), (1, .one (.dat (.int .i64) a1))], [(0, .seq (.flt .f32) a0)], 1⟩ hP hN (by kernel_rfl) allNil ?_
  refine HT.seq ?_
  refine HT.reg1 [0, 1, 5] [⟨none, .no⟩] ⟨[(0, .one (.all 0)), (1, .one (.dat (.int .i64) a1)), (5, .one (.dat (.int .i64) (0 : Int)))], [(0, .seq (.flt .f32) a0)], 1⟩ hP hN (by kernel_rfl) allNil ?_
  refine HT.block ?_
  obtain ⟨r2, hL10, hr⟩ := of_bind hr
  refine (Le.cv (s := ⟨[(0, 0)], [], [], false⟩) (own := [0]) (ps := [a1 = a1, (0 : Int) = (0 : Int), a0 = a0]) (st' := ⟨[(0, .one (.all 0)), (1, .one (.dat (.int .i64) a1)), (5, .one (.dat (.int .i64) (0 : Int)))], [(0, .seq (.flt .f32) a0)], 1⟩) hO (fun h => by cases h) (by kernel_rfl) ⟨rfl, rfl, rfl, trivial⟩).ht ?_
  refine HT.loopE (s := (a1, (0 : Int), a0)) (fun (s1 : Int × Int × List Nat) => ⟨[(0, .one (.all 0)), (1, .one (.dat (.int .i64) s1.1)), (5, .one (.dat (.int .i64) s1.2.1))], [(0, .seq (.flt .f32) s1.2.2)], 1⟩) (fun (r3 : (Int × List Nat)) => (.exit 0, ⟨[(1, .one (.dat (.int .i64) r3.1))], [(0, .seq (.flt .f32) r3.2)], 1⟩)) hL10 ?_ (fun s1 x5 hx6 hk7 => ?_)
  · refine (qBlockX (qThen ?_))
    refine HT.reg1 [4] [⟨none, .no⟩, ⟨none, .no⟩] ⟨[(4, .one (.dat (.int .i64) r2.1))], [(0, .seq (.flt .f32) r2.2)], 1⟩ hP hN (by kernel_rfl) allNil ?_
    obtain ⟨hg4, hr⟩ := of_guard hr
    have hr := of_some hr
    subst hr
    exact HT.ret ⟨[.one (.dat (.int .i64) r2.1)], [], [List.length r2.2 = List.length a0], by kernel_rfl, by kernel_rfl, rfl, by kernel_rfl, by kernel_rfl, ⟨hg4, trivial⟩⟩
  · refine HT.seq ?_
    refine HT.reg1 [0, 1, 5, 9] [⟨none, .no⟩, ⟨none, .no⟩, ⟨none, .no⟩, ⟨none, .no⟩] ⟨[(0, .one (.all 0)), (1, .one (.dat (.int .i64) s1.1)), (5, .one (.dat (.int .i64) s1.2.1)), (9, .one (.dat .bool (decide (s1.2.1 < (lenI s1.2.2)))))], [(0, .seq (.flt .f32) s1.2.2)], 1⟩ hP hN (by kernel_rfl) allNil ?_
    rcases of_bif hx6 with ⟨hb8, hx6⟩ | ⟨hb8, hx6⟩
    · refine HT.cond1 rfl hb8 ?_
      refine HT.skip (qThen ?_)
      refine HT.seq ?_
      refine HT.block ?_
      obtain ⟨hg9, hx6⟩ := of_guard hx6
      refine HT.reg1 [0, 1, 5] [⟨none, .no⟩, ⟨none, .no⟩, ⟨none, .no⟩, ⟨none, .no⟩, ⟨none, .no⟩, ⟨none, .no⟩] ⟨[(0, .one (.all 0)), (1, .one (.dat (.int .i64) s1.1)), (5, .one (.dat (.int .i64) s1.2.1))], [(0, .seq (.flt .f32) (List.set s1.2.2 (Int.toNat s1.2.1) (fofint .f32 s1.1))), (0, .seq (.flt .f32) s1.2.2)], 1⟩ hP hN (by kernel_rfl) (allCons hg9 (allCons (natLt hg9) allNil)) ?_
      refine HT.reg (rs := [⟨none, .no⟩, ⟨none, .no⟩, ⟨none, .no⟩]) (st' := ⟨[(1, .one (.dat (.int .i64) (wadd .i64 s1.1 (1 : Int)))), (18, .one (.dat (.int .i64) (wadd .i64 s1.1 (1 : Int)))), (17, .one (.dat (.int .i64) s1.1)), (0, .one (.all 0)), (1, .one (.dat (.int .i64) s1.1)), (5, .one (.dat (.int .i64) s1.2.1))], [(0, .seq (.flt .f32) (List.set s1.2.2 (Int.toNat s1.2.1) (fofint .f32 s1.1))), (0, .seq (.flt .f32) s1.2.2)], 1⟩) hP hN (by kernel_rfl) allNil (qBlock (qThen ?_))
      have hx6 := of_some hx6
      subst hx6
      refine HT.reg (rs := [⟨none, .no⟩, ⟨none, .no⟩, ⟨none, .no⟩]) (st' := ⟨[(5, .one (.dat (.int .i64) (wadd .i64 s1.2.1 (1 : Int)))), (11, .one (.dat (.int .i64) (wadd .i64 s1.2.1 (1 : Int)))), (10, .one (.dat (.int .i64) s1.2.1)), (1, .one (.dat (.int .i64) (wadd .i64 s1.1 (1 : Int)))), (18, .one (.dat (.int .i64) (wadd .i64 s1.1 (1 : Int)))), (17, .one (.dat (.int .i64) s1.1)), (0, .one (.all 0)), (1, .one (.dat (.int .i64) s1.1)), (5, .one (.dat (.int .i64) s1.2.1))], [(0, .seq (.flt .f32) (List.set s1.2.2 (Int.toNat s1.2.1) (fofint .f32 s1.1))), (0, .seq (.flt .f32) s1.2.2)], 1⟩) hP hN (by kernel_rfl) allNil (qLoopN ⟨((wadd .i64 s1.1 (1 : Int)), (wadd .i64 s1.2.1 (1 : Int)), (List.set s1.2.2 (Int.toNat s1.2.1) (fofint .f32 s1.1))), rfl, Le.cv (s := ⟨[(0, 0)], [], [], false⟩) (own := [0]) (ps := [(wadd .i64 s1.1 (1 : Int)) = (wadd .i64 s1.1 (1 : Int)), (wadd .i64 s1.2.1 (1 : Int)) = (wadd .i64 s1.2.1 (1 : Int)), (List.set s1.2.2 (Int.toNat s1.2.1) (fofint .f32 s1.1)) = (List.set s1.2.2 (Int.toNat s1.2.1) (fofint .f32 s1.1))]) (st' := ⟨[(0, .one (.all 0)), (1, .one (.dat (.int .i64) (wadd .i64 s1.1 (1 : Int)))), (5, .one (.dat (.int .i64) (wadd .i64 s1.2.1 (1 : Int))))], [(0, .seq (.flt .f32) (List.set s1.2.2 (Int.toNat s1.2.1) (fofint .f32 s1.1)))], 1⟩) hO (fun h => by cases h) (by kernel_rfl) ⟨rfl, rfl, rfl, trivial⟩⟩)
    · refine HT.cond0 rfl hb8 ?_
      have hx6 := of_some hx6
      subst hx6
      refine (Le.cv (s := ⟨[(0, 0)], [], [], false⟩) (own := [0]) (ps := [s1.1 = s1.1, s1.2.2 = s1.2.2]) (st' := ⟨[(1, .one (.dat (.int .i64) s1.1))], [(0, .seq (.flt .f32) s1.2.2)], 1⟩) hO (fun h => by cases h) (by kernel_rfl) ⟨rfl, rfl, trivial⟩).ht ?_
      exact HT.exit (qThenE (qLoopE (hk7 (s1.1, s1.2.2) rfl)))

noncomputable def laws_markModel (a0 : Int × Int × List Nat × List Nat × List Nat) (a1 : Int) : Option (Int × (Int × Int × List Nat × List Nat × List Nat)) :=
  (laws_markFloat32S a0.2.2.1 a1).bind fun y1 =>
  (laws_markFloat32S a0.2.2.2.1 y1.1).bind fun y3 =>
  (laws_markFloat32S a0.2.2.2.2 y3.1).bind fun y5 =>
  guardP (List.length y1.2 = List.length a0.2.2.1) (
    guardP (List.length y3.2 = List.length a0.2.2.2.1) (
      guardP (List.length y5.2 = List.length a0.2.2.2.2) (
        some (y5.1, a0.1, a0.2.1, y1.2, y3.2, y5.2))))

theorem f18_ok {a0 : Int × Int × List Nat × List Nat × List Nat} {a1 : Int} {r : Int × (Int × Int × List Nat × List Nat × List Nat)} (hr : laws_markModel a0 a1 = some r) : CallOK Try.prog 18 [.own (.st (.pair (.int .i64) (.pair (.int .i64) (.pair (.sl (.flt .f32)) (.pair (.sl (.flt .f32)) (.sl (.flt .f32))))))) a0, .imm (.int .i64) a1] [⟨false, (.int .i64), r.1⟩] [⟨(.st (.pair (.int .i64) (.pair (.int .i64) (.pair (.sl (.flt .f32)) (.pair (.sl (.flt .f32)) (.sl (.flt .f32))))))), r.2⟩] := by
  unfold laws_markModel at hr
  refine CallOK.of_body (ts := [(false, (.int .i64))]) Try.func18 rfl (by kernel_rfl) (Nat.le_of_ble_eq_true (by kernel_rfl)) fun cx hP hN hO hF => ?_
  have hO : cx.own.map Prod.fst = [0, 1, 2] := hO
  have hF := hF rfl
  show HT cx ⟨[(0, .agg [.dat (.int .i64) a0.1, .dat (.int .i64) a0.2.1, .all 0, .all 1, .all 2]), (1, .one (.dat (.int .i64) a1))], [(0, .seq (.flt .f32) a0.2.2.1), (1, .seq (.flt .f32) a0.2.2.2.1), (2, .seq (.flt .f32) a0.2.2.2.2)], 3⟩ _ _
  refine HT.reg1 [1, 2] [⟨none, .no⟩, ⟨none, .no⟩] ⟨[(1, .one (.dat (.int .i64) a1)), (2, .one (.ptr 3 0))], [(3, .box [.dat (.int .i64) a0.1, .dat (.int .i64) a0.2.1, .all 0, .all 1, .all 2]), (0, .seq (.flt .f32) a0.2.2.1), (1, .seq (.flt .f32) a0.2.2.2.1), (2, .seq (.flt .f32) a0.2.2.2.2)], 4⟩ hP hN (by kernel_rfl) allNil ?_
  obtain ⟨y1, hc2, hr⟩ := of_bind hr
  refine HT.reg1 [1, 2] [⟨none, .no⟩, ⟨none, .no⟩, ⟨none, .no⟩, ⟨none, .call [.own (.sl (.flt .f32)), .imm (.int .i64)] [⟨false, (.int .i64), y1.1⟩] [⟨(.sl (.flt .f32)), y1.2⟩]⟩, ⟨none, .no⟩] ⟨[(1, .one (.dat (.int .i64) y1.1)), (2, .one (.ptr 3 0))], [(0, .seq (.flt .f32) y1.2), (3, .box [.dat (.int .i64) a0.1, .dat (.int .i64) a0.2.1, .all 0, .all 1, .all 2]), (0, .seq (.flt .f32) a0.2.2.1), (1, .seq (.flt .f32) a0.2.2.2.1), (2, .seq (.flt .f32) a0.2.2.2.2)], 4⟩ hP hN (by kernel_rfl) (allCons (f20_ok hc2) allNil) ?_
  obtain ⟨y3, hc4, hr⟩ := of_bind hr
  refine HT.reg1 [1, 2] [⟨none, .no⟩, ⟨none, .no⟩, ⟨none, .no⟩, ⟨none, .call [.own (.sl (.flt .f32)), .imm (.int .i64)] [⟨false, (.int .i64), y3.1⟩] [⟨(.sl (.flt .f32)), y3.2⟩]⟩, ⟨none, .no⟩] ⟨[(1, .one (.dat (.int .i64) y3.1)), (2, .one (.ptr 3 0))], [(1, .seq (.flt .f32) y3.2), (0, .seq (.flt .f32) y1.2), (3, .box [.dat (.int .i64) a0.1, .dat (.int .i64) a0.2.1, .all 0, .all 1, .all 2]), (0, .seq (.flt .f32) a0.2.2.1), (1, .seq (.flt .f32) a0.2.2.2.1), (2, .seq (.flt .f32) a0.2.2.2.2)], 4⟩ hP hN (by kernel_rfl) (allCons (f20_ok hc4) allNil) ?_
  obtain ⟨y5, hc6, hr⟩ := of_bind hr
  refine HT.reg1 [1] [⟨none, .no⟩, ⟨none, .no⟩, ⟨none, .no⟩, ⟨none, .call [.own (.sl (.flt .f32)), .imm (.int .i64)] [⟨false, (.int .i64), y5.1⟩] [⟨(.sl (.flt .f32)), y5.2⟩]⟩, ⟨none, .no⟩] ⟨[(1, .one (.dat (.int .i64) y5.1))], [(2, .seq (.flt .f32) y5.2), (1, .seq (.flt .f32) y3.2), (0, .seq (.flt .f32) y1.2), (3, .box [.dat (.int .i64) a0.1, .dat (.int .i64) a0.2.1, .all 0, .all 1, .all 2]), (0, .seq (.flt .f32) a0.2.2.1), (1, .seq (.flt .f32) a0.2.2.2.1), (2, .seq (.flt .f32) a0.2.2.2.2)], 4⟩ hP hN (by kernel_rfl) (allCons (f20_ok hc6) allNil) ?_
  refine HT.reg1 [4] [⟨none, .no⟩, ⟨none, .no⟩] ⟨[(4, .one (.dat (.int .i64) y5.1))], [(2, .seq (.flt .f32) y5.2), (1, .seq (.flt .f32) y3.2), (0, .seq (.flt .f32) y1.2), (3, .box [.dat (.int .i64) a0.1, .dat (.int .i64) a0.2.1, .all 0, .all 1, .all 2]), (0, .seq (.flt .f32) a0.2.2.1), (1, .seq (.flt .f32) a0.2.2.2.1), (2, .seq (.flt .f32) a0.2.2.2.2)], 4⟩ hP hN (by kernel_rfl) allNil ?_
  obtain ⟨hg7, hr⟩ := of_guard hr
  obtain ⟨hg8, hr⟩ := of_guard hr
  obtain ⟨hg9, hr⟩ := of_guard hr
  have hr := of_some hr
  subst hr
  exact HT.ret ⟨[.one (.dat (.int .i64) y5.1)], [], [List.length y1.2 = List.length a0.2.2.1, List.length y3.2 = List.length a0.2.2.2.1, List.length y5.2 = List.length a0.2.2.2.2], by kernel_rfl, by kernel_rfl, rfl, by kernel_rfl, by kernel_rfl, ⟨hg7, hg8, hg9, trivial⟩⟩

noncomputable def laws_markInt64S_B1  (s1 : Int × Int × List Int) : Option ((Int × Int × List Int) ⊕ ((Int × List Int))) :=
  bif (decide (s1.2.1 < (lenI s1.2.2))) then
    guardP ((0 : Int) ≤ s1.2.1 ∧ s1.2.1 < lenI s1.2.2) (
      some (.inl ((wadd .i64 s1.1 (1 : Int)), (wadd .i64 s1.2.1 (1 : Int)), (List.set s1.2.2 (Int.toNat s1.2.1) s1.1))))
  else
    some (.inr (s1.1, s1.2.2))

noncomputable def laws_markInt64S (a0 : List Int) (a1 : Int) : Option (Int × List Int) :=
  (rounds (laws_markInt64S_B1) (a1, (0 : Int), a0)).bind fun r3 =>
  guardP (List.length r3.2 = List.length a0) (
    some (r3.1, r3.2))

theorem f19_ok {a0 : List Int} {a1 : Int} {r : Int × List Int} (hr : laws_markInt64S a0 a1 = some r) : CallOK Try.prog 19 [.own (.sl (.int .i64)) a0, .imm (.int .i64) a1] [⟨false, (.int .i64), r.1⟩] [⟨(.sl (.int .i64)), r.2⟩] := by
  unfold laws_markInt64S at hr
  refine CallOK.of_body (ts := [(false, (.int .i64))]) Try.func19 rfl (by kernel_rfl) (Nat.le_of_ble_eq_true (by kernel_rfl)) fun cx hP hN hO hF => ?_
  have hO : cx.own.map Prod.fst = [0] := hO
  have hF := hF rfl
  show HT cx ⟨[(0, .one (.all 0)), (1, .one (.dat (.int .i64) a1))], [(0, .seq (.int .i64) a0)], 1⟩ _ _
  refine HT.reg1 [0, 1] [⟨none, .no⟩] ⟨[(0, .one (.all 0)), (1, .one (.dat (.int .i64) a1))], [(0, .seq (.int .i64) a0)], 1⟩ hP hN (by kernel_rfl) allNil ?_
  refine HT.seq ?_
  refine HT.reg1 [0, 1, 5] [⟨none, .no⟩] ⟨[(0, .one (.all 0)), (1, .one (.dat (.int .i64) a1)), (5, .one (.dat (.int .i64) (0 : Int)))], [(0, .seq (.int .i64) a0)], 1⟩ hP hN (by kernel_rfl) allNil ?_
  refine HT.block ?_
  obtain ⟨r2, hL10, hr⟩ := of_bind hr
  refine (Le.cv (s := ⟨[(0, 0)], [], [], false⟩) (own := [0]) (ps := [a1 = a1, (0 : Int) = (0 : Int), a0 = a0]) (st' := ⟨[(0, .one (.all 0)), (1, .one (.dat (.int .i64) a1)), (5, .one (.dat (.int .i64) (0 : Int)))], [(0, .seq (.int .i64) a0)], 1⟩) hO (fun h => by cases h) (by kernel_rfl) ⟨rfl, rfl, rfl, trivial⟩).ht ?_
  refine HT.loopE (s := (a1, (0 : Int), a0)) (fun (s1 : Int × Int × List Int) => ⟨[(0, .one (.all 0)), (1, .one (.dat (.int .i64) s1.1)), (5, .one (.dat (.int .i64) s1.2.1))], [(0, .seq (.int .i64) s1.2.2)], 1⟩) (fun (r3 : (Int × List Int)) => (.exit 0, ⟨[(1, .one (.dat (.int .i64) r3.1))], [(0, .seq (.int .i64) r3.2)], 1⟩)) hL10 ?_ (fun s1 x5 hx6 hk7 => ?_)
  · refine (qBlockX (qThen ?_))
    refine HT.reg1 [4] [⟨none, .no⟩, ⟨none, .no⟩] ⟨[(4, .one (.dat (.int .i64) r2.1))], [(0, .seq (.int .i64) r2.2)], 1⟩ hP hN (by kernel_rfl) allNil ?_
    obtain ⟨hg4, hr⟩ := of_guard hr
    have hr := of_some hr
    subst hr
    exact HT.ret ⟨[.one (.dat (.int .i64) r2.1)], [], [List.length r2.2 = List.length a0], by kernel_rfl, by kernel_rfl, rfl, by kernel_rfl, by kernel_rfl, ⟨hg4, trivial⟩⟩
  · refine HT.seq ?_
    refine HT.reg1 [0, 1, 5, 9] [⟨none, .no⟩, ⟨none, .no⟩, ⟨none, .no⟩, ⟨none, .no⟩] ⟨[(0, .one (.all 0)), (1, .one (.dat (.int .i64) s1.1)), (5, .one (.dat (.int .i64) s1.2.1)), (9, .one (.dat .bool (decide (s1.2.1 < (lenI s1.2.2)))))], [(0, .seq (.int .i64) s1.2.2)], 1⟩ hP hN (by kernel_rfl) allNil ?_
    rcases of_bif hx6 with ⟨hb8, hx6⟩ | ⟨hb8, hx6⟩
    · refine HT.cond1 rfl hb8 ?_
      refine HT.skip (qThen ?_)
      refine HT.seq ?_
      refine HT.block ?_
      obtain ⟨hg9, hx6⟩ := of_guard hx6
      refine HT.reg1 [0, 1, 5] [⟨none, .no⟩, ⟨none, .no⟩, ⟨none, .no⟩, ⟨none, .no⟩, ⟨none, .no⟩] ⟨[(0, .one (.all 0)), (1, .one (.dat (.int .i64) s1.1)), (5, .one (.dat (.int .i64) s1.2.1))], [(0, .seq (.int .i64) (List.set s1.2.2 (Int.toNat s1.2.1) s1.1)), (0, .seq (.int .i64) s1.2.2)], 1⟩ hP hN (by kernel_rfl) (allCons hg9 (allCons (natLt hg9) allNil)) ?_
      refine HT.reg (rs := [⟨none, .no⟩, ⟨none, .no⟩, ⟨none, .no⟩]) (st' := ⟨[(1, .one (.dat (.int .i64) (wadd .i64 s1.1 (1 : Int)))), (17, .one (.dat (.int .i64) (wadd .i64 s1.1 (1 : Int)))), (16, .one (.dat (.int .i64) s1.1)), (0, .one (.all 0)), (1, .one (.dat (.int .i64) s1.1)), (5, .one (.dat (.int .i64) s1.2.1))], [(0, .seq (.int .i64) (List.set s1.2.2 (Int.toNat s1.2.1) s1.1)), (0, .seq (.int .i64) s1.2.2)], 1⟩) hP hN (by kernel_rfl) allNil (qBlock (qThen ?_))
      have hx6 := of_some hx6
      subst hx6
      refine HT.reg (rs := [⟨none, .no⟩, ⟨none, .no⟩, ⟨none, .no⟩]) (st' := ⟨[(5, .one (.dat (.int .i64) (wadd .i64 s1.2.1 (1 : Int)))), (11, .one (.dat (.int .i64) (wadd .i64 s1.2.1 (1 : Int)))), (10, .one (.dat (.int .i64) s1.2.1)), (1, .one (.dat (.int .i64) (wadd .i64 s1.1 (1 : Int)))), (17, .one (.dat (.int .i64) (wadd .i64 s1.1 (1 : Int)))), (16, .one (.dat (.int .i64) s1.1)), (0, .one (.all 0)), (1, .one (.dat (.int .i64) s1.1)), (5, .one (.dat (.int .i64) s1.2.1))], [(0, .seq (.int .i64) (List.set s1.2.2 (Int.toNat s1.2.1) s1.1)), (0, .seq (.int .i64) s1.2.2)], 1⟩) hP hN (by kernel_rfl) allNil (qLoopN ⟨((wadd .i64 s1.1 (1 : Int)), (wadd .i64 s1.2.1 (1 : Int)), (List.set s1.2.2 (Int.toNat s1.2.1) s1.1)), rfl, Le.cv (s := ⟨[(0, 0)], [], [], false⟩) (own := [0]) (ps := [(wadd .i64 s1.1 (1 : Int)) = (wadd .i64 s1.1 (1 : Int)), (wadd .i64 s1.2.1 (1 : Int)) = (wadd .i64 s1.2.1 (1 : Int)), (List.set s1.2.2 (Int.toNat s1.2.1) s1.1) = (List.set s1.2.2 (Int.toNat s1.2.1) s1.1)]) (st' := ⟨[(0, .one (.all 0)), (1, .one (.dat (.int .i64) (wadd .i64 s1.1 (1 : Int)))), (5, .one (.dat (.int .i64) (wadd .i64 s1.2.1 (1 : Int))))], [(0, .seq (.int .i64) (List.set s1.2.2 (Int.toNat s1.2.1) s1.1))], 1⟩) hO (fun h => by cases h) (by kernel_rfl) ⟨rfl, rfl, rfl, trivial⟩⟩)
    · refine HT.cond0 rfl hb8 ?_
      have hx6 := of_some hx6
      subst hx6
      refine (Le.cv (s := ⟨[(0, 0)], [], [], false⟩) (own := [0]) (ps := [s1.1 = s1.1, s1.2.2 = s1.2.2]) (st' := ⟨[(1, .one (.dat (.int .i64) s1.1))], [(0, .seq (.int .i64) s1.2.2)], 1⟩) hO (fun h => by cases h) (by kernel_rfl) ⟨rfl, rfl, trivial⟩).ht ?_
      exact HT.exit (qThenE (qLoopE (hk7 (s1.1, s1.2.2) rfl)))

noncomputable def laws_heldFloat32S_B1 (a0 : List Nat) (s1 : Int × Int) : Option ((Int × Int) ⊕ (Int ⊕ Unit)) :=
  bif (decide (s1.2 < (lenI a0))) then
    guardP ((0 : Int) ≤ s1.2 ∧ s1.2 < lenI a0) (
      bif (!(feq .f32 (List.getD a0 (Int.toNat s1.2) (0 : Nat)) (fofint .f32 s1.1))) then
        some (.inr (.inr ()))
      else
        some (.inl ((wadd .i64 s1.1 (1 : Int)), (wadd .i64 s1.2 (1 : Int)))))
  else
    some (.inr (.inl s1.1))

noncomputable def laws_heldFloat32S (a0 : List Nat) (a1 : Int) : Option (Int) :=
  (rounds (laws_heldFloat32S_B1 a0) (a1, (0 : Int))).bind fun r2 => match r2 with
    | .inl r3 =>
      some r3
    | .inr r4 =>
      some (-1 : Int)

theorem f21_ok {a0 : List Nat} {a1 : Int} {r : Int} (hr : laws_heldFloat32S a0 a1 = some r) : CallOK Try.prog 21 [.imm (.sl (.flt .f32)) a0, .imm (.int .i64) a1] [⟨false, (.int .i64), r⟩] [] := by
  unfold laws_heldFloat32S at hr
  refine CallOK.of_body (ts := [(false, (.int .i64))]) Try.func21 rfl (by kernel_rfl) (Nat.le_of_ble_eq_true (by kernel_rfl)) fun cx hP hN hO hF => ?_
  have hO : cx.own.map Prod.fst = [] := hO
  have hF := hF rfl
  show HT cx ⟨[(0, .one (.dat (.sl (.flt .f32)) a0)), (1, .one (.dat (.int .i64) a1))], [], 0⟩ _ _
  refine HT.reg1 [0, 1] [⟨none, .no⟩] ⟨[(0, .one (.dat (.sl (.flt .f32)) a0)), (1, .one (.dat (.int .i64) a1))], [], 0⟩ hP hN (by kernel_rfl) allNil ?_
  refine HT.seq ?_
  refine HT.reg1 [0, 1, 5] [⟨none, .no⟩] ⟨[(0, .one (.dat (.sl (.flt .f32)) a0)), (1, .one (.dat (.int .i64) a1)), (5, .one (.dat (.int .i64) (0 : Int)))], [], 0⟩ hP hN (by kernel_rfl) allNil ?_
  refine HT.block ?_
  obtain ⟨r2, hL11, hr⟩ := of_bind hr
  refine (Le.cv (s := ⟨[], [], [], false⟩) (own := []) (ps := [a0 = a0, a1 = a1, (0 : Int) = (0 : Int)]) (st' := ⟨[(0, .one (.dat (.sl (.flt .f32)) a0)), (1, .one (.dat (.int .i64) a1)), (5, .one (.dat (.int .i64) (0 : Int)))], [], 0⟩) hO (fun h => by cases h) (by kernel_rfl) ⟨rfl, rfl, rfl, trivial⟩).ht ?_
  refine HT.loopE (s := (a1, (0 : Int))) (fun (s1 : Int × Int) => ⟨[(0, .one (.dat (.sl (.flt .f32)) a0)), (1, .one (.dat (.int .i64) s1.1)), (5, .one (.dat (.int .i64) s1.2))], [], 0⟩) (fun (r2 : Int ⊕ Unit) => match r2 with | .inl r3 => (.exit 0, ⟨[(1, .one (.dat (.int .i64) r3))], [], 0⟩) | .inr r4 => (.ret, ⟨[(4, .one (.dat (.int .i64) (-1 : Int)))], [], 0⟩)) hL11 ?_ (fun s1 x5 hx6 hk7 => ?_)
  · rcases r2 with r3 | r4
    · refine (qBlockX (qThen ?_))
      refine HT.reg1 [4] [⟨none, .no⟩, ⟨none, .no⟩] ⟨[(4, .one (.dat (.int .i64) r3))], [], 0⟩ hP hN (by kernel_rfl) allNil ?_
      have hr := of_some hr
      subst hr
      exact HT.ret ⟨[.one (.dat (.int .i64) r3)], [], [], by kernel_rfl, by kernel_rfl, rfl, by kernel_rfl, by kernel_rfl, trivial⟩
    · have hr := of_some hr
      subst hr
      exact (qBlockR (qThenR ⟨[.one (.dat (.int .i64) (-1 : Int))], [], [], by kernel_rfl, by kernel_rfl, rfl, by kernel_rfl, by kernel_rfl, trivial⟩))
  · refine HT.seq ?_
    refine HT.reg1 [0, 1, 5, 9] [⟨none, .no⟩, ⟨none, .no⟩, ⟨none, .no⟩, ⟨none, .no⟩] ⟨[(0, .one (.dat (.sl (.flt .f32)) a0)), (1, .one (.dat (.int .i64) s1.1)), (5, .one (.dat (.int .i64) s1.2)), (9, .one (.dat .bool (decide (s1.2 < (lenI a0)))))], [], 0⟩ hP hN (by kernel_rfl) allNil ?_
    rcases of_bif hx6 with ⟨hb8, hx6⟩ | ⟨hb8, hx6⟩
    · refine HT.cond1 rfl hb8 ?_
      refine HT.skip (qThen ?_)
      refine HT.seq ?_
      refine HT.block ?_
      refine HT.seq ?_
      obtain ⟨hg9, hx6⟩ := of_guard hx6
      refine HT.reg1 [0, 1, 5, 18] [⟨none, .no⟩, ⟨none, .no⟩, ⟨none, .no⟩, ⟨none, .no⟩, ⟨none, .no⟩, ⟨none, .no⟩, ⟨none, .no⟩] ⟨[(0, .one (.dat (.sl (.flt .f32)) a0)), (1, .one (.dat (.int .i64) s1.1)), (5, .one (.dat (.int .i64) s1.2)), (18, .one (.dat .bool (!(feq .f32 (List.getD a0 (Int.toNat s1.2) (0 : Nat)) (fofint .f32 s1.1)))))], [], 0⟩ hP hN (by kernel_rfl) (allCons hg9 allNil) ?_
      rcases of_bif hx6 with ⟨hb10, hx6⟩ | ⟨hb10, hx6⟩
      · refine HT.cond1 rfl hb10 ?_
        refine HT.reg1 [4] [⟨none, .no⟩] ⟨[(4, .one (.dat (.int .i64) (-1 : Int)))], [], 0⟩ hP hN (by kernel_rfl) allNil ?_
        have hx6 := of_some hx6
        subst hx6
        refine (Le.cv (s := ⟨[], [], [], false⟩) (own := []) (ps := [(-1 : Int) = (-1 : Int)]) (st' := ⟨[(4, .one (.dat (.int .i64) (-1 : Int)))], [], 0⟩) hO (fun h => by cases h) (by kernel_rfl) ⟨rfl, trivial⟩).ht ?_
        exact HT.ret (qThenR (qBlockR (qThenR (qLoopR (hk7 (.inr ()) rfl)))))
      · refine HT.cond0 rfl hb10 ?_
        refine HT.skip (qThen ?_)
        refine HT.reg (rs := [⟨none, .no⟩, ⟨none, .no⟩, ⟨none, .no⟩]) (st' := ⟨[(1, .one (.dat (.int .i64) (wadd .i64 s1.1 (1 : Int)))), (20, .one (.dat (.int .i64) (wadd .i64 s1.1 (1 : Int)))), (19, .one (.dat (.int .i64) s1.1)), (0, .one (.dat (.sl (.flt .f32)) a0)), (1, .one (.dat (.int .i64) s1.1)), (5, .one (.dat (.int .i64) s1.2)), (18, .one (.dat .bool (!(feq .f32 (List.getD a0 (Int.toNat s1.2) (0 : Nat)) (fofint .f32 s1.1)))))], [], 0⟩) hP hN (by kernel_rfl) allNil (qBlock (qThen ?_))
        have hx6 := of_some hx6
        subst hx6
        refine HT.reg (rs := [⟨none, .no⟩, ⟨none, .no⟩, ⟨none, .no⟩]) (st' := ⟨[(5, .one (.dat (.int .i64) (wadd .i64 s1.2 (1 : Int)))), (11, .one (.dat (.int .i64) (wadd .i64 s1.2 (1 : Int)))), (10, .one (.dat (.int .i64) s1.2)), (1, .one (.dat (.int .i64) (wadd .i64 s1.1 (1 : Int)))), (20, .one (.dat (.int .i64) (wadd .i64 s1.1 (1 : Int)))), (19, .one (.dat (.int .i64) s1.1)), (0, .one (.dat (.sl (.flt .f32)) a0)), (1, .one (.dat (.int .i64) s1.1)), (5, .one (.dat (.int .i64) s1.2)), (18, .one (.dat .bool (!(feq .f32 (List.getD a0 (Int.toNat s1.2) (0 : Nat)) (fofint .f32 s1.1)))))], [], 0⟩) hP hN (by kernel_rfl) allNil (qLoopN ⟨((wadd .i64 s1.1 (1 : Int)), (wadd .i64 s1.2 (1 : Int))), rfl, Le.cv (s := ⟨[], [], [], false⟩) (own := []) (ps := [a0 = a0, (wadd .i64 s1.1 (1 : Int)) = (wadd .i64 s1.1 (1 : Int)), (wadd .i64 s1.2 (1 : Int)) = (wadd .i64 s1.2 (1 : Int))]) (st' := ⟨[(0, .one (.dat (.sl (.flt .f32)) a0)), (1, .one (.dat (.int .i64) (wadd .i64 s1.1 (1 : Int)))), (5, .one (.dat (.int .i64) (wadd .i64 s1.2 (1 : Int))))], [], 0⟩) hO (fun h => by cases h) (by kernel_rfl) ⟨rfl, rfl, rfl, trivial⟩⟩)
    · refine HT.cond0 rfl hb8 ?_
      have hx6 := of_some hx6
      subst hx6
      refine (Le.cv (s := ⟨[], [], [], false⟩) (own := []) (ps := [s1.1 = s1.1]) (st' := ⟨[(1, .one (.dat (.int .i64) s1.1))], [], 0⟩) hO (fun h => by cases h) (by kernel_rfl) ⟨rfl, trivial⟩).ht ?_
      exact HT.exit (qThenE (qLoopE (hk7 (.inl s1.1) rfl)))

noncomputable def laws_FnExactPairAt (a0 : Int × Int × List Nat × List Nat × List Nat) (a1 : List Int) (a2 : Int) : Option (Bool) :=
  bif (decide ((lenI a1) > (1048576 : Int))) then
    some true
  else
    (laws_szModel (a0.1, a0.2.1, a0.2.2.1, a0.2.2.2.1, a0.2.2.2.2) (1048576 : Int)).bind fun y2 =>
    bif (decide (y2 < (0 : Int))) then
      some true
    else
      (laws_toModel (a0.1, a0.2.1, a0.2.2.1, a0.2.2.2.1, a0.2.2.2.2)).bind fun y5 =>
      (laws_toInt64S a1).bind fun y7 =>
      (spec_PairAt (y5.1, y5.2.1, y5.2.2.1, y5.2.2.2.1, y5.2.2.2.2) y7 a2).bind fun y9 =>
      (laws_toModel (a0.1, a0.2.1, a0.2.2.1, a0.2.2.2.1, a0.2.2.2.2)).bind fun y11 =>
      (laws_toInt64S a1).bind fun y13 =>
      (impl_PairAt (y11.1, y11.2.1, y11.2.2.1, y11.2.2.2.1, y11.2.2.2.2) y13 a2).bind fun y15 =>
      (show Option (Bool) from
        (laws_eqFloat32S y15.1 y9.1).bind fun y66 =>
        bif (!y66) then
          some true
        else
          some (y15.2 != y9.2)).bind fun v17 =>
      bif v17 then
        some false
      else
        (laws_toModel (a0.1, a0.2.1, a0.2.2.1, a0.2.2.2.1, a0.2.2.2.2)).bind fun y21 =>
        (laws_eqModel (y11.1, y11.2.1, y11.2.2.1, y11.2.2.2.1, y11.2.2.2.2) (y21.1, y21.2.1, y21.2.2.1, y21.2.2.2.1, y21.2.2.2.2)).bind fun y23 =>
        bif (!y23) then
          some false
        else
          (laws_toInt64S a1).bind fun y26 =>
          (laws_eqInt64S y13 y26).bind fun y28 =>
          bif (!y28) then
            some false
          else
            (laws_markModel (y11.1, y11.2.1, y11.2.2.1, y11.2.2.2.1, y11.2.2.2.2) (1 : Int)).bind fun y31 =>
            (laws_markInt64S y13 y31.1).bind fun y33 =>
            (show Option (Bool) from
              bif (decide (y33.1 < (0 : Int))) then
                some true
              else
                (laws_eqFloat32S y15.1 y9.1).bind fun y63 =>
                bif (!y63) then
                  some true
                else
                  some (y15.2 != y9.2)).bind fun v35 =>
            bif v35 then
              some false
            else
              (laws_markFloat32S y15.1 (1 : Int)).bind fun y39 =>
              (laws_heldFloat32S y39.2 (1 : Int)).bind fun y41 =>
              bif (decide (y41 < (0 : Int))) then
                some false
              else
                bif (y41 != y39.1) then
                  some false
                else
                  (laws_toModel (a0.1, a0.2.1, a0.2.2.1, a0.2.2.2.1, a0.2.2.2.2)).bind fun y45 =>
                  (laws_toInt64S a1).bind fun y47 =>
                  (impl_PairAt (y45.1, y45.2.1, y45.2.2.1, y45.2.2.2.1, y45.2.2.2.2) y47 a2).bind fun y49 =>
                  (show Option (Bool) from
                    (laws_eqFloat32S y49.1 y9.1).bind fun y59 =>
                    bif (!y59) then
                      some true
                    else
                      some (y49.2 != y9.2)).bind fun v51 =>
                  bif v51 then
                    some false
                  else
                    (laws_heldFloat32S y39.2 (1 : Int)).bind fun y55 =>
                    bif (decide (y55 < (0 : Int))) then
                      some false
                    else
                      bif (y55 != y39.1) then
                        some false
                      else
                        some true

theorem f5_ok {a0 : Int × Int × List Nat × List Nat × List Nat} {a1 : List Int} {a2 : Int} {r : Bool} (hr : laws_FnExactPairAt a0 a1 a2 = some r) : CallOK Try.prog 5 [.imm (.st (.pair (.int .i64) (.pair (.int .i64) (.pair (.sl (.flt .f32)) (.pair (.sl (.flt .f32)) (.sl (.flt .f32))))))) a0, .imm (.sl (.int .i64)) a1, .imm (.int .i64) a2] [⟨false, .bool, r⟩] [] := by
  unfold laws_FnExactPairAt at hr
  refine CallOK.of_body (ts := [(false, .bool)]) Try.func5 rfl (by kernel_rfl) (Nat.le_of_ble_eq_true (by kernel_rfl)) fun cx hP hN hO hF => ?_
  have hO : cx.own.map Prod.fst = [] := hO
  have hF := hF rfl
  show HT cx ⟨[(0, .agg [.dat (.int .i64) a0.1, .dat (.int .i64) a0.2.1, .dat (.sl (.flt .f32)) a0.2.2.1, .dat (.sl (.flt .f32)) a0.2.2.2.1, .dat (.sl (.flt .f32)) a0.2.2.2.2]), (1, .one (.dat (.sl (.int .i64)) a1)), (2, .one (.dat (.int .i64) a2))], [], 0⟩ _ _
  refine HT.reg1 [1, 2, 3] [⟨none, .no⟩, ⟨none, .no⟩] ⟨[(1, .one (.dat (.sl (.int .i64)) a1)), (2, .one (.dat (.int .i64) a2)), (3, .one (.ptr 0 0))], [(0, .box [.dat (.int .i64) a0.1, .dat (.int .i64) a0.2.1, .dat (.sl (.flt .f32)) a0.2.2.1, .dat (.sl (.flt .f32)) a0.2.2.2.1, .dat (.sl (.flt .f32)) a0.2.2.2.2])], 1⟩ hP hN (by kernel_rfl) allNil ?_
  refine HT.seq ?_
  refine HT.reg1 [1, 2, 3, 21] [⟨none, .no⟩, ⟨none, .no⟩, ⟨none, .no⟩] ⟨[(1, .one (.dat (.sl (.int .i64)) a1)), (2, .one (.dat (.int .i64) a2)), (3, .one (.ptr 0 0)), (21, .one (.dat .bool (decide ((lenI a1) > (1048576 : Int)))))], [(0, .box [.dat (.int .i64) a0.1, .dat (.int .i64) a0.2.1, .dat (.sl (.flt .f32)) a0.2.2.1, .dat (.sl (.flt .f32)) a0.2.2.2.1, .dat (.sl (.flt .f32)) a0.2.2.2.2])], 1⟩ hP hN (by kernel_rfl) allNil ?_
  rcases of_bif hr with ⟨hb1, hr⟩ | ⟨hb1, hr⟩
  · refine HT.cond1 rfl hb1 ?_
    refine HT.reg1 [6] [⟨none, .no⟩] ⟨[(6, .one (.dat .bool true))], [(0, .box [.dat (.int .i64) a0.1, .dat (.int .i64) a0.2.1, .dat (.sl (.flt .f32)) a0.2.2.1, .dat (.sl (.flt .f32)) a0.2.2.2.1, .dat (.sl (.flt .f32)) a0.2.2.2.2])], 1⟩ hP hN (by kernel_rfl) allNil ?_
    have hr := of_some hr
    subst hr
    exact HT.ret (qThenR ⟨[.one (.dat .bool true)], [], [], by kernel_rfl, by kernel_rfl, rfl, by kernel_rfl, by kernel_rfl, trivial⟩)
  · refine HT.cond0 rfl hb1 ?_
    refine HT.skip (qThen ?_)
    refine HT.reg1 [1, 2, 3, 7] [⟨none, .no⟩] ⟨[(1, .one (.dat (.sl (.int .i64)) a1)), (2, .one (.dat (.int .i64) a2)), (3, .one (.ptr 0 0)), (7, .one (.dat (.int .i64) (1048576 : Int)))], [(0, .box [.dat (.int .i64) a0.1, .dat (.int .i64) a0.2.1, .dat (.sl (.flt .f32)) a0.2.2.1, .dat (.sl (.flt .f32)) a0.2.2.2.1, .dat (.sl (.flt .f32)) a0.2.2.2.2])], 1⟩ hP hN (by kernel_rfl) allNil ?_
    obtain ⟨y2, hc3, hr⟩ := of_bind hr
    refine HT.reg1 [1, 2, 3, 7] [⟨none, .no⟩, ⟨none, .no⟩, ⟨none, .call [.imm (.st (.pair (.int .i64) (.pair (.int .i64) (.pair (.sl (.flt .f32)) (.pair (.sl (.flt .f32)) (.sl (.flt .f32))))))), .imm (.int .i64)] [⟨false, (.int .i64), y2⟩] []⟩, ⟨none, .no⟩] ⟨[(1, .one (.dat (.sl (.int .i64)) a1)), (2, .one (.dat (.int .i64) a2)), (3, .one (.ptr 0 0)), (7, .one (.dat (.int .i64) y2))], [(0, .box [.dat (.int .i64) a0.1, .dat (.int .i64) a0.2.1, .dat (.sl (.flt .f32)) a0.2.2.1, .dat (.sl (.flt .f32)) a0.2.2.2.1, .dat (.sl (.flt .f32)) a0.2.2.2.2])], 1⟩ hP hN (by kernel_rfl) (allCons (f10_ok hc3) allNil) ?_
    refine HT.seq ?_
    refine HT.reg1 [1, 2, 3, 26] [⟨none, .no⟩, ⟨none, .no⟩] ⟨[(1, .one (.dat (.sl (.int .i64)) a1)), (2, .one (.dat (.int .i64) a2)), (3, .one (.ptr 0 0)), (26, .one (.dat .bool (decide (y2 < (0 : Int)))))], [(0, .box [.dat (.int .i64) a0.1, .dat (.int .i64) a0.2.1, .dat (.sl (.flt .f32)) a0.2.2.1, .dat (.sl (.flt .f32)) a0.2.2.2.1, .dat (.sl (.flt .f32)) a0.2.2.2.2])], 1⟩ hP hN (by kernel_rfl) allNil ?_
    rcases of_bif hr with ⟨hb4, hr⟩ | ⟨hb4, hr⟩
    · refine HT.cond1 rfl hb4 ?_
      refine HT.reg1 [6] [⟨none, .no⟩] ⟨[(6, .one (.dat .bool true))], [(0, .box [.dat (.int .i64) a0.1, .dat (.int .i64) a0.2.1, .dat (.sl (.flt .f32)) a0.2.2.1, .dat (.sl (.flt .f32)) a0.2.2.2.1, .dat (.sl (.flt .f32)) a0.2.2.2.2])], 1⟩ hP hN (by kernel_rfl) allNil ?_
      have hr := of_some hr
      subst hr
      exact HT.ret (qThenR ⟨[.one (.dat .bool true)], [], [], by kernel_rfl, by kernel_rfl, rfl, by kernel_rfl, by kernel_rfl, trivial⟩)
    · refine HT.cond0 rfl hb4 ?_
      refine HT.skip (qThen ?_)
      obtain ⟨y5, hc6, hr⟩ := of_bind hr
      obtain ⟨y7, hc8, hr⟩ := of_bind hr
      obtain ⟨y9, hc10, hr⟩ := of_bind hr
      refine HT.reg1 [1, 2, 3, 8, 9] [⟨none, .no⟩, ⟨none, .call [.imm (.st (.pair (.int .i64) (.pair (.int .i64) (.pair (.sl (.flt .f32)) (.pair (.sl (.flt .f32)) (.sl (.flt .f32)))))))] [⟨true, (.st (.pair (.int .i64) (.pair (.int .i64) (.pair (.sl (.flt .f32)) (.pair (.sl (.flt .f32)) (.sl (.flt .f32))))))), y5⟩] []⟩, ⟨none, .no⟩, ⟨none, .call [.imm (.sl (.int .i64))] [⟨true, (.sl (.int .i64)), y7⟩] []⟩, ⟨none, .no⟩, ⟨none, .call [.imm (.st (.pair (.int .i64) (.pair (.int .i64) (.pair (.sl (.flt .f32)) (.pair (.sl (.flt .f32)) (.sl (.flt .f32))))))), .imm (.sl (.int .i64)), .imm (.int .i64)] [⟨true, (.sl (.flt .f32)), y9.1⟩, ⟨false, .bool, y9.2⟩] []⟩, ⟨none, .no⟩, ⟨none, .no⟩, ⟨none, .no⟩, ⟨none, .no⟩, ⟨none, .no⟩] ⟨[(1, .one (.dat (.sl (.int .i64)) a1)), (2, .one (.dat (.int .i64) a2)), (3, .one (.ptr 0 0)), (8, .one (.all 5)), (9, .one (.dat .bool y9.2))], [(5, .seq (.flt .f32) y9.1), (4, .seq (.int .i64) y7), (1, .seq (.flt .f32) y5.2.2.1), (2, .seq (.flt .f32) y5.2.2.2.1), (3, .seq (.flt .f32) y5.2.2.2.2), (0, .box [.dat (.int .i64) a0.1, .dat (.int .i64) a0.2.1, .dat (.sl (.flt .f32)) a0.2.2.1, .dat (.sl (.flt .f32)) a0.2.2.2.1, .dat (.sl (.flt .f32)) a0.2.2.2.2])], 6⟩ hP hN (by kernel_rfl) (allCons (f12_ok hc6) (allCons (f13_ok hc8) (allCons (f24_ok hc10) allNil))) ?_
      obtain ⟨y11, hc12, hr⟩ := of_bind hr
      refine HT.reg1 [1, 2, 3, 8, 9, 10] [⟨none, .no⟩, ⟨none, .call [.imm (.st (.pair (.int .i64) (.pair (.int .i64) (.pair (.sl (.flt .f32)) (.pair (.sl (.flt .f32)) (.sl (.flt .f32)))))))] [⟨true, (.st (.pair (.int .i64) (.pair (.int .i64) (.pair (.sl (.flt .f32)) (.pair (.sl (.flt .f32)) (.sl (.flt .f32))))))), y11⟩] []⟩, ⟨none, .no⟩, ⟨none, .no⟩] ⟨[(1, .one (.dat (.sl (.int .i64)) a1)), (2, .one (.dat (.int .i64) a2)), (3, .one (.ptr 0 0)), (8, .one (.all 5)), (9, .one (.dat .bool y9.2)), (10, .one (.ptr 9 0))], [(9, .box [.dat (.int .i64) y11.1, .dat (.int .i64) y11.2.1, .all 6, .all 7, .all 8]), (9, .box [.dat (.int .i64) (0 : Int), .dat (.int .i64) (0 : Int), .nilS, .nilS, .nilS]), (6, .seq (.flt .f32) y11.2.2.1), (7, .seq (.flt .f32) y11.2.2.2.1), (8, .seq (.flt .f32) y11.2.2.2.2), (5, .seq (.flt .f32) y9.1), (4, .seq (.int .i64) y7), (1, .seq (.flt .f32) y5.2.2.1), (2, .seq (.flt .f32) y5.2.2.2.1), (3, .seq (.flt .f32) y5.2.2.2.2), (0, .box [.dat (.int .i64) a0.1, .dat (.int .i64) a0.2.1, .dat (.sl (.flt .f32)) a0.2.2.1, .dat (.sl (.flt .f32)) a0.2.2.2.1, .dat (.sl (.flt .f32)) a0.2.2.2.2])], 10⟩ hP hN (by kernel_rfl) (allCons (f12_ok hc12) allNil) ?_
      obtain ⟨y13, hc14, hr⟩ := of_bind hr
      refine HT.reg1 [1, 2, 3, 8, 9, 10, 11] [⟨none, .no⟩, ⟨none, .call [.imm (.sl (.int .i64))] [⟨true, (.sl (.int .i64)), y13⟩] []⟩, ⟨none, .no⟩] ⟨[(1, .one (.dat (.sl (.int .i64)) a1)), (2, .one (.dat (.int .i64) a2)), (3, .one (.ptr 0 0)), (8, .one (.all 5)), (9, .one (.dat .bool y9.2)), (10, .one (.ptr 9 0)), (11, .one (.all 10))], [(10, .seq (.int .i64) y13), (9, .box [.dat (.int .i64) y11.1, .dat (.int .i64) y11.2.1, .all 6, .all 7, .all 8]), (9, .box [.dat (.int .i64) (0 : Int), .dat (.int .i64) (0 : Int), .nilS, .nilS, .nilS]), (6, .seq (.flt .f32) y11.2.2.1), (7, .seq (.flt .f32) y11.2.2.2.1), (8, .seq (.flt .f32) y11.2.2.2.2), (5, .seq (.flt .f32) y9.1), (4, .seq (.int .i64) y7), (1, .seq (.flt .f32) y5.2.2.1), (2, .seq (.flt .f32) y5.2.2.2.1), (3, .seq (.flt .f32) y5.2.2.2.2), (0, .box [.dat (.int .i64) a0.1, .dat (.int .i64) a0.2.1, .dat (.sl (.flt .f32)) a0.2.2.1, .dat (.sl (.flt .f32)) a0.2.2.2.1, .dat (.sl (.flt .f32)) a0.2.2.2.2])], 11⟩ hP hN (by kernel_rfl) (allCons (f13_ok hc14) allNil) ?_
      obtain ⟨y15, hc16, hr⟩ := of_bind hr
      refine HT.reg1 [1, 2, 3, 8, 9, 10, 11, 12, 13] [⟨none, .no⟩, ⟨none, .no⟩, ⟨none, .no⟩, ⟨none, .call [.imm (.st (.pair (.int .i64) (.pair (.int .i64) (.pair (.sl (.flt .f32)) (.pair (.sl (.flt .f32)) (.sl (.flt .f32))))))), .imm (.sl (.int .i64)), .imm (.int .i64)] [⟨true, (.sl (.flt .f32)), y15.1⟩, ⟨false, .bool, y15.2⟩] []⟩, ⟨none, .no⟩, ⟨none, .no⟩, ⟨none, .no⟩, ⟨none, .no⟩, ⟨none, .no⟩] ⟨[(1, .one (.dat (.sl (.int .i64)) a1)), (2, .one (.dat (.int .i64) a2)), (3, .one (.ptr 0 0)), (8, .one (.all 5)), (9, .one (.dat .bool y9.2)), (10, .one (.ptr 9 0)), (11, .one (.all 10)), (12, .one (.all 11)), (13, .one (.dat .bool y15.2))], [(11, .seq (.flt .f32) y15.1), (10, .seq (.int .i64) y13), (9, .box [.dat (.int .i64) y11.1, .dat (.int .i64) y11.2.1, .all 6, .all 7, .all 8]), (9, .box [.dat (.int .i64) (0 : Int), .dat (.int .i64) (0 : Int), .nilS, .nilS, .nilS]), (6, .seq (.flt .f32) y11.2.2.1), (7, .seq (.flt .f32) y11.2.2.2.1), (8, .seq (.flt .f32) y11.2.2.2.2), (5, .seq (.flt .f32) y9.1), (4, .seq (.int .i64) y7), (1, .seq (.flt .f32) y5.2.2.1), (2, .seq (.flt .f32) y5.2.2.2.1), (3, .seq (.flt .f32) y5.2.2.2.2), (0, .box [.dat (.int .i64) a0.1, .dat (.int .i64) a0.2.1, .dat (.sl (.flt .f32)) a0.2.2.1, .dat (.sl (.flt .f32)) a0.2.2.2.1, .dat (.sl (.flt .f32)) a0.2.2.2.2])], 12⟩ hP hN (by kernel_rfl) (allCons (f25_ok hc16) allNil) ?_
      refine HT.seq ?_
      obtain ⟨v17', hT19, hr⟩ := of_bind hr
      refine HT.join (fun (v17 : Bool) => ⟨[(1, .one (.dat (.sl (.int .i64)) a1)), (2, .one (.dat (.int .i64) a2)), (3, .one (.ptr 0 0)), (8, .one (.all 1)), (9, .one (.dat .bool y9.2)), (10, .one (.ptr 2 0)), (11, .one (.all 3)), (12, .one (.all 4)), (13, .one (.dat .bool y15.2)), (55, .one (.dat .bool v17))], [(0, .box [.dat (.int .i64) a0.1, .dat (.int .i64) a0.2.1, .dat (.sl (.flt .f32)) a0.2.2.1, .dat (.sl (.flt .f32)) a0.2.2.2.1, .dat (.sl (.flt .f32)) a0.2.2.2.2]), (1, .seq (.flt .f32) y9.1), (2, .box [.dat (.int .i64) y11.1, .dat (.int .i64) y11.2.1, .all 5, .all 6, .all 7]), (3, .seq (.int .i64) y13), (4, .seq (.flt .f32) y15.1), (5, .seq (.flt .f32) y11.2.2.1), (6, .seq (.flt .f32) y11.2.2.2.1), (7, .seq (.flt .f32) y11.2.2.2.2)], 8⟩) (fun v => v = v17') (fun v17 hv18 => ?_) (fun cont => ?_)
      · subst hv18
        rcases of_bif hr with ⟨hb20, hr⟩ | ⟨hb20, hr⟩
        · refine HT.cond1 rfl hb20 ?_
          refine HT.reg1 [6] [⟨none, .no⟩] ⟨[(6, .one (.dat .bool false))], [(0, .box [.dat (.int .i64) a0.1, .dat (.int .i64) a0.2.1, .dat (.sl (.flt .f32)) a0.2.2.1, .dat (.sl (.flt .f32)) a0.2.2.2.1, .dat (.sl (.flt .f32)) a0.2.2.2.2]), (1, .seq (.flt .f32) y9.1), (2, .box [.dat (.int .i64) y11.1, .dat (.int .i64) y11.2.1, .all 5, .all 6, .all 7]), (3, .seq (.int .i64) y13), (4, .seq (.flt .f32) y15.1), (5, .seq (.flt .f32) y11.2.2.1), (6, .seq (.flt .f32) y11.2.2.2.1), (7, .seq (.flt .f32) y11.2.2.2.2)], 8⟩ hP hN (by kernel_rfl) allNil ?_
          have hr := of_some hr
          subst hr
          exact HT.ret (qThenR ⟨[.one (.dat .bool false)], [], [], by kernel_rfl, by kernel_rfl, rfl, by kernel_rfl, by kernel_rfl, trivial⟩)
        · refine HT.cond0 rfl hb20 ?_
          refine HT.skip (qThen ?_)
          refine HT.seq ?_
          obtain ⟨y21, hc22, hr⟩ := of_bind hr
          obtain ⟨y23, hc24, hr⟩ := of_bind hr
          refine HT.drw1 [1, 2, 3, 8, 9, 10, 11, 12, 13, 60] 3 [⟨⟨none, .no⟩, []⟩, ⟨⟨none, .no⟩, []⟩, ⟨⟨none, .call [.imm (.st (.pair (.int .i64) (.pair (.int .i64) (.pair (.sl (.flt .f32)) (.pair (.sl (.flt .f32)) (.sl (.flt .f32)))))))] [⟨true, (.st (.pair (.int .i64) (.pair (.int .i64) (.pair (.sl (.flt .f32)) (.pair (.sl (.flt .f32)) (.sl (.flt .f32))))))), y21⟩] []⟩, [1]⟩] [[0, 1, 2], [0, 1, 2, 3]] [⟨none, .call [.imm (.st (.pair (.int .i64) (.pair (.int .i64) (.pair (.sl (.flt .f32)) (.pair (.sl (.flt .f32)) (.sl (.flt .f32))))))), .imm (.st (.pair (.int .i64) (.pair (.int .i64) (.pair (.sl (.flt .f32)) (.pair (.sl (.flt .f32)) (.sl (.flt .f32)))))))] [⟨false, .bool, y23⟩] []⟩, ⟨none, .no⟩] ⟨[(1, .one (.dat (.sl (.int .i64)) a1)), (2, .one (.dat (.int .i64) a2)), (3, .one (.ptr 0 0)), (8, .one (.all 1)), (9, .one (.dat .bool y9.2)), (10, .one (.ptr 2 0)), (11, .one (.all 3)), (12, .one (.all 4)), (13, .one (.dat .bool y15.2)), (60, .one (.dat .bool (!y23)))], [(8, .seq (.flt .f32) y21.2.2.1), (9, .seq (.flt .f32) y21.2.2.2.1), (10, .seq (.flt .f32) y21.2.2.2.2), (0, .box [.dat (.int .i64) a0.1, .dat (.int .i64) a0.2.1, .dat (.sl (.flt .f32)) a0.2.2.1, .dat (.sl (.flt .f32)) a0.2.2.2.1, .dat (.sl (.flt .f32)) a0.2.2.2.2]), (1, .seq (.flt .f32) y9.1), (2, .box [.dat (.int .i64) y11.1, .dat (.int .i64) y11.2.1, .all 5, .all 6, .all 7]), (3, .seq (.int .i64) y13), (4, .seq (.flt .f32) y15.1), (5, .seq (.flt .f32) y11.2.2.1), (6, .seq (.flt .f32) y11.2.2.2.1), (7, .seq (.flt .f32) y11.2.2.2.2)], 11⟩ hP hN (by kernel_rfl) (by kernel_rfl) (allCons (f12_ok hc22) (allCons (f16_ok hc24) allNil)) ?_
          rcases of_bif hr with ⟨hb25, hr⟩ | ⟨hb25, hr⟩
          · refine HT.cond1 rfl hb25 ?_
            refine HT.reg1 [6] [⟨none, .no⟩] ⟨[(6, .one (.dat .bool false))], [(8, .seq (.flt .f32) y21.2.2.1), (9, .seq (.flt .f32) y21.2.2.2.1), (10, .seq (.flt .f32) y21.2.2.2.2), (0, .box [.dat (.int .i64) a0.1, .dat (.int .i64) a0.2.1, .dat (.sl (.flt .f32)) a0.2.2.1, .dat (.sl (.flt .f32)) a0.2.2.2.1, .dat (.sl (.flt .f32)) a0.2.2.2.2]), (1, .seq (.flt .f32) y9.1), (2, .box [.dat (.int .i64) y11.1, .dat (.int .i64) y11.2.1, .all 5, .all 6, .all 7]), (3, .seq (.int .i64) y13), (4, .seq (.flt .f32) y15.1), (5, .seq (.flt .f32) y11.2.2.1), (6, .seq (.flt .f32) y11.2.2.2.1), (7, .seq (.flt .f32) y11.2.2.2.2)], 11⟩ hP hN (by kernel_rfl) allNil ?_
            have hr := of_some hr
            subst hr
            exact HT.ret (qThenR ⟨[.one (.dat .bool false)], [], [], by kernel_rfl, by kernel_rfl, rfl, by kernel_rfl, by kernel_rfl, trivial⟩)
          · refine HT.cond0 rfl hb25 ?_
            refine HT.skip (qThen ?_)
            refine HT.seq ?_
            obtain ⟨y26, hc27, hr⟩ := of_bind hr
            obtain ⟨y28, hc29, hr⟩ := of_bind hr
            refine HT.reg1 [1, 2, 3, 8, 9, 10, 11, 12, 13, 65] [⟨none, .no⟩, ⟨none, .no⟩, ⟨none, .call [.imm (.sl (.int .i64))] [⟨true, (.sl (.int .i64)), y26⟩] []⟩, ⟨none, .call [.imm (.sl (.int .i64)), .imm (.sl (.int .i64))] [⟨false, .bool, y28⟩] []⟩, ⟨none, .no⟩] ⟨[(1, .one (.dat (.sl (.int .i64)) a1)), (2, .one (.dat (.int .i64) a2)), (3, .one (.ptr 0 0)), (8, .one (.all 1)), (9, .one (.dat .bool y9.2)), (10, .one (.ptr 2 0)), (11, .one (.all 3)), (12, .one (.all 4)), (13, .one (.dat .bool y15.2)), (65, .one (.dat .bool (!y28)))], [(11, .seq (.int .i64) y26), (8, .seq (.flt .f32) y21.2.2.1), (9, .seq (.flt .f32) y21.2.2.2.1), (10, .seq (.flt .f32) y21.2.2.2.2), (0, .box [.dat (.int .i64) a0.1, .dat (.int .i64) a0.2.1, .dat (.sl (.flt .f32)) a0.2.2.1, .dat (.sl (.flt .f32)) a0.2.2.2.1, .dat (.sl (.flt .f32)) a0.2.2.2.2]), (1, .seq (.flt .f32) y9.1), (2, .box [.dat (.int .i64) y11.1, .dat (.int .i64) y11.2.1, .all 5, .all 6, .all 7]), (3, .seq (.int .i64) y13), (4, .seq (.flt .f32) y15.1), (5, .seq (.flt .f32) y11.2.2.1), (6, .seq (.flt .f32) y11.2.2.2.1), (7, .seq (.flt .f32) y11.2.2.2.2)], 12⟩ hP hN (by kernel_rfl) (allCons (f13_ok hc27) (allCons (f17_ok hc29) allNil)) ?_
            rcases of_bif hr with ⟨hb30, hr⟩ | ⟨hb30, hr⟩
            · refine HT.cond1 rfl hb30 ?_
              refine HT.reg1 [6] [⟨none, .no⟩] ⟨[(6, .one (.dat .bool false))], [(11, .seq (.int .i64) y26), (8, .seq (.flt .f32) y21.2.2.1), (9, .seq (.flt .f32) y21.2.2.2.1), (10, .seq (.flt .f32) y21.2.2.2.2), (0, .box [.dat (.int .i64) a0.1, .dat (.int .i64) a0.2.1, .dat (.sl (.flt .f32)) a0.2.2.1, .dat (.sl (.flt .f32)) a0.2.2.2.1, .dat (.sl (.flt .f32)) a0.2.2.2.2]), (1, .seq (.flt .f32) y9.1), (2, .box [.dat (.int .i64) y11.1, .dat (.int .i64) y11.2.1, .all 5, .all 6, .all 7]), (3, .seq (.int .i64) y13), (4, .seq (.flt .f32) y15.1), (5, .seq (.flt .f32) y11.2.2.1), (6, .seq (.flt .f32) y11.2.2.2.1), (7, .seq (.flt .f32) y11.2.2.2.2)], 12⟩ hP hN (by kernel_rfl) allNil ?_
              have hr := of_some hr
              subst hr
              exact HT.ret (qThenR ⟨[.one (.dat .bool false)], [], [], by kernel_rfl, by kernel_rfl, rfl, by kernel_rfl, by kernel_rfl, trivial⟩)
            · refine HT.cond0 rfl hb30 ?_
              refine HT.skip (qThen ?_)
              refine HT.reg1 [1, 2, 3, 8, 9, 10, 11, 12, 13, 14] [⟨none, .no⟩] ⟨[(1, .one (.dat (.sl (.int .i64)) a1)), (2, .one (.dat (.int .i64) a2)), (3, .one (.ptr 0 0)), (8, .one (.all 1)), (9, .one (.dat .bool y9.2)), (10, .one (.ptr 2 0)), (11, .one (.all 3)), (12, .one (.all 4)), (13, .one (.dat .bool y15.2)), (14, .one (.dat (.int .i64) (1 : Int)))], [(11, .seq (.int .i64) y26), (8, .seq (.flt .f32) y21.2.2.1), (9, .seq (.flt .f32) y21.2.2.2.1), (10, .seq (.flt .f32) y21.2.2.2.2), (0, .box [.dat (.int .i64) a0.1, .dat (.int .i64) a0.2.1, .dat (.sl (.flt .f32)) a0.2.2.1, .dat (.sl (.flt .f32)) a0.2.2.2.1, .dat (.sl (.flt .f32)) a0.2.2.2.2]), (1, .seq (.flt .f32) y9.1), (2, .box [.dat (.int .i64) y11.1, .dat (.int .i64) y11.2.1, .all 5, .all 6, .all 7]), (3, .seq (.int .i64) y13), (4, .seq (.flt .f32) y15.1), (5, .seq (.flt .f32) y11.2.2.1), (6, .seq (.flt .f32) y11.2.2.2.1), (7, .seq (.flt .f32) y11.2.2.2.2)], 12⟩ hP hN (by kernel_rfl) allNil ?_
              obtain ⟨y31, hc32, hr⟩ := of_bind hr
              refine HT.reg1 [1, 2, 3, 8, 9, 11, 12, 13, 14] [⟨none, .no⟩, ⟨none, .no⟩, ⟨none, .call [.own (.st (.pair (.int .i64) (.pair (.int .i64) (.pair (.sl (.flt .f32)) (.pair (.sl (.flt .f32)) (.sl (.flt .f32))))))), .imm (.int .i64)] [⟨false, (.int .i64), y31.1⟩] [⟨(.st (.pair (.int .i64) (.pair (.int .i64) (.pair (.sl (.flt .f32)) (.pair (.sl (.flt .f32)) (.sl (.flt .f32))))))), y31.2⟩]⟩, ⟨none, .no⟩] ⟨[(1, .one (.dat (.sl (.int .i64)) a1)), (2, .one (.dat (.int .i64) a2)), (3, .one (.ptr 0 0)), (8, .one (.all 1)), (9, .one (.dat .bool y9.2)), (11, .one (.all 3)), (12, .one (.all 4)), (13, .one (.dat .bool y15.2)), (14, .one (.dat (.int .i64) y31.1))], [(5, .seq (.flt .f32) y31.2.2.2.1), (6, .seq (.flt .f32) y31.2.2.2.2.1), (7, .seq (.flt .f32) y31.2.2.2.2.2), (11, .seq (.int .i64) y26), (8, .seq (.flt .f32) y21.2.2.1), (9, .seq (.flt .f32) y21.2.2.2.1), (10, .seq (.flt .f32) y21.2.2.2.2), (0, .box [.dat (.int .i64) a0.1, .dat (.int .i64) a0.2.1, .dat (.sl (.flt .f32)) a0.2.2.1, .dat (.sl (.flt .f32)) a0.2.2.2.1, .dat (.sl (.flt .f32)) a0.2.2.2.2]), (1, .seq (.flt .f32) y9.1), (2, .box [.dat (.int .i64) y11.1, .dat (.int .i64) y11.2.1, .all 5, .all 6, .all 7]), (3, .seq (.int .i64) y13), (4, .seq (.flt .f32) y15.1), (5, .seq (.flt .f32) y11.2.2.1), (6, .seq (.flt .f32) y11.2.2.2.1), (7, .seq (.flt .f32) y11.2.2.2.2)], 12⟩ hP hN (by kernel_rfl) (allCons (f18_ok hc32) allNil) ?_
              obtain ⟨y33, hc34, hr⟩ := of_bind hr
              refine HT.reg1 [1, 2, 3, 8, 9, 12, 13, 14] [⟨none, .no⟩, ⟨none, .no⟩, ⟨none, .call [.own (.sl (.int .i64)), .imm (.int .i64)] [⟨false, (.int .i64), y33.1⟩] [⟨(.sl (.int .i64)), y33.2⟩]⟩, ⟨none, .no⟩] ⟨[(1, .one (.dat (.sl (.int .i64)) a1)), (2, .one (.dat (.int .i64) a2)), (3, .one (.ptr 0 0)), (8, .one (.all 1)), (9, .one (.dat .bool y9.2)), (12, .one (.all 4)), (13, .one (.dat .bool y15.2)), (14, .one (.dat (.int .i64) y33.1))], [(3, .seq (.int .i64) y33.2), (5, .seq (.flt .f32) y31.2.2.2.1), (6, .seq (.flt .f32) y31.2.2.2.2.1), (7, .seq (.flt .f32) y31.2.2.2.2.2), (11, .seq (.int .i64) y26), (8, .seq (.flt .f32) y21.2.2.1), (9, .seq (.flt .f32) y21.2.2.2.1), (10, .seq (.flt .f32) y21.2.2.2.2), (0, .box [.dat (.int .i64) a0.1, .dat (.int .i64) a0.2.1, .dat (.sl (.flt .f32)) a0.2.2.1, .dat (.sl (.flt .f32)) a0.2.2.2.1, .dat (.sl (.flt .f32)) a0.2.2.2.2]), (1, .seq (.flt .f32) y9.1), (2, .box [.dat (.int .i64) y11.1, .dat (.int .i64) y11.2.1, .all 5, .all 6, .all 7]), (3, .seq (.int .i64) y13), (4, .seq (.flt .f32) y15.1), (5, .seq (.flt .f32) y11.2.2.1), (6, .seq (.flt .f32) y11.2.2.2.1), (7, .seq (.flt .f32) y11.2.2.2.2)], 12⟩ hP hN (by kernel_rfl) (allCons (f19_ok hc34) allNil) ?_
              refine HT.seq ?_
              obtain ⟨v35', hT37, hr⟩ := of_bind hr
              refine HT.join (fun (v35 : Bool) => ⟨[(1, .one (.dat (.sl (.int .i64)) a1)), (2, .one (.dat (.int .i64) a2)), (3, .one (.ptr 0 0)), (8, .one (.all 1)), (9, .one (.dat .bool y9.2)), (12, .one (.all 2)), (84, .one (.dat .bool v35))], [(0, .box [.dat (.int .i64) a0.1, .dat (.int .i64) a0.2.1, .dat (.sl (.flt .f32)) a0.2.2.1, .dat (.sl (.flt .f32)) a0.2.2.2.1, .dat (.sl (.flt .f32)) a0.2.2.2.2]), (1, .seq (.flt .f32) y9.1), (2, .seq (.flt .f32) y15.1)], 3⟩) (fun v => v = v35') (fun v35 hv36 => ?_) (fun cont => ?_)
              · subst hv36
                rcases of_bif hr with ⟨hb38, hr⟩ | ⟨hb38, hr⟩
                · refine HT.cond1 rfl hb38 ?_
                  refine HT.reg1 [6] [⟨none, .no⟩] ⟨[(6, .one (.dat .bool false))], [(0, .box [.dat (.int .i64) a0.1, .dat (.int .i64) a0.2.1, .dat (.sl (.flt .f32)) a0.2.2.1, .dat (.sl (.flt .f32)) a0.2.2.2.1, .dat (.sl (.flt .f32)) a0.2.2.2.2]), (1, .seq (.flt .f32) y9.1), (2, .seq (.flt .f32) y15.1)], 3⟩ hP hN (by kernel_rfl) allNil ?_
                  have hr := of_some hr
                  subst hr
                  exact HT.ret (qThenR ⟨[.one (.dat .bool false)], [], [], by kernel_rfl, by kernel_rfl, rfl, by kernel_rfl, by kernel_rfl, trivial⟩)
                · refine HT.cond0 rfl hb38 ?_
                  refine HT.skip (qThen ?_)
                  refine HT.reg1 [1, 2, 3, 8, 9, 12, 15] [⟨none, .no⟩] ⟨[(1, .one (.dat (.sl (.int .i64)) a1)), (2, .one (.dat (.int .i64) a2)), (3, .one (.ptr 0 0)), (8, .one (.all 1)), (9, .one (.dat .bool y9.2)), (12, .one (.all 2)), (15, .one (.dat (.int .i64) (1 : Int)))], [(0, .box [.dat (.int .i64) a0.1, .dat (.int .i64) a0.2.1, .dat (.sl (.flt .f32)) a0.2.2.1, .dat (.sl (.flt .f32)) a0.2.2.2.1, .dat (.sl (.flt .f32)) a0.2.2.2.2]), (1, .seq (.flt .f32) y9.1), (2, .seq (.flt .f32) y15.1)], 3⟩ hP hN (by kernel_rfl) allNil ?_
                  obtain ⟨y39, hc40, hr⟩ := of_bind hr
                  refine HT.reg1 [1, 2, 3, 8, 9, 12, 15] [⟨none, .no⟩, ⟨none, .no⟩, ⟨none, .call [.own (.sl (.flt .f32)), .imm (.int .i64)] [⟨false, (.int .i64), y39.1⟩] [⟨(.sl (.flt .f32)), y39.2⟩]⟩, ⟨none, .no⟩] ⟨[(1, .one (.dat (.sl (.int .i64)) a1)), (2, .one (.dat (.int .i64) a2)), (3, .one (.ptr 0 0)), (8, .one (.all 1)), (9, .one (.dat .bool y9.2)), (12, .one (.all 2)), (15, .one (.dat (.int .i64) y39.1))], [(2, .seq (.flt .f32) y39.2), (0, .box [.dat (.int .i64) a0.1, .dat (.int .i64) a0.2.1, .dat (.sl (.flt .f32)) a0.2.2.1, .dat (.sl (.flt .f32)) a0.2.2.2.1, .dat (.sl (.flt .f32)) a0.2.2.2.2]), (1, .seq (.flt .f32) y9.1), (2, .seq (.flt .f32) y15.1)], 3⟩ hP hN (by kernel_rfl) (allCons (f20_ok hc40) allNil) ?_
                  refine HT.reg1 [1, 2, 3, 8, 9, 12, 15, 16] [⟨none, .no⟩] ⟨[(1, .one (.dat (.sl (.int .i64)) a1)), (2, .one (.dat (.int .i64) a2)), (3, .one (.ptr 0 0)), (8, .one (.all 1)), (9, .one (.dat .bool y9.2)), (12, .one (.all 2)), (15, .one (.dat (.int .i64) y39.1)), (16, .one (.dat (.int .i64) (1 : Int)))], [(2, .seq (.flt .f32) y39.2), (0, .box [.dat (.int .i64) a0.1, .dat (.int .i64) a0.2.1, .dat (.sl (.flt .f32)) a0.2.2.1, .dat (.sl (.flt .f32)) a0.2.2.2.1, .dat (.sl (.flt .f32)) a0.2.2.2.2]), (1, .seq (.flt .f32) y9.1), (2, .seq (.flt .f32) y15.1)], 3⟩ hP hN (by kernel_rfl) allNil ?_
                  obtain ⟨y41, hc42, hr⟩ := of_bind hr
                  refine HT.reg1 [1, 2, 3, 8, 9, 12, 15, 16] [⟨none, .no⟩, ⟨none, .no⟩, ⟨none, .call [.imm (.sl (.flt .f32)), .imm (.int .i64)] [⟨false, (.int .i64), y41⟩] []⟩, ⟨none, .no⟩] ⟨[(1, .one (.dat (.sl (.int .i64)) a1)), (2, .one (.dat (.int .i64) a2)), (3, .one (.ptr 0 0)), (8, .one (.all 1)), (9, .one (.dat .bool y9.2)), (12, .one (.all 2)), (15, .one (.dat (.int .i64) y39.1)), (16, .one (.dat (.int .i64) y41))], [(2, .seq (.flt .f32) y39.2), (0, .box [.dat (.int .i64) a0.1, .dat (.int .i64) a0.2.1, .dat (.sl (.flt .f32)) a0.2.2.1, .dat (.sl (.flt .f32)) a0.2.2.2.1, .dat (.sl (.flt .f32)) a0.2.2.2.2]), (1, .seq (.flt .f32) y9.1), (2, .seq (.flt .f32) y15.1)], 3⟩ hP hN (by kernel_rfl) (allCons (f21_ok hc42) allNil) ?_
                  refine HT.seq ?_
                  refine HT.reg1 [1, 2, 3, 8, 9, 12, 15, 16, 92] [⟨none, .no⟩, ⟨none, .no⟩] ⟨[(1, .one (.dat (.sl (.int .i64)) a1)), (2, .one (.dat (.int .i64) a2)), (3, .one (.ptr 0 0)), (8, .one (.all 1)), (9, .one (.dat .bool y9.2)), (12, .one (.all 2)), (15, .one (.dat (.int .i64) y39.1)), (16, .one (.dat (.int .i64) y41)), (92, .one (.dat .bool (decide (y41 < (0 : Int)))))], [(2, .seq (.flt .f32) y39.2), (0, .box [.dat (.int .i64) a0.1, .dat (.int .i64) a0.2.1, .dat (.sl (.flt .f32)) a0.2.2.1, .dat (.sl (.flt .f32)) a0.2.2.2.1, .dat (.sl (.flt .f32)) a0.2.2.2.2]), (1, .seq (.flt .f32) y9.1), (2, .seq (.flt .f32) y15.1)], 3⟩ hP hN (by kernel_rfl) allNil ?_
                  rcases of_bif hr with ⟨hb43, hr⟩ | ⟨hb43, hr⟩
                  · refine HT.cond1 rfl hb43 ?_
                    refine HT.reg1 [6] [⟨none, .no⟩] ⟨[(6, .one (.dat .bool false))], [(2, .seq (.flt .f32) y39.2), (0, .box [.dat (.int .i64) a0.1, .dat (.int .i64) a0.2.1, .dat (.sl (.flt .f32)) a0.2.2.1, .dat (.sl (.flt .f32)) a0.2.2.2.1, .dat (.sl (.flt .f32)) a0.2.2.2.2]), (1, .seq (.flt .f32) y9.1), (2, .seq (.flt .f32) y15.1)], 3⟩ hP hN (by kernel_rfl) allNil ?_
                    have hr := of_some hr
                    subst hr
                    exact HT.ret (qThenR ⟨[.one (.dat .bool false)], [], [], by kernel_rfl, by kernel_rfl, rfl, by kernel_rfl, by kernel_rfl, trivial⟩)
                  · refine HT.cond0 rfl hb43 ?_
                    refine HT.skip (qThen ?_)
                    refine HT.seq ?_
                    refine HT.reg1 [1, 2, 3, 8, 9, 12, 15, 95] [⟨none, .no⟩, ⟨none, .no⟩, ⟨none, .no⟩] ⟨[(1, .one (.dat (.sl (.int .i64)) a1)), (2, .one (.dat (.int .i64) a2)), (3, .one (.ptr 0 0)), (8, .one (.all 1)), (9, .one (.dat .bool y9.2)), (12, .one (.all 2)), (15, .one (.dat (.int .i64) y39.1)), (95, .one (.dat .bool (y41 != y39.1)))], [(2, .seq (.flt .f32) y39.2), (0, .box [.dat (.int .i64) a0.1, .dat (.int .i64) a0.2.1, .dat (.sl (.flt .f32)) a0.2.2.1, .dat (.sl (.flt .f32)) a0.2.2.2.1, .dat (.sl (.flt .f32)) a0.2.2.2.2]), (1, .seq (.flt .f32) y9.1), (2, .seq (.flt .f32) y15.1)], 3⟩ hP hN (by kernel_rfl) allNil ?_
                    rcases of_bif hr with ⟨hb44, hr⟩ | ⟨hb44, hr⟩
                    · refine HT.cond1 rfl hb44 ?_
                      refine HT.reg1 [6] [⟨none, .no⟩] ⟨[(6, .one (.dat .bool false))], [(2, .seq (.flt .f32) y39.2), (0, .box [.dat (.int .i64) a0.1, .dat (.int .i64) a0.2.1, .dat (.sl (.flt .f32)) a0.2.2.1, .dat (.sl (.flt .f32)) a0.2.2.2.1, .dat (.sl (.flt .f32)) a0.2.2.2.2]), (1, .seq (.flt .f32) y9.1), (2, .seq (.flt .f32) y15.1)], 3⟩ hP hN (by kernel_rfl) allNil ?_
                      have hr := of_some hr
                      subst hr
                      exact HT.ret (qThenR ⟨[.one (.dat .bool false)], [], [], by kernel_rfl, by kernel_rfl, rfl, by kernel_rfl, by kernel_rfl, trivial⟩)
                    · refine HT.cond0 rfl hb44 ?_
                      refine HT.skip (qThen ?_)
                      obtain ⟨y45, hc46, hr⟩ := of_bind hr
                      obtain ⟨y47, hc48, hr⟩ := of_bind hr
                      obtain ⟨y49, hc50, hr⟩ := of_bind hr
                      refine HT.reg1 [8, 9, 12, 15, 17, 18] [⟨none, .no⟩, ⟨none, .call [.imm (.st (.pair (.int .i64) (.pair (.int .i64) (.pair (.sl (.flt .f32)) (.pair (.sl (.flt .f32)) (.sl (.flt .f32)))))))] [⟨true, (.st (.pair (.int .i64) (.pair (.int .i64) (.pair (.sl (.flt .f32)) (.pair (.sl (.flt .f32)) (.sl (.flt .f32))))))), y45⟩] []⟩, ⟨none, .no⟩, ⟨none, .call [.imm (.sl (.int .i64))] [⟨true, (.sl (.int .i64)), y47⟩] []⟩, ⟨none, .no⟩, ⟨none, .call [.imm (.st (.pair (.int .i64) (.pair (.int .i64) (.pair (.sl (.flt .f32)) (.pair (.sl (.flt .f32)) (.sl (.flt .f32))))))), .imm (.sl (.int .i64)), .imm (.int .i64)] [⟨true, (.sl (.flt .f32)), y49.1⟩, ⟨false, .bool, y49.2⟩] []⟩, ⟨none, .no⟩, ⟨none, .no⟩, ⟨none, .no⟩, ⟨none, .no⟩, ⟨none, .no⟩] ⟨[(8, .one (.all 1)), (9, .one (.dat .bool y9.2)), (12, .one (.all 2)), (15, .one (.dat (.int .i64) y39.1)), (17, .one (.all 7)), (18, .one (.dat .bool y49.2))], [(7, .seq (.flt .f32) y49.1), (6, .seq (.int .i64) y47), (3, .seq (.flt .f32) y45.2.2.1), (4, .seq (.flt .f32) y45.2.2.2.1), (5, .seq (.flt .f32) y45.2.2.2.2), (2, .seq (.flt .f32) y39.2), (0, .box [.dat (.int .i64) a0.1, .dat (.int .i64) a0.2.1, .dat (.sl (.flt .f32)) a0.2.2.1, .dat (.sl (.flt .f32)) a0.2.2.2.1, .dat (.sl (.flt .f32)) a0.2.2.2.2]), (1, .seq (.flt .f32) y9.1), (2, .seq (.flt .f32) y15.1)], 8⟩ hP hN (by kernel_rfl) (allCons (f12_ok hc46) (allCons (f13_ok hc48) (allCons (f25_ok hc50) allNil))) ?_
                      refine HT.seq ?_
                      obtain ⟨v51', hT53, hr⟩ := of_bind hr
                      refine HT.join (fun (v51 : Bool) => ⟨[(12, .one (.all 0)), (15, .one (.dat (.int .i64) y39.1)), (113, .one (.dat .bool v51))], [(0, .seq (.flt .f32) y39.2)], 1⟩) (fun v => v = v51') (fun v51 hv52 => ?_) (fun cont => ?_)
                      · subst hv52
                        rcases of_bif hr with ⟨hb54, hr⟩ | ⟨hb54, hr⟩
                        · refine HT.cond1 rfl hb54 ?_
                          refine HT.reg1 [6] [⟨none, .no⟩] ⟨[(6, .one (.dat .bool false))], [(0, .seq (.flt .f32) y39.2)], 1⟩ hP hN (by kernel_rfl) allNil ?_
                          have hr := of_some hr
                          subst hr
                          exact HT.ret (qThenR ⟨[.one (.dat .bool false)], [], [], by kernel_rfl, by kernel_rfl, rfl, by kernel_rfl, by kernel_rfl, trivial⟩)
                        · refine HT.cond0 rfl hb54 ?_
                          refine HT.skip (qThen ?_)
                          refine HT.reg1 [12, 15, 16] [⟨none, .no⟩] ⟨[(12, .one (.all 0)), (15, .one (.dat (.int .i64) y39.1)), (16, .one (.dat (.int .i64) (1 : Int)))], [(0, .seq (.flt .f32) y39.2)], 1⟩ hP hN (by kernel_rfl) allNil ?_
                          obtain ⟨y55, hc56, hr⟩ := of_bind hr
                          refine HT.reg1 [15, 16] [⟨none, .no⟩, ⟨none, .no⟩, ⟨none, .call [.imm (.sl (.flt .f32)), .imm (.int .i64)] [⟨false, (.int .i64), y55⟩] []⟩, ⟨none, .no⟩] ⟨[(15, .one (.dat (.int .i64) y39.1)), (16, .one (.dat (.int .i64) y55))], [(0, .seq (.flt .f32) y39.2)], 1⟩ hP hN (by kernel_rfl) (allCons (f21_ok hc56) allNil) ?_
                          refine HT.seq ?_
                          refine HT.reg1 [15, 16, 118] [⟨none, .no⟩, ⟨none, .no⟩] ⟨[(15, .one (.dat (.int .i64) y39.1)), (16, .one (.dat (.int .i64) y55)), (118, .one (.dat .bool (decide (y55 < (0 : Int)))))], [(0, .seq (.flt .f32) y39.2)], 1⟩ hP hN (by kernel_rfl) allNil ?_
                          rcases of_bif hr with ⟨hb57, hr⟩ | ⟨hb57, hr⟩
                          · refine HT.cond1 rfl hb57 ?_
                            refine HT.reg1 [6] [⟨none, .no⟩] ⟨[(6, .one (.dat .bool false))], [(0, .seq (.flt .f32) y39.2)], 1⟩ hP hN (by kernel_rfl) allNil ?_
                            have hr := of_some hr
                            subst hr
                            exact HT.ret (qThenR ⟨[.one (.dat .bool false)], [], [], by kernel_rfl, by kernel_rfl, rfl, by kernel_rfl, by kernel_rfl, trivial⟩)
                          · refine HT.cond0 rfl hb57 ?_
                            refine HT.skip (qThen ?_)
                            refine HT.seq ?_
                            refine HT.reg1 [121] [⟨none, .no⟩, ⟨none, .no⟩, ⟨none, .no⟩] ⟨[(121, .one (.dat .bool (y55 != y39.1)))], [(0, .seq (.flt .f32) y39.2)], 1⟩ hP hN (by kernel_rfl) allNil ?_
                            rcases of_bif hr with ⟨hb58, hr⟩ | ⟨hb58, hr⟩
                            · refine HT.cond1 rfl hb58 ?_
                              refine HT.reg1 [6] [⟨none, .no⟩] ⟨[(6, .one (.dat .bool false))], [(0, .seq (.flt .f32) y39.2)], 1⟩ hP hN (by kernel_rfl) allNil ?_
                              have hr := of_some hr
                              subst hr
                              exact HT.ret (qThenR ⟨[.one (.dat .bool false)], [], [], by kernel_rfl, by kernel_rfl, rfl, by kernel_rfl, by kernel_rfl, trivial⟩)
                            · refine HT.cond0 rfl hb58 ?_
                              refine HT.skip (qThen ?_)
                              refine HT.reg1 [6] [⟨none, .no⟩] ⟨[(6, .one (.dat .bool true))], [(0, .seq (.flt .f32) y39.2)], 1⟩ hP hN (by kernel_rfl) allNil ?_
                              have hr := of_some hr
                              subst hr
                              exact HT.ret ⟨[.one (.dat .bool true)], [], [], by kernel_rfl, by kernel_rfl, rfl, by kernel_rfl, by kernel_rfl, trivial⟩
                      · obtain ⟨y59, hc60, hT53⟩ := of_bind hT53
                        rcases of_bif hT53 with ⟨hb61, hT53⟩ | ⟨hb61, hT53⟩
                        · refine HT.reg (rs := [⟨none, .no⟩, ⟨none, .no⟩, ⟨none, .call [.imm (.sl (.flt .f32)), .imm (.sl (.flt .f32))] [⟨false, .bool, y59⟩] []⟩, ⟨none, .no⟩, ⟨none, .no⟩, ⟨some true, .no⟩, ⟨some true, .no⟩, ⟨some true, .no⟩, ⟨none, .tv true⟩]) (st' := ⟨[(113, .one (.dat .bool true)), (112, .und), (111, .und), (110, .und), (109, .one (.dat .bool (!y59))), (108, .one (.dat .bool (!y59))), (107, .one (.dat .bool y59)), (106, .one (.all 1)), (105, .one (.all 7)), (8, .one (.all 1)), (9, .one (.dat .bool y9.2)), (12, .one (.all 2)), (15, .one (.dat (.int .i64) y39.1)), (17, .one (.all 7)), (18, .one (.dat .bool y49.2))], [(7, .seq (.flt .f32) y49.1), (6, .seq (.int .i64) y47), (3, .seq (.flt .f32) y45.2.2.1), (4, .seq (.flt .f32) y45.2.2.2.1), (5, .seq (.flt .f32) y45.2.2.2.2), (2, .seq (.flt .f32) y39.2), (0, .box [.dat (.int .i64) a0.1, .dat (.int .i64) a0.2.1, .dat (.sl (.flt .f32)) a0.2.2.1, .dat (.sl (.flt .f32)) a0.2.2.2.1, .dat (.sl (.flt .f32)) a0.2.2.2.2]), (1, .seq (.flt .f32) y9.1), (2, .seq (.flt .f32) y15.1)], 8⟩) hP hN (by kernel_rfl) (allCons (f15_ok hc60) (allCons hb61 (allCons hb61 (allCons hb61 (allCons hb61 allNil))))) (qThen ?_)
                          exact (Le.cv (s := ⟨[(2, 0)], [], [], false⟩) (own := []) (ps := [y39.1 = y39.1, true = true, y39.2 = y39.2]) (st' := ⟨[(12, .one (.all 0)), (15, .one (.dat (.int .i64) y39.1)), (113, .one (.dat .bool true))], [(0, .seq (.flt .f32) y39.2)], 1⟩) hO (fun h => by cases h) (by kernel_rfl) ⟨rfl, rfl, rfl, trivial⟩).ht (cont true (of_some hT53))
                        · refine HT.reg (rs := [⟨none, .no⟩, ⟨none, .no⟩, ⟨none, .call [.imm (.sl (.flt .f32)), .imm (.sl (.flt .f32))] [⟨false, .bool, y59⟩] []⟩, ⟨none, .no⟩, ⟨none, .no⟩, ⟨some false, .no⟩, ⟨some false, .no⟩, ⟨some false, .no⟩, ⟨none, .tv false⟩]) (st' := ⟨[(113, .one (.dat .bool (y49.2 != y9.2))), (112, .one (.dat .bool (y49.2 != y9.2))), (111, .one (.dat .bool y9.2)), (110, .one (.dat .bool y49.2)), (109, .one (.dat .bool (!y59))), (108, .one (.dat .bool (!y59))), (107, .one (.dat .bool y59)), (106, .one (.all 1)), (105, .one (.all 7)), (8, .one (.all 1)), (9, .one (.dat .bool y9.2)), (12, .one (.all 2)), (15, .one (.dat (.int .i64) y39.1)), (17, .one (.all 7)), (18, .one (.dat .bool y49.2))], [(7, .seq (.flt .f32) y49.1), (6, .seq (.int .i64) y47), (3, .seq (.flt .f32) y45.2.2.1), (4, .seq (.flt .f32) y45.2.2.2.1), (5, .seq (.flt .f32) y45.2.2.2.2), (2, .seq (.flt .f32) y39.2), (0, .box [.dat (.int .i64) a0.1, .dat (.int .i64) a0.2.1, .dat (.sl (.flt .f32)) a0.2.2.1, .dat (.sl (.flt .f32)) a0.2.2.2.1, .dat (.sl (.flt .f32)) a0.2.2.2.2]), (1, .seq (.flt .f32) y9.1), (2, .seq (.flt .f32) y15.1)], 8⟩) hP hN (by kernel_rfl) (allCons (f15_ok hc60) (allCons hb61 (allCons hb61 (allCons hb61 (allCons hb61 allNil))))) (qThen ?_)
                          exact (Le.cv (s := ⟨[(2, 0)], [], [], false⟩) (own := []) (ps := [y39.1 = y39.1, (y49.2 != y9.2) = (y49.2 != y9.2), y39.2 = y39.2]) (st' := ⟨[(12, .one (.all 0)), (15, .one (.dat (.int .i64) y39.1)), (113, .one (.dat .bool (y49.2 != y9.2)))], [(0, .seq (.flt .f32) y39.2)], 1⟩) hO (fun h => by cases h) (by kernel_rfl) ⟨rfl, rfl, rfl, trivial⟩).ht (cont (y49.2 != y9.2) (of_some hT53))
              · rcases of_bif hT37 with ⟨hb62, hT37⟩ | ⟨hb62, hT37⟩
                · refine HT.reg (rs := [⟨none, .no⟩, ⟨none, .no⟩, ⟨none, .no⟩, ⟨some true, .no⟩, ⟨some true, .no⟩, ⟨some true, .no⟩, ⟨some true, .no⟩, ⟨none, .tv true⟩, ⟨none, .no⟩, ⟨some true, .no⟩, ⟨some true, .no⟩, ⟨some true, .no⟩, ⟨none, .tv true⟩]) (st' := ⟨[(84, .one (.dat .bool true)), (83, .und), (82, .und), (81, .und), (80, .one (.dat .bool true)), (79, .one (.dat .bool true)), (78, .und), (77, .und), (76, .und), (75, .und), (74, .one (.dat .bool (decide (y33.1 < (0 : Int))))), (73, .one (.dat .bool (decide (y33.1 < (0 : Int))))), (72, .one (.dat (.int .i64) y33.1)), (1, .one (.dat (.sl (.int .i64)) a1)), (2, .one (.dat (.int .i64) a2)), (3, .one (.ptr 0 0)), (8, .one (.all 1)), (9, .one (.dat .bool y9.2)), (12, .one (.all 4)), (13, .one (.dat .bool y15.2)), (14, .one (.dat (.int .i64) y33.1))], [(3, .seq (.int .i64) y33.2), (5, .seq (.flt .f32) y31.2.2.2.1), (6, .seq (.flt .f32) y31.2.2.2.2.1), (7, .seq (.flt .f32) y31.2.2.2.2.2), (11, .seq (.int .i64) y26), (8, .seq (.flt .f32) y21.2.2.1), (9, .seq (.flt .f32) y21.2.2.2.1), (10, .seq (.flt .f32) y21.2.2.2.2), (0, .box [.dat (.int .i64) a0.1, .dat (.int .i64) a0.2.1, .dat (.sl (.flt .f32)) a0.2.2.1, .dat (.sl (.flt .f32)) a0.2.2.2.1, .dat (.sl (.flt .f32)) a0.2.2.2.2]), (1, .seq (.flt .f32) y9.1), (2, .box [.dat (.int .i64) y11.1, .dat (.int .i64) y11.2.1, .all 5, .all 6, .all 7]), (3, .seq (.int .i64) y13), (4, .seq (.flt .f32) y15.1), (5, .seq (.flt .f32) y11.2.2.1), (6, .seq (.flt .f32) y11.2.2.2.1), (7, .seq (.flt .f32) y11.2.2.2.2)], 12⟩) hP hN (by kernel_rfl) (allCons hb62 (allCons hb62 (allCons hb62 (allCons hb62 (allCons hb62 (allCons (rfl : true = true) (allCons (rfl : true = true) (allCons (rfl : true = true) (allCons (rfl : true = true) allNil))))))))) (qThen ?_)
                  exact (Le.cv (s := ⟨[(0, 0), (1, 1), (4, 2)], [], [], false⟩) (own := []) (ps := [a1 = a1, a2 = a2, y9.2 = y9.2, true = true, a0.1 = a0.1, a0.2.1 = a0.2.1, a0.2.2.1 = a0.2.2.1, a0.2.2.2.1 = a0.2.2.2.1, a0.2.2.2.2 = a0.2.2.2.2, y9.1 = y9.1, y15.1 = y15.1]) (st' := ⟨[(1, .one (.dat (.sl (.int .i64)) a1)), (2, .one (.dat (.int .i64) a2)), (3, .one (.ptr 0 0)), (8, .one (.all 1)), (9, .one (.dat .bool y9.2)), (12, .one (.all 2)), (84, .one (.dat .bool true))], [(0, .box [.dat (.int .i64) a0.1, .dat (.int .i64) a0.2.1, .dat (.sl (.flt .f32)) a0.2.2.1, .dat (.sl (.flt .f32)) a0.2.2.2.1, .dat (.sl (.flt .f32)) a0.2.2.2.2]), (1, .seq (.flt .f32) y9.1), (2, .seq (.flt .f32) y15.1)], 3⟩) hO (fun h => by cases h) (by kernel_rfl) ⟨rfl, rfl, rfl, rfl, rfl, rfl, rfl, rfl, rfl, rfl, rfl, trivial⟩).ht (cont true (of_some hT37))
                · obtain ⟨y63, hc64, hT37⟩ := of_bind hT37
                  rcases of_bif hT37 with ⟨hb65, hT37⟩ | ⟨hb65, hT37⟩
                  · refine HT.reg (rs := [⟨none, .no⟩, ⟨none, .no⟩, ⟨none, .no⟩, ⟨some false, .no⟩, ⟨some false, .no⟩, ⟨some false, .call [.imm (.sl (.flt .f32)), .imm (.sl (.flt .f32))] [⟨false, .bool, y63⟩] []⟩, ⟨some false, .no⟩, ⟨none, .tv false⟩, ⟨none, .no⟩, ⟨some true, .no⟩, ⟨some true, .no⟩, ⟨some true, .no⟩, ⟨none, .tv true⟩]) (st' := ⟨[(84, .one (.dat .bool true)), (83, .und), (82, .und), (81, .und), (80, .one (.dat .bool (!y63))), (79, .one (.dat .bool (!y63))), (78, .one (.dat .bool (!y63))), (77, .one (.dat .bool y63)), (76, .one (.all 1)), (75, .one (.all 4)), (74, .one (.dat .bool (decide (y33.1 < (0 : Int))))), (73, .one (.dat .bool (decide (y33.1 < (0 : Int))))), (72, .one (.dat (.int .i64) y33.1)), (1, .one (.dat (.sl (.int .i64)) a1)), (2, .one (.dat (.int .i64) a2)), (3, .one (.ptr 0 0)), (8, .one (.all 1)), (9, .one (.dat .bool y9.2)), (12, .one (.all 4)), (13, .one (.dat .bool y15.2)), (14, .one (.dat (.int .i64) y33.1))], [(3, .seq (.int .i64) y33.2), (5, .seq (.flt .f32) y31.2.2.2.1), (6, .seq (.flt .f32) y31.2.2.2.2.1), (7, .seq (.flt .f32) y31.2.2.2.2.2), (11, .seq (.int .i64) y26), (8, .seq (.flt .f32) y21.2.2.1), (9, .seq (.flt .f32) y21.2.2.2.1), (10, .seq (.flt .f32) y21.2.2.2.2), (0, .box [.dat (.int .i64) a0.1, .dat (.int .i64) a0.2.1, .dat (.sl (.flt .f32)) a0.2.2.1, .dat (.sl (.flt .f32)) a0.2.2.2.1, .dat (.sl (.flt .f32)) a0.2.2.2.2]), (1, .seq (.flt .f32) y9.1), (2, .box [.dat (.int .i64) y11.1, .dat (.int .i64) y11.2.1, .all 5, .all 6, .all 7]), (3, .seq (.int .i64) y13), (4, .seq (.flt .f32) y15.1), (5, .seq (.flt .f32) y11.2.2.1), (6, .seq (.flt .f32) y11.2.2.2.1), (7, .seq (.flt .f32) y11.2.2.2.2)], 12⟩) hP hN (by kernel_rfl) (allCons hb62 (allCons hb62 (allCons hb62 (allCons (f15_ok hc64) (allCons hb62 (allCons hb62 (allCons hb65 (allCons hb65 (allCons hb65 (allCons hb65 allNil)))))))))) (qThen ?_)
                    exact (Le.cv (s := ⟨[(0, 0), (1, 1), (4, 2)], [], [], false⟩) (own := []) (ps := [a1 = a1, a2 = a2, y9.2 = y9.2, true = true, a0.1 = a0.1, a0.2.1 = a0.2.1, a0.2.2.1 = a0.2.2.1, a0.2.2.2.1 = a0.2.2.2.1, a0.2.2.2.2 = a0.2.2.2.2, y9.1 = y9.1, y15.1 = y15.1]) (st' := ⟨[(1, .one (.dat (.sl (.int .i64)) a1)), (2, .one (.dat (.int .i64) a2)), (3, .one (.ptr 0 0)), (8, .one (.all 1)), (9, .one (.dat .bool y9.2)), (12, .one (.all 2)), (84, .one (.dat .bool true))], [(0, .box [.dat (.int .i64) a0.1, .dat (.int .i64) a0.2.1, .dat (.sl (.flt .f32)) a0.2.2.1, .dat (.sl (.flt .f32)) a0.2.2.2.1, .dat (.sl (.flt .f32)) a0.2.2.2.2]), (1, .seq (.flt .f32) y9.1), (2, .seq (.flt .f32) y15.1)], 3⟩) hO (fun h => by cases h) (by kernel_rfl) ⟨rfl, rfl, rfl, rfl, rfl, rfl, rfl, rfl, rfl, rfl, rfl, trivial⟩).ht (cont true (of_some hT37))
                  · refine HT.reg (rs := [⟨none, .no⟩, ⟨none, .no⟩, ⟨none, .no⟩, ⟨some false, .no⟩, ⟨some false, .no⟩, ⟨some false, .call [.imm (.sl (.flt .f32)), .imm (.sl (.flt .f32))] [⟨false, .bool, y63⟩] []⟩, ⟨some false, .no⟩, ⟨none, .tv false⟩, ⟨none, .no⟩, ⟨some false, .no⟩, ⟨some false, .no⟩, ⟨some false, .no⟩, ⟨none, .tv false⟩]) (st' := ⟨[(84, .one (.dat .bool (y15.2 != y9.2))), (83, .one (.dat .bool (y15.2 != y9.2))), (82, .one (.dat .bool y9.2)), (81, .one (.dat .bool y15.2)), (80, .one (.dat .bool (!y63))), (79, .one (.dat .bool (!y63))), (78, .one (.dat .bool (!y63))), (77, .one (.dat .bool y63)), (76, .one (.all 1)), (75, .one (.all 4)), (74, .one (.dat .bool (decide (y33.1 < (0 : Int))))), (73, .one (.dat .bool (decide (y33.1 < (0 : Int))))), (72, .one (.dat (.int .i64) y33.1)), (1, .one (.dat (.sl (.int .i64)) a1)), (2, .one (.dat (.int .i64) a2)), (3, .one (.ptr 0 0)), (8, .one (.all 1)), (9, .one (.dat .bool y9.2)), (12, .one (.all 4)), (13, .one (.dat .bool y15.2)), (14, .one (.dat (.int .i64) y33.1))], [(3, .seq (.int .i64) y33.2), (5, .seq (.flt .f32) y31.2.2.2.1), (6, .seq (.flt .f32) y31.2.2.2.2.1), (7, .seq (.flt .f32) y31.2.2.2.2.2), (11, .seq (.int .i64) y26), (8, .seq (.flt .f32) y21.2.2.1), (9, .seq (.flt .f32) y21.2.2.2.1), (10, .seq (.flt .f32) y21.2.2.2.2), (0, .box [.dat (.int .i64) a0.1, .dat (.int .i64) a0.2.1, .dat (.sl (.flt .f32)) a0.2.2.1, .dat (.sl (.flt .f32)) a0.2.2.2.1, .dat (.sl (.flt .f32)) a0.2.2.2.2]), (1, .seq (.flt .f32) y9.1), (2, .box [.dat (.int .i64) y11.1, .dat (.int .i64) y11.2.1, .all 5, .all 6, .all 7]), (3, .seq (.int .i64) y13), (4, .seq (.flt .f32) y15.1), (5, .seq (.flt .f32) y11.2.2.1), (6, .seq (.flt .f32) y11.2.2.2.1), (7, .seq (.flt .f32) y11.2.2.2.2)], 12⟩) hP hN (by kernel_rfl) (allCons hb62 (allCons hb62 (allCons hb62 (allCons (f15_ok hc64) (allCons hb62 (allCons hb62 (allCons hb65 (allCons hb65 (allCons hb65 (allCons hb65 allNil)))))))))) (qThen ?_)
                    exact (Le.cv (s := ⟨[(0, 0), (1, 1), (4, 2)], [], [], false⟩) (own := []) (ps := [a1 = a1, a2 = a2, y9.2 = y9.2, (y15.2 != y9.2) = (y15.2 != y9.2), a0.1 = a0.1, a0.2.1 = a0.2.1, a0.2.2.1 = a0.2.2.1, a0.2.2.2.1 = a0.2.2.2.1, a0.2.2.2.2 = a0.2.2.2.2, y9.1 = y9.1, y15.1 = y15.1]) (st' := ⟨[(1, .one (.dat (.sl (.int .i64)) a1)), (2, .one (.dat (.int .i64) a2)), (3, .one (.ptr 0 0)), (8, .one (.all 1)), (9, .one (.dat .bool y9.2)), (12, .one (.all 2)), (84, .one (.dat .bool (y15.2 != y9.2)))], [(0, .box [.dat (.int .i64) a0.1, .dat (.int .i64) a0.2.1, .dat (.sl (.flt .f32)) a0.2.2.1, .dat (.sl (.flt .f32)) a0.2.2.2.1, .dat (.sl (.flt .f32)) a0.2.2.2.2]), (1, .seq (.flt .f32) y9.1), (2, .seq (.flt .f32) y15.1)], 3⟩) hO (fun h => by cases h) (by kernel_rfl) ⟨rfl, rfl, rfl, rfl, rfl, rfl, rfl, rfl, rfl, rfl, rfl, trivial⟩).ht (cont (y15.2 != y9.2) (of_some hT37))
      · obtain ⟨y66, hc67, hT19⟩ := of_bind hT19
        rcases of_bif hT19 with ⟨hb68, hT19⟩ | ⟨hb68, hT19⟩
        · refine HT.reg (rs := [⟨none, .no⟩, ⟨none, .no⟩, ⟨none, .call [.imm (.sl (.flt .f32)), .imm (.sl (.flt .f32))] [⟨false, .bool, y66⟩] []⟩, ⟨none, .no⟩, ⟨none, .no⟩, ⟨some true, .no⟩, ⟨some true, .no⟩, ⟨some true, .no⟩, ⟨none, .tv true⟩]) (st' := ⟨[(55, .one (.dat .bool true)), (54, .und), (53, .und), (52, .und), (51, .one (.dat .bool (!y66))), (50, .one (.dat .bool (!y66))), (49, .one (.dat .bool y66)), (48, .one (.all 5)), (47, .one (.all 11)), (1, .one (.dat (.sl (.int .i64)) a1)), (2, .one (.dat (.int .i64) a2)), (3, .one (.ptr 0 0)), (8, .one (.all 5)), (9, .one (.dat .bool y9.2)), (10, .one (.ptr 9 0)), (11, .one (.all 10)), (12, .one (.all 11)), (13, .one (.dat .bool y15.2))], [(11, .seq (.flt .f32) y15.1), (10, .seq (.int .i64) y13), (9, .box [.dat (.int .i64) y11.1, .dat (.int .i64) y11.2.1, .all 6, .all 7, .all 8]), (9, .box [.dat (.int .i64) (0 : Int), .dat (.int .i64) (0 : Int), .nilS, .nilS, .nilS]), (6, .seq (.flt .f32) y11.2.2.1), (7, .seq (.flt .f32) y11.2.2.2.1), (8, .seq (.flt .f32) y11.2.2.2.2), (5, .seq (.flt .f32) y9.1), (4, .seq (.int .i64) y7), (1, .seq (.flt .f32) y5.2.2.1), (2, .seq (.flt .f32) y5.2.2.2.1), (3, .seq (.flt .f32) y5.2.2.2.2), (0, .box [.dat (.int .i64) a0.1, .dat (.int .i64) a0.2.1, .dat (.sl (.flt .f32)) a0.2.2.1, .dat (.sl (.flt .f32)) a0.2.2.2.1, .dat (.sl (.flt .f32)) a0.2.2.2.2])], 12⟩) hP hN (by kernel_rfl) (allCons (f15_ok hc67) (allCons hb68 (allCons hb68 (allCons hb68 (allCons hb68 allNil))))) (qThen ?_)
          exact (Le.cv (s := ⟨[(0, 0), (5, 1), (9, 2), (10, 3), (11, 4), (6, 5), (7, 6), (8, 7)], [], [], false⟩) (own := []) (ps := [a1 = a1, a2 = a2, y9.2 = y9.2, y15.2 = y15.2, true = true, a0.1 = a0.1, a0.2.1 = a0.2.1, a0.2.2.1 = a0.2.2.1, a0.2.2.2.1 = a0.2.2.2.1, a0.2.2.2.2 = a0.2.2.2.2, y9.1 = y9.1, y11.1 = y11.1, y11.2.1 = y11.2.1, y13 = y13, y15.1 = y15.1, y11.2.2.1 = y11.2.2.1, y11.2.2.2.1 = y11.2.2.2.1, y11.2.2.2.2 = y11.2.2.2.2]) (st' := ⟨[(1, .one (.dat (.sl (.int .i64)) a1)), (2, .one (.dat (.int .i64) a2)), (3, .one (.ptr 0 0)), (8, .one (.all 1)), (9, .one (.dat .bool y9.2)), (10, .one (.ptr 2 0)), (11, .one (.all 3)), (12, .one (.all 4)), (13, .one (.dat .bool y15.2)), (55, .one (.dat .bool true))], [(0, .box [.dat (.int .i64) a0.1, .dat (.int .i64) a0.2.1, .dat (.sl (.flt .f32)) a0.2.2.1, .dat (.sl (.flt .f32)) a0.2.2.2.1, .dat (.sl (.flt .f32)) a0.2.2.2.2]), (1, .seq (.flt .f32) y9.1), (2, .box [.dat (.int .i64) y11.1, .dat (.int .i64) y11.2.1, .all 5, .all 6, .all 7]), (3, .seq (.int .i64) y13), (4, .seq (.flt .f32) y15.1), (5, .seq (.flt .f32) y11.2.2.1), (6, .seq (.flt .f32) y11.2.2.2.1), (7, .seq (.flt .f32) y11.2.2.2.2)], 8⟩) hO (fun h => by cases h) (by kernel_rfl) ⟨rfl, rfl, rfl, rfl, rfl, rfl, rfl, rfl, rfl, rfl, rfl, rfl, rfl, rfl, rfl, rfl, rfl, rfl, trivial⟩).ht (cont true (of_some hT19))
        · refine HT.reg (rs := [⟨none, .no⟩, ⟨none, .no⟩, ⟨none, .call [.imm (.sl (.flt .f32)), .imm (.sl (.flt .f32))] [⟨false, .bool, y66⟩] []⟩, ⟨none, .no⟩, ⟨none, .no⟩, ⟨some false, .no⟩, ⟨some false, .no⟩, ⟨some false, .no⟩, ⟨none, .tv false⟩]) (st' := ⟨[(55, .one (.dat .bool (y15.2 != y9.2))), (54, .one (.dat .bool (y15.2 != y9.2))), (53, .one (.dat .bool y9.2)), (52, .one (.dat .bool y15.2)), (51, .one (.dat .bool (!y66))), (50, .one (.dat .bool (!y66))), (49, .one (.dat .bool y66)), (48, .one (.all 5)), (47, .one (.all 11)), (1, .one (.dat (.sl (.int .i64)) a1)), (2, .one (.dat (.int .i64) a2)), (3, .one (.ptr 0 0)), (8, .one (.all 5)), (9, .one (.dat .bool y9.2)), (10, .one (.ptr 9 0)), (11, .one (.all 10)), (12, .one (.all 11)), (13, .one (.dat .bool y15.2))], [(11, .seq (.flt .f32) y15.1), (10, .seq (.int .i64) y13), (9, .box [.dat (.int .i64) y11.1, .dat (.int .i64) y11.2.1, .all 6, .all 7, .all 8]), (9, .box [.dat (.int .i64) (0 : Int), .dat (.int .i64) (0 : Int), .nilS, .nilS, .nilS]), (6, .seq (.flt .f32) y11.2.2.1), (7, .seq (.flt .f32) y11.2.2.2.1), (8, .seq (.flt .f32) y11.2.2.2.2), (5, .seq (.flt .f32) y9.1), (4, .seq (.int .i64) y7), (1, .seq (.flt .f32) y5.2.2.1), (2, .seq (.flt .f32) y5.2.2.2.1), (3, .seq (.flt .f32) y5.2.2.2.2), (0, .box [.dat (.int .i64) a0.1, .dat (.int .i64) a0.2.1, .dat (.sl (.flt .f32)) a0.2.2.1, .dat (.sl (.flt .f32)) a0.2.2.2.1, .dat (.sl (.flt .f32)) a0.2.2.2.2])], 12⟩) hP hN (by kernel_rfl) (allCons (f15_ok hc67) (allCons hb68 (allCons hb68 (allCons hb68 (allCons hb68 allNil))))) (qThen ?_)
          exact (Le.cv (s := ⟨[(0, 0), (5, 1), (9, 2), (10, 3), (11, 4), (6, 5), (7, 6), (8, 7)], [], [], false⟩) (own := []) (ps := [a1 = a1, a2 = a2, y9.2 = y9.2, y15.2 = y15.2, (y15.2 != y9.2) = (y15.2 != y9.2), a0.1 = a0.1, a0.2.1 = a0.2.1, a0.2.2.1 = a0.2.2.1, a0.2.2.2.1 = a0.2.2.2.1, a0.2.2.2.2 = a0.2.2.2.2, y9.1 = y9.1, y11.1 = y11.1, y11.2.1 = y11.2.1, y13 = y13, y15.1 = y15.1, y11.2.2.1 = y11.2.2.1, y11.2.2.2.1 = y11.2.2.2.1, y11.2.2.2.2 = y11.2.2.2.2]) (st' := ⟨[(1, .one (.dat (.sl (.int .i64)) a1)), (2, .one (.dat (.int .i64) a2)), (3, .one (.ptr 0 0)), (8, .one (.all 1)), (9, .one (.dat .bool y9.2)), (10, .one (.ptr 2 0)), (11, .one (.all 3)), (12, .one (.all 4)), (13, .one (.dat .bool y15.2)), (55, .one (.dat .bool (y15.2 != y9.2)))], [(0, .box [.dat (.int .i64) a0.1, .dat (.int .i64) a0.2.1, .dat (.sl (.flt .f32)) a0.2.2.1, .dat (.sl (.flt .f32)) a0.2.2.2.1, .dat (.sl (.flt .f32)) a0.2.2.2.2]), (1, .seq (.flt .f32) y9.1), (2, .box [.dat (.int .i64) y11.1, .dat (.int .i64) y11.2.1, .all 5, .all 6, .all 7]), (3, .seq (.int .i64) y13), (4, .seq (.flt .f32) y15.1), (5, .seq (.flt .f32) y11.2.2.1), (6, .seq (.flt .f32) y11.2.2.2.1), (7, .seq (.flt .f32) y11.2.2.2.2)], 8⟩) hO (fun h => by cases h) (by kernel_rfl) ⟨rfl, rfl, rfl, rfl, rfl, rfl, rfl, rfl, rfl, rfl, rfl, rfl, rfl, rfl, rfl, rfl, rfl, rfl, trivial⟩).ht (cont (y15.2 != y9.2) (of_some hT19))

end Go.Proofs
