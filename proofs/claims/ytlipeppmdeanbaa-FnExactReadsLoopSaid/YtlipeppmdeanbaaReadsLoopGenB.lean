import Derived.Test.YtlipeppmdeanbaaReadsLoopGenA
import Derived.Test.YtlipeppmdeanbaaProg
set_option linter.unusedVariables false
set_option linter.unusedSimpArgs false
/-
  Functions as plain functions, and their contracts. Printed by a program.
-/
namespace Go.Proofs
open Go.Ide

noncomputable def impl_readsLoop_B1 (a0 : Int × Int × List Int × List Bool) (y1 : List Bool) (s3 : Int) : Option ((Int) ⊕ (Unit ⊕ Unit)) :=
  bif (decide (s3 < (lenI y1))) then
    guardP ((0 : Int) ≤ s3 ∧ s3 < lenI y1) (
      (show Option (Bool) from
        bif (List.getD y1 (Int.toNat s3) false) then
          guardP ((0 : Int) ≤ s3 ∧ s3 < lenI a0.2.2.2) (
            some (List.getD a0.2.2.2 (Int.toNat s3) false))
        else
          some false).bind fun v12 =>
      bif v12 then
        some (.inr (.inr ()))
      else
        some (.inl (wadd .i64 s3 (1 : Int))))
  else
    some (.inr (.inl ()))

noncomputable def impl_readsLoop (a0 : Int × Int × List Int × List Bool) (a1 : List Int × List Int) : Option (Bool) :=
  (impl_statesOfLoop (a0.1, a0.2.1, a0.2.2.1, a0.2.2.2) (a1.1, a1.2)).bind fun y1 =>
  (rounds (impl_readsLoop_B1 a0 y1) (0 : Int)).bind fun r4 => match r4 with
    | .inl r5 =>
      some false
    | .inr r6 =>
      some true

theorem f94_ok {a0 : Int × Int × List Int × List Bool} {a1 : List Int × List Int} {r : Bool} (hr : impl_readsLoop a0 a1 = some r) : CallOK Try.prog 94 [.imm (.st (.pair (.int .i64) (.pair (.int .i64) (.pair (.sl (.int .i64)) (.sl .bool))))) a0, .imm (.st (.pair (.sl (.int .i64)) (.sl (.int .i64)))) a1] [⟨false, .bool, r⟩] [] := by
  unfold impl_readsLoop at hr
  refine CallOK.of_body (ts := [(false, .bool)]) Try.func94 rfl (by kernel_rfl) (Nat.le_of_ble_eq_true (by kernel_rfl)) fun cx hP hN hO hF => ?_
  have hO : cx.own.map Prod.fst = [] := hO
  show HT cx ⟨[(0, .agg [.dat (.int .i64) a0.1, .dat (.int .i64) a0.2.1, .dat (.sl (.int .i64)) a0.2.2.1, .dat (.sl .bool) a0.2.2.2]), (1, .agg [.dat (.sl (.int .i64)) a1.1, .dat (.sl (.int .i64)) a1.2])], [], 0⟩ _ _
  refine HT.reg1 [2, 3] [⟨none, .no⟩, ⟨none, .no⟩, ⟨none, .no⟩] ⟨[(2, .one (.ptr 0 0)), (3, .one (.ptr 1 0))], [(1, .box [.dat (.sl (.int .i64)) a1.1, .dat (.sl (.int .i64)) a1.2]), (0, .box [.dat (.int .i64) a0.1, .dat (.int .i64) a0.2.1, .dat (.sl (.int .i64)) a0.2.2.1, .dat (.sl .bool) a0.2.2.2])], 2⟩ hP hN (by kernel_rfl) allNil ?_
  refine HT.seq ?_
  obtain ⟨y1, hc2, hr⟩ := of_bind hr
  refine HT.reg1 [2, 9, 10, 11] [⟨none, .no⟩, ⟨none, .no⟩, ⟨none, .call [.imm (.st (.pair (.int .i64) (.pair (.int .i64) (.pair (.sl (.int .i64)) (.sl .bool))))), .imm (.st (.pair (.sl (.int .i64)) (.sl (.int .i64))))] [⟨true, (.sl .bool), y1⟩] []⟩, ⟨none, .no⟩, ⟨none, .no⟩] ⟨[(2, .one (.ptr 0 0)), (9, .one (.all 2)), (10, .one (.dat (.int .i64) (lenI y1))), (11, .one (.dat (.int .i64) (0 : Int)))], [(2, .seq .bool y1), (1, .box [.dat (.sl (.int .i64)) a1.1, .dat (.sl (.int .i64)) a1.2]), (0, .box [.dat (.int .i64) a0.1, .dat (.int .i64) a0.2.1, .dat (.sl (.int .i64)) a0.2.2.1, .dat (.sl .bool) a0.2.2.2])], 3⟩ hP hN (by kernel_rfl) (allCons (f118_ok hc2) allNil) ?_
  refine HT.block ?_
  obtain ⟨r4, hL18, hr⟩ := of_bind hr
  refine (Le.cv (s := ⟨[(0, 0), (2, 1)], [], [], false⟩) (own := []) (ps := [(lenI y1) = (lenI y1), (0 : Int) = (0 : Int), a0.1 = a0.1, a0.2.1 = a0.2.1, a0.2.2.1 = a0.2.2.1, a0.2.2.2 = a0.2.2.2, y1 = y1]) (st' := ⟨[(2, .one (.ptr 0 0)), (9, .one (.all 1)), (10, .one (.dat (.int .i64) (lenI y1))), (11, .one (.dat (.int .i64) (0 : Int)))], [(0, .box [.dat (.int .i64) a0.1, .dat (.int .i64) a0.2.1, .dat (.sl (.int .i64)) a0.2.2.1, .dat (.sl .bool) a0.2.2.2]), (1, .seq .bool y1)], 2⟩) hO (fun h => by cases h) (by kernel_rfl) ⟨rfl, rfl, rfl, rfl, rfl, rfl, rfl, trivial⟩).ht ?_
  refine HT.loopE (s := (0 : Int)) (fun (s3 : Int) => ⟨[(2, .one (.ptr 0 0)), (9, .one (.all 1)), (10, .one (.dat (.int .i64) (lenI y1))), (11, .one (.dat (.int .i64) s3))], [(0, .box [.dat (.int .i64) a0.1, .dat (.int .i64) a0.2.1, .dat (.sl (.int .i64)) a0.2.2.1, .dat (.sl .bool) a0.2.2.2]), (1, .seq .bool y1)], 2⟩) (fun (r4 : Unit ⊕ Unit) => match r4 with | .inl r5 => (.exit 0, ⟨[], [], 0⟩) | .inr r6 => (.ret, ⟨[(4, .one (.dat .bool true))], [], 0⟩)) hL18 ?_ (fun s3 x7 hx8 hk9 => ?_)
  · rcases r4 with r5 | r6
    · refine (qBlockX (qThen ?_))
      refine HT.reg1 [4] [⟨none, .no⟩] ⟨[(4, .one (.dat .bool false))], [], 0⟩ hP hN (by kernel_rfl) allNil ?_
      have hr := of_some hr
      subst hr
      exact HT.ret ⟨[.one (.dat .bool false)], [], [], by kernel_rfl, by kernel_rfl, rfl, (.inl rfl), by kernel_rfl, trivial⟩
    · have hr := of_some hr
      subst hr
      exact (qBlockR (qThenR ⟨[.one (.dat .bool true)], [], [], by kernel_rfl, by kernel_rfl, rfl, (.inl rfl), by kernel_rfl, trivial⟩))
  · refine HT.reg1 [2, 9, 10, 11, 12] [⟨none, .no⟩] ⟨[(2, .one (.ptr 0 0)), (9, .one (.all 1)), (10, .one (.dat (.int .i64) (lenI y1))), (11, .one (.dat (.int .i64) s3)), (12, .one (.dat .bool (decide (s3 < (lenI y1)))))], [(0, .box [.dat (.int .i64) a0.1, .dat (.int .i64) a0.2.1, .dat (.sl (.int .i64)) a0.2.2.1, .dat (.sl .bool) a0.2.2.2]), (1, .seq .bool y1)], 2⟩ hP hN (by kernel_rfl) allNil ?_
    refine HT.seq ?_
    rcases of_bif hx8 with ⟨hb10, hx8⟩ | ⟨hb10, hx8⟩
    · refine HT.cond1 rfl hb10 ?_
      refine HT.skip (qThen ?_)
      refine HT.seq ?_
      refine HT.block ?_
      obtain ⟨hg11, hx8⟩ := of_guard hx8
      refine HT.reg1 [2, 5, 6, 9, 10, 11] [⟨none, .no⟩, ⟨none, .no⟩, ⟨none, .no⟩, ⟨none, .no⟩, ⟨none, .no⟩] ⟨[(2, .one (.ptr 0 0)), (5, .one (.dat (.int .i64) s3)), (6, .one (.dat .bool (List.getD y1 (Int.toNat s3) false))), (9, .one (.all 1)), (10, .one (.dat (.int .i64) (lenI y1))), (11, .one (.dat (.int .i64) s3))], [(0, .box [.dat (.int .i64) a0.1, .dat (.int .i64) a0.2.1, .dat (.sl (.int .i64)) a0.2.2.1, .dat (.sl .bool) a0.2.2.2]), (1, .seq .bool y1)], 2⟩ hP hN (by kernel_rfl) (allCons hg11 (allCons (natLt hg11) allNil)) ?_
      obtain ⟨v12', hT14, hx8⟩ := of_bind hx8
      refine HT.join (fun (v12 : Bool) => ⟨[(2, .one (.ptr 0 0)), (9, .one (.all 1)), (10, .one (.dat (.int .i64) (lenI y1))), (11, .one (.dat (.int .i64) s3)), (23, .one (.dat .bool v12))], [(0, .box [.dat (.int .i64) a0.1, .dat (.int .i64) a0.2.1, .dat (.sl (.int .i64)) a0.2.2.1, .dat (.sl .bool) a0.2.2.2]), (1, .seq .bool y1)], 2⟩) (fun v => v = v12') (fun v12 hv13 => ?_) (fun cont => ?_)
      · subst hv13
        rcases of_bif hx8 with ⟨hb15, hx8⟩ | ⟨hb15, hx8⟩
        · refine HT.cond1 rfl hb15 ?_
          refine HT.reg1 [4] [⟨none, .no⟩] ⟨[(4, .one (.dat .bool true))], [(0, .box [.dat (.int .i64) a0.1, .dat (.int .i64) a0.2.1, .dat (.sl (.int .i64)) a0.2.2.1, .dat (.sl .bool) a0.2.2.2]), (1, .seq .bool y1)], 2⟩ hP hN (by kernel_rfl) allNil ?_
          have hx8 := of_some hx8
          subst hx8
          refine (Le.cv (s := ⟨[], [], [], false⟩) (own := []) (ps := [true = true]) (st' := ⟨[(4, .one (.dat .bool true))], [], 0⟩) hO (fun h => by cases h) (by kernel_rfl) ⟨rfl, trivial⟩).ht ?_
          exact HT.ret (qBlockR (qThenR (qLoopR (hk9 (.inr ()) rfl))))
        · refine HT.cond0 rfl hb15 ?_
          refine HT.skip (qBlock (qThen ?_))
          have hx8 := of_some hx8
          subst hx8
          refine HT.reg (rs := [⟨none, .no⟩, ⟨none, .no⟩]) (st' := ⟨[(11, .one (.dat (.int .i64) (wadd .i64 s3 (1 : Int)))), (24, .one (.dat (.int .i64) (wadd .i64 s3 (1 : Int)))), (2, .one (.ptr 0 0)), (9, .one (.all 1)), (10, .one (.dat (.int .i64) (lenI y1))), (11, .one (.dat (.int .i64) s3)), (23, .one (.dat .bool v12))], [(0, .box [.dat (.int .i64) a0.1, .dat (.int .i64) a0.2.1, .dat (.sl (.int .i64)) a0.2.2.1, .dat (.sl .bool) a0.2.2.2]), (1, .seq .bool y1)], 2⟩) hP hN (by kernel_rfl) allNil (qLoopN ⟨(wadd .i64 s3 (1 : Int)), rfl, Le.cv (s := ⟨[(0, 0), (1, 1)], [], [], false⟩) (own := []) (ps := [(lenI y1) = (lenI y1), (wadd .i64 s3 (1 : Int)) = (wadd .i64 s3 (1 : Int)), a0.1 = a0.1, a0.2.1 = a0.2.1, a0.2.2.1 = a0.2.2.1, a0.2.2.2 = a0.2.2.2, y1 = y1]) (st' := ⟨[(2, .one (.ptr 0 0)), (9, .one (.all 1)), (10, .one (.dat (.int .i64) (lenI y1))), (11, .one (.dat (.int .i64) (wadd .i64 s3 (1 : Int))))], [(0, .box [.dat (.int .i64) a0.1, .dat (.int .i64) a0.2.1, .dat (.sl (.int .i64)) a0.2.2.1, .dat (.sl .bool) a0.2.2.2]), (1, .seq .bool y1)], 2⟩) hO (fun h => by cases h) (by kernel_rfl) ⟨rfl, rfl, rfl, rfl, rfl, rfl, rfl, trivial⟩⟩)
      · rcases of_bif hT14 with ⟨hb16, hT14⟩ | ⟨hb16, hT14⟩
        · obtain ⟨hg17, hT14⟩ := of_guard hT14
          refine HT.reg (rs := [⟨none, .no⟩, ⟨none, .no⟩, ⟨some true, .no⟩, ⟨some true, .no⟩, ⟨some true, .no⟩, ⟨some true, .no⟩, ⟨some true, .no⟩, ⟨none, .tv true⟩]) (st' := ⟨[(23, .one (.dat .bool (List.getD a0.2.2.2 (Int.toNat s3) false))), (22, .one (.dat .bool (List.getD a0.2.2.2 (Int.toNat s3) false))), (21, .one (.ip .bool (List.getD a0.2.2.2 (Int.toNat s3) false) 0)), (20, .one (.dat (.int .i64) s3)), (19, .one (.dat (.sl .bool) a0.2.2.2)), (18, .one (.ptr 0 3)), (17, .one (.dat .bool (List.getD y1 (Int.toNat s3) false))), (16, .one (.dat .bool (List.getD y1 (Int.toNat s3) false))), (2, .one (.ptr 0 0)), (5, .one (.dat (.int .i64) s3)), (6, .one (.dat .bool (List.getD y1 (Int.toNat s3) false))), (9, .one (.all 1)), (10, .one (.dat (.int .i64) (lenI y1))), (11, .one (.dat (.int .i64) s3))], [(0, .box [.dat (.int .i64) a0.1, .dat (.int .i64) a0.2.1, .dat (.sl (.int .i64)) a0.2.2.1, .dat (.sl .bool) a0.2.2.2]), (1, .seq .bool y1)], 2⟩) hP hN (by kernel_rfl) (allCons hb16 (allCons hb16 (allCons hb16 (allCons hb16 (allCons hg17 (allCons hb16 (allCons hb16 allNil))))))) (qThen ?_)
          exact (Le.cv (s := ⟨[(0, 0), (1, 1)], [], [], false⟩) (own := []) (ps := [(lenI y1) = (lenI y1), s3 = s3, (List.getD a0.2.2.2 (Int.toNat s3) false) = (List.getD a0.2.2.2 (Int.toNat s3) false), a0.1 = a0.1, a0.2.1 = a0.2.1, a0.2.2.1 = a0.2.2.1, a0.2.2.2 = a0.2.2.2, y1 = y1]) (st' := ⟨[(2, .one (.ptr 0 0)), (9, .one (.all 1)), (10, .one (.dat (.int .i64) (lenI y1))), (11, .one (.dat (.int .i64) s3)), (23, .one (.dat .bool (List.getD a0.2.2.2 (Int.toNat s3) false)))], [(0, .box [.dat (.int .i64) a0.1, .dat (.int .i64) a0.2.1, .dat (.sl (.int .i64)) a0.2.2.1, .dat (.sl .bool) a0.2.2.2]), (1, .seq .bool y1)], 2⟩) hO (fun h => by cases h) (by kernel_rfl) ⟨rfl, rfl, rfl, rfl, rfl, rfl, rfl, rfl, trivial⟩).ht (cont (List.getD a0.2.2.2 (Int.toNat s3) false) (of_some hT14))
        · refine HT.reg (rs := [⟨none, .no⟩, ⟨none, .no⟩, ⟨some false, .no⟩, ⟨some false, .no⟩, ⟨some false, .no⟩, ⟨some false, .no⟩, ⟨some false, .no⟩, ⟨none, .tv false⟩]) (st' := ⟨[(23, .one (.dat .bool false)), (22, .und), (21, .und), (20, .und), (19, .und), (18, .und), (17, .one (.dat .bool (List.getD y1 (Int.toNat s3) false))), (16, .one (.dat .bool (List.getD y1 (Int.toNat s3) false))), (2, .one (.ptr 0 0)), (5, .one (.dat (.int .i64) s3)), (6, .one (.dat .bool (List.getD y1 (Int.toNat s3) false))), (9, .one (.all 1)), (10, .one (.dat (.int .i64) (lenI y1))), (11, .one (.dat (.int .i64) s3))], [(0, .box [.dat (.int .i64) a0.1, .dat (.int .i64) a0.2.1, .dat (.sl (.int .i64)) a0.2.2.1, .dat (.sl .bool) a0.2.2.2]), (1, .seq .bool y1)], 2⟩) hP hN (by kernel_rfl) (allCons hb16 (allCons hb16 (allCons hb16 (allCons hb16 (allCons hb16 (allCons hb16 allNil)))))) (qThen ?_)
          exact (Le.cv (s := ⟨[(0, 0), (1, 1)], [], [], false⟩) (own := []) (ps := [(lenI y1) = (lenI y1), s3 = s3, false = false, a0.1 = a0.1, a0.2.1 = a0.2.1, a0.2.2.1 = a0.2.2.1, a0.2.2.2 = a0.2.2.2, y1 = y1]) (st' := ⟨[(2, .one (.ptr 0 0)), (9, .one (.all 1)), (10, .one (.dat (.int .i64) (lenI y1))), (11, .one (.dat (.int .i64) s3)), (23, .one (.dat .bool false))], [(0, .box [.dat (.int .i64) a0.1, .dat (.int .i64) a0.2.1, .dat (.sl (.int .i64)) a0.2.2.1, .dat (.sl .bool) a0.2.2.2]), (1, .seq .bool y1)], 2⟩) hO (fun h => by cases h) (by kernel_rfl) ⟨rfl, rfl, rfl, rfl, rfl, rfl, rfl, rfl, trivial⟩).ht (cont false (of_some hT14))
    · refine HT.cond0 rfl hb10 ?_
      have hx8 := of_some hx8
      subst hx8
      refine (Le.cv (s := ⟨[], [], [], false⟩) (own := []) (ps := []) (st' := ⟨[], [], 0⟩) hO (fun h => by cases h) (by kernel_rfl) trivial).ht ?_
      exact HT.exit (qThenE (qLoopE (hk9 (.inl ()) rfl)))

noncomputable def impl_ReadsLoop (a0 : Int × Int × List Int × List Bool) (a1 : List Int × List Int) : Option (Bool × Bool) :=
  (show Option (Bool) from
    (impl_ValidPlain (a0.1, a0.2.1, a0.2.2.1, a0.2.2.2)).bind fun y7 =>
    bif (!y7) then
      some true
    else
      (impl_ValidLoop (a1.1, a1.2) a0.2.1).bind fun y10 =>
      some (!y10)).bind fun v1 =>
  bif v1 then
    some (false, false)
  else
    (impl_readsLoop (a0.1, a0.2.1, a0.2.2.1, a0.2.2.2) (a1.1, a1.2)).bind fun y5 =>
    some (y5, true)

theorem f33_ok {a0 : Int × Int × List Int × List Bool} {a1 : List Int × List Int} {r : Bool × Bool} (hr : impl_ReadsLoop a0 a1 = some r) : CallOK Try.prog 33 [.imm (.st (.pair (.int .i64) (.pair (.int .i64) (.pair (.sl (.int .i64)) (.sl .bool))))) a0, .imm (.st (.pair (.sl (.int .i64)) (.sl (.int .i64)))) a1] [⟨false, .bool, r.1⟩, ⟨false, .bool, r.2⟩] [] := by
  unfold impl_ReadsLoop at hr
  refine CallOK.of_body (ts := [(false, .bool), (false, .bool)]) Try.func33 rfl (by kernel_rfl) (Nat.le_of_ble_eq_true (by kernel_rfl)) fun cx hP hN hO hF => ?_
  have hO : cx.own.map Prod.fst = [] := hO
  show HT cx ⟨[(0, .agg [.dat (.int .i64) a0.1, .dat (.int .i64) a0.2.1, .dat (.sl (.int .i64)) a0.2.2.1, .dat (.sl .bool) a0.2.2.2]), (1, .agg [.dat (.sl (.int .i64)) a1.1, .dat (.sl (.int .i64)) a1.2])], [], 0⟩ _ _
  refine HT.reg1 [2, 3] [⟨none, .no⟩, ⟨none, .no⟩, ⟨none, .no⟩, ⟨none, .no⟩] ⟨[(2, .one (.ptr 0 0)), (3, .one (.ptr 1 0))], [(1, .box [.dat (.sl (.int .i64)) a1.1, .dat (.sl (.int .i64)) a1.2]), (0, .box [.dat (.int .i64) a0.1, .dat (.int .i64) a0.2.1, .dat (.sl (.int .i64)) a0.2.2.1, .dat (.sl .bool) a0.2.2.2])], 2⟩ hP hN (by kernel_rfl) allNil ?_
  refine HT.seq ?_
  obtain ⟨v1', hT3, hr⟩ := of_bind hr
  refine HT.join (fun (v1 : Bool) => ⟨[(2, .one (.ptr 0 0)), (3, .one (.ptr 1 0)), (15, .one (.dat .bool v1))], [(0, .box [.dat (.int .i64) a0.1, .dat (.int .i64) a0.2.1, .dat (.sl (.int .i64)) a0.2.2.1, .dat (.sl .bool) a0.2.2.2]), (1, .box [.dat (.sl (.int .i64)) a1.1, .dat (.sl (.int .i64)) a1.2])], 2⟩) (fun v => v = v1') (fun v1 hv2 => ?_) (fun cont => ?_)
  · subst hv2
    rcases of_bif hr with ⟨hb4, hr⟩ | ⟨hb4, hr⟩
    · refine HT.cond1 rfl hb4 ?_
      refine HT.reg1 [4, 5] [⟨none, .no⟩, ⟨none, .no⟩] ⟨[(4, .one (.dat .bool false)), (5, .one (.dat .bool false))], [(0, .box [.dat (.int .i64) a0.1, .dat (.int .i64) a0.2.1, .dat (.sl (.int .i64)) a0.2.2.1, .dat (.sl .bool) a0.2.2.2]), (1, .box [.dat (.sl (.int .i64)) a1.1, .dat (.sl (.int .i64)) a1.2])], 2⟩ hP hN (by kernel_rfl) allNil ?_
      have hr := of_some hr
      subst hr
      exact HT.ret (qThenR ⟨[.one (.dat .bool false), .one (.dat .bool false)], [], [], by kernel_rfl, by kernel_rfl, rfl, (.inl rfl), by kernel_rfl, trivial⟩)
    · refine HT.cond0 rfl hb4 ?_
      refine HT.skip (qThen ?_)
      obtain ⟨y5, hc6, hr⟩ := of_bind hr
      refine HT.reg1 [4, 5] [⟨none, .no⟩, ⟨none, .no⟩, ⟨none, .call [.imm (.st (.pair (.int .i64) (.pair (.int .i64) (.pair (.sl (.int .i64)) (.sl .bool))))), .imm (.st (.pair (.sl (.int .i64)) (.sl (.int .i64))))] [⟨false, .bool, y5⟩] []⟩, ⟨none, .no⟩, ⟨none, .no⟩] ⟨[(4, .one (.dat .bool y5)), (5, .one (.dat .bool true))], [(0, .box [.dat (.int .i64) a0.1, .dat (.int .i64) a0.2.1, .dat (.sl (.int .i64)) a0.2.2.1, .dat (.sl .bool) a0.2.2.2]), (1, .box [.dat (.sl (.int .i64)) a1.1, .dat (.sl (.int .i64)) a1.2])], 2⟩ hP hN (by kernel_rfl) (allCons (f94_ok hc6) allNil) ?_
      have hr := of_some hr
      subst hr
      exact HT.ret ⟨[.one (.dat .bool y5), .one (.dat .bool true)], [], [], by kernel_rfl, by kernel_rfl, rfl, (.inl rfl), by kernel_rfl, trivial⟩
  · obtain ⟨y7, hc8, hT3⟩ := of_bind hT3
    rcases of_bif hT3 with ⟨hb9, hT3⟩ | ⟨hb9, hT3⟩
    · refine HT.reg (rs := [⟨none, .no⟩, ⟨none, .call [.imm (.st (.pair (.int .i64) (.pair (.int .i64) (.pair (.sl (.int .i64)) (.sl .bool)))))] [⟨false, .bool, y7⟩] []⟩, ⟨none, .no⟩, ⟨none, .no⟩, ⟨some true, .no⟩, ⟨some true, .no⟩, ⟨some true, .no⟩, ⟨some true, .no⟩, ⟨some true, .no⟩, ⟨none, .tv true⟩]) (st' := ⟨[(15, .one (.dat .bool true)), (14, .und), (13, .und), (12, .und), (11, .und), (10, .und), (9, .one (.dat .bool (!y7))), (8, .one (.dat .bool (!y7))), (7, .one (.dat .bool y7)), (6, .agg [.dat (.int .i64) a0.1, .dat (.int .i64) a0.2.1, .dat (.sl (.int .i64)) a0.2.2.1, .dat (.sl .bool) a0.2.2.2]), (2, .one (.ptr 0 0)), (3, .one (.ptr 1 0))], [(1, .box [.dat (.sl (.int .i64)) a1.1, .dat (.sl (.int .i64)) a1.2]), (0, .box [.dat (.int .i64) a0.1, .dat (.int .i64) a0.2.1, .dat (.sl (.int .i64)) a0.2.2.1, .dat (.sl .bool) a0.2.2.2])], 2⟩) hP hN (by kernel_rfl) (allCons (f92_ok hc8) (allCons hb9 (allCons hb9 (allCons hb9 (allCons hb9 (allCons hb9 (allCons hb9 allNil))))))) (qThen ?_)
      exact (Le.cv (s := ⟨[(0, 0), (1, 1)], [], [], false⟩) (own := []) (ps := [true = true, a0.1 = a0.1, a0.2.1 = a0.2.1, a0.2.2.1 = a0.2.2.1, a0.2.2.2 = a0.2.2.2, a1.1 = a1.1, a1.2 = a1.2]) (st' := ⟨[(2, .one (.ptr 0 0)), (3, .one (.ptr 1 0)), (15, .one (.dat .bool true))], [(0, .box [.dat (.int .i64) a0.1, .dat (.int .i64) a0.2.1, .dat (.sl (.int .i64)) a0.2.2.1, .dat (.sl .bool) a0.2.2.2]), (1, .box [.dat (.sl (.int .i64)) a1.1, .dat (.sl (.int .i64)) a1.2])], 2⟩) hO (fun h => by cases h) (by kernel_rfl) ⟨rfl, rfl, rfl, rfl, rfl, rfl, rfl, trivial⟩).ht (cont true (of_some hT3))
    · obtain ⟨y10, hc11, hT3⟩ := of_bind hT3
      refine HT.reg (rs := [⟨none, .no⟩, ⟨none, .call [.imm (.st (.pair (.int .i64) (.pair (.int .i64) (.pair (.sl (.int .i64)) (.sl .bool)))))] [⟨false, .bool, y7⟩] []⟩, ⟨none, .no⟩, ⟨none, .no⟩, ⟨some false, .no⟩, ⟨some false, .no⟩, ⟨some false, .no⟩, ⟨some false, .call [.imm (.st (.pair (.sl (.int .i64)) (.sl (.int .i64)))), .imm (.int .i64)] [⟨false, .bool, y10⟩] []⟩, ⟨some false, .no⟩, ⟨none, .tv false⟩]) (st' := ⟨[(15, .one (.dat .bool (!y10))), (14, .one (.dat .bool (!y10))), (13, .one (.dat .bool y10)), (12, .one (.dat (.int .i64) a0.2.1)), (11, .one (.ptr 0 1)), (10, .agg [.dat (.sl (.int .i64)) a1.1, .dat (.sl (.int .i64)) a1.2]), (9, .one (.dat .bool (!y7))), (8, .one (.dat .bool (!y7))), (7, .one (.dat .bool y7)), (6, .agg [.dat (.int .i64) a0.1, .dat (.int .i64) a0.2.1, .dat (.sl (.int .i64)) a0.2.2.1, .dat (.sl .bool) a0.2.2.2]), (2, .one (.ptr 0 0)), (3, .one (.ptr 1 0))], [(1, .box [.dat (.sl (.int .i64)) a1.1, .dat (.sl (.int .i64)) a1.2]), (0, .box [.dat (.int .i64) a0.1, .dat (.int .i64) a0.2.1, .dat (.sl (.int .i64)) a0.2.2.1, .dat (.sl .bool) a0.2.2.2])], 2⟩) hP hN (by kernel_rfl) (allCons (f92_ok hc8) (allCons hb9 (allCons hb9 (allCons hb9 (allCons hb9 (allCons (f93_ok hc11) (allCons hb9 (allCons hb9 allNil)))))))) (qThen ?_)
      exact (Le.cv (s := ⟨[(0, 0), (1, 1)], [], [], false⟩) (own := []) (ps := [(!y10) = (!y10), a0.1 = a0.1, a0.2.1 = a0.2.1, a0.2.2.1 = a0.2.2.1, a0.2.2.2 = a0.2.2.2, a1.1 = a1.1, a1.2 = a1.2]) (st' := ⟨[(2, .one (.ptr 0 0)), (3, .one (.ptr 1 0)), (15, .one (.dat .bool (!y10)))], [(0, .box [.dat (.int .i64) a0.1, .dat (.int .i64) a0.2.1, .dat (.sl (.int .i64)) a0.2.2.1, .dat (.sl .bool) a0.2.2.2]), (1, .box [.dat (.sl (.int .i64)) a1.1, .dat (.sl (.int .i64)) a1.2])], 2⟩) hO (fun h => by cases h) (by kernel_rfl) ⟨rfl, rfl, rfl, rfl, rfl, rfl, rfl, trivial⟩).ht (cont (!y10) (of_some hT3))

noncomputable def laws_eqInt64S_B1 (a0 : List Int) (a1 : List Int) (s2 : Int) : Option ((Int) ⊕ (Unit ⊕ Unit)) :=
  bif (decide (s2 < (lenI a0))) then
    guardP ((0 : Int) ≤ s2 ∧ s2 < lenI a0) (
      guardP ((0 : Int) ≤ s2 ∧ s2 < lenI a1) (
        bif ((List.getD a0 (Int.toNat s2) (0 : Int)) != (List.getD a1 (Int.toNat s2) (0 : Int))) then
          some (.inr (.inr ()))
        else
          some (.inl (wadd .i64 s2 (1 : Int)))))
  else
    some (.inr (.inl ()))

noncomputable def laws_eqInt64S (a0 : List Int) (a1 : List Int) : Option (Bool) :=
  bif ((lenI a0) != (lenI a1)) then
    some false
  else
    (rounds (laws_eqInt64S_B1 a0 a1) (0 : Int)).bind fun r3 => match r3 with
      | .inl r4 =>
        some true
      | .inr r5 =>
        some false

theorem f25_ok {a0 : List Int} {a1 : List Int} {r : Bool} (hr : laws_eqInt64S a0 a1 = some r) : CallOK Try.prog 25 [.imm (.sl (.int .i64)) a0, .imm (.sl (.int .i64)) a1] [⟨false, .bool, r⟩] [] := by
  unfold laws_eqInt64S at hr
  refine CallOK.of_body (ts := [(false, .bool)]) Try.func25 rfl (by kernel_rfl) (Nat.le_of_ble_eq_true (by kernel_rfl)) fun cx hP hN hO hF => ?_
  have hO : cx.own.map Prod.fst = [] := hO
  show HT cx ⟨[(0, .one (.dat (.sl (.int .i64)) a0)), (1, .one (.dat (.sl (.int .i64)) a1))], [], 0⟩ _ _
  refine HT.reg1 [0, 1] [⟨none, .no⟩] ⟨[(0, .one (.dat (.sl (.int .i64)) a0)), (1, .one (.dat (.sl (.int .i64)) a1))], [], 0⟩ hP hN (by kernel_rfl) allNil ?_
  refine HT.seq ?_
  refine HT.reg1 [0, 1, 10] [⟨none, .no⟩, ⟨none, .no⟩, ⟨none, .no⟩, ⟨none, .no⟩, ⟨none, .no⟩] ⟨[(0, .one (.dat (.sl (.int .i64)) a0)), (1, .one (.dat (.sl (.int .i64)) a1)), (10, .one (.dat .bool ((lenI a0) != (lenI a1))))], [], 0⟩ hP hN (by kernel_rfl) allNil ?_
  rcases of_bif hr with ⟨hb1, hr⟩ | ⟨hb1, hr⟩
  · refine HT.cond1 rfl hb1 ?_
    refine HT.reg1 [4] [⟨none, .no⟩] ⟨[(4, .one (.dat .bool false))], [], 0⟩ hP hN (by kernel_rfl) allNil ?_
    have hr := of_some hr
    subst hr
    exact HT.ret (qThenR ⟨[.one (.dat .bool false)], [], [], by kernel_rfl, by kernel_rfl, rfl, (.inl rfl), by kernel_rfl, trivial⟩)
  · refine HT.cond0 rfl hb1 ?_
    refine HT.skip (qThen ?_)
    refine HT.seq ?_
    refine HT.reg1 [0, 1, 5] [⟨none, .no⟩] ⟨[(0, .one (.dat (.sl (.int .i64)) a0)), (1, .one (.dat (.sl (.int .i64)) a1)), (5, .one (.dat (.int .i64) (0 : Int)))], [], 0⟩ hP hN (by kernel_rfl) allNil ?_
    refine HT.block ?_
    obtain ⟨r3, hL13, hr⟩ := of_bind hr
    refine (Le.cv (s := ⟨[], [], [], false⟩) (own := []) (ps := [a0 = a0, a1 = a1, (0 : Int) = (0 : Int)]) (st' := ⟨[(0, .one (.dat (.sl (.int .i64)) a0)), (1, .one (.dat (.sl (.int .i64)) a1)), (5, .one (.dat (.int .i64) (0 : Int)))], [], 0⟩) hO (fun h => by cases h) (by kernel_rfl) ⟨rfl, rfl, rfl, trivial⟩).ht ?_
    refine HT.loopE (s := (0 : Int)) (fun (s2 : Int) => ⟨[(0, .one (.dat (.sl (.int .i64)) a0)), (1, .one (.dat (.sl (.int .i64)) a1)), (5, .one (.dat (.int .i64) s2))], [], 0⟩) (fun (r3 : Unit ⊕ Unit) => match r3 with | .inl r4 => (.exit 0, ⟨[], [], 0⟩) | .inr r5 => (.ret, ⟨[(4, .one (.dat .bool false))], [], 0⟩)) hL13 ?_ (fun s2 x6 hx7 hk8 => ?_)
    · rcases r3 with r4 | r5
      · refine (qBlockX (qThen ?_))
        refine HT.reg1 [4] [⟨none, .no⟩] ⟨[(4, .one (.dat .bool true))], [], 0⟩ hP hN (by kernel_rfl) allNil ?_
        have hr := of_some hr
        subst hr
        exact HT.ret ⟨[.one (.dat .bool true)], [], [], by kernel_rfl, by kernel_rfl, rfl, (.inl rfl), by kernel_rfl, trivial⟩
      · have hr := of_some hr
        subst hr
        exact (qBlockR (qThenR ⟨[.one (.dat .bool false)], [], [], by kernel_rfl, by kernel_rfl, rfl, (.inl rfl), by kernel_rfl, trivial⟩))
    · refine HT.seq ?_
      refine HT.reg1 [0, 1, 5, 14] [⟨none, .no⟩, ⟨none, .no⟩, ⟨none, .no⟩, ⟨none, .no⟩] ⟨[(0, .one (.dat (.sl (.int .i64)) a0)), (1, .one (.dat (.sl (.int .i64)) a1)), (5, .one (.dat (.int .i64) s2)), (14, .one (.dat .bool (decide (s2 < (lenI a0)))))], [], 0⟩ hP hN (by kernel_rfl) allNil ?_
      rcases of_bif hx7 with ⟨hb9, hx7⟩ | ⟨hb9, hx7⟩
      · refine HT.cond1 rfl hb9 ?_
        refine HT.skip (qThen ?_)
        refine HT.seq ?_
        refine HT.block ?_
        obtain ⟨hg10, hx7⟩ := of_guard hx7
        obtain ⟨hg11, hx7⟩ := of_guard hx7
        refine HT.drw1 [0, 1, 5, 25] 8 [⟨⟨none, .no⟩, []⟩, ⟨⟨none, .no⟩, []⟩, ⟨⟨none, .no⟩, [0, 1]⟩, ⟨⟨none, .no⟩, [0, 1, 2]⟩, ⟨⟨none, .no⟩, []⟩, ⟨⟨none, .no⟩, []⟩, ⟨⟨none, .no⟩, [4, 5]⟩, ⟨⟨none, .no⟩, [4, 5, 6]⟩] [[0, 1, 2, 3, 4, 5, 6, 7]] [⟨none, .no⟩] ⟨[(0, .one (.dat (.sl (.int .i64)) a0)), (1, .one (.dat (.sl (.int .i64)) a1)), (5, .one (.dat (.int .i64) s2)), (25, .one (.dat .bool ((List.getD a0 (Int.toNat s2) (0 : Int)) != (List.getD a1 (Int.toNat s2) (0 : Int)))))], [], 0⟩ hP hN (by kernel_rfl) (by kernel_rfl) (allCons hg10 (allCons hg11 allNil)) ?_
        rcases of_bif hx7 with ⟨hb12, hx7⟩ | ⟨hb12, hx7⟩
        · refine HT.cond1 rfl hb12 ?_
          refine HT.reg1 [4] [⟨none, .no⟩] ⟨[(4, .one (.dat .bool false))], [], 0⟩ hP hN (by kernel_rfl) allNil ?_
          have hx7 := of_some hx7
          subst hx7
          refine (Le.cv (s := ⟨[], [], [], false⟩) (own := []) (ps := [false = false]) (st' := ⟨[(4, .one (.dat .bool false))], [], 0⟩) hO (fun h => by cases h) (by kernel_rfl) ⟨rfl, trivial⟩).ht ?_
          exact HT.ret (qBlockR (qThenR (qLoopR (hk8 (.inr ()) rfl))))
        · refine HT.cond0 rfl hb12 ?_
          refine HT.skip (qBlock (qThen ?_))
          have hx7 := of_some hx7
          subst hx7
          refine HT.reg (rs := [⟨none, .no⟩, ⟨none, .no⟩, ⟨none, .no⟩]) (st' := ⟨[(5, .one (.dat (.int .i64) (wadd .i64 s2 (1 : Int)))), (16, .one (.dat (.int .i64) (wadd .i64 s2 (1 : Int)))), (15, .one (.dat (.int .i64) s2)), (0, .one (.dat (.sl (.int .i64)) a0)), (1, .one (.dat (.sl (.int .i64)) a1)), (5, .one (.dat (.int .i64) s2)), (25, .one (.dat .bool ((List.getD a0 (Int.toNat s2) (0 : Int)) != (List.getD a1 (Int.toNat s2) (0 : Int)))))], [], 0⟩) hP hN (by kernel_rfl) allNil (qLoopN ⟨(wadd .i64 s2 (1 : Int)), rfl, Le.cv (s := ⟨[], [], [], false⟩) (own := []) (ps := [a0 = a0, a1 = a1, (wadd .i64 s2 (1 : Int)) = (wadd .i64 s2 (1 : Int))]) (st' := ⟨[(0, .one (.dat (.sl (.int .i64)) a0)), (1, .one (.dat (.sl (.int .i64)) a1)), (5, .one (.dat (.int .i64) (wadd .i64 s2 (1 : Int))))], [], 0⟩) hO (fun h => by cases h) (by kernel_rfl) ⟨rfl, rfl, rfl, trivial⟩⟩)
      · refine HT.cond0 rfl hb9 ?_
        have hx7 := of_some hx7
        subst hx7
        refine (Le.cv (s := ⟨[], [], [], false⟩) (own := []) (ps := []) (st' := ⟨[], [], 0⟩) hO (fun h => by cases h) (by kernel_rfl) trivial).ht ?_
        exact HT.exit (qThenE (qLoopE (hk8 (.inl ()) rfl)))

noncomputable def laws_eqBoolS_B1 (a0 : List Bool) (a1 : List Bool) (s2 : Int) : Option ((Int) ⊕ (Unit ⊕ Unit)) :=
  bif (decide (s2 < (lenI a0))) then
    guardP ((0 : Int) ≤ s2 ∧ s2 < lenI a0) (
      guardP ((0 : Int) ≤ s2 ∧ s2 < lenI a1) (
        bif ((List.getD a0 (Int.toNat s2) false) != (List.getD a1 (Int.toNat s2) false)) then
          some (.inr (.inr ()))
        else
          some (.inl (wadd .i64 s2 (1 : Int)))))
  else
    some (.inr (.inl ()))

noncomputable def laws_eqBoolS (a0 : List Bool) (a1 : List Bool) : Option (Bool) :=
  bif ((lenI a0) != (lenI a1)) then
    some false
  else
    (rounds (laws_eqBoolS_B1 a0 a1) (0 : Int)).bind fun r3 => match r3 with
      | .inl r4 =>
        some true
      | .inr r5 =>
        some false

theorem f95_ok {a0 : List Bool} {a1 : List Bool} {r : Bool} (hr : laws_eqBoolS a0 a1 = some r) : CallOK Try.prog 95 [.imm (.sl .bool) a0, .imm (.sl .bool) a1] [⟨false, .bool, r⟩] [] := by
  unfold laws_eqBoolS at hr
  refine CallOK.of_body (ts := [(false, .bool)]) Try.func95 rfl (by kernel_rfl) (Nat.le_of_ble_eq_true (by kernel_rfl)) fun cx hP hN hO hF => ?_
  have hO : cx.own.map Prod.fst = [] := hO
  show HT cx ⟨[(0, .one (.dat (.sl .bool) a0)), (1, .one (.dat (.sl .bool) a1))], [], 0⟩ _ _
  refine HT.reg1 [0, 1] [⟨none, .no⟩] ⟨[(0, .one (.dat (.sl .bool) a0)), (1, .one (.dat (.sl .bool) a1))], [], 0⟩ hP hN (by kernel_rfl) allNil ?_
  refine HT.seq ?_
  refine HT.reg1 [0, 1, 10] [⟨none, .no⟩, ⟨none, .no⟩, ⟨none, .no⟩, ⟨none, .no⟩, ⟨none, .no⟩] ⟨[(0, .one (.dat (.sl .bool) a0)), (1, .one (.dat (.sl .bool) a1)), (10, .one (.dat .bool ((lenI a0) != (lenI a1))))], [], 0⟩ hP hN (by kernel_rfl) allNil ?_
  rcases of_bif hr with ⟨hb1, hr⟩ | ⟨hb1, hr⟩
  · refine HT.cond1 rfl hb1 ?_
    refine HT.reg1 [4] [⟨none, .no⟩] ⟨[(4, .one (.dat .bool false))], [], 0⟩ hP hN (by kernel_rfl) allNil ?_
    have hr := of_some hr
    subst hr
    exact HT.ret (qThenR ⟨[.one (.dat .bool false)], [], [], by kernel_rfl, by kernel_rfl, rfl, (.inl rfl), by kernel_rfl, trivial⟩)
  · refine HT.cond0 rfl hb1 ?_
    refine HT.skip (qThen ?_)
    refine HT.seq ?_
    refine HT.reg1 [0, 1, 5] [⟨none, .no⟩] ⟨[(0, .one (.dat (.sl .bool) a0)), (1, .one (.dat (.sl .bool) a1)), (5, .one (.dat (.int .i64) (0 : Int)))], [], 0⟩ hP hN (by kernel_rfl) allNil ?_
    refine HT.block ?_
    obtain ⟨r3, hL13, hr⟩ := of_bind hr
    refine (Le.cv (s := ⟨[], [], [], false⟩) (own := []) (ps := [a0 = a0, a1 = a1, (0 : Int) = (0 : Int)]) (st' := ⟨[(0, .one (.dat (.sl .bool) a0)), (1, .one (.dat (.sl .bool) a1)), (5, .one (.dat (.int .i64) (0 : Int)))], [], 0⟩) hO (fun h => by cases h) (by kernel_rfl) ⟨rfl, rfl, rfl, trivial⟩).ht ?_
    refine HT.loopE (s := (0 : Int)) (fun (s2 : Int) => ⟨[(0, .one (.dat (.sl .bool) a0)), (1, .one (.dat (.sl .bool) a1)), (5, .one (.dat (.int .i64) s2))], [], 0⟩) (fun (r3 : Unit ⊕ Unit) => match r3 with | .inl r4 => (.exit 0, ⟨[], [], 0⟩) | .inr r5 => (.ret, ⟨[(4, .one (.dat .bool false))], [], 0⟩)) hL13 ?_ (fun s2 x6 hx7 hk8 => ?_)
    · rcases r3 with r4 | r5
      · refine (qBlockX (qThen ?_))
        refine HT.reg1 [4] [⟨none, .no⟩] ⟨[(4, .one (.dat .bool true))], [], 0⟩ hP hN (by kernel_rfl) allNil ?_
        have hr := of_some hr
        subst hr
        exact HT.ret ⟨[.one (.dat .bool true)], [], [], by kernel_rfl, by kernel_rfl, rfl, (.inl rfl), by kernel_rfl, trivial⟩
      · have hr := of_some hr
        subst hr
        exact (qBlockR (qThenR ⟨[.one (.dat .bool false)], [], [], by kernel_rfl, by kernel_rfl, rfl, (.inl rfl), by kernel_rfl, trivial⟩))
    · refine HT.seq ?_
      refine HT.reg1 [0, 1, 5, 14] [⟨none, .no⟩, ⟨none, .no⟩, ⟨none, .no⟩, ⟨none, .no⟩] ⟨[(0, .one (.dat (.sl .bool) a0)), (1, .one (.dat (.sl .bool) a1)), (5, .one (.dat (.int .i64) s2)), (14, .one (.dat .bool (decide (s2 < (lenI a0)))))], [], 0⟩ hP hN (by kernel_rfl) allNil ?_
      rcases of_bif hx7 with ⟨hb9, hx7⟩ | ⟨hb9, hx7⟩
      · refine HT.cond1 rfl hb9 ?_
        refine HT.skip (qThen ?_)
        refine HT.seq ?_
        refine HT.block ?_
        obtain ⟨hg10, hx7⟩ := of_guard hx7
        obtain ⟨hg11, hx7⟩ := of_guard hx7
        refine HT.drw1 [0, 1, 5, 25] 8 [⟨⟨none, .no⟩, []⟩, ⟨⟨none, .no⟩, []⟩, ⟨⟨none, .no⟩, [0, 1]⟩, ⟨⟨none, .no⟩, [0, 1, 2]⟩, ⟨⟨none, .no⟩, []⟩, ⟨⟨none, .no⟩, []⟩, ⟨⟨none, .no⟩, [4, 5]⟩, ⟨⟨none, .no⟩, [4, 5, 6]⟩] [[0, 1, 2, 3, 4, 5, 6, 7]] [⟨none, .no⟩] ⟨[(0, .one (.dat (.sl .bool) a0)), (1, .one (.dat (.sl .bool) a1)), (5, .one (.dat (.int .i64) s2)), (25, .one (.dat .bool ((List.getD a0 (Int.toNat s2) false) != (List.getD a1 (Int.toNat s2) false))))], [], 0⟩ hP hN (by kernel_rfl) (by kernel_rfl) (allCons hg10 (allCons hg11 allNil)) ?_
        rcases of_bif hx7 with ⟨hb12, hx7⟩ | ⟨hb12, hx7⟩
        · refine HT.cond1 rfl hb12 ?_
          refine HT.reg1 [4] [⟨none, .no⟩] ⟨[(4, .one (.dat .bool false))], [], 0⟩ hP hN (by kernel_rfl) allNil ?_
          have hx7 := of_some hx7
          subst hx7
          refine (Le.cv (s := ⟨[], [], [], false⟩) (own := []) (ps := [false = false]) (st' := ⟨[(4, .one (.dat .bool false))], [], 0⟩) hO (fun h => by cases h) (by kernel_rfl) ⟨rfl, trivial⟩).ht ?_
          exact HT.ret (qBlockR (qThenR (qLoopR (hk8 (.inr ()) rfl))))
        · refine HT.cond0 rfl hb12 ?_
          refine HT.skip (qBlock (qThen ?_))
          have hx7 := of_some hx7
          subst hx7
          refine HT.reg (rs := [⟨none, .no⟩, ⟨none, .no⟩, ⟨none, .no⟩]) (st' := ⟨[(5, .one (.dat (.int .i64) (wadd .i64 s2 (1 : Int)))), (16, .one (.dat (.int .i64) (wadd .i64 s2 (1 : Int)))), (15, .one (.dat (.int .i64) s2)), (0, .one (.dat (.sl .bool) a0)), (1, .one (.dat (.sl .bool) a1)), (5, .one (.dat (.int .i64) s2)), (25, .one (.dat .bool ((List.getD a0 (Int.toNat s2) false) != (List.getD a1 (Int.toNat s2) false))))], [], 0⟩) hP hN (by kernel_rfl) allNil (qLoopN ⟨(wadd .i64 s2 (1 : Int)), rfl, Le.cv (s := ⟨[], [], [], false⟩) (own := []) (ps := [a0 = a0, a1 = a1, (wadd .i64 s2 (1 : Int)) = (wadd .i64 s2 (1 : Int))]) (st' := ⟨[(0, .one (.dat (.sl .bool) a0)), (1, .one (.dat (.sl .bool) a1)), (5, .one (.dat (.int .i64) (wadd .i64 s2 (1 : Int))))], [], 0⟩) hO (fun h => by cases h) (by kernel_rfl) ⟨rfl, rfl, rfl, trivial⟩⟩)
      · refine HT.cond0 rfl hb9 ?_
        have hx7 := of_some hx7
        subst hx7
        refine (Le.cv (s := ⟨[], [], [], false⟩) (own := []) (ps := []) (st' := ⟨[], [], 0⟩) hO (fun h => by cases h) (by kernel_rfl) trivial).ht ?_
        exact HT.exit (qThenE (qLoopE (hk8 (.inl ()) rfl)))

noncomputable def laws_eqPlain (a0 : Int × Int × List Int × List Bool) (a1 : Int × Int × List Int × List Bool) : Option (Bool) :=
  bif (a0.1 != a1.1) then
    some false
  else
    bif (a0.2.1 != a1.2.1) then
      some false
    else
      (laws_eqInt64S a0.2.2.1 a1.2.2.1).bind fun y3 =>
      bif (!y3) then
        some false
      else
        (laws_eqBoolS a0.2.2.2 a1.2.2.2).bind fun y6 =>
        bif (!y6) then
          some false
        else
          some true

theorem f34_ok {a0 : Int × Int × List Int × List Bool} {a1 : Int × Int × List Int × List Bool} {r : Bool} (hr : laws_eqPlain a0 a1 = some r) : CallOK Try.prog 34 [.imm (.st (.pair (.int .i64) (.pair (.int .i64) (.pair (.sl (.int .i64)) (.sl .bool))))) a0, .imm (.st (.pair (.int .i64) (.pair (.int .i64) (.pair (.sl (.int .i64)) (.sl .bool))))) a1] [⟨false, .bool, r⟩] [] := by
  unfold laws_eqPlain at hr
  refine CallOK.of_body (ts := [(false, .bool)]) Try.func34 rfl (by kernel_rfl) (Nat.le_of_ble_eq_true (by kernel_rfl)) fun cx hP hN hO hF => ?_
  have hO : cx.own.map Prod.fst = [] := hO
  show HT cx ⟨[(0, .agg [.dat (.int .i64) a0.1, .dat (.int .i64) a0.2.1, .dat (.sl (.int .i64)) a0.2.2.1, .dat (.sl .bool) a0.2.2.2]), (1, .agg [.dat (.int .i64) a1.1, .dat (.int .i64) a1.2.1, .dat (.sl (.int .i64)) a1.2.2.1, .dat (.sl .bool) a1.2.2.2])], [], 0⟩ _ _
  refine HT.reg1 [2, 3] [⟨none, .no⟩, ⟨none, .no⟩, ⟨none, .no⟩] ⟨[(2, .one (.ptr 0 0)), (3, .one (.ptr 1 0))], [(1, .box [.dat (.int .i64) a1.1, .dat (.int .i64) a1.2.1, .dat (.sl (.int .i64)) a1.2.2.1, .dat (.sl .bool) a1.2.2.2]), (0, .box [.dat (.int .i64) a0.1, .dat (.int .i64) a0.2.1, .dat (.sl (.int .i64)) a0.2.2.1, .dat (.sl .bool) a0.2.2.2])], 2⟩ hP hN (by kernel_rfl) allNil ?_
  refine HT.seq ?_
  refine HT.reg1 [2, 3, 9] [⟨none, .no⟩, ⟨none, .no⟩, ⟨none, .no⟩, ⟨none, .no⟩, ⟨none, .no⟩] ⟨[(2, .one (.ptr 0 0)), (3, .one (.ptr 1 0)), (9, .one (.dat .bool (a0.1 != a1.1)))], [(1, .box [.dat (.int .i64) a1.1, .dat (.int .i64) a1.2.1, .dat (.sl (.int .i64)) a1.2.2.1, .dat (.sl .bool) a1.2.2.2]), (0, .box [.dat (.int .i64) a0.1, .dat (.int .i64) a0.2.1, .dat (.sl (.int .i64)) a0.2.2.1, .dat (.sl .bool) a0.2.2.2])], 2⟩ hP hN (by kernel_rfl) allNil ?_
  rcases of_bif hr with ⟨hb1, hr⟩ | ⟨hb1, hr⟩
  · refine HT.cond1 rfl hb1 ?_
    refine HT.reg1 [4] [⟨none, .no⟩] ⟨[(4, .one (.dat .bool false))], [(1, .box [.dat (.int .i64) a1.1, .dat (.int .i64) a1.2.1, .dat (.sl (.int .i64)) a1.2.2.1, .dat (.sl .bool) a1.2.2.2]), (0, .box [.dat (.int .i64) a0.1, .dat (.int .i64) a0.2.1, .dat (.sl (.int .i64)) a0.2.2.1, .dat (.sl .bool) a0.2.2.2])], 2⟩ hP hN (by kernel_rfl) allNil ?_
    have hr := of_some hr
    subst hr
    exact HT.ret (qThenR ⟨[.one (.dat .bool false)], [], [], by kernel_rfl, by kernel_rfl, rfl, (.inl rfl), by kernel_rfl, trivial⟩)
  · refine HT.cond0 rfl hb1 ?_
    refine HT.skip (qThen ?_)
    refine HT.seq ?_
    refine HT.reg1 [2, 3, 14] [⟨none, .no⟩, ⟨none, .no⟩, ⟨none, .no⟩, ⟨none, .no⟩, ⟨none, .no⟩] ⟨[(2, .one (.ptr 0 0)), (3, .one (.ptr 1 0)), (14, .one (.dat .bool (a0.2.1 != a1.2.1)))], [(1, .box [.dat (.int .i64) a1.1, .dat (.int .i64) a1.2.1, .dat (.sl (.int .i64)) a1.2.2.1, .dat (.sl .bool) a1.2.2.2]), (0, .box [.dat (.int .i64) a0.1, .dat (.int .i64) a0.2.1, .dat (.sl (.int .i64)) a0.2.2.1, .dat (.sl .bool) a0.2.2.2])], 2⟩ hP hN (by kernel_rfl) allNil ?_
    rcases of_bif hr with ⟨hb2, hr⟩ | ⟨hb2, hr⟩
    · refine HT.cond1 rfl hb2 ?_
      refine HT.reg1 [4] [⟨none, .no⟩] ⟨[(4, .one (.dat .bool false))], [(1, .box [.dat (.int .i64) a1.1, .dat (.int .i64) a1.2.1, .dat (.sl (.int .i64)) a1.2.2.1, .dat (.sl .bool) a1.2.2.2]), (0, .box [.dat (.int .i64) a0.1, .dat (.int .i64) a0.2.1, .dat (.sl (.int .i64)) a0.2.2.1, .dat (.sl .bool) a0.2.2.2])], 2⟩ hP hN (by kernel_rfl) allNil ?_
      have hr := of_some hr
      subst hr
      exact HT.ret (qThenR ⟨[.one (.dat .bool false)], [], [], by kernel_rfl, by kernel_rfl, rfl, (.inl rfl), by kernel_rfl, trivial⟩)
    · refine HT.cond0 rfl hb2 ?_
      refine HT.skip (qThen ?_)
      refine HT.seq ?_
      obtain ⟨y3, hc4, hr⟩ := of_bind hr
      refine HT.reg1 [2, 3, 20] [⟨none, .no⟩, ⟨none, .no⟩, ⟨none, .no⟩, ⟨none, .no⟩, ⟨none, .call [.imm (.sl (.int .i64)), .imm (.sl (.int .i64))] [⟨false, .bool, y3⟩] []⟩, ⟨none, .no⟩] ⟨[(2, .one (.ptr 0 0)), (3, .one (.ptr 1 0)), (20, .one (.dat .bool (!y3)))], [(1, .box [.dat (.int .i64) a1.1, .dat (.int .i64) a1.2.1, .dat (.sl (.int .i64)) a1.2.2.1, .dat (.sl .bool) a1.2.2.2]), (0, .box [.dat (.int .i64) a0.1, .dat (.int .i64) a0.2.1, .dat (.sl (.int .i64)) a0.2.2.1, .dat (.sl .bool) a0.2.2.2])], 2⟩ hP hN (by kernel_rfl) (allCons (f25_ok hc4) allNil) ?_
      rcases of_bif hr with ⟨hb5, hr⟩ | ⟨hb5, hr⟩
      · refine HT.cond1 rfl hb5 ?_
        refine HT.reg1 [4] [⟨none, .no⟩] ⟨[(4, .one (.dat .bool false))], [(1, .box [.dat (.int .i64) a1.1, .dat (.int .i64) a1.2.1, .dat (.sl (.int .i64)) a1.2.2.1, .dat (.sl .bool) a1.2.2.2]), (0, .box [.dat (.int .i64) a0.1, .dat (.int .i64) a0.2.1, .dat (.sl (.int .i64)) a0.2.2.1, .dat (.sl .bool) a0.2.2.2])], 2⟩ hP hN (by kernel_rfl) allNil ?_
        have hr := of_some hr
        subst hr
        exact HT.ret (qThenR ⟨[.one (.dat .bool false)], [], [], by kernel_rfl, by kernel_rfl, rfl, (.inl rfl), by kernel_rfl, trivial⟩)
      · refine HT.cond0 rfl hb5 ?_
        refine HT.skip (qThen ?_)
        refine HT.seq ?_
        obtain ⟨y6, hc7, hr⟩ := of_bind hr
        refine HT.reg1 [26] [⟨none, .no⟩, ⟨none, .no⟩, ⟨none, .no⟩, ⟨none, .no⟩, ⟨none, .call [.imm (.sl .bool), .imm (.sl .bool)] [⟨false, .bool, y6⟩] []⟩, ⟨none, .no⟩] ⟨[(26, .one (.dat .bool (!y6)))], [(1, .box [.dat (.int .i64) a1.1, .dat (.int .i64) a1.2.1, .dat (.sl (.int .i64)) a1.2.2.1, .dat (.sl .bool) a1.2.2.2]), (0, .box [.dat (.int .i64) a0.1, .dat (.int .i64) a0.2.1, .dat (.sl (.int .i64)) a0.2.2.1, .dat (.sl .bool) a0.2.2.2])], 2⟩ hP hN (by kernel_rfl) (allCons (f95_ok hc7) allNil) ?_
        rcases of_bif hr with ⟨hb8, hr⟩ | ⟨hb8, hr⟩
        · refine HT.cond1 rfl hb8 ?_
          refine HT.reg1 [4] [⟨none, .no⟩] ⟨[(4, .one (.dat .bool false))], [(1, .box [.dat (.int .i64) a1.1, .dat (.int .i64) a1.2.1, .dat (.sl (.int .i64)) a1.2.2.1, .dat (.sl .bool) a1.2.2.2]), (0, .box [.dat (.int .i64) a0.1, .dat (.int .i64) a0.2.1, .dat (.sl (.int .i64)) a0.2.2.1, .dat (.sl .bool) a0.2.2.2])], 2⟩ hP hN (by kernel_rfl) allNil ?_
          have hr := of_some hr
          subst hr
          exact HT.ret (qThenR ⟨[.one (.dat .bool false)], [], [], by kernel_rfl, by kernel_rfl, rfl, (.inl rfl), by kernel_rfl, trivial⟩)
        · refine HT.cond0 rfl hb8 ?_
          refine HT.skip (qThen ?_)
          refine HT.reg1 [4] [⟨none, .no⟩] ⟨[(4, .one (.dat .bool true))], [(1, .box [.dat (.int .i64) a1.1, .dat (.int .i64) a1.2.1, .dat (.sl (.int .i64)) a1.2.2.1, .dat (.sl .bool) a1.2.2.2]), (0, .box [.dat (.int .i64) a0.1, .dat (.int .i64) a0.2.1, .dat (.sl (.int .i64)) a0.2.2.1, .dat (.sl .bool) a0.2.2.2])], 2⟩ hP hN (by kernel_rfl) allNil ?_
          have hr := of_some hr
          subst hr
          exact HT.ret ⟨[.one (.dat .bool true)], [], [], by kernel_rfl, by kernel_rfl, rfl, (.inl rfl), by kernel_rfl, trivial⟩

noncomputable def laws_eqLoop (a0 : List Int × List Int) (a1 : List Int × List Int) : Option (Bool) :=
  (laws_eqInt64S a0.1 a1.1).bind fun y1 =>
  bif (!y1) then
    some false
  else
    (laws_eqInt64S a0.2 a1.2).bind fun y4 =>
    bif (!y4) then
      some false
    else
      some true

theorem f35_ok {a0 : List Int × List Int} {a1 : List Int × List Int} {r : Bool} (hr : laws_eqLoop a0 a1 = some r) : CallOK Try.prog 35 [.imm (.st (.pair (.sl (.int .i64)) (.sl (.int .i64)))) a0, .imm (.st (.pair (.sl (.int .i64)) (.sl (.int .i64)))) a1] [⟨false, .bool, r⟩] [] := by
  unfold laws_eqLoop at hr
  refine CallOK.of_body (ts := [(false, .bool)]) Try.func35 rfl (by kernel_rfl) (Nat.le_of_ble_eq_true (by kernel_rfl)) fun cx hP hN hO hF => ?_
  have hO : cx.own.map Prod.fst = [] := hO
  show HT cx ⟨[(0, .agg [.dat (.sl (.int .i64)) a0.1, .dat (.sl (.int .i64)) a0.2]), (1, .agg [.dat (.sl (.int .i64)) a1.1, .dat (.sl (.int .i64)) a1.2])], [], 0⟩ _ _
  refine HT.reg1 [2, 3] [⟨none, .no⟩, ⟨none, .no⟩, ⟨none, .no⟩] ⟨[(2, .one (.ptr 0 0)), (3, .one (.ptr 1 0))], [(1, .box [.dat (.sl (.int .i64)) a1.1, .dat (.sl (.int .i64)) a1.2]), (0, .box [.dat (.sl (.int .i64)) a0.1, .dat (.sl (.int .i64)) a0.2])], 2⟩ hP hN (by kernel_rfl) allNil ?_
  refine HT.seq ?_
  obtain ⟨y1, hc2, hr⟩ := of_bind hr
  refine HT.reg1 [2, 3, 10] [⟨none, .no⟩, ⟨none, .no⟩, ⟨none, .no⟩, ⟨none, .no⟩, ⟨none, .call [.imm (.sl (.int .i64)), .imm (.sl (.int .i64))] [⟨false, .bool, y1⟩] []⟩, ⟨none, .no⟩] ⟨[(2, .one (.ptr 0 0)), (3, .one (.ptr 1 0)), (10, .one (.dat .bool (!y1)))], [(1, .box [.dat (.sl (.int .i64)) a1.1, .dat (.sl (.int .i64)) a1.2]), (0, .box [.dat (.sl (.int .i64)) a0.1, .dat (.sl (.int .i64)) a0.2])], 2⟩ hP hN (by kernel_rfl) (allCons (f25_ok hc2) allNil) ?_
  rcases of_bif hr with ⟨hb3, hr⟩ | ⟨hb3, hr⟩
  · refine HT.cond1 rfl hb3 ?_
    refine HT.reg1 [4] [⟨none, .no⟩] ⟨[(4, .one (.dat .bool false))], [(1, .box [.dat (.sl (.int .i64)) a1.1, .dat (.sl (.int .i64)) a1.2]), (0, .box [.dat (.sl (.int .i64)) a0.1, .dat (.sl (.int .i64)) a0.2])], 2⟩ hP hN (by kernel_rfl) allNil ?_
    have hr := of_some hr
    subst hr
    exact HT.ret (qThenR ⟨[.one (.dat .bool false)], [], [], by kernel_rfl, by kernel_rfl, rfl, (.inl rfl), by kernel_rfl, trivial⟩)
  · refine HT.cond0 rfl hb3 ?_
    refine HT.skip (qThen ?_)
    refine HT.seq ?_
    obtain ⟨y4, hc5, hr⟩ := of_bind hr
    refine HT.reg1 [16] [⟨none, .no⟩, ⟨none, .no⟩, ⟨none, .no⟩, ⟨none, .no⟩, ⟨none, .call [.imm (.sl (.int .i64)), .imm (.sl (.int .i64))] [⟨false, .bool, y4⟩] []⟩, ⟨none, .no⟩] ⟨[(16, .one (.dat .bool (!y4)))], [(1, .box [.dat (.sl (.int .i64)) a1.1, .dat (.sl (.int .i64)) a1.2]), (0, .box [.dat (.sl (.int .i64)) a0.1, .dat (.sl (.int .i64)) a0.2])], 2⟩ hP hN (by kernel_rfl) (allCons (f25_ok hc5) allNil) ?_
    rcases of_bif hr with ⟨hb6, hr⟩ | ⟨hb6, hr⟩
    · refine HT.cond1 rfl hb6 ?_
      refine HT.reg1 [4] [⟨none, .no⟩] ⟨[(4, .one (.dat .bool false))], [(1, .box [.dat (.sl (.int .i64)) a1.1, .dat (.sl (.int .i64)) a1.2]), (0, .box [.dat (.sl (.int .i64)) a0.1, .dat (.sl (.int .i64)) a0.2])], 2⟩ hP hN (by kernel_rfl) allNil ?_
      have hr := of_some hr
      subst hr
      exact HT.ret (qThenR ⟨[.one (.dat .bool false)], [], [], by kernel_rfl, by kernel_rfl, rfl, (.inl rfl), by kernel_rfl, trivial⟩)
    · refine HT.cond0 rfl hb6 ?_
      refine HT.skip (qThen ?_)
      refine HT.reg1 [4] [⟨none, .no⟩] ⟨[(4, .one (.dat .bool true))], [(1, .box [.dat (.sl (.int .i64)) a1.1, .dat (.sl (.int .i64)) a1.2]), (0, .box [.dat (.sl (.int .i64)) a0.1, .dat (.sl (.int .i64)) a0.2])], 2⟩ hP hN (by kernel_rfl) allNil ?_
      have hr := of_some hr
      subst hr
      exact HT.ret ⟨[.one (.dat .bool true)], [], [], by kernel_rfl, by kernel_rfl, rfl, (.inl rfl), by kernel_rfl, trivial⟩

noncomputable def laws_FnExactReadsLoop (a0 : Int × Int × List Int × List Bool) (a1 : List Int × List Int) : Option (Bool) :=
  (laws_szPlain (a0.1, a0.2.1, a0.2.2.1, a0.2.2.2) (1048576 : Int)).bind fun y1 =>
  bif (decide (y1 < (0 : Int))) then
    some true
  else
    (laws_szLoop (a1.1, a1.2) y1).bind fun y4 =>
    bif (decide (y4 < (0 : Int))) then
      some true
    else
      (laws_toPlain (a0.1, a0.2.1, a0.2.2.1, a0.2.2.2)).bind fun y7 =>
      (laws_toLoop (a1.1, a1.2)).bind fun y9 =>
      (spec_ReadsLoop (y7.1, y7.2.1, y7.2.2.1, y7.2.2.2) (y9.1, y9.2)).bind fun y11 =>
      (laws_toPlain (a0.1, a0.2.1, a0.2.2.1, a0.2.2.2)).bind fun y13 =>
      (laws_toLoop (a1.1, a1.2)).bind fun y15 =>
      (impl_ReadsLoop (y13.1, y13.2.1, y13.2.2.1, y13.2.2.2) (y15.1, y15.2)).bind fun y17 =>
      (show Option (Bool) from
        bif (y17.1 != y11.1) then
          some true
        else
          some (y17.2 != y11.2)).bind fun v19 =>
      bif v19 then
        some false
      else
        (laws_toPlain (a0.1, a0.2.1, a0.2.2.1, a0.2.2.2)).bind fun y23 =>
        (laws_eqPlain (y13.1, y13.2.1, y13.2.2.1, y13.2.2.2) (y23.1, y23.2.1, y23.2.2.1, y23.2.2.2)).bind fun y25 =>
        bif (!y25) then
          some false
        else
          (laws_toLoop (a1.1, a1.2)).bind fun y28 =>
          (laws_eqLoop (y15.1, y15.2) (y28.1, y28.2)).bind fun y30 =>
          bif (!y30) then
            some false
          else
            some true

theorem f6_ok {a0 : Int × Int × List Int × List Bool} {a1 : List Int × List Int} {r : Bool} (hr : laws_FnExactReadsLoop a0 a1 = some r) : CallOK Try.prog 6 [.imm (.st (.pair (.int .i64) (.pair (.int .i64) (.pair (.sl (.int .i64)) (.sl .bool))))) a0, .imm (.st (.pair (.sl (.int .i64)) (.sl (.int .i64)))) a1] [⟨false, .bool, r⟩] [] := by
  unfold laws_FnExactReadsLoop at hr
  refine CallOK.of_body (ts := [(false, .bool)]) Try.func6 rfl (by kernel_rfl) (Nat.le_of_ble_eq_true (by kernel_rfl)) fun cx hP hN hO hF => ?_
  have hO : cx.own.map Prod.fst = [] := hO
  show HT cx ⟨[(0, .agg [.dat (.int .i64) a0.1, .dat (.int .i64) a0.2.1, .dat (.sl (.int .i64)) a0.2.2.1, .dat (.sl .bool) a0.2.2.2]), (1, .agg [.dat (.sl (.int .i64)) a1.1, .dat (.sl (.int .i64)) a1.2])], [], 0⟩ _ _
  refine HT.reg1 [2, 3] [⟨none, .no⟩, ⟨none, .no⟩, ⟨none, .no⟩] ⟨[(2, .one (.ptr 0 0)), (3, .one (.ptr 1 0))], [(1, .box [.dat (.sl (.int .i64)) a1.1, .dat (.sl (.int .i64)) a1.2]), (0, .box [.dat (.int .i64) a0.1, .dat (.int .i64) a0.2.1, .dat (.sl (.int .i64)) a0.2.2.1, .dat (.sl .bool) a0.2.2.2])], 2⟩ hP hN (by kernel_rfl) allNil ?_
  refine HT.reg1 [2, 3, 5] [⟨none, .no⟩] ⟨[(2, .one (.ptr 0 0)), (3, .one (.ptr 1 0)), (5, .one (.dat (.int .i64) (1048576 : Int)))], [(1, .box [.dat (.sl (.int .i64)) a1.1, .dat (.sl (.int .i64)) a1.2]), (0, .box [.dat (.int .i64) a0.1, .dat (.int .i64) a0.2.1, .dat (.sl (.int .i64)) a0.2.2.1, .dat (.sl .bool) a0.2.2.2])], 2⟩ hP hN (by kernel_rfl) allNil ?_
  obtain ⟨y1, hc2, hr⟩ := of_bind hr
  refine HT.reg1 [2, 3, 5] [⟨none, .no⟩, ⟨none, .no⟩, ⟨none, .call [.imm (.st (.pair (.int .i64) (.pair (.int .i64) (.pair (.sl (.int .i64)) (.sl .bool))))), .imm (.int .i64)] [⟨false, (.int .i64), y1⟩] []⟩, ⟨none, .no⟩] ⟨[(2, .one (.ptr 0 0)), (3, .one (.ptr 1 0)), (5, .one (.dat (.int .i64) y1))], [(1, .box [.dat (.sl (.int .i64)) a1.1, .dat (.sl (.int .i64)) a1.2]), (0, .box [.dat (.int .i64) a0.1, .dat (.int .i64) a0.2.1, .dat (.sl (.int .i64)) a0.2.2.1, .dat (.sl .bool) a0.2.2.2])], 2⟩ hP hN (by kernel_rfl) (allCons (f28_ok hc2) allNil) ?_
  refine HT.seq ?_
  refine HT.reg1 [2, 3, 5, 16] [⟨none, .no⟩, ⟨none, .no⟩] ⟨[(2, .one (.ptr 0 0)), (3, .one (.ptr 1 0)), (5, .one (.dat (.int .i64) y1)), (16, .one (.dat .bool (decide (y1 < (0 : Int)))))], [(1, .box [.dat (.sl (.int .i64)) a1.1, .dat (.sl (.int .i64)) a1.2]), (0, .box [.dat (.int .i64) a0.1, .dat (.int .i64) a0.2.1, .dat (.sl (.int .i64)) a0.2.2.1, .dat (.sl .bool) a0.2.2.2])], 2⟩ hP hN (by kernel_rfl) allNil ?_
  rcases of_bif hr with ⟨hb3, hr⟩ | ⟨hb3, hr⟩
  · refine HT.cond1 rfl hb3 ?_
    refine HT.reg1 [4] [⟨none, .no⟩] ⟨[(4, .one (.dat .bool true))], [(1, .box [.dat (.sl (.int .i64)) a1.1, .dat (.sl (.int .i64)) a1.2]), (0, .box [.dat (.int .i64) a0.1, .dat (.int .i64) a0.2.1, .dat (.sl (.int .i64)) a0.2.2.1, .dat (.sl .bool) a0.2.2.2])], 2⟩ hP hN (by kernel_rfl) allNil ?_
    have hr := of_some hr
    subst hr
    exact HT.ret (qThenR ⟨[.one (.dat .bool true)], [], [], by kernel_rfl, by kernel_rfl, rfl, (.inl rfl), by kernel_rfl, trivial⟩)
  · refine HT.cond0 rfl hb3 ?_
    refine HT.skip (qThen ?_)
    obtain ⟨y4, hc5, hr⟩ := of_bind hr
    refine HT.reg1 [2, 3, 5] [⟨none, .no⟩, ⟨none, .no⟩, ⟨none, .call [.imm (.st (.pair (.sl (.int .i64)) (.sl (.int .i64)))), .imm (.int .i64)] [⟨false, (.int .i64), y4⟩] []⟩, ⟨none, .no⟩] ⟨[(2, .one (.ptr 0 0)), (3, .one (.ptr 1 0)), (5, .one (.dat (.int .i64) y4))], [(1, .box [.dat (.sl (.int .i64)) a1.1, .dat (.sl (.int .i64)) a1.2]), (0, .box [.dat (.int .i64) a0.1, .dat (.int .i64) a0.2.1, .dat (.sl (.int .i64)) a0.2.2.1, .dat (.sl .bool) a0.2.2.2])], 2⟩ hP hN (by kernel_rfl) (allCons (f29_ok hc5) allNil) ?_
    refine HT.seq ?_
    refine HT.reg1 [2, 3, 21] [⟨none, .no⟩, ⟨none, .no⟩] ⟨[(2, .one (.ptr 0 0)), (3, .one (.ptr 1 0)), (21, .one (.dat .bool (decide (y4 < (0 : Int)))))], [(1, .box [.dat (.sl (.int .i64)) a1.1, .dat (.sl (.int .i64)) a1.2]), (0, .box [.dat (.int .i64) a0.1, .dat (.int .i64) a0.2.1, .dat (.sl (.int .i64)) a0.2.2.1, .dat (.sl .bool) a0.2.2.2])], 2⟩ hP hN (by kernel_rfl) allNil ?_
    rcases of_bif hr with ⟨hb6, hr⟩ | ⟨hb6, hr⟩
    · refine HT.cond1 rfl hb6 ?_
      refine HT.reg1 [4] [⟨none, .no⟩] ⟨[(4, .one (.dat .bool true))], [(1, .box [.dat (.sl (.int .i64)) a1.1, .dat (.sl (.int .i64)) a1.2]), (0, .box [.dat (.int .i64) a0.1, .dat (.int .i64) a0.2.1, .dat (.sl (.int .i64)) a0.2.2.1, .dat (.sl .bool) a0.2.2.2])], 2⟩ hP hN (by kernel_rfl) allNil ?_
      have hr := of_some hr
      subst hr
      exact HT.ret (qThenR ⟨[.one (.dat .bool true)], [], [], by kernel_rfl, by kernel_rfl, rfl, (.inl rfl), by kernel_rfl, trivial⟩)
    · refine HT.cond0 rfl hb6 ?_
      refine HT.skip (qThen ?_)
      obtain ⟨y7, hc8, hr⟩ := of_bind hr
      obtain ⟨y9, hc10, hr⟩ := of_bind hr
      obtain ⟨y11, hc12, hr⟩ := of_bind hr
      refine HT.drw1 [2, 3, 6, 7] 9 [⟨⟨none, .no⟩, []⟩, ⟨⟨none, .call [.imm (.st (.pair (.int .i64) (.pair (.int .i64) (.pair (.sl (.int .i64)) (.sl .bool)))))] [⟨true, (.st (.pair (.int .i64) (.pair (.int .i64) (.pair (.sl (.int .i64)) (.sl .bool))))), y7⟩] []⟩, [0]⟩, ⟨⟨none, .no⟩, []⟩, ⟨⟨none, .call [.imm (.st (.pair (.sl (.int .i64)) (.sl (.int .i64))))] [⟨true, (.st (.pair (.sl (.int .i64)) (.sl (.int .i64)))), y9⟩] []⟩, [0, 1, 2]⟩, ⟨⟨none, .call [.imm (.st (.pair (.int .i64) (.pair (.int .i64) (.pair (.sl (.int .i64)) (.sl .bool))))), .imm (.st (.pair (.sl (.int .i64)) (.sl (.int .i64))))] [⟨false, .bool, y11.1⟩, ⟨false, .bool, y11.2⟩] []⟩, [0, 1, 2, 3]⟩, ⟨⟨none, .no⟩, [0, 1, 2, 3, 4]⟩, ⟨⟨none, .no⟩, [0, 1, 2, 3, 4, 5]⟩, ⟨⟨none, .no⟩, [0, 1, 2, 3, 4, 5]⟩, ⟨⟨none, .no⟩, [0, 1, 2, 3, 4, 5, 6]⟩] [[0, 1, 2, 3, 4, 5, 6, 7, 8]] [⟨none, .no⟩] ⟨[(2, .one (.ptr 0 0)), (3, .one (.ptr 1 0)), (6, .one (.dat .bool y11.1)), (7, .one (.dat .bool y11.2))], [(4, .seq (.int .i64) y9.1), (5, .seq (.int .i64) y9.2), (2, .seq (.int .i64) y7.2.2.1), (3, .seq .bool y7.2.2.2), (1, .box [.dat (.sl (.int .i64)) a1.1, .dat (.sl (.int .i64)) a1.2]), (0, .box [.dat (.int .i64) a0.1, .dat (.int .i64) a0.2.1, .dat (.sl (.int .i64)) a0.2.2.1, .dat (.sl .bool) a0.2.2.2])], 6⟩ hP hN (by kernel_rfl) (by kernel_rfl) (allCons (f31_ok hc8) (allCons (f32_ok hc10) (allCons (f30_ok hc12) allNil))) ?_
      obtain ⟨y13, hc14, hr⟩ := of_bind hr
      refine HT.reg1 [2, 3, 6, 7, 8] [⟨none, .no⟩, ⟨none, .call [.imm (.st (.pair (.int .i64) (.pair (.int .i64) (.pair (.sl (.int .i64)) (.sl .bool)))))] [⟨true, (.st (.pair (.int .i64) (.pair (.int .i64) (.pair (.sl (.int .i64)) (.sl .bool))))), y13⟩] []⟩, ⟨none, .no⟩, ⟨none, .no⟩] ⟨[(2, .one (.ptr 0 0)), (3, .one (.ptr 1 0)), (6, .one (.dat .bool y11.1)), (7, .one (.dat .bool y11.2)), (8, .one (.ptr 8 0))], [(8, .box [.dat (.int .i64) y13.1, .dat (.int .i64) y13.2.1, .all 6, .all 7]), (8, .box [.dat (.int .i64) (0 : Int), .dat (.int .i64) (0 : Int), .nilS, .nilS]), (6, .seq (.int .i64) y13.2.2.1), (7, .seq .bool y13.2.2.2), (4, .seq (.int .i64) y9.1), (5, .seq (.int .i64) y9.2), (2, .seq (.int .i64) y7.2.2.1), (3, .seq .bool y7.2.2.2), (1, .box [.dat (.sl (.int .i64)) a1.1, .dat (.sl (.int .i64)) a1.2]), (0, .box [.dat (.int .i64) a0.1, .dat (.int .i64) a0.2.1, .dat (.sl (.int .i64)) a0.2.2.1, .dat (.sl .bool) a0.2.2.2])], 9⟩ hP hN (by kernel_rfl) (allCons (f31_ok hc14) allNil) ?_
      obtain ⟨y15, hc16, hr⟩ := of_bind hr
      refine HT.reg1 [2, 3, 6, 7, 8, 9] [⟨none, .no⟩, ⟨none, .call [.imm (.st (.pair (.sl (.int .i64)) (.sl (.int .i64))))] [⟨true, (.st (.pair (.sl (.int .i64)) (.sl (.int .i64)))), y15⟩] []⟩, ⟨none, .no⟩, ⟨none, .no⟩] ⟨[(2, .one (.ptr 0 0)), (3, .one (.ptr 1 0)), (6, .one (.dat .bool y11.1)), (7, .one (.dat .bool y11.2)), (8, .one (.ptr 8 0)), (9, .one (.ptr 11 0))], [(11, .box [.all 9, .all 10]), (11, .box [.nilS, .nilS]), (9, .seq (.int .i64) y15.1), (10, .seq (.int .i64) y15.2), (8, .box [.dat (.int .i64) y13.1, .dat (.int .i64) y13.2.1, .all 6, .all 7]), (8, .box [.dat (.int .i64) (0 : Int), .dat (.int .i64) (0 : Int), .nilS, .nilS]), (6, .seq (.int .i64) y13.2.2.1), (7, .seq .bool y13.2.2.2), (4, .seq (.int .i64) y9.1), (5, .seq (.int .i64) y9.2), (2, .seq (.int .i64) y7.2.2.1), (3, .seq .bool y7.2.2.2), (1, .box [.dat (.sl (.int .i64)) a1.1, .dat (.sl (.int .i64)) a1.2]), (0, .box [.dat (.int .i64) a0.1, .dat (.int .i64) a0.2.1, .dat (.sl (.int .i64)) a0.2.2.1, .dat (.sl .bool) a0.2.2.2])], 12⟩ hP hN (by kernel_rfl) (allCons (f32_ok hc16) allNil) ?_
      obtain ⟨y17, hc18, hr⟩ := of_bind hr
      refine HT.reg1 [2, 3, 6, 7, 8, 9, 10, 11] [⟨none, .no⟩, ⟨none, .no⟩, ⟨none, .call [.imm (.st (.pair (.int .i64) (.pair (.int .i64) (.pair (.sl (.int .i64)) (.sl .bool))))), .imm (.st (.pair (.sl (.int .i64)) (.sl (.int .i64))))] [⟨false, .bool, y17.1⟩, ⟨false, .bool, y17.2⟩] []⟩, ⟨none, .no⟩, ⟨none, .no⟩, ⟨none, .no⟩, ⟨none, .no⟩, ⟨none, .no⟩] ⟨[(2, .one (.ptr 0 0)), (3, .one (.ptr 1 0)), (6, .one (.dat .bool y11.1)), (7, .one (.dat .bool y11.2)), (8, .one (.ptr 8 0)), (9, .one (.ptr 11 0)), (10, .one (.dat .bool y17.1)), (11, .one (.dat .bool y17.2))], [(11, .box [.all 9, .all 10]), (11, .box [.nilS, .nilS]), (9, .seq (.int .i64) y15.1), (10, .seq (.int .i64) y15.2), (8, .box [.dat (.int .i64) y13.1, .dat (.int .i64) y13.2.1, .all 6, .all 7]), (8, .box [.dat (.int .i64) (0 : Int), .dat (.int .i64) (0 : Int), .nilS, .nilS]), (6, .seq (.int .i64) y13.2.2.1), (7, .seq .bool y13.2.2.2), (4, .seq (.int .i64) y9.1), (5, .seq (.int .i64) y9.2), (2, .seq (.int .i64) y7.2.2.1), (3, .seq .bool y7.2.2.2), (1, .box [.dat (.sl (.int .i64)) a1.1, .dat (.sl (.int .i64)) a1.2]), (0, .box [.dat (.int .i64) a0.1, .dat (.int .i64) a0.2.1, .dat (.sl (.int .i64)) a0.2.2.1, .dat (.sl .bool) a0.2.2.2])], 12⟩ hP hN (by kernel_rfl) (allCons (f33_ok hc18) allNil) ?_
      refine HT.seq ?_
      obtain ⟨v19', hT21, hr⟩ := of_bind hr
      refine HT.join (fun (v19 : Bool) => ⟨[(2, .one (.ptr 0 0)), (3, .one (.ptr 1 0)), (8, .one (.ptr 2 0)), (9, .one (.ptr 3 0)), (47, .one (.dat .bool v19))], [(0, .box [.dat (.int .i64) a0.1, .dat (.int .i64) a0.2.1, .dat (.sl (.int .i64)) a0.2.2.1, .dat (.sl .bool) a0.2.2.2]), (1, .box [.dat (.sl (.int .i64)) a1.1, .dat (.sl (.int .i64)) a1.2]), (2, .box [.dat (.int .i64) y13.1, .dat (.int .i64) y13.2.1, .all 4, .all 5]), (3, .box [.all 6, .all 7]), (4, .seq (.int .i64) y13.2.2.1), (5, .seq .bool y13.2.2.2), (6, .seq (.int .i64) y15.1), (7, .seq (.int .i64) y15.2)], 8⟩) (fun v => v = v19') (fun v19 hv20 => ?_) (fun cont => ?_)
      · subst hv20
        rcases of_bif hr with ⟨hb22, hr⟩ | ⟨hb22, hr⟩
        · refine HT.cond1 rfl hb22 ?_
          refine HT.reg1 [4] [⟨none, .no⟩] ⟨[(4, .one (.dat .bool false))], [(0, .box [.dat (.int .i64) a0.1, .dat (.int .i64) a0.2.1, .dat (.sl (.int .i64)) a0.2.2.1, .dat (.sl .bool) a0.2.2.2]), (1, .box [.dat (.sl (.int .i64)) a1.1, .dat (.sl (.int .i64)) a1.2]), (2, .box [.dat (.int .i64) y13.1, .dat (.int .i64) y13.2.1, .all 4, .all 5]), (3, .box [.all 6, .all 7]), (4, .seq (.int .i64) y13.2.2.1), (5, .seq .bool y13.2.2.2), (6, .seq (.int .i64) y15.1), (7, .seq (.int .i64) y15.2)], 8⟩ hP hN (by kernel_rfl) allNil ?_
          have hr := of_some hr
          subst hr
          exact HT.ret (qThenR ⟨[.one (.dat .bool false)], [], [], by kernel_rfl, by kernel_rfl, rfl, (.inl rfl), by kernel_rfl, trivial⟩)
        · refine HT.cond0 rfl hb22 ?_
          refine HT.skip (qThen ?_)
          refine HT.seq ?_
          obtain ⟨y23, hc24, hr⟩ := of_bind hr
          obtain ⟨y25, hc26, hr⟩ := of_bind hr
          refine HT.drw1 [3, 9, 52] 3 [⟨⟨none, .no⟩, []⟩, ⟨⟨none, .no⟩, []⟩, ⟨⟨none, .call [.imm (.st (.pair (.int .i64) (.pair (.int .i64) (.pair (.sl (.int .i64)) (.sl .bool)))))] [⟨true, (.st (.pair (.int .i64) (.pair (.int .i64) (.pair (.sl (.int .i64)) (.sl .bool))))), y23⟩] []⟩, [1]⟩] [[0, 1, 2], [0, 1, 2, 3]] [⟨none, .call [.imm (.st (.pair (.int .i64) (.pair (.int .i64) (.pair (.sl (.int .i64)) (.sl .bool))))), .imm (.st (.pair (.int .i64) (.pair (.int .i64) (.pair (.sl (.int .i64)) (.sl .bool)))))] [⟨false, .bool, y25⟩] []⟩, ⟨none, .no⟩] ⟨[(3, .one (.ptr 1 0)), (9, .one (.ptr 3 0)), (52, .one (.dat .bool (!y25)))], [(8, .seq (.int .i64) y23.2.2.1), (9, .seq .bool y23.2.2.2), (0, .box [.dat (.int .i64) a0.1, .dat (.int .i64) a0.2.1, .dat (.sl (.int .i64)) a0.2.2.1, .dat (.sl .bool) a0.2.2.2]), (1, .box [.dat (.sl (.int .i64)) a1.1, .dat (.sl (.int .i64)) a1.2]), (2, .box [.dat (.int .i64) y13.1, .dat (.int .i64) y13.2.1, .all 4, .all 5]), (3, .box [.all 6, .all 7]), (4, .seq (.int .i64) y13.2.2.1), (5, .seq .bool y13.2.2.2), (6, .seq (.int .i64) y15.1), (7, .seq (.int .i64) y15.2)], 10⟩ hP hN (by kernel_rfl) (by kernel_rfl) (allCons (f31_ok hc24) (allCons (f34_ok hc26) allNil)) ?_
          rcases of_bif hr with ⟨hb27, hr⟩ | ⟨hb27, hr⟩
          · refine HT.cond1 rfl hb27 ?_
            refine HT.reg1 [4] [⟨none, .no⟩] ⟨[(4, .one (.dat .bool false))], [(8, .seq (.int .i64) y23.2.2.1), (9, .seq .bool y23.2.2.2), (0, .box [.dat (.int .i64) a0.1, .dat (.int .i64) a0.2.1, .dat (.sl (.int .i64)) a0.2.2.1, .dat (.sl .bool) a0.2.2.2]), (1, .box [.dat (.sl (.int .i64)) a1.1, .dat (.sl (.int .i64)) a1.2]), (2, .box [.dat (.int .i64) y13.1, .dat (.int .i64) y13.2.1, .all 4, .all 5]), (3, .box [.all 6, .all 7]), (4, .seq (.int .i64) y13.2.2.1), (5, .seq .bool y13.2.2.2), (6, .seq (.int .i64) y15.1), (7, .seq (.int .i64) y15.2)], 10⟩ hP hN (by kernel_rfl) allNil ?_
            have hr := of_some hr
            subst hr
            exact HT.ret (qThenR ⟨[.one (.dat .bool false)], [], [], by kernel_rfl, by kernel_rfl, rfl, (.inl rfl), by kernel_rfl, trivial⟩)
          · refine HT.cond0 rfl hb27 ?_
            refine HT.skip (qThen ?_)
            refine HT.seq ?_
            obtain ⟨y28, hc29, hr⟩ := of_bind hr
            obtain ⟨y30, hc31, hr⟩ := of_bind hr
            refine HT.drw1 [57] 3 [⟨⟨none, .no⟩, []⟩, ⟨⟨none, .no⟩, []⟩, ⟨⟨none, .call [.imm (.st (.pair (.sl (.int .i64)) (.sl (.int .i64))))] [⟨true, (.st (.pair (.sl (.int .i64)) (.sl (.int .i64)))), y28⟩] []⟩, [1]⟩] [[0, 1, 2], [0, 1, 2, 3]] [⟨none, .call [.imm (.st (.pair (.sl (.int .i64)) (.sl (.int .i64)))), .imm (.st (.pair (.sl (.int .i64)) (.sl (.int .i64))))] [⟨false, .bool, y30⟩] []⟩, ⟨none, .no⟩] ⟨[(57, .one (.dat .bool (!y30)))], [(10, .seq (.int .i64) y28.1), (11, .seq (.int .i64) y28.2), (8, .seq (.int .i64) y23.2.2.1), (9, .seq .bool y23.2.2.2), (0, .box [.dat (.int .i64) a0.1, .dat (.int .i64) a0.2.1, .dat (.sl (.int .i64)) a0.2.2.1, .dat (.sl .bool) a0.2.2.2]), (1, .box [.dat (.sl (.int .i64)) a1.1, .dat (.sl (.int .i64)) a1.2]), (2, .box [.dat (.int .i64) y13.1, .dat (.int .i64) y13.2.1, .all 4, .all 5]), (3, .box [.all 6, .all 7]), (4, .seq (.int .i64) y13.2.2.1), (5, .seq .bool y13.2.2.2), (6, .seq (.int .i64) y15.1), (7, .seq (.int .i64) y15.2)], 12⟩ hP hN (by kernel_rfl) (by kernel_rfl) (allCons (f32_ok hc29) (allCons (f35_ok hc31) allNil)) ?_
            rcases of_bif hr with ⟨hb32, hr⟩ | ⟨hb32, hr⟩
            · refine HT.cond1 rfl hb32 ?_
              refine HT.reg1 [4] [⟨none, .no⟩] ⟨[(4, .one (.dat .bool false))], [(10, .seq (.int .i64) y28.1), (11, .seq (.int .i64) y28.2), (8, .seq (.int .i64) y23.2.2.1), (9, .seq .bool y23.2.2.2), (0, .box [.dat (.int .i64) a0.1, .dat (.int .i64) a0.2.1, .dat (.sl (.int .i64)) a0.2.2.1, .dat (.sl .bool) a0.2.2.2]), (1, .box [.dat (.sl (.int .i64)) a1.1, .dat (.sl (.int .i64)) a1.2]), (2, .box [.dat (.int .i64) y13.1, .dat (.int .i64) y13.2.1, .all 4, .all 5]), (3, .box [.all 6, .all 7]), (4, .seq (.int .i64) y13.2.2.1), (5, .seq .bool y13.2.2.2), (6, .seq (.int .i64) y15.1), (7, .seq (.int .i64) y15.2)], 12⟩ hP hN (by kernel_rfl) allNil ?_
              have hr := of_some hr
              subst hr
              exact HT.ret (qThenR ⟨[.one (.dat .bool false)], [], [], by kernel_rfl, by kernel_rfl, rfl, (.inl rfl), by kernel_rfl, trivial⟩)
            · refine HT.cond0 rfl hb32 ?_
              refine HT.skip (qThen ?_)
              refine HT.reg1 [4] [⟨none, .no⟩] ⟨[(4, .one (.dat .bool true))], [(10, .seq (.int .i64) y28.1), (11, .seq (.int .i64) y28.2), (8, .seq (.int .i64) y23.2.2.1), (9, .seq .bool y23.2.2.2), (0, .box [.dat (.int .i64) a0.1, .dat (.int .i64) a0.2.1, .dat (.sl (.int .i64)) a0.2.2.1, .dat (.sl .bool) a0.2.2.2]), (1, .box [.dat (.sl (.int .i64)) a1.1, .dat (.sl (.int .i64)) a1.2]), (2, .box [.dat (.int .i64) y13.1, .dat (.int .i64) y13.2.1, .all 4, .all 5]), (3, .box [.all 6, .all 7]), (4, .seq (.int .i64) y13.2.2.1), (5, .seq .bool y13.2.2.2), (6, .seq (.int .i64) y15.1), (7, .seq (.int .i64) y15.2)], 12⟩ hP hN (by kernel_rfl) allNil ?_
              have hr := of_some hr
              subst hr
              exact HT.ret ⟨[.one (.dat .bool true)], [], [], by kernel_rfl, by kernel_rfl, rfl, (.inl rfl), by kernel_rfl, trivial⟩
      · rcases of_bif hT21 with ⟨hb33, hT21⟩ | ⟨hb33, hT21⟩
        · refine HT.reg (rs := [⟨none, .no⟩, ⟨none, .no⟩, ⟨none, .no⟩, ⟨none, .no⟩, ⟨some true, .no⟩, ⟨some true, .no⟩, ⟨some true, .no⟩, ⟨none, .tv true⟩]) (st' := ⟨[(47, .one (.dat .bool true)), (46, .und), (45, .und), (44, .und), (43, .one (.dat .bool (y17.1 != y11.1))), (42, .one (.dat .bool (y17.1 != y11.1))), (41, .one (.dat .bool y11.1)), (40, .one (.dat .bool y17.1)), (2, .one (.ptr 0 0)), (3, .one (.ptr 1 0)), (6, .one (.dat .bool y11.1)), (7, .one (.dat .bool y11.2)), (8, .one (.ptr 8 0)), (9, .one (.ptr 11 0)), (10, .one (.dat .bool y17.1)), (11, .one (.dat .bool y17.2))], [(11, .box [.all 9, .all 10]), (11, .box [.nilS, .nilS]), (9, .seq (.int .i64) y15.1), (10, .seq (.int .i64) y15.2), (8, .box [.dat (.int .i64) y13.1, .dat (.int .i64) y13.2.1, .all 6, .all 7]), (8, .box [.dat (.int .i64) (0 : Int), .dat (.int .i64) (0 : Int), .nilS, .nilS]), (6, .seq (.int .i64) y13.2.2.1), (7, .seq .bool y13.2.2.2), (4, .seq (.int .i64) y9.1), (5, .seq (.int .i64) y9.2), (2, .seq (.int .i64) y7.2.2.1), (3, .seq .bool y7.2.2.2), (1, .box [.dat (.sl (.int .i64)) a1.1, .dat (.sl (.int .i64)) a1.2]), (0, .box [.dat (.int .i64) a0.1, .dat (.int .i64) a0.2.1, .dat (.sl (.int .i64)) a0.2.2.1, .dat (.sl .bool) a0.2.2.2])], 12⟩) hP hN (by kernel_rfl) (allCons hb33 (allCons hb33 (allCons hb33 (allCons hb33 allNil)))) (qThen ?_)
          exact (Le.cv (s := ⟨[(0, 0), (1, 1), (8, 2), (11, 3), (6, 4), (7, 5), (9, 6), (10, 7)], [], [], false⟩) (own := []) (ps := [true = true, a0.1 = a0.1, a0.2.1 = a0.2.1, a0.2.2.1 = a0.2.2.1, a0.2.2.2 = a0.2.2.2, a1.1 = a1.1, a1.2 = a1.2, y13.1 = y13.1, y13.2.1 = y13.2.1, y13.2.2.1 = y13.2.2.1, y13.2.2.2 = y13.2.2.2, y15.1 = y15.1, y15.2 = y15.2]) (st' := ⟨[(2, .one (.ptr 0 0)), (3, .one (.ptr 1 0)), (8, .one (.ptr 2 0)), (9, .one (.ptr 3 0)), (47, .one (.dat .bool true))], [(0, .box [.dat (.int .i64) a0.1, .dat (.int .i64) a0.2.1, .dat (.sl (.int .i64)) a0.2.2.1, .dat (.sl .bool) a0.2.2.2]), (1, .box [.dat (.sl (.int .i64)) a1.1, .dat (.sl (.int .i64)) a1.2]), (2, .box [.dat (.int .i64) y13.1, .dat (.int .i64) y13.2.1, .all 4, .all 5]), (3, .box [.all 6, .all 7]), (4, .seq (.int .i64) y13.2.2.1), (5, .seq .bool y13.2.2.2), (6, .seq (.int .i64) y15.1), (7, .seq (.int .i64) y15.2)], 8⟩) hO (fun h => by cases h) (by kernel_rfl) ⟨rfl, rfl, rfl, rfl, rfl, rfl, rfl, rfl, rfl, rfl, rfl, rfl, rfl, trivial⟩).ht (cont true (of_some hT21))
        · refine HT.reg (rs := [⟨none, .no⟩, ⟨none, .no⟩, ⟨none, .no⟩, ⟨none, .no⟩, ⟨some false, .no⟩, ⟨some false, .no⟩, ⟨some false, .no⟩, ⟨none, .tv false⟩]) (st' := ⟨[(47, .one (.dat .bool (y17.2 != y11.2))), (46, .one (.dat .bool (y17.2 != y11.2))), (45, .one (.dat .bool y11.2)), (44, .one (.dat .bool y17.2)), (43, .one (.dat .bool (y17.1 != y11.1))), (42, .one (.dat .bool (y17.1 != y11.1))), (41, .one (.dat .bool y11.1)), (40, .one (.dat .bool y17.1)), (2, .one (.ptr 0 0)), (3, .one (.ptr 1 0)), (6, .one (.dat .bool y11.1)), (7, .one (.dat .bool y11.2)), (8, .one (.ptr 8 0)), (9, .one (.ptr 11 0)), (10, .one (.dat .bool y17.1)), (11, .one (.dat .bool y17.2))], [(11, .box [.all 9, .all 10]), (11, .box [.nilS, .nilS]), (9, .seq (.int .i64) y15.1), (10, .seq (.int .i64) y15.2), (8, .box [.dat (.int .i64) y13.1, .dat (.int .i64) y13.2.1, .all 6, .all 7]), (8, .box [.dat (.int .i64) (0 : Int), .dat (.int .i64) (0 : Int), .nilS, .nilS]), (6, .seq (.int .i64) y13.2.2.1), (7, .seq .bool y13.2.2.2), (4, .seq (.int .i64) y9.1), (5, .seq (.int .i64) y9.2), (2, .seq (.int .i64) y7.2.2.1), (3, .seq .bool y7.2.2.2), (1, .box [.dat (.sl (.int .i64)) a1.1, .dat (.sl (.int .i64)) a1.2]), (0, .box [.dat (.int .i64) a0.1, .dat (.int .i64) a0.2.1, .dat (.sl (.int .i64)) a0.2.2.1, .dat (.sl .bool) a0.2.2.2])], 12⟩) hP hN (by kernel_rfl) (allCons hb33 (allCons hb33 (allCons hb33 (allCons hb33 allNil)))) (qThen ?_)
          exact (Le.cv (s := ⟨[(0, 0), (1, 1), (8, 2), (11, 3), (6, 4), (7, 5), (9, 6), (10, 7)], [], [], false⟩) (own := []) (ps := [(y17.2 != y11.2) = (y17.2 != y11.2), a0.1 = a0.1, a0.2.1 = a0.2.1, a0.2.2.1 = a0.2.2.1, a0.2.2.2 = a0.2.2.2, a1.1 = a1.1, a1.2 = a1.2, y13.1 = y13.1, y13.2.1 = y13.2.1, y13.2.2.1 = y13.2.2.1, y13.2.2.2 = y13.2.2.2, y15.1 = y15.1, y15.2 = y15.2]) (st' := ⟨[(2, .one (.ptr 0 0)), (3, .one (.ptr 1 0)), (8, .one (.ptr 2 0)), (9, .one (.ptr 3 0)), (47, .one (.dat .bool (y17.2 != y11.2)))], [(0, .box [.dat (.int .i64) a0.1, .dat (.int .i64) a0.2.1, .dat (.sl (.int .i64)) a0.2.2.1, .dat (.sl .bool) a0.2.2.2]), (1, .box [.dat (.sl (.int .i64)) a1.1, .dat (.sl (.int .i64)) a1.2]), (2, .box [.dat (.int .i64) y13.1, .dat (.int .i64) y13.2.1, .all 4, .all 5]), (3, .box [.all 6, .all 7]), (4, .seq (.int .i64) y13.2.2.1), (5, .seq .bool y13.2.2.2), (6, .seq (.int .i64) y15.1), (7, .seq (.int .i64) y15.2)], 8⟩) hO (fun h => by cases h) (by kernel_rfl) ⟨rfl, rfl, rfl, rfl, rfl, rfl, rfl, rfl, rfl, rfl, rfl, rfl, rfl, trivial⟩).ht (cont (y17.2 != y11.2) (of_some hT21))

noncomputable def impl_indicesOf_B1 (a0 : List Bool) (s1 : Int × List Int) : Option ((Int × List Int) ⊕ (List Int)) :=
  bif (decide (s1.1 < (lenI a0))) then
    (show Option (List Int) from
      guardP ((0 : Int) ≤ s1.1 ∧ s1.1 < lenI a0) (
        bif (List.getD a0 (Int.toNat s1.1) false) then
          guardP (List.length s1.2 + List.length ([s1.1] : List Int) ≤ appMax) (
            some (s1.2 ++ ([s1.1] : List Int)))
        else
          some s1.2)).bind fun v8 =>
    some (.inl ((wadd .i64 s1.1 (1 : Int)), v8))
  else
    some (.inr s1.2)

noncomputable def impl_indicesOf (a0 : List Bool) : Option (List Int) :=
  (rounds (impl_indicesOf_B1 a0) ((0 : Int), ([] : List Int))).bind fun r3 =>
  some r3

theorem f117_ok {a0 : List Bool} {r : List Int} (hr : impl_indicesOf a0 = some r) : CallOK Try.prog 117 [.imm (.sl .bool) a0] [⟨true, (.sl (.int .i64)), r⟩] [] := by
  unfold impl_indicesOf at hr
  refine CallOK.of_body (ts := [(true, (.sl (.int .i64)))]) Try.func117 rfl (by kernel_rfl) (Nat.le_of_ble_eq_true (by kernel_rfl)) fun cx hP hN hO hF => ?_
  have hO : cx.own.map Prod.fst = [] := hO
  show HT cx ⟨[(0, .one (.dat (.sl .bool) a0))], [], 0⟩ _ _
  refine HT.reg1 [0] [⟨none, .no⟩] ⟨[(0, .one (.dat (.sl .bool) a0))], [], 0⟩ hP hN (by kernel_rfl) allNil ?_
  refine HT.reg1 [0, 3] [⟨none, .no⟩, ⟨none, .no⟩] ⟨[(0, .one (.dat (.sl .bool) a0)), (3, .one (.nilS))], [], 0⟩ hP hN (by kernel_rfl) allNil ?_
  refine HT.seq ?_
  refine HT.reg1 [3, 7, 8, 9] [⟨none, .no⟩, ⟨none, .no⟩, ⟨none, .no⟩] ⟨[(3, .one (.nilS)), (7, .one (.dat (.sl .bool) a0)), (8, .one (.dat (.int .i64) (lenI a0))), (9, .one (.dat (.int .i64) (0 : Int)))], [], 0⟩ hP hN (by kernel_rfl) allNil ?_
  refine HT.block ?_
  obtain ⟨r2, hL14, hr⟩ := of_bind hr
  refine (Le.cv (s := ⟨[], [0], [], false⟩) (own := []) (ps := [a0 = a0, (lenI a0) = (lenI a0), (0 : Int) = (0 : Int), ([] : List Int) = []]) (st' := ⟨[(3, .one (.all 0)), (7, .one (.dat (.sl .bool) a0)), (8, .one (.dat (.int .i64) (lenI a0))), (9, .one (.dat (.int .i64) (0 : Int)))], [(0, .seq (.int .i64) ([] : List Int))], 1⟩) hO (fun h => by cases h) (by kernel_rfl) ⟨rfl, rfl, rfl, rfl, trivial⟩).ht ?_
  refine HT.loopE (s := ((0 : Int), ([] : List Int))) (fun (s1 : Int × List Int) => ⟨[(3, .one (.all 0)), (7, .one (.dat (.sl .bool) a0)), (8, .one (.dat (.int .i64) (lenI a0))), (9, .one (.dat (.int .i64) s1.1))], [(0, .seq (.int .i64) s1.2)], 1⟩) (fun (r3 : List Int) => (.exit 0, ⟨[(3, .one (.all 0))], [(0, .seq (.int .i64) r3)], 1⟩)) hL14 ?_ (fun s1 x4 hx5 hk6 => ?_)
  · refine (qBlockX (qThen ?_))
    refine HT.reg1 [2] [⟨none, .no⟩, ⟨none, .no⟩] ⟨[(2, .one (.all 0))], [(0, .seq (.int .i64) r2)], 1⟩ hP hN (by kernel_rfl) allNil ?_
    have hr := of_some hr
    subst hr
    exact HT.ret ⟨[.one (.all 0)], [0], [], by kernel_rfl, by kernel_rfl, rfl, (.inl rfl), by kernel_rfl, trivial⟩
  · refine HT.reg1 [3, 7, 8, 9, 10] [⟨none, .no⟩] ⟨[(3, .one (.all 0)), (7, .one (.dat (.sl .bool) a0)), (8, .one (.dat (.int .i64) (lenI a0))), (9, .one (.dat (.int .i64) s1.1)), (10, .one (.dat .bool (decide (s1.1 < (lenI a0)))))], [(0, .seq (.int .i64) s1.2)], 1⟩ hP hN (by kernel_rfl) allNil ?_
    refine HT.seq ?_
    rcases of_bif hx5 with ⟨hb7, hx5⟩ | ⟨hb7, hx5⟩
    · refine HT.cond1 rfl hb7 ?_
      refine HT.skip (qThen ?_)
      obtain ⟨v8', hT10, hx5⟩ := of_bind hx5
      refine HT.join (fun (v8 : List Int) => ⟨[(3, .one (.all 0)), (7, .one (.dat (.sl .bool) a0)), (8, .one (.dat (.int .i64) (lenI a0))), (9, .one (.dat (.int .i64) s1.1))], [(0, .seq (.int .i64) v8)], 1⟩) (fun v => v = v8') (fun v8 hv9 => ?_) (fun cont => ?_)
      · subst hv9
        have hx5 := of_some hx5
        subst hx5
        refine HT.reg (rs := [⟨none, .no⟩, ⟨none, .no⟩]) (st' := ⟨[(9, .one (.dat (.int .i64) (wadd .i64 s1.1 (1 : Int)))), (19, .one (.dat (.int .i64) (wadd .i64 s1.1 (1 : Int)))), (3, .one (.all 0)), (7, .one (.dat (.sl .bool) a0)), (8, .one (.dat (.int .i64) (lenI a0))), (9, .one (.dat (.int .i64) s1.1))], [(0, .seq (.int .i64) v8)], 1⟩) hP hN (by kernel_rfl) allNil (qLoopN ⟨((wadd .i64 s1.1 (1 : Int)), v8), rfl, Le.cv (s := ⟨[(0, 0)], [], [], false⟩) (own := []) (ps := [a0 = a0, (lenI a0) = (lenI a0), (wadd .i64 s1.1 (1 : Int)) = (wadd .i64 s1.1 (1 : Int)), v8 = v8]) (st' := ⟨[(3, .one (.all 0)), (7, .one (.dat (.sl .bool) a0)), (8, .one (.dat (.int .i64) (lenI a0))), (9, .one (.dat (.int .i64) (wadd .i64 s1.1 (1 : Int))))], [(0, .seq (.int .i64) v8)], 1⟩) hO (fun h => by cases h) (by kernel_rfl) ⟨rfl, rfl, rfl, rfl, trivial⟩⟩)
      · refine HT.block ?_
        obtain ⟨hg11, hT10⟩ := of_guard hT10
        refine HT.reg1 [3, 4, 5, 7, 8, 9] [⟨none, .no⟩, ⟨none, .no⟩, ⟨none, .no⟩, ⟨none, .no⟩, ⟨none, .no⟩] ⟨[(3, .one (.all 0)), (4, .one (.dat (.int .i64) s1.1)), (5, .one (.dat .bool (List.getD a0 (Int.toNat s1.1) false))), (7, .one (.dat (.sl .bool) a0)), (8, .one (.dat (.int .i64) (lenI a0))), (9, .one (.dat (.int .i64) s1.1))], [(0, .seq (.int .i64) s1.2)], 1⟩ hP hN (by kernel_rfl) (allCons hg11 allNil) ?_
        refine HT.reg1 [3, 4, 7, 8, 9, 14] [⟨none, .no⟩] ⟨[(3, .one (.all 0)), (4, .one (.dat (.int .i64) s1.1)), (7, .one (.dat (.sl .bool) a0)), (8, .one (.dat (.int .i64) (lenI a0))), (9, .one (.dat (.int .i64) s1.1)), (14, .one (.dat .bool (List.getD a0 (Int.toNat s1.1) false)))], [(0, .seq (.int .i64) s1.2)], 1⟩ hP hN (by kernel_rfl) allNil ?_
        rcases of_bif hT10 with ⟨hb12, hT10⟩ | ⟨hb12, hT10⟩
        · refine HT.cond1 rfl hb12 ?_
          obtain ⟨hg13, hT10⟩ := of_guard hT10
          refine HT.reg (rs := [⟨none, .no⟩, ⟨none, .no⟩, ⟨none, .ty (.int .i64)⟩, ⟨none, .ty (.int .i64)⟩, ⟨none, .no⟩]) (st' := ⟨[(3, .one (.all 2)), (18, .one (.all 2)), (17, .one (.all 1)), (16, .one (.dat (.int .i64) s1.1)), (15, .one (.all 0)), (3, .one (.all 0)), (4, .one (.dat (.int .i64) s1.1)), (7, .one (.dat (.sl .bool) a0)), (8, .one (.dat (.int .i64) (lenI a0))), (9, .one (.dat (.int .i64) s1.1)), (14, .one (.dat .bool (List.getD a0 (Int.toNat s1.1) false)))], [(0, .gone), (2, .seq (.int .i64) (s1.2 ++ ([s1.1] : List Int))), (1, .seq (.int .i64) ([s1.1] : List Int)), (0, .seq (.int .i64) s1.2)], 3⟩) hP hN (by kernel_rfl) (allCons hg13 allNil) (qBlock (qThen ?_))
          exact (Le.cv (s := ⟨[(2, 0)], [], [], false⟩) (own := []) (ps := [a0 = a0, (lenI a0) = (lenI a0), s1.1 = s1.1, (s1.2 ++ ([s1.1] : List Int)) = (s1.2 ++ ([s1.1] : List Int))]) (st' := ⟨[(3, .one (.all 0)), (7, .one (.dat (.sl .bool) a0)), (8, .one (.dat (.int .i64) (lenI a0))), (9, .one (.dat (.int .i64) s1.1))], [(0, .seq (.int .i64) (s1.2 ++ ([s1.1] : List Int)))], 1⟩) hO (fun h => by cases h) (by kernel_rfl) ⟨rfl, rfl, rfl, rfl, trivial⟩).ht (cont (s1.2 ++ ([s1.1] : List Int)) (of_some hT10))
        · refine HT.cond0 rfl hb12 ?_
          refine HT.skip (qBlock (qThen ?_))
          exact (Le.cv (s := ⟨[(0, 0)], [], [], false⟩) (own := []) (ps := [a0 = a0, (lenI a0) = (lenI a0), s1.1 = s1.1, s1.2 = s1.2]) (st' := ⟨[(3, .one (.all 0)), (7, .one (.dat (.sl .bool) a0)), (8, .one (.dat (.int .i64) (lenI a0))), (9, .one (.dat (.int .i64) s1.1))], [(0, .seq (.int .i64) s1.2)], 1⟩) hO (fun h => by cases h) (by kernel_rfl) ⟨rfl, rfl, rfl, rfl, trivial⟩).ht (cont s1.2 (of_some hT10))
    · refine HT.cond0 rfl hb7 ?_
      have hx5 := of_some hx5
      subst hx5
      refine (Le.cv (s := ⟨[(0, 0)], [], [], false⟩) (own := []) (ps := [s1.2 = s1.2]) (st' := ⟨[(3, .one (.all 0))], [(0, .seq (.int .i64) s1.2)], 1⟩) hO (fun h => by cases h) (by kernel_rfl) ⟨rfl, trivial⟩).ht ?_
      exact HT.exit (qThenE (qLoopE (hk6 s1.2 rfl)))

end Go.Proofs
