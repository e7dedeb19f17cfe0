import Derived.Test.YtcdcholgpdladaaValidDeskGenB
import Derived.Test.YtcdcholgpdladaaProg
set_option linter.unusedVariables false
set_option linter.unusedSimpArgs false
set_option linter.unusedSectionVars false
/-
  Functions as plain functions, and their contracts. Printed by a program.
-/
namespace Go.Proofs
open Go.Ide

noncomputable def impl_ValidGrammar_B1 (a0 : Int × Int × List (Int × Int × Int × Int)) (s5 : Int) : Option ((Int) ⊕ (Unit ⊕ Unit)) :=
  bif (decide (s5 < (lenI a0.2.2))) then
    guardP ((0 : Int) ≤ s5 ∧ s5 < lenI a0.2.2) (
      (show Option (Int) from
        bif ((((List.getD a0.2.2 (Int.toNat s5) ((0 : Int), (0 : Int), (0 : Int), (0 : Int))).2).2).1 == (-1 : Int)) then
          some (wsub .i64 a0.2.1 (1 : Int))
        else
          some (wsub .i64 a0.1 (1 : Int))).bind fun v14 =>
      (show Option (Bool) from
        (impl_within ((List.getD a0.2.2 (Int.toNat s5) ((0 : Int), (0 : Int), (0 : Int), (0 : Int))).1) (0 : Int) (wsub .i64 a0.1 (1 : Int))).bind fun y21 =>
        bif (!y21) then
          some true
        else
          (impl_within (((List.getD a0.2.2 (Int.toNat s5) ((0 : Int), (0 : Int), (0 : Int), (0 : Int))).2).1) (0 : Int) v14).bind fun y24 =>
          bif (!y24) then
            some true
          else
            (impl_within ((((List.getD a0.2.2 (Int.toNat s5) ((0 : Int), (0 : Int), (0 : Int), (0 : Int))).2).2).1) (-1 : Int) (wsub .i64 a0.1 (1 : Int))).bind fun y27 =>
            bif (!y27) then
              some true
            else
              (impl_within ((((List.getD a0.2.2 (Int.toNat s5) ((0 : Int), (0 : Int), (0 : Int), (0 : Int))).2).2).2) (0 : Int) (1000 : Int)).bind fun y30 =>
              some (!y30)).bind fun v17 =>
      bif v17 then
        some (.inr (.inr ()))
      else
        some (.inl (wadd .i64 s5 (1 : Int))))
  else
    some (.inr (.inl ()))

noncomputable def impl_ValidGrammar (a0 : Int × Int × List (Int × Int × Int × Int)) : Option (Bool) :=
  (show Option (Bool) from
    (impl_within a0.1 (1 : Int) (8 : Int)).bind fun y34 =>
    bif (!y34) then
      some true
    else
      (impl_within a0.2.1 (1 : Int) (4 : Int)).bind fun y37 =>
      bif (!y37) then
        some true
      else
        some (decide ((lenI a0.2.2) > (32 : Int)))).bind fun v1 =>
  bif v1 then
    some false
  else
    (rounds (impl_ValidGrammar_B1 a0) (0 : Int)).bind fun r6 => match r6 with
      | .inl r7 =>
        some true
      | .inr r8 =>
        some false

theorem f48_ok {a0 : Int × Int × List (Int × Int × Int × Int)} {r : Bool} (hr : impl_ValidGrammar a0 = some r) : CallOK Try.prog 48 [.imm (.st (.pair (.int .i64) (.pair (.int .i64) (.sl (.st (.pair (.int .i64) (.pair (.int .i64) (.pair (.int .i64) (.int .i64))))))))) a0] [⟨false, .bool, r⟩] [] := by
  unfold impl_ValidGrammar at hr
  refine CallOK.of_body (ts := [(false, .bool)]) Try.func48 rfl (by kernel_rfl) (Nat.le_of_ble_eq_true (by kernel_rfl)) fun cx hP hN hO hF => ?_
  have hO : cx.own.map Prod.fst = [] := hO
  have hF := hF rfl
  show HT cx ⟨[(0, .agg [.dat (.int .i64) a0.1, .dat (.int .i64) a0.2.1, .dat (.sl (.st (.pair (.int .i64) (.pair (.int .i64) (.pair (.int .i64) (.int .i64)))))) a0.2.2])], [], 0⟩ _ _
  refine HT.reg1 [1] [⟨none, .no⟩, ⟨none, .no⟩] ⟨[(1, .one (.ptr 0 0))], [(0, .box [.dat (.int .i64) a0.1, .dat (.int .i64) a0.2.1, .dat (.sl (.st (.pair (.int .i64) (.pair (.int .i64) (.pair (.int .i64) (.int .i64)))))) a0.2.2])], 1⟩ hP hN (by kernel_rfl) allNil ?_
  refine HT.seq ?_
  obtain ⟨v1', hT3, hr⟩ := of_bind hr
  refine HT.join (fun (v1 : Bool) => ⟨[(1, .one (.ptr 0 0)), (21, .one (.dat .bool v1))], [(0, .box [.dat (.int .i64) a0.1, .dat (.int .i64) a0.2.1, .dat (.sl (.st (.pair (.int .i64) (.pair (.int .i64) (.pair (.int .i64) (.int .i64)))))) a0.2.2])], 1⟩) (fun v => v = v1') (fun v1 hv2 => ?_) (fun cont => ?_)
  · subst hv2
    rcases of_bif hr with ⟨hb4, hr⟩ | ⟨hb4, hr⟩
    · refine HT.cond1 rfl hb4 ?_
      refine HT.reg1 [2] [⟨none, .no⟩] ⟨[(2, .one (.dat .bool false))], [(0, .box [.dat (.int .i64) a0.1, .dat (.int .i64) a0.2.1, .dat (.sl (.st (.pair (.int .i64) (.pair (.int .i64) (.pair (.int .i64) (.int .i64)))))) a0.2.2])], 1⟩ hP hN (by kernel_rfl) allNil ?_
      have hr := of_some hr
      subst hr
      exact HT.ret (qThenR ⟨[.one (.dat .bool false)], [], [], by kernel_rfl, by kernel_rfl, rfl, by kernel_rfl, by kernel_rfl, trivial⟩)
    · refine HT.cond0 rfl hb4 ?_
      refine HT.skip (qThen ?_)
      refine HT.seq ?_
      refine HT.reg1 [1, 23, 24, 25] [⟨none, .no⟩, ⟨none, .no⟩, ⟨none, .no⟩, ⟨none, .no⟩] ⟨[(1, .one (.ptr 0 0)), (23, .one (.dat (.sl (.st (.pair (.int .i64) (.pair (.int .i64) (.pair (.int .i64) (.int .i64)))))) a0.2.2)), (24, .one (.dat (.int .i64) (lenI a0.2.2))), (25, .one (.dat (.int .i64) (0 : Int)))], [(0, .box [.dat (.int .i64) a0.1, .dat (.int .i64) a0.2.1, .dat (.sl (.st (.pair (.int .i64) (.pair (.int .i64) (.pair (.int .i64) (.int .i64)))))) a0.2.2])], 1⟩ hP hN (by kernel_rfl) allNil ?_
      refine HT.block ?_
      obtain ⟨r6, hL33, hr⟩ := of_bind hr
      refine (Le.cv (s := ⟨[(0, 0)], [], [], false⟩) (own := []) (ps := [a0.2.2 = a0.2.2, (lenI a0.2.2) = (lenI a0.2.2), (0 : Int) = (0 : Int), a0.1 = a0.1, a0.2.1 = a0.2.1, a0.2.2 = a0.2.2]) (st' := ⟨[(1, .one (.ptr 0 0)), (23, .one (.dat (.sl (.st (.pair (.int .i64) (.pair (.int .i64) (.pair (.int .i64) (.int .i64)))))) a0.2.2)), (24, .one (.dat (.int .i64) (lenI a0.2.2))), (25, .one (.dat (.int .i64) (0 : Int)))], [(0, .box [.dat (.int .i64) a0.1, .dat (.int .i64) a0.2.1, .dat (.sl (.st (.pair (.int .i64) (.pair (.int .i64) (.pair (.int .i64) (.int .i64)))))) a0.2.2])], 1⟩) hO (fun h => by cases h) (by kernel_rfl) ⟨rfl, rfl, rfl, rfl, rfl, rfl, trivial⟩).ht ?_
      refine HT.loopE (s := (0 : Int)) (fun (s5 : Int) => ⟨[(1, .one (.ptr 0 0)), (23, .one (.dat (.sl (.st (.pair (.int .i64) (.pair (.int .i64) (.pair (.int .i64) (.int .i64)))))) a0.2.2)), (24, .one (.dat (.int .i64) (lenI a0.2.2))), (25, .one (.dat (.int .i64) s5))], [(0, .box [.dat (.int .i64) a0.1, .dat (.int .i64) a0.2.1, .dat (.sl (.st (.pair (.int .i64) (.pair (.int .i64) (.pair (.int .i64) (.int .i64)))))) a0.2.2])], 1⟩) (fun (r6 : Unit ⊕ Unit) => match r6 with | .inl r7 => (.exit 0, ⟨[], [], 0⟩) | .inr r8 => (.ret, ⟨[(2, .one (.dat .bool false))], [], 0⟩)) hL33 ?_ (fun s5 x9 hx10 hk11 => ?_)
      · rcases r6 with r7 | r8
        · refine (qBlockX (qThen ?_))
          refine HT.reg1 [2] [⟨none, .no⟩] ⟨[(2, .one (.dat .bool true))], [], 0⟩ hP hN (by kernel_rfl) allNil ?_
          have hr := of_some hr
          subst hr
          exact HT.ret ⟨[.one (.dat .bool true)], [], [], by kernel_rfl, by kernel_rfl, rfl, by kernel_rfl, by kernel_rfl, trivial⟩
        · have hr := of_some hr
          subst hr
          exact (qBlockR (qThenR ⟨[.one (.dat .bool false)], [], [], by kernel_rfl, by kernel_rfl, rfl, by kernel_rfl, by kernel_rfl, trivial⟩))
      · refine HT.reg1 [1, 23, 24, 25, 26] [⟨none, .no⟩] ⟨[(1, .one (.ptr 0 0)), (23, .one (.dat (.sl (.st (.pair (.int .i64) (.pair (.int .i64) (.pair (.int .i64) (.int .i64)))))) a0.2.2)), (24, .one (.dat (.int .i64) (lenI a0.2.2))), (25, .one (.dat (.int .i64) s5)), (26, .one (.dat .bool (decide (s5 < (lenI a0.2.2)))))], [(0, .box [.dat (.int .i64) a0.1, .dat (.int .i64) a0.2.1, .dat (.sl (.st (.pair (.int .i64) (.pair (.int .i64) (.pair (.int .i64) (.int .i64)))))) a0.2.2])], 1⟩ hP hN (by kernel_rfl) allNil ?_
        refine HT.seq ?_
        rcases of_bif hx10 with ⟨hb12, hx10⟩ | ⟨hb12, hx10⟩
        · refine HT.cond1 rfl hb12 ?_
          refine HT.skip (qThen ?_)
          refine HT.seq ?_
          refine HT.block ?_
          obtain ⟨hg13, hx10⟩ := of_guard hx10
          refine HT.reg1 [1, 4, 23, 24, 25] [⟨none, .no⟩, ⟨none, .no⟩, ⟨none, .no⟩, ⟨none, .no⟩] ⟨[(1, .one (.ptr 0 0)), (4, .one (.ptr 1 0)), (23, .one (.dat (.sl (.st (.pair (.int .i64) (.pair (.int .i64) (.pair (.int .i64) (.int .i64)))))) a0.2.2)), (24, .one (.dat (.int .i64) (lenI a0.2.2))), (25, .one (.dat (.int .i64) s5))], [(1, .box [.dat (.int .i64) ((List.getD a0.2.2 (Int.toNat s5) ((0 : Int), (0 : Int), (0 : Int), (0 : Int))).1), .dat (.int .i64) (((List.getD a0.2.2 (Int.toNat s5) ((0 : Int), (0 : Int), (0 : Int), (0 : Int))).2).1), .dat (.int .i64) ((((List.getD a0.2.2 (Int.toNat s5) ((0 : Int), (0 : Int), (0 : Int), (0 : Int))).2).2).1), .dat (.int .i64) ((((List.getD a0.2.2 (Int.toNat s5) ((0 : Int), (0 : Int), (0 : Int), (0 : Int))).2).2).2)]), (1, .box [.dat (.int .i64) (0 : Int), .dat (.int .i64) (0 : Int), .dat (.int .i64) (0 : Int), .dat (.int .i64) (0 : Int)]), (0, .box [.dat (.int .i64) a0.1, .dat (.int .i64) a0.2.1, .dat (.sl (.st (.pair (.int .i64) (.pair (.int .i64) (.pair (.int .i64) (.int .i64)))))) a0.2.2])], 2⟩ hP hN (by kernel_rfl) (allCons hg13 allNil) ?_
          refine HT.reg1 [1, 4, 5, 23, 24, 25] [⟨none, .no⟩, ⟨none, .no⟩, ⟨none, .no⟩, ⟨none, .no⟩] ⟨[(1, .one (.ptr 0 0)), (4, .one (.ptr 1 0)), (5, .one (.dat (.int .i64) (wsub .i64 a0.1 (1 : Int)))), (23, .one (.dat (.sl (.st (.pair (.int .i64) (.pair (.int .i64) (.pair (.int .i64) (.int .i64)))))) a0.2.2)), (24, .one (.dat (.int .i64) (lenI a0.2.2))), (25, .one (.dat (.int .i64) s5))], [(1, .box [.dat (.int .i64) ((List.getD a0.2.2 (Int.toNat s5) ((0 : Int), (0 : Int), (0 : Int), (0 : Int))).1), .dat (.int .i64) (((List.getD a0.2.2 (Int.toNat s5) ((0 : Int), (0 : Int), (0 : Int), (0 : Int))).2).1), .dat (.int .i64) ((((List.getD a0.2.2 (Int.toNat s5) ((0 : Int), (0 : Int), (0 : Int), (0 : Int))).2).2).1), .dat (.int .i64) ((((List.getD a0.2.2 (Int.toNat s5) ((0 : Int), (0 : Int), (0 : Int), (0 : Int))).2).2).2)]), (1, .box [.dat (.int .i64) (0 : Int), .dat (.int .i64) (0 : Int), .dat (.int .i64) (0 : Int), .dat (.int .i64) (0 : Int)]), (0, .box [.dat (.int .i64) a0.1, .dat (.int .i64) a0.2.1, .dat (.sl (.st (.pair (.int .i64) (.pair (.int .i64) (.pair (.int .i64) (.int .i64)))))) a0.2.2])], 2⟩ hP hN (by kernel_rfl) allNil ?_
          obtain ⟨v14', hT16, hx10⟩ := of_bind hx10
          refine HT.join (fun (v14 : Int) => ⟨[(1, .one (.ptr 0 0)), (4, .one (.ptr 1 0)), (5, .one (.dat (.int .i64) v14)), (23, .one (.dat (.sl (.st (.pair (.int .i64) (.pair (.int .i64) (.pair (.int .i64) (.int .i64)))))) a0.2.2)), (24, .one (.dat (.int .i64) (lenI a0.2.2))), (25, .one (.dat (.int .i64) s5))], [(0, .box [.dat (.int .i64) a0.1, .dat (.int .i64) a0.2.1, .dat (.sl (.st (.pair (.int .i64) (.pair (.int .i64) (.pair (.int .i64) (.int .i64)))))) a0.2.2]), (1, .box [.dat (.int .i64) ((List.getD a0.2.2 (Int.toNat s5) ((0 : Int), (0 : Int), (0 : Int), (0 : Int))).1), .dat (.int .i64) (((List.getD a0.2.2 (Int.toNat s5) ((0 : Int), (0 : Int), (0 : Int), (0 : Int))).2).1), .dat (.int .i64) ((((List.getD a0.2.2 (Int.toNat s5) ((0 : Int), (0 : Int), (0 : Int), (0 : Int))).2).2).1), .dat (.int .i64) ((((List.getD a0.2.2 (Int.toNat s5) ((0 : Int), (0 : Int), (0 : Int), (0 : Int))).2).2).2)])], 2⟩) (fun v => v = v14') (fun v14 hv15 => ?_) (fun cont => ?_)
          · subst hv15
            obtain ⟨v17', hT19, hx10⟩ := of_bind hx10
            refine HT.join (fun (v17 : Bool) => ⟨[(1, .one (.ptr 0 0)), (23, .one (.dat (.sl (.st (.pair (.int .i64) (.pair (.int .i64) (.pair (.int .i64) (.int .i64)))))) a0.2.2)), (24, .one (.dat (.int .i64) (lenI a0.2.2))), (25, .one (.dat (.int .i64) s5)), (66, .one (.dat .bool v17))], [(0, .box [.dat (.int .i64) a0.1, .dat (.int .i64) a0.2.1, .dat (.sl (.st (.pair (.int .i64) (.pair (.int .i64) (.pair (.int .i64) (.int .i64)))))) a0.2.2])], 1⟩) (fun v => v = v17') (fun v17 hv18 => ?_) (fun cont => ?_)
            · subst hv18
              rcases of_bif hx10 with ⟨hb20, hx10⟩ | ⟨hb20, hx10⟩
              · refine HT.cond1 rfl hb20 ?_
                refine HT.reg1 [2] [⟨none, .no⟩] ⟨[(2, .one (.dat .bool false))], [(0, .box [.dat (.int .i64) a0.1, .dat (.int .i64) a0.2.1, .dat (.sl (.st (.pair (.int .i64) (.pair (.int .i64) (.pair (.int .i64) (.int .i64)))))) a0.2.2])], 1⟩ hP hN (by kernel_rfl) allNil ?_
                have hx10 := of_some hx10
                subst hx10
                refine (Le.cv (s := ⟨[], [], [], false⟩) (own := []) (ps := [false = false]) (st' := ⟨[(2, .one (.dat .bool false))], [], 0⟩) hO (fun h => by cases h) (by kernel_rfl) ⟨rfl, trivial⟩).ht ?_
                exact HT.ret (qBlockR (qThenR (qLoopR (hk11 (.inr ()) rfl))))
              · refine HT.cond0 rfl hb20 ?_
                refine HT.skip (qBlock (qThen ?_))
                have hx10 := of_some hx10
                subst hx10
                refine HT.reg (rs := [⟨none, .no⟩, ⟨none, .no⟩]) (st' := ⟨[(25, .one (.dat (.int .i64) (wadd .i64 s5 (1 : Int)))), (67, .one (.dat (.int .i64) (wadd .i64 s5 (1 : Int)))), (1, .one (.ptr 0 0)), (23, .one (.dat (.sl (.st (.pair (.int .i64) (.pair (.int .i64) (.pair (.int .i64) (.int .i64)))))) a0.2.2)), (24, .one (.dat (.int .i64) (lenI a0.2.2))), (25, .one (.dat (.int .i64) s5)), (66, .one (.dat .bool v17))], [(0, .box [.dat (.int .i64) a0.1, .dat (.int .i64) a0.2.1, .dat (.sl (.st (.pair (.int .i64) (.pair (.int .i64) (.pair (.int .i64) (.int .i64)))))) a0.2.2])], 1⟩) hP hN (by kernel_rfl) allNil (qLoopN ⟨(wadd .i64 s5 (1 : Int)), rfl, Le.cv (s := ⟨[(0, 0)], [], [], false⟩) (own := []) (ps := [a0.2.2 = a0.2.2, (lenI a0.2.2) = (lenI a0.2.2), (wadd .i64 s5 (1 : Int)) = (wadd .i64 s5 (1 : Int)), a0.1 = a0.1, a0.2.1 = a0.2.1, a0.2.2 = a0.2.2]) (st' := ⟨[(1, .one (.ptr 0 0)), (23, .one (.dat (.sl (.st (.pair (.int .i64) (.pair (.int .i64) (.pair (.int .i64) (.int .i64)))))) a0.2.2)), (24, .one (.dat (.int .i64) (lenI a0.2.2))), (25, .one (.dat (.int .i64) (wadd .i64 s5 (1 : Int))))], [(0, .box [.dat (.int .i64) a0.1, .dat (.int .i64) a0.2.1, .dat (.sl (.st (.pair (.int .i64) (.pair (.int .i64) (.pair (.int .i64) (.int .i64)))))) a0.2.2])], 1⟩) hO (fun h => by cases h) (by kernel_rfl) ⟨rfl, rfl, rfl, rfl, rfl, rfl, trivial⟩⟩)
            · obtain ⟨y21, hc22, hT19⟩ := of_bind hT19
              rcases of_bif hT19 with ⟨hb23, hT19⟩ | ⟨hb23, hT19⟩
              · refine HT.reg (rs := [⟨none, .no⟩, ⟨none, .no⟩, ⟨none, .no⟩, ⟨none, .no⟩, ⟨none, .no⟩, ⟨none, .call [.imm (.int .i64), .imm (.int .i64), .imm (.int .i64)] [⟨false, .bool, y21⟩] []⟩, ⟨none, .no⟩, ⟨none, .no⟩, ⟨some true, .no⟩, ⟨some true, .no⟩, ⟨some true, .no⟩, ⟨some true, .no⟩, ⟨some true, .no⟩, ⟨none, .tv true⟩, ⟨none, .no⟩, ⟨some true, .no⟩, ⟨some true, .no⟩, ⟨some true, .no⟩, ⟨some true, .no⟩, ⟨some true, .no⟩, ⟨some true, .no⟩, ⟨some true, .no⟩, ⟨none, .tv true⟩, ⟨none, .no⟩, ⟨some true, .no⟩, ⟨some true, .no⟩, ⟨some true, .no⟩, ⟨some true, .no⟩, ⟨none, .tv true⟩]) (st' := ⟨[(66, .one (.dat .bool true)), (65, .und), (64, .und), (63, .und), (62, .und), (61, .one (.dat .bool true)), (60, .one (.dat .bool true)), (59, .und), (58, .und), (57, .und), (56, .und), (55, .und), (54, .und), (53, .und), (52, .one (.dat .bool true)), (51, .one (.dat .bool true)), (50, .und), (49, .und), (48, .und), (47, .und), (46, .und), (45, .one (.dat .bool (!y21))), (44, .one (.dat .bool (!y21))), (43, .one (.dat .bool y21)), (42, .one (.dat (.int .i64) (wsub .i64 a0.1 (1 : Int)))), (41, .one (.dat (.int .i64) a0.1)), (40, .one (.ptr 0 0)), (39, .one (.dat (.int .i64) ((List.getD a0.2.2 (Int.toNat s5) ((0 : Int), (0 : Int), (0 : Int), (0 : Int))).1))), (38, .one (.ptr 1 0)), (1, .one (.ptr 0 0)), (4, .one (.ptr 1 0)), (5, .one (.dat (.int .i64) v14)), (23, .one (.dat (.sl (.st (.pair (.int .i64) (.pair (.int .i64) (.pair (.int .i64) (.int .i64)))))) a0.2.2)), (24, .one (.dat (.int .i64) (lenI a0.2.2))), (25, .one (.dat (.int .i64) s5))], [(0, .box [.dat (.int .i64) a0.1, .dat (.int .i64) a0.2.1, .dat (.sl (.st (.pair (.int .i64) (.pair (.int .i64) (.pair (.int .i64) (.int .i64)))))) a0.2.2]), (1, .box [.dat (.int .i64) ((List.getD a0.2.2 (Int.toNat s5) ((0 : Int), (0 : Int), (0 : Int), (0 : Int))).1), .dat (.int .i64) (((List.getD a0.2.2 (Int.toNat s5) ((0 : Int), (0 : Int), (0 : Int), (0 : Int))).2).1), .dat (.int .i64) ((((List.getD a0.2.2 (Int.toNat s5) ((0 : Int), (0 : Int), (0 : Int), (0 : Int))).2).2).1), .dat (.int .i64) ((((List.getD a0.2.2 (Int.toNat s5) ((0 : Int), (0 : Int), (0 : Int), (0 : Int))).2).2).2)])], 2⟩) hP hN (by kernel_rfl) (allCons (f72_ok hc22) (allCons hb23 (allCons hb23 (allCons hb23 (allCons hb23 (allCons hb23 (allCons hb23 (allCons (rfl : true = true) (allCons (rfl : true = true) (allCons (rfl : true = true) (allCons (rfl : true = true) (allCons (rfl : true = true) (allCons (rfl : true = true) (allCons (rfl : true = true) (allCons (rfl : true = true) (allCons (rfl : true = true) (allCons (rfl : true = true) (allCons (rfl : true = true) (allCons (rfl : true = true) (allCons (rfl : true = true) allNil)))))))))))))))))))) (qThen ?_)
                exact (Le.cv (s := ⟨[(0, 0)], [], [], false⟩) (own := []) (ps := [a0.2.2 = a0.2.2, (lenI a0.2.2) = (lenI a0.2.2), s5 = s5, true = true, a0.1 = a0.1, a0.2.1 = a0.2.1, a0.2.2 = a0.2.2]) (st' := ⟨[(1, .one (.ptr 0 0)), (23, .one (.dat (.sl (.st (.pair (.int .i64) (.pair (.int .i64) (.pair (.int .i64) (.int .i64)))))) a0.2.2)), (24, .one (.dat (.int .i64) (lenI a0.2.2))), (25, .one (.dat (.int .i64) s5)), (66, .one (.dat .bool true))], [(0, .box [.dat (.int .i64) a0.1, .dat (.int .i64) a0.2.1, .dat (.sl (.st (.pair (.int .i64) (.pair (.int .i64) (.pair (.int .i64) (.int .i64)))))) a0.2.2])], 1⟩) hO (fun h => by cases h) (by kernel_rfl) ⟨rfl, rfl, rfl, rfl, rfl, rfl, rfl, trivial⟩).ht (cont true (of_some hT19))
              · obtain ⟨y24, hc25, hT19⟩ := of_bind hT19
                rcases of_bif hT19 with ⟨hb26, hT19⟩ | ⟨hb26, hT19⟩
                · refine HT.reg (rs := [⟨none, .no⟩, ⟨none, .no⟩, ⟨none, .no⟩, ⟨none, .no⟩, ⟨none, .no⟩, ⟨none, .call [.imm (.int .i64), .imm (.int .i64), .imm (.int .i64)] [⟨false, .bool, y21⟩] []⟩, ⟨none, .no⟩, ⟨none, .no⟩, ⟨some false, .no⟩, ⟨some false, .no⟩, ⟨some false, .no⟩, ⟨some false, .call [.imm (.int .i64), .imm (.int .i64), .imm (.int .i64)] [⟨false, .bool, y24⟩] []⟩, ⟨some false, .no⟩, ⟨none, .tv false⟩, ⟨none, .no⟩, ⟨some true, .no⟩, ⟨some true, .no⟩, ⟨some true, .no⟩, ⟨some true, .no⟩, ⟨some true, .no⟩, ⟨some true, .no⟩, ⟨some true, .no⟩, ⟨none, .tv true⟩, ⟨none, .no⟩, ⟨some true, .no⟩, ⟨some true, .no⟩, ⟨some true, .no⟩, ⟨some true, .no⟩, ⟨none, .tv true⟩]) (st' := ⟨[(66, .one (.dat .bool true)), (65, .und), (64, .und), (63, .und), (62, .und), (61, .one (.dat .bool true)), (60, .one (.dat .bool true)), (59, .und), (58, .und), (57, .und), (56, .und), (55, .und), (54, .und), (53, .und), (52, .one (.dat .bool (!y24))), (51, .one (.dat .bool (!y24))), (50, .one (.dat .bool (!y24))), (49, .one (.dat .bool y24)), (48, .one (.dat (.int .i64) v14)), (47, .one (.dat (.int .i64) (((List.getD a0.2.2 (Int.toNat s5) ((0 : Int), (0 : Int), (0 : Int), (0 : Int))).2).1))), (46, .one (.ptr 1 1)), (45, .one (.dat .bool (!y21))), (44, .one (.dat .bool (!y21))), (43, .one (.dat .bool y21)), (42, .one (.dat (.int .i64) (wsub .i64 a0.1 (1 : Int)))), (41, .one (.dat (.int .i64) a0.1)), (40, .one (.ptr 0 0)), (39, .one (.dat (.int .i64) ((List.getD a0.2.2 (Int.toNat s5) ((0 : Int), (0 : Int), (0 : Int), (0 : Int))).1))), (38, .one (.ptr 1 0)), (1, .one (.ptr 0 0)), (4, .one (.ptr 1 0)), (5, .one (.dat (.int .i64) v14)), (23, .one (.dat (.sl (.st (.pair (.int .i64) (.pair (.int .i64) (.pair (.int .i64) (.int .i64)))))) a0.2.2)), (24, .one (.dat (.int .i64) (lenI a0.2.2))), (25, .one (.dat (.int .i64) s5))], [(0, .box [.dat (.int .i64) a0.1, .dat (.int .i64) a0.2.1, .dat (.sl (.st (.pair (.int .i64) (.pair (.int .i64) (.pair (.int .i64) (.int .i64)))))) a0.2.2]), (1, .box [.dat (.int .i64) ((List.getD a0.2.2 (Int.toNat s5) ((0 : Int), (0 : Int), (0 : Int), (0 : Int))).1), .dat (.int .i64) (((List.getD a0.2.2 (Int.toNat s5) ((0 : Int), (0 : Int), (0 : Int), (0 : Int))).2).1), .dat (.int .i64) ((((List.getD a0.2.2 (Int.toNat s5) ((0 : Int), (0 : Int), (0 : Int), (0 : Int))).2).2).1), .dat (.int .i64) ((((List.getD a0.2.2 (Int.toNat s5) ((0 : Int), (0 : Int), (0 : Int), (0 : Int))).2).2).2)])], 2⟩) hP hN (by kernel_rfl) (allCons (f72_ok hc22) (allCons hb23 (allCons hb23 (allCons hb23 (allCons hb23 (allCons (f72_ok hc25) (allCons hb23 (allCons hb23 (allCons hb26 (allCons hb26 (allCons hb26 (allCons hb26 (allCons hb26 (allCons hb26 (allCons hb26 (allCons hb26 (allCons (rfl : true = true) (allCons (rfl : true = true) (allCons (rfl : true = true) (allCons (rfl : true = true) (allCons (rfl : true = true) allNil))))))))))))))))))))) (qThen ?_)
                  exact (Le.cv (s := ⟨[(0, 0)], [], [], false⟩) (own := []) (ps := [a0.2.2 = a0.2.2, (lenI a0.2.2) = (lenI a0.2.2), s5 = s5, true = true, a0.1 = a0.1, a0.2.1 = a0.2.1, a0.2.2 = a0.2.2]) (st' := ⟨[(1, .one (.ptr 0 0)), (23, .one (.dat (.sl (.st (.pair (.int .i64) (.pair (.int .i64) (.pair (.int .i64) (.int .i64)))))) a0.2.2)), (24, .one (.dat (.int .i64) (lenI a0.2.2))), (25, .one (.dat (.int .i64) s5)), (66, .one (.dat .bool true))], [(0, .box [.dat (.int .i64) a0.1, .dat (.int .i64) a0.2.1, .dat (.sl (.st (.pair (.int .i64) (.pair (.int .i64) (.pair (.int .i64) (.int .i64)))))) a0.2.2])], 1⟩) hO (fun h => by cases h) (by kernel_rfl) ⟨rfl, rfl, rfl, rfl, rfl, rfl, rfl, trivial⟩).ht (cont true (of_some hT19))
                · obtain ⟨y27, hc28, hT19⟩ := of_bind hT19
                  rcases of_bif hT19 with ⟨hb29, hT19⟩ | ⟨hb29, hT19⟩
                  · refine HT.reg (rs := [⟨none, .no⟩, ⟨none, .no⟩, ⟨none, .no⟩, ⟨none, .no⟩, ⟨none, .no⟩, ⟨none, .call [.imm (.int .i64), .imm (.int .i64), .imm (.int .i64)] [⟨false, .bool, y21⟩] []⟩, ⟨none, .no⟩, ⟨none, .no⟩, ⟨some false, .no⟩, ⟨some false, .no⟩, ⟨some false, .no⟩, ⟨some false, .call [.imm (.int .i64), .imm (.int .i64), .imm (.int .i64)] [⟨false, .bool, y24⟩] []⟩, ⟨some false, .no⟩, ⟨none, .tv false⟩, ⟨none, .no⟩, ⟨some false, .no⟩, ⟨some false, .no⟩, ⟨some false, .no⟩, ⟨some false, .no⟩, ⟨some false, .no⟩, ⟨some false, .call [.imm (.int .i64), .imm (.int .i64), .imm (.int .i64)] [⟨false, .bool, y27⟩] []⟩, ⟨some false, .no⟩, ⟨none, .tv false⟩, ⟨none, .no⟩, ⟨some true, .no⟩, ⟨some true, .no⟩, ⟨some true, .no⟩, ⟨some true, .no⟩, ⟨none, .tv true⟩]) (st' := ⟨[(66, .one (.dat .bool true)), (65, .und), (64, .und), (63, .und), (62, .und), (61, .one (.dat .bool (!y27))), (60, .one (.dat .bool (!y27))), (59, .one (.dat .bool (!y27))), (58, .one (.dat .bool y27)), (57, .one (.dat (.int .i64) (wsub .i64 a0.1 (1 : Int)))), (56, .one (.dat (.int .i64) a0.1)), (55, .one (.ptr 0 0)), (54, .one (.dat (.int .i64) ((((List.getD a0.2.2 (Int.toNat s5) ((0 : Int), (0 : Int), (0 : Int), (0 : Int))).2).2).1))), (53, .one (.ptr 1 2)), (52, .one (.dat .bool (!y24))), (51, .one (.dat .bool (!y24))), (50, .one (.dat .bool (!y24))), (49, .one (.dat .bool y24)), (48, .one (.dat (.int .i64) v14)), (47, .one (.dat (.int .i64) (((List.getD a0.2.2 (Int.toNat s5) ((0 : Int), (0 : Int), (0 : Int), (0 : Int))).2).1))), (46, .one (.ptr 1 1)), (45, .one (.dat .bool (!y21))), (44, .one (.dat .bool (!y21))), (43, .one (.dat .bool y21)), (42, .one (.dat (.int .i64) (wsub .i64 a0.1 (1 : Int)))), (41, .one (.dat (.int .i64) a0.1)), (40, .one (.ptr 0 0)), (39, .one (.dat (.int .i64) ((List.getD a0.2.2 (Int.toNat s5) ((0 : Int), (0 : Int), (0 : Int), (0 : Int))).1))), (38, .one (.ptr 1 0)), (1, .one (.ptr 0 0)), (4, .one (.ptr 1 0)), (5, .one (.dat (.int .i64) v14)), (23, .one (.dat (.sl (.st (.pair (.int .i64) (.pair (.int .i64) (.pair (.int .i64) (.int .i64)))))) a0.2.2)), (24, .one (.dat (.int .i64) (lenI a0.2.2))), (25, .one (.dat (.int .i64) s5))], [(0, .box [.dat (.int .i64) a0.1, .dat (.int .i64) a0.2.1, .dat (.sl (.st (.pair (.int .i64) (.pair (.int .i64) (.pair (.int .i64) (.int .i64)))))) a0.2.2]), (1, .box [.dat (.int .i64) ((List.getD a0.2.2 (Int.toNat s5) ((0 : Int), (0 : Int), (0 : Int), (0 : Int))).1), .dat (.int .i64) (((List.getD a0.2.2 (Int.toNat s5) ((0 : Int), (0 : Int), (0 : Int), (0 : Int))).2).1), .dat (.int .i64) ((((List.getD a0.2.2 (Int.toNat s5) ((0 : Int), (0 : Int), (0 : Int), (0 : Int))).2).2).1), .dat (.int .i64) ((((List.getD a0.2.2 (Int.toNat s5) ((0 : Int), (0 : Int), (0 : Int), (0 : Int))).2).2).2)])], 2⟩) hP hN (by kernel_rfl) (allCons (f72_ok hc22) (allCons hb23 (allCons hb23 (allCons hb23 (allCons hb23 (allCons (f72_ok hc25) (allCons hb23 (allCons hb23 (allCons hb26 (allCons hb26 (allCons hb26 (allCons hb26 (allCons hb26 (allCons hb26 (allCons (f72_ok hc28) (allCons hb26 (allCons hb26 (allCons hb29 (allCons hb29 (allCons hb29 (allCons hb29 (allCons hb29 allNil)))))))))))))))))))))) (qThen ?_)
                    exact (Le.cv (s := ⟨[(0, 0)], [], [], false⟩) (own := []) (ps := [a0.2.2 = a0.2.2, (lenI a0.2.2) = (lenI a0.2.2), s5 = s5, true = true, a0.1 = a0.1, a0.2.1 = a0.2.1, a0.2.2 = a0.2.2]) (st' := ⟨[(1, .one (.ptr 0 0)), (23, .one (.dat (.sl (.st (.pair (.int .i64) (.pair (.int .i64) (.pair (.int .i64) (.int .i64)))))) a0.2.2)), (24, .one (.dat (.int .i64) (lenI a0.2.2))), (25, .one (.dat (.int .i64) s5)), (66, .one (.dat .bool true))], [(0, .box [.dat (.int .i64) a0.1, .dat (.int .i64) a0.2.1, .dat (.sl (.st (.pair (.int .i64) (.pair (.int .i64) (.pair (.int .i64) (.int .i64)))))) a0.2.2])], 1⟩) hO (fun h => by cases h) (by kernel_rfl) ⟨rfl, rfl, rfl, rfl, rfl, rfl, rfl, trivial⟩).ht (cont true (of_some hT19))
                  · obtain ⟨y30, hc31, hT19⟩ := of_bind hT19
                    refine HT.reg (rs := [⟨none, .no⟩, ⟨none, .no⟩, ⟨none, .no⟩, ⟨none, .no⟩, ⟨none, .no⟩, ⟨none, .call [.imm (.int .i64), .imm (.int .i64), .imm (.int .i64)] [⟨false, .bool, y21⟩] []⟩, ⟨none, .no⟩, ⟨none, .no⟩, ⟨some false, .no⟩, ⟨some false, .no⟩, ⟨some false, .no⟩, ⟨some false, .call [.imm (.int .i64), .imm (.int .i64), .imm (.int .i64)] [⟨false, .bool, y24⟩] []⟩, ⟨some false, .no⟩, ⟨none, .tv false⟩, ⟨none, .no⟩, ⟨some false, .no⟩, ⟨some false, .no⟩, ⟨some false, .no⟩, ⟨some false, .no⟩, ⟨some false, .no⟩, ⟨some false, .call [.imm (.int .i64), .imm (.int .i64), .imm (.int .i64)] [⟨false, .bool, y27⟩] []⟩, ⟨some false, .no⟩, ⟨none, .tv false⟩, ⟨none, .no⟩, ⟨some false, .no⟩, ⟨some false, .no⟩, ⟨some false, .call [.imm (.int .i64), .imm (.int .i64), .imm (.int .i64)] [⟨false, .bool, y30⟩] []⟩, ⟨some false, .no⟩, ⟨none, .tv false⟩]) (st' := ⟨[(66, .one (.dat .bool (!y30))), (65, .one (.dat .bool (!y30))), (64, .one (.dat .bool y30)), (63, .one (.dat (.int .i64) ((((List.getD a0.2.2 (Int.toNat s5) ((0 : Int), (0 : Int), (0 : Int), (0 : Int))).2).2).2))), (62, .one (.ptr 1 3)), (61, .one (.dat .bool (!y27))), (60, .one (.dat .bool (!y27))), (59, .one (.dat .bool (!y27))), (58, .one (.dat .bool y27)), (57, .one (.dat (.int .i64) (wsub .i64 a0.1 (1 : Int)))), (56, .one (.dat (.int .i64) a0.1)), (55, .one (.ptr 0 0)), (54, .one (.dat (.int .i64) ((((List.getD a0.2.2 (Int.toNat s5) ((0 : Int), (0 : Int), (0 : Int), (0 : Int))).2).2).1))), (53, .one (.ptr 1 2)), (52, .one (.dat .bool (!y24))), (51, .one (.dat .bool (!y24))), (50, .one (.dat .bool (!y24))), (49, .one (.dat .bool y24)), (48, .one (.dat (.int .i64) v14)), (47, .one (.dat (.int .i64) (((List.getD a0.2.2 (Int.toNat s5) ((0 : Int), (0 : Int), (0 : Int), (0 : Int))).2).1))), (46, .one (.ptr 1 1)), (45, .one (.dat .bool (!y21))), (44, .one (.dat .bool (!y21))), (43, .one (.dat .bool y21)), (42, .one (.dat (.int .i64) (wsub .i64 a0.1 (1 : Int)))), (41, .one (.dat (.int .i64) a0.1)), (40, .one (.ptr 0 0)), (39, .one (.dat (.int .i64) ((List.getD a0.2.2 (Int.toNat s5) ((0 : Int), (0 : Int), (0 : Int), (0 : Int))).1))), (38, .one (.ptr 1 0)), (1, .one (.ptr 0 0)), (4, .one (.ptr 1 0)), (5, .one (.dat (.int .i64) v14)), (23, .one (.dat (.sl (.st (.pair (.int .i64) (.pair (.int .i64) (.pair (.int .i64) (.int .i64)))))) a0.2.2)), (24, .one (.dat (.int .i64) (lenI a0.2.2))), (25, .one (.dat (.int .i64) s5))], [(0, .box [.dat (.int .i64) a0.1, .dat (.int .i64) a0.2.1, .dat (.sl (.st (.pair (.int .i64) (.pair (.int .i64) (.pair (.int .i64) (.int .i64)))))) a0.2.2]), (1, .box [.dat (.int .i64) ((List.getD a0.2.2 (Int.toNat s5) ((0 : Int), (0 : Int), (0 : Int), (0 : Int))).1), .dat (.int .i64) (((List.getD a0.2.2 (Int.toNat s5) ((0 : Int), (0 : Int), (0 : Int), (0 : Int))).2).1), .dat (.int .i64) ((((List.getD a0.2.2 (Int.toNat s5) ((0 : Int), (0 : Int), (0 : Int), (0 : Int))).2).2).1), .dat (.int .i64) ((((List.getD a0.2.2 (Int.toNat s5) ((0 : Int), (0 : Int), (0 : Int), (0 : Int))).2).2).2)])], 2⟩) hP hN (by kernel_rfl) (allCons (f72_ok hc22) (allCons hb23 (allCons hb23 (allCons hb23 (allCons hb23 (allCons (f72_ok hc25) (allCons hb23 (allCons hb23 (allCons hb26 (allCons hb26 (allCons hb26 (allCons hb26 (allCons hb26 (allCons hb26 (allCons (f72_ok hc28) (allCons hb26 (allCons hb26 (allCons hb29 (allCons hb29 (allCons hb29 (allCons (f72_ok hc31) (allCons hb29 (allCons hb29 allNil))))))))))))))))))))))) (qThen ?_)
                    exact (Le.cv (s := ⟨[(0, 0)], [], [], false⟩) (own := []) (ps := [a0.2.2 = a0.2.2, (lenI a0.2.2) = (lenI a0.2.2), s5 = s5, (!y30) = (!y30), a0.1 = a0.1, a0.2.1 = a0.2.1, a0.2.2 = a0.2.2]) (st' := ⟨[(1, .one (.ptr 0 0)), (23, .one (.dat (.sl (.st (.pair (.int .i64) (.pair (.int .i64) (.pair (.int .i64) (.int .i64)))))) a0.2.2)), (24, .one (.dat (.int .i64) (lenI a0.2.2))), (25, .one (.dat (.int .i64) s5)), (66, .one (.dat .bool (!y30)))], [(0, .box [.dat (.int .i64) a0.1, .dat (.int .i64) a0.2.1, .dat (.sl (.st (.pair (.int .i64) (.pair (.int .i64) (.pair (.int .i64) (.int .i64)))))) a0.2.2])], 1⟩) hO (fun h => by cases h) (by kernel_rfl) ⟨rfl, rfl, rfl, rfl, rfl, rfl, rfl, trivial⟩).ht (cont (!y30) (of_some hT19))
          · refine HT.reg1 [1, 4, 5, 23, 24, 25, 34] [⟨none, .no⟩, ⟨none, .no⟩, ⟨none, .no⟩] ⟨[(1, .one (.ptr 0 0)), (4, .one (.ptr 1 0)), (5, .one (.dat (.int .i64) (wsub .i64 a0.1 (1 : Int)))), (23, .one (.dat (.sl (.st (.pair (.int .i64) (.pair (.int .i64) (.pair (.int .i64) (.int .i64)))))) a0.2.2)), (24, .one (.dat (.int .i64) (lenI a0.2.2))), (25, .one (.dat (.int .i64) s5)), (34, .one (.dat .bool ((((List.getD a0.2.2 (Int.toNat s5) ((0 : Int), (0 : Int), (0 : Int), (0 : Int))).2).2).1 == (-1 : Int))))], [(1, .box [.dat (.int .i64) ((List.getD a0.2.2 (Int.toNat s5) ((0 : Int), (0 : Int), (0 : Int), (0 : Int))).1), .dat (.int .i64) (((List.getD a0.2.2 (Int.toNat s5) ((0 : Int), (0 : Int), (0 : Int), (0 : Int))).2).1), .dat (.int .i64) ((((List.getD a0.2.2 (Int.toNat s5) ((0 : Int), (0 : Int), (0 : Int), (0 : Int))).2).2).1), .dat (.int .i64) ((((List.getD a0.2.2 (Int.toNat s5) ((0 : Int), (0 : Int), (0 : Int), (0 : Int))).2).2).2)]), (1, .box [.dat (.int .i64) (0 : Int), .dat (.int .i64) (0 : Int), .dat (.int .i64) (0 : Int), .dat (.int .i64) (0 : Int)]), (0, .box [.dat (.int .i64) a0.1, .dat (.int .i64) a0.2.1, .dat (.sl (.st (.pair (.int .i64) (.pair (.int .i64) (.pair (.int .i64) (.int .i64)))))) a0.2.2])], 2⟩ hP hN (by kernel_rfl) allNil ?_
            rcases of_bif hT16 with ⟨hb32, hT16⟩ | ⟨hb32, hT16⟩
            · refine HT.cond1 rfl hb32 ?_
              refine HT.reg (rs := [⟨none, .no⟩, ⟨none, .no⟩, ⟨none, .no⟩, ⟨none, .no⟩]) (st' := ⟨[(5, .one (.dat (.int .i64) (wsub .i64 a0.2.1 (1 : Int)))), (37, .one (.dat (.int .i64) (wsub .i64 a0.2.1 (1 : Int)))), (36, .one (.dat (.int .i64) a0.2.1)), (35, .one (.ptr 0 1)), (1, .one (.ptr 0 0)), (4, .one (.ptr 1 0)), (5, .one (.dat (.int .i64) (wsub .i64 a0.1 (1 : Int)))), (23, .one (.dat (.sl (.st (.pair (.int .i64) (.pair (.int .i64) (.pair (.int .i64) (.int .i64)))))) a0.2.2)), (24, .one (.dat (.int .i64) (lenI a0.2.2))), (25, .one (.dat (.int .i64) s5)), (34, .one (.dat .bool ((((List.getD a0.2.2 (Int.toNat s5) ((0 : Int), (0 : Int), (0 : Int), (0 : Int))).2).2).1 == (-1 : Int))))], [(1, .box [.dat (.int .i64) ((List.getD a0.2.2 (Int.toNat s5) ((0 : Int), (0 : Int), (0 : Int), (0 : Int))).1), .dat (.int .i64) (((List.getD a0.2.2 (Int.toNat s5) ((0 : Int), (0 : Int), (0 : Int), (0 : Int))).2).1), .dat (.int .i64) ((((List.getD a0.2.2 (Int.toNat s5) ((0 : Int), (0 : Int), (0 : Int), (0 : Int))).2).2).1), .dat (.int .i64) ((((List.getD a0.2.2 (Int.toNat s5) ((0 : Int), (0 : Int), (0 : Int), (0 : Int))).2).2).2)]), (1, .box [.dat (.int .i64) (0 : Int), .dat (.int .i64) (0 : Int), .dat (.int .i64) (0 : Int), .dat (.int .i64) (0 : Int)]), (0, .box [.dat (.int .i64) a0.1, .dat (.int .i64) a0.2.1, .dat (.sl (.st (.pair (.int .i64) (.pair (.int .i64) (.pair (.int .i64) (.int .i64)))))) a0.2.2])], 2⟩) hP hN (by kernel_rfl) allNil (qThen ?_)
              exact (Le.cv (s := ⟨[(0, 0), (1, 1)], [], [], false⟩) (own := []) (ps := [(wsub .i64 a0.2.1 (1 : Int)) = (wsub .i64 a0.2.1 (1 : Int)), a0.2.2 = a0.2.2, (lenI a0.2.2) = (lenI a0.2.2), s5 = s5, a0.1 = a0.1, a0.2.1 = a0.2.1, a0.2.2 = a0.2.2, (List.getD a0.2.2 (Int.toNat s5) ((0 : Int), (0 : Int), (0 : Int), (0 : Int))).1 = (List.getD a0.2.2 (Int.toNat s5) ((0 : Int), (0 : Int), (0 : Int), (0 : Int))).1, ((List.getD a0.2.2 (Int.toNat s5) ((0 : Int), (0 : Int), (0 : Int), (0 : Int))).2).1 = ((List.getD a0.2.2 (Int.toNat s5) ((0 : Int), (0 : Int), (0 : Int), (0 : Int))).2).1, (((List.getD a0.2.2 (Int.toNat s5) ((0 : Int), (0 : Int), (0 : Int), (0 : Int))).2).2).1 = (((List.getD a0.2.2 (Int.toNat s5) ((0 : Int), (0 : Int), (0 : Int), (0 : Int))).2).2).1, (((List.getD a0.2.2 (Int.toNat s5) ((0 : Int), (0 : Int), (0 : Int), (0 : Int))).2).2).2 = (((List.getD a0.2.2 (Int.toNat s5) ((0 : Int), (0 : Int), (0 : Int), (0 : Int))).2).2).2]) (st' := ⟨[(1, .one (.ptr 0 0)), (4, .one (.ptr 1 0)), (5, .one (.dat (.int .i64) (wsub .i64 a0.2.1 (1 : Int)))), (23, .one (.dat (.sl (.st (.pair (.int .i64) (.pair (.int .i64) (.pair (.int .i64) (.int .i64)))))) a0.2.2)), (24, .one (.dat (.int .i64) (lenI a0.2.2))), (25, .one (.dat (.int .i64) s5))], [(0, .box [.dat (.int .i64) a0.1, .dat (.int .i64) a0.2.1, .dat (.sl (.st (.pair (.int .i64) (.pair (.int .i64) (.pair (.int .i64) (.int .i64)))))) a0.2.2]), (1, .box [.dat (.int .i64) ((List.getD a0.2.2 (Int.toNat s5) ((0 : Int), (0 : Int), (0 : Int), (0 : Int))).1), .dat (.int .i64) (((List.getD a0.2.2 (Int.toNat s5) ((0 : Int), (0 : Int), (0 : Int), (0 : Int))).2).1), .dat (.int .i64) ((((List.getD a0.2.2 (Int.toNat s5) ((0 : Int), (0 : Int), (0 : Int), (0 : Int))).2).2).1), .dat (.int .i64) ((((List.getD a0.2.2 (Int.toNat s5) ((0 : Int), (0 : Int), (0 : Int), (0 : Int))).2).2).2)])], 2⟩) hO (fun h => by cases h) (by kernel_rfl) ⟨rfl, rfl, rfl, rfl, rfl, rfl, rfl, rfl, rfl, rfl, rfl, trivial⟩).ht (cont (wsub .i64 a0.2.1 (1 : Int)) (of_some hT16))
            · refine HT.cond0 rfl hb32 ?_
              refine HT.skip (qThen ?_)
              exact (Le.cv (s := ⟨[(0, 0), (1, 1)], [], [], false⟩) (own := []) (ps := [(wsub .i64 a0.1 (1 : Int)) = (wsub .i64 a0.1 (1 : Int)), a0.2.2 = a0.2.2, (lenI a0.2.2) = (lenI a0.2.2), s5 = s5, a0.1 = a0.1, a0.2.1 = a0.2.1, a0.2.2 = a0.2.2, (List.getD a0.2.2 (Int.toNat s5) ((0 : Int), (0 : Int), (0 : Int), (0 : Int))).1 = (List.getD a0.2.2 (Int.toNat s5) ((0 : Int), (0 : Int), (0 : Int), (0 : Int))).1, ((List.getD a0.2.2 (Int.toNat s5) ((0 : Int), (0 : Int), (0 : Int), (0 : Int))).2).1 = ((List.getD a0.2.2 (Int.toNat s5) ((0 : Int), (0 : Int), (0 : Int), (0 : Int))).2).1, (((List.getD a0.2.2 (Int.toNat s5) ((0 : Int), (0 : Int), (0 : Int), (0 : Int))).2).2).1 = (((List.getD a0.2.2 (Int.toNat s5) ((0 : Int), (0 : Int), (0 : Int), (0 : Int))).2).2).1, (((List.getD a0.2.2 (Int.toNat s5) ((0 : Int), (0 : Int), (0 : Int), (0 : Int))).2).2).2 = (((List.getD a0.2.2 (Int.toNat s5) ((0 : Int), (0 : Int), (0 : Int), (0 : Int))).2).2).2]) (st' := ⟨[(1, .one (.ptr 0 0)), (4, .one (.ptr 1 0)), (5, .one (.dat (.int .i64) (wsub .i64 a0.1 (1 : Int)))), (23, .one (.dat (.sl (.st (.pair (.int .i64) (.pair (.int .i64) (.pair (.int .i64) (.int .i64)))))) a0.2.2)), (24, .one (.dat (.int .i64) (lenI a0.2.2))), (25, .one (.dat (.int .i64) s5))], [(0, .box [.dat (.int .i64) a0.1, .dat (.int .i64) a0.2.1, .dat (.sl (.st (.pair (.int .i64) (.pair (.int .i64) (.pair (.int .i64) (.int .i64)))))) a0.2.2]), (1, .box [.dat (.int .i64) ((List.getD a0.2.2 (Int.toNat s5) ((0 : Int), (0 : Int), (0 : Int), (0 : Int))).1), .dat (.int .i64) (((List.getD a0.2.2 (Int.toNat s5) ((0 : Int), (0 : Int), (0 : Int), (0 : Int))).2).1), .dat (.int .i64) ((((List.getD a0.2.2 (Int.toNat s5) ((0 : Int), (0 : Int), (0 : Int), (0 : Int))).2).2).1), .dat (.int .i64) ((((List.getD a0.2.2 (Int.toNat s5) ((0 : Int), (0 : Int), (0 : Int), (0 : Int))).2).2).2)])], 2⟩) hO (fun h => by cases h) (by kernel_rfl) ⟨rfl, rfl, rfl, rfl, rfl, rfl, rfl, rfl, rfl, rfl, rfl, trivial⟩).ht (cont (wsub .i64 a0.1 (1 : Int)) (of_some hT16))
        · refine HT.cond0 rfl hb12 ?_
          have hx10 := of_some hx10
          subst hx10
          refine (Le.cv (s := ⟨[], [], [], false⟩) (own := []) (ps := []) (st' := ⟨[], [], 0⟩) hO (fun h => by cases h) (by kernel_rfl) trivial).ht ?_
          exact HT.exit (qThenE (qLoopE (hk11 (.inl ()) rfl)))
  · obtain ⟨y34, hc35, hT3⟩ := of_bind hT3
    rcases of_bif hT3 with ⟨hb36, hT3⟩ | ⟨hb36, hT3⟩
    · refine HT.reg (rs := [⟨none, .no⟩, ⟨none, .no⟩, ⟨none, .call [.imm (.int .i64), .imm (.int .i64), .imm (.int .i64)] [⟨false, .bool, y34⟩] []⟩, ⟨none, .no⟩, ⟨none, .no⟩, ⟨some true, .no⟩, ⟨some true, .no⟩, ⟨some true, .no⟩, ⟨some true, .no⟩, ⟨none, .tv true⟩, ⟨none, .no⟩, ⟨some true, .no⟩, ⟨some true, .no⟩, ⟨some true, .no⟩, ⟨some true, .no⟩, ⟨none, .tv true⟩]) (st' := ⟨[(21, .one (.dat .bool true)), (20, .und), (19, .und), (18, .und), (17, .und), (16, .one (.dat .bool true)), (15, .one (.dat .bool true)), (14, .und), (13, .und), (12, .und), (11, .und), (10, .one (.dat .bool (!y34))), (9, .one (.dat .bool (!y34))), (8, .one (.dat .bool y34)), (7, .one (.dat (.int .i64) a0.1)), (6, .one (.ptr 0 0)), (1, .one (.ptr 0 0))], [(0, .box [.dat (.int .i64) a0.1, .dat (.int .i64) a0.2.1, .dat (.sl (.st (.pair (.int .i64) (.pair (.int .i64) (.pair (.int .i64) (.int .i64)))))) a0.2.2])], 1⟩) hP hN (by kernel_rfl) (allCons (f72_ok hc35) (allCons hb36 (allCons hb36 (allCons hb36 (allCons hb36 (allCons hb36 (allCons (rfl : true = true) (allCons (rfl : true = true) (allCons (rfl : true = true) (allCons (rfl : true = true) (allCons (rfl : true = true) allNil))))))))))) (qThen ?_)
      exact (Le.cv (s := ⟨[(0, 0)], [], [], false⟩) (own := []) (ps := [true = true, a0.1 = a0.1, a0.2.1 = a0.2.1, a0.2.2 = a0.2.2]) (st' := ⟨[(1, .one (.ptr 0 0)), (21, .one (.dat .bool true))], [(0, .box [.dat (.int .i64) a0.1, .dat (.int .i64) a0.2.1, .dat (.sl (.st (.pair (.int .i64) (.pair (.int .i64) (.pair (.int .i64) (.int .i64)))))) a0.2.2])], 1⟩) hO (fun h => by cases h) (by kernel_rfl) ⟨rfl, rfl, rfl, rfl, trivial⟩).ht (cont true (of_some hT3))
    · obtain ⟨y37, hc38, hT3⟩ := of_bind hT3
      rcases of_bif hT3 with ⟨hb39, hT3⟩ | ⟨hb39, hT3⟩
      · refine HT.reg (rs := [⟨none, .no⟩, ⟨none, .no⟩, ⟨none, .call [.imm (.int .i64), .imm (.int .i64), .imm (.int .i64)] [⟨false, .bool, y34⟩] []⟩, ⟨none, .no⟩, ⟨none, .no⟩, ⟨some false, .no⟩, ⟨some false, .no⟩, ⟨some false, .call [.imm (.int .i64), .imm (.int .i64), .imm (.int .i64)] [⟨false, .bool, y37⟩] []⟩, ⟨some false, .no⟩, ⟨none, .tv false⟩, ⟨none, .no⟩, ⟨some true, .no⟩, ⟨some true, .no⟩, ⟨some true, .no⟩, ⟨some true, .no⟩, ⟨none, .tv true⟩]) (st' := ⟨[(21, .one (.dat .bool true)), (20, .und), (19, .und), (18, .und), (17, .und), (16, .one (.dat .bool (!y37))), (15, .one (.dat .bool (!y37))), (14, .one (.dat .bool (!y37))), (13, .one (.dat .bool y37)), (12, .one (.dat (.int .i64) a0.2.1)), (11, .one (.ptr 0 1)), (10, .one (.dat .bool (!y34))), (9, .one (.dat .bool (!y34))), (8, .one (.dat .bool y34)), (7, .one (.dat (.int .i64) a0.1)), (6, .one (.ptr 0 0)), (1, .one (.ptr 0 0))], [(0, .box [.dat (.int .i64) a0.1, .dat (.int .i64) a0.2.1, .dat (.sl (.st (.pair (.int .i64) (.pair (.int .i64) (.pair (.int .i64) (.int .i64)))))) a0.2.2])], 1⟩) hP hN (by kernel_rfl) (allCons (f72_ok hc35) (allCons hb36 (allCons hb36 (allCons hb36 (allCons (f72_ok hc38) (allCons hb36 (allCons hb36 (allCons hb39 (allCons hb39 (allCons hb39 (allCons hb39 (allCons hb39 allNil)))))))))))) (qThen ?_)
        exact (Le.cv (s := ⟨[(0, 0)], [], [], false⟩) (own := []) (ps := [true = true, a0.1 = a0.1, a0.2.1 = a0.2.1, a0.2.2 = a0.2.2]) (st' := ⟨[(1, .one (.ptr 0 0)), (21, .one (.dat .bool true))], [(0, .box [.dat (.int .i64) a0.1, .dat (.int .i64) a0.2.1, .dat (.sl (.st (.pair (.int .i64) (.pair (.int .i64) (.pair (.int .i64) (.int .i64)))))) a0.2.2])], 1⟩) hO (fun h => by cases h) (by kernel_rfl) ⟨rfl, rfl, rfl, rfl, trivial⟩).ht (cont true (of_some hT3))
      · refine HT.reg (rs := [⟨none, .no⟩, ⟨none, .no⟩, ⟨none, .call [.imm (.int .i64), .imm (.int .i64), .imm (.int .i64)] [⟨false, .bool, y34⟩] []⟩, ⟨none, .no⟩, ⟨none, .no⟩, ⟨some false, .no⟩, ⟨some false, .no⟩, ⟨some false, .call [.imm (.int .i64), .imm (.int .i64), .imm (.int .i64)] [⟨false, .bool, y37⟩] []⟩, ⟨some false, .no⟩, ⟨none, .tv false⟩, ⟨none, .no⟩, ⟨some false, .no⟩, ⟨some false, .no⟩, ⟨some false, .no⟩, ⟨some false, .no⟩, ⟨none, .tv false⟩]) (st' := ⟨[(21, .one (.dat .bool (decide ((lenI a0.2.2) > (32 : Int))))), (20, .one (.dat .bool (decide ((lenI a0.2.2) > (32 : Int))))), (19, .one (.dat (.int .i64) (lenI a0.2.2))), (18, .one (.dat (.sl (.st (.pair (.int .i64) (.pair (.int .i64) (.pair (.int .i64) (.int .i64)))))) a0.2.2)), (17, .one (.ptr 0 2)), (16, .one (.dat .bool (!y37))), (15, .one (.dat .bool (!y37))), (14, .one (.dat .bool (!y37))), (13, .one (.dat .bool y37)), (12, .one (.dat (.int .i64) a0.2.1)), (11, .one (.ptr 0 1)), (10, .one (.dat .bool (!y34))), (9, .one (.dat .bool (!y34))), (8, .one (.dat .bool y34)), (7, .one (.dat (.int .i64) a0.1)), (6, .one (.ptr 0 0)), (1, .one (.ptr 0 0))], [(0, .box [.dat (.int .i64) a0.1, .dat (.int .i64) a0.2.1, .dat (.sl (.st (.pair (.int .i64) (.pair (.int .i64) (.pair (.int .i64) (.int .i64)))))) a0.2.2])], 1⟩) hP hN (by kernel_rfl) (allCons (f72_ok hc35) (allCons hb36 (allCons hb36 (allCons hb36 (allCons (f72_ok hc38) (allCons hb36 (allCons hb36 (allCons hb39 (allCons hb39 (allCons hb39 (allCons hb39 (allCons hb39 allNil)))))))))))) (qThen ?_)
        exact (Le.cv (s := ⟨[(0, 0)], [], [], false⟩) (own := []) (ps := [(decide ((lenI a0.2.2) > (32 : Int))) = (decide ((lenI a0.2.2) > (32 : Int))), a0.1 = a0.1, a0.2.1 = a0.2.1, a0.2.2 = a0.2.2]) (st' := ⟨[(1, .one (.ptr 0 0)), (21, .one (.dat .bool (decide ((lenI a0.2.2) > (32 : Int)))))], [(0, .box [.dat (.int .i64) a0.1, .dat (.int .i64) a0.2.1, .dat (.sl (.st (.pair (.int .i64) (.pair (.int .i64) (.pair (.int .i64) (.int .i64)))))) a0.2.2])], 1⟩) hO (fun h => by cases h) (by kernel_rfl) ⟨rfl, rfl, rfl, rfl, trivial⟩).ht (cont (decide ((lenI a0.2.2) > (32 : Int))) (of_some hT3))

noncomputable def impl_IsWord (a0 : List Int) (a1 : Int) : Option (Bool) :=
  (show Option (Bool) from
    (impl_within a1 (1 : Int) (4 : Int)).bind fun y4 =>
    bif y4 then
      bif (decide ((lenI a0) ≤ (12 : Int))) then
        (impl_areWithin a0 (0 : Int) (wsub .i64 a1 (1 : Int))).bind fun y8 =>
        some y8
      else
        some false
    else
      some false).bind fun v1 =>
  some v1

theorem f49_ok {a0 : List Int} {a1 : Int} {r : Bool} (hr : impl_IsWord a0 a1 = some r) : CallOK Try.prog 49 [.imm (.sl (.int .i64)) a0, .imm (.int .i64) a1] [⟨false, .bool, r⟩] [] := by
  unfold impl_IsWord at hr
  refine CallOK.of_body (ts := [(false, .bool)]) Try.func49 rfl (by kernel_rfl) (Nat.le_of_ble_eq_true (by kernel_rfl)) fun cx hP hN hO hF => ?_
  have hO : cx.own.map Prod.fst = [] := hO
  have hF := hF rfl
  show HT cx ⟨[(0, .one (.dat (.sl (.int .i64)) a0)), (1, .one (.dat (.int .i64) a1))], [], 0⟩ _ _
  refine HT.reg1 [0, 1] [⟨none, .no⟩] ⟨[(0, .one (.dat (.sl (.int .i64)) a0)), (1, .one (.dat (.int .i64) a1))], [], 0⟩ hP hN (by kernel_rfl) allNil ?_
  obtain ⟨v1', hT3, hr⟩ := of_bind hr
  refine HT.join (fun (v1 : Bool) => ⟨[(4, .one (.dat .bool v1))], [], 0⟩) (fun v => v = v1') (fun v1 hv2 => ?_) (fun cont => ?_)
  · subst hv2
    have hr := of_some hr
    subst hr
    exact HT.ret ⟨[.one (.dat .bool v1)], [], [], by kernel_rfl, by kernel_rfl, rfl, by kernel_rfl, by kernel_rfl, trivial⟩
  · obtain ⟨y4, hc5, hT3⟩ := of_bind hT3
    rcases of_bif hT3 with ⟨hb6, hT3⟩ | ⟨hb6, hT3⟩
    · rcases of_bif hT3 with ⟨hb7, hT3⟩ | ⟨hb7, hT3⟩
      · obtain ⟨y8, hc9, hT3⟩ := of_bind hT3
        refine HT.reg (rs := [⟨none, .no⟩, ⟨none, .call [.imm (.int .i64), .imm (.int .i64), .imm (.int .i64)] [⟨false, .bool, y4⟩] []⟩, ⟨none, .no⟩, ⟨some true, .no⟩, ⟨some true, .no⟩, ⟨some true, .no⟩, ⟨none, .tv true⟩, ⟨none, .no⟩, ⟨some true, .no⟩, ⟨some true, .no⟩, ⟨some true, .no⟩, ⟨some true, .call [.imm (.sl (.int .i64)), .imm (.int .i64), .imm (.int .i64)] [⟨false, .bool, y8⟩] []⟩, ⟨none, .tv true⟩, ⟨none, .no⟩]) (st' := ⟨[(4, .one (.dat .bool y8)), (17, .one (.dat .bool y8)), (16, .one (.dat .bool y8)), (15, .one (.dat (.int .i64) (wsub .i64 a1 (1 : Int)))), (14, .one (.dat (.int .i64) a1)), (13, .one (.dat (.sl (.int .i64)) a0)), (12, .one (.dat .bool (decide ((lenI a0) ≤ (12 : Int))))), (11, .one (.dat .bool (decide ((lenI a0) ≤ (12 : Int))))), (10, .one (.dat .bool (decide ((lenI a0) ≤ (12 : Int))))), (9, .one (.dat (.int .i64) (lenI a0))), (8, .one (.dat (.sl (.int .i64)) a0)), (7, .one (.dat .bool y4)), (6, .one (.dat .bool y4)), (5, .one (.dat (.int .i64) a1)), (0, .one (.dat (.sl (.int .i64)) a0)), (1, .one (.dat (.int .i64) a1))], [], 0⟩) hP hN (by kernel_rfl) (allCons (f72_ok hc5) (allCons hb6 (allCons hb6 (allCons hb6 (allCons hb6 (allCons hb7 (allCons hb7 (allCons hb7 (allCons hb7 (allCons (f73_ok hc9) (allCons hb7 allNil))))))))))) (qThen ?_)
        exact (Le.cv (s := ⟨[], [], [], false⟩) (own := []) (ps := [y8 = y8]) (st' := ⟨[(4, .one (.dat .bool y8))], [], 0⟩) hO (fun h => by cases h) (by kernel_rfl) ⟨rfl, trivial⟩).ht (cont y8 (of_some hT3))
      · refine HT.reg (rs := [⟨none, .no⟩, ⟨none, .call [.imm (.int .i64), .imm (.int .i64), .imm (.int .i64)] [⟨false, .bool, y4⟩] []⟩, ⟨none, .no⟩, ⟨some true, .no⟩, ⟨some true, .no⟩, ⟨some true, .no⟩, ⟨none, .tv true⟩, ⟨none, .no⟩, ⟨some false, .no⟩, ⟨some false, .no⟩, ⟨some false, .no⟩, ⟨some false, .no⟩, ⟨none, .tv false⟩, ⟨none, .no⟩]) (st' := ⟨[(4, .one (.dat .bool false)), (17, .one (.dat .bool false)), (16, .und), (15, .und), (14, .und), (13, .und), (12, .one (.dat .bool (decide ((lenI a0) ≤ (12 : Int))))), (11, .one (.dat .bool (decide ((lenI a0) ≤ (12 : Int))))), (10, .one (.dat .bool (decide ((lenI a0) ≤ (12 : Int))))), (9, .one (.dat (.int .i64) (lenI a0))), (8, .one (.dat (.sl (.int .i64)) a0)), (7, .one (.dat .bool y4)), (6, .one (.dat .bool y4)), (5, .one (.dat (.int .i64) a1)), (0, .one (.dat (.sl (.int .i64)) a0)), (1, .one (.dat (.int .i64) a1))], [], 0⟩) hP hN (by kernel_rfl) (allCons (f72_ok hc5) (allCons hb6 (allCons hb6 (allCons hb6 (allCons hb6 (allCons hb7 (allCons hb7 (allCons hb7 (allCons hb7 (allCons hb7 allNil)))))))))) (qThen ?_)
        exact (Le.cv (s := ⟨[], [], [], false⟩) (own := []) (ps := [false = false]) (st' := ⟨[(4, .one (.dat .bool false))], [], 0⟩) hO (fun h => by cases h) (by kernel_rfl) ⟨rfl, trivial⟩).ht (cont false (of_some hT3))
    · refine HT.reg (rs := [⟨none, .no⟩, ⟨none, .call [.imm (.int .i64), .imm (.int .i64), .imm (.int .i64)] [⟨false, .bool, y4⟩] []⟩, ⟨none, .no⟩, ⟨some false, .no⟩, ⟨some false, .no⟩, ⟨some false, .no⟩, ⟨none, .tv false⟩, ⟨none, .no⟩, ⟨some false, .no⟩, ⟨some false, .no⟩, ⟨some false, .no⟩, ⟨some false, .no⟩, ⟨none, .tv false⟩, ⟨none, .no⟩]) (st' := ⟨[(4, .one (.dat .bool false)), (17, .one (.dat .bool false)), (16, .und), (15, .und), (14, .und), (13, .und), (12, .one (.dat .bool false)), (11, .one (.dat .bool false)), (10, .und), (9, .und), (8, .und), (7, .one (.dat .bool y4)), (6, .one (.dat .bool y4)), (5, .one (.dat (.int .i64) a1)), (0, .one (.dat (.sl (.int .i64)) a0)), (1, .one (.dat (.int .i64) a1))], [], 0⟩) hP hN (by kernel_rfl) (allCons (f72_ok hc5) (allCons hb6 (allCons hb6 (allCons hb6 (allCons hb6 (allCons (rfl : false = false) (allCons (rfl : false = false) (allCons (rfl : false = false) (allCons (rfl : false = false) (allCons (rfl : false = false) allNil)))))))))) (qThen ?_)
      exact (Le.cv (s := ⟨[], [], [], false⟩) (own := []) (ps := [false = false]) (st' := ⟨[(4, .one (.dat .bool false))], [], 0⟩) hO (fun h => by cases h) (by kernel_rfl) ⟨rfl, trivial⟩).ht (cont false (of_some hT3))

noncomputable def impl_ValidDesk (a0 : (Int × Int × List (Int × Int × Int × Int) × List Int × List Int) × (Int × Int × List Int × List Bool) × (Int × Int × List (Int × Int × Int × Int)) × List Int) : Option (Bool) :=
  (show Option (Bool) from
    (impl_ValidMachine (a0.1.1, a0.1.2.1, a0.1.2.2.1, a0.1.2.2.2.1, a0.1.2.2.2.2)).bind fun y4 =>
    bif y4 then
      bif (decide ((lenI a0.1.2.2.1) ≤ (16 : Int))) then
        (impl_ValidPlain (a0.2.1.1, a0.2.1.2.1, a0.2.1.2.2.1, a0.2.1.2.2.2)).bind fun y8 =>
        bif y8 then
          bif (decide ((lenI a0.2.1.2.2.1) ≤ (64 : Int))) then
            (impl_ValidGrammar (a0.2.2.1.1, a0.2.2.1.2.1, a0.2.2.1.2.2)).bind fun y12 =>
            bif y12 then
              bif (decide ((lenI a0.2.2.1.2.2) ≤ (16 : Int))) then
                (impl_IsWord a0.2.2.2 (4 : Int)).bind fun y16 =>
                some y16
              else
                some false
            else
              some false
          else
            some false
        else
          some false
      else
        some false
    else
      some false).bind fun v1 =>
  some v1

theorem f16_ok {a0 : (Int × Int × List (Int × Int × Int × Int) × List Int × List Int) × (Int × Int × List Int × List Bool) × (Int × Int × List (Int × Int × Int × Int)) × List Int} {r : Bool} (hr : impl_ValidDesk a0 = some r) : CallOK Try.prog 16 [.imm (.st (.pair (.st (.pair (.int .i64) (.pair (.int .i64) (.pair (.sl (.st (.pair (.int .i64) (.pair (.int .i64) (.pair (.int .i64) (.int .i64)))))) (.pair (.sl (.int .i64)) (.sl (.int .i64))))))) (.pair (.st (.pair (.int .i64) (.pair (.int .i64) (.pair (.sl (.int .i64)) (.sl .bool))))) (.pair (.st (.pair (.int .i64) (.pair (.int .i64) (.sl (.st (.pair (.int .i64) (.pair (.int .i64) (.pair (.int .i64) (.int .i64))))))))) (.sl (.int .i64)))))) a0] [⟨false, .bool, r⟩] [] := by
  unfold impl_ValidDesk at hr
  refine CallOK.of_body (ts := [(false, .bool)]) Try.func16 rfl (by kernel_rfl) (Nat.le_of_ble_eq_true (by kernel_rfl)) fun cx hP hN hO hF => ?_
  have hO : cx.own.map Prod.fst = [] := hO
  have hF := hF rfl
  show HT cx ⟨[(0, .agg [.dat (.int .i64) a0.1.1, .dat (.int .i64) a0.1.2.1, .dat (.sl (.st (.pair (.int .i64) (.pair (.int .i64) (.pair (.int .i64) (.int .i64)))))) a0.1.2.2.1, .dat (.sl (.int .i64)) a0.1.2.2.2.1, .dat (.sl (.int .i64)) a0.1.2.2.2.2, .dat (.int .i64) a0.2.1.1, .dat (.int .i64) a0.2.1.2.1, .dat (.sl (.int .i64)) a0.2.1.2.2.1, .dat (.sl .bool) a0.2.1.2.2.2, .dat (.int .i64) a0.2.2.1.1, .dat (.int .i64) a0.2.2.1.2.1, .dat (.sl (.st (.pair (.int .i64) (.pair (.int .i64) (.pair (.int .i64) (.int .i64)))))) a0.2.2.1.2.2, .dat (.sl (.int .i64)) a0.2.2.2])], [], 0⟩ _ _
  refine HT.reg1 [1] [⟨none, .no⟩, ⟨none, .no⟩] ⟨[(1, .one (.ptr 0 0))], [(0, .box [.dat (.int .i64) a0.1.1, .dat (.int .i64) a0.1.2.1, .dat (.sl (.st (.pair (.int .i64) (.pair (.int .i64) (.pair (.int .i64) (.int .i64)))))) a0.1.2.2.1, .dat (.sl (.int .i64)) a0.1.2.2.2.1, .dat (.sl (.int .i64)) a0.1.2.2.2.2, .dat (.int .i64) a0.2.1.1, .dat (.int .i64) a0.2.1.2.1, .dat (.sl (.int .i64)) a0.2.1.2.2.1, .dat (.sl .bool) a0.2.1.2.2.2, .dat (.int .i64) a0.2.2.1.1, .dat (.int .i64) a0.2.2.1.2.1, .dat (.sl (.st (.pair (.int .i64) (.pair (.int .i64) (.pair (.int .i64) (.int .i64)))))) a0.2.2.1.2.2, .dat (.sl (.int .i64)) a0.2.2.2])], 1⟩ hP hN (by kernel_rfl) allNil ?_
  obtain ⟨v1', hT3, hr⟩ := of_bind hr
  refine HT.join (fun (v1 : Bool) => ⟨[(2, .one (.dat .bool v1))], [], 0⟩) (fun v => v = v1') (fun v1 hv2 => ?_) (fun cont => ?_)
  · subst hv2
    have hr := of_some hr
    subst hr
    exact HT.ret ⟨[.one (.dat .bool v1)], [], [], by kernel_rfl, by kernel_rfl, rfl, by kernel_rfl, by kernel_rfl, trivial⟩
  · obtain ⟨y4, hc5, hT3⟩ := of_bind hT3
    rcases of_bif hT3 with ⟨hb6, hT3⟩ | ⟨hb6, hT3⟩
    · rcases of_bif hT3 with ⟨hb7, hT3⟩ | ⟨hb7, hT3⟩
      · obtain ⟨y8, hc9, hT3⟩ := of_bind hT3
        rcases of_bif hT3 with ⟨hb10, hT3⟩ | ⟨hb10, hT3⟩
        · rcases of_bif hT3 with ⟨hb11, hT3⟩ | ⟨hb11, hT3⟩
          · obtain ⟨y12, hc13, hT3⟩ := of_bind hT3
            rcases of_bif hT3 with ⟨hb14, hT3⟩ | ⟨hb14, hT3⟩
            · rcases of_bif hT3 with ⟨hb15, hT3⟩ | ⟨hb15, hT3⟩
              · obtain ⟨y16, hc17, hT3⟩ := of_bind hT3
                refine HT.reg (rs := [⟨none, .no⟩, ⟨none, .no⟩, ⟨none, .call [.imm (.st (.pair (.int .i64) (.pair (.int .i64) (.pair (.sl (.st (.pair (.int .i64) (.pair (.int .i64) (.pair (.int .i64) (.int .i64)))))) (.pair (.sl (.int .i64)) (.sl (.int .i64)))))))] [⟨false, .bool, y4⟩] []⟩, ⟨none, .no⟩, ⟨some true, .no⟩, ⟨some true, .no⟩, ⟨some true, .no⟩, ⟨some true, .no⟩, ⟨some true, .no⟩, ⟨none, .tv true⟩, ⟨none, .no⟩, ⟨some true, .no⟩, ⟨some true, .no⟩, ⟨some true, .call [.imm (.st (.pair (.int .i64) (.pair (.int .i64) (.pair (.sl (.int .i64)) (.sl .bool)))))] [⟨false, .bool, y8⟩] []⟩, ⟨none, .tv true⟩, ⟨none, .no⟩, ⟨some true, .no⟩, ⟨some true, .no⟩, ⟨some true, .no⟩, ⟨some true, .no⟩, ⟨some true, .no⟩, ⟨none, .tv true⟩, ⟨none, .no⟩, ⟨some true, .no⟩, ⟨some true, .no⟩, ⟨some true, .call [.imm (.st (.pair (.int .i64) (.pair (.int .i64) (.sl (.st (.pair (.int .i64) (.pair (.int .i64) (.pair (.int .i64) (.int .i64)))))))))] [⟨false, .bool, y12⟩] []⟩, ⟨none, .tv true⟩, ⟨none, .no⟩, ⟨some true, .no⟩, ⟨some true, .no⟩, ⟨some true, .no⟩, ⟨some true, .no⟩, ⟨some true, .no⟩, ⟨none, .tv true⟩, ⟨none, .no⟩, ⟨some true, .no⟩, ⟨some true, .no⟩, ⟨some true, .call [.imm (.sl (.int .i64)), .imm (.int .i64)] [⟨false, .bool, y16⟩] []⟩, ⟨none, .tv true⟩, ⟨none, .no⟩]) (st' := ⟨[(2, .one (.dat .bool y16)), (41, .one (.dat .bool y16)), (40, .one (.dat .bool y16)), (39, .one (.dat (.sl (.int .i64)) a0.2.2.2)), (38, .one (.ptr 0 12)), (37, .one (.dat .bool (decide ((lenI a0.2.2.1.2.2) ≤ (16 : Int))))), (36, .one (.dat .bool (decide ((lenI a0.2.2.1.2.2) ≤ (16 : Int))))), (35, .one (.dat .bool (decide ((lenI a0.2.2.1.2.2) ≤ (16 : Int))))), (34, .one (.dat (.int .i64) (lenI a0.2.2.1.2.2))), (33, .one (.dat (.sl (.st (.pair (.int .i64) (.pair (.int .i64) (.pair (.int .i64) (.int .i64)))))) a0.2.2.1.2.2)), (32, .one (.ptr 0 11)), (31, .one (.ptr 0 9)), (30, .one (.dat .bool y12)), (29, .one (.dat .bool y12)), (28, .one (.dat .bool y12)), (27, .agg [.dat (.int .i64) a0.2.2.1.1, .dat (.int .i64) a0.2.2.1.2.1, .dat (.sl (.st (.pair (.int .i64) (.pair (.int .i64) (.pair (.int .i64) (.int .i64)))))) a0.2.2.1.2.2]), (26, .one (.ptr 0 9)), (25, .one (.dat .bool (decide ((lenI a0.2.1.2.2.1) ≤ (64 : Int))))), (24, .one (.dat .bool (decide ((lenI a0.2.1.2.2.1) ≤ (64 : Int))))), (23, .one (.dat .bool (decide ((lenI a0.2.1.2.2.1) ≤ (64 : Int))))), (22, .one (.dat (.int .i64) (lenI a0.2.1.2.2.1))), (21, .one (.dat (.sl (.int .i64)) a0.2.1.2.2.1)), (20, .one (.ptr 0 7)), (19, .one (.ptr 0 5)), (18, .one (.dat .bool y8)), (17, .one (.dat .bool y8)), (16, .one (.dat .bool y8)), (15, .agg [.dat (.int .i64) a0.2.1.1, .dat (.int .i64) a0.2.1.2.1, .dat (.sl (.int .i64)) a0.2.1.2.2.1, .dat (.sl .bool) a0.2.1.2.2.2]), (14, .one (.ptr 0 5)), (13, .one (.dat .bool (decide ((lenI a0.1.2.2.1) ≤ (16 : Int))))), (12, .one (.dat .bool (decide ((lenI a0.1.2.2.1) ≤ (16 : Int))))), (11, .one (.dat .bool (decide ((lenI a0.1.2.2.1) ≤ (16 : Int))))), (10, .one (.dat (.int .i64) (lenI a0.1.2.2.1))), (9, .one (.dat (.sl (.st (.pair (.int .i64) (.pair (.int .i64) (.pair (.int .i64) (.int .i64)))))) a0.1.2.2.1)), (8, .one (.ptr 0 2)), (7, .one (.ptr 0 0)), (6, .one (.dat .bool y4)), (5, .one (.dat .bool y4)), (4, .agg [.dat (.int .i64) a0.1.1, .dat (.int .i64) a0.1.2.1, .dat (.sl (.st (.pair (.int .i64) (.pair (.int .i64) (.pair (.int .i64) (.int .i64)))))) a0.1.2.2.1, .dat (.sl (.int .i64)) a0.1.2.2.2.1, .dat (.sl (.int .i64)) a0.1.2.2.2.2]), (3, .one (.ptr 0 0)), (1, .one (.ptr 0 0))], [(0, .box [.dat (.int .i64) a0.1.1, .dat (.int .i64) a0.1.2.1, .dat (.sl (.st (.pair (.int .i64) (.pair (.int .i64) (.pair (.int .i64) (.int .i64)))))) a0.1.2.2.1, .dat (.sl (.int .i64)) a0.1.2.2.2.1, .dat (.sl (.int .i64)) a0.1.2.2.2.2, .dat (.int .i64) a0.2.1.1, .dat (.int .i64) a0.2.1.2.1, .dat (.sl (.int .i64)) a0.2.1.2.2.1, .dat (.sl .bool) a0.2.1.2.2.2, .dat (.int .i64) a0.2.2.1.1, .dat (.int .i64) a0.2.2.1.2.1, .dat (.sl (.st (.pair (.int .i64) (.pair (.int .i64) (.pair (.int .i64) (.int .i64)))))) a0.2.2.1.2.2, .dat (.sl (.int .i64)) a0.2.2.2])], 1⟩) hP hN (by kernel_rfl) (allCons (f46_ok hc5) (allCons hb6 (allCons hb6 (allCons hb6 (allCons hb6 (allCons hb6 (allCons hb6 (allCons hb7 (allCons hb7 (allCons hb7 (allCons (f47_ok hc9) (allCons hb7 (allCons hb10 (allCons hb10 (allCons hb10 (allCons hb10 (allCons hb10 (allCons hb10 (allCons hb11 (allCons hb11 (allCons hb11 (allCons (f48_ok hc13) (allCons hb11 (allCons hb14 (allCons hb14 (allCons hb14 (allCons hb14 (allCons hb14 (allCons hb14 (allCons hb15 (allCons hb15 (allCons hb15 (allCons (f49_ok hc17) (allCons hb15 allNil)))))))))))))))))))))))))))))))))) (qThen ?_)
                exact (Le.cv (s := ⟨[], [], [], false⟩) (own := []) (ps := [y16 = y16]) (st' := ⟨[(2, .one (.dat .bool y16))], [], 0⟩) hO (fun h => by cases h) (by kernel_rfl) ⟨rfl, trivial⟩).ht (cont y16 (of_some hT3))
              · refine HT.reg (rs := [⟨none, .no⟩, ⟨none, .no⟩, ⟨none, .call [.imm (.st (.pair (.int .i64) (.pair (.int .i64) (.pair (.sl (.st (.pair (.int .i64) (.pair (.int .i64) (.pair (.int .i64) (.int .i64)))))) (.pair (.sl (.int .i64)) (.sl (.int .i64)))))))] [⟨false, .bool, y4⟩] []⟩, ⟨none, .no⟩, ⟨some true, .no⟩, ⟨some true, .no⟩, ⟨some true, .no⟩, ⟨some true, .no⟩, ⟨some true, .no⟩, ⟨none, .tv true⟩, ⟨none, .no⟩, ⟨some true, .no⟩, ⟨some true, .no⟩, ⟨some true, .call [.imm (.st (.pair (.int .i64) (.pair (.int .i64) (.pair (.sl (.int .i64)) (.sl .bool)))))] [⟨false, .bool, y8⟩] []⟩, ⟨none, .tv true⟩, ⟨none, .no⟩, ⟨some true, .no⟩, ⟨some true, .no⟩, ⟨some true, .no⟩, ⟨some true, .no⟩, ⟨some true, .no⟩, ⟨none, .tv true⟩, ⟨none, .no⟩, ⟨some true, .no⟩, ⟨some true, .no⟩, ⟨some true, .call [.imm (.st (.pair (.int .i64) (.pair (.int .i64) (.sl (.st (.pair (.int .i64) (.pair (.int .i64) (.pair (.int .i64) (.int .i64)))))))))] [⟨false, .bool, y12⟩] []⟩, ⟨none, .tv true⟩, ⟨none, .no⟩, ⟨some true, .no⟩, ⟨some true, .no⟩, ⟨some true, .no⟩, ⟨some true, .no⟩, ⟨some true, .no⟩, ⟨none, .tv true⟩, ⟨none, .no⟩, ⟨some false, .no⟩, ⟨some false, .no⟩, ⟨some false, .no⟩, ⟨none, .tv false⟩, ⟨none, .no⟩]) (st' := ⟨[(2, .one (.dat .bool false)), (41, .one (.dat .bool false)), (40, .und), (39, .und), (38, .und), (37, .one (.dat .bool (decide ((lenI a0.2.2.1.2.2) ≤ (16 : Int))))), (36, .one (.dat .bool (decide ((lenI a0.2.2.1.2.2) ≤ (16 : Int))))), (35, .one (.dat .bool (decide ((lenI a0.2.2.1.2.2) ≤ (16 : Int))))), (34, .one (.dat (.int .i64) (lenI a0.2.2.1.2.2))), (33, .one (.dat (.sl (.st (.pair (.int .i64) (.pair (.int .i64) (.pair (.int .i64) (.int .i64)))))) a0.2.2.1.2.2)), (32, .one (.ptr 0 11)), (31, .one (.ptr 0 9)), (30, .one (.dat .bool y12)), (29, .one (.dat .bool y12)), (28, .one (.dat .bool y12)), (27, .agg [.dat (.int .i64) a0.2.2.1.1, .dat (.int .i64) a0.2.2.1.2.1, .dat (.sl (.st (.pair (.int .i64) (.pair (.int .i64) (.pair (.int .i64) (.int .i64)))))) a0.2.2.1.2.2]), (26, .one (.ptr 0 9)), (25, .one (.dat .bool (decide ((lenI a0.2.1.2.2.1) ≤ (64 : Int))))), (24, .one (.dat .bool (decide ((lenI a0.2.1.2.2.1) ≤ (64 : Int))))), (23, .one (.dat .bool (decide ((lenI a0.2.1.2.2.1) ≤ (64 : Int))))), (22, .one (.dat (.int .i64) (lenI a0.2.1.2.2.1))), (21, .one (.dat (.sl (.int .i64)) a0.2.1.2.2.1)), (20, .one (.ptr 0 7)), (19, .one (.ptr 0 5)), (18, .one (.dat .bool y8)), (17, .one (.dat .bool y8)), (16, .one (.dat .bool y8)), (15, .agg [.dat (.int .i64) a0.2.1.1, .dat (.int .i64) a0.2.1.2.1, .dat (.sl (.int .i64)) a0.2.1.2.2.1, .dat (.sl .bool) a0.2.1.2.2.2]), (14, .one (.ptr 0 5)), (13, .one (.dat .bool (decide ((lenI a0.1.2.2.1) ≤ (16 : Int))))), (12, .one (.dat .bool (decide ((lenI a0.1.2.2.1) ≤ (16 : Int))))), (11, .one (.dat .bool (decide ((lenI a0.1.2.2.1) ≤ (16 : Int))))), (10, .one (.dat (.int .i64) (lenI a0.1.2.2.1))), (9, .one (.dat (.sl (.st (.pair (.int .i64) (.pair (.int .i64) (.pair (.int .i64) (.int .i64)))))) a0.1.2.2.1)), (8, .one (.ptr 0 2)), (7, .one (.ptr 0 0)), (6, .one (.dat .bool y4)), (5, .one (.dat .bool y4)), (4, .agg [.dat (.int .i64) a0.1.1, .dat (.int .i64) a0.1.2.1, .dat (.sl (.st (.pair (.int .i64) (.pair (.int .i64) (.pair (.int .i64) (.int .i64)))))) a0.1.2.2.1, .dat (.sl (.int .i64)) a0.1.2.2.2.1, .dat (.sl (.int .i64)) a0.1.2.2.2.2]), (3, .one (.ptr 0 0)), (1, .one (.ptr 0 0))], [(0, .box [.dat (.int .i64) a0.1.1, .dat (.int .i64) a0.1.2.1, .dat (.sl (.st (.pair (.int .i64) (.pair (.int .i64) (.pair (.int .i64) (.int .i64)))))) a0.1.2.2.1, .dat (.sl (.int .i64)) a0.1.2.2.2.1, .dat (.sl (.int .i64)) a0.1.2.2.2.2, .dat (.int .i64) a0.2.1.1, .dat (.int .i64) a0.2.1.2.1, .dat (.sl (.int .i64)) a0.2.1.2.2.1, .dat (.sl .bool) a0.2.1.2.2.2, .dat (.int .i64) a0.2.2.1.1, .dat (.int .i64) a0.2.2.1.2.1, .dat (.sl (.st (.pair (.int .i64) (.pair (.int .i64) (.pair (.int .i64) (.int .i64)))))) a0.2.2.1.2.2, .dat (.sl (.int .i64)) a0.2.2.2])], 1⟩) hP hN (by kernel_rfl) (allCons (f46_ok hc5) (allCons hb6 (allCons hb6 (allCons hb6 (allCons hb6 (allCons hb6 (allCons hb6 (allCons hb7 (allCons hb7 (allCons hb7 (allCons (f47_ok hc9) (allCons hb7 (allCons hb10 (allCons hb10 (allCons hb10 (allCons hb10 (allCons hb10 (allCons hb10 (allCons hb11 (allCons hb11 (allCons hb11 (allCons (f48_ok hc13) (allCons hb11 (allCons hb14 (allCons hb14 (allCons hb14 (allCons hb14 (allCons hb14 (allCons hb14 (allCons hb15 (allCons hb15 (allCons hb15 (allCons hb15 allNil))))))))))))))))))))))))))))))))) (qThen ?_)
                exact (Le.cv (s := ⟨[], [], [], false⟩) (own := []) (ps := [false = false]) (st' := ⟨[(2, .one (.dat .bool false))], [], 0⟩) hO (fun h => by cases h) (by kernel_rfl) ⟨rfl, trivial⟩).ht (cont false (of_some hT3))
            · refine HT.reg (rs := [⟨none, .no⟩, ⟨none, .no⟩, ⟨none, .call [.imm (.st (.pair (.int .i64) (.pair (.int .i64) (.pair (.sl (.st (.pair (.int .i64) (.pair (.int .i64) (.pair (.int .i64) (.int .i64)))))) (.pair (.sl (.int .i64)) (.sl (.int .i64)))))))] [⟨false, .bool, y4⟩] []⟩, ⟨none, .no⟩, ⟨some true, .no⟩, ⟨some true, .no⟩, ⟨some true, .no⟩, ⟨some true, .no⟩, ⟨some true, .no⟩, ⟨none, .tv true⟩, ⟨none, .no⟩, ⟨some true, .no⟩, ⟨some true, .no⟩, ⟨some true, .call [.imm (.st (.pair (.int .i64) (.pair (.int .i64) (.pair (.sl (.int .i64)) (.sl .bool)))))] [⟨false, .bool, y8⟩] []⟩, ⟨none, .tv true⟩, ⟨none, .no⟩, ⟨some true, .no⟩, ⟨some true, .no⟩, ⟨some true, .no⟩, ⟨some true, .no⟩, ⟨some true, .no⟩, ⟨none, .tv true⟩, ⟨none, .no⟩, ⟨some true, .no⟩, ⟨some true, .no⟩, ⟨some true, .call [.imm (.st (.pair (.int .i64) (.pair (.int .i64) (.sl (.st (.pair (.int .i64) (.pair (.int .i64) (.pair (.int .i64) (.int .i64)))))))))] [⟨false, .bool, y12⟩] []⟩, ⟨none, .tv true⟩, ⟨none, .no⟩, ⟨some false, .no⟩, ⟨some false, .no⟩, ⟨some false, .no⟩, ⟨some false, .no⟩, ⟨some false, .no⟩, ⟨none, .tv false⟩, ⟨none, .no⟩, ⟨some false, .no⟩, ⟨some false, .no⟩, ⟨some false, .no⟩, ⟨none, .tv false⟩, ⟨none, .no⟩]) (st' := ⟨[(2, .one (.dat .bool false)), (41, .one (.dat .bool false)), (40, .und), (39, .und), (38, .und), (37, .one (.dat .bool false)), (36, .one (.dat .bool false)), (35, .und), (34, .und), (33, .und), (32, .und), (31, .und), (30, .one (.dat .bool y12)), (29, .one (.dat .bool y12)), (28, .one (.dat .bool y12)), (27, .agg [.dat (.int .i64) a0.2.2.1.1, .dat (.int .i64) a0.2.2.1.2.1, .dat (.sl (.st (.pair (.int .i64) (.pair (.int .i64) (.pair (.int .i64) (.int .i64)))))) a0.2.2.1.2.2]), (26, .one (.ptr 0 9)), (25, .one (.dat .bool (decide ((lenI a0.2.1.2.2.1) ≤ (64 : Int))))), (24, .one (.dat .bool (decide ((lenI a0.2.1.2.2.1) ≤ (64 : Int))))), (23, .one (.dat .bool (decide ((lenI a0.2.1.2.2.1) ≤ (64 : Int))))), (22, .one (.dat (.int .i64) (lenI a0.2.1.2.2.1))), (21, .one (.dat (.sl (.int .i64)) a0.2.1.2.2.1)), (20, .one (.ptr 0 7)), (19, .one (.ptr 0 5)), (18, .one (.dat .bool y8)), (17, .one (.dat .bool y8)), (16, .one (.dat .bool y8)), (15, .agg [.dat (.int .i64) a0.2.1.1, .dat (.int .i64) a0.2.1.2.1, .dat (.sl (.int .i64)) a0.2.1.2.2.1, .dat (.sl .bool) a0.2.1.2.2.2]), (14, .one (.ptr 0 5)), (13, .one (.dat .bool (decide ((lenI a0.1.2.2.1) ≤ (16 : Int))))), (12, .one (.dat .bool (decide ((lenI a0.1.2.2.1) ≤ (16 : Int))))), (11, .one (.dat .bool (decide ((lenI a0.1.2.2.1) ≤ (16 : Int))))), (10, .one (.dat (.int .i64) (lenI a0.1.2.2.1))), (9, .one (.dat (.sl (.st (.pair (.int .i64) (.pair (.int .i64) (.pair (.int .i64) (.int .i64)))))) a0.1.2.2.1)), (8, .one (.ptr 0 2)), (7, .one (.ptr 0 0)), (6, .one (.dat .bool y4)), (5, .one (.dat .bool y4)), (4, .agg [.dat (.int .i64) a0.1.1, .dat (.int .i64) a0.1.2.1, .dat (.sl (.st (.pair (.int .i64) (.pair (.int .i64) (.pair (.int .i64) (.int .i64)))))) a0.1.2.2.1, .dat (.sl (.int .i64)) a0.1.2.2.2.1, .dat (.sl (.int .i64)) a0.1.2.2.2.2]), (3, .one (.ptr 0 0)), (1, .one (.ptr 0 0))], [(0, .box [.dat (.int .i64) a0.1.1, .dat (.int .i64) a0.1.2.1, .dat (.sl (.st (.pair (.int .i64) (.pair (.int .i64) (.pair (.int .i64) (.int .i64)))))) a0.1.2.2.1, .dat (.sl (.int .i64)) a0.1.2.2.2.1, .dat (.sl (.int .i64)) a0.1.2.2.2.2, .dat (.int .i64) a0.2.1.1, .dat (.int .i64) a0.2.1.2.1, .dat (.sl (.int .i64)) a0.2.1.2.2.1, .dat (.sl .bool) a0.2.1.2.2.2, .dat (.int .i64) a0.2.2.1.1, .dat (.int .i64) a0.2.2.1.2.1, .dat (.sl (.st (.pair (.int .i64) (.pair (.int .i64) (.pair (.int .i64) (.int .i64)))))) a0.2.2.1.2.2, .dat (.sl (.int .i64)) a0.2.2.2])], 1⟩) hP hN (by kernel_rfl) (allCons (f46_ok hc5) (allCons hb6 (allCons hb6 (allCons hb6 (allCons hb6 (allCons hb6 (allCons hb6 (allCons hb7 (allCons hb7 (allCons hb7 (allCons (f47_ok hc9) (allCons hb7 (allCons hb10 (allCons hb10 (allCons hb10 (allCons hb10 (allCons hb10 (allCons hb10 (allCons hb11 (allCons hb11 (allCons hb11 (allCons (f48_ok hc13) (allCons hb11 (allCons hb14 (allCons hb14 (allCons hb14 (allCons hb14 (allCons hb14 (allCons hb14 (allCons (rfl : false = false) (allCons (rfl : false = false) (allCons (rfl : false = false) (allCons (rfl : false = false) allNil))))))))))))))))))))))))))))))))) (qThen ?_)
              exact (Le.cv (s := ⟨[], [], [], false⟩) (own := []) (ps := [false = false]) (st' := ⟨[(2, .one (.dat .bool false))], [], 0⟩) hO (fun h => by cases h) (by kernel_rfl) ⟨rfl, trivial⟩).ht (cont false (of_some hT3))
          · refine HT.reg (rs := [⟨none, .no⟩, ⟨none, .no⟩, ⟨none, .call [.imm (.st (.pair (.int .i64) (.pair (.int .i64) (.pair (.sl (.st (.pair (.int .i64) (.pair (.int .i64) (.pair (.int .i64) (.int .i64)))))) (.pair (.sl (.int .i64)) (.sl (.int .i64)))))))] [⟨false, .bool, y4⟩] []⟩, ⟨none, .no⟩, ⟨some true, .no⟩, ⟨some true, .no⟩, ⟨some true, .no⟩, ⟨some true, .no⟩, ⟨some true, .no⟩, ⟨none, .tv true⟩, ⟨none, .no⟩, ⟨some true, .no⟩, ⟨some true, .no⟩, ⟨some true, .call [.imm (.st (.pair (.int .i64) (.pair (.int .i64) (.pair (.sl (.int .i64)) (.sl .bool)))))] [⟨false, .bool, y8⟩] []⟩, ⟨none, .tv true⟩, ⟨none, .no⟩, ⟨some true, .no⟩, ⟨some true, .no⟩, ⟨some true, .no⟩, ⟨some true, .no⟩, ⟨some true, .no⟩, ⟨none, .tv true⟩, ⟨none, .no⟩, ⟨some false, .no⟩, ⟨some false, .no⟩, ⟨some false, .no⟩, ⟨none, .tv false⟩, ⟨none, .no⟩, ⟨some false, .no⟩, ⟨some false, .no⟩, ⟨some false, .no⟩, ⟨some false, .no⟩, ⟨some false, .no⟩, ⟨none, .tv false⟩, ⟨none, .no⟩, ⟨some false, .no⟩, ⟨some false, .no⟩, ⟨some false, .no⟩, ⟨none, .tv false⟩, ⟨none, .no⟩]) (st' := ⟨[(2, .one (.dat .bool false)), (41, .one (.dat .bool false)), (40, .und), (39, .und), (38, .und), (37, .one (.dat .bool false)), (36, .one (.dat .bool false)), (35, .und), (34, .und), (33, .und), (32, .und), (31, .und), (30, .one (.dat .bool false)), (29, .one (.dat .bool false)), (28, .und), (27, .und), (26, .und), (25, .one (.dat .bool (decide ((lenI a0.2.1.2.2.1) ≤ (64 : Int))))), (24, .one (.dat .bool (decide ((lenI a0.2.1.2.2.1) ≤ (64 : Int))))), (23, .one (.dat .bool (decide ((lenI a0.2.1.2.2.1) ≤ (64 : Int))))), (22, .one (.dat (.int .i64) (lenI a0.2.1.2.2.1))), (21, .one (.dat (.sl (.int .i64)) a0.2.1.2.2.1)), (20, .one (.ptr 0 7)), (19, .one (.ptr 0 5)), (18, .one (.dat .bool y8)), (17, .one (.dat .bool y8)), (16, .one (.dat .bool y8)), (15, .agg [.dat (.int .i64) a0.2.1.1, .dat (.int .i64) a0.2.1.2.1, .dat (.sl (.int .i64)) a0.2.1.2.2.1, .dat (.sl .bool) a0.2.1.2.2.2]), (14, .one (.ptr 0 5)), (13, .one (.dat .bool (decide ((lenI a0.1.2.2.1) ≤ (16 : Int))))), (12, .one (.dat .bool (decide ((lenI a0.1.2.2.1) ≤ (16 : Int))))), (11, .one (.dat .bool (decide ((lenI a0.1.2.2.1) ≤ (16 : Int))))), (10, .one (.dat (.int .i64) (lenI a0.1.2.2.1))), (9, .one (.dat (.sl (.st (.pair (.int .i64) (.pair (.int .i64) (.pair (.int .i64) (.int .i64)))))) a0.1.2.2.1)), (8, .one (.ptr 0 2)), (7, .one (.ptr 0 0)), (6, .one (.dat .bool y4)), (5, .one (.dat .bool y4)), (4, .agg [.dat (.int .i64) a0.1.1, .dat (.int .i64) a0.1.2.1, .dat (.sl (.st (.pair (.int .i64) (.pair (.int .i64) (.pair (.int .i64) (.int .i64)))))) a0.1.2.2.1, .dat (.sl (.int .i64)) a0.1.2.2.2.1, .dat (.sl (.int .i64)) a0.1.2.2.2.2]), (3, .one (.ptr 0 0)), (1, .one (.ptr 0 0))], [(0, .box [.dat (.int .i64) a0.1.1, .dat (.int .i64) a0.1.2.1, .dat (.sl (.st (.pair (.int .i64) (.pair (.int .i64) (.pair (.int .i64) (.int .i64)))))) a0.1.2.2.1, .dat (.sl (.int .i64)) a0.1.2.2.2.1, .dat (.sl (.int .i64)) a0.1.2.2.2.2, .dat (.int .i64) a0.2.1.1, .dat (.int .i64) a0.2.1.2.1, .dat (.sl (.int .i64)) a0.2.1.2.2.1, .dat (.sl .bool) a0.2.1.2.2.2, .dat (.int .i64) a0.2.2.1.1, .dat (.int .i64) a0.2.2.1.2.1, .dat (.sl (.st (.pair (.int .i64) (.pair (.int .i64) (.pair (.int .i64) (.int .i64)))))) a0.2.2.1.2.2, .dat (.sl (.int .i64)) a0.2.2.2])], 1⟩) hP hN (by kernel_rfl) (allCons (f46_ok hc5) (allCons hb6 (allCons hb6 (allCons hb6 (allCons hb6 (allCons hb6 (allCons hb6 (allCons hb7 (allCons hb7 (allCons hb7 (allCons (f47_ok hc9) (allCons hb7 (allCons hb10 (allCons hb10 (allCons hb10 (allCons hb10 (allCons hb10 (allCons hb10 (allCons hb11 (allCons hb11 (allCons hb11 (allCons hb11 (allCons (rfl : false = false) (allCons (rfl : false = false) (allCons (rfl : false = false) (allCons (rfl : false = false) (allCons (rfl : false = false) (allCons (rfl : false = false) (allCons (rfl : false = false) (allCons (rfl : false = false) (allCons (rfl : false = false) (allCons (rfl : false = false) allNil)))))))))))))))))))))))))))))))) (qThen ?_)
            exact (Le.cv (s := ⟨[], [], [], false⟩) (own := []) (ps := [false = false]) (st' := ⟨[(2, .one (.dat .bool false))], [], 0⟩) hO (fun h => by cases h) (by kernel_rfl) ⟨rfl, trivial⟩).ht (cont false (of_some hT3))
        · refine HT.reg (rs := [⟨none, .no⟩, ⟨none, .no⟩, ⟨none, .call [.imm (.st (.pair (.int .i64) (.pair (.int .i64) (.pair (.sl (.st (.pair (.int .i64) (.pair (.int .i64) (.pair (.int .i64) (.int .i64)))))) (.pair (.sl (.int .i64)) (.sl (.int .i64)))))))] [⟨false, .bool, y4⟩] []⟩, ⟨none, .no⟩, ⟨some true, .no⟩, ⟨some true, .no⟩, ⟨some true, .no⟩, ⟨some true, .no⟩, ⟨some true, .no⟩, ⟨none, .tv true⟩, ⟨none, .no⟩, ⟨some true, .no⟩, ⟨some true, .no⟩, ⟨some true, .call [.imm (.st (.pair (.int .i64) (.pair (.int .i64) (.pair (.sl (.int .i64)) (.sl .bool)))))] [⟨false, .bool, y8⟩] []⟩, ⟨none, .tv true⟩, ⟨none, .no⟩, ⟨some false, .no⟩, ⟨some false, .no⟩, ⟨some false, .no⟩, ⟨some false, .no⟩, ⟨some false, .no⟩, ⟨none, .tv false⟩, ⟨none, .no⟩, ⟨some false, .no⟩, ⟨some false, .no⟩, ⟨some false, .no⟩, ⟨none, .tv false⟩, ⟨none, .no⟩, ⟨some false, .no⟩, ⟨some false, .no⟩, ⟨some false, .no⟩, ⟨some false, .no⟩, ⟨some false, .no⟩, ⟨none, .tv false⟩, ⟨none, .no⟩, ⟨some false, .no⟩, ⟨some false, .no⟩, ⟨some false, .no⟩, ⟨none, .tv false⟩, ⟨none, .no⟩]) (st' := ⟨[(2, .one (.dat .bool false)), (41, .one (.dat .bool false)), (40, .und), (39, .und), (38, .und), (37, .one (.dat .bool false)), (36, .one (.dat .bool false)), (35, .und), (34, .und), (33, .und), (32, .und), (31, .und), (30, .one (.dat .bool false)), (29, .one (.dat .bool false)), (28, .und), (27, .und), (26, .und), (25, .one (.dat .bool false)), (24, .one (.dat .bool false)), (23, .und), (22, .und), (21, .und), (20, .und), (19, .und), (18, .one (.dat .bool y8)), (17, .one (.dat .bool y8)), (16, .one (.dat .bool y8)), (15, .agg [.dat (.int .i64) a0.2.1.1, .dat (.int .i64) a0.2.1.2.1, .dat (.sl (.int .i64)) a0.2.1.2.2.1, .dat (.sl .bool) a0.2.1.2.2.2]), (14, .one (.ptr 0 5)), (13, .one (.dat .bool (decide ((lenI a0.1.2.2.1) ≤ (16 : Int))))), (12, .one (.dat .bool (decide ((lenI a0.1.2.2.1) ≤ (16 : Int))))), (11, .one (.dat .bool (decide ((lenI a0.1.2.2.1) ≤ (16 : Int))))), (10, .one (.dat (.int .i64) (lenI a0.1.2.2.1))), (9, .one (.dat (.sl (.st (.pair (.int .i64) (.pair (.int .i64) (.pair (.int .i64) (.int .i64)))))) a0.1.2.2.1)), (8, .one (.ptr 0 2)), (7, .one (.ptr 0 0)), (6, .one (.dat .bool y4)), (5, .one (.dat .bool y4)), (4, .agg [.dat (.int .i64) a0.1.1, .dat (.int .i64) a0.1.2.1, .dat (.sl (.st (.pair (.int .i64) (.pair (.int .i64) (.pair (.int .i64) (.int .i64)))))) a0.1.2.2.1, .dat (.sl (.int .i64)) a0.1.2.2.2.1, .dat (.sl (.int .i64)) a0.1.2.2.2.2]), (3, .one (.ptr 0 0)), (1, .one (.ptr 0 0))], [(0, .box [.dat (.int .i64) a0.1.1, .dat (.int .i64) a0.1.2.1, .dat (.sl (.st (.pair (.int .i64) (.pair (.int .i64) (.pair (.int .i64) (.int .i64)))))) a0.1.2.2.1, .dat (.sl (.int .i64)) a0.1.2.2.2.1, .dat (.sl (.int .i64)) a0.1.2.2.2.2, .dat (.int .i64) a0.2.1.1, .dat (.int .i64) a0.2.1.2.1, .dat (.sl (.int .i64)) a0.2.1.2.2.1, .dat (.sl .bool) a0.2.1.2.2.2, .dat (.int .i64) a0.2.2.1.1, .dat (.int .i64) a0.2.2.1.2.1, .dat (.sl (.st (.pair (.int .i64) (.pair (.int .i64) (.pair (.int .i64) (.int .i64)))))) a0.2.2.1.2.2, .dat (.sl (.int .i64)) a0.2.2.2])], 1⟩) hP hN (by kernel_rfl) (allCons (f46_ok hc5) (allCons hb6 (allCons hb6 (allCons hb6 (allCons hb6 (allCons hb6 (allCons hb6 (allCons hb7 (allCons hb7 (allCons hb7 (allCons (f47_ok hc9) (allCons hb7 (allCons hb10 (allCons hb10 (allCons hb10 (allCons hb10 (allCons hb10 (allCons hb10 (allCons (rfl : false = false) (allCons (rfl : false = false) (allCons (rfl : false = false) (allCons (rfl : false = false) (allCons (rfl : false = false) (allCons (rfl : false = false) (allCons (rfl : false = false) (allCons (rfl : false = false) (allCons (rfl : false = false) (allCons (rfl : false = false) (allCons (rfl : false = false) (allCons (rfl : false = false) (allCons (rfl : false = false) (allCons (rfl : false = false) allNil)))))))))))))))))))))))))))))))) (qThen ?_)
          exact (Le.cv (s := ⟨[], [], [], false⟩) (own := []) (ps := [false = false]) (st' := ⟨[(2, .one (.dat .bool false))], [], 0⟩) hO (fun h => by cases h) (by kernel_rfl) ⟨rfl, trivial⟩).ht (cont false (of_some hT3))
      · refine HT.reg (rs := [⟨none, .no⟩, ⟨none, .no⟩, ⟨none, .call [.imm (.st (.pair (.int .i64) (.pair (.int .i64) (.pair (.sl (.st (.pair (.int .i64) (.pair (.int .i64) (.pair (.int .i64) (.int .i64)))))) (.pair (.sl (.int .i64)) (.sl (.int .i64)))))))] [⟨false, .bool, y4⟩] []⟩, ⟨none, .no⟩, ⟨some true, .no⟩, ⟨some true, .no⟩, ⟨some true, .no⟩, ⟨some true, .no⟩, ⟨some true, .no⟩, ⟨none, .tv true⟩, ⟨none, .no⟩, ⟨some false, .no⟩, ⟨some false, .no⟩, ⟨some false, .no⟩, ⟨none, .tv false⟩, ⟨none, .no⟩, ⟨some false, .no⟩, ⟨some false, .no⟩, ⟨some false, .no⟩, ⟨some false, .no⟩, ⟨some false, .no⟩, ⟨none, .tv false⟩, ⟨none, .no⟩, ⟨some false, .no⟩, ⟨some false, .no⟩, ⟨some false, .no⟩, ⟨none, .tv false⟩, ⟨none, .no⟩, ⟨some false, .no⟩, ⟨some false, .no⟩, ⟨some false, .no⟩, ⟨some false, .no⟩, ⟨some false, .no⟩, ⟨none, .tv false⟩, ⟨none, .no⟩, ⟨some false, .no⟩, ⟨some false, .no⟩, ⟨some false, .no⟩, ⟨none, .tv false⟩, ⟨none, .no⟩]) (st' := ⟨[(2, .one (.dat .bool false)), (41, .one (.dat .bool false)), (40, .und), (39, .und), (38, .und), (37, .one (.dat .bool false)), (36, .one (.dat .bool false)), (35, .und), (34, .und), (33, .und), (32, .und), (31, .und), (30, .one (.dat .bool false)), (29, .one (.dat .bool false)), (28, .und), (27, .und), (26, .und), (25, .one (.dat .bool false)), (24, .one (.dat .bool false)), (23, .und), (22, .und), (21, .und), (20, .und), (19, .und), (18, .one (.dat .bool false)), (17, .one (.dat .bool false)), (16, .und), (15, .und), (14, .und), (13, .one (.dat .bool (decide ((lenI a0.1.2.2.1) ≤ (16 : Int))))), (12, .one (.dat .bool (decide ((lenI a0.1.2.2.1) ≤ (16 : Int))))), (11, .one (.dat .bool (decide ((lenI a0.1.2.2.1) ≤ (16 : Int))))), (10, .one (.dat (.int .i64) (lenI a0.1.2.2.1))), (9, .one (.dat (.sl (.st (.pair (.int .i64) (.pair (.int .i64) (.pair (.int .i64) (.int .i64)))))) a0.1.2.2.1)), (8, .one (.ptr 0 2)), (7, .one (.ptr 0 0)), (6, .one (.dat .bool y4)), (5, .one (.dat .bool y4)), (4, .agg [.dat (.int .i64) a0.1.1, .dat (.int .i64) a0.1.2.1, .dat (.sl (.st (.pair (.int .i64) (.pair (.int .i64) (.pair (.int .i64) (.int .i64)))))) a0.1.2.2.1, .dat (.sl (.int .i64)) a0.1.2.2.2.1, .dat (.sl (.int .i64)) a0.1.2.2.2.2]), (3, .one (.ptr 0 0)), (1, .one (.ptr 0 0))], [(0, .box [.dat (.int .i64) a0.1.1, .dat (.int .i64) a0.1.2.1, .dat (.sl (.st (.pair (.int .i64) (.pair (.int .i64) (.pair (.int .i64) (.int .i64)))))) a0.1.2.2.1, .dat (.sl (.int .i64)) a0.1.2.2.2.1, .dat (.sl (.int .i64)) a0.1.2.2.2.2, .dat (.int .i64) a0.2.1.1, .dat (.int .i64) a0.2.1.2.1, .dat (.sl (.int .i64)) a0.2.1.2.2.1, .dat (.sl .bool) a0.2.1.2.2.2, .dat (.int .i64) a0.2.2.1.1, .dat (.int .i64) a0.2.2.1.2.1, .dat (.sl (.st (.pair (.int .i64) (.pair (.int .i64) (.pair (.int .i64) (.int .i64)))))) a0.2.2.1.2.2, .dat (.sl (.int .i64)) a0.2.2.2])], 1⟩) hP hN (by kernel_rfl) (allCons (f46_ok hc5) (allCons hb6 (allCons hb6 (allCons hb6 (allCons hb6 (allCons hb6 (allCons hb6 (allCons hb7 (allCons hb7 (allCons hb7 (allCons hb7 (allCons (rfl : false = false) (allCons (rfl : false = false) (allCons (rfl : false = false) (allCons (rfl : false = false) (allCons (rfl : false = false) (allCons (rfl : false = false) (allCons (rfl : false = false) (allCons (rfl : false = false) (allCons (rfl : false = false) (allCons (rfl : false = false) (allCons (rfl : false = false) (allCons (rfl : false = false) (allCons (rfl : false = false) (allCons (rfl : false = false) (allCons (rfl : false = false) (allCons (rfl : false = false) (allCons (rfl : false = false) (allCons (rfl : false = false) (allCons (rfl : false = false) (allCons (rfl : false = false) allNil))))))))))))))))))))))))))))))) (qThen ?_)
        exact (Le.cv (s := ⟨[], [], [], false⟩) (own := []) (ps := [false = false]) (st' := ⟨[(2, .one (.dat .bool false))], [], 0⟩) hO (fun h => by cases h) (by kernel_rfl) ⟨rfl, trivial⟩).ht (cont false (of_some hT3))
    · refine HT.reg (rs := [⟨none, .no⟩, ⟨none, .no⟩, ⟨none, .call [.imm (.st (.pair (.int .i64) (.pair (.int .i64) (.pair (.sl (.st (.pair (.int .i64) (.pair (.int .i64) (.pair (.int .i64) (.int .i64)))))) (.pair (.sl (.int .i64)) (.sl (.int .i64)))))))] [⟨false, .bool, y4⟩] []⟩, ⟨none, .no⟩, ⟨some false, .no⟩, ⟨some false, .no⟩, ⟨some false, .no⟩, ⟨some false, .no⟩, ⟨some false, .no⟩, ⟨none, .tv false⟩, ⟨none, .no⟩, ⟨some false, .no⟩, ⟨some false, .no⟩, ⟨some false, .no⟩, ⟨none, .tv false⟩, ⟨none, .no⟩, ⟨some false, .no⟩, ⟨some false, .no⟩, ⟨some false, .no⟩, ⟨some false, .no⟩, ⟨some false, .no⟩, ⟨none, .tv false⟩, ⟨none, .no⟩, ⟨some false, .no⟩, ⟨some false, .no⟩, ⟨some false, .no⟩, ⟨none, .tv false⟩, ⟨none, .no⟩, ⟨some false, .no⟩, ⟨some false, .no⟩, ⟨some false, .no⟩, ⟨some false, .no⟩, ⟨some false, .no⟩, ⟨none, .tv false⟩, ⟨none, .no⟩, ⟨some false, .no⟩, ⟨some false, .no⟩, ⟨some false, .no⟩, ⟨none, .tv false⟩, ⟨none, .no⟩]) (st' := ⟨[(2, .one (.dat .bool false)), (41, .one (.dat .bool false)), (40, .und), (39, .und), (38, .und), (37, .one (.dat .bool false)), (36, .one (.dat .bool false)), (35, .und), (34, .und), (33, .und), (32, .und), (31, .und), (30, .one (.dat .bool false)), (29, .one (.dat .bool false)), (28, .und), (27, .und), (26, .und), (25, .one (.dat .bool false)), (24, .one (.dat .bool false)), (23, .und), (22, .und), (21, .und), (20, .und), (19, .und), (18, .one (.dat .bool false)), (17, .one (.dat .bool false)), (16, .und), (15, .und), (14, .und), (13, .one (.dat .bool false)), (12, .one (.dat .bool false)), (11, .und), (10, .und), (9, .und), (8, .und), (7, .und), (6, .one (.dat .bool y4)), (5, .one (.dat .bool y4)), (4, .agg [.dat (.int .i64) a0.1.1, .dat (.int .i64) a0.1.2.1, .dat (.sl (.st (.pair (.int .i64) (.pair (.int .i64) (.pair (.int .i64) (.int .i64)))))) a0.1.2.2.1, .dat (.sl (.int .i64)) a0.1.2.2.2.1, .dat (.sl (.int .i64)) a0.1.2.2.2.2]), (3, .one (.ptr 0 0)), (1, .one (.ptr 0 0))], [(0, .box [.dat (.int .i64) a0.1.1, .dat (.int .i64) a0.1.2.1, .dat (.sl (.st (.pair (.int .i64) (.pair (.int .i64) (.pair (.int .i64) (.int .i64)))))) a0.1.2.2.1, .dat (.sl (.int .i64)) a0.1.2.2.2.1, .dat (.sl (.int .i64)) a0.1.2.2.2.2, .dat (.int .i64) a0.2.1.1, .dat (.int .i64) a0.2.1.2.1, .dat (.sl (.int .i64)) a0.2.1.2.2.1, .dat (.sl .bool) a0.2.1.2.2.2, .dat (.int .i64) a0.2.2.1.1, .dat (.int .i64) a0.2.2.1.2.1, .dat (.sl (.st (.pair (.int .i64) (.pair (.int .i64) (.pair (.int .i64) (.int .i64)))))) a0.2.2.1.2.2, .dat (.sl (.int .i64)) a0.2.2.2])], 1⟩) hP hN (by kernel_rfl) (allCons (f46_ok hc5) (allCons hb6 (allCons hb6 (allCons hb6 (allCons hb6 (allCons hb6 (allCons hb6 (allCons (rfl : false = false) (allCons (rfl : false = false) (allCons (rfl : false = false) (allCons (rfl : false = false) (allCons (rfl : false = false) (allCons (rfl : false = false) (allCons (rfl : false = false) (allCons (rfl : false = false) (allCons (rfl : false = false) (allCons (rfl : false = false) (allCons (rfl : false = false) (allCons (rfl : false = false) (allCons (rfl : false = false) (allCons (rfl : false = false) (allCons (rfl : false = false) (allCons (rfl : false = false) (allCons (rfl : false = false) (allCons (rfl : false = false) (allCons (rfl : false = false) (allCons (rfl : false = false) (allCons (rfl : false = false) (allCons (rfl : false = false) (allCons (rfl : false = false) (allCons (rfl : false = false) allNil))))))))))))))))))))))))))))))) (qThen ?_)
      exact (Le.cv (s := ⟨[], [], [], false⟩) (own := []) (ps := [false = false]) (st' := ⟨[(2, .one (.dat .bool false))], [], 0⟩) hO (fun h => by cases h) (by kernel_rfl) ⟨rfl, trivial⟩).ht (cont false (of_some hT3))

noncomputable def laws_eqArc (a0 : Int × Int × Int × Int) (a1 : Int × Int × Int × Int) : Option (Bool) :=
  bif (a0.1 != a1.1) then
    some false
  else
    bif (a0.2.1 != a1.2.1) then
      some false
    else
      bif (a0.2.2.1 != a1.2.2.1) then
        some false
      else
        bif (a0.2.2.2 != a1.2.2.2) then
          some false
        else
          some true

theorem f74_ok {a0 : Int × Int × Int × Int} {a1 : Int × Int × Int × Int} {r : Bool} (hr : laws_eqArc a0 a1 = some r) : CallOK Try.prog 74 [.imm (.st (.pair (.int .i64) (.pair (.int .i64) (.pair (.int .i64) (.int .i64))))) a0, .imm (.st (.pair (.int .i64) (.pair (.int .i64) (.pair (.int .i64) (.int .i64))))) a1] [⟨false, .bool, r⟩] [] := by
  unfold laws_eqArc at hr
  refine CallOK.of_body (ts := [(false, .bool)]) Try.func74 rfl (by kernel_rfl) (Nat.le_of_ble_eq_true (by kernel_rfl)) fun cx hP hN hO hF => ?_
  have hO : cx.own.map Prod.fst = [] := hO
  have hF := hF rfl
  show HT cx ⟨[(0, .agg [.dat (.int .i64) a0.1, .dat (.int .i64) a0.2.1, .dat (.int .i64) a0.2.2.1, .dat (.int .i64) a0.2.2.2]), (1, .agg [.dat (.int .i64) a1.1, .dat (.int .i64) a1.2.1, .dat (.int .i64) a1.2.2.1, .dat (.int .i64) a1.2.2.2])], [], 0⟩ _ _
  refine HT.reg1 [2, 3] [⟨none, .no⟩, ⟨none, .no⟩, ⟨none, .no⟩] ⟨[(2, .one (.ptr 0 0)), (3, .one (.ptr 1 0))], [(1, .box [.dat (.int .i64) a1.1, .dat (.int .i64) a1.2.1, .dat (.int .i64) a1.2.2.1, .dat (.int .i64) a1.2.2.2]), (0, .box [.dat (.int .i64) a0.1, .dat (.int .i64) a0.2.1, .dat (.int .i64) a0.2.2.1, .dat (.int .i64) a0.2.2.2])], 2⟩ hP hN (by kernel_rfl) allNil ?_
  refine HT.seq ?_
  refine HT.reg1 [2, 3, 9] [⟨none, .no⟩, ⟨none, .no⟩, ⟨none, .no⟩, ⟨none, .no⟩, ⟨none, .no⟩] ⟨[(2, .one (.ptr 0 0)), (3, .one (.ptr 1 0)), (9, .one (.dat .bool (a0.1 != a1.1)))], [(1, .box [.dat (.int .i64) a1.1, .dat (.int .i64) a1.2.1, .dat (.int .i64) a1.2.2.1, .dat (.int .i64) a1.2.2.2]), (0, .box [.dat (.int .i64) a0.1, .dat (.int .i64) a0.2.1, .dat (.int .i64) a0.2.2.1, .dat (.int .i64) a0.2.2.2])], 2⟩ hP hN (by kernel_rfl) allNil ?_
  rcases of_bif hr with ⟨hb1, hr⟩ | ⟨hb1, hr⟩
  · refine HT.cond1 rfl hb1 ?_
    refine HT.reg1 [4] [⟨none, .no⟩] ⟨[(4, .one (.dat .bool false))], [(1, .box [.dat (.int .i64) a1.1, .dat (.int .i64) a1.2.1, .dat (.int .i64) a1.2.2.1, .dat (.int .i64) a1.2.2.2]), (0, .box [.dat (.int .i64) a0.1, .dat (.int .i64) a0.2.1, .dat (.int .i64) a0.2.2.1, .dat (.int .i64) a0.2.2.2])], 2⟩ hP hN (by kernel_rfl) allNil ?_
    have hr := of_some hr
    subst hr
    exact HT.ret (qThenR ⟨[.one (.dat .bool false)], [], [], by kernel_rfl, by kernel_rfl, rfl, by kernel_rfl, by kernel_rfl, trivial⟩)
  · refine HT.cond0 rfl hb1 ?_
    refine HT.skip (qThen ?_)
    refine HT.seq ?_
    refine HT.reg1 [2, 3, 14] [⟨none, .no⟩, ⟨none, .no⟩, ⟨none, .no⟩, ⟨none, .no⟩, ⟨none, .no⟩] ⟨[(2, .one (.ptr 0 0)), (3, .one (.ptr 1 0)), (14, .one (.dat .bool (a0.2.1 != a1.2.1)))], [(1, .box [.dat (.int .i64) a1.1, .dat (.int .i64) a1.2.1, .dat (.int .i64) a1.2.2.1, .dat (.int .i64) a1.2.2.2]), (0, .box [.dat (.int .i64) a0.1, .dat (.int .i64) a0.2.1, .dat (.int .i64) a0.2.2.1, .dat (.int .i64) a0.2.2.2])], 2⟩ hP hN (by kernel_rfl) allNil ?_
    rcases of_bif hr with ⟨hb2, hr⟩ | ⟨hb2, hr⟩
    · refine HT.cond1 rfl hb2 ?_
      refine HT.reg1 [4] [⟨none, .no⟩] ⟨[(4, .one (.dat .bool false))], [(1, .box [.dat (.int .i64) a1.1, .dat (.int .i64) a1.2.1, .dat (.int .i64) a1.2.2.1, .dat (.int .i64) a1.2.2.2]), (0, .box [.dat (.int .i64) a0.1, .dat (.int .i64) a0.2.1, .dat (.int .i64) a0.2.2.1, .dat (.int .i64) a0.2.2.2])], 2⟩ hP hN (by kernel_rfl) allNil ?_
      have hr := of_some hr
      subst hr
      exact HT.ret (qThenR ⟨[.one (.dat .bool false)], [], [], by kernel_rfl, by kernel_rfl, rfl, by kernel_rfl, by kernel_rfl, trivial⟩)
    · refine HT.cond0 rfl hb2 ?_
      refine HT.skip (qThen ?_)
      refine HT.seq ?_
      refine HT.reg1 [2, 3, 19] [⟨none, .no⟩, ⟨none, .no⟩, ⟨none, .no⟩, ⟨none, .no⟩, ⟨none, .no⟩] ⟨[(2, .one (.ptr 0 0)), (3, .one (.ptr 1 0)), (19, .one (.dat .bool (a0.2.2.1 != a1.2.2.1)))], [(1, .box [.dat (.int .i64) a1.1, .dat (.int .i64) a1.2.1, .dat (.int .i64) a1.2.2.1, .dat (.int .i64) a1.2.2.2]), (0, .box [.dat (.int .i64) a0.1, .dat (.int .i64) a0.2.1, .dat (.int .i64) a0.2.2.1, .dat (.int .i64) a0.2.2.2])], 2⟩ hP hN (by kernel_rfl) allNil ?_
      rcases of_bif hr with ⟨hb3, hr⟩ | ⟨hb3, hr⟩
      · refine HT.cond1 rfl hb3 ?_
        refine HT.reg1 [4] [⟨none, .no⟩] ⟨[(4, .one (.dat .bool false))], [(1, .box [.dat (.int .i64) a1.1, .dat (.int .i64) a1.2.1, .dat (.int .i64) a1.2.2.1, .dat (.int .i64) a1.2.2.2]), (0, .box [.dat (.int .i64) a0.1, .dat (.int .i64) a0.2.1, .dat (.int .i64) a0.2.2.1, .dat (.int .i64) a0.2.2.2])], 2⟩ hP hN (by kernel_rfl) allNil ?_
        have hr := of_some hr
        subst hr
        exact HT.ret (qThenR ⟨[.one (.dat .bool false)], [], [], by kernel_rfl, by kernel_rfl, rfl, by kernel_rfl, by kernel_rfl, trivial⟩)
      · refine HT.cond0 rfl hb3 ?_
        refine HT.skip (qThen ?_)
        refine HT.seq ?_
        refine HT.reg1 [24] [⟨none, .no⟩, ⟨none, .no⟩, ⟨none, .no⟩, ⟨none, .no⟩, ⟨none, .no⟩] ⟨[(24, .one (.dat .bool (a0.2.2.2 != a1.2.2.2)))], [(1, .box [.dat (.int .i64) a1.1, .dat (.int .i64) a1.2.1, .dat (.int .i64) a1.2.2.1, .dat (.int .i64) a1.2.2.2]), (0, .box [.dat (.int .i64) a0.1, .dat (.int .i64) a0.2.1, .dat (.int .i64) a0.2.2.1, .dat (.int .i64) a0.2.2.2])], 2⟩ hP hN (by kernel_rfl) allNil ?_
        rcases of_bif hr with ⟨hb4, hr⟩ | ⟨hb4, hr⟩
        · refine HT.cond1 rfl hb4 ?_
          refine HT.reg1 [4] [⟨none, .no⟩] ⟨[(4, .one (.dat .bool false))], [(1, .box [.dat (.int .i64) a1.1, .dat (.int .i64) a1.2.1, .dat (.int .i64) a1.2.2.1, .dat (.int .i64) a1.2.2.2]), (0, .box [.dat (.int .i64) a0.1, .dat (.int .i64) a0.2.1, .dat (.int .i64) a0.2.2.1, .dat (.int .i64) a0.2.2.2])], 2⟩ hP hN (by kernel_rfl) allNil ?_
          have hr := of_some hr
          subst hr
          exact HT.ret (qThenR ⟨[.one (.dat .bool false)], [], [], by kernel_rfl, by kernel_rfl, rfl, by kernel_rfl, by kernel_rfl, trivial⟩)
        · refine HT.cond0 rfl hb4 ?_
          refine HT.skip (qThen ?_)
          refine HT.reg1 [4] [⟨none, .no⟩] ⟨[(4, .one (.dat .bool true))], [(1, .box [.dat (.int .i64) a1.1, .dat (.int .i64) a1.2.1, .dat (.int .i64) a1.2.2.1, .dat (.int .i64) a1.2.2.2]), (0, .box [.dat (.int .i64) a0.1, .dat (.int .i64) a0.2.1, .dat (.int .i64) a0.2.2.1, .dat (.int .i64) a0.2.2.2])], 2⟩ hP hN (by kernel_rfl) allNil ?_
          have hr := of_some hr
          subst hr
          exact HT.ret ⟨[.one (.dat .bool true)], [], [], by kernel_rfl, by kernel_rfl, rfl, by kernel_rfl, by kernel_rfl, trivial⟩

noncomputable def laws_eqArcS_B1 (a0 : List (Int × Int × Int × Int)) (a1 : List (Int × Int × Int × Int)) (s2 : Int) : Option ((Int) ⊕ (Unit ⊕ Unit)) :=
  bif (decide (s2 < (lenI a0))) then
    guardP ((0 : Int) ≤ s2 ∧ s2 < lenI a0) (
      guardP ((0 : Int) ≤ s2 ∧ s2 < lenI a1) (
        (laws_eqArc ((List.getD a0 (Int.toNat s2) ((0 : Int), (0 : Int), (0 : Int), (0 : Int))).1, ((List.getD a0 (Int.toNat s2) ((0 : Int), (0 : Int), (0 : Int), (0 : Int))).2).1, (((List.getD a0 (Int.toNat s2) ((0 : Int), (0 : Int), (0 : Int), (0 : Int))).2).2).1, (((List.getD a0 (Int.toNat s2) ((0 : Int), (0 : Int), (0 : Int), (0 : Int))).2).2).2) ((List.getD a1 (Int.toNat s2) ((0 : Int), (0 : Int), (0 : Int), (0 : Int))).1, ((List.getD a1 (Int.toNat s2) ((0 : Int), (0 : Int), (0 : Int), (0 : Int))).2).1, (((List.getD a1 (Int.toNat s2) ((0 : Int), (0 : Int), (0 : Int), (0 : Int))).2).2).1, (((List.getD a1 (Int.toNat s2) ((0 : Int), (0 : Int), (0 : Int), (0 : Int))).2).2).2)).bind fun y12 =>
        bif (!y12) then
          some (.inr (.inr ()))
        else
          some (.inl (wadd .i64 s2 (1 : Int)))))
  else
    some (.inr (.inl ()))

noncomputable def laws_eqArcS (a0 : List (Int × Int × Int × Int)) (a1 : List (Int × Int × Int × Int)) : Option (Bool) :=
  bif ((lenI a0) != (lenI a1)) then
    some false
  else
    (rounds (laws_eqArcS_B1 a0 a1) (0 : Int)).bind fun r3 => match r3 with
      | .inl r4 =>
        some true
      | .inr r5 =>
        some false

theorem f50_ok {a0 : List (Int × Int × Int × Int)} {a1 : List (Int × Int × Int × Int)} {r : Bool} (hr : laws_eqArcS a0 a1 = some r) : CallOK Try.prog 50 [.imm (.sl (.st (.pair (.int .i64) (.pair (.int .i64) (.pair (.int .i64) (.int .i64)))))) a0, .imm (.sl (.st (.pair (.int .i64) (.pair (.int .i64) (.pair (.int .i64) (.int .i64)))))) a1] [⟨false, .bool, r⟩] [] := by
  unfold laws_eqArcS at hr
  refine CallOK.of_body (ts := [(false, .bool)]) Try.func50 rfl (by kernel_rfl) (Nat.le_of_ble_eq_true (by kernel_rfl)) fun cx hP hN hO hF => ?_
  have hO : cx.own.map Prod.fst = [] := hO
  have hF := hF rfl
  show HT cx ⟨[(0, .one (.dat (.sl (.st (.pair (.int .i64) (.pair (.int .i64) (.pair (.int .i64) (.int .i64)))))) a0)), (1, .one (.dat (.sl (.st (.pair (.int .i64) (.pair (.int .i64) (.pair (.int .i64) (.int .i64)))))) a1))], [], 0⟩ _ _
  refine HT.reg1 [0, 1] [⟨none, .no⟩] ⟨[(0, .one (.dat (.sl (.st (.pair (.int .i64) (.pair (.int .i64) (.pair (.int .i64) (.int .i64)))))) a0)), (1, .one (.dat (.sl (.st (.pair (.int .i64) (.pair (.int .i64) (.pair (.int .i64) (.int .i64)))))) a1))], [], 0⟩ hP hN (by kernel_rfl) allNil ?_
  refine HT.seq ?_
  refine HT.reg1 [0, 1, 10] [⟨none, .no⟩, ⟨none, .no⟩, ⟨none, .no⟩, ⟨none, .no⟩, ⟨none, .no⟩] ⟨[(0, .one (.dat (.sl (.st (.pair (.int .i64) (.pair (.int .i64) (.pair (.int .i64) (.int .i64)))))) a0)), (1, .one (.dat (.sl (.st (.pair (.int .i64) (.pair (.int .i64) (.pair (.int .i64) (.int .i64)))))) a1)), (10, .one (.dat .bool ((lenI a0) != (lenI a1))))], [], 0⟩ hP hN (by kernel_rfl) allNil ?_
  rcases of_bif hr with ⟨hb1, hr⟩ | ⟨hb1, hr⟩
  · refine HT.cond1 rfl hb1 ?_
    refine HT.reg1 [4] [⟨none, .no⟩] ⟨[(4, .one (.dat .bool false))], [], 0⟩ hP hN (by kernel_rfl) allNil ?_
    have hr := of_some hr
    subst hr
    exact HT.ret (qThenR ⟨[.one (.dat .bool false)], [], [], by kernel_rfl, by kernel_rfl, rfl, by kernel_rfl, by kernel_rfl, trivial⟩)
  · refine HT.cond0 rfl hb1 ?_
    refine HT.skip (qThen ?_)
    refine HT.seq ?_
    refine HT.reg1 [0, 1, 5] [⟨none, .no⟩] ⟨[(0, .one (.dat (.sl (.st (.pair (.int .i64) (.pair (.int .i64) (.pair (.int .i64) (.int .i64)))))) a0)), (1, .one (.dat (.sl (.st (.pair (.int .i64) (.pair (.int .i64) (.pair (.int .i64) (.int .i64)))))) a1)), (5, .one (.dat (.int .i64) (0 : Int)))], [], 0⟩ hP hN (by kernel_rfl) allNil ?_
    refine HT.block ?_
    obtain ⟨r3, hL15, hr⟩ := of_bind hr
    refine (Le.cv (s := ⟨[], [], [], false⟩) (own := []) (ps := [a0 = a0, a1 = a1, (0 : Int) = (0 : Int)]) (st' := ⟨[(0, .one (.dat (.sl (.st (.pair (.int .i64) (.pair (.int .i64) (.pair (.int .i64) (.int .i64)))))) a0)), (1, .one (.dat (.sl (.st (.pair (.int .i64) (.pair (.int .i64) (.pair (.int .i64) (.int .i64)))))) a1)), (5, .one (.dat (.int .i64) (0 : Int)))], [], 0⟩) hO (fun h => by cases h) (by kernel_rfl) ⟨rfl, rfl, rfl, trivial⟩).ht ?_
    refine HT.loopE (s := (0 : Int)) (fun (s2 : Int) => ⟨[(0, .one (.dat (.sl (.st (.pair (.int .i64) (.pair (.int .i64) (.pair (.int .i64) (.int .i64)))))) a0)), (1, .one (.dat (.sl (.st (.pair (.int .i64) (.pair (.int .i64) (.pair (.int .i64) (.int .i64)))))) a1)), (5, .one (.dat (.int .i64) s2))], [], 0⟩) (fun (r3 : Unit ⊕ Unit) => match r3 with | .inl r4 => (.exit 0, ⟨[], [], 0⟩) | .inr r5 => (.ret, ⟨[(4, .one (.dat .bool false))], [], 0⟩)) hL15 ?_ (fun s2 x6 hx7 hk8 => ?_)
    · rcases r3 with r4 | r5
      · refine (qBlockX (qThen ?_))
        refine HT.reg1 [4] [⟨none, .no⟩] ⟨[(4, .one (.dat .bool true))], [], 0⟩ hP hN (by kernel_rfl) allNil ?_
        have hr := of_some hr
        subst hr
        exact HT.ret ⟨[.one (.dat .bool true)], [], [], by kernel_rfl, by kernel_rfl, rfl, by kernel_rfl, by kernel_rfl, trivial⟩
      · have hr := of_some hr
        subst hr
        exact (qBlockR (qThenR ⟨[.one (.dat .bool false)], [], [], by kernel_rfl, by kernel_rfl, rfl, by kernel_rfl, by kernel_rfl, trivial⟩))
    · refine HT.seq ?_
      refine HT.reg1 [0, 1, 5, 14] [⟨none, .no⟩, ⟨none, .no⟩, ⟨none, .no⟩, ⟨none, .no⟩] ⟨[(0, .one (.dat (.sl (.st (.pair (.int .i64) (.pair (.int .i64) (.pair (.int .i64) (.int .i64)))))) a0)), (1, .one (.dat (.sl (.st (.pair (.int .i64) (.pair (.int .i64) (.pair (.int .i64) (.int .i64)))))) a1)), (5, .one (.dat (.int .i64) s2)), (14, .one (.dat .bool (decide (s2 < (lenI a0)))))], [], 0⟩ hP hN (by kernel_rfl) allNil ?_
      rcases of_bif hx7 with ⟨hb9, hx7⟩ | ⟨hb9, hx7⟩
      · refine HT.cond1 rfl hb9 ?_
        refine HT.skip (qThen ?_)
        refine HT.seq ?_
        refine HT.block ?_
        obtain ⟨hg10, hx7⟩ := of_guard hx7
        obtain ⟨hg11, hx7⟩ := of_guard hx7
        obtain ⟨y12, hc13, hx7⟩ := of_bind hx7
        refine HT.drw1 [0, 1, 5, 26] 8 [⟨⟨none, .no⟩, []⟩, ⟨⟨none, .no⟩, []⟩, ⟨⟨none, .no⟩, [0, 1]⟩, ⟨⟨none, .no⟩, [0, 1, 2]⟩, ⟨⟨none, .no⟩, []⟩, ⟨⟨none, .no⟩, []⟩, ⟨⟨none, .no⟩, [4, 5]⟩, ⟨⟨none, .no⟩, [4, 5, 6]⟩] [[0, 1, 2, 3, 4, 5, 6, 7], [0, 1, 2, 3, 4, 5, 6, 7, 8]] [⟨none, .call [.imm (.st (.pair (.int .i64) (.pair (.int .i64) (.pair (.int .i64) (.int .i64))))), .imm (.st (.pair (.int .i64) (.pair (.int .i64) (.pair (.int .i64) (.int .i64)))))] [⟨false, .bool, y12⟩] []⟩, ⟨none, .no⟩] ⟨[(0, .one (.dat (.sl (.st (.pair (.int .i64) (.pair (.int .i64) (.pair (.int .i64) (.int .i64)))))) a0)), (1, .one (.dat (.sl (.st (.pair (.int .i64) (.pair (.int .i64) (.pair (.int .i64) (.int .i64)))))) a1)), (5, .one (.dat (.int .i64) s2)), (26, .one (.dat .bool (!y12)))], [], 0⟩ hP hN (by kernel_rfl) (by kernel_rfl) (allCons hg10 (allCons hg11 (allCons (f74_ok hc13) allNil))) ?_
        rcases of_bif hx7 with ⟨hb14, hx7⟩ | ⟨hb14, hx7⟩
        · refine HT.cond1 rfl hb14 ?_
          refine HT.reg1 [4] [⟨none, .no⟩] ⟨[(4, .one (.dat .bool false))], [], 0⟩ hP hN (by kernel_rfl) allNil ?_
          have hx7 := of_some hx7
          subst hx7
          refine (Le.cv (s := ⟨[], [], [], false⟩) (own := []) (ps := [false = false]) (st' := ⟨[(4, .one (.dat .bool false))], [], 0⟩) hO (fun h => by cases h) (by kernel_rfl) ⟨rfl, trivial⟩).ht ?_
          exact HT.ret (qBlockR (qThenR (qLoopR (hk8 (.inr ()) rfl))))
        · refine HT.cond0 rfl hb14 ?_
          refine HT.skip (qBlock (qThen ?_))
          have hx7 := of_some hx7
          subst hx7
          refine HT.reg (rs := [⟨none, .no⟩, ⟨none, .no⟩, ⟨none, .no⟩]) (st' := ⟨[(5, .one (.dat (.int .i64) (wadd .i64 s2 (1 : Int)))), (16, .one (.dat (.int .i64) (wadd .i64 s2 (1 : Int)))), (15, .one (.dat (.int .i64) s2)), (0, .one (.dat (.sl (.st (.pair (.int .i64) (.pair (.int .i64) (.pair (.int .i64) (.int .i64)))))) a0)), (1, .one (.dat (.sl (.st (.pair (.int .i64) (.pair (.int .i64) (.pair (.int .i64) (.int .i64)))))) a1)), (5, .one (.dat (.int .i64) s2)), (26, .one (.dat .bool (!y12)))], [], 0⟩) hP hN (by kernel_rfl) allNil (qLoopN ⟨(wadd .i64 s2 (1 : Int)), rfl, Le.cv (s := ⟨[], [], [], false⟩) (own := []) (ps := [a0 = a0, a1 = a1, (wadd .i64 s2 (1 : Int)) = (wadd .i64 s2 (1 : Int))]) (st' := ⟨[(0, .one (.dat (.sl (.st (.pair (.int .i64) (.pair (.int .i64) (.pair (.int .i64) (.int .i64)))))) a0)), (1, .one (.dat (.sl (.st (.pair (.int .i64) (.pair (.int .i64) (.pair (.int .i64) (.int .i64)))))) a1)), (5, .one (.dat (.int .i64) (wadd .i64 s2 (1 : Int))))], [], 0⟩) hO (fun h => by cases h) (by kernel_rfl) ⟨rfl, rfl, rfl, trivial⟩⟩)
      · refine HT.cond0 rfl hb9 ?_
        have hx7 := of_some hx7
        subst hx7
        refine (Le.cv (s := ⟨[], [], [], false⟩) (own := []) (ps := []) (st' := ⟨[], [], 0⟩) hO (fun h => by cases h) (by kernel_rfl) trivial).ht ?_
        exact HT.exit (qThenE (qLoopE (hk8 (.inl ()) rfl)))

noncomputable def laws_eqInt64S_B1 (a0 : List Int) (a1 : List Int) (s2 : Int) : Option ((Int) ⊕ (Unit ⊕ Unit)) :=
  bif (decide (s2 < (lenI a0))) then
    guardP ((0 : Int) ≤ s2 ∧ s2 < lenI a0) (
      guardP ((0 : Int) ≤ s2 ∧ s2 < lenI a1) (
        bif ((List.getD a0 (Int.toNat s2) (0 : Int)) != (List.getD a1 (Int.toNat s2) (0 : Int))) then
          some (.inr (.inr ()))
        else
          some (.inl (wadd .i64 s2 (1 : Int)))))
  else
    some (.inr (.inl ()))

noncomputable def laws_eqInt64S (a0 : List Int) (a1 : List Int) : Option (Bool) :=
  bif ((lenI a0) != (lenI a1)) then
    some false
  else
    (rounds (laws_eqInt64S_B1 a0 a1) (0 : Int)).bind fun r3 => match r3 with
      | .inl r4 =>
        some true
      | .inr r5 =>
        some false

theorem f20_ok {a0 : List Int} {a1 : List Int} {r : Bool} (hr : laws_eqInt64S a0 a1 = some r) : CallOK Try.prog 20 [.imm (.sl (.int .i64)) a0, .imm (.sl (.int .i64)) a1] [⟨false, .bool, r⟩] [] := by
  unfold laws_eqInt64S at hr
  refine CallOK.of_body (ts := [(false, .bool)]) Try.func20 rfl (by kernel_rfl) (Nat.le_of_ble_eq_true (by kernel_rfl)) fun cx hP hN hO hF => ?_
  have hO : cx.own.map Prod.fst = [] := hO
  have hF := hF rfl
  show HT cx ⟨[(0, .one (.dat (.sl (.int .i64)) a0)), (1, .one (.dat (.sl (.int .i64)) a1))], [], 0⟩ _ _
  refine HT.reg1 [0, 1] [⟨none, .no⟩] ⟨[(0, .one (.dat (.sl (.int .i64)) a0)), (1, .one (.dat (.sl (.int .i64)) a1))], [], 0⟩ hP hN (by kernel_rfl) allNil ?_
  refine HT.seq ?_
  refine HT.reg1 [0, 1, 10] [⟨none, .no⟩, ⟨none, .no⟩, ⟨none, .no⟩, ⟨none, .no⟩, ⟨none, .no⟩] ⟨[(0, .one (.dat (.sl (.int .i64)) a0)), (1, .one (.dat (.sl (.int .i64)) a1)), (10, .one (.dat .bool ((lenI a0) != (lenI a1))))], [], 0⟩ hP hN (by kernel_rfl) allNil ?_
  rcases of_bif hr with ⟨hb1, hr⟩ | ⟨hb1, hr⟩
  · refine HT.cond1 rfl hb1 ?_
    refine HT.reg1 [4] [⟨none, .no⟩] ⟨[(4, .one (.dat .bool false))], [], 0⟩ hP hN (by kernel_rfl) allNil ?_
    have hr := of_some hr
    subst hr
    exact HT.ret (qThenR ⟨[.one (.dat .bool false)], [], [], by kernel_rfl, by kernel_rfl, rfl, by kernel_rfl, by kernel_rfl, trivial⟩)
  · refine HT.cond0 rfl hb1 ?_
    refine HT.skip (qThen ?_)
    refine HT.seq ?_
    refine HT.reg1 [0, 1, 5] [⟨none, .no⟩] ⟨[(0, .one (.dat (.sl (.int .i64)) a0)), (1, .one (.dat (.sl (.int .i64)) a1)), (5, .one (.dat (.int .i64) (0 : Int)))], [], 0⟩ hP hN (by kernel_rfl) allNil ?_
    refine HT.block ?_
    obtain ⟨r3, hL13, hr⟩ := of_bind hr
    refine (Le.cv (s := ⟨[], [], [], false⟩) (own := []) (ps := [a0 = a0, a1 = a1, (0 : Int) = (0 : Int)]) (st' := ⟨[(0, .one (.dat (.sl (.int .i64)) a0)), (1, .one (.dat (.sl (.int .i64)) a1)), (5, .one (.dat (.int .i64) (0 : Int)))], [], 0⟩) hO (fun h => by cases h) (by kernel_rfl) ⟨rfl, rfl, rfl, trivial⟩).ht ?_
    refine HT.loopE (s := (0 : Int)) (fun (s2 : Int) => ⟨[(0, .one (.dat (.sl (.int .i64)) a0)), (1, .one (.dat (.sl (.int .i64)) a1)), (5, .one (.dat (.int .i64) s2))], [], 0⟩) (fun (r3 : Unit ⊕ Unit) => match r3 with | .inl r4 => (.exit 0, ⟨[], [], 0⟩) | .inr r5 => (.ret, ⟨[(4, .one (.dat .bool false))], [], 0⟩)) hL13 ?_ (fun s2 x6 hx7 hk8 => ?_)
    · rcases r3 with r4 | r5
      · refine (qBlockX (qThen ?_))
        refine HT.reg1 [4] [⟨none, .no⟩] ⟨[(4, .one (.dat .bool true))], [], 0⟩ hP hN (by kernel_rfl) allNil ?_
        have hr := of_some hr
        subst hr
        exact HT.ret ⟨[.one (.dat .bool true)], [], [], by kernel_rfl, by kernel_rfl, rfl, by kernel_rfl, by kernel_rfl, trivial⟩
      · have hr := of_some hr
        subst hr
        exact (qBlockR (qThenR ⟨[.one (.dat .bool false)], [], [], by kernel_rfl, by kernel_rfl, rfl, by kernel_rfl, by kernel_rfl, trivial⟩))
    · refine HT.seq ?_
      refine HT.reg1 [0, 1, 5, 14] [⟨none, .no⟩, ⟨none, .no⟩, ⟨none, .no⟩, ⟨none, .no⟩] ⟨[(0, .one (.dat (.sl (.int .i64)) a0)), (1, .one (.dat (.sl (.int .i64)) a1)), (5, .one (.dat (.int .i64) s2)), (14, .one (.dat .bool (decide (s2 < (lenI a0)))))], [], 0⟩ hP hN (by kernel_rfl) allNil ?_
      rcases of_bif hx7 with ⟨hb9, hx7⟩ | ⟨hb9, hx7⟩
      · refine HT.cond1 rfl hb9 ?_
        refine HT.skip (qThen ?_)
        refine HT.seq ?_
        refine HT.block ?_
        obtain ⟨hg10, hx7⟩ := of_guard hx7
        obtain ⟨hg11, hx7⟩ := of_guard hx7
        refine HT.drw1 [0, 1, 5, 25] 8 [⟨⟨none, .no⟩, []⟩, ⟨⟨none, .no⟩, []⟩, ⟨⟨none, .no⟩, [0, 1]⟩, ⟨⟨none, .no⟩, [0, 1, 2]⟩, ⟨⟨none, .no⟩, []⟩, ⟨⟨none, .no⟩, []⟩, ⟨⟨none, .no⟩, [4, 5]⟩, ⟨⟨none, .no⟩, [4, 5, 6]⟩] [[0, 1, 2, 3, 4, 5, 6, 7]] [⟨none, .no⟩] ⟨[(0, .one (.dat (.sl (.int .i64)) a0)), (1, .one (.dat (.sl (.int .i64)) a1)), (5, .one (.dat (.int .i64) s2)), (25, .one (.dat .bool ((List.getD a0 (Int.toNat s2) (0 : Int)) != (List.getD a1 (Int.toNat s2) (0 : Int)))))], [], 0⟩ hP hN (by kernel_rfl) (by kernel_rfl) (allCons hg10 (allCons hg11 allNil)) ?_
        rcases of_bif hx7 with ⟨hb12, hx7⟩ | ⟨hb12, hx7⟩
        · refine HT.cond1 rfl hb12 ?_
          refine HT.reg1 [4] [⟨none, .no⟩] ⟨[(4, .one (.dat .bool false))], [], 0⟩ hP hN (by kernel_rfl) allNil ?_
          have hx7 := of_some hx7
          subst hx7
          refine (Le.cv (s := ⟨[], [], [], false⟩) (own := []) (ps := [false = false]) (st' := ⟨[(4, .one (.dat .bool false))], [], 0⟩) hO (fun h => by cases h) (by kernel_rfl) ⟨rfl, trivial⟩).ht ?_
          exact HT.ret (qBlockR (qThenR (qLoopR (hk8 (.inr ()) rfl))))
        · refine HT.cond0 rfl hb12 ?_
          refine HT.skip (qBlock (qThen ?_))
          have hx7 := of_some hx7
          subst hx7
          refine HT.reg (rs := [⟨none, .no⟩, ⟨none, .no⟩, ⟨none, .no⟩]) (st' := ⟨[(5, .one (.dat (.int .i64) (wadd .i64 s2 (1 : Int)))), (16, .one (.dat (.int .i64) (wadd .i64 s2 (1 : Int)))), (15, .one (.dat (.int .i64) s2)), (0, .one (.dat (.sl (.int .i64)) a0)), (1, .one (.dat (.sl (.int .i64)) a1)), (5, .one (.dat (.int .i64) s2)), (25, .one (.dat .bool ((List.getD a0 (Int.toNat s2) (0 : Int)) != (List.getD a1 (Int.toNat s2) (0 : Int)))))], [], 0⟩) hP hN (by kernel_rfl) allNil (qLoopN ⟨(wadd .i64 s2 (1 : Int)), rfl, Le.cv (s := ⟨[], [], [], false⟩) (own := []) (ps := [a0 = a0, a1 = a1, (wadd .i64 s2 (1 : Int)) = (wadd .i64 s2 (1 : Int))]) (st' := ⟨[(0, .one (.dat (.sl (.int .i64)) a0)), (1, .one (.dat (.sl (.int .i64)) a1)), (5, .one (.dat (.int .i64) (wadd .i64 s2 (1 : Int))))], [], 0⟩) hO (fun h => by cases h) (by kernel_rfl) ⟨rfl, rfl, rfl, trivial⟩⟩)
      · refine HT.cond0 rfl hb9 ?_
        have hx7 := of_some hx7
        subst hx7
        refine (Le.cv (s := ⟨[], [], [], false⟩) (own := []) (ps := []) (st' := ⟨[], [], 0⟩) hO (fun h => by cases h) (by kernel_rfl) trivial).ht ?_
        exact HT.exit (qThenE (qLoopE (hk8 (.inl ()) rfl)))

noncomputable def laws_eqMachine (a0 : Int × Int × List (Int × Int × Int × Int) × List Int × List Int) (a1 : Int × Int × List (Int × Int × Int × Int) × List Int × List Int) : Option (Bool) :=
  bif (a0.1 != a1.1) then
    some false
  else
    bif (a0.2.1 != a1.2.1) then
      some false
    else
      (laws_eqArcS a0.2.2.1 a1.2.2.1).bind fun y3 =>
      bif (!y3) then
        some false
      else
        (laws_eqInt64S a0.2.2.2.1 a1.2.2.2.1).bind fun y6 =>
        bif (!y6) then
          some false
        else
          (laws_eqInt64S a0.2.2.2.2 a1.2.2.2.2).bind fun y9 =>
          bif (!y9) then
            some false
          else
            some true

theorem f17_ok {a0 : Int × Int × List (Int × Int × Int × Int) × List Int × List Int} {a1 : Int × Int × List (Int × Int × Int × Int) × List Int × List Int} {r : Bool} (hr : laws_eqMachine a0 a1 = some r) : CallOK Try.prog 17 [.imm (.st (.pair (.int .i64) (.pair (.int .i64) (.pair (.sl (.st (.pair (.int .i64) (.pair (.int .i64) (.pair (.int .i64) (.int .i64)))))) (.pair (.sl (.int .i64)) (.sl (.int .i64))))))) a0, .imm (.st (.pair (.int .i64) (.pair (.int .i64) (.pair (.sl (.st (.pair (.int .i64) (.pair (.int .i64) (.pair (.int .i64) (.int .i64)))))) (.pair (.sl (.int .i64)) (.sl (.int .i64))))))) a1] [⟨false, .bool, r⟩] [] := by
  unfold laws_eqMachine at hr
  refine CallOK.of_body (ts := [(false, .bool)]) Try.func17 rfl (by kernel_rfl) (Nat.le_of_ble_eq_true (by kernel_rfl)) fun cx hP hN hO hF => ?_
  have hO : cx.own.map Prod.fst = [] := hO
  have hF := hF rfl
  show HT cx ⟨[(0, .agg [.dat (.int .i64) a0.1, .dat (.int .i64) a0.2.1, .dat (.sl (.st (.pair (.int .i64) (.pair (.int .i64) (.pair (.int .i64) (.int .i64)))))) a0.2.2.1, .dat (.sl (.int .i64)) a0.2.2.2.1, .dat (.sl (.int .i64)) a0.2.2.2.2]), (1, .agg [.dat (.int .i64) a1.1, .dat (.int .i64) a1.2.1, .dat (.sl (.st (.pair (.int .i64) (.pair (.int .i64) (.pair (.int .i64) (.int .i64)))))) a1.2.2.1, .dat (.sl (.int .i64)) a1.2.2.2.1, .dat (.sl (.int .i64)) a1.2.2.2.2])], [], 0⟩ _ _
  refine HT.reg1 [2, 3] [⟨none, .no⟩, ⟨none, .no⟩, ⟨none, .no⟩] ⟨[(2, .one (.ptr 0 0)), (3, .one (.ptr 1 0))], [(1, .box [.dat (.int .i64) a1.1, .dat (.int .i64) a1.2.1, .dat (.sl (.st (.pair (.int .i64) (.pair (.int .i64) (.pair (.int .i64) (.int .i64)))))) a1.2.2.1, .dat (.sl (.int .i64)) a1.2.2.2.1, .dat (.sl (.int .i64)) a1.2.2.2.2]), (0, .box [.dat (.int .i64) a0.1, .dat (.int .i64) a0.2.1, .dat (.sl (.st (.pair (.int .i64) (.pair (.int .i64) (.pair (.int .i64) (.int .i64)))))) a0.2.2.1, .dat (.sl (.int .i64)) a0.2.2.2.1, .dat (.sl (.int .i64)) a0.2.2.2.2])], 2⟩ hP hN (by kernel_rfl) allNil ?_
  refine HT.seq ?_
  refine HT.reg1 [2, 3, 9] [⟨none, .no⟩, ⟨none, .no⟩, ⟨none, .no⟩, ⟨none, .no⟩, ⟨none, .no⟩] ⟨[(2, .one (.ptr 0 0)), (3, .one (.ptr 1 0)), (9, .one (.dat .bool (a0.1 != a1.1)))], [(1, .box [.dat (.int .i64) a1.1, .dat (.int .i64) a1.2.1, .dat (.sl (.st (.pair (.int .i64) (.pair (.int .i64) (.pair (.int .i64) (.int .i64)))))) a1.2.2.1, .dat (.sl (.int .i64)) a1.2.2.2.1, .dat (.sl (.int .i64)) a1.2.2.2.2]), (0, .box [.dat (.int .i64) a0.1, .dat (.int .i64) a0.2.1, .dat (.sl (.st (.pair (.int .i64) (.pair (.int .i64) (.pair (.int .i64) (.int .i64)))))) a0.2.2.1, .dat (.sl (.int .i64)) a0.2.2.2.1, .dat (.sl (.int .i64)) a0.2.2.2.2])], 2⟩ hP hN (by kernel_rfl) allNil ?_
  rcases of_bif hr with ⟨hb1, hr⟩ | ⟨hb1, hr⟩
  · refine HT.cond1 rfl hb1 ?_
    refine HT.reg1 [4] [⟨none, .no⟩] ⟨[(4, .one (.dat .bool false))], [(1, .box [.dat (.int .i64) a1.1, .dat (.int .i64) a1.2.1, .dat (.sl (.st (.pair (.int .i64) (.pair (.int .i64) (.pair (.int .i64) (.int .i64)))))) a1.2.2.1, .dat (.sl (.int .i64)) a1.2.2.2.1, .dat (.sl (.int .i64)) a1.2.2.2.2]), (0, .box [.dat (.int .i64) a0.1, .dat (.int .i64) a0.2.1, .dat (.sl (.st (.pair (.int .i64) (.pair (.int .i64) (.pair (.int .i64) (.int .i64)))))) a0.2.2.1, .dat (.sl (.int .i64)) a0.2.2.2.1, .dat (.sl (.int .i64)) a0.2.2.2.2])], 2⟩ hP hN (by kernel_rfl) allNil ?_
    have hr := of_some hr
    subst hr
    exact HT.ret (qThenR ⟨[.one (.dat .bool false)], [], [], by kernel_rfl, by kernel_rfl, rfl, by kernel_rfl, by kernel_rfl, trivial⟩)
  · refine HT.cond0 rfl hb1 ?_
    refine HT.skip (qThen ?_)
    refine HT.seq ?_
    refine HT.reg1 [2, 3, 14] [⟨none, .no⟩, ⟨none, .no⟩, ⟨none, .no⟩, ⟨none, .no⟩, ⟨none, .no⟩] ⟨[(2, .one (.ptr 0 0)), (3, .one (.ptr 1 0)), (14, .one (.dat .bool (a0.2.1 != a1.2.1)))], [(1, .box [.dat (.int .i64) a1.1, .dat (.int .i64) a1.2.1, .dat (.sl (.st (.pair (.int .i64) (.pair (.int .i64) (.pair (.int .i64) (.int .i64)))))) a1.2.2.1, .dat (.sl (.int .i64)) a1.2.2.2.1, .dat (.sl (.int .i64)) a1.2.2.2.2]), (0, .box [.dat (.int .i64) a0.1, .dat (.int .i64) a0.2.1, .dat (.sl (.st (.pair (.int .i64) (.pair (.int .i64) (.pair (.int .i64) (.int .i64)))))) a0.2.2.1, .dat (.sl (.int .i64)) a0.2.2.2.1, .dat (.sl (.int .i64)) a0.2.2.2.2])], 2⟩ hP hN (by kernel_rfl) allNil ?_
    rcases of_bif hr with ⟨hb2, hr⟩ | ⟨hb2, hr⟩
    · refine HT.cond1 rfl hb2 ?_
      refine HT.reg1 [4] [⟨none, .no⟩] ⟨[(4, .one (.dat .bool false))], [(1, .box [.dat (.int .i64) a1.1, .dat (.int .i64) a1.2.1, .dat (.sl (.st (.pair (.int .i64) (.pair (.int .i64) (.pair (.int .i64) (.int .i64)))))) a1.2.2.1, .dat (.sl (.int .i64)) a1.2.2.2.1, .dat (.sl (.int .i64)) a1.2.2.2.2]), (0, .box [.dat (.int .i64) a0.1, .dat (.int .i64) a0.2.1, .dat (.sl (.st (.pair (.int .i64) (.pair (.int .i64) (.pair (.int .i64) (.int .i64)))))) a0.2.2.1, .dat (.sl (.int .i64)) a0.2.2.2.1, .dat (.sl (.int .i64)) a0.2.2.2.2])], 2⟩ hP hN (by kernel_rfl) allNil ?_
      have hr := of_some hr
      subst hr
      exact HT.ret (qThenR ⟨[.one (.dat .bool false)], [], [], by kernel_rfl, by kernel_rfl, rfl, by kernel_rfl, by kernel_rfl, trivial⟩)
    · refine HT.cond0 rfl hb2 ?_
      refine HT.skip (qThen ?_)
      refine HT.seq ?_
      obtain ⟨y3, hc4, hr⟩ := of_bind hr
      refine HT.reg1 [2, 3, 20] [⟨none, .no⟩, ⟨none, .no⟩, ⟨none, .no⟩, ⟨none, .no⟩, ⟨none, .call [.imm (.sl (.st (.pair (.int .i64) (.pair (.int .i64) (.pair (.int .i64) (.int .i64)))))), .imm (.sl (.st (.pair (.int .i64) (.pair (.int .i64) (.pair (.int .i64) (.int .i64))))))] [⟨false, .bool, y3⟩] []⟩, ⟨none, .no⟩] ⟨[(2, .one (.ptr 0 0)), (3, .one (.ptr 1 0)), (20, .one (.dat .bool (!y3)))], [(1, .box [.dat (.int .i64) a1.1, .dat (.int .i64) a1.2.1, .dat (.sl (.st (.pair (.int .i64) (.pair (.int .i64) (.pair (.int .i64) (.int .i64)))))) a1.2.2.1, .dat (.sl (.int .i64)) a1.2.2.2.1, .dat (.sl (.int .i64)) a1.2.2.2.2]), (0, .box [.dat (.int .i64) a0.1, .dat (.int .i64) a0.2.1, .dat (.sl (.st (.pair (.int .i64) (.pair (.int .i64) (.pair (.int .i64) (.int .i64)))))) a0.2.2.1, .dat (.sl (.int .i64)) a0.2.2.2.1, .dat (.sl (.int .i64)) a0.2.2.2.2])], 2⟩ hP hN (by kernel_rfl) (allCons (f50_ok hc4) allNil) ?_
      rcases of_bif hr with ⟨hb5, hr⟩ | ⟨hb5, hr⟩
      · refine HT.cond1 rfl hb5 ?_
        refine HT.reg1 [4] [⟨none, .no⟩] ⟨[(4, .one (.dat .bool false))], [(1, .box [.dat (.int .i64) a1.1, .dat (.int .i64) a1.2.1, .dat (.sl (.st (.pair (.int .i64) (.pair (.int .i64) (.pair (.int .i64) (.int .i64)))))) a1.2.2.1, .dat (.sl (.int .i64)) a1.2.2.2.1, .dat (.sl (.int .i64)) a1.2.2.2.2]), (0, .box [.dat (.int .i64) a0.1, .dat (.int .i64) a0.2.1, .dat (.sl (.st (.pair (.int .i64) (.pair (.int .i64) (.pair (.int .i64) (.int .i64)))))) a0.2.2.1, .dat (.sl (.int .i64)) a0.2.2.2.1, .dat (.sl (.int .i64)) a0.2.2.2.2])], 2⟩ hP hN (by kernel_rfl) allNil ?_
        have hr := of_some hr
        subst hr
        exact HT.ret (qThenR ⟨[.one (.dat .bool false)], [], [], by kernel_rfl, by kernel_rfl, rfl, by kernel_rfl, by kernel_rfl, trivial⟩)
      · refine HT.cond0 rfl hb5 ?_
        refine HT.skip (qThen ?_)
        refine HT.seq ?_
        obtain ⟨y6, hc7, hr⟩ := of_bind hr
        refine HT.reg1 [2, 3, 26] [⟨none, .no⟩, ⟨none, .no⟩, ⟨none, .no⟩, ⟨none, .no⟩, ⟨none, .call [.imm (.sl (.int .i64)), .imm (.sl (.int .i64))] [⟨false, .bool, y6⟩] []⟩, ⟨none, .no⟩] ⟨[(2, .one (.ptr 0 0)), (3, .one (.ptr 1 0)), (26, .one (.dat .bool (!y6)))], [(1, .box [.dat (.int .i64) a1.1, .dat (.int .i64) a1.2.1, .dat (.sl (.st (.pair (.int .i64) (.pair (.int .i64) (.pair (.int .i64) (.int .i64)))))) a1.2.2.1, .dat (.sl (.int .i64)) a1.2.2.2.1, .dat (.sl (.int .i64)) a1.2.2.2.2]), (0, .box [.dat (.int .i64) a0.1, .dat (.int .i64) a0.2.1, .dat (.sl (.st (.pair (.int .i64) (.pair (.int .i64) (.pair (.int .i64) (.int .i64)))))) a0.2.2.1, .dat (.sl (.int .i64)) a0.2.2.2.1, .dat (.sl (.int .i64)) a0.2.2.2.2])], 2⟩ hP hN (by kernel_rfl) (allCons (f20_ok hc7) allNil) ?_
        rcases of_bif hr with ⟨hb8, hr⟩ | ⟨hb8, hr⟩
        · refine HT.cond1 rfl hb8 ?_
          refine HT.reg1 [4] [⟨none, .no⟩] ⟨[(4, .one (.dat .bool false))], [(1, .box [.dat (.int .i64) a1.1, .dat (.int .i64) a1.2.1, .dat (.sl (.st (.pair (.int .i64) (.pair (.int .i64) (.pair (.int .i64) (.int .i64)))))) a1.2.2.1, .dat (.sl (.int .i64)) a1.2.2.2.1, .dat (.sl (.int .i64)) a1.2.2.2.2]), (0, .box [.dat (.int .i64) a0.1, .dat (.int .i64) a0.2.1, .dat (.sl (.st (.pair (.int .i64) (.pair (.int .i64) (.pair (.int .i64) (.int .i64)))))) a0.2.2.1, .dat (.sl (.int .i64)) a0.2.2.2.1, .dat (.sl (.int .i64)) a0.2.2.2.2])], 2⟩ hP hN (by kernel_rfl) allNil ?_
          have hr := of_some hr
          subst hr
          exact HT.ret (qThenR ⟨[.one (.dat .bool false)], [], [], by kernel_rfl, by kernel_rfl, rfl, by kernel_rfl, by kernel_rfl, trivial⟩)
        · refine HT.cond0 rfl hb8 ?_
          refine HT.skip (qThen ?_)
          refine HT.seq ?_
          obtain ⟨y9, hc10, hr⟩ := of_bind hr
          refine HT.reg1 [32] [⟨none, .no⟩, ⟨none, .no⟩, ⟨none, .no⟩, ⟨none, .no⟩, ⟨none, .call [.imm (.sl (.int .i64)), .imm (.sl (.int .i64))] [⟨false, .bool, y9⟩] []⟩, ⟨none, .no⟩] ⟨[(32, .one (.dat .bool (!y9)))], [(1, .box [.dat (.int .i64) a1.1, .dat (.int .i64) a1.2.1, .dat (.sl (.st (.pair (.int .i64) (.pair (.int .i64) (.pair (.int .i64) (.int .i64)))))) a1.2.2.1, .dat (.sl (.int .i64)) a1.2.2.2.1, .dat (.sl (.int .i64)) a1.2.2.2.2]), (0, .box [.dat (.int .i64) a0.1, .dat (.int .i64) a0.2.1, .dat (.sl (.st (.pair (.int .i64) (.pair (.int .i64) (.pair (.int .i64) (.int .i64)))))) a0.2.2.1, .dat (.sl (.int .i64)) a0.2.2.2.1, .dat (.sl (.int .i64)) a0.2.2.2.2])], 2⟩ hP hN (by kernel_rfl) (allCons (f20_ok hc10) allNil) ?_
          rcases of_bif hr with ⟨hb11, hr⟩ | ⟨hb11, hr⟩
          · refine HT.cond1 rfl hb11 ?_
            refine HT.reg1 [4] [⟨none, .no⟩] ⟨[(4, .one (.dat .bool false))], [(1, .box [.dat (.int .i64) a1.1, .dat (.int .i64) a1.2.1, .dat (.sl (.st (.pair (.int .i64) (.pair (.int .i64) (.pair (.int .i64) (.int .i64)))))) a1.2.2.1, .dat (.sl (.int .i64)) a1.2.2.2.1, .dat (.sl (.int .i64)) a1.2.2.2.2]), (0, .box [.dat (.int .i64) a0.1, .dat (.int .i64) a0.2.1, .dat (.sl (.st (.pair (.int .i64) (.pair (.int .i64) (.pair (.int .i64) (.int .i64)))))) a0.2.2.1, .dat (.sl (.int .i64)) a0.2.2.2.1, .dat (.sl (.int .i64)) a0.2.2.2.2])], 2⟩ hP hN (by kernel_rfl) allNil ?_
            have hr := of_some hr
            subst hr
            exact HT.ret (qThenR ⟨[.one (.dat .bool false)], [], [], by kernel_rfl, by kernel_rfl, rfl, by kernel_rfl, by kernel_rfl, trivial⟩)
          · refine HT.cond0 rfl hb11 ?_
            refine HT.skip (qThen ?_)
            refine HT.reg1 [4] [⟨none, .no⟩] ⟨[(4, .one (.dat .bool true))], [(1, .box [.dat (.int .i64) a1.1, .dat (.int .i64) a1.2.1, .dat (.sl (.st (.pair (.int .i64) (.pair (.int .i64) (.pair (.int .i64) (.int .i64)))))) a1.2.2.1, .dat (.sl (.int .i64)) a1.2.2.2.1, .dat (.sl (.int .i64)) a1.2.2.2.2]), (0, .box [.dat (.int .i64) a0.1, .dat (.int .i64) a0.2.1, .dat (.sl (.st (.pair (.int .i64) (.pair (.int .i64) (.pair (.int .i64) (.int .i64)))))) a0.2.2.1, .dat (.sl (.int .i64)) a0.2.2.2.1, .dat (.sl (.int .i64)) a0.2.2.2.2])], 2⟩ hP hN (by kernel_rfl) allNil ?_
            have hr := of_some hr
            subst hr
            exact HT.ret ⟨[.one (.dat .bool true)], [], [], by kernel_rfl, by kernel_rfl, rfl, by kernel_rfl, by kernel_rfl, trivial⟩

noncomputable def laws_eqBoolS_B1 (a0 : List Bool) (a1 : List Bool) (s2 : Int) : Option ((Int) ⊕ (Unit ⊕ Unit)) :=
  bif (decide (s2 < (lenI a0))) then
    guardP ((0 : Int) ≤ s2 ∧ s2 < lenI a0) (
      guardP ((0 : Int) ≤ s2 ∧ s2 < lenI a1) (
        bif ((List.getD a0 (Int.toNat s2) false) != (List.getD a1 (Int.toNat s2) false)) then
          some (.inr (.inr ()))
        else
          some (.inl (wadd .i64 s2 (1 : Int)))))
  else
    some (.inr (.inl ()))

noncomputable def laws_eqBoolS (a0 : List Bool) (a1 : List Bool) : Option (Bool) :=
  bif ((lenI a0) != (lenI a1)) then
    some false
  else
    (rounds (laws_eqBoolS_B1 a0 a1) (0 : Int)).bind fun r3 => match r3 with
      | .inl r4 =>
        some true
      | .inr r5 =>
        some false

theorem f51_ok {a0 : List Bool} {a1 : List Bool} {r : Bool} (hr : laws_eqBoolS a0 a1 = some r) : CallOK Try.prog 51 [.imm (.sl .bool) a0, .imm (.sl .bool) a1] [⟨false, .bool, r⟩] [] := by
  unfold laws_eqBoolS at hr
  refine CallOK.of_body (ts := [(false, .bool)]) Try.func51 rfl (by kernel_rfl) (Nat.le_of_ble_eq_true (by kernel_rfl)) fun cx hP hN hO hF => ?_
  have hO : cx.own.map Prod.fst = [] := hO
  have hF := hF rfl
  show HT cx ⟨[(0, .one (.dat (.sl .bool) a0)), (1, .one (.dat (.sl .bool) a1))], [], 0⟩ _ _
  refine HT.reg1 [0, 1] [⟨none, .no⟩] ⟨[(0, .one (.dat (.sl .bool) a0)), (1, .one (.dat (.sl .bool) a1))], [], 0⟩ hP hN (by kernel_rfl) allNil ?_
  refine HT.seq ?_
  refine HT.reg1 [0, 1, 10] [⟨none, .no⟩, ⟨none, .no⟩, ⟨none, .no⟩, ⟨none, .no⟩, ⟨none, .no⟩] ⟨[(0, .one (.dat (.sl .bool) a0)), (1, .one (.dat (.sl .bool) a1)), (10, .one (.dat .bool ((lenI a0) != (lenI a1))))], [], 0⟩ hP hN (by kernel_rfl) allNil ?_
  rcases of_bif hr with ⟨hb1, hr⟩ | ⟨hb1, hr⟩
  · refine HT.cond1 rfl hb1 ?_
    refine HT.reg1 [4] [⟨none, .no⟩] ⟨[(4, .one (.dat .bool false))], [], 0⟩ hP hN (by kernel_rfl) allNil ?_
    have hr := of_some hr
    subst hr
    exact HT.ret (qThenR ⟨[.one (.dat .bool false)], [], [], by kernel_rfl, by kernel_rfl, rfl, by kernel_rfl, by kernel_rfl, trivial⟩)
  · refine HT.cond0 rfl hb1 ?_
    refine HT.skip (qThen ?_)
    refine HT.seq ?_
    refine HT.reg1 [0, 1, 5] [⟨none, .no⟩] ⟨[(0, .one (.dat (.sl .bool) a0)), (1, .one (.dat (.sl .bool) a1)), (5, .one (.dat (.int .i64) (0 : Int)))], [], 0⟩ hP hN (by kernel_rfl) allNil ?_
    refine HT.block ?_
    obtain ⟨r3, hL13, hr⟩ := of_bind hr
    refine (Le.cv (s := ⟨[], [], [], false⟩) (own := []) (ps := [a0 = a0, a1 = a1, (0 : Int) = (0 : Int)]) (st' := ⟨[(0, .one (.dat (.sl .bool) a0)), (1, .one (.dat (.sl .bool) a1)), (5, .one (.dat (.int .i64) (0 : Int)))], [], 0⟩) hO (fun h => by cases h) (by kernel_rfl) ⟨rfl, rfl, rfl, trivial⟩).ht ?_
    refine HT.loopE (s := (0 : Int)) (fun (s2 : Int) => ⟨[(0, .one (.dat (.sl .bool) a0)), (1, .one (.dat (.sl .bool) a1)), (5, .one (.dat (.int .i64) s2))], [], 0⟩) (fun (r3 : Unit ⊕ Unit) => match r3 with | .inl r4 => (.exit 0, ⟨[], [], 0⟩) | .inr r5 => (.ret, ⟨[(4, .one (.dat .bool false))], [], 0⟩)) hL13 ?_ (fun s2 x6 hx7 hk8 => ?_)
    · rcases r3 with r4 | r5
      · refine (qBlockX (qThen ?_))
        refine HT.reg1 [4] [⟨none, .no⟩] ⟨[(4, .one (.dat .bool true))], [], 0⟩ hP hN (by kernel_rfl) allNil ?_
        have hr := of_some hr
        subst hr
        exact HT.ret ⟨[.one (.dat .bool true)], [], [], by kernel_rfl, by kernel_rfl, rfl, by kernel_rfl, by kernel_rfl, trivial⟩
      · have hr := of_some hr
        subst hr
        exact (qBlockR (qThenR ⟨[.one (.dat .bool false)], [], [], by kernel_rfl, by kernel_rfl, rfl, by kernel_rfl, by kernel_rfl, trivial⟩))
    · refine HT.seq ?_
      refine HT.reg1 [0, 1, 5, 14] [⟨none, .no⟩, ⟨none, .no⟩, ⟨none, .no⟩, ⟨none, .no⟩] ⟨[(0, .one (.dat (.sl .bool) a0)), (1, .one (.dat (.sl .bool) a1)), (5, .one (.dat (.int .i64) s2)), (14, .one (.dat .bool (decide (s2 < (lenI a0)))))], [], 0⟩ hP hN (by kernel_rfl) allNil ?_
      rcases of_bif hx7 with ⟨hb9, hx7⟩ | ⟨hb9, hx7⟩
      · refine HT.cond1 rfl hb9 ?_
        refine HT.skip (qThen ?_)
        refine HT.seq ?_
        refine HT.block ?_
        obtain ⟨hg10, hx7⟩ := of_guard hx7
        obtain ⟨hg11, hx7⟩ := of_guard hx7
        refine HT.drw1 [0, 1, 5, 25] 8 [⟨⟨none, .no⟩, []⟩, ⟨⟨none, .no⟩, []⟩, ⟨⟨none, .no⟩, [0, 1]⟩, ⟨⟨none, .no⟩, [0, 1, 2]⟩, ⟨⟨none, .no⟩, []⟩, ⟨⟨none, .no⟩, []⟩, ⟨⟨none, .no⟩, [4, 5]⟩, ⟨⟨none, .no⟩, [4, 5, 6]⟩] [[0, 1, 2, 3, 4, 5, 6, 7]] [⟨none, .no⟩] ⟨[(0, .one (.dat (.sl .bool) a0)), (1, .one (.dat (.sl .bool) a1)), (5, .one (.dat (.int .i64) s2)), (25, .one (.dat .bool ((List.getD a0 (Int.toNat s2) false) != (List.getD a1 (Int.toNat s2) false))))], [], 0⟩ hP hN (by kernel_rfl) (by kernel_rfl) (allCons hg10 (allCons hg11 allNil)) ?_
        rcases of_bif hx7 with ⟨hb12, hx7⟩ | ⟨hb12, hx7⟩
        · refine HT.cond1 rfl hb12 ?_
          refine HT.reg1 [4] [⟨none, .no⟩] ⟨[(4, .one (.dat .bool false))], [], 0⟩ hP hN (by kernel_rfl) allNil ?_
          have hx7 := of_some hx7
          subst hx7
          refine (Le.cv (s := ⟨[], [], [], false⟩) (own := []) (ps := [false = false]) (st' := ⟨[(4, .one (.dat .bool false))], [], 0⟩) hO (fun h => by cases h) (by kernel_rfl) ⟨rfl, trivial⟩).ht ?_
          exact HT.ret (qBlockR (qThenR (qLoopR (hk8 (.inr ()) rfl))))
        · refine HT.cond0 rfl hb12 ?_
          refine HT.skip (qBlock (qThen ?_))
          have hx7 := of_some hx7
          subst hx7
          refine HT.reg (rs := [⟨none, .no⟩, ⟨none, .no⟩, ⟨none, .no⟩]) (st' := ⟨[(5, .one (.dat (.int .i64) (wadd .i64 s2 (1 : Int)))), (16, .one (.dat (.int .i64) (wadd .i64 s2 (1 : Int)))), (15, .one (.dat (.int .i64) s2)), (0, .one (.dat (.sl .bool) a0)), (1, .one (.dat (.sl .bool) a1)), (5, .one (.dat (.int .i64) s2)), (25, .one (.dat .bool ((List.getD a0 (Int.toNat s2) false) != (List.getD a1 (Int.toNat s2) false))))], [], 0⟩) hP hN (by kernel_rfl) allNil (qLoopN ⟨(wadd .i64 s2 (1 : Int)), rfl, Le.cv (s := ⟨[], [], [], false⟩) (own := []) (ps := [a0 = a0, a1 = a1, (wadd .i64 s2 (1 : Int)) = (wadd .i64 s2 (1 : Int))]) (st' := ⟨[(0, .one (.dat (.sl .bool) a0)), (1, .one (.dat (.sl .bool) a1)), (5, .one (.dat (.int .i64) (wadd .i64 s2 (1 : Int))))], [], 0⟩) hO (fun h => by cases h) (by kernel_rfl) ⟨rfl, rfl, rfl, trivial⟩⟩)
      · refine HT.cond0 rfl hb9 ?_
        have hx7 := of_some hx7
        subst hx7
        refine (Le.cv (s := ⟨[], [], [], false⟩) (own := []) (ps := []) (st' := ⟨[], [], 0⟩) hO (fun h => by cases h) (by kernel_rfl) trivial).ht ?_
        exact HT.exit (qThenE (qLoopE (hk8 (.inl ()) rfl)))

noncomputable def laws_eqPlain (a0 : Int × Int × List Int × List Bool) (a1 : Int × Int × List Int × List Bool) : Option (Bool) :=
  bif (a0.1 != a1.1) then
    some false
  else
    bif (a0.2.1 != a1.2.1) then
      some false
    else
      (laws_eqInt64S a0.2.2.1 a1.2.2.1).bind fun y3 =>
      bif (!y3) then
        some false
      else
        (laws_eqBoolS a0.2.2.2 a1.2.2.2).bind fun y6 =>
        bif (!y6) then
          some false
        else
          some true

theorem f18_ok {a0 : Int × Int × List Int × List Bool} {a1 : Int × Int × List Int × List Bool} {r : Bool} (hr : laws_eqPlain a0 a1 = some r) : CallOK Try.prog 18 [.imm (.st (.pair (.int .i64) (.pair (.int .i64) (.pair (.sl (.int .i64)) (.sl .bool))))) a0, .imm (.st (.pair (.int .i64) (.pair (.int .i64) (.pair (.sl (.int .i64)) (.sl .bool))))) a1] [⟨false, .bool, r⟩] [] := by
  unfold laws_eqPlain at hr
  refine CallOK.of_body (ts := [(false, .bool)]) Try.func18 rfl (by kernel_rfl) (Nat.le_of_ble_eq_true (by kernel_rfl)) fun cx hP hN hO hF => ?_
  have hO : cx.own.map Prod.fst = [] := hO
  have hF := hF rfl
  show HT cx ⟨[(0, .agg [.dat (.int .i64) a0.1, .dat (.int .i64) a0.2.1, .dat (.sl (.int .i64)) a0.2.2.1, .dat (.sl .bool) a0.2.2.2]), (1, .agg [.dat (.int .i64) a1.1, .dat (.int .i64) a1.2.1, .dat (.sl (.int .i64)) a1.2.2.1, .dat (.sl .bool) a1.2.2.2])], [], 0⟩ _ _
  refine HT.reg1 [2, 3] [⟨none, .no⟩, ⟨none, .no⟩, ⟨none, .no⟩] ⟨[(2, .one (.ptr 0 0)), (3, .one (.ptr 1 0))], [(1, .box [.dat (.int .i64) a1.1, .dat (.int .i64) a1.2.1, .dat (.sl (.int .i64)) a1.2.2.1, .dat (.sl .bool) a1.2.2.2]), (0, .box [.dat (.int .i64) a0.1, .dat (.int .i64) a0.2.1, .dat (.sl (.int .i64)) a0.2.2.1, .dat (.sl .bool) a0.2.2.2])], 2⟩ hP hN (by kernel_rfl) allNil ?_
  refine HT.seq ?_
  refine HT.reg1 [2, 3, 9] [⟨none, .no⟩, ⟨none, .no⟩, ⟨none, .no⟩, ⟨none, .no⟩, ⟨none, .no⟩] ⟨[(2, .one (.ptr 0 0)), (3, .one (.ptr 1 0)), (9, .one (.dat .bool (a0.1 != a1.1)))], [(1, .box [.dat (.int .i64) a1.1, .dat (.int .i64) a1.2.1, .dat (.sl (.int .i64)) a1.2.2.1, .dat (.sl .bool) a1.2.2.2]), (0, .box [.dat (.int .i64) a0.1, .dat (.int .i64) a0.2.1, .dat (.sl (.int .i64)) a0.2.2.1, .dat (.sl .bool) a0.2.2.2])], 2⟩ hP hN (by kernel_rfl) allNil ?_
  rcases of_bif hr with ⟨hb1, hr⟩ | ⟨hb1, hr⟩
  · refine HT.cond1 rfl hb1 ?_
    refine HT.reg1 [4] [⟨none, .no⟩] ⟨[(4, .one (.dat .bool false))], [(1, .box [.dat (.int .i64) a1.1, .dat (.int .i64) a1.2.1, .dat (.sl (.int .i64)) a1.2.2.1, .dat (.sl .bool) a1.2.2.2]), (0, .box [.dat (.int .i64) a0.1, .dat (.int .i64) a0.2.1, .dat (.sl (.int .i64)) a0.2.2.1, .dat (.sl .bool) a0.2.2.2])], 2⟩ hP hN (by kernel_rfl) allNil ?_
    have hr := of_some hr
    subst hr
    exact HT.ret (qThenR ⟨[.one (.dat .bool false)], [], [], by kernel_rfl, by kernel_rfl, rfl, by kernel_rfl, by kernel_rfl, trivial⟩)
  · refine HT.cond0 rfl hb1 ?_
    refine HT.skip (qThen ?_)
    refine HT.seq ?_
    refine HT.reg1 [2, 3, 14] [⟨none, .no⟩, ⟨none, .no⟩, ⟨none, .no⟩, ⟨none, .no⟩, ⟨none, .no⟩] ⟨[(2, .one (.ptr 0 0)), (3, .one (.ptr 1 0)), (14, .one (.dat .bool (a0.2.1 != a1.2.1)))], [(1, .box [.dat (.int .i64) a1.1, .dat (.int .i64) a1.2.1, .dat (.sl (.int .i64)) a1.2.2.1, .dat (.sl .bool) a1.2.2.2]), (0, .box [.dat (.int .i64) a0.1, .dat (.int .i64) a0.2.1, .dat (.sl (.int .i64)) a0.2.2.1, .dat (.sl .bool) a0.2.2.2])], 2⟩ hP hN (by kernel_rfl) allNil ?_
    rcases of_bif hr with ⟨hb2, hr⟩ | ⟨hb2, hr⟩
    · refine HT.cond1 rfl hb2 ?_
      refine HT.reg1 [4] [⟨none, .no⟩] ⟨[(4, .one (.dat .bool false))], [(1, .box [.dat (.int .i64) a1.1, .dat (.int .i64) a1.2.1, .dat (.sl (.int .i64)) a1.2.2.1, .dat (.sl .bool) a1.2.2.2]), (0, .box [.dat (.int .i64) a0.1, .dat (.int .i64) a0.2.1, .dat (.sl (.int .i64)) a0.2.2.1, .dat (.sl .bool) a0.2.2.2])], 2⟩ hP hN (by kernel_rfl) allNil ?_
      have hr := of_some hr
      subst hr
      exact HT.ret (qThenR ⟨[.one (.dat .bool false)], [], [], by kernel_rfl, by kernel_rfl, rfl, by kernel_rfl, by kernel_rfl, trivial⟩)
    · refine HT.cond0 rfl hb2 ?_
      refine HT.skip (qThen ?_)
      refine HT.seq ?_
      obtain ⟨y3, hc4, hr⟩ := of_bind hr
      refine HT.reg1 [2, 3, 20] [⟨none, .no⟩, ⟨none, .no⟩, ⟨none, .no⟩, ⟨none, .no⟩, ⟨none, .call [.imm (.sl (.int .i64)), .imm (.sl (.int .i64))] [⟨false, .bool, y3⟩] []⟩, ⟨none, .no⟩] ⟨[(2, .one (.ptr 0 0)), (3, .one (.ptr 1 0)), (20, .one (.dat .bool (!y3)))], [(1, .box [.dat (.int .i64) a1.1, .dat (.int .i64) a1.2.1, .dat (.sl (.int .i64)) a1.2.2.1, .dat (.sl .bool) a1.2.2.2]), (0, .box [.dat (.int .i64) a0.1, .dat (.int .i64) a0.2.1, .dat (.sl (.int .i64)) a0.2.2.1, .dat (.sl .bool) a0.2.2.2])], 2⟩ hP hN (by kernel_rfl) (allCons (f20_ok hc4) allNil) ?_
      rcases of_bif hr with ⟨hb5, hr⟩ | ⟨hb5, hr⟩
      · refine HT.cond1 rfl hb5 ?_
        refine HT.reg1 [4] [⟨none, .no⟩] ⟨[(4, .one (.dat .bool false))], [(1, .box [.dat (.int .i64) a1.1, .dat (.int .i64) a1.2.1, .dat (.sl (.int .i64)) a1.2.2.1, .dat (.sl .bool) a1.2.2.2]), (0, .box [.dat (.int .i64) a0.1, .dat (.int .i64) a0.2.1, .dat (.sl (.int .i64)) a0.2.2.1, .dat (.sl .bool) a0.2.2.2])], 2⟩ hP hN (by kernel_rfl) allNil ?_
        have hr := of_some hr
        subst hr
        exact HT.ret (qThenR ⟨[.one (.dat .bool false)], [], [], by kernel_rfl, by kernel_rfl, rfl, by kernel_rfl, by kernel_rfl, trivial⟩)
      · refine HT.cond0 rfl hb5 ?_
        refine HT.skip (qThen ?_)
        refine HT.seq ?_
        obtain ⟨y6, hc7, hr⟩ := of_bind hr
        refine HT.reg1 [26] [⟨none, .no⟩, ⟨none, .no⟩, ⟨none, .no⟩, ⟨none, .no⟩, ⟨none, .call [.imm (.sl .bool), .imm (.sl .bool)] [⟨false, .bool, y6⟩] []⟩, ⟨none, .no⟩] ⟨[(26, .one (.dat .bool (!y6)))], [(1, .box [.dat (.int .i64) a1.1, .dat (.int .i64) a1.2.1, .dat (.sl (.int .i64)) a1.2.2.1, .dat (.sl .bool) a1.2.2.2]), (0, .box [.dat (.int .i64) a0.1, .dat (.int .i64) a0.2.1, .dat (.sl (.int .i64)) a0.2.2.1, .dat (.sl .bool) a0.2.2.2])], 2⟩ hP hN (by kernel_rfl) (allCons (f51_ok hc7) allNil) ?_
        rcases of_bif hr with ⟨hb8, hr⟩ | ⟨hb8, hr⟩
        · refine HT.cond1 rfl hb8 ?_
          refine HT.reg1 [4] [⟨none, .no⟩] ⟨[(4, .one (.dat .bool false))], [(1, .box [.dat (.int .i64) a1.1, .dat (.int .i64) a1.2.1, .dat (.sl (.int .i64)) a1.2.2.1, .dat (.sl .bool) a1.2.2.2]), (0, .box [.dat (.int .i64) a0.1, .dat (.int .i64) a0.2.1, .dat (.sl (.int .i64)) a0.2.2.1, .dat (.sl .bool) a0.2.2.2])], 2⟩ hP hN (by kernel_rfl) allNil ?_
          have hr := of_some hr
          subst hr
          exact HT.ret (qThenR ⟨[.one (.dat .bool false)], [], [], by kernel_rfl, by kernel_rfl, rfl, by kernel_rfl, by kernel_rfl, trivial⟩)
        · refine HT.cond0 rfl hb8 ?_
          refine HT.skip (qThen ?_)
          refine HT.reg1 [4] [⟨none, .no⟩] ⟨[(4, .one (.dat .bool true))], [(1, .box [.dat (.int .i64) a1.1, .dat (.int .i64) a1.2.1, .dat (.sl (.int .i64)) a1.2.2.1, .dat (.sl .bool) a1.2.2.2]), (0, .box [.dat (.int .i64) a0.1, .dat (.int .i64) a0.2.1, .dat (.sl (.int .i64)) a0.2.2.1, .dat (.sl .bool) a0.2.2.2])], 2⟩ hP hN (by kernel_rfl) allNil ?_
          have hr := of_some hr
          subst hr
          exact HT.ret ⟨[.one (.dat .bool true)], [], [], by kernel_rfl, by kernel_rfl, rfl, by kernel_rfl, by kernel_rfl, trivial⟩

noncomputable def laws_eqRule (a0 : Int × Int × Int × Int) (a1 : Int × Int × Int × Int) : Option (Bool) :=
  bif (a0.1 != a1.1) then
    some false
  else
    bif (a0.2.1 != a1.2.1) then
      some false
    else
      bif (a0.2.2.1 != a1.2.2.1) then
        some false
      else
        bif (a0.2.2.2 != a1.2.2.2) then
          some false
        else
          some true

theorem f75_ok {a0 : Int × Int × Int × Int} {a1 : Int × Int × Int × Int} {r : Bool} (hr : laws_eqRule a0 a1 = some r) : CallOK Try.prog 75 [.imm (.st (.pair (.int .i64) (.pair (.int .i64) (.pair (.int .i64) (.int .i64))))) a0, .imm (.st (.pair (.int .i64) (.pair (.int .i64) (.pair (.int .i64) (.int .i64))))) a1] [⟨false, .bool, r⟩] [] := by
  unfold laws_eqRule at hr
  refine CallOK.of_body (ts := [(false, .bool)]) Try.func75 rfl (by kernel_rfl) (Nat.le_of_ble_eq_true (by kernel_rfl)) fun cx hP hN hO hF => ?_
  have hO : cx.own.map Prod.fst = [] := hO
  have hF := hF rfl
  show HT cx ⟨[(0, .agg [.dat (.int .i64) a0.1, .dat (.int .i64) a0.2.1, .dat (.int .i64) a0.2.2.1, .dat (.int .i64) a0.2.2.2]), (1, .agg [.dat (.int .i64) a1.1, .dat (.int .i64) a1.2.1, .dat (.int .i64) a1.2.2.1, .dat (.int .i64) a1.2.2.2])], [], 0⟩ _ _
  refine HT.reg1 [2, 3] [⟨none, .no⟩, ⟨none, .no⟩, ⟨none, .no⟩] ⟨[(2, .one (.ptr 0 0)), (3, .one (.ptr 1 0))], [(1, .box [.dat (.int .i64) a1.1, .dat (.int .i64) a1.2.1, .dat (.int .i64) a1.2.2.1, .dat (.int .i64) a1.2.2.2]), (0, .box [.dat (.int .i64) a0.1, .dat (.int .i64) a0.2.1, .dat (.int .i64) a0.2.2.1, .dat (.int .i64) a0.2.2.2])], 2⟩ hP hN (by kernel_rfl) allNil ?_
  refine HT.seq ?_
  refine HT.reg1 [2, 3, 9] [⟨none, .no⟩, ⟨none, .no⟩, ⟨none, .no⟩, ⟨none, .no⟩, ⟨none, .no⟩] ⟨[(2, .one (.ptr 0 0)), (3, .one (.ptr 1 0)), (9, .one (.dat .bool (a0.1 != a1.1)))], [(1, .box [.dat (.int .i64) a1.1, .dat (.int .i64) a1.2.1, .dat (.int .i64) a1.2.2.1, .dat (.int .i64) a1.2.2.2]), (0, .box [.dat (.int .i64) a0.1, .dat (.int .i64) a0.2.1, .dat (.int .i64) a0.2.2.1, .dat (.int .i64) a0.2.2.2])], 2⟩ hP hN (by kernel_rfl) allNil ?_
  rcases of_bif hr with ⟨hb1, hr⟩ | ⟨hb1, hr⟩
  · refine HT.cond1 rfl hb1 ?_
    refine HT.reg1 [4] [⟨none, .no⟩] ⟨[(4, .one (.dat .bool false))], [(1, .box [.dat (.int .i64) a1.1, .dat (.int .i64) a1.2.1, .dat (.int .i64) a1.2.2.1, .dat (.int .i64) a1.2.2.2]), (0, .box [.dat (.int .i64) a0.1, .dat (.int .i64) a0.2.1, .dat (.int .i64) a0.2.2.1, .dat (.int .i64) a0.2.2.2])], 2⟩ hP hN (by kernel_rfl) allNil ?_
    have hr := of_some hr
    subst hr
    exact HT.ret (qThenR ⟨[.one (.dat .bool false)], [], [], by kernel_rfl, by kernel_rfl, rfl, by kernel_rfl, by kernel_rfl, trivial⟩)
  · refine HT.cond0 rfl hb1 ?_
    refine HT.skip (qThen ?_)
    refine HT.seq ?_
    refine HT.reg1 [2, 3, 14] [⟨none, .no⟩, ⟨none, .no⟩, ⟨none, .no⟩, ⟨none, .no⟩, ⟨none, .no⟩] ⟨[(2, .one (.ptr 0 0)), (3, .one (.ptr 1 0)), (14, .one (.dat .bool (a0.2.1 != a1.2.1)))], [(1, .box [.dat (.int .i64) a1.1, .dat (.int .i64) a1.2.1, .dat (.int .i64) a1.2.2.1, .dat (.int .i64) a1.2.2.2]), (0, .box [.dat (.int .i64) a0.1, .dat (.int .i64) a0.2.1, .dat (.int .i64) a0.2.2.1, .dat (.int .i64) a0.2.2.2])], 2⟩ hP hN (by kernel_rfl) allNil ?_
    rcases of_bif hr with ⟨hb2, hr⟩ | ⟨hb2, hr⟩
    · refine HT.cond1 rfl hb2 ?_
      refine HT.reg1 [4] [⟨none, .no⟩] ⟨[(4, .one (.dat .bool false))], [(1, .box [.dat (.int .i64) a1.1, .dat (.int .i64) a1.2.1, .dat (.int .i64) a1.2.2.1, .dat (.int .i64) a1.2.2.2]), (0, .box [.dat (.int .i64) a0.1, .dat (.int .i64) a0.2.1, .dat (.int .i64) a0.2.2.1, .dat (.int .i64) a0.2.2.2])], 2⟩ hP hN (by kernel_rfl) allNil ?_
      have hr := of_some hr
      subst hr
      exact HT.ret (qThenR ⟨[.one (.dat .bool false)], [], [], by kernel_rfl, by kernel_rfl, rfl, by kernel_rfl, by kernel_rfl, trivial⟩)
    · refine HT.cond0 rfl hb2 ?_
      refine HT.skip (qThen ?_)
      refine HT.seq ?_
      refine HT.reg1 [2, 3, 19] [⟨none, .no⟩, ⟨none, .no⟩, ⟨none, .no⟩, ⟨none, .no⟩, ⟨none, .no⟩] ⟨[(2, .one (.ptr 0 0)), (3, .one (.ptr 1 0)), (19, .one (.dat .bool (a0.2.2.1 != a1.2.2.1)))], [(1, .box [.dat (.int .i64) a1.1, .dat (.int .i64) a1.2.1, .dat (.int .i64) a1.2.2.1, .dat (.int .i64) a1.2.2.2]), (0, .box [.dat (.int .i64) a0.1, .dat (.int .i64) a0.2.1, .dat (.int .i64) a0.2.2.1, .dat (.int .i64) a0.2.2.2])], 2⟩ hP hN (by kernel_rfl) allNil ?_
      rcases of_bif hr with ⟨hb3, hr⟩ | ⟨hb3, hr⟩
      · refine HT.cond1 rfl hb3 ?_
        refine HT.reg1 [4] [⟨none, .no⟩] ⟨[(4, .one (.dat .bool false))], [(1, .box [.dat (.int .i64) a1.1, .dat (.int .i64) a1.2.1, .dat (.int .i64) a1.2.2.1, .dat (.int .i64) a1.2.2.2]), (0, .box [.dat (.int .i64) a0.1, .dat (.int .i64) a0.2.1, .dat (.int .i64) a0.2.2.1, .dat (.int .i64) a0.2.2.2])], 2⟩ hP hN (by kernel_rfl) allNil ?_
        have hr := of_some hr
        subst hr
        exact HT.ret (qThenR ⟨[.one (.dat .bool false)], [], [], by kernel_rfl, by kernel_rfl, rfl, by kernel_rfl, by kernel_rfl, trivial⟩)
      · refine HT.cond0 rfl hb3 ?_
        refine HT.skip (qThen ?_)
        refine HT.seq ?_
        refine HT.reg1 [24] [⟨none, .no⟩, ⟨none, .no⟩, ⟨none, .no⟩, ⟨none, .no⟩, ⟨none, .no⟩] ⟨[(24, .one (.dat .bool (a0.2.2.2 != a1.2.2.2)))], [(1, .box [.dat (.int .i64) a1.1, .dat (.int .i64) a1.2.1, .dat (.int .i64) a1.2.2.1, .dat (.int .i64) a1.2.2.2]), (0, .box [.dat (.int .i64) a0.1, .dat (.int .i64) a0.2.1, .dat (.int .i64) a0.2.2.1, .dat (.int .i64) a0.2.2.2])], 2⟩ hP hN (by kernel_rfl) allNil ?_
        rcases of_bif hr with ⟨hb4, hr⟩ | ⟨hb4, hr⟩
        · refine HT.cond1 rfl hb4 ?_
          refine HT.reg1 [4] [⟨none, .no⟩] ⟨[(4, .one (.dat .bool false))], [(1, .box [.dat (.int .i64) a1.1, .dat (.int .i64) a1.2.1, .dat (.int .i64) a1.2.2.1, .dat (.int .i64) a1.2.2.2]), (0, .box [.dat (.int .i64) a0.1, .dat (.int .i64) a0.2.1, .dat (.int .i64) a0.2.2.1, .dat (.int .i64) a0.2.2.2])], 2⟩ hP hN (by kernel_rfl) allNil ?_
          have hr := of_some hr
          subst hr
          exact HT.ret (qThenR ⟨[.one (.dat .bool false)], [], [], by kernel_rfl, by kernel_rfl, rfl, by kernel_rfl, by kernel_rfl, trivial⟩)
        · refine HT.cond0 rfl hb4 ?_
          refine HT.skip (qThen ?_)
          refine HT.reg1 [4] [⟨none, .no⟩] ⟨[(4, .one (.dat .bool true))], [(1, .box [.dat (.int .i64) a1.1, .dat (.int .i64) a1.2.1, .dat (.int .i64) a1.2.2.1, .dat (.int .i64) a1.2.2.2]), (0, .box [.dat (.int .i64) a0.1, .dat (.int .i64) a0.2.1, .dat (.int .i64) a0.2.2.1, .dat (.int .i64) a0.2.2.2])], 2⟩ hP hN (by kernel_rfl) allNil ?_
          have hr := of_some hr
          subst hr
          exact HT.ret ⟨[.one (.dat .bool true)], [], [], by kernel_rfl, by kernel_rfl, rfl, by kernel_rfl, by kernel_rfl, trivial⟩

noncomputable def laws_eqRuleS_B1 (a0 : List (Int × Int × Int × Int)) (a1 : List (Int × Int × Int × Int)) (s2 : Int) : Option ((Int) ⊕ (Unit ⊕ Unit)) :=
  bif (decide (s2 < (lenI a0))) then
    guardP ((0 : Int) ≤ s2 ∧ s2 < lenI a0) (
      guardP ((0 : Int) ≤ s2 ∧ s2 < lenI a1) (
        (laws_eqRule ((List.getD a0 (Int.toNat s2) ((0 : Int), (0 : Int), (0 : Int), (0 : Int))).1, ((List.getD a0 (Int.toNat s2) ((0 : Int), (0 : Int), (0 : Int), (0 : Int))).2).1, (((List.getD a0 (Int.toNat s2) ((0 : Int), (0 : Int), (0 : Int), (0 : Int))).2).2).1, (((List.getD a0 (Int.toNat s2) ((0 : Int), (0 : Int), (0 : Int), (0 : Int))).2).2).2) ((List.getD a1 (Int.toNat s2) ((0 : Int), (0 : Int), (0 : Int), (0 : Int))).1, ((List.getD a1 (Int.toNat s2) ((0 : Int), (0 : Int), (0 : Int), (0 : Int))).2).1, (((List.getD a1 (Int.toNat s2) ((0 : Int), (0 : Int), (0 : Int), (0 : Int))).2).2).1, (((List.getD a1 (Int.toNat s2) ((0 : Int), (0 : Int), (0 : Int), (0 : Int))).2).2).2)).bind fun y12 =>
        bif (!y12) then
          some (.inr (.inr ()))
        else
          some (.inl (wadd .i64 s2 (1 : Int)))))
  else
    some (.inr (.inl ()))

noncomputable def laws_eqRuleS (a0 : List (Int × Int × Int × Int)) (a1 : List (Int × Int × Int × Int)) : Option (Bool) :=
  bif ((lenI a0) != (lenI a1)) then
    some false
  else
    (rounds (laws_eqRuleS_B1 a0 a1) (0 : Int)).bind fun r3 => match r3 with
      | .inl r4 =>
        some true
      | .inr r5 =>
        some false

theorem f52_ok {a0 : List (Int × Int × Int × Int)} {a1 : List (Int × Int × Int × Int)} {r : Bool} (hr : laws_eqRuleS a0 a1 = some r) : CallOK Try.prog 52 [.imm (.sl (.st (.pair (.int .i64) (.pair (.int .i64) (.pair (.int .i64) (.int .i64)))))) a0, .imm (.sl (.st (.pair (.int .i64) (.pair (.int .i64) (.pair (.int .i64) (.int .i64)))))) a1] [⟨false, .bool, r⟩] [] := by
  unfold laws_eqRuleS at hr
  refine CallOK.of_body (ts := [(false, .bool)]) Try.func52 rfl (by kernel_rfl) (Nat.le_of_ble_eq_true (by kernel_rfl)) fun cx hP hN hO hF => ?_
  have hO : cx.own.map Prod.fst = [] := hO
  have hF := hF rfl
  show HT cx ⟨[(0, .one (.dat (.sl (.st (.pair (.int .i64) (.pair (.int .i64) (.pair (.int .i64) (.int .i64)))))) a0)), (1, .one (.dat (.sl (.st (.pair (.int .i64) (.pair (.int .i64) (.pair (.int .i64) (.int .i64)))))) a1))], [], 0⟩ _ _
  refine HT.reg1 [0, 1] [⟨none, .no⟩] ⟨[(0, .one (.dat (.sl (.st (.pair (.int .i64) (.pair (.int .i64) (.pair (.int .i64) (.int .i64)))))) a0)), (1, .one (.dat (.sl (.st (.pair (.int .i64) (.pair (.int .i64) (.pair (.int .i64) (.int .i64)))))) a1))], [], 0⟩ hP hN (by kernel_rfl) allNil ?_
  refine HT.seq ?_
  refine HT.reg1 [0, 1, 10] [⟨none, .no⟩, ⟨none, .no⟩, ⟨none, .no⟩, ⟨none, .no⟩, ⟨none, .no⟩] ⟨[(0, .one (.dat (.sl (.st (.pair (.int .i64) (.pair (.int .i64) (.pair (.int .i64) (.int .i64)))))) a0)), (1, .one (.dat (.sl (.st (.pair (.int .i64) (.pair (.int .i64) (.pair (.int .i64) (.int .i64)))))) a1)), (10, .one (.dat .bool ((lenI a0) != (lenI a1))))], [], 0⟩ hP hN (by kernel_rfl) allNil ?_
  rcases of_bif hr with ⟨hb1, hr⟩ | ⟨hb1, hr⟩
  · refine HT.cond1 rfl hb1 ?_
    refine HT.reg1 [4] [⟨none, .no⟩] ⟨[(4, .one (.dat .bool false))], [], 0⟩ hP hN (by kernel_rfl) allNil ?_
    have hr := of_some hr
    subst hr
    exact HT.ret (qThenR ⟨[.one (.dat .bool false)], [], [], by kernel_rfl, by kernel_rfl, rfl, by kernel_rfl, by kernel_rfl, trivial⟩)
  · refine HT.cond0 rfl hb1 ?_
    refine HT.skip (qThen ?_)
    refine HT.seq ?_
    refine HT.reg1 [0, 1, 5] [⟨none, .no⟩] ⟨[(0, .one (.dat (.sl (.st (.pair (.int .i64) (.pair (.int .i64) (.pair (.int .i64) (.int .i64)))))) a0)), (1, .one (.dat (.sl (.st (.pair (.int .i64) (.pair (.int .i64) (.pair (.int .i64) (.int .i64)))))) a1)), (5, .one (.dat (.int .i64) (0 : Int)))], [], 0⟩ hP hN (by kernel_rfl) allNil ?_
    refine HT.block ?_
    obtain ⟨r3, hL15, hr⟩ := of_bind hr
    refine (Le.cv (s := ⟨[], [], [], false⟩) (own := []) (ps := [a0 = a0, a1 = a1, (0 : Int) = (0 : Int)]) (st' := ⟨[(0, .one (.dat (.sl (.st (.pair (.int .i64) (.pair (.int .i64) (.pair (.int .i64) (.int .i64)))))) a0)), (1, .one (.dat (.sl (.st (.pair (.int .i64) (.pair (.int .i64) (.pair (.int .i64) (.int .i64)))))) a1)), (5, .one (.dat (.int .i64) (0 : Int)))], [], 0⟩) hO (fun h => by cases h) (by kernel_rfl) ⟨rfl, rfl, rfl, trivial⟩).ht ?_
    refine HT.loopE (s := (0 : Int)) (fun (s2 : Int) => ⟨[(0, .one (.dat (.sl (.st (.pair (.int .i64) (.pair (.int .i64) (.pair (.int .i64) (.int .i64)))))) a0)), (1, .one (.dat (.sl (.st (.pair (.int .i64) (.pair (.int .i64) (.pair (.int .i64) (.int .i64)))))) a1)), (5, .one (.dat (.int .i64) s2))], [], 0⟩) (fun (r3 : Unit ⊕ Unit) => match r3 with | .inl r4 => (.exit 0, ⟨[], [], 0⟩) | .inr r5 => (.ret, ⟨[(4, .one (.dat .bool false))], [], 0⟩)) hL15 ?_ (fun s2 x6 hx7 hk8 => ?_)
    · rcases r3 with r4 | r5
      · refine (qBlockX (qThen ?_))
        refine HT.reg1 [4] [⟨none, .no⟩] ⟨[(4, .one (.dat .bool true))], [], 0⟩ hP hN (by kernel_rfl) allNil ?_
        have hr := of_some hr
        subst hr
        exact HT.ret ⟨[.one (.dat .bool true)], [], [], by kernel_rfl, by kernel_rfl, rfl, by kernel_rfl, by kernel_rfl, trivial⟩
      · have hr := of_some hr
        subst hr
        exact (qBlockR (qThenR ⟨[.one (.dat .bool false)], [], [], by kernel_rfl, by kernel_rfl, rfl, by kernel_rfl, by kernel_rfl, trivial⟩))
    · refine HT.seq ?_
      refine HT.reg1 [0, 1, 5, 14] [⟨none, .no⟩, ⟨none, .no⟩, ⟨none, .no⟩, ⟨none, .no⟩] ⟨[(0, .one (.dat (.sl (.st (.pair (.int .i64) (.pair (.int .i64) (.pair (.int .i64) (.int .i64)))))) a0)), (1, .one (.dat (.sl (.st (.pair (.int .i64) (.pair (.int .i64) (.pair (.int .i64) (.int .i64)))))) a1)), (5, .one (.dat (.int .i64) s2)), (14, .one (.dat .bool (decide (s2 < (lenI a0)))))], [], 0⟩ hP hN (by kernel_rfl) allNil ?_
      rcases of_bif hx7 with ⟨hb9, hx7⟩ | ⟨hb9, hx7⟩
      · refine HT.cond1 rfl hb9 ?_
        refine HT.skip (qThen ?_)
        refine HT.seq ?_
        refine HT.block ?_
        obtain ⟨hg10, hx7⟩ := of_guard hx7
        obtain ⟨hg11, hx7⟩ := of_guard hx7
        obtain ⟨y12, hc13, hx7⟩ := of_bind hx7
        refine HT.drw1 [0, 1, 5, 26] 8 [⟨⟨none, .no⟩, []⟩, ⟨⟨none, .no⟩, []⟩, ⟨⟨none, .no⟩, [0, 1]⟩, ⟨⟨none, .no⟩, [0, 1, 2]⟩, ⟨⟨none, .no⟩, []⟩, ⟨⟨none, .no⟩, []⟩, ⟨⟨none, .no⟩, [4, 5]⟩, ⟨⟨none, .no⟩, [4, 5, 6]⟩] [[0, 1, 2, 3, 4, 5, 6, 7], [0, 1, 2, 3, 4, 5, 6, 7, 8]] [⟨none, .call [.imm (.st (.pair (.int .i64) (.pair (.int .i64) (.pair (.int .i64) (.int .i64))))), .imm (.st (.pair (.int .i64) (.pair (.int .i64) (.pair (.int .i64) (.int .i64)))))] [⟨false, .bool, y12⟩] []⟩, ⟨none, .no⟩] ⟨[(0, .one (.dat (.sl (.st (.pair (.int .i64) (.pair (.int .i64) (.pair (.int .i64) (.int .i64)))))) a0)), (1, .one (.dat (.sl (.st (.pair (.int .i64) (.pair (.int .i64) (.pair (.int .i64) (.int .i64)))))) a1)), (5, .one (.dat (.int .i64) s2)), (26, .one (.dat .bool (!y12)))], [], 0⟩ hP hN (by kernel_rfl) (by kernel_rfl) (allCons hg10 (allCons hg11 (allCons (f75_ok hc13) allNil))) ?_
        rcases of_bif hx7 with ⟨hb14, hx7⟩ | ⟨hb14, hx7⟩
        · refine HT.cond1 rfl hb14 ?_
          refine HT.reg1 [4] [⟨none, .no⟩] ⟨[(4, .one (.dat .bool false))], [], 0⟩ hP hN (by kernel_rfl) allNil ?_
          have hx7 := of_some hx7
          subst hx7
          refine (Le.cv (s := ⟨[], [], [], false⟩) (own := []) (ps := [false = false]) (st' := ⟨[(4, .one (.dat .bool false))], [], 0⟩) hO (fun h => by cases h) (by kernel_rfl) ⟨rfl, trivial⟩).ht ?_
          exact HT.ret (qBlockR (qThenR (qLoopR (hk8 (.inr ()) rfl))))
        · refine HT.cond0 rfl hb14 ?_
          refine HT.skip (qBlock (qThen ?_))
          have hx7 := of_some hx7
          subst hx7
          refine HT.reg (rs := [⟨none, .no⟩, ⟨none, .no⟩, ⟨none, .no⟩]) (st' := ⟨[(5, .one (.dat (.int .i64) (wadd .i64 s2 (1 : Int)))), (16, .one (.dat (.int .i64) (wadd .i64 s2 (1 : Int)))), (15, .one (.dat (.int .i64) s2)), (0, .one (.dat (.sl (.st (.pair (.int .i64) (.pair (.int .i64) (.pair (.int .i64) (.int .i64)))))) a0)), (1, .one (.dat (.sl (.st (.pair (.int .i64) (.pair (.int .i64) (.pair (.int .i64) (.int .i64)))))) a1)), (5, .one (.dat (.int .i64) s2)), (26, .one (.dat .bool (!y12)))], [], 0⟩) hP hN (by kernel_rfl) allNil (qLoopN ⟨(wadd .i64 s2 (1 : Int)), rfl, Le.cv (s := ⟨[], [], [], false⟩) (own := []) (ps := [a0 = a0, a1 = a1, (wadd .i64 s2 (1 : Int)) = (wadd .i64 s2 (1 : Int))]) (st' := ⟨[(0, .one (.dat (.sl (.st (.pair (.int .i64) (.pair (.int .i64) (.pair (.int .i64) (.int .i64)))))) a0)), (1, .one (.dat (.sl (.st (.pair (.int .i64) (.pair (.int .i64) (.pair (.int .i64) (.int .i64)))))) a1)), (5, .one (.dat (.int .i64) (wadd .i64 s2 (1 : Int))))], [], 0⟩) hO (fun h => by cases h) (by kernel_rfl) ⟨rfl, rfl, rfl, trivial⟩⟩)
      · refine HT.cond0 rfl hb9 ?_
        have hx7 := of_some hx7
        subst hx7
        refine (Le.cv (s := ⟨[], [], [], false⟩) (own := []) (ps := []) (st' := ⟨[], [], 0⟩) hO (fun h => by cases h) (by kernel_rfl) trivial).ht ?_
        exact HT.exit (qThenE (qLoopE (hk8 (.inl ()) rfl)))

noncomputable def laws_eqGrammar (a0 : Int × Int × List (Int × Int × Int × Int)) (a1 : Int × Int × List (Int × Int × Int × Int)) : Option (Bool) :=
  bif (a0.1 != a1.1) then
    some false
  else
    bif (a0.2.1 != a1.2.1) then
      some false
    else
      (laws_eqRuleS a0.2.2 a1.2.2).bind fun y3 =>
      bif (!y3) then
        some false
      else
        some true

theorem f19_ok {a0 : Int × Int × List (Int × Int × Int × Int)} {a1 : Int × Int × List (Int × Int × Int × Int)} {r : Bool} (hr : laws_eqGrammar a0 a1 = some r) : CallOK Try.prog 19 [.imm (.st (.pair (.int .i64) (.pair (.int .i64) (.sl (.st (.pair (.int .i64) (.pair (.int .i64) (.pair (.int .i64) (.int .i64))))))))) a0, .imm (.st (.pair (.int .i64) (.pair (.int .i64) (.sl (.st (.pair (.int .i64) (.pair (.int .i64) (.pair (.int .i64) (.int .i64))))))))) a1] [⟨false, .bool, r⟩] [] := by
  unfold laws_eqGrammar at hr
  refine CallOK.of_body (ts := [(false, .bool)]) Try.func19 rfl (by kernel_rfl) (Nat.le_of_ble_eq_true (by kernel_rfl)) fun cx hP hN hO hF => ?_
  have hO : cx.own.map Prod.fst = [] := hO
  have hF := hF rfl
  show HT cx ⟨[(0, .agg [.dat (.int .i64) a0.1, .dat (.int .i64) a0.2.1, .dat (.sl (.st (.pair (.int .i64) (.pair (.int .i64) (.pair (.int .i64) (.int .i64)))))) a0.2.2]), (1, .agg [.dat (.int .i64) a1.1, .dat (.int .i64) a1.2.1, .dat (.sl (.st (.pair (.int .i64) (.pair (.int .i64) (.pair (.int .i64) (.int .i64)))))) a1.2.2])], [], 0⟩ _ _
  refine HT.reg1 [2, 3] [⟨none, .no⟩, ⟨none, .no⟩, ⟨none, .no⟩] ⟨[(2, .one (.ptr 0 0)), (3, .one (.ptr 1 0))], [(1, .box [.dat (.int .i64) a1.1, .dat (.int .i64) a1.2.1, .dat (.sl (.st (.pair (.int .i64) (.pair (.int .i64) (.pair (.int .i64) (.int .i64)))))) a1.2.2]), (0, .box [.dat (.int .i64) a0.1, .dat (.int .i64) a0.2.1, .dat (.sl (.st (.pair (.int .i64) (.pair (.int .i64) (.pair (.int .i64) (.int .i64)))))) a0.2.2])], 2⟩ hP hN (by kernel_rfl) allNil ?_
  refine HT.seq ?_
  refine HT.reg1 [2, 3, 9] [⟨none, .no⟩, ⟨none, .no⟩, ⟨none, .no⟩, ⟨none, .no⟩, ⟨none, .no⟩] ⟨[(2, .one (.ptr 0 0)), (3, .one (.ptr 1 0)), (9, .one (.dat .bool (a0.1 != a1.1)))], [(1, .box [.dat (.int .i64) a1.1, .dat (.int .i64) a1.2.1, .dat (.sl (.st (.pair (.int .i64) (.pair (.int .i64) (.pair (.int .i64) (.int .i64)))))) a1.2.2]), (0, .box [.dat (.int .i64) a0.1, .dat (.int .i64) a0.2.1, .dat (.sl (.st (.pair (.int .i64) (.pair (.int .i64) (.pair (.int .i64) (.int .i64)))))) a0.2.2])], 2⟩ hP hN (by kernel_rfl) allNil ?_
  rcases of_bif hr with ⟨hb1, hr⟩ | ⟨hb1, hr⟩
  · refine HT.cond1 rfl hb1 ?_
    refine HT.reg1 [4] [⟨none, .no⟩] ⟨[(4, .one (.dat .bool false))], [(1, .box [.dat (.int .i64) a1.1, .dat (.int .i64) a1.2.1, .dat (.sl (.st (.pair (.int .i64) (.pair (.int .i64) (.pair (.int .i64) (.int .i64)))))) a1.2.2]), (0, .box [.dat (.int .i64) a0.1, .dat (.int .i64) a0.2.1, .dat (.sl (.st (.pair (.int .i64) (.pair (.int .i64) (.pair (.int .i64) (.int .i64)))))) a0.2.2])], 2⟩ hP hN (by kernel_rfl) allNil ?_
    have hr := of_some hr
    subst hr
    exact HT.ret (qThenR ⟨[.one (.dat .bool false)], [], [], by kernel_rfl, by kernel_rfl, rfl, by kernel_rfl, by kernel_rfl, trivial⟩)
  · refine HT.cond0 rfl hb1 ?_
    refine HT.skip (qThen ?_)
    refine HT.seq ?_
    refine HT.reg1 [2, 3, 14] [⟨none, .no⟩, ⟨none, .no⟩, ⟨none, .no⟩, ⟨none, .no⟩, ⟨none, .no⟩] ⟨[(2, .one (.ptr 0 0)), (3, .one (.ptr 1 0)), (14, .one (.dat .bool (a0.2.1 != a1.2.1)))], [(1, .box [.dat (.int .i64) a1.1, .dat (.int .i64) a1.2.1, .dat (.sl (.st (.pair (.int .i64) (.pair (.int .i64) (.pair (.int .i64) (.int .i64)))))) a1.2.2]), (0, .box [.dat (.int .i64) a0.1, .dat (.int .i64) a0.2.1, .dat (.sl (.st (.pair (.int .i64) (.pair (.int .i64) (.pair (.int .i64) (.int .i64)))))) a0.2.2])], 2⟩ hP hN (by kernel_rfl) allNil ?_
    rcases of_bif hr with ⟨hb2, hr⟩ | ⟨hb2, hr⟩
    · refine HT.cond1 rfl hb2 ?_
      refine HT.reg1 [4] [⟨none, .no⟩] ⟨[(4, .one (.dat .bool false))], [(1, .box [.dat (.int .i64) a1.1, .dat (.int .i64) a1.2.1, .dat (.sl (.st (.pair (.int .i64) (.pair (.int .i64) (.pair (.int .i64) (.int .i64)))))) a1.2.2]), (0, .box [.dat (.int .i64) a0.1, .dat (.int .i64) a0.2.1, .dat (.sl (.st (.pair (.int .i64) (.pair (.int .i64) (.pair (.int .i64) (.int .i64)))))) a0.2.2])], 2⟩ hP hN (by kernel_rfl) allNil ?_
      have hr := of_some hr
      subst hr
      exact HT.ret (qThenR ⟨[.one (.dat .bool false)], [], [], by kernel_rfl, by kernel_rfl, rfl, by kernel_rfl, by kernel_rfl, trivial⟩)
    · refine HT.cond0 rfl hb2 ?_
      refine HT.skip (qThen ?_)
      refine HT.seq ?_
      obtain ⟨y3, hc4, hr⟩ := of_bind hr
      refine HT.reg1 [20] [⟨none, .no⟩, ⟨none, .no⟩, ⟨none, .no⟩, ⟨none, .no⟩, ⟨none, .call [.imm (.sl (.st (.pair (.int .i64) (.pair (.int .i64) (.pair (.int .i64) (.int .i64)))))), .imm (.sl (.st (.pair (.int .i64) (.pair (.int .i64) (.pair (.int .i64) (.int .i64))))))] [⟨false, .bool, y3⟩] []⟩, ⟨none, .no⟩] ⟨[(20, .one (.dat .bool (!y3)))], [(1, .box [.dat (.int .i64) a1.1, .dat (.int .i64) a1.2.1, .dat (.sl (.st (.pair (.int .i64) (.pair (.int .i64) (.pair (.int .i64) (.int .i64)))))) a1.2.2]), (0, .box [.dat (.int .i64) a0.1, .dat (.int .i64) a0.2.1, .dat (.sl (.st (.pair (.int .i64) (.pair (.int .i64) (.pair (.int .i64) (.int .i64)))))) a0.2.2])], 2⟩ hP hN (by kernel_rfl) (allCons (f52_ok hc4) allNil) ?_
      rcases of_bif hr with ⟨hb5, hr⟩ | ⟨hb5, hr⟩
      · refine HT.cond1 rfl hb5 ?_
        refine HT.reg1 [4] [⟨none, .no⟩] ⟨[(4, .one (.dat .bool false))], [(1, .box [.dat (.int .i64) a1.1, .dat (.int .i64) a1.2.1, .dat (.sl (.st (.pair (.int .i64) (.pair (.int .i64) (.pair (.int .i64) (.int .i64)))))) a1.2.2]), (0, .box [.dat (.int .i64) a0.1, .dat (.int .i64) a0.2.1, .dat (.sl (.st (.pair (.int .i64) (.pair (.int .i64) (.pair (.int .i64) (.int .i64)))))) a0.2.2])], 2⟩ hP hN (by kernel_rfl) allNil ?_
        have hr := of_some hr
        subst hr
        exact HT.ret (qThenR ⟨[.one (.dat .bool false)], [], [], by kernel_rfl, by kernel_rfl, rfl, by kernel_rfl, by kernel_rfl, trivial⟩)
      · refine HT.cond0 rfl hb5 ?_
        refine HT.skip (qThen ?_)
        refine HT.reg1 [4] [⟨none, .no⟩] ⟨[(4, .one (.dat .bool true))], [(1, .box [.dat (.int .i64) a1.1, .dat (.int .i64) a1.2.1, .dat (.sl (.st (.pair (.int .i64) (.pair (.int .i64) (.pair (.int .i64) (.int .i64)))))) a1.2.2]), (0, .box [.dat (.int .i64) a0.1, .dat (.int .i64) a0.2.1, .dat (.sl (.st (.pair (.int .i64) (.pair (.int .i64) (.pair (.int .i64) (.int .i64)))))) a0.2.2])], 2⟩ hP hN (by kernel_rfl) allNil ?_
        have hr := of_some hr
        subst hr
        exact HT.ret ⟨[.one (.dat .bool true)], [], [], by kernel_rfl, by kernel_rfl, rfl, by kernel_rfl, by kernel_rfl, trivial⟩

noncomputable def laws_eqDesk (a0 : (Int × Int × List (Int × Int × Int × Int) × List Int × List Int) × (Int × Int × List Int × List Bool) × (Int × Int × List (Int × Int × Int × Int)) × List Int) (a1 : (Int × Int × List (Int × Int × Int × Int) × List Int × List Int) × (Int × Int × List Int × List Bool) × (Int × Int × List (Int × Int × Int × Int)) × List Int) : Option (Bool) :=
  (laws_eqMachine (a0.1.1, a0.1.2.1, a0.1.2.2.1, a0.1.2.2.2.1, a0.1.2.2.2.2) (a1.1.1, a1.1.2.1, a1.1.2.2.1, a1.1.2.2.2.1, a1.1.2.2.2.2)).bind fun y1 =>
  bif (!y1) then
    some false
  else
    (laws_eqPlain (a0.2.1.1, a0.2.1.2.1, a0.2.1.2.2.1, a0.2.1.2.2.2) (a1.2.1.1, a1.2.1.2.1, a1.2.1.2.2.1, a1.2.1.2.2.2)).bind fun y4 =>
    bif (!y4) then
      some false
    else
      (laws_eqGrammar (a0.2.2.1.1, a0.2.2.1.2.1, a0.2.2.1.2.2) (a1.2.2.1.1, a1.2.2.1.2.1, a1.2.2.1.2.2)).bind fun y7 =>
      bif (!y7) then
        some false
      else
        (laws_eqInt64S a0.2.2.2 a1.2.2.2).bind fun y10 =>
        bif (!y10) then
          some false
        else
          some true

theorem f8_ok {a0 : (Int × Int × List (Int × Int × Int × Int) × List Int × List Int) × (Int × Int × List Int × List Bool) × (Int × Int × List (Int × Int × Int × Int)) × List Int} {a1 : (Int × Int × List (Int × Int × Int × Int) × List Int × List Int) × (Int × Int × List Int × List Bool) × (Int × Int × List (Int × Int × Int × Int)) × List Int} {r : Bool} (hr : laws_eqDesk a0 a1 = some r) : CallOK Try.prog 8 [.imm (.st (.pair (.st (.pair (.int .i64) (.pair (.int .i64) (.pair (.sl (.st (.pair (.int .i64) (.pair (.int .i64) (.pair (.int .i64) (.int .i64)))))) (.pair (.sl (.int .i64)) (.sl (.int .i64))))))) (.pair (.st (.pair (.int .i64) (.pair (.int .i64) (.pair (.sl (.int .i64)) (.sl .bool))))) (.pair (.st (.pair (.int .i64) (.pair (.int .i64) (.sl (.st (.pair (.int .i64) (.pair (.int .i64) (.pair (.int .i64) (.int .i64))))))))) (.sl (.int .i64)))))) a0, .imm (.st (.pair (.st (.pair (.int .i64) (.pair (.int .i64) (.pair (.sl (.st (.pair (.int .i64) (.pair (.int .i64) (.pair (.int .i64) (.int .i64)))))) (.pair (.sl (.int .i64)) (.sl (.int .i64))))))) (.pair (.st (.pair (.int .i64) (.pair (.int .i64) (.pair (.sl (.int .i64)) (.sl .bool))))) (.pair (.st (.pair (.int .i64) (.pair (.int .i64) (.sl (.st (.pair (.int .i64) (.pair (.int .i64) (.pair (.int .i64) (.int .i64))))))))) (.sl (.int .i64)))))) a1] [⟨false, .bool, r⟩] [] := by
  unfold laws_eqDesk at hr
  refine CallOK.of_body (ts := [(false, .bool)]) Try.func8 rfl (by kernel_rfl) (Nat.le_of_ble_eq_true (by kernel_rfl)) fun cx hP hN hO hF => ?_
  have hO : cx.own.map Prod.fst = [] := hO
  have hF := hF rfl
  show HT cx ⟨[(0, .agg [.dat (.int .i64) a0.1.1, .dat (.int .i64) a0.1.2.1, .dat (.sl (.st (.pair (.int .i64) (.pair (.int .i64) (.pair (.int .i64) (.int .i64)))))) a0.1.2.2.1, .dat (.sl (.int .i64)) a0.1.2.2.2.1, .dat (.sl (.int .i64)) a0.1.2.2.2.2, .dat (.int .i64) a0.2.1.1, .dat (.int .i64) a0.2.1.2.1, .dat (.sl (.int .i64)) a0.2.1.2.2.1, .dat (.sl .bool) a0.2.1.2.2.2, .dat (.int .i64) a0.2.2.1.1, .dat (.int .i64) a0.2.2.1.2.1, .dat (.sl (.st (.pair (.int .i64) (.pair (.int .i64) (.pair (.int .i64) (.int .i64)))))) a0.2.2.1.2.2, .dat (.sl (.int .i64)) a0.2.2.2]), (1, .agg [.dat (.int .i64) a1.1.1, .dat (.int .i64) a1.1.2.1, .dat (.sl (.st (.pair (.int .i64) (.pair (.int .i64) (.pair (.int .i64) (.int .i64)))))) a1.1.2.2.1, .dat (.sl (.int .i64)) a1.1.2.2.2.1, .dat (.sl (.int .i64)) a1.1.2.2.2.2, .dat (.int .i64) a1.2.1.1, .dat (.int .i64) a1.2.1.2.1, .dat (.sl (.int .i64)) a1.2.1.2.2.1, .dat (.sl .bool) a1.2.1.2.2.2, .dat (.int .i64) a1.2.2.1.1, .dat (.int .i64) a1.2.2.1.2.1, .dat (.sl (.st (.pair (.int .i64) (.pair (.int .i64) (.pair (.int .i64) (.int .i64)))))) a1.2.2.1.2.2, .dat (.sl (.int .i64)) a1.2.2.2])], [], 0⟩ _ _
  refine HT.reg1 [2, 3] [⟨none, .no⟩, ⟨none, .no⟩, ⟨none, .no⟩] ⟨[(2, .one (.ptr 0 0)), (3, .one (.ptr 1 0))], [(1, .box [.dat (.int .i64) a1.1.1, .dat (.int .i64) a1.1.2.1, .dat (.sl (.st (.pair (.int .i64) (.pair (.int .i64) (.pair (.int .i64) (.int .i64)))))) a1.1.2.2.1, .dat (.sl (.int .i64)) a1.1.2.2.2.1, .dat (.sl (.int .i64)) a1.1.2.2.2.2, .dat (.int .i64) a1.2.1.1, .dat (.int .i64) a1.2.1.2.1, .dat (.sl (.int .i64)) a1.2.1.2.2.1, .dat (.sl .bool) a1.2.1.2.2.2, .dat (.int .i64) a1.2.2.1.1, .dat (.int .i64) a1.2.2.1.2.1, .dat (.sl (.st (.pair (.int .i64) (.pair (.int .i64) (.pair (.int .i64) (.int .i64)))))) a1.2.2.1.2.2, .dat (.sl (.int .i64)) a1.2.2.2]), (0, .box [.dat (.int .i64) a0.1.1, .dat (.int .i64) a0.1.2.1, .dat (.sl (.st (.pair (.int .i64) (.pair (.int .i64) (.pair (.int .i64) (.int .i64)))))) a0.1.2.2.1, .dat (.sl (.int .i64)) a0.1.2.2.2.1, .dat (.sl (.int .i64)) a0.1.2.2.2.2, .dat (.int .i64) a0.2.1.1, .dat (.int .i64) a0.2.1.2.1, .dat (.sl (.int .i64)) a0.2.1.2.2.1, .dat (.sl .bool) a0.2.1.2.2.2, .dat (.int .i64) a0.2.2.1.1, .dat (.int .i64) a0.2.2.1.2.1, .dat (.sl (.st (.pair (.int .i64) (.pair (.int .i64) (.pair (.int .i64) (.int .i64)))))) a0.2.2.1.2.2, .dat (.sl (.int .i64)) a0.2.2.2])], 2⟩ hP hN (by kernel_rfl) allNil ?_
  refine HT.seq ?_
  obtain ⟨y1, hc2, hr⟩ := of_bind hr
  refine HT.reg1 [2, 3, 10] [⟨none, .no⟩, ⟨none, .no⟩, ⟨none, .no⟩, ⟨none, .no⟩, ⟨none, .call [.imm (.st (.pair (.int .i64) (.pair (.int .i64) (.pair (.sl (.st (.pair (.int .i64) (.pair (.int .i64) (.pair (.int .i64) (.int .i64)))))) (.pair (.sl (.int .i64)) (.sl (.int .i64))))))), .imm (.st (.pair (.int .i64) (.pair (.int .i64) (.pair (.sl (.st (.pair (.int .i64) (.pair (.int .i64) (.pair (.int .i64) (.int .i64)))))) (.pair (.sl (.int .i64)) (.sl (.int .i64)))))))] [⟨false, .bool, y1⟩] []⟩, ⟨none, .no⟩] ⟨[(2, .one (.ptr 0 0)), (3, .one (.ptr 1 0)), (10, .one (.dat .bool (!y1)))], [(1, .box [.dat (.int .i64) a1.1.1, .dat (.int .i64) a1.1.2.1, .dat (.sl (.st (.pair (.int .i64) (.pair (.int .i64) (.pair (.int .i64) (.int .i64)))))) a1.1.2.2.1, .dat (.sl (.int .i64)) a1.1.2.2.2.1, .dat (.sl (.int .i64)) a1.1.2.2.2.2, .dat (.int .i64) a1.2.1.1, .dat (.int .i64) a1.2.1.2.1, .dat (.sl (.int .i64)) a1.2.1.2.2.1, .dat (.sl .bool) a1.2.1.2.2.2, .dat (.int .i64) a1.2.2.1.1, .dat (.int .i64) a1.2.2.1.2.1, .dat (.sl (.st (.pair (.int .i64) (.pair (.int .i64) (.pair (.int .i64) (.int .i64)))))) a1.2.2.1.2.2, .dat (.sl (.int .i64)) a1.2.2.2]), (0, .box [.dat (.int .i64) a0.1.1, .dat (.int .i64) a0.1.2.1, .dat (.sl (.st (.pair (.int .i64) (.pair (.int .i64) (.pair (.int .i64) (.int .i64)))))) a0.1.2.2.1, .dat (.sl (.int .i64)) a0.1.2.2.2.1, .dat (.sl (.int .i64)) a0.1.2.2.2.2, .dat (.int .i64) a0.2.1.1, .dat (.int .i64) a0.2.1.2.1, .dat (.sl (.int .i64)) a0.2.1.2.2.1, .dat (.sl .bool) a0.2.1.2.2.2, .dat (.int .i64) a0.2.2.1.1, .dat (.int .i64) a0.2.2.1.2.1, .dat (.sl (.st (.pair (.int .i64) (.pair (.int .i64) (.pair (.int .i64) (.int .i64)))))) a0.2.2.1.2.2, .dat (.sl (.int .i64)) a0.2.2.2])], 2⟩ hP hN (by kernel_rfl) (allCons (f17_ok hc2) allNil) ?_
  rcases of_bif hr with ⟨hb3, hr⟩ | ⟨hb3, hr⟩
  · refine HT.cond1 rfl hb3 ?_
    refine HT.reg1 [4] [⟨none, .no⟩] ⟨[(4, .one (.dat .bool false))], [(1, .box [.dat (.int .i64) a1.1.1, .dat (.int .i64) a1.1.2.1, .dat (.sl (.st (.pair (.int .i64) (.pair (.int .i64) (.pair (.int .i64) (.int .i64)))))) a1.1.2.2.1, .dat (.sl (.int .i64)) a1.1.2.2.2.1, .dat (.sl (.int .i64)) a1.1.2.2.2.2, .dat (.int .i64) a1.2.1.1, .dat (.int .i64) a1.2.1.2.1, .dat (.sl (.int .i64)) a1.2.1.2.2.1, .dat (.sl .bool) a1.2.1.2.2.2, .dat (.int .i64) a1.2.2.1.1, .dat (.int .i64) a1.2.2.1.2.1, .dat (.sl (.st (.pair (.int .i64) (.pair (.int .i64) (.pair (.int .i64) (.int .i64)))))) a1.2.2.1.2.2, .dat (.sl (.int .i64)) a1.2.2.2]), (0, .box [.dat (.int .i64) a0.1.1, .dat (.int .i64) a0.1.2.1, .dat (.sl (.st (.pair (.int .i64) (.pair (.int .i64) (.pair (.int .i64) (.int .i64)))))) a0.1.2.2.1, .dat (.sl (.int .i64)) a0.1.2.2.2.1, .dat (.sl (.int .i64)) a0.1.2.2.2.2, .dat (.int .i64) a0.2.1.1, .dat (.int .i64) a0.2.1.2.1, .dat (.sl (.int .i64)) a0.2.1.2.2.1, .dat (.sl .bool) a0.2.1.2.2.2, .dat (.int .i64) a0.2.2.1.1, .dat (.int .i64) a0.2.2.1.2.1, .dat (.sl (.st (.pair (.int .i64) (.pair (.int .i64) (.pair (.int .i64) (.int .i64)))))) a0.2.2.1.2.2, .dat (.sl (.int .i64)) a0.2.2.2])], 2⟩ hP hN (by kernel_rfl) allNil ?_
    have hr := of_some hr
    subst hr
    exact HT.ret (qThenR ⟨[.one (.dat .bool false)], [], [], by kernel_rfl, by kernel_rfl, rfl, by kernel_rfl, by kernel_rfl, trivial⟩)
  · refine HT.cond0 rfl hb3 ?_
    refine HT.skip (qThen ?_)
    refine HT.seq ?_
    obtain ⟨y4, hc5, hr⟩ := of_bind hr
    refine HT.reg1 [2, 3, 16] [⟨none, .no⟩, ⟨none, .no⟩, ⟨none, .no⟩, ⟨none, .no⟩, ⟨none, .call [.imm (.st (.pair (.int .i64) (.pair (.int .i64) (.pair (.sl (.int .i64)) (.sl .bool))))), .imm (.st (.pair (.int .i64) (.pair (.int .i64) (.pair (.sl (.int .i64)) (.sl .bool)))))] [⟨false, .bool, y4⟩] []⟩, ⟨none, .no⟩] ⟨[(2, .one (.ptr 0 0)), (3, .one (.ptr 1 0)), (16, .one (.dat .bool (!y4)))], [(1, .box [.dat (.int .i64) a1.1.1, .dat (.int .i64) a1.1.2.1, .dat (.sl (.st (.pair (.int .i64) (.pair (.int .i64) (.pair (.int .i64) (.int .i64)))))) a1.1.2.2.1, .dat (.sl (.int .i64)) a1.1.2.2.2.1, .dat (.sl (.int .i64)) a1.1.2.2.2.2, .dat (.int .i64) a1.2.1.1, .dat (.int .i64) a1.2.1.2.1, .dat (.sl (.int .i64)) a1.2.1.2.2.1, .dat (.sl .bool) a1.2.1.2.2.2, .dat (.int .i64) a1.2.2.1.1, .dat (.int .i64) a1.2.2.1.2.1, .dat (.sl (.st (.pair (.int .i64) (.pair (.int .i64) (.pair (.int .i64) (.int .i64)))))) a1.2.2.1.2.2, .dat (.sl (.int .i64)) a1.2.2.2]), (0, .box [.dat (.int .i64) a0.1.1, .dat (.int .i64) a0.1.2.1, .dat (.sl (.st (.pair (.int .i64) (.pair (.int .i64) (.pair (.int .i64) (.int .i64)))))) a0.1.2.2.1, .dat (.sl (.int .i64)) a0.1.2.2.2.1, .dat (.sl (.int .i64)) a0.1.2.2.2.2, .dat (.int .i64) a0.2.1.1, .dat (.int .i64) a0.2.1.2.1, .dat (.sl (.int .i64)) a0.2.1.2.2.1, .dat (.sl .bool) a0.2.1.2.2.2, .dat (.int .i64) a0.2.2.1.1, .dat (.int .i64) a0.2.2.1.2.1, .dat (.sl (.st (.pair (.int .i64) (.pair (.int .i64) (.pair (.int .i64) (.int .i64)))))) a0.2.2.1.2.2, .dat (.sl (.int .i64)) a0.2.2.2])], 2⟩ hP hN (by kernel_rfl) (allCons (f18_ok hc5) allNil) ?_
    rcases of_bif hr with ⟨hb6, hr⟩ | ⟨hb6, hr⟩
    · refine HT.cond1 rfl hb6 ?_
      refine HT.reg1 [4] [⟨none, .no⟩] ⟨[(4, .one (.dat .bool false))], [(1, .box [.dat (.int .i64) a1.1.1, .dat (.int .i64) a1.1.2.1, .dat (.sl (.st (.pair (.int .i64) (.pair (.int .i64) (.pair (.int .i64) (.int .i64)))))) a1.1.2.2.1, .dat (.sl (.int .i64)) a1.1.2.2.2.1, .dat (.sl (.int .i64)) a1.1.2.2.2.2, .dat (.int .i64) a1.2.1.1, .dat (.int .i64) a1.2.1.2.1, .dat (.sl (.int .i64)) a1.2.1.2.2.1, .dat (.sl .bool) a1.2.1.2.2.2, .dat (.int .i64) a1.2.2.1.1, .dat (.int .i64) a1.2.2.1.2.1, .dat (.sl (.st (.pair (.int .i64) (.pair (.int .i64) (.pair (.int .i64) (.int .i64)))))) a1.2.2.1.2.2, .dat (.sl (.int .i64)) a1.2.2.2]), (0, .box [.dat (.int .i64) a0.1.1, .dat (.int .i64) a0.1.2.1, .dat (.sl (.st (.pair (.int .i64) (.pair (.int .i64) (.pair (.int .i64) (.int .i64)))))) a0.1.2.2.1, .dat (.sl (.int .i64)) a0.1.2.2.2.1, .dat (.sl (.int .i64)) a0.1.2.2.2.2, .dat (.int .i64) a0.2.1.1, .dat (.int .i64) a0.2.1.2.1, .dat (.sl (.int .i64)) a0.2.1.2.2.1, .dat (.sl .bool) a0.2.1.2.2.2, .dat (.int .i64) a0.2.2.1.1, .dat (.int .i64) a0.2.2.1.2.1, .dat (.sl (.st (.pair (.int .i64) (.pair (.int .i64) (.pair (.int .i64) (.int .i64)))))) a0.2.2.1.2.2, .dat (.sl (.int .i64)) a0.2.2.2])], 2⟩ hP hN (by kernel_rfl) allNil ?_
      have hr := of_some hr
      subst hr
      exact HT.ret (qThenR ⟨[.one (.dat .bool false)], [], [], by kernel_rfl, by kernel_rfl, rfl, by kernel_rfl, by kernel_rfl, trivial⟩)
    · refine HT.cond0 rfl hb6 ?_
      refine HT.skip (qThen ?_)
      refine HT.seq ?_
      obtain ⟨y7, hc8, hr⟩ := of_bind hr
      refine HT.reg1 [2, 3, 22] [⟨none, .no⟩, ⟨none, .no⟩, ⟨none, .no⟩, ⟨none, .no⟩, ⟨none, .call [.imm (.st (.pair (.int .i64) (.pair (.int .i64) (.sl (.st (.pair (.int .i64) (.pair (.int .i64) (.pair (.int .i64) (.int .i64))))))))), .imm (.st (.pair (.int .i64) (.pair (.int .i64) (.sl (.st (.pair (.int .i64) (.pair (.int .i64) (.pair (.int .i64) (.int .i64)))))))))] [⟨false, .bool, y7⟩] []⟩, ⟨none, .no⟩] ⟨[(2, .one (.ptr 0 0)), (3, .one (.ptr 1 0)), (22, .one (.dat .bool (!y7)))], [(1, .box [.dat (.int .i64) a1.1.1, .dat (.int .i64) a1.1.2.1, .dat (.sl (.st (.pair (.int .i64) (.pair (.int .i64) (.pair (.int .i64) (.int .i64)))))) a1.1.2.2.1, .dat (.sl (.int .i64)) a1.1.2.2.2.1, .dat (.sl (.int .i64)) a1.1.2.2.2.2, .dat (.int .i64) a1.2.1.1, .dat (.int .i64) a1.2.1.2.1, .dat (.sl (.int .i64)) a1.2.1.2.2.1, .dat (.sl .bool) a1.2.1.2.2.2, .dat (.int .i64) a1.2.2.1.1, .dat (.int .i64) a1.2.2.1.2.1, .dat (.sl (.st (.pair (.int .i64) (.pair (.int .i64) (.pair (.int .i64) (.int .i64)))))) a1.2.2.1.2.2, .dat (.sl (.int .i64)) a1.2.2.2]), (0, .box [.dat (.int .i64) a0.1.1, .dat (.int .i64) a0.1.2.1, .dat (.sl (.st (.pair (.int .i64) (.pair (.int .i64) (.pair (.int .i64) (.int .i64)))))) a0.1.2.2.1, .dat (.sl (.int .i64)) a0.1.2.2.2.1, .dat (.sl (.int .i64)) a0.1.2.2.2.2, .dat (.int .i64) a0.2.1.1, .dat (.int .i64) a0.2.1.2.1, .dat (.sl (.int .i64)) a0.2.1.2.2.1, .dat (.sl .bool) a0.2.1.2.2.2, .dat (.int .i64) a0.2.2.1.1, .dat (.int .i64) a0.2.2.1.2.1, .dat (.sl (.st (.pair (.int .i64) (.pair (.int .i64) (.pair (.int .i64) (.int .i64)))))) a0.2.2.1.2.2, .dat (.sl (.int .i64)) a0.2.2.2])], 2⟩ hP hN (by kernel_rfl) (allCons (f19_ok hc8) allNil) ?_
      rcases of_bif hr with ⟨hb9, hr⟩ | ⟨hb9, hr⟩
      · refine HT.cond1 rfl hb9 ?_
        refine HT.reg1 [4] [⟨none, .no⟩] ⟨[(4, .one (.dat .bool false))], [(1, .box [.dat (.int .i64) a1.1.1, .dat (.int .i64) a1.1.2.1, .dat (.sl (.st (.pair (.int .i64) (.pair (.int .i64) (.pair (.int .i64) (.int .i64)))))) a1.1.2.2.1, .dat (.sl (.int .i64)) a1.1.2.2.2.1, .dat (.sl (.int .i64)) a1.1.2.2.2.2, .dat (.int .i64) a1.2.1.1, .dat (.int .i64) a1.2.1.2.1, .dat (.sl (.int .i64)) a1.2.1.2.2.1, .dat (.sl .bool) a1.2.1.2.2.2, .dat (.int .i64) a1.2.2.1.1, .dat (.int .i64) a1.2.2.1.2.1, .dat (.sl (.st (.pair (.int .i64) (.pair (.int .i64) (.pair (.int .i64) (.int .i64)))))) a1.2.2.1.2.2, .dat (.sl (.int .i64)) a1.2.2.2]), (0, .box [.dat (.int .i64) a0.1.1, .dat (.int .i64) a0.1.2.1, .dat (.sl (.st (.pair (.int .i64) (.pair (.int .i64) (.pair (.int .i64) (.int .i64)))))) a0.1.2.2.1, .dat (.sl (.int .i64)) a0.1.2.2.2.1, .dat (.sl (.int .i64)) a0.1.2.2.2.2, .dat (.int .i64) a0.2.1.1, .dat (.int .i64) a0.2.1.2.1, .dat (.sl (.int .i64)) a0.2.1.2.2.1, .dat (.sl .bool) a0.2.1.2.2.2, .dat (.int .i64) a0.2.2.1.1, .dat (.int .i64) a0.2.2.1.2.1, .dat (.sl (.st (.pair (.int .i64) (.pair (.int .i64) (.pair (.int .i64) (.int .i64)))))) a0.2.2.1.2.2, .dat (.sl (.int .i64)) a0.2.2.2])], 2⟩ hP hN (by kernel_rfl) allNil ?_
        have hr := of_some hr
        subst hr
        exact HT.ret (qThenR ⟨[.one (.dat .bool false)], [], [], by kernel_rfl, by kernel_rfl, rfl, by kernel_rfl, by kernel_rfl, trivial⟩)
      · refine HT.cond0 rfl hb9 ?_
        refine HT.skip (qThen ?_)
        refine HT.seq ?_
        obtain ⟨y10, hc11, hr⟩ := of_bind hr
        refine HT.reg1 [28] [⟨none, .no⟩, ⟨none, .no⟩, ⟨none, .no⟩, ⟨none, .no⟩, ⟨none, .call [.imm (.sl (.int .i64)), .imm (.sl (.int .i64))] [⟨false, .bool, y10⟩] []⟩, ⟨none, .no⟩] ⟨[(28, .one (.dat .bool (!y10)))], [(1, .box [.dat (.int .i64) a1.1.1, .dat (.int .i64) a1.1.2.1, .dat (.sl (.st (.pair (.int .i64) (.pair (.int .i64) (.pair (.int .i64) (.int .i64)))))) a1.1.2.2.1, .dat (.sl (.int .i64)) a1.1.2.2.2.1, .dat (.sl (.int .i64)) a1.1.2.2.2.2, .dat (.int .i64) a1.2.1.1, .dat (.int .i64) a1.2.1.2.1, .dat (.sl (.int .i64)) a1.2.1.2.2.1, .dat (.sl .bool) a1.2.1.2.2.2, .dat (.int .i64) a1.2.2.1.1, .dat (.int .i64) a1.2.2.1.2.1, .dat (.sl (.st (.pair (.int .i64) (.pair (.int .i64) (.pair (.int .i64) (.int .i64)))))) a1.2.2.1.2.2, .dat (.sl (.int .i64)) a1.2.2.2]), (0, .box [.dat (.int .i64) a0.1.1, .dat (.int .i64) a0.1.2.1, .dat (.sl (.st (.pair (.int .i64) (.pair (.int .i64) (.pair (.int .i64) (.int .i64)))))) a0.1.2.2.1, .dat (.sl (.int .i64)) a0.1.2.2.2.1, .dat (.sl (.int .i64)) a0.1.2.2.2.2, .dat (.int .i64) a0.2.1.1, .dat (.int .i64) a0.2.1.2.1, .dat (.sl (.int .i64)) a0.2.1.2.2.1, .dat (.sl .bool) a0.2.1.2.2.2, .dat (.int .i64) a0.2.2.1.1, .dat (.int .i64) a0.2.2.1.2.1, .dat (.sl (.st (.pair (.int .i64) (.pair (.int .i64) (.pair (.int .i64) (.int .i64)))))) a0.2.2.1.2.2, .dat (.sl (.int .i64)) a0.2.2.2])], 2⟩ hP hN (by kernel_rfl) (allCons (f20_ok hc11) allNil) ?_
        rcases of_bif hr with ⟨hb12, hr⟩ | ⟨hb12, hr⟩
        · refine HT.cond1 rfl hb12 ?_
          refine HT.reg1 [4] [⟨none, .no⟩] ⟨[(4, .one (.dat .bool false))], [(1, .box [.dat (.int .i64) a1.1.1, .dat (.int .i64) a1.1.2.1, .dat (.sl (.st (.pair (.int .i64) (.pair (.int .i64) (.pair (.int .i64) (.int .i64)))))) a1.1.2.2.1, .dat (.sl (.int .i64)) a1.1.2.2.2.1, .dat (.sl (.int .i64)) a1.1.2.2.2.2, .dat (.int .i64) a1.2.1.1, .dat (.int .i64) a1.2.1.2.1, .dat (.sl (.int .i64)) a1.2.1.2.2.1, .dat (.sl .bool) a1.2.1.2.2.2, .dat (.int .i64) a1.2.2.1.1, .dat (.int .i64) a1.2.2.1.2.1, .dat (.sl (.st (.pair (.int .i64) (.pair (.int .i64) (.pair (.int .i64) (.int .i64)))))) a1.2.2.1.2.2, .dat (.sl (.int .i64)) a1.2.2.2]), (0, .box [.dat (.int .i64) a0.1.1, .dat (.int .i64) a0.1.2.1, .dat (.sl (.st (.pair (.int .i64) (.pair (.int .i64) (.pair (.int .i64) (.int .i64)))))) a0.1.2.2.1, .dat (.sl (.int .i64)) a0.1.2.2.2.1, .dat (.sl (.int .i64)) a0.1.2.2.2.2, .dat (.int .i64) a0.2.1.1, .dat (.int .i64) a0.2.1.2.1, .dat (.sl (.int .i64)) a0.2.1.2.2.1, .dat (.sl .bool) a0.2.1.2.2.2, .dat (.int .i64) a0.2.2.1.1, .dat (.int .i64) a0.2.2.1.2.1, .dat (.sl (.st (.pair (.int .i64) (.pair (.int .i64) (.pair (.int .i64) (.int .i64)))))) a0.2.2.1.2.2, .dat (.sl (.int .i64)) a0.2.2.2])], 2⟩ hP hN (by kernel_rfl) allNil ?_
          have hr := of_some hr
          subst hr
          exact HT.ret (qThenR ⟨[.one (.dat .bool false)], [], [], by kernel_rfl, by kernel_rfl, rfl, by kernel_rfl, by kernel_rfl, trivial⟩)
        · refine HT.cond0 rfl hb12 ?_
          refine HT.skip (qThen ?_)
          refine HT.reg1 [4] [⟨none, .no⟩] ⟨[(4, .one (.dat .bool true))], [(1, .box [.dat (.int .i64) a1.1.1, .dat (.int .i64) a1.1.2.1, .dat (.sl (.st (.pair (.int .i64) (.pair (.int .i64) (.pair (.int .i64) (.int .i64)))))) a1.1.2.2.1, .dat (.sl (.int .i64)) a1.1.2.2.2.1, .dat (.sl (.int .i64)) a1.1.2.2.2.2, .dat (.int .i64) a1.2.1.1, .dat (.int .i64) a1.2.1.2.1, .dat (.sl (.int .i64)) a1.2.1.2.2.1, .dat (.sl .bool) a1.2.1.2.2.2, .dat (.int .i64) a1.2.2.1.1, .dat (.int .i64) a1.2.2.1.2.1, .dat (.sl (.st (.pair (.int .i64) (.pair (.int .i64) (.pair (.int .i64) (.int .i64)))))) a1.2.2.1.2.2, .dat (.sl (.int .i64)) a1.2.2.2]), (0, .box [.dat (.int .i64) a0.1.1, .dat (.int .i64) a0.1.2.1, .dat (.sl (.st (.pair (.int .i64) (.pair (.int .i64) (.pair (.int .i64) (.int .i64)))))) a0.1.2.2.1, .dat (.sl (.int .i64)) a0.1.2.2.2.1, .dat (.sl (.int .i64)) a0.1.2.2.2.2, .dat (.int .i64) a0.2.1.1, .dat (.int .i64) a0.2.1.2.1, .dat (.sl (.int .i64)) a0.2.1.2.2.1, .dat (.sl .bool) a0.2.1.2.2.2, .dat (.int .i64) a0.2.2.1.1, .dat (.int .i64) a0.2.2.1.2.1, .dat (.sl (.st (.pair (.int .i64) (.pair (.int .i64) (.pair (.int .i64) (.int .i64)))))) a0.2.2.1.2.2, .dat (.sl (.int .i64)) a0.2.2.2])], 2⟩ hP hN (by kernel_rfl) allNil ?_
          have hr := of_some hr
          subst hr
          exact HT.ret ⟨[.one (.dat .bool true)], [], [], by kernel_rfl, by kernel_rfl, rfl, by kernel_rfl, by kernel_rfl, trivial⟩

noncomputable def laws_FnExactValidDesk (a0 : (Int × Int × List (Int × Int × Int × Int) × List Int × List Int) × (Int × Int × List Int × List Bool) × (Int × Int × List (Int × Int × Int × Int)) × List Int) : Option (Bool) :=
  (laws_szDesk ((a0.1.1, a0.1.2.1, a0.1.2.2.1, a0.1.2.2.2.1, a0.1.2.2.2.2), (a0.2.1.1, a0.2.1.2.1, a0.2.1.2.2.1, a0.2.1.2.2.2), (a0.2.2.1.1, a0.2.2.1.2.1, a0.2.2.1.2.2), a0.2.2.2) (1048576 : Int)).bind fun y1 =>
  bif (decide (y1 < (0 : Int))) then
    some true
  else
    (laws_toDesk ((a0.1.1, a0.1.2.1, a0.1.2.2.1, a0.1.2.2.2.1, a0.1.2.2.2.2), (a0.2.1.1, a0.2.1.2.1, a0.2.1.2.2.1, a0.2.1.2.2.2), (a0.2.2.1.1, a0.2.2.1.2.1, a0.2.2.1.2.2), a0.2.2.2)).bind fun y4 =>
    (spec_ValidDesk ((y4.1.1, y4.1.2.1, y4.1.2.2.1, y4.1.2.2.2.1, y4.1.2.2.2.2), (y4.2.1.1, y4.2.1.2.1, y4.2.1.2.2.1, y4.2.1.2.2.2), (y4.2.2.1.1, y4.2.2.1.2.1, y4.2.2.1.2.2), y4.2.2.2)).bind fun y6 =>
    (laws_toDesk ((a0.1.1, a0.1.2.1, a0.1.2.2.1, a0.1.2.2.2.1, a0.1.2.2.2.2), (a0.2.1.1, a0.2.1.2.1, a0.2.1.2.2.1, a0.2.1.2.2.2), (a0.2.2.1.1, a0.2.2.1.2.1, a0.2.2.1.2.2), a0.2.2.2)).bind fun y8 =>
    (impl_ValidDesk ((y8.1.1, y8.1.2.1, y8.1.2.2.1, y8.1.2.2.2.1, y8.1.2.2.2.2), (y8.2.1.1, y8.2.1.2.1, y8.2.1.2.2.1, y8.2.1.2.2.2), (y8.2.2.1.1, y8.2.2.1.2.1, y8.2.2.1.2.2), y8.2.2.2)).bind fun y10 =>
    bif (y10 != y6) then
      some false
    else
      (laws_toDesk ((a0.1.1, a0.1.2.1, a0.1.2.2.1, a0.1.2.2.2.1, a0.1.2.2.2.2), (a0.2.1.1, a0.2.1.2.1, a0.2.1.2.2.1, a0.2.1.2.2.2), (a0.2.2.1.1, a0.2.2.1.2.1, a0.2.2.1.2.2), a0.2.2.2)).bind fun y13 =>
      (laws_eqDesk ((y8.1.1, y8.1.2.1, y8.1.2.2.1, y8.1.2.2.2.1, y8.1.2.2.2.2), (y8.2.1.1, y8.2.1.2.1, y8.2.1.2.2.1, y8.2.1.2.2.2), (y8.2.2.1.1, y8.2.2.1.2.1, y8.2.2.1.2.2), y8.2.2.2) ((y13.1.1, y13.1.2.1, y13.1.2.2.1, y13.1.2.2.2.1, y13.1.2.2.2.2), (y13.2.1.1, y13.2.1.2.1, y13.2.1.2.2.1, y13.2.1.2.2.2), (y13.2.2.1.1, y13.2.2.1.2.1, y13.2.2.1.2.2), y13.2.2.2)).bind fun y15 =>
      bif (!y15) then
        some false
      else
        some true

theorem f5_ok {a0 : (Int × Int × List (Int × Int × Int × Int) × List Int × List Int) × (Int × Int × List Int × List Bool) × (Int × Int × List (Int × Int × Int × Int)) × List Int} {r : Bool} (hr : laws_FnExactValidDesk a0 = some r) : CallOK Try.prog 5 [.imm (.st (.pair (.st (.pair (.int .i64) (.pair (.int .i64) (.pair (.sl (.st (.pair (.int .i64) (.pair (.int .i64) (.pair (.int .i64) (.int .i64)))))) (.pair (.sl (.int .i64)) (.sl (.int .i64))))))) (.pair (.st (.pair (.int .i64) (.pair (.int .i64) (.pair (.sl (.int .i64)) (.sl .bool))))) (.pair (.st (.pair (.int .i64) (.pair (.int .i64) (.sl (.st (.pair (.int .i64) (.pair (.int .i64) (.pair (.int .i64) (.int .i64))))))))) (.sl (.int .i64)))))) a0] [⟨false, .bool, r⟩] [] := by
  unfold laws_FnExactValidDesk at hr
  refine CallOK.of_body (ts := [(false, .bool)]) Try.func5 rfl (by kernel_rfl) (Nat.le_of_ble_eq_true (by kernel_rfl)) fun cx hP hN hO hF => ?_
  have hO : cx.own.map Prod.fst = [] := hO
  have hF := hF rfl
  show HT cx ⟨[(0, .agg [.dat (.int .i64) a0.1.1, .dat (.int .i64) a0.1.2.1, .dat (.sl (.st (.pair (.int .i64) (.pair (.int .i64) (.pair (.int .i64) (.int .i64)))))) a0.1.2.2.1, .dat (.sl (.int .i64)) a0.1.2.2.2.1, .dat (.sl (.int .i64)) a0.1.2.2.2.2, .dat (.int .i64) a0.2.1.1, .dat (.int .i64) a0.2.1.2.1, .dat (.sl (.int .i64)) a0.2.1.2.2.1, .dat (.sl .bool) a0.2.1.2.2.2, .dat (.int .i64) a0.2.2.1.1, .dat (.int .i64) a0.2.2.1.2.1, .dat (.sl (.st (.pair (.int .i64) (.pair (.int .i64) (.pair (.int .i64) (.int .i64)))))) a0.2.2.1.2.2, .dat (.sl (.int .i64)) a0.2.2.2])], [], 0⟩ _ _
  refine HT.reg1 [1] [⟨none, .no⟩, ⟨none, .no⟩] ⟨[(1, .one (.ptr 0 0))], [(0, .box [.dat (.int .i64) a0.1.1, .dat (.int .i64) a0.1.2.1, .dat (.sl (.st (.pair (.int .i64) (.pair (.int .i64) (.pair (.int .i64) (.int .i64)))))) a0.1.2.2.1, .dat (.sl (.int .i64)) a0.1.2.2.2.1, .dat (.sl (.int .i64)) a0.1.2.2.2.2, .dat (.int .i64) a0.2.1.1, .dat (.int .i64) a0.2.1.2.1, .dat (.sl (.int .i64)) a0.2.1.2.2.1, .dat (.sl .bool) a0.2.1.2.2.2, .dat (.int .i64) a0.2.2.1.1, .dat (.int .i64) a0.2.2.1.2.1, .dat (.sl (.st (.pair (.int .i64) (.pair (.int .i64) (.pair (.int .i64) (.int .i64)))))) a0.2.2.1.2.2, .dat (.sl (.int .i64)) a0.2.2.2])], 1⟩ hP hN (by kernel_rfl) allNil ?_
  refine HT.reg1 [1, 3] [⟨none, .no⟩] ⟨[(1, .one (.ptr 0 0)), (3, .one (.dat (.int .i64) (1048576 : Int)))], [(0, .box [.dat (.int .i64) a0.1.1, .dat (.int .i64) a0.1.2.1, .dat (.sl (.st (.pair (.int .i64) (.pair (.int .i64) (.pair (.int .i64) (.int .i64)))))) a0.1.2.2.1, .dat (.sl (.int .i64)) a0.1.2.2.2.1, .dat (.sl (.int .i64)) a0.1.2.2.2.2, .dat (.int .i64) a0.2.1.1, .dat (.int .i64) a0.2.1.2.1, .dat (.sl (.int .i64)) a0.2.1.2.2.1, .dat (.sl .bool) a0.2.1.2.2.2, .dat (.int .i64) a0.2.2.1.1, .dat (.int .i64) a0.2.2.1.2.1, .dat (.sl (.st (.pair (.int .i64) (.pair (.int .i64) (.pair (.int .i64) (.int .i64)))))) a0.2.2.1.2.2, .dat (.sl (.int .i64)) a0.2.2.2])], 1⟩ hP hN (by kernel_rfl) allNil ?_
  obtain ⟨y1, hc2, hr⟩ := of_bind hr
  refine HT.reg1 [1, 3] [⟨none, .no⟩, ⟨none, .no⟩, ⟨none, .call [.imm (.st (.pair (.st (.pair (.int .i64) (.pair (.int .i64) (.pair (.sl (.st (.pair (.int .i64) (.pair (.int .i64) (.pair (.int .i64) (.int .i64)))))) (.pair (.sl (.int .i64)) (.sl (.int .i64))))))) (.pair (.st (.pair (.int .i64) (.pair (.int .i64) (.pair (.sl (.int .i64)) (.sl .bool))))) (.pair (.st (.pair (.int .i64) (.pair (.int .i64) (.sl (.st (.pair (.int .i64) (.pair (.int .i64) (.pair (.int .i64) (.int .i64))))))))) (.sl (.int .i64)))))), .imm (.int .i64)] [⟨false, (.int .i64), y1⟩] []⟩, ⟨none, .no⟩] ⟨[(1, .one (.ptr 0 0)), (3, .one (.dat (.int .i64) y1))], [(0, .box [.dat (.int .i64) a0.1.1, .dat (.int .i64) a0.1.2.1, .dat (.sl (.st (.pair (.int .i64) (.pair (.int .i64) (.pair (.int .i64) (.int .i64)))))) a0.1.2.2.1, .dat (.sl (.int .i64)) a0.1.2.2.2.1, .dat (.sl (.int .i64)) a0.1.2.2.2.2, .dat (.int .i64) a0.2.1.1, .dat (.int .i64) a0.2.1.2.1, .dat (.sl (.int .i64)) a0.2.1.2.2.1, .dat (.sl .bool) a0.2.1.2.2.2, .dat (.int .i64) a0.2.2.1.1, .dat (.int .i64) a0.2.2.1.2.1, .dat (.sl (.st (.pair (.int .i64) (.pair (.int .i64) (.pair (.int .i64) (.int .i64)))))) a0.2.2.1.2.2, .dat (.sl (.int .i64)) a0.2.2.2])], 1⟩ hP hN (by kernel_rfl) (allCons (f11_ok hc2) allNil) ?_
  refine HT.seq ?_
  refine HT.reg1 [1, 11] [⟨none, .no⟩, ⟨none, .no⟩] ⟨[(1, .one (.ptr 0 0)), (11, .one (.dat .bool (decide (y1 < (0 : Int)))))], [(0, .box [.dat (.int .i64) a0.1.1, .dat (.int .i64) a0.1.2.1, .dat (.sl (.st (.pair (.int .i64) (.pair (.int .i64) (.pair (.int .i64) (.int .i64)))))) a0.1.2.2.1, .dat (.sl (.int .i64)) a0.1.2.2.2.1, .dat (.sl (.int .i64)) a0.1.2.2.2.2, .dat (.int .i64) a0.2.1.1, .dat (.int .i64) a0.2.1.2.1, .dat (.sl (.int .i64)) a0.2.1.2.2.1, .dat (.sl .bool) a0.2.1.2.2.2, .dat (.int .i64) a0.2.2.1.1, .dat (.int .i64) a0.2.2.1.2.1, .dat (.sl (.st (.pair (.int .i64) (.pair (.int .i64) (.pair (.int .i64) (.int .i64)))))) a0.2.2.1.2.2, .dat (.sl (.int .i64)) a0.2.2.2])], 1⟩ hP hN (by kernel_rfl) allNil ?_
  rcases of_bif hr with ⟨hb3, hr⟩ | ⟨hb3, hr⟩
  · refine HT.cond1 rfl hb3 ?_
    refine HT.reg1 [2] [⟨none, .no⟩] ⟨[(2, .one (.dat .bool true))], [(0, .box [.dat (.int .i64) a0.1.1, .dat (.int .i64) a0.1.2.1, .dat (.sl (.st (.pair (.int .i64) (.pair (.int .i64) (.pair (.int .i64) (.int .i64)))))) a0.1.2.2.1, .dat (.sl (.int .i64)) a0.1.2.2.2.1, .dat (.sl (.int .i64)) a0.1.2.2.2.2, .dat (.int .i64) a0.2.1.1, .dat (.int .i64) a0.2.1.2.1, .dat (.sl (.int .i64)) a0.2.1.2.2.1, .dat (.sl .bool) a0.2.1.2.2.2, .dat (.int .i64) a0.2.2.1.1, .dat (.int .i64) a0.2.2.1.2.1, .dat (.sl (.st (.pair (.int .i64) (.pair (.int .i64) (.pair (.int .i64) (.int .i64)))))) a0.2.2.1.2.2, .dat (.sl (.int .i64)) a0.2.2.2])], 1⟩ hP hN (by kernel_rfl) allNil ?_
    have hr := of_some hr
    subst hr
    exact HT.ret (qThenR ⟨[.one (.dat .bool true)], [], [], by kernel_rfl, by kernel_rfl, rfl, by kernel_rfl, by kernel_rfl, trivial⟩)
  · refine HT.cond0 rfl hb3 ?_
    refine HT.skip (qThen ?_)
    obtain ⟨y4, hc5, hr⟩ := of_bind hr
    obtain ⟨y6, hc7, hr⟩ := of_bind hr
    refine HT.reg1 [1, 4] [⟨none, .no⟩, ⟨none, .call [.imm (.st (.pair (.st (.pair (.int .i64) (.pair (.int .i64) (.pair (.sl (.st (.pair (.int .i64) (.pair (.int .i64) (.pair (.int .i64) (.int .i64)))))) (.pair (.sl (.int .i64)) (.sl (.int .i64))))))) (.pair (.st (.pair (.int .i64) (.pair (.int .i64) (.pair (.sl (.int .i64)) (.sl .bool))))) (.pair (.st (.pair (.int .i64) (.pair (.int .i64) (.sl (.st (.pair (.int .i64) (.pair (.int .i64) (.pair (.int .i64) (.int .i64))))))))) (.sl (.int .i64))))))] [⟨true, (.st (.pair (.st (.pair (.int .i64) (.pair (.int .i64) (.pair (.sl (.st (.pair (.int .i64) (.pair (.int .i64) (.pair (.int .i64) (.int .i64)))))) (.pair (.sl (.int .i64)) (.sl (.int .i64))))))) (.pair (.st (.pair (.int .i64) (.pair (.int .i64) (.pair (.sl (.int .i64)) (.sl .bool))))) (.pair (.st (.pair (.int .i64) (.pair (.int .i64) (.sl (.st (.pair (.int .i64) (.pair (.int .i64) (.pair (.int .i64) (.int .i64))))))))) (.sl (.int .i64)))))), y4⟩] []⟩, ⟨none, .call [.imm (.st (.pair (.st (.pair (.int .i64) (.pair (.int .i64) (.pair (.sl (.st (.pair (.int .i64) (.pair (.int .i64) (.pair (.int .i64) (.int .i64)))))) (.pair (.sl (.int .i64)) (.sl (.int .i64))))))) (.pair (.st (.pair (.int .i64) (.pair (.int .i64) (.pair (.sl (.int .i64)) (.sl .bool))))) (.pair (.st (.pair (.int .i64) (.pair (.int .i64) (.sl (.st (.pair (.int .i64) (.pair (.int .i64) (.pair (.int .i64) (.int .i64))))))))) (.sl (.int .i64))))))] [⟨false, .bool, y6⟩] []⟩, ⟨none, .no⟩] ⟨[(1, .one (.ptr 0 0)), (4, .one (.dat .bool y6))], [(1, .seq (.st (.pair (.int .i64) (.pair (.int .i64) (.pair (.int .i64) (.int .i64))))) y4.1.2.2.1), (2, .seq (.int .i64) y4.1.2.2.2.1), (3, .seq (.int .i64) y4.1.2.2.2.2), (4, .seq (.int .i64) y4.2.1.2.2.1), (5, .seq .bool y4.2.1.2.2.2), (6, .seq (.st (.pair (.int .i64) (.pair (.int .i64) (.pair (.int .i64) (.int .i64))))) y4.2.2.1.2.2), (7, .seq (.int .i64) y4.2.2.2), (0, .box [.dat (.int .i64) a0.1.1, .dat (.int .i64) a0.1.2.1, .dat (.sl (.st (.pair (.int .i64) (.pair (.int .i64) (.pair (.int .i64) (.int .i64)))))) a0.1.2.2.1, .dat (.sl (.int .i64)) a0.1.2.2.2.1, .dat (.sl (.int .i64)) a0.1.2.2.2.2, .dat (.int .i64) a0.2.1.1, .dat (.int .i64) a0.2.1.2.1, .dat (.sl (.int .i64)) a0.2.1.2.2.1, .dat (.sl .bool) a0.2.1.2.2.2, .dat (.int .i64) a0.2.2.1.1, .dat (.int .i64) a0.2.2.1.2.1, .dat (.sl (.st (.pair (.int .i64) (.pair (.int .i64) (.pair (.int .i64) (.int .i64)))))) a0.2.2.1.2.2, .dat (.sl (.int .i64)) a0.2.2.2])], 8⟩ hP hN (by kernel_rfl) (allCons (f13_ok hc5) (allCons (f15_ok hc7) allNil)) ?_
    obtain ⟨y8, hc9, hr⟩ := of_bind hr
    refine HT.reg1 [1, 4, 5] [⟨none, .no⟩, ⟨none, .call [.imm (.st (.pair (.st (.pair (.int .i64) (.pair (.int .i64) (.pair (.sl (.st (.pair (.int .i64) (.pair (.int .i64) (.pair (.int .i64) (.int .i64)))))) (.pair (.sl (.int .i64)) (.sl (.int .i64))))))) (.pair (.st (.pair (.int .i64) (.pair (.int .i64) (.pair (.sl (.int .i64)) (.sl .bool))))) (.pair (.st (.pair (.int .i64) (.pair (.int .i64) (.sl (.st (.pair (.int .i64) (.pair (.int .i64) (.pair (.int .i64) (.int .i64))))))))) (.sl (.int .i64))))))] [⟨true, (.st (.pair (.st (.pair (.int .i64) (.pair (.int .i64) (.pair (.sl (.st (.pair (.int .i64) (.pair (.int .i64) (.pair (.int .i64) (.int .i64)))))) (.pair (.sl (.int .i64)) (.sl (.int .i64))))))) (.pair (.st (.pair (.int .i64) (.pair (.int .i64) (.pair (.sl (.int .i64)) (.sl .bool))))) (.pair (.st (.pair (.int .i64) (.pair (.int .i64) (.sl (.st (.pair (.int .i64) (.pair (.int .i64) (.pair (.int .i64) (.int .i64))))))))) (.sl (.int .i64)))))), y8⟩] []⟩, ⟨none, .no⟩, ⟨none, .no⟩] ⟨[(1, .one (.ptr 0 0)), (4, .one (.dat .bool y6)), (5, .one (.ptr 15 0))], [(15, .box [.dat (.int .i64) y8.1.1, .dat (.int .i64) y8.1.2.1, .all 8, .all 9, .all 10, .dat (.int .i64) y8.2.1.1, .dat (.int .i64) y8.2.1.2.1, .all 11, .all 12, .dat (.int .i64) y8.2.2.1.1, .dat (.int .i64) y8.2.2.1.2.1, .all 13, .all 14]), (15, .box [.dat (.int .i64) (0 : Int), .dat (.int .i64) (0 : Int), .nilS, .nilS, .nilS, .dat (.int .i64) (0 : Int), .dat (.int .i64) (0 : Int), .nilS, .nilS, .dat (.int .i64) (0 : Int), .dat (.int .i64) (0 : Int), .nilS, .nilS]), (8, .seq (.st (.pair (.int .i64) (.pair (.int .i64) (.pair (.int .i64) (.int .i64))))) y8.1.2.2.1), (9, .seq (.int .i64) y8.1.2.2.2.1), (10, .seq (.int .i64) y8.1.2.2.2.2), (11, .seq (.int .i64) y8.2.1.2.2.1), (12, .seq .bool y8.2.1.2.2.2), (13, .seq (.st (.pair (.int .i64) (.pair (.int .i64) (.pair (.int .i64) (.int .i64))))) y8.2.2.1.2.2), (14, .seq (.int .i64) y8.2.2.2), (1, .seq (.st (.pair (.int .i64) (.pair (.int .i64) (.pair (.int .i64) (.int .i64))))) y4.1.2.2.1), (2, .seq (.int .i64) y4.1.2.2.2.1), (3, .seq (.int .i64) y4.1.2.2.2.2), (4, .seq (.int .i64) y4.2.1.2.2.1), (5, .seq .bool y4.2.1.2.2.2), (6, .seq (.st (.pair (.int .i64) (.pair (.int .i64) (.pair (.int .i64) (.int .i64))))) y4.2.2.1.2.2), (7, .seq (.int .i64) y4.2.2.2), (0, .box [.dat (.int .i64) a0.1.1, .dat (.int .i64) a0.1.2.1, .dat (.sl (.st (.pair (.int .i64) (.pair (.int .i64) (.pair (.int .i64) (.int .i64)))))) a0.1.2.2.1, .dat (.sl (.int .i64)) a0.1.2.2.2.1, .dat (.sl (.int .i64)) a0.1.2.2.2.2, .dat (.int .i64) a0.2.1.1, .dat (.int .i64) a0.2.1.2.1, .dat (.sl (.int .i64)) a0.2.1.2.2.1, .dat (.sl .bool) a0.2.1.2.2.2, .dat (.int .i64) a0.2.2.1.1, .dat (.int .i64) a0.2.2.1.2.1, .dat (.sl (.st (.pair (.int .i64) (.pair (.int .i64) (.pair (.int .i64) (.int .i64)))))) a0.2.2.1.2.2, .dat (.sl (.int .i64)) a0.2.2.2])], 16⟩ hP hN (by kernel_rfl) (allCons (f13_ok hc9) allNil) ?_
    obtain ⟨y10, hc11, hr⟩ := of_bind hr
    refine HT.reg1 [1, 4, 5, 6] [⟨none, .no⟩, ⟨none, .call [.imm (.st (.pair (.st (.pair (.int .i64) (.pair (.int .i64) (.pair (.sl (.st (.pair (.int .i64) (.pair (.int .i64) (.pair (.int .i64) (.int .i64)))))) (.pair (.sl (.int .i64)) (.sl (.int .i64))))))) (.pair (.st (.pair (.int .i64) (.pair (.int .i64) (.pair (.sl (.int .i64)) (.sl .bool))))) (.pair (.st (.pair (.int .i64) (.pair (.int .i64) (.sl (.st (.pair (.int .i64) (.pair (.int .i64) (.pair (.int .i64) (.int .i64))))))))) (.sl (.int .i64))))))] [⟨false, .bool, y10⟩] []⟩, ⟨none, .no⟩] ⟨[(1, .one (.ptr 0 0)), (4, .one (.dat .bool y6)), (5, .one (.ptr 15 0)), (6, .one (.dat .bool y10))], [(15, .box [.dat (.int .i64) y8.1.1, .dat (.int .i64) y8.1.2.1, .all 8, .all 9, .all 10, .dat (.int .i64) y8.2.1.1, .dat (.int .i64) y8.2.1.2.1, .all 11, .all 12, .dat (.int .i64) y8.2.2.1.1, .dat (.int .i64) y8.2.2.1.2.1, .all 13, .all 14]), (15, .box [.dat (.int .i64) (0 : Int), .dat (.int .i64) (0 : Int), .nilS, .nilS, .nilS, .dat (.int .i64) (0 : Int), .dat (.int .i64) (0 : Int), .nilS, .nilS, .dat (.int .i64) (0 : Int), .dat (.int .i64) (0 : Int), .nilS, .nilS]), (8, .seq (.st (.pair (.int .i64) (.pair (.int .i64) (.pair (.int .i64) (.int .i64))))) y8.1.2.2.1), (9, .seq (.int .i64) y8.1.2.2.2.1), (10, .seq (.int .i64) y8.1.2.2.2.2), (11, .seq (.int .i64) y8.2.1.2.2.1), (12, .seq .bool y8.2.1.2.2.2), (13, .seq (.st (.pair (.int .i64) (.pair (.int .i64) (.pair (.int .i64) (.int .i64))))) y8.2.2.1.2.2), (14, .seq (.int .i64) y8.2.2.2), (1, .seq (.st (.pair (.int .i64) (.pair (.int .i64) (.pair (.int .i64) (.int .i64))))) y4.1.2.2.1), (2, .seq (.int .i64) y4.1.2.2.2.1), (3, .seq (.int .i64) y4.1.2.2.2.2), (4, .seq (.int .i64) y4.2.1.2.2.1), (5, .seq .bool y4.2.1.2.2.2), (6, .seq (.st (.pair (.int .i64) (.pair (.int .i64) (.pair (.int .i64) (.int .i64))))) y4.2.2.1.2.2), (7, .seq (.int .i64) y4.2.2.2), (0, .box [.dat (.int .i64) a0.1.1, .dat (.int .i64) a0.1.2.1, .dat (.sl (.st (.pair (.int .i64) (.pair (.int .i64) (.pair (.int .i64) (.int .i64)))))) a0.1.2.2.1, .dat (.sl (.int .i64)) a0.1.2.2.2.1, .dat (.sl (.int .i64)) a0.1.2.2.2.2, .dat (.int .i64) a0.2.1.1, .dat (.int .i64) a0.2.1.2.1, .dat (.sl (.int .i64)) a0.2.1.2.2.1, .dat (.sl .bool) a0.2.1.2.2.2, .dat (.int .i64) a0.2.2.1.1, .dat (.int .i64) a0.2.2.1.2.1, .dat (.sl (.st (.pair (.int .i64) (.pair (.int .i64) (.pair (.int .i64) (.int .i64)))))) a0.2.2.1.2.2, .dat (.sl (.int .i64)) a0.2.2.2])], 16⟩ hP hN (by kernel_rfl) (allCons (f16_ok hc11) allNil) ?_
    refine HT.seq ?_
    refine HT.reg1 [1, 5, 21] [⟨none, .no⟩, ⟨none, .no⟩, ⟨none, .no⟩] ⟨[(1, .one (.ptr 0 0)), (5, .one (.ptr 15 0)), (21, .one (.dat .bool (y10 != y6)))], [(15, .box [.dat (.int .i64) y8.1.1, .dat (.int .i64) y8.1.2.1, .all 8, .all 9, .all 10, .dat (.int .i64) y8.2.1.1, .dat (.int .i64) y8.2.1.2.1, .all 11, .all 12, .dat (.int .i64) y8.2.2.1.1, .dat (.int .i64) y8.2.2.1.2.1, .all 13, .all 14]), (15, .box [.dat (.int .i64) (0 : Int), .dat (.int .i64) (0 : Int), .nilS, .nilS, .nilS, .dat (.int .i64) (0 : Int), .dat (.int .i64) (0 : Int), .nilS, .nilS, .dat (.int .i64) (0 : Int), .dat (.int .i64) (0 : Int), .nilS, .nilS]), (8, .seq (.st (.pair (.int .i64) (.pair (.int .i64) (.pair (.int .i64) (.int .i64))))) y8.1.2.2.1), (9, .seq (.int .i64) y8.1.2.2.2.1), (10, .seq (.int .i64) y8.1.2.2.2.2), (11, .seq (.int .i64) y8.2.1.2.2.1), (12, .seq .bool y8.2.1.2.2.2), (13, .seq (.st (.pair (.int .i64) (.pair (.int .i64) (.pair (.int .i64) (.int .i64))))) y8.2.2.1.2.2), (14, .seq (.int .i64) y8.2.2.2), (1, .seq (.st (.pair (.int .i64) (.pair (.int .i64) (.pair (.int .i64) (.int .i64))))) y4.1.2.2.1), (2, .seq (.int .i64) y4.1.2.2.2.1), (3, .seq (.int .i64) y4.1.2.2.2.2), (4, .seq (.int .i64) y4.2.1.2.2.1), (5, .seq .bool y4.2.1.2.2.2), (6, .seq (.st (.pair (.int .i64) (.pair (.int .i64) (.pair (.int .i64) (.int .i64))))) y4.2.2.1.2.2), (7, .seq (.int .i64) y4.2.2.2), (0, .box [.dat (.int .i64) a0.1.1, .dat (.int .i64) a0.1.2.1, .dat (.sl (.st (.pair (.int .i64) (.pair (.int .i64) (.pair (.int .i64) (.int .i64)))))) a0.1.2.2.1, .dat (.sl (.int .i64)) a0.1.2.2.2.1, .dat (.sl (.int .i64)) a0.1.2.2.2.2, .dat (.int .i64) a0.2.1.1, .dat (.int .i64) a0.2.1.2.1, .dat (.sl (.int .i64)) a0.2.1.2.2.1, .dat (.sl .bool) a0.2.1.2.2.2, .dat (.int .i64) a0.2.2.1.1, .dat (.int .i64) a0.2.2.1.2.1, .dat (.sl (.st (.pair (.int .i64) (.pair (.int .i64) (.pair (.int .i64) (.int .i64)))))) a0.2.2.1.2.2, .dat (.sl (.int .i64)) a0.2.2.2])], 16⟩ hP hN (by kernel_rfl) allNil ?_
    rcases of_bif hr with ⟨hb12, hr⟩ | ⟨hb12, hr⟩
    · refine HT.cond1 rfl hb12 ?_
      refine HT.reg1 [2] [⟨none, .no⟩] ⟨[(2, .one (.dat .bool false))], [(15, .box [.dat (.int .i64) y8.1.1, .dat (.int .i64) y8.1.2.1, .all 8, .all 9, .all 10, .dat (.int .i64) y8.2.1.1, .dat (.int .i64) y8.2.1.2.1, .all 11, .all 12, .dat (.int .i64) y8.2.2.1.1, .dat (.int .i64) y8.2.2.1.2.1, .all 13, .all 14]), (15, .box [.dat (.int .i64) (0 : Int), .dat (.int .i64) (0 : Int), .nilS, .nilS, .nilS, .dat (.int .i64) (0 : Int), .dat (.int .i64) (0 : Int), .nilS, .nilS, .dat (.int .i64) (0 : Int), .dat (.int .i64) (0 : Int), .nilS, .nilS]), (8, .seq (.st (.pair (.int .i64) (.pair (.int .i64) (.pair (.int .i64) (.int .i64))))) y8.1.2.2.1), (9, .seq (.int .i64) y8.1.2.2.2.1), (10, .seq (.int .i64) y8.1.2.2.2.2), (11, .seq (.int .i64) y8.2.1.2.2.1), (12, .seq .bool y8.2.1.2.2.2), (13, .seq (.st (.pair (.int .i64) (.pair (.int .i64) (.pair (.int .i64) (.int .i64))))) y8.2.2.1.2.2), (14, .seq (.int .i64) y8.2.2.2), (1, .seq (.st (.pair (.int .i64) (.pair (.int .i64) (.pair (.int .i64) (.int .i64))))) y4.1.2.2.1), (2, .seq (.int .i64) y4.1.2.2.2.1), (3, .seq (.int .i64) y4.1.2.2.2.2), (4, .seq (.int .i64) y4.2.1.2.2.1), (5, .seq .bool y4.2.1.2.2.2), (6, .seq (.st (.pair (.int .i64) (.pair (.int .i64) (.pair (.int .i64) (.int .i64))))) y4.2.2.1.2.2), (7, .seq (.int .i64) y4.2.2.2), (0, .box [.dat (.int .i64) a0.1.1, .dat (.int .i64) a0.1.2.1, .dat (.sl (.st (.pair (.int .i64) (.pair (.int .i64) (.pair (.int .i64) (.int .i64)))))) a0.1.2.2.1, .dat (.sl (.int .i64)) a0.1.2.2.2.1, .dat (.sl (.int .i64)) a0.1.2.2.2.2, .dat (.int .i64) a0.2.1.1, .dat (.int .i64) a0.2.1.2.1, .dat (.sl (.int .i64)) a0.2.1.2.2.1, .dat (.sl .bool) a0.2.1.2.2.2, .dat (.int .i64) a0.2.2.1.1, .dat (.int .i64) a0.2.2.1.2.1, .dat (.sl (.st (.pair (.int .i64) (.pair (.int .i64) (.pair (.int .i64) (.int .i64)))))) a0.2.2.1.2.2, .dat (.sl (.int .i64)) a0.2.2.2])], 16⟩ hP hN (by kernel_rfl) allNil ?_
      have hr := of_some hr
      subst hr
      exact HT.ret (qThenR ⟨[.one (.dat .bool false)], [], [], by kernel_rfl, by kernel_rfl, rfl, by kernel_rfl, by kernel_rfl, trivial⟩)
    · refine HT.cond0 rfl hb12 ?_
      refine HT.skip (qThen ?_)
      refine HT.seq ?_
      obtain ⟨y13, hc14, hr⟩ := of_bind hr
      obtain ⟨y15, hc16, hr⟩ := of_bind hr
      refine HT.drw1 [26] 3 [⟨⟨none, .no⟩, []⟩, ⟨⟨none, .no⟩, []⟩, ⟨⟨none, .call [.imm (.st (.pair (.st (.pair (.int .i64) (.pair (.int .i64) (.pair (.sl (.st (.pair (.int .i64) (.pair (.int .i64) (.pair (.int .i64) (.int .i64)))))) (.pair (.sl (.int .i64)) (.sl (.int .i64))))))) (.pair (.st (.pair (.int .i64) (.pair (.int .i64) (.pair (.sl (.int .i64)) (.sl .bool))))) (.pair (.st (.pair (.int .i64) (.pair (.int .i64) (.sl (.st (.pair (.int .i64) (.pair (.int .i64) (.pair (.int .i64) (.int .i64))))))))) (.sl (.int .i64))))))] [⟨true, (.st (.pair (.st (.pair (.int .i64) (.pair (.int .i64) (.pair (.sl (.st (.pair (.int .i64) (.pair (.int .i64) (.pair (.int .i64) (.int .i64)))))) (.pair (.sl (.int .i64)) (.sl (.int .i64))))))) (.pair (.st (.pair (.int .i64) (.pair (.int .i64) (.pair (.sl (.int .i64)) (.sl .bool))))) (.pair (.st (.pair (.int .i64) (.pair (.int .i64) (.sl (.st (.pair (.int .i64) (.pair (.int .i64) (.pair (.int .i64) (.int .i64))))))))) (.sl (.int .i64)))))), y13⟩] []⟩, [1]⟩] [[0, 1, 2], [0, 1, 2, 3]] [⟨none, .call [.imm (.st (.pair (.st (.pair (.int .i64) (.pair (.int .i64) (.pair (.sl (.st (.pair (.int .i64) (.pair (.int .i64) (.pair (.int .i64) (.int .i64)))))) (.pair (.sl (.int .i64)) (.sl (.int .i64))))))) (.pair (.st (.pair (.int .i64) (.pair (.int .i64) (.pair (.sl (.int .i64)) (.sl .bool))))) (.pair (.st (.pair (.int .i64) (.pair (.int .i64) (.sl (.st (.pair (.int .i64) (.pair (.int .i64) (.pair (.int .i64) (.int .i64))))))))) (.sl (.int .i64)))))), .imm (.st (.pair (.st (.pair (.int .i64) (.pair (.int .i64) (.pair (.sl (.st (.pair (.int .i64) (.pair (.int .i64) (.pair (.int .i64) (.int .i64)))))) (.pair (.sl (.int .i64)) (.sl (.int .i64))))))) (.pair (.st (.pair (.int .i64) (.pair (.int .i64) (.pair (.sl (.int .i64)) (.sl .bool))))) (.pair (.st (.pair (.int .i64) (.pair (.int .i64) (.sl (.st (.pair (.int .i64) (.pair (.int .i64) (.pair (.int .i64) (.int .i64))))))))) (.sl (.int .i64))))))] [⟨false, .bool, y15⟩] []⟩, ⟨none, .no⟩] ⟨[(26, .one (.dat .bool (!y15)))], [(16, .seq (.st (.pair (.int .i64) (.pair (.int .i64) (.pair (.int .i64) (.int .i64))))) y13.1.2.2.1), (17, .seq (.int .i64) y13.1.2.2.2.1), (18, .seq (.int .i64) y13.1.2.2.2.2), (19, .seq (.int .i64) y13.2.1.2.2.1), (20, .seq .bool y13.2.1.2.2.2), (21, .seq (.st (.pair (.int .i64) (.pair (.int .i64) (.pair (.int .i64) (.int .i64))))) y13.2.2.1.2.2), (22, .seq (.int .i64) y13.2.2.2), (15, .box [.dat (.int .i64) y8.1.1, .dat (.int .i64) y8.1.2.1, .all 8, .all 9, .all 10, .dat (.int .i64) y8.2.1.1, .dat (.int .i64) y8.2.1.2.1, .all 11, .all 12, .dat (.int .i64) y8.2.2.1.1, .dat (.int .i64) y8.2.2.1.2.1, .all 13, .all 14]), (15, .box [.dat (.int .i64) (0 : Int), .dat (.int .i64) (0 : Int), .nilS, .nilS, .nilS, .dat (.int .i64) (0 : Int), .dat (.int .i64) (0 : Int), .nilS, .nilS, .dat (.int .i64) (0 : Int), .dat (.int .i64) (0 : Int), .nilS, .nilS]), (8, .seq (.st (.pair (.int .i64) (.pair (.int .i64) (.pair (.int .i64) (.int .i64))))) y8.1.2.2.1), (9, .seq (.int .i64) y8.1.2.2.2.1), (10, .seq (.int .i64) y8.1.2.2.2.2), (11, .seq (.int .i64) y8.2.1.2.2.1), (12, .seq .bool y8.2.1.2.2.2), (13, .seq (.st (.pair (.int .i64) (.pair (.int .i64) (.pair (.int .i64) (.int .i64))))) y8.2.2.1.2.2), (14, .seq (.int .i64) y8.2.2.2), (1, .seq (.st (.pair (.int .i64) (.pair (.int .i64) (.pair (.int .i64) (.int .i64))))) y4.1.2.2.1), (2, .seq (.int .i64) y4.1.2.2.2.1), (3, .seq (.int .i64) y4.1.2.2.2.2), (4, .seq (.int .i64) y4.2.1.2.2.1), (5, .seq .bool y4.2.1.2.2.2), (6, .seq (.st (.pair (.int .i64) (.pair (.int .i64) (.pair (.int .i64) (.int .i64))))) y4.2.2.1.2.2), (7, .seq (.int .i64) y4.2.2.2), (0, .box [.dat (.int .i64) a0.1.1, .dat (.int .i64) a0.1.2.1, .dat (.sl (.st (.pair (.int .i64) (.pair (.int .i64) (.pair (.int .i64) (.int .i64)))))) a0.1.2.2.1, .dat (.sl (.int .i64)) a0.1.2.2.2.1, .dat (.sl (.int .i64)) a0.1.2.2.2.2, .dat (.int .i64) a0.2.1.1, .dat (.int .i64) a0.2.1.2.1, .dat (.sl (.int .i64)) a0.2.1.2.2.1, .dat (.sl .bool) a0.2.1.2.2.2, .dat (.int .i64) a0.2.2.1.1, .dat (.int .i64) a0.2.2.1.2.1, .dat (.sl (.st (.pair (.int .i64) (.pair (.int .i64) (.pair (.int .i64) (.int .i64)))))) a0.2.2.1.2.2, .dat (.sl (.int .i64)) a0.2.2.2])], 23⟩ hP hN (by kernel_rfl) (by kernel_rfl) (allCons (f13_ok hc14) (allCons (f8_ok hc16) allNil)) ?_
      rcases of_bif hr with ⟨hb17, hr⟩ | ⟨hb17, hr⟩
      · refine HT.cond1 rfl hb17 ?_
        refine HT.reg1 [2] [⟨none, .no⟩] ⟨[(2, .one (.dat .bool false))], [(16, .seq (.st (.pair (.int .i64) (.pair (.int .i64) (.pair (.int .i64) (.int .i64))))) y13.1.2.2.1), (17, .seq (.int .i64) y13.1.2.2.2.1), (18, .seq (.int .i64) y13.1.2.2.2.2), (19, .seq (.int .i64) y13.2.1.2.2.1), (20, .seq .bool y13.2.1.2.2.2), (21, .seq (.st (.pair (.int .i64) (.pair (.int .i64) (.pair (.int .i64) (.int .i64))))) y13.2.2.1.2.2), (22, .seq (.int .i64) y13.2.2.2), (15, .box [.dat (.int .i64) y8.1.1, .dat (.int .i64) y8.1.2.1, .all 8, .all 9, .all 10, .dat (.int .i64) y8.2.1.1, .dat (.int .i64) y8.2.1.2.1, .all 11, .all 12, .dat (.int .i64) y8.2.2.1.1, .dat (.int .i64) y8.2.2.1.2.1, .all 13, .all 14]), (15, .box [.dat (.int .i64) (0 : Int), .dat (.int .i64) (0 : Int), .nilS, .nilS, .nilS, .dat (.int .i64) (0 : Int), .dat (.int .i64) (0 : Int), .nilS, .nilS, .dat (.int .i64) (0 : Int), .dat (.int .i64) (0 : Int), .nilS, .nilS]), (8, .seq (.st (.pair (.int .i64) (.pair (.int .i64) (.pair (.int .i64) (.int .i64))))) y8.1.2.2.1), (9, .seq (.int .i64) y8.1.2.2.2.1), (10, .seq (.int .i64) y8.1.2.2.2.2), (11, .seq (.int .i64) y8.2.1.2.2.1), (12, .seq .bool y8.2.1.2.2.2), (13, .seq (.st (.pair (.int .i64) (.pair (.int .i64) (.pair (.int .i64) (.int .i64))))) y8.2.2.1.2.2), (14, .seq (.int .i64) y8.2.2.2), (1, .seq (.st (.pair (.int .i64) (.pair (.int .i64) (.pair (.int .i64) (.int .i64))))) y4.1.2.2.1), (2, .seq (.int .i64) y4.1.2.2.2.1), (3, .seq (.int .i64) y4.1.2.2.2.2), (4, .seq (.int .i64) y4.2.1.2.2.1), (5, .seq .bool y4.2.1.2.2.2), (6, .seq (.st (.pair (.int .i64) (.pair (.int .i64) (.pair (.int .i64) (.int .i64))))) y4.2.2.1.2.2), (7, .seq (.int .i64) y4.2.2.2), (0, .box [.dat (.int .i64) a0.1.1, .dat (.int .i64) a0.1.2.1, .dat (.sl (.st (.pair (.int .i64) (.pair (.int .i64) (.pair (.int .i64) (.int .i64)))))) a0.1.2.2.1, .dat (.sl (.int .i64)) a0.1.2.2.2.1, .dat (.sl (.int .i64)) a0.1.2.2.2.2, .dat (.int .i64) a0.2.1.1, .dat (.int .i64) a0.2.1.2.1, .dat (.sl (.int .i64)) a0.2.1.2.2.1, .dat (.sl .bool) a0.2.1.2.2.2, .dat (.int .i64) a0.2.2.1.1, .dat (.int .i64) a0.2.2.1.2.1, .dat (.sl (.st (.pair (.int .i64) (.pair (.int .i64) (.pair (.int .i64) (.int .i64)))))) a0.2.2.1.2.2, .dat (.sl (.int .i64)) a0.2.2.2])], 23⟩ hP hN (by kernel_rfl) allNil ?_
        have hr := of_some hr
        subst hr
        exact HT.ret (qThenR ⟨[.one (.dat .bool false)], [], [], by kernel_rfl, by kernel_rfl, rfl, by kernel_rfl, by kernel_rfl, trivial⟩)
      · refine HT.cond0 rfl hb17 ?_
        refine HT.skip (qThen ?_)
        refine HT.reg1 [2] [⟨none, .no⟩] ⟨[(2, .one (.dat .bool true))], [(16, .seq (.st (.pair (.int .i64) (.pair (.int .i64) (.pair (.int .i64) (.int .i64))))) y13.1.2.2.1), (17, .seq (.int .i64) y13.1.2.2.2.1), (18, .seq (.int .i64) y13.1.2.2.2.2), (19, .seq (.int .i64) y13.2.1.2.2.1), (20, .seq .bool y13.2.1.2.2.2), (21, .seq (.st (.pair (.int .i64) (.pair (.int .i64) (.pair (.int .i64) (.int .i64))))) y13.2.2.1.2.2), (22, .seq (.int .i64) y13.2.2.2), (15, .box [.dat (.int .i64) y8.1.1, .dat (.int .i64) y8.1.2.1, .all 8, .all 9, .all 10, .dat (.int .i64) y8.2.1.1, .dat (.int .i64) y8.2.1.2.1, .all 11, .all 12, .dat (.int .i64) y8.2.2.1.1, .dat (.int .i64) y8.2.2.1.2.1, .all 13, .all 14]), (15, .box [.dat (.int .i64) (0 : Int), .dat (.int .i64) (0 : Int), .nilS, .nilS, .nilS, .dat (.int .i64) (0 : Int), .dat (.int .i64) (0 : Int), .nilS, .nilS, .dat (.int .i64) (0 : Int), .dat (.int .i64) (0 : Int), .nilS, .nilS]), (8, .seq (.st (.pair (.int .i64) (.pair (.int .i64) (.pair (.int .i64) (.int .i64))))) y8.1.2.2.1), (9, .seq (.int .i64) y8.1.2.2.2.1), (10, .seq (.int .i64) y8.1.2.2.2.2), (11, .seq (.int .i64) y8.2.1.2.2.1), (12, .seq .bool y8.2.1.2.2.2), (13, .seq (.st (.pair (.int .i64) (.pair (.int .i64) (.pair (.int .i64) (.int .i64))))) y8.2.2.1.2.2), (14, .seq (.int .i64) y8.2.2.2), (1, .seq (.st (.pair (.int .i64) (.pair (.int .i64) (.pair (.int .i64) (.int .i64))))) y4.1.2.2.1), (2, .seq (.int .i64) y4.1.2.2.2.1), (3, .seq (.int .i64) y4.1.2.2.2.2), (4, .seq (.int .i64) y4.2.1.2.2.1), (5, .seq .bool y4.2.1.2.2.2), (6, .seq (.st (.pair (.int .i64) (.pair (.int .i64) (.pair (.int .i64) (.int .i64))))) y4.2.2.1.2.2), (7, .seq (.int .i64) y4.2.2.2), (0, .box [.dat (.int .i64) a0.1.1, .dat (.int .i64) a0.1.2.1, .dat (.sl (.st (.pair (.int .i64) (.pair (.int .i64) (.pair (.int .i64) (.int .i64)))))) a0.1.2.2.1, .dat (.sl (.int .i64)) a0.1.2.2.2.1, .dat (.sl (.int .i64)) a0.1.2.2.2.2, .dat (.int .i64) a0.2.1.1, .dat (.int .i64) a0.2.1.2.1, .dat (.sl (.int .i64)) a0.2.1.2.2.1, .dat (.sl .bool) a0.2.1.2.2.2, .dat (.int .i64) a0.2.2.1.1, .dat (.int .i64) a0.2.2.1.2.1, .dat (.sl (.st (.pair (.int .i64) (.pair (.int .i64) (.pair (.int .i64) (.int .i64)))))) a0.2.2.1.2.2, .dat (.sl (.int .i64)) a0.2.2.2])], 23⟩ hP hN (by kernel_rfl) allNil ?_
        have hr := of_some hr
        subst hr
        exact HT.ret ⟨[.one (.dat .bool true)], [], [], by kernel_rfl, by kernel_rfl, rfl, by kernel_rfl, by kernel_rfl, trivial⟩

end Go.Proofs
