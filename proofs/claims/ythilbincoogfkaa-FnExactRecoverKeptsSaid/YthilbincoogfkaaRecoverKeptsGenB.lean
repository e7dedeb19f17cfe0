import Derived.Test.YthilbincoogfkaaRecoverKeptsGenA
import Derived.Test.YthilbincoogfkaaProg
set_option linter.unusedVariables false
set_option linter.unusedSimpArgs false
set_option linter.unusedSectionVars false
/-
  Functions as plain functions, and their contracts. Printed by a program.
-/
namespace Go.Proofs
open Go.Ide

noncomputable def laws_FnExactRecoverKepts (a0 : List UInt8) : Option (Bool) :=
  bif (decide ((lenI a0) > (1048576 : Int))) then
    some true
  else
    (spec_RecoverKepts a0).bind fun y2 =>
    (impl_RecoverKepts a0).bind fun y4 =>
    (show Option (Bool) from
      (laws_eqKeptS y4.1 y2.1).bind fun y30 =>
      bif (!y30) then
        some true
      else
        bif (y4.2.1 != y2.2.1) then
          some true
        else
          some (y4.2.2 != y2.2.2)).bind fun v6 =>
    bif v6 then
      some false
    else
      (laws_markKeptS y4.1 (1 : Int)).bind fun y10 =>
      (laws_heldKeptS y10.2 (1 : Int)).bind fun y12 =>
      bif (decide (y12 < (0 : Int))) then
        some false
      else
        bif (y12 != y10.1) then
          some false
        else
          (impl_RecoverKepts a0).bind fun y16 =>
          (show Option (Bool) from
            (laws_eqKeptS y16.1 y2.1).bind fun y26 =>
            bif (!y26) then
              some true
            else
              bif (y16.2.1 != y2.2.1) then
                some true
              else
                some (y16.2.2 != y2.2.2)).bind fun v18 =>
          bif v18 then
            some false
          else
            (laws_heldKeptS y10.2 (1 : Int)).bind fun y22 =>
            bif (decide (y22 < (0 : Int))) then
              some false
            else
              bif (y22 != y10.1) then
                some false
              else
                some true

theorem f9_ok {a0 : List UInt8} {r : Bool} (hr : laws_FnExactRecoverKepts a0 = some r) : CallOK Try.prog 9 [.imm .str a0] [⟨false, .bool, r⟩] [] := by
  unfold laws_FnExactRecoverKepts at hr
  refine CallOK.of_body (ts := [(false, .bool)]) Try.func9 rfl (by kernel_rfl) (Nat.le_of_ble_eq_true (by kernel_rfl)) fun cx hP hN hO hF => ?_
  have hO : cx.own.map Prod.fst = [] := hO
  have hX := CxIs.mk hP hN hO
  have hF := hF rfl
  show HT cx ⟨[(0, .one (.dat .str a0))], [], 0⟩ _ _
  refine HT.rg2 [oH] ⟨[(0, .one (.dat .str a0))], [], 0⟩ hX (by kernel_rfl) allNil ?_
  refine HT.seq ?_
  refine HT.rg2 (oHs 3) ⟨[(0, .one (.dat .str a0)), (16, bV (decide ((lenI a0) > (1048576 : Int))))], [], 0⟩ hX (by kernel_rfl) allNil ?_
  rcases of_bif hr with ⟨hb1, hr⟩ | ⟨hb1, hr⟩
  · refine HT.cond1 rfl hb1 ?_
    refine HT.rg2 [oH] ⟨[(2, bV true)], [], 0⟩ hX (by kernel_rfl) allNil ?_
    have hr := of_some hr
    subst hr
    exact HT.ret (qThenR ⟨[bV true], [], [], by kernel_rfl, by kernel_rfl, rfl, by kernel_rfl, by kernel_rfl, trivial⟩)
  · refine HT.cond0 rfl hb1 ?_
    refine HT.skip (qThen ?_)
    obtain ⟨y2, hc3, hr⟩ := of_bind hr
    refine HT.rg2 [oH, ⟨none, .call [.imm .str] [⟨true, (.sl (.st (.pair .str (.st (.pair tI (.pair tI (.pair (.own tI) (.own .bool)))))))), y2.1⟩, ⟨false, tI, y2.2.1⟩, ⟨false, .bool, y2.2.2⟩] []⟩, oH, oH, oH, oH, oH, oH, oH] ⟨[(0, .one (.dat .str a0)), (3, aV 0), (4, iV y2.2.1), (5, bV y2.2.2)], [(0, .seq (.st (.pair .str (.st (.pair tI (.pair tI (.pair (.own tI) (.own .bool))))))) y2.1)], 1⟩ hX (by kernel_rfl) (allCons (f37_ok hc3) allNil) ?_
    obtain ⟨y4, hc5, hr⟩ := of_bind hr
    refine HT.rg2 [oH, ⟨none, .call [.imm .str] [⟨true, (.sl (.st (.pair .str (.st (.pair tI (.pair tI (.pair (.own tI) (.own .bool)))))))), y4.1⟩, ⟨false, tI, y4.2.1⟩, ⟨false, .bool, y4.2.2⟩] []⟩, oH, oH, oH, oH, oH, oH, oH] ⟨[(0, .one (.dat .str a0)), (3, aV 0), (4, iV y2.2.1), (5, bV y2.2.2), (6, aV 1), (7, iV y4.2.1), (8, bV y4.2.2)], [(1, .seq (.st (.pair .str (.st (.pair tI (.pair tI (.pair (.own tI) (.own .bool))))))) y4.1), (0, .seq (.st (.pair .str (.st (.pair tI (.pair tI (.pair (.own tI) (.own .bool))))))) y2.1)], 2⟩ hX (by kernel_rfl) (allCons (f38_ok hc5) allNil) ?_
    refine HT.seq ?_
    obtain ⟨v6', hT8, hr⟩ := of_bind hr
    refine HT.join (fun (v6 : Bool) => ⟨[(0, .one (.dat .str a0)), (3, aV 0), (4, iV y2.2.1), (5, bV y2.2.2), (6, aV 1), (42, bV v6)], [(0, .seq (.st (.pair .str (.st (.pair tI (.pair tI (.pair (.own tI) (.own .bool))))))) y2.1), (1, .seq (.st (.pair .str (.st (.pair tI (.pair tI (.pair (.own tI) (.own .bool))))))) y4.1)], 2⟩) (fun v => v = v6') (fun v6 hv7 => ?_) (fun cont => ?_)
    · subst hv7
      rcases of_bif hr with ⟨hb9, hr⟩ | ⟨hb9, hr⟩
      · refine HT.cond1 rfl hb9 ?_
        refine HT.rg2 [oH] ⟨[(2, bV false)], [], 2⟩ hX (by kernel_rfl) allNil ?_
        have hr := of_some hr
        subst hr
        exact HT.ret (qThenR ⟨[bV false], [], [], by kernel_rfl, by kernel_rfl, rfl, by kernel_rfl, by kernel_rfl, trivial⟩)
      · refine HT.cond0 rfl hb9 ?_
        refine HT.skip (qThen ?_)
        refine HT.rg2 [oH] ⟨[(0, .one (.dat .str a0)), (3, aV 0), (4, iV y2.2.1), (5, bV y2.2.2), (6, aV 1), (9, iV (1 : Int))], [(0, .seq (.st (.pair .str (.st (.pair tI (.pair tI (.pair (.own tI) (.own .bool))))))) y2.1), (1, .seq (.st (.pair .str (.st (.pair tI (.pair tI (.pair (.own tI) (.own .bool))))))) y4.1)], 2⟩ hX (by kernel_rfl) allNil ?_
        obtain ⟨y10, hc11, hr⟩ := of_bind hr
        refine HT.rg2 [oH, oH, ⟨none, .call [.own (.sl (.st (.pair .str (.st (.pair tI (.pair tI (.pair (.own tI) (.own .bool)))))))), .imm tI] [⟨false, tI, y10.1⟩] [⟨(.sl (.st (.pair .str (.st (.pair tI (.pair tI (.pair (.own tI) (.own .bool)))))))), y10.2⟩]⟩, oH] ⟨[(0, .one (.dat .str a0)), (3, aV 0), (4, iV y2.2.1), (5, bV y2.2.2), (6, aV 1), (9, iV y10.1)], [(1, .seq (.st (.pair .str (.st (.pair tI (.pair tI (.pair (.own tI) (.own .bool))))))) y10.2), (0, .seq (.st (.pair .str (.st (.pair tI (.pair tI (.pair (.own tI) (.own .bool))))))) y2.1)], 2⟩ hX (by kernel_rfl) (allCons (f40_ok hc11) allNil) ?_
        refine HT.rg2 [oH] ⟨[(0, .one (.dat .str a0)), (3, aV 0), (4, iV y2.2.1), (5, bV y2.2.2), (6, aV 1), (9, iV y10.1), (10, iV (1 : Int))], [(1, .seq (.st (.pair .str (.st (.pair tI (.pair tI (.pair (.own tI) (.own .bool))))))) y10.2), (0, .seq (.st (.pair .str (.st (.pair tI (.pair tI (.pair (.own tI) (.own .bool))))))) y2.1)], 2⟩ hX (by kernel_rfl) allNil ?_
        obtain ⟨y12, hc13, hr⟩ := of_bind hr
        refine HT.rg2 [oH, oH, ⟨none, .call [.imm (.sl (.st (.pair .str (.st (.pair tI (.pair tI (.pair tLI (.sl .bool)))))))), .imm tI] [⟨false, tI, y12⟩] []⟩, oH] ⟨[(0, .one (.dat .str a0)), (3, aV 0), (4, iV y2.2.1), (5, bV y2.2.2), (6, aV 1), (9, iV y10.1), (10, iV y12)], [(1, .seq (.st (.pair .str (.st (.pair tI (.pair tI (.pair (.own tI) (.own .bool))))))) y10.2), (0, .seq (.st (.pair .str (.st (.pair tI (.pair tI (.pair (.own tI) (.own .bool))))))) y2.1)], 2⟩ hX (by kernel_rfl) (allCons (f41_ok hc13) allNil) ?_
        refine HT.seq ?_
        refine HT.rg2 (oHs 2) ⟨[(0, .one (.dat .str a0)), (3, aV 0), (4, iV y2.2.1), (5, bV y2.2.2), (6, aV 1), (9, iV y10.1), (10, iV y12), (50, bV (decide (y12 < (0 : Int))))], [(1, .seq (.st (.pair .str (.st (.pair tI (.pair tI (.pair (.own tI) (.own .bool))))))) y10.2), (0, .seq (.st (.pair .str (.st (.pair tI (.pair tI (.pair (.own tI) (.own .bool))))))) y2.1)], 2⟩ hX (by kernel_rfl) allNil ?_
        rcases of_bif hr with ⟨hb14, hr⟩ | ⟨hb14, hr⟩
        · refine HT.cond1 rfl hb14 ?_
          refine HT.rg2 [oH] ⟨[(2, bV false)], [], 2⟩ hX (by kernel_rfl) allNil ?_
          have hr := of_some hr
          subst hr
          exact HT.ret (qThenR ⟨[bV false], [], [], by kernel_rfl, by kernel_rfl, rfl, by kernel_rfl, by kernel_rfl, trivial⟩)
        · refine HT.cond0 rfl hb14 ?_
          refine HT.skip (qThen ?_)
          refine HT.seq ?_
          refine HT.rg2 (oHs 3) ⟨[(0, .one (.dat .str a0)), (3, aV 0), (4, iV y2.2.1), (5, bV y2.2.2), (6, aV 1), (9, iV y10.1), (53, bV (y12 != y10.1))], [(1, .seq (.st (.pair .str (.st (.pair tI (.pair tI (.pair (.own tI) (.own .bool))))))) y10.2), (0, .seq (.st (.pair .str (.st (.pair tI (.pair tI (.pair (.own tI) (.own .bool))))))) y2.1)], 2⟩ hX (by kernel_rfl) allNil ?_
          rcases of_bif hr with ⟨hb15, hr⟩ | ⟨hb15, hr⟩
          · refine HT.cond1 rfl hb15 ?_
            refine HT.rg2 [oH] ⟨[(2, bV false)], [], 2⟩ hX (by kernel_rfl) allNil ?_
            have hr := of_some hr
            subst hr
            exact HT.ret (qThenR ⟨[bV false], [], [], by kernel_rfl, by kernel_rfl, rfl, by kernel_rfl, by kernel_rfl, trivial⟩)
          · refine HT.cond0 rfl hb15 ?_
            refine HT.skip (qThen ?_)
            obtain ⟨y16, hc17, hr⟩ := of_bind hr
            refine HT.rg2 [oH, ⟨none, .call [.imm .str] [⟨true, (.sl (.st (.pair .str (.st (.pair tI (.pair tI (.pair (.own tI) (.own .bool)))))))), y16.1⟩, ⟨false, tI, y16.2.1⟩, ⟨false, .bool, y16.2.2⟩] []⟩, oH, oH, oH, oH, oH, oH, oH] ⟨[(3, aV 0), (4, iV y2.2.1), (5, bV y2.2.2), (6, aV 1), (9, iV y10.1), (11, aV 2), (12, iV y16.2.1), (13, bV y16.2.2)], [(2, .seq (.st (.pair .str (.st (.pair tI (.pair tI (.pair (.own tI) (.own .bool))))))) y16.1), (1, .seq (.st (.pair .str (.st (.pair tI (.pair tI (.pair (.own tI) (.own .bool))))))) y10.2), (0, .seq (.st (.pair .str (.st (.pair tI (.pair tI (.pair (.own tI) (.own .bool))))))) y2.1)], 3⟩ hX (by kernel_rfl) (allCons (f38_ok hc17) allNil) ?_
            refine HT.seq ?_
            obtain ⟨v18', hT20, hr⟩ := of_bind hr
            refine HT.join (fun (v18 : Bool) => ⟨[(6, aV 0), (9, iV y10.1), (73, bV v18)], [(0, .seq (.st (.pair .str (.st (.pair tI (.pair tI (.pair (.own tI) (.own .bool))))))) y10.2)], 1⟩) (fun v => v = v18') (fun v18 hv19 => ?_) (fun cont => ?_)
            · subst hv19
              rcases of_bif hr with ⟨hb21, hr⟩ | ⟨hb21, hr⟩
              · refine HT.cond1 rfl hb21 ?_
                refine HT.rg2 [oH] ⟨[(2, bV false)], [], 1⟩ hX (by kernel_rfl) allNil ?_
                have hr := of_some hr
                subst hr
                exact HT.ret (qThenR ⟨[bV false], [], [], by kernel_rfl, by kernel_rfl, rfl, by kernel_rfl, by kernel_rfl, trivial⟩)
              · refine HT.cond0 rfl hb21 ?_
                refine HT.skip (qThen ?_)
                refine HT.rg2 [oH] ⟨[(6, aV 0), (9, iV y10.1), (10, iV (1 : Int))], [(0, .seq (.st (.pair .str (.st (.pair tI (.pair tI (.pair (.own tI) (.own .bool))))))) y10.2)], 1⟩ hX (by kernel_rfl) allNil ?_
                obtain ⟨y22, hc23, hr⟩ := of_bind hr
                refine HT.rg2 [oH, oH, ⟨none, .call [.imm (.sl (.st (.pair .str (.st (.pair tI (.pair tI (.pair tLI (.sl .bool)))))))), .imm tI] [⟨false, tI, y22⟩] []⟩, oH] ⟨[(9, iV y10.1), (10, iV y22)], [], 1⟩ hX (by kernel_rfl) (allCons (f41_ok hc23) allNil) ?_
                refine HT.seq ?_
                refine HT.rg2 (oHs 2) ⟨[(9, iV y10.1), (10, iV y22), (78, bV (decide (y22 < (0 : Int))))], [], 1⟩ hX (by kernel_rfl) allNil ?_
                rcases of_bif hr with ⟨hb24, hr⟩ | ⟨hb24, hr⟩
                · refine HT.cond1 rfl hb24 ?_
                  refine HT.rg2 [oH] ⟨[(2, bV false)], [], 1⟩ hX (by kernel_rfl) allNil ?_
                  have hr := of_some hr
                  subst hr
                  exact HT.ret (qThenR ⟨[bV false], [], [], by kernel_rfl, by kernel_rfl, rfl, by kernel_rfl, by kernel_rfl, trivial⟩)
                · refine HT.cond0 rfl hb24 ?_
                  refine HT.skip (qThen ?_)
                  refine HT.seq ?_
                  refine HT.rg2 (oHs 3) ⟨[(81, bV (y22 != y10.1))], [], 1⟩ hX (by kernel_rfl) allNil ?_
                  rcases of_bif hr with ⟨hb25, hr⟩ | ⟨hb25, hr⟩
                  · refine HT.cond1 rfl hb25 ?_
                    refine HT.rg2 [oH] ⟨[(2, bV false)], [], 1⟩ hX (by kernel_rfl) allNil ?_
                    have hr := of_some hr
                    subst hr
                    exact HT.ret (qThenR ⟨[bV false], [], [], by kernel_rfl, by kernel_rfl, rfl, by kernel_rfl, by kernel_rfl, trivial⟩)
                  · refine HT.cond0 rfl hb25 ?_
                    refine HT.skip (qThen ?_)
                    refine HT.rg2 [oH] ⟨[(2, bV true)], [], 1⟩ hX (by kernel_rfl) allNil ?_
                    have hr := of_some hr
                    subst hr
                    exact HT.ret ⟨[bV true], [], [], by kernel_rfl, by kernel_rfl, rfl, by kernel_rfl, by kernel_rfl, trivial⟩
            · obtain ⟨y26, hc27, hT20⟩ := of_bind hT20
              rcases of_bif hT20 with ⟨hb28, hT20⟩ | ⟨hb28, hT20⟩
              · exact HT.rgK [oH, oH, ⟨none, .call [.imm (.sl (.st (.pair .str (.st (.pair tI (.pair tI (.pair tLI (.sl .bool)))))))), .imm (.sl (.st (.pair .str (.st (.pair tI (.pair tI (.pair tLI (.sl .bool))))))))] [⟨false, .bool, y26⟩] []⟩, oH, oH, ⟨some true, .no⟩, ⟨some true, .no⟩, ⟨some true, .no⟩, ⟨none, .tv true⟩, oH, ⟨some true, .no⟩, ⟨some true, .no⟩, ⟨some true, .no⟩, ⟨none, .tv true⟩] [(1, 0)] [] hX (by kernel_rfl) (allCons (f39_ok hc27) (allCons hb28 (allCons hb28 (allCons hb28 (allCons hb28 (allCons (rfl : true = true) (allCons (rfl : true = true) (allCons (rfl : true = true) (allCons (rfl : true = true) allNil))))))))) (fun _ h => (qThen (h.ht (cont true (of_some hT20)))))
              · rcases of_bif hT20 with ⟨hb29, hT20⟩ | ⟨hb29, hT20⟩
                · exact HT.rgK [oH, oH, ⟨none, .call [.imm (.sl (.st (.pair .str (.st (.pair tI (.pair tI (.pair tLI (.sl .bool)))))))), .imm (.sl (.st (.pair .str (.st (.pair tI (.pair tI (.pair tLI (.sl .bool))))))))] [⟨false, .bool, y26⟩] []⟩, oH, oH, ⟨some false, .no⟩, ⟨some false, .no⟩, ⟨some false, .no⟩, ⟨none, .tv false⟩, oH, ⟨some true, .no⟩, ⟨some true, .no⟩, ⟨some true, .no⟩, ⟨none, .tv true⟩] [(1, 0)] [] hX (by kernel_rfl) (allCons (f39_ok hc27) (allCons hb28 (allCons hb28 (allCons hb28 (allCons hb28 (allCons hb29 (allCons hb29 (allCons hb29 (allCons hb29 allNil))))))))) (fun _ h => (qThen (h.ht (cont true (of_some hT20)))))
                · exact HT.rgK [oH, oH, ⟨none, .call [.imm (.sl (.st (.pair .str (.st (.pair tI (.pair tI (.pair tLI (.sl .bool)))))))), .imm (.sl (.st (.pair .str (.st (.pair tI (.pair tI (.pair tLI (.sl .bool))))))))] [⟨false, .bool, y26⟩] []⟩, oH, oH, ⟨some false, .no⟩, ⟨some false, .no⟩, ⟨some false, .no⟩, ⟨none, .tv false⟩, oH, ⟨some false, .no⟩, ⟨some false, .no⟩, ⟨some false, .no⟩, ⟨none, .tv false⟩] [(1, 0)] [] hX (by kernel_rfl) (allCons (f39_ok hc27) (allCons hb28 (allCons hb28 (allCons hb28 (allCons hb28 (allCons hb29 (allCons hb29 (allCons hb29 (allCons hb29 allNil))))))))) (fun _ h => (qThen (h.ht (cont (y16.2.2 != y2.2.2) (of_some hT20)))))
    · obtain ⟨y30, hc31, hT8⟩ := of_bind hT8
      rcases of_bif hT8 with ⟨hb32, hT8⟩ | ⟨hb32, hT8⟩
      · exact HT.rgK [oH, oH, ⟨none, .call [.imm (.sl (.st (.pair .str (.st (.pair tI (.pair tI (.pair tLI (.sl .bool)))))))), .imm (.sl (.st (.pair .str (.st (.pair tI (.pair tI (.pair tLI (.sl .bool))))))))] [⟨false, .bool, y30⟩] []⟩, oH, oH, ⟨some true, .no⟩, ⟨some true, .no⟩, ⟨some true, .no⟩, ⟨none, .tv true⟩, oH, ⟨some true, .no⟩, ⟨some true, .no⟩, ⟨some true, .no⟩, ⟨none, .tv true⟩] [(0, 0), (1, 1)] [] hX (by kernel_rfl) (allCons (f39_ok hc31) (allCons hb32 (allCons hb32 (allCons hb32 (allCons hb32 (allCons (rfl : true = true) (allCons (rfl : true = true) (allCons (rfl : true = true) (allCons (rfl : true = true) allNil))))))))) (fun _ h => (qThen (h.ht (cont true (of_some hT8)))))
      · rcases of_bif hT8 with ⟨hb33, hT8⟩ | ⟨hb33, hT8⟩
        · exact HT.rgK [oH, oH, ⟨none, .call [.imm (.sl (.st (.pair .str (.st (.pair tI (.pair tI (.pair tLI (.sl .bool)))))))), .imm (.sl (.st (.pair .str (.st (.pair tI (.pair tI (.pair tLI (.sl .bool))))))))] [⟨false, .bool, y30⟩] []⟩, oH, oH, ⟨some false, .no⟩, ⟨some false, .no⟩, ⟨some false, .no⟩, ⟨none, .tv false⟩, oH, ⟨some true, .no⟩, ⟨some true, .no⟩, ⟨some true, .no⟩, ⟨none, .tv true⟩] [(0, 0), (1, 1)] [] hX (by kernel_rfl) (allCons (f39_ok hc31) (allCons hb32 (allCons hb32 (allCons hb32 (allCons hb32 (allCons hb33 (allCons hb33 (allCons hb33 (allCons hb33 allNil))))))))) (fun _ h => (qThen (h.ht (cont true (of_some hT8)))))
        · exact HT.rgK [oH, oH, ⟨none, .call [.imm (.sl (.st (.pair .str (.st (.pair tI (.pair tI (.pair tLI (.sl .bool)))))))), .imm (.sl (.st (.pair .str (.st (.pair tI (.pair tI (.pair tLI (.sl .bool))))))))] [⟨false, .bool, y30⟩] []⟩, oH, oH, ⟨some false, .no⟩, ⟨some false, .no⟩, ⟨some false, .no⟩, ⟨none, .tv false⟩, oH, ⟨some false, .no⟩, ⟨some false, .no⟩, ⟨some false, .no⟩, ⟨none, .tv false⟩] [(0, 0), (1, 1)] [] hX (by kernel_rfl) (allCons (f39_ok hc31) (allCons hb32 (allCons hb32 (allCons hb32 (allCons hb32 (allCons hb33 (allCons hb33 (allCons hb33 (allCons hb33 allNil))))))))) (fun _ h => (qThen (h.ht (cont (y4.2.2 != y2.2.2) (of_some hT8)))))

end Go.Proofs
