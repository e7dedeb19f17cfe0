import Derived.Test.YtapgmbilojbacaaHiddenGenA
import Derived.Test.YtapgmbilojbacaaProg
set_option linter.unusedVariables false
set_option linter.unusedSimpArgs false
set_option linter.unusedSectionVars false
/-
  Functions as plain functions, and their contracts. Printed by a program.
-/
namespace Go.Proofs
open Go.Ide

noncomputable def laws_FnHidden_B1 (a1 : List Int) (y6 : (Int × Int × List Nat × List Nat × List Nat)) (y8 : Int) (s29 : Int × List Int) : Option ((Int × List Int) ⊕ (List Int)) :=
  bif (decide (s29.1 ≤ (wadd .i64 (1 : Int) y8))) then
    (laws_b10At a1 (wadd .i64 (3 : Int) s29.1) y6.1).bind fun y50 =>
    guardP (List.length s29.2 + List.length ([y50] : List Int) ≤ appMax) (
      some (.inl ((wadd .i64 s29.1 (1 : Int)), (s29.2 ++ ([y50] : List Int)))))
  else
    some (.inr s29.2)

noncomputable def laws_FnHidden_B2 (y6 : (Int × Int × List Nat × List Nat × List Nat)) (y16 : List Nat × Bool) (s24 : Nat × Int) (s59 : Nat × Int) : Option ((Nat × Int) ⊕ (Nat)) :=
  bif (decide (s59.2 < y6.1)) then
    guardP ((0 : Int) ≤ (wadd .i64 (wmul .i64 s24.2 y6.1) s59.2) ∧ (wadd .i64 (wmul .i64 s24.2 y6.1) s59.2) < lenI y16.1) (
      some (.inl ((fop .add .f64 s59.1 (fconv .f32 .f64 (List.getD y16.1 (Int.toNat (wadd .i64 (wmul .i64 s24.2 y6.1) s59.2)) (0 : Nat)))), (wadd .i64 s59.2 (1 : Int)))))
  else
    some (.inr s59.1)

noncomputable def laws_FnHidden_B3 (y6 : (Int × Int × List Nat × List Nat × List Nat)) (y14 : List Nat × Bool) (y16 : List Nat × Bool) (s24 : Nat × Int) : Option ((Nat × Int) ⊕ (Nat ⊕ Unit)) :=
  bif (decide (s24.2 < y6.1)) then
    (rounds (laws_FnHidden_B2 y6 y16 s24) ((0 : Nat), (0 : Int))).bind fun r61 =>
    guardP ((0 : Int) ≤ s24.2 ∧ s24.2 < lenI y14.1) (
      (laws_b10Gap r61 (fconv .f32 .f64 (List.getD y14.1 (Int.toNat s24.2) (0 : Nat)))).bind fun y63 =>
      bif (fgt .f64 y63 (4562254508917369340 : Nat)) then
        some (.inr (.inr ()))
      else
        some (.inl ((fop .add .f64 s24.1 r61), (wadd .i64 s24.2 (1 : Int)))))
  else
    some (.inr (.inl s24.1))

noncomputable def laws_FnHidden (a0 : List Int) (a1 : List Int) : Option (Bool) :=
  (laws_b10Long a0 a1).bind fun y1 =>
  bif y1 then
    some true
  else
    (laws_b10At a1 (0 : Int) (2 : Int)).bind fun y4 =>
    (spec_B10Model a0 (wadd .i64 (2 : Int) y4)).bind fun y6 =>
    (laws_b10At a1 (1 : Int) (6 : Int)).bind fun y8 =>
    (spec_B10Word a1 (wadd .i64 (2 : Int) y4) (wadd .i64 (1 : Int) y8)).bind fun y10 =>
    (laws_b10At a1 (2 : Int) (wadd .i64 (1 : Int) y8)).bind fun y12 =>
    (impl_HiddenAt (y6.1, y6.2.1, y6.2.2.1, y6.2.2.2.1, y6.2.2.2.2) y10 y12).bind fun y14 =>
    (impl_PairAt (y6.1, y6.2.1, y6.2.2.1, y6.2.2.2.1, y6.2.2.2.2) y10 y12).bind fun y16 =>
    (impl_BestHidden (y6.1, y6.2.1, y6.2.2.1, y6.2.2.2.1, y6.2.2.2.2) y10).bind fun y18 =>
    (show Option (Bool) from
      bif (!y14.2) then
        some true
      else
        bif (!y16.2) then
          some true
        else
          bif (!y18.2.2) then
            some true
          else
            bif ((lenI y14.1) != y6.1) then
              some true
            else
              bif ((lenI y16.1) != (wmul .i64 y6.1 y6.1)) then
                some true
              else
                some ((lenI y18.1) != (wadd .i64 (wadd .i64 (1 : Int) y8) (1 : Int)))).bind fun v20 =>
    bif v20 then
      some false
    else
      (rounds (laws_FnHidden_B3 y6 y14 y16) ((0 : Nat), (0 : Int))).bind fun r25 => match r25 with
        | .inl r26 =>
          (impl_HiddenChance (y6.1, y6.2.1, y6.2.2.1, y6.2.2.2.1, y6.2.2.2.2) y10 y18.1).bind fun y27 =>
          (rounds (laws_FnHidden_B1 a1 y6 y8) ((0 : Int), ([] : List Int))).bind fun r31 =>
          (impl_HiddenChance (y6.1, y6.2.1, y6.2.2.1, y6.2.2.2.1, y6.2.2.2.2) y10 r31).bind fun y32 =>
          (show Option (Bool) from
            bif y27.2 then
              bif y32.2 then
                (laws_b10Gap r26 (4607182418800017408 : Nat)).bind fun y39 =>
                bif (flt .f64 y39 (4562254508917369340 : Nat)) then
                  (laws_b10Gap (fconv .f32 .f64 y27.1) (fconv .f32 .f64 y18.2.1)).bind fun y42 =>
                  bif (flt .f64 y42 (fop .mul .f64 (4562254508917369340 : Nat) (fconv .f32 .f64 y18.2.1))) then
                    bif (fle .f64 (fconv .f32 .f64 y32.1) (fop .mul .f64 (fconv .f32 .f64 y18.2.1) (4607186922399644778 : Nat))) then
                      some (fgt .f32 y32.1 (0 : Nat))
                    else
                      some false
                  else
                    some false
                else
                  some false
              else
                some false
            else
              some false).bind fun v34 =>
          some v34
        | .inr r54 =>
          some false

theorem f7_ok {a0 : List Int} {a1 : List Int} {r : Bool} (hr : laws_FnHidden a0 a1 = some r) : CallOK Try.prog 7 [.imm (.sl (.int .u8)) a0, .imm (.sl (.int .u8)) a1] [⟨false, .bool, r⟩] [] := by
  unfold laws_FnHidden at hr
  refine CallOK.of_body (ts := [(false, .bool)]) Try.func7 rfl (by kernel_rfl) (Nat.le_of_ble_eq_true (by kernel_rfl)) fun cx hP hN hO hF => ?_
  have hO : cx.own.map Prod.fst = [] := hO
  have hX := CxIs.mk hP hN hO
  have hF := hF rfl
  show HT cx ⟨[(0, .one (.dat (.sl (.int .u8)) a0)), (1, .one (.dat (.sl (.int .u8)) a1))], [], 0⟩ _ _
  refine HT.rg2 [oH] ⟨[(0, .one (.dat (.sl (.int .u8)) a0)), (1, .one (.dat (.sl (.int .u8)) a1))], [], 0⟩ hX (by kernel_rfl) allNil ?_
  refine HT.seq ?_
  obtain ⟨y1, hc2, hr⟩ := of_bind hr
  refine HT.rg2 [oH, oH, ⟨none, .call [.imm (.sl (.int .u8)), .imm (.sl (.int .u8))] [⟨false, .bool, y1⟩] []⟩] ⟨[(0, .one (.dat (.sl (.int .u8)) a0)), (1, .one (.dat (.sl (.int .u8)) a1)), (29, bV y1)], [], 0⟩ hX (by kernel_rfl) (allCons (f11_ok hc2) allNil) ?_
  rcases of_bif hr with ⟨hb3, hr⟩ | ⟨hb3, hr⟩
  · refine HT.cond1 rfl hb3 ?_
    refine HT.rg2 [oH] ⟨[(4, bV true)], [], 0⟩ hX (by kernel_rfl) allNil ?_
    have hr := of_some hr
    subst hr
    exact HT.ret (qThenR ⟨[bV true], [], [], by kernel_rfl, by kernel_rfl, rfl, by kernel_rfl, by kernel_rfl, trivial⟩)
  · refine HT.cond0 rfl hb3 ?_
    refine HT.skip (qThen ?_)
    obtain ⟨y4, hc5, hr⟩ := of_bind hr
    refine HT.rg2 [oH, ⟨none, .call [.imm (.sl (.int .u8)), .imm tI, .imm tI] [⟨false, tI, y4⟩] []⟩, oH, oH] ⟨[(0, .one (.dat (.sl (.int .u8)) a0)), (1, .one (.dat (.sl (.int .u8)) a1)), (5, iV (wadd .i64 (2 : Int) y4))], [], 0⟩ hX (by kernel_rfl) (allCons (f19_ok hc5) allNil) ?_
    obtain ⟨y6, hc7, hr⟩ := of_bind hr
    refine HT.rg2 [oH, oH, ⟨none, .call [.imm (.sl (.int .u8)), .imm tI] [⟨true, (.st (.pair tI (.pair tI (.pair tLF (.pair tLF tLF))))), y6⟩] []⟩, oH, oH] ⟨[(1, .one (.dat (.sl (.int .u8)) a1)), (5, iV (wadd .i64 (2 : Int) y4)), (6, pV 3 0)], [(3, .box [iC y6.1, iC y6.2.1, .all 0, .all 1, .all 2]), (0, .seq tF y6.2.2.1), (1, .seq tF y6.2.2.2.1), (2, .seq tF y6.2.2.2.2)], 4⟩ hX (by kernel_rfl) (allCons (f60_ok hc7) allNil) ?_
    obtain ⟨y8, hc9, hr⟩ := of_bind hr
    refine HT.rg2 [oH, ⟨none, .call [.imm (.sl (.int .u8)), .imm tI, .imm tI] [⟨false, tI, y8⟩] []⟩, oH, oH] ⟨[(1, .one (.dat (.sl (.int .u8)) a1)), (5, iV (wadd .i64 (2 : Int) y4)), (6, pV 3 0), (7, iV (wadd .i64 (1 : Int) y8))], [(3, .box [iC y6.1, iC y6.2.1, .all 0, .all 1, .all 2]), (0, .seq tF y6.2.2.1), (1, .seq tF y6.2.2.2.1), (2, .seq tF y6.2.2.2.2)], 4⟩ hX (by kernel_rfl) (allCons (f19_ok hc9) allNil) ?_
    obtain ⟨y10, hc11, hr⟩ := of_bind hr
    refine HT.rg2 [oH, oH, oH, ⟨none, .call [.imm (.sl (.int .u8)), .imm tI, .imm tI] [⟨true, tLI, y10⟩] []⟩, oH] ⟨[(1, .one (.dat (.sl (.int .u8)) a1)), (6, pV 3 0), (7, iV (wadd .i64 (1 : Int) y8)), (8, aV 4)], [(4, .seq tI y10), (3, .box [iC y6.1, iC y6.2.1, .all 0, .all 1, .all 2]), (0, .seq tF y6.2.2.1), (1, .seq tF y6.2.2.2.1), (2, .seq tF y6.2.2.2.2)], 5⟩ hX (by kernel_rfl) (allCons (f34_ok hc11) allNil) ?_
    obtain ⟨y12, hc13, hr⟩ := of_bind hr
    refine HT.rg2 [oH, oH, ⟨none, .call [.imm (.sl (.int .u8)), .imm tI, .imm tI] [⟨false, tI, y12⟩] []⟩, oH] ⟨[(1, .one (.dat (.sl (.int .u8)) a1)), (6, pV 3 0), (7, iV (wadd .i64 (1 : Int) y8)), (8, aV 4), (9, iV y12)], [(4, .seq tI y10), (3, .box [iC y6.1, iC y6.2.1, .all 0, .all 1, .all 2]), (0, .seq tF y6.2.2.1), (1, .seq tF y6.2.2.2.1), (2, .seq tF y6.2.2.2.2)], 5⟩ hX (by kernel_rfl) (allCons (f19_ok hc13) allNil) ?_
    obtain ⟨y14, hc15, hr⟩ := of_bind hr
    refine HT.rg2 [oH, oH, oH, ⟨none, .call [.imm (.st (.pair tI (.pair tI (.pair tLF (.pair tLF tLF))))), .imm tLI, .imm tI] [⟨true, tLF, y14.1⟩, ⟨false, .bool, y14.2⟩] []⟩, oH, oH, oH, oH, oH] ⟨[(1, .one (.dat (.sl (.int .u8)) a1)), (6, pV 3 0), (7, iV (wadd .i64 (1 : Int) y8)), (8, aV 4), (9, iV y12), (10, aV 5), (11, bV y14.2)], [(5, .seq tF y14.1), (4, .seq tI y10), (3, .box [iC y6.1, iC y6.2.1, .all 0, .all 1, .all 2]), (0, .seq tF y6.2.2.1), (1, .seq tF y6.2.2.2.1), (2, .seq tF y6.2.2.2.2)], 6⟩ hX (by kernel_rfl) (allCons (f61_ok hc15) allNil) ?_
    obtain ⟨y16, hc17, hr⟩ := of_bind hr
    refine HT.rg2 [oH, oH, oH, ⟨none, .call [.imm (.st (.pair tI (.pair tI (.pair tLF (.pair tLF tLF))))), .imm tLI, .imm tI] [⟨true, tLF, y16.1⟩, ⟨false, .bool, y16.2⟩] []⟩, oH, oH, oH, oH, oH] ⟨[(1, .one (.dat (.sl (.int .u8)) a1)), (6, pV 3 0), (7, iV (wadd .i64 (1 : Int) y8)), (8, aV 4), (10, aV 5), (11, bV y14.2), (12, aV 6), (13, bV y16.2)], [(6, .seq tF y16.1), (5, .seq tF y14.1), (4, .seq tI y10), (3, .box [iC y6.1, iC y6.2.1, .all 0, .all 1, .all 2]), (0, .seq tF y6.2.2.1), (1, .seq tF y6.2.2.2.1), (2, .seq tF y6.2.2.2.2)], 7⟩ hX (by kernel_rfl) (allCons (f62_ok hc17) allNil) ?_
    obtain ⟨y18, hc19, hr⟩ := of_bind hr
    refine HT.rg2 [oH, oH, ⟨none, .call [.imm (.st (.pair tI (.pair tI (.pair tLF (.pair tLF tLF))))), .imm tLI] [⟨true, tLI, y18.1⟩, ⟨false, tF, y18.2.1⟩, ⟨false, .bool, y18.2.2⟩] []⟩, oH, oH, oH, oH, oH, oH, oH] ⟨[(1, .one (.dat (.sl (.int .u8)) a1)), (6, pV 3 0), (7, iV (wadd .i64 (1 : Int) y8)), (8, aV 4), (10, aV 5), (11, bV y14.2), (12, aV 6), (13, bV y16.2), (14, aV 7), (15, fV y18.2.1), (16, bV y18.2.2)], [(7, .seq tI y18.1), (6, .seq tF y16.1), (5, .seq tF y14.1), (4, .seq tI y10), (3, .box [iC y6.1, iC y6.2.1, .all 0, .all 1, .all 2]), (0, .seq tF y6.2.2.1), (1, .seq tF y6.2.2.2.1), (2, .seq tF y6.2.2.2.2)], 8⟩ hX (by kernel_rfl) (allCons (f63_ok hc19) allNil) ?_
    refine HT.seq ?_
    obtain ⟨v20', hT22, hr⟩ := of_bind hr
    refine HT.join (fun (v20 : Bool) => ⟨[(1, .one (.dat (.sl (.int .u8)) a1)), (6, pV 0 0), (7, iV (wadd .i64 (1 : Int) y8)), (8, aV 1), (10, aV 2), (12, aV 3), (14, aV 4), (15, fV y18.2.1), (100, bV v20)], [(0, .box [iC y6.1, iC y6.2.1, .all 5, .all 6, .all 7]), (1, .seq tI y10), (2, .seq tF y14.1), (3, .seq tF y16.1), (4, .seq tI y18.1), (5, .seq tF y6.2.2.1), (6, .seq tF y6.2.2.2.1), (7, .seq tF y6.2.2.2.2)], 8⟩) (fun v => v = v20') (fun v20 hv21 => ?_) (fun cont => ?_)
    · subst hv21
      rcases of_bif hr with ⟨hb23, hr⟩ | ⟨hb23, hr⟩
      · refine HT.cond1 rfl hb23 ?_
        refine HT.rg2 [oH] ⟨[(4, bV false)], [], 8⟩ hX (by kernel_rfl) allNil ?_
        have hr := of_some hr
        subst hr
        exact HT.ret (qThenR ⟨[bV false], [], [], by kernel_rfl, by kernel_rfl, rfl, by kernel_rfl, by kernel_rfl, trivial⟩)
      · refine HT.cond0 rfl hb23 ?_
        refine HT.skip (qThen ?_)
        refine HT.rg2 [oH] ⟨[(1, .one (.dat (.sl (.int .u8)) a1)), (6, pV 0 0), (7, iV (wadd .i64 (1 : Int) y8)), (8, aV 1), (10, aV 2), (12, aV 3), (14, aV 4), (15, fV y18.2.1), (17, .one (.dat (.flt .f64) (0 : Nat)))], [(0, .box [iC y6.1, iC y6.2.1, .all 5, .all 6, .all 7]), (1, .seq tI y10), (2, .seq tF y14.1), (3, .seq tF y16.1), (4, .seq tI y18.1), (5, .seq tF y6.2.2.1), (6, .seq tF y6.2.2.2.1), (7, .seq tF y6.2.2.2.2)], 8⟩ hX (by kernel_rfl) allNil ?_
        refine HT.seq ?_
        refine HT.rg2 [oH] ⟨[(1, .one (.dat (.sl (.int .u8)) a1)), (6, pV 0 0), (7, iV (wadd .i64 (1 : Int) y8)), (8, aV 1), (10, aV 2), (12, aV 3), (14, aV 4), (15, fV y18.2.1), (17, .one (.dat (.flt .f64) (0 : Nat))), (18, iV (0 : Int))], [(0, .box [iC y6.1, iC y6.2.1, .all 5, .all 6, .all 7]), (1, .seq tI y10), (2, .seq tF y14.1), (3, .seq tF y16.1), (4, .seq tI y18.1), (5, .seq tF y6.2.2.1), (6, .seq tF y6.2.2.2.1), (7, .seq tF y6.2.2.2.2)], 8⟩ hX (by kernel_rfl) allNil ?_
        refine HT.block ?_
        obtain ⟨r25, hL72, hr⟩ := of_bind hr
        refine HT.loopL (fun (s24 : Nat × Int) => ⟨[(1, .one (.dat (.sl (.int .u8)) a1)), (6, pV 0 0), (7, iV (wadd .i64 (1 : Int) y8)), (8, aV 1), (10, aV 2), (12, aV 3), (14, aV 4), (15, fV y18.2.1), (17, .one (.dat (.flt .f64) s24.1)), (18, iV s24.2)], [(0, .box [iC y6.1, iC y6.2.1, .all 5, .all 6, .all 7]), (1, .seq tI y10), (2, .seq tF y14.1), (3, .seq tF y16.1), (4, .seq tI y18.1), (5, .seq tF y6.2.2.1), (6, .seq tF y6.2.2.2.1), (7, .seq tF y6.2.2.2.2)], 8⟩) (fun (r25 : Nat ⊕ Unit) => match r25 with | .inl r26 => (.exit 0, ⟨[(1, .one (.dat (.sl (.int .u8)) a1)), (6, pV 0 0), (7, iV (wadd .i64 (1 : Int) y8)), (8, aV 1), (14, aV 2), (15, fV y18.2.1), (17, .one (.dat (.flt .f64) r26))], [(0, .box [iC y6.1, iC y6.2.1, .all 3, .all 4, .all 5]), (1, .seq tI y10), (2, .seq tI y18.1), (3, .seq tF y6.2.2.1), (4, .seq tF y6.2.2.2.1), (5, .seq tF y6.2.2.2.2)], 6⟩) | .inr r54 => (.ret, ⟨[(4, bV false)], [], 0⟩)) (Le.re [(0, 0), (1, 1), (2, 2), (3, 3), (4, 4), (5, 5), (6, 6), (7, 7)] [] hX (by kernel_rfl)) hL72 ?_ (fun s24 x55 hx56 hk57 => ?_)
        · rcases r25 with r26 | r54
          · refine (qBlockX (qThen ?_))
            obtain ⟨y27, hc28, hr⟩ := of_bind hr
            refine HT.rg2 [oH, oH, oH, ⟨none, .call [.imm (.st (.pair tI (.pair tI (.pair tLF (.pair tLF tLF))))), .imm tLI, .imm tLI] [⟨false, tF, y27.1⟩, ⟨false, .bool, y27.2⟩] []⟩, oH, oH, oH, oH, oH] ⟨[(1, .one (.dat (.sl (.int .u8)) a1)), (6, pV 0 0), (7, iV (wadd .i64 (1 : Int) y8)), (8, aV 1), (15, fV y18.2.1), (17, .one (.dat (.flt .f64) r26)), (21, fV y27.1), (22, bV y27.2)], [(0, .box [iC y6.1, iC y6.2.1, .all 3, .all 4, .all 5]), (1, .seq tI y10), (3, .seq tF y6.2.2.1), (4, .seq tF y6.2.2.2.1), (5, .seq tF y6.2.2.2.2)], 6⟩ hX (by kernel_rfl) (allCons (f65_ok hc28) allNil) ?_
            refine HT.rg2 (oHs 2) ⟨[(1, .one (.dat (.sl (.int .u8)) a1)), (6, pV 0 0), (7, iV (wadd .i64 (1 : Int) y8)), (8, aV 1), (15, fV y18.2.1), (17, .one (.dat (.flt .f64) r26)), (21, fV y27.1), (22, bV y27.2), (23, .one (.nilS))], [(0, .box [iC y6.1, iC y6.2.1, .all 3, .all 4, .all 5]), (1, .seq tI y10), (3, .seq tF y6.2.2.1), (4, .seq tF y6.2.2.2.1), (5, .seq tF y6.2.2.2.2)], 6⟩ hX (by kernel_rfl) allNil ?_
            refine HT.seq ?_
            refine HT.rg2 [oH] ⟨[(1, .one (.dat (.sl (.int .u8)) a1)), (6, pV 0 0), (7, iV (wadd .i64 (1 : Int) y8)), (8, aV 1), (15, fV y18.2.1), (17, .one (.dat (.flt .f64) r26)), (21, fV y27.1), (22, bV y27.2), (23, .one (.nilS)), (24, iV (0 : Int))], [(0, .box [iC y6.1, iC y6.2.1, .all 3, .all 4, .all 5]), (1, .seq tI y10), (3, .seq tF y6.2.2.1), (4, .seq tF y6.2.2.2.1), (5, .seq tF y6.2.2.2.2)], 6⟩ hX (by kernel_rfl) allNil ?_
            refine HT.block ?_
            obtain ⟨r30, hL53, hr⟩ := of_bind hr
            refine HT.loopL (fun (s29 : Int × List Int) => ⟨[(1, .one (.dat (.sl (.int .u8)) a1)), (6, pV 0 0), (7, iV (wadd .i64 (1 : Int) y8)), (8, aV 1), (15, fV y18.2.1), (17, .one (.dat (.flt .f64) r26)), (21, fV y27.1), (22, bV y27.2), (23, aV 2), (24, iV s29.1)], [(0, .box [iC y6.1, iC y6.2.1, .all 3, .all 4, .all 5]), (1, .seq tI y10), (2, .seq tI s29.2), (3, .seq tF y6.2.2.1), (4, .seq tF y6.2.2.2.1), (5, .seq tF y6.2.2.2.2)], 6⟩) (fun (r31 : List Int) => (.exit 4, ⟨[(6, pV 0 0), (8, aV 1), (15, fV y18.2.1), (17, .one (.dat (.flt .f64) r26)), (21, fV y27.1), (22, bV y27.2), (23, aV 2)], [(0, .box [iC y6.1, iC y6.2.1, .all 3, .all 4, .all 5]), (1, .seq tI y10), (2, .seq tI r31), (3, .seq tF y6.2.2.1), (4, .seq tF y6.2.2.2.1), (5, .seq tF y6.2.2.2.2)], 6⟩)) (Le.re [(0, 0), (1, 1), (3, 3), (4, 4), (5, 5)] [2] hX (by kernel_rfl)) hL53 ?_ (fun s29 x46 hx47 hk48 => ?_)
            · refine (qBlockX (qThen ?_))
              obtain ⟨y32, hc33, hr⟩ := of_bind hr
              refine HT.rg2 [oH, oH, oH, ⟨none, .call [.imm (.st (.pair tI (.pair tI (.pair tLF (.pair tLF tLF))))), .imm tLI, .imm tLI] [⟨false, tF, y32.1⟩, ⟨false, .bool, y32.2⟩] []⟩, oH, oH, oH, oH, oH] ⟨[(15, fV y18.2.1), (17, .one (.dat (.flt .f64) r26)), (21, fV y27.1), (22, bV y27.2), (25, fV y32.1), (26, bV y32.2)], [], 6⟩ hX (by kernel_rfl) (allCons (f65_ok hc33) allNil) ?_
              obtain ⟨v34', hT36, hr⟩ := of_bind hr
              refine HT.join (fun (v34 : Bool) => ⟨[(4, bV v34)], [], 0⟩) (fun v => v = v34') (fun v34 hv35 => ?_) (fun cont => ?_)
              · subst hv35
                have hr := of_some hr
                subst hr
                exact HT.ret ⟨[bV v34], [], [], by kernel_rfl, by kernel_rfl, rfl, by kernel_rfl, by kernel_rfl, trivial⟩
              · rcases of_bif hT36 with ⟨hb37, hT36⟩ | ⟨hb37, hT36⟩
                · rcases of_bif hT36 with ⟨hb38, hT36⟩ | ⟨hb38, hT36⟩
                  · obtain ⟨y39, hc40, hT36⟩ := of_bind hT36
                    rcases of_bif hT36 with ⟨hb41, hT36⟩ | ⟨hb41, hT36⟩
                    · obtain ⟨y42, hc43, hT36⟩ := of_bind hT36
                      rcases of_bif hT36 with ⟨hb44, hT36⟩ | ⟨hb44, hT36⟩
                      · rcases of_bif hT36 with ⟨hb45, hT36⟩ | ⟨hb45, hT36⟩
                        · exact HT.rgK [oH, oH, ⟨some true, .no⟩, ⟨none, .tv true⟩, oH, ⟨some true, .no⟩, ⟨some true, .call [.imm (.flt .f64), .imm (.flt .f64)] [⟨false, (.flt .f64), y39⟩] []⟩, ⟨some true, .no⟩, ⟨none, .tv true⟩, oH, ⟨some true, .no⟩, ⟨some true, .no⟩, ⟨some true, .no⟩, ⟨some true, .no⟩, ⟨some true, .call [.imm (.flt .f64), .imm (.flt .f64)] [⟨false, (.flt .f64), y42⟩] []⟩, ⟨some true, .no⟩, ⟨some true, .no⟩, ⟨some true, .no⟩, ⟨some true, .no⟩, ⟨none, .tv true⟩, oH, ⟨some true, .no⟩, ⟨some true, .no⟩, ⟨some true, .no⟩, ⟨some true, .no⟩, ⟨some true, .no⟩, ⟨some true, .no⟩, ⟨none, .tv true⟩, oH, ⟨some true, .no⟩, ⟨some true, .no⟩, ⟨none, .tv true⟩, oH] [] [] hX (by kernel_rfl) (allCons hb37 (allCons hb37 (allCons hb38 (allCons hb38 (allCons (f64_ok hc40) (allCons hb38 (allCons hb38 (allCons hb41 (allCons hb41 (allCons (show fconvOK .f32 .f64 y27.1 = true from (fconv_up _)) (allCons hb41 (allCons hb41 (allCons (show fconvOK .f32 .f64 y18.2.1 = true from (fconv_up _)) (allCons hb41 (allCons (f64_ok hc43) (allCons hb41 (allCons hb41 (allCons (show fconvOK .f32 .f64 y18.2.1 = true from (fconv_up _)) (allCons hb41 (allCons hb41 (allCons hb41 (allCons hb44 (allCons hb44 (allCons (show fconvOK .f32 .f64 y32.1 = true from (fconv_up _)) (allCons hb44 (allCons hb44 (allCons (show fconvOK .f32 .f64 y18.2.1 = true from (fconv_up _)) (allCons hb44 (allCons hb44 (allCons hb44 (allCons hb45 (allCons hb45 (allCons hb45 allNil))))))))))))))))))))))))))))))))) (fun _ h => (qThen (h.ht (cont (fgt .f32 y32.1 (0 : Nat)) (of_some hT36)))))
                        · exact HT.rgK [oH, oH, ⟨some true, .no⟩, ⟨none, .tv true⟩, oH, ⟨some true, .no⟩, ⟨some true, .call [.imm (.flt .f64), .imm (.flt .f64)] [⟨false, (.flt .f64), y39⟩] []⟩, ⟨some true, .no⟩, ⟨none, .tv true⟩, oH, ⟨some true, .no⟩, ⟨some true, .no⟩, ⟨some true, .no⟩, ⟨some true, .no⟩, ⟨some true, .call [.imm (.flt .f64), .imm (.flt .f64)] [⟨false, (.flt .f64), y42⟩] []⟩, ⟨some true, .no⟩, ⟨some true, .no⟩, ⟨some true, .no⟩, ⟨some true, .no⟩, ⟨none, .tv true⟩, oH, ⟨some true, .no⟩, ⟨some true, .no⟩, ⟨some true, .no⟩, ⟨some true, .no⟩, ⟨some true, .no⟩, ⟨some true, .no⟩, ⟨none, .tv true⟩, oH, ⟨some false, .no⟩, ⟨some false, .no⟩, ⟨none, .tv false⟩, oH] [] [] hX (by kernel_rfl) (allCons hb37 (allCons hb37 (allCons hb38 (allCons hb38 (allCons (f64_ok hc40) (allCons hb38 (allCons hb38 (allCons hb41 (allCons hb41 (allCons (show fconvOK .f32 .f64 y27.1 = true from (fconv_up _)) (allCons hb41 (allCons hb41 (allCons (show fconvOK .f32 .f64 y18.2.1 = true from (fconv_up _)) (allCons hb41 (allCons (f64_ok hc43) (allCons hb41 (allCons hb41 (allCons (show fconvOK .f32 .f64 y18.2.1 = true from (fconv_up _)) (allCons hb41 (allCons hb41 (allCons hb41 (allCons hb44 (allCons hb44 (allCons (show fconvOK .f32 .f64 y32.1 = true from (fconv_up _)) (allCons hb44 (allCons hb44 (allCons (show fconvOK .f32 .f64 y18.2.1 = true from (fconv_up _)) (allCons hb44 (allCons hb44 (allCons hb44 (allCons hb45 (allCons hb45 (allCons hb45 allNil))))))))))))))))))))))))))))))))) (fun _ h => (qThen (h.ht (cont false (of_some hT36)))))
                      · exact HT.rgK [oH, oH, ⟨some true, .no⟩, ⟨none, .tv true⟩, oH, ⟨some true, .no⟩, ⟨some true, .call [.imm (.flt .f64), .imm (.flt .f64)] [⟨false, (.flt .f64), y39⟩] []⟩, ⟨some true, .no⟩, ⟨none, .tv true⟩, oH, ⟨some true, .no⟩, ⟨some true, .no⟩, ⟨some true, .no⟩, ⟨some true, .no⟩, ⟨some true, .call [.imm (.flt .f64), .imm (.flt .f64)] [⟨false, (.flt .f64), y42⟩] []⟩, ⟨some true, .no⟩, ⟨some true, .no⟩, ⟨some true, .no⟩, ⟨some true, .no⟩, ⟨none, .tv true⟩, oH, ⟨some false, .no⟩, ⟨some false, .no⟩, ⟨some false, .no⟩, ⟨some false, .no⟩, ⟨some false, .no⟩, ⟨some false, .no⟩, ⟨none, .tv false⟩, oH, ⟨some false, .no⟩, ⟨some false, .no⟩, ⟨none, .tv false⟩, oH] [] [] hX (by kernel_rfl) (allCons hb37 (allCons hb37 (allCons hb38 (allCons hb38 (allCons (f64_ok hc40) (allCons hb38 (allCons hb38 (allCons hb41 (allCons hb41 (allCons (show fconvOK .f32 .f64 y27.1 = true from (fconv_up _)) (allCons hb41 (allCons hb41 (allCons (show fconvOK .f32 .f64 y18.2.1 = true from (fconv_up _)) (allCons hb41 (allCons (f64_ok hc43) (allCons hb41 (allCons hb41 (allCons (show fconvOK .f32 .f64 y18.2.1 = true from (fconv_up _)) (allCons hb41 (allCons hb41 (allCons hb41 (allCons hb44 (allCons hb44 (allCons hb44 (allCons hb44 (allCons hb44 (allCons hb44 (allCons hb44 (allCons (rfl : false = false) (allCons (rfl : false = false) (allCons (rfl : false = false) allNil))))))))))))))))))))))))))))))) (fun _ h => (qThen (h.ht (cont false (of_some hT36)))))
                    · exact HT.rgK [oH, oH, ⟨some true, .no⟩, ⟨none, .tv true⟩, oH, ⟨some true, .no⟩, ⟨some true, .call [.imm (.flt .f64), .imm (.flt .f64)] [⟨false, (.flt .f64), y39⟩] []⟩, ⟨some true, .no⟩, ⟨none, .tv true⟩, oH, ⟨some false, .no⟩, ⟨some false, .no⟩, ⟨some false, .no⟩, ⟨some false, .no⟩, ⟨some false, .no⟩, ⟨some false, .no⟩, ⟨some false, .no⟩, ⟨some false, .no⟩, ⟨some false, .no⟩, ⟨none, .tv false⟩, oH, ⟨some false, .no⟩, ⟨some false, .no⟩, ⟨some false, .no⟩, ⟨some false, .no⟩, ⟨some false, .no⟩, ⟨some false, .no⟩, ⟨none, .tv false⟩, oH, ⟨some false, .no⟩, ⟨some false, .no⟩, ⟨none, .tv false⟩, oH] [] [] hX (by kernel_rfl) (allCons hb37 (allCons hb37 (allCons hb38 (allCons hb38 (allCons (f64_ok hc40) (allCons hb38 (allCons hb38 (allCons hb41 (allCons hb41 (allCons hb41 (allCons hb41 (allCons hb41 (allCons hb41 (allCons hb41 (allCons hb41 (allCons hb41 (allCons hb41 (allCons (rfl : false = false) (allCons (rfl : false = false) (allCons (rfl : false = false) (allCons (rfl : false = false) (allCons (rfl : false = false) (allCons (rfl : false = false) (allCons (rfl : false = false) (allCons (rfl : false = false) (allCons (rfl : false = false) (allCons (rfl : false = false) allNil))))))))))))))))))))))))))) (fun _ h => (qThen (h.ht (cont false (of_some hT36)))))
                  · exact HT.rgK [oH, oH, ⟨some true, .no⟩, ⟨none, .tv true⟩, oH, ⟨some false, .no⟩, ⟨some false, .no⟩, ⟨some false, .no⟩, ⟨none, .tv false⟩, oH, ⟨some false, .no⟩, ⟨some false, .no⟩, ⟨some false, .no⟩, ⟨some false, .no⟩, ⟨some false, .no⟩, ⟨some false, .no⟩, ⟨some false, .no⟩, ⟨some false, .no⟩, ⟨some false, .no⟩, ⟨none, .tv false⟩, oH, ⟨some false, .no⟩, ⟨some false, .no⟩, ⟨some false, .no⟩, ⟨some false, .no⟩, ⟨some false, .no⟩, ⟨some false, .no⟩, ⟨none, .tv false⟩, oH, ⟨some false, .no⟩, ⟨some false, .no⟩, ⟨none, .tv false⟩, oH] [] [] hX (by kernel_rfl) (allCons hb37 (allCons hb37 (allCons hb38 (allCons hb38 (allCons hb38 (allCons hb38 (allCons (rfl : false = false) (allCons (rfl : false = false) (allCons (rfl : false = false) (allCons (rfl : false = false) (allCons (rfl : false = false) (allCons (rfl : false = false) (allCons (rfl : false = false) (allCons (rfl : false = false) (allCons (rfl : false = false) (allCons (rfl : false = false) (allCons (rfl : false = false) (allCons (rfl : false = false) (allCons (rfl : false = false) (allCons (rfl : false = false) (allCons (rfl : false = false) (allCons (rfl : false = false) (allCons (rfl : false = false) (allCons (rfl : false = false) (allCons (rfl : false = false) (allCons (rfl : false = false) allNil)))))))))))))))))))))))))) (fun _ h => (qThen (h.ht (cont false (of_some hT36)))))
                · exact HT.rgK [oH, oH, ⟨some false, .no⟩, ⟨none, .tv false⟩, oH, ⟨some false, .no⟩, ⟨some false, .no⟩, ⟨some false, .no⟩, ⟨none, .tv false⟩, oH, ⟨some false, .no⟩, ⟨some false, .no⟩, ⟨some false, .no⟩, ⟨some false, .no⟩, ⟨some false, .no⟩, ⟨some false, .no⟩, ⟨some false, .no⟩, ⟨some false, .no⟩, ⟨some false, .no⟩, ⟨none, .tv false⟩, oH, ⟨some false, .no⟩, ⟨some false, .no⟩, ⟨some false, .no⟩, ⟨some false, .no⟩, ⟨some false, .no⟩, ⟨some false, .no⟩, ⟨none, .tv false⟩, oH, ⟨some false, .no⟩, ⟨some false, .no⟩, ⟨none, .tv false⟩, oH] [] [] hX (by kernel_rfl) (allCons hb37 (allCons hb37 (allCons (rfl : false = false) (allCons (rfl : false = false) (allCons (rfl : false = false) (allCons (rfl : false = false) (allCons (rfl : false = false) (allCons (rfl : false = false) (allCons (rfl : false = false) (allCons (rfl : false = false) (allCons (rfl : false = false) (allCons (rfl : false = false) (allCons (rfl : false = false) (allCons (rfl : false = false) (allCons (rfl : false = false) (allCons (rfl : false = false) (allCons (rfl : false = false) (allCons (rfl : false = false) (allCons (rfl : false = false) (allCons (rfl : false = false) (allCons (rfl : false = false) (allCons (rfl : false = false) (allCons (rfl : false = false) (allCons (rfl : false = false) (allCons (rfl : false = false) (allCons (rfl : false = false) allNil)))))))))))))))))))))))))) (fun _ h => (qThen (h.ht (cont false (of_some hT36)))))
            · refine HT.seq ?_
              refine HT.rg2 (oHs 3) ⟨[(1, .one (.dat (.sl (.int .u8)) a1)), (6, pV 0 0), (7, iV (wadd .i64 (1 : Int) y8)), (8, aV 1), (15, fV y18.2.1), (17, .one (.dat (.flt .f64) r26)), (21, fV y27.1), (22, bV y27.2), (23, aV 2), (24, iV s29.1), (146, bV (decide (s29.1 ≤ (wadd .i64 (1 : Int) y8))))], [(0, .box [iC y6.1, iC y6.2.1, .all 3, .all 4, .all 5]), (1, .seq tI y10), (2, .seq tI s29.2), (3, .seq tF y6.2.2.1), (4, .seq tF y6.2.2.2.1), (5, .seq tF y6.2.2.2.2)], 6⟩ hX (by kernel_rfl) allNil ?_
              rcases of_bif hx47 with ⟨hb49, hx47⟩ | ⟨hb49, hx47⟩
              · refine HT.cond1 rfl hb49 ?_
                refine HT.skip (qThen ?_)
                refine HT.seq ?_
                refine HT.block ?_
                obtain ⟨y50, hc51, hx47⟩ := of_bind hx47
                obtain ⟨hg52, hx47⟩ := of_guard hx47
                refine HT.rgL [oH, oH, oH, oH, oH, oH, ⟨none, .call [.imm (.sl (.int .u8)), .imm tI, .imm tI] [⟨false, tI, y50⟩] []⟩, ⟨none, .ty tI⟩, ⟨none, .ty tI⟩, oH] ⟨[(1, .one (.dat (.sl (.int .u8)) a1)), (6, pV 0 0), (7, iV (wadd .i64 (1 : Int) y8)), (8, aV 1), (15, fV y18.2.1), (17, .one (.dat (.flt .f64) r26)), (21, fV y27.1), (22, bV y27.2), (23, aV 7), (24, iV s29.1)], [(7, .seq tI (s29.2 ++ ([y50] : List Int))), (0, .box [iC y6.1, iC y6.2.1, .all 3, .all 4, .all 5]), (1, .seq tI y10), (3, .seq tF y6.2.2.1), (4, .seq tF y6.2.2.2.1), (5, .seq tF y6.2.2.2.2)], 8⟩ hX (by kernel_rfl) (allCons (f19_ok hc51) (allCons hg52 allNil)) (qBlock (qThen ?_))
                have hx47 := of_some hx47
                subst hx47
                exact HT.rgK (oHs 3) [(0, 0), (1, 1), (7, 2), (3, 3), (4, 4), (5, 5)] [] hX (by kernel_rfl) allNil (fun _ h => (qLoopN ⟨((wadd .i64 s29.1 (1 : Int)), (s29.2 ++ ([y50] : List Int))), rfl, h⟩))
              · refine HT.cond0 rfl hb49 ?_
                have hx47 := of_some hx47
                subst hx47
                exact HT.exitL (Le.re [(0, 0), (1, 1), (2, 2), (3, 3), (4, 4), (5, 5)] [] hX (by kernel_rfl)) (qThenE (qLoopE (hk48 s29.2 rfl)))
          · have hr := of_some hr
            subst hr
            exact (qBlockR (qThenR ⟨[bV false], [], [], by kernel_rfl, by kernel_rfl, rfl, by kernel_rfl, by kernel_rfl, trivial⟩))
        · refine HT.seq ?_
          refine HT.rg2 (oHs 4) ⟨[(1, .one (.dat (.sl (.int .u8)) a1)), (6, pV 0 0), (7, iV (wadd .i64 (1 : Int) y8)), (8, aV 1), (10, aV 2), (12, aV 3), (14, aV 4), (15, fV y18.2.1), (17, .one (.dat (.flt .f64) s24.1)), (18, iV s24.2), (104, bV (decide (s24.2 < y6.1)))], [(0, .box [iC y6.1, iC y6.2.1, .all 5, .all 6, .all 7]), (1, .seq tI y10), (2, .seq tF y14.1), (3, .seq tF y16.1), (4, .seq tI y18.1), (5, .seq tF y6.2.2.1), (6, .seq tF y6.2.2.2.1), (7, .seq tF y6.2.2.2.2)], 8⟩ hX (by kernel_rfl) allNil ?_
          rcases of_bif hx56 with ⟨hb58, hx56⟩ | ⟨hb58, hx56⟩
          · refine HT.cond1 rfl hb58 ?_
            refine HT.skip (qThen ?_)
            refine HT.seq ?_
            refine HT.block ?_
            refine HT.rg2 [oH] ⟨[(1, .one (.dat (.sl (.int .u8)) a1)), (6, pV 0 0), (7, iV (wadd .i64 (1 : Int) y8)), (8, aV 1), (10, aV 2), (12, aV 3), (14, aV 4), (15, fV y18.2.1), (17, .one (.dat (.flt .f64) s24.1)), (18, iV s24.2), (19, .one (.dat (.flt .f64) (0 : Nat)))], [(0, .box [iC y6.1, iC y6.2.1, .all 5, .all 6, .all 7]), (1, .seq tI y10), (2, .seq tF y14.1), (3, .seq tF y16.1), (4, .seq tI y18.1), (5, .seq tF y6.2.2.1), (6, .seq tF y6.2.2.2.1), (7, .seq tF y6.2.2.2.2)], 8⟩ hX (by kernel_rfl) allNil ?_
            refine HT.seq ?_
            refine HT.rg2 [oH] ⟨[(1, .one (.dat (.sl (.int .u8)) a1)), (6, pV 0 0), (7, iV (wadd .i64 (1 : Int) y8)), (8, aV 1), (10, aV 2), (12, aV 3), (14, aV 4), (15, fV y18.2.1), (17, .one (.dat (.flt .f64) s24.1)), (18, iV s24.2), (19, .one (.dat (.flt .f64) (0 : Nat))), (20, iV (0 : Int))], [(0, .box [iC y6.1, iC y6.2.1, .all 5, .all 6, .all 7]), (1, .seq tI y10), (2, .seq tF y14.1), (3, .seq tF y16.1), (4, .seq tI y18.1), (5, .seq tF y6.2.2.1), (6, .seq tF y6.2.2.2.1), (7, .seq tF y6.2.2.2.2)], 8⟩ hX (by kernel_rfl) allNil ?_
            refine HT.block ?_
            obtain ⟨r60, hL71, hx56⟩ := of_bind hx56
            refine HT.loopL (fun (s59 : Nat × Int) => ⟨[(1, .one (.dat (.sl (.int .u8)) a1)), (6, pV 0 0), (7, iV (wadd .i64 (1 : Int) y8)), (8, aV 1), (10, aV 2), (12, aV 3), (14, aV 4), (15, fV y18.2.1), (17, .one (.dat (.flt .f64) s24.1)), (18, iV s24.2), (19, .one (.dat (.flt .f64) s59.1)), (20, iV s59.2)], [(0, .box [iC y6.1, iC y6.2.1, .all 5, .all 6, .all 7]), (1, .seq tI y10), (2, .seq tF y14.1), (3, .seq tF y16.1), (4, .seq tI y18.1), (5, .seq tF y6.2.2.1), (6, .seq tF y6.2.2.2.1), (7, .seq tF y6.2.2.2.2)], 8⟩) (fun (r61 : Nat) => (.exit 2, ⟨[(1, .one (.dat (.sl (.int .u8)) a1)), (6, pV 0 0), (7, iV (wadd .i64 (1 : Int) y8)), (8, aV 1), (10, aV 2), (12, aV 3), (14, aV 4), (15, fV y18.2.1), (17, .one (.dat (.flt .f64) s24.1)), (18, iV s24.2), (19, .one (.dat (.flt .f64) r61))], [(0, .box [iC y6.1, iC y6.2.1, .all 5, .all 6, .all 7]), (1, .seq tI y10), (2, .seq tF y14.1), (3, .seq tF y16.1), (4, .seq tI y18.1), (5, .seq tF y6.2.2.1), (6, .seq tF y6.2.2.2.1), (7, .seq tF y6.2.2.2.2)], 8⟩)) (Le.re [(0, 0), (1, 1), (2, 2), (3, 3), (4, 4), (5, 5), (6, 6), (7, 7)] [] hX (by kernel_rfl)) hL71 ?_ (fun s59 x66 hx67 hk68 => ?_)
            · refine (qBlockX (qThen ?_))
              refine HT.seq ?_
              obtain ⟨hg62, hx56⟩ := of_guard hx56
              obtain ⟨y63, hc64, hx56⟩ := of_bind hx56
              refine HT.rg2 [oH, oH, oH, oH, oH, oH, ⟨none, .call [.imm (.flt .f64), .imm (.flt .f64)] [⟨false, (.flt .f64), y63⟩] []⟩, oH] ⟨[(1, .one (.dat (.sl (.int .u8)) a1)), (6, pV 0 0), (7, iV (wadd .i64 (1 : Int) y8)), (8, aV 1), (10, aV 2), (12, aV 3), (14, aV 4), (15, fV y18.2.1), (17, .one (.dat (.flt .f64) s24.1)), (18, iV s24.2), (19, .one (.dat (.flt .f64) r60)), (132, bV (fgt .f64 y63 (4562254508917369340 : Nat)))], [(0, .box [iC y6.1, iC y6.2.1, .all 5, .all 6, .all 7]), (1, .seq tI y10), (2, .seq tF y14.1), (3, .seq tF y16.1), (4, .seq tI y18.1), (5, .seq tF y6.2.2.1), (6, .seq tF y6.2.2.2.1), (7, .seq tF y6.2.2.2.2)], 8⟩ hX (by kernel_rfl) (allCons hg62 (allCons (natLt hg62) (allCons (show fconvOK .f32 .f64 (List.getD y14.1 (Int.toNat s24.2) (0 : Nat)) = true from (fconv_up _)) (allCons (f64_ok hc64) allNil)))) ?_
              rcases of_bif hx56 with ⟨hb65, hx56⟩ | ⟨hb65, hx56⟩
              · refine HT.cond1 rfl hb65 ?_
                refine HT.rg2 [oH] ⟨[(4, bV false)], [], 8⟩ hX (by kernel_rfl) allNil ?_
                have hx56 := of_some hx56
                subst hx56
                exact HT.retL (Le.re [] [] hX (by kernel_rfl)) (qThenR (qBlockR (qThenR (qLoopR (hk57 (.inr ()) rfl)))))
              · refine HT.cond0 rfl hb65 ?_
                refine HT.skip (qThen ?_)
                refine HT.rgL (oHs 4) ⟨[(1, .one (.dat (.sl (.int .u8)) a1)), (6, pV 0 0), (7, iV (wadd .i64 (1 : Int) y8)), (8, aV 1), (10, aV 2), (12, aV 3), (14, aV 4), (15, fV y18.2.1), (17, .one (.dat (.flt .f64) (fop .add .f64 s24.1 r60))), (18, iV s24.2)], [(0, .box [iC y6.1, iC y6.2.1, .all 5, .all 6, .all 7]), (1, .seq tI y10), (2, .seq tF y14.1), (3, .seq tF y16.1), (4, .seq tI y18.1), (5, .seq tF y6.2.2.1), (6, .seq tF y6.2.2.2.1), (7, .seq tF y6.2.2.2.2)], 8⟩ hX (by kernel_rfl) allNil (qBlock (qThen ?_))
                have hx56 := of_some hx56
                subst hx56
                exact HT.rgK (oHs 3) [(0, 0), (1, 1), (2, 2), (3, 3), (4, 4), (5, 5), (6, 6), (7, 7)] [] hX (by kernel_rfl) allNil (fun _ h => (qLoopN ⟨((fop .add .f64 s24.1 r60), (wadd .i64 s24.2 (1 : Int))), rfl, h⟩))
            · refine HT.seq ?_
              refine HT.rg2 (oHs 4) ⟨[(1, .one (.dat (.sl (.int .u8)) a1)), (6, pV 0 0), (7, iV (wadd .i64 (1 : Int) y8)), (8, aV 1), (10, aV 2), (12, aV 3), (14, aV 4), (15, fV y18.2.1), (17, .one (.dat (.flt .f64) s24.1)), (18, iV s24.2), (19, .one (.dat (.flt .f64) s59.1)), (20, iV s59.2), (110, bV (decide (s59.2 < y6.1)))], [(0, .box [iC y6.1, iC y6.2.1, .all 5, .all 6, .all 7]), (1, .seq tI y10), (2, .seq tF y14.1), (3, .seq tF y16.1), (4, .seq tI y18.1), (5, .seq tF y6.2.2.1), (6, .seq tF y6.2.2.2.1), (7, .seq tF y6.2.2.2.2)], 8⟩ hX (by kernel_rfl) allNil ?_
              rcases of_bif hx67 with ⟨hb69, hx67⟩ | ⟨hb69, hx67⟩
              · refine HT.cond1 rfl hb69 ?_
                refine HT.skip (qThen ?_)
                refine HT.seq ?_
                refine HT.block ?_
                obtain ⟨hg70, hx67⟩ := of_guard hx67
                refine HT.rgL (oHs 13) ⟨[(1, .one (.dat (.sl (.int .u8)) a1)), (6, pV 0 0), (7, iV (wadd .i64 (1 : Int) y8)), (8, aV 1), (10, aV 2), (12, aV 3), (14, aV 4), (15, fV y18.2.1), (17, .one (.dat (.flt .f64) s24.1)), (18, iV s24.2), (19, .one (.dat (.flt .f64) (fop .add .f64 s59.1 (fconv .f32 .f64 (List.getD y16.1 (Int.toNat (wadd .i64 (wmul .i64 s24.2 y6.1) s59.2)) (0 : Nat)))))), (20, iV s59.2)], [(0, .box [iC y6.1, iC y6.2.1, .all 5, .all 6, .all 7]), (1, .seq tI y10), (2, .seq tF y14.1), (3, .seq tF y16.1), (4, .seq tI y18.1), (5, .seq tF y6.2.2.1), (6, .seq tF y6.2.2.2.1), (7, .seq tF y6.2.2.2.2)], 8⟩ hX (by kernel_rfl) (allCons hg70 (allCons (natLt hg70) (allCons (show fconvOK .f32 .f64 (List.getD y16.1 (Int.toNat (wadd .i64 (wmul .i64 s24.2 y6.1) s59.2)) (0 : Nat)) = true from (fconv_up _)) allNil))) (qBlock (qThen ?_))
                have hx67 := of_some hx67
                subst hx67
                exact HT.rgK (oHs 3) [(0, 0), (1, 1), (2, 2), (3, 3), (4, 4), (5, 5), (6, 6), (7, 7)] [] hX (by kernel_rfl) allNil (fun _ h => (qLoopN ⟨((fop .add .f64 s59.1 (fconv .f32 .f64 (List.getD y16.1 (Int.toNat (wadd .i64 (wmul .i64 s24.2 y6.1) s59.2)) (0 : Nat)))), (wadd .i64 s59.2 (1 : Int))), rfl, h⟩))
              · refine HT.cond0 rfl hb69 ?_
                have hx67 := of_some hx67
                subst hx67
                exact HT.exitL (Le.re [(0, 0), (1, 1), (2, 2), (3, 3), (4, 4), (5, 5), (6, 6), (7, 7)] [] hX (by kernel_rfl)) (qThenE (qLoopE (hk68 s59.1 rfl)))
          · refine HT.cond0 rfl hb58 ?_
            have hx56 := of_some hx56
            subst hx56
            exact HT.exitL (Le.re [(0, 0), (1, 1), (4, 2), (5, 3), (6, 4), (7, 5)] [] hX (by kernel_rfl)) (qThenE (qLoopE (hk57 (.inl s24.1) rfl)))
    · rcases of_bif hT22 with ⟨hb73, hT22⟩ | ⟨hb73, hT22⟩
      · exact HT.rgK [oH, oH, oH, ⟨some true, .no⟩, ⟨some true, .no⟩, ⟨none, .tv true⟩, oH, ⟨some true, .no⟩, ⟨some true, .no⟩, ⟨none, .tv true⟩, oH, ⟨some true, .no⟩, ⟨some true, .no⟩, ⟨some true, .no⟩, ⟨some true, .no⟩, ⟨some true, .no⟩, ⟨none, .tv true⟩, oH, ⟨some true, .no⟩, ⟨some true, .no⟩, ⟨some true, .no⟩, ⟨some true, .no⟩, ⟨some true, .no⟩, ⟨some true, .no⟩, ⟨some true, .no⟩, ⟨some true, .no⟩, ⟨none, .tv true⟩, oH, ⟨some true, .no⟩, ⟨some true, .no⟩, ⟨some true, .no⟩, ⟨some true, .no⟩, ⟨some true, .no⟩, ⟨none, .tv true⟩] [(3, 0), (4, 1), (5, 2), (6, 3), (7, 4), (0, 5), (1, 6), (2, 7)] [] hX (by kernel_rfl) (allCons hb73 (allCons hb73 (allCons hb73 (allCons (rfl : true = true) (allCons (rfl : true = true) (allCons (rfl : true = true) (allCons (rfl : true = true) (allCons (rfl : true = true) (allCons (rfl : true = true) (allCons (rfl : true = true) (allCons (rfl : true = true) (allCons (rfl : true = true) (allCons (rfl : true = true) (allCons (rfl : true = true) (allCons (rfl : true = true) (allCons (rfl : true = true) (allCons (rfl : true = true) (allCons (rfl : true = true) (allCons (rfl : true = true) (allCons (rfl : true = true) (allCons (rfl : true = true) (allCons (rfl : true = true) (allCons (rfl : true = true) (allCons (rfl : true = true) (allCons (rfl : true = true) (allCons (rfl : true = true) (allCons (rfl : true = true) allNil))))))))))))))))))))))))))) (fun _ h => (qThen (h.ht (cont true (of_some hT22)))))
      · rcases of_bif hT22 with ⟨hb74, hT22⟩ | ⟨hb74, hT22⟩
        · exact HT.rgK [oH, oH, oH, ⟨some false, .no⟩, ⟨some false, .no⟩, ⟨none, .tv false⟩, oH, ⟨some true, .no⟩, ⟨some true, .no⟩, ⟨none, .tv true⟩, oH, ⟨some true, .no⟩, ⟨some true, .no⟩, ⟨some true, .no⟩, ⟨some true, .no⟩, ⟨some true, .no⟩, ⟨none, .tv true⟩, oH, ⟨some true, .no⟩, ⟨some true, .no⟩, ⟨some true, .no⟩, ⟨some true, .no⟩, ⟨some true, .no⟩, ⟨some true, .no⟩, ⟨some true, .no⟩, ⟨some true, .no⟩, ⟨none, .tv true⟩, oH, ⟨some true, .no⟩, ⟨some true, .no⟩, ⟨some true, .no⟩, ⟨some true, .no⟩, ⟨some true, .no⟩, ⟨none, .tv true⟩] [(3, 0), (4, 1), (5, 2), (6, 3), (7, 4), (0, 5), (1, 6), (2, 7)] [] hX (by kernel_rfl) (allCons hb73 (allCons hb73 (allCons hb73 (allCons hb74 (allCons hb74 (allCons hb74 (allCons (rfl : true = true) (allCons (rfl : true = true) (allCons (rfl : true = true) (allCons (rfl : true = true) (allCons (rfl : true = true) (allCons (rfl : true = true) (allCons (rfl : true = true) (allCons (rfl : true = true) (allCons (rfl : true = true) (allCons (rfl : true = true) (allCons (rfl : true = true) (allCons (rfl : true = true) (allCons (rfl : true = true) (allCons (rfl : true = true) (allCons (rfl : true = true) (allCons (rfl : true = true) (allCons (rfl : true = true) (allCons (rfl : true = true) (allCons (rfl : true = true) (allCons (rfl : true = true) (allCons (rfl : true = true) allNil))))))))))))))))))))))))))) (fun _ h => (qThen (h.ht (cont true (of_some hT22)))))
        · rcases of_bif hT22 with ⟨hb75, hT22⟩ | ⟨hb75, hT22⟩
          · exact HT.rgK [oH, oH, oH, ⟨some false, .no⟩, ⟨some false, .no⟩, ⟨none, .tv false⟩, oH, ⟨some false, .no⟩, ⟨some false, .no⟩, ⟨none, .tv false⟩, oH, ⟨some true, .no⟩, ⟨some true, .no⟩, ⟨some true, .no⟩, ⟨some true, .no⟩, ⟨some true, .no⟩, ⟨none, .tv true⟩, oH, ⟨some true, .no⟩, ⟨some true, .no⟩, ⟨some true, .no⟩, ⟨some true, .no⟩, ⟨some true, .no⟩, ⟨some true, .no⟩, ⟨some true, .no⟩, ⟨some true, .no⟩, ⟨none, .tv true⟩, oH, ⟨some true, .no⟩, ⟨some true, .no⟩, ⟨some true, .no⟩, ⟨some true, .no⟩, ⟨some true, .no⟩, ⟨none, .tv true⟩] [(3, 0), (4, 1), (5, 2), (6, 3), (7, 4), (0, 5), (1, 6), (2, 7)] [] hX (by kernel_rfl) (allCons hb73 (allCons hb73 (allCons hb73 (allCons hb74 (allCons hb74 (allCons hb74 (allCons hb75 (allCons hb75 (allCons hb75 (allCons hb75 (allCons hb75 (allCons hb75 (allCons (rfl : true = true) (allCons (rfl : true = true) (allCons (rfl : true = true) (allCons (rfl : true = true) (allCons (rfl : true = true) (allCons (rfl : true = true) (allCons (rfl : true = true) (allCons (rfl : true = true) (allCons (rfl : true = true) (allCons (rfl : true = true) (allCons (rfl : true = true) (allCons (rfl : true = true) (allCons (rfl : true = true) (allCons (rfl : true = true) (allCons (rfl : true = true) allNil))))))))))))))))))))))))))) (fun _ h => (qThen (h.ht (cont true (of_some hT22)))))
          · rcases of_bif hT22 with ⟨hb76, hT22⟩ | ⟨hb76, hT22⟩
            · exact HT.rgK [oH, oH, oH, ⟨some false, .no⟩, ⟨some false, .no⟩, ⟨none, .tv false⟩, oH, ⟨some false, .no⟩, ⟨some false, .no⟩, ⟨none, .tv false⟩, oH, ⟨some false, .no⟩, ⟨some false, .no⟩, ⟨some false, .no⟩, ⟨some false, .no⟩, ⟨some false, .no⟩, ⟨none, .tv false⟩, oH, ⟨some true, .no⟩, ⟨some true, .no⟩, ⟨some true, .no⟩, ⟨some true, .no⟩, ⟨some true, .no⟩, ⟨some true, .no⟩, ⟨some true, .no⟩, ⟨some true, .no⟩, ⟨none, .tv true⟩, oH, ⟨some true, .no⟩, ⟨some true, .no⟩, ⟨some true, .no⟩, ⟨some true, .no⟩, ⟨some true, .no⟩, ⟨none, .tv true⟩] [(3, 0), (4, 1), (5, 2), (6, 3), (7, 4), (0, 5), (1, 6), (2, 7)] [] hX (by kernel_rfl) (allCons hb73 (allCons hb73 (allCons hb73 (allCons hb74 (allCons hb74 (allCons hb74 (allCons hb75 (allCons hb75 (allCons hb75 (allCons hb75 (allCons hb75 (allCons hb75 (allCons hb76 (allCons hb76 (allCons hb76 (allCons hb76 (allCons hb76 (allCons hb76 (allCons hb76 (allCons hb76 (allCons hb76 (allCons (rfl : true = true) (allCons (rfl : true = true) (allCons (rfl : true = true) (allCons (rfl : true = true) (allCons (rfl : true = true) (allCons (rfl : true = true) allNil))))))))))))))))))))))))))) (fun _ h => (qThen (h.ht (cont true (of_some hT22)))))
            · rcases of_bif hT22 with ⟨hb77, hT22⟩ | ⟨hb77, hT22⟩
              · exact HT.rgK [oH, oH, oH, ⟨some false, .no⟩, ⟨some false, .no⟩, ⟨none, .tv false⟩, oH, ⟨some false, .no⟩, ⟨some false, .no⟩, ⟨none, .tv false⟩, oH, ⟨some false, .no⟩, ⟨some false, .no⟩, ⟨some false, .no⟩, ⟨some false, .no⟩, ⟨some false, .no⟩, ⟨none, .tv false⟩, oH, ⟨some false, .no⟩, ⟨some false, .no⟩, ⟨some false, .no⟩, ⟨some false, .no⟩, ⟨some false, .no⟩, ⟨some false, .no⟩, ⟨some false, .no⟩, ⟨some false, .no⟩, ⟨none, .tv false⟩, oH, ⟨some true, .no⟩, ⟨some true, .no⟩, ⟨some true, .no⟩, ⟨some true, .no⟩, ⟨some true, .no⟩, ⟨none, .tv true⟩] [(3, 0), (4, 1), (5, 2), (6, 3), (7, 4), (0, 5), (1, 6), (2, 7)] [] hX (by kernel_rfl) (allCons hb73 (allCons hb73 (allCons hb73 (allCons hb74 (allCons hb74 (allCons hb74 (allCons hb75 (allCons hb75 (allCons hb75 (allCons hb75 (allCons hb75 (allCons hb75 (allCons hb76 (allCons hb76 (allCons hb76 (allCons hb76 (allCons hb76 (allCons hb76 (allCons hb76 (allCons hb76 (allCons hb76 (allCons hb77 (allCons hb77 (allCons hb77 (allCons hb77 (allCons hb77 (allCons hb77 allNil))))))))))))))))))))))))))) (fun _ h => (qThen (h.ht (cont true (of_some hT22)))))
              · exact HT.rgK [oH, oH, oH, ⟨some false, .no⟩, ⟨some false, .no⟩, ⟨none, .tv false⟩, oH, ⟨some false, .no⟩, ⟨some false, .no⟩, ⟨none, .tv false⟩, oH, ⟨some false, .no⟩, ⟨some false, .no⟩, ⟨some false, .no⟩, ⟨some false, .no⟩, ⟨some false, .no⟩, ⟨none, .tv false⟩, oH, ⟨some false, .no⟩, ⟨some false, .no⟩, ⟨some false, .no⟩, ⟨some false, .no⟩, ⟨some false, .no⟩, ⟨some false, .no⟩, ⟨some false, .no⟩, ⟨some false, .no⟩, ⟨none, .tv false⟩, oH, ⟨some false, .no⟩, ⟨some false, .no⟩, ⟨some false, .no⟩, ⟨some false, .no⟩, ⟨some false, .no⟩, ⟨none, .tv false⟩] [(3, 0), (4, 1), (5, 2), (6, 3), (7, 4), (0, 5), (1, 6), (2, 7)] [] hX (by kernel_rfl) (allCons hb73 (allCons hb73 (allCons hb73 (allCons hb74 (allCons hb74 (allCons hb74 (allCons hb75 (allCons hb75 (allCons hb75 (allCons hb75 (allCons hb75 (allCons hb75 (allCons hb76 (allCons hb76 (allCons hb76 (allCons hb76 (allCons hb76 (allCons hb76 (allCons hb76 (allCons hb76 (allCons hb76 (allCons hb77 (allCons hb77 (allCons hb77 (allCons hb77 (allCons hb77 (allCons hb77 allNil))))))))))))))))))))))))))) (fun _ h => (qThen (h.ht (cont ((lenI y18.1) != (wadd .i64 (wadd .i64 (1 : Int) y8) (1 : Int))) (of_some hT22)))))

end Go.Proofs
