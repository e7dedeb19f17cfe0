import Derived.Test.YtjekgiabgglokaaChancesGenA
import Derived.Test.YtjekgiabgglokaaProg
set_option linter.unusedVariables false
set_option linter.unusedSimpArgs false
set_option linter.unusedSectionVars false
/-
 Functions as plain functions, and their contracts. Printed by a program.
-/
namespace Go.Proofs
open Go.Ide

noncomputable def laws_FnChances_B1 (y35 : List Nat × Bool) (s41 : Nat × Int) : Option ((Nat × Int) ⊕ (Nat)) :=
 bif (decide (s41.2 < (lenI y35.1))) then
  guardP ((0 : Int) ≤ s41.2 ∧ s41.2 < lenI y35.1) (
   some (.inl ((fop .add .f64 s41.1 (fconv .f32 .f64 (List.getD y35.1 (Int.toNat s41.2) (0 : Nat)))), (wadd .i64 s41.2 (1 : Int)))))
 else
  some (.inr s41.1)

noncomputable def laws_FnChances_B2 (y4 : Int) (y6 : (Int × Int × List Nat × List Nat × List Nat)) (s32 : Nat × Int) (s61 : Nat × Int) : Option ((Nat × Int) ⊕ (Nat ⊕ Unit)) :=
 bif (decide (s61.2 < (wadd .i64 (2 : Int) y4))) then
  (impl_ChanceOf (y6.1, y6.2.1, y6.2.2.1, y6.2.2.2.1, y6.2.2.2.2) ([s32.2, s61.2] : List Int)).bind fun y69 =>
  bif (!y69.2) then
   some (.inr (.inr ()))
  else
   some (.inl ((fop .add .f64 s61.1 (fconv .f32 .f64 y69.1)), (wadd .i64 s61.2 (1 : Int))))
 else
  some (.inr (.inl s61.1))

noncomputable def laws_FnChances_B3 (y4 : Int) (y6 : (Int × Int × List Nat × List Nat × List Nat)) (s32 : Nat × Int) : Option ((Nat × Int) ⊕ (Nat ⊕ Unit)) :=
 bif (decide (s32.2 < (wadd .i64 (2 : Int) y4))) then
  (rounds (laws_FnChances_B2 y4 y6 s32) (s32.1, (0 : Int))).bind fun r62 => match r62 with
   | .inl r63 =>
    some (.inl (r63, (wadd .i64 s32.2 (1 : Int))))
   | .inr r64 =>
    some (.inr (.inr ()))
 else
  some (.inr (.inl s32.1))

noncomputable def laws_FnChances_B4 (y6 : (Int × Int × List Nat × List Nat × List Nat)) (y16 : List Nat × Bool) (y18 : List Nat × Bool) (s24 : Int) (s79 : Nat × Int) : Option ((Nat × Int) ⊕ (Nat)) :=
 bif (decide (s79.2 < y6.1)) then
  guardP ((0 : Int) ≤ (wadd .i64 (wmul .i64 s24 y6.1) s79.2) ∧ (wadd .i64 (wmul .i64 s24 y6.1) s79.2) < lenI y16.1) (
   guardP ((0 : Int) ≤ (wadd .i64 (wmul .i64 s24 y6.1) s79.2) ∧ (wadd .i64 (wmul .i64 s24 y6.1) s79.2) < lenI y18.1) (
    some (.inl ((fop .add .f64 s79.1 (fop .mul .f64 (fconv .f32 .f64 (List.getD y16.1 (Int.toNat (wadd .i64 (wmul .i64 s24 y6.1) s79.2)) (0 : Nat))) (fconv .f32 .f64 (List.getD y18.1 (Int.toNat (wadd .i64 (wmul .i64 s24 y6.1) s79.2)) (0 : Nat))))), (wadd .i64 s79.2 (1 : Int))))))
 else
  some (.inr s79.1)

noncomputable def laws_FnChances_B5 (y6 : (Int × Int × List Nat × List Nat × List Nat)) (y8 : Int) (y12 : Nat × Bool) (y16 : List Nat × Bool) (y18 : List Nat × Bool) (s24 : Int) : Option ((Int) ⊕ (Unit ⊕ Unit)) :=
 bif (decide (s24 ≤ y8)) then
  (rounds (laws_FnChances_B4 y6 y16 y18 s24) ((0 : Nat), (0 : Int))).bind fun r81 =>
  (laws_b10Gap r81 (fconv .f32 .f64 y12.1)).bind fun y82 =>
  bif (fgt .f64 y82 (fop .mul .f64 (4562254508917369340 : Nat) (fconv .f32 .f64 y12.1))) then
   some (.inr (.inr ()))
  else
   some (.inl (wadd .i64 s24 (1 : Int)))
 else
  some (.inr (.inl ()))

noncomputable def laws_FnChances (a0 : List Int) (a1 : List Int) : Option (Bool) :=
 (laws_b10Long a0 a1).bind fun y1 =>
 bif y1 then
  some true
 else
  (laws_b10At a1 (0 : Int) (2 : Int)).bind fun y4 =>
  (spec_B10Model a0 (wadd .i64 (2 : Int) y4)).bind fun y6 =>
  (laws_b10At a1 (1 : Int) (7 : Int)).bind fun y8 =>
  (spec_B10Word a1 (wadd .i64 (2 : Int) y4) y8).bind fun y10 =>
  (impl_ChanceOf (y6.1, y6.2.1, y6.2.2.1, y6.2.2.2.1, y6.2.2.2.2) y10).bind fun y12 =>
  (impl_LogChanceOf (y6.1, y6.2.1, y6.2.2.1, y6.2.2.2.1, y6.2.2.2.2) y10).bind fun y14 =>
  (impl_ForwardOf (y6.1, y6.2.1, y6.2.2.1, y6.2.2.2.1, y6.2.2.2.2) y10).bind fun y16 =>
  (impl_BackwardOf (y6.1, y6.2.1, y6.2.2.1, y6.2.2.2.1, y6.2.2.2.2) y10).bind fun y18 =>
  (show Option (Bool) from
   bif (!y12.2) then
    some true
   else
    bif (!y14.2) then
     some true
    else
     bif (!y16.2) then
      some true
     else
      bif (!y18.2) then
       some true
      else
       (impl_ValidModel (y6.1, y6.2.1, y6.2.2.1, y6.2.2.2.1, y6.2.2.2.2)).bind fun y97 =>
       bif (!y97) then
        some true
       else
        (impl_SameModel (y6.1, y6.2.1, y6.2.2.1, y6.2.2.2.1, y6.2.2.2.2) (y6.1, y6.2.1, y6.2.2.1, y6.2.2.2.1, y6.2.2.2.2)).bind fun y100 =>
        bif (!y100) then
         some true
        else
         bif ((lenI y16.1) != (wmul .i64 (wadd .i64 y8 (1 : Int)) y6.1)) then
          some true
         else
          bif ((lenI y18.1) != (wmul .i64 (wadd .i64 y8 (1 : Int)) y6.1)) then
           some true
          else
           bif (fle .f32 y12.1 (0 : Nat)) then
            some true
           else
            some (fgt .f64 (fconv .f32 .f64 y12.1) (4607186922399644778 : Nat))).bind fun v20 =>
  bif v20 then
   some false
  else
   (rounds (laws_FnChances_B5 y6 y8 y12 y16 y18) (0 : Int)).bind fun r25 => match r25 with
    | .inl r26 =>
     (spec_ExpNumber y14.1).bind fun y27 =>
     (laws_b10Gap (fconv .f32 .f64 y27) (fconv .f32 .f64 y12.1)).bind fun y29 =>
     bif (fgt .f64 y29 (fop .mul .f64 (4562254508917369340 : Nat) (fconv .f32 .f64 y12.1))) then
      some false
     else
      (rounds (laws_FnChances_B3 y4 y6) ((0 : Nat), (0 : Int))).bind fun r33 => match r33 with
       | .inl r34 =>
        (impl_NextLetters (y6.1, y6.2.1, y6.2.2.1, y6.2.2.2.1, y6.2.2.2.2) y10).bind fun y35 =>
        (show Option (Bool) from
         bif (!y35.2) then
          some true
         else
          bif ((lenI y35.1) != (wadd .i64 (2 : Int) y4)) then
           some true
          else
           (laws_b10Gap r34 (4607182418800017408 : Nat)).bind fun y54 =>
           some (fgt .f64 y54 (4562254508917369340 : Nat))).bind fun v37 =>
        bif v37 then
         some false
        else
         (rounds (laws_FnChances_B1 y35) ((0 : Nat), (0 : Int))).bind fun r43 =>
         (laws_b10Gap r43 (4607182418800017408 : Nat)).bind fun y44 =>
         some (flt .f64 y44 (4562254508917369340 : Nat))
       | .inr r56 =>
        some false
    | .inr r74 =>
     some false

theorem f4_ok {a0 : List Int} {a1 : List Int} {r : Bool} (hr : laws_FnChances a0 a1 = some r) : CallOK Try.prog 4 [.imm (.sl (.int .u8)) a0, .imm (.sl (.int .u8)) a1] [⟨false, .bool, r⟩] [] := by
 unfold laws_FnChances at hr
 refine CallOK.of_body (ts := [(false, .bool)]) Try.func4 rfl (by kernel_rfl) (Nat.le_of_ble_eq_true (by kernel_rfl)) fun cx hP hN hO hF => ?_
 have hO : cx.own.map Prod.fst = [] := hO
 have hX := CxIs.mk hP hN hO
 have hF := hF rfl
 show HT cx ⟨[(0, .one (.dat (.sl (.int .u8)) a0)), (1, .one (.dat (.sl (.int .u8)) a1))], [], 0⟩ _ _
 refine HT.rg2 [oH] ⟨[(0, .one (.dat (.sl (.int .u8)) a0)), (1, .one (.dat (.sl (.int .u8)) a1))], [], 0⟩ hX (by kernel_rfl) aN ?_
 refine HT.seq ?_
 obtain ⟨y1, hc2, hr⟩ := of_bind hr
 refine HT.rg2 [oH, oH, ⟨none, .call [.imm (.sl (.int .u8)), .imm (.sl (.int .u8))] [⟨false, .bool, y1⟩] []⟩] ⟨[(0, .one (.dat (.sl (.int .u8)) a0)), (1, .one (.dat (.sl (.int .u8)) a1)), (31, bV y1)], [], 0⟩ hX (by kernel_rfl) (aC (f12_ok hc2) aN) ?_
 rcases of_bif hr with ⟨hb3, hr⟩ | ⟨hb3, hr⟩
 ·refine HT.cond1 rfl hb3 ?_
  refine HT.rg2 [oH] ⟨[(4, bV true)], [], 0⟩ hX (by kernel_rfl) aN ?_
  have hr := of_some hr
  subst hr
  exact HT.ret (qThenR ⟨[bV true], [], [], by kernel_rfl, by kernel_rfl, rfl, by kernel_rfl, by kernel_rfl, trivial⟩)
 ·refine HT.cond0 rfl hb3 ?_
  refine HT.skip (qThen ?_)
  obtain ⟨y4, hc5, hr⟩ := of_bind hr
  refine HT.rg2 [oH, ⟨none, .call [.imm (.sl (.int .u8)), .imm tI, .imm tI] [⟨false, tI, y4⟩] []⟩, oH, oH] ⟨[(0, .one (.dat (.sl (.int .u8)) a0)), (1, .one (.dat (.sl (.int .u8)) a1)), (5, iV (wadd .i64 (2 : Int) y4))], [], 0⟩ hX (by kernel_rfl) (aC (f13_ok hc5) aN) ?_
  obtain ⟨y6, hc7, hr⟩ := of_bind hr
  refine HT.rg2 [oH, oH, ⟨none, .call [.imm (.sl (.int .u8)), .imm tI] [⟨true, (.st (.pair tI (.pair tI (.pair tLF (.pair tLF tLF))))), y6⟩] []⟩, oH, oH] ⟨[(1, .one (.dat (.sl (.int .u8)) a1)), (5, iV (wadd .i64 (2 : Int) y4)), (6, pV 3 0)], [(3, .box [iC y6.1, iC y6.2.1, .all 0, .all 1, .all 2]), (0, .seq tF y6.2.2.1), (1, .seq tF y6.2.2.2.1), (2, .seq tF y6.2.2.2.2)], 4⟩ hX (by kernel_rfl) (aC (f14_ok hc7) aN) ?_
  obtain ⟨y8, hc9, hr⟩ := of_bind hr
  refine HT.rg2 [oH, ⟨none, .call [.imm (.sl (.int .u8)), .imm tI, .imm tI] [⟨false, tI, y8⟩] []⟩, oH] ⟨[(1, .one (.dat (.sl (.int .u8)) a1)), (5, iV (wadd .i64 (2 : Int) y4)), (6, pV 3 0), (7, iV y8)], [(3, .box [iC y6.1, iC y6.2.1, .all 0, .all 1, .all 2]), (0, .seq tF y6.2.2.1), (1, .seq tF y6.2.2.2.1), (2, .seq tF y6.2.2.2.2)], 4⟩ hX (by kernel_rfl) (aC (f13_ok hc9) aN) ?_
  obtain ⟨y10, hc11, hr⟩ := of_bind hr
  refine HT.rg2 [oH, oH, oH, ⟨none, .call [.imm (.sl (.int .u8)), .imm tI, .imm tI] [⟨true, tLI, y10⟩] []⟩, oH] ⟨[(5, iV (wadd .i64 (2 : Int) y4)), (6, pV 3 0), (7, iV y8), (8, aV 4)], [(4, .seq tI y10), (3, .box [iC y6.1, iC y6.2.1, .all 0, .all 1, .all 2]), (0, .seq tF y6.2.2.1), (1, .seq tF y6.2.2.2.1), (2, .seq tF y6.2.2.2.2)], 5⟩ hX (by kernel_rfl) (aC (f15_ok hc11) aN) ?_
  obtain ⟨y12, hc13, hr⟩ := of_bind hr
  refine HT.rg2 [oH, oH, ⟨none, .call [.imm (.st (.pair tI (.pair tI (.pair tLF (.pair tLF tLF))))), .imm tLI] [⟨false, tF, y12.1⟩, ⟨false, .bool, y12.2⟩] []⟩, oH, oH, oH, oH, oH] ⟨[(5, iV (wadd .i64 (2 : Int) y4)), (6, pV 3 0), (7, iV y8), (8, aV 4), (9, fV y12.1), (10, bV y12.2)], [(4, .seq tI y10), (3, .box [iC y6.1, iC y6.2.1, .all 0, .all 1, .all 2]), (0, .seq tF y6.2.2.1), (1, .seq tF y6.2.2.2.1), (2, .seq tF y6.2.2.2.2)], 5⟩ hX (by kernel_rfl) (aC (f16_ok hc13) aN) ?_
  obtain ⟨y14, hc15, hr⟩ := of_bind hr
  refine HT.rg2 [oH, oH, ⟨none, .call [.imm (.st (.pair tI (.pair tI (.pair tLF (.pair tLF tLF))))), .imm tLI] [⟨false, tF, y14.1⟩, ⟨false, .bool, y14.2⟩] []⟩, oH, oH, oH, oH, oH] ⟨[(5, iV (wadd .i64 (2 : Int) y4)), (6, pV 3 0), (7, iV y8), (8, aV 4), (9, fV y12.1), (10, bV y12.2), (11, fV y14.1), (12, bV y14.2)], [(4, .seq tI y10), (3, .box [iC y6.1, iC y6.2.1, .all 0, .all 1, .all 2]), (0, .seq tF y6.2.2.1), (1, .seq tF y6.2.2.2.1), (2, .seq tF y6.2.2.2.2)], 5⟩ hX (by kernel_rfl) (aC (f17_ok hc15) aN) ?_
  obtain ⟨y16, hc17, hr⟩ := of_bind hr
  refine HT.rg2 [oH, oH, ⟨none, .call [.imm (.st (.pair tI (.pair tI (.pair tLF (.pair tLF tLF))))), .imm tLI] [⟨true, tLF, y16.1⟩, ⟨false, .bool, y16.2⟩] []⟩, oH, oH, oH, oH, oH] ⟨[(5, iV (wadd .i64 (2 : Int) y4)), (6, pV 3 0), (7, iV y8), (8, aV 4), (9, fV y12.1), (10, bV y12.2), (11, fV y14.1), (12, bV y14.2), (13, aV 5), (14, bV y16.2)], [(5, .seq tF y16.1), (4, .seq tI y10), (3, .box [iC y6.1, iC y6.2.1, .all 0, .all 1, .all 2]), (0, .seq tF y6.2.2.1), (1, .seq tF y6.2.2.2.1), (2, .seq tF y6.2.2.2.2)], 6⟩ hX (by kernel_rfl) (aC (f18_ok hc17) aN) ?_
  obtain ⟨y18, hc19, hr⟩ := of_bind hr
  refine HT.rg2 [oH, oH, ⟨none, .call [.imm (.st (.pair tI (.pair tI (.pair tLF (.pair tLF tLF))))), .imm tLI] [⟨true, tLF, y18.1⟩, ⟨false, .bool, y18.2⟩] []⟩, oH, oH, oH, oH, oH] ⟨[(5, iV (wadd .i64 (2 : Int) y4)), (6, pV 3 0), (7, iV y8), (8, aV 4), (9, fV y12.1), (10, bV y12.2), (11, fV y14.1), (12, bV y14.2), (13, aV 5), (14, bV y16.2), (15, aV 6), (16, bV y18.2)], [(6, .seq tF y18.1), (5, .seq tF y16.1), (4, .seq tI y10), (3, .box [iC y6.1, iC y6.2.1, .all 0, .all 1, .all 2]), (0, .seq tF y6.2.2.1), (1, .seq tF y6.2.2.2.1), (2, .seq tF y6.2.2.2.2)], 7⟩ hX (by kernel_rfl) (aC (f19_ok hc19) aN) ?_
  refine HT.seq ?_
  obtain ⟨v20', hT22, hr⟩ := of_bind hr
  refine HT.join (fun (v20 : Bool) => ⟨[(5, iV (wadd .i64 (2 : Int) y4)), (6, pV 0 0), (7, iV y8), (8, aV 1), (9, fV y12.1), (11, fV y14.1), (13, aV 2), (15, aV 3), (121, bV v20)], [(0, .box [iC y6.1, iC y6.2.1, .all 4, .all 5, .all 6]), (1, .seq tI y10), (2, .seq tF y16.1), (3, .seq tF y18.1), (4, .seq tF y6.2.2.1), (5, .seq tF y6.2.2.2.1), (6, .seq tF y6.2.2.2.2)], 7⟩) (fun v => v = v20') (fun v20 hv21 => ?_) (fun cont => ?_)
  ·subst hv21
   rcases of_bif hr with ⟨hb23, hr⟩ | ⟨hb23, hr⟩
   ·refine HT.cond1 rfl hb23 ?_
    refine HT.rg2 [oH] ⟨[(4, bV false)], [], 7⟩ hX (by kernel_rfl) aN ?_
    have hr := of_some hr
    subst hr
    exact HT.ret (qThenR ⟨[bV false], [], [], by kernel_rfl, by kernel_rfl, rfl, by kernel_rfl, by kernel_rfl, trivial⟩)
   ·refine HT.cond0 rfl hb23 ?_
    refine HT.skip (qThen ?_)
    refine HT.seq ?_
    refine HT.rg2 [oH] ⟨[(5, iV (wadd .i64 (2 : Int) y4)), (6, pV 0 0), (7, iV y8), (8, aV 1), (9, fV y12.1), (11, fV y14.1), (13, aV 2), (15, aV 3), (17, iV (0 : Int))], [(0, .box [iC y6.1, iC y6.2.1, .all 4, .all 5, .all 6]), (1, .seq tI y10), (2, .seq tF y16.1), (3, .seq tF y18.1), (4, .seq tF y6.2.2.1), (5, .seq tF y6.2.2.2.1), (6, .seq tF y6.2.2.2.2)], 7⟩ hX (by kernel_rfl) aN ?_
    refine HT.block ?_
    obtain ⟨r25, hL92, hr⟩ := of_bind hr
    refine HT.loopL (fun (s24 : Int) => ⟨[(5, iV (wadd .i64 (2 : Int) y4)), (6, pV 0 0), (7, iV y8), (8, aV 1), (9, fV y12.1), (11, fV y14.1), (13, aV 2), (15, aV 3), (17, iV s24)], [(0, .box [iC y6.1, iC y6.2.1, .all 4, .all 5, .all 6]), (1, .seq tI y10), (2, .seq tF y16.1), (3, .seq tF y18.1), (4, .seq tF y6.2.2.1), (5, .seq tF y6.2.2.2.1), (6, .seq tF y6.2.2.2.2)], 7⟩) (fun (r25 : Unit ⊕ Unit) => match r25 with | .inl r26 => (.exit 0, ⟨[(5, iV (wadd .i64 (2 : Int) y4)), (6, pV 0 0), (8, aV 1), (9, fV y12.1), (11, fV y14.1)], [(0, .box [iC y6.1, iC y6.2.1, .all 2, .all 3, .all 4]), (1, .seq tI y10), (2, .seq tF y6.2.2.1), (3, .seq tF y6.2.2.2.1), (4, .seq tF y6.2.2.2.2)], 5⟩) | .inr r74 => (.ret, ⟨[(4, bV false)], [], 0⟩)) (Le.re [(0, 0), (1, 1), (2, 2), (3, 3), (4, 4), (5, 5), (6, 6)] [] hX (by kernel_rfl)) hL92 ?_ (fun s24 x75 hx76 hk77 => ?_)
    ·rcases r25 with r26 | r74
     ·refine (qBlockX (qThen ?_))
      refine HT.seq ?_
      obtain ⟨y27, hc28, hr⟩ := of_bind hr
      obtain ⟨y29, hc30, hr⟩ := of_bind hr
      refine HT.rg2 [oH, ⟨none, .call [.imm tF] [⟨false, tF, y27⟩] []⟩, oH, oH, oH, ⟨none, .call [.imm (.flt .f64), .imm (.flt .f64)] [⟨false, (.flt .f64), y29⟩] []⟩, oH, oH, oH, oH] ⟨[(5, iV (wadd .i64 (2 : Int) y4)), (6, pV 0 0), (8, aV 1), (173, bV (fgt .f64 y29 (fop .mul .f64 (4562254508917369340 : Nat) (fconv .f32 .f64 y12.1))))], [(0, .box [iC y6.1, iC y6.2.1, .all 2, .all 3, .all 4]), (1, .seq tI y10), (2, .seq tF y6.2.2.1), (3, .seq tF y6.2.2.2.1), (4, .seq tF y6.2.2.2.2)], 5⟩ hX (by kernel_rfl) (aC (f23_ok hc28) (aC (show fconvOK .f32 .f64 y27 = true from (fconv_up _)) (aC (show fconvOK .f32 .f64 y12.1 = true from (fconv_up _)) (aC (f22_ok hc30) (aC (show fconvOK .f32 .f64 y12.1 = true from (fconv_up _)) aN))))) ?_
      rcases of_bif hr with ⟨hb31, hr⟩ | ⟨hb31, hr⟩
      ·refine HT.cond1 rfl hb31 ?_
       refine HT.rg2 [oH] ⟨[(4, bV false)], [], 5⟩ hX (by kernel_rfl) aN ?_
       have hr := of_some hr
       subst hr
       exact HT.ret (qThenR ⟨[bV false], [], [], by kernel_rfl, by kernel_rfl, rfl, by kernel_rfl, by kernel_rfl, trivial⟩)
      ·refine HT.cond0 rfl hb31 ?_
       refine HT.skip (qThen ?_)
       refine HT.rg2 [oH] ⟨[(5, iV (wadd .i64 (2 : Int) y4)), (6, pV 0 0), (8, aV 1), (20, .one (.dat (.flt .f64) (0 : Nat)))], [(0, .box [iC y6.1, iC y6.2.1, .all 2, .all 3, .all 4]), (1, .seq tI y10), (2, .seq tF y6.2.2.1), (3, .seq tF y6.2.2.2.1), (4, .seq tF y6.2.2.2.2)], 5⟩ hX (by kernel_rfl) aN ?_
       refine HT.seq ?_
       refine HT.rg2 [oH] ⟨[(5, iV (wadd .i64 (2 : Int) y4)), (6, pV 0 0), (8, aV 1), (20, .one (.dat (.flt .f64) (0 : Nat))), (21, iV (0 : Int))], [(0, .box [iC y6.1, iC y6.2.1, .all 2, .all 3, .all 4]), (1, .seq tI y10), (2, .seq tF y6.2.2.1), (3, .seq tF y6.2.2.2.1), (4, .seq tF y6.2.2.2.2)], 5⟩ hX (by kernel_rfl) aN ?_
       refine HT.block ?_
       obtain ⟨r33, hL73, hr⟩ := of_bind hr
       refine HT.loopL (fun (s32 : Nat × Int) => ⟨[(5, iV (wadd .i64 (2 : Int) y4)), (6, pV 0 0), (8, aV 1), (20, .one (.dat (.flt .f64) s32.1)), (21, iV s32.2)], [(0, .box [iC y6.1, iC y6.2.1, .all 2, .all 3, .all 4]), (1, .seq tI y10), (2, .seq tF y6.2.2.1), (3, .seq tF y6.2.2.2.1), (4, .seq tF y6.2.2.2.2)], 5⟩) (fun (r33 : Nat ⊕ Unit) => match r33 with | .inl r34 => (.exit 4, ⟨[(5, iV (wadd .i64 (2 : Int) y4)), (6, pV 0 0), (8, aV 1), (20, .one (.dat (.flt .f64) r34))], [(0, .box [iC y6.1, iC y6.2.1, .all 2, .all 3, .all 4]), (1, .seq tI y10), (2, .seq tF y6.2.2.1), (3, .seq tF y6.2.2.2.1), (4, .seq tF y6.2.2.2.2)], 5⟩) | .inr r56 => (.ret, ⟨[(4, bV false)], [], 0⟩)) (Le.re [(0, 0), (1, 1), (2, 2), (3, 3), (4, 4)] [] hX (by kernel_rfl)) hL73 ?_ (fun s32 x57 hx58 hk59 => ?_)
       ·rcases r33 with r34 | r56
        ·refine (qBlockX (qThen ?_))
         obtain ⟨y35, hc36, hr⟩ := of_bind hr
         refine HT.rg2 [oH, oH, ⟨none, .call [.imm (.st (.pair tI (.pair tI (.pair tLF (.pair tLF tLF))))), .imm tLI] [⟨true, tLF, y35.1⟩, ⟨false, .bool, y35.2⟩] []⟩, oH, oH, oH, oH, oH] ⟨[(5, iV (wadd .i64 (2 : Int) y4)), (20, .one (.dat (.flt .f64) r34)), (25, aV 5), (26, bV y35.2)], [(5, .seq tF y35.1)], 6⟩ hX (by kernel_rfl) (aC (f24_ok hc36) aN) ?_
         refine HT.seq ?_
         obtain ⟨v37', hT39, hr⟩ := of_bind hr
         refine HT.join (fun (v37 : Bool) => ⟨[(25, aV 0), (216, bV v37)], [(0, .seq tF y35.1)], 1⟩) (fun v => v = v37') (fun v37 hv38 => ?_) (fun cont => ?_)
         ·subst hv38
          rcases of_bif hr with ⟨hb40, hr⟩ | ⟨hb40, hr⟩
          ·refine HT.cond1 rfl hb40 ?_
           refine HT.rg2 [oH] ⟨[(4, bV false)], [], 1⟩ hX (by kernel_rfl) aN ?_
           have hr := of_some hr
           subst hr
           exact HT.ret (qThenR ⟨[bV false], [], [], by kernel_rfl, by kernel_rfl, rfl, by kernel_rfl, by kernel_rfl, trivial⟩)
          ·refine HT.cond0 rfl hb40 ?_
           refine HT.skip (qThen ?_)
           refine HT.rg2 [oH] ⟨[(25, aV 0), (27, .one (.dat (.flt .f64) (0 : Nat)))], [(0, .seq tF y35.1)], 1⟩ hX (by kernel_rfl) aN ?_
           refine HT.seq ?_
           refine HT.rg2 (oHs 3) ⟨[(25, aV 0), (27, .one (.dat (.flt .f64) (0 : Nat))), (218, iV (lenI y35.1)), (219, iV (0 : Int))], [(0, .seq tF y35.1)], 1⟩ hX (by kernel_rfl) aN ?_
           refine HT.block ?_
           obtain ⟨r42, hL51, hr⟩ := of_bind hr
           refine HT.loopL (fun (s41 : Nat × Int) => ⟨[(25, aV 0), (27, .one (.dat (.flt .f64) s41.1)), (218, iV (lenI y35.1)), (219, iV s41.2)], [(0, .seq tF y35.1)], 1⟩) (fun (r43 : Nat) => (.exit 8, ⟨[(27, .one (.dat (.flt .f64) r43))], [], 0⟩)) (Le.re [(0, 0)] [] hX (by kernel_rfl)) hL51 ?_ (fun s41 x46 hx47 hk48 => ?_)
           ·refine (qBlockX (qThen ?_))
            obtain ⟨y44, hc45, hr⟩ := of_bind hr
            refine HT.rg2 [oH, ⟨none, .call [.imm (.flt .f64), .imm (.flt .f64)] [⟨false, (.flt .f64), y44⟩] []⟩, oH, oH] ⟨[(4, bV (flt .f64 y44 (4562254508917369340 : Nat)))], [], 0⟩ hX (by kernel_rfl) (aC (f22_ok hc45) aN) ?_
            have hr := of_some hr
            subst hr
            exact HT.ret ⟨[bV (flt .f64 y44 (4562254508917369340 : Nat))], [], [], by kernel_rfl, by kernel_rfl, rfl, by kernel_rfl, by kernel_rfl, trivial⟩
           ·refine HT.rg2 [oH] ⟨[(25, aV 0), (27, .one (.dat (.flt .f64) s41.1)), (218, iV (lenI y35.1)), (219, iV s41.2), (220, bV (decide (s41.2 < (lenI y35.1))))], [(0, .seq tF y35.1)], 1⟩ hX (by kernel_rfl) aN ?_
            refine HT.seq ?_
            rcases of_bif hx47 with ⟨hb49, hx47⟩ | ⟨hb49, hx47⟩
            ·refine HT.cond1 rfl hb49 ?_
             refine HT.skip (qThen ?_)
             refine HT.seq ?_
             refine HT.block ?_
             refine HT.rg2 (oHs 2) ⟨[(25, aV 0), (27, .one (.dat (.flt .f64) s41.1)), (28, iV s41.2), (218, iV (lenI y35.1)), (219, iV s41.2)], [(0, .seq tF y35.1)], 1⟩ hX (by kernel_rfl) aN ?_
             obtain ⟨hg50, hx47⟩ := of_guard hx47
             refine HT.rgL (oHs 8) ⟨[(25, aV 0), (27, .one (.dat (.flt .f64) (fop .add .f64 s41.1 (fconv .f32 .f64 (List.getD y35.1 (Int.toNat s41.2) (0 : Nat)))))), (218, iV (lenI y35.1)), (219, iV s41.2)], [(0, .seq tF y35.1)], 1⟩ hX (by kernel_rfl) (aC hg50 (aC (natLt hg50) (aC (show fconvOK .f32 .f64 (List.getD y35.1 (Int.toNat s41.2) (0 : Nat)) = true from (fconv_up _)) aN))) (qBlock (qThen ?_))
             have hx47 := of_some hx47
             subst hx47
             exact HT.rgK (oHs 2) [(0, 0)] [] hX (by kernel_rfl) aN (fun _ h => (qLoopN ⟨((fop .add .f64 s41.1 (fconv .f32 .f64 (List.getD y35.1 (Int.toNat s41.2) (0 : Nat)))), (wadd .i64 s41.2 (1 : Int))), rfl, h⟩))
            ·refine HT.cond0 rfl hb49 ?_
             have hx47 := of_some hx47
             subst hx47
             exact HT.exitL (Le.re [] [] hX (by kernel_rfl)) (qThenE (qLoopE (hk48 s41.1 rfl)))
         ·rcases of_bif hT39 with ⟨hb52, hT39⟩ | ⟨hb52, hT39⟩
          ·exact HT.rgK [oH, oH, oH, oT, oT, oT, oT, vT, oH, oT, oT, oT, vT] [(5, 0)] [] hX (by kernel_rfl) (aC hb52 (aC hb52 (aC hb52 (aC hb52 (aC hb52 (aT4 aN)))))) (fun _ h => (qThen (h.ht (cont true (of_some hT39)))))
          ·rcases of_bif hT39 with ⟨hb53, hT39⟩ | ⟨hb53, hT39⟩
           ·exact HT.rgK [oH, oH, oH, oF, oF, oF, oF, vF, oH, oT, oT, oT, vT] [(5, 0)] [] hX (by kernel_rfl) (aC hb52 (aC hb52 (aC hb52 (aC hb52 (aC hb52 (aC hb53 (aC hb53 (aC hb53 (aC hb53 aN))))))))) (fun _ h => (qThen (h.ht (cont true (of_some hT39)))))
           ·obtain ⟨y54, hc55, hT39⟩ := of_bind hT39
            exact HT.rgK [oH, oH, oH, oF, oF, oF, oF, vF, oH, oF, ⟨some false, .call [.imm (.flt .f64), .imm (.flt .f64)] [⟨false, (.flt .f64), y54⟩] []⟩, oF, vF] [(5, 0)] [] hX (by kernel_rfl) (aC hb52 (aC hb52 (aC hb52 (aC hb52 (aC hb52 (aC hb53 (aC hb53 (aC (f22_ok hc55) (aC hb53 (aC hb53 aN)))))))))) (fun _ h => (qThen (h.ht (cont (fgt .f64 y54 (4562254508917369340 : Nat)) (of_some hT39)))))
        ·have hr := of_some hr
         subst hr
         exact (qBlockR (qThenR ⟨[bV false], [], [], by kernel_rfl, by kernel_rfl, rfl, by kernel_rfl, by kernel_rfl, trivial⟩))
       ·refine HT.seq ?_
        refine HT.rg2 (oHs 3) ⟨[(5, iV (wadd .i64 (2 : Int) y4)), (6, pV 0 0), (8, aV 1), (20, .one (.dat (.flt .f64) s32.1)), (21, iV s32.2), (176, bV (decide (s32.2 < (wadd .i64 (2 : Int) y4))))], [(0, .box [iC y6.1, iC y6.2.1, .all 2, .all 3, .all 4]), (1, .seq tI y10), (2, .seq tF y6.2.2.1), (3, .seq tF y6.2.2.2.1), (4, .seq tF y6.2.2.2.2)], 5⟩ hX (by kernel_rfl) aN ?_
        rcases of_bif hx58 with ⟨hb60, hx58⟩ | ⟨hb60, hx58⟩
        ·refine HT.cond1 rfl hb60 ?_
         refine HT.skip (qThen ?_)
         refine HT.seq ?_
         refine HT.block ?_
         refine HT.rg2 [oH] ⟨[(5, iV (wadd .i64 (2 : Int) y4)), (6, pV 0 0), (8, aV 1), (20, .one (.dat (.flt .f64) s32.1)), (21, iV s32.2), (22, iV (0 : Int))], [(0, .box [iC y6.1, iC y6.2.1, .all 2, .all 3, .all 4]), (1, .seq tI y10), (2, .seq tF y6.2.2.1), (3, .seq tF y6.2.2.2.1), (4, .seq tF y6.2.2.2.2)], 5⟩ hX (by kernel_rfl) aN ?_
         refine HT.block ?_
         obtain ⟨r62, hL72, hx58⟩ := of_bind hx58
         refine HT.loopL (fun (s61 : Nat × Int) => ⟨[(5, iV (wadd .i64 (2 : Int) y4)), (6, pV 0 0), (8, aV 1), (20, .one (.dat (.flt .f64) s61.1)), (21, iV s32.2), (22, iV s61.2)], [(0, .box [iC y6.1, iC y6.2.1, .all 2, .all 3, .all 4]), (1, .seq tI y10), (2, .seq tF y6.2.2.1), (3, .seq tF y6.2.2.2.1), (4, .seq tF y6.2.2.2.2)], 5⟩) (fun (r62 : Nat ⊕ Unit) => match r62 with | .inl r63 => (.exit 6, ⟨[(5, iV (wadd .i64 (2 : Int) y4)), (6, pV 0 0), (8, aV 1), (20, .one (.dat (.flt .f64) r63)), (21, iV s32.2)], [(0, .box [iC y6.1, iC y6.2.1, .all 2, .all 3, .all 4]), (1, .seq tI y10), (2, .seq tF y6.2.2.1), (3, .seq tF y6.2.2.2.1), (4, .seq tF y6.2.2.2.2)], 5⟩) | .inr r64 => (.ret, ⟨[(4, bV false)], [], 0⟩)) (Le.re [(0, 0), (1, 1), (2, 2), (3, 3), (4, 4)] [] hX (by kernel_rfl)) hL72 ?_ (fun s61 x65 hx66 hk67 => ?_)
         ·rcases r62 with r63 | r64
          ·refine (qBlockX (qBlock (qThen ?_)))
           have hx58 := of_some hx58
           subst hx58
           exact HT.rgK (oHs 3) [(0, 0), (1, 1), (2, 2), (3, 3), (4, 4)] [] hX (by kernel_rfl) aN (fun _ h => (qLoopN ⟨(r63, (wadd .i64 s32.2 (1 : Int))), rfl, h⟩))
          ·have hx58 := of_some hx58
           subst hx58
           exact (qBlockR (qBlockR (qThenR (qLoopR (hk59 (.inr ()) rfl)))))
         ·refine HT.seq ?_
          refine HT.rg2 (oHs 3) ⟨[(5, iV (wadd .i64 (2 : Int) y4)), (6, pV 0 0), (8, aV 1), (20, .one (.dat (.flt .f64) s61.1)), (21, iV s32.2), (22, iV s61.2), (181, bV (decide (s61.2 < (wadd .i64 (2 : Int) y4))))], [(0, .box [iC y6.1, iC y6.2.1, .all 2, .all 3, .all 4]), (1, .seq tI y10), (2, .seq tF y6.2.2.1), (3, .seq tF y6.2.2.2.1), (4, .seq tF y6.2.2.2.2)], 5⟩ hX (by kernel_rfl) aN ?_
          rcases of_bif hx66 with ⟨hb68, hx66⟩ | ⟨hb68, hx66⟩
          ·refine HT.cond1 rfl hb68 ?_
           refine HT.skip (qThen ?_)
           refine HT.seq ?_
           refine HT.block ?_
           obtain ⟨y69, hc70, hx66⟩ := of_bind hx66
           refine HT.rg2 [oH, oH, oH, ⟨none, .ty tI⟩, ⟨none, .call [.imm (.st (.pair tI (.pair tI (.pair tLF (.pair tLF tLF))))), .imm tLI] [⟨false, tF, y69.1⟩, ⟨false, .bool, y69.2⟩] []⟩, oH, oH, oH, oH, oH] ⟨[(5, iV (wadd .i64 (2 : Int) y4)), (6, pV 0 0), (8, aV 1), (20, .one (.dat (.flt .f64) s61.1)), (21, iV s32.2), (22, iV s61.2), (23, fV y69.1), (24, bV y69.2)], [(0, .box [iC y6.1, iC y6.2.1, .all 2, .all 3, .all 4]), (1, .seq tI y10), (2, .seq tF y6.2.2.1), (3, .seq tF y6.2.2.2.1), (4, .seq tF y6.2.2.2.2)], 6⟩ hX (by kernel_rfl) (aC (f16_ok hc70) aN) ?_
           refine HT.seq ?_
           refine HT.rg2 (oHs 2) ⟨[(5, iV (wadd .i64 (2 : Int) y4)), (6, pV 0 0), (8, aV 1), (20, .one (.dat (.flt .f64) s61.1)), (21, iV s32.2), (22, iV s61.2), (23, fV y69.1), (193, bV (!y69.2))], [(0, .box [iC y6.1, iC y6.2.1, .all 2, .all 3, .all 4]), (1, .seq tI y10), (2, .seq tF y6.2.2.1), (3, .seq tF y6.2.2.2.1), (4, .seq tF y6.2.2.2.2)], 6⟩ hX (by kernel_rfl) aN ?_
           rcases of_bif hx66 with ⟨hb71, hx66⟩ | ⟨hb71, hx66⟩
           ·refine HT.cond1 rfl hb71 ?_
            refine HT.rg2 [oH] ⟨[(4, bV false)], [], 6⟩ hX (by kernel_rfl) aN ?_
            have hx66 := of_some hx66
            subst hx66
            exact HT.retL (Le.re [] [] hX (by kernel_rfl)) (qThenR (qBlockR (qThenR (qLoopR (hk67 (.inr ()) rfl)))))
           ·refine HT.cond0 rfl hb71 ?_
            refine HT.skip (qThen ?_)
            refine HT.rgL (oHs 5) ⟨[(5, iV (wadd .i64 (2 : Int) y4)), (6, pV 0 0), (8, aV 1), (20, .one (.dat (.flt .f64) (fop .add .f64 s61.1 (fconv .f32 .f64 y69.1)))), (21, iV s32.2), (22, iV s61.2)], [(0, .box [iC y6.1, iC y6.2.1, .all 2, .all 3, .all 4]), (1, .seq tI y10), (2, .seq tF y6.2.2.1), (3, .seq tF y6.2.2.2.1), (4, .seq tF y6.2.2.2.2)], 6⟩ hX (by kernel_rfl) (aC (show fconvOK .f32 .f64 y69.1 = true from (fconv_up _)) aN) (qBlock (qThen ?_))
            have hx66 := of_some hx66
            subst hx66
            exact HT.rgK (oHs 3) [(0, 0), (1, 1), (2, 2), (3, 3), (4, 4)] [] hX (by kernel_rfl) aN (fun _ h => (qLoopN ⟨((fop .add .f64 s61.1 (fconv .f32 .f64 y69.1)), (wadd .i64 s61.2 (1 : Int))), rfl, h⟩))
          ·refine HT.cond0 rfl hb68 ?_
           have hx66 := of_some hx66
           subst hx66
           exact HT.exitL (Le.re [(0, 0), (1, 1), (2, 2), (3, 3), (4, 4)] [] hX (by kernel_rfl)) (qThenE (qLoopE (hk67 (.inl s61.1) rfl)))
        ·refine HT.cond0 rfl hb60 ?_
         have hx58 := of_some hx58
         subst hx58
         exact HT.exitL (Le.re [(0, 0), (1, 1), (2, 2), (3, 3), (4, 4)] [] hX (by kernel_rfl)) (qThenE (qLoopE (hk59 (.inl s32.1) rfl)))
     ·have hr := of_some hr
      subst hr
      exact (qBlockR (qThenR ⟨[bV false], [], [], by kernel_rfl, by kernel_rfl, rfl, by kernel_rfl, by kernel_rfl, trivial⟩))
    ·refine HT.seq ?_
     refine HT.rg2 (oHs 3) ⟨[(5, iV (wadd .i64 (2 : Int) y4)), (6, pV 0 0), (7, iV y8), (8, aV 1), (9, fV y12.1), (11, fV y14.1), (13, aV 2), (15, aV 3), (17, iV s24), (124, bV (decide (s24 ≤ y8)))], [(0, .box [iC y6.1, iC y6.2.1, .all 4, .all 5, .all 6]), (1, .seq tI y10), (2, .seq tF y16.1), (3, .seq tF y18.1), (4, .seq tF y6.2.2.1), (5, .seq tF y6.2.2.2.1), (6, .seq tF y6.2.2.2.2)], 7⟩ hX (by kernel_rfl) aN ?_
     rcases of_bif hx76 with ⟨hb78, hx76⟩ | ⟨hb78, hx76⟩
     ·refine HT.cond1 rfl hb78 ?_
      refine HT.skip (qThen ?_)
      refine HT.seq ?_
      refine HT.block ?_
      refine HT.rg2 [oH] ⟨[(5, iV (wadd .i64 (2 : Int) y4)), (6, pV 0 0), (7, iV y8), (8, aV 1), (9, fV y12.1), (11, fV y14.1), (13, aV 2), (15, aV 3), (17, iV s24), (18, .one (.dat (.flt .f64) (0 : Nat)))], [(0, .box [iC y6.1, iC y6.2.1, .all 4, .all 5, .all 6]), (1, .seq tI y10), (2, .seq tF y16.1), (3, .seq tF y18.1), (4, .seq tF y6.2.2.1), (5, .seq tF y6.2.2.2.1), (6, .seq tF y6.2.2.2.2)], 7⟩ hX (by kernel_rfl) aN ?_
      refine HT.seq ?_
      refine HT.rg2 [oH] ⟨[(5, iV (wadd .i64 (2 : Int) y4)), (6, pV 0 0), (7, iV y8), (8, aV 1), (9, fV y12.1), (11, fV y14.1), (13, aV 2), (15, aV 3), (17, iV s24), (18, .one (.dat (.flt .f64) (0 : Nat))), (19, iV (0 : Int))], [(0, .box [iC y6.1, iC y6.2.1, .all 4, .all 5, .all 6]), (1, .seq tI y10), (2, .seq tF y16.1), (3, .seq tF y18.1), (4, .seq tF y6.2.2.1), (5, .seq tF y6.2.2.2.1), (6, .seq tF y6.2.2.2.2)], 7⟩ hX (by kernel_rfl) aN ?_
      refine HT.block ?_
      obtain ⟨r80, hL91, hx76⟩ := of_bind hx76
      refine HT.loopL (fun (s79 : Nat × Int) => ⟨[(5, iV (wadd .i64 (2 : Int) y4)), (6, pV 0 0), (7, iV y8), (8, aV 1), (9, fV y12.1), (11, fV y14.1), (13, aV 2), (15, aV 3), (17, iV s24), (18, .one (.dat (.flt .f64) s79.1)), (19, iV s79.2)], [(0, .box [iC y6.1, iC y6.2.1, .all 4, .all 5, .all 6]), (1, .seq tI y10), (2, .seq tF y16.1), (3, .seq tF y18.1), (4, .seq tF y6.2.2.1), (5, .seq tF y6.2.2.2.1), (6, .seq tF y6.2.2.2.2)], 7⟩) (fun (r81 : Nat) => (.exit 2, ⟨[(5, iV (wadd .i64 (2 : Int) y4)), (6, pV 0 0), (7, iV y8), (8, aV 1), (9, fV y12.1), (11, fV y14.1), (13, aV 2), (15, aV 3), (17, iV s24), (18, .one (.dat (.flt .f64) r81))], [(0, .box [iC y6.1, iC y6.2.1, .all 4, .all 5, .all 6]), (1, .seq tI y10), (2, .seq tF y16.1), (3, .seq tF y18.1), (4, .seq tF y6.2.2.1), (5, .seq tF y6.2.2.2.1), (6, .seq tF y6.2.2.2.2)], 7⟩)) (Le.re [(0, 0), (1, 1), (2, 2), (3, 3), (4, 4), (5, 5), (6, 6)] [] hX (by kernel_rfl)) hL91 ?_ (fun s79 x85 hx86 hk87 => ?_)
      ·refine (qBlockX (qThen ?_))
       obtain ⟨y82, hc83, hx76⟩ := of_bind hx76
       refine HT.rg2 [oH, oH, oH, ⟨none, .call [.imm (.flt .f64), .imm (.flt .f64)] [⟨false, (.flt .f64), y82⟩] []⟩, oH, oH, oH, oH] ⟨[(5, iV (wadd .i64 (2 : Int) y4)), (6, pV 0 0), (7, iV y8), (8, aV 1), (9, fV y12.1), (11, fV y14.1), (13, aV 2), (15, aV 3), (17, iV s24), (163, bV (fgt .f64 y82 (fop .mul .f64 (4562254508917369340 : Nat) (fconv .f32 .f64 y12.1))))], [(0, .box [iC y6.1, iC y6.2.1, .all 4, .all 5, .all 6]), (1, .seq tI y10), (2, .seq tF y16.1), (3, .seq tF y18.1), (4, .seq tF y6.2.2.1), (5, .seq tF y6.2.2.2.1), (6, .seq tF y6.2.2.2.2)], 7⟩ hX (by kernel_rfl) (aC (show fconvOK .f32 .f64 y12.1 = true from (fconv_up _)) (aC (f22_ok hc83) (aC (show fconvOK .f32 .f64 y12.1 = true from (fconv_up _)) aN))) ?_
       rcases of_bif hx76 with ⟨hb84, hx76⟩ | ⟨hb84, hx76⟩
       ·refine HT.cond1 rfl hb84 ?_
        refine HT.rg2 [oH] ⟨[(4, bV false)], [], 7⟩ hX (by kernel_rfl) aN ?_
        have hx76 := of_some hx76
        subst hx76
        exact HT.retL (Le.re [] [] hX (by kernel_rfl)) (qBlockR (qThenR (qLoopR (hk77 (.inr ()) rfl))))
       ·refine HT.cond0 rfl hb84 ?_
        refine HT.skip (qBlock (qThen ?_))
        have hx76 := of_some hx76
        subst hx76
        exact HT.rgK (oHs 3) [(0, 0), (1, 1), (2, 2), (3, 3), (4, 4), (5, 5), (6, 6)] [] hX (by kernel_rfl) aN (fun _ h => (qLoopN ⟨(wadd .i64 s24 (1 : Int)), rfl, h⟩))
      ·refine HT.seq ?_
       refine HT.rg2 (oHs 4) ⟨[(5, iV (wadd .i64 (2 : Int) y4)), (6, pV 0 0), (7, iV y8), (8, aV 1), (9, fV y12.1), (11, fV y14.1), (13, aV 2), (15, aV 3), (17, iV s24), (18, .one (.dat (.flt .f64) s79.1)), (19, iV s79.2), (130, bV (decide (s79.2 < y6.1)))], [(0, .box [iC y6.1, iC y6.2.1, .all 4, .all 5, .all 6]), (1, .seq tI y10), (2, .seq tF y16.1), (3, .seq tF y18.1), (4, .seq tF y6.2.2.1), (5, .seq tF y6.2.2.2.1), (6, .seq tF y6.2.2.2.2)], 7⟩ hX (by kernel_rfl) aN ?_
       rcases of_bif hx86 with ⟨hb88, hx86⟩ | ⟨hb88, hx86⟩
       ·refine HT.cond1 rfl hb88 ?_
        refine HT.skip (qThen ?_)
        refine HT.seq ?_
        refine HT.block ?_
        obtain ⟨hg89, hx86⟩ := of_guard hx86
        obtain ⟨hg90, hx86⟩ := of_guard hx86
        refine HT.drL 22 [⟨oH, []⟩, ⟨oH, []⟩, ⟨oH, []⟩, ⟨oH, []⟩, ⟨oH, [3]⟩, ⟨oH, [2, 3, 4]⟩, ⟨oH, []⟩, ⟨oH, [2, 3, 4, 5, 6]⟩, ⟨oH, [1, 2, 3, 4, 5, 6, 7]⟩, ⟨oH, [1, 2, 3, 4, 5, 6, 7, 8]⟩, ⟨oH, [1, 2, 3, 4, 5, 6, 7, 8, 9]⟩, ⟨oH, []⟩, ⟨oH, []⟩, ⟨oH, []⟩, ⟨oH, [13]⟩, ⟨oH, [12, 13, 14]⟩, ⟨oH, []⟩, ⟨oH, [12, 13, 14, 15, 16]⟩, ⟨oH, [11, 12, 13, 14, 15, 16, 17]⟩, ⟨oH, [11, 12, 13, 14, 15, 16, 17, 18]⟩, ⟨oH, [11, 12, 13, 14, 15, 16, 17, 18, 19]⟩, ⟨oH, [1, 2, 3, 4, 5, 6, 7, 8, 9, 10, 11, 12, 13, 14, 15, 16, 17, 18, 19, 20]⟩] [[0, 1, 2, 3, 4, 5, 6, 7, 8, 9, 10, 11, 12, 13, 14, 15, 16, 17, 18, 19, 20, 21], [0, 1, 2, 3, 4, 5, 6, 7, 8, 9, 10, 11, 12, 13, 14, 15, 16, 17, 18, 19, 20, 21, 22]] (oHs 2) ⟨[(5, iV (wadd .i64 (2 : Int) y4)), (6, pV 0 0), (7, iV y8), (8, aV 1), (9, fV y12.1), (11, fV y14.1), (13, aV 2), (15, aV 3), (17, iV s24), (18, .one (.dat (.flt .f64) (fop .add .f64 s79.1 (fop .mul .f64 (fconv .f32 .f64 (List.getD y16.1 (Int.toNat (wadd .i64 (wmul .i64 s24 y6.1) s79.2)) (0 : Nat))) (fconv .f32 .f64 (List.getD y18.1 (Int.toNat (wadd .i64 (wmul .i64 s24 y6.1) s79.2)) (0 : Nat))))))), (19, iV s79.2)], [(0, .box [iC y6.1, iC y6.2.1, .all 4, .all 5, .all 6]), (1, .seq tI y10), (2, .seq tF y16.1), (3, .seq tF y18.1), (4, .seq tF y6.2.2.1), (5, .seq tF y6.2.2.2.1), (6, .seq tF y6.2.2.2.2)], 7⟩ hX (by kernel_rfl) (by kernel_rfl) (aC hg89 (aC (natLt hg89) (aC (show fconvOK .f32 .f64 (List.getD y16.1 (Int.toNat (wadd .i64 (wmul .i64 s24 y6.1) s79.2)) (0 : Nat)) = true from (fconv_up _)) (aC hg90 (aC (natLt hg90) (aC (show fconvOK .f32 .f64 (List.getD y18.1 (Int.toNat (wadd .i64 (wmul .i64 s24 y6.1) s79.2)) (0 : Nat)) = true from (fconv_up _)) aN)))))) (qBlock (qThen ?_))
        have hx86 := of_some hx86
        subst hx86
        exact HT.rgK (oHs 3) [(0, 0), (1, 1), (2, 2), (3, 3), (4, 4), (5, 5), (6, 6)] [] hX (by kernel_rfl) aN (fun _ h => (qLoopN ⟨((fop .add .f64 s79.1 (fop .mul .f64 (fconv .f32 .f64 (List.getD y16.1 (Int.toNat (wadd .i64 (wmul .i64 s24 y6.1) s79.2)) (0 : Nat))) (fconv .f32 .f64 (List.getD y18.1 (Int.toNat (wadd .i64 (wmul .i64 s24 y6.1) s79.2)) (0 : Nat))))), (wadd .i64 s79.2 (1 : Int))), rfl, h⟩))
       ·refine HT.cond0 rfl hb88 ?_
        have hx86 := of_some hx86
        subst hx86
        exact HT.exitL (Le.re [(0, 0), (1, 1), (2, 2), (3, 3), (4, 4), (5, 5), (6, 6)] [] hX (by kernel_rfl)) (qThenE (qLoopE (hk87 s79.1 rfl)))
     ·refine HT.cond0 rfl hb78 ?_
      have hx76 := of_some hx76
      subst hx76
      exact HT.exitL (Le.re [(0, 0), (1, 1), (4, 2), (5, 3), (6, 4)] [] hX (by kernel_rfl)) (qThenE (qLoopE (hk77 (.inl ()) rfl)))
  ·rcases of_bif hT22 with ⟨hb93, hT22⟩ | ⟨hb93, hT22⟩
   ·exact HT.rgK [oH, oH, oH, oT, oT, vT, oH, oT, oT, vT, oH, oT, oT, vT, oH, oT, oT, oT, vT, oH, oT, oT, oT, oT, vT, oH, oT, oT, oT, oT, oT, oT, oT, oT, vT, oH, oT, oT, oT, oT, oT, oT, oT, oT, vT, oH, oT, oT, vT, oH, oT, oT, oT, vT] [(3, 0), (4, 1), (5, 2), (6, 3), (0, 4), (1, 5), (2, 6)] [] hX (by kernel_rfl) (aC hb93 (aC hb93 (aC hb93 (aT4 (aT4 (aT4 (aT4 (aT4 (aT4 (aT4 (aT4 (aT4 (aT4 aN))))))))))))) (fun _ h => (qThen (h.ht (cont true (of_some hT22)))))
   ·rcases of_bif hT22 with ⟨hb94, hT22⟩ | ⟨hb94, hT22⟩
    ·exact HT.rgK [oH, oH, oH, oF, oF, vF, oH, oT, oT, vT, oH, oT, oT, vT, oH, oT, oT, oT, vT, oH, oT, oT, oT, oT, vT, oH, oT, oT, oT, oT, oT, oT, oT, oT, vT, oH, oT, oT, oT, oT, oT, oT, oT, oT, vT, oH, oT, oT, vT, oH, oT, oT, oT, vT] [(3, 0), (4, 1), (5, 2), (6, 3), (0, 4), (1, 5), (2, 6)] [] hX (by kernel_rfl) (aC hb93 (aC hb93 (aC hb93 (aC hb94 (aC hb94 (aC hb94 (aT4 (aT4 (aT4 (aT4 (aT4 (aT4 (aT4 (aT4 (aT4 (aT aN)))))))))))))))) (fun _ h => (qThen (h.ht (cont true (of_some hT22)))))
    ·rcases of_bif hT22 with ⟨hb95, hT22⟩ | ⟨hb95, hT22⟩
     ·exact HT.rgK [oH, oH, oH, oF, oF, vF, oH, oF, oF, vF, oH, oT, oT, vT, oH, oT, oT, oT, vT, oH, oT, oT, oT, oT, vT, oH, oT, oT, oT, oT, oT, oT, oT, oT, vT, oH, oT, oT, oT, oT, oT, oT, oT, oT, vT, oH, oT, oT, vT, oH, oT, oT, oT, vT] [(3, 0), (4, 1), (5, 2), (6, 3), (0, 4), (1, 5), (2, 6)] [] hX (by kernel_rfl) (aC hb93 (aC hb93 (aC hb93 (aC hb94 (aC hb94 (aC hb94 (aC hb95 (aC hb95 (aC hb95 (aT4 (aT4 (aT4 (aT4 (aT4 (aT4 (aT4 (aT4 (aT (aT aN))))))))))))))))))) (fun _ h => (qThen (h.ht (cont true (of_some hT22)))))
     ·rcases of_bif hT22 with ⟨hb96, hT22⟩ | ⟨hb96, hT22⟩
      ·exact HT.rgK [oH, oH, oH, oF, oF, vF, oH, oF, oF, vF, oH, oF, oF, vF, oH, oT, oT, oT, vT, oH, oT, oT, oT, oT, vT, oH, oT, oT, oT, oT, oT, oT, oT, oT, vT, oH, oT, oT, oT, oT, oT, oT, oT, oT, vT, oH, oT, oT, vT, oH, oT, oT, oT, vT] [(3, 0), (4, 1), (5, 2), (6, 3), (0, 4), (1, 5), (2, 6)] [] hX (by kernel_rfl) (aC hb93 (aC hb93 (aC hb93 (aC hb94 (aC hb94 (aC hb94 (aC hb95 (aC hb95 (aC hb95 (aC hb96 (aC hb96 (aC hb96 (aC hb96 (aT4 (aT4 (aT4 (aT4 (aT4 (aT4 (aT4 (aT (aT aN)))))))))))))))))))))) (fun _ h => (qThen (h.ht (cont true (of_some hT22)))))
      ·obtain ⟨y97, hc98, hT22⟩ := of_bind hT22
       rcases of_bif hT22 with ⟨hb99, hT22⟩ | ⟨hb99, hT22⟩
       ·exact HT.rgK [oH, oH, oH, oF, oF, vF, oH, oF, oF, vF, oH, oF, oF, vF, oH, oF, ⟨some false, .call [.imm (.st (.pair tI (.pair tI (.pair tLF (.pair tLF tLF)))))] [⟨false, .bool, y97⟩] []⟩, oF, vF, oH, oT, oT, oT, oT, vT, oH, oT, oT, oT, oT, oT, oT, oT, oT, vT, oH, oT, oT, oT, oT, oT, oT, oT, oT, vT, oH, oT, oT, vT, oH, oT, oT, oT, vT] [(3, 0), (4, 1), (5, 2), (6, 3), (0, 4), (1, 5), (2, 6)] [] hX (by kernel_rfl) (aC hb93 (aC hb93 (aC hb93 (aC hb94 (aC hb94 (aC hb94 (aC hb95 (aC hb95 (aC hb95 (aC hb96 (aC hb96 (aC (f20_ok hc98) (aC hb96 (aC hb96 (aC hb99 (aC hb99 (aC hb99 (aC hb99 (aC hb99 (aT4 (aT4 (aT4 (aT4 (aT4 (aT4 (aT aN)))))))))))))))))))))))))) (fun _ h => (qThen (h.ht (cont true (of_some hT22)))))
       ·obtain ⟨y100, hc101, hT22⟩ := of_bind hT22
        rcases of_bif hT22 with ⟨hb102, hT22⟩ | ⟨hb102, hT22⟩
        ·exact HT.rgK [oH, oH, oH, oF, oF, vF, oH, oF, oF, vF, oH, oF, oF, vF, oH, oF, ⟨some false, .call [.imm (.st (.pair tI (.pair tI (.pair tLF (.pair tLF tLF)))))] [⟨false, .bool, y97⟩] []⟩, oF, vF, oH, oF, oF, ⟨some false, .call [.imm (.st (.pair tI (.pair tI (.pair tLF (.pair tLF tLF))))), .imm (.st (.pair tI (.pair tI (.pair tLF (.pair tLF tLF)))))] [⟨false, .bool, y100⟩] []⟩, oF, vF, oH, oT, oT, oT, oT, oT, oT, oT, oT, vT, oH, oT, oT, oT, oT, oT, oT, oT, oT, vT, oH, oT, oT, vT, oH, oT, oT, oT, vT] [(3, 0), (4, 1), (5, 2), (6, 3), (0, 4), (1, 5), (2, 6)] [] hX (by kernel_rfl) (aC hb93 (aC hb93 (aC hb93 (aC hb94 (aC hb94 (aC hb94 (aC hb95 (aC hb95 (aC hb95 (aC hb96 (aC hb96 (aC (f20_ok hc98) (aC hb96 (aC hb96 (aC hb99 (aC hb99 (aC hb99 (aC (f21_ok hc101) (aC hb99 (aC hb99 (aC hb102 (aC hb102 (aC hb102 (aC hb102 (aC hb102 (aC hb102 (aC hb102 (aC hb102 (aC hb102 (aT4 (aT4 (aT4 (aT4 aN))))))))))))))))))))))))))))))))) (fun _ h => (qThen (h.ht (cont true (of_some hT22)))))
        ·rcases of_bif hT22 with ⟨hb103, hT22⟩ | ⟨hb103, hT22⟩
         ·exact HT.rgK [oH, oH, oH, oF, oF, vF, oH, oF, oF, vF, oH, oF, oF, vF, oH, oF, ⟨some false, .call [.imm (.st (.pair tI (.pair tI (.pair tLF (.pair tLF tLF)))))] [⟨false, .bool, y97⟩] []⟩, oF, vF, oH, oF, oF, ⟨some false, .call [.imm (.st (.pair tI (.pair tI (.pair tLF (.pair tLF tLF))))), .imm (.st (.pair tI (.pair tI (.pair tLF (.pair tLF tLF)))))] [⟨false, .bool, y100⟩] []⟩, oF, vF, oH, oF, oF, oF, oF, oF, oF, oF, oF, vF, oH, oT, oT, oT, oT, oT, oT, oT, oT, vT, oH, oT, oT, vT, oH, oT, oT, oT, vT] [(3, 0), (4, 1), (5, 2), (6, 3), (0, 4), (1, 5), (2, 6)] [] hX (by kernel_rfl) (aC hb93 (aC hb93 (aC hb93 (aC hb94 (aC hb94 (aC hb94 (aC hb95 (aC hb95 (aC hb95 (aC hb96 (aC hb96 (aC (f20_ok hc98) (aC hb96 (aC hb96 (aC hb99 (aC hb99 (aC hb99 (aC (f21_ok hc101) (aC hb99 (aC hb99 (aC hb102 (aC hb102 (aC hb102 (aC hb102 (aC hb102 (aC hb102 (aC hb102 (aC hb102 (aC hb102 (aC hb103 (aC hb103 (aC hb103 (aC hb103 (aC hb103 (aC hb103 (aC hb103 (aC hb103 (aC hb103 (aT4 (aT (aT (aT aN)))))))))))))))))))))))))))))))))))))))))) (fun _ h => (qThen (h.ht (cont true (of_some hT22)))))
         ·rcases of_bif hT22 with ⟨hb104, hT22⟩ | ⟨hb104, hT22⟩
          ·exact HT.rgK [oH, oH, oH, oF, oF, vF, oH, oF, oF, vF, oH, oF, oF, vF, oH, oF, ⟨some false, .call [.imm (.st (.pair tI (.pair tI (.pair tLF (.pair tLF tLF)))))] [⟨false, .bool, y97⟩] []⟩, oF, vF, oH, oF, oF, ⟨some false, .call [.imm (.st (.pair tI (.pair tI (.pair tLF (.pair tLF tLF))))), .imm (.st (.pair tI (.pair tI (.pair tLF (.pair tLF tLF)))))] [⟨false, .bool, y100⟩] []⟩, oF, vF, oH, oF, oF, oF, oF, oF, oF, oF, oF, vF, oH, oF, oF, oF, oF, oF, oF, oF, oF, vF, oH, oT, oT, vT, oH, oT, oT, oT, vT] [(3, 0), (4, 1), (5, 2), (6, 3), (0, 4), (1, 5), (2, 6)] [] hX (by kernel_rfl) (aC hb93 (aC hb93 (aC hb93 (aC hb94 (aC hb94 (aC hb94 (aC hb95 (aC hb95 (aC hb95 (aC hb96 (aC hb96 (aC (f20_ok hc98) (aC hb96 (aC hb96 (aC hb99 (aC hb99 (aC hb99 (aC (f21_ok hc101) (aC hb99 (aC hb99 (aC hb102 (aC hb102 (aC hb102 (aC hb102 (aC hb102 (aC hb102 (aC hb102 (aC hb102 (aC hb102 (aC hb103 (aC hb103 (aC hb103 (aC hb103 (aC hb103 (aC hb103 (aC hb103 (aC hb103 (aC hb103 (aC hb104 (aC hb104 (aC hb104 (aT4 aN)))))))))))))))))))))))))))))))))))))))))) (fun _ h => (qThen (h.ht (cont true (of_some hT22)))))
          ·rcases of_bif hT22 with ⟨hb105, hT22⟩ | ⟨hb105, hT22⟩
           ·exact HT.rgK [oH, oH, oH, oF, oF, vF, oH, oF, oF, vF, oH, oF, oF, vF, oH, oF, ⟨some false, .call [.imm (.st (.pair tI (.pair tI (.pair tLF (.pair tLF tLF)))))] [⟨false, .bool, y97⟩] []⟩, oF, vF, oH, oF, oF, ⟨some false, .call [.imm (.st (.pair tI (.pair tI (.pair tLF (.pair tLF tLF))))), .imm (.st (.pair tI (.pair tI (.pair tLF (.pair tLF tLF)))))] [⟨false, .bool, y100⟩] []⟩, oF, vF, oH, oF, oF, oF, oF, oF, oF, oF, oF, vF, oH, oF, oF, oF, oF, oF, oF, oF, oF, vF, oH, oF, oF, vF, oH, oT, oT, oT, vT] [(3, 0), (4, 1), (5, 2), (6, 3), (0, 4), (1, 5), (2, 6)] [] hX (by kernel_rfl) (aC hb93 (aC hb93 (aC hb93 (aC hb94 (aC hb94 (aC hb94 (aC hb95 (aC hb95 (aC hb95 (aC hb96 (aC hb96 (aC (f20_ok hc98) (aC hb96 (aC hb96 (aC hb99 (aC hb99 (aC hb99 (aC (f21_ok hc101) (aC hb99 (aC hb99 (aC hb102 (aC hb102 (aC hb102 (aC hb102 (aC hb102 (aC hb102 (aC hb102 (aC hb102 (aC hb102 (aC hb103 (aC hb103 (aC hb103 (aC hb103 (aC hb103 (aC hb103 (aC hb103 (aC hb103 (aC hb103 (aC hb104 (aC hb104 (aC hb104 (aC hb105 (aC hb105 (aC hb105 (aC hb105 aN))))))))))))))))))))))))))))))))))))))))))))) (fun _ h => (qThen (h.ht (cont true (of_some hT22)))))
           ·exact HT.rgK [oH, oH, oH, oF, oF, vF, oH, oF, oF, vF, oH, oF, oF, vF, oH, oF, ⟨some false, .call [.imm (.st (.pair tI (.pair tI (.pair tLF (.pair tLF tLF)))))] [⟨false, .bool, y97⟩] []⟩, oF, vF, oH, oF, oF, ⟨some false, .call [.imm (.st (.pair tI (.pair tI (.pair tLF (.pair tLF tLF))))), .imm (.st (.pair tI (.pair tI (.pair tLF (.pair tLF tLF)))))] [⟨false, .bool, y100⟩] []⟩, oF, vF, oH, oF, oF, oF, oF, oF, oF, oF, oF, vF, oH, oF, oF, oF, oF, oF, oF, oF, oF, vF, oH, oF, oF, vF, oH, oF, oF, oF, vF] [(3, 0), (4, 1), (5, 2), (6, 3), (0, 4), (1, 5), (2, 6)] [] hX (by kernel_rfl) (aC hb93 (aC hb93 (aC hb93 (aC hb94 (aC hb94 (aC hb94 (aC hb95 (aC hb95 (aC hb95 (aC hb96 (aC hb96 (aC (f20_ok hc98) (aC hb96 (aC hb96 (aC hb99 (aC hb99 (aC hb99 (aC (f21_ok hc101) (aC hb99 (aC hb99 (aC hb102 (aC hb102 (aC hb102 (aC hb102 (aC hb102 (aC hb102 (aC hb102 (aC hb102 (aC hb102 (aC hb103 (aC hb103 (aC hb103 (aC hb103 (aC hb103 (aC hb103 (aC hb103 (aC hb103 (aC hb103 (aC hb104 (aC hb104 (aC hb104 (aC hb105 (aC hb105 (aC (show fconvOK .f32 .f64 y12.1 = true from (fconv_up _)) (aC hb105 (aC hb105 aN)))))))))))))))))))))))))))))))))))))))))))))) (fun _ h => (qThen (h.ht (cont (fgt .f64 (fconv .f32 .f64 y12.1) (4607186922399644778 : Nat)) (of_some hT22)))))

end Go.Proofs
