import Derived.Test.YtapgmbilojbacaaGamesGenA
import Derived.Test.YtapgmbilojbacaaProg
set_option linter.unusedVariables false
set_option linter.unusedSimpArgs false
set_option linter.unusedSectionVars false
/-
 Functions as plain functions, and their contracts. Printed by a program.
-/
namespace Go.Proofs
open Go.Ide

noncomputable def impl_MovesOfGame_B1 (a0 : TyG) (s10 : Int × List Int × List (List Int)) (s24 : Int × List (List Int)) : Option ((Int × List (List Int)) ⊕ ((List Int × List (List Int)))) :=
 bif (decide (s24.1 < (lenI (List.getD a0.2.2 (Int.toNat s10.1) ([] : List Int))))) then
  guardP ((0 : Int) ≤ s24.1 ∧ s24.1 < lenI (List.getD a0.2.2 (Int.toNat s10.1) ([] : List Int))) (
   guardP ((0 : Int) ≤ s10.1 ∧ s10.1 < lenI s24.2) (
    (some (List.set s24.2 (Int.toNat s10.1) ([(List.getD (List.getD a0.2.2 (Int.toNat s10.1) ([] : List Int)) (Int.toNat s24.1) (0 : Int))] : List Int))).bind fun q33 =>
    (impl_Game_winners (a0.1, a0.2.1, q33)).bind fun y35 =>
    guardP ((0 : Int) ≤ s10.1 ∧ s10.1 < lenI y35) (
     bif ((List.getD y35 (Int.toNat s10.1) (0 : Int)) == (List.getD a0.1 (Int.toNat s10.1) (0 : Int))) then
      guardP ((0 : Int) ≤ s10.1 ∧ s10.1 < lenI s10.2.1) (
       (some (List.set s10.2.1 (Int.toNat s10.1) (List.getD (List.getD a0.2.2 (Int.toNat s10.1) ([] : List Int)) (Int.toNat s24.1) (0 : Int)))).bind fun q40 =>
       some (.inr (q40, q33)))
     else
      some (.inl ((wadd .i64 s24.1 (1 : Int)), q33)))))
 else
  some (.inr (s10.2.1, s24.2))

noncomputable def impl_MovesOfGame_B2 (a0 : TyG) (y4 : List Int) (s10 : Int × List Int × List (List Int)) : Option ((Int × List Int × List (List Int)) ⊕ (List Int)) :=
 bif (decide (s10.1 < (lenI a0.1))) then
  (show Option (List Int × List (List Int)) from
   guardP ((0 : Int) ≤ s10.1 ∧ s10.1 < lenI a0.1) (
    guardP ((0 : Int) ≤ s10.1 ∧ s10.1 < lenI y4) (
     bif ((List.getD y4 (Int.toNat s10.1) (0 : Int)) != (List.getD a0.1 (Int.toNat s10.1) (0 : Int))) then
      some (s10.2.1, s10.2.2)
     else
      guardP ((0 : Int) ≤ s10.1 ∧ s10.1 < lenI a0.2.2) (
       (rounds (impl_MovesOfGame_B1 a0 s10) ((0 : Int), s10.2.2)).bind fun r26 =>
       some (r26.1, r26.2))))).bind fun v17 =>
  some (.inl ((wadd .i64 s10.1 (1 : Int)), v17.1, v17.2))
 else
  some (.inr s10.2.1)

noncomputable def impl_MovesOfGame (a0 : TyG) : Option (List Int × Bool) :=
 (impl_ValidGame (a0.1, a0.2.1, a0.2.2)).bind fun y1 =>
 bif (!y1) then
  some (([] : List Int), false)
 else
  (impl_Game_winners (a0.1, a0.2.1, a0.2.2)).bind fun y4 =>
  (slices_Clone a0.2.2).bind fun y6 =>
  (impl_none (lenI y4)).bind fun y8 =>
  (rounds (impl_MovesOfGame_B2 a0 y4) ((0 : Int), y8, y6)).bind fun r12 =>
  some (r12, true)

theorem f49_ok {a0 : TyG} {r : List Int × Bool} (hr : impl_MovesOfGame a0 = some r) : CallOK Try.prog 49 [.imm tG a0] [⟨true, tLI, r.1⟩, ⟨false, .bool, r.2⟩] [] := by
 unfold impl_MovesOfGame at hr
 refine CallOK.of_body (ts := [(true, tLI), (false, .bool)]) Try.func49 rfl (by kernel_rfl) (Nat.le_of_ble_eq_true (by kernel_rfl)) fun cx hP hN hO hF => ?_
 have hO : cx.own.map Prod.fst = [] := hO
 have hX := CxIs.mk hP hN hO
 have hF := hF rfl
 show HT cx ⟨[(0, .agg [nC a0.1, nC a0.2.1, .dat (.sl tLI) a0.2.2])], [], 0⟩ _ _
 refine HT.rg2 (oHs 3) ⟨[(1, pV 0 0)], [(0, .box [nC a0.1, nC a0.2.1, .dat (.sl tLI) a0.2.2])], 1⟩ hX (by kernel_rfl) aN ?_
 refine HT.seq ?_
 obtain ⟨y1, hc2, hr⟩ := of_bind hr
 refine HT.rg2 [oH, ⟨none, .call [.imm tG] [⟨false, .bool, y1⟩] []⟩, oH] ⟨[(1, pV 0 0), (13, bV (!y1))], [(0, .box [nC a0.1, nC a0.2.1, .dat (.sl tLI) a0.2.2])], 1⟩ hX (by kernel_rfl) (aC (f53_ok hc2) aN) ?_
 rcases of_bif hr with ⟨hb3, hr⟩ | ⟨hb3, hr⟩
 ·refine HT.cond1 rfl hb3 ?_
  refine HT.rg2 (oHs 2) ⟨[(2, .one (.nilS)), (3, bV false)], [], 1⟩ hX (by kernel_rfl) aN ?_
  have hr := of_some hr
  subst hr
  exact HT.ret (qThenR ⟨[.one (.nilS), bV false], [], [], by kernel_rfl, by kernel_rfl, rfl, by kernel_rfl, by kernel_rfl, trivial⟩)
 ·refine HT.cond0 rfl hb3 ?_
  refine HT.skip (qThen ?_)
  obtain ⟨y4, hc5, hr⟩ := of_bind hr
  refine HT.rg2 [oH, ⟨none, .call [.imm tG] [⟨true, tLI, y4⟩] []⟩, oH] ⟨[(1, pV 0 0), (4, aV 1)], [(1, .seq tI y4), (0, .box [nC a0.1, nC a0.2.1, .dat (.sl tLI) a0.2.2])], 2⟩ hX (by kernel_rfl) (aC (f126_ok hc5) aN) ?_
  obtain ⟨y6, hc7, hr⟩ := of_bind hr
  refine HT.dr2 9 [⟨oH, []⟩, ⟨oH, [0]⟩, ⟨oH, []⟩, ⟨oH, [2]⟩, ⟨oH, []⟩, ⟨oH, [4]⟩, ⟨⟨none, .call [.imm (.sl tLI)] [⟨true, (.sl tLI), y6⟩] []⟩, [4, 5]⟩, ⟨oH, [0, 1, 2, 3, 4, 5, 6]⟩, ⟨oH, []⟩] [[0, 1, 2, 3, 4, 5, 6, 7, 8]] [oH] ⟨[(1, pV 0 0), (4, aV 1), (5, pV 3 0)], [(3, .box [nC a0.1, nC a0.2.1, .all 2]), (2, .seq tLI y6), (1, .seq tI y4), (0, .box [nC a0.1, nC a0.2.1, .dat (.sl tLI) a0.2.2])], 4⟩ hX (by kernel_rfl) (by kernel_rfl) (aC (f129_ok hc7) aN) ?_
  obtain ⟨y8, hc9, hr⟩ := of_bind hr
  refine HT.rg2 [oH, oH, ⟨none, .call [.imm tI] [⟨true, tLI, y8⟩] []⟩, oH] ⟨[(1, pV 0 0), (4, aV 1), (5, pV 3 0), (6, aV 4)], [(4, .seq tI y8), (3, .box [nC a0.1, nC a0.2.1, .all 2]), (2, .seq tLI y6), (1, .seq tI y4), (0, .box [nC a0.1, nC a0.2.1, .dat (.sl tLI) a0.2.2])], 5⟩ hX (by kernel_rfl) (aC (f130_ok hc9) aN) ?_
  refine HT.seq ?_
  refine HT.rg2 (oHs 4) ⟨[(1, pV 0 0), (4, aV 1), (5, pV 3 0), (6, aV 4), (28, nV a0.1), (29, iV (lenI a0.1)), (30, iV (0 : Int))], [(4, .seq tI y8), (3, .box [nC a0.1, nC a0.2.1, .all 2]), (2, .seq tLI y6), (1, .seq tI y4), (0, .box [nC a0.1, nC a0.2.1, .dat (.sl tLI) a0.2.2])], 5⟩ hX (by kernel_rfl) aN ?_
  refine HT.block ?_
  obtain ⟨r11, hL43, hr⟩ := of_bind hr
  refine HT.loopL (fun (s10 : Int × List Int × List (List Int)) => ⟨[(1, pV 0 0), (4, aV 1), (5, pV 2 0), (6, aV 3), (28, nV a0.1), (29, iV (lenI a0.1)), (30, iV s10.1)], [(0, .box [nC a0.1, nC a0.2.1, .dat (.sl tLI) a0.2.2]), (1, .seq tI y4), (2, .box [nC a0.1, nC a0.2.1, .all 4]), (3, .seq tI s10.2.1), (4, .seq tLI s10.2.2)], 5⟩) (fun (r12 : List Int) => (.exit 0, ⟨[(6, aV 0)], [(0, .seq tI r12)], 1⟩)) (Le.re [(0, 0), (1, 1), (3, 2), (4, 3), (2, 4)] [] hX (by kernel_rfl)) hL43 ?_ (fun s10 x13 hx14 hk15 => ?_)
  ·refine (qBlockX (qThen ?_))
   refine HT.rg2 (oHs 3) ⟨[(2, aV 0), (3, bV true)], [(0, .seq tI r11)], 1⟩ hX (by kernel_rfl) aN ?_
   have hr := of_some hr
   subst hr
   exact HT.ret ⟨[aV 0, bV true], [0], [], by kernel_rfl, by kernel_rfl, rfl, by kernel_rfl, by kernel_rfl, trivial⟩
  ·refine HT.rg2 [oH] ⟨[(1, pV 0 0), (4, aV 1), (5, pV 2 0), (6, aV 3), (28, nV a0.1), (29, iV (lenI a0.1)), (30, iV s10.1), (31, bV (decide (s10.1 < (lenI a0.1))))], [(0, .box [nC a0.1, nC a0.2.1, .dat (.sl tLI) a0.2.2]), (1, .seq tI y4), (2, .box [nC a0.1, nC a0.2.1, .all 4]), (3, .seq tI s10.2.1), (4, .seq tLI s10.2.2)], 5⟩ hX (by kernel_rfl) aN ?_
   refine HT.seq ?_
   rcases of_bif hx14 with ⟨hb16, hx14⟩ | ⟨hb16, hx14⟩
   ·refine HT.cond1 rfl hb16 ?_
    refine HT.skip (qThen ?_)
    obtain ⟨v17', hT19, hx14⟩ := of_bind hx14
    refine HT.join (fun (v17 : List Int × List (List Int)) => ⟨[(1, pV 0 0), (4, aV 1), (5, pV 2 0), (6, aV 3), (28, nV a0.1), (29, iV (lenI a0.1)), (30, iV s10.1)], [(0, .box [nC a0.1, nC a0.2.1, .dat (.sl tLI) a0.2.2]), (1, .seq tI y4), (2, .box [nC a0.1, nC a0.2.1, .all 4]), (3, .seq tI v17.1), (4, .seq tLI v17.2)], 5⟩) (fun v => v = v17') (fun v17 hv18 => ?_) (fun cont => ?_)
    ·subst hv18
     have hx14 := of_some hx14
     subst hx14
     exact HT.rgK (oHs 2) [(0, 0), (1, 1), (2, 2), (3, 3), (4, 4)] [] hX (by kernel_rfl) aN (fun _ h => (qLoopN ⟨((wadd .i64 s10.1 (1 : Int)), v17.1, v17.2), rfl, h⟩))
    ·refine HT.block ?_
     obtain ⟨hg20, hT19⟩ := of_guard hT19
     refine HT.rg2 (oHs 5) ⟨[(1, pV 0 0), (4, aV 1), (5, pV 2 0), (6, aV 3), (7, iV s10.1), (8, iV (List.getD a0.1 (Int.toNat s10.1) (0 : Int))), (28, nV a0.1), (29, iV (lenI a0.1)), (30, iV s10.1)], [(0, .box [nC a0.1, nC a0.2.1, .dat (.sl tLI) a0.2.2]), (1, .seq tI y4), (2, .box [nC a0.1, nC a0.2.1, .all 4]), (3, .seq tI s10.2.1), (4, .seq tLI s10.2.2)], 5⟩ hX (by kernel_rfl) (aC hg20 aN) ?_
     refine HT.seq ?_
     obtain ⟨hg21, hT19⟩ := of_guard hT19
     refine HT.rg2 (oHs 6) ⟨[(1, pV 0 0), (4, aV 1), (5, pV 2 0), (6, aV 3), (7, iV s10.1), (8, iV (List.getD a0.1 (Int.toNat s10.1) (0 : Int))), (28, nV a0.1), (29, iV (lenI a0.1)), (30, iV s10.1), (40, bV ((List.getD y4 (Int.toNat s10.1) (0 : Int)) != (List.getD a0.1 (Int.toNat s10.1) (0 : Int))))], [(0, .box [nC a0.1, nC a0.2.1, .dat (.sl tLI) a0.2.2]), (1, .seq tI y4), (2, .box [nC a0.1, nC a0.2.1, .all 4]), (3, .seq tI s10.2.1), (4, .seq tLI s10.2.2)], 5⟩ hX (by kernel_rfl) (aC hg21 (aC (natLt hg21) aN)) ?_
     rcases of_bif hT19 with ⟨hb22, hT19⟩ | ⟨hb22, hT19⟩
     ·refine HT.cond1 rfl hb22 ?_
      refine HT.exit (qThenE (qBlockX (qThen ?_)))
      exact (Le.re [(0, 0), (1, 1), (2, 2), (3, 3), (4, 4)] [] hX (by kernel_rfl)).ht (cont (s10.2.1, s10.2.2) (of_some hT19))
     ·refine HT.cond0 rfl hb22 ?_
      refine HT.skip (qThen ?_)
      obtain ⟨hg23, hT19⟩ := of_guard hT19
      refine HT.rg2 (oHs 7) ⟨[(1, pV 0 0), (4, aV 1), (5, pV 2 0), (6, aV 3), (7, iV s10.1), (8, iV (List.getD a0.1 (Int.toNat s10.1) (0 : Int))), (28, nV a0.1), (29, iV (lenI a0.1)), (30, iV s10.1), (45, nV (List.getD a0.2.2 (Int.toNat s10.1) ([] : List Int))), (46, iV (lenI (List.getD a0.2.2 (Int.toNat s10.1) ([] : List Int)))), (47, iV (0 : Int))], [(0, .box [nC a0.1, nC a0.2.1, .dat (.sl tLI) a0.2.2]), (1, .seq tI y4), (2, .box [nC a0.1, nC a0.2.1, .all 4]), (3, .seq tI s10.2.1), (4, .seq tLI s10.2.2)], 5⟩ hX (by kernel_rfl) (aC hg23 aN) ?_
      refine HT.block ?_
      obtain ⟨r25, hL42, hT19⟩ := of_bind hT19
      refine HT.loopL (fun (s24 : Int × List (List Int)) => ⟨[(1, pV 0 0), (4, aV 1), (5, pV 2 0), (6, aV 3), (7, iV s10.1), (8, iV (List.getD a0.1 (Int.toNat s10.1) (0 : Int))), (28, nV a0.1), (29, iV (lenI a0.1)), (30, iV s10.1), (45, nV (List.getD a0.2.2 (Int.toNat s10.1) ([] : List Int))), (46, iV (lenI (List.getD a0.2.2 (Int.toNat s10.1) ([] : List Int)))), (47, iV s24.1)], [(0, .box [nC a0.1, nC a0.2.1, .dat (.sl tLI) a0.2.2]), (1, .seq tI y4), (2, .box [nC a0.1, nC a0.2.1, .all 4]), (3, .seq tI s10.2.1), (4, .seq tLI s24.2)], 5⟩) (fun (r26 : (List Int × List (List Int))) => (.exit 2, ⟨[(1, pV 0 0), (4, aV 1), (5, pV 2 0), (6, aV 3), (28, nV a0.1), (29, iV (lenI a0.1)), (30, iV s10.1)], [(0, .box [nC a0.1, nC a0.2.1, .dat (.sl tLI) a0.2.2]), (1, .seq tI y4), (2, .box [nC a0.1, nC a0.2.1, .all 4]), (3, .seq tI r26.1), (4, .seq tLI r26.2)], 5⟩)) (Le.re [(0, 0), (1, 1), (2, 2), (3, 3), (4, 4)] [] hX (by kernel_rfl)) hL42 ?_ (fun s24 x27 hx28 hk29 => ?_)
      ·refine (qBlockX (qBlock (qThen ?_)))
       exact (Le.re [(0, 0), (1, 1), (2, 2), (3, 3), (4, 4)] [] hX (by kernel_rfl)).ht (cont (r25.1, r25.2) (of_some hT19))
      ·refine HT.rg2 [oH] ⟨[(1, pV 0 0), (4, aV 1), (5, pV 2 0), (6, aV 3), (7, iV s10.1), (8, iV (List.getD a0.1 (Int.toNat s10.1) (0 : Int))), (28, nV a0.1), (29, iV (lenI a0.1)), (30, iV s10.1), (45, nV (List.getD a0.2.2 (Int.toNat s10.1) ([] : List Int))), (46, iV (lenI (List.getD a0.2.2 (Int.toNat s10.1) ([] : List Int)))), (47, iV s24.1), (48, bV (decide (s24.1 < (lenI (List.getD a0.2.2 (Int.toNat s10.1) ([] : List Int))))))], [(0, .box [nC a0.1, nC a0.2.1, .dat (.sl tLI) a0.2.2]), (1, .seq tI y4), (2, .box [nC a0.1, nC a0.2.1, .all 4]), (3, .seq tI s10.2.1), (4, .seq tLI s24.2)], 5⟩ hX (by kernel_rfl) aN ?_
       refine HT.seq ?_
       rcases of_bif hx28 with ⟨hb30, hx28⟩ | ⟨hb30, hx28⟩
       ·refine HT.cond1 rfl hb30 ?_
        refine HT.skip (qThen ?_)
        refine HT.seq ?_
        refine HT.block ?_
        obtain ⟨hg31, hx28⟩ := of_guard hx28
        refine HT.rg2 (oHs 3) ⟨[(1, pV 0 0), (4, aV 1), (5, pV 2 0), (6, aV 3), (7, iV s10.1), (8, iV (List.getD a0.1 (Int.toNat s10.1) (0 : Int))), (10, iV (List.getD (List.getD a0.2.2 (Int.toNat s10.1) ([] : List Int)) (Int.toNat s24.1) (0 : Int))), (28, nV a0.1), (29, iV (lenI a0.1)), (30, iV s10.1), (45, nV (List.getD a0.2.2 (Int.toNat s10.1) ([] : List Int))), (46, iV (lenI (List.getD a0.2.2 (Int.toNat s10.1) ([] : List Int)))), (47, iV s24.1)], [(0, .box [nC a0.1, nC a0.2.1, .dat (.sl tLI) a0.2.2]), (1, .seq tI y4), (2, .box [nC a0.1, nC a0.2.1, .all 4]), (3, .seq tI s10.2.1), (4, .seq tLI s24.2)], 5⟩ hX (by kernel_rfl) (aC hg31 aN) ?_
        obtain ⟨hg32, hx28⟩ := of_guard hx28
        refine HT.rg2 [oH, oH, oH, oH, ⟨none, .tyD tI⟩, oH, oH] ⟨[(1, pV 0 0), (4, aV 1), (5, pV 2 0), (6, aV 3), (7, iV s10.1), (8, iV (List.getD a0.1 (Int.toNat s10.1) (0 : Int))), (10, iV (List.getD (List.getD a0.2.2 (Int.toNat s10.1) ([] : List Int)) (Int.toNat s24.1) (0 : Int))), (28, nV a0.1), (29, iV (lenI a0.1)), (30, iV s10.1), (45, nV (List.getD a0.2.2 (Int.toNat s10.1) ([] : List Int))), (46, iV (lenI (List.getD a0.2.2 (Int.toNat s10.1) ([] : List Int)))), (47, iV s24.1)], [(4, .seq tLI (List.set s24.2 (Int.toNat s10.1) ([(List.getD (List.getD a0.2.2 (Int.toNat s10.1) ([] : List Int)) (Int.toNat s24.1) (0 : Int))] : List Int))), (0, .box [nC a0.1, nC a0.2.1, .dat (.sl tLI) a0.2.2]), (1, .seq tI y4), (2, .box [nC a0.1, nC a0.2.1, .all 4]), (3, .seq tI s10.2.1)], 5⟩ hX (by kernel_rfl) (aC hg32 (aC (natLt hg32) aN)) ?_
        obtain ⟨q33, hq34, hx28⟩ := of_bind hx28
        have hq34 := of_some2 hq34
        refine (Le.cv (s := ⟨[(4, 4), (0, 0), (1, 1), (2, 2), (3, 3)], [], [], false⟩) (own := []) (ps := [s10.1 = s10.1, (List.getD a0.1 (Int.toNat s10.1) (0 : Int)) = (List.getD a0.1 (Int.toNat s10.1) (0 : Int)), (List.getD (List.getD a0.2.2 (Int.toNat s10.1) ([] : List Int)) (Int.toNat s24.1) (0 : Int)) = (List.getD (List.getD a0.2.2 (Int.toNat s10.1) ([] : List Int)) (Int.toNat s24.1) (0 : Int)), a0.1 = a0.1, (lenI a0.1) = (lenI a0.1), s10.1 = s10.1, (List.getD a0.2.2 (Int.toNat s10.1) ([] : List Int)) = (List.getD a0.2.2 (Int.toNat s10.1) ([] : List Int)), (lenI (List.getD a0.2.2 (Int.toNat s10.1) ([] : List Int))) = (lenI (List.getD a0.2.2 (Int.toNat s10.1) ([] : List Int))), s24.1 = s24.1, q33 = (List.set s24.2 (Int.toNat s10.1) ([(List.getD (List.getD a0.2.2 (Int.toNat s10.1) ([] : List Int)) (Int.toNat s24.1) (0 : Int))] : List Int)), a0.1 = a0.1, a0.2.1 = a0.2.1, a0.2.2 = a0.2.2, y4 = y4, a0.1 = a0.1, a0.2.1 = a0.2.1, s10.2.1 = s10.2.1]) (st' := ⟨[(1, pV 0 0), (4, aV 1), (5, pV 2 0), (6, aV 3), (7, iV s10.1), (8, iV (List.getD a0.1 (Int.toNat s10.1) (0 : Int))), (10, iV (List.getD (List.getD a0.2.2 (Int.toNat s10.1) ([] : List Int)) (Int.toNat s24.1) (0 : Int))), (28, nV a0.1), (29, iV (lenI a0.1)), (30, iV s10.1), (45, nV (List.getD a0.2.2 (Int.toNat s10.1) ([] : List Int))), (46, iV (lenI (List.getD a0.2.2 (Int.toNat s10.1) ([] : List Int)))), (47, iV s24.1)], [(4, .seq tLI q33), (0, .box [nC a0.1, nC a0.2.1, .dat (.sl tLI) a0.2.2]), (1, .seq tI y4), (2, .box [nC a0.1, nC a0.2.1, .all 4]), (3, .seq tI s10.2.1)], 5⟩) hO (fun h => by cases h) (by kernel_rfl) ⟨rfl, rfl, rfl, rfl, rfl, rfl, rfl, rfl, rfl, hq34, rfl, rfl, rfl, rfl, rfl, rfl, rfl, trivial⟩).ht ?_
        obtain ⟨y35, hc36, hx28⟩ := of_bind hx28
        obtain ⟨hg37, hx28⟩ := of_guard hx28
        refine HT.rg2 [oH, ⟨none, .call [.imm tG] [⟨true, tLI, y35⟩] []⟩, oH, oH, oH, oH, oH] ⟨[(1, pV 0 0), (4, aV 1), (5, pV 2 0), (6, aV 3), (7, iV s10.1), (8, iV (List.getD a0.1 (Int.toNat s10.1) (0 : Int))), (10, iV (List.getD (List.getD a0.2.2 (Int.toNat s10.1) ([] : List Int)) (Int.toNat s24.1) (0 : Int))), (28, nV a0.1), (29, iV (lenI a0.1)), (30, iV s10.1), (45, nV (List.getD a0.2.2 (Int.toNat s10.1) ([] : List Int))), (46, iV (lenI (List.getD a0.2.2 (Int.toNat s10.1) ([] : List Int)))), (47, iV s24.1), (63, bV ((List.getD y35 (Int.toNat s10.1) (0 : Int)) == (List.getD a0.1 (Int.toNat s10.1) (0 : Int))))], [(4, .seq tLI q33), (0, .box [nC a0.1, nC a0.2.1, .dat (.sl tLI) a0.2.2]), (1, .seq tI y4), (2, .box [nC a0.1, nC a0.2.1, .all 4]), (3, .seq tI s10.2.1)], 6⟩ hX (by kernel_rfl) (aC (f126_ok hc36) (aC hg37 (aC (natLt hg37) aN))) ?_
        rcases of_bif hx28 with ⟨hb38, hx28⟩ | ⟨hb38, hx28⟩
        ·refine HT.cond1 rfl hb38 ?_
         obtain ⟨hg39, hx28⟩ := of_guard hx28
         refine HT.rg2 (oHs 5) ⟨[(1, pV 0 0), (4, aV 1), (5, pV 2 0), (6, aV 3), (28, nV a0.1), (29, iV (lenI a0.1)), (30, iV s10.1)], [(3, .seq tI (List.set s10.2.1 (Int.toNat s10.1) (List.getD (List.getD a0.2.2 (Int.toNat s10.1) ([] : List Int)) (Int.toNat s24.1) (0 : Int)))), (4, .seq tLI q33), (0, .box [nC a0.1, nC a0.2.1, .dat (.sl tLI) a0.2.2]), (1, .seq tI y4), (2, .box [nC a0.1, nC a0.2.1, .all 4])], 6⟩ hX (by kernel_rfl) (aC hg39 (aC (natLt hg39) aN)) ?_
         obtain ⟨q40, hq41, hx28⟩ := of_bind hx28
         have hq41 := of_some2 hq41
         refine (Le.cv (s := ⟨[(3, 3), (4, 4), (0, 0), (1, 1), (2, 2)], [], [], false⟩) (own := []) (ps := [a0.1 = a0.1, (lenI a0.1) = (lenI a0.1), s10.1 = s10.1, q40 = (List.set s10.2.1 (Int.toNat s10.1) (List.getD (List.getD a0.2.2 (Int.toNat s10.1) ([] : List Int)) (Int.toNat s24.1) (0 : Int))), q33 = q33, a0.1 = a0.1, a0.2.1 = a0.2.1, a0.2.2 = a0.2.2, y4 = y4, a0.1 = a0.1, a0.2.1 = a0.2.1]) (st' := ⟨[(1, pV 0 0), (4, aV 1), (5, pV 2 0), (6, aV 3), (28, nV a0.1), (29, iV (lenI a0.1)), (30, iV s10.1)], [(3, .seq tI q40), (4, .seq tLI q33), (0, .box [nC a0.1, nC a0.2.1, .dat (.sl tLI) a0.2.2]), (1, .seq tI y4), (2, .box [nC a0.1, nC a0.2.1, .all 4])], 6⟩) hO (fun h => by cases h) (by kernel_rfl) ⟨rfl, rfl, rfl, hq41, rfl, rfl, rfl, rfl, rfl, rfl, rfl, trivial⟩).ht ?_
         have hx28 := of_some hx28
         subst hx28
         exact HT.exitL (Le.re [(0, 0), (1, 1), (2, 2), (3, 3), (4, 4)] [] hX (by kernel_rfl)) (qBlockE rfl (qThenE (qLoopE (hk29 (q40, q33) rfl))))
        ·refine HT.cond0 rfl hb38 ?_
         refine HT.skip (qBlock (qThen ?_))
         have hx28 := of_some hx28
         subst hx28
         exact HT.rgK (oHs 2) [(0, 0), (1, 1), (2, 2), (3, 3), (4, 4)] [] hX (by kernel_rfl) aN (fun _ h => (qLoopN ⟨((wadd .i64 s24.1 (1 : Int)), q33), rfl, h⟩))
       ·refine HT.cond0 rfl hb30 ?_
        have hx28 := of_some hx28
        subst hx28
        exact HT.exitL (Le.re [(0, 0), (1, 1), (2, 2), (3, 3), (4, 4)] [] hX (by kernel_rfl)) (qThenE (qLoopE (hk29 (s10.2.1, s24.2) rfl)))
   ·refine HT.cond0 rfl hb16 ?_
    have hx14 := of_some hx14
    subst hx14
    exact HT.exitL (Le.re [(3, 0)] [] hX (by kernel_rfl)) (qThenE (qLoopE (hk15 s10.2.1 rfl)))

noncomputable def spec_l07OwnGame_B1 (a0 : TyG) (s3 : Int × List (List Int)) : Option ((Int × List (List Int)) ⊕ (List (List Int))) :=
 bif (decide (s3.1 < (lenI a0.2.2))) then
  guardP ((0 : Int) ≤ s3.1 ∧ s3.1 < lenI a0.2.2) (
   guardP (0 + List.length (List.getD a0.2.2 (Int.toNat s3.1) ([] : List Int)) ≤ appMax) (
    guardP (List.length s3.2 + List.length ([(List.getD a0.2.2 (Int.toNat s3.1) ([] : List Int))] : List (List Int)) ≤ appMax) (
     some (.inl ((wadd .i64 s3.1 (1 : Int)), (s3.2 ++ ([(List.getD a0.2.2 (Int.toNat s3.1) ([] : List Int))] : List (List Int))))))))
 else
  some (.inr s3.2)

noncomputable def spec_l07OwnGame (a0 : TyG) : Option ((TyG)) :=
 guardP (0 + List.length a0.1 ≤ appMax) (
  guardP (0 + List.length a0.2.1 ≤ appMax) (
   (rounds (spec_l07OwnGame_B1 a0) ((0 : Int), ([] : List (List Int)))).bind fun r5 =>
   some (a0.1, a0.2.1, r5)))

theorem f131_ok {a0 : TyG} {r : (TyG)} (hr : spec_l07OwnGame a0 = some r) : CallOK Try.prog 131 [.pimm tG a0] [⟨true, (.st (.pair tLI (.pair tLI (.sl (.own tI))))), r⟩] [] := by
 unfold spec_l07OwnGame at hr
 refine CallOK.of_body (ts := [(true, (.st (.pair tLI (.pair tLI (.sl (.own tI))))))]) Try.func131 rfl (by kernel_rfl) (Nat.le_of_ble_eq_true (by kernel_rfl)) fun cx hP hN hO hF => ?_
 have hO : cx.own.map Prod.fst = [] := hO
 have hX := CxIs.mk hP hN hO
 have hF := hF rfl
 show HT cx ⟨[(0, .one (.ip tG a0 0))], [], 0⟩ _ _
 refine HT.rg2 [oH] ⟨[(0, .one (.ip tG a0 0)), (2, pV 0 0)], [(0, .box [.nilS, .nilS, .nilS])], 1⟩ hX (by kernel_rfl) aN ?_
 obtain ⟨hg1, hr⟩ := of_guard hr
 obtain ⟨hg2, hr⟩ := of_guard hr
 refine HT.dr2 14 [⟨oH, []⟩, ⟨oH, []⟩, ⟨oH, [1]⟩, ⟨oH, [1, 2]⟩, ⟨oH, [1, 2, 3]⟩, ⟨⟨none, .ty tI⟩, [0, 1, 2, 3, 4]⟩, ⟨oH, []⟩, ⟨oH, []⟩, ⟨oH, [7]⟩, ⟨oH, [7, 8]⟩, ⟨oH, [7, 8, 9]⟩, ⟨⟨none, .ty tI⟩, [0, 1, 2, 3, 4, 5, 6, 7, 8, 9, 10]⟩, ⟨oH, [0, 1, 2, 3, 4, 5, 6, 7, 8, 9, 10, 11]⟩, ⟨oH, []⟩] [[0, 1, 2, 3, 4, 5, 6, 7, 8, 9, 10, 11, 12, 13]] [oH] ⟨[(0, .one (.ip tG a0 0)), (2, pV 0 0), (3, pV 3 0)], [(3, .box [.all 1, .all 2, .nilS]), (2, .seq tI a0.2.1), (1, .seq tI a0.1), (0, .box [.nilS, .nilS, .nilS])], 4⟩ hX (by kernel_rfl) (by kernel_rfl) (aC hg1 (aC hg2 aN)) ?_
 refine HT.seq ?_
 refine HT.rg2 (oHs 6) ⟨[(0, .one (.ip tG a0 0)), (2, pV 0 0), (3, pV 3 0), (22, iV (lenI a0.2.2)), (23, iV (0 : Int))], [(3, .box [.all 1, .all 2, .nilS]), (2, .seq tI a0.2.1), (1, .seq tI a0.1), (0, .box [.nilS, .nilS, .nilS])], 4⟩ hX (by kernel_rfl) aN ?_
 refine HT.block ?_
 obtain ⟨r4, hL13, hr⟩ := of_bind hr
 refine HT.loopL (fun (s3 : Int × List (List Int)) => ⟨[(0, .one (.ip tG a0 0)), (2, pV 0 0), (3, pV 1 0), (22, iV (lenI a0.2.2)), (23, iV s3.1)], [(0, .box [.nilS, .nilS, .nilS]), (1, .box [.all 2, .all 3, .all 4]), (2, .seq tI a0.1), (3, .seq tI a0.2.1), (4, .seq (.own tI) s3.2)], 5⟩) (fun (r5 : List (List Int)) => (.exit 0, ⟨[(2, pV 0 0), (3, pV 1 0)], [(0, .box [.nilS, .nilS, .nilS]), (1, .box [.all 2, .all 3, .all 4]), (2, .seq tI a0.1), (3, .seq tI a0.2.1), (4, .seq (.own tI) r5)], 5⟩)) (Le.re [(0, 0), (3, 1), (1, 2), (2, 3)] [4] hX (by kernel_rfl)) hL13 ?_ (fun s3 x6 hx7 hk8 => ?_)
 ·refine (qBlockX (qThen ?_))
  refine HT.rg2 (oHs 2) ⟨[(2, pV 0 0)], [(0, .box [.all 2, .all 3, .all 4]), (2, .seq tI a0.1), (3, .seq tI a0.2.1), (4, .seq (.own tI) r4)], 5⟩ hX (by kernel_rfl) aN ?_
  have hr := of_some hr
  subst hr
  exact HT.ret ⟨[.agg [.all 2, .all 3, .all 4]], [2, 3, 4], [], by kernel_rfl, by kernel_rfl, rfl, by kernel_rfl, by kernel_rfl, trivial⟩
 ·refine HT.rg2 [oH] ⟨[(0, .one (.ip tG a0 0)), (2, pV 0 0), (3, pV 1 0), (22, iV (lenI a0.2.2)), (23, iV s3.1), (24, bV (decide (s3.1 < (lenI a0.2.2))))], [(0, .box [.nilS, .nilS, .nilS]), (1, .box [.all 2, .all 3, .all 4]), (2, .seq tI a0.1), (3, .seq tI a0.2.1), (4, .seq (.own tI) s3.2)], 5⟩ hX (by kernel_rfl) aN ?_
  refine HT.seq ?_
  rcases of_bif hx7 with ⟨hb9, hx7⟩ | ⟨hb9, hx7⟩
  ·refine HT.cond1 rfl hb9 ?_
   refine HT.skip (qThen ?_)
   refine HT.seq ?_
   refine HT.block ?_
   refine HT.rg2 (oHs 2) ⟨[(0, .one (.ip tG a0 0)), (2, pV 0 0), (3, pV 1 0), (4, iV s3.1), (22, iV (lenI a0.2.2)), (23, iV s3.1)], [(0, .box [.nilS, .nilS, .nilS]), (1, .box [.all 2, .all 3, .all 4]), (2, .seq tI a0.1), (3, .seq tI a0.2.1), (4, .seq (.own tI) s3.2)], 5⟩ hX (by kernel_rfl) aN ?_
   obtain ⟨hg10, hx7⟩ := of_guard hx7
   obtain ⟨hg11, hx7⟩ := of_guard hx7
   obtain ⟨hg12, hx7⟩ := of_guard hx7
   refine HT.drL 12 [⟨oH, []⟩, ⟨oH, [0]⟩, ⟨oH, []⟩, ⟨oH, []⟩, ⟨oH, [3]⟩, ⟨oH, [3, 4]⟩, ⟨oH, [3, 4, 5]⟩, ⟨oH, []⟩, ⟨oH, [3, 4, 5, 6, 7]⟩, ⟨oH, [3, 4, 5, 6, 7, 8]⟩, ⟨⟨none, .ty tI⟩, [2, 3, 4, 5, 6, 7, 8, 9]⟩, ⟨⟨none, .ty (.own tI)⟩, [2, 3, 4, 5, 6, 7, 8, 9, 10]⟩] [[0, 1, 2, 3, 4, 5, 6, 7, 8, 9, 10, 11], [0, 1, 2, 3, 4, 5, 6, 7, 8, 9, 10, 11, 12], [0, 1, 2, 3, 4, 5, 6, 7, 8, 9, 10, 11, 12, 13]] [⟨none, .ty (.own tI)⟩, oH, oH] ⟨[(0, .one (.ip tG a0 0)), (2, pV 0 0), (3, pV 1 0), (22, iV (lenI a0.2.2)), (23, iV s3.1)], [(1, .box [.all 2, .all 3, .all 7]), (7, .seq (.own tI) (s3.2 ++ ([(List.getD a0.2.2 (Int.toNat s3.1) ([] : List Int))] : List (List Int)))), (0, .box [.nilS, .nilS, .nilS]), (2, .seq tI a0.1), (3, .seq tI a0.2.1)], 8⟩ hX (by kernel_rfl) (by kernel_rfl) (aC hg10 (aC hg11 (aC hg12 aN))) (qBlock (qThen ?_))
   have hx7 := of_some hx7
   subst hx7
   exact HT.rgK (oHs 2) [(0, 0), (1, 1), (2, 2), (3, 3), (7, 4)] [] hX (by kernel_rfl) aN (fun _ h => (qLoopN ⟨((wadd .i64 s3.1 (1 : Int)), (s3.2 ++ ([(List.getD a0.2.2 (Int.toNat s3.1) ([] : List Int))] : List (List Int)))), rfl, h⟩))
  ·refine HT.cond0 rfl hb9 ?_
   have hx7 := of_some hx7
   subst hx7
   exact HT.exitL (Le.re [(0, 0), (1, 1), (2, 2), (3, 3), (4, 4)] [] hX (by kernel_rfl)) (qThenE (qLoopE (hk8 s3.2 rfl)))

noncomputable def spec_MovesOfGame_B1 (a0 : TyG) (y4 : List Int) (y6 : (TyG)) (s8 : Int × List Int × List (List Int)) (s15 : Int × Int × List (List Int)) : Option ((Int × Int × List (List Int)) ⊕ ((Int × List (List Int)))) :=
 (show Option (Bool) from
  guardP ((0 : Int) ≤ s8.1 ∧ s8.1 < lenI a0.2.2) (
   bif (decide (s15.2.1 < (lenI (List.getD a0.2.2 (Int.toNat s8.1) ([] : List Int))))) then
    guardP ((0 : Int) ≤ s8.1 ∧ s8.1 < lenI y4) (
     guardP ((0 : Int) ≤ s8.1 ∧ s8.1 < lenI a0.1) (
      bif ((List.getD y4 (Int.toNat s8.1) (0 : Int)) == (List.getD a0.1 (Int.toNat s8.1) (0 : Int))) then
       some (decide (s15.1 < (0 : Int)))
      else
       some false))
   else
    some false)).bind fun v22 =>
 bif v22 then
  (show Option (Int × List (List Int)) from
   guardP ((0 : Int) ≤ s8.1 ∧ s8.1 < lenI a0.2.2) (
    guardP ((0 : Int) ≤ s15.2.1 ∧ s15.2.1 < lenI (List.getD a0.2.2 (Int.toNat s8.1) ([] : List Int))) (
     guardP ((0 : Int) ≤ s8.1 ∧ s8.1 < lenI s15.2.2) (
      (some (List.set s15.2.2 (Int.toNat s8.1) ([(List.getD (List.getD a0.2.2 (Int.toNat s8.1) ([] : List Int)) (Int.toNat s15.2.1) (0 : Int))] : List Int))).bind fun q32 =>
      (spec_l07Solve (y6.1, y6.2.1, q32)).bind fun y34 =>
      guardP ((0 : Int) ≤ s8.1 ∧ s8.1 < lenI y34) (
       guardP ((0 : Int) ≤ s8.1 ∧ s8.1 < lenI y4) (
        bif ((List.getD y34 (Int.toNat s8.1) (0 : Int)) == (List.getD y4 (Int.toNat s8.1) (0 : Int))) then
         some ((List.getD (List.getD a0.2.2 (Int.toNat s8.1) ([] : List Int)) (Int.toNat s15.2.1) (0 : Int)), q32)
        else
         some (s15.1, q32))))))).bind fun v26 =>
  some (.inl (v26.1, (wadd .i64 s15.2.1 (1 : Int)), v26.2))
 else
  some (.inr (s15.1, s15.2.2))

noncomputable def spec_MovesOfGame_B2 (a0 : TyG) (y4 : List Int) (y6 : (TyG)) (s8 : Int × List Int × List (List Int)) : Option ((Int × List Int × List (List Int)) ⊕ (List Int)) :=
 bif (decide (s8.1 < (lenI y4))) then
  (rounds (spec_MovesOfGame_B1 a0 y4 y6 s8) ((-1 : Int), (0 : Int), s8.2.2)).bind fun r17 =>
  guardP (List.length s8.2.1 + List.length ([r17.1] : List Int) ≤ appMax) (
   some (.inl ((wadd .i64 s8.1 (1 : Int)), (s8.2.1 ++ ([r17.1] : List Int)), r17.2)))
 else
  some (.inr s8.2.1)

noncomputable def spec_MovesOfGame (a0 : TyG) : Option (List Int × Bool) :=
 (spec_l07Game (a0.1, a0.2.1, a0.2.2)).bind fun y1 =>
 bif (!y1) then
  some (([] : List Int), false)
 else
  (spec_l07Solve (a0.1, a0.2.1, a0.2.2)).bind fun y4 =>
  (spec_l07OwnGame (a0.1, a0.2.1, a0.2.2)).bind fun y6 =>
  (rounds (spec_MovesOfGame_B2 a0 y4 y6) ((0 : Int), ([] : List Int), y6.2.2)).bind fun r10 =>
  some (r10, true)

theorem f50_ok {a0 : TyG} {r : List Int × Bool} (hr : spec_MovesOfGame a0 = some r) : CallOK Try.prog 50 [.imm tG a0] [⟨true, tLI, r.1⟩, ⟨false, .bool, r.2⟩] [] := by
 unfold spec_MovesOfGame at hr
 refine CallOK.of_body (ts := [(true, tLI), (false, .bool)]) Try.func50 rfl (by kernel_rfl) (Nat.le_of_ble_eq_true (by kernel_rfl)) fun cx hP hN hO hF => ?_
 have hO : cx.own.map Prod.fst = [] := hO
 have hX := CxIs.mk hP hN hO
 have hF := hF rfl
 show HT cx ⟨[(0, .agg [nC a0.1, nC a0.2.1, .dat (.sl tLI) a0.2.2])], [], 0⟩ _ _
 refine HT.rg2 (oHs 3) ⟨[(1, pV 0 0)], [(0, .box [nC a0.1, nC a0.2.1, .dat (.sl tLI) a0.2.2])], 1⟩ hX (by kernel_rfl) aN ?_
 refine HT.seq ?_
 obtain ⟨y1, hc2, hr⟩ := of_bind hr
 refine HT.rg2 [⟨none, .call [.pimm tG] [⟨false, .bool, y1⟩] []⟩, oH] ⟨[(1, pV 0 0), (12, bV (!y1))], [(0, .box [nC a0.1, nC a0.2.1, .dat (.sl tLI) a0.2.2])], 1⟩ hX (by kernel_rfl) (aC (f127_ok hc2) aN) ?_
 rcases of_bif hr with ⟨hb3, hr⟩ | ⟨hb3, hr⟩
 ·refine HT.cond1 rfl hb3 ?_
  refine HT.rg2 (oHs 2) ⟨[(2, .one (.nilS)), (3, bV false)], [], 1⟩ hX (by kernel_rfl) aN ?_
  have hr := of_some hr
  subst hr
  exact HT.ret (qThenR ⟨[.one (.nilS), bV false], [], [], by kernel_rfl, by kernel_rfl, rfl, by kernel_rfl, by kernel_rfl, trivial⟩)
 ·refine HT.cond0 rfl hb3 ?_
  refine HT.skip (qThen ?_)
  obtain ⟨y4, hc5, hr⟩ := of_bind hr
  refine HT.rg2 [⟨none, .call [.pimm tG] [⟨true, tLI, y4⟩] []⟩, oH] ⟨[(1, pV 0 0), (4, aV 1)], [(1, .seq tI y4), (0, .box [nC a0.1, nC a0.2.1, .dat (.sl tLI) a0.2.2])], 2⟩ hX (by kernel_rfl) (aC (f128_ok hc5) aN) ?_
  obtain ⟨y6, hc7, hr⟩ := of_bind hr
  refine HT.rg2 [⟨none, .call [.pimm tG] [⟨true, (.st (.pair tLI (.pair tLI (.sl (.own tI))))), y6⟩] []⟩, oH, oH] ⟨[(1, pV 0 0), (4, aV 1), (5, pV 5 0)], [(5, .box [.all 2, .all 3, .all 4]), (2, .seq tI y6.1), (3, .seq tI y6.2.1), (4, .seq (.own tI) y6.2.2), (1, .seq tI y4), (0, .box [nC a0.1, nC a0.2.1, .dat (.sl tLI) a0.2.2])], 6⟩ hX (by kernel_rfl) (aC (f131_ok hc7) aN) ?_
  refine HT.rg2 (oHs 2) ⟨[(1, pV 0 0), (4, aV 1), (5, pV 5 0), (6, .one (.nilS))], [(5, .box [.all 2, .all 3, .all 4]), (2, .seq tI y6.1), (3, .seq tI y6.2.1), (4, .seq (.own tI) y6.2.2), (1, .seq tI y4), (0, .box [nC a0.1, nC a0.2.1, .dat (.sl tLI) a0.2.2])], 6⟩ hX (by kernel_rfl) aN ?_
  refine HT.seq ?_
  refine HT.rg2 (oHs 3) ⟨[(1, pV 0 0), (4, aV 1), (5, pV 5 0), (6, .one (.nilS)), (17, iV (lenI y4)), (18, iV (0 : Int))], [(5, .box [.all 2, .all 3, .all 4]), (2, .seq tI y6.1), (3, .seq tI y6.2.1), (4, .seq (.own tI) y6.2.2), (1, .seq tI y4), (0, .box [nC a0.1, nC a0.2.1, .dat (.sl tLI) a0.2.2])], 6⟩ hX (by kernel_rfl) aN ?_
  refine HT.block ?_
  obtain ⟨r9, hL45, hr⟩ := of_bind hr
  refine HT.loopL (fun (s8 : Int × List Int × List (List Int)) => ⟨[(1, pV 0 0), (4, aV 1), (5, pV 2 0), (6, aV 3), (17, iV (lenI y4)), (18, iV s8.1)], [(0, .box [nC a0.1, nC a0.2.1, .dat (.sl tLI) a0.2.2]), (1, .seq tI y4), (2, .box [.all 4, .all 5, .all 6]), (3, .seq tI s8.2.1), (4, .seq tI y6.1), (5, .seq tI y6.2.1), (6, .seq (.own tI) s8.2.2)], 7⟩) (fun (r10 : List Int) => (.exit 0, ⟨[(6, aV 0)], [(0, .seq tI r10)], 1⟩)) (Le.re [(0, 0), (1, 1), (5, 2), (2, 4), (3, 5), (4, 6)] [3] hX (by kernel_rfl)) hL45 ?_ (fun s8 x11 hx12 hk13 => ?_)
  ·refine (qBlockX (qThen ?_))
   refine HT.rg2 (oHs 3) ⟨[(2, aV 0), (3, bV true)], [(0, .seq tI r9)], 1⟩ hX (by kernel_rfl) aN ?_
   have hr := of_some hr
   subst hr
   exact HT.ret ⟨[aV 0, bV true], [0], [], by kernel_rfl, by kernel_rfl, rfl, by kernel_rfl, by kernel_rfl, trivial⟩
  ·refine HT.rg2 [oH] ⟨[(1, pV 0 0), (4, aV 1), (5, pV 2 0), (6, aV 3), (17, iV (lenI y4)), (18, iV s8.1), (19, bV (decide (s8.1 < (lenI y4))))], [(0, .box [nC a0.1, nC a0.2.1, .dat (.sl tLI) a0.2.2]), (1, .seq tI y4), (2, .box [.all 4, .all 5, .all 6]), (3, .seq tI s8.2.1), (4, .seq tI y6.1), (5, .seq tI y6.2.1), (6, .seq (.own tI) s8.2.2)], 7⟩ hX (by kernel_rfl) aN ?_
   refine HT.seq ?_
   rcases of_bif hx12 with ⟨hb14, hx12⟩ | ⟨hb14, hx12⟩
   ·refine HT.cond1 rfl hb14 ?_
    refine HT.skip (qThen ?_)
    refine HT.seq ?_
    refine HT.block ?_
    refine HT.rg2 (oHs 2) ⟨[(1, pV 0 0), (4, aV 1), (5, pV 2 0), (6, aV 3), (7, iV s8.1), (17, iV (lenI y4)), (18, iV s8.1)], [(0, .box [nC a0.1, nC a0.2.1, .dat (.sl tLI) a0.2.2]), (1, .seq tI y4), (2, .box [.all 4, .all 5, .all 6]), (3, .seq tI s8.2.1), (4, .seq tI y6.1), (5, .seq tI y6.2.1), (6, .seq (.own tI) s8.2.2)], 7⟩ hX (by kernel_rfl) aN ?_
    refine HT.rg2 [oH] ⟨[(1, pV 0 0), (4, aV 1), (5, pV 2 0), (6, aV 3), (7, iV s8.1), (8, iV (-1 : Int)), (17, iV (lenI y4)), (18, iV s8.1)], [(0, .box [nC a0.1, nC a0.2.1, .dat (.sl tLI) a0.2.2]), (1, .seq tI y4), (2, .box [.all 4, .all 5, .all 6]), (3, .seq tI s8.2.1), (4, .seq tI y6.1), (5, .seq tI y6.2.1), (6, .seq (.own tI) s8.2.2)], 7⟩ hX (by kernel_rfl) aN ?_
    refine HT.seq ?_
    refine HT.rg2 [oH] ⟨[(1, pV 0 0), (4, aV 1), (5, pV 2 0), (6, aV 3), (7, iV s8.1), (8, iV (-1 : Int)), (9, iV (0 : Int)), (17, iV (lenI y4)), (18, iV s8.1)], [(0, .box [nC a0.1, nC a0.2.1, .dat (.sl tLI) a0.2.2]), (1, .seq tI y4), (2, .box [.all 4, .all 5, .all 6]), (3, .seq tI s8.2.1), (4, .seq tI y6.1), (5, .seq tI y6.2.1), (6, .seq (.own tI) s8.2.2)], 7⟩ hX (by kernel_rfl) aN ?_
    refine HT.block ?_
    obtain ⟨r16, hL44, hx12⟩ := of_bind hx12
    refine HT.loopL (fun (s15 : Int × Int × List (List Int)) => ⟨[(1, pV 0 0), (4, aV 1), (5, pV 2 0), (6, aV 3), (7, iV s8.1), (8, iV s15.1), (9, iV s15.2.1), (17, iV (lenI y4)), (18, iV s8.1)], [(0, .box [nC a0.1, nC a0.2.1, .dat (.sl tLI) a0.2.2]), (1, .seq tI y4), (2, .box [.all 4, .all 5, .all 6]), (3, .seq tI s8.2.1), (4, .seq tI y6.1), (5, .seq tI y6.2.1), (6, .seq (.own tI) s15.2.2)], 7⟩) (fun (r17 : (Int × List (List Int))) => (.exit 2, ⟨[(1, pV 0 0), (4, aV 1), (5, pV 2 0), (6, aV 3), (8, iV r17.1), (17, iV (lenI y4)), (18, iV s8.1)], [(0, .box [nC a0.1, nC a0.2.1, .dat (.sl tLI) a0.2.2]), (1, .seq tI y4), (2, .box [.all 4, .all 5, .all 6]), (3, .seq tI s8.2.1), (4, .seq tI y6.1), (5, .seq tI y6.2.1), (6, .seq (.own tI) r17.2)], 7⟩)) (Le.re [(0, 0), (1, 1), (2, 2), (3, 3), (4, 4), (5, 5), (6, 6)] [] hX (by kernel_rfl)) hL44 ?_ (fun s15 x19 hx20 hk21 => ?_)
    ·refine (qBlockX (qThen ?_))
     obtain ⟨hg18, hx12⟩ := of_guard hx12
     refine HT.rgL [oH, oH, ⟨none, .ty tI⟩, ⟨none, .ty tI⟩, oH] ⟨[(1, pV 0 0), (4, aV 1), (5, pV 2 0), (6, aV 8), (17, iV (lenI y4)), (18, iV s8.1)], [(8, .seq tI (s8.2.1 ++ ([r16.1] : List Int))), (0, .box [nC a0.1, nC a0.2.1, .dat (.sl tLI) a0.2.2]), (1, .seq tI y4), (2, .box [.all 4, .all 5, .all 6]), (4, .seq tI y6.1), (5, .seq tI y6.2.1), (6, .seq (.own tI) r16.2)], 9⟩ hX (by kernel_rfl) (aC hg18 aN) (qBlock (qThen ?_))
     have hx12 := of_some hx12
     subst hx12
     exact HT.rgK (oHs 2) [(0, 0), (1, 1), (2, 2), (8, 3), (4, 4), (5, 5), (6, 6)] [] hX (by kernel_rfl) aN (fun _ h => (qLoopN ⟨((wadd .i64 s8.1 (1 : Int)), (s8.2.1 ++ ([r16.1] : List Int)), r16.2), rfl, h⟩))
    ·refine HT.seq ?_
     obtain ⟨v22', hT24, hx20⟩ := of_bind hx20
     refine HT.join (fun (v22 : Bool) => ⟨[(1, pV 0 0), (4, aV 1), (5, pV 2 0), (6, aV 3), (7, iV s8.1), (8, iV s15.1), (9, iV s15.2.1), (17, iV (lenI y4)), (18, iV s8.1), (44, bV v22)], [(0, .box [nC a0.1, nC a0.2.1, .dat (.sl tLI) a0.2.2]), (1, .seq tI y4), (2, .box [.all 4, .all 5, .all 6]), (3, .seq tI s8.2.1), (4, .seq tI y6.1), (5, .seq tI y6.2.1), (6, .seq (.own tI) s15.2.2)], 7⟩) (fun v => v = v22') (fun v22 hv23 => ?_) (fun cont => ?_)
     ·subst hv23
      rcases of_bif hx20 with ⟨hb25, hx20⟩ | ⟨hb25, hx20⟩
      ·refine HT.cond1 rfl hb25 ?_
       refine HT.skip (qThen ?_)
       obtain ⟨v26', hT28, hx20⟩ := of_bind hx20
       refine HT.join (fun (v26 : Int × List (List Int)) => ⟨[(1, pV 0 0), (4, aV 1), (5, pV 2 0), (6, aV 3), (7, iV s8.1), (8, iV v26.1), (9, iV s15.2.1), (17, iV (lenI y4)), (18, iV s8.1)], [(0, .box [nC a0.1, nC a0.2.1, .dat (.sl tLI) a0.2.2]), (1, .seq tI y4), (2, .box [.all 4, .all 5, .all 6]), (3, .seq tI s8.2.1), (4, .seq tI y6.1), (5, .seq tI y6.2.1), (6, .seq (.own tI) v26.2)], 7⟩) (fun v => v = v26') (fun v26 hv27 => ?_) (fun cont => ?_)
       ·subst hv27
        have hx20 := of_some hx20
        subst hx20
        exact HT.rgK (oHs 3) [(0, 0), (1, 1), (2, 2), (3, 3), (4, 4), (5, 5), (6, 6)] [] hX (by kernel_rfl) aN (fun _ h => (qLoopN ⟨(v26.1, (wadd .i64 s15.2.1 (1 : Int)), v26.2), rfl, h⟩))
       ·refine HT.block ?_
        obtain ⟨hg29, hT28⟩ := of_guard hT28
        obtain ⟨hg30, hT28⟩ := of_guard hT28
        obtain ⟨hg31, hT28⟩ := of_guard hT28
        refine HT.dr2 12 [⟨oH, []⟩, ⟨oH, [0]⟩, ⟨oH, []⟩, ⟨oH, []⟩, ⟨oH, [3]⟩, ⟨oH, []⟩, ⟨oH, [3, 4, 5]⟩, ⟨oH, [3, 4, 5, 6]⟩, ⟨oH, []⟩, ⟨oH, [3, 4, 5, 6, 7, 8]⟩, ⟨oH, [3, 4, 5, 6, 7, 8, 9]⟩, ⟨⟨none, .ty tI⟩, [3, 4, 5, 6, 7, 8, 9, 10]⟩] [[0, 1, 2, 3, 4, 5, 6, 7, 8, 9, 10, 11], [0, 1, 2, 3, 4, 5, 6, 7, 8, 9, 10, 11, 12]] [oH, ⟨none, .opn⟩] ⟨[(1, pV 0 0), (4, aV 1), (5, pV 2 0), (6, aV 3), (7, iV s8.1), (8, iV s15.1), (9, iV s15.2.1), (17, iV (lenI y4)), (18, iV s8.1)], [(6, .opn (.own tI) s15.2.2 (Int.toNat s8.1) [.all 7] [8]), (8, .seq tI (List.getD s15.2.2 (Int.toNat s8.1) ([] : List Int))), (7, .seq tI ([(List.getD (List.getD a0.2.2 (Int.toNat s8.1) ([] : List Int)) (Int.toNat s15.2.1) (0 : Int))] : List Int)), (0, .box [nC a0.1, nC a0.2.1, .dat (.sl tLI) a0.2.2]), (1, .seq tI y4), (2, .box [.all 4, .all 5, .all 6]), (3, .seq tI s8.2.1), (4, .seq tI y6.1), (5, .seq tI y6.2.1)], 9⟩ hX (by kernel_rfl) (by kernel_rfl) (aC hg29 (aC hg30 (aC hg31 (aC (natLt hg31) aN)))) ?_
        refine (Le.close (own := []) 6 (st' := ⟨[(1, pV 0 0), (4, aV 1), (5, pV 2 0), (6, aV 3), (7, iV s8.1), (8, iV s15.1), (9, iV s15.2.1), (17, iV (lenI y4)), (18, iV s8.1)], [(6, .seq (.own tI) (List.set s15.2.2 (Int.toNat s8.1) ([(List.getD (List.getD a0.2.2 (Int.toNat s8.1) ([] : List Int)) (Int.toNat s15.2.1) (0 : Int))] : List Int))), (7, .gone), (8, .seq tI (List.getD s15.2.2 (Int.toNat s8.1) ([] : List Int))), (0, .box [nC a0.1, nC a0.2.1, .dat (.sl tLI) a0.2.2]), (1, .seq tI y4), (2, .box [.all 4, .all 5, .all 6]), (3, .seq tI s8.2.1), (4, .seq tI y6.1), (5, .seq tI y6.2.1)], 9⟩) hO (by kernel_rfl)).ht ?_
        obtain ⟨q32, hq33, hT28⟩ := of_bind hT28
        have hq33 := of_some2 hq33
        refine (Le.cv (s := ⟨[(6, 6), (8, 8), (0, 0), (1, 1), (2, 2), (3, 3), (4, 4), (5, 5)], [], [], false⟩) (own := []) (ps := [s8.1 = s8.1, s15.1 = s15.1, s15.2.1 = s15.2.1, (lenI y4) = (lenI y4), s8.1 = s8.1, q32 = (List.set s15.2.2 (Int.toNat s8.1) ([(List.getD (List.getD a0.2.2 (Int.toNat s8.1) ([] : List Int)) (Int.toNat s15.2.1) (0 : Int))] : List Int)), (List.getD s15.2.2 (Int.toNat s8.1) ([] : List Int)) = (List.getD s15.2.2 (Int.toNat s8.1) ([] : List Int)), a0.1 = a0.1, a0.2.1 = a0.2.1, a0.2.2 = a0.2.2, y4 = y4, s8.2.1 = s8.2.1, y6.1 = y6.1, y6.2.1 = y6.2.1]) (st' := ⟨[(1, pV 0 0), (4, aV 1), (5, pV 2 0), (6, aV 3), (7, iV s8.1), (8, iV s15.1), (9, iV s15.2.1), (17, iV (lenI y4)), (18, iV s8.1)], [(6, .seq (.own tI) q32), (8, .seq tI (List.getD s15.2.2 (Int.toNat s8.1) ([] : List Int))), (0, .box [nC a0.1, nC a0.2.1, .dat (.sl tLI) a0.2.2]), (1, .seq tI y4), (2, .box [.all 4, .all 5, .all 6]), (3, .seq tI s8.2.1), (4, .seq tI y6.1), (5, .seq tI y6.2.1)], 9⟩) hO (fun h => by cases h) (by kernel_rfl) ⟨rfl, rfl, rfl, rfl, rfl, hq33, rfl, rfl, rfl, rfl, rfl, rfl, rfl, rfl, trivial⟩).ht ?_
        obtain ⟨y34, hc35, hT28⟩ := of_bind hT28
        refine HT.rg2 [⟨none, .call [.pimm tG] [⟨true, tLI, y34⟩] []⟩, oH] ⟨[(1, pV 0 0), (4, aV 1), (5, pV 2 0), (6, aV 3), (7, iV s8.1), (8, iV s15.1), (9, iV s15.2.1), (10, aV 9), (17, iV (lenI y4)), (18, iV s8.1)], [(9, .seq tI y34), (6, .seq (.own tI) q32), (0, .box [nC a0.1, nC a0.2.1, .dat (.sl tLI) a0.2.2]), (1, .seq tI y4), (2, .box [.all 4, .all 5, .all 6]), (3, .seq tI s8.2.1), (4, .seq tI y6.1), (5, .seq tI y6.2.1)], 10⟩ hX (by kernel_rfl) (aC (f128_ok hc35) aN) ?_
        obtain ⟨hg36, hT28⟩ := of_guard hT28
        obtain ⟨hg37, hT28⟩ := of_guard hT28
        refine HT.dr2 8 [⟨oH, []⟩, ⟨oH, []⟩, ⟨oH, [0, 1]⟩, ⟨oH, [0, 1, 2]⟩, ⟨oH, []⟩, ⟨oH, []⟩, ⟨oH, [4, 5]⟩, ⟨oH, [4, 5, 6]⟩] [[0, 1, 2, 3, 4, 5, 6, 7]] [oH] ⟨[(1, pV 0 0), (4, aV 1), (5, pV 2 0), (6, aV 3), (7, iV s8.1), (8, iV s15.1), (9, iV s15.2.1), (17, iV (lenI y4)), (18, iV s8.1), (69, bV ((List.getD y34 (Int.toNat s8.1) (0 : Int)) == (List.getD y4 (Int.toNat s8.1) (0 : Int))))], [(6, .seq (.own tI) q32), (0, .box [nC a0.1, nC a0.2.1, .dat (.sl tLI) a0.2.2]), (1, .seq tI y4), (2, .box [.all 4, .all 5, .all 6]), (3, .seq tI s8.2.1), (4, .seq tI y6.1), (5, .seq tI y6.2.1)], 10⟩ hX (by kernel_rfl) (by kernel_rfl) (aC hg36 (aC (natLt hg36) (aC hg37 (aC (natLt hg37) aN)))) ?_
        rcases of_bif hT28 with ⟨hb38, hT28⟩ | ⟨hb38, hT28⟩
        ·refine HT.cond1 rfl hb38 ?_
         exact HT.rgK (oHs 9) [(0, 0), (1, 1), (2, 2), (3, 3), (4, 4), (5, 5), (6, 6)] [] hX (by kernel_rfl) (aC hg29 (aC hg30 aN)) (fun _ h => (qBlock (qThen (h.ht (cont ((List.getD (List.getD a0.2.2 (Int.toNat s8.1) ([] : List Int)) (Int.toNat s15.2.1) (0 : Int)), q32) (of_some hT28))))))
        ·refine HT.cond0 rfl hb38 ?_
         refine HT.skip (qBlock (qThen ?_))
         exact (Le.re [(0, 0), (1, 1), (2, 2), (3, 3), (4, 4), (5, 5), (6, 6)] [] hX (by kernel_rfl)).ht (cont (s15.1, q32) (of_some hT28))
      ·refine HT.cond0 rfl hb25 ?_
       have hx20 := of_some hx20
       subst hx20
       exact HT.exitL (Le.re [(0, 0), (1, 1), (2, 2), (3, 3), (4, 4), (5, 5), (6, 6)] [] hX (by kernel_rfl)) (qThenE (qLoopE (hk21 (s15.1, s15.2.2) rfl)))
     ·obtain ⟨hg39, hT24⟩ := of_guard hT24
      rcases of_bif hT24 with ⟨hb40, hT24⟩ | ⟨hb40, hT24⟩
      ·obtain ⟨hg41, hT24⟩ := of_guard hT24
       obtain ⟨hg42, hT24⟩ := of_guard hT24
       rcases of_bif hT24 with ⟨hb43, hT24⟩ | ⟨hb43, hT24⟩
       ·exact HT.drK 18 [⟨oH, []⟩, ⟨oH, []⟩, ⟨oH, [1]⟩, ⟨oH, []⟩, ⟨oH, [1, 2, 3]⟩, ⟨oH, [1, 2, 3, 4]⟩, ⟨oH, [1, 2, 3, 4, 5]⟩, ⟨oH, [0, 1, 2, 3, 4, 5, 6]⟩, ⟨oH, [0, 1, 2, 3, 4, 5, 6, 7]⟩, ⟨oT, [0, 1, 2, 3, 4, 5, 6, 7, 8]⟩, ⟨oT, [0, 1, 2, 3, 4, 5, 6, 7, 8]⟩, ⟨oT, [0, 1, 2, 3, 4, 5, 6, 7, 8, 9, 10]⟩, ⟨oT, [0, 1, 2, 3, 4, 5, 6, 7, 8, 9, 10, 11]⟩, ⟨oT, [0, 1, 2, 3, 4, 5, 6, 7, 8]⟩, ⟨oT, [0, 1, 2, 3, 4, 5, 6, 7, 8, 13]⟩, ⟨oT, [0, 1, 2, 3, 4, 5, 6, 7, 8]⟩, ⟨oT, [0, 1, 2, 3, 4, 5, 6, 7, 8, 13, 14, 15]⟩, ⟨oT, [0, 1, 2, 3, 4, 5, 6, 7, 8, 13, 14, 15, 16]⟩] [[0, 1, 2, 3, 4, 5, 6, 7, 8, 9, 10, 11, 12, 13, 14, 15, 16, 17], [0, 1, 2, 3, 4, 5, 6, 7, 8, 9, 10, 11, 12, 13, 14, 15, 16, 17, 18], [0, 1, 2, 3, 4, 5, 6, 7, 8, 9, 10, 11, 12, 13, 14, 15, 16, 17, 18, 19], [0, 1, 2, 3, 4, 5, 6, 7, 8, 9, 10, 11, 12, 13, 14, 15, 16, 17, 18, 19, 20], [0, 1, 2, 3, 4, 5, 6, 7, 8, 9, 10, 11, 12, 13, 14, 15, 16, 17, 18, 19, 20, 21], [0, 1, 2, 3, 4, 5, 6, 7, 8, 9, 10, 11, 12, 13, 14, 15, 16, 17, 18, 19, 20, 21, 22]] [oT, vT, oH, oT, oT, vT] [(0, 0), (1, 1), (2, 2), (3, 3), (4, 4), (5, 5), (6, 6)] [] hX (by kernel_rfl) (by kernel_rfl) (aC hg39 (aC hb40 (aC hb40 (aC hb40 (aC hg41 (aC hb40 (aC (natLt hg41) (aC hb40 (aC hb40 (aC hb40 (aC hb40 (aC hg42 (aC hb40 (aC hb40 (aC hb40 (aC hb43 (aC hb43 (aC hb43 aN)))))))))))))))))) (fun _ h => (qThen (h.ht (cont (decide (s15.1 < (0 : Int))) (of_some hT24)))))
       ·exact HT.drK 18 [⟨oH, []⟩, ⟨oH, []⟩, ⟨oH, [1]⟩, ⟨oH, []⟩, ⟨oH, [1, 2, 3]⟩, ⟨oH, [1, 2, 3, 4]⟩, ⟨oH, [1, 2, 3, 4, 5]⟩, ⟨oH, [0, 1, 2, 3, 4, 5, 6]⟩, ⟨oH, [0, 1, 2, 3, 4, 5, 6, 7]⟩, ⟨oT, [0, 1, 2, 3, 4, 5, 6, 7, 8]⟩, ⟨oT, [0, 1, 2, 3, 4, 5, 6, 7, 8]⟩, ⟨oT, [0, 1, 2, 3, 4, 5, 6, 7, 8, 9, 10]⟩, ⟨oT, [0, 1, 2, 3, 4, 5, 6, 7, 8, 9, 10, 11]⟩, ⟨oT, [0, 1, 2, 3, 4, 5, 6, 7, 8]⟩, ⟨oT, [0, 1, 2, 3, 4, 5, 6, 7, 8, 13]⟩, ⟨oT, [0, 1, 2, 3, 4, 5, 6, 7, 8]⟩, ⟨oT, [0, 1, 2, 3, 4, 5, 6, 7, 8, 13, 14, 15]⟩, ⟨oT, [0, 1, 2, 3, 4, 5, 6, 7, 8, 13, 14, 15, 16]⟩] [[0, 1, 2, 3, 4, 5, 6, 7, 8, 9, 10, 11, 12, 13, 14, 15, 16, 17], [0, 1, 2, 3, 4, 5, 6, 7, 8, 9, 10, 11, 12, 13, 14, 15, 16, 17, 18], [0, 1, 2, 3, 4, 5, 6, 7, 8, 9, 10, 11, 12, 13, 14, 15, 16, 17, 18, 19], [0, 1, 2, 3, 4, 5, 6, 7, 8, 9, 10, 11, 12, 13, 14, 15, 16, 17, 18, 19, 20], [0, 1, 2, 3, 4, 5, 6, 7, 8, 9, 10, 11, 12, 13, 14, 15, 16, 17, 18, 19, 20, 21], [0, 1, 2, 3, 4, 5, 6, 7, 8, 9, 10, 11, 12, 13, 14, 15, 16, 17, 18, 19, 20, 21, 22]] [oT, vT, oH, oF, oF, vF] [(0, 0), (1, 1), (2, 2), (3, 3), (4, 4), (5, 5), (6, 6)] [] hX (by kernel_rfl) (by kernel_rfl) (aC hg39 (aC hb40 (aC hb40 (aC hb40 (aC hg41 (aC hb40 (aC (natLt hg41) (aC hb40 (aC hb40 (aC hb40 (aC hb40 (aC hg42 (aC hb40 (aC hb40 (aC hb40 (aC hb43 (aC hb43 (aC hb43 aN)))))))))))))))))) (fun _ h => (qThen (h.ht (cont false (of_some hT24)))))
      ·exact HT.drK 18 [⟨oH, []⟩, ⟨oH, []⟩, ⟨oH, [1]⟩, ⟨oH, []⟩, ⟨oH, [1, 2, 3]⟩, ⟨oH, [1, 2, 3, 4]⟩, ⟨oH, [1, 2, 3, 4, 5]⟩, ⟨oH, [0, 1, 2, 3, 4, 5, 6]⟩, ⟨oH, [0, 1, 2, 3, 4, 5, 6, 7]⟩, ⟨oF, [0, 1, 2, 3, 4, 5, 6, 7, 8]⟩, ⟨oF, [0, 1, 2, 3, 4, 5, 6, 7, 8]⟩, ⟨oF, [0, 1, 2, 3, 4, 5, 6, 7, 8, 9, 10]⟩, ⟨oF, [0, 1, 2, 3, 4, 5, 6, 7, 8, 9, 10, 11]⟩, ⟨oF, [0, 1, 2, 3, 4, 5, 6, 7, 8]⟩, ⟨oF, [0, 1, 2, 3, 4, 5, 6, 7, 8, 13]⟩, ⟨oF, [0, 1, 2, 3, 4, 5, 6, 7, 8]⟩, ⟨oF, [0, 1, 2, 3, 4, 5, 6, 7, 8, 13, 14, 15]⟩, ⟨oF, [0, 1, 2, 3, 4, 5, 6, 7, 8, 13, 14, 15, 16]⟩] [[0, 1, 2, 3, 4, 5, 6, 7, 8, 9, 10, 11, 12, 13, 14, 15, 16, 17], [0, 1, 2, 3, 4, 5, 6, 7, 8, 9, 10, 11, 12, 13, 14, 15, 16, 17, 18], [0, 1, 2, 3, 4, 5, 6, 7, 8, 9, 10, 11, 12, 13, 14, 15, 16, 17, 18, 19], [0, 1, 2, 3, 4, 5, 6, 7, 8, 9, 10, 11, 12, 13, 14, 15, 16, 17, 18, 19, 20], [0, 1, 2, 3, 4, 5, 6, 7, 8, 9, 10, 11, 12, 13, 14, 15, 16, 17, 18, 19, 20, 21], [0, 1, 2, 3, 4, 5, 6, 7, 8, 9, 10, 11, 12, 13, 14, 15, 16, 17, 18, 19, 20, 21, 22]] [oF, vF, oH, oF, oF, vF] [(0, 0), (1, 1), (2, 2), (3, 3), (4, 4), (5, 5), (6, 6)] [] hX (by kernel_rfl) (by kernel_rfl) (aC hg39 (aC hb40 (aC hb40 (aC hb40 (aC hb40 (aC hb40 (aC hb40 (aC hb40 (aC hb40 (aC hb40 (aC hb40 (aC hb40 (aF (aF (aF aN))))))))))))))) (fun _ h => (qThen (h.ht (cont false (of_some hT24)))))
   ·refine HT.cond0 rfl hb14 ?_
    have hx12 := of_some hx12
    subst hx12
    exact HT.exitL (Le.re [(3, 0)] [] hX (by kernel_rfl)) (qThenE (qLoopE (hk13 s8.2.1 rfl)))

theorem f105_ok {xs y : List Int} (h : slices_Clone xs = some y) : CallOK Try.prog 105 [.imm tLI xs] [⟨true, tLI, y⟩] [] := by
 obtain ⟨hg, h⟩ := of_guard h
 have h := of_some h
 subst h
 refine CallOK.of_body (ts := [(true, tLI)]) Try.func105 rfl (by kernel_rfl) (Nat.le_of_ble_eq_true (by kernel_rfl)) fun cx hP hN hO hF => ?_
 show HT cx ⟨[(0, .one (.dat tLI xs))], [], 0⟩ _ _
 refine HT.reg1 [0] [⟨none, .no⟩] ⟨[(0, .one (.dat tLI xs))], [], 0⟩ hP hN (by kernel_rfl) aN ?_
 refine HT.seq ?_
 refine HT.isNil (t3 := 3) (t4 := 4) (v := .one (.dat tLI xs)) (t := tI) (xs := xs) (st1 := ⟨[(3, .one (.dat tLI xs)), (0, .one (.dat tLI xs))], [], 0⟩) hP hN (by kernel_rfl) rfl rfl rfl rfl (e := 2) (by kernel_rfl) rfl rfl (fun b hb => ?_)
 show HT cx ⟨[(4, .one (.dat .bool b)), (3, .one (.dat tLI xs)), (0, .one (.dat tLI xs))], [], 0⟩ _ _
 cases b with
 | true =>
  have e := hb rfl
  subst e
  refine HT.cond1 rfl rfl ?_
  refine HT.reg1 [2] [⟨none, .no⟩] ⟨[(2, .one .nilS)], [], 0⟩ hP hN (by kernel_rfl) aN ?_
  exact HT.ret (qThenR ⟨[.one .nilS], [], [], by kernel_rfl, by kernel_rfl, rfl, by kernel_rfl, by kernel_rfl, trivial⟩)
 | false =>
  refine HT.cond0 rfl rfl ?_
  refine HT.skip (qThen ?_)
  refine HT.reg1 [2] [⟨none, .no⟩, ⟨none, .no⟩, ⟨none, .ty tI⟩, ⟨none, .no⟩] ⟨[(2, .one (.all 0))], [(0, .seq tI xs)], 1⟩ hP hN (by kernel_rfl) (aC hg aN) ?_
  exact HT.ret ⟨[.one (.all 0)], [0], [], by kernel_rfl, by kernel_rfl, rfl, by kernel_rfl, by kernel_rfl, trivial⟩

noncomputable def slices_Index___int64_int64_B1 (a0 : List Int) (a1 : Int) (s1 : Int) : Option ((Int) ⊕ (Unit ⊕ Int)) :=
 bif (decide (s1 < (lenI a0))) then
  guardP ((0 : Int) ≤ s1 ∧ s1 < lenI a0) (
   bif (a1 == (List.getD a0 (Int.toNat s1) (0 : Int))) then
    some (.inr (.inr s1))
   else
    some (.inl (wadd .i64 s1 (1 : Int))))
 else
  some (.inr (.inl ()))

noncomputable def slices_Index___int64_int64 (a0 : List Int) (a1 : Int) : Option (Int) :=
 (rounds (slices_Index___int64_int64_B1 a0 a1) (0 : Int)).bind fun r2 => match r2 with
  | .inl r3 =>
   some (-1 : Int)
  | .inr r4 =>
   some r4

theorem f204_ok {a0 : List Int} {a1 : Int} {r : Int} (hr : slices_Index___int64_int64 a0 a1 = some r) : CallOK Try.prog 204 [.imm tLI a0, .imm tI a1] [⟨false, tI, r⟩] [] := by
 unfold slices_Index___int64_int64 at hr
 refine CallOK.of_body (ts := [(false, tI)]) Try.func204 rfl (by kernel_rfl) (Nat.le_of_ble_eq_true (by kernel_rfl)) fun cx hP hN hO hF => ?_
 have hO : cx.own.map Prod.fst = [] := hO
 have hX := CxIs.mk hP hN hO
 have hF := hF rfl
 show HT cx ⟨[(0, nV a0), (1, iV a1)], [], 0⟩ _ _
 refine HT.rg2 [oH] ⟨[(0, nV a0), (1, iV a1)], [], 0⟩ hX (by kernel_rfl) aN ?_
 refine HT.seq ?_
 refine HT.rg2 (oHs 3) ⟨[(0, nV a0), (1, iV a1), (7, iV (lenI a0)), (8, iV (0 : Int))], [], 0⟩ hX (by kernel_rfl) aN ?_
 refine HT.block ?_
 obtain ⟨r2, hL11, hr⟩ := of_bind hr
 refine HT.loopL (fun (s1 : Int) => ⟨[(0, nV a0), (1, iV a1), (7, iV (lenI a0)), (8, iV s1)], [], 0⟩) (fun (r2 : Unit ⊕ Int) => match r2 with | .inl r3 => (.exit 0, ⟨[], [], 0⟩) | .inr r4 => (.ret, ⟨[(4, iV r4)], [], 0⟩)) (Le.re [] [] hX (by kernel_rfl)) hL11 ?_ (fun s1 x5 hx6 hk7 => ?_)
 ·rcases r2 with r3 | r4
  ·refine (qBlockX (qThen ?_))
   refine HT.rg2 [oH] ⟨[(4, iV (-1 : Int))], [], 0⟩ hX (by kernel_rfl) aN ?_
   have hr := of_some hr
   subst hr
   exact HT.ret ⟨[iV (-1 : Int)], [], [], by kernel_rfl, by kernel_rfl, rfl, by kernel_rfl, by kernel_rfl, trivial⟩
  ·have hr := of_some hr
   subst hr
   exact (qBlockR (qThenR ⟨[iV r4], [], [], by kernel_rfl, by kernel_rfl, rfl, by kernel_rfl, by kernel_rfl, trivial⟩))
 ·refine HT.rg2 [oH] ⟨[(0, nV a0), (1, iV a1), (7, iV (lenI a0)), (8, iV s1), (9, bV (decide (s1 < (lenI a0))))], [], 0⟩ hX (by kernel_rfl) aN ?_
  refine HT.seq ?_
  rcases of_bif hx6 with ⟨hb8, hx6⟩ | ⟨hb8, hx6⟩
  ·refine HT.cond1 rfl hb8 ?_
   refine HT.skip (qThen ?_)
   refine HT.seq ?_
   refine HT.block ?_
   refine HT.rg2 (oHs 2) ⟨[(0, nV a0), (1, iV a1), (5, iV s1), (7, iV (lenI a0)), (8, iV s1)], [], 0⟩ hX (by kernel_rfl) aN ?_
   obtain ⟨hg9, hx6⟩ := of_guard hx6
   refine HT.rg2 (oHs 6) ⟨[(0, nV a0), (1, iV a1), (5, iV s1), (7, iV (lenI a0)), (8, iV s1), (16, bV (a1 == (List.getD a0 (Int.toNat s1) (0 : Int))))], [], 0⟩ hX (by kernel_rfl) (aC hg9 aN) ?_
   rcases of_bif hx6 with ⟨hb10, hx6⟩ | ⟨hb10, hx6⟩
   ·refine HT.cond1 rfl hb10 ?_
    refine HT.rg2 (oHs 2) ⟨[(4, iV s1)], [], 0⟩ hX (by kernel_rfl) aN ?_
    have hx6 := of_some hx6
    subst hx6
    exact HT.retL (Le.re [] [] hX (by kernel_rfl)) (qBlockR (qThenR (qLoopR (hk7 (.inr s1) rfl))))
   ·refine HT.cond0 rfl hb10 ?_
    refine HT.skip (qBlock (qThen ?_))
    have hx6 := of_some hx6
    subst hx6
    exact HT.rgK (oHs 2) [] [] hX (by kernel_rfl) aN (fun _ h => (qLoopN ⟨(wadd .i64 s1 (1 : Int)), rfl, h⟩))
  ·refine HT.cond0 rfl hb8 ?_
   have hx6 := of_some hx6
   subst hx6
   exact HT.exitL (Le.re [] [] hX (by kernel_rfl)) (qThenE (qLoopE (hk7 (.inl ()) rfl)))

noncomputable def slices_Contains___int64_int64 (a0 : List Int) (a1 : Int) : Option (Bool) :=
 (slices_Index___int64_int64 a0 a1).bind fun y1 =>
 some (decide (y1 ≥ (0 : Int)))

theorem f132_ok {a0 : List Int} {a1 : Int} {r : Bool} (hr : slices_Contains___int64_int64 a0 a1 = some r) : CallOK Try.prog 132 [.imm tLI a0, .imm tI a1] [⟨false, .bool, r⟩] [] := by
 unfold slices_Contains___int64_int64 at hr
 refine CallOK.of_body (ts := [(false, .bool)]) Try.func132 rfl (by kernel_rfl) (Nat.le_of_ble_eq_true (by kernel_rfl)) fun cx hP hN hO hF => ?_
 have hO : cx.own.map Prod.fst = [] := hO
 have hX := CxIs.mk hP hN hO
 have hF := hF rfl
 show HT cx ⟨[(0, nV a0), (1, iV a1)], [], 0⟩ _ _
 refine HT.rg2 [oH] ⟨[(0, nV a0), (1, iV a1)], [], 0⟩ hX (by kernel_rfl) aN ?_
 obtain ⟨y1, hc2, hr⟩ := of_bind hr
 refine HT.rg2 [oH, oH, ⟨none, .call [.imm tLI, .imm tI] [⟨false, tI, y1⟩] []⟩, oH, oH] ⟨[(4, bV (decide (y1 ≥ (0 : Int))))], [], 0⟩ hX (by kernel_rfl) (aC (f204_ok hc2) aN) ?_
 have hr := of_some hr
 subst hr
 exact HT.ret ⟨[bV (decide (y1 ≥ (0 : Int)))], [], [], by kernel_rfl, by kernel_rfl, rfl, by kernel_rfl, by kernel_rfl, trivial⟩

noncomputable def impl_TurnGame_B1 (a0 : TyG) (s5 : Int × TyG) : Option ((Int × TyG) ⊕ ((TyG))) :=
 bif (decide (s5.1 < (lenI a0.1))) then
  guardP ((0 : Int) ≤ s5.1 ∧ s5.1 < lenI a0.1) (
   guardP (List.length s5.2.1 + List.length ([(wsub .i64 (1 : Int) (List.getD a0.1 (Int.toNat s5.1) (0 : Int)))] : List Int) ≤ appMax) (
    guardP ((0 : Int) ≤ s5.1 ∧ s5.1 < lenI a0.2.1) (
     guardP (List.length s5.2.2.1 + List.length ([(wadd .i64 (List.getD a0.2.1 (Int.toNat s5.1) (0 : Int)) (1 : Int))] : List Int) ≤ appMax) (
      (some (s5.2.2.1 ++ ([(wadd .i64 (List.getD a0.2.1 (Int.toNat s5.1) (0 : Int)) (1 : Int))] : List Int))).bind fun q16 =>
      guardP ((0 : Int) ≤ s5.1 ∧ s5.1 < lenI a0.2.2) (
       (slices_Clone (List.getD a0.2.2 (Int.toNat s5.1) ([] : List Int))).bind fun y19 =>
       guardP (List.length s5.2.2.2 + List.length ([y19] : List (List Int)) ≤ appMax) (
        some (.inl ((wadd .i64 s5.1 (1 : Int)), (s5.2.1 ++ ([(wsub .i64 (1 : Int) (List.getD a0.1 (Int.toNat s5.1) (0 : Int)))] : List Int)), q16, (s5.2.2.2 ++ ([y19] : List (List Int)))))))))))
 else
  some (.inr (s5.2.1, s5.2.2.1, s5.2.2.2))

noncomputable def impl_TurnGame (a0 : TyG) : Option ((TyG) × Bool) :=
 (show Option (Bool) from
  (impl_ValidGame (a0.1, a0.2.1, a0.2.2)).bind fun y23 =>
  bif (!y23) then
   some true
  else
   (slices_Contains___int64_int64 a0.2.1 (8 : Int)).bind fun y26 =>
   some y26).bind fun v1 =>
 bif v1 then
  some ((([] : List Int), ([] : List Int), ([] : List (List Int))), false)
 else
  (rounds (impl_TurnGame_B1 a0) ((0 : Int), ([] : List Int), ([] : List Int), ([] : List (List Int)))).bind fun r7 =>
  some ((r7.1, r7.2.1, r7.2.2), true)

theorem f51_ok {a0 : TyG} {r : (TyG) × Bool} (hr : impl_TurnGame a0 = some r) : CallOK Try.prog 51 [.imm tG a0] [⟨true, (.st (.pair tLI (.pair tLI (.sl (.own tI))))), r.1⟩, ⟨false, .bool, r.2⟩] [] := by
 unfold impl_TurnGame at hr
 refine CallOK.of_body (ts := [(true, (.st (.pair tLI (.pair tLI (.sl (.own tI)))))), (false, .bool)]) Try.func51 rfl (by kernel_rfl) (Nat.le_of_ble_eq_true (by kernel_rfl)) fun cx hP hN hO hF => ?_
 have hO : cx.own.map Prod.fst = [] := hO
 have hX := CxIs.mk hP hN hO
 have hF := hF rfl
 show HT cx ⟨[(0, .agg [nC a0.1, nC a0.2.1, .dat (.sl tLI) a0.2.2])], [], 0⟩ _ _
 refine HT.rg2 (oHs 3) ⟨[(1, pV 0 0), (2, pV 1 0)], [(1, .box [.nilS, .nilS, .nilS]), (0, .box [nC a0.1, nC a0.2.1, .dat (.sl tLI) a0.2.2])], 2⟩ hX (by kernel_rfl) aN ?_
 refine HT.seq ?_
 obtain ⟨v1', hT3, hr⟩ := of_bind hr
 refine HT.join (fun (v1 : Bool) => ⟨[(1, pV 0 0), (2, pV 1 0), (14, bV v1)], [(0, .box [nC a0.1, nC a0.2.1, .dat (.sl tLI) a0.2.2]), (1, .box [.nilS, .nilS, .nilS])], 2⟩) (fun v => v = v1') (fun v1 hv2 => ?_) (fun cont => ?_)
 ·subst hv2
  rcases of_bif hr with ⟨hb4, hr⟩ | ⟨hb4, hr⟩
  ·refine HT.cond1 rfl hb4 ?_
   refine HT.rg2 (oHs 3) ⟨[(2, pV 1 0), (3, bV false)], [(1, .box [.nilS, .nilS, .nilS])], 2⟩ hX (by kernel_rfl) aN ?_
   have hr := of_some hr
   subst hr
   exact HT.ret (qThenR ⟨[.agg [.nilS, .nilS, .nilS], bV false], [], [], by kernel_rfl, by kernel_rfl, rfl, by kernel_rfl, by kernel_rfl, trivial⟩)
  ·refine HT.cond0 rfl hb4 ?_
   refine HT.skip (qThen ?_)
   refine HT.rg2 (oHs 3) ⟨[(1, pV 0 0), (2, pV 1 0), (4, pV 2 0)], [(2, .box [.nilS, .nilS, .nilS]), (0, .box [nC a0.1, nC a0.2.1, .dat (.sl tLI) a0.2.2]), (1, .box [.nilS, .nilS, .nilS])], 3⟩ hX (by kernel_rfl) aN ?_
   refine HT.seq ?_
   refine HT.rg2 (oHs 4) ⟨[(1, pV 0 0), (2, pV 1 0), (4, pV 2 0), (18, nV a0.1), (19, iV (lenI a0.1)), (20, iV (0 : Int))], [(2, .box [.nilS, .nilS, .nilS]), (0, .box [nC a0.1, nC a0.2.1, .dat (.sl tLI) a0.2.2]), (1, .box [.nilS, .nilS, .nilS])], 3⟩ hX (by kernel_rfl) aN ?_
   refine HT.block ?_
   obtain ⟨r6, hL22, hr⟩ := of_bind hr
   refine HT.loopL (fun (s5 : Int × TyG) => ⟨[(1, pV 0 0), (2, pV 1 0), (4, pV 2 0), (18, nV a0.1), (19, iV (lenI a0.1)), (20, iV s5.1)], [(0, .box [nC a0.1, nC a0.2.1, .dat (.sl tLI) a0.2.2]), (1, .box [.nilS, .nilS, .nilS]), (2, .box [.all 3, .all 4, .all 5]), (3, .seq tI s5.2.1), (4, .seq tI s5.2.2.1), (5, .seq (.own tI) s5.2.2.2)], 6⟩) (fun (r7 : (TyG)) => (.exit 0, ⟨[(2, pV 0 0), (4, pV 1 0)], [(0, .box [.nilS, .nilS, .nilS]), (1, .box [.all 2, .all 3, .all 4]), (2, .seq tI r7.1), (3, .seq tI r7.2.1), (4, .seq (.own tI) r7.2.2)], 5⟩)) (Le.re [(0, 0), (1, 1), (2, 2)] [3, 4, 5] hX (by kernel_rfl)) hL22 ?_ (fun s5 x8 hx9 hk10 => ?_)
   ·refine (qBlockX (qThen ?_))
    refine HT.rg2 (oHs 3) ⟨[(2, pV 0 0), (3, bV true)], [(0, .box [.all 2, .all 3, .all 4]), (2, .seq tI r6.1), (3, .seq tI r6.2.1), (4, .seq (.own tI) r6.2.2)], 5⟩ hX (by kernel_rfl) aN ?_
    have hr := of_some hr
    subst hr
    exact HT.ret ⟨[.agg [.all 2, .all 3, .all 4], bV true], [2, 3, 4], [], by kernel_rfl, by kernel_rfl, rfl, by kernel_rfl, by kernel_rfl, trivial⟩
   ·refine HT.rg2 [oH] ⟨[(1, pV 0 0), (2, pV 1 0), (4, pV 2 0), (18, nV a0.1), (19, iV (lenI a0.1)), (20, iV s5.1), (21, bV (decide (s5.1 < (lenI a0.1))))], [(0, .box [nC a0.1, nC a0.2.1, .dat (.sl tLI) a0.2.2]), (1, .box [.nilS, .nilS, .nilS]), (2, .box [.all 3, .all 4, .all 5]), (3, .seq tI s5.2.1), (4, .seq tI s5.2.2.1), (5, .seq (.own tI) s5.2.2.2)], 6⟩ hX (by kernel_rfl) aN ?_
    refine HT.seq ?_
    rcases of_bif hx9 with ⟨hb11, hx9⟩ | ⟨hb11, hx9⟩
    ·refine HT.cond1 rfl hb11 ?_
     refine HT.skip (qThen ?_)
     refine HT.seq ?_
     refine HT.block ?_
     obtain ⟨hg12, hx9⟩ := of_guard hx9
     refine HT.rg2 (oHs 5) ⟨[(1, pV 0 0), (2, pV 1 0), (4, pV 2 0), (5, iV s5.1), (6, iV (List.getD a0.1 (Int.toNat s5.1) (0 : Int))), (18, nV a0.1), (19, iV (lenI a0.1)), (20, iV s5.1)], [(0, .box [nC a0.1, nC a0.2.1, .dat (.sl tLI) a0.2.2]), (1, .box [.nilS, .nilS, .nilS]), (2, .box [.all 3, .all 4, .all 5]), (3, .seq tI s5.2.1), (4, .seq tI s5.2.2.1), (5, .seq (.own tI) s5.2.2.2)], 6⟩ hX (by kernel_rfl) (aC hg12 aN) ?_
     obtain ⟨hg13, hx9⟩ := of_guard hx9
     refine HT.rg2 [oH, oH, oH, oH, ⟨none, .ty tI⟩, ⟨none, .ty tI⟩, oH, oH] ⟨[(1, pV 0 0), (2, pV 1 0), (4, pV 2 0), (5, iV s5.1), (18, nV a0.1), (19, iV (lenI a0.1)), (20, iV s5.1)], [(2, .box [.all 7, .all 4, .all 5]), (7, .seq tI (s5.2.1 ++ ([(wsub .i64 (1 : Int) (List.getD a0.1 (Int.toNat s5.1) (0 : Int)))] : List Int))), (0, .box [nC a0.1, nC a0.2.1, .dat (.sl tLI) a0.2.2]), (1, .box [.nilS, .nilS, .nilS]), (4, .seq tI s5.2.2.1), (5, .seq (.own tI) s5.2.2.2)], 8⟩ hX (by kernel_rfl) (aC hg13 aN) ?_
     obtain ⟨hg14, hx9⟩ := of_guard hx9
     obtain ⟨hg15, hx9⟩ := of_guard hx9
     refine HT.dr2 9 [⟨oH, []⟩, ⟨oH, [0]⟩, ⟨oH, []⟩, ⟨oH, [2]⟩, ⟨oH, []⟩, ⟨oH, [2, 3, 4]⟩, ⟨oH, [2, 3, 4, 5]⟩, ⟨oH, [2, 3, 4, 5, 6]⟩, ⟨⟨none, .ty tI⟩, [2, 3, 4, 5, 6, 7]⟩] [[0, 1, 2, 3, 4, 5, 6, 7, 8], [0, 1, 2, 3, 4, 5, 6, 7, 8, 9], [0, 1, 2, 3, 4, 5, 6, 7, 8, 9, 10]] [⟨none, .ty tI⟩, oH, oH] ⟨[(1, pV 0 0), (2, pV 1 0), (4, pV 2 0), (5, iV s5.1), (18, nV a0.1), (19, iV (lenI a0.1)), (20, iV s5.1)], [(2, .box [.all 7, .all 9, .all 5]), (9, .seq tI (s5.2.2.1 ++ ([(wadd .i64 (List.getD a0.2.1 (Int.toNat s5.1) (0 : Int)) (1 : Int))] : List Int))), (7, .seq tI (s5.2.1 ++ ([(wsub .i64 (1 : Int) (List.getD a0.1 (Int.toNat s5.1) (0 : Int)))] : List Int))), (0, .box [nC a0.1, nC a0.2.1, .dat (.sl tLI) a0.2.2]), (1, .box [.nilS, .nilS, .nilS]), (5, .seq (.own tI) s5.2.2.2)], 10⟩ hX (by kernel_rfl) (by kernel_rfl) (aC hg14 (aC hg15 aN)) ?_
     obtain ⟨q16, hq17, hx9⟩ := of_bind hx9
     have hq17 := of_some2 hq17
     refine (Le.cv (s := ⟨[(2, 2), (9, 9), (7, 7), (0, 0), (1, 1), (5, 5)], [], [], false⟩) (own := []) (ps := [s5.1 = s5.1, a0.1 = a0.1, (lenI a0.1) = (lenI a0.1), s5.1 = s5.1, q16 = (s5.2.2.1 ++ ([(wadd .i64 (List.getD a0.2.1 (Int.toNat s5.1) (0 : Int)) (1 : Int))] : List Int)), (s5.2.1 ++ ([(wsub .i64 (1 : Int) (List.getD a0.1 (Int.toNat s5.1) (0 : Int)))] : List Int)) = (s5.2.1 ++ ([(wsub .i64 (1 : Int) (List.getD a0.1 (Int.toNat s5.1) (0 : Int)))] : List Int)), a0.1 = a0.1, a0.2.1 = a0.2.1, a0.2.2 = a0.2.2, s5.2.2.2 = s5.2.2.2]) (st' := ⟨[(1, pV 0 0), (2, pV 1 0), (4, pV 2 0), (5, iV s5.1), (18, nV a0.1), (19, iV (lenI a0.1)), (20, iV s5.1)], [(2, .box [.all 7, .all 9, .all 5]), (9, .seq tI q16), (7, .seq tI (s5.2.1 ++ ([(wsub .i64 (1 : Int) (List.getD a0.1 (Int.toNat s5.1) (0 : Int)))] : List Int))), (0, .box [nC a0.1, nC a0.2.1, .dat (.sl tLI) a0.2.2]), (1, .box [.nilS, .nilS, .nilS]), (5, .seq (.own tI) s5.2.2.2)], 10⟩) hO (fun h => by cases h) (by kernel_rfl) ⟨rfl, rfl, rfl, rfl, hq17, rfl, rfl, rfl, rfl, rfl, trivial⟩).ht ?_
     obtain ⟨hg18, hx9⟩ := of_guard hx9
     obtain ⟨y19, hc20, hx9⟩ := of_bind hx9
     obtain ⟨hg21, hx9⟩ := of_guard hx9
     refine HT.drL 9 [⟨oH, []⟩, ⟨oH, [0]⟩, ⟨oH, []⟩, ⟨oH, [2]⟩, ⟨oH, []⟩, ⟨oH, [2, 3, 4]⟩, ⟨oH, [2, 3, 4, 5]⟩, ⟨⟨none, .call [.imm tLI] [⟨true, tLI, y19⟩] []⟩, [2, 3, 4, 5, 6]⟩, ⟨⟨none, .ty (.own tI)⟩, [2, 3, 4, 5, 6, 7]⟩] [[0, 1, 2, 3, 4, 5, 6, 7, 8], [0, 1, 2, 3, 4, 5, 6, 7, 8, 9], [0, 1, 2, 3, 4, 5, 6, 7, 8, 9, 10]] [⟨none, .ty (.own tI)⟩, oH, oH] ⟨[(1, pV 0 0), (2, pV 1 0), (4, pV 2 0), (18, nV a0.1), (19, iV (lenI a0.1)), (20, iV s5.1)], [(2, .box [.all 7, .all 9, .all 12]), (12, .seq (.own tI) (s5.2.2.2 ++ ([y19] : List (List Int)))), (9, .seq tI q16), (7, .seq tI (s5.2.1 ++ ([(wsub .i64 (1 : Int) (List.getD a0.1 (Int.toNat s5.1) (0 : Int)))] : List Int))), (0, .box [nC a0.1, nC a0.2.1, .dat (.sl tLI) a0.2.2]), (1, .box [.nilS, .nilS, .nilS])], 13⟩ hX (by kernel_rfl) (by kernel_rfl) (aC hg18 (aC (f105_ok hc20) (aC hg21 aN))) (qBlock (qThen ?_))
     have hx9 := of_some hx9
     subst hx9
     exact HT.rgK (oHs 2) [(0, 0), (1, 1), (2, 2), (7, 3), (9, 4), (12, 5)] [] hX (by kernel_rfl) aN (fun _ h => (qLoopN ⟨((wadd .i64 s5.1 (1 : Int)), (s5.2.1 ++ ([(wsub .i64 (1 : Int) (List.getD a0.1 (Int.toNat s5.1) (0 : Int)))] : List Int)), q16, (s5.2.2.2 ++ ([y19] : List (List Int)))), rfl, h⟩))
    ·refine HT.cond0 rfl hb11 ?_
     have hx9 := of_some hx9
     subst hx9
     exact HT.exitL (Le.re [(1, 0), (2, 1), (3, 2), (4, 3), (5, 4)] [] hX (by kernel_rfl)) (qThenE (qLoopE (hk10 (s5.2.1, s5.2.2.1, s5.2.2.2) rfl)))
 ·obtain ⟨y23, hc24, hT3⟩ := of_bind hT3
  rcases of_bif hT3 with ⟨hb25, hT3⟩ | ⟨hb25, hT3⟩
  ·exact HT.rgK [oH, ⟨none, .call [.imm tG] [⟨false, .bool, y23⟩] []⟩, oH, oH, oT, oT, oT, vT] [(0, 0), (1, 1)] [] hX (by kernel_rfl) (aC (f53_ok hc24) (aC hb25 (aC hb25 (aC hb25 (aC hb25 aN))))) (fun _ h => (qThen (h.ht (cont true (of_some hT3)))))
  ·obtain ⟨y26, hc27, hT3⟩ := of_bind hT3
   exact HT.rgK [oH, ⟨none, .call [.imm tG] [⟨false, .bool, y23⟩] []⟩, oH, oH, oF, oF, ⟨some false, .call [.imm tLI, .imm tI] [⟨false, .bool, y26⟩] []⟩, vF] [(0, 0), (1, 1)] [] hX (by kernel_rfl) (aC (f53_ok hc24) (aC hb25 (aC hb25 (aC hb25 (aC (f132_ok hc27) (aC hb25 aN)))))) (fun _ h => (qThen (h.ht (cont y26 (of_some hT3)))))

noncomputable def laws_b10At (a0 : List Int) (a1 : Int) (a2 : Int) : Option (Int) :=
 bif (decide (a2 ≤ (1 : Int))) then
  some (0 : Int)
 else
  bif (decide (a1 < (lenI a0))) then
   guardP ((0 : Int) ≤ a1 ∧ a1 < lenI a0) (
    guardP (a2 ≠ 0) (
     some (Int.tmod (IntKind.wrap .i64 (List.getD a0 (Int.toNat a1) (0 : Int))) a2)))
  else
   guardP (a2 ≠ 0) (
    some (Int.tmod (wadd .i64 (wmul .i64 a1 (37 : Int)) (11 : Int)) a2))

theorem f19_ok {a0 : List Int} {a1 : Int} {a2 : Int} {r : Int} (hr : laws_b10At a0 a1 a2 = some r) : CallOK Try.prog 19 [.imm (.sl (.int .u8)) a0, .imm tI a1, .imm tI a2] [⟨false, tI, r⟩] [] := by
 unfold laws_b10At at hr
 refine CallOK.of_body (ts := [(false, tI)]) Try.func19 rfl (by kernel_rfl) (Nat.le_of_ble_eq_true (by kernel_rfl)) fun cx hP hN hO hF => ?_
 have hO : cx.own.map Prod.fst = [] := hO
 have hX := CxIs.mk hP hN hO
 have hF := hF rfl
 show HT cx ⟨[(0, .one (.dat (.sl (.int .u8)) a0)), (1, iV a1), (2, iV a2)], [], 0⟩ _ _
 refine HT.rg2 [oH] ⟨[(0, .one (.dat (.sl (.int .u8)) a0)), (1, iV a1), (2, iV a2)], [], 0⟩ hX (by kernel_rfl) aN ?_
 refine HT.seq ?_
 refine HT.rg2 (oHs 2) ⟨[(0, .one (.dat (.sl (.int .u8)) a0)), (1, iV a1), (2, iV a2), (8, bV (decide (a2 ≤ (1 : Int))))], [], 0⟩ hX (by kernel_rfl) aN ?_
 rcases of_bif hr with ⟨hb1, hr⟩ | ⟨hb1, hr⟩
 ·refine HT.cond1 rfl hb1 ?_
  refine HT.rg2 [oH] ⟨[(6, iV (0 : Int))], [], 0⟩ hX (by kernel_rfl) aN ?_
  have hr := of_some hr
  subst hr
  exact HT.ret (qThenR ⟨[iV (0 : Int)], [], [], by kernel_rfl, by kernel_rfl, rfl, by kernel_rfl, by kernel_rfl, trivial⟩)
 ·refine HT.cond0 rfl hb1 ?_
  refine HT.skip (qThen ?_)
  refine HT.seq ?_
  refine HT.rg2 (oHs 4) ⟨[(0, .one (.dat (.sl (.int .u8)) a0)), (1, iV a1), (2, iV a2), (12, bV (decide (a1 < (lenI a0))))], [], 0⟩ hX (by kernel_rfl) aN ?_
  rcases of_bif hr with ⟨hb2, hr⟩ | ⟨hb2, hr⟩
  ·refine HT.cond1 rfl hb2 ?_
   obtain ⟨hg3, hr⟩ := of_guard hr
   obtain ⟨hg4, hr⟩ := of_guard hr
   refine HT.rg2 (oHs 8) ⟨[(6, iV (Int.tmod (IntKind.wrap .i64 (List.getD a0 (Int.toNat a1) (0 : Int))) a2))], [], 0⟩ hX (by kernel_rfl) (aC hg3 (aC hg4 aN)) ?_
   have hr := of_some hr
   subst hr
   exact HT.ret (qThenR ⟨[iV (Int.tmod (IntKind.wrap .i64 (List.getD a0 (Int.toNat a1) (0 : Int))) a2)], [], [], by kernel_rfl, by kernel_rfl, rfl, by kernel_rfl, by kernel_rfl, trivial⟩)
  ·refine HT.cond0 rfl hb2 ?_
   refine HT.skip (qThen ?_)
   obtain ⟨hg5, hr⟩ := of_guard hr
   refine HT.rg2 (oHs 6) ⟨[(6, iV (Int.tmod (wadd .i64 (wmul .i64 a1 (37 : Int)) (11 : Int)) a2))], [], 0⟩ hX (by kernel_rfl) (aC hg5 aN) ?_
   have hr := of_some hr
   subst hr
   exact HT.ret ⟨[iV (Int.tmod (wadd .i64 (wmul .i64 a1 (37 : Int)) (11 : Int)) a2)], [], [], by kernel_rfl, by kernel_rfl, rfl, by kernel_rfl, by kernel_rfl, trivial⟩

noncomputable def impl_GamesShared_B1 (a0 : List (TyG)) (s5 : Int × List (List Int)) : Option ((Int × List (List Int)) ⊕ (List (List Int) ⊕ Unit)) :=
 bif (decide (s5.1 < (lenI a0))) then
  guardP ((0 : Int) ≤ s5.1 ∧ s5.1 < lenI a0) (
   (some ((List.getD a0 (Int.toNat s5.1) (([] : List Int), ([] : List Int), ([] : List (List Int)))).1)).bind fun q14 =>
   (some (((List.getD a0 (Int.toNat s5.1) (([] : List Int), ([] : List Int), ([] : List (List Int)))).2).1)).bind fun q16 =>
   (some (((List.getD a0 (Int.toNat s5.1) (([] : List Int), ([] : List Int), ([] : List (List Int)))).2).2)).bind fun q18 =>
   (impl_SolveGame (q14, q16, q18)).bind fun y20 =>
   bif (!y20.2) then
    some (.inr (.inr ()))
   else
    guardP (List.length s5.2 + List.length ([y20.1] : List (List Int)) ≤ appMax) (
     some (.inl ((wadd .i64 s5.1 (1 : Int)), (s5.2 ++ ([y20.1] : List (List Int)))))))
 else
  some (.inr (.inl s5.2))

noncomputable def impl_GamesShared (a0 : List (TyG)) (a1 : Int) : Option (List (List Int) × Bool) :=
 (show Option (Bool) from
  bif (decide ((lenI a0) > (8 : Int))) then
   some true
  else
   (impl_within a1 (1 : Int) (8 : Int)).bind fun y26 =>
   some (!y26)).bind fun v1 =>
 bif v1 then
  some (([] : List (List Int)), false)
 else
  (rounds (impl_GamesShared_B1 a0) ((0 : Int), ([] : List (List Int)))).bind fun r6 => match r6 with
   | .inl r7 =>
    some (r7, true)
   | .inr r8 =>
    some (([] : List (List Int)), false)

theorem f52_ok {a0 : List (TyG)} {a1 : Int} {r : List (List Int) × Bool} (hr : impl_GamesShared a0 a1 = some r) : CallOK Try.prog 52 [.imm (.sl tG) a0, .imm tI a1] [⟨true, (.sl (.own tI)), r.1⟩, ⟨false, .bool, r.2⟩] [] := by
 unfold impl_GamesShared at hr
 refine CallOK.of_body (ts := [(true, (.sl (.own tI))), (false, .bool)]) Try.func52 rfl (by kernel_rfl) (Nat.le_of_ble_eq_true (by kernel_rfl)) fun cx hP hN hO hF => ?_
 have hO : cx.own.map Prod.fst = [] := hO
 have hX := CxIs.mk hP hN hO
 have hF := hF rfl
 show HT cx ⟨[(0, .one (.dat (.sl tG) a0)), (1, iV a1)], [], 0⟩ _ _
 refine HT.rg2 (oHs 2) ⟨[(0, .one (.dat (.sl tG) a0)), (1, iV a1)], [], 0⟩ hX (by kernel_rfl) aN ?_
 refine HT.seq ?_
 obtain ⟨v1', hT3, hr⟩ := of_bind hr
 refine HT.join (fun (v1 : Bool) => ⟨[(0, .one (.dat (.sl tG) a0)), (18, bV v1)], [], 0⟩) (fun v => v = v1') (fun v1 hv2 => ?_) (fun cont => ?_)
 ·subst hv2
  rcases of_bif hr with ⟨hb4, hr⟩ | ⟨hb4, hr⟩
  ·refine HT.cond1 rfl hb4 ?_
   refine HT.rg2 (oHs 2) ⟨[(4, .one (.nilS)), (5, bV false)], [], 0⟩ hX (by kernel_rfl) aN ?_
   have hr := of_some hr
   subst hr
   exact HT.ret (qThenR ⟨[.one (.nilS), bV false], [], [], by kernel_rfl, by kernel_rfl, rfl, by kernel_rfl, by kernel_rfl, trivial⟩)
  ·refine HT.cond0 rfl hb4 ?_
   refine HT.skip (qThen ?_)
   refine HT.rg2 (oHs 2) ⟨[(0, .one (.dat (.sl tG) a0)), (6, .one (.nilS))], [], 0⟩ hX (by kernel_rfl) aN ?_
   refine HT.seq ?_
   refine HT.rg2 (oHs 3) ⟨[(6, .one (.nilS)), (20, .one (.dat (.sl tG) a0)), (21, iV (lenI a0)), (22, iV (0 : Int))], [], 0⟩ hX (by kernel_rfl) aN ?_
   refine HT.block ?_
   obtain ⟨r6, hL24, hr⟩ := of_bind hr
   refine HT.loopL (fun (s5 : Int × List (List Int)) => ⟨[(6, aV 0), (20, .one (.dat (.sl tG) a0)), (21, iV (lenI a0)), (22, iV s5.1)], [(0, .seq (.own tI) s5.2)], 1⟩) (fun (r6 : List (List Int) ⊕ Unit) => match r6 with | .inl r7 => (.exit 0, ⟨[(6, aV 0)], [(0, .seq (.own tI) r7)], 1⟩) | .inr r8 => (.ret, ⟨[(4, .one (.nilS)), (5, bV false)], [], 0⟩)) (Le.re [] [0] hX (by kernel_rfl)) hL24 ?_ (fun s5 x9 hx10 hk11 => ?_)
   ·rcases r6 with r7 | r8
    ·refine (qBlockX (qThen ?_))
     refine HT.rg2 (oHs 3) ⟨[(4, aV 0), (5, bV true)], [(0, .seq (.own tI) r7)], 1⟩ hX (by kernel_rfl) aN ?_
     have hr := of_some hr
     subst hr
     exact HT.ret ⟨[aV 0, bV true], [0], [], by kernel_rfl, by kernel_rfl, rfl, by kernel_rfl, by kernel_rfl, trivial⟩
    ·have hr := of_some hr
     subst hr
     exact (qBlockR (qThenR ⟨[.one (.nilS), bV false], [], [], by kernel_rfl, by kernel_rfl, rfl, by kernel_rfl, by kernel_rfl, trivial⟩))
   ·refine HT.rg2 [oH] ⟨[(6, aV 0), (20, .one (.dat (.sl tG) a0)), (21, iV (lenI a0)), (22, iV s5.1), (23, bV (decide (s5.1 < (lenI a0))))], [(0, .seq (.own tI) s5.2)], 1⟩ hX (by kernel_rfl) aN ?_
    refine HT.seq ?_
    rcases of_bif hx10 with ⟨hb12, hx10⟩ | ⟨hb12, hx10⟩
    ·refine HT.cond1 rfl hb12 ?_
     refine HT.skip (qThen ?_)
     refine HT.seq ?_
     refine HT.block ?_
     obtain ⟨hg13, hx10⟩ := of_guard hx10
     refine HT.rg2 (oHs 4) ⟨[(6, aV 0), (8, pV 1 0), (20, .one (.dat (.sl tG) a0)), (21, iV (lenI a0)), (22, iV s5.1)], [(1, .box [nC ((List.getD a0 (Int.toNat s5.1) (([] : List Int), ([] : List Int), ([] : List (List Int)))).1), nC (((List.getD a0 (Int.toNat s5.1) (([] : List Int), ([] : List Int), ([] : List (List Int)))).2).1), .dat (.sl tLI) (((List.getD a0 (Int.toNat s5.1) (([] : List Int), ([] : List Int), ([] : List (List Int)))).2).2)]), (0, .seq (.own tI) s5.2)], 2⟩ hX (by kernel_rfl) (aC hg13 aN) ?_
     obtain ⟨q14, hq15, hx10⟩ := of_bind hx10
     have hq15 := of_some2 hq15
     obtain ⟨q16, hq17, hx10⟩ := of_bind hx10
     have hq17 := of_some2 hq17
     obtain ⟨q18, hq19, hx10⟩ := of_bind hx10
     have hq19 := of_some2 hq19
     refine (Le.cv (s := ⟨[(1, 1), (0, 0)], [], [], false⟩) (own := []) (ps := [a0 = a0, (lenI a0) = (lenI a0), s5.1 = s5.1, q14 = (List.getD a0 (Int.toNat s5.1) (([] : List Int), ([] : List Int), ([] : List (List Int)))).1, q16 = ((List.getD a0 (Int.toNat s5.1) (([] : List Int), ([] : List Int), ([] : List (List Int)))).2).1, q18 = ((List.getD a0 (Int.toNat s5.1) (([] : List Int), ([] : List Int), ([] : List (List Int)))).2).2, s5.2 = s5.2]) (st' := ⟨[(6, aV 0), (8, pV 1 0), (20, .one (.dat (.sl tG) a0)), (21, iV (lenI a0)), (22, iV s5.1)], [(1, .box [nC q14, nC q16, .dat (.sl tLI) q18]), (0, .seq (.own tI) s5.2)], 2⟩) hO (fun h => by cases h) (by kernel_rfl) ⟨rfl, rfl, rfl, hq15, hq17, hq19, rfl, trivial⟩).ht ?_
     obtain ⟨y20, hc21, hx10⟩ := of_bind hx10
     refine HT.rg2 [oH, ⟨none, .call [.imm tG] [⟨true, tLI, y20.1⟩, ⟨false, .bool, y20.2⟩] []⟩, oH, oH, oH, oH, oH] ⟨[(6, aV 0), (9, aV 2), (10, bV y20.2), (20, .one (.dat (.sl tG) a0)), (21, iV (lenI a0)), (22, iV s5.1)], [(2, .seq tI y20.1), (0, .seq (.own tI) s5.2)], 3⟩ hX (by kernel_rfl) (aC (f47_ok hc21) aN) ?_
     refine HT.seq ?_
     refine HT.rg2 (oHs 2) ⟨[(6, aV 0), (9, aV 2), (20, .one (.dat (.sl tG) a0)), (21, iV (lenI a0)), (22, iV s5.1), (32, bV (!y20.2))], [(2, .seq tI y20.1), (0, .seq (.own tI) s5.2)], 3⟩ hX (by kernel_rfl) aN ?_
     rcases of_bif hx10 with ⟨hb22, hx10⟩ | ⟨hb22, hx10⟩
     ·refine HT.cond1 rfl hb22 ?_
      refine HT.rg2 (oHs 2) ⟨[(4, .one (.nilS)), (5, bV false)], [], 3⟩ hX (by kernel_rfl) aN ?_
      have hx10 := of_some hx10
      subst hx10
      exact HT.retL (Le.re [] [] hX (by kernel_rfl)) (qThenR (qBlockR (qThenR (qLoopR (hk11 (.inr ()) rfl)))))
     ·refine HT.cond0 rfl hb22 ?_
      refine HT.skip (qThen ?_)
      obtain ⟨hg23, hx10⟩ := of_guard hx10
      refine HT.rgL [oH, oH, ⟨none, .ty (.own tI)⟩, ⟨none, .ty (.own tI)⟩, oH] ⟨[(6, aV 4), (20, .one (.dat (.sl tG) a0)), (21, iV (lenI a0)), (22, iV s5.1)], [(4, .seq (.own tI) (s5.2 ++ ([y20.1] : List (List Int))))], 5⟩ hX (by kernel_rfl) (aC hg23 aN) (qBlock (qThen ?_))
      have hx10 := of_some hx10
      subst hx10
      exact HT.rgK (oHs 2) [(4, 0)] [] hX (by kernel_rfl) aN (fun _ h => (qLoopN ⟨((wadd .i64 s5.1 (1 : Int)), (s5.2 ++ ([y20.1] : List (List Int)))), rfl, h⟩))
    ·refine HT.cond0 rfl hb12 ?_
     have hx10 := of_some hx10
     subst hx10
     exact HT.exitL (Le.re [(0, 0)] [] hX (by kernel_rfl)) (qThenE (qLoopE (hk11 (.inl s5.2) rfl)))
 ·rcases of_bif hT3 with ⟨hb25, hT3⟩ | ⟨hb25, hT3⟩
  ·exact HT.rgK [oH, oH, oH, oH, oT, oT, oT, vT] [] [] hX (by kernel_rfl) (aC hb25 (aC hb25 (aC hb25 (aC hb25 aN)))) (fun _ h => (qThen (h.ht (cont true (of_some hT3)))))
  ·obtain ⟨y26, hc27, hT3⟩ := of_bind hT3
   exact HT.rgK [oH, oH, oH, oH, oF, ⟨some false, .call [.imm tI, .imm tI, .imm tI] [⟨false, .bool, y26⟩] []⟩, oF, vF] [] [] hX (by kernel_rfl) (aC hb25 (aC hb25 (aC (f111_ok hc27) (aC hb25 (aC hb25 aN))))) (fun _ h => (qThen (h.ht (cont (!y26) (of_some hT3)))))

noncomputable def impl_bitsOf_B1 (a0 : Int) (a1 : Int) (s2 : Int × List Bool) : Option ((Int × List Bool) ⊕ (List Bool)) :=
 bif (decide (s2.1 < (lenI (List.replicate (Int.toNat a1) false)))) then
  guardP ((0 : Int) ≤ s2.1) (
   guardP ((0 : Int) ≤ s2.1 ∧ s2.1 < lenI s2.2) (
    some (.inl ((wadd .i64 s2.1 (1 : Int)), (List.set s2.2 (Int.toNat s2.1) ((IntKind.wrap .u32 (BitVec.ofInt (IntKind.bits .u32) (Int.fdiv a0 (2 ^ (min (Int.toNat s2.1) (IntKind.bits .u32)))) &&& BitVec.ofInt (IntKind.bits .u32) (1 : Int)).toNat) == (1 : Int)))))))
 else
  some (.inr s2.2)

noncomputable def impl_bitsOf (a0 : Int) (a1 : Int) : Option (List Bool) :=
 guardP ((0 : Int) ≤ a1 ∧ a1 ≤ 4294967296) (
  (rounds (impl_bitsOf_B1 a0 a1) ((0 : Int), (List.replicate (Int.toNat a1) false))).bind fun r4 =>
  some r4)

theorem f139_ok {a0 : Int} {a1 : Int} {r : List Bool} (hr : impl_bitsOf a0 a1 = some r) : CallOK Try.prog 139 [.imm (.int .u32) a0, .imm tI a1] [⟨true, (.sl .bool), r⟩] [] := by
 unfold impl_bitsOf at hr
 refine CallOK.of_body (ts := [(true, (.sl .bool))]) Try.func139 rfl (by kernel_rfl) (Nat.le_of_ble_eq_true (by kernel_rfl)) fun cx hP hN hO hF => ?_
 have hO : cx.own.map Prod.fst = [] := hO
 have hX := CxIs.mk hP hN hO
 have hF := hF rfl
 show HT cx ⟨[(0, .one (.dat (.int .u32) a0)), (1, iV a1)], [], 0⟩ _ _
 refine HT.rg2 [oH] ⟨[(0, .one (.dat (.int .u32) a0)), (1, iV a1)], [], 0⟩ hX (by kernel_rfl) aN ?_
 obtain ⟨hg1, hr⟩ := of_guard hr
 refine HT.rg2 [oH, ⟨none, .ty .bool⟩, oH] ⟨[(0, .one (.dat (.int .u32) a0)), (5, aV 0)], [(0, .seq .bool (List.replicate (Int.toNat a1) false))], 1⟩ hX (by kernel_rfl) (aC (show (0 : Int) ≤ a1 ∧ a1 ≤ a1 ∧ a1 ≤ 4294967296 from ⟨hg1.1, Int.le_refl _, hg1.2⟩) aN) ?_
 refine HT.seq ?_
 refine HT.rg2 (oHs 3) ⟨[(0, .one (.dat (.int .u32) a0)), (5, aV 0), (10, iV (lenI (List.replicate (Int.toNat a1) false))), (11, iV (0 : Int))], [(0, .seq .bool (List.replicate (Int.toNat a1) false))], 1⟩ hX (by kernel_rfl) aN ?_
 refine HT.block ?_
 obtain ⟨r3, hL11, hr⟩ := of_bind hr
 refine HT.loopL (fun (s2 : Int × List Bool) => ⟨[(0, .one (.dat (.int .u32) a0)), (5, aV 0), (10, iV (lenI (List.replicate (Int.toNat a1) false))), (11, iV s2.1)], [(0, .seq .bool s2.2)], 1⟩) (fun (r4 : List Bool) => (.exit 0, ⟨[(5, aV 0)], [(0, .seq .bool r4)], 1⟩)) (Le.re [(0, 0)] [] hX (by kernel_rfl)) hL11 ?_ (fun s2 x5 hx6 hk7 => ?_)
 ·refine (qBlockX (qThen ?_))
  refine HT.rg2 (oHs 2) ⟨[(4, aV 0)], [(0, .seq .bool r3)], 1⟩ hX (by kernel_rfl) aN ?_
  have hr := of_some hr
  subst hr
  exact HT.ret ⟨[aV 0], [0], [], by kernel_rfl, by kernel_rfl, rfl, by kernel_rfl, by kernel_rfl, trivial⟩
 ·refine HT.rg2 [oH] ⟨[(0, .one (.dat (.int .u32) a0)), (5, aV 0), (10, iV (lenI (List.replicate (Int.toNat a1) false))), (11, iV s2.1), (12, bV (decide (s2.1 < (lenI (List.replicate (Int.toNat a1) false)))))], [(0, .seq .bool s2.2)], 1⟩ hX (by kernel_rfl) aN ?_
  refine HT.seq ?_
  rcases of_bif hx6 with ⟨hb8, hx6⟩ | ⟨hb8, hx6⟩
  ·refine HT.cond1 rfl hb8 ?_
   refine HT.skip (qThen ?_)
   refine HT.seq ?_
   refine HT.block ?_
   refine HT.rg2 (oHs 2) ⟨[(0, .one (.dat (.int .u32) a0)), (5, aV 0), (6, iV s2.1), (10, iV (lenI (List.replicate (Int.toNat a1) false))), (11, iV s2.1)], [(0, .seq .bool s2.2)], 1⟩ hX (by kernel_rfl) aN ?_
   obtain ⟨hg9, hx6⟩ := of_guard hx6
   obtain ⟨hg10, hx6⟩ := of_guard hx6
   refine HT.rgL (oHs 9) ⟨[(0, .one (.dat (.int .u32) a0)), (5, aV 0), (10, iV (lenI (List.replicate (Int.toNat a1) false))), (11, iV s2.1)], [(0, .seq .bool (List.set s2.2 (Int.toNat s2.1) ((IntKind.wrap .u32 (BitVec.ofInt (IntKind.bits .u32) (Int.fdiv a0 (2 ^ (min (Int.toNat s2.1) (IntKind.bits .u32)))) &&& BitVec.ofInt (IntKind.bits .u32) (1 : Int)).toNat) == (1 : Int))))], 1⟩ hX (by kernel_rfl) (aC hg9 (aC hg10 (aC (natLt hg10) aN))) (qBlock (qThen ?_))
   have hx6 := of_some hx6
   subst hx6
   exact HT.rgK (oHs 2) [(0, 0)] [] hX (by kernel_rfl) aN (fun _ h => (qLoopN ⟨((wadd .i64 s2.1 (1 : Int)), (List.set s2.2 (Int.toNat s2.1) ((IntKind.wrap .u32 (BitVec.ofInt (IntKind.bits .u32) (Int.fdiv a0 (2 ^ (min (Int.toNat s2.1) (IntKind.bits .u32)))) &&& BitVec.ofInt (IntKind.bits .u32) (1 : Int)).toNat) == (1 : Int)))), rfl, h⟩))
  ·refine HT.cond0 rfl hb8 ?_
   have hx6 := of_some hx6
   subst hx6
   exact HT.exitL (Le.re [(0, 0)] [] hX (by kernel_rfl)) (qThenE (qLoopE (hk7 s2.2 rfl)))

noncomputable def impl_indicesOf_B1 (a0 : List Bool) (s1 : Int × List Int) : Option ((Int × List Int) ⊕ (List Int)) :=
 bif (decide (s1.1 < (lenI a0))) then
  (show Option (List Int) from
   guardP ((0 : Int) ≤ s1.1 ∧ s1.1 < lenI a0) (
    bif (List.getD a0 (Int.toNat s1.1) false) then
     guardP (List.length s1.2 + List.length ([s1.1] : List Int) ≤ appMax) (
      some (s1.2 ++ ([s1.1] : List Int)))
    else
     some s1.2)).bind fun v8 =>
  some (.inl ((wadd .i64 s1.1 (1 : Int)), v8))
 else
  some (.inr s1.2)

noncomputable def impl_indicesOf (a0 : List Bool) : Option (List Int) :=
 (rounds (impl_indicesOf_B1 a0) ((0 : Int), ([] : List Int))).bind fun r3 =>
 some r3

theorem f119_ok {a0 : List Bool} {r : List Int} (hr : impl_indicesOf a0 = some r) : CallOK Try.prog 119 [.imm (.sl .bool) a0] [⟨true, tLI, r⟩] [] := by
 unfold impl_indicesOf at hr
 refine CallOK.of_body (ts := [(true, tLI)]) Try.func119 rfl (by kernel_rfl) (Nat.le_of_ble_eq_true (by kernel_rfl)) fun cx hP hN hO hF => ?_
 have hO : cx.own.map Prod.fst = [] := hO
 have hX := CxIs.mk hP hN hO
 have hF := hF rfl
 show HT cx ⟨[(0, .one (.dat (.sl .bool) a0))], [], 0⟩ _ _
 refine HT.rg2 [oH] ⟨[(0, .one (.dat (.sl .bool) a0))], [], 0⟩ hX (by kernel_rfl) aN ?_
 refine HT.rg2 (oHs 2) ⟨[(0, .one (.dat (.sl .bool) a0)), (3, .one (.nilS))], [], 0⟩ hX (by kernel_rfl) aN ?_
 refine HT.seq ?_
 refine HT.rg2 (oHs 3) ⟨[(3, .one (.nilS)), (7, .one (.dat (.sl .bool) a0)), (8, iV (lenI a0)), (9, iV (0 : Int))], [], 0⟩ hX (by kernel_rfl) aN ?_
 refine HT.block ?_
 obtain ⟨r2, hL14, hr⟩ := of_bind hr
 refine HT.loopL (fun (s1 : Int × List Int) => ⟨[(3, aV 0), (7, .one (.dat (.sl .bool) a0)), (8, iV (lenI a0)), (9, iV s1.1)], [(0, .seq tI s1.2)], 1⟩) (fun (r3 : List Int) => (.exit 0, ⟨[(3, aV 0)], [(0, .seq tI r3)], 1⟩)) (Le.re [] [0] hX (by kernel_rfl)) hL14 ?_ (fun s1 x4 hx5 hk6 => ?_)
 ·refine (qBlockX (qThen ?_))
  refine HT.rg2 (oHs 2) ⟨[(2, aV 0)], [(0, .seq tI r2)], 1⟩ hX (by kernel_rfl) aN ?_
  have hr := of_some hr
  subst hr
  exact HT.ret ⟨[aV 0], [0], [], by kernel_rfl, by kernel_rfl, rfl, by kernel_rfl, by kernel_rfl, trivial⟩
 ·refine HT.rg2 [oH] ⟨[(3, aV 0), (7, .one (.dat (.sl .bool) a0)), (8, iV (lenI a0)), (9, iV s1.1), (10, bV (decide (s1.1 < (lenI a0))))], [(0, .seq tI s1.2)], 1⟩ hX (by kernel_rfl) aN ?_
  refine HT.seq ?_
  rcases of_bif hx5 with ⟨hb7, hx5⟩ | ⟨hb7, hx5⟩
  ·refine HT.cond1 rfl hb7 ?_
   refine HT.skip (qThen ?_)
   obtain ⟨v8', hT10, hx5⟩ := of_bind hx5
   refine HT.join (fun (v8 : List Int) => ⟨[(3, aV 0), (7, .one (.dat (.sl .bool) a0)), (8, iV (lenI a0)), (9, iV s1.1)], [(0, .seq tI v8)], 1⟩) (fun v => v = v8') (fun v8 hv9 => ?_) (fun cont => ?_)
   ·subst hv9
    have hx5 := of_some hx5
    subst hx5
    exact HT.rgK (oHs 2) [(0, 0)] [] hX (by kernel_rfl) aN (fun _ h => (qLoopN ⟨((wadd .i64 s1.1 (1 : Int)), v8), rfl, h⟩))
   ·refine HT.block ?_
    obtain ⟨hg11, hT10⟩ := of_guard hT10
    refine HT.rg2 (oHs 5) ⟨[(3, aV 0), (4, iV s1.1), (5, bV (List.getD a0 (Int.toNat s1.1) false)), (7, .one (.dat (.sl .bool) a0)), (8, iV (lenI a0)), (9, iV s1.1)], [(0, .seq tI s1.2)], 1⟩ hX (by kernel_rfl) (aC hg11 aN) ?_
    refine HT.rg2 [oH] ⟨[(3, aV 0), (4, iV s1.1), (7, .one (.dat (.sl .bool) a0)), (8, iV (lenI a0)), (9, iV s1.1), (14, bV (List.getD a0 (Int.toNat s1.1) false))], [(0, .seq tI s1.2)], 1⟩ hX (by kernel_rfl) aN ?_
    rcases of_bif hT10 with ⟨hb12, hT10⟩ | ⟨hb12, hT10⟩
    ·refine HT.cond1 rfl hb12 ?_
     obtain ⟨hg13, hT10⟩ := of_guard hT10
     exact HT.rgK [oH, oH, ⟨none, .ty tI⟩, ⟨none, .ty tI⟩, oH] [(2, 0)] [] hX (by kernel_rfl) (aC hg13 aN) (fun _ h => (qBlock (qThen (h.ht (cont (s1.2 ++ ([s1.1] : List Int)) (of_some hT10))))))
    ·refine HT.cond0 rfl hb12 ?_
     refine HT.skip (qBlock (qThen ?_))
     exact (Le.re [(0, 0)] [] hX (by kernel_rfl)).ht (cont s1.2 (of_some hT10))
  ·refine HT.cond0 rfl hb7 ?_
   have hx5 := of_some hx5
   subst hx5
   exact HT.exitL (Le.re [(0, 0)] [] hX (by kernel_rfl)) (qThenE (qLoopE (hk6 s1.2 rfl)))

noncomputable def impl_ReachOf_B1 (a1 : List Int) (s5 : Int × Int) : Option ((Int × Int) ⊕ (Int)) :=
 bif (decide (s5.2 < (lenI a1))) then
  guardP ((0 : Int) ≤ s5.2 ∧ s5.2 < lenI a1) (
   guardP ((0 : Int) ≤ (List.getD a1 (Int.toNat s5.2) (0 : Int))) (
    some (.inl ((IntKind.wrap .u32 (BitVec.ofInt (IntKind.bits .u32) s5.1 ||| BitVec.ofInt (IntKind.bits .u32) (IntKind.wrap .u32 ((1 : Int) * 2 ^ (min (Int.toNat (List.getD a1 (Int.toNat s5.2) (0 : Int))) (IntKind.bits .u32))))).toNat), (wadd .i64 s5.2 (1 : Int))))))
 else
  some (.inr s5.1)

noncomputable def impl_ReachOf (a0 : TyG) (a1 : List Int) (a2 : Int) : Option (List Int × Bool) :=
 (show Option (Bool) from
  (impl_ValidGame (a0.1, a0.2.1, a0.2.2)).bind fun y23 =>
  bif (!y23) then
   some true
  else
   (impl_isSet a1 (lenI a0.1)).bind fun y26 =>
   bif (!y26) then
    some true
   else
    (impl_within a2 (0 : Int) (1 : Int)).bind fun y29 =>
    some (!y29)).bind fun v1 =>
 bif v1 then
  some (([] : List Int), false)
 else
  (rounds (impl_ReachOf_B1 a1) ((0 : Int), (0 : Int))).bind fun r7 =>
  (impl_Game_all (a0.1, a0.2.1, a0.2.2)).bind fun y8 =>
  (impl_Game_reach (a0.1, a0.2.1, a0.2.2) y8 r7 a2).bind fun y10 =>
  (impl_bitsOf y10 (lenI a0.1)).bind fun y12 =>
  (impl_indicesOf y12).bind fun y14 =>
  some (y14, true)

theorem f58_ok {a0 : TyG} {a1 : List Int} {a2 : Int} {r : List Int × Bool} (hr : impl_ReachOf a0 a1 a2 = some r) : CallOK Try.prog 58 [.imm tG a0, .imm tLI a1, .imm tI a2] [⟨true, tLI, r.1⟩, ⟨false, .bool, r.2⟩] [] := by
 unfold impl_ReachOf at hr
 refine CallOK.of_body (ts := [(true, tLI), (false, .bool)]) Try.func58 rfl (by kernel_rfl) (Nat.le_of_ble_eq_true (by kernel_rfl)) fun cx hP hN hO hF => ?_
 have hO : cx.own.map Prod.fst = [] := hO
 have hX := CxIs.mk hP hN hO
 have hF := hF rfl
 show HT cx ⟨[(0, .agg [nC a0.1, nC a0.2.1, .dat (.sl tLI) a0.2.2]), (1, nV a1), (2, iV a2)], [], 0⟩ _ _
 refine HT.rg2 (oHs 3) ⟨[(1, nV a1), (2, iV a2), (3, pV 0 0)], [(0, .box [nC a0.1, nC a0.2.1, .dat (.sl tLI) a0.2.2])], 1⟩ hX (by kernel_rfl) aN ?_
 refine HT.seq ?_
 obtain ⟨v1', hT3, hr⟩ := of_bind hr
 refine HT.join (fun (v1 : Bool) => ⟨[(1, nV a1), (2, iV a2), (3, pV 0 0), (26, bV v1)], [(0, .box [nC a0.1, nC a0.2.1, .dat (.sl tLI) a0.2.2])], 1⟩) (fun v => v = v1') (fun v1 hv2 => ?_) (fun cont => ?_)
 ·subst hv2
  rcases of_bif hr with ⟨hb4, hr⟩ | ⟨hb4, hr⟩
  ·refine HT.cond1 rfl hb4 ?_
   refine HT.rg2 (oHs 2) ⟨[(6, .one (.nilS)), (7, bV false)], [], 1⟩ hX (by kernel_rfl) aN ?_
   have hr := of_some hr
   subst hr
   exact HT.ret (qThenR ⟨[.one (.nilS), bV false], [], [], by kernel_rfl, by kernel_rfl, rfl, by kernel_rfl, by kernel_rfl, trivial⟩)
  ·refine HT.cond0 rfl hb4 ?_
   refine HT.skip (qThen ?_)
   refine HT.rg2 [oH] ⟨[(1, nV a1), (2, iV a2), (3, pV 0 0), (8, .one (.dat (.int .u32) (0 : Int)))], [(0, .box [nC a0.1, nC a0.2.1, .dat (.sl tLI) a0.2.2])], 1⟩ hX (by kernel_rfl) aN ?_
   refine HT.seq ?_
   refine HT.rg2 (oHs 3) ⟨[(2, iV a2), (3, pV 0 0), (8, .one (.dat (.int .u32) (0 : Int))), (27, nV a1), (28, iV (lenI a1)), (29, iV (0 : Int))], [(0, .box [nC a0.1, nC a0.2.1, .dat (.sl tLI) a0.2.2])], 1⟩ hX (by kernel_rfl) aN ?_
   refine HT.block ?_
   obtain ⟨r6, hL22, hr⟩ := of_bind hr
   refine HT.loopL (fun (s5 : Int × Int) => ⟨[(2, iV a2), (3, pV 0 0), (8, .one (.dat (.int .u32) s5.1)), (27, nV a1), (28, iV (lenI a1)), (29, iV s5.2)], [(0, .box [nC a0.1, nC a0.2.1, .dat (.sl tLI) a0.2.2])], 1⟩) (fun (r7 : Int) => (.exit 0, ⟨[(2, iV a2), (3, pV 0 0), (8, .one (.dat (.int .u32) r7))], [(0, .box [nC a0.1, nC a0.2.1, .dat (.sl tLI) a0.2.2])], 1⟩)) (Le.re [(0, 0)] [] hX (by kernel_rfl)) hL22 ?_ (fun s5 x16 hx17 hk18 => ?_)
   ·refine (qBlockX (qThen ?_))
    obtain ⟨y8, hc9, hr⟩ := of_bind hr
    obtain ⟨y10, hc11, hr⟩ := of_bind hr
    obtain ⟨y12, hc13, hr⟩ := of_bind hr
    obtain ⟨y14, hc15, hr⟩ := of_bind hr
    refine HT.dr2 9 [⟨oH, []⟩, ⟨oH, []⟩, ⟨⟨none, .call [.imm tG] [⟨false, (.int .u32), y8⟩] []⟩, [1]⟩, ⟨oH, []⟩, ⟨oH, []⟩, ⟨⟨none, .call [.imm tG, .imm (.int .u32), .imm (.int .u32), .imm tI] [⟨false, (.int .u32), y10⟩] []⟩, [0, 1, 2, 3, 4]⟩, ⟨oH, []⟩, ⟨oH, [6]⟩, ⟨oH, [6, 7]⟩] [[0, 1, 2, 3, 4, 5, 6, 7, 8], [0, 1, 2, 3, 4, 5, 6, 7, 8, 9], [0, 1, 2, 3, 4, 5, 6, 7, 8, 9, 10], [0, 1, 2, 3, 4, 5, 6, 7, 8, 9, 10, 11]] [⟨none, .call [.imm (.int .u32), .imm tI] [⟨true, (.sl .bool), y12⟩] []⟩, ⟨none, .call [.imm (.sl .bool)] [⟨true, tLI, y14⟩] []⟩, oH, oH] ⟨[(6, aV 2), (7, bV true)], [(2, .seq tI y14)], 3⟩ hX (by kernel_rfl) (by kernel_rfl) (aC (f141_ok hc9) (aC (f140_ok hc11) (aC (f139_ok hc13) (aC (f119_ok hc15) aN)))) ?_
    have hr := of_some hr
    subst hr
    exact HT.ret ⟨[aV 2, bV true], [2], [], by kernel_rfl, by kernel_rfl, rfl, by kernel_rfl, by kernel_rfl, trivial⟩
   ·refine HT.rg2 [oH] ⟨[(2, iV a2), (3, pV 0 0), (8, .one (.dat (.int .u32) s5.1)), (27, nV a1), (28, iV (lenI a1)), (29, iV s5.2), (30, bV (decide (s5.2 < (lenI a1))))], [(0, .box [nC a0.1, nC a0.2.1, .dat (.sl tLI) a0.2.2])], 1⟩ hX (by kernel_rfl) aN ?_
    refine HT.seq ?_
    rcases of_bif hx17 with ⟨hb19, hx17⟩ | ⟨hb19, hx17⟩
    ·refine HT.cond1 rfl hb19 ?_
     refine HT.skip (qThen ?_)
     refine HT.seq ?_
     refine HT.block ?_
     obtain ⟨hg20, hx17⟩ := of_guard hx17
     refine HT.rg2 (oHs 3) ⟨[(2, iV a2), (3, pV 0 0), (8, .one (.dat (.int .u32) s5.1)), (10, iV (List.getD a1 (Int.toNat s5.2) (0 : Int))), (27, nV a1), (28, iV (lenI a1)), (29, iV s5.2)], [(0, .box [nC a0.1, nC a0.2.1, .dat (.sl tLI) a0.2.2])], 1⟩ hX (by kernel_rfl) (aC hg20 aN) ?_
     obtain ⟨hg21, hx17⟩ := of_guard hx17
     refine HT.rgL (oHs 5) ⟨[(2, iV a2), (3, pV 0 0), (8, .one (.dat (.int .u32) (IntKind.wrap .u32 (BitVec.ofInt (IntKind.bits .u32) s5.1 ||| BitVec.ofInt (IntKind.bits .u32) (IntKind.wrap .u32 ((1 : Int) * 2 ^ (min (Int.toNat (List.getD a1 (Int.toNat s5.2) (0 : Int))) (IntKind.bits .u32))))).toNat))), (27, nV a1), (28, iV (lenI a1)), (29, iV s5.2)], [(0, .box [nC a0.1, nC a0.2.1, .dat (.sl tLI) a0.2.2])], 1⟩ hX (by kernel_rfl) (aC hg21 aN) (qBlock (qThen ?_))
     have hx17 := of_some hx17
     subst hx17
     exact HT.rgK (oHs 2) [(0, 0)] [] hX (by kernel_rfl) aN (fun _ h => (qLoopN ⟨((IntKind.wrap .u32 (BitVec.ofInt (IntKind.bits .u32) s5.1 ||| BitVec.ofInt (IntKind.bits .u32) (IntKind.wrap .u32 ((1 : Int) * 2 ^ (min (Int.toNat (List.getD a1 (Int.toNat s5.2) (0 : Int))) (IntKind.bits .u32))))).toNat), (wadd .i64 s5.2 (1 : Int))), rfl, h⟩))
    ·refine HT.cond0 rfl hb19 ?_
     have hx17 := of_some hx17
     subst hx17
     exact HT.exitL (Le.re [(0, 0)] [] hX (by kernel_rfl)) (qThenE (qLoopE (hk18 s5.1 rfl)))
 ·obtain ⟨y23, hc24, hT3⟩ := of_bind hT3
  rcases of_bif hT3 with ⟨hb25, hT3⟩ | ⟨hb25, hT3⟩
  ·exact HT.rgK [oH, ⟨none, .call [.imm tG] [⟨false, .bool, y23⟩] []⟩, oH, oH, oT, oT, oT, oT, oT, oT, vT, oH, oT, oT, oT, vT] [(0, 0)] [] hX (by kernel_rfl) (aC (f53_ok hc24) (aC hb25 (aC hb25 (aC hb25 (aC hb25 (aC hb25 (aC hb25 (aC hb25 (aT4 aN))))))))) (fun _ h => (qThen (h.ht (cont true (of_some hT3)))))
  ·obtain ⟨y26, hc27, hT3⟩ := of_bind hT3
   rcases of_bif hT3 with ⟨hb28, hT3⟩ | ⟨hb28, hT3⟩
   ·exact HT.rgK [oH, ⟨none, .call [.imm tG] [⟨false, .bool, y23⟩] []⟩, oH, oH, oF, oF, oF, oF, ⟨some false, .call [.imm tLI, .imm tI] [⟨false, .bool, y26⟩] []⟩, oF, vF, oH, oT, oT, oT, vT] [(0, 0)] [] hX (by kernel_rfl) (aC (f53_ok hc24) (aC hb25 (aC hb25 (aC hb25 (aC hb25 (aC hb25 (aC (f135_ok hc27) (aC hb25 (aC hb25 (aC hb28 (aC hb28 (aC hb28 (aC hb28 aN))))))))))))) (fun _ h => (qThen (h.ht (cont true (of_some hT3)))))
   ·obtain ⟨y29, hc30, hT3⟩ := of_bind hT3
    exact HT.rgK [oH, ⟨none, .call [.imm tG] [⟨false, .bool, y23⟩] []⟩, oH, oH, oF, oF, oF, oF, ⟨some false, .call [.imm tLI, .imm tI] [⟨false, .bool, y26⟩] []⟩, oF, vF, oH, oF, ⟨some false, .call [.imm tI, .imm tI, .imm tI] [⟨false, .bool, y29⟩] []⟩, oF, vF] [(0, 0)] [] hX (by kernel_rfl) (aC (f53_ok hc24) (aC hb25 (aC hb25 (aC hb25 (aC hb25 (aC hb25 (aC (f135_ok hc27) (aC hb25 (aC hb25 (aC hb28 (aC hb28 (aC (f111_ok hc30) (aC hb28 (aC hb28 aN)))))))))))))) (fun _ h => (qThen (h.ht (cont (!y29) (of_some hT3)))))

noncomputable def spec_ReachOf_B1 (y12 : List Bool) (s14 : Int × List Int) : Option ((Int × List Int) ⊕ (List Int)) :=
 bif (decide (s14.1 < (lenI y12))) then
  (show Option (List Int) from
   guardP ((0 : Int) ≤ s14.1 ∧ s14.1 < lenI y12) (
    bif (List.getD y12 (Int.toNat s14.1) false) then
     guardP (List.length s14.2 + List.length ([s14.1] : List Int) ≤ appMax) (
      some (s14.2 ++ ([s14.1] : List Int)))
    else
     some s14.2)).bind fun v21 =>
  some (.inl ((wadd .i64 s14.1 (1 : Int)), v21))
 else
  some (.inr s14.2)

noncomputable def spec_ReachOf_B2 (a1 : List Int) (r8 : List Bool) (s9 : Int × List Bool) : Option ((Int × List Bool) ⊕ (List Bool ⊕ Unit)) :=
 bif (decide (s9.1 < (lenI a1))) then
  (show Option (Bool) from
   guardP ((0 : Int) ≤ s9.1 ∧ s9.1 < lenI a1) (
    (spec_l00In (List.getD a1 (Int.toNat s9.1) (0 : Int)) (0 : Int) (wsub .i64 (lenI r8) (1 : Int))).bind fun y40 =>
    bif (!y40) then
     some true
    else
     bif (decide (s9.1 > (0 : Int))) then
      guardP ((0 : Int) ≤ (wsub .i64 s9.1 (1 : Int)) ∧ (wsub .i64 s9.1 (1 : Int)) < lenI a1) (
       some (decide ((List.getD a1 (Int.toNat s9.1) (0 : Int)) ≤ (List.getD a1 (Int.toNat (wsub .i64 s9.1 (1 : Int))) (0 : Int)))))
     else
      some false)).bind fun v33 =>
  bif v33 then
   some (.inr (.inr ()))
  else
   guardP ((0 : Int) ≤ s9.1 ∧ s9.1 < lenI a1) (
    guardP ((0 : Int) ≤ (List.getD a1 (Int.toNat s9.1) (0 : Int)) ∧ (List.getD a1 (Int.toNat s9.1) (0 : Int)) < lenI s9.2) (
     some (.inl ((wadd .i64 s9.1 (1 : Int)), (List.set s9.2 (Int.toNat (List.getD a1 (Int.toNat s9.1) (0 : Int))) true)))))
 else
  some (.inr (.inl s9.2))

noncomputable def spec_ReachOf_B3 (a0 : TyG) (s6 : Int × List Bool) : Option ((Int × List Bool) ⊕ (List Bool)) :=
 bif (decide (s6.1 < (lenI (List.replicate (Int.toNat (lenI a0.1)) false)))) then
  guardP ((0 : Int) ≤ s6.1 ∧ s6.1 < lenI s6.2) (
   some (.inl ((wadd .i64 s6.1 (1 : Int)), (List.set s6.2 (Int.toNat s6.1) true))))
 else
  some (.inr s6.2)

noncomputable def spec_ReachOf (a0 : TyG) (a1 : List Int) (a2 : Int) : Option (List Int × Bool) :=
 (show Option (Bool) from
  (spec_l07Game (a0.1, a0.2.1, a0.2.2)).bind fun y52 =>
  bif (!y52) then
   some true
  else
   (spec_l00In a2 (0 : Int) (1 : Int)).bind fun y55 =>
   some (!y55)).bind fun v1 =>
 bif v1 then
  some (([] : List Int), false)
 else
  guardP ((0 : Int) ≤ (lenI a0.1) ∧ (lenI a0.1) ≤ 4294967296) (
   (rounds (spec_ReachOf_B3 a0) ((0 : Int), (List.replicate (Int.toNat (lenI a0.1)) false))).bind fun r8 =>
   (rounds (spec_ReachOf_B2 a1 r8) ((0 : Int), (List.replicate (Int.toNat (lenI a0.1)) false))).bind fun r10 => match r10 with
    | .inl r11 =>
     (spec_l07Draw (a0.1, a0.2.1, a0.2.2) r8 r11 a2).bind fun y12 =>
     (rounds (spec_ReachOf_B1 y12) ((0 : Int), ([] : List Int))).bind fun r16 =>
     some (r16, true)
    | .inr r28 =>
     some (([] : List Int), false))

theorem f59_ok {a0 : TyG} {a1 : List Int} {a2 : Int} {r : List Int × Bool} (hr : spec_ReachOf a0 a1 a2 = some r) : CallOK Try.prog 59 [.imm tG a0, .imm tLI a1, .imm tI a2] [⟨true, tLI, r.1⟩, ⟨false, .bool, r.2⟩] [] := by
 unfold spec_ReachOf at hr
 refine CallOK.of_body (ts := [(true, tLI), (false, .bool)]) Try.func59 rfl (by kernel_rfl) (Nat.le_of_ble_eq_true (by kernel_rfl)) fun cx hP hN hO hF => ?_
 have hO : cx.own.map Prod.fst = [] := hO
 have hX := CxIs.mk hP hN hO
 have hF := hF rfl
 show HT cx ⟨[(0, .agg [nC a0.1, nC a0.2.1, .dat (.sl tLI) a0.2.2]), (1, nV a1), (2, iV a2)], [], 0⟩ _ _
 refine HT.rg2 (oHs 3) ⟨[(1, nV a1), (2, iV a2), (3, pV 0 0)], [(0, .box [nC a0.1, nC a0.2.1, .dat (.sl tLI) a0.2.2])], 1⟩ hX (by kernel_rfl) aN ?_
 refine HT.seq ?_
 obtain ⟨v1', hT3, hr⟩ := of_bind hr
 refine HT.join (fun (v1 : Bool) => ⟨[(1, nV a1), (2, iV a2), (3, pV 0 0), (21, bV v1)], [(0, .box [nC a0.1, nC a0.2.1, .dat (.sl tLI) a0.2.2])], 1⟩) (fun v => v = v1') (fun v1 hv2 => ?_) (fun cont => ?_)
 ·subst hv2
  rcases of_bif hr with ⟨hb4, hr⟩ | ⟨hb4, hr⟩
  ·refine HT.cond1 rfl hb4 ?_
   refine HT.rg2 (oHs 2) ⟨[(6, .one (.nilS)), (7, bV false)], [], 1⟩ hX (by kernel_rfl) aN ?_
   have hr := of_some hr
   subst hr
   exact HT.ret (qThenR ⟨[.one (.nilS), bV false], [], [], by kernel_rfl, by kernel_rfl, rfl, by kernel_rfl, by kernel_rfl, trivial⟩)
  ·refine HT.cond0 rfl hb4 ?_
   refine HT.skip (qThen ?_)
   obtain ⟨hg5, hr⟩ := of_guard hr
   refine HT.rg2 [oH, oH, oH, ⟨none, .ty .bool⟩, oH] ⟨[(1, nV a1), (2, iV a2), (3, pV 0 0), (8, aV 1)], [(1, .seq .bool (List.replicate (Int.toNat (lenI a0.1)) false)), (0, .box [nC a0.1, nC a0.2.1, .dat (.sl tLI) a0.2.2])], 2⟩ hX (by kernel_rfl) (aC (show (0 : Int) ≤ (lenI a0.1) ∧ (lenI a0.1) ≤ (lenI a0.1) ∧ (lenI a0.1) ≤ 4294967296 from ⟨hg5.1, Int.le_refl _, hg5.2⟩) aN) ?_
   refine HT.rg2 [oH, oH, oH, ⟨none, .ty .bool⟩, oH] ⟨[(1, nV a1), (2, iV a2), (3, pV 0 0), (8, aV 1), (9, aV 2)], [(2, .seq .bool (List.replicate (Int.toNat (lenI a0.1)) false)), (1, .seq .bool (List.replicate (Int.toNat (lenI a0.1)) false)), (0, .box [nC a0.1, nC a0.2.1, .dat (.sl tLI) a0.2.2])], 3⟩ hX (by kernel_rfl) (aC (show (0 : Int) ≤ (lenI a0.1) ∧ (lenI a0.1) ≤ (lenI a0.1) ∧ (lenI a0.1) ≤ 4294967296 from ⟨hg5.1, Int.le_refl _, hg5.2⟩) aN) ?_
   refine HT.seq ?_
   refine HT.rg2 (oHs 3) ⟨[(1, nV a1), (2, iV a2), (3, pV 0 0), (8, aV 1), (9, aV 2), (31, iV (lenI (List.replicate (Int.toNat (lenI a0.1)) false))), (32, iV (0 : Int))], [(2, .seq .bool (List.replicate (Int.toNat (lenI a0.1)) false)), (1, .seq .bool (List.replicate (Int.toNat (lenI a0.1)) false)), (0, .box [nC a0.1, nC a0.2.1, .dat (.sl tLI) a0.2.2])], 3⟩ hX (by kernel_rfl) aN ?_
   refine HT.block ?_
   obtain ⟨r7, hL51, hr⟩ := of_bind hr
   refine HT.loopL (fun (s6 : Int × List Bool) => ⟨[(1, nV a1), (2, iV a2), (3, pV 0 0), (8, aV 1), (9, aV 2), (31, iV (lenI (List.replicate (Int.toNat (lenI a0.1)) false))), (32, iV s6.1)], [(0, .box [nC a0.1, nC a0.2.1, .dat (.sl tLI) a0.2.2]), (1, .seq .bool s6.2), (2, .seq .bool (List.replicate (Int.toNat (lenI a0.1)) false))], 3⟩) (fun (r8 : List Bool) => (.exit 0, ⟨[(1, nV a1), (2, iV a2), (3, pV 0 0), (8, aV 1), (9, aV 2)], [(0, .box [nC a0.1, nC a0.2.1, .dat (.sl tLI) a0.2.2]), (1, .seq .bool r8), (2, .seq .bool (List.replicate (Int.toNat (lenI a0.1)) false))], 3⟩)) (Le.re [(0, 0), (1, 1), (2, 2)] [] hX (by kernel_rfl)) hL51 ?_ (fun s6 x46 hx47 hk48 => ?_)
   ·refine (qBlockX (qThen ?_))
    refine HT.seq ?_
    refine HT.rg2 (oHs 3) ⟨[(1, nV a1), (2, iV a2), (3, pV 0 0), (8, aV 1), (9, aV 2), (40, iV (lenI a1)), (41, iV (0 : Int))], [(0, .box [nC a0.1, nC a0.2.1, .dat (.sl tLI) a0.2.2]), (1, .seq .bool r7), (2, .seq .bool (List.replicate (Int.toNat (lenI a0.1)) false))], 3⟩ hX (by kernel_rfl) aN ?_
    refine HT.block ?_
    obtain ⟨r10, hL45, hr⟩ := of_bind hr
    refine HT.loopL (fun (s9 : Int × List Bool) => ⟨[(1, nV a1), (2, iV a2), (3, pV 0 0), (8, aV 1), (9, aV 2), (40, iV (lenI a1)), (41, iV s9.1)], [(0, .box [nC a0.1, nC a0.2.1, .dat (.sl tLI) a0.2.2]), (1, .seq .bool r7), (2, .seq .bool s9.2)], 3⟩) (fun (r10 : List Bool ⊕ Unit) => match r10 with | .inl r11 => (.exit 2, ⟨[(2, iV a2), (3, pV 0 0), (8, aV 1), (9, aV 2)], [(0, .box [nC a0.1, nC a0.2.1, .dat (.sl tLI) a0.2.2]), (1, .seq .bool r7), (2, .seq .bool r11)], 3⟩) | .inr r28 => (.ret, ⟨[(6, .one (.nilS)), (7, bV false)], [], 0⟩)) (Le.re [(0, 0), (1, 1), (2, 2)] [] hX (by kernel_rfl)) hL45 ?_ (fun s9 x29 hx30 hk31 => ?_)
    ·rcases r10 with r11 | r28
     ·refine (qBlockX (qThen ?_))
      obtain ⟨y12, hc13, hr⟩ := of_bind hr
      refine HT.rg2 [oH, oH, oH, ⟨none, .call [.pimm tG, .imm (.sl .bool), .imm (.sl .bool), .imm tI] [⟨true, (.sl .bool), y12⟩] []⟩, oH] ⟨[(12, aV 3)], [(3, .seq .bool y12)], 4⟩ hX (by kernel_rfl) (aC (f142_ok hc13) aN) ?_
      refine HT.rg2 (oHs 2) ⟨[(12, aV 3), (13, .one (.nilS))], [(3, .seq .bool y12)], 4⟩ hX (by kernel_rfl) aN ?_
      refine HT.seq ?_
      refine HT.rg2 (oHs 3) ⟨[(12, aV 3), (13, .one (.nilS)), (82, iV (lenI y12)), (83, iV (0 : Int))], [(3, .seq .bool y12)], 4⟩ hX (by kernel_rfl) aN ?_
      refine HT.block ?_
      obtain ⟨r15, hL27, hr⟩ := of_bind hr
      refine HT.loopL (fun (s14 : Int × List Int) => ⟨[(12, aV 0), (13, aV 1), (82, iV (lenI y12)), (83, iV s14.1)], [(0, .seq .bool y12), (1, .seq tI s14.2)], 2⟩) (fun (r16 : List Int) => (.exit 4, ⟨[(13, aV 0)], [(0, .seq tI r16)], 1⟩)) (Le.re [(3, 0)] [1] hX (by kernel_rfl)) hL27 ?_ (fun s14 x17 hx18 hk19 => ?_)
      ·refine (qBlockX (qThen ?_))
       refine HT.rg2 (oHs 3) ⟨[(6, aV 0), (7, bV true)], [(0, .seq tI r15)], 1⟩ hX (by kernel_rfl) aN ?_
       have hr := of_some hr
       subst hr
       exact HT.ret ⟨[aV 0, bV true], [0], [], by kernel_rfl, by kernel_rfl, rfl, by kernel_rfl, by kernel_rfl, trivial⟩
      ·refine HT.rg2 [oH] ⟨[(12, aV 0), (13, aV 1), (82, iV (lenI y12)), (83, iV s14.1), (84, bV (decide (s14.1 < (lenI y12))))], [(0, .seq .bool y12), (1, .seq tI s14.2)], 2⟩ hX (by kernel_rfl) aN ?_
       refine HT.seq ?_
       rcases of_bif hx18 with ⟨hb20, hx18⟩ | ⟨hb20, hx18⟩
       ·refine HT.cond1 rfl hb20 ?_
        refine HT.skip (qThen ?_)
        obtain ⟨v21', hT23, hx18⟩ := of_bind hx18
        refine HT.join (fun (v21 : List Int) => ⟨[(12, aV 0), (13, aV 1), (82, iV (lenI y12)), (83, iV s14.1)], [(0, .seq .bool y12), (1, .seq tI v21)], 2⟩) (fun v => v = v21') (fun v21 hv22 => ?_) (fun cont => ?_)
        ·subst hv22
         have hx18 := of_some hx18
         subst hx18
         exact HT.rgK (oHs 2) [(0, 0), (1, 1)] [] hX (by kernel_rfl) aN (fun _ h => (qLoopN ⟨((wadd .i64 s14.1 (1 : Int)), v21), rfl, h⟩))
        ·refine HT.block ?_
         refine HT.rg2 (oHs 2) ⟨[(12, aV 0), (13, aV 1), (14, iV s14.1), (82, iV (lenI y12)), (83, iV s14.1)], [(0, .seq .bool y12), (1, .seq tI s14.2)], 2⟩ hX (by kernel_rfl) aN ?_
         obtain ⟨hg24, hT23⟩ := of_guard hT23
         refine HT.rg2 (oHs 4) ⟨[(12, aV 0), (13, aV 1), (14, iV s14.1), (82, iV (lenI y12)), (83, iV s14.1), (89, bV (List.getD y12 (Int.toNat s14.1) false))], [(0, .seq .bool y12), (1, .seq tI s14.2)], 2⟩ hX (by kernel_rfl) (aC hg24 (aC (natLt hg24) aN)) ?_
         rcases of_bif hT23 with ⟨hb25, hT23⟩ | ⟨hb25, hT23⟩
         ·refine HT.cond1 rfl hb25 ?_
          obtain ⟨hg26, hT23⟩ := of_guard hT23
          exact HT.rgK [oH, oH, ⟨none, .ty tI⟩, ⟨none, .ty tI⟩, oH] [(0, 0), (3, 1)] [] hX (by kernel_rfl) (aC hg26 aN) (fun _ h => (qBlock (qThen (h.ht (cont (s14.2 ++ ([s14.1] : List Int)) (of_some hT23))))))
         ·refine HT.cond0 rfl hb25 ?_
          refine HT.skip (qBlock (qThen ?_))
          exact (Le.re [(0, 0), (1, 1)] [] hX (by kernel_rfl)).ht (cont s14.2 (of_some hT23))
       ·refine HT.cond0 rfl hb20 ?_
        have hx18 := of_some hx18
        subst hx18
        exact HT.exitL (Le.re [(1, 0)] [] hX (by kernel_rfl)) (qThenE (qLoopE (hk19 s14.2 rfl)))
     ·have hr := of_some hr
      subst hr
      exact (qBlockR (qThenR ⟨[.one (.nilS), bV false], [], [], by kernel_rfl, by kernel_rfl, rfl, by kernel_rfl, by kernel_rfl, trivial⟩))
    ·refine HT.rg2 [oH] ⟨[(1, nV a1), (2, iV a2), (3, pV 0 0), (8, aV 1), (9, aV 2), (40, iV (lenI a1)), (41, iV s9.1), (42, bV (decide (s9.1 < (lenI a1))))], [(0, .box [nC a0.1, nC a0.2.1, .dat (.sl tLI) a0.2.2]), (1, .seq .bool r7), (2, .seq .bool s9.2)], 3⟩ hX (by kernel_rfl) aN ?_
     refine HT.seq ?_
     rcases of_bif hx30 with ⟨hb32, hx30⟩ | ⟨hb32, hx30⟩
     ·refine HT.cond1 rfl hb32 ?_
      refine HT.skip (qThen ?_)
      refine HT.seq ?_
      refine HT.block ?_
      refine HT.rg2 (oHs 2) ⟨[(1, nV a1), (2, iV a2), (3, pV 0 0), (8, aV 1), (9, aV 2), (11, iV s9.1), (40, iV (lenI a1)), (41, iV s9.1)], [(0, .box [nC a0.1, nC a0.2.1, .dat (.sl tLI) a0.2.2]), (1, .seq .bool r7), (2, .seq .bool s9.2)], 3⟩ hX (by kernel_rfl) aN ?_
      refine HT.seq ?_
      obtain ⟨v33', hT35, hx30⟩ := of_bind hx30
      refine HT.join (fun (v33 : Bool) => ⟨[(1, nV a1), (2, iV a2), (3, pV 0 0), (8, aV 1), (9, aV 2), (11, iV s9.1), (40, iV (lenI a1)), (41, iV s9.1), (68, bV v33)], [(0, .box [nC a0.1, nC a0.2.1, .dat (.sl tLI) a0.2.2]), (1, .seq .bool r7), (2, .seq .bool s9.2)], 3⟩) (fun v => v = v33') (fun v33 hv34 => ?_) (fun cont => ?_)
      ·subst hv34
       rcases of_bif hx30 with ⟨hb36, hx30⟩ | ⟨hb36, hx30⟩
       ·refine HT.cond1 rfl hb36 ?_
        refine HT.rg2 (oHs 2) ⟨[(6, .one (.nilS)), (7, bV false)], [], 3⟩ hX (by kernel_rfl) aN ?_
        have hx30 := of_some hx30
        subst hx30
        exact HT.retL (Le.re [] [] hX (by kernel_rfl)) (qThenR (qBlockR (qThenR (qLoopR (hk31 (.inr ()) rfl)))))
       ·refine HT.cond0 rfl hb36 ?_
        refine HT.skip (qThen ?_)
        obtain ⟨hg37, hx30⟩ := of_guard hx30
        obtain ⟨hg38, hx30⟩ := of_guard hx30
        refine HT.rgL (oHs 7) ⟨[(1, nV a1), (2, iV a2), (3, pV 0 0), (8, aV 1), (9, aV 2), (40, iV (lenI a1)), (41, iV s9.1)], [(2, .seq .bool (List.set s9.2 (Int.toNat (List.getD a1 (Int.toNat s9.1) (0 : Int))) true)), (0, .box [nC a0.1, nC a0.2.1, .dat (.sl tLI) a0.2.2]), (1, .seq .bool r7)], 3⟩ hX (by kernel_rfl) (aC hg37 (aC hg38 (aC (natLt hg38) aN))) (qBlock (qThen ?_))
        have hx30 := of_some hx30
        subst hx30
        exact HT.rgK (oHs 2) [(0, 0), (1, 1), (2, 2)] [] hX (by kernel_rfl) aN (fun _ h => (qLoopN ⟨((wadd .i64 s9.1 (1 : Int)), (List.set s9.2 (Int.toNat (List.getD a1 (Int.toNat s9.1) (0 : Int))) true)), rfl, h⟩))
      ·obtain ⟨hg39, hT35⟩ := of_guard hT35
       obtain ⟨y40, hc41, hT35⟩ := of_bind hT35
       rcases of_bif hT35 with ⟨hb42, hT35⟩ | ⟨hb42, hT35⟩
       ·exact HT.drK 22 [⟨oH, []⟩, ⟨oH, []⟩, ⟨oH, [0, 1]⟩, ⟨oH, [0, 1, 2]⟩, ⟨oH, []⟩, ⟨oH, [4]⟩, ⟨oH, [4, 5]⟩, ⟨⟨none, .call [.imm tI, .imm tI, .imm tI] [⟨false, .bool, y40⟩] []⟩, [0, 1, 2, 3, 4, 5, 6]⟩, ⟨oH, [0, 1, 2, 3, 4, 5, 6, 7]⟩, ⟨oH, [0, 1, 2, 3, 4, 5, 6, 7, 8]⟩, ⟨oT, [0, 1, 2, 3, 4, 5, 6, 7, 8, 9]⟩, ⟨oT, [0, 1, 2, 3, 4, 5, 6, 7, 8, 9, 10]⟩, ⟨oT, [0, 1, 2, 3, 4, 5, 6, 7, 8, 9, 10, 11]⟩, ⟨oH, [0, 1, 2, 3, 4, 5, 6, 7, 8, 9, 10, 11, 12]⟩, ⟨oH, [0, 1, 2, 3, 4, 5, 6, 7, 8, 9, 10, 11, 12]⟩, ⟨oH, [0, 1, 2, 3, 4, 5, 6, 7, 8, 9, 10, 11, 12, 13, 14]⟩, ⟨oH, [0, 1, 2, 3, 4, 5, 6, 7, 8, 9, 10, 11, 12, 13, 14, 15]⟩, ⟨oH, [0, 1, 2, 3, 4, 5, 6, 7, 8, 9, 10, 11, 12]⟩, ⟨oH, [0, 1, 2, 3, 4, 5, 6, 7, 8, 9, 10, 11, 12]⟩, ⟨oH, [0, 1, 2, 3, 4, 5, 6, 7, 8, 9, 10, 11, 12, 18]⟩, ⟨oH, [0, 1, 2, 3, 4, 5, 6, 7, 8, 9, 10, 11, 12, 17, 18, 19]⟩, ⟨oH, [0, 1, 2, 3, 4, 5, 6, 7, 8, 9, 10, 11, 12, 17, 18, 19, 20]⟩] [[0, 1, 2, 3, 4, 5, 6, 7, 8, 9, 10, 11, 12, 13, 14, 15, 16, 17, 18, 19, 20, 21], [0, 1, 2, 3, 4, 5, 6, 7, 8, 9, 10, 11, 12, 13, 14, 15, 16, 17, 18, 19, 20, 21, 22], [0, 1, 2, 3, 4, 5, 6, 7, 8, 9, 10, 11, 12, 13, 14, 15, 16, 17, 18, 19, 20, 21, 22, 23]] [oH, oT, vT] [(0, 0), (1, 1), (2, 2)] [] hX (by kernel_rfl) (by kernel_rfl) (aC hg39 (aC (f114_ok hc41) (aC hb42 (aC hb42 (aC hb42 (aC hb42 (aC hb42 aN))))))) (fun _ h => (qThen (h.ht (cont true (of_some hT35)))))
       ·rcases of_bif hT35 with ⟨hb43, hT35⟩ | ⟨hb43, hT35⟩
        ·obtain ⟨hg44, hT35⟩ := of_guard hT35
         exact HT.drK 22 [⟨oH, []⟩, ⟨oH, []⟩, ⟨oH, [0, 1]⟩, ⟨oH, [0, 1, 2]⟩, ⟨oH, []⟩, ⟨oH, [4]⟩, ⟨oH, [4, 5]⟩, ⟨⟨none, .call [.imm tI, .imm tI, .imm tI] [⟨false, .bool, y40⟩] []⟩, [0, 1, 2, 3, 4, 5, 6]⟩, ⟨oH, [0, 1, 2, 3, 4, 5, 6, 7]⟩, ⟨oH, [0, 1, 2, 3, 4, 5, 6, 7, 8]⟩, ⟨oF, [0, 1, 2, 3, 4, 5, 6, 7, 8, 9]⟩, ⟨oF, [0, 1, 2, 3, 4, 5, 6, 7, 8, 9, 10]⟩, ⟨oF, [0, 1, 2, 3, 4, 5, 6, 7, 8, 9, 10, 11]⟩, ⟨oT, [0, 1, 2, 3, 4, 5, 6, 7, 8, 9, 10, 11, 12]⟩, ⟨oT, [0, 1, 2, 3, 4, 5, 6, 7, 8, 9, 10, 11, 12]⟩, ⟨oT, [0, 1, 2, 3, 4, 5, 6, 7, 8, 9, 10, 11, 12, 13, 14]⟩, ⟨oT, [0, 1, 2, 3, 4, 5, 6, 7, 8, 9, 10, 11, 12, 13, 14, 15]⟩, ⟨oT, [0, 1, 2, 3, 4, 5, 6, 7, 8, 9, 10, 11, 12]⟩, ⟨oT, [0, 1, 2, 3, 4, 5, 6, 7, 8, 9, 10, 11, 12]⟩, ⟨oT, [0, 1, 2, 3, 4, 5, 6, 7, 8, 9, 10, 11, 12, 18]⟩, ⟨oT, [0, 1, 2, 3, 4, 5, 6, 7, 8, 9, 10, 11, 12, 17, 18, 19]⟩, ⟨oT, [0, 1, 2, 3, 4, 5, 6, 7, 8, 9, 10, 11, 12, 17, 18, 19, 20]⟩] [[0, 1, 2, 3, 4, 5, 6, 7, 8, 9, 10, 11, 12, 13, 14, 15, 16, 17, 18, 19, 20, 21], [0, 1, 2, 3, 4, 5, 6, 7, 8, 9, 10, 11, 12, 13, 14, 15, 16, 17, 18, 19, 20, 21, 22], [0, 1, 2, 3, 4, 5, 6, 7, 8, 9, 10, 11, 12, 13, 14, 15, 16, 17, 18, 19, 20, 21, 22, 23]] [oT, ⟨some false, .tv true⟩, vF] [(0, 0), (1, 1), (2, 2)] [] hX (by kernel_rfl) (by kernel_rfl) (aC hg39 (aC (f114_ok hc41) (aC hb42 (aC hb42 (aC hb42 (aC hb43 (aC hb43 (aC hb43 (aC hg39 (aC hb43 (aC hb43 (aC hb43 (aC hb43 (aC hb43 (aC hg44 (aC hb43 (aC hb43 (aC hb42 (aC hb43 (aC hb42 aN)))))))))))))))))))) (fun _ h => (qThen (h.ht (cont (decide ((List.getD a1 (Int.toNat s9.1) (0 : Int)) ≤ (List.getD a1 (Int.toNat (wsub .i64 s9.1 (1 : Int))) (0 : Int)))) (of_some hT35)))))
        ·exact HT.drK 22 [⟨oH, []⟩, ⟨oH, []⟩, ⟨oH, [0, 1]⟩, ⟨oH, [0, 1, 2]⟩, ⟨oH, []⟩, ⟨oH, [4]⟩, ⟨oH, [4, 5]⟩, ⟨⟨none, .call [.imm tI, .imm tI, .imm tI] [⟨false, .bool, y40⟩] []⟩, [0, 1, 2, 3, 4, 5, 6]⟩, ⟨oH, [0, 1, 2, 3, 4, 5, 6, 7]⟩, ⟨oH, [0, 1, 2, 3, 4, 5, 6, 7, 8]⟩, ⟨oF, [0, 1, 2, 3, 4, 5, 6, 7, 8, 9]⟩, ⟨oF, [0, 1, 2, 3, 4, 5, 6, 7, 8, 9, 10]⟩, ⟨oF, [0, 1, 2, 3, 4, 5, 6, 7, 8, 9, 10, 11]⟩, ⟨oF, [0, 1, 2, 3, 4, 5, 6, 7, 8, 9, 10, 11, 12]⟩, ⟨oF, [0, 1, 2, 3, 4, 5, 6, 7, 8, 9, 10, 11, 12]⟩, ⟨oF, [0, 1, 2, 3, 4, 5, 6, 7, 8, 9, 10, 11, 12, 13, 14]⟩, ⟨oF, [0, 1, 2, 3, 4, 5, 6, 7, 8, 9, 10, 11, 12, 13, 14, 15]⟩, ⟨oF, [0, 1, 2, 3, 4, 5, 6, 7, 8, 9, 10, 11, 12]⟩, ⟨oF, [0, 1, 2, 3, 4, 5, 6, 7, 8, 9, 10, 11, 12]⟩, ⟨oF, [0, 1, 2, 3, 4, 5, 6, 7, 8, 9, 10, 11, 12, 18]⟩, ⟨oF, [0, 1, 2, 3, 4, 5, 6, 7, 8, 9, 10, 11, 12, 17, 18, 19]⟩, ⟨oF, [0, 1, 2, 3, 4, 5, 6, 7, 8, 9, 10, 11, 12, 17, 18, 19, 20]⟩] [[0, 1, 2, 3, 4, 5, 6, 7, 8, 9, 10, 11, 12, 13, 14, 15, 16, 17, 18, 19, 20, 21], [0, 1, 2, 3, 4, 5, 6, 7, 8, 9, 10, 11, 12, 13, 14, 15, 16, 17, 18, 19, 20, 21, 22], [0, 1, 2, 3, 4, 5, 6, 7, 8, 9, 10, 11, 12, 13, 14, 15, 16, 17, 18, 19, 20, 21, 22, 23]] [oF, ⟨some false, .tv false⟩, vF] [(0, 0), (1, 1), (2, 2)] [] hX (by kernel_rfl) (by kernel_rfl) (aC hg39 (aC (f114_ok hc41) (aC hb42 (aC hb42 (aC hb42 (aC hb43 (aC hb43 (aC hb43 (aC hb43 (aC hb43 (aC hb43 (aC hb43 (aC hb43 (aC hb43 (aC hb43 (aC hb42 (aC hb43 (aC hb42 aN)))))))))))))))))) (fun _ h => (qThen (h.ht (cont false (of_some hT35)))))
     ·refine HT.cond0 rfl hb32 ?_
      have hx30 := of_some hx30
      subst hx30
      exact HT.exitL (Le.re [(0, 0), (1, 1), (2, 2)] [] hX (by kernel_rfl)) (qThenE (qLoopE (hk31 (.inl s9.2) rfl)))
   ·refine HT.rg2 [oH] ⟨[(1, nV a1), (2, iV a2), (3, pV 0 0), (8, aV 1), (9, aV 2), (31, iV (lenI (List.replicate (Int.toNat (lenI a0.1)) false))), (32, iV s6.1), (33, bV (decide (s6.1 < (lenI (List.replicate (Int.toNat (lenI a0.1)) false)))))], [(0, .box [nC a0.1, nC a0.2.1, .dat (.sl tLI) a0.2.2]), (1, .seq .bool s6.2), (2, .seq .bool (List.replicate (Int.toNat (lenI a0.1)) false))], 3⟩ hX (by kernel_rfl) aN ?_
    refine HT.seq ?_
    rcases of_bif hx47 with ⟨hb49, hx47⟩ | ⟨hb49, hx47⟩
    ·refine HT.cond1 rfl hb49 ?_
     refine HT.skip (qThen ?_)
     refine HT.seq ?_
     refine HT.block ?_
     refine HT.rg2 (oHs 2) ⟨[(1, nV a1), (2, iV a2), (3, pV 0 0), (8, aV 1), (9, aV 2), (10, iV s6.1), (31, iV (lenI (List.replicate (Int.toNat (lenI a0.1)) false))), (32, iV s6.1)], [(0, .box [nC a0.1, nC a0.2.1, .dat (.sl tLI) a0.2.2]), (1, .seq .bool s6.2), (2, .seq .bool (List.replicate (Int.toNat (lenI a0.1)) false))], 3⟩ hX (by kernel_rfl) aN ?_
     obtain ⟨hg50, hx47⟩ := of_guard hx47
     refine HT.rgL (oHs 4) ⟨[(1, nV a1), (2, iV a2), (3, pV 0 0), (8, aV 1), (9, aV 2), (31, iV (lenI (List.replicate (Int.toNat (lenI a0.1)) false))), (32, iV s6.1)], [(1, .seq .bool (List.set s6.2 (Int.toNat s6.1) true)), (0, .box [nC a0.1, nC a0.2.1, .dat (.sl tLI) a0.2.2]), (2, .seq .bool (List.replicate (Int.toNat (lenI a0.1)) false))], 3⟩ hX (by kernel_rfl) (aC hg50 (aC (natLt hg50) aN)) (qBlock (qThen ?_))
     have hx47 := of_some hx47
     subst hx47
     exact HT.rgK (oHs 2) [(0, 0), (1, 1), (2, 2)] [] hX (by kernel_rfl) aN (fun _ h => (qLoopN ⟨((wadd .i64 s6.1 (1 : Int)), (List.set s6.2 (Int.toNat s6.1) true)), rfl, h⟩))
    ·refine HT.cond0 rfl hb49 ?_
     have hx47 := of_some hx47
     subst hx47
     exact HT.exitL (Le.re [(0, 0), (1, 1), (2, 2)] [] hX (by kernel_rfl)) (qThenE (qLoopE (hk48 s6.2 rfl)))
 ·obtain ⟨y52, hc53, hT3⟩ := of_bind hT3
  rcases of_bif hT3 with ⟨hb54, hT3⟩ | ⟨hb54, hT3⟩
  ·exact HT.rgK [⟨none, .call [.pimm tG] [⟨false, .bool, y52⟩] []⟩, oH, oH, oT, oT, oT, vT] [(0, 0)] [] hX (by kernel_rfl) (aC (f127_ok hc53) (aC hb54 (aC hb54 (aC hb54 (aC hb54 aN))))) (fun _ h => (qThen (h.ht (cont true (of_some hT3)))))
  ·obtain ⟨y55, hc56, hT3⟩ := of_bind hT3
   exact HT.rgK [⟨none, .call [.pimm tG] [⟨false, .bool, y52⟩] []⟩, oH, oH, oF, ⟨some false, .call [.imm tI, .imm tI, .imm tI] [⟨false, .bool, y55⟩] []⟩, oF, vF] [(0, 0)] [] hX (by kernel_rfl) (aC (f127_ok hc53) (aC hb54 (aC hb54 (aC (f114_ok hc56) (aC hb54 (aC hb54 aN)))))) (fun _ h => (qThen (h.ht (cont (!y55) (of_some hT3)))))

noncomputable def laws_b10Ints_B1 (a0 : List Int) (a1 : List Int) (s2 : Int) : Option ((Int) ⊕ (Unit ⊕ Unit)) :=
 bif (decide (s2 < (lenI a0))) then
  guardP ((0 : Int) ≤ s2 ∧ s2 < lenI a0) (
   guardP ((0 : Int) ≤ s2 ∧ s2 < lenI a1) (
    bif ((List.getD a0 (Int.toNat s2) (0 : Int)) != (List.getD a1 (Int.toNat s2) (0 : Int))) then
     some (.inr (.inr ()))
    else
     some (.inl (wadd .i64 s2 (1 : Int)))))
 else
  some (.inr (.inl ()))

noncomputable def laws_b10Ints (a0 : List Int) (a1 : List Int) : Option (Bool) :=
 bif ((lenI a0) != (lenI a1)) then
  some false
 else
  (rounds (laws_b10Ints_B1 a0 a1) (0 : Int)).bind fun r3 => match r3 with
   | .inl r4 =>
    some true
   | .inr r5 =>
    some false

theorem f38_ok {a0 : List Int} {a1 : List Int} {r : Bool} (hr : laws_b10Ints a0 a1 = some r) : CallOK Try.prog 38 [.imm tLI a0, .imm tLI a1] [⟨false, .bool, r⟩] [] := by
 unfold laws_b10Ints at hr
 refine CallOK.of_body (ts := [(false, .bool)]) Try.func38 rfl (by kernel_rfl) (Nat.le_of_ble_eq_true (by kernel_rfl)) fun cx hP hN hO hF => ?_
 have hO : cx.own.map Prod.fst = [] := hO
 have hX := CxIs.mk hP hN hO
 have hF := hF rfl
 show HT cx ⟨[(0, nV a0), (1, nV a1)], [], 0⟩ _ _
 refine HT.rg2 [oH] ⟨[(0, nV a0), (1, nV a1)], [], 0⟩ hX (by kernel_rfl) aN ?_
 refine HT.seq ?_
 refine HT.rg2 (oHs 5) ⟨[(0, nV a0), (1, nV a1), (10, bV ((lenI a0) != (lenI a1)))], [], 0⟩ hX (by kernel_rfl) aN ?_
 rcases of_bif hr with ⟨hb1, hr⟩ | ⟨hb1, hr⟩
 ·refine HT.cond1 rfl hb1 ?_
  refine HT.rg2 [oH] ⟨[(4, bV false)], [], 0⟩ hX (by kernel_rfl) aN ?_
  have hr := of_some hr
  subst hr
  exact HT.ret (qThenR ⟨[bV false], [], [], by kernel_rfl, by kernel_rfl, rfl, by kernel_rfl, by kernel_rfl, trivial⟩)
 ·refine HT.cond0 rfl hb1 ?_
  refine HT.skip (qThen ?_)
  refine HT.seq ?_
  refine HT.rg2 (oHs 3) ⟨[(0, nV a0), (1, nV a1), (12, iV (lenI a0)), (13, iV (0 : Int))], [], 0⟩ hX (by kernel_rfl) aN ?_
  refine HT.block ?_
  obtain ⟨r3, hL13, hr⟩ := of_bind hr
  refine HT.loopL (fun (s2 : Int) => ⟨[(0, nV a0), (1, nV a1), (12, iV (lenI a0)), (13, iV s2)], [], 0⟩) (fun (r3 : Unit ⊕ Unit) => match r3 with | .inl r4 => (.exit 0, ⟨[], [], 0⟩) | .inr r5 => (.ret, ⟨[(4, bV false)], [], 0⟩)) (Le.re [] [] hX (by kernel_rfl)) hL13 ?_ (fun s2 x6 hx7 hk8 => ?_)
  ·rcases r3 with r4 | r5
   ·refine (qBlockX (qThen ?_))
    refine HT.rg2 [oH] ⟨[(4, bV true)], [], 0⟩ hX (by kernel_rfl) aN ?_
    have hr := of_some hr
    subst hr
    exact HT.ret ⟨[bV true], [], [], by kernel_rfl, by kernel_rfl, rfl, by kernel_rfl, by kernel_rfl, trivial⟩
   ·have hr := of_some hr
    subst hr
    exact (qBlockR (qThenR ⟨[bV false], [], [], by kernel_rfl, by kernel_rfl, rfl, by kernel_rfl, by kernel_rfl, trivial⟩))
  ·refine HT.rg2 [oH] ⟨[(0, nV a0), (1, nV a1), (12, iV (lenI a0)), (13, iV s2), (14, bV (decide (s2 < (lenI a0))))], [], 0⟩ hX (by kernel_rfl) aN ?_
   refine HT.seq ?_
   rcases of_bif hx7 with ⟨hb9, hx7⟩ | ⟨hb9, hx7⟩
   ·refine HT.cond1 rfl hb9 ?_
    refine HT.skip (qThen ?_)
    refine HT.seq ?_
    refine HT.block ?_
    refine HT.rg2 (oHs 2) ⟨[(0, nV a0), (1, nV a1), (5, iV s2), (12, iV (lenI a0)), (13, iV s2)], [], 0⟩ hX (by kernel_rfl) aN ?_
    obtain ⟨hg10, hx7⟩ := of_guard hx7
    obtain ⟨hg11, hx7⟩ := of_guard hx7
    refine HT.dr2 8 [⟨oH, []⟩, ⟨oH, []⟩, ⟨oH, [0, 1]⟩, ⟨oH, [0, 1, 2]⟩, ⟨oH, []⟩, ⟨oH, []⟩, ⟨oH, [4, 5]⟩, ⟨oH, [4, 5, 6]⟩] [[0, 1, 2, 3, 4, 5, 6, 7]] [oH] ⟨[(0, nV a0), (1, nV a1), (12, iV (lenI a0)), (13, iV s2), (24, bV ((List.getD a0 (Int.toNat s2) (0 : Int)) != (List.getD a1 (Int.toNat s2) (0 : Int))))], [], 0⟩ hX (by kernel_rfl) (by kernel_rfl) (aC hg10 (aC hg11 aN)) ?_
    rcases of_bif hx7 with ⟨hb12, hx7⟩ | ⟨hb12, hx7⟩
    ·refine HT.cond1 rfl hb12 ?_
     refine HT.rg2 [oH] ⟨[(4, bV false)], [], 0⟩ hX (by kernel_rfl) aN ?_
     have hx7 := of_some hx7
     subst hx7
     exact HT.retL (Le.re [] [] hX (by kernel_rfl)) (qBlockR (qThenR (qLoopR (hk8 (.inr ()) rfl))))
    ·refine HT.cond0 rfl hb12 ?_
     refine HT.skip (qBlock (qThen ?_))
     have hx7 := of_some hx7
     subst hx7
     exact HT.rgK (oHs 2) [] [] hX (by kernel_rfl) aN (fun _ h => (qLoopN ⟨(wadd .i64 s2 (1 : Int)), rfl, h⟩))
   ·refine HT.cond0 rfl hb9 ?_
    have hx7 := of_some hx7
    subst hx7
    exact HT.exitL (Le.re [] [] hX (by kernel_rfl)) (qThenE (qLoopE (hk8 (.inl ()) rfl)))

noncomputable def slices_Equal___int64_int64_B1 (a0 : List Int) (a1 : List Int) (s2 : Int) : Option ((Int) ⊕ (Unit ⊕ Unit)) :=
 bif (decide (s2 < (lenI a0))) then
  guardP ((0 : Int) ≤ s2 ∧ s2 < lenI a0) (
   guardP ((0 : Int) ≤ s2 ∧ s2 < lenI a1) (
    bif ((List.getD a0 (Int.toNat s2) (0 : Int)) != (List.getD a1 (Int.toNat s2) (0 : Int))) then
     some (.inr (.inr ()))
    else
     some (.inl (wadd .i64 s2 (1 : Int)))))
 else
  some (.inr (.inl ()))

noncomputable def slices_Equal___int64_int64 (a0 : List Int) (a1 : List Int) : Option (Bool) :=
 bif ((lenI a0) != (lenI a1)) then
  some false
 else
  (rounds (slices_Equal___int64_int64_B1 a0 a1) (0 : Int)).bind fun r3 => match r3 with
   | .inl r4 =>
    some true
   | .inr r5 =>
    some false

theorem f112_ok {a0 : List Int} {a1 : List Int} {r : Bool} (hr : slices_Equal___int64_int64 a0 a1 = some r) : CallOK Try.prog 112 [.imm tLI a0, .imm tLI a1] [⟨false, .bool, r⟩] [] := by
 unfold slices_Equal___int64_int64 at hr
 refine CallOK.of_body (ts := [(false, .bool)]) Try.func112 rfl (by kernel_rfl) (Nat.le_of_ble_eq_true (by kernel_rfl)) fun cx hP hN hO hF => ?_
 have hO : cx.own.map Prod.fst = [] := hO
 have hX := CxIs.mk hP hN hO
 have hF := hF rfl
 show HT cx ⟨[(0, nV a0), (1, nV a1)], [], 0⟩ _ _
 refine HT.rg2 [oH] ⟨[(0, nV a0), (1, nV a1)], [], 0⟩ hX (by kernel_rfl) aN ?_
 refine HT.seq ?_
 refine HT.rg2 (oHs 5) ⟨[(0, nV a0), (1, nV a1), (10, bV ((lenI a0) != (lenI a1)))], [], 0⟩ hX (by kernel_rfl) aN ?_
 rcases of_bif hr with ⟨hb1, hr⟩ | ⟨hb1, hr⟩
 ·refine HT.cond1 rfl hb1 ?_
  refine HT.rg2 [oH] ⟨[(4, bV false)], [], 0⟩ hX (by kernel_rfl) aN ?_
  have hr := of_some hr
  subst hr
  exact HT.ret (qThenR ⟨[bV false], [], [], by kernel_rfl, by kernel_rfl, rfl, by kernel_rfl, by kernel_rfl, trivial⟩)
 ·refine HT.cond0 rfl hb1 ?_
  refine HT.skip (qThen ?_)
  refine HT.seq ?_
  refine HT.rg2 (oHs 3) ⟨[(0, nV a0), (1, nV a1), (12, iV (lenI a0)), (13, iV (0 : Int))], [], 0⟩ hX (by kernel_rfl) aN ?_
  refine HT.block ?_
  obtain ⟨r3, hL13, hr⟩ := of_bind hr
  refine HT.loopL (fun (s2 : Int) => ⟨[(0, nV a0), (1, nV a1), (12, iV (lenI a0)), (13, iV s2)], [], 0⟩) (fun (r3 : Unit ⊕ Unit) => match r3 with | .inl r4 => (.exit 0, ⟨[], [], 0⟩) | .inr r5 => (.ret, ⟨[(4, bV false)], [], 0⟩)) (Le.re [] [] hX (by kernel_rfl)) hL13 ?_ (fun s2 x6 hx7 hk8 => ?_)
  ·rcases r3 with r4 | r5
   ·refine (qBlockX (qThen ?_))
    refine HT.rg2 [oH] ⟨[(4, bV true)], [], 0⟩ hX (by kernel_rfl) aN ?_
    have hr := of_some hr
    subst hr
    exact HT.ret ⟨[bV true], [], [], by kernel_rfl, by kernel_rfl, rfl, by kernel_rfl, by kernel_rfl, trivial⟩
   ·have hr := of_some hr
    subst hr
    exact (qBlockR (qThenR ⟨[bV false], [], [], by kernel_rfl, by kernel_rfl, rfl, by kernel_rfl, by kernel_rfl, trivial⟩))
  ·refine HT.rg2 [oH] ⟨[(0, nV a0), (1, nV a1), (12, iV (lenI a0)), (13, iV s2), (14, bV (decide (s2 < (lenI a0))))], [], 0⟩ hX (by kernel_rfl) aN ?_
   refine HT.seq ?_
   rcases of_bif hx7 with ⟨hb9, hx7⟩ | ⟨hb9, hx7⟩
   ·refine HT.cond1 rfl hb9 ?_
    refine HT.skip (qThen ?_)
    refine HT.seq ?_
    refine HT.block ?_
    refine HT.rg2 (oHs 2) ⟨[(0, nV a0), (1, nV a1), (5, iV s2), (12, iV (lenI a0)), (13, iV s2)], [], 0⟩ hX (by kernel_rfl) aN ?_
    obtain ⟨hg10, hx7⟩ := of_guard hx7
    obtain ⟨hg11, hx7⟩ := of_guard hx7
    refine HT.dr2 8 [⟨oH, []⟩, ⟨oH, []⟩, ⟨oH, [0, 1]⟩, ⟨oH, [0, 1, 2]⟩, ⟨oH, []⟩, ⟨oH, []⟩, ⟨oH, [4, 5]⟩, ⟨oH, [4, 5, 6]⟩] [[0, 1, 2, 3, 4, 5, 6, 7]] [oH] ⟨[(0, nV a0), (1, nV a1), (12, iV (lenI a0)), (13, iV s2), (24, bV ((List.getD a0 (Int.toNat s2) (0 : Int)) != (List.getD a1 (Int.toNat s2) (0 : Int))))], [], 0⟩ hX (by kernel_rfl) (by kernel_rfl) (aC hg10 (aC hg11 aN)) ?_
    rcases of_bif hx7 with ⟨hb12, hx7⟩ | ⟨hb12, hx7⟩
    ·refine HT.cond1 rfl hb12 ?_
     refine HT.rg2 [oH] ⟨[(4, bV false)], [], 0⟩ hX (by kernel_rfl) aN ?_
     have hx7 := of_some hx7
     subst hx7
     exact HT.retL (Le.re [] [] hX (by kernel_rfl)) (qBlockR (qThenR (qLoopR (hk8 (.inr ()) rfl))))
    ·refine HT.cond0 rfl hb12 ?_
     refine HT.skip (qBlock (qThen ?_))
     have hx7 := of_some hx7
     subst hx7
     exact HT.rgK (oHs 2) [] [] hX (by kernel_rfl) aN (fun _ h => (qLoopN ⟨(wadd .i64 s2 (1 : Int)), rfl, h⟩))
   ·refine HT.cond0 rfl hb9 ?_
    have hx7 := of_some hx7
    subst hx7
    exact HT.exitL (Le.re [] [] hX (by kernel_rfl)) (qThenE (qLoopE (hk8 (.inl ()) rfl)))

noncomputable def impl_IsWinning_B1 (a1 : List Int) (s7 : Int × List (List Int)) (v20 : List (List Int)) (s25 : Int) : Option ((Int) ⊕ (Unit ⊕ Unit)) :=
 bif (decide (s25 < (lenI (List.getD v20 (Int.toNat s7.1) ([] : List Int))))) then
  guardP ((0 : Int) ≤ s25 ∧ s25 < lenI (List.getD v20 (Int.toNat s7.1) ([] : List Int))) (
   guardP ((0 : Int) ≤ (List.getD (List.getD v20 (Int.toNat s7.1) ([] : List Int)) (Int.toNat s25) (0 : Int)) ∧ (List.getD (List.getD v20 (Int.toNat s7.1) ([] : List Int)) (Int.toNat s25) (0 : Int)) < lenI a1) (
    guardP ((0 : Int) ≤ s7.1 ∧ s7.1 < lenI a1) (
     bif ((List.getD a1 (Int.toNat (List.getD (List.getD v20 (Int.toNat s7.1) ([] : List Int)) (Int.toNat s25) (0 : Int))) (0 : Int)) != (List.getD a1 (Int.toNat s7.1) (0 : Int))) then
      some (.inr (.inr ()))
     else
      some (.inl (wadd .i64 s25 (1 : Int))))))
 else
  some (.inr (.inl ()))

noncomputable def impl_IsWinning_B2 (a0 : TyG) (a1 : List Int) (a2 : List Int) (s7 : Int × List (List Int)) : Option ((Int × List (List Int)) ⊕ (List (List Int) ⊕ Unit)) :=
 bif (decide (s7.1 < (lenI a0.1))) then
  guardP ((0 : Int) ≤ s7.1 ∧ s7.1 < lenI a0.1) (
   (show Option (List (List Int) ⊕ ((Int × List (List Int)) ⊕ (List (List Int) ⊕ Unit))) from
    guardP ((0 : Int) ≤ s7.1 ∧ s7.1 < lenI a1) (
     bif ((List.getD a0.1 (Int.toNat s7.1) (0 : Int)) == (List.getD a1 (Int.toNat s7.1) (0 : Int))) then
      guardP ((0 : Int) ≤ s7.1 ∧ s7.1 < lenI a0.2.2) (
       guardP ((0 : Int) ≤ s7.1 ∧ s7.1 < lenI a2) (
        (slices_Contains___int64_int64 (List.getD a0.2.2 (Int.toNat s7.1) ([] : List Int)) (List.getD a2 (Int.toNat s7.1) (0 : Int))).bind fun y42 =>
        bif (!y42) then
         inrO (some (.inr (.inr ())))
        else
         guardP ((0 : Int) ≤ s7.1 ∧ s7.1 < lenI s7.2) (
          some (.inl (List.set s7.2 (Int.toNat s7.1) ([(List.getD a2 (Int.toNat s7.1) (0 : Int))] : List Int))))))
     else
      guardP ((0 : Int) ≤ s7.1 ∧ s7.1 < lenI a2) (
       bif ((List.getD a2 (Int.toNat s7.1) (0 : Int)) != (-1 : Int)) then
        inrO (some (.inr (.inr ())))
       else
        some (.inl s7.2)))).bind fun w23 => match w23 with
    | .inl v20 =>
     guardP ((0 : Int) ≤ s7.1 ∧ s7.1 < lenI v20) (
      (rounds (impl_IsWinning_B1 a1 s7 v20) (0 : Int)).bind fun r26 => match r26 with
       | .inl r27 =>
        some (.inl ((wadd .i64 s7.1 (1 : Int)), v20))
       | .inr r28 =>
        some (.inr (.inr ())))
    | .inr z => some z)
 else
  some (.inr (.inl s7.2))

noncomputable def impl_IsWinning (a0 : TyG) (a1 : List Int) (a2 : List Int) : Option (Bool) :=
 (show Option (Bool) from
  (impl_ValidGame (a0.1, a0.2.1, a0.2.2)).bind fun y55 =>
  bif (!y55) then
   some true
  else
   bif ((lenI a1) != (lenI a0.1)) then
    some true
   else
    bif ((lenI a2) != (lenI a0.1)) then
     some true
    else
     (impl_areWithin a1 (0 : Int) (1 : Int)).bind fun y60 =>
     some (!y60)).bind fun v1 =>
 bif v1 then
  some false
 else
  (slices_Clone a0.2.2).bind fun y5 =>
  (rounds (impl_IsWinning_B2 a0 a1 a2) ((0 : Int), y5)).bind fun r8 => match r8 with
   | .inl r9 =>
    (impl_Game_winners (a0.1, a0.2.1, r9)).bind fun y10 =>
    (slices_Equal___int64_int64 y10 a1).bind fun y12 =>
    some y12
   | .inr r14 =>
    some false

theorem f55_ok {a0 : TyG} {a1 : List Int} {a2 : List Int} {r : Bool} (hr : impl_IsWinning a0 a1 a2 = some r) : CallOK Try.prog 55 [.imm tG a0, .imm tLI a1, .imm tLI a2] [⟨false, .bool, r⟩] [] := by
 unfold impl_IsWinning at hr
 refine CallOK.of_body (ts := [(false, .bool)]) Try.func55 rfl (by kernel_rfl) (Nat.le_of_ble_eq_true (by kernel_rfl)) fun cx hP hN hO hF => ?_
 have hO : cx.own.map Prod.fst = [] := hO
 have hX := CxIs.mk hP hN hO
 have hF := hF rfl
 show HT cx ⟨[(0, .agg [nC a0.1, nC a0.2.1, .dat (.sl tLI) a0.2.2]), (1, nV a1), (2, nV a2)], [], 0⟩ _ _
 refine HT.rg2 (oHs 2) ⟨[(1, nV a1), (2, nV a2), (3, pV 0 0)], [(0, .box [nC a0.1, nC a0.2.1, .dat (.sl tLI) a0.2.2])], 1⟩ hX (by kernel_rfl) aN ?_
 refine HT.rg2 (oHs 4) ⟨[(1, nV a1), (2, nV a2), (3, pV 0 0), (7, iV (lenI a0.1))], [(0, .box [nC a0.1, nC a0.2.1, .dat (.sl tLI) a0.2.2])], 1⟩ hX (by kernel_rfl) aN ?_
 refine HT.seq ?_
 obtain ⟨v1', hT3, hr⟩ := of_bind hr
 refine HT.join (fun (v1 : Bool) => ⟨[(1, nV a1), (2, nV a2), (3, pV 0 0), (35, bV v1)], [(0, .box [nC a0.1, nC a0.2.1, .dat (.sl tLI) a0.2.2])], 1⟩) (fun v => v = v1') (fun v1 hv2 => ?_) (fun cont => ?_)
 ·subst hv2
  rcases of_bif hr with ⟨hb4, hr⟩ | ⟨hb4, hr⟩
  ·refine HT.cond1 rfl hb4 ?_
   refine HT.rg2 [oH] ⟨[(6, bV false)], [], 1⟩ hX (by kernel_rfl) aN ?_
   have hr := of_some hr
   subst hr
   exact HT.ret (qThenR ⟨[bV false], [], [], by kernel_rfl, by kernel_rfl, rfl, by kernel_rfl, by kernel_rfl, trivial⟩)
  ·refine HT.cond0 rfl hb4 ?_
   refine HT.skip (qThen ?_)
   obtain ⟨y5, hc6, hr⟩ := of_bind hr
   refine HT.dr2 9 [⟨oH, []⟩, ⟨oH, [0]⟩, ⟨oH, []⟩, ⟨oH, [2]⟩, ⟨oH, []⟩, ⟨oH, [4]⟩, ⟨⟨none, .call [.imm (.sl tLI)] [⟨true, (.sl tLI), y5⟩] []⟩, [4, 5]⟩, ⟨oH, [0, 1, 2, 3, 4, 5, 6]⟩, ⟨oH, []⟩] [[0, 1, 2, 3, 4, 5, 6, 7, 8]] [oH] ⟨[(1, nV a1), (2, nV a2), (3, pV 0 0), (8, pV 2 0)], [(2, .box [nC a0.1, nC a0.2.1, .all 1]), (1, .seq tLI y5), (0, .box [nC a0.1, nC a0.2.1, .dat (.sl tLI) a0.2.2])], 3⟩ hX (by kernel_rfl) (by kernel_rfl) (aC (f129_ok hc6) aN) ?_
   refine HT.seq ?_
   refine HT.rg2 (oHs 4) ⟨[(1, nV a1), (2, nV a2), (3, pV 0 0), (8, pV 2 0), (45, nV a0.1), (46, iV (lenI a0.1)), (47, iV (0 : Int))], [(2, .box [nC a0.1, nC a0.2.1, .all 1]), (1, .seq tLI y5), (0, .box [nC a0.1, nC a0.2.1, .dat (.sl tLI) a0.2.2])], 3⟩ hX (by kernel_rfl) aN ?_
   refine HT.block ?_
   obtain ⟨r8, hL54, hr⟩ := of_bind hr
   refine HT.loopL (fun (s7 : Int × List (List Int)) => ⟨[(1, nV a1), (2, nV a2), (3, pV 0 0), (8, pV 1 0), (45, nV a0.1), (46, iV (lenI a0.1)), (47, iV s7.1)], [(0, .box [nC a0.1, nC a0.2.1, .dat (.sl tLI) a0.2.2]), (1, .box [nC a0.1, nC a0.2.1, .all 2]), (2, .seq tLI s7.2)], 3⟩) (fun (r8 : List (List Int) ⊕ Unit) => match r8 with | .inl r9 => (.exit 0, ⟨[(1, nV a1), (8, pV 0 0)], [(0, .box [nC a0.1, nC a0.2.1, .all 1]), (1, .seq tLI r9)], 2⟩) | .inr r14 => (.ret, ⟨[(6, bV false)], [], 0⟩)) (Le.re [(0, 0), (2, 1), (1, 2)] [] hX (by kernel_rfl)) hL54 ?_ (fun s7 x15 hx16 hk17 => ?_)
   ·rcases r8 with r9 | r14
    ·refine (qBlockX (qThen ?_))
     obtain ⟨y10, hc11, hr⟩ := of_bind hr
     obtain ⟨y12, hc13, hr⟩ := of_bind hr
     refine HT.rg2 [oH, ⟨none, .call [.imm tG] [⟨true, tLI, y10⟩] []⟩, oH, ⟨none, .call [.imm tLI, .imm tLI] [⟨false, .bool, y12⟩] []⟩, oH] ⟨[(6, bV y12)], [], 3⟩ hX (by kernel_rfl) (aC (f126_ok hc11) (aC (f112_ok hc13) aN)) ?_
     have hr := of_some hr
     subst hr
     exact HT.ret ⟨[bV y12], [], [], by kernel_rfl, by kernel_rfl, rfl, by kernel_rfl, by kernel_rfl, trivial⟩
    ·have hr := of_some hr
     subst hr
     exact (qBlockR (qThenR ⟨[bV false], [], [], by kernel_rfl, by kernel_rfl, rfl, by kernel_rfl, by kernel_rfl, trivial⟩))
   ·refine HT.rg2 [oH] ⟨[(1, nV a1), (2, nV a2), (3, pV 0 0), (8, pV 1 0), (45, nV a0.1), (46, iV (lenI a0.1)), (47, iV s7.1), (48, bV (decide (s7.1 < (lenI a0.1))))], [(0, .box [nC a0.1, nC a0.2.1, .dat (.sl tLI) a0.2.2]), (1, .box [nC a0.1, nC a0.2.1, .all 2]), (2, .seq tLI s7.2)], 3⟩ hX (by kernel_rfl) aN ?_
    refine HT.seq ?_
    rcases of_bif hx16 with ⟨hb18, hx16⟩ | ⟨hb18, hx16⟩
    ·refine HT.cond1 rfl hb18 ?_
     refine HT.skip (qThen ?_)
     refine HT.seq ?_
     refine HT.block ?_
     obtain ⟨hg19, hx16⟩ := of_guard hx16
     refine HT.rg2 (oHs 5) ⟨[(1, nV a1), (2, nV a2), (3, pV 0 0), (8, pV 1 0), (9, iV s7.1), (10, iV (List.getD a0.1 (Int.toNat s7.1) (0 : Int))), (45, nV a0.1), (46, iV (lenI a0.1)), (47, iV s7.1)], [(0, .box [nC a0.1, nC a0.2.1, .dat (.sl tLI) a0.2.2]), (1, .box [nC a0.1, nC a0.2.1, .all 2]), (2, .seq tLI s7.2)], 3⟩ hX (by kernel_rfl) (aC hg19 aN) ?_
     obtain ⟨w23, hT22, hx16⟩ := of_bind hx16
     refine HT.join (fun (v20 : List (List Int)) => ⟨[(1, nV a1), (2, nV a2), (3, pV 0 0), (8, pV 1 0), (9, iV s7.1), (45, nV a0.1), (46, iV (lenI a0.1)), (47, iV s7.1)], [(0, .box [nC a0.1, nC a0.2.1, .dat (.sl tLI) a0.2.2]), (1, .box [nC a0.1, nC a0.2.1, .all 2]), (2, .seq tLI v20)], 3⟩) (fun v => w23 = Sum.inl v) (fun v20 hv21 => ?_) (fun cont => ?_)
     ·subst hv21
      obtain ⟨hg24, hx16⟩ := of_guard hx16
      refine HT.rg2 (oHs 7) ⟨[(1, nV a1), (2, nV a2), (3, pV 0 0), (8, pV 1 0), (9, iV s7.1), (45, nV a0.1), (46, iV (lenI a0.1)), (47, iV s7.1), (87, nV (List.getD v20 (Int.toNat s7.1) ([] : List Int))), (88, iV (lenI (List.getD v20 (Int.toNat s7.1) ([] : List Int)))), (89, iV (0 : Int))], [(0, .box [nC a0.1, nC a0.2.1, .dat (.sl tLI) a0.2.2]), (1, .box [nC a0.1, nC a0.2.1, .all 2]), (2, .seq tLI v20)], 3⟩ hX (by kernel_rfl) (aC hg24 (aC (natLt hg24) aN)) ?_
      refine HT.block ?_
      obtain ⟨r26, hL37, hx16⟩ := of_bind hx16
      refine HT.loopL (fun (s25 : Int) => ⟨[(1, nV a1), (2, nV a2), (3, pV 0 0), (8, pV 1 0), (9, iV s7.1), (45, nV a0.1), (46, iV (lenI a0.1)), (47, iV s7.1), (87, nV (List.getD v20 (Int.toNat s7.1) ([] : List Int))), (88, iV (lenI (List.getD v20 (Int.toNat s7.1) ([] : List Int)))), (89, iV s25)], [(0, .box [nC a0.1, nC a0.2.1, .dat (.sl tLI) a0.2.2]), (1, .box [nC a0.1, nC a0.2.1, .all 2]), (2, .seq tLI v20)], 3⟩) (fun (r26 : Unit ⊕ Unit) => match r26 with | .inl r27 => (.exit 2, ⟨[(1, nV a1), (2, nV a2), (3, pV 0 0), (8, pV 1 0), (45, nV a0.1), (46, iV (lenI a0.1)), (47, iV s7.1)], [(0, .box [nC a0.1, nC a0.2.1, .dat (.sl tLI) a0.2.2]), (1, .box [nC a0.1, nC a0.2.1, .all 2]), (2, .seq tLI v20)], 3⟩) | .inr r28 => (.ret, ⟨[(6, bV false)], [], 0⟩)) (Le.re [(0, 0), (1, 1), (2, 2)] [] hX (by kernel_rfl)) hL37 ?_ (fun s25 x29 hx30 hk31 => ?_)
      ·rcases r26 with r27 | r28
       ·refine (qBlockX (qBlock (qThen ?_)))
        have hx16 := of_some hx16
        subst hx16
        exact HT.rgK (oHs 2) [(0, 0), (1, 1), (2, 2)] [] hX (by kernel_rfl) aN (fun _ h => (qLoopN ⟨((wadd .i64 s7.1 (1 : Int)), v20), rfl, h⟩))
       ·have hx16 := of_some hx16
        subst hx16
        exact (qBlockR (qBlockR (qThenR (qLoopR (hk17 (.inr ()) rfl)))))
      ·refine HT.rg2 [oH] ⟨[(1, nV a1), (2, nV a2), (3, pV 0 0), (8, pV 1 0), (9, iV s7.1), (45, nV a0.1), (46, iV (lenI a0.1)), (47, iV s7.1), (87, nV (List.getD v20 (Int.toNat s7.1) ([] : List Int))), (88, iV (lenI (List.getD v20 (Int.toNat s7.1) ([] : List Int)))), (89, iV s25), (90, bV (decide (s25 < (lenI (List.getD v20 (Int.toNat s7.1) ([] : List Int))))))], [(0, .box [nC a0.1, nC a0.2.1, .dat (.sl tLI) a0.2.2]), (1, .box [nC a0.1, nC a0.2.1, .all 2]), (2, .seq tLI v20)], 3⟩ hX (by kernel_rfl) aN ?_
       refine HT.seq ?_
       rcases of_bif hx30 with ⟨hb32, hx30⟩ | ⟨hb32, hx30⟩
       ·refine HT.cond1 rfl hb32 ?_
        refine HT.skip (qThen ?_)
        refine HT.seq ?_
        refine HT.block ?_
        obtain ⟨hg33, hx30⟩ := of_guard hx30
        refine HT.rg2 (oHs 3) ⟨[(1, nV a1), (2, nV a2), (3, pV 0 0), (8, pV 1 0), (9, iV s7.1), (12, iV (List.getD (List.getD v20 (Int.toNat s7.1) ([] : List Int)) (Int.toNat s25) (0 : Int))), (45, nV a0.1), (46, iV (lenI a0.1)), (47, iV s7.1), (87, nV (List.getD v20 (Int.toNat s7.1) ([] : List Int))), (88, iV (lenI (List.getD v20 (Int.toNat s7.1) ([] : List Int)))), (89, iV s25)], [(0, .box [nC a0.1, nC a0.2.1, .dat (.sl tLI) a0.2.2]), (1, .box [nC a0.1, nC a0.2.1, .all 2]), (2, .seq tLI v20)], 3⟩ hX (by kernel_rfl) (aC hg33 aN) ?_
        obtain ⟨hg34, hx30⟩ := of_guard hx30
        obtain ⟨hg35, hx30⟩ := of_guard hx30
        refine HT.dr2 8 [⟨oH, []⟩, ⟨oH, []⟩, ⟨oH, [0, 1]⟩, ⟨oH, [0, 1, 2]⟩, ⟨oH, []⟩, ⟨oH, []⟩, ⟨oH, [4, 5]⟩, ⟨oH, [4, 5, 6]⟩] [[0, 1, 2, 3, 4, 5, 6, 7]] [oH] ⟨[(1, nV a1), (2, nV a2), (3, pV 0 0), (8, pV 1 0), (9, iV s7.1), (45, nV a0.1), (46, iV (lenI a0.1)), (47, iV s7.1), (87, nV (List.getD v20 (Int.toNat s7.1) ([] : List Int))), (88, iV (lenI (List.getD v20 (Int.toNat s7.1) ([] : List Int)))), (89, iV s25), (101, bV ((List.getD a1 (Int.toNat (List.getD (List.getD v20 (Int.toNat s7.1) ([] : List Int)) (Int.toNat s25) (0 : Int))) (0 : Int)) != (List.getD a1 (Int.toNat s7.1) (0 : Int))))], [(0, .box [nC a0.1, nC a0.2.1, .dat (.sl tLI) a0.2.2]), (1, .box [nC a0.1, nC a0.2.1, .all 2]), (2, .seq tLI v20)], 3⟩ hX (by kernel_rfl) (by kernel_rfl) (aC hg34 (aC hg35 aN)) ?_
        rcases of_bif hx30 with ⟨hb36, hx30⟩ | ⟨hb36, hx30⟩
        ·refine HT.cond1 rfl hb36 ?_
         refine HT.rg2 [oH] ⟨[(6, bV false)], [], 3⟩ hX (by kernel_rfl) aN ?_
         have hx30 := of_some hx30
         subst hx30
         exact HT.retL (Le.re [] [] hX (by kernel_rfl)) (qBlockR (qThenR (qLoopR (hk31 (.inr ()) rfl))))
        ·refine HT.cond0 rfl hb36 ?_
         refine HT.skip (qBlock (qThen ?_))
         have hx30 := of_some hx30
         subst hx30
         exact HT.rgK (oHs 2) [(0, 0), (1, 1), (2, 2)] [] hX (by kernel_rfl) aN (fun _ h => (qLoopN ⟨(wadd .i64 s25 (1 : Int)), rfl, h⟩))
       ·refine HT.cond0 rfl hb32 ?_
        have hx30 := of_some hx30
        subst hx30
        exact HT.exitL (Le.re [(0, 0), (1, 1), (2, 2)] [] hX (by kernel_rfl)) (qThenE (qLoopE (hk31 (.inl ()) rfl)))
     ·obtain ⟨hg38, hT22⟩ := of_guard hT22
      refine HT.rg2 (oHs 6) ⟨[(1, nV a1), (2, nV a2), (3, pV 0 0), (8, pV 1 0), (9, iV s7.1), (45, nV a0.1), (46, iV (lenI a0.1)), (47, iV s7.1), (57, bV ((List.getD a0.1 (Int.toNat s7.1) (0 : Int)) == (List.getD a1 (Int.toNat s7.1) (0 : Int))))], [(0, .box [nC a0.1, nC a0.2.1, .dat (.sl tLI) a0.2.2]), (1, .box [nC a0.1, nC a0.2.1, .all 2]), (2, .seq tLI s7.2)], 3⟩ hX (by kernel_rfl) (aC hg38 aN) ?_
      rcases of_bif hT22 with ⟨hb39, hT22⟩ | ⟨hb39, hT22⟩
      ·refine HT.cond1 rfl hb39 ?_
       refine HT.seq ?_
       obtain ⟨hg40, hT22⟩ := of_guard hT22
       obtain ⟨hg41, hT22⟩ := of_guard hT22
       obtain ⟨y42, hc43, hT22⟩ := of_bind hT22
       refine HT.dr2 9 [⟨oH, []⟩, ⟨oH, [0]⟩, ⟨oH, []⟩, ⟨oH, [0, 1, 2]⟩, ⟨oH, [0, 1, 2, 3]⟩, ⟨oH, []⟩, ⟨oH, []⟩, ⟨oH, [5, 6]⟩, ⟨oH, [5, 6, 7]⟩] [[0, 1, 2, 3, 4, 5, 6, 7, 8], [0, 1, 2, 3, 4, 5, 6, 7, 8, 9]] [⟨none, .call [.imm tLI, .imm tI] [⟨false, .bool, y42⟩] []⟩, oH] ⟨[(1, nV a1), (2, nV a2), (3, pV 0 0), (8, pV 1 0), (9, iV s7.1), (45, nV a0.1), (46, iV (lenI a0.1)), (47, iV s7.1), (68, bV (!y42))], [(0, .box [nC a0.1, nC a0.2.1, .dat (.sl tLI) a0.2.2]), (1, .box [nC a0.1, nC a0.2.1, .all 2]), (2, .seq tLI s7.2)], 3⟩ hX (by kernel_rfl) (by kernel_rfl) (aC hg40 (aC hg41 (aC (f132_ok hc43) aN))) ?_
       rcases of_bif hT22 with ⟨hb44, hT22⟩ | ⟨hb44, hT22⟩
       ·refine HT.cond1 rfl hb44 ?_
        refine HT.rg2 [oH] ⟨[(6, bV false)], [], 3⟩ hX (by kernel_rfl) aN ?_
        obtain ⟨z45, hT47, hz46⟩ := of_inr hT22
        subst hz46
        have hx16 := hT47.trans hx16
        have hx16 := of_some hx16
        subst hx16
        exact HT.retL (Le.re [] [] hX (by kernel_rfl)) (qThenR (qThenR (qBlockR (qThenR (qLoopR (hk17 (.inr ()) rfl))))))
       ·refine HT.cond0 rfl hb44 ?_
        refine HT.skip (qThen ?_)
        obtain ⟨hg48, hT22⟩ := of_guard hT22
        exact HT.drK 8 [⟨oH, []⟩, ⟨oH, [0]⟩, ⟨oH, []⟩, ⟨oH, []⟩, ⟨oH, []⟩, ⟨oH, [3, 4]⟩, ⟨oH, [3, 4, 5]⟩, ⟨⟨none, .tyD tI⟩, [3, 4, 5, 6]⟩] [[0, 1, 2, 3, 4, 5, 6, 7], [0, 1, 2, 3, 4, 5, 6, 7, 8]] (oHs 2) [(0, 0), (1, 1), (2, 2)] [] hX (by kernel_rfl) (by kernel_rfl) (aC hg41 (aC hg48 (aC (natLt hg48) aN))) (fun _ h => (qThen (h.ht (cont (List.set s7.2 (Int.toNat s7.1) ([(List.getD a2 (Int.toNat s7.1) (0 : Int))] : List Int)) (of_some2 hT22)))))
      ·refine HT.cond0 rfl hb39 ?_
       obtain ⟨hg49, hT22⟩ := of_guard hT22
       refine HT.rg2 (oHs 5) ⟨[(1, nV a1), (2, nV a2), (3, pV 0 0), (8, pV 1 0), (9, iV s7.1), (45, nV a0.1), (46, iV (lenI a0.1)), (47, iV s7.1), (82, bV ((List.getD a2 (Int.toNat s7.1) (0 : Int)) != (-1 : Int)))], [(0, .box [nC a0.1, nC a0.2.1, .dat (.sl tLI) a0.2.2]), (1, .box [nC a0.1, nC a0.2.1, .all 2]), (2, .seq tLI s7.2)], 3⟩ hX (by kernel_rfl) (aC hg49 aN) ?_
       rcases of_bif hT22 with ⟨hb50, hT22⟩ | ⟨hb50, hT22⟩
       ·refine HT.cond1 rfl hb50 ?_
        refine HT.rg2 [oH] ⟨[(6, bV false)], [], 3⟩ hX (by kernel_rfl) aN ?_
        obtain ⟨z51, hT53, hz52⟩ := of_inr hT22
        subst hz52
        have hx16 := hT53.trans hx16
        have hx16 := of_some hx16
        subst hx16
        exact HT.retL (Le.re [] [] hX (by kernel_rfl)) (qThenR (qBlockR (qThenR (qLoopR (hk17 (.inr ()) rfl)))))
       ·refine HT.cond0 rfl hb50 ?_
        refine HT.skip (qThen ?_)
        exact (Le.re [(0, 0), (1, 1), (2, 2)] [] hX (by kernel_rfl)).ht (cont s7.2 (of_some2 hT22))
    ·refine HT.cond0 rfl hb18 ?_
     have hx16 := of_some hx16
     subst hx16
     exact HT.exitL (Le.re [(1, 0), (2, 1)] [] hX (by kernel_rfl)) (qThenE (qLoopE (hk17 (.inl s7.2) rfl)))
 ·obtain ⟨y55, hc56, hT3⟩ := of_bind hT3
  rcases of_bif hT3 with ⟨hb57, hT3⟩ | ⟨hb57, hT3⟩
  ·exact HT.rgK [oH, ⟨none, .call [.imm tG] [⟨false, .bool, y55⟩] []⟩, oH, oH, oT, oT, oT, oT, vT, oH, oT, oT, oT, oT, vT, oH, oT, oT, oT, vT] [(0, 0)] [] hX (by kernel_rfl) (aC (f53_ok hc56) (aC hb57 (aC hb57 (aC hb57 (aC hb57 (aC hb57 (aT4 (aT4 (aT aN))))))))) (fun _ h => (qThen (h.ht (cont true (of_some hT3)))))
  ·rcases of_bif hT3 with ⟨hb58, hT3⟩ | ⟨hb58, hT3⟩
   ·exact HT.rgK [oH, ⟨none, .call [.imm tG] [⟨false, .bool, y55⟩] []⟩, oH, oH, oF, oF, oF, oF, vF, oH, oT, oT, oT, oT, vT, oH, oT, oT, oT, vT] [(0, 0)] [] hX (by kernel_rfl) (aC (f53_ok hc56) (aC hb57 (aC hb57 (aC hb57 (aC hb57 (aC hb57 (aC hb58 (aC hb58 (aC hb58 (aC hb58 (aC hb58 (aT4 aN)))))))))))) (fun _ h => (qThen (h.ht (cont true (of_some hT3)))))
   ·rcases of_bif hT3 with ⟨hb59, hT3⟩ | ⟨hb59, hT3⟩
    ·exact HT.rgK [oH, ⟨none, .call [.imm tG] [⟨false, .bool, y55⟩] []⟩, oH, oH, oF, oF, oF, oF, vF, oH, oF, oF, oF, oF, vF, oH, oT, oT, oT, vT] [(0, 0)] [] hX (by kernel_rfl) (aC (f53_ok hc56) (aC hb57 (aC hb57 (aC hb57 (aC hb57 (aC hb57 (aC hb58 (aC hb58 (aC hb58 (aC hb58 (aC hb58 (aC hb59 (aC hb59 (aC hb59 (aC hb59 aN))))))))))))))) (fun _ h => (qThen (h.ht (cont true (of_some hT3)))))
    ·obtain ⟨y60, hc61, hT3⟩ := of_bind hT3
     exact HT.rgK [oH, ⟨none, .call [.imm tG] [⟨false, .bool, y55⟩] []⟩, oH, oH, oF, oF, oF, oF, vF, oH, oF, oF, oF, oF, vF, oH, oF, ⟨some false, .call [.imm tLI, .imm tI, .imm tI] [⟨false, .bool, y60⟩] []⟩, oF, vF] [(0, 0)] [] hX (by kernel_rfl) (aC (f53_ok hc56) (aC hb57 (aC hb57 (aC hb57 (aC hb57 (aC hb57 (aC hb58 (aC hb58 (aC hb58 (aC hb58 (aC hb58 (aC hb59 (aC hb59 (aC (f113_ok hc61) (aC hb59 (aC hb59 aN)))))))))))))))) (fun _ h => (qThen (h.ht (cont (!y60) (of_some hT3)))))

noncomputable def slices_EqualFunc_____int64_____int64___int64___int64_fn2_slices_Equal___int64_int64_B1 (a0 : List (List Int)) (a1 : List (List Int)) (s2 : Int) : Option ((Int) ⊕ (Unit ⊕ Unit)) :=
 bif (decide (s2 < (lenI a0))) then
  guardP ((0 : Int) ≤ s2 ∧ s2 < lenI a0) (
   guardP ((0 : Int) ≤ s2 ∧ s2 < lenI a1) (
    (slices_Equal___int64_int64 (List.getD a0 (Int.toNat s2) ([] : List Int)) (List.getD a1 (Int.toNat s2) ([] : List Int))).bind fun y12 =>
    bif (!y12) then
     some (.inr (.inr ()))
    else
     some (.inl (wadd .i64 s2 (1 : Int)))))
 else
  some (.inr (.inl ()))

noncomputable def slices_EqualFunc_____int64_____int64___int64___int64_fn2_slices_Equal___int64_int64 (a0 : List (List Int)) (a1 : List (List Int)) : Option (Bool) :=
 bif ((lenI a0) != (lenI a1)) then
  some false
 else
  (rounds (slices_EqualFunc_____int64_____int64___int64___int64_fn2_slices_Equal___int64_int64_B1 a0 a1) (0 : Int)).bind fun r3 => match r3 with
   | .inl r4 =>
    some true
   | .inr r5 =>
    some false

theorem f136_fn2_slices_Equal___int64_int64_ok {a0 : List (List Int)} {a1 : List (List Int)} {r : Bool} (hr : slices_EqualFunc_____int64_____int64___int64___int64_fn2_slices_Equal___int64_int64 a0 a1 = some r) : CallOK Try.prog 136 [.imm (.sl tLI) a0, .imm (.sl tLI) a1, .fn 112] [⟨false, .bool, r⟩] [] := by
 unfold slices_EqualFunc_____int64_____int64___int64___int64_fn2_slices_Equal___int64_int64 at hr
 refine CallOK.of_body (ts := [(false, .bool)]) Try.func136 rfl (by kernel_rfl) (Nat.le_of_ble_eq_true (by kernel_rfl)) fun cx hP hN hO hF => ?_
 have hO : cx.own.map Prod.fst = [] := hO
 have hX := CxIs.mk hP hN hO
 have hF := hF rfl
 show HT cx ⟨[(0, .one (.dat (.sl tLI) a0)), (1, .one (.dat (.sl tLI) a1)), (2, .one (.fn 112))], [], 0⟩ _ _
 refine HT.rg2 [oH] ⟨[(0, .one (.dat (.sl tLI) a0)), (1, .one (.dat (.sl tLI) a1)), (2, .one (.fn 112))], [], 0⟩ hX (by kernel_rfl) aN ?_
 refine HT.seq ?_
 refine HT.rg2 (oHs 5) ⟨[(0, .one (.dat (.sl tLI) a0)), (1, .one (.dat (.sl tLI) a1)), (2, .one (.fn 112)), (14, bV ((lenI a0) != (lenI a1)))], [], 0⟩ hX (by kernel_rfl) aN ?_
 rcases of_bif hr with ⟨hb1, hr⟩ | ⟨hb1, hr⟩
 ·refine HT.cond1 rfl hb1 ?_
  refine HT.rg2 [oH] ⟨[(6, bV false)], [], 0⟩ hX (by kernel_rfl) aN ?_
  have hr := of_some hr
  subst hr
  exact HT.ret (qThenR ⟨[bV false], [], [], by kernel_rfl, by kernel_rfl, rfl, by kernel_rfl, by kernel_rfl, trivial⟩)
 ·refine HT.cond0 rfl hb1 ?_
  refine HT.skip (qThen ?_)
  refine HT.seq ?_
  refine HT.rg2 (oHs 3) ⟨[(1, .one (.dat (.sl tLI) a1)), (2, .one (.fn 112)), (15, .one (.dat (.sl tLI) a0)), (16, iV (lenI a0)), (17, iV (0 : Int))], [], 0⟩ hX (by kernel_rfl) aN ?_
  refine HT.block ?_
  obtain ⟨r3, hL15, hr⟩ := of_bind hr
  refine HT.loopL (fun (s2 : Int) => ⟨[(1, .one (.dat (.sl tLI) a1)), (2, .one (.fn 112)), (15, .one (.dat (.sl tLI) a0)), (16, iV (lenI a0)), (17, iV s2)], [], 0⟩) (fun (r3 : Unit ⊕ Unit) => match r3 with | .inl r4 => (.exit 0, ⟨[], [], 0⟩) | .inr r5 => (.ret, ⟨[(6, bV false)], [], 0⟩)) (Le.re [] [] hX (by kernel_rfl)) hL15 ?_ (fun s2 x6 hx7 hk8 => ?_)
  ·rcases r3 with r4 | r5
   ·refine (qBlockX (qThen ?_))
    refine HT.rg2 [oH] ⟨[(6, bV true)], [], 0⟩ hX (by kernel_rfl) aN ?_
    have hr := of_some hr
    subst hr
    exact HT.ret ⟨[bV true], [], [], by kernel_rfl, by kernel_rfl, rfl, by kernel_rfl, by kernel_rfl, trivial⟩
   ·have hr := of_some hr
    subst hr
    exact (qBlockR (qThenR ⟨[bV false], [], [], by kernel_rfl, by kernel_rfl, rfl, by kernel_rfl, by kernel_rfl, trivial⟩))
  ·refine HT.rg2 [oH] ⟨[(1, .one (.dat (.sl tLI) a1)), (2, .one (.fn 112)), (15, .one (.dat (.sl tLI) a0)), (16, iV (lenI a0)), (17, iV s2), (18, bV (decide (s2 < (lenI a0))))], [], 0⟩ hX (by kernel_rfl) aN ?_
   refine HT.seq ?_
   rcases of_bif hx7 with ⟨hb9, hx7⟩ | ⟨hb9, hx7⟩
   ·refine HT.cond1 rfl hb9 ?_
    refine HT.skip (qThen ?_)
    refine HT.seq ?_
    refine HT.block ?_
    obtain ⟨hg10, hx7⟩ := of_guard hx7
    refine HT.rg2 (oHs 5) ⟨[(1, .one (.dat (.sl tLI) a1)), (2, .one (.fn 112)), (7, iV s2), (8, nV (List.getD a0 (Int.toNat s2) ([] : List Int))), (15, .one (.dat (.sl tLI) a0)), (16, iV (lenI a0)), (17, iV s2)], [], 0⟩ hX (by kernel_rfl) (aC hg10 aN) ?_
    obtain ⟨hg11, hx7⟩ := of_guard hx7
    refine HT.rg2 (oHs 5) ⟨[(1, .one (.dat (.sl tLI) a1)), (2, .one (.fn 112)), (8, nV (List.getD a0 (Int.toNat s2) ([] : List Int))), (9, nV (List.getD a1 (Int.toNat s2) ([] : List Int))), (15, .one (.dat (.sl tLI) a0)), (16, iV (lenI a0)), (17, iV s2)], [], 0⟩ hX (by kernel_rfl) (aC hg11 aN) ?_
    obtain ⟨y12, hc13, hx7⟩ := of_bind hx7
    refine HT.rg2 [oH, oH, oH, ⟨none, .call [.imm tLI, .imm tLI] [⟨false, .bool, y12⟩] []⟩, oH] ⟨[(1, .one (.dat (.sl tLI) a1)), (2, .one (.fn 112)), (15, .one (.dat (.sl tLI) a0)), (16, iV (lenI a0)), (17, iV s2), (30, bV (!y12))], [], 0⟩ hX (by kernel_rfl) (aC (f112_ok hc13) aN) ?_
    rcases of_bif hx7 with ⟨hb14, hx7⟩ | ⟨hb14, hx7⟩
    ·refine HT.cond1 rfl hb14 ?_
     refine HT.rg2 [oH] ⟨[(6, bV false)], [], 0⟩ hX (by kernel_rfl) aN ?_
     have hx7 := of_some hx7
     subst hx7
     exact HT.retL (Le.re [] [] hX (by kernel_rfl)) (qBlockR (qThenR (qLoopR (hk8 (.inr ()) rfl))))
    ·refine HT.cond0 rfl hb14 ?_
     refine HT.skip (qBlock (qThen ?_))
     have hx7 := of_some hx7
     subst hx7
     exact HT.rgK (oHs 2) [] [] hX (by kernel_rfl) aN (fun _ h => (qLoopN ⟨(wadd .i64 s2 (1 : Int)), rfl, h⟩))
   ·refine HT.cond0 rfl hb9 ?_
    have hx7 := of_some hx7
    subst hx7
    exact HT.exitL (Le.re [] [] hX (by kernel_rfl)) (qThenE (qLoopE (hk8 (.inl ()) rfl)))

noncomputable def impl_SameGame (a0 : TyG) (a1 : TyG) : Option (Bool) :=
 (show Option (Bool) from
  (slices_Equal___int64_int64 a0.1 a1.1).bind fun y4 =>
  bif y4 then
   (slices_Equal___int64_int64 a0.2.1 a1.2.1).bind fun y7 =>
   bif y7 then
    (slices_EqualFunc_____int64_____int64___int64___int64_fn2_slices_Equal___int64_int64 a0.2.2 a1.2.2).bind fun y10 =>
    some y10
   else
    some false
  else
   some false).bind fun v1 =>
 some v1

theorem f54_ok {a0 : TyG} {a1 : TyG} {r : Bool} (hr : impl_SameGame a0 a1 = some r) : CallOK Try.prog 54 [.imm tG a0, .imm tG a1] [⟨false, .bool, r⟩] [] := by
 unfold impl_SameGame at hr
 refine CallOK.of_body (ts := [(false, .bool)]) Try.func54 rfl (by kernel_rfl) (Nat.le_of_ble_eq_true (by kernel_rfl)) fun cx hP hN hO hF => ?_
 have hO : cx.own.map Prod.fst = [] := hO
 have hX := CxIs.mk hP hN hO
 have hF := hF rfl
 show HT cx ⟨[(0, .agg [nC a0.1, nC a0.2.1, .dat (.sl tLI) a0.2.2]), (1, .agg [nC a1.1, nC a1.2.1, .dat (.sl tLI) a1.2.2])], [], 0⟩ _ _
 refine HT.rg2 (oHs 3) ⟨[(2, pV 0 0), (3, pV 1 0)], [(1, .box [nC a1.1, nC a1.2.1, .dat (.sl tLI) a1.2.2]), (0, .box [nC a0.1, nC a0.2.1, .dat (.sl tLI) a0.2.2])], 2⟩ hX (by kernel_rfl) aN ?_
 obtain ⟨v1', hT3, hr⟩ := of_bind hr
 refine HT.join (fun (v1 : Bool) => ⟨[(4, bV v1)], [], 0⟩) (fun v => v = v1') (fun v1 hv2 => ?_) (fun cont => ?_)
 ·subst hv2
  have hr := of_some hr
  subst hr
  exact HT.ret ⟨[bV v1], [], [], by kernel_rfl, by kernel_rfl, rfl, by kernel_rfl, by kernel_rfl, trivial⟩
 ·obtain ⟨y4, hc5, hT3⟩ := of_bind hT3
  rcases of_bif hT3 with ⟨hb6, hT3⟩ | ⟨hb6, hT3⟩
  ·obtain ⟨y7, hc8, hT3⟩ := of_bind hT3
   rcases of_bif hT3 with ⟨hb9, hT3⟩ | ⟨hb9, hT3⟩
   ·obtain ⟨y10, hc11, hT3⟩ := of_bind hT3
    exact HT.rgK [oH, oH, oH, oH, ⟨none, .call [.imm tLI, .imm tLI] [⟨false, .bool, y4⟩] []⟩, oH, oT, oT, oT, oT, ⟨some true, .call [.imm tLI, .imm tLI] [⟨false, .bool, y7⟩] []⟩, vT, oH, oT, oT, oT, oT, ⟨some true, .call [.imm (.sl tLI), .imm (.sl tLI), .fn] [⟨false, .bool, y10⟩] []⟩, vT, oH] [] [] hX (by kernel_rfl) (aC (f112_ok hc5) (aC hb6 (aC hb6 (aC hb6 (aC hb6 (aC hb6 (aC (f112_ok hc8) (aC hb6 (aC hb9 (aC hb9 (aC hb9 (aC hb9 (aC hb9 (aC (f136_fn2_slices_Equal___int64_int64_ok hc11) (aC hb9 aN))))))))))))))) (fun _ h => (qThen (h.ht (cont y10 (of_some hT3)))))
   ·exact HT.rgK [oH, oH, oH, oH, ⟨none, .call [.imm tLI, .imm tLI] [⟨false, .bool, y4⟩] []⟩, oH, oT, oT, oT, oT, ⟨some true, .call [.imm tLI, .imm tLI] [⟨false, .bool, y7⟩] []⟩, vT, oH, oF, oF, oF, oF, oF, vF, oH] [] [] hX (by kernel_rfl) (aC (f112_ok hc5) (aC hb6 (aC hb6 (aC hb6 (aC hb6 (aC hb6 (aC (f112_ok hc8) (aC hb6 (aC hb9 (aC hb9 (aC hb9 (aC hb9 (aC hb9 (aC hb9 aN)))))))))))))) (fun _ h => (qThen (h.ht (cont false (of_some hT3)))))
  ·exact HT.rgK [oH, oH, oH, oH, ⟨none, .call [.imm tLI, .imm tLI] [⟨false, .bool, y4⟩] []⟩, oH, oF, oF, oF, oF, oF, vF, oH, oF, oF, oF, oF, oF, vF, oH] [] [] hX (by kernel_rfl) (aC (f112_ok hc5) (aC hb6 (aC hb6 (aC hb6 (aC hb6 (aC hb6 (aC hb6 (aF (aF (aF (aF (aF (aF aN))))))))))))) (fun _ h => (qThen (h.ht (cont false (of_some hT3)))))

noncomputable def spec_l00Same_B1 (a0 : List Int) (a1 : List Int) (s2 : Int) : Option ((Int) ⊕ (Unit ⊕ Unit)) :=
 bif (decide (s2 < (lenI a0))) then
  guardP ((0 : Int) ≤ s2 ∧ s2 < lenI a0) (
   guardP ((0 : Int) ≤ s2 ∧ s2 < lenI a1) (
    bif ((List.getD a0 (Int.toNat s2) (0 : Int)) != (List.getD a1 (Int.toNat s2) (0 : Int))) then
     some (.inr (.inr ()))
    else
     some (.inl (wadd .i64 s2 (1 : Int)))))
 else
  some (.inr (.inl ()))

noncomputable def spec_l00Same (a0 : List Int) (a1 : List Int) : Option (Bool) :=
 bif ((lenI a0) != (lenI a1)) then
  some false
 else
  (rounds (spec_l00Same_B1 a0 a1) (0 : Int)).bind fun r3 => match r3 with
   | .inl r4 =>
    some true
   | .inr r5 =>
    some false

theorem f138_ok {a0 : List Int} {a1 : List Int} {r : Bool} (hr : spec_l00Same a0 a1 = some r) : CallOK Try.prog 138 [.imm tLI a0, .imm tLI a1] [⟨false, .bool, r⟩] [] := by
 unfold spec_l00Same at hr
 refine CallOK.of_body (ts := [(false, .bool)]) Try.func138 rfl (by kernel_rfl) (Nat.le_of_ble_eq_true (by kernel_rfl)) fun cx hP hN hO hF => ?_
 have hO : cx.own.map Prod.fst = [] := hO
 have hX := CxIs.mk hP hN hO
 have hF := hF rfl
 show HT cx ⟨[(0, nV a0), (1, nV a1)], [], 0⟩ _ _
 refine HT.rg2 [oH] ⟨[(0, nV a0), (1, nV a1)], [], 0⟩ hX (by kernel_rfl) aN ?_
 refine HT.seq ?_
 refine HT.rg2 (oHs 5) ⟨[(0, nV a0), (1, nV a1), (10, bV ((lenI a0) != (lenI a1)))], [], 0⟩ hX (by kernel_rfl) aN ?_
 rcases of_bif hr with ⟨hb1, hr⟩ | ⟨hb1, hr⟩
 ·refine HT.cond1 rfl hb1 ?_
  refine HT.rg2 [oH] ⟨[(4, bV false)], [], 0⟩ hX (by kernel_rfl) aN ?_
  have hr := of_some hr
  subst hr
  exact HT.ret (qThenR ⟨[bV false], [], [], by kernel_rfl, by kernel_rfl, rfl, by kernel_rfl, by kernel_rfl, trivial⟩)
 ·refine HT.cond0 rfl hb1 ?_
  refine HT.skip (qThen ?_)
  refine HT.seq ?_
  refine HT.rg2 [oH] ⟨[(0, nV a0), (1, nV a1), (5, iV (0 : Int))], [], 0⟩ hX (by kernel_rfl) aN ?_
  refine HT.block ?_
  obtain ⟨r3, hL13, hr⟩ := of_bind hr
  refine HT.loopL (fun (s2 : Int) => ⟨[(0, nV a0), (1, nV a1), (5, iV s2)], [], 0⟩) (fun (r3 : Unit ⊕ Unit) => match r3 with | .inl r4 => (.exit 0, ⟨[], [], 0⟩) | .inr r5 => (.ret, ⟨[(4, bV false)], [], 0⟩)) (Le.re [] [] hX (by kernel_rfl)) hL13 ?_ (fun s2 x6 hx7 hk8 => ?_)
  ·rcases r3 with r4 | r5
   ·refine (qBlockX (qThen ?_))
    refine HT.rg2 [oH] ⟨[(4, bV true)], [], 0⟩ hX (by kernel_rfl) aN ?_
    have hr := of_some hr
    subst hr
    exact HT.ret ⟨[bV true], [], [], by kernel_rfl, by kernel_rfl, rfl, by kernel_rfl, by kernel_rfl, trivial⟩
   ·have hr := of_some hr
    subst hr
    exact (qBlockR (qThenR ⟨[bV false], [], [], by kernel_rfl, by kernel_rfl, rfl, by kernel_rfl, by kernel_rfl, trivial⟩))
  ·refine HT.seq ?_
   refine HT.rg2 (oHs 4) ⟨[(0, nV a0), (1, nV a1), (5, iV s2), (14, bV (decide (s2 < (lenI a0))))], [], 0⟩ hX (by kernel_rfl) aN ?_
   rcases of_bif hx7 with ⟨hb9, hx7⟩ | ⟨hb9, hx7⟩
   ·refine HT.cond1 rfl hb9 ?_
    refine HT.skip (qThen ?_)
    refine HT.seq ?_
    refine HT.block ?_
    obtain ⟨hg10, hx7⟩ := of_guard hx7
    obtain ⟨hg11, hx7⟩ := of_guard hx7
    refine HT.dr2 8 [⟨oH, []⟩, ⟨oH, []⟩, ⟨oH, [0, 1]⟩, ⟨oH, [0, 1, 2]⟩, ⟨oH, []⟩, ⟨oH, []⟩, ⟨oH, [4, 5]⟩, ⟨oH, [4, 5, 6]⟩] [[0, 1, 2, 3, 4, 5, 6, 7]] [oH] ⟨[(0, nV a0), (1, nV a1), (5, iV s2), (25, bV ((List.getD a0 (Int.toNat s2) (0 : Int)) != (List.getD a1 (Int.toNat s2) (0 : Int))))], [], 0⟩ hX (by kernel_rfl) (by kernel_rfl) (aC hg10 (aC hg11 aN)) ?_
    rcases of_bif hx7 with ⟨hb12, hx7⟩ | ⟨hb12, hx7⟩
    ·refine HT.cond1 rfl hb12 ?_
     refine HT.rg2 [oH] ⟨[(4, bV false)], [], 0⟩ hX (by kernel_rfl) aN ?_
     have hx7 := of_some hx7
     subst hx7
     exact HT.retL (Le.re [] [] hX (by kernel_rfl)) (qBlockR (qThenR (qLoopR (hk8 (.inr ()) rfl))))
    ·refine HT.cond0 rfl hb12 ?_
     refine HT.skip (qBlock (qThen ?_))
     have hx7 := of_some hx7
     subst hx7
     exact HT.rgK (oHs 3) [] [] hX (by kernel_rfl) aN (fun _ h => (qLoopN ⟨(wadd .i64 s2 (1 : Int)), rfl, h⟩))
   ·refine HT.cond0 rfl hb9 ?_
    have hx7 := of_some hx7
    subst hx7
    exact HT.exitL (Le.re [] [] hX (by kernel_rfl)) (qThenE (qLoopE (hk8 (.inl ()) rfl)))

noncomputable def spec_l00Has_B1 (a0 : List Int) (a1 : Int) (s1 : Int) : Option ((Int) ⊕ (Unit ⊕ Unit)) :=
 bif (decide (s1 < (lenI a0))) then
  guardP ((0 : Int) ≤ s1 ∧ s1 < lenI a0) (
   bif ((List.getD a0 (Int.toNat s1) (0 : Int)) == a1) then
    some (.inr (.inr ()))
   else
    some (.inl (wadd .i64 s1 (1 : Int))))
 else
  some (.inr (.inl ()))

noncomputable def spec_l00Has (a0 : List Int) (a1 : Int) : Option (Bool) :=
 (rounds (spec_l00Has_B1 a0 a1) (0 : Int)).bind fun r2 => match r2 with
  | .inl r3 =>
   some false
  | .inr r4 =>
   some true

theorem f137_ok {a0 : List Int} {a1 : Int} {r : Bool} (hr : spec_l00Has a0 a1 = some r) : CallOK Try.prog 137 [.imm tLI a0, .imm tI a1] [⟨false, .bool, r⟩] [] := by
 unfold spec_l00Has at hr
 refine CallOK.of_body (ts := [(false, .bool)]) Try.func137 rfl (by kernel_rfl) (Nat.le_of_ble_eq_true (by kernel_rfl)) fun cx hP hN hO hF => ?_
 have hO : cx.own.map Prod.fst = [] := hO
 have hX := CxIs.mk hP hN hO
 have hF := hF rfl
 show HT cx ⟨[(0, nV a0), (1, iV a1)], [], 0⟩ _ _
 refine HT.rg2 [oH] ⟨[(0, nV a0), (1, iV a1)], [], 0⟩ hX (by kernel_rfl) aN ?_
 refine HT.seq ?_
 refine HT.rg2 [oH] ⟨[(0, nV a0), (1, iV a1), (5, iV (0 : Int))], [], 0⟩ hX (by kernel_rfl) aN ?_
 refine HT.block ?_
 obtain ⟨r2, hL11, hr⟩ := of_bind hr
 refine HT.loopL (fun (s1 : Int) => ⟨[(0, nV a0), (1, iV a1), (5, iV s1)], [], 0⟩) (fun (r2 : Unit ⊕ Unit) => match r2 with | .inl r3 => (.exit 0, ⟨[], [], 0⟩) | .inr r4 => (.ret, ⟨[(4, bV true)], [], 0⟩)) (Le.re [] [] hX (by kernel_rfl)) hL11 ?_ (fun s1 x5 hx6 hk7 => ?_)
 ·rcases r2 with r3 | r4
  ·refine (qBlockX (qThen ?_))
   refine HT.rg2 [oH] ⟨[(4, bV false)], [], 0⟩ hX (by kernel_rfl) aN ?_
   have hr := of_some hr
   subst hr
   exact HT.ret ⟨[bV false], [], [], by kernel_rfl, by kernel_rfl, rfl, by kernel_rfl, by kernel_rfl, trivial⟩
  ·have hr := of_some hr
   subst hr
   exact (qBlockR (qThenR ⟨[bV true], [], [], by kernel_rfl, by kernel_rfl, rfl, by kernel_rfl, by kernel_rfl, trivial⟩))
 ·refine HT.seq ?_
  refine HT.rg2 (oHs 4) ⟨[(0, nV a0), (1, iV a1), (5, iV s1), (9, bV (decide (s1 < (lenI a0))))], [], 0⟩ hX (by kernel_rfl) aN ?_
  rcases of_bif hx6 with ⟨hb8, hx6⟩ | ⟨hb8, hx6⟩
  ·refine HT.cond1 rfl hb8 ?_
   refine HT.skip (qThen ?_)
   refine HT.seq ?_
   refine HT.block ?_
   obtain ⟨hg9, hx6⟩ := of_guard hx6
   refine HT.rg2 (oHs 6) ⟨[(0, nV a0), (1, iV a1), (5, iV s1), (17, bV ((List.getD a0 (Int.toNat s1) (0 : Int)) == a1))], [], 0⟩ hX (by kernel_rfl) (aC hg9 aN) ?_
   rcases of_bif hx6 with ⟨hb10, hx6⟩ | ⟨hb10, hx6⟩
   ·refine HT.cond1 rfl hb10 ?_
    refine HT.rg2 [oH] ⟨[(4, bV true)], [], 0⟩ hX (by kernel_rfl) aN ?_
    have hx6 := of_some hx6
    subst hx6
    exact HT.retL (Le.re [] [] hX (by kernel_rfl)) (qBlockR (qThenR (qLoopR (hk7 (.inr ()) rfl))))
   ·refine HT.cond0 rfl hb10 ?_
    refine HT.skip (qBlock (qThen ?_))
    have hx6 := of_some hx6
    subst hx6
    exact HT.rgK (oHs 3) [] [] hX (by kernel_rfl) aN (fun _ h => (qLoopN ⟨(wadd .i64 s1 (1 : Int)), rfl, h⟩))
  ·refine HT.cond0 rfl hb8 ?_
   have hx6 := of_some hx6
   subst hx6
   exact HT.exitL (Le.re [] [] hX (by kernel_rfl)) (qThenE (qLoopE (hk7 (.inl ()) rfl)))

noncomputable def spec_IsWinning_B1 (a1 : List Int) (r9 : List (List Int)) (s10 : Int) (s23 : Int) : Option ((Int) ⊕ (Unit ⊕ Unit)) :=
 bif (decide (s23 < (lenI (List.getD r9 (Int.toNat s10) ([] : List Int))))) then
  guardP ((0 : Int) ≤ s23 ∧ s23 < lenI (List.getD r9 (Int.toNat s10) ([] : List Int))) (
   guardP ((0 : Int) ≤ (List.getD (List.getD r9 (Int.toNat s10) ([] : List Int)) (Int.toNat s23) (0 : Int)) ∧ (List.getD (List.getD r9 (Int.toNat s10) ([] : List Int)) (Int.toNat s23) (0 : Int)) < lenI a1) (
    guardP ((0 : Int) ≤ s10 ∧ s10 < lenI a1) (
     bif ((List.getD a1 (Int.toNat (List.getD (List.getD r9 (Int.toNat s10) ([] : List Int)) (Int.toNat s23) (0 : Int))) (0 : Int)) != (List.getD a1 (Int.toNat s10) (0 : Int))) then
      some (.inr (.inr ()))
     else
      some (.inl (wadd .i64 s23 (1 : Int))))))
 else
  some (.inr (.inl ()))

noncomputable def spec_IsWinning_B2 (a1 : List Int) (r9 : List (List Int)) (s10 : Int) : Option ((Int) ⊕ (Unit ⊕ Unit)) :=
 bif (decide (s10 < (lenI a1))) then
  guardP ((0 : Int) ≤ s10 ∧ s10 < lenI r9) (
   (rounds (spec_IsWinning_B1 a1 r9 s10) (0 : Int)).bind fun r24 => match r24 with
    | .inl r25 =>
     some (.inl (wadd .i64 s10 (1 : Int)))
    | .inr r26 =>
     some (.inr (.inr ())))
 else
  some (.inr (.inl ()))

noncomputable def spec_IsWinning_B3 (a0 : TyG) (a1 : List Int) (a2 : List Int) (s7 : Int × List (List Int)) : Option ((Int × List (List Int)) ⊕ (List (List Int) ⊕ Unit)) :=
 bif (decide (s7.1 < (lenI a1))) then
  (show Option (List (List Int) ⊕ ((Int × List (List Int)) ⊕ (List (List Int) ⊕ Unit))) from
   guardP ((0 : Int) ≤ s7.1 ∧ s7.1 < lenI a1) (
    (spec_l00In (List.getD a1 (Int.toNat s7.1) (0 : Int)) (0 : Int) (1 : Int)).bind fun y47 =>
    bif (!y47) then
     inrO (some (.inr (.inr ())))
    else
     guardP ((0 : Int) ≤ s7.1 ∧ s7.1 < lenI a0.1) (
      bif ((List.getD a0.1 (Int.toNat s7.1) (0 : Int)) != (List.getD a1 (Int.toNat s7.1) (0 : Int))) then
       guardP ((0 : Int) ≤ s7.1 ∧ s7.1 < lenI a2) (
        bif ((List.getD a2 (Int.toNat s7.1) (0 : Int)) != (-1 : Int)) then
         inrO (some (.inr (.inr ())))
        else
         some (.inl s7.2))
      else
       guardP ((0 : Int) ≤ s7.1 ∧ s7.1 < lenI a0.2.2) (
        guardP ((0 : Int) ≤ s7.1 ∧ s7.1 < lenI a2) (
         (spec_l00Has (List.getD a0.2.2 (Int.toNat s7.1) ([] : List Int)) (List.getD a2 (Int.toNat s7.1) (0 : Int))).bind fun y62 =>
         bif (!y62) then
          inrO (some (.inr (.inr ())))
         else
          guardP ((0 : Int) ≤ s7.1 ∧ s7.1 < lenI s7.2) (
           some (.inl (List.set s7.2 (Int.toNat s7.1) ([(List.getD a2 (Int.toNat s7.1) (0 : Int))] : List Int))))))))).bind fun w45 => match w45 with
   | .inl v42 =>
    some (.inl ((wadd .i64 s7.1 (1 : Int)), v42))
   | .inr z => some z
 else
  some (.inr (.inl s7.2))

noncomputable def spec_IsWinning (a0 : TyG) (a1 : List Int) (a2 : List Int) : Option (Bool) :=
 (show Option (Bool) from
  (spec_l07Game (a0.1, a0.2.1, a0.2.2)).bind fun y70 =>
  bif (!y70) then
   some true
  else
   bif ((lenI a1) != (lenI a0.1)) then
    some true
   else
    some ((lenI a2) != (lenI a0.1))).bind fun v1 =>
 bif v1 then
  some false
 else
  (spec_l07OwnGame (a0.1, a0.2.1, a0.2.2)).bind fun y5 =>
  (rounds (spec_IsWinning_B3 a0 a1 a2) ((0 : Int), y5.2.2)).bind fun r8 => match r8 with
   | .inl r9 =>
    (rounds (spec_IsWinning_B2 a1 r9) (0 : Int)).bind fun r11 => match r11 with
     | .inl r12 =>
      (spec_l07Solve (y5.1, y5.2.1, r9)).bind fun y13 =>
      (spec_l00Same y13 a1).bind fun y15 =>
      some y15
     | .inr r17 =>
      some false
   | .inr r37 =>
    some false

theorem f56_ok {a0 : TyG} {a1 : List Int} {a2 : List Int} {r : Bool} (hr : spec_IsWinning a0 a1 a2 = some r) : CallOK Try.prog 56 [.imm tG a0, .imm tLI a1, .imm tLI a2] [⟨false, .bool, r⟩] [] := by
 unfold spec_IsWinning at hr
 refine CallOK.of_body (ts := [(false, .bool)]) Try.func56 rfl (by kernel_rfl) (Nat.le_of_ble_eq_true (by kernel_rfl)) fun cx hP hN hO hF => ?_
 have hO : cx.own.map Prod.fst = [] := hO
 have hX := CxIs.mk hP hN hO
 have hF := hF rfl
 show HT cx ⟨[(0, .agg [nC a0.1, nC a0.2.1, .dat (.sl tLI) a0.2.2]), (1, nV a1), (2, nV a2)], [], 0⟩ _ _
 refine HT.rg2 (oHs 2) ⟨[(1, nV a1), (2, nV a2), (3, pV 0 0)], [(0, .box [nC a0.1, nC a0.2.1, .dat (.sl tLI) a0.2.2])], 1⟩ hX (by kernel_rfl) aN ?_
 refine HT.rg2 (oHs 4) ⟨[(1, nV a1), (2, nV a2), (3, pV 0 0), (7, iV (lenI a0.1))], [(0, .box [nC a0.1, nC a0.2.1, .dat (.sl tLI) a0.2.2])], 1⟩ hX (by kernel_rfl) aN ?_
 refine HT.seq ?_
 obtain ⟨v1', hT3, hr⟩ := of_bind hr
 refine HT.join (fun (v1 : Bool) => ⟨[(1, nV a1), (2, nV a2), (3, pV 0 0), (28, bV v1)], [(0, .box [nC a0.1, nC a0.2.1, .dat (.sl tLI) a0.2.2])], 1⟩) (fun v => v = v1') (fun v1 hv2 => ?_) (fun cont => ?_)
 ·subst hv2
  rcases of_bif hr with ⟨hb4, hr⟩ | ⟨hb4, hr⟩
  ·refine HT.cond1 rfl hb4 ?_
   refine HT.rg2 [oH] ⟨[(6, bV false)], [], 1⟩ hX (by kernel_rfl) aN ?_
   have hr := of_some hr
   subst hr
   exact HT.ret (qThenR ⟨[bV false], [], [], by kernel_rfl, by kernel_rfl, rfl, by kernel_rfl, by kernel_rfl, trivial⟩)
  ·refine HT.cond0 rfl hb4 ?_
   refine HT.skip (qThen ?_)
   obtain ⟨y5, hc6, hr⟩ := of_bind hr
   refine HT.rg2 [⟨none, .call [.pimm tG] [⟨true, (.st (.pair tLI (.pair tLI (.sl (.own tI))))), y5⟩] []⟩, oH, oH] ⟨[(1, nV a1), (2, nV a2), (3, pV 0 0), (8, pV 4 0)], [(4, .box [.all 1, .all 2, .all 3]), (1, .seq tI y5.1), (2, .seq tI y5.2.1), (3, .seq (.own tI) y5.2.2), (0, .box [nC a0.1, nC a0.2.1, .dat (.sl tLI) a0.2.2])], 5⟩ hX (by kernel_rfl) (aC (f131_ok hc6) aN) ?_
   refine HT.seq ?_
   refine HT.rg2 (oHs 3) ⟨[(1, nV a1), (2, nV a2), (3, pV 0 0), (8, pV 4 0), (31, iV (lenI a1)), (32, iV (0 : Int))], [(4, .box [.all 1, .all 2, .all 3]), (1, .seq tI y5.1), (2, .seq tI y5.2.1), (3, .seq (.own tI) y5.2.2), (0, .box [nC a0.1, nC a0.2.1, .dat (.sl tLI) a0.2.2])], 5⟩ hX (by kernel_rfl) aN ?_
   refine HT.block ?_
   obtain ⟨r8, hL69, hr⟩ := of_bind hr
   refine HT.loopL (fun (s7 : Int × List (List Int)) => ⟨[(1, nV a1), (2, nV a2), (3, pV 0 0), (8, pV 1 0), (31, iV (lenI a1)), (32, iV s7.1)], [(0, .box [nC a0.1, nC a0.2.1, .dat (.sl tLI) a0.2.2]), (1, .box [.all 2, .all 3, .all 4]), (2, .seq tI y5.1), (3, .seq tI y5.2.1), (4, .seq (.own tI) s7.2)], 5⟩) (fun (r8 : List (List Int) ⊕ Unit) => match r8 with | .inl r9 => (.exit 0, ⟨[(1, nV a1), (8, pV 0 0)], [(0, .box [.all 1, .all 2, .all 3]), (1, .seq tI y5.1), (2, .seq tI y5.2.1), (3, .seq (.own tI) r9)], 4⟩) | .inr r37 => (.ret, ⟨[(6, bV false)], [], 0⟩)) (Le.re [(0, 0), (4, 1), (1, 2), (2, 3), (3, 4)] [] hX (by kernel_rfl)) hL69 ?_ (fun s7 x38 hx39 hk40 => ?_)
   ·rcases r8 with r9 | r37
    ·refine (qBlockX (qThen ?_))
     refine HT.seq ?_
     refine HT.rg2 (oHs 3) ⟨[(1, nV a1), (8, pV 0 0), (78, iV (lenI a1)), (79, iV (0 : Int))], [(0, .box [.all 1, .all 2, .all 3]), (1, .seq tI y5.1), (2, .seq tI y5.2.1), (3, .seq (.own tI) r9)], 4⟩ hX (by kernel_rfl) aN ?_
     refine HT.block ?_
     obtain ⟨r11, hL36, hr⟩ := of_bind hr
     refine HT.loopL (fun (s10 : Int) => ⟨[(1, nV a1), (8, pV 0 0), (78, iV (lenI a1)), (79, iV s10)], [(0, .box [.all 1, .all 2, .all 3]), (1, .seq tI y5.1), (2, .seq tI y5.2.1), (3, .seq (.own tI) r9)], 4⟩) (fun (r11 : Unit ⊕ Unit) => match r11 with | .inl r12 => (.exit 2, ⟨[(1, nV a1), (8, pV 0 0)], [(0, .box [.all 1, .all 2, .all 3]), (1, .seq tI y5.1), (2, .seq tI y5.2.1), (3, .seq (.own tI) r9)], 4⟩) | .inr r17 => (.ret, ⟨[(6, bV false)], [], 0⟩)) (Le.re [(0, 0), (1, 1), (2, 2), (3, 3)] [] hX (by kernel_rfl)) hL36 ?_ (fun s10 x18 hx19 hk20 => ?_)
     ·rcases r11 with r12 | r17
      ·refine (qBlockX (qThen ?_))
       obtain ⟨y13, hc14, hr⟩ := of_bind hr
       obtain ⟨y15, hc16, hr⟩ := of_bind hr
       refine HT.rg2 [⟨none, .call [.pimm tG] [⟨true, tLI, y13⟩] []⟩, oH, ⟨none, .call [.imm tLI, .imm tLI] [⟨false, .bool, y15⟩] []⟩, oH] ⟨[(6, bV y15)], [], 5⟩ hX (by kernel_rfl) (aC (f128_ok hc14) (aC (f138_ok hc16) aN)) ?_
       have hr := of_some hr
       subst hr
       exact HT.ret ⟨[bV y15], [], [], by kernel_rfl, by kernel_rfl, rfl, by kernel_rfl, by kernel_rfl, trivial⟩
      ·have hr := of_some hr
       subst hr
       exact (qBlockR (qThenR ⟨[bV false], [], [], by kernel_rfl, by kernel_rfl, rfl, by kernel_rfl, by kernel_rfl, trivial⟩))
     ·refine HT.rg2 [oH] ⟨[(1, nV a1), (8, pV 0 0), (78, iV (lenI a1)), (79, iV s10), (80, bV (decide (s10 < (lenI a1))))], [(0, .box [.all 1, .all 2, .all 3]), (1, .seq tI y5.1), (2, .seq tI y5.2.1), (3, .seq (.own tI) r9)], 4⟩ hX (by kernel_rfl) aN ?_
      refine HT.seq ?_
      rcases of_bif hx19 with ⟨hb21, hx19⟩ | ⟨hb21, hx19⟩
      ·refine HT.cond1 rfl hb21 ?_
       refine HT.skip (qThen ?_)
       refine HT.seq ?_
       refine HT.block ?_
       refine HT.rg2 (oHs 2) ⟨[(1, nV a1), (8, pV 0 0), (10, iV s10), (78, iV (lenI a1)), (79, iV s10)], [(0, .box [.all 1, .all 2, .all 3]), (1, .seq tI y5.1), (2, .seq tI y5.2.1), (3, .seq (.own tI) r9)], 4⟩ hX (by kernel_rfl) aN ?_
       obtain ⟨hg22, hx19⟩ := of_guard hx19
       refine HT.rg2 (oHs 7) ⟨[(1, nV a1), (8, pV 0 0), (10, iV s10), (78, iV (lenI a1)), (79, iV s10), (87, iV (lenI (List.getD r9 (Int.toNat s10) ([] : List Int)))), (88, iV (0 : Int))], [(0, .box [.all 1, .all 2, .all 3]), (1, .seq tI y5.1), (2, .seq tI y5.2.1), (3, .seq (.own tI) r9)], 4⟩ hX (by kernel_rfl) (aC hg22 (aC (natLt hg22) aN)) ?_
       refine HT.block ?_
       obtain ⟨r24, hL35, hx19⟩ := of_bind hx19
       refine HT.loopL (fun (s23 : Int) => ⟨[(1, nV a1), (8, pV 0 0), (10, iV s10), (78, iV (lenI a1)), (79, iV s10), (87, iV (lenI (List.getD r9 (Int.toNat s10) ([] : List Int)))), (88, iV s23)], [(0, .box [.all 1, .all 2, .all 3]), (1, .seq tI y5.1), (2, .seq tI y5.2.1), (3, .seq (.own tI) r9)], 4⟩) (fun (r24 : Unit ⊕ Unit) => match r24 with | .inl r25 => (.exit 4, ⟨[(1, nV a1), (8, pV 0 0), (78, iV (lenI a1)), (79, iV s10)], [(0, .box [.all 1, .all 2, .all 3]), (1, .seq tI y5.1), (2, .seq tI y5.2.1), (3, .seq (.own tI) r9)], 4⟩) | .inr r26 => (.ret, ⟨[(6, bV false)], [], 0⟩)) (Le.re [(0, 0), (1, 1), (2, 2), (3, 3)] [] hX (by kernel_rfl)) hL35 ?_ (fun s23 x27 hx28 hk29 => ?_)
       ·rcases r24 with r25 | r26
        ·refine (qBlockX (qBlock (qThen ?_)))
         have hx19 := of_some hx19
         subst hx19
         exact HT.rgK (oHs 2) [(0, 0), (1, 1), (2, 2), (3, 3)] [] hX (by kernel_rfl) aN (fun _ h => (qLoopN ⟨(wadd .i64 s10 (1 : Int)), rfl, h⟩))
        ·have hx19 := of_some hx19
         subst hx19
         exact (qBlockR (qBlockR (qThenR (qLoopR (hk20 (.inr ()) rfl)))))
       ·refine HT.rg2 [oH] ⟨[(1, nV a1), (8, pV 0 0), (10, iV s10), (78, iV (lenI a1)), (79, iV s10), (87, iV (lenI (List.getD r9 (Int.toNat s10) ([] : List Int)))), (88, iV s23), (89, bV (decide (s23 < (lenI (List.getD r9 (Int.toNat s10) ([] : List Int))))))], [(0, .box [.all 1, .all 2, .all 3]), (1, .seq tI y5.1), (2, .seq tI y5.2.1), (3, .seq (.own tI) r9)], 4⟩ hX (by kernel_rfl) aN ?_
        refine HT.seq ?_
        rcases of_bif hx28 with ⟨hb30, hx28⟩ | ⟨hb30, hx28⟩
        ·refine HT.cond1 rfl hb30 ?_
         refine HT.skip (qThen ?_)
         refine HT.seq ?_
         refine HT.block ?_
         refine HT.rg2 (oHs 2) ⟨[(1, nV a1), (8, pV 0 0), (10, iV s10), (11, iV s23), (78, iV (lenI a1)), (79, iV s10), (87, iV (lenI (List.getD r9 (Int.toNat s10) ([] : List Int)))), (88, iV s23)], [(0, .box [.all 1, .all 2, .all 3]), (1, .seq tI y5.1), (2, .seq tI y5.2.1), (3, .seq (.own tI) r9)], 4⟩ hX (by kernel_rfl) aN ?_
         obtain ⟨hg31, hx28⟩ := of_guard hx28
         obtain ⟨hg32, hx28⟩ := of_guard hx28
         obtain ⟨hg33, hx28⟩ := of_guard hx28
         refine HT.dr2 15 [⟨oH, []⟩, ⟨oH, []⟩, ⟨oH, [1]⟩, ⟨oH, []⟩, ⟨oH, [1, 2, 3]⟩, ⟨oH, [1, 2, 3, 4]⟩, ⟨oH, []⟩, ⟨oH, [1, 2, 3, 4, 5, 6]⟩, ⟨oH, [1, 2, 3, 4, 5, 6, 7]⟩, ⟨oH, [0, 1, 2, 3, 4, 5, 6, 7, 8]⟩, ⟨oH, [0, 1, 2, 3, 4, 5, 6, 7, 8, 9]⟩, ⟨oH, []⟩, ⟨oH, []⟩, ⟨oH, [11, 12]⟩, ⟨oH, [11, 12, 13]⟩] [[0, 1, 2, 3, 4, 5, 6, 7, 8, 9, 10, 11, 12, 13, 14]] [oH] ⟨[(1, nV a1), (8, pV 0 0), (10, iV s10), (78, iV (lenI a1)), (79, iV s10), (87, iV (lenI (List.getD r9 (Int.toNat s10) ([] : List Int)))), (88, iV s23), (106, bV ((List.getD a1 (Int.toNat (List.getD (List.getD r9 (Int.toNat s10) ([] : List Int)) (Int.toNat s23) (0 : Int))) (0 : Int)) != (List.getD a1 (Int.toNat s10) (0 : Int))))], [(0, .box [.all 1, .all 2, .all 3]), (1, .seq tI y5.1), (2, .seq tI y5.2.1), (3, .seq (.own tI) r9)], 4⟩ hX (by kernel_rfl) (by kernel_rfl) (aC hg22 (aC (natLt hg22) (aC hg31 (aC (natLt hg31) (aC hg32 (aC hg33 aN)))))) ?_
         rcases of_bif hx28 with ⟨hb34, hx28⟩ | ⟨hb34, hx28⟩
         ·refine HT.cond1 rfl hb34 ?_
          refine HT.rg2 [oH] ⟨[(6, bV false)], [], 4⟩ hX (by kernel_rfl) aN ?_
          have hx28 := of_some hx28
          subst hx28
          exact HT.retL (Le.re [] [] hX (by kernel_rfl)) (qBlockR (qThenR (qLoopR (hk29 (.inr ()) rfl))))
         ·refine HT.cond0 rfl hb34 ?_
          refine HT.skip (qBlock (qThen ?_))
          have hx28 := of_some hx28
          subst hx28
          exact HT.rgK (oHs 2) [(0, 0), (1, 1), (2, 2), (3, 3)] [] hX (by kernel_rfl) aN (fun _ h => (qLoopN ⟨(wadd .i64 s23 (1 : Int)), rfl, h⟩))
        ·refine HT.cond0 rfl hb30 ?_
         have hx28 := of_some hx28
         subst hx28
         exact HT.exitL (Le.re [(0, 0), (1, 1), (2, 2), (3, 3)] [] hX (by kernel_rfl)) (qThenE (qLoopE (hk29 (.inl ()) rfl)))
      ·refine HT.cond0 rfl hb21 ?_
       have hx19 := of_some hx19
       subst hx19
       exact HT.exitL (Le.re [(0, 0), (1, 1), (2, 2), (3, 3)] [] hX (by kernel_rfl)) (qThenE (qLoopE (hk20 (.inl ()) rfl)))
    ·have hr := of_some hr
     subst hr
     exact (qBlockR (qThenR ⟨[bV false], [], [], by kernel_rfl, by kernel_rfl, rfl, by kernel_rfl, by kernel_rfl, trivial⟩))
   ·refine HT.rg2 [oH] ⟨[(1, nV a1), (2, nV a2), (3, pV 0 0), (8, pV 1 0), (31, iV (lenI a1)), (32, iV s7.1), (33, bV (decide (s7.1 < (lenI a1))))], [(0, .box [nC a0.1, nC a0.2.1, .dat (.sl tLI) a0.2.2]), (1, .box [.all 2, .all 3, .all 4]), (2, .seq tI y5.1), (3, .seq tI y5.2.1), (4, .seq (.own tI) s7.2)], 5⟩ hX (by kernel_rfl) aN ?_
    refine HT.seq ?_
    rcases of_bif hx39 with ⟨hb41, hx39⟩ | ⟨hb41, hx39⟩
    ·refine HT.cond1 rfl hb41 ?_
     refine HT.skip (qThen ?_)
     obtain ⟨w45, hT44, hx39⟩ := of_bind hx39
     refine HT.join (fun (v42 : List (List Int)) => ⟨[(1, nV a1), (2, nV a2), (3, pV 0 0), (8, pV 1 0), (31, iV (lenI a1)), (32, iV s7.1)], [(0, .box [nC a0.1, nC a0.2.1, .dat (.sl tLI) a0.2.2]), (1, .box [.all 2, .all 3, .all 4]), (2, .seq tI y5.1), (3, .seq tI y5.2.1), (4, .seq (.own tI) v42)], 5⟩) (fun v => w45 = Sum.inl v) (fun v42 hv43 => ?_) (fun cont => ?_)
     ·subst hv43
      have hx39 := of_some hx39
      subst hx39
      exact HT.rgK (oHs 2) [(0, 0), (1, 1), (2, 2), (3, 3), (4, 4)] [] hX (by kernel_rfl) aN (fun _ h => (qLoopN ⟨((wadd .i64 s7.1 (1 : Int)), v42), rfl, h⟩))
     ·refine HT.block ?_
      refine HT.rg2 (oHs 2) ⟨[(1, nV a1), (2, nV a2), (3, pV 0 0), (8, pV 1 0), (9, iV s7.1), (31, iV (lenI a1)), (32, iV s7.1)], [(0, .box [nC a0.1, nC a0.2.1, .dat (.sl tLI) a0.2.2]), (1, .box [.all 2, .all 3, .all 4]), (2, .seq tI y5.1), (3, .seq tI y5.2.1), (4, .seq (.own tI) s7.2)], 5⟩ hX (by kernel_rfl) aN ?_
      refine HT.seq ?_
      obtain ⟨hg46, hT44⟩ := of_guard hT44
      obtain ⟨y47, hc48, hT44⟩ := of_bind hT44
      refine HT.rg2 [oH, oH, oH, oH, ⟨none, .call [.imm tI, .imm tI, .imm tI] [⟨false, .bool, y47⟩] []⟩, oH] ⟨[(1, nV a1), (2, nV a2), (3, pV 0 0), (8, pV 1 0), (9, iV s7.1), (31, iV (lenI a1)), (32, iV s7.1), (40, bV (!y47))], [(0, .box [nC a0.1, nC a0.2.1, .dat (.sl tLI) a0.2.2]), (1, .box [.all 2, .all 3, .all 4]), (2, .seq tI y5.1), (3, .seq tI y5.2.1), (4, .seq (.own tI) s7.2)], 5⟩ hX (by kernel_rfl) (aC hg46 (aC (f114_ok hc48) aN)) ?_
      rcases of_bif hT44 with ⟨hb49, hT44⟩ | ⟨hb49, hT44⟩
      ·refine HT.cond1 rfl hb49 ?_
       refine HT.rg2 [oH] ⟨[(6, bV false)], [], 5⟩ hX (by kernel_rfl) aN ?_
       obtain ⟨z50, hT52, hz51⟩ := of_inr hT44
       subst hz51
       have hx39 := hT52.trans hx39
       have hx39 := of_some hx39
       subst hx39
       exact HT.retL (Le.re [] [] hX (by kernel_rfl)) (qThenR (qBlockR (qThenR (qLoopR (hk40 (.inr ()) rfl)))))
      ·refine HT.cond0 rfl hb49 ?_
       refine HT.skip (qThen ?_)
       refine HT.seq ?_
       obtain ⟨hg53, hT44⟩ := of_guard hT44
       refine HT.dr2 9 [⟨oH, []⟩, ⟨oH, [0]⟩, ⟨oH, []⟩, ⟨oH, [0, 1, 2]⟩, ⟨oH, [0, 1, 2, 3]⟩, ⟨oH, []⟩, ⟨oH, []⟩, ⟨oH, [5, 6]⟩, ⟨oH, [5, 6, 7]⟩] [[0, 1, 2, 3, 4, 5, 6, 7, 8]] [oH] ⟨[(1, nV a1), (2, nV a2), (3, pV 0 0), (8, pV 1 0), (9, iV s7.1), (31, iV (lenI a1)), (32, iV s7.1), (50, bV ((List.getD a0.1 (Int.toNat s7.1) (0 : Int)) != (List.getD a1 (Int.toNat s7.1) (0 : Int))))], [(0, .box [nC a0.1, nC a0.2.1, .dat (.sl tLI) a0.2.2]), (1, .box [.all 2, .all 3, .all 4]), (2, .seq tI y5.1), (3, .seq tI y5.2.1), (4, .seq (.own tI) s7.2)], 5⟩ hX (by kernel_rfl) (by kernel_rfl) (aC hg53 (aC hg46 aN)) ?_
       rcases of_bif hT44 with ⟨hb54, hT44⟩ | ⟨hb54, hT44⟩
       ·refine HT.cond1 rfl hb54 ?_
        refine HT.seq ?_
        obtain ⟨hg55, hT44⟩ := of_guard hT44
        refine HT.rg2 (oHs 5) ⟨[(1, nV a1), (2, nV a2), (3, pV 0 0), (8, pV 1 0), (31, iV (lenI a1)), (32, iV s7.1), (55, bV ((List.getD a2 (Int.toNat s7.1) (0 : Int)) != (-1 : Int)))], [(0, .box [nC a0.1, nC a0.2.1, .dat (.sl tLI) a0.2.2]), (1, .box [.all 2, .all 3, .all 4]), (2, .seq tI y5.1), (3, .seq tI y5.2.1), (4, .seq (.own tI) s7.2)], 5⟩ hX (by kernel_rfl) (aC hg55 aN) ?_
        rcases of_bif hT44 with ⟨hb56, hT44⟩ | ⟨hb56, hT44⟩
        ·refine HT.cond1 rfl hb56 ?_
         refine HT.rg2 [oH] ⟨[(6, bV false)], [], 5⟩ hX (by kernel_rfl) aN ?_
         obtain ⟨z57, hT59, hz58⟩ := of_inr hT44
         subst hz58
         have hx39 := hT59.trans hx39
         have hx39 := of_some hx39
         subst hx39
         exact HT.retL (Le.re [] [] hX (by kernel_rfl)) (qThenR (qThenR (qBlockR (qThenR (qLoopR (hk40 (.inr ()) rfl))))))
        ·refine HT.cond0 rfl hb56 ?_
         refine HT.skip (qThen ?_)
         refine HT.exit (qThenE (qBlockX (qThen ?_)))
         exact (Le.re [(0, 0), (1, 1), (2, 2), (3, 3), (4, 4)] [] hX (by kernel_rfl)).ht (cont s7.2 (of_some2 hT44))
       ·refine HT.cond0 rfl hb54 ?_
        refine HT.skip (qThen ?_)
        refine HT.seq ?_
        obtain ⟨hg60, hT44⟩ := of_guard hT44
        obtain ⟨hg61, hT44⟩ := of_guard hT44
        obtain ⟨y62, hc63, hT44⟩ := of_bind hT44
        refine HT.dr2 9 [⟨oH, []⟩, ⟨oH, [0]⟩, ⟨oH, []⟩, ⟨oH, [0, 1, 2]⟩, ⟨oH, [0, 1, 2, 3]⟩, ⟨oH, []⟩, ⟨oH, []⟩, ⟨oH, [5, 6]⟩, ⟨oH, [5, 6, 7]⟩] [[0, 1, 2, 3, 4, 5, 6, 7, 8], [0, 1, 2, 3, 4, 5, 6, 7, 8, 9]] [⟨none, .call [.imm tLI, .imm tI] [⟨false, .bool, y62⟩] []⟩, oH] ⟨[(1, nV a1), (2, nV a2), (3, pV 0 0), (8, pV 1 0), (9, iV s7.1), (31, iV (lenI a1)), (32, iV s7.1), (66, bV (!y62))], [(0, .box [nC a0.1, nC a0.2.1, .dat (.sl tLI) a0.2.2]), (1, .box [.all 2, .all 3, .all 4]), (2, .seq tI y5.1), (3, .seq tI y5.2.1), (4, .seq (.own tI) s7.2)], 5⟩ hX (by kernel_rfl) (by kernel_rfl) (aC hg60 (aC hg61 (aC (f137_ok hc63) aN))) ?_
        rcases of_bif hT44 with ⟨hb64, hT44⟩ | ⟨hb64, hT44⟩
        ·refine HT.cond1 rfl hb64 ?_
         refine HT.rg2 [oH] ⟨[(6, bV false)], [], 5⟩ hX (by kernel_rfl) aN ?_
         obtain ⟨z65, hT67, hz66⟩ := of_inr hT44
         subst hz66
         have hx39 := hT67.trans hx39
         have hx39 := of_some hx39
         subst hx39
         exact HT.retL (Le.re [] [] hX (by kernel_rfl)) (qThenR (qBlockR (qThenR (qLoopR (hk40 (.inr ()) rfl)))))
        ·refine HT.cond0 rfl hb64 ?_
         refine HT.skip (qThen ?_)
         obtain ⟨hg68, hT44⟩ := of_guard hT44
         refine drawC (h := 8) (hrs := [⟨oH, []⟩, ⟨oH, [0]⟩, ⟨oH, []⟩, ⟨oH, []⟩, ⟨oH, []⟩, ⟨oH, [3, 4]⟩, ⟨oH, [3, 4, 5]⟩, ⟨⟨none, .ty tI⟩, [3, 4, 5, 6]⟩]) (tds := [[0, 1, 2, 3, 4, 5, 6, 7], [0, 1, 2, 3, 4, 5, 6, 7, 8]]) (rs := [oH, ⟨none, .opn⟩]) ⟨[(75, .one (.elp 4 (Int.toNat s7.1) 1 0)), (74, aV 5), (73, iV (List.getD a2 (Int.toNat s7.1) (0 : Int))), (72, .one (.ip tI (List.getD a2 (Int.toNat s7.1) (0 : Int)) 0)), (71, iV s7.1), (70, nV a2), (69, iV s7.1), (68, aV 4), (67, pV 1 2), (1, nV a1), (2, nV a2), (3, pV 0 0), (8, pV 1 0), (9, iV s7.1), (31, iV (lenI a1)), (32, iV s7.1), (66, bV (!y62))], [(4, .opn (.own tI) s7.2 (Int.toNat s7.1) [.all 5] [6]), (4, .opn (.own tI) s7.2 (Int.toNat s7.1) [.all 6] [6]), (6, .seq tI (List.getD s7.2 (Int.toNat s7.1) ([] : List Int))), (5, .seq tI ([(List.getD a2 (Int.toNat s7.1) (0 : Int))] : List Int)), (0, .box [nC a0.1, nC a0.2.1, .dat (.sl tLI) a0.2.2]), (1, .box [.all 2, .all 3, .all 4]), (2, .seq tI y5.1), (3, .seq tI y5.2.1), (4, .seq (.own tI) s7.2)], 7⟩ hP hN (by kernel_rfl) (by kernel_rfl) (aC hg61 (aC hg68 (aC (natLt hg68) aN))) (Le.close (own := []) 4 (st' := ⟨[(75, .one (.elp 4 (Int.toNat s7.1) 1 0)), (74, aV 5), (73, iV (List.getD a2 (Int.toNat s7.1) (0 : Int))), (72, .one (.ip tI (List.getD a2 (Int.toNat s7.1) (0 : Int)) 0)), (71, iV s7.1), (70, nV a2), (69, iV s7.1), (68, aV 4), (67, pV 1 2), (1, nV a1), (2, nV a2), (3, pV 0 0), (8, pV 1 0), (9, iV s7.1), (31, iV (lenI a1)), (32, iV s7.1), (66, bV (!y62))], [(4, .seq (.own tI) (List.set s7.2 (Int.toNat s7.1) ([(List.getD a2 (Int.toNat s7.1) (0 : Int))] : List Int))), (5, .gone), (6, .seq tI (List.getD s7.2 (Int.toNat s7.1) ([] : List Int))), (0, .box [nC a0.1, nC a0.2.1, .dat (.sl tLI) a0.2.2]), (1, .box [.all 2, .all 3, .all 4]), (2, .seq tI y5.1), (3, .seq tI y5.2.1)], 7⟩) hO (by kernel_rfl)) (qBlock (qThen ?_))
         exact (Le.re [(0, 0), (1, 1), (2, 2), (3, 3), (4, 4)] [] hX (by kernel_rfl)).ht (cont (List.set s7.2 (Int.toNat s7.1) ([(List.getD a2 (Int.toNat s7.1) (0 : Int))] : List Int)) (of_some2 hT44))
    ·refine HT.cond0 rfl hb41 ?_
     have hx39 := of_some hx39
     subst hx39
     exact HT.exitL (Le.re [(1, 0), (2, 1), (3, 2), (4, 3)] [] hX (by kernel_rfl)) (qThenE (qLoopE (hk40 (.inl s7.2) rfl)))
 ·obtain ⟨y70, hc71, hT3⟩ := of_bind hT3
  rcases of_bif hT3 with ⟨hb72, hT3⟩ | ⟨hb72, hT3⟩
  ·exact HT.rgK [⟨none, .call [.pimm tG] [⟨false, .bool, y70⟩] []⟩, oH, oH, oT, oT, oT, oT, vT, oH, oT, oT, oT, oT, vT] [(0, 0)] [] hX (by kernel_rfl) (aC (f127_ok hc71) (aC hb72 (aC hb72 (aC hb72 (aC hb72 (aC hb72 (aT4 (aT aN)))))))) (fun _ h => (qThen (h.ht (cont true (of_some hT3)))))
  ·rcases of_bif hT3 with ⟨hb73, hT3⟩ | ⟨hb73, hT3⟩
   ·exact HT.rgK [⟨none, .call [.pimm tG] [⟨false, .bool, y70⟩] []⟩, oH, oH, oF, oF, oF, oF, vF, oH, oT, oT, oT, oT, vT] [(0, 0)] [] hX (by kernel_rfl) (aC (f127_ok hc71) (aC hb72 (aC hb72 (aC hb72 (aC hb72 (aC hb72 (aC hb73 (aC hb73 (aC hb73 (aC hb73 (aC hb73 aN))))))))))) (fun _ h => (qThen (h.ht (cont true (of_some hT3)))))
   ·exact HT.rgK [⟨none, .call [.pimm tG] [⟨false, .bool, y70⟩] []⟩, oH, oH, oF, oF, oF, oF, vF, oH, oF, oF, oF, oF, vF] [(0, 0)] [] hX (by kernel_rfl) (aC (f127_ok hc71) (aC hb72 (aC hb72 (aC hb72 (aC hb72 (aC hb72 (aC hb73 (aC hb73 (aC hb73 (aC hb73 (aC hb73 aN))))))))))) (fun _ h => (qThen (h.ht (cont ((lenI a2) != (lenI a0.1)) (of_some hT3)))))

noncomputable def spec_ValidGame (a0 : TyG) : Option (Bool) :=
 (spec_l07Game (a0.1, a0.2.1, a0.2.2)).bind fun y1 =>
 some y1

theorem f57_ok {a0 : TyG} {r : Bool} (hr : spec_ValidGame a0 = some r) : CallOK Try.prog 57 [.imm tG a0] [⟨false, .bool, r⟩] [] := by
 unfold spec_ValidGame at hr
 refine CallOK.of_body (ts := [(false, .bool)]) Try.func57 rfl (by kernel_rfl) (Nat.le_of_ble_eq_true (by kernel_rfl)) fun cx hP hN hO hF => ?_
 have hO : cx.own.map Prod.fst = [] := hO
 have hX := CxIs.mk hP hN hO
 have hF := hF rfl
 show HT cx ⟨[(0, .agg [nC a0.1, nC a0.2.1, .dat (.sl tLI) a0.2.2])], [], 0⟩ _ _
 refine HT.rg2 (oHs 2) ⟨[(1, pV 0 0)], [(0, .box [nC a0.1, nC a0.2.1, .dat (.sl tLI) a0.2.2])], 1⟩ hX (by kernel_rfl) aN ?_
 obtain ⟨y1, hc2, hr⟩ := of_bind hr
 refine HT.rg2 [⟨none, .call [.pimm tG] [⟨false, .bool, y1⟩] []⟩, oH] ⟨[(2, bV y1)], [], 1⟩ hX (by kernel_rfl) (aC (f127_ok hc2) aN) ?_
 have hr := of_some hr
 subst hr
 exact HT.ret ⟨[bV y1], [], [], by kernel_rfl, by kernel_rfl, rfl, by kernel_rfl, by kernel_rfl, trivial⟩

noncomputable def laws_FnGames_B1 (y6 : List Int × Bool) (y24 : List Int × Bool) (s31 : Int × List Int) : Option ((Int × List Int) ⊕ (List Int ⊕ Unit)) :=
 bif (decide (s31.1 < (lenI y24.1))) then
  (show Option (Bool) from
   guardP ((0 : Int) ≤ s31.1 ∧ s31.1 < lenI y6.1) (
    bif ((List.getD y6.1 (Int.toNat s31.1) (0 : Int)) != (0 : Int)) then
     bif ((List.getD y6.1 (Int.toNat s31.1) (0 : Int)) != (1 : Int)) then
      some true
     else
      guardP ((0 : Int) ≤ s31.1 ∧ s31.1 < lenI y24.1) (
       some ((List.getD y24.1 (Int.toNat s31.1) (0 : Int)) != (wsub .i64 (1 : Int) (List.getD y6.1 (Int.toNat s31.1) (0 : Int)))))
    else
     guardP ((0 : Int) ≤ s31.1 ∧ s31.1 < lenI y24.1) (
      some ((List.getD y24.1 (Int.toNat s31.1) (0 : Int)) != (wsub .i64 (1 : Int) (List.getD y6.1 (Int.toNat s31.1) (0 : Int))))))).bind fun v58 =>
  bif v58 then
   some (.inr (.inr ()))
  else
   guardP ((0 : Int) ≤ s31.1 ∧ s31.1 < lenI s31.2) (
    some (.inl ((wadd .i64 s31.1 (1 : Int)), (List.set s31.2 (Int.toNat s31.1) (wsub .i64 (1 : Int) (List.getD s31.2 (Int.toNat s31.1) (0 : Int)))))))
 else
  some (.inr (.inl s31.2))

noncomputable def laws_FnGames (a0 : List Int) (a1 : List Int) : Option (Bool) :=
 (laws_b10Long a0 a1).bind fun y1 =>
 bif y1 then
  some true
 else
  (spec_B10Game a0).bind fun y4 =>
  (impl_SolveGame (y4.1, y4.2.1, y4.2.2)).bind fun y6 =>
  (spec_SolveGame (y4.1, y4.2.1, y4.2.2)).bind fun y8 =>
  (impl_MovesOfGame (y4.1, y4.2.1, y4.2.2)).bind fun y10 =>
  (spec_MovesOfGame (y4.1, y4.2.1, y4.2.2)).bind fun y12 =>
  (impl_TurnGame (y4.1, y4.2.1, y4.2.2)).bind fun y14 =>
  (laws_b10At a1 (0 : Int) (8 : Int)).bind fun y16 =>
  (impl_GamesShared ([(y4.1, y4.2.1, y4.2.2), (y4.1, y4.2.1, y4.2.2)] : List (TyG)) (wadd .i64 (1 : Int) y16)).bind fun y18 =>
  (show Option (Bool) from
   bif (!y6.2) then
    some true
   else
    bif (!y8.2) then
     some true
    else
     bif (!y10.2) then
      some true
     else
      bif (!y12.2) then
       some true
      else
       bif (!y14.2) then
        some true
       else
        bif (!y18.2) then
         some true
        else
         (impl_ValidGame (y4.1, y4.2.1, y4.2.2)).bind fun y76 =>
         bif (!y76) then
          some true
         else
          (impl_SameGame (y4.1, y4.2.1, y4.2.2) (y4.1, y4.2.1, y4.2.2)).bind fun y79 =>
          bif (!y79) then
           some true
          else
           (laws_b10Ints y6.1 y8.1).bind fun y82 =>
           bif (!y82) then
            some true
           else
            bif ((lenI y6.1) != (lenI y4.1)) then
             some true
            else
             (laws_b10Ints y10.1 y12.1).bind fun y86 =>
             bif (!y86) then
              some true
             else
              bif ((lenI y18.1) != (2 : Int)) then
               some true
              else
               guardP ((0 : Int) ≤ (0 : Int) ∧ (0 : Int) < lenI y18.1) (
                (laws_b10Ints (List.getD y18.1 (Int.toNat (0 : Int)) ([] : List Int)) y6.1).bind fun y91 =>
                bif (!y91) then
                 some true
                else
                 (impl_IsWinning (y4.1, y4.2.1, y4.2.2) y6.1 y10.1).bind fun y94 =>
                 bif (!y94) then
                  some true
                 else
                  (spec_IsWinning (y4.1, y4.2.1, y4.2.2) y6.1 y10.1).bind fun y97 =>
                  bif (!y97) then
                   some true
                  else
                   (spec_ValidGame (y14.1.1, y14.1.2.1, y14.1.2.2)).bind fun y100 =>
                   some (!y100))).bind fun v20 =>
  bif v20 then
   some false
  else
   (impl_SolveGame (y14.1.1, y14.1.2.1, y14.1.2.2)).bind fun y24 =>
   (show Option (Bool) from
    bif (!y24.2) then
     some true
    else
     some ((lenI y24.1) != (lenI y6.1))).bind fun v26 =>
   bif v26 then
    some false
   else
    guardP (0 + List.length y6.1 ≤ appMax) (
     (rounds (laws_FnGames_B1 y6 y24) ((0 : Int), y6.1)).bind fun r32 => match r32 with
      | .inl r33 =>
       (laws_b10At a1 (1 : Int) (lenI y4.1)).bind fun y34 =>
       (laws_b10At a1 (2 : Int) (2 : Int)).bind fun y36 =>
       (impl_ReachOf (y4.1, y4.2.1, y4.2.2) ([y34] : List Int) y36).bind fun y38 =>
       (spec_ReachOf (y4.1, y4.2.1, y4.2.2) ([y34] : List Int) y36).bind fun y40 =>
       (show Option (Bool) from
        bif y38.2 then
         bif y40.2 then
          (laws_b10Ints y38.1 y40.1).bind fun y47 =>
          bif y47 then
           bif (decide ((lenI y38.1) ≥ (1 : Int))) then
            (impl_IsWinning (y4.1, y4.2.1, y4.2.2) r33 y10.1).bind fun y51 =>
            some (!y51)
           else
            some false
          else
           some false
         else
          some false
        else
         some false).bind fun v42 =>
       some v42
      | .inr r53 =>
       some false)

theorem f6_ok {a0 : List Int} {a1 : List Int} {r : Bool} (hr : laws_FnGames a0 a1 = some r) : CallOK Try.prog 6 [.imm (.sl (.int .u8)) a0, .imm (.sl (.int .u8)) a1] [⟨false, .bool, r⟩] [] := by
 unfold laws_FnGames at hr
 refine CallOK.of_body (ts := [(false, .bool)]) Try.func6 rfl (by kernel_rfl) (Nat.le_of_ble_eq_true (by kernel_rfl)) fun cx hP hN hO hF => ?_
 have hO : cx.own.map Prod.fst = [] := hO
 have hX := CxIs.mk hP hN hO
 have hF := hF rfl
 show HT cx ⟨[(0, .one (.dat (.sl (.int .u8)) a0)), (1, .one (.dat (.sl (.int .u8)) a1))], [], 0⟩ _ _
 refine HT.rg2 [oH] ⟨[(0, .one (.dat (.sl (.int .u8)) a0)), (1, .one (.dat (.sl (.int .u8)) a1))], [], 0⟩ hX (by kernel_rfl) aN ?_
 refine HT.seq ?_
 obtain ⟨y1, hc2, hr⟩ := of_bind hr
 refine HT.rg2 [oH, oH, ⟨none, .call [.imm (.sl (.int .u8)), .imm (.sl (.int .u8))] [⟨false, .bool, y1⟩] []⟩] ⟨[(0, .one (.dat (.sl (.int .u8)) a0)), (1, .one (.dat (.sl (.int .u8)) a1)), (31, bV y1)], [], 0⟩ hX (by kernel_rfl) (aC (f11_ok hc2) aN) ?_
 rcases of_bif hr with ⟨hb3, hr⟩ | ⟨hb3, hr⟩
 ·refine HT.cond1 rfl hb3 ?_
  refine HT.rg2 [oH] ⟨[(4, bV true)], [], 0⟩ hX (by kernel_rfl) aN ?_
  have hr := of_some hr
  subst hr
  exact HT.ret (qThenR ⟨[bV true], [], [], by kernel_rfl, by kernel_rfl, rfl, by kernel_rfl, by kernel_rfl, trivial⟩)
 ·refine HT.cond0 rfl hb3 ?_
  refine HT.skip (qThen ?_)
  obtain ⟨y4, hc5, hr⟩ := of_bind hr
  refine HT.rg2 [oH, ⟨none, .call [.imm (.sl (.int .u8))] [⟨false, tG, y4⟩] []⟩, oH, oH] ⟨[(1, .one (.dat (.sl (.int .u8)) a1)), (5, pV 0 0)], [(0, .box [nC y4.1, nC y4.2.1, .dat (.sl tLI) y4.2.2])], 1⟩ hX (by kernel_rfl) (aC (f46_ok hc5) aN) ?_
  refine HT.rg2 (oHs 4) ⟨[(1, .one (.dat (.sl (.int .u8)) a1)), (5, pV 0 0), (6, iV (lenI y4.1))], [(0, .box [nC y4.1, nC y4.2.1, .dat (.sl tLI) y4.2.2])], 1⟩ hX (by kernel_rfl) aN ?_
  obtain ⟨y6, hc7, hr⟩ := of_bind hr
  refine HT.rg2 [oH, ⟨none, .call [.imm tG] [⟨true, tLI, y6.1⟩, ⟨false, .bool, y6.2⟩] []⟩, oH, oH, oH, oH, oH] ⟨[(1, .one (.dat (.sl (.int .u8)) a1)), (5, pV 0 0), (6, iV (lenI y4.1)), (7, aV 1), (8, bV y6.2)], [(1, .seq tI y6.1), (0, .box [nC y4.1, nC y4.2.1, .dat (.sl tLI) y4.2.2])], 2⟩ hX (by kernel_rfl) (aC (f47_ok hc7) aN) ?_
  obtain ⟨y8, hc9, hr⟩ := of_bind hr
  refine HT.rg2 [oH, ⟨none, .call [.imm tG] [⟨true, tLI, y8.1⟩, ⟨false, .bool, y8.2⟩] []⟩, oH, oH, oH, oH, oH] ⟨[(1, .one (.dat (.sl (.int .u8)) a1)), (5, pV 0 0), (6, iV (lenI y4.1)), (7, aV 1), (8, bV y6.2), (9, aV 2), (10, bV y8.2)], [(2, .seq tI y8.1), (1, .seq tI y6.1), (0, .box [nC y4.1, nC y4.2.1, .dat (.sl tLI) y4.2.2])], 3⟩ hX (by kernel_rfl) (aC (f48_ok hc9) aN) ?_
  obtain ⟨y10, hc11, hr⟩ := of_bind hr
  refine HT.rg2 [oH, ⟨none, .call [.imm tG] [⟨true, tLI, y10.1⟩, ⟨false, .bool, y10.2⟩] []⟩, oH, oH, oH, oH, oH] ⟨[(1, .one (.dat (.sl (.int .u8)) a1)), (5, pV 0 0), (6, iV (lenI y4.1)), (7, aV 1), (8, bV y6.2), (9, aV 2), (10, bV y8.2), (11, aV 3), (12, bV y10.2)], [(3, .seq tI y10.1), (2, .seq tI y8.1), (1, .seq tI y6.1), (0, .box [nC y4.1, nC y4.2.1, .dat (.sl tLI) y4.2.2])], 4⟩ hX (by kernel_rfl) (aC (f49_ok hc11) aN) ?_
  obtain ⟨y12, hc13, hr⟩ := of_bind hr
  refine HT.rg2 [oH, ⟨none, .call [.imm tG] [⟨true, tLI, y12.1⟩, ⟨false, .bool, y12.2⟩] []⟩, oH, oH, oH, oH, oH] ⟨[(1, .one (.dat (.sl (.int .u8)) a1)), (5, pV 0 0), (6, iV (lenI y4.1)), (7, aV 1), (8, bV y6.2), (9, aV 2), (10, bV y8.2), (11, aV 3), (12, bV y10.2), (13, aV 4), (14, bV y12.2)], [(4, .seq tI y12.1), (3, .seq tI y10.1), (2, .seq tI y8.1), (1, .seq tI y6.1), (0, .box [nC y4.1, nC y4.2.1, .dat (.sl tLI) y4.2.2])], 5⟩ hX (by kernel_rfl) (aC (f50_ok hc13) aN) ?_
  obtain ⟨y14, hc15, hr⟩ := of_bind hr
  refine HT.rg2 [oH, ⟨none, .call [.imm tG] [⟨true, (.st (.pair tLI (.pair tLI (.sl (.own tI))))), y14.1⟩, ⟨false, .bool, y14.2⟩] []⟩, oH, oH, oH, oH, oH, oH] ⟨[(1, .one (.dat (.sl (.int .u8)) a1)), (5, pV 0 0), (6, iV (lenI y4.1)), (7, aV 1), (8, bV y6.2), (9, aV 2), (10, bV y8.2), (11, aV 3), (12, bV y10.2), (13, aV 4), (14, bV y12.2), (15, pV 8 0), (16, bV y14.2)], [(8, .box [.all 5, .all 6, .all 7]), (5, .seq tI y14.1.1), (6, .seq tI y14.1.2.1), (7, .seq (.own tI) y14.1.2.2), (4, .seq tI y12.1), (3, .seq tI y10.1), (2, .seq tI y8.1), (1, .seq tI y6.1), (0, .box [nC y4.1, nC y4.2.1, .dat (.sl tLI) y4.2.2])], 9⟩ hX (by kernel_rfl) (aC (f51_ok hc15) aN) ?_
  obtain ⟨y16, hc17, hr⟩ := of_bind hr
  obtain ⟨y18, hc19, hr⟩ := of_bind hr
  refine HT.dr2 11 [⟨oH, []⟩, ⟨oH, []⟩, ⟨⟨none, .ty tG⟩, [0, 1]⟩, ⟨oH, []⟩, ⟨⟨none, .call [.imm (.sl (.int .u8)), .imm tI, .imm tI] [⟨false, tI, y16⟩] []⟩, [3]⟩, ⟨oH, [3, 4]⟩, ⟨⟨none, .call [.imm (.sl tG), .imm tI] [⟨true, (.sl (.own tI)), y18.1⟩, ⟨false, .bool, y18.2⟩] []⟩, [0, 1, 2, 3, 4, 5]⟩, ⟨oH, [0, 1, 2, 3, 4, 5, 6]⟩, ⟨oH, [0, 1, 2, 3, 4, 5, 6, 7]⟩, ⟨oH, [0, 1, 2, 3, 4, 5, 6, 7]⟩, ⟨oH, [0, 1, 2, 3, 4, 5, 6, 7, 8]⟩] [[0, 1, 2, 3, 4, 5, 6, 7, 8, 9, 10]] [oH] ⟨[(1, .one (.dat (.sl (.int .u8)) a1)), (5, pV 0 0), (6, iV (lenI y4.1)), (7, aV 1), (8, bV y6.2), (9, aV 2), (10, bV y8.2), (11, aV 3), (12, bV y10.2), (13, aV 4), (14, bV y12.2), (15, pV 8 0), (16, bV y14.2), (17, aV 10), (18, bV y18.2)], [(10, .seq (.own tI) y18.1), (8, .box [.all 5, .all 6, .all 7]), (5, .seq tI y14.1.1), (6, .seq tI y14.1.2.1), (7, .seq (.own tI) y14.1.2.2), (4, .seq tI y12.1), (3, .seq tI y10.1), (2, .seq tI y8.1), (1, .seq tI y6.1), (0, .box [nC y4.1, nC y4.2.1, .dat (.sl tLI) y4.2.2])], 11⟩ hX (by kernel_rfl) (by kernel_rfl) (aC (f19_ok hc17) (aC (f52_ok hc19) aN)) ?_
  refine HT.seq ?_
  obtain ⟨v20', hT22, hr⟩ := of_bind hr
  refine HT.join (fun (v20 : Bool) => ⟨[(1, .one (.dat (.sl (.int .u8)) a1)), (5, pV 0 0), (6, iV (lenI y4.1)), (7, aV 1), (11, aV 2), (15, pV 3 0), (154, bV v20)], [(0, .box [nC y4.1, nC y4.2.1, .dat (.sl tLI) y4.2.2]), (1, .seq tI y6.1), (2, .seq tI y10.1), (3, .box [.all 4, .all 5, .all 6]), (4, .seq tI y14.1.1), (5, .seq tI y14.1.2.1), (6, .seq (.own tI) y14.1.2.2)], 7⟩) (fun v => v = v20') (fun v20 hv21 => ?_) (fun cont => ?_)
  ·subst hv21
   rcases of_bif hr with ⟨hb23, hr⟩ | ⟨hb23, hr⟩
   ·refine HT.cond1 rfl hb23 ?_
    refine HT.rg2 [oH] ⟨[(4, bV false)], [], 7⟩ hX (by kernel_rfl) aN ?_
    have hr := of_some hr
    subst hr
    exact HT.ret (qThenR ⟨[bV false], [], [], by kernel_rfl, by kernel_rfl, rfl, by kernel_rfl, by kernel_rfl, trivial⟩)
   ·refine HT.cond0 rfl hb23 ?_
    refine HT.skip (qThen ?_)
    obtain ⟨y24, hc25, hr⟩ := of_bind hr
    refine HT.rg2 [oH, ⟨none, .call [.imm tG] [⟨true, tLI, y24.1⟩, ⟨false, .bool, y24.2⟩] []⟩, oH, oH, oH, oH, oH] ⟨[(1, .one (.dat (.sl (.int .u8)) a1)), (5, pV 0 0), (6, iV (lenI y4.1)), (7, aV 1), (11, aV 2), (19, aV 7), (20, bV y24.2)], [(7, .seq tI y24.1), (0, .box [nC y4.1, nC y4.2.1, .dat (.sl tLI) y4.2.2]), (1, .seq tI y6.1), (2, .seq tI y10.1)], 8⟩ hX (by kernel_rfl) (aC (f47_ok hc25) aN) ?_
    refine HT.seq ?_
    obtain ⟨v26', hT28, hr⟩ := of_bind hr
    refine HT.join (fun (v26 : Bool) => ⟨[(1, .one (.dat (.sl (.int .u8)) a1)), (5, pV 0 0), (6, iV (lenI y4.1)), (7, aV 1), (11, aV 2), (19, aV 3), (168, bV v26)], [(0, .box [nC y4.1, nC y4.2.1, .dat (.sl tLI) y4.2.2]), (1, .seq tI y6.1), (2, .seq tI y10.1), (3, .seq tI y24.1)], 4⟩) (fun v => v = v26') (fun v26 hv27 => ?_) (fun cont => ?_)
    ·subst hv27
     rcases of_bif hr with ⟨hb29, hr⟩ | ⟨hb29, hr⟩
     ·refine HT.cond1 rfl hb29 ?_
      refine HT.rg2 [oH] ⟨[(4, bV false)], [], 4⟩ hX (by kernel_rfl) aN ?_
      have hr := of_some hr
      subst hr
      exact HT.ret (qThenR ⟨[bV false], [], [], by kernel_rfl, by kernel_rfl, rfl, by kernel_rfl, by kernel_rfl, trivial⟩)
     ·refine HT.cond0 rfl hb29 ?_
      refine HT.skip (qThen ?_)
      obtain ⟨hg30, hr⟩ := of_guard hr
      refine HT.rg2 [oH, oH, ⟨none, .ty tI⟩, oH] ⟨[(1, .one (.dat (.sl (.int .u8)) a1)), (5, pV 0 0), (6, iV (lenI y4.1)), (7, aV 1), (11, aV 2), (19, aV 3), (21, aV 4)], [(4, .seq tI y6.1), (0, .box [nC y4.1, nC y4.2.1, .dat (.sl tLI) y4.2.2]), (1, .seq tI y6.1), (2, .seq tI y10.1), (3, .seq tI y24.1)], 5⟩ hX (by kernel_rfl) (aC hg30 aN) ?_
      refine HT.seq ?_
      refine HT.rg2 (oHs 3) ⟨[(1, .one (.dat (.sl (.int .u8)) a1)), (5, pV 0 0), (6, iV (lenI y4.1)), (7, aV 1), (11, aV 2), (19, aV 3), (21, aV 4), (173, iV (lenI y24.1)), (174, iV (0 : Int))], [(4, .seq tI y6.1), (0, .box [nC y4.1, nC y4.2.1, .dat (.sl tLI) y4.2.2]), (1, .seq tI y6.1), (2, .seq tI y10.1), (3, .seq tI y24.1)], 5⟩ hX (by kernel_rfl) aN ?_
      refine HT.block ?_
      obtain ⟨r32, hL68, hr⟩ := of_bind hr
      refine HT.loopL (fun (s31 : Int × List Int) => ⟨[(1, .one (.dat (.sl (.int .u8)) a1)), (5, pV 0 0), (6, iV (lenI y4.1)), (7, aV 1), (11, aV 2), (19, aV 3), (21, aV 4), (173, iV (lenI y24.1)), (174, iV s31.1)], [(0, .box [nC y4.1, nC y4.2.1, .dat (.sl tLI) y4.2.2]), (1, .seq tI y6.1), (2, .seq tI y10.1), (3, .seq tI y24.1), (4, .seq tI s31.2)], 5⟩) (fun (r32 : List Int ⊕ Unit) => match r32 with | .inl r33 => (.exit 0, ⟨[(1, .one (.dat (.sl (.int .u8)) a1)), (5, pV 0 0), (6, iV (lenI y4.1)), (11, aV 1), (21, aV 2)], [(0, .box [nC y4.1, nC y4.2.1, .dat (.sl tLI) y4.2.2]), (1, .seq tI y10.1), (2, .seq tI r33)], 3⟩) | .inr r53 => (.ret, ⟨[(4, bV false)], [], 0⟩)) (Le.re [(0, 0), (1, 1), (2, 2), (3, 3), (4, 4)] [] hX (by kernel_rfl)) hL68 ?_ (fun s31 x54 hx55 hk56 => ?_)
      ·rcases r32 with r33 | r53
       ·refine (qBlockX (qThen ?_))
        obtain ⟨y34, hc35, hr⟩ := of_bind hr
        refine HT.rg2 [oH, oH, ⟨none, .call [.imm (.sl (.int .u8)), .imm tI, .imm tI] [⟨false, tI, y34⟩] []⟩, ⟨none, .ty tI⟩, oH] ⟨[(1, .one (.dat (.sl (.int .u8)) a1)), (5, pV 0 0), (11, aV 1), (21, aV 2), (23, aV 3)], [(3, .seq tI ([y34] : List Int)), (0, .box [nC y4.1, nC y4.2.1, .dat (.sl tLI) y4.2.2]), (1, .seq tI y10.1), (2, .seq tI r33)], 4⟩ hX (by kernel_rfl) (aC (f19_ok hc35) aN) ?_
        obtain ⟨y36, hc37, hr⟩ := of_bind hr
        refine HT.rg2 [oH, ⟨none, .call [.imm (.sl (.int .u8)), .imm tI, .imm tI] [⟨false, tI, y36⟩] []⟩, oH] ⟨[(5, pV 0 0), (11, aV 1), (21, aV 2), (23, aV 3), (24, iV y36)], [(3, .seq tI ([y34] : List Int)), (0, .box [nC y4.1, nC y4.2.1, .dat (.sl tLI) y4.2.2]), (1, .seq tI y10.1), (2, .seq tI r33)], 4⟩ hX (by kernel_rfl) (aC (f19_ok hc37) aN) ?_
        obtain ⟨y38, hc39, hr⟩ := of_bind hr
        refine HT.rg2 [oH, oH, oH, ⟨none, .call [.imm tG, .imm tLI, .imm tI] [⟨true, tLI, y38.1⟩, ⟨false, .bool, y38.2⟩] []⟩, oH, oH, oH, oH, oH] ⟨[(5, pV 0 0), (11, aV 1), (21, aV 2), (23, aV 3), (24, iV y36), (25, aV 4), (26, bV y38.2)], [(4, .seq tI y38.1), (3, .seq tI ([y34] : List Int)), (0, .box [nC y4.1, nC y4.2.1, .dat (.sl tLI) y4.2.2]), (1, .seq tI y10.1), (2, .seq tI r33)], 5⟩ hX (by kernel_rfl) (aC (f58_ok hc39) aN) ?_
        obtain ⟨y40, hc41, hr⟩ := of_bind hr
        refine HT.rg2 [oH, oH, oH, ⟨none, .call [.imm tG, .imm tLI, .imm tI] [⟨true, tLI, y40.1⟩, ⟨false, .bool, y40.2⟩] []⟩, oH, oH, oH, oH, oH] ⟨[(5, pV 0 0), (11, aV 1), (21, aV 2), (25, aV 4), (26, bV y38.2), (27, aV 5), (28, bV y40.2)], [(5, .seq tI y40.1), (4, .seq tI y38.1), (0, .box [nC y4.1, nC y4.2.1, .dat (.sl tLI) y4.2.2]), (1, .seq tI y10.1), (2, .seq tI r33)], 6⟩ hX (by kernel_rfl) (aC (f59_ok hc41) aN) ?_
        obtain ⟨v42', hT44, hr⟩ := of_bind hr
        refine HT.join (fun (v42 : Bool) => ⟨[(4, bV v42)], [], 0⟩) (fun v => v = v42') (fun v42 hv43 => ?_) (fun cont => ?_)
        ·subst hv43
         have hr := of_some hr
         subst hr
         exact HT.ret ⟨[bV v42], [], [], by kernel_rfl, by kernel_rfl, rfl, by kernel_rfl, by kernel_rfl, trivial⟩
        ·rcases of_bif hT44 with ⟨hb45, hT44⟩ | ⟨hb45, hT44⟩
         ·rcases of_bif hT44 with ⟨hb46, hT44⟩ | ⟨hb46, hT44⟩
          ·obtain ⟨y47, hc48, hT44⟩ := of_bind hT44
           rcases of_bif hT44 with ⟨hb49, hT44⟩ | ⟨hb49, hT44⟩
           ·rcases of_bif hT44 with ⟨hb50, hT44⟩ | ⟨hb50, hT44⟩
            ·obtain ⟨y51, hc52, hT44⟩ := of_bind hT44
             exact HT.rgK [oH, oH, oT, vT, oH, oT, oT, ⟨some true, .call [.imm tLI, .imm tLI] [⟨false, .bool, y47⟩] []⟩, vT, oH, oT, oT, oT, vT, oH, oT, oT, oT, ⟨some true, .call [.imm tG, .imm tLI, .imm tLI] [⟨false, .bool, y51⟩] []⟩, oT, vT, oH] [] [] hX (by kernel_rfl) (aC hb45 (aC hb45 (aC hb46 (aC hb46 (aC hb46 (aC (f38_ok hc48) (aC hb46 (aC hb49 (aC hb49 (aC hb49 (aC hb49 (aC hb50 (aC hb50 (aC hb50 (aC hb50 (aC (f55_ok hc52) (aC hb50 (aC hb50 aN)))))))))))))))))) (fun _ h => (qThen (h.ht (cont (!y51) (of_some hT44)))))
            ·exact HT.rgK [oH, oH, oT, vT, oH, oT, oT, ⟨some true, .call [.imm tLI, .imm tLI] [⟨false, .bool, y47⟩] []⟩, vT, oH, oT, oT, oT, vT, oH, oF, oF, oF, oF, oF, vF, oH] [] [] hX (by kernel_rfl) (aC hb45 (aC hb45 (aC hb46 (aC hb46 (aC hb46 (aC (f38_ok hc48) (aC hb46 (aC hb49 (aC hb49 (aC hb49 (aC hb49 (aC hb50 (aC hb50 (aC hb50 (aC hb50 (aC hb50 (aC hb50 aN))))))))))))))))) (fun _ h => (qThen (h.ht (cont false (of_some hT44)))))
           ·exact HT.rgK [oH, oH, oT, vT, oH, oT, oT, ⟨some true, .call [.imm tLI, .imm tLI] [⟨false, .bool, y47⟩] []⟩, vT, oH, oF, oF, oF, vF, oH, oF, oF, oF, oF, oF, vF, oH] [] [] hX (by kernel_rfl) (aC hb45 (aC hb45 (aC hb46 (aC hb46 (aC hb46 (aC (f38_ok hc48) (aC hb46 (aC hb49 (aC hb49 (aC hb49 (aC hb49 (aF (aF (aF (aF (aF (aF aN))))))))))))))))) (fun _ h => (qThen (h.ht (cont false (of_some hT44)))))
          ·exact HT.rgK [oH, oH, oT, vT, oH, oF, oF, oF, vF, oH, oF, oF, oF, vF, oH, oF, oF, oF, oF, oF, vF, oH] [] [] hX (by kernel_rfl) (aC hb45 (aC hb45 (aC hb46 (aC hb46 (aC hb46 (aC hb46 (aF (aF (aF (aF (aF (aF (aF (aF (aF (aF aN)))))))))))))))) (fun _ h => (qThen (h.ht (cont false (of_some hT44)))))
         ·exact HT.rgK [oH, oH, oF, vF, oH, oF, oF, oF, vF, oH, oF, oF, oF, vF, oH, oF, oF, oF, oF, oF, vF, oH] [] [] hX (by kernel_rfl) (aC hb45 (aC hb45 (aF (aF (aF (aF (aF (aF (aF (aF (aF (aF (aF (aF (aF (aF aN)))))))))))))))) (fun _ h => (qThen (h.ht (cont false (of_some hT44)))))
       ·have hr := of_some hr
        subst hr
        exact (qBlockR (qThenR ⟨[bV false], [], [], by kernel_rfl, by kernel_rfl, rfl, by kernel_rfl, by kernel_rfl, trivial⟩))
      ·refine HT.rg2 [oH] ⟨[(1, .one (.dat (.sl (.int .u8)) a1)), (5, pV 0 0), (6, iV (lenI y4.1)), (7, aV 1), (11, aV 2), (19, aV 3), (21, aV 4), (173, iV (lenI y24.1)), (174, iV s31.1), (175, bV (decide (s31.1 < (lenI y24.1))))], [(0, .box [nC y4.1, nC y4.2.1, .dat (.sl tLI) y4.2.2]), (1, .seq tI y6.1), (2, .seq tI y10.1), (3, .seq tI y24.1), (4, .seq tI s31.2)], 5⟩ hX (by kernel_rfl) aN ?_
       refine HT.seq ?_
       rcases of_bif hx55 with ⟨hb57, hx55⟩ | ⟨hb57, hx55⟩
       ·refine HT.cond1 rfl hb57 ?_
        refine HT.skip (qThen ?_)
        refine HT.seq ?_
        refine HT.block ?_
        refine HT.rg2 (oHs 2) ⟨[(1, .one (.dat (.sl (.int .u8)) a1)), (5, pV 0 0), (6, iV (lenI y4.1)), (7, aV 1), (11, aV 2), (19, aV 3), (21, aV 4), (22, iV s31.1), (173, iV (lenI y24.1)), (174, iV s31.1)], [(0, .box [nC y4.1, nC y4.2.1, .dat (.sl tLI) y4.2.2]), (1, .seq tI y6.1), (2, .seq tI y10.1), (3, .seq tI y24.1), (4, .seq tI s31.2)], 5⟩ hX (by kernel_rfl) aN ?_
        refine HT.seq ?_
        obtain ⟨v58', hT60, hx55⟩ := of_bind hx55
        refine HT.join (fun (v58 : Bool) => ⟨[(1, .one (.dat (.sl (.int .u8)) a1)), (5, pV 0 0), (6, iV (lenI y4.1)), (7, aV 1), (11, aV 2), (19, aV 3), (21, aV 4), (22, iV s31.1), (173, iV (lenI y24.1)), (174, iV s31.1), (200, bV v58)], [(0, .box [nC y4.1, nC y4.2.1, .dat (.sl tLI) y4.2.2]), (1, .seq tI y6.1), (2, .seq tI y10.1), (3, .seq tI y24.1), (4, .seq tI s31.2)], 5⟩) (fun v => v = v58') (fun v58 hv59 => ?_) (fun cont => ?_)
        ·subst hv59
         rcases of_bif hx55 with ⟨hb61, hx55⟩ | ⟨hb61, hx55⟩
         ·refine HT.cond1 rfl hb61 ?_
          refine HT.rg2 [oH] ⟨[(4, bV false)], [], 5⟩ hX (by kernel_rfl) aN ?_
          have hx55 := of_some hx55
          subst hx55
          exact HT.retL (Le.re [] [] hX (by kernel_rfl)) (qThenR (qBlockR (qThenR (qLoopR (hk56 (.inr ()) rfl)))))
         ·refine HT.cond0 rfl hb61 ?_
          refine HT.skip (qThen ?_)
          obtain ⟨hg62, hx55⟩ := of_guard hx55
          refine HT.rgL (oHs 9) ⟨[(1, .one (.dat (.sl (.int .u8)) a1)), (5, pV 0 0), (6, iV (lenI y4.1)), (7, aV 1), (11, aV 2), (19, aV 3), (21, aV 4), (173, iV (lenI y24.1)), (174, iV s31.1)], [(4, .seq tI (List.set s31.2 (Int.toNat s31.1) (wsub .i64 (1 : Int) (List.getD s31.2 (Int.toNat s31.1) (0 : Int))))), (0, .box [nC y4.1, nC y4.2.1, .dat (.sl tLI) y4.2.2]), (1, .seq tI y6.1), (2, .seq tI y10.1), (3, .seq tI y24.1)], 5⟩ hX (by kernel_rfl) (aC hg62 (aC (natLt hg62) (aC hg62 (aC (natLt hg62) aN)))) (qBlock (qThen ?_))
          have hx55 := of_some hx55
          subst hx55
          exact HT.rgK (oHs 2) [(0, 0), (1, 1), (2, 2), (3, 3), (4, 4)] [] hX (by kernel_rfl) aN (fun _ h => (qLoopN ⟨((wadd .i64 s31.1 (1 : Int)), (List.set s31.2 (Int.toNat s31.1) (wsub .i64 (1 : Int) (List.getD s31.2 (Int.toNat s31.1) (0 : Int))))), rfl, h⟩))
        ·obtain ⟨hg63, hT60⟩ := of_guard hT60
         rcases of_bif hT60 with ⟨hb64, hT60⟩ | ⟨hb64, hT60⟩
         ·rcases of_bif hT60 with ⟨hb65, hT60⟩ | ⟨hb65, hT60⟩
          ·exact HT.drK 22 [⟨oH, []⟩, ⟨oH, []⟩, ⟨oH, [0, 1]⟩, ⟨oH, [0, 1, 2]⟩, ⟨oH, [0, 1, 2, 3]⟩, ⟨oH, [0, 1, 2, 3, 4]⟩, ⟨oT, [0, 1, 2, 3, 4, 5]⟩, ⟨oT, [0, 1, 2, 3, 4, 5]⟩, ⟨oT, [0, 1, 2, 3, 4, 5, 6, 7]⟩, ⟨oT, [0, 1, 2, 3, 4, 5, 6, 7, 8]⟩, ⟨oT, [0, 1, 2, 3, 4, 5, 6, 7, 8, 9]⟩, ⟨vT, [0, 1, 2, 3, 4, 5, 6, 7, 8, 9, 10]⟩, ⟨oH, [0, 1, 2, 3, 4, 5, 6, 7, 8, 9, 10, 11]⟩, ⟨oT, [0, 1, 2, 3, 4, 5, 6, 7, 8, 9, 10, 11, 12]⟩, ⟨oT, [0, 1, 2, 3, 4, 5, 6, 7, 8, 9, 10, 11, 12]⟩, ⟨oT, [0, 1, 2, 3, 4, 5, 6, 7, 8, 9, 10, 11, 12, 13, 14]⟩, ⟨oT, [0, 1, 2, 3, 4, 5, 6, 7, 8, 9, 10, 11, 12, 13, 14, 15]⟩, ⟨oT, [0, 1, 2, 3, 4, 5, 6, 7, 8, 9, 10, 11, 12]⟩, ⟨oT, [0, 1, 2, 3, 4, 5, 6, 7, 8, 9, 10, 11, 12]⟩, ⟨oT, [0, 1, 2, 3, 4, 5, 6, 7, 8, 9, 10, 11, 12, 17, 18]⟩, ⟨oT, [0, 1, 2, 3, 4, 5, 6, 7, 8, 9, 10, 11, 12, 17, 18, 19]⟩, ⟨oT, [0, 1, 2, 3, 4, 5, 6, 7, 8, 9, 10, 11, 12, 17, 18, 19, 20]⟩] [[0, 1, 2, 3, 4, 5, 6, 7, 8, 9, 10, 11, 12, 13, 14, 15, 16, 17, 18, 19, 20, 21], [0, 1, 2, 3, 4, 5, 6, 7, 8, 9, 10, 11, 12, 13, 14, 15, 16, 17, 18, 19, 20, 21, 22]] [oT, vT] [(0, 0), (1, 1), (2, 2), (3, 3), (4, 4)] [] hX (by kernel_rfl) (by kernel_rfl) (aC hg63 (aC (natLt hg63) (aC hb64 (aC hb64 (aC hb64 (aC hg63 (aC hb64 (aC (natLt hg63) (aC hb64 (aC hb64 (aC hb65 (aC hb65 (aC hb65 (aC hb65 (aC hb65 (aC hb65 (aC hb65 (aC hb65 (aC hb65 (aC hb65 (aC hb65 aN))))))))))))))))))))) (fun _ h => (qThen (h.ht (cont true (of_some hT60)))))
          ·obtain ⟨hg66, hT60⟩ := of_guard hT60
           exact HT.drK 22 [⟨oH, []⟩, ⟨oH, []⟩, ⟨oH, [0, 1]⟩, ⟨oH, [0, 1, 2]⟩, ⟨oH, [0, 1, 2, 3]⟩, ⟨oH, [0, 1, 2, 3, 4]⟩, ⟨oT, [0, 1, 2, 3, 4, 5]⟩, ⟨oT, [0, 1, 2, 3, 4, 5]⟩, ⟨oT, [0, 1, 2, 3, 4, 5, 6, 7]⟩, ⟨oT, [0, 1, 2, 3, 4, 5, 6, 7, 8]⟩, ⟨oT, [0, 1, 2, 3, 4, 5, 6, 7, 8, 9]⟩, ⟨vT, [0, 1, 2, 3, 4, 5, 6, 7, 8, 9, 10]⟩, ⟨oH, [0, 1, 2, 3, 4, 5, 6, 7, 8, 9, 10, 11]⟩, ⟨oF, [0, 1, 2, 3, 4, 5, 6, 7, 8, 9, 10, 11, 12]⟩, ⟨oF, [0, 1, 2, 3, 4, 5, 6, 7, 8, 9, 10, 11, 12]⟩, ⟨oF, [0, 1, 2, 3, 4, 5, 6, 7, 8, 9, 10, 11, 12, 13, 14]⟩, ⟨oF, [0, 1, 2, 3, 4, 5, 6, 7, 8, 9, 10, 11, 12, 13, 14, 15]⟩, ⟨oF, [0, 1, 2, 3, 4, 5, 6, 7, 8, 9, 10, 11, 12]⟩, ⟨oF, [0, 1, 2, 3, 4, 5, 6, 7, 8, 9, 10, 11, 12]⟩, ⟨oF, [0, 1, 2, 3, 4, 5, 6, 7, 8, 9, 10, 11, 12, 17, 18]⟩, ⟨oF, [0, 1, 2, 3, 4, 5, 6, 7, 8, 9, 10, 11, 12, 17, 18, 19]⟩, ⟨oF, [0, 1, 2, 3, 4, 5, 6, 7, 8, 9, 10, 11, 12, 17, 18, 19, 20]⟩] [[0, 1, 2, 3, 4, 5, 6, 7, 8, 9, 10, 11, 12, 13, 14, 15, 16, 17, 18, 19, 20, 21], [0, 1, 2, 3, 4, 5, 6, 7, 8, 9, 10, 11, 12, 13, 14, 15, 16, 17, 18, 19, 20, 21, 22]] [oF, vF] [(0, 0), (1, 1), (2, 2), (3, 3), (4, 4)] [] hX (by kernel_rfl) (by kernel_rfl) (aC hg63 (aC (natLt hg63) (aC hb64 (aC hb64 (aC hb64 (aC hg63 (aC hb64 (aC (natLt hg63) (aC hb64 (aC hb64 (aC hb65 (aC hb65 (aC hb65 (aC hg66 (aC hb65 (aC (natLt hg66) (aC hb65 (aC hb65 (aC hb65 (aC hg63 (aC hb65 (aC (natLt hg63) (aC hb65 (aC hb65 (aC hb65 aN))))))))))))))))))))))))) (fun _ h => (qThen (h.ht (cont ((List.getD y24.1 (Int.toNat s31.1) (0 : Int)) != (wsub .i64 (1 : Int) (List.getD y6.1 (Int.toNat s31.1) (0 : Int)))) (of_some hT60)))))
         ·obtain ⟨hg67, hT60⟩ := of_guard hT60
          exact HT.drK 22 [⟨oH, []⟩, ⟨oH, []⟩, ⟨oH, [0, 1]⟩, ⟨oH, [0, 1, 2]⟩, ⟨oH, [0, 1, 2, 3]⟩, ⟨oH, [0, 1, 2, 3, 4]⟩, ⟨oF, [0, 1, 2, 3, 4, 5]⟩, ⟨oF, [0, 1, 2, 3, 4, 5]⟩, ⟨oF, [0, 1, 2, 3, 4, 5, 6, 7]⟩, ⟨oF, [0, 1, 2, 3, 4, 5, 6, 7, 8]⟩, ⟨oF, [0, 1, 2, 3, 4, 5, 6, 7, 8, 9]⟩, ⟨vF, [0, 1, 2, 3, 4, 5, 6, 7, 8, 9, 10]⟩, ⟨oH, [0, 1, 2, 3, 4, 5, 6, 7, 8, 9, 10, 11]⟩, ⟨oF, [0, 1, 2, 3, 4, 5, 6, 7, 8, 9, 10, 11, 12]⟩, ⟨oF, [0, 1, 2, 3, 4, 5, 6, 7, 8, 9, 10, 11, 12]⟩, ⟨oF, [0, 1, 2, 3, 4, 5, 6, 7, 8, 9, 10, 11, 12, 13, 14]⟩, ⟨oF, [0, 1, 2, 3, 4, 5, 6, 7, 8, 9, 10, 11, 12, 13, 14, 15]⟩, ⟨oF, [0, 1, 2, 3, 4, 5, 6, 7, 8, 9, 10, 11, 12]⟩, ⟨oF, [0, 1, 2, 3, 4, 5, 6, 7, 8, 9, 10, 11, 12]⟩, ⟨oF, [0, 1, 2, 3, 4, 5, 6, 7, 8, 9, 10, 11, 12, 17, 18]⟩, ⟨oF, [0, 1, 2, 3, 4, 5, 6, 7, 8, 9, 10, 11, 12, 17, 18, 19]⟩, ⟨oF, [0, 1, 2, 3, 4, 5, 6, 7, 8, 9, 10, 11, 12, 17, 18, 19, 20]⟩] [[0, 1, 2, 3, 4, 5, 6, 7, 8, 9, 10, 11, 12, 13, 14, 15, 16, 17, 18, 19, 20, 21], [0, 1, 2, 3, 4, 5, 6, 7, 8, 9, 10, 11, 12, 13, 14, 15, 16, 17, 18, 19, 20, 21, 22]] [oF, vF] [(0, 0), (1, 1), (2, 2), (3, 3), (4, 4)] [] hX (by kernel_rfl) (by kernel_rfl) (aC hg63 (aC (natLt hg63) (aC hb64 (aC hb64 (aC hb64 (aC hb64 (aC hb64 (aC hb64 (aF (aF (aF (aC hg67 (aF (aC (natLt hg67) (aF (aF (aF (aC hg63 (aF (aC (natLt hg63) (aF (aF (aF aN))))))))))))))))))))))) (fun _ h => (qThen (h.ht (cont ((List.getD y24.1 (Int.toNat s31.1) (0 : Int)) != (wsub .i64 (1 : Int) (List.getD y6.1 (Int.toNat s31.1) (0 : Int)))) (of_some hT60)))))
       ·refine HT.cond0 rfl hb57 ?_
        have hx55 := of_some hx55
        subst hx55
        exact HT.exitL (Le.re [(0, 0), (2, 1), (4, 2)] [] hX (by kernel_rfl)) (qThenE (qLoopE (hk56 (.inl s31.2) rfl)))
    ·rcases of_bif hT28 with ⟨hb69, hT28⟩ | ⟨hb69, hT28⟩
     ·exact HT.rgK [oH, oH, oH, oT, oT, oT, oT, oT, vT] [(0, 0), (1, 1), (2, 2), (7, 3)] [] hX (by kernel_rfl) (aC hb69 (aC hb69 (aC hb69 (aC hb69 (aC hb69 (aC hb69 aN)))))) (fun _ h => (qThen (h.ht (cont true (of_some hT28)))))
     ·exact HT.rgK [oH, oH, oH, oF, oF, oF, oF, oF, vF] [(0, 0), (1, 1), (2, 2), (7, 3)] [] hX (by kernel_rfl) (aC hb69 (aC hb69 (aC hb69 (aC hb69 (aC hb69 (aC hb69 aN)))))) (fun _ h => (qThen (h.ht (cont ((lenI y24.1) != (lenI y6.1)) (of_some hT28)))))
  ·rcases of_bif hT22 with ⟨hb70, hT22⟩ | ⟨hb70, hT22⟩
   ·exact HT.rgK [oH, oH, oH, oT, oT, vT, oH, oT, oT, vT, oH, oT, oT, vT, oH, oT, oT, vT, oH, oT, oT, vT, oH, oT, oT, oT, vT, oH, oT, oT, oT, oT, vT, oH, oT, oT, oT, oT, vT, oH, oT, oT, oT, oT, vT, oH, oT, oT, oT, oT, vT, oH, oT, oT, oT, vT, oH, oT, oT, oT, oT, oT, oT, vT, oH, oT, oT, oT, oT, oT, vT, oH, oT, oT, oT, oT, oT, vT, oH, oT, oT, oT, vT] [(0, 0), (1, 1), (3, 2), (8, 3), (5, 4), (6, 5), (7, 6)] [] hX (by kernel_rfl) (aC hb70 (aC hb70 (aC hb70 (aT4 (aT4 (aT4 (aT4 (aT4 (aT4 (aT4 (aT4 (aT4 (aT4 (aT4 (aT4 (aT4 (aT4 (aT4 (aT (aT (aT aN))))))))))))))))))))) (fun _ h => (qThen (h.ht (cont true (of_some hT22)))))
   ·rcases of_bif hT22 with ⟨hb71, hT22⟩ | ⟨hb71, hT22⟩
    ·exact HT.rgK [oH, oH, oH, oF, oF, vF, oH, oT, oT, vT, oH, oT, oT, vT, oH, oT, oT, vT, oH, oT, oT, vT, oH, oT, oT, oT, vT, oH, oT, oT, oT, oT, vT, oH, oT, oT, oT, oT, vT, oH, oT, oT, oT, oT, vT, oH, oT, oT, oT, oT, vT, oH, oT, oT, oT, vT, oH, oT, oT, oT, oT, oT, oT, vT, oH, oT, oT, oT, oT, oT, vT, oH, oT, oT, oT, oT, oT, vT, oH, oT, oT, oT, vT] [(0, 0), (1, 1), (3, 2), (8, 3), (5, 4), (6, 5), (7, 6)] [] hX (by kernel_rfl) (aC hb70 (aC hb70 (aC hb70 (aC hb71 (aC hb71 (aC hb71 (aT4 (aT4 (aT4 (aT4 (aT4 (aT4 (aT4 (aT4 (aT4 (aT4 (aT4 (aT4 (aT4 (aT4 (aT4 aN))))))))))))))))))))) (fun _ h => (qThen (h.ht (cont true (of_some hT22)))))
    ·rcases of_bif hT22 with ⟨hb72, hT22⟩ | ⟨hb72, hT22⟩
     ·exact HT.rgK [oH, oH, oH, oF, oF, vF, oH, oF, oF, vF, oH, oT, oT, vT, oH, oT, oT, vT, oH, oT, oT, vT, oH, oT, oT, oT, vT, oH, oT, oT, oT, oT, vT, oH, oT, oT, oT, oT, vT, oH, oT, oT, oT, oT, vT, oH, oT, oT, oT, oT, vT, oH, oT, oT, oT, vT, oH, oT, oT, oT, oT, oT, oT, vT, oH, oT, oT, oT, oT, oT, vT, oH, oT, oT, oT, oT, oT, vT, oH, oT, oT, oT, vT] [(0, 0), (1, 1), (3, 2), (8, 3), (5, 4), (6, 5), (7, 6)] [] hX (by kernel_rfl) (aC hb70 (aC hb70 (aC hb70 (aC hb71 (aC hb71 (aC hb71 (aC hb72 (aC hb72 (aC hb72 (aT4 (aT4 (aT4 (aT4 (aT4 (aT4 (aT4 (aT4 (aT4 (aT4 (aT4 (aT4 (aT4 (aT4 (aT aN)))))))))))))))))))))))) (fun _ h => (qThen (h.ht (cont true (of_some hT22)))))
     ·rcases of_bif hT22 with ⟨hb73, hT22⟩ | ⟨hb73, hT22⟩
      ·exact HT.rgK [oH, oH, oH, oF, oF, vF, oH, oF, oF, vF, oH, oF, oF, vF, oH, oT, oT, vT, oH, oT, oT, vT, oH, oT, oT, oT, vT, oH, oT, oT, oT, oT, vT, oH, oT, oT, oT, oT, vT, oH, oT, oT, oT, oT, vT, oH, oT, oT, oT, oT, vT, oH, oT, oT, oT, vT, oH, oT, oT, oT, oT, oT, oT, vT, oH, oT, oT, oT, oT, oT, vT, oH, oT, oT, oT, oT, oT, vT, oH, oT, oT, oT, vT] [(0, 0), (1, 1), (3, 2), (8, 3), (5, 4), (6, 5), (7, 6)] [] hX (by kernel_rfl) (aC hb70 (aC hb70 (aC hb70 (aC hb71 (aC hb71 (aC hb71 (aC hb72 (aC hb72 (aC hb72 (aC hb73 (aC hb73 (aC hb73 (aT4 (aT4 (aT4 (aT4 (aT4 (aT4 (aT4 (aT4 (aT4 (aT4 (aT4 (aT4 (aT4 (aT (aT aN))))))))))))))))))))))))))) (fun _ h => (qThen (h.ht (cont true (of_some hT22)))))
      ·rcases of_bif hT22 with ⟨hb74, hT22⟩ | ⟨hb74, hT22⟩
       ·exact HT.rgK [oH, oH, oH, oF, oF, vF, oH, oF, oF, vF, oH, oF, oF, vF, oH, oF, oF, vF, oH, oT, oT, vT, oH, oT, oT, oT, vT, oH, oT, oT, oT, oT, vT, oH, oT, oT, oT, oT, vT, oH, oT, oT, oT, oT, vT, oH, oT, oT, oT, oT, vT, oH, oT, oT, oT, vT, oH, oT, oT, oT, oT, oT, oT, vT, oH, oT, oT, oT, oT, oT, vT, oH, oT, oT, oT, oT, oT, vT, oH, oT, oT, oT, vT] [(0, 0), (1, 1), (3, 2), (8, 3), (5, 4), (6, 5), (7, 6)] [] hX (by kernel_rfl) (aC hb70 (aC hb70 (aC hb70 (aC hb71 (aC hb71 (aC hb71 (aC hb72 (aC hb72 (aC hb72 (aC hb73 (aC hb73 (aC hb73 (aC hb74 (aC hb74 (aC hb74 (aT4 (aT4 (aT4 (aT4 (aT4 (aT4 (aT4 (aT4 (aT4 (aT4 (aT4 (aT4 (aT (aT (aT aN)))))))))))))))))))))))))))))) (fun _ h => (qThen (h.ht (cont true (of_some hT22)))))
       ·rcases of_bif hT22 with ⟨hb75, hT22⟩ | ⟨hb75, hT22⟩
        ·exact HT.rgK [oH, oH, oH, oF, oF, vF, oH, oF, oF, vF, oH, oF, oF, vF, oH, oF, oF, vF, oH, oF, oF, vF, oH, oT, oT, oT, vT, oH, oT, oT, oT, oT, vT, oH, oT, oT, oT, oT, vT, oH, oT, oT, oT, oT, vT, oH, oT, oT, oT, oT, vT, oH, oT, oT, oT, vT, oH, oT, oT, oT, oT, oT, oT, vT, oH, oT, oT, oT, oT, oT, vT, oH, oT, oT, oT, oT, oT, vT, oH, oT, oT, oT, vT] [(0, 0), (1, 1), (3, 2), (8, 3), (5, 4), (6, 5), (7, 6)] [] hX (by kernel_rfl) (aC hb70 (aC hb70 (aC hb70 (aC hb71 (aC hb71 (aC hb71 (aC hb72 (aC hb72 (aC hb72 (aC hb73 (aC hb73 (aC hb73 (aC hb74 (aC hb74 (aC hb74 (aC hb75 (aC hb75 (aC hb75 (aC hb75 (aT4 (aT4 (aT4 (aT4 (aT4 (aT4 (aT4 (aT4 (aT4 (aT4 (aT4 (aT (aT (aT aN))))))))))))))))))))))))))))))))) (fun _ h => (qThen (h.ht (cont true (of_some hT22)))))
        ·obtain ⟨y76, hc77, hT22⟩ := of_bind hT22
         rcases of_bif hT22 with ⟨hb78, hT22⟩ | ⟨hb78, hT22⟩
         ·exact HT.rgK [oH, oH, oH, oF, oF, vF, oH, oF, oF, vF, oH, oF, oF, vF, oH, oF, oF, vF, oH, oF, oF, vF, oH, oF, ⟨some false, .call [.imm tG] [⟨false, .bool, y76⟩] []⟩, oF, vF, oH, oT, oT, oT, oT, vT, oH, oT, oT, oT, oT, vT, oH, oT, oT, oT, oT, vT, oH, oT, oT, oT, oT, vT, oH, oT, oT, oT, vT, oH, oT, oT, oT, oT, oT, oT, vT, oH, oT, oT, oT, oT, oT, vT, oH, oT, oT, oT, oT, oT, vT, oH, oT, oT, oT, vT] [(0, 0), (1, 1), (3, 2), (8, 3), (5, 4), (6, 5), (7, 6)] [] hX (by kernel_rfl) (aC hb70 (aC hb70 (aC hb70 (aC hb71 (aC hb71 (aC hb71 (aC hb72 (aC hb72 (aC hb72 (aC hb73 (aC hb73 (aC hb73 (aC hb74 (aC hb74 (aC hb74 (aC hb75 (aC hb75 (aC (f53_ok hc77) (aC hb75 (aC hb75 (aC hb78 (aC hb78 (aC hb78 (aC hb78 (aC hb78 (aT4 (aT4 (aT4 (aT4 (aT4 (aT4 (aT4 (aT4 (aT4 (aT4 (aT (aT aN))))))))))))))))))))))))))))))))))))) (fun _ h => (qThen (h.ht (cont true (of_some hT22)))))
         ·obtain ⟨y79, hc80, hT22⟩ := of_bind hT22
          rcases of_bif hT22 with ⟨hb81, hT22⟩ | ⟨hb81, hT22⟩
          ·exact HT.rgK [oH, oH, oH, oF, oF, vF, oH, oF, oF, vF, oH, oF, oF, vF, oH, oF, oF, vF, oH, oF, oF, vF, oH, oF, ⟨some false, .call [.imm tG] [⟨false, .bool, y76⟩] []⟩, oF, vF, oH, oF, oF, ⟨some false, .call [.imm tG, .imm tG] [⟨false, .bool, y79⟩] []⟩, oF, vF, oH, oT, oT, oT, oT, vT, oH, oT, oT, oT, oT, vT, oH, oT, oT, oT, oT, vT, oH, oT, oT, oT, vT, oH, oT, oT, oT, oT, oT, oT, vT, oH, oT, oT, oT, oT, oT, vT, oH, oT, oT, oT, oT, oT, vT, oH, oT, oT, oT, vT] [(0, 0), (1, 1), (3, 2), (8, 3), (5, 4), (6, 5), (7, 6)] [] hX (by kernel_rfl) (aC hb70 (aC hb70 (aC hb70 (aC hb71 (aC hb71 (aC hb71 (aC hb72 (aC hb72 (aC hb72 (aC hb73 (aC hb73 (aC hb73 (aC hb74 (aC hb74 (aC hb74 (aC hb75 (aC hb75 (aC (f53_ok hc77) (aC hb75 (aC hb75 (aC hb78 (aC hb78 (aC hb78 (aC (f54_ok hc80) (aC hb78 (aC hb78 (aC hb81 (aC hb81 (aC hb81 (aC hb81 (aC hb81 (aT4 (aT4 (aT4 (aT4 (aT4 (aT4 (aT4 (aT4 (aT4 (aT aN))))))))))))))))))))))))))))))))))))))))) (fun _ h => (qThen (h.ht (cont true (of_some hT22)))))
          ·obtain ⟨y82, hc83, hT22⟩ := of_bind hT22
           rcases of_bif hT22 with ⟨hb84, hT22⟩ | ⟨hb84, hT22⟩
           ·exact HT.rgK [oH, oH, oH, oF, oF, vF, oH, oF, oF, vF, oH, oF, oF, vF, oH, oF, oF, vF, oH, oF, oF, vF, oH, oF, ⟨some false, .call [.imm tG] [⟨false, .bool, y76⟩] []⟩, oF, vF, oH, oF, oF, ⟨some false, .call [.imm tG, .imm tG] [⟨false, .bool, y79⟩] []⟩, oF, vF, oH, oF, oF, ⟨some false, .call [.imm tLI, .imm tLI] [⟨false, .bool, y82⟩] []⟩, oF, vF, oH, oT, oT, oT, oT, vT, oH, oT, oT, oT, oT, vT, oH, oT, oT, oT, vT, oH, oT, oT, oT, oT, oT, oT, vT, oH, oT, oT, oT, oT, oT, vT, oH, oT, oT, oT, oT, oT, vT, oH, oT, oT, oT, vT] [(0, 0), (1, 1), (3, 2), (8, 3), (5, 4), (6, 5), (7, 6)] [] hX (by kernel_rfl) (aC hb70 (aC hb70 (aC hb70 (aC hb71 (aC hb71 (aC hb71 (aC hb72 (aC hb72 (aC hb72 (aC hb73 (aC hb73 (aC hb73 (aC hb74 (aC hb74 (aC hb74 (aC hb75 (aC hb75 (aC (f53_ok hc77) (aC hb75 (aC hb75 (aC hb78 (aC hb78 (aC hb78 (aC (f54_ok hc80) (aC hb78 (aC hb78 (aC hb81 (aC hb81 (aC hb81 (aC (f38_ok hc83) (aC hb81 (aC hb81 (aC hb84 (aC hb84 (aC hb84 (aC hb84 (aC hb84 (aT4 (aT4 (aT4 (aT4 (aT4 (aT4 (aT4 (aT4 aN))))))))))))))))))))))))))))))))))))))))))))) (fun _ h => (qThen (h.ht (cont true (of_some hT22)))))
           ·rcases of_bif hT22 with ⟨hb85, hT22⟩ | ⟨hb85, hT22⟩
            ·exact HT.rgK [oH, oH, oH, oF, oF, vF, oH, oF, oF, vF, oH, oF, oF, vF, oH, oF, oF, vF, oH, oF, oF, vF, oH, oF, ⟨some false, .call [.imm tG] [⟨false, .bool, y76⟩] []⟩, oF, vF, oH, oF, oF, ⟨some false, .call [.imm tG, .imm tG] [⟨false, .bool, y79⟩] []⟩, oF, vF, oH, oF, oF, ⟨some false, .call [.imm tLI, .imm tLI] [⟨false, .bool, y82⟩] []⟩, oF, vF, oH, oF, oF, oF, oF, vF, oH, oT, oT, oT, oT, vT, oH, oT, oT, oT, vT, oH, oT, oT, oT, oT, oT, oT, vT, oH, oT, oT, oT, oT, oT, vT, oH, oT, oT, oT, oT, oT, vT, oH, oT, oT, oT, vT] [(0, 0), (1, 1), (3, 2), (8, 3), (5, 4), (6, 5), (7, 6)] [] hX (by kernel_rfl) (aC hb70 (aC hb70 (aC hb70 (aC hb71 (aC hb71 (aC hb71 (aC hb72 (aC hb72 (aC hb72 (aC hb73 (aC hb73 (aC hb73 (aC hb74 (aC hb74 (aC hb74 (aC hb75 (aC hb75 (aC (f53_ok hc77) (aC hb75 (aC hb75 (aC hb78 (aC hb78 (aC hb78 (aC (f54_ok hc80) (aC hb78 (aC hb78 (aC hb81 (aC hb81 (aC hb81 (aC (f38_ok hc83) (aC hb81 (aC hb81 (aC hb84 (aC hb84 (aC hb84 (aC hb84 (aC hb84 (aC hb85 (aC hb85 (aC hb85 (aC hb85 (aC hb85 (aT4 (aT4 (aT4 (aT4 (aT4 (aT4 (aT (aT (aT aN))))))))))))))))))))))))))))))))))))))))))))))))))) (fun _ h => (qThen (h.ht (cont true (of_some hT22)))))
            ·obtain ⟨y86, hc87, hT22⟩ := of_bind hT22
             rcases of_bif hT22 with ⟨hb88, hT22⟩ | ⟨hb88, hT22⟩
             ·exact HT.rgK [oH, oH, oH, oF, oF, vF, oH, oF, oF, vF, oH, oF, oF, vF, oH, oF, oF, vF, oH, oF, oF, vF, oH, oF, ⟨some false, .call [.imm tG] [⟨false, .bool, y76⟩] []⟩, oF, vF, oH, oF, oF, ⟨some false, .call [.imm tG, .imm tG] [⟨false, .bool, y79⟩] []⟩, oF, vF, oH, oF, oF, ⟨some false, .call [.imm tLI, .imm tLI] [⟨false, .bool, y82⟩] []⟩, oF, vF, oH, oF, oF, oF, oF, vF, oH, oF, oF, ⟨some false, .call [.imm tLI, .imm tLI] [⟨false, .bool, y86⟩] []⟩, oF, vF, oH, oT, oT, oT, vT, oH, oT, oT, oT, oT, oT, oT, vT, oH, oT, oT, oT, oT, oT, vT, oH, oT, oT, oT, oT, oT, vT, oH, oT, oT, oT, vT] [(0, 0), (1, 1), (3, 2), (8, 3), (5, 4), (6, 5), (7, 6)] [] hX (by kernel_rfl) (aC hb70 (aC hb70 (aC hb70 (aC hb71 (aC hb71 (aC hb71 (aC hb72 (aC hb72 (aC hb72 (aC hb73 (aC hb73 (aC hb73 (aC hb74 (aC hb74 (aC hb74 (aC hb75 (aC hb75 (aC (f53_ok hc77) (aC hb75 (aC hb75 (aC hb78 (aC hb78 (aC hb78 (aC (f54_ok hc80) (aC hb78 (aC hb78 (aC hb81 (aC hb81 (aC hb81 (aC (f38_ok hc83) (aC hb81 (aC hb81 (aC hb84 (aC hb84 (aC hb84 (aC hb84 (aC hb84 (aC hb85 (aC hb85 (aC hb85 (aC (f38_ok hc87) (aC hb85 (aC hb85 (aC hb88 (aC hb88 (aC hb88 (aC hb88 (aT4 (aT4 (aT4 (aT4 (aT4 (aT (aT (aT aN))))))))))))))))))))))))))))))))))))))))))))))))))))))) (fun _ h => (qThen (h.ht (cont true (of_some hT22)))))
             ·rcases of_bif hT22 with ⟨hb89, hT22⟩ | ⟨hb89, hT22⟩
              ·exact HT.rgK [oH, oH, oH, oF, oF, vF, oH, oF, oF, vF, oH, oF, oF, vF, oH, oF, oF, vF, oH, oF, oF, vF, oH, oF, ⟨some false, .call [.imm tG] [⟨false, .bool, y76⟩] []⟩, oF, vF, oH, oF, oF, ⟨some false, .call [.imm tG, .imm tG] [⟨false, .bool, y79⟩] []⟩, oF, vF, oH, oF, oF, ⟨some false, .call [.imm tLI, .imm tLI] [⟨false, .bool, y82⟩] []⟩, oF, vF, oH, oF, oF, oF, oF, vF, oH, oF, oF, ⟨some false, .call [.imm tLI, .imm tLI] [⟨false, .bool, y86⟩] []⟩, oF, vF, oH, oF, oF, oF, vF, oH, oT, oT, oT, oT, oT, oT, vT, oH, oT, oT, oT, oT, oT, vT, oH, oT, oT, oT, oT, oT, vT, oH, oT, oT, oT, vT] [(0, 0), (1, 1), (3, 2), (8, 3), (5, 4), (6, 5), (7, 6)] [] hX (by kernel_rfl) (aC hb70 (aC hb70 (aC hb70 (aC hb71 (aC hb71 (aC hb71 (aC hb72 (aC hb72 (aC hb72 (aC hb73 (aC hb73 (aC hb73 (aC hb74 (aC hb74 (aC hb74 (aC hb75 (aC hb75 (aC (f53_ok hc77) (aC hb75 (aC hb75 (aC hb78 (aC hb78 (aC hb78 (aC (f54_ok hc80) (aC hb78 (aC hb78 (aC hb81 (aC hb81 (aC hb81 (aC (f38_ok hc83) (aC hb81 (aC hb81 (aC hb84 (aC hb84 (aC hb84 (aC hb84 (aC hb84 (aC hb85 (aC hb85 (aC hb85 (aC (f38_ok hc87) (aC hb85 (aC hb85 (aC hb88 (aC hb88 (aC hb88 (aC hb88 (aC hb89 (aC hb89 (aC hb89 (aC hb89 (aC hb89 (aC hb89 (aC hb89 (aT4 (aT4 (aT4 (aT4 aN)))))))))))))))))))))))))))))))))))))))))))))))))))))))))) (fun _ h => (qThen (h.ht (cont true (of_some hT22)))))
              ·obtain ⟨hg90, hT22⟩ := of_guard hT22
               obtain ⟨y91, hc92, hT22⟩ := of_bind hT22
               rcases of_bif hT22 with ⟨hb93, hT22⟩ | ⟨hb93, hT22⟩
               ·exact HT.rgK [oH, oH, oH, oF, oF, vF, oH, oF, oF, vF, oH, oF, oF, vF, oH, oF, oF, vF, oH, oF, oF, vF, oH, oF, ⟨some false, .call [.imm tG] [⟨false, .bool, y76⟩] []⟩, oF, vF, oH, oF, oF, ⟨some false, .call [.imm tG, .imm tG] [⟨false, .bool, y79⟩] []⟩, oF, vF, oH, oF, oF, ⟨some false, .call [.imm tLI, .imm tLI] [⟨false, .bool, y82⟩] []⟩, oF, vF, oH, oF, oF, oF, oF, vF, oH, oF, oF, ⟨some false, .call [.imm tLI, .imm tLI] [⟨false, .bool, y86⟩] []⟩, oF, vF, oH, oF, oF, oF, vF, oH, oF, oF, oF, oF, ⟨some false, .call [.imm tLI, .imm tLI] [⟨false, .bool, y91⟩] []⟩, oF, vF, oH, oT, oT, oT, oT, oT, vT, oH, oT, oT, oT, oT, oT, vT, oH, oT, oT, oT, vT] [(0, 0), (1, 1), (3, 2), (8, 3), (5, 4), (6, 5), (7, 6)] [] hX (by kernel_rfl) (aC hb70 (aC hb70 (aC hb70 (aC hb71 (aC hb71 (aC hb71 (aC hb72 (aC hb72 (aC hb72 (aC hb73 (aC hb73 (aC hb73 (aC hb74 (aC hb74 (aC hb74 (aC hb75 (aC hb75 (aC (f53_ok hc77) (aC hb75 (aC hb75 (aC hb78 (aC hb78 (aC hb78 (aC (f54_ok hc80) (aC hb78 (aC hb78 (aC hb81 (aC hb81 (aC hb81 (aC (f38_ok hc83) (aC hb81 (aC hb81 (aC hb84 (aC hb84 (aC hb84 (aC hb84 (aC hb84 (aC hb85 (aC hb85 (aC hb85 (aC (f38_ok hc87) (aC hb85 (aC hb85 (aC hb88 (aC hb88 (aC hb88 (aC hb88 (aC hb89 (aC hb89 (aC hg90 (aC hb89 (aC (natLt hg90) (aC hb89 (aC hb89 (aC (f38_ok hc92) (aC hb89 (aC hb89 (aC hb93 (aC hb93 (aC hb93 (aC hb93 (aC hb93 (aC hb93 (aT4 (aT4 (aT (aT aN))))))))))))))))))))))))))))))))))))))))))))))))))))))))))))))))))) (fun _ h => (qThen (h.ht (cont true (of_some hT22)))))
               ·obtain ⟨y94, hc95, hT22⟩ := of_bind hT22
                rcases of_bif hT22 with ⟨hb96, hT22⟩ | ⟨hb96, hT22⟩
                ·exact HT.rgK [oH, oH, oH, oF, oF, vF, oH, oF, oF, vF, oH, oF, oF, vF, oH, oF, oF, vF, oH, oF, oF, vF, oH, oF, ⟨some false, .call [.imm tG] [⟨false, .bool, y76⟩] []⟩, oF, vF, oH, oF, oF, ⟨some false, .call [.imm tG, .imm tG] [⟨false, .bool, y79⟩] []⟩, oF, vF, oH, oF, oF, ⟨some false, .call [.imm tLI, .imm tLI] [⟨false, .bool, y82⟩] []⟩, oF, vF, oH, oF, oF, oF, oF, vF, oH, oF, oF, ⟨some false, .call [.imm tLI, .imm tLI] [⟨false, .bool, y86⟩] []⟩, oF, vF, oH, oF, oF, oF, vF, oH, oF, oF, oF, oF, ⟨some false, .call [.imm tLI, .imm tLI] [⟨false, .bool, y91⟩] []⟩, oF, vF, oH, oF, oF, oF, ⟨some false, .call [.imm tG, .imm tLI, .imm tLI] [⟨false, .bool, y94⟩] []⟩, oF, vF, oH, oT, oT, oT, oT, oT, vT, oH, oT, oT, oT, vT] [(0, 0), (1, 1), (3, 2), (8, 3), (5, 4), (6, 5), (7, 6)] [] hX (by kernel_rfl) (aC hb70 (aC hb70 (aC hb70 (aC hb71 (aC hb71 (aC hb71 (aC hb72 (aC hb72 (aC hb72 (aC hb73 (aC hb73 (aC hb73 (aC hb74 (aC hb74 (aC hb74 (aC hb75 (aC hb75 (aC (f53_ok hc77) (aC hb75 (aC hb75 (aC hb78 (aC hb78 (aC hb78 (aC (f54_ok hc80) (aC hb78 (aC hb78 (aC hb81 (aC hb81 (aC hb81 (aC (f38_ok hc83) (aC hb81 (aC hb81 (aC hb84 (aC hb84 (aC hb84 (aC hb84 (aC hb84 (aC hb85 (aC hb85 (aC hb85 (aC (f38_ok hc87) (aC hb85 (aC hb85 (aC hb88 (aC hb88 (aC hb88 (aC hb88 (aC hb89 (aC hb89 (aC hg90 (aC hb89 (aC (natLt hg90) (aC hb89 (aC hb89 (aC (f38_ok hc92) (aC hb89 (aC hb89 (aC hb93 (aC hb93 (aC hb93 (aC hb93 (aC (f55_ok hc95) (aC hb93 (aC hb93 (aC hb96 (aC hb96 (aC hb96 (aC hb96 (aC hb96 (aC hb96 (aT4 aN))))))))))))))))))))))))))))))))))))))))))))))))))))))))))))))))))))))) (fun _ h => (qThen (h.ht (cont true (of_some hT22)))))
                ·obtain ⟨y97, hc98, hT22⟩ := of_bind hT22
                 rcases of_bif hT22 with ⟨hb99, hT22⟩ | ⟨hb99, hT22⟩
                 ·exact HT.rgK [oH, oH, oH, oF, oF, vF, oH, oF, oF, vF, oH, oF, oF, vF, oH, oF, oF, vF, oH, oF, oF, vF, oH, oF, ⟨some false, .call [.imm tG] [⟨false, .bool, y76⟩] []⟩, oF, vF, oH, oF, oF, ⟨some false, .call [.imm tG, .imm tG] [⟨false, .bool, y79⟩] []⟩, oF, vF, oH, oF, oF, ⟨some false, .call [.imm tLI, .imm tLI] [⟨false, .bool, y82⟩] []⟩, oF, vF, oH, oF, oF, oF, oF, vF, oH, oF, oF, ⟨some false, .call [.imm tLI, .imm tLI] [⟨false, .bool, y86⟩] []⟩, oF, vF, oH, oF, oF, oF, vF, oH, oF, oF, oF, oF, ⟨some false, .call [.imm tLI, .imm tLI] [⟨false, .bool, y91⟩] []⟩, oF, vF, oH, oF, oF, oF, ⟨some false, .call [.imm tG, .imm tLI, .imm tLI] [⟨false, .bool, y94⟩] []⟩, oF, vF, oH, oF, oF, oF, ⟨some false, .call [.imm tG, .imm tLI, .imm tLI] [⟨false, .bool, y97⟩] []⟩, oF, vF, oH, oT, oT, oT, vT] [(0, 0), (1, 1), (3, 2), (8, 3), (5, 4), (6, 5), (7, 6)] [] hX (by kernel_rfl) (aC hb70 (aC hb70 (aC hb70 (aC hb71 (aC hb71 (aC hb71 (aC hb72 (aC hb72 (aC hb72 (aC hb73 (aC hb73 (aC hb73 (aC hb74 (aC hb74 (aC hb74 (aC hb75 (aC hb75 (aC (f53_ok hc77) (aC hb75 (aC hb75 (aC hb78 (aC hb78 (aC hb78 (aC (f54_ok hc80) (aC hb78 (aC hb78 (aC hb81 (aC hb81 (aC hb81 (aC (f38_ok hc83) (aC hb81 (aC hb81 (aC hb84 (aC hb84 (aC hb84 (aC hb84 (aC hb84 (aC hb85 (aC hb85 (aC hb85 (aC (f38_ok hc87) (aC hb85 (aC hb85 (aC hb88 (aC hb88 (aC hb88 (aC hb88 (aC hb89 (aC hb89 (aC hg90 (aC hb89 (aC (natLt hg90) (aC hb89 (aC hb89 (aC (f38_ok hc92) (aC hb89 (aC hb89 (aC hb93 (aC hb93 (aC hb93 (aC hb93 (aC (f55_ok hc95) (aC hb93 (aC hb93 (aC hb96 (aC hb96 (aC hb96 (aC hb96 (aC (f56_ok hc98) (aC hb96 (aC hb96 (aC hb99 (aC hb99 (aC hb99 (aC hb99 aN))))))))))))))))))))))))))))))))))))))))))))))))))))))))))))))))))))))))))) (fun _ h => (qThen (h.ht (cont true (of_some hT22)))))
                 ·obtain ⟨y100, hc101, hT22⟩ := of_bind hT22
                  exact HT.rgK [oH, oH, oH, oF, oF, vF, oH, oF, oF, vF, oH, oF, oF, vF, oH, oF, oF, vF, oH, oF, oF, vF, oH, oF, ⟨some false, .call [.imm tG] [⟨false, .bool, y76⟩] []⟩, oF, vF, oH, oF, oF, ⟨some false, .call [.imm tG, .imm tG] [⟨false, .bool, y79⟩] []⟩, oF, vF, oH, oF, oF, ⟨some false, .call [.imm tLI, .imm tLI] [⟨false, .bool, y82⟩] []⟩, oF, vF, oH, oF, oF, oF, oF, vF, oH, oF, oF, ⟨some false, .call [.imm tLI, .imm tLI] [⟨false, .bool, y86⟩] []⟩, oF, vF, oH, oF, oF, oF, vF, oH, oF, oF, oF, oF, ⟨some false, .call [.imm tLI, .imm tLI] [⟨false, .bool, y91⟩] []⟩, oF, vF, oH, oF, oF, oF, ⟨some false, .call [.imm tG, .imm tLI, .imm tLI] [⟨false, .bool, y94⟩] []⟩, oF, vF, oH, oF, oF, oF, ⟨some false, .call [.imm tG, .imm tLI, .imm tLI] [⟨false, .bool, y97⟩] []⟩, oF, vF, oH, oF, ⟨some false, .call [.imm tG] [⟨false, .bool, y100⟩] []⟩, oF, vF] [(0, 0), (1, 1), (3, 2), (8, 3), (5, 4), (6, 5), (7, 6)] [] hX (by kernel_rfl) (aC hb70 (aC hb70 (aC hb70 (aC hb71 (aC hb71 (aC hb71 (aC hb72 (aC hb72 (aC hb72 (aC hb73 (aC hb73 (aC hb73 (aC hb74 (aC hb74 (aC hb74 (aC hb75 (aC hb75 (aC (f53_ok hc77) (aC hb75 (aC hb75 (aC hb78 (aC hb78 (aC hb78 (aC (f54_ok hc80) (aC hb78 (aC hb78 (aC hb81 (aC hb81 (aC hb81 (aC (f38_ok hc83) (aC hb81 (aC hb81 (aC hb84 (aC hb84 (aC hb84 (aC hb84 (aC hb84 (aC hb85 (aC hb85 (aC hb85 (aC (f38_ok hc87) (aC hb85 (aC hb85 (aC hb88 (aC hb88 (aC hb88 (aC hb88 (aC hb89 (aC hb89 (aC hg90 (aC hb89 (aC (natLt hg90) (aC hb89 (aC hb89 (aC (f38_ok hc92) (aC hb89 (aC hb89 (aC hb93 (aC hb93 (aC hb93 (aC hb93 (aC (f55_ok hc95) (aC hb93 (aC hb93 (aC hb96 (aC hb96 (aC hb96 (aC hb96 (aC (f56_ok hc98) (aC hb96 (aC hb96 (aC hb99 (aC hb99 (aC (f57_ok hc101) (aC hb99 (aC hb99 aN)))))))))))))))))))))))))))))))))))))))))))))))))))))))))))))))))))))))))))) (fun _ h => (qThen (h.ht (cont (!y100) (of_some hT22)))))

end Go.Proofs
