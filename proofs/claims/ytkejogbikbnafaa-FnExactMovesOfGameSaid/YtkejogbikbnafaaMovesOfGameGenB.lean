import Derived.Test.YtkejogbikbnafaaMovesOfGameGenA
import Derived.Test.YtkejogbikbnafaaProg
set_option linter.unusedVariables false
set_option linter.unusedSimpArgs false
set_option linter.unusedSectionVars false
/-
  Functions as plain functions, and their contracts. Printed by a program.
-/
namespace Go.Proofs
open Go.Ide

noncomputable def impl_Game_winners_B1 (a0 : List Int × List Int × List (List Int)) (y3 : Int) (s5 : Int × List Int) : Option ((Int × List Int) ⊕ (List Int)) :=
  bif (decide (s5.1 < (lenI a0.1))) then
    guardP ((0 : Int) ≤ s5.1) (
      guardP (List.length s5.2 + List.length ([(wsub .i64 (1 : Int) (IntKind.wrap .i64 (IntKind.wrap .u32 (BitVec.ofInt (IntKind.bits .u32) (Int.fdiv y3 (2 ^ (min (Int.toNat s5.1) (IntKind.bits .u32)))) &&& BitVec.ofInt (IntKind.bits .u32) (1 : Int)).toNat)))] : List Int) ≤ appMax) (
        some (.inl ((wadd .i64 s5.1 (1 : Int)), (s5.2 ++ ([(wsub .i64 (1 : Int) (IntKind.wrap .i64 (IntKind.wrap .u32 (BitVec.ofInt (IntKind.bits .u32) (Int.fdiv y3 (2 ^ (min (Int.toNat s5.1) (IntKind.bits .u32)))) &&& BitVec.ofInt (IntKind.bits .u32) (1 : Int)).toNat)))] : List Int))))))
  else
    some (.inr s5.2)

noncomputable def impl_Game_winners (a0 : List Int × List Int × List (List Int)) : Option (List Int) :=
  (impl_Game_all (a0.1, a0.2.1, a0.2.2)).bind fun y1 =>
  (impl_Game_solve (a0.1, a0.2.1, a0.2.2) y1).bind fun y3 =>
  (rounds (impl_Game_winners_B1 a0 y3) ((0 : Int), ([] : List Int))).bind fun r7 =>
  some r7

theorem f60_ok {a0 : List Int × List Int × List (List Int)} {r : List Int} (hr : impl_Game_winners a0 = some r) : CallOK Try.prog 60 [.imm (.st (.pair tLI (.pair tLI (.sl tLI)))) a0] [⟨true, tLI, r⟩] [] := by
  unfold impl_Game_winners at hr
  refine CallOK.of_body (ts := [(true, tLI)]) Try.func60 rfl (by kernel_rfl) (Nat.le_of_ble_eq_true (by kernel_rfl)) fun cx hP hN hO hF => ?_
  have hO : cx.own.map Prod.fst = [] := hO
  have hX := CxIs.mk hP hN hO
  have hF := hF rfl
  show HT cx ⟨[(0, .agg [nC a0.1, nC a0.2.1, .dat (.sl tLI) a0.2.2])], [], 0⟩ _ _
  refine HT.rg2 (oHs 2) ⟨[(1, pV 0 0)], [(0, .box [nC a0.1, nC a0.2.1, .dat (.sl tLI) a0.2.2])], 1⟩ hX (by kernel_rfl) allNil ?_
  obtain ⟨y1, hc2, hr⟩ := of_bind hr
  obtain ⟨y3, hc4, hr⟩ := of_bind hr
  refine HT.dr2 3 [⟨oH, []⟩, ⟨oH, []⟩, ⟨⟨none, .call [.imm (.st (.pair tLI (.pair tLI (.sl tLI))))] [⟨false, (.int .u32), y1⟩] []⟩, [1]⟩] [[0, 1, 2], [0, 1, 2, 3]] [⟨none, .call [.imm (.st (.pair tLI (.pair tLI (.sl tLI)))), .imm (.int .u32)] [⟨false, (.int .u32), y3⟩] []⟩, oH] ⟨[(1, pV 0 0), (3, .one (.dat (.int .u32) y3))], [(0, .box [nC a0.1, nC a0.2.1, .dat (.sl tLI) a0.2.2])], 1⟩ hX (by kernel_rfl) (by kernel_rfl) (allCons (f58_ok hc2) (allCons (f78_ok hc4) allNil)) ?_
  refine HT.rg2 (oHs 2) ⟨[(1, pV 0 0), (3, .one (.dat (.int .u32) y3)), (4, .one (.nilS))], [(0, .box [nC a0.1, nC a0.2.1, .dat (.sl tLI) a0.2.2])], 1⟩ hX (by kernel_rfl) allNil ?_
  refine HT.seq ?_
  refine HT.rg2 (oHs 4) ⟨[(3, .one (.dat (.int .u32) y3)), (4, .one (.nilS)), (13, iV (lenI a0.1)), (14, iV (0 : Int))], [], 1⟩ hX (by kernel_rfl) allNil ?_
  refine HT.block ?_
  obtain ⟨r6, hL14, hr⟩ := of_bind hr
  refine HT.loopL (fun (s5 : Int × List Int) => ⟨[(3, .one (.dat (.int .u32) y3)), (4, aV 0), (13, iV (lenI a0.1)), (14, iV s5.1)], [(0, .seq tI s5.2)], 1⟩) (fun (r7 : List Int) => (.exit 0, ⟨[(4, aV 0)], [(0, .seq tI r7)], 1⟩)) (Le.re [] [0] hX (by kernel_rfl)) hL14 ?_ (fun s5 x8 hx9 hk10 => ?_)
  · refine (qBlockX (qThen ?_))
    refine HT.rg2 (oHs 2) ⟨[(2, aV 0)], [(0, .seq tI r6)], 1⟩ hX (by kernel_rfl) allNil ?_
    have hr := of_some hr
    subst hr
    exact HT.ret ⟨[aV 0], [0], [], by kernel_rfl, by kernel_rfl, rfl, by kernel_rfl, by kernel_rfl, trivial⟩
  · refine HT.rg2 [oH] ⟨[(3, .one (.dat (.int .u32) y3)), (4, aV 0), (13, iV (lenI a0.1)), (14, iV s5.1), (15, bV (decide (s5.1 < (lenI a0.1))))], [(0, .seq tI s5.2)], 1⟩ hX (by kernel_rfl) allNil ?_
    refine HT.seq ?_
    rcases of_bif hx9 with ⟨hb11, hx9⟩ | ⟨hb11, hx9⟩
    · refine HT.cond1 rfl hb11 ?_
      refine HT.skip (qThen ?_)
      refine HT.seq ?_
      refine HT.block ?_
      refine HT.rg2 (oHs 2) ⟨[(3, .one (.dat (.int .u32) y3)), (4, aV 0), (5, iV s5.1), (13, iV (lenI a0.1)), (14, iV s5.1)], [(0, .seq tI s5.2)], 1⟩ hX (by kernel_rfl) allNil ?_
      obtain ⟨hg12, hx9⟩ := of_guard hx9
      obtain ⟨hg13, hx9⟩ := of_guard hx9
      refine HT.rgL [oH, oH, oH, oH, oH, oH, oH, ⟨none, .ty tI⟩, ⟨none, .ty tI⟩, oH] ⟨[(3, .one (.dat (.int .u32) y3)), (4, aV 2), (13, iV (lenI a0.1)), (14, iV s5.1)], [(2, .seq tI (s5.2 ++ ([(wsub .i64 (1 : Int) (IntKind.wrap .i64 (IntKind.wrap .u32 (BitVec.ofInt (IntKind.bits .u32) (Int.fdiv y3 (2 ^ (min (Int.toNat s5.1) (IntKind.bits .u32)))) &&& BitVec.ofInt (IntKind.bits .u32) (1 : Int)).toNat)))] : List Int)))], 3⟩ hX (by kernel_rfl) (allCons hg12 (allCons hg13 allNil)) (qBlock (qThen ?_))
      have hx9 := of_some hx9
      subst hx9
      exact HT.rgK (oHs 2) [(2, 0)] [] hX (by kernel_rfl) allNil (fun _ h => (qLoopN ⟨((wadd .i64 s5.1 (1 : Int)), (s5.2 ++ ([(wsub .i64 (1 : Int) (IntKind.wrap .i64 (IntKind.wrap .u32 (BitVec.ofInt (IntKind.bits .u32) (Int.fdiv y3 (2 ^ (min (Int.toNat s5.1) (IntKind.bits .u32)))) &&& BitVec.ofInt (IntKind.bits .u32) (1 : Int)).toNat)))] : List Int))), rfl, h⟩))
    · refine HT.cond0 rfl hb11 ?_
      have hx9 := of_some hx9
      subst hx9
      exact HT.exitL (Le.re [(0, 0)] [] hX (by kernel_rfl)) (qThenE (qLoopE (hk10 s5.2 rfl)))

theorem f64_ok {xs y : List (List Int)} (h : slices_Clone xs = some y) : CallOK Try.prog 64 [.imm (.sl tLI) xs] [⟨true, (.sl tLI), y⟩] [] := by
  obtain ⟨hg, h⟩ := of_guard h
  have h := of_some h
  subst h
  refine CallOK.of_body (ts := [(true, (.sl tLI))]) Try.func64 rfl (by kernel_rfl) (Nat.le_of_ble_eq_true (by kernel_rfl)) fun cx hP hN hO hF => ?_
  show HT cx ⟨[(0, .one (.dat (.sl tLI) xs))], [], 0⟩ _ _
  refine HT.reg1 [0] [⟨none, .no⟩] ⟨[(0, .one (.dat (.sl tLI) xs))], [], 0⟩ hP hN (by kernel_rfl) allNil ?_
  refine HT.seq ?_
  refine HT.isNil (t3 := 3) (t4 := 4) (v := .one (.dat (.sl tLI) xs)) (t := tLI) (xs := xs) (st1 := ⟨[(3, .one (.dat (.sl tLI) xs)), (0, .one (.dat (.sl tLI) xs))], [], 0⟩) hP hN (by kernel_rfl) rfl rfl rfl rfl (e := 22) (by kernel_rfl) rfl rfl (fun b hb => ?_)
  show HT cx ⟨[(4, .one (.dat .bool b)), (3, .one (.dat (.sl tLI) xs)), (0, .one (.dat (.sl tLI) xs))], [], 0⟩ _ _
  cases b with
  | true =>
    have e := hb rfl
    subst e
    refine HT.cond1 rfl rfl ?_
    refine HT.reg1 [2] [⟨none, .no⟩] ⟨[(2, .one .nilS)], [], 0⟩ hP hN (by kernel_rfl) allNil ?_
    exact HT.ret (qThenR ⟨[.one .nilS], [], [], by kernel_rfl, by kernel_rfl, rfl, by kernel_rfl, by kernel_rfl, trivial⟩)
  | false =>
    refine HT.cond0 rfl rfl ?_
    refine HT.skip (qThen ?_)
    refine HT.reg1 [2] [⟨none, .no⟩, ⟨none, .no⟩, ⟨none, .ty tLI⟩, ⟨none, .no⟩] ⟨[(2, .one (.all 0))], [(0, .seq tLI xs)], 1⟩ hP hN (by kernel_rfl) (allCons hg allNil) ?_
    exact HT.ret ⟨[.one (.all 0)], [0], [], by kernel_rfl, by kernel_rfl, rfl, by kernel_rfl, by kernel_rfl, trivial⟩

noncomputable def math_bits_Mul64 (a0 : Int) (a1 : Int) : Option (Int × Int) :=
  (some (IntKind.wrap .u64 (BitVec.ofInt (IntKind.bits .u64) a0 &&& BitVec.ofInt (IntKind.bits .u64) (4294967295 : Int)).toNat)).bind fun q1 =>
  (some (IntKind.wrap .u64 (BitVec.ofInt (IntKind.bits .u64) a1 &&& BitVec.ofInt (IntKind.bits .u64) (4294967295 : Int)).toNat)).bind fun q3 =>
  (some (wadd .u64 (wmul .u64 (Int.fdiv a0 (2 ^ (min (Int.toNat (32 : Int)) (IntKind.bits .u64)))) q3) (Int.fdiv (wmul .u64 q1 q3) (2 ^ (min (Int.toNat (32 : Int)) (IntKind.bits .u64)))))).bind fun q5 =>
  (some (IntKind.wrap .u64 (BitVec.ofInt (IntKind.bits .u64) q5 &&& BitVec.ofInt (IntKind.bits .u64) (4294967295 : Int)).toNat)).bind fun q7 =>
  (some (wadd .u64 q7 (wmul .u64 q1 (Int.fdiv a1 (2 ^ (min (Int.toNat (32 : Int)) (IntKind.bits .u64))))))).bind fun q9 =>
  (some (wadd .u64 (wadd .u64 (wmul .u64 (Int.fdiv a0 (2 ^ (min (Int.toNat (32 : Int)) (IntKind.bits .u64)))) (Int.fdiv a1 (2 ^ (min (Int.toNat (32 : Int)) (IntKind.bits .u64))))) (Int.fdiv q5 (2 ^ (min (Int.toNat (32 : Int)) (IntKind.bits .u64))))) (Int.fdiv q9 (2 ^ (min (Int.toNat (32 : Int)) (IntKind.bits .u64)))))).bind fun q11 =>
  some (q11, (wmul .u64 a0 a1))

theorem f94_ok {a0 : Int} {a1 : Int} {r : Int × Int} (hr : math_bits_Mul64 a0 a1 = some r) : CallOK Try.prog 94 [.imm (.int .u64) a0, .imm (.int .u64) a1] [⟨false, (.int .u64), r.1⟩, ⟨false, (.int .u64), r.2⟩] [] := by
  unfold math_bits_Mul64 at hr
  refine CallOK.of_body (ts := [(false, (.int .u64)), (false, (.int .u64))]) Try.func94 rfl (by kernel_rfl) (Nat.le_of_ble_eq_true (by kernel_rfl)) fun cx hP hN hO hF => ?_
  have hO : cx.own.map Prod.fst = [] := hO
  have hX := CxIs.mk hP hN hO
  have hF := hF rfl
  show HT cx ⟨[(0, .one (.dat (.int .u64) a0)), (1, .one (.dat (.int .u64) a1))], [], 0⟩ _ _
  refine HT.rg2 (oHs 2) ⟨[(0, .one (.dat (.int .u64) a0)), (1, .one (.dat (.int .u64) a1))], [], 0⟩ hX (by kernel_rfl) allNil ?_
  refine HT.rg2 (oHs 3) ⟨[(0, .one (.dat (.int .u64) a0)), (1, .one (.dat (.int .u64) a1)), (6, .one (.dat (.int .u64) (IntKind.wrap .u64 (BitVec.ofInt (IntKind.bits .u64) a0 &&& BitVec.ofInt (IntKind.bits .u64) (4294967295 : Int)).toNat)))], [], 0⟩ hX (by kernel_rfl) allNil ?_
  obtain ⟨q1, hq2, hr⟩ := of_bind hr
  have hq2 := of_some2 hq2
  refine (Le.cv (s := ⟨[], [], [], false⟩) (own := []) (ps := [a0 = a0, a1 = a1, q1 = (IntKind.wrap .u64 (BitVec.ofInt (IntKind.bits .u64) a0 &&& BitVec.ofInt (IntKind.bits .u64) (4294967295 : Int)).toNat)]) (st' := ⟨[(0, .one (.dat (.int .u64) a0)), (1, .one (.dat (.int .u64) a1)), (6, .one (.dat (.int .u64) q1))], [], 0⟩) hO (fun h => by cases h) (by kernel_rfl) ⟨rfl, rfl, hq2, trivial⟩).ht ?_
  refine HT.rg2 (oHs 3) ⟨[(0, .one (.dat (.int .u64) a0)), (1, .one (.dat (.int .u64) a1)), (6, .one (.dat (.int .u64) q1)), (7, .one (.dat (.int .u64) (Int.fdiv a0 (2 ^ (min (Int.toNat (32 : Int)) (IntKind.bits .u64))))))], [], 0⟩ hX (by kernel_rfl) (allCons (show (0 : Int) ≤ (32 : Int) from by decide) allNil) ?_
  refine HT.rg2 (oHs 3) ⟨[(0, .one (.dat (.int .u64) a0)), (1, .one (.dat (.int .u64) a1)), (6, .one (.dat (.int .u64) q1)), (7, .one (.dat (.int .u64) (Int.fdiv a0 (2 ^ (min (Int.toNat (32 : Int)) (IntKind.bits .u64)))))), (8, .one (.dat (.int .u64) (IntKind.wrap .u64 (BitVec.ofInt (IntKind.bits .u64) a1 &&& BitVec.ofInt (IntKind.bits .u64) (4294967295 : Int)).toNat)))], [], 0⟩ hX (by kernel_rfl) allNil ?_
  obtain ⟨q3, hq4, hr⟩ := of_bind hr
  have hq4 := of_some2 hq4
  refine (Le.cv (s := ⟨[], [], [], false⟩) (own := []) (ps := [a0 = a0, a1 = a1, q1 = q1, (Int.fdiv a0 (2 ^ (min (Int.toNat (32 : Int)) (IntKind.bits .u64)))) = (Int.fdiv a0 (2 ^ (min (Int.toNat (32 : Int)) (IntKind.bits .u64)))), q3 = (IntKind.wrap .u64 (BitVec.ofInt (IntKind.bits .u64) a1 &&& BitVec.ofInt (IntKind.bits .u64) (4294967295 : Int)).toNat)]) (st' := ⟨[(0, .one (.dat (.int .u64) a0)), (1, .one (.dat (.int .u64) a1)), (6, .one (.dat (.int .u64) q1)), (7, .one (.dat (.int .u64) (Int.fdiv a0 (2 ^ (min (Int.toNat (32 : Int)) (IntKind.bits .u64)))))), (8, .one (.dat (.int .u64) q3))], [], 0⟩) hO (fun h => by cases h) (by kernel_rfl) ⟨rfl, rfl, rfl, rfl, hq4, trivial⟩).ht ?_
  refine HT.rg2 (oHs 3) ⟨[(0, .one (.dat (.int .u64) a0)), (1, .one (.dat (.int .u64) a1)), (6, .one (.dat (.int .u64) q1)), (7, .one (.dat (.int .u64) (Int.fdiv a0 (2 ^ (min (Int.toNat (32 : Int)) (IntKind.bits .u64)))))), (8, .one (.dat (.int .u64) q3)), (9, .one (.dat (.int .u64) (Int.fdiv a1 (2 ^ (min (Int.toNat (32 : Int)) (IntKind.bits .u64))))))], [], 0⟩ hX (by kernel_rfl) (allCons (show (0 : Int) ≤ (32 : Int) from by decide) allNil) ?_
  refine HT.rg2 (oHs 4) ⟨[(0, .one (.dat (.int .u64) a0)), (1, .one (.dat (.int .u64) a1)), (6, .one (.dat (.int .u64) q1)), (7, .one (.dat (.int .u64) (Int.fdiv a0 (2 ^ (min (Int.toNat (32 : Int)) (IntKind.bits .u64)))))), (8, .one (.dat (.int .u64) q3)), (9, .one (.dat (.int .u64) (Int.fdiv a1 (2 ^ (min (Int.toNat (32 : Int)) (IntKind.bits .u64)))))), (10, .one (.dat (.int .u64) (wmul .u64 q1 q3)))], [], 0⟩ hX (by kernel_rfl) allNil ?_
  refine HT.rg2 (oHs 7) ⟨[(0, .one (.dat (.int .u64) a0)), (1, .one (.dat (.int .u64) a1)), (6, .one (.dat (.int .u64) q1)), (7, .one (.dat (.int .u64) (Int.fdiv a0 (2 ^ (min (Int.toNat (32 : Int)) (IntKind.bits .u64)))))), (9, .one (.dat (.int .u64) (Int.fdiv a1 (2 ^ (min (Int.toNat (32 : Int)) (IntKind.bits .u64)))))), (11, .one (.dat (.int .u64) (wadd .u64 (wmul .u64 (Int.fdiv a0 (2 ^ (min (Int.toNat (32 : Int)) (IntKind.bits .u64)))) q3) (Int.fdiv (wmul .u64 q1 q3) (2 ^ (min (Int.toNat (32 : Int)) (IntKind.bits .u64)))))))], [], 0⟩ hX (by kernel_rfl) (allCons (show (0 : Int) ≤ (32 : Int) from by decide) allNil) ?_
  obtain ⟨q5, hq6, hr⟩ := of_bind hr
  have hq6 := of_some2 hq6
  refine (Le.cv (s := ⟨[], [], [], false⟩) (own := []) (ps := [a0 = a0, a1 = a1, q1 = q1, (Int.fdiv a0 (2 ^ (min (Int.toNat (32 : Int)) (IntKind.bits .u64)))) = (Int.fdiv a0 (2 ^ (min (Int.toNat (32 : Int)) (IntKind.bits .u64)))), (Int.fdiv a1 (2 ^ (min (Int.toNat (32 : Int)) (IntKind.bits .u64)))) = (Int.fdiv a1 (2 ^ (min (Int.toNat (32 : Int)) (IntKind.bits .u64)))), q5 = (wadd .u64 (wmul .u64 (Int.fdiv a0 (2 ^ (min (Int.toNat (32 : Int)) (IntKind.bits .u64)))) q3) (Int.fdiv (wmul .u64 q1 q3) (2 ^ (min (Int.toNat (32 : Int)) (IntKind.bits .u64)))))]) (st' := ⟨[(0, .one (.dat (.int .u64) a0)), (1, .one (.dat (.int .u64) a1)), (6, .one (.dat (.int .u64) q1)), (7, .one (.dat (.int .u64) (Int.fdiv a0 (2 ^ (min (Int.toNat (32 : Int)) (IntKind.bits .u64)))))), (9, .one (.dat (.int .u64) (Int.fdiv a1 (2 ^ (min (Int.toNat (32 : Int)) (IntKind.bits .u64)))))), (11, .one (.dat (.int .u64) q5))], [], 0⟩) hO (fun h => by cases h) (by kernel_rfl) ⟨rfl, rfl, rfl, rfl, rfl, hq6, trivial⟩).ht ?_
  refine HT.rg2 (oHs 3) ⟨[(0, .one (.dat (.int .u64) a0)), (1, .one (.dat (.int .u64) a1)), (6, .one (.dat (.int .u64) q1)), (7, .one (.dat (.int .u64) (Int.fdiv a0 (2 ^ (min (Int.toNat (32 : Int)) (IntKind.bits .u64)))))), (9, .one (.dat (.int .u64) (Int.fdiv a1 (2 ^ (min (Int.toNat (32 : Int)) (IntKind.bits .u64)))))), (11, .one (.dat (.int .u64) q5)), (12, .one (.dat (.int .u64) (IntKind.wrap .u64 (BitVec.ofInt (IntKind.bits .u64) q5 &&& BitVec.ofInt (IntKind.bits .u64) (4294967295 : Int)).toNat)))], [], 0⟩ hX (by kernel_rfl) allNil ?_
  obtain ⟨q7, hq8, hr⟩ := of_bind hr
  have hq8 := of_some2 hq8
  refine (Le.cv (s := ⟨[], [], [], false⟩) (own := []) (ps := [a0 = a0, a1 = a1, q1 = q1, (Int.fdiv a0 (2 ^ (min (Int.toNat (32 : Int)) (IntKind.bits .u64)))) = (Int.fdiv a0 (2 ^ (min (Int.toNat (32 : Int)) (IntKind.bits .u64)))), (Int.fdiv a1 (2 ^ (min (Int.toNat (32 : Int)) (IntKind.bits .u64)))) = (Int.fdiv a1 (2 ^ (min (Int.toNat (32 : Int)) (IntKind.bits .u64)))), q5 = q5, q7 = (IntKind.wrap .u64 (BitVec.ofInt (IntKind.bits .u64) q5 &&& BitVec.ofInt (IntKind.bits .u64) (4294967295 : Int)).toNat)]) (st' := ⟨[(0, .one (.dat (.int .u64) a0)), (1, .one (.dat (.int .u64) a1)), (6, .one (.dat (.int .u64) q1)), (7, .one (.dat (.int .u64) (Int.fdiv a0 (2 ^ (min (Int.toNat (32 : Int)) (IntKind.bits .u64)))))), (9, .one (.dat (.int .u64) (Int.fdiv a1 (2 ^ (min (Int.toNat (32 : Int)) (IntKind.bits .u64)))))), (11, .one (.dat (.int .u64) q5)), (12, .one (.dat (.int .u64) q7))], [], 0⟩) hO (fun h => by cases h) (by kernel_rfl) ⟨rfl, rfl, rfl, rfl, rfl, rfl, hq8, trivial⟩).ht ?_
  refine HT.rg2 (oHs 3) ⟨[(0, .one (.dat (.int .u64) a0)), (1, .one (.dat (.int .u64) a1)), (6, .one (.dat (.int .u64) q1)), (7, .one (.dat (.int .u64) (Int.fdiv a0 (2 ^ (min (Int.toNat (32 : Int)) (IntKind.bits .u64)))))), (9, .one (.dat (.int .u64) (Int.fdiv a1 (2 ^ (min (Int.toNat (32 : Int)) (IntKind.bits .u64)))))), (12, .one (.dat (.int .u64) q7)), (13, .one (.dat (.int .u64) (Int.fdiv q5 (2 ^ (min (Int.toNat (32 : Int)) (IntKind.bits .u64))))))], [], 0⟩ hX (by kernel_rfl) (allCons (show (0 : Int) ≤ (32 : Int) from by decide) allNil) ?_
  refine HT.rg2 (oHs 6) ⟨[(0, .one (.dat (.int .u64) a0)), (1, .one (.dat (.int .u64) a1)), (7, .one (.dat (.int .u64) (Int.fdiv a0 (2 ^ (min (Int.toNat (32 : Int)) (IntKind.bits .u64)))))), (9, .one (.dat (.int .u64) (Int.fdiv a1 (2 ^ (min (Int.toNat (32 : Int)) (IntKind.bits .u64)))))), (12, .one (.dat (.int .u64) (wadd .u64 q7 (wmul .u64 q1 (Int.fdiv a1 (2 ^ (min (Int.toNat (32 : Int)) (IntKind.bits .u64)))))))), (13, .one (.dat (.int .u64) (Int.fdiv q5 (2 ^ (min (Int.toNat (32 : Int)) (IntKind.bits .u64))))))], [], 0⟩ hX (by kernel_rfl) allNil ?_
  obtain ⟨q9, hq10, hr⟩ := of_bind hr
  have hq10 := of_some2 hq10
  refine (Le.cv (s := ⟨[], [], [], false⟩) (own := []) (ps := [a0 = a0, a1 = a1, (Int.fdiv a0 (2 ^ (min (Int.toNat (32 : Int)) (IntKind.bits .u64)))) = (Int.fdiv a0 (2 ^ (min (Int.toNat (32 : Int)) (IntKind.bits .u64)))), (Int.fdiv a1 (2 ^ (min (Int.toNat (32 : Int)) (IntKind.bits .u64)))) = (Int.fdiv a1 (2 ^ (min (Int.toNat (32 : Int)) (IntKind.bits .u64)))), q9 = (wadd .u64 q7 (wmul .u64 q1 (Int.fdiv a1 (2 ^ (min (Int.toNat (32 : Int)) (IntKind.bits .u64)))))), (Int.fdiv q5 (2 ^ (min (Int.toNat (32 : Int)) (IntKind.bits .u64)))) = (Int.fdiv q5 (2 ^ (min (Int.toNat (32 : Int)) (IntKind.bits .u64))))]) (st' := ⟨[(0, .one (.dat (.int .u64) a0)), (1, .one (.dat (.int .u64) a1)), (7, .one (.dat (.int .u64) (Int.fdiv a0 (2 ^ (min (Int.toNat (32 : Int)) (IntKind.bits .u64)))))), (9, .one (.dat (.int .u64) (Int.fdiv a1 (2 ^ (min (Int.toNat (32 : Int)) (IntKind.bits .u64)))))), (12, .one (.dat (.int .u64) q9)), (13, .one (.dat (.int .u64) (Int.fdiv q5 (2 ^ (min (Int.toNat (32 : Int)) (IntKind.bits .u64))))))], [], 0⟩) hO (fun h => by cases h) (by kernel_rfl) ⟨rfl, rfl, rfl, rfl, hq10, rfl, trivial⟩).ht ?_
  refine HT.rg2 (oHs 9) ⟨[(0, .one (.dat (.int .u64) a0)), (1, .one (.dat (.int .u64) a1)), (4, .one (.dat (.int .u64) (wadd .u64 (wadd .u64 (wmul .u64 (Int.fdiv a0 (2 ^ (min (Int.toNat (32 : Int)) (IntKind.bits .u64)))) (Int.fdiv a1 (2 ^ (min (Int.toNat (32 : Int)) (IntKind.bits .u64))))) (Int.fdiv q5 (2 ^ (min (Int.toNat (32 : Int)) (IntKind.bits .u64))))) (Int.fdiv q9 (2 ^ (min (Int.toNat (32 : Int)) (IntKind.bits .u64)))))))], [], 0⟩ hX (by kernel_rfl) (allCons (show (0 : Int) ≤ (32 : Int) from by decide) allNil) ?_
  obtain ⟨q11, hq12, hr⟩ := of_bind hr
  have hq12 := of_some2 hq12
  refine (Le.cv (s := ⟨[], [], [], false⟩) (own := []) (ps := [a0 = a0, a1 = a1, q11 = (wadd .u64 (wadd .u64 (wmul .u64 (Int.fdiv a0 (2 ^ (min (Int.toNat (32 : Int)) (IntKind.bits .u64)))) (Int.fdiv a1 (2 ^ (min (Int.toNat (32 : Int)) (IntKind.bits .u64))))) (Int.fdiv q5 (2 ^ (min (Int.toNat (32 : Int)) (IntKind.bits .u64))))) (Int.fdiv q9 (2 ^ (min (Int.toNat (32 : Int)) (IntKind.bits .u64)))))]) (st' := ⟨[(0, .one (.dat (.int .u64) a0)), (1, .one (.dat (.int .u64) a1)), (4, .one (.dat (.int .u64) q11))], [], 0⟩) hO (fun h => by cases h) (by kernel_rfl) ⟨rfl, rfl, hq12, trivial⟩).ht ?_
  refine HT.rg2 (oHs 4) ⟨[(4, .one (.dat (.int .u64) q11)), (5, .one (.dat (.int .u64) (wmul .u64 a0 a1)))], [], 0⟩ hX (by kernel_rfl) allNil ?_
  have hr := of_some hr
  subst hr
  exact HT.ret ⟨[.one (.dat (.int .u64) q11), .one (.dat (.int .u64) (wmul .u64 a0 a1))], [], [], by kernel_rfl, by kernel_rfl, rfl, by kernel_rfl, by kernel_rfl, trivial⟩

noncomputable def math_bits_Mul (a0 : Int) (a1 : Int) : Option (Int × Int) :=
  (math_bits_Mul64 a0 a1).bind fun y1 =>
  some (y1.1, y1.2)

theorem f91_ok {a0 : Int} {a1 : Int} {r : Int × Int} (hr : math_bits_Mul a0 a1 = some r) : CallOK Try.prog 91 [.imm (.int .u64) a0, .imm (.int .u64) a1] [⟨false, (.int .u64), r.1⟩, ⟨false, (.int .u64), r.2⟩] [] := by
  unfold math_bits_Mul at hr
  refine CallOK.of_body (ts := [(false, (.int .u64)), (false, (.int .u64))]) Try.func91 rfl (by kernel_rfl) (Nat.le_of_ble_eq_true (by kernel_rfl)) fun cx hP hN hO hF => ?_
  have hO : cx.own.map Prod.fst = [] := hO
  have hX := CxIs.mk hP hN hO
  have hF := hF rfl
  show HT cx ⟨[(0, .one (.dat (.int .u64) a0)), (1, .one (.dat (.int .u64) a1))], [], 0⟩ _ _
  refine HT.rg2 (oHs 2) ⟨[(0, .one (.dat (.int .u64) a0)), (1, .one (.dat (.int .u64) a1))], [], 0⟩ hX (by kernel_rfl) allNil ?_
  refine HT.seq ?_
  refine HT.cond0 rfl (rfl : false = false) ?_
  refine HT.skip (qThen ?_)
  obtain ⟨y1, hc2, hr⟩ := of_bind hr
  refine HT.rg2 [oH, oH, ⟨none, .call [.imm (.int .u64), .imm (.int .u64)] [⟨false, (.int .u64), y1.1⟩, ⟨false, (.int .u64), y1.2⟩] []⟩, oH, oH, oH, oH, oH] ⟨[(8, .one (.dat (.int .u64) y1.1)), (9, .one (.dat (.int .u64) y1.2))], [], 0⟩ hX (by kernel_rfl) (allCons (f94_ok hc2) allNil) ?_
  refine HT.rg2 (oHs 4) ⟨[(4, .one (.dat (.int .u64) y1.1)), (5, .one (.dat (.int .u64) y1.2))], [], 0⟩ hX (by kernel_rfl) allNil ?_
  have hr := of_some hr
  subst hr
  exact HT.ret ⟨[.one (.dat (.int .u64) y1.1), .one (.dat (.int .u64) y1.2)], [], [], by kernel_rfl, by kernel_rfl, rfl, by kernel_rfl, by kernel_rfl, trivial⟩

noncomputable def slices_Repeat___int64_int64_B1  (s13 : Int × List Int) : Option ((Int × List Int) ⊕ (List Int)) :=
  bif (decide (s13.1 < (lenI s13.2))) then
    guardP ((0 : Int) ≤ s13.1 ∧ s13.1 ≤ lenI s13.2) (
      some (.inl ((wadd .i64 s13.1 ((Nat.min (List.length (List.take (Int.toNat s13.1) (List.drop 0 s13.2))) (Int.toNat (lenI s13.2) - Int.toNat s13.1) : Nat) : Int)), (List.take (Int.toNat s13.1) s13.2 ++ List.take (Nat.min (List.length (List.take (Int.toNat s13.1) (List.drop 0 s13.2))) (Int.toNat (lenI s13.2) - Int.toNat s13.1)) (List.take (Int.toNat s13.1) (List.drop 0 s13.2)) ++ List.drop ((Int.toNat s13.1) + Nat.min (List.length (List.take (Int.toNat s13.1) (List.drop 0 s13.2))) (Int.toNat (lenI s13.2) - Int.toNat s13.1)) s13.2))))
  else
    some (.inr s13.2)

noncomputable def slices_Repeat___int64_int64 (a0 : List Int) (a1 : Int) : Option (List Int) :=
  bif (decide (a1 < (0 : Int))) then
    none
  else
    (math_bits_Mul (IntKind.wrap .u64 (lenI a0)) (IntKind.wrap .u64 a1)).bind fun y2 =>
    (show Option (Bool) from
      bif (decide (y2.1 > (0 : Int))) then
        some true
      else
        some (decide (y2.2 > (9223372036854775807 : Int)))).bind fun v4 =>
    bif v4 then
      none
    else
      guardP ((0 : Int) ≤ (IntKind.wrap .i64 y2.2) ∧ (IntKind.wrap .i64 y2.2) ≤ 4294967296) (
        (some ((Nat.min (List.length a0) (List.length (List.replicate (Int.toNat (IntKind.wrap .i64 y2.2)) (0 : Int))) : Nat) : Int)).bind fun q9 =>
        (some (List.take 0 (List.replicate (Int.toNat (IntKind.wrap .i64 y2.2)) (0 : Int)) ++ List.take (Nat.min (List.length a0) (List.length (List.replicate (Int.toNat (IntKind.wrap .i64 y2.2)) (0 : Int)))) a0 ++ List.drop (0 + Nat.min (List.length a0) (List.length (List.replicate (Int.toNat (IntKind.wrap .i64 y2.2)) (0 : Int)))) (List.replicate (Int.toNat (IntKind.wrap .i64 y2.2)) (0 : Int)))).bind fun q11 =>
        (rounds (slices_Repeat___int64_int64_B1) (q9, q11)).bind fun r15 =>
        some r15)

theorem f79_ok {a0 : List Int} {a1 : Int} {r : List Int} (hr : slices_Repeat___int64_int64 a0 a1 = some r) : CallOK Try.prog 79 [.imm tLI a0, .imm tI a1] [⟨true, tLI, r⟩] [] := by
  unfold slices_Repeat___int64_int64 at hr
  refine CallOK.of_body (ts := [(true, tLI)]) Try.func79 rfl (by kernel_rfl) (Nat.le_of_ble_eq_true (by kernel_rfl)) fun cx hP hN hO hF => ?_
  have hO : cx.own.map Prod.fst = [] := hO
  have hX := CxIs.mk hP hN hO
  have hF := hF rfl
  show HT cx ⟨[(0, nV a0), (1, iV a1)], [], 0⟩ _ _
  refine HT.rg2 [oH] ⟨[(0, nV a0), (1, iV a1)], [], 0⟩ hX (by kernel_rfl) allNil ?_
  refine HT.seq ?_
  refine HT.rg2 (oHs 2) ⟨[(0, nV a0), (1, iV a1), (10, bV (decide (a1 < (0 : Int))))], [], 0⟩ hX (by kernel_rfl) allNil ?_
  rcases of_bif hr with ⟨hb1, hr⟩ | ⟨hb1, hr⟩
  · refine HT.cond1 rfl hb1 ?_
    cases hr
  · refine HT.cond0 rfl hb1 ?_
    refine HT.skip (qThen ?_)
    obtain ⟨y2, hc3, hr⟩ := of_bind hr
    refine HT.rg2 [oH, oH, oH, oH, oH, ⟨none, .call [.imm (.int .u64), .imm (.int .u64)] [⟨false, (.int .u64), y2.1⟩, ⟨false, (.int .u64), y2.2⟩] []⟩, oH, oH, oH, oH, oH] ⟨[(0, nV a0), (5, .one (.dat (.int .u64) y2.1)), (6, .one (.dat (.int .u64) y2.2))], [], 0⟩ hX (by kernel_rfl) (allCons (f91_ok hc3) allNil) ?_
    refine HT.seq ?_
    obtain ⟨v4', hT6, hr⟩ := of_bind hr
    refine HT.join (fun (v4 : Bool) => ⟨[(0, nV a0), (6, .one (.dat (.int .u64) y2.2)), (26, bV v4)], [], 0⟩) (fun v => v = v4') (fun v4 hv5 => ?_) (fun cont => ?_)
    · subst hv5
      rcases of_bif hr with ⟨hb7, hr⟩ | ⟨hb7, hr⟩
      · refine HT.cond1 rfl hb7 ?_
        cases hr
      · refine HT.cond0 rfl hb7 ?_
        refine HT.skip (qThen ?_)
        obtain ⟨hg8, hr⟩ := of_guard hr
        refine HT.rg2 [oH, oH, ⟨none, .ty tI⟩, oH] ⟨[(0, nV a0), (7, aV 0)], [(0, .seq tI (List.replicate (Int.toNat (IntKind.wrap .i64 y2.2)) (0 : Int)))], 1⟩ hX (by kernel_rfl) (allCons (show (0 : Int) ≤ (IntKind.wrap .i64 y2.2) ∧ (IntKind.wrap .i64 y2.2) ≤ (IntKind.wrap .i64 y2.2) ∧ (IntKind.wrap .i64 y2.2) ≤ 4294967296 from ⟨hg8.1, Int.le_refl _, hg8.2⟩) allNil) ?_
        refine HT.rg2 (oHs 4) ⟨[(7, aV 0), (8, iV ((Nat.min (List.length a0) (List.length (List.replicate (Int.toNat (IntKind.wrap .i64 y2.2)) (0 : Int))) : Nat) : Int))], [(0, .seq tI (List.take 0 (List.replicate (Int.toNat (IntKind.wrap .i64 y2.2)) (0 : Int)) ++ List.take (Nat.min (List.length a0) (List.length (List.replicate (Int.toNat (IntKind.wrap .i64 y2.2)) (0 : Int)))) a0 ++ List.drop (0 + Nat.min (List.length a0) (List.length (List.replicate (Int.toNat (IntKind.wrap .i64 y2.2)) (0 : Int)))) (List.replicate (Int.toNat (IntKind.wrap .i64 y2.2)) (0 : Int))))], 1⟩ hX (by kernel_rfl) allNil ?_
        obtain ⟨q9, hq10, hr⟩ := of_bind hr
        have hq10 := of_some2 hq10
        obtain ⟨q11, hq12, hr⟩ := of_bind hr
        have hq12 := of_some2 hq12
        refine (Le.cv (s := ⟨[(0, 0)], [], [], false⟩) (own := []) (ps := [q9 = ((Nat.min (List.length a0) (List.length (List.replicate (Int.toNat (IntKind.wrap .i64 y2.2)) (0 : Int))) : Nat) : Int), q11 = (List.take 0 (List.replicate (Int.toNat (IntKind.wrap .i64 y2.2)) (0 : Int)) ++ List.take (Nat.min (List.length a0) (List.length (List.replicate (Int.toNat (IntKind.wrap .i64 y2.2)) (0 : Int)))) a0 ++ List.drop (0 + Nat.min (List.length a0) (List.length (List.replicate (Int.toNat (IntKind.wrap .i64 y2.2)) (0 : Int)))) (List.replicate (Int.toNat (IntKind.wrap .i64 y2.2)) (0 : Int)))]) (st' := ⟨[(7, aV 0), (8, iV q9)], [(0, .seq tI q11)], 1⟩) hO (fun h => by cases h) (by kernel_rfl) ⟨hq10, hq12, trivial⟩).ht ?_
        refine HT.seq ?_
        refine HT.block ?_
        obtain ⟨r14, hL21, hr⟩ := of_bind hr
        refine HT.loopL (fun (s13 : Int × List Int) => ⟨[(7, aV 0), (8, iV s13.1)], [(0, .seq tI s13.2)], 1⟩) (fun (r15 : List Int) => (.exit 0, ⟨[(7, aV 0)], [(0, .seq tI r15)], 1⟩)) (Le.re [(0, 0)] [] hX (by kernel_rfl)) hL21 ?_ (fun s13 x16 hx17 hk18 => ?_)
        · refine (qBlockX (qThen ?_))
          refine HT.rg2 (oHs 2) ⟨[(4, aV 0)], [(0, .seq tI r14)], 1⟩ hX (by kernel_rfl) allNil ?_
          have hr := of_some hr
          subst hr
          exact HT.ret ⟨[aV 0], [0], [], by kernel_rfl, by kernel_rfl, rfl, by kernel_rfl, by kernel_rfl, trivial⟩
        · refine HT.seq ?_
          refine HT.rg2 (oHs 4) ⟨[(7, aV 0), (8, iV s13.1), (37, bV (decide (s13.1 < (lenI s13.2))))], [(0, .seq tI s13.2)], 1⟩ hX (by kernel_rfl) allNil ?_
          rcases of_bif hx17 with ⟨hb19, hx17⟩ | ⟨hb19, hx17⟩
          · refine HT.cond1 rfl hb19 ?_
            refine HT.skip (qThen ?_)
            refine HT.block ?_
            obtain ⟨hg20, hx17⟩ := of_guard hx17
            have hx17 := of_some hx17
            subst hx17
            exact HT.drK 8 [⟨oH, []⟩, ⟨oH, []⟩, ⟨oH, []⟩, ⟨oH, [1, 2]⟩, ⟨oH, []⟩, ⟨oH, []⟩, ⟨oH, [4, 5]⟩, ⟨oH, [1, 2, 3, 4, 5, 6]⟩] [[0, 1, 2, 3, 4, 5, 6, 7], [0, 1, 2, 3, 4, 5, 6, 7, 8]] (oHs 2) [(0, 0)] [] hX (by kernel_rfl) (by kernel_rfl) (allCons (show (0 : Int) ≤ s13.1 ∧ s13.1 ≤ lenI s13.2 ∧ lenI s13.2 ≤ lenI s13.2 from ⟨hg20.1, hg20.2, Int.le_refl _⟩) (allCons (show (0 : Int) ≤ 0 ∧ (0 : Int) ≤ s13.1 ∧ s13.1 ≤ lenI s13.2 from ⟨Int.le_refl _, hg20.1, hg20.2⟩) allNil)) (fun _ h => (qBlock (qLoopN ⟨((wadd .i64 s13.1 ((Nat.min (List.length (List.take (Int.toNat s13.1) (List.drop 0 s13.2))) (Int.toNat (lenI s13.2) - Int.toNat s13.1) : Nat) : Int)), (List.take (Int.toNat s13.1) s13.2 ++ List.take (Nat.min (List.length (List.take (Int.toNat s13.1) (List.drop 0 s13.2))) (Int.toNat (lenI s13.2) - Int.toNat s13.1)) (List.take (Int.toNat s13.1) (List.drop 0 s13.2)) ++ List.drop ((Int.toNat s13.1) + Nat.min (List.length (List.take (Int.toNat s13.1) (List.drop 0 s13.2))) (Int.toNat (lenI s13.2) - Int.toNat s13.1)) s13.2)), rfl, h⟩)))
          · refine HT.cond0 rfl hb19 ?_
            have hx17 := of_some hx17
            subst hx17
            exact HT.exitL (Le.re [(0, 0)] [] hX (by kernel_rfl)) (qThenE (qLoopE (hk18 s13.2 rfl)))
    · rcases of_bif hT6 with ⟨hb22, hT6⟩ | ⟨hb22, hT6⟩
      · exact HT.rgK [oH, oH, oH, ⟨some true, .no⟩, ⟨some true, .no⟩, ⟨none, .tv true⟩] [] [] hX (by kernel_rfl) (allCons hb22 (allCons hb22 (allCons hb22 allNil))) (fun _ h => (qThen (h.ht (cont true (of_some hT6)))))
      · exact HT.rgK [oH, oH, oH, ⟨some false, .no⟩, ⟨some false, .no⟩, ⟨none, .tv false⟩] [] [] hX (by kernel_rfl) (allCons hb22 (allCons hb22 (allCons hb22 allNil))) (fun _ h => (qThen (h.ht (cont (decide (y2.2 > (9223372036854775807 : Int))) (of_some hT6)))))

noncomputable def impl_none (a0 : Int) : Option (List Int) :=
  (slices_Repeat___int64_int64 ([(-1 : Int)] : List Int) a0).bind fun y1 =>
  some y1

theorem f66_ok {a0 : Int} {r : List Int} (hr : impl_none a0 = some r) : CallOK Try.prog 66 [.imm tI a0] [⟨true, tLI, r⟩] [] := by
  unfold impl_none at hr
  refine CallOK.of_body (ts := [(true, tLI)]) Try.func66 rfl (by kernel_rfl) (Nat.le_of_ble_eq_true (by kernel_rfl)) fun cx hP hN hO hF => ?_
  have hO : cx.own.map Prod.fst = [] := hO
  have hX := CxIs.mk hP hN hO
  have hF := hF rfl
  show HT cx ⟨[(0, iV a0)], [], 0⟩ _ _
  refine HT.rg2 [oH] ⟨[(0, iV a0)], [], 0⟩ hX (by kernel_rfl) allNil ?_
  obtain ⟨y1, hc2, hr⟩ := of_bind hr
  refine HT.rg2 [⟨none, .ty tI⟩, oH, ⟨none, .call [.imm tLI, .imm tI] [⟨true, tLI, y1⟩] []⟩, oH] ⟨[(2, aV 1)], [(1, .seq tI y1)], 2⟩ hX (by kernel_rfl) (allCons (f79_ok hc2) allNil) ?_
  have hr := of_some hr
  subst hr
  exact HT.ret ⟨[aV 1], [1], [], by kernel_rfl, by kernel_rfl, rfl, by kernel_rfl, by kernel_rfl, trivial⟩

noncomputable def impl_MovesOfGame_B1 (a0 : List Int × List Int × List (List Int)) (s10 : Int × List Int × List (List Int)) (s24 : Int × List (List Int)) : Option ((Int × List (List Int)) ⊕ ((List Int × List (List Int)))) :=
  bif (decide (s24.1 < (lenI (List.getD a0.2.2 (Int.toNat s10.1) ([] : List Int))))) then
    guardP ((0 : Int) ≤ s24.1 ∧ s24.1 < lenI (List.getD a0.2.2 (Int.toNat s10.1) ([] : List Int))) (
      guardP ((0 : Int) ≤ s10.1 ∧ s10.1 < lenI s24.2) (
        (some (List.set s24.2 (Int.toNat s10.1) ([(List.getD (List.getD a0.2.2 (Int.toNat s10.1) ([] : List Int)) (Int.toNat s24.1) (0 : Int))] : List Int))).bind fun q33 =>
        (impl_Game_winners (a0.1, a0.2.1, q33)).bind fun y35 =>
        guardP ((0 : Int) ≤ s10.1 ∧ s10.1 < lenI y35) (
          bif ((List.getD y35 (Int.toNat s10.1) (0 : Int)) == (List.getD a0.1 (Int.toNat s10.1) (0 : Int))) then
            guardP ((0 : Int) ≤ s10.1 ∧ s10.1 < lenI s10.2.1) (
              (some (List.set s10.2.1 (Int.toNat s10.1) (List.getD (List.getD a0.2.2 (Int.toNat s10.1) ([] : List Int)) (Int.toNat s24.1) (0 : Int)))).bind fun q40 =>
              some (.inr (q40, q33)))
          else
            some (.inl ((wadd .i64 s24.1 (1 : Int)), q33)))))
  else
    some (.inr (s10.2.1, s24.2))

noncomputable def impl_MovesOfGame_B2 (a0 : List Int × List Int × List (List Int)) (y4 : List Int) (s10 : Int × List Int × List (List Int)) : Option ((Int × List Int × List (List Int)) ⊕ (List Int)) :=
  bif (decide (s10.1 < (lenI a0.1))) then
    (show Option (List Int × List (List Int)) from
      guardP ((0 : Int) ≤ s10.1 ∧ s10.1 < lenI a0.1) (
        guardP ((0 : Int) ≤ s10.1 ∧ s10.1 < lenI y4) (
          bif ((List.getD y4 (Int.toNat s10.1) (0 : Int)) != (List.getD a0.1 (Int.toNat s10.1) (0 : Int))) then
            some (s10.2.1, s10.2.2)
          else
            guardP ((0 : Int) ≤ s10.1 ∧ s10.1 < lenI a0.2.2) (
              (rounds (impl_MovesOfGame_B1 a0 s10) ((0 : Int), s10.2.2)).bind fun r26 =>
              some (r26.1, r26.2))))).bind fun v17 =>
    some (.inl ((wadd .i64 s10.1 (1 : Int)), v17.1, v17.2))
  else
    some (.inr s10.2.1)

noncomputable def impl_MovesOfGame (a0 : List Int × List Int × List (List Int)) : Option (List Int × Bool) :=
  (impl_ValidGame (a0.1, a0.2.1, a0.2.2)).bind fun y1 =>
  bif (!y1) then
    some (([] : List Int), false)
  else
    (impl_Game_winners (a0.1, a0.2.1, a0.2.2)).bind fun y4 =>
    (slices_Clone a0.2.2).bind fun y6 =>
    (impl_none (lenI y4)).bind fun y8 =>
    (rounds (impl_MovesOfGame_B2 a0 y4) ((0 : Int), y8, y6)).bind fun r12 =>
    some (r12, true)

theorem f37_ok {a0 : List Int × List Int × List (List Int)} {r : List Int × Bool} (hr : impl_MovesOfGame a0 = some r) : CallOK Try.prog 37 [.imm (.st (.pair tLI (.pair tLI (.sl tLI)))) a0] [⟨true, tLI, r.1⟩, ⟨false, .bool, r.2⟩] [] := by
  unfold impl_MovesOfGame at hr
  refine CallOK.of_body (ts := [(true, tLI), (false, .bool)]) Try.func37 rfl (by kernel_rfl) (Nat.le_of_ble_eq_true (by kernel_rfl)) fun cx hP hN hO hF => ?_
  have hO : cx.own.map Prod.fst = [] := hO
  have hX := CxIs.mk hP hN hO
  have hF := hF rfl
  show HT cx ⟨[(0, .agg [nC a0.1, nC a0.2.1, .dat (.sl tLI) a0.2.2])], [], 0⟩ _ _
  refine HT.rg2 (oHs 3) ⟨[(1, pV 0 0)], [(0, .box [nC a0.1, nC a0.2.1, .dat (.sl tLI) a0.2.2])], 1⟩ hX (by kernel_rfl) allNil ?_
  refine HT.seq ?_
  obtain ⟨y1, hc2, hr⟩ := of_bind hr
  refine HT.rg2 [oH, ⟨none, .call [.imm (.st (.pair tLI (.pair tLI (.sl tLI))))] [⟨false, .bool, y1⟩] []⟩, oH] ⟨[(1, pV 0 0), (13, bV (!y1))], [(0, .box [nC a0.1, nC a0.2.1, .dat (.sl tLI) a0.2.2])], 1⟩ hX (by kernel_rfl) (allCons (f48_ok hc2) allNil) ?_
  rcases of_bif hr with ⟨hb3, hr⟩ | ⟨hb3, hr⟩
  · refine HT.cond1 rfl hb3 ?_
    refine HT.rg2 (oHs 2) ⟨[(2, .one (.nilS)), (3, bV false)], [], 1⟩ hX (by kernel_rfl) allNil ?_
    have hr := of_some hr
    subst hr
    exact HT.ret (qThenR ⟨[.one (.nilS), bV false], [], [], by kernel_rfl, by kernel_rfl, rfl, by kernel_rfl, by kernel_rfl, trivial⟩)
  · refine HT.cond0 rfl hb3 ?_
    refine HT.skip (qThen ?_)
    obtain ⟨y4, hc5, hr⟩ := of_bind hr
    refine HT.rg2 [oH, ⟨none, .call [.imm (.st (.pair tLI (.pair tLI (.sl tLI))))] [⟨true, tLI, y4⟩] []⟩, oH] ⟨[(1, pV 0 0), (4, aV 1)], [(1, .seq tI y4), (0, .box [nC a0.1, nC a0.2.1, .dat (.sl tLI) a0.2.2])], 2⟩ hX (by kernel_rfl) (allCons (f60_ok hc5) allNil) ?_
    obtain ⟨y6, hc7, hr⟩ := of_bind hr
    refine HT.dr2 9 [⟨oH, []⟩, ⟨oH, [0]⟩, ⟨oH, []⟩, ⟨oH, [2]⟩, ⟨oH, []⟩, ⟨oH, [4]⟩, ⟨⟨none, .call [.imm (.sl tLI)] [⟨true, (.sl tLI), y6⟩] []⟩, [4, 5]⟩, ⟨oH, [0, 1, 2, 3, 4, 5, 6]⟩, ⟨oH, []⟩] [[0, 1, 2, 3, 4, 5, 6, 7, 8]] [oH] ⟨[(1, pV 0 0), (4, aV 1), (5, pV 3 0)], [(3, .box [nC a0.1, nC a0.2.1, .all 2]), (2, .seq tLI y6), (1, .seq tI y4), (0, .box [nC a0.1, nC a0.2.1, .dat (.sl tLI) a0.2.2])], 4⟩ hX (by kernel_rfl) (by kernel_rfl) (allCons (f64_ok hc7) allNil) ?_
    obtain ⟨y8, hc9, hr⟩ := of_bind hr
    refine HT.rg2 [oH, oH, ⟨none, .call [.imm tI] [⟨true, tLI, y8⟩] []⟩, oH] ⟨[(1, pV 0 0), (4, aV 1), (5, pV 3 0), (6, aV 4)], [(4, .seq tI y8), (3, .box [nC a0.1, nC a0.2.1, .all 2]), (2, .seq tLI y6), (1, .seq tI y4), (0, .box [nC a0.1, nC a0.2.1, .dat (.sl tLI) a0.2.2])], 5⟩ hX (by kernel_rfl) (allCons (f66_ok hc9) allNil) ?_
    refine HT.seq ?_
    refine HT.rg2 (oHs 4) ⟨[(1, pV 0 0), (4, aV 1), (5, pV 3 0), (6, aV 4), (28, nV a0.1), (29, iV (lenI a0.1)), (30, iV (0 : Int))], [(4, .seq tI y8), (3, .box [nC a0.1, nC a0.2.1, .all 2]), (2, .seq tLI y6), (1, .seq tI y4), (0, .box [nC a0.1, nC a0.2.1, .dat (.sl tLI) a0.2.2])], 5⟩ hX (by kernel_rfl) allNil ?_
    refine HT.block ?_
    obtain ⟨r11, hL43, hr⟩ := of_bind hr
    refine HT.loopL (fun (s10 : Int × List Int × List (List Int)) => ⟨[(1, pV 0 0), (4, aV 1), (5, pV 2 0), (6, aV 3), (28, nV a0.1), (29, iV (lenI a0.1)), (30, iV s10.1)], [(0, .box [nC a0.1, nC a0.2.1, .dat (.sl tLI) a0.2.2]), (1, .seq tI y4), (2, .box [nC a0.1, nC a0.2.1, .all 4]), (3, .seq tI s10.2.1), (4, .seq tLI s10.2.2)], 5⟩) (fun (r12 : List Int) => (.exit 0, ⟨[(6, aV 0)], [(0, .seq tI r12)], 1⟩)) (Le.re [(0, 0), (1, 1), (3, 2), (4, 3), (2, 4)] [] hX (by kernel_rfl)) hL43 ?_ (fun s10 x13 hx14 hk15 => ?_)
    · refine (qBlockX (qThen ?_))
      refine HT.rg2 (oHs 3) ⟨[(2, aV 0), (3, bV true)], [(0, .seq tI r11)], 1⟩ hX (by kernel_rfl) allNil ?_
      have hr := of_some hr
      subst hr
      exact HT.ret ⟨[aV 0, bV true], [0], [], by kernel_rfl, by kernel_rfl, rfl, by kernel_rfl, by kernel_rfl, trivial⟩
    · refine HT.rg2 [oH] ⟨[(1, pV 0 0), (4, aV 1), (5, pV 2 0), (6, aV 3), (28, nV a0.1), (29, iV (lenI a0.1)), (30, iV s10.1), (31, bV (decide (s10.1 < (lenI a0.1))))], [(0, .box [nC a0.1, nC a0.2.1, .dat (.sl tLI) a0.2.2]), (1, .seq tI y4), (2, .box [nC a0.1, nC a0.2.1, .all 4]), (3, .seq tI s10.2.1), (4, .seq tLI s10.2.2)], 5⟩ hX (by kernel_rfl) allNil ?_
      refine HT.seq ?_
      rcases of_bif hx14 with ⟨hb16, hx14⟩ | ⟨hb16, hx14⟩
      · refine HT.cond1 rfl hb16 ?_
        refine HT.skip (qThen ?_)
        obtain ⟨v17', hT19, hx14⟩ := of_bind hx14
        refine HT.join (fun (v17 : List Int × List (List Int)) => ⟨[(1, pV 0 0), (4, aV 1), (5, pV 2 0), (6, aV 3), (28, nV a0.1), (29, iV (lenI a0.1)), (30, iV s10.1)], [(0, .box [nC a0.1, nC a0.2.1, .dat (.sl tLI) a0.2.2]), (1, .seq tI y4), (2, .box [nC a0.1, nC a0.2.1, .all 4]), (3, .seq tI v17.1), (4, .seq tLI v17.2)], 5⟩) (fun v => v = v17') (fun v17 hv18 => ?_) (fun cont => ?_)
        · subst hv18
          have hx14 := of_some hx14
          subst hx14
          exact HT.rgK (oHs 2) [(0, 0), (1, 1), (2, 2), (3, 3), (4, 4)] [] hX (by kernel_rfl) allNil (fun _ h => (qLoopN ⟨((wadd .i64 s10.1 (1 : Int)), v17.1, v17.2), rfl, h⟩))
        · refine HT.block ?_
          obtain ⟨hg20, hT19⟩ := of_guard hT19
          refine HT.rg2 (oHs 5) ⟨[(1, pV 0 0), (4, aV 1), (5, pV 2 0), (6, aV 3), (7, iV s10.1), (8, iV (List.getD a0.1 (Int.toNat s10.1) (0 : Int))), (28, nV a0.1), (29, iV (lenI a0.1)), (30, iV s10.1)], [(0, .box [nC a0.1, nC a0.2.1, .dat (.sl tLI) a0.2.2]), (1, .seq tI y4), (2, .box [nC a0.1, nC a0.2.1, .all 4]), (3, .seq tI s10.2.1), (4, .seq tLI s10.2.2)], 5⟩ hX (by kernel_rfl) (allCons hg20 allNil) ?_
          refine HT.seq ?_
          obtain ⟨hg21, hT19⟩ := of_guard hT19
          refine HT.rg2 (oHs 6) ⟨[(1, pV 0 0), (4, aV 1), (5, pV 2 0), (6, aV 3), (7, iV s10.1), (8, iV (List.getD a0.1 (Int.toNat s10.1) (0 : Int))), (28, nV a0.1), (29, iV (lenI a0.1)), (30, iV s10.1), (40, bV ((List.getD y4 (Int.toNat s10.1) (0 : Int)) != (List.getD a0.1 (Int.toNat s10.1) (0 : Int))))], [(0, .box [nC a0.1, nC a0.2.1, .dat (.sl tLI) a0.2.2]), (1, .seq tI y4), (2, .box [nC a0.1, nC a0.2.1, .all 4]), (3, .seq tI s10.2.1), (4, .seq tLI s10.2.2)], 5⟩ hX (by kernel_rfl) (allCons hg21 (allCons (natLt hg21) allNil)) ?_
          rcases of_bif hT19 with ⟨hb22, hT19⟩ | ⟨hb22, hT19⟩
          · refine HT.cond1 rfl hb22 ?_
            refine HT.exit (qThenE (qBlockX (qThen ?_)))
            exact (Le.re [(0, 0), (1, 1), (2, 2), (3, 3), (4, 4)] [] hX (by kernel_rfl)).ht (cont (s10.2.1, s10.2.2) (of_some hT19))
          · refine HT.cond0 rfl hb22 ?_
            refine HT.skip (qThen ?_)
            obtain ⟨hg23, hT19⟩ := of_guard hT19
            refine HT.rg2 (oHs 7) ⟨[(1, pV 0 0), (4, aV 1), (5, pV 2 0), (6, aV 3), (7, iV s10.1), (8, iV (List.getD a0.1 (Int.toNat s10.1) (0 : Int))), (28, nV a0.1), (29, iV (lenI a0.1)), (30, iV s10.1), (45, nV (List.getD a0.2.2 (Int.toNat s10.1) ([] : List Int))), (46, iV (lenI (List.getD a0.2.2 (Int.toNat s10.1) ([] : List Int)))), (47, iV (0 : Int))], [(0, .box [nC a0.1, nC a0.2.1, .dat (.sl tLI) a0.2.2]), (1, .seq tI y4), (2, .box [nC a0.1, nC a0.2.1, .all 4]), (3, .seq tI s10.2.1), (4, .seq tLI s10.2.2)], 5⟩ hX (by kernel_rfl) (allCons hg23 allNil) ?_
            refine HT.block ?_
            obtain ⟨r25, hL42, hT19⟩ := of_bind hT19
            refine HT.loopL (fun (s24 : Int × List (List Int)) => ⟨[(1, pV 0 0), (4, aV 1), (5, pV 2 0), (6, aV 3), (7, iV s10.1), (8, iV (List.getD a0.1 (Int.toNat s10.1) (0 : Int))), (28, nV a0.1), (29, iV (lenI a0.1)), (30, iV s10.1), (45, nV (List.getD a0.2.2 (Int.toNat s10.1) ([] : List Int))), (46, iV (lenI (List.getD a0.2.2 (Int.toNat s10.1) ([] : List Int)))), (47, iV s24.1)], [(0, .box [nC a0.1, nC a0.2.1, .dat (.sl tLI) a0.2.2]), (1, .seq tI y4), (2, .box [nC a0.1, nC a0.2.1, .all 4]), (3, .seq tI s10.2.1), (4, .seq tLI s24.2)], 5⟩) (fun (r26 : (List Int × List (List Int))) => (.exit 2, ⟨[(1, pV 0 0), (4, aV 1), (5, pV 2 0), (6, aV 3), (28, nV a0.1), (29, iV (lenI a0.1)), (30, iV s10.1)], [(0, .box [nC a0.1, nC a0.2.1, .dat (.sl tLI) a0.2.2]), (1, .seq tI y4), (2, .box [nC a0.1, nC a0.2.1, .all 4]), (3, .seq tI r26.1), (4, .seq tLI r26.2)], 5⟩)) (Le.re [(0, 0), (1, 1), (2, 2), (3, 3), (4, 4)] [] hX (by kernel_rfl)) hL42 ?_ (fun s24 x27 hx28 hk29 => ?_)
            · refine (qBlockX (qBlock (qThen ?_)))
              exact (Le.re [(0, 0), (1, 1), (2, 2), (3, 3), (4, 4)] [] hX (by kernel_rfl)).ht (cont (r25.1, r25.2) (of_some hT19))
            · refine HT.rg2 [oH] ⟨[(1, pV 0 0), (4, aV 1), (5, pV 2 0), (6, aV 3), (7, iV s10.1), (8, iV (List.getD a0.1 (Int.toNat s10.1) (0 : Int))), (28, nV a0.1), (29, iV (lenI a0.1)), (30, iV s10.1), (45, nV (List.getD a0.2.2 (Int.toNat s10.1) ([] : List Int))), (46, iV (lenI (List.getD a0.2.2 (Int.toNat s10.1) ([] : List Int)))), (47, iV s24.1), (48, bV (decide (s24.1 < (lenI (List.getD a0.2.2 (Int.toNat s10.1) ([] : List Int))))))], [(0, .box [nC a0.1, nC a0.2.1, .dat (.sl tLI) a0.2.2]), (1, .seq tI y4), (2, .box [nC a0.1, nC a0.2.1, .all 4]), (3, .seq tI s10.2.1), (4, .seq tLI s24.2)], 5⟩ hX (by kernel_rfl) allNil ?_
              refine HT.seq ?_
              rcases of_bif hx28 with ⟨hb30, hx28⟩ | ⟨hb30, hx28⟩
              · refine HT.cond1 rfl hb30 ?_
                refine HT.skip (qThen ?_)
                refine HT.seq ?_
                refine HT.block ?_
                obtain ⟨hg31, hx28⟩ := of_guard hx28
                refine HT.rg2 (oHs 3) ⟨[(1, pV 0 0), (4, aV 1), (5, pV 2 0), (6, aV 3), (7, iV s10.1), (8, iV (List.getD a0.1 (Int.toNat s10.1) (0 : Int))), (10, iV (List.getD (List.getD a0.2.2 (Int.toNat s10.1) ([] : List Int)) (Int.toNat s24.1) (0 : Int))), (28, nV a0.1), (29, iV (lenI a0.1)), (30, iV s10.1), (45, nV (List.getD a0.2.2 (Int.toNat s10.1) ([] : List Int))), (46, iV (lenI (List.getD a0.2.2 (Int.toNat s10.1) ([] : List Int)))), (47, iV s24.1)], [(0, .box [nC a0.1, nC a0.2.1, .dat (.sl tLI) a0.2.2]), (1, .seq tI y4), (2, .box [nC a0.1, nC a0.2.1, .all 4]), (3, .seq tI s10.2.1), (4, .seq tLI s24.2)], 5⟩ hX (by kernel_rfl) (allCons hg31 allNil) ?_
                obtain ⟨hg32, hx28⟩ := of_guard hx28
                refine HT.rg2 [oH, oH, oH, oH, ⟨none, .tyD tI⟩, oH, oH] ⟨[(1, pV 0 0), (4, aV 1), (5, pV 2 0), (6, aV 3), (7, iV s10.1), (8, iV (List.getD a0.1 (Int.toNat s10.1) (0 : Int))), (10, iV (List.getD (List.getD a0.2.2 (Int.toNat s10.1) ([] : List Int)) (Int.toNat s24.1) (0 : Int))), (28, nV a0.1), (29, iV (lenI a0.1)), (30, iV s10.1), (45, nV (List.getD a0.2.2 (Int.toNat s10.1) ([] : List Int))), (46, iV (lenI (List.getD a0.2.2 (Int.toNat s10.1) ([] : List Int)))), (47, iV s24.1)], [(4, .seq tLI (List.set s24.2 (Int.toNat s10.1) ([(List.getD (List.getD a0.2.2 (Int.toNat s10.1) ([] : List Int)) (Int.toNat s24.1) (0 : Int))] : List Int))), (0, .box [nC a0.1, nC a0.2.1, .dat (.sl tLI) a0.2.2]), (1, .seq tI y4), (2, .box [nC a0.1, nC a0.2.1, .all 4]), (3, .seq tI s10.2.1)], 5⟩ hX (by kernel_rfl) (allCons hg32 (allCons (natLt hg32) allNil)) ?_
                obtain ⟨q33, hq34, hx28⟩ := of_bind hx28
                have hq34 := of_some2 hq34
                refine (Le.cv (s := ⟨[(4, 4), (0, 0), (1, 1), (2, 2), (3, 3)], [], [], false⟩) (own := []) (ps := [s10.1 = s10.1, (List.getD a0.1 (Int.toNat s10.1) (0 : Int)) = (List.getD a0.1 (Int.toNat s10.1) (0 : Int)), (List.getD (List.getD a0.2.2 (Int.toNat s10.1) ([] : List Int)) (Int.toNat s24.1) (0 : Int)) = (List.getD (List.getD a0.2.2 (Int.toNat s10.1) ([] : List Int)) (Int.toNat s24.1) (0 : Int)), a0.1 = a0.1, (lenI a0.1) = (lenI a0.1), s10.1 = s10.1, (List.getD a0.2.2 (Int.toNat s10.1) ([] : List Int)) = (List.getD a0.2.2 (Int.toNat s10.1) ([] : List Int)), (lenI (List.getD a0.2.2 (Int.toNat s10.1) ([] : List Int))) = (lenI (List.getD a0.2.2 (Int.toNat s10.1) ([] : List Int))), s24.1 = s24.1, q33 = (List.set s24.2 (Int.toNat s10.1) ([(List.getD (List.getD a0.2.2 (Int.toNat s10.1) ([] : List Int)) (Int.toNat s24.1) (0 : Int))] : List Int)), a0.1 = a0.1, a0.2.1 = a0.2.1, a0.2.2 = a0.2.2, y4 = y4, a0.1 = a0.1, a0.2.1 = a0.2.1, s10.2.1 = s10.2.1]) (st' := ⟨[(1, pV 0 0), (4, aV 1), (5, pV 2 0), (6, aV 3), (7, iV s10.1), (8, iV (List.getD a0.1 (Int.toNat s10.1) (0 : Int))), (10, iV (List.getD (List.getD a0.2.2 (Int.toNat s10.1) ([] : List Int)) (Int.toNat s24.1) (0 : Int))), (28, nV a0.1), (29, iV (lenI a0.1)), (30, iV s10.1), (45, nV (List.getD a0.2.2 (Int.toNat s10.1) ([] : List Int))), (46, iV (lenI (List.getD a0.2.2 (Int.toNat s10.1) ([] : List Int)))), (47, iV s24.1)], [(4, .seq tLI q33), (0, .box [nC a0.1, nC a0.2.1, .dat (.sl tLI) a0.2.2]), (1, .seq tI y4), (2, .box [nC a0.1, nC a0.2.1, .all 4]), (3, .seq tI s10.2.1)], 5⟩) hO (fun h => by cases h) (by kernel_rfl) ⟨rfl, rfl, rfl, rfl, rfl, rfl, rfl, rfl, rfl, hq34, rfl, rfl, rfl, rfl, rfl, rfl, rfl, trivial⟩).ht ?_
                obtain ⟨y35, hc36, hx28⟩ := of_bind hx28
                obtain ⟨hg37, hx28⟩ := of_guard hx28
                refine HT.rg2 [oH, ⟨none, .call [.imm (.st (.pair tLI (.pair tLI (.sl tLI))))] [⟨true, tLI, y35⟩] []⟩, oH, oH, oH, oH, oH] ⟨[(1, pV 0 0), (4, aV 1), (5, pV 2 0), (6, aV 3), (7, iV s10.1), (8, iV (List.getD a0.1 (Int.toNat s10.1) (0 : Int))), (10, iV (List.getD (List.getD a0.2.2 (Int.toNat s10.1) ([] : List Int)) (Int.toNat s24.1) (0 : Int))), (28, nV a0.1), (29, iV (lenI a0.1)), (30, iV s10.1), (45, nV (List.getD a0.2.2 (Int.toNat s10.1) ([] : List Int))), (46, iV (lenI (List.getD a0.2.2 (Int.toNat s10.1) ([] : List Int)))), (47, iV s24.1), (63, bV ((List.getD y35 (Int.toNat s10.1) (0 : Int)) == (List.getD a0.1 (Int.toNat s10.1) (0 : Int))))], [(4, .seq tLI q33), (0, .box [nC a0.1, nC a0.2.1, .dat (.sl tLI) a0.2.2]), (1, .seq tI y4), (2, .box [nC a0.1, nC a0.2.1, .all 4]), (3, .seq tI s10.2.1)], 6⟩ hX (by kernel_rfl) (allCons (f60_ok hc36) (allCons hg37 (allCons (natLt hg37) allNil))) ?_
                rcases of_bif hx28 with ⟨hb38, hx28⟩ | ⟨hb38, hx28⟩
                · refine HT.cond1 rfl hb38 ?_
                  obtain ⟨hg39, hx28⟩ := of_guard hx28
                  refine HT.rg2 (oHs 5) ⟨[(1, pV 0 0), (4, aV 1), (5, pV 2 0), (6, aV 3), (28, nV a0.1), (29, iV (lenI a0.1)), (30, iV s10.1)], [(3, .seq tI (List.set s10.2.1 (Int.toNat s10.1) (List.getD (List.getD a0.2.2 (Int.toNat s10.1) ([] : List Int)) (Int.toNat s24.1) (0 : Int)))), (4, .seq tLI q33), (0, .box [nC a0.1, nC a0.2.1, .dat (.sl tLI) a0.2.2]), (1, .seq tI y4), (2, .box [nC a0.1, nC a0.2.1, .all 4])], 6⟩ hX (by kernel_rfl) (allCons hg39 (allCons (natLt hg39) allNil)) ?_
                  obtain ⟨q40, hq41, hx28⟩ := of_bind hx28
                  have hq41 := of_some2 hq41
                  refine (Le.cv (s := ⟨[(3, 3), (4, 4), (0, 0), (1, 1), (2, 2)], [], [], false⟩) (own := []) (ps := [a0.1 = a0.1, (lenI a0.1) = (lenI a0.1), s10.1 = s10.1, q40 = (List.set s10.2.1 (Int.toNat s10.1) (List.getD (List.getD a0.2.2 (Int.toNat s10.1) ([] : List Int)) (Int.toNat s24.1) (0 : Int))), q33 = q33, a0.1 = a0.1, a0.2.1 = a0.2.1, a0.2.2 = a0.2.2, y4 = y4, a0.1 = a0.1, a0.2.1 = a0.2.1]) (st' := ⟨[(1, pV 0 0), (4, aV 1), (5, pV 2 0), (6, aV 3), (28, nV a0.1), (29, iV (lenI a0.1)), (30, iV s10.1)], [(3, .seq tI q40), (4, .seq tLI q33), (0, .box [nC a0.1, nC a0.2.1, .dat (.sl tLI) a0.2.2]), (1, .seq tI y4), (2, .box [nC a0.1, nC a0.2.1, .all 4])], 6⟩) hO (fun h => by cases h) (by kernel_rfl) ⟨rfl, rfl, rfl, hq41, rfl, rfl, rfl, rfl, rfl, rfl, rfl, trivial⟩).ht ?_
                  have hx28 := of_some hx28
                  subst hx28
                  exact HT.exitL (Le.re [(0, 0), (1, 1), (2, 2), (3, 3), (4, 4)] [] hX (by kernel_rfl)) (qBlockE rfl (qThenE (qLoopE (hk29 (q40, q33) rfl))))
                · refine HT.cond0 rfl hb38 ?_
                  refine HT.skip (qBlock (qThen ?_))
                  have hx28 := of_some hx28
                  subst hx28
                  exact HT.rgK (oHs 2) [(0, 0), (1, 1), (2, 2), (3, 3), (4, 4)] [] hX (by kernel_rfl) allNil (fun _ h => (qLoopN ⟨((wadd .i64 s24.1 (1 : Int)), q33), rfl, h⟩))
              · refine HT.cond0 rfl hb30 ?_
                have hx28 := of_some hx28
                subst hx28
                exact HT.exitL (Le.re [(0, 0), (1, 1), (2, 2), (3, 3), (4, 4)] [] hX (by kernel_rfl)) (qThenE (qLoopE (hk29 (s10.2.1, s24.2) rfl)))
      · refine HT.cond0 rfl hb16 ?_
        have hx14 := of_some hx14
        subst hx14
        exact HT.exitL (Le.re [(3, 0)] [] hX (by kernel_rfl)) (qThenE (qLoopE (hk15 s10.2.1 rfl)))

noncomputable def laws_eqInt64S_B1 (a0 : List Int) (a1 : List Int) (s2 : Int) : Option ((Int) ⊕ (Unit ⊕ Unit)) :=
  bif (decide (s2 < (lenI a0))) then
    guardP ((0 : Int) ≤ s2 ∧ s2 < lenI a0) (
      guardP ((0 : Int) ≤ s2 ∧ s2 < lenI a1) (
        bif ((List.getD a0 (Int.toNat s2) (0 : Int)) != (List.getD a1 (Int.toNat s2) (0 : Int))) then
          some (.inr (.inr ()))
        else
          some (.inl (wadd .i64 s2 (1 : Int)))))
  else
    some (.inr (.inl ()))

noncomputable def laws_eqInt64S (a0 : List Int) (a1 : List Int) : Option (Bool) :=
  bif ((lenI a0) != (lenI a1)) then
    some false
  else
    (rounds (laws_eqInt64S_B1 a0 a1) (0 : Int)).bind fun r3 => match r3 with
      | .inl r4 =>
        some true
      | .inr r5 =>
        some false

theorem f20_ok {a0 : List Int} {a1 : List Int} {r : Bool} (hr : laws_eqInt64S a0 a1 = some r) : CallOK Try.prog 20 [.imm tLI a0, .imm tLI a1] [⟨false, .bool, r⟩] [] := by
  unfold laws_eqInt64S at hr
  refine CallOK.of_body (ts := [(false, .bool)]) Try.func20 rfl (by kernel_rfl) (Nat.le_of_ble_eq_true (by kernel_rfl)) fun cx hP hN hO hF => ?_
  have hO : cx.own.map Prod.fst = [] := hO
  have hX := CxIs.mk hP hN hO
  have hF := hF rfl
  show HT cx ⟨[(0, nV a0), (1, nV a1)], [], 0⟩ _ _
  refine HT.rg2 [oH] ⟨[(0, nV a0), (1, nV a1)], [], 0⟩ hX (by kernel_rfl) allNil ?_
  refine HT.seq ?_
  refine HT.rg2 (oHs 5) ⟨[(0, nV a0), (1, nV a1), (10, bV ((lenI a0) != (lenI a1)))], [], 0⟩ hX (by kernel_rfl) allNil ?_
  rcases of_bif hr with ⟨hb1, hr⟩ | ⟨hb1, hr⟩
  · refine HT.cond1 rfl hb1 ?_
    refine HT.rg2 [oH] ⟨[(4, bV false)], [], 0⟩ hX (by kernel_rfl) allNil ?_
    have hr := of_some hr
    subst hr
    exact HT.ret (qThenR ⟨[bV false], [], [], by kernel_rfl, by kernel_rfl, rfl, by kernel_rfl, by kernel_rfl, trivial⟩)
  · refine HT.cond0 rfl hb1 ?_
    refine HT.skip (qThen ?_)
    refine HT.seq ?_
    refine HT.rg2 [oH] ⟨[(0, nV a0), (1, nV a1), (5, iV (0 : Int))], [], 0⟩ hX (by kernel_rfl) allNil ?_
    refine HT.block ?_
    obtain ⟨r3, hL13, hr⟩ := of_bind hr
    refine HT.loopL (fun (s2 : Int) => ⟨[(0, nV a0), (1, nV a1), (5, iV s2)], [], 0⟩) (fun (r3 : Unit ⊕ Unit) => match r3 with | .inl r4 => (.exit 0, ⟨[], [], 0⟩) | .inr r5 => (.ret, ⟨[(4, bV false)], [], 0⟩)) (Le.re [] [] hX (by kernel_rfl)) hL13 ?_ (fun s2 x6 hx7 hk8 => ?_)
    · rcases r3 with r4 | r5
      · refine (qBlockX (qThen ?_))
        refine HT.rg2 [oH] ⟨[(4, bV true)], [], 0⟩ hX (by kernel_rfl) allNil ?_
        have hr := of_some hr
        subst hr
        exact HT.ret ⟨[bV true], [], [], by kernel_rfl, by kernel_rfl, rfl, by kernel_rfl, by kernel_rfl, trivial⟩
      · have hr := of_some hr
        subst hr
        exact (qBlockR (qThenR ⟨[bV false], [], [], by kernel_rfl, by kernel_rfl, rfl, by kernel_rfl, by kernel_rfl, trivial⟩))
    · refine HT.seq ?_
      refine HT.rg2 (oHs 4) ⟨[(0, nV a0), (1, nV a1), (5, iV s2), (14, bV (decide (s2 < (lenI a0))))], [], 0⟩ hX (by kernel_rfl) allNil ?_
      rcases of_bif hx7 with ⟨hb9, hx7⟩ | ⟨hb9, hx7⟩
      · refine HT.cond1 rfl hb9 ?_
        refine HT.skip (qThen ?_)
        refine HT.seq ?_
        refine HT.block ?_
        obtain ⟨hg10, hx7⟩ := of_guard hx7
        obtain ⟨hg11, hx7⟩ := of_guard hx7
        refine HT.dr2 8 [⟨oH, []⟩, ⟨oH, []⟩, ⟨oH, [0, 1]⟩, ⟨oH, [0, 1, 2]⟩, ⟨oH, []⟩, ⟨oH, []⟩, ⟨oH, [4, 5]⟩, ⟨oH, [4, 5, 6]⟩] [[0, 1, 2, 3, 4, 5, 6, 7]] [oH] ⟨[(0, nV a0), (1, nV a1), (5, iV s2), (25, bV ((List.getD a0 (Int.toNat s2) (0 : Int)) != (List.getD a1 (Int.toNat s2) (0 : Int))))], [], 0⟩ hX (by kernel_rfl) (by kernel_rfl) (allCons hg10 (allCons hg11 allNil)) ?_
        rcases of_bif hx7 with ⟨hb12, hx7⟩ | ⟨hb12, hx7⟩
        · refine HT.cond1 rfl hb12 ?_
          refine HT.rg2 [oH] ⟨[(4, bV false)], [], 0⟩ hX (by kernel_rfl) allNil ?_
          have hx7 := of_some hx7
          subst hx7
          exact HT.retL (Le.re [] [] hX (by kernel_rfl)) (qBlockR (qThenR (qLoopR (hk8 (.inr ()) rfl))))
        · refine HT.cond0 rfl hb12 ?_
          refine HT.skip (qBlock (qThen ?_))
          have hx7 := of_some hx7
          subst hx7
          exact HT.rgK (oHs 3) [] [] hX (by kernel_rfl) allNil (fun _ h => (qLoopN ⟨(wadd .i64 s2 (1 : Int)), rfl, h⟩))
      · refine HT.cond0 rfl hb9 ?_
        have hx7 := of_some hx7
        subst hx7
        exact HT.exitL (Le.re [] [] hX (by kernel_rfl)) (qThenE (qLoopE (hk8 (.inl ()) rfl)))

noncomputable def laws_eqInt64SS_B1 (a0 : List (List Int)) (a1 : List (List Int)) (s2 : Int) : Option ((Int) ⊕ (Unit ⊕ Unit)) :=
  bif (decide (s2 < (lenI a0))) then
    guardP ((0 : Int) ≤ s2 ∧ s2 < lenI a0) (
      guardP ((0 : Int) ≤ s2 ∧ s2 < lenI a1) (
        (laws_eqInt64S (List.getD a0 (Int.toNat s2) ([] : List Int)) (List.getD a1 (Int.toNat s2) ([] : List Int))).bind fun y12 =>
        bif (!y12) then
          some (.inr (.inr ()))
        else
          some (.inl (wadd .i64 s2 (1 : Int)))))
  else
    some (.inr (.inl ()))

noncomputable def laws_eqInt64SS (a0 : List (List Int)) (a1 : List (List Int)) : Option (Bool) :=
  bif ((lenI a0) != (lenI a1)) then
    some false
  else
    (rounds (laws_eqInt64SS_B1 a0 a1) (0 : Int)).bind fun r3 => match r3 with
      | .inl r4 =>
        some true
      | .inr r5 =>
        some false

theorem f29_ok {a0 : List (List Int)} {a1 : List (List Int)} {r : Bool} (hr : laws_eqInt64SS a0 a1 = some r) : CallOK Try.prog 29 [.imm (.sl tLI) a0, .imm (.sl tLI) a1] [⟨false, .bool, r⟩] [] := by
  unfold laws_eqInt64SS at hr
  refine CallOK.of_body (ts := [(false, .bool)]) Try.func29 rfl (by kernel_rfl) (Nat.le_of_ble_eq_true (by kernel_rfl)) fun cx hP hN hO hF => ?_
  have hO : cx.own.map Prod.fst = [] := hO
  have hX := CxIs.mk hP hN hO
  have hF := hF rfl
  show HT cx ⟨[(0, .one (.dat (.sl tLI) a0)), (1, .one (.dat (.sl tLI) a1))], [], 0⟩ _ _
  refine HT.rg2 [oH] ⟨[(0, .one (.dat (.sl tLI) a0)), (1, .one (.dat (.sl tLI) a1))], [], 0⟩ hX (by kernel_rfl) allNil ?_
  refine HT.seq ?_
  refine HT.rg2 (oHs 5) ⟨[(0, .one (.dat (.sl tLI) a0)), (1, .one (.dat (.sl tLI) a1)), (10, bV ((lenI a0) != (lenI a1)))], [], 0⟩ hX (by kernel_rfl) allNil ?_
  rcases of_bif hr with ⟨hb1, hr⟩ | ⟨hb1, hr⟩
  · refine HT.cond1 rfl hb1 ?_
    refine HT.rg2 [oH] ⟨[(4, bV false)], [], 0⟩ hX (by kernel_rfl) allNil ?_
    have hr := of_some hr
    subst hr
    exact HT.ret (qThenR ⟨[bV false], [], [], by kernel_rfl, by kernel_rfl, rfl, by kernel_rfl, by kernel_rfl, trivial⟩)
  · refine HT.cond0 rfl hb1 ?_
    refine HT.skip (qThen ?_)
    refine HT.seq ?_
    refine HT.rg2 [oH] ⟨[(0, .one (.dat (.sl tLI) a0)), (1, .one (.dat (.sl tLI) a1)), (5, iV (0 : Int))], [], 0⟩ hX (by kernel_rfl) allNil ?_
    refine HT.block ?_
    obtain ⟨r3, hL15, hr⟩ := of_bind hr
    refine HT.loopL (fun (s2 : Int) => ⟨[(0, .one (.dat (.sl tLI) a0)), (1, .one (.dat (.sl tLI) a1)), (5, iV s2)], [], 0⟩) (fun (r3 : Unit ⊕ Unit) => match r3 with | .inl r4 => (.exit 0, ⟨[], [], 0⟩) | .inr r5 => (.ret, ⟨[(4, bV false)], [], 0⟩)) (Le.re [] [] hX (by kernel_rfl)) hL15 ?_ (fun s2 x6 hx7 hk8 => ?_)
    · rcases r3 with r4 | r5
      · refine (qBlockX (qThen ?_))
        refine HT.rg2 [oH] ⟨[(4, bV true)], [], 0⟩ hX (by kernel_rfl) allNil ?_
        have hr := of_some hr
        subst hr
        exact HT.ret ⟨[bV true], [], [], by kernel_rfl, by kernel_rfl, rfl, by kernel_rfl, by kernel_rfl, trivial⟩
      · have hr := of_some hr
        subst hr
        exact (qBlockR (qThenR ⟨[bV false], [], [], by kernel_rfl, by kernel_rfl, rfl, by kernel_rfl, by kernel_rfl, trivial⟩))
    · refine HT.seq ?_
      refine HT.rg2 (oHs 4) ⟨[(0, .one (.dat (.sl tLI) a0)), (1, .one (.dat (.sl tLI) a1)), (5, iV s2), (14, bV (decide (s2 < (lenI a0))))], [], 0⟩ hX (by kernel_rfl) allNil ?_
      rcases of_bif hx7 with ⟨hb9, hx7⟩ | ⟨hb9, hx7⟩
      · refine HT.cond1 rfl hb9 ?_
        refine HT.skip (qThen ?_)
        refine HT.seq ?_
        refine HT.block ?_
        obtain ⟨hg10, hx7⟩ := of_guard hx7
        obtain ⟨hg11, hx7⟩ := of_guard hx7
        obtain ⟨y12, hc13, hx7⟩ := of_bind hx7
        refine HT.dr2 8 [⟨oH, []⟩, ⟨oH, []⟩, ⟨oH, [0, 1]⟩, ⟨oH, [0, 1, 2]⟩, ⟨oH, []⟩, ⟨oH, []⟩, ⟨oH, [4, 5]⟩, ⟨oH, [4, 5, 6]⟩] [[0, 1, 2, 3, 4, 5, 6, 7], [0, 1, 2, 3, 4, 5, 6, 7, 8]] [⟨none, .call [.imm tLI, .imm tLI] [⟨false, .bool, y12⟩] []⟩, oH] ⟨[(0, .one (.dat (.sl tLI) a0)), (1, .one (.dat (.sl tLI) a1)), (5, iV s2), (26, bV (!y12))], [], 0⟩ hX (by kernel_rfl) (by kernel_rfl) (allCons hg10 (allCons hg11 (allCons (f20_ok hc13) allNil))) ?_
        rcases of_bif hx7 with ⟨hb14, hx7⟩ | ⟨hb14, hx7⟩
        · refine HT.cond1 rfl hb14 ?_
          refine HT.rg2 [oH] ⟨[(4, bV false)], [], 0⟩ hX (by kernel_rfl) allNil ?_
          have hx7 := of_some hx7
          subst hx7
          exact HT.retL (Le.re [] [] hX (by kernel_rfl)) (qBlockR (qThenR (qLoopR (hk8 (.inr ()) rfl))))
        · refine HT.cond0 rfl hb14 ?_
          refine HT.skip (qBlock (qThen ?_))
          have hx7 := of_some hx7
          subst hx7
          exact HT.rgK (oHs 3) [] [] hX (by kernel_rfl) allNil (fun _ h => (qLoopN ⟨(wadd .i64 s2 (1 : Int)), rfl, h⟩))
      · refine HT.cond0 rfl hb9 ?_
        have hx7 := of_some hx7
        subst hx7
        exact HT.exitL (Le.re [] [] hX (by kernel_rfl)) (qThenE (qLoopE (hk8 (.inl ()) rfl)))

noncomputable def laws_eqGame (a0 : List Int × List Int × List (List Int)) (a1 : List Int × List Int × List (List Int)) : Option (Bool) :=
  (laws_eqInt64S a0.1 a1.1).bind fun y1 =>
  bif (!y1) then
    some false
  else
    (laws_eqInt64S a0.2.1 a1.2.1).bind fun y4 =>
    bif (!y4) then
      some false
    else
      (laws_eqInt64SS a0.2.2 a1.2.2).bind fun y7 =>
      bif (!y7) then
        some false
      else
        some true

theorem f14_ok {a0 : List Int × List Int × List (List Int)} {a1 : List Int × List Int × List (List Int)} {r : Bool} (hr : laws_eqGame a0 a1 = some r) : CallOK Try.prog 14 [.imm (.st (.pair tLI (.pair tLI (.sl tLI)))) a0, .imm (.st (.pair tLI (.pair tLI (.sl tLI)))) a1] [⟨false, .bool, r⟩] [] := by
  unfold laws_eqGame at hr
  refine CallOK.of_body (ts := [(false, .bool)]) Try.func14 rfl (by kernel_rfl) (Nat.le_of_ble_eq_true (by kernel_rfl)) fun cx hP hN hO hF => ?_
  have hO : cx.own.map Prod.fst = [] := hO
  have hX := CxIs.mk hP hN hO
  have hF := hF rfl
  show HT cx ⟨[(0, .agg [nC a0.1, nC a0.2.1, .dat (.sl tLI) a0.2.2]), (1, .agg [nC a1.1, nC a1.2.1, .dat (.sl tLI) a1.2.2])], [], 0⟩ _ _
  refine HT.rg2 (oHs 3) ⟨[(2, pV 0 0), (3, pV 1 0)], [(1, .box [nC a1.1, nC a1.2.1, .dat (.sl tLI) a1.2.2]), (0, .box [nC a0.1, nC a0.2.1, .dat (.sl tLI) a0.2.2])], 2⟩ hX (by kernel_rfl) allNil ?_
  refine HT.seq ?_
  obtain ⟨y1, hc2, hr⟩ := of_bind hr
  refine HT.rg2 [oH, oH, oH, oH, ⟨none, .call [.imm tLI, .imm tLI] [⟨false, .bool, y1⟩] []⟩, oH] ⟨[(2, pV 0 0), (3, pV 1 0), (10, bV (!y1))], [(1, .box [nC a1.1, nC a1.2.1, .dat (.sl tLI) a1.2.2]), (0, .box [nC a0.1, nC a0.2.1, .dat (.sl tLI) a0.2.2])], 2⟩ hX (by kernel_rfl) (allCons (f20_ok hc2) allNil) ?_
  rcases of_bif hr with ⟨hb3, hr⟩ | ⟨hb3, hr⟩
  · refine HT.cond1 rfl hb3 ?_
    refine HT.rg2 [oH] ⟨[(4, bV false)], [], 2⟩ hX (by kernel_rfl) allNil ?_
    have hr := of_some hr
    subst hr
    exact HT.ret (qThenR ⟨[bV false], [], [], by kernel_rfl, by kernel_rfl, rfl, by kernel_rfl, by kernel_rfl, trivial⟩)
  · refine HT.cond0 rfl hb3 ?_
    refine HT.skip (qThen ?_)
    refine HT.seq ?_
    obtain ⟨y4, hc5, hr⟩ := of_bind hr
    refine HT.rg2 [oH, oH, oH, oH, ⟨none, .call [.imm tLI, .imm tLI] [⟨false, .bool, y4⟩] []⟩, oH] ⟨[(2, pV 0 0), (3, pV 1 0), (16, bV (!y4))], [(1, .box [nC a1.1, nC a1.2.1, .dat (.sl tLI) a1.2.2]), (0, .box [nC a0.1, nC a0.2.1, .dat (.sl tLI) a0.2.2])], 2⟩ hX (by kernel_rfl) (allCons (f20_ok hc5) allNil) ?_
    rcases of_bif hr with ⟨hb6, hr⟩ | ⟨hb6, hr⟩
    · refine HT.cond1 rfl hb6 ?_
      refine HT.rg2 [oH] ⟨[(4, bV false)], [], 2⟩ hX (by kernel_rfl) allNil ?_
      have hr := of_some hr
      subst hr
      exact HT.ret (qThenR ⟨[bV false], [], [], by kernel_rfl, by kernel_rfl, rfl, by kernel_rfl, by kernel_rfl, trivial⟩)
    · refine HT.cond0 rfl hb6 ?_
      refine HT.skip (qThen ?_)
      refine HT.seq ?_
      obtain ⟨y7, hc8, hr⟩ := of_bind hr
      refine HT.rg2 [oH, oH, oH, oH, ⟨none, .call [.imm (.sl tLI), .imm (.sl tLI)] [⟨false, .bool, y7⟩] []⟩, oH] ⟨[(22, bV (!y7))], [], 2⟩ hX (by kernel_rfl) (allCons (f29_ok hc8) allNil) ?_
      rcases of_bif hr with ⟨hb9, hr⟩ | ⟨hb9, hr⟩
      · refine HT.cond1 rfl hb9 ?_
        refine HT.rg2 [oH] ⟨[(4, bV false)], [], 2⟩ hX (by kernel_rfl) allNil ?_
        have hr := of_some hr
        subst hr
        exact HT.ret (qThenR ⟨[bV false], [], [], by kernel_rfl, by kernel_rfl, rfl, by kernel_rfl, by kernel_rfl, trivial⟩)
      · refine HT.cond0 rfl hb9 ?_
        refine HT.skip (qThen ?_)
        refine HT.rg2 [oH] ⟨[(4, bV true)], [], 2⟩ hX (by kernel_rfl) allNil ?_
        have hr := of_some hr
        subst hr
        exact HT.ret ⟨[bV true], [], [], by kernel_rfl, by kernel_rfl, rfl, by kernel_rfl, by kernel_rfl, trivial⟩

noncomputable def laws_markInt64S_B1  (s1 : Int × Int × List Int) : Option ((Int × Int × List Int) ⊕ ((Int × List Int))) :=
  bif (decide (s1.2.1 < (lenI s1.2.2))) then
    guardP ((0 : Int) ≤ s1.2.1 ∧ s1.2.1 < lenI s1.2.2) (
      some (.inl ((wadd .i64 s1.1 (1 : Int)), (wadd .i64 s1.2.1 (1 : Int)), (List.set s1.2.2 (Int.toNat s1.2.1) s1.1))))
  else
    some (.inr (s1.1, s1.2.2))

noncomputable def laws_markInt64S (a0 : List Int) (a1 : Int) : Option (Int × List Int) :=
  (rounds (laws_markInt64S_B1) (a1, (0 : Int), a0)).bind fun r3 =>
  guardP (List.length r3.2 = List.length a0) (
    some (r3.1, r3.2))

theorem f21_ok {a0 : List Int} {a1 : Int} {r : Int × List Int} (hr : laws_markInt64S a0 a1 = some r) : CallOK Try.prog 21 [.own tLI a0, .imm tI a1] [⟨false, tI, r.1⟩] [⟨tLI, r.2⟩] := by
  unfold laws_markInt64S at hr
  refine CallOK.of_body (ts := [(false, tI)]) Try.func21 rfl (by kernel_rfl) (Nat.le_of_ble_eq_true (by kernel_rfl)) fun cx hP hN hO hF => ?_
  have hO : cx.own.map Prod.fst = [0] := hO
  have hX := CxIs.mk hP hN hO
  have hF := hF rfl
  show HT cx ⟨[(0, aV 0), (1, iV a1)], [(0, .seq tI a0)], 1⟩ _ _
  refine HT.rg2 [oH] ⟨[(0, aV 0), (1, iV a1)], [(0, .seq tI a0)], 1⟩ hX (by kernel_rfl) allNil ?_
  refine HT.seq ?_
  refine HT.rg2 [oH] ⟨[(0, aV 0), (1, iV a1), (5, iV (0 : Int))], [(0, .seq tI a0)], 1⟩ hX (by kernel_rfl) allNil ?_
  refine HT.block ?_
  obtain ⟨r2, hL10, hr⟩ := of_bind hr
  refine HT.loopL (fun (s1 : Int × Int × List Int) => ⟨[(0, aV 0), (1, iV s1.1), (5, iV s1.2.1)], [(0, .seq tI s1.2.2)], 1⟩) (fun (r3 : (Int × List Int)) => (.exit 0, ⟨[(1, iV r3.1)], [(0, .seq tI r3.2)], 1⟩)) (Le.re [(0, 0)] [] hX (by kernel_rfl)) hL10 ?_ (fun s1 x5 hx6 hk7 => ?_)
  · refine (qBlockX (qThen ?_))
    refine HT.rg2 (oHs 2) ⟨[(4, iV r2.1)], [(0, .seq tI r2.2)], 1⟩ hX (by kernel_rfl) allNil ?_
    obtain ⟨hg4, hr⟩ := of_guard hr
    have hr := of_some hr
    subst hr
    exact HT.ret ⟨[iV r2.1], [], [List.length r2.2 = List.length a0], by kernel_rfl, by kernel_rfl, rfl, by kernel_rfl, by kernel_rfl, ⟨hg4, trivial⟩⟩
  · refine HT.seq ?_
    refine HT.rg2 (oHs 4) ⟨[(0, aV 0), (1, iV s1.1), (5, iV s1.2.1), (9, bV (decide (s1.2.1 < (lenI s1.2.2))))], [(0, .seq tI s1.2.2)], 1⟩ hX (by kernel_rfl) allNil ?_
    rcases of_bif hx6 with ⟨hb8, hx6⟩ | ⟨hb8, hx6⟩
    · refine HT.cond1 rfl hb8 ?_
      refine HT.skip (qThen ?_)
      refine HT.seq ?_
      refine HT.block ?_
      obtain ⟨hg9, hx6⟩ := of_guard hx6
      refine HT.rg2 (oHs 5) ⟨[(0, aV 0), (1, iV s1.1), (5, iV s1.2.1)], [(0, .seq tI (List.set s1.2.2 (Int.toNat s1.2.1) s1.1))], 1⟩ hX (by kernel_rfl) (allCons hg9 (allCons (natLt hg9) allNil)) ?_
      refine HT.rgL (oHs 3) ⟨[(0, aV 0), (1, iV (wadd .i64 s1.1 (1 : Int))), (5, iV s1.2.1)], [(0, .seq tI (List.set s1.2.2 (Int.toNat s1.2.1) s1.1))], 1⟩ hX (by kernel_rfl) allNil (qBlock (qThen ?_))
      have hx6 := of_some hx6
      subst hx6
      exact HT.rgK (oHs 3) [(0, 0)] [] hX (by kernel_rfl) allNil (fun _ h => (qLoopN ⟨((wadd .i64 s1.1 (1 : Int)), (wadd .i64 s1.2.1 (1 : Int)), (List.set s1.2.2 (Int.toNat s1.2.1) s1.1)), rfl, h⟩))
    · refine HT.cond0 rfl hb8 ?_
      have hx6 := of_some hx6
      subst hx6
      exact HT.exitL (Le.re [(0, 0)] [] hX (by kernel_rfl)) (qThenE (qLoopE (hk7 (s1.1, s1.2.2) rfl)))

noncomputable def laws_markInt64SS_B1  (s1 : Int × Int × List (List Int)) : Option ((Int × Int × List (List Int)) ⊕ ((Int × List (List Int)))) :=
  bif (decide (s1.2.1 < (lenI s1.2.2))) then
    guardP ((0 : Int) ≤ s1.2.1 ∧ s1.2.1 < lenI s1.2.2) (
      (laws_markInt64S (List.getD s1.2.2 (Int.toNat s1.2.1) ([] : List Int)) s1.1).bind fun y10 =>
      some (.inl (y10.1, (wadd .i64 s1.2.1 (1 : Int)), (List.set s1.2.2 (Int.toNat s1.2.1) y10.2))))
  else
    some (.inr (s1.1, s1.2.2))

noncomputable def laws_markInt64SS (a0 : List (List Int)) (a1 : Int) : Option (Int × List (List Int)) :=
  (rounds (laws_markInt64SS_B1) (a1, (0 : Int), a0)).bind fun r3 =>
  guardP (ShapeEq (.own tI) a0 r3.2) (
    some (r3.1, r3.2))

theorem f32_ok {a0 : List (List Int)} {a1 : Int} {r : Int × List (List Int)} (hr : laws_markInt64SS a0 a1 = some r) : CallOK Try.prog 32 [.own (.sl (.own tI)) a0, .imm tI a1] [⟨false, tI, r.1⟩] [⟨(.sl (.own tI)), r.2⟩] := by
  unfold laws_markInt64SS at hr
  refine CallOK.of_body (ts := [(false, tI)]) Try.func32 rfl (by kernel_rfl) (Nat.le_of_ble_eq_true (by kernel_rfl)) fun cx hP hN hO hF => ?_
  have hO : cx.own.map Prod.fst = [0] := hO
  have hX := CxIs.mk hP hN hO
  have hF := hF rfl
  show HT cx ⟨[(0, aV 0), (1, iV a1)], [(0, .seq (.own tI) a0)], 1⟩ _ _
  refine HT.rg2 [oH] ⟨[(0, aV 0), (1, iV a1)], [(0, .seq (.own tI) a0)], 1⟩ hX (by kernel_rfl) allNil ?_
  refine HT.seq ?_
  refine HT.rg2 [oH] ⟨[(0, aV 0), (1, iV a1), (5, iV (0 : Int))], [(0, .seq (.own tI) a0)], 1⟩ hX (by kernel_rfl) allNil ?_
  refine HT.block ?_
  obtain ⟨r2, hL12, hr⟩ := of_bind hr
  refine HT.loopL (fun (s1 : Int × Int × List (List Int)) => ⟨[(0, aV 0), (1, iV s1.1), (5, iV s1.2.1)], [(0, .seq (.own tI) s1.2.2)], 1⟩) (fun (r3 : (Int × List (List Int))) => (.exit 0, ⟨[(1, iV r3.1)], [(0, .seq (.own tI) r3.2)], 1⟩)) (Le.re [(0, 0)] [] hX (by kernel_rfl)) hL12 ?_ (fun s1 x5 hx6 hk7 => ?_)
  · refine (qBlockX (qThen ?_))
    refine HT.rg2 (oHs 2) ⟨[(4, iV r2.1)], [(0, .seq (.own tI) r2.2)], 1⟩ hX (by kernel_rfl) allNil ?_
    obtain ⟨hg4, hr⟩ := of_guard hr
    have hr := of_some hr
    subst hr
    exact HT.ret ⟨[iV r2.1], [], [ShapeEq (.own tI) a0 r2.2], by kernel_rfl, by kernel_rfl, rfl, by kernel_rfl, by kernel_rfl, ⟨hg4, trivial⟩⟩
  · refine HT.seq ?_
    refine HT.rg2 (oHs 4) ⟨[(0, aV 0), (1, iV s1.1), (5, iV s1.2.1), (9, bV (decide (s1.2.1 < (lenI s1.2.2))))], [(0, .seq (.own tI) s1.2.2)], 1⟩ hX (by kernel_rfl) allNil ?_
    rcases of_bif hx6 with ⟨hb8, hx6⟩ | ⟨hb8, hx6⟩
    · refine HT.cond1 rfl hb8 ?_
      refine HT.skip (qThen ?_)
      refine HT.seq ?_
      refine HT.block ?_
      obtain ⟨hg9, hx6⟩ := of_guard hx6
      obtain ⟨y10, hc11, hx6⟩ := of_bind hx6
      refine HT.regC (rs := [oH, oH, oH, ⟨none, .opn⟩, oH, ⟨none, .call [.own tLI, .imm tI] [⟨false, tI, y10.1⟩] [⟨tLI, y10.2⟩]⟩, oH]) ⟨[(1, iV y10.1), (17, iV y10.1), (16, iV s1.1), (15, aV 1), (14, .one (.elp 0 (Int.toNat s1.2.1) 1 0)), (13, iV s1.2.1), (12, aV 0), (0, aV 0), (1, iV s1.1), (5, iV s1.2.1), (9, bV (decide (s1.2.1 < (lenI s1.2.2))))], [(1, .seq tI y10.2), (0, .opn (.own tI) s1.2.2 (Int.toNat s1.2.1) [.all 1] [1]), (1, .seq tI (List.getD s1.2.2 (Int.toNat s1.2.1) ([] : List Int))), (0, .seq (.own tI) s1.2.2)], 2⟩ hP hN (by kernel_rfl) (allCons hg9 (allCons (natLt hg9) (allCons (f21_ok hc11) allNil))) (Le.close (own := [0]) 0 (st' := ⟨[(1, iV y10.1), (17, iV y10.1), (16, iV s1.1), (15, aV 1), (14, .one (.elp 0 (Int.toNat s1.2.1) 1 0)), (13, iV s1.2.1), (12, aV 0), (0, aV 0), (1, iV s1.1), (5, iV s1.2.1), (9, bV (decide (s1.2.1 < (lenI s1.2.2))))], [(0, .seq (.own tI) (List.set s1.2.2 (Int.toNat s1.2.1) y10.2)), (1, .gone)], 2⟩) hO (by kernel_rfl)) (qBlock (qThen ?_))
      have hx6 := of_some hx6
      subst hx6
      exact HT.rgK (oHs 3) [(0, 0)] [] hX (by kernel_rfl) allNil (fun _ h => (qLoopN ⟨(y10.1, (wadd .i64 s1.2.1 (1 : Int)), (List.set s1.2.2 (Int.toNat s1.2.1) y10.2)), rfl, h⟩))
    · refine HT.cond0 rfl hb8 ?_
      have hx6 := of_some hx6
      subst hx6
      exact HT.exitL (Le.re [(0, 0)] [] hX (by kernel_rfl)) (qThenE (qLoopE (hk7 (s1.1, s1.2.2) rfl)))

noncomputable def laws_markGame (a0 : List Int × List Int × List (List Int)) (a1 : Int) : Option (Int × (List Int × List Int × List (List Int))) :=
  (laws_markInt64S a0.1 a1).bind fun y1 =>
  (laws_markInt64S a0.2.1 y1.1).bind fun y3 =>
  (laws_markInt64SS a0.2.2 y3.1).bind fun y5 =>
  guardP (List.length y1.2 = List.length a0.1) (
    guardP (List.length y3.2 = List.length a0.2.1) (
      guardP (ShapeEq (.own tI) a0.2.2 y5.2) (
        some (y5.1, y1.2, y3.2, y5.2))))

theorem f15_ok {a0 : List Int × List Int × List (List Int)} {a1 : Int} {r : Int × (List Int × List Int × List (List Int))} (hr : laws_markGame a0 a1 = some r) : CallOK Try.prog 15 [.own (.st (.pair tLI (.pair tLI (.sl (.own tI))))) a0, .imm tI a1] [⟨false, tI, r.1⟩] [⟨(.st (.pair tLI (.pair tLI (.sl (.own tI))))), r.2⟩] := by
  unfold laws_markGame at hr
  refine CallOK.of_body (ts := [(false, tI)]) Try.func15 rfl (by kernel_rfl) (Nat.le_of_ble_eq_true (by kernel_rfl)) fun cx hP hN hO hF => ?_
  have hO : cx.own.map Prod.fst = [0, 1, 2] := hO
  have hX := CxIs.mk hP hN hO
  have hF := hF rfl
  show HT cx ⟨[(0, .agg [.all 0, .all 1, .all 2]), (1, iV a1)], [(0, .seq tI a0.1), (1, .seq tI a0.2.1), (2, .seq (.own tI) a0.2.2)], 3⟩ _ _
  refine HT.rg2 (oHs 2) ⟨[(1, iV a1), (2, pV 3 0)], [(3, .box [.all 0, .all 1, .all 2]), (0, .seq tI a0.1), (1, .seq tI a0.2.1), (2, .seq (.own tI) a0.2.2)], 4⟩ hX (by kernel_rfl) allNil ?_
  obtain ⟨y1, hc2, hr⟩ := of_bind hr
  refine HT.rg2 [oH, oH, oH, ⟨none, .call [.own tLI, .imm tI] [⟨false, tI, y1.1⟩] [⟨tLI, y1.2⟩]⟩, oH] ⟨[(1, iV y1.1), (2, pV 3 0)], [(0, .seq tI y1.2), (3, .box [.all 0, .all 1, .all 2]), (1, .seq tI a0.2.1), (2, .seq (.own tI) a0.2.2)], 4⟩ hX (by kernel_rfl) (allCons (f21_ok hc2) allNil) ?_
  obtain ⟨y3, hc4, hr⟩ := of_bind hr
  refine HT.rg2 [oH, oH, oH, ⟨none, .call [.own tLI, .imm tI] [⟨false, tI, y3.1⟩] [⟨tLI, y3.2⟩]⟩, oH] ⟨[(1, iV y3.1), (2, pV 3 0)], [(1, .seq tI y3.2), (0, .seq tI y1.2), (3, .box [.all 0, .all 1, .all 2]), (2, .seq (.own tI) a0.2.2)], 4⟩ hX (by kernel_rfl) (allCons (f21_ok hc4) allNil) ?_
  obtain ⟨y5, hc6, hr⟩ := of_bind hr
  refine HT.rg2 [oH, oH, oH, ⟨none, .call [.own (.sl (.own tI)), .imm tI] [⟨false, tI, y5.1⟩] [⟨(.sl (.own tI)), y5.2⟩]⟩, oH] ⟨[(1, iV y5.1)], [(2, .seq (.own tI) y5.2), (1, .seq tI y3.2), (0, .seq tI y1.2)], 4⟩ hX (by kernel_rfl) (allCons (f32_ok hc6) allNil) ?_
  refine HT.rg2 (oHs 2) ⟨[(4, iV y5.1)], [(2, .seq (.own tI) y5.2), (1, .seq tI y3.2), (0, .seq tI y1.2)], 4⟩ hX (by kernel_rfl) allNil ?_
  obtain ⟨hg7, hr⟩ := of_guard hr
  obtain ⟨hg8, hr⟩ := of_guard hr
  obtain ⟨hg9, hr⟩ := of_guard hr
  have hr := of_some hr
  subst hr
  exact HT.ret ⟨[iV y5.1], [], [List.length y1.2 = List.length a0.1, List.length y3.2 = List.length a0.2.1, ShapeEq (.own tI) a0.2.2 y5.2], by kernel_rfl, by kernel_rfl, rfl, by kernel_rfl, by kernel_rfl, ⟨hg7, hg8, hg9, trivial⟩⟩

noncomputable def laws_heldInt64S_B1 (a0 : List Int) (s1 : Int × Int) : Option ((Int × Int) ⊕ (Int ⊕ Unit)) :=
  bif (decide (s1.2 < (lenI a0))) then
    guardP ((0 : Int) ≤ s1.2 ∧ s1.2 < lenI a0) (
      bif ((List.getD a0 (Int.toNat s1.2) (0 : Int)) != s1.1) then
        some (.inr (.inr ()))
      else
        some (.inl ((wadd .i64 s1.1 (1 : Int)), (wadd .i64 s1.2 (1 : Int)))))
  else
    some (.inr (.inl s1.1))

noncomputable def laws_heldInt64S (a0 : List Int) (a1 : Int) : Option (Int) :=
  (rounds (laws_heldInt64S_B1 a0) (a1, (0 : Int))).bind fun r2 => match r2 with
    | .inl r3 =>
      some r3
    | .inr r4 =>
      some (-1 : Int)

theorem f22_ok {a0 : List Int} {a1 : Int} {r : Int} (hr : laws_heldInt64S a0 a1 = some r) : CallOK Try.prog 22 [.imm tLI a0, .imm tI a1] [⟨false, tI, r⟩] [] := by
  unfold laws_heldInt64S at hr
  refine CallOK.of_body (ts := [(false, tI)]) Try.func22 rfl (by kernel_rfl) (Nat.le_of_ble_eq_true (by kernel_rfl)) fun cx hP hN hO hF => ?_
  have hO : cx.own.map Prod.fst = [] := hO
  have hX := CxIs.mk hP hN hO
  have hF := hF rfl
  show HT cx ⟨[(0, nV a0), (1, iV a1)], [], 0⟩ _ _
  refine HT.rg2 [oH] ⟨[(0, nV a0), (1, iV a1)], [], 0⟩ hX (by kernel_rfl) allNil ?_
  refine HT.seq ?_
  refine HT.rg2 [oH] ⟨[(0, nV a0), (1, iV a1), (5, iV (0 : Int))], [], 0⟩ hX (by kernel_rfl) allNil ?_
  refine HT.block ?_
  obtain ⟨r2, hL11, hr⟩ := of_bind hr
  refine HT.loopL (fun (s1 : Int × Int) => ⟨[(0, nV a0), (1, iV s1.1), (5, iV s1.2)], [], 0⟩) (fun (r2 : Int ⊕ Unit) => match r2 with | .inl r3 => (.exit 0, ⟨[(1, iV r3)], [], 0⟩) | .inr r4 => (.ret, ⟨[(4, iV (-1 : Int))], [], 0⟩)) (Le.re [] [] hX (by kernel_rfl)) hL11 ?_ (fun s1 x5 hx6 hk7 => ?_)
  · rcases r2 with r3 | r4
    · refine (qBlockX (qThen ?_))
      refine HT.rg2 (oHs 2) ⟨[(4, iV r3)], [], 0⟩ hX (by kernel_rfl) allNil ?_
      have hr := of_some hr
      subst hr
      exact HT.ret ⟨[iV r3], [], [], by kernel_rfl, by kernel_rfl, rfl, by kernel_rfl, by kernel_rfl, trivial⟩
    · have hr := of_some hr
      subst hr
      exact (qBlockR (qThenR ⟨[iV (-1 : Int)], [], [], by kernel_rfl, by kernel_rfl, rfl, by kernel_rfl, by kernel_rfl, trivial⟩))
  · refine HT.seq ?_
    refine HT.rg2 (oHs 4) ⟨[(0, nV a0), (1, iV s1.1), (5, iV s1.2), (9, bV (decide (s1.2 < (lenI a0))))], [], 0⟩ hX (by kernel_rfl) allNil ?_
    rcases of_bif hx6 with ⟨hb8, hx6⟩ | ⟨hb8, hx6⟩
    · refine HT.cond1 rfl hb8 ?_
      refine HT.skip (qThen ?_)
      refine HT.seq ?_
      refine HT.block ?_
      refine HT.seq ?_
      obtain ⟨hg9, hx6⟩ := of_guard hx6
      refine HT.rg2 (oHs 6) ⟨[(0, nV a0), (1, iV s1.1), (5, iV s1.2), (17, bV ((List.getD a0 (Int.toNat s1.2) (0 : Int)) != s1.1))], [], 0⟩ hX (by kernel_rfl) (allCons hg9 allNil) ?_
      rcases of_bif hx6 with ⟨hb10, hx6⟩ | ⟨hb10, hx6⟩
      · refine HT.cond1 rfl hb10 ?_
        refine HT.rg2 [oH] ⟨[(4, iV (-1 : Int))], [], 0⟩ hX (by kernel_rfl) allNil ?_
        have hx6 := of_some hx6
        subst hx6
        exact HT.retL (Le.re [] [] hX (by kernel_rfl)) (qThenR (qBlockR (qThenR (qLoopR (hk7 (.inr ()) rfl)))))
      · refine HT.cond0 rfl hb10 ?_
        refine HT.skip (qThen ?_)
        refine HT.rgL (oHs 3) ⟨[(0, nV a0), (1, iV (wadd .i64 s1.1 (1 : Int))), (5, iV s1.2)], [], 0⟩ hX (by kernel_rfl) allNil (qBlock (qThen ?_))
        have hx6 := of_some hx6
        subst hx6
        exact HT.rgK (oHs 3) [] [] hX (by kernel_rfl) allNil (fun _ h => (qLoopN ⟨((wadd .i64 s1.1 (1 : Int)), (wadd .i64 s1.2 (1 : Int))), rfl, h⟩))
    · refine HT.cond0 rfl hb8 ?_
      have hx6 := of_some hx6
      subst hx6
      exact HT.exitL (Le.re [] [] hX (by kernel_rfl)) (qThenE (qLoopE (hk7 (.inl s1.1) rfl)))

noncomputable def laws_FnExactMovesOfGame (a0 : List Int × List Int × List (List Int)) : Option (Bool) :=
  (laws_szGame (a0.1, a0.2.1, a0.2.2) (1048576 : Int)).bind fun y1 =>
  bif (decide (y1 < (0 : Int))) then
    some true
  else
    (laws_toGame (a0.1, a0.2.1, a0.2.2)).bind fun y4 =>
    (spec_MovesOfGame (y4.1, y4.2.1, y4.2.2)).bind fun y6 =>
    (laws_toGame (a0.1, a0.2.1, a0.2.2)).bind fun y8 =>
    (impl_MovesOfGame (y8.1, y8.2.1, y8.2.2)).bind fun y10 =>
    (show Option (Bool) from
      (laws_eqInt64S y10.1 y6.1).bind fun y52 =>
      bif (!y52) then
        some true
      else
        some (y10.2 != y6.2)).bind fun v12 =>
    bif v12 then
      some false
    else
      (laws_toGame (a0.1, a0.2.1, a0.2.2)).bind fun y16 =>
      (laws_eqGame (y8.1, y8.2.1, y8.2.2) (y16.1, y16.2.1, y16.2.2)).bind fun y18 =>
      bif (!y18) then
        some false
      else
        (laws_markGame (y8.1, y8.2.1, y8.2.2) (1 : Int)).bind fun y21 =>
        (show Option (Bool) from
          bif (decide (y21.1 < (0 : Int))) then
            some true
          else
            (laws_eqInt64S y10.1 y6.1).bind fun y49 =>
            bif (!y49) then
              some true
            else
              some (y10.2 != y6.2)).bind fun v23 =>
        bif v23 then
          some false
        else
          (laws_markInt64S y10.1 (1 : Int)).bind fun y27 =>
          (laws_heldInt64S y27.2 (1 : Int)).bind fun y29 =>
          bif (decide (y29 < (0 : Int))) then
            some false
          else
            bif (y29 != y27.1) then
              some false
            else
              (laws_toGame (a0.1, a0.2.1, a0.2.2)).bind fun y33 =>
              (impl_MovesOfGame (y33.1, y33.2.1, y33.2.2)).bind fun y35 =>
              (show Option (Bool) from
                (laws_eqInt64S y35.1 y6.1).bind fun y45 =>
                bif (!y45) then
                  some true
                else
                  some (y35.2 != y6.2)).bind fun v37 =>
              bif v37 then
                some false
              else
                (laws_heldInt64S y27.2 (1 : Int)).bind fun y41 =>
                bif (decide (y41 < (0 : Int))) then
                  some false
                else
                  bif (y41 != y27.1) then
                    some false
                  else
                    some true

theorem f8_ok {a0 : List Int × List Int × List (List Int)} {r : Bool} (hr : laws_FnExactMovesOfGame a0 = some r) : CallOK Try.prog 8 [.imm (.st (.pair tLI (.pair tLI (.sl tLI)))) a0] [⟨false, .bool, r⟩] [] := by
  unfold laws_FnExactMovesOfGame at hr
  refine CallOK.of_body (ts := [(false, .bool)]) Try.func8 rfl (by kernel_rfl) (Nat.le_of_ble_eq_true (by kernel_rfl)) fun cx hP hN hO hF => ?_
  have hO : cx.own.map Prod.fst = [] := hO
  have hX := CxIs.mk hP hN hO
  have hF := hF rfl
  show HT cx ⟨[(0, .agg [nC a0.1, nC a0.2.1, .dat (.sl tLI) a0.2.2])], [], 0⟩ _ _
  refine HT.rg2 (oHs 2) ⟨[(1, pV 0 0)], [(0, .box [nC a0.1, nC a0.2.1, .dat (.sl tLI) a0.2.2])], 1⟩ hX (by kernel_rfl) allNil ?_
  refine HT.rg2 [oH] ⟨[(1, pV 0 0), (3, iV (1048576 : Int))], [(0, .box [nC a0.1, nC a0.2.1, .dat (.sl tLI) a0.2.2])], 1⟩ hX (by kernel_rfl) allNil ?_
  obtain ⟨y1, hc2, hr⟩ := of_bind hr
  refine HT.rg2 [oH, oH, ⟨none, .call [.imm (.st (.pair tLI (.pair tLI (.sl tLI)))), .imm tI] [⟨false, tI, y1⟩] []⟩, oH] ⟨[(1, pV 0 0), (3, iV y1)], [(0, .box [nC a0.1, nC a0.2.1, .dat (.sl tLI) a0.2.2])], 1⟩ hX (by kernel_rfl) (allCons (f10_ok hc2) allNil) ?_
  refine HT.seq ?_
  refine HT.rg2 (oHs 2) ⟨[(1, pV 0 0), (18, bV (decide (y1 < (0 : Int))))], [(0, .box [nC a0.1, nC a0.2.1, .dat (.sl tLI) a0.2.2])], 1⟩ hX (by kernel_rfl) allNil ?_
  rcases of_bif hr with ⟨hb3, hr⟩ | ⟨hb3, hr⟩
  · refine HT.cond1 rfl hb3 ?_
    refine HT.rg2 [oH] ⟨[(2, bV true)], [], 1⟩ hX (by kernel_rfl) allNil ?_
    have hr := of_some hr
    subst hr
    exact HT.ret (qThenR ⟨[bV true], [], [], by kernel_rfl, by kernel_rfl, rfl, by kernel_rfl, by kernel_rfl, trivial⟩)
  · refine HT.cond0 rfl hb3 ?_
    refine HT.skip (qThen ?_)
    obtain ⟨y4, hc5, hr⟩ := of_bind hr
    obtain ⟨y6, hc7, hr⟩ := of_bind hr
    refine HT.rg2 [oH, ⟨none, .call [.imm (.st (.pair tLI (.pair tLI (.sl tLI))))] [⟨true, (.st (.pair tLI (.pair tLI (.sl (.own tI))))), y4⟩] []⟩, ⟨none, .call [.imm (.st (.pair tLI (.pair tLI (.sl tLI))))] [⟨true, tLI, y6.1⟩, ⟨false, .bool, y6.2⟩] []⟩, oH, oH, oH, oH, oH] ⟨[(1, pV 0 0), (4, aV 4), (5, bV y6.2)], [(4, .seq tI y6.1), (0, .box [nC a0.1, nC a0.2.1, .dat (.sl tLI) a0.2.2])], 5⟩ hX (by kernel_rfl) (allCons (f12_ok hc5) (allCons (f36_ok hc7) allNil)) ?_
    obtain ⟨y8, hc9, hr⟩ := of_bind hr
    refine HT.rg2 [oH, ⟨none, .call [.imm (.st (.pair tLI (.pair tLI (.sl tLI))))] [⟨true, (.st (.pair tLI (.pair tLI (.sl (.own tI))))), y8⟩] []⟩, oH, oH] ⟨[(1, pV 0 0), (4, aV 4), (5, bV y6.2), (6, pV 8 0)], [(8, .box [.all 5, .all 6, .all 7]), (5, .seq tI y8.1), (6, .seq tI y8.2.1), (7, .seq (.own tI) y8.2.2), (4, .seq tI y6.1), (0, .box [nC a0.1, nC a0.2.1, .dat (.sl tLI) a0.2.2])], 9⟩ hX (by kernel_rfl) (allCons (f12_ok hc9) allNil) ?_
    obtain ⟨y10, hc11, hr⟩ := of_bind hr
    refine HT.rg2 [oH, ⟨none, .call [.imm (.st (.pair tLI (.pair tLI (.sl tLI))))] [⟨true, tLI, y10.1⟩, ⟨false, .bool, y10.2⟩] []⟩, oH, oH, oH, oH, oH] ⟨[(1, pV 0 0), (4, aV 4), (5, bV y6.2), (6, pV 8 0), (7, aV 9), (8, bV y10.2)], [(9, .seq tI y10.1), (8, .box [.all 5, .all 6, .all 7]), (5, .seq tI y8.1), (6, .seq tI y8.2.1), (7, .seq (.own tI) y8.2.2), (4, .seq tI y6.1), (0, .box [nC a0.1, nC a0.2.1, .dat (.sl tLI) a0.2.2])], 10⟩ hX (by kernel_rfl) (allCons (f37_ok hc11) allNil) ?_
    refine HT.seq ?_
    obtain ⟨v12', hT14, hr⟩ := of_bind hr
    refine HT.join (fun (v12 : Bool) => ⟨[(1, pV 0 0), (4, aV 1), (5, bV y6.2), (6, pV 2 0), (7, aV 3), (8, bV y10.2), (40, bV v12)], [(0, .box [nC a0.1, nC a0.2.1, .dat (.sl tLI) a0.2.2]), (1, .seq tI y6.1), (2, .box [.all 4, .all 5, .all 6]), (3, .seq tI y10.1), (4, .seq tI y8.1), (5, .seq tI y8.2.1), (6, .seq (.own tI) y8.2.2)], 7⟩) (fun v => v = v12') (fun v12 hv13 => ?_) (fun cont => ?_)
    · subst hv13
      rcases of_bif hr with ⟨hb15, hr⟩ | ⟨hb15, hr⟩
      · refine HT.cond1 rfl hb15 ?_
        refine HT.rg2 [oH] ⟨[(2, bV false)], [], 7⟩ hX (by kernel_rfl) allNil ?_
        have hr := of_some hr
        subst hr
        exact HT.ret (qThenR ⟨[bV false], [], [], by kernel_rfl, by kernel_rfl, rfl, by kernel_rfl, by kernel_rfl, trivial⟩)
      · refine HT.cond0 rfl hb15 ?_
        refine HT.skip (qThen ?_)
        refine HT.seq ?_
        obtain ⟨y16, hc17, hr⟩ := of_bind hr
        obtain ⟨y18, hc19, hr⟩ := of_bind hr
        refine HT.dr2 3 [⟨oH, []⟩, ⟨oH, []⟩, ⟨⟨none, .call [.imm (.st (.pair tLI (.pair tLI (.sl tLI))))] [⟨true, (.st (.pair tLI (.pair tLI (.sl (.own tI))))), y16⟩] []⟩, [1]⟩] [[0, 1, 2], [0, 1, 2, 3]] [⟨none, .call [.imm (.st (.pair tLI (.pair tLI (.sl tLI)))), .imm (.st (.pair tLI (.pair tLI (.sl tLI))))] [⟨false, .bool, y18⟩] []⟩, oH] ⟨[(1, pV 0 0), (4, aV 1), (5, bV y6.2), (6, pV 2 0), (7, aV 3), (8, bV y10.2), (45, bV (!y18))], [(0, .box [nC a0.1, nC a0.2.1, .dat (.sl tLI) a0.2.2]), (1, .seq tI y6.1), (2, .box [.all 4, .all 5, .all 6]), (3, .seq tI y10.1), (4, .seq tI y8.1), (5, .seq tI y8.2.1), (6, .seq (.own tI) y8.2.2)], 10⟩ hX (by kernel_rfl) (by kernel_rfl) (allCons (f12_ok hc17) (allCons (f14_ok hc19) allNil)) ?_
        rcases of_bif hr with ⟨hb20, hr⟩ | ⟨hb20, hr⟩
        · refine HT.cond1 rfl hb20 ?_
          refine HT.rg2 [oH] ⟨[(2, bV false)], [], 10⟩ hX (by kernel_rfl) allNil ?_
          have hr := of_some hr
          subst hr
          exact HT.ret (qThenR ⟨[bV false], [], [], by kernel_rfl, by kernel_rfl, rfl, by kernel_rfl, by kernel_rfl, trivial⟩)
        · refine HT.cond0 rfl hb20 ?_
          refine HT.skip (qThen ?_)
          refine HT.rg2 [oH] ⟨[(1, pV 0 0), (4, aV 1), (5, bV y6.2), (6, pV 2 0), (7, aV 3), (8, bV y10.2), (9, iV (1 : Int))], [(0, .box [nC a0.1, nC a0.2.1, .dat (.sl tLI) a0.2.2]), (1, .seq tI y6.1), (2, .box [.all 4, .all 5, .all 6]), (3, .seq tI y10.1), (4, .seq tI y8.1), (5, .seq tI y8.2.1), (6, .seq (.own tI) y8.2.2)], 10⟩ hX (by kernel_rfl) allNil ?_
          obtain ⟨y21, hc22, hr⟩ := of_bind hr
          refine HT.rg2 [oH, oH, ⟨none, .call [.own (.st (.pair tLI (.pair tLI (.sl (.own tI))))), .imm tI] [⟨false, tI, y21.1⟩] [⟨(.st (.pair tLI (.pair tLI (.sl (.own tI))))), y21.2⟩]⟩, oH] ⟨[(1, pV 0 0), (4, aV 1), (5, bV y6.2), (7, aV 3), (8, bV y10.2), (9, iV y21.1)], [(0, .box [nC a0.1, nC a0.2.1, .dat (.sl tLI) a0.2.2]), (1, .seq tI y6.1), (3, .seq tI y10.1)], 10⟩ hX (by kernel_rfl) (allCons (f15_ok hc22) allNil) ?_
          refine HT.seq ?_
          obtain ⟨v23', hT25, hr⟩ := of_bind hr
          refine HT.join (fun (v23 : Bool) => ⟨[(1, pV 0 0), (4, aV 1), (5, bV y6.2), (7, aV 2), (61, bV v23)], [(0, .box [nC a0.1, nC a0.2.1, .dat (.sl tLI) a0.2.2]), (1, .seq tI y6.1), (2, .seq tI y10.1)], 3⟩) (fun v => v = v23') (fun v23 hv24 => ?_) (fun cont => ?_)
          · subst hv24
            rcases of_bif hr with ⟨hb26, hr⟩ | ⟨hb26, hr⟩
            · refine HT.cond1 rfl hb26 ?_
              refine HT.rg2 [oH] ⟨[(2, bV false)], [], 3⟩ hX (by kernel_rfl) allNil ?_
              have hr := of_some hr
              subst hr
              exact HT.ret (qThenR ⟨[bV false], [], [], by kernel_rfl, by kernel_rfl, rfl, by kernel_rfl, by kernel_rfl, trivial⟩)
            · refine HT.cond0 rfl hb26 ?_
              refine HT.skip (qThen ?_)
              refine HT.rg2 [oH] ⟨[(1, pV 0 0), (4, aV 1), (5, bV y6.2), (7, aV 2), (10, iV (1 : Int))], [(0, .box [nC a0.1, nC a0.2.1, .dat (.sl tLI) a0.2.2]), (1, .seq tI y6.1), (2, .seq tI y10.1)], 3⟩ hX (by kernel_rfl) allNil ?_
              obtain ⟨y27, hc28, hr⟩ := of_bind hr
              refine HT.rg2 [oH, oH, ⟨none, .call [.own tLI, .imm tI] [⟨false, tI, y27.1⟩] [⟨tLI, y27.2⟩]⟩, oH] ⟨[(1, pV 0 0), (4, aV 1), (5, bV y6.2), (7, aV 2), (10, iV y27.1)], [(2, .seq tI y27.2), (0, .box [nC a0.1, nC a0.2.1, .dat (.sl tLI) a0.2.2]), (1, .seq tI y6.1)], 3⟩ hX (by kernel_rfl) (allCons (f21_ok hc28) allNil) ?_
              refine HT.rg2 [oH] ⟨[(1, pV 0 0), (4, aV 1), (5, bV y6.2), (7, aV 2), (10, iV y27.1), (11, iV (1 : Int))], [(2, .seq tI y27.2), (0, .box [nC a0.1, nC a0.2.1, .dat (.sl tLI) a0.2.2]), (1, .seq tI y6.1)], 3⟩ hX (by kernel_rfl) allNil ?_
              obtain ⟨y29, hc30, hr⟩ := of_bind hr
              refine HT.rg2 [oH, oH, ⟨none, .call [.imm tLI, .imm tI] [⟨false, tI, y29⟩] []⟩, oH] ⟨[(1, pV 0 0), (4, aV 1), (5, bV y6.2), (7, aV 2), (10, iV y27.1), (11, iV y29)], [(2, .seq tI y27.2), (0, .box [nC a0.1, nC a0.2.1, .dat (.sl tLI) a0.2.2]), (1, .seq tI y6.1)], 3⟩ hX (by kernel_rfl) (allCons (f22_ok hc30) allNil) ?_
              refine HT.seq ?_
              refine HT.rg2 (oHs 2) ⟨[(1, pV 0 0), (4, aV 1), (5, bV y6.2), (7, aV 2), (10, iV y27.1), (11, iV y29), (69, bV (decide (y29 < (0 : Int))))], [(2, .seq tI y27.2), (0, .box [nC a0.1, nC a0.2.1, .dat (.sl tLI) a0.2.2]), (1, .seq tI y6.1)], 3⟩ hX (by kernel_rfl) allNil ?_
              rcases of_bif hr with ⟨hb31, hr⟩ | ⟨hb31, hr⟩
              · refine HT.cond1 rfl hb31 ?_
                refine HT.rg2 [oH] ⟨[(2, bV false)], [], 3⟩ hX (by kernel_rfl) allNil ?_
                have hr := of_some hr
                subst hr
                exact HT.ret (qThenR ⟨[bV false], [], [], by kernel_rfl, by kernel_rfl, rfl, by kernel_rfl, by kernel_rfl, trivial⟩)
              · refine HT.cond0 rfl hb31 ?_
                refine HT.skip (qThen ?_)
                refine HT.seq ?_
                refine HT.rg2 (oHs 3) ⟨[(1, pV 0 0), (4, aV 1), (5, bV y6.2), (7, aV 2), (10, iV y27.1), (72, bV (y29 != y27.1))], [(2, .seq tI y27.2), (0, .box [nC a0.1, nC a0.2.1, .dat (.sl tLI) a0.2.2]), (1, .seq tI y6.1)], 3⟩ hX (by kernel_rfl) allNil ?_
                rcases of_bif hr with ⟨hb32, hr⟩ | ⟨hb32, hr⟩
                · refine HT.cond1 rfl hb32 ?_
                  refine HT.rg2 [oH] ⟨[(2, bV false)], [], 3⟩ hX (by kernel_rfl) allNil ?_
                  have hr := of_some hr
                  subst hr
                  exact HT.ret (qThenR ⟨[bV false], [], [], by kernel_rfl, by kernel_rfl, rfl, by kernel_rfl, by kernel_rfl, trivial⟩)
                · refine HT.cond0 rfl hb32 ?_
                  refine HT.skip (qThen ?_)
                  obtain ⟨y33, hc34, hr⟩ := of_bind hr
                  obtain ⟨y35, hc36, hr⟩ := of_bind hr
                  refine HT.rg2 [oH, ⟨none, .call [.imm (.st (.pair tLI (.pair tLI (.sl tLI))))] [⟨true, (.st (.pair tLI (.pair tLI (.sl (.own tI))))), y33⟩] []⟩, ⟨none, .call [.imm (.st (.pair tLI (.pair tLI (.sl tLI))))] [⟨true, tLI, y35.1⟩, ⟨false, .bool, y35.2⟩] []⟩, oH, oH, oH, oH, oH] ⟨[(4, aV 1), (5, bV y6.2), (7, aV 2), (10, iV y27.1), (12, aV 6), (13, bV y35.2)], [(6, .seq tI y35.1), (2, .seq tI y27.2), (1, .seq tI y6.1)], 7⟩ hX (by kernel_rfl) (allCons (f12_ok hc34) (allCons (f37_ok hc36) allNil)) ?_
                  refine HT.seq ?_
                  obtain ⟨v37', hT39, hr⟩ := of_bind hr
                  refine HT.join (fun (v37 : Bool) => ⟨[(7, aV 0), (10, iV y27.1), (87, bV v37)], [(0, .seq tI y27.2)], 1⟩) (fun v => v = v37') (fun v37 hv38 => ?_) (fun cont => ?_)
                  · subst hv38
                    rcases of_bif hr with ⟨hb40, hr⟩ | ⟨hb40, hr⟩
                    · refine HT.cond1 rfl hb40 ?_
                      refine HT.rg2 [oH] ⟨[(2, bV false)], [], 1⟩ hX (by kernel_rfl) allNil ?_
                      have hr := of_some hr
                      subst hr
                      exact HT.ret (qThenR ⟨[bV false], [], [], by kernel_rfl, by kernel_rfl, rfl, by kernel_rfl, by kernel_rfl, trivial⟩)
                    · refine HT.cond0 rfl hb40 ?_
                      refine HT.skip (qThen ?_)
                      refine HT.rg2 [oH] ⟨[(7, aV 0), (10, iV y27.1), (11, iV (1 : Int))], [(0, .seq tI y27.2)], 1⟩ hX (by kernel_rfl) allNil ?_
                      obtain ⟨y41, hc42, hr⟩ := of_bind hr
                      refine HT.rg2 [oH, oH, ⟨none, .call [.imm tLI, .imm tI] [⟨false, tI, y41⟩] []⟩, oH] ⟨[(10, iV y27.1), (11, iV y41)], [], 1⟩ hX (by kernel_rfl) (allCons (f22_ok hc42) allNil) ?_
                      refine HT.seq ?_
                      refine HT.rg2 (oHs 2) ⟨[(10, iV y27.1), (11, iV y41), (92, bV (decide (y41 < (0 : Int))))], [], 1⟩ hX (by kernel_rfl) allNil ?_
                      rcases of_bif hr with ⟨hb43, hr⟩ | ⟨hb43, hr⟩
                      · refine HT.cond1 rfl hb43 ?_
                        refine HT.rg2 [oH] ⟨[(2, bV false)], [], 1⟩ hX (by kernel_rfl) allNil ?_
                        have hr := of_some hr
                        subst hr
                        exact HT.ret (qThenR ⟨[bV false], [], [], by kernel_rfl, by kernel_rfl, rfl, by kernel_rfl, by kernel_rfl, trivial⟩)
                      · refine HT.cond0 rfl hb43 ?_
                        refine HT.skip (qThen ?_)
                        refine HT.seq ?_
                        refine HT.rg2 (oHs 3) ⟨[(95, bV (y41 != y27.1))], [], 1⟩ hX (by kernel_rfl) allNil ?_
                        rcases of_bif hr with ⟨hb44, hr⟩ | ⟨hb44, hr⟩
                        · refine HT.cond1 rfl hb44 ?_
                          refine HT.rg2 [oH] ⟨[(2, bV false)], [], 1⟩ hX (by kernel_rfl) allNil ?_
                          have hr := of_some hr
                          subst hr
                          exact HT.ret (qThenR ⟨[bV false], [], [], by kernel_rfl, by kernel_rfl, rfl, by kernel_rfl, by kernel_rfl, trivial⟩)
                        · refine HT.cond0 rfl hb44 ?_
                          refine HT.skip (qThen ?_)
                          refine HT.rg2 [oH] ⟨[(2, bV true)], [], 1⟩ hX (by kernel_rfl) allNil ?_
                          have hr := of_some hr
                          subst hr
                          exact HT.ret ⟨[bV true], [], [], by kernel_rfl, by kernel_rfl, rfl, by kernel_rfl, by kernel_rfl, trivial⟩
                  · obtain ⟨y45, hc46, hT39⟩ := of_bind hT39
                    rcases of_bif hT39 with ⟨hb47, hT39⟩ | ⟨hb47, hT39⟩
                    · exact HT.rgK [oH, oH, ⟨none, .call [.imm tLI, .imm tLI] [⟨false, .bool, y45⟩] []⟩, oH, oH, ⟨some true, .no⟩, ⟨some true, .no⟩, ⟨some true, .no⟩, ⟨none, .tv true⟩] [(2, 0)] [] hX (by kernel_rfl) (allCons (f20_ok hc46) (allCons hb47 (allCons hb47 (allCons hb47 (allCons hb47 allNil))))) (fun _ h => (qThen (h.ht (cont true (of_some hT39)))))
                    · exact HT.rgK [oH, oH, ⟨none, .call [.imm tLI, .imm tLI] [⟨false, .bool, y45⟩] []⟩, oH, oH, ⟨some false, .no⟩, ⟨some false, .no⟩, ⟨some false, .no⟩, ⟨none, .tv false⟩] [(2, 0)] [] hX (by kernel_rfl) (allCons (f20_ok hc46) (allCons hb47 (allCons hb47 (allCons hb47 (allCons hb47 allNil))))) (fun _ h => (qThen (h.ht (cont (y35.2 != y6.2) (of_some hT39)))))
          · rcases of_bif hT25 with ⟨hb48, hT25⟩ | ⟨hb48, hT25⟩
            · exact HT.rgK [oH, oH, oH, ⟨some true, .no⟩, ⟨some true, .no⟩, ⟨some true, .no⟩, ⟨some true, .no⟩, ⟨none, .tv true⟩, oH, ⟨some true, .no⟩, ⟨some true, .no⟩, ⟨some true, .no⟩, ⟨none, .tv true⟩] [(0, 0), (1, 1), (3, 2)] [] hX (by kernel_rfl) (allCons hb48 (allCons hb48 (allCons hb48 (allCons hb48 (allCons hb48 (allCons (rfl : true = true) (allCons (rfl : true = true) (allCons (rfl : true = true) (allCons (rfl : true = true) allNil))))))))) (fun _ h => (qThen (h.ht (cont true (of_some hT25)))))
            · obtain ⟨y49, hc50, hT25⟩ := of_bind hT25
              rcases of_bif hT25 with ⟨hb51, hT25⟩ | ⟨hb51, hT25⟩
              · exact HT.rgK [oH, oH, oH, ⟨some false, .no⟩, ⟨some false, .no⟩, ⟨some false, .call [.imm tLI, .imm tLI] [⟨false, .bool, y49⟩] []⟩, ⟨some false, .no⟩, ⟨none, .tv false⟩, oH, ⟨some true, .no⟩, ⟨some true, .no⟩, ⟨some true, .no⟩, ⟨none, .tv true⟩] [(0, 0), (1, 1), (3, 2)] [] hX (by kernel_rfl) (allCons hb48 (allCons hb48 (allCons hb48 (allCons (f20_ok hc50) (allCons hb48 (allCons hb48 (allCons hb51 (allCons hb51 (allCons hb51 (allCons hb51 allNil)))))))))) (fun _ h => (qThen (h.ht (cont true (of_some hT25)))))
              · exact HT.rgK [oH, oH, oH, ⟨some false, .no⟩, ⟨some false, .no⟩, ⟨some false, .call [.imm tLI, .imm tLI] [⟨false, .bool, y49⟩] []⟩, ⟨some false, .no⟩, ⟨none, .tv false⟩, oH, ⟨some false, .no⟩, ⟨some false, .no⟩, ⟨some false, .no⟩, ⟨none, .tv false⟩] [(0, 0), (1, 1), (3, 2)] [] hX (by kernel_rfl) (allCons hb48 (allCons hb48 (allCons hb48 (allCons (f20_ok hc50) (allCons hb48 (allCons hb48 (allCons hb51 (allCons hb51 (allCons hb51 (allCons hb51 allNil)))))))))) (fun _ h => (qThen (h.ht (cont (y10.2 != y6.2) (of_some hT25)))))
    · obtain ⟨y52, hc53, hT14⟩ := of_bind hT14
      rcases of_bif hT14 with ⟨hb54, hT14⟩ | ⟨hb54, hT14⟩
      · exact HT.rgK [oH, oH, ⟨none, .call [.imm tLI, .imm tLI] [⟨false, .bool, y52⟩] []⟩, oH, oH, ⟨some true, .no⟩, ⟨some true, .no⟩, ⟨some true, .no⟩, ⟨none, .tv true⟩] [(0, 0), (4, 1), (8, 2), (9, 3), (5, 4), (6, 5), (7, 6)] [] hX (by kernel_rfl) (allCons (f20_ok hc53) (allCons hb54 (allCons hb54 (allCons hb54 (allCons hb54 allNil))))) (fun _ h => (qThen (h.ht (cont true (of_some hT14)))))
      · exact HT.rgK [oH, oH, ⟨none, .call [.imm tLI, .imm tLI] [⟨false, .bool, y52⟩] []⟩, oH, oH, ⟨some false, .no⟩, ⟨some false, .no⟩, ⟨some false, .no⟩, ⟨none, .tv false⟩] [(0, 0), (4, 1), (8, 2), (9, 3), (5, 4), (6, 5), (7, 6)] [] hX (by kernel_rfl) (allCons (f20_ok hc53) (allCons hb54 (allCons hb54 (allCons hb54 (allCons hb54 allNil))))) (fun _ h => (qThen (h.ht (cont (y10.2 != y6.2) (of_some hT14)))))

end Go.Proofs
