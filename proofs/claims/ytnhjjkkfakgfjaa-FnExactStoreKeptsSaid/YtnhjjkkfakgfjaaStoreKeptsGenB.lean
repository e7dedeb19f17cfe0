import Derived.Test.YtnhjjkkfakgfjaaStoreKeptsGenA
import Derived.Test.YtnhjjkkfakgfjaaProg
set_option linter.unusedVariables false
set_option linter.unusedSimpArgs false
set_option linter.unusedSectionVars false
/-
  Functions as plain functions, and their contracts. Printed by a program.
-/
namespace Go.Proofs
open Go.Ide

noncomputable def impl_StoreKepts_B1 (a0 : List (List UInt8 × Int × Int × List Int × List Bool)) (s2 : List UInt8 × Int) : Option ((List UInt8 × Int) ⊕ (List UInt8 ⊕ Unit)) :=
  bif (decide (s2.2 < (lenI a0))) then
    guardP ((0 : Int) ≤ s2.2 ∧ s2.2 < lenI a0) (
      (some ((List.getD a0 (Int.toNat s2.2) (([] : List UInt8), (0 : Int), (0 : Int), ([] : List Int), ([] : List Bool))).1)).bind fun q11 =>
      (some (((List.getD a0 (Int.toNat s2.2) (([] : List UInt8), (0 : Int), (0 : Int), ([] : List Int), ([] : List Bool))).2).1)).bind fun q13 =>
      (some ((((List.getD a0 (Int.toNat s2.2) (([] : List UInt8), (0 : Int), (0 : Int), ([] : List Int), ([] : List Bool))).2).2).1)).bind fun q15 =>
      (some (((((List.getD a0 (Int.toNat s2.2) (([] : List UInt8), (0 : Int), (0 : Int), ([] : List Int), ([] : List Bool))).2).2).2).1)).bind fun q17 =>
      (some (((((List.getD a0 (Int.toNat s2.2) (([] : List UInt8), (0 : Int), (0 : Int), ([] : List Int), ([] : List Bool))).2).2).2).2)).bind fun q19 =>
      (impl_StoreKept (q11, q13, q15, q17, q19)).bind fun y21 =>
      bif (!y21.2) then
        some (.inr (.inr ()))
      else
        guardP (List.length s2.1 + List.length y21.1 ≤ appMax) (
          some (.inl ((s2.1 ++ y21.1), (wadd .i64 s2.2 (1 : Int))))))
  else
    some (.inr (.inl s2.1))

noncomputable def impl_StoreKepts (a0 : List (List UInt8 × Int × Int × List Int × List Bool)) : Option (List UInt8 × Bool) :=
  bif (decide ((lenI a0) > (8 : Int))) then
    some (([] : List UInt8), false)
  else
    (rounds (impl_StoreKepts_B1 a0) (([] : List UInt8), (0 : Int))).bind fun r3 => match r3 with
      | .inl r4 =>
        some (r4, true)
      | .inr r5 =>
        some (([] : List UInt8), false)

theorem f27_ok {a0 : List (List UInt8 × Int × Int × List Int × List Bool)} {r : List UInt8 × Bool} (hr : impl_StoreKepts a0 = some r) : CallOK Try.prog 27 [.imm (.sl (.st (.pair .str (.st (.pair (.int .i64) (.pair (.int .i64) (.pair (.sl (.int .i64)) (.sl .bool)))))))) a0] [⟨false, .str, r.1⟩, ⟨false, .bool, r.2⟩] [] := by
  unfold impl_StoreKepts at hr
  refine CallOK.of_body (ts := [(false, .str), (false, .bool)]) Try.func27 rfl (by kernel_rfl) (Nat.le_of_ble_eq_true (by kernel_rfl)) fun cx hP hN hO hF => ?_
  have hO : cx.own.map Prod.fst = [] := hO
  have hF := hF rfl
  show HT cx ⟨[(0, .one (.dat (.sl (.st (.pair .str (.st (.pair (.int .i64) (.pair (.int .i64) (.pair (.sl (.int .i64)) (.sl .bool)))))))) a0))], [], 0⟩ _ _
  refine HT.reg1 [0] [⟨none, .no⟩, ⟨none, .no⟩] ⟨[(0, .one (.dat (.sl (.st (.pair .str (.st (.pair (.int .i64) (.pair (.int .i64) (.pair (.sl (.int .i64)) (.sl .bool)))))))) a0))], [], 0⟩ hP hN (by kernel_rfl) allNil ?_
  refine HT.seq ?_
  refine HT.reg1 [0, 11] [⟨none, .no⟩, ⟨none, .no⟩, ⟨none, .no⟩] ⟨[(0, .one (.dat (.sl (.st (.pair .str (.st (.pair (.int .i64) (.pair (.int .i64) (.pair (.sl (.int .i64)) (.sl .bool)))))))) a0)), (11, .one (.dat .bool (decide ((lenI a0) > (8 : Int)))))], [], 0⟩ hP hN (by kernel_rfl) allNil ?_
  rcases of_bif hr with ⟨hb1, hr⟩ | ⟨hb1, hr⟩
  · refine HT.cond1 rfl hb1 ?_
    refine HT.reg1 [2, 3] [⟨none, .no⟩, ⟨none, .no⟩] ⟨[(2, .one (.dat .str ([] : List UInt8))), (3, .one (.dat .bool false))], [], 0⟩ hP hN (by kernel_rfl) allNil ?_
    have hr := of_some hr
    subst hr
    exact HT.ret (qThenR ⟨[.one (.dat .str ([] : List UInt8)), .one (.dat .bool false)], [], [], by kernel_rfl, by kernel_rfl, rfl, by kernel_rfl, by kernel_rfl, trivial⟩)
  · refine HT.cond0 rfl hb1 ?_
    refine HT.skip (qThen ?_)
    refine HT.reg1 [0, 4] [⟨none, .no⟩] ⟨[(0, .one (.dat (.sl (.st (.pair .str (.st (.pair (.int .i64) (.pair (.int .i64) (.pair (.sl (.int .i64)) (.sl .bool)))))))) a0)), (4, .one (.dat .str ([] : List UInt8)))], [], 0⟩ hP hN (by kernel_rfl) allNil ?_
    refine HT.seq ?_
    refine HT.reg1 [4, 12, 13, 14] [⟨none, .no⟩, ⟨none, .no⟩, ⟨none, .no⟩] ⟨[(4, .one (.dat .str ([] : List UInt8))), (12, .one (.dat (.sl (.st (.pair .str (.st (.pair (.int .i64) (.pair (.int .i64) (.pair (.sl (.int .i64)) (.sl .bool)))))))) a0)), (13, .one (.dat (.int .i64) (lenI a0))), (14, .one (.dat (.int .i64) (0 : Int)))], [], 0⟩ hP hN (by kernel_rfl) allNil ?_
    refine HT.block ?_
    obtain ⟨r3, hL25, hr⟩ := of_bind hr
    refine (Le.cv (s := ⟨[], [], [], false⟩) (own := []) (ps := [([] : List UInt8) = ([] : List UInt8), a0 = a0, (lenI a0) = (lenI a0), (0 : Int) = (0 : Int)]) (st' := ⟨[(4, .one (.dat .str ([] : List UInt8))), (12, .one (.dat (.sl (.st (.pair .str (.st (.pair (.int .i64) (.pair (.int .i64) (.pair (.sl (.int .i64)) (.sl .bool)))))))) a0)), (13, .one (.dat (.int .i64) (lenI a0))), (14, .one (.dat (.int .i64) (0 : Int)))], [], 0⟩) hO (fun h => by cases h) (by kernel_rfl) ⟨rfl, rfl, rfl, rfl, trivial⟩).ht ?_
    refine HT.loopE (s := (([] : List UInt8), (0 : Int))) (fun (s2 : List UInt8 × Int) => ⟨[(4, .one (.dat .str s2.1)), (12, .one (.dat (.sl (.st (.pair .str (.st (.pair (.int .i64) (.pair (.int .i64) (.pair (.sl (.int .i64)) (.sl .bool)))))))) a0)), (13, .one (.dat (.int .i64) (lenI a0))), (14, .one (.dat (.int .i64) s2.2))], [], 0⟩) (fun (r3 : List UInt8 ⊕ Unit) => match r3 with | .inl r4 => (.exit 0, ⟨[(4, .one (.dat .str r4))], [], 0⟩) | .inr r5 => (.ret, ⟨[(2, .one (.dat .str ([] : List UInt8))), (3, .one (.dat .bool false))], [], 0⟩)) hL25 ?_ (fun s2 x6 hx7 hk8 => ?_)
    · rcases r3 with r4 | r5
      · refine (qBlockX (qThen ?_))
        refine HT.reg1 [2, 3] [⟨none, .no⟩, ⟨none, .no⟩, ⟨none, .no⟩] ⟨[(2, .one (.dat .str r4)), (3, .one (.dat .bool true))], [], 0⟩ hP hN (by kernel_rfl) allNil ?_
        have hr := of_some hr
        subst hr
        exact HT.ret ⟨[.one (.dat .str r4), .one (.dat .bool true)], [], [], by kernel_rfl, by kernel_rfl, rfl, by kernel_rfl, by kernel_rfl, trivial⟩
      · have hr := of_some hr
        subst hr
        exact (qBlockR (qThenR ⟨[.one (.dat .str ([] : List UInt8)), .one (.dat .bool false)], [], [], by kernel_rfl, by kernel_rfl, rfl, by kernel_rfl, by kernel_rfl, trivial⟩))
    · refine HT.reg1 [4, 12, 13, 14, 15] [⟨none, .no⟩] ⟨[(4, .one (.dat .str s2.1)), (12, .one (.dat (.sl (.st (.pair .str (.st (.pair (.int .i64) (.pair (.int .i64) (.pair (.sl (.int .i64)) (.sl .bool)))))))) a0)), (13, .one (.dat (.int .i64) (lenI a0))), (14, .one (.dat (.int .i64) s2.2)), (15, .one (.dat .bool (decide (s2.2 < (lenI a0)))))], [], 0⟩ hP hN (by kernel_rfl) allNil ?_
      refine HT.seq ?_
      rcases of_bif hx7 with ⟨hb9, hx7⟩ | ⟨hb9, hx7⟩
      · refine HT.cond1 rfl hb9 ?_
        refine HT.skip (qThen ?_)
        refine HT.seq ?_
        refine HT.block ?_
        obtain ⟨hg10, hx7⟩ := of_guard hx7
        refine HT.reg1 [4, 6, 12, 13, 14] [⟨none, .no⟩, ⟨none, .no⟩, ⟨none, .no⟩, ⟨none, .no⟩] ⟨[(4, .one (.dat .str s2.1)), (6, .one (.ptr 0 0)), (12, .one (.dat (.sl (.st (.pair .str (.st (.pair (.int .i64) (.pair (.int .i64) (.pair (.sl (.int .i64)) (.sl .bool)))))))) a0)), (13, .one (.dat (.int .i64) (lenI a0))), (14, .one (.dat (.int .i64) s2.2))], [(0, .box [.dat .str ((List.getD a0 (Int.toNat s2.2) (([] : List UInt8), (0 : Int), (0 : Int), ([] : List Int), ([] : List Bool))).1), .dat (.int .i64) (((List.getD a0 (Int.toNat s2.2) (([] : List UInt8), (0 : Int), (0 : Int), ([] : List Int), ([] : List Bool))).2).1), .dat (.int .i64) ((((List.getD a0 (Int.toNat s2.2) (([] : List UInt8), (0 : Int), (0 : Int), ([] : List Int), ([] : List Bool))).2).2).1), .dat (.sl (.int .i64)) (((((List.getD a0 (Int.toNat s2.2) (([] : List UInt8), (0 : Int), (0 : Int), ([] : List Int), ([] : List Bool))).2).2).2).1), .dat (.sl .bool) (((((List.getD a0 (Int.toNat s2.2) (([] : List UInt8), (0 : Int), (0 : Int), ([] : List Int), ([] : List Bool))).2).2).2).2)]), (0, .box [.dat .str ([] : List UInt8), .dat (.int .i64) (0 : Int), .dat (.int .i64) (0 : Int), .nilS, .nilS])], 1⟩ hP hN (by kernel_rfl) (allCons hg10 allNil) ?_
        obtain ⟨q11, hq12, hx7⟩ := of_bind hx7
        have hq12 := of_some2 hq12
        obtain ⟨q13, hq14, hx7⟩ := of_bind hx7
        have hq14 := of_some2 hq14
        obtain ⟨q15, hq16, hx7⟩ := of_bind hx7
        have hq16 := of_some2 hq16
        obtain ⟨q17, hq18, hx7⟩ := of_bind hx7
        have hq18 := of_some2 hq18
        obtain ⟨q19, hq20, hx7⟩ := of_bind hx7
        have hq20 := of_some2 hq20
        refine (Le.cv (s := ⟨[(0, 0)], [], [], false⟩) (own := []) (ps := [s2.1 = s2.1, a0 = a0, (lenI a0) = (lenI a0), s2.2 = s2.2, q11 = (List.getD a0 (Int.toNat s2.2) (([] : List UInt8), (0 : Int), (0 : Int), ([] : List Int), ([] : List Bool))).1, q13 = ((List.getD a0 (Int.toNat s2.2) (([] : List UInt8), (0 : Int), (0 : Int), ([] : List Int), ([] : List Bool))).2).1, q15 = (((List.getD a0 (Int.toNat s2.2) (([] : List UInt8), (0 : Int), (0 : Int), ([] : List Int), ([] : List Bool))).2).2).1, q17 = ((((List.getD a0 (Int.toNat s2.2) (([] : List UInt8), (0 : Int), (0 : Int), ([] : List Int), ([] : List Bool))).2).2).2).1, q19 = ((((List.getD a0 (Int.toNat s2.2) (([] : List UInt8), (0 : Int), (0 : Int), ([] : List Int), ([] : List Bool))).2).2).2).2]) (st' := ⟨[(4, .one (.dat .str s2.1)), (6, .one (.ptr 0 0)), (12, .one (.dat (.sl (.st (.pair .str (.st (.pair (.int .i64) (.pair (.int .i64) (.pair (.sl (.int .i64)) (.sl .bool)))))))) a0)), (13, .one (.dat (.int .i64) (lenI a0))), (14, .one (.dat (.int .i64) s2.2))], [(0, .box [.dat .str q11, .dat (.int .i64) q13, .dat (.int .i64) q15, .dat (.sl (.int .i64)) q17, .dat (.sl .bool) q19])], 1⟩) hO (fun h => by cases h) (by kernel_rfl) ⟨rfl, rfl, rfl, rfl, hq12, hq14, hq16, hq18, hq20, trivial⟩).ht ?_
        obtain ⟨y21, hc22, hx7⟩ := of_bind hx7
        refine HT.reg1 [4, 7, 8, 12, 13, 14] [⟨none, .no⟩, ⟨none, .call [.imm (.st (.pair .str (.st (.pair (.int .i64) (.pair (.int .i64) (.pair (.sl (.int .i64)) (.sl .bool)))))))] [⟨false, .str, y21.1⟩, ⟨false, .bool, y21.2⟩] []⟩, ⟨none, .no⟩, ⟨none, .no⟩, ⟨none, .no⟩, ⟨none, .no⟩, ⟨none, .no⟩] ⟨[(4, .one (.dat .str s2.1)), (7, .one (.dat .str y21.1)), (8, .one (.dat .bool y21.2)), (12, .one (.dat (.sl (.st (.pair .str (.st (.pair (.int .i64) (.pair (.int .i64) (.pair (.sl (.int .i64)) (.sl .bool)))))))) a0)), (13, .one (.dat (.int .i64) (lenI a0))), (14, .one (.dat (.int .i64) s2.2))], [(0, .box [.dat .str q11, .dat (.int .i64) q13, .dat (.int .i64) q15, .dat (.sl (.int .i64)) q17, .dat (.sl .bool) q19])], 1⟩ hP hN (by kernel_rfl) (allCons (f82_ok hc22) allNil) ?_
        refine HT.seq ?_
        refine HT.reg1 [4, 7, 12, 13, 14, 24] [⟨none, .no⟩, ⟨none, .no⟩] ⟨[(4, .one (.dat .str s2.1)), (7, .one (.dat .str y21.1)), (12, .one (.dat (.sl (.st (.pair .str (.st (.pair (.int .i64) (.pair (.int .i64) (.pair (.sl (.int .i64)) (.sl .bool)))))))) a0)), (13, .one (.dat (.int .i64) (lenI a0))), (14, .one (.dat (.int .i64) s2.2)), (24, .one (.dat .bool (!y21.2)))], [(0, .box [.dat .str q11, .dat (.int .i64) q13, .dat (.int .i64) q15, .dat (.sl (.int .i64)) q17, .dat (.sl .bool) q19])], 1⟩ hP hN (by kernel_rfl) allNil ?_
        rcases of_bif hx7 with ⟨hb23, hx7⟩ | ⟨hb23, hx7⟩
        · refine HT.cond1 rfl hb23 ?_
          refine HT.reg1 [2, 3] [⟨none, .no⟩, ⟨none, .no⟩] ⟨[(2, .one (.dat .str ([] : List UInt8))), (3, .one (.dat .bool false))], [(0, .box [.dat .str q11, .dat (.int .i64) q13, .dat (.int .i64) q15, .dat (.sl (.int .i64)) q17, .dat (.sl .bool) q19])], 1⟩ hP hN (by kernel_rfl) allNil ?_
          have hx7 := of_some hx7
          subst hx7
          refine (Le.cv (s := ⟨[], [], [], false⟩) (own := []) (ps := [([] : List UInt8) = ([] : List UInt8), false = false]) (st' := ⟨[(2, .one (.dat .str ([] : List UInt8))), (3, .one (.dat .bool false))], [], 0⟩) hO (fun h => by cases h) (by kernel_rfl) ⟨rfl, rfl, trivial⟩).ht ?_
          exact HT.ret (qThenR (qBlockR (qThenR (qLoopR (hk8 (.inr ()) rfl)))))
        · refine HT.cond0 rfl hb23 ?_
          refine HT.skip (qThen ?_)
          obtain ⟨hg24, hx7⟩ := of_guard hx7
          refine HT.reg (rs := [⟨none, .no⟩, ⟨none, .no⟩, ⟨none, .no⟩, ⟨none, .no⟩]) (st' := ⟨[(4, .one (.dat .str (s2.1 ++ y21.1))), (27, .one (.dat .str (s2.1 ++ y21.1))), (26, .one (.dat .str y21.1)), (25, .one (.dat .str s2.1)), (4, .one (.dat .str s2.1)), (7, .one (.dat .str y21.1)), (12, .one (.dat (.sl (.st (.pair .str (.st (.pair (.int .i64) (.pair (.int .i64) (.pair (.sl (.int .i64)) (.sl .bool)))))))) a0)), (13, .one (.dat (.int .i64) (lenI a0))), (14, .one (.dat (.int .i64) s2.2)), (24, .one (.dat .bool (!y21.2)))], [(0, .box [.dat .str q11, .dat (.int .i64) q13, .dat (.int .i64) q15, .dat (.sl (.int .i64)) q17, .dat (.sl .bool) q19])], 1⟩) hP hN (by kernel_rfl) (allCons hg24 allNil) (qBlock (qThen ?_))
          have hx7 := of_some hx7
          subst hx7
          refine HT.reg (rs := [⟨none, .no⟩, ⟨none, .no⟩]) (st' := ⟨[(14, .one (.dat (.int .i64) (wadd .i64 s2.2 (1 : Int)))), (28, .one (.dat (.int .i64) (wadd .i64 s2.2 (1 : Int)))), (4, .one (.dat .str (s2.1 ++ y21.1))), (27, .one (.dat .str (s2.1 ++ y21.1))), (26, .one (.dat .str y21.1)), (25, .one (.dat .str s2.1)), (4, .one (.dat .str s2.1)), (7, .one (.dat .str y21.1)), (12, .one (.dat (.sl (.st (.pair .str (.st (.pair (.int .i64) (.pair (.int .i64) (.pair (.sl (.int .i64)) (.sl .bool)))))))) a0)), (13, .one (.dat (.int .i64) (lenI a0))), (14, .one (.dat (.int .i64) s2.2)), (24, .one (.dat .bool (!y21.2)))], [(0, .box [.dat .str q11, .dat (.int .i64) q13, .dat (.int .i64) q15, .dat (.sl (.int .i64)) q17, .dat (.sl .bool) q19])], 1⟩) hP hN (by kernel_rfl) allNil (qLoopN ⟨((s2.1 ++ y21.1), (wadd .i64 s2.2 (1 : Int))), rfl, Le.cv (s := ⟨[], [], [], false⟩) (own := []) (ps := [(s2.1 ++ y21.1) = (s2.1 ++ y21.1), a0 = a0, (lenI a0) = (lenI a0), (wadd .i64 s2.2 (1 : Int)) = (wadd .i64 s2.2 (1 : Int))]) (st' := ⟨[(4, .one (.dat .str (s2.1 ++ y21.1))), (12, .one (.dat (.sl (.st (.pair .str (.st (.pair (.int .i64) (.pair (.int .i64) (.pair (.sl (.int .i64)) (.sl .bool)))))))) a0)), (13, .one (.dat (.int .i64) (lenI a0))), (14, .one (.dat (.int .i64) (wadd .i64 s2.2 (1 : Int))))], [], 0⟩) hO (fun h => by cases h) (by kernel_rfl) ⟨rfl, rfl, rfl, rfl, trivial⟩⟩)
      · refine HT.cond0 rfl hb9 ?_
        have hx7 := of_some hx7
        subst hx7
        refine (Le.cv (s := ⟨[], [], [], false⟩) (own := []) (ps := [s2.1 = s2.1]) (st' := ⟨[(4, .one (.dat .str s2.1))], [], 0⟩) hO (fun h => by cases h) (by kernel_rfl) ⟨rfl, trivial⟩).ht ?_
        exact HT.exit (qThenE (qLoopE (hk8 (.inl s2.1) rfl)))

noncomputable def laws_eqInt64S_B1 (a0 : List Int) (a1 : List Int) (s2 : Int) : Option ((Int) ⊕ (Unit ⊕ Unit)) :=
  bif (decide (s2 < (lenI a0))) then
    guardP ((0 : Int) ≤ s2 ∧ s2 < lenI a0) (
      guardP ((0 : Int) ≤ s2 ∧ s2 < lenI a1) (
        bif ((List.getD a0 (Int.toNat s2) (0 : Int)) != (List.getD a1 (Int.toNat s2) (0 : Int))) then
          some (.inr (.inr ()))
        else
          some (.inl (wadd .i64 s2 (1 : Int)))))
  else
    some (.inr (.inl ()))

noncomputable def laws_eqInt64S (a0 : List Int) (a1 : List Int) : Option (Bool) :=
  bif ((lenI a0) != (lenI a1)) then
    some false
  else
    (rounds (laws_eqInt64S_B1 a0 a1) (0 : Int)).bind fun r3 => match r3 with
      | .inl r4 =>
        some true
      | .inr r5 =>
        some false

theorem f31_ok {a0 : List Int} {a1 : List Int} {r : Bool} (hr : laws_eqInt64S a0 a1 = some r) : CallOK Try.prog 31 [.imm (.sl (.int .i64)) a0, .imm (.sl (.int .i64)) a1] [⟨false, .bool, r⟩] [] := by
  unfold laws_eqInt64S at hr
  refine CallOK.of_body (ts := [(false, .bool)]) Try.func31 rfl (by kernel_rfl) (Nat.le_of_ble_eq_true (by kernel_rfl)) fun cx hP hN hO hF => ?_
  have hO : cx.own.map Prod.fst = [] := hO
  have hF := hF rfl
  show HT cx ⟨[(0, .one (.dat (.sl (.int .i64)) a0)), (1, .one (.dat (.sl (.int .i64)) a1))], [], 0⟩ _ _
  refine HT.reg1 [0, 1] [⟨none, .no⟩] ⟨[(0, .one (.dat (.sl (.int .i64)) a0)), (1, .one (.dat (.sl (.int .i64)) a1))], [], 0⟩ hP hN (by kernel_rfl) allNil ?_
  refine HT.seq ?_
  refine HT.reg1 [0, 1, 10] [⟨none, .no⟩, ⟨none, .no⟩, ⟨none, .no⟩, ⟨none, .no⟩, ⟨none, .no⟩] ⟨[(0, .one (.dat (.sl (.int .i64)) a0)), (1, .one (.dat (.sl (.int .i64)) a1)), (10, .one (.dat .bool ((lenI a0) != (lenI a1))))], [], 0⟩ hP hN (by kernel_rfl) allNil ?_
  rcases of_bif hr with ⟨hb1, hr⟩ | ⟨hb1, hr⟩
  · refine HT.cond1 rfl hb1 ?_
    refine HT.reg1 [4] [⟨none, .no⟩] ⟨[(4, .one (.dat .bool false))], [], 0⟩ hP hN (by kernel_rfl) allNil ?_
    have hr := of_some hr
    subst hr
    exact HT.ret (qThenR ⟨[.one (.dat .bool false)], [], [], by kernel_rfl, by kernel_rfl, rfl, by kernel_rfl, by kernel_rfl, trivial⟩)
  · refine HT.cond0 rfl hb1 ?_
    refine HT.skip (qThen ?_)
    refine HT.seq ?_
    refine HT.reg1 [0, 1, 5] [⟨none, .no⟩] ⟨[(0, .one (.dat (.sl (.int .i64)) a0)), (1, .one (.dat (.sl (.int .i64)) a1)), (5, .one (.dat (.int .i64) (0 : Int)))], [], 0⟩ hP hN (by kernel_rfl) allNil ?_
    refine HT.block ?_
    obtain ⟨r3, hL13, hr⟩ := of_bind hr
    refine (Le.cv (s := ⟨[], [], [], false⟩) (own := []) (ps := [a0 = a0, a1 = a1, (0 : Int) = (0 : Int)]) (st' := ⟨[(0, .one (.dat (.sl (.int .i64)) a0)), (1, .one (.dat (.sl (.int .i64)) a1)), (5, .one (.dat (.int .i64) (0 : Int)))], [], 0⟩) hO (fun h => by cases h) (by kernel_rfl) ⟨rfl, rfl, rfl, trivial⟩).ht ?_
    refine HT.loopE (s := (0 : Int)) (fun (s2 : Int) => ⟨[(0, .one (.dat (.sl (.int .i64)) a0)), (1, .one (.dat (.sl (.int .i64)) a1)), (5, .one (.dat (.int .i64) s2))], [], 0⟩) (fun (r3 : Unit ⊕ Unit) => match r3 with | .inl r4 => (.exit 0, ⟨[], [], 0⟩) | .inr r5 => (.ret, ⟨[(4, .one (.dat .bool false))], [], 0⟩)) hL13 ?_ (fun s2 x6 hx7 hk8 => ?_)
    · rcases r3 with r4 | r5
      · refine (qBlockX (qThen ?_))
        refine HT.reg1 [4] [⟨none, .no⟩] ⟨[(4, .one (.dat .bool true))], [], 0⟩ hP hN (by kernel_rfl) allNil ?_
        have hr := of_some hr
        subst hr
        exact HT.ret ⟨[.one (.dat .bool true)], [], [], by kernel_rfl, by kernel_rfl, rfl, by kernel_rfl, by kernel_rfl, trivial⟩
      · have hr := of_some hr
        subst hr
        exact (qBlockR (qThenR ⟨[.one (.dat .bool false)], [], [], by kernel_rfl, by kernel_rfl, rfl, by kernel_rfl, by kernel_rfl, trivial⟩))
    · refine HT.seq ?_
      refine HT.reg1 [0, 1, 5, 14] [⟨none, .no⟩, ⟨none, .no⟩, ⟨none, .no⟩, ⟨none, .no⟩] ⟨[(0, .one (.dat (.sl (.int .i64)) a0)), (1, .one (.dat (.sl (.int .i64)) a1)), (5, .one (.dat (.int .i64) s2)), (14, .one (.dat .bool (decide (s2 < (lenI a0)))))], [], 0⟩ hP hN (by kernel_rfl) allNil ?_
      rcases of_bif hx7 with ⟨hb9, hx7⟩ | ⟨hb9, hx7⟩
      · refine HT.cond1 rfl hb9 ?_
        refine HT.skip (qThen ?_)
        refine HT.seq ?_
        refine HT.block ?_
        obtain ⟨hg10, hx7⟩ := of_guard hx7
        obtain ⟨hg11, hx7⟩ := of_guard hx7
        refine HT.drw1 [0, 1, 5, 25] 8 [⟨⟨none, .no⟩, []⟩, ⟨⟨none, .no⟩, []⟩, ⟨⟨none, .no⟩, [0, 1]⟩, ⟨⟨none, .no⟩, [0, 1, 2]⟩, ⟨⟨none, .no⟩, []⟩, ⟨⟨none, .no⟩, []⟩, ⟨⟨none, .no⟩, [4, 5]⟩, ⟨⟨none, .no⟩, [4, 5, 6]⟩] [[0, 1, 2, 3, 4, 5, 6, 7]] [⟨none, .no⟩] ⟨[(0, .one (.dat (.sl (.int .i64)) a0)), (1, .one (.dat (.sl (.int .i64)) a1)), (5, .one (.dat (.int .i64) s2)), (25, .one (.dat .bool ((List.getD a0 (Int.toNat s2) (0 : Int)) != (List.getD a1 (Int.toNat s2) (0 : Int)))))], [], 0⟩ hP hN (by kernel_rfl) (by kernel_rfl) (allCons hg10 (allCons hg11 allNil)) ?_
        rcases of_bif hx7 with ⟨hb12, hx7⟩ | ⟨hb12, hx7⟩
        · refine HT.cond1 rfl hb12 ?_
          refine HT.reg1 [4] [⟨none, .no⟩] ⟨[(4, .one (.dat .bool false))], [], 0⟩ hP hN (by kernel_rfl) allNil ?_
          have hx7 := of_some hx7
          subst hx7
          refine (Le.cv (s := ⟨[], [], [], false⟩) (own := []) (ps := [false = false]) (st' := ⟨[(4, .one (.dat .bool false))], [], 0⟩) hO (fun h => by cases h) (by kernel_rfl) ⟨rfl, trivial⟩).ht ?_
          exact HT.ret (qBlockR (qThenR (qLoopR (hk8 (.inr ()) rfl))))
        · refine HT.cond0 rfl hb12 ?_
          refine HT.skip (qBlock (qThen ?_))
          have hx7 := of_some hx7
          subst hx7
          refine HT.reg (rs := [⟨none, .no⟩, ⟨none, .no⟩, ⟨none, .no⟩]) (st' := ⟨[(5, .one (.dat (.int .i64) (wadd .i64 s2 (1 : Int)))), (16, .one (.dat (.int .i64) (wadd .i64 s2 (1 : Int)))), (15, .one (.dat (.int .i64) s2)), (0, .one (.dat (.sl (.int .i64)) a0)), (1, .one (.dat (.sl (.int .i64)) a1)), (5, .one (.dat (.int .i64) s2)), (25, .one (.dat .bool ((List.getD a0 (Int.toNat s2) (0 : Int)) != (List.getD a1 (Int.toNat s2) (0 : Int)))))], [], 0⟩) hP hN (by kernel_rfl) allNil (qLoopN ⟨(wadd .i64 s2 (1 : Int)), rfl, Le.cv (s := ⟨[], [], [], false⟩) (own := []) (ps := [a0 = a0, a1 = a1, (wadd .i64 s2 (1 : Int)) = (wadd .i64 s2 (1 : Int))]) (st' := ⟨[(0, .one (.dat (.sl (.int .i64)) a0)), (1, .one (.dat (.sl (.int .i64)) a1)), (5, .one (.dat (.int .i64) (wadd .i64 s2 (1 : Int))))], [], 0⟩) hO (fun h => by cases h) (by kernel_rfl) ⟨rfl, rfl, rfl, trivial⟩⟩)
      · refine HT.cond0 rfl hb9 ?_
        have hx7 := of_some hx7
        subst hx7
        refine (Le.cv (s := ⟨[], [], [], false⟩) (own := []) (ps := []) (st' := ⟨[], [], 0⟩) hO (fun h => by cases h) (by kernel_rfl) trivial).ht ?_
        exact HT.exit (qThenE (qLoopE (hk8 (.inl ()) rfl)))

noncomputable def laws_eqBoolS_B1 (a0 : List Bool) (a1 : List Bool) (s2 : Int) : Option ((Int) ⊕ (Unit ⊕ Unit)) :=
  bif (decide (s2 < (lenI a0))) then
    guardP ((0 : Int) ≤ s2 ∧ s2 < lenI a0) (
      guardP ((0 : Int) ≤ s2 ∧ s2 < lenI a1) (
        bif ((List.getD a0 (Int.toNat s2) false) != (List.getD a1 (Int.toNat s2) false)) then
          some (.inr (.inr ()))
        else
          some (.inl (wadd .i64 s2 (1 : Int)))))
  else
    some (.inr (.inl ()))

noncomputable def laws_eqBoolS (a0 : List Bool) (a1 : List Bool) : Option (Bool) :=
  bif ((lenI a0) != (lenI a1)) then
    some false
  else
    (rounds (laws_eqBoolS_B1 a0 a1) (0 : Int)).bind fun r3 => match r3 with
      | .inl r4 =>
        some true
      | .inr r5 =>
        some false

theorem f155_ok {a0 : List Bool} {a1 : List Bool} {r : Bool} (hr : laws_eqBoolS a0 a1 = some r) : CallOK Try.prog 155 [.imm (.sl .bool) a0, .imm (.sl .bool) a1] [⟨false, .bool, r⟩] [] := by
  unfold laws_eqBoolS at hr
  refine CallOK.of_body (ts := [(false, .bool)]) Try.func155 rfl (by kernel_rfl) (Nat.le_of_ble_eq_true (by kernel_rfl)) fun cx hP hN hO hF => ?_
  have hO : cx.own.map Prod.fst = [] := hO
  have hF := hF rfl
  show HT cx ⟨[(0, .one (.dat (.sl .bool) a0)), (1, .one (.dat (.sl .bool) a1))], [], 0⟩ _ _
  refine HT.reg1 [0, 1] [⟨none, .no⟩] ⟨[(0, .one (.dat (.sl .bool) a0)), (1, .one (.dat (.sl .bool) a1))], [], 0⟩ hP hN (by kernel_rfl) allNil ?_
  refine HT.seq ?_
  refine HT.reg1 [0, 1, 10] [⟨none, .no⟩, ⟨none, .no⟩, ⟨none, .no⟩, ⟨none, .no⟩, ⟨none, .no⟩] ⟨[(0, .one (.dat (.sl .bool) a0)), (1, .one (.dat (.sl .bool) a1)), (10, .one (.dat .bool ((lenI a0) != (lenI a1))))], [], 0⟩ hP hN (by kernel_rfl) allNil ?_
  rcases of_bif hr with ⟨hb1, hr⟩ | ⟨hb1, hr⟩
  · refine HT.cond1 rfl hb1 ?_
    refine HT.reg1 [4] [⟨none, .no⟩] ⟨[(4, .one (.dat .bool false))], [], 0⟩ hP hN (by kernel_rfl) allNil ?_
    have hr := of_some hr
    subst hr
    exact HT.ret (qThenR ⟨[.one (.dat .bool false)], [], [], by kernel_rfl, by kernel_rfl, rfl, by kernel_rfl, by kernel_rfl, trivial⟩)
  · refine HT.cond0 rfl hb1 ?_
    refine HT.skip (qThen ?_)
    refine HT.seq ?_
    refine HT.reg1 [0, 1, 5] [⟨none, .no⟩] ⟨[(0, .one (.dat (.sl .bool) a0)), (1, .one (.dat (.sl .bool) a1)), (5, .one (.dat (.int .i64) (0 : Int)))], [], 0⟩ hP hN (by kernel_rfl) allNil ?_
    refine HT.block ?_
    obtain ⟨r3, hL13, hr⟩ := of_bind hr
    refine (Le.cv (s := ⟨[], [], [], false⟩) (own := []) (ps := [a0 = a0, a1 = a1, (0 : Int) = (0 : Int)]) (st' := ⟨[(0, .one (.dat (.sl .bool) a0)), (1, .one (.dat (.sl .bool) a1)), (5, .one (.dat (.int .i64) (0 : Int)))], [], 0⟩) hO (fun h => by cases h) (by kernel_rfl) ⟨rfl, rfl, rfl, trivial⟩).ht ?_
    refine HT.loopE (s := (0 : Int)) (fun (s2 : Int) => ⟨[(0, .one (.dat (.sl .bool) a0)), (1, .one (.dat (.sl .bool) a1)), (5, .one (.dat (.int .i64) s2))], [], 0⟩) (fun (r3 : Unit ⊕ Unit) => match r3 with | .inl r4 => (.exit 0, ⟨[], [], 0⟩) | .inr r5 => (.ret, ⟨[(4, .one (.dat .bool false))], [], 0⟩)) hL13 ?_ (fun s2 x6 hx7 hk8 => ?_)
    · rcases r3 with r4 | r5
      · refine (qBlockX (qThen ?_))
        refine HT.reg1 [4] [⟨none, .no⟩] ⟨[(4, .one (.dat .bool true))], [], 0⟩ hP hN (by kernel_rfl) allNil ?_
        have hr := of_some hr
        subst hr
        exact HT.ret ⟨[.one (.dat .bool true)], [], [], by kernel_rfl, by kernel_rfl, rfl, by kernel_rfl, by kernel_rfl, trivial⟩
      · have hr := of_some hr
        subst hr
        exact (qBlockR (qThenR ⟨[.one (.dat .bool false)], [], [], by kernel_rfl, by kernel_rfl, rfl, by kernel_rfl, by kernel_rfl, trivial⟩))
    · refine HT.seq ?_
      refine HT.reg1 [0, 1, 5, 14] [⟨none, .no⟩, ⟨none, .no⟩, ⟨none, .no⟩, ⟨none, .no⟩] ⟨[(0, .one (.dat (.sl .bool) a0)), (1, .one (.dat (.sl .bool) a1)), (5, .one (.dat (.int .i64) s2)), (14, .one (.dat .bool (decide (s2 < (lenI a0)))))], [], 0⟩ hP hN (by kernel_rfl) allNil ?_
      rcases of_bif hx7 with ⟨hb9, hx7⟩ | ⟨hb9, hx7⟩
      · refine HT.cond1 rfl hb9 ?_
        refine HT.skip (qThen ?_)
        refine HT.seq ?_
        refine HT.block ?_
        obtain ⟨hg10, hx7⟩ := of_guard hx7
        obtain ⟨hg11, hx7⟩ := of_guard hx7
        refine HT.drw1 [0, 1, 5, 25] 8 [⟨⟨none, .no⟩, []⟩, ⟨⟨none, .no⟩, []⟩, ⟨⟨none, .no⟩, [0, 1]⟩, ⟨⟨none, .no⟩, [0, 1, 2]⟩, ⟨⟨none, .no⟩, []⟩, ⟨⟨none, .no⟩, []⟩, ⟨⟨none, .no⟩, [4, 5]⟩, ⟨⟨none, .no⟩, [4, 5, 6]⟩] [[0, 1, 2, 3, 4, 5, 6, 7]] [⟨none, .no⟩] ⟨[(0, .one (.dat (.sl .bool) a0)), (1, .one (.dat (.sl .bool) a1)), (5, .one (.dat (.int .i64) s2)), (25, .one (.dat .bool ((List.getD a0 (Int.toNat s2) false) != (List.getD a1 (Int.toNat s2) false))))], [], 0⟩ hP hN (by kernel_rfl) (by kernel_rfl) (allCons hg10 (allCons hg11 allNil)) ?_
        rcases of_bif hx7 with ⟨hb12, hx7⟩ | ⟨hb12, hx7⟩
        · refine HT.cond1 rfl hb12 ?_
          refine HT.reg1 [4] [⟨none, .no⟩] ⟨[(4, .one (.dat .bool false))], [], 0⟩ hP hN (by kernel_rfl) allNil ?_
          have hx7 := of_some hx7
          subst hx7
          refine (Le.cv (s := ⟨[], [], [], false⟩) (own := []) (ps := [false = false]) (st' := ⟨[(4, .one (.dat .bool false))], [], 0⟩) hO (fun h => by cases h) (by kernel_rfl) ⟨rfl, trivial⟩).ht ?_
          exact HT.ret (qBlockR (qThenR (qLoopR (hk8 (.inr ()) rfl))))
        · refine HT.cond0 rfl hb12 ?_
          refine HT.skip (qBlock (qThen ?_))
          have hx7 := of_some hx7
          subst hx7
          refine HT.reg (rs := [⟨none, .no⟩, ⟨none, .no⟩, ⟨none, .no⟩]) (st' := ⟨[(5, .one (.dat (.int .i64) (wadd .i64 s2 (1 : Int)))), (16, .one (.dat (.int .i64) (wadd .i64 s2 (1 : Int)))), (15, .one (.dat (.int .i64) s2)), (0, .one (.dat (.sl .bool) a0)), (1, .one (.dat (.sl .bool) a1)), (5, .one (.dat (.int .i64) s2)), (25, .one (.dat .bool ((List.getD a0 (Int.toNat s2) false) != (List.getD a1 (Int.toNat s2) false))))], [], 0⟩) hP hN (by kernel_rfl) allNil (qLoopN ⟨(wadd .i64 s2 (1 : Int)), rfl, Le.cv (s := ⟨[], [], [], false⟩) (own := []) (ps := [a0 = a0, a1 = a1, (wadd .i64 s2 (1 : Int)) = (wadd .i64 s2 (1 : Int))]) (st' := ⟨[(0, .one (.dat (.sl .bool) a0)), (1, .one (.dat (.sl .bool) a1)), (5, .one (.dat (.int .i64) (wadd .i64 s2 (1 : Int))))], [], 0⟩) hO (fun h => by cases h) (by kernel_rfl) ⟨rfl, rfl, rfl, trivial⟩⟩)
      · refine HT.cond0 rfl hb9 ?_
        have hx7 := of_some hx7
        subst hx7
        refine (Le.cv (s := ⟨[], [], [], false⟩) (own := []) (ps := []) (st' := ⟨[], [], 0⟩) hO (fun h => by cases h) (by kernel_rfl) trivial).ht ?_
        exact HT.exit (qThenE (qLoopE (hk8 (.inl ()) rfl)))

noncomputable def laws_eqPlain (a0 : Int × Int × List Int × List Bool) (a1 : Int × Int × List Int × List Bool) : Option (Bool) :=
  bif (a0.1 != a1.1) then
    some false
  else
    bif (a0.2.1 != a1.2.1) then
      some false
    else
      (laws_eqInt64S a0.2.2.1 a1.2.2.1).bind fun y3 =>
      bif (!y3) then
        some false
      else
        (laws_eqBoolS a0.2.2.2 a1.2.2.2).bind fun y6 =>
        bif (!y6) then
          some false
        else
          some true

theorem f123_ok {a0 : Int × Int × List Int × List Bool} {a1 : Int × Int × List Int × List Bool} {r : Bool} (hr : laws_eqPlain a0 a1 = some r) : CallOK Try.prog 123 [.imm (.st (.pair (.int .i64) (.pair (.int .i64) (.pair (.sl (.int .i64)) (.sl .bool))))) a0, .imm (.st (.pair (.int .i64) (.pair (.int .i64) (.pair (.sl (.int .i64)) (.sl .bool))))) a1] [⟨false, .bool, r⟩] [] := by
  unfold laws_eqPlain at hr
  refine CallOK.of_body (ts := [(false, .bool)]) Try.func123 rfl (by kernel_rfl) (Nat.le_of_ble_eq_true (by kernel_rfl)) fun cx hP hN hO hF => ?_
  have hO : cx.own.map Prod.fst = [] := hO
  have hF := hF rfl
  show HT cx ⟨[(0, .agg [.dat (.int .i64) a0.1, .dat (.int .i64) a0.2.1, .dat (.sl (.int .i64)) a0.2.2.1, .dat (.sl .bool) a0.2.2.2]), (1, .agg [.dat (.int .i64) a1.1, .dat (.int .i64) a1.2.1, .dat (.sl (.int .i64)) a1.2.2.1, .dat (.sl .bool) a1.2.2.2])], [], 0⟩ _ _
  refine HT.reg1 [2, 3] [⟨none, .no⟩, ⟨none, .no⟩, ⟨none, .no⟩] ⟨[(2, .one (.ptr 0 0)), (3, .one (.ptr 1 0))], [(1, .box [.dat (.int .i64) a1.1, .dat (.int .i64) a1.2.1, .dat (.sl (.int .i64)) a1.2.2.1, .dat (.sl .bool) a1.2.2.2]), (0, .box [.dat (.int .i64) a0.1, .dat (.int .i64) a0.2.1, .dat (.sl (.int .i64)) a0.2.2.1, .dat (.sl .bool) a0.2.2.2])], 2⟩ hP hN (by kernel_rfl) allNil ?_
  refine HT.seq ?_
  refine HT.reg1 [2, 3, 9] [⟨none, .no⟩, ⟨none, .no⟩, ⟨none, .no⟩, ⟨none, .no⟩, ⟨none, .no⟩] ⟨[(2, .one (.ptr 0 0)), (3, .one (.ptr 1 0)), (9, .one (.dat .bool (a0.1 != a1.1)))], [(1, .box [.dat (.int .i64) a1.1, .dat (.int .i64) a1.2.1, .dat (.sl (.int .i64)) a1.2.2.1, .dat (.sl .bool) a1.2.2.2]), (0, .box [.dat (.int .i64) a0.1, .dat (.int .i64) a0.2.1, .dat (.sl (.int .i64)) a0.2.2.1, .dat (.sl .bool) a0.2.2.2])], 2⟩ hP hN (by kernel_rfl) allNil ?_
  rcases of_bif hr with ⟨hb1, hr⟩ | ⟨hb1, hr⟩
  · refine HT.cond1 rfl hb1 ?_
    refine HT.reg1 [4] [⟨none, .no⟩] ⟨[(4, .one (.dat .bool false))], [(1, .box [.dat (.int .i64) a1.1, .dat (.int .i64) a1.2.1, .dat (.sl (.int .i64)) a1.2.2.1, .dat (.sl .bool) a1.2.2.2]), (0, .box [.dat (.int .i64) a0.1, .dat (.int .i64) a0.2.1, .dat (.sl (.int .i64)) a0.2.2.1, .dat (.sl .bool) a0.2.2.2])], 2⟩ hP hN (by kernel_rfl) allNil ?_
    have hr := of_some hr
    subst hr
    exact HT.ret (qThenR ⟨[.one (.dat .bool false)], [], [], by kernel_rfl, by kernel_rfl, rfl, by kernel_rfl, by kernel_rfl, trivial⟩)
  · refine HT.cond0 rfl hb1 ?_
    refine HT.skip (qThen ?_)
    refine HT.seq ?_
    refine HT.reg1 [2, 3, 14] [⟨none, .no⟩, ⟨none, .no⟩, ⟨none, .no⟩, ⟨none, .no⟩, ⟨none, .no⟩] ⟨[(2, .one (.ptr 0 0)), (3, .one (.ptr 1 0)), (14, .one (.dat .bool (a0.2.1 != a1.2.1)))], [(1, .box [.dat (.int .i64) a1.1, .dat (.int .i64) a1.2.1, .dat (.sl (.int .i64)) a1.2.2.1, .dat (.sl .bool) a1.2.2.2]), (0, .box [.dat (.int .i64) a0.1, .dat (.int .i64) a0.2.1, .dat (.sl (.int .i64)) a0.2.2.1, .dat (.sl .bool) a0.2.2.2])], 2⟩ hP hN (by kernel_rfl) allNil ?_
    rcases of_bif hr with ⟨hb2, hr⟩ | ⟨hb2, hr⟩
    · refine HT.cond1 rfl hb2 ?_
      refine HT.reg1 [4] [⟨none, .no⟩] ⟨[(4, .one (.dat .bool false))], [(1, .box [.dat (.int .i64) a1.1, .dat (.int .i64) a1.2.1, .dat (.sl (.int .i64)) a1.2.2.1, .dat (.sl .bool) a1.2.2.2]), (0, .box [.dat (.int .i64) a0.1, .dat (.int .i64) a0.2.1, .dat (.sl (.int .i64)) a0.2.2.1, .dat (.sl .bool) a0.2.2.2])], 2⟩ hP hN (by kernel_rfl) allNil ?_
      have hr := of_some hr
      subst hr
      exact HT.ret (qThenR ⟨[.one (.dat .bool false)], [], [], by kernel_rfl, by kernel_rfl, rfl, by kernel_rfl, by kernel_rfl, trivial⟩)
    · refine HT.cond0 rfl hb2 ?_
      refine HT.skip (qThen ?_)
      refine HT.seq ?_
      obtain ⟨y3, hc4, hr⟩ := of_bind hr
      refine HT.reg1 [2, 3, 20] [⟨none, .no⟩, ⟨none, .no⟩, ⟨none, .no⟩, ⟨none, .no⟩, ⟨none, .call [.imm (.sl (.int .i64)), .imm (.sl (.int .i64))] [⟨false, .bool, y3⟩] []⟩, ⟨none, .no⟩] ⟨[(2, .one (.ptr 0 0)), (3, .one (.ptr 1 0)), (20, .one (.dat .bool (!y3)))], [(1, .box [.dat (.int .i64) a1.1, .dat (.int .i64) a1.2.1, .dat (.sl (.int .i64)) a1.2.2.1, .dat (.sl .bool) a1.2.2.2]), (0, .box [.dat (.int .i64) a0.1, .dat (.int .i64) a0.2.1, .dat (.sl (.int .i64)) a0.2.2.1, .dat (.sl .bool) a0.2.2.2])], 2⟩ hP hN (by kernel_rfl) (allCons (f31_ok hc4) allNil) ?_
      rcases of_bif hr with ⟨hb5, hr⟩ | ⟨hb5, hr⟩
      · refine HT.cond1 rfl hb5 ?_
        refine HT.reg1 [4] [⟨none, .no⟩] ⟨[(4, .one (.dat .bool false))], [(1, .box [.dat (.int .i64) a1.1, .dat (.int .i64) a1.2.1, .dat (.sl (.int .i64)) a1.2.2.1, .dat (.sl .bool) a1.2.2.2]), (0, .box [.dat (.int .i64) a0.1, .dat (.int .i64) a0.2.1, .dat (.sl (.int .i64)) a0.2.2.1, .dat (.sl .bool) a0.2.2.2])], 2⟩ hP hN (by kernel_rfl) allNil ?_
        have hr := of_some hr
        subst hr
        exact HT.ret (qThenR ⟨[.one (.dat .bool false)], [], [], by kernel_rfl, by kernel_rfl, rfl, by kernel_rfl, by kernel_rfl, trivial⟩)
      · refine HT.cond0 rfl hb5 ?_
        refine HT.skip (qThen ?_)
        refine HT.seq ?_
        obtain ⟨y6, hc7, hr⟩ := of_bind hr
        refine HT.reg1 [26] [⟨none, .no⟩, ⟨none, .no⟩, ⟨none, .no⟩, ⟨none, .no⟩, ⟨none, .call [.imm (.sl .bool), .imm (.sl .bool)] [⟨false, .bool, y6⟩] []⟩, ⟨none, .no⟩] ⟨[(26, .one (.dat .bool (!y6)))], [(1, .box [.dat (.int .i64) a1.1, .dat (.int .i64) a1.2.1, .dat (.sl (.int .i64)) a1.2.2.1, .dat (.sl .bool) a1.2.2.2]), (0, .box [.dat (.int .i64) a0.1, .dat (.int .i64) a0.2.1, .dat (.sl (.int .i64)) a0.2.2.1, .dat (.sl .bool) a0.2.2.2])], 2⟩ hP hN (by kernel_rfl) (allCons (f155_ok hc7) allNil) ?_
        rcases of_bif hr with ⟨hb8, hr⟩ | ⟨hb8, hr⟩
        · refine HT.cond1 rfl hb8 ?_
          refine HT.reg1 [4] [⟨none, .no⟩] ⟨[(4, .one (.dat .bool false))], [(1, .box [.dat (.int .i64) a1.1, .dat (.int .i64) a1.2.1, .dat (.sl (.int .i64)) a1.2.2.1, .dat (.sl .bool) a1.2.2.2]), (0, .box [.dat (.int .i64) a0.1, .dat (.int .i64) a0.2.1, .dat (.sl (.int .i64)) a0.2.2.1, .dat (.sl .bool) a0.2.2.2])], 2⟩ hP hN (by kernel_rfl) allNil ?_
          have hr := of_some hr
          subst hr
          exact HT.ret (qThenR ⟨[.one (.dat .bool false)], [], [], by kernel_rfl, by kernel_rfl, rfl, by kernel_rfl, by kernel_rfl, trivial⟩)
        · refine HT.cond0 rfl hb8 ?_
          refine HT.skip (qThen ?_)
          refine HT.reg1 [4] [⟨none, .no⟩] ⟨[(4, .one (.dat .bool true))], [(1, .box [.dat (.int .i64) a1.1, .dat (.int .i64) a1.2.1, .dat (.sl (.int .i64)) a1.2.2.1, .dat (.sl .bool) a1.2.2.2]), (0, .box [.dat (.int .i64) a0.1, .dat (.int .i64) a0.2.1, .dat (.sl (.int .i64)) a0.2.2.1, .dat (.sl .bool) a0.2.2.2])], 2⟩ hP hN (by kernel_rfl) allNil ?_
          have hr := of_some hr
          subst hr
          exact HT.ret ⟨[.one (.dat .bool true)], [], [], by kernel_rfl, by kernel_rfl, rfl, by kernel_rfl, by kernel_rfl, trivial⟩

noncomputable def laws_eqKept (a0 : List UInt8 × Int × Int × List Int × List Bool) (a1 : List UInt8 × Int × Int × List Int × List Bool) : Option (Bool) :=
  bif (a0.1 != a1.1) then
    some false
  else
    (laws_eqPlain (a0.2.1, a0.2.2.1, a0.2.2.2.1, a0.2.2.2.2) (a1.2.1, a1.2.2.1, a1.2.2.2.1, a1.2.2.2.2)).bind fun y2 =>
    bif (!y2) then
      some false
    else
      some true

theorem f73_ok {a0 : List UInt8 × Int × Int × List Int × List Bool} {a1 : List UInt8 × Int × Int × List Int × List Bool} {r : Bool} (hr : laws_eqKept a0 a1 = some r) : CallOK Try.prog 73 [.imm (.st (.pair .str (.st (.pair (.int .i64) (.pair (.int .i64) (.pair (.sl (.int .i64)) (.sl .bool))))))) a0, .imm (.st (.pair .str (.st (.pair (.int .i64) (.pair (.int .i64) (.pair (.sl (.int .i64)) (.sl .bool))))))) a1] [⟨false, .bool, r⟩] [] := by
  unfold laws_eqKept at hr
  refine CallOK.of_body (ts := [(false, .bool)]) Try.func73 rfl (by kernel_rfl) (Nat.le_of_ble_eq_true (by kernel_rfl)) fun cx hP hN hO hF => ?_
  have hO : cx.own.map Prod.fst = [] := hO
  have hF := hF rfl
  show HT cx ⟨[(0, .agg [.dat .str a0.1, .dat (.int .i64) a0.2.1, .dat (.int .i64) a0.2.2.1, .dat (.sl (.int .i64)) a0.2.2.2.1, .dat (.sl .bool) a0.2.2.2.2]), (1, .agg [.dat .str a1.1, .dat (.int .i64) a1.2.1, .dat (.int .i64) a1.2.2.1, .dat (.sl (.int .i64)) a1.2.2.2.1, .dat (.sl .bool) a1.2.2.2.2])], [], 0⟩ _ _
  refine HT.reg1 [2, 3] [⟨none, .no⟩, ⟨none, .no⟩, ⟨none, .no⟩] ⟨[(2, .one (.ptr 0 0)), (3, .one (.ptr 1 0))], [(1, .box [.dat .str a1.1, .dat (.int .i64) a1.2.1, .dat (.int .i64) a1.2.2.1, .dat (.sl (.int .i64)) a1.2.2.2.1, .dat (.sl .bool) a1.2.2.2.2]), (0, .box [.dat .str a0.1, .dat (.int .i64) a0.2.1, .dat (.int .i64) a0.2.2.1, .dat (.sl (.int .i64)) a0.2.2.2.1, .dat (.sl .bool) a0.2.2.2.2])], 2⟩ hP hN (by kernel_rfl) allNil ?_
  refine HT.seq ?_
  refine HT.reg1 [2, 3, 9] [⟨none, .no⟩, ⟨none, .no⟩, ⟨none, .no⟩, ⟨none, .no⟩, ⟨none, .no⟩] ⟨[(2, .one (.ptr 0 0)), (3, .one (.ptr 1 0)), (9, .one (.dat .bool (a0.1 != a1.1)))], [(1, .box [.dat .str a1.1, .dat (.int .i64) a1.2.1, .dat (.int .i64) a1.2.2.1, .dat (.sl (.int .i64)) a1.2.2.2.1, .dat (.sl .bool) a1.2.2.2.2]), (0, .box [.dat .str a0.1, .dat (.int .i64) a0.2.1, .dat (.int .i64) a0.2.2.1, .dat (.sl (.int .i64)) a0.2.2.2.1, .dat (.sl .bool) a0.2.2.2.2])], 2⟩ hP hN (by kernel_rfl) allNil ?_
  rcases of_bif hr with ⟨hb1, hr⟩ | ⟨hb1, hr⟩
  · refine HT.cond1 rfl hb1 ?_
    refine HT.reg1 [4] [⟨none, .no⟩] ⟨[(4, .one (.dat .bool false))], [(1, .box [.dat .str a1.1, .dat (.int .i64) a1.2.1, .dat (.int .i64) a1.2.2.1, .dat (.sl (.int .i64)) a1.2.2.2.1, .dat (.sl .bool) a1.2.2.2.2]), (0, .box [.dat .str a0.1, .dat (.int .i64) a0.2.1, .dat (.int .i64) a0.2.2.1, .dat (.sl (.int .i64)) a0.2.2.2.1, .dat (.sl .bool) a0.2.2.2.2])], 2⟩ hP hN (by kernel_rfl) allNil ?_
    have hr := of_some hr
    subst hr
    exact HT.ret (qThenR ⟨[.one (.dat .bool false)], [], [], by kernel_rfl, by kernel_rfl, rfl, by kernel_rfl, by kernel_rfl, trivial⟩)
  · refine HT.cond0 rfl hb1 ?_
    refine HT.skip (qThen ?_)
    refine HT.seq ?_
    obtain ⟨y2, hc3, hr⟩ := of_bind hr
    refine HT.reg1 [15] [⟨none, .no⟩, ⟨none, .no⟩, ⟨none, .no⟩, ⟨none, .no⟩, ⟨none, .call [.imm (.st (.pair (.int .i64) (.pair (.int .i64) (.pair (.sl (.int .i64)) (.sl .bool))))), .imm (.st (.pair (.int .i64) (.pair (.int .i64) (.pair (.sl (.int .i64)) (.sl .bool)))))] [⟨false, .bool, y2⟩] []⟩, ⟨none, .no⟩] ⟨[(15, .one (.dat .bool (!y2)))], [(1, .box [.dat .str a1.1, .dat (.int .i64) a1.2.1, .dat (.int .i64) a1.2.2.1, .dat (.sl (.int .i64)) a1.2.2.2.1, .dat (.sl .bool) a1.2.2.2.2]), (0, .box [.dat .str a0.1, .dat (.int .i64) a0.2.1, .dat (.int .i64) a0.2.2.1, .dat (.sl (.int .i64)) a0.2.2.2.1, .dat (.sl .bool) a0.2.2.2.2])], 2⟩ hP hN (by kernel_rfl) (allCons (f123_ok hc3) allNil) ?_
    rcases of_bif hr with ⟨hb4, hr⟩ | ⟨hb4, hr⟩
    · refine HT.cond1 rfl hb4 ?_
      refine HT.reg1 [4] [⟨none, .no⟩] ⟨[(4, .one (.dat .bool false))], [(1, .box [.dat .str a1.1, .dat (.int .i64) a1.2.1, .dat (.int .i64) a1.2.2.1, .dat (.sl (.int .i64)) a1.2.2.2.1, .dat (.sl .bool) a1.2.2.2.2]), (0, .box [.dat .str a0.1, .dat (.int .i64) a0.2.1, .dat (.int .i64) a0.2.2.1, .dat (.sl (.int .i64)) a0.2.2.2.1, .dat (.sl .bool) a0.2.2.2.2])], 2⟩ hP hN (by kernel_rfl) allNil ?_
      have hr := of_some hr
      subst hr
      exact HT.ret (qThenR ⟨[.one (.dat .bool false)], [], [], by kernel_rfl, by kernel_rfl, rfl, by kernel_rfl, by kernel_rfl, trivial⟩)
    · refine HT.cond0 rfl hb4 ?_
      refine HT.skip (qThen ?_)
      refine HT.reg1 [4] [⟨none, .no⟩] ⟨[(4, .one (.dat .bool true))], [(1, .box [.dat .str a1.1, .dat (.int .i64) a1.2.1, .dat (.int .i64) a1.2.2.1, .dat (.sl (.int .i64)) a1.2.2.2.1, .dat (.sl .bool) a1.2.2.2.2]), (0, .box [.dat .str a0.1, .dat (.int .i64) a0.2.1, .dat (.int .i64) a0.2.2.1, .dat (.sl (.int .i64)) a0.2.2.2.1, .dat (.sl .bool) a0.2.2.2.2])], 2⟩ hP hN (by kernel_rfl) allNil ?_
      have hr := of_some hr
      subst hr
      exact HT.ret ⟨[.one (.dat .bool true)], [], [], by kernel_rfl, by kernel_rfl, rfl, by kernel_rfl, by kernel_rfl, trivial⟩

noncomputable def laws_eqKeptS_B1 (a0 : List (List UInt8 × Int × Int × List Int × List Bool)) (a1 : List (List UInt8 × Int × Int × List Int × List Bool)) (s2 : Int) : Option ((Int) ⊕ (Unit ⊕ Unit)) :=
  bif (decide (s2 < (lenI a0))) then
    guardP ((0 : Int) ≤ s2 ∧ s2 < lenI a0) (
      guardP ((0 : Int) ≤ s2 ∧ s2 < lenI a1) (
        (laws_eqKept ((List.getD a0 (Int.toNat s2) (([] : List UInt8), (0 : Int), (0 : Int), ([] : List Int), ([] : List Bool))).1, ((List.getD a0 (Int.toNat s2) (([] : List UInt8), (0 : Int), (0 : Int), ([] : List Int), ([] : List Bool))).2).1, (((List.getD a0 (Int.toNat s2) (([] : List UInt8), (0 : Int), (0 : Int), ([] : List Int), ([] : List Bool))).2).2).1, ((((List.getD a0 (Int.toNat s2) (([] : List UInt8), (0 : Int), (0 : Int), ([] : List Int), ([] : List Bool))).2).2).2).1, ((((List.getD a0 (Int.toNat s2) (([] : List UInt8), (0 : Int), (0 : Int), ([] : List Int), ([] : List Bool))).2).2).2).2) ((List.getD a1 (Int.toNat s2) (([] : List UInt8), (0 : Int), (0 : Int), ([] : List Int), ([] : List Bool))).1, ((List.getD a1 (Int.toNat s2) (([] : List UInt8), (0 : Int), (0 : Int), ([] : List Int), ([] : List Bool))).2).1, (((List.getD a1 (Int.toNat s2) (([] : List UInt8), (0 : Int), (0 : Int), ([] : List Int), ([] : List Bool))).2).2).1, ((((List.getD a1 (Int.toNat s2) (([] : List UInt8), (0 : Int), (0 : Int), ([] : List Int), ([] : List Bool))).2).2).2).1, ((((List.getD a1 (Int.toNat s2) (([] : List UInt8), (0 : Int), (0 : Int), ([] : List Int), ([] : List Bool))).2).2).2).2)).bind fun y12 =>
        bif (!y12) then
          some (.inr (.inr ()))
        else
          some (.inl (wadd .i64 s2 (1 : Int)))))
  else
    some (.inr (.inl ()))

noncomputable def laws_eqKeptS (a0 : List (List UInt8 × Int × Int × List Int × List Bool)) (a1 : List (List UInt8 × Int × Int × List Int × List Bool)) : Option (Bool) :=
  bif ((lenI a0) != (lenI a1)) then
    some false
  else
    (rounds (laws_eqKeptS_B1 a0 a1) (0 : Int)).bind fun r3 => match r3 with
      | .inl r4 =>
        some true
      | .inr r5 =>
        some false

theorem f18_ok {a0 : List (List UInt8 × Int × Int × List Int × List Bool)} {a1 : List (List UInt8 × Int × Int × List Int × List Bool)} {r : Bool} (hr : laws_eqKeptS a0 a1 = some r) : CallOK Try.prog 18 [.imm (.sl (.st (.pair .str (.st (.pair (.int .i64) (.pair (.int .i64) (.pair (.sl (.int .i64)) (.sl .bool)))))))) a0, .imm (.sl (.st (.pair .str (.st (.pair (.int .i64) (.pair (.int .i64) (.pair (.sl (.int .i64)) (.sl .bool)))))))) a1] [⟨false, .bool, r⟩] [] := by
  unfold laws_eqKeptS at hr
  refine CallOK.of_body (ts := [(false, .bool)]) Try.func18 rfl (by kernel_rfl) (Nat.le_of_ble_eq_true (by kernel_rfl)) fun cx hP hN hO hF => ?_
  have hO : cx.own.map Prod.fst = [] := hO
  have hF := hF rfl
  show HT cx ⟨[(0, .one (.dat (.sl (.st (.pair .str (.st (.pair (.int .i64) (.pair (.int .i64) (.pair (.sl (.int .i64)) (.sl .bool)))))))) a0)), (1, .one (.dat (.sl (.st (.pair .str (.st (.pair (.int .i64) (.pair (.int .i64) (.pair (.sl (.int .i64)) (.sl .bool)))))))) a1))], [], 0⟩ _ _
  refine HT.reg1 [0, 1] [⟨none, .no⟩] ⟨[(0, .one (.dat (.sl (.st (.pair .str (.st (.pair (.int .i64) (.pair (.int .i64) (.pair (.sl (.int .i64)) (.sl .bool)))))))) a0)), (1, .one (.dat (.sl (.st (.pair .str (.st (.pair (.int .i64) (.pair (.int .i64) (.pair (.sl (.int .i64)) (.sl .bool)))))))) a1))], [], 0⟩ hP hN (by kernel_rfl) allNil ?_
  refine HT.seq ?_
  refine HT.reg1 [0, 1, 10] [⟨none, .no⟩, ⟨none, .no⟩, ⟨none, .no⟩, ⟨none, .no⟩, ⟨none, .no⟩] ⟨[(0, .one (.dat (.sl (.st (.pair .str (.st (.pair (.int .i64) (.pair (.int .i64) (.pair (.sl (.int .i64)) (.sl .bool)))))))) a0)), (1, .one (.dat (.sl (.st (.pair .str (.st (.pair (.int .i64) (.pair (.int .i64) (.pair (.sl (.int .i64)) (.sl .bool)))))))) a1)), (10, .one (.dat .bool ((lenI a0) != (lenI a1))))], [], 0⟩ hP hN (by kernel_rfl) allNil ?_
  rcases of_bif hr with ⟨hb1, hr⟩ | ⟨hb1, hr⟩
  · refine HT.cond1 rfl hb1 ?_
    refine HT.reg1 [4] [⟨none, .no⟩] ⟨[(4, .one (.dat .bool false))], [], 0⟩ hP hN (by kernel_rfl) allNil ?_
    have hr := of_some hr
    subst hr
    exact HT.ret (qThenR ⟨[.one (.dat .bool false)], [], [], by kernel_rfl, by kernel_rfl, rfl, by kernel_rfl, by kernel_rfl, trivial⟩)
  · refine HT.cond0 rfl hb1 ?_
    refine HT.skip (qThen ?_)
    refine HT.seq ?_
    refine HT.reg1 [0, 1, 5] [⟨none, .no⟩] ⟨[(0, .one (.dat (.sl (.st (.pair .str (.st (.pair (.int .i64) (.pair (.int .i64) (.pair (.sl (.int .i64)) (.sl .bool)))))))) a0)), (1, .one (.dat (.sl (.st (.pair .str (.st (.pair (.int .i64) (.pair (.int .i64) (.pair (.sl (.int .i64)) (.sl .bool)))))))) a1)), (5, .one (.dat (.int .i64) (0 : Int)))], [], 0⟩ hP hN (by kernel_rfl) allNil ?_
    refine HT.block ?_
    obtain ⟨r3, hL15, hr⟩ := of_bind hr
    refine (Le.cv (s := ⟨[], [], [], false⟩) (own := []) (ps := [a0 = a0, a1 = a1, (0 : Int) = (0 : Int)]) (st' := ⟨[(0, .one (.dat (.sl (.st (.pair .str (.st (.pair (.int .i64) (.pair (.int .i64) (.pair (.sl (.int .i64)) (.sl .bool)))))))) a0)), (1, .one (.dat (.sl (.st (.pair .str (.st (.pair (.int .i64) (.pair (.int .i64) (.pair (.sl (.int .i64)) (.sl .bool)))))))) a1)), (5, .one (.dat (.int .i64) (0 : Int)))], [], 0⟩) hO (fun h => by cases h) (by kernel_rfl) ⟨rfl, rfl, rfl, trivial⟩).ht ?_
    refine HT.loopE (s := (0 : Int)) (fun (s2 : Int) => ⟨[(0, .one (.dat (.sl (.st (.pair .str (.st (.pair (.int .i64) (.pair (.int .i64) (.pair (.sl (.int .i64)) (.sl .bool)))))))) a0)), (1, .one (.dat (.sl (.st (.pair .str (.st (.pair (.int .i64) (.pair (.int .i64) (.pair (.sl (.int .i64)) (.sl .bool)))))))) a1)), (5, .one (.dat (.int .i64) s2))], [], 0⟩) (fun (r3 : Unit ⊕ Unit) => match r3 with | .inl r4 => (.exit 0, ⟨[], [], 0⟩) | .inr r5 => (.ret, ⟨[(4, .one (.dat .bool false))], [], 0⟩)) hL15 ?_ (fun s2 x6 hx7 hk8 => ?_)
    · rcases r3 with r4 | r5
      · refine (qBlockX (qThen ?_))
        refine HT.reg1 [4] [⟨none, .no⟩] ⟨[(4, .one (.dat .bool true))], [], 0⟩ hP hN (by kernel_rfl) allNil ?_
        have hr := of_some hr
        subst hr
        exact HT.ret ⟨[.one (.dat .bool true)], [], [], by kernel_rfl, by kernel_rfl, rfl, by kernel_rfl, by kernel_rfl, trivial⟩
      · have hr := of_some hr
        subst hr
        exact (qBlockR (qThenR ⟨[.one (.dat .bool false)], [], [], by kernel_rfl, by kernel_rfl, rfl, by kernel_rfl, by kernel_rfl, trivial⟩))
    · refine HT.seq ?_
      refine HT.reg1 [0, 1, 5, 14] [⟨none, .no⟩, ⟨none, .no⟩, ⟨none, .no⟩, ⟨none, .no⟩] ⟨[(0, .one (.dat (.sl (.st (.pair .str (.st (.pair (.int .i64) (.pair (.int .i64) (.pair (.sl (.int .i64)) (.sl .bool)))))))) a0)), (1, .one (.dat (.sl (.st (.pair .str (.st (.pair (.int .i64) (.pair (.int .i64) (.pair (.sl (.int .i64)) (.sl .bool)))))))) a1)), (5, .one (.dat (.int .i64) s2)), (14, .one (.dat .bool (decide (s2 < (lenI a0)))))], [], 0⟩ hP hN (by kernel_rfl) allNil ?_
      rcases of_bif hx7 with ⟨hb9, hx7⟩ | ⟨hb9, hx7⟩
      · refine HT.cond1 rfl hb9 ?_
        refine HT.skip (qThen ?_)
        refine HT.seq ?_
        refine HT.block ?_
        obtain ⟨hg10, hx7⟩ := of_guard hx7
        obtain ⟨hg11, hx7⟩ := of_guard hx7
        obtain ⟨y12, hc13, hx7⟩ := of_bind hx7
        refine HT.drw1 [0, 1, 5, 26] 8 [⟨⟨none, .no⟩, []⟩, ⟨⟨none, .no⟩, []⟩, ⟨⟨none, .no⟩, [0, 1]⟩, ⟨⟨none, .no⟩, [0, 1, 2]⟩, ⟨⟨none, .no⟩, []⟩, ⟨⟨none, .no⟩, []⟩, ⟨⟨none, .no⟩, [4, 5]⟩, ⟨⟨none, .no⟩, [4, 5, 6]⟩] [[0, 1, 2, 3, 4, 5, 6, 7], [0, 1, 2, 3, 4, 5, 6, 7, 8]] [⟨none, .call [.imm (.st (.pair .str (.st (.pair (.int .i64) (.pair (.int .i64) (.pair (.sl (.int .i64)) (.sl .bool))))))), .imm (.st (.pair .str (.st (.pair (.int .i64) (.pair (.int .i64) (.pair (.sl (.int .i64)) (.sl .bool)))))))] [⟨false, .bool, y12⟩] []⟩, ⟨none, .no⟩] ⟨[(0, .one (.dat (.sl (.st (.pair .str (.st (.pair (.int .i64) (.pair (.int .i64) (.pair (.sl (.int .i64)) (.sl .bool)))))))) a0)), (1, .one (.dat (.sl (.st (.pair .str (.st (.pair (.int .i64) (.pair (.int .i64) (.pair (.sl (.int .i64)) (.sl .bool)))))))) a1)), (5, .one (.dat (.int .i64) s2)), (26, .one (.dat .bool (!y12)))], [], 0⟩ hP hN (by kernel_rfl) (by kernel_rfl) (allCons hg10 (allCons hg11 (allCons (f73_ok hc13) allNil))) ?_
        rcases of_bif hx7 with ⟨hb14, hx7⟩ | ⟨hb14, hx7⟩
        · refine HT.cond1 rfl hb14 ?_
          refine HT.reg1 [4] [⟨none, .no⟩] ⟨[(4, .one (.dat .bool false))], [], 0⟩ hP hN (by kernel_rfl) allNil ?_
          have hx7 := of_some hx7
          subst hx7
          refine (Le.cv (s := ⟨[], [], [], false⟩) (own := []) (ps := [false = false]) (st' := ⟨[(4, .one (.dat .bool false))], [], 0⟩) hO (fun h => by cases h) (by kernel_rfl) ⟨rfl, trivial⟩).ht ?_
          exact HT.ret (qBlockR (qThenR (qLoopR (hk8 (.inr ()) rfl))))
        · refine HT.cond0 rfl hb14 ?_
          refine HT.skip (qBlock (qThen ?_))
          have hx7 := of_some hx7
          subst hx7
          refine HT.reg (rs := [⟨none, .no⟩, ⟨none, .no⟩, ⟨none, .no⟩]) (st' := ⟨[(5, .one (.dat (.int .i64) (wadd .i64 s2 (1 : Int)))), (16, .one (.dat (.int .i64) (wadd .i64 s2 (1 : Int)))), (15, .one (.dat (.int .i64) s2)), (0, .one (.dat (.sl (.st (.pair .str (.st (.pair (.int .i64) (.pair (.int .i64) (.pair (.sl (.int .i64)) (.sl .bool)))))))) a0)), (1, .one (.dat (.sl (.st (.pair .str (.st (.pair (.int .i64) (.pair (.int .i64) (.pair (.sl (.int .i64)) (.sl .bool)))))))) a1)), (5, .one (.dat (.int .i64) s2)), (26, .one (.dat .bool (!y12)))], [], 0⟩) hP hN (by kernel_rfl) allNil (qLoopN ⟨(wadd .i64 s2 (1 : Int)), rfl, Le.cv (s := ⟨[], [], [], false⟩) (own := []) (ps := [a0 = a0, a1 = a1, (wadd .i64 s2 (1 : Int)) = (wadd .i64 s2 (1 : Int))]) (st' := ⟨[(0, .one (.dat (.sl (.st (.pair .str (.st (.pair (.int .i64) (.pair (.int .i64) (.pair (.sl (.int .i64)) (.sl .bool)))))))) a0)), (1, .one (.dat (.sl (.st (.pair .str (.st (.pair (.int .i64) (.pair (.int .i64) (.pair (.sl (.int .i64)) (.sl .bool)))))))) a1)), (5, .one (.dat (.int .i64) (wadd .i64 s2 (1 : Int))))], [], 0⟩) hO (fun h => by cases h) (by kernel_rfl) ⟨rfl, rfl, rfl, trivial⟩⟩)
      · refine HT.cond0 rfl hb9 ?_
        have hx7 := of_some hx7
        subst hx7
        refine (Le.cv (s := ⟨[], [], [], false⟩) (own := []) (ps := []) (st' := ⟨[], [], 0⟩) hO (fun h => by cases h) (by kernel_rfl) trivial).ht ?_
        exact HT.exit (qThenE (qLoopE (hk8 (.inl ()) rfl)))

noncomputable def laws_FnExactStoreKepts (a0 : List (List UInt8 × Int × Int × List Int × List Bool)) : Option (Bool) :=
  (laws_szKeptS a0 (1048576 : Int)).bind fun y1 =>
  bif (decide (y1 < (0 : Int))) then
    some true
  else
    (laws_toKeptS a0).bind fun y4 =>
    (spec_StoreKepts y4).bind fun y6 =>
    (laws_toKeptS a0).bind fun y8 =>
    (impl_StoreKepts y8).bind fun y10 =>
    (show Option (Bool) from
      bif (y10.1 != y6.1) then
        some true
      else
        some (y10.2 != y6.2)).bind fun v12 =>
    bif v12 then
      some false
    else
      (laws_toKeptS a0).bind fun y16 =>
      (laws_eqKeptS y8 y16).bind fun y18 =>
      bif (!y18) then
        some false
      else
        some true

theorem f5_ok {a0 : List (List UInt8 × Int × Int × List Int × List Bool)} {r : Bool} (hr : laws_FnExactStoreKepts a0 = some r) : CallOK Try.prog 5 [.imm (.sl (.st (.pair .str (.st (.pair (.int .i64) (.pair (.int .i64) (.pair (.sl (.int .i64)) (.sl .bool)))))))) a0] [⟨false, .bool, r⟩] [] := by
  unfold laws_FnExactStoreKepts at hr
  refine CallOK.of_body (ts := [(false, .bool)]) Try.func5 rfl (by kernel_rfl) (Nat.le_of_ble_eq_true (by kernel_rfl)) fun cx hP hN hO hF => ?_
  have hO : cx.own.map Prod.fst = [] := hO
  have hF := hF rfl
  show HT cx ⟨[(0, .one (.dat (.sl (.st (.pair .str (.st (.pair (.int .i64) (.pair (.int .i64) (.pair (.sl (.int .i64)) (.sl .bool)))))))) a0))], [], 0⟩ _ _
  refine HT.reg1 [0] [⟨none, .no⟩] ⟨[(0, .one (.dat (.sl (.st (.pair .str (.st (.pair (.int .i64) (.pair (.int .i64) (.pair (.sl (.int .i64)) (.sl .bool)))))))) a0))], [], 0⟩ hP hN (by kernel_rfl) allNil ?_
  refine HT.reg1 [0, 3] [⟨none, .no⟩] ⟨[(0, .one (.dat (.sl (.st (.pair .str (.st (.pair (.int .i64) (.pair (.int .i64) (.pair (.sl (.int .i64)) (.sl .bool)))))))) a0)), (3, .one (.dat (.int .i64) (1048576 : Int)))], [], 0⟩ hP hN (by kernel_rfl) allNil ?_
  obtain ⟨y1, hc2, hr⟩ := of_bind hr
  refine HT.reg1 [0, 3] [⟨none, .no⟩, ⟨none, .no⟩, ⟨none, .call [.imm (.sl (.st (.pair .str (.st (.pair (.int .i64) (.pair (.int .i64) (.pair (.sl (.int .i64)) (.sl .bool)))))))), .imm (.int .i64)] [⟨false, (.int .i64), y1⟩] []⟩, ⟨none, .no⟩] ⟨[(0, .one (.dat (.sl (.st (.pair .str (.st (.pair (.int .i64) (.pair (.int .i64) (.pair (.sl (.int .i64)) (.sl .bool)))))))) a0)), (3, .one (.dat (.int .i64) y1))], [], 0⟩ hP hN (by kernel_rfl) (allCons (f14_ok hc2) allNil) ?_
  refine HT.seq ?_
  refine HT.reg1 [0, 13] [⟨none, .no⟩, ⟨none, .no⟩] ⟨[(0, .one (.dat (.sl (.st (.pair .str (.st (.pair (.int .i64) (.pair (.int .i64) (.pair (.sl (.int .i64)) (.sl .bool)))))))) a0)), (13, .one (.dat .bool (decide (y1 < (0 : Int)))))], [], 0⟩ hP hN (by kernel_rfl) allNil ?_
  rcases of_bif hr with ⟨hb3, hr⟩ | ⟨hb3, hr⟩
  · refine HT.cond1 rfl hb3 ?_
    refine HT.reg1 [2] [⟨none, .no⟩] ⟨[(2, .one (.dat .bool true))], [], 0⟩ hP hN (by kernel_rfl) allNil ?_
    have hr := of_some hr
    subst hr
    exact HT.ret (qThenR ⟨[.one (.dat .bool true)], [], [], by kernel_rfl, by kernel_rfl, rfl, by kernel_rfl, by kernel_rfl, trivial⟩)
  · refine HT.cond0 rfl hb3 ?_
    refine HT.skip (qThen ?_)
    obtain ⟨y4, hc5, hr⟩ := of_bind hr
    obtain ⟨y6, hc7, hr⟩ := of_bind hr
    refine HT.reg1 [0, 4, 5] [⟨none, .no⟩, ⟨none, .call [.imm (.sl (.st (.pair .str (.st (.pair (.int .i64) (.pair (.int .i64) (.pair (.sl (.int .i64)) (.sl .bool))))))))] [⟨false, (.sl (.st (.pair .str (.st (.pair (.int .i64) (.pair (.int .i64) (.pair (.sl (.int .i64)) (.sl .bool)))))))), y4⟩] []⟩, ⟨none, .call [.imm (.sl (.st (.pair .str (.st (.pair (.int .i64) (.pair (.int .i64) (.pair (.sl (.int .i64)) (.sl .bool))))))))] [⟨false, .str, y6.1⟩, ⟨false, .bool, y6.2⟩] []⟩, ⟨none, .no⟩, ⟨none, .no⟩, ⟨none, .no⟩, ⟨none, .no⟩, ⟨none, .no⟩] ⟨[(0, .one (.dat (.sl (.st (.pair .str (.st (.pair (.int .i64) (.pair (.int .i64) (.pair (.sl (.int .i64)) (.sl .bool)))))))) a0)), (4, .one (.dat .str y6.1)), (5, .one (.dat .bool y6.2))], [], 0⟩ hP hN (by kernel_rfl) (allCons (f16_ok hc5) (allCons (f26_ok hc7) allNil)) ?_
    obtain ⟨y8, hc9, hr⟩ := of_bind hr
    refine HT.reg1 [0, 4, 5, 6] [⟨none, .no⟩, ⟨none, .call [.imm (.sl (.st (.pair .str (.st (.pair (.int .i64) (.pair (.int .i64) (.pair (.sl (.int .i64)) (.sl .bool))))))))] [⟨false, (.sl (.st (.pair .str (.st (.pair (.int .i64) (.pair (.int .i64) (.pair (.sl (.int .i64)) (.sl .bool)))))))), y8⟩] []⟩, ⟨none, .no⟩] ⟨[(0, .one (.dat (.sl (.st (.pair .str (.st (.pair (.int .i64) (.pair (.int .i64) (.pair (.sl (.int .i64)) (.sl .bool)))))))) a0)), (4, .one (.dat .str y6.1)), (5, .one (.dat .bool y6.2)), (6, .one (.dat (.sl (.st (.pair .str (.st (.pair (.int .i64) (.pair (.int .i64) (.pair (.sl (.int .i64)) (.sl .bool)))))))) y8))], [], 0⟩ hP hN (by kernel_rfl) (allCons (f16_ok hc9) allNil) ?_
    obtain ⟨y10, hc11, hr⟩ := of_bind hr
    refine HT.reg1 [0, 4, 5, 6, 7, 8] [⟨none, .no⟩, ⟨none, .call [.imm (.sl (.st (.pair .str (.st (.pair (.int .i64) (.pair (.int .i64) (.pair (.sl (.int .i64)) (.sl .bool))))))))] [⟨false, .str, y10.1⟩, ⟨false, .bool, y10.2⟩] []⟩, ⟨none, .no⟩, ⟨none, .no⟩, ⟨none, .no⟩, ⟨none, .no⟩, ⟨none, .no⟩] ⟨[(0, .one (.dat (.sl (.st (.pair .str (.st (.pair (.int .i64) (.pair (.int .i64) (.pair (.sl (.int .i64)) (.sl .bool)))))))) a0)), (4, .one (.dat .str y6.1)), (5, .one (.dat .bool y6.2)), (6, .one (.dat (.sl (.st (.pair .str (.st (.pair (.int .i64) (.pair (.int .i64) (.pair (.sl (.int .i64)) (.sl .bool)))))))) y8)), (7, .one (.dat .str y10.1)), (8, .one (.dat .bool y10.2))], [], 0⟩ hP hN (by kernel_rfl) (allCons (f27_ok hc11) allNil) ?_
    refine HT.seq ?_
    obtain ⟨v12', hT14, hr⟩ := of_bind hr
    refine HT.join (fun (v12 : Bool) => ⟨[(0, .one (.dat (.sl (.st (.pair .str (.st (.pair (.int .i64) (.pair (.int .i64) (.pair (.sl (.int .i64)) (.sl .bool)))))))) a0)), (6, .one (.dat (.sl (.st (.pair .str (.st (.pair (.int .i64) (.pair (.int .i64) (.pair (.sl (.int .i64)) (.sl .bool)))))))) y8)), (34, .one (.dat .bool v12))], [], 0⟩) (fun v => v = v12') (fun v12 hv13 => ?_) (fun cont => ?_)
    · subst hv13
      rcases of_bif hr with ⟨hb15, hr⟩ | ⟨hb15, hr⟩
      · refine HT.cond1 rfl hb15 ?_
        refine HT.reg1 [2] [⟨none, .no⟩] ⟨[(2, .one (.dat .bool false))], [], 0⟩ hP hN (by kernel_rfl) allNil ?_
        have hr := of_some hr
        subst hr
        exact HT.ret (qThenR ⟨[.one (.dat .bool false)], [], [], by kernel_rfl, by kernel_rfl, rfl, by kernel_rfl, by kernel_rfl, trivial⟩)
      · refine HT.cond0 rfl hb15 ?_
        refine HT.skip (qThen ?_)
        refine HT.seq ?_
        obtain ⟨y16, hc17, hr⟩ := of_bind hr
        obtain ⟨y18, hc19, hr⟩ := of_bind hr
        refine HT.reg1 [39] [⟨none, .no⟩, ⟨none, .no⟩, ⟨none, .call [.imm (.sl (.st (.pair .str (.st (.pair (.int .i64) (.pair (.int .i64) (.pair (.sl (.int .i64)) (.sl .bool))))))))] [⟨false, (.sl (.st (.pair .str (.st (.pair (.int .i64) (.pair (.int .i64) (.pair (.sl (.int .i64)) (.sl .bool)))))))), y16⟩] []⟩, ⟨none, .call [.imm (.sl (.st (.pair .str (.st (.pair (.int .i64) (.pair (.int .i64) (.pair (.sl (.int .i64)) (.sl .bool)))))))), .imm (.sl (.st (.pair .str (.st (.pair (.int .i64) (.pair (.int .i64) (.pair (.sl (.int .i64)) (.sl .bool))))))))] [⟨false, .bool, y18⟩] []⟩, ⟨none, .no⟩] ⟨[(39, .one (.dat .bool (!y18)))], [], 0⟩ hP hN (by kernel_rfl) (allCons (f16_ok hc17) (allCons (f18_ok hc19) allNil)) ?_
        rcases of_bif hr with ⟨hb20, hr⟩ | ⟨hb20, hr⟩
        · refine HT.cond1 rfl hb20 ?_
          refine HT.reg1 [2] [⟨none, .no⟩] ⟨[(2, .one (.dat .bool false))], [], 0⟩ hP hN (by kernel_rfl) allNil ?_
          have hr := of_some hr
          subst hr
          exact HT.ret (qThenR ⟨[.one (.dat .bool false)], [], [], by kernel_rfl, by kernel_rfl, rfl, by kernel_rfl, by kernel_rfl, trivial⟩)
        · refine HT.cond0 rfl hb20 ?_
          refine HT.skip (qThen ?_)
          refine HT.reg1 [2] [⟨none, .no⟩] ⟨[(2, .one (.dat .bool true))], [], 0⟩ hP hN (by kernel_rfl) allNil ?_
          have hr := of_some hr
          subst hr
          exact HT.ret ⟨[.one (.dat .bool true)], [], [], by kernel_rfl, by kernel_rfl, rfl, by kernel_rfl, by kernel_rfl, trivial⟩
    · rcases of_bif hT14 with ⟨hb21, hT14⟩ | ⟨hb21, hT14⟩
      · refine HT.reg (rs := [⟨none, .no⟩, ⟨none, .no⟩, ⟨none, .no⟩, ⟨none, .no⟩, ⟨some true, .no⟩, ⟨some true, .no⟩, ⟨some true, .no⟩, ⟨none, .tv true⟩]) (st' := ⟨[(34, .one (.dat .bool true)), (33, .und), (32, .und), (31, .und), (30, .one (.dat .bool (y10.1 != y6.1))), (29, .one (.dat .bool (y10.1 != y6.1))), (28, .one (.dat .str y6.1)), (27, .one (.dat .str y10.1)), (0, .one (.dat (.sl (.st (.pair .str (.st (.pair (.int .i64) (.pair (.int .i64) (.pair (.sl (.int .i64)) (.sl .bool)))))))) a0)), (4, .one (.dat .str y6.1)), (5, .one (.dat .bool y6.2)), (6, .one (.dat (.sl (.st (.pair .str (.st (.pair (.int .i64) (.pair (.int .i64) (.pair (.sl (.int .i64)) (.sl .bool)))))))) y8)), (7, .one (.dat .str y10.1)), (8, .one (.dat .bool y10.2))], [], 0⟩) hP hN (by kernel_rfl) (allCons hb21 (allCons hb21 (allCons hb21 (allCons hb21 allNil)))) (qThen ?_)
        exact (Le.cv (s := ⟨[], [], [], false⟩) (own := []) (ps := [a0 = a0, y8 = y8, true = true]) (st' := ⟨[(0, .one (.dat (.sl (.st (.pair .str (.st (.pair (.int .i64) (.pair (.int .i64) (.pair (.sl (.int .i64)) (.sl .bool)))))))) a0)), (6, .one (.dat (.sl (.st (.pair .str (.st (.pair (.int .i64) (.pair (.int .i64) (.pair (.sl (.int .i64)) (.sl .bool)))))))) y8)), (34, .one (.dat .bool true))], [], 0⟩) hO (fun h => by cases h) (by kernel_rfl) ⟨rfl, rfl, rfl, trivial⟩).ht (cont true (of_some hT14))
      · refine HT.reg (rs := [⟨none, .no⟩, ⟨none, .no⟩, ⟨none, .no⟩, ⟨none, .no⟩, ⟨some false, .no⟩, ⟨some false, .no⟩, ⟨some false, .no⟩, ⟨none, .tv false⟩]) (st' := ⟨[(34, .one (.dat .bool (y10.2 != y6.2))), (33, .one (.dat .bool (y10.2 != y6.2))), (32, .one (.dat .bool y6.2)), (31, .one (.dat .bool y10.2)), (30, .one (.dat .bool (y10.1 != y6.1))), (29, .one (.dat .bool (y10.1 != y6.1))), (28, .one (.dat .str y6.1)), (27, .one (.dat .str y10.1)), (0, .one (.dat (.sl (.st (.pair .str (.st (.pair (.int .i64) (.pair (.int .i64) (.pair (.sl (.int .i64)) (.sl .bool)))))))) a0)), (4, .one (.dat .str y6.1)), (5, .one (.dat .bool y6.2)), (6, .one (.dat (.sl (.st (.pair .str (.st (.pair (.int .i64) (.pair (.int .i64) (.pair (.sl (.int .i64)) (.sl .bool)))))))) y8)), (7, .one (.dat .str y10.1)), (8, .one (.dat .bool y10.2))], [], 0⟩) hP hN (by kernel_rfl) (allCons hb21 (allCons hb21 (allCons hb21 (allCons hb21 allNil)))) (qThen ?_)
        exact (Le.cv (s := ⟨[], [], [], false⟩) (own := []) (ps := [a0 = a0, y8 = y8, (y10.2 != y6.2) = (y10.2 != y6.2)]) (st' := ⟨[(0, .one (.dat (.sl (.st (.pair .str (.st (.pair (.int .i64) (.pair (.int .i64) (.pair (.sl (.int .i64)) (.sl .bool)))))))) a0)), (6, .one (.dat (.sl (.st (.pair .str (.st (.pair (.int .i64) (.pair (.int .i64) (.pair (.sl (.int .i64)) (.sl .bool)))))))) y8)), (34, .one (.dat .bool (y10.2 != y6.2)))], [], 0⟩) hO (fun h => by cases h) (by kernel_rfl) ⟨rfl, rfl, rfl, trivial⟩).ht (cont (y10.2 != y6.2) (of_some hT14))

end Go.Proofs
