import Derived.Test.YtlipeppmdeanbaaLoadKeptGenA
import Derived.Test.YtlipeppmdeanbaaProg
set_option linter.unusedVariables false
set_option linter.unusedSimpArgs false
set_option linter.unusedSectionVars false
/-
  Functions as plain functions, and their contracts. Printed by a program.
-/
namespace Go.Proofs
open Go.Ide

noncomputable def impl_readKept_B1 (a0 : List UInt8) (q6 : Int) (q13 : Int) (s21 : Int × List Bool) : Option ((Int × List Bool) ⊕ (List Bool)) :=
  bif (decide (s21.1 < (IntKind.wrap .i64 ((((List.getD a0 (Int.toNat q6) 0 : UInt8).toNat : Nat)) : Int)))) then
    guardP ((0 : Int) ≤ (wadd .i64 (wadd .i64 (wadd .i64 q6 (2 : Int)) q13) s21.1) ∧ (wadd .i64 (wadd .i64 (wadd .i64 q6 (2 : Int)) q13) s21.1) < lenI a0) (
      guardP (List.length s21.2 + List.length ([(((((List.getD a0 (Int.toNat (wadd .i64 (wadd .i64 (wadd .i64 q6 (2 : Int)) q13) s21.1)) 0 : UInt8).toNat : Nat)) : Int) == (1 : Int))] : List Bool) ≤ appMax) (
        some (.inl ((wadd .i64 s21.1 (1 : Int)), (s21.2 ++ ([(((((List.getD a0 (Int.toNat (wadd .i64 (wadd .i64 (wadd .i64 q6 (2 : Int)) q13) s21.1)) 0 : UInt8).toNat : Nat)) : Int) == (1 : Int))] : List Bool))))))
  else
    some (.inr s21.2)

noncomputable def impl_readKept_B2 (a0 : List UInt8) (q6 : Int) (q13 : Int) (s18 : Int × List Int) : Option ((Int × List Int) ⊕ (List Int)) :=
  bif (decide (s18.1 < q13)) then
    guardP ((0 : Int) ≤ (wadd .i64 (wadd .i64 q6 (2 : Int)) s18.1) ∧ (wadd .i64 (wadd .i64 q6 (2 : Int)) s18.1) < lenI a0) (
      guardP (List.length s18.2 + List.length ([(IntKind.wrap .i64 ((((List.getD a0 (Int.toNat (wadd .i64 (wadd .i64 q6 (2 : Int)) s18.1)) 0 : UInt8).toNat : Nat)) : Int))] : List Int) ≤ appMax) (
        some (.inl ((wadd .i64 s18.1 (1 : Int)), (s18.2 ++ ([(IntKind.wrap .i64 ((((List.getD a0 (Int.toNat (wadd .i64 (wadd .i64 q6 (2 : Int)) s18.1)) 0 : UInt8).toNat : Nat)) : Int))] : List Int))))))
  else
    some (.inr s18.2)

noncomputable def impl_readKept (a0 : List UInt8) : Option ((List UInt8 × Int × Int × List Int × List Bool) × Int × Bool) :=
  (show Option (Bool) from
    bif (decide ((lenI a0) < (5 : Int))) then
      some true
    else
      guardP ((0 : Int) ≤ (4 : Int) ∧ (4 : Int) < lenI a0) (
        some (decide ((lenI a0) < (wadd .i64 (7 : Int) (IntKind.wrap .i64 ((((List.getD a0 (Int.toNat (4 : Int)) 0 : UInt8).toNat : Nat)) : Int))))))).bind fun v1 =>
  bif v1 then
    some ((([] : List UInt8), (0 : Int), (0 : Int), ([] : List Int), ([] : List Bool)), (0 : Int), false)
  else
    guardP ((0 : Int) ≤ (4 : Int) ∧ (4 : Int) < lenI a0) (
      (some (wadd .i64 (5 : Int) (IntKind.wrap .i64 ((((List.getD a0 (Int.toNat (4 : Int)) 0 : UInt8).toNat : Nat)) : Int)))).bind fun q6 =>
      guardP ((0 : Int) ≤ (5 : Int) ∧ (5 : Int) ≤ q6 ∧ q6 ≤ lenI a0) (
        guardP ((0 : Int) ≤ q6 ∧ q6 < lenI a0) (
          guardP ((0 : Int) ≤ (wadd .i64 q6 (1 : Int)) ∧ (wadd .i64 q6 (1 : Int)) < lenI a0) (
            (some (IntKind.wrap .i64 ((((List.getD a0 (Int.toNat (wadd .i64 q6 (1 : Int))) 0 : UInt8).toNat : Nat)) : Int))).bind fun q11 =>
            (some (wmul .i64 (IntKind.wrap .i64 ((((List.getD a0 (Int.toNat q6) 0 : UInt8).toNat : Nat)) : Int)) q11)).bind fun q13 =>
            (some (wadd .i64 (wadd .i64 (wadd .i64 (wadd .i64 q6 (2 : Int)) q13) (IntKind.wrap .i64 ((((List.getD a0 (Int.toNat q6) 0 : UInt8).toNat : Nat)) : Int))) (2 : Int))).bind fun q15 =>
            bif (decide ((lenI a0) < q15)) then
              some ((([] : List UInt8), (0 : Int), (0 : Int), ([] : List Int), ([] : List Bool)), (0 : Int), false)
            else
              (rounds (impl_readKept_B2 a0 q6 q13) ((0 : Int), ([] : List Int))).bind fun r20 =>
              (rounds (impl_readKept_B1 a0 q6 q13) ((0 : Int), ([] : List Bool))).bind fun r23 =>
              (impl_StoreKept ((cut a0 (5 : Int) q6), (IntKind.wrap .i64 ((((List.getD a0 (Int.toNat q6) 0 : UInt8).toNat : Nat)) : Int)), q11, r20, r23)).bind fun y24 =>
              (show Option (Bool) from
                bif (!y24.2) then
                  some true
                else
                  (strings_HasPrefix a0 y24.1).bind fun y31 =>
                  some (!y31)).bind fun v26 =>
              bif v26 then
                some ((([] : List UInt8), (0 : Int), (0 : Int), ([] : List Int), ([] : List Bool)), (0 : Int), false)
              else
                some (((cut a0 (5 : Int) q6), (IntKind.wrap .i64 ((((List.getD a0 (Int.toNat q6) 0 : UInt8).toNat : Nat)) : Int)), q11, r20, r23), q15, true)))))

theorem f126_ok {a0 : List UInt8} {r : (List UInt8 × Int × Int × List Int × List Bool) × Int × Bool} (hr : impl_readKept a0 = some r) : CallOK Try.prog 126 [.imm .str a0] [⟨true, (.st (.pair .str (.st (.pair (.int .i64) (.pair (.int .i64) (.pair (.sl (.int .i64)) (.sl .bool))))))), r.1⟩, ⟨false, (.int .i64), r.2.1⟩, ⟨false, .bool, r.2.2⟩] [] := by
  unfold impl_readKept at hr
  refine CallOK.of_body (ts := [(true, (.st (.pair .str (.st (.pair (.int .i64) (.pair (.int .i64) (.pair (.sl (.int .i64)) (.sl .bool)))))))), (false, (.int .i64)), (false, .bool)]) Try.func126 rfl (by kernel_rfl) (Nat.le_of_ble_eq_true (by kernel_rfl)) fun cx hP hN hO hF => ?_
  have hO : cx.own.map Prod.fst = [] := hO
  have hF : cx.F = [] := hF rfl
  show HT cx ⟨[(0, .one (.dat .str a0))], [], 0⟩ _ _
  refine HT.reg1 [0, 2] [⟨none, .no⟩, ⟨none, .no⟩, ⟨none, .no⟩] ⟨[(0, .one (.dat .str a0)), (2, .one (.ptr 0 0))], [(0, .box [.dat .str ([] : List UInt8), .dat (.int .i64) (0 : Int), .dat (.int .i64) (0 : Int), .nilS, .nilS])], 1⟩ hP hN (by kernel_rfl) allNil ?_
  refine HT.seq ?_
  obtain ⟨v1', hT3, hr⟩ := of_bind hr
  refine HT.join (fun (v1 : Bool) => ⟨[(0, .one (.dat .str a0)), (2, .one (.ptr 0 0)), (24, .one (.dat .bool v1))], [(0, .box [.dat .str ([] : List UInt8), .dat (.int .i64) (0 : Int), .dat (.int .i64) (0 : Int), .nilS, .nilS])], 1⟩) (fun v => v = v1') (fun v1 hv2 => ?_) (fun cont => ?_)
  · subst hv2
    rcases of_bif hr with ⟨hb4, hr⟩ | ⟨hb4, hr⟩
    · refine HT.cond1 rfl hb4 ?_
      refine HT.reg1 [2, 3, 4] [⟨none, .no⟩, ⟨none, .no⟩, ⟨none, .no⟩, ⟨none, .no⟩] ⟨[(2, .one (.ptr 0 0)), (3, .one (.dat (.int .i64) (0 : Int))), (4, .one (.dat .bool false))], [(0, .box [.dat .str ([] : List UInt8), .dat (.int .i64) (0 : Int), .dat (.int .i64) (0 : Int), .nilS, .nilS]), (0, .box [.dat .str ([] : List UInt8), .dat (.int .i64) (0 : Int), .dat (.int .i64) (0 : Int), .nilS, .nilS])], 1⟩ hP hN (by kernel_rfl) allNil ?_
      have hr := of_some hr
      subst hr
      exact HT.ret (qThenR ⟨[.agg [.dat .str ([] : List UInt8), .dat (.int .i64) (0 : Int), .dat (.int .i64) (0 : Int), .nilS, .nilS], .one (.dat (.int .i64) (0 : Int)), .one (.dat .bool false)], [], [], by kernel_rfl, by kernel_rfl, rfl, (.inl rfl), by kernel_rfl, trivial⟩)
    · refine HT.cond0 rfl hb4 ?_
      refine HT.skip (qThen ?_)
      obtain ⟨hg5, hr⟩ := of_guard hr
      refine HT.reg1 [0, 2, 5] [⟨none, .no⟩, ⟨none, .no⟩, ⟨none, .no⟩, ⟨none, .no⟩, ⟨none, .no⟩] ⟨[(0, .one (.dat .str a0)), (2, .one (.ptr 0 0)), (5, .one (.dat (.int .i64) (wadd .i64 (5 : Int) (IntKind.wrap .i64 ((((List.getD a0 (Int.toNat (4 : Int)) 0 : UInt8).toNat : Nat)) : Int)))))], [(0, .box [.dat .str ([] : List UInt8), .dat (.int .i64) (0 : Int), .dat (.int .i64) (0 : Int), .nilS, .nilS])], 1⟩ hP hN (by kernel_rfl) (allCons hg5 allNil) ?_
      obtain ⟨q6, hq7, hr⟩ := of_bind hr
      have hq7 := of_some2 hq7
      refine (Le.cv (s := ⟨[(0, 0)], [], [], false⟩) (own := []) (ps := [a0 = a0, q6 = (wadd .i64 (5 : Int) (IntKind.wrap .i64 ((((List.getD a0 (Int.toNat (4 : Int)) 0 : UInt8).toNat : Nat)) : Int))), ([] : List UInt8) = ([] : List UInt8), (0 : Int) = (0 : Int), (0 : Int) = (0 : Int)]) (st' := ⟨[(0, .one (.dat .str a0)), (2, .one (.ptr 0 0)), (5, .one (.dat (.int .i64) q6))], [(0, .box [.dat .str ([] : List UInt8), .dat (.int .i64) (0 : Int), .dat (.int .i64) (0 : Int), .nilS, .nilS])], 1⟩) hO (fun h => by cases h) (by kernel_rfl) ⟨rfl, hq7, rfl, rfl, rfl, trivial⟩).ht ?_
      obtain ⟨hg8, hr⟩ := of_guard hr
      obtain ⟨hg9, hr⟩ := of_guard hr
      obtain ⟨hg10, hr⟩ := of_guard hr
      refine HT.drw1 [0, 2, 5, 6] 15 [⟨⟨none, .no⟩, []⟩, ⟨⟨none, .no⟩, []⟩, ⟨⟨none, .no⟩, [0, 1]⟩, ⟨⟨none, .no⟩, []⟩, ⟨⟨none, .no⟩, []⟩, ⟨⟨none, .no⟩, [3, 4]⟩, ⟨⟨none, .no⟩, [3, 4, 5]⟩, ⟨⟨none, .no⟩, []⟩, ⟨⟨none, .no⟩, []⟩, ⟨⟨none, .no⟩, [8]⟩, ⟨⟨none, .no⟩, [7, 8, 9]⟩, ⟨⟨none, .no⟩, [7, 8, 9, 10]⟩, ⟨⟨none, .no⟩, [3, 4, 5, 6, 7, 8, 9, 10, 11]⟩, ⟨⟨none, .no⟩, [0, 1, 2, 3, 4, 5, 6, 7, 8, 9, 10, 11, 12]⟩, ⟨⟨none, .no⟩, []⟩] [[0, 1, 2, 3, 4, 5, 6, 7, 8, 9, 10, 11, 12, 13, 14]] [⟨none, .no⟩] ⟨[(0, .one (.dat .str a0)), (2, .one (.ptr 0 0)), (5, .one (.dat (.int .i64) q6)), (6, .one (.ptr 1 0))], [(1, .box [.dat .str (cut a0 (5 : Int) q6), .dat (.int .i64) (IntKind.wrap .i64 ((((List.getD a0 (Int.toNat q6) 0 : UInt8).toNat : Nat)) : Int)), .dat (.int .i64) (IntKind.wrap .i64 ((((List.getD a0 (Int.toNat (wadd .i64 q6 (1 : Int))) 0 : UInt8).toNat : Nat)) : Int)), .nilS, .nilS]), (1, .box [.dat .str ([] : List UInt8), .dat (.int .i64) (0 : Int), .dat (.int .i64) (0 : Int), .nilS, .nilS]), (0, .box [.dat .str ([] : List UInt8), .dat (.int .i64) (0 : Int), .dat (.int .i64) (0 : Int), .nilS, .nilS])], 2⟩ hP hN (by kernel_rfl) (by kernel_rfl) (allCons hg8 (allCons hg9 (allCons hg10 allNil))) ?_
      obtain ⟨q11, hq12, hr⟩ := of_bind hr
      have hq12 := of_some2 hq12
      refine (Le.cv (s := ⟨[(1, 1), (0, 0)], [], [], false⟩) (own := []) (ps := [a0 = a0, q6 = q6, (cut a0 (5 : Int) q6) = (cut a0 (5 : Int) q6), (IntKind.wrap .i64 ((((List.getD a0 (Int.toNat q6) 0 : UInt8).toNat : Nat)) : Int)) = (IntKind.wrap .i64 ((((List.getD a0 (Int.toNat q6) 0 : UInt8).toNat : Nat)) : Int)), q11 = (IntKind.wrap .i64 ((((List.getD a0 (Int.toNat (wadd .i64 q6 (1 : Int))) 0 : UInt8).toNat : Nat)) : Int)), ([] : List UInt8) = ([] : List UInt8), (0 : Int) = (0 : Int), (0 : Int) = (0 : Int)]) (st' := ⟨[(0, .one (.dat .str a0)), (2, .one (.ptr 0 0)), (5, .one (.dat (.int .i64) q6)), (6, .one (.ptr 1 0))], [(1, .box [.dat .str (cut a0 (5 : Int) q6), .dat (.int .i64) (IntKind.wrap .i64 ((((List.getD a0 (Int.toNat q6) 0 : UInt8).toNat : Nat)) : Int)), .dat (.int .i64) q11, .nilS, .nilS]), (0, .box [.dat .str ([] : List UInt8), .dat (.int .i64) (0 : Int), .dat (.int .i64) (0 : Int), .nilS, .nilS])], 2⟩) hO (fun h => by cases h) (by kernel_rfl) ⟨rfl, rfl, rfl, rfl, hq12, rfl, rfl, rfl, trivial⟩).ht ?_
      refine HT.reg1 [0, 2, 5, 6] [⟨none, .no⟩, ⟨none, .no⟩, ⟨none, .no⟩] ⟨[(0, .one (.dat .str a0)), (2, .one (.ptr 0 0)), (5, .one (.dat (.int .i64) (wadd .i64 q6 (2 : Int)))), (6, .one (.ptr 1 0))], [(1, .box [.dat .str (cut a0 (5 : Int) q6), .dat (.int .i64) (IntKind.wrap .i64 ((((List.getD a0 (Int.toNat q6) 0 : UInt8).toNat : Nat)) : Int)), .dat (.int .i64) q11, .nilS, .nilS]), (0, .box [.dat .str ([] : List UInt8), .dat (.int .i64) (0 : Int), .dat (.int .i64) (0 : Int), .nilS, .nilS])], 2⟩ hP hN (by kernel_rfl) allNil ?_
      refine HT.reg1 [0, 2, 5, 6, 7] [⟨none, .no⟩, ⟨none, .no⟩, ⟨none, .no⟩, ⟨none, .no⟩, ⟨none, .no⟩, ⟨none, .no⟩, ⟨none, .no⟩, ⟨none, .no⟩] ⟨[(0, .one (.dat .str a0)), (2, .one (.ptr 0 0)), (5, .one (.dat (.int .i64) (wadd .i64 q6 (2 : Int)))), (6, .one (.ptr 1 0)), (7, .one (.dat (.int .i64) (wmul .i64 (IntKind.wrap .i64 ((((List.getD a0 (Int.toNat q6) 0 : UInt8).toNat : Nat)) : Int)) q11)))], [(1, .box [.dat .str (cut a0 (5 : Int) q6), .dat (.int .i64) (IntKind.wrap .i64 ((((List.getD a0 (Int.toNat q6) 0 : UInt8).toNat : Nat)) : Int)), .dat (.int .i64) q11, .nilS, .nilS]), (0, .box [.dat .str ([] : List UInt8), .dat (.int .i64) (0 : Int), .dat (.int .i64) (0 : Int), .nilS, .nilS])], 2⟩ hP hN (by kernel_rfl) allNil ?_
      obtain ⟨q13, hq14, hr⟩ := of_bind hr
      have hq14 := of_some2 hq14
      refine (Le.cv (s := ⟨[(1, 1), (0, 0)], [], [], false⟩) (own := []) (ps := [a0 = a0, (wadd .i64 q6 (2 : Int)) = (wadd .i64 q6 (2 : Int)), q13 = (wmul .i64 (IntKind.wrap .i64 ((((List.getD a0 (Int.toNat q6) 0 : UInt8).toNat : Nat)) : Int)) q11), (cut a0 (5 : Int) q6) = (cut a0 (5 : Int) q6), (IntKind.wrap .i64 ((((List.getD a0 (Int.toNat q6) 0 : UInt8).toNat : Nat)) : Int)) = (IntKind.wrap .i64 ((((List.getD a0 (Int.toNat q6) 0 : UInt8).toNat : Nat)) : Int)), q11 = q11, ([] : List UInt8) = ([] : List UInt8), (0 : Int) = (0 : Int), (0 : Int) = (0 : Int)]) (st' := ⟨[(0, .one (.dat .str a0)), (2, .one (.ptr 0 0)), (5, .one (.dat (.int .i64) (wadd .i64 q6 (2 : Int)))), (6, .one (.ptr 1 0)), (7, .one (.dat (.int .i64) q13))], [(1, .box [.dat .str (cut a0 (5 : Int) q6), .dat (.int .i64) (IntKind.wrap .i64 ((((List.getD a0 (Int.toNat q6) 0 : UInt8).toNat : Nat)) : Int)), .dat (.int .i64) q11, .nilS, .nilS]), (0, .box [.dat .str ([] : List UInt8), .dat (.int .i64) (0 : Int), .dat (.int .i64) (0 : Int), .nilS, .nilS])], 2⟩) hO (fun h => by cases h) (by kernel_rfl) ⟨rfl, rfl, hq14, rfl, rfl, rfl, rfl, rfl, rfl, trivial⟩).ht ?_
      refine HT.reg1 [0, 2, 5, 6, 7, 8] [⟨none, .no⟩, ⟨none, .no⟩, ⟨none, .no⟩, ⟨none, .no⟩, ⟨none, .no⟩, ⟨none, .no⟩, ⟨none, .no⟩, ⟨none, .no⟩, ⟨none, .no⟩] ⟨[(0, .one (.dat .str a0)), (2, .one (.ptr 0 0)), (5, .one (.dat (.int .i64) (wadd .i64 q6 (2 : Int)))), (6, .one (.ptr 1 0)), (7, .one (.dat (.int .i64) q13)), (8, .one (.dat (.int .i64) (wadd .i64 (wadd .i64 (wadd .i64 (wadd .i64 q6 (2 : Int)) q13) (IntKind.wrap .i64 ((((List.getD a0 (Int.toNat q6) 0 : UInt8).toNat : Nat)) : Int))) (2 : Int))))], [(1, .box [.dat .str (cut a0 (5 : Int) q6), .dat (.int .i64) (IntKind.wrap .i64 ((((List.getD a0 (Int.toNat q6) 0 : UInt8).toNat : Nat)) : Int)), .dat (.int .i64) q11, .nilS, .nilS]), (0, .box [.dat .str ([] : List UInt8), .dat (.int .i64) (0 : Int), .dat (.int .i64) (0 : Int), .nilS, .nilS])], 2⟩ hP hN (by kernel_rfl) allNil ?_
      obtain ⟨q15, hq16, hr⟩ := of_bind hr
      have hq16 := of_some2 hq16
      refine (Le.cv (s := ⟨[(1, 1), (0, 0)], [], [], false⟩) (own := []) (ps := [a0 = a0, (wadd .i64 q6 (2 : Int)) = (wadd .i64 q6 (2 : Int)), q13 = q13, q15 = (wadd .i64 (wadd .i64 (wadd .i64 (wadd .i64 q6 (2 : Int)) q13) (IntKind.wrap .i64 ((((List.getD a0 (Int.toNat q6) 0 : UInt8).toNat : Nat)) : Int))) (2 : Int)), (cut a0 (5 : Int) q6) = (cut a0 (5 : Int) q6), (IntKind.wrap .i64 ((((List.getD a0 (Int.toNat q6) 0 : UInt8).toNat : Nat)) : Int)) = (IntKind.wrap .i64 ((((List.getD a0 (Int.toNat q6) 0 : UInt8).toNat : Nat)) : Int)), q11 = q11, ([] : List UInt8) = ([] : List UInt8), (0 : Int) = (0 : Int), (0 : Int) = (0 : Int)]) (st' := ⟨[(0, .one (.dat .str a0)), (2, .one (.ptr 0 0)), (5, .one (.dat (.int .i64) (wadd .i64 q6 (2 : Int)))), (6, .one (.ptr 1 0)), (7, .one (.dat (.int .i64) q13)), (8, .one (.dat (.int .i64) q15))], [(1, .box [.dat .str (cut a0 (5 : Int) q6), .dat (.int .i64) (IntKind.wrap .i64 ((((List.getD a0 (Int.toNat q6) 0 : UInt8).toNat : Nat)) : Int)), .dat (.int .i64) q11, .nilS, .nilS]), (0, .box [.dat .str ([] : List UInt8), .dat (.int .i64) (0 : Int), .dat (.int .i64) (0 : Int), .nilS, .nilS])], 2⟩) hO (fun h => by cases h) (by kernel_rfl) ⟨rfl, rfl, rfl, hq16, rfl, rfl, rfl, rfl, rfl, rfl, trivial⟩).ht ?_
      refine HT.seq ?_
      refine HT.reg1 [0, 2, 5, 6, 7, 8, 64] [⟨none, .no⟩, ⟨none, .no⟩, ⟨none, .no⟩, ⟨none, .no⟩] ⟨[(0, .one (.dat .str a0)), (2, .one (.ptr 0 0)), (5, .one (.dat (.int .i64) (wadd .i64 q6 (2 : Int)))), (6, .one (.ptr 1 0)), (7, .one (.dat (.int .i64) q13)), (8, .one (.dat (.int .i64) q15)), (64, .one (.dat .bool (decide ((lenI a0) < q15))))], [(1, .box [.dat .str (cut a0 (5 : Int) q6), .dat (.int .i64) (IntKind.wrap .i64 ((((List.getD a0 (Int.toNat q6) 0 : UInt8).toNat : Nat)) : Int)), .dat (.int .i64) q11, .nilS, .nilS]), (0, .box [.dat .str ([] : List UInt8), .dat (.int .i64) (0 : Int), .dat (.int .i64) (0 : Int), .nilS, .nilS])], 2⟩ hP hN (by kernel_rfl) allNil ?_
      rcases of_bif hr with ⟨hb17, hr⟩ | ⟨hb17, hr⟩
      · refine HT.cond1 rfl hb17 ?_
        refine HT.reg1 [2, 3, 4] [⟨none, .no⟩, ⟨none, .no⟩, ⟨none, .no⟩, ⟨none, .no⟩] ⟨[(2, .one (.ptr 0 0)), (3, .one (.dat (.int .i64) (0 : Int))), (4, .one (.dat .bool false))], [(0, .box [.dat .str ([] : List UInt8), .dat (.int .i64) (0 : Int), .dat (.int .i64) (0 : Int), .nilS, .nilS]), (1, .box [.dat .str (cut a0 (5 : Int) q6), .dat (.int .i64) (IntKind.wrap .i64 ((((List.getD a0 (Int.toNat q6) 0 : UInt8).toNat : Nat)) : Int)), .dat (.int .i64) q11, .nilS, .nilS]), (0, .box [.dat .str ([] : List UInt8), .dat (.int .i64) (0 : Int), .dat (.int .i64) (0 : Int), .nilS, .nilS])], 2⟩ hP hN (by kernel_rfl) allNil ?_
        have hr := of_some hr
        subst hr
        exact HT.ret (qThenR ⟨[.agg [.dat .str ([] : List UInt8), .dat (.int .i64) (0 : Int), .dat (.int .i64) (0 : Int), .nilS, .nilS], .one (.dat (.int .i64) (0 : Int)), .one (.dat .bool false)], [], [], by kernel_rfl, by kernel_rfl, rfl, (.inl rfl), by kernel_rfl, trivial⟩)
      · refine HT.cond0 rfl hb17 ?_
        refine HT.skip (qThen ?_)
        refine HT.seq ?_
        refine HT.reg1 [0, 2, 5, 6, 7, 8, 66, 67] [⟨none, .no⟩, ⟨none, .no⟩] ⟨[(0, .one (.dat .str a0)), (2, .one (.ptr 0 0)), (5, .one (.dat (.int .i64) (wadd .i64 q6 (2 : Int)))), (6, .one (.ptr 1 0)), (7, .one (.dat (.int .i64) q13)), (8, .one (.dat (.int .i64) q15)), (66, .one (.dat (.int .i64) q13)), (67, .one (.dat (.int .i64) (0 : Int)))], [(1, .box [.dat .str (cut a0 (5 : Int) q6), .dat (.int .i64) (IntKind.wrap .i64 ((((List.getD a0 (Int.toNat q6) 0 : UInt8).toNat : Nat)) : Int)), .dat (.int .i64) q11, .nilS, .nilS]), (0, .box [.dat .str ([] : List UInt8), .dat (.int .i64) (0 : Int), .dat (.int .i64) (0 : Int), .nilS, .nilS])], 2⟩ hP hN (by kernel_rfl) allNil ?_
        refine HT.block ?_
        obtain ⟨r19, hL46, hr⟩ := of_bind hr
        refine (Le.cv (s := ⟨[(0, 0), (1, 1)], [2], [], false⟩) (own := []) (ps := [a0 = a0, (wadd .i64 q6 (2 : Int)) = (wadd .i64 q6 (2 : Int)), q13 = q13, q15 = q15, q13 = q13, (0 : Int) = (0 : Int), ([] : List UInt8) = ([] : List UInt8), (0 : Int) = (0 : Int), (0 : Int) = (0 : Int), (cut a0 (5 : Int) q6) = (cut a0 (5 : Int) q6), (IntKind.wrap .i64 ((((List.getD a0 (Int.toNat q6) 0 : UInt8).toNat : Nat)) : Int)) = (IntKind.wrap .i64 ((((List.getD a0 (Int.toNat q6) 0 : UInt8).toNat : Nat)) : Int)), q11 = q11, ([] : List Int) = []]) (st' := ⟨[(0, .one (.dat .str a0)), (2, .one (.ptr 0 0)), (5, .one (.dat (.int .i64) (wadd .i64 q6 (2 : Int)))), (6, .one (.ptr 1 0)), (7, .one (.dat (.int .i64) q13)), (8, .one (.dat (.int .i64) q15)), (66, .one (.dat (.int .i64) q13)), (67, .one (.dat (.int .i64) (0 : Int)))], [(0, .box [.dat .str ([] : List UInt8), .dat (.int .i64) (0 : Int), .dat (.int .i64) (0 : Int), .nilS, .nilS]), (1, .box [.dat .str (cut a0 (5 : Int) q6), .dat (.int .i64) (IntKind.wrap .i64 ((((List.getD a0 (Int.toNat q6) 0 : UInt8).toNat : Nat)) : Int)), .dat (.int .i64) q11, .all 2, .nilS]), (2, .seq (.int .i64) ([] : List Int))], 3⟩) hO (fun h => by cases h) (by kernel_rfl) ⟨rfl, rfl, rfl, rfl, rfl, rfl, rfl, rfl, rfl, rfl, rfl, rfl, rfl, trivial⟩).ht ?_
        refine HT.loopE (s := ((0 : Int), ([] : List Int))) (fun (s18 : Int × List Int) => ⟨[(0, .one (.dat .str a0)), (2, .one (.ptr 0 0)), (5, .one (.dat (.int .i64) (wadd .i64 q6 (2 : Int)))), (6, .one (.ptr 1 0)), (7, .one (.dat (.int .i64) q13)), (8, .one (.dat (.int .i64) q15)), (66, .one (.dat (.int .i64) q13)), (67, .one (.dat (.int .i64) s18.1))], [(0, .box [.dat .str ([] : List UInt8), .dat (.int .i64) (0 : Int), .dat (.int .i64) (0 : Int), .nilS, .nilS]), (1, .box [.dat .str (cut a0 (5 : Int) q6), .dat (.int .i64) (IntKind.wrap .i64 ((((List.getD a0 (Int.toNat q6) 0 : UInt8).toNat : Nat)) : Int)), .dat (.int .i64) q11, .all 2, .nilS]), (2, .seq (.int .i64) s18.2)], 3⟩) (fun (r20 : List Int) => (.exit 0, ⟨[(0, .one (.dat .str a0)), (2, .one (.ptr 0 0)), (5, .one (.dat (.int .i64) (wadd .i64 q6 (2 : Int)))), (6, .one (.ptr 1 0)), (7, .one (.dat (.int .i64) q13)), (8, .one (.dat (.int .i64) q15))], [(0, .box [.dat .str ([] : List UInt8), .dat (.int .i64) (0 : Int), .dat (.int .i64) (0 : Int), .nilS, .nilS]), (1, .box [.dat .str (cut a0 (5 : Int) q6), .dat (.int .i64) (IntKind.wrap .i64 ((((List.getD a0 (Int.toNat q6) 0 : UInt8).toNat : Nat)) : Int)), .dat (.int .i64) q11, .all 2, .nilS]), (2, .seq (.int .i64) r20)], 3⟩)) hL46 ?_ (fun s18 x40 hx41 hk42 => ?_)
        · refine (qBlockX (qThen ?_))
          refine HT.seq ?_
          refine HT.reg1 [0, 2, 5, 6, 7, 8, 86, 87] [⟨none, .no⟩, ⟨none, .no⟩, ⟨none, .no⟩, ⟨none, .no⟩] ⟨[(0, .one (.dat .str a0)), (2, .one (.ptr 0 0)), (5, .one (.dat (.int .i64) (wadd .i64 q6 (2 : Int)))), (6, .one (.ptr 1 0)), (7, .one (.dat (.int .i64) q13)), (8, .one (.dat (.int .i64) q15)), (86, .one (.dat (.int .i64) (IntKind.wrap .i64 ((((List.getD a0 (Int.toNat q6) 0 : UInt8).toNat : Nat)) : Int)))), (87, .one (.dat (.int .i64) (0 : Int)))], [(0, .box [.dat .str ([] : List UInt8), .dat (.int .i64) (0 : Int), .dat (.int .i64) (0 : Int), .nilS, .nilS]), (1, .box [.dat .str (cut a0 (5 : Int) q6), .dat (.int .i64) (IntKind.wrap .i64 ((((List.getD a0 (Int.toNat q6) 0 : UInt8).toNat : Nat)) : Int)), .dat (.int .i64) q11, .all 2, .nilS]), (2, .seq (.int .i64) r19)], 3⟩ hP hN (by kernel_rfl) allNil ?_
          refine HT.block ?_
          obtain ⟨r22, hL39, hr⟩ := of_bind hr
          refine (Le.cv (s := ⟨[(0, 0), (1, 1), (2, 2)], [3], [], false⟩) (own := []) (ps := [a0 = a0, (wadd .i64 q6 (2 : Int)) = (wadd .i64 q6 (2 : Int)), q13 = q13, q15 = q15, (IntKind.wrap .i64 ((((List.getD a0 (Int.toNat q6) 0 : UInt8).toNat : Nat)) : Int)) = (IntKind.wrap .i64 ((((List.getD a0 (Int.toNat q6) 0 : UInt8).toNat : Nat)) : Int)), (0 : Int) = (0 : Int), ([] : List UInt8) = ([] : List UInt8), (0 : Int) = (0 : Int), (0 : Int) = (0 : Int), (cut a0 (5 : Int) q6) = (cut a0 (5 : Int) q6), (IntKind.wrap .i64 ((((List.getD a0 (Int.toNat q6) 0 : UInt8).toNat : Nat)) : Int)) = (IntKind.wrap .i64 ((((List.getD a0 (Int.toNat q6) 0 : UInt8).toNat : Nat)) : Int)), q11 = q11, r19 = r19, ([] : List Bool) = []]) (st' := ⟨[(0, .one (.dat .str a0)), (2, .one (.ptr 0 0)), (5, .one (.dat (.int .i64) (wadd .i64 q6 (2 : Int)))), (6, .one (.ptr 1 0)), (7, .one (.dat (.int .i64) q13)), (8, .one (.dat (.int .i64) q15)), (86, .one (.dat (.int .i64) (IntKind.wrap .i64 ((((List.getD a0 (Int.toNat q6) 0 : UInt8).toNat : Nat)) : Int)))), (87, .one (.dat (.int .i64) (0 : Int)))], [(0, .box [.dat .str ([] : List UInt8), .dat (.int .i64) (0 : Int), .dat (.int .i64) (0 : Int), .nilS, .nilS]), (1, .box [.dat .str (cut a0 (5 : Int) q6), .dat (.int .i64) (IntKind.wrap .i64 ((((List.getD a0 (Int.toNat q6) 0 : UInt8).toNat : Nat)) : Int)), .dat (.int .i64) q11, .all 2, .all 3]), (2, .seq (.int .i64) r19), (3, .seq .bool ([] : List Bool))], 4⟩) hO (fun h => by cases h) (by kernel_rfl) ⟨rfl, rfl, rfl, rfl, rfl, rfl, rfl, rfl, rfl, rfl, rfl, rfl, rfl, rfl, trivial⟩).ht ?_
          refine HT.loopE (s := ((0 : Int), ([] : List Bool))) (fun (s21 : Int × List Bool) => ⟨[(0, .one (.dat .str a0)), (2, .one (.ptr 0 0)), (5, .one (.dat (.int .i64) (wadd .i64 q6 (2 : Int)))), (6, .one (.ptr 1 0)), (7, .one (.dat (.int .i64) q13)), (8, .one (.dat (.int .i64) q15)), (86, .one (.dat (.int .i64) (IntKind.wrap .i64 ((((List.getD a0 (Int.toNat q6) 0 : UInt8).toNat : Nat)) : Int)))), (87, .one (.dat (.int .i64) s21.1))], [(0, .box [.dat .str ([] : List UInt8), .dat (.int .i64) (0 : Int), .dat (.int .i64) (0 : Int), .nilS, .nilS]), (1, .box [.dat .str (cut a0 (5 : Int) q6), .dat (.int .i64) (IntKind.wrap .i64 ((((List.getD a0 (Int.toNat q6) 0 : UInt8).toNat : Nat)) : Int)), .dat (.int .i64) q11, .all 2, .all 3]), (2, .seq (.int .i64) r19), (3, .seq .bool s21.2)], 4⟩) (fun (r23 : List Bool) => (.exit 2, ⟨[(0, .one (.dat .str a0)), (2, .one (.ptr 0 0)), (6, .one (.ptr 1 0)), (8, .one (.dat (.int .i64) q15))], [(0, .box [.dat .str ([] : List UInt8), .dat (.int .i64) (0 : Int), .dat (.int .i64) (0 : Int), .nilS, .nilS]), (1, .box [.dat .str (cut a0 (5 : Int) q6), .dat (.int .i64) (IntKind.wrap .i64 ((((List.getD a0 (Int.toNat q6) 0 : UInt8).toNat : Nat)) : Int)), .dat (.int .i64) q11, .all 2, .all 3]), (2, .seq (.int .i64) r19), (3, .seq .bool r23)], 4⟩)) hL39 ?_ (fun s21 x33 hx34 hk35 => ?_)
          · refine (qBlockX (qThen ?_))
            obtain ⟨y24, hc25, hr⟩ := of_bind hr
            refine HT.reg1 [0, 2, 6, 8, 11, 12] [⟨none, .no⟩, ⟨none, .call [.imm (.st (.pair .str (.st (.pair (.int .i64) (.pair (.int .i64) (.pair (.sl (.int .i64)) (.sl .bool)))))))] [⟨false, .str, y24.1⟩, ⟨false, .bool, y24.2⟩] []⟩, ⟨none, .no⟩, ⟨none, .no⟩, ⟨none, .no⟩, ⟨none, .no⟩, ⟨none, .no⟩] ⟨[(0, .one (.dat .str a0)), (2, .one (.ptr 0 0)), (6, .one (.ptr 1 0)), (8, .one (.dat (.int .i64) q15)), (11, .one (.dat .str y24.1)), (12, .one (.dat .bool y24.2))], [(0, .box [.dat .str ([] : List UInt8), .dat (.int .i64) (0 : Int), .dat (.int .i64) (0 : Int), .nilS, .nilS]), (1, .box [.dat .str (cut a0 (5 : Int) q6), .dat (.int .i64) (IntKind.wrap .i64 ((((List.getD a0 (Int.toNat q6) 0 : UInt8).toNat : Nat)) : Int)), .dat (.int .i64) q11, .all 2, .all 3]), (2, .seq (.int .i64) r19), (3, .seq .bool r22)], 4⟩ hP hN (by kernel_rfl) (allCons (f115_ok hc25) allNil) ?_
            refine HT.seq ?_
            obtain ⟨v26', hT28, hr⟩ := of_bind hr
            refine HT.join (fun (v26 : Bool) => ⟨[(2, .one (.ptr 0 0)), (6, .one (.ptr 1 0)), (8, .one (.dat (.int .i64) q15)), (118, .one (.dat .bool v26))], [(0, .box [.dat .str ([] : List UInt8), .dat (.int .i64) (0 : Int), .dat (.int .i64) (0 : Int), .nilS, .nilS]), (1, .box [.dat .str (cut a0 (5 : Int) q6), .dat (.int .i64) (IntKind.wrap .i64 ((((List.getD a0 (Int.toNat q6) 0 : UInt8).toNat : Nat)) : Int)), .dat (.int .i64) q11, .all 2, .all 3]), (2, .seq (.int .i64) r19), (3, .seq .bool r22)], 4⟩) (fun v => v = v26') (fun v26 hv27 => ?_) (fun cont => ?_)
            · subst hv27
              rcases of_bif hr with ⟨hb29, hr⟩ | ⟨hb29, hr⟩
              · refine HT.cond1 rfl hb29 ?_
                refine HT.reg1 [2, 3, 4] [⟨none, .no⟩, ⟨none, .no⟩, ⟨none, .no⟩, ⟨none, .no⟩] ⟨[(2, .one (.ptr 0 0)), (3, .one (.dat (.int .i64) (0 : Int))), (4, .one (.dat .bool false))], [(0, .box [.dat .str ([] : List UInt8), .dat (.int .i64) (0 : Int), .dat (.int .i64) (0 : Int), .nilS, .nilS]), (0, .box [.dat .str ([] : List UInt8), .dat (.int .i64) (0 : Int), .dat (.int .i64) (0 : Int), .nilS, .nilS]), (1, .box [.dat .str (cut a0 (5 : Int) q6), .dat (.int .i64) (IntKind.wrap .i64 ((((List.getD a0 (Int.toNat q6) 0 : UInt8).toNat : Nat)) : Int)), .dat (.int .i64) q11, .all 2, .all 3]), (2, .seq (.int .i64) r19), (3, .seq .bool r22)], 4⟩ hP hN (by kernel_rfl) allNil ?_
                have hr := of_some hr
                subst hr
                exact HT.ret (qThenR ⟨[.agg [.dat .str ([] : List UInt8), .dat (.int .i64) (0 : Int), .dat (.int .i64) (0 : Int), .nilS, .nilS], .one (.dat (.int .i64) (0 : Int)), .one (.dat .bool false)], [], [], by kernel_rfl, by kernel_rfl, rfl, (.inl rfl), by kernel_rfl, trivial⟩)
              · refine HT.cond0 rfl hb29 ?_
                refine HT.skip (qThen ?_)
                refine HT.reg1 [2, 3, 4] [⟨none, .no⟩, ⟨none, .no⟩, ⟨none, .no⟩, ⟨none, .no⟩, ⟨none, .no⟩] ⟨[(2, .one (.ptr 0 0)), (3, .one (.dat (.int .i64) q15)), (4, .one (.dat .bool true))], [(0, .box [.dat .str (cut a0 (5 : Int) q6), .dat (.int .i64) (IntKind.wrap .i64 ((((List.getD a0 (Int.toNat q6) 0 : UInt8).toNat : Nat)) : Int)), .dat (.int .i64) q11, .all 2, .all 3]), (0, .box [.dat .str ([] : List UInt8), .dat (.int .i64) (0 : Int), .dat (.int .i64) (0 : Int), .nilS, .nilS]), (1, .box [.dat .str (cut a0 (5 : Int) q6), .dat (.int .i64) (IntKind.wrap .i64 ((((List.getD a0 (Int.toNat q6) 0 : UInt8).toNat : Nat)) : Int)), .dat (.int .i64) q11, .all 2, .all 3]), (2, .seq (.int .i64) r19), (3, .seq .bool r22)], 4⟩ hP hN (by kernel_rfl) allNil ?_
                have hr := of_some hr
                subst hr
                exact HT.ret ⟨[.agg [.dat .str (cut a0 (5 : Int) q6), .dat (.int .i64) (IntKind.wrap .i64 ((((List.getD a0 (Int.toNat q6) 0 : UInt8).toNat : Nat)) : Int)), .dat (.int .i64) q11, .all 2, .all 3], .one (.dat (.int .i64) q15), .one (.dat .bool true)], [2, 3], [], by kernel_rfl, by kernel_rfl, rfl, (.inl rfl), by kernel_rfl, trivial⟩
            · rcases of_bif hT28 with ⟨hb30, hT28⟩ | ⟨hb30, hT28⟩
              · refine HT.reg (rs := [⟨none, .no⟩, ⟨none, .no⟩, ⟨none, .no⟩, ⟨some true, .no⟩, ⟨some true, .no⟩, ⟨some true, .no⟩, ⟨some true, .no⟩, ⟨none, .tv true⟩]) (st' := ⟨[(118, .one (.dat .bool true)), (117, .und), (116, .und), (115, .und), (114, .und), (113, .one (.dat .bool (!y24.2))), (112, .one (.dat .bool (!y24.2))), (111, .one (.dat .bool y24.2)), (0, .one (.dat .str a0)), (2, .one (.ptr 0 0)), (6, .one (.ptr 1 0)), (8, .one (.dat (.int .i64) q15)), (11, .one (.dat .str y24.1)), (12, .one (.dat .bool y24.2))], [(0, .box [.dat .str ([] : List UInt8), .dat (.int .i64) (0 : Int), .dat (.int .i64) (0 : Int), .nilS, .nilS]), (1, .box [.dat .str (cut a0 (5 : Int) q6), .dat (.int .i64) (IntKind.wrap .i64 ((((List.getD a0 (Int.toNat q6) 0 : UInt8).toNat : Nat)) : Int)), .dat (.int .i64) q11, .all 2, .all 3]), (2, .seq (.int .i64) r19), (3, .seq .bool r22)], 4⟩) hP hN (by kernel_rfl) (allCons hb30 (allCons hb30 (allCons hb30 (allCons hb30 (allCons hb30 allNil))))) (qThen ?_)
                exact (Le.cv (s := ⟨[(0, 0), (1, 1), (2, 2), (3, 3)], [], [], false⟩) (own := []) (ps := [q15 = q15, true = true, ([] : List UInt8) = ([] : List UInt8), (0 : Int) = (0 : Int), (0 : Int) = (0 : Int), (cut a0 (5 : Int) q6) = (cut a0 (5 : Int) q6), (IntKind.wrap .i64 ((((List.getD a0 (Int.toNat q6) 0 : UInt8).toNat : Nat)) : Int)) = (IntKind.wrap .i64 ((((List.getD a0 (Int.toNat q6) 0 : UInt8).toNat : Nat)) : Int)), q11 = q11, r19 = r19, r22 = r22]) (st' := ⟨[(2, .one (.ptr 0 0)), (6, .one (.ptr 1 0)), (8, .one (.dat (.int .i64) q15)), (118, .one (.dat .bool true))], [(0, .box [.dat .str ([] : List UInt8), .dat (.int .i64) (0 : Int), .dat (.int .i64) (0 : Int), .nilS, .nilS]), (1, .box [.dat .str (cut a0 (5 : Int) q6), .dat (.int .i64) (IntKind.wrap .i64 ((((List.getD a0 (Int.toNat q6) 0 : UInt8).toNat : Nat)) : Int)), .dat (.int .i64) q11, .all 2, .all 3]), (2, .seq (.int .i64) r19), (3, .seq .bool r22)], 4⟩) hO (fun h => by cases h) (by kernel_rfl) ⟨rfl, rfl, rfl, rfl, rfl, rfl, rfl, rfl, rfl, rfl, trivial⟩).ht (cont true (of_some hT28))
              · obtain ⟨y31, hc32, hT28⟩ := of_bind hT28
                refine HT.reg (rs := [⟨none, .no⟩, ⟨none, .no⟩, ⟨none, .no⟩, ⟨some false, .no⟩, ⟨some false, .no⟩, ⟨some false, .call [.imm .str, .imm .str] [⟨false, .bool, y31⟩] []⟩, ⟨some false, .no⟩, ⟨none, .tv false⟩]) (st' := ⟨[(118, .one (.dat .bool (!y31))), (117, .one (.dat .bool (!y31))), (116, .one (.dat .bool y31)), (115, .one (.dat .str y24.1)), (114, .one (.dat .str a0)), (113, .one (.dat .bool (!y24.2))), (112, .one (.dat .bool (!y24.2))), (111, .one (.dat .bool y24.2)), (0, .one (.dat .str a0)), (2, .one (.ptr 0 0)), (6, .one (.ptr 1 0)), (8, .one (.dat (.int .i64) q15)), (11, .one (.dat .str y24.1)), (12, .one (.dat .bool y24.2))], [(0, .box [.dat .str ([] : List UInt8), .dat (.int .i64) (0 : Int), .dat (.int .i64) (0 : Int), .nilS, .nilS]), (1, .box [.dat .str (cut a0 (5 : Int) q6), .dat (.int .i64) (IntKind.wrap .i64 ((((List.getD a0 (Int.toNat q6) 0 : UInt8).toNat : Nat)) : Int)), .dat (.int .i64) q11, .all 2, .all 3]), (2, .seq (.int .i64) r19), (3, .seq .bool r22)], 4⟩) hP hN (by kernel_rfl) (allCons hb30 (allCons hb30 (allCons hb30 (allCons (f152_ok hc32) (allCons hb30 (allCons hb30 allNil)))))) (qThen ?_)
                exact (Le.cv (s := ⟨[(0, 0), (1, 1), (2, 2), (3, 3)], [], [], false⟩) (own := []) (ps := [q15 = q15, (!y31) = (!y31), ([] : List UInt8) = ([] : List UInt8), (0 : Int) = (0 : Int), (0 : Int) = (0 : Int), (cut a0 (5 : Int) q6) = (cut a0 (5 : Int) q6), (IntKind.wrap .i64 ((((List.getD a0 (Int.toNat q6) 0 : UInt8).toNat : Nat)) : Int)) = (IntKind.wrap .i64 ((((List.getD a0 (Int.toNat q6) 0 : UInt8).toNat : Nat)) : Int)), q11 = q11, r19 = r19, r22 = r22]) (st' := ⟨[(2, .one (.ptr 0 0)), (6, .one (.ptr 1 0)), (8, .one (.dat (.int .i64) q15)), (118, .one (.dat .bool (!y31)))], [(0, .box [.dat .str ([] : List UInt8), .dat (.int .i64) (0 : Int), .dat (.int .i64) (0 : Int), .nilS, .nilS]), (1, .box [.dat .str (cut a0 (5 : Int) q6), .dat (.int .i64) (IntKind.wrap .i64 ((((List.getD a0 (Int.toNat q6) 0 : UInt8).toNat : Nat)) : Int)), .dat (.int .i64) q11, .all 2, .all 3]), (2, .seq (.int .i64) r19), (3, .seq .bool r22)], 4⟩) hO (fun h => by cases h) (by kernel_rfl) ⟨rfl, rfl, rfl, rfl, rfl, rfl, rfl, rfl, rfl, rfl, trivial⟩).ht (cont (!y31) (of_some hT28))
          · refine HT.reg1 [0, 2, 5, 6, 7, 8, 86, 87, 88] [⟨none, .no⟩] ⟨[(0, .one (.dat .str a0)), (2, .one (.ptr 0 0)), (5, .one (.dat (.int .i64) (wadd .i64 q6 (2 : Int)))), (6, .one (.ptr 1 0)), (7, .one (.dat (.int .i64) q13)), (8, .one (.dat (.int .i64) q15)), (86, .one (.dat (.int .i64) (IntKind.wrap .i64 ((((List.getD a0 (Int.toNat q6) 0 : UInt8).toNat : Nat)) : Int)))), (87, .one (.dat (.int .i64) s21.1)), (88, .one (.dat .bool (decide (s21.1 < (IntKind.wrap .i64 ((((List.getD a0 (Int.toNat q6) 0 : UInt8).toNat : Nat)) : Int))))))], [(0, .box [.dat .str ([] : List UInt8), .dat (.int .i64) (0 : Int), .dat (.int .i64) (0 : Int), .nilS, .nilS]), (1, .box [.dat .str (cut a0 (5 : Int) q6), .dat (.int .i64) (IntKind.wrap .i64 ((((List.getD a0 (Int.toNat q6) 0 : UInt8).toNat : Nat)) : Int)), .dat (.int .i64) q11, .all 2, .all 3]), (2, .seq (.int .i64) r19), (3, .seq .bool s21.2)], 4⟩ hP hN (by kernel_rfl) allNil ?_
            refine HT.seq ?_
            rcases of_bif hx34 with ⟨hb36, hx34⟩ | ⟨hb36, hx34⟩
            · refine HT.cond1 rfl hb36 ?_
              refine HT.skip (qThen ?_)
              refine HT.seq ?_
              refine HT.block ?_
              refine HT.reg1 [0, 2, 5, 6, 7, 8, 10, 86, 87] [⟨none, .no⟩, ⟨none, .no⟩] ⟨[(0, .one (.dat .str a0)), (2, .one (.ptr 0 0)), (5, .one (.dat (.int .i64) (wadd .i64 q6 (2 : Int)))), (6, .one (.ptr 1 0)), (7, .one (.dat (.int .i64) q13)), (8, .one (.dat (.int .i64) q15)), (10, .one (.dat (.int .i64) s21.1)), (86, .one (.dat (.int .i64) (IntKind.wrap .i64 ((((List.getD a0 (Int.toNat q6) 0 : UInt8).toNat : Nat)) : Int)))), (87, .one (.dat (.int .i64) s21.1))], [(0, .box [.dat .str ([] : List UInt8), .dat (.int .i64) (0 : Int), .dat (.int .i64) (0 : Int), .nilS, .nilS]), (1, .box [.dat .str (cut a0 (5 : Int) q6), .dat (.int .i64) (IntKind.wrap .i64 ((((List.getD a0 (Int.toNat q6) 0 : UInt8).toNat : Nat)) : Int)), .dat (.int .i64) q11, .all 2, .all 3]), (2, .seq (.int .i64) r19), (3, .seq .bool s21.2)], 4⟩ hP hN (by kernel_rfl) allNil ?_
              obtain ⟨hg37, hx34⟩ := of_guard hx34
              obtain ⟨hg38, hx34⟩ := of_guard hx34
              refine drawS (h := 12) (hrs := [⟨⟨none, .no⟩, []⟩, ⟨⟨none, .no⟩, [0]⟩, ⟨⟨none, .no⟩, [0, 1]⟩, ⟨⟨none, .no⟩, []⟩, ⟨⟨none, .no⟩, []⟩, ⟨⟨none, .no⟩, []⟩, ⟨⟨none, .no⟩, [4, 5]⟩, ⟨⟨none, .no⟩, []⟩, ⟨⟨none, .no⟩, [4, 5, 6, 7]⟩, ⟨⟨none, .no⟩, [3, 4, 5, 6, 7, 8]⟩, ⟨⟨none, .no⟩, [3, 4, 5, 6, 7, 8, 9]⟩, ⟨⟨none, .ty .bool⟩, [3, 4, 5, 6, 7, 8, 9, 10]⟩]) (tds := [[0, 1, 2, 3, 4, 5, 6, 7, 8, 9, 10, 11], [0, 1, 2, 3, 4, 5, 6, 7, 8, 9, 10, 11, 12], [0, 1, 2, 3, 4, 5, 6, 7, 8, 9, 10, 11, 12, 13], [0, 1, 2, 3, 4, 5, 6, 7, 8, 9, 10, 11, 12, 13, 14]]) (rs := [⟨none, .ty .bool⟩, ⟨none, .no⟩, ⟨none, .no⟩, ⟨none, .no⟩]) (st' := ⟨[(104, .one (.ptr 1 4)), (103, .one (.ptr 1 1)), (102, .one (.all 5)), (101, .one (.all 4)), (100, .one (.dat .bool (((((List.getD a0 (Int.toNat (wadd .i64 (wadd .i64 (wadd .i64 q6 (2 : Int)) q13) s21.1)) 0 : UInt8).toNat : Nat)) : Int) == (1 : Int)))), (99, .one (.dat (.int .u8) ((((List.getD a0 (Int.toNat (wadd .i64 (wadd .i64 (wadd .i64 q6 (2 : Int)) q13) s21.1)) 0 : UInt8).toNat : Nat)) : Int))), (98, .one (.dat (.int .i64) (wadd .i64 (wadd .i64 (wadd .i64 q6 (2 : Int)) q13) s21.1))), (97, .one (.dat (.int .i64) s21.1)), (96, .one (.dat (.int .i64) (wadd .i64 (wadd .i64 q6 (2 : Int)) q13))), (95, .one (.dat (.int .i64) q13)), (94, .one (.dat (.int .i64) (wadd .i64 q6 (2 : Int)))), (93, .one (.dat .str a0)), (92, .one (.all 3)), (91, .one (.ptr 1 4)), (90, .one (.ptr 1 1)), (0, .one (.dat .str a0)), (2, .one (.ptr 0 0)), (5, .one (.dat (.int .i64) (wadd .i64 q6 (2 : Int)))), (6, .one (.ptr 1 0)), (7, .one (.dat (.int .i64) q13)), (8, .one (.dat (.int .i64) q15)), (10, .one (.dat (.int .i64) s21.1)), (86, .one (.dat (.int .i64) (IntKind.wrap .i64 ((((List.getD a0 (Int.toNat q6) 0 : UInt8).toNat : Nat)) : Int)))), (87, .one (.dat (.int .i64) s21.1))], [(1, .box [.dat .str (cut a0 (5 : Int) q6), .dat (.int .i64) (IntKind.wrap .i64 ((((List.getD a0 (Int.toNat q6) 0 : UInt8).toNat : Nat)) : Int)), .dat (.int .i64) q11, .all 2, .all 5]), (3, .gone), (5, .seq .bool (s21.2 ++ ([(((((List.getD a0 (Int.toNat (wadd .i64 (wadd .i64 (wadd .i64 q6 (2 : Int)) q13) s21.1)) 0 : UInt8).toNat : Nat)) : Int) == (1 : Int))] : List Bool))), (4, .seq .bool ([(((((List.getD a0 (Int.toNat (wadd .i64 (wadd .i64 (wadd .i64 q6 (2 : Int)) q13) s21.1)) 0 : UInt8).toNat : Nat)) : Int) == (1 : Int))] : List Bool)), (0, .box [.dat .str ([] : List UInt8), .dat (.int .i64) (0 : Int), .dat (.int .i64) (0 : Int), .nilS, .nilS]), (1, .box [.dat .str (cut a0 (5 : Int) q6), .dat (.int .i64) (IntKind.wrap .i64 ((((List.getD a0 (Int.toNat q6) 0 : UInt8).toNat : Nat)) : Int)), .dat (.int .i64) q11, .all 2, .all 3]), (2, .seq (.int .i64) r19), (3, .seq .bool s21.2)], 6⟩) hP hN (by kernel_rfl) (by kernel_rfl) (allCons hg37 (allCons hg38 allNil)) (qBlock (qThen ?_))
              have hx34 := of_some hx34
              subst hx34
              refine HT.reg (rs := [⟨none, .no⟩, ⟨none, .no⟩]) (st' := ⟨[(87, .one (.dat (.int .i64) (wadd .i64 s21.1 (1 : Int)))), (105, .one (.dat (.int .i64) (wadd .i64 s21.1 (1 : Int)))), (104, .one (.ptr 1 4)), (103, .one (.ptr 1 1)), (102, .one (.all 5)), (101, .one (.all 4)), (100, .one (.dat .bool (((((List.getD a0 (Int.toNat (wadd .i64 (wadd .i64 (wadd .i64 q6 (2 : Int)) q13) s21.1)) 0 : UInt8).toNat : Nat)) : Int) == (1 : Int)))), (99, .one (.dat (.int .u8) ((((List.getD a0 (Int.toNat (wadd .i64 (wadd .i64 (wadd .i64 q6 (2 : Int)) q13) s21.1)) 0 : UInt8).toNat : Nat)) : Int))), (98, .one (.dat (.int .i64) (wadd .i64 (wadd .i64 (wadd .i64 q6 (2 : Int)) q13) s21.1))), (97, .one (.dat (.int .i64) s21.1)), (96, .one (.dat (.int .i64) (wadd .i64 (wadd .i64 q6 (2 : Int)) q13))), (95, .one (.dat (.int .i64) q13)), (94, .one (.dat (.int .i64) (wadd .i64 q6 (2 : Int)))), (93, .one (.dat .str a0)), (92, .one (.all 3)), (91, .one (.ptr 1 4)), (90, .one (.ptr 1 1)), (0, .one (.dat .str a0)), (2, .one (.ptr 0 0)), (5, .one (.dat (.int .i64) (wadd .i64 q6 (2 : Int)))), (6, .one (.ptr 1 0)), (7, .one (.dat (.int .i64) q13)), (8, .one (.dat (.int .i64) q15)), (10, .one (.dat (.int .i64) s21.1)), (86, .one (.dat (.int .i64) (IntKind.wrap .i64 ((((List.getD a0 (Int.toNat q6) 0 : UInt8).toNat : Nat)) : Int)))), (87, .one (.dat (.int .i64) s21.1))], [(1, .box [.dat .str (cut a0 (5 : Int) q6), .dat (.int .i64) (IntKind.wrap .i64 ((((List.getD a0 (Int.toNat q6) 0 : UInt8).toNat : Nat)) : Int)), .dat (.int .i64) q11, .all 2, .all 5]), (3, .gone), (5, .seq .bool (s21.2 ++ ([(((((List.getD a0 (Int.toNat (wadd .i64 (wadd .i64 (wadd .i64 q6 (2 : Int)) q13) s21.1)) 0 : UInt8).toNat : Nat)) : Int) == (1 : Int))] : List Bool))), (4, .seq .bool ([(((((List.getD a0 (Int.toNat (wadd .i64 (wadd .i64 (wadd .i64 q6 (2 : Int)) q13) s21.1)) 0 : UInt8).toNat : Nat)) : Int) == (1 : Int))] : List Bool)), (0, .box [.dat .str ([] : List UInt8), .dat (.int .i64) (0 : Int), .dat (.int .i64) (0 : Int), .nilS, .nilS]), (1, .box [.dat .str (cut a0 (5 : Int) q6), .dat (.int .i64) (IntKind.wrap .i64 ((((List.getD a0 (Int.toNat q6) 0 : UInt8).toNat : Nat)) : Int)), .dat (.int .i64) q11, .all 2, .all 3]), (2, .seq (.int .i64) r19), (3, .seq .bool s21.2)], 6⟩) hP hN (by kernel_rfl) allNil (qLoopN ⟨((wadd .i64 s21.1 (1 : Int)), (s21.2 ++ ([(((((List.getD a0 (Int.toNat (wadd .i64 (wadd .i64 (wadd .i64 q6 (2 : Int)) q13) s21.1)) 0 : UInt8).toNat : Nat)) : Int) == (1 : Int))] : List Bool))), rfl, Le.cv (s := ⟨[(0, 0), (1, 1), (2, 2), (5, 3)], [], [], false⟩) (own := []) (ps := [a0 = a0, (wadd .i64 q6 (2 : Int)) = (wadd .i64 q6 (2 : Int)), q13 = q13, q15 = q15, (IntKind.wrap .i64 ((((List.getD a0 (Int.toNat q6) 0 : UInt8).toNat : Nat)) : Int)) = (IntKind.wrap .i64 ((((List.getD a0 (Int.toNat q6) 0 : UInt8).toNat : Nat)) : Int)), (wadd .i64 s21.1 (1 : Int)) = (wadd .i64 s21.1 (1 : Int)), ([] : List UInt8) = ([] : List UInt8), (0 : Int) = (0 : Int), (0 : Int) = (0 : Int), (cut a0 (5 : Int) q6) = (cut a0 (5 : Int) q6), (IntKind.wrap .i64 ((((List.getD a0 (Int.toNat q6) 0 : UInt8).toNat : Nat)) : Int)) = (IntKind.wrap .i64 ((((List.getD a0 (Int.toNat q6) 0 : UInt8).toNat : Nat)) : Int)), q11 = q11, r19 = r19, (s21.2 ++ ([(((((List.getD a0 (Int.toNat (wadd .i64 (wadd .i64 (wadd .i64 q6 (2 : Int)) q13) s21.1)) 0 : UInt8).toNat : Nat)) : Int) == (1 : Int))] : List Bool)) = (s21.2 ++ ([(((((List.getD a0 (Int.toNat (wadd .i64 (wadd .i64 (wadd .i64 q6 (2 : Int)) q13) s21.1)) 0 : UInt8).toNat : Nat)) : Int) == (1 : Int))] : List Bool))]) (st' := ⟨[(0, .one (.dat .str a0)), (2, .one (.ptr 0 0)), (5, .one (.dat (.int .i64) (wadd .i64 q6 (2 : Int)))), (6, .one (.ptr 1 0)), (7, .one (.dat (.int .i64) q13)), (8, .one (.dat (.int .i64) q15)), (86, .one (.dat (.int .i64) (IntKind.wrap .i64 ((((List.getD a0 (Int.toNat q6) 0 : UInt8).toNat : Nat)) : Int)))), (87, .one (.dat (.int .i64) (wadd .i64 s21.1 (1 : Int))))], [(0, .box [.dat .str ([] : List UInt8), .dat (.int .i64) (0 : Int), .dat (.int .i64) (0 : Int), .nilS, .nilS]), (1, .box [.dat .str (cut a0 (5 : Int) q6), .dat (.int .i64) (IntKind.wrap .i64 ((((List.getD a0 (Int.toNat q6) 0 : UInt8).toNat : Nat)) : Int)), .dat (.int .i64) q11, .all 2, .all 3]), (2, .seq (.int .i64) r19), (3, .seq .bool (s21.2 ++ ([(((((List.getD a0 (Int.toNat (wadd .i64 (wadd .i64 (wadd .i64 q6 (2 : Int)) q13) s21.1)) 0 : UInt8).toNat : Nat)) : Int) == (1 : Int))] : List Bool)))], 4⟩) hO (fun h => by cases h) (by kernel_rfl) ⟨rfl, rfl, rfl, rfl, rfl, rfl, rfl, rfl, rfl, rfl, rfl, rfl, rfl, rfl, trivial⟩⟩)
            · refine HT.cond0 rfl hb36 ?_
              have hx34 := of_some hx34
              subst hx34
              refine (Le.cv (s := ⟨[(0, 0), (1, 1), (2, 2), (3, 3)], [], [], false⟩) (own := []) (ps := [a0 = a0, q15 = q15, ([] : List UInt8) = ([] : List UInt8), (0 : Int) = (0 : Int), (0 : Int) = (0 : Int), (cut a0 (5 : Int) q6) = (cut a0 (5 : Int) q6), (IntKind.wrap .i64 ((((List.getD a0 (Int.toNat q6) 0 : UInt8).toNat : Nat)) : Int)) = (IntKind.wrap .i64 ((((List.getD a0 (Int.toNat q6) 0 : UInt8).toNat : Nat)) : Int)), q11 = q11, r19 = r19, s21.2 = s21.2]) (st' := ⟨[(0, .one (.dat .str a0)), (2, .one (.ptr 0 0)), (6, .one (.ptr 1 0)), (8, .one (.dat (.int .i64) q15))], [(0, .box [.dat .str ([] : List UInt8), .dat (.int .i64) (0 : Int), .dat (.int .i64) (0 : Int), .nilS, .nilS]), (1, .box [.dat .str (cut a0 (5 : Int) q6), .dat (.int .i64) (IntKind.wrap .i64 ((((List.getD a0 (Int.toNat q6) 0 : UInt8).toNat : Nat)) : Int)), .dat (.int .i64) q11, .all 2, .all 3]), (2, .seq (.int .i64) r19), (3, .seq .bool s21.2)], 4⟩) hO (fun h => by cases h) (by kernel_rfl) ⟨rfl, rfl, rfl, rfl, rfl, rfl, rfl, rfl, rfl, rfl, trivial⟩).ht ?_
              exact HT.exit (qThenE (qLoopE (hk35 s21.2 rfl)))
        · refine HT.reg1 [0, 2, 5, 6, 7, 8, 66, 67, 68] [⟨none, .no⟩] ⟨[(0, .one (.dat .str a0)), (2, .one (.ptr 0 0)), (5, .one (.dat (.int .i64) (wadd .i64 q6 (2 : Int)))), (6, .one (.ptr 1 0)), (7, .one (.dat (.int .i64) q13)), (8, .one (.dat (.int .i64) q15)), (66, .one (.dat (.int .i64) q13)), (67, .one (.dat (.int .i64) s18.1)), (68, .one (.dat .bool (decide (s18.1 < q13))))], [(0, .box [.dat .str ([] : List UInt8), .dat (.int .i64) (0 : Int), .dat (.int .i64) (0 : Int), .nilS, .nilS]), (1, .box [.dat .str (cut a0 (5 : Int) q6), .dat (.int .i64) (IntKind.wrap .i64 ((((List.getD a0 (Int.toNat q6) 0 : UInt8).toNat : Nat)) : Int)), .dat (.int .i64) q11, .all 2, .nilS]), (2, .seq (.int .i64) s18.2)], 3⟩ hP hN (by kernel_rfl) allNil ?_
          refine HT.seq ?_
          rcases of_bif hx41 with ⟨hb43, hx41⟩ | ⟨hb43, hx41⟩
          · refine HT.cond1 rfl hb43 ?_
            refine HT.skip (qThen ?_)
            refine HT.seq ?_
            refine HT.block ?_
            refine HT.reg1 [0, 2, 5, 6, 7, 8, 9, 66, 67] [⟨none, .no⟩, ⟨none, .no⟩] ⟨[(0, .one (.dat .str a0)), (2, .one (.ptr 0 0)), (5, .one (.dat (.int .i64) (wadd .i64 q6 (2 : Int)))), (6, .one (.ptr 1 0)), (7, .one (.dat (.int .i64) q13)), (8, .one (.dat (.int .i64) q15)), (9, .one (.dat (.int .i64) s18.1)), (66, .one (.dat (.int .i64) q13)), (67, .one (.dat (.int .i64) s18.1))], [(0, .box [.dat .str ([] : List UInt8), .dat (.int .i64) (0 : Int), .dat (.int .i64) (0 : Int), .nilS, .nilS]), (1, .box [.dat .str (cut a0 (5 : Int) q6), .dat (.int .i64) (IntKind.wrap .i64 ((((List.getD a0 (Int.toNat q6) 0 : UInt8).toNat : Nat)) : Int)), .dat (.int .i64) q11, .all 2, .nilS]), (2, .seq (.int .i64) s18.2)], 3⟩ hP hN (by kernel_rfl) allNil ?_
            obtain ⟨hg44, hx41⟩ := of_guard hx41
            obtain ⟨hg45, hx41⟩ := of_guard hx41
            refine drawS (h := 10) (hrs := [⟨⟨none, .no⟩, []⟩, ⟨⟨none, .no⟩, [0]⟩, ⟨⟨none, .no⟩, [0, 1]⟩, ⟨⟨none, .no⟩, []⟩, ⟨⟨none, .no⟩, []⟩, ⟨⟨none, .no⟩, []⟩, ⟨⟨none, .no⟩, [4, 5]⟩, ⟨⟨none, .no⟩, [3, 4, 5, 6]⟩, ⟨⟨none, .no⟩, [3, 4, 5, 6, 7]⟩, ⟨⟨none, .ty (.int .i64)⟩, [3, 4, 5, 6, 7, 8]⟩]) (tds := [[0, 1, 2, 3, 4, 5, 6, 7, 8, 9], [0, 1, 2, 3, 4, 5, 6, 7, 8, 9, 10], [0, 1, 2, 3, 4, 5, 6, 7, 8, 9, 10, 11], [0, 1, 2, 3, 4, 5, 6, 7, 8, 9, 10, 11, 12]]) (rs := [⟨none, .ty (.int .i64)⟩, ⟨none, .no⟩, ⟨none, .no⟩, ⟨none, .no⟩]) (st' := ⟨[(82, .one (.ptr 1 3)), (81, .one (.ptr 1 1)), (80, .one (.all 4)), (79, .one (.all 3)), (78, .one (.dat (.int .i64) (IntKind.wrap .i64 ((((List.getD a0 (Int.toNat (wadd .i64 (wadd .i64 q6 (2 : Int)) s18.1)) 0 : UInt8).toNat : Nat)) : Int)))), (77, .one (.dat (.int .u8) ((((List.getD a0 (Int.toNat (wadd .i64 (wadd .i64 q6 (2 : Int)) s18.1)) 0 : UInt8).toNat : Nat)) : Int))), (76, .one (.dat (.int .i64) (wadd .i64 (wadd .i64 q6 (2 : Int)) s18.1))), (75, .one (.dat (.int .i64) s18.1)), (74, .one (.dat (.int .i64) (wadd .i64 q6 (2 : Int)))), (73, .one (.dat .str a0)), (72, .one (.all 2)), (71, .one (.ptr 1 3)), (70, .one (.ptr 1 1)), (0, .one (.dat .str a0)), (2, .one (.ptr 0 0)), (5, .one (.dat (.int .i64) (wadd .i64 q6 (2 : Int)))), (6, .one (.ptr 1 0)), (7, .one (.dat (.int .i64) q13)), (8, .one (.dat (.int .i64) q15)), (9, .one (.dat (.int .i64) s18.1)), (66, .one (.dat (.int .i64) q13)), (67, .one (.dat (.int .i64) s18.1))], [(1, .box [.dat .str (cut a0 (5 : Int) q6), .dat (.int .i64) (IntKind.wrap .i64 ((((List.getD a0 (Int.toNat q6) 0 : UInt8).toNat : Nat)) : Int)), .dat (.int .i64) q11, .all 4, .nilS]), (2, .gone), (4, .seq (.int .i64) (s18.2 ++ ([(IntKind.wrap .i64 ((((List.getD a0 (Int.toNat (wadd .i64 (wadd .i64 q6 (2 : Int)) s18.1)) 0 : UInt8).toNat : Nat)) : Int))] : List Int))), (3, .seq (.int .i64) ([(IntKind.wrap .i64 ((((List.getD a0 (Int.toNat (wadd .i64 (wadd .i64 q6 (2 : Int)) s18.1)) 0 : UInt8).toNat : Nat)) : Int))] : List Int)), (0, .box [.dat .str ([] : List UInt8), .dat (.int .i64) (0 : Int), .dat (.int .i64) (0 : Int), .nilS, .nilS]), (1, .box [.dat .str (cut a0 (5 : Int) q6), .dat (.int .i64) (IntKind.wrap .i64 ((((List.getD a0 (Int.toNat q6) 0 : UInt8).toNat : Nat)) : Int)), .dat (.int .i64) q11, .all 2, .nilS]), (2, .seq (.int .i64) s18.2)], 5⟩) hP hN (by kernel_rfl) (by kernel_rfl) (allCons hg44 (allCons hg45 allNil)) (qBlock (qThen ?_))
            have hx41 := of_some hx41
            subst hx41
            refine HT.reg (rs := [⟨none, .no⟩, ⟨none, .no⟩]) (st' := ⟨[(67, .one (.dat (.int .i64) (wadd .i64 s18.1 (1 : Int)))), (83, .one (.dat (.int .i64) (wadd .i64 s18.1 (1 : Int)))), (82, .one (.ptr 1 3)), (81, .one (.ptr 1 1)), (80, .one (.all 4)), (79, .one (.all 3)), (78, .one (.dat (.int .i64) (IntKind.wrap .i64 ((((List.getD a0 (Int.toNat (wadd .i64 (wadd .i64 q6 (2 : Int)) s18.1)) 0 : UInt8).toNat : Nat)) : Int)))), (77, .one (.dat (.int .u8) ((((List.getD a0 (Int.toNat (wadd .i64 (wadd .i64 q6 (2 : Int)) s18.1)) 0 : UInt8).toNat : Nat)) : Int))), (76, .one (.dat (.int .i64) (wadd .i64 (wadd .i64 q6 (2 : Int)) s18.1))), (75, .one (.dat (.int .i64) s18.1)), (74, .one (.dat (.int .i64) (wadd .i64 q6 (2 : Int)))), (73, .one (.dat .str a0)), (72, .one (.all 2)), (71, .one (.ptr 1 3)), (70, .one (.ptr 1 1)), (0, .one (.dat .str a0)), (2, .one (.ptr 0 0)), (5, .one (.dat (.int .i64) (wadd .i64 q6 (2 : Int)))), (6, .one (.ptr 1 0)), (7, .one (.dat (.int .i64) q13)), (8, .one (.dat (.int .i64) q15)), (9, .one (.dat (.int .i64) s18.1)), (66, .one (.dat (.int .i64) q13)), (67, .one (.dat (.int .i64) s18.1))], [(1, .box [.dat .str (cut a0 (5 : Int) q6), .dat (.int .i64) (IntKind.wrap .i64 ((((List.getD a0 (Int.toNat q6) 0 : UInt8).toNat : Nat)) : Int)), .dat (.int .i64) q11, .all 4, .nilS]), (2, .gone), (4, .seq (.int .i64) (s18.2 ++ ([(IntKind.wrap .i64 ((((List.getD a0 (Int.toNat (wadd .i64 (wadd .i64 q6 (2 : Int)) s18.1)) 0 : UInt8).toNat : Nat)) : Int))] : List Int))), (3, .seq (.int .i64) ([(IntKind.wrap .i64 ((((List.getD a0 (Int.toNat (wadd .i64 (wadd .i64 q6 (2 : Int)) s18.1)) 0 : UInt8).toNat : Nat)) : Int))] : List Int)), (0, .box [.dat .str ([] : List UInt8), .dat (.int .i64) (0 : Int), .dat (.int .i64) (0 : Int), .nilS, .nilS]), (1, .box [.dat .str (cut a0 (5 : Int) q6), .dat (.int .i64) (IntKind.wrap .i64 ((((List.getD a0 (Int.toNat q6) 0 : UInt8).toNat : Nat)) : Int)), .dat (.int .i64) q11, .all 2, .nilS]), (2, .seq (.int .i64) s18.2)], 5⟩) hP hN (by kernel_rfl) allNil (qLoopN ⟨((wadd .i64 s18.1 (1 : Int)), (s18.2 ++ ([(IntKind.wrap .i64 ((((List.getD a0 (Int.toNat (wadd .i64 (wadd .i64 q6 (2 : Int)) s18.1)) 0 : UInt8).toNat : Nat)) : Int))] : List Int))), rfl, Le.cv (s := ⟨[(0, 0), (1, 1), (4, 2)], [], [], false⟩) (own := []) (ps := [a0 = a0, (wadd .i64 q6 (2 : Int)) = (wadd .i64 q6 (2 : Int)), q13 = q13, q15 = q15, q13 = q13, (wadd .i64 s18.1 (1 : Int)) = (wadd .i64 s18.1 (1 : Int)), ([] : List UInt8) = ([] : List UInt8), (0 : Int) = (0 : Int), (0 : Int) = (0 : Int), (cut a0 (5 : Int) q6) = (cut a0 (5 : Int) q6), (IntKind.wrap .i64 ((((List.getD a0 (Int.toNat q6) 0 : UInt8).toNat : Nat)) : Int)) = (IntKind.wrap .i64 ((((List.getD a0 (Int.toNat q6) 0 : UInt8).toNat : Nat)) : Int)), q11 = q11, (s18.2 ++ ([(IntKind.wrap .i64 ((((List.getD a0 (Int.toNat (wadd .i64 (wadd .i64 q6 (2 : Int)) s18.1)) 0 : UInt8).toNat : Nat)) : Int))] : List Int)) = (s18.2 ++ ([(IntKind.wrap .i64 ((((List.getD a0 (Int.toNat (wadd .i64 (wadd .i64 q6 (2 : Int)) s18.1)) 0 : UInt8).toNat : Nat)) : Int))] : List Int))]) (st' := ⟨[(0, .one (.dat .str a0)), (2, .one (.ptr 0 0)), (5, .one (.dat (.int .i64) (wadd .i64 q6 (2 : Int)))), (6, .one (.ptr 1 0)), (7, .one (.dat (.int .i64) q13)), (8, .one (.dat (.int .i64) q15)), (66, .one (.dat (.int .i64) q13)), (67, .one (.dat (.int .i64) (wadd .i64 s18.1 (1 : Int))))], [(0, .box [.dat .str ([] : List UInt8), .dat (.int .i64) (0 : Int), .dat (.int .i64) (0 : Int), .nilS, .nilS]), (1, .box [.dat .str (cut a0 (5 : Int) q6), .dat (.int .i64) (IntKind.wrap .i64 ((((List.getD a0 (Int.toNat q6) 0 : UInt8).toNat : Nat)) : Int)), .dat (.int .i64) q11, .all 2, .nilS]), (2, .seq (.int .i64) (s18.2 ++ ([(IntKind.wrap .i64 ((((List.getD a0 (Int.toNat (wadd .i64 (wadd .i64 q6 (2 : Int)) s18.1)) 0 : UInt8).toNat : Nat)) : Int))] : List Int)))], 3⟩) hO (fun h => by cases h) (by kernel_rfl) ⟨rfl, rfl, rfl, rfl, rfl, rfl, rfl, rfl, rfl, rfl, rfl, rfl, rfl, trivial⟩⟩)
          · refine HT.cond0 rfl hb43 ?_
            have hx41 := of_some hx41
            subst hx41
            refine (Le.cv (s := ⟨[(0, 0), (1, 1), (2, 2)], [], [], false⟩) (own := []) (ps := [a0 = a0, (wadd .i64 q6 (2 : Int)) = (wadd .i64 q6 (2 : Int)), q13 = q13, q15 = q15, ([] : List UInt8) = ([] : List UInt8), (0 : Int) = (0 : Int), (0 : Int) = (0 : Int), (cut a0 (5 : Int) q6) = (cut a0 (5 : Int) q6), (IntKind.wrap .i64 ((((List.getD a0 (Int.toNat q6) 0 : UInt8).toNat : Nat)) : Int)) = (IntKind.wrap .i64 ((((List.getD a0 (Int.toNat q6) 0 : UInt8).toNat : Nat)) : Int)), q11 = q11, s18.2 = s18.2]) (st' := ⟨[(0, .one (.dat .str a0)), (2, .one (.ptr 0 0)), (5, .one (.dat (.int .i64) (wadd .i64 q6 (2 : Int)))), (6, .one (.ptr 1 0)), (7, .one (.dat (.int .i64) q13)), (8, .one (.dat (.int .i64) q15))], [(0, .box [.dat .str ([] : List UInt8), .dat (.int .i64) (0 : Int), .dat (.int .i64) (0 : Int), .nilS, .nilS]), (1, .box [.dat .str (cut a0 (5 : Int) q6), .dat (.int .i64) (IntKind.wrap .i64 ((((List.getD a0 (Int.toNat q6) 0 : UInt8).toNat : Nat)) : Int)), .dat (.int .i64) q11, .all 2, .nilS]), (2, .seq (.int .i64) s18.2)], 3⟩) hO (fun h => by cases h) (by kernel_rfl) ⟨rfl, rfl, rfl, rfl, rfl, rfl, rfl, rfl, rfl, rfl, rfl, trivial⟩).ht ?_
            exact HT.exit (qThenE (qLoopE (hk42 s18.2 rfl)))
  · rcases of_bif hT3 with ⟨hb47, hT3⟩ | ⟨hb47, hT3⟩
    · refine HT.reg (rs := [⟨none, .no⟩, ⟨none, .no⟩, ⟨none, .no⟩, ⟨none, .no⟩, ⟨some true, .no⟩, ⟨some true, .no⟩, ⟨some true, .no⟩, ⟨some true, .no⟩, ⟨some true, .no⟩, ⟨some true, .no⟩, ⟨some true, .no⟩, ⟨none, .tv true⟩]) (st' := ⟨[(24, .one (.dat .bool true)), (23, .und), (22, .und), (21, .und), (20, .und), (19, .und), (18, .und), (17, .und), (16, .one (.dat .bool (decide ((lenI a0) < (5 : Int))))), (15, .one (.dat .bool (decide ((lenI a0) < (5 : Int))))), (14, .one (.dat (.int .i64) (lenI a0))), (13, .one (.dat .str a0)), (0, .one (.dat .str a0)), (2, .one (.ptr 0 0))], [(0, .box [.dat .str ([] : List UInt8), .dat (.int .i64) (0 : Int), .dat (.int .i64) (0 : Int), .nilS, .nilS])], 1⟩) hP hN (by kernel_rfl) (allCons hb47 (allCons hb47 (allCons hb47 (allCons hb47 (allCons hb47 (allCons hb47 (allCons hb47 (allCons hb47 allNil)))))))) (qThen ?_)
      exact (Le.cv (s := ⟨[(0, 0)], [], [], false⟩) (own := []) (ps := [a0 = a0, true = true, ([] : List UInt8) = ([] : List UInt8), (0 : Int) = (0 : Int), (0 : Int) = (0 : Int)]) (st' := ⟨[(0, .one (.dat .str a0)), (2, .one (.ptr 0 0)), (24, .one (.dat .bool true))], [(0, .box [.dat .str ([] : List UInt8), .dat (.int .i64) (0 : Int), .dat (.int .i64) (0 : Int), .nilS, .nilS])], 1⟩) hO (fun h => by cases h) (by kernel_rfl) ⟨rfl, rfl, rfl, rfl, rfl, trivial⟩).ht (cont true (of_some hT3))
    · obtain ⟨hg48, hT3⟩ := of_guard hT3
      refine HT.reg (rs := [⟨none, .no⟩, ⟨none, .no⟩, ⟨none, .no⟩, ⟨none, .no⟩, ⟨some false, .no⟩, ⟨some false, .no⟩, ⟨some false, .no⟩, ⟨some false, .no⟩, ⟨some false, .no⟩, ⟨some false, .no⟩, ⟨some false, .no⟩, ⟨none, .tv false⟩]) (st' := ⟨[(24, .one (.dat .bool (decide ((lenI a0) < (wadd .i64 (7 : Int) (IntKind.wrap .i64 ((((List.getD a0 (Int.toNat (4 : Int)) 0 : UInt8).toNat : Nat)) : Int))))))), (23, .one (.dat .bool (decide ((lenI a0) < (wadd .i64 (7 : Int) (IntKind.wrap .i64 ((((List.getD a0 (Int.toNat (4 : Int)) 0 : UInt8).toNat : Nat)) : Int))))))), (22, .one (.dat (.int .i64) (wadd .i64 (7 : Int) (IntKind.wrap .i64 ((((List.getD a0 (Int.toNat (4 : Int)) 0 : UInt8).toNat : Nat)) : Int))))), (21, .one (.dat (.int .i64) (IntKind.wrap .i64 ((((List.getD a0 (Int.toNat (4 : Int)) 0 : UInt8).toNat : Nat)) : Int)))), (20, .one (.dat (.int .u8) ((((List.getD a0 (Int.toNat (4 : Int)) 0 : UInt8).toNat : Nat)) : Int))), (19, .one (.dat .str a0)), (18, .one (.dat (.int .i64) (lenI a0))), (17, .one (.dat .str a0)), (16, .one (.dat .bool (decide ((lenI a0) < (5 : Int))))), (15, .one (.dat .bool (decide ((lenI a0) < (5 : Int))))), (14, .one (.dat (.int .i64) (lenI a0))), (13, .one (.dat .str a0)), (0, .one (.dat .str a0)), (2, .one (.ptr 0 0))], [(0, .box [.dat .str ([] : List UInt8), .dat (.int .i64) (0 : Int), .dat (.int .i64) (0 : Int), .nilS, .nilS])], 1⟩) hP hN (by kernel_rfl) (allCons hb47 (allCons hb47 (allCons hb47 (allCons hb47 (allCons hg48 (allCons hb47 (allCons hb47 (allCons hb47 (allCons hb47 allNil))))))))) (qThen ?_)
      exact (Le.cv (s := ⟨[(0, 0)], [], [], false⟩) (own := []) (ps := [a0 = a0, (decide ((lenI a0) < (wadd .i64 (7 : Int) (IntKind.wrap .i64 ((((List.getD a0 (Int.toNat (4 : Int)) 0 : UInt8).toNat : Nat)) : Int))))) = (decide ((lenI a0) < (wadd .i64 (7 : Int) (IntKind.wrap .i64 ((((List.getD a0 (Int.toNat (4 : Int)) 0 : UInt8).toNat : Nat)) : Int))))), ([] : List UInt8) = ([] : List UInt8), (0 : Int) = (0 : Int), (0 : Int) = (0 : Int)]) (st' := ⟨[(0, .one (.dat .str a0)), (2, .one (.ptr 0 0)), (24, .one (.dat .bool (decide ((lenI a0) < (wadd .i64 (7 : Int) (IntKind.wrap .i64 ((((List.getD a0 (Int.toNat (4 : Int)) 0 : UInt8).toNat : Nat)) : Int)))))))], [(0, .box [.dat .str ([] : List UInt8), .dat (.int .i64) (0 : Int), .dat (.int .i64) (0 : Int), .nilS, .nilS])], 1⟩) hO (fun h => by cases h) (by kernel_rfl) ⟨rfl, rfl, rfl, rfl, rfl, trivial⟩).ht (cont (decide ((lenI a0) < (wadd .i64 (7 : Int) (IntKind.wrap .i64 ((((List.getD a0 (Int.toNat (4 : Int)) 0 : UInt8).toNat : Nat)) : Int))))) (of_some hT3))

noncomputable def impl_LoadKept (a0 : List UInt8) : Option ((List UInt8 × Int × Int × List Int × List Bool) × Bool) :=
  (impl_readKept a0).bind fun y1 =>
  (show Option (Bool) from
    bif (!y1.2.2) then
      some true
    else
      some (y1.2.1 != (lenI a0))).bind fun v3 =>
  bif v3 then
    some ((([] : List UInt8), (0 : Int), (0 : Int), ([] : List Int), ([] : List Bool)), false)
  else
    some ((y1.1.1, y1.1.2.1, y1.1.2.2.1, y1.1.2.2.2.1, y1.1.2.2.2.2), true)

theorem f61_ok {a0 : List UInt8} {r : (List UInt8 × Int × Int × List Int × List Bool) × Bool} (hr : impl_LoadKept a0 = some r) : CallOK Try.prog 61 [.imm .str a0] [⟨true, (.st (.pair .str (.st (.pair (.int .i64) (.pair (.int .i64) (.pair (.sl (.int .i64)) (.sl .bool))))))), r.1⟩, ⟨false, .bool, r.2⟩] [] := by
  unfold impl_LoadKept at hr
  refine CallOK.of_body (ts := [(true, (.st (.pair .str (.st (.pair (.int .i64) (.pair (.int .i64) (.pair (.sl (.int .i64)) (.sl .bool)))))))), (false, .bool)]) Try.func61 rfl (by kernel_rfl) (Nat.le_of_ble_eq_true (by kernel_rfl)) fun cx hP hN hO hF => ?_
  have hO : cx.own.map Prod.fst = [] := hO
  have hF : cx.F = [] := hF rfl
  show HT cx ⟨[(0, .one (.dat .str a0))], [], 0⟩ _ _
  refine HT.reg1 [0, 2] [⟨none, .no⟩, ⟨none, .no⟩] ⟨[(0, .one (.dat .str a0)), (2, .one (.ptr 0 0))], [(0, .box [.dat .str ([] : List UInt8), .dat (.int .i64) (0 : Int), .dat (.int .i64) (0 : Int), .nilS, .nilS])], 1⟩ hP hN (by kernel_rfl) allNil ?_
  obtain ⟨y1, hc2, hr⟩ := of_bind hr
  refine HT.reg1 [0, 2, 4, 5, 6] [⟨none, .no⟩, ⟨none, .call [.imm .str] [⟨true, (.st (.pair .str (.st (.pair (.int .i64) (.pair (.int .i64) (.pair (.sl (.int .i64)) (.sl .bool))))))), y1.1⟩, ⟨false, (.int .i64), y1.2.1⟩, ⟨false, .bool, y1.2.2⟩] []⟩, ⟨none, .no⟩, ⟨none, .no⟩, ⟨none, .no⟩, ⟨none, .no⟩, ⟨none, .no⟩, ⟨none, .no⟩, ⟨none, .no⟩, ⟨none, .no⟩] ⟨[(0, .one (.dat .str a0)), (2, .one (.ptr 0 0)), (4, .one (.ptr 3 0)), (5, .one (.dat (.int .i64) y1.2.1)), (6, .one (.dat .bool y1.2.2))], [(3, .box [.dat .str y1.1.1, .dat (.int .i64) y1.1.2.1, .dat (.int .i64) y1.1.2.2.1, .all 1, .all 2]), (3, .box [.dat .str ([] : List UInt8), .dat (.int .i64) (0 : Int), .dat (.int .i64) (0 : Int), .nilS, .nilS]), (1, .seq (.int .i64) y1.1.2.2.2.1), (2, .seq .bool y1.1.2.2.2.2), (0, .box [.dat .str ([] : List UInt8), .dat (.int .i64) (0 : Int), .dat (.int .i64) (0 : Int), .nilS, .nilS])], 4⟩ hP hN (by kernel_rfl) (allCons (f126_ok hc2) allNil) ?_
  refine HT.seq ?_
  obtain ⟨v3', hT5, hr⟩ := of_bind hr
  refine HT.join (fun (v3 : Bool) => ⟨[(2, .one (.ptr 0 0)), (4, .one (.ptr 1 0)), (20, .one (.dat .bool v3))], [(0, .box [.dat .str ([] : List UInt8), .dat (.int .i64) (0 : Int), .dat (.int .i64) (0 : Int), .nilS, .nilS]), (1, .box [.dat .str y1.1.1, .dat (.int .i64) y1.1.2.1, .dat (.int .i64) y1.1.2.2.1, .all 2, .all 3]), (2, .seq (.int .i64) y1.1.2.2.2.1), (3, .seq .bool y1.1.2.2.2.2)], 4⟩) (fun v => v = v3') (fun v3 hv4 => ?_) (fun cont => ?_)
  · subst hv4
    rcases of_bif hr with ⟨hb6, hr⟩ | ⟨hb6, hr⟩
    · refine HT.cond1 rfl hb6 ?_
      refine HT.reg1 [2, 3] [⟨none, .no⟩, ⟨none, .no⟩, ⟨none, .no⟩] ⟨[(2, .one (.ptr 0 0)), (3, .one (.dat .bool false))], [(0, .box [.dat .str ([] : List UInt8), .dat (.int .i64) (0 : Int), .dat (.int .i64) (0 : Int), .nilS, .nilS]), (0, .box [.dat .str ([] : List UInt8), .dat (.int .i64) (0 : Int), .dat (.int .i64) (0 : Int), .nilS, .nilS]), (1, .box [.dat .str y1.1.1, .dat (.int .i64) y1.1.2.1, .dat (.int .i64) y1.1.2.2.1, .all 2, .all 3]), (2, .seq (.int .i64) y1.1.2.2.2.1), (3, .seq .bool y1.1.2.2.2.2)], 4⟩ hP hN (by kernel_rfl) allNil ?_
      have hr := of_some hr
      subst hr
      exact HT.ret (qThenR ⟨[.agg [.dat .str ([] : List UInt8), .dat (.int .i64) (0 : Int), .dat (.int .i64) (0 : Int), .nilS, .nilS], .one (.dat .bool false)], [], [], by kernel_rfl, by kernel_rfl, rfl, (.inl rfl), by kernel_rfl, trivial⟩)
    · refine HT.cond0 rfl hb6 ?_
      refine HT.skip (qThen ?_)
      refine HT.reg1 [2, 3] [⟨none, .no⟩, ⟨none, .no⟩, ⟨none, .no⟩] ⟨[(2, .one (.ptr 0 0)), (3, .one (.dat .bool true))], [(0, .box [.dat .str y1.1.1, .dat (.int .i64) y1.1.2.1, .dat (.int .i64) y1.1.2.2.1, .all 2, .all 3]), (0, .box [.dat .str ([] : List UInt8), .dat (.int .i64) (0 : Int), .dat (.int .i64) (0 : Int), .nilS, .nilS]), (1, .box [.dat .str y1.1.1, .dat (.int .i64) y1.1.2.1, .dat (.int .i64) y1.1.2.2.1, .all 2, .all 3]), (2, .seq (.int .i64) y1.1.2.2.2.1), (3, .seq .bool y1.1.2.2.2.2)], 4⟩ hP hN (by kernel_rfl) allNil ?_
      have hr := of_some hr
      subst hr
      exact HT.ret ⟨[.agg [.dat .str y1.1.1, .dat (.int .i64) y1.1.2.1, .dat (.int .i64) y1.1.2.2.1, .all 2, .all 3], .one (.dat .bool true)], [2, 3], [], by kernel_rfl, by kernel_rfl, rfl, (.inl rfl), by kernel_rfl, trivial⟩
  · rcases of_bif hT5 with ⟨hb7, hT5⟩ | ⟨hb7, hT5⟩
    · refine HT.reg (rs := [⟨none, .no⟩, ⟨none, .no⟩, ⟨none, .no⟩, ⟨some true, .no⟩, ⟨some true, .no⟩, ⟨some true, .no⟩, ⟨some true, .no⟩, ⟨none, .tv true⟩]) (st' := ⟨[(20, .one (.dat .bool true)), (19, .und), (18, .und), (17, .und), (16, .und), (15, .one (.dat .bool (!y1.2.2))), (14, .one (.dat .bool (!y1.2.2))), (13, .one (.dat .bool y1.2.2)), (0, .one (.dat .str a0)), (2, .one (.ptr 0 0)), (4, .one (.ptr 3 0)), (5, .one (.dat (.int .i64) y1.2.1)), (6, .one (.dat .bool y1.2.2))], [(3, .box [.dat .str y1.1.1, .dat (.int .i64) y1.1.2.1, .dat (.int .i64) y1.1.2.2.1, .all 1, .all 2]), (3, .box [.dat .str ([] : List UInt8), .dat (.int .i64) (0 : Int), .dat (.int .i64) (0 : Int), .nilS, .nilS]), (1, .seq (.int .i64) y1.1.2.2.2.1), (2, .seq .bool y1.1.2.2.2.2), (0, .box [.dat .str ([] : List UInt8), .dat (.int .i64) (0 : Int), .dat (.int .i64) (0 : Int), .nilS, .nilS])], 4⟩) hP hN (by kernel_rfl) (allCons hb7 (allCons hb7 (allCons hb7 (allCons hb7 (allCons hb7 allNil))))) (qThen ?_)
      exact (Le.cv (s := ⟨[(0, 0), (3, 1), (1, 2), (2, 3)], [], [], false⟩) (own := []) (ps := [true = true, ([] : List UInt8) = ([] : List UInt8), (0 : Int) = (0 : Int), (0 : Int) = (0 : Int), y1.1.1 = y1.1.1, y1.1.2.1 = y1.1.2.1, y1.1.2.2.1 = y1.1.2.2.1, y1.1.2.2.2.1 = y1.1.2.2.2.1, y1.1.2.2.2.2 = y1.1.2.2.2.2]) (st' := ⟨[(2, .one (.ptr 0 0)), (4, .one (.ptr 1 0)), (20, .one (.dat .bool true))], [(0, .box [.dat .str ([] : List UInt8), .dat (.int .i64) (0 : Int), .dat (.int .i64) (0 : Int), .nilS, .nilS]), (1, .box [.dat .str y1.1.1, .dat (.int .i64) y1.1.2.1, .dat (.int .i64) y1.1.2.2.1, .all 2, .all 3]), (2, .seq (.int .i64) y1.1.2.2.2.1), (3, .seq .bool y1.1.2.2.2.2)], 4⟩) hO (fun h => by cases h) (by kernel_rfl) ⟨rfl, rfl, rfl, rfl, rfl, rfl, rfl, rfl, rfl, trivial⟩).ht (cont true (of_some hT5))
    · refine HT.reg (rs := [⟨none, .no⟩, ⟨none, .no⟩, ⟨none, .no⟩, ⟨some false, .no⟩, ⟨some false, .no⟩, ⟨some false, .no⟩, ⟨some false, .no⟩, ⟨none, .tv false⟩]) (st' := ⟨[(20, .one (.dat .bool (y1.2.1 != (lenI a0)))), (19, .one (.dat .bool (y1.2.1 != (lenI a0)))), (18, .one (.dat (.int .i64) (lenI a0))), (17, .one (.dat .str a0)), (16, .one (.dat (.int .i64) y1.2.1)), (15, .one (.dat .bool (!y1.2.2))), (14, .one (.dat .bool (!y1.2.2))), (13, .one (.dat .bool y1.2.2)), (0, .one (.dat .str a0)), (2, .one (.ptr 0 0)), (4, .one (.ptr 3 0)), (5, .one (.dat (.int .i64) y1.2.1)), (6, .one (.dat .bool y1.2.2))], [(3, .box [.dat .str y1.1.1, .dat (.int .i64) y1.1.2.1, .dat (.int .i64) y1.1.2.2.1, .all 1, .all 2]), (3, .box [.dat .str ([] : List UInt8), .dat (.int .i64) (0 : Int), .dat (.int .i64) (0 : Int), .nilS, .nilS]), (1, .seq (.int .i64) y1.1.2.2.2.1), (2, .seq .bool y1.1.2.2.2.2), (0, .box [.dat .str ([] : List UInt8), .dat (.int .i64) (0 : Int), .dat (.int .i64) (0 : Int), .nilS, .nilS])], 4⟩) hP hN (by kernel_rfl) (allCons hb7 (allCons hb7 (allCons hb7 (allCons hb7 (allCons hb7 allNil))))) (qThen ?_)
      exact (Le.cv (s := ⟨[(0, 0), (3, 1), (1, 2), (2, 3)], [], [], false⟩) (own := []) (ps := [(y1.2.1 != (lenI a0)) = (y1.2.1 != (lenI a0)), ([] : List UInt8) = ([] : List UInt8), (0 : Int) = (0 : Int), (0 : Int) = (0 : Int), y1.1.1 = y1.1.1, y1.1.2.1 = y1.1.2.1, y1.1.2.2.1 = y1.1.2.2.1, y1.1.2.2.2.1 = y1.1.2.2.2.1, y1.1.2.2.2.2 = y1.1.2.2.2.2]) (st' := ⟨[(2, .one (.ptr 0 0)), (4, .one (.ptr 1 0)), (20, .one (.dat .bool (y1.2.1 != (lenI a0))))], [(0, .box [.dat .str ([] : List UInt8), .dat (.int .i64) (0 : Int), .dat (.int .i64) (0 : Int), .nilS, .nilS]), (1, .box [.dat .str y1.1.1, .dat (.int .i64) y1.1.2.1, .dat (.int .i64) y1.1.2.2.1, .all 2, .all 3]), (2, .seq (.int .i64) y1.1.2.2.2.1), (3, .seq .bool y1.1.2.2.2.2)], 4⟩) hO (fun h => by cases h) (by kernel_rfl) ⟨rfl, rfl, rfl, rfl, rfl, rfl, rfl, rfl, rfl, trivial⟩).ht (cont (y1.2.1 != (lenI a0)) (of_some hT5))

noncomputable def laws_eqInt64S_B1 (a0 : List Int) (a1 : List Int) (s2 : Int) : Option ((Int) ⊕ (Unit ⊕ Unit)) :=
  bif (decide (s2 < (lenI a0))) then
    guardP ((0 : Int) ≤ s2 ∧ s2 < lenI a0) (
      guardP ((0 : Int) ≤ s2 ∧ s2 < lenI a1) (
        bif ((List.getD a0 (Int.toNat s2) (0 : Int)) != (List.getD a1 (Int.toNat s2) (0 : Int))) then
          some (.inr (.inr ()))
        else
          some (.inl (wadd .i64 s2 (1 : Int)))))
  else
    some (.inr (.inl ()))

noncomputable def laws_eqInt64S (a0 : List Int) (a1 : List Int) : Option (Bool) :=
  bif ((lenI a0) != (lenI a1)) then
    some false
  else
    (rounds (laws_eqInt64S_B1 a0 a1) (0 : Int)).bind fun r3 => match r3 with
      | .inl r4 =>
        some true
      | .inr r5 =>
        some false

theorem f25_ok {a0 : List Int} {a1 : List Int} {r : Bool} (hr : laws_eqInt64S a0 a1 = some r) : CallOK Try.prog 25 [.imm (.sl (.int .i64)) a0, .imm (.sl (.int .i64)) a1] [⟨false, .bool, r⟩] [] := by
  unfold laws_eqInt64S at hr
  refine CallOK.of_body (ts := [(false, .bool)]) Try.func25 rfl (by kernel_rfl) (Nat.le_of_ble_eq_true (by kernel_rfl)) fun cx hP hN hO hF => ?_
  have hO : cx.own.map Prod.fst = [] := hO
  have hF : cx.F = [] := hF rfl
  show HT cx ⟨[(0, .one (.dat (.sl (.int .i64)) a0)), (1, .one (.dat (.sl (.int .i64)) a1))], [], 0⟩ _ _
  refine HT.reg1 [0, 1] [⟨none, .no⟩] ⟨[(0, .one (.dat (.sl (.int .i64)) a0)), (1, .one (.dat (.sl (.int .i64)) a1))], [], 0⟩ hP hN (by kernel_rfl) allNil ?_
  refine HT.seq ?_
  refine HT.reg1 [0, 1, 10] [⟨none, .no⟩, ⟨none, .no⟩, ⟨none, .no⟩, ⟨none, .no⟩, ⟨none, .no⟩] ⟨[(0, .one (.dat (.sl (.int .i64)) a0)), (1, .one (.dat (.sl (.int .i64)) a1)), (10, .one (.dat .bool ((lenI a0) != (lenI a1))))], [], 0⟩ hP hN (by kernel_rfl) allNil ?_
  rcases of_bif hr with ⟨hb1, hr⟩ | ⟨hb1, hr⟩
  · refine HT.cond1 rfl hb1 ?_
    refine HT.reg1 [4] [⟨none, .no⟩] ⟨[(4, .one (.dat .bool false))], [], 0⟩ hP hN (by kernel_rfl) allNil ?_
    have hr := of_some hr
    subst hr
    exact HT.ret (qThenR ⟨[.one (.dat .bool false)], [], [], by kernel_rfl, by kernel_rfl, rfl, (.inl rfl), by kernel_rfl, trivial⟩)
  · refine HT.cond0 rfl hb1 ?_
    refine HT.skip (qThen ?_)
    refine HT.seq ?_
    refine HT.reg1 [0, 1, 5] [⟨none, .no⟩] ⟨[(0, .one (.dat (.sl (.int .i64)) a0)), (1, .one (.dat (.sl (.int .i64)) a1)), (5, .one (.dat (.int .i64) (0 : Int)))], [], 0⟩ hP hN (by kernel_rfl) allNil ?_
    refine HT.block ?_
    obtain ⟨r3, hL13, hr⟩ := of_bind hr
    refine (Le.cv (s := ⟨[], [], [], false⟩) (own := []) (ps := [a0 = a0, a1 = a1, (0 : Int) = (0 : Int)]) (st' := ⟨[(0, .one (.dat (.sl (.int .i64)) a0)), (1, .one (.dat (.sl (.int .i64)) a1)), (5, .one (.dat (.int .i64) (0 : Int)))], [], 0⟩) hO (fun h => by cases h) (by kernel_rfl) ⟨rfl, rfl, rfl, trivial⟩).ht ?_
    refine HT.loopE (s := (0 : Int)) (fun (s2 : Int) => ⟨[(0, .one (.dat (.sl (.int .i64)) a0)), (1, .one (.dat (.sl (.int .i64)) a1)), (5, .one (.dat (.int .i64) s2))], [], 0⟩) (fun (r3 : Unit ⊕ Unit) => match r3 with | .inl r4 => (.exit 0, ⟨[], [], 0⟩) | .inr r5 => (.ret, ⟨[(4, .one (.dat .bool false))], [], 0⟩)) hL13 ?_ (fun s2 x6 hx7 hk8 => ?_)
    · rcases r3 with r4 | r5
      · refine (qBlockX (qThen ?_))
        refine HT.reg1 [4] [⟨none, .no⟩] ⟨[(4, .one (.dat .bool true))], [], 0⟩ hP hN (by kernel_rfl) allNil ?_
        have hr := of_some hr
        subst hr
        exact HT.ret ⟨[.one (.dat .bool true)], [], [], by kernel_rfl, by kernel_rfl, rfl, (.inl rfl), by kernel_rfl, trivial⟩
      · have hr := of_some hr
        subst hr
        exact (qBlockR (qThenR ⟨[.one (.dat .bool false)], [], [], by kernel_rfl, by kernel_rfl, rfl, (.inl rfl), by kernel_rfl, trivial⟩))
    · refine HT.seq ?_
      refine HT.reg1 [0, 1, 5, 14] [⟨none, .no⟩, ⟨none, .no⟩, ⟨none, .no⟩, ⟨none, .no⟩] ⟨[(0, .one (.dat (.sl (.int .i64)) a0)), (1, .one (.dat (.sl (.int .i64)) a1)), (5, .one (.dat (.int .i64) s2)), (14, .one (.dat .bool (decide (s2 < (lenI a0)))))], [], 0⟩ hP hN (by kernel_rfl) allNil ?_
      rcases of_bif hx7 with ⟨hb9, hx7⟩ | ⟨hb9, hx7⟩
      · refine HT.cond1 rfl hb9 ?_
        refine HT.skip (qThen ?_)
        refine HT.seq ?_
        refine HT.block ?_
        obtain ⟨hg10, hx7⟩ := of_guard hx7
        obtain ⟨hg11, hx7⟩ := of_guard hx7
        refine HT.drw1 [0, 1, 5, 25] 8 [⟨⟨none, .no⟩, []⟩, ⟨⟨none, .no⟩, []⟩, ⟨⟨none, .no⟩, [0, 1]⟩, ⟨⟨none, .no⟩, [0, 1, 2]⟩, ⟨⟨none, .no⟩, []⟩, ⟨⟨none, .no⟩, []⟩, ⟨⟨none, .no⟩, [4, 5]⟩, ⟨⟨none, .no⟩, [4, 5, 6]⟩] [[0, 1, 2, 3, 4, 5, 6, 7]] [⟨none, .no⟩] ⟨[(0, .one (.dat (.sl (.int .i64)) a0)), (1, .one (.dat (.sl (.int .i64)) a1)), (5, .one (.dat (.int .i64) s2)), (25, .one (.dat .bool ((List.getD a0 (Int.toNat s2) (0 : Int)) != (List.getD a1 (Int.toNat s2) (0 : Int)))))], [], 0⟩ hP hN (by kernel_rfl) (by kernel_rfl) (allCons hg10 (allCons hg11 allNil)) ?_
        rcases of_bif hx7 with ⟨hb12, hx7⟩ | ⟨hb12, hx7⟩
        · refine HT.cond1 rfl hb12 ?_
          refine HT.reg1 [4] [⟨none, .no⟩] ⟨[(4, .one (.dat .bool false))], [], 0⟩ hP hN (by kernel_rfl) allNil ?_
          have hx7 := of_some hx7
          subst hx7
          refine (Le.cv (s := ⟨[], [], [], false⟩) (own := []) (ps := [false = false]) (st' := ⟨[(4, .one (.dat .bool false))], [], 0⟩) hO (fun h => by cases h) (by kernel_rfl) ⟨rfl, trivial⟩).ht ?_
          exact HT.ret (qBlockR (qThenR (qLoopR (hk8 (.inr ()) rfl))))
        · refine HT.cond0 rfl hb12 ?_
          refine HT.skip (qBlock (qThen ?_))
          have hx7 := of_some hx7
          subst hx7
          refine HT.reg (rs := [⟨none, .no⟩, ⟨none, .no⟩, ⟨none, .no⟩]) (st' := ⟨[(5, .one (.dat (.int .i64) (wadd .i64 s2 (1 : Int)))), (16, .one (.dat (.int .i64) (wadd .i64 s2 (1 : Int)))), (15, .one (.dat (.int .i64) s2)), (0, .one (.dat (.sl (.int .i64)) a0)), (1, .one (.dat (.sl (.int .i64)) a1)), (5, .one (.dat (.int .i64) s2)), (25, .one (.dat .bool ((List.getD a0 (Int.toNat s2) (0 : Int)) != (List.getD a1 (Int.toNat s2) (0 : Int)))))], [], 0⟩) hP hN (by kernel_rfl) allNil (qLoopN ⟨(wadd .i64 s2 (1 : Int)), rfl, Le.cv (s := ⟨[], [], [], false⟩) (own := []) (ps := [a0 = a0, a1 = a1, (wadd .i64 s2 (1 : Int)) = (wadd .i64 s2 (1 : Int))]) (st' := ⟨[(0, .one (.dat (.sl (.int .i64)) a0)), (1, .one (.dat (.sl (.int .i64)) a1)), (5, .one (.dat (.int .i64) (wadd .i64 s2 (1 : Int))))], [], 0⟩) hO (fun h => by cases h) (by kernel_rfl) ⟨rfl, rfl, rfl, trivial⟩⟩)
      · refine HT.cond0 rfl hb9 ?_
        have hx7 := of_some hx7
        subst hx7
        refine (Le.cv (s := ⟨[], [], [], false⟩) (own := []) (ps := []) (st' := ⟨[], [], 0⟩) hO (fun h => by cases h) (by kernel_rfl) trivial).ht ?_
        exact HT.exit (qThenE (qLoopE (hk8 (.inl ()) rfl)))

noncomputable def laws_eqBoolS_B1 (a0 : List Bool) (a1 : List Bool) (s2 : Int) : Option ((Int) ⊕ (Unit ⊕ Unit)) :=
  bif (decide (s2 < (lenI a0))) then
    guardP ((0 : Int) ≤ s2 ∧ s2 < lenI a0) (
      guardP ((0 : Int) ≤ s2 ∧ s2 < lenI a1) (
        bif ((List.getD a0 (Int.toNat s2) false) != (List.getD a1 (Int.toNat s2) false)) then
          some (.inr (.inr ()))
        else
          some (.inl (wadd .i64 s2 (1 : Int)))))
  else
    some (.inr (.inl ()))

noncomputable def laws_eqBoolS (a0 : List Bool) (a1 : List Bool) : Option (Bool) :=
  bif ((lenI a0) != (lenI a1)) then
    some false
  else
    (rounds (laws_eqBoolS_B1 a0 a1) (0 : Int)).bind fun r3 => match r3 with
      | .inl r4 =>
        some true
      | .inr r5 =>
        some false

theorem f95_ok {a0 : List Bool} {a1 : List Bool} {r : Bool} (hr : laws_eqBoolS a0 a1 = some r) : CallOK Try.prog 95 [.imm (.sl .bool) a0, .imm (.sl .bool) a1] [⟨false, .bool, r⟩] [] := by
  unfold laws_eqBoolS at hr
  refine CallOK.of_body (ts := [(false, .bool)]) Try.func95 rfl (by kernel_rfl) (Nat.le_of_ble_eq_true (by kernel_rfl)) fun cx hP hN hO hF => ?_
  have hO : cx.own.map Prod.fst = [] := hO
  have hF : cx.F = [] := hF rfl
  show HT cx ⟨[(0, .one (.dat (.sl .bool) a0)), (1, .one (.dat (.sl .bool) a1))], [], 0⟩ _ _
  refine HT.reg1 [0, 1] [⟨none, .no⟩] ⟨[(0, .one (.dat (.sl .bool) a0)), (1, .one (.dat (.sl .bool) a1))], [], 0⟩ hP hN (by kernel_rfl) allNil ?_
  refine HT.seq ?_
  refine HT.reg1 [0, 1, 10] [⟨none, .no⟩, ⟨none, .no⟩, ⟨none, .no⟩, ⟨none, .no⟩, ⟨none, .no⟩] ⟨[(0, .one (.dat (.sl .bool) a0)), (1, .one (.dat (.sl .bool) a1)), (10, .one (.dat .bool ((lenI a0) != (lenI a1))))], [], 0⟩ hP hN (by kernel_rfl) allNil ?_
  rcases of_bif hr with ⟨hb1, hr⟩ | ⟨hb1, hr⟩
  · refine HT.cond1 rfl hb1 ?_
    refine HT.reg1 [4] [⟨none, .no⟩] ⟨[(4, .one (.dat .bool false))], [], 0⟩ hP hN (by kernel_rfl) allNil ?_
    have hr := of_some hr
    subst hr
    exact HT.ret (qThenR ⟨[.one (.dat .bool false)], [], [], by kernel_rfl, by kernel_rfl, rfl, (.inl rfl), by kernel_rfl, trivial⟩)
  · refine HT.cond0 rfl hb1 ?_
    refine HT.skip (qThen ?_)
    refine HT.seq ?_
    refine HT.reg1 [0, 1, 5] [⟨none, .no⟩] ⟨[(0, .one (.dat (.sl .bool) a0)), (1, .one (.dat (.sl .bool) a1)), (5, .one (.dat (.int .i64) (0 : Int)))], [], 0⟩ hP hN (by kernel_rfl) allNil ?_
    refine HT.block ?_
    obtain ⟨r3, hL13, hr⟩ := of_bind hr
    refine (Le.cv (s := ⟨[], [], [], false⟩) (own := []) (ps := [a0 = a0, a1 = a1, (0 : Int) = (0 : Int)]) (st' := ⟨[(0, .one (.dat (.sl .bool) a0)), (1, .one (.dat (.sl .bool) a1)), (5, .one (.dat (.int .i64) (0 : Int)))], [], 0⟩) hO (fun h => by cases h) (by kernel_rfl) ⟨rfl, rfl, rfl, trivial⟩).ht ?_
    refine HT.loopE (s := (0 : Int)) (fun (s2 : Int) => ⟨[(0, .one (.dat (.sl .bool) a0)), (1, .one (.dat (.sl .bool) a1)), (5, .one (.dat (.int .i64) s2))], [], 0⟩) (fun (r3 : Unit ⊕ Unit) => match r3 with | .inl r4 => (.exit 0, ⟨[], [], 0⟩) | .inr r5 => (.ret, ⟨[(4, .one (.dat .bool false))], [], 0⟩)) hL13 ?_ (fun s2 x6 hx7 hk8 => ?_)
    · rcases r3 with r4 | r5
      · refine (qBlockX (qThen ?_))
        refine HT.reg1 [4] [⟨none, .no⟩] ⟨[(4, .one (.dat .bool true))], [], 0⟩ hP hN (by kernel_rfl) allNil ?_
        have hr := of_some hr
        subst hr
        exact HT.ret ⟨[.one (.dat .bool true)], [], [], by kernel_rfl, by kernel_rfl, rfl, (.inl rfl), by kernel_rfl, trivial⟩
      · have hr := of_some hr
        subst hr
        exact (qBlockR (qThenR ⟨[.one (.dat .bool false)], [], [], by kernel_rfl, by kernel_rfl, rfl, (.inl rfl), by kernel_rfl, trivial⟩))
    · refine HT.seq ?_
      refine HT.reg1 [0, 1, 5, 14] [⟨none, .no⟩, ⟨none, .no⟩, ⟨none, .no⟩, ⟨none, .no⟩] ⟨[(0, .one (.dat (.sl .bool) a0)), (1, .one (.dat (.sl .bool) a1)), (5, .one (.dat (.int .i64) s2)), (14, .one (.dat .bool (decide (s2 < (lenI a0)))))], [], 0⟩ hP hN (by kernel_rfl) allNil ?_
      rcases of_bif hx7 with ⟨hb9, hx7⟩ | ⟨hb9, hx7⟩
      · refine HT.cond1 rfl hb9 ?_
        refine HT.skip (qThen ?_)
        refine HT.seq ?_
        refine HT.block ?_
        obtain ⟨hg10, hx7⟩ := of_guard hx7
        obtain ⟨hg11, hx7⟩ := of_guard hx7
        refine HT.drw1 [0, 1, 5, 25] 8 [⟨⟨none, .no⟩, []⟩, ⟨⟨none, .no⟩, []⟩, ⟨⟨none, .no⟩, [0, 1]⟩, ⟨⟨none, .no⟩, [0, 1, 2]⟩, ⟨⟨none, .no⟩, []⟩, ⟨⟨none, .no⟩, []⟩, ⟨⟨none, .no⟩, [4, 5]⟩, ⟨⟨none, .no⟩, [4, 5, 6]⟩] [[0, 1, 2, 3, 4, 5, 6, 7]] [⟨none, .no⟩] ⟨[(0, .one (.dat (.sl .bool) a0)), (1, .one (.dat (.sl .bool) a1)), (5, .one (.dat (.int .i64) s2)), (25, .one (.dat .bool ((List.getD a0 (Int.toNat s2) false) != (List.getD a1 (Int.toNat s2) false))))], [], 0⟩ hP hN (by kernel_rfl) (by kernel_rfl) (allCons hg10 (allCons hg11 allNil)) ?_
        rcases of_bif hx7 with ⟨hb12, hx7⟩ | ⟨hb12, hx7⟩
        · refine HT.cond1 rfl hb12 ?_
          refine HT.reg1 [4] [⟨none, .no⟩] ⟨[(4, .one (.dat .bool false))], [], 0⟩ hP hN (by kernel_rfl) allNil ?_
          have hx7 := of_some hx7
          subst hx7
          refine (Le.cv (s := ⟨[], [], [], false⟩) (own := []) (ps := [false = false]) (st' := ⟨[(4, .one (.dat .bool false))], [], 0⟩) hO (fun h => by cases h) (by kernel_rfl) ⟨rfl, trivial⟩).ht ?_
          exact HT.ret (qBlockR (qThenR (qLoopR (hk8 (.inr ()) rfl))))
        · refine HT.cond0 rfl hb12 ?_
          refine HT.skip (qBlock (qThen ?_))
          have hx7 := of_some hx7
          subst hx7
          refine HT.reg (rs := [⟨none, .no⟩, ⟨none, .no⟩, ⟨none, .no⟩]) (st' := ⟨[(5, .one (.dat (.int .i64) (wadd .i64 s2 (1 : Int)))), (16, .one (.dat (.int .i64) (wadd .i64 s2 (1 : Int)))), (15, .one (.dat (.int .i64) s2)), (0, .one (.dat (.sl .bool) a0)), (1, .one (.dat (.sl .bool) a1)), (5, .one (.dat (.int .i64) s2)), (25, .one (.dat .bool ((List.getD a0 (Int.toNat s2) false) != (List.getD a1 (Int.toNat s2) false))))], [], 0⟩) hP hN (by kernel_rfl) allNil (qLoopN ⟨(wadd .i64 s2 (1 : Int)), rfl, Le.cv (s := ⟨[], [], [], false⟩) (own := []) (ps := [a0 = a0, a1 = a1, (wadd .i64 s2 (1 : Int)) = (wadd .i64 s2 (1 : Int))]) (st' := ⟨[(0, .one (.dat (.sl .bool) a0)), (1, .one (.dat (.sl .bool) a1)), (5, .one (.dat (.int .i64) (wadd .i64 s2 (1 : Int))))], [], 0⟩) hO (fun h => by cases h) (by kernel_rfl) ⟨rfl, rfl, rfl, trivial⟩⟩)
      · refine HT.cond0 rfl hb9 ?_
        have hx7 := of_some hx7
        subst hx7
        refine (Le.cv (s := ⟨[], [], [], false⟩) (own := []) (ps := []) (st' := ⟨[], [], 0⟩) hO (fun h => by cases h) (by kernel_rfl) trivial).ht ?_
        exact HT.exit (qThenE (qLoopE (hk8 (.inl ()) rfl)))

noncomputable def laws_eqPlain (a0 : Int × Int × List Int × List Bool) (a1 : Int × Int × List Int × List Bool) : Option (Bool) :=
  bif (a0.1 != a1.1) then
    some false
  else
    bif (a0.2.1 != a1.2.1) then
      some false
    else
      (laws_eqInt64S a0.2.2.1 a1.2.2.1).bind fun y3 =>
      bif (!y3) then
        some false
      else
        (laws_eqBoolS a0.2.2.2 a1.2.2.2).bind fun y6 =>
        bif (!y6) then
          some false
        else
          some true

theorem f34_ok {a0 : Int × Int × List Int × List Bool} {a1 : Int × Int × List Int × List Bool} {r : Bool} (hr : laws_eqPlain a0 a1 = some r) : CallOK Try.prog 34 [.imm (.st (.pair (.int .i64) (.pair (.int .i64) (.pair (.sl (.int .i64)) (.sl .bool))))) a0, .imm (.st (.pair (.int .i64) (.pair (.int .i64) (.pair (.sl (.int .i64)) (.sl .bool))))) a1] [⟨false, .bool, r⟩] [] := by
  unfold laws_eqPlain at hr
  refine CallOK.of_body (ts := [(false, .bool)]) Try.func34 rfl (by kernel_rfl) (Nat.le_of_ble_eq_true (by kernel_rfl)) fun cx hP hN hO hF => ?_
  have hO : cx.own.map Prod.fst = [] := hO
  have hF : cx.F = [] := hF rfl
  show HT cx ⟨[(0, .agg [.dat (.int .i64) a0.1, .dat (.int .i64) a0.2.1, .dat (.sl (.int .i64)) a0.2.2.1, .dat (.sl .bool) a0.2.2.2]), (1, .agg [.dat (.int .i64) a1.1, .dat (.int .i64) a1.2.1, .dat (.sl (.int .i64)) a1.2.2.1, .dat (.sl .bool) a1.2.2.2])], [], 0⟩ _ _
  refine HT.reg1 [2, 3] [⟨none, .no⟩, ⟨none, .no⟩, ⟨none, .no⟩] ⟨[(2, .one (.ptr 0 0)), (3, .one (.ptr 1 0))], [(1, .box [.dat (.int .i64) a1.1, .dat (.int .i64) a1.2.1, .dat (.sl (.int .i64)) a1.2.2.1, .dat (.sl .bool) a1.2.2.2]), (0, .box [.dat (.int .i64) a0.1, .dat (.int .i64) a0.2.1, .dat (.sl (.int .i64)) a0.2.2.1, .dat (.sl .bool) a0.2.2.2])], 2⟩ hP hN (by kernel_rfl) allNil ?_
  refine HT.seq ?_
  refine HT.reg1 [2, 3, 9] [⟨none, .no⟩, ⟨none, .no⟩, ⟨none, .no⟩, ⟨none, .no⟩, ⟨none, .no⟩] ⟨[(2, .one (.ptr 0 0)), (3, .one (.ptr 1 0)), (9, .one (.dat .bool (a0.1 != a1.1)))], [(1, .box [.dat (.int .i64) a1.1, .dat (.int .i64) a1.2.1, .dat (.sl (.int .i64)) a1.2.2.1, .dat (.sl .bool) a1.2.2.2]), (0, .box [.dat (.int .i64) a0.1, .dat (.int .i64) a0.2.1, .dat (.sl (.int .i64)) a0.2.2.1, .dat (.sl .bool) a0.2.2.2])], 2⟩ hP hN (by kernel_rfl) allNil ?_
  rcases of_bif hr with ⟨hb1, hr⟩ | ⟨hb1, hr⟩
  · refine HT.cond1 rfl hb1 ?_
    refine HT.reg1 [4] [⟨none, .no⟩] ⟨[(4, .one (.dat .bool false))], [(1, .box [.dat (.int .i64) a1.1, .dat (.int .i64) a1.2.1, .dat (.sl (.int .i64)) a1.2.2.1, .dat (.sl .bool) a1.2.2.2]), (0, .box [.dat (.int .i64) a0.1, .dat (.int .i64) a0.2.1, .dat (.sl (.int .i64)) a0.2.2.1, .dat (.sl .bool) a0.2.2.2])], 2⟩ hP hN (by kernel_rfl) allNil ?_
    have hr := of_some hr
    subst hr
    exact HT.ret (qThenR ⟨[.one (.dat .bool false)], [], [], by kernel_rfl, by kernel_rfl, rfl, (.inl rfl), by kernel_rfl, trivial⟩)
  · refine HT.cond0 rfl hb1 ?_
    refine HT.skip (qThen ?_)
    refine HT.seq ?_
    refine HT.reg1 [2, 3, 14] [⟨none, .no⟩, ⟨none, .no⟩, ⟨none, .no⟩, ⟨none, .no⟩, ⟨none, .no⟩] ⟨[(2, .one (.ptr 0 0)), (3, .one (.ptr 1 0)), (14, .one (.dat .bool (a0.2.1 != a1.2.1)))], [(1, .box [.dat (.int .i64) a1.1, .dat (.int .i64) a1.2.1, .dat (.sl (.int .i64)) a1.2.2.1, .dat (.sl .bool) a1.2.2.2]), (0, .box [.dat (.int .i64) a0.1, .dat (.int .i64) a0.2.1, .dat (.sl (.int .i64)) a0.2.2.1, .dat (.sl .bool) a0.2.2.2])], 2⟩ hP hN (by kernel_rfl) allNil ?_
    rcases of_bif hr with ⟨hb2, hr⟩ | ⟨hb2, hr⟩
    · refine HT.cond1 rfl hb2 ?_
      refine HT.reg1 [4] [⟨none, .no⟩] ⟨[(4, .one (.dat .bool false))], [(1, .box [.dat (.int .i64) a1.1, .dat (.int .i64) a1.2.1, .dat (.sl (.int .i64)) a1.2.2.1, .dat (.sl .bool) a1.2.2.2]), (0, .box [.dat (.int .i64) a0.1, .dat (.int .i64) a0.2.1, .dat (.sl (.int .i64)) a0.2.2.1, .dat (.sl .bool) a0.2.2.2])], 2⟩ hP hN (by kernel_rfl) allNil ?_
      have hr := of_some hr
      subst hr
      exact HT.ret (qThenR ⟨[.one (.dat .bool false)], [], [], by kernel_rfl, by kernel_rfl, rfl, (.inl rfl), by kernel_rfl, trivial⟩)
    · refine HT.cond0 rfl hb2 ?_
      refine HT.skip (qThen ?_)
      refine HT.seq ?_
      obtain ⟨y3, hc4, hr⟩ := of_bind hr
      refine HT.reg1 [2, 3, 20] [⟨none, .no⟩, ⟨none, .no⟩, ⟨none, .no⟩, ⟨none, .no⟩, ⟨none, .call [.imm (.sl (.int .i64)), .imm (.sl (.int .i64))] [⟨false, .bool, y3⟩] []⟩, ⟨none, .no⟩] ⟨[(2, .one (.ptr 0 0)), (3, .one (.ptr 1 0)), (20, .one (.dat .bool (!y3)))], [(1, .box [.dat (.int .i64) a1.1, .dat (.int .i64) a1.2.1, .dat (.sl (.int .i64)) a1.2.2.1, .dat (.sl .bool) a1.2.2.2]), (0, .box [.dat (.int .i64) a0.1, .dat (.int .i64) a0.2.1, .dat (.sl (.int .i64)) a0.2.2.1, .dat (.sl .bool) a0.2.2.2])], 2⟩ hP hN (by kernel_rfl) (allCons (f25_ok hc4) allNil) ?_
      rcases of_bif hr with ⟨hb5, hr⟩ | ⟨hb5, hr⟩
      · refine HT.cond1 rfl hb5 ?_
        refine HT.reg1 [4] [⟨none, .no⟩] ⟨[(4, .one (.dat .bool false))], [(1, .box [.dat (.int .i64) a1.1, .dat (.int .i64) a1.2.1, .dat (.sl (.int .i64)) a1.2.2.1, .dat (.sl .bool) a1.2.2.2]), (0, .box [.dat (.int .i64) a0.1, .dat (.int .i64) a0.2.1, .dat (.sl (.int .i64)) a0.2.2.1, .dat (.sl .bool) a0.2.2.2])], 2⟩ hP hN (by kernel_rfl) allNil ?_
        have hr := of_some hr
        subst hr
        exact HT.ret (qThenR ⟨[.one (.dat .bool false)], [], [], by kernel_rfl, by kernel_rfl, rfl, (.inl rfl), by kernel_rfl, trivial⟩)
      · refine HT.cond0 rfl hb5 ?_
        refine HT.skip (qThen ?_)
        refine HT.seq ?_
        obtain ⟨y6, hc7, hr⟩ := of_bind hr
        refine HT.reg1 [26] [⟨none, .no⟩, ⟨none, .no⟩, ⟨none, .no⟩, ⟨none, .no⟩, ⟨none, .call [.imm (.sl .bool), .imm (.sl .bool)] [⟨false, .bool, y6⟩] []⟩, ⟨none, .no⟩] ⟨[(26, .one (.dat .bool (!y6)))], [(1, .box [.dat (.int .i64) a1.1, .dat (.int .i64) a1.2.1, .dat (.sl (.int .i64)) a1.2.2.1, .dat (.sl .bool) a1.2.2.2]), (0, .box [.dat (.int .i64) a0.1, .dat (.int .i64) a0.2.1, .dat (.sl (.int .i64)) a0.2.2.1, .dat (.sl .bool) a0.2.2.2])], 2⟩ hP hN (by kernel_rfl) (allCons (f95_ok hc7) allNil) ?_
        rcases of_bif hr with ⟨hb8, hr⟩ | ⟨hb8, hr⟩
        · refine HT.cond1 rfl hb8 ?_
          refine HT.reg1 [4] [⟨none, .no⟩] ⟨[(4, .one (.dat .bool false))], [(1, .box [.dat (.int .i64) a1.1, .dat (.int .i64) a1.2.1, .dat (.sl (.int .i64)) a1.2.2.1, .dat (.sl .bool) a1.2.2.2]), (0, .box [.dat (.int .i64) a0.1, .dat (.int .i64) a0.2.1, .dat (.sl (.int .i64)) a0.2.2.1, .dat (.sl .bool) a0.2.2.2])], 2⟩ hP hN (by kernel_rfl) allNil ?_
          have hr := of_some hr
          subst hr
          exact HT.ret (qThenR ⟨[.one (.dat .bool false)], [], [], by kernel_rfl, by kernel_rfl, rfl, (.inl rfl), by kernel_rfl, trivial⟩)
        · refine HT.cond0 rfl hb8 ?_
          refine HT.skip (qThen ?_)
          refine HT.reg1 [4] [⟨none, .no⟩] ⟨[(4, .one (.dat .bool true))], [(1, .box [.dat (.int .i64) a1.1, .dat (.int .i64) a1.2.1, .dat (.sl (.int .i64)) a1.2.2.1, .dat (.sl .bool) a1.2.2.2]), (0, .box [.dat (.int .i64) a0.1, .dat (.int .i64) a0.2.1, .dat (.sl (.int .i64)) a0.2.2.1, .dat (.sl .bool) a0.2.2.2])], 2⟩ hP hN (by kernel_rfl) allNil ?_
          have hr := of_some hr
          subst hr
          exact HT.ret ⟨[.one (.dat .bool true)], [], [], by kernel_rfl, by kernel_rfl, rfl, (.inl rfl), by kernel_rfl, trivial⟩

noncomputable def laws_eqKept (a0 : List UInt8 × Int × Int × List Int × List Bool) (a1 : List UInt8 × Int × Int × List Int × List Bool) : Option (Bool) :=
  bif (a0.1 != a1.1) then
    some false
  else
    (laws_eqPlain (a0.2.1, a0.2.2.1, a0.2.2.2.1, a0.2.2.2.2) (a1.2.1, a1.2.2.1, a1.2.2.2.1, a1.2.2.2.2)).bind fun y2 =>
    bif (!y2) then
      some false
    else
      some true

theorem f62_ok {a0 : List UInt8 × Int × Int × List Int × List Bool} {a1 : List UInt8 × Int × Int × List Int × List Bool} {r : Bool} (hr : laws_eqKept a0 a1 = some r) : CallOK Try.prog 62 [.imm (.st (.pair .str (.st (.pair (.int .i64) (.pair (.int .i64) (.pair (.sl (.int .i64)) (.sl .bool))))))) a0, .imm (.st (.pair .str (.st (.pair (.int .i64) (.pair (.int .i64) (.pair (.sl (.int .i64)) (.sl .bool))))))) a1] [⟨false, .bool, r⟩] [] := by
  unfold laws_eqKept at hr
  refine CallOK.of_body (ts := [(false, .bool)]) Try.func62 rfl (by kernel_rfl) (Nat.le_of_ble_eq_true (by kernel_rfl)) fun cx hP hN hO hF => ?_
  have hO : cx.own.map Prod.fst = [] := hO
  have hF : cx.F = [] := hF rfl
  show HT cx ⟨[(0, .agg [.dat .str a0.1, .dat (.int .i64) a0.2.1, .dat (.int .i64) a0.2.2.1, .dat (.sl (.int .i64)) a0.2.2.2.1, .dat (.sl .bool) a0.2.2.2.2]), (1, .agg [.dat .str a1.1, .dat (.int .i64) a1.2.1, .dat (.int .i64) a1.2.2.1, .dat (.sl (.int .i64)) a1.2.2.2.1, .dat (.sl .bool) a1.2.2.2.2])], [], 0⟩ _ _
  refine HT.reg1 [2, 3] [⟨none, .no⟩, ⟨none, .no⟩, ⟨none, .no⟩] ⟨[(2, .one (.ptr 0 0)), (3, .one (.ptr 1 0))], [(1, .box [.dat .str a1.1, .dat (.int .i64) a1.2.1, .dat (.int .i64) a1.2.2.1, .dat (.sl (.int .i64)) a1.2.2.2.1, .dat (.sl .bool) a1.2.2.2.2]), (0, .box [.dat .str a0.1, .dat (.int .i64) a0.2.1, .dat (.int .i64) a0.2.2.1, .dat (.sl (.int .i64)) a0.2.2.2.1, .dat (.sl .bool) a0.2.2.2.2])], 2⟩ hP hN (by kernel_rfl) allNil ?_
  refine HT.seq ?_
  refine HT.reg1 [2, 3, 9] [⟨none, .no⟩, ⟨none, .no⟩, ⟨none, .no⟩, ⟨none, .no⟩, ⟨none, .no⟩] ⟨[(2, .one (.ptr 0 0)), (3, .one (.ptr 1 0)), (9, .one (.dat .bool (a0.1 != a1.1)))], [(1, .box [.dat .str a1.1, .dat (.int .i64) a1.2.1, .dat (.int .i64) a1.2.2.1, .dat (.sl (.int .i64)) a1.2.2.2.1, .dat (.sl .bool) a1.2.2.2.2]), (0, .box [.dat .str a0.1, .dat (.int .i64) a0.2.1, .dat (.int .i64) a0.2.2.1, .dat (.sl (.int .i64)) a0.2.2.2.1, .dat (.sl .bool) a0.2.2.2.2])], 2⟩ hP hN (by kernel_rfl) allNil ?_
  rcases of_bif hr with ⟨hb1, hr⟩ | ⟨hb1, hr⟩
  · refine HT.cond1 rfl hb1 ?_
    refine HT.reg1 [4] [⟨none, .no⟩] ⟨[(4, .one (.dat .bool false))], [(1, .box [.dat .str a1.1, .dat (.int .i64) a1.2.1, .dat (.int .i64) a1.2.2.1, .dat (.sl (.int .i64)) a1.2.2.2.1, .dat (.sl .bool) a1.2.2.2.2]), (0, .box [.dat .str a0.1, .dat (.int .i64) a0.2.1, .dat (.int .i64) a0.2.2.1, .dat (.sl (.int .i64)) a0.2.2.2.1, .dat (.sl .bool) a0.2.2.2.2])], 2⟩ hP hN (by kernel_rfl) allNil ?_
    have hr := of_some hr
    subst hr
    exact HT.ret (qThenR ⟨[.one (.dat .bool false)], [], [], by kernel_rfl, by kernel_rfl, rfl, (.inl rfl), by kernel_rfl, trivial⟩)
  · refine HT.cond0 rfl hb1 ?_
    refine HT.skip (qThen ?_)
    refine HT.seq ?_
    obtain ⟨y2, hc3, hr⟩ := of_bind hr
    refine HT.reg1 [15] [⟨none, .no⟩, ⟨none, .no⟩, ⟨none, .no⟩, ⟨none, .no⟩, ⟨none, .call [.imm (.st (.pair (.int .i64) (.pair (.int .i64) (.pair (.sl (.int .i64)) (.sl .bool))))), .imm (.st (.pair (.int .i64) (.pair (.int .i64) (.pair (.sl (.int .i64)) (.sl .bool)))))] [⟨false, .bool, y2⟩] []⟩, ⟨none, .no⟩] ⟨[(15, .one (.dat .bool (!y2)))], [(1, .box [.dat .str a1.1, .dat (.int .i64) a1.2.1, .dat (.int .i64) a1.2.2.1, .dat (.sl (.int .i64)) a1.2.2.2.1, .dat (.sl .bool) a1.2.2.2.2]), (0, .box [.dat .str a0.1, .dat (.int .i64) a0.2.1, .dat (.int .i64) a0.2.2.1, .dat (.sl (.int .i64)) a0.2.2.2.1, .dat (.sl .bool) a0.2.2.2.2])], 2⟩ hP hN (by kernel_rfl) (allCons (f34_ok hc3) allNil) ?_
    rcases of_bif hr with ⟨hb4, hr⟩ | ⟨hb4, hr⟩
    · refine HT.cond1 rfl hb4 ?_
      refine HT.reg1 [4] [⟨none, .no⟩] ⟨[(4, .one (.dat .bool false))], [(1, .box [.dat .str a1.1, .dat (.int .i64) a1.2.1, .dat (.int .i64) a1.2.2.1, .dat (.sl (.int .i64)) a1.2.2.2.1, .dat (.sl .bool) a1.2.2.2.2]), (0, .box [.dat .str a0.1, .dat (.int .i64) a0.2.1, .dat (.int .i64) a0.2.2.1, .dat (.sl (.int .i64)) a0.2.2.2.1, .dat (.sl .bool) a0.2.2.2.2])], 2⟩ hP hN (by kernel_rfl) allNil ?_
      have hr := of_some hr
      subst hr
      exact HT.ret (qThenR ⟨[.one (.dat .bool false)], [], [], by kernel_rfl, by kernel_rfl, rfl, (.inl rfl), by kernel_rfl, trivial⟩)
    · refine HT.cond0 rfl hb4 ?_
      refine HT.skip (qThen ?_)
      refine HT.reg1 [4] [⟨none, .no⟩] ⟨[(4, .one (.dat .bool true))], [(1, .box [.dat .str a1.1, .dat (.int .i64) a1.2.1, .dat (.int .i64) a1.2.2.1, .dat (.sl (.int .i64)) a1.2.2.2.1, .dat (.sl .bool) a1.2.2.2.2]), (0, .box [.dat .str a0.1, .dat (.int .i64) a0.2.1, .dat (.int .i64) a0.2.2.1, .dat (.sl (.int .i64)) a0.2.2.2.1, .dat (.sl .bool) a0.2.2.2.2])], 2⟩ hP hN (by kernel_rfl) allNil ?_
      have hr := of_some hr
      subst hr
      exact HT.ret ⟨[.one (.dat .bool true)], [], [], by kernel_rfl, by kernel_rfl, rfl, (.inl rfl), by kernel_rfl, trivial⟩

noncomputable def laws_markInt64S_B1  (s1 : Int × Int × List Int) : Option ((Int × Int × List Int) ⊕ ((Int × List Int))) :=
  bif (decide (s1.2.1 < (lenI s1.2.2))) then
    guardP ((0 : Int) ≤ s1.2.1 ∧ s1.2.1 < lenI s1.2.2) (
      some (.inl ((wadd .i64 s1.1 (1 : Int)), (wadd .i64 s1.2.1 (1 : Int)), (List.set s1.2.2 (Int.toNat s1.2.1) s1.1))))
  else
    some (.inr (s1.1, s1.2.2))

noncomputable def laws_markInt64S (a0 : List Int) (a1 : Int) : Option (Int × List Int) :=
  (rounds (laws_markInt64S_B1) (a1, (0 : Int), a0)).bind fun r3 =>
  guardP (List.length r3.2 = List.length a0) (
    some (r3.1, r3.2))

theorem f56_ok {a0 : List Int} {a1 : Int} {r : Int × List Int} (hr : laws_markInt64S a0 a1 = some r) : CallOK Try.prog 56 [.own (.sl (.int .i64)) a0, .imm (.int .i64) a1] [⟨false, (.int .i64), r.1⟩] [⟨(.sl (.int .i64)), r.2⟩] := by
  unfold laws_markInt64S at hr
  refine CallOK.of_body (ts := [(false, (.int .i64))]) Try.func56 rfl (by kernel_rfl) (Nat.le_of_ble_eq_true (by kernel_rfl)) fun cx hP hN hO hF => ?_
  have hO : cx.own.map Prod.fst = [0] := hO
  show HT cx ⟨[(0, .one (.all 0)), (1, .one (.dat (.int .i64) a1))], [(0, .seq (.int .i64) a0)], 1⟩ _ _
  refine HT.reg1 [0, 1] [⟨none, .no⟩] ⟨[(0, .one (.all 0)), (1, .one (.dat (.int .i64) a1))], [(0, .seq (.int .i64) a0)], 1⟩ hP hN (by kernel_rfl) allNil ?_
  refine HT.seq ?_
  refine HT.reg1 [0, 1, 5] [⟨none, .no⟩] ⟨[(0, .one (.all 0)), (1, .one (.dat (.int .i64) a1)), (5, .one (.dat (.int .i64) (0 : Int)))], [(0, .seq (.int .i64) a0)], 1⟩ hP hN (by kernel_rfl) allNil ?_
  refine HT.block ?_
  obtain ⟨r2, hL10, hr⟩ := of_bind hr
  refine (Le.cv (s := ⟨[(0, 0)], [], [], false⟩) (own := [0]) (ps := [a1 = a1, (0 : Int) = (0 : Int), a0 = a0]) (st' := ⟨[(0, .one (.all 0)), (1, .one (.dat (.int .i64) a1)), (5, .one (.dat (.int .i64) (0 : Int)))], [(0, .seq (.int .i64) a0)], 1⟩) hO (fun h => by cases h) (by kernel_rfl) ⟨rfl, rfl, rfl, trivial⟩).ht ?_
  refine HT.loopE (s := (a1, (0 : Int), a0)) (fun (s1 : Int × Int × List Int) => ⟨[(0, .one (.all 0)), (1, .one (.dat (.int .i64) s1.1)), (5, .one (.dat (.int .i64) s1.2.1))], [(0, .seq (.int .i64) s1.2.2)], 1⟩) (fun (r3 : (Int × List Int)) => (.exit 0, ⟨[(1, .one (.dat (.int .i64) r3.1))], [(0, .seq (.int .i64) r3.2)], 1⟩)) hL10 ?_ (fun s1 x5 hx6 hk7 => ?_)
  · refine (qBlockX (qThen ?_))
    refine HT.reg1 [4] [⟨none, .no⟩, ⟨none, .no⟩] ⟨[(4, .one (.dat (.int .i64) r2.1))], [(0, .seq (.int .i64) r2.2)], 1⟩ hP hN (by kernel_rfl) allNil ?_
    obtain ⟨hg4, hr⟩ := of_guard hr
    have hr := of_some hr
    subst hr
    exact HT.ret ⟨[.one (.dat (.int .i64) r2.1)], [], [List.length r2.2 = List.length a0], by kernel_rfl, by kernel_rfl, rfl, (.inr rfl), by kernel_rfl, ⟨hg4, trivial⟩⟩
  · refine HT.seq ?_
    refine HT.reg1 [0, 1, 5, 9] [⟨none, .no⟩, ⟨none, .no⟩, ⟨none, .no⟩, ⟨none, .no⟩] ⟨[(0, .one (.all 0)), (1, .one (.dat (.int .i64) s1.1)), (5, .one (.dat (.int .i64) s1.2.1)), (9, .one (.dat .bool (decide (s1.2.1 < (lenI s1.2.2)))))], [(0, .seq (.int .i64) s1.2.2)], 1⟩ hP hN (by kernel_rfl) allNil ?_
    rcases of_bif hx6 with ⟨hb8, hx6⟩ | ⟨hb8, hx6⟩
    · refine HT.cond1 rfl hb8 ?_
      refine HT.skip (qThen ?_)
      refine HT.seq ?_
      refine HT.block ?_
      obtain ⟨hg9, hx6⟩ := of_guard hx6
      refine HT.reg1 [0, 1, 5] [⟨none, .no⟩, ⟨none, .no⟩, ⟨none, .no⟩, ⟨none, .no⟩, ⟨none, .no⟩] ⟨[(0, .one (.all 0)), (1, .one (.dat (.int .i64) s1.1)), (5, .one (.dat (.int .i64) s1.2.1))], [(0, .seq (.int .i64) (List.set s1.2.2 (Int.toNat s1.2.1) s1.1)), (0, .seq (.int .i64) s1.2.2)], 1⟩ hP hN (by kernel_rfl) (allCons hg9 (allCons (natLt hg9) allNil)) ?_
      refine HT.reg (rs := [⟨none, .no⟩, ⟨none, .no⟩, ⟨none, .no⟩]) (st' := ⟨[(1, .one (.dat (.int .i64) (wadd .i64 s1.1 (1 : Int)))), (17, .one (.dat (.int .i64) (wadd .i64 s1.1 (1 : Int)))), (16, .one (.dat (.int .i64) s1.1)), (0, .one (.all 0)), (1, .one (.dat (.int .i64) s1.1)), (5, .one (.dat (.int .i64) s1.2.1))], [(0, .seq (.int .i64) (List.set s1.2.2 (Int.toNat s1.2.1) s1.1)), (0, .seq (.int .i64) s1.2.2)], 1⟩) hP hN (by kernel_rfl) allNil (qBlock (qThen ?_))
      have hx6 := of_some hx6
      subst hx6
      refine HT.reg (rs := [⟨none, .no⟩, ⟨none, .no⟩, ⟨none, .no⟩]) (st' := ⟨[(5, .one (.dat (.int .i64) (wadd .i64 s1.2.1 (1 : Int)))), (11, .one (.dat (.int .i64) (wadd .i64 s1.2.1 (1 : Int)))), (10, .one (.dat (.int .i64) s1.2.1)), (1, .one (.dat (.int .i64) (wadd .i64 s1.1 (1 : Int)))), (17, .one (.dat (.int .i64) (wadd .i64 s1.1 (1 : Int)))), (16, .one (.dat (.int .i64) s1.1)), (0, .one (.all 0)), (1, .one (.dat (.int .i64) s1.1)), (5, .one (.dat (.int .i64) s1.2.1))], [(0, .seq (.int .i64) (List.set s1.2.2 (Int.toNat s1.2.1) s1.1)), (0, .seq (.int .i64) s1.2.2)], 1⟩) hP hN (by kernel_rfl) allNil (qLoopN ⟨((wadd .i64 s1.1 (1 : Int)), (wadd .i64 s1.2.1 (1 : Int)), (List.set s1.2.2 (Int.toNat s1.2.1) s1.1)), rfl, Le.cv (s := ⟨[(0, 0)], [], [], false⟩) (own := [0]) (ps := [(wadd .i64 s1.1 (1 : Int)) = (wadd .i64 s1.1 (1 : Int)), (wadd .i64 s1.2.1 (1 : Int)) = (wadd .i64 s1.2.1 (1 : Int)), (List.set s1.2.2 (Int.toNat s1.2.1) s1.1) = (List.set s1.2.2 (Int.toNat s1.2.1) s1.1)]) (st' := ⟨[(0, .one (.all 0)), (1, .one (.dat (.int .i64) (wadd .i64 s1.1 (1 : Int)))), (5, .one (.dat (.int .i64) (wadd .i64 s1.2.1 (1 : Int))))], [(0, .seq (.int .i64) (List.set s1.2.2 (Int.toNat s1.2.1) s1.1))], 1⟩) hO (fun h => by cases h) (by kernel_rfl) ⟨rfl, rfl, rfl, trivial⟩⟩)
    · refine HT.cond0 rfl hb8 ?_
      have hx6 := of_some hx6
      subst hx6
      refine (Le.cv (s := ⟨[(0, 0)], [], [], false⟩) (own := [0]) (ps := [s1.1 = s1.1, s1.2.2 = s1.2.2]) (st' := ⟨[(1, .one (.dat (.int .i64) s1.1))], [(0, .seq (.int .i64) s1.2.2)], 1⟩) hO (fun h => by cases h) (by kernel_rfl) ⟨rfl, rfl, trivial⟩).ht ?_
      exact HT.exit (qThenE (qLoopE (hk7 (s1.1, s1.2.2) rfl)))

noncomputable def laws_markBoolS_B1  (s1 : Int × Int × List Bool) : Option ((Int × Int × List Bool) ⊕ ((Int × List Bool))) :=
  bif (decide (s1.2.1 < (lenI s1.2.2))) then
    guardP ((0 : Int) ≤ s1.2.1 ∧ s1.2.1 < lenI s1.2.2) (
      some (.inl ((wadd .i64 s1.1 (1 : Int)), (wadd .i64 s1.2.1 (1 : Int)), (List.set s1.2.2 (Int.toNat s1.2.1) ((Int.tmod s1.1 (3 : Int)) == (0 : Int))))))
  else
    some (.inr (s1.1, s1.2.2))

noncomputable def laws_markBoolS (a0 : List Bool) (a1 : Int) : Option (Int × List Bool) :=
  (rounds (laws_markBoolS_B1) (a1, (0 : Int), a0)).bind fun r3 =>
  guardP (List.length r3.2 = List.length a0) (
    some (r3.1, r3.2))

theorem f119_ok {a0 : List Bool} {a1 : Int} {r : Int × List Bool} (hr : laws_markBoolS a0 a1 = some r) : CallOK Try.prog 119 [.own (.sl .bool) a0, .imm (.int .i64) a1] [⟨false, (.int .i64), r.1⟩] [⟨(.sl .bool), r.2⟩] := by
  unfold laws_markBoolS at hr
  refine CallOK.of_body (ts := [(false, (.int .i64))]) Try.func119 rfl (by kernel_rfl) (Nat.le_of_ble_eq_true (by kernel_rfl)) fun cx hP hN hO hF => ?_
  have hO : cx.own.map Prod.fst = [0] := hO
  show HT cx ⟨[(0, .one (.all 0)), (1, .one (.dat (.int .i64) a1))], [(0, .seq .bool a0)], 1⟩ _ _
  refine HT.reg1 [0, 1] [⟨none, .no⟩] ⟨[(0, .one (.all 0)), (1, .one (.dat (.int .i64) a1))], [(0, .seq .bool a0)], 1⟩ hP hN (by kernel_rfl) allNil ?_
  refine HT.seq ?_
  refine HT.reg1 [0, 1, 5] [⟨none, .no⟩] ⟨[(0, .one (.all 0)), (1, .one (.dat (.int .i64) a1)), (5, .one (.dat (.int .i64) (0 : Int)))], [(0, .seq .bool a0)], 1⟩ hP hN (by kernel_rfl) allNil ?_
  refine HT.block ?_
  obtain ⟨r2, hL10, hr⟩ := of_bind hr
  refine (Le.cv (s := ⟨[(0, 0)], [], [], false⟩) (own := [0]) (ps := [a1 = a1, (0 : Int) = (0 : Int), a0 = a0]) (st' := ⟨[(0, .one (.all 0)), (1, .one (.dat (.int .i64) a1)), (5, .one (.dat (.int .i64) (0 : Int)))], [(0, .seq .bool a0)], 1⟩) hO (fun h => by cases h) (by kernel_rfl) ⟨rfl, rfl, rfl, trivial⟩).ht ?_
  refine HT.loopE (s := (a1, (0 : Int), a0)) (fun (s1 : Int × Int × List Bool) => ⟨[(0, .one (.all 0)), (1, .one (.dat (.int .i64) s1.1)), (5, .one (.dat (.int .i64) s1.2.1))], [(0, .seq .bool s1.2.2)], 1⟩) (fun (r3 : (Int × List Bool)) => (.exit 0, ⟨[(1, .one (.dat (.int .i64) r3.1))], [(0, .seq .bool r3.2)], 1⟩)) hL10 ?_ (fun s1 x5 hx6 hk7 => ?_)
  · refine (qBlockX (qThen ?_))
    refine HT.reg1 [4] [⟨none, .no⟩, ⟨none, .no⟩] ⟨[(4, .one (.dat (.int .i64) r2.1))], [(0, .seq .bool r2.2)], 1⟩ hP hN (by kernel_rfl) allNil ?_
    obtain ⟨hg4, hr⟩ := of_guard hr
    have hr := of_some hr
    subst hr
    exact HT.ret ⟨[.one (.dat (.int .i64) r2.1)], [], [List.length r2.2 = List.length a0], by kernel_rfl, by kernel_rfl, rfl, (.inr rfl), by kernel_rfl, ⟨hg4, trivial⟩⟩
  · refine HT.seq ?_
    refine HT.reg1 [0, 1, 5, 9] [⟨none, .no⟩, ⟨none, .no⟩, ⟨none, .no⟩, ⟨none, .no⟩] ⟨[(0, .one (.all 0)), (1, .one (.dat (.int .i64) s1.1)), (5, .one (.dat (.int .i64) s1.2.1)), (9, .one (.dat .bool (decide (s1.2.1 < (lenI s1.2.2)))))], [(0, .seq .bool s1.2.2)], 1⟩ hP hN (by kernel_rfl) allNil ?_
    rcases of_bif hx6 with ⟨hb8, hx6⟩ | ⟨hb8, hx6⟩
    · refine HT.cond1 rfl hb8 ?_
      refine HT.skip (qThen ?_)
      refine HT.seq ?_
      refine HT.block ?_
      obtain ⟨hg9, hx6⟩ := of_guard hx6
      refine HT.reg1 [0, 1, 5] [⟨none, .no⟩, ⟨none, .no⟩, ⟨none, .no⟩, ⟨none, .no⟩, ⟨none, .no⟩, ⟨none, .no⟩, ⟨none, .no⟩] ⟨[(0, .one (.all 0)), (1, .one (.dat (.int .i64) s1.1)), (5, .one (.dat (.int .i64) s1.2.1))], [(0, .seq .bool (List.set s1.2.2 (Int.toNat s1.2.1) ((Int.tmod s1.1 (3 : Int)) == (0 : Int)))), (0, .seq .bool s1.2.2)], 1⟩ hP hN (by kernel_rfl) (allCons (show (3 : Int) ≠ 0 from by decide) (allCons hg9 (allCons (natLt hg9) allNil))) ?_
      refine HT.reg (rs := [⟨none, .no⟩, ⟨none, .no⟩, ⟨none, .no⟩]) (st' := ⟨[(1, .one (.dat (.int .i64) (wadd .i64 s1.1 (1 : Int)))), (19, .one (.dat (.int .i64) (wadd .i64 s1.1 (1 : Int)))), (18, .one (.dat (.int .i64) s1.1)), (0, .one (.all 0)), (1, .one (.dat (.int .i64) s1.1)), (5, .one (.dat (.int .i64) s1.2.1))], [(0, .seq .bool (List.set s1.2.2 (Int.toNat s1.2.1) ((Int.tmod s1.1 (3 : Int)) == (0 : Int)))), (0, .seq .bool s1.2.2)], 1⟩) hP hN (by kernel_rfl) allNil (qBlock (qThen ?_))
      have hx6 := of_some hx6
      subst hx6
      refine HT.reg (rs := [⟨none, .no⟩, ⟨none, .no⟩, ⟨none, .no⟩]) (st' := ⟨[(5, .one (.dat (.int .i64) (wadd .i64 s1.2.1 (1 : Int)))), (11, .one (.dat (.int .i64) (wadd .i64 s1.2.1 (1 : Int)))), (10, .one (.dat (.int .i64) s1.2.1)), (1, .one (.dat (.int .i64) (wadd .i64 s1.1 (1 : Int)))), (19, .one (.dat (.int .i64) (wadd .i64 s1.1 (1 : Int)))), (18, .one (.dat (.int .i64) s1.1)), (0, .one (.all 0)), (1, .one (.dat (.int .i64) s1.1)), (5, .one (.dat (.int .i64) s1.2.1))], [(0, .seq .bool (List.set s1.2.2 (Int.toNat s1.2.1) ((Int.tmod s1.1 (3 : Int)) == (0 : Int)))), (0, .seq .bool s1.2.2)], 1⟩) hP hN (by kernel_rfl) allNil (qLoopN ⟨((wadd .i64 s1.1 (1 : Int)), (wadd .i64 s1.2.1 (1 : Int)), (List.set s1.2.2 (Int.toNat s1.2.1) ((Int.tmod s1.1 (3 : Int)) == (0 : Int)))), rfl, Le.cv (s := ⟨[(0, 0)], [], [], false⟩) (own := [0]) (ps := [(wadd .i64 s1.1 (1 : Int)) = (wadd .i64 s1.1 (1 : Int)), (wadd .i64 s1.2.1 (1 : Int)) = (wadd .i64 s1.2.1 (1 : Int)), (List.set s1.2.2 (Int.toNat s1.2.1) ((Int.tmod s1.1 (3 : Int)) == (0 : Int))) = (List.set s1.2.2 (Int.toNat s1.2.1) ((Int.tmod s1.1 (3 : Int)) == (0 : Int)))]) (st' := ⟨[(0, .one (.all 0)), (1, .one (.dat (.int .i64) (wadd .i64 s1.1 (1 : Int)))), (5, .one (.dat (.int .i64) (wadd .i64 s1.2.1 (1 : Int))))], [(0, .seq .bool (List.set s1.2.2 (Int.toNat s1.2.1) ((Int.tmod s1.1 (3 : Int)) == (0 : Int))))], 1⟩) hO (fun h => by cases h) (by kernel_rfl) ⟨rfl, rfl, rfl, trivial⟩⟩)
    · refine HT.cond0 rfl hb8 ?_
      have hx6 := of_some hx6
      subst hx6
      refine (Le.cv (s := ⟨[(0, 0)], [], [], false⟩) (own := [0]) (ps := [s1.1 = s1.1, s1.2.2 = s1.2.2]) (st' := ⟨[(1, .one (.dat (.int .i64) s1.1))], [(0, .seq .bool s1.2.2)], 1⟩) hO (fun h => by cases h) (by kernel_rfl) ⟨rfl, rfl, trivial⟩).ht ?_
      exact HT.exit (qThenE (qLoopE (hk7 (s1.1, s1.2.2) rfl)))

noncomputable def laws_markPlain (a0 : Int × Int × List Int × List Bool) (a1 : Int) : Option (Int × (Int × Int × List Int × List Bool)) :=
  (laws_markInt64S a0.2.2.1 a1).bind fun y1 =>
  (laws_markBoolS a0.2.2.2 y1.1).bind fun y3 =>
  guardP (List.length y1.2 = List.length a0.2.2.1) (
    guardP (List.length y3.2 = List.length a0.2.2.2) (
      some (y3.1, a0.1, a0.2.1, y1.2, y3.2)))

theorem f54_ok {a0 : Int × Int × List Int × List Bool} {a1 : Int} {r : Int × (Int × Int × List Int × List Bool)} (hr : laws_markPlain a0 a1 = some r) : CallOK Try.prog 54 [.own (.st (.pair (.int .i64) (.pair (.int .i64) (.pair (.sl (.int .i64)) (.sl .bool))))) a0, .imm (.int .i64) a1] [⟨false, (.int .i64), r.1⟩] [⟨(.st (.pair (.int .i64) (.pair (.int .i64) (.pair (.sl (.int .i64)) (.sl .bool))))), r.2⟩] := by
  unfold laws_markPlain at hr
  refine CallOK.of_body (ts := [(false, (.int .i64))]) Try.func54 rfl (by kernel_rfl) (Nat.le_of_ble_eq_true (by kernel_rfl)) fun cx hP hN hO hF => ?_
  have hO : cx.own.map Prod.fst = [0, 1] := hO
  show HT cx ⟨[(0, .agg [.dat (.int .i64) a0.1, .dat (.int .i64) a0.2.1, .all 0, .all 1]), (1, .one (.dat (.int .i64) a1))], [(0, .seq (.int .i64) a0.2.2.1), (1, .seq .bool a0.2.2.2)], 2⟩ _ _
  refine HT.reg1 [1, 2] [⟨none, .no⟩, ⟨none, .no⟩] ⟨[(1, .one (.dat (.int .i64) a1)), (2, .one (.ptr 2 0))], [(2, .box [.dat (.int .i64) a0.1, .dat (.int .i64) a0.2.1, .all 0, .all 1]), (0, .seq (.int .i64) a0.2.2.1), (1, .seq .bool a0.2.2.2)], 3⟩ hP hN (by kernel_rfl) allNil ?_
  obtain ⟨y1, hc2, hr⟩ := of_bind hr
  refine HT.reg1 [1, 2] [⟨none, .no⟩, ⟨none, .no⟩, ⟨none, .no⟩, ⟨none, .call [.own (.sl (.int .i64)), .imm (.int .i64)] [⟨false, (.int .i64), y1.1⟩] [⟨(.sl (.int .i64)), y1.2⟩]⟩, ⟨none, .no⟩] ⟨[(1, .one (.dat (.int .i64) y1.1)), (2, .one (.ptr 2 0))], [(0, .seq (.int .i64) y1.2), (2, .box [.dat (.int .i64) a0.1, .dat (.int .i64) a0.2.1, .all 0, .all 1]), (0, .seq (.int .i64) a0.2.2.1), (1, .seq .bool a0.2.2.2)], 3⟩ hP hN (by kernel_rfl) (allCons (f56_ok hc2) allNil) ?_
  obtain ⟨y3, hc4, hr⟩ := of_bind hr
  refine HT.reg1 [1] [⟨none, .no⟩, ⟨none, .no⟩, ⟨none, .no⟩, ⟨none, .call [.own (.sl .bool), .imm (.int .i64)] [⟨false, (.int .i64), y3.1⟩] [⟨(.sl .bool), y3.2⟩]⟩, ⟨none, .no⟩] ⟨[(1, .one (.dat (.int .i64) y3.1))], [(1, .seq .bool y3.2), (0, .seq (.int .i64) y1.2), (2, .box [.dat (.int .i64) a0.1, .dat (.int .i64) a0.2.1, .all 0, .all 1]), (0, .seq (.int .i64) a0.2.2.1), (1, .seq .bool a0.2.2.2)], 3⟩ hP hN (by kernel_rfl) (allCons (f119_ok hc4) allNil) ?_
  refine HT.reg1 [4] [⟨none, .no⟩, ⟨none, .no⟩] ⟨[(4, .one (.dat (.int .i64) y3.1))], [(1, .seq .bool y3.2), (0, .seq (.int .i64) y1.2), (2, .box [.dat (.int .i64) a0.1, .dat (.int .i64) a0.2.1, .all 0, .all 1]), (0, .seq (.int .i64) a0.2.2.1), (1, .seq .bool a0.2.2.2)], 3⟩ hP hN (by kernel_rfl) allNil ?_
  obtain ⟨hg5, hr⟩ := of_guard hr
  obtain ⟨hg6, hr⟩ := of_guard hr
  have hr := of_some hr
  subst hr
  exact HT.ret ⟨[.one (.dat (.int .i64) y3.1)], [], [List.length y1.2 = List.length a0.2.2.1, List.length y3.2 = List.length a0.2.2.2], by kernel_rfl, by kernel_rfl, rfl, (.inr rfl), by kernel_rfl, ⟨hg5, hg6, trivial⟩⟩

noncomputable def laws_markKept (a0 : List UInt8 × Int × Int × List Int × List Bool) (a1 : Int) : Option (Int × (List UInt8 × Int × Int × List Int × List Bool)) :=
  (laws_markPlain (a0.2.1, a0.2.2.1, a0.2.2.2.1, a0.2.2.2.2) a1).bind fun y1 =>
  guardP (List.length y1.2.2.2.1 = List.length a0.2.2.2.1) (
    guardP (List.length y1.2.2.2.2 = List.length a0.2.2.2.2) (
      some (y1.1, a0.1, a0.2.1, a0.2.2.1, y1.2.2.2.1, y1.2.2.2.2)))

theorem f63_ok {a0 : List UInt8 × Int × Int × List Int × List Bool} {a1 : Int} {r : Int × (List UInt8 × Int × Int × List Int × List Bool)} (hr : laws_markKept a0 a1 = some r) : CallOK Try.prog 63 [.own (.st (.pair .str (.st (.pair (.int .i64) (.pair (.int .i64) (.pair (.sl (.int .i64)) (.sl .bool))))))) a0, .imm (.int .i64) a1] [⟨false, (.int .i64), r.1⟩] [⟨(.st (.pair .str (.st (.pair (.int .i64) (.pair (.int .i64) (.pair (.sl (.int .i64)) (.sl .bool))))))), r.2⟩] := by
  unfold laws_markKept at hr
  refine CallOK.of_body (ts := [(false, (.int .i64))]) Try.func63 rfl (by kernel_rfl) (Nat.le_of_ble_eq_true (by kernel_rfl)) fun cx hP hN hO hF => ?_
  have hO : cx.own.map Prod.fst = [0, 1] := hO
  show HT cx ⟨[(0, .agg [.dat .str a0.1, .dat (.int .i64) a0.2.1, .dat (.int .i64) a0.2.2.1, .all 0, .all 1]), (1, .one (.dat (.int .i64) a1))], [(0, .seq (.int .i64) a0.2.2.2.1), (1, .seq .bool a0.2.2.2.2)], 2⟩ _ _
  refine HT.reg1 [1, 2] [⟨none, .no⟩, ⟨none, .no⟩] ⟨[(1, .one (.dat (.int .i64) a1)), (2, .one (.ptr 2 0))], [(2, .box [.dat .str a0.1, .dat (.int .i64) a0.2.1, .dat (.int .i64) a0.2.2.1, .all 0, .all 1]), (0, .seq (.int .i64) a0.2.2.2.1), (1, .seq .bool a0.2.2.2.2)], 3⟩ hP hN (by kernel_rfl) allNil ?_
  obtain ⟨y1, hc2, hr⟩ := of_bind hr
  refine HT.reg1 [1] [⟨none, .no⟩, ⟨none, .no⟩, ⟨none, .no⟩, ⟨none, .call [.own (.st (.pair (.int .i64) (.pair (.int .i64) (.pair (.sl (.int .i64)) (.sl .bool))))), .imm (.int .i64)] [⟨false, (.int .i64), y1.1⟩] [⟨(.st (.pair (.int .i64) (.pair (.int .i64) (.pair (.sl (.int .i64)) (.sl .bool))))), y1.2⟩]⟩, ⟨none, .no⟩] ⟨[(1, .one (.dat (.int .i64) y1.1))], [(0, .seq (.int .i64) y1.2.2.2.1), (1, .seq .bool y1.2.2.2.2), (2, .box [.dat .str a0.1, .dat (.int .i64) a0.2.1, .dat (.int .i64) a0.2.2.1, .all 0, .all 1]), (0, .seq (.int .i64) a0.2.2.2.1), (1, .seq .bool a0.2.2.2.2)], 3⟩ hP hN (by kernel_rfl) (allCons (f54_ok hc2) allNil) ?_
  refine HT.reg1 [4] [⟨none, .no⟩, ⟨none, .no⟩] ⟨[(4, .one (.dat (.int .i64) y1.1))], [(0, .seq (.int .i64) y1.2.2.2.1), (1, .seq .bool y1.2.2.2.2), (2, .box [.dat .str a0.1, .dat (.int .i64) a0.2.1, .dat (.int .i64) a0.2.2.1, .all 0, .all 1]), (0, .seq (.int .i64) a0.2.2.2.1), (1, .seq .bool a0.2.2.2.2)], 3⟩ hP hN (by kernel_rfl) allNil ?_
  obtain ⟨hg3, hr⟩ := of_guard hr
  obtain ⟨hg4, hr⟩ := of_guard hr
  have hr := of_some hr
  subst hr
  exact HT.ret ⟨[.one (.dat (.int .i64) y1.1)], [], [List.length y1.2.2.2.1 = List.length a0.2.2.2.1, List.length y1.2.2.2.2 = List.length a0.2.2.2.2], by kernel_rfl, by kernel_rfl, rfl, (.inr rfl), by kernel_rfl, ⟨hg3, hg4, trivial⟩⟩

noncomputable def laws_heldInt64S_B1 (a0 : List Int) (s1 : Int × Int) : Option ((Int × Int) ⊕ (Int ⊕ Unit)) :=
  bif (decide (s1.2 < (lenI a0))) then
    guardP ((0 : Int) ≤ s1.2 ∧ s1.2 < lenI a0) (
      bif ((List.getD a0 (Int.toNat s1.2) (0 : Int)) != s1.1) then
        some (.inr (.inr ()))
      else
        some (.inl ((wadd .i64 s1.1 (1 : Int)), (wadd .i64 s1.2 (1 : Int)))))
  else
    some (.inr (.inl s1.1))

noncomputable def laws_heldInt64S (a0 : List Int) (a1 : Int) : Option (Int) :=
  (rounds (laws_heldInt64S_B1 a0) (a1, (0 : Int))).bind fun r2 => match r2 with
    | .inl r3 =>
      some r3
    | .inr r4 =>
      some (-1 : Int)

theorem f57_ok {a0 : List Int} {a1 : Int} {r : Int} (hr : laws_heldInt64S a0 a1 = some r) : CallOK Try.prog 57 [.imm (.sl (.int .i64)) a0, .imm (.int .i64) a1] [⟨false, (.int .i64), r⟩] [] := by
  unfold laws_heldInt64S at hr
  refine CallOK.of_body (ts := [(false, (.int .i64))]) Try.func57 rfl (by kernel_rfl) (Nat.le_of_ble_eq_true (by kernel_rfl)) fun cx hP hN hO hF => ?_
  have hO : cx.own.map Prod.fst = [] := hO
  have hF : cx.F = [] := hF rfl
  show HT cx ⟨[(0, .one (.dat (.sl (.int .i64)) a0)), (1, .one (.dat (.int .i64) a1))], [], 0⟩ _ _
  refine HT.reg1 [0, 1] [⟨none, .no⟩] ⟨[(0, .one (.dat (.sl (.int .i64)) a0)), (1, .one (.dat (.int .i64) a1))], [], 0⟩ hP hN (by kernel_rfl) allNil ?_
  refine HT.seq ?_
  refine HT.reg1 [0, 1, 5] [⟨none, .no⟩] ⟨[(0, .one (.dat (.sl (.int .i64)) a0)), (1, .one (.dat (.int .i64) a1)), (5, .one (.dat (.int .i64) (0 : Int)))], [], 0⟩ hP hN (by kernel_rfl) allNil ?_
  refine HT.block ?_
  obtain ⟨r2, hL11, hr⟩ := of_bind hr
  refine (Le.cv (s := ⟨[], [], [], false⟩) (own := []) (ps := [a0 = a0, a1 = a1, (0 : Int) = (0 : Int)]) (st' := ⟨[(0, .one (.dat (.sl (.int .i64)) a0)), (1, .one (.dat (.int .i64) a1)), (5, .one (.dat (.int .i64) (0 : Int)))], [], 0⟩) hO (fun h => by cases h) (by kernel_rfl) ⟨rfl, rfl, rfl, trivial⟩).ht ?_
  refine HT.loopE (s := (a1, (0 : Int))) (fun (s1 : Int × Int) => ⟨[(0, .one (.dat (.sl (.int .i64)) a0)), (1, .one (.dat (.int .i64) s1.1)), (5, .one (.dat (.int .i64) s1.2))], [], 0⟩) (fun (r2 : Int ⊕ Unit) => match r2 with | .inl r3 => (.exit 0, ⟨[(1, .one (.dat (.int .i64) r3))], [], 0⟩) | .inr r4 => (.ret, ⟨[(4, .one (.dat (.int .i64) (-1 : Int)))], [], 0⟩)) hL11 ?_ (fun s1 x5 hx6 hk7 => ?_)
  · rcases r2 with r3 | r4
    · refine (qBlockX (qThen ?_))
      refine HT.reg1 [4] [⟨none, .no⟩, ⟨none, .no⟩] ⟨[(4, .one (.dat (.int .i64) r3))], [], 0⟩ hP hN (by kernel_rfl) allNil ?_
      have hr := of_some hr
      subst hr
      exact HT.ret ⟨[.one (.dat (.int .i64) r3)], [], [], by kernel_rfl, by kernel_rfl, rfl, (.inl rfl), by kernel_rfl, trivial⟩
    · have hr := of_some hr
      subst hr
      exact (qBlockR (qThenR ⟨[.one (.dat (.int .i64) (-1 : Int))], [], [], by kernel_rfl, by kernel_rfl, rfl, (.inl rfl), by kernel_rfl, trivial⟩))
  · refine HT.seq ?_
    refine HT.reg1 [0, 1, 5, 9] [⟨none, .no⟩, ⟨none, .no⟩, ⟨none, .no⟩, ⟨none, .no⟩] ⟨[(0, .one (.dat (.sl (.int .i64)) a0)), (1, .one (.dat (.int .i64) s1.1)), (5, .one (.dat (.int .i64) s1.2)), (9, .one (.dat .bool (decide (s1.2 < (lenI a0)))))], [], 0⟩ hP hN (by kernel_rfl) allNil ?_
    rcases of_bif hx6 with ⟨hb8, hx6⟩ | ⟨hb8, hx6⟩
    · refine HT.cond1 rfl hb8 ?_
      refine HT.skip (qThen ?_)
      refine HT.seq ?_
      refine HT.block ?_
      refine HT.seq ?_
      obtain ⟨hg9, hx6⟩ := of_guard hx6
      refine HT.reg1 [0, 1, 5, 17] [⟨none, .no⟩, ⟨none, .no⟩, ⟨none, .no⟩, ⟨none, .no⟩, ⟨none, .no⟩, ⟨none, .no⟩] ⟨[(0, .one (.dat (.sl (.int .i64)) a0)), (1, .one (.dat (.int .i64) s1.1)), (5, .one (.dat (.int .i64) s1.2)), (17, .one (.dat .bool ((List.getD a0 (Int.toNat s1.2) (0 : Int)) != s1.1)))], [], 0⟩ hP hN (by kernel_rfl) (allCons hg9 allNil) ?_
      rcases of_bif hx6 with ⟨hb10, hx6⟩ | ⟨hb10, hx6⟩
      · refine HT.cond1 rfl hb10 ?_
        refine HT.reg1 [4] [⟨none, .no⟩] ⟨[(4, .one (.dat (.int .i64) (-1 : Int)))], [], 0⟩ hP hN (by kernel_rfl) allNil ?_
        have hx6 := of_some hx6
        subst hx6
        refine (Le.cv (s := ⟨[], [], [], false⟩) (own := []) (ps := [(-1 : Int) = (-1 : Int)]) (st' := ⟨[(4, .one (.dat (.int .i64) (-1 : Int)))], [], 0⟩) hO (fun h => by cases h) (by kernel_rfl) ⟨rfl, trivial⟩).ht ?_
        exact HT.ret (qThenR (qBlockR (qThenR (qLoopR (hk7 (.inr ()) rfl)))))
      · refine HT.cond0 rfl hb10 ?_
        refine HT.skip (qThen ?_)
        refine HT.reg (rs := [⟨none, .no⟩, ⟨none, .no⟩, ⟨none, .no⟩]) (st' := ⟨[(1, .one (.dat (.int .i64) (wadd .i64 s1.1 (1 : Int)))), (19, .one (.dat (.int .i64) (wadd .i64 s1.1 (1 : Int)))), (18, .one (.dat (.int .i64) s1.1)), (0, .one (.dat (.sl (.int .i64)) a0)), (1, .one (.dat (.int .i64) s1.1)), (5, .one (.dat (.int .i64) s1.2)), (17, .one (.dat .bool ((List.getD a0 (Int.toNat s1.2) (0 : Int)) != s1.1)))], [], 0⟩) hP hN (by kernel_rfl) allNil (qBlock (qThen ?_))
        have hx6 := of_some hx6
        subst hx6
        refine HT.reg (rs := [⟨none, .no⟩, ⟨none, .no⟩, ⟨none, .no⟩]) (st' := ⟨[(5, .one (.dat (.int .i64) (wadd .i64 s1.2 (1 : Int)))), (11, .one (.dat (.int .i64) (wadd .i64 s1.2 (1 : Int)))), (10, .one (.dat (.int .i64) s1.2)), (1, .one (.dat (.int .i64) (wadd .i64 s1.1 (1 : Int)))), (19, .one (.dat (.int .i64) (wadd .i64 s1.1 (1 : Int)))), (18, .one (.dat (.int .i64) s1.1)), (0, .one (.dat (.sl (.int .i64)) a0)), (1, .one (.dat (.int .i64) s1.1)), (5, .one (.dat (.int .i64) s1.2)), (17, .one (.dat .bool ((List.getD a0 (Int.toNat s1.2) (0 : Int)) != s1.1)))], [], 0⟩) hP hN (by kernel_rfl) allNil (qLoopN ⟨((wadd .i64 s1.1 (1 : Int)), (wadd .i64 s1.2 (1 : Int))), rfl, Le.cv (s := ⟨[], [], [], false⟩) (own := []) (ps := [a0 = a0, (wadd .i64 s1.1 (1 : Int)) = (wadd .i64 s1.1 (1 : Int)), (wadd .i64 s1.2 (1 : Int)) = (wadd .i64 s1.2 (1 : Int))]) (st' := ⟨[(0, .one (.dat (.sl (.int .i64)) a0)), (1, .one (.dat (.int .i64) (wadd .i64 s1.1 (1 : Int)))), (5, .one (.dat (.int .i64) (wadd .i64 s1.2 (1 : Int))))], [], 0⟩) hO (fun h => by cases h) (by kernel_rfl) ⟨rfl, rfl, rfl, trivial⟩⟩)
    · refine HT.cond0 rfl hb8 ?_
      have hx6 := of_some hx6
      subst hx6
      refine (Le.cv (s := ⟨[], [], [], false⟩) (own := []) (ps := [s1.1 = s1.1]) (st' := ⟨[(1, .one (.dat (.int .i64) s1.1))], [], 0⟩) hO (fun h => by cases h) (by kernel_rfl) ⟨rfl, trivial⟩).ht ?_
      exact HT.exit (qThenE (qLoopE (hk7 (.inl s1.1) rfl)))

noncomputable def laws_heldBoolS_B1 (a0 : List Bool) (s1 : Int × Int) : Option ((Int × Int) ⊕ (Int ⊕ Unit)) :=
  bif (decide (s1.2 < (lenI a0))) then
    guardP ((0 : Int) ≤ s1.2 ∧ s1.2 < lenI a0) (
      bif ((List.getD a0 (Int.toNat s1.2) false) != ((Int.tmod s1.1 (3 : Int)) == (0 : Int))) then
        some (.inr (.inr ()))
      else
        some (.inl ((wadd .i64 s1.1 (1 : Int)), (wadd .i64 s1.2 (1 : Int)))))
  else
    some (.inr (.inl s1.1))

noncomputable def laws_heldBoolS (a0 : List Bool) (a1 : Int) : Option (Int) :=
  (rounds (laws_heldBoolS_B1 a0) (a1, (0 : Int))).bind fun r2 => match r2 with
    | .inl r3 =>
      some r3
    | .inr r4 =>
      some (-1 : Int)

theorem f153_ok {a0 : List Bool} {a1 : Int} {r : Int} (hr : laws_heldBoolS a0 a1 = some r) : CallOK Try.prog 153 [.imm (.sl .bool) a0, .imm (.int .i64) a1] [⟨false, (.int .i64), r⟩] [] := by
  unfold laws_heldBoolS at hr
  refine CallOK.of_body (ts := [(false, (.int .i64))]) Try.func153 rfl (by kernel_rfl) (Nat.le_of_ble_eq_true (by kernel_rfl)) fun cx hP hN hO hF => ?_
  have hO : cx.own.map Prod.fst = [] := hO
  have hF : cx.F = [] := hF rfl
  show HT cx ⟨[(0, .one (.dat (.sl .bool) a0)), (1, .one (.dat (.int .i64) a1))], [], 0⟩ _ _
  refine HT.reg1 [0, 1] [⟨none, .no⟩] ⟨[(0, .one (.dat (.sl .bool) a0)), (1, .one (.dat (.int .i64) a1))], [], 0⟩ hP hN (by kernel_rfl) allNil ?_
  refine HT.seq ?_
  refine HT.reg1 [0, 1, 5] [⟨none, .no⟩] ⟨[(0, .one (.dat (.sl .bool) a0)), (1, .one (.dat (.int .i64) a1)), (5, .one (.dat (.int .i64) (0 : Int)))], [], 0⟩ hP hN (by kernel_rfl) allNil ?_
  refine HT.block ?_
  obtain ⟨r2, hL11, hr⟩ := of_bind hr
  refine (Le.cv (s := ⟨[], [], [], false⟩) (own := []) (ps := [a0 = a0, a1 = a1, (0 : Int) = (0 : Int)]) (st' := ⟨[(0, .one (.dat (.sl .bool) a0)), (1, .one (.dat (.int .i64) a1)), (5, .one (.dat (.int .i64) (0 : Int)))], [], 0⟩) hO (fun h => by cases h) (by kernel_rfl) ⟨rfl, rfl, rfl, trivial⟩).ht ?_
  refine HT.loopE (s := (a1, (0 : Int))) (fun (s1 : Int × Int) => ⟨[(0, .one (.dat (.sl .bool) a0)), (1, .one (.dat (.int .i64) s1.1)), (5, .one (.dat (.int .i64) s1.2))], [], 0⟩) (fun (r2 : Int ⊕ Unit) => match r2 with | .inl r3 => (.exit 0, ⟨[(1, .one (.dat (.int .i64) r3))], [], 0⟩) | .inr r4 => (.ret, ⟨[(4, .one (.dat (.int .i64) (-1 : Int)))], [], 0⟩)) hL11 ?_ (fun s1 x5 hx6 hk7 => ?_)
  · rcases r2 with r3 | r4
    · refine (qBlockX (qThen ?_))
      refine HT.reg1 [4] [⟨none, .no⟩, ⟨none, .no⟩] ⟨[(4, .one (.dat (.int .i64) r3))], [], 0⟩ hP hN (by kernel_rfl) allNil ?_
      have hr := of_some hr
      subst hr
      exact HT.ret ⟨[.one (.dat (.int .i64) r3)], [], [], by kernel_rfl, by kernel_rfl, rfl, (.inl rfl), by kernel_rfl, trivial⟩
    · have hr := of_some hr
      subst hr
      exact (qBlockR (qThenR ⟨[.one (.dat (.int .i64) (-1 : Int))], [], [], by kernel_rfl, by kernel_rfl, rfl, (.inl rfl), by kernel_rfl, trivial⟩))
  · refine HT.seq ?_
    refine HT.reg1 [0, 1, 5, 9] [⟨none, .no⟩, ⟨none, .no⟩, ⟨none, .no⟩, ⟨none, .no⟩] ⟨[(0, .one (.dat (.sl .bool) a0)), (1, .one (.dat (.int .i64) s1.1)), (5, .one (.dat (.int .i64) s1.2)), (9, .one (.dat .bool (decide (s1.2 < (lenI a0)))))], [], 0⟩ hP hN (by kernel_rfl) allNil ?_
    rcases of_bif hx6 with ⟨hb8, hx6⟩ | ⟨hb8, hx6⟩
    · refine HT.cond1 rfl hb8 ?_
      refine HT.skip (qThen ?_)
      refine HT.seq ?_
      refine HT.block ?_
      refine HT.seq ?_
      obtain ⟨hg9, hx6⟩ := of_guard hx6
      refine HT.reg1 [0, 1, 5, 19] [⟨none, .no⟩, ⟨none, .no⟩, ⟨none, .no⟩, ⟨none, .no⟩, ⟨none, .no⟩, ⟨none, .no⟩, ⟨none, .no⟩, ⟨none, .no⟩] ⟨[(0, .one (.dat (.sl .bool) a0)), (1, .one (.dat (.int .i64) s1.1)), (5, .one (.dat (.int .i64) s1.2)), (19, .one (.dat .bool ((List.getD a0 (Int.toNat s1.2) false) != ((Int.tmod s1.1 (3 : Int)) == (0 : Int)))))], [], 0⟩ hP hN (by kernel_rfl) (allCons hg9 (allCons (show (3 : Int) ≠ 0 from by decide) allNil)) ?_
      rcases of_bif hx6 with ⟨hb10, hx6⟩ | ⟨hb10, hx6⟩
      · refine HT.cond1 rfl hb10 ?_
        refine HT.reg1 [4] [⟨none, .no⟩] ⟨[(4, .one (.dat (.int .i64) (-1 : Int)))], [], 0⟩ hP hN (by kernel_rfl) allNil ?_
        have hx6 := of_some hx6
        subst hx6
        refine (Le.cv (s := ⟨[], [], [], false⟩) (own := []) (ps := [(-1 : Int) = (-1 : Int)]) (st' := ⟨[(4, .one (.dat (.int .i64) (-1 : Int)))], [], 0⟩) hO (fun h => by cases h) (by kernel_rfl) ⟨rfl, trivial⟩).ht ?_
        exact HT.ret (qThenR (qBlockR (qThenR (qLoopR (hk7 (.inr ()) rfl)))))
      · refine HT.cond0 rfl hb10 ?_
        refine HT.skip (qThen ?_)
        refine HT.reg (rs := [⟨none, .no⟩, ⟨none, .no⟩, ⟨none, .no⟩]) (st' := ⟨[(1, .one (.dat (.int .i64) (wadd .i64 s1.1 (1 : Int)))), (21, .one (.dat (.int .i64) (wadd .i64 s1.1 (1 : Int)))), (20, .one (.dat (.int .i64) s1.1)), (0, .one (.dat (.sl .bool) a0)), (1, .one (.dat (.int .i64) s1.1)), (5, .one (.dat (.int .i64) s1.2)), (19, .one (.dat .bool ((List.getD a0 (Int.toNat s1.2) false) != ((Int.tmod s1.1 (3 : Int)) == (0 : Int)))))], [], 0⟩) hP hN (by kernel_rfl) allNil (qBlock (qThen ?_))
        have hx6 := of_some hx6
        subst hx6
        refine HT.reg (rs := [⟨none, .no⟩, ⟨none, .no⟩, ⟨none, .no⟩]) (st' := ⟨[(5, .one (.dat (.int .i64) (wadd .i64 s1.2 (1 : Int)))), (11, .one (.dat (.int .i64) (wadd .i64 s1.2 (1 : Int)))), (10, .one (.dat (.int .i64) s1.2)), (1, .one (.dat (.int .i64) (wadd .i64 s1.1 (1 : Int)))), (21, .one (.dat (.int .i64) (wadd .i64 s1.1 (1 : Int)))), (20, .one (.dat (.int .i64) s1.1)), (0, .one (.dat (.sl .bool) a0)), (1, .one (.dat (.int .i64) s1.1)), (5, .one (.dat (.int .i64) s1.2)), (19, .one (.dat .bool ((List.getD a0 (Int.toNat s1.2) false) != ((Int.tmod s1.1 (3 : Int)) == (0 : Int)))))], [], 0⟩) hP hN (by kernel_rfl) allNil (qLoopN ⟨((wadd .i64 s1.1 (1 : Int)), (wadd .i64 s1.2 (1 : Int))), rfl, Le.cv (s := ⟨[], [], [], false⟩) (own := []) (ps := [a0 = a0, (wadd .i64 s1.1 (1 : Int)) = (wadd .i64 s1.1 (1 : Int)), (wadd .i64 s1.2 (1 : Int)) = (wadd .i64 s1.2 (1 : Int))]) (st' := ⟨[(0, .one (.dat (.sl .bool) a0)), (1, .one (.dat (.int .i64) (wadd .i64 s1.1 (1 : Int)))), (5, .one (.dat (.int .i64) (wadd .i64 s1.2 (1 : Int))))], [], 0⟩) hO (fun h => by cases h) (by kernel_rfl) ⟨rfl, rfl, rfl, trivial⟩⟩)
    · refine HT.cond0 rfl hb8 ?_
      have hx6 := of_some hx6
      subst hx6
      refine (Le.cv (s := ⟨[], [], [], false⟩) (own := []) (ps := [s1.1 = s1.1]) (st' := ⟨[(1, .one (.dat (.int .i64) s1.1))], [], 0⟩) hO (fun h => by cases h) (by kernel_rfl) ⟨rfl, trivial⟩).ht ?_
      exact HT.exit (qThenE (qLoopE (hk7 (.inl s1.1) rfl)))

noncomputable def laws_heldPlain (a0 : Int × Int × List Int × List Bool) (a1 : Int) : Option (Int) :=
  (laws_heldInt64S a0.2.2.1 a1).bind fun y1 =>
  bif (decide (y1 < (0 : Int))) then
    some (-1 : Int)
  else
    (laws_heldBoolS a0.2.2.2 y1).bind fun y4 =>
    bif (decide (y4 < (0 : Int))) then
      some (-1 : Int)
    else
      some y4

theorem f127_ok {a0 : Int × Int × List Int × List Bool} {a1 : Int} {r : Int} (hr : laws_heldPlain a0 a1 = some r) : CallOK Try.prog 127 [.imm (.st (.pair (.int .i64) (.pair (.int .i64) (.pair (.sl (.int .i64)) (.sl .bool))))) a0, .imm (.int .i64) a1] [⟨false, (.int .i64), r⟩] [] := by
  unfold laws_heldPlain at hr
  refine CallOK.of_body (ts := [(false, (.int .i64))]) Try.func127 rfl (by kernel_rfl) (Nat.le_of_ble_eq_true (by kernel_rfl)) fun cx hP hN hO hF => ?_
  have hO : cx.own.map Prod.fst = [] := hO
  have hF : cx.F = [] := hF rfl
  show HT cx ⟨[(0, .agg [.dat (.int .i64) a0.1, .dat (.int .i64) a0.2.1, .dat (.sl (.int .i64)) a0.2.2.1, .dat (.sl .bool) a0.2.2.2]), (1, .one (.dat (.int .i64) a1))], [], 0⟩ _ _
  refine HT.reg1 [1, 2] [⟨none, .no⟩, ⟨none, .no⟩] ⟨[(1, .one (.dat (.int .i64) a1)), (2, .one (.ptr 0 0))], [(0, .box [.dat (.int .i64) a0.1, .dat (.int .i64) a0.2.1, .dat (.sl (.int .i64)) a0.2.2.1, .dat (.sl .bool) a0.2.2.2])], 1⟩ hP hN (by kernel_rfl) allNil ?_
  obtain ⟨y1, hc2, hr⟩ := of_bind hr
  refine HT.reg1 [1, 2] [⟨none, .no⟩, ⟨none, .no⟩, ⟨none, .no⟩, ⟨none, .call [.imm (.sl (.int .i64)), .imm (.int .i64)] [⟨false, (.int .i64), y1⟩] []⟩, ⟨none, .no⟩] ⟨[(1, .one (.dat (.int .i64) y1)), (2, .one (.ptr 0 0))], [(0, .box [.dat (.int .i64) a0.1, .dat (.int .i64) a0.2.1, .dat (.sl (.int .i64)) a0.2.2.1, .dat (.sl .bool) a0.2.2.2])], 1⟩ hP hN (by kernel_rfl) (allCons (f57_ok hc2) allNil) ?_
  refine HT.seq ?_
  refine HT.reg1 [1, 2, 10] [⟨none, .no⟩, ⟨none, .no⟩] ⟨[(1, .one (.dat (.int .i64) y1)), (2, .one (.ptr 0 0)), (10, .one (.dat .bool (decide (y1 < (0 : Int)))))], [(0, .box [.dat (.int .i64) a0.1, .dat (.int .i64) a0.2.1, .dat (.sl (.int .i64)) a0.2.2.1, .dat (.sl .bool) a0.2.2.2])], 1⟩ hP hN (by kernel_rfl) allNil ?_
  rcases of_bif hr with ⟨hb3, hr⟩ | ⟨hb3, hr⟩
  · refine HT.cond1 rfl hb3 ?_
    refine HT.reg1 [4] [⟨none, .no⟩] ⟨[(4, .one (.dat (.int .i64) (-1 : Int)))], [(0, .box [.dat (.int .i64) a0.1, .dat (.int .i64) a0.2.1, .dat (.sl (.int .i64)) a0.2.2.1, .dat (.sl .bool) a0.2.2.2])], 1⟩ hP hN (by kernel_rfl) allNil ?_
    have hr := of_some hr
    subst hr
    exact HT.ret (qThenR ⟨[.one (.dat (.int .i64) (-1 : Int))], [], [], by kernel_rfl, by kernel_rfl, rfl, (.inl rfl), by kernel_rfl, trivial⟩)
  · refine HT.cond0 rfl hb3 ?_
    refine HT.skip (qThen ?_)
    obtain ⟨y4, hc5, hr⟩ := of_bind hr
    refine HT.reg1 [1] [⟨none, .no⟩, ⟨none, .no⟩, ⟨none, .no⟩, ⟨none, .call [.imm (.sl .bool), .imm (.int .i64)] [⟨false, (.int .i64), y4⟩] []⟩, ⟨none, .no⟩] ⟨[(1, .one (.dat (.int .i64) y4))], [(0, .box [.dat (.int .i64) a0.1, .dat (.int .i64) a0.2.1, .dat (.sl (.int .i64)) a0.2.2.1, .dat (.sl .bool) a0.2.2.2])], 1⟩ hP hN (by kernel_rfl) (allCons (f153_ok hc5) allNil) ?_
    refine HT.seq ?_
    refine HT.reg1 [1, 16] [⟨none, .no⟩, ⟨none, .no⟩] ⟨[(1, .one (.dat (.int .i64) y4)), (16, .one (.dat .bool (decide (y4 < (0 : Int)))))], [(0, .box [.dat (.int .i64) a0.1, .dat (.int .i64) a0.2.1, .dat (.sl (.int .i64)) a0.2.2.1, .dat (.sl .bool) a0.2.2.2])], 1⟩ hP hN (by kernel_rfl) allNil ?_
    rcases of_bif hr with ⟨hb6, hr⟩ | ⟨hb6, hr⟩
    · refine HT.cond1 rfl hb6 ?_
      refine HT.reg1 [4] [⟨none, .no⟩] ⟨[(4, .one (.dat (.int .i64) (-1 : Int)))], [(0, .box [.dat (.int .i64) a0.1, .dat (.int .i64) a0.2.1, .dat (.sl (.int .i64)) a0.2.2.1, .dat (.sl .bool) a0.2.2.2])], 1⟩ hP hN (by kernel_rfl) allNil ?_
      have hr := of_some hr
      subst hr
      exact HT.ret (qThenR ⟨[.one (.dat (.int .i64) (-1 : Int))], [], [], by kernel_rfl, by kernel_rfl, rfl, (.inl rfl), by kernel_rfl, trivial⟩)
    · refine HT.cond0 rfl hb6 ?_
      refine HT.skip (qThen ?_)
      refine HT.reg1 [4] [⟨none, .no⟩, ⟨none, .no⟩] ⟨[(4, .one (.dat (.int .i64) y4))], [(0, .box [.dat (.int .i64) a0.1, .dat (.int .i64) a0.2.1, .dat (.sl (.int .i64)) a0.2.2.1, .dat (.sl .bool) a0.2.2.2])], 1⟩ hP hN (by kernel_rfl) allNil ?_
      have hr := of_some hr
      subst hr
      exact HT.ret ⟨[.one (.dat (.int .i64) y4)], [], [], by kernel_rfl, by kernel_rfl, rfl, (.inl rfl), by kernel_rfl, trivial⟩

noncomputable def laws_heldKept (a0 : List UInt8 × Int × Int × List Int × List Bool) (a1 : Int) : Option (Int) :=
  (laws_heldPlain (a0.2.1, a0.2.2.1, a0.2.2.2.1, a0.2.2.2.2) a1).bind fun y1 =>
  bif (decide (y1 < (0 : Int))) then
    some (-1 : Int)
  else
    some y1

theorem f64_ok {a0 : List UInt8 × Int × Int × List Int × List Bool} {a1 : Int} {r : Int} (hr : laws_heldKept a0 a1 = some r) : CallOK Try.prog 64 [.imm (.st (.pair .str (.st (.pair (.int .i64) (.pair (.int .i64) (.pair (.sl (.int .i64)) (.sl .bool))))))) a0, .imm (.int .i64) a1] [⟨false, (.int .i64), r⟩] [] := by
  unfold laws_heldKept at hr
  refine CallOK.of_body (ts := [(false, (.int .i64))]) Try.func64 rfl (by kernel_rfl) (Nat.le_of_ble_eq_true (by kernel_rfl)) fun cx hP hN hO hF => ?_
  have hO : cx.own.map Prod.fst = [] := hO
  have hF : cx.F = [] := hF rfl
  show HT cx ⟨[(0, .agg [.dat .str a0.1, .dat (.int .i64) a0.2.1, .dat (.int .i64) a0.2.2.1, .dat (.sl (.int .i64)) a0.2.2.2.1, .dat (.sl .bool) a0.2.2.2.2]), (1, .one (.dat (.int .i64) a1))], [], 0⟩ _ _
  refine HT.reg1 [1, 2] [⟨none, .no⟩, ⟨none, .no⟩] ⟨[(1, .one (.dat (.int .i64) a1)), (2, .one (.ptr 0 0))], [(0, .box [.dat .str a0.1, .dat (.int .i64) a0.2.1, .dat (.int .i64) a0.2.2.1, .dat (.sl (.int .i64)) a0.2.2.2.1, .dat (.sl .bool) a0.2.2.2.2])], 1⟩ hP hN (by kernel_rfl) allNil ?_
  obtain ⟨y1, hc2, hr⟩ := of_bind hr
  refine HT.reg1 [1] [⟨none, .no⟩, ⟨none, .no⟩, ⟨none, .no⟩, ⟨none, .call [.imm (.st (.pair (.int .i64) (.pair (.int .i64) (.pair (.sl (.int .i64)) (.sl .bool))))), .imm (.int .i64)] [⟨false, (.int .i64), y1⟩] []⟩, ⟨none, .no⟩] ⟨[(1, .one (.dat (.int .i64) y1))], [(0, .box [.dat .str a0.1, .dat (.int .i64) a0.2.1, .dat (.int .i64) a0.2.2.1, .dat (.sl (.int .i64)) a0.2.2.2.1, .dat (.sl .bool) a0.2.2.2.2])], 1⟩ hP hN (by kernel_rfl) (allCons (f127_ok hc2) allNil) ?_
  refine HT.seq ?_
  refine HT.reg1 [1, 10] [⟨none, .no⟩, ⟨none, .no⟩] ⟨[(1, .one (.dat (.int .i64) y1)), (10, .one (.dat .bool (decide (y1 < (0 : Int)))))], [(0, .box [.dat .str a0.1, .dat (.int .i64) a0.2.1, .dat (.int .i64) a0.2.2.1, .dat (.sl (.int .i64)) a0.2.2.2.1, .dat (.sl .bool) a0.2.2.2.2])], 1⟩ hP hN (by kernel_rfl) allNil ?_
  rcases of_bif hr with ⟨hb3, hr⟩ | ⟨hb3, hr⟩
  · refine HT.cond1 rfl hb3 ?_
    refine HT.reg1 [4] [⟨none, .no⟩] ⟨[(4, .one (.dat (.int .i64) (-1 : Int)))], [(0, .box [.dat .str a0.1, .dat (.int .i64) a0.2.1, .dat (.int .i64) a0.2.2.1, .dat (.sl (.int .i64)) a0.2.2.2.1, .dat (.sl .bool) a0.2.2.2.2])], 1⟩ hP hN (by kernel_rfl) allNil ?_
    have hr := of_some hr
    subst hr
    exact HT.ret (qThenR ⟨[.one (.dat (.int .i64) (-1 : Int))], [], [], by kernel_rfl, by kernel_rfl, rfl, (.inl rfl), by kernel_rfl, trivial⟩)
  · refine HT.cond0 rfl hb3 ?_
    refine HT.skip (qThen ?_)
    refine HT.reg1 [4] [⟨none, .no⟩, ⟨none, .no⟩] ⟨[(4, .one (.dat (.int .i64) y1))], [(0, .box [.dat .str a0.1, .dat (.int .i64) a0.2.1, .dat (.int .i64) a0.2.2.1, .dat (.sl (.int .i64)) a0.2.2.2.1, .dat (.sl .bool) a0.2.2.2.2])], 1⟩ hP hN (by kernel_rfl) allNil ?_
    have hr := of_some hr
    subst hr
    exact HT.ret ⟨[.one (.dat (.int .i64) y1)], [], [], by kernel_rfl, by kernel_rfl, rfl, (.inl rfl), by kernel_rfl, trivial⟩

noncomputable def laws_FnExactLoadKept (a0 : List UInt8) : Option (Bool) :=
  bif (decide ((lenI a0) > (1048576 : Int))) then
    some true
  else
    (spec_LoadKept a0).bind fun y2 =>
    (impl_LoadKept a0).bind fun y4 =>
    (show Option (Bool) from
      (laws_eqKept (y4.1.1, y4.1.2.1, y4.1.2.2.1, y4.1.2.2.2.1, y4.1.2.2.2.2) (y2.1.1, y2.1.2.1, y2.1.2.2.1, y2.1.2.2.2.1, y2.1.2.2.2.2)).bind fun y29 =>
      bif (!y29) then
        some true
      else
        some (y4.2 != y2.2)).bind fun v6 =>
    bif v6 then
      some false
    else
      (laws_markKept (y4.1.1, y4.1.2.1, y4.1.2.2.1, y4.1.2.2.2.1, y4.1.2.2.2.2) (1 : Int)).bind fun y10 =>
      (laws_heldKept (y4.1.1, y4.1.2.1, y4.1.2.2.1, y10.2.2.2.2.1, y10.2.2.2.2.2) (1 : Int)).bind fun y12 =>
      bif (decide (y12 < (0 : Int))) then
        some false
      else
        bif (y12 != y10.1) then
          some false
        else
          (impl_LoadKept a0).bind fun y16 =>
          (show Option (Bool) from
            (laws_eqKept (y16.1.1, y16.1.2.1, y16.1.2.2.1, y16.1.2.2.2.1, y16.1.2.2.2.2) (y2.1.1, y2.1.2.1, y2.1.2.2.1, y2.1.2.2.2.1, y2.1.2.2.2.2)).bind fun y26 =>
            bif (!y26) then
              some true
            else
              some (y16.2 != y2.2)).bind fun v18 =>
          bif v18 then
            some false
          else
            (laws_heldKept (y4.1.1, y4.1.2.1, y4.1.2.2.1, y10.2.2.2.2.1, y10.2.2.2.2.2) (1 : Int)).bind fun y22 =>
            bif (decide (y22 < (0 : Int))) then
              some false
            else
              bif (y22 != y10.1) then
                some false
              else
                some true

theorem f13_ok {a0 : List UInt8} {r : Bool} (hr : laws_FnExactLoadKept a0 = some r) : CallOK Try.prog 13 [.imm .str a0] [⟨false, .bool, r⟩] [] := by
  unfold laws_FnExactLoadKept at hr
  refine CallOK.of_body (ts := [(false, .bool)]) Try.func13 rfl (by kernel_rfl) (Nat.le_of_ble_eq_true (by kernel_rfl)) fun cx hP hN hO hF => ?_
  have hO : cx.own.map Prod.fst = [] := hO
  have hF : cx.F = [] := hF rfl
  show HT cx ⟨[(0, .one (.dat .str a0))], [], 0⟩ _ _
  refine HT.reg1 [0] [⟨none, .no⟩] ⟨[(0, .one (.dat .str a0))], [], 0⟩ hP hN (by kernel_rfl) allNil ?_
  refine HT.seq ?_
  refine HT.reg1 [0, 13] [⟨none, .no⟩, ⟨none, .no⟩, ⟨none, .no⟩] ⟨[(0, .one (.dat .str a0)), (13, .one (.dat .bool (decide ((lenI a0) > (1048576 : Int)))))], [], 0⟩ hP hN (by kernel_rfl) allNil ?_
  rcases of_bif hr with ⟨hb1, hr⟩ | ⟨hb1, hr⟩
  · refine HT.cond1 rfl hb1 ?_
    refine HT.reg1 [2] [⟨none, .no⟩] ⟨[(2, .one (.dat .bool true))], [], 0⟩ hP hN (by kernel_rfl) allNil ?_
    have hr := of_some hr
    subst hr
    exact HT.ret (qThenR ⟨[.one (.dat .bool true)], [], [], by kernel_rfl, by kernel_rfl, rfl, (.inl rfl), by kernel_rfl, trivial⟩)
  · refine HT.cond0 rfl hb1 ?_
    refine HT.skip (qThen ?_)
    obtain ⟨y2, hc3, hr⟩ := of_bind hr
    refine HT.reg1 [0, 3, 4] [⟨none, .no⟩, ⟨none, .call [.imm .str] [⟨true, (.st (.pair .str (.st (.pair (.int .i64) (.pair (.int .i64) (.pair (.sl (.int .i64)) (.sl .bool))))))), y2.1⟩, ⟨false, .bool, y2.2⟩] []⟩, ⟨none, .no⟩, ⟨none, .no⟩, ⟨none, .no⟩, ⟨none, .no⟩, ⟨none, .no⟩, ⟨none, .no⟩] ⟨[(0, .one (.dat .str a0)), (3, .one (.ptr 2 0)), (4, .one (.dat .bool y2.2))], [(2, .box [.dat .str y2.1.1, .dat (.int .i64) y2.1.2.1, .dat (.int .i64) y2.1.2.2.1, .all 0, .all 1]), (2, .box [.dat .str ([] : List UInt8), .dat (.int .i64) (0 : Int), .dat (.int .i64) (0 : Int), .nilS, .nilS]), (0, .seq (.int .i64) y2.1.2.2.2.1), (1, .seq .bool y2.1.2.2.2.2)], 3⟩ hP hN (by kernel_rfl) (allCons (f60_ok hc3) allNil) ?_
    obtain ⟨y4, hc5, hr⟩ := of_bind hr
    refine HT.reg1 [0, 3, 4, 5, 6] [⟨none, .no⟩, ⟨none, .call [.imm .str] [⟨true, (.st (.pair .str (.st (.pair (.int .i64) (.pair (.int .i64) (.pair (.sl (.int .i64)) (.sl .bool))))))), y4.1⟩, ⟨false, .bool, y4.2⟩] []⟩, ⟨none, .no⟩, ⟨none, .no⟩, ⟨none, .no⟩, ⟨none, .no⟩, ⟨none, .no⟩, ⟨none, .no⟩] ⟨[(0, .one (.dat .str a0)), (3, .one (.ptr 2 0)), (4, .one (.dat .bool y2.2)), (5, .one (.ptr 5 0)), (6, .one (.dat .bool y4.2))], [(5, .box [.dat .str y4.1.1, .dat (.int .i64) y4.1.2.1, .dat (.int .i64) y4.1.2.2.1, .all 3, .all 4]), (5, .box [.dat .str ([] : List UInt8), .dat (.int .i64) (0 : Int), .dat (.int .i64) (0 : Int), .nilS, .nilS]), (3, .seq (.int .i64) y4.1.2.2.2.1), (4, .seq .bool y4.1.2.2.2.2), (2, .box [.dat .str y2.1.1, .dat (.int .i64) y2.1.2.1, .dat (.int .i64) y2.1.2.2.1, .all 0, .all 1]), (2, .box [.dat .str ([] : List UInt8), .dat (.int .i64) (0 : Int), .dat (.int .i64) (0 : Int), .nilS, .nilS]), (0, .seq (.int .i64) y2.1.2.2.2.1), (1, .seq .bool y2.1.2.2.2.2)], 6⟩ hP hN (by kernel_rfl) (allCons (f61_ok hc5) allNil) ?_
    refine HT.seq ?_
    obtain ⟨v6', hT8, hr⟩ := of_bind hr
    refine HT.join (fun (v6 : Bool) => ⟨[(0, .one (.dat .str a0)), (3, .one (.ptr 0 0)), (4, .one (.dat .bool y2.2)), (5, .one (.ptr 1 0)), (32, .one (.dat .bool v6))], [(0, .box [.dat .str y2.1.1, .dat (.int .i64) y2.1.2.1, .dat (.int .i64) y2.1.2.2.1, .all 2, .all 3]), (1, .box [.dat .str y4.1.1, .dat (.int .i64) y4.1.2.1, .dat (.int .i64) y4.1.2.2.1, .all 4, .all 5]), (2, .seq (.int .i64) y2.1.2.2.2.1), (3, .seq .bool y2.1.2.2.2.2), (4, .seq (.int .i64) y4.1.2.2.2.1), (5, .seq .bool y4.1.2.2.2.2)], 6⟩) (fun v => v = v6') (fun v6 hv7 => ?_) (fun cont => ?_)
    · subst hv7
      rcases of_bif hr with ⟨hb9, hr⟩ | ⟨hb9, hr⟩
      · refine HT.cond1 rfl hb9 ?_
        refine HT.reg1 [2] [⟨none, .no⟩] ⟨[(2, .one (.dat .bool false))], [(0, .box [.dat .str y2.1.1, .dat (.int .i64) y2.1.2.1, .dat (.int .i64) y2.1.2.2.1, .all 2, .all 3]), (1, .box [.dat .str y4.1.1, .dat (.int .i64) y4.1.2.1, .dat (.int .i64) y4.1.2.2.1, .all 4, .all 5]), (2, .seq (.int .i64) y2.1.2.2.2.1), (3, .seq .bool y2.1.2.2.2.2), (4, .seq (.int .i64) y4.1.2.2.2.1), (5, .seq .bool y4.1.2.2.2.2)], 6⟩ hP hN (by kernel_rfl) allNil ?_
        have hr := of_some hr
        subst hr
        exact HT.ret (qThenR ⟨[.one (.dat .bool false)], [], [], by kernel_rfl, by kernel_rfl, rfl, (.inl rfl), by kernel_rfl, trivial⟩)
      · refine HT.cond0 rfl hb9 ?_
        refine HT.skip (qThen ?_)
        refine HT.reg1 [0, 3, 4, 5, 7] [⟨none, .no⟩] ⟨[(0, .one (.dat .str a0)), (3, .one (.ptr 0 0)), (4, .one (.dat .bool y2.2)), (5, .one (.ptr 1 0)), (7, .one (.dat (.int .i64) (1 : Int)))], [(0, .box [.dat .str y2.1.1, .dat (.int .i64) y2.1.2.1, .dat (.int .i64) y2.1.2.2.1, .all 2, .all 3]), (1, .box [.dat .str y4.1.1, .dat (.int .i64) y4.1.2.1, .dat (.int .i64) y4.1.2.2.1, .all 4, .all 5]), (2, .seq (.int .i64) y2.1.2.2.2.1), (3, .seq .bool y2.1.2.2.2.2), (4, .seq (.int .i64) y4.1.2.2.2.1), (5, .seq .bool y4.1.2.2.2.2)], 6⟩ hP hN (by kernel_rfl) allNil ?_
        obtain ⟨y10, hc11, hr⟩ := of_bind hr
        refine HT.reg1 [0, 3, 4, 5, 7] [⟨none, .no⟩, ⟨none, .no⟩, ⟨none, .call [.own (.st (.pair .str (.st (.pair (.int .i64) (.pair (.int .i64) (.pair (.sl (.int .i64)) (.sl .bool))))))), .imm (.int .i64)] [⟨false, (.int .i64), y10.1⟩] [⟨(.st (.pair .str (.st (.pair (.int .i64) (.pair (.int .i64) (.pair (.sl (.int .i64)) (.sl .bool))))))), y10.2⟩]⟩, ⟨none, .no⟩] ⟨[(0, .one (.dat .str a0)), (3, .one (.ptr 0 0)), (4, .one (.dat .bool y2.2)), (5, .one (.ptr 1 0)), (7, .one (.dat (.int .i64) y10.1))], [(4, .seq (.int .i64) y10.2.2.2.2.1), (5, .seq .bool y10.2.2.2.2.2), (0, .box [.dat .str y2.1.1, .dat (.int .i64) y2.1.2.1, .dat (.int .i64) y2.1.2.2.1, .all 2, .all 3]), (1, .box [.dat .str y4.1.1, .dat (.int .i64) y4.1.2.1, .dat (.int .i64) y4.1.2.2.1, .all 4, .all 5]), (2, .seq (.int .i64) y2.1.2.2.2.1), (3, .seq .bool y2.1.2.2.2.2), (4, .seq (.int .i64) y4.1.2.2.2.1), (5, .seq .bool y4.1.2.2.2.2)], 6⟩ hP hN (by kernel_rfl) (allCons (f63_ok hc11) allNil) ?_
        refine HT.reg1 [0, 3, 4, 5, 7, 8] [⟨none, .no⟩] ⟨[(0, .one (.dat .str a0)), (3, .one (.ptr 0 0)), (4, .one (.dat .bool y2.2)), (5, .one (.ptr 1 0)), (7, .one (.dat (.int .i64) y10.1)), (8, .one (.dat (.int .i64) (1 : Int)))], [(4, .seq (.int .i64) y10.2.2.2.2.1), (5, .seq .bool y10.2.2.2.2.2), (0, .box [.dat .str y2.1.1, .dat (.int .i64) y2.1.2.1, .dat (.int .i64) y2.1.2.2.1, .all 2, .all 3]), (1, .box [.dat .str y4.1.1, .dat (.int .i64) y4.1.2.1, .dat (.int .i64) y4.1.2.2.1, .all 4, .all 5]), (2, .seq (.int .i64) y2.1.2.2.2.1), (3, .seq .bool y2.1.2.2.2.2), (4, .seq (.int .i64) y4.1.2.2.2.1), (5, .seq .bool y4.1.2.2.2.2)], 6⟩ hP hN (by kernel_rfl) allNil ?_
        obtain ⟨y12, hc13, hr⟩ := of_bind hr
        refine HT.reg1 [0, 3, 4, 5, 7, 8] [⟨none, .no⟩, ⟨none, .no⟩, ⟨none, .call [.imm (.st (.pair .str (.st (.pair (.int .i64) (.pair (.int .i64) (.pair (.sl (.int .i64)) (.sl .bool))))))), .imm (.int .i64)] [⟨false, (.int .i64), y12⟩] []⟩, ⟨none, .no⟩] ⟨[(0, .one (.dat .str a0)), (3, .one (.ptr 0 0)), (4, .one (.dat .bool y2.2)), (5, .one (.ptr 1 0)), (7, .one (.dat (.int .i64) y10.1)), (8, .one (.dat (.int .i64) y12))], [(4, .seq (.int .i64) y10.2.2.2.2.1), (5, .seq .bool y10.2.2.2.2.2), (0, .box [.dat .str y2.1.1, .dat (.int .i64) y2.1.2.1, .dat (.int .i64) y2.1.2.2.1, .all 2, .all 3]), (1, .box [.dat .str y4.1.1, .dat (.int .i64) y4.1.2.1, .dat (.int .i64) y4.1.2.2.1, .all 4, .all 5]), (2, .seq (.int .i64) y2.1.2.2.2.1), (3, .seq .bool y2.1.2.2.2.2), (4, .seq (.int .i64) y4.1.2.2.2.1), (5, .seq .bool y4.1.2.2.2.2)], 6⟩ hP hN (by kernel_rfl) (allCons (f64_ok hc13) allNil) ?_
        refine HT.seq ?_
        refine HT.reg1 [0, 3, 4, 5, 7, 8, 40] [⟨none, .no⟩, ⟨none, .no⟩] ⟨[(0, .one (.dat .str a0)), (3, .one (.ptr 0 0)), (4, .one (.dat .bool y2.2)), (5, .one (.ptr 1 0)), (7, .one (.dat (.int .i64) y10.1)), (8, .one (.dat (.int .i64) y12)), (40, .one (.dat .bool (decide (y12 < (0 : Int)))))], [(4, .seq (.int .i64) y10.2.2.2.2.1), (5, .seq .bool y10.2.2.2.2.2), (0, .box [.dat .str y2.1.1, .dat (.int .i64) y2.1.2.1, .dat (.int .i64) y2.1.2.2.1, .all 2, .all 3]), (1, .box [.dat .str y4.1.1, .dat (.int .i64) y4.1.2.1, .dat (.int .i64) y4.1.2.2.1, .all 4, .all 5]), (2, .seq (.int .i64) y2.1.2.2.2.1), (3, .seq .bool y2.1.2.2.2.2), (4, .seq (.int .i64) y4.1.2.2.2.1), (5, .seq .bool y4.1.2.2.2.2)], 6⟩ hP hN (by kernel_rfl) allNil ?_
        rcases of_bif hr with ⟨hb14, hr⟩ | ⟨hb14, hr⟩
        · refine HT.cond1 rfl hb14 ?_
          refine HT.reg1 [2] [⟨none, .no⟩] ⟨[(2, .one (.dat .bool false))], [(4, .seq (.int .i64) y10.2.2.2.2.1), (5, .seq .bool y10.2.2.2.2.2), (0, .box [.dat .str y2.1.1, .dat (.int .i64) y2.1.2.1, .dat (.int .i64) y2.1.2.2.1, .all 2, .all 3]), (1, .box [.dat .str y4.1.1, .dat (.int .i64) y4.1.2.1, .dat (.int .i64) y4.1.2.2.1, .all 4, .all 5]), (2, .seq (.int .i64) y2.1.2.2.2.1), (3, .seq .bool y2.1.2.2.2.2), (4, .seq (.int .i64) y4.1.2.2.2.1), (5, .seq .bool y4.1.2.2.2.2)], 6⟩ hP hN (by kernel_rfl) allNil ?_
          have hr := of_some hr
          subst hr
          exact HT.ret (qThenR ⟨[.one (.dat .bool false)], [], [], by kernel_rfl, by kernel_rfl, rfl, (.inl rfl), by kernel_rfl, trivial⟩)
        · refine HT.cond0 rfl hb14 ?_
          refine HT.skip (qThen ?_)
          refine HT.seq ?_
          refine HT.reg1 [0, 3, 4, 5, 7, 43] [⟨none, .no⟩, ⟨none, .no⟩, ⟨none, .no⟩] ⟨[(0, .one (.dat .str a0)), (3, .one (.ptr 0 0)), (4, .one (.dat .bool y2.2)), (5, .one (.ptr 1 0)), (7, .one (.dat (.int .i64) y10.1)), (43, .one (.dat .bool (y12 != y10.1)))], [(4, .seq (.int .i64) y10.2.2.2.2.1), (5, .seq .bool y10.2.2.2.2.2), (0, .box [.dat .str y2.1.1, .dat (.int .i64) y2.1.2.1, .dat (.int .i64) y2.1.2.2.1, .all 2, .all 3]), (1, .box [.dat .str y4.1.1, .dat (.int .i64) y4.1.2.1, .dat (.int .i64) y4.1.2.2.1, .all 4, .all 5]), (2, .seq (.int .i64) y2.1.2.2.2.1), (3, .seq .bool y2.1.2.2.2.2), (4, .seq (.int .i64) y4.1.2.2.2.1), (5, .seq .bool y4.1.2.2.2.2)], 6⟩ hP hN (by kernel_rfl) allNil ?_
          rcases of_bif hr with ⟨hb15, hr⟩ | ⟨hb15, hr⟩
          · refine HT.cond1 rfl hb15 ?_
            refine HT.reg1 [2] [⟨none, .no⟩] ⟨[(2, .one (.dat .bool false))], [(4, .seq (.int .i64) y10.2.2.2.2.1), (5, .seq .bool y10.2.2.2.2.2), (0, .box [.dat .str y2.1.1, .dat (.int .i64) y2.1.2.1, .dat (.int .i64) y2.1.2.2.1, .all 2, .all 3]), (1, .box [.dat .str y4.1.1, .dat (.int .i64) y4.1.2.1, .dat (.int .i64) y4.1.2.2.1, .all 4, .all 5]), (2, .seq (.int .i64) y2.1.2.2.2.1), (3, .seq .bool y2.1.2.2.2.2), (4, .seq (.int .i64) y4.1.2.2.2.1), (5, .seq .bool y4.1.2.2.2.2)], 6⟩ hP hN (by kernel_rfl) allNil ?_
            have hr := of_some hr
            subst hr
            exact HT.ret (qThenR ⟨[.one (.dat .bool false)], [], [], by kernel_rfl, by kernel_rfl, rfl, (.inl rfl), by kernel_rfl, trivial⟩)
          · refine HT.cond0 rfl hb15 ?_
            refine HT.skip (qThen ?_)
            obtain ⟨y16, hc17, hr⟩ := of_bind hr
            refine HT.reg1 [3, 4, 5, 7, 9, 10] [⟨none, .no⟩, ⟨none, .call [.imm .str] [⟨true, (.st (.pair .str (.st (.pair (.int .i64) (.pair (.int .i64) (.pair (.sl (.int .i64)) (.sl .bool))))))), y16.1⟩, ⟨false, .bool, y16.2⟩] []⟩, ⟨none, .no⟩, ⟨none, .no⟩, ⟨none, .no⟩, ⟨none, .no⟩, ⟨none, .no⟩, ⟨none, .no⟩] ⟨[(3, .one (.ptr 0 0)), (4, .one (.dat .bool y2.2)), (5, .one (.ptr 1 0)), (7, .one (.dat (.int .i64) y10.1)), (9, .one (.ptr 8 0)), (10, .one (.dat .bool y16.2))], [(8, .box [.dat .str y16.1.1, .dat (.int .i64) y16.1.2.1, .dat (.int .i64) y16.1.2.2.1, .all 6, .all 7]), (8, .box [.dat .str ([] : List UInt8), .dat (.int .i64) (0 : Int), .dat (.int .i64) (0 : Int), .nilS, .nilS]), (6, .seq (.int .i64) y16.1.2.2.2.1), (7, .seq .bool y16.1.2.2.2.2), (4, .seq (.int .i64) y10.2.2.2.2.1), (5, .seq .bool y10.2.2.2.2.2), (0, .box [.dat .str y2.1.1, .dat (.int .i64) y2.1.2.1, .dat (.int .i64) y2.1.2.2.1, .all 2, .all 3]), (1, .box [.dat .str y4.1.1, .dat (.int .i64) y4.1.2.1, .dat (.int .i64) y4.1.2.2.1, .all 4, .all 5]), (2, .seq (.int .i64) y2.1.2.2.2.1), (3, .seq .bool y2.1.2.2.2.2), (4, .seq (.int .i64) y4.1.2.2.2.1), (5, .seq .bool y4.1.2.2.2.2)], 9⟩ hP hN (by kernel_rfl) (allCons (f61_ok hc17) allNil) ?_
            refine HT.seq ?_
            obtain ⟨v18', hT20, hr⟩ := of_bind hr
            refine HT.join (fun (v18 : Bool) => ⟨[(5, .one (.ptr 0 0)), (7, .one (.dat (.int .i64) y10.1)), (57, .one (.dat .bool v18))], [(0, .box [.dat .str y4.1.1, .dat (.int .i64) y4.1.2.1, .dat (.int .i64) y4.1.2.2.1, .all 1, .all 2]), (1, .seq (.int .i64) y10.2.2.2.2.1), (2, .seq .bool y10.2.2.2.2.2)], 3⟩) (fun v => v = v18') (fun v18 hv19 => ?_) (fun cont => ?_)
            · subst hv19
              rcases of_bif hr with ⟨hb21, hr⟩ | ⟨hb21, hr⟩
              · refine HT.cond1 rfl hb21 ?_
                refine HT.reg1 [2] [⟨none, .no⟩] ⟨[(2, .one (.dat .bool false))], [(0, .box [.dat .str y4.1.1, .dat (.int .i64) y4.1.2.1, .dat (.int .i64) y4.1.2.2.1, .all 1, .all 2]), (1, .seq (.int .i64) y10.2.2.2.2.1), (2, .seq .bool y10.2.2.2.2.2)], 3⟩ hP hN (by kernel_rfl) allNil ?_
                have hr := of_some hr
                subst hr
                exact HT.ret (qThenR ⟨[.one (.dat .bool false)], [], [], by kernel_rfl, by kernel_rfl, rfl, (.inl rfl), by kernel_rfl, trivial⟩)
              · refine HT.cond0 rfl hb21 ?_
                refine HT.skip (qThen ?_)
                refine HT.reg1 [5, 7, 8] [⟨none, .no⟩] ⟨[(5, .one (.ptr 0 0)), (7, .one (.dat (.int .i64) y10.1)), (8, .one (.dat (.int .i64) (1 : Int)))], [(0, .box [.dat .str y4.1.1, .dat (.int .i64) y4.1.2.1, .dat (.int .i64) y4.1.2.2.1, .all 1, .all 2]), (1, .seq (.int .i64) y10.2.2.2.2.1), (2, .seq .bool y10.2.2.2.2.2)], 3⟩ hP hN (by kernel_rfl) allNil ?_
                obtain ⟨y22, hc23, hr⟩ := of_bind hr
                refine HT.reg1 [7, 8] [⟨none, .no⟩, ⟨none, .no⟩, ⟨none, .call [.imm (.st (.pair .str (.st (.pair (.int .i64) (.pair (.int .i64) (.pair (.sl (.int .i64)) (.sl .bool))))))), .imm (.int .i64)] [⟨false, (.int .i64), y22⟩] []⟩, ⟨none, .no⟩] ⟨[(7, .one (.dat (.int .i64) y10.1)), (8, .one (.dat (.int .i64) y22))], [(0, .box [.dat .str y4.1.1, .dat (.int .i64) y4.1.2.1, .dat (.int .i64) y4.1.2.2.1, .all 1, .all 2]), (1, .seq (.int .i64) y10.2.2.2.2.1), (2, .seq .bool y10.2.2.2.2.2)], 3⟩ hP hN (by kernel_rfl) (allCons (f64_ok hc23) allNil) ?_
                refine HT.seq ?_
                refine HT.reg1 [7, 8, 62] [⟨none, .no⟩, ⟨none, .no⟩] ⟨[(7, .one (.dat (.int .i64) y10.1)), (8, .one (.dat (.int .i64) y22)), (62, .one (.dat .bool (decide (y22 < (0 : Int)))))], [(0, .box [.dat .str y4.1.1, .dat (.int .i64) y4.1.2.1, .dat (.int .i64) y4.1.2.2.1, .all 1, .all 2]), (1, .seq (.int .i64) y10.2.2.2.2.1), (2, .seq .bool y10.2.2.2.2.2)], 3⟩ hP hN (by kernel_rfl) allNil ?_
                rcases of_bif hr with ⟨hb24, hr⟩ | ⟨hb24, hr⟩
                · refine HT.cond1 rfl hb24 ?_
                  refine HT.reg1 [2] [⟨none, .no⟩] ⟨[(2, .one (.dat .bool false))], [(0, .box [.dat .str y4.1.1, .dat (.int .i64) y4.1.2.1, .dat (.int .i64) y4.1.2.2.1, .all 1, .all 2]), (1, .seq (.int .i64) y10.2.2.2.2.1), (2, .seq .bool y10.2.2.2.2.2)], 3⟩ hP hN (by kernel_rfl) allNil ?_
                  have hr := of_some hr
                  subst hr
                  exact HT.ret (qThenR ⟨[.one (.dat .bool false)], [], [], by kernel_rfl, by kernel_rfl, rfl, (.inl rfl), by kernel_rfl, trivial⟩)
                · refine HT.cond0 rfl hb24 ?_
                  refine HT.skip (qThen ?_)
                  refine HT.seq ?_
                  refine HT.reg1 [65] [⟨none, .no⟩, ⟨none, .no⟩, ⟨none, .no⟩] ⟨[(65, .one (.dat .bool (y22 != y10.1)))], [(0, .box [.dat .str y4.1.1, .dat (.int .i64) y4.1.2.1, .dat (.int .i64) y4.1.2.2.1, .all 1, .all 2]), (1, .seq (.int .i64) y10.2.2.2.2.1), (2, .seq .bool y10.2.2.2.2.2)], 3⟩ hP hN (by kernel_rfl) allNil ?_
                  rcases of_bif hr with ⟨hb25, hr⟩ | ⟨hb25, hr⟩
                  · refine HT.cond1 rfl hb25 ?_
                    refine HT.reg1 [2] [⟨none, .no⟩] ⟨[(2, .one (.dat .bool false))], [(0, .box [.dat .str y4.1.1, .dat (.int .i64) y4.1.2.1, .dat (.int .i64) y4.1.2.2.1, .all 1, .all 2]), (1, .seq (.int .i64) y10.2.2.2.2.1), (2, .seq .bool y10.2.2.2.2.2)], 3⟩ hP hN (by kernel_rfl) allNil ?_
                    have hr := of_some hr
                    subst hr
                    exact HT.ret (qThenR ⟨[.one (.dat .bool false)], [], [], by kernel_rfl, by kernel_rfl, rfl, (.inl rfl), by kernel_rfl, trivial⟩)
                  · refine HT.cond0 rfl hb25 ?_
                    refine HT.skip (qThen ?_)
                    refine HT.reg1 [2] [⟨none, .no⟩] ⟨[(2, .one (.dat .bool true))], [(0, .box [.dat .str y4.1.1, .dat (.int .i64) y4.1.2.1, .dat (.int .i64) y4.1.2.2.1, .all 1, .all 2]), (1, .seq (.int .i64) y10.2.2.2.2.1), (2, .seq .bool y10.2.2.2.2.2)], 3⟩ hP hN (by kernel_rfl) allNil ?_
                    have hr := of_some hr
                    subst hr
                    exact HT.ret ⟨[.one (.dat .bool true)], [], [], by kernel_rfl, by kernel_rfl, rfl, (.inl rfl), by kernel_rfl, trivial⟩
            · obtain ⟨y26, hc27, hT20⟩ := of_bind hT20
              rcases of_bif hT20 with ⟨hb28, hT20⟩ | ⟨hb28, hT20⟩
              · refine HT.reg (rs := [⟨none, .no⟩, ⟨none, .no⟩, ⟨none, .call [.imm (.st (.pair .str (.st (.pair (.int .i64) (.pair (.int .i64) (.pair (.sl (.int .i64)) (.sl .bool))))))), .imm (.st (.pair .str (.st (.pair (.int .i64) (.pair (.int .i64) (.pair (.sl (.int .i64)) (.sl .bool)))))))] [⟨false, .bool, y26⟩] []⟩, ⟨none, .no⟩, ⟨none, .no⟩, ⟨some true, .no⟩, ⟨some true, .no⟩, ⟨some true, .no⟩, ⟨none, .tv true⟩]) (st' := ⟨[(57, .one (.dat .bool true)), (56, .und), (55, .und), (54, .und), (53, .one (.dat .bool (!y26))), (52, .one (.dat .bool (!y26))), (51, .one (.dat .bool y26)), (50, .agg [.dat .str y2.1.1, .dat (.int .i64) y2.1.2.1, .dat (.int .i64) y2.1.2.2.1, .all 2, .all 3]), (49, .agg [.dat .str y16.1.1, .dat (.int .i64) y16.1.2.1, .dat (.int .i64) y16.1.2.2.1, .all 6, .all 7]), (3, .one (.ptr 0 0)), (4, .one (.dat .bool y2.2)), (5, .one (.ptr 1 0)), (7, .one (.dat (.int .i64) y10.1)), (9, .one (.ptr 8 0)), (10, .one (.dat .bool y16.2))], [(8, .box [.dat .str y16.1.1, .dat (.int .i64) y16.1.2.1, .dat (.int .i64) y16.1.2.2.1, .all 6, .all 7]), (8, .box [.dat .str ([] : List UInt8), .dat (.int .i64) (0 : Int), .dat (.int .i64) (0 : Int), .nilS, .nilS]), (6, .seq (.int .i64) y16.1.2.2.2.1), (7, .seq .bool y16.1.2.2.2.2), (4, .seq (.int .i64) y10.2.2.2.2.1), (5, .seq .bool y10.2.2.2.2.2), (0, .box [.dat .str y2.1.1, .dat (.int .i64) y2.1.2.1, .dat (.int .i64) y2.1.2.2.1, .all 2, .all 3]), (1, .box [.dat .str y4.1.1, .dat (.int .i64) y4.1.2.1, .dat (.int .i64) y4.1.2.2.1, .all 4, .all 5]), (2, .seq (.int .i64) y2.1.2.2.2.1), (3, .seq .bool y2.1.2.2.2.2), (4, .seq (.int .i64) y4.1.2.2.2.1), (5, .seq .bool y4.1.2.2.2.2)], 9⟩) hP hN (by kernel_rfl) (allCons (f62_ok hc27) (allCons hb28 (allCons hb28 (allCons hb28 (allCons hb28 allNil))))) (qThen ?_)
                exact (Le.cv (s := ⟨[(1, 0), (4, 1), (5, 2)], [], [], false⟩) (own := []) (ps := [y10.1 = y10.1, true = true, y4.1.1 = y4.1.1, y4.1.2.1 = y4.1.2.1, y4.1.2.2.1 = y4.1.2.2.1, y10.2.2.2.2.1 = y10.2.2.2.2.1, y10.2.2.2.2.2 = y10.2.2.2.2.2]) (st' := ⟨[(5, .one (.ptr 0 0)), (7, .one (.dat (.int .i64) y10.1)), (57, .one (.dat .bool true))], [(0, .box [.dat .str y4.1.1, .dat (.int .i64) y4.1.2.1, .dat (.int .i64) y4.1.2.2.1, .all 1, .all 2]), (1, .seq (.int .i64) y10.2.2.2.2.1), (2, .seq .bool y10.2.2.2.2.2)], 3⟩) hO (fun h => by cases h) (by kernel_rfl) ⟨rfl, rfl, rfl, rfl, rfl, rfl, rfl, trivial⟩).ht (cont true (of_some hT20))
              · refine HT.reg (rs := [⟨none, .no⟩, ⟨none, .no⟩, ⟨none, .call [.imm (.st (.pair .str (.st (.pair (.int .i64) (.pair (.int .i64) (.pair (.sl (.int .i64)) (.sl .bool))))))), .imm (.st (.pair .str (.st (.pair (.int .i64) (.pair (.int .i64) (.pair (.sl (.int .i64)) (.sl .bool)))))))] [⟨false, .bool, y26⟩] []⟩, ⟨none, .no⟩, ⟨none, .no⟩, ⟨some false, .no⟩, ⟨some false, .no⟩, ⟨some false, .no⟩, ⟨none, .tv false⟩]) (st' := ⟨[(57, .one (.dat .bool (y16.2 != y2.2))), (56, .one (.dat .bool (y16.2 != y2.2))), (55, .one (.dat .bool y2.2)), (54, .one (.dat .bool y16.2)), (53, .one (.dat .bool (!y26))), (52, .one (.dat .bool (!y26))), (51, .one (.dat .bool y26)), (50, .agg [.dat .str y2.1.1, .dat (.int .i64) y2.1.2.1, .dat (.int .i64) y2.1.2.2.1, .all 2, .all 3]), (49, .agg [.dat .str y16.1.1, .dat (.int .i64) y16.1.2.1, .dat (.int .i64) y16.1.2.2.1, .all 6, .all 7]), (3, .one (.ptr 0 0)), (4, .one (.dat .bool y2.2)), (5, .one (.ptr 1 0)), (7, .one (.dat (.int .i64) y10.1)), (9, .one (.ptr 8 0)), (10, .one (.dat .bool y16.2))], [(8, .box [.dat .str y16.1.1, .dat (.int .i64) y16.1.2.1, .dat (.int .i64) y16.1.2.2.1, .all 6, .all 7]), (8, .box [.dat .str ([] : List UInt8), .dat (.int .i64) (0 : Int), .dat (.int .i64) (0 : Int), .nilS, .nilS]), (6, .seq (.int .i64) y16.1.2.2.2.1), (7, .seq .bool y16.1.2.2.2.2), (4, .seq (.int .i64) y10.2.2.2.2.1), (5, .seq .bool y10.2.2.2.2.2), (0, .box [.dat .str y2.1.1, .dat (.int .i64) y2.1.2.1, .dat (.int .i64) y2.1.2.2.1, .all 2, .all 3]), (1, .box [.dat .str y4.1.1, .dat (.int .i64) y4.1.2.1, .dat (.int .i64) y4.1.2.2.1, .all 4, .all 5]), (2, .seq (.int .i64) y2.1.2.2.2.1), (3, .seq .bool y2.1.2.2.2.2), (4, .seq (.int .i64) y4.1.2.2.2.1), (5, .seq .bool y4.1.2.2.2.2)], 9⟩) hP hN (by kernel_rfl) (allCons (f62_ok hc27) (allCons hb28 (allCons hb28 (allCons hb28 (allCons hb28 allNil))))) (qThen ?_)
                exact (Le.cv (s := ⟨[(1, 0), (4, 1), (5, 2)], [], [], false⟩) (own := []) (ps := [y10.1 = y10.1, (y16.2 != y2.2) = (y16.2 != y2.2), y4.1.1 = y4.1.1, y4.1.2.1 = y4.1.2.1, y4.1.2.2.1 = y4.1.2.2.1, y10.2.2.2.2.1 = y10.2.2.2.2.1, y10.2.2.2.2.2 = y10.2.2.2.2.2]) (st' := ⟨[(5, .one (.ptr 0 0)), (7, .one (.dat (.int .i64) y10.1)), (57, .one (.dat .bool (y16.2 != y2.2)))], [(0, .box [.dat .str y4.1.1, .dat (.int .i64) y4.1.2.1, .dat (.int .i64) y4.1.2.2.1, .all 1, .all 2]), (1, .seq (.int .i64) y10.2.2.2.2.1), (2, .seq .bool y10.2.2.2.2.2)], 3⟩) hO (fun h => by cases h) (by kernel_rfl) ⟨rfl, rfl, rfl, rfl, rfl, rfl, rfl, trivial⟩).ht (cont (y16.2 != y2.2) (of_some hT20))
    · obtain ⟨y29, hc30, hT8⟩ := of_bind hT8
      rcases of_bif hT8 with ⟨hb31, hT8⟩ | ⟨hb31, hT8⟩
      · refine HT.reg (rs := [⟨none, .no⟩, ⟨none, .no⟩, ⟨none, .call [.imm (.st (.pair .str (.st (.pair (.int .i64) (.pair (.int .i64) (.pair (.sl (.int .i64)) (.sl .bool))))))), .imm (.st (.pair .str (.st (.pair (.int .i64) (.pair (.int .i64) (.pair (.sl (.int .i64)) (.sl .bool)))))))] [⟨false, .bool, y29⟩] []⟩, ⟨none, .no⟩, ⟨none, .no⟩, ⟨some true, .no⟩, ⟨some true, .no⟩, ⟨some true, .no⟩, ⟨none, .tv true⟩]) (st' := ⟨[(32, .one (.dat .bool true)), (31, .und), (30, .und), (29, .und), (28, .one (.dat .bool (!y29))), (27, .one (.dat .bool (!y29))), (26, .one (.dat .bool y29)), (25, .agg [.dat .str y2.1.1, .dat (.int .i64) y2.1.2.1, .dat (.int .i64) y2.1.2.2.1, .all 0, .all 1]), (24, .agg [.dat .str y4.1.1, .dat (.int .i64) y4.1.2.1, .dat (.int .i64) y4.1.2.2.1, .all 3, .all 4]), (0, .one (.dat .str a0)), (3, .one (.ptr 2 0)), (4, .one (.dat .bool y2.2)), (5, .one (.ptr 5 0)), (6, .one (.dat .bool y4.2))], [(5, .box [.dat .str y4.1.1, .dat (.int .i64) y4.1.2.1, .dat (.int .i64) y4.1.2.2.1, .all 3, .all 4]), (5, .box [.dat .str ([] : List UInt8), .dat (.int .i64) (0 : Int), .dat (.int .i64) (0 : Int), .nilS, .nilS]), (3, .seq (.int .i64) y4.1.2.2.2.1), (4, .seq .bool y4.1.2.2.2.2), (2, .box [.dat .str y2.1.1, .dat (.int .i64) y2.1.2.1, .dat (.int .i64) y2.1.2.2.1, .all 0, .all 1]), (2, .box [.dat .str ([] : List UInt8), .dat (.int .i64) (0 : Int), .dat (.int .i64) (0 : Int), .nilS, .nilS]), (0, .seq (.int .i64) y2.1.2.2.2.1), (1, .seq .bool y2.1.2.2.2.2)], 6⟩) hP hN (by kernel_rfl) (allCons (f62_ok hc30) (allCons hb31 (allCons hb31 (allCons hb31 (allCons hb31 allNil))))) (qThen ?_)
        exact (Le.cv (s := ⟨[(2, 0), (5, 1), (0, 2), (1, 3), (3, 4), (4, 5)], [], [], false⟩) (own := []) (ps := [a0 = a0, y2.2 = y2.2, true = true, y2.1.1 = y2.1.1, y2.1.2.1 = y2.1.2.1, y2.1.2.2.1 = y2.1.2.2.1, y4.1.1 = y4.1.1, y4.1.2.1 = y4.1.2.1, y4.1.2.2.1 = y4.1.2.2.1, y2.1.2.2.2.1 = y2.1.2.2.2.1, y2.1.2.2.2.2 = y2.1.2.2.2.2, y4.1.2.2.2.1 = y4.1.2.2.2.1, y4.1.2.2.2.2 = y4.1.2.2.2.2]) (st' := ⟨[(0, .one (.dat .str a0)), (3, .one (.ptr 0 0)), (4, .one (.dat .bool y2.2)), (5, .one (.ptr 1 0)), (32, .one (.dat .bool true))], [(0, .box [.dat .str y2.1.1, .dat (.int .i64) y2.1.2.1, .dat (.int .i64) y2.1.2.2.1, .all 2, .all 3]), (1, .box [.dat .str y4.1.1, .dat (.int .i64) y4.1.2.1, .dat (.int .i64) y4.1.2.2.1, .all 4, .all 5]), (2, .seq (.int .i64) y2.1.2.2.2.1), (3, .seq .bool y2.1.2.2.2.2), (4, .seq (.int .i64) y4.1.2.2.2.1), (5, .seq .bool y4.1.2.2.2.2)], 6⟩) hO (fun h => by cases h) (by kernel_rfl) ⟨rfl, rfl, rfl, rfl, rfl, rfl, rfl, rfl, rfl, rfl, rfl, rfl, rfl, trivial⟩).ht (cont true (of_some hT8))
      · refine HT.reg (rs := [⟨none, .no⟩, ⟨none, .no⟩, ⟨none, .call [.imm (.st (.pair .str (.st (.pair (.int .i64) (.pair (.int .i64) (.pair (.sl (.int .i64)) (.sl .bool))))))), .imm (.st (.pair .str (.st (.pair (.int .i64) (.pair (.int .i64) (.pair (.sl (.int .i64)) (.sl .bool)))))))] [⟨false, .bool, y29⟩] []⟩, ⟨none, .no⟩, ⟨none, .no⟩, ⟨some false, .no⟩, ⟨some false, .no⟩, ⟨some false, .no⟩, ⟨none, .tv false⟩]) (st' := ⟨[(32, .one (.dat .bool (y4.2 != y2.2))), (31, .one (.dat .bool (y4.2 != y2.2))), (30, .one (.dat .bool y2.2)), (29, .one (.dat .bool y4.2)), (28, .one (.dat .bool (!y29))), (27, .one (.dat .bool (!y29))), (26, .one (.dat .bool y29)), (25, .agg [.dat .str y2.1.1, .dat (.int .i64) y2.1.2.1, .dat (.int .i64) y2.1.2.2.1, .all 0, .all 1]), (24, .agg [.dat .str y4.1.1, .dat (.int .i64) y4.1.2.1, .dat (.int .i64) y4.1.2.2.1, .all 3, .all 4]), (0, .one (.dat .str a0)), (3, .one (.ptr 2 0)), (4, .one (.dat .bool y2.2)), (5, .one (.ptr 5 0)), (6, .one (.dat .bool y4.2))], [(5, .box [.dat .str y4.1.1, .dat (.int .i64) y4.1.2.1, .dat (.int .i64) y4.1.2.2.1, .all 3, .all 4]), (5, .box [.dat .str ([] : List UInt8), .dat (.int .i64) (0 : Int), .dat (.int .i64) (0 : Int), .nilS, .nilS]), (3, .seq (.int .i64) y4.1.2.2.2.1), (4, .seq .bool y4.1.2.2.2.2), (2, .box [.dat .str y2.1.1, .dat (.int .i64) y2.1.2.1, .dat (.int .i64) y2.1.2.2.1, .all 0, .all 1]), (2, .box [.dat .str ([] : List UInt8), .dat (.int .i64) (0 : Int), .dat (.int .i64) (0 : Int), .nilS, .nilS]), (0, .seq (.int .i64) y2.1.2.2.2.1), (1, .seq .bool y2.1.2.2.2.2)], 6⟩) hP hN (by kernel_rfl) (allCons (f62_ok hc30) (allCons hb31 (allCons hb31 (allCons hb31 (allCons hb31 allNil))))) (qThen ?_)
        exact (Le.cv (s := ⟨[(2, 0), (5, 1), (0, 2), (1, 3), (3, 4), (4, 5)], [], [], false⟩) (own := []) (ps := [a0 = a0, y2.2 = y2.2, (y4.2 != y2.2) = (y4.2 != y2.2), y2.1.1 = y2.1.1, y2.1.2.1 = y2.1.2.1, y2.1.2.2.1 = y2.1.2.2.1, y4.1.1 = y4.1.1, y4.1.2.1 = y4.1.2.1, y4.1.2.2.1 = y4.1.2.2.1, y2.1.2.2.2.1 = y2.1.2.2.2.1, y2.1.2.2.2.2 = y2.1.2.2.2.2, y4.1.2.2.2.1 = y4.1.2.2.2.1, y4.1.2.2.2.2 = y4.1.2.2.2.2]) (st' := ⟨[(0, .one (.dat .str a0)), (3, .one (.ptr 0 0)), (4, .one (.dat .bool y2.2)), (5, .one (.ptr 1 0)), (32, .one (.dat .bool (y4.2 != y2.2)))], [(0, .box [.dat .str y2.1.1, .dat (.int .i64) y2.1.2.1, .dat (.int .i64) y2.1.2.2.1, .all 2, .all 3]), (1, .box [.dat .str y4.1.1, .dat (.int .i64) y4.1.2.1, .dat (.int .i64) y4.1.2.2.1, .all 4, .all 5]), (2, .seq (.int .i64) y2.1.2.2.2.1), (3, .seq .bool y2.1.2.2.2.2), (4, .seq (.int .i64) y4.1.2.2.2.1), (5, .seq .bool y4.1.2.2.2.2)], 6⟩) hO (fun h => by cases h) (by kernel_rfl) ⟨rfl, rfl, rfl, rfl, rfl, rfl, rfl, rfl, rfl, rfl, rfl, rfl, rfl, trivial⟩).ht (cont (y4.2 != y2.2) (of_some hT8))

noncomputable def spec_l02Word_B1 (a0 : List Int) (a1 : Int) (s1 : Int) : Option ((Int) ⊕ (Unit ⊕ Unit)) :=
  bif (decide (s1 < (lenI a0))) then
    guardP ((0 : Int) ≤ s1 ∧ s1 < lenI a0) (
      (spec_l00In (List.getD a0 (Int.toNat s1) (0 : Int)) (0 : Int) (wsub .i64 a1 (1 : Int))).bind fun y10 =>
      bif (!y10) then
        some (.inr (.inr ()))
      else
        some (.inl (wadd .i64 s1 (1 : Int))))
  else
    some (.inr (.inl ()))

noncomputable def spec_l02Word (a0 : List Int) (a1 : Int) : Option (Bool) :=
  (rounds (spec_l02Word_B1 a0 a1) (0 : Int)).bind fun r2 => match r2 with
    | .inl r3 =>
      some (decide ((lenI a0) ≤ (12 : Int)))
    | .inr r4 =>
      some false

theorem f134_ok {a0 : List Int} {a1 : Int} {r : Bool} (hr : spec_l02Word a0 a1 = some r) : CallOK Try.prog 134 [.imm (.sl (.int .i64)) a0, .imm (.int .i64) a1] [⟨false, .bool, r⟩] [] := by
  unfold spec_l02Word at hr
  refine CallOK.of_body (ts := [(false, .bool)]) Try.func134 rfl (by kernel_rfl) (Nat.le_of_ble_eq_true (by kernel_rfl)) fun cx hP hN hO hF => ?_
  have hO : cx.own.map Prod.fst = [] := hO
  have hF : cx.F = [] := hF rfl
  show HT cx ⟨[(0, .one (.dat (.sl (.int .i64)) a0)), (1, .one (.dat (.int .i64) a1))], [], 0⟩ _ _
  refine HT.reg1 [0, 1] [⟨none, .no⟩] ⟨[(0, .one (.dat (.sl (.int .i64)) a0)), (1, .one (.dat (.int .i64) a1))], [], 0⟩ hP hN (by kernel_rfl) allNil ?_
  refine HT.seq ?_
  refine HT.reg1 [0, 1, 5] [⟨none, .no⟩] ⟨[(0, .one (.dat (.sl (.int .i64)) a0)), (1, .one (.dat (.int .i64) a1)), (5, .one (.dat (.int .i64) (0 : Int)))], [], 0⟩ hP hN (by kernel_rfl) allNil ?_
  refine HT.block ?_
  obtain ⟨r2, hL13, hr⟩ := of_bind hr
  refine (Le.cv (s := ⟨[], [], [], false⟩) (own := []) (ps := [a0 = a0, a1 = a1, (0 : Int) = (0 : Int)]) (st' := ⟨[(0, .one (.dat (.sl (.int .i64)) a0)), (1, .one (.dat (.int .i64) a1)), (5, .one (.dat (.int .i64) (0 : Int)))], [], 0⟩) hO (fun h => by cases h) (by kernel_rfl) ⟨rfl, rfl, rfl, trivial⟩).ht ?_
  refine HT.loopE (s := (0 : Int)) (fun (s1 : Int) => ⟨[(0, .one (.dat (.sl (.int .i64)) a0)), (1, .one (.dat (.int .i64) a1)), (5, .one (.dat (.int .i64) s1))], [], 0⟩) (fun (r2 : Unit ⊕ Unit) => match r2 with | .inl r3 => (.exit 0, ⟨[(0, .one (.dat (.sl (.int .i64)) a0))], [], 0⟩) | .inr r4 => (.ret, ⟨[(4, .one (.dat .bool false))], [], 0⟩)) hL13 ?_ (fun s1 x5 hx6 hk7 => ?_)
  · rcases r2 with r3 | r4
    · refine (qBlockX (qThen ?_))
      refine HT.reg1 [4] [⟨none, .no⟩, ⟨none, .no⟩, ⟨none, .no⟩, ⟨none, .no⟩] ⟨[(4, .one (.dat .bool (decide ((lenI a0) ≤ (12 : Int)))))], [], 0⟩ hP hN (by kernel_rfl) allNil ?_
      have hr := of_some hr
      subst hr
      exact HT.ret ⟨[.one (.dat .bool (decide ((lenI a0) ≤ (12 : Int))))], [], [], by kernel_rfl, by kernel_rfl, rfl, (.inl rfl), by kernel_rfl, trivial⟩
    · have hr := of_some hr
      subst hr
      exact (qBlockR (qThenR ⟨[.one (.dat .bool false)], [], [], by kernel_rfl, by kernel_rfl, rfl, (.inl rfl), by kernel_rfl, trivial⟩))
  · refine HT.seq ?_
    refine HT.reg1 [0, 1, 5, 9] [⟨none, .no⟩, ⟨none, .no⟩, ⟨none, .no⟩, ⟨none, .no⟩] ⟨[(0, .one (.dat (.sl (.int .i64)) a0)), (1, .one (.dat (.int .i64) a1)), (5, .one (.dat (.int .i64) s1)), (9, .one (.dat .bool (decide (s1 < (lenI a0)))))], [], 0⟩ hP hN (by kernel_rfl) allNil ?_
    rcases of_bif hx6 with ⟨hb8, hx6⟩ | ⟨hb8, hx6⟩
    · refine HT.cond1 rfl hb8 ?_
      refine HT.skip (qThen ?_)
      refine HT.seq ?_
      refine HT.block ?_
      obtain ⟨hg9, hx6⟩ := of_guard hx6
      obtain ⟨y10, hc11, hx6⟩ := of_bind hx6
      refine HT.reg1 [0, 1, 5, 19] [⟨none, .no⟩, ⟨none, .no⟩, ⟨none, .no⟩, ⟨none, .no⟩, ⟨none, .no⟩, ⟨none, .no⟩, ⟨none, .call [.imm (.int .i64), .imm (.int .i64), .imm (.int .i64)] [⟨false, .bool, y10⟩] []⟩, ⟨none, .no⟩] ⟨[(0, .one (.dat (.sl (.int .i64)) a0)), (1, .one (.dat (.int .i64) a1)), (5, .one (.dat (.int .i64) s1)), (19, .one (.dat .bool (!y10)))], [], 0⟩ hP hN (by kernel_rfl) (allCons hg9 (allCons (f80_ok hc11) allNil)) ?_
      rcases of_bif hx6 with ⟨hb12, hx6⟩ | ⟨hb12, hx6⟩
      · refine HT.cond1 rfl hb12 ?_
        refine HT.reg1 [4] [⟨none, .no⟩] ⟨[(4, .one (.dat .bool false))], [], 0⟩ hP hN (by kernel_rfl) allNil ?_
        have hx6 := of_some hx6
        subst hx6
        refine (Le.cv (s := ⟨[], [], [], false⟩) (own := []) (ps := [false = false]) (st' := ⟨[(4, .one (.dat .bool false))], [], 0⟩) hO (fun h => by cases h) (by kernel_rfl) ⟨rfl, trivial⟩).ht ?_
        exact HT.ret (qBlockR (qThenR (qLoopR (hk7 (.inr ()) rfl))))
      · refine HT.cond0 rfl hb12 ?_
        refine HT.skip (qBlock (qThen ?_))
        have hx6 := of_some hx6
        subst hx6
        refine HT.reg (rs := [⟨none, .no⟩, ⟨none, .no⟩, ⟨none, .no⟩]) (st' := ⟨[(5, .one (.dat (.int .i64) (wadd .i64 s1 (1 : Int)))), (11, .one (.dat (.int .i64) (wadd .i64 s1 (1 : Int)))), (10, .one (.dat (.int .i64) s1)), (0, .one (.dat (.sl (.int .i64)) a0)), (1, .one (.dat (.int .i64) a1)), (5, .one (.dat (.int .i64) s1)), (19, .one (.dat .bool (!y10)))], [], 0⟩) hP hN (by kernel_rfl) allNil (qLoopN ⟨(wadd .i64 s1 (1 : Int)), rfl, Le.cv (s := ⟨[], [], [], false⟩) (own := []) (ps := [a0 = a0, a1 = a1, (wadd .i64 s1 (1 : Int)) = (wadd .i64 s1 (1 : Int))]) (st' := ⟨[(0, .one (.dat (.sl (.int .i64)) a0)), (1, .one (.dat (.int .i64) a1)), (5, .one (.dat (.int .i64) (wadd .i64 s1 (1 : Int))))], [], 0⟩) hO (fun h => by cases h) (by kernel_rfl) ⟨rfl, rfl, rfl, trivial⟩⟩)
    · refine HT.cond0 rfl hb8 ?_
      have hx6 := of_some hx6
      subst hx6
      refine (Le.cv (s := ⟨[], [], [], false⟩) (own := []) (ps := [a0 = a0]) (st' := ⟨[(0, .one (.dat (.sl (.int .i64)) a0))], [], 0⟩) hO (fun h => by cases h) (by kernel_rfl) ⟨rfl, trivial⟩).ht ?_
      exact HT.exit (qThenE (qLoopE (hk7 (.inl ()) rfl)))

noncomputable def spec_l07Loop (a0 : List Int × List Int) (a1 : Int) : Option (Bool) :=
  (show Option (Bool) from
    (spec_l00In a1 (1 : Int) (4 : Int)).bind fun y4 =>
    bif y4 then
      (spec_l02Word a0.1 a1).bind fun y7 =>
      bif y7 then
        (spec_l02Word a0.2 a1).bind fun y10 =>
        bif y10 then
          some (decide ((lenI a0.2) ≥ (1 : Int)))
        else
          some false
      else
        some false
    else
      some false).bind fun v1 =>
  some v1

theorem f89_ok {a0 : List Int × List Int} {a1 : Int} {r : Bool} (hr : spec_l07Loop a0 a1 = some r) : CallOK Try.prog 89 [.pimm (.st (.pair (.sl (.int .i64)) (.sl (.int .i64)))) a0, .imm (.int .i64) a1] [⟨false, .bool, r⟩] [] := by
  unfold spec_l07Loop at hr
  refine CallOK.of_body (ts := [(false, .bool)]) Try.func89 rfl (by kernel_rfl) (Nat.le_of_ble_eq_true (by kernel_rfl)) fun cx hP hN hO hF => ?_
  have hO : cx.own.map Prod.fst = [] := hO
  have hF : cx.F = [] := hF rfl
  show HT cx ⟨[(0, .one (.ip (.st (.pair (.sl (.int .i64)) (.sl (.int .i64)))) a0 0)), (1, .one (.dat (.int .i64) a1))], [], 0⟩ _ _
  refine HT.reg1 [0, 1] [⟨none, .no⟩] ⟨[(0, .one (.ip (.st (.pair (.sl (.int .i64)) (.sl (.int .i64)))) a0 0)), (1, .one (.dat (.int .i64) a1))], [], 0⟩ hP hN (by kernel_rfl) allNil ?_
  obtain ⟨v1', hT3, hr⟩ := of_bind hr
  refine HT.join (fun (v1 : Bool) => ⟨[(4, .one (.dat .bool v1))], [], 0⟩) (fun v => v = v1') (fun v1 hv2 => ?_) (fun cont => ?_)
  · subst hv2
    have hr := of_some hr
    subst hr
    exact HT.ret ⟨[.one (.dat .bool v1)], [], [], by kernel_rfl, by kernel_rfl, rfl, (.inl rfl), by kernel_rfl, trivial⟩
  · obtain ⟨y4, hc5, hT3⟩ := of_bind hT3
    rcases of_bif hT3 with ⟨hb6, hT3⟩ | ⟨hb6, hT3⟩
    · obtain ⟨y7, hc8, hT3⟩ := of_bind hT3
      rcases of_bif hT3 with ⟨hb9, hT3⟩ | ⟨hb9, hT3⟩
      · obtain ⟨y10, hc11, hT3⟩ := of_bind hT3
        rcases of_bif hT3 with ⟨hb12, hT3⟩ | ⟨hb12, hT3⟩
        · refine HT.reg (rs := [⟨none, .no⟩, ⟨none, .call [.imm (.int .i64), .imm (.int .i64), .imm (.int .i64)] [⟨false, .bool, y4⟩] []⟩, ⟨none, .no⟩, ⟨some true, .no⟩, ⟨some true, .no⟩, ⟨some true, .no⟩, ⟨some true, .no⟩, ⟨some true, .no⟩, ⟨some true, .call [.imm (.sl (.int .i64)), .imm (.int .i64)] [⟨false, .bool, y7⟩] []⟩, ⟨none, .tv true⟩, ⟨none, .no⟩, ⟨some true, .no⟩, ⟨some true, .no⟩, ⟨some true, .no⟩, ⟨some true, .no⟩, ⟨some true, .no⟩, ⟨some true, .call [.imm (.sl (.int .i64)), .imm (.int .i64)] [⟨false, .bool, y10⟩] []⟩, ⟨none, .tv true⟩, ⟨none, .no⟩, ⟨some true, .no⟩, ⟨some true, .no⟩, ⟨some true, .no⟩, ⟨some true, .no⟩, ⟨some true, .no⟩, ⟨some true, .no⟩, ⟨none, .tv true⟩, ⟨none, .no⟩]) (st' := ⟨[(4, .one (.dat .bool (decide ((lenI a0.2) ≥ (1 : Int))))), (30, .one (.dat .bool (decide ((lenI a0.2) ≥ (1 : Int))))), (29, .one (.dat .bool (decide ((lenI a0.2) ≥ (1 : Int))))), (28, .one (.dat (.int .i64) (lenI a0.2))), (27, .one (.dat (.sl (.int .i64)) a0.2)), (26, .one (.ip (.st (.pair (.sl (.int .i64)) (.sl (.int .i64)))) a0 1)), (25, .one (.ip (.st (.pair (.sl (.int .i64)) (.sl (.int .i64)))) a0 0)), (24, .one (.ip (.st (.pair (.sl (.int .i64)) (.sl (.int .i64)))) a0 0)), (23, .one (.dat .bool y10)), (22, .one (.dat .bool y10)), (21, .one (.dat .bool y10)), (20, .one (.dat (.int .i64) a1)), (19, .one (.dat (.sl (.int .i64)) a0.2)), (18, .one (.ip (.st (.pair (.sl (.int .i64)) (.sl (.int .i64)))) a0 1)), (17, .one (.ip (.st (.pair (.sl (.int .i64)) (.sl (.int .i64)))) a0 0)), (16, .one (.ip (.st (.pair (.sl (.int .i64)) (.sl (.int .i64)))) a0 0)), (15, .one (.dat .bool y7)), (14, .one (.dat .bool y7)), (13, .one (.dat .bool y7)), (12, .one (.dat (.int .i64) a1)), (11, .one (.dat (.sl (.int .i64)) a0.1)), (10, .one (.ip (.st (.pair (.sl (.int .i64)) (.sl (.int .i64)))) a0 0)), (9, .one (.ip (.st (.pair (.sl (.int .i64)) (.sl (.int .i64)))) a0 0)), (8, .one (.ip (.st (.pair (.sl (.int .i64)) (.sl (.int .i64)))) a0 0)), (7, .one (.dat .bool y4)), (6, .one (.dat .bool y4)), (5, .one (.dat (.int .i64) a1)), (0, .one (.ip (.st (.pair (.sl (.int .i64)) (.sl (.int .i64)))) a0 0)), (1, .one (.dat (.int .i64) a1))], [], 0⟩) hP hN (by kernel_rfl) (allCons (f80_ok hc5) (allCons hb6 (allCons hb6 (allCons hb6 (allCons hb6 (allCons hb6 (allCons hb6 (allCons (f134_ok hc8) (allCons hb6 (allCons hb9 (allCons hb9 (allCons hb9 (allCons hb9 (allCons hb9 (allCons hb9 (allCons (f134_ok hc11) (allCons hb9 (allCons hb12 (allCons hb12 (allCons hb12 (allCons hb12 (allCons hb12 (allCons hb12 (allCons hb12 allNil)))))))))))))))))))))))) (qThen ?_)
          exact (Le.cv (s := ⟨[], [], [], false⟩) (own := []) (ps := [(decide ((lenI a0.2) ≥ (1 : Int))) = (decide ((lenI a0.2) ≥ (1 : Int)))]) (st' := ⟨[(4, .one (.dat .bool (decide ((lenI a0.2) ≥ (1 : Int)))))], [], 0⟩) hO (fun h => by cases h) (by kernel_rfl) ⟨rfl, trivial⟩).ht (cont (decide ((lenI a0.2) ≥ (1 : Int))) (of_some hT3))
        · refine HT.reg (rs := [⟨none, .no⟩, ⟨none, .call [.imm (.int .i64), .imm (.int .i64), .imm (.int .i64)] [⟨false, .bool, y4⟩] []⟩, ⟨none, .no⟩, ⟨some true, .no⟩, ⟨some true, .no⟩, ⟨some true, .no⟩, ⟨some true, .no⟩, ⟨some true, .no⟩, ⟨some true, .call [.imm (.sl (.int .i64)), .imm (.int .i64)] [⟨false, .bool, y7⟩] []⟩, ⟨none, .tv true⟩, ⟨none, .no⟩, ⟨some true, .no⟩, ⟨some true, .no⟩, ⟨some true, .no⟩, ⟨some true, .no⟩, ⟨some true, .no⟩, ⟨some true, .call [.imm (.sl (.int .i64)), .imm (.int .i64)] [⟨false, .bool, y10⟩] []⟩, ⟨none, .tv true⟩, ⟨none, .no⟩, ⟨some false, .no⟩, ⟨some false, .no⟩, ⟨some false, .no⟩, ⟨some false, .no⟩, ⟨some false, .no⟩, ⟨some false, .no⟩, ⟨none, .tv false⟩, ⟨none, .no⟩]) (st' := ⟨[(4, .one (.dat .bool false)), (30, .one (.dat .bool false)), (29, .und), (28, .und), (27, .und), (26, .und), (25, .und), (24, .und), (23, .one (.dat .bool y10)), (22, .one (.dat .bool y10)), (21, .one (.dat .bool y10)), (20, .one (.dat (.int .i64) a1)), (19, .one (.dat (.sl (.int .i64)) a0.2)), (18, .one (.ip (.st (.pair (.sl (.int .i64)) (.sl (.int .i64)))) a0 1)), (17, .one (.ip (.st (.pair (.sl (.int .i64)) (.sl (.int .i64)))) a0 0)), (16, .one (.ip (.st (.pair (.sl (.int .i64)) (.sl (.int .i64)))) a0 0)), (15, .one (.dat .bool y7)), (14, .one (.dat .bool y7)), (13, .one (.dat .bool y7)), (12, .one (.dat (.int .i64) a1)), (11, .one (.dat (.sl (.int .i64)) a0.1)), (10, .one (.ip (.st (.pair (.sl (.int .i64)) (.sl (.int .i64)))) a0 0)), (9, .one (.ip (.st (.pair (.sl (.int .i64)) (.sl (.int .i64)))) a0 0)), (8, .one (.ip (.st (.pair (.sl (.int .i64)) (.sl (.int .i64)))) a0 0)), (7, .one (.dat .bool y4)), (6, .one (.dat .bool y4)), (5, .one (.dat (.int .i64) a1)), (0, .one (.ip (.st (.pair (.sl (.int .i64)) (.sl (.int .i64)))) a0 0)), (1, .one (.dat (.int .i64) a1))], [], 0⟩) hP hN (by kernel_rfl) (allCons (f80_ok hc5) (allCons hb6 (allCons hb6 (allCons hb6 (allCons hb6 (allCons hb6 (allCons hb6 (allCons (f134_ok hc8) (allCons hb6 (allCons hb9 (allCons hb9 (allCons hb9 (allCons hb9 (allCons hb9 (allCons hb9 (allCons (f134_ok hc11) (allCons hb9 (allCons hb12 (allCons hb12 (allCons hb12 (allCons hb12 (allCons hb12 (allCons hb12 (allCons hb12 allNil)))))))))))))))))))))))) (qThen ?_)
          exact (Le.cv (s := ⟨[], [], [], false⟩) (own := []) (ps := [false = false]) (st' := ⟨[(4, .one (.dat .bool false))], [], 0⟩) hO (fun h => by cases h) (by kernel_rfl) ⟨rfl, trivial⟩).ht (cont false (of_some hT3))
      · refine HT.reg (rs := [⟨none, .no⟩, ⟨none, .call [.imm (.int .i64), .imm (.int .i64), .imm (.int .i64)] [⟨false, .bool, y4⟩] []⟩, ⟨none, .no⟩, ⟨some true, .no⟩, ⟨some true, .no⟩, ⟨some true, .no⟩, ⟨some true, .no⟩, ⟨some true, .no⟩, ⟨some true, .call [.imm (.sl (.int .i64)), .imm (.int .i64)] [⟨false, .bool, y7⟩] []⟩, ⟨none, .tv true⟩, ⟨none, .no⟩, ⟨some false, .no⟩, ⟨some false, .no⟩, ⟨some false, .no⟩, ⟨some false, .no⟩, ⟨some false, .no⟩, ⟨some false, .no⟩, ⟨none, .tv false⟩, ⟨none, .no⟩, ⟨some false, .no⟩, ⟨some false, .no⟩, ⟨some false, .no⟩, ⟨some false, .no⟩, ⟨some false, .no⟩, ⟨some false, .no⟩, ⟨none, .tv false⟩, ⟨none, .no⟩]) (st' := ⟨[(4, .one (.dat .bool false)), (30, .one (.dat .bool false)), (29, .und), (28, .und), (27, .und), (26, .und), (25, .und), (24, .und), (23, .one (.dat .bool false)), (22, .one (.dat .bool false)), (21, .und), (20, .und), (19, .und), (18, .und), (17, .und), (16, .und), (15, .one (.dat .bool y7)), (14, .one (.dat .bool y7)), (13, .one (.dat .bool y7)), (12, .one (.dat (.int .i64) a1)), (11, .one (.dat (.sl (.int .i64)) a0.1)), (10, .one (.ip (.st (.pair (.sl (.int .i64)) (.sl (.int .i64)))) a0 0)), (9, .one (.ip (.st (.pair (.sl (.int .i64)) (.sl (.int .i64)))) a0 0)), (8, .one (.ip (.st (.pair (.sl (.int .i64)) (.sl (.int .i64)))) a0 0)), (7, .one (.dat .bool y4)), (6, .one (.dat .bool y4)), (5, .one (.dat (.int .i64) a1)), (0, .one (.ip (.st (.pair (.sl (.int .i64)) (.sl (.int .i64)))) a0 0)), (1, .one (.dat (.int .i64) a1))], [], 0⟩) hP hN (by kernel_rfl) (allCons (f80_ok hc5) (allCons hb6 (allCons hb6 (allCons hb6 (allCons hb6 (allCons hb6 (allCons hb6 (allCons (f134_ok hc8) (allCons hb6 (allCons hb9 (allCons hb9 (allCons hb9 (allCons hb9 (allCons hb9 (allCons hb9 (allCons hb9 (allCons (rfl : false = false) (allCons (rfl : false = false) (allCons (rfl : false = false) (allCons (rfl : false = false) (allCons (rfl : false = false) (allCons (rfl : false = false) (allCons (rfl : false = false) allNil))))))))))))))))))))))) (qThen ?_)
        exact (Le.cv (s := ⟨[], [], [], false⟩) (own := []) (ps := [false = false]) (st' := ⟨[(4, .one (.dat .bool false))], [], 0⟩) hO (fun h => by cases h) (by kernel_rfl) ⟨rfl, trivial⟩).ht (cont false (of_some hT3))
    · refine HT.reg (rs := [⟨none, .no⟩, ⟨none, .call [.imm (.int .i64), .imm (.int .i64), .imm (.int .i64)] [⟨false, .bool, y4⟩] []⟩, ⟨none, .no⟩, ⟨some false, .no⟩, ⟨some false, .no⟩, ⟨some false, .no⟩, ⟨some false, .no⟩, ⟨some false, .no⟩, ⟨some false, .no⟩, ⟨none, .tv false⟩, ⟨none, .no⟩, ⟨some false, .no⟩, ⟨some false, .no⟩, ⟨some false, .no⟩, ⟨some false, .no⟩, ⟨some false, .no⟩, ⟨some false, .no⟩, ⟨none, .tv false⟩, ⟨none, .no⟩, ⟨some false, .no⟩, ⟨some false, .no⟩, ⟨some false, .no⟩, ⟨some false, .no⟩, ⟨some false, .no⟩, ⟨some false, .no⟩, ⟨none, .tv false⟩, ⟨none, .no⟩]) (st' := ⟨[(4, .one (.dat .bool false)), (30, .one (.dat .bool false)), (29, .und), (28, .und), (27, .und), (26, .und), (25, .und), (24, .und), (23, .one (.dat .bool false)), (22, .one (.dat .bool false)), (21, .und), (20, .und), (19, .und), (18, .und), (17, .und), (16, .und), (15, .one (.dat .bool false)), (14, .one (.dat .bool false)), (13, .und), (12, .und), (11, .und), (10, .und), (9, .und), (8, .und), (7, .one (.dat .bool y4)), (6, .one (.dat .bool y4)), (5, .one (.dat (.int .i64) a1)), (0, .one (.ip (.st (.pair (.sl (.int .i64)) (.sl (.int .i64)))) a0 0)), (1, .one (.dat (.int .i64) a1))], [], 0⟩) hP hN (by kernel_rfl) (allCons (f80_ok hc5) (allCons hb6 (allCons hb6 (allCons hb6 (allCons hb6 (allCons hb6 (allCons hb6 (allCons hb6 (allCons (rfl : false = false) (allCons (rfl : false = false) (allCons (rfl : false = false) (allCons (rfl : false = false) (allCons (rfl : false = false) (allCons (rfl : false = false) (allCons (rfl : false = false) (allCons (rfl : false = false) (allCons (rfl : false = false) (allCons (rfl : false = false) (allCons (rfl : false = false) (allCons (rfl : false = false) (allCons (rfl : false = false) (allCons (rfl : false = false) allNil)))))))))))))))))))))) (qThen ?_)
      exact (Le.cv (s := ⟨[], [], [], false⟩) (own := []) (ps := [false = false]) (st' := ⟨[(4, .one (.dat .bool false))], [], 0⟩) hO (fun h => by cases h) (by kernel_rfl) ⟨rfl, trivial⟩).ht (cont false (of_some hT3))

noncomputable def impl_IsWord (a0 : List Int) (a1 : Int) : Option (Bool) :=
  (show Option (Bool) from
    (impl_within a1 (1 : Int) (4 : Int)).bind fun y4 =>
    bif y4 then
      bif (decide ((lenI a0) ≤ (12 : Int))) then
        (impl_areWithin a0 (0 : Int) (wsub .i64 a1 (1 : Int))).bind fun y8 =>
        some y8
      else
        some false
    else
      some false).bind fun v1 =>
  some v1

theorem f136_ok {a0 : List Int} {a1 : Int} {r : Bool} (hr : impl_IsWord a0 a1 = some r) : CallOK Try.prog 136 [.imm (.sl (.int .i64)) a0, .imm (.int .i64) a1] [⟨false, .bool, r⟩] [] := by
  unfold impl_IsWord at hr
  refine CallOK.of_body (ts := [(false, .bool)]) Try.func136 rfl (by kernel_rfl) (Nat.le_of_ble_eq_true (by kernel_rfl)) fun cx hP hN hO hF => ?_
  have hO : cx.own.map Prod.fst = [] := hO
  have hF : cx.F = [] := hF rfl
  show HT cx ⟨[(0, .one (.dat (.sl (.int .i64)) a0)), (1, .one (.dat (.int .i64) a1))], [], 0⟩ _ _
  refine HT.reg1 [0, 1] [⟨none, .no⟩] ⟨[(0, .one (.dat (.sl (.int .i64)) a0)), (1, .one (.dat (.int .i64) a1))], [], 0⟩ hP hN (by kernel_rfl) allNil ?_
  obtain ⟨v1', hT3, hr⟩ := of_bind hr
  refine HT.join (fun (v1 : Bool) => ⟨[(4, .one (.dat .bool v1))], [], 0⟩) (fun v => v = v1') (fun v1 hv2 => ?_) (fun cont => ?_)
  · subst hv2
    have hr := of_some hr
    subst hr
    exact HT.ret ⟨[.one (.dat .bool v1)], [], [], by kernel_rfl, by kernel_rfl, rfl, (.inl rfl), by kernel_rfl, trivial⟩
  · obtain ⟨y4, hc5, hT3⟩ := of_bind hT3
    rcases of_bif hT3 with ⟨hb6, hT3⟩ | ⟨hb6, hT3⟩
    · rcases of_bif hT3 with ⟨hb7, hT3⟩ | ⟨hb7, hT3⟩
      · obtain ⟨y8, hc9, hT3⟩ := of_bind hT3
        refine HT.reg (rs := [⟨none, .no⟩, ⟨none, .call [.imm (.int .i64), .imm (.int .i64), .imm (.int .i64)] [⟨false, .bool, y4⟩] []⟩, ⟨none, .no⟩, ⟨some true, .no⟩, ⟨some true, .no⟩, ⟨some true, .no⟩, ⟨none, .tv true⟩, ⟨none, .no⟩, ⟨some true, .no⟩, ⟨some true, .no⟩, ⟨some true, .no⟩, ⟨some true, .call [.imm (.sl (.int .i64)), .imm (.int .i64), .imm (.int .i64)] [⟨false, .bool, y8⟩] []⟩, ⟨none, .tv true⟩, ⟨none, .no⟩]) (st' := ⟨[(4, .one (.dat .bool y8)), (17, .one (.dat .bool y8)), (16, .one (.dat .bool y8)), (15, .one (.dat (.int .i64) (wsub .i64 a1 (1 : Int)))), (14, .one (.dat (.int .i64) a1)), (13, .one (.dat (.sl (.int .i64)) a0)), (12, .one (.dat .bool (decide ((lenI a0) ≤ (12 : Int))))), (11, .one (.dat .bool (decide ((lenI a0) ≤ (12 : Int))))), (10, .one (.dat .bool (decide ((lenI a0) ≤ (12 : Int))))), (9, .one (.dat (.int .i64) (lenI a0))), (8, .one (.dat (.sl (.int .i64)) a0)), (7, .one (.dat .bool y4)), (6, .one (.dat .bool y4)), (5, .one (.dat (.int .i64) a1)), (0, .one (.dat (.sl (.int .i64)) a0)), (1, .one (.dat (.int .i64) a1))], [], 0⟩) hP hN (by kernel_rfl) (allCons (f83_ok hc5) (allCons hb6 (allCons hb6 (allCons hb6 (allCons hb6 (allCons hb7 (allCons hb7 (allCons hb7 (allCons hb7 (allCons (f137_ok hc9) (allCons hb7 allNil))))))))))) (qThen ?_)
        exact (Le.cv (s := ⟨[], [], [], false⟩) (own := []) (ps := [y8 = y8]) (st' := ⟨[(4, .one (.dat .bool y8))], [], 0⟩) hO (fun h => by cases h) (by kernel_rfl) ⟨rfl, trivial⟩).ht (cont y8 (of_some hT3))
      · refine HT.reg (rs := [⟨none, .no⟩, ⟨none, .call [.imm (.int .i64), .imm (.int .i64), .imm (.int .i64)] [⟨false, .bool, y4⟩] []⟩, ⟨none, .no⟩, ⟨some true, .no⟩, ⟨some true, .no⟩, ⟨some true, .no⟩, ⟨none, .tv true⟩, ⟨none, .no⟩, ⟨some false, .no⟩, ⟨some false, .no⟩, ⟨some false, .no⟩, ⟨some false, .no⟩, ⟨none, .tv false⟩, ⟨none, .no⟩]) (st' := ⟨[(4, .one (.dat .bool false)), (17, .one (.dat .bool false)), (16, .und), (15, .und), (14, .und), (13, .und), (12, .one (.dat .bool (decide ((lenI a0) ≤ (12 : Int))))), (11, .one (.dat .bool (decide ((lenI a0) ≤ (12 : Int))))), (10, .one (.dat .bool (decide ((lenI a0) ≤ (12 : Int))))), (9, .one (.dat (.int .i64) (lenI a0))), (8, .one (.dat (.sl (.int .i64)) a0)), (7, .one (.dat .bool y4)), (6, .one (.dat .bool y4)), (5, .one (.dat (.int .i64) a1)), (0, .one (.dat (.sl (.int .i64)) a0)), (1, .one (.dat (.int .i64) a1))], [], 0⟩) hP hN (by kernel_rfl) (allCons (f83_ok hc5) (allCons hb6 (allCons hb6 (allCons hb6 (allCons hb6 (allCons hb7 (allCons hb7 (allCons hb7 (allCons hb7 (allCons hb7 allNil)))))))))) (qThen ?_)
        exact (Le.cv (s := ⟨[], [], [], false⟩) (own := []) (ps := [false = false]) (st' := ⟨[(4, .one (.dat .bool false))], [], 0⟩) hO (fun h => by cases h) (by kernel_rfl) ⟨rfl, trivial⟩).ht (cont false (of_some hT3))
    · refine HT.reg (rs := [⟨none, .no⟩, ⟨none, .call [.imm (.int .i64), .imm (.int .i64), .imm (.int .i64)] [⟨false, .bool, y4⟩] []⟩, ⟨none, .no⟩, ⟨some false, .no⟩, ⟨some false, .no⟩, ⟨some false, .no⟩, ⟨none, .tv false⟩, ⟨none, .no⟩, ⟨some false, .no⟩, ⟨some false, .no⟩, ⟨some false, .no⟩, ⟨some false, .no⟩, ⟨none, .tv false⟩, ⟨none, .no⟩]) (st' := ⟨[(4, .one (.dat .bool false)), (17, .one (.dat .bool false)), (16, .und), (15, .und), (14, .und), (13, .und), (12, .one (.dat .bool false)), (11, .one (.dat .bool false)), (10, .und), (9, .und), (8, .und), (7, .one (.dat .bool y4)), (6, .one (.dat .bool y4)), (5, .one (.dat (.int .i64) a1)), (0, .one (.dat (.sl (.int .i64)) a0)), (1, .one (.dat (.int .i64) a1))], [], 0⟩) hP hN (by kernel_rfl) (allCons (f83_ok hc5) (allCons hb6 (allCons hb6 (allCons hb6 (allCons hb6 (allCons (rfl : false = false) (allCons (rfl : false = false) (allCons (rfl : false = false) (allCons (rfl : false = false) (allCons (rfl : false = false) allNil)))))))))) (qThen ?_)
      exact (Le.cv (s := ⟨[], [], [], false⟩) (own := []) (ps := [false = false]) (st' := ⟨[(4, .one (.dat .bool false))], [], 0⟩) hO (fun h => by cases h) (by kernel_rfl) ⟨rfl, trivial⟩).ht (cont false (of_some hT3))

noncomputable def impl_ValidLoop (a0 : List Int × List Int) (a1 : Int) : Option (Bool) :=
  (show Option (Bool) from
    (impl_IsWord a0.1 a1).bind fun y4 =>
    bif y4 then
      (impl_IsWord a0.2 a1).bind fun y7 =>
      bif y7 then
        some (decide ((lenI a0.2) > (0 : Int)))
      else
        some false
    else
      some false).bind fun v1 =>
  some v1

theorem f93_ok {a0 : List Int × List Int} {a1 : Int} {r : Bool} (hr : impl_ValidLoop a0 a1 = some r) : CallOK Try.prog 93 [.imm (.st (.pair (.sl (.int .i64)) (.sl (.int .i64)))) a0, .imm (.int .i64) a1] [⟨false, .bool, r⟩] [] := by
  unfold impl_ValidLoop at hr
  refine CallOK.of_body (ts := [(false, .bool)]) Try.func93 rfl (by kernel_rfl) (Nat.le_of_ble_eq_true (by kernel_rfl)) fun cx hP hN hO hF => ?_
  have hO : cx.own.map Prod.fst = [] := hO
  have hF : cx.F = [] := hF rfl
  show HT cx ⟨[(0, .agg [.dat (.sl (.int .i64)) a0.1, .dat (.sl (.int .i64)) a0.2]), (1, .one (.dat (.int .i64) a1))], [], 0⟩ _ _
  refine HT.reg1 [1, 2] [⟨none, .no⟩, ⟨none, .no⟩] ⟨[(1, .one (.dat (.int .i64) a1)), (2, .one (.ptr 0 0))], [(0, .box [.dat (.sl (.int .i64)) a0.1, .dat (.sl (.int .i64)) a0.2])], 1⟩ hP hN (by kernel_rfl) allNil ?_
  obtain ⟨v1', hT3, hr⟩ := of_bind hr
  refine HT.join (fun (v1 : Bool) => ⟨[(4, .one (.dat .bool v1))], [], 0⟩) (fun v => v = v1') (fun v1 hv2 => ?_) (fun cont => ?_)
  · subst hv2
    have hr := of_some hr
    subst hr
    exact HT.ret ⟨[.one (.dat .bool v1)], [], [], by kernel_rfl, by kernel_rfl, rfl, (.inl rfl), by kernel_rfl, trivial⟩
  · obtain ⟨y4, hc5, hT3⟩ := of_bind hT3
    rcases of_bif hT3 with ⟨hb6, hT3⟩ | ⟨hb6, hT3⟩
    · obtain ⟨y7, hc8, hT3⟩ := of_bind hT3
      rcases of_bif hT3 with ⟨hb9, hT3⟩ | ⟨hb9, hT3⟩
      · refine HT.reg (rs := [⟨none, .no⟩, ⟨none, .no⟩, ⟨none, .no⟩, ⟨none, .call [.imm (.sl (.int .i64)), .imm (.int .i64)] [⟨false, .bool, y4⟩] []⟩, ⟨none, .no⟩, ⟨some true, .no⟩, ⟨some true, .no⟩, ⟨some true, .no⟩, ⟨some true, .call [.imm (.sl (.int .i64)), .imm (.int .i64)] [⟨false, .bool, y7⟩] []⟩, ⟨none, .tv true⟩, ⟨none, .no⟩, ⟨some true, .no⟩, ⟨some true, .no⟩, ⟨some true, .no⟩, ⟨some true, .no⟩, ⟨none, .tv true⟩, ⟨none, .no⟩]) (st' := ⟨[(4, .one (.dat .bool (decide ((lenI a0.2) > (0 : Int))))), (20, .one (.dat .bool (decide ((lenI a0.2) > (0 : Int))))), (19, .one (.dat .bool (decide ((lenI a0.2) > (0 : Int))))), (18, .one (.dat (.int .i64) (lenI a0.2))), (17, .one (.dat (.sl (.int .i64)) a0.2)), (16, .one (.ptr 0 1)), (15, .one (.dat .bool y7)), (14, .one (.dat .bool y7)), (13, .one (.dat .bool y7)), (12, .one (.dat (.int .i64) a1)), (11, .one (.dat (.sl (.int .i64)) a0.2)), (10, .one (.ptr 0 1)), (9, .one (.dat .bool y4)), (8, .one (.dat .bool y4)), (7, .one (.dat (.int .i64) a1)), (6, .one (.dat (.sl (.int .i64)) a0.1)), (5, .one (.ptr 0 0)), (1, .one (.dat (.int .i64) a1)), (2, .one (.ptr 0 0))], [(0, .box [.dat (.sl (.int .i64)) a0.1, .dat (.sl (.int .i64)) a0.2])], 1⟩) hP hN (by kernel_rfl) (allCons (f136_ok hc5) (allCons hb6 (allCons hb6 (allCons hb6 (allCons hb6 (allCons (f136_ok hc8) (allCons hb6 (allCons hb9 (allCons hb9 (allCons hb9 (allCons hb9 (allCons hb9 allNil)))))))))))) (qThen ?_)
        exact (Le.cv (s := ⟨[], [], [], false⟩) (own := []) (ps := [(decide ((lenI a0.2) > (0 : Int))) = (decide ((lenI a0.2) > (0 : Int)))]) (st' := ⟨[(4, .one (.dat .bool (decide ((lenI a0.2) > (0 : Int)))))], [], 0⟩) hO (fun h => by cases h) (by kernel_rfl) ⟨rfl, trivial⟩).ht (cont (decide ((lenI a0.2) > (0 : Int))) (of_some hT3))
      · refine HT.reg (rs := [⟨none, .no⟩, ⟨none, .no⟩, ⟨none, .no⟩, ⟨none, .call [.imm (.sl (.int .i64)), .imm (.int .i64)] [⟨false, .bool, y4⟩] []⟩, ⟨none, .no⟩, ⟨some true, .no⟩, ⟨some true, .no⟩, ⟨some true, .no⟩, ⟨some true, .call [.imm (.sl (.int .i64)), .imm (.int .i64)] [⟨false, .bool, y7⟩] []⟩, ⟨none, .tv true⟩, ⟨none, .no⟩, ⟨some false, .no⟩, ⟨some false, .no⟩, ⟨some false, .no⟩, ⟨some false, .no⟩, ⟨none, .tv false⟩, ⟨none, .no⟩]) (st' := ⟨[(4, .one (.dat .bool false)), (20, .one (.dat .bool false)), (19, .und), (18, .und), (17, .und), (16, .und), (15, .one (.dat .bool y7)), (14, .one (.dat .bool y7)), (13, .one (.dat .bool y7)), (12, .one (.dat (.int .i64) a1)), (11, .one (.dat (.sl (.int .i64)) a0.2)), (10, .one (.ptr 0 1)), (9, .one (.dat .bool y4)), (8, .one (.dat .bool y4)), (7, .one (.dat (.int .i64) a1)), (6, .one (.dat (.sl (.int .i64)) a0.1)), (5, .one (.ptr 0 0)), (1, .one (.dat (.int .i64) a1)), (2, .one (.ptr 0 0))], [(0, .box [.dat (.sl (.int .i64)) a0.1, .dat (.sl (.int .i64)) a0.2])], 1⟩) hP hN (by kernel_rfl) (allCons (f136_ok hc5) (allCons hb6 (allCons hb6 (allCons hb6 (allCons hb6 (allCons (f136_ok hc8) (allCons hb6 (allCons hb9 (allCons hb9 (allCons hb9 (allCons hb9 (allCons hb9 allNil)))))))))))) (qThen ?_)
        exact (Le.cv (s := ⟨[], [], [], false⟩) (own := []) (ps := [false = false]) (st' := ⟨[(4, .one (.dat .bool false))], [], 0⟩) hO (fun h => by cases h) (by kernel_rfl) ⟨rfl, trivial⟩).ht (cont false (of_some hT3))
    · refine HT.reg (rs := [⟨none, .no⟩, ⟨none, .no⟩, ⟨none, .no⟩, ⟨none, .call [.imm (.sl (.int .i64)), .imm (.int .i64)] [⟨false, .bool, y4⟩] []⟩, ⟨none, .no⟩, ⟨some false, .no⟩, ⟨some false, .no⟩, ⟨some false, .no⟩, ⟨some false, .no⟩, ⟨none, .tv false⟩, ⟨none, .no⟩, ⟨some false, .no⟩, ⟨some false, .no⟩, ⟨some false, .no⟩, ⟨some false, .no⟩, ⟨none, .tv false⟩, ⟨none, .no⟩]) (st' := ⟨[(4, .one (.dat .bool false)), (20, .one (.dat .bool false)), (19, .und), (18, .und), (17, .und), (16, .und), (15, .one (.dat .bool false)), (14, .one (.dat .bool false)), (13, .und), (12, .und), (11, .und), (10, .und), (9, .one (.dat .bool y4)), (8, .one (.dat .bool y4)), (7, .one (.dat (.int .i64) a1)), (6, .one (.dat (.sl (.int .i64)) a0.1)), (5, .one (.ptr 0 0)), (1, .one (.dat (.int .i64) a1)), (2, .one (.ptr 0 0))], [(0, .box [.dat (.sl (.int .i64)) a0.1, .dat (.sl (.int .i64)) a0.2])], 1⟩) hP hN (by kernel_rfl) (allCons (f136_ok hc5) (allCons hb6 (allCons hb6 (allCons hb6 (allCons hb6 (allCons hb6 (allCons (rfl : false = false) (allCons (rfl : false = false) (allCons (rfl : false = false) (allCons (rfl : false = false) (allCons (rfl : false = false) allNil))))))))))) (qThen ?_)
      exact (Le.cv (s := ⟨[], [], [], false⟩) (own := []) (ps := [false = false]) (st' := ⟨[(4, .one (.dat .bool false))], [], 0⟩) hO (fun h => by cases h) (by kernel_rfl) ⟨rfl, trivial⟩).ht (cont false (of_some hT3))

noncomputable def spec_l07Go (a0 : Int × Int × List Int × List Bool) (a1 : Int) (a2 : Int) : Option (Int) :=
  guardP ((0 : Int) ≤ (wadd .i64 (wmul .i64 a1 a0.2.1) a2) ∧ (wadd .i64 (wmul .i64 a1 a0.2.1) a2) < lenI a0.2.2.1) (
    some (List.getD a0.2.2.1 (Int.toNat (wadd .i64 (wmul .i64 a1 a0.2.1) a2)) (0 : Int)))

theorem f148_ok {a0 : Int × Int × List Int × List Bool} {a1 : Int} {a2 : Int} {r : Int} (hr : spec_l07Go a0 a1 a2 = some r) : CallOK Try.prog 148 [.pimm (.st (.pair (.int .i64) (.pair (.int .i64) (.pair (.sl (.int .i64)) (.sl .bool))))) a0, .imm (.int .i64) a1, .imm (.int .i64) a2] [⟨false, (.int .i64), r⟩] [] := by
  unfold spec_l07Go at hr
  refine CallOK.of_body (ts := [(false, (.int .i64))]) Try.func148 rfl (by kernel_rfl) (Nat.le_of_ble_eq_true (by kernel_rfl)) fun cx hP hN hO hF => ?_
  have hO : cx.own.map Prod.fst = [] := hO
  have hF : cx.F = [] := hF rfl
  show HT cx ⟨[(0, .one (.ip (.st (.pair (.int .i64) (.pair (.int .i64) (.pair (.sl (.int .i64)) (.sl .bool))))) a0 0)), (1, .one (.dat (.int .i64) a1)), (2, .one (.dat (.int .i64) a2))], [], 0⟩ _ _
  refine HT.reg1 [0, 1, 2] [⟨none, .no⟩] ⟨[(0, .one (.ip (.st (.pair (.int .i64) (.pair (.int .i64) (.pair (.sl (.int .i64)) (.sl .bool))))) a0 0)), (1, .one (.dat (.int .i64) a1)), (2, .one (.dat (.int .i64) a2))], [], 0⟩ hP hN (by kernel_rfl) allNil ?_
  obtain ⟨hg1, hr⟩ := of_guard hr
  refine HT.drw1 [6] 12 [⟨⟨none, .no⟩, []⟩, ⟨⟨none, .no⟩, [0]⟩, ⟨⟨none, .no⟩, [0, 1]⟩, ⟨⟨none, .no⟩, [0, 1, 2]⟩, ⟨⟨none, .no⟩, []⟩, ⟨⟨none, .no⟩, []⟩, ⟨⟨none, .no⟩, [5]⟩, ⟨⟨none, .no⟩, [5, 6]⟩, ⟨⟨none, .no⟩, [5, 6, 7]⟩, ⟨⟨none, .no⟩, [4, 5, 6, 7, 8]⟩, ⟨⟨none, .no⟩, []⟩, ⟨⟨none, .no⟩, [4, 5, 6, 7, 8, 9, 10]⟩] [[0, 1, 2, 3, 4, 5, 6, 7, 8, 9, 10, 11], [0, 1, 2, 3, 4, 5, 6, 7, 8, 9, 10, 11, 12], [0, 1, 2, 3, 4, 5, 6, 7, 8, 9, 10, 11, 12, 13]] [⟨none, .no⟩, ⟨none, .no⟩, ⟨none, .no⟩] ⟨[(6, .one (.dat (.int .i64) (List.getD a0.2.2.1 (Int.toNat (wadd .i64 (wmul .i64 a1 a0.2.1) a2)) (0 : Int))))], [], 0⟩ hP hN (by kernel_rfl) (by kernel_rfl) (allCons hg1 allNil) ?_
  have hr := of_some hr
  subst hr
  exact HT.ret ⟨[.one (.dat (.int .i64) (List.getD a0.2.2.1 (Int.toNat (wadd .i64 (wmul .i64 a1 a0.2.1) a2)) (0 : Int)))], [], [], by kernel_rfl, by kernel_rfl, rfl, (.inl rfl), by kernel_rfl, trivial⟩

noncomputable def impl_Plain_to (a0 : Int × Int × List Int × List Bool) (a1 : Int) (a2 : Int) : Option (Int) :=
  guardP ((0 : Int) ≤ (wadd .i64 (wmul .i64 a1 a0.2.1) a2) ∧ (wadd .i64 (wmul .i64 a1 a0.2.1) a2) < lenI a0.2.2.1) (
    some (List.getD a0.2.2.1 (Int.toNat (wadd .i64 (wmul .i64 a1 a0.2.1) a2)) (0 : Int)))

theorem f151_ok {a0 : Int × Int × List Int × List Bool} {a1 : Int} {a2 : Int} {r : Int} (hr : impl_Plain_to a0 a1 a2 = some r) : CallOK Try.prog 151 [.imm (.st (.pair (.int .i64) (.pair (.int .i64) (.pair (.sl (.int .i64)) (.sl .bool))))) a0, .imm (.int .i64) a1, .imm (.int .i64) a2] [⟨false, (.int .i64), r⟩] [] := by
  unfold impl_Plain_to at hr
  refine CallOK.of_body (ts := [(false, (.int .i64))]) Try.func151 rfl (by kernel_rfl) (Nat.le_of_ble_eq_true (by kernel_rfl)) fun cx hP hN hO hF => ?_
  have hO : cx.own.map Prod.fst = [] := hO
  have hF : cx.F = [] := hF rfl
  show HT cx ⟨[(0, .agg [.dat (.int .i64) a0.1, .dat (.int .i64) a0.2.1, .dat (.sl (.int .i64)) a0.2.2.1, .dat (.sl .bool) a0.2.2.2]), (1, .one (.dat (.int .i64) a1)), (2, .one (.dat (.int .i64) a2))], [], 0⟩ _ _
  refine HT.reg1 [1, 2, 3] [⟨none, .no⟩, ⟨none, .no⟩] ⟨[(1, .one (.dat (.int .i64) a1)), (2, .one (.dat (.int .i64) a2)), (3, .one (.ptr 0 0))], [(0, .box [.dat (.int .i64) a0.1, .dat (.int .i64) a0.2.1, .dat (.sl (.int .i64)) a0.2.2.1, .dat (.sl .bool) a0.2.2.2])], 1⟩ hP hN (by kernel_rfl) allNil ?_
  obtain ⟨hg1, hr⟩ := of_guard hr
  refine HT.reg1 [6] [⟨none, .no⟩, ⟨none, .no⟩, ⟨none, .no⟩, ⟨none, .no⟩, ⟨none, .no⟩, ⟨none, .no⟩, ⟨none, .no⟩, ⟨none, .no⟩, ⟨none, .no⟩, ⟨none, .no⟩, ⟨none, .no⟩] ⟨[(6, .one (.dat (.int .i64) (List.getD a0.2.2.1 (Int.toNat (wadd .i64 (wmul .i64 a1 a0.2.1) a2)) (0 : Int))))], [(0, .box [.dat (.int .i64) a0.1, .dat (.int .i64) a0.2.1, .dat (.sl (.int .i64)) a0.2.2.1, .dat (.sl .bool) a0.2.2.2])], 1⟩ hP hN (by kernel_rfl) (allCons hg1 allNil) ?_
  have hr := of_some hr
  subst hr
  exact HT.ret ⟨[.one (.dat (.int .i64) (List.getD a0.2.2.1 (Int.toNat (wadd .i64 (wmul .i64 a1 a0.2.1) a2)) (0 : Int)))], [], [], by kernel_rfl, by kernel_rfl, rfl, (.inl rfl), by kernel_rfl, trivial⟩

end Go.Proofs
