import Derived.Test.YtapgmbilojbacaaLibC
import Derived.Test.YtapgmbilojbacaaProg
set_option linter.unusedVariables false
set_option linter.unusedSimpArgs false
set_option linter.unusedSectionVars false
/-
  Functions as plain functions, and their contracts. Printed by a program.
-/
namespace Go.Proofs
open Go.Ide

noncomputable def laws_b10Long (a0 : List Int) (a1 : List Int) : Option (Bool) :=
  (show Option (Bool) from
    bif (decide ((lenI a0) > (1048576 : Int))) then
      some true
    else
      some (decide ((lenI a1) > (1048576 : Int)))).bind fun v1 =>
  some v1

theorem f11_ok {a0 : List Int} {a1 : List Int} {r : Bool} (hr : laws_b10Long a0 a1 = some r) : CallOK Try.prog 11 [.imm (.sl (.int .u8)) a0, .imm (.sl (.int .u8)) a1] [⟨false, .bool, r⟩] [] := by
  unfold laws_b10Long at hr
  refine CallOK.of_body (ts := [(false, .bool)]) Try.func11 rfl (by kernel_rfl) (Nat.le_of_ble_eq_true (by kernel_rfl)) fun cx hP hN hO hF => ?_
  have hO : cx.own.map Prod.fst = [] := hO
  have hX := CxIs.mk hP hN hO
  have hF := hF rfl
  show HT cx ⟨[(0, .one (.dat (.sl (.int .u8)) a0)), (1, .one (.dat (.sl (.int .u8)) a1))], [], 0⟩ _ _
  refine HT.rg2 [oH] ⟨[(0, .one (.dat (.sl (.int .u8)) a0)), (1, .one (.dat (.sl (.int .u8)) a1))], [], 0⟩ hX (by kernel_rfl) allNil ?_
  obtain ⟨v1', hT3, hr⟩ := of_bind hr
  refine HT.join (fun (v1 : Bool) => ⟨[(4, bV v1)], [], 0⟩) (fun v => v = v1') (fun v1 hv2 => ?_) (fun cont => ?_)
  · subst hv2
    have hr := of_some hr
    subst hr
    exact HT.ret ⟨[bV v1], [], [], by kernel_rfl, by kernel_rfl, rfl, by kernel_rfl, by kernel_rfl, trivial⟩
  · rcases of_bif hT3 with ⟨hb4, hT3⟩ | ⟨hb4, hT3⟩
    · exact HT.rgK [oH, oH, oH, oH, ⟨some true, .no⟩, ⟨some true, .no⟩, ⟨some true, .no⟩, ⟨none, .tv true⟩, oH] [] [] hX (by kernel_rfl) (allCons hb4 (allCons hb4 (allCons hb4 (allCons hb4 allNil)))) (fun _ h => (qThen (h.ht (cont true (of_some hT3)))))
    · exact HT.rgK [oH, oH, oH, oH, ⟨some false, .no⟩, ⟨some false, .no⟩, ⟨some false, .no⟩, ⟨none, .tv false⟩, oH] [] [] hX (by kernel_rfl) (allCons hb4 (allCons hb4 (allCons hb4 (allCons hb4 allNil)))) (fun _ h => (qThen (h.ht (cont (decide ((lenI a1) > (1048576 : Int))) (of_some hT3)))))

noncomputable def spec_l00From (a0 : List Int) : Option ((List Int × Int × Int)) :=
  some (a0, (0 : Int), (0 : Int))

theorem f93_ok {a0 : List Int} {r : (List Int × Int × Int)} (hr : spec_l00From a0 = some r) : CallOK Try.prog 93 [.imm (.sl (.int .u8)) a0] [⟨true, (.bx (.st (.pair (.sl (.int .u8)) (.pair tI (.int .u64))))), [r]⟩] [] := by
  unfold spec_l00From at hr
  refine CallOK.of_body (ts := [(true, (.bx (.st (.pair (.sl (.int .u8)) (.pair tI (.int .u64))))))]) Try.func93 rfl (by kernel_rfl) (Nat.le_of_ble_eq_true (by kernel_rfl)) fun cx hP hN hO hF => ?_
  have hO : cx.own.map Prod.fst = [] := hO
  have hX := CxIs.mk hP hN hO
  have hF := hF rfl
  show HT cx ⟨[(0, .one (.dat (.sl (.int .u8)) a0))], [], 0⟩ _ _
  refine HT.rg2 [oH] ⟨[(0, .one (.dat (.sl (.int .u8)) a0))], [], 0⟩ hX (by kernel_rfl) allNil ?_
  refine HT.rg2 [oH, oH, ⟨none, .ty (.st (.pair (.sl (.int .u8)) (.pair tI (.int .u64))))⟩, oH] ⟨[(2, .one (.elp 0 0 3 0))], [(0, .seq (.st (.pair (.sl (.int .u8)) (.pair tI (.int .u64)))) ([(a0, (0 : Int), (0 : Int))]))], 1⟩ hX (by kernel_rfl) allNil ?_
  have hr := of_some hr
  subst hr
  exact HT.ret ⟨[.one (.elp 0 0 3 0)], [0], [], by kernel_rfl, by kernel_rfl, rfl, by kernel_rfl, by kernel_rfl, trivial⟩

noncomputable def spec_l00Src_next (a0 : List Int × Int × Int) : Option (Int × (List Int × Int × Int)) :=
  (show Option (Int) from
    bif (decide (a0.2.1 < (lenI a0.1))) then
      guardP ((0 : Int) ≤ a0.2.1 ∧ a0.2.1 < lenI a0.1) (
        some (IntKind.wrap .i64 (List.getD a0.1 (Int.toNat a0.2.1) (0 : Int))))
    else
      some (0 : Int)).bind fun v1 =>
  bif (decide ((wadd .i64 a0.2.1 (1 : Int)) ≤ (lenI a0.1))) then
    some (v1, a0.1, (wadd .i64 a0.2.1 (1 : Int)), (wadd .u64 (wadd .u64 (wmul .u64 a0.2.2 (6364136223846793005 : Int)) (IntKind.wrap .u64 v1)) (1442695040888963407 : Int)))
  else
    (some (IntKind.wrap .i64 (IntKind.wrap .u64 (BitVec.ofInt (IntKind.bits .u64) (Int.fdiv (wadd .u64 (wadd .u64 (wmul .u64 a0.2.2 (6364136223846793005 : Int)) (IntKind.wrap .u64 v1)) (1442695040888963407 : Int)) (2 ^ (min (Int.toNat (40 : Int)) (IntKind.bits .u64)))) &&& BitVec.ofInt (IntKind.bits .u64) (255 : Int)).toNat))).bind fun q5 =>
    some (q5, a0.1, (wadd .i64 a0.2.1 (1 : Int)), (wadd .u64 (wadd .u64 (wmul .u64 a0.2.2 (6364136223846793005 : Int)) (IntKind.wrap .u64 v1)) (1442695040888963407 : Int)))

theorem f192_ok {a0 : List Int × Int × Int} {r : Int × (List Int × Int × Int)} (hr : spec_l00Src_next a0 = some r) : CallOK Try.prog 192 [.own (.bx (.st (.pair (.sl (.int .u8)) (.pair tI (.int .u64))))) [a0]] [⟨false, tI, r.1⟩] [⟨(.bx (.st (.pair (.sl (.int .u8)) (.pair tI (.int .u64))))), [r.2]⟩] := by
  unfold spec_l00Src_next at hr
  refine CallOK.of_body (ts := [(false, tI)]) Try.func192 rfl (by kernel_rfl) (Nat.le_of_ble_eq_true (by kernel_rfl)) fun cx hP hN hO hF => ?_
  have hO : cx.own.map Prod.fst = [0] := hO
  have hX := CxIs.mk hP hN hO
  have hF := hF rfl
  show HT cx ⟨[(0, .one (.elp 0 0 3 0))], [(0, .seq (.st (.pair (.sl (.int .u8)) (.pair tI (.int .u64)))) ([a0]))], 1⟩ _ _
  refine HT.rg2 [oH] ⟨[(0, .one (.elp 0 0 3 0))], [(0, .seq (.st (.pair (.sl (.int .u8)) (.pair tI (.int .u64)))) ([a0]))], 1⟩ hX (by kernel_rfl) allNil ?_
  refine HT.rg2 [oH] ⟨[(0, .one (.elp 0 0 3 0)), (3, iV (0 : Int))], [(0, .seq (.st (.pair (.sl (.int .u8)) (.pair tI (.int .u64)))) ([a0]))], 1⟩ hX (by kernel_rfl) allNil ?_
  obtain ⟨v1', hT3, hr⟩ := of_bind hr
  refine HT.join (fun (v1 : Int) => ⟨[(0, .one (.elp 0 0 3 0)), (3, iV v1)], [(0, .seq (.st (.pair (.sl (.int .u8)) (.pair tI (.int .u64)))) ([a0]))], 1⟩) (fun v => v = v1') (fun v1 hv2 => ?_) (fun cont => ?_)
  · subst hv2
    refine HT.rg2 (oHs 8) ⟨[(0, .one (.elp 0 0 3 0)), (3, iV v1)], [(0, .seq (.st (.pair (.sl (.int .u8)) (.pair tI (.int .u64)))) ([(a0.1, (wadd .i64 a0.2.1 (1 : Int)), a0.2.2)]))], 1⟩ hX (by kernel_rfl) (allCons (show 0 < List.length [a0] from Nat.zero_lt_one) (allCons (show 0 < List.length [a0] from Nat.zero_lt_one) allNil)) ?_
    refine HT.rg2 (oHs 13) ⟨[(0, .one (.elp 0 0 3 0)), (3, iV v1)], [(0, .seq (.st (.pair (.sl (.int .u8)) (.pair tI (.int .u64)))) ([(a0.1, (wadd .i64 a0.2.1 (1 : Int)), (wadd .u64 (wadd .u64 (wmul .u64 a0.2.2 (6364136223846793005 : Int)) (IntKind.wrap .u64 v1)) (1442695040888963407 : Int)))]))], 1⟩ hX (by kernel_rfl) (allCons (show 0 < List.length [(a0.1, (wadd .i64 a0.2.1 (1 : Int)), a0.2.2)] from Nat.zero_lt_one) (allCons (show 0 < List.length [(a0.1, (wadd .i64 a0.2.1 (1 : Int)), a0.2.2)] from Nat.zero_lt_one) allNil)) ?_
    refine HT.seq ?_
    refine HT.dr2 9 [⟨oH, []⟩, ⟨oH, [0]⟩, ⟨oH, [0, 1]⟩, ⟨oH, [0, 1, 2]⟩, ⟨oH, []⟩, ⟨oH, [4]⟩, ⟨oH, [4, 5]⟩, ⟨oH, [4, 5, 6]⟩, ⟨oH, [4, 5, 6, 7]⟩] [[0, 1, 2, 3, 4, 5, 6, 7, 8]] [oH] ⟨[(0, .one (.elp 0 0 3 0)), (3, iV v1), (53, bV (decide ((wadd .i64 a0.2.1 (1 : Int)) ≤ (lenI a0.1))))], [(0, .seq (.st (.pair (.sl (.int .u8)) (.pair tI (.int .u64)))) ([(a0.1, (wadd .i64 a0.2.1 (1 : Int)), (wadd .u64 (wadd .u64 (wmul .u64 a0.2.2 (6364136223846793005 : Int)) (IntKind.wrap .u64 v1)) (1442695040888963407 : Int)))]))], 1⟩ hX (by kernel_rfl) (by kernel_rfl) (allCons (show 0 < List.length [(a0.1, (wadd .i64 a0.2.1 (1 : Int)), (wadd .u64 (wadd .u64 (wmul .u64 a0.2.2 (6364136223846793005 : Int)) (IntKind.wrap .u64 v1)) (1442695040888963407 : Int)))] from Nat.zero_lt_one) (allCons (show 0 < List.length [(a0.1, (wadd .i64 a0.2.1 (1 : Int)), (wadd .u64 (wadd .u64 (wmul .u64 a0.2.2 (6364136223846793005 : Int)) (IntKind.wrap .u64 v1)) (1442695040888963407 : Int)))] from Nat.zero_lt_one) allNil)) ?_
    rcases of_bif hr with ⟨hb4, hr⟩ | ⟨hb4, hr⟩
    · refine HT.cond1 rfl hb4 ?_
      refine HT.rg2 (oHs 2) ⟨[(2, iV v1)], [(0, .seq (.st (.pair (.sl (.int .u8)) (.pair tI (.int .u64)))) ([(a0.1, (wadd .i64 a0.2.1 (1 : Int)), (wadd .u64 (wadd .u64 (wmul .u64 a0.2.2 (6364136223846793005 : Int)) (IntKind.wrap .u64 v1)) (1442695040888963407 : Int)))]))], 1⟩ hX (by kernel_rfl) allNil ?_
      have hr := of_some hr
      subst hr
      exact HT.ret (qThenR ⟨[iV v1], [], [List.length ([(a0.1, (wadd .i64 a0.2.1 (1 : Int)), (wadd .u64 (wadd .u64 (wmul .u64 a0.2.2 (6364136223846793005 : Int)) (IntKind.wrap .u64 v1)) (1442695040888963407 : Int)))]) = List.length [a0]], by kernel_rfl, by kernel_rfl, rfl, by kernel_rfl, by kernel_rfl, ⟨(show List.length ([(a0.1, (wadd .i64 a0.2.1 (1 : Int)), (wadd .u64 (wadd .u64 (wmul .u64 a0.2.2 (6364136223846793005 : Int)) (IntKind.wrap .u64 v1)) (1442695040888963407 : Int)))]) = List.length [a0] from rfl), trivial⟩⟩)
    · refine HT.cond0 rfl hb4 ?_
      refine HT.skip (qThen ?_)
      refine HT.rg2 (oHs 8) ⟨[(2, iV (IntKind.wrap .i64 (IntKind.wrap .u64 (BitVec.ofInt (IntKind.bits .u64) (Int.fdiv (wadd .u64 (wadd .u64 (wmul .u64 a0.2.2 (6364136223846793005 : Int)) (IntKind.wrap .u64 v1)) (1442695040888963407 : Int)) (2 ^ (min (Int.toNat (40 : Int)) (IntKind.bits .u64)))) &&& BitVec.ofInt (IntKind.bits .u64) (255 : Int)).toNat)))], [(0, .seq (.st (.pair (.sl (.int .u8)) (.pair tI (.int .u64)))) ([(a0.1, (wadd .i64 a0.2.1 (1 : Int)), (wadd .u64 (wadd .u64 (wmul .u64 a0.2.2 (6364136223846793005 : Int)) (IntKind.wrap .u64 v1)) (1442695040888963407 : Int)))]))], 1⟩ hX (by kernel_rfl) (allCons (show 0 < List.length [(a0.1, (wadd .i64 a0.2.1 (1 : Int)), (wadd .u64 (wadd .u64 (wmul .u64 a0.2.2 (6364136223846793005 : Int)) (IntKind.wrap .u64 v1)) (1442695040888963407 : Int)))] from Nat.zero_lt_one) (allCons (show (0 : Int) ≤ (40 : Int) from by decide) allNil)) ?_
      obtain ⟨q5, hq6, hr⟩ := of_bind hr
      have hq6 := of_some2 hq6
      refine (Le.cv (s := ⟨[(0, 0)], [], [], false⟩) (own := [0]) (ps := [q5 = (IntKind.wrap .i64 (IntKind.wrap .u64 (BitVec.ofInt (IntKind.bits .u64) (Int.fdiv (wadd .u64 (wadd .u64 (wmul .u64 a0.2.2 (6364136223846793005 : Int)) (IntKind.wrap .u64 v1)) (1442695040888963407 : Int)) (2 ^ (min (Int.toNat (40 : Int)) (IntKind.bits .u64)))) &&& BitVec.ofInt (IntKind.bits .u64) (255 : Int)).toNat)), [(a0.1, (wadd .i64 a0.2.1 (1 : Int)), (wadd .u64 (wadd .u64 (wmul .u64 a0.2.2 (6364136223846793005 : Int)) (IntKind.wrap .u64 v1)) (1442695040888963407 : Int)))] = [(a0.1, (wadd .i64 a0.2.1 (1 : Int)), (wadd .u64 (wadd .u64 (wmul .u64 a0.2.2 (6364136223846793005 : Int)) (IntKind.wrap .u64 v1)) (1442695040888963407 : Int)))]]) (st' := ⟨[(2, iV q5)], [(0, .seq (.st (.pair (.sl (.int .u8)) (.pair tI (.int .u64)))) ([(a0.1, (wadd .i64 a0.2.1 (1 : Int)), (wadd .u64 (wadd .u64 (wmul .u64 a0.2.2 (6364136223846793005 : Int)) (IntKind.wrap .u64 v1)) (1442695040888963407 : Int)))]))], 1⟩) hO (fun h => by cases h) (by kernel_rfl) ⟨hq6, rfl, trivial⟩).ht ?_
      have hr := of_some hr
      subst hr
      exact HT.ret ⟨[iV q5], [], [List.length ([(a0.1, (wadd .i64 a0.2.1 (1 : Int)), (wadd .u64 (wadd .u64 (wmul .u64 a0.2.2 (6364136223846793005 : Int)) (IntKind.wrap .u64 v1)) (1442695040888963407 : Int)))]) = List.length [a0]], by kernel_rfl, by kernel_rfl, rfl, by kernel_rfl, by kernel_rfl, ⟨(show List.length ([(a0.1, (wadd .i64 a0.2.1 (1 : Int)), (wadd .u64 (wadd .u64 (wmul .u64 a0.2.2 (6364136223846793005 : Int)) (IntKind.wrap .u64 v1)) (1442695040888963407 : Int)))]) = List.length [a0] from rfl), trivial⟩⟩
  · refine HT.dr2 9 [⟨oH, []⟩, ⟨oH, [0]⟩, ⟨oH, [0, 1]⟩, ⟨oH, [0, 1, 2]⟩, ⟨oH, []⟩, ⟨oH, [4]⟩, ⟨oH, [4, 5]⟩, ⟨oH, [4, 5, 6]⟩, ⟨oH, [4, 5, 6, 7]⟩] [[0, 1, 2, 3, 4, 5, 6, 7, 8]] [oH] ⟨[(0, .one (.elp 0 0 3 0)), (3, iV (0 : Int)), (13, bV (decide (a0.2.1 < (lenI a0.1))))], [(0, .seq (.st (.pair (.sl (.int .u8)) (.pair tI (.int .u64)))) ([a0]))], 1⟩ hX (by kernel_rfl) (by kernel_rfl) (allCons (show 0 < List.length [a0] from Nat.zero_lt_one) (allCons (show 0 < List.length [a0] from Nat.zero_lt_one) allNil)) ?_
    rcases of_bif hT3 with ⟨hb7, hT3⟩ | ⟨hb7, hT3⟩
    · refine HT.cond1 rfl hb7 ?_
      obtain ⟨hg8, hT3⟩ := of_guard hT3
      exact HT.drK 8 [⟨oH, []⟩, ⟨oH, [0]⟩, ⟨oH, [0, 1]⟩, ⟨oH, [0, 1, 2]⟩, ⟨oH, []⟩, ⟨oH, [4]⟩, ⟨oH, [4, 5]⟩, ⟨oH, [4, 5, 6]⟩] [[0, 1, 2, 3, 4, 5, 6, 7], [0, 1, 2, 3, 4, 5, 6, 7, 8], [0, 1, 2, 3, 4, 5, 6, 7, 8, 9], [0, 1, 2, 3, 4, 5, 6, 7, 8, 9, 10]] (oHs 4) [(0, 0)] [] hX (by kernel_rfl) (by kernel_rfl) (allCons (show 0 < List.length [a0] from Nat.zero_lt_one) (allCons (show 0 < List.length [a0] from Nat.zero_lt_one) (allCons hg8 allNil))) (fun _ h => (qThen (h.ht (cont (IntKind.wrap .i64 (List.getD a0.1 (Int.toNat a0.2.1) (0 : Int))) (of_some hT3)))))
    · refine HT.cond0 rfl hb7 ?_
      refine HT.skip (qThen ?_)
      exact (Le.re [(0, 0)] [] hX (by kernel_rfl)).ht (cont (0 : Int) (of_some hT3))

noncomputable def spec_l00Src_pick (a0 : List Int × Int × Int) (a1 : Int) : Option (Int × (List Int × Int × Int)) :=
  bif (decide (a1 ≤ (1 : Int))) then
    some ((0 : Int), a0)
  else
    (spec_l00Src_next a0).bind fun y2 =>
    (show Option (Int × (List Int × Int × Int)) from
      bif (decide (a1 > (200 : Int))) then
        (spec_l00Src_next y2.2).bind fun y9 =>
        some ((wadd .i64 (wmul .i64 y2.1 (256 : Int)) y9.1), y9.2)
      else
        some (y2.1, y2.2)).bind fun v4 =>
    guardP (a1 ≠ 0) (
      some ((Int.tmod v4.1 a1), v4.2))

theorem f94_ok {a0 : List Int × Int × Int} {a1 : Int} {r : Int × (List Int × Int × Int)} (hr : spec_l00Src_pick a0 a1 = some r) : CallOK Try.prog 94 [.own (.bx (.st (.pair (.sl (.int .u8)) (.pair tI (.int .u64))))) [a0], .imm tI a1] [⟨false, tI, r.1⟩] [⟨(.bx (.st (.pair (.sl (.int .u8)) (.pair tI (.int .u64))))), [r.2]⟩] := by
  unfold spec_l00Src_pick at hr
  refine CallOK.of_body (ts := [(false, tI)]) Try.func94 rfl (by kernel_rfl) (Nat.le_of_ble_eq_true (by kernel_rfl)) fun cx hP hN hO hF => ?_
  have hO : cx.own.map Prod.fst = [0] := hO
  have hX := CxIs.mk hP hN hO
  have hF := hF rfl
  show HT cx ⟨[(0, .one (.elp 0 0 3 0)), (1, iV a1)], [(0, .seq (.st (.pair (.sl (.int .u8)) (.pair tI (.int .u64)))) ([a0]))], 1⟩ _ _
  refine HT.rg2 [oH] ⟨[(0, .one (.elp 0 0 3 0)), (1, iV a1)], [(0, .seq (.st (.pair (.sl (.int .u8)) (.pair tI (.int .u64)))) ([a0]))], 1⟩ hX (by kernel_rfl) allNil ?_
  refine HT.seq ?_
  refine HT.rg2 (oHs 2) ⟨[(0, .one (.elp 0 0 3 0)), (1, iV a1), (7, bV (decide (a1 ≤ (1 : Int))))], [(0, .seq (.st (.pair (.sl (.int .u8)) (.pair tI (.int .u64)))) ([a0]))], 1⟩ hX (by kernel_rfl) allNil ?_
  rcases of_bif hr with ⟨hb1, hr⟩ | ⟨hb1, hr⟩
  · refine HT.cond1 rfl hb1 ?_
    refine HT.rg2 [oH] ⟨[(4, iV (0 : Int))], [(0, .seq (.st (.pair (.sl (.int .u8)) (.pair tI (.int .u64)))) ([a0]))], 1⟩ hX (by kernel_rfl) allNil ?_
    have hr := of_some hr
    subst hr
    exact HT.ret (qThenR ⟨[iV (0 : Int)], [], [List.length ([a0]) = List.length [a0]], by kernel_rfl, by kernel_rfl, rfl, by kernel_rfl, by kernel_rfl, ⟨(show List.length ([a0]) = List.length [a0] from rfl), trivial⟩⟩)
  · refine HT.cond0 rfl hb1 ?_
    refine HT.skip (qThen ?_)
    obtain ⟨y2, hc3, hr⟩ := of_bind hr
    refine HT.rg2 [oH, ⟨none, .call [.own (.bx (.st (.pair (.sl (.int .u8)) (.pair tI (.int .u64)))))] [⟨false, tI, y2.1⟩] [⟨(.bx (.st (.pair (.sl (.int .u8)) (.pair tI (.int .u64))))), [y2.2]⟩]⟩, oH] ⟨[(0, .one (.elp 0 0 3 0)), (1, iV a1), (5, iV y2.1)], [(0, .seq (.st (.pair (.sl (.int .u8)) (.pair tI (.int .u64)))) ([y2.2]))], 1⟩ hX (by kernel_rfl) (allCons (f192_ok hc3) allNil) ?_
    obtain ⟨v4', hT6, hr⟩ := of_bind hr
    refine HT.join (fun (v4 : Int × (List Int × Int × Int)) => ⟨[(1, iV a1), (5, iV v4.1)], [(0, .seq (.st (.pair (.sl (.int .u8)) (.pair tI (.int .u64)))) ([v4.2]))], 1⟩) (fun v => v = v4') (fun v4 hv5 => ?_) (fun cont => ?_)
    · subst hv5
      obtain ⟨hg7, hr⟩ := of_guard hr
      refine HT.rg2 (oHs 4) ⟨[(4, iV (Int.tmod v4.1 a1))], [(0, .seq (.st (.pair (.sl (.int .u8)) (.pair tI (.int .u64)))) ([v4.2]))], 1⟩ hX (by kernel_rfl) (allCons hg7 allNil) ?_
      have hr := of_some hr
      subst hr
      exact HT.ret ⟨[iV (Int.tmod v4.1 a1)], [], [List.length ([v4.2]) = List.length [a0]], by kernel_rfl, by kernel_rfl, rfl, by kernel_rfl, by kernel_rfl, ⟨(show List.length ([v4.2]) = List.length [a0] from rfl), trivial⟩⟩
    · refine HT.rg2 (oHs 2) ⟨[(0, .one (.elp 0 0 3 0)), (1, iV a1), (5, iV y2.1), (11, bV (decide (a1 > (200 : Int))))], [(0, .seq (.st (.pair (.sl (.int .u8)) (.pair tI (.int .u64)))) ([y2.2]))], 1⟩ hX (by kernel_rfl) allNil ?_
      rcases of_bif hT6 with ⟨hb8, hT6⟩ | ⟨hb8, hT6⟩
      · refine HT.cond1 rfl hb8 ?_
        obtain ⟨y9, hc10, hT6⟩ := of_bind hT6
        exact HT.rgK [oH, oH, oH, ⟨none, .call [.own (.bx (.st (.pair (.sl (.int .u8)) (.pair tI (.int .u64)))))] [⟨false, tI, y9.1⟩] [⟨(.bx (.st (.pair (.sl (.int .u8)) (.pair tI (.int .u64))))), [y9.2]⟩]⟩, oH, oH] [(0, 0)] [] hX (by kernel_rfl) (allCons (f192_ok hc10) allNil) (fun _ h => (qThen (h.ht (cont ((wadd .i64 (wmul .i64 y2.1 (256 : Int)) y9.1), y9.2) (of_some hT6)))))
      · refine HT.cond0 rfl hb8 ?_
        refine HT.skip (qThen ?_)
        exact (Le.re [(0, 0)] [] hX (by kernel_rfl)).ht (cont (y2.1, y2.2) (of_some hT6))

noncomputable def spec_l00Src_text (a0 : List Int × Int × Int) (a1 : List (List UInt8)) : Option (List UInt8 × (List Int × Int × Int)) :=
  (spec_l00Src_pick a0 (lenI a1)).bind fun y1 =>
  guardP ((0 : Int) ≤ y1.1 ∧ y1.1 < lenI a1) (
    some ((List.getD a1 (Int.toNat y1.1) ([] : List UInt8)), y1.2))

theorem f95_ok {a0 : List Int × Int × Int} {a1 : List (List UInt8)} {r : List UInt8 × (List Int × Int × Int)} (hr : spec_l00Src_text a0 a1 = some r) : CallOK Try.prog 95 [.own (.bx (.st (.pair (.sl (.int .u8)) (.pair tI (.int .u64))))) [a0], .imm (.sl .str) a1] [⟨false, .str, r.1⟩] [⟨(.bx (.st (.pair (.sl (.int .u8)) (.pair tI (.int .u64))))), [r.2]⟩] := by
  unfold spec_l00Src_text at hr
  refine CallOK.of_body (ts := [(false, .str)]) Try.func95 rfl (by kernel_rfl) (Nat.le_of_ble_eq_true (by kernel_rfl)) fun cx hP hN hO hF => ?_
  have hO : cx.own.map Prod.fst = [0] := hO
  have hX := CxIs.mk hP hN hO
  have hF := hF rfl
  show HT cx ⟨[(0, .one (.elp 0 0 3 0)), (1, .one (.dat (.sl .str) a1))], [(0, .seq (.st (.pair (.sl (.int .u8)) (.pair tI (.int .u64)))) ([a0]))], 1⟩ _ _
  refine HT.rg2 [oH] ⟨[(0, .one (.elp 0 0 3 0)), (1, .one (.dat (.sl .str) a1))], [(0, .seq (.st (.pair (.sl (.int .u8)) (.pair tI (.int .u64)))) ([a0]))], 1⟩ hX (by kernel_rfl) allNil ?_
  obtain ⟨y1, hc2, hr⟩ := of_bind hr
  obtain ⟨hg3, hr⟩ := of_guard hr
  refine HT.rg2 [oH, oH, oH, oH, ⟨none, .call [.own (.bx (.st (.pair (.sl (.int .u8)) (.pair tI (.int .u64))))), .imm tI] [⟨false, tI, y1.1⟩] [⟨(.bx (.st (.pair (.sl (.int .u8)) (.pair tI (.int .u64))))), [y1.2]⟩]⟩, oH, oH, oH] ⟨[(4, .one (.dat .str (List.getD a1 (Int.toNat y1.1) ([] : List UInt8))))], [(0, .seq (.st (.pair (.sl (.int .u8)) (.pair tI (.int .u64)))) ([y1.2]))], 1⟩ hX (by kernel_rfl) (allCons (f94_ok hc2) (allCons hg3 allNil)) ?_
  have hr := of_some hr
  subst hr
  exact HT.ret ⟨[.one (.dat .str (List.getD a1 (Int.toNat y1.1) ([] : List UInt8)))], [], [List.length ([y1.2]) = List.length [a0]], by kernel_rfl, by kernel_rfl, rfl, by kernel_rfl, by kernel_rfl, ⟨(show List.length ([y1.2]) = List.length [a0] from rfl), trivial⟩⟩

noncomputable def spec_l00Src_one (a0 : List Int × Int × Int) (a1 : Int) : Option (Bool × (List Int × Int × Int)) :=
  (spec_l00Src_pick a0 a1).bind fun y1 =>
  some ((y1.1 == (0 : Int)), y1.2)

theorem f193_ok {a0 : List Int × Int × Int} {a1 : Int} {r : Bool × (List Int × Int × Int)} (hr : spec_l00Src_one a0 a1 = some r) : CallOK Try.prog 193 [.own (.bx (.st (.pair (.sl (.int .u8)) (.pair tI (.int .u64))))) [a0], .imm tI a1] [⟨false, .bool, r.1⟩] [⟨(.bx (.st (.pair (.sl (.int .u8)) (.pair tI (.int .u64))))), [r.2]⟩] := by
  unfold spec_l00Src_one at hr
  refine CallOK.of_body (ts := [(false, .bool)]) Try.func193 rfl (by kernel_rfl) (Nat.le_of_ble_eq_true (by kernel_rfl)) fun cx hP hN hO hF => ?_
  have hO : cx.own.map Prod.fst = [0] := hO
  have hX := CxIs.mk hP hN hO
  have hF := hF rfl
  show HT cx ⟨[(0, .one (.elp 0 0 3 0)), (1, iV a1)], [(0, .seq (.st (.pair (.sl (.int .u8)) (.pair tI (.int .u64)))) ([a0]))], 1⟩ _ _
  refine HT.rg2 [oH] ⟨[(0, .one (.elp 0 0 3 0)), (1, iV a1)], [(0, .seq (.st (.pair (.sl (.int .u8)) (.pair tI (.int .u64)))) ([a0]))], 1⟩ hX (by kernel_rfl) allNil ?_
  obtain ⟨y1, hc2, hr⟩ := of_bind hr
  refine HT.rg2 [oH, oH, ⟨none, .call [.own (.bx (.st (.pair (.sl (.int .u8)) (.pair tI (.int .u64))))), .imm tI] [⟨false, tI, y1.1⟩] [⟨(.bx (.st (.pair (.sl (.int .u8)) (.pair tI (.int .u64))))), [y1.2]⟩]⟩, oH, oH] ⟨[(4, bV (y1.1 == (0 : Int)))], [(0, .seq (.st (.pair (.sl (.int .u8)) (.pair tI (.int .u64)))) ([y1.2]))], 1⟩ hX (by kernel_rfl) (allCons (f94_ok hc2) allNil) ?_
  have hr := of_some hr
  subst hr
  exact HT.ret ⟨[bV (y1.1 == (0 : Int))], [], [List.length ([y1.2]) = List.length [a0]], by kernel_rfl, by kernel_rfl, rfl, by kernel_rfl, by kernel_rfl, ⟨(show List.length ([y1.2]) = List.length [a0] from rfl), trivial⟩⟩

noncomputable def spec_l02DrawPlainSides_B1 (a1 : Int) (s4 : Int × (List Int × Int × Int) × List Bool) : Option ((Int × (List Int × Int × Int) × List Bool) ⊕ (((List Int × Int × Int) × List Bool))) :=
  bif (decide (s4.1 < a1)) then
    (spec_l00Src_one s4.2.1 (3 : Int)).bind fun y11 =>
    guardP (List.length s4.2.2 + List.length ([y11.1] : List Bool) ≤ appMax) (
      some (.inl ((wadd .i64 s4.1 (1 : Int)), y11.2, (s4.2.2 ++ ([y11.1] : List Bool)))))
  else
    some (.inr (s4.2.1, s4.2.2))

noncomputable def spec_l02DrawPlainSides_B2 (a1 : Int) (s1 : Int × (List Int × Int × Int) × List Int) : Option ((Int × (List Int × Int × Int) × List Int) ⊕ (((List Int × Int × Int) × List Int))) :=
  bif (decide (s1.1 > (0 : Int))) then
    (spec_l00Src_pick s1.2.1 a1).bind fun y19 =>
    guardP (List.length s1.2.2 + List.length ([y19.1] : List Int) ≤ appMax) (
      some (.inl ((wsub .i64 s1.1 (1 : Int)), y19.2, (s1.2.2 ++ ([y19.1] : List Int)))))
  else
    some (.inr (s1.2.1, s1.2.2))

noncomputable def spec_l02DrawPlainSides (a0 : List Int × Int × Int) (a1 : Int) (a2 : Int) : Option ((Int × Int × List Int × List Bool) × (List Int × Int × Int)) :=
  (rounds (spec_l02DrawPlainSides_B2 a1) ((wmul .i64 a1 a2), a0, ([] : List Int))).bind fun r3 =>
  (rounds (spec_l02DrawPlainSides_B1 a1) ((0 : Int), r3.1, ([] : List Bool))).bind fun r6 =>
  some ((a1, a2, r3.2, r6.2), r6.1)

theorem f96_ok {a0 : List Int × Int × Int} {a1 : Int} {a2 : Int} {r : (Int × Int × List Int × List Bool) × (List Int × Int × Int)} (hr : spec_l02DrawPlainSides a0 a1 a2 = some r) : CallOK Try.prog 96 [.own (.bx (.st (.pair (.sl (.int .u8)) (.pair tI (.int .u64))))) [a0], .imm tI a1, .imm tI a2] [⟨true, (.st (.pair tI (.pair tI (.pair tLI (.sl .bool))))), r.1⟩] [⟨(.bx (.st (.pair (.sl (.int .u8)) (.pair tI (.int .u64))))), [r.2]⟩] := by
  unfold spec_l02DrawPlainSides at hr
  refine CallOK.of_body (ts := [(true, (.st (.pair tI (.pair tI (.pair tLI (.sl .bool))))))]) Try.func96 rfl (by kernel_rfl) (Nat.le_of_ble_eq_true (by kernel_rfl)) fun cx hP hN hO hF => ?_
  have hO : cx.own.map Prod.fst = [0] := hO
  have hX := CxIs.mk hP hN hO
  have hF := hF rfl
  show HT cx ⟨[(0, .one (.elp 0 0 3 0)), (1, iV a1), (2, iV a2)], [(0, .seq (.st (.pair (.sl (.int .u8)) (.pair tI (.int .u64)))) ([a0]))], 1⟩ _ _
  refine HT.rg2 [oH] ⟨[(0, .one (.elp 0 0 3 0)), (1, iV a1), (2, iV a2), (6, pV 1 0)], [(1, .box [iC (0 : Int), iC (0 : Int), .nilS, .nilS]), (0, .seq (.st (.pair (.sl (.int .u8)) (.pair tI (.int .u64)))) ([a0]))], 2⟩ hX (by kernel_rfl) allNil ?_
  refine HT.rg2 (oHs 5) ⟨[(0, .one (.elp 0 0 3 0)), (1, iV a1), (2, iV a2), (6, pV 1 0), (7, pV 2 0)], [(2, .box [iC a1, iC a2, .nilS, .nilS]), (1, .box [iC (0 : Int), iC (0 : Int), .nilS, .nilS]), (0, .seq (.st (.pair (.sl (.int .u8)) (.pair tI (.int .u64)))) ([a0]))], 3⟩ hX (by kernel_rfl) allNil ?_
  refine HT.seq ?_
  refine HT.rg2 (oHs 4) ⟨[(0, .one (.elp 0 0 3 0)), (1, iV a1), (6, pV 1 0), (7, pV 2 0), (8, iV (wmul .i64 a1 a2))], [(2, .box [iC a1, iC a2, .nilS, .nilS]), (1, .box [iC (0 : Int), iC (0 : Int), .nilS, .nilS]), (0, .seq (.st (.pair (.sl (.int .u8)) (.pair tI (.int .u64)))) ([a0]))], 3⟩ hX (by kernel_rfl) allNil ?_
  refine HT.block ?_
  obtain ⟨r2, hL22, hr⟩ := of_bind hr
  refine HT.loopL (fun (s1 : Int × (List Int × Int × Int) × List Int) => ⟨[(0, .one (.elp 0 0 3 0)), (1, iV a1), (6, pV 1 0), (7, pV 2 0), (8, iV s1.1)], [(0, .seq (.st (.pair (.sl (.int .u8)) (.pair tI (.int .u64)))) ([s1.2.1])), (1, .box [iC (0 : Int), iC (0 : Int), .nilS, .nilS]), (2, .box [iC a1, iC a2, .all 3, .nilS]), (3, .seq tI s1.2.2)], 4⟩) (fun (r3 : ((List Int × Int × Int) × List Int)) => (.exit 0, ⟨[(0, .one (.elp 0 0 3 0)), (1, iV a1), (6, pV 1 0), (7, pV 2 0)], [(0, .seq (.st (.pair (.sl (.int .u8)) (.pair tI (.int .u64)))) ([r3.1])), (1, .box [iC (0 : Int), iC (0 : Int), .nilS, .nilS]), (2, .box [iC a1, iC a2, .all 3, .nilS]), (3, .seq tI r3.2)], 4⟩)) (Le.re [(0, 0), (1, 1), (2, 2)] [3] hX (by kernel_rfl)) hL22 ?_ (fun s1 x15 hx16 hk17 => ?_)
  · refine (qBlockX (qThen ?_))
    refine HT.seq ?_
    refine HT.rg2 [oH] ⟨[(0, .one (.elp 0 0 3 0)), (1, iV a1), (6, pV 1 0), (7, pV 2 0), (9, iV (0 : Int))], [(0, .seq (.st (.pair (.sl (.int .u8)) (.pair tI (.int .u64)))) ([r2.1])), (1, .box [iC (0 : Int), iC (0 : Int), .nilS, .nilS]), (2, .box [iC a1, iC a2, .all 3, .nilS]), (3, .seq tI r2.2)], 4⟩ hX (by kernel_rfl) allNil ?_
    refine HT.block ?_
    obtain ⟨r5, hL14, hr⟩ := of_bind hr
    refine HT.loopL (fun (s4 : Int × (List Int × Int × Int) × List Bool) => ⟨[(0, .one (.elp 0 0 3 0)), (1, iV a1), (6, pV 1 0), (7, pV 2 0), (9, iV s4.1)], [(0, .seq (.st (.pair (.sl (.int .u8)) (.pair tI (.int .u64)))) ([s4.2.1])), (1, .box [iC (0 : Int), iC (0 : Int), .nilS, .nilS]), (2, .box [iC a1, iC a2, .all 3, .all 4]), (3, .seq tI r2.2), (4, .seq .bool s4.2.2)], 5⟩) (fun (r6 : ((List Int × Int × Int) × List Bool)) => (.exit 2, ⟨[(6, pV 1 0), (7, pV 2 0)], [(0, .seq (.st (.pair (.sl (.int .u8)) (.pair tI (.int .u64)))) ([r6.1])), (1, .box [iC (0 : Int), iC (0 : Int), .nilS, .nilS]), (2, .box [iC a1, iC a2, .all 3, .all 4]), (3, .seq tI r2.2), (4, .seq .bool r6.2)], 5⟩)) (Le.re [(0, 0), (1, 1), (2, 2), (3, 3)] [4] hX (by kernel_rfl)) hL14 ?_ (fun s4 x7 hx8 hk9 => ?_)
    · refine (qBlockX (qThen ?_))
      refine HT.rg2 (oHs 2) ⟨[(6, pV 1 0)], [(1, .box [iC a1, iC a2, .all 3, .all 4]), (0, .seq (.st (.pair (.sl (.int .u8)) (.pair tI (.int .u64)))) ([r5.1])), (3, .seq tI r2.2), (4, .seq .bool r5.2)], 5⟩ hX (by kernel_rfl) allNil ?_
      have hr := of_some hr
      subst hr
      exact HT.ret ⟨[.agg [iC a1, iC a2, .all 3, .all 4]], [3, 4], [List.length ([r5.1]) = List.length [a0]], by kernel_rfl, by kernel_rfl, rfl, by kernel_rfl, by kernel_rfl, ⟨(show List.length ([r5.1]) = List.length [a0] from rfl), trivial⟩⟩
    · refine HT.seq ?_
      refine HT.rg2 (oHs 3) ⟨[(0, .one (.elp 0 0 3 0)), (1, iV a1), (6, pV 1 0), (7, pV 2 0), (9, iV s4.1), (30, bV (decide (s4.1 < a1)))], [(0, .seq (.st (.pair (.sl (.int .u8)) (.pair tI (.int .u64)))) ([s4.2.1])), (1, .box [iC (0 : Int), iC (0 : Int), .nilS, .nilS]), (2, .box [iC a1, iC a2, .all 3, .all 4]), (3, .seq tI r2.2), (4, .seq .bool s4.2.2)], 5⟩ hX (by kernel_rfl) allNil ?_
      rcases of_bif hx8 with ⟨hb10, hx8⟩ | ⟨hb10, hx8⟩
      · refine HT.cond1 rfl hb10 ?_
        refine HT.skip (qThen ?_)
        refine HT.seq ?_
        refine HT.block ?_
        obtain ⟨y11, hc12, hx8⟩ := of_bind hx8
        obtain ⟨hg13, hx8⟩ := of_guard hx8
        refine HT.drL 5 [⟨oH, []⟩, ⟨oH, [0]⟩, ⟨oH, []⟩, ⟨⟨none, .call [.own (.bx (.st (.pair (.sl (.int .u8)) (.pair tI (.int .u64))))), .imm tI] [⟨false, .bool, y11.1⟩] [⟨(.bx (.st (.pair (.sl (.int .u8)) (.pair tI (.int .u64))))), [y11.2]⟩]⟩, [2]⟩, ⟨⟨none, .ty .bool⟩, [2, 3]⟩] [[0, 1, 2, 3, 4], [0, 1, 2, 3, 4, 5], [0, 1, 2, 3, 4, 5, 6]] [⟨none, .ty .bool⟩, oH, oH] ⟨[(0, .one (.elp 0 0 3 0)), (1, iV a1), (6, pV 1 0), (7, pV 2 0), (9, iV s4.1)], [(2, .box [iC a1, iC a2, .all 3, .all 6]), (6, .seq .bool (s4.2.2 ++ ([y11.1] : List Bool))), (0, .seq (.st (.pair (.sl (.int .u8)) (.pair tI (.int .u64)))) ([y11.2])), (1, .box [iC (0 : Int), iC (0 : Int), .nilS, .nilS]), (3, .seq tI r2.2)], 7⟩ hX (by kernel_rfl) (by kernel_rfl) (allCons (f193_ok hc12) (allCons hg13 allNil)) (qBlock (qThen ?_))
        have hx8 := of_some hx8
        subst hx8
        exact HT.rgK (oHs 3) [(0, 0), (1, 1), (2, 2), (3, 3), (6, 4)] [] hX (by kernel_rfl) allNil (fun _ h => (qLoopN ⟨((wadd .i64 s4.1 (1 : Int)), y11.2, (s4.2.2 ++ ([y11.1] : List Bool))), rfl, h⟩))
      · refine HT.cond0 rfl hb10 ?_
        have hx8 := of_some hx8
        subst hx8
        exact HT.exitL (Le.re [(0, 0), (1, 1), (2, 2), (3, 3), (4, 4)] [] hX (by kernel_rfl)) (qThenE (qLoopE (hk9 (s4.2.1, s4.2.2) rfl)))
  · refine HT.seq ?_
    refine HT.rg2 (oHs 2) ⟨[(0, .one (.elp 0 0 3 0)), (1, iV a1), (6, pV 1 0), (7, pV 2 0), (8, iV s1.1), (17, bV (decide (s1.1 > (0 : Int))))], [(0, .seq (.st (.pair (.sl (.int .u8)) (.pair tI (.int .u64)))) ([s1.2.1])), (1, .box [iC (0 : Int), iC (0 : Int), .nilS, .nilS]), (2, .box [iC a1, iC a2, .all 3, .nilS]), (3, .seq tI s1.2.2)], 4⟩ hX (by kernel_rfl) allNil ?_
    rcases of_bif hx16 with ⟨hb18, hx16⟩ | ⟨hb18, hx16⟩
    · refine HT.cond1 rfl hb18 ?_
      refine HT.skip (qThen ?_)
      refine HT.seq ?_
      refine HT.block ?_
      obtain ⟨y19, hc20, hx16⟩ := of_bind hx16
      obtain ⟨hg21, hx16⟩ := of_guard hx16
      refine HT.drL 6 [⟨oH, []⟩, ⟨oH, [0]⟩, ⟨oH, []⟩, ⟨oH, []⟩, ⟨⟨none, .call [.own (.bx (.st (.pair (.sl (.int .u8)) (.pair tI (.int .u64))))), .imm tI] [⟨false, tI, y19.1⟩] [⟨(.bx (.st (.pair (.sl (.int .u8)) (.pair tI (.int .u64))))), [y19.2]⟩]⟩, [2, 3]⟩, ⟨⟨none, .ty tI⟩, [2, 3, 4]⟩] [[0, 1, 2, 3, 4, 5], [0, 1, 2, 3, 4, 5, 6], [0, 1, 2, 3, 4, 5, 6, 7]] [⟨none, .ty tI⟩, oH, oH] ⟨[(0, .one (.elp 0 0 3 0)), (1, iV a1), (6, pV 1 0), (7, pV 2 0), (8, iV s1.1)], [(2, .box [iC a1, iC a2, .all 5, .nilS]), (5, .seq tI (s1.2.2 ++ ([y19.1] : List Int))), (0, .seq (.st (.pair (.sl (.int .u8)) (.pair tI (.int .u64)))) ([y19.2])), (1, .box [iC (0 : Int), iC (0 : Int), .nilS, .nilS])], 6⟩ hX (by kernel_rfl) (by kernel_rfl) (allCons (f94_ok hc20) (allCons hg21 allNil)) (qBlock (qThen ?_))
      have hx16 := of_some hx16
      subst hx16
      exact HT.rgK (oHs 3) [(0, 0), (1, 1), (2, 2), (5, 3)] [] hX (by kernel_rfl) allNil (fun _ h => (qLoopN ⟨((wsub .i64 s1.1 (1 : Int)), y19.2, (s1.2.2 ++ ([y19.1] : List Int))), rfl, h⟩))
    · refine HT.cond0 rfl hb18 ?_
      have hx16 := of_some hx16
      subst hx16
      exact HT.exitL (Le.re [(0, 0), (1, 1), (2, 2), (3, 3)] [] hX (by kernel_rfl)) (qThenE (qLoopE (hk17 (s1.2.1, s1.2.2) rfl)))

noncomputable def spec_B10Kepts_B1  (s5 : Int × (List Int × Int × Int) × (List (List UInt8 × Int × Int × List Int × List Bool))) : Option ((Int × (List Int × Int × Int) × (List (List UInt8 × Int × Int × List Int × List Bool))) ⊕ ((List (List UInt8 × Int × Int × List Int × List Bool)))) :=
  bif (decide (s5.1 > (0 : Int))) then
    (spec_l00Src_text s5.2.1 ([([97] : List UInt8), ([101, 118, 101, 110] : List UInt8), ([119, 111, 114, 100] : List UInt8), ([122, 122] : List UInt8)] : List (List UInt8))).bind fun y12 =>
    (spec_l00Src_pick y12.2 (3 : Int)).bind fun y14 =>
    (spec_l00Src_pick y14.2 (5 : Int)).bind fun y16 =>
    (spec_l02DrawPlainSides y16.2 (wadd .i64 (1 : Int) y16.1) (wadd .i64 (1 : Int) y14.1)).bind fun y18 =>
    guardP (List.length s5.2.2 + List.length ([(y12.1, y18.1.1, y18.1.2.1, y18.1.2.2.1, y18.1.2.2.2)] : List (List UInt8 × Int × Int × List Int × List Bool)) ≤ appMax) (
      some (.inl ((wsub .i64 s5.1 (1 : Int)), y18.2, (s5.2.2 ++ ([(y12.1, y18.1.1, y18.1.2.1, y18.1.2.2.1, y18.1.2.2.2)] : List (List UInt8 × Int × Int × List Int × List Bool))))))
  else
    some (.inr s5.2.2)

noncomputable def spec_B10Kepts (a0 : List Int) : Option ((List (List UInt8 × Int × Int × List Int × List Bool))) :=
  (spec_l00From a0).bind fun y1 =>
  (spec_l00Src_pick y1 (5 : Int)).bind fun y3 =>
  (rounds (spec_B10Kepts_B1) (y3.1, y3.2, ([] : List (List UInt8 × Int × Int × List Int × List Bool)))).bind fun r7 =>
  some r7

theorem f12_ok {a0 : List Int} {r : (List (List UInt8 × Int × Int × List Int × List Bool))} (hr : spec_B10Kepts a0 = some r) : CallOK Try.prog 12 [.imm (.sl (.int .u8)) a0] [⟨false, (.sl (.st (.pair .str (.st (.pair tI (.pair tI (.pair tLI (.sl .bool)))))))), r⟩] [] := by
  unfold spec_B10Kepts at hr
  refine CallOK.of_body (ts := [(false, (.sl (.st (.pair .str (.st (.pair tI (.pair tI (.pair tLI (.sl .bool)))))))))]) Try.func12 rfl (by kernel_rfl) (Nat.le_of_ble_eq_true (by kernel_rfl)) fun cx hP hN hO hF => ?_
  have hO : cx.own.map Prod.fst = [] := hO
  have hX := CxIs.mk hP hN hO
  have hF := hF rfl
  show HT cx ⟨[(0, .one (.dat (.sl (.int .u8)) a0))], [], 0⟩ _ _
  refine HT.rg2 [oH] ⟨[(0, .one (.dat (.sl (.int .u8)) a0))], [], 0⟩ hX (by kernel_rfl) allNil ?_
  obtain ⟨y1, hc2, hr⟩ := of_bind hr
  refine HT.rg2 [oH, ⟨none, .call [.imm (.sl (.int .u8))] [⟨true, (.bx (.st (.pair (.sl (.int .u8)) (.pair tI (.int .u64))))), [y1]⟩] []⟩, oH] ⟨[(3, .one (.elp 0 0 3 0))], [(0, .seq (.st (.pair (.sl (.int .u8)) (.pair tI (.int .u64)))) ([y1]))], 1⟩ hX (by kernel_rfl) (allCons (f93_ok hc2) allNil) ?_
  refine HT.rg2 (oHs 2) ⟨[(3, .one (.elp 0 0 3 0)), (4, .one (.nilS))], [(0, .seq (.st (.pair (.sl (.int .u8)) (.pair tI (.int .u64)))) ([y1]))], 1⟩ hX (by kernel_rfl) allNil ?_
  refine HT.seq ?_
  obtain ⟨y3, hc4, hr⟩ := of_bind hr
  refine HT.rg2 [oH, ⟨none, .call [.own (.bx (.st (.pair (.sl (.int .u8)) (.pair tI (.int .u64))))), .imm tI] [⟨false, tI, y3.1⟩] [⟨(.bx (.st (.pair (.sl (.int .u8)) (.pair tI (.int .u64))))), [y3.2]⟩]⟩, oH] ⟨[(3, .one (.elp 0 0 3 0)), (4, .one (.nilS)), (5, iV y3.1)], [(0, .seq (.st (.pair (.sl (.int .u8)) (.pair tI (.int .u64)))) ([y3.2]))], 1⟩ hX (by kernel_rfl) (allCons (f94_ok hc4) allNil) ?_
  refine HT.block ?_
  obtain ⟨r6, hL21, hr⟩ := of_bind hr
  refine HT.loopL (fun (s5 : Int × (List Int × Int × Int) × (List (List UInt8 × Int × Int × List Int × List Bool))) => ⟨[(3, .one (.elp 0 0 3 0)), (4, aV 1), (5, iV s5.1)], [(0, .seq (.st (.pair (.sl (.int .u8)) (.pair tI (.int .u64)))) ([s5.2.1])), (1, .seq (.st (.pair .str (.st (.pair tI (.pair tI (.pair tLI (.sl .bool))))))) s5.2.2)], 2⟩) (fun (r7 : (List (List UInt8 × Int × Int × List Int × List Bool))) => (.exit 0, ⟨[(4, aV 0)], [(0, .seq (.st (.pair .str (.st (.pair tI (.pair tI (.pair tLI (.sl .bool))))))) r7)], 1⟩)) (Le.re [(0, 0)] [1] hX (by kernel_rfl)) hL21 ?_ (fun s5 x8 hx9 hk10 => ?_)
  · refine (qBlockX (qThen ?_))
    refine HT.rg2 (oHs 2) ⟨[(2, aV 0)], [(0, .seq (.st (.pair .str (.st (.pair tI (.pair tI (.pair tLI (.sl .bool))))))) r6)], 1⟩ hX (by kernel_rfl) allNil ?_
    have hr := of_some hr
    subst hr
    refine (Le.rz [] [] (st' := ⟨[(2, .one (.dat (.sl (.st (.pair .str (.st (.pair tI (.pair tI (.pair tLI (.sl .bool)))))))) r6))], [], 1⟩) hX hF (by kernel_rfl)).ht ?_
    exact HT.ret ⟨[.one (.dat (.sl (.st (.pair .str (.st (.pair tI (.pair tI (.pair tLI (.sl .bool)))))))) r6)], [], [], by kernel_rfl, by kernel_rfl, rfl, by kernel_rfl, by kernel_rfl, trivial⟩
  · refine HT.seq ?_
    refine HT.rg2 (oHs 2) ⟨[(3, .one (.elp 0 0 3 0)), (4, aV 1), (5, iV s5.1), (15, bV (decide (s5.1 > (0 : Int))))], [(0, .seq (.st (.pair (.sl (.int .u8)) (.pair tI (.int .u64)))) ([s5.2.1])), (1, .seq (.st (.pair .str (.st (.pair tI (.pair tI (.pair tLI (.sl .bool))))))) s5.2.2)], 2⟩ hX (by kernel_rfl) allNil ?_
    rcases of_bif hx9 with ⟨hb11, hx9⟩ | ⟨hb11, hx9⟩
    · refine HT.cond1 rfl hb11 ?_
      refine HT.skip (qThen ?_)
      refine HT.seq ?_
      refine HT.block ?_
      obtain ⟨y12, hc13, hx9⟩ := of_bind hx9
      refine HT.rg2 [oH, ⟨none, .tyD .str⟩, ⟨none, .call [.own (.bx (.st (.pair (.sl (.int .u8)) (.pair tI (.int .u64))))), .imm (.sl .str)] [⟨false, .str, y12.1⟩] [⟨(.bx (.st (.pair (.sl (.int .u8)) (.pair tI (.int .u64))))), [y12.2]⟩]⟩, oH, oH, oH] ⟨[(3, .one (.elp 0 0 3 0)), (4, aV 1), (5, iV s5.1), (6, pV 2 0)], [(2, .box [.dat .str y12.1, iC (0 : Int), iC (0 : Int), .nilS, .nilS]), (0, .seq (.st (.pair (.sl (.int .u8)) (.pair tI (.int .u64)))) ([y12.2])), (1, .seq (.st (.pair .str (.st (.pair tI (.pair tI (.pair tLI (.sl .bool))))))) s5.2.2)], 3⟩ hX (by kernel_rfl) (allCons (f95_ok hc13) allNil) ?_
      obtain ⟨y14, hc15, hx9⟩ := of_bind hx9
      refine HT.rg2 [oH, ⟨none, .call [.own (.bx (.st (.pair (.sl (.int .u8)) (.pair tI (.int .u64))))), .imm tI] [⟨false, tI, y14.1⟩] [⟨(.bx (.st (.pair (.sl (.int .u8)) (.pair tI (.int .u64))))), [y14.2]⟩]⟩, oH, oH] ⟨[(3, .one (.elp 0 0 3 0)), (4, aV 1), (5, iV s5.1), (6, pV 2 0), (7, iV (wadd .i64 (1 : Int) y14.1))], [(0, .seq (.st (.pair (.sl (.int .u8)) (.pair tI (.int .u64)))) ([y14.2])), (2, .box [.dat .str y12.1, iC (0 : Int), iC (0 : Int), .nilS, .nilS]), (1, .seq (.st (.pair .str (.st (.pair tI (.pair tI (.pair tLI (.sl .bool))))))) s5.2.2)], 3⟩ hX (by kernel_rfl) (allCons (f94_ok hc15) allNil) ?_
      obtain ⟨y16, hc17, hx9⟩ := of_bind hx9
      refine HT.rg2 [oH, ⟨none, .call [.own (.bx (.st (.pair (.sl (.int .u8)) (.pair tI (.int .u64))))), .imm tI] [⟨false, tI, y16.1⟩] [⟨(.bx (.st (.pair (.sl (.int .u8)) (.pair tI (.int .u64))))), [y16.2]⟩]⟩, oH, oH] ⟨[(3, .one (.elp 0 0 3 0)), (4, aV 1), (5, iV s5.1), (6, pV 2 0), (7, iV (wadd .i64 (1 : Int) y14.1)), (8, iV (wadd .i64 (1 : Int) y16.1))], [(0, .seq (.st (.pair (.sl (.int .u8)) (.pair tI (.int .u64)))) ([y16.2])), (2, .box [.dat .str y12.1, iC (0 : Int), iC (0 : Int), .nilS, .nilS]), (1, .seq (.st (.pair .str (.st (.pair tI (.pair tI (.pair tLI (.sl .bool))))))) s5.2.2)], 3⟩ hX (by kernel_rfl) (allCons (f94_ok hc17) allNil) ?_
      obtain ⟨y18, hc19, hx9⟩ := of_bind hx9
      refine HT.rg2 [oH, oH, oH, ⟨none, .call [.own (.bx (.st (.pair (.sl (.int .u8)) (.pair tI (.int .u64))))), .imm tI, .imm tI] [⟨true, (.st (.pair tI (.pair tI (.pair tLI (.sl .bool))))), y18.1⟩] [⟨(.bx (.st (.pair (.sl (.int .u8)) (.pair tI (.int .u64))))), [y18.2]⟩]⟩, oH, oH] ⟨[(3, .one (.elp 0 0 3 0)), (4, aV 1), (5, iV s5.1), (6, pV 2 0)], [(2, .box [.dat .str y12.1, iC y18.1.1, iC y18.1.2.1, .all 3, .all 4]), (0, .seq (.st (.pair (.sl (.int .u8)) (.pair tI (.int .u64)))) ([y18.2])), (3, .seq tI y18.1.2.2.1), (4, .seq .bool y18.1.2.2.2), (1, .seq (.st (.pair .str (.st (.pair tI (.pair tI (.pair tLI (.sl .bool))))))) s5.2.2)], 5⟩ hX (by kernel_rfl) (allCons (f96_ok hc19) allNil) ?_
      refine (Le.rz [(2, 2), (0, 0), (4, 4), (1, 1)] [] (st' := ⟨[(3, .one (.elp 0 0 3 0)), (4, aV 1), (5, iV s5.1), (6, pV 2 0)], [(2, .box [.dat .str y12.1, iC y18.1.1, iC y18.1.2.1, nC y18.1.2.2.1, .all 4]), (0, .seq (.st (.pair (.sl (.int .u8)) (.pair tI (.int .u64)))) ([y18.2])), (4, .seq .bool y18.1.2.2.2), (1, .seq (.st (.pair .str (.st (.pair tI (.pair tI (.pair tLI (.sl .bool))))))) s5.2.2)], 5⟩) hX hF (by kernel_rfl)).ht ?_
      refine (Le.rz [(2, 2), (0, 0), (1, 1)] [] (st' := ⟨[(3, .one (.elp 0 0 3 0)), (4, aV 1), (5, iV s5.1), (6, pV 2 0)], [(2, .box [.dat .str y12.1, iC y18.1.1, iC y18.1.2.1, nC y18.1.2.2.1, .dat (.sl .bool) y18.1.2.2.2]), (0, .seq (.st (.pair (.sl (.int .u8)) (.pair tI (.int .u64)))) ([y18.2])), (1, .seq (.st (.pair .str (.st (.pair tI (.pair tI (.pair tLI (.sl .bool))))))) s5.2.2)], 5⟩) hX hF (by kernel_rfl)).ht ?_
      obtain ⟨hg20, hx9⟩ := of_guard hx9
      refine HT.rgL [oH, oH, ⟨none, .ty (.st (.pair .str (.st (.pair tI (.pair tI (.pair tLI (.sl .bool)))))))⟩, ⟨none, .ty (.st (.pair .str (.st (.pair tI (.pair tI (.pair tLI (.sl .bool)))))))⟩, oH] ⟨[(3, .one (.elp 0 0 3 0)), (4, aV 6), (5, iV s5.1)], [(6, .seq (.st (.pair .str (.st (.pair tI (.pair tI (.pair tLI (.sl .bool))))))) (s5.2.2 ++ ([(y12.1, y18.1.1, y18.1.2.1, y18.1.2.2.1, y18.1.2.2.2)] : List (List UInt8 × Int × Int × List Int × List Bool)))), (0, .seq (.st (.pair (.sl (.int .u8)) (.pair tI (.int .u64)))) ([y18.2]))], 7⟩ hX (by kernel_rfl) (allCons hg20 allNil) (qBlock (qThen ?_))
      have hx9 := of_some hx9
      subst hx9
      exact HT.rgK (oHs 3) [(0, 0), (6, 1)] [] hX (by kernel_rfl) allNil (fun _ h => (qLoopN ⟨((wsub .i64 s5.1 (1 : Int)), y18.2, (s5.2.2 ++ ([(y12.1, y18.1.1, y18.1.2.1, y18.1.2.2.1, y18.1.2.2.2)] : List (List UInt8 × Int × Int × List Int × List Bool)))), rfl, h⟩))
    · refine HT.cond0 rfl hb11 ?_
      have hx9 := of_some hx9
      subst hx9
      exact HT.exitL (Le.re [(1, 0)] [] hX (by kernel_rfl)) (qThenE (qLoopE (hk10 s5.2.2 rfl)))

noncomputable def impl_IsName_B1 (a0 : List UInt8) (s1 : Int) : Option ((Int) ⊕ (Unit ⊕ Unit)) :=
  bif (decide (s1 < (lenI a0))) then
    (show Option (Bool) from
      guardP ((0 : Int) ≤ s1 ∧ s1 < lenI a0) (
        bif (decide (((((List.getD a0 (Int.toNat s1) 0 : UInt8).toNat : Nat)) : Int) < (97 : Int))) then
          some true
        else
          some (decide (((((List.getD a0 (Int.toNat s1) 0 : UInt8).toNat : Nat)) : Int) > (122 : Int))))).bind fun v13 =>
    bif v13 then
      some (.inr (.inr ()))
    else
      some (.inl (wadd .i64 s1 (1 : Int)))
  else
    some (.inr (.inl ()))

noncomputable def impl_IsName (a0 : List UInt8) : Option (Bool) :=
  (rounds (impl_IsName_B1 a0) (0 : Int)).bind fun r2 => match r2 with
    | .inl r3 =>
      (show Option (Bool) from
        bif (decide ((lenI a0) ≥ (1 : Int))) then
          some (decide ((lenI a0) ≤ (8 : Int)))
        else
          some false).bind fun v4 =>
      some v4
    | .inr r8 =>
      some false

theorem f99_ok {a0 : List UInt8} {r : Bool} (hr : impl_IsName a0 = some r) : CallOK Try.prog 99 [.imm .str a0] [⟨false, .bool, r⟩] [] := by
  unfold impl_IsName at hr
  refine CallOK.of_body (ts := [(false, .bool)]) Try.func99 rfl (by kernel_rfl) (Nat.le_of_ble_eq_true (by kernel_rfl)) fun cx hP hN hO hF => ?_
  have hO : cx.own.map Prod.fst = [] := hO
  have hX := CxIs.mk hP hN hO
  have hF := hF rfl
  show HT cx ⟨[(0, .one (.dat .str a0))], [], 0⟩ _ _
  refine HT.rg2 [oH] ⟨[(0, .one (.dat .str a0))], [], 0⟩ hX (by kernel_rfl) allNil ?_
  refine HT.seq ?_
  refine HT.rg2 (oHs 3) ⟨[(0, .one (.dat .str a0)), (5, iV (lenI a0)), (6, iV (0 : Int))], [], 0⟩ hX (by kernel_rfl) allNil ?_
  refine HT.block ?_
  obtain ⟨r2, hL19, hr⟩ := of_bind hr
  refine HT.loopL (fun (s1 : Int) => ⟨[(0, .one (.dat .str a0)), (5, iV (lenI a0)), (6, iV s1)], [], 0⟩) (fun (r2 : Unit ⊕ Unit) => match r2 with | .inl r3 => (.exit 0, ⟨[(0, .one (.dat .str a0))], [], 0⟩) | .inr r8 => (.ret, ⟨[(2, bV false)], [], 0⟩)) (Le.re [] [] hX (by kernel_rfl)) hL19 ?_ (fun s1 x9 hx10 hk11 => ?_)
  · rcases r2 with r3 | r8
    · refine (qBlockX (qThen ?_))
      obtain ⟨v4', hT6, hr⟩ := of_bind hr
      refine HT.join (fun (v4 : Bool) => ⟨[(2, bV v4)], [], 0⟩) (fun v => v = v4') (fun v4 hv5 => ?_) (fun cont => ?_)
      · subst hv5
        have hr := of_some hr
        subst hr
        exact HT.ret ⟨[bV v4], [], [], by kernel_rfl, by kernel_rfl, rfl, by kernel_rfl, by kernel_rfl, trivial⟩
      · rcases of_bif hT6 with ⟨hb7, hT6⟩ | ⟨hb7, hT6⟩
        · exact HT.rgK [oH, oH, oH, oH, ⟨some true, .no⟩, ⟨some true, .no⟩, ⟨some true, .no⟩, ⟨none, .tv true⟩, oH] [] [] hX (by kernel_rfl) (allCons hb7 (allCons hb7 (allCons hb7 (allCons hb7 allNil)))) (fun _ h => (qThen (h.ht (cont (decide ((lenI a0) ≤ (8 : Int))) (of_some hT6)))))
        · exact HT.rgK [oH, oH, oH, oH, ⟨some false, .no⟩, ⟨some false, .no⟩, ⟨some false, .no⟩, ⟨none, .tv false⟩, oH] [] [] hX (by kernel_rfl) (allCons hb7 (allCons hb7 (allCons hb7 (allCons hb7 allNil)))) (fun _ h => (qThen (h.ht (cont false (of_some hT6)))))
    · have hr := of_some hr
      subst hr
      exact (qBlockR (qThenR ⟨[bV false], [], [], by kernel_rfl, by kernel_rfl, rfl, by kernel_rfl, by kernel_rfl, trivial⟩))
  · refine HT.rg2 [oH] ⟨[(0, .one (.dat .str a0)), (5, iV (lenI a0)), (6, iV s1), (7, bV (decide (s1 < (lenI a0))))], [], 0⟩ hX (by kernel_rfl) allNil ?_
    refine HT.seq ?_
    rcases of_bif hx10 with ⟨hb12, hx10⟩ | ⟨hb12, hx10⟩
    · refine HT.cond1 rfl hb12 ?_
      refine HT.skip (qThen ?_)
      refine HT.seq ?_
      refine HT.block ?_
      refine HT.rg2 (oHs 2) ⟨[(0, .one (.dat .str a0)), (3, iV s1), (5, iV (lenI a0)), (6, iV s1)], [], 0⟩ hX (by kernel_rfl) allNil ?_
      obtain ⟨v13', hT15, hx10⟩ := of_bind hx10
      refine HT.join (fun (v13 : Bool) => ⟨[(0, .one (.dat .str a0)), (5, iV (lenI a0)), (6, iV s1), (18, bV v13)], [], 0⟩) (fun v => v = v13') (fun v13 hv14 => ?_) (fun cont => ?_)
      · subst hv14
        rcases of_bif hx10 with ⟨hb16, hx10⟩ | ⟨hb16, hx10⟩
        · refine HT.cond1 rfl hb16 ?_
          refine HT.rg2 [oH] ⟨[(2, bV false)], [], 0⟩ hX (by kernel_rfl) allNil ?_
          have hx10 := of_some hx10
          subst hx10
          exact HT.retL (Le.re [] [] hX (by kernel_rfl)) (qBlockR (qThenR (qLoopR (hk11 (.inr ()) rfl))))
        · refine HT.cond0 rfl hb16 ?_
          refine HT.skip (qBlock (qThen ?_))
          have hx10 := of_some hx10
          subst hx10
          exact HT.rgK (oHs 2) [] [] hX (by kernel_rfl) allNil (fun _ h => (qLoopN ⟨(wadd .i64 s1 (1 : Int)), rfl, h⟩))
      · obtain ⟨hg17, hT15⟩ := of_guard hT15
        rcases of_bif hT15 with ⟨hb18, hT15⟩ | ⟨hb18, hT15⟩
        · exact HT.rgK [oH, oH, oH, oH, oH, ⟨some true, .no⟩, ⟨some true, .no⟩, ⟨some true, .no⟩, ⟨some true, .no⟩, ⟨none, .tv true⟩] [] [] hX (by kernel_rfl) (allCons hg17 (allCons hb18 (allCons hb18 (allCons hb18 (allCons hb18 (allCons hb18 allNil)))))) (fun _ h => (qThen (h.ht (cont true (of_some hT15)))))
        · exact HT.rgK [oH, oH, oH, oH, oH, ⟨some false, .no⟩, ⟨some false, .no⟩, ⟨some false, .no⟩, ⟨some false, .no⟩, ⟨none, .tv false⟩] [] [] hX (by kernel_rfl) (allCons hg17 (allCons hb18 (allCons hb18 (allCons hb18 (allCons hg17 (allCons hb18 (allCons hb18 allNil))))))) (fun _ h => (qThen (h.ht (cont (decide (((((List.getD a0 (Int.toNat s1) 0 : UInt8).toNat : Nat)) : Int) > (122 : Int))) (of_some hT15)))))
    · refine HT.cond0 rfl hb12 ?_
      have hx10 := of_some hx10
      subst hx10
      exact HT.exitL (Le.re [] [] hX (by kernel_rfl)) (qThenE (qLoopE (hk11 (.inl ()) rfl)))

noncomputable def impl_within (a0 : Int) (a1 : Int) (a2 : Int) : Option (Bool) :=
  (show Option (Bool) from
    bif (decide (a0 ≥ a1)) then
      some (decide (a0 ≤ a2))
    else
      some false).bind fun v1 =>
  some v1

theorem f111_ok {a0 : Int} {a1 : Int} {a2 : Int} {r : Bool} (hr : impl_within a0 a1 a2 = some r) : CallOK Try.prog 111 [.imm tI a0, .imm tI a1, .imm tI a2] [⟨false, .bool, r⟩] [] := by
  unfold impl_within at hr
  refine CallOK.of_body (ts := [(false, .bool)]) Try.func111 rfl (by kernel_rfl) (Nat.le_of_ble_eq_true (by kernel_rfl)) fun cx hP hN hO hF => ?_
  have hO : cx.own.map Prod.fst = [] := hO
  have hX := CxIs.mk hP hN hO
  have hF := hF rfl
  show HT cx ⟨[(0, iV a0), (1, iV a1), (2, iV a2)], [], 0⟩ _ _
  refine HT.rg2 [oH] ⟨[(0, iV a0), (1, iV a1), (2, iV a2)], [], 0⟩ hX (by kernel_rfl) allNil ?_
  obtain ⟨v1', hT3, hr⟩ := of_bind hr
  refine HT.join (fun (v1 : Bool) => ⟨[(6, bV v1)], [], 0⟩) (fun v => v = v1') (fun v1 hv2 => ?_) (fun cont => ?_)
  · subst hv2
    have hr := of_some hr
    subst hr
    exact HT.ret ⟨[bV v1], [], [], by kernel_rfl, by kernel_rfl, rfl, by kernel_rfl, by kernel_rfl, trivial⟩
  · rcases of_bif hT3 with ⟨hb4, hT3⟩ | ⟨hb4, hT3⟩
    · exact HT.rgK [oH, oH, oH, oH, ⟨some true, .no⟩, ⟨some true, .no⟩, ⟨some true, .no⟩, ⟨none, .tv true⟩, oH] [] [] hX (by kernel_rfl) (allCons hb4 (allCons hb4 (allCons hb4 (allCons hb4 allNil)))) (fun _ h => (qThen (h.ht (cont (decide (a0 ≤ a2)) (of_some hT3)))))
    · exact HT.rgK [oH, oH, oH, oH, ⟨some false, .no⟩, ⟨some false, .no⟩, ⟨some false, .no⟩, ⟨none, .tv false⟩, oH] [] [] hX (by kernel_rfl) (allCons hb4 (allCons hb4 (allCons hb4 (allCons hb4 allNil)))) (fun _ h => (qThen (h.ht (cont false (of_some hT3)))))

noncomputable def impl_areWithin_B1 (a0 : List Int) (a1 : Int) (a2 : Int) (s1 : Int) : Option ((Int) ⊕ (Unit ⊕ Unit)) :=
  bif (decide (s1 < (lenI a0))) then
    guardP ((0 : Int) ≤ s1 ∧ s1 < lenI a0) (
      (impl_within (List.getD a0 (Int.toNat s1) (0 : Int)) a1 a2).bind fun y10 =>
      bif (!y10) then
        some (.inr (.inr ()))
      else
        some (.inl (wadd .i64 s1 (1 : Int))))
  else
    some (.inr (.inl ()))

noncomputable def impl_areWithin (a0 : List Int) (a1 : Int) (a2 : Int) : Option (Bool) :=
  (rounds (impl_areWithin_B1 a0 a1 a2) (0 : Int)).bind fun r2 => match r2 with
    | .inl r3 =>
      some true
    | .inr r4 =>
      some false

theorem f113_ok {a0 : List Int} {a1 : Int} {a2 : Int} {r : Bool} (hr : impl_areWithin a0 a1 a2 = some r) : CallOK Try.prog 113 [.imm tLI a0, .imm tI a1, .imm tI a2] [⟨false, .bool, r⟩] [] := by
  unfold impl_areWithin at hr
  refine CallOK.of_body (ts := [(false, .bool)]) Try.func113 rfl (by kernel_rfl) (Nat.le_of_ble_eq_true (by kernel_rfl)) fun cx hP hN hO hF => ?_
  have hO : cx.own.map Prod.fst = [] := hO
  have hX := CxIs.mk hP hN hO
  have hF := hF rfl
  show HT cx ⟨[(0, nV a0), (1, iV a1), (2, iV a2)], [], 0⟩ _ _
  refine HT.rg2 [oH] ⟨[(0, nV a0), (1, iV a1), (2, iV a2)], [], 0⟩ hX (by kernel_rfl) allNil ?_
  refine HT.seq ?_
  refine HT.rg2 (oHs 3) ⟨[(1, iV a1), (2, iV a2), (9, nV a0), (10, iV (lenI a0)), (11, iV (0 : Int))], [], 0⟩ hX (by kernel_rfl) allNil ?_
  refine HT.block ?_
  obtain ⟨r2, hL13, hr⟩ := of_bind hr
  refine HT.loopL (fun (s1 : Int) => ⟨[(1, iV a1), (2, iV a2), (9, nV a0), (10, iV (lenI a0)), (11, iV s1)], [], 0⟩) (fun (r2 : Unit ⊕ Unit) => match r2 with | .inl r3 => (.exit 0, ⟨[], [], 0⟩) | .inr r4 => (.ret, ⟨[(6, bV false)], [], 0⟩)) (Le.re [] [] hX (by kernel_rfl)) hL13 ?_ (fun s1 x5 hx6 hk7 => ?_)
  · rcases r2 with r3 | r4
    · refine (qBlockX (qThen ?_))
      refine HT.rg2 [oH] ⟨[(6, bV true)], [], 0⟩ hX (by kernel_rfl) allNil ?_
      have hr := of_some hr
      subst hr
      exact HT.ret ⟨[bV true], [], [], by kernel_rfl, by kernel_rfl, rfl, by kernel_rfl, by kernel_rfl, trivial⟩
    · have hr := of_some hr
      subst hr
      exact (qBlockR (qThenR ⟨[bV false], [], [], by kernel_rfl, by kernel_rfl, rfl, by kernel_rfl, by kernel_rfl, trivial⟩))
  · refine HT.rg2 [oH] ⟨[(1, iV a1), (2, iV a2), (9, nV a0), (10, iV (lenI a0)), (11, iV s1), (12, bV (decide (s1 < (lenI a0))))], [], 0⟩ hX (by kernel_rfl) allNil ?_
    refine HT.seq ?_
    rcases of_bif hx6 with ⟨hb8, hx6⟩ | ⟨hb8, hx6⟩
    · refine HT.cond1 rfl hb8 ?_
      refine HT.skip (qThen ?_)
      refine HT.seq ?_
      refine HT.block ?_
      obtain ⟨hg9, hx6⟩ := of_guard hx6
      refine HT.rg2 (oHs 3) ⟨[(1, iV a1), (2, iV a2), (8, iV (List.getD a0 (Int.toNat s1) (0 : Int))), (9, nV a0), (10, iV (lenI a0)), (11, iV s1)], [], 0⟩ hX (by kernel_rfl) (allCons hg9 allNil) ?_
      obtain ⟨y10, hc11, hx6⟩ := of_bind hx6
      refine HT.rg2 [oH, oH, oH, ⟨none, .call [.imm tI, .imm tI, .imm tI] [⟨false, .bool, y10⟩] []⟩, oH] ⟨[(1, iV a1), (2, iV a2), (9, nV a0), (10, iV (lenI a0)), (11, iV s1), (19, bV (!y10))], [], 0⟩ hX (by kernel_rfl) (allCons (f111_ok hc11) allNil) ?_
      rcases of_bif hx6 with ⟨hb12, hx6⟩ | ⟨hb12, hx6⟩
      · refine HT.cond1 rfl hb12 ?_
        refine HT.rg2 [oH] ⟨[(6, bV false)], [], 0⟩ hX (by kernel_rfl) allNil ?_
        have hx6 := of_some hx6
        subst hx6
        exact HT.retL (Le.re [] [] hX (by kernel_rfl)) (qBlockR (qThenR (qLoopR (hk7 (.inr ()) rfl))))
      · refine HT.cond0 rfl hb12 ?_
        refine HT.skip (qBlock (qThen ?_))
        have hx6 := of_some hx6
        subst hx6
        exact HT.rgK (oHs 2) [] [] hX (by kernel_rfl) allNil (fun _ h => (qLoopN ⟨(wadd .i64 s1 (1 : Int)), rfl, h⟩))
    · refine HT.cond0 rfl hb8 ?_
      have hx6 := of_some hx6
      subst hx6
      exact HT.exitL (Le.re [] [] hX (by kernel_rfl)) (qThenE (qLoopE (hk7 (.inl ()) rfl)))

noncomputable def impl_ValidPlain (a0 : Int × Int × List Int × List Bool) : Option (Bool) :=
  (show Option (Bool) from
    (impl_within a0.1 (1 : Int) (64 : Int)).bind fun y4 =>
    bif y4 then
      (impl_within a0.2.1 (1 : Int) (4 : Int)).bind fun y7 =>
      bif y7 then
        bif ((lenI a0.2.2.1) == (wmul .i64 a0.1 a0.2.1)) then
          (impl_areWithin a0.2.2.1 (0 : Int) (wsub .i64 a0.1 (1 : Int))).bind fun y11 =>
          bif y11 then
            some ((lenI a0.2.2.2) == a0.1)
          else
            some false
        else
          some false
      else
        some false
    else
      some false).bind fun v1 =>
  some v1

theorem f100_ok {a0 : Int × Int × List Int × List Bool} {r : Bool} (hr : impl_ValidPlain a0 = some r) : CallOK Try.prog 100 [.imm (.st (.pair tI (.pair tI (.pair tLI (.sl .bool))))) a0] [⟨false, .bool, r⟩] [] := by
  unfold impl_ValidPlain at hr
  refine CallOK.of_body (ts := [(false, .bool)]) Try.func100 rfl (by kernel_rfl) (Nat.le_of_ble_eq_true (by kernel_rfl)) fun cx hP hN hO hF => ?_
  have hO : cx.own.map Prod.fst = [] := hO
  have hX := CxIs.mk hP hN hO
  have hF := hF rfl
  show HT cx ⟨[(0, .agg [iC a0.1, iC a0.2.1, nC a0.2.2.1, .dat (.sl .bool) a0.2.2.2])], [], 0⟩ _ _
  refine HT.rg2 (oHs 2) ⟨[(1, pV 0 0)], [(0, .box [iC a0.1, iC a0.2.1, nC a0.2.2.1, .dat (.sl .bool) a0.2.2.2])], 1⟩ hX (by kernel_rfl) allNil ?_
  obtain ⟨v1', hT3, hr⟩ := of_bind hr
  refine HT.join (fun (v1 : Bool) => ⟨[(2, bV v1)], [], 0⟩) (fun v => v = v1') (fun v1 hv2 => ?_) (fun cont => ?_)
  · subst hv2
    have hr := of_some hr
    subst hr
    exact HT.ret ⟨[bV v1], [], [], by kernel_rfl, by kernel_rfl, rfl, by kernel_rfl, by kernel_rfl, trivial⟩
  · obtain ⟨y4, hc5, hT3⟩ := of_bind hT3
    rcases of_bif hT3 with ⟨hb6, hT3⟩ | ⟨hb6, hT3⟩
    · obtain ⟨y7, hc8, hT3⟩ := of_bind hT3
      rcases of_bif hT3 with ⟨hb9, hT3⟩ | ⟨hb9, hT3⟩
      · rcases of_bif hT3 with ⟨hb10, hT3⟩ | ⟨hb10, hT3⟩
        · obtain ⟨y11, hc12, hT3⟩ := of_bind hT3
          rcases of_bif hT3 with ⟨hb13, hT3⟩ | ⟨hb13, hT3⟩
          · exact HT.rgK [oH, oH, ⟨none, .call [.imm tI, .imm tI, .imm tI] [⟨false, .bool, y4⟩] []⟩, oH, ⟨some true, .no⟩, ⟨some true, .no⟩, ⟨some true, .call [.imm tI, .imm tI, .imm tI] [⟨false, .bool, y7⟩] []⟩, ⟨none, .tv true⟩, oH, ⟨some true, .no⟩, ⟨some true, .no⟩, ⟨some true, .no⟩, ⟨some true, .no⟩, ⟨some true, .no⟩, ⟨some true, .no⟩, ⟨some true, .no⟩, ⟨some true, .no⟩, ⟨some true, .no⟩, ⟨none, .tv true⟩, oH, ⟨some true, .no⟩, ⟨some true, .no⟩, ⟨some true, .no⟩, ⟨some true, .no⟩, ⟨some true, .no⟩, ⟨some true, .call [.imm tLI, .imm tI, .imm tI] [⟨false, .bool, y11⟩] []⟩, ⟨none, .tv true⟩, oH, ⟨some true, .no⟩, ⟨some true, .no⟩, ⟨some true, .no⟩, ⟨some true, .no⟩, ⟨some true, .no⟩, ⟨some true, .no⟩, ⟨none, .tv true⟩, oH] [] [] hX (by kernel_rfl) (allCons (f111_ok hc5) (allCons hb6 (allCons hb6 (allCons hb6 (allCons (f111_ok hc8) (allCons hb6 (allCons hb9 (allCons hb9 (allCons hb9 (allCons hb9 (allCons hb9 (allCons hb9 (allCons hb9 (allCons hb9 (allCons hb9 (allCons hb9 (allCons hb10 (allCons hb10 (allCons hb10 (allCons hb10 (allCons hb10 (allCons hb10 (allCons (f113_ok hc12) (allCons hb10 (allCons hb13 (allCons hb13 (allCons hb13 (allCons hb13 (allCons hb13 (allCons hb13 (allCons hb13 allNil))))))))))))))))))))))))))))))) (fun _ h => (qThen (h.ht (cont ((lenI a0.2.2.2) == a0.1) (of_some hT3)))))
          · exact HT.rgK [oH, oH, ⟨none, .call [.imm tI, .imm tI, .imm tI] [⟨false, .bool, y4⟩] []⟩, oH, ⟨some true, .no⟩, ⟨some true, .no⟩, ⟨some true, .call [.imm tI, .imm tI, .imm tI] [⟨false, .bool, y7⟩] []⟩, ⟨none, .tv true⟩, oH, ⟨some true, .no⟩, ⟨some true, .no⟩, ⟨some true, .no⟩, ⟨some true, .no⟩, ⟨some true, .no⟩, ⟨some true, .no⟩, ⟨some true, .no⟩, ⟨some true, .no⟩, ⟨some true, .no⟩, ⟨none, .tv true⟩, oH, ⟨some true, .no⟩, ⟨some true, .no⟩, ⟨some true, .no⟩, ⟨some true, .no⟩, ⟨some true, .no⟩, ⟨some true, .call [.imm tLI, .imm tI, .imm tI] [⟨false, .bool, y11⟩] []⟩, ⟨none, .tv true⟩, oH, ⟨some false, .no⟩, ⟨some false, .no⟩, ⟨some false, .no⟩, ⟨some false, .no⟩, ⟨some false, .no⟩, ⟨some false, .no⟩, ⟨none, .tv false⟩, oH] [] [] hX (by kernel_rfl) (allCons (f111_ok hc5) (allCons hb6 (allCons hb6 (allCons hb6 (allCons (f111_ok hc8) (allCons hb6 (allCons hb9 (allCons hb9 (allCons hb9 (allCons hb9 (allCons hb9 (allCons hb9 (allCons hb9 (allCons hb9 (allCons hb9 (allCons hb9 (allCons hb10 (allCons hb10 (allCons hb10 (allCons hb10 (allCons hb10 (allCons hb10 (allCons (f113_ok hc12) (allCons hb10 (allCons hb13 (allCons hb13 (allCons hb13 (allCons hb13 (allCons hb13 (allCons hb13 (allCons hb13 allNil))))))))))))))))))))))))))))))) (fun _ h => (qThen (h.ht (cont false (of_some hT3)))))
        · exact HT.rgK [oH, oH, ⟨none, .call [.imm tI, .imm tI, .imm tI] [⟨false, .bool, y4⟩] []⟩, oH, ⟨some true, .no⟩, ⟨some true, .no⟩, ⟨some true, .call [.imm tI, .imm tI, .imm tI] [⟨false, .bool, y7⟩] []⟩, ⟨none, .tv true⟩, oH, ⟨some true, .no⟩, ⟨some true, .no⟩, ⟨some true, .no⟩, ⟨some true, .no⟩, ⟨some true, .no⟩, ⟨some true, .no⟩, ⟨some true, .no⟩, ⟨some true, .no⟩, ⟨some true, .no⟩, ⟨none, .tv true⟩, oH, ⟨some false, .no⟩, ⟨some false, .no⟩, ⟨some false, .no⟩, ⟨some false, .no⟩, ⟨some false, .no⟩, ⟨some false, .no⟩, ⟨none, .tv false⟩, oH, ⟨some false, .no⟩, ⟨some false, .no⟩, ⟨some false, .no⟩, ⟨some false, .no⟩, ⟨some false, .no⟩, ⟨some false, .no⟩, ⟨none, .tv false⟩, oH] [] [] hX (by kernel_rfl) (allCons (f111_ok hc5) (allCons hb6 (allCons hb6 (allCons hb6 (allCons (f111_ok hc8) (allCons hb6 (allCons hb9 (allCons hb9 (allCons hb9 (allCons hb9 (allCons hb9 (allCons hb9 (allCons hb9 (allCons hb9 (allCons hb9 (allCons hb9 (allCons hb10 (allCons hb10 (allCons hb10 (allCons hb10 (allCons hb10 (allCons hb10 (allCons hb10 (allCons (rfl : false = false) (allCons (rfl : false = false) (allCons (rfl : false = false) (allCons (rfl : false = false) (allCons (rfl : false = false) (allCons (rfl : false = false) (allCons (rfl : false = false) allNil)))))))))))))))))))))))))))))) (fun _ h => (qThen (h.ht (cont false (of_some hT3)))))
      · exact HT.rgK [oH, oH, ⟨none, .call [.imm tI, .imm tI, .imm tI] [⟨false, .bool, y4⟩] []⟩, oH, ⟨some true, .no⟩, ⟨some true, .no⟩, ⟨some true, .call [.imm tI, .imm tI, .imm tI] [⟨false, .bool, y7⟩] []⟩, ⟨none, .tv true⟩, oH, ⟨some false, .no⟩, ⟨some false, .no⟩, ⟨some false, .no⟩, ⟨some false, .no⟩, ⟨some false, .no⟩, ⟨some false, .no⟩, ⟨some false, .no⟩, ⟨some false, .no⟩, ⟨some false, .no⟩, ⟨none, .tv false⟩, oH, ⟨some false, .no⟩, ⟨some false, .no⟩, ⟨some false, .no⟩, ⟨some false, .no⟩, ⟨some false, .no⟩, ⟨some false, .no⟩, ⟨none, .tv false⟩, oH, ⟨some false, .no⟩, ⟨some false, .no⟩, ⟨some false, .no⟩, ⟨some false, .no⟩, ⟨some false, .no⟩, ⟨some false, .no⟩, ⟨none, .tv false⟩, oH] [] [] hX (by kernel_rfl) (allCons (f111_ok hc5) (allCons hb6 (allCons hb6 (allCons hb6 (allCons (f111_ok hc8) (allCons hb6 (allCons hb9 (allCons hb9 (allCons hb9 (allCons hb9 (allCons hb9 (allCons hb9 (allCons hb9 (allCons hb9 (allCons hb9 (allCons hb9 (allCons (rfl : false = false) (allCons (rfl : false = false) (allCons (rfl : false = false) (allCons (rfl : false = false) (allCons (rfl : false = false) (allCons (rfl : false = false) (allCons (rfl : false = false) (allCons (rfl : false = false) (allCons (rfl : false = false) (allCons (rfl : false = false) (allCons (rfl : false = false) (allCons (rfl : false = false) (allCons (rfl : false = false) (allCons (rfl : false = false) allNil)))))))))))))))))))))))))))))) (fun _ h => (qThen (h.ht (cont false (of_some hT3)))))
    · exact HT.rgK [oH, oH, ⟨none, .call [.imm tI, .imm tI, .imm tI] [⟨false, .bool, y4⟩] []⟩, oH, ⟨some false, .no⟩, ⟨some false, .no⟩, ⟨some false, .no⟩, ⟨none, .tv false⟩, oH, ⟨some false, .no⟩, ⟨some false, .no⟩, ⟨some false, .no⟩, ⟨some false, .no⟩, ⟨some false, .no⟩, ⟨some false, .no⟩, ⟨some false, .no⟩, ⟨some false, .no⟩, ⟨some false, .no⟩, ⟨none, .tv false⟩, oH, ⟨some false, .no⟩, ⟨some false, .no⟩, ⟨some false, .no⟩, ⟨some false, .no⟩, ⟨some false, .no⟩, ⟨some false, .no⟩, ⟨none, .tv false⟩, oH, ⟨some false, .no⟩, ⟨some false, .no⟩, ⟨some false, .no⟩, ⟨some false, .no⟩, ⟨some false, .no⟩, ⟨some false, .no⟩, ⟨none, .tv false⟩, oH] [] [] hX (by kernel_rfl) (allCons (f111_ok hc5) (allCons hb6 (allCons hb6 (allCons hb6 (allCons hb6 (allCons (rfl : false = false) (allCons (rfl : false = false) (allCons (rfl : false = false) (allCons (rfl : false = false) (allCons (rfl : false = false) (allCons (rfl : false = false) (allCons (rfl : false = false) (allCons (rfl : false = false) (allCons (rfl : false = false) (allCons (rfl : false = false) (allCons (rfl : false = false) (allCons (rfl : false = false) (allCons (rfl : false = false) (allCons (rfl : false = false) (allCons (rfl : false = false) (allCons (rfl : false = false) (allCons (rfl : false = false) (allCons (rfl : false = false) (allCons (rfl : false = false) (allCons (rfl : false = false) (allCons (rfl : false = false) (allCons (rfl : false = false) (allCons (rfl : false = false) (allCons (rfl : false = false) allNil))))))))))))))))))))))))))))) (fun _ h => (qThen (h.ht (cont false (of_some hT3)))))

noncomputable def impl_ValidKept (a0 : List UInt8 × Int × Int × List Int × List Bool) : Option (Bool) :=
  (show Option (Bool) from
    (impl_IsName a0.1).bind fun y4 =>
    bif y4 then
      (impl_ValidPlain (a0.2.1, a0.2.2.1, a0.2.2.2.1, a0.2.2.2.2)).bind fun y7 =>
      some y7
    else
      some false).bind fun v1 =>
  some v1

theorem f15_ok {a0 : List UInt8 × Int × Int × List Int × List Bool} {r : Bool} (hr : impl_ValidKept a0 = some r) : CallOK Try.prog 15 [.imm (.st (.pair .str (.st (.pair tI (.pair tI (.pair tLI (.sl .bool))))))) a0] [⟨false, .bool, r⟩] [] := by
  unfold impl_ValidKept at hr
  refine CallOK.of_body (ts := [(false, .bool)]) Try.func15 rfl (by kernel_rfl) (Nat.le_of_ble_eq_true (by kernel_rfl)) fun cx hP hN hO hF => ?_
  have hO : cx.own.map Prod.fst = [] := hO
  have hX := CxIs.mk hP hN hO
  have hF := hF rfl
  show HT cx ⟨[(0, .agg [.dat .str a0.1, iC a0.2.1, iC a0.2.2.1, nC a0.2.2.2.1, .dat (.sl .bool) a0.2.2.2.2])], [], 0⟩ _ _
  refine HT.rg2 (oHs 2) ⟨[(1, pV 0 0)], [(0, .box [.dat .str a0.1, iC a0.2.1, iC a0.2.2.1, nC a0.2.2.2.1, .dat (.sl .bool) a0.2.2.2.2])], 1⟩ hX (by kernel_rfl) allNil ?_
  obtain ⟨v1', hT3, hr⟩ := of_bind hr
  refine HT.join (fun (v1 : Bool) => ⟨[(2, bV v1)], [], 0⟩) (fun v => v = v1') (fun v1 hv2 => ?_) (fun cont => ?_)
  · subst hv2
    have hr := of_some hr
    subst hr
    exact HT.ret ⟨[bV v1], [], [], by kernel_rfl, by kernel_rfl, rfl, by kernel_rfl, by kernel_rfl, trivial⟩
  · obtain ⟨y4, hc5, hT3⟩ := of_bind hT3
    rcases of_bif hT3 with ⟨hb6, hT3⟩ | ⟨hb6, hT3⟩
    · obtain ⟨y7, hc8, hT3⟩ := of_bind hT3
      exact HT.rgK [oH, oH, ⟨none, .call [.imm .str] [⟨false, .bool, y4⟩] []⟩, oH, ⟨some true, .no⟩, ⟨some true, .no⟩, ⟨some true, .call [.imm (.st (.pair tI (.pair tI (.pair tLI (.sl .bool)))))] [⟨false, .bool, y7⟩] []⟩, ⟨none, .tv true⟩, oH] [] [] hX (by kernel_rfl) (allCons (f99_ok hc5) (allCons hb6 (allCons hb6 (allCons hb6 (allCons (f100_ok hc8) (allCons hb6 allNil)))))) (fun _ h => (qThen (h.ht (cont y7 (of_some hT3)))))
    · exact HT.rgK [oH, oH, ⟨none, .call [.imm .str] [⟨false, .bool, y4⟩] []⟩, oH, ⟨some false, .no⟩, ⟨some false, .no⟩, ⟨some false, .no⟩, ⟨none, .tv false⟩, oH] [] [] hX (by kernel_rfl) (allCons (f99_ok hc5) (allCons hb6 (allCons hb6 (allCons hb6 (allCons hb6 allNil))))) (fun _ h => (qThen (h.ht (cont false (of_some hT3)))))

noncomputable def impl_CheckOf_B1 (a1 : List UInt8) (s4 : Int × Int) : Option ((Int × Int) ⊕ (Int)) :=
  bif (decide (s4.2 < (lenI a1))) then
    guardP ((0 : Int) ≤ s4.2 ∧ s4.2 < lenI a1) (
      some (.inl ((Int.tmod (wadd .i64 (wadd .i64 (wmul .i64 (919 : Int) s4.1) (IntKind.wrap .i64 ((((List.getD a1 (Int.toNat s4.2) 0 : UInt8).toNat : Nat)) : Int))) (191 : Int)) (65003 : Int)), (wadd .i64 s4.2 (1 : Int)))))
  else
    some (.inr s4.1)

noncomputable def impl_CheckOf (a0 : Int) (a1 : List UInt8) : Option (Int × Bool) :=
  (impl_within a0 (0 : Int) (65002 : Int)).bind fun y1 =>
  bif (!y1) then
    some ((0 : Int), false)
  else
    (rounds (impl_CheckOf_B1 a1) (a0, (0 : Int))).bind fun r6 =>
    some (r6, true)

theorem f97_ok {a0 : Int} {a1 : List UInt8} {r : Int × Bool} (hr : impl_CheckOf a0 a1 = some r) : CallOK Try.prog 97 [.imm tI a0, .imm .str a1] [⟨false, tI, r.1⟩, ⟨false, .bool, r.2⟩] [] := by
  unfold impl_CheckOf at hr
  refine CallOK.of_body (ts := [(false, tI), (false, .bool)]) Try.func97 rfl (by kernel_rfl) (Nat.le_of_ble_eq_true (by kernel_rfl)) fun cx hP hN hO hF => ?_
  have hO : cx.own.map Prod.fst = [] := hO
  have hX := CxIs.mk hP hN hO
  have hF := hF rfl
  show HT cx ⟨[(0, iV a0), (1, .one (.dat .str a1))], [], 0⟩ _ _
  refine HT.rg2 (oHs 2) ⟨[(0, iV a0), (1, .one (.dat .str a1))], [], 0⟩ hX (by kernel_rfl) allNil ?_
  refine HT.seq ?_
  obtain ⟨y1, hc2, hr⟩ := of_bind hr
  refine HT.rg2 [oH, ⟨none, .call [.imm tI, .imm tI, .imm tI] [⟨false, .bool, y1⟩] []⟩, oH] ⟨[(0, iV a0), (1, .one (.dat .str a1)), (9, bV (!y1))], [], 0⟩ hX (by kernel_rfl) (allCons (f111_ok hc2) allNil) ?_
  rcases of_bif hr with ⟨hb3, hr⟩ | ⟨hb3, hr⟩
  · refine HT.cond1 rfl hb3 ?_
    refine HT.rg2 (oHs 2) ⟨[(4, iV (0 : Int)), (5, bV false)], [], 0⟩ hX (by kernel_rfl) allNil ?_
    have hr := of_some hr
    subst hr
    exact HT.ret (qThenR ⟨[iV (0 : Int), bV false], [], [], by kernel_rfl, by kernel_rfl, rfl, by kernel_rfl, by kernel_rfl, trivial⟩)
  · refine HT.cond0 rfl hb3 ?_
    refine HT.skip (qThen ?_)
    refine HT.seq ?_
    refine HT.rg2 (oHs 3) ⟨[(0, iV a0), (1, .one (.dat .str a1)), (11, iV (lenI a1)), (12, iV (0 : Int))], [], 0⟩ hX (by kernel_rfl) allNil ?_
    refine HT.block ?_
    obtain ⟨r5, hL12, hr⟩ := of_bind hr
    refine HT.loopL (fun (s4 : Int × Int) => ⟨[(0, iV s4.1), (1, .one (.dat .str a1)), (11, iV (lenI a1)), (12, iV s4.2)], [], 0⟩) (fun (r6 : Int) => (.exit 0, ⟨[(0, iV r6)], [], 0⟩)) (Le.re [] [] hX (by kernel_rfl)) hL12 ?_ (fun s4 x7 hx8 hk9 => ?_)
    · refine (qBlockX (qThen ?_))
      refine HT.rg2 (oHs 3) ⟨[(4, iV r5), (5, bV true)], [], 0⟩ hX (by kernel_rfl) allNil ?_
      have hr := of_some hr
      subst hr
      exact HT.ret ⟨[iV r5, bV true], [], [], by kernel_rfl, by kernel_rfl, rfl, by kernel_rfl, by kernel_rfl, trivial⟩
    · refine HT.rg2 [oH] ⟨[(0, iV s4.1), (1, .one (.dat .str a1)), (11, iV (lenI a1)), (12, iV s4.2), (13, bV (decide (s4.2 < (lenI a1))))], [], 0⟩ hX (by kernel_rfl) allNil ?_
      refine HT.seq ?_
      rcases of_bif hx8 with ⟨hb10, hx8⟩ | ⟨hb10, hx8⟩
      · refine HT.cond1 rfl hb10 ?_
        refine HT.skip (qThen ?_)
        refine HT.seq ?_
        refine HT.block ?_
        refine HT.rg2 (oHs 2) ⟨[(0, iV s4.1), (1, .one (.dat .str a1)), (6, iV s4.2), (11, iV (lenI a1)), (12, iV s4.2)], [], 0⟩ hX (by kernel_rfl) allNil ?_
        obtain ⟨hg11, hx8⟩ := of_guard hx8
        refine HT.rgL (oHs 10) ⟨[(0, iV (Int.tmod (wadd .i64 (wadd .i64 (wmul .i64 (919 : Int) s4.1) (IntKind.wrap .i64 ((((List.getD a1 (Int.toNat s4.2) 0 : UInt8).toNat : Nat)) : Int))) (191 : Int)) (65003 : Int))), (1, .one (.dat .str a1)), (11, iV (lenI a1)), (12, iV s4.2)], [], 0⟩ hX (by kernel_rfl) (allCons hg11 (allCons (show (65003 : Int) ≠ 0 from by decide) allNil)) (qBlock (qThen ?_))
        have hx8 := of_some hx8
        subst hx8
        exact HT.rgK (oHs 2) [] [] hX (by kernel_rfl) allNil (fun _ h => (qLoopN ⟨((Int.tmod (wadd .i64 (wadd .i64 (wmul .i64 (919 : Int) s4.1) (IntKind.wrap .i64 ((((List.getD a1 (Int.toNat s4.2) 0 : UInt8).toNat : Nat)) : Int))) (191 : Int)) (65003 : Int)), (wadd .i64 s4.2 (1 : Int))), rfl, h⟩))
      · refine HT.cond0 rfl hb10 ?_
        have hx8 := of_some hx8
        subst hx8
        exact HT.exitL (Le.re [] [] hX (by kernel_rfl)) (qThenE (qLoopE (hk9 s4.1 rfl)))

noncomputable def impl_StoreKept_B1 (a0 : List UInt8 × Int × Int × List Int × List Bool) (s14 : Int × List Int) : Option ((Int × List Int) ⊕ (List Int)) :=
  bif (decide (s14.1 < (lenI a0.2.2.2.2))) then
    (show Option (List Int) from
      guardP ((0 : Int) ≤ s14.1 ∧ s14.1 < lenI a0.2.2.2.2) (
        bif (List.getD a0.2.2.2.2 (Int.toNat s14.1) false) then
          guardP (List.length s14.2 + List.length ([(1 : Int)] : List Int) ≤ appMax) (
            some (s14.2 ++ ([(1 : Int)] : List Int)))
        else
          guardP (List.length s14.2 + List.length ([(0 : Int)] : List Int) ≤ appMax) (
            some (s14.2 ++ ([(0 : Int)] : List Int))))).bind fun v26 =>
    some (.inl ((wadd .i64 s14.1 (1 : Int)), v26))
  else
    some (.inr s14.2)

noncomputable def impl_StoreKept_B2 (a0 : List UInt8 × Int × Int × List Int × List Bool) (s11 : Int × List Int) : Option ((Int × List Int) ⊕ (List Int)) :=
  bif (decide (s11.1 < (lenI a0.2.2.2.1))) then
    guardP ((0 : Int) ≤ s11.1 ∧ s11.1 < lenI a0.2.2.2.1) (
      guardP (List.length s11.2 + List.length ([(IntKind.wrap .u8 (List.getD a0.2.2.2.1 (Int.toNat s11.1) (0 : Int)))] : List Int) ≤ appMax) (
        some (.inl ((wadd .i64 s11.1 (1 : Int)), (s11.2 ++ ([(IntKind.wrap .u8 (List.getD a0.2.2.2.1 (Int.toNat s11.1) (0 : Int)))] : List Int))))))
  else
    some (.inr s11.2)

noncomputable def impl_StoreKept (a0 : List UInt8 × Int × Int × List Int × List Bool) : Option (List UInt8 × Bool) :=
  (impl_ValidKept (a0.1, a0.2.1, a0.2.2.1, a0.2.2.2.1, a0.2.2.2.2)).bind fun y1 =>
  bif (!y1) then
    some (([] : List UInt8), false)
  else
    guardP (List.length ([(65 : Int), (85 : Int), (84 : Int), (49 : Int)] : List Int) + List.length ([(IntKind.wrap .u8 (lenI a0.1))] : List Int) ≤ appMax) (
      (some (([(65 : Int), (85 : Int), (84 : Int), (49 : Int)] : List Int) ++ ([(IntKind.wrap .u8 (lenI a0.1))] : List Int))).bind fun q5 =>
      guardP (List.length q5 + List.length a0.1 ≤ appMax) (
        guardP (List.length (q5 ++ bytesI a0.1) + List.length ([(IntKind.wrap .u8 a0.2.1), (IntKind.wrap .u8 a0.2.2.1)] : List Int) ≤ appMax) (
          (some ((q5 ++ bytesI a0.1) ++ ([(IntKind.wrap .u8 a0.2.1), (IntKind.wrap .u8 a0.2.2.1)] : List Int))).bind fun q9 =>
          (rounds (impl_StoreKept_B2 a0) ((0 : Int), q9)).bind fun r13 =>
          (rounds (impl_StoreKept_B1 a0) ((0 : Int), r13)).bind fun r16 =>
          (impl_CheckOf (0 : Int) (bytesO r16)).bind fun y17 =>
          guardP (List.length r16 + List.length ([(IntKind.wrap .u8 y17.1), (IntKind.wrap .u8 (Int.fdiv y17.1 (2 ^ (min (Int.toNat (8 : Int)) (IntKind.bits .i64)))))] : List Int) ≤ appMax) (
            (some (bytesO (r16 ++ ([(IntKind.wrap .u8 y17.1), (IntKind.wrap .u8 (Int.fdiv y17.1 (2 ^ (min (Int.toNat (8 : Int)) (IntKind.bits .i64)))))] : List Int)))).bind fun q20 =>
            some (q20, true)))))

theorem f13_ok {a0 : List UInt8 × Int × Int × List Int × List Bool} {r : List UInt8 × Bool} (hr : impl_StoreKept a0 = some r) : CallOK Try.prog 13 [.imm (.st (.pair .str (.st (.pair tI (.pair tI (.pair tLI (.sl .bool))))))) a0] [⟨false, .str, r.1⟩, ⟨false, .bool, r.2⟩] [] := by
  unfold impl_StoreKept at hr
  refine CallOK.of_body (ts := [(false, .str), (false, .bool)]) Try.func13 rfl (by kernel_rfl) (Nat.le_of_ble_eq_true (by kernel_rfl)) fun cx hP hN hO hF => ?_
  have hO : cx.own.map Prod.fst = [] := hO
  have hX := CxIs.mk hP hN hO
  have hF := hF rfl
  show HT cx ⟨[(0, .agg [.dat .str a0.1, iC a0.2.1, iC a0.2.2.1, nC a0.2.2.2.1, .dat (.sl .bool) a0.2.2.2.2])], [], 0⟩ _ _
  refine HT.rg2 (oHs 3) ⟨[(1, pV 0 0)], [(0, .box [.dat .str a0.1, iC a0.2.1, iC a0.2.2.1, nC a0.2.2.2.1, .dat (.sl .bool) a0.2.2.2.2])], 1⟩ hX (by kernel_rfl) allNil ?_
  refine HT.seq ?_
  obtain ⟨y1, hc2, hr⟩ := of_bind hr
  refine HT.rg2 [oH, ⟨none, .call [.imm (.st (.pair .str (.st (.pair tI (.pair tI (.pair tLI (.sl .bool)))))))] [⟨false, .bool, y1⟩] []⟩, oH] ⟨[(1, pV 0 0), (13, bV (!y1))], [(0, .box [.dat .str a0.1, iC a0.2.1, iC a0.2.2.1, nC a0.2.2.2.1, .dat (.sl .bool) a0.2.2.2.2])], 1⟩ hX (by kernel_rfl) (allCons (f15_ok hc2) allNil) ?_
  rcases of_bif hr with ⟨hb3, hr⟩ | ⟨hb3, hr⟩
  · refine HT.cond1 rfl hb3 ?_
    refine HT.rg2 (oHs 2) ⟨[(2, .one (.dat .str ([] : List UInt8))), (3, bV false)], [], 1⟩ hX (by kernel_rfl) allNil ?_
    have hr := of_some hr
    subst hr
    exact HT.ret (qThenR ⟨[.one (.dat .str ([] : List UInt8)), bV false], [], [], by kernel_rfl, by kernel_rfl, rfl, by kernel_rfl, by kernel_rfl, trivial⟩)
  · refine HT.cond0 rfl hb3 ?_
    refine HT.skip (qThen ?_)
    obtain ⟨hg4, hr⟩ := of_guard hr
    refine HT.rg2 [⟨none, .ty (.int .u8)⟩, oH, oH, oH, oH, oH, ⟨none, .ty (.int .u8)⟩, ⟨none, .ty (.int .u8)⟩, oH] ⟨[(1, pV 0 0), (4, aV 3)], [(3, .seq (.int .u8) (([(65 : Int), (85 : Int), (84 : Int), (49 : Int)] : List Int) ++ ([(IntKind.wrap .u8 (lenI a0.1))] : List Int))), (0, .box [.dat .str a0.1, iC a0.2.1, iC a0.2.2.1, nC a0.2.2.2.1, .dat (.sl .bool) a0.2.2.2.2])], 4⟩ hX (by kernel_rfl) (allCons (show 0 < List.length ([(65 : Int), (85 : Int), (84 : Int), (49 : Int)] : List Int) from by decide) (allCons hg4 allNil)) ?_
    obtain ⟨q5, hq6, hr⟩ := of_bind hr
    have hq6 := of_some2 hq6
    refine (Le.cv (s := ⟨[(3, 3), (0, 0)], [], [], false⟩) (own := []) (ps := [q5 = (([(65 : Int), (85 : Int), (84 : Int), (49 : Int)] : List Int) ++ ([(IntKind.wrap .u8 (lenI a0.1))] : List Int)), a0.1 = a0.1, a0.2.1 = a0.2.1, a0.2.2.1 = a0.2.2.1, a0.2.2.2.1 = a0.2.2.2.1, a0.2.2.2.2 = a0.2.2.2.2]) (st' := ⟨[(1, pV 0 0), (4, aV 3)], [(3, .seq (.int .u8) q5), (0, .box [.dat .str a0.1, iC a0.2.1, iC a0.2.2.1, nC a0.2.2.2.1, .dat (.sl .bool) a0.2.2.2.2])], 4⟩) hO (fun h => by cases h) (by kernel_rfl) ⟨hq6, rfl, rfl, rfl, rfl, rfl, trivial⟩).ht ?_
    obtain ⟨hg7, hr⟩ := of_guard hr
    refine HT.rg2 (oHs 5) ⟨[(1, pV 0 0), (4, aV 4)], [(4, .seq (.int .u8) (q5 ++ bytesI a0.1)), (0, .box [.dat .str a0.1, iC a0.2.1, iC a0.2.2.1, nC a0.2.2.2.1, .dat (.sl .bool) a0.2.2.2.2])], 5⟩ hX (by kernel_rfl) (allCons hg7 allNil) ?_
    obtain ⟨hg8, hr⟩ := of_guard hr
    refine HT.rg2 [oH, oH, oH, oH, oH, oH, oH, oH, oH, ⟨none, .ty (.int .u8)⟩, ⟨none, .ty (.int .u8)⟩, oH] ⟨[(1, pV 0 0), (4, aV 6)], [(6, .seq (.int .u8) ((q5 ++ bytesI a0.1) ++ ([(IntKind.wrap .u8 a0.2.1), (IntKind.wrap .u8 a0.2.2.1)] : List Int))), (0, .box [.dat .str a0.1, iC a0.2.1, iC a0.2.2.1, nC a0.2.2.2.1, .dat (.sl .bool) a0.2.2.2.2])], 7⟩ hX (by kernel_rfl) (allCons hg8 allNil) ?_
    obtain ⟨q9, hq10, hr⟩ := of_bind hr
    have hq10 := of_some2 hq10
    refine (Le.cv (s := ⟨[(6, 6), (0, 0)], [], [], false⟩) (own := []) (ps := [q9 = ((q5 ++ bytesI a0.1) ++ ([(IntKind.wrap .u8 a0.2.1), (IntKind.wrap .u8 a0.2.2.1)] : List Int)), a0.1 = a0.1, a0.2.1 = a0.2.1, a0.2.2.1 = a0.2.2.1, a0.2.2.2.1 = a0.2.2.2.1, a0.2.2.2.2 = a0.2.2.2.2]) (st' := ⟨[(1, pV 0 0), (4, aV 6)], [(6, .seq (.int .u8) q9), (0, .box [.dat .str a0.1, iC a0.2.1, iC a0.2.2.1, nC a0.2.2.2.1, .dat (.sl .bool) a0.2.2.2.2])], 7⟩) hO (fun h => by cases h) (by kernel_rfl) ⟨hq10, rfl, rfl, rfl, rfl, rfl, trivial⟩).ht ?_
    refine HT.seq ?_
    refine HT.rg2 (oHs 5) ⟨[(1, pV 0 0), (4, aV 6), (39, nV a0.2.2.2.1), (40, iV (lenI a0.2.2.2.1)), (41, iV (0 : Int))], [(6, .seq (.int .u8) q9), (0, .box [.dat .str a0.1, iC a0.2.1, iC a0.2.2.1, nC a0.2.2.2.1, .dat (.sl .bool) a0.2.2.2.2])], 7⟩ hX (by kernel_rfl) allNil ?_
    refine HT.block ?_
    obtain ⟨r12, hL40, hr⟩ := of_bind hr
    refine HT.loopL (fun (s11 : Int × List Int) => ⟨[(1, pV 0 0), (4, aV 1), (39, nV a0.2.2.2.1), (40, iV (lenI a0.2.2.2.1)), (41, iV s11.1)], [(0, .box [.dat .str a0.1, iC a0.2.1, iC a0.2.2.1, nC a0.2.2.2.1, .dat (.sl .bool) a0.2.2.2.2]), (1, .seq (.int .u8) s11.2)], 2⟩) (fun (r13 : List Int) => (.exit 0, ⟨[(1, pV 0 0), (4, aV 1)], [(0, .box [.dat .str a0.1, iC a0.2.1, iC a0.2.2.1, nC a0.2.2.2.1, .dat (.sl .bool) a0.2.2.2.2]), (1, .seq (.int .u8) r13)], 2⟩)) (Le.re [(0, 0), (6, 1)] [] hX (by kernel_rfl)) hL40 ?_ (fun s11 x34 hx35 hk36 => ?_)
    · refine (qBlockX (qThen ?_))
      refine HT.seq ?_
      refine HT.rg2 (oHs 5) ⟨[(4, aV 1), (53, .one (.dat (.sl .bool) a0.2.2.2.2)), (54, iV (lenI a0.2.2.2.2)), (55, iV (0 : Int))], [(1, .seq (.int .u8) r12)], 2⟩ hX (by kernel_rfl) allNil ?_
      refine HT.block ?_
      obtain ⟨r15, hL33, hr⟩ := of_bind hr
      refine HT.loopL (fun (s14 : Int × List Int) => ⟨[(4, aV 0), (53, .one (.dat (.sl .bool) a0.2.2.2.2)), (54, iV (lenI a0.2.2.2.2)), (55, iV s14.1)], [(0, .seq (.int .u8) s14.2)], 1⟩) (fun (r16 : List Int) => (.exit 2, ⟨[(4, aV 0)], [(0, .seq (.int .u8) r16)], 1⟩)) (Le.re [(1, 0)] [] hX (by kernel_rfl)) hL33 ?_ (fun s14 x22 hx23 hk24 => ?_)
      · refine (qBlockX (qThen ?_))
        obtain ⟨y17, hc18, hr⟩ := of_bind hr
        refine HT.rg2 [oH, oH, ⟨none, .call [.imm tI, .imm .str] [⟨false, tI, y17.1⟩, ⟨false, .bool, y17.2⟩] []⟩, oH, oH, oH, oH, oH] ⟨[(4, aV 0), (9, iV y17.1)], [(0, .seq (.int .u8) r15)], 1⟩ hX (by kernel_rfl) (allCons (f97_ok hc18) allNil) ?_
        obtain ⟨hg19, hr⟩ := of_guard hr
        refine HT.rg2 [oH, oH, oH, oH, oH, oH, ⟨none, .ty (.int .u8)⟩, ⟨none, .ty (.int .u8)⟩, oH, oH, oH] ⟨[(2, .one (.dat .str (bytesO (r15 ++ ([(IntKind.wrap .u8 y17.1), (IntKind.wrap .u8 (Int.fdiv y17.1 (2 ^ (min (Int.toNat (8 : Int)) (IntKind.bits .i64)))))] : List Int))))), (3, bV true)], [], 3⟩ hX (by kernel_rfl) (allCons (show (0 : Int) ≤ (8 : Int) from by decide) (allCons hg19 allNil)) ?_
        obtain ⟨q20, hq21, hr⟩ := of_bind hr
        have hq21 := of_some2 hq21
        refine (Le.cv (s := ⟨[], [], [], false⟩) (own := []) (ps := [q20 = (bytesO (r15 ++ ([(IntKind.wrap .u8 y17.1), (IntKind.wrap .u8 (Int.fdiv y17.1 (2 ^ (min (Int.toNat (8 : Int)) (IntKind.bits .i64)))))] : List Int))), true = true]) (st' := ⟨[(2, .one (.dat .str q20)), (3, bV true)], [], 3⟩) hO (fun h => by cases h) (by kernel_rfl) ⟨hq21, rfl, trivial⟩).ht ?_
        have hr := of_some hr
        subst hr
        exact HT.ret ⟨[.one (.dat .str q20), bV true], [], [], by kernel_rfl, by kernel_rfl, rfl, by kernel_rfl, by kernel_rfl, trivial⟩
      · refine HT.rg2 [oH] ⟨[(4, aV 0), (53, .one (.dat (.sl .bool) a0.2.2.2.2)), (54, iV (lenI a0.2.2.2.2)), (55, iV s14.1), (56, bV (decide (s14.1 < (lenI a0.2.2.2.2))))], [(0, .seq (.int .u8) s14.2)], 1⟩ hX (by kernel_rfl) allNil ?_
        refine HT.seq ?_
        rcases of_bif hx23 with ⟨hb25, hx23⟩ | ⟨hb25, hx23⟩
        · refine HT.cond1 rfl hb25 ?_
          refine HT.skip (qThen ?_)
          obtain ⟨v26', hT28, hx23⟩ := of_bind hx23
          refine HT.join (fun (v26 : List Int) => ⟨[(4, aV 0), (53, .one (.dat (.sl .bool) a0.2.2.2.2)), (54, iV (lenI a0.2.2.2.2)), (55, iV s14.1)], [(0, .seq (.int .u8) v26)], 1⟩) (fun v => v = v26') (fun v26 hv27 => ?_) (fun cont => ?_)
          · subst hv27
            have hx23 := of_some hx23
            subst hx23
            exact HT.rgK (oHs 2) [(0, 0)] [] hX (by kernel_rfl) allNil (fun _ h => (qLoopN ⟨((wadd .i64 s14.1 (1 : Int)), v26), rfl, h⟩))
          · refine HT.block ?_
            obtain ⟨hg29, hT28⟩ := of_guard hT28
            refine HT.rg2 (oHs 3) ⟨[(4, aV 0), (8, bV (List.getD a0.2.2.2.2 (Int.toNat s14.1) false)), (53, .one (.dat (.sl .bool) a0.2.2.2.2)), (54, iV (lenI a0.2.2.2.2)), (55, iV s14.1)], [(0, .seq (.int .u8) s14.2)], 1⟩ hX (by kernel_rfl) (allCons hg29 allNil) ?_
            refine HT.rg2 [oH] ⟨[(4, aV 0), (53, .one (.dat (.sl .bool) a0.2.2.2.2)), (54, iV (lenI a0.2.2.2.2)), (55, iV s14.1), (59, bV (List.getD a0.2.2.2.2 (Int.toNat s14.1) false))], [(0, .seq (.int .u8) s14.2)], 1⟩ hX (by kernel_rfl) allNil ?_
            rcases of_bif hT28 with ⟨hb30, hT28⟩ | ⟨hb30, hT28⟩
            · refine HT.cond1 rfl hb30 ?_
              obtain ⟨hg31, hT28⟩ := of_guard hT28
              exact HT.rgK [oH, ⟨none, .ty (.int .u8)⟩, ⟨none, .ty (.int .u8)⟩, oH] [(2, 0)] [] hX (by kernel_rfl) (allCons hg31 allNil) (fun _ h => (qBlock (qThen (h.ht (cont (s14.2 ++ ([(1 : Int)] : List Int)) (of_some hT28))))))
            · refine HT.cond0 rfl hb30 ?_
              obtain ⟨hg32, hT28⟩ := of_guard hT28
              exact HT.rgK [oH, ⟨none, .ty (.int .u8)⟩, ⟨none, .ty (.int .u8)⟩, oH] [(2, 0)] [] hX (by kernel_rfl) (allCons hg32 allNil) (fun _ h => (qBlock (qThen (h.ht (cont (s14.2 ++ ([(0 : Int)] : List Int)) (of_some hT28))))))
        · refine HT.cond0 rfl hb25 ?_
          have hx23 := of_some hx23
          subst hx23
          exact HT.exitL (Le.re [(0, 0)] [] hX (by kernel_rfl)) (qThenE (qLoopE (hk24 s14.2 rfl)))
    · refine HT.rg2 [oH] ⟨[(1, pV 0 0), (4, aV 1), (39, nV a0.2.2.2.1), (40, iV (lenI a0.2.2.2.1)), (41, iV s11.1), (42, bV (decide (s11.1 < (lenI a0.2.2.2.1))))], [(0, .box [.dat .str a0.1, iC a0.2.1, iC a0.2.2.1, nC a0.2.2.2.1, .dat (.sl .bool) a0.2.2.2.2]), (1, .seq (.int .u8) s11.2)], 2⟩ hX (by kernel_rfl) allNil ?_
      refine HT.seq ?_
      rcases of_bif hx35 with ⟨hb37, hx35⟩ | ⟨hb37, hx35⟩
      · refine HT.cond1 rfl hb37 ?_
        refine HT.skip (qThen ?_)
        refine HT.seq ?_
        refine HT.block ?_
        obtain ⟨hg38, hx35⟩ := of_guard hx35
        refine HT.rg2 (oHs 3) ⟨[(1, pV 0 0), (4, aV 1), (6, iV (List.getD a0.2.2.2.1 (Int.toNat s11.1) (0 : Int))), (39, nV a0.2.2.2.1), (40, iV (lenI a0.2.2.2.1)), (41, iV s11.1)], [(0, .box [.dat .str a0.1, iC a0.2.1, iC a0.2.2.1, nC a0.2.2.2.1, .dat (.sl .bool) a0.2.2.2.2]), (1, .seq (.int .u8) s11.2)], 2⟩ hX (by kernel_rfl) (allCons hg38 allNil) ?_
        obtain ⟨hg39, hx35⟩ := of_guard hx35
        refine HT.rgL [oH, oH, oH, ⟨none, .ty (.int .u8)⟩, ⟨none, .ty (.int .u8)⟩, oH] ⟨[(1, pV 0 0), (4, aV 3), (39, nV a0.2.2.2.1), (40, iV (lenI a0.2.2.2.1)), (41, iV s11.1)], [(3, .seq (.int .u8) (s11.2 ++ ([(IntKind.wrap .u8 (List.getD a0.2.2.2.1 (Int.toNat s11.1) (0 : Int)))] : List Int))), (0, .box [.dat .str a0.1, iC a0.2.1, iC a0.2.2.1, nC a0.2.2.2.1, .dat (.sl .bool) a0.2.2.2.2])], 4⟩ hX (by kernel_rfl) (allCons hg39 allNil) (qBlock (qThen ?_))
        have hx35 := of_some hx35
        subst hx35
        exact HT.rgK (oHs 2) [(0, 0), (3, 1)] [] hX (by kernel_rfl) allNil (fun _ h => (qLoopN ⟨((wadd .i64 s11.1 (1 : Int)), (s11.2 ++ ([(IntKind.wrap .u8 (List.getD a0.2.2.2.1 (Int.toNat s11.1) (0 : Int)))] : List Int))), rfl, h⟩))
      · refine HT.cond0 rfl hb37 ?_
        have hx35 := of_some hx35
        subst hx35
        exact HT.exitL (Le.re [(0, 0), (1, 1)] [] hX (by kernel_rfl)) (qThenE (qLoopE (hk36 s11.2 rfl)))

noncomputable def impl_StoreKepts_B1 (a0 : List (List UInt8 × Int × Int × List Int × List Bool)) (s2 : List UInt8 × Int) : Option ((List UInt8 × Int) ⊕ (List UInt8 ⊕ Unit)) :=
  bif (decide (s2.2 < (lenI a0))) then
    guardP ((0 : Int) ≤ s2.2 ∧ s2.2 < lenI a0) (
      (some ((List.getD a0 (Int.toNat s2.2) (([] : List UInt8), (0 : Int), (0 : Int), ([] : List Int), ([] : List Bool))).1)).bind fun q11 =>
      (some (((List.getD a0 (Int.toNat s2.2) (([] : List UInt8), (0 : Int), (0 : Int), ([] : List Int), ([] : List Bool))).2).1)).bind fun q13 =>
      (some ((((List.getD a0 (Int.toNat s2.2) (([] : List UInt8), (0 : Int), (0 : Int), ([] : List Int), ([] : List Bool))).2).2).1)).bind fun q15 =>
      (some (((((List.getD a0 (Int.toNat s2.2) (([] : List UInt8), (0 : Int), (0 : Int), ([] : List Int), ([] : List Bool))).2).2).2).1)).bind fun q17 =>
      (some (((((List.getD a0 (Int.toNat s2.2) (([] : List UInt8), (0 : Int), (0 : Int), ([] : List Int), ([] : List Bool))).2).2).2).2)).bind fun q19 =>
      (impl_StoreKept (q11, q13, q15, q17, q19)).bind fun y21 =>
      bif (!y21.2) then
        some (.inr (.inr ()))
      else
        guardP (List.length s2.1 + List.length y21.1 ≤ appMax) (
          some (.inl ((s2.1 ++ y21.1), (wadd .i64 s2.2 (1 : Int))))))
  else
    some (.inr (.inl s2.1))

noncomputable def impl_StoreKepts (a0 : List (List UInt8 × Int × Int × List Int × List Bool)) : Option (List UInt8 × Bool) :=
  bif (decide ((lenI a0) > (8 : Int))) then
    some (([] : List UInt8), false)
  else
    (rounds (impl_StoreKepts_B1 a0) (([] : List UInt8), (0 : Int))).bind fun r3 => match r3 with
      | .inl r4 =>
        some (r4, true)
      | .inr r5 =>
        some (([] : List UInt8), false)

theorem f17_ok {a0 : List (List UInt8 × Int × Int × List Int × List Bool)} {r : List UInt8 × Bool} (hr : impl_StoreKepts a0 = some r) : CallOK Try.prog 17 [.imm (.sl (.st (.pair .str (.st (.pair tI (.pair tI (.pair tLI (.sl .bool)))))))) a0] [⟨false, .str, r.1⟩, ⟨false, .bool, r.2⟩] [] := by
  unfold impl_StoreKepts at hr
  refine CallOK.of_body (ts := [(false, .str), (false, .bool)]) Try.func17 rfl (by kernel_rfl) (Nat.le_of_ble_eq_true (by kernel_rfl)) fun cx hP hN hO hF => ?_
  have hO : cx.own.map Prod.fst = [] := hO
  have hX := CxIs.mk hP hN hO
  have hF := hF rfl
  show HT cx ⟨[(0, .one (.dat (.sl (.st (.pair .str (.st (.pair tI (.pair tI (.pair tLI (.sl .bool)))))))) a0))], [], 0⟩ _ _
  refine HT.rg2 (oHs 2) ⟨[(0, .one (.dat (.sl (.st (.pair .str (.st (.pair tI (.pair tI (.pair tLI (.sl .bool)))))))) a0))], [], 0⟩ hX (by kernel_rfl) allNil ?_
  refine HT.seq ?_
  refine HT.rg2 (oHs 3) ⟨[(0, .one (.dat (.sl (.st (.pair .str (.st (.pair tI (.pair tI (.pair tLI (.sl .bool)))))))) a0)), (11, bV (decide ((lenI a0) > (8 : Int))))], [], 0⟩ hX (by kernel_rfl) allNil ?_
  rcases of_bif hr with ⟨hb1, hr⟩ | ⟨hb1, hr⟩
  · refine HT.cond1 rfl hb1 ?_
    refine HT.rg2 (oHs 2) ⟨[(2, .one (.dat .str ([] : List UInt8))), (3, bV false)], [], 0⟩ hX (by kernel_rfl) allNil ?_
    have hr := of_some hr
    subst hr
    exact HT.ret (qThenR ⟨[.one (.dat .str ([] : List UInt8)), bV false], [], [], by kernel_rfl, by kernel_rfl, rfl, by kernel_rfl, by kernel_rfl, trivial⟩)
  · refine HT.cond0 rfl hb1 ?_
    refine HT.skip (qThen ?_)
    refine HT.rg2 [oH] ⟨[(0, .one (.dat (.sl (.st (.pair .str (.st (.pair tI (.pair tI (.pair tLI (.sl .bool)))))))) a0)), (4, .one (.dat .str ([] : List UInt8)))], [], 0⟩ hX (by kernel_rfl) allNil ?_
    refine HT.seq ?_
    refine HT.rg2 (oHs 3) ⟨[(4, .one (.dat .str ([] : List UInt8))), (12, .one (.dat (.sl (.st (.pair .str (.st (.pair tI (.pair tI (.pair tLI (.sl .bool)))))))) a0)), (13, iV (lenI a0)), (14, iV (0 : Int))], [], 0⟩ hX (by kernel_rfl) allNil ?_
    refine HT.block ?_
    obtain ⟨r3, hL25, hr⟩ := of_bind hr
    refine HT.loopL (fun (s2 : List UInt8 × Int) => ⟨[(4, .one (.dat .str s2.1)), (12, .one (.dat (.sl (.st (.pair .str (.st (.pair tI (.pair tI (.pair tLI (.sl .bool)))))))) a0)), (13, iV (lenI a0)), (14, iV s2.2)], [], 0⟩) (fun (r3 : List UInt8 ⊕ Unit) => match r3 with | .inl r4 => (.exit 0, ⟨[(4, .one (.dat .str r4))], [], 0⟩) | .inr r5 => (.ret, ⟨[(2, .one (.dat .str ([] : List UInt8))), (3, bV false)], [], 0⟩)) (Le.re [] [] hX (by kernel_rfl)) hL25 ?_ (fun s2 x6 hx7 hk8 => ?_)
    · rcases r3 with r4 | r5
      · refine (qBlockX (qThen ?_))
        refine HT.rg2 (oHs 3) ⟨[(2, .one (.dat .str r4)), (3, bV true)], [], 0⟩ hX (by kernel_rfl) allNil ?_
        have hr := of_some hr
        subst hr
        exact HT.ret ⟨[.one (.dat .str r4), bV true], [], [], by kernel_rfl, by kernel_rfl, rfl, by kernel_rfl, by kernel_rfl, trivial⟩
      · have hr := of_some hr
        subst hr
        exact (qBlockR (qThenR ⟨[.one (.dat .str ([] : List UInt8)), bV false], [], [], by kernel_rfl, by kernel_rfl, rfl, by kernel_rfl, by kernel_rfl, trivial⟩))
    · refine HT.rg2 [oH] ⟨[(4, .one (.dat .str s2.1)), (12, .one (.dat (.sl (.st (.pair .str (.st (.pair tI (.pair tI (.pair tLI (.sl .bool)))))))) a0)), (13, iV (lenI a0)), (14, iV s2.2), (15, bV (decide (s2.2 < (lenI a0))))], [], 0⟩ hX (by kernel_rfl) allNil ?_
      refine HT.seq ?_
      rcases of_bif hx7 with ⟨hb9, hx7⟩ | ⟨hb9, hx7⟩
      · refine HT.cond1 rfl hb9 ?_
        refine HT.skip (qThen ?_)
        refine HT.seq ?_
        refine HT.block ?_
        obtain ⟨hg10, hx7⟩ := of_guard hx7
        refine HT.rg2 (oHs 4) ⟨[(4, .one (.dat .str s2.1)), (6, pV 0 0), (12, .one (.dat (.sl (.st (.pair .str (.st (.pair tI (.pair tI (.pair tLI (.sl .bool)))))))) a0)), (13, iV (lenI a0)), (14, iV s2.2)], [(0, .box [.dat .str ((List.getD a0 (Int.toNat s2.2) (([] : List UInt8), (0 : Int), (0 : Int), ([] : List Int), ([] : List Bool))).1), iC (((List.getD a0 (Int.toNat s2.2) (([] : List UInt8), (0 : Int), (0 : Int), ([] : List Int), ([] : List Bool))).2).1), iC ((((List.getD a0 (Int.toNat s2.2) (([] : List UInt8), (0 : Int), (0 : Int), ([] : List Int), ([] : List Bool))).2).2).1), nC (((((List.getD a0 (Int.toNat s2.2) (([] : List UInt8), (0 : Int), (0 : Int), ([] : List Int), ([] : List Bool))).2).2).2).1), .dat (.sl .bool) (((((List.getD a0 (Int.toNat s2.2) (([] : List UInt8), (0 : Int), (0 : Int), ([] : List Int), ([] : List Bool))).2).2).2).2)])], 1⟩ hX (by kernel_rfl) (allCons hg10 allNil) ?_
        obtain ⟨q11, hq12, hx7⟩ := of_bind hx7
        have hq12 := of_some2 hq12
        obtain ⟨q13, hq14, hx7⟩ := of_bind hx7
        have hq14 := of_some2 hq14
        obtain ⟨q15, hq16, hx7⟩ := of_bind hx7
        have hq16 := of_some2 hq16
        obtain ⟨q17, hq18, hx7⟩ := of_bind hx7
        have hq18 := of_some2 hq18
        obtain ⟨q19, hq20, hx7⟩ := of_bind hx7
        have hq20 := of_some2 hq20
        refine (Le.cv (s := ⟨[(0, 0)], [], [], false⟩) (own := []) (ps := [s2.1 = s2.1, a0 = a0, (lenI a0) = (lenI a0), s2.2 = s2.2, q11 = (List.getD a0 (Int.toNat s2.2) (([] : List UInt8), (0 : Int), (0 : Int), ([] : List Int), ([] : List Bool))).1, q13 = ((List.getD a0 (Int.toNat s2.2) (([] : List UInt8), (0 : Int), (0 : Int), ([] : List Int), ([] : List Bool))).2).1, q15 = (((List.getD a0 (Int.toNat s2.2) (([] : List UInt8), (0 : Int), (0 : Int), ([] : List Int), ([] : List Bool))).2).2).1, q17 = ((((List.getD a0 (Int.toNat s2.2) (([] : List UInt8), (0 : Int), (0 : Int), ([] : List Int), ([] : List Bool))).2).2).2).1, q19 = ((((List.getD a0 (Int.toNat s2.2) (([] : List UInt8), (0 : Int), (0 : Int), ([] : List Int), ([] : List Bool))).2).2).2).2]) (st' := ⟨[(4, .one (.dat .str s2.1)), (6, pV 0 0), (12, .one (.dat (.sl (.st (.pair .str (.st (.pair tI (.pair tI (.pair tLI (.sl .bool)))))))) a0)), (13, iV (lenI a0)), (14, iV s2.2)], [(0, .box [.dat .str q11, iC q13, iC q15, nC q17, .dat (.sl .bool) q19])], 1⟩) hO (fun h => by cases h) (by kernel_rfl) ⟨rfl, rfl, rfl, rfl, hq12, hq14, hq16, hq18, hq20, trivial⟩).ht ?_
        obtain ⟨y21, hc22, hx7⟩ := of_bind hx7
        refine HT.rg2 [oH, ⟨none, .call [.imm (.st (.pair .str (.st (.pair tI (.pair tI (.pair tLI (.sl .bool)))))))] [⟨false, .str, y21.1⟩, ⟨false, .bool, y21.2⟩] []⟩, oH, oH, oH, oH, oH] ⟨[(4, .one (.dat .str s2.1)), (7, .one (.dat .str y21.1)), (8, bV y21.2), (12, .one (.dat (.sl (.st (.pair .str (.st (.pair tI (.pair tI (.pair tLI (.sl .bool)))))))) a0)), (13, iV (lenI a0)), (14, iV s2.2)], [], 1⟩ hX (by kernel_rfl) (allCons (f13_ok hc22) allNil) ?_
        refine HT.seq ?_
        refine HT.rg2 (oHs 2) ⟨[(4, .one (.dat .str s2.1)), (7, .one (.dat .str y21.1)), (12, .one (.dat (.sl (.st (.pair .str (.st (.pair tI (.pair tI (.pair tLI (.sl .bool)))))))) a0)), (13, iV (lenI a0)), (14, iV s2.2), (24, bV (!y21.2))], [], 1⟩ hX (by kernel_rfl) allNil ?_
        rcases of_bif hx7 with ⟨hb23, hx7⟩ | ⟨hb23, hx7⟩
        · refine HT.cond1 rfl hb23 ?_
          refine HT.rg2 (oHs 2) ⟨[(2, .one (.dat .str ([] : List UInt8))), (3, bV false)], [], 1⟩ hX (by kernel_rfl) allNil ?_
          have hx7 := of_some hx7
          subst hx7
          exact HT.retL (Le.re [] [] hX (by kernel_rfl)) (qThenR (qBlockR (qThenR (qLoopR (hk8 (.inr ()) rfl)))))
        · refine HT.cond0 rfl hb23 ?_
          refine HT.skip (qThen ?_)
          obtain ⟨hg24, hx7⟩ := of_guard hx7
          refine HT.rgL (oHs 4) ⟨[(4, .one (.dat .str (s2.1 ++ y21.1))), (12, .one (.dat (.sl (.st (.pair .str (.st (.pair tI (.pair tI (.pair tLI (.sl .bool)))))))) a0)), (13, iV (lenI a0)), (14, iV s2.2)], [], 1⟩ hX (by kernel_rfl) (allCons hg24 allNil) (qBlock (qThen ?_))
          have hx7 := of_some hx7
          subst hx7
          exact HT.rgK (oHs 2) [] [] hX (by kernel_rfl) allNil (fun _ h => (qLoopN ⟨((s2.1 ++ y21.1), (wadd .i64 s2.2 (1 : Int))), rfl, h⟩))
      · refine HT.cond0 rfl hb9 ?_
        have hx7 := of_some hx7
        subst hx7
        exact HT.exitL (Le.re [] [] hX (by kernel_rfl)) (qThenE (qLoopE (hk8 (.inl s2.1) rfl)))

noncomputable def internal_stringslite_HasPrefix (a0 : List UInt8) (a1 : List UInt8) : Option (Bool) :=
  (show Option (Bool) from
    bif (decide ((lenI a0) ≥ (lenI a1))) then
      guardP ((0 : Int) ≤ (lenI a1) ∧ (lenI a1) ≤ lenI a0) (
        some ((cut a0 (0 : Int) (lenI a1)) == a1))
    else
      some false).bind fun v1 =>
  some v1

theorem f230_ok {a0 : List UInt8} {a1 : List UInt8} {r : Bool} (hr : internal_stringslite_HasPrefix a0 a1 = some r) : CallOK Try.prog 230 [.imm .str a0, .imm .str a1] [⟨false, .bool, r⟩] [] := by
  unfold internal_stringslite_HasPrefix at hr
  refine CallOK.of_body (ts := [(false, .bool)]) Try.func230 rfl (by kernel_rfl) (Nat.le_of_ble_eq_true (by kernel_rfl)) fun cx hP hN hO hF => ?_
  have hO : cx.own.map Prod.fst = [] := hO
  have hX := CxIs.mk hP hN hO
  have hF := hF rfl
  show HT cx ⟨[(0, .one (.dat .str a0)), (1, .one (.dat .str a1))], [], 0⟩ _ _
  refine HT.rg2 [oH] ⟨[(0, .one (.dat .str a0)), (1, .one (.dat .str a1))], [], 0⟩ hX (by kernel_rfl) allNil ?_
  obtain ⟨v1', hT3, hr⟩ := of_bind hr
  refine HT.join (fun (v1 : Bool) => ⟨[(4, bV v1)], [], 0⟩) (fun v => v = v1') (fun v1 hv2 => ?_) (fun cont => ?_)
  · subst hv2
    have hr := of_some hr
    subst hr
    exact HT.ret ⟨[bV v1], [], [], by kernel_rfl, by kernel_rfl, rfl, by kernel_rfl, by kernel_rfl, trivial⟩
  · rcases of_bif hT3 with ⟨hb4, hT3⟩ | ⟨hb4, hT3⟩
    · obtain ⟨hg5, hT3⟩ := of_guard hT3
      exact HT.rgK [oH, oH, oH, oH, oH, oH, ⟨some true, .no⟩, ⟨some true, .no⟩, ⟨some true, .no⟩, ⟨some true, .no⟩, ⟨some true, .no⟩, ⟨some true, .no⟩, ⟨none, .tv true⟩, oH] [] [] hX (by kernel_rfl) (allCons hb4 (allCons hb4 (allCons hb4 (allCons hb4 (allCons (show (0 : Int) ≤ 0 ∧ (0 : Int) ≤ (lenI a1) ∧ (lenI a1) ≤ lenI a0 from ⟨Int.le_refl _, hg5.1, hg5.2⟩) (allCons hb4 (allCons hb4 (allCons hb4 allNil)))))))) (fun _ h => (qThen (h.ht (cont ((cut a0 (0 : Int) (lenI a1)) == a1) (of_some hT3)))))
    · exact HT.rgK [oH, oH, oH, oH, oH, oH, ⟨some false, .no⟩, ⟨some false, .no⟩, ⟨some false, .no⟩, ⟨some false, .no⟩, ⟨some false, .no⟩, ⟨some false, .no⟩, ⟨none, .tv false⟩, oH] [] [] hX (by kernel_rfl) (allCons hb4 (allCons hb4 (allCons hb4 (allCons hb4 (allCons hb4 (allCons hb4 (allCons hb4 allNil))))))) (fun _ h => (qThen (h.ht (cont false (of_some hT3)))))

noncomputable def strings_HasPrefix (a0 : List UInt8) (a1 : List UInt8) : Option (Bool) :=
  (internal_stringslite_HasPrefix a0 a1).bind fun y1 =>
  some y1

theorem f194_ok {a0 : List UInt8} {a1 : List UInt8} {r : Bool} (hr : strings_HasPrefix a0 a1 = some r) : CallOK Try.prog 194 [.imm .str a0, .imm .str a1] [⟨false, .bool, r⟩] [] := by
  unfold strings_HasPrefix at hr
  refine CallOK.of_body (ts := [(false, .bool)]) Try.func194 rfl (by kernel_rfl) (Nat.le_of_ble_eq_true (by kernel_rfl)) fun cx hP hN hO hF => ?_
  have hO : cx.own.map Prod.fst = [] := hO
  have hX := CxIs.mk hP hN hO
  have hF := hF rfl
  show HT cx ⟨[(0, .one (.dat .str a0)), (1, .one (.dat .str a1))], [], 0⟩ _ _
  refine HT.rg2 [oH] ⟨[(0, .one (.dat .str a0)), (1, .one (.dat .str a1))], [], 0⟩ hX (by kernel_rfl) allNil ?_
  obtain ⟨y1, hc2, hr⟩ := of_bind hr
  refine HT.rg2 [oH, oH, ⟨none, .call [.imm .str, .imm .str] [⟨false, .bool, y1⟩] []⟩, oH] ⟨[(4, bV y1)], [], 0⟩ hX (by kernel_rfl) (allCons (f230_ok hc2) allNil) ?_
  have hr := of_some hr
  subst hr
  exact HT.ret ⟨[bV y1], [], [], by kernel_rfl, by kernel_rfl, rfl, by kernel_rfl, by kernel_rfl, trivial⟩

noncomputable def impl_readKept_B1 (a0 : List UInt8) (q6 : Int) (q13 : Int) (s21 : Int × List Bool) : Option ((Int × List Bool) ⊕ (List Bool)) :=
  bif (decide (s21.1 < (IntKind.wrap .i64 ((((List.getD a0 (Int.toNat q6) 0 : UInt8).toNat : Nat)) : Int)))) then
    guardP ((0 : Int) ≤ (wadd .i64 (wadd .i64 (wadd .i64 q6 (2 : Int)) q13) s21.1) ∧ (wadd .i64 (wadd .i64 (wadd .i64 q6 (2 : Int)) q13) s21.1) < lenI a0) (
      guardP (List.length s21.2 + List.length ([(((((List.getD a0 (Int.toNat (wadd .i64 (wadd .i64 (wadd .i64 q6 (2 : Int)) q13) s21.1)) 0 : UInt8).toNat : Nat)) : Int) == (1 : Int))] : List Bool) ≤ appMax) (
        some (.inl ((wadd .i64 s21.1 (1 : Int)), (s21.2 ++ ([(((((List.getD a0 (Int.toNat (wadd .i64 (wadd .i64 (wadd .i64 q6 (2 : Int)) q13) s21.1)) 0 : UInt8).toNat : Nat)) : Int) == (1 : Int))] : List Bool))))))
  else
    some (.inr s21.2)

noncomputable def impl_readKept_B2 (a0 : List UInt8) (q6 : Int) (q13 : Int) (s18 : Int × List Int) : Option ((Int × List Int) ⊕ (List Int)) :=
  bif (decide (s18.1 < q13)) then
    guardP ((0 : Int) ≤ (wadd .i64 (wadd .i64 q6 (2 : Int)) s18.1) ∧ (wadd .i64 (wadd .i64 q6 (2 : Int)) s18.1) < lenI a0) (
      guardP (List.length s18.2 + List.length ([(IntKind.wrap .i64 ((((List.getD a0 (Int.toNat (wadd .i64 (wadd .i64 q6 (2 : Int)) s18.1)) 0 : UInt8).toNat : Nat)) : Int))] : List Int) ≤ appMax) (
        some (.inl ((wadd .i64 s18.1 (1 : Int)), (s18.2 ++ ([(IntKind.wrap .i64 ((((List.getD a0 (Int.toNat (wadd .i64 (wadd .i64 q6 (2 : Int)) s18.1)) 0 : UInt8).toNat : Nat)) : Int))] : List Int))))))
  else
    some (.inr s18.2)

noncomputable def impl_readKept (a0 : List UInt8) : Option ((List UInt8 × Int × Int × List Int × List Bool) × Int × Bool) :=
  (show Option (Bool) from
    bif (decide ((lenI a0) < (5 : Int))) then
      some true
    else
      guardP ((0 : Int) ≤ (4 : Int) ∧ (4 : Int) < lenI a0) (
        some (decide ((lenI a0) < (wadd .i64 (7 : Int) (IntKind.wrap .i64 ((((List.getD a0 (Int.toNat (4 : Int)) 0 : UInt8).toNat : Nat)) : Int))))))).bind fun v1 =>
  bif v1 then
    some ((([] : List UInt8), (0 : Int), (0 : Int), ([] : List Int), ([] : List Bool)), (0 : Int), false)
  else
    guardP ((0 : Int) ≤ (4 : Int) ∧ (4 : Int) < lenI a0) (
      (some (wadd .i64 (5 : Int) (IntKind.wrap .i64 ((((List.getD a0 (Int.toNat (4 : Int)) 0 : UInt8).toNat : Nat)) : Int)))).bind fun q6 =>
      guardP ((0 : Int) ≤ (5 : Int) ∧ (5 : Int) ≤ q6 ∧ q6 ≤ lenI a0) (
        guardP ((0 : Int) ≤ q6 ∧ q6 < lenI a0) (
          guardP ((0 : Int) ≤ (wadd .i64 q6 (1 : Int)) ∧ (wadd .i64 q6 (1 : Int)) < lenI a0) (
            (some (IntKind.wrap .i64 ((((List.getD a0 (Int.toNat (wadd .i64 q6 (1 : Int))) 0 : UInt8).toNat : Nat)) : Int))).bind fun q11 =>
            (some (wmul .i64 (IntKind.wrap .i64 ((((List.getD a0 (Int.toNat q6) 0 : UInt8).toNat : Nat)) : Int)) q11)).bind fun q13 =>
            (some (wadd .i64 (wadd .i64 (wadd .i64 (wadd .i64 q6 (2 : Int)) q13) (IntKind.wrap .i64 ((((List.getD a0 (Int.toNat q6) 0 : UInt8).toNat : Nat)) : Int))) (2 : Int))).bind fun q15 =>
            bif (decide ((lenI a0) < q15)) then
              some ((([] : List UInt8), (0 : Int), (0 : Int), ([] : List Int), ([] : List Bool)), (0 : Int), false)
            else
              (rounds (impl_readKept_B2 a0 q6 q13) ((0 : Int), ([] : List Int))).bind fun r20 =>
              (rounds (impl_readKept_B1 a0 q6 q13) ((0 : Int), ([] : List Bool))).bind fun r23 =>
              (impl_StoreKept ((cut a0 (5 : Int) q6), (IntKind.wrap .i64 ((((List.getD a0 (Int.toNat q6) 0 : UInt8).toNat : Nat)) : Int)), q11, r20, r23)).bind fun y24 =>
              (show Option (Bool) from
                bif (!y24.2) then
                  some true
                else
                  (strings_HasPrefix a0 y24.1).bind fun y31 =>
                  some (!y31)).bind fun v26 =>
              bif v26 then
                some ((([] : List UInt8), (0 : Int), (0 : Int), ([] : List Int), ([] : List Bool)), (0 : Int), false)
              else
                some (((cut a0 (5 : Int) q6), (IntKind.wrap .i64 ((((List.getD a0 (Int.toNat q6) 0 : UInt8).toNat : Nat)) : Int)), q11, r20, r23), q15, true)))))

theorem f98_ok {a0 : List UInt8} {r : (List UInt8 × Int × Int × List Int × List Bool) × Int × Bool} (hr : impl_readKept a0 = some r) : CallOK Try.prog 98 [.imm .str a0] [⟨true, (.st (.pair .str (.st (.pair tI (.pair tI (.pair tLI (.sl .bool))))))), r.1⟩, ⟨false, tI, r.2.1⟩, ⟨false, .bool, r.2.2⟩] [] := by
  unfold impl_readKept at hr
  refine CallOK.of_body (ts := [(true, (.st (.pair .str (.st (.pair tI (.pair tI (.pair tLI (.sl .bool)))))))), (false, tI), (false, .bool)]) Try.func98 rfl (by kernel_rfl) (Nat.le_of_ble_eq_true (by kernel_rfl)) fun cx hP hN hO hF => ?_
  have hO : cx.own.map Prod.fst = [] := hO
  have hX := CxIs.mk hP hN hO
  have hF := hF rfl
  show HT cx ⟨[(0, .one (.dat .str a0))], [], 0⟩ _ _
  refine HT.rg2 (oHs 3) ⟨[(0, .one (.dat .str a0)), (2, pV 0 0)], [(0, .box [.dat .str ([] : List UInt8), iC (0 : Int), iC (0 : Int), .nilS, .nilS])], 1⟩ hX (by kernel_rfl) allNil ?_
  refine HT.seq ?_
  obtain ⟨v1', hT3, hr⟩ := of_bind hr
  refine HT.join (fun (v1 : Bool) => ⟨[(0, .one (.dat .str a0)), (2, pV 0 0), (24, bV v1)], [(0, .box [.dat .str ([] : List UInt8), iC (0 : Int), iC (0 : Int), .nilS, .nilS])], 1⟩) (fun v => v = v1') (fun v1 hv2 => ?_) (fun cont => ?_)
  · subst hv2
    rcases of_bif hr with ⟨hb4, hr⟩ | ⟨hb4, hr⟩
    · refine HT.cond1 rfl hb4 ?_
      refine HT.rg2 (oHs 4) ⟨[(2, pV 0 0), (3, iV (0 : Int)), (4, bV false)], [(0, .box [.dat .str ([] : List UInt8), iC (0 : Int), iC (0 : Int), .nilS, .nilS])], 1⟩ hX (by kernel_rfl) allNil ?_
      have hr := of_some hr
      subst hr
      exact HT.ret (qThenR ⟨[.agg [.dat .str ([] : List UInt8), iC (0 : Int), iC (0 : Int), .nilS, .nilS], iV (0 : Int), bV false], [], [], by kernel_rfl, by kernel_rfl, rfl, by kernel_rfl, by kernel_rfl, trivial⟩)
    · refine HT.cond0 rfl hb4 ?_
      refine HT.skip (qThen ?_)
      obtain ⟨hg5, hr⟩ := of_guard hr
      refine HT.rg2 (oHs 5) ⟨[(0, .one (.dat .str a0)), (2, pV 0 0), (5, iV (wadd .i64 (5 : Int) (IntKind.wrap .i64 ((((List.getD a0 (Int.toNat (4 : Int)) 0 : UInt8).toNat : Nat)) : Int))))], [(0, .box [.dat .str ([] : List UInt8), iC (0 : Int), iC (0 : Int), .nilS, .nilS])], 1⟩ hX (by kernel_rfl) (allCons hg5 allNil) ?_
      obtain ⟨q6, hq7, hr⟩ := of_bind hr
      have hq7 := of_some2 hq7
      refine (Le.cv (s := ⟨[(0, 0)], [], [], false⟩) (own := []) (ps := [a0 = a0, q6 = (wadd .i64 (5 : Int) (IntKind.wrap .i64 ((((List.getD a0 (Int.toNat (4 : Int)) 0 : UInt8).toNat : Nat)) : Int))), ([] : List UInt8) = ([] : List UInt8), (0 : Int) = (0 : Int), (0 : Int) = (0 : Int)]) (st' := ⟨[(0, .one (.dat .str a0)), (2, pV 0 0), (5, iV q6)], [(0, .box [.dat .str ([] : List UInt8), iC (0 : Int), iC (0 : Int), .nilS, .nilS])], 1⟩) hO (fun h => by cases h) (by kernel_rfl) ⟨rfl, hq7, rfl, rfl, rfl, trivial⟩).ht ?_
      obtain ⟨hg8, hr⟩ := of_guard hr
      obtain ⟨hg9, hr⟩ := of_guard hr
      obtain ⟨hg10, hr⟩ := of_guard hr
      refine HT.dr2 15 [⟨oH, []⟩, ⟨oH, []⟩, ⟨oH, [0, 1]⟩, ⟨oH, []⟩, ⟨oH, []⟩, ⟨oH, [3, 4]⟩, ⟨oH, [3, 4, 5]⟩, ⟨oH, []⟩, ⟨oH, []⟩, ⟨oH, [8]⟩, ⟨oH, [7, 8, 9]⟩, ⟨oH, [7, 8, 9, 10]⟩, ⟨oH, [3, 4, 5, 6, 7, 8, 9, 10, 11]⟩, ⟨oH, [0, 1, 2, 3, 4, 5, 6, 7, 8, 9, 10, 11, 12]⟩, ⟨oH, []⟩] [[0, 1, 2, 3, 4, 5, 6, 7, 8, 9, 10, 11, 12, 13, 14]] [oH] ⟨[(0, .one (.dat .str a0)), (2, pV 0 0), (5, iV q6), (6, pV 1 0)], [(1, .box [.dat .str (cut a0 (5 : Int) q6), iC (IntKind.wrap .i64 ((((List.getD a0 (Int.toNat q6) 0 : UInt8).toNat : Nat)) : Int)), iC (IntKind.wrap .i64 ((((List.getD a0 (Int.toNat (wadd .i64 q6 (1 : Int))) 0 : UInt8).toNat : Nat)) : Int)), .nilS, .nilS]), (0, .box [.dat .str ([] : List UInt8), iC (0 : Int), iC (0 : Int), .nilS, .nilS])], 2⟩ hX (by kernel_rfl) (by kernel_rfl) (allCons hg8 (allCons hg9 (allCons hg10 allNil))) ?_
      obtain ⟨q11, hq12, hr⟩ := of_bind hr
      have hq12 := of_some2 hq12
      refine (Le.cv (s := ⟨[(1, 1), (0, 0)], [], [], false⟩) (own := []) (ps := [a0 = a0, q6 = q6, (cut a0 (5 : Int) q6) = (cut a0 (5 : Int) q6), (IntKind.wrap .i64 ((((List.getD a0 (Int.toNat q6) 0 : UInt8).toNat : Nat)) : Int)) = (IntKind.wrap .i64 ((((List.getD a0 (Int.toNat q6) 0 : UInt8).toNat : Nat)) : Int)), q11 = (IntKind.wrap .i64 ((((List.getD a0 (Int.toNat (wadd .i64 q6 (1 : Int))) 0 : UInt8).toNat : Nat)) : Int)), ([] : List UInt8) = ([] : List UInt8), (0 : Int) = (0 : Int), (0 : Int) = (0 : Int)]) (st' := ⟨[(0, .one (.dat .str a0)), (2, pV 0 0), (5, iV q6), (6, pV 1 0)], [(1, .box [.dat .str (cut a0 (5 : Int) q6), iC (IntKind.wrap .i64 ((((List.getD a0 (Int.toNat q6) 0 : UInt8).toNat : Nat)) : Int)), iC q11, .nilS, .nilS]), (0, .box [.dat .str ([] : List UInt8), iC (0 : Int), iC (0 : Int), .nilS, .nilS])], 2⟩) hO (fun h => by cases h) (by kernel_rfl) ⟨rfl, rfl, rfl, rfl, hq12, rfl, rfl, rfl, trivial⟩).ht ?_
      refine HT.rg2 (oHs 3) ⟨[(0, .one (.dat .str a0)), (2, pV 0 0), (5, iV (wadd .i64 q6 (2 : Int))), (6, pV 1 0)], [(1, .box [.dat .str (cut a0 (5 : Int) q6), iC (IntKind.wrap .i64 ((((List.getD a0 (Int.toNat q6) 0 : UInt8).toNat : Nat)) : Int)), iC q11, .nilS, .nilS]), (0, .box [.dat .str ([] : List UInt8), iC (0 : Int), iC (0 : Int), .nilS, .nilS])], 2⟩ hX (by kernel_rfl) allNil ?_
      refine HT.rg2 (oHs 8) ⟨[(0, .one (.dat .str a0)), (2, pV 0 0), (5, iV (wadd .i64 q6 (2 : Int))), (6, pV 1 0), (7, iV (wmul .i64 (IntKind.wrap .i64 ((((List.getD a0 (Int.toNat q6) 0 : UInt8).toNat : Nat)) : Int)) q11))], [(1, .box [.dat .str (cut a0 (5 : Int) q6), iC (IntKind.wrap .i64 ((((List.getD a0 (Int.toNat q6) 0 : UInt8).toNat : Nat)) : Int)), iC q11, .nilS, .nilS]), (0, .box [.dat .str ([] : List UInt8), iC (0 : Int), iC (0 : Int), .nilS, .nilS])], 2⟩ hX (by kernel_rfl) allNil ?_
      obtain ⟨q13, hq14, hr⟩ := of_bind hr
      have hq14 := of_some2 hq14
      refine (Le.cv (s := ⟨[(1, 1), (0, 0)], [], [], false⟩) (own := []) (ps := [a0 = a0, (wadd .i64 q6 (2 : Int)) = (wadd .i64 q6 (2 : Int)), q13 = (wmul .i64 (IntKind.wrap .i64 ((((List.getD a0 (Int.toNat q6) 0 : UInt8).toNat : Nat)) : Int)) q11), (cut a0 (5 : Int) q6) = (cut a0 (5 : Int) q6), (IntKind.wrap .i64 ((((List.getD a0 (Int.toNat q6) 0 : UInt8).toNat : Nat)) : Int)) = (IntKind.wrap .i64 ((((List.getD a0 (Int.toNat q6) 0 : UInt8).toNat : Nat)) : Int)), q11 = q11, ([] : List UInt8) = ([] : List UInt8), (0 : Int) = (0 : Int), (0 : Int) = (0 : Int)]) (st' := ⟨[(0, .one (.dat .str a0)), (2, pV 0 0), (5, iV (wadd .i64 q6 (2 : Int))), (6, pV 1 0), (7, iV q13)], [(1, .box [.dat .str (cut a0 (5 : Int) q6), iC (IntKind.wrap .i64 ((((List.getD a0 (Int.toNat q6) 0 : UInt8).toNat : Nat)) : Int)), iC q11, .nilS, .nilS]), (0, .box [.dat .str ([] : List UInt8), iC (0 : Int), iC (0 : Int), .nilS, .nilS])], 2⟩) hO (fun h => by cases h) (by kernel_rfl) ⟨rfl, rfl, hq14, rfl, rfl, rfl, rfl, rfl, rfl, trivial⟩).ht ?_
      refine HT.rg2 (oHs 9) ⟨[(0, .one (.dat .str a0)), (2, pV 0 0), (5, iV (wadd .i64 q6 (2 : Int))), (6, pV 1 0), (7, iV q13), (8, iV (wadd .i64 (wadd .i64 (wadd .i64 (wadd .i64 q6 (2 : Int)) q13) (IntKind.wrap .i64 ((((List.getD a0 (Int.toNat q6) 0 : UInt8).toNat : Nat)) : Int))) (2 : Int)))], [(1, .box [.dat .str (cut a0 (5 : Int) q6), iC (IntKind.wrap .i64 ((((List.getD a0 (Int.toNat q6) 0 : UInt8).toNat : Nat)) : Int)), iC q11, .nilS, .nilS]), (0, .box [.dat .str ([] : List UInt8), iC (0 : Int), iC (0 : Int), .nilS, .nilS])], 2⟩ hX (by kernel_rfl) allNil ?_
      obtain ⟨q15, hq16, hr⟩ := of_bind hr
      have hq16 := of_some2 hq16
      refine (Le.cv (s := ⟨[(1, 1), (0, 0)], [], [], false⟩) (own := []) (ps := [a0 = a0, (wadd .i64 q6 (2 : Int)) = (wadd .i64 q6 (2 : Int)), q13 = q13, q15 = (wadd .i64 (wadd .i64 (wadd .i64 (wadd .i64 q6 (2 : Int)) q13) (IntKind.wrap .i64 ((((List.getD a0 (Int.toNat q6) 0 : UInt8).toNat : Nat)) : Int))) (2 : Int)), (cut a0 (5 : Int) q6) = (cut a0 (5 : Int) q6), (IntKind.wrap .i64 ((((List.getD a0 (Int.toNat q6) 0 : UInt8).toNat : Nat)) : Int)) = (IntKind.wrap .i64 ((((List.getD a0 (Int.toNat q6) 0 : UInt8).toNat : Nat)) : Int)), q11 = q11, ([] : List UInt8) = ([] : List UInt8), (0 : Int) = (0 : Int), (0 : Int) = (0 : Int)]) (st' := ⟨[(0, .one (.dat .str a0)), (2, pV 0 0), (5, iV (wadd .i64 q6 (2 : Int))), (6, pV 1 0), (7, iV q13), (8, iV q15)], [(1, .box [.dat .str (cut a0 (5 : Int) q6), iC (IntKind.wrap .i64 ((((List.getD a0 (Int.toNat q6) 0 : UInt8).toNat : Nat)) : Int)), iC q11, .nilS, .nilS]), (0, .box [.dat .str ([] : List UInt8), iC (0 : Int), iC (0 : Int), .nilS, .nilS])], 2⟩) hO (fun h => by cases h) (by kernel_rfl) ⟨rfl, rfl, rfl, hq16, rfl, rfl, rfl, rfl, rfl, rfl, trivial⟩).ht ?_
      refine HT.seq ?_
      refine HT.rg2 (oHs 4) ⟨[(0, .one (.dat .str a0)), (2, pV 0 0), (5, iV (wadd .i64 q6 (2 : Int))), (6, pV 1 0), (7, iV q13), (8, iV q15), (64, bV (decide ((lenI a0) < q15)))], [(1, .box [.dat .str (cut a0 (5 : Int) q6), iC (IntKind.wrap .i64 ((((List.getD a0 (Int.toNat q6) 0 : UInt8).toNat : Nat)) : Int)), iC q11, .nilS, .nilS]), (0, .box [.dat .str ([] : List UInt8), iC (0 : Int), iC (0 : Int), .nilS, .nilS])], 2⟩ hX (by kernel_rfl) allNil ?_
      rcases of_bif hr with ⟨hb17, hr⟩ | ⟨hb17, hr⟩
      · refine HT.cond1 rfl hb17 ?_
        refine HT.rg2 (oHs 4) ⟨[(2, pV 0 0), (3, iV (0 : Int)), (4, bV false)], [(0, .box [.dat .str ([] : List UInt8), iC (0 : Int), iC (0 : Int), .nilS, .nilS])], 2⟩ hX (by kernel_rfl) allNil ?_
        have hr := of_some hr
        subst hr
        exact HT.ret (qThenR ⟨[.agg [.dat .str ([] : List UInt8), iC (0 : Int), iC (0 : Int), .nilS, .nilS], iV (0 : Int), bV false], [], [], by kernel_rfl, by kernel_rfl, rfl, by kernel_rfl, by kernel_rfl, trivial⟩)
      · refine HT.cond0 rfl hb17 ?_
        refine HT.skip (qThen ?_)
        refine HT.seq ?_
        refine HT.rg2 (oHs 2) ⟨[(0, .one (.dat .str a0)), (2, pV 0 0), (5, iV (wadd .i64 q6 (2 : Int))), (6, pV 1 0), (7, iV q13), (8, iV q15), (66, iV q13), (67, iV (0 : Int))], [(1, .box [.dat .str (cut a0 (5 : Int) q6), iC (IntKind.wrap .i64 ((((List.getD a0 (Int.toNat q6) 0 : UInt8).toNat : Nat)) : Int)), iC q11, .nilS, .nilS]), (0, .box [.dat .str ([] : List UInt8), iC (0 : Int), iC (0 : Int), .nilS, .nilS])], 2⟩ hX (by kernel_rfl) allNil ?_
        refine HT.block ?_
        obtain ⟨r19, hL46, hr⟩ := of_bind hr
        refine HT.loopL (fun (s18 : Int × List Int) => ⟨[(0, .one (.dat .str a0)), (2, pV 0 0), (5, iV (wadd .i64 q6 (2 : Int))), (6, pV 1 0), (7, iV q13), (8, iV q15), (66, iV q13), (67, iV s18.1)], [(0, .box [.dat .str ([] : List UInt8), iC (0 : Int), iC (0 : Int), .nilS, .nilS]), (1, .box [.dat .str (cut a0 (5 : Int) q6), iC (IntKind.wrap .i64 ((((List.getD a0 (Int.toNat q6) 0 : UInt8).toNat : Nat)) : Int)), iC q11, .all 2, .nilS]), (2, .seq tI s18.2)], 3⟩) (fun (r20 : List Int) => (.exit 0, ⟨[(0, .one (.dat .str a0)), (2, pV 0 0), (5, iV (wadd .i64 q6 (2 : Int))), (6, pV 1 0), (7, iV q13), (8, iV q15)], [(0, .box [.dat .str ([] : List UInt8), iC (0 : Int), iC (0 : Int), .nilS, .nilS]), (1, .box [.dat .str (cut a0 (5 : Int) q6), iC (IntKind.wrap .i64 ((((List.getD a0 (Int.toNat q6) 0 : UInt8).toNat : Nat)) : Int)), iC q11, .all 2, .nilS]), (2, .seq tI r20)], 3⟩)) (Le.re [(0, 0), (1, 1)] [2] hX (by kernel_rfl)) hL46 ?_ (fun s18 x40 hx41 hk42 => ?_)
        · refine (qBlockX (qThen ?_))
          refine HT.seq ?_
          refine HT.rg2 (oHs 4) ⟨[(0, .one (.dat .str a0)), (2, pV 0 0), (5, iV (wadd .i64 q6 (2 : Int))), (6, pV 1 0), (7, iV q13), (8, iV q15), (86, iV (IntKind.wrap .i64 ((((List.getD a0 (Int.toNat q6) 0 : UInt8).toNat : Nat)) : Int))), (87, iV (0 : Int))], [(0, .box [.dat .str ([] : List UInt8), iC (0 : Int), iC (0 : Int), .nilS, .nilS]), (1, .box [.dat .str (cut a0 (5 : Int) q6), iC (IntKind.wrap .i64 ((((List.getD a0 (Int.toNat q6) 0 : UInt8).toNat : Nat)) : Int)), iC q11, .all 2, .nilS]), (2, .seq tI r19)], 3⟩ hX (by kernel_rfl) allNil ?_
          refine HT.block ?_
          obtain ⟨r22, hL39, hr⟩ := of_bind hr
          refine HT.loopL (fun (s21 : Int × List Bool) => ⟨[(0, .one (.dat .str a0)), (2, pV 0 0), (5, iV (wadd .i64 q6 (2 : Int))), (6, pV 1 0), (7, iV q13), (8, iV q15), (86, iV (IntKind.wrap .i64 ((((List.getD a0 (Int.toNat q6) 0 : UInt8).toNat : Nat)) : Int))), (87, iV s21.1)], [(0, .box [.dat .str ([] : List UInt8), iC (0 : Int), iC (0 : Int), .nilS, .nilS]), (1, .box [.dat .str (cut a0 (5 : Int) q6), iC (IntKind.wrap .i64 ((((List.getD a0 (Int.toNat q6) 0 : UInt8).toNat : Nat)) : Int)), iC q11, .all 2, .all 3]), (2, .seq tI r19), (3, .seq .bool s21.2)], 4⟩) (fun (r23 : List Bool) => (.exit 2, ⟨[(0, .one (.dat .str a0)), (2, pV 0 0), (6, pV 1 0), (8, iV q15)], [(0, .box [.dat .str ([] : List UInt8), iC (0 : Int), iC (0 : Int), .nilS, .nilS]), (1, .box [.dat .str (cut a0 (5 : Int) q6), iC (IntKind.wrap .i64 ((((List.getD a0 (Int.toNat q6) 0 : UInt8).toNat : Nat)) : Int)), iC q11, .all 2, .all 3]), (2, .seq tI r19), (3, .seq .bool r23)], 4⟩)) (Le.re [(0, 0), (1, 1), (2, 2)] [3] hX (by kernel_rfl)) hL39 ?_ (fun s21 x33 hx34 hk35 => ?_)
          · refine (qBlockX (qThen ?_))
            obtain ⟨y24, hc25, hr⟩ := of_bind hr
            refine HT.rg2 [oH, ⟨none, .call [.imm (.st (.pair .str (.st (.pair tI (.pair tI (.pair tLI (.sl .bool)))))))] [⟨false, .str, y24.1⟩, ⟨false, .bool, y24.2⟩] []⟩, oH, oH, oH, oH, oH] ⟨[(0, .one (.dat .str a0)), (2, pV 0 0), (6, pV 1 0), (8, iV q15), (11, .one (.dat .str y24.1)), (12, bV y24.2)], [(0, .box [.dat .str ([] : List UInt8), iC (0 : Int), iC (0 : Int), .nilS, .nilS]), (1, .box [.dat .str (cut a0 (5 : Int) q6), iC (IntKind.wrap .i64 ((((List.getD a0 (Int.toNat q6) 0 : UInt8).toNat : Nat)) : Int)), iC q11, .all 2, .all 3]), (2, .seq tI r19), (3, .seq .bool r22)], 4⟩ hX (by kernel_rfl) (allCons (f13_ok hc25) allNil) ?_
            refine HT.seq ?_
            obtain ⟨v26', hT28, hr⟩ := of_bind hr
            refine HT.join (fun (v26 : Bool) => ⟨[(2, pV 0 0), (6, pV 1 0), (8, iV q15), (118, bV v26)], [(0, .box [.dat .str ([] : List UInt8), iC (0 : Int), iC (0 : Int), .nilS, .nilS]), (1, .box [.dat .str (cut a0 (5 : Int) q6), iC (IntKind.wrap .i64 ((((List.getD a0 (Int.toNat q6) 0 : UInt8).toNat : Nat)) : Int)), iC q11, .all 2, .all 3]), (2, .seq tI r19), (3, .seq .bool r22)], 4⟩) (fun v => v = v26') (fun v26 hv27 => ?_) (fun cont => ?_)
            · subst hv27
              rcases of_bif hr with ⟨hb29, hr⟩ | ⟨hb29, hr⟩
              · refine HT.cond1 rfl hb29 ?_
                refine HT.rg2 (oHs 4) ⟨[(2, pV 0 0), (3, iV (0 : Int)), (4, bV false)], [(0, .box [.dat .str ([] : List UInt8), iC (0 : Int), iC (0 : Int), .nilS, .nilS])], 4⟩ hX (by kernel_rfl) allNil ?_
                have hr := of_some hr
                subst hr
                exact HT.ret (qThenR ⟨[.agg [.dat .str ([] : List UInt8), iC (0 : Int), iC (0 : Int), .nilS, .nilS], iV (0 : Int), bV false], [], [], by kernel_rfl, by kernel_rfl, rfl, by kernel_rfl, by kernel_rfl, trivial⟩)
              · refine HT.cond0 rfl hb29 ?_
                refine HT.skip (qThen ?_)
                refine HT.rg2 (oHs 5) ⟨[(2, pV 0 0), (3, iV q15), (4, bV true)], [(0, .box [.dat .str (cut a0 (5 : Int) q6), iC (IntKind.wrap .i64 ((((List.getD a0 (Int.toNat q6) 0 : UInt8).toNat : Nat)) : Int)), iC q11, .all 2, .all 3]), (2, .seq tI r19), (3, .seq .bool r22)], 4⟩ hX (by kernel_rfl) allNil ?_
                have hr := of_some hr
                subst hr
                exact HT.ret ⟨[.agg [.dat .str (cut a0 (5 : Int) q6), iC (IntKind.wrap .i64 ((((List.getD a0 (Int.toNat q6) 0 : UInt8).toNat : Nat)) : Int)), iC q11, .all 2, .all 3], iV q15, bV true], [2, 3], [], by kernel_rfl, by kernel_rfl, rfl, by kernel_rfl, by kernel_rfl, trivial⟩
            · rcases of_bif hT28 with ⟨hb30, hT28⟩ | ⟨hb30, hT28⟩
              · exact HT.rgK [oH, oH, oH, ⟨some true, .no⟩, ⟨some true, .no⟩, ⟨some true, .no⟩, ⟨some true, .no⟩, ⟨none, .tv true⟩] [(0, 0), (1, 1), (2, 2), (3, 3)] [] hX (by kernel_rfl) (allCons hb30 (allCons hb30 (allCons hb30 (allCons hb30 (allCons hb30 allNil))))) (fun _ h => (qThen (h.ht (cont true (of_some hT28)))))
              · obtain ⟨y31, hc32, hT28⟩ := of_bind hT28
                exact HT.rgK [oH, oH, oH, ⟨some false, .no⟩, ⟨some false, .no⟩, ⟨some false, .call [.imm .str, .imm .str] [⟨false, .bool, y31⟩] []⟩, ⟨some false, .no⟩, ⟨none, .tv false⟩] [(0, 0), (1, 1), (2, 2), (3, 3)] [] hX (by kernel_rfl) (allCons hb30 (allCons hb30 (allCons hb30 (allCons (f194_ok hc32) (allCons hb30 (allCons hb30 allNil)))))) (fun _ h => (qThen (h.ht (cont (!y31) (of_some hT28)))))
          · refine HT.rg2 [oH] ⟨[(0, .one (.dat .str a0)), (2, pV 0 0), (5, iV (wadd .i64 q6 (2 : Int))), (6, pV 1 0), (7, iV q13), (8, iV q15), (86, iV (IntKind.wrap .i64 ((((List.getD a0 (Int.toNat q6) 0 : UInt8).toNat : Nat)) : Int))), (87, iV s21.1), (88, bV (decide (s21.1 < (IntKind.wrap .i64 ((((List.getD a0 (Int.toNat q6) 0 : UInt8).toNat : Nat)) : Int)))))], [(0, .box [.dat .str ([] : List UInt8), iC (0 : Int), iC (0 : Int), .nilS, .nilS]), (1, .box [.dat .str (cut a0 (5 : Int) q6), iC (IntKind.wrap .i64 ((((List.getD a0 (Int.toNat q6) 0 : UInt8).toNat : Nat)) : Int)), iC q11, .all 2, .all 3]), (2, .seq tI r19), (3, .seq .bool s21.2)], 4⟩ hX (by kernel_rfl) allNil ?_
            refine HT.seq ?_
            rcases of_bif hx34 with ⟨hb36, hx34⟩ | ⟨hb36, hx34⟩
            · refine HT.cond1 rfl hb36 ?_
              refine HT.skip (qThen ?_)
              refine HT.seq ?_
              refine HT.block ?_
              refine HT.rg2 (oHs 2) ⟨[(0, .one (.dat .str a0)), (2, pV 0 0), (5, iV (wadd .i64 q6 (2 : Int))), (6, pV 1 0), (7, iV q13), (8, iV q15), (10, iV s21.1), (86, iV (IntKind.wrap .i64 ((((List.getD a0 (Int.toNat q6) 0 : UInt8).toNat : Nat)) : Int))), (87, iV s21.1)], [(0, .box [.dat .str ([] : List UInt8), iC (0 : Int), iC (0 : Int), .nilS, .nilS]), (1, .box [.dat .str (cut a0 (5 : Int) q6), iC (IntKind.wrap .i64 ((((List.getD a0 (Int.toNat q6) 0 : UInt8).toNat : Nat)) : Int)), iC q11, .all 2, .all 3]), (2, .seq tI r19), (3, .seq .bool s21.2)], 4⟩ hX (by kernel_rfl) allNil ?_
              obtain ⟨hg37, hx34⟩ := of_guard hx34
              obtain ⟨hg38, hx34⟩ := of_guard hx34
              refine HT.drL 12 [⟨oH, []⟩, ⟨oH, [0]⟩, ⟨oH, [0, 1]⟩, ⟨oH, []⟩, ⟨oH, []⟩, ⟨oH, []⟩, ⟨oH, [4, 5]⟩, ⟨oH, []⟩, ⟨oH, [4, 5, 6, 7]⟩, ⟨oH, [3, 4, 5, 6, 7, 8]⟩, ⟨oH, [3, 4, 5, 6, 7, 8, 9]⟩, ⟨⟨none, .ty .bool⟩, [3, 4, 5, 6, 7, 8, 9, 10]⟩] [[0, 1, 2, 3, 4, 5, 6, 7, 8, 9, 10, 11], [0, 1, 2, 3, 4, 5, 6, 7, 8, 9, 10, 11, 12], [0, 1, 2, 3, 4, 5, 6, 7, 8, 9, 10, 11, 12, 13], [0, 1, 2, 3, 4, 5, 6, 7, 8, 9, 10, 11, 12, 13, 14]] [⟨none, .ty .bool⟩, oH, oH, oH] ⟨[(0, .one (.dat .str a0)), (2, pV 0 0), (5, iV (wadd .i64 q6 (2 : Int))), (6, pV 1 0), (7, iV q13), (8, iV q15), (86, iV (IntKind.wrap .i64 ((((List.getD a0 (Int.toNat q6) 0 : UInt8).toNat : Nat)) : Int))), (87, iV s21.1)], [(1, .box [.dat .str (cut a0 (5 : Int) q6), iC (IntKind.wrap .i64 ((((List.getD a0 (Int.toNat q6) 0 : UInt8).toNat : Nat)) : Int)), iC q11, .all 2, .all 5]), (5, .seq .bool (s21.2 ++ ([(((((List.getD a0 (Int.toNat (wadd .i64 (wadd .i64 (wadd .i64 q6 (2 : Int)) q13) s21.1)) 0 : UInt8).toNat : Nat)) : Int) == (1 : Int))] : List Bool))), (0, .box [.dat .str ([] : List UInt8), iC (0 : Int), iC (0 : Int), .nilS, .nilS]), (2, .seq tI r19)], 6⟩ hX (by kernel_rfl) (by kernel_rfl) (allCons hg37 (allCons hg38 allNil)) (qBlock (qThen ?_))
              have hx34 := of_some hx34
              subst hx34
              exact HT.rgK (oHs 2) [(0, 0), (1, 1), (2, 2), (5, 3)] [] hX (by kernel_rfl) allNil (fun _ h => (qLoopN ⟨((wadd .i64 s21.1 (1 : Int)), (s21.2 ++ ([(((((List.getD a0 (Int.toNat (wadd .i64 (wadd .i64 (wadd .i64 q6 (2 : Int)) q13) s21.1)) 0 : UInt8).toNat : Nat)) : Int) == (1 : Int))] : List Bool))), rfl, h⟩))
            · refine HT.cond0 rfl hb36 ?_
              have hx34 := of_some hx34
              subst hx34
              exact HT.exitL (Le.re [(0, 0), (1, 1), (2, 2), (3, 3)] [] hX (by kernel_rfl)) (qThenE (qLoopE (hk35 s21.2 rfl)))
        · refine HT.rg2 [oH] ⟨[(0, .one (.dat .str a0)), (2, pV 0 0), (5, iV (wadd .i64 q6 (2 : Int))), (6, pV 1 0), (7, iV q13), (8, iV q15), (66, iV q13), (67, iV s18.1), (68, bV (decide (s18.1 < q13)))], [(0, .box [.dat .str ([] : List UInt8), iC (0 : Int), iC (0 : Int), .nilS, .nilS]), (1, .box [.dat .str (cut a0 (5 : Int) q6), iC (IntKind.wrap .i64 ((((List.getD a0 (Int.toNat q6) 0 : UInt8).toNat : Nat)) : Int)), iC q11, .all 2, .nilS]), (2, .seq tI s18.2)], 3⟩ hX (by kernel_rfl) allNil ?_
          refine HT.seq ?_
          rcases of_bif hx41 with ⟨hb43, hx41⟩ | ⟨hb43, hx41⟩
          · refine HT.cond1 rfl hb43 ?_
            refine HT.skip (qThen ?_)
            refine HT.seq ?_
            refine HT.block ?_
            refine HT.rg2 (oHs 2) ⟨[(0, .one (.dat .str a0)), (2, pV 0 0), (5, iV (wadd .i64 q6 (2 : Int))), (6, pV 1 0), (7, iV q13), (8, iV q15), (9, iV s18.1), (66, iV q13), (67, iV s18.1)], [(0, .box [.dat .str ([] : List UInt8), iC (0 : Int), iC (0 : Int), .nilS, .nilS]), (1, .box [.dat .str (cut a0 (5 : Int) q6), iC (IntKind.wrap .i64 ((((List.getD a0 (Int.toNat q6) 0 : UInt8).toNat : Nat)) : Int)), iC q11, .all 2, .nilS]), (2, .seq tI s18.2)], 3⟩ hX (by kernel_rfl) allNil ?_
            obtain ⟨hg44, hx41⟩ := of_guard hx41
            obtain ⟨hg45, hx41⟩ := of_guard hx41
            refine HT.drL 10 [⟨oH, []⟩, ⟨oH, [0]⟩, ⟨oH, [0, 1]⟩, ⟨oH, []⟩, ⟨oH, []⟩, ⟨oH, []⟩, ⟨oH, [4, 5]⟩, ⟨oH, [3, 4, 5, 6]⟩, ⟨oH, [3, 4, 5, 6, 7]⟩, ⟨⟨none, .ty tI⟩, [3, 4, 5, 6, 7, 8]⟩] [[0, 1, 2, 3, 4, 5, 6, 7, 8, 9], [0, 1, 2, 3, 4, 5, 6, 7, 8, 9, 10], [0, 1, 2, 3, 4, 5, 6, 7, 8, 9, 10, 11], [0, 1, 2, 3, 4, 5, 6, 7, 8, 9, 10, 11, 12]] [⟨none, .ty tI⟩, oH, oH, oH] ⟨[(0, .one (.dat .str a0)), (2, pV 0 0), (5, iV (wadd .i64 q6 (2 : Int))), (6, pV 1 0), (7, iV q13), (8, iV q15), (66, iV q13), (67, iV s18.1)], [(1, .box [.dat .str (cut a0 (5 : Int) q6), iC (IntKind.wrap .i64 ((((List.getD a0 (Int.toNat q6) 0 : UInt8).toNat : Nat)) : Int)), iC q11, .all 4, .nilS]), (4, .seq tI (s18.2 ++ ([(IntKind.wrap .i64 ((((List.getD a0 (Int.toNat (wadd .i64 (wadd .i64 q6 (2 : Int)) s18.1)) 0 : UInt8).toNat : Nat)) : Int))] : List Int))), (0, .box [.dat .str ([] : List UInt8), iC (0 : Int), iC (0 : Int), .nilS, .nilS])], 5⟩ hX (by kernel_rfl) (by kernel_rfl) (allCons hg44 (allCons hg45 allNil)) (qBlock (qThen ?_))
            have hx41 := of_some hx41
            subst hx41
            exact HT.rgK (oHs 2) [(0, 0), (1, 1), (4, 2)] [] hX (by kernel_rfl) allNil (fun _ h => (qLoopN ⟨((wadd .i64 s18.1 (1 : Int)), (s18.2 ++ ([(IntKind.wrap .i64 ((((List.getD a0 (Int.toNat (wadd .i64 (wadd .i64 q6 (2 : Int)) s18.1)) 0 : UInt8).toNat : Nat)) : Int))] : List Int))), rfl, h⟩))
          · refine HT.cond0 rfl hb43 ?_
            have hx41 := of_some hx41
            subst hx41
            exact HT.exitL (Le.re [(0, 0), (1, 1), (2, 2)] [] hX (by kernel_rfl)) (qThenE (qLoopE (hk42 s18.2 rfl)))
  · rcases of_bif hT3 with ⟨hb47, hT3⟩ | ⟨hb47, hT3⟩
    · exact HT.rgK [oH, oH, oH, oH, ⟨some true, .no⟩, ⟨some true, .no⟩, ⟨some true, .no⟩, ⟨some true, .no⟩, ⟨some true, .no⟩, ⟨some true, .no⟩, ⟨some true, .no⟩, ⟨none, .tv true⟩] [(0, 0)] [] hX (by kernel_rfl) (allCons hb47 (allCons hb47 (allCons hb47 (allCons hb47 (allCons hb47 (allCons hb47 (allCons hb47 (allCons hb47 allNil)))))))) (fun _ h => (qThen (h.ht (cont true (of_some hT3)))))
    · obtain ⟨hg48, hT3⟩ := of_guard hT3
      exact HT.rgK [oH, oH, oH, oH, ⟨some false, .no⟩, ⟨some false, .no⟩, ⟨some false, .no⟩, ⟨some false, .no⟩, ⟨some false, .no⟩, ⟨some false, .no⟩, ⟨some false, .no⟩, ⟨none, .tv false⟩] [(0, 0)] [] hX (by kernel_rfl) (allCons hb47 (allCons hb47 (allCons hb47 (allCons hb47 (allCons hg48 (allCons hb47 (allCons hb47 (allCons hb47 (allCons hb47 allNil))))))))) (fun _ h => (qThen (h.ht (cont (decide ((lenI a0) < (wadd .i64 (7 : Int) (IntKind.wrap .i64 ((((List.getD a0 (Int.toNat (4 : Int)) 0 : UInt8).toNat : Nat)) : Int))))) (of_some hT3)))))

noncomputable def impl_RecoverKepts_B1 (a0 : List UInt8) (s1 : Int × (List (List UInt8 × Int × Int × List Int × List Bool))) : Option ((Int × (List (List UInt8 × Int × Int × List Int × List Bool))) ⊕ ((Int × (List (List UInt8 × Int × Int × List Int × List Bool))))) :=
  bif (decide ((lenI s1.2) < (8 : Int))) then
    guardP ((0 : Int) ≤ s1.1 ∧ s1.1 ≤ lenI a0) (
      (impl_readKept (cut a0 s1.1 (lenI a0))).bind fun y9 =>
      bif (!y9.2.2) then
        some (.inr (s1.1, s1.2))
      else
        guardP (List.length s1.2 + List.length ([(y9.1.1, y9.1.2.1, y9.1.2.2.1, y9.1.2.2.2.1, y9.1.2.2.2.2)] : List (List UInt8 × Int × Int × List Int × List Bool)) ≤ appMax) (
          (some (s1.2 ++ ([(y9.1.1, y9.1.2.1, y9.1.2.2.1, y9.1.2.2.2.1, y9.1.2.2.2.2)] : List (List UInt8 × Int × Int × List Int × List Bool)))).bind fun q13 =>
          some (.inl ((wadd .i64 s1.1 y9.2.1), q13))))
  else
    some (.inr (s1.1, s1.2))

noncomputable def impl_RecoverKepts (a0 : List UInt8) : Option ((List (List UInt8 × Int × Int × List Int × List Bool)) × Int × Bool) :=
  (rounds (impl_RecoverKepts_B1 a0) ((0 : Int), ([] : List (List UInt8 × Int × Int × List Int × List Bool)))).bind fun r3 =>
  some (r3.2, r3.1, true)

theorem f18_ok {a0 : List UInt8} {r : (List (List UInt8 × Int × Int × List Int × List Bool)) × Int × Bool} (hr : impl_RecoverKepts a0 = some r) : CallOK Try.prog 18 [.imm .str a0] [⟨true, (.sl (.st (.pair .str (.st (.pair tI (.pair tI (.pair (.own tI) (.own .bool)))))))), r.1⟩, ⟨false, tI, r.2.1⟩, ⟨false, .bool, r.2.2⟩] [] := by
  unfold impl_RecoverKepts at hr
  refine CallOK.of_body (ts := [(true, (.sl (.st (.pair .str (.st (.pair tI (.pair tI (.pair (.own tI) (.own .bool))))))))), (false, tI), (false, .bool)]) Try.func18 rfl (by kernel_rfl) (Nat.le_of_ble_eq_true (by kernel_rfl)) fun cx hP hN hO hF => ?_
  have hO : cx.own.map Prod.fst = [] := hO
  have hX := CxIs.mk hP hN hO
  have hF := hF rfl
  show HT cx ⟨[(0, .one (.dat .str a0))], [], 0⟩ _ _
  refine HT.rg2 (oHs 3) ⟨[(0, .one (.dat .str a0))], [], 0⟩ hX (by kernel_rfl) allNil ?_
  refine HT.rg2 (oHs 2) ⟨[(0, .one (.dat .str a0)), (5, .one (.nilS))], [], 0⟩ hX (by kernel_rfl) allNil ?_
  refine HT.rg2 [oH] ⟨[(0, .one (.dat .str a0)), (5, .one (.nilS)), (6, iV (0 : Int))], [], 0⟩ hX (by kernel_rfl) allNil ?_
  refine HT.seq ?_
  refine HT.block ?_
  obtain ⟨r2, hL15, hr⟩ := of_bind hr
  refine HT.loopL (fun (s1 : Int × (List (List UInt8 × Int × Int × List Int × List Bool))) => ⟨[(0, .one (.dat .str a0)), (5, aV 0), (6, iV s1.1)], [(0, .seq (.st (.pair .str (.st (.pair tI (.pair tI (.pair (.own tI) (.own .bool))))))) s1.2)], 1⟩) (fun (r3 : (Int × (List (List UInt8 × Int × Int × List Int × List Bool)))) => (.exit 0, ⟨[(5, aV 0), (6, iV r3.1)], [(0, .seq (.st (.pair .str (.st (.pair tI (.pair tI (.pair (.own tI) (.own .bool))))))) r3.2)], 1⟩)) (Le.re [] [0] hX (by kernel_rfl)) hL15 ?_ (fun s1 x4 hx5 hk6 => ?_)
  · refine (qBlockX (qThen ?_))
    refine HT.rg2 (oHs 5) ⟨[(2, aV 0), (3, iV r2.1), (4, bV true)], [(0, .seq (.st (.pair .str (.st (.pair tI (.pair tI (.pair (.own tI) (.own .bool))))))) r2.2)], 1⟩ hX (by kernel_rfl) allNil ?_
    have hr := of_some hr
    subst hr
    exact HT.ret ⟨[aV 0, iV r2.1, bV true], [0], [], by kernel_rfl, by kernel_rfl, rfl, by kernel_rfl, by kernel_rfl, trivial⟩
  · refine HT.seq ?_
    refine HT.rg2 (oHs 3) ⟨[(0, .one (.dat .str a0)), (5, aV 0), (6, iV s1.1), (13, bV (decide ((lenI s1.2) < (8 : Int))))], [(0, .seq (.st (.pair .str (.st (.pair tI (.pair tI (.pair (.own tI) (.own .bool))))))) s1.2)], 1⟩ hX (by kernel_rfl) allNil ?_
    rcases of_bif hx5 with ⟨hb7, hx5⟩ | ⟨hb7, hx5⟩
    · refine HT.cond1 rfl hb7 ?_
      refine HT.skip (qThen ?_)
      refine HT.block ?_
      obtain ⟨hg8, hx5⟩ := of_guard hx5
      obtain ⟨y9, hc10, hx5⟩ := of_bind hx5
      refine HT.rg2 [oH, oH, oH, ⟨none, .call [.imm .str] [⟨true, (.st (.pair .str (.st (.pair tI (.pair tI (.pair tLI (.sl .bool))))))), y9.1⟩, ⟨false, tI, y9.2.1⟩, ⟨false, .bool, y9.2.2⟩] []⟩, oH, oH, oH, oH, oH, oH, oH, oH] ⟨[(0, .one (.dat .str a0)), (5, aV 0), (6, iV s1.1), (7, pV 3 0), (8, iV y9.2.1), (9, bV y9.2.2)], [(3, .box [.dat .str y9.1.1, iC y9.1.2.1, iC y9.1.2.2.1, .all 1, .all 2]), (1, .seq tI y9.1.2.2.2.1), (2, .seq .bool y9.1.2.2.2.2), (0, .seq (.st (.pair .str (.st (.pair tI (.pair tI (.pair (.own tI) (.own .bool))))))) s1.2)], 4⟩ hX (by kernel_rfl) (allCons (show (0 : Int) ≤ s1.1 ∧ s1.1 ≤ lenI a0 ∧ lenI a0 ≤ lenI a0 from ⟨hg8.1, hg8.2, Int.le_refl _⟩) (allCons (f98_ok hc10) allNil)) ?_
      refine HT.seq ?_
      refine HT.rg2 (oHs 2) ⟨[(0, .one (.dat .str a0)), (5, aV 0), (6, iV s1.1), (7, pV 3 0), (8, iV y9.2.1), (23, bV (!y9.2.2))], [(3, .box [.dat .str y9.1.1, iC y9.1.2.1, iC y9.1.2.2.1, .all 1, .all 2]), (1, .seq tI y9.1.2.2.2.1), (2, .seq .bool y9.1.2.2.2.2), (0, .seq (.st (.pair .str (.st (.pair tI (.pair tI (.pair (.own tI) (.own .bool))))))) s1.2)], 4⟩ hX (by kernel_rfl) allNil ?_
      rcases of_bif hx5 with ⟨hb11, hx5⟩ | ⟨hb11, hx5⟩
      · refine HT.cond1 rfl hb11 ?_
        have hx5 := of_some hx5
        subst hx5
        exact HT.exitL (Le.re [(0, 0)] [] hX (by kernel_rfl)) (qThenE (qBlockE rfl (qLoopE (hk6 (s1.1, s1.2) rfl))))
      · refine HT.cond0 rfl hb11 ?_
        refine HT.skip (qThen ?_)
        obtain ⟨hg12, hx5⟩ := of_guard hx5
        refine HT.rg2 [oH, oH, ⟨none, .ty (.st (.pair .str (.st (.pair tI (.pair tI (.pair (.own tI) (.own .bool)))))))⟩, ⟨none, .ty (.st (.pair .str (.st (.pair tI (.pair tI (.pair (.own tI) (.own .bool)))))))⟩, oH] ⟨[(0, .one (.dat .str a0)), (5, aV 5), (6, iV s1.1), (8, iV y9.2.1)], [(5, .seq (.st (.pair .str (.st (.pair tI (.pair tI (.pair (.own tI) (.own .bool))))))) (s1.2 ++ ([(y9.1.1, y9.1.2.1, y9.1.2.2.1, y9.1.2.2.2.1, y9.1.2.2.2.2)] : List (List UInt8 × Int × Int × List Int × List Bool))))], 6⟩ hX (by kernel_rfl) (allCons hg12 allNil) ?_
        obtain ⟨q13, hq14, hx5⟩ := of_bind hx5
        have hq14 := of_some2 hq14
        refine (Le.cv (s := ⟨[(5, 5)], [], [], false⟩) (own := []) (ps := [a0 = a0, s1.1 = s1.1, y9.2.1 = y9.2.1, q13 = (s1.2 ++ ([(y9.1.1, y9.1.2.1, y9.1.2.2.1, y9.1.2.2.2.1, y9.1.2.2.2.2)] : List (List UInt8 × Int × Int × List Int × List Bool)))]) (st' := ⟨[(0, .one (.dat .str a0)), (5, aV 5), (6, iV s1.1), (8, iV y9.2.1)], [(5, .seq (.st (.pair .str (.st (.pair tI (.pair tI (.pair (.own tI) (.own .bool))))))) q13)], 6⟩) hO (fun h => by cases h) (by kernel_rfl) ⟨rfl, rfl, rfl, hq14, trivial⟩).ht ?_
        have hx5 := of_some hx5
        subst hx5
        exact HT.rgK (oHs 4) [(5, 0)] [] hX (by kernel_rfl) allNil (fun _ h => (qBlock (qLoopN ⟨((wadd .i64 s1.1 y9.2.1), q13), rfl, h⟩)))
    · refine HT.cond0 rfl hb7 ?_
      have hx5 := of_some hx5
      subst hx5
      exact HT.exitL (Le.re [(0, 0)] [] hX (by kernel_rfl)) (qThenE (qLoopE (hk6 (s1.1, s1.2) rfl)))

noncomputable def laws_b10At (a0 : List Int) (a1 : Int) (a2 : Int) : Option (Int) :=
  bif (decide (a2 ≤ (1 : Int))) then
    some (0 : Int)
  else
    bif (decide (a1 < (lenI a0))) then
      guardP ((0 : Int) ≤ a1 ∧ a1 < lenI a0) (
        guardP (a2 ≠ 0) (
          some (Int.tmod (IntKind.wrap .i64 (List.getD a0 (Int.toNat a1) (0 : Int))) a2)))
    else
      guardP (a2 ≠ 0) (
        some (Int.tmod (wadd .i64 (wmul .i64 a1 (37 : Int)) (11 : Int)) a2))

theorem f19_ok {a0 : List Int} {a1 : Int} {a2 : Int} {r : Int} (hr : laws_b10At a0 a1 a2 = some r) : CallOK Try.prog 19 [.imm (.sl (.int .u8)) a0, .imm tI a1, .imm tI a2] [⟨false, tI, r⟩] [] := by
  unfold laws_b10At at hr
  refine CallOK.of_body (ts := [(false, tI)]) Try.func19 rfl (by kernel_rfl) (Nat.le_of_ble_eq_true (by kernel_rfl)) fun cx hP hN hO hF => ?_
  have hO : cx.own.map Prod.fst = [] := hO
  have hX := CxIs.mk hP hN hO
  have hF := hF rfl
  show HT cx ⟨[(0, .one (.dat (.sl (.int .u8)) a0)), (1, iV a1), (2, iV a2)], [], 0⟩ _ _
  refine HT.rg2 [oH] ⟨[(0, .one (.dat (.sl (.int .u8)) a0)), (1, iV a1), (2, iV a2)], [], 0⟩ hX (by kernel_rfl) allNil ?_
  refine HT.seq ?_
  refine HT.rg2 (oHs 2) ⟨[(0, .one (.dat (.sl (.int .u8)) a0)), (1, iV a1), (2, iV a2), (8, bV (decide (a2 ≤ (1 : Int))))], [], 0⟩ hX (by kernel_rfl) allNil ?_
  rcases of_bif hr with ⟨hb1, hr⟩ | ⟨hb1, hr⟩
  · refine HT.cond1 rfl hb1 ?_
    refine HT.rg2 [oH] ⟨[(6, iV (0 : Int))], [], 0⟩ hX (by kernel_rfl) allNil ?_
    have hr := of_some hr
    subst hr
    exact HT.ret (qThenR ⟨[iV (0 : Int)], [], [], by kernel_rfl, by kernel_rfl, rfl, by kernel_rfl, by kernel_rfl, trivial⟩)
  · refine HT.cond0 rfl hb1 ?_
    refine HT.skip (qThen ?_)
    refine HT.seq ?_
    refine HT.rg2 (oHs 4) ⟨[(0, .one (.dat (.sl (.int .u8)) a0)), (1, iV a1), (2, iV a2), (12, bV (decide (a1 < (lenI a0))))], [], 0⟩ hX (by kernel_rfl) allNil ?_
    rcases of_bif hr with ⟨hb2, hr⟩ | ⟨hb2, hr⟩
    · refine HT.cond1 rfl hb2 ?_
      obtain ⟨hg3, hr⟩ := of_guard hr
      obtain ⟨hg4, hr⟩ := of_guard hr
      refine HT.rg2 (oHs 8) ⟨[(6, iV (Int.tmod (IntKind.wrap .i64 (List.getD a0 (Int.toNat a1) (0 : Int))) a2))], [], 0⟩ hX (by kernel_rfl) (allCons hg3 (allCons hg4 allNil)) ?_
      have hr := of_some hr
      subst hr
      exact HT.ret (qThenR ⟨[iV (Int.tmod (IntKind.wrap .i64 (List.getD a0 (Int.toNat a1) (0 : Int))) a2)], [], [], by kernel_rfl, by kernel_rfl, rfl, by kernel_rfl, by kernel_rfl, trivial⟩)
    · refine HT.cond0 rfl hb2 ?_
      refine HT.skip (qThen ?_)
      obtain ⟨hg5, hr⟩ := of_guard hr
      refine HT.rg2 (oHs 6) ⟨[(6, iV (Int.tmod (wadd .i64 (wmul .i64 a1 (37 : Int)) (11 : Int)) a2))], [], 0⟩ hX (by kernel_rfl) (allCons hg5 allNil) ?_
      have hr := of_some hr
      subst hr
      exact HT.ret ⟨[iV (Int.tmod (wadd .i64 (wmul .i64 a1 (37 : Int)) (11 : Int)) a2)], [], [], by kernel_rfl, by kernel_rfl, rfl, by kernel_rfl, by kernel_rfl, trivial⟩

noncomputable def slices_Equal___int64_int64_B1 (a0 : List Int) (a1 : List Int) (s2 : Int) : Option ((Int) ⊕ (Unit ⊕ Unit)) :=
  bif (decide (s2 < (lenI a0))) then
    guardP ((0 : Int) ≤ s2 ∧ s2 < lenI a0) (
      guardP ((0 : Int) ≤ s2 ∧ s2 < lenI a1) (
        bif ((List.getD a0 (Int.toNat s2) (0 : Int)) != (List.getD a1 (Int.toNat s2) (0 : Int))) then
          some (.inr (.inr ()))
        else
          some (.inl (wadd .i64 s2 (1 : Int)))))
  else
    some (.inr (.inl ()))

noncomputable def slices_Equal___int64_int64 (a0 : List Int) (a1 : List Int) : Option (Bool) :=
  bif ((lenI a0) != (lenI a1)) then
    some false
  else
    (rounds (slices_Equal___int64_int64_B1 a0 a1) (0 : Int)).bind fun r3 => match r3 with
      | .inl r4 =>
        some true
      | .inr r5 =>
        some false

theorem f112_ok {a0 : List Int} {a1 : List Int} {r : Bool} (hr : slices_Equal___int64_int64 a0 a1 = some r) : CallOK Try.prog 112 [.imm tLI a0, .imm tLI a1] [⟨false, .bool, r⟩] [] := by
  unfold slices_Equal___int64_int64 at hr
  refine CallOK.of_body (ts := [(false, .bool)]) Try.func112 rfl (by kernel_rfl) (Nat.le_of_ble_eq_true (by kernel_rfl)) fun cx hP hN hO hF => ?_
  have hO : cx.own.map Prod.fst = [] := hO
  have hX := CxIs.mk hP hN hO
  have hF := hF rfl
  show HT cx ⟨[(0, nV a0), (1, nV a1)], [], 0⟩ _ _
  refine HT.rg2 [oH] ⟨[(0, nV a0), (1, nV a1)], [], 0⟩ hX (by kernel_rfl) allNil ?_
  refine HT.seq ?_
  refine HT.rg2 (oHs 5) ⟨[(0, nV a0), (1, nV a1), (10, bV ((lenI a0) != (lenI a1)))], [], 0⟩ hX (by kernel_rfl) allNil ?_
  rcases of_bif hr with ⟨hb1, hr⟩ | ⟨hb1, hr⟩
  · refine HT.cond1 rfl hb1 ?_
    refine HT.rg2 [oH] ⟨[(4, bV false)], [], 0⟩ hX (by kernel_rfl) allNil ?_
    have hr := of_some hr
    subst hr
    exact HT.ret (qThenR ⟨[bV false], [], [], by kernel_rfl, by kernel_rfl, rfl, by kernel_rfl, by kernel_rfl, trivial⟩)
  · refine HT.cond0 rfl hb1 ?_
    refine HT.skip (qThen ?_)
    refine HT.seq ?_
    refine HT.rg2 (oHs 3) ⟨[(0, nV a0), (1, nV a1), (12, iV (lenI a0)), (13, iV (0 : Int))], [], 0⟩ hX (by kernel_rfl) allNil ?_
    refine HT.block ?_
    obtain ⟨r3, hL13, hr⟩ := of_bind hr
    refine HT.loopL (fun (s2 : Int) => ⟨[(0, nV a0), (1, nV a1), (12, iV (lenI a0)), (13, iV s2)], [], 0⟩) (fun (r3 : Unit ⊕ Unit) => match r3 with | .inl r4 => (.exit 0, ⟨[], [], 0⟩) | .inr r5 => (.ret, ⟨[(4, bV false)], [], 0⟩)) (Le.re [] [] hX (by kernel_rfl)) hL13 ?_ (fun s2 x6 hx7 hk8 => ?_)
    · rcases r3 with r4 | r5
      · refine (qBlockX (qThen ?_))
        refine HT.rg2 [oH] ⟨[(4, bV true)], [], 0⟩ hX (by kernel_rfl) allNil ?_
        have hr := of_some hr
        subst hr
        exact HT.ret ⟨[bV true], [], [], by kernel_rfl, by kernel_rfl, rfl, by kernel_rfl, by kernel_rfl, trivial⟩
      · have hr := of_some hr
        subst hr
        exact (qBlockR (qThenR ⟨[bV false], [], [], by kernel_rfl, by kernel_rfl, rfl, by kernel_rfl, by kernel_rfl, trivial⟩))
    · refine HT.rg2 [oH] ⟨[(0, nV a0), (1, nV a1), (12, iV (lenI a0)), (13, iV s2), (14, bV (decide (s2 < (lenI a0))))], [], 0⟩ hX (by kernel_rfl) allNil ?_
      refine HT.seq ?_
      rcases of_bif hx7 with ⟨hb9, hx7⟩ | ⟨hb9, hx7⟩
      · refine HT.cond1 rfl hb9 ?_
        refine HT.skip (qThen ?_)
        refine HT.seq ?_
        refine HT.block ?_
        refine HT.rg2 (oHs 2) ⟨[(0, nV a0), (1, nV a1), (5, iV s2), (12, iV (lenI a0)), (13, iV s2)], [], 0⟩ hX (by kernel_rfl) allNil ?_
        obtain ⟨hg10, hx7⟩ := of_guard hx7
        obtain ⟨hg11, hx7⟩ := of_guard hx7
        refine HT.dr2 8 [⟨oH, []⟩, ⟨oH, []⟩, ⟨oH, [0, 1]⟩, ⟨oH, [0, 1, 2]⟩, ⟨oH, []⟩, ⟨oH, []⟩, ⟨oH, [4, 5]⟩, ⟨oH, [4, 5, 6]⟩] [[0, 1, 2, 3, 4, 5, 6, 7]] [oH] ⟨[(0, nV a0), (1, nV a1), (12, iV (lenI a0)), (13, iV s2), (24, bV ((List.getD a0 (Int.toNat s2) (0 : Int)) != (List.getD a1 (Int.toNat s2) (0 : Int))))], [], 0⟩ hX (by kernel_rfl) (by kernel_rfl) (allCons hg10 (allCons hg11 allNil)) ?_
        rcases of_bif hx7 with ⟨hb12, hx7⟩ | ⟨hb12, hx7⟩
        · refine HT.cond1 rfl hb12 ?_
          refine HT.rg2 [oH] ⟨[(4, bV false)], [], 0⟩ hX (by kernel_rfl) allNil ?_
          have hx7 := of_some hx7
          subst hx7
          exact HT.retL (Le.re [] [] hX (by kernel_rfl)) (qBlockR (qThenR (qLoopR (hk8 (.inr ()) rfl))))
        · refine HT.cond0 rfl hb12 ?_
          refine HT.skip (qBlock (qThen ?_))
          have hx7 := of_some hx7
          subst hx7
          exact HT.rgK (oHs 2) [] [] hX (by kernel_rfl) allNil (fun _ h => (qLoopN ⟨(wadd .i64 s2 (1 : Int)), rfl, h⟩))
      · refine HT.cond0 rfl hb9 ?_
        have hx7 := of_some hx7
        subst hx7
        exact HT.exitL (Le.re [] [] hX (by kernel_rfl)) (qThenE (qLoopE (hk8 (.inl ()) rfl)))

noncomputable def slices_Equal___bool_bool_B1 (a0 : List Bool) (a1 : List Bool) (s2 : Int) : Option ((Int) ⊕ (Unit ⊕ Unit)) :=
  bif (decide (s2 < (lenI a0))) then
    guardP ((0 : Int) ≤ s2 ∧ s2 < lenI a0) (
      guardP ((0 : Int) ≤ s2 ∧ s2 < lenI a1) (
        bif ((List.getD a0 (Int.toNat s2) false) != (List.getD a1 (Int.toNat s2) false)) then
          some (.inr (.inr ()))
        else
          some (.inl (wadd .i64 s2 (1 : Int)))))
  else
    some (.inr (.inl ()))

noncomputable def slices_Equal___bool_bool (a0 : List Bool) (a1 : List Bool) : Option (Bool) :=
  bif ((lenI a0) != (lenI a1)) then
    some false
  else
    (rounds (slices_Equal___bool_bool_B1 a0 a1) (0 : Int)).bind fun r3 => match r3 with
      | .inl r4 =>
        some true
      | .inr r5 =>
        some false

theorem f195_ok {a0 : List Bool} {a1 : List Bool} {r : Bool} (hr : slices_Equal___bool_bool a0 a1 = some r) : CallOK Try.prog 195 [.imm (.sl .bool) a0, .imm (.sl .bool) a1] [⟨false, .bool, r⟩] [] := by
  unfold slices_Equal___bool_bool at hr
  refine CallOK.of_body (ts := [(false, .bool)]) Try.func195 rfl (by kernel_rfl) (Nat.le_of_ble_eq_true (by kernel_rfl)) fun cx hP hN hO hF => ?_
  have hO : cx.own.map Prod.fst = [] := hO
  have hX := CxIs.mk hP hN hO
  have hF := hF rfl
  show HT cx ⟨[(0, .one (.dat (.sl .bool) a0)), (1, .one (.dat (.sl .bool) a1))], [], 0⟩ _ _
  refine HT.rg2 [oH] ⟨[(0, .one (.dat (.sl .bool) a0)), (1, .one (.dat (.sl .bool) a1))], [], 0⟩ hX (by kernel_rfl) allNil ?_
  refine HT.seq ?_
  refine HT.rg2 (oHs 5) ⟨[(0, .one (.dat (.sl .bool) a0)), (1, .one (.dat (.sl .bool) a1)), (10, bV ((lenI a0) != (lenI a1)))], [], 0⟩ hX (by kernel_rfl) allNil ?_
  rcases of_bif hr with ⟨hb1, hr⟩ | ⟨hb1, hr⟩
  · refine HT.cond1 rfl hb1 ?_
    refine HT.rg2 [oH] ⟨[(4, bV false)], [], 0⟩ hX (by kernel_rfl) allNil ?_
    have hr := of_some hr
    subst hr
    exact HT.ret (qThenR ⟨[bV false], [], [], by kernel_rfl, by kernel_rfl, rfl, by kernel_rfl, by kernel_rfl, trivial⟩)
  · refine HT.cond0 rfl hb1 ?_
    refine HT.skip (qThen ?_)
    refine HT.seq ?_
    refine HT.rg2 (oHs 3) ⟨[(0, .one (.dat (.sl .bool) a0)), (1, .one (.dat (.sl .bool) a1)), (12, iV (lenI a0)), (13, iV (0 : Int))], [], 0⟩ hX (by kernel_rfl) allNil ?_
    refine HT.block ?_
    obtain ⟨r3, hL13, hr⟩ := of_bind hr
    refine HT.loopL (fun (s2 : Int) => ⟨[(0, .one (.dat (.sl .bool) a0)), (1, .one (.dat (.sl .bool) a1)), (12, iV (lenI a0)), (13, iV s2)], [], 0⟩) (fun (r3 : Unit ⊕ Unit) => match r3 with | .inl r4 => (.exit 0, ⟨[], [], 0⟩) | .inr r5 => (.ret, ⟨[(4, bV false)], [], 0⟩)) (Le.re [] [] hX (by kernel_rfl)) hL13 ?_ (fun s2 x6 hx7 hk8 => ?_)
    · rcases r3 with r4 | r5
      · refine (qBlockX (qThen ?_))
        refine HT.rg2 [oH] ⟨[(4, bV true)], [], 0⟩ hX (by kernel_rfl) allNil ?_
        have hr := of_some hr
        subst hr
        exact HT.ret ⟨[bV true], [], [], by kernel_rfl, by kernel_rfl, rfl, by kernel_rfl, by kernel_rfl, trivial⟩
      · have hr := of_some hr
        subst hr
        exact (qBlockR (qThenR ⟨[bV false], [], [], by kernel_rfl, by kernel_rfl, rfl, by kernel_rfl, by kernel_rfl, trivial⟩))
    · refine HT.rg2 [oH] ⟨[(0, .one (.dat (.sl .bool) a0)), (1, .one (.dat (.sl .bool) a1)), (12, iV (lenI a0)), (13, iV s2), (14, bV (decide (s2 < (lenI a0))))], [], 0⟩ hX (by kernel_rfl) allNil ?_
      refine HT.seq ?_
      rcases of_bif hx7 with ⟨hb9, hx7⟩ | ⟨hb9, hx7⟩
      · refine HT.cond1 rfl hb9 ?_
        refine HT.skip (qThen ?_)
        refine HT.seq ?_
        refine HT.block ?_
        refine HT.rg2 (oHs 2) ⟨[(0, .one (.dat (.sl .bool) a0)), (1, .one (.dat (.sl .bool) a1)), (5, iV s2), (12, iV (lenI a0)), (13, iV s2)], [], 0⟩ hX (by kernel_rfl) allNil ?_
        obtain ⟨hg10, hx7⟩ := of_guard hx7
        obtain ⟨hg11, hx7⟩ := of_guard hx7
        refine HT.dr2 8 [⟨oH, []⟩, ⟨oH, []⟩, ⟨oH, [0, 1]⟩, ⟨oH, [0, 1, 2]⟩, ⟨oH, []⟩, ⟨oH, []⟩, ⟨oH, [4, 5]⟩, ⟨oH, [4, 5, 6]⟩] [[0, 1, 2, 3, 4, 5, 6, 7]] [oH] ⟨[(0, .one (.dat (.sl .bool) a0)), (1, .one (.dat (.sl .bool) a1)), (12, iV (lenI a0)), (13, iV s2), (24, bV ((List.getD a0 (Int.toNat s2) false) != (List.getD a1 (Int.toNat s2) false)))], [], 0⟩ hX (by kernel_rfl) (by kernel_rfl) (allCons hg10 (allCons hg11 allNil)) ?_
        rcases of_bif hx7 with ⟨hb12, hx7⟩ | ⟨hb12, hx7⟩
        · refine HT.cond1 rfl hb12 ?_
          refine HT.rg2 [oH] ⟨[(4, bV false)], [], 0⟩ hX (by kernel_rfl) allNil ?_
          have hx7 := of_some hx7
          subst hx7
          exact HT.retL (Le.re [] [] hX (by kernel_rfl)) (qBlockR (qThenR (qLoopR (hk8 (.inr ()) rfl))))
        · refine HT.cond0 rfl hb12 ?_
          refine HT.skip (qBlock (qThen ?_))
          have hx7 := of_some hx7
          subst hx7
          exact HT.rgK (oHs 2) [] [] hX (by kernel_rfl) allNil (fun _ h => (qLoopN ⟨(wadd .i64 s2 (1 : Int)), rfl, h⟩))
      · refine HT.cond0 rfl hb9 ?_
        have hx7 := of_some hx7
        subst hx7
        exact HT.exitL (Le.re [] [] hX (by kernel_rfl)) (qThenE (qLoopE (hk8 (.inl ()) rfl)))

noncomputable def impl_SamePlain (a0 : Int × Int × List Int × List Bool) (a1 : Int × Int × List Int × List Bool) : Option (Bool) :=
  (show Option (Bool) from
    bif (a0.1 == a1.1) then
      bif (a0.2.1 == a1.2.1) then
        (slices_Equal___int64_int64 a0.2.2.1 a1.2.2.1).bind fun y6 =>
        bif y6 then
          (slices_Equal___bool_bool a0.2.2.2 a1.2.2.2).bind fun y9 =>
          some y9
        else
          some false
      else
        some false
    else
      some false).bind fun v1 =>
  some v1

theorem f103_ok {a0 : Int × Int × List Int × List Bool} {a1 : Int × Int × List Int × List Bool} {r : Bool} (hr : impl_SamePlain a0 a1 = some r) : CallOK Try.prog 103 [.imm (.st (.pair tI (.pair tI (.pair tLI (.sl .bool))))) a0, .imm (.st (.pair tI (.pair tI (.pair tLI (.sl .bool))))) a1] [⟨false, .bool, r⟩] [] := by
  unfold impl_SamePlain at hr
  refine CallOK.of_body (ts := [(false, .bool)]) Try.func103 rfl (by kernel_rfl) (Nat.le_of_ble_eq_true (by kernel_rfl)) fun cx hP hN hO hF => ?_
  have hO : cx.own.map Prod.fst = [] := hO
  have hX := CxIs.mk hP hN hO
  have hF := hF rfl
  show HT cx ⟨[(0, .agg [iC a0.1, iC a0.2.1, nC a0.2.2.1, .dat (.sl .bool) a0.2.2.2]), (1, .agg [iC a1.1, iC a1.2.1, nC a1.2.2.1, .dat (.sl .bool) a1.2.2.2])], [], 0⟩ _ _
  refine HT.rg2 (oHs 3) ⟨[(2, pV 0 0), (3, pV 1 0)], [(1, .box [iC a1.1, iC a1.2.1, nC a1.2.2.1, .dat (.sl .bool) a1.2.2.2]), (0, .box [iC a0.1, iC a0.2.1, nC a0.2.2.1, .dat (.sl .bool) a0.2.2.2])], 2⟩ hX (by kernel_rfl) allNil ?_
  obtain ⟨v1', hT3, hr⟩ := of_bind hr
  refine HT.join (fun (v1 : Bool) => ⟨[(4, bV v1)], [], 0⟩) (fun v => v = v1') (fun v1 hv2 => ?_) (fun cont => ?_)
  · subst hv2
    have hr := of_some hr
    subst hr
    exact HT.ret ⟨[bV v1], [], [], by kernel_rfl, by kernel_rfl, rfl, by kernel_rfl, by kernel_rfl, trivial⟩
  · rcases of_bif hT3 with ⟨hb4, hT3⟩ | ⟨hb4, hT3⟩
    · rcases of_bif hT3 with ⟨hb5, hT3⟩ | ⟨hb5, hT3⟩
      · obtain ⟨y6, hc7, hT3⟩ := of_bind hT3
        rcases of_bif hT3 with ⟨hb8, hT3⟩ | ⟨hb8, hT3⟩
        · obtain ⟨y9, hc10, hT3⟩ := of_bind hT3
          exact HT.rgK [oH, oH, oH, oH, oH, oH, ⟨some true, .no⟩, ⟨some true, .no⟩, ⟨some true, .no⟩, ⟨some true, .no⟩, ⟨some true, .no⟩, ⟨none, .tv true⟩, oH, ⟨some true, .no⟩, ⟨some true, .no⟩, ⟨some true, .no⟩, ⟨some true, .no⟩, ⟨some true, .call [.imm tLI, .imm tLI] [⟨false, .bool, y6⟩] []⟩, ⟨none, .tv true⟩, oH, ⟨some true, .no⟩, ⟨some true, .no⟩, ⟨some true, .no⟩, ⟨some true, .no⟩, ⟨some true, .call [.imm (.sl .bool), .imm (.sl .bool)] [⟨false, .bool, y9⟩] []⟩, ⟨none, .tv true⟩, oH] [] [] hX (by kernel_rfl) (allCons hb4 (allCons hb4 (allCons hb4 (allCons hb4 (allCons hb4 (allCons hb4 (allCons hb5 (allCons hb5 (allCons hb5 (allCons hb5 (allCons hb5 (allCons (f112_ok hc7) (allCons hb5 (allCons hb8 (allCons hb8 (allCons hb8 (allCons hb8 (allCons hb8 (allCons (f195_ok hc10) (allCons hb8 allNil)))))))))))))))))))) (fun _ h => (qThen (h.ht (cont y9 (of_some hT3)))))
        · exact HT.rgK [oH, oH, oH, oH, oH, oH, ⟨some true, .no⟩, ⟨some true, .no⟩, ⟨some true, .no⟩, ⟨some true, .no⟩, ⟨some true, .no⟩, ⟨none, .tv true⟩, oH, ⟨some true, .no⟩, ⟨some true, .no⟩, ⟨some true, .no⟩, ⟨some true, .no⟩, ⟨some true, .call [.imm tLI, .imm tLI] [⟨false, .bool, y6⟩] []⟩, ⟨none, .tv true⟩, oH, ⟨some false, .no⟩, ⟨some false, .no⟩, ⟨some false, .no⟩, ⟨some false, .no⟩, ⟨some false, .no⟩, ⟨none, .tv false⟩, oH] [] [] hX (by kernel_rfl) (allCons hb4 (allCons hb4 (allCons hb4 (allCons hb4 (allCons hb4 (allCons hb4 (allCons hb5 (allCons hb5 (allCons hb5 (allCons hb5 (allCons hb5 (allCons (f112_ok hc7) (allCons hb5 (allCons hb8 (allCons hb8 (allCons hb8 (allCons hb8 (allCons hb8 (allCons hb8 allNil))))))))))))))))))) (fun _ h => (qThen (h.ht (cont false (of_some hT3)))))
      · exact HT.rgK [oH, oH, oH, oH, oH, oH, ⟨some true, .no⟩, ⟨some true, .no⟩, ⟨some true, .no⟩, ⟨some true, .no⟩, ⟨some true, .no⟩, ⟨none, .tv true⟩, oH, ⟨some false, .no⟩, ⟨some false, .no⟩, ⟨some false, .no⟩, ⟨some false, .no⟩, ⟨some false, .no⟩, ⟨none, .tv false⟩, oH, ⟨some false, .no⟩, ⟨some false, .no⟩, ⟨some false, .no⟩, ⟨some false, .no⟩, ⟨some false, .no⟩, ⟨none, .tv false⟩, oH] [] [] hX (by kernel_rfl) (allCons hb4 (allCons hb4 (allCons hb4 (allCons hb4 (allCons hb4 (allCons hb4 (allCons hb5 (allCons hb5 (allCons hb5 (allCons hb5 (allCons hb5 (allCons hb5 (allCons (rfl : false = false) (allCons (rfl : false = false) (allCons (rfl : false = false) (allCons (rfl : false = false) (allCons (rfl : false = false) (allCons (rfl : false = false) allNil)))))))))))))))))) (fun _ h => (qThen (h.ht (cont false (of_some hT3)))))
    · exact HT.rgK [oH, oH, oH, oH, oH, oH, ⟨some false, .no⟩, ⟨some false, .no⟩, ⟨some false, .no⟩, ⟨some false, .no⟩, ⟨some false, .no⟩, ⟨none, .tv false⟩, oH, ⟨some false, .no⟩, ⟨some false, .no⟩, ⟨some false, .no⟩, ⟨some false, .no⟩, ⟨some false, .no⟩, ⟨none, .tv false⟩, oH, ⟨some false, .no⟩, ⟨some false, .no⟩, ⟨some false, .no⟩, ⟨some false, .no⟩, ⟨some false, .no⟩, ⟨none, .tv false⟩, oH] [] [] hX (by kernel_rfl) (allCons hb4 (allCons hb4 (allCons hb4 (allCons hb4 (allCons hb4 (allCons hb4 (allCons (rfl : false = false) (allCons (rfl : false = false) (allCons (rfl : false = false) (allCons (rfl : false = false) (allCons (rfl : false = false) (allCons (rfl : false = false) (allCons (rfl : false = false) (allCons (rfl : false = false) (allCons (rfl : false = false) (allCons (rfl : false = false) (allCons (rfl : false = false) (allCons (rfl : false = false) allNil)))))))))))))))))) (fun _ h => (qThen (h.ht (cont false (of_some hT3)))))

noncomputable def impl_SameKept_1 (a0 : List UInt8 × Int × Int × List Int × List Bool) (a1 : List UInt8 × Int × Int × List Int × List Bool) : Option (Bool) :=
  (show Option (Bool) from
    bif (a0.1 == a1.1) then
      (impl_SamePlain (a0.2.1, a0.2.2.1, a0.2.2.2.1, a0.2.2.2.2) (a1.2.1, a1.2.2.1, a1.2.2.2.1, a1.2.2.2.2)).bind fun y5 =>
      some y5
    else
      some false).bind fun v1 =>
  some v1

theorem f102_ok {a0 : List UInt8 × Int × Int × List Int × List Bool} {a1 : List UInt8 × Int × Int × List Int × List Bool} {r : Bool} (hr : impl_SameKept_1 a0 a1 = some r) : CallOK Try.prog 102 [.imm (.st (.pair .str (.st (.pair tI (.pair tI (.pair tLI (.sl .bool))))))) a0, .imm (.st (.pair .str (.st (.pair tI (.pair tI (.pair tLI (.sl .bool))))))) a1] [⟨false, .bool, r⟩] [] := by
  unfold impl_SameKept_1 at hr
  refine CallOK.of_body (ts := [(false, .bool)]) Try.func102 rfl (by kernel_rfl) (Nat.le_of_ble_eq_true (by kernel_rfl)) fun cx hP hN hO hF => ?_
  have hO : cx.own.map Prod.fst = [] := hO
  have hX := CxIs.mk hP hN hO
  have hF := hF rfl
  show HT cx ⟨[(0, .agg [.dat .str a0.1, iC a0.2.1, iC a0.2.2.1, nC a0.2.2.2.1, .dat (.sl .bool) a0.2.2.2.2]), (1, .agg [.dat .str a1.1, iC a1.2.1, iC a1.2.2.1, nC a1.2.2.2.1, .dat (.sl .bool) a1.2.2.2.2])], [], 0⟩ _ _
  refine HT.rg2 (oHs 3) ⟨[(2, pV 0 0), (3, pV 1 0)], [(1, .box [.dat .str a1.1, iC a1.2.1, iC a1.2.2.1, nC a1.2.2.2.1, .dat (.sl .bool) a1.2.2.2.2]), (0, .box [.dat .str a0.1, iC a0.2.1, iC a0.2.2.1, nC a0.2.2.2.1, .dat (.sl .bool) a0.2.2.2.2])], 2⟩ hX (by kernel_rfl) allNil ?_
  obtain ⟨v1', hT3, hr⟩ := of_bind hr
  refine HT.join (fun (v1 : Bool) => ⟨[(4, bV v1)], [], 0⟩) (fun v => v = v1') (fun v1 hv2 => ?_) (fun cont => ?_)
  · subst hv2
    have hr := of_some hr
    subst hr
    exact HT.ret ⟨[bV v1], [], [], by kernel_rfl, by kernel_rfl, rfl, by kernel_rfl, by kernel_rfl, trivial⟩
  · rcases of_bif hT3 with ⟨hb4, hT3⟩ | ⟨hb4, hT3⟩
    · obtain ⟨y5, hc6, hT3⟩ := of_bind hT3
      exact HT.rgK [oH, oH, oH, oH, oH, oH, ⟨some true, .no⟩, ⟨some true, .no⟩, ⟨some true, .no⟩, ⟨some true, .no⟩, ⟨some true, .call [.imm (.st (.pair tI (.pair tI (.pair tLI (.sl .bool))))), .imm (.st (.pair tI (.pair tI (.pair tLI (.sl .bool)))))] [⟨false, .bool, y5⟩] []⟩, ⟨none, .tv true⟩, oH] [] [] hX (by kernel_rfl) (allCons hb4 (allCons hb4 (allCons hb4 (allCons hb4 (allCons hb4 (allCons (f103_ok hc6) (allCons hb4 allNil))))))) (fun _ h => (qThen (h.ht (cont y5 (of_some hT3)))))
    · exact HT.rgK [oH, oH, oH, oH, oH, oH, ⟨some false, .no⟩, ⟨some false, .no⟩, ⟨some false, .no⟩, ⟨some false, .no⟩, ⟨some false, .no⟩, ⟨none, .tv false⟩, oH] [] [] hX (by kernel_rfl) (allCons hb4 (allCons hb4 (allCons hb4 (allCons hb4 (allCons hb4 (allCons hb4 allNil)))))) (fun _ h => (qThen (h.ht (cont false (of_some hT3)))))

noncomputable def slices_EqualFunc___impl_Kept___impl_Kept_impl_Kept_impl_Kept_fn2_impl_SameKept_1_B1 (a0 : List (List UInt8 × Int × Int × List Int × List Bool)) (a1 : List (List UInt8 × Int × Int × List Int × List Bool)) (s2 : Int) : Option ((Int) ⊕ (Unit ⊕ Unit)) :=
  bif (decide (s2 < (lenI a0))) then
    guardP ((0 : Int) ≤ s2 ∧ s2 < lenI a0) (
      (some ((List.getD a0 (Int.toNat s2) (([] : List UInt8), (0 : Int), (0 : Int), ([] : List Int), ([] : List Bool))).1)).bind fun q11 =>
      (some (((List.getD a0 (Int.toNat s2) (([] : List UInt8), (0 : Int), (0 : Int), ([] : List Int), ([] : List Bool))).2).1)).bind fun q13 =>
      (some ((((List.getD a0 (Int.toNat s2) (([] : List UInt8), (0 : Int), (0 : Int), ([] : List Int), ([] : List Bool))).2).2).1)).bind fun q15 =>
      (some (((((List.getD a0 (Int.toNat s2) (([] : List UInt8), (0 : Int), (0 : Int), ([] : List Int), ([] : List Bool))).2).2).2).1)).bind fun q17 =>
      (some (((((List.getD a0 (Int.toNat s2) (([] : List UInt8), (0 : Int), (0 : Int), ([] : List Int), ([] : List Bool))).2).2).2).2)).bind fun q19 =>
      guardP ((0 : Int) ≤ s2 ∧ s2 < lenI a1) (
        (some ((List.getD a1 (Int.toNat s2) (([] : List UInt8), (0 : Int), (0 : Int), ([] : List Int), ([] : List Bool))).1)).bind fun q22 =>
        (some (((List.getD a1 (Int.toNat s2) (([] : List UInt8), (0 : Int), (0 : Int), ([] : List Int), ([] : List Bool))).2).1)).bind fun q24 =>
        (some ((((List.getD a1 (Int.toNat s2) (([] : List UInt8), (0 : Int), (0 : Int), ([] : List Int), ([] : List Bool))).2).2).1)).bind fun q26 =>
        (some (((((List.getD a1 (Int.toNat s2) (([] : List UInt8), (0 : Int), (0 : Int), ([] : List Int), ([] : List Bool))).2).2).2).1)).bind fun q28 =>
        (some (((((List.getD a1 (Int.toNat s2) (([] : List UInt8), (0 : Int), (0 : Int), ([] : List Int), ([] : List Bool))).2).2).2).2)).bind fun q30 =>
        (impl_SameKept_1 (q11, q13, q15, q17, q19) (q22, q24, q26, q28, q30)).bind fun y32 =>
        bif (!y32) then
          some (.inr (.inr ()))
        else
          some (.inl (wadd .i64 s2 (1 : Int)))))
  else
    some (.inr (.inl ()))

noncomputable def slices_EqualFunc___impl_Kept___impl_Kept_impl_Kept_impl_Kept_fn2_impl_SameKept_1 (a0 : List (List UInt8 × Int × Int × List Int × List Bool)) (a1 : List (List UInt8 × Int × Int × List Int × List Bool)) : Option (Bool) :=
  bif ((lenI a0) != (lenI a1)) then
    some false
  else
    (rounds (slices_EqualFunc___impl_Kept___impl_Kept_impl_Kept_impl_Kept_fn2_impl_SameKept_1_B1 a0 a1) (0 : Int)).bind fun r3 => match r3 with
      | .inl r4 =>
        some true
      | .inr r5 =>
        some false

theorem f101_fn2_impl_SameKept_1_ok {a0 : List (List UInt8 × Int × Int × List Int × List Bool)} {a1 : List (List UInt8 × Int × Int × List Int × List Bool)} {r : Bool} (hr : slices_EqualFunc___impl_Kept___impl_Kept_impl_Kept_impl_Kept_fn2_impl_SameKept_1 a0 a1 = some r) : CallOK Try.prog 101 [.imm (.sl (.st (.pair .str (.st (.pair tI (.pair tI (.pair tLI (.sl .bool)))))))) a0, .imm (.sl (.st (.pair .str (.st (.pair tI (.pair tI (.pair tLI (.sl .bool)))))))) a1, .fn 102] [⟨false, .bool, r⟩] [] := by
  unfold slices_EqualFunc___impl_Kept___impl_Kept_impl_Kept_impl_Kept_fn2_impl_SameKept_1 at hr
  refine CallOK.of_body (ts := [(false, .bool)]) Try.func101 rfl (by kernel_rfl) (Nat.le_of_ble_eq_true (by kernel_rfl)) fun cx hP hN hO hF => ?_
  have hO : cx.own.map Prod.fst = [] := hO
  have hX := CxIs.mk hP hN hO
  have hF := hF rfl
  show HT cx ⟨[(0, .one (.dat (.sl (.st (.pair .str (.st (.pair tI (.pair tI (.pair tLI (.sl .bool)))))))) a0)), (1, .one (.dat (.sl (.st (.pair .str (.st (.pair tI (.pair tI (.pair tLI (.sl .bool)))))))) a1)), (2, .one (.fn 102))], [], 0⟩ _ _
  refine HT.rg2 [oH] ⟨[(0, .one (.dat (.sl (.st (.pair .str (.st (.pair tI (.pair tI (.pair tLI (.sl .bool)))))))) a0)), (1, .one (.dat (.sl (.st (.pair .str (.st (.pair tI (.pair tI (.pair tLI (.sl .bool)))))))) a1)), (2, .one (.fn 102))], [], 0⟩ hX (by kernel_rfl) allNil ?_
  refine HT.seq ?_
  refine HT.rg2 (oHs 5) ⟨[(0, .one (.dat (.sl (.st (.pair .str (.st (.pair tI (.pair tI (.pair tLI (.sl .bool)))))))) a0)), (1, .one (.dat (.sl (.st (.pair .str (.st (.pair tI (.pair tI (.pair tLI (.sl .bool)))))))) a1)), (2, .one (.fn 102)), (14, bV ((lenI a0) != (lenI a1)))], [], 0⟩ hX (by kernel_rfl) allNil ?_
  rcases of_bif hr with ⟨hb1, hr⟩ | ⟨hb1, hr⟩
  · refine HT.cond1 rfl hb1 ?_
    refine HT.rg2 [oH] ⟨[(6, bV false)], [], 0⟩ hX (by kernel_rfl) allNil ?_
    have hr := of_some hr
    subst hr
    exact HT.ret (qThenR ⟨[bV false], [], [], by kernel_rfl, by kernel_rfl, rfl, by kernel_rfl, by kernel_rfl, trivial⟩)
  · refine HT.cond0 rfl hb1 ?_
    refine HT.skip (qThen ?_)
    refine HT.seq ?_
    refine HT.rg2 (oHs 3) ⟨[(1, .one (.dat (.sl (.st (.pair .str (.st (.pair tI (.pair tI (.pair tLI (.sl .bool)))))))) a1)), (2, .one (.fn 102)), (15, .one (.dat (.sl (.st (.pair .str (.st (.pair tI (.pair tI (.pair tLI (.sl .bool)))))))) a0)), (16, iV (lenI a0)), (17, iV (0 : Int))], [], 0⟩ hX (by kernel_rfl) allNil ?_
    refine HT.block ?_
    obtain ⟨r3, hL35, hr⟩ := of_bind hr
    refine HT.loopL (fun (s2 : Int) => ⟨[(1, .one (.dat (.sl (.st (.pair .str (.st (.pair tI (.pair tI (.pair tLI (.sl .bool)))))))) a1)), (2, .one (.fn 102)), (15, .one (.dat (.sl (.st (.pair .str (.st (.pair tI (.pair tI (.pair tLI (.sl .bool)))))))) a0)), (16, iV (lenI a0)), (17, iV s2)], [], 0⟩) (fun (r3 : Unit ⊕ Unit) => match r3 with | .inl r4 => (.exit 0, ⟨[], [], 0⟩) | .inr r5 => (.ret, ⟨[(6, bV false)], [], 0⟩)) (Le.re [] [] hX (by kernel_rfl)) hL35 ?_ (fun s2 x6 hx7 hk8 => ?_)
    · rcases r3 with r4 | r5
      · refine (qBlockX (qThen ?_))
        refine HT.rg2 [oH] ⟨[(6, bV true)], [], 0⟩ hX (by kernel_rfl) allNil ?_
        have hr := of_some hr
        subst hr
        exact HT.ret ⟨[bV true], [], [], by kernel_rfl, by kernel_rfl, rfl, by kernel_rfl, by kernel_rfl, trivial⟩
      · have hr := of_some hr
        subst hr
        exact (qBlockR (qThenR ⟨[bV false], [], [], by kernel_rfl, by kernel_rfl, rfl, by kernel_rfl, by kernel_rfl, trivial⟩))
    · refine HT.rg2 [oH] ⟨[(1, .one (.dat (.sl (.st (.pair .str (.st (.pair tI (.pair tI (.pair tLI (.sl .bool)))))))) a1)), (2, .one (.fn 102)), (15, .one (.dat (.sl (.st (.pair .str (.st (.pair tI (.pair tI (.pair tLI (.sl .bool)))))))) a0)), (16, iV (lenI a0)), (17, iV s2), (18, bV (decide (s2 < (lenI a0))))], [], 0⟩ hX (by kernel_rfl) allNil ?_
      refine HT.seq ?_
      rcases of_bif hx7 with ⟨hb9, hx7⟩ | ⟨hb9, hx7⟩
      · refine HT.cond1 rfl hb9 ?_
        refine HT.skip (qThen ?_)
        refine HT.seq ?_
        refine HT.block ?_
        obtain ⟨hg10, hx7⟩ := of_guard hx7
        refine HT.rg2 (oHs 6) ⟨[(1, .one (.dat (.sl (.st (.pair .str (.st (.pair tI (.pair tI (.pair tLI (.sl .bool)))))))) a1)), (2, .one (.fn 102)), (7, iV s2), (8, pV 0 0), (15, .one (.dat (.sl (.st (.pair .str (.st (.pair tI (.pair tI (.pair tLI (.sl .bool)))))))) a0)), (16, iV (lenI a0)), (17, iV s2)], [(0, .box [.dat .str ((List.getD a0 (Int.toNat s2) (([] : List UInt8), (0 : Int), (0 : Int), ([] : List Int), ([] : List Bool))).1), iC (((List.getD a0 (Int.toNat s2) (([] : List UInt8), (0 : Int), (0 : Int), ([] : List Int), ([] : List Bool))).2).1), iC ((((List.getD a0 (Int.toNat s2) (([] : List UInt8), (0 : Int), (0 : Int), ([] : List Int), ([] : List Bool))).2).2).1), nC (((((List.getD a0 (Int.toNat s2) (([] : List UInt8), (0 : Int), (0 : Int), ([] : List Int), ([] : List Bool))).2).2).2).1), .dat (.sl .bool) (((((List.getD a0 (Int.toNat s2) (([] : List UInt8), (0 : Int), (0 : Int), ([] : List Int), ([] : List Bool))).2).2).2).2)])], 1⟩ hX (by kernel_rfl) (allCons hg10 allNil) ?_
        obtain ⟨q11, hq12, hx7⟩ := of_bind hx7
        have hq12 := of_some2 hq12
        obtain ⟨q13, hq14, hx7⟩ := of_bind hx7
        have hq14 := of_some2 hq14
        obtain ⟨q15, hq16, hx7⟩ := of_bind hx7
        have hq16 := of_some2 hq16
        obtain ⟨q17, hq18, hx7⟩ := of_bind hx7
        have hq18 := of_some2 hq18
        obtain ⟨q19, hq20, hx7⟩ := of_bind hx7
        have hq20 := of_some2 hq20
        refine (Le.cv (s := ⟨[(0, 0)], [], [], false⟩) (own := []) (ps := [a1 = a1, s2 = s2, a0 = a0, (lenI a0) = (lenI a0), s2 = s2, q11 = (List.getD a0 (Int.toNat s2) (([] : List UInt8), (0 : Int), (0 : Int), ([] : List Int), ([] : List Bool))).1, q13 = ((List.getD a0 (Int.toNat s2) (([] : List UInt8), (0 : Int), (0 : Int), ([] : List Int), ([] : List Bool))).2).1, q15 = (((List.getD a0 (Int.toNat s2) (([] : List UInt8), (0 : Int), (0 : Int), ([] : List Int), ([] : List Bool))).2).2).1, q17 = ((((List.getD a0 (Int.toNat s2) (([] : List UInt8), (0 : Int), (0 : Int), ([] : List Int), ([] : List Bool))).2).2).2).1, q19 = ((((List.getD a0 (Int.toNat s2) (([] : List UInt8), (0 : Int), (0 : Int), ([] : List Int), ([] : List Bool))).2).2).2).2]) (st' := ⟨[(1, .one (.dat (.sl (.st (.pair .str (.st (.pair tI (.pair tI (.pair tLI (.sl .bool)))))))) a1)), (2, .one (.fn 102)), (7, iV s2), (8, pV 0 0), (15, .one (.dat (.sl (.st (.pair .str (.st (.pair tI (.pair tI (.pair tLI (.sl .bool)))))))) a0)), (16, iV (lenI a0)), (17, iV s2)], [(0, .box [.dat .str q11, iC q13, iC q15, nC q17, .dat (.sl .bool) q19])], 1⟩) hO (fun h => by cases h) (by kernel_rfl) ⟨rfl, rfl, rfl, rfl, rfl, hq12, hq14, hq16, hq18, hq20, trivial⟩).ht ?_
        obtain ⟨hg21, hx7⟩ := of_guard hx7
        refine HT.rg2 (oHs 6) ⟨[(1, .one (.dat (.sl (.st (.pair .str (.st (.pair tI (.pair tI (.pair tLI (.sl .bool)))))))) a1)), (2, .one (.fn 102)), (8, pV 0 0), (9, pV 1 0), (15, .one (.dat (.sl (.st (.pair .str (.st (.pair tI (.pair tI (.pair tLI (.sl .bool)))))))) a0)), (16, iV (lenI a0)), (17, iV s2)], [(1, .box [.dat .str ((List.getD a1 (Int.toNat s2) (([] : List UInt8), (0 : Int), (0 : Int), ([] : List Int), ([] : List Bool))).1), iC (((List.getD a1 (Int.toNat s2) (([] : List UInt8), (0 : Int), (0 : Int), ([] : List Int), ([] : List Bool))).2).1), iC ((((List.getD a1 (Int.toNat s2) (([] : List UInt8), (0 : Int), (0 : Int), ([] : List Int), ([] : List Bool))).2).2).1), nC (((((List.getD a1 (Int.toNat s2) (([] : List UInt8), (0 : Int), (0 : Int), ([] : List Int), ([] : List Bool))).2).2).2).1), .dat (.sl .bool) (((((List.getD a1 (Int.toNat s2) (([] : List UInt8), (0 : Int), (0 : Int), ([] : List Int), ([] : List Bool))).2).2).2).2)]), (0, .box [.dat .str q11, iC q13, iC q15, nC q17, .dat (.sl .bool) q19])], 2⟩ hX (by kernel_rfl) (allCons hg21 allNil) ?_
        obtain ⟨q22, hq23, hx7⟩ := of_bind hx7
        have hq23 := of_some2 hq23
        obtain ⟨q24, hq25, hx7⟩ := of_bind hx7
        have hq25 := of_some2 hq25
        obtain ⟨q26, hq27, hx7⟩ := of_bind hx7
        have hq27 := of_some2 hq27
        obtain ⟨q28, hq29, hx7⟩ := of_bind hx7
        have hq29 := of_some2 hq29
        obtain ⟨q30, hq31, hx7⟩ := of_bind hx7
        have hq31 := of_some2 hq31
        refine (Le.cv (s := ⟨[(1, 1), (0, 0)], [], [], false⟩) (own := []) (ps := [a1 = a1, a0 = a0, (lenI a0) = (lenI a0), s2 = s2, q22 = (List.getD a1 (Int.toNat s2) (([] : List UInt8), (0 : Int), (0 : Int), ([] : List Int), ([] : List Bool))).1, q24 = ((List.getD a1 (Int.toNat s2) (([] : List UInt8), (0 : Int), (0 : Int), ([] : List Int), ([] : List Bool))).2).1, q26 = (((List.getD a1 (Int.toNat s2) (([] : List UInt8), (0 : Int), (0 : Int), ([] : List Int), ([] : List Bool))).2).2).1, q28 = ((((List.getD a1 (Int.toNat s2) (([] : List UInt8), (0 : Int), (0 : Int), ([] : List Int), ([] : List Bool))).2).2).2).1, q30 = ((((List.getD a1 (Int.toNat s2) (([] : List UInt8), (0 : Int), (0 : Int), ([] : List Int), ([] : List Bool))).2).2).2).2, q11 = q11, q13 = q13, q15 = q15, q17 = q17, q19 = q19]) (st' := ⟨[(1, .one (.dat (.sl (.st (.pair .str (.st (.pair tI (.pair tI (.pair tLI (.sl .bool)))))))) a1)), (2, .one (.fn 102)), (8, pV 0 0), (9, pV 1 0), (15, .one (.dat (.sl (.st (.pair .str (.st (.pair tI (.pair tI (.pair tLI (.sl .bool)))))))) a0)), (16, iV (lenI a0)), (17, iV s2)], [(1, .box [.dat .str q22, iC q24, iC q26, nC q28, .dat (.sl .bool) q30]), (0, .box [.dat .str q11, iC q13, iC q15, nC q17, .dat (.sl .bool) q19])], 2⟩) hO (fun h => by cases h) (by kernel_rfl) ⟨rfl, rfl, rfl, rfl, hq23, hq25, hq27, hq29, hq31, rfl, rfl, rfl, rfl, rfl, trivial⟩).ht ?_
        obtain ⟨y32, hc33, hx7⟩ := of_bind hx7
        refine HT.rg2 [oH, oH, oH, ⟨none, .call [.imm (.st (.pair .str (.st (.pair tI (.pair tI (.pair tLI (.sl .bool))))))), .imm (.st (.pair .str (.st (.pair tI (.pair tI (.pair tLI (.sl .bool)))))))] [⟨false, .bool, y32⟩] []⟩, oH] ⟨[(1, .one (.dat (.sl (.st (.pair .str (.st (.pair tI (.pair tI (.pair tLI (.sl .bool)))))))) a1)), (2, .one (.fn 102)), (15, .one (.dat (.sl (.st (.pair .str (.st (.pair tI (.pair tI (.pair tLI (.sl .bool)))))))) a0)), (16, iV (lenI a0)), (17, iV s2), (30, bV (!y32))], [], 2⟩ hX (by kernel_rfl) (allCons (f102_ok hc33) allNil) ?_
        rcases of_bif hx7 with ⟨hb34, hx7⟩ | ⟨hb34, hx7⟩
        · refine HT.cond1 rfl hb34 ?_
          refine HT.rg2 [oH] ⟨[(6, bV false)], [], 2⟩ hX (by kernel_rfl) allNil ?_
          have hx7 := of_some hx7
          subst hx7
          exact HT.retL (Le.re [] [] hX (by kernel_rfl)) (qBlockR (qThenR (qLoopR (hk8 (.inr ()) rfl))))
        · refine HT.cond0 rfl hb34 ?_
          refine HT.skip (qBlock (qThen ?_))
          have hx7 := of_some hx7
          subst hx7
          exact HT.rgK (oHs 2) [] [] hX (by kernel_rfl) allNil (fun _ h => (qLoopN ⟨(wadd .i64 s2 (1 : Int)), rfl, h⟩))
      · refine HT.cond0 rfl hb9 ?_
        have hx7 := of_some hx7
        subst hx7
        exact HT.exitL (Le.re [] [] hX (by kernel_rfl)) (qThenE (qLoopE (hk8 (.inl ()) rfl)))

noncomputable def impl_SameKept (a0 : List (List UInt8 × Int × Int × List Int × List Bool)) (a1 : List (List UInt8 × Int × Int × List Int × List Bool)) : Option (Bool) :=
  (slices_EqualFunc___impl_Kept___impl_Kept_impl_Kept_impl_Kept_fn2_impl_SameKept_1 a0 a1).bind fun y1 =>
  some y1

theorem f16_ok {a0 : List (List UInt8 × Int × Int × List Int × List Bool)} {a1 : List (List UInt8 × Int × Int × List Int × List Bool)} {r : Bool} (hr : impl_SameKept a0 a1 = some r) : CallOK Try.prog 16 [.imm (.sl (.st (.pair .str (.st (.pair tI (.pair tI (.pair tLI (.sl .bool)))))))) a0, .imm (.sl (.st (.pair .str (.st (.pair tI (.pair tI (.pair tLI (.sl .bool)))))))) a1] [⟨false, .bool, r⟩] [] := by
  unfold impl_SameKept at hr
  refine CallOK.of_body (ts := [(false, .bool)]) Try.func16 rfl (by kernel_rfl) (Nat.le_of_ble_eq_true (by kernel_rfl)) fun cx hP hN hO hF => ?_
  have hO : cx.own.map Prod.fst = [] := hO
  have hX := CxIs.mk hP hN hO
  have hF := hF rfl
  show HT cx ⟨[(0, .one (.dat (.sl (.st (.pair .str (.st (.pair tI (.pair tI (.pair tLI (.sl .bool)))))))) a0)), (1, .one (.dat (.sl (.st (.pair .str (.st (.pair tI (.pair tI (.pair tLI (.sl .bool)))))))) a1))], [], 0⟩ _ _
  refine HT.rg2 [oH] ⟨[(0, .one (.dat (.sl (.st (.pair .str (.st (.pair tI (.pair tI (.pair tLI (.sl .bool)))))))) a0)), (1, .one (.dat (.sl (.st (.pair .str (.st (.pair tI (.pair tI (.pair tLI (.sl .bool)))))))) a1))], [], 0⟩ hX (by kernel_rfl) allNil ?_
  obtain ⟨y1, hc2, hr⟩ := of_bind hr
  refine HT.rg2 [oH, oH, ⟨none, .call [.imm (.sl (.st (.pair .str (.st (.pair tI (.pair tI (.pair tLI (.sl .bool)))))))), .imm (.sl (.st (.pair .str (.st (.pair tI (.pair tI (.pair tLI (.sl .bool)))))))), .fn] [⟨false, .bool, y1⟩] []⟩, oH] ⟨[(4, bV y1)], [], 0⟩ hX (by kernel_rfl) (allCons (f101_fn2_impl_SameKept_1_ok hc2) allNil) ?_
  have hr := of_some hr
  subst hr
  exact HT.ret ⟨[bV y1], [], [], by kernel_rfl, by kernel_rfl, rfl, by kernel_rfl, by kernel_rfl, trivial⟩

noncomputable def impl_LoadKept (a0 : List UInt8) : Option ((List UInt8 × Int × Int × List Int × List Bool) × Bool) :=
  (impl_readKept a0).bind fun y1 =>
  (show Option (Bool) from
    bif (!y1.2.2) then
      some true
    else
      some (y1.2.1 != (lenI a0))).bind fun v3 =>
  bif v3 then
    some ((([] : List UInt8), (0 : Int), (0 : Int), ([] : List Int), ([] : List Bool)), false)
  else
    some ((y1.1.1, y1.1.2.1, y1.1.2.2.1, y1.1.2.2.2.1, y1.1.2.2.2.2), true)

theorem f14_ok {a0 : List UInt8} {r : (List UInt8 × Int × Int × List Int × List Bool) × Bool} (hr : impl_LoadKept a0 = some r) : CallOK Try.prog 14 [.imm .str a0] [⟨true, (.st (.pair .str (.st (.pair tI (.pair tI (.pair tLI (.sl .bool))))))), r.1⟩, ⟨false, .bool, r.2⟩] [] := by
  unfold impl_LoadKept at hr
  refine CallOK.of_body (ts := [(true, (.st (.pair .str (.st (.pair tI (.pair tI (.pair tLI (.sl .bool)))))))), (false, .bool)]) Try.func14 rfl (by kernel_rfl) (Nat.le_of_ble_eq_true (by kernel_rfl)) fun cx hP hN hO hF => ?_
  have hO : cx.own.map Prod.fst = [] := hO
  have hX := CxIs.mk hP hN hO
  have hF := hF rfl
  show HT cx ⟨[(0, .one (.dat .str a0))], [], 0⟩ _ _
  refine HT.rg2 (oHs 2) ⟨[(0, .one (.dat .str a0)), (2, pV 0 0)], [(0, .box [.dat .str ([] : List UInt8), iC (0 : Int), iC (0 : Int), .nilS, .nilS])], 1⟩ hX (by kernel_rfl) allNil ?_
  obtain ⟨y1, hc2, hr⟩ := of_bind hr
  refine HT.rg2 [oH, ⟨none, .call [.imm .str] [⟨true, (.st (.pair .str (.st (.pair tI (.pair tI (.pair tLI (.sl .bool))))))), y1.1⟩, ⟨false, tI, y1.2.1⟩, ⟨false, .bool, y1.2.2⟩] []⟩, oH, oH, oH, oH, oH, oH, oH, oH] ⟨[(0, .one (.dat .str a0)), (2, pV 0 0), (4, pV 3 0), (5, iV y1.2.1), (6, bV y1.2.2)], [(3, .box [.dat .str y1.1.1, iC y1.1.2.1, iC y1.1.2.2.1, .all 1, .all 2]), (1, .seq tI y1.1.2.2.2.1), (2, .seq .bool y1.1.2.2.2.2), (0, .box [.dat .str ([] : List UInt8), iC (0 : Int), iC (0 : Int), .nilS, .nilS])], 4⟩ hX (by kernel_rfl) (allCons (f98_ok hc2) allNil) ?_
  refine HT.seq ?_
  obtain ⟨v3', hT5, hr⟩ := of_bind hr
  refine HT.join (fun (v3 : Bool) => ⟨[(2, pV 0 0), (4, pV 1 0), (20, bV v3)], [(0, .box [.dat .str ([] : List UInt8), iC (0 : Int), iC (0 : Int), .nilS, .nilS]), (1, .box [.dat .str y1.1.1, iC y1.1.2.1, iC y1.1.2.2.1, .all 2, .all 3]), (2, .seq tI y1.1.2.2.2.1), (3, .seq .bool y1.1.2.2.2.2)], 4⟩) (fun v => v = v3') (fun v3 hv4 => ?_) (fun cont => ?_)
  · subst hv4
    rcases of_bif hr with ⟨hb6, hr⟩ | ⟨hb6, hr⟩
    · refine HT.cond1 rfl hb6 ?_
      refine HT.rg2 (oHs 3) ⟨[(2, pV 0 0), (3, bV false)], [(0, .box [.dat .str ([] : List UInt8), iC (0 : Int), iC (0 : Int), .nilS, .nilS])], 4⟩ hX (by kernel_rfl) allNil ?_
      have hr := of_some hr
      subst hr
      exact HT.ret (qThenR ⟨[.agg [.dat .str ([] : List UInt8), iC (0 : Int), iC (0 : Int), .nilS, .nilS], bV false], [], [], by kernel_rfl, by kernel_rfl, rfl, by kernel_rfl, by kernel_rfl, trivial⟩)
    · refine HT.cond0 rfl hb6 ?_
      refine HT.skip (qThen ?_)
      refine HT.rg2 (oHs 3) ⟨[(2, pV 0 0), (3, bV true)], [(0, .box [.dat .str y1.1.1, iC y1.1.2.1, iC y1.1.2.2.1, .all 2, .all 3]), (2, .seq tI y1.1.2.2.2.1), (3, .seq .bool y1.1.2.2.2.2)], 4⟩ hX (by kernel_rfl) allNil ?_
      have hr := of_some hr
      subst hr
      exact HT.ret ⟨[.agg [.dat .str y1.1.1, iC y1.1.2.1, iC y1.1.2.2.1, .all 2, .all 3], bV true], [2, 3], [], by kernel_rfl, by kernel_rfl, rfl, by kernel_rfl, by kernel_rfl, trivial⟩
  · rcases of_bif hT5 with ⟨hb7, hT5⟩ | ⟨hb7, hT5⟩
    · exact HT.rgK [oH, oH, oH, ⟨some true, .no⟩, ⟨some true, .no⟩, ⟨some true, .no⟩, ⟨some true, .no⟩, ⟨none, .tv true⟩] [(0, 0), (3, 1), (1, 2), (2, 3)] [] hX (by kernel_rfl) (allCons hb7 (allCons hb7 (allCons hb7 (allCons hb7 (allCons hb7 allNil))))) (fun _ h => (qThen (h.ht (cont true (of_some hT5)))))
    · exact HT.rgK [oH, oH, oH, ⟨some false, .no⟩, ⟨some false, .no⟩, ⟨some false, .no⟩, ⟨some false, .no⟩, ⟨none, .tv false⟩] [(0, 0), (3, 1), (1, 2), (2, 3)] [] hX (by kernel_rfl) (allCons hb7 (allCons hb7 (allCons hb7 (allCons hb7 (allCons hb7 allNil))))) (fun _ h => (qThen (h.ht (cont (y1.2.1 != (lenI a0)) (of_some hT5)))))

noncomputable def laws_FnKepts_B1 (y4 : (List (List UInt8 × Int × Int × List Int × List Bool))) (r8 : List Int) (y9 : List UInt8 × Bool) (y18 : Int) (y20 : Int) (s23 : Int) : Option ((Int) ⊕ (Int)) :=
  (show Option (Bool) from
    bif (decide (s23 < (lenI y4))) then
      guardP ((0 : Int) ≤ (wadd .i64 s23 (1 : Int)) ∧ (wadd .i64 s23 (1 : Int)) < lenI r8) (
        some (decide ((List.getD r8 (Int.toNat (wadd .i64 s23 (1 : Int))) (0 : Int)) ≤ (Int.tmod (wadd .i64 (wmul .i64 (256 : Int) y18) y20) (lenI y9.1)))))
    else
      some false).bind fun v58 =>
  bif v58 then
    some (.inl (wadd .i64 s23 (1 : Int)))
  else
    some (.inr s23)

noncomputable def laws_FnKepts_B2 (y4 : (List (List UInt8 × Int × Int × List Int × List Bool))) (s6 : Int × List Int) : Option ((Int × List Int) ⊕ (List Int ⊕ Unit)) :=
  bif (decide (s6.1 < (lenI y4))) then
    guardP ((0 : Int) ≤ s6.1 ∧ s6.1 < lenI y4) (
      (impl_StoreKept ((List.getD y4 (Int.toNat s6.1) (([] : List UInt8), (0 : Int), (0 : Int), ([] : List Int), ([] : List Bool))).1, ((List.getD y4 (Int.toNat s6.1) (([] : List UInt8), (0 : Int), (0 : Int), ([] : List Int), ([] : List Bool))).2).1, (((List.getD y4 (Int.toNat s6.1) (([] : List UInt8), (0 : Int), (0 : Int), ([] : List Int), ([] : List Bool))).2).2).1, ((((List.getD y4 (Int.toNat s6.1) (([] : List UInt8), (0 : Int), (0 : Int), ([] : List Int), ([] : List Bool))).2).2).2).1, ((((List.getD y4 (Int.toNat s6.1) (([] : List UInt8), (0 : Int), (0 : Int), ([] : List Int), ([] : List Bool))).2).2).2).2)).bind fun y78 =>
      (impl_LoadKept y78.1).bind fun y80 =>
      (show Option (Bool) from
        bif (!y78.2) then
          some true
        else
          bif (!y80.2) then
            some true
          else
            (impl_ValidKept ((List.getD y4 (Int.toNat s6.1) (([] : List UInt8), (0 : Int), (0 : Int), ([] : List Int), ([] : List Bool))).1, ((List.getD y4 (Int.toNat s6.1) (([] : List UInt8), (0 : Int), (0 : Int), ([] : List Int), ([] : List Bool))).2).1, (((List.getD y4 (Int.toNat s6.1) (([] : List UInt8), (0 : Int), (0 : Int), ([] : List Int), ([] : List Bool))).2).2).1, ((((List.getD y4 (Int.toNat s6.1) (([] : List UInt8), (0 : Int), (0 : Int), ([] : List Int), ([] : List Bool))).2).2).2).1, ((((List.getD y4 (Int.toNat s6.1) (([] : List UInt8), (0 : Int), (0 : Int), ([] : List Int), ([] : List Bool))).2).2).2).2)).bind fun y90 =>
            bif (!y90) then
              some true
            else
              guardP ((0 : Int) ≤ s6.1 ∧ s6.1 ≤ (wadd .i64 s6.1 (1 : Int)) ∧ (wadd .i64 s6.1 (1 : Int)) ≤ lenI y4) (
                (impl_SameKept ([(y80.1.1, y80.1.2.1, y80.1.2.2.1, y80.1.2.2.2.1, y80.1.2.2.2.2)] : List (List UInt8 × Int × Int × List Int × List Bool)) (cut y4 s6.1 (wadd .i64 s6.1 (1 : Int)))).bind fun y94 =>
                some (!y94))).bind fun v82 =>
      bif v82 then
        some (.inr (.inr ()))
      else
        guardP ((0 : Int) ≤ (wsub .i64 (lenI s6.2) (1 : Int)) ∧ (wsub .i64 (lenI s6.2) (1 : Int)) < lenI s6.2) (
          guardP (List.length s6.2 + List.length ([(wadd .i64 (List.getD s6.2 (Int.toNat (wsub .i64 (lenI s6.2) (1 : Int))) (0 : Int)) (lenI y78.1))] : List Int) ≤ appMax) (
            some (.inl ((wadd .i64 s6.1 (1 : Int)), (s6.2 ++ ([(wadd .i64 (List.getD s6.2 (Int.toNat (wsub .i64 (lenI s6.2) (1 : Int))) (0 : Int)) (lenI y78.1))] : List Int)))))))
  else
    some (.inr (.inl s6.2))

noncomputable def laws_FnKepts (a0 : List Int) (a1 : List Int) : Option (Bool) :=
  (laws_b10Long a0 a1).bind fun y1 =>
  bif y1 then
    some true
  else
    (spec_B10Kepts a0).bind fun y4 =>
    (rounds (laws_FnKepts_B2 y4) ((0 : Int), ([(0 : Int)] : List Int))).bind fun r7 => match r7 with
      | .inl r8 =>
        (impl_StoreKepts y4).bind fun y9 =>
        (impl_RecoverKepts y9.1).bind fun y11 =>
        (show Option (Bool) from
          bif (!y9.2) then
            some true
          else
            bif (!y11.2.2) then
              some true
            else
              guardP ((0 : Int) ≤ (lenI y4) ∧ (lenI y4) < lenI r8) (
                bif ((lenI y9.1) != (List.getD r8 (Int.toNat (lenI y4)) (0 : Int))) then
                  some true
                else
                  bif (y11.2.1 != (lenI y9.1)) then
                    some true
                  else
                    (impl_SameKept y11.1 y4).bind fun y70 =>
                    some (!y70))).bind fun v13 =>
        bif v13 then
          some false
        else
          bif ((lenI y9.1) == (0 : Int)) then
            some true
          else
            (laws_b10At a1 (0 : Int) (256 : Int)).bind fun y18 =>
            (laws_b10At a1 (1 : Int) (256 : Int)).bind fun y20 =>
            guardP ((lenI y9.1) ≠ 0) (
              (rounds (laws_FnKepts_B1 y4 r8 y9 y18 y20) (0 : Int)).bind fun r25 =>
              guardP ((0 : Int) ≤ (Int.tmod (wadd .i64 (wmul .i64 (256 : Int) y18) y20) (lenI y9.1)) ∧ (Int.tmod (wadd .i64 (wmul .i64 (256 : Int) y18) y20) (lenI y9.1)) ≤ lenI y9.1) (
                (impl_RecoverKepts (cut y9.1 (0 : Int) (Int.tmod (wadd .i64 (wmul .i64 (256 : Int) y18) y20) (lenI y9.1)))).bind fun y27 =>
                (show Option (Bool) from
                  bif (!y27.2.2) then
                    some true
                  else
                    guardP ((0 : Int) ≤ r25 ∧ r25 < lenI r8) (
                      bif (y27.2.1 != (List.getD r8 (Int.toNat r25) (0 : Int))) then
                        some true
                      else
                        some ((lenI y27.1) != r25))).bind fun v29 =>
                bif v29 then
                  some false
                else
                  guardP (List.length y9.1 ≤ appMax) (
                    guardP ((0 : Int) ≤ (Int.tmod (wadd .i64 (wmul .i64 (256 : Int) y18) y20) (lenI y9.1)) ∧ (Int.tmod (wadd .i64 (wmul .i64 (256 : Int) y18) y20) (lenI y9.1)) < lenI (bytesI y9.1)) (
                      (laws_b10At a1 (2 : Int) (255 : Int)).bind fun y35 =>
                      (some (List.set (bytesI y9.1) (Int.toNat (Int.tmod (wadd .i64 (wmul .i64 (256 : Int) y18) y20) (lenI y9.1))) (wadd .u8 (List.getD (bytesI y9.1) (Int.toNat (Int.tmod (wadd .i64 (wmul .i64 (256 : Int) y18) y20) (lenI y9.1))) (0 : Int)) (IntKind.wrap .u8 (wadd .i64 (1 : Int) y35))))).bind fun q37 =>
                      (impl_RecoverKepts (bytesO q37)).bind fun y39 =>
                      (impl_StoreKepts y39.1).bind fun y41 =>
                      (show Option (Bool) from
                        bif y39.2.2 then
                          bif y41.2 then
                            bif (decide ((lenI y39.1) ≥ r25)) then
                              bif (decide (y39.2.1 ≥ (0 : Int))) then
                                bif (decide (y39.2.1 ≤ (lenI q37))) then
                                  guardP ((0 : Int) ≤ y39.2.1 ∧ y39.2.1 ≤ lenI q37) (
                                    some (y41.1 == (bytesO (List.take (Int.toNat y39.2.1) (List.drop 0 q37)))))
                                else
                                  some false
                              else
                                some false
                            else
                              some false
                          else
                            some false
                        else
                          some false).bind fun v43 =>
                      some v43))))
      | .inr r72 =>
        some false

theorem f3_ok {a0 : List Int} {a1 : List Int} {r : Bool} (hr : laws_FnKepts a0 a1 = some r) : CallOK Try.prog 3 [.imm (.sl (.int .u8)) a0, .imm (.sl (.int .u8)) a1] [⟨false, .bool, r⟩] [] := by
  unfold laws_FnKepts at hr
  refine CallOK.of_body (ts := [(false, .bool)]) Try.func3 rfl (by kernel_rfl) (Nat.le_of_ble_eq_true (by kernel_rfl)) fun cx hP hN hO hF => ?_
  have hO : cx.own.map Prod.fst = [] := hO
  have hX := CxIs.mk hP hN hO
  have hF := hF rfl
  show HT cx ⟨[(0, .one (.dat (.sl (.int .u8)) a0)), (1, .one (.dat (.sl (.int .u8)) a1))], [], 0⟩ _ _
  refine HT.rg2 [oH] ⟨[(0, .one (.dat (.sl (.int .u8)) a0)), (1, .one (.dat (.sl (.int .u8)) a1))], [], 0⟩ hX (by kernel_rfl) allNil ?_
  refine HT.seq ?_
  obtain ⟨y1, hc2, hr⟩ := of_bind hr
  refine HT.rg2 [oH, oH, ⟨none, .call [.imm (.sl (.int .u8)), .imm (.sl (.int .u8))] [⟨false, .bool, y1⟩] []⟩] ⟨[(0, .one (.dat (.sl (.int .u8)) a0)), (1, .one (.dat (.sl (.int .u8)) a1)), (30, bV y1)], [], 0⟩ hX (by kernel_rfl) (allCons (f11_ok hc2) allNil) ?_
  rcases of_bif hr with ⟨hb3, hr⟩ | ⟨hb3, hr⟩
  · refine HT.cond1 rfl hb3 ?_
    refine HT.rg2 [oH] ⟨[(4, bV true)], [], 0⟩ hX (by kernel_rfl) allNil ?_
    have hr := of_some hr
    subst hr
    exact HT.ret (qThenR ⟨[bV true], [], [], by kernel_rfl, by kernel_rfl, rfl, by kernel_rfl, by kernel_rfl, trivial⟩)
  · refine HT.cond0 rfl hb3 ?_
    refine HT.skip (qThen ?_)
    obtain ⟨y4, hc5, hr⟩ := of_bind hr
    refine HT.rg2 [oH, ⟨none, .call [.imm (.sl (.int .u8))] [⟨false, (.sl (.st (.pair .str (.st (.pair tI (.pair tI (.pair tLI (.sl .bool)))))))), y4⟩] []⟩, oH] ⟨[(1, .one (.dat (.sl (.int .u8)) a1)), (5, .one (.dat (.sl (.st (.pair .str (.st (.pair tI (.pair tI (.pair tLI (.sl .bool)))))))) y4))], [], 0⟩ hX (by kernel_rfl) (allCons (f12_ok hc5) allNil) ?_
    refine HT.rg2 [⟨none, .ty tI⟩, oH] ⟨[(1, .one (.dat (.sl (.int .u8)) a1)), (5, .one (.dat (.sl (.st (.pair .str (.st (.pair tI (.pair tI (.pair tLI (.sl .bool)))))))) y4)), (6, aV 0)], [(0, .seq tI ([(0 : Int)] : List Int))], 1⟩ hX (by kernel_rfl) allNil ?_
    refine HT.seq ?_
    refine HT.rg2 (oHs 3) ⟨[(1, .one (.dat (.sl (.int .u8)) a1)), (5, .one (.dat (.sl (.st (.pair .str (.st (.pair tI (.pair tI (.pair tLI (.sl .bool)))))))) y4)), (6, aV 0), (35, iV (lenI y4)), (36, iV (0 : Int))], [(0, .seq tI ([(0 : Int)] : List Int))], 1⟩ hX (by kernel_rfl) allNil ?_
    refine HT.block ?_
    obtain ⟨r7, hL96, hr⟩ := of_bind hr
    refine HT.loopL (fun (s6 : Int × List Int) => ⟨[(1, .one (.dat (.sl (.int .u8)) a1)), (5, .one (.dat (.sl (.st (.pair .str (.st (.pair tI (.pair tI (.pair tLI (.sl .bool)))))))) y4)), (6, aV 0), (35, iV (lenI y4)), (36, iV s6.1)], [(0, .seq tI s6.2)], 1⟩) (fun (r7 : List Int ⊕ Unit) => match r7 with | .inl r8 => (.exit 0, ⟨[(1, .one (.dat (.sl (.int .u8)) a1)), (5, .one (.dat (.sl (.st (.pair .str (.st (.pair tI (.pair tI (.pair tLI (.sl .bool)))))))) y4)), (6, aV 0)], [(0, .seq tI r8)], 1⟩) | .inr r72 => (.ret, ⟨[(4, bV false)], [], 0⟩)) (Le.re [(0, 0)] [] hX (by kernel_rfl)) hL96 ?_ (fun s6 x73 hx74 hk75 => ?_)
    · rcases r7 with r8 | r72
      · refine (qBlockX (qThen ?_))
        obtain ⟨y9, hc10, hr⟩ := of_bind hr
        refine HT.rg2 [oH, ⟨none, .call [.imm (.sl (.st (.pair .str (.st (.pair tI (.pair tI (.pair tLI (.sl .bool))))))))] [⟨false, .str, y9.1⟩, ⟨false, .bool, y9.2⟩] []⟩, oH, oH, oH, oH, oH] ⟨[(1, .one (.dat (.sl (.int .u8)) a1)), (5, .one (.dat (.sl (.st (.pair .str (.st (.pair tI (.pair tI (.pair tLI (.sl .bool)))))))) y4)), (6, aV 0), (12, .one (.dat .str y9.1)), (13, bV y9.2)], [(0, .seq tI r8)], 1⟩ hX (by kernel_rfl) (allCons (f17_ok hc10) allNil) ?_
        obtain ⟨y11, hc12, hr⟩ := of_bind hr
        refine HT.rg2 [oH, ⟨none, .call [.imm .str] [⟨true, (.sl (.st (.pair .str (.st (.pair tI (.pair tI (.pair (.own tI) (.own .bool)))))))), y11.1⟩, ⟨false, tI, y11.2.1⟩, ⟨false, .bool, y11.2.2⟩] []⟩, oH, oH, oH, oH, oH, oH, oH] ⟨[(1, .one (.dat (.sl (.int .u8)) a1)), (5, .one (.dat (.sl (.st (.pair .str (.st (.pair tI (.pair tI (.pair tLI (.sl .bool)))))))) y4)), (6, aV 0), (12, .one (.dat .str y9.1)), (13, bV y9.2), (14, aV 1), (15, iV y11.2.1), (16, bV y11.2.2)], [(1, .seq (.st (.pair .str (.st (.pair tI (.pair tI (.pair (.own tI) (.own .bool))))))) y11.1), (0, .seq tI r8)], 2⟩ hX (by kernel_rfl) (allCons (f18_ok hc12) allNil) ?_
        refine HT.seq ?_
        obtain ⟨v13', hT15, hr⟩ := of_bind hr
        refine HT.join (fun (v13 : Bool) => ⟨[(1, .one (.dat (.sl (.int .u8)) a1)), (5, .one (.dat (.sl (.st (.pair .str (.st (.pair tI (.pair tI (.pair tLI (.sl .bool)))))))) y4)), (6, aV 0), (12, .one (.dat .str y9.1)), (128, bV v13)], [(0, .seq tI r8)], 1⟩) (fun v => v = v13') (fun v13 hv14 => ?_) (fun cont => ?_)
        · subst hv14
          rcases of_bif hr with ⟨hb16, hr⟩ | ⟨hb16, hr⟩
          · refine HT.cond1 rfl hb16 ?_
            refine HT.rg2 [oH] ⟨[(4, bV false)], [], 1⟩ hX (by kernel_rfl) allNil ?_
            have hr := of_some hr
            subst hr
            exact HT.ret (qThenR ⟨[bV false], [], [], by kernel_rfl, by kernel_rfl, rfl, by kernel_rfl, by kernel_rfl, trivial⟩)
          · refine HT.cond0 rfl hb16 ?_
            refine HT.skip (qThen ?_)
            refine HT.seq ?_
            refine HT.rg2 (oHs 3) ⟨[(1, .one (.dat (.sl (.int .u8)) a1)), (5, .one (.dat (.sl (.st (.pair .str (.st (.pair tI (.pair tI (.pair tLI (.sl .bool)))))))) y4)), (6, aV 0), (12, .one (.dat .str y9.1)), (131, bV ((lenI y9.1) == (0 : Int)))], [(0, .seq tI r8)], 1⟩ hX (by kernel_rfl) allNil ?_
            rcases of_bif hr with ⟨hb17, hr⟩ | ⟨hb17, hr⟩
            · refine HT.cond1 rfl hb17 ?_
              refine HT.rg2 [oH] ⟨[(4, bV true)], [], 1⟩ hX (by kernel_rfl) allNil ?_
              have hr := of_some hr
              subst hr
              exact HT.ret (qThenR ⟨[bV true], [], [], by kernel_rfl, by kernel_rfl, rfl, by kernel_rfl, by kernel_rfl, trivial⟩)
            · refine HT.cond0 rfl hb17 ?_
              refine HT.skip (qThen ?_)
              obtain ⟨y18, hc19, hr⟩ := of_bind hr
              obtain ⟨y20, hc21, hr⟩ := of_bind hr
              obtain ⟨hg22, hr⟩ := of_guard hr
              refine HT.rg2 [oH, ⟨none, .call [.imm (.sl (.int .u8)), .imm tI, .imm tI] [⟨false, tI, y18⟩] []⟩, oH, oH, ⟨none, .call [.imm (.sl (.int .u8)), .imm tI, .imm tI] [⟨false, tI, y20⟩] []⟩, oH, oH, oH, oH, oH] ⟨[(1, .one (.dat (.sl (.int .u8)) a1)), (5, .one (.dat (.sl (.st (.pair .str (.st (.pair tI (.pair tI (.pair tLI (.sl .bool)))))))) y4)), (6, aV 0), (12, .one (.dat .str y9.1)), (17, iV (Int.tmod (wadd .i64 (wmul .i64 (256 : Int) y18) y20) (lenI y9.1)))], [(0, .seq tI r8)], 1⟩ hX (by kernel_rfl) (allCons (f19_ok hc19) (allCons (f19_ok hc21) (allCons hg22 allNil))) ?_
              refine HT.rg2 [oH] ⟨[(1, .one (.dat (.sl (.int .u8)) a1)), (5, .one (.dat (.sl (.st (.pair .str (.st (.pair tI (.pair tI (.pair tLI (.sl .bool)))))))) y4)), (6, aV 0), (12, .one (.dat .str y9.1)), (17, iV (Int.tmod (wadd .i64 (wmul .i64 (256 : Int) y18) y20) (lenI y9.1))), (18, iV (0 : Int))], [(0, .seq tI r8)], 1⟩ hX (by kernel_rfl) allNil ?_
              refine HT.seq ?_
              refine HT.block ?_
              obtain ⟨r24, hL64, hr⟩ := of_bind hr
              refine HT.loopL (fun (s23 : Int) => ⟨[(1, .one (.dat (.sl (.int .u8)) a1)), (5, .one (.dat (.sl (.st (.pair .str (.st (.pair tI (.pair tI (.pair tLI (.sl .bool)))))))) y4)), (6, aV 0), (12, .one (.dat .str y9.1)), (17, iV (Int.tmod (wadd .i64 (wmul .i64 (256 : Int) y18) y20) (lenI y9.1))), (18, iV s23)], [(0, .seq tI r8)], 1⟩) (fun (r25 : Int) => (.exit 2, ⟨[(1, .one (.dat (.sl (.int .u8)) a1)), (6, aV 0), (12, .one (.dat .str y9.1)), (17, iV (Int.tmod (wadd .i64 (wmul .i64 (256 : Int) y18) y20) (lenI y9.1))), (18, iV r25)], [(0, .seq tI r8)], 1⟩)) (Le.re [(0, 0)] [] hX (by kernel_rfl)) hL64 ?_ (fun s23 x55 hx56 hk57 => ?_)
              · refine (qBlockX (qThen ?_))
                obtain ⟨hg26, hr⟩ := of_guard hr
                obtain ⟨y27, hc28, hr⟩ := of_bind hr
                refine HT.rg2 [oH, oH, oH, ⟨none, .call [.imm .str] [⟨true, (.sl (.st (.pair .str (.st (.pair tI (.pair tI (.pair (.own tI) (.own .bool)))))))), y27.1⟩, ⟨false, tI, y27.2.1⟩, ⟨false, .bool, y27.2.2⟩] []⟩, oH, oH, oH, oH, oH, oH, oH] ⟨[(1, .one (.dat (.sl (.int .u8)) a1)), (6, aV 0), (12, .one (.dat .str y9.1)), (17, iV (Int.tmod (wadd .i64 (wmul .i64 (256 : Int) y18) y20) (lenI y9.1))), (18, iV r24), (19, aV 1), (20, iV y27.2.1), (21, bV y27.2.2)], [(1, .seq (.st (.pair .str (.st (.pair tI (.pair tI (.pair (.own tI) (.own .bool))))))) y27.1), (0, .seq tI r8)], 2⟩ hX (by kernel_rfl) (allCons (show (0 : Int) ≤ 0 ∧ (0 : Int) ≤ (Int.tmod (wadd .i64 (wmul .i64 (256 : Int) y18) y20) (lenI y9.1)) ∧ (Int.tmod (wadd .i64 (wmul .i64 (256 : Int) y18) y20) (lenI y9.1)) ≤ lenI y9.1 from ⟨Int.le_refl _, hg26.1, hg26.2⟩) (allCons (f18_ok hc28) allNil)) ?_
                refine HT.seq ?_
                obtain ⟨v29', hT31, hr⟩ := of_bind hr
                refine HT.join (fun (v29 : Bool) => ⟨[(1, .one (.dat (.sl (.int .u8)) a1)), (12, .one (.dat .str y9.1)), (17, iV (Int.tmod (wadd .i64 (wmul .i64 (256 : Int) y18) y20) (lenI y9.1))), (18, iV r24), (179, bV v29)], [], 0⟩) (fun v => v = v29') (fun v29 hv30 => ?_) (fun cont => ?_)
                · subst hv30
                  rcases of_bif hr with ⟨hb32, hr⟩ | ⟨hb32, hr⟩
                  · refine HT.cond1 rfl hb32 ?_
                    refine HT.rg2 [oH] ⟨[(4, bV false)], [], 0⟩ hX (by kernel_rfl) allNil ?_
                    have hr := of_some hr
                    subst hr
                    exact HT.ret (qThenR ⟨[bV false], [], [], by kernel_rfl, by kernel_rfl, rfl, by kernel_rfl, by kernel_rfl, trivial⟩)
                  · refine HT.cond0 rfl hb32 ?_
                    refine HT.skip (qThen ?_)
                    obtain ⟨hg33, hr⟩ := of_guard hr
                    refine HT.rg2 (oHs 3) ⟨[(1, .one (.dat (.sl (.int .u8)) a1)), (17, iV (Int.tmod (wadd .i64 (wmul .i64 (256 : Int) y18) y20) (lenI y9.1))), (18, iV r24), (22, aV 0)], [(0, .seq (.int .u8) (bytesI y9.1))], 1⟩ hX (by kernel_rfl) (allCons hg33 allNil) ?_
                    obtain ⟨hg34, hr⟩ := of_guard hr
                    obtain ⟨y35, hc36, hr⟩ := of_bind hr
                    refine HT.dr2 8 [⟨oH, []⟩, ⟨oH, []⟩, ⟨oH, [0, 1]⟩, ⟨oH, [0, 1, 2]⟩, ⟨oH, []⟩, ⟨⟨none, .call [.imm (.sl (.int .u8)), .imm tI, .imm tI] [⟨false, tI, y35⟩] []⟩, [4]⟩, ⟨oH, [4, 5]⟩, ⟨oH, [4, 5, 6]⟩] [[0, 1, 2, 3, 4, 5, 6, 7], [0, 1, 2, 3, 4, 5, 6, 7, 8], [0, 1, 2, 3, 4, 5, 6, 7, 8, 9]] (oHs 3) ⟨[(18, iV r24), (22, aV 0)], [(0, .seq (.int .u8) (List.set (bytesI y9.1) (Int.toNat (Int.tmod (wadd .i64 (wmul .i64 (256 : Int) y18) y20) (lenI y9.1))) (wadd .u8 (List.getD (bytesI y9.1) (Int.toNat (Int.tmod (wadd .i64 (wmul .i64 (256 : Int) y18) y20) (lenI y9.1))) (0 : Int)) (IntKind.wrap .u8 (wadd .i64 (1 : Int) y35)))))], 1⟩ hX (by kernel_rfl) (by kernel_rfl) (allCons hg34 (allCons (natLt hg34) (allCons (f19_ok hc36) (allCons hg34 (allCons (natLt hg34) allNil))))) ?_
                    obtain ⟨q37, hq38, hr⟩ := of_bind hr
                    have hq38 := of_some2 hq38
                    refine (Le.cv (s := ⟨[(0, 0)], [], [], false⟩) (own := []) (ps := [r24 = r24, q37 = (List.set (bytesI y9.1) (Int.toNat (Int.tmod (wadd .i64 (wmul .i64 (256 : Int) y18) y20) (lenI y9.1))) (wadd .u8 (List.getD (bytesI y9.1) (Int.toNat (Int.tmod (wadd .i64 (wmul .i64 (256 : Int) y18) y20) (lenI y9.1))) (0 : Int)) (IntKind.wrap .u8 (wadd .i64 (1 : Int) y35))))]) (st' := ⟨[(18, iV r24), (22, aV 0)], [(0, .seq (.int .u8) q37)], 1⟩) hO (fun h => by cases h) (by kernel_rfl) ⟨rfl, hq38, trivial⟩).ht ?_
                    obtain ⟨y39, hc40, hr⟩ := of_bind hr
                    refine HT.rg2 [oH, oH, ⟨none, .call [.imm .str] [⟨true, (.sl (.st (.pair .str (.st (.pair tI (.pair tI (.pair (.own tI) (.own .bool)))))))), y39.1⟩, ⟨false, tI, y39.2.1⟩, ⟨false, .bool, y39.2.2⟩] []⟩, oH, oH, oH, oH, oH, oH, oH] ⟨[(18, iV r24), (22, aV 0), (23, aV 1), (24, iV y39.2.1), (25, bV y39.2.2)], [(1, .seq (.st (.pair .str (.st (.pair tI (.pair tI (.pair (.own tI) (.own .bool))))))) y39.1), (0, .seq (.int .u8) q37)], 2⟩ hX (by kernel_rfl) (allCons (f18_ok hc40) allNil) ?_
                    obtain ⟨y41, hc42, hr⟩ := of_bind hr
                    refine HT.rg2 [oH, ⟨none, .call [.imm (.sl (.st (.pair .str (.st (.pair tI (.pair tI (.pair tLI (.sl .bool))))))))] [⟨false, .str, y41.1⟩, ⟨false, .bool, y41.2⟩] []⟩, oH, oH, oH, oH, oH] ⟨[(18, iV r24), (22, aV 0), (23, aV 1), (24, iV y39.2.1), (25, bV y39.2.2), (26, .one (.dat .str y41.1)), (27, bV y41.2)], [(1, .seq (.st (.pair .str (.st (.pair tI (.pair tI (.pair (.own tI) (.own .bool))))))) y39.1), (0, .seq (.int .u8) q37)], 2⟩ hX (by kernel_rfl) (allCons (f17_ok hc42) allNil) ?_
                    obtain ⟨v43', hT45, hr⟩ := of_bind hr
                    refine HT.join (fun (v43 : Bool) => ⟨[(4, bV v43)], [], 0⟩) (fun v => v = v43') (fun v43 hv44 => ?_) (fun cont => ?_)
                    · subst hv44
                      have hr := of_some hr
                      subst hr
                      exact HT.ret ⟨[bV v43], [], [], by kernel_rfl, by kernel_rfl, rfl, by kernel_rfl, by kernel_rfl, trivial⟩
                    · rcases of_bif hT45 with ⟨hb46, hT45⟩ | ⟨hb46, hT45⟩
                      · rcases of_bif hT45 with ⟨hb47, hT45⟩ | ⟨hb47, hT45⟩
                        · rcases of_bif hT45 with ⟨hb48, hT45⟩ | ⟨hb48, hT45⟩
                          · rcases of_bif hT45 with ⟨hb49, hT45⟩ | ⟨hb49, hT45⟩
                            · rcases of_bif hT45 with ⟨hb50, hT45⟩ | ⟨hb50, hT45⟩
                              · obtain ⟨hg51, hT45⟩ := of_guard hT45
                                exact HT.rgK [oH, oH, ⟨some true, .no⟩, ⟨none, .tv true⟩, oH, ⟨some true, .no⟩, ⟨some true, .no⟩, ⟨some true, .no⟩, ⟨some true, .no⟩, ⟨none, .tv true⟩, oH, ⟨some true, .no⟩, ⟨some true, .no⟩, ⟨none, .tv true⟩, oH, ⟨some true, .no⟩, ⟨some true, .no⟩, ⟨some true, .no⟩, ⟨some true, .no⟩, ⟨none, .tv true⟩, oH, ⟨some true, .no⟩, ⟨some true, .no⟩, ⟨some true, .no⟩, ⟨some true, .no⟩, ⟨some true, .no⟩, ⟨some true, .no⟩, ⟨none, .tv true⟩, oH] [] [] hX (by kernel_rfl) (allCons hb46 (allCons hb46 (allCons hb47 (allCons hb47 (allCons hb47 (allCons hb47 (allCons hb47 (allCons hb48 (allCons hb48 (allCons hb48 (allCons hb49 (allCons hb49 (allCons hb49 (allCons hb49 (allCons hb49 (allCons hb50 (allCons hb50 (allCons hb50 (allCons hb50 (allCons (show (0 : Int) ≤ 0 ∧ (0 : Int) ≤ y39.2.1 ∧ y39.2.1 ≤ lenI q37 from ⟨Int.le_refl _, hg51.1, hg51.2⟩) (allCons hb50 (allCons hb50 (allCons hb50 allNil))))))))))))))))))))))) (fun _ h => (qThen (h.ht (cont (y41.1 == (bytesO (List.take (Int.toNat y39.2.1) (List.drop 0 q37)))) (of_some hT45)))))
                              · exact HT.rgK [oH, oH, ⟨some true, .no⟩, ⟨none, .tv true⟩, oH, ⟨some true, .no⟩, ⟨some true, .no⟩, ⟨some true, .no⟩, ⟨some true, .no⟩, ⟨none, .tv true⟩, oH, ⟨some true, .no⟩, ⟨some true, .no⟩, ⟨none, .tv true⟩, oH, ⟨some true, .no⟩, ⟨some true, .no⟩, ⟨some true, .no⟩, ⟨some true, .no⟩, ⟨none, .tv true⟩, oH, ⟨some false, .no⟩, ⟨some false, .no⟩, ⟨some false, .no⟩, ⟨some false, .no⟩, ⟨some false, .no⟩, ⟨some false, .no⟩, ⟨none, .tv false⟩, oH] [] [] hX (by kernel_rfl) (allCons hb46 (allCons hb46 (allCons hb47 (allCons hb47 (allCons hb47 (allCons hb47 (allCons hb47 (allCons hb48 (allCons hb48 (allCons hb48 (allCons hb49 (allCons hb49 (allCons hb49 (allCons hb49 (allCons hb49 (allCons hb50 (allCons hb50 (allCons hb50 (allCons hb50 (allCons hb50 (allCons hb50 (allCons hb50 allNil)))))))))))))))))))))) (fun _ h => (qThen (h.ht (cont false (of_some hT45)))))
                            · exact HT.rgK [oH, oH, ⟨some true, .no⟩, ⟨none, .tv true⟩, oH, ⟨some true, .no⟩, ⟨some true, .no⟩, ⟨some true, .no⟩, ⟨some true, .no⟩, ⟨none, .tv true⟩, oH, ⟨some true, .no⟩, ⟨some true, .no⟩, ⟨none, .tv true⟩, oH, ⟨some false, .no⟩, ⟨some false, .no⟩, ⟨some false, .no⟩, ⟨some false, .no⟩, ⟨none, .tv false⟩, oH, ⟨some false, .no⟩, ⟨some false, .no⟩, ⟨some false, .no⟩, ⟨some false, .no⟩, ⟨some false, .no⟩, ⟨some false, .no⟩, ⟨none, .tv false⟩, oH] [] [] hX (by kernel_rfl) (allCons hb46 (allCons hb46 (allCons hb47 (allCons hb47 (allCons hb47 (allCons hb47 (allCons hb47 (allCons hb48 (allCons hb48 (allCons hb48 (allCons hb49 (allCons hb49 (allCons hb49 (allCons hb49 (allCons hb49 (allCons (rfl : false = false) (allCons (rfl : false = false) (allCons (rfl : false = false) (allCons (rfl : false = false) (allCons (rfl : false = false) (allCons (rfl : false = false) (allCons (rfl : false = false) allNil)))))))))))))))))))))) (fun _ h => (qThen (h.ht (cont false (of_some hT45)))))
                          · exact HT.rgK [oH, oH, ⟨some true, .no⟩, ⟨none, .tv true⟩, oH, ⟨some true, .no⟩, ⟨some true, .no⟩, ⟨some true, .no⟩, ⟨some true, .no⟩, ⟨none, .tv true⟩, oH, ⟨some false, .no⟩, ⟨some false, .no⟩, ⟨none, .tv false⟩, oH, ⟨some false, .no⟩, ⟨some false, .no⟩, ⟨some false, .no⟩, ⟨some false, .no⟩, ⟨none, .tv false⟩, oH, ⟨some false, .no⟩, ⟨some false, .no⟩, ⟨some false, .no⟩, ⟨some false, .no⟩, ⟨some false, .no⟩, ⟨some false, .no⟩, ⟨none, .tv false⟩, oH] [] [] hX (by kernel_rfl) (allCons hb46 (allCons hb46 (allCons hb47 (allCons hb47 (allCons hb47 (allCons hb47 (allCons hb47 (allCons hb48 (allCons hb48 (allCons hb48 (allCons (rfl : false = false) (allCons (rfl : false = false) (allCons (rfl : false = false) (allCons (rfl : false = false) (allCons (rfl : false = false) (allCons (rfl : false = false) (allCons (rfl : false = false) (allCons (rfl : false = false) (allCons (rfl : false = false) (allCons (rfl : false = false) (allCons (rfl : false = false) (allCons (rfl : false = false) allNil)))))))))))))))))))))) (fun _ h => (qThen (h.ht (cont false (of_some hT45)))))
                        · exact HT.rgK [oH, oH, ⟨some true, .no⟩, ⟨none, .tv true⟩, oH, ⟨some false, .no⟩, ⟨some false, .no⟩, ⟨some false, .no⟩, ⟨some false, .no⟩, ⟨none, .tv false⟩, oH, ⟨some false, .no⟩, ⟨some false, .no⟩, ⟨none, .tv false⟩, oH, ⟨some false, .no⟩, ⟨some false, .no⟩, ⟨some false, .no⟩, ⟨some false, .no⟩, ⟨none, .tv false⟩, oH, ⟨some false, .no⟩, ⟨some false, .no⟩, ⟨some false, .no⟩, ⟨some false, .no⟩, ⟨some false, .no⟩, ⟨some false, .no⟩, ⟨none, .tv false⟩, oH] [] [] hX (by kernel_rfl) (allCons hb46 (allCons hb46 (allCons hb47 (allCons hb47 (allCons hb47 (allCons hb47 (allCons hb47 (allCons (rfl : false = false) (allCons (rfl : false = false) (allCons (rfl : false = false) (allCons (rfl : false = false) (allCons (rfl : false = false) (allCons (rfl : false = false) (allCons (rfl : false = false) (allCons (rfl : false = false) (allCons (rfl : false = false) (allCons (rfl : false = false) (allCons (rfl : false = false) (allCons (rfl : false = false) (allCons (rfl : false = false) (allCons (rfl : false = false) (allCons (rfl : false = false) allNil)))))))))))))))))))))) (fun _ h => (qThen (h.ht (cont false (of_some hT45)))))
                      · exact HT.rgK [oH, oH, ⟨some false, .no⟩, ⟨none, .tv false⟩, oH, ⟨some false, .no⟩, ⟨some false, .no⟩, ⟨some false, .no⟩, ⟨some false, .no⟩, ⟨none, .tv false⟩, oH, ⟨some false, .no⟩, ⟨some false, .no⟩, ⟨none, .tv false⟩, oH, ⟨some false, .no⟩, ⟨some false, .no⟩, ⟨some false, .no⟩, ⟨some false, .no⟩, ⟨none, .tv false⟩, oH, ⟨some false, .no⟩, ⟨some false, .no⟩, ⟨some false, .no⟩, ⟨some false, .no⟩, ⟨some false, .no⟩, ⟨some false, .no⟩, ⟨none, .tv false⟩, oH] [] [] hX (by kernel_rfl) (allCons hb46 (allCons hb46 (allCons (rfl : false = false) (allCons (rfl : false = false) (allCons (rfl : false = false) (allCons (rfl : false = false) (allCons (rfl : false = false) (allCons (rfl : false = false) (allCons (rfl : false = false) (allCons (rfl : false = false) (allCons (rfl : false = false) (allCons (rfl : false = false) (allCons (rfl : false = false) (allCons (rfl : false = false) (allCons (rfl : false = false) (allCons (rfl : false = false) (allCons (rfl : false = false) (allCons (rfl : false = false) (allCons (rfl : false = false) (allCons (rfl : false = false) (allCons (rfl : false = false) (allCons (rfl : false = false) allNil)))))))))))))))))))))) (fun _ h => (qThen (h.ht (cont false (of_some hT45)))))
                · rcases of_bif hT31 with ⟨hb52, hT31⟩ | ⟨hb52, hT31⟩
                  · exact HT.rgK [oH, oH, oH, ⟨some true, .no⟩, ⟨some true, .no⟩, ⟨some true, .no⟩, ⟨some true, .no⟩, ⟨some true, .no⟩, ⟨some true, .no⟩, ⟨none, .tv true⟩, oH, ⟨some true, .no⟩, ⟨some true, .no⟩, ⟨some true, .no⟩, ⟨some true, .no⟩, ⟨none, .tv true⟩] [] [] hX (by kernel_rfl) (allCons hb52 (allCons hb52 (allCons hb52 (allCons hb52 (allCons hb52 (allCons hb52 (allCons hb52 (allCons (rfl : true = true) (allCons (rfl : true = true) (allCons (rfl : true = true) (allCons (rfl : true = true) (allCons (rfl : true = true) allNil)))))))))))) (fun _ h => (qThen (h.ht (cont true (of_some hT31)))))
                  · obtain ⟨hg53, hT31⟩ := of_guard hT31
                    rcases of_bif hT31 with ⟨hb54, hT31⟩ | ⟨hb54, hT31⟩
                    · exact HT.rgK [oH, oH, oH, ⟨some false, .no⟩, ⟨some false, .no⟩, ⟨some false, .no⟩, ⟨some false, .no⟩, ⟨some false, .no⟩, ⟨some false, .no⟩, ⟨none, .tv false⟩, oH, ⟨some true, .no⟩, ⟨some true, .no⟩, ⟨some true, .no⟩, ⟨some true, .no⟩, ⟨none, .tv true⟩] [] [] hX (by kernel_rfl) (allCons hb52 (allCons hb52 (allCons hb52 (allCons hb52 (allCons hg53 (allCons hb52 (allCons (natLt hg53) (allCons hb52 (allCons hb52 (allCons hb54 (allCons hb54 (allCons hb54 (allCons hb54 (allCons hb54 allNil)))))))))))))) (fun _ h => (qThen (h.ht (cont true (of_some hT31)))))
                    · exact HT.rgK [oH, oH, oH, ⟨some false, .no⟩, ⟨some false, .no⟩, ⟨some false, .no⟩, ⟨some false, .no⟩, ⟨some false, .no⟩, ⟨some false, .no⟩, ⟨none, .tv false⟩, oH, ⟨some false, .no⟩, ⟨some false, .no⟩, ⟨some false, .no⟩, ⟨some false, .no⟩, ⟨none, .tv false⟩] [] [] hX (by kernel_rfl) (allCons hb52 (allCons hb52 (allCons hb52 (allCons hb52 (allCons hg53 (allCons hb52 (allCons (natLt hg53) (allCons hb52 (allCons hb52 (allCons hb54 (allCons hb54 (allCons hb54 (allCons hb54 (allCons hb54 allNil)))))))))))))) (fun _ h => (qThen (h.ht (cont ((lenI y27.1) != r24) (of_some hT31)))))
              · refine HT.seq ?_
                obtain ⟨v58', hT60, hx56⟩ := of_bind hx56
                refine HT.join (fun (v58 : Bool) => ⟨[(1, .one (.dat (.sl (.int .u8)) a1)), (5, .one (.dat (.sl (.st (.pair .str (.st (.pair tI (.pair tI (.pair tLI (.sl .bool)))))))) y4)), (6, aV 0), (12, .one (.dat .str y9.1)), (17, iV (Int.tmod (wadd .i64 (wmul .i64 (256 : Int) y18) y20) (lenI y9.1))), (18, iV s23), (153, bV v58)], [(0, .seq tI r8)], 1⟩) (fun v => v = v58') (fun v58 hv59 => ?_) (fun cont => ?_)
                · subst hv59
                  rcases of_bif hx56 with ⟨hb61, hx56⟩ | ⟨hb61, hx56⟩
                  · refine HT.cond1 rfl hb61 ?_
                    refine HT.skip (qThen ?_)
                    refine HT.block ?_
                    have hx56 := of_some hx56
                    subst hx56
                    exact HT.rgK (oHs 3) [(0, 0)] [] hX (by kernel_rfl) allNil (fun _ h => (qBlock (qLoopN ⟨(wadd .i64 s23 (1 : Int)), rfl, h⟩)))
                  · refine HT.cond0 rfl hb61 ?_
                    have hx56 := of_some hx56
                    subst hx56
                    exact HT.exitL (Le.re [(0, 0)] [] hX (by kernel_rfl)) (qThenE (qLoopE (hk57 s23 rfl)))
                · rcases of_bif hT60 with ⟨hb62, hT60⟩ | ⟨hb62, hT60⟩
                  · obtain ⟨hg63, hT60⟩ := of_guard hT60
                    exact HT.rgK [oH, oH, oH, oH, oH, ⟨some true, .no⟩, ⟨some true, .no⟩, ⟨some true, .no⟩, ⟨some true, .no⟩, ⟨some true, .no⟩, ⟨some true, .no⟩, ⟨some true, .no⟩, ⟨none, .tv true⟩] [(0, 0)] [] hX (by kernel_rfl) (allCons hb62 (allCons hb62 (allCons hb62 (allCons hb62 (allCons hg63 (allCons hb62 (allCons (natLt hg63) (allCons hb62 (allCons hb62 (allCons hb62 allNil)))))))))) (fun _ h => (qThen (h.ht (cont (decide ((List.getD r8 (Int.toNat (wadd .i64 s23 (1 : Int))) (0 : Int)) ≤ (Int.tmod (wadd .i64 (wmul .i64 (256 : Int) y18) y20) (lenI y9.1)))) (of_some hT60)))))
                  · exact HT.rgK [oH, oH, oH, oH, oH, ⟨some false, .no⟩, ⟨some false, .no⟩, ⟨some false, .no⟩, ⟨some false, .no⟩, ⟨some false, .no⟩, ⟨some false, .no⟩, ⟨some false, .no⟩, ⟨none, .tv false⟩] [(0, 0)] [] hX (by kernel_rfl) (allCons hb62 (allCons hb62 (allCons hb62 (allCons hb62 (allCons hb62 (allCons hb62 (allCons hb62 (allCons hb62 allNil)))))))) (fun _ h => (qThen (h.ht (cont false (of_some hT60)))))
        · rcases of_bif hT15 with ⟨hb65, hT15⟩ | ⟨hb65, hT15⟩
          · exact HT.rgK [oH, oH, oH, ⟨some true, .no⟩, ⟨some true, .no⟩, ⟨none, .tv true⟩, oH, ⟨some true, .no⟩, ⟨some true, .no⟩, ⟨some true, .no⟩, ⟨some true, .no⟩, ⟨some true, .no⟩, ⟨some true, .no⟩, ⟨some true, .no⟩, ⟨some true, .no⟩, ⟨none, .tv true⟩, oH, ⟨some true, .no⟩, ⟨some true, .no⟩, ⟨some true, .no⟩, ⟨some true, .no⟩, ⟨none, .tv true⟩, oH, ⟨some true, .no⟩, ⟨some true, .no⟩, ⟨some true, .no⟩, ⟨some true, .no⟩, ⟨none, .tv true⟩] [(0, 0)] [] hX (by kernel_rfl) (allCons hb65 (allCons hb65 (allCons hb65 (allCons (rfl : true = true) (allCons (rfl : true = true) (allCons (rfl : true = true) (allCons (rfl : true = true) (allCons (rfl : true = true) (allCons (rfl : true = true) (allCons (rfl : true = true) (allCons (rfl : true = true) (allCons (rfl : true = true) (allCons (rfl : true = true) (allCons (rfl : true = true) (allCons (rfl : true = true) (allCons (rfl : true = true) (allCons (rfl : true = true) (allCons (rfl : true = true) (allCons (rfl : true = true) (allCons (rfl : true = true) (allCons (rfl : true = true) (allCons (rfl : true = true) allNil)))))))))))))))))))))) (fun _ h => (qThen (h.ht (cont true (of_some hT15)))))
          · rcases of_bif hT15 with ⟨hb66, hT15⟩ | ⟨hb66, hT15⟩
            · exact HT.rgK [oH, oH, oH, ⟨some false, .no⟩, ⟨some false, .no⟩, ⟨none, .tv false⟩, oH, ⟨some true, .no⟩, ⟨some true, .no⟩, ⟨some true, .no⟩, ⟨some true, .no⟩, ⟨some true, .no⟩, ⟨some true, .no⟩, ⟨some true, .no⟩, ⟨some true, .no⟩, ⟨none, .tv true⟩, oH, ⟨some true, .no⟩, ⟨some true, .no⟩, ⟨some true, .no⟩, ⟨some true, .no⟩, ⟨none, .tv true⟩, oH, ⟨some true, .no⟩, ⟨some true, .no⟩, ⟨some true, .no⟩, ⟨some true, .no⟩, ⟨none, .tv true⟩] [(0, 0)] [] hX (by kernel_rfl) (allCons hb65 (allCons hb65 (allCons hb65 (allCons hb66 (allCons hb66 (allCons hb66 (allCons hb66 (allCons hb66 (allCons hb66 (allCons hb66 (allCons hb66 (allCons hb66 (allCons (rfl : true = true) (allCons (rfl : true = true) (allCons (rfl : true = true) (allCons (rfl : true = true) (allCons (rfl : true = true) (allCons (rfl : true = true) (allCons (rfl : true = true) (allCons (rfl : true = true) (allCons (rfl : true = true) (allCons (rfl : true = true) allNil)))))))))))))))))))))) (fun _ h => (qThen (h.ht (cont true (of_some hT15)))))
            · obtain ⟨hg67, hT15⟩ := of_guard hT15
              rcases of_bif hT15 with ⟨hb68, hT15⟩ | ⟨hb68, hT15⟩
              · exact HT.rgK [oH, oH, oH, ⟨some false, .no⟩, ⟨some false, .no⟩, ⟨none, .tv false⟩, oH, ⟨some false, .no⟩, ⟨some false, .no⟩, ⟨some false, .no⟩, ⟨some false, .no⟩, ⟨some false, .no⟩, ⟨some false, .no⟩, ⟨some false, .no⟩, ⟨some false, .no⟩, ⟨none, .tv false⟩, oH, ⟨some true, .no⟩, ⟨some true, .no⟩, ⟨some true, .no⟩, ⟨some true, .no⟩, ⟨none, .tv true⟩, oH, ⟨some true, .no⟩, ⟨some true, .no⟩, ⟨some true, .no⟩, ⟨some true, .no⟩, ⟨none, .tv true⟩] [(0, 0)] [] hX (by kernel_rfl) (allCons hb65 (allCons hb65 (allCons hb65 (allCons hb66 (allCons hb66 (allCons hb66 (allCons hb66 (allCons hb66 (allCons hb66 (allCons hg67 (allCons hb66 (allCons (natLt hg67) (allCons hb66 (allCons hb66 (allCons hb68 (allCons hb68 (allCons hb68 (allCons hb68 (allCons hb68 (allCons (rfl : true = true) (allCons (rfl : true = true) (allCons (rfl : true = true) (allCons (rfl : true = true) (allCons (rfl : true = true) allNil)))))))))))))))))))))))) (fun _ h => (qThen (h.ht (cont true (of_some hT15)))))
              · rcases of_bif hT15 with ⟨hb69, hT15⟩ | ⟨hb69, hT15⟩
                · exact HT.rgK [oH, oH, oH, ⟨some false, .no⟩, ⟨some false, .no⟩, ⟨none, .tv false⟩, oH, ⟨some false, .no⟩, ⟨some false, .no⟩, ⟨some false, .no⟩, ⟨some false, .no⟩, ⟨some false, .no⟩, ⟨some false, .no⟩, ⟨some false, .no⟩, ⟨some false, .no⟩, ⟨none, .tv false⟩, oH, ⟨some false, .no⟩, ⟨some false, .no⟩, ⟨some false, .no⟩, ⟨some false, .no⟩, ⟨none, .tv false⟩, oH, ⟨some true, .no⟩, ⟨some true, .no⟩, ⟨some true, .no⟩, ⟨some true, .no⟩, ⟨none, .tv true⟩] [(0, 0)] [] hX (by kernel_rfl) (allCons hb65 (allCons hb65 (allCons hb65 (allCons hb66 (allCons hb66 (allCons hb66 (allCons hb66 (allCons hb66 (allCons hb66 (allCons hg67 (allCons hb66 (allCons (natLt hg67) (allCons hb66 (allCons hb66 (allCons hb68 (allCons hb68 (allCons hb68 (allCons hb68 (allCons hb68 (allCons hb69 (allCons hb69 (allCons hb69 (allCons hb69 (allCons hb69 allNil)))))))))))))))))))))))) (fun _ h => (qThen (h.ht (cont true (of_some hT15)))))
                · obtain ⟨y70, hc71, hT15⟩ := of_bind hT15
                  exact HT.rgK [oH, oH, oH, ⟨some false, .no⟩, ⟨some false, .no⟩, ⟨none, .tv false⟩, oH, ⟨some false, .no⟩, ⟨some false, .no⟩, ⟨some false, .no⟩, ⟨some false, .no⟩, ⟨some false, .no⟩, ⟨some false, .no⟩, ⟨some false, .no⟩, ⟨some false, .no⟩, ⟨none, .tv false⟩, oH, ⟨some false, .no⟩, ⟨some false, .no⟩, ⟨some false, .no⟩, ⟨some false, .no⟩, ⟨none, .tv false⟩, oH, ⟨some false, .no⟩, ⟨some false, .no⟩, ⟨some false, .call [.imm (.sl (.st (.pair .str (.st (.pair tI (.pair tI (.pair tLI (.sl .bool)))))))), .imm (.sl (.st (.pair .str (.st (.pair tI (.pair tI (.pair tLI (.sl .bool))))))))] [⟨false, .bool, y70⟩] []⟩, ⟨some false, .no⟩, ⟨none, .tv false⟩] [(0, 0)] [] hX (by kernel_rfl) (allCons hb65 (allCons hb65 (allCons hb65 (allCons hb66 (allCons hb66 (allCons hb66 (allCons hb66 (allCons hb66 (allCons hb66 (allCons hg67 (allCons hb66 (allCons (natLt hg67) (allCons hb66 (allCons hb66 (allCons hb68 (allCons hb68 (allCons hb68 (allCons hb68 (allCons hb68 (allCons hb69 (allCons hb69 (allCons hb69 (allCons (f16_ok hc71) (allCons hb69 (allCons hb69 allNil))))))))))))))))))))))))) (fun _ h => (qThen (h.ht (cont (!y70) (of_some hT15)))))
      · have hr := of_some hr
        subst hr
        exact (qBlockR (qThenR ⟨[bV false], [], [], by kernel_rfl, by kernel_rfl, rfl, by kernel_rfl, by kernel_rfl, trivial⟩))
    · refine HT.rg2 [oH] ⟨[(1, .one (.dat (.sl (.int .u8)) a1)), (5, .one (.dat (.sl (.st (.pair .str (.st (.pair tI (.pair tI (.pair tLI (.sl .bool)))))))) y4)), (6, aV 0), (35, iV (lenI y4)), (36, iV s6.1), (37, bV (decide (s6.1 < (lenI y4))))], [(0, .seq tI s6.2)], 1⟩ hX (by kernel_rfl) allNil ?_
      refine HT.seq ?_
      rcases of_bif hx74 with ⟨hb76, hx74⟩ | ⟨hb76, hx74⟩
      · refine HT.cond1 rfl hb76 ?_
        refine HT.skip (qThen ?_)
        refine HT.seq ?_
        refine HT.block ?_
        refine HT.rg2 (oHs 2) ⟨[(1, .one (.dat (.sl (.int .u8)) a1)), (5, .one (.dat (.sl (.st (.pair .str (.st (.pair tI (.pair tI (.pair tLI (.sl .bool)))))))) y4)), (6, aV 0), (7, iV s6.1), (35, iV (lenI y4)), (36, iV s6.1)], [(0, .seq tI s6.2)], 1⟩ hX (by kernel_rfl) allNil ?_
        obtain ⟨hg77, hx74⟩ := of_guard hx74
        obtain ⟨y78, hc79, hx74⟩ := of_bind hx74
        refine HT.rg2 [oH, oH, oH, oH, ⟨none, .call [.imm (.st (.pair .str (.st (.pair tI (.pair tI (.pair tLI (.sl .bool)))))))] [⟨false, .str, y78.1⟩, ⟨false, .bool, y78.2⟩] []⟩, oH, oH, oH, oH, oH] ⟨[(1, .one (.dat (.sl (.int .u8)) a1)), (5, .one (.dat (.sl (.st (.pair .str (.st (.pair tI (.pair tI (.pair tLI (.sl .bool)))))))) y4)), (6, aV 0), (7, iV s6.1), (8, .one (.dat .str y78.1)), (9, bV y78.2), (35, iV (lenI y4)), (36, iV s6.1)], [(0, .seq tI s6.2)], 1⟩ hX (by kernel_rfl) (allCons hg77 (allCons (f13_ok hc79) allNil)) ?_
        obtain ⟨y80, hc81, hx74⟩ := of_bind hx74
        refine HT.rg2 [oH, ⟨none, .call [.imm .str] [⟨true, (.st (.pair .str (.st (.pair tI (.pair tI (.pair tLI (.sl .bool))))))), y80.1⟩, ⟨false, .bool, y80.2⟩] []⟩, oH, oH, oH, oH, oH, oH] ⟨[(1, .one (.dat (.sl (.int .u8)) a1)), (5, .one (.dat (.sl (.st (.pair .str (.st (.pair tI (.pair tI (.pair tLI (.sl .bool)))))))) y4)), (6, aV 0), (7, iV s6.1), (8, .one (.dat .str y78.1)), (9, bV y78.2), (10, pV 3 0), (11, bV y80.2), (35, iV (lenI y4)), (36, iV s6.1)], [(3, .box [.dat .str y80.1.1, iC y80.1.2.1, iC y80.1.2.2.1, .all 1, .all 2]), (1, .seq tI y80.1.2.2.2.1), (2, .seq .bool y80.1.2.2.2.2), (0, .seq tI s6.2)], 4⟩ hX (by kernel_rfl) (allCons (f14_ok hc81) allNil) ?_
        refine HT.seq ?_
        obtain ⟨v82', hT84, hx74⟩ := of_bind hx74
        refine HT.join (fun (v82 : Bool) => ⟨[(1, .one (.dat (.sl (.int .u8)) a1)), (5, .one (.dat (.sl (.st (.pair .str (.st (.pair tI (.pair tI (.pair tLI (.sl .bool)))))))) y4)), (6, aV 0), (8, .one (.dat .str y78.1)), (35, iV (lenI y4)), (36, iV s6.1), (76, bV v82)], [(0, .seq tI s6.2)], 1⟩) (fun v => v = v82') (fun v82 hv83 => ?_) (fun cont => ?_)
        · subst hv83
          rcases of_bif hx74 with ⟨hb85, hx74⟩ | ⟨hb85, hx74⟩
          · refine HT.cond1 rfl hb85 ?_
            refine HT.rg2 [oH] ⟨[(4, bV false)], [], 1⟩ hX (by kernel_rfl) allNil ?_
            have hx74 := of_some hx74
            subst hx74
            exact HT.retL (Le.re [] [] hX (by kernel_rfl)) (qThenR (qBlockR (qThenR (qLoopR (hk75 (.inr ()) rfl)))))
          · refine HT.cond0 rfl hb85 ?_
            refine HT.skip (qThen ?_)
            obtain ⟨hg86, hx74⟩ := of_guard hx74
            obtain ⟨hg87, hx74⟩ := of_guard hx74
            refine HT.rgL [oH, oH, oH, oH, oH, oH, oH, oH, oH, oH, ⟨none, .ty tI⟩, ⟨none, .ty tI⟩, oH] ⟨[(1, .one (.dat (.sl (.int .u8)) a1)), (5, .one (.dat (.sl (.st (.pair .str (.st (.pair tI (.pair tI (.pair tLI (.sl .bool)))))))) y4)), (6, aV 2), (35, iV (lenI y4)), (36, iV s6.1)], [(2, .seq tI (s6.2 ++ ([(wadd .i64 (List.getD s6.2 (Int.toNat (wsub .i64 (lenI s6.2) (1 : Int))) (0 : Int)) (lenI y78.1))] : List Int)))], 3⟩ hX (by kernel_rfl) (allCons hg86 (allCons (natLt hg86) (allCons hg87 allNil))) (qBlock (qThen ?_))
            have hx74 := of_some hx74
            subst hx74
            exact HT.rgK (oHs 2) [(2, 0)] [] hX (by kernel_rfl) allNil (fun _ h => (qLoopN ⟨((wadd .i64 s6.1 (1 : Int)), (s6.2 ++ ([(wadd .i64 (List.getD s6.2 (Int.toNat (wsub .i64 (lenI s6.2) (1 : Int))) (0 : Int)) (lenI y78.1))] : List Int))), rfl, h⟩))
        · refine (Le.rz [(3, 3), (2, 2), (0, 0)] [] (st' := ⟨[(1, .one (.dat (.sl (.int .u8)) a1)), (5, .one (.dat (.sl (.st (.pair .str (.st (.pair tI (.pair tI (.pair tLI (.sl .bool)))))))) y4)), (6, aV 0), (7, iV s6.1), (8, .one (.dat .str y78.1)), (9, bV y78.2), (10, pV 3 0), (11, bV y80.2), (35, iV (lenI y4)), (36, iV s6.1)], [(3, .box [.dat .str y80.1.1, iC y80.1.2.1, iC y80.1.2.2.1, nC y80.1.2.2.2.1, .all 2]), (2, .seq .bool y80.1.2.2.2.2), (0, .seq tI s6.2)], 4⟩) hX hF (by kernel_rfl)).ht ?_
          refine (Le.rz [(3, 3), (0, 0)] [] (st' := ⟨[(1, .one (.dat (.sl (.int .u8)) a1)), (5, .one (.dat (.sl (.st (.pair .str (.st (.pair tI (.pair tI (.pair tLI (.sl .bool)))))))) y4)), (6, aV 0), (7, iV s6.1), (8, .one (.dat .str y78.1)), (9, bV y78.2), (10, pV 3 0), (11, bV y80.2), (35, iV (lenI y4)), (36, iV s6.1)], [(3, .box [.dat .str y80.1.1, iC y80.1.2.1, iC y80.1.2.2.1, nC y80.1.2.2.2.1, .dat (.sl .bool) y80.1.2.2.2.2]), (0, .seq tI s6.2)], 4⟩) hX hF (by kernel_rfl)).ht ?_
          rcases of_bif hT84 with ⟨hb88, hT84⟩ | ⟨hb88, hT84⟩
          · exact HT.drK 22 [⟨oH, []⟩, ⟨oH, [0]⟩, ⟨oH, [0, 1]⟩, ⟨⟨some true, .no⟩, [0, 1, 2]⟩, ⟨⟨some true, .no⟩, [0, 1, 2, 3]⟩, ⟨⟨none, .tv true⟩, [0, 1, 2, 3, 4]⟩, ⟨oH, [0, 1, 2, 3, 4, 5]⟩, ⟨⟨some true, .no⟩, [0, 1, 2, 3, 4, 5, 6]⟩, ⟨⟨some true, .no⟩, [0, 1, 2, 3, 4, 5, 6]⟩, ⟨⟨some true, .no⟩, [0, 1, 2, 3, 4, 5, 6, 7, 8]⟩, ⟨⟨some true, .no⟩, [0, 1, 2, 3, 4, 5, 6, 7, 8, 9]⟩, ⟨⟨some true, .no⟩, [0, 1, 2, 3, 4, 5, 6, 7, 8, 9, 10]⟩, ⟨⟨some true, .no⟩, [0, 1, 2, 3, 4, 5, 6, 7, 8, 9, 10, 11]⟩, ⟨⟨none, .tv true⟩, [0, 1, 2, 3, 4, 5, 6, 7, 8, 9, 10, 11, 12]⟩, ⟨oH, [0, 1, 2, 3, 4, 5, 6, 7, 8, 9, 10, 11, 12, 13]⟩, ⟨⟨some true, .no⟩, [0, 1, 2, 3, 4, 5, 6, 7, 8, 9, 10, 11, 12, 13, 14]⟩, ⟨⟨some true, .no⟩, [0, 1, 2, 3, 4, 5, 6, 7, 8, 9, 10, 11, 12, 13, 14, 15]⟩, ⟨⟨some true, .no⟩, [0, 1, 2, 3, 4, 5, 6, 7, 8, 9, 10, 11, 12, 13, 14]⟩, ⟨⟨some true, .no⟩, [0, 1, 2, 3, 4, 5, 6, 7, 8, 9, 10, 11, 12, 13, 14]⟩, ⟨⟨some true, .no⟩, [0, 1, 2, 3, 4, 5, 6, 7, 8, 9, 10, 11, 12, 13, 14]⟩, ⟨⟨some true, .no⟩, [0, 1, 2, 3, 4, 5, 6, 7, 8, 9, 10, 11, 12, 13, 14, 19]⟩, ⟨⟨some true, .no⟩, [0, 1, 2, 3, 4, 5, 6, 7, 8, 9, 10, 11, 12, 13, 14, 17, 18, 19, 20]⟩] [[0, 1, 2, 3, 4, 5, 6, 7, 8, 9, 10, 11, 12, 13, 14, 15, 16, 17, 18, 19, 20, 21], [0, 1, 2, 3, 4, 5, 6, 7, 8, 9, 10, 11, 12, 13, 14, 15, 16, 17, 18, 19, 20, 21, 22], [0, 1, 2, 3, 4, 5, 6, 7, 8, 9, 10, 11, 12, 13, 14, 15, 16, 17, 18, 19, 20, 21, 22, 23]] [⟨some true, .no⟩, ⟨some true, .no⟩, ⟨none, .tv true⟩] [(0, 0)] [] hX (by kernel_rfl) (by kernel_rfl) (allCons hb88 (allCons hb88 (allCons hb88 (allCons (rfl : true = true) (allCons (rfl : true = true) (allCons (rfl : true = true) (allCons (rfl : true = true) (allCons (rfl : true = true) (allCons (rfl : true = true) (allCons (rfl : true = true) (allCons (rfl : true = true) (allCons (rfl : true = true) (allCons (rfl : true = true) (allCons (rfl : true = true) (allCons (rfl : true = true) (allCons (rfl : true = true) (allCons (rfl : true = true) (allCons (rfl : true = true) (allCons (rfl : true = true) (allCons (rfl : true = true) allNil)))))))))))))))))))) (fun _ h => (qThen (h.ht (cont true (of_some hT84)))))
          · rcases of_bif hT84 with ⟨hb89, hT84⟩ | ⟨hb89, hT84⟩
            · exact HT.drK 22 [⟨oH, []⟩, ⟨oH, [0]⟩, ⟨oH, [0, 1]⟩, ⟨⟨some false, .no⟩, [0, 1, 2]⟩, ⟨⟨some false, .no⟩, [0, 1, 2, 3]⟩, ⟨⟨none, .tv false⟩, [0, 1, 2, 3, 4]⟩, ⟨oH, [0, 1, 2, 3, 4, 5]⟩, ⟨⟨some true, .no⟩, [0, 1, 2, 3, 4, 5, 6]⟩, ⟨⟨some true, .no⟩, [0, 1, 2, 3, 4, 5, 6]⟩, ⟨⟨some true, .no⟩, [0, 1, 2, 3, 4, 5, 6, 7, 8]⟩, ⟨⟨some true, .no⟩, [0, 1, 2, 3, 4, 5, 6, 7, 8, 9]⟩, ⟨⟨some true, .no⟩, [0, 1, 2, 3, 4, 5, 6, 7, 8, 9, 10]⟩, ⟨⟨some true, .no⟩, [0, 1, 2, 3, 4, 5, 6, 7, 8, 9, 10, 11]⟩, ⟨⟨none, .tv true⟩, [0, 1, 2, 3, 4, 5, 6, 7, 8, 9, 10, 11, 12]⟩, ⟨oH, [0, 1, 2, 3, 4, 5, 6, 7, 8, 9, 10, 11, 12, 13]⟩, ⟨⟨some true, .no⟩, [0, 1, 2, 3, 4, 5, 6, 7, 8, 9, 10, 11, 12, 13, 14]⟩, ⟨⟨some true, .no⟩, [0, 1, 2, 3, 4, 5, 6, 7, 8, 9, 10, 11, 12, 13, 14, 15]⟩, ⟨⟨some true, .no⟩, [0, 1, 2, 3, 4, 5, 6, 7, 8, 9, 10, 11, 12, 13, 14]⟩, ⟨⟨some true, .no⟩, [0, 1, 2, 3, 4, 5, 6, 7, 8, 9, 10, 11, 12, 13, 14]⟩, ⟨⟨some true, .no⟩, [0, 1, 2, 3, 4, 5, 6, 7, 8, 9, 10, 11, 12, 13, 14]⟩, ⟨⟨some true, .no⟩, [0, 1, 2, 3, 4, 5, 6, 7, 8, 9, 10, 11, 12, 13, 14, 19]⟩, ⟨⟨some true, .no⟩, [0, 1, 2, 3, 4, 5, 6, 7, 8, 9, 10, 11, 12, 13, 14, 17, 18, 19, 20]⟩] [[0, 1, 2, 3, 4, 5, 6, 7, 8, 9, 10, 11, 12, 13, 14, 15, 16, 17, 18, 19, 20, 21], [0, 1, 2, 3, 4, 5, 6, 7, 8, 9, 10, 11, 12, 13, 14, 15, 16, 17, 18, 19, 20, 21, 22], [0, 1, 2, 3, 4, 5, 6, 7, 8, 9, 10, 11, 12, 13, 14, 15, 16, 17, 18, 19, 20, 21, 22, 23]] [⟨some true, .no⟩, ⟨some true, .no⟩, ⟨none, .tv true⟩] [(0, 0)] [] hX (by kernel_rfl) (by kernel_rfl) (allCons hb88 (allCons hb88 (allCons hb88 (allCons hb89 (allCons hb89 (allCons hb89 (allCons hb89 (allCons hb89 (allCons hb89 (allCons hb89 (allCons (rfl : true = true) (allCons (rfl : true = true) (allCons (rfl : true = true) (allCons (rfl : true = true) (allCons (rfl : true = true) (allCons (rfl : true = true) (allCons (rfl : true = true) (allCons (rfl : true = true) (allCons (rfl : true = true) (allCons (rfl : true = true) allNil)))))))))))))))))))) (fun _ h => (qThen (h.ht (cont true (of_some hT84)))))
            · obtain ⟨y90, hc91, hT84⟩ := of_bind hT84
              rcases of_bif hT84 with ⟨hb92, hT84⟩ | ⟨hb92, hT84⟩
              · exact HT.drK 22 [⟨oH, []⟩, ⟨oH, [0]⟩, ⟨oH, [0, 1]⟩, ⟨⟨some false, .no⟩, [0, 1, 2]⟩, ⟨⟨some false, .no⟩, [0, 1, 2, 3]⟩, ⟨⟨none, .tv false⟩, [0, 1, 2, 3, 4]⟩, ⟨oH, [0, 1, 2, 3, 4, 5]⟩, ⟨⟨some false, .no⟩, [0, 1, 2, 3, 4, 5, 6]⟩, ⟨⟨some false, .no⟩, [0, 1, 2, 3, 4, 5, 6]⟩, ⟨⟨some false, .no⟩, [0, 1, 2, 3, 4, 5, 6, 7, 8]⟩, ⟨⟨some false, .no⟩, [0, 1, 2, 3, 4, 5, 6, 7, 8, 9]⟩, ⟨⟨some false, .call [.imm (.st (.pair .str (.st (.pair tI (.pair tI (.pair tLI (.sl .bool)))))))] [⟨false, .bool, y90⟩] []⟩, [0, 1, 2, 3, 4, 5, 6, 7, 8, 9, 10]⟩, ⟨⟨some false, .no⟩, [0, 1, 2, 3, 4, 5, 6, 7, 8, 9, 10, 11]⟩, ⟨⟨none, .tv false⟩, [0, 1, 2, 3, 4, 5, 6, 7, 8, 9, 10, 11, 12]⟩, ⟨oH, [0, 1, 2, 3, 4, 5, 6, 7, 8, 9, 10, 11, 12, 13]⟩, ⟨⟨some true, .no⟩, [0, 1, 2, 3, 4, 5, 6, 7, 8, 9, 10, 11, 12, 13, 14]⟩, ⟨⟨some true, .no⟩, [0, 1, 2, 3, 4, 5, 6, 7, 8, 9, 10, 11, 12, 13, 14, 15]⟩, ⟨⟨some true, .no⟩, [0, 1, 2, 3, 4, 5, 6, 7, 8, 9, 10, 11, 12, 13, 14]⟩, ⟨⟨some true, .no⟩, [0, 1, 2, 3, 4, 5, 6, 7, 8, 9, 10, 11, 12, 13, 14]⟩, ⟨⟨some true, .no⟩, [0, 1, 2, 3, 4, 5, 6, 7, 8, 9, 10, 11, 12, 13, 14]⟩, ⟨⟨some true, .no⟩, [0, 1, 2, 3, 4, 5, 6, 7, 8, 9, 10, 11, 12, 13, 14, 19]⟩, ⟨⟨some true, .no⟩, [0, 1, 2, 3, 4, 5, 6, 7, 8, 9, 10, 11, 12, 13, 14, 17, 18, 19, 20]⟩] [[0, 1, 2, 3, 4, 5, 6, 7, 8, 9, 10, 11, 12, 13, 14, 15, 16, 17, 18, 19, 20, 21], [0, 1, 2, 3, 4, 5, 6, 7, 8, 9, 10, 11, 12, 13, 14, 15, 16, 17, 18, 19, 20, 21, 22], [0, 1, 2, 3, 4, 5, 6, 7, 8, 9, 10, 11, 12, 13, 14, 15, 16, 17, 18, 19, 20, 21, 22, 23]] [⟨some true, .no⟩, ⟨some true, .no⟩, ⟨none, .tv true⟩] [(0, 0)] [] hX (by kernel_rfl) (by kernel_rfl) (allCons hb88 (allCons hb88 (allCons hb88 (allCons hb89 (allCons hb89 (allCons hb89 (allCons hg77 (allCons hb89 (allCons hb89 (allCons (f15_ok hc91) (allCons hb89 (allCons hb89 (allCons hb92 (allCons hb92 (allCons hb92 (allCons hb92 (allCons hb92 (allCons hb92 (allCons hb92 (allCons hb92 (allCons hb92 (allCons hb92 allNil)))))))))))))))))))))) (fun _ h => (qThen (h.ht (cont true (of_some hT84)))))
              · obtain ⟨hg93, hT84⟩ := of_guard hT84
                obtain ⟨y94, hc95, hT84⟩ := of_bind hT84
                exact HT.drK 22 [⟨oH, []⟩, ⟨oH, [0]⟩, ⟨oH, [0, 1]⟩, ⟨⟨some false, .no⟩, [0, 1, 2]⟩, ⟨⟨some false, .no⟩, [0, 1, 2, 3]⟩, ⟨⟨none, .tv false⟩, [0, 1, 2, 3, 4]⟩, ⟨oH, [0, 1, 2, 3, 4, 5]⟩, ⟨⟨some false, .no⟩, [0, 1, 2, 3, 4, 5, 6]⟩, ⟨⟨some false, .no⟩, [0, 1, 2, 3, 4, 5, 6]⟩, ⟨⟨some false, .no⟩, [0, 1, 2, 3, 4, 5, 6, 7, 8]⟩, ⟨⟨some false, .no⟩, [0, 1, 2, 3, 4, 5, 6, 7, 8, 9]⟩, ⟨⟨some false, .call [.imm (.st (.pair .str (.st (.pair tI (.pair tI (.pair tLI (.sl .bool)))))))] [⟨false, .bool, y90⟩] []⟩, [0, 1, 2, 3, 4, 5, 6, 7, 8, 9, 10]⟩, ⟨⟨some false, .no⟩, [0, 1, 2, 3, 4, 5, 6, 7, 8, 9, 10, 11]⟩, ⟨⟨none, .tv false⟩, [0, 1, 2, 3, 4, 5, 6, 7, 8, 9, 10, 11, 12]⟩, ⟨oH, [0, 1, 2, 3, 4, 5, 6, 7, 8, 9, 10, 11, 12, 13]⟩, ⟨⟨some false, .no⟩, [0, 1, 2, 3, 4, 5, 6, 7, 8, 9, 10, 11, 12, 13, 14]⟩, ⟨⟨some false, .ty (.st (.pair .str (.st (.pair tI (.pair tI (.pair tLI (.sl .bool)))))))⟩, [0, 1, 2, 3, 4, 5, 6, 7, 8, 9, 10, 11, 12, 13, 14, 15]⟩, ⟨⟨some false, .no⟩, [0, 1, 2, 3, 4, 5, 6, 7, 8, 9, 10, 11, 12, 13, 14]⟩, ⟨⟨some false, .no⟩, [0, 1, 2, 3, 4, 5, 6, 7, 8, 9, 10, 11, 12, 13, 14]⟩, ⟨⟨some false, .no⟩, [0, 1, 2, 3, 4, 5, 6, 7, 8, 9, 10, 11, 12, 13, 14]⟩, ⟨⟨some false, .no⟩, [0, 1, 2, 3, 4, 5, 6, 7, 8, 9, 10, 11, 12, 13, 14, 19]⟩, ⟨⟨some false, .no⟩, [0, 1, 2, 3, 4, 5, 6, 7, 8, 9, 10, 11, 12, 13, 14, 17, 18, 19, 20]⟩] [[0, 1, 2, 3, 4, 5, 6, 7, 8, 9, 10, 11, 12, 13, 14, 15, 16, 17, 18, 19, 20, 21], [0, 1, 2, 3, 4, 5, 6, 7, 8, 9, 10, 11, 12, 13, 14, 15, 16, 17, 18, 19, 20, 21, 22], [0, 1, 2, 3, 4, 5, 6, 7, 8, 9, 10, 11, 12, 13, 14, 15, 16, 17, 18, 19, 20, 21, 22, 23]] [⟨some false, .call [.imm (.sl (.st (.pair .str (.st (.pair tI (.pair tI (.pair tLI (.sl .bool)))))))), .imm (.sl (.st (.pair .str (.st (.pair tI (.pair tI (.pair tLI (.sl .bool))))))))] [⟨false, .bool, y94⟩] []⟩, ⟨some false, .no⟩, ⟨none, .tv false⟩] [(0, 0)] [] hX (by kernel_rfl) (by kernel_rfl) (allCons hb88 (allCons hb88 (allCons hb88 (allCons hb89 (allCons hb89 (allCons hb89 (allCons hg77 (allCons hb89 (allCons hb89 (allCons (f15_ok hc91) (allCons hb89 (allCons hb89 (allCons hb92 (allCons hb92 (allCons hb92 (allCons hb92 (allCons hb92 (allCons hb92 (allCons hb92 (allCons hg93 (allCons hb92 (allCons (f16_ok hc95) (allCons hb92 (allCons hb92 allNil)))))))))))))))))))))))) (fun _ h => (qThen (h.ht (cont (!y94) (of_some hT84)))))
      · refine HT.cond0 rfl hb76 ?_
        have hx74 := of_some hx74
        subst hx74
        exact HT.exitL (Le.re [(0, 0)] [] hX (by kernel_rfl)) (qThenE (qLoopE (hk75 (.inl s6.2) rfl)))

end Go.Proofs
