import Derived.Test.YtapgmbilojbacaaLibD
import Derived.Test.YtapgmbilojbacaaProg
set_option linter.unusedVariables false
set_option linter.unusedSimpArgs false
set_option linter.unusedSectionVars false
/-
  Functions as plain functions, and their contracts. Printed by a program.
-/
namespace Go.Proofs
open Go.Ide

noncomputable def laws_b10Long (a0 : List Int) (a1 : List Int) : Option (Bool) :=
  (show Option (Bool) from
    bif (decide ((lenI a0) > (1048576 : Int))) then
      some true
    else
      some (decide ((lenI a1) > (1048576 : Int)))).bind fun v1 =>
  some v1

theorem f11_ok {a0 : List Int} {a1 : List Int} {r : Bool} (hr : laws_b10Long a0 a1 = some r) : CallOK Try.prog 11 [.imm (.sl (.int .u8)) a0, .imm (.sl (.int .u8)) a1] [⟨false, .bool, r⟩] [] := by
  unfold laws_b10Long at hr
  refine CallOK.of_body (ts := [(false, .bool)]) Try.func11 rfl (by kernel_rfl) (Nat.le_of_ble_eq_true (by kernel_rfl)) fun cx hP hN hO hF => ?_
  have hO : cx.own.map Prod.fst = [] := hO
  have hX := CxIs.mk hP hN hO
  have hF := hF rfl
  show HT cx ⟨[(0, .one (.dat (.sl (.int .u8)) a0)), (1, .one (.dat (.sl (.int .u8)) a1))], [], 0⟩ _ _
  refine HT.rg2 [oH] ⟨[(0, .one (.dat (.sl (.int .u8)) a0)), (1, .one (.dat (.sl (.int .u8)) a1))], [], 0⟩ hX (by kernel_rfl) allNil ?_
  obtain ⟨v1', hT3, hr⟩ := of_bind hr
  refine HT.join (fun (v1 : Bool) => ⟨[(4, bV v1)], [], 0⟩) (fun v => v = v1') (fun v1 hv2 => ?_) (fun cont => ?_)
  · subst hv2
    have hr := of_some hr
    subst hr
    exact HT.ret ⟨[bV v1], [], [], by kernel_rfl, by kernel_rfl, rfl, by kernel_rfl, by kernel_rfl, trivial⟩
  · rcases of_bif hT3 with ⟨hb4, hT3⟩ | ⟨hb4, hT3⟩
    · exact HT.rgK [oH, oH, oH, oH, ⟨some true, .no⟩, ⟨some true, .no⟩, ⟨some true, .no⟩, ⟨none, .tv true⟩, oH] [] [] hX (by kernel_rfl) (allCons hb4 (allCons hb4 (allCons hb4 (allCons hb4 allNil)))) (fun _ h => (qThen (h.ht (cont true (of_some hT3)))))
    · exact HT.rgK [oH, oH, oH, oH, ⟨some false, .no⟩, ⟨some false, .no⟩, ⟨some false, .no⟩, ⟨none, .tv false⟩, oH] [] [] hX (by kernel_rfl) (allCons hb4 (allCons hb4 (allCons hb4 (allCons hb4 allNil)))) (fun _ h => (qThen (h.ht (cont (decide ((lenI a1) > (1048576 : Int))) (of_some hT3)))))

noncomputable def laws_b10At (a0 : List Int) (a1 : Int) (a2 : Int) : Option (Int) :=
  bif (decide (a2 ≤ (1 : Int))) then
    some (0 : Int)
  else
    bif (decide (a1 < (lenI a0))) then
      guardP ((0 : Int) ≤ a1 ∧ a1 < lenI a0) (
        guardP (a2 ≠ 0) (
          some (Int.tmod (IntKind.wrap .i64 (List.getD a0 (Int.toNat a1) (0 : Int))) a2)))
    else
      guardP (a2 ≠ 0) (
        some (Int.tmod (wadd .i64 (wmul .i64 a1 (37 : Int)) (11 : Int)) a2))

theorem f19_ok {a0 : List Int} {a1 : Int} {a2 : Int} {r : Int} (hr : laws_b10At a0 a1 a2 = some r) : CallOK Try.prog 19 [.imm (.sl (.int .u8)) a0, .imm tI a1, .imm tI a2] [⟨false, tI, r⟩] [] := by
  unfold laws_b10At at hr
  refine CallOK.of_body (ts := [(false, tI)]) Try.func19 rfl (by kernel_rfl) (Nat.le_of_ble_eq_true (by kernel_rfl)) fun cx hP hN hO hF => ?_
  have hO : cx.own.map Prod.fst = [] := hO
  have hX := CxIs.mk hP hN hO
  have hF := hF rfl
  show HT cx ⟨[(0, .one (.dat (.sl (.int .u8)) a0)), (1, iV a1), (2, iV a2)], [], 0⟩ _ _
  refine HT.rg2 [oH] ⟨[(0, .one (.dat (.sl (.int .u8)) a0)), (1, iV a1), (2, iV a2)], [], 0⟩ hX (by kernel_rfl) allNil ?_
  refine HT.seq ?_
  refine HT.rg2 (oHs 2) ⟨[(0, .one (.dat (.sl (.int .u8)) a0)), (1, iV a1), (2, iV a2), (8, bV (decide (a2 ≤ (1 : Int))))], [], 0⟩ hX (by kernel_rfl) allNil ?_
  rcases of_bif hr with ⟨hb1, hr⟩ | ⟨hb1, hr⟩
  · refine HT.cond1 rfl hb1 ?_
    refine HT.rg2 [oH] ⟨[(6, iV (0 : Int))], [], 0⟩ hX (by kernel_rfl) allNil ?_
    have hr := of_some hr
    subst hr
    exact HT.ret (qThenR ⟨[iV (0 : Int)], [], [], by kernel_rfl, by kernel_rfl, rfl, by kernel_rfl, by kernel_rfl, trivial⟩)
  · refine HT.cond0 rfl hb1 ?_
    refine HT.skip (qThen ?_)
    refine HT.seq ?_
    refine HT.rg2 (oHs 4) ⟨[(0, .one (.dat (.sl (.int .u8)) a0)), (1, iV a1), (2, iV a2), (12, bV (decide (a1 < (lenI a0))))], [], 0⟩ hX (by kernel_rfl) allNil ?_
    rcases of_bif hr with ⟨hb2, hr⟩ | ⟨hb2, hr⟩
    · refine HT.cond1 rfl hb2 ?_
      obtain ⟨hg3, hr⟩ := of_guard hr
      obtain ⟨hg4, hr⟩ := of_guard hr
      refine HT.rg2 (oHs 8) ⟨[(6, iV (Int.tmod (IntKind.wrap .i64 (List.getD a0 (Int.toNat a1) (0 : Int))) a2))], [], 0⟩ hX (by kernel_rfl) (allCons hg3 (allCons hg4 allNil)) ?_
      have hr := of_some hr
      subst hr
      exact HT.ret (qThenR ⟨[iV (Int.tmod (IntKind.wrap .i64 (List.getD a0 (Int.toNat a1) (0 : Int))) a2)], [], [], by kernel_rfl, by kernel_rfl, rfl, by kernel_rfl, by kernel_rfl, trivial⟩)
    · refine HT.cond0 rfl hb2 ?_
      refine HT.skip (qThen ?_)
      obtain ⟨hg5, hr⟩ := of_guard hr
      refine HT.rg2 (oHs 6) ⟨[(6, iV (Int.tmod (wadd .i64 (wmul .i64 a1 (37 : Int)) (11 : Int)) a2))], [], 0⟩ hX (by kernel_rfl) (allCons hg5 allNil) ?_
      have hr := of_some hr
      subst hr
      exact HT.ret ⟨[iV (Int.tmod (wadd .i64 (wmul .i64 a1 (37 : Int)) (11 : Int)) a2)], [], [], by kernel_rfl, by kernel_rfl, rfl, by kernel_rfl, by kernel_rfl, trivial⟩

noncomputable def spec_l00From (a0 : List Int) : Option ((List Int × Int × Int)) :=
  some (a0, (0 : Int), (0 : Int))

theorem f93_ok {a0 : List Int} {r : (List Int × Int × Int)} (hr : spec_l00From a0 = some r) : CallOK Try.prog 93 [.imm (.sl (.int .u8)) a0] [⟨true, (.bx (.st (.pair (.sl (.int .u8)) (.pair tI (.int .u64))))), [r]⟩] [] := by
  unfold spec_l00From at hr
  refine CallOK.of_body (ts := [(true, (.bx (.st (.pair (.sl (.int .u8)) (.pair tI (.int .u64))))))]) Try.func93 rfl (by kernel_rfl) (Nat.le_of_ble_eq_true (by kernel_rfl)) fun cx hP hN hO hF => ?_
  have hO : cx.own.map Prod.fst = [] := hO
  have hX := CxIs.mk hP hN hO
  have hF := hF rfl
  show HT cx ⟨[(0, .one (.dat (.sl (.int .u8)) a0))], [], 0⟩ _ _
  refine HT.rg2 [oH] ⟨[(0, .one (.dat (.sl (.int .u8)) a0))], [], 0⟩ hX (by kernel_rfl) allNil ?_
  refine HT.rg2 [oH, oH, ⟨none, .ty (.st (.pair (.sl (.int .u8)) (.pair tI (.int .u64))))⟩, oH] ⟨[(2, .one (.elp 0 0 3 0))], [(0, .seq (.st (.pair (.sl (.int .u8)) (.pair tI (.int .u64)))) ([(a0, (0 : Int), (0 : Int))]))], 1⟩ hX (by kernel_rfl) allNil ?_
  have hr := of_some hr
  subst hr
  exact HT.ret ⟨[.one (.elp 0 0 3 0)], [0], [], by kernel_rfl, by kernel_rfl, rfl, by kernel_rfl, by kernel_rfl, trivial⟩

noncomputable def spec_l00Src_next (a0 : List Int × Int × Int) : Option (Int × (List Int × Int × Int)) :=
  (show Option (Int) from
    bif (decide (a0.2.1 < (lenI a0.1))) then
      guardP ((0 : Int) ≤ a0.2.1 ∧ a0.2.1 < lenI a0.1) (
        some (IntKind.wrap .i64 (List.getD a0.1 (Int.toNat a0.2.1) (0 : Int))))
    else
      some (0 : Int)).bind fun v1 =>
  bif (decide ((wadd .i64 a0.2.1 (1 : Int)) ≤ (lenI a0.1))) then
    some (v1, a0.1, (wadd .i64 a0.2.1 (1 : Int)), (wadd .u64 (wadd .u64 (wmul .u64 a0.2.2 (6364136223846793005 : Int)) (IntKind.wrap .u64 v1)) (1442695040888963407 : Int)))
  else
    (some (IntKind.wrap .i64 (IntKind.wrap .u64 (BitVec.ofInt (IntKind.bits .u64) (Int.fdiv (wadd .u64 (wadd .u64 (wmul .u64 a0.2.2 (6364136223846793005 : Int)) (IntKind.wrap .u64 v1)) (1442695040888963407 : Int)) (2 ^ (min (Int.toNat (40 : Int)) (IntKind.bits .u64)))) &&& BitVec.ofInt (IntKind.bits .u64) (255 : Int)).toNat))).bind fun q5 =>
    some (q5, a0.1, (wadd .i64 a0.2.1 (1 : Int)), (wadd .u64 (wadd .u64 (wmul .u64 a0.2.2 (6364136223846793005 : Int)) (IntKind.wrap .u64 v1)) (1442695040888963407 : Int)))

theorem f192_ok {a0 : List Int × Int × Int} {r : Int × (List Int × Int × Int)} (hr : spec_l00Src_next a0 = some r) : CallOK Try.prog 192 [.own (.bx (.st (.pair (.sl (.int .u8)) (.pair tI (.int .u64))))) [a0]] [⟨false, tI, r.1⟩] [⟨(.bx (.st (.pair (.sl (.int .u8)) (.pair tI (.int .u64))))), [r.2]⟩] := by
  unfold spec_l00Src_next at hr
  refine CallOK.of_body (ts := [(false, tI)]) Try.func192 rfl (by kernel_rfl) (Nat.le_of_ble_eq_true (by kernel_rfl)) fun cx hP hN hO hF => ?_
  have hO : cx.own.map Prod.fst = [0] := hO
  have hX := CxIs.mk hP hN hO
  have hF := hF rfl
  show HT cx ⟨[(0, .one (.elp 0 0 3 0))], [(0, .seq (.st (.pair (.sl (.int .u8)) (.pair tI (.int .u64)))) ([a0]))], 1⟩ _ _
  refine HT.rg2 [oH] ⟨[(0, .one (.elp 0 0 3 0))], [(0, .seq (.st (.pair (.sl (.int .u8)) (.pair tI (.int .u64)))) ([a0]))], 1⟩ hX (by kernel_rfl) allNil ?_
  refine HT.rg2 [oH] ⟨[(0, .one (.elp 0 0 3 0)), (3, iV (0 : Int))], [(0, .seq (.st (.pair (.sl (.int .u8)) (.pair tI (.int .u64)))) ([a0]))], 1⟩ hX (by kernel_rfl) allNil ?_
  obtain ⟨v1', hT3, hr⟩ := of_bind hr
  refine HT.join (fun (v1 : Int) => ⟨[(0, .one (.elp 0 0 3 0)), (3, iV v1)], [(0, .seq (.st (.pair (.sl (.int .u8)) (.pair tI (.int .u64)))) ([a0]))], 1⟩) (fun v => v = v1') (fun v1 hv2 => ?_) (fun cont => ?_)
  · subst hv2
    refine HT.rg2 (oHs 8) ⟨[(0, .one (.elp 0 0 3 0)), (3, iV v1)], [(0, .seq (.st (.pair (.sl (.int .u8)) (.pair tI (.int .u64)))) ([(a0.1, (wadd .i64 a0.2.1 (1 : Int)), a0.2.2)]))], 1⟩ hX (by kernel_rfl) (allCons (show 0 < List.length [a0] from Nat.zero_lt_one) (allCons (show 0 < List.length [a0] from Nat.zero_lt_one) allNil)) ?_
    refine HT.rg2 (oHs 13) ⟨[(0, .one (.elp 0 0 3 0)), (3, iV v1)], [(0, .seq (.st (.pair (.sl (.int .u8)) (.pair tI (.int .u64)))) ([(a0.1, (wadd .i64 a0.2.1 (1 : Int)), (wadd .u64 (wadd .u64 (wmul .u64 a0.2.2 (6364136223846793005 : Int)) (IntKind.wrap .u64 v1)) (1442695040888963407 : Int)))]))], 1⟩ hX (by kernel_rfl) (allCons (show 0 < List.length [(a0.1, (wadd .i64 a0.2.1 (1 : Int)), a0.2.2)] from Nat.zero_lt_one) (allCons (show 0 < List.length [(a0.1, (wadd .i64 a0.2.1 (1 : Int)), a0.2.2)] from Nat.zero_lt_one) allNil)) ?_
    refine HT.seq ?_
    refine HT.dr2 9 [⟨oH, []⟩, ⟨oH, [0]⟩, ⟨oH, [0, 1]⟩, ⟨oH, [0, 1, 2]⟩, ⟨oH, []⟩, ⟨oH, [4]⟩, ⟨oH, [4, 5]⟩, ⟨oH, [4, 5, 6]⟩, ⟨oH, [4, 5, 6, 7]⟩] [[0, 1, 2, 3, 4, 5, 6, 7, 8]] [oH] ⟨[(0, .one (.elp 0 0 3 0)), (3, iV v1), (53, bV (decide ((wadd .i64 a0.2.1 (1 : Int)) ≤ (lenI a0.1))))], [(0, .seq (.st (.pair (.sl (.int .u8)) (.pair tI (.int .u64)))) ([(a0.1, (wadd .i64 a0.2.1 (1 : Int)), (wadd .u64 (wadd .u64 (wmul .u64 a0.2.2 (6364136223846793005 : Int)) (IntKind.wrap .u64 v1)) (1442695040888963407 : Int)))]))], 1⟩ hX (by kernel_rfl) (by kernel_rfl) (allCons (show 0 < List.length [(a0.1, (wadd .i64 a0.2.1 (1 : Int)), (wadd .u64 (wadd .u64 (wmul .u64 a0.2.2 (6364136223846793005 : Int)) (IntKind.wrap .u64 v1)) (1442695040888963407 : Int)))] from Nat.zero_lt_one) (allCons (show 0 < List.length [(a0.1, (wadd .i64 a0.2.1 (1 : Int)), (wadd .u64 (wadd .u64 (wmul .u64 a0.2.2 (6364136223846793005 : Int)) (IntKind.wrap .u64 v1)) (1442695040888963407 : Int)))] from Nat.zero_lt_one) allNil)) ?_
    rcases of_bif hr with ⟨hb4, hr⟩ | ⟨hb4, hr⟩
    · refine HT.cond1 rfl hb4 ?_
      refine HT.rg2 (oHs 2) ⟨[(2, iV v1)], [(0, .seq (.st (.pair (.sl (.int .u8)) (.pair tI (.int .u64)))) ([(a0.1, (wadd .i64 a0.2.1 (1 : Int)), (wadd .u64 (wadd .u64 (wmul .u64 a0.2.2 (6364136223846793005 : Int)) (IntKind.wrap .u64 v1)) (1442695040888963407 : Int)))]))], 1⟩ hX (by kernel_rfl) allNil ?_
      have hr := of_some hr
      subst hr
      exact HT.ret (qThenR ⟨[iV v1], [], [List.length ([(a0.1, (wadd .i64 a0.2.1 (1 : Int)), (wadd .u64 (wadd .u64 (wmul .u64 a0.2.2 (6364136223846793005 : Int)) (IntKind.wrap .u64 v1)) (1442695040888963407 : Int)))]) = List.length [a0]], by kernel_rfl, by kernel_rfl, rfl, by kernel_rfl, by kernel_rfl, ⟨(show List.length ([(a0.1, (wadd .i64 a0.2.1 (1 : Int)), (wadd .u64 (wadd .u64 (wmul .u64 a0.2.2 (6364136223846793005 : Int)) (IntKind.wrap .u64 v1)) (1442695040888963407 : Int)))]) = List.length [a0] from rfl), trivial⟩⟩)
    · refine HT.cond0 rfl hb4 ?_
      refine HT.skip (qThen ?_)
      refine HT.rg2 (oHs 8) ⟨[(2, iV (IntKind.wrap .i64 (IntKind.wrap .u64 (BitVec.ofInt (IntKind.bits .u64) (Int.fdiv (wadd .u64 (wadd .u64 (wmul .u64 a0.2.2 (6364136223846793005 : Int)) (IntKind.wrap .u64 v1)) (1442695040888963407 : Int)) (2 ^ (min (Int.toNat (40 : Int)) (IntKind.bits .u64)))) &&& BitVec.ofInt (IntKind.bits .u64) (255 : Int)).toNat)))], [(0, .seq (.st (.pair (.sl (.int .u8)) (.pair tI (.int .u64)))) ([(a0.1, (wadd .i64 a0.2.1 (1 : Int)), (wadd .u64 (wadd .u64 (wmul .u64 a0.2.2 (6364136223846793005 : Int)) (IntKind.wrap .u64 v1)) (1442695040888963407 : Int)))]))], 1⟩ hX (by kernel_rfl) (allCons (show 0 < List.length [(a0.1, (wadd .i64 a0.2.1 (1 : Int)), (wadd .u64 (wadd .u64 (wmul .u64 a0.2.2 (6364136223846793005 : Int)) (IntKind.wrap .u64 v1)) (1442695040888963407 : Int)))] from Nat.zero_lt_one) (allCons (show (0 : Int) ≤ (40 : Int) from by decide) allNil)) ?_
      obtain ⟨q5, hq6, hr⟩ := of_bind hr
      have hq6 := of_some2 hq6
      refine (Le.cv (s := ⟨[(0, 0)], [], [], false⟩) (own := [0]) (ps := [q5 = (IntKind.wrap .i64 (IntKind.wrap .u64 (BitVec.ofInt (IntKind.bits .u64) (Int.fdiv (wadd .u64 (wadd .u64 (wmul .u64 a0.2.2 (6364136223846793005 : Int)) (IntKind.wrap .u64 v1)) (1442695040888963407 : Int)) (2 ^ (min (Int.toNat (40 : Int)) (IntKind.bits .u64)))) &&& BitVec.ofInt (IntKind.bits .u64) (255 : Int)).toNat)), [(a0.1, (wadd .i64 a0.2.1 (1 : Int)), (wadd .u64 (wadd .u64 (wmul .u64 a0.2.2 (6364136223846793005 : Int)) (IntKind.wrap .u64 v1)) (1442695040888963407 : Int)))] = [(a0.1, (wadd .i64 a0.2.1 (1 : Int)), (wadd .u64 (wadd .u64 (wmul .u64 a0.2.2 (6364136223846793005 : Int)) (IntKind.wrap .u64 v1)) (1442695040888963407 : Int)))]]) (st' := ⟨[(2, iV q5)], [(0, .seq (.st (.pair (.sl (.int .u8)) (.pair tI (.int .u64)))) ([(a0.1, (wadd .i64 a0.2.1 (1 : Int)), (wadd .u64 (wadd .u64 (wmul .u64 a0.2.2 (6364136223846793005 : Int)) (IntKind.wrap .u64 v1)) (1442695040888963407 : Int)))]))], 1⟩) hO (fun h => by cases h) (by kernel_rfl) ⟨hq6, rfl, trivial⟩).ht ?_
      have hr := of_some hr
      subst hr
      exact HT.ret ⟨[iV q5], [], [List.length ([(a0.1, (wadd .i64 a0.2.1 (1 : Int)), (wadd .u64 (wadd .u64 (wmul .u64 a0.2.2 (6364136223846793005 : Int)) (IntKind.wrap .u64 v1)) (1442695040888963407 : Int)))]) = List.length [a0]], by kernel_rfl, by kernel_rfl, rfl, by kernel_rfl, by kernel_rfl, ⟨(show List.length ([(a0.1, (wadd .i64 a0.2.1 (1 : Int)), (wadd .u64 (wadd .u64 (wmul .u64 a0.2.2 (6364136223846793005 : Int)) (IntKind.wrap .u64 v1)) (1442695040888963407 : Int)))]) = List.length [a0] from rfl), trivial⟩⟩
  · refine HT.dr2 9 [⟨oH, []⟩, ⟨oH, [0]⟩, ⟨oH, [0, 1]⟩, ⟨oH, [0, 1, 2]⟩, ⟨oH, []⟩, ⟨oH, [4]⟩, ⟨oH, [4, 5]⟩, ⟨oH, [4, 5, 6]⟩, ⟨oH, [4, 5, 6, 7]⟩] [[0, 1, 2, 3, 4, 5, 6, 7, 8]] [oH] ⟨[(0, .one (.elp 0 0 3 0)), (3, iV (0 : Int)), (13, bV (decide (a0.2.1 < (lenI a0.1))))], [(0, .seq (.st (.pair (.sl (.int .u8)) (.pair tI (.int .u64)))) ([a0]))], 1⟩ hX (by kernel_rfl) (by kernel_rfl) (allCons (show 0 < List.length [a0] from Nat.zero_lt_one) (allCons (show 0 < List.length [a0] from Nat.zero_lt_one) allNil)) ?_
    rcases of_bif hT3 with ⟨hb7, hT3⟩ | ⟨hb7, hT3⟩
    · refine HT.cond1 rfl hb7 ?_
      obtain ⟨hg8, hT3⟩ := of_guard hT3
      exact HT.drK 8 [⟨oH, []⟩, ⟨oH, [0]⟩, ⟨oH, [0, 1]⟩, ⟨oH, [0, 1, 2]⟩, ⟨oH, []⟩, ⟨oH, [4]⟩, ⟨oH, [4, 5]⟩, ⟨oH, [4, 5, 6]⟩] [[0, 1, 2, 3, 4, 5, 6, 7], [0, 1, 2, 3, 4, 5, 6, 7, 8], [0, 1, 2, 3, 4, 5, 6, 7, 8, 9], [0, 1, 2, 3, 4, 5, 6, 7, 8, 9, 10]] (oHs 4) [(0, 0)] [] hX (by kernel_rfl) (by kernel_rfl) (allCons (show 0 < List.length [a0] from Nat.zero_lt_one) (allCons (show 0 < List.length [a0] from Nat.zero_lt_one) (allCons hg8 allNil))) (fun _ h => (qThen (h.ht (cont (IntKind.wrap .i64 (List.getD a0.1 (Int.toNat a0.2.1) (0 : Int))) (of_some hT3)))))
    · refine HT.cond0 rfl hb7 ?_
      refine HT.skip (qThen ?_)
      exact (Le.re [(0, 0)] [] hX (by kernel_rfl)).ht (cont (0 : Int) (of_some hT3))

noncomputable def spec_l00Src_pick (a0 : List Int × Int × Int) (a1 : Int) : Option (Int × (List Int × Int × Int)) :=
  bif (decide (a1 ≤ (1 : Int))) then
    some ((0 : Int), a0)
  else
    (spec_l00Src_next a0).bind fun y2 =>
    (show Option (Int × (List Int × Int × Int)) from
      bif (decide (a1 > (200 : Int))) then
        (spec_l00Src_next y2.2).bind fun y9 =>
        some ((wadd .i64 (wmul .i64 y2.1 (256 : Int)) y9.1), y9.2)
      else
        some (y2.1, y2.2)).bind fun v4 =>
    guardP (a1 ≠ 0) (
      some ((Int.tmod v4.1 a1), v4.2))

theorem f94_ok {a0 : List Int × Int × Int} {a1 : Int} {r : Int × (List Int × Int × Int)} (hr : spec_l00Src_pick a0 a1 = some r) : CallOK Try.prog 94 [.own (.bx (.st (.pair (.sl (.int .u8)) (.pair tI (.int .u64))))) [a0], .imm tI a1] [⟨false, tI, r.1⟩] [⟨(.bx (.st (.pair (.sl (.int .u8)) (.pair tI (.int .u64))))), [r.2]⟩] := by
  unfold spec_l00Src_pick at hr
  refine CallOK.of_body (ts := [(false, tI)]) Try.func94 rfl (by kernel_rfl) (Nat.le_of_ble_eq_true (by kernel_rfl)) fun cx hP hN hO hF => ?_
  have hO : cx.own.map Prod.fst = [0] := hO
  have hX := CxIs.mk hP hN hO
  have hF := hF rfl
  show HT cx ⟨[(0, .one (.elp 0 0 3 0)), (1, iV a1)], [(0, .seq (.st (.pair (.sl (.int .u8)) (.pair tI (.int .u64)))) ([a0]))], 1⟩ _ _
  refine HT.rg2 [oH] ⟨[(0, .one (.elp 0 0 3 0)), (1, iV a1)], [(0, .seq (.st (.pair (.sl (.int .u8)) (.pair tI (.int .u64)))) ([a0]))], 1⟩ hX (by kernel_rfl) allNil ?_
  refine HT.seq ?_
  refine HT.rg2 (oHs 2) ⟨[(0, .one (.elp 0 0 3 0)), (1, iV a1), (7, bV (decide (a1 ≤ (1 : Int))))], [(0, .seq (.st (.pair (.sl (.int .u8)) (.pair tI (.int .u64)))) ([a0]))], 1⟩ hX (by kernel_rfl) allNil ?_
  rcases of_bif hr with ⟨hb1, hr⟩ | ⟨hb1, hr⟩
  · refine HT.cond1 rfl hb1 ?_
    refine HT.rg2 [oH] ⟨[(4, iV (0 : Int))], [(0, .seq (.st (.pair (.sl (.int .u8)) (.pair tI (.int .u64)))) ([a0]))], 1⟩ hX (by kernel_rfl) allNil ?_
    have hr := of_some hr
    subst hr
    exact HT.ret (qThenR ⟨[iV (0 : Int)], [], [List.length ([a0]) = List.length [a0]], by kernel_rfl, by kernel_rfl, rfl, by kernel_rfl, by kernel_rfl, ⟨(show List.length ([a0]) = List.length [a0] from rfl), trivial⟩⟩)
  · refine HT.cond0 rfl hb1 ?_
    refine HT.skip (qThen ?_)
    obtain ⟨y2, hc3, hr⟩ := of_bind hr
    refine HT.rg2 [oH, ⟨none, .call [.own (.bx (.st (.pair (.sl (.int .u8)) (.pair tI (.int .u64)))))] [⟨false, tI, y2.1⟩] [⟨(.bx (.st (.pair (.sl (.int .u8)) (.pair tI (.int .u64))))), [y2.2]⟩]⟩, oH] ⟨[(0, .one (.elp 0 0 3 0)), (1, iV a1), (5, iV y2.1)], [(0, .seq (.st (.pair (.sl (.int .u8)) (.pair tI (.int .u64)))) ([y2.2]))], 1⟩ hX (by kernel_rfl) (allCons (f192_ok hc3) allNil) ?_
    obtain ⟨v4', hT6, hr⟩ := of_bind hr
    refine HT.join (fun (v4 : Int × (List Int × Int × Int)) => ⟨[(1, iV a1), (5, iV v4.1)], [(0, .seq (.st (.pair (.sl (.int .u8)) (.pair tI (.int .u64)))) ([v4.2]))], 1⟩) (fun v => v = v4') (fun v4 hv5 => ?_) (fun cont => ?_)
    · subst hv5
      obtain ⟨hg7, hr⟩ := of_guard hr
      refine HT.rg2 (oHs 4) ⟨[(4, iV (Int.tmod v4.1 a1))], [(0, .seq (.st (.pair (.sl (.int .u8)) (.pair tI (.int .u64)))) ([v4.2]))], 1⟩ hX (by kernel_rfl) (allCons hg7 allNil) ?_
      have hr := of_some hr
      subst hr
      exact HT.ret ⟨[iV (Int.tmod v4.1 a1)], [], [List.length ([v4.2]) = List.length [a0]], by kernel_rfl, by kernel_rfl, rfl, by kernel_rfl, by kernel_rfl, ⟨(show List.length ([v4.2]) = List.length [a0] from rfl), trivial⟩⟩
    · refine HT.rg2 (oHs 2) ⟨[(0, .one (.elp 0 0 3 0)), (1, iV a1), (5, iV y2.1), (11, bV (decide (a1 > (200 : Int))))], [(0, .seq (.st (.pair (.sl (.int .u8)) (.pair tI (.int .u64)))) ([y2.2]))], 1⟩ hX (by kernel_rfl) allNil ?_
      rcases of_bif hT6 with ⟨hb8, hT6⟩ | ⟨hb8, hT6⟩
      · refine HT.cond1 rfl hb8 ?_
        obtain ⟨y9, hc10, hT6⟩ := of_bind hT6
        exact HT.rgK [oH, oH, oH, ⟨none, .call [.own (.bx (.st (.pair (.sl (.int .u8)) (.pair tI (.int .u64)))))] [⟨false, tI, y9.1⟩] [⟨(.bx (.st (.pair (.sl (.int .u8)) (.pair tI (.int .u64))))), [y9.2]⟩]⟩, oH, oH] [(0, 0)] [] hX (by kernel_rfl) (allCons (f192_ok hc10) allNil) (fun _ h => (qThen (h.ht (cont ((wadd .i64 (wmul .i64 y2.1 (256 : Int)) y9.1), y9.2) (of_some hT6)))))
      · refine HT.cond0 rfl hb8 ?_
        refine HT.skip (qThen ?_)
        exact (Le.re [(0, 0)] [] hX (by kernel_rfl)).ht (cont (y2.1, y2.2) (of_some hT6))

noncomputable def spec_b10Row_B1 (r3 : Nat × (List Int × Int × Int) × List Nat) (s4 : Int × List Nat) : Option ((Int × List Nat) ⊕ (List Nat)) :=
  bif (decide (s4.1 < (lenI r3.2.2))) then
    guardP ((0 : Int) ≤ s4.1 ∧ s4.1 < lenI s4.2) (
      some (.inl ((wadd .i64 s4.1 (1 : Int)), (List.set s4.2 (Int.toNat s4.1) (fop .quo .f32 (List.getD s4.2 (Int.toNat s4.1) (0 : Nat)) r3.1)))))
  else
    some (.inr s4.2)

noncomputable def spec_b10Row_B2 (a1 : Int) (s1 : Nat × Int × (List Int × Int × Int) × List Nat) : Option ((Nat × Int × (List Int × Int × Int) × List Nat) ⊕ ((Nat × (List Int × Int × Int) × List Nat))) :=
  bif (decide (s1.2.1 < a1)) then
    (spec_l00Src_pick s1.2.2.1 (5 : Int)).bind fun y17 =>
    guardP (List.length s1.2.2.2 + List.length ([(fofint .f32 (wadd .i64 (1 : Int) y17.1))] : List Nat) ≤ appMax) (
      some (.inl ((fop .add .f32 s1.1 (fofint .f32 (wadd .i64 (1 : Int) y17.1))), (wadd .i64 s1.2.1 (1 : Int)), y17.2, (s1.2.2.2 ++ ([(fofint .f32 (wadd .i64 (1 : Int) y17.1))] : List Nat)))))
  else
    some (.inr (s1.1, s1.2.2.1, s1.2.2.2))

noncomputable def spec_b10Row (a0 : List Int × Int × Int) (a1 : Int) : Option (List Nat × (List Int × Int × Int)) :=
  (rounds (spec_b10Row_B2 a1) ((0 : Nat), (0 : Int), a0, ([] : List Nat))).bind fun r3 =>
  (rounds (spec_b10Row_B1 r3) ((0 : Int), r3.2.2)).bind fun r6 =>
  some (r6, r3.2.1)

theorem f143_ok {a0 : List Int × Int × Int} {a1 : Int} {r : List Nat × (List Int × Int × Int)} (hr : spec_b10Row a0 a1 = some r) : CallOK Try.prog 143 [.own (.bx (.st (.pair (.sl (.int .u8)) (.pair tI (.int .u64))))) [a0], .imm tI a1] [⟨true, tLF, r.1⟩] [⟨(.bx (.st (.pair (.sl (.int .u8)) (.pair tI (.int .u64))))), [r.2]⟩] := by
  unfold spec_b10Row at hr
  refine CallOK.of_body (ts := [(true, tLF)]) Try.func143 rfl (by kernel_rfl) (Nat.le_of_ble_eq_true (by kernel_rfl)) fun cx hP hN hO hF => ?_
  have hO : cx.own.map Prod.fst = [0] := hO
  have hX := CxIs.mk hP hN hO
  have hF := hF rfl
  show HT cx ⟨[(0, .one (.elp 0 0 3 0)), (1, iV a1)], [(0, .seq (.st (.pair (.sl (.int .u8)) (.pair tI (.int .u64)))) ([a0]))], 1⟩ _ _
  refine HT.rg2 [oH] ⟨[(0, .one (.elp 0 0 3 0)), (1, iV a1)], [(0, .seq (.st (.pair (.sl (.int .u8)) (.pair tI (.int .u64)))) ([a0]))], 1⟩ hX (by kernel_rfl) allNil ?_
  refine HT.rg2 (oHs 2) ⟨[(0, .one (.elp 0 0 3 0)), (1, iV a1), (5, .one (.nilS))], [(0, .seq (.st (.pair (.sl (.int .u8)) (.pair tI (.int .u64)))) ([a0]))], 1⟩ hX (by kernel_rfl) allNil ?_
  refine HT.rg2 [oH] ⟨[(0, .one (.elp 0 0 3 0)), (1, iV a1), (5, .one (.nilS)), (6, fV (0 : Nat))], [(0, .seq (.st (.pair (.sl (.int .u8)) (.pair tI (.int .u64)))) ([a0]))], 1⟩ hX (by kernel_rfl) allNil ?_
  refine HT.seq ?_
  refine HT.rg2 [oH] ⟨[(0, .one (.elp 0 0 3 0)), (1, iV a1), (5, .one (.nilS)), (6, fV (0 : Nat)), (7, iV (0 : Int))], [(0, .seq (.st (.pair (.sl (.int .u8)) (.pair tI (.int .u64)))) ([a0]))], 1⟩ hX (by kernel_rfl) allNil ?_
  refine HT.block ?_
  obtain ⟨r2, hL20, hr⟩ := of_bind hr
  refine HT.loopL (fun (s1 : Nat × Int × (List Int × Int × Int) × List Nat) => ⟨[(0, .one (.elp 0 0 3 0)), (1, iV a1), (5, aV 1), (6, fV s1.1), (7, iV s1.2.1)], [(0, .seq (.st (.pair (.sl (.int .u8)) (.pair tI (.int .u64)))) ([s1.2.2.1])), (1, .seq tF s1.2.2.2)], 2⟩) (fun (r3 : (Nat × (List Int × Int × Int) × List Nat)) => (.exit 0, ⟨[(5, aV 1), (6, fV r3.1)], [(0, .seq (.st (.pair (.sl (.int .u8)) (.pair tI (.int .u64)))) ([r3.2.1])), (1, .seq tF r3.2.2)], 2⟩)) (Le.re [(0, 0)] [1] hX (by kernel_rfl)) hL20 ?_ (fun s1 x13 hx14 hk15 => ?_)
  · refine (qBlockX (qThen ?_))
    refine HT.seq ?_
    refine HT.rg2 (oHs 3) ⟨[(5, aV 1), (6, fV r2.1), (28, iV (lenI r2.2.2)), (29, iV (0 : Int))], [(0, .seq (.st (.pair (.sl (.int .u8)) (.pair tI (.int .u64)))) ([r2.2.1])), (1, .seq tF r2.2.2)], 2⟩ hX (by kernel_rfl) allNil ?_
    refine HT.block ?_
    obtain ⟨r5, hL12, hr⟩ := of_bind hr
    refine HT.loopL (fun (s4 : Int × List Nat) => ⟨[(5, aV 1), (6, fV r2.1), (28, iV (lenI r2.2.2)), (29, iV s4.1)], [(0, .seq (.st (.pair (.sl (.int .u8)) (.pair tI (.int .u64)))) ([r2.2.1])), (1, .seq tF s4.2)], 2⟩) (fun (r6 : List Nat) => (.exit 2, ⟨[(5, aV 1)], [(0, .seq (.st (.pair (.sl (.int .u8)) (.pair tI (.int .u64)))) ([r2.2.1])), (1, .seq tF r6)], 2⟩)) (Le.re [(0, 0), (1, 1)] [] hX (by kernel_rfl)) hL12 ?_ (fun s4 x7 hx8 hk9 => ?_)
    · refine (qBlockX (qThen ?_))
      refine HT.rg2 (oHs 2) ⟨[(4, aV 1)], [(0, .seq (.st (.pair (.sl (.int .u8)) (.pair tI (.int .u64)))) ([r2.2.1])), (1, .seq tF r5)], 2⟩ hX (by kernel_rfl) allNil ?_
      have hr := of_some hr
      subst hr
      exact HT.ret ⟨[aV 1], [1], [List.length ([r2.2.1]) = List.length [a0]], by kernel_rfl, by kernel_rfl, rfl, by kernel_rfl, by kernel_rfl, ⟨(show List.length ([r2.2.1]) = List.length [a0] from rfl), trivial⟩⟩
    · refine HT.rg2 [oH] ⟨[(5, aV 1), (6, fV r2.1), (28, iV (lenI r2.2.2)), (29, iV s4.1), (30, bV (decide (s4.1 < (lenI r2.2.2))))], [(0, .seq (.st (.pair (.sl (.int .u8)) (.pair tI (.int .u64)))) ([r2.2.1])), (1, .seq tF s4.2)], 2⟩ hX (by kernel_rfl) allNil ?_
      refine HT.seq ?_
      rcases of_bif hx8 with ⟨hb10, hx8⟩ | ⟨hb10, hx8⟩
      · refine HT.cond1 rfl hb10 ?_
        refine HT.skip (qThen ?_)
        refine HT.seq ?_
        refine HT.block ?_
        refine HT.rg2 (oHs 2) ⟨[(5, aV 1), (6, fV r2.1), (9, iV s4.1), (28, iV (lenI r2.2.2)), (29, iV s4.1)], [(0, .seq (.st (.pair (.sl (.int .u8)) (.pair tI (.int .u64)))) ([r2.2.1])), (1, .seq tF s4.2)], 2⟩ hX (by kernel_rfl) allNil ?_
        obtain ⟨hg11, hx8⟩ := of_guard hx8
        refine HT.rgL (oHs 10) ⟨[(5, aV 1), (6, fV r2.1), (28, iV (lenI r2.2.2)), (29, iV s4.1)], [(1, .seq tF (List.set s4.2 (Int.toNat s4.1) (fop .quo .f32 (List.getD s4.2 (Int.toNat s4.1) (0 : Nat)) r2.1))), (0, .seq (.st (.pair (.sl (.int .u8)) (.pair tI (.int .u64)))) ([r2.2.1]))], 2⟩ hX (by kernel_rfl) (allCons hg11 (allCons (natLt hg11) (allCons hg11 (allCons (natLt hg11) allNil)))) (qBlock (qThen ?_))
        have hx8 := of_some hx8
        subst hx8
        exact HT.rgK (oHs 2) [(0, 0), (1, 1)] [] hX (by kernel_rfl) allNil (fun _ h => (qLoopN ⟨((wadd .i64 s4.1 (1 : Int)), (List.set s4.2 (Int.toNat s4.1) (fop .quo .f32 (List.getD s4.2 (Int.toNat s4.1) (0 : Nat)) r2.1))), rfl, h⟩))
      · refine HT.cond0 rfl hb10 ?_
        have hx8 := of_some hx8
        subst hx8
        exact HT.exitL (Le.re [(0, 0), (1, 1)] [] hX (by kernel_rfl)) (qThenE (qLoopE (hk9 s4.2 rfl)))
  · refine HT.seq ?_
    refine HT.rg2 (oHs 3) ⟨[(0, .one (.elp 0 0 3 0)), (1, iV a1), (5, aV 1), (6, fV s1.1), (7, iV s1.2.1), (13, bV (decide (s1.2.1 < a1)))], [(0, .seq (.st (.pair (.sl (.int .u8)) (.pair tI (.int .u64)))) ([s1.2.2.1])), (1, .seq tF s1.2.2.2)], 2⟩ hX (by kernel_rfl) allNil ?_
    rcases of_bif hx14 with ⟨hb16, hx14⟩ | ⟨hb16, hx14⟩
    · refine HT.cond1 rfl hb16 ?_
      refine HT.skip (qThen ?_)
      refine HT.seq ?_
      refine HT.block ?_
      obtain ⟨y17, hc18, hx14⟩ := of_bind hx14
      refine HT.rg2 [oH, ⟨none, .call [.own (.bx (.st (.pair (.sl (.int .u8)) (.pair tI (.int .u64))))), .imm tI] [⟨false, tI, y17.1⟩] [⟨(.bx (.st (.pair (.sl (.int .u8)) (.pair tI (.int .u64))))), [y17.2]⟩]⟩, oH, oH, oH] ⟨[(0, .one (.elp 0 0 3 0)), (1, iV a1), (5, aV 1), (6, fV s1.1), (7, iV s1.2.1), (8, fV (fofint .f32 (wadd .i64 (1 : Int) y17.1)))], [(0, .seq (.st (.pair (.sl (.int .u8)) (.pair tI (.int .u64)))) ([y17.2])), (1, .seq tF s1.2.2.2)], 2⟩ hX (by kernel_rfl) (allCons (f94_ok hc18) allNil) ?_
      obtain ⟨hg19, hx14⟩ := of_guard hx14
      refine HT.rg2 [oH, oH, ⟨none, .ty tF⟩, ⟨none, .ty tF⟩, oH] ⟨[(0, .one (.elp 0 0 3 0)), (1, iV a1), (5, aV 3), (6, fV s1.1), (7, iV s1.2.1), (8, fV (fofint .f32 (wadd .i64 (1 : Int) y17.1)))], [(3, .seq tF (s1.2.2.2 ++ ([(fofint .f32 (wadd .i64 (1 : Int) y17.1))] : List Nat))), (0, .seq (.st (.pair (.sl (.int .u8)) (.pair tI (.int .u64)))) ([y17.2]))], 4⟩ hX (by kernel_rfl) (allCons hg19 allNil) ?_
      refine HT.rgL (oHs 4) ⟨[(0, .one (.elp 0 0 3 0)), (1, iV a1), (5, aV 3), (6, fV (fop .add .f32 s1.1 (fofint .f32 (wadd .i64 (1 : Int) y17.1)))), (7, iV s1.2.1)], [(3, .seq tF (s1.2.2.2 ++ ([(fofint .f32 (wadd .i64 (1 : Int) y17.1))] : List Nat))), (0, .seq (.st (.pair (.sl (.int .u8)) (.pair tI (.int .u64)))) ([y17.2]))], 4⟩ hX (by kernel_rfl) allNil (qBlock (qThen ?_))
      have hx14 := of_some hx14
      subst hx14
      exact HT.rgK (oHs 3) [(0, 0), (3, 1)] [] hX (by kernel_rfl) allNil (fun _ h => (qLoopN ⟨((fop .add .f32 s1.1 (fofint .f32 (wadd .i64 (1 : Int) y17.1))), (wadd .i64 s1.2.1 (1 : Int)), y17.2, (s1.2.2.2 ++ ([(fofint .f32 (wadd .i64 (1 : Int) y17.1))] : List Nat))), rfl, h⟩))
    · refine HT.cond0 rfl hb16 ?_
      have hx14 := of_some hx14
      subst hx14
      exact HT.exitL (Le.re [(0, 0), (1, 1)] [] hX (by kernel_rfl)) (qThenE (qLoopE (hk15 (s1.1, s1.2.2.1, s1.2.2.2) rfl)))

noncomputable def spec_B10Model_B1 (a1 : Int) (y3 : Int × (List Int × Int × Int)) (s7 : Int × (List Int × Int × Int) × List Nat × List Nat) : Option ((Int × (List Int × Int × Int) × List Nat × List Nat) ⊕ ((List Nat × List Nat))) :=
  bif (decide (s7.1 < (wadd .i64 (1 : Int) y3.1))) then
    (spec_b10Row s7.2.1 (wadd .i64 (1 : Int) y3.1)).bind fun y14 =>
    guardP (List.length s7.2.2.1 + List.length y14.1 ≤ appMax) (
      (spec_b10Row y14.2 a1).bind fun y17 =>
      guardP (List.length s7.2.2.2 + List.length y17.1 ≤ appMax) (
        some (.inl ((wadd .i64 s7.1 (1 : Int)), y17.2, (s7.2.2.1 ++ y14.1), (s7.2.2.2 ++ y17.1)))))
  else
    some (.inr (s7.2.2.1, s7.2.2.2))

noncomputable def spec_B10Model (a0 : List Int) (a1 : Int) : Option ((Int × Int × List Nat × List Nat × List Nat)) :=
  (spec_l00From a0).bind fun y1 =>
  (spec_l00Src_pick y1 (4 : Int)).bind fun y3 =>
  (spec_b10Row y3.2 (wadd .i64 (1 : Int) y3.1)).bind fun y5 =>
  (rounds (spec_B10Model_B1 a1 y3) ((0 : Int), y5.2, ([] : List Nat), ([] : List Nat))).bind fun r9 =>
  some ((wadd .i64 (1 : Int) y3.1), a1, y5.1, r9.1, r9.2)

theorem f60_ok {a0 : List Int} {a1 : Int} {r : (Int × Int × List Nat × List Nat × List Nat)} (hr : spec_B10Model a0 a1 = some r) : CallOK Try.prog 60 [.imm (.sl (.int .u8)) a0, .imm tI a1] [⟨true, (.st (.pair tI (.pair tI (.pair tLF (.pair tLF tLF))))), r⟩] [] := by
  unfold spec_B10Model at hr
  refine CallOK.of_body (ts := [(true, (.st (.pair tI (.pair tI (.pair tLF (.pair tLF tLF))))))]) Try.func60 rfl (by kernel_rfl) (Nat.le_of_ble_eq_true (by kernel_rfl)) fun cx hP hN hO hF => ?_
  have hO : cx.own.map Prod.fst = [] := hO
  have hX := CxIs.mk hP hN hO
  have hF := hF rfl
  show HT cx ⟨[(0, .one (.dat (.sl (.int .u8)) a0)), (1, iV a1)], [], 0⟩ _ _
  refine HT.rg2 [oH] ⟨[(0, .one (.dat (.sl (.int .u8)) a0)), (1, iV a1), (4, pV 0 0)], [(0, .box [iC (0 : Int), iC (0 : Int), .nilS, .nilS, .nilS])], 1⟩ hX (by kernel_rfl) allNil ?_
  obtain ⟨y1, hc2, hr⟩ := of_bind hr
  refine HT.rg2 [oH, ⟨none, .call [.imm (.sl (.int .u8))] [⟨true, (.bx (.st (.pair (.sl (.int .u8)) (.pair tI (.int .u64))))), [y1]⟩] []⟩, oH] ⟨[(1, iV a1), (4, pV 0 0), (5, .one (.elp 1 0 3 0))], [(1, .seq (.st (.pair (.sl (.int .u8)) (.pair tI (.int .u64)))) ([y1])), (0, .box [iC (0 : Int), iC (0 : Int), .nilS, .nilS, .nilS])], 2⟩ hX (by kernel_rfl) (allCons (f93_ok hc2) allNil) ?_
  obtain ⟨y3, hc4, hr⟩ := of_bind hr
  refine HT.rg2 [oH, ⟨none, .call [.own (.bx (.st (.pair (.sl (.int .u8)) (.pair tI (.int .u64))))), .imm tI] [⟨false, tI, y3.1⟩] [⟨(.bx (.st (.pair (.sl (.int .u8)) (.pair tI (.int .u64))))), [y3.2]⟩]⟩, oH, oH, oH, oH, oH] ⟨[(1, iV a1), (4, pV 0 0), (5, .one (.elp 1 0 3 0)), (6, pV 2 0)], [(2, .box [iC (wadd .i64 (1 : Int) y3.1), iC a1, .nilS, .nilS, .nilS]), (1, .seq (.st (.pair (.sl (.int .u8)) (.pair tI (.int .u64)))) ([y3.2])), (0, .box [iC (0 : Int), iC (0 : Int), .nilS, .nilS, .nilS])], 3⟩ hX (by kernel_rfl) (allCons (f94_ok hc4) allNil) ?_
  obtain ⟨y5, hc6, hr⟩ := of_bind hr
  refine HT.rg2 [oH, oH, oH, ⟨none, .call [.own (.bx (.st (.pair (.sl (.int .u8)) (.pair tI (.int .u64))))), .imm tI] [⟨true, tLF, y5.1⟩] [⟨(.bx (.st (.pair (.sl (.int .u8)) (.pair tI (.int .u64))))), [y5.2]⟩]⟩, oH] ⟨[(1, iV a1), (4, pV 0 0), (5, .one (.elp 1 0 3 0)), (6, pV 2 0), (7, aV 3)], [(1, .seq (.st (.pair (.sl (.int .u8)) (.pair tI (.int .u64)))) ([y5.2])), (3, .seq tF y5.1), (2, .box [iC (wadd .i64 (1 : Int) y3.1), iC a1, .nilS, .nilS, .nilS]), (0, .box [iC (0 : Int), iC (0 : Int), .nilS, .nilS, .nilS])], 4⟩ hX (by kernel_rfl) (allCons (f143_ok hc6) allNil) ?_
  refine HT.rg2 (oHs 3) ⟨[(1, iV a1), (4, pV 0 0), (5, .one (.elp 1 0 3 0)), (6, pV 2 0)], [(2, .box [iC (wadd .i64 (1 : Int) y3.1), iC a1, .all 3, .nilS, .nilS]), (1, .seq (.st (.pair (.sl (.int .u8)) (.pair tI (.int .u64)))) ([y5.2])), (3, .seq tF y5.1), (0, .box [iC (0 : Int), iC (0 : Int), .nilS, .nilS, .nilS])], 4⟩ hX (by kernel_rfl) allNil ?_
  refine HT.seq ?_
  refine HT.rg2 [oH] ⟨[(1, iV a1), (4, pV 0 0), (5, .one (.elp 1 0 3 0)), (6, pV 2 0), (8, iV (0 : Int))], [(2, .box [iC (wadd .i64 (1 : Int) y3.1), iC a1, .all 3, .nilS, .nilS]), (1, .seq (.st (.pair (.sl (.int .u8)) (.pair tI (.int .u64)))) ([y5.2])), (3, .seq tF y5.1), (0, .box [iC (0 : Int), iC (0 : Int), .nilS, .nilS, .nilS])], 4⟩ hX (by kernel_rfl) allNil ?_
  refine HT.block ?_
  obtain ⟨r8, hL20, hr⟩ := of_bind hr
  refine HT.loopL (fun (s7 : Int × (List Int × Int × Int) × List Nat × List Nat) => ⟨[(1, iV a1), (4, pV 0 0), (5, .one (.elp 1 0 3 0)), (6, pV 2 0), (8, iV s7.1)], [(0, .box [iC (0 : Int), iC (0 : Int), .nilS, .nilS, .nilS]), (1, .seq (.st (.pair (.sl (.int .u8)) (.pair tI (.int .u64)))) ([s7.2.1])), (2, .box [iC (wadd .i64 (1 : Int) y3.1), iC a1, .all 3, .all 4, .all 5]), (3, .seq tF y5.1), (4, .seq tF s7.2.2.1), (5, .seq tF s7.2.2.2)], 6⟩) (fun (r9 : (List Nat × List Nat)) => (.exit 0, ⟨[(4, pV 0 0), (6, pV 1 0)], [(0, .box [iC (0 : Int), iC (0 : Int), .nilS, .nilS, .nilS]), (1, .box [iC (wadd .i64 (1 : Int) y3.1), iC a1, .all 2, .all 3, .all 4]), (2, .seq tF y5.1), (3, .seq tF r9.1), (4, .seq tF r9.2)], 5⟩)) (Le.re [(0, 0), (1, 1), (2, 2), (3, 3)] [4, 5] hX (by kernel_rfl)) hL20 ?_ (fun s7 x10 hx11 hk12 => ?_)
  · refine (qBlockX (qThen ?_))
    refine HT.rg2 (oHs 2) ⟨[(4, pV 0 0)], [(0, .box [iC (wadd .i64 (1 : Int) y3.1), iC a1, .all 2, .all 3, .all 4]), (2, .seq tF y5.1), (3, .seq tF r8.1), (4, .seq tF r8.2)], 5⟩ hX (by kernel_rfl) allNil ?_
    have hr := of_some hr
    subst hr
    exact HT.ret ⟨[.agg [iC (wadd .i64 (1 : Int) y3.1), iC a1, .all 2, .all 3, .all 4]], [2, 3, 4], [], by kernel_rfl, by kernel_rfl, rfl, by kernel_rfl, by kernel_rfl, trivial⟩
  · refine HT.seq ?_
    refine HT.rg2 (oHs 4) ⟨[(1, iV a1), (4, pV 0 0), (5, .one (.elp 1 0 3 0)), (6, pV 2 0), (8, iV s7.1), (25, bV (decide (s7.1 < (wadd .i64 (1 : Int) y3.1))))], [(0, .box [iC (0 : Int), iC (0 : Int), .nilS, .nilS, .nilS]), (1, .seq (.st (.pair (.sl (.int .u8)) (.pair tI (.int .u64)))) ([s7.2.1])), (2, .box [iC (wadd .i64 (1 : Int) y3.1), iC a1, .all 3, .all 4, .all 5]), (3, .seq tF y5.1), (4, .seq tF s7.2.2.1), (5, .seq tF s7.2.2.2)], 6⟩ hX (by kernel_rfl) allNil ?_
    rcases of_bif hx11 with ⟨hb13, hx11⟩ | ⟨hb13, hx11⟩
    · refine HT.cond1 rfl hb13 ?_
      refine HT.skip (qThen ?_)
      refine HT.seq ?_
      refine HT.block ?_
      obtain ⟨y14, hc15, hx11⟩ := of_bind hx11
      obtain ⟨hg16, hx11⟩ := of_guard hx11
      refine HT.dr2 6 [⟨oH, []⟩, ⟨oH, [0]⟩, ⟨oH, []⟩, ⟨oH, []⟩, ⟨oH, [3]⟩, ⟨⟨none, .call [.own (.bx (.st (.pair (.sl (.int .u8)) (.pair tI (.int .u64))))), .imm tI] [⟨true, tLF, y14.1⟩] [⟨(.bx (.st (.pair (.sl (.int .u8)) (.pair tI (.int .u64))))), [y14.2]⟩]⟩, [2, 3, 4]⟩] [[0, 1, 2, 3, 4, 5], [0, 1, 2, 3, 4, 5, 6], [0, 1, 2, 3, 4, 5, 6, 7]] [⟨none, .ty tF⟩, oH, oH] ⟨[(1, iV a1), (4, pV 0 0), (5, .one (.elp 1 0 3 0)), (6, pV 2 0), (8, iV s7.1)], [(2, .box [iC (wadd .i64 (1 : Int) y3.1), iC a1, .all 3, .all 7, .all 5]), (7, .seq tF (s7.2.2.1 ++ y14.1)), (1, .seq (.st (.pair (.sl (.int .u8)) (.pair tI (.int .u64)))) ([y14.2])), (0, .box [iC (0 : Int), iC (0 : Int), .nilS, .nilS, .nilS]), (3, .seq tF y5.1), (5, .seq tF s7.2.2.2)], 8⟩ hX (by kernel_rfl) (by kernel_rfl) (allCons (f143_ok hc15) (allCons hg16 allNil)) ?_
      obtain ⟨y17, hc18, hx11⟩ := of_bind hx11
      obtain ⟨hg19, hx11⟩ := of_guard hx11
      refine HT.drL 5 [⟨oH, []⟩, ⟨oH, [0]⟩, ⟨oH, []⟩, ⟨oH, []⟩, ⟨⟨none, .call [.own (.bx (.st (.pair (.sl (.int .u8)) (.pair tI (.int .u64))))), .imm tI] [⟨true, tLF, y17.1⟩] [⟨(.bx (.st (.pair (.sl (.int .u8)) (.pair tI (.int .u64))))), [y17.2]⟩]⟩, [2, 3]⟩] [[0, 1, 2, 3, 4], [0, 1, 2, 3, 4, 5], [0, 1, 2, 3, 4, 5, 6]] [⟨none, .ty tF⟩, oH, oH] ⟨[(1, iV a1), (4, pV 0 0), (5, .one (.elp 1 0 3 0)), (6, pV 2 0), (8, iV s7.1)], [(2, .box [iC (wadd .i64 (1 : Int) y3.1), iC a1, .all 3, .all 7, .all 9]), (9, .seq tF (s7.2.2.2 ++ y17.1)), (1, .seq (.st (.pair (.sl (.int .u8)) (.pair tI (.int .u64)))) ([y17.2])), (7, .seq tF (s7.2.2.1 ++ y14.1)), (0, .box [iC (0 : Int), iC (0 : Int), .nilS, .nilS, .nilS]), (3, .seq tF y5.1)], 10⟩ hX (by kernel_rfl) (by kernel_rfl) (allCons (f143_ok hc18) (allCons hg19 allNil)) (qBlock (qThen ?_))
      have hx11 := of_some hx11
      subst hx11
      exact HT.rgK (oHs 3) [(0, 0), (1, 1), (2, 2), (3, 3), (7, 4), (9, 5)] [] hX (by kernel_rfl) allNil (fun _ h => (qLoopN ⟨((wadd .i64 s7.1 (1 : Int)), y17.2, (s7.2.2.1 ++ y14.1), (s7.2.2.2 ++ y17.1)), rfl, h⟩))
    · refine HT.cond0 rfl hb13 ?_
      have hx11 := of_some hx11
      subst hx11
      exact HT.exitL (Le.re [(0, 0), (2, 1), (3, 2), (4, 3), (5, 4)] [] hX (by kernel_rfl)) (qThenE (qLoopE (hk12 (s7.2.2.1, s7.2.2.2) rfl)))

noncomputable def spec_l07DrawWord_B1 (a1 : Int) (s1 : Int × (List Int × Int × Int) × List Int) : Option ((Int × (List Int × Int × Int) × List Int) ⊕ (((List Int × Int × Int) × List Int))) :=
  bif (decide (s1.1 > (0 : Int))) then
    (spec_l00Src_pick s1.2.1 a1).bind fun y8 =>
    guardP (List.length s1.2.2 + List.length ([y8.1] : List Int) ≤ appMax) (
      some (.inl ((wsub .i64 s1.1 (1 : Int)), y8.2, (s1.2.2 ++ ([y8.1] : List Int)))))
  else
    some (.inr (s1.2.1, s1.2.2))

noncomputable def spec_l07DrawWord (a0 : List Int × Int × Int) (a1 : Int) (a2 : Int) : Option (List Int × (List Int × Int × Int)) :=
  (rounds (spec_l07DrawWord_B1 a1) (a2, a0, ([] : List Int))).bind fun r3 =>
  some (r3.2, r3.1)

theorem f115_ok {a0 : List Int × Int × Int} {a1 : Int} {a2 : Int} {r : List Int × (List Int × Int × Int)} (hr : spec_l07DrawWord a0 a1 a2 = some r) : CallOK Try.prog 115 [.own (.bx (.st (.pair (.sl (.int .u8)) (.pair tI (.int .u64))))) [a0], .imm tI a1, .imm tI a2] [⟨true, tLI, r.1⟩] [⟨(.bx (.st (.pair (.sl (.int .u8)) (.pair tI (.int .u64))))), [r.2]⟩] := by
  unfold spec_l07DrawWord at hr
  refine CallOK.of_body (ts := [(true, tLI)]) Try.func115 rfl (by kernel_rfl) (Nat.le_of_ble_eq_true (by kernel_rfl)) fun cx hP hN hO hF => ?_
  have hO : cx.own.map Prod.fst = [0] := hO
  have hX := CxIs.mk hP hN hO
  have hF := hF rfl
  show HT cx ⟨[(0, .one (.elp 0 0 3 0)), (1, iV a1), (2, iV a2)], [(0, .seq (.st (.pair (.sl (.int .u8)) (.pair tI (.int .u64)))) ([a0]))], 1⟩ _ _
  refine HT.rg2 [oH] ⟨[(0, .one (.elp 0 0 3 0)), (1, iV a1), (2, iV a2)], [(0, .seq (.st (.pair (.sl (.int .u8)) (.pair tI (.int .u64)))) ([a0]))], 1⟩ hX (by kernel_rfl) allNil ?_
  refine HT.rg2 (oHs 2) ⟨[(0, .one (.elp 0 0 3 0)), (1, iV a1), (2, iV a2), (7, .one (.nilS))], [(0, .seq (.st (.pair (.sl (.int .u8)) (.pair tI (.int .u64)))) ([a0]))], 1⟩ hX (by kernel_rfl) allNil ?_
  refine HT.seq ?_
  refine HT.block ?_
  obtain ⟨r2, hL11, hr⟩ := of_bind hr
  refine HT.loopL (fun (s1 : Int × (List Int × Int × Int) × List Int) => ⟨[(0, .one (.elp 0 0 3 0)), (1, iV a1), (2, iV s1.1), (7, aV 1)], [(0, .seq (.st (.pair (.sl (.int .u8)) (.pair tI (.int .u64)))) ([s1.2.1])), (1, .seq tI s1.2.2)], 2⟩) (fun (r3 : ((List Int × Int × Int) × List Int)) => (.exit 0, ⟨[(7, aV 1)], [(0, .seq (.st (.pair (.sl (.int .u8)) (.pair tI (.int .u64)))) ([r3.1])), (1, .seq tI r3.2)], 2⟩)) (Le.re [(0, 0)] [1] hX (by kernel_rfl)) hL11 ?_ (fun s1 x4 hx5 hk6 => ?_)
  · refine (qBlockX (qThen ?_))
    refine HT.rg2 (oHs 2) ⟨[(6, aV 1)], [(0, .seq (.st (.pair (.sl (.int .u8)) (.pair tI (.int .u64)))) ([r2.1])), (1, .seq tI r2.2)], 2⟩ hX (by kernel_rfl) allNil ?_
    have hr := of_some hr
    subst hr
    exact HT.ret ⟨[aV 1], [1], [List.length ([r2.1]) = List.length [a0]], by kernel_rfl, by kernel_rfl, rfl, by kernel_rfl, by kernel_rfl, ⟨(show List.length ([r2.1]) = List.length [a0] from rfl), trivial⟩⟩
  · refine HT.seq ?_
    refine HT.rg2 (oHs 2) ⟨[(0, .one (.elp 0 0 3 0)), (1, iV a1), (2, iV s1.1), (7, aV 1), (10, bV (decide (s1.1 > (0 : Int))))], [(0, .seq (.st (.pair (.sl (.int .u8)) (.pair tI (.int .u64)))) ([s1.2.1])), (1, .seq tI s1.2.2)], 2⟩ hX (by kernel_rfl) allNil ?_
    rcases of_bif hx5 with ⟨hb7, hx5⟩ | ⟨hb7, hx5⟩
    · refine HT.cond1 rfl hb7 ?_
      refine HT.skip (qThen ?_)
      refine HT.seq ?_
      refine HT.block ?_
      obtain ⟨y8, hc9, hx5⟩ := of_bind hx5
      obtain ⟨hg10, hx5⟩ := of_guard hx5
      refine HT.rgL [oH, oH, oH, ⟨none, .call [.own (.bx (.st (.pair (.sl (.int .u8)) (.pair tI (.int .u64))))), .imm tI] [⟨false, tI, y8.1⟩] [⟨(.bx (.st (.pair (.sl (.int .u8)) (.pair tI (.int .u64))))), [y8.2]⟩]⟩, ⟨none, .ty tI⟩, ⟨none, .ty tI⟩, oH] ⟨[(0, .one (.elp 0 0 3 0)), (1, iV a1), (2, iV s1.1), (7, aV 3)], [(3, .seq tI (s1.2.2 ++ ([y8.1] : List Int))), (0, .seq (.st (.pair (.sl (.int .u8)) (.pair tI (.int .u64)))) ([y8.2]))], 4⟩ hX (by kernel_rfl) (allCons (f94_ok hc9) (allCons hg10 allNil)) (qBlock (qThen ?_))
      have hx5 := of_some hx5
      subst hx5
      exact HT.rgK (oHs 3) [(0, 0), (3, 1)] [] hX (by kernel_rfl) allNil (fun _ h => (qLoopN ⟨((wsub .i64 s1.1 (1 : Int)), y8.2, (s1.2.2 ++ ([y8.1] : List Int))), rfl, h⟩))
    · refine HT.cond0 rfl hb7 ?_
      have hx5 := of_some hx5
      subst hx5
      exact HT.exitL (Le.re [(0, 0), (1, 1)] [] hX (by kernel_rfl)) (qThenE (qLoopE (hk6 (s1.2.1, s1.2.2) rfl)))

noncomputable def spec_B10Word (a0 : List Int) (a1 : Int) (a2 : Int) : Option (List Int) :=
  (spec_l00From a0).bind fun y1 =>
  (spec_l07DrawWord y1 a1 a2).bind fun y3 =>
  some y3.1

theorem f34_ok {a0 : List Int} {a1 : Int} {a2 : Int} {r : List Int} (hr : spec_B10Word a0 a1 a2 = some r) : CallOK Try.prog 34 [.imm (.sl (.int .u8)) a0, .imm tI a1, .imm tI a2] [⟨true, tLI, r⟩] [] := by
  unfold spec_B10Word at hr
  refine CallOK.of_body (ts := [(true, tLI)]) Try.func34 rfl (by kernel_rfl) (Nat.le_of_ble_eq_true (by kernel_rfl)) fun cx hP hN hO hF => ?_
  have hO : cx.own.map Prod.fst = [] := hO
  have hX := CxIs.mk hP hN hO
  have hF := hF rfl
  show HT cx ⟨[(0, .one (.dat (.sl (.int .u8)) a0)), (1, iV a1), (2, iV a2)], [], 0⟩ _ _
  refine HT.rg2 [oH] ⟨[(0, .one (.dat (.sl (.int .u8)) a0)), (1, iV a1), (2, iV a2)], [], 0⟩ hX (by kernel_rfl) allNil ?_
  obtain ⟨y1, hc2, hr⟩ := of_bind hr
  refine HT.rg2 [oH, ⟨none, .call [.imm (.sl (.int .u8))] [⟨true, (.bx (.st (.pair (.sl (.int .u8)) (.pair tI (.int .u64))))), [y1]⟩] []⟩, oH] ⟨[(1, iV a1), (2, iV a2), (7, .one (.elp 0 0 3 0))], [(0, .seq (.st (.pair (.sl (.int .u8)) (.pair tI (.int .u64)))) ([y1]))], 1⟩ hX (by kernel_rfl) (allCons (f93_ok hc2) allNil) ?_
  obtain ⟨y3, hc4, hr⟩ := of_bind hr
  refine HT.rg2 [oH, oH, oH, ⟨none, .call [.own (.bx (.st (.pair (.sl (.int .u8)) (.pair tI (.int .u64))))), .imm tI, .imm tI] [⟨true, tLI, y3.1⟩] [⟨(.bx (.st (.pair (.sl (.int .u8)) (.pair tI (.int .u64))))), [y3.2]⟩]⟩, oH] ⟨[(6, aV 1)], [(1, .seq tI y3.1)], 2⟩ hX (by kernel_rfl) (allCons (f115_ok hc4) allNil) ?_
  have hr := of_some hr
  subst hr
  exact HT.ret ⟨[aV 1], [1], [], by kernel_rfl, by kernel_rfl, rfl, by kernel_rfl, by kernel_rfl, trivial⟩

theorem f149_ok {xs y : List Nat} (h : slices_Clone xs = some y) : CallOK Try.prog 149 [.imm tLF xs] [⟨true, tLF, y⟩] [] := by
  obtain ⟨hg, h⟩ := of_guard h
  have h := of_some h
  subst h
  refine CallOK.of_body (ts := [(true, tLF)]) Try.func149 rfl (by kernel_rfl) (Nat.le_of_ble_eq_true (by kernel_rfl)) fun cx hP hN hO hF => ?_
  show HT cx ⟨[(0, .one (.dat tLF xs))], [], 0⟩ _ _
  refine HT.reg1 [0] [⟨none, .no⟩] ⟨[(0, .one (.dat tLF xs))], [], 0⟩ hP hN (by kernel_rfl) allNil ?_
  refine HT.seq ?_
  refine HT.isNil (t3 := 3) (t4 := 4) (v := .one (.dat tLF xs)) (t := tF) (xs := xs) (st1 := ⟨[(3, .one (.dat tLF xs)), (0, .one (.dat tLF xs))], [], 0⟩) hP hN (by kernel_rfl) rfl rfl rfl rfl (e := 90) (by kernel_rfl) rfl rfl (fun b hb => ?_)
  show HT cx ⟨[(4, .one (.dat .bool b)), (3, .one (.dat tLF xs)), (0, .one (.dat tLF xs))], [], 0⟩ _ _
  cases b with
  | true =>
    have e := hb rfl
    subst e
    refine HT.cond1 rfl rfl ?_
    refine HT.reg1 [2] [⟨none, .no⟩] ⟨[(2, .one .nilS)], [], 0⟩ hP hN (by kernel_rfl) allNil ?_
    exact HT.ret (qThenR ⟨[.one .nilS], [], [], by kernel_rfl, by kernel_rfl, rfl, by kernel_rfl, by kernel_rfl, trivial⟩)
  | false =>
    refine HT.cond0 rfl rfl ?_
    refine HT.skip (qThen ?_)
    refine HT.reg1 [2] [⟨none, .no⟩, ⟨none, .no⟩, ⟨none, .ty tF⟩, ⟨none, .no⟩] ⟨[(2, .one (.all 0))], [(0, .seq tF xs)], 1⟩ hP hN (by kernel_rfl) (allCons hg allNil) ?_
    exact HT.ret ⟨[.one (.all 0)], [0], [], by kernel_rfl, by kernel_rfl, rfl, by kernel_rfl, by kernel_rfl, trivial⟩

noncomputable def impl_Model_show (a0 : Int × Int × List Nat × List Nat × List Nat) (a1 : Int) (a2 : Int) : Option (Nat) :=
  guardP ((0 : Int) ≤ (wadd .i64 (wmul .i64 a1 a0.2.1) a2) ∧ (wadd .i64 (wmul .i64 a1 a0.2.1) a2) < lenI a0.2.2.2.2) (
    some (List.getD a0.2.2.2.2 (Int.toNat (wadd .i64 (wmul .i64 a1 a0.2.1) a2)) (0 : Nat)))

theorem f150_ok {a0 : Int × Int × List Nat × List Nat × List Nat} {a1 : Int} {a2 : Int} {r : Nat} (hr : impl_Model_show a0 a1 a2 = some r) : CallOK Try.prog 150 [.imm (.st (.pair tI (.pair tI (.pair tLF (.pair tLF tLF))))) a0, .imm tI a1, .imm tI a2] [⟨false, tF, r⟩] [] := by
  unfold impl_Model_show at hr
  refine CallOK.of_body (ts := [(false, tF)]) Try.func150 rfl (by kernel_rfl) (Nat.le_of_ble_eq_true (by kernel_rfl)) fun cx hP hN hO hF => ?_
  have hO : cx.own.map Prod.fst = [] := hO
  have hX := CxIs.mk hP hN hO
  have hF := hF rfl
  show HT cx ⟨[(0, .agg [iC a0.1, iC a0.2.1, lC a0.2.2.1, lC a0.2.2.2.1, lC a0.2.2.2.2]), (1, iV a1), (2, iV a2)], [], 0⟩ _ _
  refine HT.rg2 (oHs 2) ⟨[(1, iV a1), (2, iV a2), (3, pV 0 0)], [(0, .box [iC a0.1, iC a0.2.1, lC a0.2.2.1, lC a0.2.2.2.1, lC a0.2.2.2.2])], 1⟩ hX (by kernel_rfl) allNil ?_
  obtain ⟨hg1, hr⟩ := of_guard hr
  refine HT.rg2 (oHs 11) ⟨[(6, fV (List.getD a0.2.2.2.2 (Int.toNat (wadd .i64 (wmul .i64 a1 a0.2.1) a2)) (0 : Nat)))], [], 1⟩ hX (by kernel_rfl) (allCons hg1 allNil) ?_
  have hr := of_some hr
  subst hr
  exact HT.ret ⟨[fV (List.getD a0.2.2.2.2 (Int.toNat (wadd .i64 (wmul .i64 a1 a0.2.1) a2)) (0 : Nat))], [], [], by kernel_rfl, by kernel_rfl, rfl, by kernel_rfl, by kernel_rfl, trivial⟩

noncomputable def impl_Model_step (a0 : Int × Int × List Nat × List Nat × List Nat) (a1 : Int) (a2 : Int) : Option (Nat) :=
  guardP ((0 : Int) ≤ (wadd .i64 (wmul .i64 a1 a0.1) a2) ∧ (wadd .i64 (wmul .i64 a1 a0.1) a2) < lenI a0.2.2.2.1) (
    some (List.getD a0.2.2.2.1 (Int.toNat (wadd .i64 (wmul .i64 a1 a0.1) a2)) (0 : Nat)))

theorem f151_ok {a0 : Int × Int × List Nat × List Nat × List Nat} {a1 : Int} {a2 : Int} {r : Nat} (hr : impl_Model_step a0 a1 a2 = some r) : CallOK Try.prog 151 [.imm (.st (.pair tI (.pair tI (.pair tLF (.pair tLF tLF))))) a0, .imm tI a1, .imm tI a2] [⟨false, tF, r⟩] [] := by
  unfold impl_Model_step at hr
  refine CallOK.of_body (ts := [(false, tF)]) Try.func151 rfl (by kernel_rfl) (Nat.le_of_ble_eq_true (by kernel_rfl)) fun cx hP hN hO hF => ?_
  have hO : cx.own.map Prod.fst = [] := hO
  have hX := CxIs.mk hP hN hO
  have hF := hF rfl
  show HT cx ⟨[(0, .agg [iC a0.1, iC a0.2.1, lC a0.2.2.1, lC a0.2.2.2.1, lC a0.2.2.2.2]), (1, iV a1), (2, iV a2)], [], 0⟩ _ _
  refine HT.rg2 (oHs 2) ⟨[(1, iV a1), (2, iV a2), (3, pV 0 0)], [(0, .box [iC a0.1, iC a0.2.1, lC a0.2.2.1, lC a0.2.2.2.1, lC a0.2.2.2.2])], 1⟩ hX (by kernel_rfl) allNil ?_
  obtain ⟨hg1, hr⟩ := of_guard hr
  refine HT.rg2 (oHs 11) ⟨[(6, fV (List.getD a0.2.2.2.1 (Int.toNat (wadd .i64 (wmul .i64 a1 a0.1) a2)) (0 : Nat)))], [], 1⟩ hX (by kernel_rfl) (allCons hg1 allNil) ?_
  have hr := of_some hr
  subst hr
  exact HT.ret ⟨[fV (List.getD a0.2.2.2.1 (Int.toNat (wadd .i64 (wmul .i64 a1 a0.1) a2)) (0 : Nat))], [], [], by kernel_rfl, by kernel_rfl, rfl, by kernel_rfl, by kernel_rfl, trivial⟩

noncomputable def impl_Model_nextRow_B1 (a0 : Int × Int × List Nat × List Nat × List Nat) (a1 : List Nat) (a2 : Int) (s2 : Int × List Nat) (s9 : Int × List Nat) : Option ((Int × List Nat) ⊕ (List Nat)) :=
  bif (decide (s9.1 < a0.1)) then
    guardP ((0 : Int) ≤ s2.1 ∧ s2.1 < lenI s9.2) (
      guardP ((0 : Int) ≤ s9.1 ∧ s9.1 < lenI a1) (
        (impl_Model_show (a0.1, a0.2.1, a0.2.2.1, a0.2.2.2.1, a0.2.2.2.2) s9.1 a2).bind fun y18 =>
        (impl_Model_step (a0.1, a0.2.1, a0.2.2.1, a0.2.2.2.1, a0.2.2.2.2) s9.1 s2.1).bind fun y20 =>
        some (.inl ((wadd .i64 s9.1 (1 : Int)), (List.set s9.2 (Int.toNat s2.1) (fop .add .f32 (List.getD s9.2 (Int.toNat s2.1) (0 : Nat)) (fop .mul .f32 (fop .mul .f32 (List.getD a1 (Int.toNat s9.1) (0 : Nat)) y18) y20)))))))
  else
    some (.inr s9.2)

noncomputable def impl_Model_nextRow_B2 (a0 : Int × Int × List Nat × List Nat × List Nat) (a1 : List Nat) (a2 : Int) (s2 : Int × List Nat) : Option ((Int × List Nat) ⊕ (List Nat)) :=
  bif (decide (s2.1 < a0.1)) then
    (rounds (impl_Model_nextRow_B1 a0 a1 a2 s2) ((0 : Int), s2.2)).bind fun r11 =>
    some (.inl ((wadd .i64 s2.1 (1 : Int)), r11))
  else
    some (.inr s2.2)

noncomputable def impl_Model_nextRow (a0 : Int × Int × List Nat × List Nat × List Nat) (a1 : List Nat) (a2 : Int) : Option (List Nat) :=
  guardP ((0 : Int) ≤ a0.1 ∧ a0.1 ≤ 4294967296) (
    (rounds (impl_Model_nextRow_B2 a0 a1 a2) ((0 : Int), (List.replicate (Int.toNat a0.1) (0 : Nat)))).bind fun r4 =>
    some r4)

theorem f156_ok {a0 : Int × Int × List Nat × List Nat × List Nat} {a1 : List Nat} {a2 : Int} {r : List Nat} (hr : impl_Model_nextRow a0 a1 a2 = some r) : CallOK Try.prog 156 [.imm (.st (.pair tI (.pair tI (.pair tLF (.pair tLF tLF))))) a0, .imm tLF a1, .imm tI a2] [⟨true, tLF, r⟩] [] := by
  unfold impl_Model_nextRow at hr
  refine CallOK.of_body (ts := [(true, tLF)]) Try.func156 rfl (by kernel_rfl) (Nat.le_of_ble_eq_true (by kernel_rfl)) fun cx hP hN hO hF => ?_
  have hO : cx.own.map Prod.fst = [] := hO
  have hX := CxIs.mk hP hN hO
  have hF := hF rfl
  show HT cx ⟨[(0, .agg [iC a0.1, iC a0.2.1, lC a0.2.2.1, lC a0.2.2.2.1, lC a0.2.2.2.2]), (1, lV a1), (2, iV a2)], [], 0⟩ _ _
  refine HT.rg2 (oHs 2) ⟨[(1, lV a1), (2, iV a2), (3, pV 0 0)], [(0, .box [iC a0.1, iC a0.2.1, lC a0.2.2.1, lC a0.2.2.2.1, lC a0.2.2.2.2])], 1⟩ hX (by kernel_rfl) allNil ?_
  obtain ⟨hg1, hr⟩ := of_guard hr
  refine HT.rg2 [oH, oH, ⟨none, .ty tF⟩, oH] ⟨[(1, lV a1), (2, iV a2), (3, pV 0 0), (7, aV 1)], [(1, .seq tF (List.replicate (Int.toNat a0.1) (0 : Nat))), (0, .box [iC a0.1, iC a0.2.1, lC a0.2.2.1, lC a0.2.2.2.1, lC a0.2.2.2.2])], 2⟩ hX (by kernel_rfl) (allCons (show (0 : Int) ≤ a0.1 ∧ a0.1 ≤ a0.1 ∧ a0.1 ≤ 4294967296 from ⟨hg1.1, Int.le_refl _, hg1.2⟩) allNil) ?_
  refine HT.seq ?_
  refine HT.rg2 (oHs 3) ⟨[(1, lV a1), (2, iV a2), (3, pV 0 0), (7, aV 1), (14, iV a0.1), (15, iV (0 : Int))], [(1, .seq tF (List.replicate (Int.toNat a0.1) (0 : Nat))), (0, .box [iC a0.1, iC a0.2.1, lC a0.2.2.1, lC a0.2.2.2.1, lC a0.2.2.2.2])], 2⟩ hX (by kernel_rfl) allNil ?_
  refine HT.block ?_
  obtain ⟨r3, hL23, hr⟩ := of_bind hr
  refine HT.loopL (fun (s2 : Int × List Nat) => ⟨[(1, lV a1), (2, iV a2), (3, pV 0 0), (7, aV 1), (14, iV a0.1), (15, iV s2.1)], [(0, .box [iC a0.1, iC a0.2.1, lC a0.2.2.1, lC a0.2.2.2.1, lC a0.2.2.2.2]), (1, .seq tF s2.2)], 2⟩) (fun (r4 : List Nat) => (.exit 0, ⟨[(7, aV 0)], [(0, .seq tF r4)], 1⟩)) (Le.re [(0, 0), (1, 1)] [] hX (by kernel_rfl)) hL23 ?_ (fun s2 x5 hx6 hk7 => ?_)
  · refine (qBlockX (qThen ?_))
    refine HT.rg2 (oHs 2) ⟨[(6, aV 0)], [(0, .seq tF r3)], 1⟩ hX (by kernel_rfl) allNil ?_
    have hr := of_some hr
    subst hr
    exact HT.ret ⟨[aV 0], [0], [], by kernel_rfl, by kernel_rfl, rfl, by kernel_rfl, by kernel_rfl, trivial⟩
  · refine HT.rg2 [oH] ⟨[(1, lV a1), (2, iV a2), (3, pV 0 0), (7, aV 1), (14, iV a0.1), (15, iV s2.1), (16, bV (decide (s2.1 < a0.1)))], [(0, .box [iC a0.1, iC a0.2.1, lC a0.2.2.1, lC a0.2.2.2.1, lC a0.2.2.2.2]), (1, .seq tF s2.2)], 2⟩ hX (by kernel_rfl) allNil ?_
    refine HT.seq ?_
    rcases of_bif hx6 with ⟨hb8, hx6⟩ | ⟨hb8, hx6⟩
    · refine HT.cond1 rfl hb8 ?_
      refine HT.skip (qThen ?_)
      refine HT.seq ?_
      refine HT.block ?_
      refine HT.rg2 (oHs 2) ⟨[(1, lV a1), (2, iV a2), (3, pV 0 0), (7, aV 1), (8, iV s2.1), (14, iV a0.1), (15, iV s2.1)], [(0, .box [iC a0.1, iC a0.2.1, lC a0.2.2.1, lC a0.2.2.2.1, lC a0.2.2.2.2]), (1, .seq tF s2.2)], 2⟩ hX (by kernel_rfl) allNil ?_
      refine HT.rg2 (oHs 3) ⟨[(1, lV a1), (2, iV a2), (3, pV 0 0), (7, aV 1), (8, iV s2.1), (14, iV a0.1), (15, iV s2.1), (19, iV a0.1), (20, iV (0 : Int))], [(0, .box [iC a0.1, iC a0.2.1, lC a0.2.2.1, lC a0.2.2.2.1, lC a0.2.2.2.2]), (1, .seq tF s2.2)], 2⟩ hX (by kernel_rfl) allNil ?_
      refine HT.block ?_
      obtain ⟨r10, hL22, hx6⟩ := of_bind hx6
      refine HT.loopL (fun (s9 : Int × List Nat) => ⟨[(1, lV a1), (2, iV a2), (3, pV 0 0), (7, aV 1), (8, iV s2.1), (14, iV a0.1), (15, iV s2.1), (19, iV a0.1), (20, iV s9.1)], [(0, .box [iC a0.1, iC a0.2.1, lC a0.2.2.1, lC a0.2.2.2.1, lC a0.2.2.2.2]), (1, .seq tF s9.2)], 2⟩) (fun (r11 : List Nat) => (.exit 2, ⟨[(1, lV a1), (2, iV a2), (3, pV 0 0), (7, aV 1), (14, iV a0.1), (15, iV s2.1)], [(0, .box [iC a0.1, iC a0.2.1, lC a0.2.2.1, lC a0.2.2.2.1, lC a0.2.2.2.2]), (1, .seq tF r11)], 2⟩)) (Le.re [(0, 0), (1, 1)] [] hX (by kernel_rfl)) hL22 ?_ (fun s9 x12 hx13 hk14 => ?_)
      · refine (qBlockX (qBlock (qThen ?_)))
        have hx6 := of_some hx6
        subst hx6
        exact HT.rgK (oHs 2) [(0, 0), (1, 1)] [] hX (by kernel_rfl) allNil (fun _ h => (qLoopN ⟨((wadd .i64 s2.1 (1 : Int)), r10), rfl, h⟩))
      · refine HT.rg2 [oH] ⟨[(1, lV a1), (2, iV a2), (3, pV 0 0), (7, aV 1), (8, iV s2.1), (14, iV a0.1), (15, iV s2.1), (19, iV a0.1), (20, iV s9.1), (21, bV (decide (s9.1 < a0.1)))], [(0, .box [iC a0.1, iC a0.2.1, lC a0.2.2.1, lC a0.2.2.2.1, lC a0.2.2.2.2]), (1, .seq tF s9.2)], 2⟩ hX (by kernel_rfl) allNil ?_
        refine HT.seq ?_
        rcases of_bif hx13 with ⟨hb15, hx13⟩ | ⟨hb15, hx13⟩
        · refine HT.cond1 rfl hb15 ?_
          refine HT.skip (qThen ?_)
          refine HT.seq ?_
          refine HT.block ?_
          refine HT.rg2 (oHs 2) ⟨[(1, lV a1), (2, iV a2), (3, pV 0 0), (7, aV 1), (8, iV s2.1), (9, iV s9.1), (14, iV a0.1), (15, iV s2.1), (19, iV a0.1), (20, iV s9.1)], [(0, .box [iC a0.1, iC a0.2.1, lC a0.2.2.1, lC a0.2.2.2.1, lC a0.2.2.2.2]), (1, .seq tF s9.2)], 2⟩ hX (by kernel_rfl) allNil ?_
          obtain ⟨hg16, hx13⟩ := of_guard hx13
          obtain ⟨hg17, hx13⟩ := of_guard hx13
          obtain ⟨y18, hc19, hx13⟩ := of_bind hx13
          obtain ⟨y20, hc21, hx13⟩ := of_bind hx13
          refine HT.drL 21 [⟨oH, []⟩, ⟨oH, []⟩, ⟨oH, []⟩, ⟨oH, []⟩, ⟨oH, [2, 3]⟩, ⟨oH, [2, 3, 4]⟩, ⟨oH, []⟩, ⟨oH, []⟩, ⟨oH, [6, 7]⟩, ⟨oH, [6, 7, 8]⟩, ⟨oH, []⟩, ⟨oH, []⟩, ⟨oH, []⟩, ⟨⟨none, .call [.imm (.st (.pair tI (.pair tI (.pair tLF (.pair tLF tLF))))), .imm tI, .imm tI] [⟨false, tF, y18⟩] []⟩, [10, 11, 12]⟩, ⟨oH, [6, 7, 8, 9, 10, 11, 12, 13]⟩, ⟨oH, []⟩, ⟨oH, []⟩, ⟨oH, []⟩, ⟨⟨none, .call [.imm (.st (.pair tI (.pair tI (.pair tLF (.pair tLF tLF))))), .imm tI, .imm tI] [⟨false, tF, y20⟩] []⟩, [10, 11, 12, 13, 15, 16, 17]⟩, ⟨oH, [6, 7, 8, 9, 10, 11, 12, 13, 14, 15, 16, 17, 18]⟩, ⟨oH, [2, 3, 4, 5, 6, 7, 8, 9, 10, 11, 12, 13, 14, 15, 16, 17, 18, 19]⟩] [[0, 1, 2, 3, 4, 5, 6, 7, 8, 9, 10, 11, 12, 13, 14, 15, 16, 17, 18, 19, 20], [0, 1, 2, 3, 4, 5, 6, 7, 8, 9, 10, 11, 12, 13, 14, 15, 16, 17, 18, 19, 20, 21]] (oHs 2) ⟨[(1, lV a1), (2, iV a2), (3, pV 0 0), (7, aV 1), (8, iV s2.1), (14, iV a0.1), (15, iV s2.1), (19, iV a0.1), (20, iV s9.1)], [(1, .seq tF (List.set s9.2 (Int.toNat s2.1) (fop .add .f32 (List.getD s9.2 (Int.toNat s2.1) (0 : Nat)) (fop .mul .f32 (fop .mul .f32 (List.getD a1 (Int.toNat s9.1) (0 : Nat)) y18) y20)))), (0, .box [iC a0.1, iC a0.2.1, lC a0.2.2.1, lC a0.2.2.2.1, lC a0.2.2.2.2])], 2⟩ hX (by kernel_rfl) (by kernel_rfl) (allCons hg16 (allCons (natLt hg16) (allCons hg17 (allCons (f150_ok hc19) (allCons (f151_ok hc21) (allCons hg16 (allCons (natLt hg16) allNil))))))) (qBlock (qThen ?_))
          have hx13 := of_some hx13
          subst hx13
          exact HT.rgK (oHs 2) [(0, 0), (1, 1)] [] hX (by kernel_rfl) allNil (fun _ h => (qLoopN ⟨((wadd .i64 s9.1 (1 : Int)), (List.set s9.2 (Int.toNat s2.1) (fop .add .f32 (List.getD s9.2 (Int.toNat s2.1) (0 : Nat)) (fop .mul .f32 (fop .mul .f32 (List.getD a1 (Int.toNat s9.1) (0 : Nat)) y18) y20)))), rfl, h⟩))
        · refine HT.cond0 rfl hb15 ?_
          have hx13 := of_some hx13
          subst hx13
          exact HT.exitL (Le.re [(0, 0), (1, 1)] [] hX (by kernel_rfl)) (qThenE (qLoopE (hk14 s9.2 rfl)))
    · refine HT.cond0 rfl hb8 ?_
      have hx6 := of_some hx6
      subst hx6
      exact HT.exitL (Le.re [(1, 0)] [] hX (by kernel_rfl)) (qThenE (qLoopE (hk7 s2.2 rfl)))

noncomputable def impl_Model_forward_B1 (a0 : Int × Int × List Nat × List Nat × List Nat) (a1 : List Int) (s3 : Int × List (List Nat)) : Option ((Int × List (List Nat)) ⊕ (List (List Nat))) :=
  bif (decide (s3.1 < (lenI a1))) then
    guardP ((0 : Int) ≤ s3.1 ∧ s3.1 < lenI a1) (
      guardP ((0 : Int) ≤ s3.1 ∧ s3.1 < lenI s3.2) (
        (impl_Model_nextRow (a0.1, a0.2.1, a0.2.2.1, a0.2.2.2.1, a0.2.2.2.2) (List.getD s3.2 (Int.toNat s3.1) ([] : List Nat)) (List.getD a1 (Int.toNat s3.1) (0 : Int))).bind fun y12 =>
        guardP (List.length s3.2 + List.length ([y12] : List (List Nat)) ≤ appMax) (
          some (.inl ((wadd .i64 s3.1 (1 : Int)), (s3.2 ++ ([y12] : List (List Nat))))))))
  else
    some (.inr s3.2)

noncomputable def impl_Model_forward (a0 : Int × Int × List Nat × List Nat × List Nat) (a1 : List Int) : Option (List (List Nat)) :=
  (slices_Clone a0.2.2.1).bind fun y1 =>
  (rounds (impl_Model_forward_B1 a0 a1) ((0 : Int), ([y1] : List (List Nat)))).bind fun r5 =>
  some r5

theorem f146_ok {a0 : Int × Int × List Nat × List Nat × List Nat} {a1 : List Int} {r : List (List Nat)} (hr : impl_Model_forward a0 a1 = some r) : CallOK Try.prog 146 [.imm (.st (.pair tI (.pair tI (.pair tLF (.pair tLF tLF))))) a0, .imm tLI a1] [⟨false, (.sl tLF), r⟩] [] := by
  unfold impl_Model_forward at hr
  refine CallOK.of_body (ts := [(false, (.sl tLF))]) Try.func146 rfl (by kernel_rfl) (Nat.le_of_ble_eq_true (by kernel_rfl)) fun cx hP hN hO hF => ?_
  have hO : cx.own.map Prod.fst = [] := hO
  have hX := CxIs.mk hP hN hO
  have hF := hF rfl
  show HT cx ⟨[(0, .agg [iC a0.1, iC a0.2.1, lC a0.2.2.1, lC a0.2.2.2.1, lC a0.2.2.2.2]), (1, nV a1)], [], 0⟩ _ _
  refine HT.rg2 (oHs 2) ⟨[(1, nV a1), (2, pV 0 0)], [(0, .box [iC a0.1, iC a0.2.1, lC a0.2.2.1, lC a0.2.2.2.1, lC a0.2.2.2.2])], 1⟩ hX (by kernel_rfl) allNil ?_
  obtain ⟨y1, hc2, hr⟩ := of_bind hr
  refine HT.rg2 [oH, oH, ⟨none, .call [.imm tLF] [⟨false, tLF, y1⟩] []⟩, ⟨none, .ty tLF⟩, oH] ⟨[(1, nV a1), (2, pV 0 0), (5, aV 1)], [(1, .seq tLF ([y1] : List (List Nat))), (0, .box [iC a0.1, iC a0.2.1, lC a0.2.2.1, lC a0.2.2.2.1, lC a0.2.2.2.2])], 2⟩ hX (by kernel_rfl) (allCons (CallOK.frz [true] rfl (f149_ok hc2)) allNil) ?_
  refine HT.seq ?_
  refine HT.rg2 (oHs 3) ⟨[(2, pV 0 0), (5, aV 1), (12, nV a1), (13, iV (lenI a1)), (14, iV (0 : Int))], [(1, .seq tLF ([y1] : List (List Nat))), (0, .box [iC a0.1, iC a0.2.1, lC a0.2.2.1, lC a0.2.2.2.1, lC a0.2.2.2.2])], 2⟩ hX (by kernel_rfl) allNil ?_
  refine HT.block ?_
  obtain ⟨r4, hL15, hr⟩ := of_bind hr
  refine HT.loopL (fun (s3 : Int × List (List Nat)) => ⟨[(2, pV 0 0), (5, aV 1), (12, nV a1), (13, iV (lenI a1)), (14, iV s3.1)], [(0, .box [iC a0.1, iC a0.2.1, lC a0.2.2.1, lC a0.2.2.2.1, lC a0.2.2.2.2]), (1, .seq tLF s3.2)], 2⟩) (fun (r5 : List (List Nat)) => (.exit 0, ⟨[(5, aV 0)], [(0, .seq tLF r5)], 1⟩)) (Le.re [(0, 0), (1, 1)] [] hX (by kernel_rfl)) hL15 ?_ (fun s3 x6 hx7 hk8 => ?_)
  · refine (qBlockX (qThen ?_))
    refine HT.rg2 (oHs 2) ⟨[(4, aV 0)], [(0, .seq tLF r4)], 1⟩ hX (by kernel_rfl) allNil ?_
    have hr := of_some hr
    subst hr
    refine (Le.rz [] [] (st' := ⟨[(4, .one (.dat (.sl tLF) r4))], [], 1⟩) hX hF (by kernel_rfl)).ht ?_
    exact HT.ret ⟨[.one (.dat (.sl tLF) r4)], [], [], by kernel_rfl, by kernel_rfl, rfl, by kernel_rfl, by kernel_rfl, trivial⟩
  · refine HT.rg2 [oH] ⟨[(2, pV 0 0), (5, aV 1), (12, nV a1), (13, iV (lenI a1)), (14, iV s3.1), (15, bV (decide (s3.1 < (lenI a1))))], [(0, .box [iC a0.1, iC a0.2.1, lC a0.2.2.1, lC a0.2.2.2.1, lC a0.2.2.2.2]), (1, .seq tLF s3.2)], 2⟩ hX (by kernel_rfl) allNil ?_
    refine HT.seq ?_
    rcases of_bif hx7 with ⟨hb9, hx7⟩ | ⟨hb9, hx7⟩
    · refine HT.cond1 rfl hb9 ?_
      refine HT.skip (qThen ?_)
      refine HT.seq ?_
      refine HT.block ?_
      obtain ⟨hg10, hx7⟩ := of_guard hx7
      refine HT.rg2 (oHs 5) ⟨[(2, pV 0 0), (5, aV 1), (6, iV s3.1), (7, iV (List.getD a1 (Int.toNat s3.1) (0 : Int))), (12, nV a1), (13, iV (lenI a1)), (14, iV s3.1)], [(0, .box [iC a0.1, iC a0.2.1, lC a0.2.2.1, lC a0.2.2.2.1, lC a0.2.2.2.2]), (1, .seq tLF s3.2)], 2⟩ hX (by kernel_rfl) (allCons hg10 allNil) ?_
      obtain ⟨hg11, hx7⟩ := of_guard hx7
      obtain ⟨y12, hc13, hx7⟩ := of_bind hx7
      obtain ⟨hg14, hx7⟩ := of_guard hx7
      refine HT.drL 9 [⟨oH, []⟩, ⟨oH, []⟩, ⟨oH, []⟩, ⟨oH, []⟩, ⟨oH, [2, 3]⟩, ⟨oH, [2, 3, 4]⟩, ⟨oH, []⟩, ⟨⟨none, .call [.imm (.st (.pair tI (.pair tI (.pair tLF (.pair tLF tLF))))), .imm tLF, .imm tI] [⟨false, tLF, y12⟩] []⟩, [1, 2, 3, 4, 5, 6]⟩, ⟨⟨none, .ty tLF⟩, [1, 2, 3, 4, 5, 6, 7]⟩] [[0, 1, 2, 3, 4, 5, 6, 7, 8], [0, 1, 2, 3, 4, 5, 6, 7, 8, 9]] [⟨none, .ty tLF⟩, oH] ⟨[(2, pV 0 0), (5, aV 3), (12, nV a1), (13, iV (lenI a1)), (14, iV s3.1)], [(3, .seq tLF (s3.2 ++ ([y12] : List (List Nat)))), (0, .box [iC a0.1, iC a0.2.1, lC a0.2.2.1, lC a0.2.2.2.1, lC a0.2.2.2.2])], 4⟩ hX (by kernel_rfl) (by kernel_rfl) (allCons hg11 (allCons (natLt hg11) (allCons (CallOK.frz [true] rfl (f156_ok hc13)) (allCons hg14 allNil)))) (qBlock (qThen ?_))
      have hx7 := of_some hx7
      subst hx7
      exact HT.rgK (oHs 2) [(0, 0), (3, 1)] [] hX (by kernel_rfl) allNil (fun _ h => (qLoopN ⟨((wadd .i64 s3.1 (1 : Int)), (s3.2 ++ ([y12] : List (List Nat)))), rfl, h⟩))
    · refine HT.cond0 rfl hb9 ?_
      have hx7 := of_some hx7
      subst hx7
      exact HT.exitL (Le.re [(1, 0)] [] hX (by kernel_rfl)) (qThenE (qLoopE (hk8 s3.2 rfl)))

noncomputable def math_bits_Mul64 (a0 : Int) (a1 : Int) : Option (Int × Int) :=
  (some (IntKind.wrap .u64 (BitVec.ofInt (IntKind.bits .u64) a0 &&& BitVec.ofInt (IntKind.bits .u64) (4294967295 : Int)).toNat)).bind fun q1 =>
  (some (IntKind.wrap .u64 (BitVec.ofInt (IntKind.bits .u64) a1 &&& BitVec.ofInt (IntKind.bits .u64) (4294967295 : Int)).toNat)).bind fun q3 =>
  (some (wadd .u64 (wmul .u64 (Int.fdiv a0 (2 ^ (min (Int.toNat (32 : Int)) (IntKind.bits .u64)))) q3) (Int.fdiv (wmul .u64 q1 q3) (2 ^ (min (Int.toNat (32 : Int)) (IntKind.bits .u64)))))).bind fun q5 =>
  (some (IntKind.wrap .u64 (BitVec.ofInt (IntKind.bits .u64) q5 &&& BitVec.ofInt (IntKind.bits .u64) (4294967295 : Int)).toNat)).bind fun q7 =>
  (some (wadd .u64 q7 (wmul .u64 q1 (Int.fdiv a1 (2 ^ (min (Int.toNat (32 : Int)) (IntKind.bits .u64))))))).bind fun q9 =>
  (some (wadd .u64 (wadd .u64 (wmul .u64 (Int.fdiv a0 (2 ^ (min (Int.toNat (32 : Int)) (IntKind.bits .u64)))) (Int.fdiv a1 (2 ^ (min (Int.toNat (32 : Int)) (IntKind.bits .u64))))) (Int.fdiv q5 (2 ^ (min (Int.toNat (32 : Int)) (IntKind.bits .u64))))) (Int.fdiv q9 (2 ^ (min (Int.toNat (32 : Int)) (IntKind.bits .u64)))))).bind fun q11 =>
  some (q11, (wmul .u64 a0 a1))

theorem f240_ok {a0 : Int} {a1 : Int} {r : Int × Int} (hr : math_bits_Mul64 a0 a1 = some r) : CallOK Try.prog 240 [.imm (.int .u64) a0, .imm (.int .u64) a1] [⟨false, (.int .u64), r.1⟩, ⟨false, (.int .u64), r.2⟩] [] := by
  unfold math_bits_Mul64 at hr
  refine CallOK.of_body (ts := [(false, (.int .u64)), (false, (.int .u64))]) Try.func240 rfl (by kernel_rfl) (Nat.le_of_ble_eq_true (by kernel_rfl)) fun cx hP hN hO hF => ?_
  have hO : cx.own.map Prod.fst = [] := hO
  have hX := CxIs.mk hP hN hO
  have hF := hF rfl
  show HT cx ⟨[(0, .one (.dat (.int .u64) a0)), (1, .one (.dat (.int .u64) a1))], [], 0⟩ _ _
  refine HT.rg2 (oHs 2) ⟨[(0, .one (.dat (.int .u64) a0)), (1, .one (.dat (.int .u64) a1))], [], 0⟩ hX (by kernel_rfl) allNil ?_
  refine HT.rg2 (oHs 3) ⟨[(0, .one (.dat (.int .u64) a0)), (1, .one (.dat (.int .u64) a1)), (6, .one (.dat (.int .u64) (IntKind.wrap .u64 (BitVec.ofInt (IntKind.bits .u64) a0 &&& BitVec.ofInt (IntKind.bits .u64) (4294967295 : Int)).toNat)))], [], 0⟩ hX (by kernel_rfl) allNil ?_
  obtain ⟨q1, hq2, hr⟩ := of_bind hr
  have hq2 := of_some2 hq2
  refine (Le.cv (s := ⟨[], [], [], false⟩) (own := []) (ps := [a0 = a0, a1 = a1, q1 = (IntKind.wrap .u64 (BitVec.ofInt (IntKind.bits .u64) a0 &&& BitVec.ofInt (IntKind.bits .u64) (4294967295 : Int)).toNat)]) (st' := ⟨[(0, .one (.dat (.int .u64) a0)), (1, .one (.dat (.int .u64) a1)), (6, .one (.dat (.int .u64) q1))], [], 0⟩) hO (fun h => by cases h) (by kernel_rfl) ⟨rfl, rfl, hq2, trivial⟩).ht ?_
  refine HT.rg2 (oHs 3) ⟨[(0, .one (.dat (.int .u64) a0)), (1, .one (.dat (.int .u64) a1)), (6, .one (.dat (.int .u64) q1)), (7, .one (.dat (.int .u64) (Int.fdiv a0 (2 ^ (min (Int.toNat (32 : Int)) (IntKind.bits .u64))))))], [], 0⟩ hX (by kernel_rfl) (allCons (show (0 : Int) ≤ (32 : Int) from by decide) allNil) ?_
  refine HT.rg2 (oHs 3) ⟨[(0, .one (.dat (.int .u64) a0)), (1, .one (.dat (.int .u64) a1)), (6, .one (.dat (.int .u64) q1)), (7, .one (.dat (.int .u64) (Int.fdiv a0 (2 ^ (min (Int.toNat (32 : Int)) (IntKind.bits .u64)))))), (8, .one (.dat (.int .u64) (IntKind.wrap .u64 (BitVec.ofInt (IntKind.bits .u64) a1 &&& BitVec.ofInt (IntKind.bits .u64) (4294967295 : Int)).toNat)))], [], 0⟩ hX (by kernel_rfl) allNil ?_
  obtain ⟨q3, hq4, hr⟩ := of_bind hr
  have hq4 := of_some2 hq4
  refine (Le.cv (s := ⟨[], [], [], false⟩) (own := []) (ps := [a0 = a0, a1 = a1, q1 = q1, (Int.fdiv a0 (2 ^ (min (Int.toNat (32 : Int)) (IntKind.bits .u64)))) = (Int.fdiv a0 (2 ^ (min (Int.toNat (32 : Int)) (IntKind.bits .u64)))), q3 = (IntKind.wrap .u64 (BitVec.ofInt (IntKind.bits .u64) a1 &&& BitVec.ofInt (IntKind.bits .u64) (4294967295 : Int)).toNat)]) (st' := ⟨[(0, .one (.dat (.int .u64) a0)), (1, .one (.dat (.int .u64) a1)), (6, .one (.dat (.int .u64) q1)), (7, .one (.dat (.int .u64) (Int.fdiv a0 (2 ^ (min (Int.toNat (32 : Int)) (IntKind.bits .u64)))))), (8, .one (.dat (.int .u64) q3))], [], 0⟩) hO (fun h => by cases h) (by kernel_rfl) ⟨rfl, rfl, rfl, rfl, hq4, trivial⟩).ht ?_
  refine HT.rg2 (oHs 3) ⟨[(0, .one (.dat (.int .u64) a0)), (1, .one (.dat (.int .u64) a1)), (6, .one (.dat (.int .u64) q1)), (7, .one (.dat (.int .u64) (Int.fdiv a0 (2 ^ (min (Int.toNat (32 : Int)) (IntKind.bits .u64)))))), (8, .one (.dat (.int .u64) q3)), (9, .one (.dat (.int .u64) (Int.fdiv a1 (2 ^ (min (Int.toNat (32 : Int)) (IntKind.bits .u64))))))], [], 0⟩ hX (by kernel_rfl) (allCons (show (0 : Int) ≤ (32 : Int) from by decide) allNil) ?_
  refine HT.rg2 (oHs 4) ⟨[(0, .one (.dat (.int .u64) a0)), (1, .one (.dat (.int .u64) a1)), (6, .one (.dat (.int .u64) q1)), (7, .one (.dat (.int .u64) (Int.fdiv a0 (2 ^ (min (Int.toNat (32 : Int)) (IntKind.bits .u64)))))), (8, .one (.dat (.int .u64) q3)), (9, .one (.dat (.int .u64) (Int.fdiv a1 (2 ^ (min (Int.toNat (32 : Int)) (IntKind.bits .u64)))))), (10, .one (.dat (.int .u64) (wmul .u64 q1 q3)))], [], 0⟩ hX (by kernel_rfl) allNil ?_
  refine HT.rg2 (oHs 7) ⟨[(0, .one (.dat (.int .u64) a0)), (1, .one (.dat (.int .u64) a1)), (6, .one (.dat (.int .u64) q1)), (7, .one (.dat (.int .u64) (Int.fdiv a0 (2 ^ (min (Int.toNat (32 : Int)) (IntKind.bits .u64)))))), (9, .one (.dat (.int .u64) (Int.fdiv a1 (2 ^ (min (Int.toNat (32 : Int)) (IntKind.bits .u64)))))), (11, .one (.dat (.int .u64) (wadd .u64 (wmul .u64 (Int.fdiv a0 (2 ^ (min (Int.toNat (32 : Int)) (IntKind.bits .u64)))) q3) (Int.fdiv (wmul .u64 q1 q3) (2 ^ (min (Int.toNat (32 : Int)) (IntKind.bits .u64)))))))], [], 0⟩ hX (by kernel_rfl) (allCons (show (0 : Int) ≤ (32 : Int) from by decide) allNil) ?_
  obtain ⟨q5, hq6, hr⟩ := of_bind hr
  have hq6 := of_some2 hq6
  refine (Le.cv (s := ⟨[], [], [], false⟩) (own := []) (ps := [a0 = a0, a1 = a1, q1 = q1, (Int.fdiv a0 (2 ^ (min (Int.toNat (32 : Int)) (IntKind.bits .u64)))) = (Int.fdiv a0 (2 ^ (min (Int.toNat (32 : Int)) (IntKind.bits .u64)))), (Int.fdiv a1 (2 ^ (min (Int.toNat (32 : Int)) (IntKind.bits .u64)))) = (Int.fdiv a1 (2 ^ (min (Int.toNat (32 : Int)) (IntKind.bits .u64)))), q5 = (wadd .u64 (wmul .u64 (Int.fdiv a0 (2 ^ (min (Int.toNat (32 : Int)) (IntKind.bits .u64)))) q3) (Int.fdiv (wmul .u64 q1 q3) (2 ^ (min (Int.toNat (32 : Int)) (IntKind.bits .u64)))))]) (st' := ⟨[(0, .one (.dat (.int .u64) a0)), (1, .one (.dat (.int .u64) a1)), (6, .one (.dat (.int .u64) q1)), (7, .one (.dat (.int .u64) (Int.fdiv a0 (2 ^ (min (Int.toNat (32 : Int)) (IntKind.bits .u64)))))), (9, .one (.dat (.int .u64) (Int.fdiv a1 (2 ^ (min (Int.toNat (32 : Int)) (IntKind.bits .u64)))))), (11, .one (.dat (.int .u64) q5))], [], 0⟩) hO (fun h => by cases h) (by kernel_rfl) ⟨rfl, rfl, rfl, rfl, rfl, hq6, trivial⟩).ht ?_
  refine HT.rg2 (oHs 3) ⟨[(0, .one (.dat (.int .u64) a0)), (1, .one (.dat (.int .u64) a1)), (6, .one (.dat (.int .u64) q1)), (7, .one (.dat (.int .u64) (Int.fdiv a0 (2 ^ (min (Int.toNat (32 : Int)) (IntKind.bits .u64)))))), (9, .one (.dat (.int .u64) (Int.fdiv a1 (2 ^ (min (Int.toNat (32 : Int)) (IntKind.bits .u64)))))), (11, .one (.dat (.int .u64) q5)), (12, .one (.dat (.int .u64) (IntKind.wrap .u64 (BitVec.ofInt (IntKind.bits .u64) q5 &&& BitVec.ofInt (IntKind.bits .u64) (4294967295 : Int)).toNat)))], [], 0⟩ hX (by kernel_rfl) allNil ?_
  obtain ⟨q7, hq8, hr⟩ := of_bind hr
  have hq8 := of_some2 hq8
  refine (Le.cv (s := ⟨[], [], [], false⟩) (own := []) (ps := [a0 = a0, a1 = a1, q1 = q1, (Int.fdiv a0 (2 ^ (min (Int.toNat (32 : Int)) (IntKind.bits .u64)))) = (Int.fdiv a0 (2 ^ (min (Int.toNat (32 : Int)) (IntKind.bits .u64)))), (Int.fdiv a1 (2 ^ (min (Int.toNat (32 : Int)) (IntKind.bits .u64)))) = (Int.fdiv a1 (2 ^ (min (Int.toNat (32 : Int)) (IntKind.bits .u64)))), q5 = q5, q7 = (IntKind.wrap .u64 (BitVec.ofInt (IntKind.bits .u64) q5 &&& BitVec.ofInt (IntKind.bits .u64) (4294967295 : Int)).toNat)]) (st' := ⟨[(0, .one (.dat (.int .u64) a0)), (1, .one (.dat (.int .u64) a1)), (6, .one (.dat (.int .u64) q1)), (7, .one (.dat (.int .u64) (Int.fdiv a0 (2 ^ (min (Int.toNat (32 : Int)) (IntKind.bits .u64)))))), (9, .one (.dat (.int .u64) (Int.fdiv a1 (2 ^ (min (Int.toNat (32 : Int)) (IntKind.bits .u64)))))), (11, .one (.dat (.int .u64) q5)), (12, .one (.dat (.int .u64) q7))], [], 0⟩) hO (fun h => by cases h) (by kernel_rfl) ⟨rfl, rfl, rfl, rfl, rfl, rfl, hq8, trivial⟩).ht ?_
  refine HT.rg2 (oHs 3) ⟨[(0, .one (.dat (.int .u64) a0)), (1, .one (.dat (.int .u64) a1)), (6, .one (.dat (.int .u64) q1)), (7, .one (.dat (.int .u64) (Int.fdiv a0 (2 ^ (min (Int.toNat (32 : Int)) (IntKind.bits .u64)))))), (9, .one (.dat (.int .u64) (Int.fdiv a1 (2 ^ (min (Int.toNat (32 : Int)) (IntKind.bits .u64)))))), (12, .one (.dat (.int .u64) q7)), (13, .one (.dat (.int .u64) (Int.fdiv q5 (2 ^ (min (Int.toNat (32 : Int)) (IntKind.bits .u64))))))], [], 0⟩ hX (by kernel_rfl) (allCons (show (0 : Int) ≤ (32 : Int) from by decide) allNil) ?_
  refine HT.rg2 (oHs 6) ⟨[(0, .one (.dat (.int .u64) a0)), (1, .one (.dat (.int .u64) a1)), (7, .one (.dat (.int .u64) (Int.fdiv a0 (2 ^ (min (Int.toNat (32 : Int)) (IntKind.bits .u64)))))), (9, .one (.dat (.int .u64) (Int.fdiv a1 (2 ^ (min (Int.toNat (32 : Int)) (IntKind.bits .u64)))))), (12, .one (.dat (.int .u64) (wadd .u64 q7 (wmul .u64 q1 (Int.fdiv a1 (2 ^ (min (Int.toNat (32 : Int)) (IntKind.bits .u64)))))))), (13, .one (.dat (.int .u64) (Int.fdiv q5 (2 ^ (min (Int.toNat (32 : Int)) (IntKind.bits .u64))))))], [], 0⟩ hX (by kernel_rfl) allNil ?_
  obtain ⟨q9, hq10, hr⟩ := of_bind hr
  have hq10 := of_some2 hq10
  refine (Le.cv (s := ⟨[], [], [], false⟩) (own := []) (ps := [a0 = a0, a1 = a1, (Int.fdiv a0 (2 ^ (min (Int.toNat (32 : Int)) (IntKind.bits .u64)))) = (Int.fdiv a0 (2 ^ (min (Int.toNat (32 : Int)) (IntKind.bits .u64)))), (Int.fdiv a1 (2 ^ (min (Int.toNat (32 : Int)) (IntKind.bits .u64)))) = (Int.fdiv a1 (2 ^ (min (Int.toNat (32 : Int)) (IntKind.bits .u64)))), q9 = (wadd .u64 q7 (wmul .u64 q1 (Int.fdiv a1 (2 ^ (min (Int.toNat (32 : Int)) (IntKind.bits .u64)))))), (Int.fdiv q5 (2 ^ (min (Int.toNat (32 : Int)) (IntKind.bits .u64)))) = (Int.fdiv q5 (2 ^ (min (Int.toNat (32 : Int)) (IntKind.bits .u64))))]) (st' := ⟨[(0, .one (.dat (.int .u64) a0)), (1, .one (.dat (.int .u64) a1)), (7, .one (.dat (.int .u64) (Int.fdiv a0 (2 ^ (min (Int.toNat (32 : Int)) (IntKind.bits .u64)))))), (9, .one (.dat (.int .u64) (Int.fdiv a1 (2 ^ (min (Int.toNat (32 : Int)) (IntKind.bits .u64)))))), (12, .one (.dat (.int .u64) q9)), (13, .one (.dat (.int .u64) (Int.fdiv q5 (2 ^ (min (Int.toNat (32 : Int)) (IntKind.bits .u64))))))], [], 0⟩) hO (fun h => by cases h) (by kernel_rfl) ⟨rfl, rfl, rfl, rfl, hq10, rfl, trivial⟩).ht ?_
  refine HT.rg2 (oHs 9) ⟨[(0, .one (.dat (.int .u64) a0)), (1, .one (.dat (.int .u64) a1)), (4, .one (.dat (.int .u64) (wadd .u64 (wadd .u64 (wmul .u64 (Int.fdiv a0 (2 ^ (min (Int.toNat (32 : Int)) (IntKind.bits .u64)))) (Int.fdiv a1 (2 ^ (min (Int.toNat (32 : Int)) (IntKind.bits .u64))))) (Int.fdiv q5 (2 ^ (min (Int.toNat (32 : Int)) (IntKind.bits .u64))))) (Int.fdiv q9 (2 ^ (min (Int.toNat (32 : Int)) (IntKind.bits .u64)))))))], [], 0⟩ hX (by kernel_rfl) (allCons (show (0 : Int) ≤ (32 : Int) from by decide) allNil) ?_
  obtain ⟨q11, hq12, hr⟩ := of_bind hr
  have hq12 := of_some2 hq12
  refine (Le.cv (s := ⟨[], [], [], false⟩) (own := []) (ps := [a0 = a0, a1 = a1, q11 = (wadd .u64 (wadd .u64 (wmul .u64 (Int.fdiv a0 (2 ^ (min (Int.toNat (32 : Int)) (IntKind.bits .u64)))) (Int.fdiv a1 (2 ^ (min (Int.toNat (32 : Int)) (IntKind.bits .u64))))) (Int.fdiv q5 (2 ^ (min (Int.toNat (32 : Int)) (IntKind.bits .u64))))) (Int.fdiv q9 (2 ^ (min (Int.toNat (32 : Int)) (IntKind.bits .u64)))))]) (st' := ⟨[(0, .one (.dat (.int .u64) a0)), (1, .one (.dat (.int .u64) a1)), (4, .one (.dat (.int .u64) q11))], [], 0⟩) hO (fun h => by cases h) (by kernel_rfl) ⟨rfl, rfl, hq12, trivial⟩).ht ?_
  refine HT.rg2 (oHs 4) ⟨[(4, .one (.dat (.int .u64) q11)), (5, .one (.dat (.int .u64) (wmul .u64 a0 a1)))], [], 0⟩ hX (by kernel_rfl) allNil ?_
  have hr := of_some hr
  subst hr
  exact HT.ret ⟨[.one (.dat (.int .u64) q11), .one (.dat (.int .u64) (wmul .u64 a0 a1))], [], [], by kernel_rfl, by kernel_rfl, rfl, by kernel_rfl, by kernel_rfl, trivial⟩

noncomputable def math_bits_Mul (a0 : Int) (a1 : Int) : Option (Int × Int) :=
  (math_bits_Mul64 a0 a1).bind fun y1 =>
  some (y1.1, y1.2)

theorem f217_ok {a0 : Int} {a1 : Int} {r : Int × Int} (hr : math_bits_Mul a0 a1 = some r) : CallOK Try.prog 217 [.imm (.int .u64) a0, .imm (.int .u64) a1] [⟨false, (.int .u64), r.1⟩, ⟨false, (.int .u64), r.2⟩] [] := by
  unfold math_bits_Mul at hr
  refine CallOK.of_body (ts := [(false, (.int .u64)), (false, (.int .u64))]) Try.func217 rfl (by kernel_rfl) (Nat.le_of_ble_eq_true (by kernel_rfl)) fun cx hP hN hO hF => ?_
  have hO : cx.own.map Prod.fst = [] := hO
  have hX := CxIs.mk hP hN hO
  have hF := hF rfl
  show HT cx ⟨[(0, .one (.dat (.int .u64) a0)), (1, .one (.dat (.int .u64) a1))], [], 0⟩ _ _
  refine HT.rg2 (oHs 2) ⟨[(0, .one (.dat (.int .u64) a0)), (1, .one (.dat (.int .u64) a1))], [], 0⟩ hX (by kernel_rfl) allNil ?_
  refine HT.seq ?_
  refine HT.cond0 rfl (rfl : false = false) ?_
  refine HT.skip (qThen ?_)
  obtain ⟨y1, hc2, hr⟩ := of_bind hr
  refine HT.rg2 [oH, oH, ⟨none, .call [.imm (.int .u64), .imm (.int .u64)] [⟨false, (.int .u64), y1.1⟩, ⟨false, (.int .u64), y1.2⟩] []⟩, oH, oH, oH, oH, oH] ⟨[(8, .one (.dat (.int .u64) y1.1)), (9, .one (.dat (.int .u64) y1.2))], [], 0⟩ hX (by kernel_rfl) (allCons (f240_ok hc2) allNil) ?_
  refine HT.rg2 (oHs 4) ⟨[(4, .one (.dat (.int .u64) y1.1)), (5, .one (.dat (.int .u64) y1.2))], [], 0⟩ hX (by kernel_rfl) allNil ?_
  have hr := of_some hr
  subst hr
  exact HT.ret ⟨[.one (.dat (.int .u64) y1.1), .one (.dat (.int .u64) y1.2)], [], [], by kernel_rfl, by kernel_rfl, rfl, by kernel_rfl, by kernel_rfl, trivial⟩

noncomputable def slices_Repeat___float32_float32_B1  (s13 : Int × List Nat) : Option ((Int × List Nat) ⊕ (List Nat)) :=
  bif (decide (s13.1 < (lenI s13.2))) then
    guardP ((0 : Int) ≤ s13.1 ∧ s13.1 ≤ lenI s13.2) (
      some (.inl ((wadd .i64 s13.1 ((Nat.min (List.length (List.take (Int.toNat s13.1) (List.drop 0 s13.2))) (Int.toNat (lenI s13.2) - Int.toNat s13.1) : Nat) : Int)), (List.take (Int.toNat s13.1) s13.2 ++ List.take (Nat.min (List.length (List.take (Int.toNat s13.1) (List.drop 0 s13.2))) (Int.toNat (lenI s13.2) - Int.toNat s13.1)) (List.take (Int.toNat s13.1) (List.drop 0 s13.2)) ++ List.drop ((Int.toNat s13.1) + Nat.min (List.length (List.take (Int.toNat s13.1) (List.drop 0 s13.2))) (Int.toNat (lenI s13.2) - Int.toNat s13.1)) s13.2))))
  else
    some (.inr s13.2)

noncomputable def slices_Repeat___float32_float32 (a0 : List Nat) (a1 : Int) : Option (List Nat) :=
  bif (decide (a1 < (0 : Int))) then
    none
  else
    (math_bits_Mul (IntKind.wrap .u64 (lenI a0)) (IntKind.wrap .u64 a1)).bind fun y2 =>
    (show Option (Bool) from
      bif (decide (y2.1 > (0 : Int))) then
        some true
      else
        some (decide (y2.2 > (9223372036854775807 : Int)))).bind fun v4 =>
    bif v4 then
      none
    else
      guardP ((0 : Int) ≤ (IntKind.wrap .i64 y2.2) ∧ (IntKind.wrap .i64 y2.2) ≤ 4294967296) (
        (some ((Nat.min (List.length a0) (List.length (List.replicate (Int.toNat (IntKind.wrap .i64 y2.2)) (0 : Nat))) : Nat) : Int)).bind fun q9 =>
        (some (List.take 0 (List.replicate (Int.toNat (IntKind.wrap .i64 y2.2)) (0 : Nat)) ++ List.take (Nat.min (List.length a0) (List.length (List.replicate (Int.toNat (IntKind.wrap .i64 y2.2)) (0 : Nat)))) a0 ++ List.drop (0 + Nat.min (List.length a0) (List.length (List.replicate (Int.toNat (IntKind.wrap .i64 y2.2)) (0 : Nat)))) (List.replicate (Int.toNat (IntKind.wrap .i64 y2.2)) (0 : Nat)))).bind fun q11 =>
        (rounds (slices_Repeat___float32_float32_B1) (q9, q11)).bind fun r15 =>
        some r15)

theorem f167_ok {a0 : List Nat} {a1 : Int} {r : List Nat} (hr : slices_Repeat___float32_float32 a0 a1 = some r) : CallOK Try.prog 167 [.imm tLF a0, .imm tI a1] [⟨true, tLF, r⟩] [] := by
  unfold slices_Repeat___float32_float32 at hr
  refine CallOK.of_body (ts := [(true, tLF)]) Try.func167 rfl (by kernel_rfl) (Nat.le_of_ble_eq_true (by kernel_rfl)) fun cx hP hN hO hF => ?_
  have hO : cx.own.map Prod.fst = [] := hO
  have hX := CxIs.mk hP hN hO
  have hF := hF rfl
  show HT cx ⟨[(0, lV a0), (1, iV a1)], [], 0⟩ _ _
  refine HT.rg2 [oH] ⟨[(0, lV a0), (1, iV a1)], [], 0⟩ hX (by kernel_rfl) allNil ?_
  refine HT.seq ?_
  refine HT.rg2 (oHs 2) ⟨[(0, lV a0), (1, iV a1), (10, bV (decide (a1 < (0 : Int))))], [], 0⟩ hX (by kernel_rfl) allNil ?_
  rcases of_bif hr with ⟨hb1, hr⟩ | ⟨hb1, hr⟩
  · refine HT.cond1 rfl hb1 ?_
    cases hr
  · refine HT.cond0 rfl hb1 ?_
    refine HT.skip (qThen ?_)
    obtain ⟨y2, hc3, hr⟩ := of_bind hr
    refine HT.rg2 [oH, oH, oH, oH, oH, ⟨none, .call [.imm (.int .u64), .imm (.int .u64)] [⟨false, (.int .u64), y2.1⟩, ⟨false, (.int .u64), y2.2⟩] []⟩, oH, oH, oH, oH, oH] ⟨[(0, lV a0), (5, .one (.dat (.int .u64) y2.1)), (6, .one (.dat (.int .u64) y2.2))], [], 0⟩ hX (by kernel_rfl) (allCons (f217_ok hc3) allNil) ?_
    refine HT.seq ?_
    obtain ⟨v4', hT6, hr⟩ := of_bind hr
    refine HT.join (fun (v4 : Bool) => ⟨[(0, lV a0), (6, .one (.dat (.int .u64) y2.2)), (26, bV v4)], [], 0⟩) (fun v => v = v4') (fun v4 hv5 => ?_) (fun cont => ?_)
    · subst hv5
      rcases of_bif hr with ⟨hb7, hr⟩ | ⟨hb7, hr⟩
      · refine HT.cond1 rfl hb7 ?_
        cases hr
      · refine HT.cond0 rfl hb7 ?_
        refine HT.skip (qThen ?_)
        obtain ⟨hg8, hr⟩ := of_guard hr
        refine HT.rg2 [oH, oH, ⟨none, .ty tF⟩, oH] ⟨[(0, lV a0), (7, aV 0)], [(0, .seq tF (List.replicate (Int.toNat (IntKind.wrap .i64 y2.2)) (0 : Nat)))], 1⟩ hX (by kernel_rfl) (allCons (show (0 : Int) ≤ (IntKind.wrap .i64 y2.2) ∧ (IntKind.wrap .i64 y2.2) ≤ (IntKind.wrap .i64 y2.2) ∧ (IntKind.wrap .i64 y2.2) ≤ 4294967296 from ⟨hg8.1, Int.le_refl _, hg8.2⟩) allNil) ?_
        refine HT.rg2 (oHs 4) ⟨[(7, aV 0), (8, iV ((Nat.min (List.length a0) (List.length (List.replicate (Int.toNat (IntKind.wrap .i64 y2.2)) (0 : Nat))) : Nat) : Int))], [(0, .seq tF (List.take 0 (List.replicate (Int.toNat (IntKind.wrap .i64 y2.2)) (0 : Nat)) ++ List.take (Nat.min (List.length a0) (List.length (List.replicate (Int.toNat (IntKind.wrap .i64 y2.2)) (0 : Nat)))) a0 ++ List.drop (0 + Nat.min (List.length a0) (List.length (List.replicate (Int.toNat (IntKind.wrap .i64 y2.2)) (0 : Nat)))) (List.replicate (Int.toNat (IntKind.wrap .i64 y2.2)) (0 : Nat))))], 1⟩ hX (by kernel_rfl) allNil ?_
        obtain ⟨q9, hq10, hr⟩ := of_bind hr
        have hq10 := of_some2 hq10
        obtain ⟨q11, hq12, hr⟩ := of_bind hr
        have hq12 := of_some2 hq12
        refine (Le.cv (s := ⟨[(0, 0)], [], [], false⟩) (own := []) (ps := [q9 = ((Nat.min (List.length a0) (List.length (List.replicate (Int.toNat (IntKind.wrap .i64 y2.2)) (0 : Nat))) : Nat) : Int), q11 = (List.take 0 (List.replicate (Int.toNat (IntKind.wrap .i64 y2.2)) (0 : Nat)) ++ List.take (Nat.min (List.length a0) (List.length (List.replicate (Int.toNat (IntKind.wrap .i64 y2.2)) (0 : Nat)))) a0 ++ List.drop (0 + Nat.min (List.length a0) (List.length (List.replicate (Int.toNat (IntKind.wrap .i64 y2.2)) (0 : Nat)))) (List.replicate (Int.toNat (IntKind.wrap .i64 y2.2)) (0 : Nat)))]) (st' := ⟨[(7, aV 0), (8, iV q9)], [(0, .seq tF q11)], 1⟩) hO (fun h => by cases h) (by kernel_rfl) ⟨hq10, hq12, trivial⟩).ht ?_
        refine HT.seq ?_
        refine HT.block ?_
        obtain ⟨r14, hL21, hr⟩ := of_bind hr
        refine HT.loopL (fun (s13 : Int × List Nat) => ⟨[(7, aV 0), (8, iV s13.1)], [(0, .seq tF s13.2)], 1⟩) (fun (r15 : List Nat) => (.exit 0, ⟨[(7, aV 0)], [(0, .seq tF r15)], 1⟩)) (Le.re [(0, 0)] [] hX (by kernel_rfl)) hL21 ?_ (fun s13 x16 hx17 hk18 => ?_)
        · refine (qBlockX (qThen ?_))
          refine HT.rg2 (oHs 2) ⟨[(4, aV 0)], [(0, .seq tF r14)], 1⟩ hX (by kernel_rfl) allNil ?_
          have hr := of_some hr
          subst hr
          exact HT.ret ⟨[aV 0], [0], [], by kernel_rfl, by kernel_rfl, rfl, by kernel_rfl, by kernel_rfl, trivial⟩
        · refine HT.seq ?_
          refine HT.rg2 (oHs 4) ⟨[(7, aV 0), (8, iV s13.1), (37, bV (decide (s13.1 < (lenI s13.2))))], [(0, .seq tF s13.2)], 1⟩ hX (by kernel_rfl) allNil ?_
          rcases of_bif hx17 with ⟨hb19, hx17⟩ | ⟨hb19, hx17⟩
          · refine HT.cond1 rfl hb19 ?_
            refine HT.skip (qThen ?_)
            refine HT.block ?_
            obtain ⟨hg20, hx17⟩ := of_guard hx17
            have hx17 := of_some hx17
            subst hx17
            exact HT.drK 8 [⟨oH, []⟩, ⟨oH, []⟩, ⟨oH, []⟩, ⟨oH, [1, 2]⟩, ⟨oH, []⟩, ⟨oH, []⟩, ⟨oH, [4, 5]⟩, ⟨oH, [1, 2, 3, 4, 5, 6]⟩] [[0, 1, 2, 3, 4, 5, 6, 7], [0, 1, 2, 3, 4, 5, 6, 7, 8]] (oHs 2) [(0, 0)] [] hX (by kernel_rfl) (by kernel_rfl) (allCons (show (0 : Int) ≤ s13.1 ∧ s13.1 ≤ lenI s13.2 ∧ lenI s13.2 ≤ lenI s13.2 from ⟨hg20.1, hg20.2, Int.le_refl _⟩) (allCons (show (0 : Int) ≤ 0 ∧ (0 : Int) ≤ s13.1 ∧ s13.1 ≤ lenI s13.2 from ⟨Int.le_refl _, hg20.1, hg20.2⟩) allNil)) (fun _ h => (qBlock (qLoopN ⟨((wadd .i64 s13.1 ((Nat.min (List.length (List.take (Int.toNat s13.1) (List.drop 0 s13.2))) (Int.toNat (lenI s13.2) - Int.toNat s13.1) : Nat) : Int)), (List.take (Int.toNat s13.1) s13.2 ++ List.take (Nat.min (List.length (List.take (Int.toNat s13.1) (List.drop 0 s13.2))) (Int.toNat (lenI s13.2) - Int.toNat s13.1)) (List.take (Int.toNat s13.1) (List.drop 0 s13.2)) ++ List.drop ((Int.toNat s13.1) + Nat.min (List.length (List.take (Int.toNat s13.1) (List.drop 0 s13.2))) (Int.toNat (lenI s13.2) - Int.toNat s13.1)) s13.2)), rfl, h⟩)))
          · refine HT.cond0 rfl hb19 ?_
            have hx17 := of_some hx17
            subst hx17
            exact HT.exitL (Le.re [(0, 0)] [] hX (by kernel_rfl)) (qThenE (qLoopE (hk18 s13.2 rfl)))
    · rcases of_bif hT6 with ⟨hb22, hT6⟩ | ⟨hb22, hT6⟩
      · exact HT.rgK [oH, oH, oH, ⟨some true, .no⟩, ⟨some true, .no⟩, ⟨none, .tv true⟩] [] [] hX (by kernel_rfl) (allCons hb22 (allCons hb22 (allCons hb22 allNil))) (fun _ h => (qThen (h.ht (cont true (of_some hT6)))))
      · exact HT.rgK [oH, oH, oH, ⟨some false, .no⟩, ⟨some false, .no⟩, ⟨none, .tv false⟩] [] [] hX (by kernel_rfl) (allCons hb22 (allCons hb22 (allCons hb22 allNil))) (fun _ h => (qThen (h.ht (cont (decide (y2.2 > (9223372036854775807 : Int))) (of_some hT6)))))

noncomputable def impl_Model_backward_B1 (a0 : Int × Int × List Nat × List Nat × List Nat) (a1 : List Int) (s7 : Int × List (List Nat)) (s15 : Int × List Nat) (s23 : Int × List Nat) : Option ((Int × List Nat) ⊕ (List Nat)) :=
  bif (decide (s23.1 < a0.1)) then
    guardP ((0 : Int) ≤ s15.1 ∧ s15.1 < lenI s23.2) (
      guardP ((0 : Int) ≤ s7.1 ∧ s7.1 < lenI a1) (
        (impl_Model_show (a0.1, a0.2.1, a0.2.2.1, a0.2.2.2.1, a0.2.2.2.2) s15.1 (List.getD a1 (Int.toNat s7.1) (0 : Int))).bind fun y32 =>
        (impl_Model_step (a0.1, a0.2.1, a0.2.2.1, a0.2.2.2.1, a0.2.2.2.2) s15.1 s23.1).bind fun y34 =>
        guardP ((0 : Int) ≤ (wadd .i64 s7.1 (1 : Int)) ∧ (wadd .i64 s7.1 (1 : Int)) < lenI s7.2) (
          guardP ((0 : Int) ≤ s23.1 ∧ s23.1 < lenI (List.getD s7.2 (Int.toNat (wadd .i64 s7.1 (1 : Int))) ([] : List Nat))) (
            some (.inl ((wadd .i64 s23.1 (1 : Int)), (List.set s23.2 (Int.toNat s15.1) (fop .add .f32 (List.getD s23.2 (Int.toNat s15.1) (0 : Nat)) (fop .mul .f32 (fop .mul .f32 y32 y34) (List.getD (List.getD s7.2 (Int.toNat (wadd .i64 s7.1 (1 : Int))) ([] : List Nat)) (Int.toNat s23.1) (0 : Nat)))))))))))
  else
    some (.inr s23.2)

noncomputable def impl_Model_backward_B2 (a0 : Int × Int × List Nat × List Nat × List Nat) (a1 : List Int) (s7 : Int × List (List Nat)) (s15 : Int × List Nat) : Option ((Int × List Nat) ⊕ (List Nat)) :=
  bif (decide (s15.1 < a0.1)) then
    (rounds (impl_Model_backward_B1 a0 a1 s7 s15) ((0 : Int), s15.2)).bind fun r25 =>
    some (.inl ((wadd .i64 s15.1 (1 : Int)), r25))
  else
    some (.inr s15.2)

noncomputable def impl_Model_backward_B3 (a0 : Int × Int × List Nat × List Nat × List Nat) (a1 : List Int) (s7 : Int × List (List Nat)) : Option ((Int × List (List Nat)) ⊕ (List (List Nat))) :=
  bif (decide (s7.1 ≥ (0 : Int))) then
    guardP ((0 : Int) ≤ a0.1 ∧ a0.1 ≤ 4294967296) (
      (rounds (impl_Model_backward_B2 a0 a1 s7) ((0 : Int), (List.replicate (Int.toNat a0.1) (0 : Nat)))).bind fun r17 =>
      guardP ((0 : Int) ≤ s7.1 ∧ s7.1 < lenI s7.2) (
        some (.inl ((wsub .i64 s7.1 (1 : Int)), (List.set s7.2 (Int.toNat s7.1) r17)))))
  else
    some (.inr s7.2)

noncomputable def impl_Model_backward (a0 : Int × Int × List Nat × List Nat × List Nat) (a1 : List Int) : Option (List (List Nat)) :=
  guardP ((0 : Int) ≤ (wadd .i64 (lenI a1) (1 : Int)) ∧ (wadd .i64 (lenI a1) (1 : Int)) ≤ 4294967296) (
    (slices_Repeat___float32_float32 ([(1065353216 : Nat)] : List Nat) a0.1).bind fun y2 =>
    guardP ((0 : Int) ≤ (lenI a1) ∧ (lenI a1) < lenI (List.replicate (Int.toNat (wadd .i64 (lenI a1) (1 : Int))) ([] : List Nat))) (
      (some (List.set (List.replicate (Int.toNat (wadd .i64 (lenI a1) (1 : Int))) ([] : List Nat)) (Int.toNat (lenI a1)) y2)).bind fun q5 =>
      (rounds (impl_Model_backward_B3 a0 a1) ((wsub .i64 (lenI a1) (1 : Int)), q5)).bind fun r9 =>
      some r9))

theorem f147_ok {a0 : Int × Int × List Nat × List Nat × List Nat} {a1 : List Int} {r : List (List Nat)} (hr : impl_Model_backward a0 a1 = some r) : CallOK Try.prog 147 [.imm (.st (.pair tI (.pair tI (.pair tLF (.pair tLF tLF))))) a0, .imm tLI a1] [⟨false, (.sl tLF), r⟩] [] := by
  unfold impl_Model_backward at hr
  refine CallOK.of_body (ts := [(false, (.sl tLF))]) Try.func147 rfl (by kernel_rfl) (Nat.le_of_ble_eq_true (by kernel_rfl)) fun cx hP hN hO hF => ?_
  have hO : cx.own.map Prod.fst = [] := hO
  have hX := CxIs.mk hP hN hO
  have hF := hF rfl
  show HT cx ⟨[(0, .agg [iC a0.1, iC a0.2.1, lC a0.2.2.1, lC a0.2.2.2.1, lC a0.2.2.2.2]), (1, nV a1)], [], 0⟩ _ _
  refine HT.rg2 (oHs 2) ⟨[(1, nV a1), (2, pV 0 0)], [(0, .box [iC a0.1, iC a0.2.1, lC a0.2.2.1, lC a0.2.2.2.1, lC a0.2.2.2.2])], 1⟩ hX (by kernel_rfl) allNil ?_
  refine HT.rg2 (oHs 3) ⟨[(1, nV a1), (2, pV 0 0), (5, iV (lenI a1))], [(0, .box [iC a0.1, iC a0.2.1, lC a0.2.2.1, lC a0.2.2.2.1, lC a0.2.2.2.2])], 1⟩ hX (by kernel_rfl) allNil ?_
  obtain ⟨hg1, hr⟩ := of_guard hr
  refine HT.rg2 [oH, oH, ⟨none, .ty tLF⟩, oH] ⟨[(1, nV a1), (2, pV 0 0), (5, iV (lenI a1)), (6, aV 1)], [(1, .seq tLF (List.replicate (Int.toNat (wadd .i64 (lenI a1) (1 : Int))) ([] : List Nat))), (0, .box [iC a0.1, iC a0.2.1, lC a0.2.2.1, lC a0.2.2.2.1, lC a0.2.2.2.2])], 2⟩ hX (by kernel_rfl) (allCons (show (0 : Int) ≤ (wadd .i64 (lenI a1) (1 : Int)) ∧ (wadd .i64 (lenI a1) (1 : Int)) ≤ (wadd .i64 (lenI a1) (1 : Int)) ∧ (wadd .i64 (lenI a1) (1 : Int)) ≤ 4294967296 from ⟨hg1.1, Int.le_refl _, hg1.2⟩) allNil) ?_
  obtain ⟨y2, hc3, hr⟩ := of_bind hr
  obtain ⟨hg4, hr⟩ := of_guard hr
  refine HT.rg2 [oH, oH, ⟨none, .tyD tF⟩, oH, oH, ⟨none, .call [.imm tLF, .imm tI] [⟨false, tLF, y2⟩] []⟩, oH, oH] ⟨[(1, nV a1), (2, pV 0 0), (5, iV (lenI a1)), (6, aV 1)], [(1, .seq tLF (List.set (List.replicate (Int.toNat (wadd .i64 (lenI a1) (1 : Int))) ([] : List Nat)) (Int.toNat (lenI a1)) y2)), (0, .box [iC a0.1, iC a0.2.1, lC a0.2.2.1, lC a0.2.2.2.1, lC a0.2.2.2.2])], 2⟩ hX (by kernel_rfl) (allCons (CallOK.frz [true] rfl (f167_ok hc3)) (allCons hg4 (allCons (natLt hg4) allNil))) ?_
  obtain ⟨q5, hq6, hr⟩ := of_bind hr
  have hq6 := of_some2 hq6
  refine (Le.cv (s := ⟨[(1, 1), (0, 0)], [], [], false⟩) (own := []) (ps := [a1 = a1, (lenI a1) = (lenI a1), q5 = (List.set (List.replicate (Int.toNat (wadd .i64 (lenI a1) (1 : Int))) ([] : List Nat)) (Int.toNat (lenI a1)) y2), a0.1 = a0.1, a0.2.1 = a0.2.1, a0.2.2.1 = a0.2.2.1, a0.2.2.2.1 = a0.2.2.2.1, a0.2.2.2.2 = a0.2.2.2.2]) (st' := ⟨[(1, nV a1), (2, pV 0 0), (5, iV (lenI a1)), (6, aV 1)], [(1, .seq tLF q5), (0, .box [iC a0.1, iC a0.2.1, lC a0.2.2.1, lC a0.2.2.2.1, lC a0.2.2.2.2])], 2⟩) hO (fun h => by cases h) (by kernel_rfl) ⟨rfl, rfl, hq6, rfl, rfl, rfl, rfl, rfl, trivial⟩).ht ?_
  refine HT.seq ?_
  refine HT.rg2 (oHs 3) ⟨[(1, nV a1), (2, pV 0 0), (6, aV 1), (7, iV (wsub .i64 (lenI a1) (1 : Int)))], [(1, .seq tLF q5), (0, .box [iC a0.1, iC a0.2.1, lC a0.2.2.1, lC a0.2.2.2.1, lC a0.2.2.2.2])], 2⟩ hX (by kernel_rfl) allNil ?_
  refine HT.block ?_
  obtain ⟨r8, hL40, hr⟩ := of_bind hr
  refine HT.loopL (fun (s7 : Int × List (List Nat)) => ⟨[(1, nV a1), (2, pV 0 0), (6, aV 1), (7, iV s7.1)], [(0, .box [iC a0.1, iC a0.2.1, lC a0.2.2.1, lC a0.2.2.2.1, lC a0.2.2.2.2]), (1, .seq tLF s7.2)], 2⟩) (fun (r9 : List (List Nat)) => (.exit 0, ⟨[(6, aV 0)], [(0, .seq tLF r9)], 1⟩)) (Le.re [(0, 0), (1, 1)] [] hX (by kernel_rfl)) hL40 ?_ (fun s7 x10 hx11 hk12 => ?_)
  · refine (qBlockX (qThen ?_))
    refine HT.rg2 (oHs 2) ⟨[(4, aV 0)], [(0, .seq tLF r8)], 1⟩ hX (by kernel_rfl) allNil ?_
    have hr := of_some hr
    subst hr
    refine (Le.rz [] [] (st' := ⟨[(4, .one (.dat (.sl tLF) r8))], [], 1⟩) hX hF (by kernel_rfl)).ht ?_
    exact HT.ret ⟨[.one (.dat (.sl tLF) r8)], [], [], by kernel_rfl, by kernel_rfl, rfl, by kernel_rfl, by kernel_rfl, trivial⟩
  · refine HT.seq ?_
    refine HT.rg2 (oHs 2) ⟨[(1, nV a1), (2, pV 0 0), (6, aV 1), (7, iV s7.1), (26, bV (decide (s7.1 ≥ (0 : Int))))], [(0, .box [iC a0.1, iC a0.2.1, lC a0.2.2.1, lC a0.2.2.2.1, lC a0.2.2.2.2]), (1, .seq tLF s7.2)], 2⟩ hX (by kernel_rfl) allNil ?_
    rcases of_bif hx11 with ⟨hb13, hx11⟩ | ⟨hb13, hx11⟩
    · refine HT.cond1 rfl hb13 ?_
      refine HT.skip (qThen ?_)
      refine HT.seq ?_
      refine HT.block ?_
      obtain ⟨hg14, hx11⟩ := of_guard hx11
      refine HT.rg2 [oH, oH, ⟨none, .ty tF⟩, oH] ⟨[(1, nV a1), (2, pV 0 0), (6, aV 1), (7, iV s7.1), (8, aV 2)], [(2, .seq tF (List.replicate (Int.toNat a0.1) (0 : Nat))), (0, .box [iC a0.1, iC a0.2.1, lC a0.2.2.1, lC a0.2.2.2.1, lC a0.2.2.2.2]), (1, .seq tLF s7.2)], 3⟩ hX (by kernel_rfl) (allCons (show (0 : Int) ≤ a0.1 ∧ a0.1 ≤ a0.1 ∧ a0.1 ≤ 4294967296 from ⟨hg14.1, Int.le_refl _, hg14.2⟩) allNil) ?_
      refine HT.seq ?_
      refine HT.rg2 (oHs 3) ⟨[(1, nV a1), (2, pV 0 0), (6, aV 1), (7, iV s7.1), (8, aV 2), (33, iV a0.1), (34, iV (0 : Int))], [(2, .seq tF (List.replicate (Int.toNat a0.1) (0 : Nat))), (0, .box [iC a0.1, iC a0.2.1, lC a0.2.2.1, lC a0.2.2.2.1, lC a0.2.2.2.2]), (1, .seq tLF s7.2)], 3⟩ hX (by kernel_rfl) allNil ?_
      refine HT.block ?_
      obtain ⟨r16, hL39, hx11⟩ := of_bind hx11
      refine HT.loopL (fun (s15 : Int × List Nat) => ⟨[(1, nV a1), (2, pV 0 0), (6, aV 1), (7, iV s7.1), (8, aV 2), (33, iV a0.1), (34, iV s15.1)], [(0, .box [iC a0.1, iC a0.2.1, lC a0.2.2.1, lC a0.2.2.2.1, lC a0.2.2.2.2]), (1, .seq tLF s7.2), (2, .seq tF s15.2)], 3⟩) (fun (r17 : List Nat) => (.exit 2, ⟨[(1, nV a1), (2, pV 0 0), (6, aV 1), (7, iV s7.1), (8, aV 2)], [(0, .box [iC a0.1, iC a0.2.1, lC a0.2.2.1, lC a0.2.2.2.1, lC a0.2.2.2.2]), (1, .seq tLF s7.2), (2, .seq tF r17)], 3⟩)) (Le.re [(0, 0), (1, 1), (2, 2)] [] hX (by kernel_rfl)) hL39 ?_ (fun s15 x19 hx20 hk21 => ?_)
      · refine (qBlockX (qThen ?_))
        refine (Le.rz [(0, 0), (1, 1)] [] (st' := ⟨[(1, nV a1), (2, pV 0 0), (6, aV 1), (7, iV s7.1), (8, lV r16)], [(0, .box [iC a0.1, iC a0.2.1, lC a0.2.2.1, lC a0.2.2.2.1, lC a0.2.2.2.2]), (1, .seq tLF s7.2)], 3⟩) hX hF (by kernel_rfl)).ht ?_
        obtain ⟨hg18, hx11⟩ := of_guard hx11
        refine HT.rgL (oHs 5) ⟨[(1, nV a1), (2, pV 0 0), (6, aV 1), (7, iV s7.1)], [(1, .seq tLF (List.set s7.2 (Int.toNat s7.1) r16)), (0, .box [iC a0.1, iC a0.2.1, lC a0.2.2.1, lC a0.2.2.2.1, lC a0.2.2.2.2])], 3⟩ hX (by kernel_rfl) (allCons hg18 (allCons (natLt hg18) allNil)) (qBlock (qThen ?_))
        have hx11 := of_some hx11
        subst hx11
        exact HT.rgK (oHs 3) [(0, 0), (1, 1)] [] hX (by kernel_rfl) allNil (fun _ h => (qLoopN ⟨((wsub .i64 s7.1 (1 : Int)), (List.set s7.2 (Int.toNat s7.1) r16)), rfl, h⟩))
      · refine HT.rg2 [oH] ⟨[(1, nV a1), (2, pV 0 0), (6, aV 1), (7, iV s7.1), (8, aV 2), (33, iV a0.1), (34, iV s15.1), (35, bV (decide (s15.1 < a0.1)))], [(0, .box [iC a0.1, iC a0.2.1, lC a0.2.2.1, lC a0.2.2.2.1, lC a0.2.2.2.2]), (1, .seq tLF s7.2), (2, .seq tF s15.2)], 3⟩ hX (by kernel_rfl) allNil ?_
        refine HT.seq ?_
        rcases of_bif hx20 with ⟨hb22, hx20⟩ | ⟨hb22, hx20⟩
        · refine HT.cond1 rfl hb22 ?_
          refine HT.skip (qThen ?_)
          refine HT.seq ?_
          refine HT.block ?_
          refine HT.rg2 (oHs 2) ⟨[(1, nV a1), (2, pV 0 0), (6, aV 1), (7, iV s7.1), (8, aV 2), (9, iV s15.1), (33, iV a0.1), (34, iV s15.1)], [(0, .box [iC a0.1, iC a0.2.1, lC a0.2.2.1, lC a0.2.2.2.1, lC a0.2.2.2.2]), (1, .seq tLF s7.2), (2, .seq tF s15.2)], 3⟩ hX (by kernel_rfl) allNil ?_
          refine HT.rg2 (oHs 3) ⟨[(1, nV a1), (2, pV 0 0), (6, aV 1), (7, iV s7.1), (8, aV 2), (9, iV s15.1), (33, iV a0.1), (34, iV s15.1), (38, iV a0.1), (39, iV (0 : Int))], [(0, .box [iC a0.1, iC a0.2.1, lC a0.2.2.1, lC a0.2.2.2.1, lC a0.2.2.2.2]), (1, .seq tLF s7.2), (2, .seq tF s15.2)], 3⟩ hX (by kernel_rfl) allNil ?_
          refine HT.block ?_
          obtain ⟨r24, hL38, hx20⟩ := of_bind hx20
          refine HT.loopL (fun (s23 : Int × List Nat) => ⟨[(1, nV a1), (2, pV 0 0), (6, aV 1), (7, iV s7.1), (8, aV 2), (9, iV s15.1), (33, iV a0.1), (34, iV s15.1), (38, iV a0.1), (39, iV s23.1)], [(0, .box [iC a0.1, iC a0.2.1, lC a0.2.2.1, lC a0.2.2.2.1, lC a0.2.2.2.2]), (1, .seq tLF s7.2), (2, .seq tF s23.2)], 3⟩) (fun (r25 : List Nat) => (.exit 4, ⟨[(1, nV a1), (2, pV 0 0), (6, aV 1), (7, iV s7.1), (8, aV 2), (33, iV a0.1), (34, iV s15.1)], [(0, .box [iC a0.1, iC a0.2.1, lC a0.2.2.1, lC a0.2.2.2.1, lC a0.2.2.2.2]), (1, .seq tLF s7.2), (2, .seq tF r25)], 3⟩)) (Le.re [(0, 0), (1, 1), (2, 2)] [] hX (by kernel_rfl)) hL38 ?_ (fun s23 x26 hx27 hk28 => ?_)
          · refine (qBlockX (qBlock (qThen ?_)))
            have hx20 := of_some hx20
            subst hx20
            exact HT.rgK (oHs 2) [(0, 0), (1, 1), (2, 2)] [] hX (by kernel_rfl) allNil (fun _ h => (qLoopN ⟨((wadd .i64 s15.1 (1 : Int)), r24), rfl, h⟩))
          · refine HT.rg2 [oH] ⟨[(1, nV a1), (2, pV 0 0), (6, aV 1), (7, iV s7.1), (8, aV 2), (9, iV s15.1), (33, iV a0.1), (34, iV s15.1), (38, iV a0.1), (39, iV s23.1), (40, bV (decide (s23.1 < a0.1)))], [(0, .box [iC a0.1, iC a0.2.1, lC a0.2.2.1, lC a0.2.2.2.1, lC a0.2.2.2.2]), (1, .seq tLF s7.2), (2, .seq tF s23.2)], 3⟩ hX (by kernel_rfl) allNil ?_
            refine HT.seq ?_
            rcases of_bif hx27 with ⟨hb29, hx27⟩ | ⟨hb29, hx27⟩
            · refine HT.cond1 rfl hb29 ?_
              refine HT.skip (qThen ?_)
              refine HT.seq ?_
              refine HT.block ?_
              refine HT.rg2 (oHs 2) ⟨[(1, nV a1), (2, pV 0 0), (6, aV 1), (7, iV s7.1), (8, aV 2), (9, iV s15.1), (10, iV s23.1), (33, iV a0.1), (34, iV s15.1), (38, iV a0.1), (39, iV s23.1)], [(0, .box [iC a0.1, iC a0.2.1, lC a0.2.2.1, lC a0.2.2.2.1, lC a0.2.2.2.2]), (1, .seq tLF s7.2), (2, .seq tF s23.2)], 3⟩ hX (by kernel_rfl) allNil ?_
              obtain ⟨hg30, hx27⟩ := of_guard hx27
              obtain ⟨hg31, hx27⟩ := of_guard hx27
              obtain ⟨y32, hc33, hx27⟩ := of_bind hx27
              obtain ⟨y34, hc35, hx27⟩ := of_bind hx27
              obtain ⟨hg36, hx27⟩ := of_guard hx27
              obtain ⟨hg37, hx27⟩ := of_guard hx27
              refine HT.drL 28 [⟨oH, []⟩, ⟨oH, []⟩, ⟨oH, []⟩, ⟨oH, []⟩, ⟨oH, [2, 3]⟩, ⟨oH, [2, 3, 4]⟩, ⟨oH, []⟩, ⟨oH, []⟩, ⟨oH, []⟩, ⟨oH, []⟩, ⟨oH, [8, 9]⟩, ⟨oH, [8, 9, 10]⟩, ⟨⟨none, .call [.imm (.st (.pair tI (.pair tI (.pair tLF (.pair tLF tLF))))), .imm tI, .imm tI] [⟨false, tF, y32⟩] []⟩, [6, 7, 8, 9, 10, 11]⟩, ⟨oH, []⟩, ⟨oH, []⟩, ⟨oH, []⟩, ⟨⟨none, .call [.imm (.st (.pair tI (.pair tI (.pair tLF (.pair tLF tLF))))), .imm tI, .imm tI] [⟨false, tF, y34⟩] []⟩, [6, 7, 8, 9, 10, 11, 12, 13, 14, 15]⟩, ⟨oH, [6, 7, 8, 9, 10, 11, 12, 13, 14, 15, 16]⟩, ⟨oH, []⟩, ⟨oH, []⟩, ⟨oH, [19]⟩, ⟨oH, [18, 19, 20]⟩, ⟨oH, [18, 19, 20, 21]⟩, ⟨oH, []⟩, ⟨oH, [18, 19, 20, 21, 22, 23]⟩, ⟨oH, [18, 19, 20, 21, 22, 23, 24]⟩, ⟨oH, [6, 7, 8, 9, 10, 11, 12, 13, 14, 15, 16, 17, 18, 19, 20, 21, 22, 23, 24, 25]⟩, ⟨oH, [2, 3, 4, 5, 6, 7, 8, 9, 10, 11, 12, 13, 14, 15, 16, 17, 18, 19, 20, 21, 22, 23, 24, 25, 26]⟩] [[0, 1, 2, 3, 4, 5, 6, 7, 8, 9, 10, 11, 12, 13, 14, 15, 16, 17, 18, 19, 20, 21, 22, 23, 24, 25, 26, 27], [0, 1, 2, 3, 4, 5, 6, 7, 8, 9, 10, 11, 12, 13, 14, 15, 16, 17, 18, 19, 20, 21, 22, 23, 24, 25, 26, 27, 28]] (oHs 2) ⟨[(1, nV a1), (2, pV 0 0), (6, aV 1), (7, iV s7.1), (8, aV 2), (9, iV s15.1), (33, iV a0.1), (34, iV s15.1), (38, iV a0.1), (39, iV s23.1)], [(2, .seq tF (List.set s23.2 (Int.toNat s15.1) (fop .add .f32 (List.getD s23.2 (Int.toNat s15.1) (0 : Nat)) (fop .mul .f32 (fop .mul .f32 y32 y34) (List.getD (List.getD s7.2 (Int.toNat (wadd .i64 s7.1 (1 : Int))) ([] : List Nat)) (Int.toNat s23.1) (0 : Nat)))))), (0, .box [iC a0.1, iC a0.2.1, lC a0.2.2.1, lC a0.2.2.2.1, lC a0.2.2.2.2]), (1, .seq tLF s7.2)], 3⟩ hX (by kernel_rfl) (by kernel_rfl) (allCons hg30 (allCons (natLt hg30) (allCons hg31 (allCons (f150_ok hc33) (allCons (f151_ok hc35) (allCons hg36 (allCons (natLt hg36) (allCons hg37 (allCons hg30 (allCons (natLt hg30) allNil)))))))))) (qBlock (qThen ?_))
              have hx27 := of_some hx27
              subst hx27
              exact HT.rgK (oHs 2) [(0, 0), (1, 1), (2, 2)] [] hX (by kernel_rfl) allNil (fun _ h => (qLoopN ⟨((wadd .i64 s23.1 (1 : Int)), (List.set s23.2 (Int.toNat s15.1) (fop .add .f32 (List.getD s23.2 (Int.toNat s15.1) (0 : Nat)) (fop .mul .f32 (fop .mul .f32 y32 y34) (List.getD (List.getD s7.2 (Int.toNat (wadd .i64 s7.1 (1 : Int))) ([] : List Nat)) (Int.toNat s23.1) (0 : Nat)))))), rfl, h⟩))
            · refine HT.cond0 rfl hb29 ?_
              have hx27 := of_some hx27
              subst hx27
              exact HT.exitL (Le.re [(0, 0), (1, 1), (2, 2)] [] hX (by kernel_rfl)) (qThenE (qLoopE (hk28 s23.2 rfl)))
        · refine HT.cond0 rfl hb22 ?_
          have hx20 := of_some hx20
          subst hx20
          exact HT.exitL (Le.re [(0, 0), (1, 1), (2, 2)] [] hX (by kernel_rfl)) (qThenE (qLoopE (hk21 s15.2 rfl)))
    · refine HT.cond0 rfl hb13 ?_
      have hx11 := of_some hx11
      subst hx11
      exact HT.exitL (Le.re [(1, 0)] [] hX (by kernel_rfl)) (qThenE (qLoopE (hk12 s7.2 rfl)))

noncomputable def impl_addUp_B1 (a0 : List Nat) (s1 : Nat × Int) : Option ((Nat × Int) ⊕ (Nat)) :=
  bif (decide (s1.2 < (lenI a0))) then
    guardP ((0 : Int) ≤ s1.2 ∧ s1.2 < lenI a0) (
      some (.inl ((fop .add .f32 s1.1 (List.getD a0 (Int.toNat s1.2) (0 : Nat))), (wadd .i64 s1.2 (1 : Int)))))
  else
    some (.inr s1.1)

noncomputable def impl_addUp (a0 : List Nat) : Option (Nat) :=
  (rounds (impl_addUp_B1 a0) ((0 : Nat), (0 : Int))).bind fun r3 =>
  some r3

theorem f163_ok {a0 : List Nat} {r : Nat} (hr : impl_addUp a0 = some r) : CallOK Try.prog 163 [.imm tLF a0] [⟨false, tF, r⟩] [] := by
  unfold impl_addUp at hr
  refine CallOK.of_body (ts := [(false, tF)]) Try.func163 rfl (by kernel_rfl) (Nat.le_of_ble_eq_true (by kernel_rfl)) fun cx hP hN hO hF => ?_
  have hO : cx.own.map Prod.fst = [] := hO
  have hX := CxIs.mk hP hN hO
  have hF := hF rfl
  show HT cx ⟨[(0, lV a0)], [], 0⟩ _ _
  refine HT.rg2 [oH] ⟨[(0, lV a0)], [], 0⟩ hX (by kernel_rfl) allNil ?_
  refine HT.rg2 [oH] ⟨[(0, lV a0), (3, fV (0 : Nat))], [], 0⟩ hX (by kernel_rfl) allNil ?_
  refine HT.seq ?_
  refine HT.rg2 (oHs 3) ⟨[(3, fV (0 : Nat)), (6, lV a0), (7, iV (lenI a0)), (8, iV (0 : Int))], [], 0⟩ hX (by kernel_rfl) allNil ?_
  refine HT.block ?_
  obtain ⟨r2, hL9, hr⟩ := of_bind hr
  refine HT.loopL (fun (s1 : Nat × Int) => ⟨[(3, fV s1.1), (6, lV a0), (7, iV (lenI a0)), (8, iV s1.2)], [], 0⟩) (fun (r3 : Nat) => (.exit 0, ⟨[(3, fV r3)], [], 0⟩)) (Le.re [] [] hX (by kernel_rfl)) hL9 ?_ (fun s1 x4 hx5 hk6 => ?_)
  · refine (qBlockX (qThen ?_))
    refine HT.rg2 (oHs 2) ⟨[(2, fV r2)], [], 0⟩ hX (by kernel_rfl) allNil ?_
    have hr := of_some hr
    subst hr
    exact HT.ret ⟨[fV r2], [], [], by kernel_rfl, by kernel_rfl, rfl, by kernel_rfl, by kernel_rfl, trivial⟩
  · refine HT.rg2 [oH] ⟨[(3, fV s1.1), (6, lV a0), (7, iV (lenI a0)), (8, iV s1.2), (9, bV (decide (s1.2 < (lenI a0))))], [], 0⟩ hX (by kernel_rfl) allNil ?_
    refine HT.seq ?_
    rcases of_bif hx5 with ⟨hb7, hx5⟩ | ⟨hb7, hx5⟩
    · refine HT.cond1 rfl hb7 ?_
      refine HT.skip (qThen ?_)
      refine HT.seq ?_
      refine HT.block ?_
      obtain ⟨hg8, hx5⟩ := of_guard hx5
      refine HT.rg2 (oHs 3) ⟨[(3, fV s1.1), (5, fV (List.getD a0 (Int.toNat s1.2) (0 : Nat))), (6, lV a0), (7, iV (lenI a0)), (8, iV s1.2)], [], 0⟩ hX (by kernel_rfl) (allCons hg8 allNil) ?_
      refine HT.rgL (oHs 4) ⟨[(3, fV (fop .add .f32 s1.1 (List.getD a0 (Int.toNat s1.2) (0 : Nat)))), (6, lV a0), (7, iV (lenI a0)), (8, iV s1.2)], [], 0⟩ hX (by kernel_rfl) allNil (qBlock (qThen ?_))
      have hx5 := of_some hx5
      subst hx5
      exact HT.rgK (oHs 2) [] [] hX (by kernel_rfl) allNil (fun _ h => (qLoopN ⟨((fop .add .f32 s1.1 (List.getD a0 (Int.toNat s1.2) (0 : Nat))), (wadd .i64 s1.2 (1 : Int))), rfl, h⟩))
    · refine HT.cond0 rfl hb7 ?_
      have hx5 := of_some hx5
      subst hx5
      exact HT.exitL (Le.re [] [] hX (by kernel_rfl)) (qThenE (qLoopE (hk6 s1.1 rfl)))

noncomputable def impl_IsFinite (a0 : Nat) : Option (Bool) :=
  some (feq .f32 (fop .sub .f32 a0 a0) (0 : Nat))

theorem f152_ok {a0 : Nat} {r : Bool} (hr : impl_IsFinite a0 = some r) : CallOK Try.prog 152 [.imm tF a0] [⟨false, .bool, r⟩] [] := by
  unfold impl_IsFinite at hr
  refine CallOK.of_body (ts := [(false, .bool)]) Try.func152 rfl (by kernel_rfl) (Nat.le_of_ble_eq_true (by kernel_rfl)) fun cx hP hN hO hF => ?_
  have hO : cx.own.map Prod.fst = [] := hO
  have hX := CxIs.mk hP hN hO
  have hF := hF rfl
  show HT cx ⟨[(0, fV a0)], [], 0⟩ _ _
  refine HT.rg2 [oH] ⟨[(0, fV a0)], [], 0⟩ hX (by kernel_rfl) allNil ?_
  refine HT.rg2 (oHs 5) ⟨[(2, bV (feq .f32 (fop .sub .f32 a0 a0) (0 : Nat)))], [], 0⟩ hX (by kernel_rfl) allNil ?_
  have hr := of_some hr
  subst hr
  exact HT.ret ⟨[bV (feq .f32 (fop .sub .f32 a0 a0) (0 : Nat))], [], [], by kernel_rfl, by kernel_rfl, rfl, by kernel_rfl, by kernel_rfl, trivial⟩

noncomputable def impl_areFinite_1 (a0 : Nat) : Option (Bool) :=
  (impl_IsFinite a0).bind fun y1 =>
  some (!y1)

theorem f219_ok {a0 : Nat} {r : Bool} (hr : impl_areFinite_1 a0 = some r) : CallOK Try.prog 219 [.imm tF a0] [⟨false, .bool, r⟩] [] := by
  unfold impl_areFinite_1 at hr
  refine CallOK.of_body (ts := [(false, .bool)]) Try.func219 rfl (by kernel_rfl) (Nat.le_of_ble_eq_true (by kernel_rfl)) fun cx hP hN hO hF => ?_
  have hO : cx.own.map Prod.fst = [] := hO
  have hX := CxIs.mk hP hN hO
  have hF := hF rfl
  show HT cx ⟨[(0, fV a0)], [], 0⟩ _ _
  refine HT.rg2 [oH] ⟨[(0, fV a0)], [], 0⟩ hX (by kernel_rfl) allNil ?_
  obtain ⟨y1, hc2, hr⟩ := of_bind hr
  refine HT.rg2 [oH, ⟨none, .call [.imm tF] [⟨false, .bool, y1⟩] []⟩, oH, oH] ⟨[(2, bV (!y1))], [], 0⟩ hX (by kernel_rfl) (allCons (f152_ok hc2) allNil) ?_
  have hr := of_some hr
  subst hr
  exact HT.ret ⟨[bV (!y1)], [], [], by kernel_rfl, by kernel_rfl, rfl, by kernel_rfl, by kernel_rfl, trivial⟩

noncomputable def slices_IndexFunc___float32_float32_fn1_impl_areFinite_1_B1 (a0 : List Nat) (s1 : Int) : Option ((Int) ⊕ (Unit ⊕ Int)) :=
  bif (decide (s1 < (lenI a0))) then
    guardP ((0 : Int) ≤ s1 ∧ s1 < lenI a0) (
      (impl_areFinite_1 (List.getD a0 (Int.toNat s1) (0 : Nat))).bind fun y10 =>
      bif y10 then
        some (.inr (.inr s1))
      else
        some (.inl (wadd .i64 s1 (1 : Int))))
  else
    some (.inr (.inl ()))

noncomputable def slices_IndexFunc___float32_float32_fn1_impl_areFinite_1 (a0 : List Nat) : Option (Int) :=
  (rounds (slices_IndexFunc___float32_float32_fn1_impl_areFinite_1_B1 a0) (0 : Int)).bind fun r2 => match r2 with
    | .inl r3 =>
      some (-1 : Int)
    | .inr r4 =>
      some r4

theorem f241_fn1_impl_areFinite_1_ok {a0 : List Nat} {r : Int} (hr : slices_IndexFunc___float32_float32_fn1_impl_areFinite_1 a0 = some r) : CallOK Try.prog 241 [.imm tLF a0, .fn 219] [⟨false, tI, r⟩] [] := by
  unfold slices_IndexFunc___float32_float32_fn1_impl_areFinite_1 at hr
  refine CallOK.of_body (ts := [(false, tI)]) Try.func241 rfl (by kernel_rfl) (Nat.le_of_ble_eq_true (by kernel_rfl)) fun cx hP hN hO hF => ?_
  have hO : cx.own.map Prod.fst = [] := hO
  have hX := CxIs.mk hP hN hO
  have hF := hF rfl
  show HT cx ⟨[(0, lV a0), (1, .one (.fn 219))], [], 0⟩ _ _
  refine HT.rg2 [oH] ⟨[(0, lV a0), (1, .one (.fn 219))], [], 0⟩ hX (by kernel_rfl) allNil ?_
  refine HT.seq ?_
  refine HT.rg2 (oHs 3) ⟨[(0, lV a0), (1, .one (.fn 219)), (7, iV (lenI a0)), (8, iV (0 : Int))], [], 0⟩ hX (by kernel_rfl) allNil ?_
  refine HT.block ?_
  obtain ⟨r2, hL13, hr⟩ := of_bind hr
  refine HT.loopL (fun (s1 : Int) => ⟨[(0, lV a0), (1, .one (.fn 219)), (7, iV (lenI a0)), (8, iV s1)], [], 0⟩) (fun (r2 : Unit ⊕ Int) => match r2 with | .inl r3 => (.exit 0, ⟨[], [], 0⟩) | .inr r4 => (.ret, ⟨[(4, iV r4)], [], 0⟩)) (Le.re [] [] hX (by kernel_rfl)) hL13 ?_ (fun s1 x5 hx6 hk7 => ?_)
  · rcases r2 with r3 | r4
    · refine (qBlockX (qThen ?_))
      refine HT.rg2 [oH] ⟨[(4, iV (-1 : Int))], [], 0⟩ hX (by kernel_rfl) allNil ?_
      have hr := of_some hr
      subst hr
      exact HT.ret ⟨[iV (-1 : Int)], [], [], by kernel_rfl, by kernel_rfl, rfl, by kernel_rfl, by kernel_rfl, trivial⟩
    · have hr := of_some hr
      subst hr
      exact (qBlockR (qThenR ⟨[iV r4], [], [], by kernel_rfl, by kernel_rfl, rfl, by kernel_rfl, by kernel_rfl, trivial⟩))
  · refine HT.rg2 [oH] ⟨[(0, lV a0), (1, .one (.fn 219)), (7, iV (lenI a0)), (8, iV s1), (9, bV (decide (s1 < (lenI a0))))], [], 0⟩ hX (by kernel_rfl) allNil ?_
    refine HT.seq ?_
    rcases of_bif hx6 with ⟨hb8, hx6⟩ | ⟨hb8, hx6⟩
    · refine HT.cond1 rfl hb8 ?_
      refine HT.skip (qThen ?_)
      refine HT.seq ?_
      refine HT.block ?_
      refine HT.rg2 (oHs 2) ⟨[(0, lV a0), (1, .one (.fn 219)), (5, iV s1), (7, iV (lenI a0)), (8, iV s1)], [], 0⟩ hX (by kernel_rfl) allNil ?_
      obtain ⟨hg9, hx6⟩ := of_guard hx6
      obtain ⟨y10, hc11, hx6⟩ := of_bind hx6
      refine HT.rg2 [oH, oH, oH, oH, oH, ⟨none, .call [.imm tF] [⟨false, .bool, y10⟩] []⟩] ⟨[(0, lV a0), (1, .one (.fn 219)), (5, iV s1), (7, iV (lenI a0)), (8, iV s1), (16, bV y10)], [], 0⟩ hX (by kernel_rfl) (allCons hg9 (allCons (f219_ok hc11) allNil)) ?_
      rcases of_bif hx6 with ⟨hb12, hx6⟩ | ⟨hb12, hx6⟩
      · refine HT.cond1 rfl hb12 ?_
        refine HT.rg2 (oHs 2) ⟨[(4, iV s1)], [], 0⟩ hX (by kernel_rfl) allNil ?_
        have hx6 := of_some hx6
        subst hx6
        exact HT.retL (Le.re [] [] hX (by kernel_rfl)) (qBlockR (qThenR (qLoopR (hk7 (.inr s1) rfl))))
      · refine HT.cond0 rfl hb12 ?_
        refine HT.skip (qBlock (qThen ?_))
        have hx6 := of_some hx6
        subst hx6
        exact HT.rgK (oHs 2) [] [] hX (by kernel_rfl) allNil (fun _ h => (qLoopN ⟨(wadd .i64 s1 (1 : Int)), rfl, h⟩))
    · refine HT.cond0 rfl hb8 ?_
      have hx6 := of_some hx6
      subst hx6
      exact HT.exitL (Le.re [] [] hX (by kernel_rfl)) (qThenE (qLoopE (hk7 (.inl ()) rfl)))

noncomputable def slices_ContainsFunc___float32_float32_fn1_impl_areFinite_1 (a0 : List Nat) : Option (Bool) :=
  (slices_IndexFunc___float32_float32_fn1_impl_areFinite_1 a0).bind fun y1 =>
  some (decide (y1 ≥ (0 : Int)))

theorem f218_fn1_impl_areFinite_1_ok {a0 : List Nat} {r : Bool} (hr : slices_ContainsFunc___float32_float32_fn1_impl_areFinite_1 a0 = some r) : CallOK Try.prog 218 [.imm tLF a0, .fn 219] [⟨false, .bool, r⟩] [] := by
  unfold slices_ContainsFunc___float32_float32_fn1_impl_areFinite_1 at hr
  refine CallOK.of_body (ts := [(false, .bool)]) Try.func218 rfl (by kernel_rfl) (Nat.le_of_ble_eq_true (by kernel_rfl)) fun cx hP hN hO hF => ?_
  have hO : cx.own.map Prod.fst = [] := hO
  have hX := CxIs.mk hP hN hO
  have hF := hF rfl
  show HT cx ⟨[(0, lV a0), (1, .one (.fn 219))], [], 0⟩ _ _
  refine HT.rg2 [oH] ⟨[(0, lV a0), (1, .one (.fn 219))], [], 0⟩ hX (by kernel_rfl) allNil ?_
  obtain ⟨y1, hc2, hr⟩ := of_bind hr
  refine HT.rg2 [oH, oH, ⟨none, .call [.imm tLF, .fn] [⟨false, tI, y1⟩] []⟩, oH, oH] ⟨[(4, bV (decide (y1 ≥ (0 : Int))))], [], 0⟩ hX (by kernel_rfl) (allCons (f241_fn1_impl_areFinite_1_ok hc2) allNil) ?_
  have hr := of_some hr
  subst hr
  exact HT.ret ⟨[bV (decide (y1 ≥ (0 : Int)))], [], [], by kernel_rfl, by kernel_rfl, rfl, by kernel_rfl, by kernel_rfl, trivial⟩

noncomputable def impl_areFinite (a0 : List Nat) : Option (Bool) :=
  (slices_ContainsFunc___float32_float32_fn1_impl_areFinite_1 a0).bind fun y1 =>
  some (!y1)

theorem f168_ok {a0 : List Nat} {r : Bool} (hr : impl_areFinite a0 = some r) : CallOK Try.prog 168 [.imm tLF a0] [⟨false, .bool, r⟩] [] := by
  unfold impl_areFinite at hr
  refine CallOK.of_body (ts := [(false, .bool)]) Try.func168 rfl (by kernel_rfl) (Nat.le_of_ble_eq_true (by kernel_rfl)) fun cx hP hN hO hF => ?_
  have hO : cx.own.map Prod.fst = [] := hO
  have hX := CxIs.mk hP hN hO
  have hF := hF rfl
  show HT cx ⟨[(0, lV a0)], [], 0⟩ _ _
  refine HT.rg2 [oH] ⟨[(0, lV a0)], [], 0⟩ hX (by kernel_rfl) allNil ?_
  obtain ⟨y1, hc2, hr⟩ := of_bind hr
  refine HT.rg2 [oH, ⟨none, .call [.imm tLF, .fn] [⟨false, .bool, y1⟩] []⟩, oH, oH] ⟨[(2, bV (!y1))], [], 0⟩ hX (by kernel_rfl) (allCons (f218_fn1_impl_areFinite_1_ok hc2) allNil) ?_
  have hr := of_some hr
  subst hr
  exact HT.ret ⟨[bV (!y1)], [], [], by kernel_rfl, by kernel_rfl, rfl, by kernel_rfl, by kernel_rfl, trivial⟩

noncomputable def impl_finiteList_mv0 (a0 : List Nat) : Option (List Nat × Bool) :=
  (impl_areFinite a0).bind fun y1 =>
  bif (!y1) then
    some (([] : List Nat), false)
  else
    some (a0, true)

theorem f158_mv0_ok {a0 : List Nat} {r : List Nat × Bool} (hr : impl_finiteList_mv0 a0 = some r) : CallOK Try.prog 158 [.mv tLF a0] [⟨true, tLF, r.1⟩, ⟨false, .bool, r.2⟩] [] := by
  unfold impl_finiteList_mv0 at hr
  refine CallOK.of_body (ts := [(true, tLF), (false, .bool)]) Try.func158 rfl (by kernel_rfl) (Nat.le_of_ble_eq_true (by kernel_rfl)) fun cx hP hN hO hF => ?_
  have hO : cx.own.map Prod.fst = [] := hO
  have hX := CxIs.mk hP hN hO
  show HT cx ⟨[(0, aV 0)], [(0, .seq tF a0)], 1⟩ _ _
  refine HT.rg2 (oHs 2) ⟨[(0, aV 0)], [(0, .seq tF a0)], 1⟩ hX (by kernel_rfl) allNil ?_
  refine HT.seq ?_
  obtain ⟨y1, hc2, hr⟩ := of_bind hr
  refine HT.rg2 [oH, ⟨none, .call [.imm tLF] [⟨false, .bool, y1⟩] []⟩, oH] ⟨[(0, aV 0), (6, bV (!y1))], [(0, .seq tF a0)], 1⟩ hX (by kernel_rfl) (allCons (f168_ok hc2) allNil) ?_
  rcases of_bif hr with ⟨hb3, hr⟩ | ⟨hb3, hr⟩
  · refine HT.cond1 rfl hb3 ?_
    refine HT.rg2 (oHs 2) ⟨[(2, .one (.nilS)), (3, bV false)], [], 1⟩ hX (by kernel_rfl) allNil ?_
    have hr := of_some hr
    subst hr
    exact HT.ret (qThenR ⟨[.one (.nilS), bV false], [], [], by kernel_rfl, by kernel_rfl, rfl, by kernel_rfl, by kernel_rfl, trivial⟩)
  · refine HT.cond0 rfl hb3 ?_
    refine HT.skip (qThen ?_)
    refine HT.rg2 (oHs 3) ⟨[(2, aV 0), (3, bV true)], [(0, .seq tF a0)], 1⟩ hX (by kernel_rfl) allNil ?_
    have hr := of_some hr
    subst hr
    exact HT.ret ⟨[aV 0, bV true], [0], [], by kernel_rfl, by kernel_rfl, rfl, by kernel_rfl, by kernel_rfl, trivial⟩

noncomputable def impl_shares_mv0_B1 (a0 : List Nat) (y1 : Nat) (s4 : Int × List Nat) : Option ((Int × List Nat) ⊕ (List Nat)) :=
  bif (decide (s4.1 < (lenI a0))) then
    guardP ((0 : Int) ≤ s4.1 ∧ s4.1 < lenI s4.2) (
      some (.inl ((wadd .i64 s4.1 (1 : Int)), (List.set s4.2 (Int.toNat s4.1) (fop .quo .f32 (List.getD s4.2 (Int.toNat s4.1) (0 : Nat)) y1)))))
  else
    some (.inr s4.2)

noncomputable def impl_shares_mv0 (a0 : List Nat) : Option (List Nat × Bool) :=
  (impl_addUp a0).bind fun y1 =>
  bif (!(fgt .f32 y1 (0 : Nat))) then
    some (([] : List Nat), false)
  else
    (rounds (impl_shares_mv0_B1 a0 y1) ((0 : Int), a0)).bind fun r6 =>
    (impl_finiteList_mv0 r6).bind fun y7 =>
    some (y7.1, y7.2)

theorem f206_mv0_ok {a0 : List Nat} {r : List Nat × Bool} (hr : impl_shares_mv0 a0 = some r) : CallOK Try.prog 206 [.mv tLF a0] [⟨true, tLF, r.1⟩, ⟨false, .bool, r.2⟩] [] := by
  unfold impl_shares_mv0 at hr
  refine CallOK.of_body (ts := [(true, tLF), (false, .bool)]) Try.func206 rfl (by kernel_rfl) (Nat.le_of_ble_eq_true (by kernel_rfl)) fun cx hP hN hO hF => ?_
  have hO : cx.own.map Prod.fst = [] := hO
  have hX := CxIs.mk hP hN hO
  show HT cx ⟨[(0, aV 0)], [(0, .seq tF a0)], 1⟩ _ _
  refine HT.rg2 (oHs 2) ⟨[(0, aV 0)], [(0, .seq tF a0)], 1⟩ hX (by kernel_rfl) allNil ?_
  obtain ⟨y1, hc2, hr⟩ := of_bind hr
  refine HT.rg2 [oH, ⟨none, .call [.imm tLF] [⟨false, tF, y1⟩] []⟩, oH] ⟨[(0, aV 0), (4, fV y1)], [(0, .seq tF a0)], 1⟩ hX (by kernel_rfl) (allCons (f163_ok hc2) allNil) ?_
  refine HT.seq ?_
  refine HT.rg2 (oHs 3) ⟨[(0, aV 0), (4, fV y1), (10, bV (!(fgt .f32 y1 (0 : Nat))))], [(0, .seq tF a0)], 1⟩ hX (by kernel_rfl) allNil ?_
  rcases of_bif hr with ⟨hb3, hr⟩ | ⟨hb3, hr⟩
  · refine HT.cond1 rfl hb3 ?_
    refine HT.rg2 (oHs 2) ⟨[(2, .one (.nilS)), (3, bV false)], [], 1⟩ hX (by kernel_rfl) allNil ?_
    have hr := of_some hr
    subst hr
    exact HT.ret (qThenR ⟨[.one (.nilS), bV false], [], [], by kernel_rfl, by kernel_rfl, rfl, by kernel_rfl, by kernel_rfl, trivial⟩)
  · refine HT.cond0 rfl hb3 ?_
    refine HT.skip (qThen ?_)
    refine HT.seq ?_
    refine HT.rg2 (oHs 3) ⟨[(0, aV 0), (4, fV y1), (12, iV (lenI a0)), (13, iV (0 : Int))], [(0, .seq tF a0)], 1⟩ hX (by kernel_rfl) allNil ?_
    refine HT.block ?_
    obtain ⟨r5, hL14, hr⟩ := of_bind hr
    refine HT.loopL (fun (s4 : Int × List Nat) => ⟨[(0, aV 0), (4, fV y1), (12, iV (lenI a0)), (13, iV s4.1)], [(0, .seq tF s4.2)], 1⟩) (fun (r6 : List Nat) => (.exit 0, ⟨[(0, aV 0)], [(0, .seq tF r6)], 1⟩)) (Le.re [(0, 0)] [] hX (by kernel_rfl)) hL14 ?_ (fun s4 x9 hx10 hk11 => ?_)
    · refine (qBlockX (qThen ?_))
      obtain ⟨y7, hc8, hr⟩ := of_bind hr
      refine HT.rg2 [oH, ⟨none, .call [.mv tLF] [⟨true, tLF, y7.1⟩, ⟨false, .bool, y7.2⟩] []⟩, oH, oH, oH, oH] ⟨[(2, aV 1), (3, bV y7.2)], [(1, .seq tF y7.1)], 2⟩ hX (by kernel_rfl) (allCons (f158_mv0_ok hc8) allNil) ?_
      have hr := of_some hr
      subst hr
      exact HT.ret ⟨[aV 1, bV y7.2], [1], [], by kernel_rfl, by kernel_rfl, rfl, by kernel_rfl, by kernel_rfl, trivial⟩
    · refine HT.rg2 [oH] ⟨[(0, aV 0), (4, fV y1), (12, iV (lenI a0)), (13, iV s4.1), (14, bV (decide (s4.1 < (lenI a0))))], [(0, .seq tF s4.2)], 1⟩ hX (by kernel_rfl) allNil ?_
      refine HT.seq ?_
      rcases of_bif hx10 with ⟨hb12, hx10⟩ | ⟨hb12, hx10⟩
      · refine HT.cond1 rfl hb12 ?_
        refine HT.skip (qThen ?_)
        refine HT.seq ?_
        refine HT.block ?_
        refine HT.rg2 (oHs 2) ⟨[(0, aV 0), (4, fV y1), (5, iV s4.1), (12, iV (lenI a0)), (13, iV s4.1)], [(0, .seq tF s4.2)], 1⟩ hX (by kernel_rfl) allNil ?_
        obtain ⟨hg13, hx10⟩ := of_guard hx10
        refine HT.rgL (oHs 10) ⟨[(0, aV 0), (4, fV y1), (12, iV (lenI a0)), (13, iV s4.1)], [(0, .seq tF (List.set s4.2 (Int.toNat s4.1) (fop .quo .f32 (List.getD s4.2 (Int.toNat s4.1) (0 : Nat)) y1)))], 1⟩ hX (by kernel_rfl) (allCons hg13 (allCons (natLt hg13) (allCons hg13 (allCons (natLt hg13) allNil)))) (qBlock (qThen ?_))
        have hx10 := of_some hx10
        subst hx10
        exact HT.rgK (oHs 2) [(0, 0)] [] hX (by kernel_rfl) allNil (fun _ h => (qLoopN ⟨((wadd .i64 s4.1 (1 : Int)), (List.set s4.2 (Int.toNat s4.1) (fop .quo .f32 (List.getD s4.2 (Int.toNat s4.1) (0 : Nat)) y1))), rfl, h⟩))
      · refine HT.cond0 rfl hb12 ?_
        have hx10 := of_some hx10
        subst hx10
        exact HT.exitL (Le.re [(0, 0)] [] hX (by kernel_rfl)) (qThenE (qLoopE (hk11 s4.2 rfl)))

noncomputable def impl_Model_hiddenAt_B1 (a1 : List Nat) (a2 : List Nat) (s1 : Int × List Nat) : Option ((Int × List Nat) ⊕ (List Nat)) :=
  bif (decide (s1.1 < (lenI a1))) then
    guardP ((0 : Int) ≤ s1.1 ∧ s1.1 < lenI a1) (
      guardP ((0 : Int) ≤ s1.1 ∧ s1.1 < lenI a2) (
        guardP (List.length s1.2 + List.length ([(fop .mul .f32 (List.getD a1 (Int.toNat s1.1) (0 : Nat)) (List.getD a2 (Int.toNat s1.1) (0 : Nat)))] : List Nat) ≤ appMax) (
          some (.inl ((wadd .i64 s1.1 (1 : Int)), (s1.2 ++ ([(fop .mul .f32 (List.getD a1 (Int.toNat s1.1) (0 : Nat)) (List.getD a2 (Int.toNat s1.1) (0 : Nat)))] : List Nat)))))))
  else
    some (.inr s1.2)

noncomputable def impl_Model_hiddenAt (a0 : Int × Int × List Nat × List Nat × List Nat) (a1 : List Nat) (a2 : List Nat) : Option (List Nat × Bool) :=
  (rounds (impl_Model_hiddenAt_B1 a1 a2) ((0 : Int), ([] : List Nat))).bind fun r3 =>
  (impl_shares_mv0 r3).bind fun y4 =>
  some (y4.1, y4.2)

theorem f145_ok {a0 : Int × Int × List Nat × List Nat × List Nat} {a1 : List Nat} {a2 : List Nat} {r : List Nat × Bool} (hr : impl_Model_hiddenAt a0 a1 a2 = some r) : CallOK Try.prog 145 [.imm (.st (.pair tI (.pair tI (.pair tLF (.pair tLF tLF))))) a0, .imm tLF a1, .imm tLF a2] [⟨true, tLF, r.1⟩, ⟨false, .bool, r.2⟩] [] := by
  unfold impl_Model_hiddenAt at hr
  refine CallOK.of_body (ts := [(true, tLF), (false, .bool)]) Try.func145 rfl (by kernel_rfl) (Nat.le_of_ble_eq_true (by kernel_rfl)) fun cx hP hN hO hF => ?_
  have hO : cx.own.map Prod.fst = [] := hO
  have hX := CxIs.mk hP hN hO
  have hF := hF rfl
  show HT cx ⟨[(0, .agg [iC a0.1, iC a0.2.1, lC a0.2.2.1, lC a0.2.2.2.1, lC a0.2.2.2.2]), (1, lV a1), (2, lV a2)], [], 0⟩ _ _
  refine HT.rg2 (oHs 3) ⟨[(1, lV a1), (2, lV a2)], [], 1⟩ hX (by kernel_rfl) allNil ?_
  refine HT.rg2 (oHs 2) ⟨[(1, lV a1), (2, lV a2), (8, .one (.nilS))], [], 1⟩ hX (by kernel_rfl) allNil ?_
  refine HT.seq ?_
  refine HT.rg2 (oHs 3) ⟨[(2, lV a2), (8, .one (.nilS)), (12, lV a1), (13, iV (lenI a1)), (14, iV (0 : Int))], [], 1⟩ hX (by kernel_rfl) allNil ?_
  refine HT.block ?_
  obtain ⟨r2, hL13, hr⟩ := of_bind hr
  refine HT.loopL (fun (s1 : Int × List Nat) => ⟨[(2, lV a2), (8, aV 0), (12, lV a1), (13, iV (lenI a1)), (14, iV s1.1)], [(0, .seq tF s1.2)], 1⟩) (fun (r3 : List Nat) => (.exit 0, ⟨[(8, aV 0)], [(0, .seq tF r3)], 1⟩)) (Le.re [] [0] hX (by kernel_rfl)) hL13 ?_ (fun s1 x6 hx7 hk8 => ?_)
  · refine (qBlockX (qThen ?_))
    obtain ⟨y4, hc5, hr⟩ := of_bind hr
    refine HT.rg2 [oH, ⟨none, .call [.mv tLF] [⟨true, tLF, y4.1⟩, ⟨false, .bool, y4.2⟩] []⟩, oH, oH, oH, oH] ⟨[(6, aV 1), (7, bV y4.2)], [(1, .seq tF y4.1)], 2⟩ hX (by kernel_rfl) (allCons (f206_mv0_ok hc5) allNil) ?_
    have hr := of_some hr
    subst hr
    exact HT.ret ⟨[aV 1, bV y4.2], [1], [], by kernel_rfl, by kernel_rfl, rfl, by kernel_rfl, by kernel_rfl, trivial⟩
  · refine HT.rg2 [oH] ⟨[(2, lV a2), (8, aV 0), (12, lV a1), (13, iV (lenI a1)), (14, iV s1.1), (15, bV (decide (s1.1 < (lenI a1))))], [(0, .seq tF s1.2)], 1⟩ hX (by kernel_rfl) allNil ?_
    refine HT.seq ?_
    rcases of_bif hx7 with ⟨hb9, hx7⟩ | ⟨hb9, hx7⟩
    · refine HT.cond1 rfl hb9 ?_
      refine HT.skip (qThen ?_)
      refine HT.seq ?_
      refine HT.block ?_
      obtain ⟨hg10, hx7⟩ := of_guard hx7
      refine HT.rg2 (oHs 5) ⟨[(2, lV a2), (8, aV 0), (9, iV s1.1), (10, fV (List.getD a1 (Int.toNat s1.1) (0 : Nat))), (12, lV a1), (13, iV (lenI a1)), (14, iV s1.1)], [(0, .seq tF s1.2)], 1⟩ hX (by kernel_rfl) (allCons hg10 allNil) ?_
      obtain ⟨hg11, hx7⟩ := of_guard hx7
      obtain ⟨hg12, hx7⟩ := of_guard hx7
      refine HT.rgL [oH, oH, oH, oH, oH, oH, oH, ⟨none, .ty tF⟩, ⟨none, .ty tF⟩, oH] ⟨[(2, lV a2), (8, aV 2), (12, lV a1), (13, iV (lenI a1)), (14, iV s1.1)], [(2, .seq tF (s1.2 ++ ([(fop .mul .f32 (List.getD a1 (Int.toNat s1.1) (0 : Nat)) (List.getD a2 (Int.toNat s1.1) (0 : Nat)))] : List Nat)))], 3⟩ hX (by kernel_rfl) (allCons hg11 (allCons hg12 allNil)) (qBlock (qThen ?_))
      have hx7 := of_some hx7
      subst hx7
      exact HT.rgK (oHs 2) [(2, 0)] [] hX (by kernel_rfl) allNil (fun _ h => (qLoopN ⟨((wadd .i64 s1.1 (1 : Int)), (s1.2 ++ ([(fop .mul .f32 (List.getD a1 (Int.toNat s1.1) (0 : Nat)) (List.getD a2 (Int.toNat s1.1) (0 : Nat)))] : List Nat))), rfl, h⟩))
    · refine HT.cond0 rfl hb9 ?_
      have hx7 := of_some hx7
      subst hx7
      exact HT.exitL (Le.re [(0, 0)] [] hX (by kernel_rfl)) (qThenE (qLoopE (hk8 s1.2 rfl)))

noncomputable def impl_within (a0 : Int) (a1 : Int) (a2 : Int) : Option (Bool) :=
  (show Option (Bool) from
    bif (decide (a0 ≥ a1)) then
      some (decide (a0 ≤ a2))
    else
      some false).bind fun v1 =>
  some v1

theorem f111_ok {a0 : Int} {a1 : Int} {a2 : Int} {r : Bool} (hr : impl_within a0 a1 a2 = some r) : CallOK Try.prog 111 [.imm tI a0, .imm tI a1, .imm tI a2] [⟨false, .bool, r⟩] [] := by
  unfold impl_within at hr
  refine CallOK.of_body (ts := [(false, .bool)]) Try.func111 rfl (by kernel_rfl) (Nat.le_of_ble_eq_true (by kernel_rfl)) fun cx hP hN hO hF => ?_
  have hO : cx.own.map Prod.fst = [] := hO
  have hX := CxIs.mk hP hN hO
  have hF := hF rfl
  show HT cx ⟨[(0, iV a0), (1, iV a1), (2, iV a2)], [], 0⟩ _ _
  refine HT.rg2 [oH] ⟨[(0, iV a0), (1, iV a1), (2, iV a2)], [], 0⟩ hX (by kernel_rfl) allNil ?_
  obtain ⟨v1', hT3, hr⟩ := of_bind hr
  refine HT.join (fun (v1 : Bool) => ⟨[(6, bV v1)], [], 0⟩) (fun v => v = v1') (fun v1 hv2 => ?_) (fun cont => ?_)
  · subst hv2
    have hr := of_some hr
    subst hr
    exact HT.ret ⟨[bV v1], [], [], by kernel_rfl, by kernel_rfl, rfl, by kernel_rfl, by kernel_rfl, trivial⟩
  · rcases of_bif hT3 with ⟨hb4, hT3⟩ | ⟨hb4, hT3⟩
    · exact HT.rgK [oH, oH, oH, oH, ⟨some true, .no⟩, ⟨some true, .no⟩, ⟨some true, .no⟩, ⟨none, .tv true⟩, oH] [] [] hX (by kernel_rfl) (allCons hb4 (allCons hb4 (allCons hb4 (allCons hb4 allNil)))) (fun _ h => (qThen (h.ht (cont (decide (a0 ≤ a2)) (of_some hT3)))))
    · exact HT.rgK [oH, oH, oH, oH, ⟨some false, .no⟩, ⟨some false, .no⟩, ⟨some false, .no⟩, ⟨none, .tv false⟩, oH] [] [] hX (by kernel_rfl) (allCons hb4 (allCons hb4 (allCons hb4 (allCons hb4 allNil)))) (fun _ h => (qThen (h.ht (cont false (of_some hT3)))))

noncomputable def impl_rowOf_float32 (a0 : List Nat) (a1 : Int) (a2 : Int) : Option (List Nat) :=
  guardP ((0 : Int) ≤ (wmul .i64 a2 a1) ∧ (wmul .i64 a2 a1) ≤ (wmul .i64 (wadd .i64 a2 (1 : Int)) a1) ∧ (wmul .i64 (wadd .i64 a2 (1 : Int)) a1) ≤ (wmul .i64 (wadd .i64 a2 (1 : Int)) a1) ∧ (wmul .i64 (wadd .i64 a2 (1 : Int)) a1) ≤ lenI a0) (
    some (cut a0 (wmul .i64 a2 a1) (wmul .i64 (wadd .i64 a2 (1 : Int)) a1)))

theorem f170_ok {a0 : List Nat} {a1 : Int} {a2 : Int} {r : List Nat} (hr : impl_rowOf_float32 a0 a1 a2 = some r) : CallOK Try.prog 170 [.imm tLF a0, .imm tI a1, .imm tI a2] [⟨false, tLF, r⟩] [] := by
  unfold impl_rowOf_float32 at hr
  refine CallOK.of_body (ts := [(false, tLF)]) Try.func170 rfl (by kernel_rfl) (Nat.le_of_ble_eq_true (by kernel_rfl)) fun cx hP hN hO hF => ?_
  have hO : cx.own.map Prod.fst = [] := hO
  have hX := CxIs.mk hP hN hO
  have hF := hF rfl
  show HT cx ⟨[(0, lV a0), (1, iV a1), (2, iV a2)], [], 0⟩ _ _
  refine HT.rg2 [oH] ⟨[(0, lV a0), (1, iV a1), (2, iV a2)], [], 0⟩ hX (by kernel_rfl) allNil ?_
  obtain ⟨hg1, hr⟩ := of_guard hr
  refine HT.rg2 (oHs 14) ⟨[(6, lV (cut a0 (wmul .i64 a2 a1) (wmul .i64 (wadd .i64 a2 (1 : Int)) a1)))], [], 0⟩ hX (by kernel_rfl) (allCons hg1 allNil) ?_
  have hr := of_some hr
  subst hr
  exact HT.ret ⟨[lV (cut a0 (wmul .i64 a2 a1) (wmul .i64 (wadd .i64 a2 (1 : Int)) a1))], [], [], by kernel_rfl, by kernel_rfl, rfl, by kernel_rfl, by kernel_rfl, trivial⟩

noncomputable def impl_absolute (a0 : Nat) : Option (Nat) :=
  bif (flt .f32 a0 (0 : Nat)) then
    some (fneg .f32 a0)
  else
    some a0

theorem f165_ok {a0 : Nat} {r : Nat} (hr : impl_absolute a0 = some r) : CallOK Try.prog 165 [.imm tF a0] [⟨false, tF, r⟩] [] := by
  unfold impl_absolute at hr
  refine CallOK.of_body (ts := [(false, tF)]) Try.func165 rfl (by kernel_rfl) (Nat.le_of_ble_eq_true (by kernel_rfl)) fun cx hP hN hO hF => ?_
  have hO : cx.own.map Prod.fst = [] := hO
  have hX := CxIs.mk hP hN hO
  have hF := hF rfl
  show HT cx ⟨[(0, fV a0)], [], 0⟩ _ _
  refine HT.rg2 [oH] ⟨[(0, fV a0)], [], 0⟩ hX (by kernel_rfl) allNil ?_
  refine HT.seq ?_
  refine HT.rg2 (oHs 2) ⟨[(0, fV a0), (4, bV (flt .f32 a0 (0 : Nat)))], [], 0⟩ hX (by kernel_rfl) allNil ?_
  rcases of_bif hr with ⟨hb1, hr⟩ | ⟨hb1, hr⟩
  · refine HT.cond1 rfl hb1 ?_
    refine HT.rg2 (oHs 3) ⟨[(2, fV (fneg .f32 a0))], [], 0⟩ hX (by kernel_rfl) allNil ?_
    have hr := of_some hr
    subst hr
    exact HT.ret (qThenR ⟨[fV (fneg .f32 a0)], [], [], by kernel_rfl, by kernel_rfl, rfl, by kernel_rfl, by kernel_rfl, trivial⟩)
  · refine HT.cond0 rfl hb1 ?_
    refine HT.skip (qThen ?_)
    refine HT.rg2 (oHs 2) ⟨[(2, fV a0)], [], 0⟩ hX (by kernel_rfl) allNil ?_
    have hr := of_some hr
    subst hr
    exact HT.ret ⟨[fV a0], [], [], by kernel_rfl, by kernel_rfl, rfl, by kernel_rfl, by kernel_rfl, trivial⟩

noncomputable def impl_areChances_B1 (a0 : List Nat) (s1 : Int) : Option ((Int) ⊕ (Unit ⊕ Unit)) :=
  bif (decide (s1 < (lenI a0))) then
    guardP ((0 : Int) ≤ s1 ∧ s1 < lenI a0) (
      (show Option (Bool) from
        bif (fge .f32 (List.getD a0 (Int.toNat s1) (0 : Nat)) (0 : Nat)) then
          some (!(fle .f32 (List.getD a0 (Int.toNat s1) (0 : Nat)) (1065353216 : Nat)))
        else
          some true).bind fun v14 =>
      bif v14 then
        some (.inr (.inr ()))
      else
        some (.inl (wadd .i64 s1 (1 : Int))))
  else
    some (.inr (.inl ()))

noncomputable def impl_areChances (a0 : List Nat) : Option (Bool) :=
  (rounds (impl_areChances_B1 a0) (0 : Int)).bind fun r2 => match r2 with
    | .inl r3 =>
      (impl_addUp a0).bind fun y4 =>
      (impl_absolute (fop .sub .f32 y4 (1065353216 : Nat))).bind fun y6 =>
      some (fle .f32 y6 (981668463 : Nat))
    | .inr r8 =>
      some false

theorem f211_ok {a0 : List Nat} {r : Bool} (hr : impl_areChances a0 = some r) : CallOK Try.prog 211 [.imm tLF a0] [⟨false, .bool, r⟩] [] := by
  unfold impl_areChances at hr
  refine CallOK.of_body (ts := [(false, .bool)]) Try.func211 rfl (by kernel_rfl) (Nat.le_of_ble_eq_true (by kernel_rfl)) fun cx hP hN hO hF => ?_
  have hO : cx.own.map Prod.fst = [] := hO
  have hX := CxIs.mk hP hN hO
  have hF := hF rfl
  show HT cx ⟨[(0, lV a0)], [], 0⟩ _ _
  refine HT.rg2 [oH] ⟨[(0, lV a0)], [], 0⟩ hX (by kernel_rfl) allNil ?_
  refine HT.seq ?_
  refine HT.rg2 (oHs 3) ⟨[(0, lV a0), (5, lV a0), (6, iV (lenI a0)), (7, iV (0 : Int))], [], 0⟩ hX (by kernel_rfl) allNil ?_
  refine HT.block ?_
  obtain ⟨r2, hL19, hr⟩ := of_bind hr
  refine HT.loopL (fun (s1 : Int) => ⟨[(0, lV a0), (5, lV a0), (6, iV (lenI a0)), (7, iV s1)], [], 0⟩) (fun (r2 : Unit ⊕ Unit) => match r2 with | .inl r3 => (.exit 0, ⟨[(0, lV a0)], [], 0⟩) | .inr r8 => (.ret, ⟨[(2, bV false)], [], 0⟩)) (Le.re [] [] hX (by kernel_rfl)) hL19 ?_ (fun s1 x9 hx10 hk11 => ?_)
  · rcases r2 with r3 | r8
    · refine (qBlockX (qThen ?_))
      obtain ⟨y4, hc5, hr⟩ := of_bind hr
      obtain ⟨y6, hc7, hr⟩ := of_bind hr
      refine HT.rg2 [oH, ⟨none, .call [.imm tLF] [⟨false, tF, y4⟩] []⟩, oH, ⟨none, .call [.imm tF] [⟨false, tF, y6⟩] []⟩, oH, oH] ⟨[(2, bV (fle .f32 y6 (981668463 : Nat)))], [], 0⟩ hX (by kernel_rfl) (allCons (f163_ok hc5) (allCons (f165_ok hc7) allNil)) ?_
      have hr := of_some hr
      subst hr
      exact HT.ret ⟨[bV (fle .f32 y6 (981668463 : Nat))], [], [], by kernel_rfl, by kernel_rfl, rfl, by kernel_rfl, by kernel_rfl, trivial⟩
    · have hr := of_some hr
      subst hr
      exact (qBlockR (qThenR ⟨[bV false], [], [], by kernel_rfl, by kernel_rfl, rfl, by kernel_rfl, by kernel_rfl, trivial⟩))
  · refine HT.rg2 [oH] ⟨[(0, lV a0), (5, lV a0), (6, iV (lenI a0)), (7, iV s1), (8, bV (decide (s1 < (lenI a0))))], [], 0⟩ hX (by kernel_rfl) allNil ?_
    refine HT.seq ?_
    rcases of_bif hx10 with ⟨hb12, hx10⟩ | ⟨hb12, hx10⟩
    · refine HT.cond1 rfl hb12 ?_
      refine HT.skip (qThen ?_)
      refine HT.seq ?_
      refine HT.block ?_
      obtain ⟨hg13, hx10⟩ := of_guard hx10
      refine HT.rg2 (oHs 3) ⟨[(0, lV a0), (4, fV (List.getD a0 (Int.toNat s1) (0 : Nat))), (5, lV a0), (6, iV (lenI a0)), (7, iV s1)], [], 0⟩ hX (by kernel_rfl) (allCons hg13 allNil) ?_
      obtain ⟨v14', hT16, hx10⟩ := of_bind hx10
      refine HT.join (fun (v14 : Bool) => ⟨[(0, lV a0), (5, lV a0), (6, iV (lenI a0)), (7, iV s1), (17, bV v14)], [], 0⟩) (fun v => v = v14') (fun v14 hv15 => ?_) (fun cont => ?_)
      · subst hv15
        rcases of_bif hx10 with ⟨hb17, hx10⟩ | ⟨hb17, hx10⟩
        · refine HT.cond1 rfl hb17 ?_
          refine HT.rg2 [oH] ⟨[(2, bV false)], [], 0⟩ hX (by kernel_rfl) allNil ?_
          have hx10 := of_some hx10
          subst hx10
          exact HT.retL (Le.re [] [] hX (by kernel_rfl)) (qBlockR (qThenR (qLoopR (hk11 (.inr ()) rfl))))
        · refine HT.cond0 rfl hb17 ?_
          refine HT.skip (qBlock (qThen ?_))
          have hx10 := of_some hx10
          subst hx10
          exact HT.rgK (oHs 2) [] [] hX (by kernel_rfl) allNil (fun _ h => (qLoopN ⟨(wadd .i64 s1 (1 : Int)), rfl, h⟩))
      · rcases of_bif hT16 with ⟨hb18, hT16⟩ | ⟨hb18, hT16⟩
        · exact HT.rgK [oH, oH, oH, ⟨some true, .no⟩, ⟨some true, .no⟩, ⟨none, .tv true⟩, oH] [] [] hX (by kernel_rfl) (allCons hb18 (allCons hb18 (allCons hb18 allNil))) (fun _ h => (qThen (h.ht (cont (!(fle .f32 (List.getD a0 (Int.toNat s1) (0 : Nat)) (1065353216 : Nat))) (of_some hT16)))))
        · exact HT.rgK [oH, oH, oH, ⟨some false, .no⟩, ⟨some false, .no⟩, ⟨none, .tv false⟩, oH] [] [] hX (by kernel_rfl) (allCons hb18 (allCons hb18 (allCons hb18 allNil))) (fun _ h => (qThen (h.ht (cont true (of_some hT16)))))
    · refine HT.cond0 rfl hb12 ?_
      have hx10 := of_some hx10
      subst hx10
      exact HT.exitL (Le.re [] [] hX (by kernel_rfl)) (qThenE (qLoopE (hk11 (.inl ()) rfl)))

noncomputable def impl_areRows_B1 (a0 : List Nat) (a1 : Int) (a2 : Int) (s2 : Int) : Option ((Int) ⊕ (Unit ⊕ Unit)) :=
  bif (decide (s2 < a1)) then
    (impl_rowOf_float32 a0 a2 s2).bind fun y10 =>
    (impl_areChances y10).bind fun y12 =>
    bif (!y12) then
      some (.inr (.inr ()))
    else
      some (.inl (wadd .i64 s2 (1 : Int)))
  else
    some (.inr (.inl ()))

noncomputable def impl_areRows (a0 : List Nat) (a1 : Int) (a2 : Int) : Option (Bool) :=
  bif ((lenI a0) != (wmul .i64 a1 a2)) then
    some false
  else
    (rounds (impl_areRows_B1 a0 a1 a2) (0 : Int)).bind fun r3 => match r3 with
      | .inl r4 =>
        some true
      | .inr r5 =>
        some false

theorem f160_ok {a0 : List Nat} {a1 : Int} {a2 : Int} {r : Bool} (hr : impl_areRows a0 a1 a2 = some r) : CallOK Try.prog 160 [.imm tLF a0, .imm tI a1, .imm tI a2] [⟨false, .bool, r⟩] [] := by
  unfold impl_areRows at hr
  refine CallOK.of_body (ts := [(false, .bool)]) Try.func160 rfl (by kernel_rfl) (Nat.le_of_ble_eq_true (by kernel_rfl)) fun cx hP hN hO hF => ?_
  have hO : cx.own.map Prod.fst = [] := hO
  have hX := CxIs.mk hP hN hO
  have hF := hF rfl
  show HT cx ⟨[(0, lV a0), (1, iV a1), (2, iV a2)], [], 0⟩ _ _
  refine HT.rg2 [oH] ⟨[(0, lV a0), (1, iV a1), (2, iV a2)], [], 0⟩ hX (by kernel_rfl) allNil ?_
  refine HT.seq ?_
  refine HT.rg2 (oHs 6) ⟨[(0, lV a0), (1, iV a1), (2, iV a2), (13, bV ((lenI a0) != (wmul .i64 a1 a2)))], [], 0⟩ hX (by kernel_rfl) allNil ?_
  rcases of_bif hr with ⟨hb1, hr⟩ | ⟨hb1, hr⟩
  · refine HT.cond1 rfl hb1 ?_
    refine HT.rg2 [oH] ⟨[(6, bV false)], [], 0⟩ hX (by kernel_rfl) allNil ?_
    have hr := of_some hr
    subst hr
    exact HT.ret (qThenR ⟨[bV false], [], [], by kernel_rfl, by kernel_rfl, rfl, by kernel_rfl, by kernel_rfl, trivial⟩)
  · refine HT.cond0 rfl hb1 ?_
    refine HT.skip (qThen ?_)
    refine HT.seq ?_
    refine HT.rg2 (oHs 2) ⟨[(0, lV a0), (2, iV a2), (14, iV a1), (15, iV (0 : Int))], [], 0⟩ hX (by kernel_rfl) allNil ?_
    refine HT.block ?_
    obtain ⟨r3, hL15, hr⟩ := of_bind hr
    refine HT.loopL (fun (s2 : Int) => ⟨[(0, lV a0), (2, iV a2), (14, iV a1), (15, iV s2)], [], 0⟩) (fun (r3 : Unit ⊕ Unit) => match r3 with | .inl r4 => (.exit 0, ⟨[], [], 0⟩) | .inr r5 => (.ret, ⟨[(6, bV false)], [], 0⟩)) (Le.re [] [] hX (by kernel_rfl)) hL15 ?_ (fun s2 x6 hx7 hk8 => ?_)
    · rcases r3 with r4 | r5
      · refine (qBlockX (qThen ?_))
        refine HT.rg2 [oH] ⟨[(6, bV true)], [], 0⟩ hX (by kernel_rfl) allNil ?_
        have hr := of_some hr
        subst hr
        exact HT.ret ⟨[bV true], [], [], by kernel_rfl, by kernel_rfl, rfl, by kernel_rfl, by kernel_rfl, trivial⟩
      · have hr := of_some hr
        subst hr
        exact (qBlockR (qThenR ⟨[bV false], [], [], by kernel_rfl, by kernel_rfl, rfl, by kernel_rfl, by kernel_rfl, trivial⟩))
    · refine HT.rg2 [oH] ⟨[(0, lV a0), (2, iV a2), (14, iV a1), (15, iV s2), (16, bV (decide (s2 < a1)))], [], 0⟩ hX (by kernel_rfl) allNil ?_
      refine HT.seq ?_
      rcases of_bif hx7 with ⟨hb9, hx7⟩ | ⟨hb9, hx7⟩
      · refine HT.cond1 rfl hb9 ?_
        refine HT.skip (qThen ?_)
        refine HT.seq ?_
        refine HT.block ?_
        refine HT.rg2 (oHs 2) ⟨[(0, lV a0), (2, iV a2), (7, iV s2), (14, iV a1), (15, iV s2)], [], 0⟩ hX (by kernel_rfl) allNil ?_
        obtain ⟨y10, hc11, hx7⟩ := of_bind hx7
        obtain ⟨y12, hc13, hx7⟩ := of_bind hx7
        refine HT.rg2 [oH, oH, oH, ⟨none, .call [.imm tLF, .imm tI, .imm tI] [⟨false, tLF, y10⟩] []⟩, ⟨none, .call [.imm tLF] [⟨false, .bool, y12⟩] []⟩, oH] ⟨[(0, lV a0), (2, iV a2), (14, iV a1), (15, iV s2), (23, bV (!y12))], [], 0⟩ hX (by kernel_rfl) (allCons (f170_ok hc11) (allCons (f211_ok hc13) allNil)) ?_
        rcases of_bif hx7 with ⟨hb14, hx7⟩ | ⟨hb14, hx7⟩
        · refine HT.cond1 rfl hb14 ?_
          refine HT.rg2 [oH] ⟨[(6, bV false)], [], 0⟩ hX (by kernel_rfl) allNil ?_
          have hx7 := of_some hx7
          subst hx7
          exact HT.retL (Le.re [] [] hX (by kernel_rfl)) (qBlockR (qThenR (qLoopR (hk8 (.inr ()) rfl))))
        · refine HT.cond0 rfl hb14 ?_
          refine HT.skip (qBlock (qThen ?_))
          have hx7 := of_some hx7
          subst hx7
          exact HT.rgK (oHs 2) [] [] hX (by kernel_rfl) allNil (fun _ h => (qLoopN ⟨(wadd .i64 s2 (1 : Int)), rfl, h⟩))
      · refine HT.cond0 rfl hb9 ?_
        have hx7 := of_some hx7
        subst hx7
        exact HT.exitL (Le.re [] [] hX (by kernel_rfl)) (qThenE (qLoopE (hk8 (.inl ()) rfl)))

noncomputable def impl_ValidModel (a0 : Int × Int × List Nat × List Nat × List Nat) : Option (Bool) :=
  (show Option (Bool) from
    (impl_within a0.1 (1 : Int) (5 : Int)).bind fun y4 =>
    bif y4 then
      (impl_within a0.2.1 (1 : Int) (4 : Int)).bind fun y7 =>
      bif y7 then
        (impl_areRows a0.2.2.1 (1 : Int) a0.1).bind fun y10 =>
        bif y10 then
          (impl_areRows a0.2.2.2.1 a0.1 a0.1).bind fun y13 =>
          bif y13 then
            (impl_areRows a0.2.2.2.2 a0.1 a0.2.1).bind fun y16 =>
            some y16
          else
            some false
        else
          some false
      else
        some false
    else
      some false).bind fun v1 =>
  some v1

theorem f70_ok {a0 : Int × Int × List Nat × List Nat × List Nat} {r : Bool} (hr : impl_ValidModel a0 = some r) : CallOK Try.prog 70 [.imm (.st (.pair tI (.pair tI (.pair tLF (.pair tLF tLF))))) a0] [⟨false, .bool, r⟩] [] := by
  unfold impl_ValidModel at hr
  refine CallOK.of_body (ts := [(false, .bool)]) Try.func70 rfl (by kernel_rfl) (Nat.le_of_ble_eq_true (by kernel_rfl)) fun cx hP hN hO hF => ?_
  have hO : cx.own.map Prod.fst = [] := hO
  have hX := CxIs.mk hP hN hO
  have hF := hF rfl
  show HT cx ⟨[(0, .agg [iC a0.1, iC a0.2.1, lC a0.2.2.1, lC a0.2.2.2.1, lC a0.2.2.2.2])], [], 0⟩ _ _
  refine HT.rg2 (oHs 2) ⟨[(1, pV 0 0)], [(0, .box [iC a0.1, iC a0.2.1, lC a0.2.2.1, lC a0.2.2.2.1, lC a0.2.2.2.2])], 1⟩ hX (by kernel_rfl) allNil ?_
  obtain ⟨v1', hT3, hr⟩ := of_bind hr
  refine HT.join (fun (v1 : Bool) => ⟨[(2, bV v1)], [], 0⟩) (fun v => v = v1') (fun v1 hv2 => ?_) (fun cont => ?_)
  · subst hv2
    have hr := of_some hr
    subst hr
    exact HT.ret ⟨[bV v1], [], [], by kernel_rfl, by kernel_rfl, rfl, by kernel_rfl, by kernel_rfl, trivial⟩
  · obtain ⟨y4, hc5, hT3⟩ := of_bind hT3
    rcases of_bif hT3 with ⟨hb6, hT3⟩ | ⟨hb6, hT3⟩
    · obtain ⟨y7, hc8, hT3⟩ := of_bind hT3
      rcases of_bif hT3 with ⟨hb9, hT3⟩ | ⟨hb9, hT3⟩
      · obtain ⟨y10, hc11, hT3⟩ := of_bind hT3
        rcases of_bif hT3 with ⟨hb12, hT3⟩ | ⟨hb12, hT3⟩
        · obtain ⟨y13, hc14, hT3⟩ := of_bind hT3
          rcases of_bif hT3 with ⟨hb15, hT3⟩ | ⟨hb15, hT3⟩
          · obtain ⟨y16, hc17, hT3⟩ := of_bind hT3
            exact HT.rgK [oH, oH, ⟨none, .call [.imm tI, .imm tI, .imm tI] [⟨false, .bool, y4⟩] []⟩, oH, ⟨some true, .no⟩, ⟨some true, .no⟩, ⟨some true, .call [.imm tI, .imm tI, .imm tI] [⟨false, .bool, y7⟩] []⟩, ⟨none, .tv true⟩, oH, ⟨some true, .no⟩, ⟨some true, .no⟩, ⟨some true, .no⟩, ⟨some true, .no⟩, ⟨some true, .call [.imm tLF, .imm tI, .imm tI] [⟨false, .bool, y10⟩] []⟩, ⟨none, .tv true⟩, oH, ⟨some true, .no⟩, ⟨some true, .no⟩, ⟨some true, .no⟩, ⟨some true, .no⟩, ⟨some true, .no⟩, ⟨some true, .no⟩, ⟨some true, .call [.imm tLF, .imm tI, .imm tI] [⟨false, .bool, y13⟩] []⟩, ⟨none, .tv true⟩, oH, ⟨some true, .no⟩, ⟨some true, .no⟩, ⟨some true, .no⟩, ⟨some true, .no⟩, ⟨some true, .no⟩, ⟨some true, .no⟩, ⟨some true, .call [.imm tLF, .imm tI, .imm tI] [⟨false, .bool, y16⟩] []⟩, ⟨none, .tv true⟩, oH] [] [] hX (by kernel_rfl) (allCons (f111_ok hc5) (allCons hb6 (allCons hb6 (allCons hb6 (allCons (f111_ok hc8) (allCons hb6 (allCons hb9 (allCons hb9 (allCons hb9 (allCons hb9 (allCons hb9 (allCons (f160_ok hc11) (allCons hb9 (allCons hb12 (allCons hb12 (allCons hb12 (allCons hb12 (allCons hb12 (allCons hb12 (allCons hb12 (allCons (f160_ok hc14) (allCons hb12 (allCons hb15 (allCons hb15 (allCons hb15 (allCons hb15 (allCons hb15 (allCons hb15 (allCons hb15 (allCons (f160_ok hc17) (allCons hb15 allNil))))))))))))))))))))))))))))))) (fun _ h => (qThen (h.ht (cont y16 (of_some hT3)))))
          · exact HT.rgK [oH, oH, ⟨none, .call [.imm tI, .imm tI, .imm tI] [⟨false, .bool, y4⟩] []⟩, oH, ⟨some true, .no⟩, ⟨some true, .no⟩, ⟨some true, .call [.imm tI, .imm tI, .imm tI] [⟨false, .bool, y7⟩] []⟩, ⟨none, .tv true⟩, oH, ⟨some true, .no⟩, ⟨some true, .no⟩, ⟨some true, .no⟩, ⟨some true, .no⟩, ⟨some true, .call [.imm tLF, .imm tI, .imm tI] [⟨false, .bool, y10⟩] []⟩, ⟨none, .tv true⟩, oH, ⟨some true, .no⟩, ⟨some true, .no⟩, ⟨some true, .no⟩, ⟨some true, .no⟩, ⟨some true, .no⟩, ⟨some true, .no⟩, ⟨some true, .call [.imm tLF, .imm tI, .imm tI] [⟨false, .bool, y13⟩] []⟩, ⟨none, .tv true⟩, oH, ⟨some false, .no⟩, ⟨some false, .no⟩, ⟨some false, .no⟩, ⟨some false, .no⟩, ⟨some false, .no⟩, ⟨some false, .no⟩, ⟨some false, .no⟩, ⟨none, .tv false⟩, oH] [] [] hX (by kernel_rfl) (allCons (f111_ok hc5) (allCons hb6 (allCons hb6 (allCons hb6 (allCons (f111_ok hc8) (allCons hb6 (allCons hb9 (allCons hb9 (allCons hb9 (allCons hb9 (allCons hb9 (allCons (f160_ok hc11) (allCons hb9 (allCons hb12 (allCons hb12 (allCons hb12 (allCons hb12 (allCons hb12 (allCons hb12 (allCons hb12 (allCons (f160_ok hc14) (allCons hb12 (allCons hb15 (allCons hb15 (allCons hb15 (allCons hb15 (allCons hb15 (allCons hb15 (allCons hb15 (allCons hb15 allNil)))))))))))))))))))))))))))))) (fun _ h => (qThen (h.ht (cont false (of_some hT3)))))
        · exact HT.rgK [oH, oH, ⟨none, .call [.imm tI, .imm tI, .imm tI] [⟨false, .bool, y4⟩] []⟩, oH, ⟨some true, .no⟩, ⟨some true, .no⟩, ⟨some true, .call [.imm tI, .imm tI, .imm tI] [⟨false, .bool, y7⟩] []⟩, ⟨none, .tv true⟩, oH, ⟨some true, .no⟩, ⟨some true, .no⟩, ⟨some true, .no⟩, ⟨some true, .no⟩, ⟨some true, .call [.imm tLF, .imm tI, .imm tI] [⟨false, .bool, y10⟩] []⟩, ⟨none, .tv true⟩, oH, ⟨some false, .no⟩, ⟨some false, .no⟩, ⟨some false, .no⟩, ⟨some false, .no⟩, ⟨some false, .no⟩, ⟨some false, .no⟩, ⟨some false, .no⟩, ⟨none, .tv false⟩, oH, ⟨some false, .no⟩, ⟨some false, .no⟩, ⟨some false, .no⟩, ⟨some false, .no⟩, ⟨some false, .no⟩, ⟨some false, .no⟩, ⟨some false, .no⟩, ⟨none, .tv false⟩, oH] [] [] hX (by kernel_rfl) (allCons (f111_ok hc5) (allCons hb6 (allCons hb6 (allCons hb6 (allCons (f111_ok hc8) (allCons hb6 (allCons hb9 (allCons hb9 (allCons hb9 (allCons hb9 (allCons hb9 (allCons (f160_ok hc11) (allCons hb9 (allCons hb12 (allCons hb12 (allCons hb12 (allCons hb12 (allCons hb12 (allCons hb12 (allCons hb12 (allCons hb12 (allCons (rfl : false = false) (allCons (rfl : false = false) (allCons (rfl : false = false) (allCons (rfl : false = false) (allCons (rfl : false = false) (allCons (rfl : false = false) (allCons (rfl : false = false) (allCons (rfl : false = false) allNil))))))))))))))))))))))))))))) (fun _ h => (qThen (h.ht (cont false (of_some hT3)))))
      · exact HT.rgK [oH, oH, ⟨none, .call [.imm tI, .imm tI, .imm tI] [⟨false, .bool, y4⟩] []⟩, oH, ⟨some true, .no⟩, ⟨some true, .no⟩, ⟨some true, .call [.imm tI, .imm tI, .imm tI] [⟨false, .bool, y7⟩] []⟩, ⟨none, .tv true⟩, oH, ⟨some false, .no⟩, ⟨some false, .no⟩, ⟨some false, .no⟩, ⟨some false, .no⟩, ⟨some false, .no⟩, ⟨none, .tv false⟩, oH, ⟨some false, .no⟩, ⟨some false, .no⟩, ⟨some false, .no⟩, ⟨some false, .no⟩, ⟨some false, .no⟩, ⟨some false, .no⟩, ⟨some false, .no⟩, ⟨none, .tv false⟩, oH, ⟨some false, .no⟩, ⟨some false, .no⟩, ⟨some false, .no⟩, ⟨some false, .no⟩, ⟨some false, .no⟩, ⟨some false, .no⟩, ⟨some false, .no⟩, ⟨none, .tv false⟩, oH] [] [] hX (by kernel_rfl) (allCons (f111_ok hc5) (allCons hb6 (allCons hb6 (allCons hb6 (allCons (f111_ok hc8) (allCons hb6 (allCons hb9 (allCons hb9 (allCons hb9 (allCons hb9 (allCons hb9 (allCons hb9 (allCons (rfl : false = false) (allCons (rfl : false = false) (allCons (rfl : false = false) (allCons (rfl : false = false) (allCons (rfl : false = false) (allCons (rfl : false = false) (allCons (rfl : false = false) (allCons (rfl : false = false) (allCons (rfl : false = false) (allCons (rfl : false = false) (allCons (rfl : false = false) (allCons (rfl : false = false) (allCons (rfl : false = false) (allCons (rfl : false = false) (allCons (rfl : false = false) (allCons (rfl : false = false) allNil)))))))))))))))))))))))))))) (fun _ h => (qThen (h.ht (cont false (of_some hT3)))))
    · exact HT.rgK [oH, oH, ⟨none, .call [.imm tI, .imm tI, .imm tI] [⟨false, .bool, y4⟩] []⟩, oH, ⟨some false, .no⟩, ⟨some false, .no⟩, ⟨some false, .no⟩, ⟨none, .tv false⟩, oH, ⟨some false, .no⟩, ⟨some false, .no⟩, ⟨some false, .no⟩, ⟨some false, .no⟩, ⟨some false, .no⟩, ⟨none, .tv false⟩, oH, ⟨some false, .no⟩, ⟨some false, .no⟩, ⟨some false, .no⟩, ⟨some false, .no⟩, ⟨some false, .no⟩, ⟨some false, .no⟩, ⟨some false, .no⟩, ⟨none, .tv false⟩, oH, ⟨some false, .no⟩, ⟨some false, .no⟩, ⟨some false, .no⟩, ⟨some false, .no⟩, ⟨some false, .no⟩, ⟨some false, .no⟩, ⟨some false, .no⟩, ⟨none, .tv false⟩, oH] [] [] hX (by kernel_rfl) (allCons (f111_ok hc5) (allCons hb6 (allCons hb6 (allCons hb6 (allCons hb6 (allCons (rfl : false = false) (allCons (rfl : false = false) (allCons (rfl : false = false) (allCons (rfl : false = false) (allCons (rfl : false = false) (allCons (rfl : false = false) (allCons (rfl : false = false) (allCons (rfl : false = false) (allCons (rfl : false = false) (allCons (rfl : false = false) (allCons (rfl : false = false) (allCons (rfl : false = false) (allCons (rfl : false = false) (allCons (rfl : false = false) (allCons (rfl : false = false) (allCons (rfl : false = false) (allCons (rfl : false = false) (allCons (rfl : false = false) (allCons (rfl : false = false) (allCons (rfl : false = false) (allCons (rfl : false = false) (allCons (rfl : false = false) allNil))))))))))))))))))))))))))) (fun _ h => (qThen (h.ht (cont false (of_some hT3)))))

noncomputable def impl_areWithin_B1 (a0 : List Int) (a1 : Int) (a2 : Int) (s1 : Int) : Option ((Int) ⊕ (Unit ⊕ Unit)) :=
  bif (decide (s1 < (lenI a0))) then
    guardP ((0 : Int) ≤ s1 ∧ s1 < lenI a0) (
      (impl_within (List.getD a0 (Int.toNat s1) (0 : Int)) a1 a2).bind fun y10 =>
      bif (!y10) then
        some (.inr (.inr ()))
      else
        some (.inl (wadd .i64 s1 (1 : Int))))
  else
    some (.inr (.inl ()))

noncomputable def impl_areWithin (a0 : List Int) (a1 : Int) (a2 : Int) : Option (Bool) :=
  (rounds (impl_areWithin_B1 a0 a1 a2) (0 : Int)).bind fun r2 => match r2 with
    | .inl r3 =>
      some true
    | .inr r4 =>
      some false

theorem f113_ok {a0 : List Int} {a1 : Int} {a2 : Int} {r : Bool} (hr : impl_areWithin a0 a1 a2 = some r) : CallOK Try.prog 113 [.imm tLI a0, .imm tI a1, .imm tI a2] [⟨false, .bool, r⟩] [] := by
  unfold impl_areWithin at hr
  refine CallOK.of_body (ts := [(false, .bool)]) Try.func113 rfl (by kernel_rfl) (Nat.le_of_ble_eq_true (by kernel_rfl)) fun cx hP hN hO hF => ?_
  have hO : cx.own.map Prod.fst = [] := hO
  have hX := CxIs.mk hP hN hO
  have hF := hF rfl
  show HT cx ⟨[(0, nV a0), (1, iV a1), (2, iV a2)], [], 0⟩ _ _
  refine HT.rg2 [oH] ⟨[(0, nV a0), (1, iV a1), (2, iV a2)], [], 0⟩ hX (by kernel_rfl) allNil ?_
  refine HT.seq ?_
  refine HT.rg2 (oHs 3) ⟨[(1, iV a1), (2, iV a2), (9, nV a0), (10, iV (lenI a0)), (11, iV (0 : Int))], [], 0⟩ hX (by kernel_rfl) allNil ?_
  refine HT.block ?_
  obtain ⟨r2, hL13, hr⟩ := of_bind hr
  refine HT.loopL (fun (s1 : Int) => ⟨[(1, iV a1), (2, iV a2), (9, nV a0), (10, iV (lenI a0)), (11, iV s1)], [], 0⟩) (fun (r2 : Unit ⊕ Unit) => match r2 with | .inl r3 => (.exit 0, ⟨[], [], 0⟩) | .inr r4 => (.ret, ⟨[(6, bV false)], [], 0⟩)) (Le.re [] [] hX (by kernel_rfl)) hL13 ?_ (fun s1 x5 hx6 hk7 => ?_)
  · rcases r2 with r3 | r4
    · refine (qBlockX (qThen ?_))
      refine HT.rg2 [oH] ⟨[(6, bV true)], [], 0⟩ hX (by kernel_rfl) allNil ?_
      have hr := of_some hr
      subst hr
      exact HT.ret ⟨[bV true], [], [], by kernel_rfl, by kernel_rfl, rfl, by kernel_rfl, by kernel_rfl, trivial⟩
    · have hr := of_some hr
      subst hr
      exact (qBlockR (qThenR ⟨[bV false], [], [], by kernel_rfl, by kernel_rfl, rfl, by kernel_rfl, by kernel_rfl, trivial⟩))
  · refine HT.rg2 [oH] ⟨[(1, iV a1), (2, iV a2), (9, nV a0), (10, iV (lenI a0)), (11, iV s1), (12, bV (decide (s1 < (lenI a0))))], [], 0⟩ hX (by kernel_rfl) allNil ?_
    refine HT.seq ?_
    rcases of_bif hx6 with ⟨hb8, hx6⟩ | ⟨hb8, hx6⟩
    · refine HT.cond1 rfl hb8 ?_
      refine HT.skip (qThen ?_)
      refine HT.seq ?_
      refine HT.block ?_
      obtain ⟨hg9, hx6⟩ := of_guard hx6
      refine HT.rg2 (oHs 3) ⟨[(1, iV a1), (2, iV a2), (8, iV (List.getD a0 (Int.toNat s1) (0 : Int))), (9, nV a0), (10, iV (lenI a0)), (11, iV s1)], [], 0⟩ hX (by kernel_rfl) (allCons hg9 allNil) ?_
      obtain ⟨y10, hc11, hx6⟩ := of_bind hx6
      refine HT.rg2 [oH, oH, oH, ⟨none, .call [.imm tI, .imm tI, .imm tI] [⟨false, .bool, y10⟩] []⟩, oH] ⟨[(1, iV a1), (2, iV a2), (9, nV a0), (10, iV (lenI a0)), (11, iV s1), (19, bV (!y10))], [], 0⟩ hX (by kernel_rfl) (allCons (f111_ok hc11) allNil) ?_
      rcases of_bif hx6 with ⟨hb12, hx6⟩ | ⟨hb12, hx6⟩
      · refine HT.cond1 rfl hb12 ?_
        refine HT.rg2 [oH] ⟨[(6, bV false)], [], 0⟩ hX (by kernel_rfl) allNil ?_
        have hx6 := of_some hx6
        subst hx6
        exact HT.retL (Le.re [] [] hX (by kernel_rfl)) (qBlockR (qThenR (qLoopR (hk7 (.inr ()) rfl))))
      · refine HT.cond0 rfl hb12 ?_
        refine HT.skip (qBlock (qThen ?_))
        have hx6 := of_some hx6
        subst hx6
        exact HT.rgK (oHs 2) [] [] hX (by kernel_rfl) allNil (fun _ h => (qLoopN ⟨(wadd .i64 s1 (1 : Int)), rfl, h⟩))
    · refine HT.cond0 rfl hb8 ?_
      have hx6 := of_some hx6
      subst hx6
      exact HT.exitL (Le.re [] [] hX (by kernel_rfl)) (qThenE (qLoopE (hk7 (.inl ()) rfl)))

noncomputable def impl_IsWord (a0 : List Int) (a1 : Int) : Option (Bool) :=
  (show Option (Bool) from
    (impl_within a1 (1 : Int) (4 : Int)).bind fun y4 =>
    bif y4 then
      bif (decide ((lenI a0) ≤ (12 : Int))) then
        (impl_areWithin a0 (0 : Int) (wsub .i64 a1 (1 : Int))).bind fun y8 =>
        some y8
      else
        some false
    else
      some false).bind fun v1 =>
  some v1

theorem f118_ok {a0 : List Int} {a1 : Int} {r : Bool} (hr : impl_IsWord a0 a1 = some r) : CallOK Try.prog 118 [.imm tLI a0, .imm tI a1] [⟨false, .bool, r⟩] [] := by
  unfold impl_IsWord at hr
  refine CallOK.of_body (ts := [(false, .bool)]) Try.func118 rfl (by kernel_rfl) (Nat.le_of_ble_eq_true (by kernel_rfl)) fun cx hP hN hO hF => ?_
  have hO : cx.own.map Prod.fst = [] := hO
  have hX := CxIs.mk hP hN hO
  have hF := hF rfl
  show HT cx ⟨[(0, nV a0), (1, iV a1)], [], 0⟩ _ _
  refine HT.rg2 [oH] ⟨[(0, nV a0), (1, iV a1)], [], 0⟩ hX (by kernel_rfl) allNil ?_
  obtain ⟨v1', hT3, hr⟩ := of_bind hr
  refine HT.join (fun (v1 : Bool) => ⟨[(4, bV v1)], [], 0⟩) (fun v => v = v1') (fun v1 hv2 => ?_) (fun cont => ?_)
  · subst hv2
    have hr := of_some hr
    subst hr
    exact HT.ret ⟨[bV v1], [], [], by kernel_rfl, by kernel_rfl, rfl, by kernel_rfl, by kernel_rfl, trivial⟩
  · obtain ⟨y4, hc5, hT3⟩ := of_bind hT3
    rcases of_bif hT3 with ⟨hb6, hT3⟩ | ⟨hb6, hT3⟩
    · rcases of_bif hT3 with ⟨hb7, hT3⟩ | ⟨hb7, hT3⟩
      · obtain ⟨y8, hc9, hT3⟩ := of_bind hT3
        exact HT.rgK [oH, ⟨none, .call [.imm tI, .imm tI, .imm tI] [⟨false, .bool, y4⟩] []⟩, oH, ⟨some true, .no⟩, ⟨some true, .no⟩, ⟨some true, .no⟩, ⟨none, .tv true⟩, oH, ⟨some true, .no⟩, ⟨some true, .no⟩, ⟨some true, .no⟩, ⟨some true, .call [.imm tLI, .imm tI, .imm tI] [⟨false, .bool, y8⟩] []⟩, ⟨none, .tv true⟩, oH] [] [] hX (by kernel_rfl) (allCons (f111_ok hc5) (allCons hb6 (allCons hb6 (allCons hb6 (allCons hb6 (allCons hb7 (allCons hb7 (allCons hb7 (allCons hb7 (allCons (f113_ok hc9) (allCons hb7 allNil))))))))))) (fun _ h => (qThen (h.ht (cont y8 (of_some hT3)))))
      · exact HT.rgK [oH, ⟨none, .call [.imm tI, .imm tI, .imm tI] [⟨false, .bool, y4⟩] []⟩, oH, ⟨some true, .no⟩, ⟨some true, .no⟩, ⟨some true, .no⟩, ⟨none, .tv true⟩, oH, ⟨some false, .no⟩, ⟨some false, .no⟩, ⟨some false, .no⟩, ⟨some false, .no⟩, ⟨none, .tv false⟩, oH] [] [] hX (by kernel_rfl) (allCons (f111_ok hc5) (allCons hb6 (allCons hb6 (allCons hb6 (allCons hb6 (allCons hb7 (allCons hb7 (allCons hb7 (allCons hb7 (allCons hb7 allNil)))))))))) (fun _ h => (qThen (h.ht (cont false (of_some hT3)))))
    · exact HT.rgK [oH, ⟨none, .call [.imm tI, .imm tI, .imm tI] [⟨false, .bool, y4⟩] []⟩, oH, ⟨some false, .no⟩, ⟨some false, .no⟩, ⟨some false, .no⟩, ⟨none, .tv false⟩, oH, ⟨some false, .no⟩, ⟨some false, .no⟩, ⟨some false, .no⟩, ⟨some false, .no⟩, ⟨none, .tv false⟩, oH] [] [] hX (by kernel_rfl) (allCons (f111_ok hc5) (allCons hb6 (allCons hb6 (allCons hb6 (allCons hb6 (allCons (rfl : false = false) (allCons (rfl : false = false) (allCons (rfl : false = false) (allCons (rfl : false = false) (allCons (rfl : false = false) allNil)))))))))) (fun _ h => (qThen (h.ht (cont false (of_some hT3)))))

noncomputable def impl_Model_has (a0 : Int × Int × List Nat × List Nat × List Nat) (a1 : List Int) : Option (Bool) :=
  (show Option (Bool) from
    (impl_ValidModel (a0.1, a0.2.1, a0.2.2.1, a0.2.2.2.1, a0.2.2.2.2)).bind fun y4 =>
    bif y4 then
      (impl_IsWord a1 a0.2.1).bind fun y7 =>
      some y7
    else
      some false).bind fun v1 =>
  some v1

theorem f144_ok {a0 : Int × Int × List Nat × List Nat × List Nat} {a1 : List Int} {r : Bool} (hr : impl_Model_has a0 a1 = some r) : CallOK Try.prog 144 [.imm (.st (.pair tI (.pair tI (.pair tLF (.pair tLF tLF))))) a0, .imm tLI a1] [⟨false, .bool, r⟩] [] := by
  unfold impl_Model_has at hr
  refine CallOK.of_body (ts := [(false, .bool)]) Try.func144 rfl (by kernel_rfl) (Nat.le_of_ble_eq_true (by kernel_rfl)) fun cx hP hN hO hF => ?_
  have hO : cx.own.map Prod.fst = [] := hO
  have hX := CxIs.mk hP hN hO
  have hF := hF rfl
  show HT cx ⟨[(0, .agg [iC a0.1, iC a0.2.1, lC a0.2.2.1, lC a0.2.2.2.1, lC a0.2.2.2.2]), (1, nV a1)], [], 0⟩ _ _
  refine HT.rg2 (oHs 2) ⟨[(1, nV a1), (2, pV 0 0)], [(0, .box [iC a0.1, iC a0.2.1, lC a0.2.2.1, lC a0.2.2.2.1, lC a0.2.2.2.2])], 1⟩ hX (by kernel_rfl) allNil ?_
  obtain ⟨v1', hT3, hr⟩ := of_bind hr
  refine HT.join (fun (v1 : Bool) => ⟨[(4, bV v1)], [], 0⟩) (fun v => v = v1') (fun v1 hv2 => ?_) (fun cont => ?_)
  · subst hv2
    have hr := of_some hr
    subst hr
    exact HT.ret ⟨[bV v1], [], [], by kernel_rfl, by kernel_rfl, rfl, by kernel_rfl, by kernel_rfl, trivial⟩
  · obtain ⟨y4, hc5, hT3⟩ := of_bind hT3
    rcases of_bif hT3 with ⟨hb6, hT3⟩ | ⟨hb6, hT3⟩
    · obtain ⟨y7, hc8, hT3⟩ := of_bind hT3
      exact HT.rgK [oH, ⟨none, .call [.imm (.st (.pair tI (.pair tI (.pair tLF (.pair tLF tLF)))))] [⟨false, .bool, y4⟩] []⟩, oH, ⟨some true, .no⟩, ⟨some true, .no⟩, ⟨some true, .no⟩, ⟨some true, .call [.imm tLI, .imm tI] [⟨false, .bool, y7⟩] []⟩, ⟨none, .tv true⟩, oH] [] [] hX (by kernel_rfl) (allCons (f70_ok hc5) (allCons hb6 (allCons hb6 (allCons hb6 (allCons hb6 (allCons (f118_ok hc8) (allCons hb6 allNil))))))) (fun _ h => (qThen (h.ht (cont y7 (of_some hT3)))))
    · exact HT.rgK [oH, ⟨none, .call [.imm (.st (.pair tI (.pair tI (.pair tLF (.pair tLF tLF)))))] [⟨false, .bool, y4⟩] []⟩, oH, ⟨some false, .no⟩, ⟨some false, .no⟩, ⟨some false, .no⟩, ⟨some false, .no⟩, ⟨none, .tv false⟩, oH] [] [] hX (by kernel_rfl) (allCons (f70_ok hc5) (allCons hb6 (allCons hb6 (allCons hb6 (allCons hb6 (allCons hb6 allNil)))))) (fun _ h => (qThen (h.ht (cont false (of_some hT3)))))

noncomputable def impl_HiddenAt (a0 : Int × Int × List Nat × List Nat × List Nat) (a1 : List Int) (a2 : Int) : Option (List Nat × Bool) :=
  (show Option (Bool) from
    (impl_Model_has (a0.1, a0.2.1, a0.2.2.1, a0.2.2.2.1, a0.2.2.2.2) a1).bind fun y13 =>
    bif (!y13) then
      some true
    else
      (impl_within a2 (0 : Int) (lenI a1)).bind fun y16 =>
      some (!y16)).bind fun v1 =>
  bif v1 then
    some (([] : List Nat), false)
  else
    (impl_Model_forward (a0.1, a0.2.1, a0.2.2.1, a0.2.2.2.1, a0.2.2.2.2) a1).bind fun y5 =>
    guardP ((0 : Int) ≤ a2 ∧ a2 < lenI y5) (
      (impl_Model_backward (a0.1, a0.2.1, a0.2.2.1, a0.2.2.2.1, a0.2.2.2.2) a1).bind fun y8 =>
      guardP ((0 : Int) ≤ a2 ∧ a2 < lenI y8) (
        (impl_Model_hiddenAt (a0.1, a0.2.1, a0.2.2.1, a0.2.2.2.1, a0.2.2.2.2) (List.getD y5 (Int.toNat a2) ([] : List Nat)) (List.getD y8 (Int.toNat a2) ([] : List Nat))).bind fun y11 =>
        some (y11.1, y11.2)))

theorem f61_ok {a0 : Int × Int × List Nat × List Nat × List Nat} {a1 : List Int} {a2 : Int} {r : List Nat × Bool} (hr : impl_HiddenAt a0 a1 a2 = some r) : CallOK Try.prog 61 [.imm (.st (.pair tI (.pair tI (.pair tLF (.pair tLF tLF))))) a0, .imm tLI a1, .imm tI a2] [⟨true, tLF, r.1⟩, ⟨false, .bool, r.2⟩] [] := by
  unfold impl_HiddenAt at hr
  refine CallOK.of_body (ts := [(true, tLF), (false, .bool)]) Try.func61 rfl (by kernel_rfl) (Nat.le_of_ble_eq_true (by kernel_rfl)) fun cx hP hN hO hF => ?_
  have hO : cx.own.map Prod.fst = [] := hO
  have hX := CxIs.mk hP hN hO
  have hF := hF rfl
  show HT cx ⟨[(0, .agg [iC a0.1, iC a0.2.1, lC a0.2.2.1, lC a0.2.2.2.1, lC a0.2.2.2.2]), (1, nV a1), (2, iV a2)], [], 0⟩ _ _
  refine HT.rg2 (oHs 3) ⟨[(1, nV a1), (2, iV a2), (3, pV 0 0)], [(0, .box [iC a0.1, iC a0.2.1, lC a0.2.2.1, lC a0.2.2.2.1, lC a0.2.2.2.2])], 1⟩ hX (by kernel_rfl) allNil ?_
  refine HT.seq ?_
  obtain ⟨v1', hT3, hr⟩ := of_bind hr
  refine HT.join (fun (v1 : Bool) => ⟨[(1, nV a1), (2, iV a2), (3, pV 0 0), (18, bV v1)], [(0, .box [iC a0.1, iC a0.2.1, lC a0.2.2.1, lC a0.2.2.2.1, lC a0.2.2.2.2])], 1⟩) (fun v => v = v1') (fun v1 hv2 => ?_) (fun cont => ?_)
  · subst hv2
    rcases of_bif hr with ⟨hb4, hr⟩ | ⟨hb4, hr⟩
    · refine HT.cond1 rfl hb4 ?_
      refine HT.rg2 (oHs 2) ⟨[(6, .one (.nilS)), (7, bV false)], [], 1⟩ hX (by kernel_rfl) allNil ?_
      have hr := of_some hr
      subst hr
      exact HT.ret (qThenR ⟨[.one (.nilS), bV false], [], [], by kernel_rfl, by kernel_rfl, rfl, by kernel_rfl, by kernel_rfl, trivial⟩)
    · refine HT.cond0 rfl hb4 ?_
      refine HT.skip (qThen ?_)
      obtain ⟨y5, hc6, hr⟩ := of_bind hr
      obtain ⟨hg7, hr⟩ := of_guard hr
      obtain ⟨y8, hc9, hr⟩ := of_bind hr
      obtain ⟨hg10, hr⟩ := of_guard hr
      obtain ⟨y11, hc12, hr⟩ := of_bind hr
      refine HT.dr2 16 [⟨oH, []⟩, ⟨oH, []⟩, ⟨oH, []⟩, ⟨⟨none, .call [.imm (.st (.pair tI (.pair tI (.pair tLF (.pair tLF tLF))))), .imm tLI] [⟨false, (.sl tLF), y5⟩] []⟩, [1, 2]⟩, ⟨oH, []⟩, ⟨oH, [1, 2, 3, 4]⟩, ⟨oH, [1, 2, 3, 4, 5]⟩, ⟨oH, []⟩, ⟨oH, []⟩, ⟨⟨none, .call [.imm (.st (.pair tI (.pair tI (.pair tLF (.pair tLF tLF))))), .imm tLI] [⟨false, (.sl tLF), y8⟩] []⟩, [1, 2, 3, 7, 8]⟩, ⟨oH, []⟩, ⟨oH, [1, 2, 3, 7, 8, 9, 10]⟩, ⟨oH, [1, 2, 3, 7, 8, 9, 10, 11]⟩, ⟨⟨none, .call [.imm (.st (.pair tI (.pair tI (.pair tLF (.pair tLF tLF))))), .imm tLF, .imm tLF] [⟨true, tLF, y11.1⟩, ⟨false, .bool, y11.2⟩] []⟩, [0, 1, 2, 3, 4, 5, 6, 7, 8, 9, 10, 11, 12]⟩, ⟨oH, [0, 1, 2, 3, 4, 5, 6, 7, 8, 9, 10, 11, 12, 13]⟩, ⟨oH, [0, 1, 2, 3, 4, 5, 6, 7, 8, 9, 10, 11, 12, 13]⟩] [[0, 1, 2, 3, 4, 5, 6, 7, 8, 9, 10, 11, 12, 13, 14, 15], [0, 1, 2, 3, 4, 5, 6, 7, 8, 9, 10, 11, 12, 13, 14, 15, 16]] (oHs 2) ⟨[(6, aV 1), (7, bV y11.2)], [(1, .seq tF y11.1)], 2⟩ hX (by kernel_rfl) (by kernel_rfl) (allCons (f146_ok hc6) (allCons hg7 (allCons (f147_ok hc9) (allCons hg10 (allCons (f145_ok hc12) allNil))))) ?_
      have hr := of_some hr
      subst hr
      exact HT.ret ⟨[aV 1, bV y11.2], [1], [], by kernel_rfl, by kernel_rfl, rfl, by kernel_rfl, by kernel_rfl, trivial⟩
  · obtain ⟨y13, hc14, hT3⟩ := of_bind hT3
    rcases of_bif hT3 with ⟨hb15, hT3⟩ | ⟨hb15, hT3⟩
    · exact HT.rgK [oH, oH, ⟨none, .call [.imm (.st (.pair tI (.pair tI (.pair tLF (.pair tLF tLF))))), .imm tLI] [⟨false, .bool, y13⟩] []⟩, oH, oH, ⟨some true, .no⟩, ⟨some true, .no⟩, ⟨some true, .no⟩, ⟨some true, .no⟩, ⟨some true, .no⟩, ⟨none, .tv true⟩] [(0, 0)] [] hX (by kernel_rfl) (allCons (f144_ok hc14) (allCons hb15 (allCons hb15 (allCons hb15 (allCons hb15 (allCons hb15 (allCons hb15 allNil))))))) (fun _ h => (qThen (h.ht (cont true (of_some hT3)))))
    · obtain ⟨y16, hc17, hT3⟩ := of_bind hT3
      exact HT.rgK [oH, oH, ⟨none, .call [.imm (.st (.pair tI (.pair tI (.pair tLF (.pair tLF tLF))))), .imm tLI] [⟨false, .bool, y13⟩] []⟩, oH, oH, ⟨some false, .no⟩, ⟨some false, .no⟩, ⟨some false, .no⟩, ⟨some false, .call [.imm tI, .imm tI, .imm tI] [⟨false, .bool, y16⟩] []⟩, ⟨some false, .no⟩, ⟨none, .tv false⟩] [(0, 0)] [] hX (by kernel_rfl) (allCons (f144_ok hc14) (allCons hb15 (allCons hb15 (allCons hb15 (allCons hb15 (allCons (f111_ok hc17) (allCons hb15 (allCons hb15 allNil)))))))) (fun _ h => (qThen (h.ht (cont (!y16) (of_some hT3)))))

noncomputable def impl_Model_pairAt_B1 (a0 : Int × Int × List Nat × List Nat × List Nat) (a1 : List Nat) (a2 : List Nat) (a3 : Int) (s1 : Int × List Nat) (s10 : Int × List Nat) : Option ((Int × List Nat) ⊕ (List Nat)) :=
  bif (decide (s10.1 < a0.1)) then
    guardP ((0 : Int) ≤ s1.1 ∧ s1.1 < lenI a1) (
      (impl_Model_show (a0.1, a0.2.1, a0.2.2.1, a0.2.2.2.1, a0.2.2.2.2) s1.1 a3).bind fun y18 =>
      (impl_Model_step (a0.1, a0.2.1, a0.2.2.1, a0.2.2.2.1, a0.2.2.2.2) s1.1 s10.1).bind fun y20 =>
      guardP ((0 : Int) ≤ s10.1 ∧ s10.1 < lenI a2) (
        guardP (List.length s10.2 + List.length ([(fop .mul .f32 (fop .mul .f32 (fop .mul .f32 (List.getD a1 (Int.toNat s1.1) (0 : Nat)) y18) y20) (List.getD a2 (Int.toNat s10.1) (0 : Nat)))] : List Nat) ≤ appMax) (
          some (.inl ((wadd .i64 s10.1 (1 : Int)), (s10.2 ++ ([(fop .mul .f32 (fop .mul .f32 (fop .mul .f32 (List.getD a1 (Int.toNat s1.1) (0 : Nat)) y18) y20) (List.getD a2 (Int.toNat s10.1) (0 : Nat)))] : List Nat)))))))
  else
    some (.inr s10.2)

noncomputable def impl_Model_pairAt_B2 (a0 : Int × Int × List Nat × List Nat × List Nat) (a1 : List Nat) (a2 : List Nat) (a3 : Int) (s1 : Int × List Nat) : Option ((Int × List Nat) ⊕ (List Nat)) :=
  bif (decide (s1.1 < a0.1)) then
    (rounds (impl_Model_pairAt_B1 a0 a1 a2 a3 s1) ((0 : Int), s1.2)).bind fun r12 =>
    some (.inl ((wadd .i64 s1.1 (1 : Int)), r12))
  else
    some (.inr s1.2)

noncomputable def impl_Model_pairAt (a0 : Int × Int × List Nat × List Nat × List Nat) (a1 : List Nat) (a2 : List Nat) (a3 : Int) : Option (List Nat × Bool) :=
  (rounds (impl_Model_pairAt_B2 a0 a1 a2 a3) ((0 : Int), ([] : List Nat))).bind fun r3 =>
  (impl_shares_mv0 r3).bind fun y4 =>
  some (y4.1, y4.2)

theorem f148_ok {a0 : Int × Int × List Nat × List Nat × List Nat} {a1 : List Nat} {a2 : List Nat} {a3 : Int} {r : List Nat × Bool} (hr : impl_Model_pairAt a0 a1 a2 a3 = some r) : CallOK Try.prog 148 [.imm (.st (.pair tI (.pair tI (.pair tLF (.pair tLF tLF))))) a0, .imm tLF a1, .imm tLF a2, .imm tI a3] [⟨true, tLF, r.1⟩, ⟨false, .bool, r.2⟩] [] := by
  unfold impl_Model_pairAt at hr
  refine CallOK.of_body (ts := [(true, tLF), (false, .bool)]) Try.func148 rfl (by kernel_rfl) (Nat.le_of_ble_eq_true (by kernel_rfl)) fun cx hP hN hO hF => ?_
  have hO : cx.own.map Prod.fst = [] := hO
  have hX := CxIs.mk hP hN hO
  have hF := hF rfl
  show HT cx ⟨[(0, .agg [iC a0.1, iC a0.2.1, lC a0.2.2.1, lC a0.2.2.2.1, lC a0.2.2.2.2]), (1, lV a1), (2, lV a2), (3, iV a3)], [], 0⟩ _ _
  refine HT.rg2 (oHs 3) ⟨[(1, lV a1), (2, lV a2), (3, iV a3), (4, pV 0 0)], [(0, .box [iC a0.1, iC a0.2.1, lC a0.2.2.1, lC a0.2.2.2.1, lC a0.2.2.2.2])], 1⟩ hX (by kernel_rfl) allNil ?_
  refine HT.rg2 (oHs 2) ⟨[(1, lV a1), (2, lV a2), (3, iV a3), (4, pV 0 0), (10, .one (.nilS))], [(0, .box [iC a0.1, iC a0.2.1, lC a0.2.2.1, lC a0.2.2.2.1, lC a0.2.2.2.2])], 1⟩ hX (by kernel_rfl) allNil ?_
  refine HT.seq ?_
  refine HT.rg2 (oHs 3) ⟨[(1, lV a1), (2, lV a2), (3, iV a3), (4, pV 0 0), (10, .one (.nilS)), (16, iV a0.1), (17, iV (0 : Int))], [(0, .box [iC a0.1, iC a0.2.1, lC a0.2.2.1, lC a0.2.2.2.1, lC a0.2.2.2.2])], 1⟩ hX (by kernel_rfl) allNil ?_
  refine HT.block ?_
  obtain ⟨r2, hL25, hr⟩ := of_bind hr
  refine HT.loopL (fun (s1 : Int × List Nat) => ⟨[(1, lV a1), (2, lV a2), (3, iV a3), (4, pV 0 0), (10, aV 1), (16, iV a0.1), (17, iV s1.1)], [(0, .box [iC a0.1, iC a0.2.1, lC a0.2.2.1, lC a0.2.2.2.1, lC a0.2.2.2.2]), (1, .seq tF s1.2)], 2⟩) (fun (r3 : List Nat) => (.exit 0, ⟨[(10, aV 0)], [(0, .seq tF r3)], 1⟩)) (Le.re [(0, 0)] [1] hX (by kernel_rfl)) hL25 ?_ (fun s1 x6 hx7 hk8 => ?_)
  · refine (qBlockX (qThen ?_))
    obtain ⟨y4, hc5, hr⟩ := of_bind hr
    refine HT.rg2 [oH, ⟨none, .call [.mv tLF] [⟨true, tLF, y4.1⟩, ⟨false, .bool, y4.2⟩] []⟩, oH, oH, oH, oH] ⟨[(8, aV 1), (9, bV y4.2)], [(1, .seq tF y4.1)], 2⟩ hX (by kernel_rfl) (allCons (f206_mv0_ok hc5) allNil) ?_
    have hr := of_some hr
    subst hr
    exact HT.ret ⟨[aV 1, bV y4.2], [1], [], by kernel_rfl, by kernel_rfl, rfl, by kernel_rfl, by kernel_rfl, trivial⟩
  · refine HT.rg2 [oH] ⟨[(1, lV a1), (2, lV a2), (3, iV a3), (4, pV 0 0), (10, aV 1), (16, iV a0.1), (17, iV s1.1), (18, bV (decide (s1.1 < a0.1)))], [(0, .box [iC a0.1, iC a0.2.1, lC a0.2.2.1, lC a0.2.2.2.1, lC a0.2.2.2.2]), (1, .seq tF s1.2)], 2⟩ hX (by kernel_rfl) allNil ?_
    refine HT.seq ?_
    rcases of_bif hx7 with ⟨hb9, hx7⟩ | ⟨hb9, hx7⟩
    · refine HT.cond1 rfl hb9 ?_
      refine HT.skip (qThen ?_)
      refine HT.seq ?_
      refine HT.block ?_
      refine HT.rg2 (oHs 2) ⟨[(1, lV a1), (2, lV a2), (3, iV a3), (4, pV 0 0), (10, aV 1), (11, iV s1.1), (16, iV a0.1), (17, iV s1.1)], [(0, .box [iC a0.1, iC a0.2.1, lC a0.2.2.1, lC a0.2.2.2.1, lC a0.2.2.2.2]), (1, .seq tF s1.2)], 2⟩ hX (by kernel_rfl) allNil ?_
      refine HT.rg2 (oHs 3) ⟨[(1, lV a1), (2, lV a2), (3, iV a3), (4, pV 0 0), (10, aV 1), (11, iV s1.1), (16, iV a0.1), (17, iV s1.1), (21, iV a0.1), (22, iV (0 : Int))], [(0, .box [iC a0.1, iC a0.2.1, lC a0.2.2.1, lC a0.2.2.2.1, lC a0.2.2.2.2]), (1, .seq tF s1.2)], 2⟩ hX (by kernel_rfl) allNil ?_
      refine HT.block ?_
      obtain ⟨r11, hL24, hx7⟩ := of_bind hx7
      refine HT.loopL (fun (s10 : Int × List Nat) => ⟨[(1, lV a1), (2, lV a2), (3, iV a3), (4, pV 0 0), (10, aV 1), (11, iV s1.1), (16, iV a0.1), (17, iV s1.1), (21, iV a0.1), (22, iV s10.1)], [(0, .box [iC a0.1, iC a0.2.1, lC a0.2.2.1, lC a0.2.2.2.1, lC a0.2.2.2.2]), (1, .seq tF s10.2)], 2⟩) (fun (r12 : List Nat) => (.exit 2, ⟨[(1, lV a1), (2, lV a2), (3, iV a3), (4, pV 0 0), (10, aV 1), (16, iV a0.1), (17, iV s1.1)], [(0, .box [iC a0.1, iC a0.2.1, lC a0.2.2.1, lC a0.2.2.2.1, lC a0.2.2.2.2]), (1, .seq tF r12)], 2⟩)) (Le.re [(0, 0), (1, 1)] [] hX (by kernel_rfl)) hL24 ?_ (fun s10 x13 hx14 hk15 => ?_)
      · refine (qBlockX (qBlock (qThen ?_)))
        have hx7 := of_some hx7
        subst hx7
        exact HT.rgK (oHs 2) [(0, 0), (1, 1)] [] hX (by kernel_rfl) allNil (fun _ h => (qLoopN ⟨((wadd .i64 s1.1 (1 : Int)), r11), rfl, h⟩))
      · refine HT.rg2 [oH] ⟨[(1, lV a1), (2, lV a2), (3, iV a3), (4, pV 0 0), (10, aV 1), (11, iV s1.1), (16, iV a0.1), (17, iV s1.1), (21, iV a0.1), (22, iV s10.1), (23, bV (decide (s10.1 < a0.1)))], [(0, .box [iC a0.1, iC a0.2.1, lC a0.2.2.1, lC a0.2.2.2.1, lC a0.2.2.2.2]), (1, .seq tF s10.2)], 2⟩ hX (by kernel_rfl) allNil ?_
        refine HT.seq ?_
        rcases of_bif hx14 with ⟨hb16, hx14⟩ | ⟨hb16, hx14⟩
        · refine HT.cond1 rfl hb16 ?_
          refine HT.skip (qThen ?_)
          refine HT.seq ?_
          refine HT.block ?_
          refine HT.rg2 (oHs 2) ⟨[(1, lV a1), (2, lV a2), (3, iV a3), (4, pV 0 0), (10, aV 1), (11, iV s1.1), (12, iV s10.1), (16, iV a0.1), (17, iV s1.1), (21, iV a0.1), (22, iV s10.1)], [(0, .box [iC a0.1, iC a0.2.1, lC a0.2.2.1, lC a0.2.2.2.1, lC a0.2.2.2.2]), (1, .seq tF s10.2)], 2⟩ hX (by kernel_rfl) allNil ?_
          obtain ⟨hg17, hx14⟩ := of_guard hx14
          obtain ⟨y18, hc19, hx14⟩ := of_bind hx14
          obtain ⟨y20, hc21, hx14⟩ := of_bind hx14
          refine HT.dr2 13 [⟨oH, []⟩, ⟨oH, []⟩, ⟨oH, [0, 1]⟩, ⟨oH, [0, 1, 2]⟩, ⟨oH, []⟩, ⟨oH, []⟩, ⟨oH, []⟩, ⟨⟨none, .call [.imm (.st (.pair tI (.pair tI (.pair tLF (.pair tLF tLF))))), .imm tI, .imm tI] [⟨false, tF, y18⟩] []⟩, [4, 5, 6]⟩, ⟨oH, [0, 1, 2, 3, 4, 5, 6, 7]⟩, ⟨oH, []⟩, ⟨oH, []⟩, ⟨oH, []⟩, ⟨⟨none, .call [.imm (.st (.pair tI (.pair tI (.pair tLF (.pair tLF tLF))))), .imm tI, .imm tI] [⟨false, tF, y20⟩] []⟩, [4, 5, 6, 7, 9, 10, 11]⟩] [[0, 1, 2, 3, 4, 5, 6, 7, 8, 9, 10, 11, 12], [0, 1, 2, 3, 4, 5, 6, 7, 8, 9, 10, 11, 12, 13]] (oHs 2) ⟨[(1, lV a1), (2, lV a2), (3, iV a3), (4, pV 0 0), (10, aV 1), (11, iV s1.1), (12, iV s10.1), (13, fV (fop .mul .f32 (fop .mul .f32 (List.getD a1 (Int.toNat s1.1) (0 : Nat)) y18) y20)), (16, iV a0.1), (17, iV s1.1), (21, iV a0.1), (22, iV s10.1)], [(0, .box [iC a0.1, iC a0.2.1, lC a0.2.2.1, lC a0.2.2.2.1, lC a0.2.2.2.2]), (1, .seq tF s10.2)], 2⟩ hX (by kernel_rfl) (by kernel_rfl) (allCons hg17 (allCons (f150_ok hc19) (allCons (f151_ok hc21) allNil))) ?_
          obtain ⟨hg22, hx14⟩ := of_guard hx14
          obtain ⟨hg23, hx14⟩ := of_guard hx14
          refine HT.rgL [oH, oH, oH, oH, oH, oH, oH, ⟨none, .ty tF⟩, ⟨none, .ty tF⟩, oH] ⟨[(1, lV a1), (2, lV a2), (3, iV a3), (4, pV 0 0), (10, aV 3), (11, iV s1.1), (16, iV a0.1), (17, iV s1.1), (21, iV a0.1), (22, iV s10.1)], [(3, .seq tF (s10.2 ++ ([(fop .mul .f32 (fop .mul .f32 (fop .mul .f32 (List.getD a1 (Int.toNat s1.1) (0 : Nat)) y18) y20) (List.getD a2 (Int.toNat s10.1) (0 : Nat)))] : List Nat))), (0, .box [iC a0.1, iC a0.2.1, lC a0.2.2.1, lC a0.2.2.2.1, lC a0.2.2.2.2])], 4⟩ hX (by kernel_rfl) (allCons hg22 (allCons hg23 allNil)) (qBlock (qThen ?_))
          have hx14 := of_some hx14
          subst hx14
          exact HT.rgK (oHs 2) [(0, 0), (3, 1)] [] hX (by kernel_rfl) allNil (fun _ h => (qLoopN ⟨((wadd .i64 s10.1 (1 : Int)), (s10.2 ++ ([(fop .mul .f32 (fop .mul .f32 (fop .mul .f32 (List.getD a1 (Int.toNat s1.1) (0 : Nat)) y18) y20) (List.getD a2 (Int.toNat s10.1) (0 : Nat)))] : List Nat))), rfl, h⟩))
        · refine HT.cond0 rfl hb16 ?_
          have hx14 := of_some hx14
          subst hx14
          exact HT.exitL (Le.re [(0, 0), (1, 1)] [] hX (by kernel_rfl)) (qThenE (qLoopE (hk15 s10.2 rfl)))
    · refine HT.cond0 rfl hb9 ?_
      have hx7 := of_some hx7
      subst hx7
      exact HT.exitL (Le.re [(1, 0)] [] hX (by kernel_rfl)) (qThenE (qLoopE (hk8 s1.2 rfl)))

noncomputable def impl_PairAt (a0 : Int × Int × List Nat × List Nat × List Nat) (a1 : List Int) (a2 : Int) : Option (List Nat × Bool) :=
  (show Option (Bool) from
    (impl_Model_has (a0.1, a0.2.1, a0.2.2.1, a0.2.2.2.1, a0.2.2.2.2) a1).bind fun y14 =>
    bif (!y14) then
      some true
    else
      (impl_within a2 (0 : Int) (wsub .i64 (lenI a1) (1 : Int))).bind fun y17 =>
      some (!y17)).bind fun v1 =>
  bif v1 then
    some (([] : List Nat), false)
  else
    (impl_Model_forward (a0.1, a0.2.1, a0.2.2.1, a0.2.2.2.1, a0.2.2.2.2) a1).bind fun y5 =>
    guardP ((0 : Int) ≤ a2 ∧ a2 < lenI y5) (
      (impl_Model_backward (a0.1, a0.2.1, a0.2.2.1, a0.2.2.2.1, a0.2.2.2.2) a1).bind fun y8 =>
      guardP ((0 : Int) ≤ (wadd .i64 a2 (1 : Int)) ∧ (wadd .i64 a2 (1 : Int)) < lenI y8) (
        guardP ((0 : Int) ≤ a2 ∧ a2 < lenI a1) (
          (impl_Model_pairAt (a0.1, a0.2.1, a0.2.2.1, a0.2.2.2.1, a0.2.2.2.2) (List.getD y5 (Int.toNat a2) ([] : List Nat)) (List.getD y8 (Int.toNat (wadd .i64 a2 (1 : Int))) ([] : List Nat)) (List.getD a1 (Int.toNat a2) (0 : Int))).bind fun y12 =>
          some (y12.1, y12.2))))

theorem f62_ok {a0 : Int × Int × List Nat × List Nat × List Nat} {a1 : List Int} {a2 : Int} {r : List Nat × Bool} (hr : impl_PairAt a0 a1 a2 = some r) : CallOK Try.prog 62 [.imm (.st (.pair tI (.pair tI (.pair tLF (.pair tLF tLF))))) a0, .imm tLI a1, .imm tI a2] [⟨true, tLF, r.1⟩, ⟨false, .bool, r.2⟩] [] := by
  unfold impl_PairAt at hr
  refine CallOK.of_body (ts := [(true, tLF), (false, .bool)]) Try.func62 rfl (by kernel_rfl) (Nat.le_of_ble_eq_true (by kernel_rfl)) fun cx hP hN hO hF => ?_
  have hO : cx.own.map Prod.fst = [] := hO
  have hX := CxIs.mk hP hN hO
  have hF := hF rfl
  show HT cx ⟨[(0, .agg [iC a0.1, iC a0.2.1, lC a0.2.2.1, lC a0.2.2.2.1, lC a0.2.2.2.2]), (1, nV a1), (2, iV a2)], [], 0⟩ _ _
  refine HT.rg2 (oHs 3) ⟨[(1, nV a1), (2, iV a2), (3, pV 0 0)], [(0, .box [iC a0.1, iC a0.2.1, lC a0.2.2.1, lC a0.2.2.2.1, lC a0.2.2.2.2])], 1⟩ hX (by kernel_rfl) allNil ?_
  refine HT.seq ?_
  obtain ⟨v1', hT3, hr⟩ := of_bind hr
  refine HT.join (fun (v1 : Bool) => ⟨[(1, nV a1), (2, iV a2), (3, pV 0 0), (19, bV v1)], [(0, .box [iC a0.1, iC a0.2.1, lC a0.2.2.1, lC a0.2.2.2.1, lC a0.2.2.2.2])], 1⟩) (fun v => v = v1') (fun v1 hv2 => ?_) (fun cont => ?_)
  · subst hv2
    rcases of_bif hr with ⟨hb4, hr⟩ | ⟨hb4, hr⟩
    · refine HT.cond1 rfl hb4 ?_
      refine HT.rg2 (oHs 2) ⟨[(6, .one (.nilS)), (7, bV false)], [], 1⟩ hX (by kernel_rfl) allNil ?_
      have hr := of_some hr
      subst hr
      exact HT.ret (qThenR ⟨[.one (.nilS), bV false], [], [], by kernel_rfl, by kernel_rfl, rfl, by kernel_rfl, by kernel_rfl, trivial⟩)
    · refine HT.cond0 rfl hb4 ?_
      refine HT.skip (qThen ?_)
      obtain ⟨y5, hc6, hr⟩ := of_bind hr
      obtain ⟨hg7, hr⟩ := of_guard hr
      obtain ⟨y8, hc9, hr⟩ := of_bind hr
      obtain ⟨hg10, hr⟩ := of_guard hr
      obtain ⟨hg11, hr⟩ := of_guard hr
      obtain ⟨y12, hc13, hr⟩ := of_bind hr
      refine HT.dr2 21 [⟨oH, []⟩, ⟨oH, []⟩, ⟨oH, []⟩, ⟨⟨none, .call [.imm (.st (.pair tI (.pair tI (.pair tLF (.pair tLF tLF))))), .imm tLI] [⟨false, (.sl tLF), y5⟩] []⟩, [1, 2]⟩, ⟨oH, []⟩, ⟨oH, [1, 2, 3, 4]⟩, ⟨oH, [1, 2, 3, 4, 5]⟩, ⟨oH, []⟩, ⟨oH, []⟩, ⟨⟨none, .call [.imm (.st (.pair tI (.pair tI (.pair tLF (.pair tLF tLF))))), .imm tLI] [⟨false, (.sl tLF), y8⟩] []⟩, [1, 2, 3, 7, 8]⟩, ⟨oH, []⟩, ⟨oH, [10]⟩, ⟨oH, [1, 2, 3, 7, 8, 9, 10, 11]⟩, ⟨oH, [1, 2, 3, 7, 8, 9, 10, 11, 12]⟩, ⟨oH, []⟩, ⟨oH, []⟩, ⟨oH, [14, 15]⟩, ⟨oH, [14, 15, 16]⟩, ⟨⟨none, .call [.imm (.st (.pair tI (.pair tI (.pair tLF (.pair tLF tLF))))), .imm tLF, .imm tLF, .imm tI] [⟨true, tLF, y12.1⟩, ⟨false, .bool, y12.2⟩] []⟩, [0, 1, 2, 3, 4, 5, 6, 7, 8, 9, 10, 11, 12, 13, 14, 15, 16, 17]⟩, ⟨oH, [0, 1, 2, 3, 4, 5, 6, 7, 8, 9, 10, 11, 12, 13, 14, 15, 16, 17, 18]⟩, ⟨oH, [0, 1, 2, 3, 4, 5, 6, 7, 8, 9, 10, 11, 12, 13, 14, 15, 16, 17, 18]⟩] [[0, 1, 2, 3, 4, 5, 6, 7, 8, 9, 10, 11, 12, 13, 14, 15, 16, 17, 18, 19, 20], [0, 1, 2, 3, 4, 5, 6, 7, 8, 9, 10, 11, 12, 13, 14, 15, 16, 17, 18, 19, 20, 21]] (oHs 2) ⟨[(6, aV 1), (7, bV y12.2)], [(1, .seq tF y12.1)], 2⟩ hX (by kernel_rfl) (by kernel_rfl) (allCons (f146_ok hc6) (allCons hg7 (allCons (f147_ok hc9) (allCons hg10 (allCons hg11 (allCons (f148_ok hc13) allNil)))))) ?_
      have hr := of_some hr
      subst hr
      exact HT.ret ⟨[aV 1, bV y12.2], [1], [], by kernel_rfl, by kernel_rfl, rfl, by kernel_rfl, by kernel_rfl, trivial⟩
  · obtain ⟨y14, hc15, hT3⟩ := of_bind hT3
    rcases of_bif hT3 with ⟨hb16, hT3⟩ | ⟨hb16, hT3⟩
    · exact HT.rgK [oH, oH, ⟨none, .call [.imm (.st (.pair tI (.pair tI (.pair tLF (.pair tLF tLF))))), .imm tLI] [⟨false, .bool, y14⟩] []⟩, oH, oH, ⟨some true, .no⟩, ⟨some true, .no⟩, ⟨some true, .no⟩, ⟨some true, .no⟩, ⟨some true, .no⟩, ⟨some true, .no⟩, ⟨none, .tv true⟩] [(0, 0)] [] hX (by kernel_rfl) (allCons (f144_ok hc15) (allCons hb16 (allCons hb16 (allCons hb16 (allCons hb16 (allCons hb16 (allCons hb16 (allCons hb16 allNil)))))))) (fun _ h => (qThen (h.ht (cont true (of_some hT3)))))
    · obtain ⟨y17, hc18, hT3⟩ := of_bind hT3
      exact HT.rgK [oH, oH, ⟨none, .call [.imm (.st (.pair tI (.pair tI (.pair tLF (.pair tLF tLF))))), .imm tLI] [⟨false, .bool, y14⟩] []⟩, oH, oH, ⟨some false, .no⟩, ⟨some false, .no⟩, ⟨some false, .no⟩, ⟨some false, .no⟩, ⟨some false, .call [.imm tI, .imm tI, .imm tI] [⟨false, .bool, y17⟩] []⟩, ⟨some false, .no⟩, ⟨none, .tv false⟩] [(0, 0)] [] hX (by kernel_rfl) (allCons (f144_ok hc15) (allCons hb16 (allCons hb16 (allCons hb16 (allCons hb16 (allCons hb16 (allCons (f111_ok hc18) (allCons hb16 (allCons hb16 allNil))))))))) (fun _ h => (qThen (h.ht (cont (!y17) (of_some hT3)))))

noncomputable def impl_BestHidden_B1 (r8 : List Nat × List (List Int)) (s16 : Int × List Int) : Option ((Int × List Int) ⊕ (List Int)) :=
  bif (decide (s16.1 ≥ (0 : Int))) then
    guardP ((0 : Int) ≤ s16.1 ∧ s16.1 < lenI r8.2) (
      guardP ((0 : Int) ≤ (wadd .i64 s16.1 (1 : Int)) ∧ (wadd .i64 s16.1 (1 : Int)) < lenI s16.2) (
        guardP ((0 : Int) ≤ (List.getD s16.2 (Int.toNat (wadd .i64 s16.1 (1 : Int))) (0 : Int)) ∧ (List.getD s16.2 (Int.toNat (wadd .i64 s16.1 (1 : Int))) (0 : Int)) < lenI (List.getD r8.2 (Int.toNat s16.1) ([] : List Int))) (
          guardP ((0 : Int) ≤ s16.1 ∧ s16.1 < lenI s16.2) (
            some (.inl ((wsub .i64 s16.1 (1 : Int)), (List.set s16.2 (Int.toNat s16.1) (List.getD (List.getD r8.2 (Int.toNat s16.1) ([] : List Int)) (Int.toNat (List.getD s16.2 (Int.toNat (wadd .i64 s16.1 (1 : Int))) (0 : Int))) (0 : Int)))))))))
  else
    some (.inr s16.2)

noncomputable def impl_BestHidden_B2 (r8 : List Nat × List (List Int)) (s9 : Int × Int) : Option ((Int × Int) ⊕ (Int)) :=
  bif (decide (s9.2 < (lenI r8.1))) then
    (show Option (Int) from
      guardP ((0 : Int) ≤ s9.2 ∧ s9.2 < lenI r8.1) (
        guardP ((0 : Int) ≤ s9.1 ∧ s9.1 < lenI r8.1) (
          bif (fgt .f32 (List.getD r8.1 (Int.toNat s9.2) (0 : Nat)) (List.getD r8.1 (Int.toNat s9.1) (0 : Nat))) then
            some s9.2
          else
            some s9.1))).bind fun v35 =>
    some (.inl (v35, (wadd .i64 s9.2 (1 : Int))))
  else
    some (.inr s9.1)

noncomputable def impl_BestHidden_B3 (a0 : Int × Int × List Nat × List Nat × List Nat) (a1 : List Int) (s6 : Int × List Nat × List (List Int)) (s48 : Int × List Nat × List Int) (s56 : Int × List Nat × List Int) : Option ((Int × List Nat × List Int) ⊕ ((List Nat × List Int))) :=
  bif (decide (s56.1 < a0.1)) then
    (show Option (List Nat × List Int) from
      guardP ((0 : Int) ≤ s56.1 ∧ s56.1 < lenI s6.2.1) (
        (impl_Model_show (a0.1, a0.2.1, a0.2.2.1, a0.2.2.2.1, a0.2.2.2.2) s56.1 (List.getD a1 (Int.toNat s6.1) (0 : Int))).bind fun y67 =>
        (impl_Model_step (a0.1, a0.2.1, a0.2.2.1, a0.2.2.2.1, a0.2.2.2.2) s56.1 s48.1).bind fun y69 =>
        (show Option (Bool) from
          bif (s56.1 == (0 : Int)) then
            some true
          else
            guardP ((0 : Int) ≤ s48.1 ∧ s48.1 < lenI s56.2.1) (
              some (fgt .f32 (fop .mul .f32 (fop .mul .f32 (List.getD s6.2.1 (Int.toNat s56.1) (0 : Nat)) y67) y69) (List.getD s56.2.1 (Int.toNat s48.1) (0 : Nat))))).bind fun v71 =>
        bif v71 then
          guardP ((0 : Int) ≤ s48.1 ∧ s48.1 < lenI s56.2.1) (
            guardP ((0 : Int) ≤ s48.1 ∧ s48.1 < lenI s56.2.2) (
              some ((List.set s56.2.1 (Int.toNat s48.1) (fop .mul .f32 (fop .mul .f32 (List.getD s6.2.1 (Int.toNat s56.1) (0 : Nat)) y67) y69)), (List.set s56.2.2 (Int.toNat s48.1) s56.1))))
        else
          some (s56.2.1, s56.2.2))).bind fun v63 =>
    some (.inl ((wadd .i64 s56.1 (1 : Int)), v63.1, v63.2))
  else
    some (.inr (s56.2.1, s56.2.2))

noncomputable def impl_BestHidden_B4 (a0 : Int × Int × List Nat × List Nat × List Nat) (a1 : List Int) (s6 : Int × List Nat × List (List Int)) (s48 : Int × List Nat × List Int) : Option ((Int × List Nat × List Int) ⊕ ((List Nat × List Int))) :=
  bif (decide (s48.1 < a0.1)) then
    (rounds (impl_BestHidden_B3 a0 a1 s6 s48) ((0 : Int), s48.2.1, s48.2.2)).bind fun r58 =>
    some (.inl ((wadd .i64 s48.1 (1 : Int)), r58.1, r58.2))
  else
    some (.inr (s48.2.1, s48.2.2))

noncomputable def impl_BestHidden_B5 (a0 : Int × Int × List Nat × List Nat × List Nat) (a1 : List Int) (s6 : Int × List Nat × List (List Int)) : Option ((Int × List Nat × List (List Int)) ⊕ ((List Nat × List (List Int)))) :=
  bif (decide (s6.1 < (lenI a1))) then
    guardP ((0 : Int) ≤ s6.1 ∧ s6.1 < lenI a1) (
      guardP ((0 : Int) ≤ a0.1 ∧ a0.1 ≤ 4294967296) (
        (rounds (impl_BestHidden_B4 a0 a1 s6) ((0 : Int), (List.replicate (Int.toNat a0.1) (0 : Nat)), (List.replicate (Int.toNat a0.1) (0 : Int)))).bind fun r50 =>
        guardP (List.length s6.2.2 + List.length ([r50.2] : List (List Int)) ≤ appMax) (
          some (.inl ((wadd .i64 s6.1 (1 : Int)), r50.1, (s6.2.2 ++ ([r50.2] : List (List Int))))))))
  else
    some (.inr (s6.2.1, s6.2.2))

noncomputable def impl_BestHidden (a0 : Int × Int × List Nat × List Nat × List Nat) (a1 : List Int) : Option (List Int × Nat × Bool) :=
  (impl_Model_has (a0.1, a0.2.1, a0.2.2.1, a0.2.2.2.1, a0.2.2.2.2) a1).bind fun y1 =>
  bif (!y1) then
    some (([] : List Int), (0 : Nat), false)
  else
    (slices_Clone a0.2.2.1).bind fun y4 =>
    (rounds (impl_BestHidden_B5 a0 a1) ((0 : Int), y4, ([] : List (List Int)))).bind fun r8 =>
    (rounds (impl_BestHidden_B2 r8) ((0 : Int), (0 : Int))).bind fun r11 =>
    guardP ((0 : Int) ≤ (wadd .i64 (lenI a1) (1 : Int)) ∧ (wadd .i64 (lenI a1) (1 : Int)) ≤ 4294967296) (
      guardP ((0 : Int) ≤ (lenI a1) ∧ (lenI a1) < lenI (List.replicate (Int.toNat (wadd .i64 (lenI a1) (1 : Int))) (0 : Int))) (
        (some (List.set (List.replicate (Int.toNat (wadd .i64 (lenI a1) (1 : Int))) (0 : Int)) (Int.toNat (lenI a1)) r11)).bind fun q14 =>
        (rounds (impl_BestHidden_B1 r8) ((wsub .i64 (lenI a1) (1 : Int)), q14)).bind fun r18 =>
        guardP ((0 : Int) ≤ r11 ∧ r11 < lenI r8.1) (
          (impl_IsFinite (List.getD r8.1 (Int.toNat r11) (0 : Nat))).bind fun y20 =>
          some (r18, (List.getD r8.1 (Int.toNat r11) (0 : Nat)), y20))))

theorem f63_ok {a0 : Int × Int × List Nat × List Nat × List Nat} {a1 : List Int} {r : List Int × Nat × Bool} (hr : impl_BestHidden a0 a1 = some r) : CallOK Try.prog 63 [.imm (.st (.pair tI (.pair tI (.pair tLF (.pair tLF tLF))))) a0, .imm tLI a1] [⟨true, tLI, r.1⟩, ⟨false, tF, r.2.1⟩, ⟨false, .bool, r.2.2⟩] [] := by
  unfold impl_BestHidden at hr
  refine CallOK.of_body (ts := [(true, tLI), (false, tF), (false, .bool)]) Try.func63 rfl (by kernel_rfl) (Nat.le_of_ble_eq_true (by kernel_rfl)) fun cx hP hN hO hF => ?_
  have hO : cx.own.map Prod.fst = [] := hO
  have hX := CxIs.mk hP hN hO
  have hF := hF rfl
  show HT cx ⟨[(0, .agg [iC a0.1, iC a0.2.1, lC a0.2.2.1, lC a0.2.2.2.1, lC a0.2.2.2.2]), (1, nV a1)], [], 0⟩ _ _
  refine HT.rg2 (oHs 4) ⟨[(1, nV a1), (2, pV 0 0)], [(0, .box [iC a0.1, iC a0.2.1, lC a0.2.2.1, lC a0.2.2.2.1, lC a0.2.2.2.2])], 1⟩ hX (by kernel_rfl) allNil ?_
  refine HT.seq ?_
  obtain ⟨y1, hc2, hr⟩ := of_bind hr
  refine HT.rg2 [oH, oH, ⟨none, .call [.imm (.st (.pair tI (.pair tI (.pair tLF (.pair tLF tLF))))), .imm tLI] [⟨false, .bool, y1⟩] []⟩, oH] ⟨[(1, nV a1), (2, pV 0 0), (24, bV (!y1))], [(0, .box [iC a0.1, iC a0.2.1, lC a0.2.2.1, lC a0.2.2.2.1, lC a0.2.2.2.2])], 1⟩ hX (by kernel_rfl) (allCons (f144_ok hc2) allNil) ?_
  rcases of_bif hr with ⟨hb3, hr⟩ | ⟨hb3, hr⟩
  · refine HT.cond1 rfl hb3 ?_
    refine HT.rg2 (oHs 3) ⟨[(4, .one (.nilS)), (5, fV (0 : Nat)), (6, bV false)], [], 1⟩ hX (by kernel_rfl) allNil ?_
    have hr := of_some hr
    subst hr
    exact HT.ret (qThenR ⟨[.one (.nilS), fV (0 : Nat), bV false], [], [], by kernel_rfl, by kernel_rfl, rfl, by kernel_rfl, by kernel_rfl, trivial⟩)
  · refine HT.cond0 rfl hb3 ?_
    refine HT.skip (qThen ?_)
    obtain ⟨y4, hc5, hr⟩ := of_bind hr
    refine HT.rg2 [oH, oH, ⟨none, .call [.imm tLF] [⟨true, tLF, y4⟩] []⟩, oH] ⟨[(1, nV a1), (2, pV 0 0), (7, aV 1)], [(1, .seq tF y4), (0, .box [iC a0.1, iC a0.2.1, lC a0.2.2.1, lC a0.2.2.2.1, lC a0.2.2.2.2])], 2⟩ hX (by kernel_rfl) (allCons (f149_ok hc5) allNil) ?_
    refine HT.rg2 (oHs 2) ⟨[(1, nV a1), (2, pV 0 0), (7, aV 1), (8, .one (.nilS))], [(1, .seq tF y4), (0, .box [iC a0.1, iC a0.2.1, lC a0.2.2.1, lC a0.2.2.2.1, lC a0.2.2.2.2])], 2⟩ hX (by kernel_rfl) allNil ?_
    refine HT.seq ?_
    refine HT.rg2 (oHs 3) ⟨[(1, nV a1), (2, pV 0 0), (7, aV 1), (8, .one (.nilS)), (29, nV a1), (30, iV (lenI a1)), (31, iV (0 : Int))], [(1, .seq tF y4), (0, .box [iC a0.1, iC a0.2.1, lC a0.2.2.1, lC a0.2.2.2.1, lC a0.2.2.2.2])], 2⟩ hX (by kernel_rfl) allNil ?_
    refine HT.block ?_
    obtain ⟨r7, hL81, hr⟩ := of_bind hr
    refine HT.loopL (fun (s6 : Int × List Nat × List (List Int)) => ⟨[(1, nV a1), (2, pV 0 0), (7, aV 1), (8, aV 2), (29, nV a1), (30, iV (lenI a1)), (31, iV s6.1)], [(0, .box [iC a0.1, iC a0.2.1, lC a0.2.2.1, lC a0.2.2.2.1, lC a0.2.2.2.2]), (1, .seq tF s6.2.1), (2, .seq tLI s6.2.2)], 3⟩) (fun (r8 : (List Nat × List (List Int))) => (.exit 0, ⟨[(1, nV a1), (7, aV 0), (8, aV 1)], [(0, .seq tF r8.1), (1, .seq tLI r8.2)], 2⟩)) (Le.re [(0, 0), (1, 1)] [2] hX (by kernel_rfl)) hL81 ?_ (fun s6 x42 hx43 hk44 => ?_)
    · refine (qBlockX (qThen ?_))
      refine HT.rg2 [oH] ⟨[(1, nV a1), (7, aV 0), (8, aV 1), (16, iV (0 : Int))], [(0, .seq tF r7.1), (1, .seq tLI r7.2)], 2⟩ hX (by kernel_rfl) allNil ?_
      refine HT.seq ?_
      refine HT.rg2 (oHs 3) ⟨[(1, nV a1), (7, aV 0), (8, aV 1), (16, iV (0 : Int)), (91, aV 0), (92, iV (lenI r7.1)), (93, iV (0 : Int))], [(0, .seq tF r7.1), (1, .seq tLI r7.2)], 2⟩ hX (by kernel_rfl) allNil ?_
      refine HT.block ?_
      obtain ⟨r10, hL41, hr⟩ := of_bind hr
      refine HT.loopL (fun (s9 : Int × Int) => ⟨[(1, nV a1), (7, aV 0), (8, aV 1), (16, iV s9.1), (91, aV 0), (92, iV (lenI r7.1)), (93, iV s9.2)], [(0, .seq tF r7.1), (1, .seq tLI r7.2)], 2⟩) (fun (r11 : Int) => (.exit 6, ⟨[(1, nV a1), (7, aV 0), (8, aV 1), (16, iV r11)], [(0, .seq tF r7.1), (1, .seq tLI r7.2)], 2⟩)) (Le.re [(0, 0), (1, 1)] [] hX (by kernel_rfl)) hL41 ?_ (fun s9 x31 hx32 hk33 => ?_)
      · refine (qBlockX (qThen ?_))
        obtain ⟨hg12, hr⟩ := of_guard hr
        refine HT.rg2 [oH, oH, oH, ⟨none, .ty tI⟩, oH] ⟨[(1, nV a1), (7, aV 0), (8, aV 1), (16, iV r10), (19, aV 2)], [(2, .seq tI (List.replicate (Int.toNat (wadd .i64 (lenI a1) (1 : Int))) (0 : Int))), (0, .seq tF r7.1), (1, .seq tLI r7.2)], 3⟩ hX (by kernel_rfl) (allCons (show (0 : Int) ≤ (wadd .i64 (lenI a1) (1 : Int)) ∧ (wadd .i64 (lenI a1) (1 : Int)) ≤ (wadd .i64 (lenI a1) (1 : Int)) ∧ (wadd .i64 (lenI a1) (1 : Int)) ≤ 4294967296 from ⟨hg12.1, Int.le_refl _, hg12.2⟩) allNil) ?_
        obtain ⟨hg13, hr⟩ := of_guard hr
        refine HT.rg2 (oHs 6) ⟨[(1, nV a1), (7, aV 0), (8, aV 1), (16, iV r10), (19, aV 2)], [(2, .seq tI (List.set (List.replicate (Int.toNat (wadd .i64 (lenI a1) (1 : Int))) (0 : Int)) (Int.toNat (lenI a1)) r10)), (0, .seq tF r7.1), (1, .seq tLI r7.2)], 3⟩ hX (by kernel_rfl) (allCons hg13 (allCons (natLt hg13) allNil)) ?_
        obtain ⟨q14, hq15, hr⟩ := of_bind hr
        have hq15 := of_some2 hq15
        refine (Le.cv (s := ⟨[(2, 2), (0, 0), (1, 1)], [], [], false⟩) (own := []) (ps := [a1 = a1, r10 = r10, q14 = (List.set (List.replicate (Int.toNat (wadd .i64 (lenI a1) (1 : Int))) (0 : Int)) (Int.toNat (lenI a1)) r10), r7.1 = r7.1, r7.2 = r7.2]) (st' := ⟨[(1, nV a1), (7, aV 0), (8, aV 1), (16, iV r10), (19, aV 2)], [(2, .seq tI q14), (0, .seq tF r7.1), (1, .seq tLI r7.2)], 3⟩) hO (fun h => by cases h) (by kernel_rfl) ⟨rfl, rfl, hq15, rfl, rfl, trivial⟩).ht ?_
        refine HT.seq ?_
        refine HT.rg2 (oHs 4) ⟨[(7, aV 0), (8, aV 1), (16, iV r10), (19, aV 2), (20, iV (wsub .i64 (lenI a1) (1 : Int)))], [(2, .seq tI q14), (0, .seq tF r7.1), (1, .seq tLI r7.2)], 3⟩ hX (by kernel_rfl) allNil ?_
        refine HT.block ?_
        obtain ⟨r17, hL30, hr⟩ := of_bind hr
        refine HT.loopL (fun (s16 : Int × List Int) => ⟨[(7, aV 0), (8, aV 1), (16, iV r10), (19, aV 2), (20, iV s16.1)], [(0, .seq tF r7.1), (1, .seq tLI r7.2), (2, .seq tI s16.2)], 3⟩) (fun (r18 : List Int) => (.exit 8, ⟨[(7, aV 0), (16, iV r10), (19, aV 1)], [(0, .seq tF r7.1), (1, .seq tI r18)], 2⟩)) (Le.re [(0, 0), (1, 1), (2, 2)] [] hX (by kernel_rfl)) hL30 ?_ (fun s16 x22 hx23 hk24 => ?_)
        · refine (qBlockX (qThen ?_))
          obtain ⟨hg19, hr⟩ := of_guard hr
          obtain ⟨y20, hc21, hr⟩ := of_bind hr
          refine HT.dr2 11 [⟨oH, []⟩, ⟨oH, []⟩, ⟨oH, []⟩, ⟨oH, [1, 2]⟩, ⟨oH, [1, 2, 3]⟩, ⟨oH, []⟩, ⟨oH, []⟩, ⟨oH, [5, 6]⟩, ⟨oH, [5, 6, 7]⟩, ⟨⟨none, .call [.imm tF] [⟨false, .bool, y20⟩] []⟩, [5, 6, 7, 8]⟩, ⟨oH, [0, 5, 6, 7, 8, 9]⟩] [[0, 1, 2, 3, 4, 5, 6, 7, 8, 9, 10], [0, 1, 2, 3, 4, 5, 6, 7, 8, 9, 10, 11]] (oHs 2) ⟨[(4, aV 1), (5, fV (List.getD r7.1 (Int.toNat r10) (0 : Nat))), (6, bV y20)], [(1, .seq tI r17)], 2⟩ hX (by kernel_rfl) (by kernel_rfl) (allCons hg19 (allCons (natLt hg19) (allCons hg19 (allCons (natLt hg19) (allCons (f152_ok hc21) allNil))))) ?_
          have hr := of_some hr
          subst hr
          exact HT.ret ⟨[aV 1, fV (List.getD r7.1 (Int.toNat r10) (0 : Nat)), bV y20], [1], [], by kernel_rfl, by kernel_rfl, rfl, by kernel_rfl, by kernel_rfl, trivial⟩
        · refine HT.seq ?_
          refine HT.rg2 (oHs 2) ⟨[(7, aV 0), (8, aV 1), (16, iV r10), (19, aV 2), (20, iV s16.1), (119, bV (decide (s16.1 ≥ (0 : Int))))], [(0, .seq tF r7.1), (1, .seq tLI r7.2), (2, .seq tI s16.2)], 3⟩ hX (by kernel_rfl) allNil ?_
          rcases of_bif hx23 with ⟨hb25, hx23⟩ | ⟨hb25, hx23⟩
          · refine HT.cond1 rfl hb25 ?_
            refine HT.skip (qThen ?_)
            refine HT.seq ?_
            refine HT.block ?_
            obtain ⟨hg26, hx23⟩ := of_guard hx23
            obtain ⟨hg27, hx23⟩ := of_guard hx23
            obtain ⟨hg28, hx23⟩ := of_guard hx23
            obtain ⟨hg29, hx23⟩ := of_guard hx23
            refine HT.drL 13 [⟨oH, []⟩, ⟨oH, []⟩, ⟨oH, []⟩, ⟨oH, []⟩, ⟨oH, [2, 3]⟩, ⟨oH, [2, 3, 4]⟩, ⟨oH, []⟩, ⟨oH, []⟩, ⟨oH, [7]⟩, ⟨oH, [6, 7, 8]⟩, ⟨oH, [6, 7, 8, 9]⟩, ⟨oH, [2, 3, 4, 5, 6, 7, 8, 9, 10]⟩, ⟨oH, [2, 3, 4, 5, 6, 7, 8, 9, 10, 11]⟩] [[0, 1, 2, 3, 4, 5, 6, 7, 8, 9, 10, 11, 12], [0, 1, 2, 3, 4, 5, 6, 7, 8, 9, 10, 11, 12, 13]] (oHs 2) ⟨[(7, aV 0), (8, aV 1), (16, iV r10), (19, aV 2), (20, iV s16.1)], [(2, .seq tI (List.set s16.2 (Int.toNat s16.1) (List.getD (List.getD r7.2 (Int.toNat s16.1) ([] : List Int)) (Int.toNat (List.getD s16.2 (Int.toNat (wadd .i64 s16.1 (1 : Int))) (0 : Int))) (0 : Int)))), (0, .seq tF r7.1), (1, .seq tLI r7.2)], 3⟩ hX (by kernel_rfl) (by kernel_rfl) (allCons hg26 (allCons (natLt hg26) (allCons hg27 (allCons (natLt hg27) (allCons hg28 (allCons hg29 (allCons (natLt hg29) allNil))))))) (qBlock (qThen ?_))
            have hx23 := of_some hx23
            subst hx23
            exact HT.rgK (oHs 3) [(0, 0), (1, 1), (2, 2)] [] hX (by kernel_rfl) allNil (fun _ h => (qLoopN ⟨((wsub .i64 s16.1 (1 : Int)), (List.set s16.2 (Int.toNat s16.1) (List.getD (List.getD r7.2 (Int.toNat s16.1) ([] : List Int)) (Int.toNat (List.getD s16.2 (Int.toNat (wadd .i64 s16.1 (1 : Int))) (0 : Int))) (0 : Int)))), rfl, h⟩))
          · refine HT.cond0 rfl hb25 ?_
            have hx23 := of_some hx23
            subst hx23
            exact HT.exitL (Le.re [(0, 0), (2, 1)] [] hX (by kernel_rfl)) (qThenE (qLoopE (hk24 s16.2 rfl)))
      · refine HT.rg2 [oH] ⟨[(1, nV a1), (7, aV 0), (8, aV 1), (16, iV s9.1), (91, aV 0), (92, iV (lenI r7.1)), (93, iV s9.2), (94, bV (decide (s9.2 < (lenI r7.1))))], [(0, .seq tF r7.1), (1, .seq tLI r7.2)], 2⟩ hX (by kernel_rfl) allNil ?_
        refine HT.seq ?_
        rcases of_bif hx32 with ⟨hb34, hx32⟩ | ⟨hb34, hx32⟩
        · refine HT.cond1 rfl hb34 ?_
          refine HT.skip (qThen ?_)
          obtain ⟨v35', hT37, hx32⟩ := of_bind hx32
          refine HT.join (fun (v35 : Int) => ⟨[(1, nV a1), (7, aV 0), (8, aV 1), (16, iV v35), (91, aV 0), (92, iV (lenI r7.1)), (93, iV s9.2)], [(0, .seq tF r7.1), (1, .seq tLI r7.2)], 2⟩) (fun v => v = v35') (fun v35 hv36 => ?_) (fun cont => ?_)
          · subst hv36
            have hx32 := of_some hx32
            subst hx32
            exact HT.rgK (oHs 2) [(0, 0), (1, 1)] [] hX (by kernel_rfl) allNil (fun _ h => (qLoopN ⟨(v35, (wadd .i64 s9.2 (1 : Int))), rfl, h⟩))
          · refine HT.block ?_
            obtain ⟨hg38, hT37⟩ := of_guard hT37
            refine HT.rg2 (oHs 5) ⟨[(1, nV a1), (7, aV 0), (8, aV 1), (16, iV s9.1), (17, iV s9.2), (18, fV (List.getD r7.1 (Int.toNat s9.2) (0 : Nat))), (91, aV 0), (92, iV (lenI r7.1)), (93, iV s9.2)], [(0, .seq tF r7.1), (1, .seq tLI r7.2)], 2⟩ hX (by kernel_rfl) (allCons hg38 (allCons (natLt hg38) allNil)) ?_
            obtain ⟨hg39, hT37⟩ := of_guard hT37
            refine HT.rg2 (oHs 6) ⟨[(1, nV a1), (7, aV 0), (8, aV 1), (16, iV s9.1), (17, iV s9.2), (91, aV 0), (92, iV (lenI r7.1)), (93, iV s9.2), (103, bV (fgt .f32 (List.getD r7.1 (Int.toNat s9.2) (0 : Nat)) (List.getD r7.1 (Int.toNat s9.1) (0 : Nat))))], [(0, .seq tF r7.1), (1, .seq tLI r7.2)], 2⟩ hX (by kernel_rfl) (allCons hg39 (allCons (natLt hg39) allNil)) ?_
            rcases of_bif hT37 with ⟨hb40, hT37⟩ | ⟨hb40, hT37⟩
            · refine HT.cond1 rfl hb40 ?_
              exact HT.rgK (oHs 2) [(0, 0), (1, 1)] [] hX (by kernel_rfl) allNil (fun _ h => (qBlock (qThen (h.ht (cont s9.2 (of_some hT37))))))
            · refine HT.cond0 rfl hb40 ?_
              refine HT.skip (qBlock (qThen ?_))
              exact (Le.re [(0, 0), (1, 1)] [] hX (by kernel_rfl)).ht (cont s9.1 (of_some hT37))
        · refine HT.cond0 rfl hb34 ?_
          have hx32 := of_some hx32
          subst hx32
          exact HT.exitL (Le.re [(0, 0), (1, 1)] [] hX (by kernel_rfl)) (qThenE (qLoopE (hk33 s9.1 rfl)))
    · refine HT.rg2 [oH] ⟨[(1, nV a1), (2, pV 0 0), (7, aV 1), (8, aV 2), (29, nV a1), (30, iV (lenI a1)), (31, iV s6.1), (32, bV (decide (s6.1 < (lenI a1))))], [(0, .box [iC a0.1, iC a0.2.1, lC a0.2.2.1, lC a0.2.2.2.1, lC a0.2.2.2.2]), (1, .seq tF s6.2.1), (2, .seq tLI s6.2.2)], 3⟩ hX (by kernel_rfl) allNil ?_
      refine HT.seq ?_
      rcases of_bif hx43 with ⟨hb45, hx43⟩ | ⟨hb45, hx43⟩
      · refine HT.cond1 rfl hb45 ?_
        refine HT.skip (qThen ?_)
        refine HT.seq ?_
        refine HT.block ?_
        obtain ⟨hg46, hx43⟩ := of_guard hx43
        refine HT.rg2 (oHs 3) ⟨[(1, nV a1), (2, pV 0 0), (7, aV 1), (8, aV 2), (10, iV (List.getD a1 (Int.toNat s6.1) (0 : Int))), (29, nV a1), (30, iV (lenI a1)), (31, iV s6.1)], [(0, .box [iC a0.1, iC a0.2.1, lC a0.2.2.1, lC a0.2.2.2.1, lC a0.2.2.2.2]), (1, .seq tF s6.2.1), (2, .seq tLI s6.2.2)], 3⟩ hX (by kernel_rfl) (allCons hg46 allNil) ?_
        obtain ⟨hg47, hx43⟩ := of_guard hx43
        refine HT.dr2 7 [⟨oH, []⟩, ⟨oH, [0]⟩, ⟨⟨none, .ty tF⟩, [0, 1]⟩, ⟨oH, []⟩, ⟨oH, [3]⟩, ⟨⟨none, .ty tI⟩, [3, 4]⟩, ⟨oH, [0, 1, 2]⟩] [[0, 1, 2, 3, 4, 5, 6]] [oH] ⟨[(1, nV a1), (2, pV 0 0), (7, aV 1), (8, aV 2), (10, iV (List.getD a1 (Int.toNat s6.1) (0 : Int))), (11, aV 3), (12, aV 4), (29, nV a1), (30, iV (lenI a1)), (31, iV s6.1)], [(4, .seq tI (List.replicate (Int.toNat a0.1) (0 : Int))), (3, .seq tF (List.replicate (Int.toNat a0.1) (0 : Nat))), (0, .box [iC a0.1, iC a0.2.1, lC a0.2.2.1, lC a0.2.2.2.1, lC a0.2.2.2.2]), (1, .seq tF s6.2.1), (2, .seq tLI s6.2.2)], 5⟩ hX (by kernel_rfl) (by kernel_rfl) (allCons (show (0 : Int) ≤ a0.1 ∧ a0.1 ≤ a0.1 ∧ a0.1 ≤ 4294967296 from ⟨hg47.1, Int.le_refl _, hg47.2⟩) (allCons (show (0 : Int) ≤ a0.1 ∧ a0.1 ≤ a0.1 ∧ a0.1 ≤ 4294967296 from ⟨hg47.1, Int.le_refl _, hg47.2⟩) allNil)) ?_
        refine HT.seq ?_
        refine HT.rg2 (oHs 3) ⟨[(1, nV a1), (2, pV 0 0), (7, aV 1), (8, aV 2), (10, iV (List.getD a1 (Int.toNat s6.1) (0 : Int))), (11, aV 3), (12, aV 4), (29, nV a1), (30, iV (lenI a1)), (31, iV s6.1), (42, iV a0.1), (43, iV (0 : Int))], [(4, .seq tI (List.replicate (Int.toNat a0.1) (0 : Int))), (3, .seq tF (List.replicate (Int.toNat a0.1) (0 : Nat))), (0, .box [iC a0.1, iC a0.2.1, lC a0.2.2.1, lC a0.2.2.2.1, lC a0.2.2.2.2]), (1, .seq tF s6.2.1), (2, .seq tLI s6.2.2)], 5⟩ hX (by kernel_rfl) allNil ?_
        refine HT.block ?_
        obtain ⟨r49, hL80, hx43⟩ := of_bind hx43
        refine HT.loopL (fun (s48 : Int × List Nat × List Int) => ⟨[(1, nV a1), (2, pV 0 0), (7, aV 1), (8, aV 2), (10, iV (List.getD a1 (Int.toNat s6.1) (0 : Int))), (11, aV 3), (12, aV 4), (29, nV a1), (30, iV (lenI a1)), (31, iV s6.1), (42, iV a0.1), (43, iV s48.1)], [(0, .box [iC a0.1, iC a0.2.1, lC a0.2.2.1, lC a0.2.2.2.1, lC a0.2.2.2.2]), (1, .seq tF s6.2.1), (2, .seq tLI s6.2.2), (3, .seq tF s48.2.1), (4, .seq tI s48.2.2)], 5⟩) (fun (r50 : (List Nat × List Int)) => (.exit 2, ⟨[(1, nV a1), (2, pV 0 0), (8, aV 1), (11, aV 2), (12, aV 3), (29, nV a1), (30, iV (lenI a1)), (31, iV s6.1)], [(0, .box [iC a0.1, iC a0.2.1, lC a0.2.2.1, lC a0.2.2.2.1, lC a0.2.2.2.2]), (1, .seq tLI s6.2.2), (2, .seq tF r50.1), (3, .seq tI r50.2)], 4⟩)) (Le.re [(0, 0), (1, 1), (2, 2), (3, 3), (4, 4)] [] hX (by kernel_rfl)) hL80 ?_ (fun s48 x52 hx53 hk54 => ?_)
        · refine (qBlockX (qThen ?_))
          refine HT.rg2 (oHs 2) ⟨[(1, nV a1), (2, pV 0 0), (7, aV 2), (8, aV 1), (12, aV 3), (29, nV a1), (30, iV (lenI a1)), (31, iV s6.1)], [(0, .box [iC a0.1, iC a0.2.1, lC a0.2.2.1, lC a0.2.2.2.1, lC a0.2.2.2.2]), (1, .seq tLI s6.2.2), (2, .seq tF r49.1), (3, .seq tI r49.2)], 4⟩ hX (by kernel_rfl) allNil ?_
          refine (Le.rz [(0, 0), (1, 1), (2, 2)] [] (st' := ⟨[(1, nV a1), (2, pV 0 0), (7, aV 2), (8, aV 1), (12, nV r49.2), (29, nV a1), (30, iV (lenI a1)), (31, iV s6.1)], [(0, .box [iC a0.1, iC a0.2.1, lC a0.2.2.1, lC a0.2.2.2.1, lC a0.2.2.2.2]), (1, .seq tLI s6.2.2), (2, .seq tF r49.1)], 4⟩) hX hF (by kernel_rfl)).ht ?_
          obtain ⟨hg51, hx43⟩ := of_guard hx43
          refine HT.rgL [oH, oH, ⟨none, .ty tLI⟩, ⟨none, .ty tLI⟩, oH] ⟨[(1, nV a1), (2, pV 0 0), (7, aV 2), (8, aV 5), (29, nV a1), (30, iV (lenI a1)), (31, iV s6.1)], [(5, .seq tLI (s6.2.2 ++ ([r49.2] : List (List Int)))), (0, .box [iC a0.1, iC a0.2.1, lC a0.2.2.1, lC a0.2.2.2.1, lC a0.2.2.2.2]), (2, .seq tF r49.1)], 6⟩ hX (by kernel_rfl) (allCons hg51 allNil) (qBlock (qThen ?_))
          have hx43 := of_some hx43
          subst hx43
          exact HT.rgK (oHs 2) [(0, 0), (2, 1), (5, 2)] [] hX (by kernel_rfl) allNil (fun _ h => (qLoopN ⟨((wadd .i64 s6.1 (1 : Int)), r49.1, (s6.2.2 ++ ([r49.2] : List (List Int)))), rfl, h⟩))
        · refine HT.rg2 [oH] ⟨[(1, nV a1), (2, pV 0 0), (7, aV 1), (8, aV 2), (10, iV (List.getD a1 (Int.toNat s6.1) (0 : Int))), (11, aV 3), (12, aV 4), (29, nV a1), (30, iV (lenI a1)), (31, iV s6.1), (42, iV a0.1), (43, iV s48.1), (44, bV (decide (s48.1 < a0.1)))], [(0, .box [iC a0.1, iC a0.2.1, lC a0.2.2.1, lC a0.2.2.2.1, lC a0.2.2.2.2]), (1, .seq tF s6.2.1), (2, .seq tLI s6.2.2), (3, .seq tF s48.2.1), (4, .seq tI s48.2.2)], 5⟩ hX (by kernel_rfl) allNil ?_
          refine HT.seq ?_
          rcases of_bif hx53 with ⟨hb55, hx53⟩ | ⟨hb55, hx53⟩
          · refine HT.cond1 rfl hb55 ?_
            refine HT.skip (qThen ?_)
            refine HT.seq ?_
            refine HT.block ?_
            refine HT.rg2 (oHs 2) ⟨[(1, nV a1), (2, pV 0 0), (7, aV 1), (8, aV 2), (10, iV (List.getD a1 (Int.toNat s6.1) (0 : Int))), (11, aV 3), (12, aV 4), (13, iV s48.1), (29, nV a1), (30, iV (lenI a1)), (31, iV s6.1), (42, iV a0.1), (43, iV s48.1)], [(0, .box [iC a0.1, iC a0.2.1, lC a0.2.2.1, lC a0.2.2.2.1, lC a0.2.2.2.2]), (1, .seq tF s6.2.1), (2, .seq tLI s6.2.2), (3, .seq tF s48.2.1), (4, .seq tI s48.2.2)], 5⟩ hX (by kernel_rfl) allNil ?_
            refine HT.rg2 (oHs 3) ⟨[(1, nV a1), (2, pV 0 0), (7, aV 1), (8, aV 2), (10, iV (List.getD a1 (Int.toNat s6.1) (0 : Int))), (11, aV 3), (12, aV 4), (13, iV s48.1), (29, nV a1), (30, iV (lenI a1)), (31, iV s6.1), (42, iV a0.1), (43, iV s48.1), (47, iV a0.1), (48, iV (0 : Int))], [(0, .box [iC a0.1, iC a0.2.1, lC a0.2.2.1, lC a0.2.2.2.1, lC a0.2.2.2.2]), (1, .seq tF s6.2.1), (2, .seq tLI s6.2.2), (3, .seq tF s48.2.1), (4, .seq tI s48.2.2)], 5⟩ hX (by kernel_rfl) allNil ?_
            refine HT.block ?_
            obtain ⟨r57, hL79, hx53⟩ := of_bind hx53
            refine HT.loopL (fun (s56 : Int × List Nat × List Int) => ⟨[(1, nV a1), (2, pV 0 0), (7, aV 1), (8, aV 2), (10, iV (List.getD a1 (Int.toNat s6.1) (0 : Int))), (11, aV 3), (12, aV 4), (13, iV s48.1), (29, nV a1), (30, iV (lenI a1)), (31, iV s6.1), (42, iV a0.1), (43, iV s48.1), (47, iV a0.1), (48, iV s56.1)], [(0, .box [iC a0.1, iC a0.2.1, lC a0.2.2.1, lC a0.2.2.2.1, lC a0.2.2.2.2]), (1, .seq tF s6.2.1), (2, .seq tLI s6.2.2), (3, .seq tF s56.2.1), (4, .seq tI s56.2.2)], 5⟩) (fun (r58 : (List Nat × List Int)) => (.exit 4, ⟨[(1, nV a1), (2, pV 0 0), (7, aV 1), (8, aV 2), (10, iV (List.getD a1 (Int.toNat s6.1) (0 : Int))), (11, aV 3), (12, aV 4), (29, nV a1), (30, iV (lenI a1)), (31, iV s6.1), (42, iV a0.1), (43, iV s48.1)], [(0, .box [iC a0.1, iC a0.2.1, lC a0.2.2.1, lC a0.2.2.2.1, lC a0.2.2.2.2]), (1, .seq tF s6.2.1), (2, .seq tLI s6.2.2), (3, .seq tF r58.1), (4, .seq tI r58.2)], 5⟩)) (Le.re [(0, 0), (1, 1), (2, 2), (3, 3), (4, 4)] [] hX (by kernel_rfl)) hL79 ?_ (fun s56 x59 hx60 hk61 => ?_)
            · refine (qBlockX (qBlock (qThen ?_)))
              have hx53 := of_some hx53
              subst hx53
              exact HT.rgK (oHs 2) [(0, 0), (1, 1), (2, 2), (3, 3), (4, 4)] [] hX (by kernel_rfl) allNil (fun _ h => (qLoopN ⟨((wadd .i64 s48.1 (1 : Int)), r57.1, r57.2), rfl, h⟩))
            · refine HT.rg2 [oH] ⟨[(1, nV a1), (2, pV 0 0), (7, aV 1), (8, aV 2), (10, iV (List.getD a1 (Int.toNat s6.1) (0 : Int))), (11, aV 3), (12, aV 4), (13, iV s48.1), (29, nV a1), (30, iV (lenI a1)), (31, iV s6.1), (42, iV a0.1), (43, iV s48.1), (47, iV a0.1), (48, iV s56.1), (49, bV (decide (s56.1 < a0.1)))], [(0, .box [iC a0.1, iC a0.2.1, lC a0.2.2.1, lC a0.2.2.2.1, lC a0.2.2.2.2]), (1, .seq tF s6.2.1), (2, .seq tLI s6.2.2), (3, .seq tF s56.2.1), (4, .seq tI s56.2.2)], 5⟩ hX (by kernel_rfl) allNil ?_
              refine HT.seq ?_
              rcases of_bif hx60 with ⟨hb62, hx60⟩ | ⟨hb62, hx60⟩
              · refine HT.cond1 rfl hb62 ?_
                refine HT.skip (qThen ?_)
                obtain ⟨v63', hT65, hx60⟩ := of_bind hx60
                refine HT.join (fun (v63 : List Nat × List Int) => ⟨[(1, nV a1), (2, pV 0 0), (7, aV 1), (8, aV 2), (10, iV (List.getD a1 (Int.toNat s6.1) (0 : Int))), (11, aV 3), (12, aV 4), (13, iV s48.1), (29, nV a1), (30, iV (lenI a1)), (31, iV s6.1), (42, iV a0.1), (43, iV s48.1), (47, iV a0.1), (48, iV s56.1)], [(0, .box [iC a0.1, iC a0.2.1, lC a0.2.2.1, lC a0.2.2.2.1, lC a0.2.2.2.2]), (1, .seq tF s6.2.1), (2, .seq tLI s6.2.2), (3, .seq tF v63.1), (4, .seq tI v63.2)], 5⟩) (fun v => v = v63') (fun v63 hv64 => ?_) (fun cont => ?_)
                · subst hv64
                  have hx60 := of_some hx60
                  subst hx60
                  exact HT.rgK (oHs 2) [(0, 0), (1, 1), (2, 2), (3, 3), (4, 4)] [] hX (by kernel_rfl) allNil (fun _ h => (qLoopN ⟨((wadd .i64 s56.1 (1 : Int)), v63.1, v63.2), rfl, h⟩))
                · refine HT.block ?_
                  refine HT.rg2 (oHs 2) ⟨[(1, nV a1), (2, pV 0 0), (7, aV 1), (8, aV 2), (10, iV (List.getD a1 (Int.toNat s6.1) (0 : Int))), (11, aV 3), (12, aV 4), (13, iV s48.1), (14, iV s56.1), (29, nV a1), (30, iV (lenI a1)), (31, iV s6.1), (42, iV a0.1), (43, iV s48.1), (47, iV a0.1), (48, iV s56.1)], [(0, .box [iC a0.1, iC a0.2.1, lC a0.2.2.1, lC a0.2.2.2.1, lC a0.2.2.2.2]), (1, .seq tF s6.2.1), (2, .seq tLI s6.2.2), (3, .seq tF s56.2.1), (4, .seq tI s56.2.2)], 5⟩ hX (by kernel_rfl) allNil ?_
                  obtain ⟨hg66, hT65⟩ := of_guard hT65
                  obtain ⟨y67, hc68, hT65⟩ := of_bind hT65
                  obtain ⟨y69, hc70, hT65⟩ := of_bind hT65
                  refine HT.dr2 13 [⟨oH, []⟩, ⟨oH, []⟩, ⟨oH, [0, 1]⟩, ⟨oH, [0, 1, 2]⟩, ⟨oH, []⟩, ⟨oH, []⟩, ⟨oH, []⟩, ⟨⟨none, .call [.imm (.st (.pair tI (.pair tI (.pair tLF (.pair tLF tLF))))), .imm tI, .imm tI] [⟨false, tF, y67⟩] []⟩, [4, 5, 6]⟩, ⟨oH, [0, 1, 2, 3, 4, 5, 6, 7]⟩, ⟨oH, []⟩, ⟨oH, []⟩, ⟨oH, []⟩, ⟨⟨none, .call [.imm (.st (.pair tI (.pair tI (.pair tLF (.pair tLF tLF))))), .imm tI, .imm tI] [⟨false, tF, y69⟩] []⟩, [4, 5, 6, 7, 9, 10, 11]⟩] [[0, 1, 2, 3, 4, 5, 6, 7, 8, 9, 10, 11, 12], [0, 1, 2, 3, 4, 5, 6, 7, 8, 9, 10, 11, 12, 13]] (oHs 2) ⟨[(1, nV a1), (2, pV 0 0), (7, aV 1), (8, aV 2), (10, iV (List.getD a1 (Int.toNat s6.1) (0 : Int))), (11, aV 3), (12, aV 4), (13, iV s48.1), (14, iV s56.1), (15, fV (fop .mul .f32 (fop .mul .f32 (List.getD s6.2.1 (Int.toNat s56.1) (0 : Nat)) y67) y69)), (29, nV a1), (30, iV (lenI a1)), (31, iV s6.1), (42, iV a0.1), (43, iV s48.1), (47, iV a0.1), (48, iV s56.1)], [(0, .box [iC a0.1, iC a0.2.1, lC a0.2.2.1, lC a0.2.2.2.1, lC a0.2.2.2.2]), (1, .seq tF s6.2.1), (2, .seq tLI s6.2.2), (3, .seq tF s56.2.1), (4, .seq tI s56.2.2)], 5⟩ hX (by kernel_rfl) (by kernel_rfl) (allCons hg66 (allCons (natLt hg66) (allCons (f150_ok hc68) (allCons (f151_ok hc70) allNil)))) ?_
                  obtain ⟨v71', hT73, hT65⟩ := of_bind hT65
                  refine HT.join (fun (v71 : Bool) => ⟨[(1, nV a1), (2, pV 0 0), (7, aV 1), (8, aV 2), (10, iV (List.getD a1 (Int.toNat s6.1) (0 : Int))), (11, aV 3), (12, aV 4), (13, iV s48.1), (14, iV s56.1), (15, fV (fop .mul .f32 (fop .mul .f32 (List.getD s6.2.1 (Int.toNat s56.1) (0 : Nat)) y67) y69)), (29, nV a1), (30, iV (lenI a1)), (31, iV s6.1), (42, iV a0.1), (43, iV s48.1), (47, iV a0.1), (48, iV s56.1), (74, bV v71)], [(0, .box [iC a0.1, iC a0.2.1, lC a0.2.2.1, lC a0.2.2.2.1, lC a0.2.2.2.2]), (1, .seq tF s6.2.1), (2, .seq tLI s6.2.2), (3, .seq tF s56.2.1), (4, .seq tI s56.2.2)], 5⟩) (fun v => v = v71') (fun v71 hv72 => ?_) (fun cont => ?_)
                  · subst hv72
                    rcases of_bif hT65 with ⟨hb74, hT65⟩ | ⟨hb74, hT65⟩
                    · refine HT.cond1 rfl hb74 ?_
                      obtain ⟨hg75, hT65⟩ := of_guard hT65
                      obtain ⟨hg76, hT65⟩ := of_guard hT65
                      exact HT.rgK (oHs 10) [(0, 0), (1, 1), (2, 2), (3, 3), (4, 4)] [] hX (by kernel_rfl) (allCons hg75 (allCons (natLt hg75) (allCons hg76 (allCons (natLt hg76) allNil)))) (fun _ h => (qBlock (qThen (h.ht (cont ((List.set s56.2.1 (Int.toNat s48.1) (fop .mul .f32 (fop .mul .f32 (List.getD s6.2.1 (Int.toNat s56.1) (0 : Nat)) y67) y69)), (List.set s56.2.2 (Int.toNat s48.1) s56.1)) (of_some hT65))))))
                    · refine HT.cond0 rfl hb74 ?_
                      refine HT.skip (qBlock (qThen ?_))
                      exact (Le.re [(0, 0), (1, 1), (2, 2), (3, 3), (4, 4)] [] hX (by kernel_rfl)).ht (cont (s56.2.1, s56.2.2) (of_some hT65))
                  · rcases of_bif hT73 with ⟨hb77, hT73⟩ | ⟨hb77, hT73⟩
                    · exact HT.rgK [oH, oH, oH, ⟨some true, .no⟩, ⟨some true, .no⟩, ⟨some true, .no⟩, ⟨some true, .no⟩, ⟨some true, .no⟩, ⟨some true, .no⟩, ⟨none, .tv true⟩] [(0, 0), (1, 1), (2, 2), (3, 3), (4, 4)] [] hX (by kernel_rfl) (allCons hb77 (allCons hb77 (allCons hb77 (allCons hb77 (allCons hb77 (allCons hb77 (allCons hb77 allNil))))))) (fun _ h => (qThen (h.ht (cont true (of_some hT73)))))
                    · obtain ⟨hg78, hT73⟩ := of_guard hT73
                      exact HT.rgK [oH, oH, oH, ⟨some false, .no⟩, ⟨some false, .no⟩, ⟨some false, .no⟩, ⟨some false, .no⟩, ⟨some false, .no⟩, ⟨some false, .no⟩, ⟨none, .tv false⟩] [(0, 0), (1, 1), (2, 2), (3, 3), (4, 4)] [] hX (by kernel_rfl) (allCons hb77 (allCons hb77 (allCons hb77 (allCons hb77 (allCons hg78 (allCons hb77 (allCons (natLt hg78) (allCons hb77 (allCons hb77 allNil))))))))) (fun _ h => (qThen (h.ht (cont (fgt .f32 (fop .mul .f32 (fop .mul .f32 (List.getD s6.2.1 (Int.toNat s56.1) (0 : Nat)) y67) y69) (List.getD s56.2.1 (Int.toNat s48.1) (0 : Nat))) (of_some hT73)))))
              · refine HT.cond0 rfl hb62 ?_
                have hx60 := of_some hx60
                subst hx60
                exact HT.exitL (Le.re [(0, 0), (1, 1), (2, 2), (3, 3), (4, 4)] [] hX (by kernel_rfl)) (qThenE (qLoopE (hk61 (s56.2.1, s56.2.2) rfl)))
          · refine HT.cond0 rfl hb55 ?_
            have hx53 := of_some hx53
            subst hx53
            exact HT.exitL (Le.re [(0, 0), (2, 1), (3, 2), (4, 3)] [] hX (by kernel_rfl)) (qThenE (qLoopE (hk54 (s48.2.1, s48.2.2) rfl)))
      · refine HT.cond0 rfl hb45 ?_
        have hx43 := of_some hx43
        subst hx43
        exact HT.exitL (Le.re [(1, 0), (2, 1)] [] hX (by kernel_rfl)) (qThenE (qLoopE (hk44 (s6.2.1, s6.2.2) rfl)))

noncomputable def impl_finite (a0 : Nat) : Option (Nat × Bool) :=
  (impl_IsFinite a0).bind fun y1 =>
  bif (!y1) then
    some ((0 : Nat), false)
  else
    some (a0, true)

theorem f154_ok {a0 : Nat} {r : Nat × Bool} (hr : impl_finite a0 = some r) : CallOK Try.prog 154 [.imm tF a0] [⟨false, tF, r.1⟩, ⟨false, .bool, r.2⟩] [] := by
  unfold impl_finite at hr
  refine CallOK.of_body (ts := [(false, tF), (false, .bool)]) Try.func154 rfl (by kernel_rfl) (Nat.le_of_ble_eq_true (by kernel_rfl)) fun cx hP hN hO hF => ?_
  have hO : cx.own.map Prod.fst = [] := hO
  have hX := CxIs.mk hP hN hO
  have hF := hF rfl
  show HT cx ⟨[(0, fV a0)], [], 0⟩ _ _
  refine HT.rg2 (oHs 2) ⟨[(0, fV a0)], [], 0⟩ hX (by kernel_rfl) allNil ?_
  refine HT.seq ?_
  obtain ⟨y1, hc2, hr⟩ := of_bind hr
  refine HT.rg2 [oH, ⟨none, .call [.imm tF] [⟨false, .bool, y1⟩] []⟩, oH] ⟨[(0, fV a0), (6, bV (!y1))], [], 0⟩ hX (by kernel_rfl) (allCons (f152_ok hc2) allNil) ?_
  rcases of_bif hr with ⟨hb3, hr⟩ | ⟨hb3, hr⟩
  · refine HT.cond1 rfl hb3 ?_
    refine HT.rg2 (oHs 2) ⟨[(2, fV (0 : Nat)), (3, bV false)], [], 0⟩ hX (by kernel_rfl) allNil ?_
    have hr := of_some hr
    subst hr
    exact HT.ret (qThenR ⟨[fV (0 : Nat), bV false], [], [], by kernel_rfl, by kernel_rfl, rfl, by kernel_rfl, by kernel_rfl, trivial⟩)
  · refine HT.cond0 rfl hb3 ?_
    refine HT.skip (qThen ?_)
    refine HT.rg2 (oHs 3) ⟨[(2, fV a0), (3, bV true)], [], 0⟩ hX (by kernel_rfl) allNil ?_
    have hr := of_some hr
    subst hr
    exact HT.ret ⟨[fV a0, bV true], [], [], by kernel_rfl, by kernel_rfl, rfl, by kernel_rfl, by kernel_rfl, trivial⟩

noncomputable def impl_Model_areHidden (a0 : Int × Int × List Nat × List Nat × List Nat) (a1 : List Int) (a2 : List Int) : Option (Bool) :=
  (show Option (Bool) from
    bif ((lenI a2) == (wadd .i64 (lenI a1) (1 : Int))) then
      (impl_areWithin a2 (0 : Int) (wsub .i64 a0.1 (1 : Int))).bind fun y5 =>
      some y5
    else
      some false).bind fun v1 =>
  some v1

theorem f153_ok {a0 : Int × Int × List Nat × List Nat × List Nat} {a1 : List Int} {a2 : List Int} {r : Bool} (hr : impl_Model_areHidden a0 a1 a2 = some r) : CallOK Try.prog 153 [.imm (.st (.pair tI (.pair tI (.pair tLF (.pair tLF tLF))))) a0, .imm tLI a1, .imm tLI a2] [⟨false, .bool, r⟩] [] := by
  unfold impl_Model_areHidden at hr
  refine CallOK.of_body (ts := [(false, .bool)]) Try.func153 rfl (by kernel_rfl) (Nat.le_of_ble_eq_true (by kernel_rfl)) fun cx hP hN hO hF => ?_
  have hO : cx.own.map Prod.fst = [] := hO
  have hX := CxIs.mk hP hN hO
  have hF := hF rfl
  show HT cx ⟨[(0, .agg [iC a0.1, iC a0.2.1, lC a0.2.2.1, lC a0.2.2.2.1, lC a0.2.2.2.2]), (1, nV a1), (2, nV a2)], [], 0⟩ _ _
  refine HT.rg2 (oHs 2) ⟨[(1, nV a1), (2, nV a2), (3, pV 0 0)], [(0, .box [iC a0.1, iC a0.2.1, lC a0.2.2.1, lC a0.2.2.2.1, lC a0.2.2.2.2])], 1⟩ hX (by kernel_rfl) allNil ?_
  obtain ⟨v1', hT3, hr⟩ := of_bind hr
  refine HT.join (fun (v1 : Bool) => ⟨[(6, bV v1)], [], 0⟩) (fun v => v = v1') (fun v1 hv2 => ?_) (fun cont => ?_)
  · subst hv2
    have hr := of_some hr
    subst hr
    exact HT.ret ⟨[bV v1], [], [], by kernel_rfl, by kernel_rfl, rfl, by kernel_rfl, by kernel_rfl, trivial⟩
  · rcases of_bif hT3 with ⟨hb4, hT3⟩ | ⟨hb4, hT3⟩
    · obtain ⟨y5, hc6, hT3⟩ := of_bind hT3
      exact HT.rgK [oH, oH, oH, oH, oH, oH, oH, ⟨some true, .no⟩, ⟨some true, .no⟩, ⟨some true, .no⟩, ⟨some true, .no⟩, ⟨some true, .call [.imm tLI, .imm tI, .imm tI] [⟨false, .bool, y5⟩] []⟩, ⟨none, .tv true⟩, oH] [] [] hX (by kernel_rfl) (allCons hb4 (allCons hb4 (allCons hb4 (allCons hb4 (allCons hb4 (allCons (f113_ok hc6) (allCons hb4 allNil))))))) (fun _ h => (qThen (h.ht (cont y5 (of_some hT3)))))
    · exact HT.rgK [oH, oH, oH, oH, oH, oH, oH, ⟨some false, .no⟩, ⟨some false, .no⟩, ⟨some false, .no⟩, ⟨some false, .no⟩, ⟨some false, .no⟩, ⟨none, .tv false⟩, oH] [] [] hX (by kernel_rfl) (allCons hb4 (allCons hb4 (allCons hb4 (allCons hb4 (allCons hb4 (allCons hb4 allNil)))))) (fun _ h => (qThen (h.ht (cont false (of_some hT3)))))

noncomputable def impl_HiddenChance_B1 (a0 : Int × Int × List Nat × List Nat × List Nat) (a1 : List Int) (a2 : List Int) (s7 : Nat × Int) : Option ((Nat × Int) ⊕ (Nat)) :=
  bif (decide (s7.2 < (lenI a1))) then
    guardP ((0 : Int) ≤ s7.2 ∧ s7.2 < lenI a1) (
      guardP ((0 : Int) ≤ s7.2 ∧ s7.2 < lenI a2) (
        (impl_Model_show (a0.1, a0.2.1, a0.2.2.1, a0.2.2.2.1, a0.2.2.2.2) (List.getD a2 (Int.toNat s7.2) (0 : Int)) (List.getD a1 (Int.toNat s7.2) (0 : Int))).bind fun y18 =>
        guardP ((0 : Int) ≤ (wadd .i64 s7.2 (1 : Int)) ∧ (wadd .i64 s7.2 (1 : Int)) < lenI a2) (
          (impl_Model_step (a0.1, a0.2.1, a0.2.2.1, a0.2.2.2.1, a0.2.2.2.2) (List.getD a2 (Int.toNat s7.2) (0 : Int)) (List.getD a2 (Int.toNat (wadd .i64 s7.2 (1 : Int))) (0 : Int))).bind fun y21 =>
          some (.inl ((fop .mul .f32 (fop .mul .f32 s7.1 y18) y21), (wadd .i64 s7.2 (1 : Int)))))))
  else
    some (.inr s7.1)

noncomputable def impl_HiddenChance (a0 : Int × Int × List Nat × List Nat × List Nat) (a1 : List Int) (a2 : List Int) : Option (Nat × Bool) :=
  (show Option (Bool) from
    (impl_Model_has (a0.1, a0.2.1, a0.2.2.1, a0.2.2.2.1, a0.2.2.2.2) a1).bind fun y24 =>
    bif (!y24) then
      some true
    else
      (impl_Model_areHidden (a0.1, a0.2.1, a0.2.2.1, a0.2.2.2.1, a0.2.2.2.2) a1 a2).bind fun y27 =>
      some (!y27)).bind fun v1 =>
  bif v1 then
    some ((0 : Nat), false)
  else
    guardP ((0 : Int) ≤ (0 : Int) ∧ (0 : Int) < lenI a2) (
      guardP ((0 : Int) ≤ (List.getD a2 (Int.toNat (0 : Int)) (0 : Int)) ∧ (List.getD a2 (Int.toNat (0 : Int)) (0 : Int)) < lenI a0.2.2.1) (
        (rounds (impl_HiddenChance_B1 a0 a1 a2) ((List.getD a0.2.2.1 (Int.toNat (List.getD a2 (Int.toNat (0 : Int)) (0 : Int))) (0 : Nat)), (0 : Int))).bind fun r9 =>
        (impl_finite r9).bind fun y10 =>
        some (y10.1, y10.2)))

theorem f65_ok {a0 : Int × Int × List Nat × List Nat × List Nat} {a1 : List Int} {a2 : List Int} {r : Nat × Bool} (hr : impl_HiddenChance a0 a1 a2 = some r) : CallOK Try.prog 65 [.imm (.st (.pair tI (.pair tI (.pair tLF (.pair tLF tLF))))) a0, .imm tLI a1, .imm tLI a2] [⟨false, tF, r.1⟩, ⟨false, .bool, r.2⟩] [] := by
  unfold impl_HiddenChance at hr
  refine CallOK.of_body (ts := [(false, tF), (false, .bool)]) Try.func65 rfl (by kernel_rfl) (Nat.le_of_ble_eq_true (by kernel_rfl)) fun cx hP hN hO hF => ?_
  have hO : cx.own.map Prod.fst = [] := hO
  have hX := CxIs.mk hP hN hO
  have hF := hF rfl
  show HT cx ⟨[(0, .agg [iC a0.1, iC a0.2.1, lC a0.2.2.1, lC a0.2.2.2.1, lC a0.2.2.2.2]), (1, nV a1), (2, nV a2)], [], 0⟩ _ _
  refine HT.rg2 (oHs 3) ⟨[(1, nV a1), (2, nV a2), (3, pV 0 0)], [(0, .box [iC a0.1, iC a0.2.1, lC a0.2.2.1, lC a0.2.2.2.1, lC a0.2.2.2.2])], 1⟩ hX (by kernel_rfl) allNil ?_
  refine HT.seq ?_
  obtain ⟨v1', hT3, hr⟩ := of_bind hr
  refine HT.join (fun (v1 : Bool) => ⟨[(1, nV a1), (2, nV a2), (3, pV 0 0), (21, bV v1)], [(0, .box [iC a0.1, iC a0.2.1, lC a0.2.2.1, lC a0.2.2.2.1, lC a0.2.2.2.2])], 1⟩) (fun v => v = v1') (fun v1 hv2 => ?_) (fun cont => ?_)
  · subst hv2
    rcases of_bif hr with ⟨hb4, hr⟩ | ⟨hb4, hr⟩
    · refine HT.cond1 rfl hb4 ?_
      refine HT.rg2 (oHs 2) ⟨[(6, fV (0 : Nat)), (7, bV false)], [], 1⟩ hX (by kernel_rfl) allNil ?_
      have hr := of_some hr
      subst hr
      exact HT.ret (qThenR ⟨[fV (0 : Nat), bV false], [], [], by kernel_rfl, by kernel_rfl, rfl, by kernel_rfl, by kernel_rfl, trivial⟩)
    · refine HT.cond0 rfl hb4 ?_
      refine HT.skip (qThen ?_)
      obtain ⟨hg5, hr⟩ := of_guard hr
      obtain ⟨hg6, hr⟩ := of_guard hr
      refine HT.dr2 5 [⟨oH, []⟩, ⟨oH, [0]⟩, ⟨oH, []⟩, ⟨oH, [2]⟩, ⟨oH, [2, 3]⟩] [[0, 1, 2, 3, 4], [0, 1, 2, 3, 4, 5], [0, 1, 2, 3, 4, 5, 6]] (oHs 3) ⟨[(1, nV a1), (2, nV a2), (3, pV 0 0), (8, fV (List.getD a0.2.2.1 (Int.toNat (List.getD a2 (Int.toNat (0 : Int)) (0 : Int))) (0 : Nat)))], [(0, .box [iC a0.1, iC a0.2.1, lC a0.2.2.1, lC a0.2.2.2.1, lC a0.2.2.2.2])], 1⟩ hX (by kernel_rfl) (by kernel_rfl) (allCons hg5 (allCons hg6 allNil)) ?_
      refine HT.seq ?_
      refine HT.rg2 (oHs 3) ⟨[(2, nV a2), (3, pV 0 0), (8, fV (List.getD a0.2.2.1 (Int.toNat (List.getD a2 (Int.toNat (0 : Int)) (0 : Int))) (0 : Nat))), (29, nV a1), (30, iV (lenI a1)), (31, iV (0 : Int))], [(0, .box [iC a0.1, iC a0.2.1, lC a0.2.2.1, lC a0.2.2.2.1, lC a0.2.2.2.2])], 1⟩ hX (by kernel_rfl) allNil ?_
      refine HT.block ?_
      obtain ⟨r8, hL23, hr⟩ := of_bind hr
      refine HT.loopL (fun (s7 : Nat × Int) => ⟨[(2, nV a2), (3, pV 0 0), (8, fV s7.1), (29, nV a1), (30, iV (lenI a1)), (31, iV s7.2)], [(0, .box [iC a0.1, iC a0.2.1, lC a0.2.2.1, lC a0.2.2.2.1, lC a0.2.2.2.2])], 1⟩) (fun (r9 : Nat) => (.exit 0, ⟨[(8, fV r9)], [], 0⟩)) (Le.re [(0, 0)] [] hX (by kernel_rfl)) hL23 ?_ (fun s7 x12 hx13 hk14 => ?_)
      · refine (qBlockX (qThen ?_))
        obtain ⟨y10, hc11, hr⟩ := of_bind hr
        refine HT.rg2 [oH, ⟨none, .call [.imm tF] [⟨false, tF, y10.1⟩, ⟨false, .bool, y10.2⟩] []⟩, oH, oH, oH, oH] ⟨[(6, fV y10.1), (7, bV y10.2)], [], 0⟩ hX (by kernel_rfl) (allCons (f154_ok hc11) allNil) ?_
        have hr := of_some hr
        subst hr
        exact HT.ret ⟨[fV y10.1, bV y10.2], [], [], by kernel_rfl, by kernel_rfl, rfl, by kernel_rfl, by kernel_rfl, trivial⟩
      · refine HT.rg2 [oH] ⟨[(2, nV a2), (3, pV 0 0), (8, fV s7.1), (29, nV a1), (30, iV (lenI a1)), (31, iV s7.2), (32, bV (decide (s7.2 < (lenI a1))))], [(0, .box [iC a0.1, iC a0.2.1, lC a0.2.2.1, lC a0.2.2.2.1, lC a0.2.2.2.2])], 1⟩ hX (by kernel_rfl) allNil ?_
        refine HT.seq ?_
        rcases of_bif hx13 with ⟨hb15, hx13⟩ | ⟨hb15, hx13⟩
        · refine HT.cond1 rfl hb15 ?_
          refine HT.skip (qThen ?_)
          refine HT.seq ?_
          refine HT.block ?_
          obtain ⟨hg16, hx13⟩ := of_guard hx13
          refine HT.rg2 (oHs 5) ⟨[(2, nV a2), (3, pV 0 0), (8, fV s7.1), (9, iV s7.2), (10, iV (List.getD a1 (Int.toNat s7.2) (0 : Int))), (29, nV a1), (30, iV (lenI a1)), (31, iV s7.2)], [(0, .box [iC a0.1, iC a0.2.1, lC a0.2.2.1, lC a0.2.2.2.1, lC a0.2.2.2.2])], 1⟩ hX (by kernel_rfl) (allCons hg16 allNil) ?_
          obtain ⟨hg17, hx13⟩ := of_guard hx13
          obtain ⟨y18, hc19, hx13⟩ := of_bind hx13
          refine HT.dr2 8 [⟨oH, []⟩, ⟨oH, []⟩, ⟨oH, []⟩, ⟨oH, []⟩, ⟨oH, [2, 3]⟩, ⟨oH, [2, 3, 4]⟩, ⟨oH, []⟩, ⟨⟨none, .call [.imm (.st (.pair tI (.pair tI (.pair tLF (.pair tLF tLF))))), .imm tI, .imm tI] [⟨false, tF, y18⟩] []⟩, [1, 2, 3, 4, 5, 6]⟩] [[0, 1, 2, 3, 4, 5, 6, 7], [0, 1, 2, 3, 4, 5, 6, 7, 8]] (oHs 2) ⟨[(2, nV a2), (3, pV 0 0), (8, fV (fop .mul .f32 s7.1 y18)), (9, iV s7.2), (29, nV a1), (30, iV (lenI a1)), (31, iV s7.2)], [(0, .box [iC a0.1, iC a0.2.1, lC a0.2.2.1, lC a0.2.2.2.1, lC a0.2.2.2.2])], 1⟩ hX (by kernel_rfl) (by kernel_rfl) (allCons hg17 (allCons (f150_ok hc19) allNil)) ?_
          obtain ⟨hg20, hx13⟩ := of_guard hx13
          obtain ⟨y21, hc22, hx13⟩ := of_bind hx13
          refine HT.drL 12 [⟨oH, []⟩, ⟨oH, []⟩, ⟨oH, []⟩, ⟨oH, []⟩, ⟨oH, [2, 3]⟩, ⟨oH, [2, 3, 4]⟩, ⟨oH, []⟩, ⟨oH, []⟩, ⟨oH, [7]⟩, ⟨oH, [6, 7, 8]⟩, ⟨oH, [6, 7, 8, 9]⟩, ⟨⟨none, .call [.imm (.st (.pair tI (.pair tI (.pair tLF (.pair tLF tLF))))), .imm tI, .imm tI] [⟨false, tF, y21⟩] []⟩, [1, 2, 3, 4, 5, 6, 7, 8, 9, 10]⟩] [[0, 1, 2, 3, 4, 5, 6, 7, 8, 9, 10, 11], [0, 1, 2, 3, 4, 5, 6, 7, 8, 9, 10, 11, 12]] (oHs 2) ⟨[(2, nV a2), (3, pV 0 0), (8, fV (fop .mul .f32 (fop .mul .f32 s7.1 y18) y21)), (29, nV a1), (30, iV (lenI a1)), (31, iV s7.2)], [(0, .box [iC a0.1, iC a0.2.1, lC a0.2.2.1, lC a0.2.2.2.1, lC a0.2.2.2.2])], 1⟩ hX (by kernel_rfl) (by kernel_rfl) (allCons hg17 (allCons hg20 (allCons (f151_ok hc22) allNil))) (qBlock (qThen ?_))
          have hx13 := of_some hx13
          subst hx13
          exact HT.rgK (oHs 2) [(0, 0)] [] hX (by kernel_rfl) allNil (fun _ h => (qLoopN ⟨((fop .mul .f32 (fop .mul .f32 s7.1 y18) y21), (wadd .i64 s7.2 (1 : Int))), rfl, h⟩))
        · refine HT.cond0 rfl hb15 ?_
          have hx13 := of_some hx13
          subst hx13
          exact HT.exitL (Le.re [] [] hX (by kernel_rfl)) (qThenE (qLoopE (hk14 s7.1 rfl)))
  · obtain ⟨y24, hc25, hT3⟩ := of_bind hT3
    rcases of_bif hT3 with ⟨hb26, hT3⟩ | ⟨hb26, hT3⟩
    · exact HT.rgK [oH, oH, ⟨none, .call [.imm (.st (.pair tI (.pair tI (.pair tLF (.pair tLF tLF))))), .imm tLI] [⟨false, .bool, y24⟩] []⟩, oH, oH, ⟨some true, .no⟩, ⟨some true, .no⟩, ⟨some true, .no⟩, ⟨some true, .no⟩, ⟨some true, .no⟩, ⟨none, .tv true⟩] [(0, 0)] [] hX (by kernel_rfl) (allCons (f144_ok hc25) (allCons hb26 (allCons hb26 (allCons hb26 (allCons hb26 (allCons hb26 (allCons hb26 allNil))))))) (fun _ h => (qThen (h.ht (cont true (of_some hT3)))))
    · obtain ⟨y27, hc28, hT3⟩ := of_bind hT3
      exact HT.rgK [oH, oH, ⟨none, .call [.imm (.st (.pair tI (.pair tI (.pair tLF (.pair tLF tLF))))), .imm tLI] [⟨false, .bool, y24⟩] []⟩, oH, oH, ⟨some false, .no⟩, ⟨some false, .no⟩, ⟨some false, .no⟩, ⟨some false, .call [.imm (.st (.pair tI (.pair tI (.pair tLF (.pair tLF tLF))))), .imm tLI, .imm tLI] [⟨false, .bool, y27⟩] []⟩, ⟨some false, .no⟩, ⟨none, .tv false⟩] [(0, 0)] [] hX (by kernel_rfl) (allCons (f144_ok hc25) (allCons hb26 (allCons hb26 (allCons hb26 (allCons hb26 (allCons (f153_ok hc28) (allCons hb26 (allCons hb26 allNil)))))))) (fun _ h => (qThen (h.ht (cont (!y27) (of_some hT3)))))

noncomputable def laws_b10Gap (a0 : Nat) (a1 : Nat) : Option (Nat) :=
  bif (flt .f64 a0 a1) then
    some (fop .sub .f64 a1 a0)
  else
    some (fop .sub .f64 a0 a1)

theorem f64_ok {a0 : Nat} {a1 : Nat} {r : Nat} (hr : laws_b10Gap a0 a1 = some r) : CallOK Try.prog 64 [.imm (.flt .f64) a0, .imm (.flt .f64) a1] [⟨false, (.flt .f64), r⟩] [] := by
  unfold laws_b10Gap at hr
  refine CallOK.of_body (ts := [(false, (.flt .f64))]) Try.func64 rfl (by kernel_rfl) (Nat.le_of_ble_eq_true (by kernel_rfl)) fun cx hP hN hO hF => ?_
  have hO : cx.own.map Prod.fst = [] := hO
  have hX := CxIs.mk hP hN hO
  have hF := hF rfl
  show HT cx ⟨[(0, .one (.dat (.flt .f64) a0)), (1, .one (.dat (.flt .f64) a1))], [], 0⟩ _ _
  refine HT.rg2 [oH] ⟨[(0, .one (.dat (.flt .f64) a0)), (1, .one (.dat (.flt .f64) a1))], [], 0⟩ hX (by kernel_rfl) allNil ?_
  refine HT.seq ?_
  refine HT.rg2 (oHs 3) ⟨[(0, .one (.dat (.flt .f64) a0)), (1, .one (.dat (.flt .f64) a1)), (7, bV (flt .f64 a0 a1))], [], 0⟩ hX (by kernel_rfl) allNil ?_
  rcases of_bif hr with ⟨hb1, hr⟩ | ⟨hb1, hr⟩
  · refine HT.cond1 rfl hb1 ?_
    refine HT.rg2 (oHs 4) ⟨[(4, .one (.dat (.flt .f64) (fop .sub .f64 a1 a0)))], [], 0⟩ hX (by kernel_rfl) allNil ?_
    have hr := of_some hr
    subst hr
    exact HT.ret (qThenR ⟨[.one (.dat (.flt .f64) (fop .sub .f64 a1 a0))], [], [], by kernel_rfl, by kernel_rfl, rfl, by kernel_rfl, by kernel_rfl, trivial⟩)
  · refine HT.cond0 rfl hb1 ?_
    refine HT.skip (qThen ?_)
    refine HT.rg2 (oHs 4) ⟨[(4, .one (.dat (.flt .f64) (fop .sub .f64 a0 a1)))], [], 0⟩ hX (by kernel_rfl) allNil ?_
    have hr := of_some hr
    subst hr
    exact HT.ret ⟨[.one (.dat (.flt .f64) (fop .sub .f64 a0 a1))], [], [], by kernel_rfl, by kernel_rfl, rfl, by kernel_rfl, by kernel_rfl, trivial⟩

end Go.Proofs
